/-
  Texts that belong together,in one file: Av11,Av12,Av13,Av14,Av15,Av16,Av17,Av18,Av19,Av23,Av25,Av26,Av24,Av27.
-/
import Derived.Test.YtpboiimemmfkiaaGreatDoorRp7
import Derived.Orders
set_option linter.unusedSectionVars false
set_option linter.unusedSimpArgs false
set_option linter.unusedVariables false
namespace Go.Av
def loadKind:Operand→Nat
 | .global _=>0
 | _=>1
@[simp] theorem loadKind_2 (x:Operand):(loadKind x=2)=False:=by cases x<;>simp [loadKind]
@[simp] theorem loadKind_3 (x:Operand):(loadKind x=3)=False:=by cases x<;>simp [loadKind]
@[simp] theorem loadKind_8 (x:Operand):(loadKind x=8)=False:=by cases x<;>simp [loadKind]
@[simp] theorem loadKind_9 (x:Operand):(loadKind x=9)=False:=by cases x<;>simp [loadKind]
@[simp] theorem loadKind_01 (x:Operand):(loadKind x=0∨loadKind x=1)=True:=by cases x<;>simp [loadKind]
theorem loadKind_le (x:Operand):loadKind x≤1:=by cases x<;>simp [loadKind]
def kindOf:Op→Nat
 | .load _ x=>loadKind x
 | .indexAddr _ _ _=>1
 | .slice _ _ _ _ _=>1
 | .lookup _ _ _ _=>1
 | .call { callee:=.value _,.. }=>2
 | .call { callee:=.builtin .append,.. }=>9
 | .call { callee:=.builtin .copy,.. }=>9
 | .alloc _=>3
 | .box _ _=>3
 | .buildSlice _ _ _=>3
 | .makeSlice _ _ _=>3
 | .store _ _ _=>8
 | .mapUpdate _ _ _ _=>8
 | .insert _ _ _ _=>8
 | .makeMap _ _=>3
 | .select _ _=>9
 | _=>0
def mayPass (x y:Nat):Bool:=match x,y with
 | 0,9 | 9,_ | 1,8 | 1,9 | 2,8 | 2,9 | 3,1 | 3,2 | 3,8 | 3,9 | 8,1 | 8,2 | 8,3 | 8,8 | 8,9=>false
 | _,_=>true
def compat (ops:Array Oper) (x y:Oper):Bool:=x.apart ops y && mayPass (kindOf x.op) (kindOf y.op)
def bitsOf (acc:List Nat) (o:Oper):Nat:=o.after.toList.foldr (fun e s=>if Region.binds .any e then (2 ^ e.on ||| acc.getD e.on 0) ||| s else s) 0
def tbGo:List Oper→List Nat→List Nat
 | [],acc=>acc
 | o :: l,acc=>tbGo l (acc ++ [bitsOf acc o])
def tb (ops:Array Oper):List Nat:=tbGo ops.toList []
def okDraw (ops:Array Oper):Bool:=
 let t:=tb ops
 (List.range ops.size).all fun j=>match ops[j]? with
  | some oj=>(oj.after.all fun e=>!Region.binds .any e || e.on < j) && (List.range j).all fun i=>(t.getD j 0).testBit i || match ops[i]? with
    | some oi=>compat ops oi oj && compat ops oj oi
    | none=>true
  | none=>true
section
variable {P:Program} {T:Ty} {Mv X:Nat→Prop} {G:Glob} {N:Fr}
def callTo (P:Program) (G:Glob) (σ:St) (c:Call) (y:D):Prop:=∃ g xs,tgt G σ.env c=some (g,xs)∧
 ((∃ ds,xs=ds.map .d∧PureC P G g ds y)∨(∃ ds,asDs (asD σ.H 4) xs=some ds∧y.scalar=true∧PureC P G g ds y))
def exTo (P:Program) (T:Ty) (Mv:Nat→Prop) (G:Glob) (o:Oper) (σ σ':St):Prop:=match isCall o.op with
 | some c=>∃ y,callTo P G σ c y∧σ'=⟨putd σ.env o.dst (.d y),σ.H⟩
 | none=>if isWr o.op then ∃ c x σ1,wr T G Mv σ o=some (c,x,σ1)∧c∧σ'=⟨putd σ1.env o.dst x,σ1.H⟩
  else ∃ c x,rd T G σ o.op=some (c,x)∧c∧σ'=⟨putd σ.env o.dst x,σ.H⟩
def stepTo (P:Program) (T:Ty) (Mv:Nat→Prop) (G:Glob) (N:Fr) (ops:Array Oper) (o:Oper) (σ σ':St):Prop:=
 okDst N o∧((wantedS ops σ.env o=some true∧exTo P T Mv G o σ σ')∨(wantedS ops σ.env o=some false∧σ'=⟨putd σ.env o.dst und,σ.H⟩))
theorem stepTo_ok (hg:Good P T) {ops:Array Oper} {o:Oper} {σ σ':St} (h:stepTo P T Mv G N ops o σ σ') {w:World} {μ:Mu} {a:Act} (hi:In w X G μ N a σ) {i:Nat} (ho:ops[i]? = some o) {Q:Exit→Act→World→Prop} {K:Act→World→Prop}
  (hk:∀ w' μ' a',In w' X G μ' N a' σ'→Ev Mv w μ w' μ'→K a' w'):wpOpIn (wd N.ro) 0 P ops Q i K a w:=by
 obtain ⟨hd,h⟩:=h
 have hd':∀ d,o.dst=some d→d < N.n:=fun d e=>by unfold okDst at hd;rw [e] at hd;exact hd
 unfold wpOpIn;simp only [ho]
 rcases h with ⟨hw,h⟩ | ⟨hw,rfl⟩
 ·rw [wantedS_ok hi hw,if_pos rfl];refine (ex1_ok (Mv:=Mv) (K:=fun σ1=>σ1=σ') hg hi hd' ?_ fun w' μ' a' σ1 e hin hev=>hk w' μ' a' (e ▸ hin) hev);unfold exTo at h;unfold ex1
  split at h
  ·rename_i c hc
   obtain ⟨y,⟨g,xs,ht,hcall⟩,rfl⟩:=h
   simp only [hc,ht]
   rcases hcall with ⟨ds,rfl,hp⟩ | ⟨ds,hds,hs,hp⟩
   ·exact callS.pure hp rfl
   ·exact callS.lend hds hp hs rfl
  ·rename_i hc
   simp only [hc,plainS]
   split at h
   ·rename_i hwr
    rw [if_pos hwr]
    obtain ⟨c,x,σ1,hw1,hcc,rfl⟩:=h
    simp only [hw1];exact ⟨hcc,trivial⟩
   ·rename_i hwr
    rw [if_neg hwr]
    obtain ⟨c,x,hr,hcc,rfl⟩:=h
    simp only [hr];exact ⟨hcc,trivial⟩
 ·rw [wantedS_ok hi hw,if_neg (by simp)];exact ⟨fun _ _=>trivial,hk w μ _ (hi.put (.d (.v _)) hd') (.refl _ w μ)⟩
theorem putd_get {e:Env} {dst:Option Tmp} {x:AV} {t:Nat} (h:dst≠some t):putd e dst x t=e t:=by
 cases dst with
 | none=>rfl
 | some d=>have:t≠d:=fun e=>h (by rw [e]);simp [putd,upd,this]
theorem putd_comm {e:Env} {d d':Option Tmp} {x y:AV} (h:∀ t,d=some t→d'≠some t):putd (putd e d x) d' y=putd (putd e d' y) d x:=by
 cases d with
 | none=>rfl
 | some t=>
  cases d' with
  | none=>rfl
  | some t'=>
   have hne:t≠t':=fun e=>h t rfl (by rw [e])
   funext i
   by_cases h1:i=t<;>by_cases h2:i=t'<;>simp [putd,upd,h1,h2,hne,Ne.symm hne]
   all_goals (subst h1;simp [hne])
def Agree (o:Op) (e e':Env):Prop:=∀ t,Operand.tmp t∈o.operands→e t=e' t
theorem aeval_congr {e e':Env} {x:Operand} (h:∀ t,x = .tmp t→e t=e' t):aeval G e x=aeval G e' x:=by
 cases x with
 | tmp t=>exact h t rfl
 | _=>rfl
theorem evalL_congr {e e':Env}:∀ {l:List Operand},(∀ t,Operand.tmp t∈l→e t=e' t)→evalL G e l=evalL G e' l
 | [],_=>rfl
 | x :: l,h=>by
  simp only [evalL];rw [aeval_congr (x:=x) fun t ht=>h t (by simp [ht]),evalL_congr (l:=l) fun t ht=>h t (by simp [ht])]
theorem evalP_congr {e e':Env}:∀ {l:List (Nat×Operand)},(∀ t,Operand.tmp t∈l.map (·.2)→e t=e' t)→evalP G e l=evalP G e' l
 | [],_=>rfl
 | (i,x) :: l,h=>by
  simp only [evalP];rw [aeval_congr (x:=x) fun t ht=>h t (by simp [ht]),evalP_congr (l:=l) fun t ht=>h t (by simp at ht ⊢;exact .inr ht)]
theorem bound_congr {e e':Env} {o:Option Operand} (h:∀ t,o=some (.tmp t)→e t=e' t):bound G e o=bound G e' o:=by
 cases o with
 | none=>rfl
 | some x=>simp only [bound];rw [aeval_congr (x:=x) fun t ht=>h t (by rw [ht])]
theorem rd_congr {o:Op} {e e':Env} {H:Heap} (h:Agree o e e'):rd T G ⟨e,H⟩ o=rd T G ⟨e',H⟩ o:=by
 unfold Agree at h
 cases o
 case makeFunc f first caps=>
  simp only [rd];rw [evalL_congr (l:=caps.toList) fun t ht=>h t (by simp [Op.operands];right;simpa using ht)]
  split
  ·rfl
  ·split
   ·rename_i x hf1 hc1
    rw [aeval_congr (x:=x) fun t ht=>h t (by
     have hm:x∈first:=by
      have:x∈first.toList:=by rw [hf1];simp
      simpa using this
     simp only [Op.operands];rw [← ht]
     simp [hm])]
   ·rfl
 case typeAssert y xT t b=>
  simp only [rd];rw [aeval_congr (x:=y) fun t ht=>h t (by simp [Op.operands,ht])]
 case build t parts=>
  simp only [rd];rw [evalP_congr (l:=parts.toList) fun t ht=>h t (by simpa [Op.operands] using ht)]
 case slice t x lo hi mx=>
  simp only [rd];rw [aeval_congr (x:=x) fun t ht=>h t (by simp [Op.operands,ht]),bound_congr (o:=lo) fun t ht=>h t (by simp [Op.operands,ht]),bound_congr (o:=hi) fun t ht=>h t (by simp [Op.operands,ht])]
 case call c=>
  obtain ⟨callee,args,argTypes⟩:=c
  cases callee with
  | builtin b=>
   have two:∀ {x y:Operand},args.toList=[x,y]→aeval G e x=aeval G e' x∧aeval G e y=aeval G e' y:=fun {x y} ha=>
    ⟨aeval_congr (x:=x) fun t ht=>h t (by simp [Op.operands,Call.operands];rw [← Array.mem_toList_iff,ha];simp [ht]),
     aeval_congr (x:=y) fun t ht=>h t (by simp [Op.operands,Call.operands];rw [← Array.mem_toList_iff,ha];simp [ht])⟩
   cases b<;>try rfl
   case len=>
    simp only [rd]
    split
    ·rename_i x t ha ht
     rw [aeval_congr (x:=x) fun t ht=>h t (by simp [Op.operands,Call.operands];rw [← Array.mem_toList_iff,ha];simp [ht])]
    ·rfl
   case max=>
    simp only [rd]
    split
    ·rename_i x y ha
     rw [(two ha).1,(two ha).2]
    ·rfl
   case min=>
    simp only [rd]
    split
    ·rename_i x y ha
     rw [(two ha).1,(two ha).2]
    ·rfl
  | _=>rfl
 all_goals
  simp only [Op.operands,List.mem_toArray,List.mem_cons,List.not_mem_nil,or_false] at h
 all_goals
  first
   | rfl
   | (rename_i x;simp only [rd];rw [aeval_congr (x:=x) fun t ht=>h t (by simp [ht])];done)
   | (rename_i x _;simp only [rd];rw [aeval_congr (x:=x) fun t ht=>h t (by simp [ht])];done)
   | (rename_i x y;simp only [rd];rw [aeval_congr (x:=x) fun t ht=>h t (by simp [ht]),aeval_congr (x:=y) fun t ht=>h t (by simp [ht])];done)
   | (rename_i x y _;simp only [rd];rw [aeval_congr (x:=x) fun t ht=>h t (by simp [ht]),aeval_congr (x:=y) fun t ht=>h t (by simp [ht])];done)
   | (rename_i x y z;simp only [rd];rw [aeval_congr (x:=x) fun t ht=>h t (by simp [ht]),aeval_congr (x:=y) fun t ht=>h t (by simp [ht]),aeval_congr (x:=z) fun t ht=>h t (by simp [ht])];done)
def Ex (P:Program) (T:Ty) (Mv:Nat→Prop) (G:Glob) (o:Oper) (e:Env) (H:Heap) (x:AV) (H':Heap):Prop:=match isCall o.op with
 | some c=>∃ y,callTo P G ⟨e,H⟩ c y∧x = .d y∧H'=H
 | none=>if isWr o.op then ∃ c,wr T G Mv ⟨e,H⟩ o=some (c,x,⟨e,H'⟩)∧c
  else ∃ c,rd T G ⟨e,H⟩ o.op=some (c,x)∧c∧H'=H
theorem wr_env {o:Oper} (hk:kindOf o.op≠9) {σ σ1:St} {c:Prop} {x:AV} (h:wr T G Mv σ o=some (c,x,σ1)):σ1.env=σ.env:=by
 obtain ⟨dst,op,type,pos,after,guard⟩:=o
 dsimp only at hk
 unfold wr at h
 dsimp only at h
 repeat' split at h
 all_goals first
  | (exact absurd rfl hk)
  | (simp only [Option.some.injEq,Prod.mk.injEq] at h;obtain ⟨_,_,rfl⟩:=h;rfl)
  | cases h
theorem Ex.of {o:Oper} (hk:kindOf o.op≠9) {σ σ':St} (h:exTo P T Mv G o σ σ'):∃ x H',Ex P T Mv G o σ.env σ.H x H'∧σ'=⟨putd σ.env o.dst x,H'⟩:=by
 unfold exTo at h;unfold Ex
 split at h
 ·rename_i c hc
  obtain ⟨y,hcall,rfl⟩:=h
  (try simp only [hc]);exact ⟨_,_,⟨y,hcall,rfl,rfl⟩,rfl⟩
 ·rename_i hc
  try simp only [hc]
  split at h
  ·rename_i hw
   obtain ⟨c,x,σ1,h1,h2,rfl⟩:=h
   have he:=wr_env hk h1
   refine ⟨x,σ1.H,?_,by rw [he]⟩;rw [if_pos hw];refine ⟨c,?_,h2⟩
   obtain ⟨e,H⟩:=σ
   obtain ⟨e1,H1⟩:=σ1
   dsimp only at he
   subst he;exact h1
  ·rename_i hw
   obtain ⟨c,x,h1,h2,rfl⟩:=h
   refine ⟨x,σ.H,?_,rfl⟩;rw [if_neg hw];exact ⟨c,h1,h2,rfl⟩
theorem Ex.to {o:Oper} {e:Env} {H H':Heap} {x:AV} (h:Ex P T Mv G o e H x H'):exTo P T Mv G o ⟨e,H⟩ ⟨putd e o.dst x,H'⟩:=by
 unfold Ex at h;unfold exTo
 split at h
 ·rename_i c hc
  obtain ⟨y,hcall,rfl,rfl⟩:=h
  (try simp only [hc]);exact ⟨y,hcall,rfl⟩
 ·rename_i hc
  try simp only [hc]
  split at h
  ·rename_i hw
   obtain ⟨c,h1,h2⟩:=h
   rw [if_pos hw];exact ⟨c,x,_,h1,h2,rfl⟩
  ·rename_i hw
   obtain ⟨c,h1,h2,rfl⟩:=h
   rw [if_neg hw];exact ⟨c,x,h1,h2,rfl⟩
theorem isCall_op {o:Op} {c:Call} (h:isCall o=some c):o = .call c∧kindOf o=2:=by
 unfold isCall at h
 split at h
 ·obtain rfl:=Option.some.inj h;exact ⟨rfl,rfl⟩
 ·cases h
theorem tgt_congr {e e':Env} {c:Call} (h:∀ t,Operand.tmp t∈c.operands→e t=e' t):tgt G e c=tgt G e' c:=by
 unfold tgt
 split
 ·rename_i f hf
  rw [aeval_congr (x:=f) fun t ht=>h t (by simp [Call.operands,hf,ht]),evalL_congr (l:=c.args.toList) fun t ht=>h t (by simp [Call.operands,hf];right;simpa using ht)]
 ·rfl
theorem wr_congr {o:Oper} (hk:kindOf o.op≠9) {e e':Env} {H H':Heap} {c:Prop} {x:AV} (ha:Agree o.op e e') (h:wr T G Mv ⟨e,H⟩ o=some (c,x,⟨e,H'⟩)):wr T G Mv ⟨e',H⟩ o=some (c,x,⟨e',H'⟩):=by
 obtain ⟨dst,op,type,pos,after,guard⟩:=o
 dsimp only at hk ha
 unfold Agree at ha
 cases op
 case alloc t=>
  cases dst with
  | none=>cases h
  | some d=>
   simp only [wr] at h ⊢
   split at h
   ·rename_i ti ht
    simp only [Option.some.injEq,Prod.mk.injEq,St.mk.injEq,true_and] at h
    obtain ⟨rfl,rfl,rfl⟩:=h
    simp
   ·cases h
 case box t y=>
  cases dst with
  | none=>cases h
  | some d=>
   simp only [wr] at h ⊢;rw [← aeval_congr (e:=e) (x:=y) fun t ht=>ha t (by simp [Op.operands,ht])]
   split at h
   ·simp only [Option.some.injEq,Prod.mk.injEq,St.mk.injEq,true_and] at h
    obtain ⟨rfl,rfl,rfl⟩:=h
    rename_i hcs
    simp [hcs]
   ·cases h
 case store t y z=>
  cases dst with
  | some d=>cases h
  | none=>
   simp only [wr] at h ⊢;rw [← aeval_congr (e:=e) (x:=y) fun t ht=>ha t (by simp [Op.operands,ht]),← aeval_congr (e:=e) (x:=z) fun t ht=>ha t (by simp [Op.operands,ht])]
   split at h
   ·rename_i r e0 j v h1 h2
    try simp only [h1,h2]
    split at h
    ·rename_i ty cells hH
     try simp only [hH]
     split at h
     ·rename_i he
      try simp only [he,if_true]
      split at h
      ·rename_i c' cells' hs
       (try simp only [hs]);simp only [Option.some.injEq,Prod.mk.injEq,St.mk.injEq,true_and] at h ⊢;exact h
      ·cases h
     ·cases h
    ·rename_i ty sz els hH
     try simp only [hH]
     split at h
     ·rename_i c' els' hs
      (try simp only [hs]);simp only [Option.some.injEq,Prod.mk.injEq,St.mk.injEq,true_and] at h ⊢;exact h
     ·cases h
    ·cases h
    ·cases h
    ·cases h
   ·cases h
 case makeMap t rs=>
  cases dst with
  | none=>cases rs<;>cases h
  | some d=>
   cases rs with
   | some _=>cases h
   | none=>
    simp only [wr] at h ⊢;simp only [Option.some.injEq,Prod.mk.injEq,St.mk.injEq,true_and] at h ⊢;exact h
 case mapUpdate t m k v=>
  cases dst with
  | some d=>cases h
  | none=>
   simp only [wr] at h ⊢;rw [← aeval_congr (e:=e) (x:=m) fun t ht=>ha t (by simp [Op.operands,ht]),← aeval_congr (e:=e) (x:=k) fun t ht=>ha t (by simp [Op.operands,ht]),← aeval_congr (e:=e) (x:=v) fun t ht=>ha t (by simp [Op.operands,ht])]
   split at h
   ·rename_i r key y h1 h2 h3
    try simp only [h1,h2,h3]
    split at h
    ·rename_i ty ents hH
     try simp only [hH]
     split at h
     ·rename_i c' ents' hp
      (try simp only [hp]);simp only [Option.some.injEq,Prod.mk.injEq,St.mk.injEq,true_and] at h ⊢;exact h
     ·cases h
    ·cases h
   ·cases h
 case insert t m k v=>
  cases dst with
  | some d=>cases h
  | none=>
   simp only [wr] at h ⊢;rw [← aeval_congr (e:=e) (x:=m) fun t ht=>ha t (by simp [Op.operands,ht]),← aeval_congr (e:=e) (x:=k) fun t ht=>ha t (by simp [Op.operands,ht]),← aeval_congr (e:=e) (x:=v) fun t ht=>ha t (by simp [Op.operands,ht])]
   split at h
   ·rename_i r key y h1 h2 h3
    try simp only [h1,h2,h3]
    split at h
    ·rename_i ty ents hH
     try simp only [hH]
     split at h
     ·rename_i c' ents' hp
      (try simp only [hp]);simp only [Option.some.injEq,Prod.mk.injEq,St.mk.injEq,true_and] at h ⊢;exact h
     ·cases h
    ·cases h
   ·cases h
 case makeSlice t y z=>
  cases dst with
  | none=>cases h
  | some d=>
   simp only [wr] at h ⊢;rw [← aeval_congr (e:=e) (x:=y) fun t ht=>ha t (by simp [Op.operands,ht]),← aeval_congr (e:=e) (x:=z) fun t ht=>ha t (by simp [Op.operands,ht])]
   split at h
   ·rename_i tt htt
    try simp only [htt]
    split at h
    ·rename_i e0 hd
     try simp only [hd]
     split at h
     ·rename_i te kn n km m h0 h1 h2
      (try simp only [h0,h1,h2]);simp only [Option.some.injEq,Prod.mk.injEq,St.mk.injEq,true_and] at h ⊢;exact h
     ·cases h
    ·cases h
   ·cases h
 case buildSlice t n ps=>
  cases dst with
  | none=>cases h
  | some d=>
   simp only [wr] at h ⊢;rw [← evalP_congr (e:=e) (l:=ps.toList) fun t ht=>ha t (by simpa [Op.operands] using ht)]
   split at h
   ·rename_i tt htt
    try simp only [htt]
    split at h
    ·rename_i e0 hd
     try simp only [hd]
     split at h
     ·rename_i te pp h0 h1
      try simp only [h0,h1]
      split at h
      ·rename_i els hels
       (try simp only [hels]);simp only [Option.some.injEq,Prod.mk.injEq,St.mk.injEq,true_and] at h ⊢;exact h
      ·cases h
     ·cases h
    ·cases h
   ·cases h
 case call cc=>
  obtain ⟨callee,args,argTypes⟩:=cc
  cases callee with
  | builtin b=>
   cases b<;>first | (exact absurd rfl hk) | (cases dst<;>cases h)
  | _=>cases dst<;>cases h
 all_goals (cases dst<;>cases h)
theorem Ex.congr {o:Oper} (hk:kindOf o.op≠9) {e e':Env} {H H':Heap} {x:AV} (ha:Agree o.op e e') (h:Ex P T Mv G o e H x H'):Ex P T Mv G o e' H x H':=by
 unfold Ex at h ⊢
 split at h
 ·rename_i c hc
  try simp only [hc]
  obtain ⟨y,⟨g,xs,ht,hcall⟩,h2,h3⟩:=h
  refine ⟨y,⟨g,xs,?_,hcall⟩,h2,h3⟩
  have ho:=(isCall_op hc).1
  rw [← tgt_congr (e:=e) fun t ht=>ha t (by rw [ho];exact ht)];exact ht
 ·rename_i hc
  try simp only [hc]
  split at h
  ·rename_i hw
   rw [if_pos hw]
   obtain ⟨c,h1,h2⟩:=h
   exact ⟨c,wr_congr hk ha h1,h2⟩
  ·rename_i hw
   rw [if_neg hw]
   obtain ⟨c,h1,h2,h3⟩:=h
   exact ⟨c,by rw [← rd_congr ha];exact h1,h2,h3⟩
theorem isWr_kind {o:Op} (h:isWr o=true):kindOf o=3∨kindOf o=8∨kindOf o=9:=by
 unfold isWr at h
 split at h<;>first | (exact .inl rfl) | (exact .inr (.inl rfl)) | (exact .inr (.inr rfl)) | cases h
theorem Ex.keeps {o:Oper} (hk:kindOf o.op≤2) {e:Env} {H H':Heap} {x:AV} (h:Ex P T Mv G o e H x H'):H'=H:=by
 unfold Ex at h
 split at h
 ·obtain ⟨_,_,_,rfl⟩:=h;rfl
 ·split at h
  ·rename_i hw
   rcases isWr_kind hw with h' | h' | h'<;>omega
  ·obtain ⟨_,_,_,rfl⟩:=h;rfl
theorem rd_noH {o:Op} (hk:kindOf o=0) {e:Env} (H H2:Heap):rd T G ⟨e,H⟩ o=rd T G ⟨e,H2⟩ o:=by
 cases o
 case call c=>
  obtain ⟨callee,args,argTypes⟩:=c
  cases callee with
  | builtin b=>cases b<;>rfl
  | _=>rfl
 case load t y=>
  cases y with
  | global g=>
   simp only [rd,aeval]
   cases G g with
   | none=>rfl
   | some x=>cases x<;>rfl
  | _=>simp [kindOf,loadKind] at hk
 all_goals first | rfl | (simp [kindOf] at hk)
theorem rd_grow {o:Op} (hk:kindOf o=1) {e:Env} {H:Heap} {d:Nat} (hd:H d=none) (row:Row) {c:Prop} {x:AV} (h:rd T G ⟨e,H⟩ o=some (c,x)):rd T G ⟨e,hup H d row⟩ o=some (c,x):=by
 have key:∀ r y,H r=some y→hup H d row r=some y:=fun r y hr=>by
  unfold hup
  split
  ·rename_i hh;subst hh;rw [hd] at hr;cases hr
  ·exact hr
 have kl:∀ t v,loadA T H t v=some (c,x)→loadA T (hup H d row) t v=some (c,x):=fun t v h=>by
  unfold loadA at h ⊢
  split at h
  ·exact h
  ·split at h
   ·rename_i hr;simp only [key _ _ hr];exact h
   ·rename_i hr;simp only [key _ _ hr];exact h
   ·cases h
   ·cases h
   ·cases h
  ·cases h
 have km:∀ t b v u,lookA T H t b v u=some (c,x)→lookA T (hup H d row) t b v u=some (c,x):=fun t b v u h=>by
  unfold lookA at h ⊢
  split at h
  ·split at h
   ·rename_i hr h2;simp only [key _ _ hr,h2];exact h
   ·cases h
  ·exact h
  ·cases h
 have ki:∀ t v u,indexA T H t v u=some (c,x)→indexA T (hup H d row) t v u=some (c,x):=fun t v u h=>by
  unfold indexA at h ⊢
  split at h
  ·exact h
  ·split at h
   ·rename_i h1 hr;simp only [h1,key _ _ hr];exact h
   ·rename_i h1 hr;simp only [h1,key _ _ hr];exact h
   ·cases h
  ·exact h
  ·exact h
  ·cases h
 have ks:∀ t v l u,sliceA T H t v l u=some (c,x)→sliceA T (hup H d row) t v l u=some (c,x):=fun t v l u h=>by
  unfold sliceA at h ⊢
  dsimp only at h ⊢
  split at h
  ·exact h
  ·exact h
  ·split at h
   ·rename_i h1 hr;simp only [h1,key _ _ hr];exact h
   ·cases h
  ·cases h
 cases o
 case load t y=>
  simp only [rd,Option.bind_eq_some_iff] at h ⊢
  obtain ⟨v,h1,h2⟩:=h
  exact ⟨v,h1,kl t v h2⟩
 case indexAddr t y z=>
  simp only [rd] at h ⊢
  split at h
  ·exact ki _ _ _ h
  ·cases h
 case slice t y lo hi mx=>
  simp only [rd] at h ⊢
  split at h
  ·rename_i hmx
   rw [if_pos hmx]
   split at h
   ·exact ks _ _ _ _ h
   ·cases h
  ·cases h
 case lookup t y z b=>
  simp only [rd] at h ⊢
  split at h
  ·exact km _ _ _ _ h
  ·cases h
 case call cc=>
  obtain ⟨callee,args,argTypes⟩:=cc
  cases callee with
  | builtin b=>cases b<;>simp [kindOf] at hk
  | _=>simp [kindOf] at hk
 all_goals (simp [kindOf] at hk)
theorem asDs_mono {f g:AV→Option D} (h:∀ x y,f x=some y→g x=some y):∀ {l:List AV} {ys:List D},asDs f l=some ys→asDs g l=some ys
 | [],_,hh=>hh
 | x :: l,ys,hh=>by
  simp only [asDs] at hh ⊢
  cases hf:f x with
  | none=>simp [hf] at hh
  | some y=>
   cases hl:asDs f l with
   | none=>simp [hf,hl] at hh
   | some zs=>
    simp only [hf,hl] at hh;rw [h x y hf,asDs_mono h hl];exact hh
theorem asD_grow {H:Heap} {d:Nat} (hd:H d=none) (row:Row):∀ (k:Nat) (x:AV) (y:D),asD H k x=some y→asD (hup H d row) k x=some y:=by
 have key:∀ r y,H r=some y→hup H d row r=some y:=fun r y hr=>by
  unfold hup
  split
  ·rename_i hh;subst hh;rw [hd] at hr;cases hr
  ·exact hr
 intro k
 induction k with
 | zero=>intro x y h;cases x<;>simp only [asD] at h ⊢<;>first | exact h | cases h
 | succ k ih=>
  intro x y h
  cases x with
  | d x=>simpa only [asD] using h
  | own r off n=>
   simp only [asD] at h ⊢
   split at h
   ·rename_i hr;rw [key _ _ hr];exact h
   ·cases h
  | ref r e j=>
   simp only [asD] at h ⊢
   split at h
   ·rename_i hr
    rw [key _ _ hr]
    dsimp only
    split at h
    ·rename_i he
     rw [if_pos he]
     obtain ⟨ys,h1,h2⟩:=Option.map_eq_some_iff.1 h
     exact Option.map_eq_some_iff.2 ⟨ys,asDs_mono ih h1,h2⟩
    ·cases h
   ·cases h
  | agg cells=>simp only [asD] at h ⊢;obtain ⟨ys,h1,h2⟩:=Option.map_eq_some_iff.1 h;exact Option.map_eq_some_iff.2 ⟨ys,asDs_mono ih h1,h2⟩
  | tup cells=>simp only [asD] at h ⊢;obtain ⟨ys,h1,h2⟩:=Option.map_eq_some_iff.1 h;exact Option.map_eq_some_iff.2 ⟨ys,asDs_mono ih h1,h2⟩
  | fn f cells=>simp only [asD] at h ⊢;obtain ⟨ys,h1,h2⟩:=Option.map_eq_some_iff.1 h;exact Option.map_eq_some_iff.2 ⟨ys,asDs_mono ih h1,h2⟩
  | ifc t x=>simp only [asD] at h ⊢;obtain ⟨ys,h1,h2⟩:=Option.map_eq_some_iff.1 h;exact Option.map_eq_some_iff.2 ⟨ys,ih _ _ h1,h2⟩
  | mp r=>
   simp only [asD] at h ⊢
   split at h
   ·rename_i hr;rw [key _ _ hr];exact h
   ·cases h
  | bm g x=>simp only [asD] at h;cases h
  | dead=>simp only [asD] at h;cases h
theorem Ex.grow {o:Oper} (hk:kindOf o.op=1∨kindOf o.op=2) {e:Env} {H H':Heap} {x:AV} (h:Ex P T Mv G o e H x H') {d:Nat} (hd:H d=none) (row:Row):Ex P T Mv G o e (hup H d row) x (hup H d row):=by
 unfold Ex at h ⊢
 split at h
 ·rename_i c hc
  try simp only [hc]
  obtain ⟨y,⟨g,xs,ht,hcall⟩,h2,_⟩:=h
  refine ⟨y,⟨g,xs,ht,?_⟩,h2,by trivial⟩
  rcases hcall with h | ⟨ds,h3,h4,h5⟩
  ·exact .inl h
  ·exact .inr ⟨ds,asDs_mono (asD_grow hd row 4) h3,h4,h5⟩
 ·rename_i hc
  try simp only [hc]
  split at h
  ·rename_i hw
   rcases isWr_kind hw with h' | h' | h'<;>omega
  ·rename_i hw
   rw [if_neg hw]
   obtain ⟨c,h1,h2,_⟩:=h
   rcases hk with hk | hk
   ·exact ⟨c,rd_grow hk hd row h1,h2,by trivial⟩
   ·exfalso
    obtain ⟨dst,op,type,pos,after,guard⟩:=o
    dsimp only at hk hc
    unfold kindOf at hk
    split at hk<;>first | omega | skip
    ·have:=loadKind_le ‹_›;omega
    ·simp [isCall] at hc
theorem Ex.free {o:Oper} (hk:kindOf o.op=0) {e:Env} {H H':Heap} {x:AV} (h:Ex P T Mv G o e H x H') (H2:Heap):Ex P T Mv G o e H2 x H2:=by
 unfold Ex at h ⊢
 split at h
 ·rename_i c hc
  have:=(isCall_op hc).2
  omega
 ·rename_i hc
  try simp only [hc]
  split at h
  ·rename_i hw
   rcases isWr_kind hw with h' | h' | h'<;>omega
  ·rename_i hw
   rw [if_neg hw]
   obtain ⟨c,h1,h2,_⟩:=h
   exact ⟨c,by rw [rd_noH hk H2 H];exact h1,h2,by trivial⟩
theorem Ex.makes {o:Oper} (hk:kindOf o.op=3) {e:Env} {H H':Heap} {x:AV} (h:Ex P T Mv G o e H x H'):∃ d row,o.dst=some d∧H d=none∧H'=hup H d row∧∀ H2,H2 d=none→Ex P T Mv G o e H2 x (hup H2 d row):=by
 obtain ⟨dst,op,type,pos,after,guard⟩:=o
 dsimp only at hk
 unfold Ex at h;unfold Ex
 have hc:isCall op=none:=by
  cases hcc:isCall op with
  | none=>rfl
  | some c=>have:=(isCall_op hcc).2;omega
 simp only [hc] at h ⊢
 cases op<;>simp only [kindOf] at hk<;>first | omega | skip
 case load t y=>have:=loadKind_le y;omega
 case alloc t=>
  simp only [isWr,if_true] at h ⊢
  obtain ⟨c,h1,h2⟩:=h
  cases dst with
  | none=>cases h1
  | some d=>
   simp only [wr] at h1 ⊢
   split at h1
   ·simp only [Option.some.injEq,Prod.mk.injEq,St.mk.injEq,true_and] at h1
    obtain ⟨rfl,rfl,rfl⟩:=h1
    exact ⟨d,_,rfl,h2,rfl,fun H2 h=>⟨_,rfl,h⟩⟩
   ·cases h1
 case box t y=>
  simp only [isWr,if_true] at h ⊢
  obtain ⟨c,h1,h2⟩:=h
  cases dst with
  | none=>cases h1
  | some d=>
   simp only [wr] at h1 ⊢
   split at h1
   ·simp only [Option.some.injEq,Prod.mk.injEq,St.mk.injEq,true_and] at h1
    obtain ⟨rfl,rfl,rfl⟩:=h1
    exact ⟨d,_,rfl,h2,rfl,fun H2 h=>⟨_,rfl,h⟩⟩
   ·cases h1
 case makeSlice t y z=>
  simp only [isWr,if_true] at h ⊢
  obtain ⟨c,h1,h2⟩:=h
  cases dst with
  | none=>cases h1
  | some d=>
   simp only [wr] at h1 ⊢
   split at h1
   ·split at h1
    ·split at h1
     ·simp only [Option.some.injEq,Prod.mk.injEq,St.mk.injEq,true_and] at h1
      obtain ⟨rfl,rfl,rfl⟩:=h1
      exact ⟨d,_,rfl,h2.1,rfl,fun H2 h=>⟨_,rfl,h,h2.2⟩⟩
     ·cases h1
    ·cases h1
   ·cases h1
 case buildSlice t n ps=>
  simp only [isWr,if_true] at h ⊢
  obtain ⟨c,h1,h2⟩:=h
  cases dst with
  | none=>cases h1
  | some d=>
   simp only [wr] at h1 ⊢
   split at h1
   ·split at h1
    ·split at h1
     ·split at h1
      ·simp only [Option.some.injEq,Prod.mk.injEq,St.mk.injEq,true_and] at h1
       obtain ⟨rfl,rfl,rfl⟩:=h1
       exact ⟨d,_,rfl,h2.1,rfl,fun H2 h=>⟨_,rfl,h,h2.2⟩⟩
      ·cases h1
     ·cases h1
    ·cases h1
   ·cases h1
 case makeMap t rs=>
  simp only [isWr,if_true] at h ⊢
  obtain ⟨c,h1,h2⟩:=h
  cases dst with
  | none=>cases rs<;>cases h1
  | some d=>
   cases rs with
   | some _=>cases h1
   | none=>
    simp only [wr] at h1 ⊢;simp only [Option.some.injEq,Prod.mk.injEq,St.mk.injEq,true_and] at h1
    obtain ⟨rfl,rfl,rfl⟩:=h1
    exact ⟨d,_,rfl,h2,rfl,fun H2 h=>⟨_,rfl,h⟩⟩
 case call cc=>
  obtain ⟨callee,args,argTypes⟩:=cc
  cases callee with
  | builtin b=>cases b<;>simp at hk
  | _=>simp at hk
end
end Go.Av
namespace Go.Av
section
variable {P:Program} {T:Ty} {Mv X:Nat→Prop} {G:Glob} {N:Fr} {ops:Array Oper}
def Sx (P:Program) (T:Ty) (Mv:Nat→Prop) (G:Glob) (N:Fr) (ops:Array Oper) (o:Oper) (e:Env) (H:Heap) (x:AV) (H':Heap):Prop:=
 okDst N o∧((wantedS ops e o=some true∧Ex P T Mv G o e H x H')∨(wantedS ops e o=some false∧x=und∧H'=H))
theorem looks_of_op {o:Oper} {t:Tmp} (h:Operand.tmp t∈o.op.operands):t∈o.looksAt ops:=
 List.mem_append_left _ (List.mem_filterMap.2 ⟨.tmp t,by simpa using h,rfl⟩)
theorem wantedS_congr {o:Oper} {e e':Env} (h:∀ t∈o.looksAt ops,e t=e' t):wantedS ops e o=wantedS ops e' o:=by
 unfold wantedS
 split
 ·rfl
 ·rename_i j want hg
  unfold gval
  split
  ·rename_i d hd
   rw [h d (List.mem_append_right _ (by simp [hg,hd]))]
  ·rfl
theorem agree_put {x y:Oper} (h:x.apart ops y=true) {e:Env} {v:AV}:(∀ t∈y.looksAt ops,putd e x.dst v t=e t)∧(∀ t∈x.looksAt ops,putd e y.dst v t=e t)∧(∀ d,x.dst=some d→y.dst≠some d):=by
 obtain ⟨h1,h2,h3⟩:=Oper.apart_spec h
 exact ⟨fun t ht=>putd_get fun e=>h1 t e ht,fun t ht=>putd_get fun e=>h3 t e ht,h2⟩
theorem kinds (o:Op):kindOf o=0∨kindOf o=1∨kindOf o=2∨kindOf o=3∨kindOf o=8∨kindOf o=9:=by unfold kindOf;split<;>simp
theorem commute {q p:Oper} (hc:compat ops q p=true) {e:Env} {H H1 H2:Heap} {x y:AV} (hq:Sx P T Mv G N ops q e H x H1) (hp:Sx P T Mv G N ops p (putd e q.dst x) H1 y H2) (hk9:kindOf q.op≠9) (hk9':kindOf p.op≠9) :
  ∃ H3,Sx P T Mv G N ops p e H y H3∧Sx P T Mv G N ops q (putd e p.dst y) H3 x H2:=by
 simp only [compat,Bool.and_eq_true] at hc
 obtain ⟨hap,hpass⟩:=hc
 obtain ⟨a1,_,hne⟩:=agree_put hap (e:=e) (v:=x)
 obtain ⟨_,a2,_⟩:=agree_put hap (e:=e) (v:=y)
 have wp:=wantedS_congr (o:=p) (e:=putd e q.dst x) (e':=e) a1
 have wq:=wantedS_congr (o:=q) (e:=putd e p.dst y) (e':=e) a2
 have agp:Agree p.op (putd e q.dst x) e:=fun t ht=>a1 t (looks_of_op ht)
 have agq:Agree q.op e (putd e p.dst y):=fun t ht=>(a2 t (looks_of_op ht)).symm
 obtain ⟨dq,hq⟩:=hq
 obtain ⟨dp,hp⟩:=hp
 rw [wp] at hp
 rcases hq with ⟨wq1,eq⟩ | ⟨wq1,rfl,rfl⟩
 ·rcases hp with ⟨wp1,ep⟩ | ⟨wp1,rfl,rfl⟩
  ·have ep':=ep.congr hk9' agp
   have eq':=eq.congr hk9 agq
   have fin:∀ H3,Ex P T Mv G p e H y H3→Ex P T Mv G q (putd e p.dst y) H3 x H2→∃ H3,Sx P T Mv G N ops p e H y H3∧Sx P T Mv G N ops q (putd e p.dst y) H3 x H2:=fun H3 h1 h2=>
    ⟨H3,⟨dp,.inl ⟨wp1,h1⟩⟩,⟨dq,.inl ⟨by rw [wq];exact wq1,h2⟩⟩⟩
   by_cases kp0:kindOf p.op=0
   ·obtain rfl:=ep'.keeps (by omega)
    exact fin H (ep'.free kp0 H) eq'
   ·by_cases kq0:kindOf q.op=0
    ·obtain rfl:=eq.keeps (by omega)
     exact fin H2 ep' (eq'.free kq0 H2)
    ·by_cases kk:kindOf q.op≤2∧kindOf p.op≤2
     ·obtain rfl:=eq.keeps kk.1
      obtain rfl:=ep'.keeps kk.2
      exact fin _ ep' eq'
     ·by_cases k3:kindOf q.op=3∧kindOf p.op=3
      ·obtain ⟨d,row,hd,hn,rfl,hall⟩:=eq'.makes k3.1
       obtain ⟨d',row',hd',hn',rfl,hall'⟩:=ep'.makes k3.2
       have hdd:d≠d':=fun e=>hne d hd (by rw [hd',e])
       have hn2:H d'=none:=by simpa [hup,Ne.symm hdd] using hn'
       have:hup (hup H d row) d' row'=hup (hup H d' row') d row:=by
        funext i
        by_cases h1:i=d<;>by_cases h2:i=d'<;>simp [hup,h1,h2,hdd,Ne.symm hdd]
       exact fin _ (hall' H hn2) (by rw [this];exact hall _ (by simpa [hup,hdd] using hn))
      ·by_cases k13:(kindOf q.op=1∨kindOf q.op=2)∧kindOf p.op=3
       ·obtain rfl:=eq.keeps (by omega)
        obtain ⟨d,row,hd,hn,rfl,hall⟩:=ep'.makes k13.2
        exact fin _ ep' (eq'.grow k13.1 hn row)
       exfalso
       revert hpass
       have c1:kindOf q.op=1∨kindOf q.op=2∨kindOf q.op=3∨kindOf q.op=8:=by have:=kinds q.op;omega
       have c2:kindOf p.op=1∨kindOf p.op=2∨kindOf p.op=3∨kindOf p.op=8:=by have:=kinds p.op;omega
       rcases c1 with c1 | c1 | c1 | c1<;>rcases c2 with c2 | c2 | c2 | c2<;>rw [c1,c2]<;>first | (simp [mayPass];done) | (exfalso;apply kk;omega) | (exfalso;exact k3 ⟨c1,c2⟩) | (exfalso;exact k13 ⟨.inl c1,c2⟩) | (exfalso;exact k13 ⟨.inr c1,c2⟩)
  ·exact ⟨H,⟨dp,.inr ⟨wp1,rfl,rfl⟩⟩,⟨dq,.inl ⟨by rw [wq];exact wq1,eq.congr hk9 agq⟩⟩⟩
 ·rcases hp with ⟨wp1,ep⟩ | ⟨wp1,rfl,rfl⟩
  ·exact ⟨H2,⟨dp,.inl ⟨wp1,ep.congr hk9' agp⟩⟩,⟨dq,.inr ⟨by rw [wq];exact wq1,rfl,rfl⟩⟩⟩
  ·exact ⟨_,⟨dp,.inr ⟨wp1,rfl,rfl⟩⟩,⟨dq,.inr ⟨by rw [wq];exact wq1,rfl,rfl⟩⟩⟩
def run (P:Program) (T:Ty) (Mv:Nat→Prop) (G:Glob) (N:Fr) (ops:Array Oper):List Nat→St→St→Prop
 | [],σ,σ'=>σ=σ'
 | i :: l,σ,σ'=>∃ o,ops[i]? = some o∧∃ σ1,stepTo P T Mv G N ops o σ σ1∧run P T Mv G N ops l σ1 σ'
theorem stepTo_Sx {o:Oper} (hk:kindOf o.op≠9) {σ σ':St}:stepTo P T Mv G N ops o σ σ'↔∃ x H',Sx P T Mv G N ops o σ.env σ.H x H'∧σ'=⟨putd σ.env o.dst x,H'⟩:=by
 constructor
 ·rintro ⟨hd,⟨hw,h⟩ | ⟨hw,rfl⟩⟩
  ·obtain ⟨x,H',h1,h2⟩:=Ex.of hk h
   exact ⟨x,H',⟨hd,.inl ⟨hw,h1⟩⟩,h2⟩
  ·exact ⟨und,σ.H,⟨hd,.inr ⟨hw,rfl,rfl⟩⟩,rfl⟩
 ·rintro ⟨x,H',⟨hd,⟨hw,h⟩ | ⟨hw,rfl,rfl⟩⟩,rfl⟩
  ·exact ⟨hd,.inl ⟨hw,h.to⟩⟩
  ·exact ⟨hd,.inr ⟨hw,rfl⟩⟩
theorem run_swap {i j:Nat} {l:List Nat} {σ σ':St} {oi oj:Oper} (hi:ops[i]? = some oi) (hj:ops[j]? = some oj) (hc:compat ops oi oj=true) (h:run P T Mv G N ops (i :: j :: l) σ σ'):run P T Mv G N ops (j :: i :: l) σ σ':=by
 obtain ⟨o1,h1,σ1,s1,o2,h2,σ2,s2,rest⟩:=h
 rw [hi] at h1;rw [hj] at h2
 obtain rfl:=Option.some.inj h1
 obtain rfl:=Option.some.inj h2
 have hk:kindOf oi.op≠9:=by
  intro e
  simp only [compat,Bool.and_eq_true,e] at hc
  have:=hc.2
  revert this
  have b2:kindOf oj.op=0∨kindOf oj.op=1∨kindOf oj.op=2∨kindOf oj.op=3∨kindOf oj.op=8∨kindOf oj.op=9:=by unfold kindOf;split<;>simp
  rcases b2 with b | b | b | b | b | b<;>rw [b]<;>simp [mayPass]
 have hk':kindOf oj.op≠9:=by
  intro e
  simp only [compat,Bool.and_eq_true,e] at hc
  have:=hc.2
  revert this
  have b2:kindOf oi.op=0∨kindOf oi.op=1∨kindOf oi.op=2∨kindOf oi.op=3∨kindOf oi.op=8∨kindOf oi.op=9:=by unfold kindOf;split<;>simp
  rcases b2 with b | b | b | b | b | b<;>rw [b]<;>simp [mayPass]
 obtain ⟨x,H1,e1,rfl⟩:=(stepTo_Sx hk).1 s1
 obtain ⟨y,H2,e2,rfl⟩:=(stepTo_Sx hk').1 s2
 obtain ⟨H3,f1,f2⟩:=commute hc e1 e2 hk hk'
 refine ⟨oj,hj,_,(stepTo_Sx hk').2 ⟨y,H3,f1,rfl⟩,oi,hi,_,(stepTo_Sx hk).2 ⟨x,H2,f2,rfl⟩,?_⟩
 have hcomm:putd (putd σ.env oi.dst x) oj.dst y=putd (putd σ.env oj.dst y) oi.dst x:=by
  simp only [compat,Bool.and_eq_true] at hc;exact putd_comm (agree_put hc.1 (e:=σ.env) (v:=x)).2.2
 dsimp only at rest ⊢
 rw [hcomm] at rest;exact rest
theorem run_front {p:Nat} {op:Oper} (hp:ops[p]? = some op):∀ (l1:List Nat) {l2:List Nat} {σ σ':St},(∀ q∈l1,∀ oq,ops[q]? = some oq→compat ops oq op=true)→run P T Mv G N ops (l1 ++ p :: l2) σ σ'→run P T Mv G N ops (p :: (l1 ++ l2)) σ σ':=by
 intro l1
 induction l1 with
 | nil=>intro l2 σ σ' _ h;exact h
 | cons q l1 ih=>
  intro l2 σ σ' hall h
  obtain ⟨oq,hq,σ1,s1,rest⟩:=h
  have:=ih (fun q' hq'=>hall q' (by simp [hq'])) rest
  have h2:run P T Mv G N ops (q :: p :: (l1 ++ l2)) σ σ':=⟨oq,hq,σ1,s1,this⟩
  exact run_swap hq hp (hall q (by simp) oq hq) h2
theorem tbGo_pre:∀ (l:List Oper) (acc:List Nat) (k:Nat),k < acc.length→(tbGo l acc).getD k 0=acc.getD k 0
 | [],_,_,_=>rfl
 | o :: l,acc,k,hk=>by
  rw [tbGo,tbGo_pre l _ k (by simp;omega)];simp [List.getD_eq_getElem?_getD,List.getElem?_append_left hk]
theorem bits_mem {acc:List Nat} {o:Oper} {q:Nat} (h:(bitsOf acc o).testBit q=true):∃ e∈o.after,Region.binds .any e=true∧(q=e.on∨(acc.getD e.on 0).testBit q=true):=by
 unfold bitsOf at h
 have key:∀ (l:List Edge),(l.foldr (fun e s=>if Region.binds .any e then (2 ^ e.on ||| acc.getD e.on 0) ||| s else s) 0).testBit q=true→∃ e∈l,Region.binds .any e=true∧(q=e.on∨(acc.getD e.on 0).testBit q=true):=by
  intro l
  induction l with
  | nil=>intro h;simp at h
  | cons e l ih=>
   intro h
   rw [List.foldr_cons] at h
   split at h
   ·rename_i hb
    rw [Nat.testBit_or,Nat.testBit_or,Bool.or_eq_true,Bool.or_eq_true] at h
    rcases h with (h | h) | h
    ·rw [Nat.testBit_two_pow] at h
     have h':e.on=q:=by simpa using h
     exact ⟨e,by simp,hb,.inl h'.symm⟩
    ·exact ⟨e,by simp,hb,.inr h⟩
    ·obtain ⟨e',he',r⟩:=ih h
     exact ⟨e',by simp [he'],r⟩
   ·obtain ⟨e',he',r⟩:=ih h
    exact ⟨e',by simp [he'],r⟩
 obtain ⟨e,he,r⟩:=key _ h
 exact ⟨e,by simpa using he,r⟩
theorem tb_bits:∀ (l:List Oper) (acc:List Nat) (j:Nat) (o:Oper) (q:Nat),l[j]? = some o→((tbGo l acc).getD (acc.length+j) 0).testBit q=true→∃ e∈o.after,Region.binds .any e=true∧(q=e.on∨(e.on < acc.length+j∧((tbGo l acc).getD e.on 0).testBit q=true))
 | [],_,_,_,_,h,_=>by simp at h
 | o' :: l,acc,0,o,q,h,hb=>by
  simp at h;subst h;rw [tbGo,tbGo_pre l _ _ (by simp)] at hb;simp [List.getD_eq_getElem?_getD] at hb
  obtain ⟨e,he,hbd,r⟩:=bits_mem hb
  refine ⟨e,he,hbd,r.imp id fun r=>?_⟩
  have hlt:e.on < acc.length:=by
   rcases Nat.lt_or_ge e.on acc.length with h | h
   ·exact h
   ·simp [List.getD_eq_getElem?_getD,List.getElem?_eq_none h] at r
  refine ⟨by omega,?_⟩;rw [tbGo,tbGo_pre l _ _ (by simp;omega)];simpa [List.getD_eq_getElem?_getD,List.getElem?_append_left hlt] using r
 | o' :: l,acc,j+1,o,q,h,hb=>by
  have:=tb_bits l (acc ++ [bitsOf acc o']) j o q (by simpa using h) (by rw [tbGo] at hb;simpa [Nat.add_assoc,Nat.add_comm 1 j] using hb)
  obtain ⟨e,he,hbd,r⟩:=this
  refine ⟨e,he,hbd,r.imp id fun r=>?_⟩;rw [tbGo];exact ⟨by have:=r.1;simp at this;omega,r.2⟩
theorem okDraw_spec (h:okDraw ops=true) {j:Nat} {oj:Oper} (hj:ops[j]? = some oj):(∀ e∈oj.after,Region.binds .any e=true→e.on < j)∧
  ∀ i oi,i < j→ops[i]? = some oi→((tb ops).getD j 0).testBit i=true∨(compat ops oi oj=true∧compat ops oj oi=true):=by
 unfold okDraw at h
 have h1:=List.all_eq_true.1 h j (List.mem_range.2 (Array.getElem?_eq_some_iff.1 hj).1)
 simp only [hj,Bool.and_eq_true] at h1;refine ⟨fun e he hb=>?_,fun i oi hi hoi=>?_⟩
 ·have:=Array.all_eq_true_iff_forall_mem.1 h1.1 e he
  simpa [hb] using this
 ·have:=List.all_eq_true.1 h1.2 i (List.mem_range.2 hi)
  simpa [hoi] using this
theorem behind_listed (hok:okDraw ops=true) {listed:Array Bool} (hdown:∀ j oj,ops[j]? = some oj→listed.getD j false=true→∀ e∈oj.after,Region.binds .any e=true→listed.getD e.on false=true) :
  ∀ (n j:Nat) (oj:Oper),j≤n→ops[j]? = some oj→(∀ e∈oj.after,Region.binds .any e=true→listed.getD e.on false=true)→∀ q,((tb ops).getD j 0).testBit q=true→listed.getD q false=true:=by
 intro n
 induction n with
 | zero=>
  intro j oj hj hoj hall q hq
  have hj0:j=0:=by omega
  subst hj0
  obtain ⟨e,he,hb,_⟩:=tb_bits ops.toList [] 0 oj q (by simpa using hoj) (by simpa [tb] using hq)
  have:=(okDraw_spec hok hoj).1 e he hb
  omega
 | succ n ih=>
  intro j oj hj hoj hall q hq
  obtain ⟨e,he,hb,r⟩:=tb_bits ops.toList [] j oj q (by simpa using hoj) (by simpa [tb] using hq)
  rcases r with rfl | ⟨_,r⟩
  ·exact hall e he hb
  ·have hlt:=(okDraw_spec hok hoj).1 e he hb
   have hlt2:e.on < ops.size:=by have:=(Array.getElem?_eq_some_iff.1 hoj).1;omega
   exact ih e.on ops[e.on] (by omega) (by simp [hlt2]) (fun e' he' hb'=>hdown e.on _ (by simp [hlt2]) (hall e he hb) e' he' hb') q (by simpa [tb] using r)
theorem any_ok (hg:Good P T) (hok:okDraw ops=true) {Q:Exit→St→Prop} {w0:World} {μ0:Mu} {σn:St} (hQ:Q .normal σn):∀ (n:Nat) (R:List Nat) (listed:Array Bool) (w:World) (μ:Mu) (a:Act) (σ:St),R.length=n→R.Nodup→
  (∀ j,j∈R↔j < ops.size∧listed.getD j true=false)→listed.size=ops.size→(R.Pairwise (· < ·))→
  (∀ j oj,ops[j]? = some oj→listed.getD j false=true→∀ e∈oj.after,Region.binds .any e=true→listed.getD e.on false=true)→run P T Mv G N ops R σ σn→In w X G μ N a σ→Ev Mv w0 μ0 w μ→
  wpAnyIn (wd N.ro) 0 P .any ops (After Mv X G N w0 μ0 Q) n listed a w:=by
 intro n
 induction n with
 | zero=>
  intro R listed w μ a σ hl _ hR hsz _ _ hrun hi hev
  have:R=[]:=List.eq_nil_of_length_eq_zero hl
  subst this
  have hr:Region.ready .any ops listed=[]:=by
   apply List.eq_nil_iff_forall_not_mem.2
   intro j hj
   obtain ⟨h1,o,ho,_⟩:=mem_ready.1 hj
   exact absurd ((hR j).2 ⟨(Array.getElem?_eq_some_iff.1 ho).1,h1⟩) (by simp)
  have:σ=σn:=hrun
  subst this;exact ⟨hr,μ,σ,hQ,hi,hev⟩
 | succ n ih=>
  intro R listed w μ a σ hl hnd hR hsz hpw hdown hrun hi hev
  refine ⟨fun hr=>?_,fun i hir=>?_⟩
  ·-- the first of the rest may come up
   cases R with
   | nil=>simp at hl
   | cons j R=>
    obtain ⟨hj1,hj2⟩:=(hR j).1 (by simp)
    have hjr:j∈Region.ready .any ops listed:=by
     refine mem_ready.2 ⟨hj2,ops[j],by simp [hj1],fun e he hb=>?_⟩
     have hlt:=(okDraw_spec hok (j:=j) (oj:=ops[j]) (by simp [hj1])).1 e he hb
     have hne:e.on ∉ (j :: R):=by
      intro hm
      rcases List.mem_cons.1 hm with h | h
      ·omega
      ·have:=(List.pairwise_cons.1 hpw).1 _ h
       omega
     have:=mt (hR e.on).2 hne
     have hlt2:e.on < ops.size:=by omega
     have hls:e.on < listed.size:=by omega
     simp only [hlt2,true_and,Array.getD_eq_getD_getElem?] at this ⊢;simp [hls] at this ⊢;exact this
    rw [hr] at hjr
    cases hjr
  ·obtain ⟨hi1,oi,hoi,hall⟩:=mem_ready.1 hir
   have hiR:i∈R:=(hR i).2 ⟨(Array.getElem?_eq_some_iff.1 hoi).1,hi1⟩
   obtain ⟨R1,R2,rfl⟩:=List.append_of_mem hiR
   have hfront:=run_front (P:=P) (T:=T) (Mv:=Mv) (G:=G) (N:=N) hoi R1 (fun q hq oq hoq=>by
    have hqlt:q < i:=by
     have:=(List.pairwise_append.1 hpw).2.2 q hq i (by simp)
     exact this
    rcases (okDraw_spec hok hoi).2 q oq hqlt hoq with h | h
    ·exfalso
     have hlq:=behind_listed hok hdown i i oi (Nat.le_refl _) hoi hall q h
     have hq2:=((hR q).1 (by simp [hq])).2
     have hqs:q < listed.size:=by have:=(Array.getElem?_eq_some_iff.1 hoq).1;omega
     simp [Array.getD_eq_getD_getElem?,hqs] at hlq hq2;rw [hlq] at hq2;cases hq2
    ·exact h.1) hrun
   obtain ⟨o',ho',σ1,hstep,hrest⟩:=hfront
   rw [hoi] at ho'
   obtain rfl:=Option.some.inj ho'
   refine stepTo_ok hg hstep hi hoi fun w' μ' a' hin hev'=>?_
   have hnd':(R1 ++ R2).Nodup:=by
    have:=hnd
    rw [List.nodup_append] at this ⊢
    obtain ⟨g1,g2,g3⟩:=this
    exact ⟨g1,(List.nodup_cons.1 g2).2,fun x hx y hy=>g3 x hx y (by simp [hy])⟩
   have hi_not:i ∉ R1 ++ R2:=by
    have:=hnd
    rw [List.nodup_append] at this
    obtain ⟨g1,g2,g3⟩:=this
    intro hm
    rcases List.mem_append.1 hm with h | h
    ·exact g3 i h i (by simp) rfl
    ·exact (List.nodup_cons.1 g2).1 h
   refine ih (R1 ++ R2) _ w' μ' a' σ1 (by simp at hl ⊢;omega) hnd' (fun j=>?_) (by simpa using hsz) ?_ ?_ hrest hin (hev.trans hev')
   ·by_cases hji:j=i
    ·subst hji
     have hls:j < listed.size:=by rw [hsz];exact (Array.getElem?_eq_some_iff.1 hoi).1
     simp [hls];simpa using hi_not
    ·rw [getD_set_ne true (Ne.symm hji)];rw [← hR j];simp [hji]
   ·rw [List.pairwise_append] at hpw ⊢
    obtain ⟨g1,g2,g3⟩:=hpw
    exact ⟨g1,(List.pairwise_cons.1 g2).2,fun x hx y hy=>g3 x hx y (by simp [hy])⟩
   ·intro j oj hoj hlj e he hb
    by_cases hji:j=i
    ·subst hji;rw [hoi] at hoj
     obtain rfl:=Option.some.inj hoj
     exact getD_set_true (hall e he hb)
    ·rw [getD_set_ne false (Ne.symm hji)] at hlj;exact getD_set_true (hdown j oj hoj hlj e he hb)
def sxq (P:Program) (T:Ty) (Mv:Nat→Prop) (G:Glob) (N:Fr) (ops:Array Oper) (K:St→Prop):List Oper→St→Prop
 | [],σ=>K σ
 | o :: rest,σ=>okDst N o∧match wantedS ops σ.env o with
  | some b=>if b=true then (match isCall o.op with
    | some c=>∃ y,callTo P G σ c y∧sxq P T Mv G N ops K rest ⟨putd σ.env o.dst (.d y),σ.H⟩
    | none=>plainS T G Mv o σ (sxq P T Mv G N ops K rest)) else sxq P T Mv G N ops K rest ⟨putd σ.env o.dst und,σ.H⟩
  | none=>False
theorem sxq_chain {K:St→Prop}:∀ (l:List Oper) (k:Nat) (σ:St),(∀ j,l[j]? = ops[k+j]?)→sxq P T Mv G N ops K l σ→∃ σn,K σn∧run P T Mv G N ops (List.range' k l.length) σ σn:=by
 intro l
 induction l with
 | nil=>intro k σ _ h;exact ⟨σ,h,rfl⟩
 | cons o l ih=>
  intro k σ hl h
  have h0:ops[k]? = some o:=by simpa using (hl 0).symm
  have hl':∀ j,l[j]? = ops[k+1+j]?:=fun j=>by have:=hl (j+1);simpa [Nat.add_assoc,Nat.add_comm 1 j] using this
  obtain ⟨hd,h⟩:=h
  rw [List.length_cons,List.range'_succ]
  have fin:∀ σ1,stepTo P T Mv G N ops o σ σ1→sxq P T Mv G N ops K l σ1→∃ σn,K σn∧run P T Mv G N ops (k :: List.range' (k+1) l.length) σ σn:=by
   intro σ1 hs hq
   obtain ⟨σn,hk,hr⟩:=ih (k+1) σ1 hl' hq
   exact ⟨σn,hk,o,h0,σ1,hs,hr⟩
  split at h
  ·rename_i b hb
   split at h
   ·rename_i hbt
    subst hbt
    split at h
    ·rename_i c hc
     obtain ⟨y,hy,h⟩:=h
     refine fin _ ⟨hd,.inl ⟨hb,?_⟩⟩ h;unfold exTo;simp only [hc];exact ⟨y,hy,rfl⟩
    ·rename_i hc
     unfold plainS at h
     split at h
     ·rename_i hw
      split at h
      ·rename_i c x σ1 h1
       refine fin _ ⟨hd,.inl ⟨hb,?_⟩⟩ h.2;unfold exTo;simp only [hc];rw [if_pos hw];exact ⟨c,x,σ1,h1,h.1,rfl⟩
      ·exact h.elim
     ·rename_i hw
      split at h
      ·rename_i c x h1
       refine fin _ ⟨hd,.inl ⟨hb,?_⟩⟩ h.2;unfold exTo;simp only [hc];rw [if_neg hw];exact ⟨c,x,h1,h.1,rfl⟩
      ·exact h.elim
   ·rename_i hbf
    have:b=false:=by simpa using hbf
    subst this;exact fin _ ⟨hd,.inr ⟨hb,rfl⟩⟩ h
  ·exact h.elim
theorem AW_region_draw (hg:Good P T) (hm:P.follows .mixedOrders=true) {id:Nat} (hok:okDraw ops=true) {Q:Exit→St→Prop} {σ:St} (h:sxq P T Mv G N ops (fun σ'=>Q .normal σ') ops.toList σ):AW P Mv X G N (.region id ops true) Q σ:=fun w μ a hi=>by
 obtain ⟨σn,hQ,hrun⟩:=sxq_chain ops.toList 0 σ (by simp) h
 refine wpIn_region_any hm ?_
 obtain ⟨hin,hev⟩:=hi.grew (Mv:=Mv) (Grew.drew w)
 refine any_ok hg hok hQ ops.size (List.range' 0 ops.toList.length) _ w.drew μ a σ (by simp) (by simpa using List.nodup_range') (fun j=>?_) (by simp) (by simpa using List.pairwise_lt_range') ?_ hrun hin hev
 ·simp [List.mem_range'_1]
  intro h
  simp [Array.getD_eq_getD_getElem?,h]
 ·intro j oj hoj hlj
  have hj:=(Array.getElem?_eq_some_iff.1 hoj).1
  simp [Array.getD_eq_getD_getElem?,hj] at hlj
end
def peOf (P:Program) (t:TypeId):Bool:=!P.stoodInHeld t && !P.eqGuardType P.depth t
def tyOf (P:Program):Ty:=fun t=>match P.underlying t,P.info? t with
 | some d,some i=>i.zero.map fun z=>⟨d,i.size,i.bytes,z,peOf P t⟩
 | _,_=>none
theorem tyOf_good (P:Program):Good P (tyOf P):=by
 intro t ti h
 unfold tyOf at h
 split at h
 ·rename_i d i hd hi
  obtain ⟨z,hz,rfl⟩:=Option.map_eq_some_iff.1 h
  exact ⟨hd,i,hi,rfl,rfl,hz,fun h=>by unfold peOf at h;simpa using h⟩
 ·cases h
end Go.Av
namespace Go.Av
def liveL:List Nat→Env→List (Nat×AV)
 | [],_=>[]
 | i :: l,e=>match e i with
  | some x=>(i,x) :: liveL l e
  | none=>liveL l e
section
variable {P:Program} {T:Ty} {Mv X:Nat→Prop} {G:Glob} {N:Fr} {σ:St}
theorem Imp.env {e e':Env} {H:Heap} (h:∀ i x,e' i=some x→e i=some x):Imp Mv X G N ⟨e,H⟩ ⟨e',H⟩:=fun w μ _ hi=>
 ⟨μ,⟨hi.sim,⟨hi.env.defers,hi.env.size,fun i x hx=>hi.env.slot i x (h i x hx)⟩,hi.glob⟩,.refl _ w μ⟩
theorem lst_live {e:Env}:∀ {l:List Nat} {i:Nat} {x:AV},lst (liveL l e) i=some x→e i=some x
 | [],_,_,h=>by simp [lst,liveL] at h
 | j :: l,i,x,h=>by
  simp only [liveL] at h
  split at h
  ·rename_i y hy
   simp only [lst,List.lookup] at h
   split at h
   ·rename_i hij
    have:i=j:=by simpa using hij
    subst this
    obtain rfl:=Option.some.inj h
    exact hy
   ·exact lst_live (l:=l) h
  ·exact lst_live (l:=l) h
theorem AW_then {x y:Code} {Q:Exit→St→Prop} (h:∀ K:St→Prop,(∀ σ',AW P Mv X G N y Q σ'→K σ')→AW P Mv X G N x (thn K Q) σ):AW P Mv X G N (.seq x y) Q σ:=AW_seq (h _ fun _ h=>h)
theorem lst_mem:∀ {l:List (Nat×AV)} {i:Nat} {x:AV},lst l i=some x→(i,x)∈l
 | [],_,_,h=>by simp [lst] at h
 | (j,y) :: l,i,x,h=>by
  simp only [lst,List.lookup] at h
  split at h
  ·rename_i hij
   have:i=j:=by simpa using hij
   subst this
   obtain rfl:=Option.some.inj h
   simp
  ·exact List.mem_cons_of_mem _ (lst_mem (l:=l) h)
theorem Imp.lst {e:Env} {H:Heap} {l:List (Nat×AV)} (h:∀ p∈l,e p.1=some p.2):Imp Mv X G N ⟨e,H⟩ ⟨lst l,H⟩:=Imp.env fun i x hx=>h (i,x) (lst_mem hx)
def Again (Mv X:Nat→Prop) (G:Glob) (N:Fr) {S:Type} (I:S→Prop) (inv:S→St) (meas:S→Nat) (s:S) (σ:St):Prop:=∃ s',I s'∧meas s' < meas s∧Imp Mv X G N σ (inv s')
theorem Again.mk {S:Type} {I:S→Prop} {inv:S→St} {meas:S→Nat} {s:S} (s':S) (hI:I s') (hm:meas s' < meas s) (h:Imp Mv X G N σ (inv s')):Again Mv X G N I inv meas s σ:=⟨s',hI,hm,h⟩
theorem AW_for {S:Type} {id:Nat} {c:Code} {Q:Exit→St→Prop} (I:S→Prop) (inv:S→St) (meas:S→Nat) (s0:S) (h0:Imp Mv X G N σ (inv s0)) (hI:I s0)
  (round:∀ s,I s→AW P Mv X G N c (thn (Again Mv X G N I inv meas s) (inb id Q)) (inv s)):AW P Mv X G N (.block id (.loop c)) Q σ:=
 AW_block (AW_loop (S:={s // I s}) (fun s=>inv s.1) (fun s=>meas s.1) ⟨s0,hI⟩ h0 fun s=>(round s.1 s.2).mono fun e τ q=>by
  cases e with
  | normal=>obtain ⟨s',h1,h2,h3⟩:=q;exact ⟨⟨s',h1⟩,h2,h3⟩
  | _=>exact q)
theorem AW_cond' {c:Operand} {x y:Code} {Q:Exit→St→Prop} {b:Prop} [Decidable b] (hc:aeval G σ.env c=some (.d (.v (.bool (decide b))))) (ht:b→AW P Mv X G N x Q σ) (hf:¬ b→AW P Mv X G N y Q σ):AW P Mv X G N (.cond c x y) Q σ:=
 AW_cond (decide b) hc (fun h=>ht (of_decide_eq_true h)) (fun h=>hf (of_decide_eq_false h))
end
end Go.Av
namespace Go.Av
def mkTup (l:List AV):AV:=match allD l with
 | some ds=>.d (.tup ds)
 | none=>.tup l
def AV.tr (o f:Nat→Nat→Nat→AV):AV→AV
 | .d x=>.d x
 | .own q off n=>o q off n
 | .ref q e j=>f q e j
 | .agg cells=>mkAgg (go o f cells)
 | .tup vs=>mkTup (go o f vs)
 | .ifc t x=>mkIfc t (x.tr o f)
 | .fn g caps=>mkFn g (go o f caps)
 | .bm g x=>.bm g (x.tr o f)
 | .mp q=>match f q 0 0 with
  | .ref q' _ _=>.mp q'
  | _=>.dead
 | .dead=>.dead
where
 go (o f:Nat→Nat→Nat→AV):List AV→List AV
 | []=>[]
 | x :: l=>x.tr o f :: go o f l
theorem AV.trGo_eq (o f:Nat→Nat→Nat→AV) (l:List AV):AV.tr.go o f l=l.map (AV.tr o f):=by
 induction l with
 | nil=>rfl
 | cons x l ih=>simp [AV.tr.go,ih]
def Row.tr (o f:Nat→Nat→Nat→AV):Row→Row
 | .sl ty sz els=>.sl ty sz els
 | .box ty cells=>.box ty (cells.map (AV.tr o f))
 | .mp ty ents=>.mp ty ents
 | .it ents seen=>.it ents seen
def trE (o f:Nat→Nat→Nat→AV) (e:Env):Env:=fun i=>(e i).map (AV.tr o f)
def trH (keep:Nat→Bool) (o f:Nat→Nat→Nat→AV) (H:Heap):Heap:=fun r=>if keep r then (H r).map (Row.tr o f) else none
def mfilt (keep:Nat→Bool) (μ:Mu):Mu:=fun r=>if keep r then μ r else none
section
variable {P:Program} {T:Ty} {Mv X:Nat→Prop} {G:Glob} {N:Fr} {w:World} {μ:Mu} {a:Act} {σ:St}
theorem mkTup_ok {u:Value} {l:List AV} (h:RV w X μ u (.tup l)):RV w X μ u (mkTup l):=by
 unfold mkTup
 split
 ·rename_i ds hd
  rw [allD_eq hd] at h
  obtain ⟨arr,rfl,hn,hr⟩:=h.tup_inv
  refine .d (.tup (by simpa using hn) fun j u c hu hc=>?_);exact (hr j u (.d c) hu (by rw [List.getElem?_map,hc];rfl)).data
 ·exact h
theorem mfilt_some {keep:Nat→Bool} {r:Nat} {m:MRow} (h:mfilt keep μ r=some m):keep r=true∧μ r=some m:=by
 unfold mfilt at h
 split at h
 ·rename_i hk;exact ⟨hk,h⟩
 ·cases h
theorem XX_mfilt {keep:Nat→Bool} {b:Nat} (h:XX X (mfilt keep μ) b):XX X μ b:=h.elim .inl fun ⟨r,m,hr,hb⟩=>.inr ⟨r,m,(mfilt_some hr).2,hb⟩
theorem RV.tr {μ':Mu} {o f:Nat→Nat→Nat→AV} (hX:∀ b,XX X μ' b→XX X μ b) (ho:∀ u r off n,RV w X μ u (.own r off n)→RV w X μ' u (o r off n)) (hf:∀ u r e j,RV w X μ u (.ref r e j)→RV w X μ' u (f r e j)) :
  ∀ {v:Value} {x:AV},RV w X μ v x→RV w X μ' v (x.tr o f):=by
 intro v x hr
 induction hr with
 | d h'=>exact .d (h'.mono (Nat.le_refl _) fun b _ hb=>⟨rfl,fun e=>hb (hX b e)⟩)
 | own hm h'=>exact ho _ _ _ _ (.own hm h')
 | ref hm hb=>exact hf _ _ _ _ (.ref hm hb)
 | agg hn _ ih=>
  rw [AV.tr,AV.trGo_eq];refine mkAgg_ok (.agg (by simpa using hn) fun j u c hu hc=>?_);rw [List.getElem?_map] at hc
  obtain ⟨c',hc',rfl⟩:=Option.map_eq_some_iff.1 hc
  exact ih j u c' hu hc'
 | tup hn _ ih=>
  rw [AV.tr,AV.trGo_eq];refine mkTup_ok (.tup (by simpa using hn) fun j u c hu hc=>?_);rw [List.getElem?_map] at hc
  obtain ⟨c',hc',rfl⟩:=Option.map_eq_some_iff.1 hc
  exact ih j u c' hu hc'
 | ifc _ ih=>exact mkIfc_ok ih
 | bm _ ih=>exact .bm ih
 | fn hn _ ih=>
  rw [AV.tr,AV.trGo_eq];refine mkFn_ok (by simpa using hn) fun j u c hu hc=>?_;rw [List.getElem?_map] at hc
  obtain ⟨c',hc',rfl⟩:=Option.map_eq_some_iff.1 hc
  exact ih j u c' hu hc'
 | mp hm hb=>
  rename_i r b m
  have h0:=hf _ _ _ _ (RV.ref (e:=0) (j:=0) hm hb)
  unfold AV.tr
  split
  ·rename_i q' e' j' hq
   rw [hq] at h0
   obtain ⟨m',b',hm',hb',e⟩:=h0.ref_inv
   simp only [Value.pointer.injEq,Option.some.injEq,Addr.mk.injEq] at e
   obtain ⟨rfl,_⟩:=e
   exact .mp hm' hb'
  ·exact .dead _
 | dead u=>exact .dead u
theorem ev_mfilt {keep:Nat→Bool} (hk:∀ r m,μ r=some m→keep r=false→Mv r):Ev Mv w μ w (mfilt keep μ):=by
 refine ⟨Nat.le_refl _,rfl,rfl,rfl,fun b hb hr=>⟨rfl,?_⟩,fun q mq hq hn=>?_⟩
 ·rintro ⟨q,mq,hq,hbq⟩
  exact hr ⟨q,mq,(mfilt_some hq).2,hbq⟩
 ·unfold mfilt
  cases h:keep q with
  | true=>simpa using hq
  | false=>exact absurd (hk q mq hq h) hn
theorem In.tr {keep:Nat→Bool} {o f:Nat→Nat→Nat→AV} (hi:In w X G μ N a σ) (ho:∀ u r off n,RV w X μ u (.own r off n)→RV w X (mfilt keep μ) u (o r off n)) (hf:∀ u r e j,RV w X μ u (.ref r e j)→RV w X (mfilt keep μ) u (f r e j)) :
  In w X G (mfilt keep μ) N a ⟨trE o f σ.env,trH keep o f σ.H⟩:=by
 have hX:∀ b,XX X (mfilt keep μ) b→XX X μ b:=fun b=>XX_mfilt
 have hRD:∀ {u:Value} {x:D},RD w (XX X μ) u x→RD w (XX X (mfilt keep μ)) u x:=fun h=>h.mono (Nat.le_refl _) fun b _ hb=>⟨rfl,fun e=>hb (hX b e)⟩
 have hRV:∀ {u:Value} {x:AV},RV w X μ u x→RV w X (mfilt keep μ) u (x.tr o f):=fun h=>RV.tr hX ho hf h
 refine ⟨⟨fun r row hr=>?_,fun r m hr=>?_,fun q q' m1 m2 b h1 h2 hb1 hb2=>hi.sim.inj q q' m1 m2 b (mfilt_some h1).2 (mfilt_some h2).2 hb1 hb2,fun q mq b hq hb=>hi.sim.frame q mq b (mfilt_some hq).2 hb,hi.sim.fits⟩,
  ⟨hi.env.defers,hi.env.size,fun i x hx=>?_⟩,fun g x hx=>hRD (hi.glob g x hx)⟩
 ·replace hr:trH keep o f σ.H r=some row:=hr
  unfold trH at hr
  split at hr
  ·rename_i hk
   obtain ⟨row0,h0,rfl⟩:=Option.map_eq_some_iff.1 hr
   obtain ⟨m,hm,ok⟩:=hi.sim.rows r row0 h0
   refine ⟨m,by simp [mfilt,hk,hm],?_⟩
   cases ok with
   | nil h1 h2=>exact .nil h1 h2
   | sl h1 h2 h3 h4 h5 h6 h7 h8 h9=>exact .sl h1 h2 h3 h4 h5 h6 h7 h8 fun i j el c he hc=>let ⟨u,hu,hr⟩:=h9 i j el c he hc;⟨u,hu,hRD hr⟩
   | box h1 h2 h3 h4 h5 h6 h7=>
    refine .box h1 rfl h3 h4 (by simpa using h5) (fun j u c hu hc=>?_) (by simpa using h7);rw [List.getElem?_map] at hc
    obtain ⟨c',hc',rfl⟩:=Option.map_eq_some_iff.1 hc
    exact hRV (h6 j u c' hu hc')
   | mp h1 h2 h3 h4=>exact .mp h1 h2 h3 fun i e p he hp=>let ⟨a,b,c⟩:=h4 i e p he hp;⟨a,b,hRD c⟩
   | it h1 h2 h3=>exact .it h1 h2 (hRD h3)
  ·cases hr
 ·obtain ⟨hk,hm⟩:=mfilt_some hr
  obtain ⟨row,hrow⟩:=hi.sim.dom r m hm
  exact ⟨row.tr o f,by simp [trH,hk,hrow]⟩
 ·replace hx:trE o f σ.env i=some x:=hx
  unfold trE at hx
  obtain ⟨x0,h0,rfl⟩:=Option.map_eq_some_iff.1 hx
  obtain ⟨u,hu,hr⟩:=hi.env.slot i x0 h0
  exact ⟨u,hu,hRV hr⟩
theorem RV.own_mfilt {keep:Nat→Bool} {u:Value} {r off n:Nat} (hk:keep r=true) (h:RV w X μ u (.own r off n)):RV w X (mfilt keep μ) u (.own r off n):=by
 obtain ⟨m,hm,hh⟩:=h.own_inv
 exact .own (by simp [mfilt,hk,hm]) hh
theorem RV.ref_mfilt {keep:Nat→Bool} {u:Value} {r e j:Nat} (hk:keep r=true) (h:RV w X μ u (.ref r e j)):RV w X (mfilt keep μ) u (.ref r e j):=by
 obtain ⟨m,b,hm,hb,rfl⟩:=h.ref_inv
 exact .ref (by simp [mfilt,hk,hm]) hb
def onlyO (ns:List Nat) (q off n:Nat):AV:=if ns.contains q then .own q off n else .dead
def onlyF (ns:List Nat) (q e j:Nat):AV:=if ns.contains q then .ref q e j else .dead
def liveR:List Nat→Heap→List (Nat×Row)
 | [],_=>[]
 | r :: l,H=>match H r with
  | some row=>(r,row) :: liveR l H
  | none=>liveR l H
theorem Imp.only (ns:List Nat) (hm:∀ r,ns.contains r=false→Mv r):Imp Mv X G N σ ⟨trE (onlyO ns) (onlyF ns) σ.env,trH ns.contains (onlyO ns) (onlyF ns) σ.H⟩:=fun w μ a hi=>by
 refine ⟨mfilt ns.contains μ,hi.tr (fun u r off n h=>?_) (fun u r e j h=>?_),ev_mfilt fun r _ _ h=>hm r h⟩
 ·unfold onlyO
  split
  ·rename_i hk;exact h.own_mfilt hk
  ·exact .dead u
 ·unfold onlyF
  split
  ·rename_i hk;exact h.ref_mfilt hk
  ·exact .dead u
theorem hlst_live {H:Heap}:∀ {l:List Nat} {r:Nat},hlst (liveR l H) r=if l.contains r then H r else none
 | [],r=>by simp [hlst,liveR]
 | q :: l,r=>by
  have ih:=hlst_live (H:=H) (l:=l) (r:=r)
  simp only [liveR]
  split
  ·rename_i row hrow
   simp only [hlst,List.lookup,List.contains_cons]
   split
   ·rename_i hrq
    have:r=q:=by simpa using hrq
    subst this;simp [hrow]
   ·rename_i hrq
    rw [hrq,Bool.false_or];exact ih
  ·rename_i hrow
   rw [ih,List.contains_cons]
   by_cases hrq:r=q
   ·subst hrq;simp [hrow]
   ·simp [hrq]
def St.norm (l ns:List Nat) (σ:St):St:=⟨lst (liveL l (trE (onlyO ns) (onlyF ns) σ.env)),hlst (liveR ns (trH ns.contains (onlyO ns) (onlyF ns) σ.H))⟩
theorem hlst_trH {ns:List Nat} {o f:Nat→Nat→Nat→AV} {H:Heap}:hlst (liveR ns (trH ns.contains o f H))=trH ns.contains o f H:=by
 funext r
 rw [hlst_live];unfold trH
 split<;>simp_all
theorem Imp.norm (l ns:List Nat) (hm:∀ r,ns.contains r=false→Mv r):Imp Mv X G N σ (σ.norm l ns):=by
 refine (Imp.only ns hm).trans ?_;unfold St.norm;rw [hlst_trH];exact Imp.env fun _ _=>lst_live
theorem Imp.to {e:Env} {H:Heap} {l:List (Nat×AV)} {rows:List (Nat×Row)} (hm:∀ r,(rows.map (·.1)).contains r=false→Mv r) (he:∀ p∈l,(e p.1).map (AV.tr (onlyO (rows.map (·.1))) (onlyF (rows.map (·.1))))=some p.2)
  (hH:∀ r,hlst rows r=trH (rows.map (·.1)).contains (onlyO (rows.map (·.1))) (onlyF (rows.map (·.1))) H r):Imp Mv X G N ⟨e,H⟩ ⟨Go.Av.lst l,hlst rows⟩:=by
 refine (Imp.only (rows.map (·.1)) hm).trans ?_
 have:hlst rows=trH (rows.map (·.1)).contains (onlyO (rows.map (·.1))) (onlyF (rows.map (·.1))) H:=funext hH
 rw [this];exact Imp.env fun i x hx=>he (i,x) (lst_mem hx)
theorem rowsEq {rows:List (Nat×Row)} {H:Heap} {o f:Nat→Nat→Nat→AV} (h:∀ p∈rows,(H p.1).map (Row.tr o f)=hlst rows p.1):∀ r,hlst rows r=trH (rows.map (·.1)).contains o f H r:=by
 intro r
 unfold trH
 split
 ·rename_i hk
  obtain ⟨p,hp,rfl⟩:=List.mem_map.1 (List.contains_iff_mem.1 hk)
  exact (h p hp).symm
 ·rename_i hk
  have:∀ l:List (Nat×Row),¬ (l.map (·.1)).contains r=true→hlst l r=none:=by
   intro l
   induction l with
   | nil=>intro _;rfl
   | cons q l ih=>
    intro hc
    simp only [List.map_cons,List.contains_cons,Bool.or_eq_true,not_or] at hc;simp only [hlst,List.lookup]
    split
    ·rename_i h1;exact absurd h1 hc.1
    ·exact ih hc.2
  exact this rows hk
theorem Imp.to' {e:Env} {H:Heap} {l:List (Nat×AV)} {rows:List (Nat×Row)} (hm:∀ r,(rows.map (·.1)).contains r=false→Mv r) (he:∀ p∈l,(e p.1).map (AV.tr (onlyO (rows.map (·.1))) (onlyF (rows.map (·.1))))=some p.2)
  (hH:∀ p∈rows,(H p.1).map (Row.tr (onlyO (rows.map (·.1))) (onlyF (rows.map (·.1))))=hlst rows p.1):Imp Mv X G N ⟨e,H⟩ ⟨Go.Av.lst l,hlst rows⟩:=Imp.to hm he (rowsEq hH)
def frzO (r:Nat) (els:List (List D)) (q off n:Nat):AV:=if q=r then (if off=0∧n=els.length then .d (.sl none els) else if off+n≤els.length then .d (.sl none ((els.drop off).take n)) else .dead) else .own q off n
def frzF (r:Nat) (q e j:Nat):AV:=if q=r then .dead else .ref q e j
def not1 (r:Nat) (q:Nat):Bool:=!(q == r)
def St.freeze (r:Nat) (σ:St):St:=match σ.H r with
 | some (.sl _ _ els)=>⟨trE (frzO r els) (frzF r) σ.env,trH (not1 r) (frzO r els) (frzF r) σ.H⟩
 | _=>σ
theorem Imp.freeze (r:Nat) (hm:Mv r):Imp Mv X G N σ (σ.freeze r):=fun w μ a hi=>by
 unfold St.freeze
 split
 ·rename_i ty sz els hr
  have hmu:(fun q=>if q=r then none else μ q)=mfilt (not1 r) μ:=by
   funext q
   unfold mfilt not1
   by_cases h:q=r<;>simp [h]
  refine ⟨mfilt (not1 r) μ,hi.tr (fun u q off n h=>?_) (fun u q e j h=>?_),ev_mfilt fun q _ _ hq=>by
   have e:q=r:=by simpa [not1] using hq
   exact e ▸ hm⟩
  ·unfold frzO
   split
   ·rename_i hq
    subst hq
    have hd:∀ {off n:Nat},RV w X μ u (.own q off n)→off+n≤els.length→RV w X (mfilt (not1 q) μ) u (.d (.sl none ((els.drop off).take n))):=fun h hle=>by
     obtain ⟨k,hk,_⟩:=own_reads hi.sim hr hle h
     rw [hmu] at hk;exact .d hk.weak
    split
    ·rename_i h2
     obtain ⟨rfl,rfl⟩:=h2
     have:=hd h (by omega)
     simpa using this
    ·split
     ·rename_i hle;exact hd h hle
     ·exact .dead u
   ·rename_i hq;exact h.own_mfilt (by simp [not1,hq])
  ·unfold frzF
   split
   ·exact .dead u
   ·rename_i hq;exact h.ref_mfilt (by simp [not1,hq])
 ·exact ⟨μ,hi,.refl _ w μ⟩
def frbF (r:Nat) (ds:List D) (q e j:Nat):AV:=if q=r then (if e=0 then .d (.ip (ds.drop j)) else .dead) else .ref q e j
def frbO (r:Nat) (q off n:Nat):AV:=if q=r then .dead else .own q off n
def St.freezeB (r:Nat) (σ:St):St:=match σ.H r with
 | some (.box _ cells)=>match allD cells with
  | some ds=>⟨trE (frbO r) (frbF r ds) σ.env,trH (not1 r) (frbO r) (frbF r ds) σ.H⟩
  | none=>σ
 | _=>σ
theorem Imp.freezeB (r:Nat) (hm:Mv r):Imp Mv X G N σ (σ.freezeB r):=fun w μ a hi=>by
 unfold St.freezeB
 split
 ·rename_i ty cells hr
  split
  ·rename_i ds hds
   refine ⟨mfilt (not1 r) μ,hi.tr (fun u q off n h=>?_) (fun u q e j h=>?_),ev_mfilt fun q _ _ hq=>by
    have e:q=r:=by simpa [not1] using hq
    exact e ▸ hm⟩
   ·unfold frbO
    split
    ·exact .dead u
    ·rename_i hq;exact h.own_mfilt (by simp [not1,hq])
   ·unfold frbF
    split
    ·rename_i hq
     subst hq
     split
     ·rename_i he
      subst he
      obtain ⟨m,b,hmq,hb,rfl⟩:=h.ref_inv
      obtain ⟨m',hm',ok⟩:=hi.sim.rows q _ hr
      rw [hmq] at hm'
      obtain rfl:=Option.some.inj hm'
      cases ok with
      | box hb' hsz hcap hh hn hrr hx9=>
       rename_i b' cur
       rw [hb] at hb'
       obtain rfl:=Option.some.inj hb'
       have hcells:=allD_eq hds
       have hlen:cells.length=ds.length:=by rw [hcells,List.length_map]
       simp only [Nat.zero_mul,Nat.zero_add];refine .d (.ip (f:=fun i=>cur.getD (j+i) undef) ?_ (Array.getElem?_eq_some_iff.1 hh).1 (fun i hi'=>?_) fun i d hd'=>?_)
       ·rintro (hX | ⟨q',m',hq',hbq'⟩)
        ·exact hi.sim.frame q m b hmq hb hX
        ·obtain ⟨hk,hmq'⟩:=mfilt_some hq'
         have:=hi.sim.inj q' q m' m b hmq' hmq hbq' hb
         simp [not1,this] at hk
       ·simp only [List.length_drop] at hi';rw [cell_of_row w b (j+i) cur ty (0,0) hh];simp [Array.getD_eq_getD_getElem?,show j+i < cur.size by omega]
       ·have hi':=(List.getElem?_eq_some_iff.1 hd').1
        simp only [List.length_drop] at hi';rw [List.getElem?_drop] at hd'
        have hc:cells[j+i]? = some (.d d):=by rw [hcells,List.getElem?_map,hd'];rfl
        have hlt:j+i < cur.size:=by omega
        have:=hrr (j+i) cur[j+i] (.d d) (by simp [hlt]) hc
        simp only [Array.getD_eq_getD_getElem?,hlt,Array.getElem?_eq_getElem,Option.getD_some];exact this.data.sub fun b=>XX_mfilt
     ·exact .dead u
    ·rename_i hq;exact h.ref_mfilt (by simp [not1,hq])
  ·exact ⟨μ,hi,.refl _ w μ⟩
 ·exact ⟨μ,hi,.refl _ w μ⟩
def St.frz (r:Nat) (σ:St):St:=(σ.freeze r).freezeB r
theorem Imp.frz (r:Nat) (hm:Mv r):Imp Mv X G N σ (σ.frz r):=(Imp.freeze r hm).trans (Imp.freezeB r hm)
theorem Imp.adopt (i r ty sz:Nat) {e:Env} {H:Heap} (hr:H r=none) (he:e i=some (.d (.sl (some false) []))):Imp Mv X G N ⟨e,H⟩ ⟨upd e i (.own r 0 0),hup H r (.sl ty sz [])⟩:=fun w μ a hi=>by
 obtain ⟨hin,ev⟩:=hi.alloc (Mv:=Mv) (w':=w) (m:=⟨none,sz,0⟩) hr (Grew.refl w) (by simp) (row:=.sl ty sz []) fun _=>.nil rfl rfl
 refine ⟨mup μ r ⟨none,sz,0⟩,⟨hin.sim,⟨hin.env.defers,hin.env.size,fun j x hx=>?_⟩,hin.glob⟩,ev⟩;simp only [upd] at hx
 split at hx
 ·rename_i hj
  subst hj
  obtain rfl:=Option.some.inj hx
  obtain ⟨u,hu,hrv⟩:=hi.env.slot j _ he
  refine ⟨u,hu,.own (m:=⟨none,sz,0⟩) (by simp [mup]) (.inl ⟨rfl,?_,rfl,rfl⟩)⟩
  rcases hrv.data.sl_inv with ⟨rfl,_⟩ | ⟨_,_,_,hk,_⟩
  ·rfl
  ·exact absurd rfl hk
 ·exact hin.env.slot j x hx
end
end Go.Av
namespace Go.Av
theorem bneD (a b:Int):(a != b)=decide (¬ a=b):=by by_cases h:a=b<;>simp [h]
theorem beqD (a b:Int):(a == b)=decide (a=b):=by by_cases h:a=b<;>simp [h]
theorem takeMap {α β:Type} (f:α→β) (l:List α):List.take l.length (List.map f l)=List.map f l:=List.take_of_length_le (by simp)
def rowsOf (H:Heap):Nat→AV→List Nat
 | 0,_=>[]
 | _+1,.own r _ _=>[r]
 | k+1,.ref r _ _=>match H r with
  | some (.box _ cells)=>go H k cells ++ [r]
  | _=>[]
 | k+1,.agg cells=>go H k cells
 | k+1,.ifc _ x=>rowsOf H k x
 | _+1,_=>[]
where
 go (H:Heap) (k:Nat):List AV→List Nat
 | []=>[]
 | x :: l=>rowsOf H k x ++ go H k l
def freezeL:List Nat→St→St
 | [],σ=>σ
 | r :: l,σ=>freezeL l (σ.frz r)
def preF (G:Glob) (o:Oper) (σ:St):St:=match o.op with
 | .buildSlice _ _ parts=>match evalP G σ.env parts.toList with
  | some ps=>freezeL (rowsOf.go σ.H 6 (ps.map (·.2))) σ
  | none=>σ
 | .mapUpdate _ _ _ v=>match aeval G σ.env v with
  | some x=>freezeL (rowsOf σ.H 6 x) σ
  | none=>σ
 | .insert _ _ _ v=>match aeval G σ.env v with
  | some x=>freezeL (rowsOf σ.H 6 x) σ
  | none=>σ
 | _=>σ
def preR (G:Glob) (o:Oper) (σ:St):List Nat:=match o.op with
 | .buildSlice _ _ parts=>match evalP G σ.env parts.toList with
  | some ps=>rowsOf.go σ.H 6 (ps.map (·.2))
  | none=>[]
 | .mapUpdate _ _ _ v=>match aeval G σ.env v with
  | some x=>rowsOf σ.H 6 x
  | none=>[]
 | .insert _ _ _ v=>match aeval G σ.env v with
  | some x=>rowsOf σ.H 6 x
  | none=>[]
 | _=>[]
def callK (P:Program) (Mv X:Nat→Prop) (G:Glob) (N:Fr) (g:FuncId) (xs:List AV) (σ:St) (dst:Option Tmp) (next:St→Prop):Prop:=
 callS P Mv X G N g xs σ fun x σ'=>next ⟨putd σ'.env dst x,σ'.H⟩
def callQ (P:Program) (G:Glob) (c:Call) (σ:St) (dst:Option Tmp) (next:St→Prop):Prop:=∃ y,callTo P G σ c y∧next ⟨putd σ.env dst (.d y),σ.H⟩
def exK (P:Program) (T:Ty) (Mv X:Nat→Prop) (G:Glob) (N:Fr) (o:Oper) (σ:St) (next:St→Prop):Prop:=match isCall o.op with
 | some c=>match tgt G σ.env c with
  | some (g,xs)=>callK P Mv X G N g xs σ o.dst next
  | none=>False
 | none=>(∀ r∈preR G o σ,Mv r)∧plainS T G Mv o (preF G o σ) next
def sxf (P:Program) (T:Ty) (Mv X:Nat→Prop) (G:Glob) (N:Fr) (ops:Array Oper) (K:St→Prop):List Oper→St→Prop
 | [],σ=>K σ
 | o :: rest,σ=>okDst N o∧match wantedS ops σ.env o with
  | some b=>if b=true then exK P T Mv X G N o σ (sxf P T Mv X G N ops K rest) else sxf P T Mv X G N ops K rest ⟨putd σ.env o.dst und,σ.H⟩
  | none=>False
def sxd (P:Program) (T:Ty) (Mv:Nat→Prop) (G:Glob) (N:Fr) (ops:Array Oper) (K:St→Prop):List Oper→St→Prop
 | [],σ=>K σ
 | o :: rest,σ=>okDst N o∧match wantedS ops σ.env o with
  | some b=>if b=true then (match isCall o.op with
    | some c=>callQ P G c σ o.dst (sxd P T Mv G N ops K rest)
    | none=>plainS T G Mv o σ (sxd P T Mv G N ops K rest)) else sxd P T Mv G N ops K rest ⟨putd σ.env o.dst und,σ.H⟩
  | none=>False
section
variable {P:Program} {T:Ty} {Mv X:Nat→Prop} {G:Glob} {N:Fr} {w:World} {μ:Mu} {a:Act} {σ:St}
theorem sxd_eq {ops:Array Oper} {K:St→Prop}:∀ (l:List Oper),sxd P T Mv G N ops K l=sxq P T Mv G N ops K l
 | []=>rfl
 | o :: l=>by
  funext σ
  simp only [sxd,sxq,callQ,sxd_eq l]
  all_goals rfl
theorem Imp.freezeL:∀ (l:List Nat) {σ:St},(∀ r∈l,Mv r)→Imp Mv X G N σ (Go.Av.freezeL l σ)
 | [],σ,_=>.refl σ
 | r :: l,_,hm=>(Imp.frz r (hm r (by simp))).trans (Imp.freezeL l fun q hq=>hm q (by simp [hq]))
theorem Imp.preF (o:Oper) (hm:∀ r∈preR G o σ,Mv r):Imp Mv X G N σ (Go.Av.preF G o σ):=by
 unfold Go.Av.preF;unfold preR at hm
 split
 ·rename_i ho
  simp only [ho] at hm
  split
  ·rename_i hp
   simp only [hp] at hm;exact .freezeL _ hm
  ·exact .refl σ
 ·rename_i ho
  simp only [ho] at hm
  split
  ·rename_i hp
   simp only [hp] at hm;exact .freezeL _ hm
  ·exact .refl σ
 ·rename_i ho
  simp only [ho] at hm
  split
  ·rename_i hp
   simp only [hp] at hm;exact .freezeL _ hm
  ·exact .refl σ
 ·exact .refl σ
theorem exK_ok (hg:Good P T) (hi:In w X G μ N a σ) {o:Oper} {K:St→Prop} (hd:∀ d,o.dst=some d→d < N.n) (h:exK P T Mv X G N o σ K) {Q:Exit→Act→World→Prop} {next:Act→World→Prop}
  (hk:∀ w' μ' a' σ',K σ'→In w' X G μ' N a' σ'→Ev Mv w μ w' μ'→next a' w'):o.wpIn (wd N.ro) 0 P a w next Q:=by
 unfold exK at h
 split at h
 ·rename_i c hc
  refine ex1_ok (Mv:=Mv) hg hi hd ?_ hk;unfold ex1;rw [hc]
  dsimp only
  split at h
  ·rename_i ht
   rw [ht];exact h
  ·exact h.elim
 ·rename_i hc
  obtain ⟨μ1,hi1,ev1⟩:=Imp.preF (Mv:=Mv) (X:=X) o h.1 w μ a hi
  refine ex1_ok (Mv:=Mv) hg hi1 (K:=K) hd ?_ fun w' μ' a' σ' k hin hev=>hk w' μ' a' σ' k hin (ev1.trans hev);unfold ex1;rw [hc];exact h.2
theorem sxf_ok (hg:Good P T) {ops:Array Oper} {Q:Exit→St→Prop} {w0:World} {μ0:Mu}:∀ (l:List Oper) (k:Nat) (w:World) (μ:Mu) (a:Act) (σ:St),(∀ j,l[j]? = ops[k+j]?)→sxf P T Mv X G N ops (fun σ'=>Q .normal σ') l σ→In w X G μ N a σ→Ev Mv w0 μ0 w μ→
  wpOpsIn (wd N.ro) 0 P ops (After Mv X G N w0 μ0 Q) (List.range' k l.length) a w:=by
 intro l
 induction l with
 | nil=>intro k w μ a σ _ h hi hev;exact ⟨μ,σ,h,hi,hev⟩
 | cons o l ih=>
  intro k w μ a σ hl h hi hev
  have h0:ops[k]? = some o:=by simpa using (hl 0).symm
  have hl':∀ j,l[j]? = ops[k+1+j]?:=fun j=>by have:=hl (j+1);simpa [Nat.add_assoc,Nat.add_comm 1 j] using this
  obtain ⟨hd,h⟩:=h
  have hd':∀ d,o.dst=some d→d < N.n:=fun d e=>by unfold okDst at hd;rw [e] at hd;exact hd
  rw [List.length_cons,List.range'_succ];simp only [wpOpsIn,h0]
  split at h
  ·rename_i b hb
   rw [wantedS_ok hi hb]
   split at h
   ·rename_i hbt
    subst hbt;rw [if_pos rfl];exact (exK_ok hg hi hd' h fun w' μ' a' σ' k' hin hev'=>ih (k+1) w' μ' a' σ' hl' k' hin (hev.trans hev'))
   ·rename_i hbf
    rw [if_neg (by simpa using hbf)];exact ⟨fun _ _=>trivial,ih (k+1) w μ _ _ hl' h (hi.put (.d (.v _)) hd') hev⟩
  ·exact h.elim
theorem AW_regionF (hg:Good P T) {id:Nat} {ops:Array Oper} {Q:Exit→St→Prop} (h:sxf P T Mv X G N ops (fun σ'=>Q .normal σ') ops.toList σ):AW P Mv X G N (.region id ops false) Q σ:=fun w μ a hi=>by
 refine wpIn_region ?_
 have:=sxf_ok hg ops.toList 0 w μ a σ (by simp) h hi (.refl _ w μ)
 rwa [← List.range_eq_range',Array.length_toList] at this
theorem AW_regionD (hg:Good P T) (hm:P.follows .mixedOrders=true) {id:Nat} {ops:Array Oper} (hok:okDraw ops=true) {Q:Exit→St→Prop} (h:sxd P T Mv G N ops (fun σ'=>Q .normal σ') ops.toList σ):AW P Mv X G N (.region id ops true) Q σ:=by
 rw [sxd_eq] at h;exact AW_region_draw hg hm hok h
theorem AW.norm (l ns:List Nat) (hM:∀ r,ns.contains r=false→Mv r) {c:Code} {Q:Exit→St→Prop} (h:AW P Mv X G N c Q (σ.norm l ns)):AW P Mv X G N c Q σ:=AW.imp (Imp.norm l ns hM) h
theorem AW.st {τ:St} {c:Code} {Q:Exit→St→Prop} (h:σ=τ) (h':AW P Mv X G N c Q τ):AW P Mv X G N c Q σ:=h ▸ h'
theorem AW.nilCase (i:Nat) {e:Env} {H:Heap} {els:List (List D)} {c:Code} {Q:Exit→St→Prop} (he:e i=some (.d (.sl none els))) (h1:AW P Mv X G N c Q ⟨upd e i (.d (.sl (some true) els)),H⟩)
  (h2:els=[]→AW P Mv X G N c Q ⟨upd e i (.d (.sl (some false) [])),H⟩):AW P Mv X G N c Q ⟨e,H⟩:=fun w μ a hi=>by
 obtain ⟨u,hu,hr⟩:=hi.env.slot i _ he
 have put:∀ {y:D},RD w (XX X μ) u y→In w X G μ N a ⟨upd e i (.d y),H⟩:=fun hy=>⟨hi.sim,⟨hi.env.defers,hi.env.size,fun j x hx=>by
  simp only [upd] at hx
  split at hx
  ·rename_i hj;subst hj;obtain rfl:=Option.some.inj hx;exact ⟨u,hu,.d hy⟩
  ·exact hi.env.slot j x hx⟩,hi.glob⟩
 have hd:=hr.data
 generalize hy:D.sl none els=y at hd
 cases hd with
 | nil hk=>cases hy;exact h2 rfl w μ a (put (.nil (by simp)))
 | empty hk hm=>cases hy;exact h1 w μ a (put (.empty (by simp) hm))
 | sl a1 a2 a3 a4 a5 a6 a7 a8 a9 a10=>cases hy;exact h1 w μ a (put (.sl (by simp) a2 a3 a4 a5 a6 a7 a8 a9 a10))
 | _=>cases hy
theorem AW_rg (hg:Good P T) (l ns:List Nat) (hM:∀ r,ns.contains r=false→Mv r) {id:Nat} {ops:Array Oper} {y:Code} {Q:Exit→St→Prop} (h:∀ K:St→Prop,(∀ τ:St,AW P Mv X G N y Q (τ.norm l ns)→K τ)→sxf P T Mv X G N ops K ops.toList σ):AW P Mv X G N (.seq (.region id ops false) y) Q σ:=
 AW_seq (AW_regionF hg (h _ fun _ h=>h.norm l ns hM))
theorem rg {P:Program} {Mv X:Nat→Prop} {G:Glob} {N:Fr} {σ:St} (l ns:List Nat) (hM:∀ r,ns.contains r=false→Mv r) {id:Nat} {ops:Array Oper} {y:Code} {Q:Exit→St→Prop} (h:∀ K:St→Prop,(∀ τ:St,AW P Mv X G N y Q (τ.norm l ns)→K τ)→sxf P (tyOf P) Mv X G N ops K ops.toList σ):AW P Mv X G N (.seq (.region id ops false) y) Q σ:=AW_rg (tyOf_good _) l ns hM h
theorem AW_rd (hg:Good P T) (hm:P.follows .mixedOrders=true) (l ns:List Nat) (hM:∀ r,ns.contains r=false→Mv r) {id:Nat} {ops:Array Oper} (hok:okDraw ops=true) {y:Code} {Q:Exit→St→Prop} (h:∀ K:St→Prop,(∀ τ:St,AW P Mv X G N y Q (τ.norm l ns)→K τ)→sxd P T Mv G N ops K ops.toList σ):AW P Mv X G N (.seq (.region id ops true) y) Q σ:=
 AW_seq (AW_regionD hg hm hok (h _ fun _ h=>h.norm l ns hM))
theorem AW_re (hg:Good P T) {id:Nat} {ops:Array Oper} {Q:Exit→St→Prop} (h:∀ K:St→Prop,(∀ τ:St,Q .normal τ→K τ)→sxf P T Mv X G N ops K ops.toList σ):AW P Mv X G N (.region id ops false) Q σ:=
 AW_regionF hg (h _ fun _ h=>h)
def resOne (T:Ty) (σ:St):ResultVar→Ans
 | .tmp t=>(σ.env t).map fun x=>(True,x)
 | .cell a t=>(σ.env a).bind (loadA T σ.H t)
def resAll (T:Ty) (σ:St):List ResultVar→Option (Prop×List AV)
 | []=>some (True,[])
 | r :: l=>match resOne T σ r,resAll T σ l with
  | some (c,x),some (c',xs)=>some (c∧c',x :: xs)
  | _,_=>none
def oneOf:List AV→AV
 | [x]=>x
 | l=>mkTup l
def D.le:D→D→Prop
 | .sl k els,.sl k' els'=>(k'=none∨k=k')∧els=els'
 | .tup l,.tup l'=>go l l'
 | .agg l,.agg l'=>go l l'
 | .ip l,.ip l'=>go l l'
 | .ifc t x,.ifc t' x'=>t=t'∧x.le x'
 | .fn f l,.fn f' l'=>f=f'∧go l l'
 | .dm x l,.dm x' l'=>(x'=true→x=true∧l=l')∧l.Perm l'
 | x,y=>x=y
where
 go:List D→List D→Prop
 | [],[]=>True
 | x :: l,y :: l'=>x.le y∧go l l'
 | _,_=>False
def endD (T:Ty) (rs:List ResultVar) (y:D) (σ:St):Prop:=match resAll T σ rs with
 | some (c,xs)=>c∧match asD σ.H 6 (oneOf xs) with
  | some y'=>y'.le y
  | none=>False
 | none=>False
def atEndD (T:Ty) (rs:List ResultVar) (y:D):Exit→St→Prop
 | .normal,σ | .ret,σ=>endD T rs y σ
 | _,_=>False
theorem D.le_go:∀ {l l':List D},D.le.go l l'→l.length=l'.length∧∀ (j:Nat) (x y:D),l[j]? = some x→l'[j]? = some y→x.le y
 | [],[],_=>⟨rfl,by simp⟩
 | x :: l,y :: l',h=>by
  simp only [D.le.go] at h
  obtain ⟨h1,h2⟩:=D.le_go h.2
  refine ⟨by simp [h1],fun j a b ha hb=>?_⟩
  cases j with
  | zero=>simp at ha hb;subst ha hb;exact h.1
  | succ j=>simp at ha hb;exact h2 j a b ha hb
 | [],_ :: _,h=>by simp only [D.le.go] at h
 | _ :: _,[],h=>by simp only [D.le.go] at h
theorem D.le_at {l l':List D} (hg:D.le.go l l') {j:Nat} {c:D} (hc:l'[j]? = some c):∃ x,l[j]? = some x∧x.le c:=by
 obtain ⟨hl,hh⟩:=D.le_go hg
 have hj:=(List.getElem?_eq_some_iff.1 hc).1
 have hj':j < l.length:=by omega
 exact ⟨l[j],by simp [hj'],hh j _ c (by simp [hj']) hc⟩
theorem RD.le {w:World} {X:Nat→Prop} {u:Value} {x:D} (hr:RD w X u x):∀ {y:D},x.le y→RD w X u y:=by
 induction hr with
 | v x=>intro y h;cases y<;>simp only [D.le,reduceCtorEq] at h;exact h ▸ .v x
 | nil hk=>
  intro y h
  cases y<;>simp only [D.le,reduceCtorEq] at h
  obtain ⟨h1 | h1,rfl⟩:=h
  ·exact .nil (by simp [h1])
  ·exact .nil (h1 ▸ hk)
 | empty hk hm=>
  intro y h
  cases y<;>simp only [D.le,reduceCtorEq] at h
  obtain ⟨h1 | h1,rfl⟩:=h
  ·exact .empty (by simp [h1]) hm
  ·exact .empty (h1 ▸ hk) hm
 | sl h1 h2 h3 h4 h5 h6 h7 h8 h9 h10=>
  intro y h
  cases y<;>simp only [D.le,reduceCtorEq] at h
  obtain ⟨e1 | e1,rfl⟩:=h
  ·exact .sl (by simp [e1]) h2 h3 h4 h5 h6 h7 h8 h9 h10
  ·exact .sl (e1 ▸ h1) h2 h3 h4 h5 h6 h7 h8 h9 h10
 | ip hX hb hcell hr ih=>
  intro y h
  cases y<;>simp only [D.le,reduceCtorEq] at h
  obtain ⟨hl,_⟩:=D.le_go h
  refine .ip hX hb (fun j hj=>hcell j (by omega)) fun j c hc=>?_
  obtain ⟨x,hx,hle⟩:=D.le_at h hc
  exact ih j x hx hle
 | agg hn hr ih=>
  intro y h
  cases y<;>simp only [D.le,reduceCtorEq] at h
  obtain ⟨hl,_⟩:=D.le_go h
  refine .agg (by omega) fun j u c hu hc=>?_
  obtain ⟨x,hx,hle⟩:=D.le_at h hc
  exact ih j u x hu hx hle
 | tup hn hr ih=>
  intro y h
  cases y<;>simp only [D.le,reduceCtorEq] at h
  obtain ⟨hl,_⟩:=D.le_go h
  refine .tup (by omega) fun j u c hu hc=>?_
  obtain ⟨x,hx,hle⟩:=D.le_at h hc
  exact ih j u x hu hx hle
 | ifc hr ih=>
  intro y h
  cases y<;>simp only [D.le,reduceCtorEq] at h
  obtain ⟨rfl,h⟩:=h
  exact .ifc (ih h)
 | tab hX hh=>
  intro y h
  cases y<;>simp only [D.le,reduceCtorEq] at h
  injection h with h
  exact h ▸ .tab hX hh
 | dm hX hh hp hx=>
  intro y h
  cases y<;>simp only [D.le,reduceCtorEq] at h
  exact .dm hX hh (hp.trans h.2) fun e=>(hx (h.1 e).1).trans (h.1 e).2
 | fn hn hr ih=>
  intro y h
  cases y<;>simp only [D.le,reduceCtorEq] at h
  obtain ⟨rfl,h⟩:=h
  obtain ⟨hl,_⟩:=D.le_go h
  refine .fn (by omega) fun j u c hu hc=>?_
  obtain ⟨x,hx,hle⟩:=D.le_at h hc
  exact ih j u x hu hx hle
theorem PureC.weak {g:FuncId} {ds ds':List D} {y:D} (hc:PureC P G g ds y) (h:D.le.go ds' ds):PureC P G g ds' y:=by
 refine ⟨hc.1,fun X w μ vs hs hgl hn hv=>hc.2 X w μ vs hs hgl (by simpa [(D.le_go h).1] using hn) fun i u x hu hx=>?_⟩;rw [List.getElem?_map] at hx
 obtain ⟨d,hd,rfl⟩:=Option.map_eq_some_iff.1 hx
 obtain ⟨x,hx,hle⟩:=D.le_at h hd
 exact .d ((hv i u (.d x) hu (by rw [List.getElem?_map,hx];rfl)).data.le hle)
theorem callK.data {g:FuncId} {xs:List AV} {ds ds':List D} {y:D} {dst:Option Tmp} {next:St→Prop} (hc:PureC P G g ds y) (hx:allD xs=some ds') (hle:D.le.go ds' ds) (h:next ⟨putd σ.env dst (.d y),σ.H⟩):callK P Mv X G N g xs σ dst next:=by
 unfold callK;rw [allD_eq hx];exact callS.pure (hc.weak hle) h
theorem callK.lend {g:FuncId} {xs:List AV} {ds ds':List D} {y:D} {dst:Option Tmp} {next:St→Prop} (hc:PureC P G g ds y) (hx:asDs (asD σ.H 4) xs=some ds') (hle:D.le.go ds' ds) (hy:y.scalar=true) (h:next ⟨putd σ.env dst (.d y),σ.H⟩):callK P Mv X G N g xs σ dst next:=
 callS.lend hx (hc.weak hle) hy h
theorem callQ.data {c:Call} {g:FuncId} {xs:List AV} {ds ds':List D} {y:D} {dst:Option Tmp} {next:St→Prop} (hc:PureC P G g ds y) (ht:tgt G σ.env c=some (g,xs)) (hx:allD xs=some ds') (hle:D.le.go ds' ds) (h:next ⟨putd σ.env dst (.d y),σ.H⟩):callQ P G c σ dst next:=
 ⟨y,⟨g,xs,ht,.inl ⟨ds',allD_eq hx,hc.weak hle⟩⟩,h⟩
theorem callQ.lend {c:Call} {g:FuncId} {xs:List AV} {ds ds':List D} {y:D} {dst:Option Tmp} {next:St→Prop} (hc:PureC P G g ds y) (ht:tgt G σ.env c=some (g,xs)) (hx:asDs (asD σ.H 4) xs=some ds') (hle:D.le.go ds' ds) (hy:y.scalar=true) (h:next ⟨putd σ.env dst (.d y),σ.H⟩):callQ P G c σ dst next:=
 ⟨y,⟨g,xs,ht,.inr ⟨ds',hx,hy,hc.weak hle⟩⟩,h⟩
theorem asDs_map (H:Heap) (k:Nat):∀ (ds:List D),asDs (asD H k) (ds.map .d)=some ds
 | []=>rfl
 | d :: ds=>by simp [asDs,asDs_map H k ds];cases k<;>simp [asD]
theorem D.le_refl (x:D):x.le x:=by
 have key:∀ n,∀ x:D,SizeOf.sizeOf x < n→x.le x:=by
  intro n
  induction n with
  | zero=>intro x h;omega
  | succ n ih=>
   intro x h
   have go:∀ l:List D,SizeOf.sizeOf l < n→D.le.go l l:=by
    intro l
    induction l with
    | nil=>intro _;simp [D.le.go]
    | cons y l ihl=>
     intro hl
     simp only [List.cons.sizeOf_spec] at hl;exact ⟨ih y (by omega),ihl (by omega)⟩
   cases x<;>simp only [D.le]<;>simp at h ⊢
   ·exact go _ (by omega)
   ·exact go _ (by omega)
   ·exact go _ (by omega)
   ·exact ih _ (by omega)
   ·exact go _ (by omega)
 exact key _ x (Nat.lt_succ_self _)
theorem D.leGo_refl:∀ l:List D,D.le.go l l
 | []=>trivial
 | x :: l=>⟨D.le_refl x,D.leGo_refl l⟩
theorem resOne_ok (hg:Good P T) (hi:In w X G μ N a σ) {r:ResultVar} {c:Prop} {x:AV} (h:resOne T σ r=some (c,x)) (hc:c) :
  ∃ v,(match r with | .tmp t=>(pure (a.tmps.getD t undef):Sem Value) | .cell b t=>do loadVar t (← asAddr (a.tmps.getD b undef))).run P w = .ok v w∧RV w X μ v x:=by
 cases r with
 | tmp t=>
  simp only [resOne,Option.map_eq_some_iff,Prod.mk.injEq] at h
  obtain ⟨y,hy,_,rfl⟩:=h
  obtain ⟨u,hu,hr⟩:=hi.env.slot t y hy
  exact ⟨u,by simp [Array.getD_eq_getD_getElem?,hu],hr⟩
 | cell b t=>
  obtain ⟨y,hy,hl⟩:=Option.bind_eq_some_iff.1 h
  obtain ⟨u,hu,hr⟩:=hi.env.slot b y hy
  obtain ⟨v,hv,hrv⟩:=loadA_ok (P:=P) hg hi.sim hl hc hr
  refine ⟨v,?_,hrv⟩
  have e:a.tmps.getD b undef=u:=by simp [Array.getD_eq_getD_getElem?,hu]
  dsimp only
  rw [e];unfold loadA at hl
  split at hl
  ·obtain ⟨b,off,f,rfl,_⟩:=hr.data.ip_inv
   simpa [Instr.loadAt,Instr.sureAddr,asAddr] using hv
  ·obtain ⟨m,b,hm,hb,rfl⟩:=hr.ref_inv
   simpa [Instr.loadAt,Instr.sureAddr,asAddr] using hv
  ·cases hl
theorem resAll_ok (hg:Good P T) (hi:In w X G μ N a σ):∀ {rs:List ResultVar} {c:Prop} {xs:List AV},resAll T σ rs=some (c,xs)→c→
  ∃ vs:List Value,(rs.mapM (m:=Sem) fun | .tmp t=>pure (a.tmps.getD t undef) | .cell b t=>do loadVar t (← asAddr (a.tmps.getD b undef))).run P w = .ok vs w∧vs.length=xs.length∧∀ (j:Nat) (u:Value) (x:AV),vs[j]? = some u→xs[j]? = some x→RV w X μ u x:=by
 intro rs
 induction rs with
 | nil=>
  intro c xs h hc
  simp only [resAll,Option.some.injEq,Prod.mk.injEq] at h
  obtain ⟨_,rfl⟩:=h
  exact ⟨[],by simp,rfl,by simp⟩
 | cons r rs ih=>
  intro c xs h hc
  simp only [resAll] at h
  split at h
  ·rename_i c1 x c2 xs' h1 h2
   simp only [Option.some.injEq,Prod.mk.injEq] at h
   obtain ⟨rfl,rfl⟩:=h
   obtain ⟨v,hv,hr⟩:=resOne_ok (P:=P) hg hi h1 hc.1
   obtain ⟨vs,hvs,hl,hrs⟩:=ih h2 hc.2
   refine ⟨v :: vs,?_,by simp [hl],fun j u x hu hx=>?_⟩
   ·rw [List.mapM_cons,Sem.run_bind,hv,Result.andThen_ok,Sem.run_bind,hvs,Result.andThen_ok,Sem.run_pure]
   ·cases j with
    | zero=>simp at hu hx;subst hu hx;exact hr
    | succ j=>simp at hu hx;exact hrs j u x hu hx
  ·cases h
theorem results_ok (hg:Good P T) (hi:In w X G μ N a σ) {fn:Func} {rs:List ResultVar} (hrs:fn.results=rs.toArray) {c:Prop} {xs:List AV} (h:resAll T σ rs=some (c,xs)) (hc:c) :
  ∃ v,(results fn a.tmps).run P w = .ok v w∧RV w X μ v (oneOf xs):=by
 obtain ⟨vs,hvs,hl,hr⟩:=resAll_ok (P:=P) hg hi h hc
 refine ⟨if h:vs.toArray.size=1 then vs.toArray[0] else .tuple vs.toArray,?_,?_⟩
 ·unfold results;rw [hrs,Array.mapM_eq_mapM_toList,Sem.run_bind];simp only [map_eq_pure_bind,Sem.run_bind]
  erw [hvs]
  rfl
 ·match xs,vs,hl,hr with
  | [],[],_,hr=>exact mkTup_ok (l:=[]) (.tup (arr:=#[]) (cells:=[]) rfl (by simp))
  | [x],[v],_,hr=>exact hr 0 v x rfl rfl
  | x :: y :: xs,v :: u :: vs,hl,hr=>
   have:¬ (v :: u :: vs).toArray.size=1:=by simp
   rw [dif_neg this];exact mkTup_ok (.tup (by simpa using hl) fun j u c hu hc=>hr j u c (by simpa using hu) hc)
theorem PureC.of_body (hg:Good P T) {g:FuncId} {fn:Func} {c:Code} {rs:List ResultVar} {ds:List D} {y:D} (hf:P.funcs[g]? = some fn) (hb:fn.body=some c) (hn:(fn.name == "runtime.NumGoroutine")=false) (hrs:fn.results=rs.toArray)
  (hN:ds.length≤fn.ntmps) (h:∀ X,AW P (fun _=>True) X G ⟨fn.ntmps,[],none⟩ c (atEndD T rs y) ⟨args (ds.map .d),hno⟩):PureC P G g ds y:=by
 refine ⟨Fun.of hf hb hn,fun X w μ vs hs hgl hsz hv=>?_⟩
 have fin:∀ (w':World) (μ':Mu) (a':Act) (σ':St),endD T rs y σ'→In w' X G μ' ⟨fn.ntmps,[],none⟩ a' σ'→Ev (fun _=>True) w μ w' μ'→∃ v,(results fn a'.tmps).run P w' = .ok v w'∧∃ v_1 x H' μ',Ending.returned v=Ending.returned v_1∧(x = .d y∧H'=hno)∧RV w' X μ' v_1 x∧Sim w' X μ' H'∧Ev (fun _=>True) w μ w' μ':=by
  intro w' μ' a' σ' he hi hev
  unfold endD at he
  split at he
  ·rename_i c xs hx
   obtain ⟨hc,he⟩:=he
   split at he
   ·rename_i y' hy
    obtain ⟨v,hv,hr⟩:=results_ok (P:=P) hg hi hrs hx hc
    have hrd:=(asD_ok hi.sim 6 hy hr).le he
    refine ⟨v,hv,v,.d y,hno,fun _=>none,rfl,⟨rfl,rfl⟩,.d (hrd.sub fun b=>XX_none.1),Sim.none hi.sim.fits,hev.size,hev.os,hev.tape,hev.output,fun b hb hr=>⟨(hev.same b hb hr).1,fun ⟨_,_,h,_⟩=>by cases h⟩,fun r m _ hn=>absurd trivial hn⟩
   ·exact he.elim
  ·exact he.elim
 refine calls_of_wp hf hb ((wpIn_wide (n:=0)).1 (wpIn_mono (h X w μ _ ⟨hs,⟨rfl,by simp;simp at hsz;omega,fun i x hx=>?_⟩,hgl⟩) fun e a' w' ⟨μ',σ',q,i,ev⟩=>?_))
 ·simp only [args] at hx
  have hi:i < (ds.map AV.d).length:=(List.getElem?_eq_some_iff.1 hx).1
  have hvi:vs[i]? = some vs[i]:=by rw [Array.getElem?_eq_getElem]
  exact ⟨vs[i],by rw [Array.getElem?_append_left (by omega),hvi],hv i _ x hvi hx⟩
 ·cases e with
  | normal=>
   obtain ⟨v,hv,rest⟩:=fin w' μ' a' σ' q i ev
   exact ⟨i.env.defers,v,hv,rest⟩
  | ret=>
   obtain ⟨v,hv,rest⟩:=fin w' μ' a' σ' q i ev
   exact ⟨i.env.defers,v,hv,rest⟩
  | _=>exact q.elim
end
end Go.Av
namespace Go.Av
section
variable {P:Program} {T:Ty} {Mv X:Nat→Prop} {G:Glob} {N:Fr} {ops:Array Oper}
def appOps (o:Oper):Option (Operand×Operand):=match o.op with
 | .call { callee:=.builtin .append,args,argTypes }=>match args.toList,argTypes.toList with
  | [x,y],[t,t']=>if t=t' then some (x,y) else none
  | _,_=>none
 | _=>none
def appV (T:Ty) (Mv:Nat→Prop) (o:Oper) (r off n ty sz:Nat) (els news:List (List D)):Option (Prop×Nat×Row):=match o.op,o.dst with
 | .call { callee:=.builtin .append,args,argTypes },some _=>match args.toList,argTypes.toList with
  | [_,_],[t,t']=>if t=t' then match T t with
   | some tt=>match tt.desc with
    | .slice e=>match T e with
     | some te=>some (off=0∧Mv r∧ty=e∧sz=te.size∧n≤els.length∧(∀ el∈news,el.length=te.size)∧(∀ el∈news,∀ c∈el,D.one c=true)∧0 < te.size∧(zeroD te.zero).length=te.size∧n+news.length≤9223372036854775807∧(n+news.length) * te.bytes≤140737488355328,
       n+news.length,.sl e te.size (els.take n ++ news))
     | none=>none
    | _=>none
   | none=>none
  else none
  | _,_=>none
 | _,_=>none
def fromRow (s:Nat):AV→Prop
 | .own q _ _=>q=s
 | _=>True
def AppS (T:Ty) (G:Glob) (Mv:Nat→Prop) (o:Oper) (e:Env) (H:Heap) (r s m:Nat) (row:Row):Prop:=
 ∃ x y off n v ty sz els news c,appOps o=some (x,y)∧aeval G e x=some (.own r off n)∧aeval G e y=some v∧fromRow s v∧H r=some (.sl ty sz els)∧newsOf H r v=some news∧appV T Mv o r off n ty sz els news=some (c,m,row)∧c
theorem appOps_op {o:Oper} {x y:Operand} (h:appOps o=some (x,y)):∃ t t',o.op = .call { callee:=.builtin .append,args:=#[x,y],argTypes:=#[t,t'] }∧t=t':=by
 unfold appOps at h
 split at h
 ·rename_i args argTypes hop
  split at h
  ·rename_i x' y' t t' ha ht
   split at h
   ·rename_i htt
    simp only [Option.some.injEq,Prod.mk.injEq] at h
    obtain ⟨rfl,rfl⟩:=h
    have e1:args = #[x',y']:=Array.toList_inj.1 ha
    have e2:argTypes = #[t,t']:=Array.toList_inj.1 ht
    exact ⟨t,t',by rw [hop,e1,e2],htt⟩
   ·cases h
  ·cases h
 ·cases h
theorem AppS.row {o:Oper} {e:Env} {H:Heap} {r s m:Nat} {row:Row} (h:AppS T G Mv o e H r s m row):(∃ ty sz els,row = .sl ty sz els)∧(∃ ty sz els,H r=some (.sl ty sz els))∧(∃ d,o.dst=some d):=by
 obtain ⟨x,y,off,n,v,ty,sz,els,news,c,h1,h2,h3,h4,h5,h6,h7,h8⟩:=h
 unfold appV at h7;repeat' split at h7
 all_goals first
  | cases h7;done
  | (simp only [Option.some.injEq, Prod.mk.injEq] at h7
     obtain ⟨_,_,rfl⟩:=h7
     exact ⟨⟨_,_,_,rfl⟩,⟨_,_,_,h5⟩,⟨_,by assumption⟩⟩)
theorem AppS.to {o:Oper} {e:Env} {H:Heap} {r s m:Nat} {row:Row} (h:AppS T G Mv o e H r s m row):exTo P T Mv G o ⟨e,H⟩ ⟨putd (killE r e) o.dst (.own r 0 m),hup (killH r H) r row⟩:=by
 obtain ⟨x,y,off,n,v,ty,sz,els,news,c,h1,h2,h3,h4,h5,h6,h7,h8⟩:=h
 obtain ⟨t,t',hop,htt0⟩:=appOps_op h1
 obtain ⟨dst,op,type,pos,after,guard⟩:=o
 dsimp only at hop
 subst hop;unfold exTo;simp only [isCall,isWr,if_true];unfold appV at h7
 dsimp only at h7
 cases dst with
 | none=>cases h7
 | some d=>
  simp only [List.toList_toArray] at h7;refine ⟨c,.own r 0 m,⟨killE r e,hup (killH r H) r row⟩,?_,h8,rfl⟩;unfold wr
  dsimp only
  subst htt0;rw [if_pos rfl] at h7
  split at h7
  ·rename_i tt hT
   split at h7
   ·rename_i ety hd
    split at h7
    ·rename_i te hte
     simp only [Option.some.injEq,Prod.mk.injEq] at h7
     obtain ⟨rfl,rfl,rfl⟩:=h7
     simp [hT,hd,hte,h2,h3,h5,h6]
    ·cases h7
   ·cases h7
  ·cases h7
theorem AppS.of {o:Oper} {e:Env} {H:Heap} {r s off n:Nat} {x y:Operand} {v:AV} {c:Prop} {z:AV} {σ1:St} (ho:appOps o=some (x,y)) (hx:aeval G e x=some (.own r off n)) (hy:aeval G e y=some v) (hs:fromRow s v) (h:wr T G Mv ⟨e,H⟩ o=some (c,z,σ1)) (hc:c) :
  ∃ m row,AppS T G Mv o e H r s m row∧z = .own r 0 m∧σ1=⟨killE r e,hup (killH r H) r row⟩:=by
 obtain ⟨t,t',hop,htt0⟩:=appOps_op ho
 obtain ⟨dst,op,type,pos,after,guard⟩:=o
 dsimp only at hop
 subst hop;unfold wr at h
 dsimp only at h
 cases dst with
 | none=>cases h
 | some d=>
  dsimp only at h
  split at h
  ·rename_i htt
   subst htt
   cases hT:T t with
   | none=>simp [hT] at h
   | some tt=>
    simp only [hT] at h
    split at h
    ·rename_i ety hd
     cases hte:T ety with
     | none=>simp [hte] at h
     | some te=>
      simp only [hte,hx,hy] at h
      split at h
      ·rename_i ty sz els news h1 h2
       simp only [Option.some.injEq,Prod.mk.injEq] at h
       obtain ⟨rfl,rfl,rfl⟩:=h
       exact ⟨_,_,⟨x,y,off,n,v,ty,sz,els,news,_,ho,hx,hy,hs,h1,h2,by simp [appV,hT,hd,hte],hc⟩,rfl,rfl⟩
      ·cases h
    ·cases h
  ·rename_i hne;exact absurd htt0 hne
theorem newsOf_congr {H H2:Heap} {r s:Nat} {v:AV} (hs:fromRow s v) (hH:H2 s=H s):newsOf H2 r v=newsOf H r v:=by
 cases v with
 | own q off n=>
  simp only [fromRow] at hs;subst hs;simp only [newsOf,hH]
 | d x=>cases x<;>rfl
 | _=>rfl
theorem AppS.congr {o:Oper} {e e2:Env} {H H2:Heap} {r s m:Nat} {row:Row} (h:AppS T G Mv o e H r s m row) (ha:Agree o.op e e2) (hr:H2 r=H r) (hs:H2 s=H s):AppS T G Mv o e2 H2 r s m row:=by
 obtain ⟨x,y,off,n,v,ty,sz,els,news,c,h1,h2,h3,h4,h5,h6,h7,h8⟩:=h
 obtain ⟨t,t',hop,htt0⟩:=appOps_op h1
 have hx:∀ t,x = .tmp t→e t=e2 t:=fun t ht=>ha t (by rw [hop];simp [Op.operands,Call.operands,ht])
 have hy:∀ t,y = .tmp t→e t=e2 t:=fun t ht=>ha t (by rw [hop];simp [Op.operands,Call.operands,ht])
 exact ⟨x,y,off,n,v,ty,sz,els,news,c,h1,by rw [← aeval_congr hx];exact h2,by rw [← aeval_congr hy];exact h3,h4,by rw [hr];exact h5,by rw [newsOf_congr h4 hs];exact h6,h7,h8⟩
theorem AV.kill_kill (r r':Nat) (x:AV):(x.kill r).kill r'=(x.kill r').kill r:=by
 have key:∀ n,∀ x:AV,SizeOf.sizeOf x < n→(x.kill r).kill r'=(x.kill r').kill r:=by
  intro n
  induction n with
  | zero=>intro x h;omega
  | succ n ih=>
   intro x h
   have go:∀ l:List AV,SizeOf.sizeOf l < n→(l.map (AV.kill r)).map (AV.kill r')=(l.map (AV.kill r')).map (AV.kill r):=by
    intro l
    induction l with
    | nil=>intro _;rfl
    | cons y l ihl=>
     intro hl
     simp only [List.cons.sizeOf_spec] at hl;simp only [List.map_cons,List.cons.injEq];exact ⟨ih y (by omega),ihl (by omega)⟩
   cases x with
   | d x=>simp [AV.kill]
   | own q off n=>by_cases h1:q=r<;>by_cases h2:q=r'<;>simp [AV.kill,h1,h2]<;>(try (by_cases h3:r=r'<;>simp [AV.kill,h3]))<;>(try simp_all [AV.kill])
   | ref q e j=>by_cases h1:q=r<;>by_cases h2:q=r'<;>simp [AV.kill,h1,h2]<;>(try (by_cases h3:r=r'<;>simp [AV.kill,h3]))<;>(try simp_all [AV.kill])
   | agg cells=>simp at h;simp only [AV.kill,AV.go_eq];rw [go cells (by omega)]
   | tup cells=>simp at h;simp only [AV.kill,AV.go_eq];rw [go cells (by omega)]
   | ifc t x=>simp at h;simp only [AV.kill];rw [ih x (by omega)]
   | bm t x=>simp at h;simp only [AV.kill];rw [ih x (by omega)]
   | fn f cells=>simp at h;simp only [AV.kill,AV.go_eq];rw [go cells (by omega)]
   | mp q=>by_cases h1:q=r<;>by_cases h2:q=r'<;>simp [AV.kill,h1,h2]<;>(try (by_cases h3:r=r'<;>simp [AV.kill,h3]))<;>(try simp_all [AV.kill])
   | dead=>simp [AV.kill]
 exact key _ x (Nat.lt_succ_self _)
theorem killE_killE (r r':Nat) (e:Env):killE r' (killE r e)=killE r (killE r' e):=by
 funext i
 simp only [killE,Option.map_map]
 congr 1
 funext x
 exact AV.kill_kill r r' x
theorem Row.kill_kill (r r':Nat) (x:Row):(x.kill r).kill r'=(x.kill r').kill r:=by
 cases x with
 | sl ty sz els=>rfl
 | mp ty ents=>rfl
 | it ents seen=>rfl
 | box ty cells=>
  simp only [Row.kill,List.map_map]
  congr 1
  apply List.map_congr_left
  intro x _
  exact AV.kill_kill r r' x
theorem killH_killH (r r':Nat) (H:Heap):killH r' (killH r H)=killH r (killH r' H):=by
 funext i
 simp only [killH,Option.map_map]
 congr 1
 funext x
 exact Row.kill_kill r r' x
theorem killE_putd (r:Nat) (e:Env) (d:Option Tmp) (x:AV):killE r (putd e d x)=putd (killE r e) d (x.kill r):=by
 cases d with
 | none=>rfl
 | some d=>funext i;simp only [killE,putd,upd];split<;>rfl
def Off (r:Nat) (o:Oper) (e:Env) (x:AV):Prop:=Agree o.op e (killE r e)∧x.kill r=x
theorem wantedS_free {o:Oper} {e:Env} (h:o.guard=none):wantedS ops e o=some true:=by simp [wantedS,h]
theorem mkAgg_kill {r:Nat} {l:List AV} (h:(mkAgg l).kill r=mkAgg l):mkAgg (l.map (AV.kill r))=mkAgg l:=by
 unfold mkAgg at h ⊢
 split at h
 ·rename_i ds hd
  rw [allD_eq hd]
  have:(ds.map AV.d).map (AV.kill r)=ds.map AV.d:=by simp [List.map_map,Function.comp_def,AV.kill]
  rw [this,allD_map]
 ·rename_i hd
  simp only [AV.kill,AV.go_eq,AV.agg.injEq] at h;rw [h,hd]
theorem asVal_kill {r:Nat} {t:TypeId} {cells:List AV} {c:Prop} {x:AV} {j:Nat} (h:asVal T t (cells.drop j)=some (c,x)) (hx:x.kill r=x):∃ c',asVal T t ((cells.map (AV.kill r)).drop j)=some (c',x)∧(c→c'):=by
 unfold asVal at h ⊢
 split at h
 ·cases h
 ·rename_i ti ht
  split at h
  ·rename_i ha
   rw [if_pos ha];simp only [Option.some.injEq,Prod.mk.injEq] at h
   obtain ⟨rfl,rfl⟩:=h
   refine ⟨_,?_,id⟩;rw [← List.map_drop,← List.map_take,List.length_map,mkAgg_kill hx]
  ·rename_i ha
   rw [if_neg ha];simp only [Option.some.injEq,Prod.mk.injEq] at h
   obtain ⟨rfl,rfl⟩:=h
   rw [← List.map_drop];generalize hl:cells.drop j=l at hx
   cases l with
   | nil=>exact ⟨_,rfl,fun h=>absurd rfl h⟩
   | cons y l=>
    simp only [List.headD_cons] at hx;refine ⟨_,by simp only [List.map_cons,List.headD_cons,hx];rfl,fun _=>by simp⟩
theorem rd_kill {o:Oper} {e:Env} {H:Heap} {r:Nat} {row:Row} {c:Prop} {x:AV} (hrow:∃ ty sz els,row = .sl ty sz els) (h:rd T G ⟨e,H⟩ o.op=some (c,x)) (hoff:Off r o e x) :
  ∃ c',rd T G ⟨e,hup (killH r H) r row⟩ o.op=some (c',x)∧(c→c'):=by
 have hag:=hoff.1
 have hx:=hoff.2
 clear hoff
 have free:∀ t v,Operand.tmp t∈o.op.operands→e t=some v→v.kill r=v:=by
  intro t v ht hv
  have:=hag t ht
  rw [hv] at this;simp only [killE,hv,Option.map_some,Option.some.injEq] at this;exact this.symm
 have ne:∀ (p:Operand) (v:AV),aeval G e p=some v→p∈o.op.operands→v.kill r=v:=by
  intro p v hv hp
  cases p with
  | tmp t=>exact free t v hp hv
  | const k=>simp only [aeval,Option.some.injEq] at hv;subst hv;unfold cst;split<;>rfl
  | global g=>simp only [aeval,Option.map_eq_some_iff] at hv;obtain ⟨d,_,rfl⟩:=hv;rfl
  | func f=>simp only [aeval,Option.some.injEq] at hv;subst hv;rfl
 have hne:∀ q,q≠r→(hup (killH r H) r row) q=(H q).map (Row.kill r):=fun q hq=>by simp [hup,hq,killH]
 obtain ⟨dst,op,type,pos,after,guard⟩:=o
 dsimp only at h free ne ⊢
 by_cases hk:kindOf op=0
 ·rw [rd_noH hk _ H];exact ⟨c,h,id⟩
 cases op<;>first | exact absurd rfl hk | skip
 case load t p=>
  simp only [rd] at h ⊢
  obtain ⟨v,hv,hl⟩:=Option.bind_eq_some_iff.1 h
  rw [hv,Option.bind_some]
  have hf:=ne p v hv (by simp [Op.operands])
  cases v with
  | d x=>cases x<;>first | exact ⟨c,hl,id⟩ | cases hl
  | own q off n=>cases hl
  | agg _=>cases hl
  | tup _=>cases hl
  | ifc _ _=>cases hl
  | fn _ _=>cases hl
  | bm _ _=>cases hl
  | dead=>cases hl
  | mp _=>cases hl
  | ref q ee j=>
   simp only [loadA] at hl ⊢
   have hq:q≠r:=fun e=>by simp [AV.kill,e] at hf
   rw [hne q hq]
   cases hH:H q with
   | none=>simp [hH] at hl
   | some rw0=>
    cases rw0 with
    | sl ty sz els=>simp only [hH] at hl;simp only [Option.map_some,Row.kill];exact ⟨c,hl,id⟩
    | mp ty ents=>simp [hH] at hl
    | it ents seen=>simp [hH] at hl
    | box ty cells=>
     simp only [hH] at hl;simp only [Option.map_some,Row.kill]
     split at hl
     ·rename_i he;rw [if_pos he];exact asVal_kill hl hx
     ·cases hl
 case indexAddr t p i=>
  simp only [rd] at h ⊢
  split at h
  ·rename_i a b ha hb
   have hf:=ne p a ha (by simp [Op.operands])
   have bb:∃ k n,b = .d (.v (.int k n)):=by
    unfold indexA at h
    split at h
    ·exact ⟨_,_,rfl⟩
    ·exact ⟨_,_,rfl⟩
    ·exact ⟨_,_,rfl⟩
    ·exact ⟨_,_,rfl⟩
    ·cases h
   obtain ⟨k,nn,rfl⟩:=bb
   cases a with
   | d x=>cases x<;>first | exact ⟨c,h,id⟩ | (cases h;done)
   | ref _ _ _=>exact ⟨c,h,id⟩
   | agg _=>cases h
   | tup _=>cases h
   | ifc _ _=>cases h
   | fn _ _=>cases h
   | bm _ _=>cases h
   | dead=>cases h
   | mp _=>cases h
   | own q off n=>
   unfold indexA at h ⊢
   have hq:q≠r:=fun e=>by simp [AV.kill,e] at hf
   simp only [hne q hq]
   cases hH:H q with
   | none=>simp [hH] at h
   | some rw0=>
    cases rw0 with
    | sl ty sz els=>simp only [hH] at h;exact ⟨c,h,id⟩
    | mp ty ents=>
     cases he:elemSz T t with
     | none=>simp [he] at h
     | some s=>simp [he,hH] at h
    | it ents seen=>
     cases he:elemSz T t with
     | none=>simp [he] at h
     | some s=>simp [he,hH] at h
    | box ty cells=>
     simp only [hH] at h
     cases he:elemSz T t with
     | none=>simp [he] at h
     | some s=>rw [he] at h;exact ⟨c,h,id⟩
  ·cases h
 case slice t p lo hi mx=>
  simp only [rd] at h ⊢
  split at h
  ·rename_i hm
   rw [if_pos hm]
   split at h
   ·rename_i v l hh h1 h2 h3
    have hf:=ne p v h1 (by simp [Op.operands])
    cases v with
    | d x=>cases x with
     | v x=>cases x<;>first | exact ⟨c,h,id⟩ | (cases h;done)
     | sl k els=>exact ⟨c,h,id⟩
     | _=>cases h
    | ref _ _ _=>cases h
    | agg _=>cases h
    | tup _=>cases h
    | ifc _ _=>cases h
    | fn _ _=>cases h
    | bm _ _=>cases h
    | dead=>cases h
    | mp _=>cases h
    | own q off n=>
    unfold sliceA at h ⊢
    dsimp only at h ⊢
    have hq:q≠r:=fun e=>by simp [AV.kill,e] at hf
    rw [hne q hq]
    cases hH:H q with
    | none=>simp [hH] at h
    | some rw0=>
     cases rw0 with
     | sl ty sz els=>simp only [hH] at h;exact ⟨c,h,id⟩
     | mp ty ents=>simp [hH] at h
     | it ents seen=>simp [hH] at h
     | box ty cells=>simp [hH] at h
   ·cases h
  ·cases h
 case lookup t p i b=>
  simp only [rd] at h ⊢
  split at h
  ·rename_i a k ha hb
   have hf:=ne p a ha (by simp [Op.operands])
   cases a with
   | mp q=>
    have hq:q≠r:=fun e=>by simp [AV.kill,e] at hf
    cases k with
    | d kx=>
     cases kx with
     | v kv=>
      simp only [lookA] at h ⊢;rw [hne q hq]
      cases hH:H q with
      | none=>simp [hH] at h
      | some rw0=>
       cases rw0 with
       | mp ty ents=>rw [hH] at h;exact ⟨c,h,id⟩
       | _=>simp [hH] at h
     | _=>simp [lookA] at h
    | _=>simp [lookA] at h
   | d q=>
    cases q with
    | dm x ents=>
     cases k with
     | d kx=>
      cases kx with
      | v kv=>simp only [lookA] at h ⊢;exact ⟨c,h,id⟩
      | _=>simp [lookA] at h
     | _=>simp [lookA] at h
    | _=>simp [lookA] at h
   | _=>simp [lookA] at h
  ·cases h
 case call cc=>
  obtain ⟨callee,args,argTypes⟩:=cc
  cases callee with
  | builtin b=>cases b<;>first | exact absurd rfl hk | (simp [rd] at h;done)
  | _=>simp [rd] at h
 all_goals first | (simp [rd] at h;done) | skip
end
end Go.Av
namespace Go.Av
def avOf (av:List (Nat×List Nat)) (i:Nat):List Nat:=(av.lookup i).getD []
def okKind (o:Op):Bool:=match o with
 | .buildSlice _ _ _=>true
 | .makeSlice _ _ _=>true
 | .alloc _=>true
 | o=>decide (kindOf o≤2)
def compatL (la:List (Nat×Nat×Nat)) (av:List (Nat×List Nat)) (ops:Array Oper) (i j:Nat) (oi oj:Oper):Bool:=match la.lookup i,la.lookup j with
 | none,none=>compat ops oi oj
 | none,some (r,s)=>oi.apart ops oj && okKind oi.op && !(oi.dst == some s) && !(oi.dst == some r) && (avOf av i).contains r
 | some (r,s),some (r',s')=>oi.apart ops oj && !(r == r') && !(s == r') && !(s' == r)
 | some _,none=>false
section
variable {P:Program} {T:Ty} {Mv X:Nat→Prop} {G:Glob} {N:Fr} {ops:Array Oper} {la:List (Nat×Nat×Nat)} {av:List (Nat×List Nat)}
theorem AV.kill_idem (r:Nat) (x:AV):(x.kill r).kill r=x.kill r:=by
 have key:∀ n,∀ x:AV,SizeOf.sizeOf x < n→(x.kill r).kill r=x.kill r:=by
  intro n
  induction n with
  | zero=>intro x h;omega
  | succ n ih=>
   intro x h
   have go:∀ l:List AV,SizeOf.sizeOf l < n→(l.map (AV.kill r)).map (AV.kill r)=l.map (AV.kill r):=by
    intro l
    induction l with
    | nil=>intro _;rfl
    | cons y l ihl=>
     intro hl
     simp only [List.cons.sizeOf_spec] at hl;simp only [List.map_cons,List.cons.injEq];exact ⟨ih y (by omega),ihl (by omega)⟩
   cases x with
   | d x=>simp [AV.kill]
   | own q off n=>by_cases h1:q=r<;>simp [AV.kill,h1]
   | ref q e j=>by_cases h1:q=r<;>simp [AV.kill,h1]
   | agg cells=>simp at h;simp only [AV.kill,AV.go_eq];rw [go cells (by omega)]
   | tup cells=>simp at h;simp only [AV.kill,AV.go_eq];rw [go cells (by omega)]
   | ifc t x=>simp at h;simp only [AV.kill];rw [ih x (by omega)]
   | bm t x=>simp at h;simp only [AV.kill];rw [ih x (by omega)]
   | fn f cells=>simp at h;simp only [AV.kill,AV.go_eq];rw [go cells (by omega)]
   | mp q=>by_cases h1:q=r<;>simp [AV.kill,h1]
   | dead=>simp [AV.kill]
 exact key _ x (Nat.lt_succ_self _)
theorem Row.kill_idem (r:Nat) (x:Row):(x.kill r).kill r=x.kill r:=by
 cases x with
 | sl ty sz els=>rfl
 | mp ty ents=>rfl
 | it ents seen=>rfl
 | box ty cells=>
  simp only [Row.kill,List.map_map]
  congr 1
  apply List.map_congr_left
  intro x _
  exact AV.kill_idem r x
theorem drop_imp {e:Env} {H:Heap} {r ty sz:Nat} {els:List (List D)} (d:Tmp) (hm:Mv r):Imp Mv X G N ⟨upd (killE r e) d (.own r 0 els.length),hup (killH r H) r (.sl ty sz els)⟩ ⟨upd (killE r e) d (.d (.sl none els)),hup (killH r H) r (.sl ty sz [])⟩:=fun w μ a hi=>by
 have hr:hup (killH r H) r (.sl ty sz els) r=some (.sl ty sz els):=by simp [hup]
 have hmu:(fun q=>if q=r then none else μ q)=mfilt (not1 r) μ:=by
  funext q
  unfold mfilt not1
  by_cases h:q=r<;>simp [h]
 have ev:Ev Mv w μ w (mfilt (not1 r) μ):=ev_mfilt fun q _ _ hq=>by
  have e:q=r:=by simpa [not1] using hq
  exact e ▸ hm
 have hne:∀ q,q≠r→mfilt (not1 r) μ q=μ q:=fun q hq=>by simp [mfilt,not1,hq]
 have hX:∀ b,XX X (mfilt (not1 r) μ) b→XX X μ b:=fun b=>XX_mfilt
 have h1:In w X G (mfilt (not1 r) μ) N a ⟨upd (killE r e) d (.d (.sl none els)),fun q=>if q=r then none else killH r H q⟩:=by
  refine ⟨⟨fun q row hq=>?_,fun q m hq=>?_,fun q q' m1 m2 b h1 h2 hb1 hb2=>hi.sim.inj q q' m1 m2 b (mfilt_some h1).2 (mfilt_some h2).2 hb1 hb2,fun q mq b hq hb=>hi.sim.frame q mq b (mfilt_some hq).2 hb,hi.sim.fits⟩,
   ⟨hi.env.defers,hi.env.size,fun i x hx=>?_⟩,fun g x hx=>(hi.glob g x hx).sub hX⟩
  ·dsimp only at hq
   split at hq
   ·cases hq
   ·rename_i hqr
    obtain ⟨m,hm1,ok⟩:=hi.sim.rows q row (by simpa [hup,hqr] using hq)
    obtain ⟨row0,_,rfl⟩:=Option.map_eq_some_iff.1 (show (H q).map (Row.kill r)=some row from hq)
    refine ⟨m,by rw [hne q hqr];exact hm1,?_⟩
    have:=RowOk.keep ev hne (fun _ _=>rfl) ok
    rwa [Row.kill_idem] at this
  ·obtain ⟨hk,hm1⟩:=mfilt_some hq
   have hqr:q≠r:=by simpa [not1] using hk
   obtain ⟨row,hrow⟩:=hi.sim.dom q m hm1
   exact ⟨row,by simpa [hup,hqr] using hrow⟩
  ·simp only [upd] at hx
   split at hx
   ·rename_i hid
    subst hid
    obtain rfl:=Option.some.inj hx
    obtain ⟨u,hu,hrv⟩:=hi.env.slot i (.own r 0 els.length) (by simp [upd])
    refine ⟨u,hu,?_⟩
    obtain ⟨k,hk,_⟩:=own_reads hi.sim hr (by omega) hrv
    rw [hmu] at hk
    have:=RV.d (w:=w) (μ:=mfilt (not1 r) μ) hk.weak
    simpa using this
   ·rename_i hid
    obtain ⟨x0,h0,rfl⟩:=Option.map_eq_some_iff.1 (show (e i).map (AV.kill r)=some x from hx)
    obtain ⟨u,hu,hrv⟩:=hi.env.slot i (x0.kill r) (by simp [upd,hid,killE,h0])
    refine ⟨u,hu,?_⟩
    have:=RV.keep ev hne hrv
    rwa [AV.kill_idem] at this
 obtain ⟨hin,ev2⟩:=h1.alloc (Mv:=Mv) (d:=r) (w':=w) (m:=⟨none,sz,0⟩) (by simp) (Grew.refl w) (by simp) (row:=.sl ty sz []) fun _=>.nil rfl rfl
 have hH:hup (fun q=>if q=r then none else killH r H q) r (.sl ty sz [])=hup (killH r H) r (.sl ty sz []):=by
  funext q
  by_cases h:q=r<;>simp [hup,h]
 refine ⟨_,?_,ev.trans ev2⟩;rw [← hH];exact hin
def Fin (Mv:Nat→Prop) (r m:Nat) (row:Row) (y:AV) (row':Row):Prop:=
 (y = .own r 0 m∧row'=row)∨(Mv r∧∃ ty sz els,row = .sl ty sz els∧m=els.length∧y = .d (.sl none els)∧row' = .sl ty sz [])
theorem Fin.row {r m:Nat} {row row':Row} {y:AV} (h:Fin Mv r m row y row') (hrow:∃ ty sz els,row = .sl ty sz els):∃ ty sz els,row' = .sl ty sz els:=by
 rcases h with ⟨_,rfl⟩ | ⟨_,ty,sz,els,_,_,_,rfl⟩
 ·exact hrow
 ·exact ⟨_,_,_,rfl⟩
theorem Fin.kill {r m q:Nat} {row row':Row} {y:AV} (h:Fin Mv r m row y row') (hq:r≠q):y.kill q=y:=by
 rcases h with ⟨rfl,_⟩ | ⟨_,ty,sz,els,_,_,rfl,_⟩
 ·simp [AV.kill,hq]
 ·rfl
def LStep (P:Program) (T:Ty) (Mv:Nat→Prop) (G:Glob) (N:Fr) (la:List (Nat×Nat×Nat)) (av:List (Nat×List Nat)) (i:Nat) (o:Oper) (σ σ':St):Prop:=
 okDst N o∧o.guard=none∧match la.lookup i with
  | some (r,s)=>∃ m row y row',AppS T G Mv o σ.env σ.H r s m row∧Fin Mv r m row y row'∧σ'=⟨putd (killE r σ.env) o.dst y,hup (killH r σ.H) r row'⟩
  | none=>kindOf o.op≠9∧∃ x H',Ex P T Mv G o σ.env σ.H x H'∧σ'=⟨putd σ.env o.dst x,H'⟩∧(∀ r∈avOf av i,Off r o σ.env x)∧(avOf av i≠[]→∀ c,isCall o.op=some c→∃ y g ds,tgt G σ.env c=some (g,ds.map .d)∧PureC P G g ds y∧x = .d y)
theorem LStep.step {i:Nat} {o:Oper} {σ σ':St} (h:LStep P T Mv G N la av i o σ σ'):∃ σ0,stepTo P T Mv G N ops o σ σ0∧Imp Mv X G N σ0 σ':=by
 obtain ⟨hd,hg,h⟩:=h
 split at h
 ·obtain ⟨m,row,y,row',h1,hf,rfl⟩:=h
  refine ⟨_,⟨hd,.inl ⟨wantedS_free hg,h1.to⟩⟩,?_⟩
  rcases hf with ⟨rfl,rfl⟩ | ⟨hm,ty,sz,els,rfl,rfl,rfl,rfl⟩
  ·exact .refl _
  ·obtain ⟨_,_,d,hdst⟩:=h1.row
   rw [hdst];exact drop_imp d hm
 ·obtain ⟨_,x,H',h1,rfl,_⟩:=h
  exact ⟨_,⟨hd,.inl ⟨wantedS_free hg,h1.to⟩⟩,.refl _⟩
theorem Ex.newRow {o:Oper} (hk:¬ kindOf o.op≤2) (ho:okKind o.op=true) {e:Env} {H H':Heap} {x:AV} (h:Ex P T Mv G o e H x H'):∃ d row,o.dst=some d∧H d=none∧H'=hup H d row∧(∀ q,row.kill q=row)∧∀ H2,H2 d=none→Ex P T Mv G o e H2 x (hup H2 d row):=by
 obtain ⟨dst,op,type,pos,after,guard⟩:=o
 dsimp only at hk ho
 unfold Ex at h;unfold Ex
 cases op<;>simp only [okKind,decide_eq_true_eq] at ho<;>first | exact absurd ho hk | skip
 case alloc t=>
  simp only [isCall,isWr,if_true] at h ⊢
  obtain ⟨c,h1,h2⟩:=h
  cases dst with
  | none=>cases h1
  | some d=>
   simp only [wr] at h1 ⊢
   split at h1
   ·rename_i ti hti
    simp only [Option.some.injEq,Prod.mk.injEq,St.mk.injEq,true_and] at h1
    obtain ⟨rfl,rfl,rfl⟩:=h1
    exact ⟨d,_,rfl,h2,rfl,fun q=>by simp [Row.kill,cst,AV.kill],fun H2 h=>⟨_,rfl,h⟩⟩
   ·cases h1
 case makeSlice t y z=>
  simp only [isCall,isWr,if_true] at h ⊢
  obtain ⟨c,h1,h2⟩:=h
  cases dst with
  | none=>cases h1
  | some d=>
   simp only [wr] at h1 ⊢
   split at h1
   ·split at h1
    ·split at h1
     ·simp only [Option.some.injEq,Prod.mk.injEq,St.mk.injEq,true_and] at h1
      obtain ⟨rfl,rfl,rfl⟩:=h1
      exact ⟨d,_,rfl,h2.1,rfl,fun _=>rfl,fun H2 h=>⟨_,rfl,h,h2.2⟩⟩
     ·cases h1
    ·cases h1
   ·cases h1
 case buildSlice t n ps=>
  simp only [isCall,isWr,if_true] at h ⊢
  obtain ⟨c,h1,h2⟩:=h
  cases dst with
  | none=>cases h1
  | some d=>
   simp only [wr] at h1 ⊢
   split at h1
   ·split at h1
    ·split at h1
     ·split at h1
      ·simp only [Option.some.injEq,Prod.mk.injEq,St.mk.injEq,true_and] at h1
       obtain ⟨rfl,rfl,rfl⟩:=h1
       exact ⟨d,_,rfl,h2.1,rfl,fun _=>rfl,fun H2 h=>⟨_,rfl,h,h2.2⟩⟩
      ·cases h1
     ·cases h1
    ·cases h1
   ·cases h1
theorem kill_own {r q off n:Nat} {z:AV} (h:z.kill r = .own q off n):z = .own q off n:=by
 cases z<;>simp only [AV.kill,reduceCtorEq] at h
 ·split at h
  ·cases h
  ·exact h
 ·split at h<;>cases h
 ·split at h<;>cases h
theorem kill_d {r:Nat} {x:D} {z:AV} (h:z.kill r = .d x):z = .d x:=by
 cases z<;>simp only [AV.kill,reduceCtorEq] at h
 ·exact h
 ·split at h<;>cases h
 ·split at h<;>cases h
 ·split at h<;>cases h
theorem news_shape {H:Heap} {r:Nat} {v:AV} {l:List (List D)} (h:newsOf H r v=some l):(∃ x,v = .d x)∨∃ q off n,v = .own q off n:=by
 unfold newsOf at h
 split at h
 ·exact .inl ⟨_,rfl⟩
 ·exact .inr ⟨_,_,_,rfl⟩
 ·cases h
theorem aeval_kill {r:Nat} {e:Env} {p:Operand}:aeval G (killE r e) p=(aeval G e p).map (AV.kill r):=by
 cases p with
 | tmp t=>rfl
 | const k=>simp only [aeval,Option.map_some];unfold cst;split<;>rfl
 | global g=>simp only [aeval,Option.map_map];rfl
 | func f=>rfl
theorem AppS.unkill {o:Oper} {e:Env} {H H2:Heap} {r s m q:Nat} {row:Row} (h:AppS T G Mv o (killE q e) H r s m row) (hr:H2 r=H r) (hs:H2 s=H s):AppS T G Mv o e H2 r s m row:=by
 obtain ⟨x,y,off,n,v,ty,sz,els,news,c,h1,h2,h3,h4,h5,h6,h7,h8⟩:=h
 rw [aeval_kill] at h2 h3
 obtain ⟨z1,hz1,e1⟩:=Option.map_eq_some_iff.1 h2
 obtain ⟨z2,hz2,e2⟩:=Option.map_eq_some_iff.1 h3
 have:=kill_own e1
 subst this
 have hz:z2=v:=by
  rcases news_shape h6 with ⟨x,rfl⟩ | ⟨_,_,_,rfl⟩
  ·exact kill_d e2
  ·exact kill_own e2
 subst hz;exact ⟨x,y,off,n,z2,ty,sz,els,news,c,h1,hz1,hz2,h4,by rw [hr];exact h5,by rw [newsOf_congr h4 hs];exact h6,h7,h8⟩
theorem AppS.rekill {o:Oper} {e:Env} {H H2:Heap} {r s m q:Nat} {row:Row} (h:AppS T G Mv o e H r s m row) (hq:r≠q) (hq':s≠q) (hr:H2 r=H r) (hs:∀ ty sz els,H s=some (.sl ty sz els)→H2 s=H s):AppS T G Mv o (killE q e) H2 r s m row:=by
 obtain ⟨x,y,off,n,v,ty,sz,els,news,c,h1,h2,h3,h4,h5,h6,h7,h8⟩:=h
 refine ⟨x,y,off,n,v,ty,sz,els,news,c,h1,by rw [aeval_kill,h2];simp [AV.kill,hq],?_,h4,by rw [hr];exact h5,?_,h7,h8⟩
 ·rw [aeval_kill,h3]
  rcases news_shape h6 with ⟨x,rfl⟩ | ⟨q',_,_,rfl⟩
  ·rfl
  ·simp only [fromRow] at h4;subst h4;simp [AV.kill,hq']
 ·rcases news_shape h6 with ⟨x,rfl⟩ | ⟨q',off',n',rfl⟩
  ·cases x<;>first | exact h6 | cases h6
  ·simp only [fromRow] at h4;subst h4;simp only [newsOf] at h6 ⊢
   split at h6
   ·cases h6
   ·rename_i hne
    rw [if_neg hne]
    split at h6
    ·rename_i ty' sz' els' hH
     rw [hs _ _ _ hH,hH];exact h6
    ·cases h6
theorem hup_comm {H:Heap} {r d:Nat} {a b:Row} (h:d≠r):hup (hup H r a) d b=hup (hup H d b) r a:=by
 funext i
 by_cases h1:i=d<;>by_cases h2:i=r<;>simp [hup,h1,h2,h,Ne.symm h]
theorem killH_hup {H:Heap} {r d:Nat} {b:Row} (hb:b.kill r=b):killH r (hup H d b)=hup (killH r H) d b:=by
 funext i
 by_cases h1:i=d<;>simp [hup,killH,h1,hb]
theorem agree_off {o:Oper} {e e':Env} {r:Nat} (h:∀ t,Operand.tmp t∈o.op.operands→e' t=e t) (ha:Agree o.op e (killE r e)):Agree o.op e' (killE r e'):=fun t ht=>by
 have h1:=ha t ht
 simp only [killE] at h1 ⊢;rw [h t ht];exact h1
theorem lswap {i j:Nat} {oi oj:Oper} (hc:compatL la av ops i j oi oj=true) {σ σ1 σ2:St} (h1:LStep P T Mv G N la av i oi σ σ1) (h2:LStep P T Mv G N la av j oj σ1 σ2) :
  ∃ σ3,LStep P T Mv G N la av j oj σ σ3∧LStep P T Mv G N la av i oi σ3 σ2:=by
 obtain ⟨di,gi,h1⟩:=h1
 obtain ⟨dj,gj,h2⟩:=h2
 obtain ⟨e,H⟩:=σ
 cases hli:la.lookup i with
 | none=>
  simp only [hli] at h1
  obtain ⟨ki,x,H1,ex1,rfl,off1,cd1⟩:=h1
  cases hlj:la.lookup j with
  | none=>
   simp only [hlj] at h2
   obtain ⟨kj,y,H2,ex2,rfl,off2,cd2⟩:=h2
   simp only [compatL,hli,hlj] at hc
   obtain ⟨H3,f1,f2⟩:=commute hc (x:=x) (y:=y) (e:=e) (H:=H) ⟨di,.inl ⟨wantedS_free gi,ex1⟩⟩ ⟨dj,.inl ⟨wantedS_free gj,ex2⟩⟩ ki kj
   have ej:Ex P T Mv G oj e H y H3:=by
    rcases f1.2 with ⟨_,h⟩ | ⟨h,_⟩
    ·exact h
    ·rw [wantedS_free gj] at h;cases h
   have ei:Ex P T Mv G oi (putd e oj.dst y) H3 x H2:=by
    rcases f2.2 with ⟨_,h⟩ | ⟨h,_⟩
    ·exact h
    ·rw [wantedS_free gi] at h;cases h
   simp only [compat,Bool.and_eq_true] at hc
   obtain ⟨a1,_,hne⟩:=agree_put hc.1 (e:=e) (v:=x)
   obtain ⟨_,a2,_⟩:=agree_put hc.1 (e:=e) (v:=y)
   refine ⟨⟨putd e oj.dst y,H3⟩,⟨dj,gj,?_⟩,⟨di,gi,?_⟩⟩
   ·simp only [hlj];refine ⟨kj,y,H3,ej,rfl,fun r hr=>⟨agree_off (e:=putd e oi.dst x) (fun t ht=>(a1 t (looks_of_op ht)).symm) (off2 r hr).1,(off2 r hr).2⟩,fun ha c hcc=>?_⟩
    obtain ⟨y',g,ds,ht,hp⟩:=cd2 ha c hcc
    exact ⟨y',g,ds,by rw [← ht];exact tgt_congr fun t ht=>(a1 t (looks_of_op (by rw [(isCall_op hcc).1];exact ht))).symm,hp⟩
   ·simp only [hli];refine ⟨ki,x,H2,ei,by rw [putd_comm hne],fun r hr=>⟨agree_off (e:=e) (fun t ht=>a2 t (looks_of_op ht)) (off1 r hr).1,(off1 r hr).2⟩,fun ha c hcc=>?_⟩
    obtain ⟨y',g,ds,ht,hp⟩:=cd1 ha c hcc
    exact ⟨y',g,ds,by rw [← ht];exact tgt_congr fun t ht=>a2 t (looks_of_op (by rw [(isCall_op hcc).1];exact ht)),hp⟩
  | some rs=>
   obtain ⟨r,s⟩:=rs
   simp only [hlj] at h2
   obtain ⟨m,row,yr,row',app,fin,rfl⟩:=h2
   simp only [compatL,hli,hlj,Bool.and_eq_true,Bool.not_eq_true',beq_eq_false_iff_ne,List.contains_iff_mem] at hc
   obtain ⟨⟨⟨⟨hap,hok⟩,hs⟩,hr⟩,hav⟩:=hc
   obtain ⟨hag,hx⟩:=off1 r hav
   obtain ⟨a1,_,hne⟩:=agree_put hap (e:=e) (v:=x)
   obtain ⟨_,a2,_⟩:=agree_put hap (e:=killE r e) (v:=yr)
   obtain ⟨hrow0,hHr,_⟩:=app.row
   have hrow:=fin.row hrow0
   have agj:Agree oj.op (putd e oi.dst x) e:=fun t ht=>a1 t (looks_of_op ht)
   have e3:∀ t,Operand.tmp t∈oi.op.operands→(putd (killE r e) oj.dst (yr)) t=e t:=fun t ht=>(a2 t (looks_of_op ht)).trans (hag t ht).symm
   have main:AppS T G Mv oj e H r s m row∧∃ H2,Ex P T Mv G oi e (hup (killH r H) r row') x H2∧H2=hup (killH r H1) r row':=by
    by_cases hk2:kindOf oi.op≤2
    ·have:=ex1.keeps hk2
     subst this;refine ⟨app.congr agj rfl rfl,_,?_,rfl⟩
     cases hcall:isCall oi.op with
     | some c=>
      obtain ⟨y,g,ds,ht,hp,rfl⟩:=cd1 (List.ne_nil_of_mem hav) c hcall
      unfold Ex;simp only [hcall];exact ⟨y,⟨g,_,ht,.inl ⟨ds,rfl,hp⟩⟩,rfl,trivial⟩
     | none=>
      unfold Ex at ex1 ⊢;simp only [hcall] at ex1 ⊢
      have hw:¬ isWr oi.op=true:=fun hw=>by rcases isWr_kind hw with h | h | h<;>omega
      rw [if_neg hw] at ex1 ⊢
      obtain ⟨c,hrd,hcc,_⟩:=ex1
      obtain ⟨c',h',hi'⟩:=rd_kill hrow hrd ⟨hag,hx⟩
      exact ⟨c',h',hi' hcc,trivial⟩
    ·obtain ⟨d,rw0,hd,hn,rfl,hk0,hall⟩:=ex1.newRow hk2 hok
     have hdr:d≠r:=fun e=>hr (by rw [hd,e])
     have hds:d≠s:=fun e=>hs (by rw [hd,e])
     refine ⟨app.congr agj (by simp [hup,Ne.symm hdr]) (by simp [hup,Ne.symm hds]),_,hall _ (by simp [hup,hdr,killH,hn]),?_⟩;rw [killH_hup (hk0 r),hup_comm hdr]
   obtain ⟨app',H2,ex',rfl⟩:=main
   refine ⟨⟨putd (killE r e) oj.dst (yr),hup (killH r H) r row'⟩,⟨dj,gj,?_⟩,⟨di,gi,?_⟩⟩
   ·simp only [hlj];exact ⟨m,row,yr,row',app',fin,rfl⟩
   ·simp only [hli];refine ⟨ki,x,_,ex'.congr ki fun t ht=>(e3 t ht).symm,?_,fun q hq=>⟨agree_off e3 (off1 q hq).1,(off1 q hq).2⟩,fun ha c hcc=>?_⟩
    ·rw [killE_putd,hx,putd_comm hne]
    ·obtain ⟨y',g,ds,ht,hp⟩:=cd1 ha c hcc
     exact ⟨y',g,ds,by rw [← ht];exact tgt_congr fun t ht=>e3 t (by rw [(isCall_op hcc).1];exact ht),hp⟩
 | some rs=>
  obtain ⟨r,s⟩:=rs
  simp only [hli] at h1
  obtain ⟨m,row,y1,rw1,app,fin,rfl⟩:=h1
  cases hlj:la.lookup j with
  | none=>simp [compatL,hli,hlj] at hc
  | some rs'=>
   obtain ⟨r',s'⟩:=rs'
   simp only [hlj] at h2
   obtain ⟨m',row',y2,rw2,app',fin',rfl⟩:=h2
   simp only [compatL,hli,hlj,Bool.and_eq_true,Bool.not_eq_true',beq_eq_false_iff_ne] at hc
   obtain ⟨⟨⟨hap,hrr⟩,hs⟩,hs'⟩:=hc
   obtain ⟨a1,_,hne⟩:=agree_put hap (e:=killE r e) (v:=y1)
   obtain ⟨_,a2,_⟩:=agree_put hap (e:=killE r' e) (v:=y2)
   obtain ⟨⟨ty1,sz1,els1,rfl⟩,⟨t1,z1,l1,hHr⟩,_⟩:=app.row
   obtain ⟨⟨ty2,sz2,els2,rfl⟩,⟨t2,z2,l2,hHr'⟩,_⟩:=app'.row
   obtain ⟨ty3,sz3,els3,rfl⟩:=fin.row ⟨_,_,_,rfl⟩
   obtain ⟨ty4,sz4,els4,rfl⟩:=fin'.row ⟨_,_,_,rfl⟩
   have hkeep:∀ q,q≠r→∀ ty sz els,(killH r H) q=some (.sl ty sz els)→H q=some (.sl ty sz els):=by
    intro q _ ty sz els hq
    obtain ⟨row0,h0,he⟩:=Option.map_eq_some_iff.1 hq
    cases row0 with
    | sl _ _ _=>rw [h0];exact congrArg some he
    | box _ _=>cases he
    | mp _ _=>cases he
    | it _ _=>cases he
   have hH':H r'=some (.sl t2 z2 l2):=hkeep r' (Ne.symm hrr) _ _ _ (by simpa [hup,Ne.symm hrr] using hHr')
   have p1:AppS T G Mv oj (killE r e) (hup (killH r H) r (.sl ty3 sz3 els3)) r' s' m' (.sl ty2 sz2 els2):=app'.congr (fun t ht=>a1 t (looks_of_op ht)) rfl rfl
   have p2:AppS T G Mv oj e H r' s' m' (.sl ty2 sz2 els2):=by
    obtain ⟨x,y,off,n,v,ty,sz,els,news,c,g1,g2,g3,g4,g5,g6,g7,g8⟩:=p1
    have hnews:newsOf H r' v=some news:=by
     rcases news_shape g6 with ⟨x,rfl⟩ | ⟨q',off',n',rfl⟩
     ·cases x<;>first | exact g6 | cases g6
     ·simp only [fromRow] at g4;subst g4;simp only [newsOf] at g6 ⊢
      split at g6
      ·cases g6
      ·rename_i hq
       rw [if_neg hq]
       split at g6
       ·rename_i ty' sz' els' hq2
        have:H q'=some (.sl ty' sz' els'):=hkeep q' hs' _ _ _ (by simpa [hup,hs'] using hq2)
        rw [this];exact g6
       ·cases g6
    have:AppS T G Mv oj (killE r e) H r' s' m' (.sl ty2 sz2 els2):=⟨x,y,off,n,v,ty,sz,els,news,c,g1,g2,g3,g4,by rw [hH'];simpa [hup,Ne.symm hrr,killH,hH',Row.kill] using g5,hnews,g7,g8⟩
    exact this.unkill rfl rfl
   have q1:AppS T G Mv oi (killE r' e) (hup (killH r' H) r' (.sl ty4 sz4 els4)) r s m (.sl ty1 sz1 els1):=by
    refine app.rekill hrr hs ?_ fun ty sz els hh=>?_
    ·simp [hup,hrr,killH,hHr,Row.kill]
    ·simp [hup,hs,killH,hh,Row.kill]
   have q2:AppS T G Mv oi (putd (killE r' e) oj.dst y2) (hup (killH r' H) r' (.sl ty4 sz4 els4)) r s m (.sl ty1 sz1 els1):=q1.congr (fun t ht=>(a2 t (looks_of_op ht)).symm) rfl rfl
   refine ⟨⟨putd (killE r' e) oj.dst y2,hup (killH r' H) r' (.sl ty4 sz4 els4)⟩,⟨dj,gj,?_⟩,⟨di,gi,?_⟩⟩
   ·simp only [hlj];exact ⟨m',_,y2,_,p2,fin',rfl⟩
   ·simp only [hli];refine ⟨m,_,y1,_,q2,fin,?_⟩
    have k1:AV.kill r' y1=y1:=fin.kill hrr
    have k2:AV.kill r y2=y2:=fin'.kill (Ne.symm hrr)
    rw [killE_putd,killE_putd,k1,k2,killE_killE r' r,putd_comm hne,killH_hup rfl,killH_hup rfl,killH_killH r' r,hup_comm hrr]
def runL (P:Program) (T:Ty) (Mv:Nat→Prop) (G:Glob) (N:Fr) (la:List (Nat×Nat×Nat)) (av:List (Nat×List Nat)) (ops:Array Oper):List Nat→St→St→Prop
 | [],σ,σ'=>σ=σ'
 | i :: l,σ,σ'=>∃ o,ops[i]? = some o∧∃ σ1,LStep P T Mv G N la av i o σ σ1∧runL P T Mv G N la av ops l σ1 σ'
theorem runL_front {p:Nat} {op:Oper} (hp:ops[p]? = some op):∀ (l1:List Nat) {l2:List Nat} {σ σ':St},(∀ q∈l1,∀ oq,ops[q]? = some oq→compatL la av ops q p oq op=true)→runL P T Mv G N la av ops (l1 ++ p :: l2) σ σ'→runL P T Mv G N la av ops (p :: (l1 ++ l2)) σ σ':=by
 intro l1
 induction l1 with
 | nil=>intro l2 σ σ' _ h;exact h
 | cons q l1 ih=>
  intro l2 σ σ' hall h
  obtain ⟨oq,hq,σ1,s1,rest⟩:=h
  obtain ⟨o',ho',σ2,s2,rest2⟩:=ih (fun q' hq'=>hall q' (by simp [hq'])) rest
  rw [hp] at ho'
  obtain rfl:=Option.some.inj ho'
  obtain ⟨σ3,f1,f2⟩:=lswap (hall q (by simp) oq hq) s1 s2
  exact ⟨op,hp,σ3,f1,oq,hq,σ2,f2,rest2⟩
def okDrawL (la:List (Nat×Nat×Nat)) (av:List (Nat×List Nat)) (ord:List Nat) (ops:Array Oper):Bool:=
 let t:=tb ops
 ord.length == ops.size && (ord.all fun i=>decide (i < ops.size)) && ((List.range ops.size).all fun i=>ord.contains i) && decide ord.Nodup &&
 ((List.range ops.size).all fun j=>match ops[j]? with
  | some oj=>oj.after.all fun e=>!Region.binds .any e || e.on < j
  | none=>true) &&
 go t ord
where
 go (t:List Nat):List Nat→Bool
 | []=>true
 | a :: l=>(l.all fun b=>match ops[a]?,ops[b]? with
  | some oa,some ob=>(oa.after.all fun e=>!Region.binds .any e || !(e.on == b)) && ((t.getD b 0).testBit a || compatL la av ops a b oa ob)
  | _,_=>true) && go t l
def PairL (la:List (Nat×Nat×Nat)) (av:List (Nat×List Nat)) (ops:Array Oper) (a b:Nat):Prop:=∀ oa ob,ops[a]? = some oa→ops[b]? = some ob→
 (∀ e∈oa.after,Region.binds .any e=true→e.on≠b)∧(((tb ops).getD b 0).testBit a=true∨compatL la av ops a b oa ob=true)
theorem pairs_of:∀ {l:List Nat},okDrawL.go la av ops (tb ops) l=true→l.Pairwise (PairL la av ops)
 | [],_=>.nil
 | a :: l,h=>by
  simp only [okDrawL.go,Bool.and_eq_true] at h;refine .cons (fun b hb oa ob hoa hob=>?_) (pairs_of h.2)
  have:=List.all_eq_true.1 h.1 b hb
  simp only [hoa,hob,Bool.and_eq_true,Bool.or_eq_true] at this;refine ⟨fun e he hbi heq=>?_,this.2⟩
  have h1:=Array.all_eq_true_iff_forall_mem.1 this.1 e he
  simp [hbi,heq] at h1
theorem behindL (hlt:∀ j oj,ops[j]? = some oj→∀ e∈oj.after,Region.binds .any e=true→e.on < j) {listed:Array Bool} (hdown:∀ j oj,ops[j]? = some oj→listed.getD j false=true→∀ e∈oj.after,Region.binds .any e=true→listed.getD e.on false=true) :
  ∀ (n j:Nat) (oj:Oper),j≤n→ops[j]? = some oj→(∀ e∈oj.after,Region.binds .any e=true→listed.getD e.on false=true)→∀ q,((tb ops).getD j 0).testBit q=true→listed.getD q false=true:=by
 intro n
 induction n with
 | zero=>
  intro j oj hj hoj hall q hq
  have hj0:j=0:=by omega
  subst hj0
  obtain ⟨e,he,hb,_⟩:=tb_bits ops.toList [] 0 oj q (by simpa using hoj) (by simpa [tb] using hq)
  have:=hlt 0 oj hoj e he hb
  omega
 | succ n ih=>
  intro j oj hj hoj hall q hq
  obtain ⟨e,he,hb,r⟩:=tb_bits ops.toList [] j oj q (by simpa using hoj) (by simpa [tb] using hq)
  rcases r with rfl | ⟨_,r⟩
  ·exact hall e he hb
  ·have hlt1:=hlt j oj hoj e he hb
   have hlt2:e.on < ops.size:=by have:=(Array.getElem?_eq_some_iff.1 hoj).1;omega
   exact ih e.on ops[e.on] (by omega) (by simp [hlt2]) (fun e' he' hb'=>hdown e.on _ (by simp [hlt2]) (hall e he hb) e' he' hb') q (by simpa [tb] using r)
theorem anyL_ok (hg:Good P T) (hlt:∀ j oj,ops[j]? = some oj→∀ e∈oj.after,Region.binds .any e=true→e.on < j) {Q:Exit→St→Prop} {w0:World} {μ0:Mu} {σn:St} (hQ:Q .normal σn):∀ (n:Nat) (R:List Nat) (listed:Array Bool) (w:World) (μ:Mu) (a:Act) (σ:St),R.length=n→R.Nodup→
  (∀ j,j∈R↔j < ops.size∧listed.getD j true=false)→listed.size=ops.size→R.Pairwise (PairL la av ops)→
  (∀ j oj,ops[j]? = some oj→listed.getD j false=true→∀ e∈oj.after,Region.binds .any e=true→listed.getD e.on false=true)→runL P T Mv G N la av ops R σ σn→In w X G μ N a σ→Ev Mv w0 μ0 w μ→
  wpAnyIn (wd N.ro) 0 P .any ops (After Mv X G N w0 μ0 Q) n listed a w:=by
 intro n
 induction n with
 | zero=>
  intro R listed w μ a σ hl _ hR hsz _ _ hrun hi hev
  have:R=[]:=List.eq_nil_of_length_eq_zero hl
  subst this
  have hr:Region.ready .any ops listed=[]:=by
   apply List.eq_nil_iff_forall_not_mem.2
   intro j hj
   obtain ⟨h1,o,ho,_⟩:=mem_ready.1 hj
   exact absurd ((hR j).2 ⟨(Array.getElem?_eq_some_iff.1 ho).1,h1⟩) (by simp)
  have:σ=σn:=hrun
  subst this;exact ⟨hr,μ,σ,hQ,hi,hev⟩
 | succ n ih=>
  intro R listed w μ a σ hl hnd hR hsz hpw hdown hrun hi hev
  refine ⟨fun hr=>?_,fun i hir=>?_⟩
  ·cases R with
   | nil=>simp at hl
   | cons j R=>
    obtain ⟨hj1,hj2⟩:=(hR j).1 (by simp)
    have hoj:ops[j]? = some ops[j]:=by simp [hj1]
    have hjr:j∈Region.ready .any ops listed:=by
     refine mem_ready.2 ⟨hj2,ops[j],hoj,fun e he hb=>?_⟩
     have hlt':=hlt j ops[j] hoj e he hb
     have hlt2:e.on < ops.size:=by omega
     have hne:e.on ∉ (j :: R):=by
      intro hm
      rcases List.mem_cons.1 hm with h | h
      ·omega
      ·exact ((List.pairwise_cons.1 hpw).1 _ h ops[j] ops[e.on] hoj (by simp [hlt2])).1 e he hb rfl
     have:=mt (hR e.on).2 hne
     have hls:e.on < listed.size:=by omega
     simp only [hlt2,true_and,Array.getD_eq_getD_getElem?] at this ⊢;simp [hls] at this ⊢;exact this
    rw [hr] at hjr
    cases hjr
  ·obtain ⟨hi1,oi,hoi,hall⟩:=mem_ready.1 hir
   have hiR:i∈R:=(hR i).2 ⟨(Array.getElem?_eq_some_iff.1 hoi).1,hi1⟩
   obtain ⟨R1,R2,rfl⟩:=List.append_of_mem hiR
   have hfront:=runL_front (P:=P) (T:=T) (Mv:=Mv) (G:=G) (N:=N) (la:=la) (av:=av) hoi R1 (fun q hq oq hoq=>by
    have hpq:PairL la av ops q i:=(List.pairwise_append.1 hpw).2.2 q hq i (by simp)
    rcases (hpq oq oi hoq hoi).2 with h | h
    ·exfalso
     have hlq:=behindL hlt hdown i i oi (Nat.le_refl _) hoi hall q h
     have hq2:=((hR q).1 (by simp [hq])).2
     have hqs:q < listed.size:=by have:=(Array.getElem?_eq_some_iff.1 hoq).1;omega
     simp [Array.getD_eq_getD_getElem?,hqs] at hlq hq2;rw [hlq] at hq2;cases hq2
    ·exact h) hrun
   obtain ⟨o',ho',σ1,hstep,hrest⟩:=hfront
   rw [hoi] at ho'
   obtain rfl:=Option.some.inj ho'
   obtain ⟨σ0,hs0,himp⟩:=hstep.step (ops:=ops) (X:=X)
   refine stepTo_ok hg hs0 hi hoi fun w' μ0' a' hin0 hev0=>?_
   obtain ⟨μ',hin,hev1⟩:=himp w' μ0' a' hin0
   have hev':=hev0.trans hev1
   have hnd':(R1 ++ R2).Nodup:=by
    have:=hnd
    rw [List.nodup_append] at this ⊢
    obtain ⟨g1,g2,g3⟩:=this
    exact ⟨g1,(List.nodup_cons.1 g2).2,fun x hx y hy=>g3 x hx y (by simp [hy])⟩
   have hi_not:i ∉ R1 ++ R2:=by
    have:=hnd
    rw [List.nodup_append] at this
    obtain ⟨g1,g2,g3⟩:=this
    intro hm
    rcases List.mem_append.1 hm with h | h
    ·exact g3 i h i (by simp) rfl
    ·exact (List.nodup_cons.1 g2).1 h
   refine ih (R1 ++ R2) _ w' μ' a' σ1 (by simp at hl ⊢;omega) hnd' (fun j=>?_) (by simpa using hsz) ?_ ?_ hrest hin (hev.trans hev')
   ·by_cases hji:j=i
    ·subst hji
     have hls:j < listed.size:=by rw [hsz];exact (Array.getElem?_eq_some_iff.1 hoi).1
     simp [hls];simpa using hi_not
    ·rw [getD_set_ne true (Ne.symm hji)];rw [← hR j];simp [hji]
   ·rw [List.pairwise_append] at hpw ⊢
    obtain ⟨g1,g2,g3⟩:=hpw
    exact ⟨g1,(List.pairwise_cons.1 g2).2,fun x hx y hy=>g3 x hx y (by simp [hy])⟩
   ·intro j oj hoj hlj e he hb
    by_cases hji:j=i
    ·subst hji;rw [hoi] at hoj
     obtain rfl:=Option.some.inj hoj
     exact getD_set_true (hall e he hb)
    ·rw [getD_set_ne false (Ne.symm hji)] at hlj;exact getD_set_true (hdown j oj hoj hlj e he hb)
def offOps (r:Nat) (e:Env):List Operand→Prop
 | []=>True
 | .tmp t :: l=>(e t).map (AV.kill r)=e t∧offOps r e l
 | _ :: l=>offOps r e l
theorem offOps_ok {r:Nat} {e:Env}:∀ {l:List Operand},offOps r e l→∀ t,Operand.tmp t∈l→e t=killE r e t
 | [],_,t,ht=>by cases ht
 | p :: l,h,t,ht=>by
  cases p with
  | tmp u=>
   simp only [offOps] at h
   rcases List.mem_cons.1 ht with h1 | h1
   ·cases h1;exact h.1.symm
   ·exact offOps_ok h.2 t h1
  | _=>
   simp only [offOps] at h
   rcases List.mem_cons.1 ht with h1 | h1
   ·cases h1
   ·exact offOps_ok h t h1
def offAll (rs:List Nat) (ps:List Operand) (e:Env) (x:AV):Prop:=match rs with
 | []=>True
 | r :: rs=>(offOps r e ps∧x.kill r=x)∧offAll rs ps e x
theorem offAll_ok {o:Oper} {e:Env} {x:AV}:∀ {rs:List Nat},offAll rs o.op.operands.toList e x→∀ r∈rs,Off r o e x
 | [],_,r,hr=>by cases hr
 | q :: rs,h,r,hr=>by
  simp only [offAll] at h
  rcases List.mem_cons.1 hr with rfl | hr
  ·exact ⟨fun t ht=>offOps_ok h.1.1 t (by simpa using ht),h.1.2⟩
  ·exact offAll_ok h.2 r hr
def callD (P:Program) (G:Glob) (c:Call) (e:Env) (dst:Option Tmp) (H:Heap) (rs:List Nat) (ps:List Operand) (next:St→Prop):Prop:=∃ y g ds,tgt G e c=some (g,ds.map .d)∧PureC P G g ds y∧offAll rs ps e (.d y)∧next ⟨putd e dst (.d y),H⟩
theorem callD.mk {c:Call} {e:Env} {dst:Option Tmp} {H:Heap} {rs:List Nat} {ps:List Operand} {next:St→Prop} {g:FuncId} {xs:List AV} {ds ds':List D} {y:D} (hc:PureC P G g ds y) (ht:tgt G e c=some (g,xs)) (hx:allD xs=some ds') (hle:D.le.go ds' ds)
  (ho:offAll rs ps e (.d y)) (h:next ⟨putd e dst (.d y),H⟩):callD P G c e dst H rs ps next:=⟨y,g,ds',by rw [ht,allD_eq hx],hc.weak hle,ho,h⟩
def finK (Mv:Nat→Prop) (dst:Option Tmp) (r s:Nat) (z:AV) (σ:St) (next:St→Prop):Prop:=
 if s=r then match σ.H r,z with
  | some (.sl ty sz els),.own _ _ m=>Mv r∧m=els.length∧next ⟨putd σ.env dst (.d (.sl none els)),hup σ.H r (.sl ty sz [])⟩
  | _,_=>False
 else next ⟨putd σ.env dst z,σ.H⟩
def appK (T:Ty) (Mv:Nat→Prop) (G:Glob) (o:Oper) (σ:St) (r s:Nat) (next:St→Prop):Prop:=match appOps o with
 | some (x,y)=>match aeval G σ.env x,aeval G σ.env y with
  | some (.own q _ _),some v=>q=r∧fromRow s v∧match wr T G Mv σ o with
   | some (c,z,σ1)=>c∧finK Mv o.dst r s z σ1 next
   | none=>False
  | _,_=>False
 | none=>False
def plainL (T:Ty) (G:Glob) (Mv:Nat→Prop) (o:Oper) (σ:St) (rs:List Nat) (next:St→Prop):Prop:=
 if isWr o.op then match wr T G Mv σ o with
  | some (c,x,σ')=>c∧offAll rs o.op.operands.toList σ.env x∧next ⟨putd σ'.env o.dst x,σ'.H⟩
  | none=>False
 else match rd T G σ o.op with
  | some (c,x)=>c∧offAll rs o.op.operands.toList σ.env x∧next ⟨putd σ.env o.dst x,σ.H⟩
  | none=>False
def sxl (P:Program) (T:Ty) (Mv:Nat→Prop) (G:Glob) (N:Fr) (la:List (Nat×Nat×Nat)) (av:List (Nat×List Nat)) (K:St→Prop):List (Nat×Oper)→St→Prop
 | [],σ=>K σ
 | (i,o) :: rest,σ=>okDst N o∧o.guard=none∧match la.lookup i with
  | some (r,s)=>appK T Mv G o σ r s (sxl P T Mv G N la av K rest)
  | none=>kindOf o.op≠9∧match isCall o.op with
   | some c=>callD P G c σ.env o.dst σ.H (avOf av i) o.op.operands.toList (sxl P T Mv G N la av K rest)
   | none=>plainL T G Mv o σ (avOf av i) (sxl P T Mv G N la av K rest)
def inOrder (ops:Array Oper):List Nat→List (Nat×Oper)
 | []=>[]
 | i :: l=>match ops[i]? with
  | some o=>(i,o) :: inOrder ops l
  | none=>inOrder ops l
theorem sxl_run {K:St→Prop}:∀ (l:List Nat) (σ:St),(∀ i∈l,i < ops.size)→sxl P T Mv G N la av K (inOrder ops l) σ→∃ σn,K σn∧runL P T Mv G N la av ops l σ σn:=by
 intro l
 induction l with
 | nil=>intro σ _ h;exact ⟨σ,h,rfl⟩
 | cons i l ih=>
  intro σ hl h
  have hi:=hl i (by simp)
  have ho:ops[i]? = some ops[i]:=by simp [hi]
  simp only [inOrder,ho] at h;generalize ops[i]=o at ho h;simp only [sxl] at h
  obtain ⟨hd,hgu,h⟩:=h
  have fin:∀ σ1,LStep P T Mv G N la av i o σ σ1→sxl P T Mv G N la av K (inOrder ops l) σ1→∃ σn,K σn∧runL P T Mv G N la av ops (i :: l) σ σn:=fun σ1 hs h1=>by
   obtain ⟨σn,hk,hr⟩:=ih σ1 (fun j hj=>hl j (by simp [hj])) h1
   exact ⟨σn,hk,o,ho,σ1,hs,hr⟩
  cases hla:la.lookup i with
  | some rs=>
   obtain ⟨r,s⟩:=rs
   simp only [hla] at h;unfold appK at h
   split at h
   ·rename_i x y hops
    split at h
    ·rename_i q off n v hx hy
     obtain ⟨rfl,hs,h⟩:=h
     split at h
     ·rename_i c z σ1 hw
      obtain ⟨hc,h⟩:=h
      obtain ⟨e,H⟩:=σ
      obtain ⟨m,row,happ,rfl,rfl⟩:=AppS.of hops hx hy hs hw hc
      unfold finK at h
      split at h
      ·obtain ⟨⟨ty,sz,els,rfl⟩,_⟩:=happ.row
       simp only [hup,if_true] at h
       obtain ⟨hm,hml,h⟩:=h
       refine fin _ ⟨hd,hgu,?_⟩ h;simp only [hla];refine ⟨m,_,_,_,happ,.inr ⟨hm,ty,sz,els,rfl,hml,rfl,rfl⟩,?_⟩
       congr 1
       funext q'
       by_cases hq':q'=q<;>simp [hup,hq']
      ·refine fin _ ⟨hd,hgu,?_⟩ h;simp only [hla];exact ⟨m,row,_,_,happ,.inl ⟨rfl,rfl⟩,rfl⟩
     ·exact h.elim
    ·exact h.elim
   ·exact h.elim
  | none=>
   simp only [hla] at h
   obtain ⟨hk,h⟩:=h
   split at h
   ·rename_i c hc
    obtain ⟨y,g,ds,ht,hp,hoff,h⟩:=h
    refine fin _ ⟨hd,hgu,?_⟩ h;simp only [hla];refine ⟨hk,.d y,σ.H,?_,rfl,offAll_ok hoff,fun _ c' hc'=>?_⟩
    ·unfold Ex;simp only [hc];exact ⟨y,⟨g,_,ht,.inl ⟨ds,rfl,hp⟩⟩,rfl,trivial⟩
    ·rw [hc] at hc'
     obtain rfl:=Option.some.inj hc'
     exact ⟨y,g,ds,ht,hp,rfl⟩
   ·rename_i hc
    unfold plainL at h
    split at h
    ·rename_i hw
     split at h
     ·rename_i c x σ1 h1
      obtain ⟨hcc,hoff,h⟩:=h
      have he:=wr_env hk h1
      obtain ⟨e,H⟩:=σ
      obtain ⟨e1,H1⟩:=σ1
      dsimp only at he
      subst he;refine fin _ ⟨hd,hgu,?_⟩ h;simp only [hla];refine ⟨hk,x,H1,?_,rfl,offAll_ok hoff,fun _ c' hc'=>?_⟩
      ·unfold Ex;simp only [hc];rw [if_pos hw];exact ⟨c,h1,hcc⟩
      ·rw [hc] at hc';cases hc'
     ·exact h.elim
    ·rename_i hw
     split at h
     ·rename_i c x h1
      obtain ⟨hcc,hoff,h⟩:=h
      refine fin _ ⟨hd,hgu,?_⟩ h;simp only [hla];refine ⟨hk,x,σ.H,?_,rfl,offAll_ok hoff,fun _ c' hc'=>?_⟩
      ·unfold Ex;simp only [hc];rw [if_neg hw];exact ⟨c,h1,hcc,trivial⟩
      ·rw [hc] at hc';cases hc'
     ·exact h.elim
theorem AW_regionL (hg:Good P T) (hm:P.follows .mixedOrders=true) (la:List (Nat×Nat×Nat)) (av:List (Nat×List Nat)) (ord:List Nat) {id:Nat} (hok:okDrawL la av ord ops=true) {Q:Exit→St→Prop} {σ:St} (h:sxl P T Mv G N la av (fun σ'=>Q .normal σ') (inOrder ops ord) σ):AW P Mv X G N (.region id ops true) Q σ:=fun w μ a hi=>by
 unfold okDrawL at hok;simp only [Bool.and_eq_true] at hok
 obtain ⟨⟨⟨⟨⟨h1,h2⟩,h3⟩,h4⟩,h5⟩,h6⟩:=hok
 have hlen:ord.length=ops.size:=by simpa using h1
 have hlt:∀ i∈ord,i < ops.size:=fun i hi=>by simpa using List.all_eq_true.1 h2 i hi
 have hall:∀ i,i < ops.size→i∈ord:=fun i hi=>by simpa using List.all_eq_true.1 h3 i (List.mem_range.2 hi)
 have hnd:ord.Nodup:=by simpa using h4
 have hedge:∀ j oj,ops[j]? = some oj→∀ e∈oj.after,Region.binds .any e=true→e.on < j:=fun j oj hoj e he hb=>by
  have:=List.all_eq_true.1 h5 j (List.mem_range.2 (Array.getElem?_eq_some_iff.1 hoj).1)
  simp only [hoj] at this
  have:=Array.all_eq_true_iff_forall_mem.1 this e he
  simpa [hb] using this
 obtain ⟨σn,hQ,hrun⟩:=sxl_run ord σ hlt h
 refine wpIn_region_any hm ?_
 obtain ⟨hin,hev⟩:=hi.grew (Mv:=Mv) (Grew.drew w)
 refine anyL_ok hg hedge hQ ops.size ord _ w.drew μ a σ hlen hnd (fun j=>?_) (by simp) (pairs_of h6) ?_ hrun hin hev
 ·constructor
  ·intro hj
   have:=hlt j hj
   simp [Array.getD_eq_getD_getElem?,this]
  ·intro hj
   exact hall j hj.1
 ·intro j oj hoj hlj
  have hj:=(Array.getElem?_eq_some_iff.1 hoj).1
  simp [Array.getD_eq_getD_getElem?,hj] at hlj
theorem AW_rl (hg:Good P T) (hm:P.follows .mixedOrders=true) (la:List (Nat×Nat×Nat)) (av:List (Nat×List Nat)) (ord:List Nat) (l ns:List Nat) (hM:∀ r,ns.contains r=false→Mv r) {id:Nat} (hok:okDrawL la av ord ops=true) {y:Code} {Q:Exit→St→Prop} {σ:St}
  (h:∀ K:St→Prop,(∀ τ:St,AW P Mv X G N y Q (τ.norm l ns)→K τ)→sxl P T Mv G N la av K (inOrder ops ord) σ):AW P Mv X G N (.seq (.region id ops true) y) Q σ:=
 AW_seq (AW_regionL hg hm la av ord hok (h _ fun _ h=>h.norm l ns hM))
theorem AW_rle (hg:Good P T) (hm:P.follows .mixedOrders=true) (la:List (Nat×Nat×Nat)) (av:List (Nat×List Nat)) (ord:List Nat) {id:Nat} (hok:okDrawL la av ord ops=true) {Q:Exit→St→Prop} {σ:St}
  (h:∀ K:St→Prop,(∀ τ:St,Q .normal τ→K τ)→sxl P T Mv G N la av K (inOrder ops ord) σ):AW P Mv X G N (.region id ops true) Q σ:=AW_regionL hg hm la av ord hok (h _ fun _ h=>h)
end
end Go.Av
namespace Go.Av
section
variable {P:Program} {T:Ty} {Mv X:Nat→Prop} {G:Glob} {N:Fr} {σ:St}
theorem upd_lst (l:List (Nat×AV)) (i:Nat) (x:AV):upd (lst l) i x=lst ((i,x) :: l):=by
 funext j
 simp only [upd,lst,List.lookup]
 by_cases h:j=i
 ·subst h;simp
 ·have:(j == i)=false:=by simpa using h
  simp [h,this]
theorem hup_hlst (l:List (Nat×Row)) (i:Nat) (x:Row):hup (hlst l) i x=hlst ((i,x) :: l):=by
 funext j
 simp only [hup,hlst,List.lookup]
 by_cases h:j=i
 ·subst h;simp
 ·have:(j == i)=false:=by simpa using h
  simp [h,this]
theorem lookup_map {α β:Type} (f:α→β) (l:List (Nat×α)) (i:Nat):(l.map fun p=>(p.1,f p.2)).lookup i=(l.lookup i).map f:=by
 induction l with
 | nil=>rfl
 | cons p l ih=>
  simp only [List.map_cons,List.lookup]
  cases h:(i == p.1)<;>simp [ih]
theorem killE_lst (r:Nat) (l:List (Nat×AV)):killE r (lst l)=lst (l.map fun p=>(p.1,p.2.kill r)):=by
 funext j;simp only [killE,lst,lookup_map]
theorem killH_hlst (r:Nat) (l:List (Nat×Row)):killH r (hlst l)=hlst (l.map fun p=>(p.1,p.2.kill r)):=by
 funext j;simp only [killH,hlst,lookup_map]
theorem trE_lst (o f:Nat→Nat→Nat→AV) (l:List (Nat×AV)):trE o f (lst l)=lst (l.map fun p=>(p.1,p.2.tr o f)):=by
 funext j;simp only [trE,lst,lookup_map]
theorem hno_hlst:hno=hlst []:=rfl
def stepF (P:Program) (T:Ty) (Mv X:Nat→Prop) (G:Glob) (N:Fr) (ops:Array Oper) (o:Oper) (σ:St) (K:St→Prop):Prop:=okDst N o∧match wantedS ops σ.env o with
 | some b=>if b=true then exK P T Mv X G N o σ K else K ⟨putd σ.env o.dst und,σ.H⟩
 | none=>False
def stepD (P:Program) (T:Ty) (Mv:Nat→Prop) (G:Glob) (N:Fr) (ops:Array Oper) (o:Oper) (σ:St) (K:St→Prop):Prop:=okDst N o∧match wantedS ops σ.env o with
 | some b=>if b=true then (match isCall o.op with
  | some c=>callQ P G c σ o.dst K
  | none=>plainS T G Mv o σ K) else K ⟨putd σ.env o.dst und,σ.H⟩
 | none=>False
def stepL (P:Program) (T:Ty) (Mv:Nat→Prop) (G:Glob) (N:Fr) (la:List (Nat×Nat×Nat)) (av:List (Nat×List Nat)) (i:Nat) (o:Oper) (σ:St) (K:St→Prop):Prop:=okDst N o∧o.guard=none∧match la.lookup i with
 | some (r,s)=>appK T Mv G o σ r s K
 | none=>kindOf o.op≠9∧match isCall o.op with
  | some c=>callD P G c σ.env o.dst σ.H (avOf av i) o.op.operands.toList K
  | none=>plainL T G Mv o σ (avOf av i) K
theorem sxn {ops:Array Oper} {K:St→Prop} {o:Oper} {rest:List Oper} (h:∀ K':St→Prop,(∀ τ,sxf P T Mv X G N ops K rest τ→K' τ)→stepF P T Mv X G N ops o σ K'):sxf P T Mv X G N ops K (o :: rest) σ:=h _ fun _ h=>h
theorem sxd_next {ops:Array Oper} {K:St→Prop} {o:Oper} {rest:List Oper} (h:∀ K':St→Prop,(∀ τ,sxd P T Mv G N ops K rest τ→K' τ)→stepD P T Mv G N ops o σ K'):sxd P T Mv G N ops K (o :: rest) σ:=h _ fun _ h=>h
theorem sxz {ops:Array Oper} {K:St→Prop} (h:K σ):sxf P T Mv X G N ops K [] σ:=h
theorem sxd_nil {ops:Array Oper} {K:St→Prop} (h:K σ):sxd P T Mv G N ops K [] σ:=h
end
end Go.Av
namespace Go.Av
theorem trH_hlst (k:Nat→Bool) (o f:Nat→Nat→Nat→AV) (l:List (Nat×Row)):trH k o f (hlst l)=hlst (l.filterMap fun p=>if k p.1=true then some (p.1,p.2.tr o f) else none):=by
 funext i
 unfold trH hlst
 induction l with
 | nil=>simp
 | cons p l ih=>
  obtain ⟨j,r⟩:=p
  simp only [List.lookup_cons,List.filterMap_cons]
  by_cases hij:i=j
  ·subst hij
   cases hk:k i
   ·simp [hk] at ih ⊢;exact ih
   ·simp
  ·have hb:(i == j)=false:=by simpa using hij
   rw [hb]
   cases hk:k j
   ·simpa using ih
   ·simp only [if_true,List.lookup_cons,hb];exact ih
section
variable {P:Program} {Mv X:Nat→Prop} {G:Glob} {N:Fr} {w w':World} {μ:Mu} {a:Act} {σ:St}
theorem sxl_nextO {T:Ty} {ops:Array Oper} {la:List (Nat×Nat×Nat)} {av:List (Nat×List Nat)} {K:St→Prop} {i:Nat} {l:List Nat} {o:Oper} (ho:ops[i]? = some o) (h:∀ K':St→Prop,(∀ τ,sxl P T Mv G N la av K (inOrder ops l) τ→K' τ)→stepL P T Mv G N la av i o σ K'):sxl P T Mv G N la av K (inOrder ops (i :: l)) σ:=by
 have:inOrder ops (i :: l)=(i,o) :: inOrder ops l:=by simp [inOrder,ho]
 rw [this];exact h _ fun _ h=>h
theorem sxl_nilO {T:Ty} {ops:Array Oper} {la:List (Nat×Nat×Nat)} {av:List (Nat×List Nat)} {K:St→Prop} (h:K σ):sxl P T Mv G N la av K (inOrder ops []) σ:=h
theorem Imp.adoptCell (b j r ty sz:Nat) {e:Env} {H:Heap} {tb:TypeId} {cells:List AV} (hb:H b=some (.box tb cells)) (hr:H r=none) (hc:cells[j]? = some (.d (.sl (some false) []))) :
  Imp Mv X G N ⟨e,H⟩ ⟨e,hup (hup H r (.sl ty sz [])) b (.box tb (cells.set j (.own r 0 0)))⟩:=fun w μ a hi=>by
 obtain ⟨hin,ev⟩:=hi.alloc (Mv:=Mv) (w':=w) (m:=⟨none,sz,0⟩) hr (Grew.refl w) (by simp) (row:=.sl ty sz []) fun _=>.nil rfl rfl
 have hrb:b≠r:=fun h=>by subst h;rw [hr] at hb;cases hb
 refine ⟨mup μ r ⟨none,sz,0⟩,⟨⟨fun q row hq=>?_,fun q m hm=>?_,hin.sim.inj,hin.sim.frame,hin.sim.fits⟩,hin.env,hin.glob⟩,ev⟩
 ·by_cases hqb:q=b
  ·subst hqb;simp only [hup,if_true,Option.some.injEq] at hq;subst hq
   obtain ⟨m,hm,ok⟩:=hin.sim.rows q (.box tb cells) (by simp [hup,hrb,hb])
   refine ⟨m,hm,?_⟩
   cases ok with
   | box hb' hs hcap hh hn hrv hx=>
    refine .box hb' rfl hcap hh (by simpa using hn) (hx:=by simpa using hx) fun i u c hu hci=>?_;rw [List.getElem?_set] at hci
    split at hci
    ·rename_i hij
     subst hij
     split at hci
     ·obtain rfl:=Option.some.inj hci
      have h1:=hrv j u _ hu hc
      refine .own (m:=⟨none,sz,0⟩) (by simp [mup]) (.inl ⟨rfl,?_,rfl,rfl⟩)
      rcases h1.data.sl_inv with ⟨rfl,_⟩ | ⟨_,_,_,hk,_⟩
      ·rfl
      ·exact absurd rfl hk
     ·cases hci
    ·exact hrv i u c hu hci
  ·exact hin.sim.rows q row (by simpa [hup,hqb] using hq)
 ·by_cases hqb:q=b
  ·exact ⟨.box tb (cells.set j (.own r 0 0)),by subst hqb;simp [hup]⟩
  ·obtain ⟨row,hrow⟩:=hin.sim.dom q m hm
   exact ⟨row,by simpa [hup,hqb] using hrow⟩
end
end Go.Av
namespace Go.Av
section
variable {P:Program} {T:Ty} {Mv X:Nat→Prop} {G:Glob} {N:Fr} {σ:St}
def ren (r r' q:Nat):Nat:=if q=r then r' else q
def renO (r r' q off n:Nat):AV:=.own (ren r r' q) off n
def renF (r r' q e j:Nat):AV:=.ref (ren r r' q) e j
def renU (r r':Nat) (μ:Mu):Mu:=fun q=>if q=r' then μ r else if q=r then none else μ q
def renH (r r':Nat) (H:Heap):Heap:=fun q=>(if q=r' then H r else if q=r then none else H q).map (Row.tr (renO r r') (renF r r'))
theorem renU_some {r r' q:Nat} {m:MRow} {μ:Mu} (h:renU r r' μ q=some m):∃ p,μ p=some m∧q=ren r r' p:=by
 unfold renU at h
 split at h
 ·rename_i e;exact ⟨r,h,by simp [ren,e]⟩
 ·split at h
  ·cases h
  ·rename_i e1 e2;exact ⟨q,h,by simp [ren,e2]⟩
theorem renU_of {r r' p:Nat} {m:MRow} {μ:Mu} (h0:μ r'=none) (h:μ p=some m):renU r r' μ (ren r r' p)=some m:=by
 unfold renU ren
 by_cases e:p=r
 ·subst e;simp [h]
 ·have e2:p≠r':=fun e2=>by rw [e2,h0] at h;cases h
  simp [e,e2,h]
theorem In.ren {w:World} {μ:Mu} {a:Act} {r r':Nat} (hi:In w X G μ N a σ) (hH:σ.H r'=none):In w X G (renU r r' μ) N a ⟨trE (renO r r') (renF r r') σ.env,renH r r' σ.H⟩:=by
 have h0:μ r'=none:=hi.sim.none_of hH
 have hX:∀ b,XX X (renU r r' μ) b→XX X μ b:=fun b hb=>hb.elim .inl fun ⟨q,m,hq,hbq⟩=>let ⟨p,hp,_⟩:=renU_some hq;.inr ⟨p,m,hp,hbq⟩
 have hRD:∀ {u:Value} {x:D},RD w (XX X μ) u x→RD w (XX X (renU r r' μ)) u x:=fun h=>h.mono (Nat.le_refl _) fun b _ hb=>⟨rfl,fun e=>hb (hX b e)⟩
 have hRV:∀ {u:Value} {x:AV},RV w X μ u x→RV w X (renU r r' μ) u (x.tr (renO r r') (renF r r')):=fun h=>RV.tr hX (fun u q off n h=>by
  obtain ⟨m,hm,hh⟩:=h.own_inv
  exact .own (renU_of h0 hm) hh) (fun u q e j h=>by
  obtain ⟨m,b,hm,hb,rfl⟩:=h.ref_inv
  exact .ref (renU_of h0 hm) hb) h
 refine ⟨⟨fun q row hr=>?_,fun q m hr=>?_,fun q q' m1 m2 b h1 h2 hb1 hb2=>?_,fun q mq b hq hb=>?_,hi.sim.fits⟩,
  ⟨hi.env.defers,hi.env.size,fun i x hx=>?_⟩,fun g x hx=>hRD (hi.glob g x hx)⟩
 ·obtain ⟨row0,hrow0,rfl⟩:=Option.map_eq_some_iff.1 hr
  have:∃ p,σ.H p=some row0∧q=Go.Av.ren r r' p:=by
   split at hrow0
   ·rename_i e;exact ⟨r,hrow0,by simp [Go.Av.ren,e]⟩
   ·split at hrow0
    ·cases hrow0
    ·rename_i e1 e2;exact ⟨q,hrow0,by simp [Go.Av.ren,e2]⟩
  obtain ⟨p,hp,rfl⟩:=this
  obtain ⟨m,hm,ok⟩:=hi.sim.rows p row0 hp
  refine ⟨m,renU_of h0 hm,?_⟩
  cases ok with
  | nil h1 h2=>exact .nil h1 h2
  | sl h1 h2 h3 h4 h5 h6 h7 h8 h9=>exact .sl h1 h2 h3 h4 h5 h6 h7 h8 fun i j el c he hc=>let ⟨u,hu,hr⟩:=h9 i j el c he hc;⟨u,hu,hRD hr⟩
  | box h1 h2 h3 h4 h5 h6 h7=>
   refine .box h1 rfl h3 h4 (by simpa using h5) (fun j u c hu hc=>?_) (by simpa using h7);rw [List.getElem?_map] at hc
   obtain ⟨c',hc',rfl⟩:=Option.map_eq_some_iff.1 hc
   exact hRV (h6 j u c' hu hc')
  | mp h1 h2 h3 h4=>exact .mp h1 h2 h3 fun i e p he hp=>let ⟨a,b,c⟩:=h4 i e p he hp;⟨a,b,hRD c⟩
  | it h1 h2 h3=>exact .it h1 h2 (hRD h3)
 ·obtain ⟨p,hp,rfl⟩:=renU_some hr
  obtain ⟨row,hrow⟩:=hi.sim.dom p m hp
  refine ⟨row.tr (renO r r') (renF r r'),?_⟩
  have hne:p≠r':=fun e=>by rw [e,h0] at hp;cases hp
  show renH r r' σ.H _=_
  unfold renH Go.Av.ren
  by_cases e:p=r
  ·subst e;simp [hrow]
  ·simp [e,hne,hrow]
 ·obtain ⟨p1,hp1,rfl⟩:=renU_some h1
  obtain ⟨p2,hp2,rfl⟩:=renU_some h2
  rw [hi.sim.inj p1 p2 m1 m2 b hp1 hp2 hb1 hb2]
 ·obtain ⟨p,hp,rfl⟩:=renU_some hq
  exact hi.sim.frame p mq b hp hb
 ·replace hx:trE (renO r r') (renF r r') σ.env i=some x:=hx
  unfold trE at hx
  obtain ⟨x0,h0',rfl⟩:=Option.map_eq_some_iff.1 hx
  obtain ⟨u,hu,hr⟩:=hi.env.slot i x0 h0'
  exact ⟨u,hu,hRV hr⟩
theorem Imp.ren {r r':Nat} (hm:Mv r) (hH:σ.H r'=none):Imp Mv X G N σ ⟨trE (renO r r') (renF r r') σ.env,renH r r' σ.H⟩:=fun w μ a hi=>
 ⟨renU r r' μ,hi.ren hH,⟨Nat.le_refl _,rfl,rfl,rfl,fun b hb hr=>⟨rfl,fun ⟨q,m,hq,hbq⟩=>let ⟨p,hp,_⟩:=renU_some hq;hr ⟨p,m,hp,hbq⟩⟩,fun q m hq hn=>by
  have h1:q≠r:=fun e=>hn (e ▸ hm)
  have h2:q≠r':=fun e=>by rw [e,hi.sim.none_of hH] at hq;cases hq
  simp only [renU,if_neg h1,if_neg h2]
  exact hq⟩⟩
theorem Imp.toBox (r:Nat) {e:Env} {H:Heap} {ty:Nat} {els:List (List D)} (hH:H r=some (.sl ty 1 els)) (hne:els≠[]) (hT:ty≠bldT:=by decide):Imp Mv X G N ⟨e,H⟩ ⟨e,hup H r (.box ty (els.map fun el=>.d (el.headD (.v .nilFunc))))⟩:=fun w μ a hi=>by
 refine ⟨μ,⟨⟨fun q row hq=>?_,fun q m hq=>?_,hi.sim.inj,hi.sim.frame,hi.sim.fits⟩,⟨hi.env.defers,hi.env.size,hi.env.slot⟩,hi.glob⟩,.refl _ w μ⟩
 ·replace hq:hup H r _ q=some row:=hq
  unfold hup at hq
  split at hq
  ·rename_i e
   subst e
   obtain rfl:=Option.some.inj hq
   obtain ⟨m,hm,ok⟩:=hi.sim.rows q _ hH
   refine ⟨m,hm,?_⟩
   cases ok with
   | nil h1 h2=>exact absurd rfl hne
   | sl h1 h2 h3 h4 h5 h6 h7 h8 h9=>
    refine .box h1 rfl h6 h3 (by simp;omega) (hx:=fun e=>absurd e hT) fun j u c hu hc=>?_;rw [List.getElem?_map] at hc
    obtain ⟨el,hel,rfl⟩:=Option.map_eq_some_iff.1 hc
    have hl:=h7 el (List.mem_of_getElem? hel)
    match el,hl with
    | [c],_=>
     obtain ⟨u',hu',hrd⟩:=h9 j 0 [c] c hel rfl
     simp only [Nat.mul_one,Nat.add_zero] at hu';rw [hu] at hu'
     obtain rfl:=Option.some.inj hu'
     exact .d hrd
  ·exact hi.sim.rows q row hq
 ·obtain ⟨row,hrow⟩:=hi.sim.dom q m hq
  by_cases e:q=r
  ·exact ⟨_,if_pos e⟩
  ·exact ⟨row,(if_neg e).trans hrow⟩
end
end Go.Av
namespace Go.Av
def isLS:Op→Bool
 | .load _ _=>true
 | .indexAddr _ _ _=>true
 | .slice _ _ _ _ _=>true
 | .store _ _ _=>true
 | .mapUpdate _ _ _ _=>true
 | _=>false
def handleOn (r:Nat):AV→Prop
 | .ref q _ _=>q=r
 | .own q _ _=>q=r
 | .d _=>True
 | _=>False
def onRow (G:Glob) (e:Env) (o:Op) (r:Nat):Prop:=match o with
 | .load _ p=>match aeval G e p with
  | some v=>handleOn r v
  | none=>False
 | .indexAddr _ p _=>match aeval G e p with
  | some v=>handleOn r v
  | none=>False
 | .slice _ p _ _ _=>match aeval G e p with
  | some v=>handleOn r v
  | none=>False
 | .store _ p _=>match aeval G e p with
  | some (.ref q _ _)=>q=r
  | _=>False
 | .mapUpdate _ p _ _=>match aeval G e p with
  | some (.mp q)=>q=r
  | _=>False
 | _=>False
def touchC (G:Glob) (fp:List (Nat×Nat)) (e:Env) (i:Nat) (o:Op):Prop:=match fp.lookup i with
 | some r=>onRow G e o r
 | none=>True
def compatG (fp:List (Nat×Nat)) (ops:Array Oper) (i j:Nat) (oi oj:Oper):Bool:=compat ops oi oj || (oi.apart ops oj && isLS oi.op && isLS oj.op && match fp.lookup i,fp.lookup j with
 | some r,some r'=>!(r == r')
 | _,_=>false)
section
variable {P:Program} {T:Ty} {Mv X:Nat→Prop} {G:Glob} {N:Fr} {ops:Array Oper} {fp:List (Nat×Nat)}
def pset (H:Heap) (r:Nat):Option Row→Heap
 | none=>H
 | some row=>hup H r row
theorem pset_ne {H:Heap} {r q:Nat} {u:Option Row} (h:q≠r):pset H r u q=H q:=by
 cases u with
 | none=>rfl
 | some row=>simp [pset,hup,h]
theorem pset_comm {H:Heap} {r q:Nat} {u v:Option Row} (h:r≠q):pset (pset H r u) q v=pset (pset H q v) r u:=by
 cases u<;>cases v<;>try rfl
 funext i
 by_cases h1:i=r<;>by_cases h2:i=q<;>simp [pset,hup,h1,h2,h,Ne.symm h]
theorem loadA_local {H H2:Heap} {t:TypeId} {v:AV} {r:Nat} (hv:handleOn r v) (h:H2 r=H r):loadA T H2 t v=loadA T H t v:=by
 cases v with
 | d x=>cases x<;>rfl
 | ref q ee j=>simp only [handleOn] at hv;subst hv;simp only [loadA,h]
 | own q off n=>rfl
 | _=>exact hv.elim
theorem indexA_local {H H2:Heap} {t:TypeId} {v y:AV} {r:Nat} (hv:handleOn r v) (h:H2 r=H r):indexA T H2 t v y=indexA T H t v y:=by
 cases v with
 | d x=>cases x<;>(cases y<;>first | rfl | (rename_i z;cases z<;>first | rfl | (rename_i z;cases z<;>rfl)))
 | ref q ee j=>cases y<;>first | rfl | (rename_i z;cases z<;>first | rfl | (rename_i z;cases z<;>rfl))
 | own q off n=>
  simp only [handleOn] at hv;subst hv
  cases y with
  | d z=>cases z with
   | v z=>cases z<;>first | rfl | simp only [indexA,h]
   | _=>rfl
  | _=>rfl
 | _=>exact hv.elim
theorem sliceA_local {H H2:Heap} {t:TypeId} {v:AV} {lo hi:Option Int} {r:Nat} (hv:handleOn r v) (h:H2 r=H r):sliceA T H2 t v lo hi=sliceA T H t v lo hi:=by
 cases v with
 | d x=>cases x<;>first | rfl | (rename_i z;cases z<;>rfl)
 | ref q ee j=>rfl
 | own q off n=>simp only [handleOn] at hv;subst hv;simp only [sliceA,h]
 | _=>exact hv.elim
theorem Ex.touch {o:Oper} {e:Env} {H H':Heap} {x:AV} {r:Nat} (ht:onRow G e o.op r) (h:Ex P T Mv G o e H x H') :
  ∃ u,H'=pset H r u∧∀ H2,H2 r=H r→Ex P T Mv G o e H2 x (pset H2 r u):=by
 obtain ⟨dst,op,type,pos,after,guard⟩:=o
 dsimp only at ht
 cases op<;>simp only [onRow] at ht
 case load t p=>
  split at ht
  ·rename_i v hp
   refine ⟨none,?_,fun H2 h2=>?_⟩
   ·unfold Ex at h;simp only [isCall,isWr,Bool.false_eq_true,if_false] at h
    obtain ⟨c,_,_,rfl⟩:=h
    rfl
   ·unfold Ex at h ⊢;simp only [isCall,isWr,Bool.false_eq_true,if_false] at h ⊢
    obtain ⟨c,h1,h3,rfl⟩:=h
    refine ⟨c,?_,h3,rfl⟩;simp only [rd,hp,Option.bind_some] at h1 ⊢;rw [loadA_local ht h2];exact h1
  ·exact ht.elim
 case indexAddr t p y=>
  split at ht
  ·rename_i v hp
   refine ⟨none,?_,fun H2 h2=>?_⟩
   ·unfold Ex at h;simp only [isCall,isWr,Bool.false_eq_true,if_false] at h
    obtain ⟨c,_,_,rfl⟩:=h
    rfl
   ·unfold Ex at h ⊢;simp only [isCall,isWr,Bool.false_eq_true,if_false] at h ⊢
    obtain ⟨c,h1,h3,rfl⟩:=h
    refine ⟨c,?_,h3,rfl⟩;simp only [rd,hp] at h1 ⊢
    cases hy:aeval G e y with
    | none=>simp [hy] at h1
    | some b=>simp only [hy] at h1 ⊢;rw [indexA_local ht h2];exact h1
  ·exact ht.elim
 case slice t p lo hi mx=>
  split at ht
  ·rename_i v hp
   refine ⟨none,?_,fun H2 h2=>?_⟩
   ·unfold Ex at h;simp only [isCall,isWr,Bool.false_eq_true,if_false] at h
    obtain ⟨c,_,_,rfl⟩:=h
    rfl
   ·unfold Ex at h ⊢;simp only [isCall,isWr,Bool.false_eq_true,if_false] at h ⊢
    obtain ⟨c,h1,h3,rfl⟩:=h
    refine ⟨c,?_,h3,rfl⟩;simp only [rd,hp] at h1 ⊢
    by_cases hmx:mx.isNone=true
    ·rw [if_pos hmx] at h1 ⊢
     cases hlo:bound G e lo with
     | none=>simp [hlo] at h1
     | some l=>
      cases hhi:bound G e hi with
      | none=>simp [hlo,hhi] at h1
      | some l2=>simp only [hlo,hhi] at h1 ⊢;rw [sliceA_local ht h2];exact h1
    ·rw [if_neg hmx] at h1;cases h1
  ·exact ht.elim
 case store t p y=>
  split at ht
  ·rename_i q ee j hp
   subst ht;unfold Ex at h;simp only [isCall,isWr,if_true] at h
   obtain ⟨c,h1,h3⟩:=h
   cases dst with
   | some d=>simp [wr] at h1
   | none=>
    simp only [wr,hp] at h1
    cases hy:aeval G e y with
    | none=>simp [hy] at h1
    | some v=>
     simp only [hy] at h1
     split at h1
     ·rename_i ty cells hr
      split at h1
      ·rename_i he
       split at h1
       ·rename_i c' cells' hs
        simp only [Option.some.injEq,Prod.mk.injEq,St.mk.injEq,true_and] at h1
        obtain ⟨rfl,rfl,rfl⟩:=h1
        refine ⟨some (.box ty cells'),rfl,fun H2 h2=>?_⟩;unfold Ex;simp only [isCall,isWr,if_true];exact ⟨_,by simp [wr,hp,hy,h2,hr,he,hs,pset],h3⟩
       ·cases h1
      ·cases h1
     ·rename_i ty sz els hr
      split at h1
      ·rename_i c' els' hs
       simp only [Option.some.injEq,Prod.mk.injEq,St.mk.injEq,true_and] at h1
       obtain ⟨rfl,rfl,rfl⟩:=h1
       refine ⟨some (.sl ty sz els'),rfl,fun H2 h2=>?_⟩;unfold Ex;simp only [isCall,isWr,if_true];exact ⟨_,by simp [wr,hp,hy,h2,hr,hs,pset],h3⟩
      ·cases h1
     ·cases h1
     ·cases h1
     ·cases h1
  ·exact ht.elim
 case mapUpdate t p y z=>
  split at ht
  ·rename_i q hp
   subst ht;unfold Ex at h;simp only [isCall,isWr,if_true] at h
   obtain ⟨c,h1,h3⟩:=h
   cases dst with
   | some d=>simp [wr] at h1
   | none=>
    simp only [wr,hp] at h1
    split at h1
    ·rename_i r' key dx e1 e2 e3
     simp only [Option.some.injEq,AV.mp.injEq] at e1;subst e1
     split at h1
     ·rename_i ty ents hr
      split at h1
      ·rename_i c' ents' hs
       simp only [Option.some.injEq,Prod.mk.injEq,St.mk.injEq,true_and] at h1
       obtain ⟨rfl,rfl,rfl⟩:=h1
       refine ⟨some (.mp ty ents'),rfl,fun H2 h2=>?_⟩;unfold Ex;simp only [isCall,isWr,if_true];exact ⟨_,by simp [wr,hp,e2,e3,h2,hr,hs,pset],h3⟩
      ·cases h1
     ·cases h1
    ·cases h1
  ·exact ht.elim
theorem onRow_congr {o:Op} {e e':Env} {r:Nat} (ha:Agree o e e') (h:onRow G e o r):onRow G e' o r:=by
 cases o<;>simp only [onRow] at h ⊢<;>try exact h
 case load t p=>
  have:aeval G e p=aeval G e' p:=aeval_congr fun t ht=>ha t (by simp [Op.operands,ht])
  rw [← this];exact h
 case indexAddr t p y=>
  have:aeval G e p=aeval G e' p:=aeval_congr fun t ht=>ha t (by simp [Op.operands,ht])
  rw [← this];exact h
 case slice t p lo hi mx=>
  have:aeval G e p=aeval G e' p:=aeval_congr fun t ht=>ha t (by simp [Op.operands,ht])
  rw [← this];exact h
 case store t p y=>
  have:aeval G e p=aeval G e' p:=aeval_congr fun t ht=>ha t (by simp [Op.operands,ht])
  rw [← this];exact h
 case mapUpdate t p y z=>
  have:aeval G e p=aeval G e' p:=aeval_congr fun t ht=>ha t (by simp [Op.operands,ht])
  rw [← this];exact h
theorem touchC_congr {o:Op} {e e':Env} {i:Nat} (ha:Agree o e e') (h:touchC G fp e i o):touchC G fp e' i o:=by
 unfold touchC at h ⊢
 split
 ·rename_i r hr
  simp only [hr] at h;exact onRow_congr ha h
 ·trivial
def GStep (P:Program) (T:Ty) (Mv:Nat→Prop) (G:Glob) (N:Fr) (ops:Array Oper) (fp:List (Nat×Nat)) (i:Nat) (o:Oper) (σ σ':St):Prop:=stepTo P T Mv G N ops o σ σ'∧(wantedS ops σ.env o=some true→touchC G fp σ.env i o.op)
theorem compat_kinds {x y:Oper} (h:compat ops x y=true):kindOf x.op≠9∧kindOf y.op≠9:=by
 simp only [compat,Bool.and_eq_true] at h
 obtain ⟨_,h⟩:=h
 refine ⟨fun e=>by rw [e] at h;simp [mayPass] at h,fun e=>?_⟩;rw [e] at h
 revert h
 rcases kinds x.op with k | k | k | k | k | k<;>rw [k]<;>simp [mayPass]
theorem isLS_kind {o:Op} (h:isLS o=true):kindOf o≠9:=by
 unfold isLS at h
 split at h
 ·have:=loadKind_le ‹_›;simp only [kindOf];omega
 ·simp [kindOf]
 ·simp [kindOf]
 ·simp [kindOf]
 ·simp [kindOf]
 ·cases h
theorem gswap {i j:Nat} {oi oj:Oper} (hc:compatG fp ops i j oi oj=true) {σ σ1 σ2:St} (h1:GStep P T Mv G N ops fp i oi σ σ1) (h2:GStep P T Mv G N ops fp j oj σ1 σ2) :
  ∃ σ3,GStep P T Mv G N ops fp j oj σ σ3∧GStep P T Mv G N ops fp i oi σ3 σ2:=by
 have hk:kindOf oi.op≠9∧kindOf oj.op≠9:=by
  simp only [compatG,Bool.or_eq_true,Bool.and_eq_true] at hc
  rcases hc with hc | ⟨⟨⟨_,h3⟩,h4⟩,_⟩
  ·exact compat_kinds hc
  ·exact ⟨isLS_kind h3,isLS_kind h4⟩
 obtain ⟨hki,hkj⟩:=hk
 obtain ⟨s1,t1⟩:=h1
 obtain ⟨s2,t2⟩:=h2
 obtain ⟨x,H1,sx1,rfl⟩:=(stepTo_Sx hki).1 s1
 obtain ⟨y,H2,sx2,rfl⟩:=(stepTo_Sx hkj).1 s2
 obtain ⟨e,H⟩:=σ
 dsimp only at s1 s2 sx1 sx2 t1 t2 ⊢
 have hap:oi.apart ops oj=true:=by
  simp only [compatG,compat,Bool.or_eq_true,Bool.and_eq_true] at hc
  rcases hc with hc | hc
  ·exact hc.1
  ·exact hc.1.1.1
 obtain ⟨a1,_,hne⟩:=agree_put hap (e:=e) (v:=x)
 obtain ⟨_,a2,_⟩:=agree_put hap (e:=e) (v:=y)
 have wj:=wantedS_congr (o:=oj) (e:=putd e oi.dst x) (e':=e) a1
 have wi:=wantedS_congr (o:=oi) (e:=putd e oj.dst y) (e':=e) a2
 have agj:Agree oj.op (putd e oi.dst x) e:=fun t ht=>a1 t (looks_of_op ht)
 have agi:Agree oi.op e (putd e oj.dst y):=fun t ht=>(a2 t (looks_of_op ht)).symm
 have main:∃ H3,Sx P T Mv G N ops oj e H y H3∧Sx P T Mv G N ops oi (putd e oj.dst y) H3 x H2:=by
  simp only [compatG,Bool.or_eq_true,Bool.and_eq_true] at hc
  rcases hc with hc | ⟨_,hfp⟩
  ·exact commute hc sx1 sx2 hki hkj
  ·cases hfi:fp.lookup i with
   | none=>simp [hfi] at hfp
   | some r=>
    cases hfj:fp.lookup j with
    | none=>simp [hfi,hfj] at hfp
    | some r'=>
     have hr:r≠r':=by simpa [hfi,hfj] using hfp
     obtain ⟨di,sx1⟩:=sx1
     obtain ⟨dj,sx2⟩:=sx2
     rw [wj] at sx2
     rcases sx1 with ⟨w1,e1⟩ | ⟨w1,rfl,rfl⟩
     ·have t1:=t1 w1
      simp only [touchC,hfi] at t1
      obtain ⟨u,rfl,loc1⟩:=e1.touch t1
      rcases sx2 with ⟨w2,e2⟩ | ⟨w2,rfl,rfl⟩
      ·have t2:=t2 (by rw [wj];exact w2)
       simp only [touchC,hfj] at t2
       have e2:=e2.congr hkj agj
       obtain ⟨u',rfl,loc2⟩:=e2.touch (onRow_congr agj t2)
       refine ⟨pset H r' u',⟨dj,.inl ⟨w2,loc2 H (pset_ne (Ne.symm hr)).symm⟩⟩,⟨di,.inl ⟨by rw [wi];exact w1,?_⟩⟩⟩;rw [pset_comm hr];exact (loc1 _ (pset_ne hr)).congr hki agi
      ·exact ⟨H,⟨dj,.inr ⟨w2,rfl,rfl⟩⟩,⟨di,.inl ⟨by rw [wi];exact w1,e1.congr hki agi⟩⟩⟩
     ·rcases sx2 with ⟨w2,e2⟩ | ⟨w2,rfl,rfl⟩
      ·exact ⟨H2,⟨dj,.inl ⟨w2,e2.congr hkj agj⟩⟩,⟨di,.inr ⟨by rw [wi];exact w1,rfl,rfl⟩⟩⟩
      ·exact ⟨_,⟨dj,.inr ⟨w2,rfl,rfl⟩⟩,⟨di,.inr ⟨by rw [wi];exact w1,rfl,rfl⟩⟩⟩
 obtain ⟨H3,f1,f2⟩:=main
 refine ⟨⟨putd e oj.dst y,H3⟩,⟨(stepTo_Sx hkj).2 ⟨y,H3,f1,rfl⟩,fun hw=>?_⟩,⟨(stepTo_Sx hki).2 ⟨x,H2,f2,by rw [putd_comm hne]⟩,fun hw=>?_⟩⟩
 ·exact touchC_congr agj (t2 (by rw [wj];exact hw))
 ·exact touchC_congr agi (t1 (by rw [← wi];exact hw))
def runG (P:Program) (T:Ty) (Mv:Nat→Prop) (G:Glob) (N:Fr) (ops:Array Oper) (fp:List (Nat×Nat)):List Nat→St→St→Prop
 | [],σ,σ'=>σ=σ'
 | i :: l,σ,σ'=>∃ o,ops[i]? = some o∧∃ σ1,GStep P T Mv G N ops fp i o σ σ1∧runG P T Mv G N ops fp l σ1 σ'
theorem runG_front {p:Nat} {op:Oper} (hp:ops[p]? = some op):∀ (l1:List Nat) {l2:List Nat} {σ σ':St},(∀ q∈l1,∀ oq,ops[q]? = some oq→compatG fp ops q p oq op=true)→runG P T Mv G N ops fp (l1 ++ p :: l2) σ σ'→runG P T Mv G N ops fp (p :: (l1 ++ l2)) σ σ':=by
 intro l1
 induction l1 with
 | nil=>intro l2 σ σ' _ h;exact h
 | cons q l1 ih=>
  intro l2 σ σ' hall h
  obtain ⟨oq,hq,σ1,s1,rest⟩:=h
  obtain ⟨o',ho',σ2,s2,rest2⟩:=ih (fun q' hq'=>hall q' (by simp [hq'])) rest
  rw [hp] at ho'
  obtain rfl:=Option.some.inj ho'
  obtain ⟨σ3,f1,f2⟩:=gswap (hall q (by simp) oq hq) s1 s2
  exact ⟨op,hp,σ3,f1,oq,hq,σ2,f2,rest2⟩
def okDrawG (fp:List (Nat×Nat)) (ops:Array Oper):Bool:=
 let t:=tb ops
 ((List.range ops.size).all fun j=>match ops[j]? with
  | some oj=>oj.after.all fun e=>!Region.binds .any e || e.on < j
  | none=>true) &&
 go t (List.range ops.size)
where
 go (t:List Nat):List Nat→Bool
 | []=>true
 | a :: l=>(l.all fun b=>match ops[a]?,ops[b]? with
  | some oa,some ob=>(oa.after.all fun e=>!Region.binds .any e || !(e.on == b)) && ((t.getD b 0).testBit a || compatG fp ops a b oa ob)
  | _,_=>true) && go t l
def PairG (fp:List (Nat×Nat)) (ops:Array Oper) (a b:Nat):Prop:=∀ oa ob,ops[a]? = some oa→ops[b]? = some ob→
 (∀ e∈oa.after,Region.binds .any e=true→e.on≠b)∧(((tb ops).getD b 0).testBit a=true∨compatG fp ops a b oa ob=true)
theorem pairsG_of:∀ {l:List Nat},okDrawG.go fp ops (tb ops) l=true→l.Pairwise (PairG fp ops)
 | [],_=>.nil
 | a :: l,h=>by
  simp only [okDrawG.go,Bool.and_eq_true] at h;refine .cons (fun b hb oa ob hoa hob=>?_) (pairsG_of h.2)
  have:=List.all_eq_true.1 h.1 b hb
  simp only [hoa,hob,Bool.and_eq_true,Bool.or_eq_true] at this;refine ⟨fun e he hbi heq=>?_,this.2⟩
  have h1:=Array.all_eq_true_iff_forall_mem.1 this.1 e he
  simp [hbi,heq] at h1
theorem anyG_ok (hg:Good P T) (hlt:∀ j oj,ops[j]? = some oj→∀ e∈oj.after,Region.binds .any e=true→e.on < j) {Q:Exit→St→Prop} {w0:World} {μ0:Mu} {σn:St} (hQ:Q .normal σn):∀ (n:Nat) (R:List Nat) (listed:Array Bool) (w:World) (μ:Mu) (a:Act) (σ:St),R.length=n→R.Nodup→
  (∀ j,j∈R↔j < ops.size∧listed.getD j true=false)→listed.size=ops.size→R.Pairwise (PairG fp ops)→
  (∀ j oj,ops[j]? = some oj→listed.getD j false=true→∀ e∈oj.after,Region.binds .any e=true→listed.getD e.on false=true)→runG P T Mv G N ops fp R σ σn→In w X G μ N a σ→Ev Mv w0 μ0 w μ→
  wpAnyIn (wd N.ro) 0 P .any ops (After Mv X G N w0 μ0 Q) n listed a w:=by
 intro n
 induction n with
 | zero=>
  intro R listed w μ a σ hl _ hR hsz _ _ hrun hi hev
  have:R=[]:=List.eq_nil_of_length_eq_zero hl
  subst this
  have hr:Region.ready .any ops listed=[]:=by
   apply List.eq_nil_iff_forall_not_mem.2
   intro j hj
   obtain ⟨h1,o,ho,_⟩:=mem_ready.1 hj
   exact absurd ((hR j).2 ⟨(Array.getElem?_eq_some_iff.1 ho).1,h1⟩) (by simp)
  have:σ=σn:=hrun
  subst this;exact ⟨hr,μ,σ,hQ,hi,hev⟩
 | succ n ih=>
  intro R listed w μ a σ hl hnd hR hsz hpw hdown hrun hi hev
  refine ⟨fun hr=>?_,fun i hir=>?_⟩
  ·cases R with
   | nil=>simp at hl
   | cons j R=>
    obtain ⟨hj1,hj2⟩:=(hR j).1 (by simp)
    have hoj:ops[j]? = some ops[j]:=by simp [hj1]
    have hjr:j∈Region.ready .any ops listed:=by
     refine mem_ready.2 ⟨hj2,ops[j],hoj,fun e he hb=>?_⟩
     have hlt':=hlt j ops[j] hoj e he hb
     have hlt2:e.on < ops.size:=by omega
     have hne:e.on ∉ (j :: R):=by
      intro hm
      rcases List.mem_cons.1 hm with h | h
      ·omega
      ·exact ((List.pairwise_cons.1 hpw).1 _ h ops[j] ops[e.on] hoj (by simp [hlt2])).1 e he hb rfl
     have:=mt (hR e.on).2 hne
     have hls:e.on < listed.size:=by omega
     simp only [hlt2,true_and,Array.getD_eq_getD_getElem?] at this ⊢;simp [hls] at this ⊢;exact this
    rw [hr] at hjr
    cases hjr
  ·obtain ⟨hi1,oi,hoi,hall⟩:=mem_ready.1 hir
   have hiR:i∈R:=(hR i).2 ⟨(Array.getElem?_eq_some_iff.1 hoi).1,hi1⟩
   obtain ⟨R1,R2,rfl⟩:=List.append_of_mem hiR
   have hfront:=runG_front (P:=P) (T:=T) (Mv:=Mv) (G:=G) (N:=N) (fp:=fp) hoi R1 (fun q hq oq hoq=>by
    have hpq:PairG fp ops q i:=(List.pairwise_append.1 hpw).2.2 q hq i (by simp)
    rcases (hpq oq oi hoq hoi).2 with h | h
    ·exfalso
     have hlq:=behindL hlt hdown i i oi (Nat.le_refl _) hoi hall q h
     have hq2:=((hR q).1 (by simp [hq])).2
     have hqs:q < listed.size:=by have:=(Array.getElem?_eq_some_iff.1 hoq).1;omega
     simp [Array.getD_eq_getD_getElem?,hqs] at hlq hq2;rw [hlq] at hq2;cases hq2
    ·exact h) hrun
   obtain ⟨o',ho',σ1,hstep,hrest⟩:=hfront
   rw [hoi] at ho'
   obtain rfl:=Option.some.inj ho'
   refine stepTo_ok hg hstep.1 hi hoi fun w' μ' a' hin hev'=>?_
   have hnd':(R1 ++ R2).Nodup:=by
    have:=hnd
    rw [List.nodup_append] at this ⊢
    obtain ⟨g1,g2,g3⟩:=this
    exact ⟨g1,(List.nodup_cons.1 g2).2,fun x hx y hy=>g3 x hx y (by simp [hy])⟩
   have hi_not:i ∉ R1 ++ R2:=by
    have:=hnd
    rw [List.nodup_append] at this
    obtain ⟨g1,g2,g3⟩:=this
    intro hm
    rcases List.mem_append.1 hm with h | h
    ·exact g3 i h i (by simp) rfl
    ·exact (List.nodup_cons.1 g2).1 h
   refine ih (R1 ++ R2) _ w' μ' a' σ1 (by simp at hl ⊢;omega) hnd' (fun j=>?_) (by simpa using hsz) ?_ ?_ hrest hin (hev.trans hev')
   ·by_cases hji:j=i
    ·subst hji
     have hls:j < listed.size:=by rw [hsz];exact (Array.getElem?_eq_some_iff.1 hoi).1
     simp [hls];simpa using hi_not
    ·rw [getD_set_ne true (Ne.symm hji)];rw [← hR j];simp [hji]
   ·rw [List.pairwise_append] at hpw ⊢
    obtain ⟨g1,g2,g3⟩:=hpw
    exact ⟨g1,(List.pairwise_cons.1 g2).2,fun x hx y hy=>g3 x hx y (by simp [hy])⟩
   ·intro j oj hoj hlj e he hb
    by_cases hji:j=i
    ·subst hji;rw [hoi] at hoj
     obtain rfl:=Option.some.inj hoj
     exact getD_set_true (hall e he hb)
    ·rw [getD_set_ne false (Ne.symm hji)] at hlj;exact getD_set_true (hdown j oj hoj hlj e he hb)
def stepG (P:Program) (T:Ty) (Mv:Nat→Prop) (G:Glob) (N:Fr) (ops:Array Oper) (fp:List (Nat×Nat)) (i:Nat) (o:Oper) (σ:St) (K:St→Prop):Prop:=okDst N o∧match wantedS ops σ.env o with
 | some b=>if b=true then touchC G fp σ.env i o.op∧(match isCall o.op with
  | some c=>callQ P G c σ o.dst K
  | none=>plainS T G Mv o σ K) else K ⟨putd σ.env o.dst und,σ.H⟩
 | none=>False
def sxg (P:Program) (T:Ty) (Mv:Nat→Prop) (G:Glob) (N:Fr) (ops:Array Oper) (fp:List (Nat×Nat)) (K:St→Prop):Nat→List Oper→St→Prop
 | _,[],σ=>K σ
 | i,o :: rest,σ=>stepG P T Mv G N ops fp i o σ (sxg P T Mv G N ops fp K (i+1) rest)
theorem sxg_next {K:St→Prop} {i:Nat} {o:Oper} {rest:List Oper} {σ:St} (h:∀ K':St→Prop,(∀ τ,sxg P T Mv G N ops fp K (i+1) rest τ→K' τ)→stepG P T Mv G N ops fp i o σ K'):sxg P T Mv G N ops fp K i (o :: rest) σ:=h _ fun _ h=>h
theorem sxg_nil {K:St→Prop} {i:Nat} {σ:St} (h:K σ):sxg P T Mv G N ops fp K i [] σ:=h
theorem sxg_run {K:St→Prop}:∀ (l:List Oper) (k:Nat) (σ:St),(∀ j,l[j]? = ops[k+j]?)→sxg P T Mv G N ops fp K k l σ→∃ σn,K σn∧runG P T Mv G N ops fp (List.range' k l.length) σ σn:=by
 intro l
 induction l with
 | nil=>intro k σ _ h;exact ⟨σ,h,rfl⟩
 | cons o l ih=>
  intro k σ hl h
  have h0:ops[k]? = some o:=by simpa using (hl 0).symm
  have hl':∀ j,l[j]? = ops[k+1+j]?:=fun j=>by have:=hl (j+1);simpa [Nat.add_assoc,Nat.add_comm 1 j] using this
  unfold sxg stepG at h
  obtain ⟨hd,h⟩:=h
  rw [List.length_cons,List.range'_succ]
  have fin:∀ σ1,GStep P T Mv G N ops fp k o σ σ1→sxg P T Mv G N ops fp K (k+1) l σ1→∃ σn,K σn∧runG P T Mv G N ops fp (k :: List.range' (k+1) l.length) σ σn:=by
   intro σ1 hs hq
   obtain ⟨σn,hk,hr⟩:=ih (k+1) σ1 hl' hq
   exact ⟨σn,hk,o,h0,σ1,hs,hr⟩
  split at h
  ·rename_i b hb
   split at h
   ·rename_i hbt
    subst hbt
    obtain ⟨ht,h⟩:=h
    split at h
    ·rename_i c hc
     obtain ⟨y,hy,h⟩:=h
     refine fin _ ⟨⟨hd,.inl ⟨hb,?_⟩⟩,fun _=>ht⟩ h;unfold exTo;simp only [hc];exact ⟨y,hy,rfl⟩
    ·rename_i hc
     unfold plainS at h
     split at h
     ·rename_i hw
      split at h
      ·rename_i c x σ1 h1
       obtain ⟨hcc,h⟩:=h
       refine fin _ ⟨⟨hd,.inl ⟨hb,?_⟩⟩,fun _=>ht⟩ h;unfold exTo;simp only [hc];rw [if_pos hw];exact ⟨c,x,σ1,h1,hcc,rfl⟩
      ·exact h.elim
     ·rename_i hw
      split at h
      ·rename_i c x h1
       obtain ⟨hcc,h⟩:=h
       refine fin _ ⟨⟨hd,.inl ⟨hb,?_⟩⟩,fun _=>ht⟩ h;unfold exTo;simp only [hc];rw [if_neg hw];exact ⟨c,x,h1,hcc,rfl⟩
      ·exact h.elim
   ·rename_i hbt
    have:b=false:=by simpa using hbt
    subst this;refine fin _ ⟨⟨hd,.inr ⟨hb,rfl⟩⟩,fun hw=>by rw [hb] at hw;cases hw⟩ h
  ·exact h.elim
theorem AW_regionG (hg:Good P T) (hm:P.follows .mixedOrders=true) (fp:List (Nat×Nat)) {id:Nat} (hok:okDrawG fp ops=true) {Q:Exit→St→Prop} {σ:St} (h:sxg P T Mv G N ops fp (fun σ'=>Q .normal σ') 0 ops.toList σ):AW P Mv X G N (.region id ops true) Q σ:=fun w μ a hi=>by
 unfold okDrawG at hok;simp only [Bool.and_eq_true] at hok
 obtain ⟨h5,h6⟩:=hok
 have hedge:∀ j oj,ops[j]? = some oj→∀ e∈oj.after,Region.binds .any e=true→e.on < j:=fun j oj hoj e he hb=>by
  have:=List.all_eq_true.1 h5 j (List.mem_range.2 (Array.getElem?_eq_some_iff.1 hoj).1)
  simp only [hoj] at this
  have:=Array.all_eq_true_iff_forall_mem.1 this e he
  simpa [hb] using this
 obtain ⟨σn,hQ,hrun⟩:=sxg_run ops.toList 0 σ (by simp) h
 rw [← List.range_eq_range',Array.length_toList] at hrun;refine wpIn_region_any hm ?_
 obtain ⟨hin,hev⟩:=hi.grew (Mv:=Mv) (Grew.drew w)
 refine anyG_ok hg hedge hQ ops.size (List.range ops.size) _ w.drew μ a σ (by simp) List.nodup_range (fun j=>?_) (by simp) (pairsG_of h6) ?_ hrun hin hev
 ·simp only [List.mem_range]
  constructor
  ·intro hj
   simp [Array.getD_eq_getD_getElem?,hj]
  ·exact fun hj=>hj.1
 ·intro j oj hoj hlj
  have hj:=(Array.getElem?_eq_some_iff.1 hoj).1
  simp [Array.getD_eq_getD_getElem?,hj] at hlj
theorem AW_rdg (hg:Good P T) (hm:P.follows .mixedOrders=true) (fp:List (Nat×Nat)) (l ns:List Nat) (hM:∀ r,ns.contains r=false→Mv r) {id:Nat} (hok:okDrawG fp ops=true) {y:Code} {Q:Exit→St→Prop} {σ:St}
  (h:∀ K:St→Prop,(∀ τ:St,AW P Mv X G N y Q (τ.norm l ns)→K τ)→sxg P T Mv G N ops fp K 0 ops.toList σ):AW P Mv X G N (.seq (.region id ops true) y) Q σ:=
 AW_seq (AW_regionG hg hm fp hok (h _ fun _ h=>h.norm l ns hM))
theorem AW_rdge (hg:Good P T) (hm:P.follows .mixedOrders=true) (fp:List (Nat×Nat)) {id:Nat} (hok:okDrawG fp ops=true) {Q:Exit→St→Prop} {σ:St}
  (h:∀ K:St→Prop,(∀ τ:St,Q .normal τ→K τ)→sxg P T Mv G N ops fp K 0 ops.toList σ):AW P Mv X G N (.region id ops true) Q σ:=AW_regionG hg hm fp hok (h _ fun _ h=>h)
end
end Go.Av
namespace Go.Av
def notIn (fx:List Nat) (r:Nat):Prop:=fx.contains r=false
instance (fx:List Nat) (r:Nat):Decidable (notIn fx r):=inferInstanceAs (Decidable (_=_))
theorem notIn_ok {fx ns:List Nat} (h:fx.all ns.contains=true):∀ r,ns.contains r=false→notIn fx r:=fun r hr=>by
 unfold notIn
 cases hc:fx.contains r with
 | false=>rfl
 | true=>
  have:=List.all_eq_true.1 h r (List.contains_iff_mem.1 hc)
  rw [this] at hr
  cases hr
def MC (P:Program) (G:Glob) (fx:List Nat) (g:FuncId) (xs:List AV) (H:Heap) (y:AV) (H2:Heap):Prop:=Fun P g∧∀ X,ACalls P (notIn fx) X G g xs H fun x H'=>x=y∧H'=H2
def stayO (lent fx:List Nat) (q off n:Nat):AV:=if lent.contains q && !fx.contains q then .dead else .own q off n
def stayF (lent fx:List Nat) (q e j:Nat):AV:=if lent.contains q && !fx.contains q then .dead else .ref q e j
def offL (lent:List Nat) (q:Nat):Bool:=!lent.contains q
def hjoin (H2 H:Heap):Heap:=fun q=>match H2 q with
 | some row=>some row
 | none=>H q
theorem hjoin_hlst (l2 l:List (Nat×Row)):hjoin (hlst l2) (hlst l)=hlst (l2 ++ l):=by
 funext q
 induction l2 with
 | nil=>rfl
 | cons p l2 ih=>
  unfold hjoin at ih ⊢;simp only [hlst,List.cons_append,List.lookup] at ih ⊢
  cases h:(q == p.1)<;>simp only [h] at ih ⊢
  exact ih
section
variable {P:Program} {T:Ty} {Mv X:Nat→Prop} {G:Glob} {N:Fr} {w:World} {μ:Mu} {a:Act} {σ:St}
theorem RV.tr3 {w':World} {X':Nat→Prop} {μ':Mu} {o f:Nat→Nat→Nat→AV} (hD:∀ u d,RD w (XX X μ) u d→RD w' (XX X' μ') u d) (ho:∀ u r off n,RV w X μ u (.own r off n)→RV w' X' μ' u (o r off n)) (hf:∀ u r e j,RV w X μ u (.ref r e j)→RV w' X' μ' u (f r e j)) :
  ∀ {v:Value} {x:AV},RV w X μ v x→RV w' X' μ' v (x.tr o f):=by
 intro v x hr
 induction hr with
 | d h'=>exact .d (hD _ _ h')
 | own hm h'=>exact ho _ _ _ _ (.own hm h')
 | ref hm hb=>exact hf _ _ _ _ (.ref hm hb)
 | agg hn _ ih=>
  rw [AV.tr,AV.trGo_eq];refine mkAgg_ok (.agg (by simpa using hn) fun j u c hu hc=>?_);rw [List.getElem?_map] at hc
  obtain ⟨c',hc',rfl⟩:=Option.map_eq_some_iff.1 hc
  exact ih j u c' hu hc'
 | tup hn _ ih=>
  rw [AV.tr,AV.trGo_eq];refine mkTup_ok (.tup (by simpa using hn) fun j u c hu hc=>?_);rw [List.getElem?_map] at hc
  obtain ⟨c',hc',rfl⟩:=Option.map_eq_some_iff.1 hc
  exact ih j u c' hu hc'
 | ifc _ ih=>exact mkIfc_ok ih
 | bm _ ih=>exact .bm ih
 | fn hn _ ih=>
  rw [AV.tr,AV.trGo_eq];refine mkFn_ok (by simpa using hn) fun j u c hu hc=>?_;rw [List.getElem?_map] at hc
  obtain ⟨c',hc',rfl⟩:=Option.map_eq_some_iff.1 hc
  exact ih j u c' hu hc'
 | mp hm hb=>
  rename_i r b m
  have h0:=hf _ _ _ _ (RV.ref (e:=0) (j:=0) hm hb)
  unfold AV.tr
  split
  ·rename_i q' e' j' hq
   rw [hq] at h0
   obtain ⟨m',b',hm',hb',e⟩:=h0.ref_inv
   simp only [Value.pointer.injEq,Option.some.injEq,Addr.mk.injEq] at e
   obtain ⟨rfl,_⟩:=e
   exact .mp hm' hb'
  ·exact .dead _
 | dead u=>exact .dead u
theorem RV.lift {w':World} {X':Nat→Prop} {μ':Mu} (hD:∀ u d,RD w (XX X μ) u d→RD w' (XX X' μ') u d) (hμ:∀ q m,μ q=some m→μ' q=some m):∀ {v:Value} {x:AV},RV w X μ v x→RV w' X' μ' v x:=by
 intro v x hr
 induction hr with
 | d h'=>exact .d (hD _ _ h')
 | own hm h'=>exact .own (hμ _ _ hm) h'
 | ref hm hb=>exact .ref (hμ _ _ hm) hb
 | agg hn _ ih=>exact .agg hn ih
 | tup hn _ ih=>exact .tup hn ih
 | ifc _ ih=>exact .ifc ih
 | bm _ ih=>exact .bm ih
 | fn hn _ ih=>exact .fn hn ih
 | mp hm hb=>exact .mp (hμ _ _ hm) hb
 | dead u=>exact .dead u
theorem RowOk.tr3 {w':World} {X':Nat→Prop} {μ':Mu} {o f:Nat→Nat→Nat→AV} {m:MRow} (hb:∀ b,m.blk=some b→w'.heap[b]? = w.heap[b]?) (hD:∀ u d,RD w (XX X μ) u d→RD w' (XX X' μ') u d) (hV:∀ u x,RV w X μ u x→RV w' X' μ' u (x.tr o f)) {row:Row} (ok:RowOk w X μ m row):RowOk w' X' μ' m (row.tr o f):=by
 cases ok with
 | nil h1 h2=>exact .nil h1 h2
 | sl h1 h2 h3 h4 h5 h6 h7 h8 h9=>exact .sl h1 h2 ((hb _ h1).trans h3) h4 h5 h6 h7 h8 fun i j el c he hc=>let ⟨u,hu,hr⟩:=h9 i j el c he hc;⟨u,hu,hD _ _ hr⟩
 | box h1 h2 h3 h4 h5 h6 h7=>
  refine .box h1 rfl h3 ((hb _ h1).trans h4) (by simpa using h5) (hx:=by simpa using h7) fun j u c hu hc=>?_;rw [List.getElem?_map] at hc
  obtain ⟨c',hc',rfl⟩:=Option.map_eq_some_iff.1 hc
  exact hV _ _ (h6 j u c' hu hc')
 | mp h1 h2 h3 h4=>exact .mp h1 ((hb _ h1).trans h2) h3 fun i e p he hp=>let ⟨a,b,c⟩:=h4 i e p he hp;⟨a,b,hD _ _ c⟩
 | it h1 h2 h3=>exact .it h1 ((hb _ h1).trans h2) (hD _ _ h3)
theorem RowOk.lift {w':World} {X':Nat→Prop} {μ':Mu} {m:MRow} (hb:∀ b,m.blk=some b→w'.heap[b]? = w.heap[b]?) (hD:∀ u d,RD w (XX X μ) u d→RD w' (XX X' μ') u d) (hμ:∀ q m,μ q=some m→μ' q=some m) {row:Row} (ok:RowOk w X μ m row):RowOk w' X' μ' m row:=by
 cases ok with
 | nil h1 h2=>exact .nil h1 h2
 | sl h1 h2 h3 h4 h5 h6 h7 h8 h9=>exact .sl h1 h2 ((hb _ h1).trans h3) h4 h5 h6 h7 h8 fun i j el c he hc=>let ⟨u,hu,hr⟩:=h9 i j el c he hc;⟨u,hu,hD _ _ hr⟩
 | box h1 h2 h3 h4 h5 h6 h7=>exact .box h1 rfl h3 ((hb _ h1).trans h4) h5 (fun j u c hu hc=>(h6 j u c hu hc).lift hD hμ) h7
 | mp h1 h2 h3 h4=>exact .mp h1 ((hb _ h1).trans h2) h3 fun i e p he hp=>let ⟨a,b,c⟩:=h4 i e p he hp;⟨a,b,hD _ _ c⟩
 | it h1 h2 h3=>exact .it h1 ((hb _ h1).trans h2) (hD _ _ h3)
theorem ran_mfilt {keep:Nat→Bool} {b:Nat} (h:ran (mfilt keep μ) b):ran μ b:=let ⟨r,m,hr,hb⟩:=h;⟨r,m,(mfilt_some hr).2,hb⟩
theorem XX_part {lent:List Nat} {b:Nat}:XX (XX X (mfilt (offL lent) μ)) (mfilt lent.contains μ) b↔XX X μ b:=by
 constructor
 ·rintro ((h | h) | h)
  ·exact .inl h
  ·exact .inr (ran_mfilt h)
  ·exact .inr (ran_mfilt h)
 ·rintro (h | ⟨r,m,hr,hb⟩)
  ·exact .inl (.inl h)
  ·cases hk:lent.contains r with
   | true=>exact .inr ⟨r,m,by simp only [mfilt,hk,if_true];exact hr,hb⟩
   | false=>exact .inl (.inr ⟨r,m,by simp only [mfilt,offL,hk,Bool.not_false,if_true];exact hr,hb⟩)
theorem Sim.part {H:Heap} (hs:Sim w X μ H) (lent:List Nat):Sim w (XX X (mfilt (offL lent) μ)) (mfilt lent.contains μ) (trH lent.contains (onlyO lent) (onlyF lent) H)∧
  ∀ {u:Value} {x:AV},RV w X μ u x→RV w (XX X (mfilt (offL lent) μ)) (mfilt lent.contains μ) u (x.tr (onlyO lent) (onlyF lent)):=by
 have hD:∀ u d,RD w (XX X μ) u d→RD w (XX (XX X (mfilt (offL lent) μ)) (mfilt lent.contains μ)) u d:=fun u d h=>h.sub fun b=>XX_part.1
 have hV:∀ u x,RV w X μ u x→RV w (XX X (mfilt (offL lent) μ)) (mfilt lent.contains μ) u (x.tr (onlyO lent) (onlyF lent)):=fun u x=>RV.tr3 hD (fun u r off n h=>by
   unfold onlyO
   split
   ·rename_i hk
    obtain ⟨m,hm,hh⟩:=h.own_inv
    exact .own (by simp only [mfilt,hk,if_true];exact hm) hh
   ·exact .dead u) (fun u r e j h=>by
   unfold onlyF
   split
   ·rename_i hk
    obtain ⟨m,b,hm,hb,rfl⟩:=h.ref_inv
    exact .ref (by simp only [mfilt,hk,if_true];exact hm) hb
   ·exact .dead u)
 refine ⟨⟨fun r row hr=>?_,fun r m hr=>?_,fun q q' m1 m2 b h1 h2 hb1 hb2=>hs.inj q q' m1 m2 b (mfilt_some h1).2 (mfilt_some h2).2 hb1 hb2,fun q m b hq hb hX=>?_,fun b hb=>hb.elim (hs.fits b) fun h=>hs.blk_lt (ran_mfilt h)⟩,fun h=>hV _ _ h⟩
 ·unfold trH at hr
  split at hr
  ·rename_i hk
   obtain ⟨row0,h0,rfl⟩:=Option.map_eq_some_iff.1 hr
   obtain ⟨m,hm,ok⟩:=hs.rows r row0 h0
   exact ⟨m,by simp only [mfilt,hk,if_true];exact hm,ok.tr3 (fun _ _=>rfl) hD hV⟩
  ·cases hr
 ·obtain ⟨hk,hm⟩:=mfilt_some hr
  obtain ⟨row,hrow⟩:=hs.dom r m hm
  exact ⟨row.tr (onlyO lent) (onlyF lent),by simp only [trH,hk,if_true,hrow,Option.map_some]⟩
 ·obtain ⟨hk,hm⟩:=mfilt_some hq
  rcases hX with h | ⟨r,mr,hr,hbr⟩
  ·exact hs.frame q m b hm hb h
  ·obtain ⟨hk',hmr⟩:=mfilt_some hr
   have:=hs.inj q r m mr b hm hmr hb hbr
   subst this;simp only [offL,hk,Bool.not_true,Bool.false_eq_true] at hk'
theorem callS.lentM {fx lent:List Nat} {g:FuncId} {xs0 xs:List AV} {H1 H2:Heap} {y:AV} (hc:MC P G fx g xs H1 y H2) (hx:xs0.map (AV.tr (onlyO lent) (onlyF lent))=xs) (hH:trH lent.contains (onlyO lent) (onlyF lent) σ.H=H1)
  (hd:∀ q,(H2 q).isSome=true→lent.contains q=true∨σ.H q=none) (hm:∀ r,lent.contains r=true→fx.contains r=false→Mv r) {K:AV→St→Prop}
  (h:K y ⟨trE (stayO lent fx) (stayF lent fx) σ.env,hjoin H2 (trH (offL lent) (stayO lent fx) (stayF lent fx) σ.H)⟩):callS P Mv X G N g xs0 σ K:=by
 refine ⟨hc.1,fun w μ a vs hi hn hv=>?_⟩
 obtain ⟨hs1,hv1⟩:=hi.sim.part lent
 rw [hH] at hs1;refine (hc.2 (XX X (mfilt (offL lent) μ)) w (mfilt lent.contains μ) vs hs1 (fun g x hx=>(hi.glob g x hx).sub fun b=>XX_part.1) (by rw [hn,← hx,List.length_map]) fun i u x hu hxi=>?_).mono ?_
 ·rw [← hx,List.getElem?_map] at hxi
  obtain ⟨x0,hx0,rfl⟩:=Option.map_eq_some_iff.1 hxi
  exact hv1 (hv i u x0 hu hx0)
 ·rintro e w' ⟨v,x,H',μ2,rfl,⟨rfl,rfl⟩,hr,hs2,hev⟩
  have hdom:∀ q m,μ2 q=some m→lent.contains q=true∨μ q=none:=fun q m hq=>by
   obtain ⟨row,hrow⟩:=hs2.dom q m hq
   rcases hd q (by rw [hrow];rfl) with h | h
   ·exact .inl h
   ·exact .inr (hi.sim.none_of h)
  let μ':Mu:=fun q=>match μ2 q with
   | some m=>some m
   | none=>mfilt (offL lent) μ q
  have m2:∀ q m,μ2 q=some m→μ' q=some m:=fun q m hq=>by simp only [μ',hq]
  have mr:∀ q m,lent.contains q=false→μ q=some m→μ' q=some m:=fun q m hk hq=>by
   have h2:μ2 q=none:=by
    cases h2:μ2 q with
    | none=>rfl
    | some m'=>
     rcases hdom q m' h2 with h | h
     ·rw [hk] at h;cases h
     ·rw [hq] at h;cases h
   simp only [μ',h2,mfilt,offL,hk,Bool.not_false,if_true,hq]
  have of:∀ q m,μ' q=some m→μ2 q=some m∨(μ2 q=none∧lent.contains q=false∧μ q=some m):=fun q m hq=>by
   cases h2:μ2 q with
   | some m'=>simp only [μ',h2] at hq;exact .inl hq
   | none=>
    simp only [μ',h2] at hq
    obtain ⟨hk,hm⟩:=mfilt_some hq
    exact .inr ⟨rfl,by simpa [offL] using hk,hm⟩
  have same:∀ b,b < w.heap.size→¬ ran (mfilt lent.contains μ) b→w'.heap[b]? = w.heap[b]?∧¬ ran μ2 b:=hev.same
  have hXX:∀ b,XX X μ' b→XX (XX X (mfilt (offL lent) μ)) μ2 b:=fun b hb=>by
   rcases hb with hb | ⟨q,m,hq,hbq⟩
   ·exact .inl (.inl hb)
   ·rcases of q m hq with h2 | ⟨_,hk,hm⟩
    ·exact .inr ⟨q,m,h2,hbq⟩
    ·exact .inl (.inr ⟨q,m,by simp only [mfilt,offL,hk,Bool.not_false,if_true];exact hm,hbq⟩)
  have hD:∀ u d,RD w (XX X μ) u d→RD w' (XX X μ') u d:=fun u d h=>h.mono hev.size fun b hb hX=>by
   obtain ⟨h1,h2⟩:=same b hb fun hr=>hX (.inr (ran_mfilt hr))
   refine ⟨h1,fun hX'=>?_⟩
   rcases hX' with h | ⟨q,m,hq,hbq⟩
   ·exact hX (.inl h)
   ·rcases of q m hq with h3 | ⟨_,_,hm⟩
    ·exact h2 ⟨q,m,h3,hbq⟩
    ·exact hX (.inr ⟨q,m,hm,hbq⟩)
  have hD2:∀ u d,RD w' (XX (XX X (mfilt (offL lent) μ)) μ2) u d→RD w' (XX X μ') u d:=fun u d h=>h.sub hXX
  have stay:∀ q m,(lent.contains q && !fx.contains q)=false→μ q=some m→μ' q=some m:=fun q m hk hq=>by
   cases hl:lent.contains q with
   | false=>exact mr q m hl hq
   | true=>
    rw [hl,Bool.true_and] at hk
    have hfx:fx.contains q=true:=by simpa using hk
    exact m2 q m (hev.kept q m (by simp only [mfilt,hl,if_true];exact hq) (by unfold notIn;rw [hfx];simp))
  have hV:∀ u x,RV w X μ u x→RV w' X μ' u (x.tr (stayO lent fx) (stayF lent fx)):=fun u x=>RV.tr3 hD (fun u r off n h=>by
    unfold stayO
    split
    ·exact .dead u
    ·rename_i hk
     obtain ⟨m,hm,hh⟩:=h.own_inv
     exact .own (stay r m (by simpa using hk) hm) hh) (fun u r e j h=>by
    unfold stayF
    split
    ·exact .dead u
    ·rename_i hk
     obtain ⟨m,b,hm,hb,rfl⟩:=h.ref_inv
     exact .ref (stay r m (by simpa using hk) hm) hb)
  refine ⟨v,x,_,μ',rfl,h,⟨⟨fun q row hq=>?_,fun q m hq=>?_,fun q q' m1 mm b h1 h2 hb1 hb2=>?_,fun q m b hq hb=>?_,fun b hb=>Nat.lt_of_lt_of_le (hi.sim.fits b hb) hev.size⟩,⟨hi.env.defers,hi.env.size,fun i x hx=>?_⟩,fun g x hx=>hD _ _ (hi.glob g x hx)⟩,hr.lift hD2 m2,hev.size,hev.os,hev.tape,hev.output,fun b hb hrn=>?_,fun r m hr hn=>?_⟩
  ·simp only [hjoin] at hq
   split at hq
   ·rename_i row2 h2
    obtain rfl:=Option.some.inj hq
    obtain ⟨m,hm,ok⟩:=hs2.rows q row2 h2
    exact ⟨m,m2 q m hm,ok.lift (fun _ _=>rfl) hD2 m2⟩
   ·unfold trH at hq
    split at hq
    ·rename_i hk
     have hk':lent.contains q=false:=by simpa [offL] using hk
     obtain ⟨row0,h0,rfl⟩:=Option.map_eq_some_iff.1 hq
     obtain ⟨m,hm,ok⟩:=hi.sim.rows q row0 h0
     refine ⟨m,mr q m hk' hm,ok.tr3 (fun b hb=>(same b (ok.blk_lt hb) fun ⟨r,mr',hr',hbr⟩=>?_).1) hD hV⟩
     obtain ⟨hkr,hmr⟩:=mfilt_some hr'
     have:=hi.sim.inj q r m mr' b hm hmr hb hbr
     subst this;rw [hk'] at hkr;cases hkr
    ·cases hq
  ·simp only [hjoin]
   rcases of q m hq with h2 | ⟨h2,hk,hm⟩
   ·obtain ⟨row,hrow⟩:=hs2.dom q m h2
    exact ⟨row,by rw [hrow]⟩
   ·have hnone:H' q=none:=by
     cases hh:H' q with
     | none=>rfl
     | some row=>obtain ⟨m',hm',_⟩:=hs2.rows q row hh;rw [h2] at hm';cases hm'
    obtain ⟨row,hrow⟩:=hi.sim.dom q m hm
    exact ⟨row.tr (stayO lent fx) (stayF lent fx),by rw [hnone];simp only [trH,offL,hk,Bool.not_false,if_true,hrow,Option.map_some]⟩
  ·rcases of q m1 h1 with g1 | ⟨_,k1,g1⟩<;>rcases of q' mm h2 with g2 | ⟨_,k2,g2⟩
   ·exact hs2.inj q q' m1 mm b g1 g2 hb1 hb2
   ·exact absurd (.inr ⟨q',mm,by simp only [mfilt,offL,k2,Bool.not_false,if_true];exact g2,hb2⟩) (hs2.frame q m1 b g1 hb1)
   ·exact absurd (.inr ⟨q,m1,by simp only [mfilt,offL,k1,Bool.not_false,if_true];exact g1,hb1⟩) (hs2.frame q' mm b g2 hb2)
   ·exact hi.sim.inj q q' m1 mm b g1 g2 hb1 hb2
  ·rcases of q m hq with g1 | ⟨_,k1,g1⟩
   ·exact fun hX=>hs2.frame q m b g1 hb (.inl hX)
   ·exact hi.sim.frame q m b g1 hb
  ·replace hx:trE (stayO lent fx) (stayF lent fx) σ.env i=some x:=hx
   unfold trE at hx
   obtain ⟨x0,h0,rfl⟩:=Option.map_eq_some_iff.1 hx
   obtain ⟨u,hu,hr⟩:=hi.env.slot i x0 h0
   exact ⟨u,hu,hV _ _ hr⟩
  ·obtain ⟨h1,h2⟩:=same b hb fun hr=>hrn (ran_mfilt hr)
   refine ⟨h1,fun ⟨q,m,hq,hbq⟩=>?_⟩
   rcases of q m hq with h3 | ⟨_,_,hm⟩
   ·exact h2 ⟨q,m,h3,hbq⟩
   ·exact hrn ⟨q,m,hm,hbq⟩
  ·cases hl:lent.contains r with
   | false=>exact mr r m hl hr
   | true=>
    cases hf:fx.contains r with
    | false=>exact absurd (hm r hl hf) hn
    | true=>exact stay r m (by rw [hl,hf];rfl) hr
theorem callK.lentM {fx:List Nat} {g:FuncId} {xs0 xs:List AV} {H1 H2:Heap} {y:AV} {dst:Option Tmp} {next:St→Prop} (lent:List Nat) (hc:MC P G fx g xs H1 y H2) (hx:xs0.map (AV.tr (onlyO lent) (onlyF lent))=xs) (hH:trH lent.contains (onlyO lent) (onlyF lent) σ.H=H1)
  (hd:∀ q,(H2 q).isSome=true→lent.contains q=true∨σ.H q=none) (hm:∀ r,lent.contains r=true→fx.contains r=false→Mv r)
  (h:next ⟨putd (trE (stayO lent fx) (stayF lent fx) σ.env) dst y,hjoin H2 (trH (offL lent) (stayO lent fx) (stayF lent fx) σ.H)⟩):callK P Mv X G N g xs0 σ dst next:=
 callS.lentM hc hx hH hd hm h
theorem callK.mc {fx:List Nat} {g:FuncId} {xs0 xs:List AV} {rows1 rows2:List (Nat×Row)} {y:AV} {dst:Option Tmp} {next:St→Prop} (hc:MC P G fx g xs (hlst rows1) y (hlst rows2)) (hx:xs0.map (AV.tr (onlyO (rows1.map (·.1))) (onlyF (rows1.map (·.1))))=xs)
  (hH:∀ p∈rows1,(σ.H p.1).map (Row.tr (onlyO (rows1.map (·.1))) (onlyF (rows1.map (·.1))))=hlst rows1 p.1) (hd:∀ p∈rows2,(rows1.map (·.1)).contains p.1=true∨σ.H p.1=none) (hm:∀ r∈rows1.map (·.1),fx.contains r=false→Mv r)
  (h:next ⟨putd (trE (stayO (rows1.map (·.1)) fx) (stayF (rows1.map (·.1)) fx) σ.env) dst y,hjoin (hlst rows2) (trH (offL (rows1.map (·.1))) (stayO (rows1.map (·.1)) fx) (stayF (rows1.map (·.1)) fx) σ.H)⟩):callK P Mv X G N g xs0 σ dst next:=by
 refine callS.lentM hc hx (funext (rowsEq hH)).symm (fun q hq=>?_) (fun r hr=>hm r (List.contains_iff_mem.1 hr)) h
 have hmem:∀ l:List (Nat×Row),(hlst l q).isSome=true→∃ p∈l,p.1=q:=by
  intro l
  induction l with
  | nil=>intro h;simp [hlst] at h
  | cons p l ih=>
   intro h
   simp only [hlst,List.lookup] at h
   cases hqp:(q == p.1) with
   | true=>exact ⟨p,by simp,by simpa using (beq_iff_eq.1 hqp).symm⟩
   | false=>
    rw [hqp] at h
    obtain ⟨p',h1,h2⟩:=ih h
    exact ⟨p',by simp [h1],h2⟩
 obtain ⟨p,hp,rfl⟩:=hmem rows2 hq
 exact hd p hp
def resM (names:List Nat) (x y:AV):Prop:=match x.tr (onlyO names) (onlyF names),y with
 | .d d',.d d=>d'.le d
 | p,q=>p=q
def endM (T:Ty) (rs:List ResultVar) (y:AV) (rows:List (Nat×Row)) (σ:St):Prop:=match resAll T σ rs with
 | some (c,vs)=>c∧resM (rows.map (·.1)) (oneOf vs) y∧∀ p∈rows,(σ.H p.1).map (Row.tr (onlyO (rows.map (·.1))) (onlyF (rows.map (·.1))))=hlst rows p.1
 | none=>False
def atEndM (T:Ty) (rs:List ResultVar) (y:AV) (rows:List (Nat×Row)):Exit→St→Prop
 | .normal,σ | .ret,σ=>endM T rs y rows σ
 | _,_=>False
theorem resM_ok {names:List Nat} {x y:AV} {u:Value} (h:resM names x y) (hr:RV w X μ u (x.tr (onlyO names) (onlyF names))):RV w X μ u y:=by
 unfold resM at h
 split at h
 ·rename_i d' d hx
  rw [hx] at hr;exact .d (hr.data.le h)
 ·rw [← h];exact hr
theorem MC.of_body (hg:Good P T) {g:FuncId} {fn:Func} {c:Code} {rs:List ResultVar} {xs:List AV} {H:Heap} {y:AV} {rows:List (Nat×Row)} {fx:List Nat} (hf:P.funcs[g]? = some fn) (hb:fn.body=some c) (hn:(fn.name == "runtime.NumGoroutine")=false) (hrs:fn.results=rs.toArray)
  (hN:xs.length≤fn.ntmps) (hfx:fx.all (rows.map (·.1)).contains=true) (h:∀ X,AW P (notIn fx) X G ⟨fn.ntmps,[],none⟩ c (atEndM T rs y rows) ⟨args xs,H⟩):MC P G fx g xs H y (hlst rows):=by
 refine ⟨Fun.of hf hb hn,fun X w μ vs hs hgl hsz hv=>?_⟩
 have fin:∀ (w':World) (μ':Mu) (a':Act) (σ':St),endM T rs y rows σ'→In w' X G μ' ⟨fn.ntmps,[],none⟩ a' σ'→Ev (notIn fx) w μ w' μ'→∃ v,(results fn a'.tmps).run P w' = .ok v w'∧∃ v_1 x H' μ',Ending.returned v=Ending.returned v_1∧(x=y∧H'=hlst rows)∧RV w' X μ' v_1 x∧Sim w' X μ' H'∧Ev (notIn fx) w μ w' μ':=by
  intro w' μ' a' σ' he hi hev
  unfold endM at he
  split at he
  ·rename_i c xs hx
   obtain ⟨hc,he,hrows⟩:=he
   obtain ⟨v,hv,hr⟩:=results_ok (P:=P) hg hi hrs hx hc
   have hX:∀ b,XX X (mfilt (rows.map (·.1)).contains μ') b→XX X μ' b:=fun b=>XX_mfilt
   have ho:∀ u r off n,RV w' X μ' u (.own r off n)→RV w' X (mfilt (rows.map (·.1)).contains μ') u (onlyO (rows.map (·.1)) r off n):=fun u r off n h=>by
    unfold onlyO
    split
    ·rename_i hk;exact h.own_mfilt hk
    ·exact .dead u
   have hf:∀ u r e j,RV w' X μ' u (.ref r e j)→RV w' X (mfilt (rows.map (·.1)).contains μ') u (onlyF (rows.map (·.1)) r e j):=fun u r e j h=>by
    unfold onlyF
    split
    ·rename_i hk;exact h.ref_mfilt hk
    ·exact .dead u
   have hin:=hi.tr ho hf
   have hH:trH (rows.map (·.1)).contains (onlyO (rows.map (·.1))) (onlyF (rows.map (·.1))) σ'.H=hlst rows:=(funext (rowsEq hrows)).symm
   refine ⟨v,hv,v,y,hlst rows,_,rfl,⟨rfl,rfl⟩,resM_ok he (RV.tr hX ho hf hr),hH ▸ hin.sim,hev.trans (ev_mfilt fun r _ _ hr=>notIn_ok hfx r hr)⟩
  ·exact he.elim
 refine calls_of_wp hf hb ((wpIn_wide (n:=0)).1 (wpIn_mono (h X w μ _ ⟨hs,⟨rfl,by simp;omega,fun i x hx=>?_⟩,hgl⟩) fun e a' w' ⟨μ',σ',q,i,ev⟩=>?_))
 ·simp only [args] at hx
  have hi:i < xs.length:=(List.getElem?_eq_some_iff.1 hx).1
  have hvi:vs[i]? = some vs[i]:=by rw [Array.getElem?_eq_getElem]
  exact ⟨vs[i],by rw [Array.getElem?_append_left (by omega),hvi],hv i _ x hvi hx⟩
 ·cases e with
  | normal=>
   obtain ⟨v,hv,rest⟩:=fin w' μ' a' σ' q i ev
   exact ⟨i.env.defers,v,hv,rest⟩
  | ret=>
   obtain ⟨v,hv,rest⟩:=fin w' μ' a' σ' q i ev
   exact ⟨i.env.defers,v,hv,rest⟩
  | _=>exact q.elim
end
end Go.Av
namespace Go.Av
theorem entPut_nil (k:Value) (x:D):entPut k x []=[(k,x)]:=rfl
theorem entPut_cons (k:Value) (x:D) (p:Value×D) (l:List (Value×D)):entPut k x (p :: l)=if keyEq k p.1 then (k,x) :: l else p :: entPut k x l:=by
 unfold entPut;rw [List.findIdx?_cons]
 cases h:keyEq k p.1 with
 | true=>simp
 | false=>
  simp only [Bool.false_eq_true,if_false]
  cases List.findIdx? (fun p=>keyEq k p.1) l<;>simp
theorem one_v (x:Value):D.one (.v x)=x.oneCell':=rfl
theorem one_sl (k:Option Bool) (els:List (List D)):D.one (.sl k els)=true:=rfl
theorem one_ip (c:List D):D.one (.ip c)=true:=rfl
theorem one_agg (c:List D):D.one (.agg c)=false:=rfl
theorem one_tup (c:List D):D.one (.tup c)=false:=rfl
theorem one_ifc (t:TypeId) (x:D):D.one (.ifc t x)=true:=rfl
theorem one_fn (f:Fn) (c:List D):D.one (.fn f c)=true:=rfl
theorem aone_d (x:D):AV.one (.d x)=x.one:=rfl
theorem aone_own (r o n:Nat):AV.one (.own r o n)=true:=rfl
theorem aone_ref (r e j:Nat):AV.one (.ref r e j)=true:=rfl
theorem aone_ifc (t:TypeId) (x:AV):AV.one (.ifc t x)=true:=rfl
theorem aone_fn (f:Fn) (c:List AV):AV.one (.fn f c)=true:=rfl
theorem aone_agg (c:List AV):AV.one (.agg c)=false:=rfl
theorem aone_tup (c:List AV):AV.one (.tup c)=false:=rfl
theorem aone_bm (g:FuncId) (x:AV):AV.one (.bm g x)=false:=rfl
theorem aone_mp (r:Nat):AV.one (.mp r)=true:=rfl
theorem aone_dead:AV.one .dead=false:=rfl
theorem vc_v (x:Value):valCells (.d (.v x))=if x.oneCell' then some [.d (.v x)] else none:=rfl
theorem vc_sl (k:Option Bool) (els:List (List D)):valCells (.d (.sl k els))=some [.d (.sl k els)]:=rfl
theorem vc_ip (c:List D):valCells (.d (.ip c))=some [.d (.ip c)]:=rfl
theorem vc_dagg (c:List D):valCells (.d (.agg c))=some (c.map .d):=rfl
theorem vc_dtup (c:List D):valCells (.d (.tup c))=none:=rfl
theorem vc_difc (t:TypeId) (x:D):valCells (.d (.ifc t x))=some [.d (.ifc t x)]:=rfl
theorem vc_dfn (f:Fn) (c:List D):valCells (.d (.fn f c))=some [.d (.fn f c)]:=rfl
theorem vc_own (r o n:Nat):valCells (.own r o n)=some [.own r o n]:=rfl
theorem vc_ref (r e j:Nat):valCells (.ref r e j)=some [.ref r e j]:=rfl
theorem vc_agg (c:List AV):valCells (.agg c)=some c:=rfl
theorem vc_tup (c:List AV):valCells (.tup c)=none:=rfl
theorem vc_ifc (t:TypeId) (x:AV):valCells (.ifc t x)=some [.ifc t x]:=rfl
theorem vc_fn (f:Fn) (c:List AV):valCells (.fn f c)=some [.fn f c]:=rfl
theorem vc_bm (g:FuncId) (x:AV):valCells (.bm g x)=none:=rfl
theorem vc_mp (r:Nat):valCells (.mp r)=some [.mp r]:=rfl
theorem vc_dead:valCells .dead=none:=rfl
attribute [simp] one_v one_sl one_ip one_agg one_tup one_ifc one_fn aone_d aone_own aone_ref aone_ifc aone_fn aone_agg aone_tup aone_bm aone_mp aone_dead
attribute [simp] vc_v vc_sl vc_ip vc_dagg vc_dtup vc_difc vc_dfn vc_own vc_ref vc_agg vc_tup vc_ifc vc_fn vc_bm vc_mp vc_dead
attribute [simp] Int.ofNat_inj List.lookup
attribute [simp] avOf offAll offOps kindOf Op.operands Call.operands okDst wantedS gval isCall isWr lenA descIs TypeDesc.isSlice TypeDesc.isStr binA
attribute [simp] isSh binI fit64 indexA elemSz arrInfo asValD asVal TypeDesc.isAgg fieldAddrA fieldOf fieldA zeroD catD newsOf unA eqv
attribute [simp] nilBin constOf nilFits nilA extractA makeIfaceA indexStrA arrElem sliceA bound storeBox storeSl TypeDesc.isBool TypeDesc.isIface nilCheckA
attribute [simp] convA Value.oneCell' buildA placesA fillA makeEls exK preF freezeL rowsOf rowsOf.go St.frz plainS plainL appK appOps strApp byteEls_len fromRow stepF stepD
attribute [simp] srcOf stepL rd wr evalL evalP putd mkFn mkIfc und undef upd_lst hup_hlst killE_lst killH_hlst trE_lst hno_hlst St.freeze aeval cst cstD upd
attribute [simp] lst hlst int Av.bool loadA mkAgg mkTup allD hup hno tgt args killE killH AV.kill AV.kill.go Row.kill trE trH AV.tr AV.tr.go Row.tr
attribute [simp] frzO frzF not1 bneD beqD St.norm liveL liveR onlyO onlyF allD_map asDs_map asDs asD D.scalar thn inb atEnd atEndD endD resAll resOne
attribute [simp] oneOf trH_hlst stepG touchC onRow handleOn lookA putM entPut_nil entPut_cons keyEq keyOk zeroM ofOk preR notIn stayO stayF offL hjoin_hlst
attribute [simp] endM atEndM resM frbF frbO St.freezeB finK
end Go.Av
namespace Go.Av
section
variable {P:Program} {T:Ty} {Mv X:Nat→Prop} {G:Glob} {N:Fr} {w:World} {μ:Mu} {a:Act} {σ:St}
theorem callK.tr {keep:Nat→Bool} {o f:Nat→Nat→Nat→AV} {g:FuncId} {xs:List AV} {dst:Option Tmp} {next:St→Prop}
  (ho:∀ w μ a,In w X G μ N a σ→∀ u r off n,RV w X μ u (.own r off n)→RV w X (mfilt keep μ) u (o r off n)) (hf:∀ w μ a,In w X G μ N a σ→∀ u r e j,RV w X μ u (.ref r e j)→RV w X (mfilt keep μ) u (f r e j))
  (hk:∀ r,keep r=false→Mv r) (h:callK P Mv X G N g (xs.map (AV.tr o f)) ⟨trE o f σ.env,trH keep o f σ.H⟩ dst next):callK P Mv X G N g xs σ dst next:=by
 refine ⟨h.1,fun w μ a vs hi hn hv=>?_⟩
 have hin:=hi.tr (ho w μ a hi) (hf w μ a hi)
 have hev:Ev Mv w μ w (mfilt keep μ):=ev_mfilt fun r _ _=>hk r
 refine (h.2 w (mfilt keep μ) a vs hin (by simpa using hn) fun i u x hu hx=>?_).mono fun e w' ⟨v,x,σ',μ',he,k,hi',hr,ev⟩=>⟨v,x,σ',μ',he,k,hi',hr,hev.trans ev⟩;rw [List.getElem?_map] at hx
 obtain ⟨x0,hx0,rfl⟩:=Option.map_eq_some_iff.1 hx
 exact RV.tr (fun b=>XX_mfilt) (ho w μ a hi) (hf w μ a hi) (hv i u x0 hu hx0)
theorem callK.frz (r:Nat) {ty sz:Nat} {els:List (List D)} {g:FuncId} {xs:List AV} {dst:Option Tmp} {next:St→Prop} (hr:σ.H r=some (.sl ty sz els)) (hm:Mv r)
  (h:callK P Mv X G N g (xs.map (AV.tr (frzO r els) (frzF r))) ⟨trE (frzO r els) (frzF r) σ.env,trH (not1 r) (frzO r els) (frzF r) σ.H⟩ dst next):callK P Mv X G N g xs σ dst next:=by
 refine callK.tr (keep:=not1 r) (fun w μ a hi u q off n hu=>?_) (fun w μ a hi u q e j hu=>?_) (fun q hq=>?_) h
 ·have hmu:(fun q=>if q=r then none else μ q)=mfilt (not1 r) μ:=by
   funext q
   unfold mfilt not1
   by_cases h:q=r<;>simp [h]
  unfold frzO
  split
  ·rename_i hq
   subst hq
   have hd:∀ {off n:Nat},RV w X μ u (.own q off n)→off+n≤els.length→RV w X (mfilt (not1 q) μ) u (.d (.sl none ((els.drop off).take n))):=fun h hle=>by
    obtain ⟨k,hk,_⟩:=own_reads hi.sim hr hle h
    rw [hmu] at hk;exact .d hk.weak
   split
   ·rename_i h2
    obtain ⟨rfl,rfl⟩:=h2
    have:=hd hu (by omega)
    simpa using this
   ·split
    ·rename_i hle;exact hd hu hle
    ·exact .dead u
  ·rename_i hq;exact hu.own_mfilt (by simp [not1,hq])
 ·unfold frzF
  split
  ·exact .dead u
  ·rename_i hq;exact hu.ref_mfilt (by simp [not1,hq])
 ·have e:q=r:=by simpa [not1] using hq
  exact e ▸ hm
end
end Go.Av
