/-
  Texts that belong together,in one file: Av11,Av12,Av13,Av14,Av15,Av16,Av17,Av18,Av19,Av23,Av25,Av26,Av24,Av27.
-/
import Derived.Test.YtdigkhaofjmgkaaGreatDoorMk7
import Derived.Orders
set_option linter.unusedSectionVars false
set_option linter.unusedSimpArgs false
set_option linter.unusedVariables false
namespace Go.Av
def aco:Operand->Nat
 | .global _=>0
 | _=>1
@[simp] theorem YQ (x:Operand):(aco x=2)=False:=by cases x<;>simp [aco]
@[simp] theorem YR (x:Operand):(aco x=3)=False:=by cases x<;>simp [aco]
@[simp] theorem YS (x:Operand):(aco x=8)=False:=by cases x<;>simp [aco]
@[simp] theorem YT (x:Operand):(aco x=9)=False:=by cases x<;>simp [aco]
@[simp] theorem YP (x:Operand):(aco x=0\/aco x=1)=True:=by cases x<;>simp [aco]
theorem DA (x:Operand):aco x<=1:=by cases x<;>simp [aco]
def kindOf:Op->Nat
 | .load _ x=>aco x
 | .indexAddr _ _ _=>1
 | .slice _ _ _ _ _=>1
 | .lookup _ _ _ _=>1
 | .call { callee:=.value _,.. }=>2
 | .call { callee:=.builtin .append,.. }=>9
 | .call { callee:=.builtin .copy,.. }=>9
 | .alloc _=>3
 | .box _ _=>3
 | .buildSlice _ _ _=>3
 | .makeSlice _ _ _=>3
 | .store _ _ _=>8
 | .mapUpdate _ _ _ _=>8
 | .insert _ _ _ _=>8
 | .makeMap _ _=>3
 | .select _ _=>9
 | _=>0
def oU (x y:Nat):Bool:=match x,y with
 | 0,9 | 9,_ | 1,8 | 1,9 | 2,8 | 2,9 | 3,1 | 3,2 | 3,8 | 3,9 | 8,1 | 8,2 | 8,3 | 8,8 | 8,9=>false
 | _,_=>true
def abo (ops:Array Oper) (x y:Oper):Bool:=x.apart ops y && oU (kindOf x.op) (kindOf y.op)
def bitsOf (acc:List Nat) (o:Oper):Nat:=o.after.toList.foldr (fun e s=>if Region.binds .any e then (2 ^ e.on ||| acc.getD e.on 0) ||| s else s) 0
def nL:List Oper->List Nat->List Nat
 | [],acc=>acc
 | o :: l,acc=>nL l (acc ++ [bitsOf acc o])
def tb (ops:Array Oper):List Nat:=nL ops.toList []
def l5 (ops:Array Oper):Bool:=
 let t:=tb ops
 (List.range ops.size).all fun j=>match ops[j]? with
  | some oj=>(oj.after.all fun e=>!Region.binds .any e || e.on < j) && (List.range j).all fun i=>(t.getD j 0).testBit i || match ops[i]? with
    | some oi=>abo ops oi oj && abo ops oj oi
    | none=>true
  | none=>true
section
variable {P:Program} {T:Ty} {Mv X:Nat->Prop} {G:ao} {N:Fr}
def uH (P:Program) (G:ao) (σ:St) (c:Call) (y:D):Prop:=∃ g xs,tgt G σ.env c=some (g,xs)/\
 ((∃ ds,xs=ds.map .d/\aw P G g ds y)\/(∃ ds,ab1 (dM σ.H 4) xs=some ds/\y.scalar=true/\aw P G g ds y))
def kh (P:Program) (T:Ty) (Mv:Nat->Prop) (G:ao) (o:Oper) (σ ar:St):Prop:=match cr o.op with
 | some c=>∃ y,uH P G σ c y/\ar=⟨Z2 σ.env o.dst (.d y),σ.H⟩
 | none=>if aaU o.op then ∃ c x aH,wr T G Mv σ o=some (c,x,aH)/\c/\ar=⟨Z2 aH.env o.dst x,aH.H⟩
  else ∃ c x,rd T G σ o.op=some (c,x)/\c/\ar=⟨Z2 σ.env o.dst x,σ.H⟩
def adK (P:Program) (T:Ty) (Mv:Nat->Prop) (G:ao) (N:Fr) (ops:Array Oper) (o:Oper) (σ ar:St):Prop:=
 eQ N o/\((fA ops σ.env o=some true/\kh P T Mv G o σ ar)\/(fA ops σ.env o=some false/\ar=⟨Z2 σ.env o.dst cu,σ.H⟩))
theorem ad8 (hg:Good P T) {ops:Array Oper} {o:Oper} {σ ar:St} (h:adK P T Mv G N ops o σ ar) {w:World} {μ:Mu} {a:Act} (hi:In w X G μ N a σ) {i:Nat} (ho:ops[i]? = some o) {Q:Exit->Act->World->Prop} {K:Act->World->Prop}
  (hk:∀ w' au a',In w' X G au N a' ar->Ev Mv w μ w' au->K a' w'):wpOpIn (wd N.ro) 0 P ops Q i K a w:=by
 obtain ⟨hd,h⟩:=h
 have gu:∀ d,o.dst=some d->d < N.n:=fun d e=>by unfold eQ at hd;rw [e] at hd;exact hd
 unfold wpOpIn;simp only [ho]
 rcases h with ⟨hw,h⟩ | ⟨hw,rfl⟩
 .rw [r5 hi hw,if_pos rfl];refine (xS (Mv:=Mv) (K:=fun aH=>aH=ar) hg hi gu ?_ fun w' au a' aH e aC aG=>hk w' au a' (e ▸ aC) aG);unfold kh at h;unfold jr;split at h
  .rename_i c hc;obtain ⟨y,⟨g,xs,ht,dA⟩,rfl⟩:=h;simp only [hc,ht]
   rcases dA with ⟨ds,rfl,hp⟩ | ⟨ds,iZ,hs,hp⟩
   .exact ab2.pure hp rfl
   .exact ab2.l3 iZ hp hs rfl
  .rename_i hc;simp only [hc,lC];split at h
   .rename_i yQ;rw [if_pos yQ];obtain ⟨c,x,aH,gx,hcc,rfl⟩:=h;simp only [gx];exact ⟨hcc,trivial⟩
   .rename_i yQ;rw [if_neg yQ];obtain ⟨c,x,hr,hcc,rfl⟩:=h;simp only [hr];exact ⟨hcc,trivial⟩
 .rw [r5 hi hw,if_neg (by simp)];exact ⟨fun _ _=>trivial,hk w μ _ (hi.put (.d (.v _)) gu) (.refl _ w μ)⟩
theorem JK {e:Env} {dst:Option Tmp} {x:AV} {t:Nat} (h:dst≠some t):Z2 e dst x t=e t:=by
 cases dst with
 | none=>rfl
 | some d=>have:t≠d:=fun e=>h (by rw [e]);simp [Z2,eF,this]
theorem fm {e:Env} {d d':Option Tmp} {x y:AV} (h:∀ t,d=some t->d'≠some t):Z2 (Z2 e d x) d' y=Z2 (Z2 e d' y) d x:=by
 cases d with
 | none=>rfl
 | some t=>
  cases d' with
  | none=>rfl
  | some t'=>
   have aL:t≠t':=fun e=>h t rfl (by rw [e]);funext i;by_cases h1:i=t<;>by_cases h2:i=t'<;>simp [Z2,eF,h1,h2,aL,Ne.symm aL]
   all_goals (subst h1;simp [aL])
def fg (o:Op) (e e':Env):Prop:=∀ t,Operand.tmp t∈o.operands->e t=e' t
theorem aaH {e e':Env} {x:Operand} (h:∀ t,x = .tmp t->e t=e' t):bd G e x=bd G e' x:=by
 cases x with
 | tmp t=>exact h t rfl
 | _=>rfl
theorem Br {e e':Env}:∀ {l:List Operand},(∀ t,Operand.tmp t∈l->e t=e' t)->kg G e l=kg G e' l
 | [],_=>rfl
 | x :: l,h=>by
  simp only [kg];rw [aaH (x:=x) fun t ht=>h t (by simp [ht]),Br (l:=l) fun t ht=>h t (by simp [ht])]
theorem xR {e e':Env}:∀ {l:List (Nat×Operand)},(∀ t,Operand.tmp t∈l.map (·.2)->e t=e' t)->jq G e l=jq G e' l
 | [],_=>rfl
 | (i,x) :: l,h=>by
  simp only [jq];rw [aaH (x:=x) fun t ht=>h t (by simp [ht]),xR (l:=l) fun t ht=>h t (by simp at ht ⊢;exact .inr ht)]
theorem FF {e e':Env} {o:Option Operand} (h:∀ t,o=some (.tmp t)->e t=e' t):bound G e o=bound G e' o:=by
 cases o with
 | none=>rfl
 | some x=>simp only [bound];rw [aaH (x:=x) fun t ht=>h t (by rw [ht])]
theorem Vx {o:Op} {e e':Env} {H:Heap} (h:fg o e e'):rd T G ⟨e,H⟩ o=rd T G ⟨e',H⟩ o:=by
 unfold fg at h;cases o
 case makeFunc f first caps=>
  simp only [rd];rw [Br (l:=caps.toList) fun t ht=>h t (by simp [Op.operands];right;simpa using ht)];split
  .rfl
  .split
   .rename_i x Cm fi
    rw [aaH (x:=x) fun t ht=>h t (by
     have hm:x∈first:=by
      have:x∈first.toList:=by rw [Cm];simp
      simpa using this
     simp only [Op.operands];rw [<- ht]
     simp [hm])]
   .rfl
 case typeAssert y xT t b=>
  simp only [rd];rw [aaH (x:=y) fun t ht=>h t (by simp [Op.operands,ht])]
 case build t parts=>
  simp only [rd];rw [xR (l:=parts.toList) fun t ht=>h t (by simpa [Op.operands] using ht)]
 case slice t x lo hi mx=>
  simp only [rd];rw [aaH (x:=x) fun t ht=>h t (by simp [Op.operands,ht]),FF (o:=lo) fun t ht=>h t (by simp [Op.operands,ht]),FF (o:=hi) fun t ht=>h t (by simp [Op.operands,ht])]
 case call c=>
  obtain ⟨callee,args,argTypes⟩:=c
  cases callee with
  | builtin b=>
   have two:∀ {x y:Operand},args.toList=[x,y]->bd G e x=bd G e' x/\bd G e y=bd G e' y:=fun {x y} ha=>
    ⟨aaH (x:=x) fun t ht=>h t (by simp [Op.operands,Call.operands];rw [<- Array.mem_toList_iff,ha];simp [ht]),
     aaH (x:=y) fun t ht=>h t (by simp [Op.operands,Call.operands];rw [<- Array.mem_toList_iff,ha];simp [ht])⟩
   cases b<;>try rfl
   case len=>
    simp only [rd];split
    .rename_i x t ha ht;rw [aaH (x:=x) fun t ht=>h t (by simp [Op.operands,Call.operands];rw [<- Array.mem_toList_iff,ha];simp [ht])]
    .rfl
   case max=>
    simp only [rd];split
    .rename_i x y ha;rw [(two ha).1,(two ha).2]
    .rfl
   case min=>
    simp only [rd];split
    .rename_i x y ha;rw [(two ha).1,(two ha).2]
    .rfl
  | _=>rfl
 all_goals
  simp only [Op.operands,List.mem_toArray,List.mem_cons,List.not_mem_nil,or_false] at h
 all_goals
  first
   | rfl
   | (rename_i x;simp only [rd];rw [aaH (x:=x) fun t ht=>h t (by simp [ht])];done)
   | (rename_i x _;simp only [rd];rw [aaH (x:=x) fun t ht=>h t (by simp [ht])];done)
   | (rename_i x y;simp only [rd];rw [aaH (x:=x) fun t ht=>h t (by simp [ht]),aaH (x:=y) fun t ht=>h t (by simp [ht])];done)
   | (rename_i x y _;simp only [rd];rw [aaH (x:=x) fun t ht=>h t (by simp [ht]),aaH (x:=y) fun t ht=>h t (by simp [ht])];done)
   | (rename_i x y z;simp only [rd];rw [aaH (x:=x) fun t ht=>h t (by simp [ht]),aaH (x:=y) fun t ht=>h t (by simp [ht]),aaH (x:=z) fun t ht=>h t (by simp [ht])];done)
def Ex (P:Program) (T:Ty) (Mv:Nat->Prop) (G:ao) (o:Oper) (e:Env) (H:Heap) (x:AV) (H':Heap):Prop:=match cr o.op with
 | some c=>∃ y,uH P G ⟨e,H⟩ c y/\x = .d y/\H'=H
 | none=>if aaU o.op then ∃ c,wr T G Mv ⟨e,H⟩ o=some (c,x,⟨e,H'⟩)/\c
  else ∃ c,rd T G ⟨e,H⟩ o.op=some (c,x)/\c/\H'=H
theorem ad9 {o:Oper} (hk:kindOf o.op≠9) {σ aH:St} {c:Prop} {x:AV} (h:wr T G Mv σ o=some (c,x,aH)):aH.env=σ.env:=by
 obtain ⟨dst,op,type,pos,after,guard⟩:=o;dsimp only at hk;unfold wr at h;dsimp only at h
 repeat' split at h
 all_goals first
  | (exact absurd rfl hk)
  | (simp only [Option.some.injEq,Prod.mk.injEq] at h;obtain ⟨_,_,rfl⟩:=h;rfl)
  | cases h
theorem Ex.of {o:Oper} (hk:kindOf o.op≠9) {σ ar:St} (h:kh P T Mv G o σ ar):∃ x H',Ex P T Mv G o σ.env σ.H x H'/\ar=⟨Z2 σ.env o.dst x,H'⟩:=by
 unfold kh at h;unfold Ex;split at h
 .rename_i c hc;obtain ⟨y,dA,rfl⟩:=h;(try simp only [hc]);exact ⟨_,_,⟨y,dA,rfl,rfl⟩,rfl⟩
 .rename_i hc;(try simp only [hc]);split at h
  .rename_i hw;obtain ⟨c,x,aH,h1,h2,rfl⟩:=h;have he:=ad9 hk h1;refine ⟨x,aH.H,?_,by rw [he]⟩;rw [if_pos hw];refine ⟨c,?_,h2⟩;obtain ⟨e,H⟩:=σ;obtain ⟨e1,H1⟩:=aH;dsimp only at he;subst he;exact h1
  .rename_i hw;obtain ⟨c,x,h1,h2,rfl⟩:=h;refine ⟨x,σ.H,?_,rfl⟩;rw [if_neg hw];exact ⟨c,h1,h2,rfl⟩
theorem Ex.to {o:Oper} {e:Env} {H H':Heap} {x:AV} (h:Ex P T Mv G o e H x H'):kh P T Mv G o ⟨e,H⟩ ⟨Z2 e o.dst x,H'⟩:=by
 unfold Ex at h;unfold kh;split at h
 .rename_i c hc;obtain ⟨y,dA,rfl,rfl⟩:=h;(try simp only [hc]);exact ⟨y,dA,rfl⟩
 .rename_i hc;(try simp only [hc]);split at h
  .rename_i hw;obtain ⟨c,h1,h2⟩:=h;rw [if_pos hw];exact ⟨c,x,_,h1,h2,rfl⟩
  .rename_i hw;obtain ⟨c,h1,h2,rfl⟩:=h;rw [if_neg hw];exact ⟨c,x,h1,h2,rfl⟩
theorem pQ {o:Op} {c:Call} (h:cr o=some c):o = .call c/\kindOf o=2:=by
 unfold cr at h;split at h
 .obtain rfl:=Option.some.inj h;exact ⟨rfl,rfl⟩
 .cases h
theorem ud {e e':Env} {c:Call} (h:∀ t,Operand.tmp t∈c.operands->e t=e' t):tgt G e c=tgt G e' c:=by
 unfold tgt;split
 .rename_i f hf;rw [aaH (x:=f) fun t ht=>h t (by simp [Call.operands,hf,ht]),Br (l:=c.args.toList) fun t ht=>h t (by simp [Call.operands,hf];right;simpa using ht)]
 .rfl
theorem X1 {o:Oper} (hk:kindOf o.op≠9) {e e':Env} {H H':Heap} {c:Prop} {x:AV} (ha:fg o.op e e') (h:wr T G Mv ⟨e,H⟩ o=some (c,x,⟨e,H'⟩)):wr T G Mv ⟨e',H⟩ o=some (c,x,⟨e',H'⟩):=by
 obtain ⟨dst,op,type,pos,after,guard⟩:=o;dsimp only at hk ha;unfold fg at ha;cases op
 case alloc t=>
  cases dst with
  | none=>cases h
  | some d=>
   simp only [wr] at h ⊢;split at h
   .rename_i ti ht;simp only [Option.some.injEq,Prod.mk.injEq,St.mk.injEq,true_and] at h;obtain ⟨rfl,rfl,rfl⟩:=h;simp
   .cases h
 case box t y=>
  cases dst with
  | none=>cases h
  | some d=>
   simp only [wr] at h ⊢;rw [<- aaH (e:=e) (x:=y) fun t ht=>ha t (by simp [Op.operands,ht])];split at h
   .simp only [Option.some.injEq,Prod.mk.injEq,St.mk.injEq,true_and] at h;obtain ⟨rfl,rfl,rfl⟩:=h;rename_i bW;simp [bW]
   .cases h
 case store t y z=>
  cases dst with
  | some d=>cases h
  | none=>
   simp only [wr] at h ⊢;rw [<- aaH (e:=e) (x:=y) fun t ht=>ha t (by simp [Op.operands,ht]),<- aaH (e:=e) (x:=z) fun t ht=>ha t (by simp [Op.operands,ht])];split at h
   .rename_i r e0 j v h1 h2;(try simp only [h1,h2]);split at h
    .rename_i ty cells hH;(try simp only [hH]);split at h
     .rename_i he;(try simp only [he,if_true]);split at h
      .rename_i c' pa hs;(try simp only [hs]);simp only [Option.some.injEq,Prod.mk.injEq,St.mk.injEq,true_and] at h ⊢;exact h
      .cases h
     .cases h
    .rename_i ty sz els hH;(try simp only [hH]);split at h
     .rename_i c' kf hs;(try simp only [hs]);simp only [Option.some.injEq,Prod.mk.injEq,St.mk.injEq,true_and] at h ⊢;exact h
     .cases h
    .cases h
    .cases h
    .cases h
   .cases h
 case makeMap t rs=>
  cases dst with
  | none=>cases rs<;>cases h
  | some d=>
   cases rs with
   | some _=>cases h
   | none=>
    simp only [wr] at h ⊢;simp only [Option.some.injEq,Prod.mk.injEq,St.mk.injEq,true_and] at h ⊢;exact h
 case mapUpdate t m k v=>
  cases dst with
  | some d=>cases h
  | none=>
   simp only [wr] at h ⊢;rw [<- aaH (e:=e) (x:=m) fun t ht=>ha t (by simp [Op.operands,ht]),<- aaH (e:=e) (x:=k) fun t ht=>ha t (by simp [Op.operands,ht]),<- aaH (e:=e) (x:=v) fun t ht=>ha t (by simp [Op.operands,ht])];split at h
   .rename_i r key y h1 h2 h3;(try simp only [h1,h2,h3]);split at h
    .rename_i ty ents hH;(try simp only [hH]);split at h
     .rename_i c' ab9 hp;(try simp only [hp]);simp only [Option.some.injEq,Prod.mk.injEq,St.mk.injEq,true_and] at h ⊢;exact h
     .cases h
    .cases h
   .cases h
 case insert t m k v=>
  cases dst with
  | some d=>cases h
  | none=>
   simp only [wr] at h ⊢;rw [<- aaH (e:=e) (x:=m) fun t ht=>ha t (by simp [Op.operands,ht]),<- aaH (e:=e) (x:=k) fun t ht=>ha t (by simp [Op.operands,ht]),<- aaH (e:=e) (x:=v) fun t ht=>ha t (by simp [Op.operands,ht])];split at h
   .rename_i r key y h1 h2 h3;(try simp only [h1,h2,h3]);split at h
    .rename_i ty ents hH;(try simp only [hH]);split at h
     .rename_i c' ab9 hp;(try simp only [hp]);simp only [Option.some.injEq,Prod.mk.injEq,St.mk.injEq,true_and] at h ⊢;exact h
     .cases h
    .cases h
   .cases h
 case makeSlice t y z=>
  cases dst with
  | none=>cases h
  | some d=>
   simp only [wr] at h ⊢;rw [<- aaH (e:=e) (x:=y) fun t ht=>ha t (by simp [Op.operands,ht]),<- aaH (e:=e) (x:=z) fun t ht=>ha t (by simp [Op.operands,ht])];split at h
   .rename_i tt htt;(try simp only [htt]);split at h
    .rename_i e0 hd;(try simp only [hd]);split at h
     .rename_i te kn n km m h0 h1 h2;(try simp only [h0,h1,h2]);simp only [Option.some.injEq,Prod.mk.injEq,St.mk.injEq,true_and] at h ⊢;exact h
     .cases h
    .cases h
   .cases h
 case buildSlice t n ps=>
  cases dst with
  | none=>cases h
  | some d=>
   simp only [wr] at h ⊢;rw [<- xR (e:=e) (l:=ps.toList) fun t ht=>ha t (by simpa [Op.operands] using ht)];split at h
   .rename_i tt htt;(try simp only [htt]);split at h
    .rename_i e0 hd;(try simp only [hd]);split at h
     .rename_i te pp h0 h1;(try simp only [h0,h1]);split at h
      .rename_i els qU;(try simp only [qU]);simp only [Option.some.injEq,Prod.mk.injEq,St.mk.injEq,true_and] at h ⊢;exact h
      .cases h
     .cases h
    .cases h
   .cases h
 case call cc=>
  obtain ⟨callee,args,argTypes⟩:=cc
  cases callee with
  | builtin b=>
   cases b<;>first | (exact absurd rfl hk) | (cases dst<;>cases h)
  | _=>cases dst<;>cases h
 all_goals (cases dst<;>cases h)
theorem Ex.congr {o:Oper} (hk:kindOf o.op≠9) {e e':Env} {H H':Heap} {x:AV} (ha:fg o.op e e') (h:Ex P T Mv G o e H x H'):Ex P T Mv G o e' H x H':=by
 unfold Ex at h ⊢;split at h
 .rename_i c hc;(try simp only [hc]);obtain ⟨y,⟨g,xs,ht,dA⟩,h2,h3⟩:=h;refine ⟨y,⟨g,xs,?_,dA⟩,h2,h3⟩;have ho:=(pQ hc).1;rw [<- ud (e:=e) fun t ht=>ha t (by rw [ho];exact ht)];exact ht
 .rename_i hc;(try simp only [hc]);split at h
  .rename_i hw;rw [if_pos hw];obtain ⟨c,h1,h2⟩:=h;exact ⟨c,X1 hk ha h1,h2⟩
  .rename_i hw;rw [if_neg hw];obtain ⟨c,h1,h2,h3⟩:=h;exact ⟨c,by rw [<- Vx ha];exact h1,h2,h3⟩
theorem yZ {o:Op} (h:aaU o=true):kindOf o=3\/kindOf o=8\/kindOf o=9:=by
 unfold aaU at h
 split at h<;>first | (exact .inl rfl) | (exact .inr (.inl rfl)) | (exact .inr (.inr rfl)) | cases h
theorem Ex.keeps {o:Oper} (hk:kindOf o.op<=2) {e:Env} {H H':Heap} {x:AV} (h:Ex P T Mv G o e H x H'):H'=H:=by
 unfold Ex at h;split at h
 .obtain ⟨_,_,_,rfl⟩:=h;rfl
 .split at h
  .rename_i hw
   rcases yZ hw with h' | h' | h'<;>omega
  .obtain ⟨_,_,_,rfl⟩:=h;rfl
theorem JM {o:Op} (hk:kindOf o=0) {e:Env} (H H2:Heap):rd T G ⟨e,H⟩ o=rd T G ⟨e,H2⟩ o:=by
 cases o
 case call c=>
  obtain ⟨callee,args,argTypes⟩:=c
  cases callee with
  | builtin b=>cases b<;>rfl
  | _=>rfl
 case load t y=>
  cases y with
  | global g=>
   simp only [rd,bd]
   cases G g with
   | none=>rfl
   | some x=>cases x<;>rfl
  | _=>simp [kindOf,aco] at hk
 all_goals first | rfl | (simp [kindOf] at hk)
theorem VA {o:Op} (hk:kindOf o=1) {e:Env} {H:Heap} {d:Nat} (hd:H d=none) (row:Row) {c:Prop} {x:AV} (h:rd T G ⟨e,H⟩ o=some (c,x)):rd T G ⟨e,aJ H d row⟩ o=some (c,x):=by
 have key:∀ r y,H r=some y->aJ H d row r=some y:=fun r y hr=>by
  unfold aJ;split
  .rename_i hh;subst hh;rw [hd] at hr;cases hr
  .exact hr
 have kl:∀ t v,j3 T H t v=some (c,x)->j3 T (aJ H d row) t v=some (c,x):=fun t v h=>by
  unfold j3 at h ⊢;split at h
  .exact h
  .split at h
   .rename_i hr;simp only [key _ _ hr];exact h
   .rename_i hr;simp only [key _ _ hr];exact h
   .cases h
   .cases h
   .cases h
  .cases h
 have km:∀ t b v u,ku T H t b v u=some (c,x)->ku T (aJ H d row) t b v u=some (c,x):=fun t b v u h=>by
  unfold ku at h ⊢;split at h
  .split at h
   .rename_i hr h2;simp only [key _ _ hr,h2];exact h
   .cases h
  .exact h
  .cases h
 have ki:∀ t v u,lZ T H t v u=some (c,x)->lZ T (aJ H d row) t v u=some (c,x):=fun t v u h=>by
  unfold lZ at h ⊢;split at h
  .exact h
  .split at h
   .rename_i h1 hr;simp only [h1,key _ _ hr];exact h
   .rename_i h1 hr;simp only [h1,key _ _ hr];exact h
   .cases h
  .exact h
  .exact h
  .cases h
 have ks:∀ t v l u,mQ T H t v l u=some (c,x)->mQ T (aJ H d row) t v l u=some (c,x):=fun t v l u h=>by
  unfold mQ at h ⊢;dsimp only at h ⊢;split at h
  .exact h
  .exact h
  .split at h
   .rename_i h1 hr;simp only [h1,key _ _ hr];exact h
   .cases h
  .cases h
 cases o
 case load t y=>
  simp only [rd,Option.bind_eq_some_iff] at h ⊢;obtain ⟨v,h1,h2⟩:=h;exact ⟨v,h1,kl t v h2⟩
 case indexAddr t y z=>
  simp only [rd] at h ⊢;split at h
  .exact ki _ _ _ h
  .cases h
 case slice t y lo hi mx=>
  simp only [rd] at h ⊢;split at h
  .rename_i eX;rw [if_pos eX];split at h
   .exact ks _ _ _ _ h
   .cases h
  .cases h
 case lookup t y z b=>
  simp only [rd] at h ⊢;split at h
  .exact km _ _ _ _ h
  .cases h
 case call cc=>
  obtain ⟨callee,args,argTypes⟩:=cc
  cases callee with
  | builtin b=>cases b<;>simp [kindOf] at hk
  | _=>simp [kindOf] at hk
 all_goals (simp [kindOf] at hk)
theorem sj {f g:AV->Option D} (h:∀ x y,f x=some y->g x=some y):∀ {l:List AV} {ys:List D},ab1 f l=some ys->ab1 g l=some ys
 | [],_,hh=>hh
 | x :: l,ys,hh=>by
  simp only [ab1] at hh ⊢
  cases hf:f x with
  | none=>simp [hf] at hh
  | some y=>
   cases hl:ab1 f l with
   | none=>simp [hf,hl] at hh
   | some zs=>
    simp only [hf,hl] at hh;rw [h x y hf,sj h hl];exact hh
theorem Mc {H:Heap} {d:Nat} (hd:H d=none) (row:Row):∀ (k:Nat) (x:AV) (y:D),dM H k x=some y->dM (aJ H d row) k x=some y:=by
 have key:∀ r y,H r=some y->aJ H d row r=some y:=fun r y hr=>by
  unfold aJ;split
  .rename_i hh;subst hh;rw [hd] at hr;cases hr
  .exact hr
 intro k
 induction k with
 | zero=>intro x y h;cases x<;>simp only [dM] at h ⊢<;>first | exact h | cases h
 | succ k ih=>
  intro x y h
  cases x with
  | d x=>simpa only [dM] using h
  | own r off n=>
   simp only [dM] at h ⊢;split at h
   .rename_i hr;rw [key _ _ hr];exact h
   .cases h
  | ref r e j=>
   simp only [dM] at h ⊢;split at h
   .rename_i hr;rw [key _ _ hr];dsimp only;split at h
    .rename_i he;rw [if_pos he];obtain ⟨ys,h1,h2⟩:=Option.map_eq_some_iff.1 h;exact Option.map_eq_some_iff.2 ⟨ys,sj ih h1,h2⟩
    .cases h
   .cases h
  | agg cells=>simp only [dM] at h ⊢;obtain ⟨ys,h1,h2⟩:=Option.map_eq_some_iff.1 h;exact Option.map_eq_some_iff.2 ⟨ys,sj ih h1,h2⟩
  | Z4 cells=>simp only [dM] at h ⊢;obtain ⟨ys,h1,h2⟩:=Option.map_eq_some_iff.1 h;exact Option.map_eq_some_iff.2 ⟨ys,sj ih h1,h2⟩
  | fn f cells=>simp only [dM] at h ⊢;obtain ⟨ys,h1,h2⟩:=Option.map_eq_some_iff.1 h;exact Option.map_eq_some_iff.2 ⟨ys,sj ih h1,h2⟩
  | br t x=>simp only [dM] at h ⊢;obtain ⟨ys,h1,h2⟩:=Option.map_eq_some_iff.1 h;exact Option.map_eq_some_iff.2 ⟨ys,ih _ _ h1,h2⟩
  | mp r=>
   simp only [dM] at h ⊢;split at h
   .rename_i hr;rw [key _ _ hr];exact h
   .cases h
  | bm g x=>simp only [dM] at h;cases h
  | dead=>simp only [dM] at h;cases h
theorem Ex.grow {o:Oper} (hk:kindOf o.op=1\/kindOf o.op=2) {e:Env} {H H':Heap} {x:AV} (h:Ex P T Mv G o e H x H') {d:Nat} (hd:H d=none) (row:Row):Ex P T Mv G o e (aJ H d row) x (aJ H d row):=by
 unfold Ex at h ⊢;split at h
 .rename_i c hc;(try simp only [hc]);obtain ⟨y,⟨g,xs,ht,dA⟩,h2,_⟩:=h;refine ⟨y,⟨g,xs,ht,?_⟩,h2,by trivial⟩
  rcases dA with h | ⟨ds,h3,h4,h5⟩
  .exact .inl h
  .exact .inr ⟨ds,sj (Mc hd row 4) h3,h4,h5⟩
 .rename_i hc;(try simp only [hc]);split at h
  .rename_i hw
   rcases yZ hw with h' | h' | h'<;>omega
  .rename_i hw;rw [if_neg hw];obtain ⟨c,h1,h2,_⟩:=h
   rcases hk with hk | hk
   .exact ⟨c,VA hk hd row h1,h2,by trivial⟩
   .exfalso;obtain ⟨dst,op,type,pos,after,guard⟩:=o;dsimp only at hk hc;unfold kindOf at hk
    split at hk<;>first | omega | skip
    .have:=DA ‹_›;omega
    .simp [cr] at hc
theorem Ex.free {o:Oper} (hk:kindOf o.op=0) {e:Env} {H H':Heap} {x:AV} (h:Ex P T Mv G o e H x H') (H2:Heap):Ex P T Mv G o e H2 x H2:=by
 unfold Ex at h ⊢;split at h
 .rename_i c hc;have:=(pQ hc).2;omega
 .rename_i hc;(try simp only [hc]);split at h
  .rename_i hw
   rcases yZ hw with h' | h' | h'<;>omega
  .rename_i hw;rw [if_neg hw];obtain ⟨c,h1,h2,_⟩:=h;exact ⟨c,by rw [JM hk H2 H];exact h1,h2,by trivial⟩
theorem Ex.makes {o:Oper} (hk:kindOf o.op=3) {e:Env} {H H':Heap} {x:AV} (h:Ex P T Mv G o e H x H'):∃ d row,o.dst=some d/\H d=none/\H'=aJ H d row/\∀ H2,H2 d=none->Ex P T Mv G o e H2 x (aJ H2 d row):=by
 obtain ⟨dst,op,type,pos,after,guard⟩:=o;dsimp only at hk;unfold Ex at h;unfold Ex
 have hc:cr op=none:=by
  cases hcc:cr op with
  | none=>rfl
  | some c=>have:=(pQ hcc).2;omega
 simp only [hc] at h ⊢
 cases op<;>simp only [kindOf] at hk<;>first | omega | skip
 case load t y=>have:=DA y;omega
 case alloc t=>
  simp only [aaU,if_true] at h ⊢;obtain ⟨c,h1,h2⟩:=h
  cases dst with
  | none=>cases h1
  | some d=>
   simp only [wr] at h1 ⊢;split at h1
   .simp only [Option.some.injEq,Prod.mk.injEq,St.mk.injEq,true_and] at h1;obtain ⟨rfl,rfl,rfl⟩:=h1;exact ⟨d,_,rfl,h2,rfl,fun H2 h=>⟨_,rfl,h⟩⟩
   .cases h1
 case box t y=>
  simp only [aaU,if_true] at h ⊢;obtain ⟨c,h1,h2⟩:=h
  cases dst with
  | none=>cases h1
  | some d=>
   simp only [wr] at h1 ⊢;split at h1
   .simp only [Option.some.injEq,Prod.mk.injEq,St.mk.injEq,true_and] at h1;obtain ⟨rfl,rfl,rfl⟩:=h1;exact ⟨d,_,rfl,h2,rfl,fun H2 h=>⟨_,rfl,h⟩⟩
   .cases h1
 case makeSlice t y z=>
  simp only [aaU,if_true] at h ⊢;obtain ⟨c,h1,h2⟩:=h
  cases dst with
  | none=>cases h1
  | some d=>
   simp only [wr] at h1 ⊢;split at h1
   .split at h1
    .split at h1
     .simp only [Option.some.injEq,Prod.mk.injEq,St.mk.injEq,true_and] at h1;obtain ⟨rfl,rfl,rfl⟩:=h1;exact ⟨d,_,rfl,h2.1,rfl,fun H2 h=>⟨_,rfl,h,h2.2⟩⟩
     .cases h1
    .cases h1
   .cases h1
 case buildSlice t n ps=>
  simp only [aaU,if_true] at h ⊢;obtain ⟨c,h1,h2⟩:=h
  cases dst with
  | none=>cases h1
  | some d=>
   simp only [wr] at h1 ⊢;split at h1
   .split at h1
    .split at h1
     .split at h1
      .simp only [Option.some.injEq,Prod.mk.injEq,St.mk.injEq,true_and] at h1;obtain ⟨rfl,rfl,rfl⟩:=h1;exact ⟨d,_,rfl,h2.1,rfl,fun H2 h=>⟨_,rfl,h,h2.2⟩⟩
      .cases h1
     .cases h1
    .cases h1
   .cases h1
 case makeMap t rs=>
  simp only [aaU,if_true] at h ⊢;obtain ⟨c,h1,h2⟩:=h
  cases dst with
  | none=>cases rs<;>cases h1
  | some d=>
   cases rs with
   | some _=>cases h1
   | none=>
    simp only [wr] at h1 ⊢;simp only [Option.some.injEq,Prod.mk.injEq,St.mk.injEq,true_and] at h1;obtain ⟨rfl,rfl,rfl⟩:=h1;exact ⟨d,_,rfl,h2,rfl,fun H2 h=>⟨_,rfl,h⟩⟩
 case call cc=>
  obtain ⟨callee,args,argTypes⟩:=cc
  cases callee with
  | builtin b=>cases b<;>simp at hk
  | _=>simp at hk
end
end Go.Av
namespace Go.Av
section
variable {P:Program} {T:Ty} {Mv X:Nat->Prop} {G:ao} {N:Fr} {ops:Array Oper}
def Sx (P:Program) (T:Ty) (Mv:Nat->Prop) (G:ao) (N:Fr) (ops:Array Oper) (o:Oper) (e:Env) (H:Heap) (x:AV) (H':Heap):Prop:=
 eQ N o/\((fA ops e o=some true/\Ex P T Mv G o e H x H')\/(fA ops e o=some false/\x=cu/\H'=H))
theorem il {o:Oper} {t:Tmp} (h:Operand.tmp t∈o.op.operands):t∈o.looksAt ops:=
 List.mem_append_left _ (List.mem_filterMap.2 ⟨.tmp t,by simpa using h,rfl⟩)
theorem Ai {o:Oper} {e e':Env} (h:∀ t∈o.looksAt ops,e t=e' t):fA ops e o=fA ops e' o:=by
 unfold fA;split
 .rfl
 .rename_i j want hg;unfold x5;split
  .rename_i d hd;rw [h d (List.mem_append_right _ (by simp [hg,hd]))]
  .rfl
theorem abn {x y:Oper} (h:x.apart ops y=true) {e:Env} {v:AV}:(∀ t∈y.looksAt ops,Z2 e x.dst v t=e t)/\(∀ t∈x.looksAt ops,Z2 e y.dst v t=e t)/\(∀ d,x.dst=some d->y.dst≠some d):=by
 obtain ⟨h1,h2,h3⟩:=Oper.apart_spec h;exact ⟨fun t ht=>JK fun e=>h1 t e ht,fun t ht=>JK fun e=>h3 t e ht,h2⟩
theorem kinds (o:Op):kindOf o=0\/kindOf o=1\/kindOf o=2\/kindOf o=3\/kindOf o=8\/kindOf o=9:=by unfold kindOf;split<;>simp
theorem adN {q p:Oper} (hc:abo ops q p=true) {e:Env} {H H1 H2:Heap} {x y:AV} (hq:Sx P T Mv G N ops q e H x H1) (hp:Sx P T Mv G N ops p (Z2 e q.dst x) H1 y H2) (Hm:kindOf q.op≠9) (Hn:kindOf p.op≠9) :
  ∃ H3,Sx P T Mv G N ops p e H y H3/\Sx P T Mv G N ops q (Z2 e p.dst y) H3 x H2:=by
 simp only [abo,Bool.and_eq_true] at hc;obtain ⟨eJ,fH⟩:=hc;obtain ⟨a1,_,aL⟩:=abn eJ (e:=e) (v:=x);obtain ⟨_,a2,_⟩:=abn eJ (e:=e) (v:=y);have wp:=Ai (o:=p) (e:=Z2 e q.dst x) (e':=e) a1;have wq:=Ai (o:=q) (e:=Z2 e p.dst y) (e':=e) a2;have Fq:fg p.op (Z2 e q.dst x) e:=fun t ht=>a1 t (il ht);have Fs:fg q.op e (Z2 e p.dst y):=fun t ht=>(a2 t (il ht)).symm;obtain ⟨dq,hq⟩:=hq;obtain ⟨dp,hp⟩:=hp;rw [wp] at hp
 rcases hq with ⟨wq1,eq⟩ | ⟨wq1,rfl,rfl⟩
 .rcases hp with ⟨r7,ep⟩ | ⟨r7,rfl,rfl⟩
  .have pn:=ep.congr Hn Fq;have uM:=eq.congr Hm Fs
   have fin:∀ H3,Ex P T Mv G p e H y H3->Ex P T Mv G q (Z2 e p.dst y) H3 x H2->∃ H3,Sx P T Mv G N ops p e H y H3/\Sx P T Mv G N ops q (Z2 e p.dst y) H3 x H2:=fun H3 h1 h2=>
    ⟨H3,⟨dp,.inl ⟨r7,h1⟩⟩,⟨dq,.inl ⟨by rw [wq];exact wq1,h2⟩⟩⟩
   by_cases kp0:kindOf p.op=0
   .obtain rfl:=pn.keeps (by omega);exact fin H (pn.free kp0 H) uM
   .by_cases RJ:kindOf q.op=0
    .obtain rfl:=eq.keeps (by omega);exact fin H2 pn (uM.free RJ H2)
    .by_cases kk:kindOf q.op<=2/\kindOf p.op<=2
     .obtain rfl:=eq.keeps kk.1;obtain rfl:=pn.keeps kk.2;exact fin _ pn uM
     .by_cases k3:kindOf q.op=3/\kindOf p.op=3
      .obtain ⟨d,row,hd,hn,rfl,bx⟩:=uM.makes k3.1;obtain ⟨d',fb,gu,hn',rfl,BV⟩:=pn.makes k3.2;have cE:d≠d':=fun e=>aL d hd (by rw [gu,e])
       have jX:H d'=none:=by simpa [aJ,Ne.symm cE] using hn'
       have:aJ (aJ H d row) d' fb=aJ (aJ H d' fb) d row:=by
        funext i;by_cases h1:i=d<;>by_cases h2:i=d'<;>simp [aJ,h1,h2,cE,Ne.symm cE]
       exact fin _ (BV H jX) (by rw [this];exact bx _ (by simpa [aJ,cE] using hn))
      .by_cases k13:(kindOf q.op=1\/kindOf q.op=2)/\kindOf p.op=3
       .obtain rfl:=eq.keeps (by omega);obtain ⟨d,row,hd,hn,rfl,bx⟩:=pn.makes k13.2;exact fin _ pn (uM.grow k13.1 hn row)
       exfalso
       revert fH
       have c1:kindOf q.op=1\/kindOf q.op=2\/kindOf q.op=3\/kindOf q.op=8:=by have:=kinds q.op;omega
       have c2:kindOf p.op=1\/kindOf p.op=2\/kindOf p.op=3\/kindOf p.op=8:=by have:=kinds p.op;omega
       rcases c1 with c1 | c1 | c1 | c1<;>rcases c2 with c2 | c2 | c2 | c2<;>rw [c1,c2]<;>first | (simp [oU];done) | (exfalso;apply kk;omega) | (exfalso;exact k3 ⟨c1,c2⟩) | (exfalso;exact k13 ⟨.inl c1,c2⟩) | (exfalso;exact k13 ⟨.inr c1,c2⟩)
  .exact ⟨H,⟨dp,.inr ⟨r7,rfl,rfl⟩⟩,⟨dq,.inl ⟨by rw [wq];exact wq1,eq.congr Hm Fs⟩⟩⟩
 .rcases hp with ⟨r7,ep⟩ | ⟨r7,rfl,rfl⟩
  .exact ⟨H2,⟨dp,.inl ⟨r7,ep.congr Hn Fq⟩⟩,⟨dq,.inr ⟨by rw [wq];exact wq1,rfl,rfl⟩⟩⟩
  .exact ⟨_,⟨dp,.inr ⟨r7,rfl,rfl⟩⟩,⟨dq,.inr ⟨by rw [wq];exact wq1,rfl,rfl⟩⟩⟩
def run (P:Program) (T:Ty) (Mv:Nat->Prop) (G:ao) (N:Fr) (ops:Array Oper):List Nat->St->St->Prop
 | [],σ,ar=>σ=ar
 | i :: l,σ,ar=>∃ o,ops[i]? = some o/\∃ aH,adK P T Mv G N ops o σ aH/\run P T Mv G N ops l aH ar
theorem oY {o:Oper} (hk:kindOf o.op≠9) {σ ar:St}:adK P T Mv G N ops o σ ar↔∃ x H',Sx P T Mv G N ops o σ.env σ.H x H'/\ar=⟨Z2 σ.env o.dst x,H'⟩:=by
 constructor
 .rintro ⟨hd,⟨hw,h⟩ | ⟨hw,rfl⟩⟩
  .obtain ⟨x,H',h1,h2⟩:=Ex.of hk h;exact ⟨x,H',⟨hd,.inl ⟨hw,h1⟩⟩,h2⟩
  .exact ⟨cu,σ.H,⟨hd,.inr ⟨hw,rfl,rfl⟩⟩,rfl⟩
 .rintro ⟨x,H',⟨hd,⟨hw,h⟩ | ⟨hw,rfl,rfl⟩⟩,rfl⟩
  .exact ⟨hd,.inl ⟨hw,h.to⟩⟩
  .exact ⟨hd,.inr ⟨hw,rfl⟩⟩
theorem Wo {i j:Nat} {l:List Nat} {σ ar:St} {oi oj:Oper} (hi:ops[i]? = some oi) (hj:ops[j]? = some oj) (hc:abo ops oi oj=true) (h:run P T Mv G N ops (i :: j :: l) σ ar):run P T Mv G N ops (j :: i :: l) σ ar:=by
 obtain ⟨o1,h1,aH,s1,o2,h2,eu,s2,rest⟩:=h;rw [hi] at h1;rw [hj] at h2;obtain rfl:=Option.some.inj h1;obtain rfl:=Option.some.inj h2
 have hk:kindOf oi.op≠9:=by
  intro e;simp only [abo,Bool.and_eq_true,e] at hc;have:=hc.2
  revert this
  have b2:kindOf oj.op=0\/kindOf oj.op=1\/kindOf oj.op=2\/kindOf oj.op=3\/kindOf oj.op=8\/kindOf oj.op=9:=by unfold kindOf;split<;>simp
  rcases b2 with b | b | b | b | b | b<;>rw [b]<;>simp [oU]
 have hk':kindOf oj.op≠9:=by
  intro e;simp only [abo,Bool.and_eq_true,e] at hc;have:=hc.2
  revert this
  have b2:kindOf oi.op=0\/kindOf oi.op=1\/kindOf oi.op=2\/kindOf oi.op=3\/kindOf oi.op=8\/kindOf oi.op=9:=by unfold kindOf;split<;>simp
  rcases b2 with b | b | b | b | b | b<;>rw [b]<;>simp [oU]
 obtain ⟨x,H1,e1,rfl⟩:=(oY hk).1 s1;obtain ⟨y,H2,e2,rfl⟩:=(oY hk').1 s2;obtain ⟨H3,f1,f2⟩:=adN hc e1 e2 hk hk';refine ⟨oj,hj,_,(oY hk').2 ⟨y,H3,f1,rfl⟩,oi,hi,_,(oY hk).2 ⟨x,H2,f2,rfl⟩,?_⟩
 have PB:Z2 (Z2 σ.env oi.dst x) oj.dst y=Z2 (Z2 σ.env oj.dst y) oi.dst x:=by
  simp only [abo,Bool.and_eq_true] at hc;exact fm (abn hc.1 (e:=σ.env) (v:=x)).2.2
 dsimp only at rest ⊢;rw [PB] at rest;exact rest
theorem Wm {p:Nat} {op:Oper} (hp:ops[p]? = some op):∀ (l1:List Nat) {l2:List Nat} {σ ar:St},(∀ q∈l1,∀ oq,ops[q]? = some oq->abo ops oq op=true)->run P T Mv G N ops (l1 ++ p :: l2) σ ar->run P T Mv G N ops (p :: (l1 ++ l2)) σ ar:=by
 intro l1
 induction l1 with
 | nil=>intro l2 σ ar _ h;exact h
 | cons q l1 ih=>
  intro l2 σ ar bx h;obtain ⟨oq,hq,aH,s1,rest⟩:=h;have:=ih (fun q' hq'=>bx q' (by simp [hq'])) rest;have h2:run P T Mv G N ops (q :: p :: (l1 ++ l2)) σ ar:=⟨oq,hq,aH,s1,this⟩;exact Wo hq hp (bx q (by simp) oq hq) h2
theorem ET:∀ (l:List Oper) (acc:List Nat) (k:Nat),k < acc.length->(nL l acc).getD k 0=acc.getD k 0
 | [],_,_,_=>rfl
 | o :: l,acc,k,hk=>by
  rw [nL,ET l _ k (by simp;omega)];simp [List.getD_eq_getElem?_getD,List.getElem?_append_left hk]
theorem aft {acc:List Nat} {o:Oper} {q:Nat} (h:(bitsOf acc o).testBit q=true):∃ e∈o.after,Region.binds .any e=true/\(q=e.on\/(acc.getD e.on 0).testBit q=true):=by
 unfold bitsOf at h
 have key:∀ (l:List Edge),(l.foldr (fun e s=>if Region.binds .any e then (2 ^ e.on ||| acc.getD e.on 0) ||| s else s) 0).testBit q=true->∃ e∈l,Region.binds .any e=true/\(q=e.on\/(acc.getD e.on 0).testBit q=true):=by
  intro l
  induction l with
  | nil=>intro h;simp at h
  | cons e l ih=>
   intro h;rw [List.foldr_cons] at h;split at h
   .rename_i hb;rw [Nat.testBit_or,Nat.testBit_or,Bool.or_eq_true,Bool.or_eq_true] at h
    rcases h with (h | h) | h
    .rw [Nat.testBit_two_pow] at h
     have h':e.on=q:=by simpa using h
     exact ⟨e,by simp,hb,.inl h'.symm⟩
    .exact ⟨e,by simp,hb,.inr h⟩
    .obtain ⟨e',gJ,r⟩:=ih h;exact ⟨e',by simp [gJ],r⟩
   .obtain ⟨e',gJ,r⟩:=ih h;exact ⟨e',by simp [gJ],r⟩
 obtain ⟨e,he,r⟩:=key _ h;exact ⟨e,by simpa using he,r⟩
theorem xe:∀ (l:List Oper) (acc:List Nat) (j:Nat) (o:Oper) (q:Nat),l[j]? = some o->((nL l acc).getD (acc.length+j) 0).testBit q=true->∃ e∈o.after,Region.binds .any e=true/\(q=e.on\/(e.on < acc.length+j/\((nL l acc).getD e.on 0).testBit q=true))
 | [],_,_,_,_,h,_=>by simp at h
 | o' :: l,acc,0,o,q,h,hb=>by
  simp at h;subst h;rw [nL,ET l _ _ (by simp)] at hb;simp [List.getD_eq_getElem?_getD] at hb;obtain ⟨e,he,kI,r⟩:=aft hb;refine ⟨e,he,kI,r.imp id fun r=>?_⟩
  have ax:e.on < acc.length:=by
   rcases Nat.lt_or_ge e.on acc.length with h | h
   .exact h
   .simp [List.getD_eq_getElem?_getD,List.getElem?_eq_none h] at r
  refine ⟨by omega,?_⟩;rw [nL,ET l _ _ (by simp;omega)];simpa [List.getD_eq_getElem?_getD,List.getElem?_append_left ax] using r
 | o' :: l,acc,j+1,o,q,h,hb=>by
  have:=xe l (acc ++ [bitsOf acc o']) j o q (by simpa using h) (by rw [nL] at hb;simpa [Nat.add_assoc,Nat.add_comm 1 j] using hb);obtain ⟨e,he,kI,r⟩:=this;refine ⟨e,he,kI,r.imp id fun r=>?_⟩;rw [nL];exact ⟨by have:=r.1;simp at this;omega,r.2⟩
theorem zy (h:l5 ops=true) {j:Nat} {oj:Oper} (hj:ops[j]? = some oj):(∀ e∈oj.after,Region.binds .any e=true->e.on < j)/\
  ∀ i oi,i < j->ops[i]? = some oi->((tb ops).getD j 0).testBit i=true\/(abo ops oi oj=true/\abo ops oj oi=true):=by
 unfold l5 at h;have h1:=List.all_eq_true.1 h j (List.mem_range.2 (Array.getElem?_eq_some_iff.1 hj).1);simp only [hj,Bool.and_eq_true] at h1;refine ⟨fun e he hb=>?_,fun i oi hi hoi=>?_⟩
 .have:=Array.all_eq_true_iff_forall_mem.1 h1.1 e he;simpa [hb] using this
 .have:=List.all_eq_true.1 h1.2 i (List.mem_range.2 hi);simpa [hoi] using this
theorem Mx (hok:l5 ops=true) {listed:Array Bool} (abR:∀ j oj,ops[j]? = some oj->listed.getD j false=true->∀ e∈oj.after,Region.binds .any e=true->listed.getD e.on false=true) :
  ∀ (n j:Nat) (oj:Oper),j<=n->ops[j]? = some oj->(∀ e∈oj.after,Region.binds .any e=true->listed.getD e.on false=true)->∀ q,((tb ops).getD j 0).testBit q=true->listed.getD q false=true:=by
 intro n
 induction n with
 | zero=>
  intro j oj hj bq bx q hq
  have jd:j=0:=by omega
  subst jd;obtain ⟨e,he,hb,_⟩:=xe ops.toList [] 0 oj q (by simpa using bq) (by simpa [tb] using hq);have:=(zy hok bq).1 e he hb;omega
 | succ n ih=>
  intro j oj hj bq bx q hq;obtain ⟨e,he,hb,r⟩:=xe ops.toList [] j oj q (by simpa using bq) (by simpa [tb] using hq)
  rcases r with rfl | ⟨_,r⟩
  .exact bx e he hb
  .have ax:=(zy hok bq).1 e he hb
   have aaq:e.on < ops.size:=by have:=(Array.getElem?_eq_some_iff.1 bq).1;omega
   exact ih e.on ops[e.on] (by omega) (by simp [aaq]) (fun e' gJ aO=>abR e.on _ (by simp [aaq]) (bx e he hb) e' gJ aO) q (by simpa [tb] using r)
theorem L0 (hg:Good P T) (hok:l5 ops=true) {Q:Exit->St->Prop} {w0:World} {fT:Mu} {bp:St} (hQ:Q .normal bp):∀ (n:Nat) (R:List Nat) (listed:Array Bool) (w:World) (μ:Mu) (a:Act) (σ:St),R.length=n->R.Nodup->
  (∀ j,j∈R↔j < ops.size/\listed.getD j true=false)->listed.size=ops.size->(R.Pairwise (· < ·))->
  (∀ j oj,ops[j]? = some oj->listed.getD j false=true->∀ e∈oj.after,Region.binds .any e=true->listed.getD e.on false=true)->run P T Mv G N ops R σ bp->In w X G μ N a σ->Ev Mv w0 fT w μ->
  wpAnyIn (wd N.ro) 0 P .any ops (After Mv X G N w0 fT Q) n listed a w:=by
 intro n
 induction n with
 | zero=>
  intro R listed w μ a σ hl _ hR aI _ _ bK hi aG;have:R=[]:=List.eq_nil_of_length_eq_zero hl;subst this
  have hr:Region.ready .any ops listed=[]:=by
   apply List.eq_nil_iff_forall_not_mem.2;intro j hj;obtain ⟨h1,o,ho,_⟩:=mem_ready.1 hj;exact absurd ((hR j).2 ⟨(Array.getElem?_eq_some_iff.1 ho).1,h1⟩) (by simp)
  have:σ=bp:=bK;subst this;exact ⟨hr,μ,σ,hQ,hi,aG⟩
 | succ n ih=>
  intro R listed w μ a σ hl eY hR aI hpw abR bK hi aG;refine ⟨fun hr=>?_,fun i my=>?_⟩
  .-- the first of the rest may come up
   cases R with
   | nil=>simp at hl
   | cons j R=>
    obtain ⟨hj1,hC⟩:=(hR j).1 (by simp)
    have jw:j∈Region.ready .any ops listed:=by
     refine mem_ready.2 ⟨hC,ops[j],by simp [hj1],fun e he hb=>?_⟩;have ax:=(zy hok (j:=j) (oj:=ops[j]) (by simp [hj1])).1 e he hb
     have aL:e.on ∉ (j :: R):=by
      intro hm
      rcases List.mem_cons.1 hm with h | h
      .omega
      .have:=(List.pairwise_cons.1 hpw).1 _ h;omega
     have:=mt (hR e.on).2 aL
     have aaq:e.on < ops.size:=by omega
     have gL:e.on < listed.size:=by omega
     simp only [aaq,true_and,Array.getD_eq_getD_getElem?] at this ⊢;simp [gL] at this ⊢;exact this
    rw [hr] at jw;cases jw
  .obtain ⟨hi1,oi,hoi,bx⟩:=mem_ready.1 my;have mv:i∈R:=(hR i).2 ⟨(Array.getElem?_eq_some_iff.1 hoi).1,hi1⟩;obtain ⟨R1,R2,rfl⟩:=List.append_of_mem mv
   have mu:=Wm (P:=P) (T:=T) (Mv:=Mv) (G:=G) (N:=N) hoi R1 (fun q hq oq jA=>by
    have QP:q < i:=by
     have:=(List.pairwise_append.1 hpw).2.2 q hq i (by simp);exact this
    rcases (zy hok hoi).2 q oq QP jA with h | h
    .exfalso;have jx:=Mx hok abR i i oi (Nat.le_refl _) hoi bx q h;have e8:=((hR q).1 (by simp [hq])).2
     have mD:q < listed.size:=by have:=(Array.getElem?_eq_some_iff.1 jA).1;omega
     simp [Array.getD_eq_getD_getElem?,mD] at jx e8;rw [jx] at e8;cases e8
    .exact h.1) bK
   obtain ⟨o',eB,aH,hstep,b5⟩:=mu;rw [hoi] at eB;obtain rfl:=Option.some.inj eB;refine ad8 hg hstep hi hoi fun w' au a' aC iz=>?_
   have mz:(R1 ++ R2).Nodup:=by
    have:=eY;rw [List.nodup_append] at this ⊢;obtain ⟨g1,g2,g3⟩:=this;exact ⟨g1,(List.nodup_cons.1 g2).2,fun x hx y hy=>g3 x hx y (by simp [hy])⟩
   have mw:i ∉ R1 ++ R2:=by
    have:=eY;rw [List.nodup_append] at this;obtain ⟨g1,g2,g3⟩:=this;intro hm
    rcases List.mem_append.1 hm with h | h
    .exact g3 i h i (by simp) rfl
    .exact (List.nodup_cons.1 g2).1 h
   refine ih (R1 ++ R2) _ w' au a' aH (by simp at hl ⊢;omega) mz (fun j=>?_) (by simpa using aI) ?_ ?_ b5 aC (aG.trans iz)
   .by_cases hji:j=i
    .subst hji
     have gL:j < listed.size:=by rw [aI];exact (Array.getElem?_eq_some_iff.1 hoi).1
     simp [gL];simpa using mw
    .rw [getD_set_ne true (Ne.symm hji)];rw [<- hR j];simp [hji]
   .rw [List.pairwise_append] at hpw ⊢;obtain ⟨g1,g2,g3⟩:=hpw;exact ⟨g1,(List.pairwise_cons.1 g2).2,fun x hx y hy=>g3 x hx y (by simp [hy])⟩
   .intro j oj bq hlj e he hb;by_cases hji:j=i
    .subst hji;rw [hoi] at bq;obtain rfl:=Option.some.inj bq;exact getD_set_true (bx e he hb)
    .rw [getD_set_ne false (Ne.symm hji)] at hlj;exact getD_set_true (abR j oj bq hlj e he hb)
def qe (P:Program) (T:Ty) (Mv:Nat->Prop) (G:ao) (N:Fr) (ops:Array Oper) (K:St->Prop):List Oper->St->Prop
 | [],σ=>K σ
 | o :: rest,σ=>eQ N o/\match fA ops σ.env o with
  | some b=>if b=true then (match cr o.op with
    | some c=>∃ y,uH P G σ c y/\qe P T Mv G N ops K rest ⟨Z2 σ.env o.dst (.d y),σ.H⟩
    | none=>lC T G Mv o σ (qe P T Mv G N ops K rest)) else qe P T Mv G N ops K rest ⟨Z2 σ.env o.dst cu,σ.H⟩
  | none=>False
theorem W6 {K:St->Prop}:∀ (l:List Oper) (k:Nat) (σ:St),(∀ j,l[j]? = ops[k+j]?)->qe P T Mv G N ops K l σ->∃ bp,K bp/\run P T Mv G N ops (List.range' k l.length) σ bp:=by
 intro l
 induction l with
 | nil=>intro k σ _ h;exact ⟨σ,h,rfl⟩
 | cons o l ih=>
  intro k σ hl h
  have h0:ops[k]? = some o:=by simpa using (hl 0).symm
  have ek:∀ j,l[j]? = ops[k+1+j]?:=fun j=>by have:=hl (j+1);simpa [Nat.add_assoc,Nat.add_comm 1 j] using this
  obtain ⟨hd,h⟩:=h;rw [List.length_cons,List.range'_succ]
  have fin:∀ aH,adK P T Mv G N ops o σ aH->qe P T Mv G N ops K l aH->∃ bp,K bp/\run P T Mv G N ops (k :: List.range' (k+1) l.length) σ bp:=by
   intro aH hs hq;obtain ⟨bp,hk,hr⟩:=ih (k+1) aH ek hq;exact ⟨bp,hk,o,h0,aH,hs,hr⟩
  split at h
  .rename_i b hb;split at h
   .rename_i ot;subst ot;split at h
    .rename_i c hc;obtain ⟨y,hy,h⟩:=h;refine fin _ ⟨hd,.inl ⟨hb,?_⟩⟩ h;unfold kh;simp only [hc];exact ⟨y,hy,rfl⟩
    .rename_i hc;unfold lC at h;split at h
     .rename_i hw;split at h
      .rename_i c x aH h1;refine fin _ ⟨hd,.inl ⟨hb,?_⟩⟩ h.2;unfold kh;simp only [hc];rw [if_pos hw];exact ⟨c,x,aH,h1,h.1,rfl⟩
      .exact h.elim
     .rename_i hw;split at h
      .rename_i c x h1;refine fin _ ⟨hd,.inl ⟨hb,?_⟩⟩ h.2;unfold kh;simp only [hc];rw [if_neg hw];exact ⟨c,x,h1,h.1,rfl⟩
      .exact h.elim
   .rename_i vo
    have:b=false:=by simpa using vo
    subst this;exact fin _ ⟨hd,.inr ⟨hb,rfl⟩⟩ h
  .exact h.elim
theorem LA (hg:Good P T) (hm:P.follows .mixedOrders=true) {id:Nat} (hok:l5 ops=true) {Q:Exit->St->Prop} {σ:St} (h:qe P T Mv G N ops (fun ar=>Q .normal ar) ops.toList σ):AW P Mv X G N (.region id ops true) Q σ:=fun w μ a hi=>by
 obtain ⟨bp,hQ,bK⟩:=W6 ops.toList 0 σ (by simp) h;refine wpIn_region_any hm ?_;obtain ⟨aC,aG⟩:=hi.jR (Mv:=Mv) (bU.drew w);refine L0 hg hok hQ ops.size (List.range' 0 ops.toList.length) _ w.drew μ a σ (by simp) (by simpa using List.nodup_range') (fun j=>?_) (by simp) (by simpa using List.pairwise_lt_range') ?_ bK aC aG
 .simp [List.mem_range'_1];intro h;simp [Array.getD_eq_getD_getElem?,h]
 .intro j oj bq hlj;have hj:=(Array.getElem?_eq_some_iff.1 bq).1;simp [Array.getD_eq_getD_getElem?,hj] at hlj
end
def cL (P:Program) (t:TypeId):Bool:=!P.stoodInHeld t && !P.eqGuardType P.depth t
def bQ (P:Program):Ty:=fun t=>match P.underlying t,P.info? t with
 | some d,some i=>i.zero.map fun z=>⟨d,i.size,i.bytes,z,cL P t⟩
 | _,_=>none
theorem ZZ (P:Program):Good P (bQ P):=by
 intro t ti h;unfold bQ at h;split at h
 .rename_i d i hd hi;obtain ⟨z,hz,rfl⟩:=Option.map_eq_some_iff.1 h;exact ⟨hd,i,hi,rfl,rfl,hz,fun h=>by unfold cL at h;simpa using h⟩
 .cases h
end Go.Av
namespace Go.Av
def rK:List Nat->Env->List (Nat×AV)
 | [],_=>[]
 | i :: l,e=>match e i with
  | some x=>(i,x) :: rK l e
  | none=>rK l e
section
variable {P:Program} {T:Ty} {Mv X:Nat->Prop} {G:ao} {N:Fr} {σ:St}
theorem Z1.env {e e':Env} {H:Heap} (h:∀ i x,e' i=some x->e i=some x):Z1 Mv X G N ⟨e,H⟩ ⟨e',H⟩:=fun w μ _ hi=>
 ⟨μ,⟨hi.aS,⟨hi.env.defers,hi.env.size,fun i x hx=>hi.env.slot i x (h i x hx)⟩,hi.fV⟩,.refl _ w μ⟩
theorem DE {e:Env}:∀ {l:List Nat} {i:Nat} {x:AV},aX (rK l e) i=some x->e i=some x
 | [],_,_,h=>by simp [aX,rK] at h
 | j :: l,i,x,h=>by
  simp only [rK] at h;split at h
  .rename_i y hy;simp only [aX,List.lookup] at h;split at h
   .rename_i kL
    have:i=j:=by simpa using kL
    subst this;obtain rfl:=Option.some.inj h;exact hy
   .exact DE (l:=l) h
  .exact DE (l:=l) h
theorem ae {x y:Code} {Q:Exit->St->Prop} (h:∀ K:St->Prop,(∀ ar,AW P Mv X G N y Q ar->K ar)->AW P Mv X G N x (aM K Q) σ):AW P Mv X G N (.seq x y) Q σ:=nP (h _ fun _ h=>h)
theorem zj:∀ {l:List (Nat×AV)} {i:Nat} {x:AV},aX l i=some x->(i,x)∈l
 | [],_,_,h=>by simp [aX] at h
 | (j,y) :: l,i,x,h=>by
  simp only [aX,List.lookup] at h;split at h
  .rename_i kL
   have:i=j:=by simpa using kL
   subst this;obtain rfl:=Option.some.inj h;simp
  .exact List.mem_cons_of_mem _ (zj (l:=l) h)
theorem Z1.aX {e:Env} {H:Heap} {l:List (Nat×AV)} (h:∀ p∈l,e p.1=some p.2):Z1 Mv X G N ⟨e,H⟩ ⟨aX l,H⟩:=Z1.env fun i x hx=>h (i,x) (zj hx)
def aV (Mv X:Nat->Prop) (G:ao) (N:Fr) {S:Type} (I:S->Prop) (inv:S->St) (kS:S->Nat) (s:S) (σ:St):Prop:=∃ s',I s'/\kS s' < kS s/\Z1 Mv X G N σ (inv s')
theorem aV.mk {S:Type} {I:S->Prop} {inv:S->St} {kS:S->Nat} {s:S} (s':S) (hI:I s') (hm:kS s' < kS s) (h:Z1 Mv X G N σ (inv s')):aV Mv X G N I inv kS s σ:=⟨s',hI,hm,h⟩
theorem aam {S:Type} {id:Nat} {c:Code} {Q:Exit->St->Prop} (I:S->Prop) (inv:S->St) (kS:S->Nat) (s0:S) (h0:Z1 Mv X G N σ (inv s0)) (hI:I s0)
  (round:∀ s,I s->AW P Mv X G N c (aM (aV Mv X G N I inv kS s) (aP id Q)) (inv s)):AW P Mv X G N (.block id (.loop c)) Q σ:=
 aR (Lt (S:={s // I s}) (fun s=>inv s.1) (fun s=>kS s.1) ⟨s0,hI⟩ h0 fun s=>(round s.1 s.2).mono fun e τ q=>by
  cases e with
  | normal=>obtain ⟨s',h1,h2,h3⟩:=q;exact ⟨⟨s',h1⟩,h2,h3⟩
  | _=>exact q)
theorem dG {c:Operand} {x y:Code} {Q:Exit->St->Prop} {b:Prop} [Decidable b] (hc:bd G σ.env c=some (.d (.v (.bool (decide b))))) (ht:b->AW P Mv X G N x Q σ) (hf:¬ b->AW P Mv X G N y Q σ):AW P Mv X G N (.cond c x y) Q σ:=
 acI (decide b) hc (fun h=>ht (of_decide_eq_true h)) (fun h=>hf (of_decide_eq_false h))
end
end Go.Av
namespace Go.Av
def wA (l:List AV):AV:=match iq l with
 | some ds=>.d (.Z4 ds)
 | none=>.Z4 l
def AV.tr (o f:Nat->Nat->Nat->AV):AV->AV
 | .d x=>.d x
 | .own q off n=>o q off n
 | .ref q e j=>f q e j
 | .agg cells=>lA (go o f cells)
 | .Z4 vs=>wA (go o f vs)
 | .br t x=>wz t (x.tr o f)
 | .fn g caps=>wy g (go o f caps)
 | .bm g x=>.bm g (x.tr o f)
 | .mp q=>match f q 0 0 with
  | .ref q' _ _=>.mp q'
  | _=>.dead
 | .dead=>.dead
where
 go (o f:Nat->Nat->Nat->AV):List AV->List AV
 | []=>[]
 | x :: l=>x.tr o f :: go o f l
theorem AV.uf (o f:Nat->Nat->Nat->AV) (l:List AV):AV.tr.go o f l=l.map (AV.tr o f):=by
 induction l with
 | nil=>rfl
 | cons x l ih=>simp [AV.tr.go,ih]
def Row.tr (o f:Nat->Nat->Nat->AV):Row->Row
 | .sl ty sz els=>.sl ty sz els
 | .box ty cells=>.box ty (cells.map (AV.tr o f))
 | .mp ty ents=>.mp ty ents
 | .it ents seen=>.it ents seen
def trE (o f:Nat->Nat->Nat->AV) (e:Env):Env:=fun i=>(e i).map (AV.tr o f)
def trH (keep:Nat->Bool) (o f:Nat->Nat->Nat->AV) (H:Heap):Heap:=fun r=>if keep r then (H r).map (Row.tr o f) else none
def bF (keep:Nat->Bool) (μ:Mu):Mu:=fun r=>if keep r then μ r else none
section
variable {P:Program} {T:Ty} {Mv X:Nat->Prop} {G:ao} {N:Fr} {w:World} {μ:Mu} {a:Act} {σ:St}
theorem zl {u:Value} {l:List AV} (h:RV w X μ u (.Z4 l)):RV w X μ u (wA l):=by
 unfold wA;split
 .rename_i ds hd;rw [k7 hd] at h;obtain ⟨arr,rfl,hn,hr⟩:=h.ug;refine .d (.Z4 (by simpa using hn) fun j u c hu hc=>?_);exact (hr j u (.d c) hu (by rw [List.getElem?_map,hc];rfl)).data
 .exact h
theorem abh {keep:Nat->Bool} {r:Nat} {m:fU} (h:bF keep μ r=some m):keep r=true/\μ r=some m:=by
 unfold bF at h;split at h
 .rename_i hk;exact ⟨hk,h⟩
 .cases h
theorem uz {keep:Nat->Bool} {b:Nat} (h:XX X (bF keep μ) b):XX X μ b:=h.elim .inl fun ⟨r,m,hr,hb⟩=>.inr ⟨r,m,(abh hr).2,hb⟩
theorem RV.tr {au:Mu} {o f:Nat->Nat->Nat->AV} (hX:∀ b,XX X au b->XX X μ b) (ho:∀ u r off n,RV w X μ u (.own r off n)->RV w X au u (o r off n)) (hf:∀ u r e j,RV w X μ u (.ref r e j)->RV w X au u (f r e j)) :
  ∀ {v:Value} {x:AV},RV w X μ v x->RV w X au v (x.tr o f):=by
 intro v x hr
 induction hr with
 | d h'=>exact .d (h'.mono (Nat.le_refl _) fun b _ hb=>⟨rfl,fun e=>hb (hX b e)⟩)
 | own hm h'=>exact ho _ _ _ _ (.own hm h')
 | ref hm hb=>exact hf _ _ _ _ (.ref hm hb)
 | agg hn _ ih=>
  rw [AV.tr,AV.uf];refine wx (.agg (by simpa using hn) fun j u c hu hc=>?_);rw [List.getElem?_map] at hc;obtain ⟨c',cA,rfl⟩:=Option.map_eq_some_iff.1 hc;exact ih j u c' hu cA
 | Z4 hn _ ih=>
  rw [AV.tr,AV.uf];refine zl (.Z4 (by simpa using hn) fun j u c hu hc=>?_);rw [List.getElem?_map] at hc;obtain ⟨c',cA,rfl⟩:=Option.map_eq_some_iff.1 hc;exact ih j u c' hu cA
 | br _ ih=>exact DL ih
 | bm _ ih=>exact .bm ih
 | fn hn _ ih=>
  rw [AV.tr,AV.uf];refine DK (by simpa using hn) fun j u c hu hc=>?_;rw [List.getElem?_map] at hc;obtain ⟨c',cA,rfl⟩:=Option.map_eq_some_iff.1 hc;exact ih j u c' hu cA
 | mp hm hb=>
  rename_i r b m;have h0:=hf _ _ _ _ (RV.ref (e:=0) (j:=0) hm hb);unfold AV.tr;split
  .rename_i q' e' j' hq;rw [hq] at h0;obtain ⟨m',b',bO,aO,e⟩:=h0.abV;simp only [Value.pointer.injEq,Option.some.injEq,Addr.mk.injEq] at e;obtain ⟨rfl,_⟩:=e;exact .mp bO aO
  .exact .dead _
 | dead u=>exact .dead u
theorem qD {keep:Nat->Bool} (hk:∀ r m,μ r=some m->keep r=false->Mv r):Ev Mv w μ w (bF keep μ):=by
 refine ⟨Nat.le_refl _,rfl,rfl,rfl,fun b hb hr=>⟨rfl,?_⟩,fun q mq hq hn=>?_⟩
 .rintro ⟨q,mq,hq,hbq⟩;exact hr ⟨q,mq,(abh hq).2,hbq⟩
 .unfold bF
  cases h:keep q with
  | true=>simpa using hq
  | false=>exact absurd (hk q mq hq h) hn
theorem In.tr {keep:Nat->Bool} {o f:Nat->Nat->Nat->AV} (hi:In w X G μ N a σ) (ho:∀ u r off n,RV w X μ u (.own r off n)->RV w X (bF keep μ) u (o r off n)) (hf:∀ u r e j,RV w X μ u (.ref r e j)->RV w X (bF keep μ) u (f r e j)) :
  In w X G (bF keep μ) N a ⟨trE o f σ.env,trH keep o f σ.H⟩:=by
 have hX:∀ b,XX X (bF keep μ) b->XX X μ b:=fun b=>uz;have og:∀ {u:Value} {x:D},RD w (XX X μ) u x->RD w (XX X (bF keep μ)) u x:=fun h=>h.mono (Nat.le_refl _) fun b _ hb=>⟨rfl,fun e=>hb (hX b e)⟩;have vh:∀ {u:Value} {x:AV},RV w X μ u x->RV w X (bF keep μ) u (x.tr o f):=fun h=>RV.tr hX ho hf h
 refine ⟨⟨fun r row hr=>?_,fun r m hr=>?_,fun q q' m1 m2 b h1 h2 c6 ey=>hi.aS.inj q q' m1 m2 b (abh h1).2 (abh h2).2 c6 ey,fun q mq b hq hb=>hi.aS.frame q mq b (abh hq).2 hb,hi.aS.fits⟩,
  ⟨hi.env.defers,hi.env.size,fun i x hx=>?_⟩,fun g x hx=>og (hi.fV g x hx)⟩
 .replace hr:trH keep o f σ.H r=some row:=hr;unfold trH at hr;split at hr
  .rename_i hk;obtain ⟨acq,h0,rfl⟩:=Option.map_eq_some_iff.1 hr;obtain ⟨m,hm,ok⟩:=hi.aS.rows r acq h0;refine ⟨m,by simp [bF,hk,hm],?_⟩
   cases ok with
   | nil h1 h2=>exact .nil h1 h2
   | sl h1 h2 h3 h4 h5 h6 h7 h8 h9=>exact .sl h1 h2 h3 h4 h5 h6 h7 h8 fun i j el c he hc=>let ⟨u,hu,hr⟩:=h9 i j el c he hc;⟨u,hu,og hr⟩
   | box h1 h2 h3 h4 h5 h6 h7=>
    refine .box h1 rfl h3 h4 (by simpa using h5) (fun j u c hu hc=>?_) (by simpa using h7);rw [List.getElem?_map] at hc;obtain ⟨c',cA,rfl⟩:=Option.map_eq_some_iff.1 hc;exact vh (h6 j u c' hu cA)
   | mp h1 h2 h3 h4=>exact .mp h1 h2 h3 fun i e p he hp=>let ⟨a,b,c⟩:=h4 i e p he hp;⟨a,b,og c⟩
   | it h1 h2 h3=>exact .it h1 h2 (og h3)
  .cases hr
 .obtain ⟨hk,hm⟩:=abh hr;obtain ⟨row,cz⟩:=hi.aS.dom r m hm;exact ⟨row.tr o f,by simp [trH,hk,cz]⟩
 .replace hx:trE o f σ.env i=some x:=hx;unfold trE at hx;obtain ⟨x0,h0,rfl⟩:=Option.map_eq_some_iff.1 hx;obtain ⟨u,hu,hr⟩:=hi.env.slot i x0 h0;exact ⟨u,hu,vh hr⟩
theorem RV.tP {keep:Nat->Bool} {u:Value} {r off n:Nat} (hk:keep r=true) (h:RV w X μ u (.own r off n)):RV w X (bF keep μ) u (.own r off n):=by
 obtain ⟨m,hm,hh⟩:=h.iK;exact .own (by simp [bF,hk,hm]) hh
theorem RV.tR {keep:Nat->Bool} {u:Value} {r e j:Nat} (hk:keep r=true) (h:RV w X μ u (.ref r e j)):RV w X (bF keep μ) u (.ref r e j):=by
 obtain ⟨m,b,hm,hb,rfl⟩:=h.abV;exact .ref (by simp [bF,hk,hm]) hb
def du (ns:List Nat) (q off n:Nat):AV:=if ns.contains q then .own q off n else .dead
def dt (ns:List Nat) (q e j:Nat):AV:=if ns.contains q then .ref q e j else .dead
def pT:List Nat->Heap->List (Nat×Row)
 | [],_=>[]
 | r :: l,H=>match H r with
  | some row=>(r,row) :: pT l H
  | none=>pT l H
theorem Z1.only (ns:List Nat) (hm:∀ r,ns.contains r=false->Mv r):Z1 Mv X G N σ ⟨trE (du ns) (dt ns) σ.env,trH ns.contains (du ns) (dt ns) σ.H⟩:=fun w μ a hi=>by
 refine ⟨bF ns.contains μ,hi.tr (fun u r off n h=>?_) (fun u r e j h=>?_),qD fun r _ _ h=>hm r h⟩
 .unfold du;split
  .rename_i hk;exact h.tP hk
  .exact .dead u
 .unfold dt;split
  .rename_i hk;exact h.tR hk
  .exact .dead u
theorem Hr {H:Heap}:∀ {l:List Nat} {r:Nat},ZX (pT l H) r=if l.contains r then H r else none
 | [],r=>by simp [ZX,pT]
 | q :: l,r=>by
  have ih:=Hr (H:=H) (l:=l) (r:=r);simp only [pT];split
  .rename_i row cz;simp only [ZX,List.lookup,List.contains_cons];split
   .rename_i hrq
    have:r=q:=by simpa using hrq
    subst this;simp [cz]
   .rename_i hrq;rw [hrq,Bool.false_or];exact ih
  .rename_i cz;rw [ih,List.contains_cons];by_cases hrq:r=q
   .subst hrq;simp [cz]
   .simp [hrq]
def St.norm (l ns:List Nat) (σ:St):St:=⟨aX (rK l (trE (du ns) (dt ns) σ.env)),ZX (pT ns (trH ns.contains (du ns) (dt ns) σ.H))⟩
theorem Qu {ns:List Nat} {o f:Nat->Nat->Nat->AV} {H:Heap}:ZX (pT ns (trH ns.contains o f H))=trH ns.contains o f H:=by
 funext r;rw [Hr];unfold trH;split<;>simp_all
theorem Z1.norm (l ns:List Nat) (hm:∀ r,ns.contains r=false->Mv r):Z1 Mv X G N σ (σ.norm l ns):=by
 refine (Z1.only ns hm).trans ?_;unfold St.norm;rw [Qu];exact Z1.env fun _ _=>DE
theorem Z1.to {e:Env} {H:Heap} {l:List (Nat×AV)} {rows:List (Nat×Row)} (hm:∀ r,(rows.map (·.1)).contains r=false->Mv r) (he:∀ p∈l,(e p.1).map (AV.tr (du (rows.map (·.1))) (dt (rows.map (·.1))))=some p.2)
  (hH:∀ r,ZX rows r=trH (rows.map (·.1)).contains (du (rows.map (·.1))) (dt (rows.map (·.1))) H r):Z1 Mv X G N ⟨e,H⟩ ⟨Go.Av.aX l,ZX rows⟩:=by
 refine (Z1.only (rows.map (·.1)) hm).trans ?_;have:ZX rows=trH (rows.map (·.1)).contains (du (rows.map (·.1))) (dt (rows.map (·.1))) H:=funext hH;rw [this];exact Z1.env fun i x hx=>he (i,x) (zj hx)
theorem zT {rows:List (Nat×Row)} {H:Heap} {o f:Nat->Nat->Nat->AV} (h:∀ p∈rows,(H p.1).map (Row.tr o f)=ZX rows p.1):∀ r,ZX rows r=trH (rows.map (·.1)).contains o f H r:=by
 intro r;unfold trH;split
 .rename_i hk;obtain ⟨p,hp,rfl⟩:=List.mem_map.1 (List.contains_iff_mem.1 hk);exact (h p hp).symm
 .rename_i hk
  have:∀ l:List (Nat×Row),¬ (l.map (·.1)).contains r=true->ZX l r=none:=by
   intro l
   induction l with
   | nil=>intro _;rfl
   | cons q l ih=>
    intro hc;simp only [List.map_cons,List.contains_cons,Bool.or_eq_true,not_or] at hc;simp only [ZX,List.lookup];split
    .rename_i h1;exact absurd h1 hc.1
    .exact ih hc.2
  exact this rows hk
theorem Z1.dK {e:Env} {H:Heap} {l:List (Nat×AV)} {rows:List (Nat×Row)} (hm:∀ r,(rows.map (·.1)).contains r=false->Mv r) (he:∀ p∈l,(e p.1).map (AV.tr (du (rows.map (·.1))) (dt (rows.map (·.1))))=some p.2)
  (hH:∀ p∈rows,(H p.1).map (Row.tr (du (rows.map (·.1))) (dt (rows.map (·.1))))=ZX rows p.1):Z1 Mv X G N ⟨e,H⟩ ⟨Go.Av.aX l,ZX rows⟩:=Z1.to hm he (zT hH)
def pt (r:Nat) (els:List (List D)) (q off n:Nat):AV:=if q=r then (if off=0/\n=els.length then .d (.sl none els) else if off+n<=els.length then .d (.sl none ((els.drop off).take n)) else .dead) else .own q off n
def pr (r:Nat) (q e j:Nat):AV:=if q=r then .dead else .ref q e j
def aa1 (r:Nat) (q:Nat):Bool:=!(q == r)
def St.freeze (r:Nat) (σ:St):St:=match σ.H r with
 | some (.sl _ _ els)=>⟨trE (pt r els) (pr r) σ.env,trH (aa1 r) (pt r els) (pr r) σ.H⟩
 | _=>σ
theorem Z1.freeze (r:Nat) (hm:Mv r):Z1 Mv X G N σ (σ.freeze r):=fun w μ a hi=>by
 unfold St.freeze;split
 .rename_i ty sz els hr
  have oF:(fun q=>if q=r then none else μ q)=bF (aa1 r) μ:=by
   funext q;unfold bF aa1;by_cases h:q=r<;>simp [h]
  refine ⟨bF (aa1 r) μ,hi.tr (fun u q off n h=>?_) (fun u q e j h=>?_),qD fun q _ _ hq=>by
   have e:q=r:=by simpa [aa1] using hq
   exact e ▸ hm⟩
  .unfold pt;split
   .rename_i hq;subst hq
    have hd:∀ {off n:Nat},RV w X μ u (.own q off n)->off+n<=els.length->RV w X (bF (aa1 q) μ) u (.d (.sl none ((els.drop off).take n))):=fun h hle=>by
     obtain ⟨k,hk,_⟩:=zA hi.aS hr hle h;rw [oF] at hk;exact .d hk.mR
    split
    .rename_i h2;obtain ⟨rfl,rfl⟩:=h2;have:=hd h (by omega);simpa using this
    .split
     .rename_i hle;exact hd h hle
     .exact .dead u
   .rename_i hq;exact h.tP (by simp [aa1,hq])
  .unfold pr;split
   .exact .dead u
   .rename_i hq;exact h.tR (by simp [aa1,hq])
 .exact ⟨μ,hi,.refl _ w μ⟩
def xY (r:Nat) (ds:List D) (q e j:Nat):AV:=if q=r then (if e=0 then .d (.ip (ds.drop j)) else .dead) else .ref q e j
def xZ (r:Nat) (q off n:Nat):AV:=if q=r then .dead else .own q off n
def St.na (r:Nat) (σ:St):St:=match σ.H r with
 | some (.box _ cells)=>match iq cells with
  | some ds=>⟨trE (xZ r) (xY r ds) σ.env,trH (aa1 r) (xZ r) (xY r ds) σ.H⟩
  | none=>σ
 | _=>σ
theorem Z1.na (r:Nat) (hm:Mv r):Z1 Mv X G N σ (σ.na r):=fun w μ a hi=>by
 unfold St.na;split
 .rename_i ty cells hr;split
  .rename_i ds iZ
   refine ⟨bF (aa1 r) μ,hi.tr (fun u q off n h=>?_) (fun u q e j h=>?_),qD fun q _ _ hq=>by
    have e:q=r:=by simpa [aa1] using hq
    exact e ▸ hm⟩
   .unfold xZ;split
    .exact .dead u
    .rename_i hq;exact h.tP (by simp [aa1,hq])
   .unfold xY;split
    .rename_i hq;subst hq;split
     .rename_i he;subst he;obtain ⟨m,b,s5,hb,rfl⟩:=h.abV;obtain ⟨m',bO,ok⟩:=hi.aS.rows q _ hr;rw [s5] at bO;obtain rfl:=Option.some.inj bO
      cases ok with
      | box aO aI ab6 hh hn hrr hx9=>
       rename_i b' cur;rw [hb] at aO;obtain rfl:=Option.some.inj aO;have aa7:=k7 iZ
       have hlen:cells.length=ds.length:=by rw [aa7,List.length_map]
       simp only [Nat.zero_mul,Nat.zero_add];refine .d (.ip (f:=fun i=>cur.getD (j+i) undef) ?_ (Array.getElem?_eq_some_iff.1 hh).1 (fun i da=>?_) fun i d gu=>?_)
       .rintro (hX | ⟨q',m',hq',Pr⟩)
        .exact hi.aS.frame q m b s5 hb hX
        .obtain ⟨hk,Qz⟩:=abh hq';have:=hi.aS.inj q' q m' m b Qz s5 Pr hb;simp [aa1,this] at hk
       .simp only [List.length_drop] at da;rw [cell_of_row w b (j+i) cur ty (0,0) hh];simp [Array.getD_eq_getD_getElem?,show j+i < cur.size by omega]
       .have da:=(List.getElem?_eq_some_iff.1 gu).1;simp only [List.length_drop] at da;rw [List.getElem?_drop] at gu
        have hc:cells[j+i]? = some (.d d):=by rw [aa7,List.getElem?_map,gu];rfl
        have ax:j+i < cur.size:=by omega
        have:=hrr (j+i) cur[j+i] (.d d) (by simp [ax]) hc;simp only [Array.getD_eq_getD_getElem?,ax,Array.getElem?_eq_getElem,Option.getD_some];exact this.data.sub fun b=>uz
     .exact .dead u
    .rename_i hq;exact h.tR (by simp [aa1,hq])
  .exact ⟨μ,hi,.refl _ w μ⟩
 .exact ⟨μ,hi,.refl _ w μ⟩
def St.sF (r:Nat) (σ:St):St:=(σ.freeze r).na r
theorem Z1.sF (r:Nat) (hm:Mv r):Z1 Mv X G N σ (σ.sF r):=(Z1.freeze r hm).trans (Z1.na r hm)
theorem Z1.kc (i r ty sz:Nat) {e:Env} {H:Heap} (hr:H r=none) (he:e i=some (.d (.sl (some false) []))):Z1 Mv X G N ⟨e,H⟩ ⟨eF e i (.own r 0 0),aJ H r (.sl ty sz [])⟩:=fun w μ a hi=>by
 obtain ⟨aC,ev⟩:=hi.alloc (Mv:=Mv) (w':=w) (m:=⟨none,sz,0⟩) hr (bU.refl w) (by simp) (row:=.sl ty sz []) fun _=>.nil rfl rfl;refine ⟨cH μ r ⟨none,sz,0⟩,⟨aC.aS,⟨aC.env.defers,aC.env.size,fun j x hx=>?_⟩,aC.fV⟩,ev⟩;simp only [eF] at hx;split at hx
 .rename_i hj;subst hj;obtain rfl:=Option.some.inj hx;obtain ⟨u,hu,e9⟩:=hi.env.slot j _ he;refine ⟨u,hu,.own (m:=⟨none,sz,0⟩) (by simp [cH]) (.inl ⟨rfl,?_,rfl,rfl⟩)⟩
  rcases e9.data.l8 with ⟨rfl,_⟩ | ⟨_,_,_,hk,_⟩
  .rfl
  .exact absurd rfl hk
 .exact aC.env.slot j x hx
end
end Go.Av
namespace Go.Av
theorem MG (a b:Int):(a != b)=decide (¬ a=b):=by by_cases h:a=b<;>simp [h]
theorem My (a b:Int):(a == b)=decide (a=b):=by by_cases h:a=b<;>simp [h]
theorem aB {α β:Type} (f:α->β) (l:List α):List.take l.length (List.map f l)=List.map f l:=List.take_of_length_le (by simp)
def rowsOf (H:Heap):Nat->AV->List Nat
 | 0,_=>[]
 | _+1,.own r _ _=>[r]
 | k+1,.ref r _ _=>match H r with
  | some (.box _ cells)=>go H k cells ++ [r]
  | _=>[]
 | k+1,.agg cells=>go H k cells
 | k+1,.br _ x=>rowsOf H k x
 | _+1,_=>[]
where
 go (H:Heap) (k:Nat):List AV->List Nat
 | []=>[]
 | x :: l=>rowsOf H k x ++ go H k l
def acM:List Nat->St->St
 | [],σ=>σ
 | r :: l,σ=>acM l (σ.sF r)
def tQ (G:ao) (o:Oper) (σ:St):St:=match o.op with
 | .buildSlice _ _ parts=>match jq G σ.env parts.toList with
  | some ps=>acM (rowsOf.go σ.H 6 (ps.map (·.2))) σ
  | none=>σ
 | .mapUpdate _ _ _ v=>match bd G σ.env v with
  | some x=>acM (rowsOf σ.H 6 x) σ
  | none=>σ
 | .insert _ _ _ v=>match bd G σ.env v with
  | some x=>acM (rowsOf σ.H 6 x) σ
  | none=>σ
 | _=>σ
def zC (G:ao) (o:Oper) (σ:St):List Nat:=match o.op with
 | .buildSlice _ _ parts=>match jq G σ.env parts.toList with
  | some ps=>rowsOf.go σ.H 6 (ps.map (·.2))
  | none=>[]
 | .mapUpdate _ _ _ v=>match bd G σ.env v with
  | some x=>rowsOf σ.H 6 x
  | none=>[]
 | .insert _ _ _ v=>match bd G σ.env v with
  | some x=>rowsOf σ.H 6 x
  | none=>[]
 | _=>[]
def aap (P:Program) (Mv X:Nat->Prop) (G:ao) (N:Fr) (g:FuncId) (xs:List AV) (σ:St) (dst:Option Tmp) (next:St->Prop):Prop:=
 ab2 P Mv X G N g xs σ fun x ar=>next ⟨Z2 ar.env dst x,ar.H⟩
def iT (P:Program) (G:ao) (c:Call) (σ:St) (dst:Option Tmp) (next:St->Prop):Prop:=∃ y,uH P G σ c y/\next ⟨Z2 σ.env dst (.d y),σ.H⟩
def qE (P:Program) (T:Ty) (Mv X:Nat->Prop) (G:ao) (N:Fr) (o:Oper) (σ:St) (next:St->Prop):Prop:=match cr o.op with
 | some c=>match tgt G σ.env c with
  | some (g,xs)=>aap P Mv X G N g xs σ o.dst next
  | none=>False
 | none=>(∀ r∈zC G o σ,Mv r)/\lC T G Mv o (tQ G o σ) next
def sxf (P:Program) (T:Ty) (Mv X:Nat->Prop) (G:ao) (N:Fr) (ops:Array Oper) (K:St->Prop):List Oper->St->Prop
 | [],σ=>K σ
 | o :: rest,σ=>eQ N o/\match fA ops σ.env o with
  | some b=>if b=true then qE P T Mv X G N o σ (sxf P T Mv X G N ops K rest) else sxf P T Mv X G N ops K rest ⟨Z2 σ.env o.dst cu,σ.H⟩
  | none=>False
def kB (P:Program) (T:Ty) (Mv:Nat->Prop) (G:ao) (N:Fr) (ops:Array Oper) (K:St->Prop):List Oper->St->Prop
 | [],σ=>K σ
 | o :: rest,σ=>eQ N o/\match fA ops σ.env o with
  | some b=>if b=true then (match cr o.op with
    | some c=>iT P G c σ o.dst (kB P T Mv G N ops K rest)
    | none=>lC T G Mv o σ (kB P T Mv G N ops K rest)) else kB P T Mv G N ops K rest ⟨Z2 σ.env o.dst cu,σ.H⟩
  | none=>False
section
variable {P:Program} {T:Ty} {Mv X:Nat->Prop} {G:ao} {N:Fr} {w:World} {μ:Mu} {a:Act} {σ:St}
theorem KT {ops:Array Oper} {K:St->Prop}:∀ (l:List Oper),kB P T Mv G N ops K l=qe P T Mv G N ops K l
 | []=>rfl
 | o :: l=>by
  funext σ;simp only [kB,qe,iT,KT l]
  all_goals rfl
theorem Z1.acM:∀ (l:List Nat) {σ:St},(∀ r∈l,Mv r)->Z1 Mv X G N σ (Go.Av.acM l σ)
 | [],σ,_=>.refl σ
 | r :: l,_,hm=>(Z1.sF r (hm r (by simp))).trans (Z1.acM l fun q hq=>hm q (by simp [hq]))
theorem Z1.tQ (o:Oper) (hm:∀ r∈zC G o σ,Mv r):Z1 Mv X G N σ (Go.Av.tQ G o σ):=by
 unfold Go.Av.tQ;unfold zC at hm;split
 .rename_i ho;simp only [ho] at hm;split
  .rename_i hp;simp only [hp] at hm;exact .acM _ hm
  .exact .refl σ
 .rename_i ho;simp only [ho] at hm;split
  .rename_i hp;simp only [hp] at hm;exact .acM _ hm
  .exact .refl σ
 .rename_i ho;simp only [ho] at hm;split
  .rename_i hp;simp only [hp] at hm;exact .acM _ hm
  .exact .refl σ
 .exact .refl σ
theorem Gn (hg:Good P T) (hi:In w X G μ N a σ) {o:Oper} {K:St->Prop} (hd:∀ d,o.dst=some d->d < N.n) (h:qE P T Mv X G N o σ K) {Q:Exit->Act->World->Prop} {next:Act->World->Prop}
  (hk:∀ w' au a' ar,K ar->In w' X G au N a' ar->Ev Mv w μ w' au->next a' w'):o.wpIn (wd N.ro) 0 P a w next Q:=by
 unfold qE at h;split at h
 .rename_i c hc;refine xS (Mv:=Mv) hg hi hd ?_ hk;unfold jr;rw [hc];dsimp only;split at h
  .rename_i ht;rw [ht];exact h
  .exact h.elim
 .rename_i hc;obtain ⟨im,hi1,ev1⟩:=Z1.tQ (Mv:=Mv) (X:=X) o h.1 w μ a hi;refine xS (Mv:=Mv) hg hi1 (K:=K) hd ?_ fun w' au a' ar k aC aG=>hk w' au a' ar k aC (ev1.trans aG);unfold jr;rw [hc];exact h.2
theorem af3 (hg:Good P T) {ops:Array Oper} {Q:Exit->St->Prop} {w0:World} {fT:Mu}:∀ (l:List Oper) (k:Nat) (w:World) (μ:Mu) (a:Act) (σ:St),(∀ j,l[j]? = ops[k+j]?)->sxf P T Mv X G N ops (fun ar=>Q .normal ar) l σ->In w X G μ N a σ->Ev Mv w0 fT w μ->
  wpOpsIn (wd N.ro) 0 P ops (After Mv X G N w0 fT Q) (List.range' k l.length) a w:=by
 intro l
 induction l with
 | nil=>intro k w μ a σ _ h hi aG;exact ⟨μ,σ,h,hi,aG⟩
 | cons o l ih=>
  intro k w μ a σ hl h hi aG
  have h0:ops[k]? = some o:=by simpa using (hl 0).symm
  have ek:∀ j,l[j]? = ops[k+1+j]?:=fun j=>by have:=hl (j+1);simpa [Nat.add_assoc,Nat.add_comm 1 j] using this
  obtain ⟨hd,h⟩:=h
  have gu:∀ d,o.dst=some d->d < N.n:=fun d e=>by unfold eQ at hd;rw [e] at hd;exact hd
  rw [List.length_cons,List.range'_succ];simp only [wpOpsIn,h0];split at h
  .rename_i b hb;rw [r5 hi hb];split at h
   .rename_i ot;subst ot;rw [if_pos rfl];exact (Gn hg hi gu h fun w' au a' ar k' aC iz=>ih (k+1) w' au a' ar ek k' aC (aG.trans iz))
   .rename_i vo;rw [if_neg (by simpa using vo)];exact ⟨fun _ _=>trivial,ih (k+1) w μ _ _ ek h (hi.put (.d (.v _)) gu) aG⟩
  .exact h.elim
theorem Fc (hg:Good P T) {id:Nat} {ops:Array Oper} {Q:Exit->St->Prop} (h:sxf P T Mv X G N ops (fun ar=>Q .normal ar) ops.toList σ):AW P Mv X G N (.region id ops false) Q σ:=fun w μ a hi=>by
 refine wpIn_region ?_;have:=af3 hg ops.toList 0 w μ a σ (by simp) h hi (.refl _ w μ)
 rwa [<- List.range_eq_range',Array.length_toList] at this
theorem Fb (hg:Good P T) (hm:P.follows .mixedOrders=true) {id:Nat} {ops:Array Oper} (hok:l5 ops=true) {Q:Exit->St->Prop} (h:kB P T Mv G N ops (fun ar=>Q .normal ar) ops.toList σ):AW P Mv X G N (.region id ops true) Q σ:=by
 rw [KT] at h;exact LA hg hm hok h
theorem AW.norm (l ns:List Nat) (hM:∀ r,ns.contains r=false->Mv r) {c:Code} {Q:Exit->St->Prop} (h:AW P Mv X G N c Q (σ.norm l ns)):AW P Mv X G N c Q σ:=AW.imp (Z1.norm l ns hM) h
theorem AW.st {τ:St} {c:Code} {Q:Exit->St->Prop} (h:σ=τ) (h':AW P Mv X G N c Q τ):AW P Mv X G N c Q σ:=h ▸ h'
theorem AW.I7 (i:Nat) {e:Env} {H:Heap} {els:List (List D)} {c:Code} {Q:Exit->St->Prop} (he:e i=some (.d (.sl none els))) (h1:AW P Mv X G N c Q ⟨eF e i (.d (.sl (some true) els)),H⟩)
  (h2:els=[]->AW P Mv X G N c Q ⟨eF e i (.d (.sl (some false) [])),H⟩):AW P Mv X G N c Q ⟨e,H⟩:=fun w μ a hi=>by
 obtain ⟨u,hu,hr⟩:=hi.env.slot i _ he
 have put:∀ {y:D},RD w (XX X μ) u y->In w X G μ N a ⟨eF e i (.d y),H⟩:=fun hy=>⟨hi.aS,⟨hi.env.defers,hi.env.size,fun j x hx=>by
  simp only [eF] at hx;split at hx
  .rename_i hj;subst hj;obtain rfl:=Option.some.inj hx;exact ⟨u,hu,.d hy⟩
  .exact hi.env.slot j x hx⟩,hi.fV⟩
 have hd:=hr.data;generalize hy:D.sl none els=y at hd
 cases hd with
 | nil hk=>cases hy;exact h2 rfl w μ a (put (.nil (by simp)))
 | empty hk hm=>cases hy;exact h1 w μ a (put (.empty (by simp) hm))
 | sl a1 a2 a3 a4 a5 a6 a7 a8 a9 LM=>cases hy;exact h1 w μ a (put (.sl (by simp) a2 a3 a4 a5 a6 a7 a8 a9 LM))
 | _=>cases hy
theorem LB (hg:Good P T) (l ns:List Nat) (hM:∀ r,ns.contains r=false->Mv r) {id:Nat} {ops:Array Oper} {y:Code} {Q:Exit->St->Prop} (h:∀ K:St->Prop,(∀ τ:St,AW P Mv X G N y Q (τ.norm l ns)->K τ)->sxf P T Mv X G N ops K ops.toList σ):AW P Mv X G N (.seq (.region id ops false) y) Q σ:=
 nP (Fc hg (h _ fun _ h=>h.norm l ns hM))
theorem rg {P:Program} {Mv X:Nat->Prop} {G:ao} {N:Fr} {σ:St} (l ns:List Nat) (hM:∀ r,ns.contains r=false->Mv r) {id:Nat} {ops:Array Oper} {y:Code} {Q:Exit->St->Prop} (h:∀ K:St->Prop,(∀ τ:St,AW P Mv X G N y Q (τ.norm l ns)->K τ)->sxf P (bQ P) Mv X G N ops K ops.toList σ):AW P Mv X G N (.seq (.region id ops false) y) Q σ:=LB (ZZ _) l ns hM h
theorem nO (hg:Good P T) (hm:P.follows .mixedOrders=true) (l ns:List Nat) (hM:∀ r,ns.contains r=false->Mv r) {id:Nat} {ops:Array Oper} (hok:l5 ops=true) {y:Code} {Q:Exit->St->Prop} (h:∀ K:St->Prop,(∀ τ:St,AW P Mv X G N y Q (τ.norm l ns)->K τ)->kB P T Mv G N ops K ops.toList σ):AW P Mv X G N (.seq (.region id ops true) y) Q σ:=
 nP (Fb hg hm hok (h _ fun _ h=>h.norm l ns hM))
theorem aaG (hg:Good P T) {id:Nat} {ops:Array Oper} {Q:Exit->St->Prop} (h:∀ K:St->Prop,(∀ τ:St,Q .normal τ->K τ)->sxf P T Mv X G N ops K ops.toList σ):AW P Mv X G N (.region id ops false) Q σ:=
 Fc hg (h _ fun _ h=>h)
theorem uo (hg:Good P T) (hm:P.follows .mixedOrders=true) {id:Nat} {ops:Array Oper} (hok:l5 ops=true) {Q:Exit->St->Prop} (h:∀ K:St->Prop,(∀ τ:St,Q .normal τ->K τ)->kB P T Mv G N ops K ops.toList σ):AW P Mv X G N (.region id ops true) Q σ:=
 Fb hg hm hok (h _ fun _ h=>h)
def zQ (T:Ty) (σ:St):ResultVar->Ans
 | .tmp t=>(σ.env t).map fun x=>(True,x)
 | .cell a t=>(σ.env a).bind (j3 T σ.H t)
def p9 (T:Ty) (σ:St):List ResultVar->Option (Prop×List AV)
 | []=>some (True,[])
 | r :: l=>match zQ T σ r,p9 T σ l with
  | some (c,x),some (c',xs)=>some (c/\c',x :: xs)
  | _,_=>none
def oneOf:List AV->AV
 | [x]=>x
 | l=>wA l
def D.le:D->D->Prop
 | .sl k els,.sl k' kf=>(k'=none\/k=k')/\els=kf
 | .Z4 l,.Z4 l'=>go l l'
 | .agg l,.agg l'=>go l l'
 | .ip l,.ip l'=>go l l'
 | .br t x,.br t' x'=>t=t'/\x.le x'
 | .fn f l,.fn f' l'=>f=f'/\go l l'
 | .dm x l,.dm x' l'=>(x'=true->x=true/\l=l')/\l.Perm l'
 | x,y=>x=y
where
 go:List D->List D->Prop
 | [],[]=>True
 | x :: l,y :: l'=>x.le y/\go l l'
 | _,_=>False
def sA (T:Ty) (rs:List ResultVar) (y:D) (σ:St):Prop:=match p9 T σ rs with
 | some (c,xs)=>c/\match dM σ.H 6 (oneOf xs) with
  | some y'=>y'.le y
  | none=>False
 | none=>False
def AQ (T:Ty) (rs:List ResultVar) (y:D):Exit->St->Prop
 | .normal,σ | .ret,σ=>sA T rs y σ
 | _,_=>False
theorem D.rJ:∀ {l l':List D},D.le.go l l'->l.length=l'.length/\∀ (j:Nat) (x y:D),l[j]? = some x->l'[j]? = some y->x.le y
 | [],[],_=>⟨rfl,by simp⟩
 | x :: l,y :: l',h=>by
  simp only [D.le.go] at h;obtain ⟨h1,h2⟩:=D.rJ h.2;refine ⟨by simp [h1],fun j a b ha hb=>?_⟩
  cases j with
  | zero=>simp at ha hb;subst ha hb;exact h.1
  | succ j=>simp at ha hb;exact h2 j a b ha hb
 | [],_ :: _,h=>by simp only [D.le.go] at h
 | _ :: _,[],h=>by simp only [D.le.go] at h
theorem D.wo {l l':List D} (hg:D.le.go l l') {j:Nat} {c:D} (hc:l'[j]? = some c):∃ x,l[j]? = some x/\x.le c:=by
 obtain ⟨hl,hh⟩:=D.rJ hg;have hj:=(List.getElem?_eq_some_iff.1 hc).1
 have cR:j < l.length:=by omega
 exact ⟨l[j],by simp [cR],hh j _ c (by simp [cR]) hc⟩
theorem RD.le {w:World} {X:Nat->Prop} {u:Value} {x:D} (hr:RD w X u x):∀ {y:D},x.le y->RD w X u y:=by
 induction hr with
 | v x=>intro y h;cases y<;>simp only [D.le,reduceCtorEq] at h;exact h ▸ .v x
 | nil hk=>
  intro y h;cases y<;>simp only [D.le,reduceCtorEq] at h;obtain ⟨h1 | h1,rfl⟩:=h
  .exact .nil (by simp [h1])
  .exact .nil (h1 ▸ hk)
 | empty hk hm=>
  intro y h;cases y<;>simp only [D.le,reduceCtorEq] at h;obtain ⟨h1 | h1,rfl⟩:=h
  .exact .empty (by simp [h1]) hm
  .exact .empty (h1 ▸ hk) hm
 | sl h1 h2 h3 h4 h5 h6 h7 h8 h9 x7=>
  intro y h;cases y<;>simp only [D.le,reduceCtorEq] at h;obtain ⟨e1 | e1,rfl⟩:=h
  .exact .sl (by simp [e1]) h2 h3 h4 h5 h6 h7 h8 h9 x7
  .exact .sl (e1 ▸ h1) h2 h3 h4 h5 h6 h7 h8 h9 x7
 | ip hX hb aaB hr ih=>
  intro y h;cases y<;>simp only [D.le,reduceCtorEq] at h;obtain ⟨hl,_⟩:=D.rJ h;refine .ip hX hb (fun j hj=>aaB j (by omega)) fun j c hc=>?_;obtain ⟨x,hx,hle⟩:=D.wo h hc;exact ih j x hx hle
 | agg hn hr ih=>
  intro y h;cases y<;>simp only [D.le,reduceCtorEq] at h;obtain ⟨hl,_⟩:=D.rJ h;refine .agg (by omega) fun j u c hu hc=>?_;obtain ⟨x,hx,hle⟩:=D.wo h hc;exact ih j u x hu hx hle
 | Z4 hn hr ih=>
  intro y h;cases y<;>simp only [D.le,reduceCtorEq] at h;obtain ⟨hl,_⟩:=D.rJ h;refine .Z4 (by omega) fun j u c hu hc=>?_;obtain ⟨x,hx,hle⟩:=D.wo h hc;exact ih j u x hu hx hle
 | br hr ih=>
  intro y h;cases y<;>simp only [D.le,reduceCtorEq] at h;obtain ⟨rfl,h⟩:=h;exact .br (ih h)
 | tab hX hh=>
  intro y h;cases y<;>simp only [D.le,reduceCtorEq] at h;injection h with h;exact h ▸ .tab hX hh
 | dm hX hh hp hx=>
  intro y h;cases y<;>simp only [D.le,reduceCtorEq] at h;exact .dm hX hh (hp.trans h.2) fun e=>(hx (h.1 e).1).trans (h.1 e).2
 | fn hn hr ih=>
  intro y h;cases y<;>simp only [D.le,reduceCtorEq] at h;obtain ⟨rfl,h⟩:=h;obtain ⟨hl,_⟩:=D.rJ h;refine .fn (by omega) fun j u c hu hc=>?_;obtain ⟨x,hx,hle⟩:=D.wo h hc;exact ih j u x hu hx hle
theorem aw.mR {g:FuncId} {ds ds':List D} {y:D} (hc:aw P G g ds y) (h:D.le.go ds' ds):aw P G g ds' y:=by
 refine ⟨hc.1,fun X w μ vs hs b8 hn hv=>hc.2 X w μ vs hs b8 (by simpa [(D.rJ h).1] using hn) fun i u x hu hx=>?_⟩;rw [List.getElem?_map] at hx;obtain ⟨d,hd,rfl⟩:=Option.map_eq_some_iff.1 hx;obtain ⟨x,hx,hle⟩:=D.wo h hd;exact .d ((hv i u (.d x) hu (by rw [List.getElem?_map,hx];rfl)).data.le hle)
theorem aap.data {g:FuncId} {xs:List AV} {ds ds':List D} {y:D} {dst:Option Tmp} {next:St->Prop} (hc:aw P G g ds y) (hx:iq xs=some ds') (hle:D.le.go ds' ds) (h:next ⟨Z2 σ.env dst (.d y),σ.H⟩):aap P Mv X G N g xs σ dst next:=by
 unfold aap;rw [k7 hx];exact ab2.pure (hc.mR hle) h
theorem aap.l3 {g:FuncId} {xs:List AV} {ds ds':List D} {y:D} {dst:Option Tmp} {next:St->Prop} (hc:aw P G g ds y) (hx:ab1 (dM σ.H 4) xs=some ds') (hle:D.le.go ds' ds) (hy:y.scalar=true) (h:next ⟨Z2 σ.env dst (.d y),σ.H⟩):aap P Mv X G N g xs σ dst next:=
 ab2.l3 hx (hc.mR hle) hy h
theorem iT.data {c:Call} {g:FuncId} {xs:List AV} {ds ds':List D} {y:D} {dst:Option Tmp} {next:St->Prop} (hc:aw P G g ds y) (ht:tgt G σ.env c=some (g,xs)) (hx:iq xs=some ds') (hle:D.le.go ds' ds) (h:next ⟨Z2 σ.env dst (.d y),σ.H⟩):iT P G c σ dst next:=
 ⟨y,⟨g,xs,ht,.inl ⟨ds',k7 hx,hc.mR hle⟩⟩,h⟩
theorem iT.l3 {c:Call} {g:FuncId} {xs:List AV} {ds ds':List D} {y:D} {dst:Option Tmp} {next:St->Prop} (hc:aw P G g ds y) (ht:tgt G σ.env c=some (g,xs)) (hx:ab1 (dM σ.H 4) xs=some ds') (hle:D.le.go ds' ds) (hy:y.scalar=true) (h:next ⟨Z2 σ.env dst (.d y),σ.H⟩):iT P G c σ dst next:=
 ⟨y,⟨g,xs,ht,.inr ⟨ds',hx,hy,hc.mR hle⟩⟩,h⟩
theorem Fw (H:Heap) (k:Nat):∀ (ds:List D),ab1 (dM H k) (ds.map .d)=some ds
 | []=>rfl
 | d :: ds=>by simp [ab1,Fw H k ds];cases k<;>simp [dM]
theorem D.le_refl (x:D):x.le x:=by
 have key:∀ n,∀ x:D,SizeOf.sizeOf x < n->x.le x:=by
  intro n
  induction n with
  | zero=>intro x h;omega
  | succ n ih=>
   intro x h
   have go:∀ l:List D,SizeOf.sizeOf l < n->D.le.go l l:=by
    intro l
    induction l with
    | nil=>intro _;simp [D.le.go]
    | cons y l ihl=>
     intro hl;simp only [List.cons.sizeOf_spec] at hl;exact ⟨ih y (by omega),ihl (by omega)⟩
   cases x<;>simp only [D.le]<;>simp at h ⊢
   .exact go _ (by omega)
   .exact go _ (by omega)
   .exact go _ (by omega)
   .exact ih _ (by omega)
   .exact go _ (by omega)
 exact key _ x (Nat.lt_succ_self _)
theorem D.bn:∀ l:List D,D.le.go l l
 | []=>trivial
 | x :: l=>⟨D.le_refl x,D.bn l⟩
theorem VQ (hg:Good P T) (hi:In w X G μ N a σ) {r:ResultVar} {c:Prop} {x:AV} (h:zQ T σ r=some (c,x)) (hc:c) :
  ∃ v,(match r with | .tmp t=>(pure (a.tmps.getD t undef):Sem Value) | .cell b t=>do loadVar t (<- asAddr (a.tmps.getD b undef))).run P w = .ok v w/\RV w X μ v x:=by
 cases r with
 | tmp t=>
  simp only [zQ,Option.map_eq_some_iff,Prod.mk.injEq] at h;obtain ⟨y,hy,_,rfl⟩:=h;obtain ⟨u,hu,hr⟩:=hi.env.slot t y hy;exact ⟨u,by simp [Array.getD_eq_getD_getElem?,hu],hr⟩
 | cell b t=>
  obtain ⟨y,hy,hl⟩:=Option.bind_eq_some_iff.1 h;obtain ⟨u,hu,hr⟩:=hi.env.slot b y hy;obtain ⟨v,hv,e9⟩:=IC (P:=P) hg hi.aS hl hc hr;refine ⟨v,?_,e9⟩
  have e:a.tmps.getD b undef=u:=by simp [Array.getD_eq_getD_getElem?,hu]
  dsimp only;rw [e];unfold j3 at hl;split at hl
  .obtain ⟨b,off,f,rfl,_⟩:=hr.data.acF;simpa [Instr.loadAt,Instr.sureAddr,asAddr] using hv
  .obtain ⟨m,b,hm,hb,rfl⟩:=hr.abV;simpa [Instr.loadAt,Instr.sureAddr,asAddr] using hv
  .cases hl
theorem VO (hg:Good P T) (hi:In w X G μ N a σ):∀ {rs:List ResultVar} {c:Prop} {xs:List AV},p9 T σ rs=some (c,xs)->c->
  ∃ vs:List Value,(rs.mapM (m:=Sem) fun | .tmp t=>pure (a.tmps.getD t undef) | .cell b t=>do loadVar t (<- asAddr (a.tmps.getD b undef))).run P w = .ok vs w/\vs.length=xs.length/\∀ (j:Nat) (u:Value) (x:AV),vs[j]? = some u->xs[j]? = some x->RV w X μ u x:=by
 intro rs
 induction rs with
 | nil=>
  intro c xs h hc;simp only [p9,Option.some.injEq,Prod.mk.injEq] at h;obtain ⟨_,rfl⟩:=h;exact ⟨[],by simp,rfl,by simp⟩
 | cons r rs ih=>
  intro c xs h hc;simp only [p9] at h;split at h
  .rename_i c1 x c2 Ll h1 h2;simp only [Option.some.injEq,Prod.mk.injEq] at h;obtain ⟨rfl,rfl⟩:=h;obtain ⟨v,hv,hr⟩:=VQ (P:=P) hg hi h1 hc.1;obtain ⟨vs,C7,hl,gd⟩:=ih h2 hc.2;refine ⟨v :: vs,?_,by simp [hl],fun j u x hu hx=>?_⟩
   .rw [List.mapM_cons,Sem.run_bind,hv,Result.andThen_ok,Sem.run_bind,C7,Result.andThen_ok,Sem.run_pure]
   .cases j with
    | zero=>simp at hu hx;subst hu hx;exact hr
    | succ j=>simp at hu hx;exact gd j u x hu hx
  .cases h
theorem En (hg:Good P T) (hi:In w X G μ N a σ) {fn:Func} {rs:List ResultVar} (gd:fn.results=rs.toArray) {c:Prop} {xs:List AV} (h:p9 T σ rs=some (c,xs)) (hc:c) :
  ∃ v,(results fn a.tmps).run P w = .ok v w/\RV w X μ v (oneOf xs):=by
 obtain ⟨vs,C7,hl,hr⟩:=VO (P:=P) hg hi h hc;refine ⟨if h:vs.toArray.size=1 then vs.toArray[0] else .tuple vs.toArray,?_,?_⟩
 .unfold results;rw [gd,Array.mapM_eq_mapM_toList,Sem.run_bind];simp only [map_eq_pure_bind,Sem.run_bind]
  erw [C7]
  rfl
 .match xs,vs,hl,hr with
  | [],[],_,hr=>exact zl (l:=[]) (.Z4 (arr:=#[]) (cells:=[]) rfl (by simp))
  | [x],[v],_,hr=>exact hr 0 v x rfl rfl
  | x :: y :: xs,v :: u :: vs,hl,hr=>
   have:¬ (v :: u :: vs).toArray.size=1:=by simp
   rw [dif_neg this];exact zl (.Z4 (by simpa using hl) fun j u c hu hc=>hr j u c (by simpa using hu) hc)
theorem aw.aD (hg:Good P T) {g:FuncId} {fn:Func} {c:Code} {rs:List ResultVar} {ds:List D} {y:D} (hf:P.funcs[g]? = some fn) (hb:fn.body=some c) (hn:(fn.name == "runtime.NumGoroutine")=false) (gd:fn.results=rs.toArray)
  (hN:ds.length<=fn.ntmps) (h:∀ X,AW P (fun _=>True) X G ⟨fn.ntmps,[],none⟩ c (AQ T rs y) ⟨args (ds.map .d),eA⟩):aw P G g ds y:=by
 refine ⟨eU.of hf hb hn,fun X w μ vs hs b8 aI hv=>?_⟩
 have fin:∀ (w':World) (au:Mu) (a':Act) (ar:St),sA T rs y ar->In w' X G au ⟨fn.ntmps,[],none⟩ a' ar->Ev (fun _=>True) w μ w' au->∃ v,(results fn a'.tmps).run P w' = .ok v w'/\∃ v_1 x H' au,Ending.returned v=Ending.returned v_1/\(x = .d y/\H'=eA)/\RV w' X au v_1 x/\cK w' X au H'/\Ev (fun _=>True) w μ w' au:=by
  intro w' au a' ar he hi aG;unfold sA at he;split at he
  .rename_i c xs hx;obtain ⟨hc,he⟩:=he;split at he
   .rename_i y' hy;obtain ⟨v,hv,hr⟩:=En (P:=P) hg hi gd hx hc;have bz:=(xu hi.aS 6 hy hr).le he;refine ⟨v,hv,v,.d y,eA,fun _=>none,rfl,⟨rfl,rfl⟩,.d (bz.sub fun b=>kD.1),cK.none hi.aS.fits,aG.size,aG.os,aG.tape,aG.output,fun b hb hr=>⟨(aG.same b hb hr).1,fun ⟨_,_,h,_⟩=>by cases h⟩,fun r m _ hn=>absurd trivial hn⟩
   .exact he.elim
  .exact he.elim
 refine calls_of_wp hf hb ((wpIn_wide (n:=0)).1 (wpIn_mono (h X w μ _ ⟨hs,⟨rfl,by simp;simp at aI;omega,fun i x hx=>?_⟩,b8⟩) fun e a' w' ⟨au,ar,q,i,ev⟩=>?_))
 .simp only [args] at hx;have hi:i < (ds.map AV.d).length:=(List.getElem?_eq_some_iff.1 hx).1
  have mJ:vs[i]? = some vs[i]:=by rw [Array.getElem?_eq_getElem]
  exact ⟨vs[i],by rw [Array.getElem?_append_left (by omega),mJ],hv i _ x mJ hx⟩
 .cases e with
  | normal=>
   obtain ⟨v,hv,rest⟩:=fin w' au a' ar q i ev;exact ⟨i.env.defers,v,hv,rest⟩
  | ret=>
   obtain ⟨v,hv,rest⟩:=fin w' au a' ar q i ev;exact ⟨i.env.defers,v,hv,rest⟩
  | _=>exact q.elim
end
end Go.Av
namespace Go.Av
section
variable {P:Program} {T:Ty} {Mv X:Nat->Prop} {G:ao} {N:Fr} {ops:Array Oper}
def si (o:Oper):Option (Operand×Operand):=match o.op with
 | .call { callee:=.builtin .append,args,argTypes }=>match args.toList,argTypes.toList with
  | [x,y],[t,t']=>if t=t' then some (x,y) else none
  | _,_=>none
 | _=>none
def xt (T:Ty) (Mv:Nat->Prop) (o:Oper) (r off n ty sz:Nat) (els news:List (List D)):Option (Prop×Nat×Row):=match o.op,o.dst with
 | .call { callee:=.builtin .append,args,argTypes },some _=>match args.toList,argTypes.toList with
  | [_,_],[t,t']=>if t=t' then match T t with
   | some tt=>match tt.desc with
    | .slice e=>match T e with
     | some te=>some (off=0/\Mv r/\ty=e/\sz=te.size/\n<=els.length/\(∀ el∈news,el.length=te.size)/\(∀ el∈news,∀ c∈el,D.one c=true)/\0 < te.size/\(gB te.zero).length=te.size/\n+news.length<=9223372036854775807/\(n+news.length) * te.bytes<=140737488355328,
       n+news.length,.sl e te.size (els.take n ++ news))
     | none=>none
    | _=>none
   | none=>none
  else none
  | _,_=>none
 | _,_=>none
def ada (s:Nat):AV->Prop
 | .own q _ _=>q=s
 | _=>True
def abk (T:Ty) (G:ao) (Mv:Nat->Prop) (o:Oper) (e:Env) (H:Heap) (r s m:Nat) (row:Row):Prop:=
 ∃ x y off n v ty sz els news c,si o=some (x,y)/\bd G e x=some (.own r off n)/\bd G e y=some v/\ada s v/\H r=some (.sl ty sz els)/\ji H r v=some news/\xt T Mv o r off n ty sz els news=some (c,m,row)/\c
theorem AL {o:Oper} {x y:Operand} (h:si o=some (x,y)):∃ t t',o.op = .call { callee:=.builtin .append,args:=#[x,y],argTypes:=#[t,t'] }/\t=t':=by
 unfold si at h;split at h
 .rename_i args argTypes gW;split at h
  .rename_i x' y' t t' ha ht;split at h
   .rename_i htt;simp only [Option.some.injEq,Prod.mk.injEq] at h;obtain ⟨rfl,rfl⟩:=h;have e1:args = #[x',y']:=Array.toList_inj.1 ha;have e2:argTypes = #[t,t']:=Array.toList_inj.1 ht;exact ⟨t,t',by rw [gW,e1,e2],htt⟩
   .cases h
  .cases h
 .cases h
theorem abk.row {o:Oper} {e:Env} {H:Heap} {r s m:Nat} {row:Row} (h:abk T G Mv o e H r s m row):(∃ ty sz els,row = .sl ty sz els)/\(∃ ty sz els,H r=some (.sl ty sz els))/\(∃ d,o.dst=some d):=by
 obtain ⟨x,y,off,n,v,ty,sz,els,news,c,h1,h2,h3,h4,h5,h6,h7,h8⟩:=h;unfold xt at h7
 repeat' split at h7
 all_goals first
  | cases h7;done
  | (simp only [Option.some.injEq, Prod.mk.injEq] at h7
     obtain ⟨_,_,rfl⟩:=h7
     exact ⟨⟨_,_,_,rfl⟩,⟨_,_,_,h5⟩,⟨_,by assumption⟩⟩)
theorem abk.to {o:Oper} {e:Env} {H:Heap} {r s m:Nat} {row:Row} (h:abk T G Mv o e H r s m row):kh P T Mv G o ⟨e,H⟩ ⟨Z2 (cF r e) o.dst (.own r 0 m),aJ (cG r H) r row⟩:=by
 obtain ⟨x,y,off,n,v,ty,sz,els,news,c,h1,h2,h3,h4,h5,h6,h7,h8⟩:=h;obtain ⟨t,t',gW,yP⟩:=AL h1;obtain ⟨dst,op,type,pos,after,guard⟩:=o;dsimp only at gW;subst gW;unfold kh;simp only [cr,aaU,if_true];unfold xt at h7;dsimp only at h7
 cases dst with
 | none=>cases h7
 | some d=>
  simp only [List.toList_toArray] at h7;refine ⟨c,.own r 0 m,⟨cF r e,aJ (cG r H) r row⟩,?_,h8,rfl⟩;unfold wr;dsimp only;subst yP;rw [if_pos rfl] at h7;split at h7
  .rename_i tt hT;split at h7
   .rename_i xQ hd;split at h7
    .rename_i te b9;simp only [Option.some.injEq,Prod.mk.injEq] at h7;obtain ⟨rfl,rfl,rfl⟩:=h7;simp [hT,hd,b9,h2,h3,h5,h6]
    .cases h7
   .cases h7
  .cases h7
theorem abk.of {o:Oper} {e:Env} {H:Heap} {r s off n:Nat} {x y:Operand} {v:AV} {c:Prop} {z:AV} {aH:St} (ho:si o=some (x,y)) (hx:bd G e x=some (.own r off n)) (hy:bd G e y=some v) (hs:ada s v) (h:wr T G Mv ⟨e,H⟩ o=some (c,z,aH)) (hc:c) :
  ∃ m row,abk T G Mv o e H r s m row/\z = .own r 0 m/\aH=⟨cF r e,aJ (cG r H) r row⟩:=by
 obtain ⟨t,t',gW,yP⟩:=AL ho;obtain ⟨dst,op,type,pos,after,guard⟩:=o;dsimp only at gW;subst gW;unfold wr at h;dsimp only at h
 cases dst with
 | none=>cases h
 | some d=>
  dsimp only at h;split at h
  .rename_i htt;subst htt
   cases hT:T t with
   | none=>simp [hT] at h
   | some tt=>
    simp only [hT] at h;split at h
    .rename_i xQ hd
     cases b9:T xQ with
     | none=>simp [b9] at h
     | some te=>
      simp only [b9,hx,hy] at h;split at h
      .rename_i ty sz els news h1 h2;simp only [Option.some.injEq,Prod.mk.injEq] at h;obtain ⟨rfl,rfl,rfl⟩:=h;exact ⟨_,_,⟨x,y,off,n,v,ty,sz,els,news,_,ho,hx,hy,hs,h1,h2,by simp [xt,hT,hd,b9],hc⟩,rfl,rfl⟩
      .cases h
    .cases h
  .rename_i aL;exact absurd yP aL
theorem I4 {H H2:Heap} {r s:Nat} {v:AV} (hs:ada s v) (hH:H2 s=H s):ji H2 r v=ji H r v:=by
 cases v with
 | own q off n=>
  simp only [ada] at hs;subst hs;simp only [ji,hH]
 | d x=>cases x<;>rfl
 | _=>rfl
theorem abk.congr {o:Oper} {e e2:Env} {H H2:Heap} {r s m:Nat} {row:Row} (h:abk T G Mv o e H r s m row) (ha:fg o.op e e2) (hr:H2 r=H r) (hs:H2 s=H s):abk T G Mv o e2 H2 r s m row:=by
 obtain ⟨x,y,off,n,v,ty,sz,els,news,c,h1,h2,h3,h4,h5,h6,h7,h8⟩:=h;obtain ⟨t,t',gW,yP⟩:=AL h1;have hx:∀ t,x = .tmp t->e t=e2 t:=fun t ht=>ha t (by rw [gW];simp [Op.operands,Call.operands,ht]);have hy:∀ t,y = .tmp t->e t=e2 t:=fun t ht=>ha t (by rw [gW];simp [Op.operands,Call.operands,ht]);exact ⟨x,y,off,n,v,ty,sz,els,news,c,h1,by rw [<- aaH hx];exact h2,by rw [<- aaH hy];exact h3,h4,by rw [hr];exact h5,by rw [I4 h4 hs];exact h6,h7,h8⟩
theorem AV.y5 (r r':Nat) (x:AV):(x.kill r).kill r'=(x.kill r').kill r:=by
 have key:∀ n,∀ x:AV,SizeOf.sizeOf x < n->(x.kill r).kill r'=(x.kill r').kill r:=by
  intro n
  induction n with
  | zero=>intro x h;omega
  | succ n ih=>
   intro x h
   have go:∀ l:List AV,SizeOf.sizeOf l < n->(l.map (AV.kill r)).map (AV.kill r')=(l.map (AV.kill r')).map (AV.kill r):=by
    intro l
    induction l with
    | nil=>intro _;rfl
    | cons y l ihl=>
     intro hl;simp only [List.cons.sizeOf_spec] at hl;simp only [List.map_cons,List.cons.injEq];exact ⟨ih y (by omega),ihl (by omega)⟩
   cases x with
   | d x=>simp [AV.kill]
   | own q off n=>by_cases h1:q=r<;>by_cases h2:q=r'<;>simp [AV.kill,h1,h2]<;>(try (by_cases h3:r=r'<;>simp [AV.kill,h3]))<;>(try simp_all [AV.kill])
   | ref q e j=>by_cases h1:q=r<;>by_cases h2:q=r'<;>simp [AV.kill,h1,h2]<;>(try (by_cases h3:r=r'<;>simp [AV.kill,h3]))<;>(try simp_all [AV.kill])
   | agg cells=>simp at h;simp only [AV.kill,AV.go_eq];rw [go cells (by omega)]
   | Z4 cells=>simp at h;simp only [AV.kill,AV.go_eq];rw [go cells (by omega)]
   | br t x=>simp at h;simp only [AV.kill];rw [ih x (by omega)]
   | bm t x=>simp at h;simp only [AV.kill];rw [ih x (by omega)]
   | fn f cells=>simp at h;simp only [AV.kill,AV.go_eq];rw [go cells (by omega)]
   | mp q=>by_cases h1:q=r<;>by_cases h2:q=r'<;>simp [AV.kill,h1,h2]<;>(try (by_cases h3:r=r'<;>simp [AV.kill,h3]))<;>(try simp_all [AV.kill])
   | dead=>simp [AV.kill]
 exact key _ x (Nat.lt_succ_self _)
theorem afK (r r':Nat) (e:Env):cF r' (cF r e)=cF r (cF r' e):=by
 funext i;simp only [cF,Option.map_map];congr 1;funext x;exact AV.y5 r r' x
theorem Row.y5 (r r':Nat) (x:Row):(x.kill r).kill r'=(x.kill r').kill r:=by
 cases x with
 | sl ty sz els=>rfl
 | mp ty ents=>rfl
 | it ents seen=>rfl
 | box ty cells=>
  simp only [Row.kill,List.map_map];congr 1;apply List.map_congr_left;intro x _;exact AV.y5 r r' x
theorem RG (r r':Nat) (H:Heap):cG r' (cG r H)=cG r (cG r' H):=by
 funext i;simp only [cG,Option.map_map];congr 1;funext x;exact Row.y5 r r' x
theorem y3 (r:Nat) (e:Env) (d:Option Tmp) (x:AV):cF r (Z2 e d x)=Z2 (cF r e) d (x.kill r):=by
 cases d with
 | none=>rfl
 | some d=>funext i;simp only [cF,Z2,eF];split<;>rfl
def Ay (r:Nat) (o:Oper) (e:Env) (x:AV):Prop:=fg o.op e (cF r e)/\x.kill r=x
theorem af8 {o:Oper} {e:Env} (h:o.guard=none):fA ops e o=some true:=by simp [fA,h]
theorem SH {r:Nat} {l:List AV} (h:(lA l).kill r=lA l):lA (l.map (AV.kill r))=lA l:=by
 unfold lA at h ⊢;split at h
 .rename_i ds hd;rw [k7 hd]
  have:(ds.map AV.d).map (AV.kill r)=ds.map AV.d:=by simp [List.map_map,Function.comp_def,AV.kill]
  rw [this,AK]
 .rename_i hd;simp only [AV.kill,AV.go_eq,AV.agg.injEq] at h;rw [h,hd]
theorem Md {r:Nat} {t:TypeId} {cells:List AV} {c:Prop} {x:AV} {j:Nat} (h:k8 T t (cells.drop j)=some (c,x)) (hx:x.kill r=x):∃ c',k8 T t ((cells.map (AV.kill r)).drop j)=some (c',x)/\(c->c'):=by
 unfold k8 at h ⊢;split at h
 .cases h
 .rename_i ti ht;split at h
  .rename_i ha;rw [if_pos ha];simp only [Option.some.injEq,Prod.mk.injEq] at h;obtain ⟨rfl,rfl⟩:=h;refine ⟨_,?_,id⟩;rw [<- List.map_drop,<- List.map_take,List.length_map,SH hx]
  .rename_i ha;rw [if_neg ha];simp only [Option.some.injEq,Prod.mk.injEq] at h;obtain ⟨rfl,rfl⟩:=h;rw [<- List.map_drop];generalize hl:cells.drop j=l at hx
   cases l with
   | nil=>exact ⟨_,rfl,fun h=>absurd rfl h⟩
   | cons y l=>
    simp only [List.headD_cons] at hx;refine ⟨_,by simp only [List.map_cons,List.headD_cons,hx];rfl,fun _=>by simp⟩
theorem VB {o:Oper} {e:Env} {H:Heap} {r:Nat} {row:Row} {c:Prop} {x:AV} (cz:∃ ty sz els,row = .sl ty sz els) (h:rd T G ⟨e,H⟩ o.op=some (c,x)) (e7:Ay r o e x) :
  ∃ c',rd T G ⟨e,aJ (cG r H) r row⟩ o.op=some (c',x)/\(c->c'):=by
 have yn:=e7.1;have hx:=e7.2;clear e7
 have free:∀ t v,Operand.tmp t∈o.op.operands->e t=some v->v.kill r=v:=by
  intro t v ht hv;have:=yn t ht;rw [hv] at this;simp only [cF,hv,Option.map_some,Option.some.injEq] at this;exact this.symm
 have ne:∀ (p:Operand) (v:AV),bd G e p=some v->p∈o.op.operands->v.kill r=v:=by
  intro p v hv hp
  cases p with
  | tmp t=>exact free t v hp hv
  | const k=>simp only [bd,Option.some.injEq] at hv;subst hv;unfold eV;split<;>rfl
  | global g=>simp only [bd,Option.map_eq_some_iff] at hv;obtain ⟨d,_,rfl⟩:=hv;rfl
  | func f=>simp only [bd,Option.some.injEq] at hv;subst hv;rfl
 have aL:∀ q,q≠r->(aJ (cG r H) r row) q=(H q).map (Row.kill r):=fun q hq=>by simp [aJ,hq,cG]
 obtain ⟨dst,op,type,pos,after,guard⟩:=o;dsimp only at h free ne ⊢;by_cases hk:kindOf op=0
 .rw [JM hk _ H];exact ⟨c,h,id⟩
 cases op<;>first | exact absurd rfl hk | skip
 case load t p=>
  simp only [rd] at h ⊢;obtain ⟨v,hv,hl⟩:=Option.bind_eq_some_iff.1 h;rw [hv,Option.bind_some];have hf:=ne p v hv (by simp [Op.operands])
  cases v with
  | d x=>cases x<;>first | exact ⟨c,hl,id⟩ | cases hl
  | own q off n=>cases hl
  | agg _=>cases hl
  | Z4 _=>cases hl
  | br _ _=>cases hl
  | fn _ _=>cases hl
  | bm _ _=>cases hl
  | dead=>cases hl
  | mp _=>cases hl
  | ref q ee j=>
   simp only [j3] at hl ⊢
   have hq:q≠r:=fun e=>by simp [AV.kill,e] at hf
   rw [aL q hq]
   cases hH:H q with
   | none=>simp [hH] at hl
   | some qa=>
    cases qa with
    | sl ty sz els=>simp only [hH] at hl;simp only [Option.map_some,Row.kill];exact ⟨c,hl,id⟩
    | mp ty ents=>simp [hH] at hl
    | it ents seen=>simp [hH] at hl
    | box ty cells=>
     simp only [hH] at hl;simp only [Option.map_some,Row.kill];split at hl
     .rename_i he;rw [if_pos he];exact Md hl hx
     .cases hl
 case indexAddr t p i=>
  simp only [rd] at h ⊢;split at h
  .rename_i a b ha hb;have hf:=ne p a ha (by simp [Op.operands])
   have bb:∃ k n,b = .d (.v (.int k n)):=by
    unfold lZ at h;split at h
    .exact ⟨_,_,rfl⟩
    .exact ⟨_,_,rfl⟩
    .exact ⟨_,_,rfl⟩
    .exact ⟨_,_,rfl⟩
    .cases h
   obtain ⟨k,nn,rfl⟩:=bb
   cases a with
   | d x=>cases x<;>first | exact ⟨c,h,id⟩ | (cases h;done)
   | ref _ _ _=>exact ⟨c,h,id⟩
   | agg _=>cases h
   | Z4 _=>cases h
   | br _ _=>cases h
   | fn _ _=>cases h
   | bm _ _=>cases h
   | dead=>cases h
   | mp _=>cases h
   | own q off n=>
   unfold lZ at h ⊢
   have hq:q≠r:=fun e=>by simp [AV.kill,e] at hf
   simp only [aL q hq]
   cases hH:H q with
   | none=>simp [hH] at h
   | some qa=>
    cases qa with
    | sl ty sz els=>simp only [hH] at h;exact ⟨c,h,id⟩
    | mp ty ents=>
     cases he:ld T t with
     | none=>simp [he] at h
     | some s=>simp [he,hH] at h
    | it ents seen=>
     cases he:ld T t with
     | none=>simp [he] at h
     | some s=>simp [he,hH] at h
    | box ty cells=>
     simp only [hH] at h
     cases he:ld T t with
     | none=>simp [he] at h
     | some s=>rw [he] at h;exact ⟨c,h,id⟩
  .cases h
 case slice t p lo hi mx=>
  simp only [rd] at h ⊢;split at h
  .rename_i hm;rw [if_pos hm];split at h
   .rename_i v l hh h1 h2 h3;have hf:=ne p v h1 (by simp [Op.operands])
    cases v with
    | d x=>cases x with
     | v x=>cases x<;>first | exact ⟨c,h,id⟩ | (cases h;done)
     | sl k els=>exact ⟨c,h,id⟩
     | _=>cases h
    | ref _ _ _=>cases h
    | agg _=>cases h
    | Z4 _=>cases h
    | br _ _=>cases h
    | fn _ _=>cases h
    | bm _ _=>cases h
    | dead=>cases h
    | mp _=>cases h
    | own q off n=>
    unfold mQ at h ⊢;dsimp only at h ⊢
    have hq:q≠r:=fun e=>by simp [AV.kill,e] at hf
    rw [aL q hq]
    cases hH:H q with
    | none=>simp [hH] at h
    | some qa=>
     cases qa with
     | sl ty sz els=>simp only [hH] at h;exact ⟨c,h,id⟩
     | mp ty ents=>simp [hH] at h
     | it ents seen=>simp [hH] at h
     | box ty cells=>simp [hH] at h
   .cases h
  .cases h
 case lookup t p i b=>
  simp only [rd] at h ⊢;split at h
  .rename_i a k ha hb;have hf:=ne p a ha (by simp [Op.operands])
   cases a with
   | mp q=>
    have hq:q≠r:=fun e=>by simp [AV.kill,e] at hf
    cases k with
    | d kx=>
     cases kx with
     | v kv=>
      simp only [ku] at h ⊢;rw [aL q hq]
      cases hH:H q with
      | none=>simp [hH] at h
      | some qa=>
       cases qa with
       | mp ty ents=>rw [hH] at h;exact ⟨c,h,id⟩
       | _=>simp [hH] at h
     | _=>simp [ku] at h
    | _=>simp [ku] at h
   | d q=>
    cases q with
    | dm x ents=>
     cases k with
     | d kx=>
      cases kx with
      | v kv=>simp only [ku] at h ⊢;exact ⟨c,h,id⟩
      | _=>simp [ku] at h
     | _=>simp [ku] at h
    | _=>simp [ku] at h
   | _=>simp [ku] at h
  .cases h
 case call cc=>
  obtain ⟨callee,args,argTypes⟩:=cc
  cases callee with
  | builtin b=>cases b<;>first | exact absurd rfl hk | (simp [rd] at h;done)
  | _=>simp [rd] at h
 all_goals first | (simp [rd] at h;done) | skip
end
end Go.Av
namespace Go.Av
def o6 (av:List (Nat×List Nat)) (i:Nat):List Nat:=(av.lookup i).getD []
def D2 (o:Op):Bool:=match o with
 | .buildSlice _ _ _=>true
 | .makeSlice _ _ _=>true
 | .alloc _=>true
 | o=>decide (kindOf o<=2)
def pb (la:List (Nat×Nat×Nat)) (av:List (Nat×List Nat)) (ops:Array Oper) (i j:Nat) (oi oj:Oper):Bool:=match la.lookup i,la.lookup j with
 | none,none=>abo ops oi oj
 | none,some (r,s)=>oi.apart ops oj && D2 oi.op && !(oi.dst == some s) && !(oi.dst == some r) && (o6 av i).contains r
 | some (r,s),some (r',s')=>oi.apart ops oj && !(r == r') && !(s == r') && !(s' == r)
 | some _,none=>false
section
variable {P:Program} {T:Ty} {Mv X:Nat->Prop} {G:ao} {N:Fr} {ops:Array Oper} {la:List (Nat×Nat×Nat)} {av:List (Nat×List Nat)}
theorem AV.y4 (r:Nat) (x:AV):(x.kill r).kill r=x.kill r:=by
 have key:∀ n,∀ x:AV,SizeOf.sizeOf x < n->(x.kill r).kill r=x.kill r:=by
  intro n
  induction n with
  | zero=>intro x h;omega
  | succ n ih=>
   intro x h
   have go:∀ l:List AV,SizeOf.sizeOf l < n->(l.map (AV.kill r)).map (AV.kill r)=l.map (AV.kill r):=by
    intro l
    induction l with
    | nil=>intro _;rfl
    | cons y l ihl=>
     intro hl;simp only [List.cons.sizeOf_spec] at hl;simp only [List.map_cons,List.cons.injEq];exact ⟨ih y (by omega),ihl (by omega)⟩
   cases x with
   | d x=>simp [AV.kill]
   | own q off n=>by_cases h1:q=r<;>simp [AV.kill,h1]
   | ref q e j=>by_cases h1:q=r<;>simp [AV.kill,h1]
   | agg cells=>simp at h;simp only [AV.kill,AV.go_eq];rw [go cells (by omega)]
   | Z4 cells=>simp at h;simp only [AV.kill,AV.go_eq];rw [go cells (by omega)]
   | br t x=>simp at h;simp only [AV.kill];rw [ih x (by omega)]
   | bm t x=>simp at h;simp only [AV.kill];rw [ih x (by omega)]
   | fn f cells=>simp at h;simp only [AV.kill,AV.go_eq];rw [go cells (by omega)]
   | mp q=>by_cases h1:q=r<;>simp [AV.kill,h1]
   | dead=>simp [AV.kill]
 exact key _ x (Nat.lt_succ_self _)
theorem Row.y4 (r:Nat) (x:Row):(x.kill r).kill r=x.kill r:=by
 cases x with
 | sl ty sz els=>rfl
 | mp ty ents=>rfl
 | it ents seen=>rfl
 | box ty cells=>
  simp only [Row.kill,List.map_map];congr 1;apply List.map_congr_left;intro x _;exact AV.y4 r x
theorem Nx {e:Env} {H:Heap} {r ty sz:Nat} {els:List (List D)} (d:Tmp) (hm:Mv r):Z1 Mv X G N ⟨eF (cF r e) d (.own r 0 els.length),aJ (cG r H) r (.sl ty sz els)⟩ ⟨eF (cF r e) d (.d (.sl none els)),aJ (cG r H) r (.sl ty sz [])⟩:=fun w μ a hi=>by
 have hr:aJ (cG r H) r (.sl ty sz els) r=some (.sl ty sz els):=by simp [aJ]
 have oF:(fun q=>if q=r then none else μ q)=bF (aa1 r) μ:=by
  funext q;unfold bF aa1;by_cases h:q=r<;>simp [h]
 have ev:Ev Mv w μ w (bF (aa1 r) μ):=qD fun q _ _ hq=>by
  have e:q=r:=by simpa [aa1] using hq
  exact e ▸ hm
 have aL:∀ q,q≠r->bF (aa1 r) μ q=μ q:=fun q hq=>by simp [bF,aa1,hq]
 have hX:∀ b,XX X (bF (aa1 r) μ) b->XX X μ b:=fun b=>uz
 have h1:In w X G (bF (aa1 r) μ) N a ⟨eF (cF r e) d (.d (.sl none els)),fun q=>if q=r then none else cG r H q⟩:=by
  refine ⟨⟨fun q row hq=>?_,fun q m hq=>?_,fun q q' m1 m2 b h1 h2 c6 ey=>hi.aS.inj q q' m1 m2 b (abh h1).2 (abh h2).2 c6 ey,fun q mq b hq hb=>hi.aS.frame q mq b (abh hq).2 hb,hi.aS.fits⟩,
   ⟨hi.env.defers,hi.env.size,fun i x hx=>?_⟩,fun g x hx=>(hi.fV g x hx).sub hX⟩
  .dsimp only at hq;split at hq
   .cases hq
   .rename_i yL;obtain ⟨m,vG,ok⟩:=hi.aS.rows q row (by simpa [aJ,yL] using hq);obtain ⟨acq,_,rfl⟩:=Option.map_eq_some_iff.1 (show (H q).map (Row.kill r)=some row from hq);refine ⟨m,by rw [aL q yL];exact vG,?_⟩;have:=gS.keep ev aL (fun _ _=>rfl) ok
    rwa [Row.y4] at this
  .obtain ⟨hk,vG⟩:=abh hq
   have yL:q≠r:=by simpa [aa1] using hk
   obtain ⟨row,cz⟩:=hi.aS.dom q m vG;exact ⟨row,by simpa [aJ,yL] using cz⟩
  .simp only [eF] at hx;split at hx
   .rename_i hid;subst hid;obtain rfl:=Option.some.inj hx;obtain ⟨u,hu,e9⟩:=hi.env.slot i (.own r 0 els.length) (by simp [eF]);refine ⟨u,hu,?_⟩;obtain ⟨k,hk,_⟩:=zA hi.aS hr (by omega) e9;rw [oF] at hk;have:=RV.d (w:=w) (μ:=bF (aa1 r) μ) hk.mR;simpa using this
   .rename_i hid;obtain ⟨x0,h0,rfl⟩:=Option.map_eq_some_iff.1 (show (e i).map (AV.kill r)=some x from hx);obtain ⟨u,hu,e9⟩:=hi.env.slot i (x0.kill r) (by simp [eF,hid,cF,h0]);refine ⟨u,hu,?_⟩;have:=RV.keep ev aL e9
    rwa [AV.y4] at this
 obtain ⟨aC,qC⟩:=h1.alloc (Mv:=Mv) (d:=r) (w':=w) (m:=⟨none,sz,0⟩) (by simp) (bU.refl w) (by simp) (row:=.sl ty sz []) fun _=>.nil rfl rfl
 have hH:aJ (fun q=>if q=r then none else cG r H q) r (.sl ty sz [])=aJ (cG r H) r (.sl ty sz []):=by
  funext q;by_cases h:q=r<;>simp [aJ,h]
 refine ⟨_,?_,ev.trans qC⟩;rw [<- hH];exact aC
def Fin (Mv:Nat->Prop) (r m:Nat) (row:Row) (y:AV) (fb:Row):Prop:=
 (y = .own r 0 m/\fb=row)\/(Mv r/\∃ ty sz els,row = .sl ty sz els/\m=els.length/\y = .d (.sl none els)/\fb = .sl ty sz [])
theorem Fin.row {r m:Nat} {row fb:Row} {y:AV} (h:Fin Mv r m row y fb) (cz:∃ ty sz els,row = .sl ty sz els):∃ ty sz els,fb = .sl ty sz els:=by
 rcases h with ⟨_,rfl⟩ | ⟨_,ty,sz,els,_,_,_,rfl⟩
 .exact cz
 .exact ⟨_,_,_,rfl⟩
theorem Fin.kill {r m q:Nat} {row fb:Row} {y:AV} (h:Fin Mv r m row y fb) (hq:r≠q):y.kill q=y:=by
 rcases h with ⟨rfl,_⟩ | ⟨_,ty,sz,els,_,_,rfl,_⟩
 .simp [AV.kill,hq]
 .rfl
def o5 (P:Program) (T:Ty) (Mv:Nat->Prop) (G:ao) (N:Fr) (la:List (Nat×Nat×Nat)) (av:List (Nat×List Nat)) (i:Nat) (o:Oper) (σ ar:St):Prop:=
 eQ N o/\o.guard=none/\match la.lookup i with
  | some (r,s)=>∃ m row y fb,abk T G Mv o σ.env σ.H r s m row/\Fin Mv r m row y fb/\ar=⟨Z2 (cF r σ.env) o.dst y,aJ (cG r σ.H) r fb⟩
  | none=>kindOf o.op≠9/\∃ x H',Ex P T Mv G o σ.env σ.H x H'/\ar=⟨Z2 σ.env o.dst x,H'⟩/\(∀ r∈o6 av i,Ay r o σ.env x)/\(o6 av i≠[]->∀ c,cr o.op=some c->∃ y g ds,tgt G σ.env c=some (g,ds.map .d)/\aw P G g ds y/\x = .d y)
theorem o5.step {i:Nat} {o:Oper} {σ ar:St} (h:o5 P T Mv G N la av i o σ ar):∃ E9,adK P T Mv G N ops o σ E9/\Z1 Mv X G N E9 ar:=by
 obtain ⟨hd,hg,h⟩:=h;split at h
 .obtain ⟨m,row,y,fb,h1,hf,rfl⟩:=h;refine ⟨_,⟨hd,.inl ⟨af8 hg,h1.to⟩⟩,?_⟩
  rcases hf with ⟨rfl,rfl⟩ | ⟨hm,ty,sz,els,rfl,rfl,rfl,rfl⟩
  .exact .refl _
  .obtain ⟨_,_,d,qT⟩:=h1.row;rw [qT];exact Nx d hm
 .obtain ⟨_,x,H',h1,rfl,_⟩:=h;exact ⟨_,⟨hd,.inl ⟨af8 hg,h1.to⟩⟩,.refl _⟩
theorem Ex.newRow {o:Oper} (hk:¬ kindOf o.op<=2) (ho:D2 o.op=true) {e:Env} {H H':Heap} {x:AV} (h:Ex P T Mv G o e H x H'):∃ d row,o.dst=some d/\H d=none/\H'=aJ H d row/\(∀ q,row.kill q=row)/\∀ H2,H2 d=none->Ex P T Mv G o e H2 x (aJ H2 d row):=by
 obtain ⟨dst,op,type,pos,after,guard⟩:=o;dsimp only at hk ho;unfold Ex at h;unfold Ex
 cases op<;>simp only [D2,decide_eq_true_eq] at ho<;>first | exact absurd ho hk | skip
 case alloc t=>
  simp only [cr,aaU,if_true] at h ⊢;obtain ⟨c,h1,h2⟩:=h
  cases dst with
  | none=>cases h1
  | some d=>
   simp only [wr] at h1 ⊢;split at h1
   .rename_i ti C3;simp only [Option.some.injEq,Prod.mk.injEq,St.mk.injEq,true_and] at h1;obtain ⟨rfl,rfl,rfl⟩:=h1;exact ⟨d,_,rfl,h2,rfl,fun q=>by simp [Row.kill,eV,AV.kill],fun H2 h=>⟨_,rfl,h⟩⟩
   .cases h1
 case makeSlice t y z=>
  simp only [cr,aaU,if_true] at h ⊢;obtain ⟨c,h1,h2⟩:=h
  cases dst with
  | none=>cases h1
  | some d=>
   simp only [wr] at h1 ⊢;split at h1
   .split at h1
    .split at h1
     .simp only [Option.some.injEq,Prod.mk.injEq,St.mk.injEq,true_and] at h1;obtain ⟨rfl,rfl,rfl⟩:=h1;exact ⟨d,_,rfl,h2.1,rfl,fun _=>rfl,fun H2 h=>⟨_,rfl,h,h2.2⟩⟩
     .cases h1
    .cases h1
   .cases h1
 case buildSlice t n ps=>
  simp only [cr,aaU,if_true] at h ⊢;obtain ⟨c,h1,h2⟩:=h
  cases dst with
  | none=>cases h1
  | some d=>
   simp only [wr] at h1 ⊢;split at h1
   .split at h1
    .split at h1
     .split at h1
      .simp only [Option.some.injEq,Prod.mk.injEq,St.mk.injEq,true_and] at h1;obtain ⟨rfl,rfl,rfl⟩:=h1;exact ⟨d,_,rfl,h2.1,rfl,fun _=>rfl,fun H2 h=>⟨_,rfl,h,h2.2⟩⟩
      .cases h1
     .cases h1
    .cases h1
   .cases h1
theorem Ik {r q off n:Nat} {z:AV} (h:z.kill r = .own q off n):z = .own q off n:=by
 cases z<;>simp only [AV.kill,reduceCtorEq] at h
 .split at h
  .cases h
  .exact h
 .split at h<;>cases h
 .split at h<;>cases h
theorem RH {r:Nat} {x:D} {z:AV} (h:z.kill r = .d x):z = .d x:=by
 cases z<;>simp only [AV.kill,reduceCtorEq] at h
 .exact h
 .split at h<;>cases h
 .split at h<;>cases h
 .split at h<;>cases h
theorem zo {H:Heap} {r:Nat} {v:AV} {l:List (List D)} (h:ji H r v=some l):(∃ x,v = .d x)\/∃ q off n,v = .own q off n:=by
 unfold ji at h;split at h
 .exact .inl ⟨_,rfl⟩
 .exact .inr ⟨_,_,_,rfl⟩
 .cases h
theorem AH {r:Nat} {e:Env} {p:Operand}:bd G (cF r e) p=(bd G e p).map (AV.kill r):=by
 cases p with
 | tmp t=>rfl
 | const k=>simp only [bd,Option.map_some];unfold eV;split<;>rfl
 | global g=>simp only [bd,Option.map_map];rfl
 | func f=>rfl
theorem abk.Xx {o:Oper} {e:Env} {H H2:Heap} {r s m q:Nat} {row:Row} (h:abk T G Mv o (cF q e) H r s m row) (hr:H2 r=H r) (hs:H2 s=H s):abk T G Mv o e H2 r s m row:=by
 obtain ⟨x,y,off,n,v,ty,sz,els,news,c,h1,h2,h3,h4,h5,h6,h7,h8⟩:=h;rw [AH] at h2 h3;obtain ⟨z1,tm,e1⟩:=Option.map_eq_some_iff.1 h2;obtain ⟨z2,hz2,e2⟩:=Option.map_eq_some_iff.1 h3;have:=Ik e1;subst this
 have hz:z2=v:=by
  rcases zo h6 with ⟨x,rfl⟩ | ⟨_,_,_,rfl⟩
  .exact RH e2
  .exact Ik e2
 subst hz;exact ⟨x,y,off,n,z2,ty,sz,els,news,c,h1,tm,hz2,h4,by rw [hr];exact h5,by rw [I4 h4 hs];exact h6,h7,h8⟩
theorem abk.VK {o:Oper} {e:Env} {H H2:Heap} {r s m q:Nat} {row:Row} (h:abk T G Mv o e H r s m row) (hq:r≠q) (hq':s≠q) (hr:H2 r=H r) (hs:∀ ty sz els,H s=some (.sl ty sz els)->H2 s=H s):abk T G Mv o (cF q e) H2 r s m row:=by
 obtain ⟨x,y,off,n,v,ty,sz,els,news,c,h1,h2,h3,h4,h5,h6,h7,h8⟩:=h;refine ⟨x,y,off,n,v,ty,sz,els,news,c,h1,by rw [AH,h2];simp [AV.kill,hq],?_,h4,by rw [hr];exact h5,?_,h7,h8⟩
 .rw [AH,h3]
  rcases zo h6 with ⟨x,rfl⟩ | ⟨q',_,_,rfl⟩
  .rfl
  .simp only [ada] at h4;subst h4;simp [AV.kill,hq']
 .rcases zo h6 with ⟨x,rfl⟩ | ⟨q',UO,n',rfl⟩
  .cases x<;>first | exact h6 | cases h6
  .simp only [ada] at h4;subst h4;simp only [ji] at h6 ⊢;split at h6
   .cases h6
   .rename_i aL;rw [if_neg aL];split at h6
    .rename_i ty' Ac kf hH;rw [hs _ _ _ hH,hH];exact h6
    .cases h6
theorem HO {H:Heap} {r d:Nat} {a b:Row} (h:d≠r):aJ (aJ H r a) d b=aJ (aJ H d b) r a:=by
 funext i;by_cases h1:i=d<;>by_cases h2:i=r<;>simp [aJ,h1,h2,h,Ne.symm h]
theorem Dm {H:Heap} {r d:Nat} {b:Row} (hb:b.kill r=b):cG r (aJ H d b)=aJ (cG r H) d b:=by
 funext i;by_cases h1:i=d<;>simp [aJ,cG,h1,hb]
theorem AJ {o:Oper} {e e':Env} {r:Nat} (h:∀ t,Operand.tmp t∈o.op.operands->e' t=e t) (ha:fg o.op e (cF r e)):fg o.op e' (cF r e'):=fun t ht=>by
 have h1:=ha t ht;simp only [cF] at h1 ⊢;rw [h t ht];exact h1
theorem SA {i j:Nat} {oi oj:Oper} (hc:pb la av ops i j oi oj=true) {σ aH eu:St} (h1:o5 P T Mv G N la av i oi σ aH) (h2:o5 P T Mv G N la av j oj aH eu) :
  ∃ eT,o5 P T Mv G N la av j oj σ eT/\o5 P T Mv G N la av i oi eT eu:=by
 obtain ⟨di,gi,h1⟩:=h1;obtain ⟨dj,gj,h2⟩:=h2;obtain ⟨e,H⟩:=σ
 cases hli:la.lookup i with
 | none=>
  simp only [hli] at h1;obtain ⟨ki,x,H1,jr,rfl,rQ,cd1⟩:=h1
  cases hlj:la.lookup j with
  | none=>
   simp only [hlj] at h2;obtain ⟨kj,y,H2,N5,rfl,zw,MN⟩:=h2;simp only [pb,hli,hlj] at hc;obtain ⟨H3,f1,f2⟩:=adN hc (x:=x) (y:=y) (e:=e) (H:=H) ⟨di,.inl ⟨af8 gi,jr⟩⟩ ⟨dj,.inl ⟨af8 gj,N5⟩⟩ ki kj
   have ej:Ex P T Mv G oj e H y H3:=by
    rcases f1.2 with ⟨_,h⟩ | ⟨h,_⟩
    .exact h
    .rw [af8 gj] at h;cases h
   have ei:Ex P T Mv G oi (Z2 e oj.dst y) H3 x H2:=by
    rcases f2.2 with ⟨_,h⟩ | ⟨h,_⟩
    .exact h
    .rw [af8 gi] at h;cases h
   simp only [abo,Bool.and_eq_true] at hc;obtain ⟨a1,_,aL⟩:=abn hc.1 (e:=e) (v:=x);obtain ⟨_,a2,_⟩:=abn hc.1 (e:=e) (v:=y);refine ⟨⟨Z2 e oj.dst y,H3⟩,⟨dj,gj,?_⟩,⟨di,gi,?_⟩⟩
   .simp only [hlj];refine ⟨kj,y,H3,ej,rfl,fun r hr=>⟨AJ (e:=Z2 e oi.dst x) (fun t ht=>(a1 t (il ht)).symm) (zw r hr).1,(zw r hr).2⟩,fun ha c hcc=>?_⟩;obtain ⟨y',g,ds,ht,hp⟩:=MN ha c hcc;exact ⟨y',g,ds,by rw [<- ht];exact ud fun t ht=>(a1 t (il (by rw [(pQ hcc).1];exact ht))).symm,hp⟩
   .simp only [hli];refine ⟨ki,x,H2,ei,by rw [fm aL],fun r hr=>⟨AJ (e:=e) (fun t ht=>a2 t (il ht)) (rQ r hr).1,(rQ r hr).2⟩,fun ha c hcc=>?_⟩;obtain ⟨y',g,ds,ht,hp⟩:=cd1 ha c hcc;exact ⟨y',g,ds,by rw [<- ht];exact ud fun t ht=>a2 t (il (by rw [(pQ hcc).1];exact ht)),hp⟩
  | some rs=>
   obtain ⟨r,s⟩:=rs;simp only [hlj] at h2;obtain ⟨m,row,yr,fb,app,fin,rfl⟩:=h2;simp only [pb,hli,hlj,Bool.and_eq_true,Bool.not_eq_true',beq_eq_false_iff_ne,List.contains_iff_mem] at hc;obtain ⟨⟨⟨⟨eJ,hok⟩,hs⟩,hr⟩,G3⟩:=hc;obtain ⟨yn,hx⟩:=rQ r G3;obtain ⟨a1,_,aL⟩:=abn eJ (e:=e) (v:=x);obtain ⟨_,a2,_⟩:=abn eJ (e:=cF r e) (v:=yr);obtain ⟨adD,yf,_⟩:=app.row;have cz:=fin.row adD;have dV:fg oj.op (Z2 e oi.dst x) e:=fun t ht=>a1 t (il ht);have e3:∀ t,Operand.tmp t∈oi.op.operands->(Z2 (cF r e) oj.dst (yr)) t=e t:=fun t ht=>(a2 t (il ht)).trans (yn t ht).symm
   have main:abk T G Mv oj e H r s m row/\∃ H2,Ex P T Mv G oi e (aJ (cG r H) r fb) x H2/\H2=aJ (cG r H1) r fb:=by
    by_cases eM:kindOf oi.op<=2
    .have:=jr.keeps eM;subst this;refine ⟨app.congr dV rfl rfl,_,?_,rfl⟩
     cases dA:cr oi.op with
     | some c=>
      obtain ⟨y,g,ds,ht,hp,rfl⟩:=cd1 (List.ne_nil_of_mem G3) c dA;unfold Ex;simp only [dA];exact ⟨y,⟨g,_,ht,.inl ⟨ds,rfl,hp⟩⟩,rfl,trivial⟩
     | none=>
      unfold Ex at jr ⊢;simp only [dA] at jr ⊢
      have hw:¬ aaU oi.op=true:=fun hw=>by rcases yZ hw with h | h | h<;>omega
      rw [if_neg hw] at jr ⊢;obtain ⟨c,bz,hcc,_⟩:=jr;obtain ⟨c',h',da⟩:=VB cz bz ⟨yn,hx⟩;exact ⟨c',h',da hcc,trivial⟩
    .obtain ⟨d,qa,hd,hn,rfl,hk0,bx⟩:=jr.newRow eM hok;have iY:d≠r:=fun e=>hr (by rw [hd,e]);have iZ:d≠s:=fun e=>hs (by rw [hd,e]);refine ⟨app.congr dV (by simp [aJ,Ne.symm iY]) (by simp [aJ,Ne.symm iZ]),_,bx _ (by simp [aJ,iY,cG,hn]),?_⟩;rw [Dm (hk0 r),HO iY]
   obtain ⟨xq,H2,N4,rfl⟩:=main;refine ⟨⟨Z2 (cF r e) oj.dst (yr),aJ (cG r H) r fb⟩,⟨dj,gj,?_⟩,⟨di,gi,?_⟩⟩
   .simp only [hlj];exact ⟨m,row,yr,fb,xq,fin,rfl⟩
   .simp only [hli];refine ⟨ki,x,_,N4.congr ki fun t ht=>(e3 t ht).symm,?_,fun q hq=>⟨AJ e3 (rQ q hq).1,(rQ q hq).2⟩,fun ha c hcc=>?_⟩
    .rw [y3,hx,fm aL]
    .obtain ⟨y',g,ds,ht,hp⟩:=cd1 ha c hcc;exact ⟨y',g,ds,by rw [<- ht];exact ud fun t ht=>e3 t (by rw [(pQ hcc).1];exact ht),hp⟩
 | some rs=>
  obtain ⟨r,s⟩:=rs;simp only [hli] at h1;obtain ⟨m,row,y1,YW,app,fin,rfl⟩:=h1
  cases hlj:la.lookup j with
  | none=>simp [pb,hli,hlj] at hc
  | some Wd=>
   obtain ⟨r',s'⟩:=Wd;simp only [hlj] at h2;obtain ⟨m',fb,y2,YX,xq,Bs,rfl⟩:=h2;simp only [pb,hli,hlj,Bool.and_eq_true,Bool.not_eq_true',beq_eq_false_iff_ne] at hc;obtain ⟨⟨⟨eJ,hrr⟩,hs⟩,hs'⟩:=hc;obtain ⟨a1,_,aL⟩:=abn eJ (e:=cF r e) (v:=y1);obtain ⟨_,a2,_⟩:=abn eJ (e:=cF r' e) (v:=y2);obtain ⟨⟨ty1,KU,Gd,rfl⟩,⟨t1,z1,l1,yf⟩,_⟩:=app.row;obtain ⟨⟨EV,EN,mo,rfl⟩,⟨t2,z2,l2,OK⟩,_⟩:=xq.row;obtain ⟨ty3,W8,NC,rfl⟩:=fin.row ⟨_,_,_,rfl⟩;obtain ⟨Af,EO,Bl,rfl⟩:=Bs.row ⟨_,_,_,rfl⟩
   have Hp:∀ q,q≠r->∀ ty sz els,(cG r H) q=some (.sl ty sz els)->H q=some (.sl ty sz els):=by
    intro q _ ty sz els hq;obtain ⟨acq,h0,he⟩:=Option.map_eq_some_iff.1 hq
    cases acq with
    | sl _ _ _=>rw [h0];exact congrArg some he
    | box _ _=>cases he
    | mp _ _=>cases he
    | it _ _=>cases he
   have od:H r'=some (.sl t2 z2 l2):=Hp r' (Ne.symm hrr) _ _ _ (by simpa [aJ,Ne.symm hrr] using OK);have p1:abk T G Mv oj (cF r e) (aJ (cG r H) r (.sl ty3 W8 NC)) r' s' m' (.sl EV EN mo):=xq.congr (fun t ht=>a1 t (il ht)) rfl rfl
   have p2:abk T G Mv oj e H r' s' m' (.sl EV EN mo):=by
    obtain ⟨x,y,off,n,v,ty,sz,els,news,c,g1,g2,g3,g4,g5,g6,g7,g8⟩:=p1
    have QB:ji H r' v=some news:=by
     rcases zo g6 with ⟨x,rfl⟩ | ⟨q',UO,n',rfl⟩
     .cases x<;>first | exact g6 | cases g6
     .simp only [ada] at g4;subst g4;simp only [ji] at g6 ⊢;split at g6
      .cases g6
      .rename_i hq;rw [if_neg hq];split at g6
       .rename_i ty' Ac kf e8;have:H q'=some (.sl ty' Ac kf):=Hp q' hs' _ _ _ (by simpa [aJ,hs'] using e8);rw [this];exact g6
       .cases g6
    have:abk T G Mv oj (cF r e) H r' s' m' (.sl EV EN mo):=⟨x,y,off,n,v,ty,sz,els,news,c,g1,g2,g3,g4,by rw [od];simpa [aJ,Ne.symm hrr,cG,od,Row.kill] using g5,QB,g7,g8⟩;exact this.Xx rfl rfl
   have q1:abk T G Mv oi (cF r' e) (aJ (cG r' H) r' (.sl Af EO Bl)) r s m (.sl ty1 KU Gd):=by
    refine app.VK hrr hs ?_ fun ty sz els hh=>?_
    .simp [aJ,hrr,cG,yf,Row.kill]
    .simp [aJ,hs,cG,hh,Row.kill]
   have q2:abk T G Mv oi (Z2 (cF r' e) oj.dst y2) (aJ (cG r' H) r' (.sl Af EO Bl)) r s m (.sl ty1 KU Gd):=q1.congr (fun t ht=>(a2 t (il ht)).symm) rfl rfl;refine ⟨⟨Z2 (cF r' e) oj.dst y2,aJ (cG r' H) r' (.sl Af EO Bl)⟩,⟨dj,gj,?_⟩,⟨di,gi,?_⟩⟩
   .simp only [hlj];exact ⟨m',_,y2,_,p2,Bs,rfl⟩
   .simp only [hli];refine ⟨m,_,y1,_,q2,fin,?_⟩;have k1:AV.kill r' y1=y1:=fin.kill hrr;have k2:AV.kill r y2=y2:=Bs.kill (Ne.symm hrr);rw [y3,y3,k1,k2,afK r' r,fm aL,Dm rfl,Dm rfl,RG r' r,HO hrr]
def tV (P:Program) (T:Ty) (Mv:Nat->Prop) (G:ao) (N:Fr) (la:List (Nat×Nat×Nat)) (av:List (Nat×List Nat)) (ops:Array Oper):List Nat->St->St->Prop
 | [],σ,ar=>σ=ar
 | i :: l,σ,ar=>∃ o,ops[i]? = some o/\∃ aH,o5 P T Mv G N la av i o σ aH/\tV P T Mv G N la av ops l aH ar
theorem Wh {p:Nat} {op:Oper} (hp:ops[p]? = some op):∀ (l1:List Nat) {l2:List Nat} {σ ar:St},(∀ q∈l1,∀ oq,ops[q]? = some oq->pb la av ops q p oq op=true)->tV P T Mv G N la av ops (l1 ++ p :: l2) σ ar->tV P T Mv G N la av ops (p :: (l1 ++ l2)) σ ar:=by
 intro l1
 induction l1 with
 | nil=>intro l2 σ ar _ h;exact h
 | cons q l1 ih=>
  intro l2 σ ar bx h;obtain ⟨oq,hq,aH,s1,rest⟩:=h;obtain ⟨o',eB,eu,s2,oW⟩:=ih (fun q' hq'=>bx q' (by simp [hq'])) rest;rw [hp] at eB;obtain rfl:=Option.some.inj eB;obtain ⟨eT,f1,f2⟩:=SA (bx q (by simp) oq hq) s1 s2;exact ⟨op,hp,eT,f1,oq,hq,eu,f2,oW⟩
def tM (la:List (Nat×Nat×Nat)) (av:List (Nat×List Nat)) (ord:List Nat) (ops:Array Oper):Bool:=
 let t:=tb ops
 ord.length == ops.size && (ord.all fun i=>decide (i < ops.size)) && ((List.range ops.size).all fun i=>ord.contains i) && decide ord.Nodup &&
 ((List.range ops.size).all fun j=>match ops[j]? with
  | some oj=>oj.after.all fun e=>!Region.binds .any e || e.on < j
  | none=>true) &&
 go t ord
where
 go (t:List Nat):List Nat->Bool
 | []=>true
 | a :: l=>(l.all fun b=>match ops[a]?,ops[b]? with
  | some oa,some ob=>(oa.after.all fun e=>!Region.binds .any e || !(e.on == b)) && ((t.getD b 0).testBit a || pb la av ops a b oa ob)
  | _,_=>true) && go t l
def AB (la:List (Nat×Nat×Nat)) (av:List (Nat×List Nat)) (ops:Array Oper) (a b:Nat):Prop:=∀ oa ob,ops[a]? = some oa->ops[b]? = some ob->
 (∀ e∈oa.after,Region.binds .any e=true->e.on≠b)/\(((tb ops).getD b 0).testBit a=true\/pb la av ops a b oa ob=true)
theorem Jq:∀ {l:List Nat},tM.go la av ops (tb ops) l=true->l.Pairwise (AB la av ops)
 | [],_=>.nil
 | a :: l,h=>by
  simp only [tM.go,Bool.and_eq_true] at h;refine .cons (fun b hb oa ob oH mB=>?_) (Jq h.2);have:=List.all_eq_true.1 h.1 b hb;simp only [oH,mB,Bool.and_eq_true,Bool.or_eq_true] at this;refine ⟨fun e he hbi heq=>?_,this.2⟩;have h1:=Array.all_eq_true_iff_forall_mem.1 this.1 e he;simp [hbi,heq] at h1
theorem uF (ax:∀ j oj,ops[j]? = some oj->∀ e∈oj.after,Region.binds .any e=true->e.on < j) {listed:Array Bool} (abR:∀ j oj,ops[j]? = some oj->listed.getD j false=true->∀ e∈oj.after,Region.binds .any e=true->listed.getD e.on false=true) :
  ∀ (n j:Nat) (oj:Oper),j<=n->ops[j]? = some oj->(∀ e∈oj.after,Region.binds .any e=true->listed.getD e.on false=true)->∀ q,((tb ops).getD j 0).testBit q=true->listed.getD q false=true:=by
 intro n
 induction n with
 | zero=>
  intro j oj hj bq bx q hq
  have jd:j=0:=by omega
  subst jd;obtain ⟨e,he,hb,_⟩:=xe ops.toList [] 0 oj q (by simpa using bq) (by simpa [tb] using hq);have:=ax 0 oj bq e he hb;omega
 | succ n ih=>
  intro j oj hj bq bx q hq;obtain ⟨e,he,hb,r⟩:=xe ops.toList [] j oj q (by simpa using bq) (by simpa [tb] using hq)
  rcases r with rfl | ⟨_,r⟩
  .exact bx e he hb
  .have CB:=ax j oj bq e he hb
   have aaq:e.on < ops.size:=by have:=(Array.getElem?_eq_some_iff.1 bq).1;omega
   exact ih e.on ops[e.on] (by omega) (by simp [aaq]) (fun e' gJ aO=>abR e.on _ (by simp [aaq]) (bx e he hb) e' gJ aO) q (by simpa [tb] using r)
theorem LX (hg:Good P T) (ax:∀ j oj,ops[j]? = some oj->∀ e∈oj.after,Region.binds .any e=true->e.on < j) {Q:Exit->St->Prop} {w0:World} {fT:Mu} {bp:St} (hQ:Q .normal bp):∀ (n:Nat) (R:List Nat) (listed:Array Bool) (w:World) (μ:Mu) (a:Act) (σ:St),R.length=n->R.Nodup->
  (∀ j,j∈R↔j < ops.size/\listed.getD j true=false)->listed.size=ops.size->R.Pairwise (AB la av ops)->
  (∀ j oj,ops[j]? = some oj->listed.getD j false=true->∀ e∈oj.after,Region.binds .any e=true->listed.getD e.on false=true)->tV P T Mv G N la av ops R σ bp->In w X G μ N a σ->Ev Mv w0 fT w μ->
  wpAnyIn (wd N.ro) 0 P .any ops (After Mv X G N w0 fT Q) n listed a w:=by
 intro n
 induction n with
 | zero=>
  intro R listed w μ a σ hl _ hR aI _ _ bK hi aG;have:R=[]:=List.eq_nil_of_length_eq_zero hl;subst this
  have hr:Region.ready .any ops listed=[]:=by
   apply List.eq_nil_iff_forall_not_mem.2;intro j hj;obtain ⟨h1,o,ho,_⟩:=mem_ready.1 hj;exact absurd ((hR j).2 ⟨(Array.getElem?_eq_some_iff.1 ho).1,h1⟩) (by simp)
  have:σ=bp:=bK;subst this;exact ⟨hr,μ,σ,hQ,hi,aG⟩
 | succ n ih=>
  intro R listed w μ a σ hl eY hR aI hpw abR bK hi aG;refine ⟨fun hr=>?_,fun i my=>?_⟩
  .cases R with
   | nil=>simp at hl
   | cons j R=>
    obtain ⟨hj1,hC⟩:=(hR j).1 (by simp)
    have bq:ops[j]? = some ops[j]:=by simp [hj1]
    have jw:j∈Region.ready .any ops listed:=by
     refine mem_ready.2 ⟨hC,ops[j],bq,fun e he hb=>?_⟩;have pG:=ax j ops[j] bq e he hb
     have aaq:e.on < ops.size:=by omega
     have aL:e.on ∉ (j :: R):=by
      intro hm
      rcases List.mem_cons.1 hm with h | h
      .omega
      .exact ((List.pairwise_cons.1 hpw).1 _ h ops[j] ops[e.on] bq (by simp [aaq])).1 e he hb rfl
     have:=mt (hR e.on).2 aL
     have gL:e.on < listed.size:=by omega
     simp only [aaq,true_and,Array.getD_eq_getD_getElem?] at this ⊢;simp [gL] at this ⊢;exact this
    rw [hr] at jw;cases jw
  .obtain ⟨hi1,oi,hoi,bx⟩:=mem_ready.1 my;have mv:i∈R:=(hR i).2 ⟨(Array.getElem?_eq_some_iff.1 hoi).1,hi1⟩;obtain ⟨R1,R2,rfl⟩:=List.append_of_mem mv
   have mu:=Wh (P:=P) (T:=T) (Mv:=Mv) (G:=G) (N:=N) (la:=la) (av:=av) hoi R1 (fun q hq oq jA=>by
    have oI:AB la av ops q i:=(List.pairwise_append.1 hpw).2.2 q hq i (by simp)
    rcases (oI oq oi jA hoi).2 with h | h
    .exfalso;have jx:=uF ax abR i i oi (Nat.le_refl _) hoi bx q h;have e8:=((hR q).1 (by simp [hq])).2
     have mD:q < listed.size:=by have:=(Array.getElem?_eq_some_iff.1 jA).1;omega
     simp [Array.getD_eq_getD_getElem?,mD] at jx e8;rw [jx] at e8;cases e8
    .exact h) bK
   obtain ⟨o',eB,aH,hstep,b5⟩:=mu;rw [hoi] at eB;obtain rfl:=Option.some.inj eB;obtain ⟨E9,hs0,himp⟩:=hstep.step (ops:=ops) (X:=X);refine ad8 hg hs0 hi hoi fun w' X7 a' P7 PV=>?_;obtain ⟨au,aC,Ci⟩:=himp w' X7 a' P7;have iz:=PV.trans Ci
   have mz:(R1 ++ R2).Nodup:=by
    have:=eY;rw [List.nodup_append] at this ⊢;obtain ⟨g1,g2,g3⟩:=this;exact ⟨g1,(List.nodup_cons.1 g2).2,fun x hx y hy=>g3 x hx y (by simp [hy])⟩
   have mw:i ∉ R1 ++ R2:=by
    have:=eY;rw [List.nodup_append] at this;obtain ⟨g1,g2,g3⟩:=this;intro hm
    rcases List.mem_append.1 hm with h | h
    .exact g3 i h i (by simp) rfl
    .exact (List.nodup_cons.1 g2).1 h
   refine ih (R1 ++ R2) _ w' au a' aH (by simp at hl ⊢;omega) mz (fun j=>?_) (by simpa using aI) ?_ ?_ b5 aC (aG.trans iz)
   .by_cases hji:j=i
    .subst hji
     have gL:j < listed.size:=by rw [aI];exact (Array.getElem?_eq_some_iff.1 hoi).1
     simp [gL];simpa using mw
    .rw [getD_set_ne true (Ne.symm hji)];rw [<- hR j];simp [hji]
   .rw [List.pairwise_append] at hpw ⊢;obtain ⟨g1,g2,g3⟩:=hpw;exact ⟨g1,(List.pairwise_cons.1 g2).2,fun x hx y hy=>g3 x hx y (by simp [hy])⟩
   .intro j oj bq hlj e he hb;by_cases hji:j=i
    .subst hji;rw [hoi] at bq;obtain rfl:=Option.some.inj bq;exact getD_set_true (bx e he hb)
    .rw [getD_set_ne false (Ne.symm hji)] at hlj;exact getD_set_true (abR j oj bq hlj e he hb)
def rR (r:Nat) (e:Env):List Operand->Prop
 | []=>True
 | .tmp t :: l=>(e t).map (AV.kill r)=e t/\rR r e l
 | _ :: l=>rR r e l
theorem D1 {r:Nat} {e:Env}:∀ {l:List Operand},rR r e l->∀ t,Operand.tmp t∈l->e t=cF r e t
 | [],_,t,ht=>by cases ht
 | p :: l,h,t,ht=>by
  cases p with
  | tmp u=>
   simp only [rR] at h
   rcases List.mem_cons.1 ht with h1 | h1
   .cases h1;exact h.1.symm
   .exact D1 h.2 t h1
  | _=>
   simp only [rR] at h
   rcases List.mem_cons.1 ht with h1 | h1
   .cases h1
   .exact D1 h t h1
def adr (rs:List Nat) (ps:List Operand) (e:Env) (x:AV):Prop:=match rs with
 | []=>True
 | r :: rs=>(rR r e ps/\x.kill r=x)/\adr rs ps e x
theorem zx {o:Oper} {e:Env} {x:AV}:∀ {rs:List Nat},adr rs o.op.operands.toList e x->∀ r∈rs,Ay r o e x
 | [],_,r,hr=>by cases hr
 | q :: rs,h,r,hr=>by
  simp only [adr] at h
  rcases List.mem_cons.1 hr with rfl | hr
  .exact ⟨fun t ht=>D1 h.1.1 t (by simpa using ht),h.1.2⟩
  .exact zx h.2 r hr
def mj (P:Program) (G:ao) (c:Call) (e:Env) (dst:Option Tmp) (H:Heap) (rs:List Nat) (ps:List Operand) (next:St->Prop):Prop:=∃ y g ds,tgt G e c=some (g,ds.map .d)/\aw P G g ds y/\adr rs ps e (.d y)/\next ⟨Z2 e dst (.d y),H⟩
theorem mj.mk {c:Call} {e:Env} {dst:Option Tmp} {H:Heap} {rs:List Nat} {ps:List Operand} {next:St->Prop} {g:FuncId} {xs:List AV} {ds ds':List D} {y:D} (hc:aw P G g ds y) (ht:tgt G e c=some (g,xs)) (hx:iq xs=some ds') (hle:D.le.go ds' ds)
  (ho:adr rs ps e (.d y)) (h:next ⟨Z2 e dst (.d y),H⟩):mj P G c e dst H rs ps next:=⟨y,g,ds',by rw [ht,k7 hx],hc.mR hle,ho,h⟩
def uR (Mv:Nat->Prop) (dst:Option Tmp) (r s:Nat) (z:AV) (σ:St) (next:St->Prop):Prop:=
 if s=r then match σ.H r,z with
  | some (.sl ty sz els),.own _ _ m=>Mv r/\m=els.length/\next ⟨Z2 σ.env dst (.d (.sl none els)),aJ σ.H r (.sl ty sz [])⟩
  | _,_=>False
 else next ⟨Z2 σ.env dst z,σ.H⟩
def aew (T:Ty) (Mv:Nat->Prop) (G:ao) (o:Oper) (σ:St) (r s:Nat) (next:St->Prop):Prop:=match si o with
 | some (x,y)=>match bd G σ.env x,bd G σ.env y with
  | some (.own q _ _),some v=>q=r/\ada s v/\match wr T G Mv σ o with
   | some (c,z,aH)=>c/\uR Mv o.dst r s z aH next
   | none=>False
  | _,_=>False
 | none=>False
def p7 (T:Ty) (G:ao) (Mv:Nat->Prop) (o:Oper) (σ:St) (rs:List Nat) (next:St->Prop):Prop:=
 if aaU o.op then match wr T G Mv σ o with
  | some (c,x,ar)=>c/\adr rs o.op.operands.toList σ.env x/\next ⟨Z2 ar.env o.dst x,ar.H⟩
  | none=>False
 else match rd T G σ o.op with
  | some (c,x)=>c/\adr rs o.op.operands.toList σ.env x/\next ⟨Z2 σ.env o.dst x,σ.H⟩
  | none=>False
def l9 (P:Program) (T:Ty) (Mv:Nat->Prop) (G:ao) (N:Fr) (la:List (Nat×Nat×Nat)) (av:List (Nat×List Nat)) (K:St->Prop):List (Nat×Oper)->St->Prop
 | [],σ=>K σ
 | (i,o) :: rest,σ=>eQ N o/\o.guard=none/\match la.lookup i with
  | some (r,s)=>aew T Mv G o σ r s (l9 P T Mv G N la av K rest)
  | none=>kindOf o.op≠9/\match cr o.op with
   | some c=>mj P G c σ.env o.dst σ.H (o6 av i) o.op.operands.toList (l9 P T Mv G N la av K rest)
   | none=>p7 T G Mv o σ (o6 av i) (l9 P T Mv G N la av K rest)
def aak (ops:Array Oper):List Nat->List (Nat×Oper)
 | []=>[]
 | i :: l=>match ops[i]? with
  | some o=>(i,o) :: aak ops l
  | none=>aak ops l
theorem W4 {K:St->Prop}:∀ (l:List Nat) (σ:St),(∀ i∈l,i < ops.size)->l9 P T Mv G N la av K (aak ops l) σ->∃ bp,K bp/\tV P T Mv G N la av ops l σ bp:=by
 intro l
 induction l with
 | nil=>intro σ _ h;exact ⟨σ,h,rfl⟩
 | cons i l ih=>
  intro σ hl h;have hi:=hl i (by simp)
  have ho:ops[i]? = some ops[i]:=by simp [hi]
  simp only [aak,ho] at h;generalize ops[i]=o at ho h;simp only [l9] at h;obtain ⟨hd,c8,h⟩:=h
  have fin:∀ aH,o5 P T Mv G N la av i o σ aH->l9 P T Mv G N la av K (aak ops l) aH->∃ bp,K bp/\tV P T Mv G N la av ops (i :: l) σ bp:=fun aH hs h1=>by
   obtain ⟨bp,hk,hr⟩:=ih aH (fun j hj=>hl j (by simp [hj])) h1;exact ⟨bp,hk,o,ho,aH,hs,hr⟩
  cases hla:la.lookup i with
  | some rs=>
   obtain ⟨r,s⟩:=rs;simp only [hla] at h;unfold aew at h;split at h
   .rename_i x y QI;split at h
    .rename_i q off n v hx hy;obtain ⟨rfl,hs,h⟩:=h;split at h
     .rename_i c z aH hw;obtain ⟨hc,h⟩:=h;obtain ⟨e,H⟩:=σ;obtain ⟨m,row,vm,rfl,rfl⟩:=abk.of QI hx hy hs hw hc;unfold uR at h;split at h
      .obtain ⟨⟨ty,sz,els,rfl⟩,_⟩:=vm.row;simp only [aJ,if_true] at h;obtain ⟨hm,Qx,h⟩:=h;refine fin _ ⟨hd,c8,?_⟩ h;simp only [hla];refine ⟨m,_,_,_,vm,.inr ⟨hm,ty,sz,els,rfl,Qx,rfl,rfl⟩,?_⟩;congr 1;funext q';by_cases hq':q'=q<;>simp [aJ,hq']
      .refine fin _ ⟨hd,c8,?_⟩ h;simp only [hla];exact ⟨m,row,_,_,vm,.inl ⟨rfl,rfl⟩,rfl⟩
     .exact h.elim
    .exact h.elim
   .exact h.elim
  | none=>
   simp only [hla] at h;obtain ⟨hk,h⟩:=h;split at h
   .rename_i c hc;obtain ⟨y,g,ds,ht,hp,e7,h⟩:=h;refine fin _ ⟨hd,c8,?_⟩ h;simp only [hla];refine ⟨hk,.d y,σ.H,?_,rfl,zx e7,fun _ c' cA=>?_⟩
    .unfold Ex;simp only [hc];exact ⟨y,⟨g,_,ht,.inl ⟨ds,rfl,hp⟩⟩,rfl,trivial⟩
    .rw [hc] at cA;obtain rfl:=Option.some.inj cA;exact ⟨y,g,ds,ht,hp,rfl⟩
   .rename_i hc;unfold p7 at h;split at h
    .rename_i hw;split at h
     .rename_i c x aH h1;obtain ⟨hcc,e7,h⟩:=h;have he:=ad9 hk h1;obtain ⟨e,H⟩:=σ;obtain ⟨e1,H1⟩:=aH;dsimp only at he;subst he;refine fin _ ⟨hd,c8,?_⟩ h;simp only [hla];refine ⟨hk,x,H1,?_,rfl,zx e7,fun _ c' cA=>?_⟩
      .unfold Ex;simp only [hc];rw [if_pos hw];exact ⟨c,h1,hcc⟩
      .rw [hc] at cA;cases cA
     .exact h.elim
    .rename_i hw;split at h
     .rename_i c x h1;obtain ⟨hcc,e7,h⟩:=h;refine fin _ ⟨hd,c8,?_⟩ h;simp only [hla];refine ⟨hk,x,σ.H,?_,rfl,zx e7,fun _ c' cA=>?_⟩
      .unfold Ex;simp only [hc];rw [if_neg hw];exact ⟨c,h1,hcc,trivial⟩
      .rw [hc] at cA;cases cA
     .exact h.elim
theorem Ff (hg:Good P T) (hm:P.follows .mixedOrders=true) (la:List (Nat×Nat×Nat)) (av:List (Nat×List Nat)) (ord:List Nat) {id:Nat} (hok:tM la av ord ops=true) {Q:Exit->St->Prop} {σ:St} (h:l9 P T Mv G N la av (fun ar=>Q .normal ar) (aak ops ord) σ):AW P Mv X G N (.region id ops true) Q σ:=fun w μ a hi=>by
 unfold tM at hok;simp only [Bool.and_eq_true] at hok;obtain ⟨⟨⟨⟨⟨h1,h2⟩,h3⟩,h4⟩,h5⟩,h6⟩:=hok
 have hlen:ord.length=ops.size:=by simpa using h1
 have ax:∀ i∈ord,i < ops.size:=fun i hi=>by simpa using List.all_eq_true.1 h2 i hi
 have bx:∀ i,i < ops.size->i∈ord:=fun i hi=>by simpa using List.all_eq_true.1 h3 i (List.mem_range.2 hi)
 have eY:ord.Nodup:=by simpa using h4
 have oA:∀ j oj,ops[j]? = some oj->∀ e∈oj.after,Region.binds .any e=true->e.on < j:=fun j oj bq e he hb=>by
  have:=List.all_eq_true.1 h5 j (List.mem_range.2 (Array.getElem?_eq_some_iff.1 bq).1);simp only [bq] at this;have:=Array.all_eq_true_iff_forall_mem.1 this e he;simpa [hb] using this
 obtain ⟨bp,hQ,bK⟩:=W4 ord σ ax h;refine wpIn_region_any hm ?_;obtain ⟨aC,aG⟩:=hi.jR (Mv:=Mv) (bU.drew w);refine LX hg oA hQ ops.size ord _ w.drew μ a σ hlen eY (fun j=>?_) (by simp) (Jq h6) ?_ bK aC aG
 .constructor
  .intro hj;have:=ax j hj;simp [Array.getD_eq_getD_getElem?,this]
  .intro hj;exact bx j hj.1
 .intro j oj bq hlj;have hj:=(Array.getElem?_eq_some_iff.1 bq).1;simp [Array.getD_eq_getD_getElem?,hj] at hlj
theorem LC (hg:Good P T) (hm:P.follows .mixedOrders=true) (la:List (Nat×Nat×Nat)) (av:List (Nat×List Nat)) (ord:List Nat) (l ns:List Nat) (hM:∀ r,ns.contains r=false->Mv r) {id:Nat} (hok:tM la av ord ops=true) {y:Code} {Q:Exit->St->Prop} {σ:St}
  (h:∀ K:St->Prop,(∀ τ:St,AW P Mv X G N y Q (τ.norm l ns)->K τ)->l9 P T Mv G N la av K (aak ops ord) σ):AW P Mv X G N (.seq (.region id ops true) y) Q σ:=
 nP (Ff hg hm la av ord hok (h _ fun _ h=>h.norm l ns hM))
theorem uq (hg:Good P T) (hm:P.follows .mixedOrders=true) (la:List (Nat×Nat×Nat)) (av:List (Nat×List Nat)) (ord:List Nat) {id:Nat} (hok:tM la av ord ops=true) {Q:Exit->St->Prop} {σ:St}
  (h:∀ K:St->Prop,(∀ τ:St,Q .normal τ->K τ)->l9 P T Mv G N la av K (aak ops ord) σ):AW P Mv X G N (.region id ops true) Q σ:=Ff hg hm la av ord hok (h _ fun _ h=>h)
end
end Go.Av
namespace Go.Av
section
variable {P:Program} {T:Ty} {Mv X:Nat->Prop} {G:ao} {N:Fr} {σ:St}
theorem dk (l:List (Nat×AV)) (i:Nat) (x:AV):eF (aX l) i x=aX ((i,x) :: l):=by
 funext j;simp only [eF,aX,List.lookup];by_cases h:j=i
 .subst h;simp
 .have:(j == i)=false:=by simpa using h
  simp [h,this]
theorem Q6 (l:List (Nat×Row)) (i:Nat) (x:Row):aJ (ZX l) i x=ZX ((i,x) :: l):=by
 funext j;simp only [aJ,ZX,List.lookup];by_cases h:j=i
 .subst h;simp
 .have:(j == i)=false:=by simpa using h
  simp [h,this]
theorem DD {α β:Type} (f:α->β) (l:List (Nat×α)) (i:Nat):(l.map fun p=>(p.1,f p.2)).lookup i=(l.lookup i).map f:=by
 induction l with
 | nil=>rfl
 | cons p l ih=>
  simp only [List.map_cons,List.lookup];cases h:(i == p.1)<;>simp [ih]
theorem RE (r:Nat) (l:List (Nat×AV)):cF r (aX l)=aX (l.map fun p=>(p.1,p.2.kill r)):=by
 funext j;simp only [cF,aX,DD]
theorem RF (r:Nat) (l:List (Nat×Row)):cG r (ZX l)=ZX (l.map fun p=>(p.1,p.2.kill r)):=by
 funext j;simp only [cG,ZX,DD]
theorem Xn (o f:Nat->Nat->Nat->AV) (l:List (Nat×AV)):trE o f (aX l)=aX (l.map fun p=>(p.1,p.2.tr o f)):=by
 funext j;simp only [trE,aX,DD]
theorem QC:eA=ZX []:=rfl
def EI (P:Program) (T:Ty) (Mv X:Nat->Prop) (G:ao) (N:Fr) (ops:Array Oper) (o:Oper) (σ:St) (K:St->Prop):Prop:=eQ N o/\match fA ops σ.env o with
 | some b=>if b=true then qE P T Mv X G N o σ K else K ⟨Z2 σ.env o.dst cu,σ.H⟩
 | none=>False
def KL (P:Program) (T:Ty) (Mv:Nat->Prop) (G:ao) (N:Fr) (ops:Array Oper) (o:Oper) (σ:St) (K:St->Prop):Prop:=eQ N o/\match fA ops σ.env o with
 | some b=>if b=true then (match cr o.op with
  | some c=>iT P G c σ o.dst K
  | none=>lC T G Mv o σ K) else K ⟨Z2 σ.env o.dst cu,σ.H⟩
 | none=>False
def KN (P:Program) (T:Ty) (Mv:Nat->Prop) (G:ao) (N:Fr) (la:List (Nat×Nat×Nat)) (av:List (Nat×List Nat)) (i:Nat) (o:Oper) (σ:St) (K:St->Prop):Prop:=eQ N o/\o.guard=none/\match la.lookup i with
 | some (r,s)=>aew T Mv G o σ r s K
 | none=>kindOf o.op≠9/\match cr o.op with
  | some c=>mj P G c σ.env o.dst σ.H (o6 av i) o.op.operands.toList K
  | none=>p7 T G Mv o σ (o6 av i) K
theorem Z0 {ops:Array Oper} {K:St->Prop} {o:Oper} {rest:List Oper} (h:∀ K':St->Prop,(∀ τ,sxf P T Mv X G N ops K rest τ->K' τ)->EI P T Mv X G N ops o σ K'):sxf P T Mv X G N ops K (o :: rest) σ:=h _ fun _ h=>h
theorem fo {ops:Array Oper} {K:St->Prop} {o:Oper} {rest:List Oper} (h:∀ K':St->Prop,(∀ τ,kB P T Mv G N ops K rest τ->K' τ)->KL P T Mv G N ops o σ K'):kB P T Mv G N ops K (o :: rest) σ:=h _ fun _ h=>h
theorem Z9 {ops:Array Oper} {K:St->Prop} (h:K σ):sxf P T Mv X G N ops K [] σ:=h
theorem kZ {ops:Array Oper} {K:St->Prop} (h:K σ):kB P T Mv G N ops K [] σ:=h
end
end Go.Av
namespace Go.Av
theorem Xo (k:Nat->Bool) (o f:Nat->Nat->Nat->AV) (l:List (Nat×Row)):trH k o f (ZX l)=ZX (l.filterMap fun p=>if k p.1=true then some (p.1,p.2.tr o f) else none):=by
 funext i;unfold trH ZX
 induction l with
 | nil=>simp
 | cons p l ih=>
  obtain ⟨j,r⟩:=p;simp only [List.lookup_cons,List.filterMap_cons];by_cases kL:i=j
  .subst kL;cases hk:k i
   .simp [hk] at ih ⊢;exact ih
   .simp
  .have hb:(i == j)=false:=by simpa using kL
   rw [hb];cases hk:k j
   .simpa using ih
   .simp only [if_true,List.lookup_cons,hb];exact ih
section
variable {P:Program} {Mv X:Nat->Prop} {G:ao} {N:Fr} {w w':World} {μ:Mu} {a:Act} {σ:St}
theorem ub {T:Ty} {ops:Array Oper} {la:List (Nat×Nat×Nat)} {av:List (Nat×List Nat)} {K:St->Prop} {i:Nat} {l:List Nat} {o:Oper} (ho:ops[i]? = some o) (h:∀ K':St->Prop,(∀ τ,l9 P T Mv G N la av K (aak ops l) τ->K' τ)->KN P T Mv G N la av i o σ K'):l9 P T Mv G N la av K (aak ops (i :: l)) σ:=by
 have:aak ops (i :: l)=(i,o) :: aak ops l:=by simp [aak,ho]
 rw [this];exact h _ fun _ h=>h
theorem uc {T:Ty} {ops:Array Oper} {la:List (Nat×Nat×Nat)} {av:List (Nat×List Nat)} {K:St->Prop} (h:K σ):l9 P T Mv G N la av K (aak ops []) σ:=h
theorem Z1.lK (b j r ty sz:Nat) {e:Env} {H:Heap} {tb:TypeId} {cells:List AV} (hb:H b=some (.box tb cells)) (hr:H r=none) (hc:cells[j]? = some (.d (.sl (some false) []))) :
  Z1 Mv X G N ⟨e,H⟩ ⟨e,aJ (aJ H r (.sl ty sz [])) b (.box tb (cells.set j (.own r 0 0)))⟩:=fun w μ a hi=>by
 obtain ⟨aC,ev⟩:=hi.alloc (Mv:=Mv) (w':=w) (m:=⟨none,sz,0⟩) hr (bU.refl w) (by simp) (row:=.sl ty sz []) fun _=>.nil rfl rfl
 have QT:b≠r:=fun h=>by subst h;rw [hr] at hb;cases hb
 refine ⟨cH μ r ⟨none,sz,0⟩,⟨⟨fun q row hq=>?_,fun q m hm=>?_,aC.aS.inj,aC.aS.frame,aC.aS.fits⟩,aC.env,aC.fV⟩,ev⟩
 .by_cases hqb:q=b
  .subst hqb;simp only [aJ,if_true,Option.some.injEq] at hq;subst hq;obtain ⟨m,hm,ok⟩:=aC.aS.rows q (.box tb cells) (by simp [aJ,QT,hb]);refine ⟨m,hm,?_⟩
   cases ok with
   | box aO hs ab6 hh hn e9 hx=>
    refine .box aO rfl ab6 hh (by simpa using hn) (hx:=by simpa using hx) fun i u c hu hci=>?_;rw [List.getElem?_set] at hci;split at hci
    .rename_i kL;subst kL;split at hci
     .obtain rfl:=Option.some.inj hci;have h1:=e9 j u _ hu hc;refine .own (m:=⟨none,sz,0⟩) (by simp [cH]) (.inl ⟨rfl,?_,rfl,rfl⟩)
      rcases h1.data.l8 with ⟨rfl,_⟩ | ⟨_,_,_,hk,_⟩
      .rfl
      .exact absurd rfl hk
     .cases hci
    .exact e9 i u c hu hci
  .exact aC.aS.rows q row (by simpa [aJ,hqb] using hq)
 .by_cases hqb:q=b
  .exact ⟨.box tb (cells.set j (.own r 0 0)),by subst hqb;simp [aJ]⟩
  .obtain ⟨row,cz⟩:=aC.aS.dom q m hm;exact ⟨row,by simpa [aJ,hqb] using cz⟩
end
end Go.Av
namespace Go.Av
section
variable {P:Program} {T:Ty} {Mv X:Nat->Prop} {G:ao} {N:Fr} {σ:St}
def ren (r r' q:Nat):Nat:=if q=r then r' else q
def eS (r r' q off n:Nat):AV:=.own (ren r r' q) off n
def aa2 (r r' q e j:Nat):AV:=.ref (ren r r' q) e j
def nH (r r':Nat) (μ:Mu):Mu:=fun q=>if q=r' then μ r else if q=r then none else μ q
def l6 (r r':Nat) (H:Heap):Heap:=fun q=>(if q=r' then H r else if q=r then none else H q).map (Row.tr (eS r r') (aa2 r r'))
theorem tS {r r' q:Nat} {m:fU} {μ:Mu} (h:nH r r' μ q=some m):∃ p,μ p=some m/\q=ren r r' p:=by
 unfold nH at h;split at h
 .rename_i e;exact ⟨r,h,by simp [ren,e]⟩
 .split at h
  .cases h
  .rename_i e1 e2;exact ⟨q,h,by simp [ren,e2]⟩
theorem El {r r' p:Nat} {m:fU} {μ:Mu} (h0:μ r'=none) (h:μ p=some m):nH r r' μ (ren r r' p)=some m:=by
 unfold nH ren;by_cases e:p=r
 .subst e;simp [h]
 .have e2:p≠r':=fun e2=>by rw [e2,h0] at h;cases h
  simp [e,e2,h]
theorem In.ren {w:World} {μ:Mu} {a:Act} {r r':Nat} (hi:In w X G μ N a σ) (hH:σ.H r'=none):In w X G (nH r r' μ) N a ⟨trE (eS r r') (aa2 r r') σ.env,l6 r r' σ.H⟩:=by
 have h0:μ r'=none:=hi.aS.rO hH;have hX:∀ b,XX X (nH r r' μ) b->XX X μ b:=fun b hb=>hb.elim .inl fun ⟨q,m,hq,hbq⟩=>let ⟨p,hp,_⟩:=tS hq;.inr ⟨p,m,hp,hbq⟩;have og:∀ {u:Value} {x:D},RD w (XX X μ) u x->RD w (XX X (nH r r' μ)) u x:=fun h=>h.mono (Nat.le_refl _) fun b _ hb=>⟨rfl,fun e=>hb (hX b e)⟩
 have vh:∀ {u:Value} {x:AV},RV w X μ u x->RV w X (nH r r' μ) u (x.tr (eS r r') (aa2 r r')):=fun h=>RV.tr hX (fun u q off n h=>by
  obtain ⟨m,hm,hh⟩:=h.iK
  exact .own (El h0 hm) hh) (fun u q e j h=>by
  obtain ⟨m,b,hm,hb,rfl⟩:=h.abV
  exact .ref (El h0 hm) hb) h
 refine ⟨⟨fun q row hr=>?_,fun q m hr=>?_,fun q q' m1 m2 b h1 h2 c6 ey=>?_,fun q mq b hq hb=>?_,hi.aS.fits⟩,
  ⟨hi.env.defers,hi.env.size,fun i x hx=>?_⟩,fun g x hx=>og (hi.fV g x hx)⟩
 .obtain ⟨acq,adD,rfl⟩:=Option.map_eq_some_iff.1 hr
  have:∃ p,σ.H p=some acq/\q=Go.Av.ren r r' p:=by
   split at adD
   .rename_i e;exact ⟨r,adD,by simp [Go.Av.ren,e]⟩
   .split at adD
    .cases adD
    .rename_i e1 e2;exact ⟨q,adD,by simp [Go.Av.ren,e2]⟩
  obtain ⟨p,hp,rfl⟩:=this;obtain ⟨m,hm,ok⟩:=hi.aS.rows p acq hp;refine ⟨m,El h0 hm,?_⟩
  cases ok with
  | nil h1 h2=>exact .nil h1 h2
  | sl h1 h2 h3 h4 h5 h6 h7 h8 h9=>exact .sl h1 h2 h3 h4 h5 h6 h7 h8 fun i j el c he hc=>let ⟨u,hu,hr⟩:=h9 i j el c he hc;⟨u,hu,og hr⟩
  | box h1 h2 h3 h4 h5 h6 h7=>
   refine .box h1 rfl h3 h4 (by simpa using h5) (fun j u c hu hc=>?_) (by simpa using h7);rw [List.getElem?_map] at hc;obtain ⟨c',cA,rfl⟩:=Option.map_eq_some_iff.1 hc;exact vh (h6 j u c' hu cA)
  | mp h1 h2 h3 h4=>exact .mp h1 h2 h3 fun i e p he hp=>let ⟨a,b,c⟩:=h4 i e p he hp;⟨a,b,og c⟩
  | it h1 h2 h3=>exact .it h1 h2 (og h3)
 .obtain ⟨p,hp,rfl⟩:=tS hr;obtain ⟨row,cz⟩:=hi.aS.dom p m hp;refine ⟨row.tr (eS r r') (aa2 r r'),?_⟩
  have aL:p≠r':=fun e=>by rw [e,h0] at hp;cases hp
  show l6 r r' σ.H _=_;unfold l6 Go.Av.ren;by_cases e:p=r
  .subst e;simp [cz]
  .simp [e,aL,cz]
 .obtain ⟨p1,gv,rfl⟩:=tS h1;obtain ⟨p2,eZ,rfl⟩:=tS h2;rw [hi.aS.inj p1 p2 m1 m2 b gv eZ c6 ey]
 .obtain ⟨p,hp,rfl⟩:=tS hq;exact hi.aS.frame p mq b hp hb
 .replace hx:trE (eS r r') (aa2 r r') σ.env i=some x:=hx;unfold trE at hx;obtain ⟨x0,x6,rfl⟩:=Option.map_eq_some_iff.1 hx;obtain ⟨u,hu,hr⟩:=hi.env.slot i x0 x6;exact ⟨u,hu,vh hr⟩
theorem Z1.ren {r r':Nat} (hm:Mv r) (hH:σ.H r'=none):Z1 Mv X G N σ ⟨trE (eS r r') (aa2 r r') σ.env,l6 r r' σ.H⟩:=fun w μ a hi=>
 ⟨nH r r' μ,hi.ren hH,⟨Nat.le_refl _,rfl,rfl,rfl,fun b hb hr=>⟨rfl,fun ⟨q,m,hq,hbq⟩=>let ⟨p,hp,_⟩:=tS hq;hr ⟨p,m,hp,hbq⟩⟩,fun q m hq hn=>by
  have h1:q≠r:=fun e=>hn (e ▸ hm)
  have h2:q≠r':=fun e=>by rw [e,hi.aS.rO hH] at hq;cases hq
  simp only [nH,if_neg h1,if_neg h2]
  exact hq⟩⟩
end
end Go.Av
namespace Go.Av
def tq:Op->Bool
 | .load _ _=>true
 | .indexAddr _ _ _=>true
 | .slice _ _ _ _ _=>true
 | .store _ _ _=>true
 | .mapUpdate _ _ _ _=>true
 | _=>false
def nh (r:Nat):AV->Prop
 | .ref q _ _=>q=r
 | .own q _ _=>q=r
 | .d _=>True
 | _=>False
def p4 (G:ao) (e:Env) (o:Op) (r:Nat):Prop:=match o with
 | .load _ p=>match bd G e p with
  | some v=>nh r v
  | none=>False
 | .indexAddr _ p _=>match bd G e p with
  | some v=>nh r v
  | none=>False
 | .slice _ p _ _ _=>match bd G e p with
  | some v=>nh r v
  | none=>False
 | .store _ p _=>match bd G e p with
  | some (.ref q _ _)=>q=r
  | _=>False
 | .mapUpdate _ p _ _=>match bd G e p with
  | some (.mp q)=>q=r
  | _=>False
 | _=>False
def mb (G:ao) (fp:List (Nat×Nat)) (e:Env) (i:Nat) (o:Op):Prop:=match fp.lookup i with
 | some r=>p4 G e o r
 | none=>True
def qv (fp:List (Nat×Nat)) (ops:Array Oper) (i j:Nat) (oi oj:Oper):Bool:=abo ops oi oj || (oi.apart ops oj && tq oi.op && tq oj.op && match fp.lookup i,fp.lookup j with
 | some r,some r'=>!(r == r')
 | _,_=>false)
section
variable {P:Program} {T:Ty} {Mv X:Nat->Prop} {G:ao} {N:Fr} {ops:Array Oper} {fp:List (Nat×Nat)}
def abH (H:Heap) (r:Nat):Option Row->Heap
 | none=>H
 | some row=>aJ H r row
theorem zD {H:Heap} {r q:Nat} {u:Option Row} (h:q≠r):abH H r u q=H q:=by
 cases u with
 | none=>rfl
 | some row=>simp [abH,aJ,h]
theorem JG {H:Heap} {r q:Nat} {u v:Option Row} (h:r≠q):abH (abH H r u) q v=abH (abH H q v) r u:=by
 cases u<;>cases v<;>try rfl
 funext i;by_cases h1:i=r<;>by_cases h2:i=q<;>simp [abH,aJ,h1,h2,h,Ne.symm h]
theorem Su {H H2:Heap} {t:TypeId} {v:AV} {r:Nat} (hv:nh r v) (h:H2 r=H r):j3 T H2 t v=j3 T H t v:=by
 cases v with
 | d x=>cases x<;>rfl
 | ref q ee j=>simp only [nh] at hv;subst hv;simp only [j3,h]
 | own q off n=>rfl
 | _=>exact hv.elim
theorem Rl {H H2:Heap} {t:TypeId} {v y:AV} {r:Nat} (hv:nh r v) (h:H2 r=H r):lZ T H2 t v y=lZ T H t v y:=by
 cases v with
 | d x=>cases x<;>(cases y<;>first | rfl | (rename_i z;cases z<;>first | rfl | (rename_i z;cases z<;>rfl)))
 | ref q ee j=>cases y<;>first | rfl | (rename_i z;cases z<;>first | rfl | (rename_i z;cases z<;>rfl))
 | own q off n=>
  simp only [nh] at hv;subst hv
  cases y with
  | d z=>cases z with
   | v z=>cases z<;>first | rfl | simp only [lZ,h]
   | _=>rfl
  | _=>rfl
 | _=>exact hv.elim
theorem WD {H H2:Heap} {t:TypeId} {v:AV} {lo hi:Option Int} {r:Nat} (hv:nh r v) (h:H2 r=H r):mQ T H2 t v lo hi=mQ T H t v lo hi:=by
 cases v with
 | d x=>cases x<;>first | rfl | (rename_i z;cases z<;>rfl)
 | ref q ee j=>rfl
 | own q off n=>simp only [nh] at hv;subst hv;simp only [mQ,h]
 | _=>exact hv.elim
theorem Ex.xf {o:Oper} {e:Env} {H H':Heap} {x:AV} {r:Nat} (ht:p4 G e o.op r) (h:Ex P T Mv G o e H x H') :
  ∃ u,H'=abH H r u/\∀ H2,H2 r=H r->Ex P T Mv G o e H2 x (abH H2 r u):=by
 obtain ⟨dst,op,type,pos,after,guard⟩:=o;dsimp only at ht;cases op<;>simp only [p4] at ht
 case load t p=>
  split at ht
  .rename_i v hp;refine ⟨none,?_,fun H2 h2=>?_⟩
   .unfold Ex at h;simp only [cr,aaU,Bool.false_eq_true,if_false] at h;obtain ⟨c,_,_,rfl⟩:=h;rfl
   .unfold Ex at h ⊢;simp only [cr,aaU,Bool.false_eq_true,if_false] at h ⊢;obtain ⟨c,h1,h3,rfl⟩:=h;refine ⟨c,?_,h3,rfl⟩;simp only [rd,hp,Option.bind_some] at h1 ⊢;rw [Su ht h2];exact h1
  .exact ht.elim
 case indexAddr t p y=>
  split at ht
  .rename_i v hp;refine ⟨none,?_,fun H2 h2=>?_⟩
   .unfold Ex at h;simp only [cr,aaU,Bool.false_eq_true,if_false] at h;obtain ⟨c,_,_,rfl⟩:=h;rfl
   .unfold Ex at h ⊢;simp only [cr,aaU,Bool.false_eq_true,if_false] at h ⊢;obtain ⟨c,h1,h3,rfl⟩:=h;refine ⟨c,?_,h3,rfl⟩;simp only [rd,hp] at h1 ⊢
    cases hy:bd G e y with
    | none=>simp [hy] at h1
    | some b=>simp only [hy] at h1 ⊢;rw [Rl ht h2];exact h1
  .exact ht.elim
 case slice t p lo hi mx=>
  split at ht
  .rename_i v hp;refine ⟨none,?_,fun H2 h2=>?_⟩
   .unfold Ex at h;simp only [cr,aaU,Bool.false_eq_true,if_false] at h;obtain ⟨c,_,_,rfl⟩:=h;rfl
   .unfold Ex at h ⊢;simp only [cr,aaU,Bool.false_eq_true,if_false] at h ⊢;obtain ⟨c,h1,h3,rfl⟩:=h;refine ⟨c,?_,h3,rfl⟩;simp only [rd,hp] at h1 ⊢;by_cases eX:mx.isNone=true
    .rw [if_pos eX] at h1 ⊢
     cases hlo:bound G e lo with
     | none=>simp [hlo] at h1
     | some l=>
      cases sY:bound G e hi with
      | none=>simp [hlo,sY] at h1
      | some l2=>simp only [hlo,sY] at h1 ⊢;rw [WD ht h2];exact h1
    .rw [if_neg eX] at h1;cases h1
  .exact ht.elim
 case store t p y=>
  split at ht
  .rename_i q ee j hp;subst ht;unfold Ex at h;simp only [cr,aaU,if_true] at h;obtain ⟨c,h1,h3⟩:=h
   cases dst with
   | some d=>simp [wr] at h1
   | none=>
    simp only [wr,hp] at h1
    cases hy:bd G e y with
    | none=>simp [hy] at h1
    | some v=>
     simp only [hy] at h1;split at h1
     .rename_i ty cells hr;split at h1
      .rename_i he;split at h1
       .rename_i c' pa hs;simp only [Option.some.injEq,Prod.mk.injEq,St.mk.injEq,true_and] at h1;obtain ⟨rfl,rfl,rfl⟩:=h1;refine ⟨some (.box ty pa),rfl,fun H2 h2=>?_⟩;unfold Ex;simp only [cr,aaU,if_true];exact ⟨_,by simp [wr,hp,hy,h2,hr,he,hs,abH],h3⟩
       .cases h1
      .cases h1
     .rename_i ty sz els hr;split at h1
      .rename_i c' kf hs;simp only [Option.some.injEq,Prod.mk.injEq,St.mk.injEq,true_and] at h1;obtain ⟨rfl,rfl,rfl⟩:=h1;refine ⟨some (.sl ty sz kf),rfl,fun H2 h2=>?_⟩;unfold Ex;simp only [cr,aaU,if_true];exact ⟨_,by simp [wr,hp,hy,h2,hr,hs,abH],h3⟩
      .cases h1
     .cases h1
     .cases h1
     .cases h1
  .exact ht.elim
 case mapUpdate t p y z=>
  split at ht
  .rename_i q hp;subst ht;unfold Ex at h;simp only [cr,aaU,if_true] at h;obtain ⟨c,h1,h3⟩:=h
   cases dst with
   | some d=>simp [wr] at h1
   | none=>
    simp only [wr,hp] at h1;split at h1
    .rename_i r' key dx e1 e2 e3;simp only [Option.some.injEq,AV.mp.injEq] at e1;subst e1;split at h1
     .rename_i ty ents hr;split at h1
      .rename_i c' ab9 hs;simp only [Option.some.injEq,Prod.mk.injEq,St.mk.injEq,true_and] at h1;obtain ⟨rfl,rfl,rfl⟩:=h1;refine ⟨some (.mp ty ab9),rfl,fun H2 h2=>?_⟩;unfold Ex;simp only [cr,aaU,if_true];exact ⟨_,by simp [wr,hp,e2,e3,h2,hr,hs,abH],h3⟩
      .cases h1
     .cases h1
    .cases h1
  .exact ht.elim
theorem D3 {o:Op} {e e':Env} {r:Nat} (ha:fg o e e') (h:p4 G e o r):p4 G e' o r:=by
 cases o<;>simp only [p4] at h ⊢<;>try exact h
 case load t p=>
  have:bd G e p=bd G e' p:=aaH fun t ht=>ha t (by simp [Op.operands,ht]);rw [<- this];exact h
 case indexAddr t p y=>
  have:bd G e p=bd G e' p:=aaH fun t ht=>ha t (by simp [Op.operands,ht]);rw [<- this];exact h
 case slice t p lo hi mx=>
  have:bd G e p=bd G e' p:=aaH fun t ht=>ha t (by simp [Op.operands,ht]);rw [<- this];exact h
 case store t p y=>
  have:bd G e p=bd G e' p:=aaH fun t ht=>ha t (by simp [Op.operands,ht]);rw [<- this];exact h
 case mapUpdate t p y z=>
  have:bd G e p=bd G e' p:=aaH fun t ht=>ha t (by simp [Op.operands,ht]);rw [<- this];exact h
theorem Ae {o:Op} {e e':Env} {i:Nat} (ha:fg o e e') (h:mb G fp e i o):mb G fp e' i o:=by
 unfold mb at h ⊢;split
 .rename_i r hr;simp only [hr] at h;exact D3 ha h
 .trivial
def GStep (P:Program) (T:Ty) (Mv:Nat->Prop) (G:ao) (N:Fr) (ops:Array Oper) (fp:List (Nat×Nat)) (i:Nat) (o:Oper) (σ ar:St):Prop:=adK P T Mv G N ops o σ ar/\(fA ops σ.env o=some true->mb G fp σ.env i o.op)
theorem M4 {x y:Oper} (h:abo ops x y=true):kindOf x.op≠9/\kindOf y.op≠9:=by
 simp only [abo,Bool.and_eq_true] at h;obtain ⟨_,h⟩:=h;refine ⟨fun e=>by rw [e] at h;simp [oU] at h,fun e=>?_⟩;rw [e] at h
 revert h
 rcases kinds x.op with k | k | k | k | k | k<;>rw [k]<;>simp [oU]
theorem Ib {o:Op} (h:tq o=true):kindOf o≠9:=by
 unfold tq at h;split at h
 .have:=DA ‹_›;simp only [kindOf];omega
 .simp [kindOf]
 .simp [kindOf]
 .simp [kindOf]
 .simp [kindOf]
 .cases h
theorem Ov {i j:Nat} {oi oj:Oper} (hc:qv fp ops i j oi oj=true) {σ aH eu:St} (h1:GStep P T Mv G N ops fp i oi σ aH) (h2:GStep P T Mv G N ops fp j oj aH eu) :
  ∃ eT,GStep P T Mv G N ops fp j oj σ eT/\GStep P T Mv G N ops fp i oi eT eu:=by
 have hk:kindOf oi.op≠9/\kindOf oj.op≠9:=by
  simp only [qv,Bool.or_eq_true,Bool.and_eq_true] at hc
  rcases hc with hc | ⟨⟨⟨_,h3⟩,h4⟩,_⟩
  .exact M4 hc
  .exact ⟨Ib h3,Ib h4⟩
 obtain ⟨vB,pC⟩:=hk;obtain ⟨s1,t1⟩:=h1;obtain ⟨s2,t2⟩:=h2;obtain ⟨x,H1,xb,rfl⟩:=(oY vB).1 s1;obtain ⟨y,H2,sx2,rfl⟩:=(oY pC).1 s2;obtain ⟨e,H⟩:=σ;dsimp only at s1 s2 xb sx2 t1 t2 ⊢
 have eJ:oi.apart ops oj=true:=by
  simp only [qv,abo,Bool.or_eq_true,Bool.and_eq_true] at hc
  rcases hc with hc | hc
  .exact hc.1
  .exact hc.1.1.1
 obtain ⟨a1,_,aL⟩:=abn eJ (e:=e) (v:=x);obtain ⟨_,a2,_⟩:=abn eJ (e:=e) (v:=y);have wj:=Ai (o:=oj) (e:=Z2 e oi.dst x) (e':=e) a1;have wi:=Ai (o:=oi) (e:=Z2 e oj.dst y) (e':=e) a2;have dV:fg oj.op (Z2 e oi.dst x) e:=fun t ht=>a1 t (il ht);have eG:fg oi.op e (Z2 e oj.dst y):=fun t ht=>(a2 t (il ht)).symm
 have main:∃ H3,Sx P T Mv G N ops oj e H y H3/\Sx P T Mv G N ops oi (Z2 e oj.dst y) H3 x H2:=by
  simp only [qv,Bool.or_eq_true,Bool.and_eq_true] at hc
  rcases hc with hc | ⟨_,qZ⟩
  .exact adN hc xb sx2 vB pC
  .cases bu:fp.lookup i with
   | none=>simp [bu] at qZ
   | some r=>
    cases qY:fp.lookup j with
    | none=>simp [bu,qY] at qZ
    | some r'=>
     have hr:r≠r':=by simpa [bu,qY] using qZ
     obtain ⟨di,xb⟩:=xb;obtain ⟨dj,sx2⟩:=sx2;rw [wj] at sx2
     rcases xb with ⟨w1,e1⟩ | ⟨w1,rfl,rfl⟩
     .have t1:=t1 w1;simp only [mb,bu] at t1;obtain ⟨u,rfl,DB⟩:=e1.xf t1
      rcases sx2 with ⟨w2,e2⟩ | ⟨w2,rfl,rfl⟩
      .have t2:=t2 (by rw [wj];exact w2);simp only [mb,qY] at t2;have e2:=e2.congr pC dV;obtain ⟨u',rfl,DC⟩:=e2.xf (D3 dV t2);refine ⟨abH H r' u',⟨dj,.inl ⟨w2,DC H (zD (Ne.symm hr)).symm⟩⟩,⟨di,.inl ⟨by rw [wi];exact w1,?_⟩⟩⟩;rw [JG hr];exact (DB _ (zD hr)).congr vB eG
      .exact ⟨H,⟨dj,.inr ⟨w2,rfl,rfl⟩⟩,⟨di,.inl ⟨by rw [wi];exact w1,e1.congr vB eG⟩⟩⟩
     .rcases sx2 with ⟨w2,e2⟩ | ⟨w2,rfl,rfl⟩
      .exact ⟨H2,⟨dj,.inl ⟨w2,e2.congr pC dV⟩⟩,⟨di,.inr ⟨by rw [wi];exact w1,rfl,rfl⟩⟩⟩
      .exact ⟨_,⟨dj,.inr ⟨w2,rfl,rfl⟩⟩,⟨di,.inr ⟨by rw [wi];exact w1,rfl,rfl⟩⟩⟩
 obtain ⟨H3,f1,f2⟩:=main;refine ⟨⟨Z2 e oj.dst y,H3⟩,⟨(oY pC).2 ⟨y,H3,f1,rfl⟩,fun hw=>?_⟩,⟨(oY vB).2 ⟨x,H2,f2,by rw [fm aL]⟩,fun hw=>?_⟩⟩
 .exact Ae dV (t2 (by rw [wj];exact hw))
 .exact Ae eG (t1 (by rw [<- wi];exact hw))
def tU (P:Program) (T:Ty) (Mv:Nat->Prop) (G:ao) (N:Fr) (ops:Array Oper) (fp:List (Nat×Nat)):List Nat->St->St->Prop
 | [],σ,ar=>σ=ar
 | i :: l,σ,ar=>∃ o,ops[i]? = some o/\∃ aH,GStep P T Mv G N ops fp i o σ aH/\tU P T Mv G N ops fp l aH ar
theorem Wg {p:Nat} {op:Oper} (hp:ops[p]? = some op):∀ (l1:List Nat) {l2:List Nat} {σ ar:St},(∀ q∈l1,∀ oq,ops[q]? = some oq->qv fp ops q p oq op=true)->tU P T Mv G N ops fp (l1 ++ p :: l2) σ ar->tU P T Mv G N ops fp (p :: (l1 ++ l2)) σ ar:=by
 intro l1
 induction l1 with
 | nil=>intro l2 σ ar _ h;exact h
 | cons q l1 ih=>
  intro l2 σ ar bx h;obtain ⟨oq,hq,aH,s1,rest⟩:=h;obtain ⟨o',eB,eu,s2,oW⟩:=ih (fun q' hq'=>bx q' (by simp [hq'])) rest;rw [hp] at eB;obtain rfl:=Option.some.inj eB;obtain ⟨eT,f1,f2⟩:=Ov (bx q (by simp) oq hq) s1 s2;exact ⟨op,hp,eT,f1,oq,hq,eu,f2,oW⟩
def tL (fp:List (Nat×Nat)) (ops:Array Oper):Bool:=
 let t:=tb ops
 ((List.range ops.size).all fun j=>match ops[j]? with
  | some oj=>oj.after.all fun e=>!Region.binds .any e || e.on < j
  | none=>true) &&
 go t (List.range ops.size)
where
 go (t:List Nat):List Nat->Bool
 | []=>true
 | a :: l=>(l.all fun b=>match ops[a]?,ops[b]? with
  | some oa,some ob=>(oa.after.all fun e=>!Region.binds .any e || !(e.on == b)) && ((t.getD b 0).testBit a || qv fp ops a b oa ob)
  | _,_=>true) && go t l
def aeP (fp:List (Nat×Nat)) (ops:Array Oper) (a b:Nat):Prop:=∀ oa ob,ops[a]? = some oa->ops[b]? = some ob->
 (∀ e∈oa.after,Region.binds .any e=true->e.on≠b)/\(((tb ops).getD b 0).testBit a=true\/qv fp ops a b oa ob=true)
theorem Jn:∀ {l:List Nat},tL.go fp ops (tb ops) l=true->l.Pairwise (aeP fp ops)
 | [],_=>.nil
 | a :: l,h=>by
  simp only [tL.go,Bool.and_eq_true] at h;refine .cons (fun b hb oa ob oH mB=>?_) (Jn h.2);have:=List.all_eq_true.1 h.1 b hb;simp only [oH,mB,Bool.and_eq_true,Bool.or_eq_true] at this;refine ⟨fun e he hbi heq=>?_,this.2⟩;have h1:=Array.all_eq_true_iff_forall_mem.1 this.1 e he;simp [hbi,heq] at h1
theorem LW (hg:Good P T) (ax:∀ j oj,ops[j]? = some oj->∀ e∈oj.after,Region.binds .any e=true->e.on < j) {Q:Exit->St->Prop} {w0:World} {fT:Mu} {bp:St} (hQ:Q .normal bp):∀ (n:Nat) (R:List Nat) (listed:Array Bool) (w:World) (μ:Mu) (a:Act) (σ:St),R.length=n->R.Nodup->
  (∀ j,j∈R↔j < ops.size/\listed.getD j true=false)->listed.size=ops.size->R.Pairwise (aeP fp ops)->
  (∀ j oj,ops[j]? = some oj->listed.getD j false=true->∀ e∈oj.after,Region.binds .any e=true->listed.getD e.on false=true)->tU P T Mv G N ops fp R σ bp->In w X G μ N a σ->Ev Mv w0 fT w μ->
  wpAnyIn (wd N.ro) 0 P .any ops (After Mv X G N w0 fT Q) n listed a w:=by
 intro n
 induction n with
 | zero=>
  intro R listed w μ a σ hl _ hR aI _ _ bK hi aG;have:R=[]:=List.eq_nil_of_length_eq_zero hl;subst this
  have hr:Region.ready .any ops listed=[]:=by
   apply List.eq_nil_iff_forall_not_mem.2;intro j hj;obtain ⟨h1,o,ho,_⟩:=mem_ready.1 hj;exact absurd ((hR j).2 ⟨(Array.getElem?_eq_some_iff.1 ho).1,h1⟩) (by simp)
  have:σ=bp:=bK;subst this;exact ⟨hr,μ,σ,hQ,hi,aG⟩
 | succ n ih=>
  intro R listed w μ a σ hl eY hR aI hpw abR bK hi aG;refine ⟨fun hr=>?_,fun i my=>?_⟩
  .cases R with
   | nil=>simp at hl
   | cons j R=>
    obtain ⟨hj1,hC⟩:=(hR j).1 (by simp)
    have bq:ops[j]? = some ops[j]:=by simp [hj1]
    have jw:j∈Region.ready .any ops listed:=by
     refine mem_ready.2 ⟨hC,ops[j],bq,fun e he hb=>?_⟩;have pG:=ax j ops[j] bq e he hb
     have aaq:e.on < ops.size:=by omega
     have aL:e.on ∉ (j :: R):=by
      intro hm
      rcases List.mem_cons.1 hm with h | h
      .omega
      .exact ((List.pairwise_cons.1 hpw).1 _ h ops[j] ops[e.on] bq (by simp [aaq])).1 e he hb rfl
     have:=mt (hR e.on).2 aL
     have gL:e.on < listed.size:=by omega
     simp only [aaq,true_and,Array.getD_eq_getD_getElem?] at this ⊢;simp [gL] at this ⊢;exact this
    rw [hr] at jw;cases jw
  .obtain ⟨hi1,oi,hoi,bx⟩:=mem_ready.1 my;have mv:i∈R:=(hR i).2 ⟨(Array.getElem?_eq_some_iff.1 hoi).1,hi1⟩;obtain ⟨R1,R2,rfl⟩:=List.append_of_mem mv
   have mu:=Wg (P:=P) (T:=T) (Mv:=Mv) (G:=G) (N:=N) (fp:=fp) hoi R1 (fun q hq oq jA=>by
    have oI:aeP fp ops q i:=(List.pairwise_append.1 hpw).2.2 q hq i (by simp)
    rcases (oI oq oi jA hoi).2 with h | h
    .exfalso;have jx:=uF ax abR i i oi (Nat.le_refl _) hoi bx q h;have e8:=((hR q).1 (by simp [hq])).2
     have mD:q < listed.size:=by have:=(Array.getElem?_eq_some_iff.1 jA).1;omega
     simp [Array.getD_eq_getD_getElem?,mD] at jx e8;rw [jx] at e8;cases e8
    .exact h) bK
   obtain ⟨o',eB,aH,hstep,b5⟩:=mu;rw [hoi] at eB;obtain rfl:=Option.some.inj eB;refine ad8 hg hstep.1 hi hoi fun w' au a' aC iz=>?_
   have mz:(R1 ++ R2).Nodup:=by
    have:=eY;rw [List.nodup_append] at this ⊢;obtain ⟨g1,g2,g3⟩:=this;exact ⟨g1,(List.nodup_cons.1 g2).2,fun x hx y hy=>g3 x hx y (by simp [hy])⟩
   have mw:i ∉ R1 ++ R2:=by
    have:=eY;rw [List.nodup_append] at this;obtain ⟨g1,g2,g3⟩:=this;intro hm
    rcases List.mem_append.1 hm with h | h
    .exact g3 i h i (by simp) rfl
    .exact (List.nodup_cons.1 g2).1 h
   refine ih (R1 ++ R2) _ w' au a' aH (by simp at hl ⊢;omega) mz (fun j=>?_) (by simpa using aI) ?_ ?_ b5 aC (aG.trans iz)
   .by_cases hji:j=i
    .subst hji
     have gL:j < listed.size:=by rw [aI];exact (Array.getElem?_eq_some_iff.1 hoi).1
     simp [gL];simpa using mw
    .rw [getD_set_ne true (Ne.symm hji)];rw [<- hR j];simp [hji]
   .rw [List.pairwise_append] at hpw ⊢;obtain ⟨g1,g2,g3⟩:=hpw;exact ⟨g1,(List.pairwise_cons.1 g2).2,fun x hx y hy=>g3 x hx y (by simp [hy])⟩
   .intro j oj bq hlj e he hb;by_cases hji:j=i
    .subst hji;rw [hoi] at bq;obtain rfl:=Option.some.inj bq;exact getD_set_true (bx e he hb)
    .rw [getD_set_ne false (Ne.symm hji)] at hlj;exact getD_set_true (abR j oj bq hlj e he hb)
def stepG (P:Program) (T:Ty) (Mv:Nat->Prop) (G:ao) (N:Fr) (ops:Array Oper) (fp:List (Nat×Nat)) (i:Nat) (o:Oper) (σ:St) (K:St->Prop):Prop:=eQ N o/\match fA ops σ.env o with
 | some b=>if b=true then mb G fp σ.env i o.op/\(match cr o.op with
  | some c=>iT P G c σ o.dst K
  | none=>lC T G Mv o σ K) else K ⟨Z2 σ.env o.dst cu,σ.H⟩
 | none=>False
def nK (P:Program) (T:Ty) (Mv:Nat->Prop) (G:ao) (N:Fr) (ops:Array Oper) (fp:List (Nat×Nat)) (K:St->Prop):Nat->List Oper->St->Prop
 | _,[],σ=>K σ
 | i,o :: rest,σ=>stepG P T Mv G N ops fp i o σ (nK P T Mv G N ops fp K (i+1) rest)
theorem fz {K:St->Prop} {i:Nat} {o:Oper} {rest:List Oper} {σ:St} (h:∀ K':St->Prop,(∀ τ,nK P T Mv G N ops fp K (i+1) rest τ->K' τ)->stepG P T Mv G N ops fp i o σ K'):nK P T Mv G N ops fp K i (o :: rest) σ:=h _ fun _ h=>h
theorem gO {K:St->Prop} {i:Nat} {σ:St} (h:K σ):nK P T Mv G N ops fp K i [] σ:=h
theorem af4 {K:St->Prop}:∀ (l:List Oper) (k:Nat) (σ:St),(∀ j,l[j]? = ops[k+j]?)->nK P T Mv G N ops fp K k l σ->∃ bp,K bp/\tU P T Mv G N ops fp (List.range' k l.length) σ bp:=by
 intro l
 induction l with
 | nil=>intro k σ _ h;exact ⟨σ,h,rfl⟩
 | cons o l ih=>
  intro k σ hl h
  have h0:ops[k]? = some o:=by simpa using (hl 0).symm
  have ek:∀ j,l[j]? = ops[k+1+j]?:=fun j=>by have:=hl (j+1);simpa [Nat.add_assoc,Nat.add_comm 1 j] using this
  unfold nK stepG at h;obtain ⟨hd,h⟩:=h;rw [List.length_cons,List.range'_succ]
  have fin:∀ aH,GStep P T Mv G N ops fp k o σ aH->nK P T Mv G N ops fp K (k+1) l aH->∃ bp,K bp/\tU P T Mv G N ops fp (k :: List.range' (k+1) l.length) σ bp:=by
   intro aH hs hq;obtain ⟨bp,hk,hr⟩:=ih (k+1) aH ek hq;exact ⟨bp,hk,o,h0,aH,hs,hr⟩
  split at h
  .rename_i b hb;split at h
   .rename_i ot;subst ot;obtain ⟨ht,h⟩:=h;split at h
    .rename_i c hc;obtain ⟨y,hy,h⟩:=h;refine fin _ ⟨⟨hd,.inl ⟨hb,?_⟩⟩,fun _=>ht⟩ h;unfold kh;simp only [hc];exact ⟨y,hy,rfl⟩
    .rename_i hc;unfold lC at h;split at h
     .rename_i hw;split at h
      .rename_i c x aH h1;obtain ⟨hcc,h⟩:=h;refine fin _ ⟨⟨hd,.inl ⟨hb,?_⟩⟩,fun _=>ht⟩ h;unfold kh;simp only [hc];rw [if_pos hw];exact ⟨c,x,aH,h1,hcc,rfl⟩
      .exact h.elim
     .rename_i hw;split at h
      .rename_i c x h1;obtain ⟨hcc,h⟩:=h;refine fin _ ⟨⟨hd,.inl ⟨hb,?_⟩⟩,fun _=>ht⟩ h;unfold kh;simp only [hc];rw [if_neg hw];exact ⟨c,x,h1,hcc,rfl⟩
      .exact h.elim
   .rename_i ot
    have:b=false:=by simpa using ot
    subst this;refine fin _ ⟨⟨hd,.inr ⟨hb,rfl⟩⟩,fun hw=>by rw [hb] at hw;cases hw⟩ h
  .exact h.elim
theorem Fe (hg:Good P T) (hm:P.follows .mixedOrders=true) (fp:List (Nat×Nat)) {id:Nat} (hok:tL fp ops=true) {Q:Exit->St->Prop} {σ:St} (h:nK P T Mv G N ops fp (fun ar=>Q .normal ar) 0 ops.toList σ):AW P Mv X G N (.region id ops true) Q σ:=fun w μ a hi=>by
 unfold tL at hok;simp only [Bool.and_eq_true] at hok;obtain ⟨h5,h6⟩:=hok
 have oA:∀ j oj,ops[j]? = some oj->∀ e∈oj.after,Region.binds .any e=true->e.on < j:=fun j oj bq e he hb=>by
  have:=List.all_eq_true.1 h5 j (List.mem_range.2 (Array.getElem?_eq_some_iff.1 bq).1);simp only [bq] at this;have:=Array.all_eq_true_iff_forall_mem.1 this e he;simpa [hb] using this
 obtain ⟨bp,hQ,bK⟩:=af4 ops.toList 0 σ (by simp) h;rw [<- List.range_eq_range',Array.length_toList] at bK;refine wpIn_region_any hm ?_;obtain ⟨aC,aG⟩:=hi.jR (Mv:=Mv) (bU.drew w);refine LW hg oA hQ ops.size (List.range ops.size) _ w.drew μ a σ (by simp) List.nodup_range (fun j=>?_) (by simp) (Jn h6) ?_ bK aC aG
 .simp only [List.mem_range];constructor
  .intro hj;simp [Array.getD_eq_getD_getElem?,hj]
  .exact fun hj=>hj.1
 .intro j oj bq hlj;have hj:=(Array.getElem?_eq_some_iff.1 bq).1;simp [Array.getD_eq_getD_getElem?,hj] at hlj
theorem j8 (hg:Good P T) (hm:P.follows .mixedOrders=true) (fp:List (Nat×Nat)) (l ns:List Nat) (hM:∀ r,ns.contains r=false->Mv r) {id:Nat} (hok:tL fp ops=true) {y:Code} {Q:Exit->St->Prop} {σ:St}
  (h:∀ K:St->Prop,(∀ τ:St,AW P Mv X G N y Q (τ.norm l ns)->K τ)->nK P T Mv G N ops fp K 0 ops.toList σ):AW P Mv X G N (.seq (.region id ops true) y) Q σ:=
 nP (Fe hg hm fp hok (h _ fun _ h=>h.norm l ns hM))
theorem acS (hg:Good P T) (hm:P.follows .mixedOrders=true) (fp:List (Nat×Nat)) {id:Nat} (hok:tL fp ops=true) {Q:Exit->St->Prop} {σ:St}
  (h:∀ K:St->Prop,(∀ τ:St,Q .normal τ->K τ)->nK P T Mv G N ops fp K 0 ops.toList σ):AW P Mv X G N (.region id ops true) Q σ:=Fe hg hm fp hok (h _ fun _ h=>h)
end
end Go.Av
namespace Go.Av
def fM (fx:List Nat) (r:Nat):Prop:=fx.contains r=false
instance (fx:List Nat) (r:Nat):Decidable (fM fx r):=inferInstanceAs (Decidable (_=_))
theorem cC {fx ns:List Nat} (h:fx.all ns.contains=true):∀ r,ns.contains r=false->fM fx r:=fun r hr=>by
 unfold fM
 cases hc:fx.contains r with
 | false=>rfl
 | true=>
  have:=List.all_eq_true.1 h r (List.contains_iff_mem.1 hc);rw [this] at hr;cases hr
def MC (P:Program) (G:ao) (fx:List Nat) (g:FuncId) (xs:List AV) (H:Heap) (y:AV) (H2:Heap):Prop:=eU P g/\∀ X,qg P (fM fx) X G g xs H fun x H'=>x=y/\H'=H2
def iQ (bT fx:List Nat) (q off n:Nat):AV:=if bT.contains q && !fx.contains q then .dead else .own q off n
def iP (bT fx:List Nat) (q e j:Nat):AV:=if bT.contains q && !fx.contains q then .dead else .ref q e j
def dP (bT:List Nat) (q:Nat):Bool:=!bT.contains q
def jv (H2 H:Heap):Heap:=fun q=>match H2 q with
 | some row=>some row
 | none=>H q
theorem Qh (l2 l:List (Nat×Row)):jv (ZX l2) (ZX l)=ZX (l2 ++ l):=by
 funext q
 induction l2 with
 | nil=>rfl
 | cons p l2 ih=>
  unfold jv at ih ⊢;simp only [ZX,List.cons_append,List.lookup] at ih ⊢;cases h:(q == p.1)<;>simp only [h] at ih ⊢;exact ih
section
variable {P:Program} {T:Ty} {Mv X:Nat->Prop} {G:ao} {N:Fr} {w:World} {μ:Mu} {a:Act} {σ:St}
theorem RV.r4 {w':World} {X':Nat->Prop} {au:Mu} {o f:Nat->Nat->Nat->AV} (hD:∀ u d,RD w (XX X μ) u d->RD w' (XX X' au) u d) (ho:∀ u r off n,RV w X μ u (.own r off n)->RV w' X' au u (o r off n)) (hf:∀ u r e j,RV w X μ u (.ref r e j)->RV w' X' au u (f r e j)) :
  ∀ {v:Value} {x:AV},RV w X μ v x->RV w' X' au v (x.tr o f):=by
 intro v x hr
 induction hr with
 | d h'=>exact .d (hD _ _ h')
 | own hm h'=>exact ho _ _ _ _ (.own hm h')
 | ref hm hb=>exact hf _ _ _ _ (.ref hm hb)
 | agg hn _ ih=>
  rw [AV.tr,AV.uf];refine wx (.agg (by simpa using hn) fun j u c hu hc=>?_);rw [List.getElem?_map] at hc;obtain ⟨c',cA,rfl⟩:=Option.map_eq_some_iff.1 hc;exact ih j u c' hu cA
 | Z4 hn _ ih=>
  rw [AV.tr,AV.uf];refine zl (.Z4 (by simpa using hn) fun j u c hu hc=>?_);rw [List.getElem?_map] at hc;obtain ⟨c',cA,rfl⟩:=Option.map_eq_some_iff.1 hc;exact ih j u c' hu cA
 | br _ ih=>exact DL ih
 | bm _ ih=>exact .bm ih
 | fn hn _ ih=>
  rw [AV.tr,AV.uf];refine DK (by simpa using hn) fun j u c hu hc=>?_;rw [List.getElem?_map] at hc;obtain ⟨c',cA,rfl⟩:=Option.map_eq_some_iff.1 hc;exact ih j u c' hu cA
 | mp hm hb=>
  rename_i r b m;have h0:=hf _ _ _ _ (RV.ref (e:=0) (j:=0) hm hb);unfold AV.tr;split
  .rename_i q' e' j' hq;rw [hq] at h0;obtain ⟨m',b',bO,aO,e⟩:=h0.abV;simp only [Value.pointer.injEq,Option.some.injEq,Addr.mk.injEq] at e;obtain ⟨rfl,_⟩:=e;exact .mp bO aO
  .exact .dead _
 | dead u=>exact .dead u
theorem RV.lift {w':World} {X':Nat->Prop} {au:Mu} (hD:∀ u d,RD w (XX X μ) u d->RD w' (XX X' au) u d) (eb:∀ q m,μ q=some m->au q=some m):∀ {v:Value} {x:AV},RV w X μ v x->RV w' X' au v x:=by
 intro v x hr
 induction hr with
 | d h'=>exact .d (hD _ _ h')
 | own hm h'=>exact .own (eb _ _ hm) h'
 | ref hm hb=>exact .ref (eb _ _ hm) hb
 | agg hn _ ih=>exact .agg hn ih
 | Z4 hn _ ih=>exact .Z4 hn ih
 | br _ ih=>exact .br ih
 | bm _ ih=>exact .bm ih
 | fn hn _ ih=>exact .fn hn ih
 | mp hm hb=>exact .mp (eb _ _ hm) hb
 | dead u=>exact .dead u
theorem gS.r4 {w':World} {X':Nat->Prop} {au:Mu} {o f:Nat->Nat->Nat->AV} {m:fU} (hb:∀ b,m.blk=some b->w'.heap[b]? = w.heap[b]?) (hD:∀ u d,RD w (XX X μ) u d->RD w' (XX X' au) u d) (hV:∀ u x,RV w X μ u x->RV w' X' au u (x.tr o f)) {row:Row} (ok:gS w X μ m row):gS w' X' au m (row.tr o f):=by
 cases ok with
 | nil h1 h2=>exact .nil h1 h2
 | sl h1 h2 h3 h4 h5 h6 h7 h8 h9=>exact .sl h1 h2 ((hb _ h1).trans h3) h4 h5 h6 h7 h8 fun i j el c he hc=>let ⟨u,hu,hr⟩:=h9 i j el c he hc;⟨u,hu,hD _ _ hr⟩
 | box h1 h2 h3 h4 h5 h6 h7=>
  refine .box h1 rfl h3 ((hb _ h1).trans h4) (by simpa using h5) (hx:=by simpa using h7) fun j u c hu hc=>?_;rw [List.getElem?_map] at hc;obtain ⟨c',cA,rfl⟩:=Option.map_eq_some_iff.1 hc;exact hV _ _ (h6 j u c' hu cA)
 | mp h1 h2 h3 h4=>exact .mp h1 ((hb _ h1).trans h2) h3 fun i e p he hp=>let ⟨a,b,c⟩:=h4 i e p he hp;⟨a,b,hD _ _ c⟩
 | it h1 h2 h3=>exact .it h1 ((hb _ h1).trans h2) (hD _ _ h3)
theorem gS.lift {w':World} {X':Nat->Prop} {au:Mu} {m:fU} (hb:∀ b,m.blk=some b->w'.heap[b]? = w.heap[b]?) (hD:∀ u d,RD w (XX X μ) u d->RD w' (XX X' au) u d) (eb:∀ q m,μ q=some m->au q=some m) {row:Row} (ok:gS w X μ m row):gS w' X' au m row:=by
 cases ok with
 | nil h1 h2=>exact .nil h1 h2
 | sl h1 h2 h3 h4 h5 h6 h7 h8 h9=>exact .sl h1 h2 ((hb _ h1).trans h3) h4 h5 h6 h7 h8 fun i j el c he hc=>let ⟨u,hu,hr⟩:=h9 i j el c he hc;⟨u,hu,hD _ _ hr⟩
 | box h1 h2 h3 h4 h5 h6 h7=>exact .box h1 rfl h3 ((hb _ h1).trans h4) h5 (fun j u c hu hc=>(h6 j u c hu hc).lift hD eb) h7
 | mp h1 h2 h3 h4=>exact .mp h1 ((hb _ h1).trans h2) h3 fun i e p he hp=>let ⟨a,b,c⟩:=h4 i e p he hp;⟨a,b,hD _ _ c⟩
 | it h1 h2 h3=>exact .it h1 ((hb _ h1).trans h2) (hD _ _ h3)
theorem nG {keep:Nat->Bool} {b:Nat} (h:fO (bF keep μ) b):fO μ b:=let ⟨r,m,hr,hb⟩:=h;⟨r,m,(abh hr).2,hb⟩
theorem AG {bT:List Nat} {b:Nat}:XX (XX X (bF (dP bT) μ)) (bF bT.contains μ) b↔XX X μ b:=by
 constructor
 .rintro ((h | h) | h)
  .exact .inl h
  .exact .inr (nG h)
  .exact .inr (nG h)
 .rintro (h | ⟨r,m,hr,hb⟩)
  .exact .inl (.inl h)
  .cases hk:bT.contains r with
   | true=>exact .inr ⟨r,m,by simp only [bF,hk,if_true];exact hr,hb⟩
   | false=>exact .inl (.inr ⟨r,m,by simp only [bF,dP,hk,Bool.not_false,if_true];exact hr,hb⟩)
theorem cK.part {H:Heap} (hs:cK w X μ H) (bT:List Nat):cK w (XX X (bF (dP bT) μ)) (bF bT.contains μ) (trH bT.contains (du bT) (dt bT) H)/\
  ∀ {u:Value} {x:AV},RV w X μ u x->RV w (XX X (bF (dP bT) μ)) (bF bT.contains μ) u (x.tr (du bT) (dt bT)):=by
 have hD:∀ u d,RD w (XX X μ) u d->RD w (XX (XX X (bF (dP bT) μ)) (bF bT.contains μ)) u d:=fun u d h=>h.sub fun b=>AG.1
 have hV:∀ u x,RV w X μ u x->RV w (XX X (bF (dP bT) μ)) (bF bT.contains μ) u (x.tr (du bT) (dt bT)):=fun u x=>RV.r4 hD (fun u r off n h=>by
   unfold du;split
   .rename_i hk;obtain ⟨m,hm,hh⟩:=h.iK;exact .own (by simp only [bF,hk,if_true];exact hm) hh
   .exact .dead u) (fun u r e j h=>by
   unfold dt;split
   .rename_i hk;obtain ⟨m,b,hm,hb,rfl⟩:=h.abV;exact .ref (by simp only [bF,hk,if_true];exact hm) hb
   .exact .dead u)
 refine ⟨⟨fun r row hr=>?_,fun r m hr=>?_,fun q q' m1 m2 b h1 h2 c6 ey=>hs.inj q q' m1 m2 b (abh h1).2 (abh h2).2 c6 ey,fun q m b hq hb hX=>?_,fun b hb=>hb.elim (hs.fits b) fun h=>hs.iS (nG h)⟩,fun h=>hV _ _ h⟩
 .unfold trH at hr;split at hr
  .rename_i hk;obtain ⟨acq,h0,rfl⟩:=Option.map_eq_some_iff.1 hr;obtain ⟨m,hm,ok⟩:=hs.rows r acq h0;exact ⟨m,by simp only [bF,hk,if_true];exact hm,ok.r4 (fun _ _=>rfl) hD hV⟩
  .cases hr
 .obtain ⟨hk,hm⟩:=abh hr;obtain ⟨row,cz⟩:=hs.dom r m hm;exact ⟨row.tr (du bT) (dt bT),by simp only [trH,hk,if_true,cz,Option.map_some]⟩
 .obtain ⟨hk,hm⟩:=abh hq
  rcases hX with h | ⟨r,mr,hr,B4⟩
  .exact hs.frame q m b hm hb h
  .obtain ⟨hk',s6⟩:=abh hr;have:=hs.inj q r m mr b hm s6 hb B4;subst this;simp only [dP,hk,Bool.not_true,Bool.false_eq_true] at hk'
theorem ab2.zg {fx bT:List Nat} {g:FuncId} {jJ xs:List AV} {H1 H2:Heap} {y:AV} (hc:MC P G fx g xs H1 y H2) (hx:jJ.map (AV.tr (du bT) (dt bT))=xs) (hH:trH bT.contains (du bT) (dt bT) σ.H=H1)
  (hd:∀ q,(H2 q).isSome=true->bT.contains q=true\/σ.H q=none) (hm:∀ r,bT.contains r=true->fx.contains r=false->Mv r) {K:AV->St->Prop}
  (h:K y ⟨trE (iQ bT fx) (iP bT fx) σ.env,jv H2 (trH (dP bT) (iQ bT fx) (iP bT fx) σ.H)⟩):ab2 P Mv X G N g jJ σ K:=by
 refine ⟨hc.1,fun w μ a vs hi hn hv=>?_⟩;obtain ⟨cW,gg⟩:=hi.aS.part bT;rw [hH] at cW;refine (hc.2 (XX X (bF (dP bT) μ)) w (bF bT.contains μ) vs cW (fun g x hx=>(hi.fV g x hx).sub fun b=>AG.1) (by rw [hn,<- hx,List.length_map]) fun i u x hu lu=>?_).mono ?_
 .rw [<- hx,List.getElem?_map] at lu;obtain ⟨x0,pP,rfl⟩:=Option.map_eq_some_iff.1 lu;exact gg (hv i u x0 hu pP)
 .rintro e w' ⟨v,x,H',gP,rfl,⟨rfl,rfl⟩,hr,dh,aG⟩
  have PM:∀ q m,gP q=some m->bT.contains q=true\/μ q=none:=fun q m hq=>by
   obtain ⟨row,cz⟩:=dh.dom q m hq
   rcases hd q (by rw [cz];rfl) with h | h
   .exact .inl h
   .exact .inr (hi.aS.rO h)
  let au:Mu:=fun q=>match gP q with
   | some m=>some m
   | none=>bF (dP bT) μ q
  have m2:∀ q m,gP q=some m->au q=some m:=fun q m hq=>by simp only [au,hq]
  have mr:∀ q m,bT.contains q=false->μ q=some m->au q=some m:=fun q m hk hq=>by
   have h2:gP q=none:=by
    cases h2:gP q with
    | none=>rfl
    | some m'=>
     rcases PM q m' h2 with h | h
     .rw [hk] at h;cases h
     .rw [hq] at h;cases h
   simp only [au,h2,bF,dP,hk,Bool.not_false,if_true,hq]
  have of:∀ q m,au q=some m->gP q=some m\/(gP q=none/\bT.contains q=false/\μ q=some m):=fun q m hq=>by
   cases h2:gP q with
   | some m'=>simp only [au,h2] at hq;exact .inl hq
   | none=>
    simp only [au,h2] at hq;obtain ⟨hk,hm⟩:=abh hq;exact .inr ⟨rfl,by simpa [dP] using hk,hm⟩
  have same:∀ b,b < w.heap.size->¬ fO (bF bT.contains μ) b->w'.heap[b]? = w.heap[b]?/\¬ fO gP b:=aG.same
  have sR:∀ b,XX X au b->XX (XX X (bF (dP bT) μ)) gP b:=fun b hb=>by
   rcases hb with hb | ⟨q,m,hq,hbq⟩
   .exact .inl (.inl hb)
   .rcases of q m hq with h2 | ⟨_,hk,hm⟩
    .exact .inr ⟨q,m,h2,hbq⟩
    .exact .inl (.inr ⟨q,m,by simp only [bF,dP,hk,Bool.not_false,if_true];exact hm,hbq⟩)
  have hD:∀ u d,RD w (XX X μ) u d->RD w' (XX X au) u d:=fun u d h=>h.mono aG.size fun b hb hX=>by
   obtain ⟨h1,h2⟩:=same b hb fun hr=>hX (.inr (nG hr));refine ⟨h1,fun Pe=>?_⟩
   rcases Pe with h | ⟨q,m,hq,hbq⟩
   .exact hX (.inl h)
   .rcases of q m hq with h3 | ⟨_,_,hm⟩
    .exact h2 ⟨q,m,h3,hbq⟩
    .exact hX (.inr ⟨q,m,hm,hbq⟩)
  have GJ:∀ u d,RD w' (XX (XX X (bF (dP bT) μ)) gP) u d->RD w' (XX X au) u d:=fun u d h=>h.sub sR
  have stay:∀ q m,(bT.contains q && !fx.contains q)=false->μ q=some m->au q=some m:=fun q m hk hq=>by
   cases hl:bT.contains q with
   | false=>exact mr q m hl hq
   | true=>
    rw [hl,Bool.true_and] at hk
    have hfx:fx.contains q=true:=by simpa using hk
    exact m2 q m (aG.kept q m (by simp only [bF,hl,if_true];exact hq) (by unfold fM;rw [hfx];simp))
  have hV:∀ u x,RV w X μ u x->RV w' X au u (x.tr (iQ bT fx) (iP bT fx)):=fun u x=>RV.r4 hD (fun u r off n h=>by
    unfold iQ;split
    .exact .dead u
    .rename_i hk;obtain ⟨m,hm,hh⟩:=h.iK
     exact .own (stay r m (by simpa using hk) hm) hh) (fun u r e j h=>by
    unfold iP;split
    .exact .dead u
    .rename_i hk;obtain ⟨m,b,hm,hb,rfl⟩:=h.abV
     exact .ref (stay r m (by simpa using hk) hm) hb)
  refine ⟨v,x,_,au,rfl,h,⟨⟨fun q row hq=>?_,fun q m hq=>?_,fun q q' m1 mm b h1 h2 c6 ey=>?_,fun q m b hq hb=>?_,fun b hb=>Nat.lt_of_lt_of_le (hi.aS.fits b hb) aG.size⟩,⟨hi.env.defers,hi.env.size,fun i x hx=>?_⟩,fun g x hx=>hD _ _ (hi.fV g x hx)⟩,hr.lift GJ m2,aG.size,aG.os,aG.tape,aG.output,fun b hb oK=>?_,fun r m hr hn=>?_⟩
  .simp only [jv] at hq;split at hq
   .rename_i adJ h2;obtain rfl:=Option.some.inj hq;obtain ⟨m,hm,ok⟩:=dh.rows q adJ h2;exact ⟨m,m2 q m hm,ok.lift (fun _ _=>rfl) GJ m2⟩
   .unfold trH at hq;split at hq
    .rename_i hk
     have hk':bT.contains q=false:=by simpa [dP] using hk
     obtain ⟨acq,h0,rfl⟩:=Option.map_eq_some_iff.1 hq;obtain ⟨m,hm,ok⟩:=hi.aS.rows q acq h0;refine ⟨m,mr q m hk' hm,ok.r4 (fun b hb=>(same b (ok.iS hb) fun ⟨r,Ul,jY,B4⟩=>?_).1) hD hV⟩;obtain ⟨pD,s6⟩:=abh jY;have:=hi.aS.inj q r m Ul b hm s6 hb B4;subst this;rw [hk'] at pD;cases pD
    .cases hq
  .simp only [jv]
   rcases of q m hq with h2 | ⟨h2,hk,hm⟩
   .obtain ⟨row,cz⟩:=dh.dom q m h2;exact ⟨row,by rw [cz]⟩
   .have vM:H' q=none:=by
     cases hh:H' q with
     | none=>rfl
     | some row=>obtain ⟨m',bO,_⟩:=dh.rows q row hh;rw [h2] at bO;cases bO
    obtain ⟨row,cz⟩:=hi.aS.dom q m hm;exact ⟨row.tr (iQ bT fx) (iP bT fx),by rw [vM];simp only [trH,dP,hk,Bool.not_false,if_true,cz,Option.map_some]⟩
  .rcases of q m1 h1 with g1 | ⟨_,k1,g1⟩<;>rcases of q' mm h2 with g2 | ⟨_,k2,g2⟩
   .exact dh.inj q q' m1 mm b g1 g2 c6 ey
   .exact absurd (.inr ⟨q',mm,by simp only [bF,dP,k2,Bool.not_false,if_true];exact g2,ey⟩) (dh.frame q m1 b g1 c6)
   .exact absurd (.inr ⟨q,m1,by simp only [bF,dP,k1,Bool.not_false,if_true];exact g1,c6⟩) (dh.frame q' mm b g2 ey)
   .exact hi.aS.inj q q' m1 mm b g1 g2 c6 ey
  .rcases of q m hq with g1 | ⟨_,k1,g1⟩
   .exact fun hX=>dh.frame q m b g1 hb (.inl hX)
   .exact hi.aS.frame q m b g1 hb
  .replace hx:trE (iQ bT fx) (iP bT fx) σ.env i=some x:=hx;unfold trE at hx;obtain ⟨x0,h0,rfl⟩:=Option.map_eq_some_iff.1 hx;obtain ⟨u,hu,hr⟩:=hi.env.slot i x0 h0;exact ⟨u,hu,hV _ _ hr⟩
  .obtain ⟨h1,h2⟩:=same b hb fun hr=>oK (nG hr);refine ⟨h1,fun ⟨q,m,hq,hbq⟩=>?_⟩
   rcases of q m hq with h3 | ⟨_,_,hm⟩
   .exact h2 ⟨q,m,h3,hbq⟩
   .exact oK ⟨q,m,hm,hbq⟩
  .cases hl:bT.contains r with
   | false=>exact mr r m hl hr
   | true=>
    cases hf:fx.contains r with
    | false=>exact absurd (hm r hl hf) hn
    | true=>exact stay r m (by rw [hl,hf];rfl) hr
theorem aap.zg {fx:List Nat} {g:FuncId} {jJ xs:List AV} {H1 H2:Heap} {y:AV} {dst:Option Tmp} {next:St->Prop} (bT:List Nat) (hc:MC P G fx g xs H1 y H2) (hx:jJ.map (AV.tr (du bT) (dt bT))=xs) (hH:trH bT.contains (du bT) (dt bT) σ.H=H1)
  (hd:∀ q,(H2 q).isSome=true->bT.contains q=true\/σ.H q=none) (hm:∀ r,bT.contains r=true->fx.contains r=false->Mv r)
  (h:next ⟨Z2 (trE (iQ bT fx) (iP bT fx) σ.env) dst y,jv H2 (trH (dP bT) (iQ bT fx) (iP bT fx) σ.H)⟩):aap P Mv X G N g jJ σ dst next:=
 ab2.zg hc hx hH hd hm h
theorem aap.mc {fx:List Nat} {g:FuncId} {jJ xs:List AV} {bJ dT:List (Nat×Row)} {y:AV} {dst:Option Tmp} {next:St->Prop} (hc:MC P G fx g xs (ZX bJ) y (ZX dT)) (hx:jJ.map (AV.tr (du (bJ.map (·.1))) (dt (bJ.map (·.1))))=xs)
  (hH:∀ p∈bJ,(σ.H p.1).map (Row.tr (du (bJ.map (·.1))) (dt (bJ.map (·.1))))=ZX bJ p.1) (hd:∀ p∈dT,(bJ.map (·.1)).contains p.1=true\/σ.H p.1=none) (hm:∀ r∈bJ.map (·.1),fx.contains r=false->Mv r)
  (h:next ⟨Z2 (trE (iQ (bJ.map (·.1)) fx) (iP (bJ.map (·.1)) fx) σ.env) dst y,jv (ZX dT) (trH (dP (bJ.map (·.1))) (iQ (bJ.map (·.1)) fx) (iP (bJ.map (·.1)) fx) σ.H)⟩):aap P Mv X G N g jJ σ dst next:=by
 refine ab2.zg hc hx (funext (zT hH)).symm (fun q hq=>?_) (fun r hr=>hm r (List.contains_iff_mem.1 hr)) h
 have jz:∀ l:List (Nat×Row),(ZX l q).isSome=true->∃ p∈l,p.1=q:=by
  intro l
  induction l with
  | nil=>intro h;simp [ZX] at h
  | cons p l ih=>
   intro h;simp only [ZX,List.lookup] at h
   cases jB:(q == p.1) with
   | true=>exact ⟨p,by simp,by simpa using (beq_iff_eq.1 jB).symm⟩
   | false=>
    rw [jB] at h;obtain ⟨p',h1,h2⟩:=ih h;exact ⟨p',by simp [h1],h2⟩
 obtain ⟨p,hp,rfl⟩:=jz dT hq;exact hd p hp
def zP (names:List Nat) (x y:AV):Prop:=match x.tr (du names) (dt names),y with
 | .d d',.d d=>d'.le d
 | p,q=>p=q
def xO (T:Ty) (rs:List ResultVar) (y:AV) (rows:List (Nat×Row)) (σ:St):Prop:=match p9 T σ rs with
 | some (c,vs)=>c/\zP (rows.map (·.1)) (oneOf vs) y/\∀ p∈rows,(σ.H p.1).map (Row.tr (du (rows.map (·.1))) (dt (rows.map (·.1))))=ZX rows p.1
 | none=>False
def FC (T:Ty) (rs:List ResultVar) (y:AV) (rows:List (Nat×Row)):Exit->St->Prop
 | .normal,σ | .ret,σ=>xO T rs y rows σ
 | _,_=>False
theorem VP {names:List Nat} {x y:AV} {u:Value} (h:zP names x y) (hr:RV w X μ u (x.tr (du names) (dt names))):RV w X μ u y:=by
 unfold zP at h;split at h
 .rename_i d' d hx;rw [hx] at hr;exact .d (hr.data.le h)
 .rw [<- h];exact hr
theorem MC.aD (hg:Good P T) {g:FuncId} {fn:Func} {c:Code} {rs:List ResultVar} {xs:List AV} {H:Heap} {y:AV} {rows:List (Nat×Row)} {fx:List Nat} (hf:P.funcs[g]? = some fn) (hb:fn.body=some c) (hn:(fn.name == "runtime.NumGoroutine")=false) (gd:fn.results=rs.toArray)
  (hN:xs.length<=fn.ntmps) (hfx:fx.all (rows.map (·.1)).contains=true) (h:∀ X,AW P (fM fx) X G ⟨fn.ntmps,[],none⟩ c (FC T rs y rows) ⟨args xs,H⟩):MC P G fx g xs H y (ZX rows):=by
 refine ⟨eU.of hf hb hn,fun X w μ vs hs b8 aI hv=>?_⟩
 have fin:∀ (w':World) (au:Mu) (a':Act) (ar:St),xO T rs y rows ar->In w' X G au ⟨fn.ntmps,[],none⟩ a' ar->Ev (fM fx) w μ w' au->∃ v,(results fn a'.tmps).run P w' = .ok v w'/\∃ v_1 x H' au,Ending.returned v=Ending.returned v_1/\(x=y/\H'=ZX rows)/\RV w' X au v_1 x/\cK w' X au H'/\Ev (fM fx) w μ w' au:=by
  intro w' au a' ar he hi aG;unfold xO at he;split at he
  .rename_i c xs hx;obtain ⟨hc,he,QX⟩:=he;obtain ⟨v,hv,hr⟩:=En (P:=P) hg hi gd hx hc;have hX:∀ b,XX X (bF (rows.map (·.1)).contains au) b->XX X au b:=fun b=>uz
   have ho:∀ u r off n,RV w' X au u (.own r off n)->RV w' X (bF (rows.map (·.1)).contains au) u (du (rows.map (·.1)) r off n):=fun u r off n h=>by
    unfold du;split
    .rename_i hk;exact h.tP hk
    .exact .dead u
   have hf:∀ u r e j,RV w' X au u (.ref r e j)->RV w' X (bF (rows.map (·.1)).contains au) u (dt (rows.map (·.1)) r e j):=fun u r e j h=>by
    unfold dt;split
    .rename_i hk;exact h.tR hk
    .exact .dead u
   have aC:=hi.tr ho hf;have hH:trH (rows.map (·.1)).contains (du (rows.map (·.1))) (dt (rows.map (·.1))) ar.H=ZX rows:=(funext (zT QX)).symm;refine ⟨v,hv,v,y,ZX rows,_,rfl,⟨rfl,rfl⟩,VP he (RV.tr hX ho hf hr),hH ▸ aC.aS,aG.trans (qD fun r _ _ hr=>cC hfx r hr)⟩
  .exact he.elim
 refine calls_of_wp hf hb ((wpIn_wide (n:=0)).1 (wpIn_mono (h X w μ _ ⟨hs,⟨rfl,by simp;omega,fun i x hx=>?_⟩,b8⟩) fun e a' w' ⟨au,ar,q,i,ev⟩=>?_))
 .simp only [args] at hx;have hi:i < xs.length:=(List.getElem?_eq_some_iff.1 hx).1
  have mJ:vs[i]? = some vs[i]:=by rw [Array.getElem?_eq_getElem]
  exact ⟨vs[i],by rw [Array.getElem?_append_left (by omega),mJ],hv i _ x mJ hx⟩
 .cases e with
  | normal=>
   obtain ⟨v,hv,rest⟩:=fin w' au a' ar q i ev;exact ⟨i.env.defers,v,hv,rest⟩
  | ret=>
   obtain ⟨v,hv,rest⟩:=fin w' au a' ar q i ev;exact ⟨i.env.defers,v,hv,rest⟩
  | _=>exact q.elim
end
end Go.Av
namespace Go.Av
theorem afx (k:Value) (x:D):n9 k x []=[(k,x)]:=rfl
theorem NM (k:Value) (x:D) (p:Value×D) (l:List (Value×D)):n9 k x (p :: l)=if fk k p.1 then (k,x) :: l else p :: n9 k x l:=by
 unfold n9;rw [List.findIdx?_cons]
 cases h:fk k p.1 with
 | true=>simp
 | false=>
  simp only [Bool.false_eq_true,if_false];cases List.findIdx? (fun p=>fk k p.1) l<;>simp
theorem U0 (x:Value):D.one (.v x)=x.oneCell':=rfl
theorem UX (k:Option Bool) (els:List (List D)):D.one (.sl k els)=true:=rfl
theorem UU (c:List D):D.one (.ip c)=true:=rfl
theorem UR (c:List D):D.one (.agg c)=false:=rfl
theorem UZ (c:List D):D.one (.Z4 c)=false:=rfl
theorem UT (t:TypeId) (x:D):D.one (.br t x)=true:=rfl
theorem US (f:Fn) (c:List D):D.one (.fn f c)=true:=rfl
theorem afp (x:D):AV.one (.d x)=x.one:=rfl
theorem L8 (r o n:Nat):AV.one (.own r o n)=true:=rfl
theorem L9 (r e j:Nat):AV.one (.ref r e j)=true:=rfl
theorem L6 (t:TypeId) (x:AV):AV.one (.br t x)=true:=rfl
theorem afr (f:Fn) (c:List AV):AV.one (.fn f c)=true:=rfl
theorem afn (c:List AV):AV.one (.agg c)=false:=rfl
theorem Ma (c:List AV):AV.one (.Z4 c)=false:=rfl
theorem afo (g:FuncId) (x:AV):AV.one (.bm g x)=false:=rfl
theorem L7 (r:Nat):AV.one (.mp r)=true:=rfl
theorem afq:AV.one .dead=false:=rfl
theorem XP (x:Value):fS (.d (.v x))=if x.oneCell' then some [.d (.v x)] else none:=rfl
theorem XN (k:Option Bool) (els:List (List D)):fS (.d (.sl k els))=some [.d (.sl k els)]:=rfl
theorem XJ (c:List D):fS (.d (.ip c))=some [.d (.ip c)]:=rfl
theorem XC (c:List D):fS (.d (.agg c))=some (c.map .d):=rfl
theorem XG (c:List D):fS (.d (.Z4 c))=none:=rfl
theorem XF (t:TypeId) (x:D):fS (.d (.br t x))=some [.d (.br t x)]:=rfl
theorem XE (f:Fn) (c:List D):fS (.d (.fn f c))=some [.d (.fn f c)]:=rfl
theorem XL (r o n:Nat):fS (.own r o n)=some [.own r o n]:=rfl
theorem XM (r e j:Nat):fS (.ref r e j)=some [.ref r e j]:=rfl
theorem XA (c:List AV):fS (.agg c)=some c:=rfl
theorem XO (c:List AV):fS (.Z4 c)=none:=rfl
theorem XI (t:TypeId) (x:AV):fS (.br t x)=some [.br t x]:=rfl
theorem XH (f:Fn) (c:List AV):fS (.fn f c)=some [.fn f c]:=rfl
theorem XB (g:FuncId) (x:AV):fS (.bm g x)=none:=rfl
theorem XK (r:Nat):fS (.mp r)=some [.mp r]:=rfl
theorem af5:fS .dead=none:=rfl
attribute [simp] U0 UX UU UR UZ UT US afp L8 L9 L6 afr afn Ma afo L7 afq
attribute [simp] XP XN XJ XC XG XF XE XL XM XA XO XI XH XB XK af5
attribute [simp] Int.ofNat_inj List.lookup
attribute [simp] o6 adr rR kindOf Op.operands Call.operands eQ fA x5 cr aaU zf lN TypeDesc.isSlice TypeDesc.isStr xy
attribute [simp] Di xz pq lZ ld uB nW k8 TypeDesc.isAgg xW ac9 xV gB o9 ji Ag eqv
attribute [simp] DU A8 zr zp xU zk yV AM mQ bound Aa Ab TypeDesc.isBool TypeDesc.isIface zq
attribute [simp] xH Value.oneCell' xB Ee sD lz qE tQ acM rowsOf rowsOf.go St.sF lC p7 aew si EJ FI ada EI KL
attribute [simp] w5 KN rd wr kg jq Z2 wy wz cu undef dk Q6 RE RF Xn QC St.freeze bd eV ac6 eF
attribute [simp] aX ZX int Av.bool j3 lA wA iq aJ eA tgt args cF cG AV.kill AV.kill.go Row.kill trE trH AV.tr AV.tr.go Row.tr
attribute [simp] pt pr aa1 MG My St.norm rK pT du dt AK Fw ab1 dM D.scalar aM aP atEnd AQ sA p9 zQ
attribute [simp] oneOf Xo stepG mb p4 nh ku wW afx NM fk gZ bX dr zC fM iQ iP dP Qh
attribute [simp] xO FC zP xY xZ St.na uR
section
variable {P:Program} {T:Ty} {Mv X:Nat->Prop} {G:ao} {N:Fr} {w:World} {μ:Mu} {a:Act} {σ:St}
theorem aap.tr {keep:Nat->Bool} {o f:Nat->Nat->Nat->AV} {g:FuncId} {xs:List AV} {dst:Option Tmp} {next:St->Prop}
  (ho:∀ w μ a,In w X G μ N a σ->∀ u r off n,RV w X μ u (.own r off n)->RV w X (bF keep μ) u (o r off n)) (hf:∀ w μ a,In w X G μ N a σ->∀ u r e j,RV w X μ u (.ref r e j)->RV w X (bF keep μ) u (f r e j))
  (hk:∀ r,keep r=false->Mv r) (h:aap P Mv X G N g (xs.map (AV.tr o f)) ⟨trE o f σ.env,trH keep o f σ.H⟩ dst next):aap P Mv X G N g xs σ dst next:=by
 refine ⟨h.1,fun w μ a vs hi hn hv=>?_⟩;have aC:=hi.tr (ho w μ a hi) (hf w μ a hi);have aG:Ev Mv w μ w (bF keep μ):=qD fun r _ _=>hk r;refine (h.2 w (bF keep μ) a vs aC (by simpa using hn) fun i u x hu hx=>?_).mono fun e w' ⟨v,x,ar,au,he,k,da,hr,ev⟩=>⟨v,x,ar,au,he,k,da,hr,aG.trans ev⟩;rw [List.getElem?_map] at hx;obtain ⟨x0,pP,rfl⟩:=Option.map_eq_some_iff.1 hx;exact RV.tr (fun b=>uz) (ho w μ a hi) (hf w μ a hi) (hv i u x0 hu pP)
theorem aap.sF (r:Nat) {ty sz:Nat} {els:List (List D)} {g:FuncId} {xs:List AV} {dst:Option Tmp} {next:St->Prop} (hr:σ.H r=some (.sl ty sz els)) (hm:Mv r)
  (h:aap P Mv X G N g (xs.map (AV.tr (pt r els) (pr r))) ⟨trE (pt r els) (pr r) σ.env,trH (aa1 r) (pt r els) (pr r) σ.H⟩ dst next):aap P Mv X G N g xs σ dst next:=by
 refine aap.tr (keep:=aa1 r) (fun w μ a hi u q off n hu=>?_) (fun w μ a hi u q e j hu=>?_) (fun q hq=>?_) h
 .have oF:(fun q=>if q=r then none else μ q)=bF (aa1 r) μ:=by
   funext q;unfold bF aa1;by_cases h:q=r<;>simp [h]
  unfold pt;split
  .rename_i hq;subst hq
   have hd:∀ {off n:Nat},RV w X μ u (.own q off n)->off+n<=els.length->RV w X (bF (aa1 q) μ) u (.d (.sl none ((els.drop off).take n))):=fun h hle=>by
    obtain ⟨k,hk,_⟩:=zA hi.aS hr hle h;rw [oF] at hk;exact .d hk.mR
   split
   .rename_i h2;obtain ⟨rfl,rfl⟩:=h2;have:=hd hu (by omega);simpa using this
   .split
    .rename_i hle;exact hd hu hle
    .exact .dead u
  .rename_i hq;exact hu.tP (by simp [aa1,hq])
 .unfold pr;split
  .exact .dead u
  .rename_i hq;exact hu.tR (by simp [aa1,hq])
 .have e:q=r:=by simpa [aa1] using hq
  exact e ▸ hm
end
end Go.Av
