/- Parts. -/
import Derived.Test.YtdigkhaofjmgkaaGreatDoorFx7
import Derived.Orders
set_option linter.unusedSectionVars false
set_option linter.unusedSimpArgs false
set_option linter.unusedVariables false
namespace Go.Av
def kT:Operand->Nat
 | .global _=>0
 | _=>1
@[simp] theorem aaP (x:Operand):(kT x=2)=False:=by cases x<;>simp[kT]
@[simp] theorem aaQ (x:Operand):(kT x=3)=False:=by cases x<;>simp[kT]
@[simp] theorem aaR (x:Operand):(kT x=8)=False:=by cases x<;>simp[kT]
@[simp] theorem aaS (x:Operand):(kT x=9)=False:=by cases x<;>simp[kT]
@[simp] theorem aaO (x:Operand):(kT x=0\/kT x=1)=True:=by cases x<;>simp[kT]
theorem ED (x:Operand):kT x<=1:=by cases x<;>simp[kT]
def kindOf:Op->Nat
 | .load _ x=>kT x
 | .indexAddr _ _ _=>1
 | .slice _ _ _ _ _=>1
 | .lookup _ _ _ _=>1
 | .call { callee:=.value _,.. }=>2
 | .call { callee:=.builtin .append,.. }=>9
 | .call { callee:=.builtin .copy,.. }=>9
 | .alloc _=>3
 | .box _ _=>3
 | .buildSlice _ _ _=>3
 | .makeSlice _ _ _=>3
 | .store _ _ _=>8
 | .mapUpdate _ _ _ _=>8
 | .insert _ _ _ _=>8
 | .makeMap _ _=>3
 | .select _ _=>9
 | _=>0
def p0 (x y:Nat):Bool:=match x,y with
 | 0,9 | 9,_ | 1,8 | 1,9 | 2,8 | 2,9 | 3,1 | 3,2 | 3,8 | 3,9 | 8,1 | 8,2 | 8,3 | 8,8 | 8,9=>false
 | _,_=>true
def adC (ops:Array Oper) (x y:Oper):Bool:=x.apart ops y && p0 (kindOf x.op) (kindOf y.op)
def bitsOf (acc:List Nat) (o:Oper):Nat:=o.after.toList.foldr (fun e s=>if Region.binds .any e then (2 ^ e.on ||| acc.getD e.on 0) ||| s else s) 0
def oT:List Oper->List Nat->List Nat
 | [],acc=>acc
 | o :: l,acc=>oT l (acc ++ [bitsOf acc o])
def tb (ops:Array Oper):List Nat:=oT ops.toList []
def mX (ops:Array Oper):Bool:=
 let t:=tb ops
 (List.range ops.size).all fun j=>match ops[j]? with
  | some oj=>(oj.after.all fun e=>!Region.binds .any e || e.on < j) && (List.range j).all fun i=>(t.getD j 0).testBit i || match ops[i]? with
    | some oi=>adC ops oi oj && adC ops oj oi
    | none=>true
  | none=>true
section
variable {P:Program} {T:Ty} {Mv X:Nat->Prop} {G:aq} {N:Fr}
def age (P:Program) (G:aq) (σ:St) (c:Call) (y:D):Prop:=∃ g xs,tgt G σ.env c=some (g,xs)/\
 ((∃ ds,xs=ds.map .d/\ar P G g ds y)\/(∃ ds,iw (dW σ.H 4) xs=some ds/\y.scalar=true/\ar P G g ds y))
def kD (P:Program) (T:Ty) (Mv:Nat->Prop) (G:aq) (o:Oper) (σ aw:St):Prop:=match acm o.op with
 | some c=>∃ y,age P G σ c y/\aw=⟨aD σ.env o.dst (.d y),σ.H⟩
 | none=>if acS o.op then ∃ c x aG,wr T G Mv σ o=some (c,x,aG)/\c/\aw=⟨aD aG.env o.dst x,aG.H⟩
  else ∃ c x,rd T G σ o.op=some (c,x)/\c/\aw=⟨aD σ.env o.dst x,σ.H⟩
def tm (P:Program) (T:Ty) (Mv:Nat->Prop) (G:aq) (N:Fr) (ops:Array Oper) (o:Oper) (σ aw:St):Prop:=
 eU N o/\((fR ops σ.env o=some true/\kD P T Mv G o σ aw)\/(fR ops σ.env o=some false/\aw=⟨aD σ.env o.dst cy,σ.H⟩))
theorem vv (hg:Good P T) {ops:Array Oper} {o:Oper} {σ aw:St} (h:tm P T Mv G N ops o σ aw) {w:World} {μ:Mu} {a:Act} (hi:In w X G μ N a σ) {i:Nat} (ho:ops[i]? = some o) {Q:Exit->Act->World->Prop} {K:Act->World->Prop}
  (hk:∀ w' ay a',In w' X G ay N a' aw->Ev Mv w μ w' ay->K a' w'):wpOpIn (wd N.ro) 0 P ops Q i K a w:=by
 obtain⟨hd,h⟩:=h
 have gN:∀ d,o.dst=some d->d < N.n:=fun d e=>by unfold eU at hd;rw[e]at hd;exact hd
 unfold wpOpIn;simp only[ho]
 rcases h with⟨hw,h⟩ | ⟨hw,rfl⟩
 .rw[afU hi hw,if_pos rfl];refine (y3 (Mv:=Mv) (K:=fun aG=>aG=aw) hg hi gN ?_ fun w' ay a' aG e aF aH=>hk w' ay a' (e ▸ aF) aH);unfold kD at h;unfold jJ;split at h
  .rename_i c hc;obtain⟨y,⟨g,xs,ht,dJ⟩,rfl⟩:=h;simp only[hc,ht]
   rcases dJ with⟨ds,rfl,hp⟩ | ⟨ds,jo,hs,hp⟩
   .exact ad6.pure hp rfl
   .exact ad6.aee jo hp hs rfl
  .rename_i hc;simp only[hc,mg];split at h
   .rename_i zV;rw[if_pos zV];obtain⟨c,x,aG,gQ,bT,rfl⟩:=h;simp only[gQ];exact⟨bT,trivial⟩
   .rename_i zV;rw[if_neg zV];obtain⟨c,x,hr,bT,rfl⟩:=h;simp only[hr];exact⟨bT,trivial⟩
 .rw[afU hi hw,if_neg (by simp)];exact⟨fun _ _=>trivial,hk w μ _ (hi.put (.d (.v _)) gN) (.refl _ w μ)⟩
theorem Lf {e:Env} {dst:Option Tmp} {x:AV} {t:Nat} (h:dst≠some t):aD e dst x t=e t:=by
 cases dst with
 | none=>rfl
 | some d=>have:t≠d:=fun e=>h (by rw[e]);simp[aD,eW,this]
theorem fG {e:Env} {d d':Option Tmp} {x y:AV} (h:∀ t,d=some t->d'≠some t):aD (aD e d x) d' y=aD (aD e d' y) d x:=by
 cases d with
 | none=>rfl
 | some t=>
  cases d' with
  | none=>rfl
  | some t'=>
   have aI:t≠t':=fun e=>h t rfl (by rw[e]);funext i;by_cases h1:i=t<;>by_cases h2:i=t'<;>simp[aD,eW,h1,h2,aI,adr aI]
   all_goals (subst h1;simp[aI])
def fB (o:Op) (e e':Env):Prop:=∀ t,Operand.tmp t∈o.operands->e t=e' t
theorem dw {e e':Env} {x:Operand} (h:∀ t,x = .tmp t->e t=e' t):bh G e x=bh G e' x:=by
 cases x with
 | tmp t=>exact h t rfl
 | _=>rfl
theorem agR {e e':Env}:∀ {l:List Operand},(∀ t,Operand.tmp t∈l->e t=e' t)->kC G e l=kC G e' l
 | [],_=>rfl
 | x :: l,h=>by
  simp only[kC];rw[dw (x:=x) fun t ht=>h t (by simp[ht]),agR (l:=l) fun t ht=>h t (by simp[ht])]
theorem agG {e e':Env}:∀ {l:List (Nat×Operand)},(∀ t,Operand.tmp t∈l.map (·.2)->e t=e' t)->jI G e l=jI G e' l
 | [],_=>rfl
 | (i,x) :: l,h=>by
  simp only[jI];rw[dw (x:=x) fun t ht=>h t (by simp[ht]),agG (l:=l) fun t ht=>h t (by simp at ht ⊢;exact .inr ht)]
theorem GY {e e':Env} {o:Option Operand} (h:∀ t,o=some (.tmp t)->e t=e' t):bound G e o=bound G e' o:=by
 cases o with
 | none=>rfl
 | some x=>simp only[bound];rw[dw (x:=x) fun t ht=>h t (by rw[ht])]
theorem V9 {o:Op} {e e':Env} {H:Heap} (h:fB o e e'):rd T G ⟨e,H⟩ o=rd T G ⟨e',H⟩ o:=by
 unfold fB at h;cases o
 case makeFunc f first caps=>
  simp only[rd];rw[agR (l:=caps.toList) fun t ht=>h t (by simp[Op.operands];right;simpa using ht)];split
  .rfl
  .split
   .rename_i x wS dA
    rw[dw (x:=x) fun t ht=>h t (by
     have hm:x∈first:=by
      have:x∈first.toList:=by rw[wS];simp
      simpa using this
     simp only[Op.operands];rw[<- ht]
     simp[hm])]
   .rfl
 case typeAssert y xT t b=>
  simp only[rd];rw[dw (x:=y) fun t ht=>h t (by simp[Op.operands,ht])]
 case build t parts=>
  simp only[rd];rw[agG (l:=parts.toList) fun t ht=>h t (by simpa[Op.operands]using ht)]
 case slice t x lo hi mx=>
  simp only[rd];rw[dw (x:=x) fun t ht=>h t (by simp[Op.operands,ht]),GY (o:=lo) fun t ht=>h t (by simp[Op.operands,ht]),GY (o:=hi) fun t ht=>h t (by simp[Op.operands,ht])]
 case call c=>
  obtain⟨callee,args,argTypes⟩:=c
  cases callee with
  | builtin b=>
   have two:∀ {x y:Operand},args.toList=[x,y]->bh G e x=bh G e' x/\bh G e y=bh G e' y:=fun {x y} ha=>
    ⟨dw (x:=x) fun t ht=>h t (by simp[Op.operands,Call.operands];rw[<- Array.mem_toList_iff,ha];simp[ht]),
     dw (x:=y) fun t ht=>h t (by simp[Op.operands,Call.operands];rw[<- Array.mem_toList_iff,ha];simp[ht])⟩
   cases b<;>try rfl
   case len=>
    simp only[rd];split
    .rename_i x t ha ht;rw[dw (x:=x) fun t ht=>h t (by simp[Op.operands,Call.operands];rw[<- Array.mem_toList_iff,ha];simp[ht])]
    .rfl
   case max=>
    simp only[rd];split
    .rename_i x y ha;rw[(two ha).1,(two ha).2]
    .rfl
   case min=>
    simp only[rd];split
    .rename_i x y ha;rw[(two ha).1,(two ha).2]
    .rfl
  | _=>rfl
 all_goals
  simp only[Op.operands,List.mem_toArray,abV,List.not_mem_nil,or_false]at h
 all_goals
  first
   | rfl
   | (rename_i x;simp only[rd];rw[dw (x:=x) fun t ht=>h t (by simp[ht])];done)
   | (rename_i x _;simp only[rd];rw[dw (x:=x) fun t ht=>h t (by simp[ht])];done)
   | (rename_i x y;simp only[rd];rw[dw (x:=x) fun t ht=>h t (by simp[ht]),dw (x:=y) fun t ht=>h t (by simp[ht])];done)
   | (rename_i x y _;simp only[rd];rw[dw (x:=x) fun t ht=>h t (by simp[ht]),dw (x:=y) fun t ht=>h t (by simp[ht])];done)
   | (rename_i x y z;simp only[rd];rw[dw (x:=x) fun t ht=>h t (by simp[ht]),dw (x:=y) fun t ht=>h t (by simp[ht]),dw (x:=z) fun t ht=>h t (by simp[ht])];done)
def Ex (P:Program) (T:Ty) (Mv:Nat->Prop) (G:aq) (o:Oper) (e:Env) (H:Heap) (x:AV) (H':Heap):Prop:=match acm o.op with
 | some c=>∃ y,age P G ⟨e,H⟩ c y/\x = .d y/\H'=H
 | none=>if acS o.op then ∃ c,wr T G Mv ⟨e,H⟩ o=some (c,x,⟨e,H'⟩)/\c
  else ∃ c,rd T G ⟨e,H⟩ o.op=some (c,x)/\c/\H'=H
theorem agb {o:Oper} (hk:kindOf o.op≠9) {σ aG:St} {c:Prop} {x:AV} (h:wr T G Mv σ o=some (c,x,aG)):aG.env=σ.env:=by
 obtain⟨dst,op,type,pos,after,guard⟩:=o;dsimp only at hk;unfold wr at h;dsimp only at h
 repeat' split at h
 all_goals first
  | (exact absurd rfl hk)
  | (simp only[AS,BY]at h;obtain⟨_,_,rfl⟩:=h;rfl)
  | cases h
theorem Ex.of {o:Oper} (hk:kindOf o.op≠9) {σ aw:St} (h:kD P T Mv G o σ aw):∃ x H',Ex P T Mv G o σ.env σ.H x H'/\aw=⟨aD σ.env o.dst x,H'⟩:=by
 unfold kD at h;unfold Ex;split at h
 .rename_i c hc;obtain⟨y,dJ,rfl⟩:=h;(try simp only[hc]);exact⟨_,_,⟨y,dJ,rfl,rfl⟩,rfl⟩
 .rename_i hc;(try simp only[hc]);split at h
  .rename_i hw;obtain⟨c,x,aG,h1,h2,rfl⟩:=h;have he:=agb hk h1;refine⟨x,aG.H,?_,by rw[he]⟩;rw[if_pos hw];refine⟨c,?_,h2⟩;obtain⟨e,H⟩:=σ;obtain⟨e1,H1⟩:=aG;dsimp only at he;subst he;exact h1
  .rename_i hw;obtain⟨c,x,h1,h2,rfl⟩:=h;refine⟨x,σ.H,?_,rfl⟩;rw[if_neg hw];exact⟨c,h1,h2,rfl⟩
theorem Ex.to {o:Oper} {e:Env} {H H':Heap} {x:AV} (h:Ex P T Mv G o e H x H'):kD P T Mv G o ⟨e,H⟩ ⟨aD e o.dst x,H'⟩:=by
 unfold Ex at h;unfold kD;split at h
 .rename_i c hc;obtain⟨y,dJ,rfl,rfl⟩:=h;(try simp only[hc]);exact⟨y,dJ,rfl⟩
 .rename_i hc;(try simp only[hc]);split at h
  .rename_i hw;obtain⟨c,h1,h2⟩:=h;rw[if_pos hw];exact⟨c,x,_,h1,h2,rfl⟩
  .rename_i hw;obtain⟨c,h1,h2,rfl⟩:=h;rw[if_neg hw];exact⟨c,x,h1,h2,rfl⟩
theorem afr {o:Op} {c:Call} (h:acm o=some c):o = .call c/\kindOf o=2:=by
 unfold acm at h;split at h
 .obtain rfl:=AI h;exact⟨rfl,rfl⟩
 .cases h
theorem vw {e e':Env} {c:Call} (h:∀ t,Operand.tmp t∈c.operands->e t=e' t):tgt G e c=tgt G e' c:=by
 unfold tgt;split
 .rename_i f hf;rw[dw (x:=f) fun t ht=>h t (by simp[Call.operands,hf,ht]),agR (l:=c.args.toList) fun t ht=>h t (by simp[Call.operands,hf];right;simpa using ht)]
 .rfl
theorem aao {o:Oper} (hk:kindOf o.op≠9) {e e':Env} {H H':Heap} {c:Prop} {x:AV} (ha:fB o.op e e') (h:wr T G Mv ⟨e,H⟩ o=some (c,x,⟨e,H'⟩)):wr T G Mv ⟨e',H⟩ o=some (c,x,⟨e',H'⟩):=by
 obtain⟨dst,op,type,pos,after,guard⟩:=o;dsimp only at hk ha;unfold fB at ha;cases op
 case alloc t=>
  cases dst with
  | none=>cases h
  | some d=>
   simp only[wr]at h ⊢;split at h
   .rename_i ti ht;simp only[AS,BY,St.mk.injEq,true_and]at h;obtain⟨rfl,rfl,rfl⟩:=h;simp
   .cases h
 case box t y=>
  cases dst with
  | none=>cases h
  | some d=>
   simp only[wr]at h ⊢;rw[<- dw (e:=e) (x:=y) fun t ht=>ha t (by simp[Op.operands,ht])];split at h
   .simp only[AS,BY,St.mk.injEq,true_and]at h;obtain⟨rfl,rfl,rfl⟩:=h;rename_i b8;simp[b8]
   .cases h
 case store t y z=>
  cases dst with
  | some d=>cases h
  | none=>
   simp only[wr]at h ⊢;rw[<- dw (e:=e) (x:=y) fun t ht=>ha t (by simp[Op.operands,ht]),<- dw (e:=e) (x:=z) fun t ht=>ha t (by simp[Op.operands,ht])];split at h
   .rename_i r e0 j v h1 h2;(try simp only[h1,h2]);split at h
    .rename_i ty cells hH;(try simp only[hH]);split at h
     .rename_i he;(try simp only[he,if_true]);split at h
      .rename_i c' qm hs;(try simp only[hs]);simp only[AS,BY,St.mk.injEq,true_and]at h ⊢;exact h
      .cases h
     .cases h
    .rename_i ty sz els hH;(try simp only[hH]);split at h
     .rename_i c' kB hs;(try simp only[hs]);simp only[AS,BY,St.mk.injEq,true_and]at h ⊢;exact h
     .cases h
    .cases h
    .cases h
    .cases h
   .cases h
 case makeMap t rs=>
  cases dst with
  | none=>cases rs<;>cases h
  | some d=>
   cases rs with
   | some _=>cases h
   | none=>
    simp only[wr]at h ⊢;simp only[AS,BY,St.mk.injEq,true_and]at h ⊢;exact h
 case mapUpdate t m k v=>
  cases dst with
  | some d=>cases h
  | none=>
   simp only[wr]at h ⊢;rw[<- dw (e:=e) (x:=m) fun t ht=>ha t (by simp[Op.operands,ht]),<- dw (e:=e) (x:=k) fun t ht=>ha t (by simp[Op.operands,ht]),<- dw (e:=e) (x:=v) fun t ht=>ha t (by simp[Op.operands,ht])];split at h
   .rename_i r key y h1 h2 h3;(try simp only[h1,h2,h3]);split at h
    .rename_i ty ents hH;(try simp only[hH]);split at h
     .rename_i c' iQ hp;(try simp only[hp]);simp only[AS,BY,St.mk.injEq,true_and]at h ⊢;exact h
     .cases h
    .cases h
   .cases h
 case insert t m k v=>
  cases dst with
  | some d=>cases h
  | none=>
   simp only[wr]at h ⊢;rw[<- dw (e:=e) (x:=m) fun t ht=>ha t (by simp[Op.operands,ht]),<- dw (e:=e) (x:=k) fun t ht=>ha t (by simp[Op.operands,ht]),<- dw (e:=e) (x:=v) fun t ht=>ha t (by simp[Op.operands,ht])];split at h
   .rename_i r key y h1 h2 h3;(try simp only[h1,h2,h3]);split at h
    .rename_i ty ents hH;(try simp only[hH]);split at h
     .rename_i c' iQ hp;(try simp only[hp]);simp only[AS,BY,St.mk.injEq,true_and]at h ⊢;exact h
     .cases h
    .cases h
   .cases h
 case makeSlice t y z=>
  cases dst with
  | none=>cases h
  | some d=>
   simp only[wr]at h ⊢;rw[<- dw (e:=e) (x:=y) fun t ht=>ha t (by simp[Op.operands,ht]),<- dw (e:=e) (x:=z) fun t ht=>ha t (by simp[Op.operands,ht])];split at h
   .rename_i tt cC;(try simp only[cC]);split at h
    .rename_i e0 hd;(try simp only[hd]);split at h
     .rename_i te kn n km m h0 h1 h2;(try simp only[h0,h1,h2]);simp only[AS,BY,St.mk.injEq,true_and]at h ⊢;exact h
     .cases h
    .cases h
   .cases h
 case buildSlice t n ps=>
  cases dst with
  | none=>cases h
  | some d=>
   simp only[wr]at h ⊢;rw[<- agG (e:=e) (l:=ps.toList) fun t ht=>ha t (by simpa[Op.operands]using ht)];split at h
   .rename_i tt cC;(try simp only[cC]);split at h
    .rename_i e0 hd;(try simp only[hd]);split at h
     .rename_i te pp h0 h1;(try simp only[h0,h1]);split at h
      .rename_i els se;(try simp only[se]);simp only[AS,BY,St.mk.injEq,true_and]at h ⊢;exact h
      .cases h
     .cases h
    .cases h
   .cases h
 case call cc=>
  obtain⟨callee,args,argTypes⟩:=cc
  cases callee with
  | builtin b=>
   cases b<;>first | (exact absurd rfl hk) | (cases dst<;>cases h)
  | _=>cases dst<;>cases h
 all_goals (cases dst<;>cases h)
theorem Ex.congr {o:Oper} (hk:kindOf o.op≠9) {e e':Env} {H H':Heap} {x:AV} (ha:fB o.op e e') (h:Ex P T Mv G o e H x H'):Ex P T Mv G o e' H x H':=by
 unfold Ex at h ⊢;split at h
 .rename_i c hc;(try simp only[hc]);obtain⟨y,⟨g,xs,ht,dJ⟩,h2,h3⟩:=h;refine⟨y,⟨g,xs,?_,dJ⟩,h2,h3⟩;have ho:=(afr hc).1;rw[<- vw (e:=e) fun t ht=>ha t (by rw[ho];exact ht)];exact ht
 .rename_i hc;(try simp only[hc]);split at h
  .rename_i hw;rw[if_pos hw];obtain⟨c,h1,h2⟩:=h;exact⟨c,aao hk ha h1,h2⟩
  .rename_i hw;rw[if_neg hw];obtain⟨c,h1,h2,h3⟩:=h;exact⟨c,by rw[<- V9 ha];exact h1,h2,h3⟩
theorem Ab {o:Op} (h:acS o=true):kindOf o=3\/kindOf o=8\/kindOf o=9:=by
 unfold acS at h
 split at h<;>first | (exact .inl rfl) | (exact .inr (.inl rfl)) | (exact .inr (.inr rfl)) | cases h
theorem Ex.keeps {o:Oper} (hk:kindOf o.op<=2) {e:Env} {H H':Heap} {x:AV} (h:Ex P T Mv G o e H x H'):H'=H:=by
 unfold Ex at h;split at h
 .obtain⟨_,_,_,rfl⟩:=h;rfl
 .split at h
  .rename_i hw
   rcases Ab hw with h' | h' | h'<;>omega
  .obtain⟨_,_,_,rfl⟩:=h;rfl
theorem Lh {o:Op} (hk:kindOf o=0) {e:Env} (H H2:Heap):rd T G ⟨e,H⟩ o=rd T G ⟨e,H2⟩ o:=by
 cases o
 case call c=>
  obtain⟨callee,args,argTypes⟩:=c
  cases callee with
  | builtin b=>cases b<;>rfl
  | _=>rfl
 case load t y=>
  cases y with
  | global g=>
   simp only[rd,bh]
   cases G g with
   | none=>rfl
   | some x=>cases x<;>rfl
  | _=>simp[kindOf,kT]at hk
 all_goals first | rfl | (simp[kindOf]at hk)
theorem Wc {o:Op} (hk:kindOf o=1) {e:Env} {H:Heap} {d:Nat} (hd:H d=none) (row:Row) {c:Prop} {x:AV} (h:rd T G ⟨e,H⟩ o=some (c,x)):rd T G ⟨e,aM H d row⟩ o=some (c,x):=by
 have key:∀ r y,H r=some y->aM H d row r=some y:=fun r y hr=>by
  unfold aM;split
  .rename_i hh;subst hh;rw[hd]at hr;cases hr
  .exact hr
 have kl:∀ t v,aef T H t v=some (c,x)->aef T (aM H d row) t v=some (c,x):=fun t v h=>by
  unfold aef at h ⊢;split at h
  .exact h
  .split at h
   .rename_i hr;simp only[key _ _ hr];exact h
   .rename_i hr;simp only[key _ _ hr];exact h
   .cases h
   .cases h
   .cases h
  .cases h
 have km:∀ t b v u,kU T H t b v u=some (c,x)->kU T (aM H d row) t b v u=some (c,x):=fun t b v u h=>by
  unfold kU at h ⊢;split at h
  .split at h
   .rename_i hr h2;simp only[key _ _ hr,h2];exact h
   .cases h
  .exact h
  .cases h
 have ki:∀ t v u,mR T H t v u=some (c,x)->mR T (aM H d row) t v u=some (c,x):=fun t v u h=>by
  unfold mR at h ⊢;split at h
  .exact h
  .split at h
   .rename_i h1 hr;simp only[h1,key _ _ hr];exact h
   .rename_i h1 hr;simp only[h1,key _ _ hr];exact h
   .cases h
  .exact h
  .exact h
  .cases h
 have ks:∀ t v l u,nZ T H t v l u=some (c,x)->nZ T (aM H d row) t v l u=some (c,x):=fun t v l u h=>by
  unfold nZ at h ⊢;dsimp only at h ⊢;split at h
  .exact h
  .exact h
  .split at h
   .rename_i h1 hr;simp only[h1,key _ _ hr];exact h
   .cases h
  .cases h
 cases o
 case load t y=>
  simp only[rd,ab9]at h ⊢;obtain⟨v,h1,h2⟩:=h;exact⟨v,h1,kl t v h2⟩
 case indexAddr t y z=>
  simp only[rd]at h ⊢;split at h
  .exact ki _ _ _ h
  .cases h
 case slice t y lo hi mx=>
  simp only[rd]at h ⊢;split at h
  .rename_i fh;rw[if_pos fh];split at h
   .exact ks _ _ _ _ h
   .cases h
  .cases h
 case lookup t y z b=>
  simp only[rd]at h ⊢;split at h
  .exact km _ _ _ _ h
  .cases h
 case call cc=>
  obtain⟨callee,args,argTypes⟩:=cc
  cases callee with
  | builtin b=>cases b<;>simp[kindOf]at hk
  | _=>simp[kindOf]at hk
 all_goals (simp[kindOf]at hk)
theorem tF {f g:AV->Option D} (h:∀ x y,f x=some y->g x=some y):∀ {l:List AV} {ys:List D},iw f l=some ys->iw g l=some ys
 | [],_,hh=>hh
 | x :: l,ys,hh=>by
  simp only[iw]at hh ⊢
  cases hf:f x with
  | none=>simp[hf]at hh
  | some y=>
   cases hl:iw f l with
   | none=>simp[hf,hl]at hh
   | some zs=>
    simp only[hf,hl]at hh;rw[h x y hf,tF h hl];exact hh
theorem NO {H:Heap} {d:Nat} (hd:H d=none) (row:Row):∀ (k:Nat) (x:AV) (y:D),dW H k x=some y->dW (aM H d row) k x=some y:=by
 have key:∀ r y,H r=some y->aM H d row r=some y:=fun r y hr=>by
  unfold aM;split
  .rename_i hh;subst hh;rw[hd]at hr;cases hr
  .exact hr
 intro k
 induction k with
 | zero=>intro x y h;cases x<;>simp only[dW]at h ⊢<;>first | exact h | cases h
 | succ k ih=>
  intro x y h
  cases x with
  | d x=>simpa only[dW]using h
  | own r off n=>
   simp only[dW]at h ⊢;split at h
   .rename_i hr;rw[key _ _ hr];exact h
   .cases h
  | ref r e j=>
   simp only[dW]at h ⊢;split at h
   .rename_i hr;rw[key _ _ hr];dsimp only;split at h
    .rename_i he;rw[if_pos he];obtain⟨ys,h1,h2⟩:=AT.1 h;exact AT.2 ⟨ys,tF ih h1,h2⟩
    .cases h
   .cases h
  | agg cells=>simp only[dW]at h ⊢;obtain⟨ys,h1,h2⟩:=AT.1 h;exact AT.2 ⟨ys,tF ih h1,h2⟩
  | aW cells=>simp only[dW]at h ⊢;obtain⟨ys,h1,h2⟩:=AT.1 h;exact AT.2 ⟨ys,tF ih h1,h2⟩
  | fn f cells=>simp only[dW]at h ⊢;obtain⟨ys,h1,h2⟩:=AT.1 h;exact AT.2 ⟨ys,tF ih h1,h2⟩
  | bt t x=>simp only[dW]at h ⊢;obtain⟨ys,h1,h2⟩:=AT.1 h;exact AT.2 ⟨ys,ih _ _ h1,h2⟩
  | mp r=>
   simp only[dW]at h ⊢;split at h
   .rename_i hr;rw[key _ _ hr];exact h
   .cases h
  | bm g x=>simp only[dW]at h;cases h
  | dead=>simp only[dW]at h;cases h
theorem Ex.grow {o:Oper} (hk:kindOf o.op=1\/kindOf o.op=2) {e:Env} {H H':Heap} {x:AV} (h:Ex P T Mv G o e H x H') {d:Nat} (hd:H d=none) (row:Row):Ex P T Mv G o e (aM H d row) x (aM H d row):=by
 unfold Ex at h ⊢;split at h
 .rename_i c hc;(try simp only[hc]);obtain⟨y,⟨g,xs,ht,dJ⟩,h2,_⟩:=h;refine⟨y,⟨g,xs,ht,?_⟩,h2,by trivial⟩
  rcases dJ with h | ⟨ds,h3,h4,h5⟩
  .exact .inl h
  .exact .inr ⟨ds,tF (NO hd row 4) h3,h4,h5⟩
 .rename_i hc;(try simp only[hc]);split at h
  .rename_i hw
   rcases Ab hw with h' | h' | h'<;>omega
  .rename_i hw;rw[if_neg hw];obtain⟨c,h1,h2,_⟩:=h
   rcases hk with hk | hk
   .exact⟨c,Wc hk hd row h1,h2,by trivial⟩
   .exfalso;obtain⟨dst,op,type,pos,after,guard⟩:=o;dsimp only at hk hc;unfold kindOf at hk
    split at hk<;>first | omega | skip
    .have:=ED ‹_›;omega
    .simp[acm]at hc
theorem Ex.free {o:Oper} (hk:kindOf o.op=0) {e:Env} {H H':Heap} {x:AV} (h:Ex P T Mv G o e H x H') (H2:Heap):Ex P T Mv G o e H2 x H2:=by
 unfold Ex at h ⊢;split at h
 .rename_i c hc;have:=(afr hc).2;omega
 .rename_i hc;(try simp only[hc]);split at h
  .rename_i hw
   rcases Ab hw with h' | h' | h'<;>omega
  .rename_i hw;rw[if_neg hw];obtain⟨c,h1,h2,_⟩:=h;exact⟨c,by rw[Lh hk H2 H];exact h1,h2,by trivial⟩
theorem Ex.makes {o:Oper} (hk:kindOf o.op=3) {e:Env} {H H':Heap} {x:AV} (h:Ex P T Mv G o e H x H'):∃ d row,o.dst=some d/\H d=none/\H'=aM H d row/\∀ H2,H2 d=none->Ex P T Mv G o e H2 x (aM H2 d row):=by
 obtain⟨dst,op,type,pos,after,guard⟩:=o;dsimp only at hk;unfold Ex at h;unfold Ex
 have hc:acm op=none:=by
  cases bT:acm op with
  | none=>rfl
  | some c=>have:=(afr bT).2;omega
 simp only[hc]at h ⊢
 cases op<;>simp only[kindOf]at hk<;>first | omega | skip
 case load t y=>have:=ED y;omega
 case alloc t=>
  simp only[acS,if_true]at h ⊢;obtain⟨c,h1,h2⟩:=h
  cases dst with
  | none=>cases h1
  | some d=>
   simp only[wr]at h1 ⊢;split at h1
   .simp only[AS,BY,St.mk.injEq,true_and]at h1;obtain⟨rfl,rfl,rfl⟩:=h1;exact⟨d,_,rfl,h2,rfl,fun H2 h=>⟨_,rfl,h⟩⟩
   .cases h1
 case box t y=>
  simp only[acS,if_true]at h ⊢;obtain⟨c,h1,h2⟩:=h
  cases dst with
  | none=>cases h1
  | some d=>
   simp only[wr]at h1 ⊢;split at h1
   .simp only[AS,BY,St.mk.injEq,true_and]at h1;obtain⟨rfl,rfl,rfl⟩:=h1;exact⟨d,_,rfl,h2,rfl,fun H2 h=>⟨_,rfl,h⟩⟩
   .cases h1
 case makeSlice t y z=>
  simp only[acS,if_true]at h ⊢;obtain⟨c,h1,h2⟩:=h
  cases dst with
  | none=>cases h1
  | some d=>
   simp only[wr]at h1 ⊢;split at h1
   .split at h1
    .split at h1
     .simp only[AS,BY,St.mk.injEq,true_and]at h1;obtain⟨rfl,rfl,rfl⟩:=h1;exact⟨d,_,rfl,h2.1,rfl,fun H2 h=>⟨_,rfl,h,h2.2⟩⟩
     .cases h1
    .cases h1
   .cases h1
 case buildSlice t n ps=>
  simp only[acS,if_true]at h ⊢;obtain⟨c,h1,h2⟩:=h
  cases dst with
  | none=>cases h1
  | some d=>
   simp only[wr]at h1 ⊢;split at h1
   .split at h1
    .split at h1
     .split at h1
      .simp only[AS,BY,St.mk.injEq,true_and]at h1;obtain⟨rfl,rfl,rfl⟩:=h1;exact⟨d,_,rfl,h2.1,rfl,fun H2 h=>⟨_,rfl,h,h2.2⟩⟩
      .cases h1
     .cases h1
    .cases h1
   .cases h1
 case makeMap t rs=>
  simp only[acS,if_true]at h ⊢;obtain⟨c,h1,h2⟩:=h
  cases dst with
  | none=>cases rs<;>cases h1
  | some d=>
   cases rs with
   | some _=>cases h1
   | none=>
    simp only[wr]at h1 ⊢;simp only[AS,BY,St.mk.injEq,true_and]at h1;obtain⟨rfl,rfl,rfl⟩:=h1;exact⟨d,_,rfl,h2,rfl,fun H2 h=>⟨_,rfl,h⟩⟩
 case call cc=>
  obtain⟨callee,args,argTypes⟩:=cc
  cases callee with
  | builtin b=>cases b<;>simp at hk
  | _=>simp at hk
end
end Go.Av
namespace Go.Av
section
variable {P:Program} {T:Ty} {Mv X:Nat->Prop} {G:aq} {N:Fr} {ops:Array Oper}
def Sx (P:Program) (T:Ty) (Mv:Nat->Prop) (G:aq) (N:Fr) (ops:Array Oper) (o:Oper) (e:Env) (H:Heap) (x:AV) (H':Heap):Prop:=
 eU N o/\((fR ops e o=some true/\Ex P T Mv G o e H x H')\/(fR ops e o=some false/\x=cy/\H'=H))
theorem iK {o:Oper} {t:Tmp} (h:Operand.tmp t∈o.op.operands):t∈o.looksAt ops:=
 aeQ _ (List.mem_filterMap.2 ⟨.tmp t,by simpa using h,rfl⟩)
theorem Bt {o:Oper} {e e':Env} (h:∀ t∈o.looksAt ops,e t=e' t):fR ops e o=fR ops e' o:=by
 unfold fR;split
 .rfl
 .rename_i j want hg;unfold zf;split
  .rename_i d hd;rw[h d (List.mem_append_right _ (by simp[hg,hd]))]
  .rfl
theorem adA {x y:Oper} (h:x.apart ops y=true) {e:Env} {v:AV}:(∀ t∈y.looksAt ops,aD e x.dst v t=e t)/\(∀ t∈x.looksAt ops,aD e y.dst v t=e t)/\(∀ d,x.dst=some d->y.dst≠some d):=by
 obtain⟨h1,h2,h3⟩:=Oper.apart_spec h;exact⟨fun t ht=>Lf fun e=>h1 t e ht,fun t ht=>Lf fun e=>h3 t e ht,h2⟩
theorem kinds (o:Op):kindOf o=0\/kindOf o=1\/kindOf o=2\/kindOf o=3\/kindOf o=8\/kindOf o=9:=by unfold kindOf;split<;>simp
theorem tJ {q p:Oper} (hc:adC ops q p=true) {e:Env} {H H1 H2:Heap} {x y:AV} (hq:Sx P T Mv G N ops q e H x H1) (hp:Sx P T Mv G N ops p (aD e q.dst x) H1 y H2) (IW:kindOf q.op≠9) (IX:kindOf p.op≠9) :
  ∃ H3,Sx P T Mv G N ops p e H y H3/\Sx P T Mv G N ops q (aD e p.dst y) H3 x H2:=by
 simp only[adC,abI]at hc;obtain⟨hap,acO⟩:=hc;obtain⟨a1,_,aI⟩:=adA hap (e:=e) (v:=x);obtain⟨_,a2,_⟩:=adA hap (e:=e) (v:=y);have wp:=Bt (o:=p) (e:=aD e q.dst x) (e':=e) a1;have wq:=Bt (o:=q) (e:=aD e p.dst y) (e':=e) a2;have GH:fB p.op (aD e q.dst x) e:=fun t ht=>a1 t (iK ht);have GI:fB q.op e (aD e p.dst y):=fun t ht=>(a2 t (iK ht)).symm;obtain⟨dq,hq⟩:=hq;obtain⟨dp,hp⟩:=hp;rw[wp]at hp
 rcases hq with⟨lP,eq⟩ | ⟨lP,rfl,rfl⟩
 .rcases hp with⟨wp1,ep⟩ | ⟨wp1,rfl,rfl⟩
  .have qw:=ep.congr IX GH;have vZ:=eq.congr IW GI
   have fin:∀ H3,Ex P T Mv G p e H y H3->Ex P T Mv G q (aD e p.dst y) H3 x H2->∃ H3,Sx P T Mv G N ops p e H y H3/\Sx P T Mv G N ops q (aD e p.dst y) H3 x H2:=fun H3 h1 h2=>
    ⟨H3,⟨dp,.inl ⟨wp1,h1⟩⟩,⟨dq,.inl ⟨by rw[wq];exact lP,h2⟩⟩⟩
   by_cases TE:kindOf p.op=0
   .obtain rfl:=qw.keeps (by omega);exact fin H (qw.free TE H) vZ
   .by_cases TF:kindOf q.op=0
    .obtain rfl:=eq.keeps (by omega);exact fin H2 qw (vZ.free TF H2)
    .by_cases kk:kindOf q.op<=2/\kindOf p.op<=2
     .obtain rfl:=eq.keeps kk.1;obtain rfl:=qw.keeps kk.2;exact fin _ qw vZ
     .by_cases k3:kindOf q.op=3/\kindOf p.op=3
      .obtain⟨d,row,hd,hn,rfl,bC⟩:=vZ.makes k3.1;obtain⟨d',ac9,gN,mM,rfl,C7⟩:=qw.makes k3.2;have cM:d≠d':=fun e=>aI d hd (by rw[gN,e])
       have kh:H d'=none:=by simpa[aM,adr cM]using mM
       have:aM (aM H d row) d' ac9=aM (aM H d' ac9) d row:=by
        funext i;by_cases h1:i=d<;>by_cases h2:i=d'<;>simp[aM,h1,h2,cM,adr cM]
       exact fin _ (C7 H kh) (by rw[this];exact bC _ (by simpa[aM,cM]using hn))
      .by_cases Ad:(kindOf q.op=1\/kindOf q.op=2)/\kindOf p.op=3
       .obtain rfl:=eq.keeps (by omega);obtain⟨d,row,hd,hn,rfl,bC⟩:=qw.makes Ad.2;exact fin _ qw (vZ.grow Ad.1 hn row)
       exfalso
       revert acO
       have c1:kindOf q.op=1\/kindOf q.op=2\/kindOf q.op=3\/kindOf q.op=8:=by have:=kinds q.op;omega
       have c2:kindOf p.op=1\/kindOf p.op=2\/kindOf p.op=3\/kindOf p.op=8:=by have:=kinds p.op;omega
       rcases c1 with c1 | c1 | c1 | c1<;>rcases c2 with c2 | c2 | c2 | c2<;>rw[c1,c2]<;>first | (simp[p0];done) | (exfalso;apply kk;omega) | (exfalso;exact k3 ⟨c1,c2⟩) | (exfalso;exact Ad ⟨.inl c1,c2⟩) | (exfalso;exact Ad ⟨.inr c1,c2⟩)
  .exact⟨H,⟨dp,.inr ⟨wp1,rfl,rfl⟩⟩,⟨dq,.inl ⟨by rw[wq];exact lP,eq.congr IW GI⟩⟩⟩
 .rcases hp with⟨wp1,ep⟩ | ⟨wp1,rfl,rfl⟩
  .exact⟨H2,⟨dp,.inl ⟨wp1,ep.congr IX GH⟩⟩,⟨dq,.inr ⟨by rw[wq];exact lP,rfl,rfl⟩⟩⟩
  .exact⟨_,⟨dp,.inr ⟨wp1,rfl,rfl⟩⟩,⟨dq,.inr ⟨by rw[wq];exact lP,rfl,rfl⟩⟩⟩
def run (P:Program) (T:Ty) (Mv:Nat->Prop) (G:aq) (N:Fr) (ops:Array Oper):List Nat->St->St->Prop
 | [],σ,aw=>σ=aw
 | i :: l,σ,aw=>∃ o,ops[i]? = some o/\∃ aG,tm P T Mv G N ops o σ aG/\run P T Mv G N ops l aG aw
theorem p6 {o:Oper} (hk:kindOf o.op≠9) {σ aw:St}:tm P T Mv G N ops o σ aw↔∃ x H',Sx P T Mv G N ops o σ.env σ.H x H'/\aw=⟨aD σ.env o.dst x,H'⟩:=by
 constructor
 .rintro⟨hd,⟨hw,h⟩ | ⟨hw,rfl⟩⟩
  .obtain⟨x,H',h1,h2⟩:=Ex.of hk h;exact⟨x,H',⟨hd,.inl ⟨hw,h1⟩⟩,h2⟩
  .exact⟨cy,σ.H,⟨hd,.inr ⟨hw,rfl,rfl⟩⟩,rfl⟩
 .rintro⟨x,H',⟨hd,⟨hw,h⟩ | ⟨hw,rfl,rfl⟩⟩,rfl⟩
  .exact⟨hd,.inl ⟨hw,h.to⟩⟩
  .exact⟨hd,.inr ⟨hw,rfl⟩⟩
theorem Yx {i j:Nat} {l:List Nat} {σ aw:St} {oi oj:Oper} (hi:ops[i]? = some oi) (hj:ops[j]? = some oj) (hc:adC ops oi oj=true) (h:run P T Mv G N ops (i :: j :: l) σ aw):run P T Mv G N ops (j :: i :: l) σ aw:=by
 obtain⟨o1,h1,aG,s1,o2,h2,eL,s2,rest⟩:=h;rw[hi]at h1;rw[hj]at h2;obtain rfl:=AI h1;obtain rfl:=AI h2
 have hk:kindOf oi.op≠9:=by
  intro e;simp only[adC,abI,e]at hc;have:=hc.2
  revert this
  have b2:kindOf oj.op=0\/kindOf oj.op=1\/kindOf oj.op=2\/kindOf oj.op=3\/kindOf oj.op=8\/kindOf oj.op=9:=by unfold kindOf;split<;>simp
  rcases b2 with b | b | b | b | b | b<;>rw[b]<;>simp[p0]
 have eQ:kindOf oj.op≠9:=by
  intro e;simp only[adC,abI,e]at hc;have:=hc.2
  revert this
  have b2:kindOf oi.op=0\/kindOf oi.op=1\/kindOf oi.op=2\/kindOf oi.op=3\/kindOf oi.op=8\/kindOf oi.op=9:=by unfold kindOf;split<;>simp
  rcases b2 with b | b | b | b | b | b<;>rw[b]<;>simp[p0]
 obtain⟨x,H1,e1,rfl⟩:=(p6 hk).1 s1;obtain⟨y,H2,e2,rfl⟩:=(p6 eQ).1 s2;obtain⟨H3,f1,f2⟩:=tJ hc e1 e2 hk eQ;refine⟨oj,hj,_,(p6 eQ).2 ⟨y,H3,f1,rfl⟩,oi,hi,_,(p6 hk).2 ⟨x,H2,f2,rfl⟩,?_⟩
 have Rp:aD (aD σ.env oi.dst x) oj.dst y=aD (aD σ.env oj.dst y) oi.dst x:=by
  simp only[adC,abI]at hc;exact fG (adA hc.1 (e:=σ.env) (v:=x)).2.2
 dsimp only at rest ⊢;rw[Rp]at rest;exact rest
theorem Yv {p:Nat} {op:Oper} (hp:ops[p]? = some op):∀ (l1:List Nat) {l2:List Nat} {σ aw:St},(∀ q∈l1,∀ oq,ops[q]? = some oq->adC ops oq op=true)->run P T Mv G N ops (l1 ++ p :: l2) σ aw->run P T Mv G N ops (p :: (l1 ++ l2)) σ aw:=by
 intro l1
 induction l1 with
 | nil=>intro l2 σ aw _ h;exact h
 | cons q l1 ih=>
  intro l2 σ aw bC h;obtain⟨oq,hq,aG,s1,rest⟩:=h;have:=ih (fun q' hq'=>bC q' (by simp[hq'])) rest;have h2:run P T Mv G N ops (q :: p :: (l1 ++ l2)) σ aw:=⟨oq,hq,aG,s1,this⟩;exact Yx hq hp (bC q (by simp) oq hq) h2
theorem F6:∀ (l:List Oper) (acc:List Nat) (k:Nat),k < acc.length->(oT l acc).getD k 0=acc.getD k 0
 | [],_,_,_=>rfl
 | o :: l,acc,k,hk=>by
  rw[oT,F6 l _ k (by simp;omega)];simp[abJ,adB hk]
theorem Od {acc:List Nat} {o:Oper} {q:Nat} (h:(bitsOf acc o).testBit q=true):∃ e∈o.after,Region.binds .any e=true/\(q=e.on\/(acc.getD e.on 0).testBit q=true):=by
 unfold bitsOf at h
 have key:∀ (l:List Edge),(l.foldr (fun e s=>if Region.binds .any e then (2 ^ e.on ||| acc.getD e.on 0) ||| s else s) 0).testBit q=true->∃ e∈l,Region.binds .any e=true/\(q=e.on\/(acc.getD e.on 0).testBit q=true):=by
  intro l
  induction l with
  | nil=>intro h;simp at h
  | cons e l ih=>
   intro h;rw[List.foldr_cons]at h;split at h
   .rename_i hb;rw[Nat.testBit_or,Nat.testBit_or,acI,acI]at h
    rcases h with (h | h) | h
    .rw[Nat.testBit_two_pow]at h
     have h':e.on=q:=by simpa using h
     exact⟨e,by simp,hb,.inl h'.symm⟩
    .exact⟨e,by simp,hb,.inr h⟩
    .obtain⟨e',gZ,r⟩:=ih h;exact⟨e',by simp[gZ],r⟩
   .obtain⟨e',gZ,r⟩:=ih h;exact⟨e',by simp[gZ],r⟩
 obtain⟨e,he,r⟩:=key _ h;exact⟨e,by simpa using he,r⟩
theorem yq:∀ (l:List Oper) (acc:List Nat) (j:Nat) (o:Oper) (q:Nat),l[j]? = some o->((oT l acc).getD (acc.length+j) 0).testBit q=true->∃ e∈o.after,Region.binds .any e=true/\(q=e.on\/(e.on < acc.length+j/\((oT l acc).getD e.on 0).testBit q=true))
 | [],_,_,_,_,h,_=>by simp at h
 | o' :: l,acc,0,o,q,h,hb=>by
  simp at h;subst h;rw[oT,F6 l _ _ (by simp)]at hb;simp[abJ]at hb;obtain⟨e,he,hbd,r⟩:=Od hb;refine⟨e,he,hbd,r.imp id fun r=>?_⟩
  have au:e.on < acc.length:=by
   rcases adY e.on acc.length with h | h
   .exact h
   .simp[abJ,adh h]at r
  refine⟨by omega,?_⟩;rw[oT,F6 l _ _ (by simp;omega)];simpa[abJ,adB au]using r
 | o' :: l,acc,j+1,o,q,h,hb=>by
  have:=yq l (acc ++ [bitsOf acc o']) j o q (by simpa using h) (by rw[oT]at hb;simpa[adn,afc 1 j]using hb);obtain⟨e,he,hbd,r⟩:=this;refine⟨e,he,hbd,r.imp id fun r=>?_⟩;rw[oT];exact⟨by have:=r.1;simp at this;omega,r.2⟩
theorem AP (h:mX ops=true) {j:Nat} {oj:Oper} (hj:ops[j]? = some oj):(∀ e∈oj.after,Region.binds .any e=true->e.on < j)/\
  ∀ i oi,i < j->ops[i]? = some oi->((tb ops).getD j 0).testBit i=true\/(adC ops oi oj=true/\adC ops oj oi=true):=by
 unfold mX at h;have h1:=ack.1 h j (acW.2 (IS.1 hj).1);simp only[hj,abI]at h1;refine⟨fun e he hb=>?_,fun i oi hi b7=>?_⟩
 .have:=acr.1 h1.1 e he;simpa[hb]using this
 .have:=ack.1 h1.2 i (acW.2 hi);simpa[b7]using this
theorem N8 (hok:mX ops=true) {listed:Array Bool} (ie:∀ j oj,ops[j]? = some oj->listed.getD j false=true->∀ e∈oj.after,Region.binds .any e=true->listed.getD e.on false=true) :
  ∀ (n j:Nat) (oj:Oper),j<=n->ops[j]? = some oj->(∀ e∈oj.after,Region.binds .any e=true->listed.getD e.on false=true)->∀ q,((tb ops).getD j 0).testBit q=true->listed.getD q false=true:=by
 intro n
 induction n with
 | zero=>
  intro j oj hj bu bC q hq
  have jt:j=0:=by omega
  subst jt;obtain⟨e,he,hb,_⟩:=yq ops.toList [] 0 oj q (by simpa using bu) (by simpa[tb]using hq);have:=(AP hok bu).1 e he hb;omega
 | succ n ih=>
  intro j oj hj bu bC q hq;obtain⟨e,he,hb,r⟩:=yq ops.toList [] j oj q (by simpa using bu) (by simpa[tb]using hq)
  rcases r with rfl | ⟨_,r⟩
  .exact bC e he hb
  .have au:=(AP hok bu).1 e he hb
   have cr:e.on < ops.size:=by have:=(IS.1 bu).1;omega
   exact ih e.on ops[e.on] (by omega) (by simp[cr]) (fun e' gZ aU=>ie e.on _ (by simp[cr]) (bC e he hb) e' gZ aU) q (by simpa[tb]using r)
theorem NB (hg:Good P T) (hok:mX ops=true) {Q:Exit->St->Prop} {w0:World} {gn:Mu} {σn:St} (hQ:Q .normal σn):∀ (n:Nat) (R:List Nat) (listed:Array Bool) (w:World) (μ:Mu) (a:Act) (σ:St),R.length=n->R.Nodup->
  (∀ j,j∈R↔j < ops.size/\listed.getD j true=false)->listed.size=ops.size->(R.Pairwise (· < ·))->
  (∀ j oj,ops[j]? = some oj->listed.getD j false=true->∀ e∈oj.after,Region.binds .any e=true->listed.getD e.on false=true)->run P T Mv G N ops R σ σn->In w X G μ N a σ->Ev Mv w0 gn w μ->
  wpAnyIn (wd N.ro) 0 P .any ops (After Mv X G N w0 gn Q) n listed a w:=by
 intro n
 induction n with
 | zero=>
  intro R listed w μ a σ hl _ hR aK _ _ ab6 hi aH;have:R=[]:=acq hl;subst this
  have hr:Region.ready .any ops listed=[]:=by
   apply adj.2;intro j hj;obtain⟨h1,o,ho,_⟩:=mem_ready.1 hj;exact absurd ((hR j).2 ⟨(IS.1 ho).1,h1⟩) (by simp)
  have:σ=σn:=ab6;subst this;exact⟨hr,μ,σ,hQ,hi,aH⟩
 | succ n ih=>
  intro R listed w μ a σ hl fi hR aK fN ie ab6 hi aH;refine⟨fun hr=>?_,fun i hir=>?_⟩
  .-- the first of the rest may come up
   cases R with
   | nil=>simp at hl
   | cons j R=>
    obtain⟨ig,hj2⟩:=(hR j).1 (by simp)
    have jO:j∈Region.ready .any ops listed:=by
     refine mem_ready.2 ⟨hj2,ops[j],by simp[ig],fun e he hb=>?_⟩;have au:=(AP hok (j:=j) (oj:=ops[j]) (by simp[ig])).1 e he hb
     have aI:e.on ∉ (j :: R):=by
      intro hm
      rcases abV.1 hm with h | h
      .omega
      .have:=(acA.1 fN).1 _ h;omega
     have:=mt (hR e.on).2 aI
     have cr:e.on < ops.size:=by omega
     have fY:e.on < listed.size:=by omega
     simp only[cr,true_and,IT]at this ⊢;simp[fY]at this ⊢;exact this
    rw[hr]at jO;cases jO
  .obtain⟨hi1,oi,b7,bC⟩:=mem_ready.1 hir;have ny:i∈R:=(hR i).2 ⟨(IS.1 b7).1,hi1⟩;obtain⟨R1,R2,rfl⟩:=aem ny
   have aeW:=Yv (P:=P) (T:=T) (Mv:=Mv) (G:=G) (N:=N) b7 R1 (fun q hq oq jQ=>by
    have SF:q < i:=by
     have:=(acE.1 fN).2.2 q hq i (by simp);exact this
    rcases (AP hok b7).2 q oq SF jQ with h | h
    .exfalso;have jP:=N8 hok ie i i oi (abL _) b7 bC q h;have eS:=((hR q).1 (by simp[hq])).2
     have nI:q < listed.size:=by have:=(IS.1 jQ).1;omega
     simp[IT,nI]at jP eS;rw[jP]at eS;cases eS
    .exact h.1) ab6
   obtain⟨o',ho',aG,hstep,b9⟩:=aeW;rw[b7]at ho';obtain rfl:=AI ho';refine vv hg hstep hi b7 fun w' ay a' aF iU=>?_
   have nD:(R1 ++ R2).Nodup:=by
    have:=fi;rw[ac2]at this ⊢;obtain⟨g1,g2,g3⟩:=this;exact⟨g1,(acF.1 g2).2,fun x hx y hy=>g3 x hx y (by simp[hy])⟩
   have nz:i ∉ R1 ++ R2:=by
    have:=fi;rw[ac2]at this;obtain⟨g1,g2,g3⟩:=this;intro hm
    rcases ab4.1 hm with h | h
    .exact g3 i h i (by simp) rfl
    .exact (acF.1 g2).1 h
   refine ih (R1 ++ R2) _ w' ay a' aG (by simp at hl ⊢;omega) nD (fun j=>?_) (by simpa using aK) ?_ ?_ b9 aF (aH.trans iU)
   .by_cases hji:j=i
    .subst hji
     have fY:j < listed.size:=by rw[aK];exact (IS.1 b7).1
     simp[fY];simpa using nz
    .rw[getD_set_ne true (adr hji)];rw[<- hR j];simp[hji]
   .rw[acE]at fN ⊢;obtain⟨g1,g2,g3⟩:=fN;exact⟨g1,(acA.1 g2).2,fun x hx y hy=>g3 x hx y (by simp[hy])⟩
   .intro j oj bu dK e he hb;by_cases hji:j=i
    .subst hji;rw[b7]at bu;obtain rfl:=AI bu;exact getD_set_true (bC e he hb)
    .rw[getD_set_ne false (adr hji)]at dK;exact getD_set_true (ie j oj bu dK e he hb)
def rA (P:Program) (T:Ty) (Mv:Nat->Prop) (G:aq) (N:Fr) (ops:Array Oper) (K:St->Prop):List Oper->St->Prop
 | [],σ=>K σ
 | o :: rest,σ=>eU N o/\match fR ops σ.env o with
  | some b=>if b=true then (match acm o.op with
    | some c=>∃ y,age P G σ c y/\rA P T Mv G N ops K rest ⟨aD σ.env o.dst (.d y),σ.H⟩
    | none=>mg T G Mv o σ (rA P T Mv G N ops K rest)) else rA P T Mv G N ops K rest ⟨aD σ.env o.dst cy,σ.H⟩
  | none=>False
theorem Zo {K:St->Prop}:∀ (l:List Oper) (k:Nat) (σ:St),(∀ j,l[j]? = ops[k+j]?)->rA P T Mv G N ops K l σ->∃ σn,K σn/\run P T Mv G N ops (List.range' k l.length) σ σn:=by
 intro l
 induction l with
 | nil=>intro k σ _ h;exact⟨σ,h,rfl⟩
 | cons o l ih=>
  intro k σ hl h
  have h0:ops[k]? = some o:=by simpa using (hl 0).symm
  have eF:∀ j,l[j]? = ops[k+1+j]?:=fun j=>by have:=hl (j+1);simpa[adn,afc 1 j]using this
  obtain⟨hd,h⟩:=h;rw[acv,List.range'_succ]
  have fin:∀ aG,tm P T Mv G N ops o σ aG->rA P T Mv G N ops K l aG->∃ σn,K σn/\run P T Mv G N ops (k :: List.range' (k+1) l.length) σ σn:=by
   intro aG hs hq;obtain⟨σn,hk,hr⟩:=ih (k+1) aG eF hq;exact⟨σn,hk,o,h0,aG,hs,hr⟩
  split at h
  .rename_i b hb;split at h
   .rename_i py;subst py;split at h
    .rename_i c hc;obtain⟨y,hy,h⟩:=h;refine fin _ ⟨hd,.inl ⟨hb,?_⟩⟩ h;unfold kD;simp only[hc];exact⟨y,hy,rfl⟩
    .rename_i hc;unfold mg at h;split at h
     .rename_i hw;split at h
      .rename_i c x aG h1;refine fin _ ⟨hd,.inl ⟨hb,?_⟩⟩ h.2;unfold kD;simp only[hc];rw[if_pos hw];exact⟨c,x,aG,h1,h.1,rfl⟩
      .exact h.elim
     .rename_i hw;split at h
      .rename_i c x h1;refine fin _ ⟨hd,.inl ⟨hb,?_⟩⟩ h.2;unfold kD;simp only[hc];rw[if_neg hw];exact⟨c,x,h1,h.1,rfl⟩
      .exact h.elim
   .rename_i wO
    have:b=false:=by simpa using wO
    subst this;exact fin _ ⟨hd,.inr ⟨hb,rfl⟩⟩ h
  .exact h.elim
theorem Na (hg:Good P T) (hm:P.follows .mixedOrders=true) {id:Nat} (hok:mX ops=true) {Q:Exit->St->Prop} {σ:St} (h:rA P T Mv G N ops (fun aw=>Q .normal aw) ops.toList σ):AW P Mv X G N (.region id ops true) Q σ:=fun w μ a hi=>by
 obtain⟨σn,hQ,ab6⟩:=Zo ops.toList 0 σ (by simp) h;refine wpIn_region_any hm ?_;obtain⟨aF,aH⟩:=hi.j8 (Mv:=Mv) (bZ.drew w);refine NB hg hok hQ ops.size (List.range' 0 ops.toList.length) _ w.drew μ a σ (by simp) (by simpa using List.nodup_range') (fun j=>?_) (by simp) (by simpa using List.pairwise_lt_range') ?_ ab6 aF aH
 .simp[List.mem_range'_1];intro h;simp[IT,h]
 .intro j oj bu dK;have hj:=(IS.1 bu).1;simp[IT,hj]at dK
end
def acs (P:Program) (t:TypeId):Bool:=!P.stoodInHeld t && !P.eqGuardType P.depth t
def bW (P:Program):Ty:=fun t=>match P.underlying t,P.info? t with
 | some d,some i=>i.zero.map fun z=>⟨d,i.size,i.bytes,z,acs P t⟩
 | _,_=>none
theorem al (P:Program):Good P (bW P):=by
 intro t ti h;unfold bW at h;split at h
 .rename_i d i hd hi;obtain⟨z,hz,rfl⟩:=AT.1 h;exact⟨hd,i,hi,rfl,rfl,hz,fun h=>by unfold acs at h;simpa using h⟩
 .cases h
end Go.Av
namespace Go.Av
def afJ:List Nat->Env->List (Nat×AV)
 | [],_=>[]
 | i :: l,e=>match e i with
  | some x=>(i,x) :: afJ l e
  | none=>afJ l e
section
variable {P:Program} {T:Ty} {Mv X:Nat->Prop} {G:aq} {N:Fr} {σ:St}
theorem aB.env {e e':Env} {H:Heap} (h:∀ i x,e' i=some x->e i=some x):aB Mv X G N ⟨e,H⟩ ⟨e',H⟩:=fun w μ _ hi=>
 ⟨μ,⟨hi.aX,⟨hi.env.defers,hi.env.size,fun i x hx=>hi.env.slot i x (h i x hx)⟩,hi.gr⟩,.refl _ w μ⟩
theorem EH {e:Env}:∀ {l:List Nat} {i:Nat} {x:AV},aV (afJ l e) i=some x->e i=some x
 | [],_,_,h=>by simp[aV,afJ]at h
 | j :: l,i,x,h=>by
  simp only[afJ]at h;split at h
  .rename_i y hy;simp only[aV,List.lookup]at h;split at h
   .rename_i lp
    have:i=j:=by simpa using lp
    subst this;obtain rfl:=AI h;exact hy
   .exact EH (l:=l) h
  .exact EH (l:=l) h
theorem af {x y:Code} {Q:Exit->St->Prop} (h:∀ K:St->Prop,(∀ aw,AW P Mv X G N y Q aw->K aw)->AW P Mv X G N x (aJ K Q) σ):AW P Mv X G N (.seq x y) Q σ:=oX (h _ fun _ h=>h)
theorem agJ:∀ {l:List (Nat×AV)} {i:Nat} {x:AV},aV l i=some x->(i,x)∈l
 | [],_,_,h=>by simp[aV]at h
 | (j,y) :: l,i,x,h=>by
  simp only[aV,List.lookup]at h;split at h
  .rename_i lp
   have:i=j:=by simpa using lp
   subst this;obtain rfl:=AI h;simp
  .exact List.mem_cons_of_mem _ (agJ (l:=l) h)
theorem aB.aV {e:Env} {H:Heap} {l:List (Nat×AV)} (h:∀ p∈l,e p.1=some p.2):aB Mv X G N ⟨e,H⟩ ⟨aV l,H⟩:=aB.env fun i x hx=>h (i,x) (agJ hx)
def aS (Mv X:Nat->Prop) (G:aq) (N:Fr) {S:Type} (I:S->Prop) (inv:S->St) (lD:S->Nat) (s:S) (σ:St):Prop:=∃ s',I s'/\lD s' < lD s/\aB Mv X G N σ (inv s')
theorem aS.mk {S:Type} {I:S->Prop} {inv:S->St} {lD:S->Nat} {s:S} (s':S) (hI:I s') (hm:lD s' < lD s) (h:aB Mv X G N σ (inv s')):aS Mv X G N I inv lD s σ:=⟨s',hI,hm,h⟩
theorem bQ {S:Type} {id:Nat} {c:Code} {Q:Exit->St->Prop} (I:S->Prop) (inv:S->St) (lD:S->Nat) (s0:S) (h0:aB Mv X G N σ (inv s0)) (hI:I s0)
  (round:∀ s,I s->AW P Mv X G N c (aJ (aS Mv X G N I inv lD s) (aL id Q)) (inv s)):AW P Mv X G N (.block id (.loop c)) Q σ:=
 aR (M3 (S:={s // I s}) (fun s=>inv s.1) (fun s=>lD s.1) ⟨s0,hI⟩ h0 fun s=>(round s.1 s.2).mono fun e τ q=>by
  cases e with
  | normal=>obtain⟨s',h1,h2,h3⟩:=q;exact⟨⟨s',h1⟩,h2,h3⟩
  | _=>exact q)
theorem eh {c:Operand} {x y:Code} {Q:Exit->St->Prop} {b:Prop} [Decidable b] (hc:bh G σ.env c=some (.d (.v (.bool (decide b))))) (ht:b->AW P Mv X G N x Q σ) (hf:¬ b->AW P Mv X G N y Q σ):AW P Mv X G N (.cond c x y) Q σ:=
 aeD (decide b) hc (fun h=>ht (of_decide_eq_true h)) (fun h=>hf (of_decide_eq_false h))
end
end Go.Av
namespace Go.Av
def xK (l:List AV):AV:=match iN l with
 | some ds=>.d (.aW ds)
 | none=>.aW l
def AV.tr (o f:Nat->Nat->Nat->AV):AV->AV
 | .d x=>.d x
 | .own q off n=>o q off n
 | .ref q e j=>f q e j
 | .agg cells=>me (go o f cells)
 | .aW vs=>xK (go o f vs)
 | .bt t x=>xJ t (x.tr o f)
 | .fn g caps=>xI g (go o f caps)
 | .bm g x=>.bm g (x.tr o f)
 | .mp q=>match f q 0 0 with
  | .ref q' _ _=>.mp q'
  | _=>.dead
 | .dead=>.dead
where
 go (o f:Nat->Nat->Nat->AV):List AV->List AV
 | []=>[]
 | x :: l=>x.tr o f :: go o f l
theorem AV.vy (o f:Nat->Nat->Nat->AV) (l:List AV):AV.tr.go o f l=l.map (AV.tr o f):=by
 induction l with
 | nil=>rfl
 | cons x l ih=>simp[AV.tr.go,ih]
def Row.tr (o f:Nat->Nat->Nat->AV):Row->Row
 | .sl ty sz els=>.sl ty sz els
 | .box ty cells=>.box ty (cells.map (AV.tr o f))
 | .mp ty ents=>.mp ty ents
 | .it ents seen=>.it ents seen
def trE (o f:Nat->Nat->Nat->AV) (e:Env):Env:=fun i=>(e i).map (AV.tr o f)
def trH (keep:Nat->Bool) (o f:Nat->Nat->Nat->AV) (H:Heap):Heap:=fun r=>if keep r then (H r).map (Row.tr o f) else none
def bL (keep:Nat->Bool) (μ:Mu):Mu:=fun r=>if keep r then μ r else none
section
variable {P:Program} {T:Ty} {Mv X:Nat->Prop} {G:aq} {N:Fr} {w:World} {μ:Mu} {a:Act} {σ:St}
theorem Ax {u:Value} {l:List AV} (h:RV w X μ u (.aW l)):RV w X μ u (xK l):=by
 unfold xK;split
 .rename_i ds hd;rw[lT hd]at h;obtain⟨arr,rfl,hn,hr⟩:=h.vz;refine .d (.aW (by simpa using hn) fun j u c hu hc=>?_);exact (hr j u (.d c) hu (by rw[abM,hc];rfl)).data
 .exact h
theorem adt {keep:Nat->Bool} {r:Nat} {m:gp} (h:bL keep μ r=some m):keep r=true/\μ r=some m:=by
 unfold bL at h;split at h
 .rename_i hk;exact⟨hk,h⟩
 .cases h
theorem vN {keep:Nat->Bool} {b:Nat} (h:XX X (bL keep μ) b):XX X μ b:=h.elim .inl fun ⟨r,m,hr,hb⟩=>.inr ⟨r,m,(adt hr).2,hb⟩
theorem RV.tr {ay:Mu} {o f:Nat->Nat->Nat->AV} (hX:∀ b,XX X ay b->XX X μ b) (ho:∀ u r off n,RV w X μ u (.own r off n)->RV w X ay u (o r off n)) (hf:∀ u r e j,RV w X μ u (.ref r e j)->RV w X ay u (f r e j)) :
  ∀ {v:Value} {x:AV},RV w X μ v x->RV w X ay v (x.tr o f):=by
 intro v x hr
 induction hr with
 | d h'=>exact .d (h'.mono (abL _) fun b _ hb=>⟨rfl,fun e=>hb (hX b e)⟩)
 | own hm h'=>exact ho _ _ _ _ (.own hm h')
 | ref hm hb=>exact hf _ _ _ _ (.ref hm hb)
 | agg hn _ ih=>
  rw[AV.tr,AV.vy];refine xH (.agg (by simpa using hn) fun j u c hu hc=>?_);rw[abM]at hc;obtain⟨c',cH,rfl⟩:=AT.1 hc;exact ih j u c' hu cH
 | aW hn _ ih=>
  rw[AV.tr,AV.vy];refine Ax (.aW (by simpa using hn) fun j u c hu hc=>?_);rw[abM]at hc;obtain⟨c',cH,rfl⟩:=AT.1 hc;exact ih j u c' hu cH
 | bt _ ih=>exact ET ih
 | bm _ ih=>exact .bm ih
 | fn hn _ ih=>
  rw[AV.tr,AV.vy];refine ES (by simpa using hn) fun j u c hu hc=>?_;rw[abM]at hc;obtain⟨c',cH,rfl⟩:=AT.1 hc;exact ih j u c' hu cH
 | mp hm hb=>
  rename_i r b m;have h0:=hf _ _ _ _ (RV.ref (e:=0) (j:=0) hm hb);unfold AV.tr;split
  .rename_i q' e' j' hq;rw[hq]at h0;obtain⟨m',b',bU,aU,e⟩:=h0.ik;simp only[Value.pointer.injEq,AS,Addr.mk.injEq]at e;obtain⟨rfl,_⟩:=e;exact .mp bU aU
  .exact .dead _
 | dead u=>exact .dead u
theorem rY {keep:Nat->Bool} (hk:∀ r m,μ r=some m->keep r=false->Mv r):Ev Mv w μ w (bL keep μ):=by
 refine⟨abL _,rfl,rfl,rfl,fun b hb hr=>⟨rfl,?_⟩,fun q mq hq hn=>?_⟩
 .rintro⟨q,mq,hq,hbq⟩;exact hr ⟨q,mq,(adt hq).2,hbq⟩
 .unfold bL
  cases h:keep q with
  | true=>simpa using hq
  | false=>exact absurd (hk q mq hq h) hn
theorem In.tr {keep:Nat->Bool} {o f:Nat->Nat->Nat->AV} (hi:In w X G μ N a σ) (ho:∀ u r off n,RV w X μ u (.own r off n)->RV w X (bL keep μ) u (o r off n)) (hf:∀ u r e j,RV w X μ u (.ref r e j)->RV w X (bL keep μ) u (f r e j)) :
  In w X G (bL keep μ) N a ⟨trE o f σ.env,trH keep o f σ.H⟩:=by
 have hX:∀ b,XX X (bL keep μ) b->XX X μ b:=fun b=>vN;have pq:∀ {u:Value} {x:D},RD w (XX X μ) u x->RD w (XX X (bL keep μ)) u x:=fun h=>h.mono (abL _) fun b _ hb=>⟨rfl,fun e=>hb (hX b e)⟩;have wH:∀ {u:Value} {x:AV},RV w X μ u x->RV w X (bL keep μ) u (x.tr o f):=fun h=>RV.tr hX ho hf h
 refine⟨⟨fun r row hr=>?_,fun r m hr=>?_,fun q q' m1 m2 b h1 h2 hb1 hb2=>hi.aX.inj q q' m1 m2 b (adt h1).2 (adt h2).2 hb1 hb2,fun q mq b hq hb=>hi.aX.frame q mq b (adt hq).2 hb,hi.aX.fits⟩,
  ⟨hi.env.defers,hi.env.size,fun i x hx=>?_⟩,fun g x hx=>pq (hi.gr g x hx)⟩
 .replace hr:trH keep o f σ.H r=some row:=hr;unfold trH at hr;split at hr
  .rename_i hk;obtain⟨kY,h0,rfl⟩:=AT.1 hr;obtain⟨m,hm,ok⟩:=hi.aX.rows r kY h0;refine⟨m,by simp[bL,hk,hm],?_⟩
   cases ok with
   | nil h1 h2=>exact .nil h1 h2
   | sl h1 h2 h3 h4 h5 h6 h7 h8 h9=>exact .sl h1 h2 h3 h4 h5 h6 h7 h8 fun i j el c he hc=>let ⟨u,hu,hr⟩:=h9 i j el c he hc;⟨u,hu,pq hr⟩
   | box h1 h2 h3 h4 h5 h6 h7=>
    refine .box h1 rfl h3 h4 (by simpa using h5) (fun j u c hu hc=>?_) (by simpa using h7);rw[abM]at hc;obtain⟨c',cH,rfl⟩:=AT.1 hc;exact wH (h6 j u c' hu cH)
   | mp h1 h2 h3 h4=>exact .mp h1 h2 h3 fun i e p he hp=>let ⟨a,b,c⟩:=h4 i e p he hp;⟨a,b,pq c⟩
   | it h1 h2 h3=>exact .it h1 h2 (pq h3)
  .cases hr
 .obtain⟨hk,hm⟩:=adt hr;obtain⟨row,cF⟩:=hi.aX.iy r m hm;exact⟨row.tr o f,by simp[trH,hk,cF]⟩
 .replace hx:trE o f σ.env i=some x:=hx;unfold trE at hx;obtain⟨x0,h0,rfl⟩:=AT.1 hx;obtain⟨u,hu,hr⟩:=hi.env.slot i x0 h0;exact⟨u,hu,wH hr⟩
theorem RV.vh {keep:Nat->Bool} {u:Value} {r off n:Nat} (hk:keep r=true) (h:RV w X μ u (.own r off n)):RV w X (bL keep μ) u (.own r off n):=by
 obtain⟨m,hm,hh⟩:=h.je;exact .own (by simp[bL,hk,hm]) hh
theorem RV.vk {keep:Nat->Bool} {u:Value} {r e j:Nat} (hk:keep r=true) (h:RV w X μ u (.ref r e j)):RV w X (bL keep μ) u (.ref r e j):=by
 obtain⟨m,b,hm,hb,rfl⟩:=h.ik;exact .ref (by simp[bL,hk,hm]) hb
def acH (ns:List Nat) (q off n:Nat):AV:=if ns.contains q then .own q off n else .dead
def acG (ns:List Nat) (q e j:Nat):AV:=if ns.contains q then .ref q e j else .dead
def afv:List Nat->Heap->List (Nat×Row)
 | [],_=>[]
 | r :: l,H=>match H r with
  | some row=>(r,row) :: afv l H
  | none=>afv l H
theorem aB.only (ns:List Nat) (hm:∀ r,ns.contains r=false->Mv r):aB Mv X G N σ ⟨trE (acH ns) (acG ns) σ.env,trH ns.contains (acH ns) (acG ns) σ.H⟩:=fun w μ a hi=>by
 refine⟨bL ns.contains μ,hi.tr (fun u r off n h=>?_) (fun u r e j h=>?_),rY fun r _ _ h=>hm r h⟩
 .unfold acH;split
  .rename_i hk;exact h.vh hk
  .exact .dead u
 .unfold acG;split
  .rename_i hk;exact h.vk hk
  .exact .dead u
theorem I3 {H:Heap}:∀ {l:List Nat} {r:Nat},ak (afv l H) r=if l.contains r then H r else none
 | [],r=>by simp[ak,afv]
 | q :: l,r=>by
  have ih:=I3 (H:=H) (l:=l) (r:=r);simp only[afv];split
  .rename_i row cF;simp only[ak,List.lookup,List.contains_cons];split
   .rename_i uG
    have:r=q:=by simpa using uG
    subst this;simp[cF]
   .rename_i uG;rw[uG,aeE];exact ih
  .rename_i cF;rw[ih,List.contains_cons];by_cases uG:r=q
   .subst uG;simp[cF]
   .simp[uG]
def St.norm (l ns:List Nat) (σ:St):St:=⟨aV (afJ l (trE (acH ns) (acG ns) σ.env)),ak (afv ns (trH ns.contains (acH ns) (acG ns) σ.H))⟩
theorem Sk {ns:List Nat} {o f:Nat->Nat->Nat->AV} {H:Heap}:ak (afv ns (trH ns.contains o f H))=trH ns.contains o f H:=by
 funext r;rw[I3];unfold trH;split<;>simp_all
theorem aB.norm (l ns:List Nat) (hm:∀ r,ns.contains r=false->Mv r):aB Mv X G N σ (σ.norm l ns):=by
 refine (aB.only ns hm).trans ?_;unfold St.norm;rw[Sk];exact aB.env fun _ _=>EH
theorem aB.to {e:Env} {H:Heap} {l:List (Nat×AV)} {rows:List (Nat×Row)} (hm:∀ r,(rows.map (·.1)).contains r=false->Mv r) (he:∀ p∈l,(e p.1).map (AV.tr (acH (rows.map (·.1))) (acG (rows.map (·.1))))=some p.2)
  (hH:∀ r,ak rows r=trH (rows.map (·.1)).contains (acH (rows.map (·.1))) (acG (rows.map (·.1))) H r):aB Mv X G N ⟨e,H⟩ ⟨Go.Av.aV l,ak rows⟩:=by
 refine (aB.only (rows.map (·.1)) hm).trans ?_;have:ak rows=trH (rows.map (·.1)).contains (acH (rows.map (·.1))) (acG (rows.map (·.1))) H:=funext hH;rw[this];exact aB.env fun i x hx=>he (i,x) (agJ hx)
theorem Bb {rows:List (Nat×Row)} {H:Heap} {o f:Nat->Nat->Nat->AV} (h:∀ p∈rows,(H p.1).map (Row.tr o f)=ak rows p.1):∀ r,ak rows r=trH (rows.map (·.1)).contains o f H r:=by
 intro r;unfold trH;split
 .rename_i hk;obtain⟨p,hp,rfl⟩:=acD.1 (acY.1 hk);exact (h p hp).symm
 .rename_i hk
  have:∀ l:List (Nat×Row),¬ (l.map (·.1)).contains r=true->ak l r=none:=by
   intro l
   induction l with
   | nil=>intro _;rfl
   | cons q l ih=>
    intro hc;simp only[acJ,List.contains_cons,acI,not_or]at hc;simp only[ak,List.lookup];split
    .rename_i h1;exact absurd h1 hc.1
    .exact ih hc.2
  exact this rows hk
theorem aB.to' {e:Env} {H:Heap} {l:List (Nat×AV)} {rows:List (Nat×Row)} (hm:∀ r,(rows.map (·.1)).contains r=false->Mv r) (he:∀ p∈l,(e p.1).map (AV.tr (acH (rows.map (·.1))) (acG (rows.map (·.1))))=some p.2)
  (hH:∀ p∈rows,(H p.1).map (Row.tr (acH (rows.map (·.1))) (acG (rows.map (·.1))))=ak rows p.1):aB Mv X G N ⟨e,H⟩ ⟨Go.Av.aV l,ak rows⟩:=aB.to hm he (Bb hH)
def qz (r:Nat) (els:List (List D)) (q off n:Nat):AV:=if q=r then (if off=0/\n=els.length then .d (.sl none els) else if off+n<=els.length then .d (.sl none ((els.drop off).take n)) else .dead) else .own q off n
def qy (r:Nat) (q e j:Nat):AV:=if q=r then .dead else .ref q e j
def e9 (r:Nat) (q:Nat):Bool:=!(q == r)
def St.freeze (r:Nat) (σ:St):St:=match σ.H r with
 | some (.sl _ _ els)=>⟨trE (qz r els) (qy r) σ.env,trH (e9 r) (qz r els) (qy r) σ.H⟩
 | _=>σ
theorem aB.freeze (r:Nat) (hm:Mv r):aB Mv X G N σ (σ.freeze r):=fun w μ a hi=>by
 unfold St.freeze;split
 .rename_i ty sz els hr
  have pM:(fun q=>if q=r then none else μ q)=bL (e9 r) μ:=by
   funext q;unfold bL e9;by_cases h:q=r<;>simp[h]
  refine⟨bL (e9 r) μ,hi.tr (fun u q off n h=>?_) (fun u q e j h=>?_),rY fun q _ _ hq=>by
   have e:q=r:=by simpa[e9]using hq
   exact e ▸ hm⟩
  .unfold qz;split
   .rename_i hq;subst hq
    have hd:∀ {off n:Nat},RV w X μ u (.own q off n)->off+n<=els.length->RV w X (bL (e9 q) μ) u (.d (.sl none ((els.drop off).take n))):=fun h hle=>by
     obtain⟨k,hk,_⟩:=AR hi.aX hr hle h;rw[pM]at hk;exact .d hk.aeZ
    split
    .rename_i h2;obtain⟨rfl,rfl⟩:=h2;have:=hd h (by omega);simpa using this
    .split
     .rename_i hle;exact hd h hle
     .exact .dead u
   .rename_i hq;exact h.vh (by simp[e9,hq])
  .unfold qy;split
   .exact .dead u
   .rename_i hq;exact h.vk (by simp[e9,hq])
 .exact⟨μ,hi,.refl _ w μ⟩
def y8 (r:Nat) (ds:List D) (q e j:Nat):AV:=if q=r then (if e=0 then .d (.ip (ds.drop j)) else .dead) else .ref q e j
def y9 (r:Nat) (q off n:Nat):AV:=if q=r then .dead else .own q off n
def St.oh (r:Nat) (σ:St):St:=match σ.H r with
 | some (.box _ cells)=>match iN cells with
  | some ds=>⟨trE (y9 r) (y8 r ds) σ.env,trH (e9 r) (y9 r) (y8 r ds) σ.H⟩
  | none=>σ
 | _=>σ
theorem aB.oh (r:Nat) (hm:Mv r):aB Mv X G N σ (σ.oh r):=fun w μ a hi=>by
 unfold St.oh;split
 .rename_i ty cells hr;split
  .rename_i ds jo
   refine⟨bL (e9 r) μ,hi.tr (fun u q off n h=>?_) (fun u q e j h=>?_),rY fun q _ _ hq=>by
    have e:q=r:=by simpa[e9]using hq
    exact e ▸ hm⟩
   .unfold y9;split
    .exact .dead u
    .rename_i hq;exact h.vh (by simp[e9,hq])
   .unfold y8;split
    .rename_i hq;subst hq;split
     .rename_i he;subst he;obtain⟨m,b,hmq,hb,rfl⟩:=h.ik;obtain⟨m',bU,ok⟩:=hi.aX.rows q _ hr;rw[hmq]at bU;obtain rfl:=AI bU
      cases ok with
      | box aU aK ad7 hh hn iF uN=>
       rename_i b' cur;rw[hb]at aU;obtain rfl:=AI aU;have ac6:=lT jo
       have hlen:cells.length=ds.length:=by rw[ac6,ac1]
       simp only[aea,acR];refine .d (.ip (f:=fun i=>cur.getD (j+i) undef) ?_ (IS.1 hh).1 (fun i da=>?_) fun i d gN=>?_)
       .rintro (hX | ⟨q',m',hq',Rf⟩)
        .exact hi.aX.frame q m b hmq hb hX
        .obtain⟨hk,Sn⟩:=adt hq';have:=hi.aX.inj q' q m' m b Sn hmq Rf hb;simp[e9,this]at hk
       .simp only[acK]at da;rw[cell_of_row w b (j+i) cur ty (0,0) hh];simp[IT,show j+i < cur.size by omega]
       .have da:=(OF.1 gN).1;simp only[acK]at da;rw[ac3]at gN
        have hc:cells[j+i]? = some (.d d):=by rw[ac6,abM,gN];rfl
        have au:j+i < cur.size:=by omega
        have:=iF (j+i) cur[j+i] (.d d) (by simp[au]) hc;simp only[IT,au,acb,adW];exact this.data.sub fun b=>vN
     .exact .dead u
    .rename_i hq;exact h.vk (by simp[e9,hq])
  .exact⟨μ,hi,.refl _ w μ⟩
 .exact⟨μ,hi,.refl _ w μ⟩
def St.tY (r:Nat) (σ:St):St:=(σ.freeze r).oh r
theorem aB.tY (r:Nat) (hm:Mv r):aB Mv X G N σ (σ.tY r):=(aB.freeze r hm).trans (aB.oh r hm)
theorem aB.ky (i r ty sz:Nat) {e:Env} {H:Heap} (hr:H r=none) (he:e i=some (.d (.sl (some false) []))):aB Mv X G N ⟨e,H⟩ ⟨eW e i (.own r 0 0),aM H r (.sl ty sz [])⟩:=fun w μ a hi=>by
 obtain⟨aF,ev⟩:=hi.alloc (Mv:=Mv) (w':=w) (m:=⟨none,sz,0⟩) hr (bZ.refl w) (by simp) (row:=.sl ty sz []) fun _=>.nil rfl rfl;refine⟨mup μ r ⟨none,sz,0⟩,⟨aF.aX,⟨aF.env.defers,aF.env.size,fun j x hx=>?_⟩,aF.gr⟩,ev⟩;simp only[eW]at hx;split at hx
 .rename_i hj;subst hj;obtain rfl:=AI hx;obtain⟨u,hu,fv⟩:=hi.env.slot j _ he;refine⟨u,hu,.own (m:=⟨none,sz,0⟩) (by simp[mup]) (.inl ⟨rfl,?_,rfl,rfl⟩)⟩
  rcases fv.data.na with⟨rfl,_⟩ | ⟨_,_,_,hk,_⟩
  .rfl
  .exact absurd rfl hk
 .exact aF.env.slot j x hx
end
end Go.Av
namespace Go.Av
theorem Oi (a b:Int):(a != b)=decide (¬ a=b):=by by_cases h:a=b<;>simp[h]
theorem N9 (a b:Int):(a == b)=decide (a=b):=by by_cases h:a=b<;>simp[h]
theorem aC {α β:Type} (f:α->β) (l:List α):List.take l.length (List.map f l)=List.map f l:=sh (by simp)
def rowsOf (H:Heap):Nat->AV->List Nat
 | 0,_=>[]
 | _+1,.own r _ _=>[r]
 | k+1,.ref r _ _=>match H r with
  | some (.box _ cells)=>go H k cells ++ [r]
  | _=>[]
 | k+1,.agg cells=>go H k cells
 | k+1,.bt _ x=>rowsOf H k x
 | _+1,_=>[]
where
 go (H:Heap) (k:Nat):List AV->List Nat
 | []=>[]
 | x :: l=>rowsOf H k x ++ go H k l
def nr:List Nat->St->St
 | [],σ=>σ
 | r :: l,σ=>nr l (σ.tY r)
def af9 (G:aq) (o:Oper) (σ:St):St:=match o.op with
 | .buildSlice _ _ parts=>match jI G σ.env parts.toList with
  | some ps=>nr (rowsOf.go σ.H 6 (ps.map (·.2))) σ
  | none=>σ
 | .mapUpdate _ _ _ v=>match bh G σ.env v with
  | some x=>nr (rowsOf σ.H 6 x) σ
  | none=>σ
 | .insert _ _ _ v=>match bh G σ.env v with
  | some x=>nr (rowsOf σ.H 6 x) σ
  | none=>σ
 | _=>σ
def AX (G:aq) (o:Oper) (σ:St):List Nat:=match o.op with
 | .buildSlice _ _ parts=>match jI G σ.env parts.toList with
  | some ps=>rowsOf.go σ.H 6 (ps.map (·.2))
  | none=>[]
 | .mapUpdate _ _ _ v=>match bh G σ.env v with
  | some x=>rowsOf σ.H 6 x
  | none=>[]
 | .insert _ _ _ v=>match bh G σ.env v with
  | some x=>rowsOf σ.H 6 x
  | none=>[]
 | _=>[]
def ab8 (P:Program) (Mv X:Nat->Prop) (G:aq) (N:Fr) (g:FuncId) (xs:List AV) (σ:St) (dst:Option Tmp) (next:St->Prop):Prop:=
 ad6 P Mv X G N g xs σ fun x aw=>next ⟨aD aw.env dst x,aw.H⟩
def jm (P:Program) (G:aq) (c:Call) (σ:St) (dst:Option Tmp) (next:St->Prop):Prop:=∃ y,age P G σ c y/\next ⟨aD σ.env dst (.d y),σ.H⟩
def rZ (P:Program) (T:Ty) (Mv X:Nat->Prop) (G:aq) (N:Fr) (o:Oper) (σ:St) (next:St->Prop):Prop:=match acm o.op with
 | some c=>match tgt G σ.env c with
  | some (g,xs)=>ab8 P Mv X G N g xs σ o.dst next
  | none=>False
 | none=>(∀ r∈AX G o σ,Mv r)/\mg T G Mv o (af9 G o σ) next
def sxf (P:Program) (T:Ty) (Mv X:Nat->Prop) (G:aq) (N:Fr) (ops:Array Oper) (K:St->Prop):List Oper->St->Prop
 | [],σ=>K σ
 | o :: rest,σ=>eU N o/\match fR ops σ.env o with
  | some b=>if b=true then rZ P T Mv X G N o σ (sxf P T Mv X G N ops K rest) else sxf P T Mv X G N ops K rest ⟨aD σ.env o.dst cy,σ.H⟩
  | none=>False
def sxd (P:Program) (T:Ty) (Mv:Nat->Prop) (G:aq) (N:Fr) (ops:Array Oper) (K:St->Prop):List Oper->St->Prop
 | [],σ=>K σ
 | o :: rest,σ=>eU N o/\match fR ops σ.env o with
  | some b=>if b=true then (match acm o.op with
    | some c=>jm P G c σ o.dst (sxd P T Mv G N ops K rest)
    | none=>mg T G Mv o σ (sxd P T Mv G N ops K rest)) else sxd P T Mv G N ops K rest ⟨aD σ.env o.dst cy,σ.H⟩
  | none=>False
section
variable {P:Program} {T:Ty} {Mv X:Nat->Prop} {G:aq} {N:Fr} {w:World} {μ:Mu} {a:Act} {σ:St}
theorem Mr {ops:Array Oper} {K:St->Prop}:∀ (l:List Oper),sxd P T Mv G N ops K l=rA P T Mv G N ops K l
 | []=>rfl
 | o :: l=>by
  funext σ;simp only[sxd,rA,jm,Mr l]
  all_goals rfl
theorem aB.nr:∀ (l:List Nat) {σ:St},(∀ r∈l,Mv r)->aB Mv X G N σ (Go.Av.nr l σ)
 | [],σ,_=>.refl σ
 | r :: l,_,hm=>(aB.tY r (hm r (by simp))).trans (aB.nr l fun q hq=>hm q (by simp[hq]))
theorem aB.af9 (o:Oper) (hm:∀ r∈AX G o σ,Mv r):aB Mv X G N σ (Go.Av.af9 G o σ):=by
 unfold Go.Av.af9;unfold AX at hm;split
 .rename_i ho;simp only[ho]at hm;split
  .rename_i hp;simp only[hp]at hm;exact .nr _ hm
  .exact .refl σ
 .rename_i ho;simp only[ho]at hm;split
  .rename_i hp;simp only[hp]at hm;exact .nr _ hm
  .exact .refl σ
 .rename_i ho;simp only[ho]at hm;split
  .rename_i hp;simp only[hp]at hm;exact .nr _ hm
  .exact .refl σ
 .exact .refl σ
theorem HE (hg:Good P T) (hi:In w X G μ N a σ) {o:Oper} {K:St->Prop} (hd:∀ d,o.dst=some d->d < N.n) (h:rZ P T Mv X G N o σ K) {Q:Exit->Act->World->Prop} {next:Act->World->Prop}
  (hk:∀ w' ay a' aw,K aw->In w' X G ay N a' aw->Ev Mv w μ w' ay->next a' w'):o.wpIn (wd N.ro) 0 P a w next Q:=by
 unfold rZ at h;split at h
 .rename_i c hc;refine y3 (Mv:=Mv) hg hi hd ?_ hk;unfold jJ;rw[hc];dsimp only;split at h
  .rename_i ht;rw[ht];exact h
  .exact h.elim
 .rename_i hc;obtain⟨iM,hi1,nq⟩:=aB.af9 (Mv:=Mv) (X:=X) o h.1 w μ a hi;refine y3 (Mv:=Mv) hg hi1 (K:=K) hd ?_ fun w' ay a' aw k aF aH=>hk w' ay a' aw k aF (nq.trans aH);unfold jJ;rw[hc];exact h.2
theorem Zk (hg:Good P T) {ops:Array Oper} {Q:Exit->St->Prop} {w0:World} {gn:Mu}:∀ (l:List Oper) (k:Nat) (w:World) (μ:Mu) (a:Act) (σ:St),(∀ j,l[j]? = ops[k+j]?)->sxf P T Mv X G N ops (fun aw=>Q .normal aw) l σ->In w X G μ N a σ->Ev Mv w0 gn w μ->
  wpOpsIn (wd N.ro) 0 P ops (After Mv X G N w0 gn Q) (List.range' k l.length) a w:=by
 intro l
 induction l with
 | nil=>intro k w μ a σ _ h hi aH;exact⟨μ,σ,h,hi,aH⟩
 | cons o l ih=>
  intro k w μ a σ hl h hi aH
  have h0:ops[k]? = some o:=by simpa using (hl 0).symm
  have eF:∀ j,l[j]? = ops[k+1+j]?:=fun j=>by have:=hl (j+1);simpa[adn,afc 1 j]using this
  obtain⟨hd,h⟩:=h
  have gN:∀ d,o.dst=some d->d < N.n:=fun d e=>by unfold eU at hd;rw[e]at hd;exact hd
  rw[acv,List.range'_succ];simp only[wpOpsIn,h0];split at h
  .rename_i b hb;rw[afU hi hb];split at h
   .rename_i py;subst py;rw[if_pos rfl];exact (HE hg hi gN h fun w' ay a' aw k' aF iU=>ih (k+1) w' ay a' aw eF k' aF (aH.trans iU))
   .rename_i wO;rw[if_neg (by simpa using wO)];exact⟨fun _ _=>trivial,ih (k+1) w μ _ _ eF h (hi.put (.d (.v _)) gN) aH⟩
  .exact h.elim
theorem Gt (hg:Good P T) {id:Nat} {ops:Array Oper} {Q:Exit->St->Prop} (h:sxf P T Mv X G N ops (fun aw=>Q .normal aw) ops.toList σ):AW P Mv X G N (.region id ops false) Q σ:=fun w μ a hi=>by
 refine wpIn_region ?_;have:=Zk hg ops.toList 0 w μ a σ (by simp) h hi (.refl _ w μ)
 rwa [<- List.range_eq_range',ado]at this
theorem Gs (hg:Good P T) (hm:P.follows .mixedOrders=true) {id:Nat} {ops:Array Oper} (hok:mX ops=true) {Q:Exit->St->Prop} (h:sxd P T Mv G N ops (fun aw=>Q .normal aw) ops.toList σ):AW P Mv X G N (.region id ops true) Q σ:=by
 rw[Mr]at h;exact Na hg hm hok h
theorem AW.norm (l ns:List Nat) (hM:∀ r,ns.contains r=false->Mv r) {c:Code} {Q:Exit->St->Prop} (h:AW P Mv X G N c Q (σ.norm l ns)):AW P Mv X G N c Q σ:=AW.imp (aB.norm l ns hM) h
theorem AW.st {τ:St} {c:Code} {Q:Exit->St->Prop} (h:σ=τ) (h':AW P Mv X G N c Q τ):AW P Mv X G N c Q σ:=h ▸ h'
theorem AW.KD (i:Nat) {e:Env} {H:Heap} {els:List (List D)} {c:Code} {Q:Exit->St->Prop} (he:e i=some (.d (.sl none els))) (h1:AW P Mv X G N c Q ⟨eW e i (.d (.sl (some true) els)),H⟩)
  (h2:els=[]->AW P Mv X G N c Q ⟨eW e i (.d (.sl (some false) [])),H⟩):AW P Mv X G N c Q ⟨e,H⟩:=fun w μ a hi=>by
 obtain⟨u,hu,hr⟩:=hi.env.slot i _ he
 have put:∀ {y:D},RD w (XX X μ) u y->In w X G μ N a ⟨eW e i (.d y),H⟩:=fun hy=>⟨hi.aX,⟨hi.env.defers,hi.env.size,fun j x hx=>by
  simp only[eW]at hx;split at hx
  .rename_i hj;subst hj;obtain rfl:=AI hx;exact⟨u,hu,.d hy⟩
  .exact hi.env.slot j x hx⟩,hi.gr⟩
 have hd:=hr.data;generalize hy:D.sl none els=y at hd
 cases hd with
 | nil hk=>cases hy;exact h2 rfl w μ a (put (.nil (by simp)))
 | empty hk hm=>cases hy;exact h1 w μ a (put (.empty (by simp) hm))
 | sl a1 a2 a3 a4 a5 a6 a7 a8 a9 Nn=>cases hy;exact h1 w μ a (put (.sl (by simp) a2 a3 a4 a5 a6 a7 a8 a9 Nn))
 | _=>cases hy
theorem Nb (hg:Good P T) (l ns:List Nat) (hM:∀ r,ns.contains r=false->Mv r) {id:Nat} {ops:Array Oper} {y:Code} {Q:Exit->St->Prop} (h:∀ K:St->Prop,(∀ τ:St,AW P Mv X G N y Q (τ.norm l ns)->K τ)->sxf P T Mv X G N ops K ops.toList σ):AW P Mv X G N (.seq (.region id ops false) y) Q σ:=
 oX (Gt hg (h _ fun _ h=>h.norm l ns hM))
theorem rg {P:Program} {Mv X:Nat->Prop} {G:aq} {N:Fr} {σ:St} (l ns:List Nat) (hM:∀ r,ns.contains r=false->Mv r) {id:Nat} {ops:Array Oper} {y:Code} {Q:Exit->St->Prop} (h:∀ K:St->Prop,(∀ τ:St,AW P Mv X G N y Q (τ.norm l ns)->K τ)->sxf P (bW P) Mv X G N ops K ops.toList σ):AW P Mv X G N (.seq (.region id ops false) y) Q σ:=Nb (al _) l ns hM h
theorem oW (hg:Good P T) (hm:P.follows .mixedOrders=true) (l ns:List Nat) (hM:∀ r,ns.contains r=false->Mv r) {id:Nat} {ops:Array Oper} (hok:mX ops=true) {y:Code} {Q:Exit->St->Prop} (h:∀ K:St->Prop,(∀ τ:St,AW P Mv X G N y Q (τ.norm l ns)->K τ)->sxd P T Mv G N ops K ops.toList σ):AW P Mv X G N (.seq (.region id ops true) y) Q σ:=
 oX (Gs hg hm hok (h _ fun _ h=>h.norm l ns hM))
theorem cR (hg:Good P T) {id:Nat} {ops:Array Oper} {Q:Exit->St->Prop} (h:∀ K:St->Prop,(∀ τ:St,Q .normal τ->K τ)->sxf P T Mv X G N ops K ops.toList σ):AW P Mv X G N (.region id ops false) Q σ:=
 Gt hg (h _ fun _ h=>h)
theorem aeR (hg:Good P T) (hm:P.follows .mixedOrders=true) {id:Nat} {ops:Array Oper} (hok:mX ops=true) {Q:Exit->St->Prop} (h:∀ K:St->Prop,(∀ τ:St,Q .normal τ->K τ)->sxd P T Mv G N ops K ops.toList σ):AW P Mv X G N (.region id ops true) Q σ:=
 Gs hg hm hok (h _ fun _ h=>h)
def A9 (T:Ty) (σ:St):ResultVar->hU
 | .tmp t=>(σ.env t).map fun x=>(True,x)
 | .cell a t=>(σ.env a).bind (aef T σ.H t)
def rr (T:Ty) (σ:St):List ResultVar->Option (Prop×List AV)
 | []=>some (True,[])
 | r :: l=>match A9 T σ r,rr T σ l with
  | some (c,x),some (c',xs)=>some (c/\c',x :: xs)
  | _,_=>none
def oneOf:List AV->AV
 | [x]=>x
 | l=>xK l
def D.le:D->D->Prop
 | .sl k els,.sl k' kB=>(k'=none\/k=k')/\els=kB
 | .aW l,.aW l'=>go l l'
 | .agg l,.agg l'=>go l l'
 | .ip l,.ip l'=>go l l'
 | .bt t x,.bt t' x'=>t=t'/\x.le x'
 | .fn f l,.fn f' l'=>f=f'/\go l l'
 | .dm x l,.dm x' l'=>(x'=true->x=true/\l=l')/\l.Perm l'
 | x,y=>x=y
where
 go:List D->List D->Prop
 | [],[]=>True
 | x :: l,y :: l'=>x.le y/\go l l'
 | _,_=>False
def tT (T:Ty) (rs:List ResultVar) (y:D) (σ:St):Prop:=match rr T σ rs with
 | some (c,xs)=>c/\match dW σ.H 6 (oneOf xs) with
  | some y'=>y'.le y
  | none=>False
 | none=>False
def B0 (T:Ty) (rs:List ResultVar) (y:D):Exit->St->Prop
 | .normal,σ | .ret,σ=>tT T rs y σ
 | _,_=>False
theorem D.sZ:∀ {l l':List D},D.le.go l l'->l.length=l'.length/\∀ (j:Nat) (x y:D),l[j]? = some x->l'[j]? = some y->x.le y
 | [],[],_=>⟨rfl,by simp⟩
 | x :: l,y :: l',h=>by
  simp only[D.le.go]at h;obtain⟨h1,h2⟩:=D.sZ h.2;refine⟨by simp[h1],fun j a b ha hb=>?_⟩
  cases j with
  | zero=>simp at ha hb;subst ha hb;exact h.1
  | succ j=>simp at ha hb;exact h2 j a b ha hb
 | [],_ :: _,h=>by simp only[D.le.go]at h
 | _ :: _,[],h=>by simp only[D.le.go]at h
theorem D.xB {l l':List D} (hg:D.le.go l l') {j:Nat} {c:D} (hc:l'[j]? = some c):∃ x,l[j]? = some x/\x.le c:=by
 obtain⟨hl,hh⟩:=D.sZ hg;have hj:=(OF.1 hc).1
 have hj':j < l.length:=by omega
 exact⟨l[j],by simp[hj'],hh j _ c (by simp[hj']) hc⟩
theorem RD.le {w:World} {X:Nat->Prop} {u:Value} {x:D} (hr:RD w X u x):∀ {y:D},x.le y->RD w X u y:=by
 induction hr with
 | v x=>intro y h;cases y<;>simp only[D.le,reduceCtorEq]at h;exact h ▸ .v x
 | nil hk=>
  intro y h;cases y<;>simp only[D.le,reduceCtorEq]at h;obtain⟨h1 | h1,rfl⟩:=h
  .exact .nil (by simp[h1])
  .exact .nil (h1 ▸ hk)
 | empty hk hm=>
  intro y h;cases y<;>simp only[D.le,reduceCtorEq]at h;obtain⟨h1 | h1,rfl⟩:=h
  .exact .empty (by simp[h1]) hm
  .exact .empty (h1 ▸ hk) hm
 | sl h1 h2 h3 h4 h5 h6 h7 h8 h9 zh=>
  intro y h;cases y<;>simp only[D.le,reduceCtorEq]at h;obtain⟨e1 | e1,rfl⟩:=h
  .exact .sl (by simp[e1]) h2 h3 h4 h5 h6 h7 h8 h9 zh
  .exact .sl (e1 ▸ h1) h2 h3 h4 h5 h6 h7 h8 h9 zh
 | ip hX hb cI hr ih=>
  intro y h;cases y<;>simp only[D.le,reduceCtorEq]at h;obtain⟨hl,_⟩:=D.sZ h;refine .ip hX hb (fun j hj=>cI j (by omega)) fun j c hc=>?_;obtain⟨x,hx,hle⟩:=D.xB h hc;exact ih j x hx hle
 | agg hn hr ih=>
  intro y h;cases y<;>simp only[D.le,reduceCtorEq]at h;obtain⟨hl,_⟩:=D.sZ h;refine .agg (by omega) fun j u c hu hc=>?_;obtain⟨x,hx,hle⟩:=D.xB h hc;exact ih j u x hu hx hle
 | aW hn hr ih=>
  intro y h;cases y<;>simp only[D.le,reduceCtorEq]at h;obtain⟨hl,_⟩:=D.sZ h;refine .aW (by omega) fun j u c hu hc=>?_;obtain⟨x,hx,hle⟩:=D.xB h hc;exact ih j u x hu hx hle
 | bt hr ih=>
  intro y h;cases y<;>simp only[D.le,reduceCtorEq]at h;obtain⟨rfl,h⟩:=h;exact .bt (ih h)
 | lN hX hh=>
  intro y h;cases y<;>simp only[D.le,reduceCtorEq]at h;injection h with h;exact h ▸ .lN hX hh
 | dm hX hh hp hx=>
  intro y h;cases y<;>simp only[D.le,reduceCtorEq]at h;exact .dm hX hh (hp.trans h.2) fun e=>(hx (h.1 e).1).trans (h.1 e).2
 | fn hn hr ih=>
  intro y h;cases y<;>simp only[D.le,reduceCtorEq]at h;obtain⟨rfl,h⟩:=h;obtain⟨hl,_⟩:=D.sZ h;refine .fn (by omega) fun j u c hu hc=>?_;obtain⟨x,hx,hle⟩:=D.xB h hc;exact ih j u x hu hx hle
theorem ar.aeZ {g:FuncId} {ds ds':List D} {y:D} (hc:ar P G g ds y) (h:D.le.go ds' ds):ar P G g ds' y:=by
 refine⟨hc.1,fun X w μ vs hs hgl hn hv=>hc.2 X w μ vs hs hgl (by simpa[(D.sZ h).1]using hn) fun i u x hu hx=>?_⟩;rw[abM]at hx;obtain⟨d,hd,rfl⟩:=AT.1 hx;obtain⟨x,hx,hle⟩:=D.xB h hd;exact .d ((hv i u (.d x) hu (by rw[abM,hx];rfl)).data.le hle)
theorem ab8.data {g:FuncId} {xs:List AV} {ds ds':List D} {y:D} {dst:Option Tmp} {next:St->Prop} (hc:ar P G g ds y) (hx:iN xs=some ds') (hle:D.le.go ds' ds) (h:next ⟨aD σ.env dst (.d y),σ.H⟩):ab8 P Mv X G N g xs σ dst next:=by
 unfold ab8;rw[lT hx];exact ad6.pure (hc.aeZ hle) h
theorem ab8.aee {g:FuncId} {xs:List AV} {ds ds':List D} {y:D} {dst:Option Tmp} {next:St->Prop} (hc:ar P G g ds y) (hx:iw (dW σ.H 4) xs=some ds') (hle:D.le.go ds' ds) (hy:y.scalar=true) (h:next ⟨aD σ.env dst (.d y),σ.H⟩):ab8 P Mv X G N g xs σ dst next:=
 ad6.aee hx (hc.aeZ hle) hy h
theorem jm.data {c:Call} {g:FuncId} {xs:List AV} {ds ds':List D} {y:D} {dst:Option Tmp} {next:St->Prop} (hc:ar P G g ds y) (ht:tgt G σ.env c=some (g,xs)) (hx:iN xs=some ds') (hle:D.le.go ds' ds) (h:next ⟨aD σ.env dst (.d y),σ.H⟩):jm P G c σ dst next:=
 ⟨y,⟨g,xs,ht,.inl ⟨ds',lT hx,hc.aeZ hle⟩⟩,h⟩
theorem jm.aee {c:Call} {g:FuncId} {xs:List AV} {ds ds':List D} {y:D} {dst:Option Tmp} {next:St->Prop} (hc:ar P G g ds y) (ht:tgt G σ.env c=some (g,xs)) (hx:iw (dW σ.H 4) xs=some ds') (hle:D.le.go ds' ds) (hy:y.scalar=true) (h:next ⟨aD σ.env dst (.d y),σ.H⟩):jm P G c σ dst next:=
 ⟨y,⟨g,xs,ht,.inr ⟨ds',hx,hy,hc.aeZ hle⟩⟩,h⟩
theorem GN (H:Heap) (k:Nat):∀ (ds:List D),iw (dW H k) (ds.map .d)=some ds
 | []=>rfl
 | d :: ds=>by simp[iw,GN H k ds];cases k<;>simp[dW]
theorem D.le_refl (x:D):x.le x:=by
 have key:∀ n,∀ x:D,SizeOf.sizeOf x < n->x.le x:=by
  intro n
  induction n with
  | zero=>intro x h;omega
  | succ n ih=>
   intro x h
   have go:∀ l:List D,SizeOf.sizeOf l < n->D.le.go l l:=by
    intro l
    induction l with
    | nil=>intro _;simp[D.le.go]
    | cons y l xx=>
     intro hl;simp only[List.cons.sizeOf_spec]at hl;exact⟨ih y (by omega),xx (by omega)⟩
   cases x<;>simp only[D.le]<;>simp at h ⊢
   .exact go _ (by omega)
   .exact go _ (by omega)
   .exact go _ (by omega)
   .exact ih _ (by omega)
   .exact go _ (by omega)
 exact key _ x (Nat.lt_succ_self _)
theorem D.abY:∀ l:List D,D.le.go l l
 | []=>trivial
 | x :: l=>⟨D.le_refl x,D.abY l⟩
theorem Wv (hg:Good P T) (hi:In w X G μ N a σ) {r:ResultVar} {c:Prop} {x:AV} (h:A9 T σ r=some (c,x)) (hc:c) :
  ∃ v,(match r with | .tmp t=>(pure (a.tmps.getD t undef):Sem Value) | .cell b t=>do loadVar t (<- asAddr (a.tmps.getD b undef))).run P w = .ok v w/\RV w X μ v x:=by
 cases r with
 | tmp t=>
  simp only[A9,AT,BY]at h;obtain⟨y,hy,_,rfl⟩:=h;obtain⟨u,hu,hr⟩:=hi.env.slot t y hy;exact⟨u,by simp[IT,hu],hr⟩
 | cell b t=>
  obtain⟨y,hy,hl⟩:=ab9.1 h;obtain⟨u,hu,hr⟩:=hi.env.slot b y hy;obtain⟨v,hv,fv⟩:=Kf (P:=P) hg hi.aX hl hc hr;refine⟨v,?_,fv⟩
  have e:a.tmps.getD b undef=u:=by simp[IT,hu]
  dsimp only;rw[e];unfold aef at hl;split at hl
  .obtain⟨b,off,f,rfl,_⟩:=hr.data.aeN;simpa[Instr.loadAt,Instr.sureAddr,asAddr]using hv
  .obtain⟨m,b,hm,hb,rfl⟩:=hr.ik;simpa[Instr.loadAt,Instr.sureAddr,asAddr]using hv
  .cases hl
theorem Wt (hg:Good P T) (hi:In w X G μ N a σ):∀ {rs:List ResultVar} {c:Prop} {xs:List AV},rr T σ rs=some (c,xs)->c->
  ∃ vs:List Value,(rs.mapM (m:=Sem) fun | .tmp t=>pure (a.tmps.getD t undef) | .cell b t=>do loadVar t (<- asAddr (a.tmps.getD b undef))).run P w = .ok vs w/\vs.length=xs.length/\∀ (j:Nat) (u:Value) (x:AV),vs[j]? = some u->xs[j]? = some x->RV w X μ u x:=by
 intro rs
 induction rs with
 | nil=>
  intro c xs h hc;simp only[rr,AS,BY]at h;obtain⟨_,rfl⟩:=h;exact⟨[],by simp,rfl,by simp⟩
 | cons r rs ih=>
  intro c xs h hc;simp only[rr]at h;split at h
  .rename_i c1 x c2 MU h1 h2;simp only[AS,BY]at h;obtain⟨rfl,rfl⟩:=h;obtain⟨v,hv,hr⟩:=Wv (P:=P) hg hi h1 hc.1;obtain⟨vs,pU,hl,gB⟩:=ih h2 hc.2;refine⟨v :: vs,?_,by simp[hl],fun j u x hu hx=>?_⟩
   .rw[List.mapM_cons,Sem.run_bind,hv,Result.andThen_ok,Sem.run_bind,pU,Result.andThen_ok,Sem.run_pure]
   .cases j with
    | zero=>simp at hu hx;subst hu hx;exact hr
    | succ j=>simp at hu hx;exact gB j u x hu hx
  .cases h
theorem Fz (hg:Good P T) (hi:In w X G μ N a σ) {fn:Func} {rs:List ResultVar} (gB:fn.results=rs.toArray) {c:Prop} {xs:List AV} (h:rr T σ rs=some (c,xs)) (hc:c) :
  ∃ v,(results fn a.tmps).run P w = .ok v w/\RV w X μ v (oneOf xs):=by
 obtain⟨vs,pU,hl,hr⟩:=Wt (P:=P) hg hi h hc;refine⟨if h:vs.toArray.size=1 then vs.toArray[0] else .tuple vs.toArray,?_,?_⟩
 .unfold results;rw[gB,Array.mapM_eq_mapM_toList,Sem.run_bind];simp only[map_eq_pure_bind,Sem.run_bind]
  erw[pU]
  rfl
 .match xs,vs,hl,hr with
  | [],[],_,hr=>exact Ax (l:=[]) (.aW (arr:=#[]) (cells:=[]) rfl (by simp))
  | [x],[v],_,hr=>exact hr 0 v x rfl rfl
  | x :: y :: xs,v :: u :: vs,hl,hr=>
   have:¬ (v :: u :: vs).toArray.size=1:=by simp
   rw[dif_neg this];exact Ax (.aW (by simpa using hl) fun j u c hu hc=>hr j u c (by simpa using hu) hc)
theorem ar.abS (hg:Good P T) {g:FuncId} {fn:Func} {c:Code} {rs:List ResultVar} {ds:List D} {y:D} (hf:P.funcs[g]? = some fn) (hb:fn.body=some c) (hn:(fn.name == "runtime.NumGoroutine")=false) (gB:fn.results=rs.toArray)
  (hN:ds.length<=fn.ntmps) (h:∀ X,AW P (fun _=>True) X G ⟨fn.ntmps,[],none⟩ c (B0 T rs y) ⟨args (ds.map .d),fD⟩):ar P G g ds y:=by
 refine⟨fe.of hf hb hn,fun X w μ vs hs hgl aK hv=>?_⟩
 have fin:∀ (w':World) (ay:Mu) (a':Act) (aw:St),tT T rs y aw->In w' X G ay ⟨fn.ntmps,[],none⟩ a' aw->Ev (fun _=>True) w μ w' ay->∃ v,(results fn a'.tmps).run P w' = .ok v w'/\∃ v_1 x H' ay,Ending.returned v=Ending.returned v_1/\(x = .d y/\H'=fD)/\RV w' X ay v_1 x/\Sim w' X ay H'/\Ev (fun _=>True) w μ w' ay:=by
  intro w' ay a' aw he hi aH;unfold tT at he;split at he
  .rename_i c xs hx;obtain⟨hc,he⟩:=he;split at he
   .rename_i y' hy;obtain⟨v,hv,hr⟩:=Fz (P:=P) hg hi gB hx hc;have bD:=(agC hi.aX 6 hy hr).le he;refine⟨v,hv,v,.d y,fD,fun _=>none,rfl,⟨rfl,rfl⟩,.d (bD.sub fun b=>k8.1),Sim.none hi.aX.fits,aH.size,aH.os,aH.tape,aH.output,fun b hb hr=>⟨(aH.same b hb hr).1,fun ⟨_,_,h,_⟩=>by cases h⟩,fun r m _ hn=>absurd trivial hn⟩
   .exact he.elim
  .exact he.elim
 refine calls_of_wp hf hb ((wpIn_wide (n:=0)).1 (wpIn_mono (h X w μ _ ⟨hs,⟨rfl,by simp;simp at aK;omega,fun i x hx=>?_⟩,hgl⟩) fun e a' w' ⟨ay,aw,q,i,ev⟩=>?_))
 .simp only[args]at hx;have hi:i < (ds.map AV.d).length:=(OF.1 hx).1
  have nR:vs[i]? = some vs[i]:=by rw[acb]
  exact⟨vs[i],by rw[acM (by omega),nR],hv i _ x nR hx⟩
 .cases e with
  | normal=>
   obtain⟨v,hv,rest⟩:=fin w' ay a' aw q i ev;exact⟨i.env.defers,v,hv,rest⟩
  | ret=>
   obtain⟨v,hv,rest⟩:=fin w' ay a' aw q i ev;exact⟨i.env.defers,v,hv,rest⟩
  | _=>exact q.elim
end
end Go.Av
namespace Go.Av
section
variable {P:Program} {T:Ty} {Mv X:Nat->Prop} {G:aq} {N:Fr} {ops:Array Oper}
def af0 (o:Oper):Option (Operand×Operand):=match o.op with
 | .call { callee:=.builtin .append,args,argTypes }=>match args.toList,argTypes.toList with
  | [x,y],[t,t']=>if t=t' then some (x,y) else none
  | _,_=>none
 | _=>none
def agB (T:Ty) (Mv:Nat->Prop) (o:Oper) (r off n ty sz:Nat) (els news:List (List D)):Option (Prop×Nat×Row):=match o.op,o.dst with
 | .call { callee:=.builtin .append,args,argTypes },some _=>match args.toList,argTypes.toList with
  | [_,_],[t,t']=>if t=t' then match T t with
   | some tt=>match tt.desc with
    | .slice e=>match T e with
     | some te=>some (off=0/\Mv r/\ty=e/\sz=te.size/\n<=els.length/\(∀ el∈news,el.length=te.size)/\(∀ el∈news,∀ c∈el,D.one c=true)/\0 < te.size/\(adx te.zero).length=te.size/\n+news.length<=9223372036854775807/\(n+news.length) * te.bytes<=140737488355328,
       n+news.length,.sl e te.size (els.take n ++ news))
     | none=>none
    | _=>none
   | none=>none
  else none
  | _,_=>none
 | _,_=>none
def afh (s:Nat):AV->Prop
 | .own q _ _=>q=s
 | _=>True
def ady (T:Ty) (G:aq) (Mv:Nat->Prop) (o:Oper) (e:Env) (H:Heap) (r s m:Nat) (row:Row):Prop:=
 ∃ x y off n v ty sz els news c,af0 o=some (x,y)/\bh G e x=some (.own r off n)/\bh G e y=some v/\afh s v/\H r=some (.sl ty sz els)/\jA H r v=some news/\agB T Mv o r off n ty sz els news=some (c,m,row)/\c
theorem BU {o:Oper} {x y:Operand} (h:af0 o=some (x,y)):∃ t t',o.op = .call { callee:=.builtin .append,args:=#[x,y],argTypes:=#[t,t'] }/\t=t':=by
 unfold af0 at h;split at h
 .rename_i args argTypes hop;split at h
  .rename_i x' y' t t' ha ht;split at h
   .rename_i cC;simp only[AS,BY]at h;obtain⟨rfl,rfl⟩:=h;have e1:args = #[x',y']:=ada.1 ha;have e2:argTypes = #[t,t']:=ada.1 ht;exact⟨t,t',by rw[hop,e1,e2],cC⟩
   .cases h
  .cases h
 .cases h
theorem ady.row {o:Oper} {e:Env} {H:Heap} {r s m:Nat} {row:Row} (h:ady T G Mv o e H r s m row):(∃ ty sz els,row = .sl ty sz els)/\(∃ ty sz els,H r=some (.sl ty sz els))/\(∃ d,o.dst=some d):=by
 obtain⟨x,y,off,n,v,ty,sz,els,news,c,h1,h2,h3,h4,h5,h6,h7,h8⟩:=h;unfold agB at h7
 repeat' split at h7
 all_goals first
  | cases h7;done
  | (simp only [AS, BY] at h7
     obtain⟨_,_,rfl⟩:=h7
     exact⟨⟨_,_,_,rfl⟩,⟨_,_,_,h5⟩,⟨_,by assumption⟩⟩)
theorem ady.to {o:Oper} {e:Env} {H:Heap} {r s m:Nat} {row:Row} (h:ady T G Mv o e H r s m row):kD P T Mv G o ⟨e,H⟩ ⟨aD (cN r e) o.dst (.own r 0 m),aM (cO r H) r row⟩:=by
 obtain⟨x,y,off,n,v,ty,sz,els,news,c,h1,h2,h3,h4,h5,h6,h7,h8⟩:=h;obtain⟨t,t',hop,zU⟩:=BU h1;obtain⟨dst,op,type,pos,after,guard⟩:=o;dsimp only at hop;subst hop;unfold kD;simp only[acm,acS,if_true];unfold agB at h7;dsimp only at h7
 cases dst with
 | none=>cases h7
 | some d=>
  simp only[List.toList_toArray]at h7;refine⟨c,.own r 0 m,⟨cN r e,aM (cO r H) r row⟩,?_,h8,rfl⟩;unfold wr;dsimp only;subst zU;rw[if_pos rfl]at h7;split at h7
  .rename_i tt hT;split at h7
   .rename_i ety hd;split at h7
    .rename_i te cg;simp only[AS,BY]at h7;obtain⟨rfl,rfl,rfl⟩:=h7;simp[hT,hd,cg,h2,h3,h5,h6]
    .cases h7
   .cases h7
  .cases h7
theorem ady.of {o:Oper} {e:Env} {H:Heap} {r s off n:Nat} {x y:Operand} {v:AV} {c:Prop} {z:AV} {aG:St} (ho:af0 o=some (x,y)) (hx:bh G e x=some (.own r off n)) (hy:bh G e y=some v) (hs:afh s v) (h:wr T G Mv ⟨e,H⟩ o=some (c,z,aG)) (hc:c) :
  ∃ m row,ady T G Mv o e H r s m row/\z = .own r 0 m/\aG=⟨cN r e,aM (cO r H) r row⟩:=by
 obtain⟨t,t',hop,zU⟩:=BU ho;obtain⟨dst,op,type,pos,after,guard⟩:=o;dsimp only at hop;subst hop;unfold wr at h;dsimp only at h
 cases dst with
 | none=>cases h
 | some d=>
  dsimp only at h;split at h
  .rename_i cC;subst cC
   cases hT:T t with
   | none=>simp[hT]at h
   | some tt=>
    simp only[hT]at h;split at h
    .rename_i ety hd
     cases cg:T ety with
     | none=>simp[cg]at h
     | some te=>
      simp only[cg,hx,hy]at h;split at h
      .rename_i ty sz els news h1 h2;simp only[AS,BY]at h;obtain⟨rfl,rfl,rfl⟩:=h;exact⟨_,_,⟨x,y,off,n,v,ty,sz,els,news,_,ho,hx,hy,hs,h1,h2,by simp[agB,hT,hd,cg],hc⟩,rfl,rfl⟩
      .cases h
    .cases h
  .rename_i aI;exact absurd zU aI
theorem KB {H H2:Heap} {r s:Nat} {v:AV} (hs:afh s v) (hH:H2 s=H s):jA H2 r v=jA H r v:=by
 cases v with
 | own q off n=>
  simp only[afh]at hs;subst hs;simp only[jA,hH]
 | d x=>cases x<;>rfl
 | _=>rfl
theorem ady.congr {o:Oper} {e e2:Env} {H H2:Heap} {r s m:Nat} {row:Row} (h:ady T G Mv o e H r s m row) (ha:fB o.op e e2) (hr:H2 r=H r) (hs:H2 s=H s):ady T G Mv o e2 H2 r s m row:=by
 obtain⟨x,y,off,n,v,ty,sz,els,news,c,h1,h2,h3,h4,h5,h6,h7,h8⟩:=h;obtain⟨t,t',hop,zU⟩:=BU h1;have hx:∀ t,x = .tmp t->e t=e2 t:=fun t ht=>ha t (by rw[hop];simp[Op.operands,Call.operands,ht]);have hy:∀ t,y = .tmp t->e t=e2 t:=fun t ht=>ha t (by rw[hop];simp[Op.operands,Call.operands,ht]);exact⟨x,y,off,n,v,ty,sz,els,news,c,h1,by rw[<- dw hx];exact h2,by rw[<- dw hy];exact h3,h4,by rw[hr];exact h5,by rw[KB h4 hs];exact h6,h7,h8⟩
theorem AV.Ah (r r':Nat) (x:AV):(x.kill r).kill r'=(x.kill r').kill r:=by
 have key:∀ n,∀ x:AV,SizeOf.sizeOf x < n->(x.kill r).kill r'=(x.kill r').kill r:=by
  intro n
  induction n with
  | zero=>intro x h;omega
  | succ n ih=>
   intro x h
   have go:∀ l:List AV,SizeOf.sizeOf l < n->(l.map (AV.kill r)).map (AV.kill r')=(l.map (AV.kill r')).map (AV.kill r):=by
    intro l
    induction l with
    | nil=>intro _;rfl
    | cons y l xx=>
     intro hl;simp only[List.cons.sizeOf_spec]at hl;simp only[acJ,aeV];exact⟨ih y (by omega),xx (by omega)⟩
   cases x with
   | d x=>simp[AV.kill]
   | own q off n=>by_cases h1:q=r<;>by_cases h2:q=r'<;>simp[AV.kill,h1,h2]<;>(try (by_cases h3:r=r'<;>simp[AV.kill,h3]))<;>(try simp_all [AV.kill])
   | ref q e j=>by_cases h1:q=r<;>by_cases h2:q=r'<;>simp[AV.kill,h1,h2]<;>(try (by_cases h3:r=r'<;>simp[AV.kill,h3]))<;>(try simp_all [AV.kill])
   | agg cells=>simp at h;simp only[AV.kill,AV.go_eq];rw[go cells (by omega)]
   | aW cells=>simp at h;simp only[AV.kill,AV.go_eq];rw[go cells (by omega)]
   | bt t x=>simp at h;simp only[AV.kill];rw[ih x (by omega)]
   | bm t x=>simp at h;simp only[AV.kill];rw[ih x (by omega)]
   | fn f cells=>simp at h;simp only[AV.kill,AV.go_eq];rw[go cells (by omega)]
   | mp q=>by_cases h1:q=r<;>by_cases h2:q=r'<;>simp[AV.kill,h1,h2]<;>(try (by_cases h3:r=r'<;>simp[AV.kill,h3]))<;>(try simp_all [AV.kill])
   | dead=>simp[AV.kill]
 exact key _ x (Nat.lt_succ_self _)
theorem Tz (r r':Nat) (e:Env):cN r' (cN r e)=cN r (cN r' e):=by
 funext i;simp only[cN,Option.map_map];congr 1;funext x;exact AV.Ah r r' x
theorem Row.Ah (r r':Nat) (x:Row):(x.kill r).kill r'=(x.kill r').kill r:=by
 cases x with
 | sl ty sz els=>rfl
 | mp ty ents=>rfl
 | it ents seen=>rfl
 | box ty cells=>
  simp only[Row.kill,abU];congr 1;apply List.map_congr_left;intro x _;exact AV.Ah r r' x
theorem ahX (r r':Nat) (H:Heap):cO r' (cO r H)=cO r (cO r' H):=by
 funext i;simp only[cO,Option.map_map];congr 1;funext x;exact Row.Ah r r' x
theorem Af (r:Nat) (e:Env) (d:Option Tmp) (x:AV):cN r (aD e d x)=aD (cN r e) d (x.kill r):=by
 cases d with
 | none=>rfl
 | some d=>funext i;simp only[cN,aD,eW];split<;>rfl
def BJ (r:Nat) (o:Oper) (e:Env) (x:AV):Prop:=fB o.op e (cN r e)/\x.kill r=x
theorem ir {o:Oper} {e:Env} (h:o.guard=none):fR ops e o=some true:=by simp[fR,h]
theorem UF {r:Nat} {l:List AV} (h:(me l).kill r=me l):me (l.map (AV.kill r))=me l:=by
 unfold me at h ⊢;split at h
 .rename_i ds hd;rw[lT hd]
  have:(ds.map AV.d).map (AV.kill r)=ds.map AV.d:=by simp[abU,abK,AV.kill]
  rw[this,BT]
 .rename_i hd;simp only[AV.kill,AV.go_eq,AV.agg.injEq]at h;rw[h,hd]
theorem NP {r:Nat} {t:TypeId} {cells:List AV} {c:Prop} {x:AV} {j:Nat} (h:lU T t (cells.drop j)=some (c,x)) (hx:x.kill r=x):∃ c',lU T t ((cells.map (AV.kill r)).drop j)=some (c',x)/\(c->c'):=by
 unfold lU at h ⊢;split at h
 .cases h
 .rename_i ti ht;split at h
  .rename_i ha;rw[if_pos ha];simp only[AS,BY]at h;obtain⟨rfl,rfl⟩:=h;refine⟨_,?_,id⟩;rw[<- List.map_drop,<- List.map_take,ac1,UF hx]
  .rename_i ha;rw[if_neg ha];simp only[AS,BY]at h;obtain⟨rfl,rfl⟩:=h;rw[<- List.map_drop];generalize hl:cells.drop j=l at hx
   cases l with
   | nil=>exact⟨_,rfl,fun h=>absurd rfl h⟩
   | cons y l=>
    simp only[List.headD_cons]at hx;refine⟨_,by simp only[acJ,List.headD_cons,hx];rfl,fun _=>by simp⟩
theorem Wd {o:Oper} {e:Env} {H:Heap} {r:Nat} {row:Row} {c:Prop} {x:AV} (cF:∃ ty sz els,row = .sl ty sz els) (h:rd T G ⟨e,H⟩ o.op=some (c,x)) (ac8:BJ r o e x) :
  ∃ c',rd T G ⟨e,aM (cO r H) r row⟩ o.op=some (c',x)/\(c->c'):=by
 have zy:=ac8.1;have hx:=ac8.2;clear ac8
 have free:∀ t v,Operand.tmp t∈o.op.operands->e t=some v->v.kill r=v:=by
  intro t v ht hv;have:=zy t ht;rw[hv]at this;simp only[cN,hv,acN,AS]at this;exact this.symm
 have ne:∀ (p:Operand) (v:AV),bh G e p=some v->p∈o.op.operands->v.kill r=v:=by
  intro p v hv hp
  cases p with
  | tmp t=>exact free t v hp hv
  | const k=>simp only[bh,AS]at hv;subst hv;unfold ff;split<;>rfl
  | global g=>simp only[bh,AT]at hv;obtain⟨d,_,rfl⟩:=hv;rfl
  | func f=>simp only[bh,AS]at hv;subst hv;rfl
 have aI:∀ q,q≠r->(aM (cO r H) r row) q=(H q).map (Row.kill r):=fun q hq=>by simp[aM,hq,cO]
 obtain⟨dst,op,type,pos,after,guard⟩:=o;dsimp only at h free ne ⊢;by_cases hk:kindOf op=0
 .rw[Lh hk _ H];exact⟨c,h,id⟩
 cases op<;>first | exact absurd rfl hk | skip
 case load t p=>
  simp only[rd]at h ⊢;obtain⟨v,hv,hl⟩:=ab9.1 h;rw[hv,ae5];have hf:=ne p v hv (by simp[Op.operands])
  cases v with
  | d x=>cases x<;>first | exact⟨c,hl,id⟩ | cases hl
  | own q off n=>cases hl
  | agg _=>cases hl
  | aW _=>cases hl
  | bt _ _=>cases hl
  | fn _ _=>cases hl
  | bm _ _=>cases hl
  | dead=>cases hl
  | mp _=>cases hl
  | ref q ee j=>
   simp only[aef]at hl ⊢
   have hq:q≠r:=fun e=>by simp[AV.kill,e]at hf
   rw[aI q hq]
   cases hH:H q with
   | none=>simp[hH]at hl
   | some ru=>
    cases ru with
    | sl ty sz els=>simp only[hH]at hl;simp only[acN,Row.kill];exact⟨c,hl,id⟩
    | mp ty ents=>simp[hH]at hl
    | it ents seen=>simp[hH]at hl
    | box ty cells=>
     simp only[hH]at hl;simp only[acN,Row.kill];split at hl
     .rename_i he;rw[if_pos he];exact NP hl hx
     .cases hl
 case indexAddr t p i=>
  simp only[rd]at h ⊢;split at h
  .rename_i a b ha hb;have hf:=ne p a ha (by simp[Op.operands])
   have bb:∃ k n,b = .d (.v (.int k n)):=by
    unfold mR at h;split at h
    .exact⟨_,_,rfl⟩
    .exact⟨_,_,rfl⟩
    .exact⟨_,_,rfl⟩
    .exact⟨_,_,rfl⟩
    .cases h
   obtain⟨k,nn,rfl⟩:=bb
   cases a with
   | d x=>cases x<;>first | exact⟨c,h,id⟩ | (cases h;done)
   | ref _ _ _=>exact⟨c,h,id⟩
   | agg _=>cases h
   | aW _=>cases h
   | bt _ _=>cases h
   | fn _ _=>cases h
   | bm _ _=>cases h
   | dead=>cases h
   | mp _=>cases h
   | own q off n=>
   unfold mR at h ⊢
   have hq:q≠r:=fun e=>by simp[AV.kill,e]at hf
   simp only[aI q hq]
   cases hH:H q with
   | none=>simp[hH]at h
   | some ru=>
    cases ru with
    | sl ty sz els=>simp only[hH]at h;exact⟨c,h,id⟩
    | mp ty ents=>
     cases he:lY T t with
     | none=>simp[he]at h
     | some s=>simp[he,hH]at h
    | it ents seen=>
     cases he:lY T t with
     | none=>simp[he]at h
     | some s=>simp[he,hH]at h
    | box ty cells=>
     simp only[hH]at h
     cases he:lY T t with
     | none=>simp[he]at h
     | some s=>rw[he]at h;exact⟨c,h,id⟩
  .cases h
 case slice t p lo hi mx=>
  simp only[rd]at h ⊢;split at h
  .rename_i hm;rw[if_pos hm];split at h
   .rename_i v l hh h1 h2 h3;have hf:=ne p v h1 (by simp[Op.operands])
    cases v with
    | d x=>cases x with
     | v x=>cases x<;>first | exact⟨c,h,id⟩ | (cases h;done)
     | sl k els=>exact⟨c,h,id⟩
     | _=>cases h
    | ref _ _ _=>cases h
    | agg _=>cases h
    | aW _=>cases h
    | bt _ _=>cases h
    | fn _ _=>cases h
    | bm _ _=>cases h
    | dead=>cases h
    | mp _=>cases h
    | own q off n=>
    unfold nZ at h ⊢;dsimp only at h ⊢
    have hq:q≠r:=fun e=>by simp[AV.kill,e]at hf
    rw[aI q hq]
    cases hH:H q with
    | none=>simp[hH]at h
    | some ru=>
     cases ru with
     | sl ty sz els=>simp only[hH]at h;exact⟨c,h,id⟩
     | mp ty ents=>simp[hH]at h
     | it ents seen=>simp[hH]at h
     | box ty cells=>simp[hH]at h
   .cases h
  .cases h
 case lookup t p i b=>
  simp only[rd]at h ⊢;split at h
  .rename_i a k ha hb;have hf:=ne p a ha (by simp[Op.operands])
   cases a with
   | mp q=>
    have hq:q≠r:=fun e=>by simp[AV.kill,e]at hf
    cases k with
    | d kx=>
     cases kx with
     | v kv=>
      simp only[kU]at h ⊢;rw[aI q hq]
      cases hH:H q with
      | none=>simp[hH]at h
      | some ru=>
       cases ru with
       | mp ty ents=>rw[hH]at h;exact⟨c,h,id⟩
       | _=>simp[hH]at h
     | _=>simp[kU]at h
    | _=>simp[kU]at h
   | d q=>
    cases q with
    | dm x ents=>
     cases k with
     | d kx=>
      cases kx with
      | v kv=>simp only[kU]at h ⊢;exact⟨c,h,id⟩
      | _=>simp[kU]at h
     | _=>simp[kU]at h
    | _=>simp[kU]at h
   | _=>simp[kU]at h
  .cases h
 case call cc=>
  obtain⟨callee,args,argTypes⟩:=cc
  cases callee with
  | builtin b=>cases b<;>first | exact absurd rfl hk | (simp[rd]at h;done)
  | _=>simp[rd]at h
 all_goals first | (simp[rd]at h;done) | skip
end
end Go.Av
namespace Go.Av
def qh (av:List (Nat×List Nat)) (i:Nat):List Nat:=(av.lookup i).getD []
def Fb (o:Op):Bool:=match o with
 | .buildSlice _ _ _=>true
 | .makeSlice _ _ _=>true
 | .alloc _=>true
 | o=>decide (kindOf o<=2)
def qn (la:List (Nat×Nat×Nat)) (av:List (Nat×List Nat)) (ops:Array Oper) (i j:Nat) (oi oj:Oper):Bool:=match la.lookup i,la.lookup j with
 | none,none=>adC ops oi oj
 | none,some (r,s)=>oi.apart ops oj && Fb oi.op && !(oi.dst == some s) && !(oi.dst == some r) && (qh av i).contains r
 | some (r,s),some (r',s')=>oi.apart ops oj && !(r == r') && !(s == r') && !(s' == r)
 | some _,none=>false
section
variable {P:Program} {T:Ty} {Mv X:Nat->Prop} {G:aq} {N:Fr} {ops:Array Oper} {la:List (Nat×Nat×Nat)} {av:List (Nat×List Nat)}
theorem AV.Ag (r:Nat) (x:AV):(x.kill r).kill r=x.kill r:=by
 have key:∀ n,∀ x:AV,SizeOf.sizeOf x < n->(x.kill r).kill r=x.kill r:=by
  intro n
  induction n with
  | zero=>intro x h;omega
  | succ n ih=>
   intro x h
   have go:∀ l:List AV,SizeOf.sizeOf l < n->(l.map (AV.kill r)).map (AV.kill r)=l.map (AV.kill r):=by
    intro l
    induction l with
    | nil=>intro _;rfl
    | cons y l xx=>
     intro hl;simp only[List.cons.sizeOf_spec]at hl;simp only[acJ,aeV];exact⟨ih y (by omega),xx (by omega)⟩
   cases x with
   | d x=>simp[AV.kill]
   | own q off n=>by_cases h1:q=r<;>simp[AV.kill,h1]
   | ref q e j=>by_cases h1:q=r<;>simp[AV.kill,h1]
   | agg cells=>simp at h;simp only[AV.kill,AV.go_eq];rw[go cells (by omega)]
   | aW cells=>simp at h;simp only[AV.kill,AV.go_eq];rw[go cells (by omega)]
   | bt t x=>simp at h;simp only[AV.kill];rw[ih x (by omega)]
   | bm t x=>simp at h;simp only[AV.kill];rw[ih x (by omega)]
   | fn f cells=>simp at h;simp only[AV.kill,AV.go_eq];rw[go cells (by omega)]
   | mp q=>by_cases h1:q=r<;>simp[AV.kill,h1]
   | dead=>simp[AV.kill]
 exact key _ x (Nat.lt_succ_self _)
theorem Row.Ag (r:Nat) (x:Row):(x.kill r).kill r=x.kill r:=by
 cases x with
 | sl ty sz els=>rfl
 | mp ty ents=>rfl
 | it ents seen=>rfl
 | box ty cells=>
  simp only[Row.kill,abU];congr 1;apply List.map_congr_left;intro x _;exact AV.Ag r x
theorem Pe {e:Env} {H:Heap} {r ty sz:Nat} {els:List (List D)} (d:Tmp) (hm:Mv r):aB Mv X G N ⟨eW (cN r e) d (.own r 0 els.length),aM (cO r H) r (.sl ty sz els)⟩ ⟨eW (cN r e) d (.d (.sl none els)),aM (cO r H) r (.sl ty sz [])⟩:=fun w μ a hi=>by
 have hr:aM (cO r H) r (.sl ty sz els) r=some (.sl ty sz els):=by simp[aM]
 have pM:(fun q=>if q=r then none else μ q)=bL (e9 r) μ:=by
  funext q;unfold bL e9;by_cases h:q=r<;>simp[h]
 have ev:Ev Mv w μ w (bL (e9 r) μ):=rY fun q _ _ hq=>by
  have e:q=r:=by simpa[e9]using hq
  exact e ▸ hm
 have aI:∀ q,q≠r->bL (e9 r) μ q=μ q:=fun q hq=>by simp[bL,e9,hq]
 have hX:∀ b,XX X (bL (e9 r) μ) b->XX X μ b:=fun b=>vN
 have h1:In w X G (bL (e9 r) μ) N a ⟨eW (cN r e) d (.d (.sl none els)),fun q=>if q=r then none else cO r H q⟩:=by
  refine⟨⟨fun q row hq=>?_,fun q m hq=>?_,fun q q' m1 m2 b h1 h2 hb1 hb2=>hi.aX.inj q q' m1 m2 b (adt h1).2 (adt h2).2 hb1 hb2,fun q mq b hq hb=>hi.aX.frame q mq b (adt hq).2 hb,hi.aX.fits⟩,
   ⟨hi.env.defers,hi.env.size,fun i x hx=>?_⟩,fun g x hx=>(hi.gr g x hx).sub hX⟩
  .dsimp only at hq;split at hq
   .cases hq
   .rename_i zQ;obtain⟨m,w6,ok⟩:=hi.aX.rows q row (by simpa[aM,zQ]using hq);obtain⟨kY,_,rfl⟩:=AT.1 (show (H q).map (Row.kill r)=some row from hq);refine⟨m,by rw[aI q zQ];exact w6,?_⟩;have:=adk.keep ev aI (fun _ _=>rfl) ok
    rwa [Row.Ag]at this
  .obtain⟨hk,w6⟩:=adt hq
   have zQ:q≠r:=by simpa[e9]using hk
   obtain⟨row,cF⟩:=hi.aX.iy q m w6;exact⟨row,by simpa[aM,zQ]using cF⟩
  .simp only[eW]at hx;split at hx
   .rename_i hid;subst hid;obtain rfl:=AI hx;obtain⟨u,hu,fv⟩:=hi.env.slot i (.own r 0 els.length) (by simp[eW]);refine⟨u,hu,?_⟩;obtain⟨k,hk,_⟩:=AR hi.aX hr (by omega) fv;rw[pM]at hk;have:=RV.d (w:=w) (μ:=bL (e9 r) μ) hk.aeZ;simpa using this
   .rename_i hid;obtain⟨x0,h0,rfl⟩:=AT.1 (show (e i).map (AV.kill r)=some x from hx);obtain⟨u,hu,fv⟩:=hi.env.slot i (x0.kill r) (by simp[eW,hid,cN,h0]);refine⟨u,hu,?_⟩;have:=RV.keep ev aI fv
    rwa [AV.Ag]at this
 obtain⟨aF,rX⟩:=h1.alloc (Mv:=Mv) (d:=r) (w':=w) (m:=⟨none,sz,0⟩) (by simp) (bZ.refl w) (by simp) (row:=.sl ty sz []) fun _=>.nil rfl rfl
 have hH:aM (fun q=>if q=r then none else cO r H q) r (.sl ty sz [])=aM (cO r H) r (.sl ty sz []):=by
  funext q;by_cases h:q=r<;>simp[aM,h]
 refine⟨_,?_,ev.trans rX⟩;rw[<- hH];exact aF
def Fin (Mv:Nat->Prop) (r m:Nat) (row:Row) (y:AV) (ac9:Row):Prop:=
 (y = .own r 0 m/\ac9=row)\/(Mv r/\∃ ty sz els,row = .sl ty sz els/\m=els.length/\y = .d (.sl none els)/\ac9 = .sl ty sz [])
theorem Fin.row {r m:Nat} {row ac9:Row} {y:AV} (h:Fin Mv r m row y ac9) (cF:∃ ty sz els,row = .sl ty sz els):∃ ty sz els,ac9 = .sl ty sz els:=by
 rcases h with⟨_,rfl⟩ | ⟨_,ty,sz,els,_,_,_,rfl⟩
 .exact cF
 .exact⟨_,_,_,rfl⟩
theorem Fin.kill {r m q:Nat} {row ac9:Row} {y:AV} (h:Fin Mv r m row y ac9) (hq:r≠q):y.kill q=y:=by
 rcases h with⟨rfl,_⟩ | ⟨_,ty,sz,els,_,_,rfl,_⟩
 .simp[AV.kill,hq]
 .rfl
def qg (P:Program) (T:Ty) (Mv:Nat->Prop) (G:aq) (N:Fr) (la:List (Nat×Nat×Nat)) (av:List (Nat×List Nat)) (i:Nat) (o:Oper) (σ aw:St):Prop:=
 eU N o/\o.guard=none/\match la.lookup i with
  | some (r,s)=>∃ m row y ac9,ady T G Mv o σ.env σ.H r s m row/\Fin Mv r m row y ac9/\aw=⟨aD (cN r σ.env) o.dst y,aM (cO r σ.H) r ac9⟩
  | none=>kindOf o.op≠9/\∃ x H',Ex P T Mv G o σ.env σ.H x H'/\aw=⟨aD σ.env o.dst x,H'⟩/\(∀ r∈qh av i,BJ r o σ.env x)/\(qh av i≠[]->∀ c,acm o.op=some c->∃ y g ds,tgt G σ.env c=some (g,ds.map .d)/\ar P G g ds y/\x = .d y)
theorem qg.step {i:Nat} {o:Oper} {σ aw:St} (h:qg P T Mv G N la av i o σ aw):∃ Gq,tm P T Mv G N ops o σ Gq/\aB Mv X G N Gq aw:=by
 obtain⟨hd,hg,h⟩:=h;split at h
 .obtain⟨m,row,y,ac9,h1,hf,rfl⟩:=h;refine⟨_,⟨hd,.inl ⟨ir hg,h1.to⟩⟩,?_⟩
  rcases hf with⟨rfl,rfl⟩ | ⟨hm,ty,sz,els,rfl,rfl,rfl,rfl⟩
  .exact .refl _
  .obtain⟨_,_,d,sd⟩:=h1.row;rw[sd];exact Pe d hm
 .obtain⟨_,x,H',h1,rfl,_⟩:=h;exact⟨_,⟨hd,.inl ⟨ir hg,h1.to⟩⟩,.refl _⟩
theorem Ex.newRow {o:Oper} (hk:¬ kindOf o.op<=2) (ho:Fb o.op=true) {e:Env} {H H':Heap} {x:AV} (h:Ex P T Mv G o e H x H'):∃ d row,o.dst=some d/\H d=none/\H'=aM H d row/\(∀ q,row.kill q=row)/\∀ H2,H2 d=none->Ex P T Mv G o e H2 x (aM H2 d row):=by
 obtain⟨dst,op,type,pos,after,guard⟩:=o;dsimp only at hk ho;unfold Ex at h;unfold Ex
 cases op<;>simp only[Fb,decide_eq_true_eq]at ho<;>first | exact absurd ho hk | skip
 case alloc t=>
  simp only[acm,acS,if_true]at h ⊢;obtain⟨c,h1,h2⟩:=h
  cases dst with
  | none=>cases h1
  | some d=>
   simp only[wr]at h1 ⊢;split at h1
   .rename_i ti D8;simp only[AS,BY,St.mk.injEq,true_and]at h1;obtain⟨rfl,rfl,rfl⟩:=h1;exact⟨d,_,rfl,h2,rfl,fun q=>by simp[Row.kill,ff,AV.kill],fun H2 h=>⟨_,rfl,h⟩⟩
   .cases h1
 case makeSlice t y z=>
  simp only[acm,acS,if_true]at h ⊢;obtain⟨c,h1,h2⟩:=h
  cases dst with
  | none=>cases h1
  | some d=>
   simp only[wr]at h1 ⊢;split at h1
   .split at h1
    .split at h1
     .simp only[AS,BY,St.mk.injEq,true_and]at h1;obtain⟨rfl,rfl,rfl⟩:=h1;exact⟨d,_,rfl,h2.1,rfl,fun _=>rfl,fun H2 h=>⟨_,rfl,h,h2.2⟩⟩
     .cases h1
    .cases h1
   .cases h1
 case buildSlice t n ps=>
  simp only[acm,acS,if_true]at h ⊢;obtain⟨c,h1,h2⟩:=h
  cases dst with
  | none=>cases h1
  | some d=>
   simp only[wr]at h1 ⊢;split at h1
   .split at h1
    .split at h1
     .split at h1
      .simp only[AS,BY,St.mk.injEq,true_and]at h1;obtain⟨rfl,rfl,rfl⟩:=h1;exact⟨d,_,rfl,h2.1,rfl,fun _=>rfl,fun H2 h=>⟨_,rfl,h,h2.2⟩⟩
      .cases h1
     .cases h1
    .cases h1
   .cases h1
theorem JX {r q off n:Nat} {z:AV} (h:z.kill r = .own q off n):z = .own q off n:=by
 cases z<;>simp only[AV.kill,reduceCtorEq]at h
 .split at h
  .cases h
  .exact h
 .split at h<;>cases h
 .split at h<;>cases h
theorem TD {r:Nat} {x:D} {z:AV} (h:z.kill r = .d x):z = .d x:=by
 cases z<;>simp only[AV.kill,reduceCtorEq]at h
 .exact h
 .split at h<;>cases h
 .split at h<;>cases h
 .split at h<;>cases h
theorem agK {H:Heap} {r:Nat} {v:AV} {l:List (List D)} (h:jA H r v=some l):(∃ x,v = .d x)\/∃ q off n,v = .own q off n:=by
 unfold jA at h;split at h
 .exact .inl ⟨_,rfl⟩
 .exact .inr ⟨_,_,_,rfl⟩
 .cases h
theorem BR {r:Nat} {e:Env} {p:Operand}:bh G (cN r e) p=(bh G e p).map (AV.kill r):=by
 cases p with
 | tmp t=>rfl
 | const k=>simp only[bh,acN];unfold ff;split<;>rfl
 | global g=>simp only[bh,Option.map_map];rfl
 | func f=>rfl
theorem ady.ZQ {o:Oper} {e:Env} {H H2:Heap} {r s m q:Nat} {row:Row} (h:ady T G Mv o (cN q e) H r s m row) (hr:H2 r=H r) (hs:H2 s=H s):ady T G Mv o e H2 r s m row:=by
 obtain⟨x,y,off,n,v,ty,sz,els,news,c,h1,h2,h3,h4,h5,h6,h7,h8⟩:=h;rw[BR]at h2 h3;obtain⟨z1,uO,e1⟩:=AT.1 h2;obtain⟨z2,Ef,e2⟩:=AT.1 h3;have:=JX e1;subst this
 have hz:z2=v:=by
  rcases agK h6 with⟨x,rfl⟩ | ⟨_,_,_,rfl⟩
  .exact TD e2
  .exact JX e2
 subst hz;exact⟨x,y,off,n,z2,ty,sz,els,news,c,h1,uO,Ef,h4,by rw[hr];exact h5,by rw[KB h4 hs];exact h6,h7,h8⟩
theorem ady.Wp {o:Oper} {e:Env} {H H2:Heap} {r s m q:Nat} {row:Row} (h:ady T G Mv o e H r s m row) (hq:r≠q) (hq':s≠q) (hr:H2 r=H r) (hs:∀ ty sz els,H s=some (.sl ty sz els)->H2 s=H s):ady T G Mv o (cN q e) H2 r s m row:=by
 obtain⟨x,y,off,n,v,ty,sz,els,news,c,h1,h2,h3,h4,h5,h6,h7,h8⟩:=h;refine⟨x,y,off,n,v,ty,sz,els,news,c,h1,by rw[BR,h2];simp[AV.kill,hq],?_,h4,by rw[hr];exact h5,?_,h7,h8⟩
 .rw[BR,h3]
  rcases agK h6 with⟨x,rfl⟩ | ⟨q',_,_,rfl⟩
  .rfl
  .simp only[afh]at h4;subst h4;simp[AV.kill,hq']
 .rcases agK h6 with⟨x,rfl⟩ | ⟨q',Vr,n',rfl⟩
  .cases x<;>first | exact h6 | cases h6
  .simp only[afh]at h4;subst h4;simp only[jA]at h6 ⊢;split at h6
   .cases h6
   .rename_i aI;rw[if_neg aI];split at h6
    .rename_i MD Bn kB hH;rw[hs _ _ _ hH,hH];exact h6
    .cases h6
theorem Jr {H:Heap} {r d:Nat} {a b:Row} (h:d≠r):aM (aM H r a) d b=aM (aM H d b) r a:=by
 funext i;by_cases h1:i=d<;>by_cases h2:i=r<;>simp[aM,h1,h2,h,adr h]
theorem Ep {H:Heap} {r d:Nat} {b:Row} (hb:b.kill r=b):cO r (aM H d b)=aM (cO r H) d b:=by
 funext i;by_cases h1:i=d<;>simp[aM,cO,h1,hb]
theorem BS {o:Oper} {e e':Env} {r:Nat} (h:∀ t,Operand.tmp t∈o.op.operands->e' t=e t) (ha:fB o.op e (cN r e)):fB o.op e' (cN r e'):=fun t ht=>by
 have h1:=ha t ht;simp only[cN]at h1 ⊢;rw[h t ht];exact h1
theorem Ut {i j:Nat} {oi oj:Oper} (hc:qn la av ops i j oi oj=true) {σ aG eL:St} (h1:qg P T Mv G N la av i oi σ aG) (h2:qg P T Mv G N la av j oj aG eL) :
  ∃ fc,qg P T Mv G N la av j oj σ fc/\qg P T Mv G N la av i oi fc eL:=by
 obtain⟨di,gi,h1⟩:=h1;obtain⟨dj,gj,h2⟩:=h2;obtain⟨e,H⟩:=σ
 cases pK:la.lookup i with
 | none=>
  simp only[pK]at h1;obtain⟨ki,x,H1,jJ,rfl,afK,B7⟩:=h1
  cases dK:la.lookup j with
  | none=>
   simp only[dK]at h2;obtain⟨kj,y,H2,ex2,rfl,AN,Ot⟩:=h2;simp only[qn,pK,dK]at hc;obtain⟨H3,f1,f2⟩:=tJ hc (x:=x) (y:=y) (e:=e) (H:=H) ⟨di,.inl ⟨ir gi,jJ⟩⟩ ⟨dj,.inl ⟨ir gj,ex2⟩⟩ ki kj
   have ej:Ex P T Mv G oj e H y H3:=by
    rcases f1.2 with⟨_,h⟩ | ⟨h,_⟩
    .exact h
    .rw[ir gj]at h;cases h
   have ei:Ex P T Mv G oi (aD e oj.dst y) H3 x H2:=by
    rcases f2.2 with⟨_,h⟩ | ⟨h,_⟩
    .exact h
    .rw[ir gi]at h;cases h
   simp only[adC,abI]at hc;obtain⟨a1,_,aI⟩:=adA hc.1 (e:=e) (v:=x);obtain⟨_,a2,_⟩:=adA hc.1 (e:=e) (v:=y);refine⟨⟨aD e oj.dst y,H3⟩,⟨dj,gj,?_⟩,⟨di,gi,?_⟩⟩
   .simp only[dK];refine⟨kj,y,H3,ej,rfl,fun r hr=>⟨BS (e:=aD e oi.dst x) (fun t ht=>(a1 t (iK ht)).symm) (AN r hr).1,(AN r hr).2⟩,fun ha c bT=>?_⟩;obtain⟨y',g,ds,ht,hp⟩:=Ot ha c bT;exact⟨y',g,ds,by rw[<- ht];exact vw fun t ht=>(a1 t (iK (by rw[(afr bT).1];exact ht))).symm,hp⟩
   .simp only[pK];refine⟨ki,x,H2,ei,by rw[fG aI],fun r hr=>⟨BS (e:=e) (fun t ht=>a2 t (iK ht)) (afK r hr).1,(afK r hr).2⟩,fun ha c bT=>?_⟩;obtain⟨y',g,ds,ht,hp⟩:=B7 ha c bT;exact⟨y',g,ds,by rw[<- ht];exact vw fun t ht=>a2 t (iK (by rw[(afr bT).1];exact ht)),hp⟩
  | some rs=>
   obtain⟨r,s⟩:=rs;simp only[dK]at h2;obtain⟨m,row,yr,ac9,app,fin,rfl⟩:=h2;simp only[qn,pK,dK,abI,aez,beq_eq_false_iff_ne,acY]at hc;obtain⟨⟨⟨⟨hap,hok⟩,hs⟩,hr⟩,Iz⟩:=hc;obtain⟨zy,hx⟩:=afK r Iz;obtain⟨a1,_,aI⟩:=adA hap (e:=e) (v:=x);obtain⟨_,a2,_⟩:=adA hap (e:=cN r e) (v:=yr);obtain⟨sB,zp,_⟩:=app.row;have cF:=fin.row sB;have agj:fB oj.op (aD e oi.dst x) e:=fun t ht=>a1 t (iK ht);have e3:∀ t,Operand.tmp t∈oi.op.operands->(aD (cN r e) oj.dst (yr)) t=e t:=fun t ht=>(a2 t (iK ht)).trans (zy t ht).symm
   have main:ady T G Mv oj e H r s m row/\∃ H2,Ex P T Mv G oi e (aM (cO r H) r ac9) x H2/\H2=aM (cO r H1) r ac9:=by
    by_cases hk2:kindOf oi.op<=2
    .have:=jJ.keeps hk2;subst this;refine⟨app.congr agj rfl rfl,_,?_,rfl⟩
     cases dJ:acm oi.op with
     | some c=>
      obtain⟨y,g,ds,ht,hp,rfl⟩:=B7 (List.ne_nil_of_mem Iz) c dJ;unfold Ex;simp only[dJ];exact⟨y,⟨g,_,ht,.inl ⟨ds,rfl,hp⟩⟩,rfl,trivial⟩
     | none=>
      unfold Ex at jJ ⊢;simp only[dJ]at jJ ⊢
      have hw:¬ acS oi.op=true:=fun hw=>by rcases Ab hw with h | h | h<;>omega
      rw[if_neg hw]at jJ ⊢;obtain⟨c,bD,bT,_⟩:=jJ;obtain⟨c',h',da⟩:=Wd cF bD ⟨zy,hx⟩;exact⟨c',h',da bT,trivial⟩
    .obtain⟨d,ru,hd,hn,rfl,hk0,bC⟩:=jJ.newRow hk2 hok;have kH:d≠r:=fun e=>hr (by rw[hd,e]);have jo:d≠s:=fun e=>hs (by rw[hd,e]);refine⟨app.congr agj (by simp[aM,adr kH]) (by simp[aM,adr jo]),_,bC _ (by simp[aM,kH,cO,hn]),?_⟩;rw[Ep (hk0 r),Jr kH]
   obtain⟨yC,H2,PM,rfl⟩:=main;refine⟨⟨aD (cN r e) oj.dst (yr),aM (cO r H) r ac9⟩,⟨dj,gj,?_⟩,⟨di,gi,?_⟩⟩
   .simp only[dK];exact⟨m,row,yr,ac9,yC,fin,rfl⟩
   .simp only[pK];refine⟨ki,x,_,PM.congr ki fun t ht=>(e3 t ht).symm,?_,fun q hq=>⟨BS e3 (afK q hq).1,(afK q hq).2⟩,fun ha c bT=>?_⟩
    .rw[Af,hx,fG aI]
    .obtain⟨y',g,ds,ht,hp⟩:=B7 ha c bT;exact⟨y',g,ds,by rw[<- ht];exact vw fun t ht=>e3 t (by rw[(afr bT).1];exact ht),hp⟩
 | some rs=>
  obtain⟨r,s⟩:=rs;simp only[pK]at h1;obtain⟨m,row,y1,rw1,app,fin,rfl⟩:=h1
  cases dK:la.lookup j with
  | none=>simp[qn,pK,dK]at hc
  | some Ym=>
   obtain⟨r',s'⟩:=Ym;simp only[dK]at h2;obtain⟨m',ac9,y2,rw2,yC,CD,rfl⟩:=h2;simp only[qn,pK,dK,abI,aez,beq_eq_false_iff_ne]at hc;obtain⟨⟨⟨hap,iF⟩,hs⟩,l3⟩:=hc;obtain⟨a1,_,aI⟩:=adA hap (e:=cN r e) (v:=y1);obtain⟨_,a2,_⟩:=adA hap (e:=cN r' e) (v:=y2);obtain⟨⟨ME,Ms,Hu,rfl⟩,⟨t1,z1,l1,zp⟩,_⟩:=app.row;obtain⟨⟨F8,F1,np,rfl⟩,⟨t2,z2,l2,Qv⟩,_⟩:=yC.row;obtain⟨MF,Zq,ahy,rfl⟩:=fin.row ⟨_,_,_,rfl⟩;obtain⟨Bq,F2,Cw,rfl⟩:=CD.row ⟨_,_,_,rfl⟩
   have IZ:∀ q,q≠r->∀ ty sz els,(cO r H) q=some (.sl ty sz els)->H q=some (.sl ty sz els):=by
    intro q _ ty sz els hq;obtain⟨kY,h0,he⟩:=AT.1 hq
    cases kY with
    | sl _ _ _=>rw[h0];exact congrArg some he
    | box _ _=>cases he
    | mp _ _=>cases he
    | it _ _=>cases he
   have pn:H r'=some (.sl t2 z2 l2):=IZ r' (adr iF) _ _ _ (by simpa[aM,adr iF]using Qv);have p1:ady T G Mv oj (cN r e) (aM (cO r H) r (.sl MF Zq ahy)) r' s' m' (.sl F8 F1 np):=yC.congr (fun t ht=>a1 t (iK ht)) rfl rfl
   have p2:ady T G Mv oj e H r' s' m' (.sl F8 F1 np):=by
    obtain⟨x,y,off,n,v,ty,sz,els,news,c,g1,g2,g3,g4,g5,g6,g7,g8⟩:=p1
    have Sq:jA H r' v=some news:=by
     rcases agK g6 with⟨x,rfl⟩ | ⟨q',Vr,n',rfl⟩
     .cases x<;>first | exact g6 | cases g6
     .simp only[afh]at g4;subst g4;simp only[jA]at g6 ⊢;split at g6
      .cases g6
      .rename_i hq;rw[if_neg hq];split at g6
       .rename_i MD Bn kB eS;have:H q'=some (.sl MD Bn kB):=IZ q' l3 _ _ _ (by simpa[aM,l3]using eS);rw[this];exact g6
       .cases g6
    have:ady T G Mv oj (cN r e) H r' s' m' (.sl F8 F1 np):=⟨x,y,off,n,v,ty,sz,els,news,c,g1,g2,g3,g4,by rw[pn];simpa[aM,adr iF,cO,pn,Row.kill]using g5,Sq,g7,g8⟩;exact this.ZQ rfl rfl
   have q1:ady T G Mv oi (cN r' e) (aM (cO r' H) r' (.sl Bq F2 Cw)) r s m (.sl ME Ms Hu):=by
    refine app.Wp iF hs ?_ fun ty sz els hh=>?_
    .simp[aM,iF,cO,zp,Row.kill]
    .simp[aM,hs,cO,hh,Row.kill]
   have q2:ady T G Mv oi (aD (cN r' e) oj.dst y2) (aM (cO r' H) r' (.sl Bq F2 Cw)) r s m (.sl ME Ms Hu):=q1.congr (fun t ht=>(a2 t (iK ht)).symm) rfl rfl;refine⟨⟨aD (cN r' e) oj.dst y2,aM (cO r' H) r' (.sl Bq F2 Cw)⟩,⟨dj,gj,?_⟩,⟨di,gi,?_⟩⟩
   .simp only[dK];exact⟨m',_,y2,_,p2,CD,rfl⟩
   .simp only[pK];refine⟨m,_,y1,_,q2,fin,?_⟩;have k1:AV.kill r' y1=y1:=fin.kill iF;have k2:AV.kill r y2=y2:=CD.kill (adr iF);rw[Af,Af,k1,k2,Tz r' r,fG aI,Ep rfl,Ep rfl,ahX r' r,Jr iF]
def vp (P:Program) (T:Ty) (Mv:Nat->Prop) (G:aq) (N:Fr) (la:List (Nat×Nat×Nat)) (av:List (Nat×List Nat)) (ops:Array Oper):List Nat->St->St->Prop
 | [],σ,aw=>σ=aw
 | i :: l,σ,aw=>∃ o,ops[i]? = some o/\∃ aG,qg P T Mv G N la av i o σ aG/\vp P T Mv G N la av ops l aG aw
theorem Yq {p:Nat} {op:Oper} (hp:ops[p]? = some op):∀ (l1:List Nat) {l2:List Nat} {σ aw:St},(∀ q∈l1,∀ oq,ops[q]? = some oq->qn la av ops q p oq op=true)->vp P T Mv G N la av ops (l1 ++ p :: l2) σ aw->vp P T Mv G N la av ops (p :: (l1 ++ l2)) σ aw:=by
 intro l1
 induction l1 with
 | nil=>intro l2 σ aw _ h;exact h
 | cons q l1 ih=>
  intro l2 σ aw bC h;obtain⟨oq,hq,aG,s1,rest⟩:=h;obtain⟨o',ho',eL,s2,p3⟩:=ih (fun q' hq'=>bC q' (by simp[hq'])) rest;rw[hp]at ho';obtain rfl:=AI ho';obtain⟨fc,f1,f2⟩:=Ut (bC q (by simp) oq hq) s1 s2;exact⟨op,hp,fc,f1,oq,hq,eL,f2,p3⟩
def ve (la:List (Nat×Nat×Nat)) (av:List (Nat×List Nat)) (ord:List Nat) (ops:Array Oper):Bool:=
 let t:=tb ops
 ord.length == ops.size && (ord.all fun i=>decide (i < ops.size)) && ((List.range ops.size).all fun i=>ord.contains i) && decide ord.Nodup &&
 ((List.range ops.size).all fun j=>match ops[j]? with
  | some oj=>oj.after.all fun e=>!Region.binds .any e || e.on < j
  | none=>true) &&
 go t ord
where
 go (t:List Nat):List Nat->Bool
 | []=>true
 | a :: l=>(l.all fun b=>match ops[a]?,ops[b]? with
  | some oa,some ob=>(oa.after.all fun e=>!Region.binds .any e || !(e.on == b)) && ((t.getD b 0).testBit a || qn la av ops a b oa ob)
  | _,_=>true) && go t l
def BM (la:List (Nat×Nat×Nat)) (av:List (Nat×List Nat)) (ops:Array Oper) (a b:Nat):Prop:=∀ oa ob,ops[a]? = some oa->ops[b]? = some ob->
 (∀ e∈oa.after,Region.binds .any e=true->e.on≠b)/\(((tb ops).getD b 0).testBit a=true\/qn la av ops a b oa ob=true)
theorem KV:∀ {l:List Nat},ve.go la av ops (tb ops) l=true->l.Pairwise (BM la av ops)
 | [],_=>.nil
 | a :: l,h=>by
  simp only[ve.go,abI]at h;refine .cons (fun b hb oa ob pO nF=>?_) (KV h.2);have:=ack.1 h.1 b hb;simp only[pO,nF,abI,acI]at this;refine⟨fun e he px heq=>?_,this.2⟩;have h1:=acr.1 this.1 e he;simp[px,heq]at h1
theorem vT (au:∀ j oj,ops[j]? = some oj->∀ e∈oj.after,Region.binds .any e=true->e.on < j) {listed:Array Bool} (ie:∀ j oj,ops[j]? = some oj->listed.getD j false=true->∀ e∈oj.after,Region.binds .any e=true->listed.getD e.on false=true) :
  ∀ (n j:Nat) (oj:Oper),j<=n->ops[j]? = some oj->(∀ e∈oj.after,Region.binds .any e=true->listed.getD e.on false=true)->∀ q,((tb ops).getD j 0).testBit q=true->listed.getD q false=true:=by
 intro n
 induction n with
 | zero=>
  intro j oj hj bu bC q hq
  have jt:j=0:=by omega
  subst jt;obtain⟨e,he,hb,_⟩:=yq ops.toList [] 0 oj q (by simpa using bu) (by simpa[tb]using hq);have:=au 0 oj bu e he hb;omega
 | succ n ih=>
  intro j oj hj bu bC q hq;obtain⟨e,he,hb,r⟩:=yq ops.toList [] j oj q (by simpa using bu) (by simpa[tb]using hq)
  rcases r with rfl | ⟨_,r⟩
  .exact bC e he hb
  .have DI:=au j oj bu e he hb
   have cr:e.on < ops.size:=by have:=(IS.1 bu).1;omega
   exact ih e.on ops[e.on] (by omega) (by simp[cr]) (fun e' gZ aU=>ie e.on _ (by simp[cr]) (bC e he hb) e' gZ aU) q (by simpa[tb]using r)
theorem Ny (hg:Good P T) (au:∀ j oj,ops[j]? = some oj->∀ e∈oj.after,Region.binds .any e=true->e.on < j) {Q:Exit->St->Prop} {w0:World} {gn:Mu} {σn:St} (hQ:Q .normal σn):∀ (n:Nat) (R:List Nat) (listed:Array Bool) (w:World) (μ:Mu) (a:Act) (σ:St),R.length=n->R.Nodup->
  (∀ j,j∈R↔j < ops.size/\listed.getD j true=false)->listed.size=ops.size->R.Pairwise (BM la av ops)->
  (∀ j oj,ops[j]? = some oj->listed.getD j false=true->∀ e∈oj.after,Region.binds .any e=true->listed.getD e.on false=true)->vp P T Mv G N la av ops R σ σn->In w X G μ N a σ->Ev Mv w0 gn w μ->
  wpAnyIn (wd N.ro) 0 P .any ops (After Mv X G N w0 gn Q) n listed a w:=by
 intro n
 induction n with
 | zero=>
  intro R listed w μ a σ hl _ hR aK _ _ ab6 hi aH;have:R=[]:=acq hl;subst this
  have hr:Region.ready .any ops listed=[]:=by
   apply adj.2;intro j hj;obtain⟨h1,o,ho,_⟩:=mem_ready.1 hj;exact absurd ((hR j).2 ⟨(IS.1 ho).1,h1⟩) (by simp)
  have:σ=σn:=ab6;subst this;exact⟨hr,μ,σ,hQ,hi,aH⟩
 | succ n ih=>
  intro R listed w μ a σ hl fi hR aK fN ie ab6 hi aH;refine⟨fun hr=>?_,fun i hir=>?_⟩
  .cases R with
   | nil=>simp at hl
   | cons j R=>
    obtain⟨ig,hj2⟩:=(hR j).1 (by simp)
    have bu:ops[j]? = some ops[j]:=by simp[ig]
    have jO:j∈Region.ready .any ops listed:=by
     refine mem_ready.2 ⟨hj2,ops[j],bu,fun e he hb=>?_⟩;have qS:=au j ops[j] bu e he hb
     have cr:e.on < ops.size:=by omega
     have aI:e.on ∉ (j :: R):=by
      intro hm
      rcases abV.1 hm with h | h
      .omega
      .exact ((acA.1 fN).1 _ h ops[j] ops[e.on] bu (by simp[cr])).1 e he hb rfl
     have:=mt (hR e.on).2 aI
     have fY:e.on < listed.size:=by omega
     simp only[cr,true_and,IT]at this ⊢;simp[fY]at this ⊢;exact this
    rw[hr]at jO;cases jO
  .obtain⟨hi1,oi,b7,bC⟩:=mem_ready.1 hir;have ny:i∈R:=(hR i).2 ⟨(IS.1 b7).1,hi1⟩;obtain⟨R1,R2,rfl⟩:=aem ny
   have aeW:=Yq (P:=P) (T:=T) (Mv:=Mv) (G:=G) (N:=N) (la:=la) (av:=av) b7 R1 (fun q hq oq jQ=>by
    have pP:BM la av ops q i:=(acE.1 fN).2.2 q hq i (by simp)
    rcases (pP oq oi jQ b7).2 with h | h
    .exfalso;have jP:=vT au ie i i oi (abL _) b7 bC q h;have eS:=((hR q).1 (by simp[hq])).2
     have nI:q < listed.size:=by have:=(IS.1 jQ).1;omega
     simp[IT,nI]at jP eS;rw[jP]at eS;cases eS
    .exact h) ab6
   obtain⟨o',ho',aG,hstep,b9⟩:=aeW;rw[b7]at ho';obtain rfl:=AI ho';obtain⟨Gq,hs0,himp⟩:=hstep.step (ops:=ops) (X:=X);refine vv hg hs0 hi b7 fun w' aav a' ahM ahI=>?_;obtain⟨ay,aF,Dq⟩:=himp w' aav a' ahM;have iU:=ahI.trans Dq
   have nD:(R1 ++ R2).Nodup:=by
    have:=fi;rw[ac2]at this ⊢;obtain⟨g1,g2,g3⟩:=this;exact⟨g1,(acF.1 g2).2,fun x hx y hy=>g3 x hx y (by simp[hy])⟩
   have nz:i ∉ R1 ++ R2:=by
    have:=fi;rw[ac2]at this;obtain⟨g1,g2,g3⟩:=this;intro hm
    rcases ab4.1 hm with h | h
    .exact g3 i h i (by simp) rfl
    .exact (acF.1 g2).1 h
   refine ih (R1 ++ R2) _ w' ay a' aG (by simp at hl ⊢;omega) nD (fun j=>?_) (by simpa using aK) ?_ ?_ b9 aF (aH.trans iU)
   .by_cases hji:j=i
    .subst hji
     have fY:j < listed.size:=by rw[aK];exact (IS.1 b7).1
     simp[fY];simpa using nz
    .rw[getD_set_ne true (adr hji)];rw[<- hR j];simp[hji]
   .rw[acE]at fN ⊢;obtain⟨g1,g2,g3⟩:=fN;exact⟨g1,(acA.1 g2).2,fun x hx y hy=>g3 x hx y (by simp[hy])⟩
   .intro j oj bu dK e he hb;by_cases hji:j=i
    .subst hji;rw[b7]at bu;obtain rfl:=AI bu;exact getD_set_true (bC e he hb)
    .rw[getD_set_ne false (adr hji)]at dK;exact getD_set_true (ie j oj bu dK e he hb)
def afL (r:Nat) (e:Env):List Operand->Prop
 | []=>True
 | .tmp t :: l=>(e t).map (AV.kill r)=e t/\afL r e l
 | _ :: l=>afL r e l
theorem Fa {r:Nat} {e:Env}:∀ {l:List Operand},afL r e l->∀ t,Operand.tmp t∈l->e t=cN r e t
 | [],_,t,ht=>by cases ht
 | p :: l,h,t,ht=>by
  cases p with
  | tmp u=>
   simp only[afL]at h
   rcases abV.1 ht with h1 | h1
   .cases h1;exact h.1.symm
   .exact Fa h.2 t h1
  | _=>
   simp only[afL]at h
   rcases abV.1 ht with h1 | h1
   .cases h1
   .exact Fa h t h1
def rj (rs:List Nat) (ps:List Operand) (e:Env) (x:AV):Prop:=match rs with
 | []=>True
 | r :: rs=>(afL r e ps/\x.kill r=x)/\rj rs ps e x
theorem AO {o:Oper} {e:Env} {x:AV}:∀ {rs:List Nat},rj rs o.op.operands.toList e x->∀ r∈rs,BJ r o e x
 | [],_,r,hr=>by cases hr
 | q :: rs,h,r,hr=>by
  simp only[rj]at h
  rcases abV.1 hr with rfl | hr
  .exact⟨fun t ht=>Fa h.1.1 t (by simpa using ht),h.1.2⟩
  .exact AO h.2 r hr
def aeT (P:Program) (G:aq) (c:Call) (e:Env) (dst:Option Tmp) (H:Heap) (rs:List Nat) (ps:List Operand) (next:St->Prop):Prop:=∃ y g ds,tgt G e c=some (g,ds.map .d)/\ar P G g ds y/\rj rs ps e (.d y)/\next ⟨aD e dst (.d y),H⟩
theorem aeT.mk {c:Call} {e:Env} {dst:Option Tmp} {H:Heap} {rs:List Nat} {ps:List Operand} {next:St->Prop} {g:FuncId} {xs:List AV} {ds ds':List D} {y:D} (hc:ar P G g ds y) (ht:tgt G e c=some (g,xs)) (hx:iN xs=some ds') (hle:D.le.go ds' ds)
  (ho:rj rs ps e (.d y)) (h:next ⟨aD e dst (.d y),H⟩):aeT P G c e dst H rs ps next:=⟨y,g,ds',by rw[ht,lT hx],hc.aeZ hle,ho,h⟩
def wc (Mv:Nat->Prop) (dst:Option Tmp) (r s:Nat) (z:AV) (σ:St) (next:St->Prop):Prop:=
 if s=r then match σ.H r,z with
  | some (.sl ty sz els),.own _ _ m=>Mv r/\m=els.length/\next ⟨aD σ.env dst (.d (.sl none els)),aM σ.H r (.sl ty sz [])⟩
  | _,_=>False
 else next ⟨aD σ.env dst z,σ.H⟩
def yD (T:Ty) (Mv:Nat->Prop) (G:aq) (o:Oper) (σ:St) (r s:Nat) (next:St->Prop):Prop:=match af0 o with
 | some (x,y)=>match bh G σ.env x,bh G σ.env y with
  | some (.own q _ _),some v=>q=r/\afh s v/\match wr T G Mv σ o with
   | some (c,z,aG)=>c/\wc Mv o.dst r s z aG next
   | none=>False
  | _,_=>False
 | none=>False
def rp (T:Ty) (G:aq) (Mv:Nat->Prop) (o:Oper) (σ:St) (rs:List Nat) (next:St->Prop):Prop:=
 if acS o.op then match wr T G Mv σ o with
  | some (c,x,aw)=>c/\rj rs o.op.operands.toList σ.env x/\next ⟨aD aw.env o.dst x,aw.H⟩
  | none=>False
 else match rd T G σ o.op with
  | some (c,x)=>c/\rj rs o.op.operands.toList σ.env x/\next ⟨aD σ.env o.dst x,σ.H⟩
  | none=>False
def sxl (P:Program) (T:Ty) (Mv:Nat->Prop) (G:aq) (N:Fr) (la:List (Nat×Nat×Nat)) (av:List (Nat×List Nat)) (K:St->Prop):List (Nat×Oper)->St->Prop
 | [],σ=>K σ
 | (i,o) :: rest,σ=>eU N o/\o.guard=none/\match la.lookup i with
  | some (r,s)=>yD T Mv G o σ r s (sxl P T Mv G N la av K rest)
  | none=>kindOf o.op≠9/\match acm o.op with
   | some c=>aeT P G c σ.env o.dst σ.H (qh av i) o.op.operands.toList (sxl P T Mv G N la av K rest)
   | none=>rp T G Mv o σ (qh av i) (sxl P T Mv G N la av K rest)
def b6 (ops:Array Oper):List Nat->List (Nat×Oper)
 | []=>[]
 | i :: l=>match ops[i]? with
  | some o=>(i,o) :: b6 ops l
  | none=>b6 ops l
theorem Zm {K:St->Prop}:∀ (l:List Nat) (σ:St),(∀ i∈l,i < ops.size)->sxl P T Mv G N la av K (b6 ops l) σ->∃ σn,K σn/\vp P T Mv G N la av ops l σ σn:=by
 intro l
 induction l with
 | nil=>intro σ _ h;exact⟨σ,h,rfl⟩
 | cons i l ih=>
  intro σ hl h;have hi:=hl i (by simp)
  have ho:ops[i]? = some ops[i]:=by simp[hi]
  simp only[b6,ho]at h;generalize ops[i]=o at ho h;simp only[sxl]at h;obtain⟨hd,hgu,h⟩:=h
  have fin:∀ aG,qg P T Mv G N la av i o σ aG->sxl P T Mv G N la av K (b6 ops l) aG->∃ σn,K σn/\vp P T Mv G N la av ops (i :: l) σ σn:=fun aG hs h1=>by
   obtain⟨σn,hk,hr⟩:=ih aG (fun j hj=>hl j (by simp[hj])) h1;exact⟨σn,hk,o,ho,aG,hs,hr⟩
  cases kK:la.lookup i with
  | some rs=>
   obtain⟨r,s⟩:=rs;simp only[kK]at h;unfold yD at h;split at h
   .rename_i x y ahR;split at h
    .rename_i q off n v hx hy;obtain⟨rfl,hs,h⟩:=h;split at h
     .rename_i c z aG hw;obtain⟨hc,h⟩:=h;obtain⟨e,H⟩:=σ;obtain⟨m,row,wM,rfl,rfl⟩:=ady.of ahR hx hy hs hw hc;unfold wc at h;split at h
      .obtain⟨⟨ty,sz,els,rfl⟩,_⟩:=wM.row;simp only[aM,if_true]at h;obtain⟨hm,kg,h⟩:=h;refine fin _ ⟨hd,hgu,?_⟩ h;simp only[kK];refine⟨m,_,_,_,wM,.inr ⟨hm,ty,sz,els,rfl,kg,rfl,rfl⟩,?_⟩;congr 1;funext q';by_cases hq':q'=q<;>simp[aM,hq']
      .refine fin _ ⟨hd,hgu,?_⟩ h;simp only[kK];exact⟨m,row,_,_,wM,.inl ⟨rfl,rfl⟩,rfl⟩
     .exact h.elim
    .exact h.elim
   .exact h.elim
  | none=>
   simp only[kK]at h;obtain⟨hk,h⟩:=h;split at h
   .rename_i c hc;obtain⟨y,g,ds,ht,hp,ac8,h⟩:=h;refine fin _ ⟨hd,hgu,?_⟩ h;simp only[kK];refine⟨hk,.d y,σ.H,?_,rfl,AO ac8,fun _ c' cH=>?_⟩
    .unfold Ex;simp only[hc];exact⟨y,⟨g,_,ht,.inl ⟨ds,rfl,hp⟩⟩,rfl,trivial⟩
    .rw[hc]at cH;obtain rfl:=AI cH;exact⟨y,g,ds,ht,hp,rfl⟩
   .rename_i hc;unfold rp at h;split at h
    .rename_i hw;split at h
     .rename_i c x aG h1;obtain⟨bT,ac8,h⟩:=h;have he:=agb hk h1;obtain⟨e,H⟩:=σ;obtain⟨e1,H1⟩:=aG;dsimp only at he;subst he;refine fin _ ⟨hd,hgu,?_⟩ h;simp only[kK];refine⟨hk,x,H1,?_,rfl,AO ac8,fun _ c' cH=>?_⟩
      .unfold Ex;simp only[hc];rw[if_pos hw];exact⟨c,h1,bT⟩
      .rw[hc]at cH;cases cH
     .exact h.elim
    .rename_i hw;split at h
     .rename_i c x h1;obtain⟨bT,ac8,h⟩:=h;refine fin _ ⟨hd,hgu,?_⟩ h;simp only[kK];refine⟨hk,x,σ.H,?_,rfl,AO ac8,fun _ c' cH=>?_⟩
      .unfold Ex;simp only[hc];rw[if_neg hw];exact⟨c,h1,bT,trivial⟩
      .rw[hc]at cH;cases cH
     .exact h.elim
theorem Gv (hg:Good P T) (hm:P.follows .mixedOrders=true) (la:List (Nat×Nat×Nat)) (av:List (Nat×List Nat)) (ord:List Nat) {id:Nat} (hok:ve la av ord ops=true) {Q:Exit->St->Prop} {σ:St} (h:sxl P T Mv G N la av (fun aw=>Q .normal aw) (b6 ops ord) σ):AW P Mv X G N (.region id ops true) Q σ:=fun w μ a hi=>by
 unfold ve at hok;simp only[abI]at hok;obtain⟨⟨⟨⟨⟨h1,h2⟩,h3⟩,h4⟩,h5⟩,h6⟩:=hok
 have hlen:ord.length=ops.size:=by simpa using h1
 have au:∀ i∈ord,i < ops.size:=fun i hi=>by simpa using ack.1 h2 i hi
 have bC:∀ i,i < ops.size->i∈ord:=fun i hi=>by simpa using ack.1 h3 i (acW.2 hi)
 have fi:ord.Nodup:=by simpa using h4
 have pG:∀ j oj,ops[j]? = some oj->∀ e∈oj.after,Region.binds .any e=true->e.on < j:=fun j oj bu e he hb=>by
  have:=ack.1 h5 j (acW.2 (IS.1 bu).1);simp only[bu]at this;have:=acr.1 this e he;simpa[hb]using this
 obtain⟨σn,hQ,ab6⟩:=Zm ord σ au h;refine wpIn_region_any hm ?_;obtain⟨aF,aH⟩:=hi.j8 (Mv:=Mv) (bZ.drew w);refine Ny hg pG hQ ops.size ord _ w.drew μ a σ hlen fi (fun j=>?_) (by simp) (KV h6) ?_ ab6 aF aH
 .constructor
  .intro hj;have:=au j hj;simp[IT,this]
  .intro hj;exact bC j hj.1
 .intro j oj bu dK;have hj:=(IS.1 bu).1;simp[IT,hj]at dK
theorem Nc (hg:Good P T) (hm:P.follows .mixedOrders=true) (la:List (Nat×Nat×Nat)) (av:List (Nat×List Nat)) (ord:List Nat) (l ns:List Nat) (hM:∀ r,ns.contains r=false->Mv r) {id:Nat} (hok:ve la av ord ops=true) {y:Code} {Q:Exit->St->Prop} {σ:St}
  (h:∀ K:St->Prop,(∀ τ:St,AW P Mv X G N y Q (τ.norm l ns)->K τ)->sxl P T Mv G N la av K (b6 ops ord) σ):AW P Mv X G N (.seq (.region id ops true) y) Q σ:=
 oX (Gv hg hm la av ord hok (h _ fun _ h=>h.norm l ns hM))
theorem yy (hg:Good P T) (hm:P.follows .mixedOrders=true) (la:List (Nat×Nat×Nat)) (av:List (Nat×List Nat)) (ord:List Nat) {id:Nat} (hok:ve la av ord ops=true) {Q:Exit->St->Prop} {σ:St}
  (h:∀ K:St->Prop,(∀ τ:St,Q .normal τ->K τ)->sxl P T Mv G N la av K (b6 ops ord) σ):AW P Mv X G N (.region id ops true) Q σ:=Gv hg hm la av ord hok (h _ fun _ h=>h)
end
end Go.Av
namespace Go.Av
section
variable {P:Program} {T:Ty} {Mv X:Nat->Prop} {G:aq} {N:Fr} {σ:St}
theorem cz (l:List (Nat×AV)) (i:Nat) (x:AV):eW (aV l) i x=aV ((i,x) :: l):=by
 funext j;simp only[eW,aV,List.lookup];by_cases h:j=i
 .subst h;simp
 .have:(j == i)=false:=by simpa using h
  simp[h,this]
theorem ahT (l:List (Nat×Row)) (i:Nat) (x:Row):aM (ak l) i x=ak ((i,x) :: l):=by
 funext j;simp only[aM,ak,List.lookup];by_cases h:j=i
 .subst h;simp
 .have:(j == i)=false:=by simpa using h
  simp[h,this]
theorem EG {α β:Type} (f:α->β) (l:List (Nat×α)) (i:Nat):(l.map fun p=>(p.1,f p.2)).lookup i=(l.lookup i).map f:=by
 induction l with
 | nil=>rfl
 | cons p l ih=>
  simp only[acJ,List.lookup];cases h:(i == p.1)<;>simp[ih]
theorem TA (r:Nat) (l:List (Nat×AV)):cN r (aV l)=aV (l.map fun p=>(p.1,p.2.kill r)):=by
 funext j;simp only[cN,aV,EG]
theorem TB (r:Nat) (l:List (Nat×Row)):cO r (ak l)=ak (l.map fun p=>(p.1,p.2.kill r)):=by
 funext j;simp only[cO,ak,EG]
theorem ZF (o f:Nat->Nat->Nat->AV) (l:List (Nat×AV)):trE o f (aV l)=aV (l.map fun p=>(p.1,p.2.tr o f)):=by
 funext j;simp only[trE,aV,EG]
theorem Sr:fD=ak []:=rfl
def FW (P:Program) (T:Ty) (Mv X:Nat->Prop) (G:aq) (N:Fr) (ops:Array Oper) (o:Oper) (σ:St) (K:St->Prop):Prop:=eU N o/\match fR ops σ.env o with
 | some b=>if b=true then rZ P T Mv X G N o σ K else K ⟨aD σ.env o.dst cy,σ.H⟩
 | none=>False
def Mj (P:Program) (T:Ty) (Mv:Nat->Prop) (G:aq) (N:Fr) (ops:Array Oper) (o:Oper) (σ:St) (K:St->Prop):Prop:=eU N o/\match fR ops σ.env o with
 | some b=>if b=true then (match acm o.op with
  | some c=>jm P G c σ o.dst K
  | none=>mg T G Mv o σ K) else K ⟨aD σ.env o.dst cy,σ.H⟩
 | none=>False
def Ml (P:Program) (T:Ty) (Mv:Nat->Prop) (G:aq) (N:Fr) (la:List (Nat×Nat×Nat)) (av:List (Nat×List Nat)) (i:Nat) (o:Oper) (σ:St) (K:St->Prop):Prop:=eU N o/\o.guard=none/\match la.lookup i with
 | some (r,s)=>yD T Mv G o σ r s K
 | none=>kindOf o.op≠9/\match acm o.op with
  | some c=>aeT P G c σ.env o.dst σ.H (qh av i) o.op.operands.toList K
  | none=>rp T G Mv o σ (qh av i) K
theorem sxn {ops:Array Oper} {K:St->Prop} {o:Oper} {rest:List Oper} (h:∀ K':St->Prop,(∀ τ,sxf P T Mv X G N ops K rest τ->K' τ)->FW P T Mv X G N ops o σ K'):sxf P T Mv X G N ops K (o :: rest) σ:=h _ fun _ h=>h
theorem eC {ops:Array Oper} {K:St->Prop} {o:Oper} {rest:List Oper} (h:∀ K':St->Prop,(∀ τ,sxd P T Mv G N ops K rest τ->K' τ)->Mj P T Mv G N ops o σ K'):sxd P T Mv G N ops K (o :: rest) σ:=h _ fun _ h=>h
theorem sxz {ops:Array Oper} {K:St->Prop} (h:K σ):sxf P T Mv X G N ops K [] σ:=h
theorem iL {ops:Array Oper} {K:St->Prop} (h:K σ):sxd P T Mv G N ops K [] σ:=h
end
end Go.Av
namespace Go.Av
theorem ZG (k:Nat->Bool) (o f:Nat->Nat->Nat->AV) (l:List (Nat×Row)):trH k o f (ak l)=ak (l.filterMap fun p=>if k p.1=true then some (p.1,p.2.tr o f) else none):=by
 funext i;unfold trH ak
 induction l with
 | nil=>simp
 | cons p l ih=>
  obtain⟨j,r⟩:=p;simp only[List.lookup_cons,List.filterMap_cons];by_cases lp:i=j
  .subst lp;cases hk:k i
   .simp[hk]at ih ⊢;exact ih
   .simp
  .have hb:(i == j)=false:=by simpa using lp
   rw[hb];cases hk:k j
   .simpa using ih
   .simp only[if_true,List.lookup_cons,hb];exact ih
section
variable {P:Program} {Mv X:Nat->Prop} {G:aq} {N:Fr} {w w':World} {μ:Mu} {a:Act} {σ:St}
theorem yn {T:Ty} {ops:Array Oper} {la:List (Nat×Nat×Nat)} {av:List (Nat×List Nat)} {K:St->Prop} {i:Nat} {l:List Nat} {o:Oper} (ho:ops[i]? = some o) (h:∀ K':St->Prop,(∀ τ,sxl P T Mv G N la av K (b6 ops l) τ->K' τ)->Ml P T Mv G N la av i o σ K'):sxl P T Mv G N la av K (b6 ops (i :: l)) σ:=by
 have:b6 ops (i :: l)=(i,o) :: b6 ops l:=by simp[b6,ho]
 rw[this];exact h _ fun _ h=>h
theorem yo {T:Ty} {ops:Array Oper} {la:List (Nat×Nat×Nat)} {av:List (Nat×List Nat)} {K:St->Prop} (h:K σ):sxl P T Mv G N la av K (b6 ops []) σ:=h
theorem aB.nj (b j r ty sz:Nat) {e:Env} {H:Heap} {tb:TypeId} {cells:List AV} (hb:H b=some (.box tb cells)) (hr:H r=none) (hc:cells[j]? = some (.d (.sl (some false) []))) :
  aB Mv X G N ⟨e,H⟩ ⟨e,aM (aM H r (.sl ty sz [])) b (.box tb (cells.set j (.own r 0 0)))⟩:=fun w μ a hi=>by
 obtain⟨aF,ev⟩:=hi.alloc (Mv:=Mv) (w':=w) (m:=⟨none,sz,0⟩) hr (bZ.refl w) (by simp) (row:=.sl ty sz []) fun _=>.nil rfl rfl
 have SJ:b≠r:=fun h=>by subst h;rw[hr]at hb;cases hb
 refine⟨mup μ r ⟨none,sz,0⟩,⟨⟨fun q row hq=>?_,fun q m hm=>?_,aF.aX.inj,aF.aX.frame,aF.aX.fits⟩,aF.env,aF.gr⟩,ev⟩
 .by_cases xg:q=b
  .subst xg;simp only[aM,if_true,AS]at hq;subst hq;obtain⟨m,hm,ok⟩:=aF.aX.rows q (.box tb cells) (by simp[aM,SJ,hb]);refine⟨m,hm,?_⟩
   cases ok with
   | box aU hs ad7 hh hn fv hx=>
    refine .box aU rfl ad7 hh (by simpa using hn) (hx:=by simpa using hx) fun i u c hu fL=>?_;rw[List.getElem?_set]at fL;split at fL
    .rename_i lp;subst lp;split at fL
     .obtain rfl:=AI fL;have h1:=fv j u _ hu hc;refine .own (m:=⟨none,sz,0⟩) (by simp[mup]) (.inl ⟨rfl,?_,rfl,rfl⟩)
      rcases h1.data.na with⟨rfl,_⟩ | ⟨_,_,_,hk,_⟩
      .rfl
      .exact absurd rfl hk
     .cases fL
    .exact fv i u c hu fL
  .exact aF.aX.rows q row (by simpa[aM,xg]using hq)
 .by_cases xg:q=b
  .exact⟨.box tb (cells.set j (.own r 0 0)),by subst xg;simp[aM]⟩
  .obtain⟨row,cF⟩:=aF.aX.iy q m hm;exact⟨row,by simpa[aM,xg]using cF⟩
end
end Go.Av
namespace Go.Av
section
variable {P:Program} {T:Ty} {Mv X:Nat->Prop} {G:aq} {N:Fr} {σ:St}
def ren (r r' q:Nat):Nat:=if q=r then r' else q
def fb (r r' q off n:Nat):AV:=.own (ren r r' q) off n
def ac4 (r r' q e j:Nat):AV:=.ref (ren r r' q) e j
def oP (r r':Nat) (μ:Mu):Mu:=fun q=>if q=r' then μ r else if q=r then none else μ q
def mY (r r':Nat) (H:Heap):Heap:=fun q=>(if q=r' then H r else if q=r then none else H q).map (Row.tr (fb r r') (ac4 r r'))
theorem vl {r r' q:Nat} {m:gp} {μ:Mu} (h:oP r r' μ q=some m):∃ p,μ p=some m/\q=ren r r' p:=by
 unfold oP at h;split at h
 .rename_i e;exact⟨r,h,by simp[ren,e]⟩
 .split at h
  .cases h
  .rename_i e1 e2;exact⟨q,h,by simp[ren,e2]⟩
theorem Fx {r r' p:Nat} {m:gp} {μ:Mu} (h0:μ r'=none) (h:μ p=some m):oP r r' μ (ren r r' p)=some m:=by
 unfold oP ren;by_cases e:p=r
 .subst e;simp[h]
 .have e2:p≠r':=fun e2=>by rw[e2,h0]at h;cases h
  simp[e,e2,h]
theorem In.ren {w:World} {μ:Mu} {a:Act} {r r':Nat} (hi:In w X G μ N a σ) (hH:σ.H r'=none):In w X G (oP r r' μ) N a ⟨trE (fb r r') (ac4 r r') σ.env,mY r r' σ.H⟩:=by
 have h0:μ r'=none:=hi.aX.s7 hH;have hX:∀ b,XX X (oP r r' μ) b->XX X μ b:=fun b hb=>hb.elim .inl fun ⟨q,m,hq,hbq⟩=>let ⟨p,hp,_⟩:=vl hq;.inr ⟨p,m,hp,hbq⟩;have pq:∀ {u:Value} {x:D},RD w (XX X μ) u x->RD w (XX X (oP r r' μ)) u x:=fun h=>h.mono (abL _) fun b _ hb=>⟨rfl,fun e=>hb (hX b e)⟩
 have wH:∀ {u:Value} {x:AV},RV w X μ u x->RV w X (oP r r' μ) u (x.tr (fb r r') (ac4 r r')):=fun h=>RV.tr hX (fun u q off n h=>by
  obtain⟨m,hm,hh⟩:=h.je
  exact .own (Fx h0 hm) hh) (fun u q e j h=>by
  obtain⟨m,b,hm,hb,rfl⟩:=h.ik
  exact .ref (Fx h0 hm) hb) h
 refine⟨⟨fun q row hr=>?_,fun q m hr=>?_,fun q q' m1 m2 b h1 h2 hb1 hb2=>?_,fun q mq b hq hb=>?_,hi.aX.fits⟩,
  ⟨hi.env.defers,hi.env.size,fun i x hx=>?_⟩,fun g x hx=>pq (hi.gr g x hx)⟩
 .obtain⟨kY,sB,rfl⟩:=AT.1 hr
  have:∃ p,σ.H p=some kY/\q=Go.Av.ren r r' p:=by
   split at sB
   .rename_i e;exact⟨r,sB,by simp[Go.Av.ren,e]⟩
   .split at sB
    .cases sB
    .rename_i e1 e2;exact⟨q,sB,by simp[Go.Av.ren,e2]⟩
  obtain⟨p,hp,rfl⟩:=this;obtain⟨m,hm,ok⟩:=hi.aX.rows p kY hp;refine⟨m,Fx h0 hm,?_⟩
  cases ok with
  | nil h1 h2=>exact .nil h1 h2
  | sl h1 h2 h3 h4 h5 h6 h7 h8 h9=>exact .sl h1 h2 h3 h4 h5 h6 h7 h8 fun i j el c he hc=>let ⟨u,hu,hr⟩:=h9 i j el c he hc;⟨u,hu,pq hr⟩
  | box h1 h2 h3 h4 h5 h6 h7=>
   refine .box h1 rfl h3 h4 (by simpa using h5) (fun j u c hu hc=>?_) (by simpa using h7);rw[abM]at hc;obtain⟨c',cH,rfl⟩:=AT.1 hc;exact wH (h6 j u c' hu cH)
  | mp h1 h2 h3 h4=>exact .mp h1 h2 h3 fun i e p he hp=>let ⟨a,b,c⟩:=h4 i e p he hp;⟨a,b,pq c⟩
  | it h1 h2 h3=>exact .it h1 h2 (pq h3)
 .obtain⟨p,hp,rfl⟩:=vl hr;obtain⟨row,cF⟩:=hi.aX.iy p m hp;refine⟨row.tr (fb r r') (ac4 r r'),?_⟩
  have aI:p≠r':=fun e=>by rw[e,h0]at hp;cases hp
  show mY r r' σ.H _=_;unfold mY Go.Av.ren;by_cases e:p=r
  .subst e;simp[cF]
  .simp[e,aI,cF]
 .obtain⟨p1,hp1,rfl⟩:=vl h1;obtain⟨p2,ey,rfl⟩:=vl h2;rw[hi.aX.inj p1 p2 m1 m2 b hp1 ey hb1 hb2]
 .obtain⟨p,hp,rfl⟩:=vl hq;exact hi.aX.frame p mq b hp hb
 .replace hx:trE (fb r r') (ac4 r r') σ.env i=some x:=hx;unfold trE at hx;obtain⟨x0,zg,rfl⟩:=AT.1 hx;obtain⟨u,hu,hr⟩:=hi.env.slot i x0 zg;exact⟨u,hu,wH hr⟩
theorem aB.ren {r r':Nat} (hm:Mv r) (hH:σ.H r'=none):aB Mv X G N σ ⟨trE (fb r r') (ac4 r r') σ.env,mY r r' σ.H⟩:=fun w μ a hi=>
 ⟨oP r r' μ,hi.ren hH,⟨abL _,rfl,rfl,rfl,fun b hb hr=>⟨rfl,fun ⟨q,m,hq,hbq⟩=>let ⟨p,hp,_⟩:=vl hq;hr ⟨p,m,hp,hbq⟩⟩,fun q m hq hn=>by
  have h1:q≠r:=fun e=>hn (e ▸ hm)
  have h2:q≠r':=fun e=>by rw[e,hi.aX.s7 hH]at hq;cases hq
  simp only[oP,if_neg h1,if_neg h2]
  exact hq⟩⟩
end
end Go.Av
namespace Go.Av
def uR:Op->Bool
 | .load _ _=>true
 | .indexAddr _ _ _=>true
 | .slice _ _ _ _ _=>true
 | .store _ _ _=>true
 | .mapUpdate _ _ _ _=>true
 | _=>false
def om (r:Nat):AV->Prop
 | .ref q _ _=>q=r
 | .own q _ _=>q=r
 | .d _=>True
 | _=>False
def afy (G:aq) (e:Env) (o:Op) (r:Nat):Prop:=match o with
 | .load _ p=>match bh G e p with
  | some v=>om r v
  | none=>False
 | .indexAddr _ p _=>match bh G e p with
  | some v=>om r v
  | none=>False
 | .slice _ p _ _ _=>match bh G e p with
  | some v=>om r v
  | none=>False
 | .store _ p _=>match bh G e p with
  | some (.ref q _ _)=>q=r
  | _=>False
 | .mapUpdate _ p _ _=>match bh G e p with
  | some (.mp q)=>q=r
  | _=>False
 | _=>False
def nd (G:aq) (fp:List (Nat×Nat)) (e:Env) (i:Nat) (o:Op):Prop:=match fp.lookup i with
 | some r=>afy G e o r
 | none=>True
def afA (fp:List (Nat×Nat)) (ops:Array Oper) (i j:Nat) (oi oj:Oper):Bool:=adC ops oi oj || (oi.apart ops oj && uR oi.op && uR oj.op && match fp.lookup i,fp.lookup j with
 | some r,some r'=>!(r == r')
 | _,_=>false)
section
variable {P:Program} {T:Ty} {Mv X:Nat->Prop} {G:aq} {N:Fr} {ops:Array Oper} {fp:List (Nat×Nat)}
def adX (H:Heap) (r:Nat):Option Row->Heap
 | none=>H
 | some row=>aM H r row
theorem AY {H:Heap} {r q:Nat} {u:Option Row} (h:q≠r):adX H r u q=H q:=by
 cases u with
 | none=>rfl
 | some row=>simp[adX,aM,h]
theorem Lb {H:Heap} {r q:Nat} {u v:Option Row} (h:r≠q):adX (adX H r u) q v=adX (adX H q v) r u:=by
 cases u<;>cases v<;>try rfl
 funext i;by_cases h1:i=r<;>by_cases h2:i=q<;>simp[adX,aM,h1,h2,h,adr h]
theorem Up {H H2:Heap} {t:TypeId} {v:AV} {r:Nat} (hv:om r v) (h:H2 r=H r):aef T H2 t v=aef T H t v:=by
 cases v with
 | d x=>cases x<;>rfl
 | ref q ee j=>simp only[om]at hv;subst hv;simp only[aef,h]
 | own q off n=>rfl
 | _=>exact hv.elim
theorem Tg {H H2:Heap} {t:TypeId} {v y:AV} {r:Nat} (hv:om r v) (h:H2 r=H r):mR T H2 t v y=mR T H t v y:=by
 cases v with
 | d x=>cases x<;>(cases y<;>first | rfl | (rename_i z;cases z<;>first | rfl | (rename_i z;cases z<;>rfl)))
 | ref q ee j=>cases y<;>first | rfl | (rename_i z;cases z<;>first | rfl | (rename_i z;cases z<;>rfl))
 | own q off n=>
  simp only[om]at hv;subst hv
  cases y with
  | d z=>cases z with
   | v z=>cases z<;>first | rfl | simp only[mR,h]
   | _=>rfl
  | _=>rfl
 | _=>exact hv.elim
theorem YQ {H H2:Heap} {t:TypeId} {v:AV} {lo hi:Option Int} {r:Nat} (hv:om r v) (h:H2 r=H r):nZ T H2 t v lo hi=nZ T H t v lo hi:=by
 cases v with
 | d x=>cases x<;>first | rfl | (rename_i z;cases z<;>rfl)
 | ref q ee j=>rfl
 | own q off n=>simp only[om]at hv;subst hv;simp only[nZ,h]
 | _=>exact hv.elim
theorem Ex.agy {o:Oper} {e:Env} {H H':Heap} {x:AV} {r:Nat} (ht:afy G e o.op r) (h:Ex P T Mv G o e H x H') :
  ∃ u,H'=adX H r u/\∀ H2,H2 r=H r->Ex P T Mv G o e H2 x (adX H2 r u):=by
 obtain⟨dst,op,type,pos,after,guard⟩:=o;dsimp only at ht;cases op<;>simp only[afy]at ht
 case load t p=>
  split at ht
  .rename_i v hp;refine⟨none,?_,fun H2 h2=>?_⟩
   .unfold Ex at h;simp only[acm,acS,abT,if_false]at h;obtain⟨c,_,_,rfl⟩:=h;rfl
   .unfold Ex at h ⊢;simp only[acm,acS,abT,if_false]at h ⊢;obtain⟨c,h1,h3,rfl⟩:=h;refine⟨c,?_,h3,rfl⟩;simp only[rd,hp,ae5]at h1 ⊢;rw[Up ht h2];exact h1
  .exact ht.elim
 case indexAddr t p y=>
  split at ht
  .rename_i v hp;refine⟨none,?_,fun H2 h2=>?_⟩
   .unfold Ex at h;simp only[acm,acS,abT,if_false]at h;obtain⟨c,_,_,rfl⟩:=h;rfl
   .unfold Ex at h ⊢;simp only[acm,acS,abT,if_false]at h ⊢;obtain⟨c,h1,h3,rfl⟩:=h;refine⟨c,?_,h3,rfl⟩;simp only[rd,hp]at h1 ⊢
    cases hy:bh G e y with
    | none=>simp[hy]at h1
    | some b=>simp only[hy]at h1 ⊢;rw[Tg ht h2];exact h1
  .exact ht.elim
 case slice t p lo hi mx=>
  split at ht
  .rename_i v hp;refine⟨none,?_,fun H2 h2=>?_⟩
   .unfold Ex at h;simp only[acm,acS,abT,if_false]at h;obtain⟨c,_,_,rfl⟩:=h;rfl
   .unfold Ex at h ⊢;simp only[acm,acS,abT,if_false]at h ⊢;obtain⟨c,h1,h3,rfl⟩:=h;refine⟨c,?_,h3,rfl⟩;simp only[rd,hp]at h1 ⊢;by_cases fh:mx.isNone=true
    .rw[if_pos fh]at h1 ⊢
     cases hlo:bound G e lo with
     | none=>simp[hlo]at h1
     | some l=>
      cases hhi:bound G e hi with
      | none=>simp[hlo,hhi]at h1
      | some l2=>simp only[hlo,hhi]at h1 ⊢;rw[YQ ht h2];exact h1
    .rw[if_neg fh]at h1;cases h1
  .exact ht.elim
 case store t p y=>
  split at ht
  .rename_i q ee j hp;subst ht;unfold Ex at h;simp only[acm,acS,if_true]at h;obtain⟨c,h1,h3⟩:=h
   cases dst with
   | some d=>simp[wr]at h1
   | none=>
    simp only[wr,hp]at h1
    cases hy:bh G e y with
    | none=>simp[hy]at h1
    | some v=>
     simp only[hy]at h1;split at h1
     .rename_i ty cells hr;split at h1
      .rename_i he;split at h1
       .rename_i c' qm hs;simp only[AS,BY,St.mk.injEq,true_and]at h1;obtain⟨rfl,rfl,rfl⟩:=h1;refine⟨some (.box ty qm),rfl,fun H2 h2=>?_⟩;unfold Ex;simp only[acm,acS,if_true];exact⟨_,by simp[wr,hp,hy,h2,hr,he,hs,adX],h3⟩
       .cases h1
      .cases h1
     .rename_i ty sz els hr;split at h1
      .rename_i c' kB hs;simp only[AS,BY,St.mk.injEq,true_and]at h1;obtain⟨rfl,rfl,rfl⟩:=h1;refine⟨some (.sl ty sz kB),rfl,fun H2 h2=>?_⟩;unfold Ex;simp only[acm,acS,if_true];exact⟨_,by simp[wr,hp,hy,h2,hr,hs,adX],h3⟩
      .cases h1
     .cases h1
     .cases h1
     .cases h1
  .exact ht.elim
 case mapUpdate t p y z=>
  split at ht
  .rename_i q hp;subst ht;unfold Ex at h;simp only[acm,acS,if_true]at h;obtain⟨c,h1,h3⟩:=h
   cases dst with
   | some d=>simp[wr]at h1
   | none=>
    simp only[wr,hp]at h1;split at h1
    .rename_i r' key dx e1 e2 e3;simp only[AS,AV.mp.injEq]at e1;subst e1;split at h1
     .rename_i ty ents hr;split at h1
      .rename_i c' iQ hs;simp only[AS,BY,St.mk.injEq,true_and]at h1;obtain⟨rfl,rfl,rfl⟩:=h1;refine⟨some (.mp ty iQ),rfl,fun H2 h2=>?_⟩;unfold Ex;simp only[acm,acS,if_true];exact⟨_,by simp[wr,hp,e2,e3,h2,hr,hs,adX],h3⟩
      .cases h1
     .cases h1
    .cases h1
  .exact ht.elim
theorem Fc {o:Op} {e e':Env} {r:Nat} (ha:fB o e e') (h:afy G e o r):afy G e' o r:=by
 cases o<;>simp only[afy]at h ⊢<;>try exact h
 case load t p=>
  have:bh G e p=bh G e' p:=dw fun t ht=>ha t (by simp[Op.operands,ht]);rw[<- this];exact h
 case indexAddr t p y=>
  have:bh G e p=bh G e' p:=dw fun t ht=>ha t (by simp[Op.operands,ht]);rw[<- this];exact h
 case slice t p lo hi mx=>
  have:bh G e p=bh G e' p:=dw fun t ht=>ha t (by simp[Op.operands,ht]);rw[<- this];exact h
 case store t p y=>
  have:bh G e p=bh G e' p:=dw fun t ht=>ha t (by simp[Op.operands,ht]);rw[<- this];exact h
 case mapUpdate t p y z=>
  have:bh G e p=bh G e' p:=dw fun t ht=>ha t (by simp[Op.operands,ht]);rw[<- this];exact h
theorem Bp {o:Op} {e e':Env} {i:Nat} (ha:fB o e e') (h:nd G fp e i o):nd G fp e' i o:=by
 unfold nd at h ⊢;split
 .rename_i r hr;simp only[hr]at h;exact Fc ha h
 .trivial
def GStep (P:Program) (T:Ty) (Mv:Nat->Prop) (G:aq) (N:Fr) (ops:Array Oper) (fp:List (Nat×Nat)) (i:Nat) (o:Oper) (σ aw:St):Prop:=tm P T Mv G N ops o σ aw/\(fR ops σ.env o=some true->nd G fp σ.env i o.op)
theorem OP {x y:Oper} (h:adC ops x y=true):kindOf x.op≠9/\kindOf y.op≠9:=by
 simp only[adC,abI]at h;obtain⟨_,h⟩:=h;refine⟨fun e=>by rw[e]at h;simp[p0]at h,fun e=>?_⟩;rw[e]at h
 revert h
 rcases kinds x.op with k | k | k | k | k | k<;>rw[k]<;>simp[p0]
theorem JQ {o:Op} (h:uR o=true):kindOf o≠9:=by
 unfold uR at h;split at h
 .have:=ED ‹_›;simp only[kindOf];omega
 .simp[kindOf]
 .simp[kindOf]
 .simp[kindOf]
 .simp[kindOf]
 .cases h
theorem Qf {i j:Nat} {oi oj:Oper} (hc:afA fp ops i j oi oj=true) {σ aG eL:St} (h1:GStep P T Mv G N ops fp i oi σ aG) (h2:GStep P T Mv G N ops fp j oj aG eL) :
  ∃ fc,GStep P T Mv G N ops fp j oj σ fc/\GStep P T Mv G N ops fp i oi fc eL:=by
 have hk:kindOf oi.op≠9/\kindOf oj.op≠9:=by
  simp only[afA,acI,abI]at hc
  rcases hc with hc | ⟨⟨⟨_,h3⟩,h4⟩,_⟩
  .exact OP hc
  .exact⟨JQ h3,JQ h4⟩
 obtain⟨hki,qN⟩:=hk;obtain⟨s1,t1⟩:=h1;obtain⟨s2,t2⟩:=h2;obtain⟨x,H1,yl,rfl⟩:=(p6 hki).1 s1;obtain⟨y,H2,sx2,rfl⟩:=(p6 qN).1 s2;obtain⟨e,H⟩:=σ;dsimp only at s1 s2 yl sx2 t1 t2 ⊢
 have hap:oi.apart ops oj=true:=by
  simp only[afA,adC,acI,abI]at hc
  rcases hc with hc | hc
  .exact hc.1
  .exact hc.1.1.1
 obtain⟨a1,_,aI⟩:=adA hap (e:=e) (v:=x);obtain⟨_,a2,_⟩:=adA hap (e:=e) (v:=y);have wj:=Bt (o:=oj) (e:=aD e oi.dst x) (e':=e) a1;have wi:=Bt (o:=oi) (e:=aD e oj.dst y) (e':=e) a2;have agj:fB oj.op (aD e oi.dst x) e:=fun t ht=>a1 t (iK ht);have eX:fB oi.op e (aD e oj.dst y):=fun t ht=>(a2 t (iK ht)).symm
 have main:∃ H3,Sx P T Mv G N ops oj e H y H3/\Sx P T Mv G N ops oi (aD e oj.dst y) H3 x H2:=by
  simp only[afA,acI,abI]at hc
  rcases hc with hc | ⟨_,sj⟩
  .exact tJ hc yl sx2 hki qN
  .cases bA:fp.lookup i with
   | none=>simp[bA]at sj
   | some r=>
    cases si:fp.lookup j with
    | none=>simp[bA,si]at sj
    | some r'=>
     have hr:r≠r':=by simpa[bA,si]using sj
     obtain⟨di,yl⟩:=yl;obtain⟨dj,sx2⟩:=sx2;rw[wj]at sx2
     rcases yl with⟨w1,e1⟩ | ⟨w1,rfl,rfl⟩
     .have t1:=t1 w1;simp only[nd,bA]at t1;obtain⟨u,rfl,EE⟩:=e1.agy t1
      rcases sx2 with⟨w2,e2⟩ | ⟨w2,rfl,rfl⟩
      .have t2:=t2 (by rw[wj];exact w2);simp only[nd,si]at t2;have e2:=e2.congr qN agj;obtain⟨u',rfl,EF⟩:=e2.agy (Fc agj t2);refine⟨adX H r' u',⟨dj,.inl ⟨w2,EF H (AY (adr hr)).symm⟩⟩,⟨di,.inl ⟨by rw[wi];exact w1,?_⟩⟩⟩;rw[Lb hr];exact (EE _ (AY hr)).congr hki eX
      .exact⟨H,⟨dj,.inr ⟨w2,rfl,rfl⟩⟩,⟨di,.inl ⟨by rw[wi];exact w1,e1.congr hki eX⟩⟩⟩
     .rcases sx2 with⟨w2,e2⟩ | ⟨w2,rfl,rfl⟩
      .exact⟨H2,⟨dj,.inl ⟨w2,e2.congr qN agj⟩⟩,⟨di,.inr ⟨by rw[wi];exact w1,rfl,rfl⟩⟩⟩
      .exact⟨_,⟨dj,.inr ⟨w2,rfl,rfl⟩⟩,⟨di,.inr ⟨by rw[wi];exact w1,rfl,rfl⟩⟩⟩
 obtain⟨H3,f1,f2⟩:=main;refine⟨⟨aD e oj.dst y,H3⟩,⟨(p6 qN).2 ⟨y,H3,f1,rfl⟩,fun hw=>?_⟩,⟨(p6 hki).2 ⟨x,H2,f2,by rw[fG aI]⟩,fun hw=>?_⟩⟩
 .exact Bp agj (t2 (by rw[wj];exact hw))
 .exact Bp eX (t1 (by rw[<- wi];exact hw))
def vo (P:Program) (T:Ty) (Mv:Nat->Prop) (G:aq) (N:Fr) (ops:Array Oper) (fp:List (Nat×Nat)):List Nat->St->St->Prop
 | [],σ,aw=>σ=aw
 | i :: l,σ,aw=>∃ o,ops[i]? = some o/\∃ aG,GStep P T Mv G N ops fp i o σ aG/\vo P T Mv G N ops fp l aG aw
theorem Yp {p:Nat} {op:Oper} (hp:ops[p]? = some op):∀ (l1:List Nat) {l2:List Nat} {σ aw:St},(∀ q∈l1,∀ oq,ops[q]? = some oq->afA fp ops q p oq op=true)->vo P T Mv G N ops fp (l1 ++ p :: l2) σ aw->vo P T Mv G N ops fp (p :: (l1 ++ l2)) σ aw:=by
 intro l1
 induction l1 with
 | nil=>intro l2 σ aw _ h;exact h
 | cons q l1 ih=>
  intro l2 σ aw bC h;obtain⟨oq,hq,aG,s1,rest⟩:=h;obtain⟨o',ho',eL,s2,p3⟩:=ih (fun q' hq'=>bC q' (by simp[hq'])) rest;rw[hp]at ho';obtain rfl:=AI ho';obtain⟨fc,f1,f2⟩:=Qf (bC q (by simp) oq hq) s1 s2;exact⟨op,hp,fc,f1,oq,hq,eL,f2,p3⟩
def vd (fp:List (Nat×Nat)) (ops:Array Oper):Bool:=
 let t:=tb ops
 ((List.range ops.size).all fun j=>match ops[j]? with
  | some oj=>oj.after.all fun e=>!Region.binds .any e || e.on < j
  | none=>true) &&
 go t (List.range ops.size)
where
 go (t:List Nat):List Nat->Bool
 | []=>true
 | a :: l=>(l.all fun b=>match ops[a]?,ops[b]? with
  | some oa,some ob=>(oa.after.all fun e=>!Region.binds .any e || !(e.on == b)) && ((t.getD b 0).testBit a || afA fp ops a b oa ob)
  | _,_=>true) && go t l
def BL (fp:List (Nat×Nat)) (ops:Array Oper) (a b:Nat):Prop:=∀ oa ob,ops[a]? = some oa->ops[b]? = some ob->
 (∀ e∈oa.after,Region.binds .any e=true->e.on≠b)/\(((tb ops).getD b 0).testBit a=true\/afA fp ops a b oa ob=true)
theorem KS:∀ {l:List Nat},vd.go fp ops (tb ops) l=true->l.Pairwise (BL fp ops)
 | [],_=>.nil
 | a :: l,h=>by
  simp only[vd.go,abI]at h;refine .cons (fun b hb oa ob pO nF=>?_) (KS h.2);have:=ack.1 h.1 b hb;simp only[pO,nF,abI,acI]at this;refine⟨fun e he px heq=>?_,this.2⟩;have h1:=acr.1 this.1 e he;simp[px,heq]at h1
theorem Nx (hg:Good P T) (au:∀ j oj,ops[j]? = some oj->∀ e∈oj.after,Region.binds .any e=true->e.on < j) {Q:Exit->St->Prop} {w0:World} {gn:Mu} {σn:St} (hQ:Q .normal σn):∀ (n:Nat) (R:List Nat) (listed:Array Bool) (w:World) (μ:Mu) (a:Act) (σ:St),R.length=n->R.Nodup->
  (∀ j,j∈R↔j < ops.size/\listed.getD j true=false)->listed.size=ops.size->R.Pairwise (BL fp ops)->
  (∀ j oj,ops[j]? = some oj->listed.getD j false=true->∀ e∈oj.after,Region.binds .any e=true->listed.getD e.on false=true)->vo P T Mv G N ops fp R σ σn->In w X G μ N a σ->Ev Mv w0 gn w μ->
  wpAnyIn (wd N.ro) 0 P .any ops (After Mv X G N w0 gn Q) n listed a w:=by
 intro n
 induction n with
 | zero=>
  intro R listed w μ a σ hl _ hR aK _ _ ab6 hi aH;have:R=[]:=acq hl;subst this
  have hr:Region.ready .any ops listed=[]:=by
   apply adj.2;intro j hj;obtain⟨h1,o,ho,_⟩:=mem_ready.1 hj;exact absurd ((hR j).2 ⟨(IS.1 ho).1,h1⟩) (by simp)
  have:σ=σn:=ab6;subst this;exact⟨hr,μ,σ,hQ,hi,aH⟩
 | succ n ih=>
  intro R listed w μ a σ hl fi hR aK fN ie ab6 hi aH;refine⟨fun hr=>?_,fun i hir=>?_⟩
  .cases R with
   | nil=>simp at hl
   | cons j R=>
    obtain⟨ig,hj2⟩:=(hR j).1 (by simp)
    have bu:ops[j]? = some ops[j]:=by simp[ig]
    have jO:j∈Region.ready .any ops listed:=by
     refine mem_ready.2 ⟨hj2,ops[j],bu,fun e he hb=>?_⟩;have qS:=au j ops[j] bu e he hb
     have cr:e.on < ops.size:=by omega
     have aI:e.on ∉ (j :: R):=by
      intro hm
      rcases abV.1 hm with h | h
      .omega
      .exact ((acA.1 fN).1 _ h ops[j] ops[e.on] bu (by simp[cr])).1 e he hb rfl
     have:=mt (hR e.on).2 aI
     have fY:e.on < listed.size:=by omega
     simp only[cr,true_and,IT]at this ⊢;simp[fY]at this ⊢;exact this
    rw[hr]at jO;cases jO
  .obtain⟨hi1,oi,b7,bC⟩:=mem_ready.1 hir;have ny:i∈R:=(hR i).2 ⟨(IS.1 b7).1,hi1⟩;obtain⟨R1,R2,rfl⟩:=aem ny
   have aeW:=Yp (P:=P) (T:=T) (Mv:=Mv) (G:=G) (N:=N) (fp:=fp) b7 R1 (fun q hq oq jQ=>by
    have pP:BL fp ops q i:=(acE.1 fN).2.2 q hq i (by simp)
    rcases (pP oq oi jQ b7).2 with h | h
    .exfalso;have jP:=vT au ie i i oi (abL _) b7 bC q h;have eS:=((hR q).1 (by simp[hq])).2
     have nI:q < listed.size:=by have:=(IS.1 jQ).1;omega
     simp[IT,nI]at jP eS;rw[jP]at eS;cases eS
    .exact h) ab6
   obtain⟨o',ho',aG,hstep,b9⟩:=aeW;rw[b7]at ho';obtain rfl:=AI ho';refine vv hg hstep.1 hi b7 fun w' ay a' aF iU=>?_
   have nD:(R1 ++ R2).Nodup:=by
    have:=fi;rw[ac2]at this ⊢;obtain⟨g1,g2,g3⟩:=this;exact⟨g1,(acF.1 g2).2,fun x hx y hy=>g3 x hx y (by simp[hy])⟩
   have nz:i ∉ R1 ++ R2:=by
    have:=fi;rw[ac2]at this;obtain⟨g1,g2,g3⟩:=this;intro hm
    rcases ab4.1 hm with h | h
    .exact g3 i h i (by simp) rfl
    .exact (acF.1 g2).1 h
   refine ih (R1 ++ R2) _ w' ay a' aG (by simp at hl ⊢;omega) nD (fun j=>?_) (by simpa using aK) ?_ ?_ b9 aF (aH.trans iU)
   .by_cases hji:j=i
    .subst hji
     have fY:j < listed.size:=by rw[aK];exact (IS.1 b7).1
     simp[fY];simpa using nz
    .rw[getD_set_ne true (adr hji)];rw[<- hR j];simp[hji]
   .rw[acE]at fN ⊢;obtain⟨g1,g2,g3⟩:=fN;exact⟨g1,(acA.1 g2).2,fun x hx y hy=>g3 x hx y (by simp[hy])⟩
   .intro j oj bu dK e he hb;by_cases hji:j=i
    .subst hji;rw[b7]at bu;obtain rfl:=AI bu;exact getD_set_true (bC e he hb)
    .rw[getD_set_ne false (adr hji)]at dK;exact getD_set_true (ie j oj bu dK e he hb)
def stepG (P:Program) (T:Ty) (Mv:Nat->Prop) (G:aq) (N:Fr) (ops:Array Oper) (fp:List (Nat×Nat)) (i:Nat) (o:Oper) (σ:St) (K:St->Prop):Prop:=eU N o/\match fR ops σ.env o with
 | some b=>if b=true then nd G fp σ.env i o.op/\(match acm o.op with
  | some c=>jm P G c σ o.dst K
  | none=>mg T G Mv o σ K) else K ⟨aD σ.env o.dst cy,σ.H⟩
 | none=>False
def oS (P:Program) (T:Ty) (Mv:Nat->Prop) (G:aq) (N:Fr) (ops:Array Oper) (fp:List (Nat×Nat)) (K:St->Prop):Nat->List Oper->St->Prop
 | _,[],σ=>K σ
 | i,o :: rest,σ=>stepG P T Mv G N ops fp i o σ (oS P T Mv G N ops fp K (i+1) rest)
theorem gl {K:St->Prop} {i:Nat} {o:Oper} {rest:List Oper} {σ:St} (h:∀ K':St->Prop,(∀ τ,oS P T Mv G N ops fp K (i+1) rest τ->K' τ)->stepG P T Mv G N ops fp i o σ K'):oS P T Mv G N ops fp K i (o :: rest) σ:=h _ fun _ h=>h
theorem adw {K:St->Prop} {i:Nat} {σ:St} (h:K σ):oS P T Mv G N ops fp K i [] σ:=h
theorem Zl {K:St->Prop}:∀ (l:List Oper) (k:Nat) (σ:St),(∀ j,l[j]? = ops[k+j]?)->oS P T Mv G N ops fp K k l σ->∃ σn,K σn/\vo P T Mv G N ops fp (List.range' k l.length) σ σn:=by
 intro l
 induction l with
 | nil=>intro k σ _ h;exact⟨σ,h,rfl⟩
 | cons o l ih=>
  intro k σ hl h
  have h0:ops[k]? = some o:=by simpa using (hl 0).symm
  have eF:∀ j,l[j]? = ops[k+1+j]?:=fun j=>by have:=hl (j+1);simpa[adn,afc 1 j]using this
  unfold oS stepG at h;obtain⟨hd,h⟩:=h;rw[acv,List.range'_succ]
  have fin:∀ aG,GStep P T Mv G N ops fp k o σ aG->oS P T Mv G N ops fp K (k+1) l aG->∃ σn,K σn/\vo P T Mv G N ops fp (k :: List.range' (k+1) l.length) σ σn:=by
   intro aG hs hq;obtain⟨σn,hk,hr⟩:=ih (k+1) aG eF hq;exact⟨σn,hk,o,h0,aG,hs,hr⟩
  split at h
  .rename_i b hb;split at h
   .rename_i py;subst py;obtain⟨ht,h⟩:=h;split at h
    .rename_i c hc;obtain⟨y,hy,h⟩:=h;refine fin _ ⟨⟨hd,.inl ⟨hb,?_⟩⟩,fun _=>ht⟩ h;unfold kD;simp only[hc];exact⟨y,hy,rfl⟩
    .rename_i hc;unfold mg at h;split at h
     .rename_i hw;split at h
      .rename_i c x aG h1;obtain⟨bT,h⟩:=h;refine fin _ ⟨⟨hd,.inl ⟨hb,?_⟩⟩,fun _=>ht⟩ h;unfold kD;simp only[hc];rw[if_pos hw];exact⟨c,x,aG,h1,bT,rfl⟩
      .exact h.elim
     .rename_i hw;split at h
      .rename_i c x h1;obtain⟨bT,h⟩:=h;refine fin _ ⟨⟨hd,.inl ⟨hb,?_⟩⟩,fun _=>ht⟩ h;unfold kD;simp only[hc];rw[if_neg hw];exact⟨c,x,h1,bT,rfl⟩
      .exact h.elim
   .rename_i py
    have:b=false:=by simpa using py
    subst this;refine fin _ ⟨⟨hd,.inr ⟨hb,rfl⟩⟩,fun hw=>by rw[hb]at hw;cases hw⟩ h
  .exact h.elim
theorem Gu (hg:Good P T) (hm:P.follows .mixedOrders=true) (fp:List (Nat×Nat)) {id:Nat} (hok:vd fp ops=true) {Q:Exit->St->Prop} {σ:St} (h:oS P T Mv G N ops fp (fun aw=>Q .normal aw) 0 ops.toList σ):AW P Mv X G N (.region id ops true) Q σ:=fun w μ a hi=>by
 unfold vd at hok;simp only[abI]at hok;obtain⟨h5,h6⟩:=hok
 have pG:∀ j oj,ops[j]? = some oj->∀ e∈oj.after,Region.binds .any e=true->e.on < j:=fun j oj bu e he hb=>by
  have:=ack.1 h5 j (acW.2 (IS.1 bu).1);simp only[bu]at this;have:=acr.1 this e he;simpa[hb]using this
 obtain⟨σn,hQ,ab6⟩:=Zl ops.toList 0 σ (by simp) h;rw[<- List.range_eq_range',ado]at ab6;refine wpIn_region_any hm ?_;obtain⟨aF,aH⟩:=hi.j8 (Mv:=Mv) (bZ.drew w);refine Nx hg pG hQ ops.size (List.range ops.size) _ w.drew μ a σ (by simp) List.nodup_range (fun j=>?_) (by simp) (KS h6) ?_ ab6 aF aH
 .simp only[acW];constructor
  .intro hj;simp[IT,hj]
  .exact fun hj=>hj.1
 .intro j oj bu dK;have hj:=(IS.1 bu).1;simp[IT,hj]at dK
theorem aet (hg:Good P T) (hm:P.follows .mixedOrders=true) (fp:List (Nat×Nat)) (l ns:List Nat) (hM:∀ r,ns.contains r=false->Mv r) {id:Nat} (hok:vd fp ops=true) {y:Code} {Q:Exit->St->Prop} {σ:St}
  (h:∀ K:St->Prop,(∀ τ:St,AW P Mv X G N y Q (τ.norm l ns)->K τ)->oS P T Mv G N ops fp K 0 ops.toList σ):AW P Mv X G N (.seq (.region id ops true) y) Q σ:=
 oX (Gu hg hm fp hok (h _ fun _ h=>h.norm l ns hM))
theorem ae0 (hg:Good P T) (hm:P.follows .mixedOrders=true) (fp:List (Nat×Nat)) {id:Nat} (hok:vd fp ops=true) {Q:Exit->St->Prop} {σ:St}
  (h:∀ K:St->Prop,(∀ τ:St,Q .normal τ->K τ)->oS P T Mv G N ops fp K 0 ops.toList σ):AW P Mv X G N (.region id ops true) Q σ:=Gu hg hm fp hok (h _ fun _ h=>h)
end
end Go.Av
namespace Go.Av
def gg (fx:List Nat) (r:Nat):Prop:=fx.contains r=false
instance (fx:List Nat) (r:Nat):Decidable (gg fx r):=inferInstanceAs (Decidable (_=_))
theorem cJ {fx ns:List Nat} (h:fx.all ns.contains=true):∀ r,ns.contains r=false->gg fx r:=fun r hr=>by
 unfold gg
 cases hc:fx.contains r with
 | false=>rfl
 | true=>
  have:=ack.1 h r (acY.1 hc);rw[this]at hr;cases hr
def MC (P:Program) (G:aq) (fx:List Nat) (g:FuncId) (xs:List AV) (H:Heap) (y:AV) (H2:Heap):Prop:=fe P g/\∀ X,rC P (gg fx) X G g xs H fun x H'=>x=y/\H'=H2
def ji (bY fx:List Nat) (q off n:Nat):AV:=if bY.contains q && !fx.contains q then .dead else .own q off n
def jh (bY fx:List Nat) (q e j:Nat):AV:=if bY.contains q && !fx.contains q then .dead else .ref q e j
def dZ (bY:List Nat) (q:Nat):Bool:=!bY.contains q
def jN (H2 H:Heap):Heap:=fun q=>match H2 q with
 | some row=>some row
 | none=>H q
theorem R5 (l2 l:List (Nat×Row)):jN (ak l2) (ak l)=ak (l2 ++ l):=by
 funext q
 induction l2 with
 | nil=>rfl
 | cons p l2 ih=>
  unfold jN at ih ⊢;simp only[ak,aeo,List.lookup]at ih ⊢;cases h:(q == p.1)<;>simp only[h]at ih ⊢;exact ih
section
variable {P:Program} {T:Ty} {Mv X:Nat->Prop} {G:aq} {N:Fr} {w:World} {μ:Mu} {a:Act} {σ:St}
theorem RV.tq {w':World} {X':Nat->Prop} {ay:Mu} {o f:Nat->Nat->Nat->AV} (hD:∀ u d,RD w (XX X μ) u d->RD w' (XX X' ay) u d) (ho:∀ u r off n,RV w X μ u (.own r off n)->RV w' X' ay u (o r off n)) (hf:∀ u r e j,RV w X μ u (.ref r e j)->RV w' X' ay u (f r e j)) :
  ∀ {v:Value} {x:AV},RV w X μ v x->RV w' X' ay v (x.tr o f):=by
 intro v x hr
 induction hr with
 | d h'=>exact .d (hD _ _ h')
 | own hm h'=>exact ho _ _ _ _ (.own hm h')
 | ref hm hb=>exact hf _ _ _ _ (.ref hm hb)
 | agg hn _ ih=>
  rw[AV.tr,AV.vy];refine xH (.agg (by simpa using hn) fun j u c hu hc=>?_);rw[abM]at hc;obtain⟨c',cH,rfl⟩:=AT.1 hc;exact ih j u c' hu cH
 | aW hn _ ih=>
  rw[AV.tr,AV.vy];refine Ax (.aW (by simpa using hn) fun j u c hu hc=>?_);rw[abM]at hc;obtain⟨c',cH,rfl⟩:=AT.1 hc;exact ih j u c' hu cH
 | bt _ ih=>exact ET ih
 | bm _ ih=>exact .bm ih
 | fn hn _ ih=>
  rw[AV.tr,AV.vy];refine ES (by simpa using hn) fun j u c hu hc=>?_;rw[abM]at hc;obtain⟨c',cH,rfl⟩:=AT.1 hc;exact ih j u c' hu cH
 | mp hm hb=>
  rename_i r b m;have h0:=hf _ _ _ _ (RV.ref (e:=0) (j:=0) hm hb);unfold AV.tr;split
  .rename_i q' e' j' hq;rw[hq]at h0;obtain⟨m',b',bU,aU,e⟩:=h0.ik;simp only[Value.pointer.injEq,AS,Addr.mk.injEq]at e;obtain⟨rfl,_⟩:=e;exact .mp bU aU
  .exact .dead _
 | dead u=>exact .dead u
theorem RV.lift {w':World} {X':Nat->Prop} {ay:Mu} (hD:∀ u d,RD w (XX X μ) u d->RD w' (XX X' ay) u d) (eo:∀ q m,μ q=some m->ay q=some m):∀ {v:Value} {x:AV},RV w X μ v x->RV w' X' ay v x:=by
 intro v x hr
 induction hr with
 | d h'=>exact .d (hD _ _ h')
 | own hm h'=>exact .own (eo _ _ hm) h'
 | ref hm hb=>exact .ref (eo _ _ hm) hb
 | agg hn _ ih=>exact .agg hn ih
 | aW hn _ ih=>exact .aW hn ih
 | bt _ ih=>exact .bt ih
 | bm _ ih=>exact .bm ih
 | fn hn _ ih=>exact .fn hn ih
 | mp hm hb=>exact .mp (eo _ _ hm) hb
 | dead u=>exact .dead u
theorem adk.tq {w':World} {X':Nat->Prop} {ay:Mu} {o f:Nat->Nat->Nat->AV} {m:gp} (hb:∀ b,m.blk=some b->w'.heap[b]? = w.heap[b]?) (hD:∀ u d,RD w (XX X μ) u d->RD w' (XX X' ay) u d) (hV:∀ u x,RV w X μ u x->RV w' X' ay u (x.tr o f)) {row:Row} (ok:adk w X μ m row):adk w' X' ay m (row.tr o f):=by
 cases ok with
 | nil h1 h2=>exact .nil h1 h2
 | sl h1 h2 h3 h4 h5 h6 h7 h8 h9=>exact .sl h1 h2 ((hb _ h1).trans h3) h4 h5 h6 h7 h8 fun i j el c he hc=>let ⟨u,hu,hr⟩:=h9 i j el c he hc;⟨u,hu,hD _ _ hr⟩
 | box h1 h2 h3 h4 h5 h6 h7=>
  refine .box h1 rfl h3 ((hb _ h1).trans h4) (by simpa using h5) (hx:=by simpa using h7) fun j u c hu hc=>?_;rw[abM]at hc;obtain⟨c',cH,rfl⟩:=AT.1 hc;exact hV _ _ (h6 j u c' hu cH)
 | mp h1 h2 h3 h4=>exact .mp h1 ((hb _ h1).trans h2) h3 fun i e p he hp=>let ⟨a,b,c⟩:=h4 i e p he hp;⟨a,b,hD _ _ c⟩
 | it h1 h2 h3=>exact .it h1 ((hb _ h1).trans h2) (hD _ _ h3)
theorem adk.lift {w':World} {X':Nat->Prop} {ay:Mu} {m:gp} (hb:∀ b,m.blk=some b->w'.heap[b]? = w.heap[b]?) (hD:∀ u d,RD w (XX X μ) u d->RD w' (XX X' ay) u d) (eo:∀ q m,μ q=some m->ay q=some m) {row:Row} (ok:adk w X μ m row):adk w' X' ay m row:=by
 cases ok with
 | nil h1 h2=>exact .nil h1 h2
 | sl h1 h2 h3 h4 h5 h6 h7 h8 h9=>exact .sl h1 h2 ((hb _ h1).trans h3) h4 h5 h6 h7 h8 fun i j el c he hc=>let ⟨u,hu,hr⟩:=h9 i j el c he hc;⟨u,hu,hD _ _ hr⟩
 | box h1 h2 h3 h4 h5 h6 h7=>exact .box h1 rfl h3 ((hb _ h1).trans h4) h5 (fun j u c hu hc=>(h6 j u c hu hc).lift hD eo) h7
 | mp h1 h2 h3 h4=>exact .mp h1 ((hb _ h1).trans h2) h3 fun i e p he hp=>let ⟨a,b,c⟩:=h4 i e p he hp;⟨a,b,hD _ _ c⟩
 | it h1 h2 h3=>exact .it h1 ((hb _ h1).trans h2) (hD _ _ h3)
theorem oO {keep:Nat->Bool} {b:Nat} (h:ran (bL keep μ) b):ran μ b:=let ⟨r,m,hr,hb⟩:=h;⟨r,m,(adt hr).2,hb⟩
theorem BQ {bY:List Nat} {b:Nat}:XX (XX X (bL (dZ bY) μ)) (bL bY.contains μ) b↔XX X μ b:=by
 constructor
 .rintro ((h | h) | h)
  .exact .inl h
  .exact .inr (oO h)
  .exact .inr (oO h)
 .rintro (h | ⟨r,m,hr,hb⟩)
  .exact .inl (.inl h)
  .cases hk:bY.contains r with
   | true=>exact .inr ⟨r,m,by simp only[bL,hk,if_true];exact hr,hb⟩
   | false=>exact .inl (.inr ⟨r,m,by simp only[bL,dZ,hk,adg,if_true];exact hr,hb⟩)
theorem Sim.part {H:Heap} (hs:Sim w X μ H) (bY:List Nat):Sim w (XX X (bL (dZ bY) μ)) (bL bY.contains μ) (trH bY.contains (acH bY) (acG bY) H)/\
  ∀ {u:Value} {x:AV},RV w X μ u x->RV w (XX X (bL (dZ bY) μ)) (bL bY.contains μ) u (x.tr (acH bY) (acG bY)):=by
 have hD:∀ u d,RD w (XX X μ) u d->RD w (XX (XX X (bL (dZ bY) μ)) (bL bY.contains μ)) u d:=fun u d h=>h.sub fun b=>BQ.1
 have hV:∀ u x,RV w X μ u x->RV w (XX X (bL (dZ bY) μ)) (bL bY.contains μ) u (x.tr (acH bY) (acG bY)):=fun u x=>RV.tq hD (fun u r off n h=>by
   unfold acH;split
   .rename_i hk;obtain⟨m,hm,hh⟩:=h.je;exact .own (by simp only[bL,hk,if_true];exact hm) hh
   .exact .dead u) (fun u r e j h=>by
   unfold acG;split
   .rename_i hk;obtain⟨m,b,hm,hb,rfl⟩:=h.ik;exact .ref (by simp only[bL,hk,if_true];exact hm) hb
   .exact .dead u)
 refine⟨⟨fun r row hr=>?_,fun r m hr=>?_,fun q q' m1 m2 b h1 h2 hb1 hb2=>hs.inj q q' m1 m2 b (adt h1).2 (adt h2).2 hb1 hb2,fun q m b hq hb hX=>?_,fun b hb=>hb.elim (hs.fits b) fun h=>hs.jl (oO h)⟩,fun h=>hV _ _ h⟩
 .unfold trH at hr;split at hr
  .rename_i hk;obtain⟨kY,h0,rfl⟩:=AT.1 hr;obtain⟨m,hm,ok⟩:=hs.rows r kY h0;exact⟨m,by simp only[bL,hk,if_true];exact hm,ok.tq (fun _ _=>rfl) hD hV⟩
  .cases hr
 .obtain⟨hk,hm⟩:=adt hr;obtain⟨row,cF⟩:=hs.iy r m hm;exact⟨row.tr (acH bY) (acG bY),by simp only[trH,hk,if_true,cF,acN]⟩
 .obtain⟨hk,hm⟩:=adt hq
  rcases hX with h | ⟨r,mr,hr,Dc⟩
  .exact hs.frame q m b hm hb h
  .obtain⟨eQ,uB⟩:=adt hr;have:=hs.inj q r m mr b hm uB hb Dc;subst this;simp only[dZ,hk,Bool.not_true,abT]at eQ
theorem ad6.As {fx bY:List Nat} {g:FuncId} {j1 xs:List AV} {H1 H2:Heap} {y:AV} (hc:MC P G fx g xs H1 y H2) (hx:j1.map (AV.tr (acH bY) (acG bY))=xs) (hH:trH bY.contains (acH bY) (acG bY) σ.H=H1)
  (hd:∀ q,(H2 q).isSome=true->bY.contains q=true\/σ.H q=none) (hm:∀ r,bY.contains r=true->fx.contains r=false->Mv r) {K:AV->St->Prop}
  (h:K y ⟨trE (ji bY fx) (jh bY fx) σ.env,jN H2 (trH (dZ bY) (ji bY fx) (jh bY fx) σ.H)⟩):ad6 P Mv X G N g j1 σ K:=by
 refine⟨hc.1,fun w μ a vs hi hn hv=>?_⟩;obtain⟨hs1,gC⟩:=hi.aX.part bY;rw[hH]at hs1;refine (hc.2 (XX X (bL (dZ bY) μ)) w (bL bY.contains μ) vs hs1 (fun g x hx=>(hi.gr g x hx).sub fun b=>BQ.1) (by rw[hn,<- hx,ac1]) fun i u x hu l9=>?_).mono ?_
 .rw[<- hx,abM]at l9;obtain⟨x0,hx0,rfl⟩:=AT.1 l9;exact gC (hv i u x0 hu hx0)
 .rintro e w' ⟨v,x,H',μ2,rfl,⟨rfl,rfl⟩,hr,du,aH⟩
  have ahG:∀ q m,μ2 q=some m->bY.contains q=true\/μ q=none:=fun q m hq=>by
   obtain⟨row,cF⟩:=du.iy q m hq
   rcases hd q (by rw[cF];rfl)with h | h
   .exact .inl h
   .exact .inr (hi.aX.s7 h)
  let ay:Mu:=fun q=>match μ2 q with
   | some m=>some m
   | none=>bL (dZ bY) μ q
  have m2:∀ q m,μ2 q=some m->ay q=some m:=fun q m hq=>by simp only[ay,hq]
  have mr:∀ q m,bY.contains q=false->μ q=some m->ay q=some m:=fun q m hk hq=>by
   have h2:μ2 q=none:=by
    cases h2:μ2 q with
    | none=>rfl
    | some m'=>
     rcases ahG q m' h2 with h | h
     .rw[hk]at h;cases h
     .rw[hq]at h;cases h
   simp only[ay,h2,bL,dZ,hk,adg,if_true,hq]
  have of:∀ q m,ay q=some m->μ2 q=some m\/(μ2 q=none/\bY.contains q=false/\μ q=some m):=fun q m hq=>by
   cases h2:μ2 q with
   | some m'=>simp only[ay,h2]at hq;exact .inl hq
   | none=>
    simp only[ay,h2]at hq;obtain⟨hk,hm⟩:=adt hq;exact .inr ⟨rfl,by simpa[dZ]using hk,hm⟩
  have same:∀ b,b < w.heap.size->¬ ran (bL bY.contains μ) b->w'.heap[b]? = w.heap[b]?/\¬ ran μ2 b:=aH.same
  have hXX:∀ b,XX X ay b->XX (XX X (bL (dZ bY) μ)) μ2 b:=fun b hb=>by
   rcases hb with hb | ⟨q,m,hq,hbq⟩
   .exact .inl (.inl hb)
   .rcases of q m hq with h2 | ⟨_,hk,hm⟩
    .exact .inr ⟨q,m,h2,hbq⟩
    .exact .inl (.inr ⟨q,m,by simp only[bL,dZ,hk,adg,if_true];exact hm,hbq⟩)
  have hD:∀ u d,RD w (XX X μ) u d->RD w' (XX X ay) u d:=fun u d h=>h.mono aH.size fun b hb hX=>by
   obtain⟨h1,h2⟩:=same b hb fun hr=>hX (.inr (oO hr));refine⟨h1,fun Q0=>?_⟩
   rcases Q0 with h | ⟨q,m,hq,hbq⟩
   .exact hX (.inl h)
   .rcases of q m hq with h3 | ⟨_,_,hm⟩
    .exact h2 ⟨q,m,h3,hbq⟩
    .exact hX (.inr ⟨q,m,hm,hbq⟩)
  have hD2:∀ u d,RD w' (XX (XX X (bL (dZ bY) μ)) μ2) u d->RD w' (XX X ay) u d:=fun u d h=>h.sub hXX
  have stay:∀ q m,(bY.contains q && !fx.contains q)=false->μ q=some m->ay q=some m:=fun q m hk hq=>by
   cases hl:bY.contains q with
   | false=>exact mr q m hl hq
   | true=>
    rw[hl,aeK]at hk
    have hfx:fx.contains q=true:=by simpa using hk
    exact m2 q m (aH.kept q m (by simp only[bL,hl,if_true];exact hq) (by unfold gg;rw[hfx];simp))
  have hV:∀ u x,RV w X μ u x->RV w' X ay u (x.tr (ji bY fx) (jh bY fx)):=fun u x=>RV.tq hD (fun u r off n h=>by
    unfold ji;split
    .exact .dead u
    .rename_i hk;obtain⟨m,hm,hh⟩:=h.je
     exact .own (stay r m (by simpa using hk) hm) hh) (fun u r e j h=>by
    unfold jh;split
    .exact .dead u
    .rename_i hk;obtain⟨m,b,hm,hb,rfl⟩:=h.ik
     exact .ref (stay r m (by simpa using hk) hm) hb)
  refine⟨v,x,_,ay,rfl,h,⟨⟨fun q row hq=>?_,fun q m hq=>?_,fun q q' m1 mm b h1 h2 hb1 hb2=>?_,fun q m b hq hb=>?_,fun b hb=>acP (hi.aX.fits b hb) aH.size⟩,⟨hi.env.defers,hi.env.size,fun i x hx=>?_⟩,fun g x hx=>hD _ _ (hi.gr g x hx)⟩,hr.lift hD2 m2,aH.size,aH.os,aH.tape,aH.output,fun b hb pQ=>?_,fun r m hr hn=>?_⟩
  .simp only[jN]at hq;split at hq
   .rename_i afO h2;obtain rfl:=AI hq;obtain⟨m,hm,ok⟩:=du.rows q afO h2;exact⟨m,m2 q m hm,ok.lift (fun _ _=>rfl) hD2 m2⟩
   .unfold trH at hq;split at hq
    .rename_i hk
     have eQ:bY.contains q=false:=by simpa[dZ]using hk
     obtain⟨kY,h0,rfl⟩:=AT.1 hq;obtain⟨m,hm,ok⟩:=hi.aX.rows q kY h0;refine⟨m,mr q m eQ hm,ok.tq (fun b hb=>(same b (ok.jl hb) fun ⟨r,UO,hr',Dc⟩=>?_).1) hD hV⟩;obtain⟨qO,uB⟩:=adt hr';have:=hi.aX.inj q r m UO b hm uB hb Dc;subst this;rw[eQ]at qO;cases qO
    .cases hq
  .simp only[jN]
   rcases of q m hq with h2 | ⟨h2,hk,hm⟩
   .obtain⟨row,cF⟩:=du.iy q m h2;exact⟨row,by rw[cF]⟩
   .have xc:H' q=none:=by
     cases hh:H' q with
     | none=>rfl
     | some row=>obtain⟨m',bU,_⟩:=du.rows q row hh;rw[h2]at bU;cases bU
    obtain⟨row,cF⟩:=hi.aX.iy q m hm;exact⟨row.tr (ji bY fx) (jh bY fx),by rw[xc];simp only[trH,dZ,hk,adg,if_true,cF,acN]⟩
  .rcases of q m1 h1 with g1 | ⟨_,k1,g1⟩<;>rcases of q' mm h2 with g2 | ⟨_,k2,g2⟩
   .exact du.inj q q' m1 mm b g1 g2 hb1 hb2
   .exact absurd (.inr ⟨q',mm,by simp only[bL,dZ,k2,adg,if_true];exact g2,hb2⟩) (du.frame q m1 b g1 hb1)
   .exact absurd (.inr ⟨q,m1,by simp only[bL,dZ,k1,adg,if_true];exact g1,hb1⟩) (du.frame q' mm b g2 hb2)
   .exact hi.aX.inj q q' m1 mm b g1 g2 hb1 hb2
  .rcases of q m hq with g1 | ⟨_,k1,g1⟩
   .exact fun hX=>du.frame q m b g1 hb (.inl hX)
   .exact hi.aX.frame q m b g1 hb
  .replace hx:trE (ji bY fx) (jh bY fx) σ.env i=some x:=hx;unfold trE at hx;obtain⟨x0,h0,rfl⟩:=AT.1 hx;obtain⟨u,hu,hr⟩:=hi.env.slot i x0 h0;exact⟨u,hu,hV _ _ hr⟩
  .obtain⟨h1,h2⟩:=same b hb fun hr=>pQ (oO hr);refine⟨h1,fun ⟨q,m,hq,hbq⟩=>?_⟩
   rcases of q m hq with h3 | ⟨_,_,hm⟩
   .exact h2 ⟨q,m,h3,hbq⟩
   .exact pQ ⟨q,m,hm,hbq⟩
  .cases hl:bY.contains r with
   | false=>exact mr r m hl hr
   | true=>
    cases hf:fx.contains r with
    | false=>exact absurd (hm r hl hf) hn
    | true=>exact stay r m (by rw[hl,hf];rfl) hr
theorem ab8.As {fx:List Nat} {g:FuncId} {j1 xs:List AV} {H1 H2:Heap} {y:AV} {dst:Option Tmp} {next:St->Prop} (bY:List Nat) (hc:MC P G fx g xs H1 y H2) (hx:j1.map (AV.tr (acH bY) (acG bY))=xs) (hH:trH bY.contains (acH bY) (acG bY) σ.H=H1)
  (hd:∀ q,(H2 q).isSome=true->bY.contains q=true\/σ.H q=none) (hm:∀ r,bY.contains r=true->fx.contains r=false->Mv r)
  (h:next ⟨aD (trE (ji bY fx) (jh bY fx) σ.env) dst y,jN H2 (trH (dZ bY) (ji bY fx) (jh bY fx) σ.H)⟩):ab8 P Mv X G N g j1 σ dst next:=
 ad6.As hc hx hH hd hm h
theorem ab8.mc {fx:List Nat} {g:FuncId} {j1 xs:List AV} {bN eg:List (Nat×Row)} {y:AV} {dst:Option Tmp} {next:St->Prop} (hc:MC P G fx g xs (ak bN) y (ak eg)) (hx:j1.map (AV.tr (acH (bN.map (·.1))) (acG (bN.map (·.1))))=xs)
  (hH:∀ p∈bN,(σ.H p.1).map (Row.tr (acH (bN.map (·.1))) (acG (bN.map (·.1))))=ak bN p.1) (hd:∀ p∈eg,(bN.map (·.1)).contains p.1=true\/σ.H p.1=none) (hm:∀ r∈bN.map (·.1),fx.contains r=false->Mv r)
  (h:next ⟨aD (trE (ji (bN.map (·.1)) fx) (jh (bN.map (·.1)) fx) σ.env) dst y,jN (ak eg) (trH (dZ (bN.map (·.1))) (ji (bN.map (·.1)) fx) (jh (bN.map (·.1)) fx) σ.H)⟩):ab8 P Mv X G N g j1 σ dst next:=by
 refine ad6.As hc hx (funext (Bb hH)).symm (fun q hq=>?_) (fun r hr=>hm r (acY.1 hr)) h
 have adJ:∀ l:List (Nat×Row),(ak l q).isSome=true->∃ p∈l,p.1=q:=by
  intro l
  induction l with
  | nil=>intro h;simp[ak]at h
  | cons p l ih=>
   intro h;simp only[ak,List.lookup]at h
   cases hqp:(q == p.1) with
   | true=>exact⟨p,by simp,by simpa using (beq_iff_eq.1 hqp).symm⟩
   | false=>
    rw[hqp]at h;obtain⟨p',h1,h2⟩:=ih h;exact⟨p',by simp[h1],h2⟩
 obtain⟨p,hp,rfl⟩:=adJ eg hq;exact hd p hp
def A8 (names:List Nat) (x y:AV):Prop:=match x.tr (acH names) (acG names),y with
 | .d d',.d d=>d'.le d
 | p,q=>p=q
def yZ (T:Ty) (rs:List ResultVar) (y:AV) (rows:List (Nat×Row)) (σ:St):Prop:=match rr T σ rs with
 | some (c,vs)=>c/\A8 (rows.map (·.1)) (oneOf vs) y/\∀ p∈rows,(σ.H p.1).map (Row.tr (acH (rows.map (·.1))) (acG (rows.map (·.1))))=ak rows p.1
 | none=>False
def GU (T:Ty) (rs:List ResultVar) (y:AV) (rows:List (Nat×Row)):Exit->St->Prop
 | .normal,σ | .ret,σ=>yZ T rs y rows σ
 | _,_=>False
theorem Wu {names:List Nat} {x y:AV} {u:Value} (h:A8 names x y) (hr:RV w X μ u (x.tr (acH names) (acG names))):RV w X μ u y:=by
 unfold A8 at h;split at h
 .rename_i d' d hx;rw[hx]at hr;exact .d (hr.data.le h)
 .rw[<- h];exact hr
theorem MC.abS (hg:Good P T) {g:FuncId} {fn:Func} {c:Code} {rs:List ResultVar} {xs:List AV} {H:Heap} {y:AV} {rows:List (Nat×Row)} {fx:List Nat} (hf:P.funcs[g]? = some fn) (hb:fn.body=some c) (hn:(fn.name == "runtime.NumGoroutine")=false) (gB:fn.results=rs.toArray)
  (hN:xs.length<=fn.ntmps) (hfx:fx.all (rows.map (·.1)).contains=true) (h:∀ X,AW P (gg fx) X G ⟨fn.ntmps,[],none⟩ c (GU T rs y rows) ⟨args xs,H⟩):MC P G fx g xs H y (ak rows):=by
 refine⟨fe.of hf hb hn,fun X w μ vs hs hgl aK hv=>?_⟩
 have fin:∀ (w':World) (ay:Mu) (a':Act) (aw:St),yZ T rs y rows aw->In w' X G ay ⟨fn.ntmps,[],none⟩ a' aw->Ev (gg fx) w μ w' ay->∃ v,(results fn a'.tmps).run P w' = .ok v w'/\∃ v_1 x H' ay,Ending.returned v=Ending.returned v_1/\(x=y/\H'=ak rows)/\RV w' X ay v_1 x/\Sim w' X ay H'/\Ev (gg fx) w μ w' ay:=by
  intro w' ay a' aw he hi aH;unfold yZ at he;split at he
  .rename_i c xs hx;obtain⟨hc,he,SO⟩:=he;obtain⟨v,hv,hr⟩:=Fz (P:=P) hg hi gB hx hc;have hX:∀ b,XX X (bL (rows.map (·.1)).contains ay) b->XX X ay b:=fun b=>vN
   have ho:∀ u r off n,RV w' X ay u (.own r off n)->RV w' X (bL (rows.map (·.1)).contains ay) u (acH (rows.map (·.1)) r off n):=fun u r off n h=>by
    unfold acH;split
    .rename_i hk;exact h.vh hk
    .exact .dead u
   have hf:∀ u r e j,RV w' X ay u (.ref r e j)->RV w' X (bL (rows.map (·.1)).contains ay) u (acG (rows.map (·.1)) r e j):=fun u r e j h=>by
    unfold acG;split
    .rename_i hk;exact h.vk hk
    .exact .dead u
   have aF:=hi.tr ho hf;have hH:trH (rows.map (·.1)).contains (acH (rows.map (·.1))) (acG (rows.map (·.1))) aw.H=ak rows:=(funext (Bb SO)).symm;refine⟨v,hv,v,y,ak rows,_,rfl,⟨rfl,rfl⟩,Wu he (RV.tr hX ho hf hr),hH ▸ aF.aX,aH.trans (rY fun r _ _ hr=>cJ hfx r hr)⟩
  .exact he.elim
 refine calls_of_wp hf hb ((wpIn_wide (n:=0)).1 (wpIn_mono (h X w μ _ ⟨hs,⟨rfl,by simp;omega,fun i x hx=>?_⟩,hgl⟩) fun e a' w' ⟨ay,aw,q,i,ev⟩=>?_))
 .simp only[args]at hx;have hi:i < xs.length:=(OF.1 hx).1
  have nR:vs[i]? = some vs[i]:=by rw[acb]
  exact⟨vs[i],by rw[acM (by omega),nR],hv i _ x nR hx⟩
 .cases e with
  | normal=>
   obtain⟨v,hv,rest⟩:=fin w' ay a' aw q i ev;exact⟨i.env.defers,v,hv,rest⟩
  | ret=>
   obtain⟨v,hv,rest⟩:=fin w' ay a' aw q i ev;exact⟨i.env.defers,v,hv,rest⟩
  | _=>exact q.elim
end
end Go.Av
namespace Go.Av
theorem Pv (k:Value) (x:D):pf k x []=[(k,x)]:=rfl
theorem Pu (k:Value) (x:D) (p:Value×D) (l:List (Value×D)):pf k x (p :: l)=if fE k p.1 then (k,x) :: l else p :: pf k x l:=by
 unfold pf;rw[ael]
 cases h:fE k p.1 with
 | true=>simp
 | false=>
  simp only[abT,if_false];cases List.findIdx? (fun p=>fE k p.1) l<;>simp
theorem VC (x:Value):D.one (.v x)=x.oneCell':=rfl
theorem Vz (k:Option Bool) (els:List (List D)):D.one (.sl k els)=true:=rfl
theorem Vx (c:List D):D.one (.ip c)=true:=rfl
theorem Vu (c:List D):D.one (.agg c)=false:=rfl
theorem VB (c:List D):D.one (.aW c)=false:=rfl
theorem Vw (t:TypeId) (x:D):D.one (.bt t x)=true:=rfl
theorem Vv (f:Fn) (c:List D):D.one (.fn f c)=true:=rfl
theorem NF (x:D):AV.one (.d x)=x.one:=rfl
theorem NK (r o n:Nat):AV.one (.own r o n)=true:=rfl
theorem NL (r e j:Nat):AV.one (.ref r e j)=true:=rfl
theorem ahu (t:TypeId) (x:AV):AV.one (.bt t x)=true:=rfl
theorem NH (f:Fn) (c:List AV):AV.one (.fn f c)=true:=rfl
theorem NC (c:List AV):AV.one (.agg c)=false:=rfl
theorem NM (c:List AV):AV.one (.aW c)=false:=rfl
theorem ND (g:FuncId) (x:AV):AV.one (.bm g x)=false:=rfl
theorem NJ (r:Nat):AV.one (.mp r)=true:=rfl
theorem NG:AV.one .dead=false:=rfl
theorem Z8 (x:Value):gm (.d (.v x))=if x.oneCell' then some [.d (.v x)] else none:=rfl
theorem Z6 (k:Option Bool) (els:List (List D)):gm (.d (.sl k els))=some [.d (.sl k els)]:=rfl
theorem Z2 (c:List D):gm (.d (.ip c))=some [.d (.ip c)]:=rfl
theorem ZV (c:List D):gm (.d (.agg c))=some (c.map .d):=rfl
theorem ZZ (c:List D):gm (.d (.aW c))=none:=rfl
theorem ZY (t:TypeId) (x:D):gm (.d (.bt t x))=some [.d (.bt t x)]:=rfl
theorem ZX (f:Fn) (c:List D):gm (.d (.fn f c))=some [.d (.fn f c)]:=rfl
theorem Z4 (r o n:Nat):gm (.own r o n)=some [.own r o n]:=rfl
theorem Z5 (r e j:Nat):gm (.ref r e j)=some [.ref r e j]:=rfl
theorem ZT (c:List AV):gm (.agg c)=some c:=rfl
theorem Z7 (c:List AV):gm (.aW c)=none:=rfl
theorem Z1 (t:TypeId) (x:AV):gm (.bt t x)=some [.bt t x]:=rfl
theorem Z0 (f:Fn) (c:List AV):gm (.fn f c)=some [.fn f c]:=rfl
theorem ZU (g:FuncId) (x:AV):gm (.bm g x)=none:=rfl
theorem Z3 (r:Nat):gm (.mp r)=some [.mp r]:=rfl
theorem ZW:gm .dead=none:=rfl
attribute [simp] VC Vz Vx Vu VB Vw Vv NF NK NL ahu NH NC NM ND NJ NG
attribute [simp] Z8 Z6 Z2 ZV ZZ ZY ZX Z4 Z5 ZT Z7 Z1 Z0 ZU Z3 ZW
attribute [simp] Int.ofNat_inj List.lookup
attribute [simp] qh rj afL kindOf Op.operands Call.operands eU fR zf acm acS Ar my TypeDesc.isSlice TypeDesc.isStr yJ
attribute [simp] Ej yK qx mR lY agc aff lU TypeDesc.isAgg y6 pj y5 adx ql jA Br eqv
attribute [simp] E4 Ci AE AB y4 Aw z6 BV nZ bound Bl Bm TypeDesc.isBool TypeDesc.isIface AD
attribute [simp] yS Value.oneCell' yM Fp tW mW rZ af9 nr rowsOf rowsOf.go St.tY mg rp yD af0 FX G1 afh FW Mj
attribute [simp] yf Ml rd wr kC jI aD xI xJ cy undef cz ahT TA TB ZF Sr St.freeze bh ff pa eW
attribute [simp] aV ak int Av.bool aef me xK iN aM fD tgt args cN cO AV.kill AV.kill.go Row.kill trE trH AV.tr AV.tr.go Row.tr
attribute [simp] qz qy e9 Oi N9 St.norm afJ afv acH acG BT GN iw dW D.scalar aJ aL atEnd B0 tT rr A9
attribute [simp] oneOf ZG stepG nd afy om kU x5 Pv Pu fE ads aca dD AX gg ji jh dZ R5
attribute [simp] yZ GU A8 y8 y9 St.oh wc
section
variable {P:Program} {T:Ty} {Mv X:Nat->Prop} {G:aq} {N:Fr} {w:World} {μ:Mu} {a:Act} {σ:St}
theorem ab8.tr {keep:Nat->Bool} {o f:Nat->Nat->Nat->AV} {g:FuncId} {xs:List AV} {dst:Option Tmp} {next:St->Prop}
  (ho:∀ w μ a,In w X G μ N a σ->∀ u r off n,RV w X μ u (.own r off n)->RV w X (bL keep μ) u (o r off n)) (hf:∀ w μ a,In w X G μ N a σ->∀ u r e j,RV w X μ u (.ref r e j)->RV w X (bL keep μ) u (f r e j))
  (hk:∀ r,keep r=false->Mv r) (h:ab8 P Mv X G N g (xs.map (AV.tr o f)) ⟨trE o f σ.env,trH keep o f σ.H⟩ dst next):ab8 P Mv X G N g xs σ dst next:=by
 refine⟨h.1,fun w μ a vs hi hn hv=>?_⟩;have aF:=hi.tr (ho w μ a hi) (hf w μ a hi);have aH:Ev Mv w μ w (bL keep μ):=rY fun r _ _=>hk r;refine (h.2 w (bL keep μ) a vs aF (by simpa using hn) fun i u x hu hx=>?_).mono fun e w' ⟨v,x,aw,ay,he,k,da,hr,ev⟩=>⟨v,x,aw,ay,he,k,da,hr,aH.trans ev⟩;rw[abM]at hx;obtain⟨x0,hx0,rfl⟩:=AT.1 hx;exact RV.tr (fun b=>vN) (ho w μ a hi) (hf w μ a hi) (hv i u x0 hu hx0)
theorem ab8.tY (r:Nat) {ty sz:Nat} {els:List (List D)} {g:FuncId} {xs:List AV} {dst:Option Tmp} {next:St->Prop} (hr:σ.H r=some (.sl ty sz els)) (hm:Mv r)
  (h:ab8 P Mv X G N g (xs.map (AV.tr (qz r els) (qy r))) ⟨trE (qz r els) (qy r) σ.env,trH (e9 r) (qz r els) (qy r) σ.H⟩ dst next):ab8 P Mv X G N g xs σ dst next:=by
 refine ab8.tr (keep:=e9 r) (fun w μ a hi u q off n hu=>?_) (fun w μ a hi u q e j hu=>?_) (fun q hq=>?_) h
 .have pM:(fun q=>if q=r then none else μ q)=bL (e9 r) μ:=by
   funext q;unfold bL e9;by_cases h:q=r<;>simp[h]
  unfold qz;split
  .rename_i hq;subst hq
   have hd:∀ {off n:Nat},RV w X μ u (.own q off n)->off+n<=els.length->RV w X (bL (e9 q) μ) u (.d (.sl none ((els.drop off).take n))):=fun h hle=>by
    obtain⟨k,hk,_⟩:=AR hi.aX hr hle h;rw[pM]at hk;exact .d hk.aeZ
   split
   .rename_i h2;obtain⟨rfl,rfl⟩:=h2;have:=hd hu (by omega);simpa using this
   .split
    .rename_i hle;exact hd hu hle
    .exact .dead u
  .rename_i hq;exact hu.vh (by simp[e9,hq])
 .unfold qy;split
  .exact .dead u
  .rename_i hq;exact hu.vk (by simp[e9,hq])
 .have e:q=r:=by simpa[e9]using hq
  exact e ▸ hm
end
