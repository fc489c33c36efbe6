/- Parts. -/
import Derived.Test.YtdigkhaofjmgkaaGreatDoorMs7
import Derived.Orders
set_option linter.unusedSectionVars false
set_option linter.unusedSimpArgs false
set_option linter.unusedVariables false
namespace Go.Av
def kQ:Operand->Nat
 | .global _=>0
 | _=>1
@[simp] theorem Zs (x:Operand):(kQ x=2)=False:=by cases x<;>simp[kQ]
@[simp] theorem Zt (x:Operand):(kQ x=3)=False:=by cases x<;>simp[kQ]
@[simp] theorem Zu (x:Operand):(kQ x=8)=False:=by cases x<;>simp[kQ]
@[simp] theorem Zv (x:Operand):(kQ x=9)=False:=by cases x<;>simp[kQ]
@[simp] theorem Zr (x:Operand):(kQ x=0\/kQ x=1)=True:=by cases x<;>simp[kQ]
theorem DD (x:Operand):kQ x<=1:=by cases x<;>simp[kQ]
def kindOf:Op->Nat
 | .load _ x=>kQ x
 | .indexAddr _ _ _=>1
 | .slice _ _ _ _ _=>1
 | .lookup _ _ _ _=>1
 | .call { callee:=.value _,.. }=>2
 | .call { callee:=.builtin .append,.. }=>9
 | .call { callee:=.builtin .copy,.. }=>9
 | .alloc _=>3
 | .box _ _=>3
 | .buildSlice _ _ _=>3
 | .makeSlice _ _ _=>3
 | .store _ _ _=>8
 | .mapUpdate _ _ _ _=>8
 | .insert _ _ _ _=>8
 | .makeMap _ _=>3
 | .select _ _=>9
 | _=>0
def pr (x y:Nat):Bool:=match x,y with
 | 0,9 | 9,_ | 1,8 | 1,9 | 2,8 | 2,9 | 3,1 | 3,2 | 3,8 | 3,9 | 8,1 | 8,2 | 8,3 | 8,8 | 8,9=>false
 | _,_=>true
def acf (ops:Array Oper) (x y:Oper):Bool:=x.apart ops y && pr (kindOf x.op) (kindOf y.op)
def bitsOf (acc:List Nat) (o:Oper):Nat:=o.after.toList.foldr (fun e s=>if Region.binds .any e then (2 ^ e.on ||| acc.getD e.on 0) ||| s else s) 0
def adO:List Oper->List Nat->List Nat
 | [],acc=>acc
 | o :: l,acc=>adO l (acc ++ [bitsOf acc o])
def tb (ops:Array Oper):List Nat:=adO ops.toList []
def adq (ops:Array Oper):Bool:=
 let t:=tb ops
 (List.range ops.size).all fun j=>match ops[j]? with
  | some oj=>(oj.after.all fun e=>!Region.binds .any e || e.on < j) && (List.range j).all fun i=>(t.getD j 0).testBit i || match ops[i]? with
    | some oi=>acf ops oi oj && acf ops oj oi
    | none=>true
  | none=>true
section
variable {P:Program} {T:Ty} {Mv X:Nat->Prop} {G:ao} {N:Fr}
def vn (P:Program) (G:ao) (σ:St) (c:Call) (y:D):Prop:=∃ g xs,tgt G σ.env c=some (g,xs)/\
 ((∃ ds,xs=ds.map .d/\ar P G g ds y)\/(∃ ds,iq (dU σ.H 4) xs=some ds/\y.scalar=true/\ar P G g ds y))
def kC (P:Program) (T:Ty) (Mv:Nat->Prop) (G:ao) (o:Oper) (σ aw:St):Prop:=match cz o.op with
 | some c=>∃ y,vn P G σ c y/\aw=⟨aD σ.env o.dst (.d y),σ.H⟩
 | none=>if eD o.op then ∃ c x aI,wr T G Mv σ o=some (c,x,aI)/\c/\aw=⟨aD aI.env o.dst x,aI.H⟩
  else ∃ c x,rd T G σ o.op=some (c,x)/\c/\aw=⟨aD σ.env o.dst x,σ.H⟩
def sP (P:Program) (T:Ty) (Mv:Nat->Prop) (G:ao) (N:Fr) (ops:Array Oper) (o:Oper) (σ aw:St):Prop:=
 abF N o/\((fQ ops σ.env o=some true/\kC P T Mv G o σ aw)\/(fQ ops σ.env o=some false/\aw=⟨aD σ.env o.dst cC,σ.H⟩))
theorem uW (hg:Good P T) {ops:Array Oper} {o:Oper} {σ aw:St} (h:sP P T Mv G N ops o σ aw) {w:World} {μ:Mu} {a:Act} (hi:In w X G μ N a σ) {i:Nat} (ho:ops[i]? = some o) {Q:Exit->Act->World->Prop} {K:Act->World->Prop}
  (hk:∀ w' ax a',In w' X G ax N a' aw->Ev Mv w μ w' ax->K a' w'):wpOpIn (wd N.ro) 0 P ops Q i K a w:=by
 obtain⟨hd,h⟩:=h
 have gL:∀ d,o.dst=some d->d < N.n:=fun d e=>by unfold abF at hd;rw[e]at hd;exact hd
 unfold wpOpIn;simp only[ho]
 rcases h with⟨hw,h⟩ | ⟨hw,rfl⟩
 .rw[sT hi hw,if_pos rfl];refine (yg (Mv:=Mv) (K:=fun aI=>aI=aw) hg hi gL ?_ fun w' ax a' aI e aF aJ=>hk w' ax a' (e ▸ aF) aJ);unfold kC at h;unfold jH;split at h
  .rename_i c hc;obtain⟨y,⟨g,xs,ht,dG⟩,rfl⟩:=h;simp only[hc,ht]
   rcases dG with⟨ds,rfl,hp⟩ | ⟨ds,jo,hs,hp⟩
   .exact ir.pure hp rfl
   .exact ir.mw jo hp hs rfl
  .rename_i hc;simp only[hc,adi];split at h
   .rename_i y7;rw[if_pos y7];obtain⟨c,x,aI,gM,bW,rfl⟩:=h;simp only[gM];exact⟨bW,trivial⟩
   .rename_i y7;rw[if_neg y7];obtain⟨c,x,hr,bW,rfl⟩:=h;simp only[hr];exact⟨bW,trivial⟩
 .rw[sT hi hw,if_neg (by simp)];exact⟨fun _ _=>trivial,hk w μ _ (hi.put (.d (.v _)) gL) (.refl _ w μ)⟩
theorem J4 {e:Env} {dst:Option Tmp} {x:AV} {t:Nat} (h:dst≠some t):aD e dst x t=e t:=by
 cases dst with
 | none=>rfl
 | some d=>have:t≠d:=fun e=>h (by rw[e]);simp[aD,eS,this]
theorem fG {e:Env} {d d':Option Tmp} {x y:AV} (h:∀ t,d=some t->d'≠some t):aD (aD e d x) d' y=aD (aD e d' y) d x:=by
 cases d with
 | none=>rfl
 | some t=>
  cases d' with
  | none=>rfl
  | some t'=>
   have aO:t≠t':=fun e=>h t rfl (by rw[e]);funext i;by_cases h1:i=t<;>by_cases h2:i=t'<;>simp[aD,eS,h1,h2,aO,Ne.symm aO]
   all_goals (subst h1;simp[aO])
def fA (o:Op) (e e':Env):Prop:=∀ t,Operand.tmp t∈o.operands->e t=e' t
theorem abj {e e':Env} {x:Operand} (h:∀ t,x = .tmp t->e t=e' t):bf G e x=bf G e' x:=by
 cases x with
 | tmp t=>exact h t rfl
 | _=>rfl
theorem BE {e e':Env}:∀ {l:List Operand},(∀ t,Operand.tmp t∈l->e t=e' t)->kB G e l=kB G e' l
 | [],_=>rfl
 | x :: l,h=>by
  simp only[kB];rw[abj (x:=x) fun t ht=>h t (by simp[ht]),BE (l:=l) fun t ht=>h t (by simp[ht])]
theorem yf {e e':Env}:∀ {l:List (Nat×Operand)},(∀ t,Operand.tmp t∈l.map (·.2)->e t=e' t)->jG G e l=jG G e' l
 | [],_=>rfl
 | (i,x) :: l,h=>by
  simp only[jG];rw[abj (x:=x) fun t ht=>h t (by simp[ht]),yf (l:=l) fun t ht=>h t (by simp at ht ⊢;exact .inr ht)]
theorem FL {e e':Env} {o:Option Operand} (h:∀ t,o=some (.tmp t)->e t=e' t):bound G e o=bound G e' o:=by
 cases o with
 | none=>rfl
 | some x=>simp only[bound];rw[abj (x:=x) fun t ht=>h t (by rw[ht])]
theorem V6 {o:Op} {e e':Env} {H:Heap} (h:fA o e e'):rd T G ⟨e,H⟩ o=rd T G ⟨e',H⟩ o:=by
 unfold fA at h;cases o
 case makeFunc f first caps=>
  simp only[rd];rw[BE (l:=caps.toList) fun t ht=>h t (by simp[Op.operands];right;simpa using ht)];split
  .rfl
  .split
   .rename_i x Cu fk
    rw[abj (x:=x) fun t ht=>h t (by
     have hm:x∈first:=by
      have:x∈first.toList:=by rw[Cu];simp
      simpa using this
     simp only[Op.operands];rw[<- ht]
     simp[hm])]
   .rfl
 case typeAssert y xT t b=>
  simp only[rd];rw[abj (x:=y) fun t ht=>h t (by simp[Op.operands,ht])]
 case build t parts=>
  simp only[rd];rw[yf (l:=parts.toList) fun t ht=>h t (by simpa[Op.operands]using ht)]
 case slice t x lo hi mx=>
  simp only[rd];rw[abj (x:=x) fun t ht=>h t (by simp[Op.operands,ht]),FL (o:=lo) fun t ht=>h t (by simp[Op.operands,ht]),FL (o:=hi) fun t ht=>h t (by simp[Op.operands,ht])]
 case call c=>
  obtain⟨callee,args,argTypes⟩:=c
  cases callee with
  | builtin b=>
   have two:∀ {x y:Operand},args.toList=[x,y]->bf G e x=bf G e' x/\bf G e y=bf G e' y:=fun {x y} ha=>
    ⟨abj (x:=x) fun t ht=>h t (by simp[Op.operands,Call.operands];rw[<- Array.mem_toList_iff,ha];simp[ht]),
     abj (x:=y) fun t ht=>h t (by simp[Op.operands,Call.operands];rw[<- Array.mem_toList_iff,ha];simp[ht])⟩
   cases b<;>try rfl
   case len=>
    simp only[rd];split
    .rename_i x t ha ht;rw[abj (x:=x) fun t ht=>h t (by simp[Op.operands,Call.operands];rw[<- Array.mem_toList_iff,ha];simp[ht])]
    .rfl
   case max=>
    simp only[rd];split
    .rename_i x y ha;rw[(two ha).1,(two ha).2]
    .rfl
   case min=>
    simp only[rd];split
    .rename_i x y ha;rw[(two ha).1,(two ha).2]
    .rfl
  | _=>rfl
 all_goals
  simp only[Op.operands,List.mem_toArray,List.mem_cons,List.not_mem_nil,or_false]at h
 all_goals
  first
   | rfl
   | (rename_i x;simp only[rd];rw[abj (x:=x) fun t ht=>h t (by simp[ht])];done)
   | (rename_i x _;simp only[rd];rw[abj (x:=x) fun t ht=>h t (by simp[ht])];done)
   | (rename_i x y;simp only[rd];rw[abj (x:=x) fun t ht=>h t (by simp[ht]),abj (x:=y) fun t ht=>h t (by simp[ht])];done)
   | (rename_i x y _;simp only[rd];rw[abj (x:=x) fun t ht=>h t (by simp[ht]),abj (x:=y) fun t ht=>h t (by simp[ht])];done)
   | (rename_i x y z;simp only[rd];rw[abj (x:=x) fun t ht=>h t (by simp[ht]),abj (x:=y) fun t ht=>h t (by simp[ht]),abj (x:=z) fun t ht=>h t (by simp[ht])];done)
def Ex (P:Program) (T:Ty) (Mv:Nat->Prop) (G:ao) (o:Oper) (e:Env) (H:Heap) (x:AV) (H':Heap):Prop:=match cz o.op with
 | some c=>∃ y,vn P G ⟨e,H⟩ c y/\x = .d y/\H'=H
 | none=>if eD o.op then ∃ c,wr T G Mv ⟨e,H⟩ o=some (c,x,⟨e,H'⟩)/\c
  else ∃ c,rd T G ⟨e,H⟩ o.op=some (c,x)/\c/\H'=H
theorem aeP {o:Oper} (hk:kindOf o.op≠9) {σ aI:St} {c:Prop} {x:AV} (h:wr T G Mv σ o=some (c,x,aI)):aI.env=σ.env:=by
 obtain⟨dst,op,type,pos,after,guard⟩:=o;dsimp only at hk;unfold wr at h;dsimp only at h
 repeat' split at h
 all_goals first
  | (exact absurd rfl hk)
  | (simp only[Option.some.injEq,Prod.mk.injEq]at h;obtain⟨_,_,rfl⟩:=h;rfl)
  | cases h
theorem Ex.of {o:Oper} (hk:kindOf o.op≠9) {σ aw:St} (h:kC P T Mv G o σ aw):∃ x H',Ex P T Mv G o σ.env σ.H x H'/\aw=⟨aD σ.env o.dst x,H'⟩:=by
 unfold kC at h;unfold Ex;split at h
 .rename_i c hc;obtain⟨y,dG,rfl⟩:=h;(try simp only[hc]);exact⟨_,_,⟨y,dG,rfl,rfl⟩,rfl⟩
 .rename_i hc;(try simp only[hc]);split at h
  .rename_i hw;obtain⟨c,x,aI,h1,h2,rfl⟩:=h;have he:=aeP hk h1;refine⟨x,aI.H,?_,by rw[he]⟩;rw[if_pos hw];refine⟨c,?_,h2⟩;obtain⟨e,H⟩:=σ;obtain⟨e1,H1⟩:=aI;dsimp only at he;subst he;exact h1
  .rename_i hw;obtain⟨c,x,h1,h2,rfl⟩:=h;refine⟨x,σ.H,?_,rfl⟩;rw[if_neg hw];exact⟨c,h1,h2,rfl⟩
theorem Ex.to {o:Oper} {e:Env} {H H':Heap} {x:AV} (h:Ex P T Mv G o e H x H'):kC P T Mv G o ⟨e,H⟩ ⟨aD e o.dst x,H'⟩:=by
 unfold Ex at h;unfold kC;split at h
 .rename_i c hc;obtain⟨y,dG,rfl,rfl⟩:=h;(try simp only[hc]);exact⟨y,dG,rfl⟩
 .rename_i hc;(try simp only[hc]);split at h
  .rename_i hw;obtain⟨c,h1,h2⟩:=h;rw[if_pos hw];exact⟨c,x,_,h1,h2,rfl⟩
  .rename_i hw;obtain⟨c,h1,h2,rfl⟩:=h;rw[if_neg hw];exact⟨c,x,h1,h2,rfl⟩
theorem qt {o:Op} {c:Call} (h:cz o=some c):o = .call c/\kindOf o=2:=by
 unfold cz at h;split at h
 .obtain rfl:=Option.some.inj h;exact⟨rfl,rfl⟩
 .cases h
theorem uX {e e':Env} {c:Call} (h:∀ t,Operand.tmp t∈c.operands->e t=e' t):tgt G e c=tgt G e' c:=by
 unfold tgt;split
 .rename_i f hf;rw[abj (x:=f) fun t ht=>h t (by simp[Call.operands,hf,ht]),BE (l:=c.args.toList) fun t ht=>h t (by simp[Call.operands,hf];right;simpa using ht)]
 .rfl
theorem YH {o:Oper} (hk:kindOf o.op≠9) {e e':Env} {H H':Heap} {c:Prop} {x:AV} (ha:fA o.op e e') (h:wr T G Mv ⟨e,H⟩ o=some (c,x,⟨e,H'⟩)):wr T G Mv ⟨e',H⟩ o=some (c,x,⟨e',H'⟩):=by
 obtain⟨dst,op,type,pos,after,guard⟩:=o;dsimp only at hk ha;unfold fA at ha;cases op
 case alloc t=>
  cases dst with
  | none=>cases h
  | some d=>
   simp only[wr]at h ⊢;split at h
   .rename_i ti ht;simp only[Option.some.injEq,Prod.mk.injEq,St.mk.injEq,true_and]at h;obtain⟨rfl,rfl,rfl⟩:=h;simp
   .cases h
 case box t y=>
  cases dst with
  | none=>cases h
  | some d=>
   simp only[wr]at h ⊢;rw[<- abj (e:=e) (x:=y) fun t ht=>ha t (by simp[Op.operands,ht])];split at h
   .simp only[Option.some.injEq,Prod.mk.injEq,St.mk.injEq,true_and]at h;obtain⟨rfl,rfl,rfl⟩:=h;rename_i hcs;simp[hcs]
   .cases h
 case store t y z=>
  cases dst with
  | some d=>cases h
  | none=>
   simp only[wr]at h ⊢;rw[<- abj (e:=e) (x:=y) fun t ht=>ha t (by simp[Op.operands,ht]),<- abj (e:=e) (x:=z) fun t ht=>ha t (by simp[Op.operands,ht])];split at h
   .rename_i r e0 j v h1 h2;(try simp only[h1,h2]);split at h
    .rename_i ty cells hH;(try simp only[hH]);split at h
     .rename_i he;(try simp only[he,if_true]);split at h
      .rename_i c' pS hs;(try simp only[hs]);simp only[Option.some.injEq,Prod.mk.injEq,St.mk.injEq,true_and]at h ⊢;exact h
      .cases h
     .cases h
    .rename_i ty sz els hH;(try simp only[hH]);split at h
     .rename_i c' kA hs;(try simp only[hs]);simp only[Option.some.injEq,Prod.mk.injEq,St.mk.injEq,true_and]at h ⊢;exact h
     .cases h
    .cases h
    .cases h
    .cases h
   .cases h
 case makeMap t rs=>
  cases dst with
  | none=>cases rs<;>cases h
  | some d=>
   cases rs with
   | some _=>cases h
   | none=>
    simp only[wr]at h ⊢;simp only[Option.some.injEq,Prod.mk.injEq,St.mk.injEq,true_and]at h ⊢;exact h
 case mapUpdate t m k v=>
  cases dst with
  | some d=>cases h
  | none=>
   simp only[wr]at h ⊢;rw[<- abj (e:=e) (x:=m) fun t ht=>ha t (by simp[Op.operands,ht]),<- abj (e:=e) (x:=k) fun t ht=>ha t (by simp[Op.operands,ht]),<- abj (e:=e) (x:=v) fun t ht=>ha t (by simp[Op.operands,ht])];split at h
   .rename_i r key y h1 h2 h3;(try simp only[h1,h2,h3]);split at h
    .rename_i ty ents hH;(try simp only[hH]);split at h
     .rename_i c' iL hp;(try simp only[hp]);simp only[Option.some.injEq,Prod.mk.injEq,St.mk.injEq,true_and]at h ⊢;exact h
     .cases h
    .cases h
   .cases h
 case insert t m k v=>
  cases dst with
  | some d=>cases h
  | none=>
   simp only[wr]at h ⊢;rw[<- abj (e:=e) (x:=m) fun t ht=>ha t (by simp[Op.operands,ht]),<- abj (e:=e) (x:=k) fun t ht=>ha t (by simp[Op.operands,ht]),<- abj (e:=e) (x:=v) fun t ht=>ha t (by simp[Op.operands,ht])];split at h
   .rename_i r key y h1 h2 h3;(try simp only[h1,h2,h3]);split at h
    .rename_i ty ents hH;(try simp only[hH]);split at h
     .rename_i c' iL hp;(try simp only[hp]);simp only[Option.some.injEq,Prod.mk.injEq,St.mk.injEq,true_and]at h ⊢;exact h
     .cases h
    .cases h
   .cases h
 case makeSlice t y z=>
  cases dst with
  | none=>cases h
  | some d=>
   simp only[wr]at h ⊢;rw[<- abj (e:=e) (x:=y) fun t ht=>ha t (by simp[Op.operands,ht]),<- abj (e:=e) (x:=z) fun t ht=>ha t (by simp[Op.operands,ht])];split at h
   .rename_i tt cJ;(try simp only[cJ]);split at h
    .rename_i e0 hd;(try simp only[hd]);split at h
     .rename_i te kn n km m h0 h1 h2;(try simp only[h0,h1,h2]);simp only[Option.some.injEq,Prod.mk.injEq,St.mk.injEq,true_and]at h ⊢;exact h
     .cases h
    .cases h
   .cases h
 case buildSlice t n ps=>
  cases dst with
  | none=>cases h
  | some d=>
   simp only[wr]at h ⊢;rw[<- yf (e:=e) (l:=ps.toList) fun t ht=>ha t (by simpa[Op.operands]using ht)];split at h
   .rename_i tt cJ;(try simp only[cJ]);split at h
    .rename_i e0 hd;(try simp only[hd]);split at h
     .rename_i te pp h0 h1;(try simp only[h0,h1]);split at h
      .rename_i els rG;(try simp only[rG]);simp only[Option.some.injEq,Prod.mk.injEq,St.mk.injEq,true_and]at h ⊢;exact h
      .cases h
     .cases h
    .cases h
   .cases h
 case call cc=>
  obtain⟨callee,args,argTypes⟩:=cc
  cases callee with
  | builtin b=>
   cases b<;>first | (exact absurd rfl hk) | (cases dst<;>cases h)
  | _=>cases dst<;>cases h
 all_goals (cases dst<;>cases h)
theorem Ex.congr {o:Oper} (hk:kindOf o.op≠9) {e e':Env} {H H':Heap} {x:AV} (ha:fA o.op e e') (h:Ex P T Mv G o e H x H'):Ex P T Mv G o e' H x H':=by
 unfold Ex at h ⊢;split at h
 .rename_i c hc;(try simp only[hc]);obtain⟨y,⟨g,xs,ht,dG⟩,h2,h3⟩:=h;refine⟨y,⟨g,xs,?_,dG⟩,h2,h3⟩;have ho:=(qt hc).1;rw[<- uX (e:=e) fun t ht=>ha t (by rw[ho];exact ht)];exact ht
 .rename_i hc;(try simp only[hc]);split at h
  .rename_i hw;rw[if_pos hw];obtain⟨c,h1,h2⟩:=h;exact⟨c,YH hk ha h1,h2⟩
  .rename_i hw;rw[if_neg hw];obtain⟨c,h1,h2,h3⟩:=h;exact⟨c,by rw[<- V6 ha];exact h1,h2,h3⟩
theorem zg {o:Op} (h:eD o=true):kindOf o=3\/kindOf o=8\/kindOf o=9:=by
 unfold eD at h
 split at h<;>first | (exact .inl rfl) | (exact .inr (.inl rfl)) | (exact .inr (.inr rfl)) | cases h
theorem Ex.keeps {o:Oper} (hk:kindOf o.op<=2) {e:Env} {H H':Heap} {x:AV} (h:Ex P T Mv G o e H x H'):H'=H:=by
 unfold Ex at h;split at h
 .obtain⟨_,_,_,rfl⟩:=h;rfl
 .split at h
  .rename_i hw
   rcases zg hw with h' | h' | h'<;>omega
  .obtain⟨_,_,_,rfl⟩:=h;rfl
theorem J6 {o:Op} (hk:kindOf o=0) {e:Env} (H H2:Heap):rd T G ⟨e,H⟩ o=rd T G ⟨e,H2⟩ o:=by
 cases o
 case call c=>
  obtain⟨callee,args,argTypes⟩:=c
  cases callee with
  | builtin b=>cases b<;>rfl
  | _=>rfl
 case load t y=>
  cases y with
  | global g=>
   simp only[rd,bf]
   cases G g with
   | none=>rfl
   | some x=>cases x<;>rfl
  | _=>simp[kindOf,kQ]at hk
 all_goals first | rfl | (simp[kindOf]at hk)
theorem V9 {o:Op} (hk:kindOf o=1) {e:Env} {H:Heap} {d:Nat} (hd:H d=none) (row:Row) {c:Prop} {x:AV} (h:rd T G ⟨e,H⟩ o=some (c,x)):rd T G ⟨e,aL H d row⟩ o=some (c,x):=by
 have key:∀ r y,H r=some y->aL H d row r=some y:=fun r y hr=>by
  unfold aL;split
  .rename_i hh;subst hh;rw[hd]at hr;cases hr
  .exact hr
 have kl:∀ t v,ko T H t v=some (c,x)->ko T (aL H d row) t v=some (c,x):=fun t v h=>by
  unfold ko at h ⊢;split at h
  .exact h
  .split at h
   .rename_i hr;simp only[key _ _ hr];exact h
   .rename_i hr;simp only[key _ _ hr];exact h
   .cases h
   .cases h
   .cases h
  .cases h
 have km:∀ t b v u,ac6 T H t b v u=some (c,x)->ac6 T (aL H d row) t b v u=some (c,x):=fun t b v u h=>by
  unfold ac6 at h ⊢;split at h
  .split at h
   .rename_i hr h2;simp only[key _ _ hr,h2];exact h
   .cases h
  .exact h
  .cases h
 have ki:∀ t v u,ado T H t v u=some (c,x)->ado T (aL H d row) t v u=some (c,x):=fun t v u h=>by
  unfold ado at h ⊢;split at h
  .exact h
  .split at h
   .rename_i h1 hr;simp only[h1,key _ _ hr];exact h
   .rename_i h1 hr;simp only[h1,key _ _ hr];exact h
   .cases h
  .exact h
  .exact h
  .cases h
 have ks:∀ t v l u,nv T H t v l u=some (c,x)->nv T (aL H d row) t v l u=some (c,x):=fun t v l u h=>by
  unfold nv at h ⊢;dsimp only at h ⊢;split at h
  .exact h
  .exact h
  .split at h
   .rename_i h1 hr;simp only[h1,key _ _ hr];exact h
   .cases h
  .cases h
 cases o
 case load t y=>
  simp only[rd,Option.bind_eq_some_iff]at h ⊢;obtain⟨v,h1,h2⟩:=h;exact⟨v,h1,kl t v h2⟩
 case indexAddr t y z=>
  simp only[rd]at h ⊢;split at h
  .exact ki _ _ _ h
  .cases h
 case slice t y lo hi mx=>
  simp only[rd]at h ⊢;split at h
  .rename_i fc;rw[if_pos fc];split at h
   .exact ks _ _ _ _ h
   .cases h
  .cases h
 case lookup t y z b=>
  simp only[rd]at h ⊢;split at h
  .exact km _ _ _ _ h
  .cases h
 case call cc=>
  obtain⟨callee,args,argTypes⟩:=cc
  cases callee with
  | builtin b=>cases b<;>simp[kindOf]at hk
  | _=>simp[kindOf]at hk
 all_goals (simp[kindOf]at hk)
theorem s8 {f g:AV->Option D} (h:∀ x y,f x=some y->g x=some y):∀ {l:List AV} {ys:List D},iq f l=some ys->iq g l=some ys
 | [],_,hh=>hh
 | x :: l,ys,hh=>by
  simp only[iq]at hh ⊢
  cases hf:f x with
  | none=>simp[hf]at hh
  | some y=>
   cases hl:iq f l with
   | none=>simp[hf,hl]at hh
   | some zs=>
    simp only[hf,hl]at hh;rw[h x y hf,s8 h hl];exact hh
theorem Mz {H:Heap} {d:Nat} (hd:H d=none) (row:Row):∀ (k:Nat) (x:AV) (y:D),dU H k x=some y->dU (aL H d row) k x=some y:=by
 have key:∀ r y,H r=some y->aL H d row r=some y:=fun r y hr=>by
  unfold aL;split
  .rename_i hh;subst hh;rw[hd]at hr;cases hr
  .exact hr
 intro k
 induction k with
 | zero=>intro x y h;cases x<;>simp only[dU]at h ⊢<;>first | exact h | cases h
 | succ k ih=>
  intro x y h
  cases x with
  | d x=>simpa only[dU]using h
  | own r off n=>
   simp only[dU]at h ⊢;split at h
   .rename_i hr;rw[key _ _ hr];exact h
   .cases h
  | ref r e j=>
   simp only[dU]at h ⊢;split at h
   .rename_i hr;rw[key _ _ hr];dsimp only;split at h
    .rename_i he;rw[if_pos he];obtain⟨ys,h1,h2⟩:=Option.map_eq_some_iff.1 h;exact Option.map_eq_some_iff.2 ⟨ys,s8 ih h1,h2⟩
    .cases h
   .cases h
  | agg cells=>simp only[dU]at h ⊢;obtain⟨ys,h1,h2⟩:=Option.map_eq_some_iff.1 h;exact Option.map_eq_some_iff.2 ⟨ys,s8 ih h1,h2⟩
  | tup cells=>simp only[dU]at h ⊢;obtain⟨ys,h1,h2⟩:=Option.map_eq_some_iff.1 h;exact Option.map_eq_some_iff.2 ⟨ys,s8 ih h1,h2⟩
  | fn f cells=>simp only[dU]at h ⊢;obtain⟨ys,h1,h2⟩:=Option.map_eq_some_iff.1 h;exact Option.map_eq_some_iff.2 ⟨ys,s8 ih h1,h2⟩
  | bA t x=>simp only[dU]at h ⊢;obtain⟨ys,h1,h2⟩:=Option.map_eq_some_iff.1 h;exact Option.map_eq_some_iff.2 ⟨ys,ih _ _ h1,h2⟩
  | mp r=>
   simp only[dU]at h ⊢;split at h
   .rename_i hr;rw[key _ _ hr];exact h
   .cases h
  | bm g x=>simp only[dU]at h;cases h
  | dead=>simp only[dU]at h;cases h
theorem Ex.grow {o:Oper} (hk:kindOf o.op=1\/kindOf o.op=2) {e:Env} {H H':Heap} {x:AV} (h:Ex P T Mv G o e H x H') {d:Nat} (hd:H d=none) (row:Row):Ex P T Mv G o e (aL H d row) x (aL H d row):=by
 unfold Ex at h ⊢;split at h
 .rename_i c hc;(try simp only[hc]);obtain⟨y,⟨g,xs,ht,dG⟩,h2,_⟩:=h;refine⟨y,⟨g,xs,ht,?_⟩,h2,by trivial⟩
  rcases dG with h | ⟨ds,h3,h4,h5⟩
  .exact .inl h
  .exact .inr ⟨ds,s8 (Mz hd row 4) h3,h4,h5⟩
 .rename_i hc;(try simp only[hc]);split at h
  .rename_i hw
   rcases zg hw with h' | h' | h'<;>omega
  .rename_i hw;rw[if_neg hw];obtain⟨c,h1,h2,_⟩:=h
   rcases hk with hk | hk
   .exact⟨c,V9 hk hd row h1,h2,by trivial⟩
   .exfalso;obtain⟨dst,op,type,pos,after,guard⟩:=o;dsimp only at hk hc;unfold kindOf at hk
    split at hk<;>first | omega | skip
    .have:=DD ‹_›;omega
    .simp[cz]at hc
theorem Ex.free {o:Oper} (hk:kindOf o.op=0) {e:Env} {H H':Heap} {x:AV} (h:Ex P T Mv G o e H x H') (H2:Heap):Ex P T Mv G o e H2 x H2:=by
 unfold Ex at h ⊢;split at h
 .rename_i c hc;have:=(qt hc).2;omega
 .rename_i hc;(try simp only[hc]);split at h
  .rename_i hw
   rcases zg hw with h' | h' | h'<;>omega
  .rename_i hw;rw[if_neg hw];obtain⟨c,h1,h2,_⟩:=h;exact⟨c,by rw[J6 hk H2 H];exact h1,h2,by trivial⟩
theorem Ex.makes {o:Oper} (hk:kindOf o.op=3) {e:Env} {H H':Heap} {x:AV} (h:Ex P T Mv G o e H x H'):∃ d row,o.dst=some d/\H d=none/\H'=aL H d row/\∀ H2,H2 d=none->Ex P T Mv G o e H2 x (aL H2 d row):=by
 obtain⟨dst,op,type,pos,after,guard⟩:=o;dsimp only at hk;unfold Ex at h;unfold Ex
 have hc:cz op=none:=by
  cases bW:cz op with
  | none=>rfl
  | some c=>have:=(qt bW).2;omega
 simp only[hc]at h ⊢
 cases op<;>simp only[kindOf]at hk<;>first | omega | skip
 case load t y=>have:=DD y;omega
 case alloc t=>
  simp only[eD,if_true]at h ⊢;obtain⟨c,h1,h2⟩:=h
  cases dst with
  | none=>cases h1
  | some d=>
   simp only[wr]at h1 ⊢;split at h1
   .simp only[Option.some.injEq,Prod.mk.injEq,St.mk.injEq,true_and]at h1;obtain⟨rfl,rfl,rfl⟩:=h1;exact⟨d,_,rfl,h2,rfl,fun H2 h=>⟨_,rfl,h⟩⟩
   .cases h1
 case box t y=>
  simp only[eD,if_true]at h ⊢;obtain⟨c,h1,h2⟩:=h
  cases dst with
  | none=>cases h1
  | some d=>
   simp only[wr]at h1 ⊢;split at h1
   .simp only[Option.some.injEq,Prod.mk.injEq,St.mk.injEq,true_and]at h1;obtain⟨rfl,rfl,rfl⟩:=h1;exact⟨d,_,rfl,h2,rfl,fun H2 h=>⟨_,rfl,h⟩⟩
   .cases h1
 case makeSlice t y z=>
  simp only[eD,if_true]at h ⊢;obtain⟨c,h1,h2⟩:=h
  cases dst with
  | none=>cases h1
  | some d=>
   simp only[wr]at h1 ⊢;split at h1
   .split at h1
    .split at h1
     .simp only[Option.some.injEq,Prod.mk.injEq,St.mk.injEq,true_and]at h1;obtain⟨rfl,rfl,rfl⟩:=h1;exact⟨d,_,rfl,h2.1,rfl,fun H2 h=>⟨_,rfl,h,h2.2⟩⟩
     .cases h1
    .cases h1
   .cases h1
 case buildSlice t n ps=>
  simp only[eD,if_true]at h ⊢;obtain⟨c,h1,h2⟩:=h
  cases dst with
  | none=>cases h1
  | some d=>
   simp only[wr]at h1 ⊢;split at h1
   .split at h1
    .split at h1
     .split at h1
      .simp only[Option.some.injEq,Prod.mk.injEq,St.mk.injEq,true_and]at h1;obtain⟨rfl,rfl,rfl⟩:=h1;exact⟨d,_,rfl,h2.1,rfl,fun H2 h=>⟨_,rfl,h,h2.2⟩⟩
      .cases h1
     .cases h1
    .cases h1
   .cases h1
 case makeMap t rs=>
  simp only[eD,if_true]at h ⊢;obtain⟨c,h1,h2⟩:=h
  cases dst with
  | none=>cases rs<;>cases h1
  | some d=>
   cases rs with
   | some _=>cases h1
   | none=>
    simp only[wr]at h1 ⊢;simp only[Option.some.injEq,Prod.mk.injEq,St.mk.injEq,true_and]at h1;obtain⟨rfl,rfl,rfl⟩:=h1;exact⟨d,_,rfl,h2,rfl,fun H2 h=>⟨_,rfl,h⟩⟩
 case call cc=>
  obtain⟨callee,args,argTypes⟩:=cc
  cases callee with
  | builtin b=>cases b<;>simp at hk
  | _=>simp at hk
end
end Go.Av
namespace Go.Av
section
variable {P:Program} {T:Ty} {Mv X:Nat->Prop} {G:ao} {N:Fr} {ops:Array Oper}
def Sx (P:Program) (T:Ty) (Mv:Nat->Prop) (G:ao) (N:Fr) (ops:Array Oper) (o:Oper) (e:Env) (H:Heap) (x:AV) (H':Heap):Prop:=
 abF N o/\((fQ ops e o=some true/\Ex P T Mv G o e H x H')\/(fQ ops e o=some false/\x=cC/\H'=H))
theorem iF {o:Oper} {t:Tmp} (h:Operand.tmp t∈o.op.operands):t∈o.looksAt ops:=
 List.mem_append_left _ (List.mem_filterMap.2 ⟨.tmp t,by simpa using h,rfl⟩)
theorem Au {o:Oper} {e e':Env} (h:∀ t∈o.looksAt ops,e t=e' t):fQ ops e o=fQ ops e' o:=by
 unfold fQ;split
 .rfl
 .rename_i j want hg;unfold afe;split
  .rename_i d hd;rw[h d (List.mem_append_right _ (by simp[hg,hd]))]
  .rfl
theorem ace {x y:Oper} (h:x.apart ops y=true) {e:Env} {v:AV}:(∀ t∈y.looksAt ops,aD e x.dst v t=e t)/\(∀ t∈x.looksAt ops,aD e y.dst v t=e t)/\(∀ d,x.dst=some d->y.dst≠some d):=by
 obtain⟨h1,h2,h3⟩:=Oper.apart_spec h;exact⟨fun t ht=>J4 fun e=>h1 t e ht,fun t ht=>J4 fun e=>h3 t e ht,h2⟩
theorem kinds (o:Op):kindOf o=0\/kindOf o=1\/kindOf o=2\/kindOf o=3\/kindOf o=8\/kindOf o=9:=by unfold kindOf;split<;>simp
theorem aes {q p:Oper} (hc:acf ops q p=true) {e:Env} {H H1 H2:Heap} {x y:AV} (hq:Sx P T Mv G N ops q e H x H1) (hp:Sx P T Mv G N ops p (aD e q.dst x) H1 y H2) (Hw:kindOf q.op≠9) (Hx:kindOf p.op≠9) :
  ∃ H3,Sx P T Mv G N ops p e H y H3/\Sx P T Mv G N ops q (aD e p.dst y) H3 x H2:=by
 simp only[acf,Bool.and_eq_true]at hc;obtain⟨eX,fX⟩:=hc;obtain⟨a1,_,aO⟩:=ace eX (e:=e) (v:=x);obtain⟨_,a2,_⟩:=ace eX (e:=e) (v:=y);have wp:=Au (o:=p) (e:=aD e q.dst x) (e':=e) a1;have wq:=Au (o:=q) (e:=aD e p.dst y) (e':=e) a2;have Fw:fA p.op (aD e q.dst x) e:=fun t ht=>a1 t (iF ht);have Fx:fA q.op e (aD e p.dst y):=fun t ht=>(a2 t (iF ht)).symm;obtain⟨dq,hq⟩:=hq;obtain⟨dp,hp⟩:=hp;rw[wp]at hp
 rcases hq with⟨lC,eq⟩ | ⟨lC,rfl,rfl⟩
 .rcases hp with⟨sV,ep⟩ | ⟨sV,rfl,rfl⟩
  .have ep':=ep.congr Hx Fw;have vr:=eq.congr Hw Fx
   have fin:∀ H3,Ex P T Mv G p e H y H3->Ex P T Mv G q (aD e p.dst y) H3 x H2->∃ H3,Sx P T Mv G N ops p e H y H3/\Sx P T Mv G N ops q (aD e p.dst y) H3 x H2:=fun H3 h1 h2=>
    ⟨H3,⟨dp,.inl ⟨sV,h1⟩⟩,⟨dq,.inl ⟨by rw[wq];exact lC,h2⟩⟩⟩
   by_cases Sg:kindOf p.op=0
   .obtain rfl:=ep'.keeps (by omega);exact fin H (ep'.free Sg H) vr
   .by_cases Sh:kindOf q.op=0
    .obtain rfl:=eq.keeps (by omega);exact fin H2 ep' (vr.free Sh H2)
    .by_cases kk:kindOf q.op<=2/\kindOf p.op<=2
     .obtain rfl:=eq.keeps kk.1;obtain rfl:=ep'.keeps kk.2;exact fin _ ep' vr
     .by_cases k3:kindOf q.op=3/\kindOf p.op=3
      .obtain⟨d,row,hd,hn,rfl,bB⟩:=vr.makes k3.1;obtain⟨d',agQ,gL,kI,rfl,B5⟩:=ep'.makes k3.2;have cN:d≠d':=fun e=>aO d hd (by rw[gL,e])
       have kh:H d'=none:=by simpa[aL,Ne.symm cN]using kI
       have:aL (aL H d row) d' agQ=aL (aL H d' agQ) d row:=by
        funext i;by_cases h1:i=d<;>by_cases h2:i=d'<;>simp[aL,h1,h2,cN,Ne.symm cN]
       exact fin _ (B5 H kh) (by rw[this];exact bB _ (by simpa[aL,cN]using hn))
      .by_cases zi:(kindOf q.op=1\/kindOf q.op=2)/\kindOf p.op=3
       .obtain rfl:=eq.keeps (by omega);obtain⟨d,row,hd,hn,rfl,bB⟩:=ep'.makes zi.2;exact fin _ ep' (vr.grow zi.1 hn row)
       exfalso
       revert fX
       have c1:kindOf q.op=1\/kindOf q.op=2\/kindOf q.op=3\/kindOf q.op=8:=by have:=kinds q.op;omega
       have c2:kindOf p.op=1\/kindOf p.op=2\/kindOf p.op=3\/kindOf p.op=8:=by have:=kinds p.op;omega
       rcases c1 with c1 | c1 | c1 | c1<;>rcases c2 with c2 | c2 | c2 | c2<;>rw[c1,c2]<;>first | (simp[pr];done) | (exfalso;apply kk;omega) | (exfalso;exact k3 ⟨c1,c2⟩) | (exfalso;exact zi ⟨.inl c1,c2⟩) | (exfalso;exact zi ⟨.inr c1,c2⟩)
  .exact⟨H,⟨dp,.inr ⟨sV,rfl,rfl⟩⟩,⟨dq,.inl ⟨by rw[wq];exact lC,eq.congr Hw Fx⟩⟩⟩
 .rcases hp with⟨sV,ep⟩ | ⟨sV,rfl,rfl⟩
  .exact⟨H2,⟨dp,.inl ⟨sV,ep.congr Hx Fw⟩⟩,⟨dq,.inr ⟨by rw[wq];exact lC,rfl,rfl⟩⟩⟩
  .exact⟨_,⟨dp,.inr ⟨sV,rfl,rfl⟩⟩,⟨dq,.inr ⟨by rw[wq];exact lC,rfl,rfl⟩⟩⟩
def run (P:Program) (T:Ty) (Mv:Nat->Prop) (G:ao) (N:Fr) (ops:Array Oper):List Nat->St->St->Prop
 | [],σ,aw=>σ=aw
 | i :: l,σ,aw=>∃ o,ops[i]? = some o/\∃ aI,sP P T Mv G N ops o σ aI/\run P T Mv G N ops l aI aw
theorem pA {o:Oper} (hk:kindOf o.op≠9) {σ aw:St}:sP P T Mv G N ops o σ aw↔∃ x H',Sx P T Mv G N ops o σ.env σ.H x H'/\aw=⟨aD σ.env o.dst x,H'⟩:=by
 constructor
 .rintro⟨hd,⟨hw,h⟩ | ⟨hw,rfl⟩⟩
  .obtain⟨x,H',h1,h2⟩:=Ex.of hk h;exact⟨x,H',⟨hd,.inl ⟨hw,h1⟩⟩,h2⟩
  .exact⟨cC,σ.H,⟨hd,.inr ⟨hw,rfl,rfl⟩⟩,rfl⟩
 .rintro⟨x,H',⟨hd,⟨hw,h⟩ | ⟨hw,rfl,rfl⟩⟩,rfl⟩
  .exact⟨hd,.inl ⟨hw,h.to⟩⟩
  .exact⟨hd,.inr ⟨hw,rfl⟩⟩
theorem WY {i j:Nat} {l:List Nat} {σ aw:St} {oi oj:Oper} (hi:ops[i]? = some oi) (hj:ops[j]? = some oj) (hc:acf ops oi oj=true) (h:run P T Mv G N ops (i :: j :: l) σ aw):run P T Mv G N ops (j :: i :: l) σ aw:=by
 obtain⟨o1,h1,aI,s1,o2,h2,eL,s2,rest⟩:=h;rw[hi]at h1;rw[hj]at h2;obtain rfl:=Option.some.inj h1;obtain rfl:=Option.some.inj h2
 have hk:kindOf oi.op≠9:=by
  intro e;simp only[acf,Bool.and_eq_true,e]at hc;have:=hc.2
  revert this
  have b2:kindOf oj.op=0\/kindOf oj.op=1\/kindOf oj.op=2\/kindOf oj.op=3\/kindOf oj.op=8\/kindOf oj.op=9:=by unfold kindOf;split<;>simp
  rcases b2 with b | b | b | b | b | b<;>rw[b]<;>simp[pr]
 have eA:kindOf oj.op≠9:=by
  intro e;simp only[acf,Bool.and_eq_true,e]at hc;have:=hc.2
  revert this
  have b2:kindOf oi.op=0\/kindOf oi.op=1\/kindOf oi.op=2\/kindOf oi.op=3\/kindOf oi.op=8\/kindOf oi.op=9:=by unfold kindOf;split<;>simp
  rcases b2 with b | b | b | b | b | b<;>rw[b]<;>simp[pr]
 obtain⟨x,H1,e1,rfl⟩:=(pA hk).1 s1;obtain⟨y,H2,e2,rfl⟩:=(pA eA).1 s2;obtain⟨H3,f1,f2⟩:=aes hc e1 e2 hk eA;refine⟨oj,hj,_,(pA eA).2 ⟨y,H3,f1,rfl⟩,oi,hi,_,(pA hk).2 ⟨x,H2,f2,rfl⟩,?_⟩
 have P0:aD (aD σ.env oi.dst x) oj.dst y=aD (aD σ.env oj.dst y) oi.dst x:=by
  simp only[acf,Bool.and_eq_true]at hc;exact fG (ace hc.1 (e:=σ.env) (v:=x)).2.2
 dsimp only at rest ⊢;rw[P0]at rest;exact rest
theorem WW {p:Nat} {op:Oper} (hp:ops[p]? = some op):∀ (l1:List Nat) {l2:List Nat} {σ aw:St},(∀ q∈l1,∀ oq,ops[q]? = some oq->acf ops oq op=true)->run P T Mv G N ops (l1 ++ p :: l2) σ aw->run P T Mv G N ops (p :: (l1 ++ l2)) σ aw:=by
 intro l1
 induction l1 with
 | nil=>intro l2 σ aw _ h;exact h
 | cons q l1 ih=>
  intro l2 σ aw bB h;obtain⟨oq,hq,aI,s1,rest⟩:=h;have:=ih (fun q' hq'=>bB q' (by simp[hq'])) rest;have h2:run P T Mv G N ops (q :: p :: (l1 ++ l2)) σ aw:=⟨oq,hq,aI,s1,this⟩;exact WY hq hp (bB q (by simp) oq hq) h2
theorem EX:∀ (l:List Oper) (acc:List Nat) (k:Nat),k < acc.length->(adO l acc).getD k 0=acc.getD k 0
 | [],_,_,_=>rfl
 | o :: l,acc,k,hk=>by
  rw[adO,EX l _ k (by simp;omega)];simp[List.getD_eq_getElem?_getD,List.getElem?_append_left hk]
theorem MY {acc:List Nat} {o:Oper} {q:Nat} (h:(bitsOf acc o).testBit q=true):∃ e∈o.after,Region.binds .any e=true/\(q=e.on\/(acc.getD e.on 0).testBit q=true):=by
 unfold bitsOf at h
 have key:∀ (l:List Edge),(l.foldr (fun e s=>if Region.binds .any e then (2 ^ e.on ||| acc.getD e.on 0) ||| s else s) 0).testBit q=true->∃ e∈l,Region.binds .any e=true/\(q=e.on\/(acc.getD e.on 0).testBit q=true):=by
  intro l
  induction l with
  | nil=>intro h;simp at h
  | cons e l ih=>
   intro h;rw[List.foldr_cons]at h;split at h
   .rename_i hb;rw[Nat.testBit_or,Nat.testBit_or,Bool.or_eq_true,Bool.or_eq_true]at h
    rcases h with (h | h) | h
    .rw[Nat.testBit_two_pow]at h
     have h':e.on=q:=by simpa using h
     exact⟨e,by simp,hb,.inl h'.symm⟩
    .exact⟨e,by simp,hb,.inr h⟩
    .obtain⟨e',gV,r⟩:=ih h;exact⟨e',by simp[gV],r⟩
   .obtain⟨e',gV,r⟩:=ih h;exact⟨e',by simp[gV],r⟩
 obtain⟨e,he,r⟩:=key _ h;exact⟨e,by simpa using he,r⟩
theorem xF:∀ (l:List Oper) (acc:List Nat) (j:Nat) (o:Oper) (q:Nat),l[j]? = some o->((adO l acc).getD (acc.length+j) 0).testBit q=true->∃ e∈o.after,Region.binds .any e=true/\(q=e.on\/(e.on < acc.length+j/\((adO l acc).getD e.on 0).testBit q=true))
 | [],_,_,_,_,h,_=>by simp at h
 | o' :: l,acc,0,o,q,h,hb=>by
  simp at h;subst h;rw[adO,EX l _ _ (by simp)]at hb;simp[List.getD_eq_getElem?_getD]at hb;obtain⟨e,he,k8,r⟩:=MY hb;refine⟨e,he,k8,r.imp id fun r=>?_⟩
  have ay:e.on < acc.length:=by
   rcases Nat.lt_or_ge e.on acc.length with h | h
   .exact h
   .simp[List.getD_eq_getElem?_getD,List.getElem?_eq_none h]at r
  refine⟨by omega,?_⟩;rw[adO,EX l _ _ (by simp;omega)];simpa[List.getD_eq_getElem?_getD,List.getElem?_append_left ay]using r
 | o' :: l,acc,j+1,o,q,h,hb=>by
  have:=xF l (acc ++ [bitsOf acc o']) j o q (by simpa using h) (by rw[adO]at hb;simpa[Nat.add_assoc,Nat.add_comm 1 j]using hb);obtain⟨e,he,k8,r⟩:=this;refine⟨e,he,k8,r.imp id fun r=>?_⟩;rw[adO];exact⟨by have:=r.1;simp at this;omega,r.2⟩
theorem zN (h:adq ops=true) {j:Nat} {oj:Oper} (hj:ops[j]? = some oj):(∀ e∈oj.after,Region.binds .any e=true->e.on < j)/\
  ∀ i oi,i < j->ops[i]? = some oi->((tb ops).getD j 0).testBit i=true\/(acf ops oi oj=true/\acf ops oj oi=true):=by
 unfold adq at h;have h1:=List.all_eq_true.1 h j (List.mem_range.2 (Array.getElem?_eq_some_iff.1 hj).1);simp only[hj,Bool.and_eq_true]at h1;refine⟨fun e he hb=>?_,fun i oi hi b5=>?_⟩
 .have:=Array.all_eq_true_iff_forall_mem.1 h1.1 e he;simpa[hb]using this
 .have:=List.all_eq_true.1 h1.2 i (List.mem_range.2 hi);simpa[b5]using this
theorem MT (bJ:adq ops=true) {listed:Array Bool} (acJ:∀ j oj,ops[j]? = some oj->listed.getD j false=true->∀ e∈oj.after,Region.binds .any e=true->listed.getD e.on false=true) :
  ∀ (n j:Nat) (oj:Oper),j<=n->ops[j]? = some oj->(∀ e∈oj.after,Region.binds .any e=true->listed.getD e.on false=true)->∀ q,((tb ops).getD j 0).testBit q=true->listed.getD q false=true:=by
 intro n
 induction n with
 | zero=>
  intro j oj hj bw bB q hq
  have jt:j=0:=by omega
  subst jt;obtain⟨e,he,hb,_⟩:=xF ops.toList [] 0 oj q (by simpa using bw) (by simpa[tb]using hq);have:=(zN bJ bw).1 e he hb;omega
 | succ n ih=>
  intro j oj hj bw bB q hq;obtain⟨e,he,hb,r⟩:=xF ops.toList [] j oj q (by simpa using bw) (by simpa[tb]using hq)
  rcases r with rfl | ⟨_,r⟩
  .exact bB e he hb
  .have ay:=(zN bJ bw).1 e he hb
   have aaZ:e.on < ops.size:=by have:=(Array.getElem?_eq_some_iff.1 bw).1;omega
   exact ih e.on ops[e.on] (by omega) (by simp[aaZ]) (fun e' gV aT=>acJ e.on _ (by simp[aaZ]) (bB e he hb) e' gV aT) q (by simpa[tb]using r)
theorem Mm (hg:Good P T) (bJ:adq ops=true) {Q:Exit->St->Prop} {w0:World} {gm:Mu} {σn:St} (hQ:Q .normal σn):∀ (n:Nat) (R:List Nat) (listed:Array Bool) (w:World) (μ:Mu) (a:Act) (σ:St),R.length=n->R.Nodup->
  (∀ j,j∈R↔j < ops.size/\listed.getD j true=false)->listed.size=ops.size->(R.Pairwise (· < ·))->
  (∀ j oj,ops[j]? = some oj->listed.getD j false=true->∀ e∈oj.after,Region.binds .any e=true->listed.getD e.on false=true)->run P T Mv G N ops R σ σn->In w X G μ N a σ->Ev Mv w0 gm w μ->
  wpAnyIn (wd N.ro) 0 P .any ops (After Mv X G N w0 gm Q) n listed a w:=by
 intro n
 induction n with
 | zero=>
  intro R listed w μ a σ hl _ hR aK _ _ bR hi aJ;have:R=[]:=List.eq_nil_of_length_eq_zero hl;subst this
  have hr:Region.ready .any ops listed=[]:=by
   apply List.eq_nil_iff_forall_not_mem.2;intro j hj;obtain⟨h1,o,ho,_⟩:=mem_ready.1 hj;exact absurd ((hR j).2 ⟨(Array.getElem?_eq_some_iff.1 ho).1,h1⟩) (by simp)
  have:σ=σn:=bR;subst this;exact⟨hr,μ,σ,hQ,hi,aJ⟩
 | succ n ih=>
  intro R listed w μ a σ hl fe hR aK fL acJ bR hi aJ;refine⟨fun hr=>?_,fun i nc=>?_⟩
  .-- the first of the rest may come up
   cases R with
   | nil=>simp at hl
   | cons j R=>
    obtain⟨ia,hj2⟩:=(hR j).1 (by simp)
    have jN:j∈Region.ready .any ops listed:=by
     refine mem_ready.2 ⟨hj2,ops[j],by simp[ia],fun e he hb=>?_⟩;have ay:=(zN bJ (j:=j) (oj:=ops[j]) (by simp[ia])).1 e he hb
     have aO:e.on ∉ (j :: R):=by
      intro hm
      rcases List.mem_cons.1 hm with h | h
      .omega
      .have:=(List.pairwise_cons.1 fL).1 _ h;omega
     have:=mt (hR e.on).2 aO
     have aaZ:e.on < ops.size:=by omega
     have gX:e.on < listed.size:=by omega
     simp only[aaZ,true_and,Array.getD_eq_getD_getElem?]at this ⊢;simp[gX]at this ⊢;exact this
    rw[hr]at jN;cases jN
  .obtain⟨cO,oi,b5,bB⟩:=mem_ready.1 nc;have na:i∈R:=(hR i).2 ⟨(Array.getElem?_eq_some_iff.1 b5).1,cO⟩;obtain⟨R1,R2,rfl⟩:=List.append_of_mem na
   have mZ:=WW (P:=P) (T:=T) (Mv:=Mv) (G:=G) (N:=N) b5 R1 (fun q hq oq jR=>by
    have Rh:q < i:=by
     have:=(List.pairwise_append.1 fL).2.2 q hq i (by simp);exact this
    rcases (zN bJ b5).2 q oq Rh jR with h | h
    .exfalso;have jO:=MT bJ acJ i i oi (Nat.le_refl _) b5 bB q h;have dY:=((hR q).1 (by simp[hq])).2
     have nh:q < listed.size:=by have:=(Array.getElem?_eq_some_iff.1 jR).1;omega
     simp[Array.getD_eq_getD_getElem?,nh]at jO dY;rw[jO]at dY;cases dY
    .exact h.1) bR
   obtain⟨o',eO,aI,hstep,bt⟩:=mZ;rw[b5]at eO;obtain rfl:=Option.some.inj eO;refine uW hg hstep hi b5 fun w' ax a' aF iP=>?_
   have nd:(R1 ++ R2).Nodup:=by
    have:=fe;rw[List.nodup_append]at this ⊢;obtain⟨g1,g2,g3⟩:=this;exact⟨g1,(List.nodup_cons.1 g2).2,fun x hx y hy=>g3 x hx y (by simp[hy])⟩
   have ady:i ∉ R1 ++ R2:=by
    have:=fe;rw[List.nodup_append]at this;obtain⟨g1,g2,g3⟩:=this;intro hm
    rcases List.mem_append.1 hm with h | h
    .exact g3 i h i (by simp) rfl
    .exact (List.nodup_cons.1 g2).1 h
   refine ih (R1 ++ R2) _ w' ax a' aI (by simp at hl ⊢;omega) nd (fun j=>?_) (by simpa using aK) ?_ ?_ bt aF (aJ.trans iP)
   .by_cases hji:j=i
    .subst hji
     have gX:j < listed.size:=by rw[aK];exact (Array.getElem?_eq_some_iff.1 b5).1
     simp[gX];simpa using ady
    .rw[getD_set_ne true (Ne.symm hji)];rw[<- hR j];simp[hji]
   .rw[List.pairwise_append]at fL ⊢;obtain⟨g1,g2,g3⟩:=fL;exact⟨g1,(List.pairwise_cons.1 g2).2,fun x hx y hy=>g3 x hx y (by simp[hy])⟩
   .intro j oj bw dH e he hb;by_cases hji:j=i
    .subst hji;rw[b5]at bw;obtain rfl:=Option.some.inj bw;exact getD_set_true (bB e he hb)
    .rw[getD_set_ne false (Ne.symm hji)]at dH;exact getD_set_true (acJ j oj bw dH e he hb)
def qQ (P:Program) (T:Ty) (Mv:Nat->Prop) (G:ao) (N:Fr) (ops:Array Oper) (K:St->Prop):List Oper->St->Prop
 | [],σ=>K σ
 | o :: rest,σ=>abF N o/\match fQ ops σ.env o with
  | some b=>if b=true then (match cz o.op with
    | some c=>∃ y,vn P G σ c y/\qQ P T Mv G N ops K rest ⟨aD σ.env o.dst (.d y),σ.H⟩
    | none=>adi T G Mv o σ (qQ P T Mv G N ops K rest)) else qQ P T Mv G N ops K rest ⟨aD σ.env o.dst cC,σ.H⟩
  | none=>False
theorem XI {K:St->Prop}:∀ (l:List Oper) (k:Nat) (σ:St),(∀ j,l[j]? = ops[k+j]?)->qQ P T Mv G N ops K l σ->∃ σn,K σn/\run P T Mv G N ops (List.range' k l.length) σ σn:=by
 intro l
 induction l with
 | nil=>intro k σ _ h;exact⟨σ,h,rfl⟩
 | cons o l ih=>
  intro k σ hl h
  have h0:ops[k]? = some o:=by simpa using (hl 0).symm
  have eG:∀ j,l[j]? = ops[k+1+j]?:=fun j=>by have:=hl (j+1);simpa[Nat.add_assoc,Nat.add_comm 1 j]using this
  obtain⟨hd,h⟩:=h;rw[List.length_cons,List.range'_succ]
  have fin:∀ aI,sP P T Mv G N ops o σ aI->qQ P T Mv G N ops K l aI->∃ σn,K σn/\run P T Mv G N ops (k :: List.range' (k+1) l.length) σ σn:=by
   intro aI hs hq;obtain⟨σn,hk,hr⟩:=ih (k+1) aI eG hq;exact⟨σn,hk,o,h0,aI,hs,hr⟩
  split at h
  .rename_i b hb;split at h
   .rename_i oU;subst oU;split at h
    .rename_i c hc;obtain⟨y,hy,h⟩:=h;refine fin _ ⟨hd,.inl ⟨hb,?_⟩⟩ h;unfold kC;simp only[hc];exact⟨y,hy,rfl⟩
    .rename_i hc;unfold adi at h;split at h
     .rename_i hw;split at h
      .rename_i c x aI h1;refine fin _ ⟨hd,.inl ⟨hb,?_⟩⟩ h.2;unfold kC;simp only[hc];rw[if_pos hw];exact⟨c,x,aI,h1,h.1,rfl⟩
      .exact h.elim
     .rename_i hw;split at h
      .rename_i c x h1;refine fin _ ⟨hd,.inl ⟨hb,?_⟩⟩ h.2;unfold kC;simp only[hc];rw[if_neg hw];exact⟨c,x,h1,h.1,rfl⟩
      .exact h.elim
   .rename_i vW
    have:b=false:=by simpa using vW
    subst this;exact fin _ ⟨hd,.inr ⟨hb,rfl⟩⟩ h
  .exact h.elim
theorem LZ (hg:Good P T) (hm:P.follows .mixedOrders=true) {id:Nat} (bJ:adq ops=true) {Q:Exit->St->Prop} {σ:St} (h:qQ P T Mv G N ops (fun aw=>Q .normal aw) ops.toList σ):AW P Mv X G N (.region id ops true) Q σ:=fun w μ a hi=>by
 obtain⟨σn,hQ,bR⟩:=XI ops.toList 0 σ (by simp) h;refine wpIn_region_any hm ?_;obtain⟨aF,aJ⟩:=hi.j7 (Mv:=Mv) (bY.drew w);refine Mm hg bJ hQ ops.size (List.range' 0 ops.toList.length) _ w.drew μ a σ (by simp) (by simpa using List.nodup_range') (fun j=>?_) (by simp) (by simpa using List.pairwise_lt_range') ?_ bR aF aJ
 .simp[List.mem_range'_1];intro h;simp[Array.getD_eq_getD_getElem?,h]
 .intro j oj bw dH;have hj:=(Array.getElem?_eq_some_iff.1 bw).1;simp[Array.getD_eq_getD_getElem?,hj]at dH
end
def cW (P:Program) (t:TypeId):Bool:=!P.stoodInHeld t && !P.eqGuardType P.depth t
def aaQ (P:Program):Ty:=fun t=>match P.underlying t,P.info? t with
 | some d,some i=>i.zero.map fun z=>⟨d,i.size,i.bytes,z,cW P t⟩
 | _,_=>none
theorem aay (P:Program):Good P (aaQ P):=by
 intro t ti h;unfold aaQ at h;split at h
 .rename_i d i hd hi;obtain⟨z,hz,rfl⟩:=Option.map_eq_some_iff.1 h;exact⟨hd,i,hi,rfl,rfl,hz,fun h=>by unfold cW at h;simpa using h⟩
 .cases h
end Go.Av
namespace Go.Av
def aep:List Nat->Env->List (Nat×AV)
 | [],_=>[]
 | i :: l,e=>match e i with
  | some x=>(i,x) :: aep l e
  | none=>aep l e
section
variable {P:Program} {T:Ty} {Mv X:Nat->Prop} {G:ao} {N:Fr} {σ:St}
theorem aB.env {e e':Env} {H:Heap} (h:∀ i x,e' i=some x->e i=some x):aB Mv X G N ⟨e,H⟩ ⟨e',H⟩:=fun w μ _ hi=>
 ⟨μ,⟨hi.aY,⟨hi.env.defers,hi.env.size,fun i x hx=>hi.env.slot i x (h i x hx)⟩,hi.gq⟩,.refl _ w μ⟩
theorem DH {e:Env}:∀ {l:List Nat} {i:Nat} {x:AV},lst (aep l e) i=some x->e i=some x
 | [],_,_,h=>by simp[lst,aep]at h
 | j :: l,i,x,h=>by
  simp only[aep]at h;split at h
  .rename_i y hy;simp only[lst,List.lookup]at h;split at h
   .rename_i hij
    have:i=j:=by simpa using hij
    subst this;obtain rfl:=Option.some.inj h;exact hy
   .exact DH (l:=l) h
  .exact DH (l:=l) h
theorem ae {x y:Code} {Q:Exit->St->Prop} (h:∀ K:St->Prop,(∀ aw,AW P Mv X G N y Q aw->K aw)->AW P Mv X G N x (aM K Q) σ):AW P Mv X G N (.seq x y) Q σ:=adP (h _ fun _ h=>h)
theorem zy:∀ {l:List (Nat×AV)} {i:Nat} {x:AV},lst l i=some x->(i,x)∈l
 | [],_,_,h=>by simp[lst]at h
 | (j,y) :: l,i,x,h=>by
  simp only[lst,List.lookup]at h;split at h
  .rename_i hij
   have:i=j:=by simpa using hij
   subst this;obtain rfl:=Option.some.inj h;simp
  .exact List.mem_cons_of_mem _ (zy (l:=l) h)
theorem aB.lst {e:Env} {H:Heap} {l:List (Nat×AV)} (h:∀ p∈l,e p.1=some p.2):aB Mv X G N ⟨e,H⟩ ⟨lst l,H⟩:=aB.env fun i x hx=>h (i,x) (zy hx)
def aV (Mv X:Nat->Prop) (G:ao) (N:Fr) {S:Type} (I:S->Prop) (inv:S->St) (lk:S->Nat) (s:S) (σ:St):Prop:=∃ s',I s'/\lk s' < lk s/\aB Mv X G N σ (inv s')
theorem aV.mk {S:Type} {I:S->Prop} {inv:S->St} {lk:S->Nat} {s:S} (s':S) (hI:I s') (hm:lk s' < lk s) (h:aB Mv X G N σ (inv s')):aV Mv X G N I inv lk s σ:=⟨s',hI,hm,h⟩
theorem bZ {S:Type} {id:Nat} {c:Code} {Q:Exit->St->Prop} (I:S->Prop) (inv:S->St) (lk:S->Nat) (s0:S) (h0:aB Mv X G N σ (inv s0)) (hI:I s0)
  (round:∀ s,I s->AW P Mv X G N c (aM (aV Mv X G N I inv lk s) (aP id Q)) (inv s)):AW P Mv X G N (.block id (.loop c)) Q σ:=
 aU (LR (S:={s // I s}) (fun s=>inv s.1) (fun s=>lk s.1) ⟨s0,hI⟩ h0 fun s=>(round s.1 s.2).mono fun e τ q=>by
  cases e with
  | normal=>obtain⟨s',h1,h2,h3⟩:=q;exact⟨⟨s',h1⟩,h2,h3⟩
  | _=>exact q)
theorem dw {c:Operand} {x y:Code} {Q:Exit->St->Prop} {b:Prop} [Decidable b] (hc:bf G σ.env c=some (.d (.v (.bool (decide b))))) (ht:b->AW P Mv X G N x Q σ) (hf:¬ b->AW P Mv X G N y Q σ):AW P Mv X G N (.cond c x y) Q σ:=
 mH (decide b) hc (fun h=>ht (of_decide_eq_true h)) (fun h=>hf (of_decide_eq_false h))
end
end Go.Av
namespace Go.Av
def ae0 (l:List AV):AV:=match iI l with
 | some ds=>.d (.tup ds)
 | none=>.tup l
def AV.tr (o f:Nat->Nat->Nat->AV):AV->AV
 | .d x=>.d x
 | .own q off n=>o q off n
 | .ref q e j=>f q e j
 | .agg cells=>lZ (go o f cells)
 | .tup vs=>ae0 (go o f vs)
 | .bA t x=>wZ t (x.tr o f)
 | .fn g caps=>wY g (go o f caps)
 | .bm g x=>.bm g (x.tr o f)
 | .mp q=>match f q 0 0 with
  | .ref q' _ _=>.mp q'
  | _=>.dead
 | .dead=>.dead
where
 go (o f:Nat->Nat->Nat->AV):List AV->List AV
 | []=>[]
 | x :: l=>x.tr o f :: go o f l
theorem AV.uZ (o f:Nat->Nat->Nat->AV) (l:List AV):AV.tr.go o f l=l.map (AV.tr o f):=by
 induction l with
 | nil=>rfl
 | cons x l ih=>simp[AV.tr.go,ih]
def Row.tr (o f:Nat->Nat->Nat->AV):Row->Row
 | .sl ty sz els=>.sl ty sz els
 | .box ty cells=>.box ty (cells.map (AV.tr o f))
 | .mp ty ents=>.mp ty ents
 | .it ents seen=>.it ents seen
def trE (o f:Nat->Nat->Nat->AV) (e:Env):Env:=fun i=>(e i).map (AV.tr o f)
def trH (keep:Nat->Bool) (o f:Nat->Nat->Nat->AV) (H:Heap):Heap:=fun r=>if keep r then (H r).map (Row.tr o f) else none
def bL (keep:Nat->Bool) (μ:Mu):Mu:=fun r=>if keep r then μ r else none
section
variable {P:Program} {T:Ty} {Mv X:Nat->Prop} {G:ao} {N:Fr} {w:World} {μ:Mu} {a:Act} {σ:St}
theorem zA {u:Value} {l:List AV} (h:RV w X μ u (.tup l)):RV w X μ u (ae0 l):=by
 unfold ae0;split
 .rename_i ds hd;rw[lF hd]at h;obtain⟨arr,rfl,hn,hr⟩:=h.u0;refine .d (.tup (by simpa using hn) fun j u c hu hc=>?_);exact (hr j u (.d c) hu (by rw[List.getElem?_map,hc];rfl)).data
 .exact h
theorem ab3 {keep:Nat->Bool} {r:Nat} {m:gn} (h:bL keep μ r=some m):keep r=true/\μ r=some m:=by
 unfold bL at h;split at h
 .rename_i hk;exact⟨hk,h⟩
 .cases h
theorem vf {keep:Nat->Bool} {b:Nat} (h:XX X (bL keep μ) b):XX X μ b:=h.elim .inl fun ⟨r,m,hr,hb⟩=>.inr ⟨r,m,(ab3 hr).2,hb⟩
theorem RV.tr {ax:Mu} {o f:Nat->Nat->Nat->AV} (hX:∀ b,XX X ax b->XX X μ b) (ho:∀ u r off n,RV w X μ u (.own r off n)->RV w X ax u (o r off n)) (hf:∀ u r e j,RV w X μ u (.ref r e j)->RV w X ax u (f r e j)) :
  ∀ {v:Value} {x:AV},RV w X μ v x->RV w X ax v (x.tr o f):=by
 intro v x hr
 induction hr with
 | d h'=>exact .d (h'.mono (Nat.le_refl _) fun b _ hb=>⟨rfl,fun e=>hb (hX b e)⟩)
 | own hm h'=>exact ho _ _ _ _ (.own hm h')
 | ref hm hb=>exact hf _ _ _ _ (.ref hm hb)
 | agg hn _ ih=>
  rw[AV.tr,AV.uZ];refine wX (.agg (by simpa using hn) fun j u c hu hc=>?_);rw[List.getElem?_map]at hc;obtain⟨c',cI,rfl⟩:=Option.map_eq_some_iff.1 hc;exact ih j u c' hu cI
 | tup hn _ ih=>
  rw[AV.tr,AV.uZ];refine zA (.tup (by simpa using hn) fun j u c hu hc=>?_);rw[List.getElem?_map]at hc;obtain⟨c',cI,rfl⟩:=Option.map_eq_some_iff.1 hc;exact ih j u c' hu cI
 | bA _ ih=>exact DO ih
 | bm _ ih=>exact .bm ih
 | fn hn _ ih=>
  rw[AV.tr,AV.uZ];refine DN (by simpa using hn) fun j u c hu hc=>?_;rw[List.getElem?_map]at hc;obtain⟨c',cI,rfl⟩:=Option.map_eq_some_iff.1 hc;exact ih j u c' hu cI
 | mp hm hb=>
  rename_i r b m;have h0:=hf _ _ _ _ (RV.ref (e:=0) (j:=0) hm hb);unfold AV.tr;split
  .rename_i q' e' j' hq;rw[hq]at h0;obtain⟨m',b',bU,aT,e⟩:=h0.ie;simp only[Value.pointer.injEq,Option.some.injEq,Addr.mk.injEq]at e;obtain⟨rfl,_⟩:=e;exact .mp bU aT
  .exact .dead _
 | dead u=>exact .dead u
theorem rh {keep:Nat->Bool} (hk:∀ r m,μ r=some m->keep r=false->Mv r):Ev Mv w μ w (bL keep μ):=by
 refine⟨Nat.le_refl _,rfl,rfl,rfl,fun b hb hr=>⟨rfl,?_⟩,fun q mq hq hn=>?_⟩
 .rintro⟨q,mq,hq,hbq⟩;exact hr ⟨q,mq,(ab3 hq).2,hbq⟩
 .unfold bL
  cases h:keep q with
  | true=>simpa using hq
  | false=>exact absurd (hk q mq hq h) hn
theorem In.tr {keep:Nat->Bool} {o f:Nat->Nat->Nat->AV} (hi:In w X G μ N a σ) (ho:∀ u r off n,RV w X μ u (.own r off n)->RV w X (bL keep μ) u (o r off n)) (hf:∀ u r e j,RV w X μ u (.ref r e j)->RV w X (bL keep μ) u (f r e j)) :
  In w X G (bL keep μ) N a ⟨trE o f σ.env,trH keep o f σ.H⟩:=by
 have hX:∀ b,XX X (bL keep μ) b->XX X μ b:=fun b=>vf;have oN:∀ {u:Value} {x:D},RD w (XX X μ) u x->RD w (XX X (bL keep μ)) u x:=fun h=>h.mono (Nat.le_refl _) fun b _ hb=>⟨rfl,fun e=>hb (hX b e)⟩;have hRV:∀ {u:Value} {x:AV},RV w X μ u x->RV w X (bL keep μ) u (x.tr o f):=fun h=>RV.tr hX ho hf h
 refine⟨⟨fun r row hr=>?_,fun r m hr=>?_,fun q q' m1 m2 b h1 h2 cY dA=>hi.aY.inj q q' m1 m2 b (ab3 h1).2 (ab3 h2).2 cY dA,fun q mq b hq hb=>hi.aY.frame q mq b (ab3 hq).2 hb,hi.aY.fits⟩,
  ⟨hi.env.defers,hi.env.size,fun i x hx=>?_⟩,fun g x hx=>oN (hi.gq g x hx)⟩
 .replace hr:trH keep o f σ.H r=some row:=hr;unfold trH at hr;split at hr
  .rename_i hk;obtain⟨kU,h0,rfl⟩:=Option.map_eq_some_iff.1 hr;obtain⟨m,hm,ok⟩:=hi.aY.rows r kU h0;refine⟨m,by simp[bL,hk,hm],?_⟩
   cases ok with
   | nil h1 h2=>exact .nil h1 h2
   | sl h1 h2 h3 h4 h5 h6 h7 h8 h9=>exact .sl h1 h2 h3 h4 h5 h6 h7 h8 fun i j el c he hc=>let ⟨u,hu,hr⟩:=h9 i j el c he hc;⟨u,hu,oN hr⟩
   | box h1 h2 h3 h4 h5 h6 h7=>
    refine .box h1 rfl h3 h4 (by simpa using h5) (fun j u c hu hc=>?_) (by simpa using h7);rw[List.getElem?_map]at hc;obtain⟨c',cI,rfl⟩:=Option.map_eq_some_iff.1 hc;exact hRV (h6 j u c' hu cI)
   | mp h1 h2 h3 h4=>exact .mp h1 h2 h3 fun i e p he hp=>let ⟨a,b,c⟩:=h4 i e p he hp;⟨a,b,oN c⟩
   | it h1 h2 h3=>exact .it h1 h2 (oN h3)
  .cases hr
 .obtain⟨hk,hm⟩:=ab3 hr;obtain⟨row,cF⟩:=hi.aY.iu r m hm;exact⟨row.tr o f,by simp[trH,hk,cF]⟩
 .replace hx:trE o f σ.env i=some x:=hx;unfold trE at hx;obtain⟨x0,h0,rfl⟩:=Option.map_eq_some_iff.1 hx;obtain⟨u,hu,hr⟩:=hi.env.slot i x0 h0;exact⟨u,hu,hRV hr⟩
theorem RV.uK {keep:Nat->Bool} {u:Value} {r off n:Nat} (hk:keep r=true) (h:RV w X μ u (.own r off n)):RV w X (bL keep μ) u (.own r off n):=by
 obtain⟨m,hm,hh⟩:=h.jd;exact .own (by simp[bL,hk,hm]) hh
theorem RV.uO {keep:Nat->Bool} {u:Value} {r e j:Nat} (hk:keep r=true) (h:RV w X μ u (.ref r e j)):RV w X (bL keep μ) u (.ref r e j):=by
 obtain⟨m,b,hm,hb,rfl⟩:=h.ie;exact .ref (by simp[bL,hk,hm]) hb
def dD (ns:List Nat) (q off n:Nat):AV:=if ns.contains q then .own q off n else .dead
def abk (ns:List Nat) (q e j:Nat):AV:=if ns.contains q then .ref q e j else .dead
def qx:List Nat->Heap->List (Nat×Row)
 | [],_=>[]
 | r :: l,H=>match H r with
  | some row=>(r,row) :: qx l H
  | none=>qx l H
theorem aB.only (ns:List Nat) (hm:∀ r,ns.contains r=false->Mv r):aB Mv X G N σ ⟨trE (dD ns) (abk ns) σ.env,trH ns.contains (dD ns) (abk ns) σ.H⟩:=fun w μ a hi=>by
 refine⟨bL ns.contains μ,hi.tr (fun u r off n h=>?_) (fun u r e j h=>?_),rh fun r _ _ h=>hm r h⟩
 .unfold dD;split
  .rename_i hk;exact h.uK hk
  .exact .dead u
 .unfold abk;split
  .rename_i hk;exact h.uO hk
  .exact .dead u
theorem HB {H:Heap}:∀ {l:List Nat} {r:Nat},ak (qx l H) r=if l.contains r then H r else none
 | [],r=>by simp[ak,qx]
 | q :: l,r=>by
  have ih:=HB (H:=H) (l:=l) (r:=r);simp only[qx];split
  .rename_i row cF;simp only[ak,List.lookup,List.contains_cons];split
   .rename_i tX
    have:r=q:=by simpa using tX
    subst this;simp[cF]
   .rename_i tX;rw[tX,Bool.false_or];exact ih
  .rename_i cF;rw[ih,List.contains_cons];by_cases tX:r=q
   .subst tX;simp[cF]
   .simp[tX]
def St.norm (l ns:List Nat) (σ:St):St:=⟨lst (aep l (trE (dD ns) (abk ns) σ.env)),ak (qx ns (trH ns.contains (dD ns) (abk ns) σ.H))⟩
theorem QT {ns:List Nat} {o f:Nat->Nat->Nat->AV} {H:Heap}:ak (qx ns (trH ns.contains o f H))=trH ns.contains o f H:=by
 funext r;rw[HB];unfold trH;split<;>simp_all
theorem aB.norm (l ns:List Nat) (hm:∀ r,ns.contains r=false->Mv r):aB Mv X G N σ (σ.norm l ns):=by
 refine (aB.only ns hm).trans ?_;unfold St.norm;rw[QT];exact aB.env fun _ _=>DH
theorem aB.to {e:Env} {H:Heap} {l:List (Nat×AV)} {rows:List (Nat×Row)} (hm:∀ r,(rows.map (·.1)).contains r=false->Mv r) (he:∀ p∈l,(e p.1).map (AV.tr (dD (rows.map (·.1))) (abk (rows.map (·.1))))=some p.2)
  (hH:∀ r,ak rows r=trH (rows.map (·.1)).contains (dD (rows.map (·.1))) (abk (rows.map (·.1))) H r):aB Mv X G N ⟨e,H⟩ ⟨Go.Av.lst l,ak rows⟩:=by
 refine (aB.only (rows.map (·.1)) hm).trans ?_;have:ak rows=trH (rows.map (·.1)).contains (dD (rows.map (·.1))) (abk (rows.map (·.1))) H:=funext hH;rw[this];exact aB.env fun i x hx=>he (i,x) (zy hx)
theorem Ab {rows:List (Nat×Row)} {H:Heap} {o f:Nat->Nat->Nat->AV} (h:∀ p∈rows,(H p.1).map (Row.tr o f)=ak rows p.1):∀ r,ak rows r=trH (rows.map (·.1)).contains o f H r:=by
 intro r;unfold trH;split
 .rename_i hk;obtain⟨p,hp,rfl⟩:=List.mem_map.1 (List.contains_iff_mem.1 hk);exact (h p hp).symm
 .rename_i hk
  have:∀ l:List (Nat×Row),¬ (l.map (·.1)).contains r=true->ak l r=none:=by
   intro l
   induction l with
   | nil=>intro _;rfl
   | cons q l ih=>
    intro hc;simp only[List.map_cons,List.contains_cons,Bool.or_eq_true,not_or]at hc;simp only[ak,List.lookup];split
    .rename_i h1;exact absurd h1 hc.1
    .exact ih hc.2
  exact this rows hk
theorem aB.dK {e:Env} {H:Heap} {l:List (Nat×AV)} {rows:List (Nat×Row)} (hm:∀ r,(rows.map (·.1)).contains r=false->Mv r) (he:∀ p∈l,(e p.1).map (AV.tr (dD (rows.map (·.1))) (abk (rows.map (·.1))))=some p.2)
  (hH:∀ p∈rows,(H p.1).map (Row.tr (dD (rows.map (·.1))) (abk (rows.map (·.1))))=ak rows p.1):aB Mv X G N ⟨e,H⟩ ⟨Go.Av.lst l,ak rows⟩:=aB.to hm he (Ab hH)
def p4 (r:Nat) (els:List (List D)) (q off n:Nat):AV:=if q=r then (if off=0/\n=els.length then .d (.sl none els) else if off+n<=els.length then .d (.sl none ((els.drop off).take n)) else .dead) else .own q off n
def p3 (r:Nat) (q e j:Nat):AV:=if q=r then .dead else .ref q e j
def abE (r:Nat) (q:Nat):Bool:=!(q == r)
def St.freeze (r:Nat) (σ:St):St:=match σ.H r with
 | some (.sl _ _ els)=>⟨trE (p4 r els) (p3 r) σ.env,trH (abE r) (p4 r els) (p3 r) σ.H⟩
 | _=>σ
theorem aB.freeze (r:Nat) (hm:Mv r):aB Mv X G N σ (σ.freeze r):=fun w μ a hi=>by
 unfold St.freeze;split
 .rename_i ty sz els hr
  have o8:(fun q=>if q=r then none else μ q)=bL (abE r) μ:=by
   funext q;unfold bL abE;by_cases h:q=r<;>simp[h]
  refine⟨bL (abE r) μ,hi.tr (fun u q off n h=>?_) (fun u q e j h=>?_),rh fun q _ _ hq=>by
   have e:q=r:=by simpa[abE]using hq
   exact e ▸ hm⟩
  .unfold p4;split
   .rename_i hq;subst hq
    have hd:∀ {off n:Nat},RV w X μ u (.own q off n)->off+n<=els.length->RV w X (bL (abE q) μ) u (.d (.sl none ((els.drop off).take n))):=fun h hle=>by
     obtain⟨k,hk,_⟩:=zP hi.aY hr hle h;rw[o8]at hk;exact .d hk.nw
    split
    .rename_i h2;obtain⟨rfl,rfl⟩:=h2;have:=hd h (by omega);simpa using this
    .split
     .rename_i hle;exact hd h hle
     .exact .dead u
   .rename_i hq;exact h.uK (by simp[abE,hq])
  .unfold p3;split
   .exact .dead u
   .rename_i hq;exact h.uO (by simp[abE,hq])
 .exact⟨μ,hi,.refl _ w μ⟩
def yl (r:Nat) (ds:List D) (q e j:Nat):AV:=if q=r then (if e=0 then .d (.ip (ds.drop j)) else .dead) else .ref q e j
def ym (r:Nat) (q off n:Nat):AV:=if q=r then .dead else .own q off n
def St.nH (r:Nat) (σ:St):St:=match σ.H r with
 | some (.box _ cells)=>match iI cells with
  | some ds=>⟨trE (ym r) (yl r ds) σ.env,trH (abE r) (ym r) (yl r ds) σ.H⟩
  | none=>σ
 | _=>σ
theorem aB.nH (r:Nat) (hm:Mv r):aB Mv X G N σ (σ.nH r):=fun w μ a hi=>by
 unfold St.nH;split
 .rename_i ty cells hr;split
  .rename_i ds jo
   refine⟨bL (abE r) μ,hi.tr (fun u q off n h=>?_) (fun u q e j h=>?_),rh fun q _ _ hq=>by
    have e:q=r:=by simpa[abE]using hq
    exact e ▸ hm⟩
   .unfold ym;split
    .exact .dead u
    .rename_i hq;exact h.uK (by simp[abE,hq])
   .unfold yl;split
    .rename_i hq;subst hq;split
     .rename_i he;subst he;obtain⟨m,b,tQ,hb,rfl⟩:=h.ie;obtain⟨m',bU,ok⟩:=hi.aY.rows q _ hr;rw[tQ]at bU;obtain rfl:=Option.some.inj bU
      cases ok with
      | box aT aK acN hh hn iD ue=>
       rename_i b' cur;rw[hb]at aT;obtain rfl:=Option.some.inj aT;have abK:=lF jo
       have hlen:cells.length=ds.length:=by rw[abK,List.length_map]
       simp only[Nat.zero_mul,Nat.zero_add];refine .d (.ip (f:=fun i=>cur.getD (j+i) undef) ?_ (Array.getElem?_eq_some_iff.1 hh).1 (fun i hi'=>?_) fun i d gL=>?_)
       .rintro (hX | ⟨q',m',hq',PQ⟩)
        .exact hi.aY.frame q m b tQ hb hX
        .obtain⟨hk,QZ⟩:=ab3 hq';have:=hi.aY.inj q' q m' m b QZ tQ PQ hb;simp[abE,this]at hk
       .simp only[List.length_drop]at hi';rw[cell_of_row w b (j+i) cur ty (0,0) hh];simp[Array.getD_eq_getD_getElem?,show j+i < cur.size by omega]
       .have hi':=(List.getElem?_eq_some_iff.1 gL).1;simp only[List.length_drop]at hi';rw[List.getElem?_drop]at gL
        have hc:cells[j+i]? = some (.d d):=by rw[abK,List.getElem?_map,gL];rfl
        have ay:j+i < cur.size:=by omega
        have:=iD (j+i) cur[j+i] (.d d) (by simp[ay]) hc;simp only[Array.getD_eq_getD_getElem?,ay,Array.getElem?_eq_getElem,Option.getD_some];exact this.data.sub fun b=>vf
     .exact .dead u
    .rename_i hq;exact h.uO (by simp[abE,hq])
  .exact⟨μ,hi,.refl _ w μ⟩
 .exact⟨μ,hi,.refl _ w μ⟩
def St.frz (r:Nat) (σ:St):St:=(σ.freeze r).nH r
theorem aB.frz (r:Nat) (hm:Mv r):aB Mv X G N σ (σ.frz r):=(aB.freeze r hm).trans (aB.nH r hm)
theorem aB.iH (i r ty sz:Nat) {e:Env} {H:Heap} (hr:H r=none) (he:e i=some (.d (.sl (some false) []))):aB Mv X G N ⟨e,H⟩ ⟨eS e i (.own r 0 0),aL H r (.sl ty sz [])⟩:=fun w μ a hi=>by
 obtain⟨aF,ev⟩:=hi.alloc (Mv:=Mv) (w':=w) (m:=⟨none,sz,0⟩) hr (bY.refl w) (by simp) (row:=.sl ty sz []) fun _=>.nil rfl rfl;refine⟨cR μ r ⟨none,sz,0⟩,⟨aF.aY,⟨aF.env.defers,aF.env.size,fun j x hx=>?_⟩,aF.gq⟩,ev⟩;simp only[eS]at hx;split at hx
 .rename_i hj;subst hj;obtain rfl:=Option.some.inj hx;obtain⟨u,hu,ft⟩:=hi.env.slot j _ he;refine⟨u,hu,.own (m:=⟨none,sz,0⟩) (by simp[cR]) (.inl ⟨rfl,?_,rfl,rfl⟩)⟩
  rcases ft.data.mD with⟨rfl,_⟩ | ⟨_,_,_,hk,_⟩
  .rfl
  .exact absurd rfl hk
 .exact aF.env.slot j x hx
end
end Go.Av
namespace Go.Av
theorem M3 (a b:Int):(a != b)=decide (¬ a=b):=by by_cases h:a=b<;>simp[h]
theorem MU (a b:Int):(a == b)=decide (a=b):=by by_cases h:a=b<;>simp[h]
theorem aaA {α β:Type} (f:α->β) (l:List α):List.take l.length (List.map f l)=List.map f l:=List.take_of_length_le (by simp)
def rowsOf (H:Heap):Nat->AV->List Nat
 | 0,_=>[]
 | _+1,.own r _ _=>[r]
 | k+1,.ref r _ _=>match H r with
  | some (.box _ cells)=>go H k cells ++ [r]
  | _=>[]
 | k+1,.agg cells=>go H k cells
 | k+1,.bA _ x=>rowsOf H k x
 | _+1,_=>[]
where
 go (H:Heap) (k:Nat):List AV->List Nat
 | []=>[]
 | x :: l=>rowsOf H k x ++ go H k l
def adv:List Nat->St->St
 | [],σ=>σ
 | r :: l,σ=>adv l (σ.frz r)
def uM (G:ao) (o:Oper) (σ:St):St:=match o.op with
 | .buildSlice _ _ parts=>match jG G σ.env parts.toList with
  | some ps=>adv (rowsOf.go σ.H 6 (ps.map (·.2))) σ
  | none=>σ
 | .mapUpdate _ _ _ v=>match bf G σ.env v with
  | some x=>adv (rowsOf σ.H 6 x) σ
  | none=>σ
 | .insert _ _ _ v=>match bf G σ.env v with
  | some x=>adv (rowsOf σ.H 6 x) σ
  | none=>σ
 | _=>σ
def zR (G:ao) (o:Oper) (σ:St):List Nat:=match o.op with
 | .buildSlice _ _ parts=>match jG G σ.env parts.toList with
  | some ps=>rowsOf.go σ.H 6 (ps.map (·.2))
  | none=>[]
 | .mapUpdate _ _ _ v=>match bf G σ.env v with
  | some x=>rowsOf σ.H 6 x
  | none=>[]
 | .insert _ _ _ v=>match bf G σ.env v with
  | some x=>rowsOf σ.H 6 x
  | none=>[]
 | _=>[]
def aaT (P:Program) (Mv X:Nat->Prop) (G:ao) (N:Fr) (g:FuncId) (xs:List AV) (σ:St) (dst:Option Tmp) (next:St->Prop):Prop:=
 ir P Mv X G N g xs σ fun x aw=>next ⟨aD aw.env dst x,aw.H⟩
def gp (P:Program) (G:ao) (c:Call) (σ:St) (dst:Option Tmp) (next:St->Prop):Prop:=∃ y,vn P G σ c y/\next ⟨aD σ.env dst (.d y),σ.H⟩
def ri (P:Program) (T:Ty) (Mv X:Nat->Prop) (G:ao) (N:Fr) (o:Oper) (σ:St) (next:St->Prop):Prop:=match cz o.op with
 | some c=>match tgt G σ.env c with
  | some (g,xs)=>aaT P Mv X G N g xs σ o.dst next
  | none=>False
 | none=>(∀ r∈zR G o σ,Mv r)/\adi T G Mv o (uM G o σ) next
def sxf (P:Program) (T:Ty) (Mv X:Nat->Prop) (G:ao) (N:Fr) (ops:Array Oper) (K:St->Prop):List Oper->St->Prop
 | [],σ=>K σ
 | o :: rest,σ=>abF N o/\match fQ ops σ.env o with
  | some b=>if b=true then ri P T Mv X G N o σ (sxf P T Mv X G N ops K rest) else sxf P T Mv X G N ops K rest ⟨aD σ.env o.dst cC,σ.H⟩
  | none=>False
def kX (P:Program) (T:Ty) (Mv:Nat->Prop) (G:ao) (N:Fr) (ops:Array Oper) (K:St->Prop):List Oper->St->Prop
 | [],σ=>K σ
 | o :: rest,σ=>abF N o/\match fQ ops σ.env o with
  | some b=>if b=true then (match cz o.op with
    | some c=>gp P G c σ o.dst (kX P T Mv G N ops K rest)
    | none=>adi T G Mv o σ (kX P T Mv G N ops K rest)) else kX P T Mv G N ops K rest ⟨aD σ.env o.dst cC,σ.H⟩
  | none=>False
section
variable {P:Program} {T:Ty} {Mv X:Nat->Prop} {G:ao} {N:Fr} {w:World} {μ:Mu} {a:Act} {σ:St}
theorem Lg {ops:Array Oper} {K:St->Prop}:∀ (l:List Oper),kX P T Mv G N ops K l=qQ P T Mv G N ops K l
 | []=>rfl
 | o :: l=>by
  funext σ;simp only[kX,qQ,gp,Lg l]
  all_goals rfl
theorem aB.adv:∀ (l:List Nat) {σ:St},(∀ r∈l,Mv r)->aB Mv X G N σ (Go.Av.adv l σ)
 | [],σ,_=>.refl σ
 | r :: l,_,hm=>(aB.frz r (hm r (by simp))).trans (aB.adv l fun q hq=>hm q (by simp[hq]))
theorem aB.uM (o:Oper) (hm:∀ r∈zR G o σ,Mv r):aB Mv X G N σ (Go.Av.uM G o σ):=by
 unfold Go.Av.uM;unfold zR at hm;split
 .rename_i ho;simp only[ho]at hm;split
  .rename_i hp;simp only[hp]at hm;exact .adv _ hm
  .exact .refl σ
 .rename_i ho;simp only[ho]at hm;split
  .rename_i hp;simp only[hp]at hm;exact .adv _ hm
  .exact .refl σ
 .rename_i ho;simp only[ho]at hm;split
  .rename_i hp;simp only[hp]at hm;exact .adv _ hm
  .exact .refl σ
 .exact .refl σ
theorem Gs (hg:Good P T) (hi:In w X G μ N a σ) {o:Oper} {K:St->Prop} (hd:∀ d,o.dst=some d->d < N.n) (h:ri P T Mv X G N o σ K) {Q:Exit->Act->World->Prop} {next:Act->World->Prop}
  (hk:∀ w' ax a' aw,K aw->In w' X G ax N a' aw->Ev Mv w μ w' ax->next a' w'):o.wpIn (wd N.ro) 0 P a w next Q:=by
 unfold ri at h;split at h
 .rename_i c hc;refine yg (Mv:=Mv) hg hi hd ?_ hk;unfold jH;rw[hc];dsimp only;split at h
  .rename_i ht;rw[ht];exact h
  .exact h.elim
 .rename_i hc;obtain⟨iG,cO,mR⟩:=aB.uM (Mv:=Mv) (X:=X) o h.1 w μ a hi;refine yg (Mv:=Mv) hg cO (K:=K) hd ?_ fun w' ax a' aw k aF aJ=>hk w' ax a' aw k aF (mR.trans aJ);unfold jH;rw[hc];exact h.2
theorem XE (hg:Good P T) {ops:Array Oper} {Q:Exit->St->Prop} {w0:World} {gm:Mu}:∀ (l:List Oper) (k:Nat) (w:World) (μ:Mu) (a:Act) (σ:St),(∀ j,l[j]? = ops[k+j]?)->sxf P T Mv X G N ops (fun aw=>Q .normal aw) l σ->In w X G μ N a σ->Ev Mv w0 gm w μ->
  wpOpsIn (wd N.ro) 0 P ops (After Mv X G N w0 gm Q) (List.range' k l.length) a w:=by
 intro l
 induction l with
 | nil=>intro k w μ a σ _ h hi aJ;exact⟨μ,σ,h,hi,aJ⟩
 | cons o l ih=>
  intro k w μ a σ hl h hi aJ
  have h0:ops[k]? = some o:=by simpa using (hl 0).symm
  have eG:∀ j,l[j]? = ops[k+1+j]?:=fun j=>by have:=hl (j+1);simpa[Nat.add_assoc,Nat.add_comm 1 j]using this
  obtain⟨hd,h⟩:=h
  have gL:∀ d,o.dst=some d->d < N.n:=fun d e=>by unfold abF at hd;rw[e]at hd;exact hd
  rw[List.length_cons,List.range'_succ];simp only[wpOpsIn,h0];split at h
  .rename_i b hb;rw[sT hi hb];split at h
   .rename_i oU;subst oU;rw[if_pos rfl];exact (Gs hg hi gL h fun w' ax a' aw k' aF iP=>ih (k+1) w' ax a' aw eG k' aF (aJ.trans iP))
   .rename_i vW;rw[if_neg (by simpa using vW)];exact⟨fun _ _=>trivial,ih (k+1) w μ _ _ eG h (hi.put (.d (.v _)) gL) aJ⟩
  .exact h.elim
theorem Fi (hg:Good P T) {id:Nat} {ops:Array Oper} {Q:Exit->St->Prop} (h:sxf P T Mv X G N ops (fun aw=>Q .normal aw) ops.toList σ):AW P Mv X G N (.region id ops false) Q σ:=fun w μ a hi=>by
 refine wpIn_region ?_;have:=XE hg ops.toList 0 w μ a σ (by simp) h hi (.refl _ w μ)
 rwa [<- List.range_eq_range',Array.length_toList]at this
theorem Fh (hg:Good P T) (hm:P.follows .mixedOrders=true) {id:Nat} {ops:Array Oper} (bJ:adq ops=true) {Q:Exit->St->Prop} (h:kX P T Mv G N ops (fun aw=>Q .normal aw) ops.toList σ):AW P Mv X G N (.region id ops true) Q σ:=by
 rw[Lg]at h;exact LZ hg hm bJ h
theorem AW.norm (l ns:List Nat) (hM:∀ r,ns.contains r=false->Mv r) {c:Code} {Q:Exit->St->Prop} (h:AW P Mv X G N c Q (σ.norm l ns)):AW P Mv X G N c Q σ:=AW.imp (aB.norm l ns hM) h
theorem AW.st {τ:St} {c:Code} {Q:Exit->St->Prop} (h:σ=τ) (h':AW P Mv X G N c Q τ):AW P Mv X G N c Q σ:=h ▸ h'
theorem AW.Jr (i:Nat) {e:Env} {H:Heap} {els:List (List D)} {c:Code} {Q:Exit->St->Prop} (he:e i=some (.d (.sl none els))) (h1:AW P Mv X G N c Q ⟨eS e i (.d (.sl (some true) els)),H⟩)
  (h2:els=[]->AW P Mv X G N c Q ⟨eS e i (.d (.sl (some false) [])),H⟩):AW P Mv X G N c Q ⟨e,H⟩:=fun w μ a hi=>by
 obtain⟨u,hu,hr⟩:=hi.env.slot i _ he
 have put:∀ {y:D},RD w (XX X μ) u y->In w X G μ N a ⟨eS e i (.d y),H⟩:=fun hy=>⟨hi.aY,⟨hi.env.defers,hi.env.size,fun j x hx=>by
  simp only[eS]at hx;split at hx
  .rename_i hj;subst hj;obtain rfl:=Option.some.inj hx;exact⟨u,hu,.d hy⟩
  .exact hi.env.slot j x hx⟩,hi.gq⟩
 have hd:=hr.data;generalize hy:D.sl none els=y at hd
 cases hd with
 | nil hk=>cases hy;exact h2 rfl w μ a (put (.nil (by simp)))
 | empty hk hm=>cases hy;exact h1 w μ a (put (.empty (by simp) hm))
 | sl a1 a2 a3 a4 a5 a6 a7 a8 a9 L9=>cases hy;exact h1 w μ a (put (.sl (by simp) a2 a3 a4 a5 a6 a7 a8 a9 L9))
 | _=>cases hy
theorem L0 (hg:Good P T) (l ns:List Nat) (hM:∀ r,ns.contains r=false->Mv r) {id:Nat} {ops:Array Oper} {y:Code} {Q:Exit->St->Prop} (h:∀ K:St->Prop,(∀ τ:St,AW P Mv X G N y Q (τ.norm l ns)->K τ)->sxf P T Mv X G N ops K ops.toList σ):AW P Mv X G N (.seq (.region id ops false) y) Q σ:=
 adP (Fi hg (h _ fun _ h=>h.norm l ns hM))
theorem rg {P:Program} {Mv X:Nat->Prop} {G:ao} {N:Fr} {σ:St} (l ns:List Nat) (hM:∀ r,ns.contains r=false->Mv r) {id:Nat} {ops:Array Oper} {y:Code} {Q:Exit->St->Prop} (h:∀ K:St->Prop,(∀ τ:St,AW P Mv X G N y Q (τ.norm l ns)->K τ)->sxf P (aaQ P) Mv X G N ops K ops.toList σ):AW P Mv X G N (.seq (.region id ops false) y) Q σ:=L0 (aay _) l ns hM h
theorem l6 (hg:Good P T) (hm:P.follows .mixedOrders=true) (l ns:List Nat) (hM:∀ r,ns.contains r=false->Mv r) {id:Nat} {ops:Array Oper} (bJ:adq ops=true) {y:Code} {Q:Exit->St->Prop} (h:∀ K:St->Prop,(∀ τ:St,AW P Mv X G N y Q (τ.norm l ns)->K τ)->kX P T Mv G N ops K ops.toList σ):AW P Mv X G N (.seq (.region id ops true) y) Q σ:=
 adP (Fh hg hm bJ (h _ fun _ h=>h.norm l ns hM))
theorem abl (hg:Good P T) {id:Nat} {ops:Array Oper} {Q:Exit->St->Prop} (h:∀ K:St->Prop,(∀ τ:St,Q .normal τ->K τ)->sxf P T Mv X G N ops K ops.toList σ):AW P Mv X G N (.region id ops false) Q σ:=
 Fi hg (h _ fun _ h=>h)
theorem qT (hg:Good P T) (hm:P.follows .mixedOrders=true) {id:Nat} {ops:Array Oper} (bJ:adq ops=true) {Q:Exit->St->Prop} (h:∀ K:St->Prop,(∀ τ:St,Q .normal τ->K τ)->kX P T Mv G N ops K ops.toList σ):AW P Mv X G N (.region id ops true) Q σ:=
 Fh hg hm bJ (h _ fun _ h=>h)
def z8 (T:Ty) (σ:St):ResultVar->Ans
 | .tmp t=>(σ.env t).map fun x=>(True,x)
 | .cell a t=>(σ.env a).bind (ko T σ.H t)
def qL (T:Ty) (σ:St):List ResultVar->Option (Prop×List AV)
 | []=>some (True,[])
 | r :: l=>match z8 T σ r,qL T σ l with
  | some (c,x),some (c',xs)=>some (c/\c',x :: xs)
  | _,_=>none
def oneOf:List AV->AV
 | [x]=>x
 | l=>ae0 l
def D.le:D->D->Prop
 | .sl k els,.sl k' kA=>(k'=none\/k=k')/\els=kA
 | .tup l,.tup l'=>go l l'
 | .agg l,.agg l'=>go l l'
 | .ip l,.ip l'=>go l l'
 | .bA t x,.bA t' x'=>t=t'/\x.le x'
 | .fn f l,.fn f' l'=>f=f'/\go l l'
 | .dm x l,.dm x' l'=>(x'=true->x=true/\l=l')/\l.Perm l'
 | x,y=>x=y
where
 go:List D->List D->Prop
 | [],[]=>True
 | x :: l,y :: l'=>x.le y/\go l l'
 | _,_=>False
def aeA (T:Ty) (rs:List ResultVar) (y:D) (σ:St):Prop:=match qL T σ rs with
 | some (c,xs)=>c/\match dU σ.H 6 (oneOf xs) with
  | some y'=>y'.le y
  | none=>False
 | none=>False
def A4 (T:Ty) (rs:List ResultVar) (y:D):Exit->St->Prop
 | .normal,σ | .ret,σ=>aeA T rs y σ
 | _,_=>False
theorem D.sv:∀ {l l':List D},D.le.go l l'->l.length=l'.length/\∀ (j:Nat) (x y:D),l[j]? = some x->l'[j]? = some y->x.le y
 | [],[],_=>⟨rfl,by simp⟩
 | x :: l,y :: l',h=>by
  simp only[D.le.go]at h;obtain⟨h1,h2⟩:=D.sv h.2;refine⟨by simp[h1],fun j a b ha hb=>?_⟩
  cases j with
  | zero=>simp at ha hb;subst ha hb;exact h.1
  | succ j=>simp at ha hb;exact h2 j a b ha hb
 | [],_ :: _,h=>by simp only[D.le.go]at h
 | _ :: _,[],h=>by simp only[D.le.go]at h
theorem D.wS {l l':List D} (hg:D.le.go l l') {j:Nat} {c:D} (hc:l'[j]? = some c):∃ x,l[j]? = some x/\x.le c:=by
 obtain⟨hl,hh⟩:=D.sv hg;have hj:=(List.getElem?_eq_some_iff.1 hc).1
 have hj':j < l.length:=by omega
 exact⟨l[j],by simp[hj'],hh j _ c (by simp[hj']) hc⟩
theorem RD.le {w:World} {X:Nat->Prop} {u:Value} {x:D} (hr:RD w X u x):∀ {y:D},x.le y->RD w X u y:=by
 induction hr with
 | v x=>intro y h;cases y<;>simp only[D.le,reduceCtorEq]at h;exact h ▸ .v x
 | nil hk=>
  intro y h;cases y<;>simp only[D.le,reduceCtorEq]at h;obtain⟨h1 | h1,rfl⟩:=h
  .exact .nil (by simp[h1])
  .exact .nil (h1 ▸ hk)
 | empty hk hm=>
  intro y h;cases y<;>simp only[D.le,reduceCtorEq]at h;obtain⟨h1 | h1,rfl⟩:=h
  .exact .empty (by simp[h1]) hm
  .exact .empty (h1 ▸ hk) hm
 | sl h1 h2 h3 h4 h5 h6 h7 h8 h9 yu=>
  intro y h;cases y<;>simp only[D.le,reduceCtorEq]at h;obtain⟨e1 | e1,rfl⟩:=h
  .exact .sl (by simp[e1]) h2 h3 h4 h5 h6 h7 h8 h9 yu
  .exact .sl (e1 ▸ h1) h2 h3 h4 h5 h6 h7 h8 h9 yu
 | ip hX hb abf hr ih=>
  intro y h;cases y<;>simp only[D.le,reduceCtorEq]at h;obtain⟨hl,_⟩:=D.sv h;refine .ip hX hb (fun j hj=>abf j (by omega)) fun j c hc=>?_;obtain⟨x,hx,hle⟩:=D.wS h hc;exact ih j x hx hle
 | agg hn hr ih=>
  intro y h;cases y<;>simp only[D.le,reduceCtorEq]at h;obtain⟨hl,_⟩:=D.sv h;refine .agg (by omega) fun j u c hu hc=>?_;obtain⟨x,hx,hle⟩:=D.wS h hc;exact ih j u x hu hx hle
 | tup hn hr ih=>
  intro y h;cases y<;>simp only[D.le,reduceCtorEq]at h;obtain⟨hl,_⟩:=D.sv h;refine .tup (by omega) fun j u c hu hc=>?_;obtain⟨x,hx,hle⟩:=D.wS h hc;exact ih j u x hu hx hle
 | bA hr ih=>
  intro y h;cases y<;>simp only[D.le,reduceCtorEq]at h;obtain⟨rfl,h⟩:=h;exact .bA (ih h)
 | lA hX hh=>
  intro y h;cases y<;>simp only[D.le,reduceCtorEq]at h;injection h with h;exact h ▸ .lA hX hh
 | dm hX hh hp hx=>
  intro y h;cases y<;>simp only[D.le,reduceCtorEq]at h;exact .dm hX hh (hp.trans h.2) fun e=>(hx (h.1 e).1).trans (h.1 e).2
 | fn hn hr ih=>
  intro y h;cases y<;>simp only[D.le,reduceCtorEq]at h;obtain⟨rfl,h⟩:=h;obtain⟨hl,_⟩:=D.sv h;refine .fn (by omega) fun j u c hu hc=>?_;obtain⟨x,hx,hle⟩:=D.wS h hc;exact ih j u x hu hx hle
theorem ar.nw {g:FuncId} {ds ef:List D} {y:D} (hc:ar P G g ds y) (h:D.le.go ef ds):ar P G g ef y:=by
 refine⟨hc.1,fun X w μ vs hs cq hn hv=>hc.2 X w μ vs hs cq (by simpa[(D.sv h).1]using hn) fun i u x hu hx=>?_⟩;rw[List.getElem?_map]at hx;obtain⟨d,hd,rfl⟩:=Option.map_eq_some_iff.1 hx;obtain⟨x,hx,hle⟩:=D.wS h hd;exact .d ((hv i u (.d x) hu (by rw[List.getElem?_map,hx];rfl)).data.le hle)
theorem aaT.data {g:FuncId} {xs:List AV} {ds ef:List D} {y:D} {dst:Option Tmp} {next:St->Prop} (hc:ar P G g ds y) (hx:iI xs=some ef) (hle:D.le.go ef ds) (h:next ⟨aD σ.env dst (.d y),σ.H⟩):aaT P Mv X G N g xs σ dst next:=by
 unfold aaT;rw[lF hx];exact ir.pure (hc.nw hle) h
theorem aaT.mw {g:FuncId} {xs:List AV} {ds ef:List D} {y:D} {dst:Option Tmp} {next:St->Prop} (hc:ar P G g ds y) (hx:iq (dU σ.H 4) xs=some ef) (hle:D.le.go ef ds) (hy:y.scalar=true) (h:next ⟨aD σ.env dst (.d y),σ.H⟩):aaT P Mv X G N g xs σ dst next:=
 ir.mw hx (hc.nw hle) hy h
theorem gp.data {c:Call} {g:FuncId} {xs:List AV} {ds ef:List D} {y:D} {dst:Option Tmp} {next:St->Prop} (hc:ar P G g ds y) (ht:tgt G σ.env c=some (g,xs)) (hx:iI xs=some ef) (hle:D.le.go ef ds) (h:next ⟨aD σ.env dst (.d y),σ.H⟩):gp P G c σ dst next:=
 ⟨y,⟨g,xs,ht,.inl ⟨ef,lF hx,hc.nw hle⟩⟩,h⟩
theorem gp.mw {c:Call} {g:FuncId} {xs:List AV} {ds ef:List D} {y:D} {dst:Option Tmp} {next:St->Prop} (hc:ar P G g ds y) (ht:tgt G σ.env c=some (g,xs)) (hx:iq (dU σ.H 4) xs=some ef) (hle:D.le.go ef ds) (hy:y.scalar=true) (h:next ⟨aD σ.env dst (.d y),σ.H⟩):gp P G c σ dst next:=
 ⟨y,⟨g,xs,ht,.inr ⟨ef,hx,hy,hc.nw hle⟩⟩,h⟩
theorem FB (H:Heap) (k:Nat):∀ (ds:List D),iq (dU H k) (ds.map .d)=some ds
 | []=>rfl
 | d :: ds=>by simp[iq,FB H k ds];cases k<;>simp[dU]
theorem D.le_refl (x:D):x.le x:=by
 have key:∀ n,∀ x:D,SizeOf.sizeOf x < n->x.le x:=by
  intro n
  induction n with
  | zero=>intro x h;omega
  | succ n ih=>
   intro x h
   have go:∀ l:List D,SizeOf.sizeOf l < n->D.le.go l l:=by
    intro l
    induction l with
    | nil=>intro _;simp[D.le.go]
    | cons y l wQ=>
     intro hl;simp only[List.cons.sizeOf_spec]at hl;exact⟨ih y (by omega),wQ (by omega)⟩
   cases x<;>simp only[D.le]<;>simp at h ⊢
   .exact go _ (by omega)
   .exact go _ (by omega)
   .exact go _ (by omega)
   .exact ih _ (by omega)
   .exact go _ (by omega)
 exact key _ x (Nat.lt_succ_self _)
theorem D.aaE:∀ l:List D,D.le.go l l
 | []=>trivial
 | x :: l=>⟨D.le_refl x,D.aaE l⟩
theorem Wp (hg:Good P T) (hi:In w X G μ N a σ) {r:ResultVar} {c:Prop} {x:AV} (h:z8 T σ r=some (c,x)) (hc:c) :
  ∃ v,(match r with | .tmp t=>(pure (a.tmps.getD t undef):Sem Value) | .cell b t=>do loadVar t (<- asAddr (a.tmps.getD b undef))).run P w = .ok v w/\RV w X μ v x:=by
 cases r with
 | tmp t=>
  simp only[z8,Option.map_eq_some_iff,Prod.mk.injEq]at h;obtain⟨y,hy,_,rfl⟩:=h;obtain⟨u,hu,hr⟩:=hi.env.slot t y hy;exact⟨u,by simp[Array.getD_eq_getD_getElem?,hu],hr⟩
 | cell b t=>
  obtain⟨y,hy,hl⟩:=Option.bind_eq_some_iff.1 h;obtain⟨u,hu,hr⟩:=hi.env.slot b y hy;obtain⟨v,hv,ft⟩:=IX (P:=P) hg hi.aY hl hc hr;refine⟨v,?_,ft⟩
  have e:a.tmps.getD b undef=u:=by simp[Array.getD_eq_getD_getElem?,hu]
  dsimp only;rw[e];unfold ko at hl;split at hl
  .obtain⟨b,off,f,rfl,_⟩:=hr.data.adp;simpa[Instr.loadAt,Instr.sureAddr,asAddr]using hv
  .obtain⟨m,b,hm,hb,rfl⟩:=hr.ie;simpa[Instr.loadAt,Instr.sureAddr,asAddr]using hv
  .cases hl
theorem Wn (hg:Good P T) (hi:In w X G μ N a σ):∀ {rs:List ResultVar} {c:Prop} {xs:List AV},qL T σ rs=some (c,xs)->c->
  ∃ vs:List Value,(rs.mapM (m:=Sem) fun | .tmp t=>pure (a.tmps.getD t undef) | .cell b t=>do loadVar t (<- asAddr (a.tmps.getD b undef))).run P w = .ok vs w/\vs.length=xs.length/\∀ (j:Nat) (u:Value) (x:AV),vs[j]? = some u->xs[j]? = some x->RV w X μ u x:=by
 intro rs
 induction rs with
 | nil=>
  intro c xs h hc;simp only[qL,Option.some.injEq,Prod.mk.injEq]at h;obtain⟨_,rfl⟩:=h;exact⟨[],by simp,rfl,by simp⟩
 | cons r rs ih=>
  intro c xs h hc;simp only[qL]at h;split at h
  .rename_i c1 x c2 LJ h1 h2;simp only[Option.some.injEq,Prod.mk.injEq]at h;obtain⟨rfl,rfl⟩:=h;obtain⟨v,hv,hr⟩:=Wp (P:=P) hg hi h1 hc.1;obtain⟨vs,Dc,hl,gA⟩:=ih h2 hc.2;refine⟨v :: vs,?_,by simp[hl],fun j u x hu hx=>?_⟩
   .rw[List.mapM_cons,Sem.run_bind,hv,Result.andThen_ok,Sem.run_bind,Dc,Result.andThen_ok,Sem.run_pure]
   .cases j with
    | zero=>simp at hu hx;subst hu hx;exact hr
    | succ j=>simp at hu hx;exact gA j u x hu hx
  .cases h
theorem Er (hg:Good P T) (hi:In w X G μ N a σ) {fn:Func} {rs:List ResultVar} (gA:fn.results=rs.toArray) {c:Prop} {xs:List AV} (h:qL T σ rs=some (c,xs)) (hc:c) :
  ∃ v,(results fn a.tmps).run P w = .ok v w/\RV w X μ v (oneOf xs):=by
 obtain⟨vs,Dc,hl,hr⟩:=Wn (P:=P) hg hi h hc;refine⟨if h:vs.toArray.size=1 then vs.toArray[0] else .tuple vs.toArray,?_,?_⟩
 .unfold results;rw[gA,Array.mapM_eq_mapM_toList,Sem.run_bind];simp only[map_eq_pure_bind,Sem.run_bind]
  erw[Dc]
  rfl
 .match xs,vs,hl,hr with
  | [],[],_,hr=>exact zA (l:=[]) (.tup (arr:=#[]) (cells:=[]) rfl (by simp))
  | [x],[v],_,hr=>exact hr 0 v x rfl rfl
  | x :: y :: xs,v :: u :: vs,hl,hr=>
   have:¬ (v :: u :: vs).toArray.size=1:=by simp
   rw[dif_neg this];exact zA (.tup (by simpa using hl) fun j u c hu hc=>hr j u c (by simpa using hu) hc)
theorem ar.aC (hg:Good P T) {g:FuncId} {fn:Func} {c:Code} {rs:List ResultVar} {ds:List D} {y:D} (hf:P.funcs[g]? = some fn) (hb:fn.body=some c) (hn:(fn.name == "runtime.NumGoroutine")=false) (gA:fn.results=rs.toArray)
  (hN:ds.length<=fn.ntmps) (h:∀ X,AW P (fun _=>True) X G ⟨fn.ntmps,[],none⟩ c (A4 T rs y) ⟨args (ds.map .d),fD⟩):ar P G g ds y:=by
 refine⟨e7.of hf hb hn,fun X w μ vs hs cq aK hv=>?_⟩
 have fin:∀ (w':World) (ax:Mu) (a':Act) (aw:St),aeA T rs y aw->In w' X G ax ⟨fn.ntmps,[],none⟩ a' aw->Ev (fun _=>True) w μ w' ax->∃ v,(results fn a'.tmps).run P w' = .ok v w'/\∃ v_1 x H' ax,Ending.returned v=Ending.returned v_1/\(x = .d y/\H'=fD)/\RV w' X ax v_1 x/\Sim w' X ax H'/\Ev (fun _=>True) w μ w' ax:=by
  intro w' ax a' aw he hi aJ;unfold aeA at he;split at he
  .rename_i c xs hx;obtain⟨hc,he⟩:=he;split at he
   .rename_i y' hy;obtain⟨v,hv,hr⟩:=Er (P:=P) hg hi gA hx hc;have bC:=(xS hi.aY 6 hy hr).le he;refine⟨v,hv,v,.d y,fD,fun _=>none,rfl,⟨rfl,rfl⟩,.d (bC.sub fun b=>ac8.1),Sim.none hi.aY.fits,aJ.size,aJ.os,aJ.tape,aJ.output,fun b hb hr=>⟨(aJ.same b hb hr).1,fun ⟨_,_,h,_⟩=>by cases h⟩,fun r m _ hn=>absurd trivial hn⟩
   .exact he.elim
  .exact he.elim
 refine calls_of_wp hf hb ((wpIn_wide (n:=0)).1 (wpIn_mono (h X w μ _ ⟨hs,⟨rfl,by simp;simp at aK;omega,fun i x hx=>?_⟩,cq⟩) fun e a' w' ⟨ax,aw,q,i,ev⟩=>?_))
 .simp only[args]at hx;have hi:i < (ds.map AV.d).length:=(List.getElem?_eq_some_iff.1 hx).1
  have hvi:vs[i]? = some vs[i]:=by rw[Array.getElem?_eq_getElem]
  exact⟨vs[i],by rw[Array.getElem?_append_left (by omega),hvi],hv i _ x hvi hx⟩
 .cases e with
  | normal=>
   obtain⟨v,hv,rest⟩:=fin w' ax a' aw q i ev;exact⟨i.env.defers,v,hv,rest⟩
  | ret=>
   obtain⟨v,hv,rest⟩:=fin w' ax a' aw q i ev;exact⟨i.env.defers,v,hv,rest⟩
  | _=>exact q.elim
end
end Go.Av
namespace Go.Av
section
variable {P:Program} {T:Ty} {Mv X:Nat->Prop} {G:ao} {N:Fr} {ops:Array Oper}
def s7 (o:Oper):Option (Operand×Operand):=match o.op with
 | .call { callee:=.builtin .append,args,argTypes }=>match args.toList,argTypes.toList with
  | [x,y],[t,t']=>if t=t' then some (x,y) else none
  | _,_=>none
 | _=>none
def xR (T:Ty) (Mv:Nat->Prop) (o:Oper) (r off n ty sz:Nat) (els news:List (List D)):Option (Prop×Nat×Row):=match o.op,o.dst with
 | .call { callee:=.builtin .append,args,argTypes },some _=>match args.toList,argTypes.toList with
  | [_,_],[t,t']=>if t=t' then match T t with
   | some tt=>match tt.desc with
    | .slice e=>match T e with
     | some te=>some (off=0/\Mv r/\ty=e/\sz=te.size/\n<=els.length/\(∀ el∈news,el.length=te.size)/\(∀ el∈news,∀ c∈el,D.one c=true)/\0 < te.size/\(ab9 te.zero).length=te.size/\n+news.length<=9223372036854775807/\(n+news.length) * te.bytes<=140737488355328,
       n+news.length,.sl e te.size (els.take n ++ news))
     | none=>none
    | _=>none
   | none=>none
  else none
  | _,_=>none
 | _,_=>none
def oK (s:Nat):AV->Prop
 | .own q _ _=>q=s
 | _=>True
def aca (T:Ty) (G:ao) (Mv:Nat->Prop) (o:Oper) (e:Env) (H:Heap) (r s m:Nat) (row:Row):Prop:=
 ∃ x y off n v ty sz els news c,s7 o=some (x,y)/\bf G e x=some (.own r off n)/\bf G e y=some v/\oK s v/\H r=some (.sl ty sz els)/\jz H r v=some news/\xR T Mv o r off n ty sz els news=some (c,m,row)/\c
theorem AY {o:Oper} {x y:Operand} (h:s7 o=some (x,y)):∃ t t',o.op = .call { callee:=.builtin .append,args:=#[x,y],argTypes:=#[t,t'] }/\t=t':=by
 unfold s7 at h;split at h
 .rename_i args argTypes hop;split at h
  .rename_i x' y' t t' ha ht;split at h
   .rename_i cJ;simp only[Option.some.injEq,Prod.mk.injEq]at h;obtain⟨rfl,rfl⟩:=h;have e1:args = #[x',y']:=Array.toList_inj.1 ha;have e2:argTypes = #[t,t']:=Array.toList_inj.1 ht;exact⟨t,t',by rw[hop,e1,e2],cJ⟩
   .cases h
  .cases h
 .cases h
theorem aca.row {o:Oper} {e:Env} {H:Heap} {r s m:Nat} {row:Row} (h:aca T G Mv o e H r s m row):(∃ ty sz els,row = .sl ty sz els)/\(∃ ty sz els,H r=some (.sl ty sz els))/\(∃ d,o.dst=some d):=by
 obtain⟨x,y,off,n,v,ty,sz,els,news,c,h1,h2,h3,h4,h5,h6,h7,h8⟩:=h;unfold xR at h7
 repeat' split at h7
 all_goals first
  | cases h7;done
  | (simp only [Option.some.injEq, Prod.mk.injEq] at h7
     obtain⟨_,_,rfl⟩:=h7
     exact⟨⟨_,_,_,rfl⟩,⟨_,_,_,h5⟩,⟨_,by assumption⟩⟩)
theorem aca.to {o:Oper} {e:Env} {H:Heap} {r s m:Nat} {row:Row} (h:aca T G Mv o e H r s m row):kC P T Mv G o ⟨e,H⟩ ⟨aD (aa6 r e) o.dst (.own r 0 m),aL (cQ r H) r row⟩:=by
 obtain⟨x,y,off,n,v,ty,sz,els,news,c,h1,h2,h3,h4,h5,h6,h7,h8⟩:=h;obtain⟨t,t',hop,y6⟩:=AY h1;obtain⟨dst,op,type,pos,after,guard⟩:=o;dsimp only at hop;subst hop;unfold kC;simp only[cz,eD,if_true];unfold xR at h7;dsimp only at h7
 cases dst with
 | none=>cases h7
 | some d=>
  simp only[List.toList_toArray]at h7;refine⟨c,.own r 0 m,⟨aa6 r e,aL (cQ r H) r row⟩,?_,h8,rfl⟩;unfold wr;dsimp only;subst y6;rw[if_pos rfl]at h7;split at h7
  .rename_i tt hT;split at h7
   .rename_i ye hd;split at h7
    .rename_i te cg;simp only[Option.some.injEq,Prod.mk.injEq]at h7;obtain⟨rfl,rfl,rfl⟩:=h7;simp[hT,hd,cg,h2,h3,h5,h6]
    .cases h7
   .cases h7
  .cases h7
theorem aca.of {o:Oper} {e:Env} {H:Heap} {r s off n:Nat} {x y:Operand} {v:AV} {c:Prop} {z:AV} {aI:St} (ho:s7 o=some (x,y)) (hx:bf G e x=some (.own r off n)) (hy:bf G e y=some v) (hs:oK s v) (h:wr T G Mv ⟨e,H⟩ o=some (c,z,aI)) (hc:c) :
  ∃ m row,aca T G Mv o e H r s m row/\z = .own r 0 m/\aI=⟨aa6 r e,aL (cQ r H) r row⟩:=by
 obtain⟨t,t',hop,y6⟩:=AY ho;obtain⟨dst,op,type,pos,after,guard⟩:=o;dsimp only at hop;subst hop;unfold wr at h;dsimp only at h
 cases dst with
 | none=>cases h
 | some d=>
  dsimp only at h;split at h
  .rename_i cJ;subst cJ
   cases hT:T t with
   | none=>simp[hT]at h
   | some tt=>
    simp only[hT]at h;split at h
    .rename_i ye hd
     cases cg:T ye with
     | none=>simp[cg]at h
     | some te=>
      simp only[cg,hx,hy]at h;split at h
      .rename_i ty sz els news h1 h2;simp only[Option.some.injEq,Prod.mk.injEq]at h;obtain⟨rfl,rfl,rfl⟩:=h;exact⟨_,_,⟨x,y,off,n,v,ty,sz,els,news,_,ho,hx,hy,hs,h1,h2,by simp[xR,hT,hd,cg],hc⟩,rfl,rfl⟩
      .cases h
    .cases h
  .rename_i aO;exact absurd y6 aO
theorem Jo {H H2:Heap} {r s:Nat} {v:AV} (hs:oK s v) (hH:H2 s=H s):jz H2 r v=jz H r v:=by
 cases v with
 | own q off n=>
  simp only[oK]at hs;subst hs;simp only[jz,hH]
 | d x=>cases x<;>rfl
 | _=>rfl
theorem aca.congr {o:Oper} {e e2:Env} {H H2:Heap} {r s m:Nat} {row:Row} (h:aca T G Mv o e H r s m row) (ha:fA o.op e e2) (hr:H2 r=H r) (hs:H2 s=H s):aca T G Mv o e2 H2 r s m row:=by
 obtain⟨x,y,off,n,v,ty,sz,els,news,c,h1,h2,h3,h4,h5,h6,h7,h8⟩:=h;obtain⟨t,t',hop,y6⟩:=AY h1;have hx:∀ t,x = .tmp t->e t=e2 t:=fun t ht=>ha t (by rw[hop];simp[Op.operands,Call.operands,ht]);have hy:∀ t,y = .tmp t->e t=e2 t:=fun t ht=>ha t (by rw[hop];simp[Op.operands,Call.operands,ht]);exact⟨x,y,off,n,v,ty,sz,els,news,c,h1,by rw[<- abj hx];exact h2,by rw[<- abj hy];exact h3,h4,by rw[hr];exact h5,by rw[Jo h4 hs];exact h6,h7,h8⟩
theorem AV.zm (r r':Nat) (x:AV):(x.kill r).kill r'=(x.kill r').kill r:=by
 have key:∀ n,∀ x:AV,SizeOf.sizeOf x < n->(x.kill r).kill r'=(x.kill r').kill r:=by
  intro n
  induction n with
  | zero=>intro x h;omega
  | succ n ih=>
   intro x h
   have go:∀ l:List AV,SizeOf.sizeOf l < n->(l.map (AV.kill r)).map (AV.kill r')=(l.map (AV.kill r')).map (AV.kill r):=by
    intro l
    induction l with
    | nil=>intro _;rfl
    | cons y l wQ=>
     intro hl;simp only[List.cons.sizeOf_spec]at hl;simp only[List.map_cons,List.cons.injEq];exact⟨ih y (by omega),wQ (by omega)⟩
   cases x with
   | d x=>simp[AV.kill]
   | own q off n=>by_cases h1:q=r<;>by_cases h2:q=r'<;>simp[AV.kill,h1,h2]<;>(try (by_cases h3:r=r'<;>simp[AV.kill,h3]))<;>(try simp_all [AV.kill])
   | ref q e j=>by_cases h1:q=r<;>by_cases h2:q=r'<;>simp[AV.kill,h1,h2]<;>(try (by_cases h3:r=r'<;>simp[AV.kill,h3]))<;>(try simp_all [AV.kill])
   | agg cells=>simp at h;simp only[AV.kill,AV.go_eq];rw[go cells (by omega)]
   | tup cells=>simp at h;simp only[AV.kill,AV.go_eq];rw[go cells (by omega)]
   | bA t x=>simp at h;simp only[AV.kill];rw[ih x (by omega)]
   | bm t x=>simp at h;simp only[AV.kill];rw[ih x (by omega)]
   | fn f cells=>simp at h;simp only[AV.kill,AV.go_eq];rw[go cells (by omega)]
   | mp q=>by_cases h1:q=r<;>by_cases h2:q=r'<;>simp[AV.kill,h1,h2]<;>(try (by_cases h3:r=r'<;>simp[AV.kill,h3]))<;>(try simp_all [AV.kill])
   | dead=>simp[AV.kill]
 exact key _ x (Nat.lt_succ_self _)
theorem Sb (r r':Nat) (e:Env):aa6 r' (aa6 r e)=aa6 r (aa6 r' e):=by
 funext i;simp only[aa6,Option.map_map];congr 1;funext x;exact AV.zm r r' x
theorem Row.zm (r r':Nat) (x:Row):(x.kill r).kill r'=(x.kill r').kill r:=by
 cases x with
 | sl ty sz els=>rfl
 | mp ty ents=>rfl
 | it ents seen=>rfl
 | box ty cells=>
  simp only[Row.kill,List.map_map];congr 1;apply List.map_congr_left;intro x _;exact AV.zm r r' x
theorem Se (r r':Nat) (H:Heap):cQ r' (cQ r H)=cQ r (cQ r' H):=by
 funext i;simp only[cQ,Option.map_map];congr 1;funext x;exact Row.zm r r' x
theorem zk (r:Nat) (e:Env) (d:Option Tmp) (x:AV):aa6 r (aD e d x)=aD (aa6 r e) d (x.kill r):=by
 cases d with
 | none=>rfl
 | some d=>funext i;simp only[aa6,aD,eS];split<;>rfl
def AL (r:Nat) (o:Oper) (e:Env) (x:AV):Prop:=fA o.op e (aa6 r e)/\x.kill r=x
theorem ik {o:Oper} {e:Env} (h:o.guard=none):fQ ops e o=some true:=by simp[fQ,h]
theorem Th {r:Nat} {l:List AV} (h:(lZ l).kill r=lZ l):lZ (l.map (AV.kill r))=lZ l:=by
 unfold lZ at h ⊢;split at h
 .rename_i ds hd;rw[lF hd]
  have:(ds.map AV.d).map (AV.kill r)=ds.map AV.d:=by simp[List.map_map,Function.comp_def,AV.kill]
  rw[this,AX]
 .rename_i hd;simp only[AV.kill,AV.go_eq,AV.agg.injEq]at h;rw[h,hd]
theorem MA {r:Nat} {t:TypeId} {cells:List AV} {c:Prop} {x:AV} {j:Nat} (h:lG T t (cells.drop j)=some (c,x)) (hx:x.kill r=x):∃ c',lG T t ((cells.map (AV.kill r)).drop j)=some (c',x)/\(c->c'):=by
 unfold lG at h ⊢;split at h
 .cases h
 .rename_i ti ht;split at h
  .rename_i ha;rw[if_pos ha];simp only[Option.some.injEq,Prod.mk.injEq]at h;obtain⟨rfl,rfl⟩:=h;refine⟨_,?_,id⟩;rw[<- List.map_drop,<- List.map_take,List.length_map,Th hx]
  .rename_i ha;rw[if_neg ha];simp only[Option.some.injEq,Prod.mk.injEq]at h;obtain⟨rfl,rfl⟩:=h;rw[<- List.map_drop];generalize hl:cells.drop j=l at hx
   cases l with
   | nil=>exact⟨_,rfl,fun h=>absurd rfl h⟩
   | cons y l=>
    simp only[List.headD_cons]at hx;refine⟨_,by simp only[List.map_cons,List.headD_cons,hx];rfl,fun _=>by simp⟩
theorem Wa {o:Oper} {e:Env} {H:Heap} {r:Nat} {row:Row} {c:Prop} {x:AV} (cF:∃ ty sz els,row = .sl ty sz els) (h:rd T G ⟨e,H⟩ o.op=some (c,x)) (abL:AL r o e x) :
  ∃ c',rd T G ⟨e,aL (cQ r H) r row⟩ o.op=some (c',x)/\(c->c'):=by
 have yL:=abL.1;have hx:=abL.2;clear abL
 have free:∀ t v,Operand.tmp t∈o.op.operands->e t=some v->v.kill r=v:=by
  intro t v ht hv;have:=yL t ht;rw[hv]at this;simp only[aa6,hv,Option.map_some,Option.some.injEq]at this;exact this.symm
 have ne:∀ (p:Operand) (v:AV),bf G e p=some v->p∈o.op.operands->v.kill r=v:=by
  intro p v hv hp
  cases p with
  | tmp t=>exact free t v hp hv
  | const k=>simp only[bf,Option.some.injEq]at hv;subst hv;unfold cst;split<;>rfl
  | global g=>simp only[bf,Option.map_eq_some_iff]at hv;obtain⟨d,_,rfl⟩:=hv;rfl
  | func f=>simp only[bf,Option.some.injEq]at hv;subst hv;rfl
 have aO:∀ q,q≠r->(aL (cQ r H) r row) q=(H q).map (Row.kill r):=fun q hq=>by simp[aL,hq,cQ]
 obtain⟨dst,op,type,pos,after,guard⟩:=o;dsimp only at h free ne ⊢;by_cases hk:kindOf op=0
 .rw[J6 hk _ H];exact⟨c,h,id⟩
 cases op<;>first | exact absurd rfl hk | skip
 case load t p=>
  simp only[rd]at h ⊢;obtain⟨v,hv,hl⟩:=Option.bind_eq_some_iff.1 h;rw[hv,Option.bind_some];have hf:=ne p v hv (by simp[Op.operands])
  cases v with
  | d x=>cases x<;>first | exact⟨c,hl,id⟩ | cases hl
  | own q off n=>cases hl
  | agg _=>cases hl
  | tup _=>cases hl
  | bA _ _=>cases hl
  | fn _ _=>cases hl
  | bm _ _=>cases hl
  | dead=>cases hl
  | mp _=>cases hl
  | ref q ee j=>
   simp only[ko]at hl ⊢
   have hq:q≠r:=fun e=>by simp[AV.kill,e]at hf
   rw[aO q hq]
   cases hH:H q with
   | none=>simp[hH]at hl
   | some qM=>
    cases qM with
    | sl ty sz els=>simp only[hH]at hl;simp only[Option.map_some,Row.kill];exact⟨c,hl,id⟩
    | mp ty ents=>simp[hH]at hl
    | it ents seen=>simp[hH]at hl
    | box ty cells=>
     simp only[hH]at hl;simp only[Option.map_some,Row.kill];split at hl
     .rename_i he;rw[if_pos he];exact MA hl hx
     .cases hl
 case indexAddr t p i=>
  simp only[rd]at h ⊢;split at h
  .rename_i a b ha hb;have hf:=ne p a ha (by simp[Op.operands])
   have bb:∃ k n,b = .d (.v (.int k n)):=by
    unfold ado at h;split at h
    .exact⟨_,_,rfl⟩
    .exact⟨_,_,rfl⟩
    .exact⟨_,_,rfl⟩
    .exact⟨_,_,rfl⟩
    .cases h
   obtain⟨k,nn,rfl⟩:=bb
   cases a with
   | d x=>cases x<;>first | exact⟨c,h,id⟩ | (cases h;done)
   | ref _ _ _=>exact⟨c,h,id⟩
   | agg _=>cases h
   | tup _=>cases h
   | bA _ _=>cases h
   | fn _ _=>cases h
   | bm _ _=>cases h
   | dead=>cases h
   | mp _=>cases h
   | own q off n=>
   unfold ado at h ⊢
   have hq:q≠r:=fun e=>by simp[AV.kill,e]at hf
   simp only[aO q hq]
   cases hH:H q with
   | none=>simp[hH]at h
   | some qM=>
    cases qM with
    | sl ty sz els=>simp only[hH]at h;exact⟨c,h,id⟩
    | mp ty ents=>
     cases he:lJ T t with
     | none=>simp[he]at h
     | some s=>simp[he,hH]at h
    | it ents seen=>
     cases he:lJ T t with
     | none=>simp[he]at h
     | some s=>simp[he,hH]at h
    | box ty cells=>
     simp only[hH]at h
     cases he:lJ T t with
     | none=>simp[he]at h
     | some s=>rw[he]at h;exact⟨c,h,id⟩
  .cases h
 case slice t p lo hi mx=>
  simp only[rd]at h ⊢;split at h
  .rename_i hm;rw[if_pos hm];split at h
   .rename_i v l hh h1 h2 h3;have hf:=ne p v h1 (by simp[Op.operands])
    cases v with
    | d x=>cases x with
     | v x=>cases x<;>first | exact⟨c,h,id⟩ | (cases h;done)
     | sl k els=>exact⟨c,h,id⟩
     | _=>cases h
    | ref _ _ _=>cases h
    | agg _=>cases h
    | tup _=>cases h
    | bA _ _=>cases h
    | fn _ _=>cases h
    | bm _ _=>cases h
    | dead=>cases h
    | mp _=>cases h
    | own q off n=>
    unfold nv at h ⊢;dsimp only at h ⊢
    have hq:q≠r:=fun e=>by simp[AV.kill,e]at hf
    rw[aO q hq]
    cases hH:H q with
    | none=>simp[hH]at h
    | some qM=>
     cases qM with
     | sl ty sz els=>simp only[hH]at h;exact⟨c,h,id⟩
     | mp ty ents=>simp[hH]at h
     | it ents seen=>simp[hH]at h
     | box ty cells=>simp[hH]at h
   .cases h
  .cases h
 case lookup t p i b=>
  simp only[rd]at h ⊢;split at h
  .rename_i a k ha hb;have hf:=ne p a ha (by simp[Op.operands])
   cases a with
   | mp q=>
    have hq:q≠r:=fun e=>by simp[AV.kill,e]at hf
    cases k with
    | d kx=>
     cases kx with
     | v kv=>
      simp only[ac6]at h ⊢;rw[aO q hq]
      cases hH:H q with
      | none=>simp[hH]at h
      | some qM=>
       cases qM with
       | mp ty ents=>rw[hH]at h;exact⟨c,h,id⟩
       | _=>simp[hH]at h
     | _=>simp[ac6]at h
    | _=>simp[ac6]at h
   | d q=>
    cases q with
    | dm x ents=>
     cases k with
     | d kx=>
      cases kx with
      | v kv=>simp only[ac6]at h ⊢;exact⟨c,h,id⟩
      | _=>simp[ac6]at h
     | _=>simp[ac6]at h
    | _=>simp[ac6]at h
   | _=>simp[ac6]at h
  .cases h
 case call cc=>
  obtain⟨callee,args,argTypes⟩:=cc
  cases callee with
  | builtin b=>cases b<;>first | exact absurd rfl hk | (simp[rd]at h;done)
  | _=>simp[rd]at h
 all_goals first | (simp[rd]at h;done) | skip
end
end Go.Av
namespace Go.Av
def pN (av:List (Nat×List Nat)) (i:Nat):List Nat:=(av.lookup i).getD []
def D3 (o:Op):Bool:=match o with
 | .buildSlice _ _ _=>true
 | .makeSlice _ _ _=>true
 | .alloc _=>true
 | o=>decide (kindOf o<=2)
def pT (la:List (Nat×Nat×Nat)) (av:List (Nat×List Nat)) (ops:Array Oper) (i j:Nat) (oi oj:Oper):Bool:=match la.lookup i,la.lookup j with
 | none,none=>acf ops oi oj
 | none,some (r,s)=>oi.apart ops oj && D3 oi.op && !(oi.dst == some s) && !(oi.dst == some r) && (pN av i).contains r
 | some (r,s),some (r',s')=>oi.apart ops oj && !(r == r') && !(s == r') && !(s' == r)
 | some _,none=>false
section
variable {P:Program} {T:Ty} {Mv X:Nat->Prop} {G:ao} {N:Fr} {ops:Array Oper} {la:List (Nat×Nat×Nat)} {av:List (Nat×List Nat)}
theorem AV.zl (r:Nat) (x:AV):(x.kill r).kill r=x.kill r:=by
 have key:∀ n,∀ x:AV,SizeOf.sizeOf x < n->(x.kill r).kill r=x.kill r:=by
  intro n
  induction n with
  | zero=>intro x h;omega
  | succ n ih=>
   intro x h
   have go:∀ l:List AV,SizeOf.sizeOf l < n->(l.map (AV.kill r)).map (AV.kill r)=l.map (AV.kill r):=by
    intro l
    induction l with
    | nil=>intro _;rfl
    | cons y l wQ=>
     intro hl;simp only[List.cons.sizeOf_spec]at hl;simp only[List.map_cons,List.cons.injEq];exact⟨ih y (by omega),wQ (by omega)⟩
   cases x with
   | d x=>simp[AV.kill]
   | own q off n=>by_cases h1:q=r<;>simp[AV.kill,h1]
   | ref q e j=>by_cases h1:q=r<;>simp[AV.kill,h1]
   | agg cells=>simp at h;simp only[AV.kill,AV.go_eq];rw[go cells (by omega)]
   | tup cells=>simp at h;simp only[AV.kill,AV.go_eq];rw[go cells (by omega)]
   | bA t x=>simp at h;simp only[AV.kill];rw[ih x (by omega)]
   | bm t x=>simp at h;simp only[AV.kill];rw[ih x (by omega)]
   | fn f cells=>simp at h;simp only[AV.kill,AV.go_eq];rw[go cells (by omega)]
   | mp q=>by_cases h1:q=r<;>simp[AV.kill,h1]
   | dead=>simp[AV.kill]
 exact key _ x (Nat.lt_succ_self _)
theorem Row.zl (r:Nat) (x:Row):(x.kill r).kill r=x.kill r:=by
 cases x with
 | sl ty sz els=>rfl
 | mp ty ents=>rfl
 | it ents seen=>rfl
 | box ty cells=>
  simp only[Row.kill,List.map_map];congr 1;apply List.map_congr_left;intro x _;exact AV.zl r x
theorem NT {e:Env} {H:Heap} {r ty sz:Nat} {els:List (List D)} (d:Tmp) (hm:Mv r):aB Mv X G N ⟨eS (aa6 r e) d (.own r 0 els.length),aL (cQ r H) r (.sl ty sz els)⟩ ⟨eS (aa6 r e) d (.d (.sl none els)),aL (cQ r H) r (.sl ty sz [])⟩:=fun w μ a hi=>by
 have hr:aL (cQ r H) r (.sl ty sz els) r=some (.sl ty sz els):=by simp[aL]
 have o8:(fun q=>if q=r then none else μ q)=bL (abE r) μ:=by
  funext q;unfold bL abE;by_cases h:q=r<;>simp[h]
 have ev:Ev Mv w μ w (bL (abE r) μ):=rh fun q _ _ hq=>by
  have e:q=r:=by simpa[abE]using hq
  exact e ▸ hm
 have aO:∀ q,q≠r->bL (abE r) μ q=μ q:=fun q hq=>by simp[bL,abE,hq]
 have hX:∀ b,XX X (bL (abE r) μ) b->XX X μ b:=fun b=>vf
 have h1:In w X G (bL (abE r) μ) N a ⟨eS (aa6 r e) d (.d (.sl none els)),fun q=>if q=r then none else cQ r H q⟩:=by
  refine⟨⟨fun q row hq=>?_,fun q m hq=>?_,fun q q' m1 m2 b h1 h2 cY dA=>hi.aY.inj q q' m1 m2 b (ab3 h1).2 (ab3 h2).2 cY dA,fun q mq b hq hb=>hi.aY.frame q mq b (ab3 hq).2 hb,hi.aY.fits⟩,
   ⟨hi.env.defers,hi.env.size,fun i x hx=>?_⟩,fun g x hx=>(hi.gq g x hx).sub hX⟩
  .dsimp only at hq;split at hq
   .cases hq
   .rename_i hqr;obtain⟨m,o6,ok⟩:=hi.aY.rows q row (by simpa[aL,hqr]using hq);obtain⟨kU,_,rfl⟩:=Option.map_eq_some_iff.1 (show (H q).map (Row.kill r)=some row from hq);refine⟨m,by rw[aO q hqr];exact o6,?_⟩;have:=abV.keep ev aO (fun _ _=>rfl) ok
    rwa [Row.zl]at this
  .obtain⟨hk,o6⟩:=ab3 hq
   have hqr:q≠r:=by simpa[abE]using hk
   obtain⟨row,cF⟩:=hi.aY.iu q m o6;exact⟨row,by simpa[aL,hqr]using cF⟩
  .simp only[eS]at hx;split at hx
   .rename_i hid;subst hid;obtain rfl:=Option.some.inj hx;obtain⟨u,hu,ft⟩:=hi.env.slot i (.own r 0 els.length) (by simp[eS]);refine⟨u,hu,?_⟩;obtain⟨k,hk,_⟩:=zP hi.aY hr (by omega) ft;rw[o8]at hk;have:=RV.d (w:=w) (μ:=bL (abE r) μ) hk.nw;simpa using this
   .rename_i hid;obtain⟨x0,h0,rfl⟩:=Option.map_eq_some_iff.1 (show (e i).map (AV.kill r)=some x from hx);obtain⟨u,hu,ft⟩:=hi.env.slot i (x0.kill r) (by simp[eS,hid,aa6,h0]);refine⟨u,hu,?_⟩;have:=RV.keep ev aO ft
    rwa [AV.zl]at this
 obtain⟨aF,rf⟩:=h1.alloc (Mv:=Mv) (d:=r) (w':=w) (m:=⟨none,sz,0⟩) (by simp) (bY.refl w) (by simp) (row:=.sl ty sz []) fun _=>.nil rfl rfl
 have hH:aL (fun q=>if q=r then none else cQ r H q) r (.sl ty sz [])=aL (cQ r H) r (.sl ty sz []):=by
  funext q;by_cases h:q=r<;>simp[aL,h]
 refine⟨_,?_,ev.trans rf⟩;rw[<- hH];exact aF
def Fin (Mv:Nat->Prop) (r m:Nat) (row:Row) (y:AV) (agQ:Row):Prop:=
 (y = .own r 0 m/\agQ=row)\/(Mv r/\∃ ty sz els,row = .sl ty sz els/\m=els.length/\y = .d (.sl none els)/\agQ = .sl ty sz [])
theorem Fin.row {r m:Nat} {row agQ:Row} {y:AV} (h:Fin Mv r m row y agQ) (cF:∃ ty sz els,row = .sl ty sz els):∃ ty sz els,agQ = .sl ty sz els:=by
 rcases h with⟨_,rfl⟩ | ⟨_,ty,sz,els,_,_,_,rfl⟩
 .exact cF
 .exact⟨_,_,_,rfl⟩
theorem Fin.kill {r m q:Nat} {row agQ:Row} {y:AV} (h:Fin Mv r m row y agQ) (hq:r≠q):y.kill q=y:=by
 rcases h with⟨rfl,_⟩ | ⟨_,ty,sz,els,_,_,rfl,_⟩
 .simp[AV.kill,hq]
 .rfl
def pM (P:Program) (T:Ty) (Mv:Nat->Prop) (G:ao) (N:Fr) (la:List (Nat×Nat×Nat)) (av:List (Nat×List Nat)) (i:Nat) (o:Oper) (σ aw:St):Prop:=
 abF N o/\o.guard=none/\match la.lookup i with
  | some (r,s)=>∃ m row y agQ,aca T G Mv o σ.env σ.H r s m row/\Fin Mv r m row y agQ/\aw=⟨aD (aa6 r σ.env) o.dst y,aL (cQ r σ.H) r agQ⟩
  | none=>kindOf o.op≠9/\∃ x H',Ex P T Mv G o σ.env σ.H x H'/\aw=⟨aD σ.env o.dst x,H'⟩/\(∀ r∈pN av i,AL r o σ.env x)/\(pN av i≠[]->∀ c,cz o.op=some c->∃ y g ds,tgt G σ.env c=some (g,ds.map .d)/\ar P G g ds y/\x = .d y)
theorem pM.step {i:Nat} {o:Oper} {σ aw:St} (h:pM P T Mv G N la av i o σ aw):∃ Ff,sP P T Mv G N ops o σ Ff/\aB Mv X G N Ff aw:=by
 obtain⟨hd,hg,h⟩:=h;split at h
 .obtain⟨m,row,y,agQ,h1,hf,rfl⟩:=h;refine⟨_,⟨hd,.inl ⟨ik hg,h1.to⟩⟩,?_⟩
  rcases hf with⟨rfl,rfl⟩ | ⟨hm,ty,sz,els,rfl,rfl,rfl,rfl⟩
  .exact .refl _
  .obtain⟨_,_,d,rF⟩:=h1.row;rw[rF];exact NT d hm
 .obtain⟨_,x,H',h1,rfl,_⟩:=h;exact⟨_,⟨hd,.inl ⟨ik hg,h1.to⟩⟩,.refl _⟩
theorem Ex.newRow {o:Oper} (hk:¬ kindOf o.op<=2) (ho:D3 o.op=true) {e:Env} {H H':Heap} {x:AV} (h:Ex P T Mv G o e H x H'):∃ d row,o.dst=some d/\H d=none/\H'=aL H d row/\(∀ q,row.kill q=row)/\∀ H2,H2 d=none->Ex P T Mv G o e H2 x (aL H2 d row):=by
 obtain⟨dst,op,type,pos,after,guard⟩:=o;dsimp only at hk ho;unfold Ex at h;unfold Ex
 cases op<;>simp only[D3,decide_eq_true_eq]at ho<;>first | exact absurd ho hk | skip
 case alloc t=>
  simp only[cz,eD,if_true]at h ⊢;obtain⟨c,h1,h2⟩:=h
  cases dst with
  | none=>cases h1
  | some d=>
   simp only[wr]at h1 ⊢;split at h1
   .rename_i ti C8;simp only[Option.some.injEq,Prod.mk.injEq,St.mk.injEq,true_and]at h1;obtain⟨rfl,rfl,rfl⟩:=h1;exact⟨d,_,rfl,h2,rfl,fun q=>by simp[Row.kill,cst,AV.kill],fun H2 h=>⟨_,rfl,h⟩⟩
   .cases h1
 case makeSlice t y z=>
  simp only[cz,eD,if_true]at h ⊢;obtain⟨c,h1,h2⟩:=h
  cases dst with
  | none=>cases h1
  | some d=>
   simp only[wr]at h1 ⊢;split at h1
   .split at h1
    .split at h1
     .simp only[Option.some.injEq,Prod.mk.injEq,St.mk.injEq,true_and]at h1;obtain⟨rfl,rfl,rfl⟩:=h1;exact⟨d,_,rfl,h2.1,rfl,fun _=>rfl,fun H2 h=>⟨_,rfl,h,h2.2⟩⟩
     .cases h1
    .cases h1
   .cases h1
 case buildSlice t n ps=>
  simp only[cz,eD,if_true]at h ⊢;obtain⟨c,h1,h2⟩:=h
  cases dst with
  | none=>cases h1
  | some d=>
   simp only[wr]at h1 ⊢;split at h1
   .split at h1
    .split at h1
     .split at h1
      .simp only[Option.some.injEq,Prod.mk.injEq,St.mk.injEq,true_and]at h1;obtain⟨rfl,rfl,rfl⟩:=h1;exact⟨d,_,rfl,h2.1,rfl,fun _=>rfl,fun H2 h=>⟨_,rfl,h,h2.2⟩⟩
      .cases h1
     .cases h1
    .cases h1
   .cases h1
theorem IB {r q off n:Nat} {z:AV} (h:z.kill r = .own q off n):z = .own q off n:=by
 cases z<;>simp only[AV.kill,reduceCtorEq]at h
 .split at h
  .cases h
  .exact h
 .split at h<;>cases h
 .split at h<;>cases h
theorem Sf {r:Nat} {x:D} {z:AV} (h:z.kill r = .d x):z = .d x:=by
 cases z<;>simp only[AV.kill,reduceCtorEq]at h
 .exact h
 .split at h<;>cases h
 .split at h<;>cases h
 .split at h<;>cases h
theorem zD {H:Heap} {r:Nat} {v:AV} {l:List (List D)} (h:jz H r v=some l):(∃ x,v = .d x)\/∃ q off n,v = .own q off n:=by
 unfold jz at h;split at h
 .exact .inl ⟨_,rfl⟩
 .exact .inr ⟨_,_,_,rfl⟩
 .cases h
theorem afq {r:Nat} {e:Env} {p:Operand}:bf G (aa6 r e) p=(bf G e p).map (AV.kill r):=by
 cases p with
 | tmp t=>rfl
 | const k=>simp only[bf,Option.map_some];unfold cst;split<;>rfl
 | global g=>simp only[bf,Option.map_map];rfl
 | func f=>rfl
theorem aca.Yb {o:Oper} {e:Env} {H H2:Heap} {r s m q:Nat} {row:Row} (h:aca T G Mv o (aa6 q e) H r s m row) (hr:H2 r=H r) (hs:H2 s=H s):aca T G Mv o e H2 r s m row:=by
 obtain⟨x,y,off,n,v,ty,sz,els,news,c,h1,h2,h3,h4,h5,h6,h7,h8⟩:=h;rw[afq]at h2 h3;obtain⟨z1,uf,e1⟩:=Option.map_eq_some_iff.1 h2;obtain⟨z2,Dg,e2⟩:=Option.map_eq_some_iff.1 h3;have:=IB e1;subst this
 have hz:z2=v:=by
  rcases zD h6 with⟨x,rfl⟩ | ⟨_,_,_,rfl⟩
  .exact Sf e2
  .exact IB e2
 subst hz;exact⟨x,y,off,n,z2,ty,sz,els,news,c,h1,uf,Dg,h4,by rw[hr];exact h5,by rw[Jo h4 hs];exact h6,h7,h8⟩
theorem aca.Wj {o:Oper} {e:Env} {H H2:Heap} {r s m q:Nat} {row:Row} (h:aca T G Mv o e H r s m row) (hq:r≠q) (hq':s≠q) (hr:H2 r=H r) (hs:∀ ty sz els,H s=some (.sl ty sz els)->H2 s=H s):aca T G Mv o (aa6 q e) H2 r s m row:=by
 obtain⟨x,y,off,n,v,ty,sz,els,news,c,h1,h2,h3,h4,h5,h6,h7,h8⟩:=h;refine⟨x,y,off,n,v,ty,sz,els,news,c,h1,by rw[afq,h2];simp[AV.kill,hq],?_,h4,by rw[hr];exact h5,?_,h7,h8⟩
 .rw[afq,h3]
  rcases zD h6 with⟨x,rfl⟩ | ⟨q',_,_,rfl⟩
  .rfl
  .simp only[oK]at h4;subst h4;simp[AV.kill,hq']
 .rcases zD h6 with⟨x,rfl⟩ | ⟨q',Vl,n',rfl⟩
  .cases x<;>first | exact h6 | cases h6
  .simp only[oK]at h4;subst h4;simp only[jz]at h6 ⊢;split at h6
   .cases h6
   .rename_i aO;rw[if_neg aO];split at h6
    .rename_i Lt An kA hH;rw[hs _ _ _ hH,hH];exact h6
    .cases h6
theorem HZ {H:Heap} {r d:Nat} {a b:Row} (h:d≠r):aL (aL H r a) d b=aL (aL H d b) r a:=by
 funext i;by_cases h1:i=d<;>by_cases h2:i=r<;>simp[aL,h1,h2,h,Ne.symm h]
theorem Dq {H:Heap} {r d:Nat} {b:Row} (hb:b.kill r=b):cQ r (aL H d b)=aL (cQ r H) d b:=by
 funext i;by_cases h1:i=d<;>simp[aL,cQ,h1,hb]
theorem afr {o:Oper} {e e':Env} {r:Nat} (h:∀ t,Operand.tmp t∈o.op.operands->e' t=e t) (ha:fA o.op e (aa6 r e)):fA o.op e' (aa6 r e'):=fun t ht=>by
 have h1:=ha t ht;simp only[aa6]at h1 ⊢;rw[h t ht];exact h1
theorem S8 {i j:Nat} {oi oj:Oper} (hc:pT la av ops i j oi oj=true) {σ aI eL:St} (h1:pM P T Mv G N la av i oi σ aI) (h2:pM P T Mv G N la av j oj aI eL) :
  ∃ e6,pM P T Mv G N la av j oj σ e6/\pM P T Mv G N la av i oi e6 eL:=by
 obtain⟨di,gi,h1⟩:=h1;obtain⟨dj,gj,h2⟩:=h2;obtain⟨e,H⟩:=σ
 cases o5:la.lookup i with
 | none=>
  simp only[o5]at h1;obtain⟨ki,x,H1,jH,rfl,sE,Bc⟩:=h1
  cases dH:la.lookup j with
  | none=>
   simp only[dH]at h2;obtain⟨kj,y,H2,Ow,rfl,zL,Na⟩:=h2;simp only[pT,o5,dH]at hc;obtain⟨H3,f1,f2⟩:=aes hc (x:=x) (y:=y) (e:=e) (H:=H) ⟨di,.inl ⟨ik gi,jH⟩⟩ ⟨dj,.inl ⟨ik gj,Ow⟩⟩ ki kj
   have ej:Ex P T Mv G oj e H y H3:=by
    rcases f1.2 with⟨_,h⟩ | ⟨h,_⟩
    .exact h
    .rw[ik gj]at h;cases h
   have ei:Ex P T Mv G oi (aD e oj.dst y) H3 x H2:=by
    rcases f2.2 with⟨_,h⟩ | ⟨h,_⟩
    .exact h
    .rw[ik gi]at h;cases h
   simp only[acf,Bool.and_eq_true]at hc;obtain⟨a1,_,aO⟩:=ace hc.1 (e:=e) (v:=x);obtain⟨_,a2,_⟩:=ace hc.1 (e:=e) (v:=y);refine⟨⟨aD e oj.dst y,H3⟩,⟨dj,gj,?_⟩,⟨di,gi,?_⟩⟩
   .simp only[dH];refine⟨kj,y,H3,ej,rfl,fun r hr=>⟨afr (e:=aD e oi.dst x) (fun t ht=>(a1 t (iF ht)).symm) (zL r hr).1,(zL r hr).2⟩,fun ha c bW=>?_⟩;obtain⟨y',g,ds,ht,hp⟩:=Na ha c bW;exact⟨y',g,ds,by rw[<- ht];exact uX fun t ht=>(a1 t (iF (by rw[(qt bW).1];exact ht))).symm,hp⟩
   .simp only[o5];refine⟨ki,x,H2,ei,by rw[fG aO],fun r hr=>⟨afr (e:=e) (fun t ht=>a2 t (iF ht)) (sE r hr).1,(sE r hr).2⟩,fun ha c bW=>?_⟩;obtain⟨y',g,ds,ht,hp⟩:=Bc ha c bW;exact⟨y',g,ds,by rw[<- ht];exact uX fun t ht=>a2 t (iF (by rw[(qt bW).1];exact ht)),hp⟩
  | some rs=>
   obtain⟨r,s⟩:=rs;simp only[dH]at h2;obtain⟨m,row,yr,agQ,app,fin,rfl⟩:=h2;simp only[pT,o5,dH,Bool.and_eq_true,Bool.not_eq_true',beq_eq_false_iff_ne,List.contains_iff_mem]at hc;obtain⟨⟨⟨⟨eX,bJ⟩,hs⟩,hr⟩,Hf⟩:=hc;obtain⟨yL,hx⟩:=sE r Hf;obtain⟨a1,_,aO⟩:=ace eX (e:=e) (v:=x);obtain⟨_,a2,_⟩:=ace eX (e:=aa6 r e) (v:=yr);obtain⟨r0,yC,_⟩:=app.row;have cF:=fin.row r0;have agj:fA oj.op (aD e oi.dst x) e:=fun t ht=>a1 t (iF ht);have e3:∀ t,Operand.tmp t∈oi.op.operands->(aD (aa6 r e) oj.dst (yr)) t=e t:=fun t ht=>(a2 t (iF ht)).trans (yL t ht).symm
   have main:aca T G Mv oj e H r s m row/\∃ H2,Ex P T Mv G oi e (aL (cQ r H) r agQ) x H2/\H2=aL (cQ r H1) r agQ:=by
    by_cases hk2:kindOf oi.op<=2
    .have:=jH.keeps hk2;subst this;refine⟨app.congr agj rfl rfl,_,?_,rfl⟩
     cases dG:cz oi.op with
     | some c=>
      obtain⟨y,g,ds,ht,hp,rfl⟩:=Bc (List.ne_nil_of_mem Hf) c dG;unfold Ex;simp only[dG];exact⟨y,⟨g,_,ht,.inl ⟨ds,rfl,hp⟩⟩,rfl,trivial⟩
     | none=>
      unfold Ex at jH ⊢;simp only[dG]at jH ⊢
      have hw:¬ eD oi.op=true:=fun hw=>by rcases zg hw with h | h | h<;>omega
      rw[if_neg hw]at jH ⊢;obtain⟨c,bC,bW,_⟩:=jH;obtain⟨c',h',hi'⟩:=Wa cF bC ⟨yL,hx⟩;exact⟨c',h',hi' bW,trivial⟩
    .obtain⟨d,qM,hd,hn,rfl,eg,bB⟩:=jH.newRow hk2 bJ;have jn:d≠r:=fun e=>hr (by rw[hd,e]);have jo:d≠s:=fun e=>hs (by rw[hd,e]);refine⟨app.congr agj (by simp[aL,Ne.symm jn]) (by simp[aL,Ne.symm jo]),_,bB _ (by simp[aL,jn,cQ,hn]),?_⟩;rw[Dq (eg r),HZ jn]
   obtain⟨xP,H2,Ov,rfl⟩:=main;refine⟨⟨aD (aa6 r e) oj.dst (yr),aL (cQ r H) r agQ⟩,⟨dj,gj,?_⟩,⟨di,gi,?_⟩⟩
   .simp only[dH];exact⟨m,row,yr,agQ,xP,fin,rfl⟩
   .simp only[o5];refine⟨ki,x,_,Ov.congr ki fun t ht=>(e3 t ht).symm,?_,fun q hq=>⟨afr e3 (sE q hq).1,(sE q hq).2⟩,fun ha c bW=>?_⟩
    .rw[zk,hx,fG aO]
    .obtain⟨y',g,ds,ht,hp⟩:=Bc ha c bW;exact⟨y',g,ds,by rw[<- ht];exact uX fun t ht=>e3 t (by rw[(qt bW).1];exact ht),hp⟩
 | some rs=>
  obtain⟨r,s⟩:=rs;simp only[o5]at h1;obtain⟨m,row,y1,Zy,app,fin,rfl⟩:=h1
  cases dH:la.lookup j with
  | none=>simp[pT,o5,dH]at hc
  | some WN=>
   obtain⟨r',s'⟩:=WN;simp only[dH]at h2;obtain⟨m',agQ,y2,Zz,xP,BF,rfl⟩:=h2;simp only[pT,o5,dH,Bool.and_eq_true,Bool.not_eq_true',beq_eq_false_iff_ne]at hc;obtain⟨⟨⟨eX,iD⟩,hs⟩,lQ⟩:=hc;obtain⟨a1,_,aO⟩:=ace eX (e:=aa6 r e) (v:=y1);obtain⟨_,a2,_⟩:=ace eX (e:=aa6 r' e) (v:=y2);obtain⟨⟨Lu,Lh,Gh,rfl⟩,⟨t1,z1,l1,yC⟩,_⟩:=app.row;obtain⟨⟨EZ,ES,mQ,rfl⟩,⟨t2,z2,l2,O7⟩,_⟩:=xP.row;obtain⟨Lv,XK,NZ,rfl⟩:=fin.row ⟨_,_,_,rfl⟩;obtain⟨ty4,ET,Bx,rfl⟩:=BF.row ⟨_,_,_,rfl⟩
   have Hz:∀ q,q≠r->∀ ty sz els,(cQ r H) q=some (.sl ty sz els)->H q=some (.sl ty sz els):=by
    intro q _ ty sz els hq;obtain⟨kU,h0,he⟩:=Option.map_eq_some_iff.1 hq
    cases kU with
    | sl _ _ _=>rw[h0];exact congrArg some he
    | box _ _=>cases he
    | mp _ _=>cases he
    | it _ _=>cases he
   have oL:H r'=some (.sl t2 z2 l2):=Hz r' (Ne.symm iD) _ _ _ (by simpa[aL,Ne.symm iD]using O7);have p1:aca T G Mv oj (aa6 r e) (aL (cQ r H) r (.sl Lv XK NZ)) r' s' m' (.sl EZ ES mQ):=xP.congr (fun t ht=>a1 t (iF ht)) rfl rfl
   have p2:aca T G Mv oj e H r' s' m' (.sl EZ ES mQ):=by
    obtain⟨x,y,off,n,v,ty,sz,els,news,c,g1,g2,g3,g4,g5,g6,g7,g8⟩:=p1
    have Q1:jz H r' v=some news:=by
     rcases zD g6 with⟨x,rfl⟩ | ⟨q',Vl,n',rfl⟩
     .cases x<;>first | exact g6 | cases g6
     .simp only[oK]at g4;subst g4;simp only[jz]at g6 ⊢;split at g6
      .cases g6
      .rename_i hq;rw[if_neg hq];split at g6
       .rename_i Lt An kA dY;have:H q'=some (.sl Lt An kA):=Hz q' lQ _ _ _ (by simpa[aL,lQ]using dY);rw[this];exact g6
       .cases g6
    have:aca T G Mv oj (aa6 r e) H r' s' m' (.sl EZ ES mQ):=⟨x,y,off,n,v,ty,sz,els,news,c,g1,g2,g3,g4,by rw[oL];simpa[aL,Ne.symm iD,cQ,oL,Row.kill]using g5,Q1,g7,g8⟩;exact this.Yb rfl rfl
   have q1:aca T G Mv oi (aa6 r' e) (aL (cQ r' H) r' (.sl ty4 ET Bx)) r s m (.sl Lu Lh Gh):=by
    refine app.Wj iD hs ?_ fun ty sz els hh=>?_
    .simp[aL,iD,cQ,yC,Row.kill]
    .simp[aL,hs,cQ,hh,Row.kill]
   have q2:aca T G Mv oi (aD (aa6 r' e) oj.dst y2) (aL (cQ r' H) r' (.sl ty4 ET Bx)) r s m (.sl Lu Lh Gh):=q1.congr (fun t ht=>(a2 t (iF ht)).symm) rfl rfl;refine⟨⟨aD (aa6 r' e) oj.dst y2,aL (cQ r' H) r' (.sl ty4 ET Bx)⟩,⟨dj,gj,?_⟩,⟨di,gi,?_⟩⟩
   .simp only[dH];exact⟨m',_,y2,_,p2,BF,rfl⟩
   .simp only[o5];refine⟨m,_,y1,_,q2,fin,?_⟩;have k1:AV.kill r' y1=y1:=fin.kill iD;have k2:AV.kill r y2=y2:=BF.kill (Ne.symm iD);rw[zk,zk,k1,k2,Sb r' r,fG aO,Dq rfl,Dq rfl,Se r' r,HZ iD]
def uS (P:Program) (T:Ty) (Mv:Nat->Prop) (G:ao) (N:Fr) (la:List (Nat×Nat×Nat)) (av:List (Nat×List Nat)) (ops:Array Oper):List Nat->St->St->Prop
 | [],σ,aw=>σ=aw
 | i :: l,σ,aw=>∃ o,ops[i]? = some o/\∃ aI,pM P T Mv G N la av i o σ aI/\uS P T Mv G N la av ops l aI aw
theorem WR {p:Nat} {op:Oper} (hp:ops[p]? = some op):∀ (l1:List Nat) {l2:List Nat} {σ aw:St},(∀ q∈l1,∀ oq,ops[q]? = some oq->pT la av ops q p oq op=true)->uS P T Mv G N la av ops (l1 ++ p :: l2) σ aw->uS P T Mv G N la av ops (p :: (l1 ++ l2)) σ aw:=by
 intro l1
 induction l1 with
 | nil=>intro l2 σ aw _ h;exact h
 | cons q l1 ih=>
  intro l2 σ aw bB h;obtain⟨oq,hq,aI,s1,rest⟩:=h;obtain⟨o',eO,eL,s2,py⟩:=ih (fun q' hq'=>bB q' (by simp[hq'])) rest;rw[hp]at eO;obtain rfl:=Option.some.inj eO;obtain⟨e6,f1,f2⟩:=S8 (bB q (by simp) oq hq) s1 s2;exact⟨op,hp,e6,f1,oq,hq,eL,f2,py⟩
def uH (la:List (Nat×Nat×Nat)) (av:List (Nat×List Nat)) (ord:List Nat) (ops:Array Oper):Bool:=
 let t:=tb ops
 ord.length == ops.size && (ord.all fun i=>decide (i < ops.size)) && ((List.range ops.size).all fun i=>ord.contains i) && decide ord.Nodup &&
 ((List.range ops.size).all fun j=>match ops[j]? with
  | some oj=>oj.after.all fun e=>!Region.binds .any e || e.on < j
  | none=>true) &&
 go t ord
where
 go (t:List Nat):List Nat->Bool
 | []=>true
 | a :: l=>(l.all fun b=>match ops[a]?,ops[b]? with
  | some oa,some ob=>(oa.after.all fun e=>!Region.binds .any e || !(e.on == b)) && ((t.getD b 0).testBit a || pT la av ops a b oa ob)
  | _,_=>true) && go t l
def AO (la:List (Nat×Nat×Nat)) (av:List (Nat×List Nat)) (ops:Array Oper) (a b:Nat):Prop:=∀ oa ob,ops[a]? = some oa->ops[b]? = some ob->
 (∀ e∈oa.after,Region.binds .any e=true->e.on≠b)/\(((tb ops).getD b 0).testBit a=true\/pT la av ops a b oa ob=true)
theorem JK:∀ {l:List Nat},uH.go la av ops (tb ops) l=true->l.Pairwise (AO la av ops)
 | [],_=>.nil
 | a :: l,h=>by
  simp only[uH.go,Bool.and_eq_true]at h;refine .cons (fun b hb oa ob pb hob=>?_) (JK h.2);have:=List.all_eq_true.1 h.1 b hb;simp only[pb,hob,Bool.and_eq_true,Bool.or_eq_true]at this;refine⟨fun e he oS heq=>?_,this.2⟩;have h1:=Array.all_eq_true_iff_forall_mem.1 this.1 e he;simp[oS,heq]at h1
theorem vl (ay:∀ j oj,ops[j]? = some oj->∀ e∈oj.after,Region.binds .any e=true->e.on < j) {listed:Array Bool} (acJ:∀ j oj,ops[j]? = some oj->listed.getD j false=true->∀ e∈oj.after,Region.binds .any e=true->listed.getD e.on false=true) :
  ∀ (n j:Nat) (oj:Oper),j<=n->ops[j]? = some oj->(∀ e∈oj.after,Region.binds .any e=true->listed.getD e.on false=true)->∀ q,((tb ops).getD j 0).testBit q=true->listed.getD q false=true:=by
 intro n
 induction n with
 | zero=>
  intro j oj hj bw bB q hq
  have jt:j=0:=by omega
  subst jt;obtain⟨e,he,hb,_⟩:=xF ops.toList [] 0 oj q (by simpa using bw) (by simpa[tb]using hq);have:=ay 0 oj bw e he hb;omega
 | succ n ih=>
  intro j oj hj bw bB q hq;obtain⟨e,he,hb,r⟩:=xF ops.toList [] j oj q (by simpa using bw) (by simpa[tb]using hq)
  rcases r with rfl | ⟨_,r⟩
  .exact bB e he hb
  .have CJ:=ay j oj bw e he hb
   have aaZ:e.on < ops.size:=by have:=(Array.getElem?_eq_some_iff.1 bw).1;omega
   exact ih e.on ops[e.on] (by omega) (by simp[aaZ]) (fun e' gV aT=>acJ e.on _ (by simp[aaZ]) (bB e he hb) e' gV aT) q (by simpa[tb]using r)
theorem Mj (hg:Good P T) (ay:∀ j oj,ops[j]? = some oj->∀ e∈oj.after,Region.binds .any e=true->e.on < j) {Q:Exit->St->Prop} {w0:World} {gm:Mu} {σn:St} (hQ:Q .normal σn):∀ (n:Nat) (R:List Nat) (listed:Array Bool) (w:World) (μ:Mu) (a:Act) (σ:St),R.length=n->R.Nodup->
  (∀ j,j∈R↔j < ops.size/\listed.getD j true=false)->listed.size=ops.size->R.Pairwise (AO la av ops)->
  (∀ j oj,ops[j]? = some oj->listed.getD j false=true->∀ e∈oj.after,Region.binds .any e=true->listed.getD e.on false=true)->uS P T Mv G N la av ops R σ σn->In w X G μ N a σ->Ev Mv w0 gm w μ->
  wpAnyIn (wd N.ro) 0 P .any ops (After Mv X G N w0 gm Q) n listed a w:=by
 intro n
 induction n with
 | zero=>
  intro R listed w μ a σ hl _ hR aK _ _ bR hi aJ;have:R=[]:=List.eq_nil_of_length_eq_zero hl;subst this
  have hr:Region.ready .any ops listed=[]:=by
   apply List.eq_nil_iff_forall_not_mem.2;intro j hj;obtain⟨h1,o,ho,_⟩:=mem_ready.1 hj;exact absurd ((hR j).2 ⟨(Array.getElem?_eq_some_iff.1 ho).1,h1⟩) (by simp)
  have:σ=σn:=bR;subst this;exact⟨hr,μ,σ,hQ,hi,aJ⟩
 | succ n ih=>
  intro R listed w μ a σ hl fe hR aK fL acJ bR hi aJ;refine⟨fun hr=>?_,fun i nc=>?_⟩
  .cases R with
   | nil=>simp at hl
   | cons j R=>
    obtain⟨ia,hj2⟩:=(hR j).1 (by simp)
    have bw:ops[j]? = some ops[j]:=by simp[ia]
    have jN:j∈Region.ready .any ops listed:=by
     refine mem_ready.2 ⟨hj2,ops[j],bw,fun e he hb=>?_⟩;have qj:=ay j ops[j] bw e he hb
     have aaZ:e.on < ops.size:=by omega
     have aO:e.on ∉ (j :: R):=by
      intro hm
      rcases List.mem_cons.1 hm with h | h
      .omega
      .exact ((List.pairwise_cons.1 fL).1 _ h ops[j] ops[e.on] bw (by simp[aaZ])).1 e he hb rfl
     have:=mt (hR e.on).2 aO
     have gX:e.on < listed.size:=by omega
     simp only[aaZ,true_and,Array.getD_eq_getD_getElem?]at this ⊢;simp[gX]at this ⊢;exact this
    rw[hr]at jN;cases jN
  .obtain⟨cO,oi,b5,bB⟩:=mem_ready.1 nc;have na:i∈R:=(hR i).2 ⟨(Array.getElem?_eq_some_iff.1 b5).1,cO⟩;obtain⟨R1,R2,rfl⟩:=List.append_of_mem na
   have mZ:=WR (P:=P) (T:=T) (Mv:=Mv) (G:=G) (N:=N) (la:=la) (av:=av) b5 R1 (fun q hq oq jR=>by
    have pc:AO la av ops q i:=(List.pairwise_append.1 fL).2.2 q hq i (by simp)
    rcases (pc oq oi jR b5).2 with h | h
    .exfalso;have jO:=vl ay acJ i i oi (Nat.le_refl _) b5 bB q h;have dY:=((hR q).1 (by simp[hq])).2
     have nh:q < listed.size:=by have:=(Array.getElem?_eq_some_iff.1 jR).1;omega
     simp[Array.getD_eq_getD_getElem?,nh]at jO dY;rw[jO]at dY;cases dY
    .exact h) bR
   obtain⟨o',eO,aI,hstep,bt⟩:=mZ;rw[b5]at eO;obtain rfl:=Option.some.inj eO;obtain⟨Ff,eJ,himp⟩:=hstep.step (ops:=ops) (X:=X);refine uW hg eJ hi b5 fun w' YP a' Qv Qi=>?_;obtain⟨ax,aF,Cq⟩:=himp w' YP a' Qv;have iP:=Qi.trans Cq
   have nd:(R1 ++ R2).Nodup:=by
    have:=fe;rw[List.nodup_append]at this ⊢;obtain⟨g1,g2,g3⟩:=this;exact⟨g1,(List.nodup_cons.1 g2).2,fun x hx y hy=>g3 x hx y (by simp[hy])⟩
   have ady:i ∉ R1 ++ R2:=by
    have:=fe;rw[List.nodup_append]at this;obtain⟨g1,g2,g3⟩:=this;intro hm
    rcases List.mem_append.1 hm with h | h
    .exact g3 i h i (by simp) rfl
    .exact (List.nodup_cons.1 g2).1 h
   refine ih (R1 ++ R2) _ w' ax a' aI (by simp at hl ⊢;omega) nd (fun j=>?_) (by simpa using aK) ?_ ?_ bt aF (aJ.trans iP)
   .by_cases hji:j=i
    .subst hji
     have gX:j < listed.size:=by rw[aK];exact (Array.getElem?_eq_some_iff.1 b5).1
     simp[gX];simpa using ady
    .rw[getD_set_ne true (Ne.symm hji)];rw[<- hR j];simp[hji]
   .rw[List.pairwise_append]at fL ⊢;obtain⟨g1,g2,g3⟩:=fL;exact⟨g1,(List.pairwise_cons.1 g2).2,fun x hx y hy=>g3 x hx y (by simp[hy])⟩
   .intro j oj bw dH e he hb;by_cases hji:j=i
    .subst hji;rw[b5]at bw;obtain rfl:=Option.some.inj bw;exact getD_set_true (bB e he hb)
    .rw[getD_set_ne false (Ne.symm hji)]at dH;exact getD_set_true (acJ j oj bw dH e he hb)
def sF (r:Nat) (e:Env):List Operand->Prop
 | []=>True
 | .tmp t :: l=>(e t).map (AV.kill r)=e t/\sF r e l
 | _ :: l=>sF r e l
theorem D2 {r:Nat} {e:Env}:∀ {l:List Operand},sF r e l->∀ t,Operand.tmp t∈l->e t=aa6 r e t
 | [],_,t,ht=>by cases ht
 | p :: l,h,t,ht=>by
  cases p with
  | tmp u=>
   simp only[sF]at h
   rcases List.mem_cons.1 ht with h1 | h1
   .cases h1;exact h.1.symm
   .exact D2 h.2 t h1
  | _=>
   simp only[sF]at h
   rcases List.mem_cons.1 ht with h1 | h1
   .cases h1
   .exact D2 h t h1
def qF (rs:List Nat) (ps:List Operand) (e:Env) (x:AV):Prop:=match rs with
 | []=>True
 | r :: rs=>(sF r e ps/\x.kill r=x)/\qF rs ps e x
theorem zM {o:Oper} {e:Env} {x:AV}:∀ {rs:List Nat},qF rs o.op.operands.toList e x->∀ r∈rs,AL r o e x
 | [],_,r,hr=>by cases hr
 | q :: rs,h,r,hr=>by
  simp only[qF]at h
  rcases List.mem_cons.1 hr with rfl | hr
  .exact⟨fun t ht=>D2 h.1.1 t (by simpa using ht),h.1.2⟩
  .exact zM h.2 r hr
def mM (P:Program) (G:ao) (c:Call) (e:Env) (dst:Option Tmp) (H:Heap) (rs:List Nat) (ps:List Operand) (next:St->Prop):Prop:=∃ y g ds,tgt G e c=some (g,ds.map .d)/\ar P G g ds y/\qF rs ps e (.d y)/\next ⟨aD e dst (.d y),H⟩
theorem mM.mk {c:Call} {e:Env} {dst:Option Tmp} {H:Heap} {rs:List Nat} {ps:List Operand} {next:St->Prop} {g:FuncId} {xs:List AV} {ds ef:List D} {y:D} (hc:ar P G g ds y) (ht:tgt G e c=some (g,xs)) (hx:iI xs=some ef) (hle:D.le.go ef ds)
  (ho:qF rs ps e (.d y)) (h:next ⟨aD e dst (.d y),H⟩):mM P G c e dst H rs ps next:=⟨y,g,ef,by rw[ht,lF hx],hc.nw hle,ho,h⟩
def vx (Mv:Nat->Prop) (dst:Option Tmp) (r s:Nat) (z:AV) (σ:St) (next:St->Prop):Prop:=
 if s=r then match σ.H r,z with
  | some (.sl ty sz els),.own _ _ m=>Mv r/\m=els.length/\next ⟨aD σ.env dst (.d (.sl none els)),aL σ.H r (.sl ty sz [])⟩
  | _,_=>False
 else next ⟨aD σ.env dst z,σ.H⟩
def xQ (T:Ty) (Mv:Nat->Prop) (G:ao) (o:Oper) (σ:St) (r s:Nat) (next:St->Prop):Prop:=match s7 o with
 | some (x,y)=>match bf G σ.env x,bf G σ.env y with
  | some (.own q _ _),some v=>q=r/\oK s v/\match wr T G Mv σ o with
   | some (c,z,aI)=>c/\vx Mv o.dst r s z aI next
   | none=>False
  | _,_=>False
 | none=>False
def qJ (T:Ty) (G:ao) (Mv:Nat->Prop) (o:Oper) (σ:St) (rs:List Nat) (next:St->Prop):Prop:=
 if eD o.op then match wr T G Mv σ o with
  | some (c,x,aw)=>c/\qF rs o.op.operands.toList σ.env x/\next ⟨aD aw.env o.dst x,aw.H⟩
  | none=>False
 else match rd T G σ o.op with
  | some (c,x)=>c/\qF rs o.op.operands.toList σ.env x/\next ⟨aD σ.env o.dst x,σ.H⟩
  | none=>False
def sxl (P:Program) (T:Ty) (Mv:Nat->Prop) (G:ao) (N:Fr) (la:List (Nat×Nat×Nat)) (av:List (Nat×List Nat)) (K:St->Prop):List (Nat×Oper)->St->Prop
 | [],σ=>K σ
 | (i,o) :: rest,σ=>abF N o/\o.guard=none/\match la.lookup i with
  | some (r,s)=>xQ T Mv G o σ r s (sxl P T Mv G N la av K rest)
  | none=>kindOf o.op≠9/\match cz o.op with
   | some c=>mM P G c σ.env o.dst σ.H (pN av i) o.op.operands.toList (sxl P T Mv G N la av K rest)
   | none=>qJ T G Mv o σ (pN av i) (sxl P T Mv G N la av K rest)
def aaV (ops:Array Oper):List Nat->List (Nat×Oper)
 | []=>[]
 | i :: l=>match ops[i]? with
  | some o=>(i,o) :: aaV ops l
  | none=>aaV ops l
theorem XG {K:St->Prop}:∀ (l:List Nat) (σ:St),(∀ i∈l,i < ops.size)->sxl P T Mv G N la av K (aaV ops l) σ->∃ σn,K σn/\uS P T Mv G N la av ops l σ σn:=by
 intro l
 induction l with
 | nil=>intro σ _ h;exact⟨σ,h,rfl⟩
 | cons i l ih=>
  intro σ hl h;have hi:=hl i (by simp)
  have ho:ops[i]? = some ops[i]:=by simp[hi]
  simp only[aaV,ho]at h;generalize ops[i]=o at ho h;simp only[sxl]at h;obtain⟨hd,hgu,h⟩:=h
  have fin:∀ aI,pM P T Mv G N la av i o σ aI->sxl P T Mv G N la av K (aaV ops l) aI->∃ σn,K σn/\uS P T Mv G N la av ops (i :: l) σ σn:=fun aI hs h1=>by
   obtain⟨σn,hk,hr⟩:=ih aI (fun j hj=>hl j (by simp[hj])) h1;exact⟨σn,hk,o,ho,aI,hs,hr⟩
  cases kH:la.lookup i with
  | some rs=>
   obtain⟨r,s⟩:=rs;simp only[kH]at h;unfold xQ at h;split at h
   .rename_i x y Q8;split at h
    .rename_i q off n v hx hy;obtain⟨rfl,hs,h⟩:=h;split at h
     .rename_i c z aI hw;obtain⟨hc,h⟩:=h;obtain⟨e,H⟩:=σ;obtain⟨m,row,vU,rfl,rfl⟩:=aca.of Q8 hx hy hs hw hc;unfold vx at h;split at h
      .obtain⟨⟨ty,sz,els,rfl⟩,_⟩:=vU.row;simp only[aL,if_true]at h;obtain⟨hm,QX,h⟩:=h;refine fin _ ⟨hd,hgu,?_⟩ h;simp only[kH];refine⟨m,_,_,_,vU,.inr ⟨hm,ty,sz,els,rfl,QX,rfl,rfl⟩,?_⟩;congr 1;funext q';by_cases hq':q'=q<;>simp[aL,hq']
      .refine fin _ ⟨hd,hgu,?_⟩ h;simp only[kH];exact⟨m,row,_,_,vU,.inl ⟨rfl,rfl⟩,rfl⟩
     .exact h.elim
    .exact h.elim
   .exact h.elim
  | none=>
   simp only[kH]at h;obtain⟨hk,h⟩:=h;split at h
   .rename_i c hc;obtain⟨y,g,ds,ht,hp,abL,h⟩:=h;refine fin _ ⟨hd,hgu,?_⟩ h;simp only[kH];refine⟨hk,.d y,σ.H,?_,rfl,zM abL,fun _ c' cI=>?_⟩
    .unfold Ex;simp only[hc];exact⟨y,⟨g,_,ht,.inl ⟨ds,rfl,hp⟩⟩,rfl,trivial⟩
    .rw[hc]at cI;obtain rfl:=Option.some.inj cI;exact⟨y,g,ds,ht,hp,rfl⟩
   .rename_i hc;unfold qJ at h;split at h
    .rename_i hw;split at h
     .rename_i c x aI h1;obtain⟨bW,abL,h⟩:=h;have he:=aeP hk h1;obtain⟨e,H⟩:=σ;obtain⟨e1,H1⟩:=aI;dsimp only at he;subst he;refine fin _ ⟨hd,hgu,?_⟩ h;simp only[kH];refine⟨hk,x,H1,?_,rfl,zM abL,fun _ c' cI=>?_⟩
      .unfold Ex;simp only[hc];rw[if_pos hw];exact⟨c,h1,bW⟩
      .rw[hc]at cI;cases cI
     .exact h.elim
    .rename_i hw;split at h
     .rename_i c x h1;obtain⟨bW,abL,h⟩:=h;refine fin _ ⟨hd,hgu,?_⟩ h;simp only[kH];refine⟨hk,x,σ.H,?_,rfl,zM abL,fun _ c' cI=>?_⟩
      .unfold Ex;simp only[hc];rw[if_neg hw];exact⟨c,h1,bW,trivial⟩
      .rw[hc]at cI;cases cI
     .exact h.elim
theorem Fk (hg:Good P T) (hm:P.follows .mixedOrders=true) (la:List (Nat×Nat×Nat)) (av:List (Nat×List Nat)) (ord:List Nat) {id:Nat} (bJ:uH la av ord ops=true) {Q:Exit->St->Prop} {σ:St} (h:sxl P T Mv G N la av (fun aw=>Q .normal aw) (aaV ops ord) σ):AW P Mv X G N (.region id ops true) Q σ:=fun w μ a hi=>by
 unfold uH at bJ;simp only[Bool.and_eq_true]at bJ;obtain⟨⟨⟨⟨⟨h1,h2⟩,h3⟩,h4⟩,h5⟩,h6⟩:=bJ
 have hlen:ord.length=ops.size:=by simpa using h1
 have ay:∀ i∈ord,i < ops.size:=fun i hi=>by simpa using List.all_eq_true.1 h2 i hi
 have bB:∀ i,i < ops.size->i∈ord:=fun i hi=>by simpa using List.all_eq_true.1 h3 i (List.mem_range.2 hi)
 have fe:ord.Nodup:=by simpa using h4
 have adV:∀ j oj,ops[j]? = some oj->∀ e∈oj.after,Region.binds .any e=true->e.on < j:=fun j oj bw e he hb=>by
  have:=List.all_eq_true.1 h5 j (List.mem_range.2 (Array.getElem?_eq_some_iff.1 bw).1);simp only[bw]at this;have:=Array.all_eq_true_iff_forall_mem.1 this e he;simpa[hb]using this
 obtain⟨σn,hQ,bR⟩:=XG ord σ ay h;refine wpIn_region_any hm ?_;obtain⟨aF,aJ⟩:=hi.j7 (Mv:=Mv) (bY.drew w);refine Mj hg adV hQ ops.size ord _ w.drew μ a σ hlen fe (fun j=>?_) (by simp) (JK h6) ?_ bR aF aJ
 .constructor
  .intro hj;have:=ay j hj;simp[Array.getD_eq_getD_getElem?,this]
  .intro hj;exact bB j hj.1
 .intro j oj bw dH;have hj:=(Array.getElem?_eq_some_iff.1 bw).1;simp[Array.getD_eq_getD_getElem?,hj]at dH
theorem af0 (hg:Good P T) (hm:P.follows .mixedOrders=true) (la:List (Nat×Nat×Nat)) (av:List (Nat×List Nat)) (ord:List Nat) (l ns:List Nat) (hM:∀ r,ns.contains r=false->Mv r) {id:Nat} (bJ:uH la av ord ops=true) {y:Code} {Q:Exit->St->Prop} {σ:St}
  (h:∀ K:St->Prop,(∀ τ:St,AW P Mv X G N y Q (τ.norm l ns)->K τ)->sxl P T Mv G N la av K (aaV ops ord) σ):AW P Mv X G N (.seq (.region id ops true) y) Q σ:=
 adP (Fk hg hm la av ord bJ (h _ fun _ h=>h.norm l ns hM))
theorem pI (hg:Good P T) (hm:P.follows .mixedOrders=true) (la:List (Nat×Nat×Nat)) (av:List (Nat×List Nat)) (ord:List Nat) {id:Nat} (bJ:uH la av ord ops=true) {Q:Exit->St->Prop} {σ:St}
  (h:∀ K:St->Prop,(∀ τ:St,Q .normal τ->K τ)->sxl P T Mv G N la av K (aaV ops ord) σ):AW P Mv X G N (.region id ops true) Q σ:=Fk hg hm la av ord bJ (h _ fun _ h=>h)
end
end Go.Av
namespace Go.Av
section
variable {P:Program} {T:Ty} {Mv X:Nat->Prop} {G:ao} {N:Fr} {σ:St}
theorem cu (l:List (Nat×AV)) (i:Nat) (x:AV):eS (lst l) i x=lst ((i,x) :: l):=by
 funext j;simp only[eS,lst,List.lookup];by_cases h:j=i
 .subst h;simp
 .have:(j == i)=false:=by simpa using h
  simp[h,this]
theorem agr (l:List (Nat×Row)) (i:Nat) (x:Row):aL (ak l) i x=ak ((i,x) :: l):=by
 funext j;simp only[aL,ak,List.lookup];by_cases h:j=i
 .subst h;simp
 .have:(j == i)=false:=by simpa using h
  simp[h,this]
theorem DG {α β:Type} (f:α->β) (l:List (Nat×α)) (i:Nat):(l.map fun p=>(p.1,f p.2)).lookup i=(l.lookup i).map f:=by
 induction l with
 | nil=>rfl
 | cons p l ih=>
  simp only[List.map_cons,List.lookup];cases h:(i == p.1)<;>simp[ih]
theorem Sc (r:Nat) (l:List (Nat×AV)):aa6 r (lst l)=lst (l.map fun p=>(p.1,p.2.kill r)):=by
 funext j;simp only[aa6,lst,DG]
theorem Sd (r:Nat) (l:List (Nat×Row)):cQ r (ak l)=ak (l.map fun p=>(p.1,p.2.kill r)):=by
 funext j;simp only[cQ,ak,DG]
theorem X1 (o f:Nat->Nat->Nat->AV) (l:List (Nat×AV)):trE o f (lst l)=lst (l.map fun p=>(p.1,p.2.tr o f)):=by
 funext j;simp only[trE,lst,DG]
theorem ago:fD=ak []:=rfl
def EM (P:Program) (T:Ty) (Mv X:Nat->Prop) (G:ao) (N:Fr) (ops:Array Oper) (o:Oper) (σ:St) (K:St->Prop):Prop:=abF N o/\match fQ ops σ.env o with
 | some b=>if b=true then ri P T Mv X G N o σ K else K ⟨aD σ.env o.dst cC,σ.H⟩
 | none=>False
def afX (P:Program) (T:Ty) (Mv:Nat->Prop) (G:ao) (N:Fr) (ops:Array Oper) (o:Oper) (σ:St) (K:St->Prop):Prop:=abF N o/\match fQ ops σ.env o with
 | some b=>if b=true then (match cz o.op with
  | some c=>gp P G c σ o.dst K
  | none=>adi T G Mv o σ K) else K ⟨aD σ.env o.dst cC,σ.H⟩
 | none=>False
def La (P:Program) (T:Ty) (Mv:Nat->Prop) (G:ao) (N:Fr) (la:List (Nat×Nat×Nat)) (av:List (Nat×List Nat)) (i:Nat) (o:Oper) (σ:St) (K:St->Prop):Prop:=abF N o/\o.guard=none/\match la.lookup i with
 | some (r,s)=>xQ T Mv G o σ r s K
 | none=>kindOf o.op≠9/\match cz o.op with
  | some c=>mM P G c σ.env o.dst σ.H (pN av i) o.op.operands.toList K
  | none=>qJ T G Mv o σ (pN av i) K
theorem sxn {ops:Array Oper} {K:St->Prop} {o:Oper} {rest:List Oper} (h:∀ K':St->Prop,(∀ τ,sxf P T Mv X G N ops K rest τ->K' τ)->EM P T Mv X G N ops o σ K'):sxf P T Mv X G N ops K (o :: rest) σ:=h _ fun _ h=>h
theorem cH {ops:Array Oper} {K:St->Prop} {o:Oper} {rest:List Oper} (h:∀ K':St->Prop,(∀ τ,kX P T Mv G N ops K rest τ->K' τ)->afX P T Mv G N ops o σ K'):kX P T Mv G N ops K (o :: rest) σ:=h _ fun _ h=>h
theorem sxz {ops:Array Oper} {K:St->Prop} (h:K σ):sxf P T Mv X G N ops K [] σ:=h
theorem jh {ops:Array Oper} {K:St->Prop} (h:K σ):kX P T Mv G N ops K [] σ:=h
end
end Go.Av
namespace Go.Av
theorem X2 (k:Nat->Bool) (o f:Nat->Nat->Nat->AV) (l:List (Nat×Row)):trH k o f (ak l)=ak (l.filterMap fun p=>if k p.1=true then some (p.1,p.2.tr o f) else none):=by
 funext i;unfold trH ak
 induction l with
 | nil=>simp
 | cons p l ih=>
  obtain⟨j,r⟩:=p;simp only[List.lookup_cons,List.filterMap_cons];by_cases hij:i=j
  .subst hij;cases hk:k i
   .simp[hk]at ih ⊢;exact ih
   .simp
  .have hb:(i == j)=false:=by simpa using hij
   rw[hb];cases hk:k j
   .simpa using ih
   .simp only[if_true,List.lookup_cons,hb];exact ih
section
variable {P:Program} {Mv X:Nat->Prop} {G:ao} {N:Fr} {w w':World} {μ:Mu} {a:Act} {σ:St}
theorem pF {T:Ty} {ops:Array Oper} {la:List (Nat×Nat×Nat)} {av:List (Nat×List Nat)} {K:St->Prop} {i:Nat} {l:List Nat} {o:Oper} (ho:ops[i]? = some o) (h:∀ K':St->Prop,(∀ τ,sxl P T Mv G N la av K (aaV ops l) τ->K' τ)->La P T Mv G N la av i o σ K'):sxl P T Mv G N la av K (aaV ops (i :: l)) σ:=by
 have:aaV ops (i :: l)=(i,o) :: aaV ops l:=by simp[aaV,ho]
 rw[this];exact h _ fun _ h=>h
theorem pG {T:Ty} {ops:Array Oper} {la:List (Nat×Nat×Nat)} {av:List (Nat×List Nat)} {K:St->Prop} (h:K σ):sxl P T Mv G N la av K (aaV ops []) σ:=h
theorem aB.mL (b j r ty sz:Nat) {e:Env} {H:Heap} {tb:TypeId} {cells:List AV} (hb:H b=some (.box tb cells)) (hr:H r=none) (hc:cells[j]? = some (.d (.sl (some false) []))) :
  aB Mv X G N ⟨e,H⟩ ⟨e,aL (aL H r (.sl ty sz [])) b (.box tb (cells.set j (.own r 0 0)))⟩:=fun w μ a hi=>by
 obtain⟨aF,ev⟩:=hi.alloc (Mv:=Mv) (w':=w) (m:=⟨none,sz,0⟩) hr (bY.refl w) (by simp) (row:=.sl ty sz []) fun _=>.nil rfl rfl
 have Rl:b≠r:=fun h=>by subst h;rw[hr]at hb;cases hb
 refine⟨cR μ r ⟨none,sz,0⟩,⟨⟨fun q row hq=>?_,fun q m hm=>?_,aF.aY.inj,aF.aY.frame,aF.aY.fits⟩,aF.env,aF.gq⟩,ev⟩
 .by_cases wB:q=b
  .subst wB;simp only[aL,if_true,Option.some.injEq]at hq;subst hq;obtain⟨m,hm,ok⟩:=aF.aY.rows q (.box tb cells) (by simp[aL,Rl,hb]);refine⟨m,hm,?_⟩
   cases ok with
   | box aT hs acN hh hn ft hx=>
    refine .box aT rfl acN hh (by simpa using hn) (hx:=by simpa using hx) fun i u c hu fJ=>?_;rw[List.getElem?_set]at fJ;split at fJ
    .rename_i hij;subst hij;split at fJ
     .obtain rfl:=Option.some.inj fJ;have h1:=ft j u _ hu hc;refine .own (m:=⟨none,sz,0⟩) (by simp[cR]) (.inl ⟨rfl,?_,rfl,rfl⟩)
      rcases h1.data.mD with⟨rfl,_⟩ | ⟨_,_,_,hk,_⟩
      .rfl
      .exact absurd rfl hk
     .cases fJ
    .exact ft i u c hu fJ
  .exact aF.aY.rows q row (by simpa[aL,wB]using hq)
 .by_cases wB:q=b
  .exact⟨.box tb (cells.set j (.own r 0 0)),by subst wB;simp[aL]⟩
  .obtain⟨row,cF⟩:=aF.aY.iu q m hm;exact⟨row,by simpa[aL,wB]using cF⟩
end
end Go.Av
namespace Go.Av
section
variable {P:Program} {T:Ty} {Mv X:Nat->Prop} {G:ao} {N:Fr} {σ:St}
def ren (r r' q:Nat):Nat:=if q=r then r' else q
def abI (r r' q off n:Nat):AV:=.own (ren r r' q) off n
def abH (r r' q e j:Nat):AV:=.ref (ren r r' q) e j
def n9 (r r':Nat) (μ:Mu):Mu:=fun q=>if q=r' then μ r else if q=r then none else μ q
def mB (r r':Nat) (H:Heap):Heap:=fun q=>(if q=r' then H r else if q=r then none else H q).map (Row.tr (abI r r') (abH r r'))
theorem uP {r r' q:Nat} {m:gn} {μ:Mu} (h:n9 r r' μ q=some m):∃ p,μ p=some m/\q=ren r r' p:=by
 unfold n9 at h;split at h
 .rename_i e;exact⟨r,h,by simp[ren,e]⟩
 .split at h
  .cases h
  .rename_i e1 e2;exact⟨q,h,by simp[ren,e2]⟩
theorem Eo {r r' p:Nat} {m:gn} {μ:Mu} (h0:μ r'=none) (h:μ p=some m):n9 r r' μ (ren r r' p)=some m:=by
 unfold n9 ren;by_cases e:p=r
 .subst e;simp[h]
 .have e2:p≠r':=fun e2=>by rw[e2,h0]at h;cases h
  simp[e,e2,h]
theorem In.ren {w:World} {μ:Mu} {a:Act} {r r':Nat} (hi:In w X G μ N a σ) (hH:σ.H r'=none):In w X G (n9 r r' μ) N a ⟨trE (abI r r') (abH r r') σ.env,mB r r' σ.H⟩:=by
 have h0:μ r'=none:=hi.aY.sC hH;have hX:∀ b,XX X (n9 r r' μ) b->XX X μ b:=fun b hb=>hb.elim .inl fun ⟨q,m,hq,hbq⟩=>let ⟨p,hp,_⟩:=uP hq;.inr ⟨p,m,hp,hbq⟩;have oN:∀ {u:Value} {x:D},RD w (XX X μ) u x->RD w (XX X (n9 r r' μ)) u x:=fun h=>h.mono (Nat.le_refl _) fun b _ hb=>⟨rfl,fun e=>hb (hX b e)⟩
 have hRV:∀ {u:Value} {x:AV},RV w X μ u x->RV w X (n9 r r' μ) u (x.tr (abI r r') (abH r r')):=fun h=>RV.tr hX (fun u q off n h=>by
  obtain⟨m,hm,hh⟩:=h.jd
  exact .own (Eo h0 hm) hh) (fun u q e j h=>by
  obtain⟨m,b,hm,hb,rfl⟩:=h.ie
  exact .ref (Eo h0 hm) hb) h
 refine⟨⟨fun q row hr=>?_,fun q m hr=>?_,fun q q' m1 m2 b h1 h2 cY dA=>?_,fun q mq b hq hb=>?_,hi.aY.fits⟩,
  ⟨hi.env.defers,hi.env.size,fun i x hx=>?_⟩,fun g x hx=>oN (hi.gq g x hx)⟩
 .obtain⟨kU,r0,rfl⟩:=Option.map_eq_some_iff.1 hr
  have:∃ p,σ.H p=some kU/\q=Go.Av.ren r r' p:=by
   split at r0
   .rename_i e;exact⟨r,r0,by simp[Go.Av.ren,e]⟩
   .split at r0
    .cases r0
    .rename_i e1 e2;exact⟨q,r0,by simp[Go.Av.ren,e2]⟩
  obtain⟨p,hp,rfl⟩:=this;obtain⟨m,hm,ok⟩:=hi.aY.rows p kU hp;refine⟨m,Eo h0 hm,?_⟩
  cases ok with
  | nil h1 h2=>exact .nil h1 h2
  | sl h1 h2 h3 h4 h5 h6 h7 h8 h9=>exact .sl h1 h2 h3 h4 h5 h6 h7 h8 fun i j el c he hc=>let ⟨u,hu,hr⟩:=h9 i j el c he hc;⟨u,hu,oN hr⟩
  | box h1 h2 h3 h4 h5 h6 h7=>
   refine .box h1 rfl h3 h4 (by simpa using h5) (fun j u c hu hc=>?_) (by simpa using h7);rw[List.getElem?_map]at hc;obtain⟨c',cI,rfl⟩:=Option.map_eq_some_iff.1 hc;exact hRV (h6 j u c' hu cI)
  | mp h1 h2 h3 h4=>exact .mp h1 h2 h3 fun i e p he hp=>let ⟨a,b,c⟩:=h4 i e p he hp;⟨a,b,oN c⟩
  | it h1 h2 h3=>exact .it h1 h2 (oN h3)
 .obtain⟨p,hp,rfl⟩:=uP hr;obtain⟨row,cF⟩:=hi.aY.iu p m hp;refine⟨row.tr (abI r r') (abH r r'),?_⟩
  have aO:p≠r':=fun e=>by rw[e,h0]at hp;cases hp
  show mB r r' σ.H _=_;unfold mB Go.Av.ren;by_cases e:p=r
  .subst e;simp[cF]
  .simp[e,aO,cF]
 .obtain⟨p1,eh,rfl⟩:=uP h1;obtain⟨p2,hp2,rfl⟩:=uP h2;rw[hi.aY.inj p1 p2 m1 m2 b eh hp2 cY dA]
 .obtain⟨p,hp,rfl⟩:=uP hq;exact hi.aY.frame p mq b hp hb
 .replace hx:trE (abI r r') (abH r r') σ.env i=some x:=hx;unfold trE at hx;obtain⟨x0,yt,rfl⟩:=Option.map_eq_some_iff.1 hx;obtain⟨u,hu,hr⟩:=hi.env.slot i x0 yt;exact⟨u,hu,hRV hr⟩
theorem aB.ren {r r':Nat} (hm:Mv r) (hH:σ.H r'=none):aB Mv X G N σ ⟨trE (abI r r') (abH r r') σ.env,mB r r' σ.H⟩:=fun w μ a hi=>
 ⟨n9 r r' μ,hi.ren hH,⟨Nat.le_refl _,rfl,rfl,rfl,fun b hb hr=>⟨rfl,fun ⟨q,m,hq,hbq⟩=>let ⟨p,hp,_⟩:=uP hq;hr ⟨p,m,hp,hbq⟩⟩,fun q m hq hn=>by
  have h1:q≠r:=fun e=>hn (e ▸ hm)
  have h2:q≠r':=fun e=>by rw[e,hi.aY.sC hH]at hq;cases hq
  simp only[n9,if_neg h1,if_neg h2]
  exact hq⟩⟩
end
end Go.Av
namespace Go.Av
def ui:Op->Bool
 | .load _ _=>true
 | .indexAddr _ _ _=>true
 | .slice _ _ _ _ _=>true
 | .store _ _ _=>true
 | .mapUpdate _ _ _ _=>true
 | _=>false
def nL (r:Nat):AV->Prop
 | .ref q _ _=>q=r
 | .own q _ _=>q=r
 | .d _=>True
 | _=>False
def qH (G:ao) (e:Env) (o:Op) (r:Nat):Prop:=match o with
 | .load _ p=>match bf G e p with
  | some v=>nL r v
  | none=>False
 | .indexAddr _ p _=>match bf G e p with
  | some v=>nL r v
  | none=>False
 | .slice _ p _ _ _=>match bf G e p with
  | some v=>nL r v
  | none=>False
 | .store _ p _=>match bf G e p with
  | some (.ref q _ _)=>q=r
  | _=>False
 | .mapUpdate _ p _ _=>match bf G e p with
  | some (.mp q)=>q=r
  | _=>False
 | _=>False
def mG (G:ao) (fp:List (Nat×Nat)) (e:Env) (i:Nat) (o:Op):Prop:=match fp.lookup i with
 | some r=>qH G e o r
 | none=>True
def aea (fp:List (Nat×Nat)) (ops:Array Oper) (i j:Nat) (oi oj:Oper):Bool:=acf ops oi oj || (oi.apart ops oj && ui oi.op && ui oj.op && match fp.lookup i,fp.lookup j with
 | some r,some r'=>!(r == r')
 | _,_=>false)
section
variable {P:Program} {T:Ty} {Mv X:Nat->Prop} {G:ao} {N:Fr} {ops:Array Oper} {fp:List (Nat×Nat)}
def acB (H:Heap) (r:Nat):Option Row->Heap
 | none=>H
 | some row=>aL H r row
theorem zS {H:Heap} {r q:Nat} {u:Option Row} (h:q≠r):acB H r u q=H q:=by
 cases u with
 | none=>rfl
 | some row=>simp[acB,aL,h]
theorem J0 {H:Heap} {r q:Nat} {u v:Option Row} (h:r≠q):acB (acB H r u) q v=acB (acB H q v) r u:=by
 cases u<;>cases v<;>try rfl
 funext i;by_cases h1:i=r<;>by_cases h2:i=q<;>simp[acB,aL,h1,h2,h,Ne.symm h]
theorem S3 {H H2:Heap} {t:TypeId} {v:AV} {r:Nat} (hv:nL r v) (h:H2 r=H r):ko T H2 t v=ko T H t v:=by
 cases v with
 | d x=>cases x<;>rfl
 | ref q ee j=>simp only[nL]at hv;subst hv;simp only[ko,h]
 | own q off n=>rfl
 | _=>exact hv.elim
theorem RT {H H2:Heap} {t:TypeId} {v y:AV} {r:Nat} (hv:nL r v) (h:H2 r=H r):ado T H2 t v y=ado T H t v y:=by
 cases v with
 | d x=>cases x<;>(cases y<;>first | rfl | (rename_i z;cases z<;>first | rfl | (rename_i z;cases z<;>rfl)))
 | ref q ee j=>cases y<;>first | rfl | (rename_i z;cases z<;>first | rfl | (rename_i z;cases z<;>rfl))
 | own q off n=>
  simp only[nL]at hv;subst hv
  cases y with
  | d z=>cases z with
   | v z=>cases z<;>first | rfl | simp only[ado,h]
   | _=>rfl
  | _=>rfl
 | _=>exact hv.elim
theorem Xh {H H2:Heap} {t:TypeId} {v:AV} {lo hi:Option Int} {r:Nat} (hv:nL r v) (h:H2 r=H r):nv T H2 t v lo hi=nv T H t v lo hi:=by
 cases v with
 | d x=>cases x<;>first | rfl | (rename_i z;cases z<;>rfl)
 | ref q ee j=>rfl
 | own q off n=>simp only[nL]at hv;subst hv;simp only[nv,h]
 | _=>exact hv.elim
theorem Ex.xG {o:Oper} {e:Env} {H H':Heap} {x:AV} {r:Nat} (ht:qH G e o.op r) (h:Ex P T Mv G o e H x H') :
  ∃ u,H'=acB H r u/\∀ H2,H2 r=H r->Ex P T Mv G o e H2 x (acB H2 r u):=by
 obtain⟨dst,op,type,pos,after,guard⟩:=o;dsimp only at ht;cases op<;>simp only[qH]at ht
 case load t p=>
  split at ht
  .rename_i v hp;refine⟨none,?_,fun H2 h2=>?_⟩
   .unfold Ex at h;simp only[cz,eD,Bool.false_eq_true,if_false]at h;obtain⟨c,_,_,rfl⟩:=h;rfl
   .unfold Ex at h ⊢;simp only[cz,eD,Bool.false_eq_true,if_false]at h ⊢;obtain⟨c,h1,h3,rfl⟩:=h;refine⟨c,?_,h3,rfl⟩;simp only[rd,hp,Option.bind_some]at h1 ⊢;rw[S3 ht h2];exact h1
  .exact ht.elim
 case indexAddr t p y=>
  split at ht
  .rename_i v hp;refine⟨none,?_,fun H2 h2=>?_⟩
   .unfold Ex at h;simp only[cz,eD,Bool.false_eq_true,if_false]at h;obtain⟨c,_,_,rfl⟩:=h;rfl
   .unfold Ex at h ⊢;simp only[cz,eD,Bool.false_eq_true,if_false]at h ⊢;obtain⟨c,h1,h3,rfl⟩:=h;refine⟨c,?_,h3,rfl⟩;simp only[rd,hp]at h1 ⊢
    cases hy:bf G e y with
    | none=>simp[hy]at h1
    | some b=>simp only[hy]at h1 ⊢;rw[RT ht h2];exact h1
  .exact ht.elim
 case slice t p lo hi mx=>
  split at ht
  .rename_i v hp;refine⟨none,?_,fun H2 h2=>?_⟩
   .unfold Ex at h;simp only[cz,eD,Bool.false_eq_true,if_false]at h;obtain⟨c,_,_,rfl⟩:=h;rfl
   .unfold Ex at h ⊢;simp only[cz,eD,Bool.false_eq_true,if_false]at h ⊢;obtain⟨c,h1,h3,rfl⟩:=h;refine⟨c,?_,h3,rfl⟩;simp only[rd,hp]at h1 ⊢;by_cases fc:mx.isNone=true
    .rw[if_pos fc]at h1 ⊢
     cases rU:bound G e lo with
     | none=>simp[rU]at h1
     | some l=>
      cases tK:bound G e hi with
      | none=>simp[rU,tK]at h1
      | some l2=>simp only[rU,tK]at h1 ⊢;rw[Xh ht h2];exact h1
    .rw[if_neg fc]at h1;cases h1
  .exact ht.elim
 case store t p y=>
  split at ht
  .rename_i q ee j hp;subst ht;unfold Ex at h;simp only[cz,eD,if_true]at h;obtain⟨c,h1,h3⟩:=h
   cases dst with
   | some d=>simp[wr]at h1
   | none=>
    simp only[wr,hp]at h1
    cases hy:bf G e y with
    | none=>simp[hy]at h1
    | some v=>
     simp only[hy]at h1;split at h1
     .rename_i ty cells hr;split at h1
      .rename_i he;split at h1
       .rename_i c' pS hs;simp only[Option.some.injEq,Prod.mk.injEq,St.mk.injEq,true_and]at h1;obtain⟨rfl,rfl,rfl⟩:=h1;refine⟨some (.box ty pS),rfl,fun H2 h2=>?_⟩;unfold Ex;simp only[cz,eD,if_true];exact⟨_,by simp[wr,hp,hy,h2,hr,he,hs,acB],h3⟩
       .cases h1
      .cases h1
     .rename_i ty sz els hr;split at h1
      .rename_i c' kA hs;simp only[Option.some.injEq,Prod.mk.injEq,St.mk.injEq,true_and]at h1;obtain⟨rfl,rfl,rfl⟩:=h1;refine⟨some (.sl ty sz kA),rfl,fun H2 h2=>?_⟩;unfold Ex;simp only[cz,eD,if_true];exact⟨_,by simp[wr,hp,hy,h2,hr,hs,acB],h3⟩
      .cases h1
     .cases h1
     .cases h1
     .cases h1
  .exact ht.elim
 case mapUpdate t p y z=>
  split at ht
  .rename_i q hp;subst ht;unfold Ex at h;simp only[cz,eD,if_true]at h;obtain⟨c,h1,h3⟩:=h
   cases dst with
   | some d=>simp[wr]at h1
   | none=>
    simp only[wr,hp]at h1;split at h1
    .rename_i r' key dx e1 e2 e3;simp only[Option.some.injEq,AV.mp.injEq]at e1;subst e1;split at h1
     .rename_i ty ents hr;split at h1
      .rename_i c' iL hs;simp only[Option.some.injEq,Prod.mk.injEq,St.mk.injEq,true_and]at h1;obtain⟨rfl,rfl,rfl⟩:=h1;refine⟨some (.mp ty iL),rfl,fun H2 h2=>?_⟩;unfold Ex;simp only[cz,eD,if_true];exact⟨_,by simp[wr,hp,e2,e3,h2,hr,hs,acB],h3⟩
      .cases h1
     .cases h1
    .cases h1
  .exact ht.elim
theorem D4 {o:Op} {e e':Env} {r:Nat} (ha:fA o e e') (h:qH G e o r):qH G e' o r:=by
 cases o<;>simp only[qH]at h ⊢<;>try exact h
 case load t p=>
  have:bf G e p=bf G e' p:=abj fun t ht=>ha t (by simp[Op.operands,ht]);rw[<- this];exact h
 case indexAddr t p y=>
  have:bf G e p=bf G e' p:=abj fun t ht=>ha t (by simp[Op.operands,ht]);rw[<- this];exact h
 case slice t p lo hi mx=>
  have:bf G e p=bf G e' p:=abj fun t ht=>ha t (by simp[Op.operands,ht]);rw[<- this];exact h
 case store t p y=>
  have:bf G e p=bf G e' p:=abj fun t ht=>ha t (by simp[Op.operands,ht]);rw[<- this];exact h
 case mapUpdate t p y z=>
  have:bf G e p=bf G e' p:=abj fun t ht=>ha t (by simp[Op.operands,ht]);rw[<- this];exact h
theorem Ap {o:Op} {e e':Env} {i:Nat} (ha:fA o e e') (h:mG G fp e i o):mG G fp e' i o:=by
 unfold mG at h ⊢;split
 .rename_i r hr;simp only[hr]at h;exact D4 ha h
 .trivial
def GStep (P:Program) (T:Ty) (Mv:Nat->Prop) (G:ao) (N:Fr) (ops:Array Oper) (fp:List (Nat×Nat)) (i:Nat) (o:Oper) (σ aw:St):Prop:=sP P T Mv G N ops o σ aw/\(fQ ops σ.env o=some true->mG G fp σ.env i o.op)
theorem Nt {x y:Oper} (h:acf ops x y=true):kindOf x.op≠9/\kindOf y.op≠9:=by
 simp only[acf,Bool.and_eq_true]at h;obtain⟨_,h⟩:=h;refine⟨fun e=>by rw[e]at h;simp[pr]at h,fun e=>?_⟩;rw[e]at h
 revert h
 rcases kinds x.op with k | k | k | k | k | k<;>rw[k]<;>simp[pr]
theorem Iu {o:Op} (h:ui o=true):kindOf o≠9:=by
 unfold ui at h;split at h
 .have:=DD ‹_›;simp only[kindOf];omega
 .simp[kindOf]
 .simp[kindOf]
 .simp[kindOf]
 .simp[kindOf]
 .cases h
theorem OS {i j:Nat} {oi oj:Oper} (hc:aea fp ops i j oi oj=true) {σ aI eL:St} (h1:GStep P T Mv G N ops fp i oi σ aI) (h2:GStep P T Mv G N ops fp j oj aI eL) :
  ∃ e6,GStep P T Mv G N ops fp j oj σ e6/\GStep P T Mv G N ops fp i oi e6 eL:=by
 have hk:kindOf oi.op≠9/\kindOf oj.op≠9:=by
  simp only[aea,Bool.or_eq_true,Bool.and_eq_true]at hc
  rcases hc with hc | ⟨⟨⟨_,h3⟩,h4⟩,_⟩
  .exact Nt hc
  .exact⟨Iu h3,Iu h4⟩
 obtain⟨hki,hkj⟩:=hk;obtain⟨s1,t1⟩:=h1;obtain⟨s2,t2⟩:=h2;obtain⟨x,H1,xC,rfl⟩:=(pA hki).1 s1;obtain⟨y,H2,sQ,rfl⟩:=(pA hkj).1 s2;obtain⟨e,H⟩:=σ;dsimp only at s1 s2 xC sQ t1 t2 ⊢
 have eX:oi.apart ops oj=true:=by
  simp only[aea,acf,Bool.or_eq_true,Bool.and_eq_true]at hc
  rcases hc with hc | hc
  .exact hc.1
  .exact hc.1.1.1
 obtain⟨a1,_,aO⟩:=ace eX (e:=e) (v:=x);obtain⟨_,a2,_⟩:=ace eX (e:=e) (v:=y);have wj:=Au (o:=oj) (e:=aD e oi.dst x) (e':=e) a1;have wi:=Au (o:=oi) (e:=aD e oj.dst y) (e':=e) a2;have agj:fA oj.op (aD e oi.dst x) e:=fun t ht=>a1 t (iF ht);have eT:fA oi.op e (aD e oj.dst y):=fun t ht=>(a2 t (iF ht)).symm
 have main:∃ H3,Sx P T Mv G N ops oj e H y H3/\Sx P T Mv G N ops oi (aD e oj.dst y) H3 x H2:=by
  simp only[aea,Bool.or_eq_true,Bool.and_eq_true]at hc
  rcases hc with hc | ⟨_,rL⟩
  .exact aes hc xC sQ hki hkj
  .cases bz:fp.lookup i with
   | none=>simp[bz]at rL
   | some r=>
    cases rK:fp.lookup j with
    | none=>simp[bz,rK]at rL
    | some r'=>
     have hr:r≠r':=by simpa[bz,rK]using rL
     obtain⟨di,xC⟩:=xC;obtain⟨dj,sQ⟩:=sQ;rw[wj]at sQ
     rcases xC with⟨w1,e1⟩ | ⟨w1,rfl,rfl⟩
     .have t1:=t1 w1;simp only[mG,bz]at t1;obtain⟨u,rfl,DE⟩:=e1.xG t1
      rcases sQ with⟨w2,e2⟩ | ⟨w2,rfl,rfl⟩
      .have t2:=t2 (by rw[wj];exact w2);simp only[mG,rK]at t2;have e2:=e2.congr hkj agj;obtain⟨u',rfl,DF⟩:=e2.xG (D4 agj t2);refine⟨acB H r' u',⟨dj,.inl ⟨w2,DF H (zS (Ne.symm hr)).symm⟩⟩,⟨di,.inl ⟨by rw[wi];exact w1,?_⟩⟩⟩;rw[J0 hr];exact (DE _ (zS hr)).congr hki eT
      .exact⟨H,⟨dj,.inr ⟨w2,rfl,rfl⟩⟩,⟨di,.inl ⟨by rw[wi];exact w1,e1.congr hki eT⟩⟩⟩
     .rcases sQ with⟨w2,e2⟩ | ⟨w2,rfl,rfl⟩
      .exact⟨H2,⟨dj,.inl ⟨w2,e2.congr hkj agj⟩⟩,⟨di,.inr ⟨by rw[wi];exact w1,rfl,rfl⟩⟩⟩
      .exact⟨_,⟨dj,.inr ⟨w2,rfl,rfl⟩⟩,⟨di,.inr ⟨by rw[wi];exact w1,rfl,rfl⟩⟩⟩
 obtain⟨H3,f1,f2⟩:=main;refine⟨⟨aD e oj.dst y,H3⟩,⟨(pA hkj).2 ⟨y,H3,f1,rfl⟩,fun hw=>?_⟩,⟨(pA hki).2 ⟨x,H2,f2,by rw[fG aO]⟩,fun hw=>?_⟩⟩
 .exact Ap agj (t2 (by rw[wj];exact hw))
 .exact Ap eT (t1 (by rw[<- wi];exact hw))
def uR (P:Program) (T:Ty) (Mv:Nat->Prop) (G:ao) (N:Fr) (ops:Array Oper) (fp:List (Nat×Nat)):List Nat->St->St->Prop
 | [],σ,aw=>σ=aw
 | i :: l,σ,aw=>∃ o,ops[i]? = some o/\∃ aI,GStep P T Mv G N ops fp i o σ aI/\uR P T Mv G N ops fp l aI aw
theorem WQ {p:Nat} {op:Oper} (hp:ops[p]? = some op):∀ (l1:List Nat) {l2:List Nat} {σ aw:St},(∀ q∈l1,∀ oq,ops[q]? = some oq->aea fp ops q p oq op=true)->uR P T Mv G N ops fp (l1 ++ p :: l2) σ aw->uR P T Mv G N ops fp (p :: (l1 ++ l2)) σ aw:=by
 intro l1
 induction l1 with
 | nil=>intro l2 σ aw _ h;exact h
 | cons q l1 ih=>
  intro l2 σ aw bB h;obtain⟨oq,hq,aI,s1,rest⟩:=h;obtain⟨o',eO,eL,s2,py⟩:=ih (fun q' hq'=>bB q' (by simp[hq'])) rest;rw[hp]at eO;obtain rfl:=Option.some.inj eO;obtain⟨e6,f1,f2⟩:=OS (bB q (by simp) oq hq) s1 s2;exact⟨op,hp,e6,f1,oq,hq,eL,f2,py⟩
def uG (fp:List (Nat×Nat)) (ops:Array Oper):Bool:=
 let t:=tb ops
 ((List.range ops.size).all fun j=>match ops[j]? with
  | some oj=>oj.after.all fun e=>!Region.binds .any e || e.on < j
  | none=>true) &&
 go t (List.range ops.size)
where
 go (t:List Nat):List Nat->Bool
 | []=>true
 | a :: l=>(l.all fun b=>match ops[a]?,ops[b]? with
  | some oa,some ob=>(oa.after.all fun e=>!Region.binds .any e || !(e.on == b)) && ((t.getD b 0).testBit a || aea fp ops a b oa ob)
  | _,_=>true) && go t l
def AN (fp:List (Nat×Nat)) (ops:Array Oper) (a b:Nat):Prop:=∀ oa ob,ops[a]? = some oa->ops[b]? = some ob->
 (∀ e∈oa.after,Region.binds .any e=true->e.on≠b)/\(((tb ops).getD b 0).testBit a=true\/aea fp ops a b oa ob=true)
theorem JH:∀ {l:List Nat},uG.go fp ops (tb ops) l=true->l.Pairwise (AN fp ops)
 | [],_=>.nil
 | a :: l,h=>by
  simp only[uG.go,Bool.and_eq_true]at h;refine .cons (fun b hb oa ob pb hob=>?_) (JH h.2);have:=List.all_eq_true.1 h.1 b hb;simp only[pb,hob,Bool.and_eq_true,Bool.or_eq_true]at this;refine⟨fun e he oS heq=>?_,this.2⟩;have h1:=Array.all_eq_true_iff_forall_mem.1 this.1 e he;simp[oS,heq]at h1
theorem Mi (hg:Good P T) (ay:∀ j oj,ops[j]? = some oj->∀ e∈oj.after,Region.binds .any e=true->e.on < j) {Q:Exit->St->Prop} {w0:World} {gm:Mu} {σn:St} (hQ:Q .normal σn):∀ (n:Nat) (R:List Nat) (listed:Array Bool) (w:World) (μ:Mu) (a:Act) (σ:St),R.length=n->R.Nodup->
  (∀ j,j∈R↔j < ops.size/\listed.getD j true=false)->listed.size=ops.size->R.Pairwise (AN fp ops)->
  (∀ j oj,ops[j]? = some oj->listed.getD j false=true->∀ e∈oj.after,Region.binds .any e=true->listed.getD e.on false=true)->uR P T Mv G N ops fp R σ σn->In w X G μ N a σ->Ev Mv w0 gm w μ->
  wpAnyIn (wd N.ro) 0 P .any ops (After Mv X G N w0 gm Q) n listed a w:=by
 intro n
 induction n with
 | zero=>
  intro R listed w μ a σ hl _ hR aK _ _ bR hi aJ;have:R=[]:=List.eq_nil_of_length_eq_zero hl;subst this
  have hr:Region.ready .any ops listed=[]:=by
   apply List.eq_nil_iff_forall_not_mem.2;intro j hj;obtain⟨h1,o,ho,_⟩:=mem_ready.1 hj;exact absurd ((hR j).2 ⟨(Array.getElem?_eq_some_iff.1 ho).1,h1⟩) (by simp)
  have:σ=σn:=bR;subst this;exact⟨hr,μ,σ,hQ,hi,aJ⟩
 | succ n ih=>
  intro R listed w μ a σ hl fe hR aK fL acJ bR hi aJ;refine⟨fun hr=>?_,fun i nc=>?_⟩
  .cases R with
   | nil=>simp at hl
   | cons j R=>
    obtain⟨ia,hj2⟩:=(hR j).1 (by simp)
    have bw:ops[j]? = some ops[j]:=by simp[ia]
    have jN:j∈Region.ready .any ops listed:=by
     refine mem_ready.2 ⟨hj2,ops[j],bw,fun e he hb=>?_⟩;have qj:=ay j ops[j] bw e he hb
     have aaZ:e.on < ops.size:=by omega
     have aO:e.on ∉ (j :: R):=by
      intro hm
      rcases List.mem_cons.1 hm with h | h
      .omega
      .exact ((List.pairwise_cons.1 fL).1 _ h ops[j] ops[e.on] bw (by simp[aaZ])).1 e he hb rfl
     have:=mt (hR e.on).2 aO
     have gX:e.on < listed.size:=by omega
     simp only[aaZ,true_and,Array.getD_eq_getD_getElem?]at this ⊢;simp[gX]at this ⊢;exact this
    rw[hr]at jN;cases jN
  .obtain⟨cO,oi,b5,bB⟩:=mem_ready.1 nc;have na:i∈R:=(hR i).2 ⟨(Array.getElem?_eq_some_iff.1 b5).1,cO⟩;obtain⟨R1,R2,rfl⟩:=List.append_of_mem na
   have mZ:=WQ (P:=P) (T:=T) (Mv:=Mv) (G:=G) (N:=N) (fp:=fp) b5 R1 (fun q hq oq jR=>by
    have pc:AN fp ops q i:=(List.pairwise_append.1 fL).2.2 q hq i (by simp)
    rcases (pc oq oi jR b5).2 with h | h
    .exfalso;have jO:=vl ay acJ i i oi (Nat.le_refl _) b5 bB q h;have dY:=((hR q).1 (by simp[hq])).2
     have nh:q < listed.size:=by have:=(Array.getElem?_eq_some_iff.1 jR).1;omega
     simp[Array.getD_eq_getD_getElem?,nh]at jO dY;rw[jO]at dY;cases dY
    .exact h) bR
   obtain⟨o',eO,aI,hstep,bt⟩:=mZ;rw[b5]at eO;obtain rfl:=Option.some.inj eO;refine uW hg hstep.1 hi b5 fun w' ax a' aF iP=>?_
   have nd:(R1 ++ R2).Nodup:=by
    have:=fe;rw[List.nodup_append]at this ⊢;obtain⟨g1,g2,g3⟩:=this;exact⟨g1,(List.nodup_cons.1 g2).2,fun x hx y hy=>g3 x hx y (by simp[hy])⟩
   have ady:i ∉ R1 ++ R2:=by
    have:=fe;rw[List.nodup_append]at this;obtain⟨g1,g2,g3⟩:=this;intro hm
    rcases List.mem_append.1 hm with h | h
    .exact g3 i h i (by simp) rfl
    .exact (List.nodup_cons.1 g2).1 h
   refine ih (R1 ++ R2) _ w' ax a' aI (by simp at hl ⊢;omega) nd (fun j=>?_) (by simpa using aK) ?_ ?_ bt aF (aJ.trans iP)
   .by_cases hji:j=i
    .subst hji
     have gX:j < listed.size:=by rw[aK];exact (Array.getElem?_eq_some_iff.1 b5).1
     simp[gX];simpa using ady
    .rw[getD_set_ne true (Ne.symm hji)];rw[<- hR j];simp[hji]
   .rw[List.pairwise_append]at fL ⊢;obtain⟨g1,g2,g3⟩:=fL;exact⟨g1,(List.pairwise_cons.1 g2).2,fun x hx y hy=>g3 x hx y (by simp[hy])⟩
   .intro j oj bw dH e he hb;by_cases hji:j=i
    .subst hji;rw[b5]at bw;obtain rfl:=Option.some.inj bw;exact getD_set_true (bB e he hb)
    .rw[getD_set_ne false (Ne.symm hji)]at dH;exact getD_set_true (acJ j oj bw dH e he hb)
def stepG (P:Program) (T:Ty) (Mv:Nat->Prop) (G:ao) (N:Fr) (ops:Array Oper) (fp:List (Nat×Nat)) (i:Nat) (o:Oper) (σ:St) (K:St->Prop):Prop:=abF N o/\match fQ ops σ.env o with
 | some b=>if b=true then mG G fp σ.env i o.op/\(match cz o.op with
  | some c=>gp P G c σ o.dst K
  | none=>adi T G Mv o σ K) else K ⟨aD σ.env o.dst cC,σ.H⟩
 | none=>False
def od (P:Program) (T:Ty) (Mv:Nat->Prop) (G:ao) (N:Fr) (ops:Array Oper) (fp:List (Nat×Nat)) (K:St->Prop):Nat->List Oper->St->Prop
 | _,[],σ=>K σ
 | i,o :: rest,σ=>stepG P T Mv G N ops fp i o σ (od P T Mv G N ops fp K (i+1) rest)
theorem gk {K:St->Prop} {i:Nat} {o:Oper} {rest:List Oper} {σ:St} (h:∀ K':St->Prop,(∀ τ,od P T Mv G N ops fp K (i+1) rest τ->K' τ)->stepG P T Mv G N ops fp i o σ K'):od P T Mv G N ops fp K i (o :: rest) σ:=h _ fun _ h=>h
theorem ab8 {K:St->Prop} {i:Nat} {σ:St} (h:K σ):od P T Mv G N ops fp K i [] σ:=h
theorem XF {K:St->Prop}:∀ (l:List Oper) (k:Nat) (σ:St),(∀ j,l[j]? = ops[k+j]?)->od P T Mv G N ops fp K k l σ->∃ σn,K σn/\uR P T Mv G N ops fp (List.range' k l.length) σ σn:=by
 intro l
 induction l with
 | nil=>intro k σ _ h;exact⟨σ,h,rfl⟩
 | cons o l ih=>
  intro k σ hl h
  have h0:ops[k]? = some o:=by simpa using (hl 0).symm
  have eG:∀ j,l[j]? = ops[k+1+j]?:=fun j=>by have:=hl (j+1);simpa[Nat.add_assoc,Nat.add_comm 1 j]using this
  unfold od stepG at h;obtain⟨hd,h⟩:=h;rw[List.length_cons,List.range'_succ]
  have fin:∀ aI,GStep P T Mv G N ops fp k o σ aI->od P T Mv G N ops fp K (k+1) l aI->∃ σn,K σn/\uR P T Mv G N ops fp (k :: List.range' (k+1) l.length) σ σn:=by
   intro aI hs hq;obtain⟨σn,hk,hr⟩:=ih (k+1) aI eG hq;exact⟨σn,hk,o,h0,aI,hs,hr⟩
  split at h
  .rename_i b hb;split at h
   .rename_i oU;subst oU;obtain⟨ht,h⟩:=h;split at h
    .rename_i c hc;obtain⟨y,hy,h⟩:=h;refine fin _ ⟨⟨hd,.inl ⟨hb,?_⟩⟩,fun _=>ht⟩ h;unfold kC;simp only[hc];exact⟨y,hy,rfl⟩
    .rename_i hc;unfold adi at h;split at h
     .rename_i hw;split at h
      .rename_i c x aI h1;obtain⟨bW,h⟩:=h;refine fin _ ⟨⟨hd,.inl ⟨hb,?_⟩⟩,fun _=>ht⟩ h;unfold kC;simp only[hc];rw[if_pos hw];exact⟨c,x,aI,h1,bW,rfl⟩
      .exact h.elim
     .rename_i hw;split at h
      .rename_i c x h1;obtain⟨bW,h⟩:=h;refine fin _ ⟨⟨hd,.inl ⟨hb,?_⟩⟩,fun _=>ht⟩ h;unfold kC;simp only[hc];rw[if_neg hw];exact⟨c,x,h1,bW,rfl⟩
      .exact h.elim
   .rename_i oU
    have:b=false:=by simpa using oU
    subst this;refine fin _ ⟨⟨hd,.inr ⟨hb,rfl⟩⟩,fun hw=>by rw[hb]at hw;cases hw⟩ h
  .exact h.elim
theorem Fj (hg:Good P T) (hm:P.follows .mixedOrders=true) (fp:List (Nat×Nat)) {id:Nat} (bJ:uG fp ops=true) {Q:Exit->St->Prop} {σ:St} (h:od P T Mv G N ops fp (fun aw=>Q .normal aw) 0 ops.toList σ):AW P Mv X G N (.region id ops true) Q σ:=fun w μ a hi=>by
 unfold uG at bJ;simp only[Bool.and_eq_true]at bJ;obtain⟨h5,h6⟩:=bJ
 have adV:∀ j oj,ops[j]? = some oj->∀ e∈oj.after,Region.binds .any e=true->e.on < j:=fun j oj bw e he hb=>by
  have:=List.all_eq_true.1 h5 j (List.mem_range.2 (Array.getElem?_eq_some_iff.1 bw).1);simp only[bw]at this;have:=Array.all_eq_true_iff_forall_mem.1 this e he;simpa[hb]using this
 obtain⟨σn,hQ,bR⟩:=XF ops.toList 0 σ (by simp) h;rw[<- List.range_eq_range',Array.length_toList]at bR;refine wpIn_region_any hm ?_;obtain⟨aF,aJ⟩:=hi.j7 (Mv:=Mv) (bY.drew w);refine Mi hg adV hQ ops.size (List.range ops.size) _ w.drew μ a σ (by simp) List.nodup_range (fun j=>?_) (by simp) (JH h6) ?_ bR aF aJ
 .simp only[List.mem_range];constructor
  .intro hj;simp[Array.getD_eq_getD_getElem?,hj]
  .exact fun hj=>hj.1
 .intro j oj bw dH;have hj:=(Array.getElem?_eq_some_iff.1 bw).1;simp[Array.getD_eq_getD_getElem?,hj]at dH
theorem kY (hg:Good P T) (hm:P.follows .mixedOrders=true) (fp:List (Nat×Nat)) (l ns:List Nat) (hM:∀ r,ns.contains r=false->Mv r) {id:Nat} (bJ:uG fp ops=true) {y:Code} {Q:Exit->St->Prop} {σ:St}
  (h:∀ K:St->Prop,(∀ τ:St,AW P Mv X G N y Q (τ.norm l ns)->K τ)->od P T Mv G N ops fp K 0 ops.toList σ):AW P Mv X G N (.seq (.region id ops true) y) Q σ:=
 adP (Fj hg hm fp bJ (h _ fun _ h=>h.norm l ns hM))
theorem adE (hg:Good P T) (hm:P.follows .mixedOrders=true) (fp:List (Nat×Nat)) {id:Nat} (bJ:uG fp ops=true) {Q:Exit->St->Prop} {σ:St}
  (h:∀ K:St->Prop,(∀ τ:St,Q .normal τ->K τ)->od P T Mv G N ops fp K 0 ops.toList σ):AW P Mv X G N (.region id ops true) Q σ:=Fj hg hm fp bJ (h _ fun _ h=>h)
end
end Go.Av
namespace Go.Av
def gd (fx:List Nat) (r:Nat):Prop:=fx.contains r=false
instance (fx:List Nat) (r:Nat):Decidable (gd fx r):=inferInstanceAs (Decidable (_=_))
theorem cK {fx ns:List Nat} (h:fx.all ns.contains=true):∀ r,ns.contains r=false->gd fx r:=fun r hr=>by
 unfold gd
 cases hc:fx.contains r with
 | false=>rfl
 | true=>
  have:=List.all_eq_true.1 h r (List.contains_iff_mem.1 hc);rw[this]at hr;cases hr
def MC (P:Program) (G:ao) (fx:List Nat) (g:FuncId) (xs:List AV) (H:Heap) (y:AV) (H2:Heap):Prop:=e7 P g/\∀ X,qS P (gd fx) X G g xs H fun x H'=>x=y/\H'=H2
def jg (bX fx:List Nat) (q off n:Nat):AV:=if bX.contains q && !fx.contains q then .dead else .own q off n
def jf (bX fx:List Nat) (q e j:Nat):AV:=if bX.contains q && !fx.contains q then .dead else .ref q e j
def ea (bX:List Nat) (q:Nat):Bool:=!bX.contains q
def jM (H2 H:Heap):Heap:=fun q=>match H2 q with
 | some row=>some row
 | none=>H q
theorem QF (l2 l:List (Nat×Row)):jM (ak l2) (ak l)=ak (l2 ++ l):=by
 funext q
 induction l2 with
 | nil=>rfl
 | cons p l2 ih=>
  unfold jM at ih ⊢;simp only[ak,List.cons_append,List.lookup]at ih ⊢;cases h:(q == p.1)<;>simp only[h]at ih ⊢;exact ih
section
variable {P:Program} {T:Ty} {Mv X:Nat->Prop} {G:ao} {N:Fr} {w:World} {μ:Mu} {a:Act} {σ:St}
theorem RV.sS {w':World} {X':Nat->Prop} {ax:Mu} {o f:Nat->Nat->Nat->AV} (hD:∀ u d,RD w (XX X μ) u d->RD w' (XX X' ax) u d) (ho:∀ u r off n,RV w X μ u (.own r off n)->RV w' X' ax u (o r off n)) (hf:∀ u r e j,RV w X μ u (.ref r e j)->RV w' X' ax u (f r e j)) :
  ∀ {v:Value} {x:AV},RV w X μ v x->RV w' X' ax v (x.tr o f):=by
 intro v x hr
 induction hr with
 | d h'=>exact .d (hD _ _ h')
 | own hm h'=>exact ho _ _ _ _ (.own hm h')
 | ref hm hb=>exact hf _ _ _ _ (.ref hm hb)
 | agg hn _ ih=>
  rw[AV.tr,AV.uZ];refine wX (.agg (by simpa using hn) fun j u c hu hc=>?_);rw[List.getElem?_map]at hc;obtain⟨c',cI,rfl⟩:=Option.map_eq_some_iff.1 hc;exact ih j u c' hu cI
 | tup hn _ ih=>
  rw[AV.tr,AV.uZ];refine zA (.tup (by simpa using hn) fun j u c hu hc=>?_);rw[List.getElem?_map]at hc;obtain⟨c',cI,rfl⟩:=Option.map_eq_some_iff.1 hc;exact ih j u c' hu cI
 | bA _ ih=>exact DO ih
 | bm _ ih=>exact .bm ih
 | fn hn _ ih=>
  rw[AV.tr,AV.uZ];refine DN (by simpa using hn) fun j u c hu hc=>?_;rw[List.getElem?_map]at hc;obtain⟨c',cI,rfl⟩:=Option.map_eq_some_iff.1 hc;exact ih j u c' hu cI
 | mp hm hb=>
  rename_i r b m;have h0:=hf _ _ _ _ (RV.ref (e:=0) (j:=0) hm hb);unfold AV.tr;split
  .rename_i q' e' j' hq;rw[hq]at h0;obtain⟨m',b',bU,aT,e⟩:=h0.ie;simp only[Value.pointer.injEq,Option.some.injEq,Addr.mk.injEq]at e;obtain⟨rfl,_⟩:=e;exact .mp bU aT
  .exact .dead _
 | dead u=>exact .dead u
theorem RV.lift {w':World} {X':Nat->Prop} {ax:Mu} (hD:∀ u d,RD w (XX X μ) u d->RD w' (XX X' ax) u d) (hμ:∀ q m,μ q=some m->ax q=some m):∀ {v:Value} {x:AV},RV w X μ v x->RV w' X' ax v x:=by
 intro v x hr
 induction hr with
 | d h'=>exact .d (hD _ _ h')
 | own hm h'=>exact .own (hμ _ _ hm) h'
 | ref hm hb=>exact .ref (hμ _ _ hm) hb
 | agg hn _ ih=>exact .agg hn ih
 | tup hn _ ih=>exact .tup hn ih
 | bA _ ih=>exact .bA ih
 | bm _ ih=>exact .bm ih
 | fn hn _ ih=>exact .fn hn ih
 | mp hm hb=>exact .mp (hμ _ _ hm) hb
 | dead u=>exact .dead u
theorem abV.sS {w':World} {X':Nat->Prop} {ax:Mu} {o f:Nat->Nat->Nat->AV} {m:gn} (hb:∀ b,m.dy=some b->w'.heap[b]? = w.heap[b]?) (hD:∀ u d,RD w (XX X μ) u d->RD w' (XX X' ax) u d) (hV:∀ u x,RV w X μ u x->RV w' X' ax u (x.tr o f)) {row:Row} (ok:abV w X μ m row):abV w' X' ax m (row.tr o f):=by
 cases ok with
 | nil h1 h2=>exact .nil h1 h2
 | sl h1 h2 h3 h4 h5 h6 h7 h8 h9=>exact .sl h1 h2 ((hb _ h1).trans h3) h4 h5 h6 h7 h8 fun i j el c he hc=>let ⟨u,hu,hr⟩:=h9 i j el c he hc;⟨u,hu,hD _ _ hr⟩
 | box h1 h2 h3 h4 h5 h6 h7=>
  refine .box h1 rfl h3 ((hb _ h1).trans h4) (by simpa using h5) (hx:=by simpa using h7) fun j u c hu hc=>?_;rw[List.getElem?_map]at hc;obtain⟨c',cI,rfl⟩:=Option.map_eq_some_iff.1 hc;exact hV _ _ (h6 j u c' hu cI)
 | mp h1 h2 h3 h4=>exact .mp h1 ((hb _ h1).trans h2) h3 fun i e p he hp=>let ⟨a,b,c⟩:=h4 i e p he hp;⟨a,b,hD _ _ c⟩
 | it h1 h2 h3=>exact .it h1 ((hb _ h1).trans h2) (hD _ _ h3)
theorem abV.lift {w':World} {X':Nat->Prop} {ax:Mu} {m:gn} (hb:∀ b,m.dy=some b->w'.heap[b]? = w.heap[b]?) (hD:∀ u d,RD w (XX X μ) u d->RD w' (XX X' ax) u d) (hμ:∀ q m,μ q=some m->ax q=some m) {row:Row} (ok:abV w X μ m row):abV w' X' ax m row:=by
 cases ok with
 | nil h1 h2=>exact .nil h1 h2
 | sl h1 h2 h3 h4 h5 h6 h7 h8 h9=>exact .sl h1 h2 ((hb _ h1).trans h3) h4 h5 h6 h7 h8 fun i j el c he hc=>let ⟨u,hu,hr⟩:=h9 i j el c he hc;⟨u,hu,hD _ _ hr⟩
 | box h1 h2 h3 h4 h5 h6 h7=>exact .box h1 rfl h3 ((hb _ h1).trans h4) h5 (fun j u c hu hc=>(h6 j u c hu hc).lift hD hμ) h7
 | mp h1 h2 h3 h4=>exact .mp h1 ((hb _ h1).trans h2) h3 fun i e p he hp=>let ⟨a,b,c⟩:=h4 i e p he hp;⟨a,b,hD _ _ c⟩
 | it h1 h2 h3=>exact .it h1 ((hb _ h1).trans h2) (hD _ _ h3)
theorem adK {keep:Nat->Bool} {b:Nat} (h:gh (bL keep μ) b):gh μ b:=let ⟨r,m,hr,hb⟩:=h;⟨r,m,(ab3 hr).2,hb⟩
theorem AU {bX:List Nat} {b:Nat}:XX (XX X (bL (ea bX) μ)) (bL bX.contains μ) b↔XX X μ b:=by
 constructor
 .rintro ((h | h) | h)
  .exact .inl h
  .exact .inr (adK h)
  .exact .inr (adK h)
 .rintro (h | ⟨r,m,hr,hb⟩)
  .exact .inl (.inl h)
  .cases hk:bX.contains r with
   | true=>exact .inr ⟨r,m,by simp only[bL,hk,if_true];exact hr,hb⟩
   | false=>exact .inl (.inr ⟨r,m,by simp only[bL,ea,hk,Bool.not_false,if_true];exact hr,hb⟩)
theorem Sim.part {H:Heap} (hs:Sim w X μ H) (bX:List Nat):Sim w (XX X (bL (ea bX) μ)) (bL bX.contains μ) (trH bX.contains (dD bX) (abk bX) H)/\
  ∀ {u:Value} {x:AV},RV w X μ u x->RV w (XX X (bL (ea bX) μ)) (bL bX.contains μ) u (x.tr (dD bX) (abk bX)):=by
 have hD:∀ u d,RD w (XX X μ) u d->RD w (XX (XX X (bL (ea bX) μ)) (bL bX.contains μ)) u d:=fun u d h=>h.sub fun b=>AU.1
 have hV:∀ u x,RV w X μ u x->RV w (XX X (bL (ea bX) μ)) (bL bX.contains μ) u (x.tr (dD bX) (abk bX)):=fun u x=>RV.sS hD (fun u r off n h=>by
   unfold dD;split
   .rename_i hk;obtain⟨m,hm,hh⟩:=h.jd;exact .own (by simp only[bL,hk,if_true];exact hm) hh
   .exact .dead u) (fun u r e j h=>by
   unfold abk;split
   .rename_i hk;obtain⟨m,b,hm,hb,rfl⟩:=h.ie;exact .ref (by simp only[bL,hk,if_true];exact hm) hb
   .exact .dead u)
 refine⟨⟨fun r row hr=>?_,fun r m hr=>?_,fun q q' m1 m2 b h1 h2 cY dA=>hs.inj q q' m1 m2 b (ab3 h1).2 (ab3 h2).2 cY dA,fun q m b hq hb hX=>?_,fun b hb=>hb.elim (hs.fits b) fun h=>hs.jj (adK h)⟩,fun h=>hV _ _ h⟩
 .unfold trH at hr;split at hr
  .rename_i hk;obtain⟨kU,h0,rfl⟩:=Option.map_eq_some_iff.1 hr;obtain⟨m,hm,ok⟩:=hs.rows r kU h0;exact⟨m,by simp only[bL,hk,if_true];exact hm,ok.sS (fun _ _=>rfl) hD hV⟩
  .cases hr
 .obtain⟨hk,hm⟩:=ab3 hr;obtain⟨row,cF⟩:=hs.iu r m hm;exact⟨row.tr (dD bX) (abk bX),by simp only[trH,hk,if_true,cF,Option.map_some]⟩
 .obtain⟨hk,hm⟩:=ab3 hq
  rcases hX with h | ⟨r,mr,hr,Cc⟩
  .exact hs.frame q m b hm hb h
  .obtain⟨eA,tR⟩:=ab3 hr;have:=hs.inj q r m mr b hm tR hb Cc;subst this;simp only[ea,hk,Bool.not_true,Bool.false_eq_true]at eA
theorem ir.zw {fx bX:List Nat} {g:FuncId} {jZ xs:List AV} {H1 H2:Heap} {y:AV} (hc:MC P G fx g xs H1 y H2) (hx:jZ.map (AV.tr (dD bX) (abk bX))=xs) (hH:trH bX.contains (dD bX) (abk bX) σ.H=H1)
  (hd:∀ q,(H2 q).isSome=true->bX.contains q=true\/σ.H q=none) (hm:∀ r,bX.contains r=true->fx.contains r=false->Mv r) {K:AV->St->Prop}
  (h:K y ⟨trE (jg bX fx) (jf bX fx) σ.env,jM H2 (trH (ea bX) (jg bX fx) (jf bX fx) σ.H)⟩):ir P Mv X G N g jZ σ K:=by
 refine⟨hc.1,fun w μ a vs hi hn hv=>?_⟩;obtain⟨cm,fM⟩:=hi.aY.part bX;rw[hH]at cm;refine (hc.2 (XX X (bL (ea bX) μ)) w (bL bX.contains μ) vs cm (fun g x hx=>(hi.gq g x hx).sub fun b=>AU.1) (by rw[hn,<- hx,List.length_map]) fun i u x hu lV=>?_).mono ?_
 .rw[<- hx,List.getElem?_map]at lV;obtain⟨x0,qs,rfl⟩:=Option.map_eq_some_iff.1 lV;exact fM (hv i u x0 hu qs)
 .rintro e w' ⟨v,x,H',μ2,rfl,⟨rfl,rfl⟩,hr,hs2,aJ⟩
  have Qa:∀ q m,μ2 q=some m->bX.contains q=true\/μ q=none:=fun q m hq=>by
   obtain⟨row,cF⟩:=hs2.iu q m hq
   rcases hd q (by rw[cF];rfl)with h | h
   .exact .inl h
   .exact .inr (hi.aY.sC h)
  let ax:Mu:=fun q=>match μ2 q with
   | some m=>some m
   | none=>bL (ea bX) μ q
  have m2:∀ q m,μ2 q=some m->ax q=some m:=fun q m hq=>by simp only[ax,hq]
  have mr:∀ q m,bX.contains q=false->μ q=some m->ax q=some m:=fun q m hk hq=>by
   have h2:μ2 q=none:=by
    cases h2:μ2 q with
    | none=>rfl
    | some m'=>
     rcases Qa q m' h2 with h | h
     .rw[hk]at h;cases h
     .rw[hq]at h;cases h
   simp only[ax,h2,bL,ea,hk,Bool.not_false,if_true,hq]
  have of:∀ q m,ax q=some m->μ2 q=some m\/(μ2 q=none/\bX.contains q=false/\μ q=some m):=fun q m hq=>by
   cases h2:μ2 q with
   | some m'=>simp only[ax,h2]at hq;exact .inl hq
   | none=>
    simp only[ax,h2]at hq;obtain⟨hk,hm⟩:=ab3 hq;exact .inr ⟨rfl,by simpa[ea]using hk,hm⟩
  have same:∀ b,b < w.heap.size->¬ gh (bL bX.contains μ) b->w'.heap[b]? = w.heap[b]?/\¬ gh μ2 b:=aJ.same
  have hXX:∀ b,XX X ax b->XX (XX X (bL (ea bX) μ)) μ2 b:=fun b hb=>by
   rcases hb with hb | ⟨q,m,hq,hbq⟩
   .exact .inl (.inl hb)
   .rcases of q m hq with h2 | ⟨_,hk,hm⟩
    .exact .inr ⟨q,m,h2,hbq⟩
    .exact .inl (.inr ⟨q,m,by simp only[bL,ea,hk,Bool.not_false,if_true];exact hm,hbq⟩)
  have hD:∀ u d,RD w (XX X μ) u d->RD w' (XX X ax) u d:=fun u d h=>h.mono aJ.size fun b hb hX=>by
   obtain⟨h1,h2⟩:=same b hb fun hr=>hX (.inr (adK hr));refine⟨h1,fun PC=>?_⟩
   rcases PC with h | ⟨q,m,hq,hbq⟩
   .exact hX (.inl h)
   .rcases of q m hq with h3 | ⟨_,_,hm⟩
    .exact h2 ⟨q,m,h3,hbq⟩
    .exact hX (.inr ⟨q,m,hm,hbq⟩)
  have GN:∀ u d,RD w' (XX (XX X (bL (ea bX) μ)) μ2) u d->RD w' (XX X ax) u d:=fun u d h=>h.sub hXX
  have stay:∀ q m,(bX.contains q && !fx.contains q)=false->μ q=some m->ax q=some m:=fun q m hk hq=>by
   cases hl:bX.contains q with
   | false=>exact mr q m hl hq
   | true=>
    rw[hl,Bool.true_and]at hk
    have hfx:fx.contains q=true:=by simpa using hk
    exact m2 q m (aJ.kept q m (by simp only[bL,hl,if_true];exact hq) (by unfold gd;rw[hfx];simp))
  have hV:∀ u x,RV w X μ u x->RV w' X ax u (x.tr (jg bX fx) (jf bX fx)):=fun u x=>RV.sS hD (fun u r off n h=>by
    unfold jg;split
    .exact .dead u
    .rename_i hk;obtain⟨m,hm,hh⟩:=h.jd
     exact .own (stay r m (by simpa using hk) hm) hh) (fun u r e j h=>by
    unfold jf;split
    .exact .dead u
    .rename_i hk;obtain⟨m,b,hm,hb,rfl⟩:=h.ie
     exact .ref (stay r m (by simpa using hk) hm) hb)
  refine⟨v,x,_,ax,rfl,h,⟨⟨fun q row hq=>?_,fun q m hq=>?_,fun q q' m1 mm b h1 h2 cY dA=>?_,fun q m b hq hb=>?_,fun b hb=>Nat.lt_of_lt_of_le (hi.aY.fits b hb) aJ.size⟩,⟨hi.env.defers,hi.env.size,fun i x hx=>?_⟩,fun g x hx=>hD _ _ (hi.gq g x hx)⟩,hr.lift GN m2,aJ.size,aJ.os,aJ.tape,aJ.output,fun b hb hrn=>?_,fun r m hr hn=>?_⟩
  .simp only[jM]at hq;split at hq
   .rename_i sJ h2;obtain rfl:=Option.some.inj hq;obtain⟨m,hm,ok⟩:=hs2.rows q sJ h2;exact⟨m,m2 q m hm,ok.lift (fun _ _=>rfl) GN m2⟩
   .unfold trH at hq;split at hq
    .rename_i hk
     have eA:bX.contains q=false:=by simpa[ea]using hk
     obtain⟨kU,h0,rfl⟩:=Option.map_eq_some_iff.1 hq;obtain⟨m,hm,ok⟩:=hi.aY.rows q kU h0;refine⟨m,mr q m eA hm,ok.sS (fun b hb=>(same b (ok.jj hb) fun ⟨r,To,hr',Cc⟩=>?_).1) hD hV⟩;obtain⟨qg,tR⟩:=ab3 hr';have:=hi.aY.inj q r m To b hm tR hb Cc;subst this;rw[eA]at qg;cases qg
    .cases hq
  .simp only[jM]
   rcases of q m hq with h2 | ⟨h2,hk,hm⟩
   .obtain⟨row,cF⟩:=hs2.iu q m h2;exact⟨row,by rw[cF]⟩
   .have wy:H' q=none:=by
     cases hh:H' q with
     | none=>rfl
     | some row=>obtain⟨m',bU,_⟩:=hs2.rows q row hh;rw[h2]at bU;cases bU
    obtain⟨row,cF⟩:=hi.aY.iu q m hm;exact⟨row.tr (jg bX fx) (jf bX fx),by rw[wy];simp only[trH,ea,hk,Bool.not_false,if_true,cF,Option.map_some]⟩
  .rcases of q m1 h1 with g1 | ⟨_,k1,g1⟩<;>rcases of q' mm h2 with g2 | ⟨_,k2,g2⟩
   .exact hs2.inj q q' m1 mm b g1 g2 cY dA
   .exact absurd (.inr ⟨q',mm,by simp only[bL,ea,k2,Bool.not_false,if_true];exact g2,dA⟩) (hs2.frame q m1 b g1 cY)
   .exact absurd (.inr ⟨q,m1,by simp only[bL,ea,k1,Bool.not_false,if_true];exact g1,cY⟩) (hs2.frame q' mm b g2 dA)
   .exact hi.aY.inj q q' m1 mm b g1 g2 cY dA
  .rcases of q m hq with g1 | ⟨_,k1,g1⟩
   .exact fun hX=>hs2.frame q m b g1 hb (.inl hX)
   .exact hi.aY.frame q m b g1 hb
  .replace hx:trE (jg bX fx) (jf bX fx) σ.env i=some x:=hx;unfold trE at hx;obtain⟨x0,h0,rfl⟩:=Option.map_eq_some_iff.1 hx;obtain⟨u,hu,hr⟩:=hi.env.slot i x0 h0;exact⟨u,hu,hV _ _ hr⟩
  .obtain⟨h1,h2⟩:=same b hb fun hr=>hrn (adK hr);refine⟨h1,fun ⟨q,m,hq,hbq⟩=>?_⟩
   rcases of q m hq with h3 | ⟨_,_,hm⟩
   .exact h2 ⟨q,m,h3,hbq⟩
   .exact hrn ⟨q,m,hm,hbq⟩
  .cases hl:bX.contains r with
   | false=>exact mr r m hl hr
   | true=>
    cases hf:fx.contains r with
    | false=>exact absurd (hm r hl hf) hn
    | true=>exact stay r m (by rw[hl,hf];rfl) hr
theorem aaT.zw {fx:List Nat} {g:FuncId} {jZ xs:List AV} {H1 H2:Heap} {y:AV} {dst:Option Tmp} {next:St->Prop} (bX:List Nat) (hc:MC P G fx g xs H1 y H2) (hx:jZ.map (AV.tr (dD bX) (abk bX))=xs) (hH:trH bX.contains (dD bX) (abk bX) σ.H=H1)
  (hd:∀ q,(H2 q).isSome=true->bX.contains q=true\/σ.H q=none) (hm:∀ r,bX.contains r=true->fx.contains r=false->Mv r)
  (h:next ⟨aD (trE (jg bX fx) (jf bX fx) σ.env) dst y,jM H2 (trH (ea bX) (jg bX fx) (jf bX fx) σ.H)⟩):aaT P Mv X G N g jZ σ dst next:=
 ir.zw hc hx hH hd hm h
theorem aaT.mc {fx:List Nat} {g:FuncId} {jZ xs:List AV} {aaO ek:List (Nat×Row)} {y:AV} {dst:Option Tmp} {next:St->Prop} (hc:MC P G fx g xs (ak aaO) y (ak ek)) (hx:jZ.map (AV.tr (dD (aaO.map (·.1))) (abk (aaO.map (·.1))))=xs)
  (hH:∀ p∈aaO,(σ.H p.1).map (Row.tr (dD (aaO.map (·.1))) (abk (aaO.map (·.1))))=ak aaO p.1) (hd:∀ p∈ek,(aaO.map (·.1)).contains p.1=true\/σ.H p.1=none) (hm:∀ r∈aaO.map (·.1),fx.contains r=false->Mv r)
  (h:next ⟨aD (trE (jg (aaO.map (·.1)) fx) (jf (aaO.map (·.1)) fx) σ.env) dst y,jM (ak ek) (trH (ea (aaO.map (·.1))) (jg (aaO.map (·.1)) fx) (jf (aaO.map (·.1)) fx) σ.H)⟩):aaT P Mv X G N g jZ σ dst next:=by
 refine ir.zw hc hx (funext (Ab hH)).symm (fun q hq=>?_) (fun r hr=>hm r (List.contains_iff_mem.1 hr)) h
 have jP:∀ l:List (Nat×Row),(ak l q).isSome=true->∃ p∈l,p.1=q:=by
  intro l
  induction l with
  | nil=>intro h;simp[ak]at h
  | cons p l ih=>
   intro h;simp only[ak,List.lookup]at h
   cases lg:(q == p.1) with
   | true=>exact⟨p,by simp,by simpa using (beq_iff_eq.1 lg).symm⟩
   | false=>
    rw[lg]at h;obtain⟨p',h1,h2⟩:=ih h;exact⟨p',by simp[h1],h2⟩
 obtain⟨p,hp,rfl⟩:=jP ek hq;exact hd p hp
def z7 (names:List Nat) (x y:AV):Prop:=match x.tr (dD names) (abk names),y with
 | .d d',.d d=>d'.le d
 | p,q=>p=q
def yc (T:Ty) (rs:List ResultVar) (y:AV) (rows:List (Nat×Row)) (σ:St):Prop:=match qL T σ rs with
 | some (c,vs)=>c/\z7 (rows.map (·.1)) (oneOf vs) y/\∀ p∈rows,(σ.H p.1).map (Row.tr (dD (rows.map (·.1))) (abk (rows.map (·.1))))=ak rows p.1
 | none=>False
def FH (T:Ty) (rs:List ResultVar) (y:AV) (rows:List (Nat×Row)):Exit->St->Prop
 | .normal,σ | .ret,σ=>yc T rs y rows σ
 | _,_=>False
theorem Wo {names:List Nat} {x y:AV} {u:Value} (h:z7 names x y) (hr:RV w X μ u (x.tr (dD names) (abk names))):RV w X μ u y:=by
 unfold z7 at h;split at h
 .rename_i d' d hx;rw[hx]at hr;exact .d (hr.data.le h)
 .rw[<- h];exact hr
theorem MC.aC (hg:Good P T) {g:FuncId} {fn:Func} {c:Code} {rs:List ResultVar} {xs:List AV} {H:Heap} {y:AV} {rows:List (Nat×Row)} {fx:List Nat} (hf:P.funcs[g]? = some fn) (hb:fn.body=some c) (hn:(fn.name == "runtime.NumGoroutine")=false) (gA:fn.results=rs.toArray)
  (hN:xs.length<=fn.ntmps) (hfx:fx.all (rows.map (·.1)).contains=true) (h:∀ X,AW P (gd fx) X G ⟨fn.ntmps,[],none⟩ c (FH T rs y rows) ⟨args xs,H⟩):MC P G fx g xs H y (ak rows):=by
 refine⟨e7.of hf hb hn,fun X w μ vs hs cq aK hv=>?_⟩
 have fin:∀ (w':World) (ax:Mu) (a':Act) (aw:St),yc T rs y rows aw->In w' X G ax ⟨fn.ntmps,[],none⟩ a' aw->Ev (gd fx) w μ w' ax->∃ v,(results fn a'.tmps).run P w' = .ok v w'/\∃ v_1 x H' ax,Ending.returned v=Ending.returned v_1/\(x=y/\H'=ak rows)/\RV w' X ax v_1 x/\Sim w' X ax H'/\Ev (gd fx) w μ w' ax:=by
  intro w' ax a' aw he hi aJ;unfold yc at he;split at he
  .rename_i c xs hx;obtain⟨hc,he,Rr⟩:=he;obtain⟨v,hv,hr⟩:=Er (P:=P) hg hi gA hx hc;have hX:∀ b,XX X (bL (rows.map (·.1)).contains ax) b->XX X ax b:=fun b=>vf
   have ho:∀ u r off n,RV w' X ax u (.own r off n)->RV w' X (bL (rows.map (·.1)).contains ax) u (dD (rows.map (·.1)) r off n):=fun u r off n h=>by
    unfold dD;split
    .rename_i hk;exact h.uK hk
    .exact .dead u
   have hf:∀ u r e j,RV w' X ax u (.ref r e j)->RV w' X (bL (rows.map (·.1)).contains ax) u (abk (rows.map (·.1)) r e j):=fun u r e j h=>by
    unfold abk;split
    .rename_i hk;exact h.uO hk
    .exact .dead u
   have aF:=hi.tr ho hf;have hH:trH (rows.map (·.1)).contains (dD (rows.map (·.1))) (abk (rows.map (·.1))) aw.H=ak rows:=(funext (Ab Rr)).symm;refine⟨v,hv,v,y,ak rows,_,rfl,⟨rfl,rfl⟩,Wo he (RV.tr hX ho hf hr),hH ▸ aF.aY,aJ.trans (rh fun r _ _ hr=>cK hfx r hr)⟩
  .exact he.elim
 refine calls_of_wp hf hb ((wpIn_wide (n:=0)).1 (wpIn_mono (h X w μ _ ⟨hs,⟨rfl,by simp;omega,fun i x hx=>?_⟩,cq⟩) fun e a' w' ⟨ax,aw,q,i,ev⟩=>?_))
 .simp only[args]at hx;have hi:i < xs.length:=(List.getElem?_eq_some_iff.1 hx).1
  have hvi:vs[i]? = some vs[i]:=by rw[Array.getElem?_eq_getElem]
  exact⟨vs[i],by rw[Array.getElem?_append_left (by omega),hvi],hv i _ x hvi hx⟩
 .cases e with
  | normal=>
   obtain⟨v,hv,rest⟩:=fin w' ax a' aw q i ev;exact⟨i.env.defers,v,hv,rest⟩
  | ret=>
   obtain⟨v,hv,rest⟩:=fin w' ax a' aw q i ev;exact⟨i.env.defers,v,hv,rest⟩
  | _=>exact q.elim
end
end Go.Av
namespace Go.Av
theorem N9 (k:Value) (x:D):oG k x []=[(k,x)]:=rfl
theorem N8 (k:Value) (x:D) (p:Value×D) (l:List (Value×D)):oG k x (p :: l)=if fE k p.1 then (k,x) :: l else p :: oG k x l:=by
 unfold oG;rw[List.findIdx?_cons]
 cases h:fE k p.1 with
 | true=>simp
 | false=>
  simp only[Bool.false_eq_true,if_false];cases List.findIdx? (fun p=>fE k p.1) l<;>simp
theorem Vw (x:Value):D.one (.v x)=x.oneCell':=rfl
theorem Vt (k:Option Bool) (els:List (List D)):D.one (.sl k els)=true:=rfl
theorem Vr (c:List D):D.one (.ip c)=true:=rfl
theorem Vo (c:List D):D.one (.agg c)=false:=rfl
theorem Vv (c:List D):D.one (.tup c)=false:=rfl
theorem Vq (t:TypeId) (x:D):D.one (.bA t x)=true:=rfl
theorem Vp (f:Fn) (c:List D):D.one (.fn f c)=true:=rfl
theorem Mp (x:D):AV.one (.d x)=x.one:=rfl
theorem af5 (r o n:Nat):AV.one (.own r o n)=true:=rfl
theorem Mw (r e j:Nat):AV.one (.ref r e j)=true:=rfl
theorem Ms (t:TypeId) (x:AV):AV.one (.bA t x)=true:=rfl
theorem Mr (f:Fn) (c:List AV):AV.one (.fn f c)=true:=rfl
theorem Mn (c:List AV):AV.one (.agg c)=false:=rfl
theorem Mx (c:List AV):AV.one (.tup c)=false:=rfl
theorem Mo (g:FuncId) (x:AV):AV.one (.bm g x)=false:=rfl
theorem Mt (r:Nat):AV.one (.mp r)=true:=rfl
theorem Mq:AV.one .dead=false:=rfl
theorem Yt (x:Value):gl (.d (.v x))=if x.oneCell' then some [.d (.v x)] else none:=rfl
theorem Yr (k:Option Bool) (els:List (List D)):gl (.d (.sl k els))=some [.d (.sl k els)]:=rfl
theorem Yn (c:List D):gl (.d (.ip c))=some [.d (.ip c)]:=rfl
theorem Yg (c:List D):gl (.d (.agg c))=some (c.map .d):=rfl
theorem Yk (c:List D):gl (.d (.tup c))=none:=rfl
theorem Yj (t:TypeId) (x:D):gl (.d (.bA t x))=some [.d (.bA t x)]:=rfl
theorem Yi (f:Fn) (c:List D):gl (.d (.fn f c))=some [.d (.fn f c)]:=rfl
theorem Yp (r o n:Nat):gl (.own r o n)=some [.own r o n]:=rfl
theorem Yq (r e j:Nat):gl (.ref r e j)=some [.ref r e j]:=rfl
theorem Ye (c:List AV):gl (.agg c)=some c:=rfl
theorem Ys (c:List AV):gl (.tup c)=none:=rfl
theorem Ym (t:TypeId) (x:AV):gl (.bA t x)=some [.bA t x]:=rfl
theorem Yl (f:Fn) (c:List AV):gl (.fn f c)=some [.fn f c]:=rfl
theorem Yf (g:FuncId) (x:AV):gl (.bm g x)=none:=rfl
theorem Yo (r:Nat):gl (.mp r)=some [.mp r]:=rfl
theorem Yh:gl .dead=none:=rfl
attribute [simp] Vw Vt Vr Vo Vv Vq Vp Mp af5 Mw Ms Mr Mn Mx Mo Mt Mq
attribute [simp] Yt Yr Yn Yg Yk Yj Yi Yp Yq Ye Ys Ym Yl Yf Yo Yh
attribute [simp] Int.ofNat_inj List.lookup
attribute [simp] pN qF sF kindOf Op.operands Call.operands abF fQ afe cz eD zv adk TypeDesc.isSlice TypeDesc.isStr xW
attribute [simp] Dl xX ad2 ado lJ vh ov lG TypeDesc.isAgg yj oJ yi ab9 ad0 jz Ar eqv
attribute [simp] DW Bj zG zE yh zz zc AZ nv bound Al Am TypeDesc.isBool TypeDesc.isIface zF
attribute [simp] x5 Value.oneCell' xZ Eh aeB mz ri uM adv rowsOf rowsOf.go St.frz adi qJ xQ s7 EN FO oK EM afX
attribute [simp] xx La rd wr kB jG aD wY wZ cC undef cu agr Sc Sd X1 ago St.freeze bf cst oB eS
attribute [simp] lst ak int Av.bool ko lZ ae0 iI aL fD tgt args aa6 cQ AV.kill AV.kill.go Row.kill trE trH AV.tr AV.tr.go Row.tr
attribute [simp] p4 p3 abE M3 MU St.norm aep qx dD abk AX FB iq dU D.scalar aM aP atEnd A4 aeA qL z8
attribute [simp] oneOf X2 stepG mG qH nL ac6 xl N9 N8 fE ab2 bQ aa7 zR gd jg jf ea QF
attribute [simp] yc FH z7 yl ym St.nH vx
section
variable {P:Program} {T:Ty} {Mv X:Nat->Prop} {G:ao} {N:Fr} {w:World} {μ:Mu} {a:Act} {σ:St}
theorem aaT.tr {keep:Nat->Bool} {o f:Nat->Nat->Nat->AV} {g:FuncId} {xs:List AV} {dst:Option Tmp} {next:St->Prop}
  (ho:∀ w μ a,In w X G μ N a σ->∀ u r off n,RV w X μ u (.own r off n)->RV w X (bL keep μ) u (o r off n)) (hf:∀ w μ a,In w X G μ N a σ->∀ u r e j,RV w X μ u (.ref r e j)->RV w X (bL keep μ) u (f r e j))
  (hk:∀ r,keep r=false->Mv r) (h:aaT P Mv X G N g (xs.map (AV.tr o f)) ⟨trE o f σ.env,trH keep o f σ.H⟩ dst next):aaT P Mv X G N g xs σ dst next:=by
 refine⟨h.1,fun w μ a vs hi hn hv=>?_⟩;have aF:=hi.tr (ho w μ a hi) (hf w μ a hi);have aJ:Ev Mv w μ w (bL keep μ):=rh fun r _ _=>hk r;refine (h.2 w (bL keep μ) a vs aF (by simpa using hn) fun i u x hu hx=>?_).mono fun e w' ⟨v,x,aw,ax,he,k,hi',hr,ev⟩=>⟨v,x,aw,ax,he,k,hi',hr,aJ.trans ev⟩;rw[List.getElem?_map]at hx;obtain⟨x0,qs,rfl⟩:=Option.map_eq_some_iff.1 hx;exact RV.tr (fun b=>vf) (ho w μ a hi) (hf w μ a hi) (hv i u x0 hu qs)
theorem aaT.frz (r:Nat) {ty sz:Nat} {els:List (List D)} {g:FuncId} {xs:List AV} {dst:Option Tmp} {next:St->Prop} (hr:σ.H r=some (.sl ty sz els)) (hm:Mv r)
  (h:aaT P Mv X G N g (xs.map (AV.tr (p4 r els) (p3 r))) ⟨trE (p4 r els) (p3 r) σ.env,trH (abE r) (p4 r els) (p3 r) σ.H⟩ dst next):aaT P Mv X G N g xs σ dst next:=by
 refine aaT.tr (keep:=abE r) (fun w μ a hi u q off n hu=>?_) (fun w μ a hi u q e j hu=>?_) (fun q hq=>?_) h
 .have o8:(fun q=>if q=r then none else μ q)=bL (abE r) μ:=by
   funext q;unfold bL abE;by_cases h:q=r<;>simp[h]
  unfold p4;split
  .rename_i hq;subst hq
   have hd:∀ {off n:Nat},RV w X μ u (.own q off n)->off+n<=els.length->RV w X (bL (abE q) μ) u (.d (.sl none ((els.drop off).take n))):=fun h hle=>by
    obtain⟨k,hk,_⟩:=zP hi.aY hr hle h;rw[o8]at hk;exact .d hk.nw
   split
   .rename_i h2;obtain⟨rfl,rfl⟩:=h2;have:=hd hu (by omega);simpa using this
   .split
    .rename_i hle;exact hd hu hle
    .exact .dead u
  .rename_i hq;exact hu.uK (by simp[abE,hq])
 .unfold p3;split
  .exact .dead u
  .rename_i hq;exact hu.uO (by simp[abE,hq])
 .have e:q=r:=by simpa[abE]using hq
  exact e ▸ hm
end
theorem RD.ML {W:World} {X:Nat->Prop} {x y z:Value} {a b e:D} (h0:RD W X x a) (h1:RD W X y b) (h2:RD W X z e):∀ (i:Nat) (u:Value) (c:D),#[x,y,z][i]? = some u->[a,b,e][i]? = some c->RD W X u c:=fun i u c hu hc=>by
 match i,hu,hc with
 | 0,hu,hc=>simp at hu hc;subst hu hc;exact h0
 | 1,hu,hc=>simp at hu hc;subst hu hc;exact h1
 | 2,hu,hc=>simp at hu hc;subst hu hc;exact h2
 | i+3,hu,hc=>simp at hu
