/- Parts. -/
import Derived.Test.YtdigkhaofjmgkaaGreatDoorIs7
import Derived.Orders
set_option linter.unusedSectionVars false
set_option linter.unusedSimpArgs false
set_option linter.unusedVariables false
namespace Go.Av
def jl:Operand->Nat
 | .global _=>0
 | _=>1
@[simp] theorem XP (x:Operand):(jl x=2)=False:=by cases x<;>simp[jl]
@[simp] theorem XQ (x:Operand):(jl x=3)=False:=by cases x<;>simp[jl]
@[simp] theorem XR (x:Operand):(jl x=8)=False:=by cases x<;>simp[jl]
@[simp] theorem aeJ (x:Operand):(jl x=9)=False:=by cases x<;>simp[jl]
@[simp] theorem XO (x:Operand):(jl x=0\/jl x=1)=True:=by cases x<;>simp[jl]
theorem adq (x:Operand):jl x<=1:=by cases x<;>simp[jl]
def kindOf:Op->Nat
 | .load _ x=>jl x
 | .indexAddr _ _ _=>1
 | .slice _ _ _ _ _=>1
 | .lookup _ _ _ _=>1
 | .call { callee:=.value _,.. }=>2
 | .call { callee:=.builtin .append,.. }=>9
 | .call { callee:=.builtin .copy,.. }=>9
 | .alloc _=>3
 | .box _ _=>3
 | .buildSlice _ _ _=>3
 | .makeSlice _ _ _=>3
 | .store _ _ _=>8
 | .mapUpdate _ _ _ _=>8
 | .insert _ _ _ _=>8
 | .makeMap _ _=>3
 | .select _ _=>9
 | _=>0
def nO (x y:Nat):Bool:=match x,y with
 | 0,9 | 9,_ | 1,8 | 1,9 | 2,8 | 2,9 | 3,1 | 3,2 | 3,8 | 3,9 | 8,1 | 8,2 | 8,3 | 8,8 | 8,9=>false
 | _,_=>true
def fM (ops:Array Oper) (x y:Oper):Bool:=x.apart ops y && nO (kindOf x.op) (kindOf y.op)
def bitsOf (acc:List Nat) (o:Oper):Nat:=o.after.toList.foldr (fun e s=>if Region.binds .any e then (2 ^ e.on ||| acc.getD e.on 0) ||| s else s) 0
def abn:List Oper->List Nat->List Nat
 | [],acc=>acc
 | o :: l,acc=>abn l (acc ++ [bitsOf acc o])
def tb (ops:Array Oper):List Nat:=abn ops.toList []
def lY (ops:Array Oper):Bool:=
 let t:=tb ops
 (List.range ops.size).all fun j=>match ops[j]? with
  | some oj=>(oj.after.all fun e=>!Region.binds .any e || e.on < j) && (List.range j).all fun i=>(t.getD j 0).testBit i || match ops[i]? with
    | some oi=>fM ops oi oj && fM ops oj oi
    | none=>true
  | none=>true
section
variable {P:Program} {T:Ty} {Mv X:Nat->Prop} {G:YI} {N:Fr}
def sB (P:Program) (G:YI) (σ:St) (c:Call) (y:D):Prop:=∃ g xs,ZS G σ.env c=some (g,xs)/\
 ((∃ ds,xs=ds.map .d/\aq P G g ds y)\/(∃ ds,gQ (Zn σ.H 4) xs=some ds/\y.scalar=true/\aq P G g ds y))
def iD (P:Program) (T:Ty) (Mv:Nat->Prop) (G:YI) (o:Oper) (σ ag:St):Prop:=match Y0 o.op with
 | some c=>∃ y,sB P G σ c y/\ag=⟨au σ.env o.dst (.d y),σ.H⟩
 | none=>if Zr o.op then ∃ c x YK,wr T G Mv σ o=some (c,x,YK)/\c/\ag=⟨au YK.env o.dst x,YK.H⟩
  else ∃ c x,rd T G σ o.op=some (c,x)/\c/\ag=⟨au σ.env o.dst x,σ.H⟩
def qE (P:Program) (T:Ty) (Mv:Nat->Prop) (G:YI) (N:Fr) (ops:Array Oper) (o:Oper) (σ ag:St):Prop:=
 c8 N o/\((fc ops σ.env o=some true/\iD P T Mv G o σ ag)\/(fc ops σ.env o=some false/\ag=⟨au σ.env o.dst Y2,σ.H⟩))
theorem qF (hg:Good P T) {ops:Array Oper} {o:Oper} {σ ag:St} (h:qE P T Mv G N ops o σ ag) {w:World} {μ:Mu} {a:Act} (hi:In w X G μ N a σ) {i:Nat} (ho:ops[i]? = some o) {Q:Exit->Act->World->Prop} {K:Act->World->Prop}
  (hk:∀ w' ak a',In w' X G ak N a' ag->Ev Mv w μ w' ak->K a' w'):wpOpIn (wd N.ro) 0 P ops Q i K a w:=by
 obtain⟨hd,h⟩:=h
 have dv:∀ d,o.dst=some d->d < N.n:=fun d e=>by unfold c8 at hd;rw[e]at hd;exact hd
 unfold wpOpIn;simp only[ho]
 rcases h with⟨hw,h⟩ | ⟨hw,rfl⟩
 .rw[abV hi hw,if_pos rfl];refine (sP (Mv:=Mv) (K:=fun YK=>YK=ag) hg hi dv ?_ fun w' ak a' YK e ax aD=>hk w' ak a' (e ▸ ax) aD);unfold iD at h;unfold ex1;split at h
  .rename_i c hc;obtain⟨y,⟨g,xs,ht,gA⟩,rfl⟩:=h;simp only[hc,ht]
   rcases gA with⟨ds,rfl,hp⟩ | ⟨ds,hds,hs,hp⟩
   .exact gS.pure hp rfl
   .exact gS.aa3 hds hp hs rfl
  .rename_i hc;simp only[hc,kz];split at h
   .rename_i xl;rw[if_pos xl];obtain⟨c,x,YK,rJ,YY,rfl⟩:=h;simp only[rJ];exact⟨YY,trivial⟩
   .rename_i xl;rw[if_neg xl];obtain⟨c,x,hr,YY,rfl⟩:=h;simp only[hr];exact⟨YY,trivial⟩
 .rw[abV hi hw,if_neg (by simp)];exact⟨fun _ _=>trivial,hk w μ _ (hi.put (.d (.v _)) dv) (.refl _ w μ)⟩
theorem IA {e:Env} {dst:Option Tmp} {x:AV} {t:Nat} (h:dst≠some t):au e dst x t=e t:=by
 cases dst with
 | none=>rfl
 | some d=>have:t≠d:=fun e=>h (by rw[e]);simp[au,fb,this]
theorem dR {e:Env} {d d':Option Tmp} {x y:AV} (h:∀ t,d=some t->d'≠some t):au (au e d x) d' y=au (au e d' y) d x:=by
 cases d with
 | none=>rfl
 | some t=>
  cases d' with
  | none=>rfl
  | some t'=>
   have aG:t≠t':=fun e=>h t rfl (by rw[e]);funext i;by_cases h1:i=t<;>by_cases h2:i=t'<;>simp[au,fb,h1,h2,aG,Ne.symm aG]
   all_goals (subst h1;simp[aG])
def dB (o:Op) (e e':Env):Prop:=∀ t,Operand.tmp t∈o.operands->e t=e' t
theorem cI {e e':Env} {x:Operand} (h:∀ t,x = .tmp t->e t=e' t):aU G e x=aU G e' x:=by
 cases x with
 | tmp t=>exact h t rfl
 | _=>rfl
theorem zB {e e':Env}:∀ {l:List Operand},(∀ t,Operand.tmp t∈l->e t=e' t)->iU G e l=iU G e' l
 | [],_=>rfl
 | x :: l,h=>by
  simp only[iU];rw[cI (x:=x) fun t ht=>h t (by simp[ht]),zB (l:=l) fun t ht=>h t (by simp[ht])]
theorem vW {e e':Env}:∀ {l:List (Nat×Operand)},(∀ t,Operand.tmp t∈l.map (·.2)->e t=e' t)->aaG G e l=aaG G e' l
 | [],_=>rfl
 | (i,x) :: l,h=>by
  simp only[aaG];rw[cI (x:=x) fun t ht=>h t (by simp[ht]),vW (l:=l) fun t ht=>h t (by simp at ht ⊢;exact .inr ht)]
theorem D1 {e e':Env} {o:Option Operand} (h:∀ t,o=some (.tmp t)->e t=e' t):bound G e o=bound G e' o:=by
 cases o with
 | none=>rfl
 | some x=>simp only[bound];rw[cI (x:=x) fun t ht=>h t (by rw[ht])]
theorem UI {o:Op} {e e':Env} {H:Heap} (h:dB o e e'):rd T G ⟨e,H⟩ o=rd T G ⟨e',H⟩ o:=by
 unfold dB at h;cases o
 case makeFunc f first caps=>
  simp only[rd];rw[zB (l:=caps.toList) fun t ht=>h t (by simp[Op.operands];right;simpa using ht)];split
  .rfl
  .split
   .rename_i x AE ZL
    rw[cI (x:=x) fun t ht=>h t (by
     have hm:x∈first:=by
      have:x∈first.toList:=by rw[AE];simp
      simpa using this
     simp only[Op.operands];rw[<- ht]
     simp[hm])]
   .rfl
 case typeAssert y xT t b=>
  simp only[rd];rw[cI (x:=y) fun t ht=>h t (by simp[Op.operands,ht])]
 case build t parts=>
  simp only[rd];rw[vW (l:=parts.toList) fun t ht=>h t (by simpa[Op.operands]using ht)]
 case slice t x lo hi mx=>
  simp only[rd];rw[cI (x:=x) fun t ht=>h t (by simp[Op.operands,ht]),D1 (o:=lo) fun t ht=>h t (by simp[Op.operands,ht]),D1 (o:=hi) fun t ht=>h t (by simp[Op.operands,ht])]
 case call c=>
  obtain⟨callee,args,argTypes⟩:=c
  cases callee with
  | builtin b=>
   have two:∀ {x y:Operand},args.toList=[x,y]->aU G e x=aU G e' x/\aU G e y=aU G e' y:=fun {x y} ha=>
    ⟨cI (x:=x) fun t ht=>h t (by simp[Op.operands,Call.operands];rw[<- Array.mem_toList_iff,ha];simp[ht]),
     cI (x:=y) fun t ht=>h t (by simp[Op.operands,Call.operands];rw[<- Array.mem_toList_iff,ha];simp[ht])⟩
   cases b<;>try rfl
   case len=>
    simp only[rd];split
    .rename_i x t ha ht;rw[cI (x:=x) fun t ht=>h t (by simp[Op.operands,Call.operands];rw[<- Array.mem_toList_iff,ha];simp[ht])]
    .rfl
   case max=>
    simp only[rd];split
    .rename_i x y ha;rw[(two ha).1,(two ha).2]
    .rfl
   case min=>
    simp only[rd];split
    .rename_i x y ha;rw[(two ha).1,(two ha).2]
    .rfl
  | _=>rfl
 all_goals
  simp only[Op.operands,List.mem_toArray,List.mem_cons,List.not_mem_nil,or_false]at h
 all_goals
  first
   | rfl
   | (rename_i x;simp only[rd];rw[cI (x:=x) fun t ht=>h t (by simp[ht])];done)
   | (rename_i x _;simp only[rd];rw[cI (x:=x) fun t ht=>h t (by simp[ht])];done)
   | (rename_i x y;simp only[rd];rw[cI (x:=x) fun t ht=>h t (by simp[ht]),cI (x:=y) fun t ht=>h t (by simp[ht])];done)
   | (rename_i x y _;simp only[rd];rw[cI (x:=x) fun t ht=>h t (by simp[ht]),cI (x:=y) fun t ht=>h t (by simp[ht])];done)
   | (rename_i x y z;simp only[rd];rw[cI (x:=x) fun t ht=>h t (by simp[ht]),cI (x:=y) fun t ht=>h t (by simp[ht]),cI (x:=z) fun t ht=>h t (by simp[ht])];done)
def Ex (P:Program) (T:Ty) (Mv:Nat->Prop) (G:YI) (o:Oper) (e:Env) (H:Heap) (x:AV) (H':Heap):Prop:=match Y0 o.op with
 | some c=>∃ y,sB P G ⟨e,H⟩ c y/\x = .d y/\H'=H
 | none=>if Zr o.op then ∃ c,wr T G Mv ⟨e,H⟩ o=some (c,x,⟨e,H'⟩)/\c
  else ∃ c,rd T G ⟨e,H⟩ o.op=some (c,x)/\c/\H'=H
theorem si {o:Oper} (hk:kindOf o.op≠9) {σ YK:St} {c:Prop} {x:AV} (h:wr T G Mv σ o=some (c,x,YK)):YK.env=σ.env:=by
 obtain⟨dst,op,type,pos,after,guard⟩:=o;dsimp only at hk;unfold wr at h;dsimp only at h
 repeat' split at h
 all_goals first
  | (exact absurd rfl hk)
  | (simp only[Option.some.injEq,Prod.mk.injEq]at h;obtain⟨_,_,rfl⟩:=h;rfl)
  | cases h
theorem Ex.of {o:Oper} (hk:kindOf o.op≠9) {σ ag:St} (h:iD P T Mv G o σ ag):∃ x H',Ex P T Mv G o σ.env σ.H x H'/\ag=⟨au σ.env o.dst x,H'⟩:=by
 unfold iD at h;unfold Ex;split at h
 .rename_i c hc;obtain⟨y,gA,rfl⟩:=h;(try simp only[hc]);exact⟨_,_,⟨y,gA,rfl,rfl⟩,rfl⟩
 .rename_i hc;(try simp only[hc]);split at h
  .rename_i hw;obtain⟨c,x,YK,h1,h2,rfl⟩:=h;have he:=si hk h1;refine⟨x,YK.H,?_,by rw[he]⟩;rw[if_pos hw];refine⟨c,?_,h2⟩;obtain⟨e,H⟩:=σ;obtain⟨e1,H1⟩:=YK;dsimp only at he;subst he;exact h1
  .rename_i hw;obtain⟨c,x,h1,h2,rfl⟩:=h;refine⟨x,σ.H,?_,rfl⟩;rw[if_neg hw];exact⟨c,h1,h2,rfl⟩
theorem Ex.to {o:Oper} {e:Env} {H H':Heap} {x:AV} (h:Ex P T Mv G o e H x H'):iD P T Mv G o ⟨e,H⟩ ⟨au e o.dst x,H'⟩:=by
 unfold Ex at h;unfold iD;split at h
 .rename_i c hc;obtain⟨y,gA,rfl,rfl⟩:=h;(try simp only[hc]);exact⟨y,gA,rfl⟩
 .rename_i hc;(try simp only[hc]);split at h
  .rename_i hw;obtain⟨c,h1,h2⟩:=h;rw[if_pos hw];exact⟨c,x,_,h1,h2,rfl⟩
  .rename_i hw;obtain⟨c,h1,h2,rfl⟩:=h;rw[if_neg hw];exact⟨c,x,h1,h2,rfl⟩
theorem nK {o:Op} {c:Call} (h:Y0 o=some c):o = .call c/\kindOf o=2:=by
 unfold Y0 at h;split at h
 .obtain rfl:=Option.some.inj h;exact⟨rfl,rfl⟩
 .cases h
theorem qJ {e e':Env} {c:Call} (h:∀ t,Operand.tmp t∈c.operands->e t=e' t):ZS G e c=ZS G e' c:=by
 unfold ZS;split
 .rename_i f hf;rw[cI (x:=f) fun t ht=>h t (by simp[Call.operands,hf,ht]),zB (l:=c.args.toList) fun t ht=>h t (by simp[Call.operands,hf];right;simpa using ht)]
 .rfl
theorem W6 {o:Oper} (hk:kindOf o.op≠9) {e e':Env} {H H':Heap} {c:Prop} {x:AV} (ha:dB o.op e e') (h:wr T G Mv ⟨e,H⟩ o=some (c,x,⟨e,H'⟩)):wr T G Mv ⟨e',H⟩ o=some (c,x,⟨e',H'⟩):=by
 obtain⟨dst,op,type,pos,after,guard⟩:=o;dsimp only at hk ha;unfold dB at ha;cases op
 case alloc t=>
  cases dst with
  | none=>cases h
  | some d=>
   simp only[wr]at h ⊢;split at h
   .rename_i ti ht;simp only[Option.some.injEq,Prod.mk.injEq,St.mk.injEq,true_and]at h;obtain⟨rfl,rfl,rfl⟩:=h;simp
   .cases h
 case box t y=>
  cases dst with
  | none=>cases h
  | some d=>
   simp only[wr]at h ⊢;rw[<- cI (e:=e) (x:=y) fun t ht=>ha t (by simp[Op.operands,ht])];split at h
   .simp only[Option.some.injEq,Prod.mk.injEq,St.mk.injEq,true_and]at h;obtain⟨rfl,rfl,rfl⟩:=h;rename_i bR;simp[bR]
   .cases h
 case store t y z=>
  cases dst with
  | some d=>cases h
  | none=>
   simp only[wr]at h ⊢;rw[<- cI (e:=e) (x:=y) fun t ht=>ha t (by simp[Op.operands,ht]),<- cI (e:=e) (x:=z) fun t ht=>ha t (by simp[Op.operands,ht])];split at h
   .rename_i r e0 j v h1 h2;(try simp only[h1,h2]);split at h
    .rename_i ty cells hH;(try simp only[hH]);split at h
     .rename_i he;(try simp only[he,if_true]);split at h
      .rename_i c' oh hs;(try simp only[hs]);simp only[Option.some.injEq,Prod.mk.injEq,St.mk.injEq,true_and]at h ⊢;exact h
      .cases h
     .cases h
    .rename_i ty sz els hH;(try simp only[hH]);split at h
     .rename_i c' iT hs;(try simp only[hs]);simp only[Option.some.injEq,Prod.mk.injEq,St.mk.injEq,true_and]at h ⊢;exact h
     .cases h
    .cases h
    .cases h
    .cases h
   .cases h
 case makeMap t rs=>
  cases dst with
  | none=>cases rs<;>cases h
  | some d=>
   cases rs with
   | some _=>cases h
   | none=>
    simp only[wr]at h ⊢;simp only[Option.some.injEq,Prod.mk.injEq,St.mk.injEq,true_and]at h ⊢;exact h
 case mapUpdate t m k v=>
  cases dst with
  | some d=>cases h
  | none=>
   simp only[wr]at h ⊢;rw[<- cI (e:=e) (x:=m) fun t ht=>ha t (by simp[Op.operands,ht]),<- cI (e:=e) (x:=k) fun t ht=>ha t (by simp[Op.operands,ht]),<- cI (e:=e) (x:=v) fun t ht=>ha t (by simp[Op.operands,ht])];split at h
   .rename_i r key y h1 h2 h3;(try simp only[h1,h2,h3]);split at h
    .rename_i ty ents hH;(try simp only[hH]);split at h
     .rename_i c' aab hp;(try simp only[hp]);simp only[Option.some.injEq,Prod.mk.injEq,St.mk.injEq,true_and]at h ⊢;exact h
     .cases h
    .cases h
   .cases h
 case insert t m k v=>
  cases dst with
  | some d=>cases h
  | none=>
   simp only[wr]at h ⊢;rw[<- cI (e:=e) (x:=m) fun t ht=>ha t (by simp[Op.operands,ht]),<- cI (e:=e) (x:=k) fun t ht=>ha t (by simp[Op.operands,ht]),<- cI (e:=e) (x:=v) fun t ht=>ha t (by simp[Op.operands,ht])];split at h
   .rename_i r key y h1 h2 h3;(try simp only[h1,h2,h3]);split at h
    .rename_i ty ents hH;(try simp only[hH]);split at h
     .rename_i c' aab hp;(try simp only[hp]);simp only[Option.some.injEq,Prod.mk.injEq,St.mk.injEq,true_and]at h ⊢;exact h
     .cases h
    .cases h
   .cases h
 case makeSlice t y z=>
  cases dst with
  | none=>cases h
  | some d=>
   simp only[wr]at h ⊢;rw[<- cI (e:=e) (x:=y) fun t ht=>ha t (by simp[Op.operands,ht]),<- cI (e:=e) (x:=z) fun t ht=>ha t (by simp[Op.operands,ht])];split at h
   .rename_i tt b4;(try simp only[b4]);split at h
    .rename_i e0 hd;(try simp only[hd]);split at h
     .rename_i te kn n km m h0 h1 h2;(try simp only[h0,h1,h2]);simp only[Option.some.injEq,Prod.mk.injEq,St.mk.injEq,true_and]at h ⊢;exact h
     .cases h
    .cases h
   .cases h
 case buildSlice t n ps=>
  cases dst with
  | none=>cases h
  | some d=>
   simp only[wr]at h ⊢;rw[<- vW (e:=e) (l:=ps.toList) fun t ht=>ha t (by simpa[Op.operands]using ht)];split at h
   .rename_i tt b4;(try simp only[b4]);split at h
    .rename_i e0 hd;(try simp only[hd]);split at h
     .rename_i te pp h0 h1;(try simp only[h0,h1]);split at h
      .rename_i els abY;(try simp only[abY]);simp only[Option.some.injEq,Prod.mk.injEq,St.mk.injEq,true_and]at h ⊢;exact h
      .cases h
     .cases h
    .cases h
   .cases h
 case call cc=>
  obtain⟨callee,args,argTypes⟩:=cc
  cases callee with
  | builtin b=>
   cases b<;>first | (exact absurd rfl hk) | (cases dst<;>cases h)
  | _=>cases dst<;>cases h
 all_goals (cases dst<;>cases h)
theorem Ex.congr {o:Oper} (hk:kindOf o.op≠9) {e e':Env} {H H':Heap} {x:AV} (ha:dB o.op e e') (h:Ex P T Mv G o e H x H'):Ex P T Mv G o e' H x H':=by
 unfold Ex at h ⊢;split at h
 .rename_i c hc;(try simp only[hc]);obtain⟨y,⟨g,xs,ht,gA⟩,h2,h3⟩:=h;refine⟨y,⟨g,xs,?_,gA⟩,h2,h3⟩;have ho:=(nK hc).1;rw[<- qJ (e:=e) fun t ht=>ha t (by rw[ho];exact ht)];exact ht
 .rename_i hc;(try simp only[hc]);split at h
  .rename_i hw;rw[if_pos hw];obtain⟨c,h1,h2⟩:=h;exact⟨c,W6 hk ha h1,h2⟩
  .rename_i hw;rw[if_neg hw];obtain⟨c,h1,h2,h3⟩:=h;exact⟨c,by rw[<- UI ha];exact h1,h2,h3⟩
theorem xt {o:Op} (h:Zr o=true):kindOf o=3\/kindOf o=8\/kindOf o=9:=by
 unfold Zr at h
 split at h<;>first | (exact .inl rfl) | (exact .inr (.inl rfl)) | (exact .inr (.inr rfl)) | cases h
theorem Ex.keeps {o:Oper} (hk:kindOf o.op<=2) {e:Env} {H H':Heap} {x:AV} (h:Ex P T Mv G o e H x H'):H'=H:=by
 unfold Ex at h;split at h
 .obtain⟨_,_,_,rfl⟩:=h;rfl
 .split at h
  .rename_i hw
   rcases xt hw with h' | h' | h'<;>omega
  .obtain⟨_,_,_,rfl⟩:=h;rfl
theorem ID {o:Op} (hk:kindOf o=0) {e:Env} (H H2:Heap):rd T G ⟨e,H⟩ o=rd T G ⟨e,H2⟩ o:=by
 cases o
 case call c=>
  obtain⟨callee,args,argTypes⟩:=c
  cases callee with
  | builtin b=>cases b<;>rfl
  | _=>rfl
 case load t y=>
  cases y with
  | global g=>
   simp only[rd,aU]
   cases G g with
   | none=>rfl
   | some x=>cases x<;>rfl
  | _=>simp[kindOf,jl]at hk
 all_goals first | rfl | (simp[kindOf]at hk)
theorem UK {o:Op} (hk:kindOf o=1) {e:Env} {H:Heap} {d:Nat} (hd:H d=none) (row:Row) {c:Prop} {x:AV} (h:rd T G ⟨e,H⟩ o=some (c,x)):rd T G ⟨e,aF H d row⟩ o=some (c,x):=by
 have key:∀ r y,H r=some y->aF H d row r=some y:=fun r y hr=>by
  unfold aF;split
  .rename_i hh;subst hh;rw[hd]at hr;cases hr
  .exact hr
 have kl:∀ t v,iL T H t v=some (c,x)->iL T (aF H d row) t v=some (c,x):=fun t v h=>by
  unfold iL at h ⊢;split at h
  .exact h
  .split at h
   .rename_i hr;simp only[key _ _ hr];exact h
   .rename_i hr;simp only[key _ _ hr];exact h
   .cases h
   .cases h
   .cases h
  .cases h
 have km:∀ t b v u,jm T H t b v u=some (c,x)->jm T (aF H d row) t b v u=some (c,x):=fun t b v u h=>by
  unfold jm at h ⊢;split at h
  .split at h
   .rename_i hr h2;simp only[key _ _ hr,h2];exact h
   .cases h
  .exact h
  .cases h
 have ki:∀ t v u,k5 T H t v u=some (c,x)->k5 T (aF H d row) t v u=some (c,x):=fun t v u h=>by
  unfold k5 at h ⊢;split at h
  .exact h
  .split at h
   .rename_i h1 hr;simp only[h1,key _ _ hr];exact h
   .rename_i h1 hr;simp only[h1,key _ _ hr];exact h
   .cases h
  .exact h
  .exact h
  .cases h
 have ks:∀ t v l u,abc T H t v l u=some (c,x)->abc T (aF H d row) t v l u=some (c,x):=fun t v l u h=>by
  unfold abc at h ⊢;dsimp only at h ⊢;split at h
  .exact h
  .exact h
  .split at h
   .rename_i h1 hr;simp only[h1,key _ _ hr];exact h
   .cases h
  .cases h
 cases o
 case load t y=>
  simp only[rd,Option.bind_eq_some_iff]at h ⊢;obtain⟨v,h1,h2⟩:=h;exact⟨v,h1,kl t v h2⟩
 case indexAddr t y z=>
  simp only[rd]at h ⊢;split at h
  .exact ki _ _ _ h
  .cases h
 case slice t y lo hi mx=>
  simp only[rd]at h ⊢;split at h
  .rename_i dG;rw[if_pos dG];split at h
   .exact ks _ _ _ _ h
   .cases h
  .cases h
 case lookup t y z b=>
  simp only[rd]at h ⊢;split at h
  .exact km _ _ _ _ h
  .cases h
 case call cc=>
  obtain⟨callee,args,argTypes⟩:=cc
  cases callee with
  | builtin b=>cases b<;>simp[kindOf]at hk
  | _=>simp[kindOf]at hk
 all_goals (simp[kindOf]at hk)
theorem qY {f g:AV->Option D} (h:∀ x y,f x=some y->g x=some y):∀ {l:List AV} {ys:List D},gQ f l=some ys->gQ g l=some ys
 | [],_,hh=>hh
 | x :: l,ys,hh=>by
  simp only[gQ]at hh ⊢
  cases hf:f x with
  | none=>simp[hf]at hh
  | some y=>
   cases hl:gQ f l with
   | none=>simp[hf,hl]at hh
   | some zs=>
    simp only[hf,hl]at hh;rw[h x y hf,qY h hl];exact hh
theorem adY {H:Heap} {d:Nat} (hd:H d=none) (row:Row):∀ (k:Nat) (x:AV) (y:D),Zn H k x=some y->Zn (aF H d row) k x=some y:=by
 have key:∀ r y,H r=some y->aF H d row r=some y:=fun r y hr=>by
  unfold aF;split
  .rename_i hh;subst hh;rw[hd]at hr;cases hr
  .exact hr
 intro k
 induction k with
 | zero=>intro x y h;cases x<;>simp only[Zn]at h ⊢<;>first | exact h | cases h
 | succ k ih=>
  intro x y h
  cases x with
  | d x=>simpa only[Zn]using h
  | own r off n=>
   simp only[Zn]at h ⊢;split at h
   .rename_i hr;rw[key _ _ hr];exact h
   .cases h
  | ref r e j=>
   simp only[Zn]at h ⊢;split at h
   .rename_i hr;rw[key _ _ hr];dsimp only;split at h
    .rename_i he;rw[if_pos he];obtain⟨ys,h1,h2⟩:=Option.map_eq_some_iff.1 h;exact Option.map_eq_some_iff.2 ⟨ys,qY ih h1,h2⟩
    .cases h
   .cases h
  | agg cells=>simp only[Zn]at h ⊢;obtain⟨ys,h1,h2⟩:=Option.map_eq_some_iff.1 h;exact Option.map_eq_some_iff.2 ⟨ys,qY ih h1,h2⟩
  | aT cells=>simp only[Zn]at h ⊢;obtain⟨ys,h1,h2⟩:=Option.map_eq_some_iff.1 h;exact Option.map_eq_some_iff.2 ⟨ys,qY ih h1,h2⟩
  | fn f cells=>simp only[Zn]at h ⊢;obtain⟨ys,h1,h2⟩:=Option.map_eq_some_iff.1 h;exact Option.map_eq_some_iff.2 ⟨ys,qY ih h1,h2⟩
  | bh t x=>simp only[Zn]at h ⊢;obtain⟨ys,h1,h2⟩:=Option.map_eq_some_iff.1 h;exact Option.map_eq_some_iff.2 ⟨ys,ih _ _ h1,h2⟩
  | mp r=>
   simp only[Zn]at h ⊢;split at h
   .rename_i hr;rw[key _ _ hr];exact h
   .cases h
  | bm g x=>simp only[Zn]at h;cases h
  | dead=>simp only[Zn]at h;cases h
theorem Ex.grow {o:Oper} (hk:kindOf o.op=1\/kindOf o.op=2) {e:Env} {H H':Heap} {x:AV} (h:Ex P T Mv G o e H x H') {d:Nat} (hd:H d=none) (row:Row):Ex P T Mv G o e (aF H d row) x (aF H d row):=by
 unfold Ex at h ⊢;split at h
 .rename_i c hc;(try simp only[hc]);obtain⟨y,⟨g,xs,ht,gA⟩,h2,_⟩:=h;refine⟨y,⟨g,xs,ht,?_⟩,h2,by trivial⟩
  rcases gA with h | ⟨ds,h3,h4,h5⟩
  .exact .inl h
  .exact .inr ⟨ds,qY (adY hd row 4) h3,h4,h5⟩
 .rename_i hc;(try simp only[hc]);split at h
  .rename_i hw
   rcases xt hw with h' | h' | h'<;>omega
  .rename_i hw;rw[if_neg hw];obtain⟨c,h1,h2,_⟩:=h
   rcases hk with hk | hk
   .exact⟨c,UK hk hd row h1,h2,by trivial⟩
   .exfalso;obtain⟨dst,op,type,pos,after,guard⟩:=o;dsimp only at hk hc;unfold kindOf at hk
    split at hk<;>first | omega | skip
    .have:=adq ‹_›;omega
    .simp[Y0]at hc
theorem Ex.free {o:Oper} (hk:kindOf o.op=0) {e:Env} {H H':Heap} {x:AV} (h:Ex P T Mv G o e H x H') (H2:Heap):Ex P T Mv G o e H2 x H2:=by
 unfold Ex at h ⊢;split at h
 .rename_i c hc;have:=(nK hc).2;omega
 .rename_i hc;(try simp only[hc]);split at h
  .rename_i hw
   rcases xt hw with h' | h' | h'<;>omega
  .rename_i hw;rw[if_neg hw];obtain⟨c,h1,h2,_⟩:=h;exact⟨c,by rw[ID hk H2 H];exact h1,h2,by trivial⟩
theorem Ex.makes {o:Oper} (hk:kindOf o.op=3) {e:Env} {H H':Heap} {x:AV} (h:Ex P T Mv G o e H x H'):∃ d row,o.dst=some d/\H d=none/\H'=aF H d row/\∀ H2,H2 d=none->Ex P T Mv G o e H2 x (aF H2 d row):=by
 obtain⟨dst,op,type,pos,after,guard⟩:=o;dsimp only at hk;unfold Ex at h;unfold Ex
 have hc:Y0 op=none:=by
  cases YY:Y0 op with
  | none=>rfl
  | some c=>have:=(nK YY).2;omega
 simp only[hc]at h ⊢
 cases op<;>simp only[kindOf]at hk<;>first | omega | skip
 case load t y=>have:=adq y;omega
 case alloc t=>
  simp only[Zr,if_true]at h ⊢;obtain⟨c,h1,h2⟩:=h
  cases dst with
  | none=>cases h1
  | some d=>
   simp only[wr]at h1 ⊢;split at h1
   .simp only[Option.some.injEq,Prod.mk.injEq,St.mk.injEq,true_and]at h1;obtain⟨rfl,rfl,rfl⟩:=h1;exact⟨d,_,rfl,h2,rfl,fun H2 h=>⟨_,rfl,h⟩⟩
   .cases h1
 case box t y=>
  simp only[Zr,if_true]at h ⊢;obtain⟨c,h1,h2⟩:=h
  cases dst with
  | none=>cases h1
  | some d=>
   simp only[wr]at h1 ⊢;split at h1
   .simp only[Option.some.injEq,Prod.mk.injEq,St.mk.injEq,true_and]at h1;obtain⟨rfl,rfl,rfl⟩:=h1;exact⟨d,_,rfl,h2,rfl,fun H2 h=>⟨_,rfl,h⟩⟩
   .cases h1
 case makeSlice t y z=>
  simp only[Zr,if_true]at h ⊢;obtain⟨c,h1,h2⟩:=h
  cases dst with
  | none=>cases h1
  | some d=>
   simp only[wr]at h1 ⊢;split at h1
   .split at h1
    .split at h1
     .simp only[Option.some.injEq,Prod.mk.injEq,St.mk.injEq,true_and]at h1;obtain⟨rfl,rfl,rfl⟩:=h1;exact⟨d,_,rfl,h2.1,rfl,fun H2 h=>⟨_,rfl,h,h2.2⟩⟩
     .cases h1
    .cases h1
   .cases h1
 case buildSlice t n ps=>
  simp only[Zr,if_true]at h ⊢;obtain⟨c,h1,h2⟩:=h
  cases dst with
  | none=>cases h1
  | some d=>
   simp only[wr]at h1 ⊢;split at h1
   .split at h1
    .split at h1
     .split at h1
      .simp only[Option.some.injEq,Prod.mk.injEq,St.mk.injEq,true_and]at h1;obtain⟨rfl,rfl,rfl⟩:=h1;exact⟨d,_,rfl,h2.1,rfl,fun H2 h=>⟨_,rfl,h,h2.2⟩⟩
      .cases h1
     .cases h1
    .cases h1
   .cases h1
 case makeMap t rs=>
  simp only[Zr,if_true]at h ⊢;obtain⟨c,h1,h2⟩:=h
  cases dst with
  | none=>cases rs<;>cases h1
  | some d=>
   cases rs with
   | some _=>cases h1
   | none=>
    simp only[wr]at h1 ⊢;simp only[Option.some.injEq,Prod.mk.injEq,St.mk.injEq,true_and]at h1;obtain⟨rfl,rfl,rfl⟩:=h1;exact⟨d,_,rfl,h2,rfl,fun H2 h=>⟨_,rfl,h⟩⟩
 case call cc=>
  obtain⟨callee,args,argTypes⟩:=cc
  cases callee with
  | builtin b=>cases b<;>simp at hk
  | _=>simp at hk
end
end Go.Av
namespace Go.Av
section
variable {P:Program} {T:Ty} {Mv X:Nat->Prop} {G:YI} {N:Fr} {ops:Array Oper}
def Sx (P:Program) (T:Ty) (Mv:Nat->Prop) (G:YI) (N:Fr) (ops:Array Oper) (o:Oper) (e:Env) (H:Heap) (x:AV) (H':Heap):Prop:=
 c8 N o/\((fc ops e o=some true/\Ex P T Mv G o e H x H')\/(fc ops e o=some false/\x=Y2/\H'=H))
theorem fF {o:Oper} {t:Tmp} (h:Operand.tmp t∈o.op.operands):t∈o.looksAt ops:=
 List.mem_append_left _ (List.mem_filterMap.2 ⟨.tmp t,by simpa using h,rfl⟩)
theorem ym {o:Oper} {e e':Env} (h:∀ t∈o.looksAt ops,e t=e' t):fc ops e o=fc ops e' o:=by
 unfold fc;split
 .rfl
 .rename_i j want hg;unfold wh;split
  .rename_i d hd;rw[h d (List.mem_append_right _ (by simp[hg,hd]))]
  .rfl
theorem eE {x y:Oper} (h:x.apart ops y=true) {e:Env} {v:AV}:(∀ t∈y.looksAt ops,au e x.dst v t=e t)/\(∀ t∈x.looksAt ops,au e y.dst v t=e t)/\(∀ d,x.dst=some d->y.dst≠some d):=by
 obtain⟨h1,h2,h3⟩:=Oper.apart_spec h;exact⟨fun t ht=>IA fun e=>h1 t e ht,fun t ht=>IA fun e=>h3 t e ht,h2⟩
theorem kinds (o:Op):kindOf o=0\/kindOf o=1\/kindOf o=2\/kindOf o=3\/kindOf o=8\/kindOf o=9:=by unfold kindOf;split<;>simp
theorem ab4 {q p:Oper} (hc:fM ops q p=true) {e:Env} {H H1 H2:Heap} {x y:AV} (hq:Sx P T Mv G N ops q e H x H1) (hp:Sx P T Mv G N ops p (au e q.dst x) H1 y H2) (Gj:kindOf q.op≠9) (Gk:kindOf p.op≠9) :
  ∃ H3,Sx P T Mv G N ops p e H y H3/\Sx P T Mv G N ops q (au e p.dst y) H3 x H2:=by
 simp only[fM,Bool.and_eq_true]at hc;obtain⟨ck,eQ⟩:=hc;obtain⟨a1,_,aG⟩:=eE ck (e:=e) (v:=x);obtain⟨_,a2,_⟩:=eE ck (e:=e) (v:=y);have wp:=ym (o:=p) (e:=au e q.dst x) (e':=e) a1;have wq:=ym (o:=q) (e:=au e p.dst y) (e':=e) a2;have DJ:dB p.op (au e q.dst x) e:=fun t ht=>a1 t (fF ht);have DK:dB q.op e (au e p.dst y):=fun t ht=>(a2 t (fF ht)).symm;obtain⟨dq,hq⟩:=hq;obtain⟨dp,hp⟩:=hp;rw[wp]at hp
 rcases hq with⟨j2,eq⟩ | ⟨j2,rfl,rfl⟩
 .rcases hp with⟨wp1,ep⟩ | ⟨wp1,rfl,rfl⟩
  .have ot:=ep.congr Gk DJ;have sL:=eq.congr Gj DK
   have fin:∀ H3,Ex P T Mv G p e H y H3->Ex P T Mv G q (au e p.dst y) H3 x H2->∃ H3,Sx P T Mv G N ops p e H y H3/\Sx P T Mv G N ops q (au e p.dst y) H3 x H2:=fun H3 h1 h2=>
    ⟨H3,⟨dp,.inl ⟨wp1,h1⟩⟩,⟨dq,.inl ⟨by rw[wq];exact j2,h2⟩⟩⟩
   by_cases kp0:kindOf p.op=0
   .obtain rfl:=ot.keeps (by omega);exact fin H (ot.free kp0 H) sL
   .by_cases SC:kindOf q.op=0
    .obtain rfl:=eq.keeps (by omega);exact fin H2 ot (sL.free SC H2)
    .by_cases kk:kindOf q.op<=2/\kindOf p.op<=2
     .obtain rfl:=eq.keeps kk.1;obtain rfl:=ot.keeps kk.2;exact fin _ ot sL
     .by_cases k3:kindOf q.op=3/\kindOf p.op=3
      .obtain⟨d,row,hd,hn,rfl,bw⟩:=sL.makes k3.1;obtain⟨d',ZJ,dv,iI,rfl,Ah⟩:=ot.makes k3.2;have b5:d≠d':=fun e=>aG d hd (by rw[dv,e])
       have ZZ:H d'=none:=by simpa[aF,Ne.symm b5]using iI
       have:aF (aF H d row) d' ZJ=aF (aF H d' ZJ) d row:=by
        funext i;by_cases h1:i=d<;>by_cases h2:i=d'<;>simp[aF,h1,h2,b5,Ne.symm b5]
       exact fin _ (Ah H ZZ) (by rw[this];exact bw _ (by simpa[aF,b5]using hn))
      .by_cases xu:(kindOf q.op=1\/kindOf q.op=2)/\kindOf p.op=3
       .obtain rfl:=eq.keeps (by omega);obtain⟨d,row,hd,hn,rfl,bw⟩:=ot.makes xu.2;exact fin _ ot (sL.grow xu.1 hn row)
       exfalso
       revert eQ
       have c1:kindOf q.op=1\/kindOf q.op=2\/kindOf q.op=3\/kindOf q.op=8:=by have:=kinds q.op;omega
       have c2:kindOf p.op=1\/kindOf p.op=2\/kindOf p.op=3\/kindOf p.op=8:=by have:=kinds p.op;omega
       rcases c1 with c1 | c1 | c1 | c1<;>rcases c2 with c2 | c2 | c2 | c2<;>rw[c1,c2]<;>first | (simp[nO];done) | (exfalso;apply kk;omega) | (exfalso;exact k3 ⟨c1,c2⟩) | (exfalso;exact xu ⟨.inl c1,c2⟩) | (exfalso;exact xu ⟨.inr c1,c2⟩)
  .exact⟨H,⟨dp,.inr ⟨wp1,rfl,rfl⟩⟩,⟨dq,.inl ⟨by rw[wq];exact j2,eq.congr Gj DK⟩⟩⟩
 .rcases hp with⟨wp1,ep⟩ | ⟨wp1,rfl,rfl⟩
  .exact⟨H2,⟨dp,.inl ⟨wp1,ep.congr Gk DJ⟩⟩,⟨dq,.inr ⟨by rw[wq];exact j2,rfl,rfl⟩⟩⟩
  .exact⟨_,⟨dp,.inr ⟨wp1,rfl,rfl⟩⟩,⟨dq,.inr ⟨by rw[wq];exact j2,rfl,rfl⟩⟩⟩
def run (P:Program) (T:Ty) (Mv:Nat->Prop) (G:YI) (N:Fr) (ops:Array Oper):List Nat->St->St->Prop
 | [],σ,ag=>σ=ag
 | i :: l,σ,ag=>∃ o,ops[i]? = some o/\∃ YK,qE P T Mv G N ops o σ YK/\run P T Mv G N ops l YK ag
theorem nR {o:Oper} (hk:kindOf o.op≠9) {σ ag:St}:qE P T Mv G N ops o σ ag↔∃ x H',Sx P T Mv G N ops o σ.env σ.H x H'/\ag=⟨au σ.env o.dst x,H'⟩:=by
 constructor
 .rintro⟨hd,⟨hw,h⟩ | ⟨hw,rfl⟩⟩
  .obtain⟨x,H',h1,h2⟩:=Ex.of hk h;exact⟨x,H',⟨hd,.inl ⟨hw,h1⟩⟩,h2⟩
  .exact⟨Y2,σ.H,⟨hd,.inr ⟨hw,rfl,rfl⟩⟩,rfl⟩
 .rintro⟨x,H',⟨hd,⟨hw,h⟩ | ⟨hw,rfl,rfl⟩⟩,rfl⟩
  .exact⟨hd,.inl ⟨hw,h.to⟩⟩
  .exact⟨hd,.inr ⟨hw,rfl⟩⟩
theorem Vw {i j:Nat} {l:List Nat} {σ ag:St} {oi oj:Oper} (hi:ops[i]? = some oi) (hj:ops[j]? = some oj) (hc:fM ops oi oj=true) (h:run P T Mv G N ops (i :: j :: l) σ ag):run P T Mv G N ops (j :: i :: l) σ ag:=by
 obtain⟨o1,h1,YK,s1,o2,h2,dh,s2,rest⟩:=h;rw[hi]at h1;rw[hj]at h2;obtain rfl:=Option.some.inj h1;obtain rfl:=Option.some.inj h2
 have hk:kindOf oi.op≠9:=by
  intro e;simp only[fM,Bool.and_eq_true,e]at hc;have:=hc.2
  revert this
  have b2:kindOf oj.op=0\/kindOf oj.op=1\/kindOf oj.op=2\/kindOf oj.op=3\/kindOf oj.op=8\/kindOf oj.op=9:=by unfold kindOf;split<;>simp
  rcases b2 with b | b | b | b | b | b<;>rw[b]<;>simp[nO]
 have ft:kindOf oj.op≠9:=by
  intro e;simp only[fM,Bool.and_eq_true,e]at hc;have:=hc.2
  revert this
  have b2:kindOf oi.op=0\/kindOf oi.op=1\/kindOf oi.op=2\/kindOf oi.op=3\/kindOf oi.op=8\/kindOf oi.op=9:=by unfold kindOf;split<;>simp
  rcases b2 with b | b | b | b | b | b<;>rw[b]<;>simp[nO]
 obtain⟨x,H1,e1,rfl⟩:=(nR hk).1 s1;obtain⟨y,H2,e2,rfl⟩:=(nR ft).1 s2;obtain⟨H3,f1,f2⟩:=ab4 hc e1 e2 hk ft;refine⟨oj,hj,_,(nR ft).2 ⟨y,H3,f1,rfl⟩,oi,hi,_,(nR hk).2 ⟨x,H2,f2,rfl⟩,?_⟩
 have OH:au (au σ.env oi.dst x) oj.dst y=au (au σ.env oj.dst y) oi.dst x:=by
  simp only[fM,Bool.and_eq_true]at hc;exact dR (eE hc.1 (e:=σ.env) (v:=x)).2.2
 dsimp only at rest ⊢;rw[OH]at rest;exact rest
theorem Vu {p:Nat} {op:Oper} (hp:ops[p]? = some op):∀ (l1:List Nat) {l2:List Nat} {σ ag:St},(∀ q∈l1,∀ oq,ops[q]? = some oq->fM ops oq op=true)->run P T Mv G N ops (l1 ++ p :: l2) σ ag->run P T Mv G N ops (p :: (l1 ++ l2)) σ ag:=by
 intro l1
 induction l1 with
 | nil=>intro l2 σ ag _ h;exact h
 | cons q l1 ih=>
  intro l2 σ ag bw h;obtain⟨oq,hq,YK,s1,rest⟩:=h;have:=ih (fun q' fT=>bw q' (by simp[fT])) rest;have h2:run P T Mv G N ops (q :: p :: (l1 ++ l2)) σ ag:=⟨oq,hq,YK,s1,this⟩;exact Vw hq hp (bw q (by simp) oq hq) h2
theorem Dc:∀ (l:List Oper) (acc:List Nat) (k:Nat),k < acc.length->(abn l acc).getD k 0=acc.getD k 0
 | [],_,_,_=>rfl
 | o :: l,acc,k,hk=>by
  rw[abn,Dc l _ k (by simp;omega)];simp[List.getD_eq_getElem?_getD,List.getElem?_append_left hk]
theorem Ly {acc:List Nat} {o:Oper} {q:Nat} (h:(bitsOf acc o).testBit q=true):∃ e∈o.after,Region.binds .any e=true/\(q=e.on\/(acc.getD e.on 0).testBit q=true):=by
 unfold bitsOf at h
 have key:∀ (l:List Edge),(l.foldr (fun e s=>if Region.binds .any e then (2 ^ e.on ||| acc.getD e.on 0) ||| s else s) 0).testBit q=true->∃ e∈l,Region.binds .any e=true/\(q=e.on\/(acc.getD e.on 0).testBit q=true):=by
  intro l
  induction l with
  | nil=>intro h;simp at h
  | cons e l ih=>
   intro h;rw[List.foldr_cons]at h;split at h
   .rename_i hb;rw[Nat.testBit_or,Nat.testBit_or,Bool.or_eq_true,Bool.or_eq_true]at h
    rcases h with (h | h) | h
    .rw[Nat.testBit_two_pow]at h
     have h':e.on=q:=by simpa using h
     exact⟨e,by simp,hb,.inl h'.symm⟩
    .exact⟨e,by simp,hb,.inr h⟩
    .obtain⟨e',he',r⟩:=ih h;exact⟨e',by simp[he'],r⟩
   .obtain⟨e',he',r⟩:=ih h;exact⟨e',by simp[he'],r⟩
 obtain⟨e,he,r⟩:=key _ h;exact⟨e,by simpa using he,r⟩
theorem va:∀ (l:List Oper) (acc:List Nat) (j:Nat) (o:Oper) (q:Nat),l[j]? = some o->((abn l acc).getD (acc.length+j) 0).testBit q=true->∃ e∈o.after,Region.binds .any e=true/\(q=e.on\/(e.on < acc.length+j/\((abn l acc).getD e.on 0).testBit q=true))
 | [],_,_,_,_,h,_=>by simp at h
 | o' :: l,acc,0,o,q,h,hb=>by
  simp at h;subst h;rw[abn,Dc l _ _ (by simp)]at hb;simp[List.getD_eq_getElem?_getD]at hb;obtain⟨e,he,hbd,r⟩:=Ly hb;refine⟨e,he,hbd,r.imp id fun r=>?_⟩
  have YJ:e.on < acc.length:=by
   rcases Nat.lt_or_ge e.on acc.length with h | h
   .exact h
   .simp[List.getD_eq_getElem?_getD,List.getElem?_eq_none h]at r
  refine⟨by omega,?_⟩;rw[abn,Dc l _ _ (by simp;omega)];simpa[List.getD_eq_getElem?_getD,List.getElem?_append_left YJ]using r
 | o' :: l,acc,j+1,o,q,h,hb=>by
  have:=va l (acc ++ [bitsOf acc o']) j o q (by simpa using h) (by rw[abn]at hb;simpa[Nat.add_assoc,Nat.add_comm 1 j]using hb);obtain⟨e,he,hbd,r⟩:=this;refine⟨e,he,hbd,r.imp id fun r=>?_⟩;rw[abn];exact⟨by have:=r.1;simp at this;omega,r.2⟩
theorem xV (h:lY ops=true) {j:Nat} {oj:Oper} (hj:ops[j]? = some oj):(∀ e∈oj.after,Region.binds .any e=true->e.on < j)/\
  ∀ i oi,i < j->ops[i]? = some oi->((tb ops).getD j 0).testBit i=true\/(fM ops oi oj=true/\fM ops oj oi=true):=by
 unfold lY at h;have h1:=List.all_eq_true.1 h j (List.mem_range.2 (Array.getElem?_eq_some_iff.1 hj).1);simp only[hj,Bool.and_eq_true]at h1;refine⟨fun e he hb=>?_,fun i oi hi bD=>?_⟩
 .have:=Array.all_eq_true_iff_forall_mem.1 h1.1 e he;simpa[hb]using this
 .have:=List.all_eq_true.1 h1.2 i (List.mem_range.2 hi);simpa[bD]using this
theorem Lt (bp:lY ops=true) {listed:Array Bool} (gB:∀ j oj,ops[j]? = some oj->listed.getD j false=true->∀ e∈oj.after,Region.binds .any e=true->listed.getD e.on false=true) :
  ∀ (n j:Nat) (oj:Oper),j<=n->ops[j]? = some oj->(∀ e∈oj.after,Region.binds .any e=true->listed.getD e.on false=true)->∀ q,((tb ops).getD j 0).testBit q=true->listed.getD q false=true:=by
 intro n
 induction n with
 | zero=>
  intro j oj hj bf bw q hq
  have iG:j=0:=by omega
  subst iG;obtain⟨e,he,hb,_⟩:=va ops.toList [] 0 oj q (by simpa using bf) (by simpa[tb]using hq);have:=(xV bp bf).1 e he hb;omega
 | succ n ih=>
  intro j oj hj bf bw q hq;obtain⟨e,he,hb,r⟩:=va ops.toList [] j oj q (by simpa using bf) (by simpa[tb]using hq)
  rcases r with rfl | ⟨_,r⟩
  .exact bw e he hb
  .have YJ:=(xV bp bf).1 e he hb
   have bZ:e.on < ops.size:=by have:=(Array.getElem?_eq_some_iff.1 bf).1;omega
   exact ih e.on ops[e.on] (by omega) (by simp[bZ]) (fun e' he' aH=>gB e.on _ (by simp[bZ]) (bw e he hb) e' he' aH) q (by simpa[tb]using r)
theorem KU (hg:Good P T) (bp:lY ops=true) {Q:Exit->St->Prop} {w0:World} {eV:Mu} {aY:St} (hQ:Q .normal aY):∀ (n:Nat) (R:List Nat) (listed:Array Bool) (w:World) (μ:Mu) (a:Act) (σ:St),R.length=n->R.Nodup->
  (∀ j,j∈R↔j < ops.size/\listed.getD j true=false)->listed.size=ops.size->(R.Pairwise (· < ·))->
  (∀ j oj,ops[j]? = some oj->listed.getD j false=true->∀ e∈oj.after,Region.binds .any e=true->listed.getD e.on false=true)->run P T Mv G N ops R σ aY->In w X G μ N a σ->Ev Mv w0 eV w μ->
  wpAnyIn (wd N.ro) 0 P .any ops (After Mv X G N w0 eV Q) n listed a w:=by
 intro n
 induction n with
 | zero=>
  intro R listed w μ a σ hl _ hR aK _ _ bt hi aD;have:R=[]:=List.eq_nil_of_length_eq_zero hl;subst this
  have hr:Region.ready .any ops listed=[]:=by
   apply List.eq_nil_iff_forall_not_mem.2;intro j hj;obtain⟨h1,o,ho,_⟩:=mem_ready.1 hj;exact absurd ((hR j).2 ⟨(Array.getElem?_eq_some_iff.1 ho).1,h1⟩) (by simp)
  have:σ=aY:=bt;subst this;exact⟨hr,μ,σ,hQ,hi,aD⟩
 | succ n ih=>
  intro R listed w μ a σ hl ZT hR aK eK gB bt hi aD;refine⟨fun hr=>?_,fun i lM=>?_⟩
  .-- the first of the rest may come up
   cases R with
   | nil=>simp at hl
   | cons j R=>
    obtain⟨gC,ZY⟩:=(hR j).1 (by simp)
    have hjr:j∈Region.ready .any ops listed:=by
     refine mem_ready.2 ⟨ZY,ops[j],by simp[gC],fun e he hb=>?_⟩;have YJ:=(xV bp (j:=j) (oj:=ops[j]) (by simp[gC])).1 e he hb
     have aG:e.on ∉ (j :: R):=by
      intro hm
      rcases List.mem_cons.1 hm with h | h
      .omega
      .have:=(List.pairwise_cons.1 eK).1 _ h;omega
     have:=mt (hR e.on).2 aG
     have bZ:e.on < ops.size:=by omega
     have fv:e.on < listed.size:=by omega
     simp only[bZ,true_and,Array.getD_eq_getD_getElem?]at this ⊢;simp[fv]at this ⊢;exact this
    rw[hr]at hjr;cases hjr
  .obtain⟨bO,oi,bD,bw⟩:=mem_ready.1 lM;have lK:i∈R:=(hR i).2 ⟨(Array.getElem?_eq_some_iff.1 bD).1,bO⟩;obtain⟨R1,R2,rfl⟩:=List.append_of_mem lK
   have lJ:=Vu (P:=P) (T:=T) (Mv:=Mv) (G:=G) (N:=N) bD R1 (fun q hq oq ia=>by
    have P0:q < i:=by
     have:=(List.pairwise_append.1 eK).2.2 q hq i (by simp);exact this
    rcases (xV bp bD).2 q oq P0 ia with h | h
    .exfalso;have hlq:=Lt bp gB i i oi (Nat.le_refl _) bD bw q h;have e6:=((hR q).1 (by simp[hq])).2
     have lS:q < listed.size:=by have:=(Array.getElem?_eq_some_iff.1 ia).1;omega
     simp[Array.getD_eq_getD_getElem?,lS]at hlq e6;rw[hlq]at e6;cases e6
    .exact h.1) bt
   obtain⟨o',Zq,YK,hstep,YV⟩:=lJ;rw[bD]at Zq;obtain rfl:=Option.some.inj Zq;refine qF hg hstep hi bD fun w' ak a' ax aaI=>?_
   have lP:(R1 ++ R2).Nodup:=by
    have:=ZT;rw[List.nodup_append]at this ⊢;obtain⟨g1,g2,g3⟩:=this;exact⟨g1,(List.nodup_cons.1 g2).2,fun x hx y hy=>g3 x hx y (by simp[hy])⟩
   have lL:i ∉ R1 ++ R2:=by
    have:=ZT;rw[List.nodup_append]at this;obtain⟨g1,g2,g3⟩:=this;intro hm
    rcases List.mem_append.1 hm with h | h
    .exact g3 i h i (by simp) rfl
    .exact (List.nodup_cons.1 g2).1 h
   refine ih (R1 ++ R2) _ w' ak a' YK (by simp at hl ⊢;omega) lP (fun j=>?_) (by simpa using aK) ?_ ?_ YV ax (aD.trans aaI)
   .by_cases cL:j=i
    .subst cL
     have fv:j < listed.size:=by rw[aK];exact (Array.getElem?_eq_some_iff.1 bD).1
     simp[fv];simpa using lL
    .rw[getD_set_ne true (Ne.symm cL)];rw[<- hR j];simp[cL]
   .rw[List.pairwise_append]at eK ⊢;obtain⟨g1,g2,g3⟩:=eK;exact⟨g1,(List.pairwise_cons.1 g2).2,fun x hx y hy=>g3 x hx y (by simp[hy])⟩
   .intro j oj bf cX e he hb;by_cases cL:j=i
    .subst cL;rw[bD]at bf;obtain rfl:=Option.some.inj bf;exact getD_set_true (bw e he hb)
    .rw[getD_set_ne false (Ne.symm cL)]at cX;exact getD_set_true (gB j oj bf cX e he hb)
def ph (P:Program) (T:Ty) (Mv:Nat->Prop) (G:YI) (N:Fr) (ops:Array Oper) (K:St->Prop):List Oper->St->Prop
 | [],σ=>K σ
 | o :: rest,σ=>c8 N o/\match fc ops σ.env o with
  | some b=>if b=true then (match Y0 o.op with
    | some c=>∃ y,sB P G σ c y/\ph P T Mv G N ops K rest ⟨au σ.env o.dst (.d y),σ.H⟩
    | none=>kz T G Mv o σ (ph P T Mv G N ops K rest)) else ph P T Mv G N ops K rest ⟨au σ.env o.dst Y2,σ.H⟩
  | none=>False
theorem Wd {K:St->Prop}:∀ (l:List Oper) (k:Nat) (σ:St),(∀ j,l[j]? = ops[k+j]?)->ph P T Mv G N ops K l σ->∃ aY,K aY/\run P T Mv G N ops (List.range' k l.length) σ aY:=by
 intro l
 induction l with
 | nil=>intro k σ _ h;exact⟨σ,h,rfl⟩
 | cons o l ih=>
  intro k σ hl h
  have h0:ops[k]? = some o:=by simpa using (hl 0).symm
  have fk:∀ j,l[j]? = ops[k+1+j]?:=fun j=>by have:=hl (j+1);simpa[Nat.add_assoc,Nat.add_comm 1 j]using this
  obtain⟨hd,h⟩:=h;rw[List.length_cons,List.range'_succ]
  have fin:∀ YK,qE P T Mv G N ops o σ YK->ph P T Mv G N ops K l YK->∃ aY,K aY/\run P T Mv G N ops (k :: List.range' (k+1) l.length) σ aY:=by
   intro YK hs hq;obtain⟨aY,hk,hr⟩:=ih (k+1) YK fk hq;exact⟨aY,hk,o,h0,YK,hs,hr⟩
  split at h
  .rename_i b hb;split at h
   .rename_i np;subst np;split at h
    .rename_i c hc;obtain⟨y,hy,h⟩:=h;refine fin _ ⟨hd,.inl ⟨hb,?_⟩⟩ h;unfold iD;simp only[hc];exact⟨y,hy,rfl⟩
    .rename_i hc;unfold kz at h;split at h
     .rename_i hw;split at h
      .rename_i c x YK h1;refine fin _ ⟨hd,.inl ⟨hb,?_⟩⟩ h.2;unfold iD;simp only[hc];rw[if_pos hw];exact⟨c,x,YK,h1,h.1,rfl⟩
      .exact h.elim
     .rename_i hw;split at h
      .rename_i c x h1;refine fin _ ⟨hd,.inl ⟨hb,?_⟩⟩ h.2;unfold iD;simp only[hc];rw[if_neg hw];exact⟨c,x,h1,h.1,rfl⟩
      .exact h.elim
   .rename_i hbf
    have:b=false:=by simpa using hbf
    subst this;exact fin _ ⟨hd,.inr ⟨hb,rfl⟩⟩ h
  .exact h.elim
theorem Kr (hg:Good P T) (hm:P.follows .mixedOrders=true) {id:Nat} (bp:lY ops=true) {Q:Exit->St->Prop} {σ:St} (h:ph P T Mv G N ops (fun ag=>Q .normal ag) ops.toList σ):AW P Mv X G N (.region id ops true) Q σ:=fun w μ a hi=>by
 obtain⟨aY,hQ,bt⟩:=Wd ops.toList 0 σ (by simp) h;refine wpIn_region_any hm ?_;obtain⟨ax,aD⟩:=hi.iW (Mv:=Mv) (bT.drew w);refine KU hg bp hQ ops.size (List.range' 0 ops.toList.length) _ w.drew μ a σ (by simp) (by simpa using List.nodup_range') (fun j=>?_) (by simp) (by simpa using List.pairwise_lt_range') ?_ bt ax aD
 .simp[List.mem_range'_1];intro h;simp[Array.getD_eq_getD_getElem?,h]
 .intro j oj bf cX;have hj:=(Array.getElem?_eq_some_iff.1 bf).1;simp[Array.getD_eq_getD_getElem?,hj]at cX
end
def dy (P:Program) (t:TypeId):Bool:=!P.stoodInHeld t && !P.eqGuardType P.depth t
def bX (P:Program):Ty:=fun t=>match P.underlying t,P.info? t with
 | some d,some i=>i.zero.map fun z=>⟨d,i.size,i.bytes,z,dy P t⟩
 | _,_=>none
theorem aw (P:Program):Good P (bX P):=by
 intro t ti h;unfold bX at h;split at h
 .rename_i d i hd hi;obtain⟨z,hz,rfl⟩:=Option.map_eq_some_iff.1 h;exact⟨hd,i,hi,rfl,rfl,hz,fun h=>by unfold dy at h;simpa using h⟩
 .cases h
end Go.Av
namespace Go.Av
def qo:List Nat->Env->List (Nat×AV)
 | [],_=>[]
 | i :: l,e=>match e i with
  | some x=>(i,x) :: qo l e
  | none=>qo l e
section
variable {P:Program} {T:Ty} {Mv X:Nat->Prop} {G:YI} {N:Fr} {σ:St}
theorem aC.env {e e':Env} {H:Heap} (h:∀ i x,e' i=some x->e i=some x):aC Mv X G N ⟨e,H⟩ ⟨e',H⟩:=fun w μ _ hi=>
 ⟨μ,⟨hi.aL,⟨hi.env.defers,hi.env.size,fun i x hx=>hi.env.slot i x (h i x hx)⟩,hi.eY⟩,.refl _ w μ⟩
theorem B5 {e:Env}:∀ {l:List Nat} {i:Nat} {x:AV},aZ (qo l e) i=some x->e i=some x
 | [],_,_,h=>by simp[aZ,qo]at h
 | j :: l,i,x,h=>by
  simp only[qo]at h;split at h
  .rename_i y hy;simp only[aZ,List.lookup]at h;split at h
   .rename_i hij
    have:i=j:=by simpa using hij
    subst this;obtain rfl:=Option.some.inj h;exact hy
   .exact B5 (l:=l) h
  .exact B5 (l:=l) h
theorem ae {x y:Code} {Q:Exit->St->Prop} (h:∀ K:St->Prop,(∀ ag,AW P Mv X G N y Q ag->K ag)->AW P Mv X G N x (YO K Q) σ):AW P Mv X G N (.seq x y) Q σ:=pq (h _ fun _ h=>h)
theorem xG:∀ {l:List (Nat×AV)} {i:Nat} {x:AV},aZ l i=some x->(i,x)∈l
 | [],_,_,h=>by simp[aZ]at h
 | (j,y) :: l,i,x,h=>by
  simp only[aZ,List.lookup]at h;split at h
  .rename_i hij
   have:i=j:=by simpa using hij
   subst this;obtain rfl:=Option.some.inj h;simp
  .exact List.mem_cons_of_mem _ (xG (l:=l) h)
theorem aC.aZ {e:Env} {H:Heap} {l:List (Nat×AV)} (h:∀ p∈l,e p.1=some p.2):aC Mv X G N ⟨e,H⟩ ⟨aZ l,H⟩:=aC.env fun i x hx=>h (i,x) (xG hx)
def bn (Mv X:Nat->Prop) (G:YI) (N:Fr) {S:Type} (I:S->Prop) (inv:S->St) (jP:S->Nat) (s:S) (σ:St):Prop:=∃ s',I s'/\jP s' < jP s/\aC Mv X G N σ (inv s')
theorem bn.mk {S:Type} {I:S->Prop} {inv:S->St} {jP:S->Nat} {s:S} (s':S) (hI:I s') (hm:jP s' < jP s) (h:aC Mv X G N σ (inv s')):bn Mv X G N I inv jP s σ:=⟨s',hI,hm,h⟩
theorem Zb {S:Type} {id:Nat} {c:Code} {Q:Exit->St->Prop} (I:S->Prop) (inv:S->St) (jP:S->Nat) (s0:S) (h0:aC Mv X G N σ (inv s0)) (hI:I s0)
  (round:∀ s,I s->AW P Mv X G N c (YO (bn Mv X G N I inv jP s) (bd id Q)) (inv s)):AW P Mv X G N (.block id (.loop c)) Q σ:=
 YR (Ke (S:={s // I s}) (fun s=>inv s.1) (fun s=>jP s.1) ⟨s0,hI⟩ h0 fun s=>(round s.1 s.2).mono fun e τ q=>by
  cases e with
  | normal=>obtain⟨s',h1,h2,h3⟩:=q;exact⟨⟨s',h1⟩,h2,h3⟩
  | _=>exact q)
theorem eM {c:Operand} {x y:Code} {Q:Exit->St->Prop} {b:Prop} [Decidable b] (hc:aU G σ.env c=some (.d (.v (.bool (decide b))))) (ht:b->AW P Mv X G N x Q σ) (hf:¬ b->AW P Mv X G N y Q σ):AW P Mv X G N (.cond c x y) Q σ:=
 kI (decide b) hc (fun h=>ht (of_decide_eq_true h)) (fun h=>hf (of_decide_eq_false h))
end
end Go.Av
namespace Go.Av
def uC (l:List AV):AV:=match Z9 l with
 | some ds=>.d (.aT ds)
 | none=>.aT l
def AV.tr (o f:Nat->Nat->Nat->AV):AV->AV
 | .d x=>.d x
 | .own q off n=>o q off n
 | .ref q e j=>f q e j
 | .agg cells=>ky (go o f cells)
 | .aT vs=>uC (go o f vs)
 | .bh t x=>uB t (x.tr o f)
 | .fn g caps=>acH g (go o f caps)
 | .bm g x=>.bm g (x.tr o f)
 | .mp q=>match f q 0 0 with
  | .ref q' _ _=>.mp q'
  | _=>.dead
 | .dead=>.dead
where
 go (o f:Nat->Nat->Nat->AV):List AV->List AV
 | []=>[]
 | x :: l=>x.tr o f :: go o f l
theorem AV.se (o f:Nat->Nat->Nat->AV) (l:List AV):AV.tr.go o f l=l.map (AV.tr o f):=by
 induction l with
 | nil=>rfl
 | cons x l ih=>simp[AV.tr.go,ih]
def Row.tr (o f:Nat->Nat->Nat->AV):Row->Row
 | .sl ty sz els=>.sl ty sz els
 | .box ty cells=>.box ty (cells.map (AV.tr o f))
 | .mp ty ents=>.mp ty ents
 | .it ents seen=>.it ents seen
def gN (o f:Nat->Nat->Nat->AV) (e:Env):Env:=fun i=>(e i).map (AV.tr o f)
def Zg (keep:Nat->Bool) (o f:Nat->Nat->Nat->AV) (H:Heap):Heap:=fun r=>if keep r then (H r).map (Row.tr o f) else none
def br (keep:Nat->Bool) (μ:Mu):Mu:=fun r=>if keep r then μ r else none
section
variable {P:Program} {T:Ty} {Mv X:Nat->Prop} {G:YI} {N:Fr} {w:World} {μ:Mu} {a:Act} {σ:St}
theorem xJ {u:Value} {l:List AV} (h:RV w X μ u (.aT l)):RV w X μ u (uC l):=by
 unfold uC;split
 .rename_i ds hd;rw[j9 hd]at h;obtain⟨arr,rfl,hn,hr⟩:=h.sf;refine .d (.aT (by simpa using hn) fun j u c hu hc=>?_);exact (hr j u (.d c) hu (by rw[List.getElem?_map,hc];rfl)).data
 .exact h
theorem fG {keep:Nat->Bool} {r:Nat} {m:fg} (h:br keep μ r=some m):keep r=true/\μ r=some m:=by
 unfold br at h;split at h
 .rename_i hk;exact⟨hk,h⟩
 .cases h
theorem sr {keep:Nat->Bool} {b:Nat} (h:XX X (br keep μ) b):XX X μ b:=h.elim .inl fun ⟨r,m,hr,hb⟩=>.inr ⟨r,m,(fG hr).2,hb⟩
theorem RV.tr {ak:Mu} {o f:Nat->Nat->Nat->AV} (hX:∀ b,XX X ak b->XX X μ b) (ho:∀ u r off n,RV w X μ u (.own r off n)->RV w X ak u (o r off n)) (hf:∀ u r e j,RV w X μ u (.ref r e j)->RV w X ak u (f r e j)) :
  ∀ {v:Value} {x:AV},RV w X μ v x->RV w X ak v (x.tr o f):=by
 intro v x hr
 induction hr with
 | d h'=>exact .d (h'.mono (Nat.le_refl _) fun b _ hb=>⟨rfl,fun e=>hb (hX b e)⟩)
 | own hm h'=>exact ho _ _ _ _ (.own hm h')
 | ref hm hb=>exact hf _ _ _ _ (.ref hm hb)
 | agg hn _ ih=>
  rw[AV.tr,AV.se];refine uz (.agg (by simpa using hn) fun j u c hu hc=>?_);rw[List.getElem?_map]at hc;obtain⟨c',cg,rfl⟩:=Option.map_eq_some_iff.1 hc;exact ih j u c' hu cg
 | aT hn _ ih=>
  rw[AV.tr,AV.se];refine xJ (.aT (by simpa using hn) fun j u c hu hc=>?_);rw[List.getElem?_map]at hc;obtain⟨c',cg,rfl⟩:=Option.map_eq_some_iff.1 hc;exact ih j u c' hu cg
 | bh _ ih=>exact Cb ih
 | bm _ ih=>exact .bm ih
 | fn hn _ ih=>
  rw[AV.tr,AV.se];refine Ca (by simpa using hn) fun j u c hu hc=>?_;rw[List.getElem?_map]at hc;obtain⟨c',cg,rfl⟩:=Option.map_eq_some_iff.1 hc;exact ih j u c' hu cg
 | mp hm hb=>
  rename_i r b m;have h0:=hf _ _ _ _ (RV.ref (e:=0) (j:=0) hm hb);unfold AV.tr;split
  .rename_i q' e' j' hq;rw[hq]at h0;obtain⟨m',b',bx,aH,e⟩:=h0.gL;simp only[Value.pointer.injEq,Option.some.injEq,Addr.mk.injEq]at e;obtain⟨rfl,_⟩:=e;exact .mp bx aH
  .exact .dead _
 | dead u=>exact .dead u
theorem q7 {keep:Nat->Bool} (hk:∀ r m,μ r=some m->keep r=false->Mv r):Ev Mv w μ w (br keep μ):=by
 refine⟨Nat.le_refl _,rfl,rfl,rfl,fun b hb hr=>⟨rfl,?_⟩,fun q mq hq hn=>?_⟩
 .rintro⟨q,mq,hq,gz⟩;exact hr ⟨q,mq,(fG hq).2,gz⟩
 .unfold br
  cases h:keep q with
  | true=>simpa using hq
  | false=>exact absurd (hk q mq hq h) hn
theorem In.tr {keep:Nat->Bool} {o f:Nat->Nat->Nat->AV} (hi:In w X G μ N a σ) (ho:∀ u r off n,RV w X μ u (.own r off n)->RV w X (br keep μ) u (o r off n)) (hf:∀ u r e j,RV w X μ u (.ref r e j)->RV w X (br keep μ) u (f r e j)) :
  In w X G (br keep μ) N a ⟨gN o f σ.env,Zg keep o f σ.H⟩:=by
 have hX:∀ b,XX X (br keep μ) b->XX X μ b:=fun b=>sr;have ng:∀ {u:Value} {x:D},RD w (XX X μ) u x->RD w (XX X (br keep μ)) u x:=fun h=>h.mono (Nat.le_refl _) fun b _ hb=>⟨rfl,fun e=>hb (hX b e)⟩;have s9:∀ {u:Value} {x:AV},RV w X μ u x->RV w X (br keep μ) u (x.tr o f):=fun h=>RV.tr hX ho hf h
 refine⟨⟨fun r row hr=>?_,fun r m hr=>?_,fun q q' m1 m2 b h1 h2 Zp c6=>hi.aL.inj q q' m1 m2 b (fG h1).2 (fG h2).2 Zp c6,fun q mq b hq hb=>hi.aL.frame q mq b (fG hq).2 hb,hi.aL.fits⟩,
  ⟨hi.env.defers,hi.env.size,fun i x hx=>?_⟩,fun g x hx=>ng (hi.eY g x hx)⟩
 .replace hr:Zg keep o f σ.H r=some row:=hr;unfold Zg at hr;split at hr
  .rename_i hk;obtain⟨jo,h0,rfl⟩:=Option.map_eq_some_iff.1 hr;obtain⟨m,hm,ok⟩:=hi.aL.rows r jo h0;refine⟨m,by simp[br,hk,hm],?_⟩
   cases ok with
   | nil h1 h2=>exact .nil h1 h2
   | sl h1 h2 h3 h4 h5 h6 h7 h8 h9=>exact .sl h1 h2 h3 h4 h5 h6 h7 h8 fun i j el c he hc=>let ⟨u,hu,hr⟩:=h9 i j el c he hc;⟨u,hu,ng hr⟩
   | box h1 h2 h3 h4 h5 h6 h7=>
    refine .box h1 rfl h3 h4 (by simpa using h5) (fun j u c hu hc=>?_) (by simpa using h7);rw[List.getElem?_map]at hc;obtain⟨c',cg,rfl⟩:=Option.map_eq_some_iff.1 hc;exact s9 (h6 j u c' hu cg)
   | mp h1 h2 h3 h4=>exact .mp h1 h2 h3 fun i e p he hp=>let ⟨a,b,c⟩:=h4 i e p he hp;⟨a,b,ng c⟩
   | it h1 h2 h3=>exact .it h1 h2 (ng h3)
  .cases hr
 .obtain⟨hk,hm⟩:=fG hr;obtain⟨row,Y5⟩:=hi.aL.gw r m hm;exact⟨row.tr o f,by simp[Zg,hk,Y5]⟩
 .replace hx:gN o f σ.env i=some x:=hx;unfold gN at hx;obtain⟨x0,h0,rfl⟩:=Option.map_eq_some_iff.1 hx;obtain⟨u,hu,hr⟩:=hi.env.slot i x0 h0;exact⟨u,hu,s9 hr⟩
theorem RV.uL {keep:Nat->Bool} {u:Value} {r off n:Nat} (hk:keep r=true) (h:RV w X μ u (.own r off n)):RV w X (br keep μ) u (.own r off n):=by
 obtain⟨m,hm,hh⟩:=h.Z3;exact .own (by simp[br,hk,hm]) hh
theorem RV.uS {keep:Nat->Bool} {u:Value} {r e j:Nat} (hk:keep r=true) (h:RV w X μ u (.ref r e j)):RV w X (br keep μ) u (.ref r e j):=by
 obtain⟨m,b,hm,hb,rfl⟩:=h.gL;exact .ref (by simp[br,hk,hm]) hb
def cT (ns:List Nat) (q off n:Nat):AV:=if ns.contains q then .own q off n else .dead
def Zi (ns:List Nat) (q e j:Nat):AV:=if ns.contains q then .ref q e j else .dead
def o3:List Nat->Heap->List (Nat×Row)
 | [],_=>[]
 | r :: l,H=>match H r with
  | some row=>(r,row) :: o3 l H
  | none=>o3 l H
theorem aC.only (ns:List Nat) (hm:∀ r,ns.contains r=false->Mv r):aC Mv X G N σ ⟨gN (cT ns) (Zi ns) σ.env,Zg ns.contains (cT ns) (Zi ns) σ.H⟩:=fun w μ a hi=>by
 refine⟨br ns.contains μ,hi.tr (fun u r off n h=>?_) (fun u r e j h=>?_),q7 fun r _ _ h=>hm r h⟩
 .unfold cT;split
  .rename_i hk;exact h.uL hk
  .exact .dead u
 .unfold Zi;split
  .rename_i hk;exact h.uS hk
  .exact .dead u
theorem Gp {H:Heap}:∀ {l:List Nat} {r:Nat},YH (o3 l H) r=if l.contains r then H r else none
 | [],r=>by simp[YH,o3]
 | q :: l,r=>by
  have ih:=Gp (H:=H) (l:=l) (r:=r);simp only[o3];split
  .rename_i row Y5;simp only[YH,List.lookup,List.contains_cons];split
   .rename_i rE
    have:r=q:=by simpa using rE
    subst this;simp[Y5]
   .rename_i rE;rw[rE,Bool.false_or];exact ih
  .rename_i Y5;rw[ih,List.contains_cons];by_cases rE:r=q
   .subst rE;simp[Y5]
   .simp[rE]
def St.norm (l ns:List Nat) (σ:St):St:=⟨aZ (qo l (gN (cT ns) (Zi ns) σ.env)),YH (o3 ns (Zg ns.contains (cT ns) (Zi ns) σ.H))⟩
theorem PA {ns:List Nat} {o f:Nat->Nat->Nat->AV} {H:Heap}:YH (o3 ns (Zg ns.contains o f H))=Zg ns.contains o f H:=by
 funext r;rw[Gp];unfold Zg;split<;>simp_all
theorem aC.norm (l ns:List Nat) (hm:∀ r,ns.contains r=false->Mv r):aC Mv X G N σ (σ.norm l ns):=by
 refine (aC.only ns hm).trans ?_;unfold St.norm;rw[PA];exact aC.env fun _ _=>B5
theorem aC.to {e:Env} {H:Heap} {l:List (Nat×AV)} {rows:List (Nat×Row)} (hm:∀ r,(rows.map (·.1)).contains r=false->Mv r) (he:∀ p∈l,(e p.1).map (AV.tr (cT (rows.map (·.1))) (Zi (rows.map (·.1))))=some p.2)
  (hH:∀ r,YH rows r=Zg (rows.map (·.1)).contains (cT (rows.map (·.1))) (Zi (rows.map (·.1))) H r):aC Mv X G N ⟨e,H⟩ ⟨Go.Av.aZ l,YH rows⟩:=by
 refine (aC.only (rows.map (·.1)) hm).trans ?_;have:YH rows=Zg (rows.map (·.1)).contains (cT (rows.map (·.1))) (Zi (rows.map (·.1))) H:=funext hH;rw[this];exact aC.env fun i x hx=>he (i,x) (xG hx)
theorem x8 {rows:List (Nat×Row)} {H:Heap} {o f:Nat->Nat->Nat->AV} (h:∀ p∈rows,(H p.1).map (Row.tr o f)=YH rows p.1):∀ r,YH rows r=Zg (rows.map (·.1)).contains o f H r:=by
 intro r;unfold Zg;split
 .rename_i hk;obtain⟨p,hp,rfl⟩:=List.mem_map.1 (List.contains_iff_mem.1 hk);exact (h p hp).symm
 .rename_i hk
  have:∀ l:List (Nat×Row),¬ (l.map (·.1)).contains r=true->YH l r=none:=by
   intro l
   induction l with
   | nil=>intro _;rfl
   | cons q l ih=>
    intro hc;simp only[List.map_cons,List.contains_cons,Bool.or_eq_true,not_or]at hc;simp only[YH,List.lookup];split
    .rename_i h1;exact absurd h1 hc.1
    .exact ih hc.2
  exact this rows hk
theorem aC.cO {e:Env} {H:Heap} {l:List (Nat×AV)} {rows:List (Nat×Row)} (hm:∀ r,(rows.map (·.1)).contains r=false->Mv r) (he:∀ p∈l,(e p.1).map (AV.tr (cT (rows.map (·.1))) (Zi (rows.map (·.1))))=some p.2)
  (hH:∀ p∈rows,(H p.1).map (Row.tr (cT (rows.map (·.1))) (Zi (rows.map (·.1))))=YH rows p.1):aC Mv X G N ⟨e,H⟩ ⟨Go.Av.aZ l,YH rows⟩:=aC.to hm he (x8 hH)
def abP (r:Nat) (els:List (List D)) (q off n:Nat):AV:=if q=r then (if off=0/\n=els.length then .d (.sl none els) else if off+n<=els.length then .d (.sl none ((els.drop off).take n)) else .dead) else .own q off n
def abO (r:Nat) (q e j:Nat):AV:=if q=r then .dead else .ref q e j
def dV (r:Nat) (q:Nat):Bool:=!(q == r)
def St.freeze (r:Nat) (σ:St):St:=match σ.H r with
 | some (.sl _ _ els)=>⟨gN (abP r els) (abO r) σ.env,Zg (dV r) (abP r els) (abO r) σ.H⟩
 | _=>σ
theorem aC.freeze (r:Nat) (hm:Mv r):aC Mv X G N σ (σ.freeze r):=fun w μ a hi=>by
 unfold St.freeze;split
 .rename_i ty sz els hr
  have tG:(fun q=>if q=r then none else μ q)=br (dV r) μ:=by
   funext q;unfold br dV;by_cases h:q=r<;>simp[h]
  refine⟨br (dV r) μ,hi.tr (fun u q off n h=>?_) (fun u q e j h=>?_),q7 fun q _ _ hq=>by
   have e:q=r:=by simpa[dV]using hq
   exact e ▸ hm⟩
  .unfold abP;split
   .rename_i hq;subst hq
    have hd:∀ {off n:Nat},RV w X μ u (.own q off n)->off+n<=els.length->RV w X (br (dV q) μ) u (.d (.sl none ((els.drop off).take n))):=fun h hle=>by
     obtain⟨k,hk,_⟩:=xX hi.aL hr hle h;rw[tG]at hk;exact .d hk.abd
    split
    .rename_i h2;obtain⟨rfl,rfl⟩:=h2;have:=hd h (by omega);simpa using this
    .split
     .rename_i hle;exact hd h hle
     .exact .dead u
   .rename_i hq;exact h.uL (by simp[dV,hq])
  .unfold abO;split
   .exact .dead u
   .rename_i hq;exact h.uS (by simp[dV,hq])
 .exact⟨μ,hi,.refl _ w μ⟩
def wa (r:Nat) (ds:List D) (q e j:Nat):AV:=if q=r then (if e=0 then .d (.ip (ds.drop j)) else .dead) else .ref q e j
def wb (r:Nat) (q off n:Nat):AV:=if q=r then .dead else .own q off n
def St.l9 (r:Nat) (σ:St):St:=match σ.H r with
 | some (.box _ cells)=>match Z9 cells with
  | some ds=>⟨gN (wb r) (wa r ds) σ.env,Zg (dV r) (wb r) (wa r ds) σ.H⟩
  | none=>σ
 | _=>σ
theorem aC.l9 (r:Nat) (hm:Mv r):aC Mv X G N σ (σ.l9 r):=fun w μ a hi=>by
 unfold St.l9;split
 .rename_i ty cells hr;split
  .rename_i ds hds
   refine⟨br (dV r) μ,hi.tr (fun u q off n h=>?_) (fun u q e j h=>?_),q7 fun q _ _ hq=>by
    have e:q=r:=by simpa[dV]using hq
    exact e ▸ hm⟩
   .unfold wb;split
    .exact .dead u
    .rename_i hq;exact h.uL (by simp[dV,hq])
   .unfold wa;split
    .rename_i hq;subst hq;split
     .rename_i he;subst he;obtain⟨m,b,rA,hb,rfl⟩:=h.gL;obtain⟨m',bx,ok⟩:=hi.aL.rows q _ hr;rw[rA]at bx;obtain rfl:=Option.some.inj bx
      cases ok with
      | box aH aK fR hh hn Z1 BB=>
       rename_i b' cur;rw[hb]at aH;obtain rfl:=Option.some.inj aH;have aap:=j9 hds
       have hlen:cells.length=ds.length:=by rw[aap,List.length_map]
       simp only[Nat.zero_mul,Nat.zero_add];refine .d (.ip (f:=fun i=>cur.getD (j+i) undef) ?_ (Array.getElem?_eq_some_iff.1 hh).1 (fun i cK=>?_) fun i d dv=>?_)
       .rintro (hX | ⟨q',m',fT,Oy⟩)
        .exact hi.aL.frame q m b rA hb hX
        .obtain⟨hk,PG⟩:=fG fT;have:=hi.aL.inj q' q m' m b PG rA Oy hb;simp[dV,this]at hk
       .simp only[List.length_drop]at cK;rw[cell_of_row w b (j+i) cur ty (0,0) hh];simp[Array.getD_eq_getD_getElem?,show j+i < cur.size by omega]
       .have cK:=(List.getElem?_eq_some_iff.1 dv).1;simp only[List.length_drop]at cK;rw[List.getElem?_drop]at dv
        have hc:cells[j+i]? = some (.d d):=by rw[aap,List.getElem?_map,dv];rfl
        have YJ:j+i < cur.size:=by omega
        have:=Z1 (j+i) cur[j+i] (.d d) (by simp[YJ]) hc;simp only[Array.getD_eq_getD_getElem?,YJ,Array.getElem?_eq_getElem,Option.getD_some];exact this.data.sub fun b=>sr
     .exact .dead u
    .rename_i hq;exact h.uS (by simp[dV,hq])
  .exact⟨μ,hi,.refl _ w μ⟩
 .exact⟨μ,hi,.refl _ w μ⟩
def St.pN (r:Nat) (σ:St):St:=(σ.freeze r).l9 r
theorem aC.pN (r:Nat) (hm:Mv r):aC Mv X G N σ (σ.pN r):=(aC.freeze r hm).trans (aC.l9 r hm)
theorem aC.lu (i r ty sz:Nat) {e:Env} {H:Heap} (hr:H r=none) (he:e i=some (.d (.sl (some false) []))):aC Mv X G N ⟨e,H⟩ ⟨fb e i (.own r 0 0),aF H r (.sl ty sz [])⟩:=fun w μ a hi=>by
 obtain⟨ax,ev⟩:=hi.alloc (Mv:=Mv) (w':=w) (m:=⟨none,sz,0⟩) hr (bT.refl w) (by simp) (row:=.sl ty sz []) fun _=>.nil rfl rfl;refine⟨Zc μ r ⟨none,sz,0⟩,⟨ax.aL,⟨ax.env.defers,ax.env.size,fun j x hx=>?_⟩,ax.eY⟩,ev⟩;simp only[fb]at hx;split at hx
 .rename_i hj;subst hj;obtain rfl:=Option.some.inj hx;obtain⟨u,hu,eo⟩:=hi.env.slot j _ he;refine⟨u,hu,.own (m:=⟨none,sz,0⟩) (by simp[Zc]) (.inl ⟨rfl,?_,rfl,rfl⟩)⟩
  rcases eo.data.lh with⟨rfl,_⟩ | ⟨_,_,_,hk,_⟩
  .rfl
  .exact absurd rfl hk
 .exact ax.env.slot j x hx
end
end Go.Av
namespace Go.Av
theorem LB (a b:Int):(a != b)=decide (¬ a=b):=by by_cases h:a=b<;>simp[h]
theorem Lu (a b:Int):(a == b)=decide (a=b):=by by_cases h:a=b<;>simp[h]
theorem aQ {α β:Type} (f:α->β) (l:List α):List.take l.length (List.map f l)=List.map f l:=List.take_of_length_le (by simp)
def rowsOf (H:Heap):Nat->AV->List Nat
 | 0,_=>[]
 | _+1,.own r _ _=>[r]
 | k+1,.ref r _ _=>match H r with
  | some (.box _ cells)=>go H k cells ++ [r]
  | _=>[]
 | k+1,.agg cells=>go H k cells
 | k+1,.bh _ x=>rowsOf H k x
 | _+1,_=>[]
where
 go (H:Heap) (k:Nat):List AV->List Nat
 | []=>[]
 | x :: l=>rowsOf H k x ++ go H k l
def lC:List Nat->St->St
 | [],σ=>σ
 | r :: l,σ=>lC l (σ.pN r)
def acf (G:YI) (o:Oper) (σ:St):St:=match o.op with
 | .buildSlice _ _ parts=>match aaG G σ.env parts.toList with
  | some ps=>lC (rowsOf.go σ.H 6 (ps.map (·.2))) σ
  | none=>σ
 | .mapUpdate _ _ _ v=>match aU G σ.env v with
  | some x=>lC (rowsOf σ.H 6 x) σ
  | none=>σ
 | .insert _ _ _ v=>match aU G σ.env v with
  | some x=>lC (rowsOf σ.H 6 x) σ
  | none=>σ
 | _=>σ
def ac1 (G:YI) (o:Oper) (σ:St):List Nat:=match o.op with
 | .buildSlice _ _ parts=>match aaG G σ.env parts.toList with
  | some ps=>rowsOf.go σ.H 6 (ps.map (·.2))
  | none=>[]
 | .mapUpdate _ _ _ v=>match aU G σ.env v with
  | some x=>rowsOf σ.H 6 x
  | none=>[]
 | .insert _ _ _ v=>match aU G σ.env v with
  | some x=>rowsOf σ.H 6 x
  | none=>[]
 | _=>[]
def bU (P:Program) (Mv X:Nat->Prop) (G:YI) (N:Fr) (g:FuncId) (xs:List AV) (σ:St) (dst:Option Tmp) (next:St->Prop):Prop:=
 gS P Mv X G N g xs σ fun x ag=>next ⟨au ag.env dst x,ag.H⟩
def hZ (P:Program) (G:YI) (c:Call) (σ:St) (dst:Option Tmp) (next:St->Prop):Prop:=∃ y,sB P G σ c y/\next ⟨au σ.env dst (.d y),σ.H⟩
def pL (P:Program) (T:Ty) (Mv X:Nat->Prop) (G:YI) (N:Fr) (o:Oper) (σ:St) (next:St->Prop):Prop:=match Y0 o.op with
 | some c=>match ZS G σ.env c with
  | some (g,xs)=>bU P Mv X G N g xs σ o.dst next
  | none=>False
 | none=>(∀ r∈ac1 G o σ,Mv r)/\kz T G Mv o (acf G o σ) next
def fH (P:Program) (T:Ty) (Mv X:Nat->Prop) (G:YI) (N:Fr) (ops:Array Oper) (K:St->Prop):List Oper->St->Prop
 | [],σ=>K σ
 | o :: rest,σ=>c8 N o/\match fc ops σ.env o with
  | some b=>if b=true then pL P T Mv X G N o σ (fH P T Mv X G N ops K rest) else fH P T Mv X G N ops K rest ⟨au σ.env o.dst Y2,σ.H⟩
  | none=>False
def jZ (P:Program) (T:Ty) (Mv:Nat->Prop) (G:YI) (N:Fr) (ops:Array Oper) (K:St->Prop):List Oper->St->Prop
 | [],σ=>K σ
 | o :: rest,σ=>c8 N o/\match fc ops σ.env o with
  | some b=>if b=true then (match Y0 o.op with
    | some c=>hZ P G c σ o.dst (jZ P T Mv G N ops K rest)
    | none=>kz T G Mv o σ (jZ P T Mv G N ops K rest)) else jZ P T Mv G N ops K rest ⟨au σ.env o.dst Y2,σ.H⟩
  | none=>False
section
variable {P:Program} {T:Ty} {Mv X:Nat->Prop} {G:YI} {N:Fr} {w:World} {μ:Mu} {a:Act} {σ:St}
theorem JF {ops:Array Oper} {K:St->Prop}:∀ (l:List Oper),jZ P T Mv G N ops K l=ph P T Mv G N ops K l
 | []=>rfl
 | o :: l=>by
  funext σ;simp only[jZ,ph,hZ,JF l]
  all_goals rfl
theorem aC.lC:∀ (l:List Nat) {σ:St},(∀ r∈l,Mv r)->aC Mv X G N σ (Go.Av.lC l σ)
 | [],σ,_=>.refl σ
 | r :: l,_,hm=>(aC.pN r (hm r (by simp))).trans (aC.lC l fun q hq=>hm q (by simp[hq]))
theorem aC.acf (o:Oper) (hm:∀ r∈ac1 G o σ,Mv r):aC Mv X G N σ (Go.Av.acf G o σ):=by
 unfold Go.Av.acf;unfold ac1 at hm;split
 .rename_i ho;simp only[ho]at hm;split
  .rename_i hp;simp only[hp]at hm;exact .lC _ hm
  .exact .refl σ
 .rename_i ho;simp only[ho]at hm;split
  .rename_i hp;simp only[hp]at hm;exact .lC _ hm
  .exact .refl σ
 .rename_i ho;simp only[ho]at hm;split
  .rename_i hp;simp only[hp]at hm;exact .lC _ hm
  .exact .refl σ
 .exact .refl σ
theorem EL (hg:Good P T) (hi:In w X G μ N a σ) {o:Oper} {K:St->Prop} (hd:∀ d,o.dst=some d->d < N.n) (h:pL P T Mv X G N o σ K) {Q:Exit->Act->World->Prop} {next:Act->World->Prop}
  (hk:∀ w' ak a' ag,K ag->In w' X G ak N a' ag->Ev Mv w μ w' ak->next a' w'):o.wpIn (wd N.ro) 0 P a w next Q:=by
 unfold pL at h;split at h
 .rename_i c hc;refine sP (Mv:=Mv) hg hi hd ?_ hk;unfold ex1;rw[hc];dsimp only;split at h
  .rename_i ht;rw[ht];exact h
  .exact h.elim
 .rename_i hc;obtain⟨Z8,bO,ou⟩:=aC.acf (Mv:=Mv) (X:=X) o h.1 w μ a hi;refine sP (Mv:=Mv) hg bO (K:=K) hd ?_ fun w' ak a' ag k ax aD=>hk w' ak a' ag k ax (ou.trans aD);unfold ex1;rw[hc];exact h.2
theorem Wa (hg:Good P T) {ops:Array Oper} {Q:Exit->St->Prop} {w0:World} {eV:Mu}:∀ (l:List Oper) (k:Nat) (w:World) (μ:Mu) (a:Act) (σ:St),(∀ j,l[j]? = ops[k+j]?)->fH P T Mv X G N ops (fun ag=>Q .normal ag) l σ->In w X G μ N a σ->Ev Mv w0 eV w μ->
  wpOpsIn (wd N.ro) 0 P ops (After Mv X G N w0 eV Q) (List.range' k l.length) a w:=by
 intro l
 induction l with
 | nil=>intro k w μ a σ _ h hi aD;exact⟨μ,σ,h,hi,aD⟩
 | cons o l ih=>
  intro k w μ a σ hl h hi aD
  have h0:ops[k]? = some o:=by simpa using (hl 0).symm
  have fk:∀ j,l[j]? = ops[k+1+j]?:=fun j=>by have:=hl (j+1);simpa[Nat.add_assoc,Nat.add_comm 1 j]using this
  obtain⟨hd,h⟩:=h
  have dv:∀ d,o.dst=some d->d < N.n:=fun d e=>by unfold c8 at hd;rw[e]at hd;exact hd
  rw[List.length_cons,List.range'_succ];simp only[wpOpsIn,h0];split at h
  .rename_i b hb;rw[abV hi hb];split at h
   .rename_i np;subst np;rw[if_pos rfl];exact (EL hg hi dv h fun w' ak a' ag k' ax aaI=>ih (k+1) w' ak a' ag fk k' ax (aD.trans aaI))
   .rename_i hbf;rw[if_neg (by simpa using hbf)];exact⟨fun _ _=>trivial,ih (k+1) w μ _ _ fk h (hi.put (.d (.v _)) dv) aD⟩
  .exact h.elim
theorem Dv (hg:Good P T) {id:Nat} {ops:Array Oper} {Q:Exit->St->Prop} (h:fH P T Mv X G N ops (fun ag=>Q .normal ag) ops.toList σ):AW P Mv X G N (.region id ops false) Q σ:=fun w μ a hi=>by
 refine wpIn_region ?_;have:=Wa hg ops.toList 0 w μ a σ (by simp) h hi (.refl _ w μ)
 rwa [<- List.range_eq_range',Array.length_toList]at this
theorem Km (hg:Good P T) (hm:P.follows .mixedOrders=true) {id:Nat} {ops:Array Oper} (bp:lY ops=true) {Q:Exit->St->Prop} (h:jZ P T Mv G N ops (fun ag=>Q .normal ag) ops.toList σ):AW P Mv X G N (.region id ops true) Q σ:=by
 rw[JF]at h;exact Kr hg hm bp h
theorem AW.norm (l ns:List Nat) (hM:∀ r,ns.contains r=false->Mv r) {c:Code} {Q:Exit->St->Prop} (h:AW P Mv X G N c Q (σ.norm l ns)):AW P Mv X G N c Q σ:=AW.imp (aC.norm l ns hM) h
theorem AW.st {τ:St} {c:Code} {Q:Exit->St->Prop} (h:σ=τ) (h':AW P Mv X G N c Q τ):AW P Mv X G N c Q σ:=h ▸ h'
theorem AW.Cl (i:Nat) {e:Env} {H:Heap} {els:List (List D)} {c:Code} {Q:Exit->St->Prop} (he:e i=some (.d (.sl none els))) (h1:AW P Mv X G N c Q ⟨fb e i (.d (.sl (some true) els)),H⟩)
  (h2:els=[]->AW P Mv X G N c Q ⟨fb e i (.d (.sl (some false) [])),H⟩):AW P Mv X G N c Q ⟨e,H⟩:=fun w μ a hi=>by
 obtain⟨u,hu,hr⟩:=hi.env.slot i _ he
 have put:∀ {y:D},RD w (XX X μ) u y->In w X G μ N a ⟨fb e i (.d y),H⟩:=fun hy=>⟨hi.aL,⟨hi.env.defers,hi.env.size,fun j x hx=>by
  simp only[fb]at hx;split at hx
  .rename_i hj;subst hj;obtain rfl:=Option.some.inj hx;exact⟨u,hu,.d hy⟩
  .exact hi.env.slot j x hx⟩,hi.eY⟩
 have hd:=hr.data;generalize hy:D.sl none els=y at hd
 cases hd with
 | nil hk=>cases hy;exact h2 rfl w μ a (put (.nil (by simp)))
 | empty hk hm=>cases hy;exact h1 w μ a (put (.empty (by simp) hm))
 | sl a1 a2 a3 a4 a5 a6 a7 a8 a9 KF=>cases hy;exact h1 w μ a (put (.sl (by simp) a2 a3 a4 a5 a6 a7 a8 a9 KF))
 | _=>cases hy
theorem Ks (hg:Good P T) (l ns:List Nat) (hM:∀ r,ns.contains r=false->Mv r) {id:Nat} {ops:Array Oper} {y:Code} {Q:Exit->St->Prop} (h:∀ K:St->Prop,(∀ τ:St,AW P Mv X G N y Q (τ.norm l ns)->K τ)->fH P T Mv X G N ops K ops.toList σ):AW P Mv X G N (.seq (.region id ops false) y) Q σ:=
 pq (Dv hg (h _ fun _ h=>h.norm l ns hM))
theorem rg {P:Program} {Mv X:Nat->Prop} {G:YI} {N:Fr} {σ:St} (l ns:List Nat) (hM:∀ r,ns.contains r=false->Mv r) {id:Nat} {ops:Array Oper} {y:Code} {Q:Exit->St->Prop} (h:∀ K:St->Prop,(∀ τ:St,AW P Mv X G N y Q (τ.norm l ns)->K τ)->fH P (bX P) Mv X G N ops K ops.toList σ):AW P Mv X G N (.seq (.region id ops false) y) Q σ:=Ks (aw _) l ns hM h
theorem mL (hg:Good P T) (hm:P.follows .mixedOrders=true) (l ns:List Nat) (hM:∀ r,ns.contains r=false->Mv r) {id:Nat} {ops:Array Oper} (bp:lY ops=true) {y:Code} {Q:Exit->St->Prop} (h:∀ K:St->Prop,(∀ τ:St,AW P Mv X G N y Q (τ.norm l ns)->K τ)->jZ P T Mv G N ops K ops.toList σ):AW P Mv X G N (.seq (.region id ops true) y) Q σ:=
 pq (Km hg hm bp (h _ fun _ h=>h.norm l ns hM))
theorem ff (hg:Good P T) {id:Nat} {ops:Array Oper} {Q:Exit->St->Prop} (h:∀ K:St->Prop,(∀ τ:St,Q .normal τ->K τ)->fH P T Mv X G N ops K ops.toList σ):AW P Mv X G N (.region id ops false) Q σ:=
 Dv hg (h _ fun _ h=>h)
def x7 (T:Ty) (σ:St):ResultVar->ga
 | .tmp t=>(σ.env t).map fun x=>(True,x)
 | .cell a t=>(σ.env a).bind (iL T σ.H t)
def abU (T:Ty) (σ:St):List ResultVar->Option (Prop×List AV)
 | []=>some (True,[])
 | r :: l=>match x7 T σ r,abU T σ l with
  | some (c,x),some (c',xs)=>some (c/\c',x :: xs)
  | _,_=>none
def oneOf:List AV->AV
 | [x]=>x
 | l=>uC l
def D.le:D->D->Prop
 | .sl k els,.sl k' iT=>(k'=none\/k=k')/\els=iT
 | .aT l,.aT l'=>go l l'
 | .agg l,.agg l'=>go l l'
 | .ip l,.ip l'=>go l l'
 | .bh t x,.bh t' x'=>t=t'/\x.le x'
 | .fn f l,.fn f' l'=>f=f'/\go l l'
 | .dm x l,.dm x' l'=>(x'=true->x=true/\l=l')/\l.Perm l'
 | x,y=>x=y
where
 go:List D->List D->Prop
 | [],[]=>True
 | x :: l,y :: l'=>x.le y/\go l l'
 | _,_=>False
def q6 (T:Ty) (rs:List ResultVar) (y:D) (σ:St):Prop:=match abU T σ rs with
 | some (c,xs)=>c/\match Zn σ.H 6 (oneOf xs) with
  | some y'=>y'.le y
  | none=>False
 | none=>False
def yY (T:Ty) (rs:List ResultVar) (y:D):Exit->St->Prop
 | .normal,σ | .ret,σ=>q6 T rs y σ
 | _,_=>False
theorem D.qn:∀ {l l':List D},D.le.go l l'->l.length=l'.length/\∀ (j:Nat) (x y:D),l[j]? = some x->l'[j]? = some y->x.le y
 | [],[],_=>⟨rfl,by simp⟩
 | x :: l,y :: l',h=>by
  simp only[D.le.go]at h;obtain⟨h1,h2⟩:=D.qn h.2;refine⟨by simp[h1],fun j a b ha hb=>?_⟩
  cases j with
  | zero=>simp at ha hb;subst ha hb;exact h.1
  | succ j=>simp at ha hb;exact h2 j a b ha hb
 | [],_ :: _,h=>by simp only[D.le.go]at h
 | _ :: _,[],h=>by simp only[D.le.go]at h
theorem D.uw {l l':List D} (hg:D.le.go l l') {j:Nat} {c:D} (hc:l'[j]? = some c):∃ x,l[j]? = some x/\x.le c:=by
 obtain⟨hl,hh⟩:=D.qn hg;have hj:=(List.getElem?_eq_some_iff.1 hc).1
 have eb:j < l.length:=by omega
 exact⟨l[j],by simp[eb],hh j _ c (by simp[eb]) hc⟩
theorem RD.le {w:World} {X:Nat->Prop} {u:Value} {x:D} (hr:RD w X u x):∀ {y:D},x.le y->RD w X u y:=by
 induction hr with
 | v x=>intro y h;cases y<;>simp only[D.le,reduceCtorEq]at h;exact h ▸ .v x
 | nil hk=>
  intro y h;cases y<;>simp only[D.le,reduceCtorEq]at h;obtain⟨h1 | h1,rfl⟩:=h
  .exact .nil (by simp[h1])
  .exact .nil (h1 ▸ hk)
 | empty hk hm=>
  intro y h;cases y<;>simp only[D.le,reduceCtorEq]at h;obtain⟨h1 | h1,rfl⟩:=h
  .exact .empty (by simp[h1]) hm
  .exact .empty (h1 ▸ hk) hm
 | sl h1 h2 h3 h4 h5 h6 h7 h8 h9 pO=>
  intro y h;cases y<;>simp only[D.le,reduceCtorEq]at h;obtain⟨e1 | e1,rfl⟩:=h
  .exact .sl (by simp[e1]) h2 h3 h4 h5 h6 h7 h8 h9 pO
  .exact .sl (e1 ▸ h1) h2 h3 h4 h5 h6 h7 h8 h9 pO
 | ip hX hb Zh hr ih=>
  intro y h;cases y<;>simp only[D.le,reduceCtorEq]at h;obtain⟨hl,_⟩:=D.qn h;refine .ip hX hb (fun j hj=>Zh j (by omega)) fun j c hc=>?_;obtain⟨x,hx,hle⟩:=D.uw h hc;exact ih j x hx hle
 | agg hn hr ih=>
  intro y h;cases y<;>simp only[D.le,reduceCtorEq]at h;obtain⟨hl,_⟩:=D.qn h;refine .agg (by omega) fun j u c hu hc=>?_;obtain⟨x,hx,hle⟩:=D.uw h hc;exact ih j u x hu hx hle
 | aT hn hr ih=>
  intro y h;cases y<;>simp only[D.le,reduceCtorEq]at h;obtain⟨hl,_⟩:=D.qn h;refine .aT (by omega) fun j u c hu hc=>?_;obtain⟨x,hx,hle⟩:=D.uw h hc;exact ih j u x hu hx hle
 | bh hr ih=>
  intro y h;cases y<;>simp only[D.le,reduceCtorEq]at h;obtain⟨rfl,h⟩:=h;exact .bh (ih h)
 | j0 hX hh=>
  intro y h;cases y<;>simp only[D.le,reduceCtorEq]at h;injection h with h;exact h ▸ .j0 hX hh
 | dm hX hh hp hx=>
  intro y h;cases y<;>simp only[D.le,reduceCtorEq]at h;exact .dm hX hh (hp.trans h.2) fun e=>(hx (h.1 e).1).trans (h.1 e).2
 | fn hn hr ih=>
  intro y h;cases y<;>simp only[D.le,reduceCtorEq]at h;obtain⟨rfl,h⟩:=h;obtain⟨hl,_⟩:=D.qn h;refine .fn (by omega) fun j u c hu hc=>?_;obtain⟨x,hx,hle⟩:=D.uw h hc;exact ih j u x hu hx hle
theorem aq.abd {g:FuncId} {ds dk:List D} {y:D} (hc:aq P G g ds y) (h:D.le.go dk ds):aq P G g dk y:=by
 refine⟨hc.1,fun X w μ vs hs Y7 hn hv=>hc.2 X w μ vs hs Y7 (by simpa[(D.qn h).1]using hn) fun i u x hu hx=>?_⟩;rw[List.getElem?_map]at hx;obtain⟨d,hd,rfl⟩:=Option.map_eq_some_iff.1 hx;obtain⟨x,hx,hle⟩:=D.uw h hd;exact .d ((hv i u (.d x) hu (by rw[List.getElem?_map,hx];rfl)).data.le hle)
theorem bU.data {g:FuncId} {xs:List AV} {ds dk:List D} {y:D} {dst:Option Tmp} {next:St->Prop} (hc:aq P G g ds y) (hx:Z9 xs=some dk) (hle:D.le.go dk ds) (h:next ⟨au σ.env dst (.d y),σ.H⟩):bU P Mv X G N g xs σ dst next:=by
 unfold bU;rw[j9 hx];exact gS.pure (hc.abd hle) h
theorem bU.aa3 {g:FuncId} {xs:List AV} {ds dk:List D} {y:D} {dst:Option Tmp} {next:St->Prop} (hc:aq P G g ds y) (hx:gQ (Zn σ.H 4) xs=some dk) (hle:D.le.go dk ds) (hy:y.scalar=true) (h:next ⟨au σ.env dst (.d y),σ.H⟩):bU P Mv X G N g xs σ dst next:=
 gS.aa3 hx (hc.abd hle) hy h
theorem hZ.data {c:Call} {g:FuncId} {xs:List AV} {ds dk:List D} {y:D} {dst:Option Tmp} {next:St->Prop} (hc:aq P G g ds y) (ht:ZS G σ.env c=some (g,xs)) (hx:Z9 xs=some dk) (hle:D.le.go dk ds) (h:next ⟨au σ.env dst (.d y),σ.H⟩):hZ P G c σ dst next:=
 ⟨y,⟨g,xs,ht,.inl ⟨dk,j9 hx,hc.abd hle⟩⟩,h⟩
theorem hZ.aa3 {c:Call} {g:FuncId} {xs:List AV} {ds dk:List D} {y:D} {dst:Option Tmp} {next:St->Prop} (hc:aq P G g ds y) (ht:ZS G σ.env c=some (g,xs)) (hx:gQ (Zn σ.H 4) xs=some dk) (hle:D.le.go dk ds) (hy:y.scalar=true) (h:next ⟨au σ.env dst (.d y),σ.H⟩):hZ P G c σ dst next:=
 ⟨y,⟨g,xs,ht,.inr ⟨dk,hx,hy,hc.abd hle⟩⟩,h⟩
theorem DN (H:Heap) (k:Nat):∀ (ds:List D),gQ (Zn H k) (ds.map .d)=some ds
 | []=>rfl
 | d :: ds=>by simp[gQ,DN H k ds];cases k<;>simp[Zn]
theorem D.le_refl (x:D):x.le x:=by
 have key:∀ n,∀ x:D,SizeOf.sizeOf x < n->x.le x:=by
  intro n
  induction n with
  | zero=>intro x h;omega
  | succ n ih=>
   intro x h
   have go:∀ l:List D,SizeOf.sizeOf l < n->D.le.go l l:=by
    intro l
    induction l with
    | nil=>intro _;simp[D.le.go]
    | cons y l uj=>
     intro hl;simp only[List.cons.sizeOf_spec]at hl;exact⟨ih y (by omega),uj (by omega)⟩
   cases x<;>simp only[D.le]<;>simp at h ⊢
   .exact go _ (by omega)
   .exact go _ (by omega)
   .exact go _ (by omega)
   .exact ih _ (by omega)
   .exact go _ (by omega)
 exact key _ x (Nat.lt_succ_self _)
theorem D.ba:∀ l:List D,D.le.go l l
 | []=>trivial
 | x :: l=>⟨D.le_refl x,D.ba l⟩
theorem U1 (hg:Good P T) (hi:In w X G μ N a σ) {r:ResultVar} {c:Prop} {x:AV} (h:x7 T σ r=some (c,x)) (hc:c) :
  ∃ v,(match r with | .tmp t=>(pure (a.tmps.getD t undef):Sem Value) | .cell b t=>do loadVar t (<- asAddr (a.tmps.getD b undef))).run P w = .ok v w/\RV w X μ v x:=by
 cases r with
 | tmp t=>
  simp only[x7,Option.map_eq_some_iff,Prod.mk.injEq]at h;obtain⟨y,hy,_,rfl⟩:=h;obtain⟨u,hu,hr⟩:=hi.env.slot t y hy;exact⟨u,by simp[Array.getD_eq_getD_getElem?,hu],hr⟩
 | cell b t=>
  obtain⟨y,hy,hl⟩:=Option.bind_eq_some_iff.1 h;obtain⟨u,hu,hr⟩:=hi.env.slot b y hy;obtain⟨v,hv,eo⟩:=HB (P:=P) hg hi.aL hl hc hr;refine⟨v,?_,eo⟩
  have e:a.tmps.getD b undef=u:=by simp[Array.getD_eq_getD_getElem?,hu]
  dsimp only;rw[e];unfold iL at hl;split at hl
  .obtain⟨b,off,f,rfl,_⟩:=hr.data.abj;simpa[Instr.loadAt,Instr.sureAddr,asAddr]using hv
  .obtain⟨m,b,hm,hb,rfl⟩:=hr.gL;simpa[Instr.loadAt,Instr.sureAddr,asAddr]using hv
  .cases hl
theorem UZ (hg:Good P T) (hi:In w X G μ N a σ):∀ {rs:List ResultVar} {c:Prop} {xs:List AV},abU T σ rs=some (c,xs)->c->
  ∃ vs:List Value,(rs.mapM (m:=Sem) fun | .tmp t=>pure (a.tmps.getD t undef) | .cell b t=>do loadVar t (<- asAddr (a.tmps.getD b undef))).run P w = .ok vs w/\vs.length=xs.length/\∀ (j:Nat) (u:Value) (x:AV),vs[j]? = some u->xs[j]? = some x->RV w X μ u x:=by
 intro rs
 induction rs with
 | nil=>
  intro c xs h hc;simp only[abU,Option.some.injEq,Prod.mk.injEq]at h;obtain⟨_,rfl⟩:=h;exact⟨[],by simp,rfl,by simp⟩
 | cons r rs ih=>
  intro c xs h hc;simp only[abU]at h;split at h
  .rename_i c1 x c2 J6 h1 h2;simp only[Option.some.injEq,Prod.mk.injEq]at h;obtain⟨rfl,rfl⟩:=h;obtain⟨v,hv,hr⟩:=U1 (P:=P) hg hi h1 hc.1;obtain⟨vs,BA,hl,ie⟩:=ih h2 hc.2;refine⟨v :: vs,?_,by simp[hl],fun j u x hu hx=>?_⟩
   .rw[List.mapM_cons,Sem.run_bind,hv,Result.andThen_ok,Sem.run_bind,BA,Result.andThen_ok,Sem.run_pure]
   .cases j with
    | zero=>simp at hu hx;subst hu hx;exact hr
    | succ j=>simp at hu hx;exact ie j u x hu hx
  .cases h
theorem CJ (hg:Good P T) (hi:In w X G μ N a σ) {fn:Func} {rs:List ResultVar} (ie:fn.results=rs.toArray) {c:Prop} {xs:List AV} (h:abU T σ rs=some (c,xs)) (hc:c) :
  ∃ v,(results fn a.tmps).run P w = .ok v w/\RV w X μ v (oneOf xs):=by
 obtain⟨vs,BA,hl,hr⟩:=UZ (P:=P) hg hi h hc;refine⟨if h:vs.toArray.size=1 then vs.toArray[0] else .tuple vs.toArray,?_,?_⟩
 .unfold results;rw[ie,Array.mapM_eq_mapM_toList,Sem.run_bind];simp only[map_eq_pure_bind,Sem.run_bind]
  erw[BA]
  rfl
 .match xs,vs,hl,hr with
  | [],[],_,hr=>exact xJ (l:=[]) (.aT (arr:=#[]) (cells:=[]) rfl (by simp))
  | [x],[v],_,hr=>exact hr 0 v x rfl rfl
  | x :: y :: xs,v :: u :: vs,hl,hr=>
   have:¬ (v :: u :: vs).toArray.size=1:=by simp
   rw[dif_neg this];exact xJ (.aT (by simpa using hl) fun j u c hu hc=>hr j u c (by simpa using hu) hc)
theorem aq.aI (hg:Good P T) {g:FuncId} {fn:Func} {c:Code} {rs:List ResultVar} {ds:List D} {y:D} (hf:P.funcs[g]? = some fn) (hb:fn.body=some c) (hn:(fn.name == "runtime.NumGoroutine")=false) (ie:fn.results=rs.toArray)
  (hN:ds.length<=fn.ntmps) (h:∀ X,AW P (fun _=>True) X G ⟨fn.ntmps,[],none⟩ c (yY T rs y) ⟨args (ds.map .d),hno⟩):aq P G g ds y:=by
 refine⟨fo.of hf hb hn,fun X w μ vs hs Y7 aK hv=>?_⟩
 have fin:∀ (w':World) (ak:Mu) (a':Act) (ag:St),q6 T rs y ag->In w' X G ak ⟨fn.ntmps,[],none⟩ a' ag->Ev (fun _=>True) w μ w' ak->∃ v,(results fn a'.tmps).run P w' = .ok v w'/\∃ v_1 x H' ak,Ending.returned v=Ending.returned v_1/\(x = .d y/\H'=hno)/\RV w' X ak v_1 x/\Zf w' X ak H'/\Ev (fun _=>True) w μ w' ak:=by
  intro w' ak a' ag he hi aD;unfold q6 at he;split at he
  .rename_i c xs hx;obtain⟨hc,he⟩:=he;split at he
   .rename_i y' hy;obtain⟨v,hv,hr⟩:=CJ (P:=P) hg hi ie hx hc;have bq:=(yT hi.aL 6 hy hr).le he;refine⟨v,hv,v,.d y,hno,fun _=>none,rfl,⟨rfl,rfl⟩,.d (bq.sub fun b=>jt.1),Zf.none hi.aL.fits,aD.size,aD.os,aD.tape,aD.output,fun b hb hr=>⟨(aD.same b hb hr).1,fun ⟨_,_,h,_⟩=>by cases h⟩,fun r m _ hn=>absurd trivial hn⟩
   .exact he.elim
  .exact he.elim
 refine calls_of_wp hf hb ((wpIn_wide (n:=0)).1 (wpIn_mono (h X w μ _ ⟨hs,⟨rfl,by simp;simp at aK;omega,fun i x hx=>?_⟩,Y7⟩) fun e a' w' ⟨ak,ag,q,i,ev⟩=>?_))
 .simp only[args]at hx;have hi:i < (ds.map AV.d).length:=(List.getElem?_eq_some_iff.1 hx).1
  have lV:vs[i]? = some vs[i]:=by rw[Array.getElem?_eq_getElem]
  exact⟨vs[i],by rw[Array.getElem?_append_left (by omega),lV],hv i _ x lV hx⟩
 .cases e with
  | normal=>
   obtain⟨v,hv,rest⟩:=fin w' ak a' ag q i ev;exact⟨i.env.defers,v,hv,rest⟩
  | ret=>
   obtain⟨v,hv,rest⟩:=fin w' ak a' ag q i ev;exact⟨i.env.defers,v,hv,rest⟩
  | _=>exact q.elim
end
end Go.Av
namespace Go.Av
section
variable {P:Program} {T:Ty} {Mv X:Nat->Prop} {G:YI} {N:Fr} {ops:Array Oper}
def qX (o:Oper):Option (Operand×Operand):=match o.op with
 | .call { callee:=.builtin .append,args,argTypes }=>match args.toList,argTypes.toList with
  | [x,y],[t,t']=>if t=t' then some (x,y) else none
  | _,_=>none
 | _=>none
def vt (T:Ty) (Mv:Nat->Prop) (o:Oper) (r off n ty sz:Nat) (els news:List (List D)):Option (Prop×Nat×Row):=match o.op,o.dst with
 | .call { callee:=.builtin .append,args,argTypes },some _=>match args.toList,argTypes.toList with
  | [_,_],[t,t']=>if t=t' then match T t with
   | some tt=>match tt.desc with
    | .slice e=>match T e with
     | some te=>some (off=0/\Mv r/\ty=e/\sz=te.size/\n<=els.length/\(∀ el∈news,el.length=te.size)/\(∀ el∈news,∀ c∈el,D.one c=true)/\0 < te.size/\(cM te.zero).length=te.size/\n+news.length<=9223372036854775807/\(n+news.length) * te.bytes<=140737488355328,
       n+news.length,.sl e te.size (els.take n ++ news))
     | none=>none
    | _=>none
   | none=>none
  else none
  | _,_=>none
 | _,_=>none
def abt (s:Nat):AV->Prop
 | .own q _ _=>q=s
 | _=>True
def fJ (T:Ty) (G:YI) (Mv:Nat->Prop) (o:Oper) (e:Env) (H:Heap) (r s m:Nat) (row:Row):Prop:=
 ∃ x y off n v ty sz els news c,qX o=some (x,y)/\aU G e x=some (.own r off n)/\aU G e y=some v/\abt s v/\H r=some (.sl ty sz els)/\aak H r v=some news/\vt T Mv o r off n ty sz els news=some (c,m,row)/\c
theorem yQ {o:Oper} {x y:Operand} (h:qX o=some (x,y)):∃ t t',o.op = .call { callee:=.builtin .append,args:=#[x,y],argTypes:=#[t,t'] }/\t=t':=by
 unfold qX at h;split at h
 .rename_i args argTypes ZR;split at h
  .rename_i x' y' t t' ha ht;split at h
   .rename_i b4;simp only[Option.some.injEq,Prod.mk.injEq]at h;obtain⟨rfl,rfl⟩:=h;have e1:args = #[x',y']:=Array.toList_inj.1 ha;have e2:argTypes = #[t,t']:=Array.toList_inj.1 ht;exact⟨t,t',by rw[ZR,e1,e2],b4⟩
   .cases h
  .cases h
 .cases h
theorem fJ.row {o:Oper} {e:Env} {H:Heap} {r s m:Nat} {row:Row} (h:fJ T G Mv o e H r s m row):(∃ ty sz els,row = .sl ty sz els)/\(∃ ty sz els,H r=some (.sl ty sz els))/\(∃ d,o.dst=some d):=by
 obtain⟨x,y,off,n,v,ty,sz,els,news,c,h1,h2,h3,h4,h5,h6,h7,h8⟩:=h;unfold vt at h7
 repeat' split at h7
 all_goals first
  | cases h7;done
  | (simp only [Option.some.injEq, Prod.mk.injEq] at h7
     obtain⟨_,_,rfl⟩:=h7
     exact⟨⟨_,_,_,rfl⟩,⟨_,_,_,h5⟩,⟨_,by assumption⟩⟩)
theorem fJ.to {o:Oper} {e:Env} {H:Heap} {r s m:Nat} {row:Row} (h:fJ T G Mv o e H r s m row):iD P T Mv G o ⟨e,H⟩ ⟨au (ch r e) o.dst (.own r 0 m),aF (Y9 r H) r row⟩:=by
 obtain⟨x,y,off,n,v,ty,sz,els,news,c,h1,h2,h3,h4,h5,h6,h7,h8⟩:=h;obtain⟨t,t',ZR,ac0⟩:=yQ h1;obtain⟨dst,op,type,pos,after,guard⟩:=o;dsimp only at ZR;subst ZR;unfold iD;simp only[Y0,Zr,if_true];unfold vt at h7;dsimp only at h7
 cases dst with
 | none=>cases h7
 | some d=>
  simp only[List.toList_toArray]at h7;refine⟨c,.own r 0 m,⟨ch r e,aF (Y9 r H) r row⟩,?_,h8,rfl⟩;unfold wr;dsimp only;subst ac0;rw[if_pos rfl]at h7;split at h7
  .rename_i tt hT;split at h7
   .rename_i vT hd;split at h7
    .rename_i te bI;simp only[Option.some.injEq,Prod.mk.injEq]at h7;obtain⟨rfl,rfl,rfl⟩:=h7;simp[hT,hd,bI,h2,h3,h5,h6]
    .cases h7
   .cases h7
  .cases h7
theorem fJ.of {o:Oper} {e:Env} {H:Heap} {r s off n:Nat} {x y:Operand} {v:AV} {c:Prop} {z:AV} {YK:St} (ho:qX o=some (x,y)) (hx:aU G e x=some (.own r off n)) (hy:aU G e y=some v) (hs:abt s v) (h:wr T G Mv ⟨e,H⟩ o=some (c,z,YK)) (hc:c) :
  ∃ m row,fJ T G Mv o e H r s m row/\z = .own r 0 m/\YK=⟨ch r e,aF (Y9 r H) r row⟩:=by
 obtain⟨t,t',ZR,ac0⟩:=yQ ho;obtain⟨dst,op,type,pos,after,guard⟩:=o;dsimp only at ZR;subst ZR;unfold wr at h;dsimp only at h
 cases dst with
 | none=>cases h
 | some d=>
  dsimp only at h;split at h
  .rename_i b4;subst b4
   cases hT:T t with
   | none=>simp[hT]at h
   | some tt=>
    simp only[hT]at h;split at h
    .rename_i vT hd
     cases bI:T vT with
     | none=>simp[bI]at h
     | some te=>
      simp only[bI,hx,hy]at h;split at h
      .rename_i ty sz els news h1 h2;simp only[Option.some.injEq,Prod.mk.injEq]at h;obtain⟨rfl,rfl,rfl⟩:=h;exact⟨_,_,⟨x,y,off,n,v,ty,sz,els,news,_,ho,hx,hy,hs,h1,h2,by simp[vt,hT,hd,bI],hc⟩,rfl,rfl⟩
      .cases h
    .cases h
  .rename_i aG;exact absurd ac0 aG
theorem HV {H H2:Heap} {r s:Nat} {v:AV} (hs:abt s v) (hH:H2 s=H s):aak H2 r v=aak H r v:=by
 cases v with
 | own q off n=>
  simp only[abt]at hs;subst hs;simp only[aak,hH]
 | d x=>cases x<;>rfl
 | _=>rfl
theorem fJ.congr {o:Oper} {e e2:Env} {H H2:Heap} {r s m:Nat} {row:Row} (h:fJ T G Mv o e H r s m row) (ha:dB o.op e e2) (hr:H2 r=H r) (hs:H2 s=H s):fJ T G Mv o e2 H2 r s m row:=by
 obtain⟨x,y,off,n,v,ty,sz,els,news,c,h1,h2,h3,h4,h5,h6,h7,h8⟩:=h;obtain⟨t,t',ZR,ac0⟩:=yQ h1;have hx:∀ t,x = .tmp t->e t=e2 t:=fun t ht=>ha t (by rw[ZR];simp[Op.operands,Call.operands,ht]);have hy:∀ t,y = .tmp t->e t=e2 t:=fun t ht=>ha t (by rw[ZR];simp[Op.operands,Call.operands,ht]);exact⟨x,y,off,n,v,ty,sz,els,news,c,h1,by rw[<- cI hx];exact h2,by rw[<- cI hy];exact h3,h4,by rw[hr];exact h5,by rw[HV h4 hs];exact h6,h7,h8⟩
theorem AV.xy (r r':Nat) (x:AV):(x.kill r).kill r'=(x.kill r').kill r:=by
 have key:∀ n,∀ x:AV,SizeOf.sizeOf x < n->(x.kill r).kill r'=(x.kill r').kill r:=by
  intro n
  induction n with
  | zero=>intro x h;omega
  | succ n ih=>
   intro x h
   have go:∀ l:List AV,SizeOf.sizeOf l < n->(l.map (AV.kill r)).map (AV.kill r')=(l.map (AV.kill r')).map (AV.kill r):=by
    intro l
    induction l with
    | nil=>intro _;rfl
    | cons y l uj=>
     intro hl;simp only[List.cons.sizeOf_spec]at hl;simp only[List.map_cons,List.cons.injEq];exact⟨ih y (by omega),uj (by omega)⟩
   cases x with
   | d x=>simp[AV.kill]
   | own q off n=>by_cases h1:q=r<;>by_cases h2:q=r'<;>simp[AV.kill,h1,h2]<;>(try (by_cases h3:r=r'<;>simp[AV.kill,h3]))<;>(try simp_all [AV.kill])
   | ref q e j=>by_cases h1:q=r<;>by_cases h2:q=r'<;>simp[AV.kill,h1,h2]<;>(try (by_cases h3:r=r'<;>simp[AV.kill,h3]))<;>(try simp_all [AV.kill])
   | agg cells=>simp at h;simp only[AV.kill,AV.go_eq];rw[go cells (by omega)]
   | aT cells=>simp at h;simp only[AV.kill,AV.go_eq];rw[go cells (by omega)]
   | bh t x=>simp at h;simp only[AV.kill];rw[ih x (by omega)]
   | bm t x=>simp at h;simp only[AV.kill];rw[ih x (by omega)]
   | fn f cells=>simp at h;simp only[AV.kill,AV.go_eq];rw[go cells (by omega)]
   | mp q=>by_cases h1:q=r<;>by_cases h2:q=r'<;>simp[AV.kill,h1,h2]<;>(try (by_cases h3:r=r'<;>simp[AV.kill,h3]))<;>(try simp_all [AV.kill])
   | dead=>simp[AV.kill]
 exact key _ x (Nat.lt_succ_self _)
theorem Sw (r r':Nat) (e:Env):ch r' (ch r e)=ch r (ch r' e):=by
 funext i;simp only[ch,Option.map_map];congr 1;funext x;exact AV.xy r r' x
theorem Row.xy (r r':Nat) (x:Row):(x.kill r).kill r'=(x.kill r').kill r:=by
 cases x with
 | sl ty sz els=>rfl
 | mp ty ents=>rfl
 | it ents seen=>rfl
 | box ty cells=>
  simp only[Row.kill,List.map_map];congr 1;apply List.map_congr_left;intro x _;exact AV.xy r r' x
theorem Sz (r r':Nat) (H:Heap):Y9 r' (Y9 r H)=Y9 r (Y9 r' H):=by
 funext i;simp only[Y9,Option.map_map];congr 1;funext x;exact Row.xy r r' x
theorem xw (r:Nat) (e:Env) (d:Option Tmp) (x:AV):ch r (au e d x)=au (ch r e) d (x.kill r):=by
 cases d with
 | none=>rfl
 | some d=>funext i;simp only[ch,au,fb];split<;>rfl
def yC (r:Nat) (o:Oper) (e:Env) (x:AV):Prop:=dB o.op e (ch r e)/\x.kill r=x
theorem fZ {o:Oper} {e:Env} (h:o.guard=none):fc ops e o=some true:=by simp[fc,h]
theorem Tn {r:Nat} {l:List AV} (h:(ky l).kill r=ky l):ky (l.map (AV.kill r))=ky l:=by
 unfold ky at h ⊢;split at h
 .rename_i ds hd;rw[j9 hd]
  have:(ds.map AV.d).map (AV.kill r)=ds.map AV.d:=by simp[List.map_map,Function.comp_def,AV.kill]
  rw[this,yO]
 .rename_i hd;simp only[AV.kill,AV.go_eq,AV.agg.injEq]at h;rw[h,hd]
theorem adZ {r:Nat} {t:TypeId} {cells:List AV} {c:Prop} {x:AV} {j:Nat} (h:ka T t (cells.drop j)=some (c,x)) (hx:x.kill r=x):∃ c',ka T t ((cells.map (AV.kill r)).drop j)=some (c',x)/\(c->c'):=by
 unfold ka at h ⊢;split at h
 .cases h
 .rename_i ti ht;split at h
  .rename_i ha;rw[if_pos ha];simp only[Option.some.injEq,Prod.mk.injEq]at h;obtain⟨rfl,rfl⟩:=h;refine⟨_,?_,id⟩;rw[<- List.map_drop,<- List.map_take,List.length_map,Tn hx]
  .rename_i ha;rw[if_neg ha];simp only[Option.some.injEq,Prod.mk.injEq]at h;obtain⟨rfl,rfl⟩:=h;rw[<- List.map_drop];generalize hl:cells.drop j=l at hx
   cases l with
   | nil=>exact⟨_,rfl,fun h=>absurd rfl h⟩
   | cons y l=>
    simp only[List.headD_cons]at hx;refine⟨_,by simp only[List.map_cons,List.headD_cons,hx];rfl,fun _=>by simp⟩
theorem UL {o:Oper} {e:Env} {H:Heap} {r:Nat} {row:Row} {c:Prop} {x:AV} (Y5:∃ ty sz els,row = .sl ty sz els) (h:rd T G ⟨e,H⟩ o.op=some (c,x)) (dN:yC r o e x) :
  ∃ c',rd T G ⟨e,aF (Y9 r H) r row⟩ o.op=some (c',x)/\(c->c'):=by
 have wA:=dN.1;have hx:=dN.2;clear dN
 have free:∀ t v,Operand.tmp t∈o.op.operands->e t=some v->v.kill r=v:=by
  intro t v ht hv;have:=wA t ht;rw[hv]at this;simp only[ch,hv,Option.map_some,Option.some.injEq]at this;exact this.symm
 have ne:∀ (p:Operand) (v:AV),aU G e p=some v->p∈o.op.operands->v.kill r=v:=by
  intro p v hv hp
  cases p with
  | tmp t=>exact free t v hp hv
  | const k=>simp only[aU,Option.some.injEq]at hv;subst hv;unfold dT;split<;>rfl
  | global g=>simp only[aU,Option.map_eq_some_iff]at hv;obtain⟨d,_,rfl⟩:=hv;rfl
  | func f=>simp only[aU,Option.some.injEq]at hv;subst hv;rfl
 have aG:∀ q,q≠r->(aF (Y9 r H) r row) q=(H q).map (Row.kill r):=fun q hq=>by simp[aF,hq,Y9]
 obtain⟨dst,op,type,pos,after,guard⟩:=o;dsimp only at h free ne ⊢;by_cases hk:kindOf op=0
 .rw[ID hk _ H];exact⟨c,h,id⟩
 cases op<;>first | exact absurd rfl hk | skip
 case load t p=>
  simp only[rd]at h ⊢;obtain⟨v,hv,hl⟩:=Option.bind_eq_some_iff.1 h;rw[hv,Option.bind_some];have hf:=ne p v hv (by simp[Op.operands])
  cases v with
  | d x=>cases x<;>first | exact⟨c,hl,id⟩ | cases hl
  | own q off n=>cases hl
  | agg _=>cases hl
  | aT _=>cases hl
  | bh _ _=>cases hl
  | fn _ _=>cases hl
  | bm _ _=>cases hl
  | dead=>cases hl
  | mp _=>cases hl
  | ref q ee j=>
   simp only[iL]at hl ⊢
   have hq:q≠r:=fun e=>by simp[AV.kill,e]at hf
   rw[aG q hq]
   cases hH:H q with
   | none=>simp[hH]at hl
   | some pg=>
    cases pg with
    | sl ty sz els=>simp only[hH]at hl;simp only[Option.map_some,Row.kill];exact⟨c,hl,id⟩
    | mp ty ents=>simp[hH]at hl
    | it ents seen=>simp[hH]at hl
    | box ty cells=>
     simp only[hH]at hl;simp only[Option.map_some,Row.kill];split at hl
     .rename_i he;rw[if_pos he];exact adZ hl hx
     .cases hl
 case indexAddr t p i=>
  simp only[rd]at h ⊢;split at h
  .rename_i a b ha hb;have hf:=ne p a ha (by simp[Op.operands])
   have bb:∃ k n,b = .d (.v (.int k n)):=by
    unfold k5 at h;split at h
    .exact⟨_,_,rfl⟩
    .exact⟨_,_,rfl⟩
    .exact⟨_,_,rfl⟩
    .exact⟨_,_,rfl⟩
    .cases h
   obtain⟨k,nn,rfl⟩:=bb
   cases a with
   | d x=>cases x<;>first | exact⟨c,h,id⟩ | (cases h;done)
   | ref _ _ _=>exact⟨c,h,id⟩
   | agg _=>cases h
   | aT _=>cases h
   | bh _ _=>cases h
   | fn _ _=>cases h
   | bm _ _=>cases h
   | dead=>cases h
   | mp _=>cases h
   | own q off n=>
   unfold k5 at h ⊢
   have hq:q≠r:=fun e=>by simp[AV.kill,e]at hf
   simp only[aG q hq]
   cases hH:H q with
   | none=>simp[hH]at h
   | some pg=>
    cases pg with
    | sl ty sz els=>simp only[hH]at h;exact⟨c,h,id⟩
    | mp ty ents=>
     cases he:ke T t with
     | none=>simp[he]at h
     | some s=>simp[he,hH]at h
    | it ents seen=>
     cases he:ke T t with
     | none=>simp[he]at h
     | some s=>simp[he,hH]at h
    | box ty cells=>
     simp only[hH]at h
     cases he:ke T t with
     | none=>simp[he]at h
     | some s=>rw[he]at h;exact⟨c,h,id⟩
  .cases h
 case slice t p lo hi mx=>
  simp only[rd]at h ⊢;split at h
  .rename_i hm;rw[if_pos hm];split at h
   .rename_i v l hh h1 h2 h3;have hf:=ne p v h1 (by simp[Op.operands])
    cases v with
    | d x=>cases x with
     | v x=>cases x<;>first | exact⟨c,h,id⟩ | (cases h;done)
     | sl k els=>exact⟨c,h,id⟩
     | _=>cases h
    | ref _ _ _=>cases h
    | agg _=>cases h
    | aT _=>cases h
    | bh _ _=>cases h
    | fn _ _=>cases h
    | bm _ _=>cases h
    | dead=>cases h
    | mp _=>cases h
    | own q off n=>
    unfold abc at h ⊢;dsimp only at h ⊢
    have hq:q≠r:=fun e=>by simp[AV.kill,e]at hf
    rw[aG q hq]
    cases hH:H q with
    | none=>simp[hH]at h
    | some pg=>
     cases pg with
     | sl ty sz els=>simp only[hH]at h;exact⟨c,h,id⟩
     | mp ty ents=>simp[hH]at h
     | it ents seen=>simp[hH]at h
     | box ty cells=>simp[hH]at h
   .cases h
  .cases h
 case lookup t p i b=>
  simp only[rd]at h ⊢;split at h
  .rename_i a k ha hb;have hf:=ne p a ha (by simp[Op.operands])
   cases a with
   | mp q=>
    have hq:q≠r:=fun e=>by simp[AV.kill,e]at hf
    cases k with
    | d kx=>
     cases kx with
     | v kv=>
      simp only[jm]at h ⊢;rw[aG q hq]
      cases hH:H q with
      | none=>simp[hH]at h
      | some pg=>
       cases pg with
       | mp ty ents=>rw[hH]at h;exact⟨c,h,id⟩
       | _=>simp[hH]at h
     | _=>simp[jm]at h
    | _=>simp[jm]at h
   | d q=>
    cases q with
    | dm x ents=>
     cases k with
     | d kx=>
      cases kx with
      | v kv=>simp only[jm]at h ⊢;exact⟨c,h,id⟩
      | _=>simp[jm]at h
     | _=>simp[jm]at h
    | _=>simp[jm]at h
   | _=>simp[jm]at h
  .cases h
 case call cc=>
  obtain⟨callee,args,argTypes⟩:=cc
  cases callee with
  | builtin b=>cases b<;>first | exact absurd rfl hk | (simp[rd]at h;done)
  | _=>simp[rd]at h
 all_goals first | (simp[rd]at h;done) | skip
end
end Go.Av
namespace Go.Av
def od (av:List (Nat×List Nat)) (i:Nat):List Nat:=(av.lookup i).getD []
def Cs (o:Op):Bool:=match o with
 | .buildSlice _ _ _=>true
 | .makeSlice _ _ _=>true
 | .alloc _=>true
 | o=>decide (kindOf o<=2)
def abL (la:List (Nat×Nat×Nat)) (av:List (Nat×List Nat)) (ops:Array Oper) (i j:Nat) (oi oj:Oper):Bool:=match la.lookup i,la.lookup j with
 | none,none=>fM ops oi oj
 | none,some (r,s)=>oi.apart ops oj && Cs oi.op && !(oi.dst == some s) && !(oi.dst == some r) && (od av i).contains r
 | some (r,s),some (r',s')=>oi.apart ops oj && !(r == r') && !(s == r') && !(s' == r)
 | some _,none=>false
section
variable {P:Program} {T:Ty} {Mv X:Nat->Prop} {G:YI} {N:Fr} {ops:Array Oper} {la:List (Nat×Nat×Nat)} {av:List (Nat×List Nat)}
theorem AV.xx (r:Nat) (x:AV):(x.kill r).kill r=x.kill r:=by
 have key:∀ n,∀ x:AV,SizeOf.sizeOf x < n->(x.kill r).kill r=x.kill r:=by
  intro n
  induction n with
  | zero=>intro x h;omega
  | succ n ih=>
   intro x h
   have go:∀ l:List AV,SizeOf.sizeOf l < n->(l.map (AV.kill r)).map (AV.kill r)=l.map (AV.kill r):=by
    intro l
    induction l with
    | nil=>intro _;rfl
    | cons y l uj=>
     intro hl;simp only[List.cons.sizeOf_spec]at hl;simp only[List.map_cons,List.cons.injEq];exact⟨ih y (by omega),uj (by omega)⟩
   cases x with
   | d x=>simp[AV.kill]
   | own q off n=>by_cases h1:q=r<;>simp[AV.kill,h1]
   | ref q e j=>by_cases h1:q=r<;>simp[AV.kill,h1]
   | agg cells=>simp at h;simp only[AV.kill,AV.go_eq];rw[go cells (by omega)]
   | aT cells=>simp at h;simp only[AV.kill,AV.go_eq];rw[go cells (by omega)]
   | bh t x=>simp at h;simp only[AV.kill];rw[ih x (by omega)]
   | bm t x=>simp at h;simp only[AV.kill];rw[ih x (by omega)]
   | fn f cells=>simp at h;simp only[AV.kill,AV.go_eq];rw[go cells (by omega)]
   | mp q=>by_cases h1:q=r<;>simp[AV.kill,h1]
   | dead=>simp[AV.kill]
 exact key _ x (Nat.lt_succ_self _)
theorem Row.xx (r:Nat) (x:Row):(x.kill r).kill r=x.kill r:=by
 cases x with
 | sl ty sz els=>rfl
 | mp ty ents=>rfl
 | it ents seen=>rfl
 | box ty cells=>
  simp only[Row.kill,List.map_map];congr 1;apply List.map_congr_left;intro x _;exact AV.xx r x
theorem Mq {e:Env} {H:Heap} {r ty sz:Nat} {els:List (List D)} (d:Tmp) (hm:Mv r):aC Mv X G N ⟨fb (ch r e) d (.own r 0 els.length),aF (Y9 r H) r (.sl ty sz els)⟩ ⟨fb (ch r e) d (.d (.sl none els)),aF (Y9 r H) r (.sl ty sz [])⟩:=fun w μ a hi=>by
 have hr:aF (Y9 r H) r (.sl ty sz els) r=some (.sl ty sz els):=by simp[aF]
 have tG:(fun q=>if q=r then none else μ q)=br (dV r) μ:=by
  funext q;unfold br dV;by_cases h:q=r<;>simp[h]
 have ev:Ev Mv w μ w (br (dV r) μ):=q7 fun q _ _ hq=>by
  have e:q=r:=by simpa[dV]using hq
  exact e ▸ hm
 have aG:∀ q,q≠r->br (dV r) μ q=μ q:=fun q hq=>by simp[br,dV,hq]
 have hX:∀ b,XX X (br (dV r) μ) b->XX X μ b:=fun b=>sr
 have h1:In w X G (br (dV r) μ) N a ⟨fb (ch r e) d (.d (.sl none els)),fun q=>if q=r then none else Y9 r H q⟩:=by
  refine⟨⟨fun q row hq=>?_,fun q m hq=>?_,fun q q' m1 m2 b h1 h2 Zp c6=>hi.aL.inj q q' m1 m2 b (fG h1).2 (fG h2).2 Zp c6,fun q mq b hq hb=>hi.aL.frame q mq b (fG hq).2 hb,hi.aL.fits⟩,
   ⟨hi.env.defers,hi.env.size,fun i x hx=>?_⟩,fun g x hx=>(hi.eY g x hx).sub hX⟩
  .dsimp only at hq;split at hq
   .cases hq
   .rename_i hqr;obtain⟨m,oJ,ok⟩:=hi.aL.rows q row (by simpa[aF,hqr]using hq);obtain⟨jo,_,rfl⟩:=Option.map_eq_some_iff.1 (show (H q).map (Row.kill r)=some row from hq);refine⟨m,by rw[aG q hqr];exact oJ,?_⟩;have:=fz.keep ev aG (fun _ _=>rfl) ok
    rwa [Row.xx]at this
  .obtain⟨hk,oJ⟩:=fG hq
   have hqr:q≠r:=by simpa[dV]using hk
   obtain⟨row,Y5⟩:=hi.aL.gw q m oJ;exact⟨row,by simpa[aF,hqr]using Y5⟩
  .simp only[fb]at hx;split at hx
   .rename_i hid;subst hid;obtain rfl:=Option.some.inj hx;obtain⟨u,hu,eo⟩:=hi.env.slot i (.own r 0 els.length) (by simp[fb]);refine⟨u,hu,?_⟩;obtain⟨k,hk,_⟩:=xX hi.aL hr (by omega) eo;rw[tG]at hk;have:=RV.d (w:=w) (μ:=br (dV r) μ) hk.abd;simpa using this
   .rename_i hid;obtain⟨x0,h0,rfl⟩:=Option.map_eq_some_iff.1 (show (e i).map (AV.kill r)=some x from hx);obtain⟨u,hu,eo⟩:=hi.env.slot i (x0.kill r) (by simp[fb,hid,ch,h0]);refine⟨u,hu,?_⟩;have:=RV.keep ev aG eo
    rwa [AV.xx]at this
 obtain⟨ax,pK⟩:=h1.alloc (Mv:=Mv) (d:=r) (w':=w) (m:=⟨none,sz,0⟩) (by simp) (bT.refl w) (by simp) (row:=.sl ty sz []) fun _=>.nil rfl rfl
 have hH:aF (fun q=>if q=r then none else Y9 r H q) r (.sl ty sz [])=aF (Y9 r H) r (.sl ty sz []):=by
  funext q;by_cases h:q=r<;>simp[aF,h]
 refine⟨_,?_,ev.trans pK⟩;rw[<- hH];exact ax
def Fin (Mv:Nat->Prop) (r m:Nat) (row:Row) (y:AV) (ZJ:Row):Prop:=
 (y = .own r 0 m/\ZJ=row)\/(Mv r/\∃ ty sz els,row = .sl ty sz els/\m=els.length/\y = .d (.sl none els)/\ZJ = .sl ty sz [])
theorem Fin.row {r m:Nat} {row ZJ:Row} {y:AV} (h:Fin Mv r m row y ZJ) (Y5:∃ ty sz els,row = .sl ty sz els):∃ ty sz els,ZJ = .sl ty sz els:=by
 rcases h with⟨_,rfl⟩ | ⟨_,ty,sz,els,_,_,_,rfl⟩
 .exact Y5
 .exact⟨_,_,_,rfl⟩
theorem Fin.kill {r m q:Nat} {row ZJ:Row} {y:AV} (h:Fin Mv r m row y ZJ) (hq:r≠q):y.kill q=y:=by
 rcases h with⟨rfl,_⟩ | ⟨_,ty,sz,els,_,_,rfl,_⟩
 .simp[AV.kill,hq]
 .rfl
def abI (P:Program) (T:Ty) (Mv:Nat->Prop) (G:YI) (N:Fr) (la:List (Nat×Nat×Nat)) (av:List (Nat×List Nat)) (i:Nat) (o:Oper) (σ ag:St):Prop:=
 c8 N o/\o.guard=none/\match la.lookup i with
  | some (r,s)=>∃ m row y ZJ,fJ T G Mv o σ.env σ.H r s m row/\Fin Mv r m row y ZJ/\ag=⟨au (ch r σ.env) o.dst y,aF (Y9 r σ.H) r ZJ⟩
  | none=>kindOf o.op≠9/\∃ x H',Ex P T Mv G o σ.env σ.H x H'/\ag=⟨au σ.env o.dst x,H'⟩/\(∀ r∈od av i,yC r o σ.env x)/\(od av i≠[]->∀ c,Y0 o.op=some c->∃ y g ds,ZS G σ.env c=some (g,ds.map .d)/\aq P G g ds y/\x = .d y)
theorem abI.step {i:Nat} {o:Oper} {σ ag:St} (h:abI P T Mv G N la av i o σ ag):∃ Du,qE P T Mv G N ops o σ Du/\aC Mv X G N Du ag:=by
 obtain⟨hd,hg,h⟩:=h;split at h
 .obtain⟨m,row,y,ZJ,h1,hf,rfl⟩:=h;refine⟨_,⟨hd,.inl ⟨fZ hg,h1.to⟩⟩,?_⟩
  rcases hf with⟨rfl,rfl⟩ | ⟨hm,ty,sz,els,rfl,rfl,rfl,rfl⟩
  .exact .refl _
  .obtain⟨_,_,d,wG⟩:=h1.row;rw[wG];exact Mq d hm
 .obtain⟨_,x,H',h1,rfl,_⟩:=h;exact⟨_,⟨hd,.inl ⟨fZ hg,h1.to⟩⟩,.refl _⟩
theorem Ex.newRow {o:Oper} (hk:¬ kindOf o.op<=2) (ho:Cs o.op=true) {e:Env} {H H':Heap} {x:AV} (h:Ex P T Mv G o e H x H'):∃ d row,o.dst=some d/\H d=none/\H'=aF H d row/\(∀ q,row.kill q=row)/\∀ H2,H2 d=none->Ex P T Mv G o e H2 x (aF H2 d row):=by
 obtain⟨dst,op,type,pos,after,guard⟩:=o;dsimp only at hk ho;unfold Ex at h;unfold Ex
 cases op<;>simp only[Cs,decide_eq_true_eq]at ho<;>first | exact absurd ho hk | skip
 case alloc t=>
  simp only[Y0,Zr,if_true]at h ⊢;obtain⟨c,h1,h2⟩:=h
  cases dst with
  | none=>cases h1
  | some d=>
   simp only[wr]at h1 ⊢;split at h1
   .rename_i ti Bv;simp only[Option.some.injEq,Prod.mk.injEq,St.mk.injEq,true_and]at h1;obtain⟨rfl,rfl,rfl⟩:=h1;exact⟨d,_,rfl,h2,rfl,fun q=>by simp[Row.kill,dT,AV.kill],fun H2 h=>⟨_,rfl,h⟩⟩
   .cases h1
 case makeSlice t y z=>
  simp only[Y0,Zr,if_true]at h ⊢;obtain⟨c,h1,h2⟩:=h
  cases dst with
  | none=>cases h1
  | some d=>
   simp only[wr]at h1 ⊢;split at h1
   .split at h1
    .split at h1
     .simp only[Option.some.injEq,Prod.mk.injEq,St.mk.injEq,true_and]at h1;obtain⟨rfl,rfl,rfl⟩:=h1;exact⟨d,_,rfl,h2.1,rfl,fun _=>rfl,fun H2 h=>⟨_,rfl,h,h2.2⟩⟩
     .cases h1
    .cases h1
   .cases h1
 case buildSlice t n ps=>
  simp only[Y0,Zr,if_true]at h ⊢;obtain⟨c,h1,h2⟩:=h
  cases dst with
  | none=>cases h1
  | some d=>
   simp only[wr]at h1 ⊢;split at h1
   .split at h1
    .split at h1
     .split at h1
      .simp only[Option.some.injEq,Prod.mk.injEq,St.mk.injEq,true_and]at h1;obtain⟨rfl,rfl,rfl⟩:=h1;exact⟨d,_,rfl,h2.1,rfl,fun _=>rfl,fun H2 h=>⟨_,rfl,h,h2.2⟩⟩
      .cases h1
     .cases h1
    .cases h1
   .cases h1
theorem Hm {r q off n:Nat} {z:AV} (h:z.kill r = .own q off n):z = .own q off n:=by
 cases z<;>simp only[AV.kill,reduceCtorEq]at h
 .split at h
  .cases h
  .exact h
 .split at h<;>cases h
 .split at h<;>cases h
theorem SA {r:Nat} {x:D} {z:AV} (h:z.kill r = .d x):z = .d x:=by
 cases z<;>simp only[AV.kill,reduceCtorEq]at h
 .exact h
 .split at h<;>cases h
 .split at h<;>cases h
 .split at h<;>cases h
theorem xL {H:Heap} {r:Nat} {v:AV} {l:List (List D)} (h:aak H r v=some l):(∃ x,v = .d x)\/∃ q off n,v = .own q off n:=by
 unfold aak at h;split at h
 .exact .inl ⟨_,rfl⟩
 .exact .inr ⟨_,_,_,rfl⟩
 .cases h
theorem yM {r:Nat} {e:Env} {p:Operand}:aU G (ch r e) p=(aU G e p).map (AV.kill r):=by
 cases p with
 | tmp t=>rfl
 | const k=>simp only[aU,Option.map_some];unfold dT;split<;>rfl
 | global g=>simp only[aU,Option.map_map];rfl
 | func f=>rfl
theorem fJ.aeC {o:Oper} {e:Env} {H H2:Heap} {r s m q:Nat} {row:Row} (h:fJ T G Mv o (ch q e) H r s m row) (hr:H2 r=H r) (hs:H2 s=H s):fJ T G Mv o e H2 r s m row:=by
 obtain⟨x,y,off,n,v,ty,sz,els,news,c,h1,h2,h3,h4,h5,h6,h7,h8⟩:=h;rw[yM]at h2 h3;obtain⟨z1,rK,e1⟩:=Option.map_eq_some_iff.1 h2;obtain⟨z2,BG,e2⟩:=Option.map_eq_some_iff.1 h3;have:=Hm e1;subst this
 have hz:z2=v:=by
  rcases xL h6 with⟨x,rfl⟩ | ⟨_,_,_,rfl⟩
  .exact SA e2
  .exact Hm e2
 subst hz;exact⟨x,y,off,n,z2,ty,sz,els,news,c,h1,rK,BG,h4,by rw[hr];exact h5,by rw[HV h4 hs];exact h6,h7,h8⟩
theorem fJ.US {o:Oper} {e:Env} {H H2:Heap} {r s m q:Nat} {row:Row} (h:fJ T G Mv o e H r s m row) (hq:r≠q) (fT:s≠q) (hr:H2 r=H r) (hs:∀ ty sz els,H s=some (.sl ty sz els)->H2 s=H s):fJ T G Mv o (ch q e) H2 r s m row:=by
 obtain⟨x,y,off,n,v,ty,sz,els,news,c,h1,h2,h3,h4,h5,h6,h7,h8⟩:=h;refine⟨x,y,off,n,v,ty,sz,els,news,c,h1,by rw[yM,h2];simp[AV.kill,hq],?_,h4,by rw[hr];exact h5,?_,h7,h8⟩
 .rw[yM,h3]
  rcases xL h6 with⟨x,rfl⟩ | ⟨q',_,_,rfl⟩
  .rfl
  .simp only[abt]at h4;subst h4;simp[AV.kill,fT]
 .rcases xL h6 with⟨x,rfl⟩ | ⟨q',T0,n',rfl⟩
  .cases x<;>first | exact h6 | cases h6
  .simp only[abt]at h4;subst h4;simp only[aak]at h6 ⊢;split at h6
   .cases h6
   .rename_i aG;rw[if_neg aG];split at h6
    .rename_i JP yh iT hH;rw[hs _ _ _ hH,hH];exact h6
    .cases h6
theorem GU {H:Heap} {r d:Nat} {a b:Row} (h:d≠r):aF (aF H r a) d b=aF (aF H d b) r a:=by
 funext i;by_cases h1:i=d<;>by_cases h2:i=r<;>simp[aF,h1,h2,h,Ne.symm h]
theorem BR {H:Heap} {r d:Nat} {b:Row} (hb:b.kill r=b):Y9 r (aF H d b)=aF (Y9 r H) d b:=by
 funext i;by_cases h1:i=d<;>simp[aF,Y9,h1,hb]
theorem yN {o:Oper} {e e':Env} {r:Nat} (h:∀ t,Operand.tmp t∈o.op.operands->e' t=e t) (ha:dB o.op e (ch r e)):dB o.op e' (ch r e'):=fun t ht=>by
 have h1:=ha t ht;simp only[ch]at h1 ⊢;rw[h t ht];exact h1
theorem Tb {i j:Nat} {oi oj:Oper} (hc:abL la av ops i j oi oj=true) {σ YK dh:St} (h1:abI P T Mv G N la av i oi σ YK) (h2:abI P T Mv G N la av j oj YK dh) :
  ∃ dA,abI P T Mv G N la av j oj σ dA/\abI P T Mv G N la av i oi dA dh:=by
 obtain⟨di,gi,h1⟩:=h1;obtain⟨dj,gj,h2⟩:=h2;obtain⟨e,H⟩:=σ
 cases hli:la.lookup i with
 | none=>
  simp only[hli]at h1;obtain⟨ki,x,H1,ex1,rfl,qu,zb⟩:=h1
  cases cX:la.lookup j with
  | none=>
   simp only[cX]at h2;obtain⟨kj,y,H2,MK,rfl,xS,LI⟩:=h2;simp only[abL,hli,cX]at hc;obtain⟨H3,f1,f2⟩:=ab4 hc (x:=x) (y:=y) (e:=e) (H:=H) ⟨di,.inl ⟨fZ gi,ex1⟩⟩ ⟨dj,.inl ⟨fZ gj,MK⟩⟩ ki kj
   have ej:Ex P T Mv G oj e H y H3:=by
    rcases f1.2 with⟨_,h⟩ | ⟨h,_⟩
    .exact h
    .rw[fZ gj]at h;cases h
   have ei:Ex P T Mv G oi (au e oj.dst y) H3 x H2:=by
    rcases f2.2 with⟨_,h⟩ | ⟨h,_⟩
    .exact h
    .rw[fZ gi]at h;cases h
   simp only[fM,Bool.and_eq_true]at hc;obtain⟨a1,_,aG⟩:=eE hc.1 (e:=e) (v:=x);obtain⟨_,a2,_⟩:=eE hc.1 (e:=e) (v:=y);refine⟨⟨au e oj.dst y,H3⟩,⟨dj,gj,?_⟩,⟨di,gi,?_⟩⟩
   .simp only[cX];refine⟨kj,y,H3,ej,rfl,fun r hr=>⟨yN (e:=au e oi.dst x) (fun t ht=>(a1 t (fF ht)).symm) (xS r hr).1,(xS r hr).2⟩,fun ha c YY=>?_⟩;obtain⟨y',g,ds,ht,hp⟩:=LI ha c YY;exact⟨y',g,ds,by rw[<- ht];exact qJ fun t ht=>(a1 t (fF (by rw[(nK YY).1];exact ht))).symm,hp⟩
   .simp only[hli];refine⟨ki,x,H2,ei,by rw[dR aG],fun r hr=>⟨yN (e:=e) (fun t ht=>a2 t (fF ht)) (qu r hr).1,(qu r hr).2⟩,fun ha c YY=>?_⟩;obtain⟨y',g,ds,ht,hp⟩:=zb ha c YY;exact⟨y',g,ds,by rw[<- ht];exact qJ fun t ht=>a2 t (fF (by rw[(nK YY).1];exact ht)),hp⟩
  | some rs=>
   obtain⟨r,s⟩:=rs;simp only[cX]at h2;obtain⟨m,row,yr,ZJ,app,fin,rfl⟩:=h2;simp only[abL,hli,cX,Bool.and_eq_true,Bool.not_eq_true',beq_eq_false_iff_ne,List.contains_iff_mem]at hc;obtain⟨⟨⟨⟨ck,bp⟩,hs⟩,hr⟩,FX⟩:=hc;obtain⟨wA,hx⟩:=qu r FX;obtain⟨a1,_,aG⟩:=eE ck (e:=e) (v:=x);obtain⟨_,a2,_⟩:=eE ck (e:=ch r e) (v:=yr);obtain⟨qe,wv,_⟩:=app.row;have Y5:=fin.row qe;have cE:dB oj.op (au e oi.dst x) e:=fun t ht=>a1 t (fF ht);have e3:∀ t,Operand.tmp t∈oi.op.operands->(au (ch r e) oj.dst (yr)) t=e t:=fun t ht=>(a2 t (fF ht)).trans (wA t ht).symm
   have main:fJ T G Mv oj e H r s m row/\∃ H2,Ex P T Mv G oi e (aF (Y9 r H) r ZJ) x H2/\H2=aF (Y9 r H1) r ZJ:=by
    by_cases jd:kindOf oi.op<=2
    .have:=ex1.keeps jd;subst this;refine⟨app.congr cE rfl rfl,_,?_,rfl⟩
     cases gA:Y0 oi.op with
     | some c=>
      obtain⟨y,g,ds,ht,hp,rfl⟩:=zb (List.ne_nil_of_mem FX) c gA;unfold Ex;simp only[gA];exact⟨y,⟨g,_,ht,.inl ⟨ds,rfl,hp⟩⟩,rfl,trivial⟩
     | none=>
      unfold Ex at ex1 ⊢;simp only[gA]at ex1 ⊢
      have hw:¬ Zr oi.op=true:=fun hw=>by rcases xt hw with h | h | h<;>omega
      rw[if_neg hw]at ex1 ⊢;obtain⟨c,bq,YY,_⟩:=ex1;obtain⟨c',h',cK⟩:=UL Y5 bq ⟨wA,hx⟩;exact⟨c',h',cK YY,trivial⟩
    .obtain⟨d,pg,hd,hn,rfl,ry,bw⟩:=ex1.newRow jd bp;have hdr:d≠r:=fun e=>hr (by rw[hd,e]);have hds:d≠s:=fun e=>hs (by rw[hd,e]);refine⟨app.congr cE (by simp[aF,Ne.symm hdr]) (by simp[aF,Ne.symm hds]),_,bw _ (by simp[aF,hdr,Y9,hn]),?_⟩;rw[BR (ry r),GU hdr]
   obtain⟨vq,H2,MJ,rfl⟩:=main;refine⟨⟨au (ch r e) oj.dst (yr),aF (Y9 r H) r ZJ⟩,⟨dj,gj,?_⟩,⟨di,gi,?_⟩⟩
   .simp only[cX];exact⟨m,row,yr,ZJ,vq,fin,rfl⟩
   .simp only[hli];refine⟨ki,x,_,MJ.congr ki fun t ht=>(e3 t ht).symm,?_,fun q hq=>⟨yN e3 (qu q hq).1,(qu q hq).2⟩,fun ha c YY=>?_⟩
    .rw[xw,hx,dR aG]
    .obtain⟨y',g,ds,ht,hp⟩:=zb ha c YY;exact⟨y',g,ds,by rw[<- ht];exact qJ fun t ht=>e3 t (by rw[(nK YY).1];exact ht),hp⟩
 | some rs=>
  obtain⟨r,s⟩:=rs;simp only[hli]at h1;obtain⟨m,row,y1,XU,app,fin,rfl⟩:=h1
  cases cX:la.lookup j with
  | none=>simp[abL,hli,cX]at hc
  | some Vl=>
   obtain⟨r',s'⟩:=Vl;simp only[cX]at h2;obtain⟨m',ZJ,y2,XV,vq,zI,rfl⟩:=h2;simp only[abL,hli,cX,Bool.and_eq_true,Bool.not_eq_true',beq_eq_false_iff_ne]at hc;obtain⟨⟨⟨ck,Z1⟩,hs⟩,Bl⟩:=hc;obtain⟨a1,_,aG⟩:=eE ck (e:=ch r e) (v:=y1);obtain⟨_,a2,_⟩:=eE ck (e:=ch r' e) (v:=y2);obtain⟨⟨JQ,JG,Ew,rfl⟩,⟨t1,z1,l1,wv⟩,_⟩:=app.row;obtain⟨⟨Dd,C7,zv,rfl⟩,⟨t2,z2,l2,ad6⟩,_⟩:=vq.row;obtain⟨JR,Wk,Mw,rfl⟩:=fin.row ⟨_,_,_,rfl⟩;obtain⟨ty4,C8,zw,rfl⟩:=zI.row ⟨_,_,_,rfl⟩
   have Gm:∀ q,q≠r->∀ ty sz els,(Y9 r H) q=some (.sl ty sz els)->H q=some (.sl ty sz els):=by
    intro q _ ty sz els hq;obtain⟨jo,h0,he⟩:=Option.map_eq_some_iff.1 hq
    cases jo with
    | sl _ _ _=>rw[h0];exact congrArg some he
    | box _ _=>cases he
    | mp _ _=>cases he
    | it _ _=>cases he
   have nd:H r'=some (.sl t2 z2 l2):=Gm r' (Ne.symm Z1) _ _ _ (by simpa[aF,Ne.symm Z1]using ad6);have p1:fJ T G Mv oj (ch r e) (aF (Y9 r H) r (.sl JR Wk Mw)) r' s' m' (.sl Dd C7 zv):=vq.congr (fun t ht=>a1 t (fF ht)) rfl rfl
   have p2:fJ T G Mv oj e H r' s' m' (.sl Dd C7 zv):=by
    obtain⟨x,y,off,n,v,ty,sz,els,news,c,g1,g2,g3,g4,g5,g6,g7,g8⟩:=p1
    have A8:aak H r' v=some news:=by
     rcases xL g6 with⟨x,rfl⟩ | ⟨q',T0,n',rfl⟩
     .cases x<;>first | exact g6 | cases g6
     .simp only[abt]at g4;subst g4;simp only[aak]at g6 ⊢;split at g6
      .cases g6
      .rename_i hq;rw[if_neg hq];split at g6
       .rename_i JP yh iT e6;have:H q'=some (.sl JP yh iT):=Gm q' Bl _ _ _ (by simpa[aF,Bl]using e6);rw[this];exact g6
       .cases g6
    have:fJ T G Mv oj (ch r e) H r' s' m' (.sl Dd C7 zv):=⟨x,y,off,n,v,ty,sz,els,news,c,g1,g2,g3,g4,by rw[nd];simpa[aF,Ne.symm Z1,Y9,nd,Row.kill]using g5,A8,g7,g8⟩;exact this.aeC rfl rfl
   have q1:fJ T G Mv oi (ch r' e) (aF (Y9 r' H) r' (.sl ty4 C8 zw)) r s m (.sl JQ JG Ew):=by
    refine app.US Z1 hs ?_ fun ty sz els hh=>?_
    .simp[aF,Z1,Y9,wv,Row.kill]
    .simp[aF,hs,Y9,hh,Row.kill]
   have q2:fJ T G Mv oi (au (ch r' e) oj.dst y2) (aF (Y9 r' H) r' (.sl ty4 C8 zw)) r s m (.sl JQ JG Ew):=q1.congr (fun t ht=>(a2 t (fF ht)).symm) rfl rfl;refine⟨⟨au (ch r' e) oj.dst y2,aF (Y9 r' H) r' (.sl ty4 C8 zw)⟩,⟨dj,gj,?_⟩,⟨di,gi,?_⟩⟩
   .simp only[cX];exact⟨m',_,y2,_,p2,zI,rfl⟩
   .simp only[hli];refine⟨m,_,y1,_,q2,fin,?_⟩;have k1:AV.kill r' y1=y1:=fin.kill Z1;have k2:AV.kill r y2=y2:=zI.kill (Ne.symm Z1);rw[xw,xw,k1,k2,Sw r' r,dR aG,BR rfl,BR rfl,Sz r' r,GU Z1]
def r8 (P:Program) (T:Ty) (Mv:Nat->Prop) (G:YI) (N:Fr) (la:List (Nat×Nat×Nat)) (av:List (Nat×List Nat)) (ops:Array Oper):List Nat->St->St->Prop
 | [],σ,ag=>σ=ag
 | i :: l,σ,ag=>∃ o,ops[i]? = some o/\∃ YK,abI P T Mv G N la av i o σ YK/\r8 P T Mv G N la av ops l YK ag
theorem Vo {p:Nat} {op:Oper} (hp:ops[p]? = some op):∀ (l1:List Nat) {l2:List Nat} {σ ag:St},(∀ q∈l1,∀ oq,ops[q]? = some oq->abL la av ops q p oq op=true)->r8 P T Mv G N la av ops (l1 ++ p :: l2) σ ag->r8 P T Mv G N la av ops (p :: (l1 ++ l2)) σ ag:=by
 intro l1
 induction l1 with
 | nil=>intro l2 σ ag _ h;exact h
 | cons q l1 ih=>
  intro l2 σ ag bw h;obtain⟨oq,hq,YK,s1,rest⟩:=h;obtain⟨o',Zq,dh,s2,nQ⟩:=ih (fun q' fT=>bw q' (by simp[fT])) rest;rw[hp]at Zq;obtain rfl:=Option.some.inj Zq;obtain⟨dA,f1,f2⟩:=Tb (bw q (by simp) oq hq) s1 s2;exact⟨op,hp,dA,f1,oq,hq,dh,f2,nQ⟩
def rX (la:List (Nat×Nat×Nat)) (av:List (Nat×List Nat)) (ord:List Nat) (ops:Array Oper):Bool:=
 let t:=tb ops
 ord.length == ops.size && (ord.all fun i=>decide (i < ops.size)) && ((List.range ops.size).all fun i=>ord.contains i) && decide ord.Nodup &&
 ((List.range ops.size).all fun j=>match ops[j]? with
  | some oj=>oj.after.all fun e=>!Region.binds .any e || e.on < j
  | none=>true) &&
 go t ord
where
 go (t:List Nat):List Nat->Bool
 | []=>true
 | a :: l=>(l.all fun b=>match ops[a]?,ops[b]? with
  | some oa,some ob=>(oa.after.all fun e=>!Region.binds .any e || !(e.on == b)) && ((t.getD b 0).testBit a || abL la av ops a b oa ob)
  | _,_=>true) && go t l
def yF (la:List (Nat×Nat×Nat)) (av:List (Nat×List Nat)) (ops:Array Oper) (a b:Nat):Prop:=∀ oa ob,ops[a]? = some oa->ops[b]? = some ob->
 (∀ e∈oa.after,Region.binds .any e=true->e.on≠b)/\(((tb ops).getD b 0).testBit a=true\/abL la av ops a b oa ob=true)
theorem Ij:∀ {l:List Nat},rX.go la av ops (tb ops) l=true->l.Pairwise (yF la av ops)
 | [],_=>.nil
 | a :: l,h=>by
  simp only[rX.go,Bool.and_eq_true]at h;refine .cons (fun b hb oa ob nC nD=>?_) (Ij h.2);have:=List.all_eq_true.1 h.1 b hb;simp only[nC,nD,Bool.and_eq_true,Bool.or_eq_true]at this;refine⟨fun e he hbi heq=>?_,this.2⟩;have h1:=Array.all_eq_true_iff_forall_mem.1 this.1 e he;simp[hbi,heq]at h1
theorem sw (YJ:∀ j oj,ops[j]? = some oj->∀ e∈oj.after,Region.binds .any e=true->e.on < j) {listed:Array Bool} (gB:∀ j oj,ops[j]? = some oj->listed.getD j false=true->∀ e∈oj.after,Region.binds .any e=true->listed.getD e.on false=true) :
  ∀ (n j:Nat) (oj:Oper),j<=n->ops[j]? = some oj->(∀ e∈oj.after,Region.binds .any e=true->listed.getD e.on false=true)->∀ q,((tb ops).getD j 0).testBit q=true->listed.getD q false=true:=by
 intro n
 induction n with
 | zero=>
  intro j oj hj bf bw q hq
  have iG:j=0:=by omega
  subst iG;obtain⟨e,he,hb,_⟩:=va ops.toList [] 0 oj q (by simpa using bf) (by simpa[tb]using hq);have:=YJ 0 oj bf e he hb;omega
 | succ n ih=>
  intro j oj hj bf bw q hq;obtain⟨e,he,hb,r⟩:=va ops.toList [] j oj q (by simpa using bf) (by simpa[tb]using hq)
  rcases r with rfl | ⟨_,r⟩
  .exact bw e he hb
  .have AX:=YJ j oj bf e he hb
   have bZ:e.on < ops.size:=by have:=(Array.getElem?_eq_some_iff.1 bf).1;omega
   exact ih e.on ops[e.on] (by omega) (by simp[bZ]) (fun e' he' aH=>gB e.on _ (by simp[bZ]) (bw e he hb) e' he' aH) q (by simpa[tb]using r)
theorem KO (hg:Good P T) (YJ:∀ j oj,ops[j]? = some oj->∀ e∈oj.after,Region.binds .any e=true->e.on < j) {Q:Exit->St->Prop} {w0:World} {eV:Mu} {aY:St} (hQ:Q .normal aY):∀ (n:Nat) (R:List Nat) (listed:Array Bool) (w:World) (μ:Mu) (a:Act) (σ:St),R.length=n->R.Nodup->
  (∀ j,j∈R↔j < ops.size/\listed.getD j true=false)->listed.size=ops.size->R.Pairwise (yF la av ops)->
  (∀ j oj,ops[j]? = some oj->listed.getD j false=true->∀ e∈oj.after,Region.binds .any e=true->listed.getD e.on false=true)->r8 P T Mv G N la av ops R σ aY->In w X G μ N a σ->Ev Mv w0 eV w μ->
  wpAnyIn (wd N.ro) 0 P .any ops (After Mv X G N w0 eV Q) n listed a w:=by
 intro n
 induction n with
 | zero=>
  intro R listed w μ a σ hl _ hR aK _ _ bt hi aD;have:R=[]:=List.eq_nil_of_length_eq_zero hl;subst this
  have hr:Region.ready .any ops listed=[]:=by
   apply List.eq_nil_iff_forall_not_mem.2;intro j hj;obtain⟨h1,o,ho,_⟩:=mem_ready.1 hj;exact absurd ((hR j).2 ⟨(Array.getElem?_eq_some_iff.1 ho).1,h1⟩) (by simp)
  have:σ=aY:=bt;subst this;exact⟨hr,μ,σ,hQ,hi,aD⟩
 | succ n ih=>
  intro R listed w μ a σ hl ZT hR aK eK gB bt hi aD;refine⟨fun hr=>?_,fun i lM=>?_⟩
  .cases R with
   | nil=>simp at hl
   | cons j R=>
    obtain⟨gC,ZY⟩:=(hR j).1 (by simp)
    have bf:ops[j]? = some ops[j]:=by simp[gC]
    have hjr:j∈Region.ready .any ops listed:=by
     refine mem_ready.2 ⟨ZY,ops[j],bf,fun e he hb=>?_⟩;have oI:=YJ j ops[j] bf e he hb
     have bZ:e.on < ops.size:=by omega
     have aG:e.on ∉ (j :: R):=by
      intro hm
      rcases List.mem_cons.1 hm with h | h
      .omega
      .exact ((List.pairwise_cons.1 eK).1 _ h ops[j] ops[e.on] bf (by simp[bZ])).1 e he hb rfl
     have:=mt (hR e.on).2 aG
     have fv:e.on < listed.size:=by omega
     simp only[bZ,true_and,Array.getD_eq_getD_getElem?]at this ⊢;simp[fv]at this ⊢;exact this
    rw[hr]at hjr;cases hjr
  .obtain⟨bO,oi,bD,bw⟩:=mem_ready.1 lM;have lK:i∈R:=(hR i).2 ⟨(Array.getElem?_eq_some_iff.1 bD).1,bO⟩;obtain⟨R1,R2,rfl⟩:=List.append_of_mem lK
   have lJ:=Vo (P:=P) (T:=T) (Mv:=Mv) (G:=G) (N:=N) (la:=la) (av:=av) bD R1 (fun q hq oq ia=>by
    have nF:yF la av ops q i:=(List.pairwise_append.1 eK).2.2 q hq i (by simp)
    rcases (nF oq oi ia bD).2 with h | h
    .exfalso;have hlq:=sw YJ gB i i oi (Nat.le_refl _) bD bw q h;have e6:=((hR q).1 (by simp[hq])).2
     have lS:q < listed.size:=by have:=(Array.getElem?_eq_some_iff.1 ia).1;omega
     simp[Array.getD_eq_getD_getElem?,lS]at hlq e6;rw[hlq]at e6;cases e6
    .exact h) bt
   obtain⟨o',Zq,YK,hstep,YV⟩:=lJ;rw[bD]at Zq;obtain rfl:=Option.some.inj Zq;obtain⟨Du,Zm,himp⟩:=hstep.step (ops:=ops) (X:=X);refine qF hg Zm hi bD fun w' Xb a' Pe O0=>?_;obtain⟨ak,ax,AB⟩:=himp w' Xb a' Pe;have aaI:=O0.trans AB
   have lP:(R1 ++ R2).Nodup:=by
    have:=ZT;rw[List.nodup_append]at this ⊢;obtain⟨g1,g2,g3⟩:=this;exact⟨g1,(List.nodup_cons.1 g2).2,fun x hx y hy=>g3 x hx y (by simp[hy])⟩
   have lL:i ∉ R1 ++ R2:=by
    have:=ZT;rw[List.nodup_append]at this;obtain⟨g1,g2,g3⟩:=this;intro hm
    rcases List.mem_append.1 hm with h | h
    .exact g3 i h i (by simp) rfl
    .exact (List.nodup_cons.1 g2).1 h
   refine ih (R1 ++ R2) _ w' ak a' YK (by simp at hl ⊢;omega) lP (fun j=>?_) (by simpa using aK) ?_ ?_ YV ax (aD.trans aaI)
   .by_cases cL:j=i
    .subst cL
     have fv:j < listed.size:=by rw[aK];exact (Array.getElem?_eq_some_iff.1 bD).1
     simp[fv];simpa using lL
    .rw[getD_set_ne true (Ne.symm cL)];rw[<- hR j];simp[cL]
   .rw[List.pairwise_append]at eK ⊢;obtain⟨g1,g2,g3⟩:=eK;exact⟨g1,(List.pairwise_cons.1 g2).2,fun x hx y hy=>g3 x hx y (by simp[hy])⟩
   .intro j oj bf cX e he hb;by_cases cL:j=i
    .subst cL;rw[bD]at bf;obtain rfl:=Option.some.inj bf;exact getD_set_true (bw e he hb)
    .rw[getD_set_ne false (Ne.symm cL)]at cX;exact getD_set_true (gB j oj bf cX e he hb)
def qv (r:Nat) (e:Env):List Operand->Prop
 | []=>True
 | .tmp t :: l=>(e t).map (AV.kill r)=e t/\qv r e l
 | _ :: l=>qv r e l
theorem Cr {r:Nat} {e:Env}:∀ {l:List Operand},qv r e l->∀ t,Operand.tmp t∈l->e t=ch r e t
 | [],_,t,ht=>by cases ht
 | p :: l,h,t,ht=>by
  cases p with
  | tmp u=>
   simp only[qv]at h
   rcases List.mem_cons.1 ht with h1 | h1
   .cases h1;exact h.1.symm
   .exact Cr h.2 t h1
  | _=>
   simp only[qv]at h
   rcases List.mem_cons.1 ht with h1 | h1
   .cases h1
   .exact Cr h t h1
def o6 (rs:List Nat) (ps:List Operand) (e:Env) (x:AV):Prop:=match rs with
 | []=>True
 | r :: rs=>(qv r e ps/\x.kill r=x)/\o6 rs ps e x
theorem xU {o:Oper} {e:Env} {x:AV}:∀ {rs:List Nat},o6 rs o.op.operands.toList e x->∀ r∈rs,yC r o e x
 | [],_,r,hr=>by cases hr
 | q :: rs,h,r,hr=>by
  simp only[o6]at h
  rcases List.mem_cons.1 hr with rfl | hr
  .exact⟨fun t ht=>Cr h.1.1 t (by simpa using ht),h.1.2⟩
  .exact xU h.2 r hr
def kc (P:Program) (G:YI) (c:Call) (e:Env) (dst:Option Tmp) (H:Heap) (rs:List Nat) (ps:List Operand) (next:St->Prop):Prop:=∃ y g ds,ZS G e c=some (g,ds.map .d)/\aq P G g ds y/\o6 rs ps e (.d y)/\next ⟨au e dst (.d y),H⟩
theorem kc.mk {c:Call} {e:Env} {dst:Option Tmp} {H:Heap} {rs:List Nat} {ps:List Operand} {next:St->Prop} {g:FuncId} {xs:List AV} {ds dk:List D} {y:D} (hc:aq P G g ds y) (ht:ZS G e c=some (g,xs)) (hx:Z9 xs=some dk) (hle:D.le.go dk ds)
  (ho:o6 rs ps e (.d y)) (h:next ⟨au e dst (.d y),H⟩):kc P G c e dst H rs ps next:=⟨y,g,dk,by rw[ht,j9 hx],hc.abd hle,ho,h⟩
def zJ (Mv:Nat->Prop) (dst:Option Tmp) (r s:Nat) (z:AV) (σ:St) (next:St->Prop):Prop:=
 if s=r then match σ.H r,z with
  | some (.sl ty sz els),.own _ _ m=>Mv r/\m=els.length/\next ⟨au σ.env dst (.d (.sl none els)),aF σ.H r (.sl ty sz [])⟩
  | _,_=>False
 else next ⟨au σ.env dst z,σ.H⟩
def vr (T:Ty) (Mv:Nat->Prop) (G:YI) (o:Oper) (σ:St) (r s:Nat) (next:St->Prop):Prop:=match qX o with
 | some (x,y)=>match aU G σ.env x,aU G σ.env y with
  | some (.own q _ _),some v=>q=r/\abt s v/\match wr T G Mv σ o with
   | some (c,z,YK)=>c/\zJ Mv o.dst r s z YK next
   | none=>False
  | _,_=>False
 | none=>False
def pa (T:Ty) (G:YI) (Mv:Nat->Prop) (o:Oper) (σ:St) (rs:List Nat) (next:St->Prop):Prop:=
 if Zr o.op then match wr T G Mv σ o with
  | some (c,x,ag)=>c/\o6 rs o.op.operands.toList σ.env x/\next ⟨au ag.env o.dst x,ag.H⟩
  | none=>False
 else match rd T G σ o.op with
  | some (c,x)=>c/\o6 rs o.op.operands.toList σ.env x/\next ⟨au σ.env o.dst x,σ.H⟩
  | none=>False
def lk (P:Program) (T:Ty) (Mv:Nat->Prop) (G:YI) (N:Fr) (la:List (Nat×Nat×Nat)) (av:List (Nat×List Nat)) (K:St->Prop):List (Nat×Oper)->St->Prop
 | [],σ=>K σ
 | (i,o) :: rest,σ=>c8 N o/\o.guard=none/\match la.lookup i with
  | some (r,s)=>vr T Mv G o σ r s (lk P T Mv G N la av K rest)
  | none=>kindOf o.op≠9/\match Y0 o.op with
   | some c=>kc P G c σ.env o.dst σ.H (od av i) o.op.operands.toList (lk P T Mv G N la av K rest)
   | none=>pa T G Mv o σ (od av i) (lk P T Mv G N la av K rest)
def YP (ops:Array Oper):List Nat->List (Nat×Oper)
 | []=>[]
 | i :: l=>match ops[i]? with
  | some o=>(i,o) :: YP ops l
  | none=>YP ops l
theorem Wc {K:St->Prop}:∀ (l:List Nat) (σ:St),(∀ i∈l,i < ops.size)->lk P T Mv G N la av K (YP ops l) σ->∃ aY,K aY/\r8 P T Mv G N la av ops l σ aY:=by
 intro l
 induction l with
 | nil=>intro σ _ h;exact⟨σ,h,rfl⟩
 | cons i l ih=>
  intro σ hl h;have hi:=hl i (by simp)
  have ho:ops[i]? = some ops[i]:=by simp[hi]
  simp only[YP,ho]at h;generalize ops[i]=o at ho h;simp only[lk]at h;obtain⟨hd,bW,h⟩:=h
  have fin:∀ YK,abI P T Mv G N la av i o σ YK->lk P T Mv G N la av K (YP ops l) YK->∃ aY,K aY/\r8 P T Mv G N la av ops (i :: l) σ aY:=fun YK hs h1=>by
   obtain⟨aY,hk,hr⟩:=ih YK (fun j hj=>hl j (by simp[hj])) h1;exact⟨aY,hk,o,ho,YK,hs,hr⟩
  cases je:la.lookup i with
  | some rs=>
   obtain⟨r,s⟩:=rs;simp only[je]at h;unfold vr at h;split at h
   .rename_i x y PR;split at h
    .rename_i q off n v hx hy;obtain⟨rfl,hs,h⟩:=h;split at h
     .rename_i c z YK hw;obtain⟨hc,h⟩:=h;obtain⟨e,H⟩:=σ;obtain⟨m,row,acp,rfl,rfl⟩:=fJ.of PR hx hy hs hw hc;unfold zJ at h;split at h
      .obtain⟨⟨ty,sz,els,rfl⟩,_⟩:=acp.row;simp only[aF,if_true]at h;obtain⟨hm,PF,h⟩:=h;refine fin _ ⟨hd,bW,?_⟩ h;simp only[je];refine⟨m,_,_,_,acp,.inr ⟨hm,ty,sz,els,rfl,PF,rfl,rfl⟩,?_⟩;congr 1;funext q';by_cases fT:q'=q<;>simp[aF,fT]
      .refine fin _ ⟨hd,bW,?_⟩ h;simp only[je];exact⟨m,row,_,_,acp,.inl ⟨rfl,rfl⟩,rfl⟩
     .exact h.elim
    .exact h.elim
   .exact h.elim
  | none=>
   simp only[je]at h;obtain⟨hk,h⟩:=h;split at h
   .rename_i c hc;obtain⟨y,g,ds,ht,hp,dN,h⟩:=h;refine fin _ ⟨hd,bW,?_⟩ h;simp only[je];refine⟨hk,.d y,σ.H,?_,rfl,xU dN,fun _ c' cg=>?_⟩
    .unfold Ex;simp only[hc];exact⟨y,⟨g,_,ht,.inl ⟨ds,rfl,hp⟩⟩,rfl,trivial⟩
    .rw[hc]at cg;obtain rfl:=Option.some.inj cg;exact⟨y,g,ds,ht,hp,rfl⟩
   .rename_i hc;unfold pa at h;split at h
    .rename_i hw;split at h
     .rename_i c x YK h1;obtain⟨YY,dN,h⟩:=h;have he:=si hk h1;obtain⟨e,H⟩:=σ;obtain⟨e1,H1⟩:=YK;dsimp only at he;subst he;refine fin _ ⟨hd,bW,?_⟩ h;simp only[je];refine⟨hk,x,H1,?_,rfl,xU dN,fun _ c' cg=>?_⟩
      .unfold Ex;simp only[hc];rw[if_pos hw];exact⟨c,h1,YY⟩
      .rw[hc]at cg;cases cg
     .exact h.elim
    .rename_i hw;split at h
     .rename_i c x h1;obtain⟨YY,dN,h⟩:=h;refine fin _ ⟨hd,bW,?_⟩ h;simp only[je];refine⟨hk,x,σ.H,?_,rfl,xU dN,fun _ c' cg=>?_⟩
      .unfold Ex;simp only[hc];rw[if_neg hw];exact⟨c,h1,YY,trivial⟩
      .rw[hc]at cg;cases cg
     .exact h.elim
theorem Dx (hg:Good P T) (hm:P.follows .mixedOrders=true) (la:List (Nat×Nat×Nat)) (av:List (Nat×List Nat)) (ord:List Nat) {id:Nat} (bp:rX la av ord ops=true) {Q:Exit->St->Prop} {σ:St} (h:lk P T Mv G N la av (fun ag=>Q .normal ag) (YP ops ord) σ):AW P Mv X G N (.region id ops true) Q σ:=fun w μ a hi=>by
 unfold rX at bp;simp only[Bool.and_eq_true]at bp;obtain⟨⟨⟨⟨⟨h1,h2⟩,h3⟩,h4⟩,h5⟩,h6⟩:=bp
 have hlen:ord.length=ops.size:=by simpa using h1
 have YJ:∀ i∈ord,i < ops.size:=fun i hi=>by simpa using List.all_eq_true.1 h2 i hi
 have bw:∀ i,i < ops.size->i∈ord:=fun i hi=>by simpa using List.all_eq_true.1 h3 i (List.mem_range.2 hi)
 have ZT:ord.Nodup:=by simpa using h4
 have abA:∀ j oj,ops[j]? = some oj->∀ e∈oj.after,Region.binds .any e=true->e.on < j:=fun j oj bf e he hb=>by
  have:=List.all_eq_true.1 h5 j (List.mem_range.2 (Array.getElem?_eq_some_iff.1 bf).1);simp only[bf]at this;have:=Array.all_eq_true_iff_forall_mem.1 this e he;simpa[hb]using this
 obtain⟨aY,hQ,bt⟩:=Wc ord σ YJ h;refine wpIn_region_any hm ?_;obtain⟨ax,aD⟩:=hi.iW (Mv:=Mv) (bT.drew w);refine KO hg abA hQ ops.size ord _ w.drew μ a σ hlen ZT (fun j=>?_) (by simp) (Ij h6) ?_ bt ax aD
 .constructor
  .intro hj;have:=YJ j hj;simp[Array.getD_eq_getD_getElem?,this]
  .intro hj;exact bw j hj.1
 .intro j oj bf cX;have hj:=(Array.getElem?_eq_some_iff.1 bf).1;simp[Array.getD_eq_getD_getElem?,hj]at cX
theorem adb (hg:Good P T) (hm:P.follows .mixedOrders=true) (la:List (Nat×Nat×Nat)) (av:List (Nat×List Nat)) (ord:List Nat) (l ns:List Nat) (hM:∀ r,ns.contains r=false->Mv r) {id:Nat} (bp:rX la av ord ops=true) {y:Code} {Q:Exit->St->Prop} {σ:St}
  (h:∀ K:St->Prop,(∀ τ:St,AW P Mv X G N y Q (τ.norm l ns)->K τ)->lk P T Mv G N la av K (YP ops ord) σ):AW P Mv X G N (.seq (.region id ops true) y) Q σ:=
 pq (Dx hg hm la av ord bp (h _ fun _ h=>h.norm l ns hM))
theorem vk (hg:Good P T) (hm:P.follows .mixedOrders=true) (la:List (Nat×Nat×Nat)) (av:List (Nat×List Nat)) (ord:List Nat) {id:Nat} (bp:rX la av ord ops=true) {Q:Exit->St->Prop} {σ:St}
  (h:∀ K:St->Prop,(∀ τ:St,Q .normal τ->K τ)->lk P T Mv G N la av K (YP ops ord) σ):AW P Mv X G N (.region id ops true) Q σ:=Dx hg hm la av ord bp (h _ fun _ h=>h)
end
end Go.Av
namespace Go.Av
section
variable {P:Program} {T:Ty} {Mv X:Nat->Prop} {G:YI} {N:Fr} {σ:St}
theorem cw (l:List (Nat×AV)) (i:Nat) (x:AV):fb (aZ l) i x=aZ ((i,x) :: l):=by
 funext j;simp only[fb,aZ,List.lookup];by_cases h:j=i
 .subst h;simp
 .have:(j == i)=false:=by simpa using h
  simp[h,this]
theorem GV (l:List (Nat×Row)) (i:Nat) (x:Row):aF (YH l) i x=YH ((i,x) :: l):=by
 funext j;simp only[aF,YH,List.lookup];by_cases h:j=i
 .subst h;simp
 .have:(j == i)=false:=by simpa using h
  simp[h,this]
theorem B4 {α β:Type} (f:α->β) (l:List (Nat×α)) (i:Nat):(l.map fun p=>(p.1,f p.2)).lookup i=(l.lookup i).map f:=by
 induction l with
 | nil=>rfl
 | cons p l ih=>
  simp only[List.map_cons,List.lookup];cases h:(i == p.1)<;>simp[ih]
theorem aer (r:Nat) (l:List (Nat×AV)):ch r (aZ l)=aZ (l.map fun p=>(p.1,p.2.kill r)):=by
 funext j;simp only[ch,aZ,B4]
theorem Sy (r:Nat) (l:List (Nat×Row)):Y9 r (YH l)=YH (l.map fun p=>(p.1,p.2.kill r)):=by
 funext j;simp only[Y9,YH,B4]
theorem Ww (o f:Nat->Nat->Nat->AV) (l:List (Nat×AV)):gN o f (aZ l)=aZ (l.map fun p=>(p.1,p.2.tr o f)):=by
 funext j;simp only[gN,aZ,B4]
theorem PL:hno=YH []:=rfl
def C0 (P:Program) (T:Ty) (Mv X:Nat->Prop) (G:YI) (N:Fr) (ops:Array Oper) (o:Oper) (σ:St) (K:St->Prop):Prop:=c8 N o/\match fc ops σ.env o with
 | some b=>if b=true then pL P T Mv X G N o σ K else K ⟨au σ.env o.dst Y2,σ.H⟩
 | none=>False
def JB (P:Program) (T:Ty) (Mv:Nat->Prop) (G:YI) (N:Fr) (ops:Array Oper) (o:Oper) (σ:St) (K:St->Prop):Prop:=c8 N o/\match fc ops σ.env o with
 | some b=>if b=true then (match Y0 o.op with
  | some c=>hZ P G c σ o.dst K
  | none=>kz T G Mv o σ K) else K ⟨au σ.env o.dst Y2,σ.H⟩
 | none=>False
def JC (P:Program) (T:Ty) (Mv:Nat->Prop) (G:YI) (N:Fr) (la:List (Nat×Nat×Nat)) (av:List (Nat×List Nat)) (i:Nat) (o:Oper) (σ:St) (K:St->Prop):Prop:=c8 N o/\o.guard=none/\match la.lookup i with
 | some (r,s)=>vr T Mv G o σ r s K
 | none=>kindOf o.op≠9/\match Y0 o.op with
  | some c=>kc P G c σ.env o.dst σ.H (od av i) o.op.operands.toList K
  | none=>pa T G Mv o σ (od av i) K
theorem aJ {ops:Array Oper} {K:St->Prop} {o:Oper} {rest:List Oper} (h:∀ K':St->Prop,(∀ τ,fH P T Mv X G N ops K rest τ->K' τ)->C0 P T Mv X G N ops o σ K'):fH P T Mv X G N ops K (o :: rest) σ:=h _ fun _ h=>h
theorem e9 {ops:Array Oper} {K:St->Prop} {o:Oper} {rest:List Oper} (h:∀ K':St->Prop,(∀ τ,jZ P T Mv G N ops K rest τ->K' τ)->JB P T Mv G N ops o σ K'):jZ P T Mv G N ops K (o :: rest) σ:=h _ fun _ h=>h
theorem YZ {ops:Array Oper} {K:St->Prop} (h:K σ):fH P T Mv X G N ops K [] σ:=h
theorem nY {ops:Array Oper} {K:St->Prop} (h:K σ):jZ P T Mv G N ops K [] σ:=h
end
end Go.Av
namespace Go.Av
theorem Wx (k:Nat->Bool) (o f:Nat->Nat->Nat->AV) (l:List (Nat×Row)):Zg k o f (YH l)=YH (l.filterMap fun p=>if k p.1=true then some (p.1,p.2.tr o f) else none):=by
 funext i;unfold Zg YH
 induction l with
 | nil=>simp
 | cons p l ih=>
  obtain⟨j,r⟩:=p;simp only[List.lookup_cons,List.filterMap_cons];by_cases hij:i=j
  .subst hij;cases hk:k i
   .simp[hk]at ih ⊢;exact ih
   .simp
  .have hb:(i == j)=false:=by simpa using hij
   rw[hb];cases hk:k j
   .simpa using ih
   .simp only[if_true,List.lookup_cons,hb];exact ih
section
variable {P:Program} {Mv X:Nat->Prop} {G:YI} {N:Fr} {w w':World} {μ:Mu} {a:Act} {σ:St}
theorem kF {T:Ty} {ops:Array Oper} {la:List (Nat×Nat×Nat)} {av:List (Nat×List Nat)} {K:St->Prop} {i:Nat} {l:List Nat} {o:Oper} (ho:ops[i]? = some o) (h:∀ K':St->Prop,(∀ τ,lk P T Mv G N la av K (YP ops l) τ->K' τ)->JC P T Mv G N la av i o σ K'):lk P T Mv G N la av K (YP ops (i :: l)) σ:=by
 have:YP ops (i :: l)=(i,o) :: YP ops l:=by simp[YP,ho]
 rw[this];exact h _ fun _ h=>h
theorem qH {T:Ty} {ops:Array Oper} {la:List (Nat×Nat×Nat)} {av:List (Nat×List Nat)} {K:St->Prop} (h:K σ):lk P T Mv G N la av K (YP ops []) σ:=h
theorem aC.pC (b j r ty sz:Nat) {e:Env} {H:Heap} {tb:TypeId} {cells:List AV} (hb:H b=some (.box tb cells)) (hr:H r=none) (hc:cells[j]? = some (.d (.sl (some false) []))) :
  aC Mv X G N ⟨e,H⟩ ⟨e,aF (aF H r (.sl ty sz [])) b (.box tb (cells.set j (.own r 0 0)))⟩:=fun w μ a hi=>by
 obtain⟨ax,ev⟩:=hi.alloc (Mv:=Mv) (w':=w) (m:=⟨none,sz,0⟩) hr (bT.refl w) (by simp) (row:=.sl ty sz []) fun _=>.nil rfl rfl
 have P5:b≠r:=fun h=>by subst h;rw[hr]at hb;cases hb
 refine⟨Zc μ r ⟨none,sz,0⟩,⟨⟨fun q row hq=>?_,fun q m hm=>?_,ax.aL.inj,ax.aL.frame,ax.aL.fits⟩,ax.env,ax.eY⟩,ev⟩
 .by_cases tP:q=b
  .subst tP;simp only[aF,if_true,Option.some.injEq]at hq;subst hq;obtain⟨m,hm,ok⟩:=ax.aL.rows q (.box tb cells) (by simp[aF,P5,hb]);refine⟨m,hm,?_⟩
   cases ok with
   | box aH hs fR hh hn eo hx=>
    refine .box aH rfl fR hh (by simpa using hn) (hx:=by simpa using hx) fun i u c hu fS=>?_;rw[List.getElem?_set]at fS;split at fS
    .rename_i hij;subst hij;split at fS
     .obtain rfl:=Option.some.inj fS;have h1:=eo j u _ hu hc;refine .own (m:=⟨none,sz,0⟩) (by simp[Zc]) (.inl ⟨rfl,?_,rfl,rfl⟩)
      rcases h1.data.lh with⟨rfl,_⟩ | ⟨_,_,_,hk,_⟩
      .rfl
      .exact absurd rfl hk
     .cases fS
    .exact eo i u c hu fS
  .exact ax.aL.rows q row (by simpa[aF,tP]using hq)
 .by_cases tP:q=b
  .exact⟨.box tb (cells.set j (.own r 0 0)),by subst tP;simp[aF]⟩
  .obtain⟨row,Y5⟩:=ax.aL.gw q m hm;exact⟨row,by simpa[aF,tP]using Y5⟩
end
end Go.Av
namespace Go.Av
section
variable {P:Program} {T:Ty} {Mv X:Nat->Prop} {G:YI} {N:Fr} {σ:St}
def cU (r r' q:Nat):Nat:=if q=r then r' else q
def gr (r r' q off n:Nat):AV:=.own (cU r r' q) off n
def gq (r r' q e j:Nat):AV:=.ref (cU r r' q) e j
def mF (r r':Nat) (μ:Mu):Mu:=fun q=>if q=r' then μ r else if q=r then none else μ q
def pd (r r':Nat) (H:Heap):Heap:=fun q=>(if q=r' then H r else if q=r then none else H q).map (Row.tr (gr r r') (gq r r'))
theorem r4 {r r' q:Nat} {m:fg} {μ:Mu} (h:mF r r' μ q=some m):∃ p,μ p=some m/\q=cU r r' p:=by
 unfold mF at h;split at h
 .rename_i e;exact⟨r,h,by simp[cU,e]⟩
 .split at h
  .cases h
  .rename_i e1 e2;exact⟨q,h,by simp[cU,e2]⟩
theorem CH {r r' p:Nat} {m:fg} {μ:Mu} (h0:μ r'=none) (h:μ p=some m):mF r r' μ (cU r r' p)=some m:=by
 unfold mF cU;by_cases e:p=r
 .subst e;simp[h]
 .have e2:p≠r':=fun e2=>by rw[e2,h0]at h;cases h
  simp[e,e2,h]
theorem In.cU {w:World} {μ:Mu} {a:Act} {r r':Nat} (hi:In w X G μ N a σ) (hH:σ.H r'=none):In w X G (mF r r' μ) N a ⟨gN (gr r r') (gq r r') σ.env,pd r r' σ.H⟩:=by
 have h0:μ r'=none:=hi.aL.mB hH;have hX:∀ b,XX X (mF r r' μ) b->XX X μ b:=fun b hb=>hb.elim .inl fun ⟨q,m,hq,gz⟩=>let ⟨p,hp,_⟩:=r4 hq;.inr ⟨p,m,hp,gz⟩;have ng:∀ {u:Value} {x:D},RD w (XX X μ) u x->RD w (XX X (mF r r' μ)) u x:=fun h=>h.mono (Nat.le_refl _) fun b _ hb=>⟨rfl,fun e=>hb (hX b e)⟩
 have s9:∀ {u:Value} {x:AV},RV w X μ u x->RV w X (mF r r' μ) u (x.tr (gr r r') (gq r r')):=fun h=>RV.tr hX (fun u q off n h=>by
  obtain⟨m,hm,hh⟩:=h.Z3
  exact .own (CH h0 hm) hh) (fun u q e j h=>by
  obtain⟨m,b,hm,hb,rfl⟩:=h.gL
  exact .ref (CH h0 hm) hb) h
 refine⟨⟨fun q row hr=>?_,fun q m hr=>?_,fun q q' m1 m2 b h1 h2 Zp c6=>?_,fun q mq b hq hb=>?_,hi.aL.fits⟩,
  ⟨hi.env.defers,hi.env.size,fun i x hx=>?_⟩,fun g x hx=>ng (hi.eY g x hx)⟩
 .obtain⟨jo,qe,rfl⟩:=Option.map_eq_some_iff.1 hr
  have:∃ p,σ.H p=some jo/\q=Go.Av.cU r r' p:=by
   split at qe
   .rename_i e;exact⟨r,qe,by simp[Go.Av.cU,e]⟩
   .split at qe
    .cases qe
    .rename_i e1 e2;exact⟨q,qe,by simp[Go.Av.cU,e2]⟩
  obtain⟨p,hp,rfl⟩:=this;obtain⟨m,hm,ok⟩:=hi.aL.rows p jo hp;refine⟨m,CH h0 hm,?_⟩
  cases ok with
  | nil h1 h2=>exact .nil h1 h2
  | sl h1 h2 h3 h4 h5 h6 h7 h8 h9=>exact .sl h1 h2 h3 h4 h5 h6 h7 h8 fun i j el c he hc=>let ⟨u,hu,hr⟩:=h9 i j el c he hc;⟨u,hu,ng hr⟩
  | box h1 h2 h3 h4 h5 h6 h7=>
   refine .box h1 rfl h3 h4 (by simpa using h5) (fun j u c hu hc=>?_) (by simpa using h7);rw[List.getElem?_map]at hc;obtain⟨c',cg,rfl⟩:=Option.map_eq_some_iff.1 hc;exact s9 (h6 j u c' hu cg)
  | mp h1 h2 h3 h4=>exact .mp h1 h2 h3 fun i e p he hp=>let ⟨a,b,c⟩:=h4 i e p he hp;⟨a,b,ng c⟩
  | it h1 h2 h3=>exact .it h1 h2 (ng h3)
 .obtain⟨p,hp,rfl⟩:=r4 hr;obtain⟨row,Y5⟩:=hi.aL.gw p m hp;refine⟨row.tr (gr r r') (gq r r'),?_⟩
  have aG:p≠r':=fun e=>by rw[e,h0]at hp;cases hp
  show pd r r' σ.H _=_;unfold pd Go.Av.cU;by_cases e:p=r
  .subst e;simp[Y5]
  .simp[e,aG,Y5]
 .obtain⟨p1,ez,rfl⟩:=r4 h1;obtain⟨p2,ZA,rfl⟩:=r4 h2;rw[hi.aL.inj p1 p2 m1 m2 b ez ZA Zp c6]
 .obtain⟨p,hp,rfl⟩:=r4 hq;exact hi.aL.frame p mq b hp hb
 .replace hx:gN (gr r r') (gq r r') σ.env i=some x:=hx;unfold gN at hx;obtain⟨x0,Nj,rfl⟩:=Option.map_eq_some_iff.1 hx;obtain⟨u,hu,hr⟩:=hi.env.slot i x0 Nj;exact⟨u,hu,s9 hr⟩
theorem aC.cU {r r':Nat} (hm:Mv r) (hH:σ.H r'=none):aC Mv X G N σ ⟨gN (gr r r') (gq r r') σ.env,pd r r' σ.H⟩:=fun w μ a hi=>
 ⟨mF r r' μ,hi.cU hH,⟨Nat.le_refl _,rfl,rfl,rfl,fun b hb hr=>⟨rfl,fun ⟨q,m,hq,gz⟩=>let ⟨p,hp,_⟩:=r4 hq;hr ⟨p,m,hp,gz⟩⟩,fun q m hq hn=>by
  have h1:q≠r:=fun e=>hn (e ▸ hm)
  have h2:q≠r':=fun e=>by rw[e,hi.aL.mB hH]at hq;cases hq
  simp only[mF,if_neg h1,if_neg h2]
  exact hq⟩⟩
theorem aC.Wu (r:Nat) {e:Env} {H:Heap} {ty:Nat} {els:List (List D)} (hH:H r=some (.sl ty 1 els)) (aG:els≠[]) (hT:ty≠D0:=by decide):aC Mv X G N ⟨e,H⟩ ⟨e,aF H r (.box ty (els.map fun el=>.d (el.headD (.v .nilFunc))))⟩:=fun w μ a hi=>by
 refine⟨μ,⟨⟨fun q row hq=>?_,fun q m hq=>?_,hi.aL.inj,hi.aL.frame,hi.aL.fits⟩,⟨hi.env.defers,hi.env.size,hi.env.slot⟩,hi.eY⟩,.refl _ w μ⟩
 .replace hq:aF H r _ q=some row:=hq;unfold aF at hq;split at hq
  .rename_i e;subst e;obtain rfl:=Option.some.inj hq;obtain⟨m,hm,ok⟩:=hi.aL.rows q _ hH;refine⟨m,hm,?_⟩
   cases ok with
   | nil h1 h2=>exact absurd rfl aG
   | sl h1 h2 h3 h4 h5 h6 h7 h8 h9=>
    refine .box h1 rfl h6 h3 (by simp;omega) (hx:=fun e=>absurd e hT) fun j u c hu hc=>?_;rw[List.getElem?_map]at hc;obtain⟨el,aN,rfl⟩:=Option.map_eq_some_iff.1 hc;have hl:=h7 el (List.mem_of_getElem? aN)
    match el,hl with
    | [c],_=>
     obtain⟨u',hu',bq⟩:=h9 j 0 [c] c aN rfl;simp only[Nat.mul_one,Nat.add_zero]at hu';rw[hu]at hu';obtain rfl:=Option.some.inj hu';exact .d bq
  .exact hi.aL.rows q row hq
 .obtain⟨row,Y5⟩:=hi.aL.gw q m hq;by_cases e:q=r
  .exact⟨_,if_pos e⟩
  .exact⟨row,(if_neg e).trans Y5⟩
end
end Go.Av
namespace Go.Av
def rM:Op->Bool
 | .load _ _=>true
 | .indexAddr _ _ _=>true
 | .slice _ _ _ _ _=>true
 | .store _ _ _=>true
 | .mapUpdate _ _ _ _=>true
 | _=>false
def mg (r:Nat):AV->Prop
 | .ref q _ _=>q=r
 | .own q _ _=>q=r
 | .d _=>True
 | _=>False
def o7 (G:YI) (e:Env) (o:Op) (r:Nat):Prop:=match o with
 | .load _ p=>match aU G e p with
  | some v=>mg r v
  | none=>False
 | .indexAddr _ p _=>match aU G e p with
  | some v=>mg r v
  | none=>False
 | .slice _ p _ _ _=>match aU G e p with
  | some v=>mg r v
  | none=>False
 | .store _ p _=>match aU G e p with
  | some (.ref q _ _)=>q=r
  | _=>False
 | .mapUpdate _ p _ _=>match aU G e p with
  | some (.mp q)=>q=r
  | _=>False
 | _=>False
def ll (G:YI) (fp:List (Nat×Nat)) (e:Env) (i:Nat) (o:Op):Prop:=match fp.lookup i with
 | some r=>o7 G e o r
 | none=>True
def pE (fp:List (Nat×Nat)) (ops:Array Oper) (i j:Nat) (oi oj:Oper):Bool:=fM ops oi oj || (oi.apart ops oj && rM oi.op && rM oj.op && match fp.lookup i,fp.lookup j with
 | some r,some r'=>!(r == r')
 | _,_=>false)
section
variable {P:Program} {T:Ty} {Mv X:Nat->Prop} {G:YI} {N:Fr} {ops:Array Oper} {fp:List (Nat×Nat)}
def gp (H:Heap) (r:Nat):Option Row->Heap
 | none=>H
 | some row=>aF H r row
theorem ac3 {H:Heap} {r q:Nat} {u:Option Row} (h:q≠r):gp H r u q=H q:=by
 cases u with
 | none=>rfl
 | some row=>simp[gp,aF,h]
theorem Iw {H:Heap} {r q:Nat} {u v:Option Row} (h:r≠q):gp (gp H r u) q v=gp (gp H q v) r u:=by
 cases u<;>cases v<;>try rfl
 funext i;by_cases h1:i=r<;>by_cases h2:i=q<;>simp[gp,aF,h1,h2,h,Ne.symm h]
theorem S7 {H H2:Heap} {t:TypeId} {v:AV} {r:Nat} (hv:mg r v) (h:H2 r=H r):iL T H2 t v=iL T H t v:=by
 cases v with
 | d x=>cases x<;>rfl
 | ref q ee j=>simp only[mg]at hv;subst hv;simp only[iL,h]
 | own q off n=>rfl
 | _=>exact hv.elim
theorem QP {H H2:Heap} {t:TypeId} {v y:AV} {r:Nat} (hv:mg r v) (h:H2 r=H r):k5 T H2 t v y=k5 T H t v y:=by
 cases v with
 | d x=>cases x<;>(cases y<;>first | rfl | (rename_i z;cases z<;>first | rfl | (rename_i z;cases z<;>rfl)))
 | ref q ee j=>cases y<;>first | rfl | (rename_i z;cases z<;>first | rfl | (rename_i z;cases z<;>rfl))
 | own q off n=>
  simp only[mg]at hv;subst hv
  cases y with
  | d z=>cases z with
   | v z=>cases z<;>first | rfl | simp only[k5,h]
   | _=>rfl
  | _=>rfl
 | _=>exact hv.elim
theorem VM {H H2:Heap} {t:TypeId} {v:AV} {lo hi:Option Int} {r:Nat} (hv:mg r v) (h:H2 r=H r):abc T H2 t v lo hi=abc T H t v lo hi:=by
 cases v with
 | d x=>cases x<;>first | rfl | (rename_i z;cases z<;>rfl)
 | ref q ee j=>rfl
 | own q off n=>simp only[mg]at hv;subst hv;simp only[abc,h]
 | _=>exact hv.elim
theorem Ex.vb {o:Oper} {e:Env} {H H':Heap} {x:AV} {r:Nat} (ht:o7 G e o.op r) (h:Ex P T Mv G o e H x H') :
  ∃ u,H'=gp H r u/\∀ H2,H2 r=H r->Ex P T Mv G o e H2 x (gp H2 r u):=by
 obtain⟨dst,op,type,pos,after,guard⟩:=o;dsimp only at ht;cases op<;>simp only[o7]at ht
 case load t p=>
  split at ht
  .rename_i v hp;refine⟨none,?_,fun H2 h2=>?_⟩
   .unfold Ex at h;simp only[Y0,Zr,Bool.false_eq_true,if_false]at h;obtain⟨c,_,_,rfl⟩:=h;rfl
   .unfold Ex at h ⊢;simp only[Y0,Zr,Bool.false_eq_true,if_false]at h ⊢;obtain⟨c,h1,h3,rfl⟩:=h;refine⟨c,?_,h3,rfl⟩;simp only[rd,hp,Option.bind_some]at h1 ⊢;rw[S7 ht h2];exact h1
  .exact ht.elim
 case indexAddr t p y=>
  split at ht
  .rename_i v hp;refine⟨none,?_,fun H2 h2=>?_⟩
   .unfold Ex at h;simp only[Y0,Zr,Bool.false_eq_true,if_false]at h;obtain⟨c,_,_,rfl⟩:=h;rfl
   .unfold Ex at h ⊢;simp only[Y0,Zr,Bool.false_eq_true,if_false]at h ⊢;obtain⟨c,h1,h3,rfl⟩:=h;refine⟨c,?_,h3,rfl⟩;simp only[rd,hp]at h1 ⊢
    cases hy:aU G e y with
    | none=>simp[hy]at h1
    | some b=>simp only[hy]at h1 ⊢;rw[QP ht h2];exact h1
  .exact ht.elim
 case slice t p lo hi mx=>
  split at ht
  .rename_i v hp;refine⟨none,?_,fun H2 h2=>?_⟩
   .unfold Ex at h;simp only[Y0,Zr,Bool.false_eq_true,if_false]at h;obtain⟨c,_,_,rfl⟩:=h;rfl
   .unfold Ex at h ⊢;simp only[Y0,Zr,Bool.false_eq_true,if_false]at h ⊢;obtain⟨c,h1,h3,rfl⟩:=h;refine⟨c,?_,h3,rfl⟩;simp only[rd,hp]at h1 ⊢;by_cases dG:mx.isNone=true
    .rw[if_pos dG]at h1 ⊢
     cases tD:bound G e lo with
     | none=>simp[tD]at h1
     | some l=>
      cases wP:bound G e hi with
      | none=>simp[tD,wP]at h1
      | some l2=>simp only[tD,wP]at h1 ⊢;rw[VM ht h2];exact h1
    .rw[if_neg dG]at h1;cases h1
  .exact ht.elim
 case store t p y=>
  split at ht
  .rename_i q ee j hp;subst ht;unfold Ex at h;simp only[Y0,Zr,if_true]at h;obtain⟨c,h1,h3⟩:=h
   cases dst with
   | some d=>simp[wr]at h1
   | none=>
    simp only[wr,hp]at h1
    cases hy:aU G e y with
    | none=>simp[hy]at h1
    | some v=>
     simp only[hy]at h1;split at h1
     .rename_i ty cells hr;split at h1
      .rename_i he;split at h1
       .rename_i c' oh hs;simp only[Option.some.injEq,Prod.mk.injEq,St.mk.injEq,true_and]at h1;obtain⟨rfl,rfl,rfl⟩:=h1;refine⟨some (.box ty oh),rfl,fun H2 h2=>?_⟩;unfold Ex;simp only[Y0,Zr,if_true];exact⟨_,by simp[wr,hp,hy,h2,hr,he,hs,gp],h3⟩
       .cases h1
      .cases h1
     .rename_i ty sz els hr;split at h1
      .rename_i c' iT hs;simp only[Option.some.injEq,Prod.mk.injEq,St.mk.injEq,true_and]at h1;obtain⟨rfl,rfl,rfl⟩:=h1;refine⟨some (.sl ty sz iT),rfl,fun H2 h2=>?_⟩;unfold Ex;simp only[Y0,Zr,if_true];exact⟨_,by simp[wr,hp,hy,h2,hr,hs,gp],h3⟩
      .cases h1
     .cases h1
     .cases h1
     .cases h1
  .exact ht.elim
 case mapUpdate t p y z=>
  split at ht
  .rename_i q hp;subst ht;unfold Ex at h;simp only[Y0,Zr,if_true]at h;obtain⟨c,h1,h3⟩:=h
   cases dst with
   | some d=>simp[wr]at h1
   | none=>
    simp only[wr,hp]at h1;split at h1
    .rename_i r' key dx e1 e2 e3;simp only[Option.some.injEq,AV.mp.injEq]at e1;subst e1;split at h1
     .rename_i ty ents hr;split at h1
      .rename_i c' aab hs;simp only[Option.some.injEq,Prod.mk.injEq,St.mk.injEq,true_and]at h1;obtain⟨rfl,rfl,rfl⟩:=h1;refine⟨some (.mp ty aab),rfl,fun H2 h2=>?_⟩;unfold Ex;simp only[Y0,Zr,if_true];exact⟨_,by simp[wr,hp,e2,e3,h2,hr,hs,gp],h3⟩
      .cases h1
     .cases h1
    .cases h1
  .exact ht.elim
theorem Cu {o:Op} {e e':Env} {r:Nat} (ha:dB o e e') (h:o7 G e o r):o7 G e' o r:=by
 cases o<;>simp only[o7]at h ⊢<;>try exact h
 case load t p=>
  have:aU G e p=aU G e' p:=cI fun t ht=>ha t (by simp[Op.operands,ht]);rw[<- this];exact h
 case indexAddr t p y=>
  have:aU G e p=aU G e' p:=cI fun t ht=>ha t (by simp[Op.operands,ht]);rw[<- this];exact h
 case slice t p lo hi mx=>
  have:aU G e p=aU G e' p:=cI fun t ht=>ha t (by simp[Op.operands,ht]);rw[<- this];exact h
 case store t p y=>
  have:aU G e p=aU G e' p:=cI fun t ht=>ha t (by simp[Op.operands,ht]);rw[<- this];exact h
 case mapUpdate t p y z=>
  have:aU G e p=aU G e' p:=cI fun t ht=>ha t (by simp[Op.operands,ht]);rw[<- this];exact h
theorem ac7 {o:Op} {e e':Env} {i:Nat} (ha:dB o e e') (h:ll G fp e i o):ll G fp e' i o:=by
 unfold ll at h ⊢;split
 .rename_i r hr;simp only[hr]at h;exact Cu ha h
 .trivial
def GStep (P:Program) (T:Ty) (Mv:Nat->Prop) (G:YI) (N:Fr) (ops:Array Oper) (fp:List (Nat×Nat)) (i:Nat) (o:Oper) (σ ag:St):Prop:=qE P T Mv G N ops o σ ag/\(fc ops σ.env o=some true->ll G fp σ.env i o.op)
theorem L1 {x y:Oper} (h:fM ops x y=true):kindOf x.op≠9/\kindOf y.op≠9:=by
 simp only[fM,Bool.and_eq_true]at h;obtain⟨_,h⟩:=h;refine⟨fun e=>by rw[e]at h;simp[nO]at h,fun e=>?_⟩;rw[e]at h
 revert h
 rcases kinds x.op with k | k | k | k | k | k<;>rw[k]<;>simp[nO]
theorem Hb {o:Op} (h:rM o=true):kindOf o≠9:=by
 unfold rM at h;split at h
 .have:=adq ‹_›;simp only[kindOf];omega
 .simp[kindOf]
 .simp[kindOf]
 .simp[kindOf]
 .simp[kindOf]
 .cases h
theorem Ni {i j:Nat} {oi oj:Oper} (hc:pE fp ops i j oi oj=true) {σ YK dh:St} (h1:GStep P T Mv G N ops fp i oi σ YK) (h2:GStep P T Mv G N ops fp j oj YK dh) :
  ∃ dA,GStep P T Mv G N ops fp j oj σ dA/\GStep P T Mv G N ops fp i oi dA dh:=by
 have hk:kindOf oi.op≠9/\kindOf oj.op≠9:=by
  simp only[pE,Bool.or_eq_true,Bool.and_eq_true]at hc
  rcases hc with hc | ⟨⟨⟨_,h3⟩,h4⟩,_⟩
  .exact L1 hc
  .exact⟨Hb h3,Hb h4⟩
 obtain⟨hki,p8⟩:=hk;obtain⟨s1,t1⟩:=h1;obtain⟨s2,t2⟩:=h2;obtain⟨x,H1,u7,rfl⟩:=(nR hki).1 s1;obtain⟨y,H2,qG,rfl⟩:=(nR p8).1 s2;obtain⟨e,H⟩:=σ;dsimp only at s1 s2 u7 qG t1 t2 ⊢
 have ck:oi.apart ops oj=true:=by
  simp only[pE,fM,Bool.or_eq_true,Bool.and_eq_true]at hc
  rcases hc with hc | hc
  .exact hc.1
  .exact hc.1.1.1
 obtain⟨a1,_,aG⟩:=eE ck (e:=e) (v:=x);obtain⟨_,a2,_⟩:=eE ck (e:=e) (v:=y);have wj:=ym (o:=oj) (e:=au e oi.dst x) (e':=e) a1;have wi:=ym (o:=oi) (e:=au e oj.dst y) (e':=e) a2;have cE:dB oj.op (au e oi.dst x) e:=fun t ht=>a1 t (fF ht);have Zj:dB oi.op e (au e oj.dst y):=fun t ht=>(a2 t (fF ht)).symm
 have main:∃ H3,Sx P T Mv G N ops oj e H y H3/\Sx P T Mv G N ops oi (au e oj.dst y) H3 x H2:=by
  simp only[pE,Bool.or_eq_true,Bool.and_eq_true]at hc
  rcases hc with hc | ⟨_,p6⟩
  .exact ab4 hc u7 qG hki p8
  .cases ZF:fp.lookup i with
   | none=>simp[ZF]at p6
   | some r=>
    cases p5:fp.lookup j with
    | none=>simp[ZF,p5]at p6
    | some r'=>
     have hr:r≠r':=by simpa[ZF,p5]using p6
     obtain⟨di,u7⟩:=u7;obtain⟨dj,qG⟩:=qG;rw[wj]at qG
     rcases u7 with⟨w1,e1⟩ | ⟨w1,rfl,rfl⟩
     .have t1:=t1 w1;simp only[ll,ZF]at t1;obtain⟨u,rfl,B2⟩:=e1.vb t1
      rcases qG with⟨w2,e2⟩ | ⟨w2,rfl,rfl⟩
      .have t2:=t2 (by rw[wj];exact w2);simp only[ll,p5]at t2;have e2:=e2.congr p8 cE;obtain⟨u',rfl,B3⟩:=e2.vb (Cu cE t2);refine⟨gp H r' u',⟨dj,.inl ⟨w2,B3 H (ac3 (Ne.symm hr)).symm⟩⟩,⟨di,.inl ⟨by rw[wi];exact w1,?_⟩⟩⟩;rw[Iw hr];exact (B2 _ (ac3 hr)).congr hki Zj
      .exact⟨H,⟨dj,.inr ⟨w2,rfl,rfl⟩⟩,⟨di,.inl ⟨by rw[wi];exact w1,e1.congr hki Zj⟩⟩⟩
     .rcases qG with⟨w2,e2⟩ | ⟨w2,rfl,rfl⟩
      .exact⟨H2,⟨dj,.inl ⟨w2,e2.congr p8 cE⟩⟩,⟨di,.inr ⟨by rw[wi];exact w1,rfl,rfl⟩⟩⟩
      .exact⟨_,⟨dj,.inr ⟨w2,rfl,rfl⟩⟩,⟨di,.inr ⟨by rw[wi];exact w1,rfl,rfl⟩⟩⟩
 obtain⟨H3,f1,f2⟩:=main;refine⟨⟨au e oj.dst y,H3⟩,⟨(nR p8).2 ⟨y,H3,f1,rfl⟩,fun hw=>?_⟩,⟨(nR hki).2 ⟨x,H2,f2,by rw[dR aG]⟩,fun hw=>?_⟩⟩
 .exact ac7 cE (t2 (by rw[wj];exact hw))
 .exact ac7 Zj (t1 (by rw[<- wi];exact hw))
def r7 (P:Program) (T:Ty) (Mv:Nat->Prop) (G:YI) (N:Fr) (ops:Array Oper) (fp:List (Nat×Nat)):List Nat->St->St->Prop
 | [],σ,ag=>σ=ag
 | i :: l,σ,ag=>∃ o,ops[i]? = some o/\∃ YK,GStep P T Mv G N ops fp i o σ YK/\r7 P T Mv G N ops fp l YK ag
theorem Vn {p:Nat} {op:Oper} (hp:ops[p]? = some op):∀ (l1:List Nat) {l2:List Nat} {σ ag:St},(∀ q∈l1,∀ oq,ops[q]? = some oq->pE fp ops q p oq op=true)->r7 P T Mv G N ops fp (l1 ++ p :: l2) σ ag->r7 P T Mv G N ops fp (p :: (l1 ++ l2)) σ ag:=by
 intro l1
 induction l1 with
 | nil=>intro l2 σ ag _ h;exact h
 | cons q l1 ih=>
  intro l2 σ ag bw h;obtain⟨oq,hq,YK,s1,rest⟩:=h;obtain⟨o',Zq,dh,s2,nQ⟩:=ih (fun q' fT=>bw q' (by simp[fT])) rest;rw[hp]at Zq;obtain rfl:=Option.some.inj Zq;obtain⟨dA,f1,f2⟩:=Ni (bw q (by simp) oq hq) s1 s2;exact⟨op,hp,dA,f1,oq,hq,dh,f2,nQ⟩
def rW (fp:List (Nat×Nat)) (ops:Array Oper):Bool:=
 let t:=tb ops
 ((List.range ops.size).all fun j=>match ops[j]? with
  | some oj=>oj.after.all fun e=>!Region.binds .any e || e.on < j
  | none=>true) &&
 go t (List.range ops.size)
where
 go (t:List Nat):List Nat->Bool
 | []=>true
 | a :: l=>(l.all fun b=>match ops[a]?,ops[b]? with
  | some oa,some ob=>(oa.after.all fun e=>!Region.binds .any e || !(e.on == b)) && ((t.getD b 0).testBit a || pE fp ops a b oa ob)
  | _,_=>true) && go t l
def yE (fp:List (Nat×Nat)) (ops:Array Oper) (a b:Nat):Prop:=∀ oa ob,ops[a]? = some oa->ops[b]? = some ob->
 (∀ e∈oa.after,Region.binds .any e=true->e.on≠b)/\(((tb ops).getD b 0).testBit a=true\/pE fp ops a b oa ob=true)
theorem Ig:∀ {l:List Nat},rW.go fp ops (tb ops) l=true->l.Pairwise (yE fp ops)
 | [],_=>.nil
 | a :: l,h=>by
  simp only[rW.go,Bool.and_eq_true]at h;refine .cons (fun b hb oa ob nC nD=>?_) (Ig h.2);have:=List.all_eq_true.1 h.1 b hb;simp only[nC,nD,Bool.and_eq_true,Bool.or_eq_true]at this;refine⟨fun e he hbi heq=>?_,this.2⟩;have h1:=Array.all_eq_true_iff_forall_mem.1 this.1 e he;simp[hbi,heq]at h1
theorem KN (hg:Good P T) (YJ:∀ j oj,ops[j]? = some oj->∀ e∈oj.after,Region.binds .any e=true->e.on < j) {Q:Exit->St->Prop} {w0:World} {eV:Mu} {aY:St} (hQ:Q .normal aY):∀ (n:Nat) (R:List Nat) (listed:Array Bool) (w:World) (μ:Mu) (a:Act) (σ:St),R.length=n->R.Nodup->
  (∀ j,j∈R↔j < ops.size/\listed.getD j true=false)->listed.size=ops.size->R.Pairwise (yE fp ops)->
  (∀ j oj,ops[j]? = some oj->listed.getD j false=true->∀ e∈oj.after,Region.binds .any e=true->listed.getD e.on false=true)->r7 P T Mv G N ops fp R σ aY->In w X G μ N a σ->Ev Mv w0 eV w μ->
  wpAnyIn (wd N.ro) 0 P .any ops (After Mv X G N w0 eV Q) n listed a w:=by
 intro n
 induction n with
 | zero=>
  intro R listed w μ a σ hl _ hR aK _ _ bt hi aD;have:R=[]:=List.eq_nil_of_length_eq_zero hl;subst this
  have hr:Region.ready .any ops listed=[]:=by
   apply List.eq_nil_iff_forall_not_mem.2;intro j hj;obtain⟨h1,o,ho,_⟩:=mem_ready.1 hj;exact absurd ((hR j).2 ⟨(Array.getElem?_eq_some_iff.1 ho).1,h1⟩) (by simp)
  have:σ=aY:=bt;subst this;exact⟨hr,μ,σ,hQ,hi,aD⟩
 | succ n ih=>
  intro R listed w μ a σ hl ZT hR aK eK gB bt hi aD;refine⟨fun hr=>?_,fun i lM=>?_⟩
  .cases R with
   | nil=>simp at hl
   | cons j R=>
    obtain⟨gC,ZY⟩:=(hR j).1 (by simp)
    have bf:ops[j]? = some ops[j]:=by simp[gC]
    have hjr:j∈Region.ready .any ops listed:=by
     refine mem_ready.2 ⟨ZY,ops[j],bf,fun e he hb=>?_⟩;have oI:=YJ j ops[j] bf e he hb
     have bZ:e.on < ops.size:=by omega
     have aG:e.on ∉ (j :: R):=by
      intro hm
      rcases List.mem_cons.1 hm with h | h
      .omega
      .exact ((List.pairwise_cons.1 eK).1 _ h ops[j] ops[e.on] bf (by simp[bZ])).1 e he hb rfl
     have:=mt (hR e.on).2 aG
     have fv:e.on < listed.size:=by omega
     simp only[bZ,true_and,Array.getD_eq_getD_getElem?]at this ⊢;simp[fv]at this ⊢;exact this
    rw[hr]at hjr;cases hjr
  .obtain⟨bO,oi,bD,bw⟩:=mem_ready.1 lM;have lK:i∈R:=(hR i).2 ⟨(Array.getElem?_eq_some_iff.1 bD).1,bO⟩;obtain⟨R1,R2,rfl⟩:=List.append_of_mem lK
   have lJ:=Vn (P:=P) (T:=T) (Mv:=Mv) (G:=G) (N:=N) (fp:=fp) bD R1 (fun q hq oq ia=>by
    have nF:yE fp ops q i:=(List.pairwise_append.1 eK).2.2 q hq i (by simp)
    rcases (nF oq oi ia bD).2 with h | h
    .exfalso;have hlq:=sw YJ gB i i oi (Nat.le_refl _) bD bw q h;have e6:=((hR q).1 (by simp[hq])).2
     have lS:q < listed.size:=by have:=(Array.getElem?_eq_some_iff.1 ia).1;omega
     simp[Array.getD_eq_getD_getElem?,lS]at hlq e6;rw[hlq]at e6;cases e6
    .exact h) bt
   obtain⟨o',Zq,YK,hstep,YV⟩:=lJ;rw[bD]at Zq;obtain rfl:=Option.some.inj Zq;refine qF hg hstep.1 hi bD fun w' ak a' ax aaI=>?_
   have lP:(R1 ++ R2).Nodup:=by
    have:=ZT;rw[List.nodup_append]at this ⊢;obtain⟨g1,g2,g3⟩:=this;exact⟨g1,(List.nodup_cons.1 g2).2,fun x hx y hy=>g3 x hx y (by simp[hy])⟩
   have lL:i ∉ R1 ++ R2:=by
    have:=ZT;rw[List.nodup_append]at this;obtain⟨g1,g2,g3⟩:=this;intro hm
    rcases List.mem_append.1 hm with h | h
    .exact g3 i h i (by simp) rfl
    .exact (List.nodup_cons.1 g2).1 h
   refine ih (R1 ++ R2) _ w' ak a' YK (by simp at hl ⊢;omega) lP (fun j=>?_) (by simpa using aK) ?_ ?_ YV ax (aD.trans aaI)
   .by_cases cL:j=i
    .subst cL
     have fv:j < listed.size:=by rw[aK];exact (Array.getElem?_eq_some_iff.1 bD).1
     simp[fv];simpa using lL
    .rw[getD_set_ne true (Ne.symm cL)];rw[<- hR j];simp[cL]
   .rw[List.pairwise_append]at eK ⊢;obtain⟨g1,g2,g3⟩:=eK;exact⟨g1,(List.pairwise_cons.1 g2).2,fun x hx y hy=>g3 x hx y (by simp[hy])⟩
   .intro j oj bf cX e he hb;by_cases cL:j=i
    .subst cL;rw[bD]at bf;obtain rfl:=Option.some.inj bf;exact getD_set_true (bw e he hb)
    .rw[getD_set_ne false (Ne.symm cL)]at cX;exact getD_set_true (gB j oj bf cX e he hb)
def stepG (P:Program) (T:Ty) (Mv:Nat->Prop) (G:YI) (N:Fr) (ops:Array Oper) (fp:List (Nat×Nat)) (i:Nat) (o:Oper) (σ:St) (K:St->Prop):Prop:=c8 N o/\match fc ops σ.env o with
 | some b=>if b=true then ll G fp σ.env i o.op/\(match Y0 o.op with
  | some c=>hZ P G c σ o.dst K
  | none=>kz T G Mv o σ K) else K ⟨au σ.env o.dst Y2,σ.H⟩
 | none=>False
def sxg (P:Program) (T:Ty) (Mv:Nat->Prop) (G:YI) (N:Fr) (ops:Array Oper) (fp:List (Nat×Nat)) (K:St->Prop):Nat->List Oper->St->Prop
 | _,[],σ=>K σ
 | i,o :: rest,σ=>stepG P T Mv G N ops fp i o σ (sxg P T Mv G N ops fp K (i+1) rest)
theorem nZ {K:St->Prop} {i:Nat} {o:Oper} {rest:List Oper} {σ:St} (h:∀ K':St->Prop,(∀ τ,sxg P T Mv G N ops fp K (i+1) rest τ->K' τ)->stepG P T Mv G N ops fp i o σ K'):sxg P T Mv G N ops fp K i (o :: rest) σ:=h _ fun _ h=>h
theorem n0 {K:St->Prop} {i:Nat} {σ:St} (h:K σ):sxg P T Mv G N ops fp K i [] σ:=h
theorem Wb {K:St->Prop}:∀ (l:List Oper) (k:Nat) (σ:St),(∀ j,l[j]? = ops[k+j]?)->sxg P T Mv G N ops fp K k l σ->∃ aY,K aY/\r7 P T Mv G N ops fp (List.range' k l.length) σ aY:=by
 intro l
 induction l with
 | nil=>intro k σ _ h;exact⟨σ,h,rfl⟩
 | cons o l ih=>
  intro k σ hl h
  have h0:ops[k]? = some o:=by simpa using (hl 0).symm
  have fk:∀ j,l[j]? = ops[k+1+j]?:=fun j=>by have:=hl (j+1);simpa[Nat.add_assoc,Nat.add_comm 1 j]using this
  unfold sxg stepG at h;obtain⟨hd,h⟩:=h;rw[List.length_cons,List.range'_succ]
  have fin:∀ YK,GStep P T Mv G N ops fp k o σ YK->sxg P T Mv G N ops fp K (k+1) l YK->∃ aY,K aY/\r7 P T Mv G N ops fp (k :: List.range' (k+1) l.length) σ aY:=by
   intro YK hs hq;obtain⟨aY,hk,hr⟩:=ih (k+1) YK fk hq;exact⟨aY,hk,o,h0,YK,hs,hr⟩
  split at h
  .rename_i b hb;split at h
   .rename_i np;subst np;obtain⟨ht,h⟩:=h;split at h
    .rename_i c hc;obtain⟨y,hy,h⟩:=h;refine fin _ ⟨⟨hd,.inl ⟨hb,?_⟩⟩,fun _=>ht⟩ h;unfold iD;simp only[hc];exact⟨y,hy,rfl⟩
    .rename_i hc;unfold kz at h;split at h
     .rename_i hw;split at h
      .rename_i c x YK h1;obtain⟨YY,h⟩:=h;refine fin _ ⟨⟨hd,.inl ⟨hb,?_⟩⟩,fun _=>ht⟩ h;unfold iD;simp only[hc];rw[if_pos hw];exact⟨c,x,YK,h1,YY,rfl⟩
      .exact h.elim
     .rename_i hw;split at h
      .rename_i c x h1;obtain⟨YY,h⟩:=h;refine fin _ ⟨⟨hd,.inl ⟨hb,?_⟩⟩,fun _=>ht⟩ h;unfold iD;simp only[hc];rw[if_neg hw];exact⟨c,x,h1,YY,rfl⟩
      .exact h.elim
   .rename_i np
    have:b=false:=by simpa using np
    subst this;refine fin _ ⟨⟨hd,.inr ⟨hb,rfl⟩⟩,fun hw=>by rw[hb]at hw;cases hw⟩ h
  .exact h.elim
theorem Dw (hg:Good P T) (hm:P.follows .mixedOrders=true) (fp:List (Nat×Nat)) {id:Nat} (bp:rW fp ops=true) {Q:Exit->St->Prop} {σ:St} (h:sxg P T Mv G N ops fp (fun ag=>Q .normal ag) 0 ops.toList σ):AW P Mv X G N (.region id ops true) Q σ:=fun w μ a hi=>by
 unfold rW at bp;simp only[Bool.and_eq_true]at bp;obtain⟨h5,h6⟩:=bp
 have abA:∀ j oj,ops[j]? = some oj->∀ e∈oj.after,Region.binds .any e=true->e.on < j:=fun j oj bf e he hb=>by
  have:=List.all_eq_true.1 h5 j (List.mem_range.2 (Array.getElem?_eq_some_iff.1 bf).1);simp only[bf]at this;have:=Array.all_eq_true_iff_forall_mem.1 this e he;simpa[hb]using this
 obtain⟨aY,hQ,bt⟩:=Wb ops.toList 0 σ (by simp) h;rw[<- List.range_eq_range',Array.length_toList]at bt;refine wpIn_region_any hm ?_;obtain⟨ax,aD⟩:=hi.iW (Mv:=Mv) (bT.drew w);refine KN hg abA hQ ops.size (List.range ops.size) _ w.drew μ a σ (by simp) List.nodup_range (fun j=>?_) (by simp) (Ig h6) ?_ bt ax aD
 .simp only[List.mem_range];constructor
  .intro hj;simp[Array.getD_eq_getD_getElem?,hj]
  .exact fun hj=>hj.1
 .intro j oj bf cX;have hj:=(Array.getElem?_eq_some_iff.1 bf).1;simp[Array.getD_eq_getD_getElem?,hj]at cX
theorem Ki (hg:Good P T) (hm:P.follows .mixedOrders=true) (fp:List (Nat×Nat)) (l ns:List Nat) (hM:∀ r,ns.contains r=false->Mv r) {id:Nat} (bp:rW fp ops=true) {y:Code} {Q:Exit->St->Prop} {σ:St}
  (h:∀ K:St->Prop,(∀ τ:St,AW P Mv X G N y Q (τ.norm l ns)->K τ)->sxg P T Mv G N ops fp K 0 ops.toList σ):AW P Mv X G N (.seq (.region id ops true) y) Q σ:=
 pq (Dw hg hm fp bp (h _ fun _ h=>h.norm l ns hM))
theorem abG (hg:Good P T) (hm:P.follows .mixedOrders=true) (fp:List (Nat×Nat)) {id:Nat} (bp:rW fp ops=true) {Q:Exit->St->Prop} {σ:St}
  (h:∀ K:St->Prop,(∀ τ:St,Q .normal τ->K τ)->sxg P T Mv G N ops fp K 0 ops.toList σ):AW P Mv X G N (.region id ops true) Q σ:=Dw hg hm fp bp (h _ fun _ h=>h)
end
end Go.Av
namespace Go.Av
def eS (fx:List Nat) (r:Nat):Prop:=fx.contains r=false
instance (fx:List Nat) (r:Nat):Decidable (eS fx r):=inferInstanceAs (Decidable (_=_))
theorem cH {fx ns:List Nat} (h:fx.all ns.contains=true):∀ r,ns.contains r=false->eS fx r:=fun r hr=>by
 unfold eS
 cases hc:fx.contains r with
 | false=>rfl
 | true=>
  have:=List.all_eq_true.1 h r (List.contains_iff_mem.1 hc);rw[this]at hr;cases hr
def MC (P:Program) (G:YI) (fx:List Nat) (g:FuncId) (xs:List AV) (H:Heap) (y:AV) (H2:Heap):Prop:=fo P g/\∀ X,po P (eS fx) X G g xs H fun x H'=>x=y/\H'=H2
def Z6 (bB fx:List Nat) (q off n:Nat):AV:=if bB.contains q && !fx.contains q then .dead else .own q off n
def Z5 (bB fx:List Nat) (q e j:Nat):AV:=if bB.contains q && !fx.contains q then .dead else .ref q e j
def eh (bB:List Nat) (q:Nat):Bool:=!bB.contains q
def aav (H2 H:Heap):Heap:=fun q=>match H2 q with
 | some row=>some row
 | none=>H q
theorem Pm (l2 l:List (Nat×Row)):aav (YH l2) (YH l)=YH (l2 ++ l):=by
 funext q
 induction l2 with
 | nil=>rfl
 | cons p l2 ih=>
  unfold aav at ih ⊢;simp only[YH,List.cons_append,List.lookup]at ih ⊢;cases h:(q == p.1)<;>simp only[h]at ih ⊢;exact ih
section
variable {P:Program} {T:Ty} {Mv X:Nat->Prop} {G:YI} {N:Fr} {w:World} {μ:Mu} {a:Act} {σ:St}
theorem RV.qK {w':World} {X':Nat->Prop} {ak:Mu} {o f:Nat->Nat->Nat->AV} (hD:∀ u d,RD w (XX X μ) u d->RD w' (XX X' ak) u d) (ho:∀ u r off n,RV w X μ u (.own r off n)->RV w' X' ak u (o r off n)) (hf:∀ u r e j,RV w X μ u (.ref r e j)->RV w' X' ak u (f r e j)) :
  ∀ {v:Value} {x:AV},RV w X μ v x->RV w' X' ak v (x.tr o f):=by
 intro v x hr
 induction hr with
 | d h'=>exact .d (hD _ _ h')
 | own hm h'=>exact ho _ _ _ _ (.own hm h')
 | ref hm hb=>exact hf _ _ _ _ (.ref hm hb)
 | agg hn _ ih=>
  rw[AV.tr,AV.se];refine uz (.agg (by simpa using hn) fun j u c hu hc=>?_);rw[List.getElem?_map]at hc;obtain⟨c',cg,rfl⟩:=Option.map_eq_some_iff.1 hc;exact ih j u c' hu cg
 | aT hn _ ih=>
  rw[AV.tr,AV.se];refine xJ (.aT (by simpa using hn) fun j u c hu hc=>?_);rw[List.getElem?_map]at hc;obtain⟨c',cg,rfl⟩:=Option.map_eq_some_iff.1 hc;exact ih j u c' hu cg
 | bh _ ih=>exact Cb ih
 | bm _ ih=>exact .bm ih
 | fn hn _ ih=>
  rw[AV.tr,AV.se];refine Ca (by simpa using hn) fun j u c hu hc=>?_;rw[List.getElem?_map]at hc;obtain⟨c',cg,rfl⟩:=Option.map_eq_some_iff.1 hc;exact ih j u c' hu cg
 | mp hm hb=>
  rename_i r b m;have h0:=hf _ _ _ _ (RV.ref (e:=0) (j:=0) hm hb);unfold AV.tr;split
  .rename_i q' e' j' hq;rw[hq]at h0;obtain⟨m',b',bx,aH,e⟩:=h0.gL;simp only[Value.pointer.injEq,Option.some.injEq,Addr.mk.injEq]at e;obtain⟨rfl,_⟩:=e;exact .mp bx aH
  .exact .dead _
 | dead u=>exact .dead u
theorem RV.lift {w':World} {X':Nat->Prop} {ak:Mu} (hD:∀ u d,RD w (XX X μ) u d->RD w' (XX X' ak) u d) (Zt:∀ q m,μ q=some m->ak q=some m):∀ {v:Value} {x:AV},RV w X μ v x->RV w' X' ak v x:=by
 intro v x hr
 induction hr with
 | d h'=>exact .d (hD _ _ h')
 | own hm h'=>exact .own (Zt _ _ hm) h'
 | ref hm hb=>exact .ref (Zt _ _ hm) hb
 | agg hn _ ih=>exact .agg hn ih
 | aT hn _ ih=>exact .aT hn ih
 | bh _ ih=>exact .bh ih
 | bm _ ih=>exact .bm ih
 | fn hn _ ih=>exact .fn hn ih
 | mp hm hb=>exact .mp (Zt _ _ hm) hb
 | dead u=>exact .dead u
theorem fz.qK {w':World} {X':Nat->Prop} {ak:Mu} {o f:Nat->Nat->Nat->AV} {m:fg} (hb:∀ b,m.cZ=some b->w'.heap[b]? = w.heap[b]?) (hD:∀ u d,RD w (XX X μ) u d->RD w' (XX X' ak) u d) (hV:∀ u x,RV w X μ u x->RV w' X' ak u (x.tr o f)) {row:Row} (ok:fz w X μ m row):fz w' X' ak m (row.tr o f):=by
 cases ok with
 | nil h1 h2=>exact .nil h1 h2
 | sl h1 h2 h3 h4 h5 h6 h7 h8 h9=>exact .sl h1 h2 ((hb _ h1).trans h3) h4 h5 h6 h7 h8 fun i j el c he hc=>let ⟨u,hu,hr⟩:=h9 i j el c he hc;⟨u,hu,hD _ _ hr⟩
 | box h1 h2 h3 h4 h5 h6 h7=>
  refine .box h1 rfl h3 ((hb _ h1).trans h4) (by simpa using h5) (hx:=by simpa using h7) fun j u c hu hc=>?_;rw[List.getElem?_map]at hc;obtain⟨c',cg,rfl⟩:=Option.map_eq_some_iff.1 hc;exact hV _ _ (h6 j u c' hu cg)
 | mp h1 h2 h3 h4=>exact .mp h1 ((hb _ h1).trans h2) h3 fun i e p he hp=>let ⟨a,b,c⟩:=h4 i e p he hp;⟨a,b,hD _ _ c⟩
 | it h1 h2 h3=>exact .it h1 ((hb _ h1).trans h2) (hD _ _ h3)
theorem fz.lift {w':World} {X':Nat->Prop} {ak:Mu} {m:fg} (hb:∀ b,m.cZ=some b->w'.heap[b]? = w.heap[b]?) (hD:∀ u d,RD w (XX X μ) u d->RD w' (XX X' ak) u d) (Zt:∀ q m,μ q=some m->ak q=some m) {row:Row} (ok:fz w X μ m row):fz w' X' ak m row:=by
 cases ok with
 | nil h1 h2=>exact .nil h1 h2
 | sl h1 h2 h3 h4 h5 h6 h7 h8 h9=>exact .sl h1 h2 ((hb _ h1).trans h3) h4 h5 h6 h7 h8 fun i j el c he hc=>let ⟨u,hu,hr⟩:=h9 i j el c he hc;⟨u,hu,hD _ _ hr⟩
 | box h1 h2 h3 h4 h5 h6 h7=>exact .box h1 rfl h3 ((hb _ h1).trans h4) h5 (fun j u c hu hc=>(h6 j u c hu hc).lift hD Zt) h7
 | mp h1 h2 h3 h4=>exact .mp h1 ((hb _ h1).trans h2) h3 fun i e p he hp=>let ⟨a,b,c⟩:=h4 i e p he hp;⟨a,b,hD _ _ c⟩
 | it h1 h2 h3=>exact .it h1 ((hb _ h1).trans h2) (hD _ _ h3)
theorem mD {keep:Nat->Bool} {b:Nat} (h:eT (br keep μ) b):eT μ b:=let ⟨r,m,hr,hb⟩:=h;⟨r,m,(fG hr).2,hb⟩
theorem yL {bB:List Nat} {b:Nat}:XX (XX X (br (eh bB) μ)) (br bB.contains μ) b↔XX X μ b:=by
 constructor
 .rintro ((h | h) | h)
  .exact .inl h
  .exact .inr (mD h)
  .exact .inr (mD h)
 .rintro (h | ⟨r,m,hr,hb⟩)
  .exact .inl (.inl h)
  .cases hk:bB.contains r with
   | true=>exact .inr ⟨r,m,by simp only[br,hk,if_true];exact hr,hb⟩
   | false=>exact .inl (.inr ⟨r,m,by simp only[br,eh,hk,Bool.not_false,if_true];exact hr,hb⟩)
theorem Zf.part {H:Heap} (hs:Zf w X μ H) (bB:List Nat):Zf w (XX X (br (eh bB) μ)) (br bB.contains μ) (Zg bB.contains (cT bB) (Zi bB) H)/\
  ∀ {u:Value} {x:AV},RV w X μ u x->RV w (XX X (br (eh bB) μ)) (br bB.contains μ) u (x.tr (cT bB) (Zi bB)):=by
 have hD:∀ u d,RD w (XX X μ) u d->RD w (XX (XX X (br (eh bB) μ)) (br bB.contains μ)) u d:=fun u d h=>h.sub fun b=>yL.1
 have hV:∀ u x,RV w X μ u x->RV w (XX X (br (eh bB) μ)) (br bB.contains μ) u (x.tr (cT bB) (Zi bB)):=fun u x=>RV.qK hD (fun u r off n h=>by
   unfold cT;split
   .rename_i hk;obtain⟨m,hm,hh⟩:=h.Z3;exact .own (by simp only[br,hk,if_true];exact hm) hh
   .exact .dead u) (fun u r e j h=>by
   unfold Zi;split
   .rename_i hk;obtain⟨m,b,hm,hb,rfl⟩:=h.gL;exact .ref (by simp only[br,hk,if_true];exact hm) hb
   .exact .dead u)
 refine⟨⟨fun r row hr=>?_,fun r m hr=>?_,fun q q' m1 m2 b h1 h2 Zp c6=>hs.inj q q' m1 m2 b (fG h1).2 (fG h2).2 Zp c6,fun q m b hq hb hX=>?_,fun b hb=>hb.elim (hs.fits b) fun h=>hs.aal (mD h)⟩,fun h=>hV _ _ h⟩
 .unfold Zg at hr;split at hr
  .rename_i hk;obtain⟨jo,h0,rfl⟩:=Option.map_eq_some_iff.1 hr;obtain⟨m,hm,ok⟩:=hs.rows r jo h0;exact⟨m,by simp only[br,hk,if_true];exact hm,ok.qK (fun _ _=>rfl) hD hV⟩
  .cases hr
 .obtain⟨hk,hm⟩:=fG hr;obtain⟨row,Y5⟩:=hs.gw r m hm;exact⟨row.tr (cT bB) (Zi bB),by simp only[Zg,hk,if_true,Y5,Option.map_some]⟩
 .obtain⟨hk,hm⟩:=fG hq
  rcases hX with h | ⟨r,mr,hr,Am⟩
  .exact hs.frame q m b hm hb h
  .obtain⟨ft,rB⟩:=fG hr;have:=hs.inj q r m mr b hm rB hb Am;subst this;simp only[eh,hk,Bool.not_true,Bool.false_eq_true]at ft
theorem gS.xE {fx bB:List Nat} {g:FuncId} {Z7 xs:List AV} {H1 H2:Heap} {y:AV} (hc:MC P G fx g xs H1 y H2) (hx:Z7.map (AV.tr (cT bB) (Zi bB))=xs) (hH:Zg bB.contains (cT bB) (Zi bB) σ.H=H1)
  (hd:∀ q,(H2 q).isSome=true->bB.contains q=true\/σ.H q=none) (hm:∀ r,bB.contains r=true->fx.contains r=false->Mv r) {K:AV->St->Prop}
  (h:K y ⟨gN (Z6 bB fx) (Z5 bB fx) σ.env,aav H2 (Zg (eh bB) (Z6 bB fx) (Z5 bB fx) σ.H)⟩):gS P Mv X G N g Z7 σ K:=by
 refine⟨hc.1,fun w μ a vs hi hn hv=>?_⟩;obtain⟨dH,hv1⟩:=hi.aL.part bB;rw[hH]at dH;refine (hc.2 (XX X (br (eh bB) μ)) w (br bB.contains μ) vs dH (fun g x hx=>(hi.eY g x hx).sub fun b=>yL.1) (by rw[hn,<- hx,List.length_map]) fun i u x hu kr=>?_).mono ?_
 .rw[<- hx,List.getElem?_map]at kr;obtain⟨x0,uf,rfl⟩:=Option.map_eq_some_iff.1 kr;exact hv1 (hv i u x0 hu uf)
 .rintro e w' ⟨v,x,H',fy,rfl,⟨rfl,rfl⟩,hr,Zv,aD⟩
  have OT:∀ q m,fy q=some m->bB.contains q=true\/μ q=none:=fun q m hq=>by
   obtain⟨row,Y5⟩:=Zv.gw q m hq
   rcases hd q (by rw[Y5];rfl)with h | h
   .exact .inl h
   .exact .inr (hi.aL.mB h)
  let ak:Mu:=fun q=>match fy q with
   | some m=>some m
   | none=>br (eh bB) μ q
  have m2:∀ q m,fy q=some m->ak q=some m:=fun q m hq=>by simp only[ak,hq]
  have mr:∀ q m,bB.contains q=false->μ q=some m->ak q=some m:=fun q m hk hq=>by
   have h2:fy q=none:=by
    cases h2:fy q with
    | none=>rfl
    | some m'=>
     rcases OT q m' h2 with h | h
     .rw[hk]at h;cases h
     .rw[hq]at h;cases h
   simp only[ak,h2,br,eh,hk,Bool.not_false,if_true,hq]
  have of:∀ q m,ak q=some m->fy q=some m\/(fy q=none/\bB.contains q=false/\μ q=some m):=fun q m hq=>by
   cases h2:fy q with
   | some m'=>simp only[ak,h2]at hq;exact .inl hq
   | none=>
    simp only[ak,h2]at hq;obtain⟨hk,hm⟩:=fG hq;exact .inr ⟨rfl,by simpa[eh]using hk,hm⟩
  have same:∀ b,b < w.heap.size->¬ eT (br bB.contains μ) b->w'.heap[b]? = w.heap[b]?/\¬ eT fy b:=aD.same
  have hXX:∀ b,XX X ak b->XX (XX X (br (eh bB) μ)) fy b:=fun b hb=>by
   rcases hb with hb | ⟨q,m,hq,gz⟩
   .exact .inl (.inl hb)
   .rcases of q m hq with h2 | ⟨_,hk,hm⟩
    .exact .inr ⟨q,m,h2,gz⟩
    .exact .inl (.inr ⟨q,m,by simp only[br,eh,hk,Bool.not_false,if_true];exact hm,gz⟩)
  have hD:∀ u d,RD w (XX X μ) u d->RD w' (XX X ak) u d:=fun u d h=>h.mono aD.size fun b hb hX=>by
   obtain⟨h1,h2⟩:=same b hb fun hr=>hX (.inr (mD hr));refine⟨h1,fun Oi=>?_⟩
   rcases Oi with h | ⟨q,m,hq,gz⟩
   .exact hX (.inl h)
   .rcases of q m hq with h3 | ⟨_,_,hm⟩
    .exact h2 ⟨q,m,h3,gz⟩
    .exact hX (.inr ⟨q,m,hm,gz⟩)
  have Fp:∀ u d,RD w' (XX (XX X (br (eh bB) μ)) fy) u d->RD w' (XX X ak) u d:=fun u d h=>h.sub hXX
  have stay:∀ q m,(bB.contains q && !fx.contains q)=false->μ q=some m->ak q=some m:=fun q m hk hq=>by
   cases hl:bB.contains q with
   | false=>exact mr q m hl hq
   | true=>
    rw[hl,Bool.true_and]at hk
    have hfx:fx.contains q=true:=by simpa using hk
    exact m2 q m (aD.kept q m (by simp only[br,hl,if_true];exact hq) (by unfold eS;rw[hfx];simp))
  have hV:∀ u x,RV w X μ u x->RV w' X ak u (x.tr (Z6 bB fx) (Z5 bB fx)):=fun u x=>RV.qK hD (fun u r off n h=>by
    unfold Z6;split
    .exact .dead u
    .rename_i hk;obtain⟨m,hm,hh⟩:=h.Z3
     exact .own (stay r m (by simpa using hk) hm) hh) (fun u r e j h=>by
    unfold Z5;split
    .exact .dead u
    .rename_i hk;obtain⟨m,b,hm,hb,rfl⟩:=h.gL
     exact .ref (stay r m (by simpa using hk) hm) hb)
  refine⟨v,x,_,ak,rfl,h,⟨⟨fun q row hq=>?_,fun q m hq=>?_,fun q q' m1 mm b h1 h2 Zp c6=>?_,fun q m b hq hb=>?_,fun b hb=>Nat.lt_of_lt_of_le (hi.aL.fits b hb) aD.size⟩,⟨hi.env.defers,hi.env.size,fun i x hx=>?_⟩,fun g x hx=>hD _ _ (hi.eY g x hx)⟩,hr.lift Fp m2,aD.size,aD.os,aD.tape,aD.output,fun b hb xa=>?_,fun r m hr hn=>?_⟩
  .simp only[aav]at hq;split at hq
   .rename_i Vh h2;obtain rfl:=Option.some.inj hq;obtain⟨m,hm,ok⟩:=Zv.rows q Vh h2;exact⟨m,m2 q m hm,ok.lift (fun _ _=>rfl) Fp m2⟩
   .unfold Zg at hq;split at hq
    .rename_i hk
     have ft:bB.contains q=false:=by simpa[eh]using hk
     obtain⟨jo,h0,rfl⟩:=Option.map_eq_some_iff.1 hq;obtain⟨m,hm,ok⟩:=hi.aL.rows q jo h0;refine⟨m,mr q m ft hm,ok.qK (fun b hb=>(same b (ok.aal hb) fun ⟨r,Tr,hr',Am⟩=>?_).1) hD hV⟩;obtain⟨hkr,rB⟩:=fG hr';have:=hi.aL.inj q r m Tr b hm rB hb Am;subst this;rw[ft]at hkr;cases hkr
    .cases hq
  .simp only[aav]
   rcases of q m hq with h2 | ⟨h2,hk,hm⟩
   .obtain⟨row,Y5⟩:=Zv.gw q m h2;exact⟨row,by rw[Y5]⟩
   .have tK:H' q=none:=by
     cases hh:H' q with
     | none=>rfl
     | some row=>obtain⟨m',bx,_⟩:=Zv.rows q row hh;rw[h2]at bx;cases bx
    obtain⟨row,Y5⟩:=hi.aL.gw q m hm;exact⟨row.tr (Z6 bB fx) (Z5 bB fx),by rw[tK];simp only[Zg,eh,hk,Bool.not_false,if_true,Y5,Option.map_some]⟩
  .rcases of q m1 h1 with g1 | ⟨_,k1,g1⟩<;>rcases of q' mm h2 with g2 | ⟨_,k2,g2⟩
   .exact Zv.inj q q' m1 mm b g1 g2 Zp c6
   .exact absurd (.inr ⟨q',mm,by simp only[br,eh,k2,Bool.not_false,if_true];exact g2,c6⟩) (Zv.frame q m1 b g1 Zp)
   .exact absurd (.inr ⟨q,m1,by simp only[br,eh,k1,Bool.not_false,if_true];exact g1,Zp⟩) (Zv.frame q' mm b g2 c6)
   .exact hi.aL.inj q q' m1 mm b g1 g2 Zp c6
  .rcases of q m hq with g1 | ⟨_,k1,g1⟩
   .exact fun hX=>Zv.frame q m b g1 hb (.inl hX)
   .exact hi.aL.frame q m b g1 hb
  .replace hx:gN (Z6 bB fx) (Z5 bB fx) σ.env i=some x:=hx;unfold gN at hx;obtain⟨x0,h0,rfl⟩:=Option.map_eq_some_iff.1 hx;obtain⟨u,hu,hr⟩:=hi.env.slot i x0 h0;exact⟨u,hu,hV _ _ hr⟩
  .obtain⟨h1,h2⟩:=same b hb fun hr=>xa (mD hr);refine⟨h1,fun ⟨q,m,hq,gz⟩=>?_⟩
   rcases of q m hq with h3 | ⟨_,_,hm⟩
   .exact h2 ⟨q,m,h3,gz⟩
   .exact xa ⟨q,m,hm,gz⟩
  .cases hl:bB.contains r with
   | false=>exact mr r m hl hr
   | true=>
    cases hf:fx.contains r with
    | false=>exact absurd (hm r hl hf) hn
    | true=>exact stay r m (by rw[hl,hf];rfl) hr
theorem bU.xE {fx:List Nat} {g:FuncId} {Z7 xs:List AV} {H1 H2:Heap} {y:AV} {dst:Option Tmp} {next:St->Prop} (bB:List Nat) (hc:MC P G fx g xs H1 y H2) (hx:Z7.map (AV.tr (cT bB) (Zi bB))=xs) (hH:Zg bB.contains (cT bB) (Zi bB) σ.H=H1)
  (hd:∀ q,(H2 q).isSome=true->bB.contains q=true\/σ.H q=none) (hm:∀ r,bB.contains r=true->fx.contains r=false->Mv r)
  (h:next ⟨au (gN (Z6 bB fx) (Z5 bB fx) σ.env) dst y,aav H2 (Zg (eh bB) (Z6 bB fx) (Z5 bB fx) σ.H)⟩):bU P Mv X G N g Z7 σ dst next:=
 gS.xE hc hx hH hd hm h
theorem bU.mc {fx:List Nat} {g:FuncId} {Z7 xs:List AV} {bg Zs:List (Nat×Row)} {y:AV} {dst:Option Tmp} {next:St->Prop} (hc:MC P G fx g xs (YH bg) y (YH Zs)) (hx:Z7.map (AV.tr (cT (bg.map (·.1))) (Zi (bg.map (·.1))))=xs)
  (hH:∀ p∈bg,(σ.H p.1).map (Row.tr (cT (bg.map (·.1))) (Zi (bg.map (·.1))))=YH bg p.1) (hd:∀ p∈Zs,(bg.map (·.1)).contains p.1=true\/σ.H p.1=none) (hm:∀ r∈bg.map (·.1),fx.contains r=false->Mv r)
  (h:next ⟨au (gN (Z6 (bg.map (·.1)) fx) (Z5 (bg.map (·.1)) fx) σ.env) dst y,aav (YH Zs) (Zg (eh (bg.map (·.1))) (Z6 (bg.map (·.1)) fx) (Z5 (bg.map (·.1)) fx) σ.H)⟩):bU P Mv X G N g Z7 σ dst next:=by
 refine gS.xE hc hx (funext (x8 hH)).symm (fun q hq=>?_) (fun r hr=>hm r (List.contains_iff_mem.1 hr)) h
 have nB:∀ l:List (Nat×Row),(YH l q).isSome=true->∃ p∈l,p.1=q:=by
  intro l
  induction l with
  | nil=>intro h;simp[YH]at h
  | cons p l ih=>
   intro h;simp only[YH,List.lookup]at h
   cases lR:(q == p.1) with
   | true=>exact⟨p,by simp,by simpa using (beq_iff_eq.1 lR).symm⟩
   | false=>
    rw[lR]at h;obtain⟨p',h1,h2⟩:=ih h;exact⟨p',by simp[h1],h2⟩
 obtain⟨p,hp,rfl⟩:=nB Zs hq;exact hd p hp
def x6 (names:List Nat) (x y:AV):Prop:=match x.tr (cT names) (Zi names),y with
 | .d d',.d d=>d'.le d
 | p,q=>p=q
def vR (T:Ty) (rs:List ResultVar) (y:AV) (rows:List (Nat×Row)) (σ:St):Prop:=match abU T σ rs with
 | some (c,vs)=>c/\x6 (rows.map (·.1)) (oneOf vs) y/\∀ p∈rows,(σ.H p.1).map (Row.tr (cT (rows.map (·.1))) (Zi (rows.map (·.1))))=YH rows p.1
 | none=>False
def DU (T:Ty) (rs:List ResultVar) (y:AV) (rows:List (Nat×Row)):Exit->St->Prop
 | .normal,σ | .ret,σ=>vR T rs y rows σ
 | _,_=>False
theorem U0 {names:List Nat} {x y:AV} {u:Value} (h:x6 names x y) (hr:RV w X μ u (x.tr (cT names) (Zi names))):RV w X μ u y:=by
 unfold x6 at h;split at h
 .rename_i d' d hx;rw[hx]at hr;exact .d (hr.data.le h)
 .rw[<- h];exact hr
theorem MC.aI (hg:Good P T) {g:FuncId} {fn:Func} {c:Code} {rs:List ResultVar} {xs:List AV} {H:Heap} {y:AV} {rows:List (Nat×Row)} {fx:List Nat} (hf:P.funcs[g]? = some fn) (hb:fn.body=some c) (hn:(fn.name == "runtime.NumGoroutine")=false) (ie:fn.results=rs.toArray)
  (hN:xs.length<=fn.ntmps) (hfx:fx.all (rows.map (·.1)).contains=true) (h:∀ X,AW P (eS fx) X G ⟨fn.ntmps,[],none⟩ c (DU T rs y rows) ⟨args xs,H⟩):MC P G fx g xs H y (YH rows):=by
 refine⟨fo.of hf hb hn,fun X w μ vs hs Y7 aK hv=>?_⟩
 have fin:∀ (w':World) (ak:Mu) (a':Act) (ag:St),vR T rs y rows ag->In w' X G ak ⟨fn.ntmps,[],none⟩ a' ag->Ev (eS fx) w μ w' ak->∃ v,(results fn a'.tmps).run P w' = .ok v w'/\∃ v_1 x H' ak,Ending.returned v=Ending.returned v_1/\(x=y/\H'=YH rows)/\RV w' X ak v_1 x/\Zf w' X ak H'/\Ev (eS fx) w μ w' ak:=by
  intro w' ak a' ag he hi aD;unfold vR at he;split at he
  .rename_i c xs hx;obtain⟨hc,he,Qc⟩:=he;obtain⟨v,hv,hr⟩:=CJ (P:=P) hg hi ie hx hc;have hX:∀ b,XX X (br (rows.map (·.1)).contains ak) b->XX X ak b:=fun b=>sr
   have ho:∀ u r off n,RV w' X ak u (.own r off n)->RV w' X (br (rows.map (·.1)).contains ak) u (cT (rows.map (·.1)) r off n):=fun u r off n h=>by
    unfold cT;split
    .rename_i hk;exact h.uL hk
    .exact .dead u
   have hf:∀ u r e j,RV w' X ak u (.ref r e j)->RV w' X (br (rows.map (·.1)).contains ak) u (Zi (rows.map (·.1)) r e j):=fun u r e j h=>by
    unfold Zi;split
    .rename_i hk;exact h.uS hk
    .exact .dead u
   have ax:=hi.tr ho hf;have hH:Zg (rows.map (·.1)).contains (cT (rows.map (·.1))) (Zi (rows.map (·.1))) ag.H=YH rows:=(funext (x8 Qc)).symm;refine⟨v,hv,v,y,YH rows,_,rfl,⟨rfl,rfl⟩,U0 he (RV.tr hX ho hf hr),hH ▸ ax.aL,aD.trans (q7 fun r _ _ hr=>cH hfx r hr)⟩
  .exact he.elim
 refine calls_of_wp hf hb ((wpIn_wide (n:=0)).1 (wpIn_mono (h X w μ _ ⟨hs,⟨rfl,by simp;omega,fun i x hx=>?_⟩,Y7⟩) fun e a' w' ⟨ak,ag,q,i,ev⟩=>?_))
 .simp only[args]at hx;have hi:i < xs.length:=(List.getElem?_eq_some_iff.1 hx).1
  have lV:vs[i]? = some vs[i]:=by rw[Array.getElem?_eq_getElem]
  exact⟨vs[i],by rw[Array.getElem?_append_left (by omega),lV],hv i _ x lV hx⟩
 .cases e with
  | normal=>
   obtain⟨v,hv,rest⟩:=fin w' ak a' ag q i ev;exact⟨i.env.defers,v,hv,rest⟩
  | ret=>
   obtain⟨v,hv,rest⟩:=fin w' ak a' ag q i ev;exact⟨i.env.defers,v,hv,rest⟩
  | _=>exact q.elim
end
end Go.Av
namespace Go.Av
theorem EB (k:Value) (x:D):jD k x []=[(k,x)]:=rfl
theorem Ez (k:Value) (x:D) (p:Value×D) (l:List (Value×D)):jD k x (p :: l)=if dP k p.1 then (k,x) :: l else p :: jD k x l:=by
 unfold jD;rw[List.findIdx?_cons]
 cases h:dP k p.1 with
 | true=>simp
 | false=>
  simp only[Bool.false_eq_true,if_false];cases List.findIdx? (fun p=>dP k p.1) l<;>simp
theorem Ub (x:Value):D.one (.v x)=x.oneCell':=rfl
theorem T8 (k:Option Bool) (els:List (List D)):D.one (.sl k els)=true:=rfl
theorem T6 (c:List D):D.one (.ip c)=true:=rfl
theorem aeB (c:List D):D.one (.agg c)=false:=rfl
theorem Ua (c:List D):D.one (.aT c)=false:=rfl
theorem T5 (t:TypeId) (x:D):D.one (.bh t x)=true:=rfl
theorem T4 (f:Fn) (c:List D):D.one (.fn f c)=true:=rfl
theorem KX (x:D):AV.one (.d x)=x.one:=rfl
theorem adT (r o n:Nat):AV.one (.own r o n)=true:=rfl
theorem adU (r e j:Nat):AV.one (.ref r e j)=true:=rfl
theorem adR (t:TypeId) (x:AV):AV.one (.bh t x)=true:=rfl
theorem KZ (f:Fn) (c:List AV):AV.one (.fn f c)=true:=rfl
theorem KV (c:List AV):AV.one (.agg c)=false:=rfl
theorem adV (c:List AV):AV.one (.aT c)=false:=rfl
theorem KW (g:FuncId) (x:AV):AV.one (.bm g x)=false:=rfl
theorem adS (r:Nat):AV.one (.mp r)=true:=rfl
theorem KY:AV.one .dead=false:=rfl
theorem WZ (x:Value):eU (.d (.v x))=if x.oneCell' then some [.d (.v x)] else none:=rfl
theorem WX (k:Option Bool) (els:List (List D)):eU (.d (.sl k els))=some [.d (.sl k els)]:=rfl
theorem WT (c:List D):eU (.d (.ip c))=some [.d (.ip c)]:=rfl
theorem WL (c:List D):eU (.d (.agg c))=some (c.map .d):=rfl
theorem WQ (c:List D):eU (.d (.aT c))=none:=rfl
theorem WO (t:TypeId) (x:D):eU (.d (.bh t x))=some [.d (.bh t x)]:=rfl
theorem WN (f:Fn) (c:List D):eU (.d (.fn f c))=some [.d (.fn f c)]:=rfl
theorem WV (r o n:Nat):eU (.own r o n)=some [.own r o n]:=rfl
theorem aeE (r e j:Nat):eU (.ref r e j)=some [.ref r e j]:=rfl
theorem WJ (c:List AV):eU (.agg c)=some c:=rfl
theorem WY (c:List AV):eU (.aT c)=none:=rfl
theorem aeD (t:TypeId) (x:AV):eU (.bh t x)=some [.bh t x]:=rfl
theorem WR (f:Fn) (c:List AV):eU (.fn f c)=some [.fn f c]:=rfl
theorem WK (g:FuncId) (x:AV):eU (.bm g x)=none:=rfl
theorem WU (r:Nat):eU (.mp r)=some [.mp r]:=rfl
theorem WM:eU .dead=none:=rfl
attribute [simp] Ub T8 T6 aeB Ua T5 T4 KX adT adU adR KZ KV adV KW adS KY
attribute [simp] WZ WX WT WL WQ WO WN WV aeE WJ WY aeD WR WK WU WM
attribute [simp] Int.ofNat_inj List.lookup
attribute [simp] od o6 qv kindOf Op.operands Call.operands c8 fc wh Y0 Zr xD kO TypeDesc.isSlice TypeDesc.isStr vA
attribute [simp] BO vB ow k5 ke aci mR ka TypeDesc.isAgg v7 na vZ cM og aak yl eqv
attribute [simp] Ck zf xO xM vX xH xp yS abc bound yf yg TypeDesc.isBool TypeDesc.isIface xN
attribute [simp] vM Value.oneCell' vD CD q8 aeM pL acf lC rowsOf rowsOf.go St.pN kz pa vr qX adt D3 abt C0 JB
attribute [simp] u0 JC rd wr iU aaG au acH uB Y2 undef cw GV aer Sy Ww PL St.freeze aU dT abq fb
attribute [simp] aZ YH int Av.bool iL ky uC Z9 aF hno ZS args ch Y9 AV.kill AV.kill.go Row.kill gN Zg AV.tr AV.tr.go Row.tr
attribute [simp] abP abO dV LB Lu St.norm qo o3 cT Zi yO DN gQ Zn D.scalar YO bd atEnd yY q6 abU x7
attribute [simp] oneOf Wx stepG ll o7 mg jm uR EB Ez dP eB lp k7 ac1 eS Z6 Z5 eh Pm
attribute [simp] vR DU x6 wa wb St.l9 zJ
section
variable {P:Program} {T:Ty} {Mv X:Nat->Prop} {G:YI} {N:Fr} {w:World} {μ:Mu} {a:Act} {σ:St}
theorem bU.tr {keep:Nat->Bool} {o f:Nat->Nat->Nat->AV} {g:FuncId} {xs:List AV} {dst:Option Tmp} {next:St->Prop}
  (ho:∀ w μ a,In w X G μ N a σ->∀ u r off n,RV w X μ u (.own r off n)->RV w X (br keep μ) u (o r off n)) (hf:∀ w μ a,In w X G μ N a σ->∀ u r e j,RV w X μ u (.ref r e j)->RV w X (br keep μ) u (f r e j))
  (hk:∀ r,keep r=false->Mv r) (h:bU P Mv X G N g (xs.map (AV.tr o f)) ⟨gN o f σ.env,Zg keep o f σ.H⟩ dst next):bU P Mv X G N g xs σ dst next:=by
 refine⟨h.1,fun w μ a vs hi hn hv=>?_⟩;have ax:=hi.tr (ho w μ a hi) (hf w μ a hi);have aD:Ev Mv w μ w (br keep μ):=q7 fun r _ _=>hk r;refine (h.2 w (br keep μ) a vs ax (by simpa using hn) fun i u x hu hx=>?_).mono fun e w' ⟨v,x,ag,ak,he,k,cK,hr,ev⟩=>⟨v,x,ag,ak,he,k,cK,hr,aD.trans ev⟩;rw[List.getElem?_map]at hx;obtain⟨x0,uf,rfl⟩:=Option.map_eq_some_iff.1 hx;exact RV.tr (fun b=>sr) (ho w μ a hi) (hf w μ a hi) (hv i u x0 hu uf)
theorem bU.pN (r:Nat) {ty sz:Nat} {els:List (List D)} {g:FuncId} {xs:List AV} {dst:Option Tmp} {next:St->Prop} (hr:σ.H r=some (.sl ty sz els)) (hm:Mv r)
  (h:bU P Mv X G N g (xs.map (AV.tr (abP r els) (abO r))) ⟨gN (abP r els) (abO r) σ.env,Zg (dV r) (abP r els) (abO r) σ.H⟩ dst next):bU P Mv X G N g xs σ dst next:=by
 refine bU.tr (keep:=dV r) (fun w μ a hi u q off n hu=>?_) (fun w μ a hi u q e j hu=>?_) (fun q hq=>?_) h
 .have tG:(fun q=>if q=r then none else μ q)=br (dV r) μ:=by
   funext q;unfold br dV;by_cases h:q=r<;>simp[h]
  unfold abP;split
  .rename_i hq;subst hq
   have hd:∀ {off n:Nat},RV w X μ u (.own q off n)->off+n<=els.length->RV w X (br (dV q) μ) u (.d (.sl none ((els.drop off).take n))):=fun h hle=>by
    obtain⟨k,hk,_⟩:=xX hi.aL hr hle h;rw[tG]at hk;exact .d hk.abd
   split
   .rename_i h2;obtain⟨rfl,rfl⟩:=h2;have:=hd hu (by omega);simpa using this
   .split
    .rename_i hle;exact hd hu hle
    .exact .dead u
  .rename_i hq;exact hu.uL (by simp[dV,hq])
 .unfold abO;split
  .exact .dead u
  .rename_i hq;exact hu.uS (by simp[dV,hq])
 .have e:q=r:=by simpa[dV]using hq
  exact e ▸ hm
end
theorem RD.Li {W:World} {X:Nat->Prop} {x y z:Value} {a b e:D} (h0:RD W X x a) (h1:RD W X y b) (h2:RD W X z e):∀ (i:Nat) (u:Value) (c:D),#[x,y,z][i]? = some u->[a,b,e][i]? = some c->RD W X u c:=fun i u c hu hc=>by
 match i,hu,hc with
 | 0,hu,hc=>simp at hu hc;subst hu hc;exact h0
 | 1,hu,hc=>simp at hu hc;subst hu hc;exact h1
 | 2,hu,hc=>simp at hu hc;subst hu hc;exact h2
 | i+3,hu,hc=>simp at hu
