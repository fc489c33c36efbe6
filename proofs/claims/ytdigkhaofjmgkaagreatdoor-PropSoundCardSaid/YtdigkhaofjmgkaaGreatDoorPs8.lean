/- Parts. -/
import Derived.Test.YtdigkhaofjmgkaaGreatDoorPs7
import Derived.Orders
set_option linter.unusedSectionVars false
set_option linter.unusedSimpArgs false
set_option linter.unusedVariables false
namespace Go.Av
def jg:Operand->Nat
 | .global _=>0
 | _=>1
@[simp] theorem XC (x:Operand):(jg x=2)=False:=by cases x<;>simp[jg]
@[simp] theorem aeq (x:Operand):(jg x=3)=False:=by cases x<;>simp[jg]
@[simp] theorem XE (x:Operand):(jg x=8)=False:=by cases x<;>simp[jg]
@[simp] theorem XF (x:Operand):(jg x=9)=False:=by cases x<;>simp[jg]
@[simp] theorem XB (x:Operand):(jg x=0\/jg x=1)=True:=by cases x<;>simp[jg]
theorem BK (x:Operand):jg x<=1:=by cases x<;>simp[jg]
def kindOf:Op->Nat
 | .load _ x=>jg x
 | .indexAddr _ _ _=>1
 | .slice _ _ _ _ _=>1
 | .lookup _ _ _ _=>1
 | .call { callee:=.value _,.. }=>2
 | .call { callee:=.builtin .append,.. }=>9
 | .call { callee:=.builtin .copy,.. }=>9
 | .alloc _=>3
 | .box _ _=>3
 | .buildSlice _ _ _=>3
 | .makeSlice _ _ _=>3
 | .store _ _ _=>8
 | .mapUpdate _ _ _ _=>8
 | .insert _ _ _ _=>8
 | .makeMap _ _=>3
 | .select _ _=>9
 | _=>0
def abk (x y:Nat):Bool:=match x,y with
 | 0,9 | 9,_ | 1,8 | 1,9 | 2,8 | 2,9 | 3,1 | 3,2 | 3,8 | 3,9 | 8,1 | 8,2 | 8,3 | 8,8 | 8,9=>false
 | _,_=>true
def fI (ops:Array Oper) (x y:Oper):Bool:=x.apart ops y && abk (kindOf x.op) (kindOf y.op)
def bitsOf (acc:List Nat) (o:Oper):Nat:=o.after.toList.foldr (fun e s=>if Region.binds .any e then (2 ^ e.on ||| acc.getD e.on 0) ||| s else s) 0
def mz:List Oper->List Nat->List Nat
 | [],acc=>acc
 | o :: l,acc=>mz l (acc ++ [bitsOf acc o])
def tb (ops:Array Oper):List Nat:=mz ops.toList []
def lO (ops:Array Oper):Bool:=
 let t:=tb ops
 (List.range ops.size).all fun j=>match ops[j]? with
  | some oj=>(oj.after.all fun e=>!Region.binds .any e || e.on < j) && (List.range j).all fun i=>(t.getD j 0).testBit i || match ops[i]? with
    | some oi=>fI ops oi oj && fI ops oj oi
    | none=>true
  | none=>true
section
variable {P:Program} {T:Ty} {Mv X:Nat->Prop} {G:Yt} {N:Fr}
def sg (P:Program) (G:Yt) (σ:St) (c:Call) (y:D):Prop:=∃ g xs,ZC G σ.env c=some (g,xs)/\
 ((∃ ds,xs=ds.map .d/\ao P G g ds y)\/(∃ ds,gG (Y7 σ.H 4) xs=some ds/\y.scalar=true/\ao P G g ds y))
def iB (P:Program) (T:Ty) (Mv:Nat->Prop) (G:Yt) (o:Oper) (σ af:St):Prop:=match YK o.op with
 | some c=>∃ y,sg P G σ c y/\af=⟨aw σ.env o.dst (.d y),σ.H⟩
 | none=>if dk o.op then ∃ c x ay,wr T G Mv σ o=some (c,x,ay)/\c/\af=⟨aw ay.env o.dst x,ay.H⟩
  else ∃ c x,rd T G σ o.op=some (c,x)/\c/\af=⟨aw σ.env o.dst x,σ.H⟩
def qp (P:Program) (T:Ty) (Mv:Nat->Prop) (G:Yt) (N:Fr) (ops:Array Oper) (o:Oper) (σ af:St):Prop:=
 cZ N o/\((fc ops σ.env o=some true/\iB P T Mv G o σ af)\/(fc ops σ.env o=some false/\af=⟨aw σ.env o.dst bX,σ.H⟩))
theorem qq (hg:Good P T) {ops:Array Oper} {o:Oper} {σ af:St} (h:qp P T Mv G N ops o σ af) {w:World} {μ:Mu} {a:Act} (hi:In w X G μ N a σ) {i:Nat} (ho:ops[i]? = some o) {Q:Exit->Act->World->Prop} {K:Act->World->Prop}
  (hk:∀ w' ak a',In w' X G ak N a' af->Ev Mv w μ w' ak->K a' w'):wpOpIn (wd N.ro) 0 P ops Q i K a w:=by
 obtain⟨hd,h⟩:=h
 have dt:∀ d,o.dst=some d->d < N.n:=fun d e=>by unfold cZ at hd;rw[e]at hd;exact hd
 unfold wpOpIn;simp only[ho]
 rcases h with⟨hw,h⟩ | ⟨hw,rfl⟩
 .rw[o9 hi hw,if_pos rfl];refine (sB (Mv:=Mv) (K:=fun ay=>ay=af) hg hi dt ?_ fun w' ak a' ay e ax aB=>hk w' ak a' (e ▸ ax) aB);unfold iB at h;unfold Z3;split at h
  .rename_i c hc;obtain⟨y,⟨g,xs,ht,gq⟩,rfl⟩:=h;simp only[hc,ht]
   rcases gq with⟨ds,rfl,hp⟩ | ⟨ds,Z6,hs,hp⟩
   .exact gI.pure hp rfl
   .exact gI.kX Z6 hp hs rfl
  .rename_i hc;simp only[hc,aaK];split at h
   .rename_i wX;rw[if_pos wX];obtain⟨c,x,ay,Bl,bL,rfl⟩:=h;simp only[Bl];exact⟨bL,trivial⟩
   .rename_i wX;rw[if_neg wX];obtain⟨c,x,hr,bL,rfl⟩:=h;simp only[hr];exact⟨bL,trivial⟩
 .rw[o9 hi hw,if_neg (by simp)];exact⟨fun _ _=>trivial,hk w μ _ (hi.put (.d (.v _)) dt) (.refl _ w μ)⟩
theorem Ic {e:Env} {dst:Option Tmp} {x:AV} {t:Nat} (h:dst≠some t):aw e dst x t=e t:=by
 cases dst with
 | none=>rfl
 | some d=>have:t≠d:=fun e=>h (by rw[e]);simp[aw,fb,this]
theorem Zk {e:Env} {d d':Option Tmp} {x y:AV} (h:∀ t,d=some t->d'≠some t):aw (aw e d x) d' y=aw (aw e d' y) d x:=by
 cases d with
 | none=>rfl
 | some t=>
  cases d' with
  | none=>rfl
  | some t'=>
   have aG:t≠t':=fun e=>h t rfl (by rw[e]);funext i;by_cases h1:i=t<;>by_cases h2:i=t'<;>simp[aw,fb,h1,h2,aG,Ne.symm aG]
   all_goals (subst h1;simp[aG])
def dz (o:Op) (e e':Env):Prop:=∀ t,Operand.tmp t∈o.operands->e t=e' t
theorem cG {e e':Env} {x:Operand} (h:∀ t,x = .tmp t->e t=e' t):aT G e x=aT G e' x:=by
 cases x with
 | tmp t=>exact h t rfl
 | _=>rfl
theorem zf {e e':Env}:∀ {l:List Operand},(∀ t,Operand.tmp t∈l->e t=e' t)->iV G e l=iV G e' l
 | [],_=>rfl
 | x :: l,h=>by
  simp only[iV];rw[cG (x:=x) fun t ht=>h t (by simp[ht]),zf (l:=l) fun t ht=>h t (by simp[ht])]
theorem vy {e e':Env}:∀ {l:List (Nat×Operand)},(∀ t,Operand.tmp t∈l.map (·.2)->e t=e' t)->aal G e l=aal G e' l
 | [],_=>rfl
 | (i,x) :: l,h=>by
  simp only[aal];rw[cG (x:=x) fun t ht=>h t (by simp[ht]),vy (l:=l) fun t ht=>h t (by simp at ht ⊢;exact .inr ht)]
theorem DL {e e':Env} {o:Option Operand} (h:∀ t,o=some (.tmp t)->e t=e' t):bound G e o=bound G e' o:=by
 cases o with
 | none=>rfl
 | some x=>simp only[bound];rw[cG (x:=x) fun t ht=>h t (by rw[ht])]
theorem Um {o:Op} {e e':Env} {H:Heap} (h:dz o e e'):rd T G ⟨e,H⟩ o=rd T G ⟨e',H⟩ o:=by
 unfold dz at h;cases o
 case makeFunc f first caps=>
  simp only[rd];rw[zf (l:=caps.toList) fun t ht=>h t (by simp[Op.operands];right;simpa using ht)];split
  .rfl
  .split
   .rename_i x Ao dJ
    rw[cG (x:=x) fun t ht=>h t (by
     have hm:x∈first:=by
      have:x∈first.toList:=by rw[Ao];simp
      simpa using this
     simp only[Op.operands];rw[<- ht]
     simp[hm])]
   .rfl
 case typeAssert y xT t b=>
  simp only[rd];rw[cG (x:=y) fun t ht=>h t (by simp[Op.operands,ht])]
 case build t parts=>
  simp only[rd];rw[vy (l:=parts.toList) fun t ht=>h t (by simpa[Op.operands]using ht)]
 case slice t x lo hi mx=>
  simp only[rd];rw[cG (x:=x) fun t ht=>h t (by simp[Op.operands,ht]),DL (o:=lo) fun t ht=>h t (by simp[Op.operands,ht]),DL (o:=hi) fun t ht=>h t (by simp[Op.operands,ht])]
 case call c=>
  obtain⟨callee,args,argTypes⟩:=c
  cases callee with
  | builtin b=>
   have two:∀ {x y:Operand},args.toList=[x,y]->aT G e x=aT G e' x/\aT G e y=aT G e' y:=fun {x y} ha=>
    ⟨cG (x:=x) fun t ht=>h t (by simp[Op.operands,Call.operands];rw[<- Array.mem_toList_iff,ha];simp[ht]),
     cG (x:=y) fun t ht=>h t (by simp[Op.operands,Call.operands];rw[<- Array.mem_toList_iff,ha];simp[ht])⟩
   cases b<;>try rfl
   case len=>
    simp only[rd];split
    .rename_i x t ha ht;rw[cG (x:=x) fun t ht=>h t (by simp[Op.operands,Call.operands];rw[<- Array.mem_toList_iff,ha];simp[ht])]
    .rfl
   case max=>
    simp only[rd];split
    .rename_i x y ha;rw[(two ha).1,(two ha).2]
    .rfl
   case min=>
    simp only[rd];split
    .rename_i x y ha;rw[(two ha).1,(two ha).2]
    .rfl
  | _=>rfl
 all_goals
  simp only[Op.operands,List.mem_toArray,List.mem_cons,List.not_mem_nil,or_false]at h
 all_goals
  first
   | rfl
   | (rename_i x;simp only[rd];rw[cG (x:=x) fun t ht=>h t (by simp[ht])];done)
   | (rename_i x _;simp only[rd];rw[cG (x:=x) fun t ht=>h t (by simp[ht])];done)
   | (rename_i x y;simp only[rd];rw[cG (x:=x) fun t ht=>h t (by simp[ht]),cG (x:=y) fun t ht=>h t (by simp[ht])];done)
   | (rename_i x y _;simp only[rd];rw[cG (x:=x) fun t ht=>h t (by simp[ht]),cG (x:=y) fun t ht=>h t (by simp[ht])];done)
   | (rename_i x y z;simp only[rd];rw[cG (x:=x) fun t ht=>h t (by simp[ht]),cG (x:=y) fun t ht=>h t (by simp[ht]),cG (x:=z) fun t ht=>h t (by simp[ht])];done)
def Ex (P:Program) (T:Ty) (Mv:Nat->Prop) (G:Yt) (o:Oper) (e:Env) (H:Heap) (x:AV) (H':Heap):Prop:=match YK o.op with
 | some c=>∃ y,sg P G ⟨e,H⟩ c y/\x = .d y/\H'=H
 | none=>if dk o.op then ∃ c,wr T G Mv ⟨e,H⟩ o=some (c,x,⟨e,H'⟩)/\c
  else ∃ c,rd T G ⟨e,H⟩ o.op=some (c,x)/\c/\H'=H
theorem abX {o:Oper} (hk:kindOf o.op≠9) {σ ay:St} {c:Prop} {x:AV} (h:wr T G Mv σ o=some (c,x,ay)):ay.env=σ.env:=by
 obtain⟨dst,op,type,pos,after,guard⟩:=o;dsimp only at hk;unfold wr at h;dsimp only at h
 repeat' split at h
 all_goals first
  | (exact absurd rfl hk)
  | (simp only[Option.some.injEq,Prod.mk.injEq]at h;obtain⟨_,_,rfl⟩:=h;rfl)
  | cases h
theorem Ex.of {o:Oper} (hk:kindOf o.op≠9) {σ af:St} (h:iB P T Mv G o σ af):∃ x H',Ex P T Mv G o σ.env σ.H x H'/\af=⟨aw σ.env o.dst x,H'⟩:=by
 unfold iB at h;unfold Ex;split at h
 .rename_i c hc;obtain⟨y,gq,rfl⟩:=h;(try simp only[hc]);exact⟨_,_,⟨y,gq,rfl,rfl⟩,rfl⟩
 .rename_i hc;(try simp only[hc]);split at h
  .rename_i hw;obtain⟨c,x,ay,h1,h2,rfl⟩:=h;have he:=abX hk h1;refine⟨x,ay.H,?_,by rw[he]⟩;rw[if_pos hw];refine⟨c,?_,h2⟩;obtain⟨e,H⟩:=σ;obtain⟨e1,H1⟩:=ay;dsimp only at he;subst he;exact h1
  .rename_i hw;obtain⟨c,x,h1,h2,rfl⟩:=h;refine⟨x,σ.H,?_,rfl⟩;rw[if_neg hw];exact⟨c,h1,h2,rfl⟩
theorem Ex.to {o:Oper} {e:Env} {H H':Heap} {x:AV} (h:Ex P T Mv G o e H x H'):iB P T Mv G o ⟨e,H⟩ ⟨aw e o.dst x,H'⟩:=by
 unfold Ex at h;unfold iB;split at h
 .rename_i c hc;obtain⟨y,gq,rfl,rfl⟩:=h;(try simp only[hc]);exact⟨y,gq,rfl⟩
 .rename_i hc;(try simp only[hc]);split at h
  .rename_i hw;obtain⟨c,h1,h2⟩:=h;rw[if_pos hw];exact⟨c,x,_,h1,h2,rfl⟩
  .rename_i hw;obtain⟨c,h1,h2,rfl⟩:=h;rw[if_neg hw];exact⟨c,x,h1,h2,rfl⟩
theorem abj {o:Op} {c:Call} (h:YK o=some c):o = .call c/\kindOf o=2:=by
 unfold YK at h;split at h
 .obtain rfl:=Option.some.inj h;exact⟨rfl,rfl⟩
 .cases h
theorem qu {e e':Env} {c:Call} (h:∀ t,Operand.tmp t∈c.operands->e t=e' t):ZC G e c=ZC G e' c:=by
 unfold ZC;split
 .rename_i f hf;rw[cG (x:=f) fun t ht=>h t (by simp[Call.operands,hf,ht]),zf (l:=c.args.toList) fun t ht=>h t (by simp[Call.operands,hf];right;simpa using ht)]
 .rfl
theorem WQ {o:Oper} (hk:kindOf o.op≠9) {e e':Env} {H H':Heap} {c:Prop} {x:AV} (ha:dz o.op e e') (h:wr T G Mv ⟨e,H⟩ o=some (c,x,⟨e,H'⟩)):wr T G Mv ⟨e',H⟩ o=some (c,x,⟨e',H'⟩):=by
 obtain⟨dst,op,type,pos,after,guard⟩:=o;dsimp only at hk ha;unfold dz at ha;cases op
 case alloc t=>
  cases dst with
  | none=>cases h
  | some d=>
   simp only[wr]at h ⊢;split at h
   .rename_i ti ht;simp only[Option.some.injEq,Prod.mk.injEq,St.mk.injEq,true_and]at h;obtain⟨rfl,rfl,rfl⟩:=h;simp
   .cases h
 case box t y=>
  cases dst with
  | none=>cases h
  | some d=>
   simp only[wr]at h ⊢;rw[<- cG (e:=e) (x:=y) fun t ht=>ha t (by simp[Op.operands,ht])];split at h
   .simp only[Option.some.injEq,Prod.mk.injEq,St.mk.injEq,true_and]at h;obtain⟨rfl,rfl,rfl⟩:=h;rename_i bR;simp[bR]
   .cases h
 case store t y z=>
  cases dst with
  | some d=>cases h
  | none=>
   simp only[wr]at h ⊢;rw[<- cG (e:=e) (x:=y) fun t ht=>ha t (by simp[Op.operands,ht]),<- cG (e:=e) (x:=z) fun t ht=>ha t (by simp[Op.operands,ht])];split at h
   .rename_i r e0 j v h1 h2;(try simp only[h1,h2]);split at h
    .rename_i ty cells hH;(try simp only[hH]);split at h
     .rename_i he;(try simp only[he,if_true]);split at h
      .rename_i c' abm hs;(try simp only[hs]);simp only[Option.some.injEq,Prod.mk.injEq,St.mk.injEq,true_and]at h ⊢;exact h
      .cases h
     .cases h
    .rename_i ty sz els hH;(try simp only[hH]);split at h
     .rename_i c' iU hs;(try simp only[hs]);simp only[Option.some.injEq,Prod.mk.injEq,St.mk.injEq,true_and]at h ⊢;exact h
     .cases h
    .cases h
    .cases h
    .cases h
   .cases h
 case makeMap t rs=>
  cases dst with
  | none=>cases rs<;>cases h
  | some d=>
   cases rs with
   | some _=>cases h
   | none=>
    simp only[wr]at h ⊢;simp only[Option.some.injEq,Prod.mk.injEq,St.mk.injEq,true_and]at h ⊢;exact h
 case mapUpdate t m k v=>
  cases dst with
  | some d=>cases h
  | none=>
   simp only[wr]at h ⊢;rw[<- cG (e:=e) (x:=m) fun t ht=>ha t (by simp[Op.operands,ht]),<- cG (e:=e) (x:=k) fun t ht=>ha t (by simp[Op.operands,ht]),<- cG (e:=e) (x:=v) fun t ht=>ha t (by simp[Op.operands,ht])];split at h
   .rename_i r key y h1 h2 h3;(try simp only[h1,h2,h3]);split at h
    .rename_i ty ents hH;(try simp only[hH]);split at h
     .rename_i c' ZO hp;(try simp only[hp]);simp only[Option.some.injEq,Prod.mk.injEq,St.mk.injEq,true_and]at h ⊢;exact h
     .cases h
    .cases h
   .cases h
 case insert t m k v=>
  cases dst with
  | some d=>cases h
  | none=>
   simp only[wr]at h ⊢;rw[<- cG (e:=e) (x:=m) fun t ht=>ha t (by simp[Op.operands,ht]),<- cG (e:=e) (x:=k) fun t ht=>ha t (by simp[Op.operands,ht]),<- cG (e:=e) (x:=v) fun t ht=>ha t (by simp[Op.operands,ht])];split at h
   .rename_i r key y h1 h2 h3;(try simp only[h1,h2,h3]);split at h
    .rename_i ty ents hH;(try simp only[hH]);split at h
     .rename_i c' ZO hp;(try simp only[hp]);simp only[Option.some.injEq,Prod.mk.injEq,St.mk.injEq,true_and]at h ⊢;exact h
     .cases h
    .cases h
   .cases h
 case makeSlice t y z=>
  cases dst with
  | none=>cases h
  | some d=>
   simp only[wr]at h ⊢;rw[<- cG (e:=e) (x:=y) fun t ht=>ha t (by simp[Op.operands,ht]),<- cG (e:=e) (x:=z) fun t ht=>ha t (by simp[Op.operands,ht])];split at h
   .rename_i tt YO;(try simp only[YO]);split at h
    .rename_i e0 hd;(try simp only[hd]);split at h
     .rename_i te kn n km m h0 h1 h2;(try simp only[h0,h1,h2]);simp only[Option.some.injEq,Prod.mk.injEq,St.mk.injEq,true_and]at h ⊢;exact h
     .cases h
    .cases h
   .cases h
 case buildSlice t n ps=>
  cases dst with
  | none=>cases h
  | some d=>
   simp only[wr]at h ⊢;rw[<- vy (e:=e) (l:=ps.toList) fun t ht=>ha t (by simpa[Op.operands]using ht)];split at h
   .rename_i tt YO;(try simp only[YO]);split at h
    .rename_i e0 hd;(try simp only[hd]);split at h
     .rename_i te pp h0 h1;(try simp only[h0,h1]);split at h
      .rename_i els pM;(try simp only[pM]);simp only[Option.some.injEq,Prod.mk.injEq,St.mk.injEq,true_and]at h ⊢;exact h
      .cases h
     .cases h
    .cases h
   .cases h
 case call cc=>
  obtain⟨callee,args,argTypes⟩:=cc
  cases callee with
  | builtin b=>
   cases b<;>first | (exact absurd rfl hk) | (cases dst<;>cases h)
  | _=>cases dst<;>cases h
 all_goals (cases dst<;>cases h)
theorem Ex.congr {o:Oper} (hk:kindOf o.op≠9) {e e':Env} {H H':Heap} {x:AV} (ha:dz o.op e e') (h:Ex P T Mv G o e H x H'):Ex P T Mv G o e' H x H':=by
 unfold Ex at h ⊢;split at h
 .rename_i c hc;(try simp only[hc]);obtain⟨y,⟨g,xs,ht,gq⟩,h2,h3⟩:=h;refine⟨y,⟨g,xs,?_,gq⟩,h2,h3⟩;have ho:=(abj hc).1;rw[<- qu (e:=e) fun t ht=>ha t (by rw[ho];exact ht)];exact ht
 .rename_i hc;(try simp only[hc]);split at h
  .rename_i hw;rw[if_pos hw];obtain⟨c,h1,h2⟩:=h;exact⟨c,WQ hk ha h1,h2⟩
  .rename_i hw;rw[if_neg hw];obtain⟨c,h1,h2,h3⟩:=h;exact⟨c,by rw[<- Um ha];exact h1,h2,h3⟩
theorem acI {o:Op} (h:dk o=true):kindOf o=3\/kindOf o=8\/kindOf o=9:=by
 unfold dk at h
 split at h<;>first | (exact .inl rfl) | (exact .inr (.inl rfl)) | (exact .inr (.inr rfl)) | cases h
theorem Ex.keeps {o:Oper} (hk:kindOf o.op<=2) {e:Env} {H H':Heap} {x:AV} (h:Ex P T Mv G o e H x H'):H'=H:=by
 unfold Ex at h;split at h
 .obtain⟨_,_,_,rfl⟩:=h;rfl
 .split at h
  .rename_i hw
   rcases acI hw with h' | h' | h'<;>omega
  .obtain⟨_,_,_,rfl⟩:=h;rfl
theorem Ih {o:Op} (hk:kindOf o=0) {e:Env} (H H2:Heap):rd T G ⟨e,H⟩ o=rd T G ⟨e,H2⟩ o:=by
 cases o
 case call c=>
  obtain⟨callee,args,argTypes⟩:=c
  cases callee with
  | builtin b=>cases b<;>rfl
  | _=>rfl
 case load t y=>
  cases y with
  | global g=>
   simp only[rd,aT]
   cases G g with
   | none=>rfl
   | some x=>cases x<;>rfl
  | _=>simp[kindOf,jg]at hk
 all_goals first | rfl | (simp[kindOf]at hk)
theorem Uo {o:Op} (hk:kindOf o=1) {e:Env} {H:Heap} {d:Nat} (hd:H d=none) (row:Row) {c:Prop} {x:AV} (h:rd T G ⟨e,H⟩ o=some (c,x)):rd T G ⟨e,aF H d row⟩ o=some (c,x):=by
 have key:∀ r y,H r=some y->aF H d row r=some y:=fun r y hr=>by
  unfold aF;split
  .rename_i hh;subst hh;rw[hd]at hr;cases hr
  .exact hr
 have kl:∀ t v,iL T H t v=some (c,x)->iL T (aF H d row) t v=some (c,x):=fun t v h=>by
  unfold iL at h ⊢;split at h
  .exact h
  .split at h
   .rename_i hr;simp only[key _ _ hr];exact h
   .rename_i hr;simp only[key _ _ hr];exact h
   .cases h
   .cases h
   .cases h
  .cases h
 have km:∀ t b v u,jh T H t b v u=some (c,x)->jh T (aF H d row) t b v u=some (c,x):=fun t b v u h=>by
  unfold jh at h ⊢;split at h
  .split at h
   .rename_i hr h2;simp only[key _ _ hr,h2];exact h
   .cases h
  .exact h
  .cases h
 have ki:∀ t v u,kV T H t v u=some (c,x)->kV T (aF H d row) t v u=some (c,x):=fun t v u h=>by
  unfold kV at h ⊢;split at h
  .exact h
  .split at h
   .rename_i h1 hr;simp only[h1,key _ _ hr];exact h
   .rename_i h1 hr;simp only[h1,key _ _ hr];exact h
   .cases h
  .exact h
  .exact h
  .cases h
 have ks:∀ t v l u,lQ T H t v l u=some (c,x)->lQ T (aF H d row) t v l u=some (c,x):=fun t v l u h=>by
  unfold lQ at h ⊢;dsimp only at h ⊢;split at h
  .exact h
  .exact h
  .split at h
   .rename_i h1 hr;simp only[h1,key _ _ hr];exact h
   .cases h
  .cases h
 cases o
 case load t y=>
  simp only[rd,Option.bind_eq_some_iff]at h ⊢;obtain⟨v,h1,h2⟩:=h;exact⟨v,h1,kl t v h2⟩
 case indexAddr t y z=>
  simp only[rd]at h ⊢;split at h
  .exact ki _ _ _ h
  .cases h
 case slice t y lo hi mx=>
  simp only[rd]at h ⊢;split at h
  .rename_i dK;rw[if_pos dK];split at h
   .exact ks _ _ _ _ h
   .cases h
  .cases h
 case lookup t y z b=>
  simp only[rd]at h ⊢;split at h
  .exact km _ _ _ _ h
  .cases h
 case call cc=>
  obtain⟨callee,args,argTypes⟩:=cc
  cases callee with
  | builtin b=>cases b<;>simp[kindOf]at hk
  | _=>simp[kindOf]at hk
 all_goals (simp[kindOf]at hk)
theorem qJ {f g:AV->Option D} (h:∀ x y,f x=some y->g x=some y):∀ {l:List AV} {ys:List D},gG f l=some ys->gG g l=some ys
 | [],_,hh=>hh
 | x :: l,ys,hh=>by
  simp only[gG]at hh ⊢
  cases hf:f x with
  | none=>simp[hf]at hh
  | some y=>
   cases hl:gG f l with
   | none=>simp[hf,hl]at hh
   | some zs=>
    simp only[hf,hl]at hh;rw[h x y hf,qJ h hl];exact hh
theorem KK {H:Heap} {d:Nat} (hd:H d=none) (row:Row):∀ (k:Nat) (x:AV) (y:D),Y7 H k x=some y->Y7 (aF H d row) k x=some y:=by
 have key:∀ r y,H r=some y->aF H d row r=some y:=fun r y hr=>by
  unfold aF;split
  .rename_i hh;subst hh;rw[hd]at hr;cases hr
  .exact hr
 intro k
 induction k with
 | zero=>intro x y h;cases x<;>simp only[Y7]at h ⊢<;>first | exact h | cases h
 | succ k ih=>
  intro x y h
  cases x with
  | d x=>simpa only[Y7]using h
  | own r off n=>
   simp only[Y7]at h ⊢;split at h
   .rename_i hr;rw[key _ _ hr];exact h
   .cases h
  | ref r e j=>
   simp only[Y7]at h ⊢;split at h
   .rename_i hr;rw[key _ _ hr];dsimp only;split at h
    .rename_i he;rw[if_pos he];obtain⟨ys,h1,h2⟩:=Option.map_eq_some_iff.1 h;exact Option.map_eq_some_iff.2 ⟨ys,qJ ih h1,h2⟩
    .cases h
   .cases h
  | agg cells=>simp only[Y7]at h ⊢;obtain⟨ys,h1,h2⟩:=Option.map_eq_some_iff.1 h;exact Option.map_eq_some_iff.2 ⟨ys,qJ ih h1,h2⟩
  | aR cells=>simp only[Y7]at h ⊢;obtain⟨ys,h1,h2⟩:=Option.map_eq_some_iff.1 h;exact Option.map_eq_some_iff.2 ⟨ys,qJ ih h1,h2⟩
  | fn f cells=>simp only[Y7]at h ⊢;obtain⟨ys,h1,h2⟩:=Option.map_eq_some_iff.1 h;exact Option.map_eq_some_iff.2 ⟨ys,qJ ih h1,h2⟩
  | bg t x=>simp only[Y7]at h ⊢;obtain⟨ys,h1,h2⟩:=Option.map_eq_some_iff.1 h;exact Option.map_eq_some_iff.2 ⟨ys,ih _ _ h1,h2⟩
  | mp r=>
   simp only[Y7]at h ⊢;split at h
   .rename_i hr;rw[key _ _ hr];exact h
   .cases h
  | bm g x=>simp only[Y7]at h;cases h
  | dead=>simp only[Y7]at h;cases h
theorem Ex.grow {o:Oper} (hk:kindOf o.op=1\/kindOf o.op=2) {e:Env} {H H':Heap} {x:AV} (h:Ex P T Mv G o e H x H') {d:Nat} (hd:H d=none) (row:Row):Ex P T Mv G o e (aF H d row) x (aF H d row):=by
 unfold Ex at h ⊢;split at h
 .rename_i c hc;(try simp only[hc]);obtain⟨y,⟨g,xs,ht,gq⟩,h2,_⟩:=h;refine⟨y,⟨g,xs,ht,?_⟩,h2,by trivial⟩
  rcases gq with h | ⟨ds,h3,h4,h5⟩
  .exact .inl h
  .exact .inr ⟨ds,qJ (KK hd row 4) h3,h4,h5⟩
 .rename_i hc;(try simp only[hc]);split at h
  .rename_i hw
   rcases acI hw with h' | h' | h'<;>omega
  .rename_i hw;rw[if_neg hw];obtain⟨c,h1,h2,_⟩:=h
   rcases hk with hk | hk
   .exact⟨c,Uo hk hd row h1,h2,by trivial⟩
   .exfalso;obtain⟨dst,op,type,pos,after,guard⟩:=o;dsimp only at hk hc;unfold kindOf at hk
    split at hk<;>first | omega | skip
    .have:=BK ‹_›;omega
    .simp[YK]at hc
theorem Ex.free {o:Oper} (hk:kindOf o.op=0) {e:Env} {H H':Heap} {x:AV} (h:Ex P T Mv G o e H x H') (H2:Heap):Ex P T Mv G o e H2 x H2:=by
 unfold Ex at h ⊢;split at h
 .rename_i c hc;have:=(abj hc).2;omega
 .rename_i hc;(try simp only[hc]);split at h
  .rename_i hw
   rcases acI hw with h' | h' | h'<;>omega
  .rename_i hw;rw[if_neg hw];obtain⟨c,h1,h2,_⟩:=h;exact⟨c,by rw[Ih hk H2 H];exact h1,h2,by trivial⟩
theorem Ex.makes {o:Oper} (hk:kindOf o.op=3) {e:Env} {H H':Heap} {x:AV} (h:Ex P T Mv G o e H x H'):∃ d row,o.dst=some d/\H d=none/\H'=aF H d row/\∀ H2,H2 d=none->Ex P T Mv G o e H2 x (aF H2 d row):=by
 obtain⟨dst,op,type,pos,after,guard⟩:=o;dsimp only at hk;unfold Ex at h;unfold Ex
 have hc:YK op=none:=by
  cases bL:YK op with
  | none=>rfl
  | some c=>have:=(abj bL).2;omega
 simp only[hc]at h ⊢
 cases op<;>simp only[kindOf]at hk<;>first | omega | skip
 case load t y=>have:=BK y;omega
 case alloc t=>
  simp only[dk,if_true]at h ⊢;obtain⟨c,h1,h2⟩:=h
  cases dst with
  | none=>cases h1
  | some d=>
   simp only[wr]at h1 ⊢;split at h1
   .simp only[Option.some.injEq,Prod.mk.injEq,St.mk.injEq,true_and]at h1;obtain⟨rfl,rfl,rfl⟩:=h1;exact⟨d,_,rfl,h2,rfl,fun H2 h=>⟨_,rfl,h⟩⟩
   .cases h1
 case box t y=>
  simp only[dk,if_true]at h ⊢;obtain⟨c,h1,h2⟩:=h
  cases dst with
  | none=>cases h1
  | some d=>
   simp only[wr]at h1 ⊢;split at h1
   .simp only[Option.some.injEq,Prod.mk.injEq,St.mk.injEq,true_and]at h1;obtain⟨rfl,rfl,rfl⟩:=h1;exact⟨d,_,rfl,h2,rfl,fun H2 h=>⟨_,rfl,h⟩⟩
   .cases h1
 case makeSlice t y z=>
  simp only[dk,if_true]at h ⊢;obtain⟨c,h1,h2⟩:=h
  cases dst with
  | none=>cases h1
  | some d=>
   simp only[wr]at h1 ⊢;split at h1
   .split at h1
    .split at h1
     .simp only[Option.some.injEq,Prod.mk.injEq,St.mk.injEq,true_and]at h1;obtain⟨rfl,rfl,rfl⟩:=h1;exact⟨d,_,rfl,h2.1,rfl,fun H2 h=>⟨_,rfl,h,h2.2⟩⟩
     .cases h1
    .cases h1
   .cases h1
 case buildSlice t n ps=>
  simp only[dk,if_true]at h ⊢;obtain⟨c,h1,h2⟩:=h
  cases dst with
  | none=>cases h1
  | some d=>
   simp only[wr]at h1 ⊢;split at h1
   .split at h1
    .split at h1
     .split at h1
      .simp only[Option.some.injEq,Prod.mk.injEq,St.mk.injEq,true_and]at h1;obtain⟨rfl,rfl,rfl⟩:=h1;exact⟨d,_,rfl,h2.1,rfl,fun H2 h=>⟨_,rfl,h,h2.2⟩⟩
      .cases h1
     .cases h1
    .cases h1
   .cases h1
 case makeMap t rs=>
  simp only[dk,if_true]at h ⊢;obtain⟨c,h1,h2⟩:=h
  cases dst with
  | none=>cases rs<;>cases h1
  | some d=>
   cases rs with
   | some _=>cases h1
   | none=>
    simp only[wr]at h1 ⊢;simp only[Option.some.injEq,Prod.mk.injEq,St.mk.injEq,true_and]at h1;obtain⟨rfl,rfl,rfl⟩:=h1;exact⟨d,_,rfl,h2,rfl,fun H2 h=>⟨_,rfl,h⟩⟩
 case call cc=>
  obtain⟨callee,args,argTypes⟩:=cc
  cases callee with
  | builtin b=>cases b<;>simp at hk
  | _=>simp at hk
end
end Go.Av
namespace Go.Av
section
variable {P:Program} {T:Ty} {Mv X:Nat->Prop} {G:Yt} {N:Fr} {ops:Array Oper}
def Sx (P:Program) (T:Ty) (Mv:Nat->Prop) (G:Yt) (N:Fr) (ops:Array Oper) (o:Oper) (e:Env) (H:Heap) (x:AV) (H':Heap):Prop:=
 cZ N o/\((fc ops e o=some true/\Ex P T Mv G o e H x H')\/(fc ops e o=some false/\x=bX/\H'=H))
theorem fB {o:Oper} {t:Tmp} (h:Operand.tmp t∈o.op.operands):t∈o.looksAt ops:=
 List.mem_append_left _ (List.mem_filterMap.2 ⟨.tmp t,by simpa using h,rfl⟩)
theorem acK {o:Oper} {e e':Env} (h:∀ t∈o.looksAt ops,e t=e' t):fc ops e o=fc ops e' o:=by
 unfold fc;split
 .rfl
 .rename_i j want hg;unfold vK;split
  .rename_i d hd;rw[h d (List.mem_append_right _ (by simp[hg,hd]))]
  .rfl
theorem eG {x y:Oper} (h:x.apart ops y=true) {e:Env} {v:AV}:(∀ t∈y.looksAt ops,aw e x.dst v t=e t)/\(∀ t∈x.looksAt ops,aw e y.dst v t=e t)/\(∀ d,x.dst=some d->y.dst≠some d):=by
 obtain⟨h1,h2,h3⟩:=Oper.apart_spec h;exact⟨fun t ht=>Ic fun e=>h1 t e ht,fun t ht=>Ic fun e=>h3 t e ht,h2⟩
theorem kinds (o:Op):kindOf o=0\/kindOf o=1\/kindOf o=2\/kindOf o=3\/kindOf o=8\/kindOf o=9:=by unfold kindOf;split<;>simp
theorem qM {q p:Oper} (hc:fI ops q p=true) {e:Env} {H H1 H2:Heap} {x y:AV} (hq:Sx P T Mv G N ops q e H x H1) (hp:Sx P T Mv G N ops p (aw e q.dst x) H1 y H2) (FV:kindOf q.op≠9) (FW:kindOf p.op≠9) :
  ∃ H3,Sx P T Mv G N ops p e H y H3/\Sx P T Mv G N ops q (aw e p.dst y) H3 x H2:=by
 simp only[fI,Bool.and_eq_true]at hc;obtain⟨YU,eR⟩:=hc;obtain⟨a1,_,aG⟩:=eG YU (e:=e) (v:=x);obtain⟨_,a2,_⟩:=eG YU (e:=e) (v:=y);have wp:=acK (o:=p) (e:=aw e q.dst x) (e':=e) a1;have wq:=acK (o:=q) (e:=aw e p.dst y) (e':=e) a2;have Dr:dz p.op (aw e q.dst x) e:=fun t ht=>a1 t (fB ht);have Ds:dz q.op e (aw e p.dst y):=fun t ht=>(a2 t (fB ht)).symm;obtain⟨dq,hq⟩:=hq;obtain⟨dp,hp⟩:=hp;rw[wp]at hp
 rcases hq with⟨jS,eq⟩ | ⟨jS,rfl,rfl⟩
 .rcases hp with⟨qy,ep⟩ | ⟨qy,rfl,rfl⟩
  .have n9:=ep.congr FW Dr;have sw:=eq.congr FV Ds
   have fin:∀ H3,Ex P T Mv G p e H y H3->Ex P T Mv G q (aw e p.dst y) H3 x H2->∃ H3,Sx P T Mv G N ops p e H y H3/\Sx P T Mv G N ops q (aw e p.dst y) H3 x H2:=fun H3 h1 h2=>
    ⟨H3,⟨dp,.inl ⟨qy,h1⟩⟩,⟨dq,.inl ⟨by rw[wq];exact jS,h2⟩⟩⟩
   by_cases kp0:kindOf p.op=0
   .obtain rfl:=n9.keeps (by omega);exact fin H (n9.free kp0 H) sw
   .by_cases QO:kindOf q.op=0
    .obtain rfl:=eq.keeps (by omega);exact fin H2 n9 (sw.free QO H2)
    .by_cases kk:kindOf q.op<=2/\kindOf p.op<=2
     .obtain rfl:=eq.keeps kk.1;obtain rfl:=n9.keeps kk.2;exact fin _ n9 sw
     .by_cases k3:kindOf q.op=3/\kindOf p.op=3
      .obtain⟨d,row,hd,hn,rfl,bu⟩:=sw.makes k3.1;obtain⟨d',ey,dt,iG,rfl,zW⟩:=n9.makes k3.2;have YQ:d≠d':=fun e=>aG d hd (by rw[dt,e])
       have gQ:H d'=none:=by simpa[aF,Ne.symm YQ]using iG
       have:aF (aF H d row) d' ey=aF (aF H d' ey) d row:=by
        funext i;by_cases h1:i=d<;>by_cases h2:i=d'<;>simp[aF,h1,h2,YQ,Ne.symm YQ]
       exact fin _ (zW H gQ) (by rw[this];exact bu _ (by simpa[aF,YQ]using hn))
      .by_cases w6:(kindOf q.op=1\/kindOf q.op=2)/\kindOf p.op=3
       .obtain rfl:=eq.keeps (by omega);obtain⟨d,row,hd,hn,rfl,bu⟩:=n9.makes w6.2;exact fin _ n9 (sw.grow w6.1 hn row)
       exfalso
       revert eR
       have c1:kindOf q.op=1\/kindOf q.op=2\/kindOf q.op=3\/kindOf q.op=8:=by have:=kinds q.op;omega
       have c2:kindOf p.op=1\/kindOf p.op=2\/kindOf p.op=3\/kindOf p.op=8:=by have:=kinds p.op;omega
       rcases c1 with c1 | c1 | c1 | c1<;>rcases c2 with c2 | c2 | c2 | c2<;>rw[c1,c2]<;>first | (simp[abk];done) | (exfalso;apply kk;omega) | (exfalso;exact k3 ⟨c1,c2⟩) | (exfalso;exact w6 ⟨.inl c1,c2⟩) | (exfalso;exact w6 ⟨.inr c1,c2⟩)
  .exact⟨H,⟨dp,.inr ⟨qy,rfl,rfl⟩⟩,⟨dq,.inl ⟨by rw[wq];exact jS,eq.congr FV Ds⟩⟩⟩
 .rcases hp with⟨qy,ep⟩ | ⟨qy,rfl,rfl⟩
  .exact⟨H2,⟨dp,.inl ⟨qy,ep.congr FW Dr⟩⟩,⟨dq,.inr ⟨by rw[wq];exact jS,rfl,rfl⟩⟩⟩
  .exact⟨_,⟨dp,.inr ⟨qy,rfl,rfl⟩⟩,⟨dq,.inr ⟨by rw[wq];exact jS,rfl,rfl⟩⟩⟩
def run (P:Program) (T:Ty) (Mv:Nat->Prop) (G:Yt) (N:Fr) (ops:Array Oper):List Nat->St->St->Prop
 | [],σ,af=>σ=af
 | i :: l,σ,af=>∃ o,ops[i]? = some o/\∃ ay,qp P T Mv G N ops o σ ay/\run P T Mv G N ops l ay af
theorem nD {o:Oper} (hk:kindOf o.op≠9) {σ af:St}:qp P T Mv G N ops o σ af↔∃ x H',Sx P T Mv G N ops o σ.env σ.H x H'/\af=⟨aw σ.env o.dst x,H'⟩:=by
 constructor
 .rintro⟨hd,⟨hw,h⟩ | ⟨hw,rfl⟩⟩
  .obtain⟨x,H',h1,h2⟩:=Ex.of hk h;exact⟨x,H',⟨hd,.inl ⟨hw,h1⟩⟩,h2⟩
  .exact⟨bX,σ.H,⟨hd,.inr ⟨hw,rfl,rfl⟩⟩,rfl⟩
 .rintro⟨x,H',⟨hd,⟨hw,h⟩ | ⟨hw,rfl,rfl⟩⟩,rfl⟩
  .exact⟨hd,.inl ⟨hw,h.to⟩⟩
  .exact⟨hd,.inr ⟨hw,rfl⟩⟩
theorem Vd {i j:Nat} {l:List Nat} {σ af:St} {oi oj:Oper} (hi:ops[i]? = some oi) (hj:ops[j]? = some oj) (hc:fI ops oi oj=true) (h:run P T Mv G N ops (i :: j :: l) σ af):run P T Mv G N ops (j :: i :: l) σ af:=by
 obtain⟨o1,h1,ay,s1,o2,h2,Y6,s2,rest⟩:=h;rw[hi]at h1;rw[hj]at h2;obtain rfl:=Option.some.inj h1;obtain rfl:=Option.some.inj h2
 have hk:kindOf oi.op≠9:=by
  intro e;simp only[fI,Bool.and_eq_true,e]at hc;have:=hc.2
  revert this
  have b2:kindOf oj.op=0\/kindOf oj.op=1\/kindOf oj.op=2\/kindOf oj.op=3\/kindOf oj.op=8\/kindOf oj.op=9:=by unfold kindOf;split<;>simp
  rcases b2 with b | b | b | b | b | b<;>rw[b]<;>simp[abk]
 have fq:kindOf oj.op≠9:=by
  intro e;simp only[fI,Bool.and_eq_true,e]at hc;have:=hc.2
  revert this
  have b2:kindOf oi.op=0\/kindOf oi.op=1\/kindOf oi.op=2\/kindOf oi.op=3\/kindOf oi.op=8\/kindOf oi.op=9:=by unfold kindOf;split<;>simp
  rcases b2 with b | b | b | b | b | b<;>rw[b]<;>simp[abk]
 obtain⟨x,H1,e1,rfl⟩:=(nD hk).1 s1;obtain⟨y,H2,e2,rfl⟩:=(nD fq).1 s2;obtain⟨H3,f1,f2⟩:=qM hc e1 e2 hk fq;refine⟨oj,hj,_,(nD fq).2 ⟨y,H3,f1,rfl⟩,oi,hi,_,(nD hk).2 ⟨x,H2,f2,rfl⟩,?_⟩
 have Oe:aw (aw σ.env oi.dst x) oj.dst y=aw (aw σ.env oj.dst y) oi.dst x:=by
  simp only[fI,Bool.and_eq_true]at hc;exact Zk (eG hc.1 (e:=σ.env) (v:=x)).2.2
 dsimp only at rest ⊢;rw[Oe]at rest;exact rest
theorem Vb {p:Nat} {op:Oper} (hp:ops[p]? = some op):∀ (l1:List Nat) {l2:List Nat} {σ af:St},(∀ q∈l1,∀ oq,ops[q]? = some oq->fI ops oq op=true)->run P T Mv G N ops (l1 ++ p :: l2) σ af->run P T Mv G N ops (p :: (l1 ++ l2)) σ af:=by
 intro l1
 induction l1 with
 | nil=>intro l2 σ af _ h;exact h
 | cons q l1 ih=>
  intro l2 σ af bu h;obtain⟨oq,hq,ay,s1,rest⟩:=h;have:=ih (fun q' fP=>bu q' (by simp[fP])) rest;have h2:run P T Mv G N ops (q :: p :: (l1 ++ l2)) σ af:=⟨oq,hq,ay,s1,this⟩;exact Vd hq hp (bu q (by simp) oq hq) h2
theorem CW:∀ (l:List Oper) (acc:List Nat) (k:Nat),k < acc.length->(mz l acc).getD k 0=acc.getD k 0
 | [],_,_,_=>rfl
 | o :: l,acc,k,hk=>by
  rw[mz,CW l _ k (by simp;omega)];simp[List.getD_eq_getElem?_getD,List.getElem?_append_left hk]
theorem adB {acc:List Nat} {o:Oper} {q:Nat} (h:(bitsOf acc o).testBit q=true):∃ e∈o.after,Region.binds .any e=true/\(q=e.on\/(acc.getD e.on 0).testBit q=true):=by
 unfold bitsOf at h
 have key:∀ (l:List Edge),(l.foldr (fun e s=>if Region.binds .any e then (2 ^ e.on ||| acc.getD e.on 0) ||| s else s) 0).testBit q=true->∃ e∈l,Region.binds .any e=true/\(q=e.on\/(acc.getD e.on 0).testBit q=true):=by
  intro l
  induction l with
  | nil=>intro h;simp at h
  | cons e l ih=>
   intro h;rw[List.foldr_cons]at h;split at h
   .rename_i hb;rw[Nat.testBit_or,Nat.testBit_or,Bool.or_eq_true,Bool.or_eq_true]at h
    rcases h with (h | h) | h
    .rw[Nat.testBit_two_pow]at h
     have h':e.on=q:=by simpa using h
     exact⟨e,by simp,hb,.inl h'.symm⟩
    .exact⟨e,by simp,hb,.inr h⟩
    .obtain⟨e',Z7,r⟩:=ih h;exact⟨e',by simp[Z7],r⟩
   .obtain⟨e',Z7,r⟩:=ih h;exact⟨e',by simp[Z7],r⟩
 obtain⟨e,he,r⟩:=key _ h;exact⟨e,by simpa using he,r⟩
theorem uK:∀ (l:List Oper) (acc:List Nat) (j:Nat) (o:Oper) (q:Nat),l[j]? = some o->((mz l acc).getD (acc.length+j) 0).testBit q=true->∃ e∈o.after,Region.binds .any e=true/\(q=e.on\/(e.on < acc.length+j/\((mz l acc).getD e.on 0).testBit q=true))
 | [],_,_,_,_,h,_=>by simp at h
 | o' :: l,acc,0,o,q,h,hb=>by
  simp at h;subst h;rw[mz,CW l _ _ (by simp)]at hb;simp[List.getD_eq_getElem?_getD]at hb;obtain⟨e,he,mW,r⟩:=adB hb;refine⟨e,he,mW,r.imp id fun r=>?_⟩
  have Yv:e.on < acc.length:=by
   rcases Nat.lt_or_ge e.on acc.length with h | h
   .exact h
   .simp[List.getD_eq_getElem?_getD,List.getElem?_eq_none h]at r
  refine⟨by omega,?_⟩;rw[mz,CW l _ _ (by simp;omega)];simpa[List.getD_eq_getElem?_getD,List.getElem?_append_left Yv]using r
 | o' :: l,acc,j+1,o,q,h,hb=>by
  have:=uK l (acc ++ [bitsOf acc o']) j o q (by simpa using h) (by rw[mz]at hb;simpa[Nat.add_assoc,Nat.add_comm 1 j]using hb);obtain⟨e,he,mW,r⟩:=this;refine⟨e,he,mW,r.imp id fun r=>?_⟩;rw[mz];exact⟨by have:=r.1;simp at this;omega,r.2⟩
theorem xw (h:lO ops=true) {j:Nat} {oj:Oper} (hj:ops[j]? = some oj):(∀ e∈oj.after,Region.binds .any e=true->e.on < j)/\
  ∀ i oi,i < j->ops[i]? = some oi->((tb ops).getD j 0).testBit i=true\/(fI ops oi oj=true/\fI ops oj oi=true):=by
 unfold lO at h;have h1:=List.all_eq_true.1 h j (List.mem_range.2 (Array.getElem?_eq_some_iff.1 hj).1);simp only[hj,Bool.and_eq_true]at h1;refine⟨fun e he hb=>?_,fun i oi hi YI=>?_⟩
 .have:=Array.all_eq_true_iff_forall_mem.1 h1.1 e he;simpa[hb]using this
 .have:=List.all_eq_true.1 h1.2 i (List.mem_range.2 hi);simpa[YI]using this
theorem adw (bp:lO ops=true) {listed:Array Bool} (gr:∀ j oj,ops[j]? = some oj->listed.getD j false=true->∀ e∈oj.after,Region.binds .any e=true->listed.getD e.on false=true) :
  ∀ (n j:Nat) (oj:Oper),j<=n->ops[j]? = some oj->(∀ e∈oj.after,Region.binds .any e=true->listed.getD e.on false=true)->∀ q,((tb ops).getD j 0).testBit q=true->listed.getD q false=true:=by
 intro n
 induction n with
 | zero=>
  intro j oj hj ba bu q hq
  have iF:j=0:=by omega
  subst iF;obtain⟨e,he,hb,_⟩:=uK ops.toList [] 0 oj q (by simpa using ba) (by simpa[tb]using hq);have:=(xw bp ba).1 e he hb;omega
 | succ n ih=>
  intro j oj hj ba bu q hq;obtain⟨e,he,hb,r⟩:=uK ops.toList [] j oj q (by simpa using ba) (by simpa[tb]using hq)
  rcases r with rfl | ⟨_,r⟩
  .exact bu e he hb
  .have Yv:=(xw bp ba).1 e he hb
   have bU:e.on < ops.size:=by have:=(Array.getElem?_eq_some_iff.1 ba).1;omega
   exact ih e.on ops[e.on] (by omega) (by simp[bU]) (fun e' Z7 aH=>gr e.on _ (by simp[bU]) (bu e he hb) e' Z7 aH) q (by simpa[tb]using r)
theorem Kx (hg:Good P T) (bp:lO ops=true) {Q:Exit->St->Prop} {w0:World} {eX:Mu} {aX:St} (hQ:Q .normal aX):∀ (n:Nat) (R:List Nat) (listed:Array Bool) (w:World) (μ:Mu) (a:Act) (σ:St),R.length=n->R.Nodup->
  (∀ j,j∈R↔j < ops.size/\listed.getD j true=false)->listed.size=ops.size->(R.Pairwise (· < ·))->
  (∀ j oj,ops[j]? = some oj->listed.getD j false=true->∀ e∈oj.after,Region.binds .any e=true->listed.getD e.on false=true)->run P T Mv G N ops R σ aX->In w X G μ N a σ->Ev Mv w0 eX w μ->
  wpAnyIn (wd N.ro) 0 P .any ops (After Mv X G N w0 eX Q) n listed a w:=by
 intro n
 induction n with
 | zero=>
  intro R listed w μ a σ hl _ hR aK _ _ bt hi aB;have:R=[]:=List.eq_nil_of_length_eq_zero hl;subst this
  have hr:Region.ready .any ops listed=[]:=by
   apply List.eq_nil_iff_forall_not_mem.2;intro j hj;obtain⟨h1,o,ho,_⟩:=mem_ready.1 hj;exact absurd ((hR j).2 ⟨(Array.getElem?_eq_some_iff.1 ho).1,h1⟩) (by simp)
  have:σ=aX:=bt;subst this;exact⟨hr,μ,σ,hQ,hi,aB⟩
 | succ n ih=>
  intro R listed w μ a σ hl fj hR aK eL gr bt hi aB;refine⟨fun hr=>?_,fun i lD=>?_⟩
  .-- the first of the rest may come up
   cases R with
   | nil=>simp at hl
   | cons j R=>
    obtain⟨gu,fY⟩:=(hR j).1 (by simp)
    have hjr:j∈Region.ready .any ops listed:=by
     refine mem_ready.2 ⟨fY,ops[j],by simp[gu],fun e he hb=>?_⟩;have Yv:=(xw bp (j:=j) (oj:=ops[j]) (by simp[gu])).1 e he hb
     have aG:e.on ∉ (j :: R):=by
      intro hm
      rcases List.mem_cons.1 hm with h | h
      .omega
      .have:=(List.pairwise_cons.1 eL).1 _ h;omega
     have:=mt (hR e.on).2 aG
     have bU:e.on < ops.size:=by omega
     have ZF:e.on < listed.size:=by omega
     simp only[bU,true_and,Array.getD_eq_getD_getElem?]at this ⊢;simp[ZF]at this ⊢;exact this
    rw[hr]at hjr;cases hjr
  .obtain⟨cE,oi,YI,bu⟩:=mem_ready.1 lD;have lB:i∈R:=(hR i).2 ⟨(Array.getElem?_eq_some_iff.1 YI).1,cE⟩;obtain⟨R1,R2,rfl⟩:=List.append_of_mem lB
   have lz:=Vb (P:=P) (T:=T) (Mv:=Mv) (G:=G) (N:=N) YI R1 (fun q hq oq hoq=>by
    have PD:q < i:=by
     have:=(List.pairwise_append.1 eL).2.2 q hq i (by simp);exact this
    rcases (xw bp YI).2 q oq PD hoq with h | h
    .exfalso;have hlq:=adw bp gr i i oi (Nat.le_refl _) YI bu q h;have e7:=((hR q).1 (by simp[hq])).2
     have lI:q < listed.size:=by have:=(Array.getElem?_eq_some_iff.1 hoq).1;omega
     simp[Array.getD_eq_getD_getElem?,lI]at hlq e7;rw[hlq]at e7;cases e7
    .exact h.1) bt
   obtain⟨o',Y9,ay,hstep,bx⟩:=lz;rw[YI]at Y9;obtain rfl:=Option.some.inj Y9;refine qq hg hstep hi YI fun w' ak a' ax aao=>?_
   have lG:(R1 ++ R2).Nodup:=by
    have:=fj;rw[List.nodup_append]at this ⊢;obtain⟨g1,g2,g3⟩:=this;exact⟨g1,(List.nodup_cons.1 g2).2,fun x hx y hy=>g3 x hx y (by simp[hy])⟩
   have lC:i ∉ R1 ++ R2:=by
    have:=fj;rw[List.nodup_append]at this;obtain⟨g1,g2,g3⟩:=this;intro hm
    rcases List.mem_append.1 hm with h | h
    .exact g3 i h i (by simp) rfl
    .exact (List.nodup_cons.1 g2).1 h
   refine ih (R1 ++ R2) _ w' ak a' ay (by simp at hl ⊢;omega) lG (fun j=>?_) (by simpa using aK) ?_ ?_ bx ax (aB.trans aao)
   .by_cases cI:j=i
    .subst cI
     have ZF:j < listed.size:=by rw[aK];exact (Array.getElem?_eq_some_iff.1 YI).1
     simp[ZF];simpa using lC
    .rw[getD_set_ne true (Ne.symm cI)];rw[<- hR j];simp[cI]
   .rw[List.pairwise_append]at eL ⊢;obtain⟨g1,g2,g3⟩:=eL;exact⟨g1,(List.pairwise_cons.1 g2).2,fun x hx y hy=>g3 x hx y (by simp[hy])⟩
   .intro j oj ba cQ e he hb;by_cases cI:j=i
    .subst cI;rw[YI]at ba;obtain rfl:=Option.some.inj ba;exact getD_set_true (bu e he hb)
    .rw[getD_set_ne false (Ne.symm cI)]at cQ;exact getD_set_true (gr j oj ba cQ e he hb)
def o7 (P:Program) (T:Ty) (Mv:Nat->Prop) (G:Yt) (N:Fr) (ops:Array Oper) (K:St->Prop):List Oper->St->Prop
 | [],σ=>K σ
 | o :: rest,σ=>cZ N o/\match fc ops σ.env o with
  | some b=>if b=true then (match YK o.op with
    | some c=>∃ y,sg P G σ c y/\o7 P T Mv G N ops K rest ⟨aw σ.env o.dst (.d y),σ.H⟩
    | none=>aaK T G Mv o σ (o7 P T Mv G N ops K rest)) else o7 P T Mv G N ops K rest ⟨aw σ.env o.dst bX,σ.H⟩
  | none=>False
theorem VW {K:St->Prop}:∀ (l:List Oper) (k:Nat) (σ:St),(∀ j,l[j]? = ops[k+j]?)->o7 P T Mv G N ops K l σ->∃ aX,K aX/\run P T Mv G N ops (List.range' k l.length) σ aX:=by
 intro l
 induction l with
 | nil=>intro k σ _ h;exact⟨σ,h,rfl⟩
 | cons o l ih=>
  intro k σ hl h
  have h0:ops[k]? = some o:=by simpa using (hl 0).symm
  have fi:∀ j,l[j]? = ops[k+1+j]?:=fun j=>by have:=hl (j+1);simpa[Nat.add_assoc,Nat.add_comm 1 j]using this
  obtain⟨hd,h⟩:=h;rw[List.length_cons,List.range'_succ]
  have fin:∀ ay,qp P T Mv G N ops o σ ay->o7 P T Mv G N ops K l ay->∃ aX,K aX/\run P T Mv G N ops (k :: List.range' (k+1) l.length) σ aX:=by
   intro ay hs hq;obtain⟨aX,hk,hr⟩:=ih (k+1) ay fi hq;exact⟨aX,hk,o,h0,ay,hs,hr⟩
  split at h
  .rename_i b hb;split at h
   .rename_i mY;subst mY;split at h
    .rename_i c hc;obtain⟨y,hy,h⟩:=h;refine fin _ ⟨hd,.inl ⟨hb,?_⟩⟩ h;unfold iB;simp only[hc];exact⟨y,hy,rfl⟩
    .rename_i hc;unfold aaK at h;split at h
     .rename_i hw;split at h
      .rename_i c x ay h1;refine fin _ ⟨hd,.inl ⟨hb,?_⟩⟩ h.2;unfold iB;simp only[hc];rw[if_pos hw];exact⟨c,x,ay,h1,h.1,rfl⟩
      .exact h.elim
     .rename_i hw;split at h
      .rename_i c x h1;refine fin _ ⟨hd,.inl ⟨hb,?_⟩⟩ h.2;unfold iB;simp only[hc];rw[if_neg hw];exact⟨c,x,h1,h.1,rfl⟩
      .exact h.elim
   .rename_i sY
    have:b=false:=by simpa using sY
    subst this;exact fin _ ⟨hd,.inr ⟨hb,rfl⟩⟩ h
  .exact h.elim
theorem J7 (hg:Good P T) (hm:P.follows .mixedOrders=true) {id:Nat} (bp:lO ops=true) {Q:Exit->St->Prop} {σ:St} (h:o7 P T Mv G N ops (fun af=>Q .normal af) ops.toList σ):AW P Mv X G N (.region id ops true) Q σ:=fun w μ a hi=>by
 obtain⟨aX,hQ,bt⟩:=VW ops.toList 0 σ (by simp) h;refine wpIn_region_any hm ?_;obtain⟨ax,aB⟩:=hi.iW (Mv:=Mv) (bQ.drew w);refine Kx hg bp hQ ops.size (List.range' 0 ops.toList.length) _ w.drew μ a σ (by simp) (by simpa using List.nodup_range') (fun j=>?_) (by simp) (by simpa using List.pairwise_lt_range') ?_ bt ax aB
 .simp[List.mem_range'_1];intro h;simp[Array.getD_eq_getD_getElem?,h]
 .intro j oj ba cQ;have hj:=(Array.getElem?_eq_some_iff.1 ba).1;simp[Array.getD_eq_getD_getElem?,hj]at cQ
end
def dG (P:Program) (t:TypeId):Bool:=!P.stoodInHeld t && !P.eqGuardType P.depth t
def bW (P:Program):Ty:=fun t=>match P.underlying t,P.info? t with
 | some d,some i=>i.zero.map fun z=>⟨d,i.size,i.bytes,z,dG P t⟩
 | _,_=>none
theorem au (P:Program):Good P (bW P):=by
 intro t ti h;unfold bW at h;split at h
 .rename_i d i hd hi;obtain⟨z,hz,rfl⟩:=Option.map_eq_some_iff.1 h;exact⟨hd,i,hi,rfl,rfl,hz,fun h=>by unfold dG at h;simpa using h⟩
 .cases h
end Go.Av
namespace Go.Av
def qb:List Nat->Env->List (Nat×AV)
 | [],_=>[]
 | i :: l,e=>match e i with
  | some x=>(i,x) :: qb l e
  | none=>qb l e
section
variable {P:Program} {T:Ty} {Mv X:Nat->Prop} {G:Yt} {N:Fr} {σ:St}
theorem aD.env {e e':Env} {H:Heap} (h:∀ i x,e' i=some x->e i=some x):aD Mv X G N ⟨e,H⟩ ⟨e',H⟩:=fun w μ _ hi=>
 ⟨μ,⟨hi.aL,⟨hi.env.defers,hi.env.size,fun i x hx=>hi.env.slot i x (h i x hx)⟩,hi.eZ⟩,.refl _ w μ⟩
theorem BO {e:Env}:∀ {l:List Nat} {i:Nat} {x:AV},YB (qb l e) i=some x->e i=some x
 | [],_,_,h=>by simp[YB,qb]at h
 | j :: l,i,x,h=>by
  simp only[qb]at h;split at h
  .rename_i y hy;simp only[YB,List.lookup]at h;split at h
   .rename_i ke
    have:i=j:=by simpa using ke
    subst this;obtain rfl:=Option.some.inj h;exact hy
   .exact BO (l:=l) h
  .exact BO (l:=l) h
theorem ae {x y:Code} {Q:Exit->St->Prop} (h:∀ K:St->Prop,(∀ af,AW P Mv X G N y Q af->K af)->AW P Mv X G N x (YC K Q) σ):AW P Mv X G N (.seq x y) Q σ:=pc (h _ fun _ h=>h)
theorem xh:∀ {l:List (Nat×AV)} {i:Nat} {x:AV},YB l i=some x->(i,x)∈l
 | [],_,_,h=>by simp[YB]at h
 | (j,y) :: l,i,x,h=>by
  simp only[YB,List.lookup]at h;split at h
  .rename_i ke
   have:i=j:=by simpa using ke
   subst this;obtain rfl:=Option.some.inj h;simp
  .exact List.mem_cons_of_mem _ (xh (l:=l) h)
theorem aD.YB {e:Env} {H:Heap} {l:List (Nat×AV)} (h:∀ p∈l,e p.1=some p.2):aD Mv X G N ⟨e,H⟩ ⟨YB l,H⟩:=aD.env fun i x hx=>h (i,x) (xh hx)
def bo (Mv X:Nat->Prop) (G:Yt) (N:Fr) {S:Type} (I:S->Prop) (inv:S->St) (jG:S->Nat) (s:S) (σ:St):Prop:=∃ s',I s'/\jG s' < jG s/\aD Mv X G N σ (inv s')
theorem bo.mk {S:Type} {I:S->Prop} {inv:S->St} {jG:S->Nat} {s:S} (s':S) (hI:I s') (hm:jG s' < jG s) (h:aD Mv X G N σ (inv s')):bo Mv X G N I inv jG s σ:=⟨s',hI,hm,h⟩
theorem cr {S:Type} {id:Nat} {c:Code} {Q:Exit->St->Prop} (I:S->Prop) (inv:S->St) (jG:S->Nat) (s0:S) (h0:aD Mv X G N σ (inv s0)) (hI:I s0)
  (round:∀ s,I s->AW P Mv X G N c (YC (bo Mv X G N I inv jG s) (bd id Q)) (inv s)):AW P Mv X G N (.block id (.loop c)) Q σ:=
 YF (JU (S:={s // I s}) (fun s=>inv s.1) (fun s=>jG s.1) ⟨s0,hI⟩ h0 fun s=>(round s.1 s.2).mono fun e τ q=>by
  cases e with
  | normal=>obtain⟨s',h1,h2,h3⟩:=q;exact⟨⟨s',h1⟩,h2,h3⟩
  | _=>exact q)
theorem eM {c:Operand} {x y:Code} {Q:Exit->St->Prop} {b:Prop} [Decidable b] (hc:aT G σ.env c=some (.d (.v (.bool (decide b))))) (ht:b->AW P Mv X G N x Q σ) (hf:¬ b->AW P Mv X G N y Q σ):AW P Mv X G N (.cond c x y) Q σ:=
 kB (decide b) hc (fun h=>ht (of_decide_eq_true h)) (fun h=>hf (of_decide_eq_false h))
end
end Go.Av
namespace Go.Av
def tZ (l:List AV):AV:=match ZM l with
 | some ds=>.d (.aR ds)
 | none=>.aR l
def AV.tr (o f:Nat->Nat->Nat->AV):AV->AV
 | .d x=>.d x
 | .own q off n=>o q off n
 | .ref q e j=>f q e j
 | .agg cells=>kr (go o f cells)
 | .aR vs=>tZ (go o f vs)
 | .bg t x=>tY t (x.tr o f)
 | .fn g caps=>tX g (go o f caps)
 | .bm g x=>.bm g (x.tr o f)
 | .mp q=>match f q 0 0 with
  | .ref q' _ _=>.mp q'
  | _=>.dead
 | .dead=>.dead
where
 go (o f:Nat->Nat->Nat->AV):List AV->List AV
 | []=>[]
 | x :: l=>x.tr o f :: go o f l
theorem AV.rZ (o f:Nat->Nat->Nat->AV) (l:List AV):AV.tr.go o f l=l.map (AV.tr o f):=by
 induction l with
 | nil=>rfl
 | cons x l ih=>simp[AV.tr.go,ih]
def Row.tr (o f:Nat->Nat->Nat->AV):Row->Row
 | .sl ty sz els=>.sl ty sz els
 | .box ty cells=>.box ty (cells.map (AV.tr o f))
 | .mp ty ents=>.mp ty ents
 | .it ents seen=>.it ents seen
def gE (o f:Nat->Nat->Nat->AV) (e:Env):Env:=fun i=>(e i).map (AV.tr o f)
def cy (keep:Nat->Bool) (o f:Nat->Nat->Nat->AV) (H:Heap):Heap:=fun r=>if keep r then (H r).map (Row.tr o f) else none
def br (keep:Nat->Bool) (μ:Mu):Mu:=fun r=>if keep r then μ r else none
section
variable {P:Program} {T:Ty} {Mv X:Nat->Prop} {G:Yt} {N:Fr} {w:World} {μ:Mu} {a:Act} {σ:St}
theorem xk {u:Value} {l:List AV} (h:RV w X μ u (.aR l)):RV w X μ u (tZ l):=by
 unfold tZ;split
 .rename_i ds hd;rw[jZ hd]at h;obtain⟨arr,rfl,hn,hr⟩:=h.r0;refine .d (.aR (by simpa using hn) fun j u c hu hc=>?_);exact (hr j u (.d c) hu (by rw[List.getElem?_map,hc];rfl)).data
 .exact h
theorem fC {keep:Nat->Bool} {r:Nat} {m:ff} (h:br keep μ r=some m):keep r=true/\μ r=some m:=by
 unfold br at h;split at h
 .rename_i hk;exact⟨hk,h⟩
 .cases h
theorem r8 {keep:Nat->Bool} {b:Nat} (h:XX X (br keep μ) b):XX X μ b:=h.elim .inl fun ⟨r,m,hr,hb⟩=>.inr ⟨r,m,(fC hr).2,hb⟩
theorem RV.tr {ak:Mu} {o f:Nat->Nat->Nat->AV} (hX:∀ b,XX X ak b->XX X μ b) (ho:∀ u r off n,RV w X μ u (.own r off n)->RV w X ak u (o r off n)) (hf:∀ u r e j,RV w X μ u (.ref r e j)->RV w X ak u (f r e j)) :
  ∀ {v:Value} {x:AV},RV w X μ v x->RV w X ak v (x.tr o f):=by
 intro v x hr
 induction hr with
 | d h'=>exact .d (h'.mono (Nat.le_refl _) fun b _ hb=>⟨rfl,fun e=>hb (hX b e)⟩)
 | own hm h'=>exact ho _ _ _ _ (.own hm h')
 | ref hm hb=>exact hf _ _ _ _ (.ref hm hb)
 | agg hn _ ih=>
  rw[AV.tr,AV.rZ];refine tW (.agg (by simpa using hn) fun j u c hu hc=>?_);rw[List.getElem?_map]at hc;obtain⟨c',YS,rfl⟩:=Option.map_eq_some_iff.1 hc;exact ih j u c' hu YS
 | aR hn _ ih=>
  rw[AV.tr,AV.rZ];refine xk (.aR (by simpa using hn) fun j u c hu hc=>?_);rw[List.getElem?_map]at hc;obtain⟨c',YS,rfl⟩:=Option.map_eq_some_iff.1 hc;exact ih j u c' hu YS
 | bg _ ih=>exact BU ih
 | bm _ ih=>exact .bm ih
 | fn hn _ ih=>
  rw[AV.tr,AV.rZ];refine BT (by simpa using hn) fun j u c hu hc=>?_;rw[List.getElem?_map]at hc;obtain⟨c',YS,rfl⟩:=Option.map_eq_some_iff.1 hc;exact ih j u c' hu YS
 | mp hm hb=>
  rename_i r b m;have h0:=hf _ _ _ _ (RV.ref (e:=0) (j:=0) hm hb);unfold AV.tr;split
  .rename_i q' e' j' hq;rw[hq]at h0;obtain⟨m',b',bA,aH,e⟩:=h0.gC;simp only[Value.pointer.injEq,Option.some.injEq,Addr.mk.injEq]at e;obtain⟨rfl,_⟩:=e;exact .mp bA aH
  .exact .dead _
 | dead u=>exact .dead u
theorem qS {keep:Nat->Bool} (hk:∀ r m,μ r=some m->keep r=false->Mv r):Ev Mv w μ w (br keep μ):=by
 refine⟨Nat.le_refl _,rfl,rfl,rfl,fun b hb hr=>⟨rfl,?_⟩,fun q mq hq hn=>?_⟩
 .rintro⟨q,mq,hq,gp⟩;exact hr ⟨q,mq,(fC hq).2,gp⟩
 .unfold br
  cases h:keep q with
  | true=>simpa using hq
  | false=>exact absurd (hk q mq hq h) hn
theorem In.tr {keep:Nat->Bool} {o f:Nat->Nat->Nat->AV} (hi:In w X G μ N a σ) (ho:∀ u r off n,RV w X μ u (.own r off n)->RV w X (br keep μ) u (o r off n)) (hf:∀ u r e j,RV w X μ u (.ref r e j)->RV w X (br keep μ) u (f r e j)) :
  In w X G (br keep μ) N a ⟨gE o f σ.env,cy keep o f σ.H⟩:=by
 have hX:∀ b,XX X (br keep μ) b->XX X μ b:=fun b=>r8;have mT:∀ {u:Value} {x:D},RD w (XX X μ) u x->RD w (XX X (br keep μ)) u x:=fun h=>h.mono (Nat.le_refl _) fun b _ hb=>⟨rfl,fun e=>hb (hX b e)⟩;have sR:∀ {u:Value} {x:AV},RV w X μ u x->RV w X (br keep μ) u (x.tr o f):=fun h=>RV.tr hX ho hf h
 refine⟨⟨fun r row hr=>?_,fun r m hr=>?_,fun q q' m1 m2 b h1 h2 Y8 Y4=>hi.aL.inj q q' m1 m2 b (fC h1).2 (fC h2).2 Y8 Y4,fun q mq b hq hb=>hi.aL.frame q mq b (fC hq).2 hb,hi.aL.fits⟩,
  ⟨hi.env.defers,hi.env.size,fun i x hx=>?_⟩,fun g x hx=>mT (hi.eZ g x hx)⟩
 .replace hr:cy keep o f σ.H r=some row:=hr;unfold cy at hr;split at hr
  .rename_i hk;obtain⟨jj,h0,rfl⟩:=Option.map_eq_some_iff.1 hr;obtain⟨m,hm,ok⟩:=hi.aL.rows r jj h0;refine⟨m,by simp[br,hk,hm],?_⟩
   cases ok with
   | nil h1 h2=>exact .nil h1 h2
   | sl h1 h2 h3 h4 h5 h6 h7 h8 h9=>exact .sl h1 h2 h3 h4 h5 h6 h7 h8 fun i j el c he hc=>let ⟨u,hu,hr⟩:=h9 i j el c he hc;⟨u,hu,mT hr⟩
   | box h1 h2 h3 h4 h5 h6 h7=>
    refine .box h1 rfl h3 h4 (by simpa using h5) (fun j u c hu hc=>?_) (by simpa using h7);rw[List.getElem?_map]at hc;obtain⟨c',YS,rfl⟩:=Option.map_eq_some_iff.1 hc;exact sR (h6 j u c' hu YS)
   | mp h1 h2 h3 h4=>exact .mp h1 h2 h3 fun i e p he hp=>let ⟨a,b,c⟩:=h4 i e p he hp;⟨a,b,mT c⟩
   | it h1 h2 h3=>exact .it h1 h2 (mT h3)
  .cases hr
 .obtain⟨hk,hm⟩:=fC hr;obtain⟨row,YN⟩:=hi.aL.gl r m hm;exact⟨row.tr o f,by simp[cy,hk,YN]⟩
 .replace hx:gE o f σ.env i=some x:=hx;unfold gE at hx;obtain⟨x0,h0,rfl⟩:=Option.map_eq_some_iff.1 hx;obtain⟨u,hu,hr⟩:=hi.env.slot i x0 h0;exact⟨u,hu,sR hr⟩
theorem RV.ui {keep:Nat->Bool} {u:Value} {r off n:Nat} (hk:keep r=true) (h:RV w X μ u (.own r off n)):RV w X (br keep μ) u (.own r off n):=by
 obtain⟨m,hm,hh⟩:=h.gV;exact .own (by simp[br,hk,hm]) hh
theorem RV.ur {keep:Nat->Bool} {u:Value} {r e j:Nat} (hk:keep r=true) (h:RV w X μ u (.ref r e j)):RV w X (br keep μ) u (.ref r e j):=by
 obtain⟨m,b,hm,hb,rfl⟩:=h.gC;exact .ref (by simp[br,hk,hm]) hb
def cM (ns:List Nat) (q off n:Nat):AV:=if ns.contains q then .own q off n else .dead
def cL (ns:List Nat) (q e j:Nat):AV:=if ns.contains q then .ref q e j else .dead
def oQ:List Nat->Heap->List (Nat×Row)
 | [],_=>[]
 | r :: l,H=>match H r with
  | some row=>(r,row) :: oQ l H
  | none=>oQ l H
theorem aD.only (ns:List Nat) (hm:∀ r,ns.contains r=false->Mv r):aD Mv X G N σ ⟨gE (cM ns) (cL ns) σ.env,cy ns.contains (cM ns) (cL ns) σ.H⟩:=fun w μ a hi=>by
 refine⟨br ns.contains μ,hi.tr (fun u r off n h=>?_) (fun u r e j h=>?_),qS fun r _ _ h=>hm r h⟩
 .unfold cM;split
  .rename_i hk;exact h.ui hk
  .exact .dead u
 .unfold cL;split
  .rename_i hk;exact h.ur hk
  .exact .dead u
theorem F1 {H:Heap}:∀ {l:List Nat} {r:Nat},ah (oQ l H) r=if l.contains r then H r else none
 | [],r=>by simp[ah,oQ]
 | q :: l,r=>by
  have ih:=F1 (H:=H) (l:=l) (r:=r);simp only[oQ];split
  .rename_i row YN;simp only[ah,List.lookup,List.contains_cons];split
   .rename_i hrq
    have:r=q:=by simpa using hrq
    subst this;simp[YN]
   .rename_i hrq;rw[hrq,Bool.false_or];exact ih
  .rename_i YN;rw[ih,List.contains_cons];by_cases hrq:r=q
   .subst hrq;simp[YN]
   .simp[hrq]
def St.norm (l ns:List Nat) (σ:St):St:=⟨YB (qb l (gE (cM ns) (cL ns) σ.env)),ah (oQ ns (cy ns.contains (cM ns) (cL ns) σ.H))⟩
theorem Pc {ns:List Nat} {o f:Nat->Nat->Nat->AV} {H:Heap}:ah (oQ ns (cy ns.contains o f H))=cy ns.contains o f H:=by
 funext r;rw[F1];unfold cy;split<;>simp_all
theorem aD.norm (l ns:List Nat) (hm:∀ r,ns.contains r=false->Mv r):aD Mv X G N σ (σ.norm l ns):=by
 refine (aD.only ns hm).trans ?_;unfold St.norm;rw[Pc];exact aD.env fun _ _=>BO
theorem aD.to {e:Env} {H:Heap} {l:List (Nat×AV)} {rows:List (Nat×Row)} (hm:∀ r,(rows.map (·.1)).contains r=false->Mv r) (he:∀ p∈l,(e p.1).map (AV.tr (cM (rows.map (·.1))) (cL (rows.map (·.1))))=some p.2)
  (hH:∀ r,ah rows r=cy (rows.map (·.1)).contains (cM (rows.map (·.1))) (cL (rows.map (·.1))) H r):aD Mv X G N ⟨e,H⟩ ⟨Go.Av.YB l,ah rows⟩:=by
 refine (aD.only (rows.map (·.1)) hm).trans ?_;have:ah rows=cy (rows.map (·.1)).contains (cM (rows.map (·.1))) (cL (rows.map (·.1))) H:=funext hH;rw[this];exact aD.env fun i x hx=>he (i,x) (xh hx)
theorem xL {rows:List (Nat×Row)} {H:Heap} {o f:Nat->Nat->Nat->AV} (h:∀ p∈rows,(H p.1).map (Row.tr o f)=ah rows p.1):∀ r,ah rows r=cy (rows.map (·.1)).contains o f H r:=by
 intro r;unfold cy;split
 .rename_i hk;obtain⟨p,hp,rfl⟩:=List.mem_map.1 (List.contains_iff_mem.1 hk);exact (h p hp).symm
 .rename_i hk
  have:∀ l:List (Nat×Row),¬ (l.map (·.1)).contains r=true->ah l r=none:=by
   intro l
   induction l with
   | nil=>intro _;rfl
   | cons q l ih=>
    intro hc;simp only[List.map_cons,List.contains_cons,Bool.or_eq_true,not_or]at hc;simp only[ah,List.lookup];split
    .rename_i h1;exact absurd h1 hc.1
    .exact ih hc.2
  exact this rows hk
theorem aD.dw {e:Env} {H:Heap} {l:List (Nat×AV)} {rows:List (Nat×Row)} (hm:∀ r,(rows.map (·.1)).contains r=false->Mv r) (he:∀ p∈l,(e p.1).map (AV.tr (cM (rows.map (·.1))) (cL (rows.map (·.1))))=some p.2)
  (hH:∀ p∈rows,(H p.1).map (Row.tr (cM (rows.map (·.1))) (cL (rows.map (·.1))))=ah rows p.1):aD Mv X G N ⟨e,H⟩ ⟨Go.Av.YB l,ah rows⟩:=aD.to hm he (xL hH)
def od (r:Nat) (els:List (List D)) (q off n:Nat):AV:=if q=r then (if off=0/\n=els.length then .d (.sl none els) else if off+n<=els.length then .d (.sl none ((els.drop off).take n)) else .dead) else .own q off n
def abr (r:Nat) (q e j:Nat):AV:=if q=r then .dead else .ref q e j
def ea (r:Nat) (q:Nat):Bool:=!(q == r)
def St.freeze (r:Nat) (σ:St):St:=match σ.H r with
 | some (.sl _ _ els)=>⟨gE (od r els) (abr r) σ.env,cy (ea r) (od r els) (abr r) σ.H⟩
 | _=>σ
theorem aD.freeze (r:Nat) (hm:Mv r):aD Mv X G N σ (σ.freeze r):=fun w μ a hi=>by
 unfold St.freeze;split
 .rename_i ty sz els hr
  have tl:(fun q=>if q=r then none else μ q)=br (ea r) μ:=by
   funext q;unfold br ea;by_cases h:q=r<;>simp[h]
  refine⟨br (ea r) μ,hi.tr (fun u q off n h=>?_) (fun u q e j h=>?_),qS fun q _ _ hq=>by
   have e:q=r:=by simpa[ea]using hq
   exact e ▸ hm⟩
  .unfold od;split
   .rename_i hq;subst hq
    have hd:∀ {off n:Nat},RV w X μ u (.own q off n)->off+n<=els.length->RV w X (br (ea q) μ) u (.d (.sl none ((els.drop off).take n))):=fun h hle=>by
     obtain⟨k,hk,_⟩:=xy hi.aL hr hle h;rw[tl]at hk;exact .d hk.lR
    split
    .rename_i h2;obtain⟨rfl,rfl⟩:=h2;have:=hd h (by omega);simpa using this
    .split
     .rename_i hle;exact hd h hle
     .exact .dead u
   .rename_i hq;exact h.ui (by simp[ea,hq])
  .unfold abr;split
   .exact .dead u
   .rename_i hq;exact h.ur (by simp[ea,hq])
 .exact⟨μ,hi,.refl _ w μ⟩
def vF (r:Nat) (ds:List D) (q e j:Nat):AV:=if q=r then (if e=0 then .d (.ip (ds.drop j)) else .dead) else .ref q e j
def vG (r:Nat) (q off n:Nat):AV:=if q=r then .dead else .own q off n
def St.lX (r:Nat) (σ:St):St:=match σ.H r with
 | some (.box _ cells)=>match ZM cells with
  | some ds=>⟨gE (vG r) (vF r ds) σ.env,cy (ea r) (vG r) (vF r ds) σ.H⟩
  | none=>σ
 | _=>σ
theorem aD.lX (r:Nat) (hm:Mv r):aD Mv X G N σ (σ.lX r):=fun w μ a hi=>by
 unfold St.lX;split
 .rename_i ty cells hr;split
  .rename_i ds Z6
   refine⟨br (ea r) μ,hi.tr (fun u q off n h=>?_) (fun u q e j h=>?_),qS fun q _ _ hq=>by
    have e:q=r:=by simpa[ea]using hq
    exact e ▸ hm⟩
   .unfold vG;split
    .exact .dead u
    .rename_i hq;exact h.ui (by simp[ea,hq])
   .unfold vF;split
    .rename_i hq;subst hq;split
     .rename_i he;subst he;obtain⟨m,b,rh,hb,rfl⟩:=h.gC;obtain⟨m',bA,ok⟩:=hi.aL.rows q _ hr;rw[rh]at bA;obtain rfl:=Option.some.inj bA
      cases ok with
      | box aH aK fL hh hn gR Bm=>
       rename_i b' cur;rw[hb]at aH;obtain rfl:=Option.some.inj aH;have Z4:=jZ Z6
       have hlen:cells.length=ds.length:=by rw[Z4,List.length_map]
       simp only[Nat.zero_mul,Nat.zero_add];refine .d (.ip (f:=fun i=>cur.getD (j+i) undef) ?_ (Array.getElem?_eq_some_iff.1 hh).1 (fun i cz=>?_) fun i d dt=>?_)
       .rintro (hX | ⟨q',m',fP,N5⟩)
        .exact hi.aL.frame q m b rh hb hX
        .obtain⟨hk,Ph⟩:=fC fP;have:=hi.aL.inj q' q m' m b Ph rh N5 hb;simp[ea,this]at hk
       .simp only[List.length_drop]at cz;rw[cell_of_row w b (j+i) cur ty (0,0) hh];simp[Array.getD_eq_getD_getElem?,show j+i < cur.size by omega]
       .have cz:=(List.getElem?_eq_some_iff.1 dt).1;simp only[List.length_drop]at cz;rw[List.getElem?_drop]at dt
        have hc:cells[j+i]? = some (.d d):=by rw[Z4,List.getElem?_map,dt];rfl
        have Yv:j+i < cur.size:=by omega
        have:=gR (j+i) cur[j+i] (.d d) (by simp[Yv]) hc;simp only[Array.getD_eq_getD_getElem?,Yv,Array.getElem?_eq_getElem,Option.getD_some];exact this.data.sub fun b=>r8
     .exact .dead u
    .rename_i hq;exact h.ur (by simp[ea,hq])
  .exact⟨μ,hi,.refl _ w μ⟩
 .exact⟨μ,hi,.refl _ w μ⟩
def St.pA (r:Nat) (σ:St):St:=(σ.freeze r).lX r
theorem aD.pA (r:Nat) (hm:Mv r):aD Mv X G N σ (σ.pA r):=(aD.freeze r hm).trans (aD.lX r hm)
theorem aD.kD (i r ty sz:Nat) {e:Env} {H:Heap} (hr:H r=none) (he:e i=some (.d (.sl (some false) []))):aD Mv X G N ⟨e,H⟩ ⟨fb e i (.own r 0 0),aF H r (.sl ty sz [])⟩:=fun w μ a hi=>by
 obtain⟨ax,ev⟩:=hi.alloc (Mv:=Mv) (w':=w) (m:=⟨none,sz,0⟩) hr (bQ.refl w) (by simp) (row:=.sl ty sz []) fun _=>.nil rfl rfl;refine⟨cq μ r ⟨none,sz,0⟩,⟨ax.aL,⟨ax.env.defers,ax.env.size,fun j x hx=>?_⟩,ax.eZ⟩,ev⟩;simp only[fb]at hx;split at hx
 .rename_i hj;subst hj;obtain rfl:=Option.some.inj hx;obtain⟨u,hu,Zt⟩:=hi.env.slot j _ he;refine⟨u,hu,.own (m:=⟨none,sz,0⟩) (by simp[cq]) (.inl ⟨rfl,?_,rfl,rfl⟩)⟩
  rcases Zt.data.k8 with⟨rfl,_⟩ | ⟨_,_,_,hk,_⟩
  .rfl
  .exact absurd rfl hk
 .exact ax.env.slot j x hx
end
end Go.Av
namespace Go.Av
theorem adE (a b:Int):(a != b)=decide (¬ a=b):=by by_cases h:a=b<;>simp[h]
theorem adx (a b:Int):(a == b)=decide (a=b):=by by_cases h:a=b<;>simp[h]
theorem aQ {α β:Type} (f:α->β) (l:List α):List.take l.length (List.map f l)=List.map f l:=List.take_of_length_le (by simp)
def rowsOf (H:Heap):Nat->AV->List Nat
 | 0,_=>[]
 | _+1,.own r _ _=>[r]
 | k+1,.ref r _ _=>match H r with
  | some (.box _ cells)=>go H k cells ++ [r]
  | _=>[]
 | k+1,.agg cells=>go H k cells
 | k+1,.bg _ x=>rowsOf H k x
 | _+1,_=>[]
where
 go (H:Heap) (k:Nat):List AV->List Nat
 | []=>[]
 | x :: l=>rowsOf H k x ++ go H k l
def lq:List Nat->St->St
 | [],σ=>σ
 | r :: l,σ=>lq l (σ.pA r)
def rN (G:Yt) (o:Oper) (σ:St):St:=match o.op with
 | .buildSlice _ _ parts=>match aal G σ.env parts.toList with
  | some ps=>lq (rowsOf.go σ.H 6 (ps.map (·.2))) σ
  | none=>σ
 | .mapUpdate _ _ _ v=>match aT G σ.env v with
  | some x=>lq (rowsOf σ.H 6 x) σ
  | none=>σ
 | .insert _ _ _ v=>match aT G σ.env v with
  | some x=>lq (rowsOf σ.H 6 x) σ
  | none=>σ
 | _=>σ
def xC (G:Yt) (o:Oper) (σ:St):List Nat:=match o.op with
 | .buildSlice _ _ parts=>match aal G σ.env parts.toList with
  | some ps=>rowsOf.go σ.H 6 (ps.map (·.2))
  | none=>[]
 | .mapUpdate _ _ _ v=>match aT G σ.env v with
  | some x=>rowsOf σ.H 6 x
  | none=>[]
 | .insert _ _ _ v=>match aT G σ.env v with
  | some x=>rowsOf σ.H 6 x
  | none=>[]
 | _=>[]
def YR (P:Program) (Mv X:Nat->Prop) (G:Yt) (N:Fr) (g:FuncId) (xs:List AV) (σ:St) (dst:Option Tmp) (next:St->Prop):Prop:=
 gI P Mv X G N g xs σ fun x af=>next ⟨aw af.env dst x,af.H⟩
def aak (P:Program) (G:Yt) (c:Call) (σ:St) (dst:Option Tmp) (next:St->Prop):Prop:=∃ y,sg P G σ c y/\next ⟨aw σ.env dst (.d y),σ.H⟩
def py (P:Program) (T:Ty) (Mv X:Nat->Prop) (G:Yt) (N:Fr) (o:Oper) (σ:St) (next:St->Prop):Prop:=match YK o.op with
 | some c=>match ZC G σ.env c with
  | some (g,xs)=>YR P Mv X G N g xs σ o.dst next
  | none=>False
 | none=>(∀ r∈xC G o σ,Mv r)/\aaK T G Mv o (rN G o σ) next
def fD (P:Program) (T:Ty) (Mv X:Nat->Prop) (G:Yt) (N:Fr) (ops:Array Oper) (K:St->Prop):List Oper->St->Prop
 | [],σ=>K σ
 | o :: rest,σ=>cZ N o/\match fc ops σ.env o with
  | some b=>if b=true then py P T Mv X G N o σ (fD P T Mv X G N ops K rest) else fD P T Mv X G N ops K rest ⟨aw σ.env o.dst bX,σ.H⟩
  | none=>False
def jP (P:Program) (T:Ty) (Mv:Nat->Prop) (G:Yt) (N:Fr) (ops:Array Oper) (K:St->Prop):List Oper->St->Prop
 | [],σ=>K σ
 | o :: rest,σ=>cZ N o/\match fc ops σ.env o with
  | some b=>if b=true then (match YK o.op with
    | some c=>aak P G c σ o.dst (jP P T Mv G N ops K rest)
    | none=>aaK T G Mv o σ (jP P T Mv G N ops K rest)) else jP P T Mv G N ops K rest ⟨aw σ.env o.dst bX,σ.H⟩
  | none=>False
section
variable {P:Program} {T:Ty} {Mv X:Nat->Prop} {G:Yt} {N:Fr} {w:World} {μ:Mu} {a:Act} {σ:St}
theorem Jm {ops:Array Oper} {K:St->Prop}:∀ (l:List Oper),jP P T Mv G N ops K l=o7 P T Mv G N ops K l
 | []=>rfl
 | o :: l=>by
  funext σ;simp only[jP,o7,aak,Jm l]
  all_goals rfl
theorem aD.lq:∀ (l:List Nat) {σ:St},(∀ r∈l,Mv r)->aD Mv X G N σ (Go.Av.lq l σ)
 | [],σ,_=>.refl σ
 | r :: l,_,hm=>(aD.pA r (hm r (by simp))).trans (aD.lq l fun q hq=>hm q (by simp[hq]))
theorem aD.rN (o:Oper) (hm:∀ r∈xC G o σ,Mv r):aD Mv X G N σ (Go.Av.rN G o σ):=by
 unfold Go.Av.rN;unfold xC at hm;split
 .rename_i ho;simp only[ho]at hm;split
  .rename_i hp;simp only[hp]at hm;exact .lq _ hm
  .exact .refl σ
 .rename_i ho;simp only[ho]at hm;split
  .rename_i hp;simp only[hp]at hm;exact .lq _ hm
  .exact .refl σ
 .rename_i ho;simp only[ho]at hm;split
  .rename_i hp;simp only[hp]at hm;exact .lq _ hm
  .exact .refl σ
 .exact .refl σ
theorem Et (hg:Good P T) (hi:In w X G μ N a σ) {o:Oper} {K:St->Prop} (hd:∀ d,o.dst=some d->d < N.n) (h:py P T Mv X G N o σ K) {Q:Exit->Act->World->Prop} {next:Act->World->Prop}
  (hk:∀ w' ak a' af,K af->In w' X G ak N a' af->Ev Mv w μ w' ak->next a' w'):o.wpIn (wd N.ro) 0 P a w next Q:=by
 unfold py at h;split at h
 .rename_i c hc;refine sB (Mv:=Mv) hg hi hd ?_ hk;unfold Z3;rw[hc];dsimp only;split at h
  .rename_i ht;rw[ht];exact h
  .exact h.elim
 .rename_i hc;obtain⟨μ1,cE,ev1⟩:=aD.rN (Mv:=Mv) (X:=X) o h.1 w μ a hi;refine sB (Mv:=Mv) hg cE (K:=K) hd ?_ fun w' ak a' af k ax aB=>hk w' ak a' af k ax (ev1.trans aB);unfold Z3;rw[hc];exact h.2
theorem VT (hg:Good P T) {ops:Array Oper} {Q:Exit->St->Prop} {w0:World} {eX:Mu}:∀ (l:List Oper) (k:Nat) (w:World) (μ:Mu) (a:Act) (σ:St),(∀ j,l[j]? = ops[k+j]?)->fD P T Mv X G N ops (fun af=>Q .normal af) l σ->In w X G μ N a σ->Ev Mv w0 eX w μ->
  wpOpsIn (wd N.ro) 0 P ops (After Mv X G N w0 eX Q) (List.range' k l.length) a w:=by
 intro l
 induction l with
 | nil=>intro k w μ a σ _ h hi aB;exact⟨μ,σ,h,hi,aB⟩
 | cons o l ih=>
  intro k w μ a σ hl h hi aB
  have h0:ops[k]? = some o:=by simpa using (hl 0).symm
  have fi:∀ j,l[j]? = ops[k+1+j]?:=fun j=>by have:=hl (j+1);simpa[Nat.add_assoc,Nat.add_comm 1 j]using this
  obtain⟨hd,h⟩:=h
  have dt:∀ d,o.dst=some d->d < N.n:=fun d e=>by unfold cZ at hd;rw[e]at hd;exact hd
  rw[List.length_cons,List.range'_succ];simp only[wpOpsIn,h0];split at h
  .rename_i b hb;rw[o9 hi hb];split at h
   .rename_i mY;subst mY;rw[if_pos rfl];exact (Et hg hi dt h fun w' ak a' af k' ax aao=>ih (k+1) w' ak a' af fi k' ax (aB.trans aao))
   .rename_i sY;rw[if_neg (by simpa using sY)];exact⟨fun _ _=>trivial,ih (k+1) w μ _ _ fi h (hi.put (.d (.v _)) dt) aB⟩
  .exact h.elim
theorem De (hg:Good P T) {id:Nat} {ops:Array Oper} {Q:Exit->St->Prop} (h:fD P T Mv X G N ops (fun af=>Q .normal af) ops.toList σ):AW P Mv X G N (.region id ops false) Q σ:=fun w μ a hi=>by
 refine wpIn_region ?_;have:=VT hg ops.toList 0 w μ a σ (by simp) h hi (.refl _ w μ)
 rwa [<- List.range_eq_range',Array.length_toList]at this
theorem J2 (hg:Good P T) (hm:P.follows .mixedOrders=true) {id:Nat} {ops:Array Oper} (bp:lO ops=true) {Q:Exit->St->Prop} (h:jP P T Mv G N ops (fun af=>Q .normal af) ops.toList σ):AW P Mv X G N (.region id ops true) Q σ:=by
 rw[Jm]at h;exact J7 hg hm bp h
theorem AW.norm (l ns:List Nat) (hM:∀ r,ns.contains r=false->Mv r) {c:Code} {Q:Exit->St->Prop} (h:AW P Mv X G N c Q (σ.norm l ns)):AW P Mv X G N c Q σ:=AW.imp (aD.norm l ns hM) h
theorem AW.st {τ:St} {c:Code} {Q:Exit->St->Prop} (h:σ=τ) (h':AW P Mv X G N c Q τ):AW P Mv X G N c Q σ:=h ▸ h'
theorem AW.B6 (i:Nat) {e:Env} {H:Heap} {els:List (List D)} {c:Code} {Q:Exit->St->Prop} (he:e i=some (.d (.sl none els))) (h1:AW P Mv X G N c Q ⟨fb e i (.d (.sl (some true) els)),H⟩)
  (h2:els=[]->AW P Mv X G N c Q ⟨fb e i (.d (.sl (some false) [])),H⟩):AW P Mv X G N c Q ⟨e,H⟩:=fun w μ a hi=>by
 obtain⟨u,hu,hr⟩:=hi.env.slot i _ he
 have put:∀ {y:D},RD w (XX X μ) u y->In w X G μ N a ⟨fb e i (.d y),H⟩:=fun hy=>⟨hi.aL,⟨hi.env.defers,hi.env.size,fun j x hx=>by
  simp only[fb]at hx;split at hx
  .rename_i hj;subst hj;obtain rfl:=Option.some.inj hx;exact⟨u,hu,.d hy⟩
  .exact hi.env.slot j x hx⟩,hi.eZ⟩
 have hd:=hr.data;generalize hy:D.sl none els=y at hd
 cases hd with
 | nil hk=>cases hy;exact h2 rfl w μ a (put (.nil (by simp)))
 | empty hk hm=>cases hy;exact h1 w μ a (put (.empty (by simp) hm))
 | sl a1 a2 a3 a4 a5 a6 a7 a8 a9 Kl=>cases hy;exact h1 w μ a (put (.sl (by simp) a2 a3 a4 a5 a6 a7 a8 a9 Kl))
 | _=>cases hy
theorem J8 (hg:Good P T) (l ns:List Nat) (hM:∀ r,ns.contains r=false->Mv r) {id:Nat} {ops:Array Oper} {y:Code} {Q:Exit->St->Prop} (h:∀ K:St->Prop,(∀ τ:St,AW P Mv X G N y Q (τ.norm l ns)->K τ)->fD P T Mv X G N ops K ops.toList σ):AW P Mv X G N (.seq (.region id ops false) y) Q σ:=
 pc (De hg (h _ fun _ h=>h.norm l ns hM))
theorem rg {P:Program} {Mv X:Nat->Prop} {G:Yt} {N:Fr} {σ:St} (l ns:List Nat) (hM:∀ r,ns.contains r=false->Mv r) {id:Nat} {ops:Array Oper} {y:Code} {Q:Exit->St->Prop} (h:∀ K:St->Prop,(∀ τ:St,AW P Mv X G N y Q (τ.norm l ns)->K τ)->fD P (bW P) Mv X G N ops K ops.toList σ):AW P Mv X G N (.seq (.region id ops false) y) Q σ:=J8 (au _) l ns hM h
theorem aa3 (hg:Good P T) (hm:P.follows .mixedOrders=true) (l ns:List Nat) (hM:∀ r,ns.contains r=false->Mv r) {id:Nat} {ops:Array Oper} (bp:lO ops=true) {y:Code} {Q:Exit->St->Prop} (h:∀ K:St->Prop,(∀ τ:St,AW P Mv X G N y Q (τ.norm l ns)->K τ)->jP P T Mv G N ops K ops.toList σ):AW P Mv X G N (.seq (.region id ops true) y) Q σ:=
 pc (J2 hg hm bp (h _ fun _ h=>h.norm l ns hM))
theorem ZD (hg:Good P T) {id:Nat} {ops:Array Oper} {Q:Exit->St->Prop} (h:∀ K:St->Prop,(∀ τ:St,Q .normal τ->K τ)->fD P T Mv X G N ops K ops.toList σ):AW P Mv X G N (.region id ops false) Q σ:=
 De hg (h _ fun _ h=>h)
def xK (T:Ty) (σ:St):ResultVar->fV
 | .tmp t=>(σ.env t).map fun x=>(True,x)
 | .cell a t=>(σ.env a).bind (iL T σ.H t)
def o3 (T:Ty) (σ:St):List ResultVar->Option (Prop×List AV)
 | []=>some (True,[])
 | r :: l=>match xK T σ r,o3 T σ l with
  | some (c,x),some (c',xs)=>some (c/\c',x :: xs)
  | _,_=>none
def oneOf:List AV->AV
 | [x]=>x
 | l=>tZ l
def D.le:D->D->Prop
 | .sl k els,.sl k' iU=>(k'=none\/k=k')/\els=iU
 | .aR l,.aR l'=>go l l'
 | .agg l,.agg l'=>go l l'
 | .ip l,.ip l'=>go l l'
 | .bg t x,.bg t' x'=>t=t'/\x.le x'
 | .fn f l,.fn f' l'=>f=f'/\go l l'
 | .dm x l,.dm x' l'=>(x'=true->x=true/\l=l')/\l.Perm l'
 | x,y=>x=y
where
 go:List D->List D->Prop
 | [],[]=>True
 | x :: l,y :: l'=>x.le y/\go l l'
 | _,_=>False
def qR (T:Ty) (rs:List ResultVar) (y:D) (σ:St):Prop:=match o3 T σ rs with
 | some (c,xs)=>c/\match Y7 σ.H 6 (oneOf xs) with
  | some y'=>y'.le y
  | none=>False
 | none=>False
def yB (T:Ty) (rs:List ResultVar) (y:D):Exit->St->Prop
 | .normal,σ | .ret,σ=>qR T rs y σ
 | _,_=>False
theorem D.qa:∀ {l l':List D},D.le.go l l'->l.length=l'.length/\∀ (j:Nat) (x y:D),l[j]? = some x->l'[j]? = some y->x.le y
 | [],[],_=>⟨rfl,by simp⟩
 | x :: l,y :: l',h=>by
  simp only[D.le.go]at h;obtain⟨h1,h2⟩:=D.qa h.2;refine⟨by simp[h1],fun j a b ha hb=>?_⟩
  cases j with
  | zero=>simp at ha hb;subst ha hb;exact h.1
  | succ j=>simp at ha hb;exact h2 j a b ha hb
 | [],_ :: _,h=>by simp only[D.le.go]at h
 | _ :: _,[],h=>by simp only[D.le.go]at h
theorem D.tT {l l':List D} (hg:D.le.go l l') {j:Nat} {c:D} (hc:l'[j]? = some c):∃ x,l[j]? = some x/\x.le c:=by
 obtain⟨hl,hh⟩:=D.qa hg;have hj:=(List.getElem?_eq_some_iff.1 hc).1
 have ef:j < l.length:=by omega
 exact⟨l[j],by simp[ef],hh j _ c (by simp[ef]) hc⟩
theorem RD.le {w:World} {X:Nat->Prop} {u:Value} {x:D} (hr:RD w X u x):∀ {y:D},x.le y->RD w X u y:=by
 induction hr with
 | v x=>intro y h;cases y<;>simp only[D.le,reduceCtorEq]at h;exact h ▸ .v x
 | nil hk=>
  intro y h;cases y<;>simp only[D.le,reduceCtorEq]at h;obtain⟨h1 | h1,rfl⟩:=h
  .exact .nil (by simp[h1])
  .exact .nil (h1 ▸ hk)
 | empty hk hm=>
  intro y h;cases y<;>simp only[D.le,reduceCtorEq]at h;obtain⟨h1 | h1,rfl⟩:=h
  .exact .empty (by simp[h1]) hm
  .exact .empty (h1 ▸ hk) hm
 | sl h1 h2 h3 h4 h5 h6 h7 h8 h9 pB=>
  intro y h;cases y<;>simp only[D.le,reduceCtorEq]at h;obtain⟨e1 | e1,rfl⟩:=h
  .exact .sl (by simp[e1]) h2 h3 h4 h5 h6 h7 h8 h9 pB
  .exact .sl (e1 ▸ h1) h2 h3 h4 h5 h6 h7 h8 h9 pB
 | ip hX hb YX hr ih=>
  intro y h;cases y<;>simp only[D.le,reduceCtorEq]at h;obtain⟨hl,_⟩:=D.qa h;refine .ip hX hb (fun j hj=>YX j (by omega)) fun j c hc=>?_;obtain⟨x,hx,hle⟩:=D.tT h hc;exact ih j x hx hle
 | agg hn hr ih=>
  intro y h;cases y<;>simp only[D.le,reduceCtorEq]at h;obtain⟨hl,_⟩:=D.qa h;refine .agg (by omega) fun j u c hu hc=>?_;obtain⟨x,hx,hle⟩:=D.tT h hc;exact ih j u x hu hx hle
 | aR hn hr ih=>
  intro y h;cases y<;>simp only[D.le,reduceCtorEq]at h;obtain⟨hl,_⟩:=D.qa h;refine .aR (by omega) fun j u c hu hc=>?_;obtain⟨x,hx,hle⟩:=D.tT h hc;exact ih j u x hu hx hle
 | bg hr ih=>
  intro y h;cases y<;>simp only[D.le,reduceCtorEq]at h;obtain⟨rfl,h⟩:=h;exact .bg (ih h)
 | jQ hX hh=>
  intro y h;cases y<;>simp only[D.le,reduceCtorEq]at h;injection h with h;exact h ▸ .jQ hX hh
 | dm hX hh hp hx=>
  intro y h;cases y<;>simp only[D.le,reduceCtorEq]at h;exact .dm hX hh (hp.trans h.2) fun e=>(hx (h.1 e).1).trans (h.1 e).2
 | fn hn hr ih=>
  intro y h;cases y<;>simp only[D.le,reduceCtorEq]at h;obtain⟨rfl,h⟩:=h;obtain⟨hl,_⟩:=D.qa h;refine .fn (by omega) fun j u c hu hc=>?_;obtain⟨x,hx,hle⟩:=D.tT h hc;exact ih j u x hu hx hle
theorem ao.lR {g:FuncId} {ds dh:List D} {y:D} (hc:ao P G g ds y) (h:D.le.go dh ds):ao P G g dh y:=by
 refine⟨hc.1,fun X w μ vs hs ck hn hv=>hc.2 X w μ vs hs ck (by simpa[(D.qa h).1]using hn) fun i u x hu hx=>?_⟩;rw[List.getElem?_map]at hx;obtain⟨d,hd,rfl⟩:=Option.map_eq_some_iff.1 hx;obtain⟨x,hx,hle⟩:=D.tT h hd;exact .d ((hv i u (.d x) hu (by rw[List.getElem?_map,hx];rfl)).data.le hle)
theorem YR.data {g:FuncId} {xs:List AV} {ds dh:List D} {y:D} {dst:Option Tmp} {next:St->Prop} (hc:ao P G g ds y) (hx:ZM xs=some dh) (hle:D.le.go dh ds) (h:next ⟨aw σ.env dst (.d y),σ.H⟩):YR P Mv X G N g xs σ dst next:=by
 unfold YR;rw[jZ hx];exact gI.pure (hc.lR hle) h
theorem YR.kX {g:FuncId} {xs:List AV} {ds dh:List D} {y:D} {dst:Option Tmp} {next:St->Prop} (hc:ao P G g ds y) (hx:gG (Y7 σ.H 4) xs=some dh) (hle:D.le.go dh ds) (hy:y.scalar=true) (h:next ⟨aw σ.env dst (.d y),σ.H⟩):YR P Mv X G N g xs σ dst next:=
 gI.kX hx (hc.lR hle) hy h
theorem aak.data {c:Call} {g:FuncId} {xs:List AV} {ds dh:List D} {y:D} {dst:Option Tmp} {next:St->Prop} (hc:ao P G g ds y) (ht:ZC G σ.env c=some (g,xs)) (hx:ZM xs=some dh) (hle:D.le.go dh ds) (h:next ⟨aw σ.env dst (.d y),σ.H⟩):aak P G c σ dst next:=
 ⟨y,⟨g,xs,ht,.inl ⟨dh,jZ hx,hc.lR hle⟩⟩,h⟩
theorem aak.kX {c:Call} {g:FuncId} {xs:List AV} {ds dh:List D} {y:D} {dst:Option Tmp} {next:St->Prop} (hc:ao P G g ds y) (ht:ZC G σ.env c=some (g,xs)) (hx:gG (Y7 σ.H 4) xs=some dh) (hle:D.le.go dh ds) (hy:y.scalar=true) (h:next ⟨aw σ.env dst (.d y),σ.H⟩):aak P G c σ dst next:=
 ⟨y,⟨g,xs,ht,.inr ⟨dh,hx,hy,hc.lR hle⟩⟩,h⟩
theorem Dv (H:Heap) (k:Nat):∀ (ds:List D),gG (Y7 H k) (ds.map .d)=some ds
 | []=>rfl
 | d :: ds=>by simp[gG,Dv H k ds];cases k<;>simp[Y7]
theorem D.le_refl (x:D):x.le x:=by
 have key:∀ n,∀ x:D,SizeOf.sizeOf x < n->x.le x:=by
  intro n
  induction n with
  | zero=>intro x h;omega
  | succ n ih=>
   intro x h
   have go:∀ l:List D,SizeOf.sizeOf l < n->D.le.go l l:=by
    intro l
    induction l with
    | nil=>intro _;simp[D.le.go]
    | cons y l tL=>
     intro hl;simp only[List.cons.sizeOf_spec]at hl;exact⟨ih y (by omega),tL (by omega)⟩
   cases x<;>simp only[D.le]<;>simp at h ⊢
   .exact go _ (by omega)
   .exact go _ (by omega)
   .exact go _ (by omega)
   .exact ih _ (by omega)
   .exact go _ (by omega)
 exact key _ x (Nat.lt_succ_self _)
theorem D.YG:∀ l:List D,D.le.go l l
 | []=>trivial
 | x :: l=>⟨D.le_refl x,D.YG l⟩
theorem UH (hg:Good P T) (hi:In w X G μ N a σ) {r:ResultVar} {c:Prop} {x:AV} (h:xK T σ r=some (c,x)) (hc:c) :
  ∃ v,(match r with | .tmp t=>(pure (a.tmps.getD t undef):Sem Value) | .cell b t=>do loadVar t (<- asAddr (a.tmps.getD b undef))).run P w = .ok v w/\RV w X μ v x:=by
 cases r with
 | tmp t=>
  simp only[xK,Option.map_eq_some_iff,Prod.mk.injEq]at h;obtain⟨y,hy,_,rfl⟩:=h;obtain⟨u,hu,hr⟩:=hi.env.slot t y hy;exact⟨u,by simp[Array.getD_eq_getD_getElem?,hu],hr⟩
 | cell b t=>
  obtain⟨y,hy,hl⟩:=Option.bind_eq_some_iff.1 h;obtain⟨u,hu,hr⟩:=hi.env.slot b y hy;obtain⟨v,hv,Zt⟩:=He (P:=P) hg hi.aL hl hc hr;refine⟨v,?_,Zt⟩
  have e:a.tmps.getD b undef=u:=by simp[Array.getD_eq_getD_getElem?,hu]
  dsimp only;rw[e];unfold iL at hl;split at hl
  .obtain⟨b,off,f,rfl,_⟩:=hr.data.mb;simpa[Instr.loadAt,Instr.sureAddr,asAddr]using hv
  .obtain⟨m,b,hm,hb,rfl⟩:=hr.gC;simpa[Instr.loadAt,Instr.sureAddr,asAddr]using hv
  .cases hl
theorem UF (hg:Good P T) (hi:In w X G μ N a σ):∀ {rs:List ResultVar} {c:Prop} {xs:List AV},o3 T σ rs=some (c,xs)->c->
  ∃ vs:List Value,(rs.mapM (m:=Sem) fun | .tmp t=>pure (a.tmps.getD t undef) | .cell b t=>do loadVar t (<- asAddr (a.tmps.getD b undef))).run P w = .ok vs w/\vs.length=xs.length/\∀ (j:Nat) (u:Value) (x:AV),vs[j]? = some u->xs[j]? = some x->RV w X μ u x:=by
 intro rs
 induction rs with
 | nil=>
  intro c xs h hc;simp only[o3,Option.some.injEq,Prod.mk.injEq]at h;obtain⟨_,rfl⟩:=h;exact⟨[],by simp,rfl,by simp⟩
 | cons r rs ih=>
  intro c xs h hc;simp only[o3]at h;split at h
  .rename_i c1 x c2 JM h1 h2;simp only[Option.some.injEq,Prod.mk.injEq]at h;obtain⟨rfl,rfl⟩:=h;obtain⟨v,hv,hr⟩:=UH (P:=P) hg hi h1 hc.1;obtain⟨vs,Bk,hl,hrs⟩:=ih h2 hc.2;refine⟨v :: vs,?_,by simp[hl],fun j u x hu hx=>?_⟩
   .rw[List.mapM_cons,Sem.run_bind,hv,Result.andThen_ok,Sem.run_bind,Bk,Result.andThen_ok,Sem.run_pure]
   .cases j with
    | zero=>simp at hu hx;subst hu hx;exact hr
    | succ j=>simp at hu hx;exact hrs j u x hu hx
  .cases h
theorem Ct (hg:Good P T) (hi:In w X G μ N a σ) {fn:Func} {rs:List ResultVar} (hrs:fn.results=rs.toArray) {c:Prop} {xs:List AV} (h:o3 T σ rs=some (c,xs)) (hc:c) :
  ∃ v,(results fn a.tmps).run P w = .ok v w/\RV w X μ v (oneOf xs):=by
 obtain⟨vs,Bk,hl,hr⟩:=UF (P:=P) hg hi h hc;refine⟨if h:vs.toArray.size=1 then vs.toArray[0] else .tuple vs.toArray,?_,?_⟩
 .unfold results;rw[hrs,Array.mapM_eq_mapM_toList,Sem.run_bind];simp only[map_eq_pure_bind,Sem.run_bind]
  erw[Bk]
  rfl
 .match xs,vs,hl,hr with
  | [],[],_,hr=>exact xk (l:=[]) (.aR (arr:=#[]) (cells:=[]) rfl (by simp))
  | [x],[v],_,hr=>exact hr 0 v x rfl rfl
  | x :: y :: xs,v :: u :: vs,hl,hr=>
   have:¬ (v :: u :: vs).toArray.size=1:=by simp
   rw[dif_neg this];exact xk (.aR (by simpa using hl) fun j u c hu hc=>hr j u c (by simpa using hu) hc)
theorem ao.aI (hg:Good P T) {g:FuncId} {fn:Func} {c:Code} {rs:List ResultVar} {ds:List D} {y:D} (hf:P.funcs[g]? = some fn) (hb:fn.body=some c) (hn:(fn.name == "runtime.NumGoroutine")=false) (hrs:fn.results=rs.toArray)
  (hN:ds.length<=fn.ntmps) (h:∀ X,AW P (fun _=>True) X G ⟨fn.ntmps,[],none⟩ c (yB T rs y) ⟨args (ds.map .d),ft⟩):ao P G g ds y:=by
 refine⟨fm.of hf hb hn,fun X w μ vs hs ck aK hv=>?_⟩
 have fin:∀ (w':World) (ak:Mu) (a':Act) (af:St),qR T rs y af->In w' X G ak ⟨fn.ntmps,[],none⟩ a' af->Ev (fun _=>True) w μ w' ak->∃ v,(results fn a'.tmps).run P w' = .ok v w'/\∃ v_1 x H' ak,Ending.returned v=Ending.returned v_1/\(x = .d y/\H'=ft)/\RV w' X ak v_1 x/\cw w' X ak H'/\Ev (fun _=>True) w μ w' ak:=by
  intro w' ak a' af he hi aB;unfold qR at he;split at he
  .rename_i c xs hx;obtain⟨hc,he⟩:=he;split at he
   .rename_i y' hy;obtain⟨v,hv,hr⟩:=Ct (P:=P) hg hi hrs hx hc;have bq:=(yw hi.aL 6 hy hr).le he;refine⟨v,hv,v,.d y,ft,fun _=>none,rfl,⟨rfl,rfl⟩,.d (bq.sub fun b=>jn.1),cw.none hi.aL.fits,aB.size,aB.os,aB.tape,aB.output,fun b hb hr=>⟨(aB.same b hb hr).1,fun ⟨_,_,h,_⟩=>by cases h⟩,fun r m _ hn=>absurd trivial hn⟩
   .exact he.elim
  .exact he.elim
 refine calls_of_wp hf hb ((wpIn_wide (n:=0)).1 (wpIn_mono (h X w μ _ ⟨hs,⟨rfl,by simp;simp at aK;omega,fun i x hx=>?_⟩,ck⟩) fun e a' w' ⟨ak,af,q,i,ev⟩=>?_))
 .simp only[args]at hx;have hi:i < (ds.map AV.d).length:=(List.getElem?_eq_some_iff.1 hx).1
  have lL:vs[i]? = some vs[i]:=by rw[Array.getElem?_eq_getElem]
  exact⟨vs[i],by rw[Array.getElem?_append_left (by omega),lL],hv i _ x lL hx⟩
 .cases e with
  | normal=>
   obtain⟨v,hv,rest⟩:=fin w' ak a' af q i ev;exact⟨i.env.defers,v,hv,rest⟩
  | ret=>
   obtain⟨v,hv,rest⟩:=fin w' ak a' af q i ev;exact⟨i.env.defers,v,hv,rest⟩
  | _=>exact q.elim
end
end Go.Av
namespace Go.Av
section
variable {P:Program} {T:Ty} {Mv X:Nat->Prop} {G:Yt} {N:Fr} {ops:Array Oper}
def qI (o:Oper):Option (Operand×Operand):=match o.op with
 | .call { callee:=.builtin .append,args,argTypes }=>match args.toList,argTypes.toList with
  | [x,y],[t,t']=>if t=t' then some (x,y) else none
  | _,_=>none
 | _=>none
def acs (T:Ty) (Mv:Nat->Prop) (o:Oper) (r off n ty sz:Nat) (els news:List (List D)):Option (Prop×Nat×Row):=match o.op,o.dst with
 | .call { callee:=.builtin .append,args,argTypes },some _=>match args.toList,argTypes.toList with
  | [_,_],[t,t']=>if t=t' then match T t with
   | some tt=>match tt.desc with
    | .slice e=>match T e with
     | some te=>some (off=0/\Mv r/\ty=e/\sz=te.size/\n<=els.length/\(∀ el∈news,el.length=te.size)/\(∀ el∈news,∀ c∈el,D.one c=true)/\0 < te.size/\(dW te.zero).length=te.size/\n+news.length<=9223372036854775807/\(n+news.length) * te.bytes<=140737488355328,
       n+news.length,.sl e te.size (els.take n ++ news))
     | none=>none
    | _=>none
   | none=>none
  else none
  | _,_=>none
 | _,_=>none
def mQ (s:Nat):AV->Prop
 | .own q _ _=>q=s
 | _=>True
def fF (T:Ty) (G:Yt) (Mv:Nat->Prop) (o:Oper) (e:Env) (H:Heap) (r s m:Nat) (row:Row):Prop:=
 ∃ x y off n v ty sz els news c,qI o=some (x,y)/\aT G e x=some (.own r off n)/\aT G e y=some v/\mQ s v/\H r=some (.sl ty sz els)/\ZX H r v=some news/\acs T Mv o r off n ty sz els news=some (c,m,row)/\c
theorem yt {o:Oper} {x y:Operand} (h:qI o=some (x,y)):∃ t t',o.op = .call { callee:=.builtin .append,args:=#[x,y],argTypes:=#[t,t'] }/\t=t':=by
 unfold qI at h;split at h
 .rename_i args argTypes e6;split at h
  .rename_i x' y' t t' ha ht;split at h
   .rename_i YO;simp only[Option.some.injEq,Prod.mk.injEq]at h;obtain⟨rfl,rfl⟩:=h;have e1:args = #[x',y']:=Array.toList_inj.1 ha;have e2:argTypes = #[t,t']:=Array.toList_inj.1 ht;exact⟨t,t',by rw[e6,e1,e2],YO⟩
   .cases h
  .cases h
 .cases h
theorem fF.row {o:Oper} {e:Env} {H:Heap} {r s m:Nat} {row:Row} (h:fF T G Mv o e H r s m row):(∃ ty sz els,row = .sl ty sz els)/\(∃ ty sz els,H r=some (.sl ty sz els))/\(∃ d,o.dst=some d):=by
 obtain⟨x,y,off,n,v,ty,sz,els,news,c,h1,h2,h3,h4,h5,h6,h7,h8⟩:=h;unfold acs at h7
 repeat' split at h7
 all_goals first
  | cases h7;done
  | (simp only [Option.some.injEq, Prod.mk.injEq] at h7
     obtain⟨_,_,rfl⟩:=h7
     exact⟨⟨_,_,_,rfl⟩,⟨_,_,_,h5⟩,⟨_,by assumption⟩⟩)
theorem fF.to {o:Oper} {e:Env} {H:Heap} {r s m:Nat} {row:Row} (h:fF T G Mv o e H r s m row):iB P T Mv G o ⟨e,H⟩ ⟨aw (YT r e) o.dst (.own r 0 m),aF (cf r H) r row⟩:=by
 obtain⟨x,y,off,n,v,ty,sz,els,news,c,h1,h2,h3,h4,h5,h6,h7,h8⟩:=h;obtain⟨t,t',e6,wU⟩:=yt h1;obtain⟨dst,op,type,pos,after,guard⟩:=o;dsimp only at e6;subst e6;unfold iB;simp only[YK,dk,if_true];unfold acs at h7;dsimp only at h7
 cases dst with
 | none=>cases h7
 | some d=>
  simp only[List.toList_toArray]at h7;refine⟨c,.own r 0 m,⟨YT r e,aF (cf r H) r row⟩,?_,h8,rfl⟩;unfold wr;dsimp only;subst wU;rw[if_pos rfl]at h7;split at h7
  .rename_i tt hT;split at h7
   .rename_i vv hd;split at h7
    .rename_i te bJ;simp only[Option.some.injEq,Prod.mk.injEq]at h7;obtain⟨rfl,rfl,rfl⟩:=h7;simp[hT,hd,bJ,h2,h3,h5,h6]
    .cases h7
   .cases h7
  .cases h7
theorem fF.of {o:Oper} {e:Env} {H:Heap} {r s off n:Nat} {x y:Operand} {v:AV} {c:Prop} {z:AV} {ay:St} (ho:qI o=some (x,y)) (hx:aT G e x=some (.own r off n)) (hy:aT G e y=some v) (hs:mQ s v) (h:wr T G Mv ⟨e,H⟩ o=some (c,z,ay)) (hc:c) :
  ∃ m row,fF T G Mv o e H r s m row/\z = .own r 0 m/\ay=⟨YT r e,aF (cf r H) r row⟩:=by
 obtain⟨t,t',e6,wU⟩:=yt ho;obtain⟨dst,op,type,pos,after,guard⟩:=o;dsimp only at e6;subst e6;unfold wr at h;dsimp only at h
 cases dst with
 | none=>cases h
 | some d=>
  dsimp only at h;split at h
  .rename_i YO;subst YO
   cases hT:T t with
   | none=>simp[hT]at h
   | some tt=>
    simp only[hT]at h;split at h
    .rename_i vv hd
     cases bJ:T vv with
     | none=>simp[bJ]at h
     | some te=>
      simp only[bJ,hx,hy]at h;split at h
      .rename_i ty sz els news h1 h2;simp only[Option.some.injEq,Prod.mk.injEq]at h;obtain⟨rfl,rfl,rfl⟩:=h;exact⟨_,_,⟨x,y,off,n,v,ty,sz,els,news,_,ho,hx,hy,hs,h1,h2,by simp[acs,hT,hd,bJ],hc⟩,rfl,rfl⟩
      .cases h
    .cases h
  .rename_i aG;exact absurd wU aG
theorem Hx {H H2:Heap} {r s:Nat} {v:AV} (hs:mQ s v) (hH:H2 s=H s):ZX H2 r v=ZX H r v:=by
 cases v with
 | own q off n=>
  simp only[mQ]at hs;subst hs;simp only[ZX,hH]
 | d x=>cases x<;>rfl
 | _=>rfl
theorem fF.congr {o:Oper} {e e2:Env} {H H2:Heap} {r s m:Nat} {row:Row} (h:fF T G Mv o e H r s m row) (ha:dz o.op e e2) (hr:H2 r=H r) (hs:H2 s=H s):fF T G Mv o e2 H2 r s m row:=by
 obtain⟨x,y,off,n,v,ty,sz,els,news,c,h1,h2,h3,h4,h5,h6,h7,h8⟩:=h;obtain⟨t,t',e6,wU⟩:=yt h1;have hx:∀ t,x = .tmp t->e t=e2 t:=fun t ht=>ha t (by rw[e6];simp[Op.operands,Call.operands,ht]);have hy:∀ t,y = .tmp t->e t=e2 t:=fun t ht=>ha t (by rw[e6];simp[Op.operands,Call.operands,ht]);exact⟨x,y,off,n,v,ty,sz,els,news,c,h1,by rw[<- cG hx];exact h2,by rw[<- cG hy];exact h3,h4,by rw[hr];exact h5,by rw[Hx h4 hs];exact h6,h7,h8⟩
theorem AV.xa (r r':Nat) (x:AV):(x.kill r).kill r'=(x.kill r').kill r:=by
 have key:∀ n,∀ x:AV,SizeOf.sizeOf x < n->(x.kill r).kill r'=(x.kill r').kill r:=by
  intro n
  induction n with
  | zero=>intro x h;omega
  | succ n ih=>
   intro x h
   have go:∀ l:List AV,SizeOf.sizeOf l < n->(l.map (AV.kill r)).map (AV.kill r')=(l.map (AV.kill r')).map (AV.kill r):=by
    intro l
    induction l with
    | nil=>intro _;rfl
    | cons y l tL=>
     intro hl;simp only[List.cons.sizeOf_spec]at hl;simp only[List.map_cons,List.cons.injEq];exact⟨ih y (by omega),tL (by omega)⟩
   cases x with
   | d x=>simp[AV.kill]
   | own q off n=>by_cases h1:q=r<;>by_cases h2:q=r'<;>simp[AV.kill,h1,h2]<;>(try (by_cases h3:r=r'<;>simp[AV.kill,h3]))<;>(try simp_all [AV.kill])
   | ref q e j=>by_cases h1:q=r<;>by_cases h2:q=r'<;>simp[AV.kill,h1,h2]<;>(try (by_cases h3:r=r'<;>simp[AV.kill,h3]))<;>(try simp_all [AV.kill])
   | agg cells=>simp at h;simp only[AV.kill,AV.go_eq];rw[go cells (by omega)]
   | aR cells=>simp at h;simp only[AV.kill,AV.go_eq];rw[go cells (by omega)]
   | bg t x=>simp at h;simp only[AV.kill];rw[ih x (by omega)]
   | bm t x=>simp at h;simp only[AV.kill];rw[ih x (by omega)]
   | fn f cells=>simp at h;simp only[AV.kill,AV.go_eq];rw[go cells (by omega)]
   | mp q=>by_cases h1:q=r<;>by_cases h2:q=r'<;>simp[AV.kill,h1,h2]<;>(try (by_cases h3:r=r'<;>simp[AV.kill,h3]))<;>(try simp_all [AV.kill])
   | dead=>simp[AV.kill]
 exact key _ x (Nat.lt_succ_self _)
theorem QI (r r':Nat) (e:Env):YT r' (YT r e)=YT r (YT r' e):=by
 funext i;simp only[YT,Option.map_map];congr 1;funext x;exact AV.xa r r' x
theorem Row.xa (r r':Nat) (x:Row):(x.kill r).kill r'=(x.kill r').kill r:=by
 cases x with
 | sl ty sz els=>rfl
 | mp ty ents=>rfl
 | it ents seen=>rfl
 | box ty cells=>
  simp only[Row.kill,List.map_map];congr 1;apply List.map_congr_left;intro x _;exact AV.xa r r' x
theorem QL (r r':Nat) (H:Heap):cf r' (cf r H)=cf r (cf r' H):=by
 funext i;simp only[cf,Option.map_map];congr 1;funext x;exact Row.xa r r' x
theorem w8 (r:Nat) (e:Env) (d:Option Tmp) (x:AV):YT r (aw e d x)=aw (YT r e) d (x.kill r):=by
 cases d with
 | none=>rfl
 | some d=>funext i;simp only[YT,aw,fb];split<;>rfl
def yf (r:Nat) (o:Oper) (e:Env) (x:AV):Prop:=dz o.op e (YT r e)/\x.kill r=x
theorem fU {o:Oper} {e:Env} (h:o.guard=none):fc ops e o=some true:=by simp[fc,h]
theorem adZ {r:Nat} {l:List AV} (h:(kr l).kill r=kr l):kr (l.map (AV.kill r))=kr l:=by
 unfold kr at h ⊢;split at h
 .rename_i ds hd;rw[jZ hd]
  have:(ds.map AV.d).map (AV.kill r)=ds.map AV.d:=by simp[List.map_map,Function.comp_def,AV.kill]
  rw[this,acS]
 .rename_i hd;simp only[AV.kill,AV.go_eq,AV.agg.injEq]at h;rw[h,hd]
theorem KL {r:Nat} {t:TypeId} {cells:List AV} {c:Prop} {x:AV} {j:Nat} (h:j0 T t (cells.drop j)=some (c,x)) (hx:x.kill r=x):∃ c',j0 T t ((cells.map (AV.kill r)).drop j)=some (c',x)/\(c->c'):=by
 unfold j0 at h ⊢;split at h
 .cases h
 .rename_i ti ht;split at h
  .rename_i ha;rw[if_pos ha];simp only[Option.some.injEq,Prod.mk.injEq]at h;obtain⟨rfl,rfl⟩:=h;refine⟨_,?_,id⟩;rw[<- List.map_drop,<- List.map_take,List.length_map,adZ hx]
  .rename_i ha;rw[if_neg ha];simp only[Option.some.injEq,Prod.mk.injEq]at h;obtain⟨rfl,rfl⟩:=h;rw[<- List.map_drop];generalize hl:cells.drop j=l at hx
   cases l with
   | nil=>exact⟨_,rfl,fun h=>absurd rfl h⟩
   | cons y l=>
    simp only[List.headD_cons]at hx;refine⟨_,by simp only[List.map_cons,List.headD_cons,hx];rfl,fun _=>by simp⟩
theorem Up {o:Oper} {e:Env} {H:Heap} {r:Nat} {row:Row} {c:Prop} {x:AV} (YN:∃ ty sz els,row = .sl ty sz els) (h:rd T G ⟨e,H⟩ o.op=some (c,x)) (dR:yf r o e x) :
  ∃ c',rd T G ⟨e,aF (cf r H) r row⟩ o.op=some (c',x)/\(c->c'):=by
 have hag:=dR.1;have hx:=dR.2;clear dR
 have free:∀ t v,Operand.tmp t∈o.op.operands->e t=some v->v.kill r=v:=by
  intro t v ht hv;have:=hag t ht;rw[hv]at this;simp only[YT,hv,Option.map_some,Option.some.injEq]at this;exact this.symm
 have ne:∀ (p:Operand) (v:AV),aT G e p=some v->p∈o.op.operands->v.kill r=v:=by
  intro p v hv hp
  cases p with
  | tmp t=>exact free t v hp hv
  | const k=>simp only[aT,Option.some.injEq]at hv;subst hv;unfold dX;split<;>rfl
  | global g=>simp only[aT,Option.map_eq_some_iff]at hv;obtain⟨d,_,rfl⟩:=hv;rfl
  | func f=>simp only[aT,Option.some.injEq]at hv;subst hv;rfl
 have aG:∀ q,q≠r->(aF (cf r H) r row) q=(H q).map (Row.kill r):=fun q hq=>by simp[aF,hq,cf]
 obtain⟨dst,op,type,pos,after,guard⟩:=o;dsimp only at h free ne ⊢;by_cases hk:kindOf op=0
 .rw[Ih hk _ H];exact⟨c,h,id⟩
 cases op<;>first | exact absurd rfl hk | skip
 case load t p=>
  simp only[rd]at h ⊢;obtain⟨v,hv,hl⟩:=Option.bind_eq_some_iff.1 h;rw[hv,Option.bind_some];have hf:=ne p v hv (by simp[Op.operands])
  cases v with
  | d x=>cases x<;>first | exact⟨c,hl,id⟩ | cases hl
  | own q off n=>cases hl
  | agg _=>cases hl
  | aR _=>cases hl
  | bg _ _=>cases hl
  | fn _ _=>cases hl
  | bm _ _=>cases hl
  | dead=>cases hl
  | mp _=>cases hl
  | ref q ee j=>
   simp only[iL]at hl ⊢
   have hq:q≠r:=fun e=>by simp[AV.kill,e]at hf
   rw[aG q hq]
   cases hH:H q with
   | none=>simp[hH]at hl
   | some o5=>
    cases o5 with
    | sl ty sz els=>simp only[hH]at hl;simp only[Option.map_some,Row.kill];exact⟨c,hl,id⟩
    | mp ty ents=>simp[hH]at hl
    | it ents seen=>simp[hH]at hl
    | box ty cells=>
     simp only[hH]at hl;simp only[Option.map_some,Row.kill];split at hl
     .rename_i he;rw[if_pos he];exact KL hl hx
     .cases hl
 case indexAddr t p i=>
  simp only[rd]at h ⊢;split at h
  .rename_i a b ha hb;have hf:=ne p a ha (by simp[Op.operands])
   have bb:∃ k n,b = .d (.v (.int k n)):=by
    unfold kV at h;split at h
    .exact⟨_,_,rfl⟩
    .exact⟨_,_,rfl⟩
    .exact⟨_,_,rfl⟩
    .exact⟨_,_,rfl⟩
    .cases h
   obtain⟨k,nn,rfl⟩:=bb
   cases a with
   | d x=>cases x<;>first | exact⟨c,h,id⟩ | (cases h;done)
   | ref _ _ _=>exact⟨c,h,id⟩
   | agg _=>cases h
   | aR _=>cases h
   | bg _ _=>cases h
   | fn _ _=>cases h
   | bm _ _=>cases h
   | dead=>cases h
   | mp _=>cases h
   | own q off n=>
   unfold kV at h ⊢
   have hq:q≠r:=fun e=>by simp[AV.kill,e]at hf
   simp only[aG q hq]
   cases hH:H q with
   | none=>simp[hH]at h
   | some o5=>
    cases o5 with
    | sl ty sz els=>simp only[hH]at h;exact⟨c,h,id⟩
    | mp ty ents=>
     cases he:j3 T t with
     | none=>simp[he]at h
     | some s=>simp[he,hH]at h
    | it ents seen=>
     cases he:j3 T t with
     | none=>simp[he]at h
     | some s=>simp[he,hH]at h
    | box ty cells=>
     simp only[hH]at h
     cases he:j3 T t with
     | none=>simp[he]at h
     | some s=>rw[he]at h;exact⟨c,h,id⟩
  .cases h
 case slice t p lo hi mx=>
  simp only[rd]at h ⊢;split at h
  .rename_i hm;rw[if_pos hm];split at h
   .rename_i v l hh h1 h2 h3;have hf:=ne p v h1 (by simp[Op.operands])
    cases v with
    | d x=>cases x with
     | v x=>cases x<;>first | exact⟨c,h,id⟩ | (cases h;done)
     | sl k els=>exact⟨c,h,id⟩
     | _=>cases h
    | ref _ _ _=>cases h
    | agg _=>cases h
    | aR _=>cases h
    | bg _ _=>cases h
    | fn _ _=>cases h
    | bm _ _=>cases h
    | dead=>cases h
    | mp _=>cases h
    | own q off n=>
    unfold lQ at h ⊢;dsimp only at h ⊢
    have hq:q≠r:=fun e=>by simp[AV.kill,e]at hf
    rw[aG q hq]
    cases hH:H q with
    | none=>simp[hH]at h
    | some o5=>
     cases o5 with
     | sl ty sz els=>simp only[hH]at h;exact⟨c,h,id⟩
     | mp ty ents=>simp[hH]at h
     | it ents seen=>simp[hH]at h
     | box ty cells=>simp[hH]at h
   .cases h
  .cases h
 case lookup t p i b=>
  simp only[rd]at h ⊢;split at h
  .rename_i a k ha hb;have hf:=ne p a ha (by simp[Op.operands])
   cases a with
   | mp q=>
    have hq:q≠r:=fun e=>by simp[AV.kill,e]at hf
    cases k with
    | d kx=>
     cases kx with
     | v kv=>
      simp only[jh]at h ⊢;rw[aG q hq]
      cases hH:H q with
      | none=>simp[hH]at h
      | some o5=>
       cases o5 with
       | mp ty ents=>rw[hH]at h;exact⟨c,h,id⟩
       | _=>simp[hH]at h
     | _=>simp[jh]at h
    | _=>simp[jh]at h
   | d q=>
    cases q with
    | dm x ents=>
     cases k with
     | d kx=>
      cases kx with
      | v kv=>simp only[jh]at h ⊢;exact⟨c,h,id⟩
      | _=>simp[jh]at h
     | _=>simp[jh]at h
    | _=>simp[jh]at h
   | _=>simp[jh]at h
  .cases h
 case call cc=>
  obtain⟨callee,args,argTypes⟩:=cc
  cases callee with
  | builtin b=>cases b<;>first | exact absurd rfl hk | (simp[rd]at h;done)
  | _=>simp[rd]at h
 all_goals first | (simp[rd]at h;done) | skip
end
end Go.Av
namespace Go.Av
def nZ (av:List (Nat×List Nat)) (i:Nat):List Nat:=(av.lookup i).getD []
def Cd (o:Op):Bool:=match o with
 | .buildSlice _ _ _=>true
 | .makeSlice _ _ _=>true
 | .alloc _=>true
 | o=>decide (kindOf o<=2)
def abn (la:List (Nat×Nat×Nat)) (av:List (Nat×List Nat)) (ops:Array Oper) (i j:Nat) (oi oj:Oper):Bool:=match la.lookup i,la.lookup j with
 | none,none=>fI ops oi oj
 | none,some (r,s)=>oi.apart ops oj && Cd oi.op && !(oi.dst == some s) && !(oi.dst == some r) && (nZ av i).contains r
 | some (r,s),some (r',s')=>oi.apart ops oj && !(r == r') && !(s == r') && !(s' == r)
 | some _,none=>false
section
variable {P:Program} {T:Ty} {Mv X:Nat->Prop} {G:Yt} {N:Fr} {ops:Array Oper} {la:List (Nat×Nat×Nat)} {av:List (Nat×List Nat)}
theorem AV.w9 (r:Nat) (x:AV):(x.kill r).kill r=x.kill r:=by
 have key:∀ n,∀ x:AV,SizeOf.sizeOf x < n->(x.kill r).kill r=x.kill r:=by
  intro n
  induction n with
  | zero=>intro x h;omega
  | succ n ih=>
   intro x h
   have go:∀ l:List AV,SizeOf.sizeOf l < n->(l.map (AV.kill r)).map (AV.kill r)=l.map (AV.kill r):=by
    intro l
    induction l with
    | nil=>intro _;rfl
    | cons y l tL=>
     intro hl;simp only[List.cons.sizeOf_spec]at hl;simp only[List.map_cons,List.cons.injEq];exact⟨ih y (by omega),tL (by omega)⟩
   cases x with
   | d x=>simp[AV.kill]
   | own q off n=>by_cases h1:q=r<;>simp[AV.kill,h1]
   | ref q e j=>by_cases h1:q=r<;>simp[AV.kill,h1]
   | agg cells=>simp at h;simp only[AV.kill,AV.go_eq];rw[go cells (by omega)]
   | aR cells=>simp at h;simp only[AV.kill,AV.go_eq];rw[go cells (by omega)]
   | bg t x=>simp at h;simp only[AV.kill];rw[ih x (by omega)]
   | bm t x=>simp at h;simp only[AV.kill];rw[ih x (by omega)]
   | fn f cells=>simp at h;simp only[AV.kill,AV.go_eq];rw[go cells (by omega)]
   | mp q=>by_cases h1:q=r<;>simp[AV.kill,h1]
   | dead=>simp[AV.kill]
 exact key _ x (Nat.lt_succ_self _)
theorem Row.w9 (r:Nat) (x:Row):(x.kill r).kill r=x.kill r:=by
 cases x with
 | sl ty sz els=>rfl
 | mp ty ents=>rfl
 | it ents seen=>rfl
 | box ty cells=>
  simp only[Row.kill,List.map_map];congr 1;apply List.map_congr_left;intro x _;exact AV.w9 r x
theorem L0 {e:Env} {H:Heap} {r ty sz:Nat} {els:List (List D)} (d:Tmp) (hm:Mv r):aD Mv X G N ⟨fb (YT r e) d (.own r 0 els.length),aF (cf r H) r (.sl ty sz els)⟩ ⟨fb (YT r e) d (.d (.sl none els)),aF (cf r H) r (.sl ty sz [])⟩:=fun w μ a hi=>by
 have hr:aF (cf r H) r (.sl ty sz els) r=some (.sl ty sz els):=by simp[aF]
 have tl:(fun q=>if q=r then none else μ q)=br (ea r) μ:=by
  funext q;unfold br ea;by_cases h:q=r<;>simp[h]
 have ev:Ev Mv w μ w (br (ea r) μ):=qS fun q _ _ hq=>by
  have e:q=r:=by simpa[ea]using hq
  exact e ▸ hm
 have aG:∀ q,q≠r->br (ea r) μ q=μ q:=fun q hq=>by simp[br,ea,hq]
 have hX:∀ b,XX X (br (ea r) μ) b->XX X μ b:=fun b=>r8
 have h1:In w X G (br (ea r) μ) N a ⟨fb (YT r e) d (.d (.sl none els)),fun q=>if q=r then none else cf r H q⟩:=by
  refine⟨⟨fun q row hq=>?_,fun q m hq=>?_,fun q q' m1 m2 b h1 h2 Y8 Y4=>hi.aL.inj q q' m1 m2 b (fC h1).2 (fC h2).2 Y8 Y4,fun q mq b hq hb=>hi.aL.frame q mq b (fC hq).2 hb,hi.aL.fits⟩,
   ⟨hi.env.defers,hi.env.size,fun i x hx=>?_⟩,fun g x hx=>(hi.eZ g x hx).sub hX⟩
  .dsimp only at hq;split at hq
   .cases hq
   .rename_i wH;obtain⟨m,pV,ok⟩:=hi.aL.rows q row (by simpa[aF,wH]using hq);obtain⟨jj,_,rfl⟩:=Option.map_eq_some_iff.1 (show (H q).map (Row.kill r)=some row from hq);refine⟨m,by rw[aG q wH];exact pV,?_⟩;have:=aet.keep ev aG (fun _ _=>rfl) ok
    rwa [Row.w9]at this
  .obtain⟨hk,pV⟩:=fC hq
   have wH:q≠r:=by simpa[ea]using hk
   obtain⟨row,YN⟩:=hi.aL.gl q m pV;exact⟨row,by simpa[aF,wH]using YN⟩
  .simp only[fb]at hx;split at hx
   .rename_i hid;subst hid;obtain rfl:=Option.some.inj hx;obtain⟨u,hu,Zt⟩:=hi.env.slot i (.own r 0 els.length) (by simp[fb]);refine⟨u,hu,?_⟩;obtain⟨k,hk,_⟩:=xy hi.aL hr (by omega) Zt;rw[tl]at hk;have:=RV.d (w:=w) (μ:=br (ea r) μ) hk.lR;simpa using this
   .rename_i hid;obtain⟨x0,h0,rfl⟩:=Option.map_eq_some_iff.1 (show (e i).map (AV.kill r)=some x from hx);obtain⟨u,hu,Zt⟩:=hi.env.slot i (x0.kill r) (by simp[fb,hid,YT,h0]);refine⟨u,hu,?_⟩;have:=RV.keep ev aG Zt
    rwa [AV.w9]at this
 obtain⟨ax,px⟩:=h1.alloc (Mv:=Mv) (d:=r) (w':=w) (m:=⟨none,sz,0⟩) (by simp) (bQ.refl w) (by simp) (row:=.sl ty sz []) fun _=>.nil rfl rfl
 have hH:aF (fun q=>if q=r then none else cf r H q) r (.sl ty sz [])=aF (cf r H) r (.sl ty sz []):=by
  funext q;by_cases h:q=r<;>simp[aF,h]
 refine⟨_,?_,ev.trans px⟩;rw[<- hH];exact ax
def Fin (Mv:Nat->Prop) (r m:Nat) (row:Row) (y:AV) (ey:Row):Prop:=
 (y = .own r 0 m/\ey=row)\/(Mv r/\∃ ty sz els,row = .sl ty sz els/\m=els.length/\y = .d (.sl none els)/\ey = .sl ty sz [])
theorem Fin.row {r m:Nat} {row ey:Row} {y:AV} (h:Fin Mv r m row y ey) (YN:∃ ty sz els,row = .sl ty sz els):∃ ty sz els,ey = .sl ty sz els:=by
 rcases h with⟨_,rfl⟩ | ⟨_,ty,sz,els,_,_,_,rfl⟩
 .exact YN
 .exact⟨_,_,_,rfl⟩
theorem Fin.kill {r m q:Nat} {row ey:Row} {y:AV} (h:Fin Mv r m row y ey) (hq:r≠q):y.kill q=y:=by
 rcases h with⟨rfl,_⟩ | ⟨_,ty,sz,els,_,_,rfl,_⟩
 .simp[AV.kill,hq]
 .rfl
def nW (P:Program) (T:Ty) (Mv:Nat->Prop) (G:Yt) (N:Fr) (la:List (Nat×Nat×Nat)) (av:List (Nat×List Nat)) (i:Nat) (o:Oper) (σ af:St):Prop:=
 cZ N o/\o.guard=none/\match la.lookup i with
  | some (r,s)=>∃ m row y ey,fF T G Mv o σ.env σ.H r s m row/\Fin Mv r m row y ey/\af=⟨aw (YT r σ.env) o.dst y,aF (cf r σ.H) r ey⟩
  | none=>kindOf o.op≠9/\∃ x H',Ex P T Mv G o σ.env σ.H x H'/\af=⟨aw σ.env o.dst x,H'⟩/\(∀ r∈nZ av i,yf r o σ.env x)/\(nZ av i≠[]->∀ c,YK o.op=some c->∃ y g ds,ZC G σ.env c=some (g,ds.map .d)/\ao P G g ds y/\x = .d y)
theorem nW.step {i:Nat} {o:Oper} {σ af:St} (h:nW P T Mv G N la av i o σ af):∃ Dd,qp P T Mv G N ops o σ Dd/\aD Mv X G N Dd af:=by
 obtain⟨hd,hg,h⟩:=h;split at h
 .obtain⟨m,row,y,ey,h1,hf,rfl⟩:=h;refine⟨_,⟨hd,.inl ⟨fU hg,h1.to⟩⟩,?_⟩
  rcases hf with⟨rfl,rfl⟩ | ⟨hm,ty,sz,els,rfl,rfl,rfl,rfl⟩
  .exact .refl _
  .obtain⟨_,_,d,v7⟩:=h1.row;rw[v7];exact L0 d hm
 .obtain⟨_,x,H',h1,rfl,_⟩:=h;exact⟨_,⟨hd,.inl ⟨fU hg,h1.to⟩⟩,.refl _⟩
theorem Ex.newRow {o:Oper} (hk:¬ kindOf o.op<=2) (ho:Cd o.op=true) {e:Env} {H H':Heap} {x:AV} (h:Ex P T Mv G o e H x H'):∃ d row,o.dst=some d/\H d=none/\H'=aF H d row/\(∀ q,row.kill q=row)/\∀ H2,H2 d=none->Ex P T Mv G o e H2 x (aF H2 d row):=by
 obtain⟨dst,op,type,pos,after,guard⟩:=o;dsimp only at hk ho;unfold Ex at h;unfold Ex
 cases op<;>simp only[Cd,decide_eq_true_eq]at ho<;>first | exact absurd ho hk | skip
 case alloc t=>
  simp only[YK,dk,if_true]at h ⊢;obtain⟨c,h1,h2⟩:=h
  cases dst with
  | none=>cases h1
  | some d=>
   simp only[wr]at h1 ⊢;split at h1
   .rename_i ti Bg;simp only[Option.some.injEq,Prod.mk.injEq,St.mk.injEq,true_and]at h1;obtain⟨rfl,rfl,rfl⟩:=h1;exact⟨d,_,rfl,h2,rfl,fun q=>by simp[Row.kill,dX,AV.kill],fun H2 h=>⟨_,rfl,h⟩⟩
   .cases h1
 case makeSlice t y z=>
  simp only[YK,dk,if_true]at h ⊢;obtain⟨c,h1,h2⟩:=h
  cases dst with
  | none=>cases h1
  | some d=>
   simp only[wr]at h1 ⊢;split at h1
   .split at h1
    .split at h1
     .simp only[Option.some.injEq,Prod.mk.injEq,St.mk.injEq,true_and]at h1;obtain⟨rfl,rfl,rfl⟩:=h1;exact⟨d,_,rfl,h2.1,rfl,fun _=>rfl,fun H2 h=>⟨_,rfl,h,h2.2⟩⟩
     .cases h1
    .cases h1
   .cases h1
 case buildSlice t n ps=>
  simp only[YK,dk,if_true]at h ⊢;obtain⟨c,h1,h2⟩:=h
  cases dst with
  | none=>cases h1
  | some d=>
   simp only[wr]at h1 ⊢;split at h1
   .split at h1
    .split at h1
     .split at h1
      .simp only[Option.some.injEq,Prod.mk.injEq,St.mk.injEq,true_and]at h1;obtain⟨rfl,rfl,rfl⟩:=h1;exact⟨d,_,rfl,h2.1,rfl,fun _=>rfl,fun H2 h=>⟨_,rfl,h,h2.2⟩⟩
      .cases h1
     .cases h1
    .cases h1
   .cases h1
theorem GY {r q off n:Nat} {z:AV} (h:z.kill r = .own q off n):z = .own q off n:=by
 cases z<;>simp only[AV.kill,reduceCtorEq]at h
 .split at h
  .cases h
  .exact h
 .split at h<;>cases h
 .split at h<;>cases h
theorem QM {r:Nat} {x:D} {z:AV} (h:z.kill r = .d x):z = .d x:=by
 cases z<;>simp only[AV.kill,reduceCtorEq]at h
 .exact h
 .split at h<;>cases h
 .split at h<;>cases h
 .split at h<;>cases h
theorem xm {H:Heap} {r:Nat} {v:AV} {l:List (List D)} (h:ZX H r v=some l):(∃ x,v = .d x)\/∃ q off n,v = .own q off n:=by
 unfold ZX at h;split at h
 .exact .inl ⟨_,rfl⟩
 .exact .inr ⟨_,_,_,rfl⟩
 .cases h
theorem yp {r:Nat} {e:Env} {p:Operand}:aT G (YT r e) p=(aT G e p).map (AV.kill r):=by
 cases p with
 | tmp t=>rfl
 | const k=>simp only[aT,Option.map_some];unfold dX;split<;>rfl
 | global g=>simp only[aT,Option.map_map];rfl
 | func f=>rfl
theorem fF.Wp {o:Oper} {e:Env} {H H2:Heap} {r s m q:Nat} {row:Row} (h:fF T G Mv o (YT q e) H r s m row) (hr:H2 r=H r) (hs:H2 s=H s):fF T G Mv o e H2 r s m row:=by
 obtain⟨x,y,off,n,v,ty,sz,els,news,c,h1,h2,h3,h4,h5,h6,h7,h8⟩:=h;rw[yp]at h2 h3;obtain⟨z1,rq,e1⟩:=Option.map_eq_some_iff.1 h2;obtain⟨z2,Br,e2⟩:=Option.map_eq_some_iff.1 h3;have:=GY e1;subst this
 have hz:z2=v:=by
  rcases xm h6 with⟨x,rfl⟩ | ⟨_,_,_,rfl⟩
  .exact QM e2
  .exact GY e2
 subst hz;exact⟨x,y,off,n,z2,ty,sz,els,news,c,h1,rq,Br,h4,by rw[hr];exact h5,by rw[Hx h4 hs];exact h6,h7,h8⟩
theorem fF.Uz {o:Oper} {e:Env} {H H2:Heap} {r s m q:Nat} {row:Row} (h:fF T G Mv o e H r s m row) (hq:r≠q) (fP:s≠q) (hr:H2 r=H r) (hs:∀ ty sz els,H s=some (.sl ty sz els)->H2 s=H s):fF T G Mv o (YT q e) H2 r s m row:=by
 obtain⟨x,y,off,n,v,ty,sz,els,news,c,h1,h2,h3,h4,h5,h6,h7,h8⟩:=h;refine⟨x,y,off,n,v,ty,sz,els,news,c,h1,by rw[yp,h2];simp[AV.kill,hq],?_,h4,by rw[hr];exact h5,?_,h7,h8⟩
 .rw[yp,h3]
  rcases xm h6 with⟨x,rfl⟩ | ⟨q',_,_,rfl⟩
  .rfl
  .simp only[mQ]at h4;subst h4;simp[AV.kill,fP]
 .rcases xm h6 with⟨x,rfl⟩ | ⟨q',Se,n',rfl⟩
  .cases x<;>first | exact h6 | cases h6
  .simp only[mQ]at h4;subst h4;simp only[ZX]at h6 ⊢;split at h6
   .cases h6
   .rename_i aG;rw[if_neg aG];split at h6
    .rename_i Jv xV iU hH;rw[hs _ _ _ hH,hH];exact h6
    .cases h6
theorem Gw {H:Heap} {r d:Nat} {a b:Row} (h:d≠r):aF (aF H r a) d b=aF (aF H d b) r a:=by
 funext i;by_cases h1:i=d<;>by_cases h2:i=r<;>simp[aF,h1,h2,h,Ne.symm h]
theorem BA {H:Heap} {r d:Nat} {b:Row} (hb:b.kill r=b):cf r (aF H d b)=aF (cf r H) d b:=by
 funext i;by_cases h1:i=d<;>simp[aF,cf,h1,hb]
theorem yq {o:Oper} {e e':Env} {r:Nat} (h:∀ t,Operand.tmp t∈o.op.operands->e' t=e t) (ha:dz o.op e (YT r e)):dz o.op e' (YT r e'):=fun t ht=>by
 have h1:=ha t ht;simp only[YT]at h1 ⊢;rw[h t ht];exact h1
theorem Ro {i j:Nat} {oi oj:Oper} (hc:abn la av ops i j oi oj=true) {σ ay Y6:St} (h1:nW P T Mv G N la av i oi σ ay) (h2:nW P T Mv G N la av j oj ay Y6) :
  ∃ dy,nW P T Mv G N la av j oj σ dy/\nW P T Mv G N la av i oi dy Y6:=by
 obtain⟨di,gi,h1⟩:=h1;obtain⟨dj,gj,h2⟩:=h2;obtain⟨e,H⟩:=σ
 cases hli:la.lookup i with
 | none=>
  simp only[hli]at h1;obtain⟨ki,x,H1,Z3,rfl,abK,yO⟩:=h1
  cases cQ:la.lookup j with
  | none=>
   simp only[cQ]at h2;obtain⟨kj,y,H2,Mj,rfl,xu,Lf⟩:=h2;simp only[abn,hli,cQ]at hc;obtain⟨H3,f1,f2⟩:=qM hc (x:=x) (y:=y) (e:=e) (H:=H) ⟨di,.inl ⟨fU gi,Z3⟩⟩ ⟨dj,.inl ⟨fU gj,Mj⟩⟩ ki kj
   have ej:Ex P T Mv G oj e H y H3:=by
    rcases f1.2 with⟨_,h⟩ | ⟨h,_⟩
    .exact h
    .rw[fU gj]at h;cases h
   have ei:Ex P T Mv G oi (aw e oj.dst y) H3 x H2:=by
    rcases f2.2 with⟨_,h⟩ | ⟨h,_⟩
    .exact h
    .rw[fU gi]at h;cases h
   simp only[fI,Bool.and_eq_true]at hc;obtain⟨a1,_,aG⟩:=eG hc.1 (e:=e) (v:=x);obtain⟨_,a2,_⟩:=eG hc.1 (e:=e) (v:=y);refine⟨⟨aw e oj.dst y,H3⟩,⟨dj,gj,?_⟩,⟨di,gi,?_⟩⟩
   .simp only[cQ];refine⟨kj,y,H3,ej,rfl,fun r hr=>⟨yq (e:=aw e oi.dst x) (fun t ht=>(a1 t (fB ht)).symm) (xu r hr).1,(xu r hr).2⟩,fun ha c bL=>?_⟩;obtain⟨y',g,ds,ht,hp⟩:=Lf ha c bL;exact⟨y',g,ds,by rw[<- ht];exact qu fun t ht=>(a1 t (fB (by rw[(abj bL).1];exact ht))).symm,hp⟩
   .simp only[hli];refine⟨ki,x,H2,ei,by rw[Zk aG],fun r hr=>⟨yq (e:=e) (fun t ht=>a2 t (fB ht)) (abK r hr).1,(abK r hr).2⟩,fun ha c bL=>?_⟩;obtain⟨y',g,ds,ht,hp⟩:=yO ha c bL;exact⟨y',g,ds,by rw[<- ht];exact qu fun t ht=>a2 t (fB (by rw[(abj bL).1];exact ht)),hp⟩
  | some rs=>
   obtain⟨r,s⟩:=rs;simp only[cQ]at h2;obtain⟨m,row,yr,ey,app,fin,rfl⟩:=h2;simp only[abn,hli,cQ,Bool.and_eq_true,Bool.not_eq_true',beq_eq_false_iff_ne,List.contains_iff_mem]at hc;obtain⟨⟨⟨⟨YU,bp⟩,hs⟩,hr⟩,FA⟩:=hc;obtain⟨hag,hx⟩:=abK r FA;obtain⟨a1,_,aG⟩:=eG YU (e:=e) (v:=x);obtain⟨_,a2,_⟩:=eG YU (e:=YT r e) (v:=yr);obtain⟨abH,hHr,_⟩:=app.row;have YN:=fin.row abH;have cC:dz oj.op (aw e oi.dst x) e:=fun t ht=>a1 t (fB ht);have e3:∀ t,Operand.tmp t∈oi.op.operands->(aw (YT r e) oj.dst (yr)) t=e t:=fun t ht=>(a2 t (fB ht)).trans (hag t ht).symm
   have main:fF T G Mv oj e H r s m row/\∃ H2,Ex P T Mv G oi e (aF (cf r H) r ey) x H2/\H2=aF (cf r H1) r ey:=by
    by_cases jE:kindOf oi.op<=2
    .have:=Z3.keeps jE;subst this;refine⟨app.congr cC rfl rfl,_,?_,rfl⟩
     cases gq:YK oi.op with
     | some c=>
      obtain⟨y,g,ds,ht,hp,rfl⟩:=yO (List.ne_nil_of_mem FA) c gq;unfold Ex;simp only[gq];exact⟨y,⟨g,_,ht,.inl ⟨ds,rfl,hp⟩⟩,rfl,trivial⟩
     | none=>
      unfold Ex at Z3 ⊢;simp only[gq]at Z3 ⊢
      have hw:¬ dk oi.op=true:=fun hw=>by rcases acI hw with h | h | h<;>omega
      rw[if_neg hw]at Z3 ⊢;obtain⟨c,bq,bL,_⟩:=Z3;obtain⟨c',h',cz⟩:=Up YN bq ⟨hag,hx⟩;exact⟨c',h',cz bL,trivial⟩
    .obtain⟨d,o5,hd,hn,rfl,re,bu⟩:=Z3.newRow jE bp;have kc:d≠r:=fun e=>hr (by rw[hd,e]);have Z6:d≠s:=fun e=>hs (by rw[hd,e]);refine⟨app.congr cC (by simp[aF,Ne.symm kc]) (by simp[aF,Ne.symm Z6]),_,bu _ (by simp[aF,kc,cf,hn]),?_⟩;rw[BA (re r),Gw kc]
   obtain⟨acq,H2,Mi,rfl⟩:=main;refine⟨⟨aw (YT r e) oj.dst (yr),aF (cf r H) r ey⟩,⟨dj,gj,?_⟩,⟨di,gi,?_⟩⟩
   .simp only[cQ];exact⟨m,row,yr,ey,acq,fin,rfl⟩
   .simp only[hli];refine⟨ki,x,_,Mi.congr ki fun t ht=>(e3 t ht).symm,?_,fun q hq=>⟨yq e3 (abK q hq).1,(abK q hq).2⟩,fun ha c bL=>?_⟩
    .rw[w8,hx,Zk aG]
    .obtain⟨y',g,ds,ht,hp⟩:=yO ha c bL;exact⟨y',g,ds,by rw[<- ht];exact qu fun t ht=>e3 t (by rw[(abj bL).1];exact ht),hp⟩
 | some rs=>
  obtain⟨r,s⟩:=rs;simp only[hli]at h1;obtain⟨m,row,y1,XH,app,fin,rfl⟩:=h1
  cases cQ:la.lookup j with
  | none=>simp[abn,hli,cQ]at hc
  | some U2=>
   obtain⟨r',s'⟩:=U2;simp only[cQ]at h2;obtain⟨m',ey,y2,XI,acq,zk,rfl⟩:=h2;simp only[abn,hli,cQ,Bool.and_eq_true,Bool.not_eq_true',beq_eq_false_iff_ne]at hc;obtain⟨⟨⟨YU,gR⟩,hs⟩,A5⟩:=hc;obtain⟨a1,_,aG⟩:=eG YU (e:=YT r e) (v:=y1);obtain⟨_,a2,_⟩:=eG YU (e:=YT r' e) (v:=y2);obtain⟨⟨Jw,Jn,Ee,rfl⟩,⟨t1,z1,l1,hHr⟩,_⟩:=app.row;obtain⟨⟨CX,CR,y9,rfl⟩,⟨t2,z2,l2,Nj⟩,_⟩:=acq.row;obtain⟨ty3,V3,L5,rfl⟩:=fin.row ⟨_,_,_,rfl⟩;obtain⟨xY,sz4,za,rfl⟩:=zk.row ⟨_,_,_,rfl⟩
   have FY:∀ q,q≠r->∀ ty sz els,(cf r H) q=some (.sl ty sz els)->H q=some (.sl ty sz els):=by
    intro q _ ty sz els hq;obtain⟨jj,h0,he⟩:=Option.map_eq_some_iff.1 hq
    cases jj with
    | sl _ _ _=>rw[h0];exact congrArg some he
    | box _ _=>cases he
    | mp _ _=>cases he
    | it _ _=>cases he
   have mR:H r'=some (.sl t2 z2 l2):=FY r' (Ne.symm gR) _ _ _ (by simpa[aF,Ne.symm gR]using Nj);have p1:fF T G Mv oj (YT r e) (aF (cf r H) r (.sl ty3 V3 L5)) r' s' m' (.sl CX CR y9):=acq.congr (fun t ht=>a1 t (fB ht)) rfl rfl
   have p2:fF T G Mv oj e H r' s' m' (.sl CX CR y9):=by
    obtain⟨x,y,off,n,v,ty,sz,els,news,c,g1,g2,g3,g4,g5,g6,g7,g8⟩:=p1
    have AR:ZX H r' v=some news:=by
     rcases xm g6 with⟨x,rfl⟩ | ⟨q',Se,n',rfl⟩
     .cases x<;>first | exact g6 | cases g6
     .simp only[mQ]at g4;subst g4;simp only[ZX]at g6 ⊢;split at g6
      .cases g6
      .rename_i hq;rw[if_neg hq];split at g6
       .rename_i Jv xV iU e7;have:H q'=some (.sl Jv xV iU):=FY q' A5 _ _ _ (by simpa[aF,A5]using e7);rw[this];exact g6
       .cases g6
    have:fF T G Mv oj (YT r e) H r' s' m' (.sl CX CR y9):=⟨x,y,off,n,v,ty,sz,els,news,c,g1,g2,g3,g4,by rw[mR];simpa[aF,Ne.symm gR,cf,mR,Row.kill]using g5,AR,g7,g8⟩;exact this.Wp rfl rfl
   have q1:fF T G Mv oi (YT r' e) (aF (cf r' H) r' (.sl xY sz4 za)) r s m (.sl Jw Jn Ee):=by
    refine app.Uz gR hs ?_ fun ty sz els hh=>?_
    .simp[aF,gR,cf,hHr,Row.kill]
    .simp[aF,hs,cf,hh,Row.kill]
   have q2:fF T G Mv oi (aw (YT r' e) oj.dst y2) (aF (cf r' H) r' (.sl xY sz4 za)) r s m (.sl Jw Jn Ee):=q1.congr (fun t ht=>(a2 t (fB ht)).symm) rfl rfl;refine⟨⟨aw (YT r' e) oj.dst y2,aF (cf r' H) r' (.sl xY sz4 za)⟩,⟨dj,gj,?_⟩,⟨di,gi,?_⟩⟩
   .simp only[cQ];exact⟨m',_,y2,_,p2,zk,rfl⟩
   .simp only[hli];refine⟨m,_,y1,_,q2,fin,?_⟩;have k1:AV.kill r' y1=y1:=fin.kill gR;have k2:AV.kill r y2=y2:=zk.kill (Ne.symm gR);rw[w8,w8,k1,k2,QI r' r,Zk aG,BA rfl,BA rfl,QL r' r,Gw gR]
def abU (P:Program) (T:Ty) (Mv:Nat->Prop) (G:Yt) (N:Fr) (la:List (Nat×Nat×Nat)) (av:List (Nat×List Nat)) (ops:Array Oper):List Nat->St->St->Prop
 | [],σ,af=>σ=af
 | i :: l,σ,af=>∃ o,ops[i]? = some o/\∃ ay,nW P T Mv G N la av i o σ ay/\abU P T Mv G N la av ops l ay af
theorem U5 {p:Nat} {op:Oper} (hp:ops[p]? = some op):∀ (l1:List Nat) {l2:List Nat} {σ af:St},(∀ q∈l1,∀ oq,ops[q]? = some oq->abn la av ops q p oq op=true)->abU P T Mv G N la av ops (l1 ++ p :: l2) σ af->abU P T Mv G N la av ops (p :: (l1 ++ l2)) σ af:=by
 intro l1
 induction l1 with
 | nil=>intro l2 σ af _ h;exact h
 | cons q l1 ih=>
  intro l2 σ af bu h;obtain⟨oq,hq,ay,s1,rest⟩:=h;obtain⟨o',Y9,Y6,s2,nC⟩:=ih (fun q' fP=>bu q' (by simp[fP])) rest;rw[hp]at Y9;obtain rfl:=Option.some.inj Y9;obtain⟨dy,f1,f2⟩:=Ro (bu q (by simp) oq hq) s1 s2;exact⟨op,hp,dy,f1,oq,hq,Y6,f2,nC⟩
def rH (la:List (Nat×Nat×Nat)) (av:List (Nat×List Nat)) (ord:List Nat) (ops:Array Oper):Bool:=
 let t:=tb ops
 ord.length == ops.size && (ord.all fun i=>decide (i < ops.size)) && ((List.range ops.size).all fun i=>ord.contains i) && decide ord.Nodup &&
 ((List.range ops.size).all fun j=>match ops[j]? with
  | some oj=>oj.after.all fun e=>!Region.binds .any e || e.on < j
  | none=>true) &&
 go t ord
where
 go (t:List Nat):List Nat->Bool
 | []=>true
 | a :: l=>(l.all fun b=>match ops[a]?,ops[b]? with
  | some oa,some ob=>(oa.after.all fun e=>!Region.binds .any e || !(e.on == b)) && ((t.getD b 0).testBit a || abn la av ops a b oa ob)
  | _,_=>true) && go t l
def acP (la:List (Nat×Nat×Nat)) (av:List (Nat×List Nat)) (ops:Array Oper) (a b:Nat):Prop:=∀ oa ob,ops[a]? = some oa->ops[b]? = some ob->
 (∀ e∈oa.after,Region.binds .any e=true->e.on≠b)/\(((tb ops).getD b 0).testBit a=true\/abn la av ops a b oa ob=true)
theorem HR:∀ {l:List Nat},rH.go la av ops (tb ops) l=true->l.Pairwise (acP la av ops)
 | [],_=>.nil
 | a :: l,h=>by
  simp only[rH.go,Bool.and_eq_true]at h;refine .cons (fun b hb oa ob np nq=>?_) (HR h.2);have:=List.all_eq_true.1 h.1 b hb;simp only[np,nq,Bool.and_eq_true,Bool.or_eq_true]at this;refine⟨fun e he mX heq=>?_,this.2⟩;have h1:=Array.all_eq_true_iff_forall_mem.1 this.1 e he;simp[mX,heq]at h1
theorem sc (Yv:∀ j oj,ops[j]? = some oj->∀ e∈oj.after,Region.binds .any e=true->e.on < j) {listed:Array Bool} (gr:∀ j oj,ops[j]? = some oj->listed.getD j false=true->∀ e∈oj.after,Region.binds .any e=true->listed.getD e.on false=true) :
  ∀ (n j:Nat) (oj:Oper),j<=n->ops[j]? = some oj->(∀ e∈oj.after,Region.binds .any e=true->listed.getD e.on false=true)->∀ q,((tb ops).getD j 0).testBit q=true->listed.getD q false=true:=by
 intro n
 induction n with
 | zero=>
  intro j oj hj ba bu q hq
  have iF:j=0:=by omega
  subst iF;obtain⟨e,he,hb,_⟩:=uK ops.toList [] 0 oj q (by simpa using ba) (by simpa[tb]using hq);have:=Yv 0 oj ba e he hb;omega
 | succ n ih=>
  intro j oj hj ba bu q hq;obtain⟨e,he,hb,r⟩:=uK ops.toList [] j oj q (by simpa using ba) (by simpa[tb]using hq)
  rcases r with rfl | ⟨_,r⟩
  .exact bu e he hb
  .have AG:=Yv j oj ba e he hb
   have bU:e.on < ops.size:=by have:=(Array.getElem?_eq_some_iff.1 ba).1;omega
   exact ih e.on ops[e.on] (by omega) (by simp[bU]) (fun e' Z7 aH=>gr e.on _ (by simp[bU]) (bu e he hb) e' Z7 aH) q (by simpa[tb]using r)
theorem Ku (hg:Good P T) (Yv:∀ j oj,ops[j]? = some oj->∀ e∈oj.after,Region.binds .any e=true->e.on < j) {Q:Exit->St->Prop} {w0:World} {eX:Mu} {aX:St} (hQ:Q .normal aX):∀ (n:Nat) (R:List Nat) (listed:Array Bool) (w:World) (μ:Mu) (a:Act) (σ:St),R.length=n->R.Nodup->
  (∀ j,j∈R↔j < ops.size/\listed.getD j true=false)->listed.size=ops.size->R.Pairwise (acP la av ops)->
  (∀ j oj,ops[j]? = some oj->listed.getD j false=true->∀ e∈oj.after,Region.binds .any e=true->listed.getD e.on false=true)->abU P T Mv G N la av ops R σ aX->In w X G μ N a σ->Ev Mv w0 eX w μ->
  wpAnyIn (wd N.ro) 0 P .any ops (After Mv X G N w0 eX Q) n listed a w:=by
 intro n
 induction n with
 | zero=>
  intro R listed w μ a σ hl _ hR aK _ _ bt hi aB;have:R=[]:=List.eq_nil_of_length_eq_zero hl;subst this
  have hr:Region.ready .any ops listed=[]:=by
   apply List.eq_nil_iff_forall_not_mem.2;intro j hj;obtain⟨h1,o,ho,_⟩:=mem_ready.1 hj;exact absurd ((hR j).2 ⟨(Array.getElem?_eq_some_iff.1 ho).1,h1⟩) (by simp)
  have:σ=aX:=bt;subst this;exact⟨hr,μ,σ,hQ,hi,aB⟩
 | succ n ih=>
  intro R listed w μ a σ hl fj hR aK eL gr bt hi aB;refine⟨fun hr=>?_,fun i lD=>?_⟩
  .cases R with
   | nil=>simp at hl
   | cons j R=>
    obtain⟨gu,fY⟩:=(hR j).1 (by simp)
    have ba:ops[j]? = some ops[j]:=by simp[gu]
    have hjr:j∈Region.ready .any ops listed:=by
     refine mem_ready.2 ⟨fY,ops[j],ba,fun e he hb=>?_⟩;have abx:=Yv j ops[j] ba e he hb
     have bU:e.on < ops.size:=by omega
     have aG:e.on ∉ (j :: R):=by
      intro hm
      rcases List.mem_cons.1 hm with h | h
      .omega
      .exact ((List.pairwise_cons.1 eL).1 _ h ops[j] ops[e.on] ba (by simp[bU])).1 e he hb rfl
     have:=mt (hR e.on).2 aG
     have ZF:e.on < listed.size:=by omega
     simp only[bU,true_and,Array.getD_eq_getD_getElem?]at this ⊢;simp[ZF]at this ⊢;exact this
    rw[hr]at hjr;cases hjr
  .obtain⟨cE,oi,YI,bu⟩:=mem_ready.1 lD;have lB:i∈R:=(hR i).2 ⟨(Array.getElem?_eq_some_iff.1 YI).1,cE⟩;obtain⟨R1,R2,rfl⟩:=List.append_of_mem lB
   have lz:=U5 (P:=P) (T:=T) (Mv:=Mv) (G:=G) (N:=N) (la:=la) (av:=av) YI R1 (fun q hq oq hoq=>by
    have nt:acP la av ops q i:=(List.pairwise_append.1 eL).2.2 q hq i (by simp)
    rcases (nt oq oi hoq YI).2 with h | h
    .exfalso;have hlq:=sc Yv gr i i oi (Nat.le_refl _) YI bu q h;have e7:=((hR q).1 (by simp[hq])).2
     have lI:q < listed.size:=by have:=(Array.getElem?_eq_some_iff.1 hoq).1;omega
     simp[Array.getD_eq_getD_getElem?,lI]at hlq e7;rw[hlq]at e7;cases e7
    .exact h) bt
   obtain⟨o',Y9,ay,hstep,bx⟩:=lz;rw[YI]at Y9;obtain rfl:=Option.some.inj Y9;obtain⟨Dd,c6,himp⟩:=hstep.step (ops:=ops) (X:=X);refine qq hg c6 hi YI fun w' WV a' OS OC=>?_;obtain⟨ak,ax,Al⟩:=himp w' WV a' OS;have aao:=OC.trans Al
   have lG:(R1 ++ R2).Nodup:=by
    have:=fj;rw[List.nodup_append]at this ⊢;obtain⟨g1,g2,g3⟩:=this;exact⟨g1,(List.nodup_cons.1 g2).2,fun x hx y hy=>g3 x hx y (by simp[hy])⟩
   have lC:i ∉ R1 ++ R2:=by
    have:=fj;rw[List.nodup_append]at this;obtain⟨g1,g2,g3⟩:=this;intro hm
    rcases List.mem_append.1 hm with h | h
    .exact g3 i h i (by simp) rfl
    .exact (List.nodup_cons.1 g2).1 h
   refine ih (R1 ++ R2) _ w' ak a' ay (by simp at hl ⊢;omega) lG (fun j=>?_) (by simpa using aK) ?_ ?_ bx ax (aB.trans aao)
   .by_cases cI:j=i
    .subst cI
     have ZF:j < listed.size:=by rw[aK];exact (Array.getElem?_eq_some_iff.1 YI).1
     simp[ZF];simpa using lC
    .rw[getD_set_ne true (Ne.symm cI)];rw[<- hR j];simp[cI]
   .rw[List.pairwise_append]at eL ⊢;obtain⟨g1,g2,g3⟩:=eL;exact⟨g1,(List.pairwise_cons.1 g2).2,fun x hx y hy=>g3 x hx y (by simp[hy])⟩
   .intro j oj ba cQ e he hb;by_cases cI:j=i
    .subst cI;rw[YI]at ba;obtain rfl:=Option.some.inj ba;exact getD_set_true (bu e he hb)
    .rw[getD_set_ne false (Ne.symm cI)]at cQ;exact getD_set_true (gr j oj ba cQ e he hb)
def qg (r:Nat) (e:Env):List Operand->Prop
 | []=>True
 | .tmp t :: l=>(e t).map (AV.kill r)=e t/\qg r e l
 | _ :: l=>qg r e l
theorem Cc {r:Nat} {e:Env}:∀ {l:List Operand},qg r e l->∀ t,Operand.tmp t∈l->e t=YT r e t
 | [],_,t,ht=>by cases ht
 | p :: l,h,t,ht=>by
  cases p with
  | tmp u=>
   simp only[qg]at h
   rcases List.mem_cons.1 ht with h1 | h1
   .cases h1;exact h.1.symm
   .exact Cc h.2 t h1
  | _=>
   simp only[qg]at h
   rcases List.mem_cons.1 ht with h1 | h1
   .cases h1
   .exact Cc h t h1
def oU (rs:List Nat) (ps:List Operand) (e:Env) (x:AV):Prop:=match rs with
 | []=>True
 | r :: rs=>(qg r e ps/\x.kill r=x)/\oU rs ps e x
theorem xv {o:Oper} {e:Env} {x:AV}:∀ {rs:List Nat},oU rs o.op.operands.toList e x->∀ r∈rs,yf r o e x
 | [],_,r,hr=>by cases hr
 | q :: rs,h,r,hr=>by
  simp only[oU]at h
  rcases List.mem_cons.1 hr with rfl | hr
  .exact⟨fun t ht=>Cc h.1.1 t (by simpa using ht),h.1.2⟩
  .exact xv h.2 r hr
def aaj (P:Program) (G:Yt) (c:Call) (e:Env) (dst:Option Tmp) (H:Heap) (rs:List Nat) (ps:List Operand) (next:St->Prop):Prop:=∃ y g ds,ZC G e c=some (g,ds.map .d)/\ao P G g ds y/\oU rs ps e (.d y)/\next ⟨aw e dst (.d y),H⟩
theorem aaj.mk {c:Call} {e:Env} {dst:Option Tmp} {H:Heap} {rs:List Nat} {ps:List Operand} {next:St->Prop} {g:FuncId} {xs:List AV} {ds dh:List D} {y:D} (hc:ao P G g ds y) (ht:ZC G e c=some (g,xs)) (hx:ZM xs=some dh) (hle:D.le.go dh ds)
  (ho:oU rs ps e (.d y)) (h:next ⟨aw e dst (.d y),H⟩):aaj P G c e dst H rs ps next:=⟨y,g,dh,by rw[ht,jZ hx],hc.lR hle,ho,h⟩
def zl (Mv:Nat->Prop) (dst:Option Tmp) (r s:Nat) (z:AV) (σ:St) (next:St->Prop):Prop:=
 if s=r then match σ.H r,z with
  | some (.sl ty sz els),.own _ _ m=>Mv r/\m=els.length/\next ⟨aw σ.env dst (.d (.sl none els)),aF σ.H r (.sl ty sz [])⟩
  | _,_=>False
 else next ⟨aw σ.env dst z,σ.H⟩
def acr (T:Ty) (Mv:Nat->Prop) (G:Yt) (o:Oper) (σ:St) (r s:Nat) (next:St->Prop):Prop:=match qI o with
 | some (x,y)=>match aT G σ.env x,aT G σ.env y with
  | some (.own q _ _),some v=>q=r/\mQ s v/\match wr T G Mv σ o with
   | some (c,z,ay)=>c/\zl Mv o.dst r s z ay next
   | none=>False
  | _,_=>False
 | none=>False
def oY (T:Ty) (G:Yt) (Mv:Nat->Prop) (o:Oper) (σ:St) (rs:List Nat) (next:St->Prop):Prop:=
 if dk o.op then match wr T G Mv σ o with
  | some (c,x,af)=>c/\oU rs o.op.operands.toList σ.env x/\next ⟨aw af.env o.dst x,af.H⟩
  | none=>False
 else match rd T G σ o.op with
  | some (c,x)=>c/\oU rs o.op.operands.toList σ.env x/\next ⟨aw σ.env o.dst x,σ.H⟩
  | none=>False
def sxl (P:Program) (T:Ty) (Mv:Nat->Prop) (G:Yt) (N:Fr) (la:List (Nat×Nat×Nat)) (av:List (Nat×List Nat)) (K:St->Prop):List (Nat×Oper)->St->Prop
 | [],σ=>K σ
 | (i,o) :: rest,σ=>cZ N o/\o.guard=none/\match la.lookup i with
  | some (r,s)=>acr T Mv G o σ r s (sxl P T Mv G N la av K rest)
  | none=>kindOf o.op≠9/\match YK o.op with
   | some c=>aaj P G c σ.env o.dst σ.H (nZ av i) o.op.operands.toList (sxl P T Mv G N la av K rest)
   | none=>oY T G Mv o σ (nZ av i) (sxl P T Mv G N la av K rest)
def YA (ops:Array Oper):List Nat->List (Nat×Oper)
 | []=>[]
 | i :: l=>match ops[i]? with
  | some o=>(i,o) :: YA ops l
  | none=>YA ops l
theorem VV {K:St->Prop}:∀ (l:List Nat) (σ:St),(∀ i∈l,i < ops.size)->sxl P T Mv G N la av K (YA ops l) σ->∃ aX,K aX/\abU P T Mv G N la av ops l σ aX:=by
 intro l
 induction l with
 | nil=>intro σ _ h;exact⟨σ,h,rfl⟩
 | cons i l ih=>
  intro σ hl h;have hi:=hl i (by simp)
  have ho:ops[i]? = some ops[i]:=by simp[hi]
  simp only[YA,ho]at h;generalize ops[i]=o at ho h;simp only[sxl]at h;obtain⟨hd,YL,h⟩:=h
  have fin:∀ ay,nW P T Mv G N la av i o σ ay->sxl P T Mv G N la av K (YA ops l) ay->∃ aX,K aX/\abU P T Mv G N la av ops (i :: l) σ aX:=fun ay hs h1=>by
   obtain⟨aX,hk,hr⟩:=ih ay (fun j hj=>hl j (by simp[hj])) h1;exact⟨aX,hk,o,ho,ay,hs,hr⟩
  cases jb:la.lookup i with
  | some rs=>
   obtain⟨r,s⟩:=rs;simp only[jb]at h;unfold acr at h;split at h
   .rename_i x y Ps;split at h
    .rename_i q off n v hx hy;obtain⟨rfl,hs,h⟩:=h;split at h
     .rename_i c z ay hw;obtain⟨hc,h⟩:=h;obtain⟨e,H⟩:=σ;obtain⟨m,row,sW,rfl,rfl⟩:=fF.of Ps hx hy hs hw hc;unfold zl at h;split at h
      .obtain⟨⟨ty,sz,els,rfl⟩,_⟩:=sW.row;simp only[aF,if_true]at h;obtain⟨hm,Pf,h⟩:=h;refine fin _ ⟨hd,YL,?_⟩ h;simp only[jb];refine⟨m,_,_,_,sW,.inr ⟨hm,ty,sz,els,rfl,Pf,rfl,rfl⟩,?_⟩;congr 1;funext q';by_cases fP:q'=q<;>simp[aF,fP]
      .refine fin _ ⟨hd,YL,?_⟩ h;simp only[jb];exact⟨m,row,_,_,sW,.inl ⟨rfl,rfl⟩,rfl⟩
     .exact h.elim
    .exact h.elim
   .exact h.elim
  | none=>
   simp only[jb]at h;obtain⟨hk,h⟩:=h;split at h
   .rename_i c hc;obtain⟨y,g,ds,ht,hp,dR,h⟩:=h;refine fin _ ⟨hd,YL,?_⟩ h;simp only[jb];refine⟨hk,.d y,σ.H,?_,rfl,xv dR,fun _ c' YS=>?_⟩
    .unfold Ex;simp only[hc];exact⟨y,⟨g,_,ht,.inl ⟨ds,rfl,hp⟩⟩,rfl,trivial⟩
    .rw[hc]at YS;obtain rfl:=Option.some.inj YS;exact⟨y,g,ds,ht,hp,rfl⟩
   .rename_i hc;unfold oY at h;split at h
    .rename_i hw;split at h
     .rename_i c x ay h1;obtain⟨bL,dR,h⟩:=h;have he:=abX hk h1;obtain⟨e,H⟩:=σ;obtain⟨e1,H1⟩:=ay;dsimp only at he;subst he;refine fin _ ⟨hd,YL,?_⟩ h;simp only[jb];refine⟨hk,x,H1,?_,rfl,xv dR,fun _ c' YS=>?_⟩
      .unfold Ex;simp only[hc];rw[if_pos hw];exact⟨c,h1,bL⟩
      .rw[hc]at YS;cases YS
     .exact h.elim
    .rename_i hw;split at h
     .rename_i c x h1;obtain⟨bL,dR,h⟩:=h;refine fin _ ⟨hd,YL,?_⟩ h;simp only[jb];refine⟨hk,x,σ.H,?_,rfl,xv dR,fun _ c' YS=>?_⟩
      .unfold Ex;simp only[hc];rw[if_neg hw];exact⟨c,h1,bL,trivial⟩
      .rw[hc]at YS;cases YS
     .exact h.elim
theorem Dg (hg:Good P T) (hm:P.follows .mixedOrders=true) (la:List (Nat×Nat×Nat)) (av:List (Nat×List Nat)) (ord:List Nat) {id:Nat} (bp:rH la av ord ops=true) {Q:Exit->St->Prop} {σ:St} (h:sxl P T Mv G N la av (fun af=>Q .normal af) (YA ops ord) σ):AW P Mv X G N (.region id ops true) Q σ:=fun w μ a hi=>by
 unfold rH at bp;simp only[Bool.and_eq_true]at bp;obtain⟨⟨⟨⟨⟨h1,h2⟩,h3⟩,h4⟩,h5⟩,h6⟩:=bp
 have hlen:ord.length=ops.size:=by simpa using h1
 have Yv:∀ i∈ord,i < ops.size:=fun i hi=>by simpa using List.all_eq_true.1 h2 i hi
 have bu:∀ i,i < ops.size->i∈ord:=fun i hi=>by simpa using List.all_eq_true.1 h3 i (List.mem_range.2 hi)
 have fj:ord.Nodup:=by simpa using h4
 have nc:∀ j oj,ops[j]? = some oj->∀ e∈oj.after,Region.binds .any e=true->e.on < j:=fun j oj ba e he hb=>by
  have:=List.all_eq_true.1 h5 j (List.mem_range.2 (Array.getElem?_eq_some_iff.1 ba).1);simp only[ba]at this;have:=Array.all_eq_true_iff_forall_mem.1 this e he;simpa[hb]using this
 obtain⟨aX,hQ,bt⟩:=VV ord σ Yv h;refine wpIn_region_any hm ?_;obtain⟨ax,aB⟩:=hi.iW (Mv:=Mv) (bQ.drew w);refine Ku hg nc hQ ops.size ord _ w.drew μ a σ hlen fj (fun j=>?_) (by simp) (HR h6) ?_ bt ax aB
 .constructor
  .intro hj;have:=Yv j hj;simp[Array.getD_eq_getD_getElem?,this]
  .intro hj;exact bu j hj.1
 .intro j oj ba cQ;have hj:=(Array.getElem?_eq_some_iff.1 ba).1;simp[Array.getD_eq_getD_getElem?,hj]at cQ
theorem uU (hg:Good P T) (hm:P.follows .mixedOrders=true) (la:List (Nat×Nat×Nat)) (av:List (Nat×List Nat)) (ord:List Nat) (l ns:List Nat) (hM:∀ r,ns.contains r=false->Mv r) {id:Nat} (bp:rH la av ord ops=true) {y:Code} {Q:Exit->St->Prop} {σ:St}
  (h:∀ K:St->Prop,(∀ τ:St,AW P Mv X G N y Q (τ.norm l ns)->K τ)->sxl P T Mv G N la av K (YA ops ord) σ):AW P Mv X G N (.seq (.region id ops true) y) Q σ:=
 pc (Dg hg hm la av ord bp (h _ fun _ h=>h.norm l ns hM))
theorem uV (hg:Good P T) (hm:P.follows .mixedOrders=true) (la:List (Nat×Nat×Nat)) (av:List (Nat×List Nat)) (ord:List Nat) {id:Nat} (bp:rH la av ord ops=true) {Q:Exit->St->Prop} {σ:St}
  (h:∀ K:St->Prop,(∀ τ:St,Q .normal τ->K τ)->sxl P T Mv G N la av K (YA ops ord) σ):AW P Mv X G N (.region id ops true) Q σ:=Dg hg hm la av ord bp (h _ fun _ h=>h)
end
end Go.Av
namespace Go.Av
section
variable {P:Program} {T:Ty} {Mv X:Nat->Prop} {G:Yt} {N:Fr} {σ:St}
theorem cJ (l:List (Nat×AV)) (i:Nat) (x:AV):fb (YB l) i x=YB ((i,x) :: l):=by
 funext j;simp only[fb,YB,List.lookup];by_cases h:j=i
 .subst h;simp
 .have:(j == i)=false:=by simpa using h
  simp[h,this]
theorem Gx (l:List (Nat×Row)) (i:Nat) (x:Row):aF (ah l) i x=ah ((i,x) :: l):=by
 funext j;simp only[aF,ah,List.lookup];by_cases h:j=i
 .subst h;simp
 .have:(j == i)=false:=by simpa using h
  simp[h,this]
theorem ac5 {α β:Type} (f:α->β) (l:List (Nat×α)) (i:Nat):(l.map fun p=>(p.1,f p.2)).lookup i=(l.lookup i).map f:=by
 induction l with
 | nil=>rfl
 | cons p l ih=>
  simp only[List.map_cons,List.lookup];cases h:(i == p.1)<;>simp[ih]
theorem QJ (r:Nat) (l:List (Nat×AV)):YT r (YB l)=YB (l.map fun p=>(p.1,p.2.kill r)):=by
 funext j;simp only[YT,YB,ac5]
theorem QK (r:Nat) (l:List (Nat×Row)):cf r (ah l)=ah (l.map fun p=>(p.1,p.2.kill r)):=by
 funext j;simp only[cf,ah,ac5]
theorem Wg (o f:Nat->Nat->Nat->AV) (l:List (Nat×AV)):gE o f (YB l)=YB (l.map fun p=>(p.1,p.2.tr o f)):=by
 funext j;simp only[gE,YB,ac5]
theorem Pn:ft=ah []:=rfl
def CK (P:Program) (T:Ty) (Mv X:Nat->Prop) (G:Yt) (N:Fr) (ops:Array Oper) (o:Oper) (σ:St) (K:St->Prop):Prop:=cZ N o/\match fc ops σ.env o with
 | some b=>if b=true then py P T Mv X G N o σ K else K ⟨aw σ.env o.dst bX,σ.H⟩
 | none=>False
def Ji (P:Program) (T:Ty) (Mv:Nat->Prop) (G:Yt) (N:Fr) (ops:Array Oper) (o:Oper) (σ:St) (K:St->Prop):Prop:=cZ N o/\match fc ops σ.env o with
 | some b=>if b=true then (match YK o.op with
  | some c=>aak P G c σ o.dst K
  | none=>aaK T G Mv o σ K) else K ⟨aw σ.env o.dst bX,σ.H⟩
 | none=>False
def Jj (P:Program) (T:Ty) (Mv:Nat->Prop) (G:Yt) (N:Fr) (la:List (Nat×Nat×Nat)) (av:List (Nat×List Nat)) (i:Nat) (o:Oper) (σ:St) (K:St->Prop):Prop:=cZ N o/\o.guard=none/\match la.lookup i with
 | some (r,s)=>acr T Mv G o σ r s K
 | none=>kindOf o.op≠9/\match YK o.op with
  | some c=>aaj P G c σ.env o.dst σ.H (nZ av i) o.op.operands.toList K
  | none=>oY T G Mv o σ (nZ av i) K
theorem aP {ops:Array Oper} {K:St->Prop} {o:Oper} {rest:List Oper} (h:∀ K':St->Prop,(∀ τ,fD P T Mv X G N ops K rest τ->K' τ)->CK P T Mv X G N ops o σ K'):fD P T Mv X G N ops K (o :: rest) σ:=h _ fun _ h=>h
theorem e9 {ops:Array Oper} {K:St->Prop} {o:Oper} {rest:List Oper} (h:∀ K':St->Prop,(∀ τ,jP P T Mv G N ops K rest τ->K' τ)->Ji P T Mv G N ops o σ K'):jP P T Mv G N ops K (o :: rest) σ:=h _ fun _ h=>h
theorem YM {ops:Array Oper} {K:St->Prop} (h:K σ):fD P T Mv X G N ops K [] σ:=h
theorem nK {ops:Array Oper} {K:St->Prop} (h:K σ):jP P T Mv G N ops K [] σ:=h
end
end Go.Av
namespace Go.Av
theorem Wh (k:Nat->Bool) (o f:Nat->Nat->Nat->AV) (l:List (Nat×Row)):cy k o f (ah l)=ah (l.filterMap fun p=>if k p.1=true then some (p.1,p.2.tr o f) else none):=by
 funext i;unfold cy ah
 induction l with
 | nil=>simp
 | cons p l ih=>
  obtain⟨j,r⟩:=p;simp only[List.lookup_cons,List.filterMap_cons];by_cases ke:i=j
  .subst ke;cases hk:k i
   .simp[hk]at ih ⊢;exact ih
   .simp
  .have hb:(i == j)=false:=by simpa using ke
   rw[hb];cases hk:k j
   .simpa using ih
   .simp only[if_true,List.lookup_cons,hb];exact ih
section
variable {P:Program} {Mv X:Nat->Prop} {G:Yt} {N:Fr} {w w':World} {μ:Mu} {a:Act} {σ:St}
theorem gg {T:Ty} {ops:Array Oper} {la:List (Nat×Nat×Nat)} {av:List (Nat×List Nat)} {K:St->Prop} {i:Nat} {l:List Nat} {o:Oper} (ho:ops[i]? = some o) (h:∀ K':St->Prop,(∀ τ,sxl P T Mv G N la av K (YA ops l) τ->K' τ)->Jj P T Mv G N la av i o σ K'):sxl P T Mv G N la av K (YA ops (i :: l)) σ:=by
 have:YA ops (i :: l)=(i,o) :: YA ops l:=by simp[YA,ho]
 rw[this];exact h _ fun _ h=>h
theorem o6 {T:Ty} {ops:Array Oper} {la:List (Nat×Nat×Nat)} {av:List (Nat×List Nat)} {K:St->Prop} (h:K σ):sxl P T Mv G N la av K (YA ops []) σ:=h
theorem aD.po (b j r ty sz:Nat) {e:Env} {H:Heap} {tb:TypeId} {cells:List AV} (hb:H b=some (.box tb cells)) (hr:H r=none) (hc:cells[j]? = some (.d (.sl (some false) []))) :
  aD Mv X G N ⟨e,H⟩ ⟨e,aF (aF H r (.sl ty sz [])) b (.box tb (cells.set j (.own r 0 0)))⟩:=fun w μ a hi=>by
 obtain⟨ax,ev⟩:=hi.alloc (Mv:=Mv) (w':=w) (m:=⟨none,sz,0⟩) hr (bQ.refl w) (by simp) (row:=.sl ty sz []) fun _=>.nil rfl rfl
 have PH:b≠r:=fun h=>by subst h;rw[hr]at hb;cases hb
 refine⟨cq μ r ⟨none,sz,0⟩,⟨⟨fun q row hq=>?_,fun q m hm=>?_,ax.aL.inj,ax.aL.frame,ax.aL.fits⟩,ax.env,ax.eZ⟩,ev⟩
 .by_cases tv:q=b
  .subst tv;simp only[aF,if_true,Option.some.injEq]at hq;subst hq;obtain⟨m,hm,ok⟩:=ax.aL.rows q (.box tb cells) (by simp[aF,PH,hb]);refine⟨m,hm,?_⟩
   cases ok with
   | box aH hs fL hh hn Zt hx=>
    refine .box aH rfl fL hh (by simpa using hn) (hx:=by simpa using hx) fun i u c hu fM=>?_;rw[List.getElem?_set]at fM;split at fM
    .rename_i ke;subst ke;split at fM
     .obtain rfl:=Option.some.inj fM;have h1:=Zt j u _ hu hc;refine .own (m:=⟨none,sz,0⟩) (by simp[cq]) (.inl ⟨rfl,?_,rfl,rfl⟩)
      rcases h1.data.k8 with⟨rfl,_⟩ | ⟨_,_,_,hk,_⟩
      .rfl
      .exact absurd rfl hk
     .cases fM
    .exact Zt i u c hu fM
  .exact ax.aL.rows q row (by simpa[aF,tv]using hq)
 .by_cases tv:q=b
  .exact⟨.box tb (cells.set j (.own r 0 0)),by subst tv;simp[aF]⟩
  .obtain⟨row,YN⟩:=ax.aL.gl q m hm;exact⟨row,by simpa[aF,tv]using YN⟩
end
end Go.Av
namespace Go.Av
section
variable {P:Program} {T:Ty} {Mv X:Nat->Prop} {G:Yt} {N:Fr} {σ:St}
def Za (r r' q:Nat):Nat:=if q=r then r' else q
def gY (r r' q off n:Nat):AV:=.own (Za r r' q) off n
def gX (r r' q e j:Nat):AV:=.ref (Za r r' q) e j
def aa1 (r r':Nat) (μ:Mu):Mu:=fun q=>if q=r' then μ r else if q=r then none else μ q
def abB (r r':Nat) (H:Heap):Heap:=fun q=>(if q=r' then H r else if q=r then none else H q).map (Row.tr (gY r r') (gX r r'))
theorem abT {r r' q:Nat} {m:ff} {μ:Mu} (h:aa1 r r' μ q=some m):∃ p,μ p=some m/\q=Za r r' p:=by
 unfold aa1 at h;split at h
 .rename_i e;exact⟨r,h,by simp[Za,e]⟩
 .split at h
  .cases h
  .rename_i e1 e2;exact⟨q,h,by simp[Za,e2]⟩
theorem Cr {r r' p:Nat} {m:ff} {μ:Mu} (h0:μ r'=none) (h:μ p=some m):aa1 r r' μ (Za r r' p)=some m:=by
 unfold aa1 Za;by_cases e:p=r
 .subst e;simp[h]
 .have e2:p≠r':=fun e2=>by rw[e2,h0]at h;cases h
  simp[e,e2,h]
theorem In.Za {w:World} {μ:Mu} {a:Act} {r r':Nat} (hi:In w X G μ N a σ) (hH:σ.H r'=none):In w X G (aa1 r r' μ) N a ⟨gE (gY r r') (gX r r') σ.env,abB r r' σ.H⟩:=by
 have h0:μ r'=none:=hi.aL.ml hH;have hX:∀ b,XX X (aa1 r r' μ) b->XX X μ b:=fun b hb=>hb.elim .inl fun ⟨q,m,hq,gp⟩=>let ⟨p,hp,_⟩:=abT hq;.inr ⟨p,m,hp,gp⟩;have mT:∀ {u:Value} {x:D},RD w (XX X μ) u x->RD w (XX X (aa1 r r' μ)) u x:=fun h=>h.mono (Nat.le_refl _) fun b _ hb=>⟨rfl,fun e=>hb (hX b e)⟩
 have sR:∀ {u:Value} {x:AV},RV w X μ u x->RV w X (aa1 r r' μ) u (x.tr (gY r r') (gX r r')):=fun h=>RV.tr hX (fun u q off n h=>by
  obtain⟨m,hm,hh⟩:=h.gV
  exact .own (Cr h0 hm) hh) (fun u q e j h=>by
  obtain⟨m,b,hm,hb,rfl⟩:=h.gC
  exact .ref (Cr h0 hm) hb) h
 refine⟨⟨fun q row hr=>?_,fun q m hr=>?_,fun q q' m1 m2 b h1 h2 Y8 Y4=>?_,fun q mq b hq hb=>?_,hi.aL.fits⟩,
  ⟨hi.env.defers,hi.env.size,fun i x hx=>?_⟩,fun g x hx=>mT (hi.eZ g x hx)⟩
 .obtain⟨jj,abH,rfl⟩:=Option.map_eq_some_iff.1 hr
  have:∃ p,σ.H p=some jj/\q=Go.Av.Za r r' p:=by
   split at abH
   .rename_i e;exact⟨r,abH,by simp[Go.Av.Za,e]⟩
   .split at abH
    .cases abH
    .rename_i e1 e2;exact⟨q,abH,by simp[Go.Av.Za,e2]⟩
  obtain⟨p,hp,rfl⟩:=this;obtain⟨m,hm,ok⟩:=hi.aL.rows p jj hp;refine⟨m,Cr h0 hm,?_⟩
  cases ok with
  | nil h1 h2=>exact .nil h1 h2
  | sl h1 h2 h3 h4 h5 h6 h7 h8 h9=>exact .sl h1 h2 h3 h4 h5 h6 h7 h8 fun i j el c he hc=>let ⟨u,hu,hr⟩:=h9 i j el c he hc;⟨u,hu,mT hr⟩
  | box h1 h2 h3 h4 h5 h6 h7=>
   refine .box h1 rfl h3 h4 (by simpa using h5) (fun j u c hu hc=>?_) (by simpa using h7);rw[List.getElem?_map]at hc;obtain⟨c',YS,rfl⟩:=Option.map_eq_some_iff.1 hc;exact sR (h6 j u c' hu YS)
  | mp h1 h2 h3 h4=>exact .mp h1 h2 h3 fun i e p he hp=>let ⟨a,b,c⟩:=h4 i e p he hp;⟨a,b,mT c⟩
  | it h1 h2 h3=>exact .it h1 h2 (mT h3)
 .obtain⟨p,hp,rfl⟩:=abT hr;obtain⟨row,YN⟩:=hi.aL.gl p m hp;refine⟨row.tr (gY r r') (gX r r'),?_⟩
  have aG:p≠r':=fun e=>by rw[e,h0]at hp;cases hp
  show abB r r' σ.H _=_;unfold abB Go.Av.Za;by_cases e:p=r
  .subst e;simp[YN]
  .simp[e,aG,YN]
 .obtain⟨p1,eC,rfl⟩:=abT h1;obtain⟨p2,Zg,rfl⟩:=abT h2;rw[hi.aL.inj p1 p2 m1 m2 b eC Zg Y8 Y4]
 .obtain⟨p,hp,rfl⟩:=abT hq;exact hi.aL.frame p mq b hp hb
 .replace hx:gE (gY r r') (gX r r') σ.env i=some x:=hx;unfold gE at hx;obtain⟨x0,MX,rfl⟩:=Option.map_eq_some_iff.1 hx;obtain⟨u,hu,hr⟩:=hi.env.slot i x0 MX;exact⟨u,hu,sR hr⟩
theorem aD.Za {r r':Nat} (hm:Mv r) (hH:σ.H r'=none):aD Mv X G N σ ⟨gE (gY r r') (gX r r') σ.env,abB r r' σ.H⟩:=fun w μ a hi=>
 ⟨aa1 r r' μ,hi.Za hH,⟨Nat.le_refl _,rfl,rfl,rfl,fun b hb hr=>⟨rfl,fun ⟨q,m,hq,gp⟩=>let ⟨p,hp,_⟩:=abT hq;hr ⟨p,m,hp,gp⟩⟩,fun q m hq hn=>by
  have h1:q≠r:=fun e=>hn (e ▸ hm)
  have h2:q≠r':=fun e=>by rw[e,hi.aL.ml hH]at hq;cases hq
  simp only[aa1,if_neg h1,if_neg h2]
  exact hq⟩⟩
theorem aD.We (r:Nat) {e:Env} {H:Heap} {ty:Nat} {els:List (List D)} (hH:H r=some (.sl ty 1 els)) (aG:els≠[]) (hT:ty≠DK:=by decide):aD Mv X G N ⟨e,H⟩ ⟨e,aF H r (.box ty (els.map fun el=>.d (el.headD (.v .nilFunc))))⟩:=fun w μ a hi=>by
 refine⟨μ,⟨⟨fun q row hq=>?_,fun q m hq=>?_,hi.aL.inj,hi.aL.frame,hi.aL.fits⟩,⟨hi.env.defers,hi.env.size,hi.env.slot⟩,hi.eZ⟩,.refl _ w μ⟩
 .replace hq:aF H r _ q=some row:=hq;unfold aF at hq;split at hq
  .rename_i e;subst e;obtain rfl:=Option.some.inj hq;obtain⟨m,hm,ok⟩:=hi.aL.rows q _ hH;refine⟨m,hm,?_⟩
   cases ok with
   | nil h1 h2=>exact absurd rfl aG
   | sl h1 h2 h3 h4 h5 h6 h7 h8 h9=>
    refine .box h1 rfl h6 h3 (by simp;omega) (hx:=fun e=>absurd e hT) fun j u c hu hc=>?_;rw[List.getElem?_map]at hc;obtain⟨el,aJ,rfl⟩:=Option.map_eq_some_iff.1 hc;have hl:=h7 el (List.mem_of_getElem? aJ)
    match el,hl with
    | [c],_=>
     obtain⟨u',ZU,bq⟩:=h9 j 0 [c] c aJ rfl;simp only[Nat.mul_one,Nat.add_zero]at ZU;rw[hu]at ZU;obtain rfl:=Option.some.inj ZU;exact .d bq
  .exact hi.aL.rows q row hq
 .obtain⟨row,YN⟩:=hi.aL.gl q m hq;by_cases e:q=r
  .exact⟨_,if_pos e⟩
  .exact⟨row,(if_neg e).trans YN⟩
end
end Go.Av
namespace Go.Av
def ru:Op->Bool
 | .load _ _=>true
 | .indexAddr _ _ _=>true
 | .slice _ _ _ _ _=>true
 | .store _ _ _=>true
 | .mapUpdate _ _ _ _=>true
 | _=>false
def aaX (r:Nat):AV->Prop
 | .ref q _ _=>q=r
 | .own q _ _=>q=r
 | .d _=>True
 | _=>False
def oV (G:Yt) (e:Env) (o:Op) (r:Nat):Prop:=match o with
 | .load _ p=>match aT G e p with
  | some v=>aaX r v
  | none=>False
 | .indexAddr _ p _=>match aT G e p with
  | some v=>aaX r v
  | none=>False
 | .slice _ p _ _ _=>match aT G e p with
  | some v=>aaX r v
  | none=>False
 | .store _ p _=>match aT G e p with
  | some (.ref q _ _)=>q=r
  | _=>False
 | .mapUpdate _ p _ _=>match aT G e p with
  | some (.mp q)=>q=r
  | _=>False
 | _=>False
def ld (G:Yt) (fp:List (Nat×Nat)) (e:Env) (i:Nat) (o:Op):Prop:=match fp.lookup i with
 | some r=>oV G e o r
 | none=>True
def abF (fp:List (Nat×Nat)) (ops:Array Oper) (i j:Nat) (oi oj:Oper):Bool:=fI ops oi oj || (oi.apart ops oj && ru oi.op && ru oj.op && match fp.lookup i,fp.lookup j with
 | some r,some r'=>!(r == r')
 | _,_=>false)
section
variable {P:Program} {T:Ty} {Mv X:Nat->Prop} {G:Yt} {N:Fr} {ops:Array Oper} {fp:List (Nat×Nat)}
def gd (H:Heap) (r:Nat):Option Row->Heap
 | none=>H
 | some row=>aF H r row
theorem xE {H:Heap} {r q:Nat} {u:Option Row} (h:q≠r):gd H r u q=H q:=by
 cases u with
 | none=>rfl
 | some row=>simp[gd,aF,h]
theorem H7 {H:Heap} {r q:Nat} {u v:Option Row} (h:r≠q):gd (gd H r u) q v=gd (gd H q v) r u:=by
 cases u<;>cases v<;>try rfl
 funext i;by_cases h1:i=r<;>by_cases h2:i=q<;>simp[gd,aF,h1,h2,h,Ne.symm h]
theorem Rj {H H2:Heap} {t:TypeId} {v:AV} {r:Nat} (hv:aaX r v) (h:H2 r=H r):iL T H2 t v=iL T H t v:=by
 cases v with
 | d x=>cases x<;>rfl
 | ref q ee j=>simp only[aaX]at hv;subst hv;simp only[iL,h]
 | own q off n=>rfl
 | _=>exact hv.elim
theorem Qn {H H2:Heap} {t:TypeId} {v y:AV} {r:Nat} (hv:aaX r v) (h:H2 r=H r):kV T H2 t v y=kV T H t v y:=by
 cases v with
 | d x=>cases x<;>(cases y<;>first | rfl | (rename_i z;cases z<;>first | rfl | (rename_i z;cases z<;>rfl)))
 | ref q ee j=>cases y<;>first | rfl | (rename_i z;cases z<;>first | rfl | (rename_i z;cases z<;>rfl))
 | own q off n=>
  simp only[aaX]at hv;subst hv
  cases y with
  | d z=>cases z with
   | v z=>cases z<;>first | rfl | simp only[kV,h]
   | _=>rfl
  | _=>rfl
 | _=>exact hv.elim
theorem Vv {H H2:Heap} {t:TypeId} {v:AV} {lo hi:Option Int} {r:Nat} (hv:aaX r v) (h:H2 r=H r):lQ T H2 t v lo hi=lQ T H t v lo hi:=by
 cases v with
 | d x=>cases x<;>first | rfl | (rename_i z;cases z<;>rfl)
 | ref q ee j=>rfl
 | own q off n=>simp only[aaX]at hv;subst hv;simp only[lQ,h]
 | _=>exact hv.elim
theorem Ex.uL {o:Oper} {e:Env} {H H':Heap} {x:AV} {r:Nat} (ht:oV G e o.op r) (h:Ex P T Mv G o e H x H') :
  ∃ u,H'=gd H r u/\∀ H2,H2 r=H r->Ex P T Mv G o e H2 x (gd H2 r u):=by
 obtain⟨dst,op,type,pos,after,guard⟩:=o;dsimp only at ht;cases op<;>simp only[oV]at ht
 case load t p=>
  split at ht
  .rename_i v hp;refine⟨none,?_,fun H2 h2=>?_⟩
   .unfold Ex at h;simp only[YK,dk,Bool.false_eq_true,if_false]at h;obtain⟨c,_,_,rfl⟩:=h;rfl
   .unfold Ex at h ⊢;simp only[YK,dk,Bool.false_eq_true,if_false]at h ⊢;obtain⟨c,h1,h3,rfl⟩:=h;refine⟨c,?_,h3,rfl⟩;simp only[rd,hp,Option.bind_some]at h1 ⊢;rw[Rj ht h2];exact h1
  .exact ht.elim
 case indexAddr t p y=>
  split at ht
  .rename_i v hp;refine⟨none,?_,fun H2 h2=>?_⟩
   .unfold Ex at h;simp only[YK,dk,Bool.false_eq_true,if_false]at h;obtain⟨c,_,_,rfl⟩:=h;rfl
   .unfold Ex at h ⊢;simp only[YK,dk,Bool.false_eq_true,if_false]at h ⊢;obtain⟨c,h1,h3,rfl⟩:=h;refine⟨c,?_,h3,rfl⟩;simp only[rd,hp]at h1 ⊢
    cases hy:aT G e y with
    | none=>simp[hy]at h1
    | some b=>simp only[hy]at h1 ⊢;rw[Qn ht h2];exact h1
  .exact ht.elim
 case slice t p lo hi mx=>
  split at ht
  .rename_i v hp;refine⟨none,?_,fun H2 h2=>?_⟩
   .unfold Ex at h;simp only[YK,dk,Bool.false_eq_true,if_false]at h;obtain⟨c,_,_,rfl⟩:=h;rfl
   .unfold Ex at h ⊢;simp only[YK,dk,Bool.false_eq_true,if_false]at h ⊢;obtain⟨c,h1,h3,rfl⟩:=h;refine⟨c,?_,h3,rfl⟩;simp only[rd,hp]at h1 ⊢;by_cases dK:mx.isNone=true
    .rw[if_pos dK]at h1 ⊢
     cases th:bound G e lo with
     | none=>simp[th]at h1
     | some l=>
      cases wk:bound G e hi with
      | none=>simp[th,wk]at h1
      | some l2=>simp only[th,wk]at h1 ⊢;rw[Vv ht h2];exact h1
    .rw[if_neg dK]at h1;cases h1
  .exact ht.elim
 case store t p y=>
  split at ht
  .rename_i q ee j hp;subst ht;unfold Ex at h;simp only[YK,dk,if_true]at h;obtain⟨c,h1,h3⟩:=h
   cases dst with
   | some d=>simp[wr]at h1
   | none=>
    simp only[wr,hp]at h1
    cases hy:aT G e y with
    | none=>simp[hy]at h1
    | some v=>
     simp only[hy]at h1;split at h1
     .rename_i ty cells hr;split at h1
      .rename_i he;split at h1
       .rename_i c' abm hs;simp only[Option.some.injEq,Prod.mk.injEq,St.mk.injEq,true_and]at h1;obtain⟨rfl,rfl,rfl⟩:=h1;refine⟨some (.box ty abm),rfl,fun H2 h2=>?_⟩;unfold Ex;simp only[YK,dk,if_true];exact⟨_,by simp[wr,hp,hy,h2,hr,he,hs,gd],h3⟩
       .cases h1
      .cases h1
     .rename_i ty sz els hr;split at h1
      .rename_i c' iU hs;simp only[Option.some.injEq,Prod.mk.injEq,St.mk.injEq,true_and]at h1;obtain⟨rfl,rfl,rfl⟩:=h1;refine⟨some (.sl ty sz iU),rfl,fun H2 h2=>?_⟩;unfold Ex;simp only[YK,dk,if_true];exact⟨_,by simp[wr,hp,hy,h2,hr,hs,gd],h3⟩
      .cases h1
     .cases h1
     .cases h1
     .cases h1
  .exact ht.elim
 case mapUpdate t p y z=>
  split at ht
  .rename_i q hp;subst ht;unfold Ex at h;simp only[YK,dk,if_true]at h;obtain⟨c,h1,h3⟩:=h
   cases dst with
   | some d=>simp[wr]at h1
   | none=>
    simp only[wr,hp]at h1;split at h1
    .rename_i r' key dx e1 e2 e3;simp only[Option.some.injEq,AV.mp.injEq]at e1;subst e1;split at h1
     .rename_i ty ents hr;split at h1
      .rename_i c' ZO hs;simp only[Option.some.injEq,Prod.mk.injEq,St.mk.injEq,true_and]at h1;obtain⟨rfl,rfl,rfl⟩:=h1;refine⟨some (.mp ty ZO),rfl,fun H2 h2=>?_⟩;unfold Ex;simp only[YK,dk,if_true];exact⟨_,by simp[wr,hp,e2,e3,h2,hr,hs,gd],h3⟩
      .cases h1
     .cases h1
    .cases h1
  .exact ht.elim
theorem Cf {o:Op} {e e':Env} {r:Nat} (ha:dz o e e') (h:oV G e o r):oV G e' o r:=by
 cases o<;>simp only[oV]at h ⊢<;>try exact h
 case load t p=>
  have:aT G e p=aT G e' p:=cG fun t ht=>ha t (by simp[Op.operands,ht]);rw[<- this];exact h
 case indexAddr t p y=>
  have:aT G e p=aT G e' p:=cG fun t ht=>ha t (by simp[Op.operands,ht]);rw[<- this];exact h
 case slice t p lo hi mx=>
  have:aT G e p=aT G e' p:=cG fun t ht=>ha t (by simp[Op.operands,ht]);rw[<- this];exact h
 case store t p y=>
  have:aT G e p=aT G e' p:=cG fun t ht=>ha t (by simp[Op.operands,ht]);rw[<- this];exact h
 case mapUpdate t p y z=>
  have:aT G e p=aT G e' p:=cG fun t ht=>ha t (by simp[Op.operands,ht]);rw[<- this];exact h
theorem xX {o:Op} {e e':Env} {i:Nat} (ha:dz o e e') (h:ld G fp e i o):ld G fp e' i o:=by
 unfold ld at h ⊢;split
 .rename_i r hr;simp only[hr]at h;exact Cf ha h
 .trivial
def GStep (P:Program) (T:Ty) (Mv:Nat->Prop) (G:Yt) (N:Fr) (ops:Array Oper) (fp:List (Nat×Nat)) (i:Nat) (o:Oper) (σ af:St):Prop:=qp P T Mv G N ops o σ af/\(fc ops σ.env o=some true->ld G fp σ.env i o.op)
theorem Ly {x y:Oper} (h:fI ops x y=true):kindOf x.op≠9/\kindOf y.op≠9:=by
 simp only[fI,Bool.and_eq_true]at h;obtain⟨_,h⟩:=h;refine⟨fun e=>by rw[e]at h;simp[abk]at h,fun e=>?_⟩;rw[e]at h
 revert h
 rcases kinds x.op with k | k | k | k | k | k<;>rw[k]<;>simp[abk]
theorem GN {o:Op} (h:ru o=true):kindOf o≠9:=by
 unfold ru at h;split at h
 .have:=BK ‹_›;simp only[kindOf];omega
 .simp[kindOf]
 .simp[kindOf]
 .simp[kindOf]
 .simp[kindOf]
 .cases h
theorem MW {i j:Nat} {oi oj:Oper} (hc:abF fp ops i j oi oj=true) {σ ay Y6:St} (h1:GStep P T Mv G N ops fp i oi σ ay) (h2:GStep P T Mv G N ops fp j oj ay Y6) :
  ∃ dy,GStep P T Mv G N ops fp j oj σ dy/\GStep P T Mv G N ops fp i oi dy Y6:=by
 have hk:kindOf oi.op≠9/\kindOf oj.op≠9:=by
  simp only[abF,Bool.or_eq_true,Bool.and_eq_true]at hc
  rcases hc with hc | ⟨⟨⟨_,h3⟩,h4⟩,_⟩
  .exact Ly hc
  .exact⟨GN h3,GN h4⟩
 obtain⟨td,pT⟩:=hk;obtain⟨s1,t1⟩:=h1;obtain⟨s2,t2⟩:=h2;obtain⟨x,H1,uI,rfl⟩:=(nD td).1 s1;obtain⟨y,H2,qs,rfl⟩:=(nD pT).1 s2;obtain⟨e,H⟩:=σ;dsimp only at s1 s2 uI qs t1 t2 ⊢
 have YU:oi.apart ops oj=true:=by
  simp only[abF,fI,Bool.or_eq_true,Bool.and_eq_true]at hc
  rcases hc with hc | hc
  .exact hc.1
  .exact hc.1.1.1
 obtain⟨a1,_,aG⟩:=eG YU (e:=e) (v:=x);obtain⟨_,a2,_⟩:=eG YU (e:=e) (v:=y);have wj:=acK (o:=oj) (e:=aw e oi.dst x) (e':=e) a1;have wi:=acK (o:=oi) (e:=aw e oj.dst y) (e':=e) a2;have cC:dz oj.op (aw e oi.dst x) e:=fun t ht=>a1 t (fB ht);have cN:dz oi.op e (aw e oj.dst y):=fun t ht=>(a2 t (fB ht)).symm
 have main:∃ H3,Sx P T Mv G N ops oj e H y H3/\Sx P T Mv G N ops oi (aw e oj.dst y) H3 x H2:=by
  simp only[abF,Bool.or_eq_true,Bool.and_eq_true]at hc
  rcases hc with hc | ⟨_,pR⟩
  .exact qM hc uI qs td pT
  .cases Zs:fp.lookup i with
   | none=>simp[Zs]at pR
   | some r=>
    cases pQ:fp.lookup j with
    | none=>simp[Zs,pQ]at pR
    | some r'=>
     have hr:r≠r':=by simpa[Zs,pQ]using pR
     obtain⟨di,uI⟩:=uI;obtain⟨dj,qs⟩:=qs;rw[wj]at qs
     rcases uI with⟨w1,e1⟩ | ⟨w1,rfl,rfl⟩
     .have t1:=t1 w1;simp only[ld,Zs]at t1;obtain⟨u,rfl,BL⟩:=e1.uL t1
      rcases qs with⟨w2,e2⟩ | ⟨w2,rfl,rfl⟩
      .have t2:=t2 (by rw[wj];exact w2);simp only[ld,pQ]at t2;have e2:=e2.congr pT cC;obtain⟨u',rfl,BM⟩:=e2.uL (Cf cC t2);refine⟨gd H r' u',⟨dj,.inl ⟨w2,BM H (xE (Ne.symm hr)).symm⟩⟩,⟨di,.inl ⟨by rw[wi];exact w1,?_⟩⟩⟩;rw[H7 hr];exact (BL _ (xE hr)).congr td cN
      .exact⟨H,⟨dj,.inr ⟨w2,rfl,rfl⟩⟩,⟨di,.inl ⟨by rw[wi];exact w1,e1.congr td cN⟩⟩⟩
     .rcases qs with⟨w2,e2⟩ | ⟨w2,rfl,rfl⟩
      .exact⟨H2,⟨dj,.inl ⟨w2,e2.congr pT cC⟩⟩,⟨di,.inr ⟨by rw[wi];exact w1,rfl,rfl⟩⟩⟩
      .exact⟨_,⟨dj,.inr ⟨w2,rfl,rfl⟩⟩,⟨di,.inr ⟨by rw[wi];exact w1,rfl,rfl⟩⟩⟩
 obtain⟨H3,f1,f2⟩:=main;refine⟨⟨aw e oj.dst y,H3⟩,⟨(nD pT).2 ⟨y,H3,f1,rfl⟩,fun hw=>?_⟩,⟨(nD td).2 ⟨x,H2,f2,by rw[Zk aG]⟩,fun hw=>?_⟩⟩
 .exact xX cC (t2 (by rw[wj];exact hw))
 .exact xX cN (t1 (by rw[<- wi];exact hw))
def rR (P:Program) (T:Ty) (Mv:Nat->Prop) (G:Yt) (N:Fr) (ops:Array Oper) (fp:List (Nat×Nat)):List Nat->St->St->Prop
 | [],σ,af=>σ=af
 | i :: l,σ,af=>∃ o,ops[i]? = some o/\∃ ay,GStep P T Mv G N ops fp i o σ ay/\rR P T Mv G N ops fp l ay af
theorem U4 {p:Nat} {op:Oper} (hp:ops[p]? = some op):∀ (l1:List Nat) {l2:List Nat} {σ af:St},(∀ q∈l1,∀ oq,ops[q]? = some oq->abF fp ops q p oq op=true)->rR P T Mv G N ops fp (l1 ++ p :: l2) σ af->rR P T Mv G N ops fp (p :: (l1 ++ l2)) σ af:=by
 intro l1
 induction l1 with
 | nil=>intro l2 σ af _ h;exact h
 | cons q l1 ih=>
  intro l2 σ af bu h;obtain⟨oq,hq,ay,s1,rest⟩:=h;obtain⟨o',Y9,Y6,s2,nC⟩:=ih (fun q' fP=>bu q' (by simp[fP])) rest;rw[hp]at Y9;obtain rfl:=Option.some.inj Y9;obtain⟨dy,f1,f2⟩:=MW (bu q (by simp) oq hq) s1 s2;exact⟨op,hp,dy,f1,oq,hq,Y6,f2,nC⟩
def rG (fp:List (Nat×Nat)) (ops:Array Oper):Bool:=
 let t:=tb ops
 ((List.range ops.size).all fun j=>match ops[j]? with
  | some oj=>oj.after.all fun e=>!Region.binds .any e || e.on < j
  | none=>true) &&
 go t (List.range ops.size)
where
 go (t:List Nat):List Nat->Bool
 | []=>true
 | a :: l=>(l.all fun b=>match ops[a]?,ops[b]? with
  | some oa,some ob=>(oa.after.all fun e=>!Region.binds .any e || !(e.on == b)) && ((t.getD b 0).testBit a || abF fp ops a b oa ob)
  | _,_=>true) && go t l
def yh (fp:List (Nat×Nat)) (ops:Array Oper) (a b:Nat):Prop:=∀ oa ob,ops[a]? = some oa->ops[b]? = some ob->
 (∀ e∈oa.after,Region.binds .any e=true->e.on≠b)/\(((tb ops).getD b 0).testBit a=true\/abF fp ops a b oa ob=true)
theorem HO:∀ {l:List Nat},rG.go fp ops (tb ops) l=true->l.Pairwise (yh fp ops)
 | [],_=>.nil
 | a :: l,h=>by
  simp only[rG.go,Bool.and_eq_true]at h;refine .cons (fun b hb oa ob np nq=>?_) (HO h.2);have:=List.all_eq_true.1 h.1 b hb;simp only[np,nq,Bool.and_eq_true,Bool.or_eq_true]at this;refine⟨fun e he mX heq=>?_,this.2⟩;have h1:=Array.all_eq_true_iff_forall_mem.1 this.1 e he;simp[mX,heq]at h1
theorem Kt (hg:Good P T) (Yv:∀ j oj,ops[j]? = some oj->∀ e∈oj.after,Region.binds .any e=true->e.on < j) {Q:Exit->St->Prop} {w0:World} {eX:Mu} {aX:St} (hQ:Q .normal aX):∀ (n:Nat) (R:List Nat) (listed:Array Bool) (w:World) (μ:Mu) (a:Act) (σ:St),R.length=n->R.Nodup->
  (∀ j,j∈R↔j < ops.size/\listed.getD j true=false)->listed.size=ops.size->R.Pairwise (yh fp ops)->
  (∀ j oj,ops[j]? = some oj->listed.getD j false=true->∀ e∈oj.after,Region.binds .any e=true->listed.getD e.on false=true)->rR P T Mv G N ops fp R σ aX->In w X G μ N a σ->Ev Mv w0 eX w μ->
  wpAnyIn (wd N.ro) 0 P .any ops (After Mv X G N w0 eX Q) n listed a w:=by
 intro n
 induction n with
 | zero=>
  intro R listed w μ a σ hl _ hR aK _ _ bt hi aB;have:R=[]:=List.eq_nil_of_length_eq_zero hl;subst this
  have hr:Region.ready .any ops listed=[]:=by
   apply List.eq_nil_iff_forall_not_mem.2;intro j hj;obtain⟨h1,o,ho,_⟩:=mem_ready.1 hj;exact absurd ((hR j).2 ⟨(Array.getElem?_eq_some_iff.1 ho).1,h1⟩) (by simp)
  have:σ=aX:=bt;subst this;exact⟨hr,μ,σ,hQ,hi,aB⟩
 | succ n ih=>
  intro R listed w μ a σ hl fj hR aK eL gr bt hi aB;refine⟨fun hr=>?_,fun i lD=>?_⟩
  .cases R with
   | nil=>simp at hl
   | cons j R=>
    obtain⟨gu,fY⟩:=(hR j).1 (by simp)
    have ba:ops[j]? = some ops[j]:=by simp[gu]
    have hjr:j∈Region.ready .any ops listed:=by
     refine mem_ready.2 ⟨fY,ops[j],ba,fun e he hb=>?_⟩;have abx:=Yv j ops[j] ba e he hb
     have bU:e.on < ops.size:=by omega
     have aG:e.on ∉ (j :: R):=by
      intro hm
      rcases List.mem_cons.1 hm with h | h
      .omega
      .exact ((List.pairwise_cons.1 eL).1 _ h ops[j] ops[e.on] ba (by simp[bU])).1 e he hb rfl
     have:=mt (hR e.on).2 aG
     have ZF:e.on < listed.size:=by omega
     simp only[bU,true_and,Array.getD_eq_getD_getElem?]at this ⊢;simp[ZF]at this ⊢;exact this
    rw[hr]at hjr;cases hjr
  .obtain⟨cE,oi,YI,bu⟩:=mem_ready.1 lD;have lB:i∈R:=(hR i).2 ⟨(Array.getElem?_eq_some_iff.1 YI).1,cE⟩;obtain⟨R1,R2,rfl⟩:=List.append_of_mem lB
   have lz:=U4 (P:=P) (T:=T) (Mv:=Mv) (G:=G) (N:=N) (fp:=fp) YI R1 (fun q hq oq hoq=>by
    have nt:yh fp ops q i:=(List.pairwise_append.1 eL).2.2 q hq i (by simp)
    rcases (nt oq oi hoq YI).2 with h | h
    .exfalso;have hlq:=sc Yv gr i i oi (Nat.le_refl _) YI bu q h;have e7:=((hR q).1 (by simp[hq])).2
     have lI:q < listed.size:=by have:=(Array.getElem?_eq_some_iff.1 hoq).1;omega
     simp[Array.getD_eq_getD_getElem?,lI]at hlq e7;rw[hlq]at e7;cases e7
    .exact h) bt
   obtain⟨o',Y9,ay,hstep,bx⟩:=lz;rw[YI]at Y9;obtain rfl:=Option.some.inj Y9;refine qq hg hstep.1 hi YI fun w' ak a' ax aao=>?_
   have lG:(R1 ++ R2).Nodup:=by
    have:=fj;rw[List.nodup_append]at this ⊢;obtain⟨g1,g2,g3⟩:=this;exact⟨g1,(List.nodup_cons.1 g2).2,fun x hx y hy=>g3 x hx y (by simp[hy])⟩
   have lC:i ∉ R1 ++ R2:=by
    have:=fj;rw[List.nodup_append]at this;obtain⟨g1,g2,g3⟩:=this;intro hm
    rcases List.mem_append.1 hm with h | h
    .exact g3 i h i (by simp) rfl
    .exact (List.nodup_cons.1 g2).1 h
   refine ih (R1 ++ R2) _ w' ak a' ay (by simp at hl ⊢;omega) lG (fun j=>?_) (by simpa using aK) ?_ ?_ bx ax (aB.trans aao)
   .by_cases cI:j=i
    .subst cI
     have ZF:j < listed.size:=by rw[aK];exact (Array.getElem?_eq_some_iff.1 YI).1
     simp[ZF];simpa using lC
    .rw[getD_set_ne true (Ne.symm cI)];rw[<- hR j];simp[cI]
   .rw[List.pairwise_append]at eL ⊢;obtain⟨g1,g2,g3⟩:=eL;exact⟨g1,(List.pairwise_cons.1 g2).2,fun x hx y hy=>g3 x hx y (by simp[hy])⟩
   .intro j oj ba cQ e he hb;by_cases cI:j=i
    .subst cI;rw[YI]at ba;obtain rfl:=Option.some.inj ba;exact getD_set_true (bu e he hb)
    .rw[getD_set_ne false (Ne.symm cI)]at cQ;exact getD_set_true (gr j oj ba cQ e he hb)
def stepG (P:Program) (T:Ty) (Mv:Nat->Prop) (G:Yt) (N:Fr) (ops:Array Oper) (fp:List (Nat×Nat)) (i:Nat) (o:Oper) (σ:St) (K:St->Prop):Prop:=cZ N o/\match fc ops σ.env o with
 | some b=>if b=true then ld G fp σ.env i o.op/\(match YK o.op with
  | some c=>aak P G c σ o.dst K
  | none=>aaK T G Mv o σ K) else K ⟨aw σ.env o.dst bX,σ.H⟩
 | none=>False
def mw (P:Program) (T:Ty) (Mv:Nat->Prop) (G:Yt) (N:Fr) (ops:Array Oper) (fp:List (Nat×Nat)) (K:St->Prop):Nat->List Oper->St->Prop
 | _,[],σ=>K σ
 | i,o :: rest,σ=>stepG P T Mv G N ops fp i o σ (mw P T Mv G N ops fp K (i+1) rest)
theorem nL {K:St->Prop} {i:Nat} {o:Oper} {rest:List Oper} {σ:St} (h:∀ K':St->Prop,(∀ τ,mw P T Mv G N ops fp K (i+1) rest τ->K' τ)->stepG P T Mv G N ops fp i o σ K'):mw P T Mv G N ops fp K i (o :: rest) σ:=h _ fun _ h=>h
theorem nM {K:St->Prop} {i:Nat} {σ:St} (h:K σ):mw P T Mv G N ops fp K i [] σ:=h
theorem VU {K:St->Prop}:∀ (l:List Oper) (k:Nat) (σ:St),(∀ j,l[j]? = ops[k+j]?)->mw P T Mv G N ops fp K k l σ->∃ aX,K aX/\rR P T Mv G N ops fp (List.range' k l.length) σ aX:=by
 intro l
 induction l with
 | nil=>intro k σ _ h;exact⟨σ,h,rfl⟩
 | cons o l ih=>
  intro k σ hl h
  have h0:ops[k]? = some o:=by simpa using (hl 0).symm
  have fi:∀ j,l[j]? = ops[k+1+j]?:=fun j=>by have:=hl (j+1);simpa[Nat.add_assoc,Nat.add_comm 1 j]using this
  unfold mw stepG at h;obtain⟨hd,h⟩:=h;rw[List.length_cons,List.range'_succ]
  have fin:∀ ay,GStep P T Mv G N ops fp k o σ ay->mw P T Mv G N ops fp K (k+1) l ay->∃ aX,K aX/\rR P T Mv G N ops fp (k :: List.range' (k+1) l.length) σ aX:=by
   intro ay hs hq;obtain⟨aX,hk,hr⟩:=ih (k+1) ay fi hq;exact⟨aX,hk,o,h0,ay,hs,hr⟩
  split at h
  .rename_i b hb;split at h
   .rename_i mY;subst mY;obtain⟨ht,h⟩:=h;split at h
    .rename_i c hc;obtain⟨y,hy,h⟩:=h;refine fin _ ⟨⟨hd,.inl ⟨hb,?_⟩⟩,fun _=>ht⟩ h;unfold iB;simp only[hc];exact⟨y,hy,rfl⟩
    .rename_i hc;unfold aaK at h;split at h
     .rename_i hw;split at h
      .rename_i c x ay h1;obtain⟨bL,h⟩:=h;refine fin _ ⟨⟨hd,.inl ⟨hb,?_⟩⟩,fun _=>ht⟩ h;unfold iB;simp only[hc];rw[if_pos hw];exact⟨c,x,ay,h1,bL,rfl⟩
      .exact h.elim
     .rename_i hw;split at h
      .rename_i c x h1;obtain⟨bL,h⟩:=h;refine fin _ ⟨⟨hd,.inl ⟨hb,?_⟩⟩,fun _=>ht⟩ h;unfold iB;simp only[hc];rw[if_neg hw];exact⟨c,x,h1,bL,rfl⟩
      .exact h.elim
   .rename_i mY
    have:b=false:=by simpa using mY
    subst this;refine fin _ ⟨⟨hd,.inr ⟨hb,rfl⟩⟩,fun hw=>by rw[hb]at hw;cases hw⟩ h
  .exact h.elim
theorem Df (hg:Good P T) (hm:P.follows .mixedOrders=true) (fp:List (Nat×Nat)) {id:Nat} (bp:rG fp ops=true) {Q:Exit->St->Prop} {σ:St} (h:mw P T Mv G N ops fp (fun af=>Q .normal af) 0 ops.toList σ):AW P Mv X G N (.region id ops true) Q σ:=fun w μ a hi=>by
 unfold rG at bp;simp only[Bool.and_eq_true]at bp;obtain⟨h5,h6⟩:=bp
 have nc:∀ j oj,ops[j]? = some oj->∀ e∈oj.after,Region.binds .any e=true->e.on < j:=fun j oj ba e he hb=>by
  have:=List.all_eq_true.1 h5 j (List.mem_range.2 (Array.getElem?_eq_some_iff.1 ba).1);simp only[ba]at this;have:=Array.all_eq_true_iff_forall_mem.1 this e he;simpa[hb]using this
 obtain⟨aX,hQ,bt⟩:=VU ops.toList 0 σ (by simp) h;rw[<- List.range_eq_range',Array.length_toList]at bt;refine wpIn_region_any hm ?_;obtain⟨ax,aB⟩:=hi.iW (Mv:=Mv) (bQ.drew w);refine Kt hg nc hQ ops.size (List.range ops.size) _ w.drew μ a σ (by simp) List.nodup_range (fun j=>?_) (by simp) (HO h6) ?_ bt ax aB
 .simp only[List.mem_range];constructor
  .intro hj;simp[Array.getD_eq_getD_getElem?,hj]
  .exact fun hj=>hj.1
 .intro j oj ba cQ;have hj:=(Array.getElem?_eq_some_iff.1 ba).1;simp[Array.getD_eq_getD_getElem?,hj]at cQ
theorem JY (hg:Good P T) (hm:P.follows .mixedOrders=true) (fp:List (Nat×Nat)) (l ns:List Nat) (hM:∀ r,ns.contains r=false->Mv r) {id:Nat} (bp:rG fp ops=true) {y:Code} {Q:Exit->St->Prop} {σ:St}
  (h:∀ K:St->Prop,(∀ τ:St,AW P Mv X G N y Q (τ.norm l ns)->K τ)->mw P T Mv G N ops fp K 0 ops.toList σ):AW P Mv X G N (.seq (.region id ops true) y) Q σ:=
 pc (Df hg hm fp bp (h _ fun _ h=>h.norm l ns hM))
theorem nS (hg:Good P T) (hm:P.follows .mixedOrders=true) (fp:List (Nat×Nat)) {id:Nat} (bp:rG fp ops=true) {Q:Exit->St->Prop} {σ:St}
  (h:∀ K:St->Prop,(∀ τ:St,Q .normal τ->K τ)->mw P T Mv G N ops fp K 0 ops.toList σ):AW P Mv X G N (.region id ops true) Q σ:=Df hg hm fp bp (h _ fun _ h=>h)
end
end Go.Av
namespace Go.Av
def eT (fx:List Nat) (r:Nat):Prop:=fx.contains r=false
instance (fx:List Nat) (r:Nat):Decidable (eT fx r):=inferInstanceAs (Decidable (_=_))
theorem cF {fx ns:List Nat} (h:fx.all ns.contains=true):∀ r,ns.contains r=false->eT fx r:=fun r hr=>by
 unfold eT
 cases hc:fx.contains r with
 | false=>rfl
 | true=>
  have:=List.all_eq_true.1 h r (List.contains_iff_mem.1 hc);rw[this]at hr;cases hr
def MC (P:Program) (G:Yt) (fx:List Nat) (g:FuncId) (xs:List AV) (H:Heap) (y:AV) (H2:Heap):Prop:=fm P g/\∀ X,pb P (eT fx) X G g xs H fun x H'=>x=y/\H'=H2
def ZK (bC fx:List Nat) (q off n:Nat):AV:=if bC.contains q && !fx.contains q then .dead else .own q off n
def gZ (bC fx:List Nat) (q e j:Nat):AV:=if bC.contains q && !fx.contains q then .dead else .ref q e j
def Zp (bC:List Nat) (q:Nat):Bool:=!bC.contains q
def Z9 (H2 H:Heap):Heap:=fun q=>match H2 q with
 | some row=>some row
 | none=>H q
theorem OZ (l2 l:List (Nat×Row)):Z9 (ah l2) (ah l)=ah (l2 ++ l):=by
 funext q
 induction l2 with
 | nil=>rfl
 | cons p l2 ih=>
  unfold Z9 at ih ⊢;simp only[ah,List.cons_append,List.lookup]at ih ⊢;cases h:(q == p.1)<;>simp only[h]at ih ⊢;exact ih
section
variable {P:Program} {T:Ty} {Mv X:Nat->Prop} {G:Yt} {N:Fr} {w:World} {μ:Mu} {a:Act} {σ:St}
theorem RV.qv {w':World} {X':Nat->Prop} {ak:Mu} {o f:Nat->Nat->Nat->AV} (hD:∀ u d,RD w (XX X μ) u d->RD w' (XX X' ak) u d) (ho:∀ u r off n,RV w X μ u (.own r off n)->RV w' X' ak u (o r off n)) (hf:∀ u r e j,RV w X μ u (.ref r e j)->RV w' X' ak u (f r e j)) :
  ∀ {v:Value} {x:AV},RV w X μ v x->RV w' X' ak v (x.tr o f):=by
 intro v x hr
 induction hr with
 | d h'=>exact .d (hD _ _ h')
 | own hm h'=>exact ho _ _ _ _ (.own hm h')
 | ref hm hb=>exact hf _ _ _ _ (.ref hm hb)
 | agg hn _ ih=>
  rw[AV.tr,AV.rZ];refine tW (.agg (by simpa using hn) fun j u c hu hc=>?_);rw[List.getElem?_map]at hc;obtain⟨c',YS,rfl⟩:=Option.map_eq_some_iff.1 hc;exact ih j u c' hu YS
 | aR hn _ ih=>
  rw[AV.tr,AV.rZ];refine xk (.aR (by simpa using hn) fun j u c hu hc=>?_);rw[List.getElem?_map]at hc;obtain⟨c',YS,rfl⟩:=Option.map_eq_some_iff.1 hc;exact ih j u c' hu YS
 | bg _ ih=>exact BU ih
 | bm _ ih=>exact .bm ih
 | fn hn _ ih=>
  rw[AV.tr,AV.rZ];refine BT (by simpa using hn) fun j u c hu hc=>?_;rw[List.getElem?_map]at hc;obtain⟨c',YS,rfl⟩:=Option.map_eq_some_iff.1 hc;exact ih j u c' hu YS
 | mp hm hb=>
  rename_i r b m;have h0:=hf _ _ _ _ (RV.ref (e:=0) (j:=0) hm hb);unfold AV.tr;split
  .rename_i q' e' j' hq;rw[hq]at h0;obtain⟨m',b',bA,aH,e⟩:=h0.gC;simp only[Value.pointer.injEq,Option.some.injEq,Addr.mk.injEq]at e;obtain⟨rfl,_⟩:=e;exact .mp bA aH
  .exact .dead _
 | dead u=>exact .dead u
theorem RV.lift {w':World} {X':Nat->Prop} {ak:Mu} (hD:∀ u d,RD w (XX X μ) u d->RD w' (XX X' ak) u d) (du:∀ q m,μ q=some m->ak q=some m):∀ {v:Value} {x:AV},RV w X μ v x->RV w' X' ak v x:=by
 intro v x hr
 induction hr with
 | d h'=>exact .d (hD _ _ h')
 | own hm h'=>exact .own (du _ _ hm) h'
 | ref hm hb=>exact .ref (du _ _ hm) hb
 | agg hn _ ih=>exact .agg hn ih
 | aR hn _ ih=>exact .aR hn ih
 | bg _ ih=>exact .bg ih
 | bm _ ih=>exact .bm ih
 | fn hn _ ih=>exact .fn hn ih
 | mp hm hb=>exact .mp (du _ _ hm) hb
 | dead u=>exact .dead u
theorem aet.qv {w':World} {X':Nat->Prop} {ak:Mu} {o f:Nat->Nat->Nat->AV} {m:ff} (hb:∀ b,m.Y3=some b->w'.heap[b]? = w.heap[b]?) (hD:∀ u d,RD w (XX X μ) u d->RD w' (XX X' ak) u d) (hV:∀ u x,RV w X μ u x->RV w' X' ak u (x.tr o f)) {row:Row} (ok:aet w X μ m row):aet w' X' ak m (row.tr o f):=by
 cases ok with
 | nil h1 h2=>exact .nil h1 h2
 | sl h1 h2 h3 h4 h5 h6 h7 h8 h9=>exact .sl h1 h2 ((hb _ h1).trans h3) h4 h5 h6 h7 h8 fun i j el c he hc=>let ⟨u,hu,hr⟩:=h9 i j el c he hc;⟨u,hu,hD _ _ hr⟩
 | box h1 h2 h3 h4 h5 h6 h7=>
  refine .box h1 rfl h3 ((hb _ h1).trans h4) (by simpa using h5) (hx:=by simpa using h7) fun j u c hu hc=>?_;rw[List.getElem?_map]at hc;obtain⟨c',YS,rfl⟩:=Option.map_eq_some_iff.1 hc;exact hV _ _ (h6 j u c' hu YS)
 | mp h1 h2 h3 h4=>exact .mp h1 ((hb _ h1).trans h2) h3 fun i e p he hp=>let ⟨a,b,c⟩:=h4 i e p he hp;⟨a,b,hD _ _ c⟩
 | it h1 h2 h3=>exact .it h1 ((hb _ h1).trans h2) (hD _ _ h3)
theorem aet.lift {w':World} {X':Nat->Prop} {ak:Mu} {m:ff} (hb:∀ b,m.Y3=some b->w'.heap[b]? = w.heap[b]?) (hD:∀ u d,RD w (XX X μ) u d->RD w' (XX X' ak) u d) (du:∀ q m,μ q=some m->ak q=some m) {row:Row} (ok:aet w X μ m row):aet w' X' ak m row:=by
 cases ok with
 | nil h1 h2=>exact .nil h1 h2
 | sl h1 h2 h3 h4 h5 h6 h7 h8 h9=>exact .sl h1 h2 ((hb _ h1).trans h3) h4 h5 h6 h7 h8 fun i j el c he hc=>let ⟨u,hu,hr⟩:=h9 i j el c he hc;⟨u,hu,hD _ _ hr⟩
 | box h1 h2 h3 h4 h5 h6 h7=>exact .box h1 rfl h3 ((hb _ h1).trans h4) h5 (fun j u c hu hc=>(h6 j u c hu hc).lift hD du) h7
 | mp h1 h2 h3 h4=>exact .mp h1 ((hb _ h1).trans h2) h3 fun i e p he hp=>let ⟨a,b,c⟩:=h4 i e p he hp;⟨a,b,hD _ _ c⟩
 | it h1 h2 h3=>exact .it h1 ((hb _ h1).trans h2) (hD _ _ h3)
theorem mo {keep:Nat->Bool} {b:Nat} (h:eU (br keep μ) b):eU μ b:=let ⟨r,m,hr,hb⟩:=h;⟨r,m,(fC hr).2,hb⟩
theorem yo {bC:List Nat} {b:Nat}:XX (XX X (br (Zp bC) μ)) (br bC.contains μ) b↔XX X μ b:=by
 constructor
 .rintro ((h | h) | h)
  .exact .inl h
  .exact .inr (mo h)
  .exact .inr (mo h)
 .rintro (h | ⟨r,m,hr,hb⟩)
  .exact .inl (.inl h)
  .cases hk:bC.contains r with
   | true=>exact .inr ⟨r,m,by simp only[br,hk,if_true];exact hr,hb⟩
   | false=>exact .inl (.inr ⟨r,m,by simp only[br,Zp,hk,Bool.not_false,if_true];exact hr,hb⟩)
theorem cw.part {H:Heap} (hs:cw w X μ H) (bC:List Nat):cw w (XX X (br (Zp bC) μ)) (br bC.contains μ) (cy bC.contains (cM bC) (cL bC) H)/\
  ∀ {u:Value} {x:AV},RV w X μ u x->RV w (XX X (br (Zp bC) μ)) (br bC.contains μ) u (x.tr (cM bC) (cL bC)):=by
 have hD:∀ u d,RD w (XX X μ) u d->RD w (XX (XX X (br (Zp bC) μ)) (br bC.contains μ)) u d:=fun u d h=>h.sub fun b=>yo.1
 have hV:∀ u x,RV w X μ u x->RV w (XX X (br (Zp bC) μ)) (br bC.contains μ) u (x.tr (cM bC) (cL bC)):=fun u x=>RV.qv hD (fun u r off n h=>by
   unfold cM;split
   .rename_i hk;obtain⟨m,hm,hh⟩:=h.gV;exact .own (by simp only[br,hk,if_true];exact hm) hh
   .exact .dead u) (fun u r e j h=>by
   unfold cL;split
   .rename_i hk;obtain⟨m,b,hm,hb,rfl⟩:=h.gC;exact .ref (by simp only[br,hk,if_true];exact hm) hb
   .exact .dead u)
 refine⟨⟨fun r row hr=>?_,fun r m hr=>?_,fun q q' m1 m2 b h1 h2 Y8 Y4=>hs.inj q q' m1 m2 b (fC h1).2 (fC h2).2 Y8 Y4,fun q m b hq hb hX=>?_,fun b hb=>hb.elim (hs.fits b) fun h=>hs.ZZ (mo h)⟩,fun h=>hV _ _ h⟩
 .unfold cy at hr;split at hr
  .rename_i hk;obtain⟨jj,h0,rfl⟩:=Option.map_eq_some_iff.1 hr;obtain⟨m,hm,ok⟩:=hs.rows r jj h0;exact⟨m,by simp only[br,hk,if_true];exact hm,ok.qv (fun _ _=>rfl) hD hV⟩
  .cases hr
 .obtain⟨hk,hm⟩:=fC hr;obtain⟨row,YN⟩:=hs.gl r m hm;exact⟨row.tr (cM bC) (cL bC),by simp only[cy,hk,if_true,YN,Option.map_some]⟩
 .obtain⟨hk,hm⟩:=fC hq
  rcases hX with h | ⟨r,mr,hr,z7⟩
  .exact hs.frame q m b hm hb h
  .obtain⟨fq,ri⟩:=fC hr;have:=hs.inj q r m mr b hm ri hb z7;subst this;simp only[Zp,hk,Bool.not_true,Bool.false_eq_true]at fq
theorem gI.xf {fx bC:List Nat} {g:FuncId} {ZL xs:List AV} {H1 H2:Heap} {y:AV} (hc:MC P G fx g xs H1 y H2) (hx:ZL.map (AV.tr (cM bC) (cL bC))=xs) (hH:cy bC.contains (cM bC) (cL bC) σ.H=H1)
  (hd:∀ q,(H2 q).isSome=true->bC.contains q=true\/σ.H q=none) (hm:∀ r,bC.contains r=true->fx.contains r=false->Mv r) {K:AV->St->Prop}
  (h:K y ⟨gE (ZK bC fx) (gZ bC fx) σ.env,Z9 H2 (cy (Zp bC) (ZK bC fx) (gZ bC fx) σ.H)⟩):gI P Mv X G N g ZL σ K:=by
 refine⟨hc.1,fun w μ a vs hi hn hv=>?_⟩;obtain⟨dL,ia⟩:=hi.aL.part bC;rw[hH]at dL;refine (hc.2 (XX X (br (Zp bC) μ)) w (br bC.contains μ) vs dL (fun g x hx=>(hi.eZ g x hx).sub fun b=>yo.1) (by rw[hn,<- hx,List.length_map]) fun i u x hu hxi=>?_).mono ?_
 .rw[<- hx,List.getElem?_map]at hxi;obtain⟨x0,tI,rfl⟩:=Option.map_eq_some_iff.1 hxi;exact ia (hv i u x0 hu tI)
 .rintro e w' ⟨v,x,H',fv,rfl,⟨rfl,rfl⟩,hr,dM,aB⟩
  have Ov:∀ q m,fv q=some m->bC.contains q=true\/μ q=none:=fun q m hq=>by
   obtain⟨row,YN⟩:=dM.gl q m hq
   rcases hd q (by rw[YN];rfl)with h | h
   .exact .inl h
   .exact .inr (hi.aL.ml h)
  let ak:Mu:=fun q=>match fv q with
   | some m=>some m
   | none=>br (Zp bC) μ q
  have m2:∀ q m,fv q=some m->ak q=some m:=fun q m hq=>by simp only[ak,hq]
  have mr:∀ q m,bC.contains q=false->μ q=some m->ak q=some m:=fun q m hk hq=>by
   have h2:fv q=none:=by
    cases h2:fv q with
    | none=>rfl
    | some m'=>
     rcases Ov q m' h2 with h | h
     .rw[hk]at h;cases h
     .rw[hq]at h;cases h
   simp only[ak,h2,br,Zp,hk,Bool.not_false,if_true,hq]
  have of:∀ q m,ak q=some m->fv q=some m\/(fv q=none/\bC.contains q=false/\μ q=some m):=fun q m hq=>by
   cases h2:fv q with
   | some m'=>simp only[ak,h2]at hq;exact .inl hq
   | none=>
    simp only[ak,h2]at hq;obtain⟨hk,hm⟩:=fC hq;exact .inr ⟨rfl,by simpa[Zp]using hk,hm⟩
  have same:∀ b,b < w.heap.size->¬ eU (br bC.contains μ) b->w'.heap[b]? = w.heap[b]?/\¬ eU fv b:=aB.same
  have hXX:∀ b,XX X ak b->XX (XX X (br (Zp bC) μ)) fv b:=fun b hb=>by
   rcases hb with hb | ⟨q,m,hq,gp⟩
   .exact .inl (.inl hb)
   .rcases of q m hq with h2 | ⟨_,hk,hm⟩
    .exact .inr ⟨q,m,h2,gp⟩
    .exact .inl (.inr ⟨q,m,by simp only[br,Zp,hk,Bool.not_false,if_true];exact hm,gp⟩)
  have hD:∀ u d,RD w (XX X μ) u d->RD w' (XX X ak) u d:=fun u d h=>h.mono aB.size fun b hb hX=>by
   obtain⟨h1,h2⟩:=same b hb fun hr=>hX (.inr (mo hr));refine⟨h1,fun hX'=>?_⟩
   rcases hX' with h | ⟨q,m,hq,gp⟩
   .exact hX (.inl h)
   .rcases of q m hq with h3 | ⟨_,_,hm⟩
    .exact h2 ⟨q,m,h3,gp⟩
    .exact hX (.inr ⟨q,m,hm,gp⟩)
  have E4:∀ u d,RD w' (XX (XX X (br (Zp bC) μ)) fv) u d->RD w' (XX X ak) u d:=fun u d h=>h.sub hXX
  have stay:∀ q m,(bC.contains q && !fx.contains q)=false->μ q=some m->ak q=some m:=fun q m hk hq=>by
   cases hl:bC.contains q with
   | false=>exact mr q m hl hq
   | true=>
    rw[hl,Bool.true_and]at hk
    have hfx:fx.contains q=true:=by simpa using hk
    exact m2 q m (aB.kept q m (by simp only[br,hl,if_true];exact hq) (by unfold eT;rw[hfx];simp))
  have hV:∀ u x,RV w X μ u x->RV w' X ak u (x.tr (ZK bC fx) (gZ bC fx)):=fun u x=>RV.qv hD (fun u r off n h=>by
    unfold ZK;split
    .exact .dead u
    .rename_i hk;obtain⟨m,hm,hh⟩:=h.gV
     exact .own (stay r m (by simpa using hk) hm) hh) (fun u r e j h=>by
    unfold gZ;split
    .exact .dead u
    .rename_i hk;obtain⟨m,b,hm,hb,rfl⟩:=h.gC
     exact .ref (stay r m (by simpa using hk) hm) hb)
  refine⟨v,x,_,ak,rfl,h,⟨⟨fun q row hq=>?_,fun q m hq=>?_,fun q q' m1 mm b h1 h2 Y8 Y4=>?_,fun q m b hq hb=>?_,fun b hb=>Nat.lt_of_lt_of_le (hi.aL.fits b hb) aB.size⟩,⟨hi.env.defers,hi.env.size,fun i x hx=>?_⟩,fun g x hx=>hD _ _ (hi.eZ g x hx)⟩,hr.lift E4 m2,aB.size,aB.os,aB.tape,aB.output,fun b hb wL=>?_,fun r m hr hn=>?_⟩
  .simp only[Z9]at hq;split at hq
   .rename_i UY h2;obtain rfl:=Option.some.inj hq;obtain⟨m,hm,ok⟩:=dM.rows q UY h2;exact⟨m,m2 q m hm,ok.lift (fun _ _=>rfl) E4 m2⟩
   .unfold cy at hq;split at hq
    .rename_i hk
     have fq:bC.contains q=false:=by simpa[Zp]using hk
     obtain⟨jj,h0,rfl⟩:=Option.map_eq_some_iff.1 hq;obtain⟨m,hm,ok⟩:=hi.aL.rows q jj h0;refine⟨m,mr q m fq hm,ok.qv (fun b hb=>(same b (ok.ZZ hb) fun ⟨r,RE,hr',z7⟩=>?_).1) hD hV⟩;obtain⟨hkr,ri⟩:=fC hr';have:=hi.aL.inj q r m RE b hm ri hb z7;subst this;rw[fq]at hkr;cases hkr
    .cases hq
  .simp only[Z9]
   rcases of q m hq with h2 | ⟨h2,hk,hm⟩
   .obtain⟨row,YN⟩:=dM.gl q m h2;exact⟨row,by rw[YN]⟩
   .have tq:H' q=none:=by
     cases hh:H' q with
     | none=>rfl
     | some row=>obtain⟨m',bA,_⟩:=dM.rows q row hh;rw[h2]at bA;cases bA
    obtain⟨row,YN⟩:=hi.aL.gl q m hm;exact⟨row.tr (ZK bC fx) (gZ bC fx),by rw[tq];simp only[cy,Zp,hk,Bool.not_false,if_true,YN,Option.map_some]⟩
  .rcases of q m1 h1 with g1 | ⟨_,k1,g1⟩<;>rcases of q' mm h2 with g2 | ⟨_,k2,g2⟩
   .exact dM.inj q q' m1 mm b g1 g2 Y8 Y4
   .exact absurd (.inr ⟨q',mm,by simp only[br,Zp,k2,Bool.not_false,if_true];exact g2,Y4⟩) (dM.frame q m1 b g1 Y8)
   .exact absurd (.inr ⟨q,m1,by simp only[br,Zp,k1,Bool.not_false,if_true];exact g1,Y8⟩) (dM.frame q' mm b g2 Y4)
   .exact hi.aL.inj q q' m1 mm b g1 g2 Y8 Y4
  .rcases of q m hq with g1 | ⟨_,k1,g1⟩
   .exact fun hX=>dM.frame q m b g1 hb (.inl hX)
   .exact hi.aL.frame q m b g1 hb
  .replace hx:gE (ZK bC fx) (gZ bC fx) σ.env i=some x:=hx;unfold gE at hx;obtain⟨x0,h0,rfl⟩:=Option.map_eq_some_iff.1 hx;obtain⟨u,hu,hr⟩:=hi.env.slot i x0 h0;exact⟨u,hu,hV _ _ hr⟩
  .obtain⟨h1,h2⟩:=same b hb fun hr=>wL (mo hr);refine⟨h1,fun ⟨q,m,hq,gp⟩=>?_⟩
   rcases of q m hq with h3 | ⟨_,_,hm⟩
   .exact h2 ⟨q,m,h3,gp⟩
   .exact wL ⟨q,m,hm,gp⟩
  .cases hl:bC.contains r with
   | false=>exact mr r m hl hr
   | true=>
    cases hf:fx.contains r with
    | false=>exact absurd (hm r hl hf) hn
    | true=>exact stay r m (by rw[hl,hf];rfl) hr
theorem YR.xf {fx:List Nat} {g:FuncId} {ZL xs:List AV} {H1 H2:Heap} {y:AV} {dst:Option Tmp} {next:St->Prop} (bC:List Nat) (hc:MC P G fx g xs H1 y H2) (hx:ZL.map (AV.tr (cM bC) (cL bC))=xs) (hH:cy bC.contains (cM bC) (cL bC) σ.H=H1)
  (hd:∀ q,(H2 q).isSome=true->bC.contains q=true\/σ.H q=none) (hm:∀ r,bC.contains r=true->fx.contains r=false->Mv r)
  (h:next ⟨aw (gE (ZK bC fx) (gZ bC fx) σ.env) dst y,Z9 H2 (cy (Zp bC) (ZK bC fx) (gZ bC fx) σ.H)⟩):YR P Mv X G N g ZL σ dst next:=
 gI.xf hc hx hH hd hm h
theorem YR.mc {fx:List Nat} {g:FuncId} {ZL xs:List AV} {YD Zb:List (Nat×Row)} {y:AV} {dst:Option Tmp} {next:St->Prop} (hc:MC P G fx g xs (ah YD) y (ah Zb)) (hx:ZL.map (AV.tr (cM (YD.map (·.1))) (cL (YD.map (·.1))))=xs)
  (hH:∀ p∈YD,(σ.H p.1).map (Row.tr (cM (YD.map (·.1))) (cL (YD.map (·.1))))=ah YD p.1) (hd:∀ p∈Zb,(YD.map (·.1)).contains p.1=true\/σ.H p.1=none) (hm:∀ r∈YD.map (·.1),fx.contains r=false->Mv r)
  (h:next ⟨aw (gE (ZK (YD.map (·.1)) fx) (gZ (YD.map (·.1)) fx) σ.env) dst y,Z9 (ah Zb) (cy (Zp (YD.map (·.1))) (ZK (YD.map (·.1)) fx) (gZ (YD.map (·.1)) fx) σ.H)⟩):YR P Mv X G N g ZL σ dst next:=by
 refine gI.xf hc hx (funext (xL hH)).symm (fun q hq=>?_) (fun r hr=>hm r (List.contains_iff_mem.1 hr)) h
 have abg:∀ l:List (Nat×Row),(ah l q).isSome=true->∃ p∈l,p.1=q:=by
  intro l
  induction l with
  | nil=>intro h;simp[ah]at h
  | cons p l ih=>
   intro h;simp only[ah,List.lookup]at h
   cases lH:(q == p.1) with
   | true=>exact⟨p,by simp,by simpa using (beq_iff_eq.1 lH).symm⟩
   | false=>
    rw[lH]at h;obtain⟨p',h1,h2⟩:=ih h;exact⟨p',by simp[h1],h2⟩
 obtain⟨p,hp,rfl⟩:=abg Zb hq;exact hd p hp
def xJ (names:List Nat) (x y:AV):Prop:=match x.tr (cM names) (cL names),y with
 | .d d',.d d=>d'.le d
 | p,q=>p=q
def vt (T:Ty) (rs:List ResultVar) (y:AV) (rows:List (Nat×Row)) (σ:St):Prop:=match o3 T σ rs with
 | some (c,vs)=>c/\xJ (rows.map (·.1)) (oneOf vs) y/\∀ p∈rows,(σ.H p.1).map (Row.tr (cM (rows.map (·.1))) (cL (rows.map (·.1))))=ah rows p.1
 | none=>False
def DC (T:Ty) (rs:List ResultVar) (y:AV) (rows:List (Nat×Row)):Exit->St->Prop
 | .normal,σ | .ret,σ=>vt T rs y rows σ
 | _,_=>False
theorem UG {names:List Nat} {x y:AV} {u:Value} (h:xJ names x y) (hr:RV w X μ u (x.tr (cM names) (cL names))):RV w X μ u y:=by
 unfold xJ at h;split at h
 .rename_i d' d hx;rw[hx]at hr;exact .d (hr.data.le h)
 .rw[<- h];exact hr
theorem MC.aI (hg:Good P T) {g:FuncId} {fn:Func} {c:Code} {rs:List ResultVar} {xs:List AV} {H:Heap} {y:AV} {rows:List (Nat×Row)} {fx:List Nat} (hf:P.funcs[g]? = some fn) (hb:fn.body=some c) (hn:(fn.name == "runtime.NumGoroutine")=false) (hrs:fn.results=rs.toArray)
  (hN:xs.length<=fn.ntmps) (hfx:fx.all (rows.map (·.1)).contains=true) (h:∀ X,AW P (eT fx) X G ⟨fn.ntmps,[],none⟩ c (DC T rs y rows) ⟨args xs,H⟩):MC P G fx g xs H y (ah rows):=by
 refine⟨fm.of hf hb hn,fun X w μ vs hs ck aK hv=>?_⟩
 have fin:∀ (w':World) (ak:Mu) (a':Act) (af:St),vt T rs y rows af->In w' X G ak ⟨fn.ntmps,[],none⟩ a' af->Ev (eT fx) w μ w' ak->∃ v,(results fn a'.tmps).run P w' = .ok v w'/\∃ v_1 x H' ak,Ending.returned v=Ending.returned v_1/\(x=y/\H'=ah rows)/\RV w' X ak v_1 x/\cw w' X ak H'/\Ev (eT fx) w μ w' ak:=by
  intro w' ak a' af he hi aB;unfold vt at he;split at he
  .rename_i c xs hx;obtain⟨hc,he,PO⟩:=he;obtain⟨v,hv,hr⟩:=Ct (P:=P) hg hi hrs hx hc;have hX:∀ b,XX X (br (rows.map (·.1)).contains ak) b->XX X ak b:=fun b=>r8
   have ho:∀ u r off n,RV w' X ak u (.own r off n)->RV w' X (br (rows.map (·.1)).contains ak) u (cM (rows.map (·.1)) r off n):=fun u r off n h=>by
    unfold cM;split
    .rename_i hk;exact h.ui hk
    .exact .dead u
   have hf:∀ u r e j,RV w' X ak u (.ref r e j)->RV w' X (br (rows.map (·.1)).contains ak) u (cL (rows.map (·.1)) r e j):=fun u r e j h=>by
    unfold cL;split
    .rename_i hk;exact h.ur hk
    .exact .dead u
   have ax:=hi.tr ho hf;have hH:cy (rows.map (·.1)).contains (cM (rows.map (·.1))) (cL (rows.map (·.1))) af.H=ah rows:=(funext (xL PO)).symm;refine⟨v,hv,v,y,ah rows,_,rfl,⟨rfl,rfl⟩,UG he (RV.tr hX ho hf hr),hH ▸ ax.aL,aB.trans (qS fun r _ _ hr=>cF hfx r hr)⟩
  .exact he.elim
 refine calls_of_wp hf hb ((wpIn_wide (n:=0)).1 (wpIn_mono (h X w μ _ ⟨hs,⟨rfl,by simp;omega,fun i x hx=>?_⟩,ck⟩) fun e a' w' ⟨ak,af,q,i,ev⟩=>?_))
 .simp only[args]at hx;have hi:i < xs.length:=(List.getElem?_eq_some_iff.1 hx).1
  have lL:vs[i]? = some vs[i]:=by rw[Array.getElem?_eq_getElem]
  exact⟨vs[i],by rw[Array.getElem?_append_left (by omega),lL],hv i _ x lL hx⟩
 .cases e with
  | normal=>
   obtain⟨v,hv,rest⟩:=fin w' ak a' af q i ev;exact⟨i.env.defers,v,hv,rest⟩
  | ret=>
   obtain⟨v,hv,rest⟩:=fin w' ak a' af q i ev;exact⟨i.env.defers,v,hv,rest⟩
  | _=>exact q.elim
end
end Go.Av
namespace Go.Av
theorem Ej (k:Value) (x:D):jv k x []=[(k,x)]:=rfl
theorem Eh (k:Value) (x:D) (p:Value×D) (l:List (Value×D)):jv k x (p :: l)=if dT k p.1 then (k,x) :: l else p :: jv k x l:=by
 unfold jv;rw[List.findIdx?_cons]
 cases h:dT k p.1 with
 | true=>simp
 | false=>
  simp only[Bool.false_eq_true,if_false];cases List.findIdx? (fun p=>dT k p.1) l<;>simp
theorem Sq (x:Value):D.one (.v x)=x.oneCell':=rfl
theorem Sm (k:Option Bool) (els:List (List D)):D.one (.sl k els)=true:=rfl
theorem Sk (c:List D):D.one (.ip c)=true:=rfl
theorem Sh (c:List D):D.one (.agg c)=false:=rfl
theorem Sp (c:List D):D.one (.aR c)=false:=rfl
theorem Sj (t:TypeId) (x:D):D.one (.bg t x)=true:=rfl
theorem Si (f:Fn) (c:List D):D.one (.fn f c)=true:=rfl
theorem KA (x:D):AV.one (.d x)=x.one:=rfl
theorem KF (r o n:Nat):AV.one (.own r o n)=true:=rfl
theorem KG (r e j:Nat):AV.one (.ref r e j)=true:=rfl
theorem KD (t:TypeId) (x:AV):AV.one (.bg t x)=true:=rfl
theorem KC (f:Fn) (c:List AV):AV.one (.fn f c)=true:=rfl
theorem Ky (c:List AV):AV.one (.agg c)=false:=rfl
theorem KH (c:List AV):AV.one (.aR c)=false:=rfl
theorem Kz (g:FuncId) (x:AV):AV.one (.bm g x)=false:=rfl
theorem KE (r:Nat):AV.one (.mp r)=true:=rfl
theorem KB:AV.one .dead=false:=rfl
theorem WI (x:Value):eW (.d (.v x))=if x.oneCell' then some [.d (.v x)] else none:=rfl
theorem aek (k:Option Bool) (els:List (List D)):eW (.d (.sl k els))=some [.d (.sl k els)]:=rfl
theorem WB (c:List D):eW (.d (.ip c))=some [.d (.ip c)]:=rfl
theorem Wu (c:List D):eW (.d (.agg c))=some (c.map .d):=rfl
theorem Wy (c:List D):eW (.d (.aR c))=none:=rfl
theorem Wx (t:TypeId) (x:D):eW (.d (.bg t x))=some [.d (.bg t x)]:=rfl
theorem Ww (f:Fn) (c:List D):eW (.d (.fn f c))=some [.d (.fn f c)]:=rfl
theorem WD (r o n:Nat):eW (.own r o n)=some [.own r o n]:=rfl
theorem WE (r e j:Nat):eW (.ref r e j)=some [.ref r e j]:=rfl
theorem Ws (c:List AV):eW (.agg c)=some c:=rfl
theorem WH (c:List AV):eW (.aR c)=none:=rfl
theorem WA (t:TypeId) (x:AV):eW (.bg t x)=some [.bg t x]:=rfl
theorem Wz (f:Fn) (c:List AV):eW (.fn f c)=some [.fn f c]:=rfl
theorem Wt (g:FuncId) (x:AV):eW (.bm g x)=none:=rfl
theorem WC (r:Nat):eW (.mp r)=some [.mp r]:=rfl
theorem Wv:eW .dead=none:=rfl
attribute [simp] Sq Sm Sk Sh Sp Sj Si KA KF KG KD KC Ky KH Kz KE KB
attribute [simp] WI aek WB Wu Wy Wx Ww WD WE Ws WH WA Wz Wt WC Wv
attribute [simp] Int.ofNat_inj List.lookup
attribute [simp] nZ oU qg kindOf Op.operands Call.operands cZ fc vK YK dk xe kI TypeDesc.isSlice TypeDesc.isStr vb
attribute [simp] Bx vc abq kV j3 r9 mG j0 TypeDesc.isAgg vC aa7 vB dW abl ZX xZ eqv
attribute [simp] B5 yT xq xo vz acJ acF acU lQ bound xS xU TypeDesc.isBool TypeDesc.isIface xp
attribute [simp] vn Value.oneCell' ve Cm qT aad py rN lq rowsOf rowsOf.go St.pA aaK oY acr qI ac7 DN mQ CK Ji
attribute [simp] uC Jj rd wr iV aal aw tX tY bX undef cJ Gx QJ QK Wg Pn St.freeze aT dX mJ fb
attribute [simp] YB ah int Av.bool iL kr tZ ZM aF ft ZC args YT cf AV.kill AV.kill.go Row.kill gE cy AV.tr AV.tr.go Row.tr
attribute [simp] od abr ea adE adx St.norm qb oQ cM cL acS Dv gG Y7 D.scalar YC bd atEnd yB qR o3 xK
attribute [simp] oneOf Wh stepG ld oV aaX jh uq Ej Eh dT eE lf kY xC eT ZK gZ Zp OZ
attribute [simp] vt DC xJ vF vG St.lX zl
section
variable {P:Program} {T:Ty} {Mv X:Nat->Prop} {G:Yt} {N:Fr} {w:World} {μ:Mu} {a:Act} {σ:St}
theorem YR.tr {keep:Nat->Bool} {o f:Nat->Nat->Nat->AV} {g:FuncId} {xs:List AV} {dst:Option Tmp} {next:St->Prop}
  (ho:∀ w μ a,In w X G μ N a σ->∀ u r off n,RV w X μ u (.own r off n)->RV w X (br keep μ) u (o r off n)) (hf:∀ w μ a,In w X G μ N a σ->∀ u r e j,RV w X μ u (.ref r e j)->RV w X (br keep μ) u (f r e j))
  (hk:∀ r,keep r=false->Mv r) (h:YR P Mv X G N g (xs.map (AV.tr o f)) ⟨gE o f σ.env,cy keep o f σ.H⟩ dst next):YR P Mv X G N g xs σ dst next:=by
 refine⟨h.1,fun w μ a vs hi hn hv=>?_⟩;have ax:=hi.tr (ho w μ a hi) (hf w μ a hi);have aB:Ev Mv w μ w (br keep μ):=qS fun r _ _=>hk r;refine (h.2 w (br keep μ) a vs ax (by simpa using hn) fun i u x hu hx=>?_).mono fun e w' ⟨v,x,af,ak,he,k,cz,hr,ev⟩=>⟨v,x,af,ak,he,k,cz,hr,aB.trans ev⟩;rw[List.getElem?_map]at hx;obtain⟨x0,tI,rfl⟩:=Option.map_eq_some_iff.1 hx;exact RV.tr (fun b=>r8) (ho w μ a hi) (hf w μ a hi) (hv i u x0 hu tI)
theorem YR.pA (r:Nat) {ty sz:Nat} {els:List (List D)} {g:FuncId} {xs:List AV} {dst:Option Tmp} {next:St->Prop} (hr:σ.H r=some (.sl ty sz els)) (hm:Mv r)
  (h:YR P Mv X G N g (xs.map (AV.tr (od r els) (abr r))) ⟨gE (od r els) (abr r) σ.env,cy (ea r) (od r els) (abr r) σ.H⟩ dst next):YR P Mv X G N g xs σ dst next:=by
 refine YR.tr (keep:=ea r) (fun w μ a hi u q off n hu=>?_) (fun w μ a hi u q e j hu=>?_) (fun q hq=>?_) h
 .have tl:(fun q=>if q=r then none else μ q)=br (ea r) μ:=by
   funext q;unfold br ea;by_cases h:q=r<;>simp[h]
  unfold od;split
  .rename_i hq;subst hq
   have hd:∀ {off n:Nat},RV w X μ u (.own q off n)->off+n<=els.length->RV w X (br (ea q) μ) u (.d (.sl none ((els.drop off).take n))):=fun h hle=>by
    obtain⟨k,hk,_⟩:=xy hi.aL hr hle h;rw[tl]at hk;exact .d hk.lR
   split
   .rename_i h2;obtain⟨rfl,rfl⟩:=h2;have:=hd hu (by omega);simpa using this
   .split
    .rename_i hle;exact hd hu hle
    .exact .dead u
  .rename_i hq;exact hu.ui (by simp[ea,hq])
 .unfold abr;split
  .exact .dead u
  .rename_i hq;exact hu.ur (by simp[ea,hq])
 .have e:q=r:=by simpa[ea]using hq
  exact e ▸ hm
end
theorem RD.KV {W:World} {X:Nat->Prop} {x y z:Value} {a b e:D} (h0:RD W X x a) (h1:RD W X y b) (h2:RD W X z e):∀ (i:Nat) (u:Value) (c:D),#[x,y,z][i]? = some u->[a,b,e][i]? = some c->RD W X u c:=fun i u c hu hc=>by
 match i,hu,hc with
 | 0,hu,hc=>simp at hu hc;subst hu hc;exact h0
 | 1,hu,hc=>simp at hu hc;subst hu hc;exact h1
 | 2,hu,hc=>simp at hu hc;subst hu hc;exact h2
 | i+3,hu,hc=>simp at hu
