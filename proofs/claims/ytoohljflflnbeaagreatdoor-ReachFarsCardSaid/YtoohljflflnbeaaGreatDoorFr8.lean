/- Parts. -/
import Derived.Test.YtoohljflflnbeaaGreatDoorFr7
import Derived.Orders
set_option linter.unusedSectionVars false
set_option linter.unusedSimpArgs false
set_option linter.unusedVariables false
namespace Go.Av
def pf:Operand->Nat
 | .global _=>0
 | _=>1
@[simp] theorem aiM (x:Operand):(pf x=2)=False:=by cases x<;>simp[pf]
@[simp] theorem aiN (x:Operand):(pf x=3)=False:=by cases x<;>simp[pf]
@[simp] theorem aiO (x:Operand):(pf x=8)=False:=by cases x<;>simp[pf]
@[simp] theorem aiP (x:Operand):(pf x=9)=False:=by cases x<;>simp[pf]
@[simp] theorem aiL (x:Operand):(pf x=0\/pf x=1)=True:=by cases x<;>simp[pf]
theorem LI (x:Operand):pf x<=1:=by cases x<;>simp[pf]
def kindOf:Op->Nat
 | .load _ x=>pf x
 | .indexAddr _ _ _=>1
 | .slice _ _ _ _ _=>1
 | .lookup _ _ _ _=>1
 | .call { callee:=.value _,.. }=>2
 | .call { callee:=.builtin .append,.. }=>9
 | .call { callee:=.builtin .copy,.. }=>9
 | .alloc _=>3
 | .box _ _=>3
 | .buildSlice _ _ _=>3
 | .makeSlice _ _ _=>3
 | .store _ _ _=>8
 | .mapUpdate _ _ _ _=>8
 | .insert _ _ _ _=>8
 | .makeMap _ _=>3
 | .select _ _=>9
 | _=>0
def vk (x y:Nat):Bool:=match x,y with
 | 0,9 | 9,_ | 1,8 | 1,9 | 2,8 | 2,9 | 3,1 | 3,2 | 3,8 | 3,9 | 8,1 | 8,2 | 8,3 | 8,8 | 8,9=>false
 | _,_=>true
def kU (ops:Array Oper) (x y:Oper):Bool:=x.apart ops y && vk (kindOf x.op) (kindOf y.op)
def bitsOf (acc:List Nat) (o:Oper):Nat:=o.after.toList.foldr (fun e s=>if Region.binds .any e then (2 ^ e.on ||| acc.getD e.on 0) ||| s else s) 0
def tR:List Oper->List Nat->List Nat
 | [],acc=>acc
 | o :: l,acc=>tR l (acc ++ [bitsOf acc o])
def tb (ops:Array Oper):List Nat:=tR ops.toList []
def rT (ops:Array Oper):Bool:=
 let t:=tb ops
 (List.range ops.size).all fun j=>match ops[j]? with
  | some oj=>(oj.after.all fun e=>!Region.binds .any e || e.on < j) && (List.range j).all fun i=>(t.getD j 0).testBit i || match ops[i]? with
    | some oi=>kU ops oi oj && kU ops oj oi
    | none=>true
  | none=>true
section
variable {P:Program} {T:Ty} {Mv X:Nat->Prop} {G:ay} {N:Fr}
def BQ (P:Program) (G:ay) (σ:St) (c:Call) (y:D):Prop:=∃ g xs,kr G σ.env c=some (g,xs)/\
 ((∃ ds,xs=ds.map .d/\aD P G g ds y)\/(∃ ds,l6 (fW σ.H 4) xs=some ds/\y.scalar=true/\aD P G g ds y))
def n5 (P:Program) (T:Ty) (Mv:Nat->Prop) (G:ay) (o:Oper) (σ aG:St):Prop:=match dP o.op with
 | some c=>∃ y,BQ P G σ c y/\aG=⟨aL σ.env o.dst (.d y),σ.H⟩
 | none=>if gE o.op then ∃ c x aT,wr T G Mv σ o=some (c,x,aT)/\c/\aG=⟨aL aT.env o.dst x,aT.H⟩
  else ∃ c x,rd T G σ o.op=some (c,x)/\c/\aG=⟨aL σ.env o.dst x,σ.H⟩
def Bt (P:Program) (T:Ty) (Mv:Nat->Prop) (G:ay) (N:Fr) (ops:Array Oper) (o:Oper) (σ aG:St):Prop:=
 eI N o/\((jb ops σ.env o=some true/\n5 P T Mv G o σ aG)\/(jb ops σ.env o=some false/\aG=⟨aL σ.env o.dst da,σ.H⟩))
theorem ze (hg:Good P T) {ops:Array Oper} {o:Oper} {σ aG:St} (h:Bt P T Mv G N ops o σ aG) {w:World} {μ:Mu} {a:Act} (hi:In w X G μ N a σ) {i:Nat} (ho:ops[i]? = some o) {Q:Exit->Act->World->Prop} {K:Act->World->Prop}
  (hk:∀ w' aI a',In w' X G aI N a' aG->Ev Mv w μ w' aI->K a' w'):wpOpIn (wd N.ro) 0 P ops Q i K a w:=by
 obtain⟨hd,h⟩:=h
 have fm:∀ d,o.dst=some d->d < N.n:=fun d e=>by unfold eI at hd;rw[e]at hd;exact hd
 unfold wpOpIn;simp only[ho]
 rcases h with⟨hw,h⟩ | ⟨hw,rfl⟩
 .rw[tS hi hw,if_pos rfl];refine (B3 (Mv:=Mv) (K:=fun aT=>aT=aG) hg hi fm ?_ fun w' aI a' aT e aO aW=>hk w' aI a' (e ▸ aO) aW);unfold n5 at h;unfold mH;split at h
  .rename_i c hc;obtain⟨y,⟨g,xs,ht,fh⟩,rfl⟩:=h;simp only[hc,ht]
   rcases fh with⟨ds,rfl,hp⟩ | ⟨ds,mM,hs,hp⟩
   .exact l8.pure hp rfl
   .exact l8.sB mM hp hs rfl
  .rename_i hc;simp only[hc,qT];split at h
   .rename_i Gj;rw[if_pos Gj];obtain⟨c,x,aT,j5,cK,rfl⟩:=h;simp only[j5];exact⟨cK,trivial⟩
   .rename_i Gj;rw[if_neg Gj];obtain⟨c,x,hr,cK,rfl⟩:=h;simp only[hr];exact⟨cK,trivial⟩
 .rw[tS hi hw,if_neg ak];exact⟨fun _ _=>trivial,hk w μ _ (hi.put (.d (.v _)) fm) (.refl _ w μ)⟩
theorem Ti {e:Env} {dst:Option Tmp} {x:AV} {t:Nat} (h:dst≠some t):aL e dst x t=e t:=by
 cases dst with
 | none=>rfl
 | some d=>have:t≠d:=fun e=>h (by rw[e]);simp[aL,gS,this]
theorem ig {e:Env} {d d':Option Tmp} {x y:AV} (h:∀ t,d=some t->d'≠some t):aL (aL e d x) d' y=aL (aL e d' y) d x:=by
 cases d with
 | none=>rfl
 | some t=>
  cases d' with
  | none=>rfl
  | some t'=>
   have bf:t≠t':=fun e=>h t rfl (by rw[e]);funext i;by_cases h1:i=t<;>by_cases h2:i=t'<;>simp[aL,gS,h1,h2,bf,akI bf]
   all_goals (subst h1;simp[bf])
def gq (o:Op) (e e':Env):Prop:=∀ t,Operand.tmp t∈o.operands->e t=e' t
theorem e8 {e e':Env} {x:Operand} (h:∀ t,x = .tmp t->e t=e' t):bC G e x=bC G e' x:=by
 cases x with
 | tmp t=>exact h t rfl
 | _=>rfl
theorem I8 {e e':Env}:∀ {l:List Operand},(∀ t,Operand.tmp t∈l->e t=e' t)->oR G e l=oR G e' l
 | [],_=>rfl
 | x :: l,h=>by
  simp only[oR];rw[e8 (x:=x) fun t ht=>h t (by simp[ht]),I8 (l:=l) fun t ht=>h t (by simp[ht])]
theorem E3 {e e':Env}:∀ {l:List (Nat×Operand)},(∀ t,Operand.tmp t∈l.map (·.2)->e t=e' t)->nw G e l=nw G e' l
 | [],_=>rfl
 | (i,x) :: l,h=>by
  simp only[nw];rw[e8 (x:=x) fun t ht=>h t (by simp[ht]),E3 (l:=l) fun t ht=>h t (by simp at ht ⊢;exact .inr ht)]
theorem Oj {e e':Env} {o:Option Operand} (h:∀ t,o=some (.tmp t)->e t=e' t):bound G e o=bound G e' o:=by
 cases o with
 | none=>rfl
 | some x=>simp only[bound];rw[e8 (x:=x) fun t ht=>h t (by rw[ht])]
theorem ad9 {o:Op} {e e':Env} {H:Heap} (h:gq o e e'):rd T G ⟨e,H⟩ o=rd T G ⟨e',H⟩ o:=by
 unfold gq at h;cases o
 case makeFunc f first caps=>
  simp only[rd];rw[I8 (l:=caps.toList) fun t ht=>h t (by simp[Op.operands];right;simpa using ht)];split
  .rfl
  .split
   .rename_i x J5 gI
    rw[e8 (x:=x) fun t ht=>h t (by
     have hm:x∈first:=by
      have:x∈first.toList:=by rw[J5];simp
      simpa using this
     simp only[Op.operands];rw[<- ht]
     simp[hm])]
   .rfl
 case typeAssert y xT t b=>
  simp only[rd];rw[e8 (x:=y) fun t ht=>h t (by simp[Op.operands,ht])]
 case build t parts=>
  simp only[rd];rw[E3 (l:=parts.toList) fun t ht=>h t (by simpa[Op.operands]using ht)]
 case slice t x lo hi mx=>
  simp only[rd];rw[e8 (x:=x) fun t ht=>h t (by simp[Op.operands,ht]),Oj (o:=lo) fun t ht=>h t (by simp[Op.operands,ht]),Oj (o:=hi) fun t ht=>h t (by simp[Op.operands,ht])]
 case call c=>
  obtain⟨callee,args,argTypes⟩:=c
  cases callee with
  | builtin b=>
   have two:∀ {x y:Operand},args.toList=[x,y]->bC G e x=bC G e' x/\bC G e y=bC G e' y:=fun {x y} ha=>
    ⟨e8 (x:=x) fun t ht=>h t (by simp[Op.operands,Call.operands];rw[<- Array.mem_toList_iff,ha];simp[ht]),
     e8 (x:=y) fun t ht=>h t (by simp[Op.operands,Call.operands];rw[<- Array.mem_toList_iff,ha];simp[ht])⟩
   cases b<;>try rfl
   case len=>
    simp only[rd];split
    .rename_i x t ha ht;rw[e8 (x:=x) fun t ht=>h t (by simp[Op.operands,Call.operands];rw[<- Array.mem_toList_iff,ha];simp[ht])]
    .rfl
   case max=>
    simp only[rd];split
    .rename_i x y ha;rw[(two ha).1,(two ha).2]
    .rfl
   case min=>
    simp only[rd];split
    .rename_i x y ha;rw[(two ha).1,(two ha).2]
    .rfl
  | _=>rfl
 all_goals
  simp only[Op.operands,List.mem_toArray,ajX,List.not_mem_nil,or_false]at h
 all_goals
  first
   | rfl
   | (rename_i x;simp only[rd];rw[e8 (x:=x) fun t ht=>h t (by simp[ht])];done)
   | (rename_i x _;simp only[rd];rw[e8 (x:=x) fun t ht=>h t (by simp[ht])];done)
   | (rename_i x y;simp only[rd];rw[e8 (x:=x) fun t ht=>h t (by simp[ht]),e8 (x:=y) fun t ht=>h t (by simp[ht])];done)
   | (rename_i x y _;simp only[rd];rw[e8 (x:=x) fun t ht=>h t (by simp[ht]),e8 (x:=y) fun t ht=>h t (by simp[ht])];done)
   | (rename_i x y z;simp only[rd];rw[e8 (x:=x) fun t ht=>h t (by simp[ht]),e8 (x:=y) fun t ht=>h t (by simp[ht]),e8 (x:=z) fun t ht=>h t (by simp[ht])];done)
def Ex (P:Program) (T:Ty) (Mv:Nat->Prop) (G:ay) (o:Oper) (e:Env) (H:Heap) (x:AV) (H':Heap):Prop:=match dP o.op with
 | some c=>∃ y,BQ P G ⟨e,H⟩ c y/\x = .d y/\H'=H
 | none=>if gE o.op then ∃ c,wr T G Mv ⟨e,H⟩ o=some (c,x,⟨e,H'⟩)/\c
  else ∃ c,rd T G ⟨e,H⟩ o.op=some (c,x)/\c/\H'=H
theorem BA {o:Oper} (hk:kindOf o.op≠9) {σ aT:St} {c:Prop} {x:AV} (h:wr T G Mv σ o=some (c,x,aT)):aT.env=σ.env:=by
 obtain⟨dst,op,type,pos,after,guard⟩:=o;dsimp only at hk;unfold wr at h;dsimp only at h
 repeat' split at h
 all_goals first
  | (exact absurd rfl hk)
  | (obtain⟨_,_,rfl⟩:=mB h;rfl)
  | cases h
theorem Ex.of {o:Oper} (hk:kindOf o.op≠9) {σ aG:St} (h:n5 P T Mv G o σ aG):∃ x H',Ex P T Mv G o σ.env σ.H x H'/\aG=⟨aL σ.env o.dst x,H'⟩:=by
 unfold n5 at h;unfold Ex;split at h
 .rename_i c hc;obtain⟨y,fh,rfl⟩:=h;(try simp only[hc]);exact⟨_,_,⟨y,fh,rfl,rfl⟩,rfl⟩
 .rename_i hc;(try simp only[hc]);split at h
  .rename_i hw;obtain⟨c,x,aT,h1,h2,rfl⟩:=h;have he:=BA hk h1;refine⟨x,aT.H,?_,by rw[he]⟩;rw[if_pos hw];refine⟨c,?_,h2⟩;obtain⟨e,H⟩:=σ;obtain⟨e1,H1⟩:=aT;dsimp only at he;subst he;exact h1
  .rename_i hw;obtain⟨c,x,h1,h2,rfl⟩:=h;refine⟨x,σ.H,?_,rfl⟩;rw[if_neg hw];exact⟨c,h1,h2,rfl⟩
theorem Ex.to {o:Oper} {e:Env} {H H':Heap} {x:AV} (h:Ex P T Mv G o e H x H'):n5 P T Mv G o ⟨e,H⟩ ⟨aL e o.dst x,H'⟩:=by
 unfold Ex at h;unfold n5;split at h
 .rename_i c hc;obtain⟨y,fh,rfl,rfl⟩:=h;(try simp only[hc]);exact⟨y,fh,rfl⟩
 .rename_i hc;(try simp only[hc]);split at h
  .rename_i hw;obtain⟨c,h1,h2⟩:=h;rw[if_pos hw];exact⟨c,x,_,h1,h2,rfl⟩
  .rename_i hw;obtain⟨c,h1,h2,rfl⟩:=h;rw[if_neg hw];exact⟨c,x,h1,h2,rfl⟩
theorem vg {o:Op} {c:Call} (h:dP o=some c):o = .call c/\kindOf o=2:=by
 unfold dP at h;split at h
 .obtain rfl:=AI h;exact⟨rfl,rfl⟩
 .cases h
theorem zk {e e':Env} {c:Call} (h:∀ t,Operand.tmp t∈c.operands->e t=e' t):kr G e c=kr G e' c:=by
 unfold kr;split
 .rename_i f hf;rw[e8 (x:=f) fun t ht=>h t (by simp[Call.operands,hf,ht]),I8 (l:=c.args.toList) fun t ht=>h t (by simp[Call.operands,hf];right;simpa using ht)]
 .rfl
theorem aih {o:Oper} (hk:kindOf o.op≠9) {e e':Env} {H H':Heap} {c:Prop} {x:AV} (ha:gq o.op e e') (h:wr T G Mv ⟨e,H⟩ o=some (c,x,⟨e,H'⟩)):wr T G Mv ⟨e',H⟩ o=some (c,x,⟨e',H'⟩):=by
 obtain⟨dst,op,type,pos,after,guard⟩:=o;dsimp only at hk ha;unfold gq at ha;cases op
 case alloc t=>
  cases dst with
  | none=>cases h
  | some d=>
   simp only[wr]at h ⊢;split at h
   .rename_i ti ht;simp only[IS,ajH,St.mk.injEq,true_and]at h;obtain⟨rfl,rfl,rfl⟩:=h;simp
   .cases h
 case box t y=>
  cases dst with
  | none=>cases h
  | some d=>
   simp only[wr]at h ⊢;rw[<- e8 (e:=e) (x:=y) fun t ht=>ha t (by simp[Op.operands,ht])];split at h
   .simp only[IS,ajH,St.mk.injEq,true_and]at h;obtain⟨rfl,rfl,rfl⟩:=h;rename_i cO;simp[cO]
   .cases h
 case store t y z=>
  cases dst with
  | some d=>cases h
  | none=>
   simp only[wr]at h ⊢;rw[<- e8 (e:=e) (x:=y) fun t ht=>ha t (by simp[Op.operands,ht]),<- e8 (e:=e) (x:=z) fun t ht=>ha t (by simp[Op.operands,ht])];split at h
   .rename_i r e0 j v h1 h2;(try simp only[h1,h2]);split at h
    .rename_i ty cells hH;(try simp only[hH]);split at h
     .rename_i he;(try simp only[he,if_true]);split at h
      .rename_i c' vI hs;(try simp only[hs]);simp only[IS,ajH,St.mk.injEq,true_and]at h ⊢;exact h
      .cases h
     .cases h
    .rename_i ty sz els hH;(try simp only[hH]);split at h
     .rename_i c' oQ hs;(try simp only[hs]);simp only[IS,ajH,St.mk.injEq,true_and]at h ⊢;exact h
     .cases h
    .cases h
    .cases h
    .cases h
   .cases h
 case makeMap t rs=>
  cases dst with
  | none=>cases rs<;>cases h
  | some d=>
   cases rs with
   | some _=>cases h
   | none=>
    simp only[wr]at h ⊢;simp only[IS,ajH,St.mk.injEq,true_and]at h ⊢;exact h
 case mapUpdate t m k v=>
  cases dst with
  | some d=>cases h
  | none=>
   simp only[wr]at h ⊢;rw[<- e8 (e:=e) (x:=m) fun t ht=>ha t (by simp[Op.operands,ht]),<- e8 (e:=e) (x:=k) fun t ht=>ha t (by simp[Op.operands,ht]),<- e8 (e:=e) (x:=v) fun t ht=>ha t (by simp[Op.operands,ht])];split at h
   .rename_i r key y h1 h2 h3;(try simp only[h1,h2,h3]);split at h
    .rename_i ty ents hH;(try simp only[hH]);split at h
     .rename_i c' nv hp;(try simp only[hp]);simp only[IS,ajH,St.mk.injEq,true_and]at h ⊢;exact h
     .cases h
    .cases h
   .cases h
 case insert t m k v=>
  cases dst with
  | some d=>cases h
  | none=>
   simp only[wr]at h ⊢;rw[<- e8 (e:=e) (x:=m) fun t ht=>ha t (by simp[Op.operands,ht]),<- e8 (e:=e) (x:=k) fun t ht=>ha t (by simp[Op.operands,ht]),<- e8 (e:=e) (x:=v) fun t ht=>ha t (by simp[Op.operands,ht])];split at h
   .rename_i r key y h1 h2 h3;(try simp only[h1,h2,h3]);split at h
    .rename_i ty ents hH;(try simp only[hH]);split at h
     .rename_i c' nv hp;(try simp only[hp]);simp only[IS,ajH,St.mk.injEq,true_and]at h ⊢;exact h
     .cases h
    .cases h
   .cases h
 case makeSlice t y z=>
  cases dst with
  | none=>cases h
  | some d=>
   simp only[wr]at h ⊢;rw[<- e8 (e:=e) (x:=y) fun t ht=>ha t (by simp[Op.operands,ht]),<- e8 (e:=e) (x:=z) fun t ht=>ha t (by simp[Op.operands,ht])];split at h
   .rename_i tt du;(try simp only[du]);split at h
    .rename_i e0 hd;(try simp only[hd]);split at h
     .rename_i te kn n km m h0 h1 h2;(try simp only[h0,h1,h2]);simp only[IS,ajH,St.mk.injEq,true_and]at h ⊢;exact h
     .cases h
    .cases h
   .cases h
 case buildSlice t n ps=>
  cases dst with
  | none=>cases h
  | some d=>
   simp only[wr]at h ⊢;rw[<- E3 (e:=e) (l:=ps.toList) fun t ht=>ha t (by simpa[Op.operands]using ht)];split at h
   .rename_i tt du;(try simp only[du]);split at h
    .rename_i e0 hd;(try simp only[hd]);split at h
     .rename_i te pp h0 h1;(try simp only[h0,h1]);split at h
      .rename_i els xX;(try simp only[xX]);simp only[IS,ajH,St.mk.injEq,true_and]at h ⊢;exact h
      .cases h
     .cases h
    .cases h
   .cases h
 case call cc=>
  obtain⟨callee,args,argTypes⟩:=cc
  cases callee with
  | builtin b=>
   cases b<;>first | (exact absurd rfl hk) | (cases dst<;>cases h)
  | _=>cases dst<;>cases h
 all_goals (cases dst<;>cases h)
theorem Ex.congr {o:Oper} (hk:kindOf o.op≠9) {e e':Env} {H H':Heap} {x:AV} (ha:gq o.op e e') (h:Ex P T Mv G o e H x H'):Ex P T Mv G o e' H x H':=by
 unfold Ex at h ⊢;split at h
 .rename_i c hc;(try simp only[hc]);obtain⟨y,⟨g,xs,ht,fh⟩,h2,h3⟩:=h;refine⟨y,⟨g,xs,?_,fh⟩,h2,h3⟩;have ho:=(vg hc).1;rw[<- zk (e:=e) fun t ht=>ha t (by rw[ho];exact ht)];exact ht
 .rename_i hc;(try simp only[hc]);split at h
  .rename_i hw;rw[if_pos hw];obtain⟨c,h1,h2⟩:=h;exact⟨c,aih hk ha h1,h2⟩
  .rename_i hw;rw[if_neg hw];obtain⟨c,h1,h2,h3⟩:=h;exact⟨c,by rw[<- ad9 ha];exact h1,h2,h3⟩
theorem Gw {o:Op} (h:gE o=true):kindOf o=3\/kindOf o=8\/kindOf o=9:=by
 unfold gE at h
 split at h<;>first | (exact .inl rfl) | (exact .inr (.inl rfl)) | (exact .inr (.inr rfl)) | cases h
theorem Ex.keeps {o:Oper} (hk:kindOf o.op<=2) {e:Env} {H H':Heap} {x:AV} (h:Ex P T Mv G o e H x H'):H'=H:=by
 unfold Ex at h;split at h
 .obtain⟨_,_,_,rfl⟩:=h;rfl
 .split at h
  .rename_i hw
   rcases Gw hw with h' | h' | h'<;>omega
  .obtain⟨_,_,_,rfl⟩:=h;rfl
theorem Tl {o:Op} (hk:kindOf o=0) {e:Env} (H H2:Heap):rd T G ⟨e,H⟩ o=rd T G ⟨e,H2⟩ o:=by
 cases o
 case call c=>
  obtain⟨callee,args,argTypes⟩:=c
  cases callee with
  | builtin b=>cases b<;>rfl
  | _=>rfl
 case load t y=>
  cases y with
  | global g=>
   simp only[rd,bC]
   cases G g with
   | none=>rfl
   | some x=>cases x<;>rfl
  | _=>simp[kindOf,pf]at hk
 all_goals first | rfl | (simp[kindOf]at hk)
theorem aec {o:Op} (hk:kindOf o=1) {e:Env} {H:Heap} {d:Nat} (hd:H d=none) (row:Row) {c:Prop} {x:AV} (h:rd T G ⟨e,H⟩ o=some (c,x)):rd T G ⟨e,aY H d row⟩ o=some (c,x):=by
 have key:∀ r y,H r=some y->aY H d row r=some y:=fun r y hr=>by
  unfold aY;split
  .rename_i hh;subst hh;rw[hd]at hr;cases hr
  .exact hr
 have kl:∀ t v,oF T H t v=some (c,x)->oF T (aY H d row) t v=some (c,x):=fun t v h=>by
  unfold oF at h ⊢;split at h
  .exact h
  .split at h
   .rename_i hr;simp only[key _ _ hr];exact h
   .rename_i hr;simp only[key _ _ hr];exact h
   .cases h
   .cases h
   .cases h
  .cases h
 have km:∀ t b v u,pg T H t b v u=some (c,x)->pg T (aY H d row) t b v u=some (c,x):=fun t b v u h=>by
  unfold pg at h ⊢;split at h
  .split at h
   .rename_i hr h2;simp only[key _ _ hr,h2];exact h
   .cases h
  .exact h
  .cases h
 have ki:∀ t v u,rM T H t v u=some (c,x)->rM T (aY H d row) t v u=some (c,x):=fun t v u h=>by
  unfold rM at h ⊢;split at h
  .exact h
  .split at h
   .rename_i h1 hr;simp only[h1,key _ _ hr];exact h
   .rename_i h1 hr;simp only[h1,key _ _ hr];exact h
   .cases h
  .exact h
  .exact h
  .cases h
 have ks:∀ t v l u,sI T H t v l u=some (c,x)->sI T (aY H d row) t v l u=some (c,x):=fun t v l u h=>by
  unfold sI at h ⊢;dsimp only at h ⊢;split at h
  .exact h
  .exact h
  .split at h
   .rename_i h1 hr;simp only[h1,key _ _ hr];exact h
   .cases h
  .cases h
 cases o
 case load t y=>
  simp only[rd,ajY]at h ⊢;obtain⟨v,h1,h2⟩:=h;exact⟨v,h1,kl t v h2⟩
 case indexAddr t y z=>
  simp only[rd]at h ⊢;split at h
  .exact ki _ _ _ h
  .cases h
 case slice t y lo hi mx=>
  simp only[rd]at h ⊢;split at h
  .rename_i gK;rw[if_pos gK];split at h
   .exact ks _ _ _ _ h
   .cases h
  .cases h
 case lookup t y z b=>
  simp only[rd]at h ⊢;split at h
  .exact km _ _ _ _ h
  .cases h
 case call cc=>
  obtain⟨callee,args,argTypes⟩:=cc
  cases callee with
  | builtin b=>cases b<;>simp[kindOf]at hk
  | _=>simp[kindOf]at hk
 all_goals (simp[kindOf]at hk)
theorem zy {f g:AV->Option D} (h:∀ x y,f x=some y->g x=some y):∀ {l:List AV} {ys:List D},l6 f l=some ys->l6 g l=some ys
 | [],_,hh=>hh
 | x :: l,ys,hh=>by
  simp only[l6]at hh ⊢
  cases hf:f x with
  | none=>simp[hf]at hh
  | some y=>
   cases hl:l6 f l with
   | none=>simp[hf,hl]at hh
   | some zs=>
    simp only[hf,hl]at hh;rw[h x y hf,zy h hl];exact hh
theorem V7 {H:Heap} {d:Nat} (hd:H d=none) (row:Row):∀ (k:Nat) (x:AV) (y:D),fW H k x=some y->fW (aY H d row) k x=some y:=by
 have key:∀ r y,H r=some y->aY H d row r=some y:=fun r y hr=>by
  unfold aY;split
  .rename_i hh;subst hh;rw[hd]at hr;cases hr
  .exact hr
 intro k
 induction k with
 | zero=>intro x y h;cases x<;>simp only[fW]at h ⊢<;>first | exact h | cases h
 | succ k ih=>
  intro x y h
  cases x with
  | d x=>simpa only[fW]using h
  | own r off n=>
   simp only[fW]at h ⊢;split at h
   .rename_i hr;rw[key _ _ hr];exact h
   .cases h
  | ref r e j=>
   simp only[fW]at h ⊢;split at h
   .rename_i hr;rw[key _ _ hr];dsimp only;split at h
    .rename_i he;rw[if_pos he];obtain⟨ys,h1,h2⟩:=AS.1 h;exact AS.2 ⟨ys,zy ih h1,h2⟩
    .cases h
   .cases h
  | agg cells=>simp only[fW]at h ⊢;obtain⟨ys,h1,h2⟩:=AS.1 h;exact AS.2 ⟨ys,zy ih h1,h2⟩
  | bz cells=>simp only[fW]at h ⊢;obtain⟨ys,h1,h2⟩:=AS.1 h;exact AS.2 ⟨ys,zy ih h1,h2⟩
  | fn f cells=>simp only[fW]at h ⊢;obtain⟨ys,h1,h2⟩:=AS.1 h;exact AS.2 ⟨ys,zy ih h1,h2⟩
  | cf t x=>simp only[fW]at h ⊢;obtain⟨ys,h1,h2⟩:=AS.1 h;exact AS.2 ⟨ys,ih _ _ h1,h2⟩
  | mp r=>
   simp only[fW]at h ⊢;split at h
   .rename_i hr;rw[key _ _ hr];exact h
   .cases h
  | bm g x=>simp only[fW]at h;cases h
  | dead=>simp only[fW]at h;cases h
theorem Ex.grow {o:Oper} (hk:kindOf o.op=1\/kindOf o.op=2) {e:Env} {H H':Heap} {x:AV} (h:Ex P T Mv G o e H x H') {d:Nat} (hd:H d=none) (row:Row):Ex P T Mv G o e (aY H d row) x (aY H d row):=by
 unfold Ex at h ⊢;split at h
 .rename_i c hc;(try simp only[hc]);obtain⟨y,⟨g,xs,ht,fh⟩,h2,_⟩:=h;refine⟨y,⟨g,xs,ht,?_⟩,h2,by trivial⟩
  rcases fh with h | ⟨ds,h3,h4,h5⟩
  .exact .inl h
  .exact .inr ⟨ds,zy (V7 hd row 4) h3,h4,h5⟩
 .rename_i hc;(try simp only[hc]);split at h
  .rename_i hw
   rcases Gw hw with h' | h' | h'<;>omega
  .rename_i hw;rw[if_neg hw];obtain⟨c,h1,h2,_⟩:=h
   rcases hk with hk | hk
   .exact⟨c,aec hk hd row h1,h2,by trivial⟩
   .exfalso;obtain⟨dst,op,type,pos,after,guard⟩:=o;dsimp only at hk hc;unfold kindOf at hk
    split at hk<;>first | omega | skip
    .have:=LI ‹_›;omega
    .simp[dP]at hc
theorem Ex.free {o:Oper} (hk:kindOf o.op=0) {e:Env} {H H':Heap} {x:AV} (h:Ex P T Mv G o e H x H') (H2:Heap):Ex P T Mv G o e H2 x H2:=by
 unfold Ex at h ⊢;split at h
 .rename_i c hc;have:=(vg hc).2;omega
 .rename_i hc;(try simp only[hc]);split at h
  .rename_i hw
   rcases Gw hw with h' | h' | h'<;>omega
  .rename_i hw;rw[if_neg hw];obtain⟨c,h1,h2,_⟩:=h;exact⟨c,by rw[Tl hk H2 H];exact h1,h2,by trivial⟩
theorem Ex.makes {o:Oper} (hk:kindOf o.op=3) {e:Env} {H H':Heap} {x:AV} (h:Ex P T Mv G o e H x H'):∃ d row,o.dst=some d/\H d=none/\H'=aY H d row/\∀ H2,H2 d=none->Ex P T Mv G o e H2 x (aY H2 d row):=by
 obtain⟨dst,op,type,pos,after,guard⟩:=o;dsimp only at hk;unfold Ex at h;unfold Ex
 have hc:dP op=none:=by
  cases cK:dP op with
  | none=>rfl
  | some c=>have:=(vg cK).2;omega
 simp only[hc]at h ⊢
 cases op<;>simp only[kindOf]at hk<;>first | omega | skip
 case load t y=>have:=LI y;omega
 case alloc t=>
  simp only[gE,if_true]at h ⊢;obtain⟨c,h1,h2⟩:=h
  cases dst with
  | none=>cases h1
  | some d=>
   simp only[wr]at h1 ⊢;split at h1
   .simp only[IS,ajH,St.mk.injEq,true_and]at h1;obtain⟨rfl,rfl,rfl⟩:=h1;exact⟨d,_,rfl,h2,rfl,fun H2 h=>⟨_,rfl,h⟩⟩
   .cases h1
 case box t y=>
  simp only[gE,if_true]at h ⊢;obtain⟨c,h1,h2⟩:=h
  cases dst with
  | none=>cases h1
  | some d=>
   simp only[wr]at h1 ⊢;split at h1
   .simp only[IS,ajH,St.mk.injEq,true_and]at h1;obtain⟨rfl,rfl,rfl⟩:=h1;exact⟨d,_,rfl,h2,rfl,fun H2 h=>⟨_,rfl,h⟩⟩
   .cases h1
 case makeSlice t y z=>
  simp only[gE,if_true]at h ⊢;obtain⟨c,h1,h2⟩:=h
  cases dst with
  | none=>cases h1
  | some d=>
   simp only[wr]at h1 ⊢;split at h1
   .split at h1
    .split at h1
     .simp only[IS,ajH,St.mk.injEq,true_and]at h1;obtain⟨rfl,rfl,rfl⟩:=h1;exact⟨d,_,rfl,h2.1,rfl,fun H2 h=>⟨_,rfl,h,h2.2⟩⟩
     .cases h1
    .cases h1
   .cases h1
 case buildSlice t n ps=>
  simp only[gE,if_true]at h ⊢;obtain⟨c,h1,h2⟩:=h
  cases dst with
  | none=>cases h1
  | some d=>
   simp only[wr]at h1 ⊢;split at h1
   .split at h1
    .split at h1
     .split at h1
      .simp only[IS,ajH,St.mk.injEq,true_and]at h1;obtain⟨rfl,rfl,rfl⟩:=h1;exact⟨d,_,rfl,h2.1,rfl,fun H2 h=>⟨_,rfl,h,h2.2⟩⟩
      .cases h1
     .cases h1
    .cases h1
   .cases h1
 case makeMap t rs=>
  simp only[gE,if_true]at h ⊢;obtain⟨c,h1,h2⟩:=h
  cases dst with
  | none=>cases rs<;>cases h1
  | some d=>
   cases rs with
   | some _=>cases h1
   | none=>
    simp only[wr]at h1 ⊢;simp only[IS,ajH,St.mk.injEq,true_and]at h1;obtain⟨rfl,rfl,rfl⟩:=h1;exact⟨d,_,rfl,h2,rfl,fun H2 h=>⟨_,rfl,h⟩⟩
 case call cc=>
  obtain⟨callee,args,argTypes⟩:=cc
  cases callee with
  | builtin b=>cases b<;>simp at hk
  | _=>simp at hk
end
end Go.Av
namespace Go.Av
section
variable {P:Program} {T:Ty} {Mv X:Nat->Prop} {G:ay} {N:Fr} {ops:Array Oper}
def Sx (P:Program) (T:Ty) (Mv:Nat->Prop) (G:ay) (N:Fr) (ops:Array Oper) (o:Oper) (e:Env) (H:Heap) (x:AV) (H':Heap):Prop:=
 eI N o/\((jb ops e o=some true/\Ex P T Mv G o e H x H')\/(jb ops e o=some false/\x=da/\H'=H))
theorem kK {o:Oper} {t:Tmp} (h:Operand.tmp t∈o.op.operands):t∈o.looksAt ops:=
 alf _ (List.mem_filterMap.2 ⟨.tmp t,by simpa using h,rfl⟩)
theorem HK {o:Oper} {e e':Env} (h:∀ t∈o.looksAt ops,e t=e' t):jb ops e o=jb ops e' o:=by
 unfold jb;split
 .rfl
 .rename_i j want hg;unfold Fj;split
  .rename_i d hd;rw[h d (List.mem_append_right _ (by simp[hg,hd]))]
  .rfl
theorem je {x y:Oper} (h:x.apart ops y=true) {e:Env} {v:AV}:(∀ t∈y.looksAt ops,aL e x.dst v t=e t)/\(∀ t∈x.looksAt ops,aL e y.dst v t=e t)/\(∀ d,x.dst=some d->y.dst≠some d):=by
 obtain⟨h1,h2,h3⟩:=Oper.apart_spec h;exact⟨fun t ht=>Ti fun e=>h1 t e ht,fun t ht=>Ti fun e=>h3 t e ht,h2⟩
theorem kinds (o:Op):kindOf o=0\/kindOf o=1\/kindOf o=2\/kindOf o=3\/kindOf o=8\/kindOf o=9:=by unfold kindOf;split<;>simp
theorem zB {q p:Oper} (hc:kU ops q p=true) {e:Env} {H H1 H2:Heap} {x y:AV} (hq:Sx P T Mv G N ops q e H x H1) (hp:Sx P T Mv G N ops p (aL e q.dst x) H1 y H2) (Qq:kindOf q.op≠9) (Qr:kindOf p.op≠9) :
  ∃ H3,Sx P T Mv G N ops p e H y H3/\Sx P T Mv G N ops q (aL e p.dst y) H3 x H2:=by
 simp only[kU,IT]at hc;obtain⟨eu,jr⟩:=hc;obtain⟨a1,_,bf⟩:=je eu (e:=e) (v:=x);obtain⟨_,a2,_⟩:=je eu (e:=e) (v:=y);have wp:=HK (o:=p) (e:=aL e q.dst x) (e':=e) a1;have wq:=HK (o:=q) (e:=aL e p.dst y) (e':=e) a2;have NV:gq p.op (aL e q.dst x) e:=fun t ht=>a1 t (kK ht);have NW:gq q.op e (aL e p.dst y):=fun t ht=>(a2 t (kK ht)).symm;obtain⟨dq,hq⟩:=hq;obtain⟨dp,hp⟩:=hp;rw[wp]at hp
 rcases hq with⟨qh,eq⟩ | ⟨qh,rfl,rfl⟩
 .rcases hp with⟨zn,ep⟩ | ⟨zn,rfl,rfl⟩
  .have vR:=ep.congr Qr NV;have BZ:=eq.congr Qq NW
   have fin:∀ H3,Ex P T Mv G p e H y H3->Ex P T Mv G q (aL e p.dst y) H3 x H2->∃ H3,Sx P T Mv G N ops p e H y H3/\Sx P T Mv G N ops q (aL e p.dst y) H3 x H2:=fun H3 h1 h2=>
    ⟨H3,⟨dp,.inl ⟨zn,h1⟩⟩,⟨dq,.inl ⟨by rw[wq];exact qh,h2⟩⟩⟩
   by_cases kp0:kindOf p.op=0
   .obtain rfl:=vR.keeps aa;exact fin H (vR.free kp0 H) BZ
   .by_cases kq0:kindOf q.op=0
    .obtain rfl:=eq.keeps aa;exact fin H2 vR (BZ.free kq0 H2)
    .by_cases kk:kindOf q.op<=2/\kindOf p.op<=2
     .obtain rfl:=eq.keeps kk.1;obtain rfl:=vR.keeps kk.2;exact fin _ vR BZ
     .by_cases k3:kindOf q.op=3/\kindOf p.op=3
      .obtain⟨d,row,hd,hn,rfl,dA⟩:=BZ.makes k3.1;obtain⟨d',iR,fm,lS,rfl,JF⟩:=vR.makes k3.2;have dG:d≠d':=fun e=>bf d hd (by rw[fm,e])
       have ou:H d'=none:=by simpa[aY,akI dG]using lS
       have:aY (aY H d row) d' iR=aY (aY H d' iR) d row:=by
        funext i;by_cases h1:i=d<;>by_cases h2:i=d'<;>simp[aY,h1,h2,dG,akI dG]
       exact fin _ (JF H ou) (by rw[this];exact dA _ (by simpa[aY,dG]using hn))
      .by_cases Gy:(kindOf q.op=1\/kindOf q.op=2)/\kindOf p.op=3
       .obtain rfl:=eq.keeps aa;obtain⟨d,row,hd,hn,rfl,dA⟩:=vR.makes Gy.2;exact fin _ vR (BZ.grow Gy.1 hn row)
       exfalso
       revert jr
       have c1:kindOf q.op=1\/kindOf q.op=2\/kindOf q.op=3\/kindOf q.op=8:=by have:=kinds q.op;omega
       have c2:kindOf p.op=1\/kindOf p.op=2\/kindOf p.op=3\/kindOf p.op=8:=by have:=kinds p.op;omega
       rcases c1 with c1 | c1 | c1 | c1<;>rcases c2 with c2 | c2 | c2 | c2<;>rw[c1,c2]<;>first | (simp[vk];done) | (exfalso;apply kk;omega) | (exfalso;exact k3 ⟨c1,c2⟩) | (exfalso;exact Gy ⟨.inl c1,c2⟩) | (exfalso;exact Gy ⟨.inr c1,c2⟩)
  .exact⟨H,⟨dp,.inr ⟨zn,rfl,rfl⟩⟩,⟨dq,.inl ⟨by rw[wq];exact qh,eq.congr Qq NW⟩⟩⟩
 .rcases hp with⟨zn,ep⟩ | ⟨zn,rfl,rfl⟩
  .exact⟨H2,⟨dp,.inl ⟨zn,ep.congr Qr NV⟩⟩,⟨dq,.inr ⟨by rw[wq];exact qh,rfl,rfl⟩⟩⟩
  .exact⟨_,⟨dp,.inr ⟨zn,rfl,rfl⟩⟩,⟨dq,.inr ⟨by rw[wq];exact qh,rfl,rfl⟩⟩⟩
def run (P:Program) (T:Ty) (Mv:Nat->Prop) (G:ay) (N:Fr) (ops:Array Oper):List Nat->St->St->Prop
 | [],σ,aG=>σ=aG
 | i :: l,σ,aG=>∃ o,ops[i]? = some o/\∃ aT,Bt P T Mv G N ops o σ aT/\run P T Mv G N ops l aT aG
theorem w9 {o:Oper} (hk:kindOf o.op≠9) {σ aG:St}:Bt P T Mv G N ops o σ aG↔∃ x H',Sx P T Mv G N ops o σ.env σ.H x H'/\aG=⟨aL σ.env o.dst x,H'⟩:=by
 constructor
 .rintro⟨hd,⟨hw,h⟩ | ⟨hw,rfl⟩⟩
  .obtain⟨x,H',h1,h2⟩:=Ex.of hk h;exact⟨x,H',⟨hd,.inl ⟨hw,h1⟩⟩,h2⟩
  .exact⟨da,σ.H,⟨hd,.inr ⟨hw,rfl,rfl⟩⟩,rfl⟩
 .rintro⟨x,H',⟨hd,⟨hw,h⟩ | ⟨hw,rfl,rfl⟩⟩,rfl⟩
  .exact⟨hd,.inl ⟨hw,h.to⟩⟩
  .exact⟨hd,.inr ⟨hw,rfl⟩⟩
theorem agt {i j:Nat} {l:List Nat} {σ aG:St} {oi oj:Oper} (hi:ops[i]? = some oi) (hj:ops[j]? = some oj) (hc:kU ops oi oj=true) (h:run P T Mv G N ops (i :: j :: l) σ aG):run P T Mv G N ops (j :: i :: l) σ aG:=by
 obtain⟨o1,h1,aT,s1,o2,h2,gU,s2,rest⟩:=h;rw[hi]at h1;rw[hj]at h2;obtain rfl:=AI h1;obtain rfl:=AI h2
 have hk:kindOf oi.op≠9:=by
  intro e;simp only[kU,IT,e]at hc;have:=hc.2
  revert this
  have b2:kindOf oj.op=0\/kindOf oj.op=1\/kindOf oj.op=2\/kindOf oj.op=3\/kindOf oj.op=8\/kindOf oj.op=9:=by unfold kindOf;split<;>simp
  rcases b2 with b | b | b | b | b | b<;>rw[b]<;>simp[vk]
 have gy:kindOf oj.op≠9:=by
  intro e;simp only[kU,IT,e]at hc;have:=hc.2
  revert this
  have b2:kindOf oi.op=0\/kindOf oi.op=1\/kindOf oi.op=2\/kindOf oi.op=3\/kindOf oi.op=8\/kindOf oi.op=9:=by unfold kindOf;split<;>simp
  rcases b2 with b | b | b | b | b | b<;>rw[b]<;>simp[vk]
 obtain⟨x,H1,e1,rfl⟩:=(w9 hk).1 s1;obtain⟨y,H2,e2,rfl⟩:=(w9 gy).1 s2;obtain⟨H3,f1,f2⟩:=zB hc e1 e2 hk gy;refine⟨oj,hj,_,(w9 gy).2 ⟨y,H3,f1,rfl⟩,oi,hi,_,(w9 hk).2 ⟨x,H2,f2,rfl⟩,?_⟩
 have ZQ:aL (aL σ.env oi.dst x) oj.dst y=aL (aL σ.env oj.dst y) oi.dst x:=by
  simp only[kU,IT]at hc;exact ig (je hc.1 (e:=σ.env) (v:=x)).2.2
 dsimp only at rest ⊢;rw[ZQ]at rest;exact rest
theorem agr {p:Nat} {op:Oper} (hp:ops[p]? = some op):∀ (l1:List Nat) {l2:List Nat} {σ aG:St},(∀ q∈l1,∀ oq,ops[q]? = some oq->kU ops oq op=true)->run P T Mv G N ops (l1 ++ p :: l2) σ aG->run P T Mv G N ops (p :: (l1 ++ l2)) σ aG:=by
 intro l1
 induction l1 with
 | nil=>intro l2 σ aG _ h;exact h
 | cons q l1 ih=>
  intro l2 σ aG dA h;obtain⟨oq,hq,aT,s1,rest⟩:=h;have:=ih (fun q' o5=>dA q' (by simp[o5])) rest;have h2:run P T Mv G N ops (q :: p :: (l1 ++ l2)) σ aG:=⟨oq,hq,aT,s1,this⟩;exact agt hq hp (dA q ak oq hq) h2
theorem Nl:∀ (l:List Oper) (acc:List Nat) (k:Nat),k < acc.length->(tR l acc).getD k 0=acc.getD k 0
 | [],_,_,_=>rfl
 | o :: l,acc,k,hk=>by
  rw[tR,Nl l _ k (by simp;omega)];simp[OF,akL hk]
theorem WA {acc:List Nat} {o:Oper} {q:Nat} (h:(bitsOf acc o).testBit q=true):∃ e∈o.after,Region.binds .any e=true/\(q=e.on\/(acc.getD e.on 0).testBit q=true):=by
 unfold bitsOf at h
 have key:∀ (l:List Edge),(l.foldr (fun e s=>if Region.binds .any e then (2 ^ e.on ||| acc.getD e.on 0) ||| s else s) 0).testBit q=true->∃ e∈l,Region.binds .any e=true/\(q=e.on\/(acc.getD e.on 0).testBit q=true):=by
  intro l
  induction l with
  | nil=>intro h;simp at h
  | cons e l ih=>
   intro h;rw[List.foldr_cons]at h;split at h
   .rename_i hb;rw[Nat.testBit_or,Nat.testBit_or,akp,akp]at h
    rcases h with (h | h) | h
    .rw[Nat.testBit_two_pow]at h
     have h':e.on=q:=by simpa using h
     exact⟨e,ak,hb,.inl h'.symm⟩
    .exact⟨e,ak,hb,.inr h⟩
    .obtain⟨e',kg,r⟩:=ih h;exact⟨e',by simp[kg],r⟩
   .obtain⟨e',kg,r⟩:=ih h;exact⟨e',by simp[kg],r⟩
 obtain⟨e,he,r⟩:=key _ h;exact⟨e,by simpa using he,r⟩
theorem Eg:∀ (l:List Oper) (acc:List Nat) (j:Nat) (o:Oper) (q:Nat),l[j]? = some o->((tR l acc).getD (acc.length+j) 0).testBit q=true->∃ e∈o.after,Region.binds .any e=true/\(q=e.on\/(e.on < acc.length+j/\((tR l acc).getD e.on 0).testBit q=true))
 | [],_,_,_,_,h,_=>by simp at h
 | o' :: l,acc,0,o,q,h,hb=>by
  simp at h;subst h;rw[tR,Nl l _ _ ak]at hb;simp[OF]at hb;obtain⟨e,he,pH,r⟩:=WA hb;refine⟨e,he,pH,r.imp id fun r=>?_⟩
  have aH:e.on < acc.length:=by
   rcases akS e.on acc.length with h | h
   .exact h
   .simp[OF,akZ h]at r
  refine⟨aa,?_⟩;rw[tR,Nl l _ _ (by simp;omega)];simpa[OF,akL aH]using r
 | o' :: l,acc,j+1,o,q,h,hb=>by
  have:=Eg l (acc ++ [bitsOf acc o']) j o q (by simpa using h) (by rw[tR]at hb;simpa[akv,ala 1 j]using hb);obtain⟨e,he,pH,r⟩:=this;refine⟨e,he,pH,r.imp id fun r=>?_⟩;rw[tR];exact⟨by have:=r.1;simp at this;omega,r.2⟩
theorem G7 (h:rT ops=true) {j:Nat} {oj:Oper} (hj:ops[j]? = some oj):(∀ e∈oj.after,Region.binds .any e=true->e.on < j)/\
  ∀ i oi,i < j->ops[i]? = some oi->((tb ops).getD j 0).testBit i=true\/(kU ops oi oj=true/\kU ops oj oi=true):=by
 unfold rT at h;have h1:=akz.1 h j (akW.2 (abi.1 hj).1);simp only[hj,IT]at h1;refine⟨fun e he hb=>?_,fun i oi hi gL=>?_⟩
 .have:=Array.all_eq_true_iff_forall_mem.1 h1.1 e he;simpa[hb]using this
 .have:=akz.1 h1.2 i (akW.2 hi);simpa[gL]using this
theorem Wv (bX:rT ops=true) {listed:Array Bool} (uV:∀ j oj,ops[j]? = some oj->listed.getD j false=true->∀ e∈oj.after,Region.binds .any e=true->listed.getD e.on false=true) :
  ∀ (n j:Nat) (oj:Oper),j<=n->ops[j]? = some oj->(∀ e∈oj.after,Region.binds .any e=true->listed.getD e.on false=true)->∀ q,((tb ops).getD j 0).testBit q=true->listed.getD q false=true:=by
 intro n
 induction n with
 | zero=>
  intro j oj hj fe dA q hq
  have mQ:j=0:=aa
  subst mQ;obtain⟨e,he,hb,_⟩:=Eg ops.toList [] 0 oj q (by simpa using fe) (by simpa[tb]using hq);have:=(G7 bX fe).1 e he hb;omega
 | succ n ih=>
  intro j oj hj fe dA q hq;obtain⟨e,he,hb,r⟩:=Eg ops.toList [] j oj q (by simpa using fe) (by simpa[tb]using hq)
  rcases r with rfl | ⟨_,r⟩
  .exact dA e he hb
  .have aH:=(G7 bX fe).1 e he hb
   have eD:e.on < ops.size:=by have:=(abi.1 fe).1;omega
   exact ih e.on ops[e.on] aa (by simp[eD]) (fun e' kg bk=>uV e.on _ (by simp[eD]) (dA e he hb) e' kg bk) q (by simpa[tb]using r)
theorem VU (hg:Good P T) (bX:rT ops=true) {Q:Exit->St->Prop} {w0:World} {lh:Mu} {cq:St} (hQ:Q .normal cq):∀ (n:Nat) (R:List Nat) (listed:Array Bool) (w:World) (μ:Mu) (a:Act) (σ:St),R.length=n->R.Nodup->
  (∀ j,j∈R↔j < ops.size/\listed.getD j true=false)->listed.size=ops.size->(R.Pairwise (· < ·))->
  (∀ j oj,ops[j]? = some oj->listed.getD j false=true->∀ e∈oj.after,Region.binds .any e=true->listed.getD e.on false=true)->run P T Mv G N ops R σ cq->In w X G μ N a σ->Ev Mv w0 lh w μ->
  wpAnyIn (wd N.ro) 0 P .any ops (After Mv X G N w0 lh Q) n listed a w:=by
 intro n
 induction n with
 | zero=>
  intro R listed w μ a σ hl _ hR bd _ _ dw hi aW;have:R=[]:=aj2 hl;subst this
  have hr:Region.ready .any ops listed=[]:=by
   apply List.eq_nil_iff_forall_not_mem.2;intro j hj;obtain⟨h1,o,ho,_⟩:=mem_ready.1 hj;exact absurd ((hR j).2 ⟨(abi.1 ho).1,h1⟩) ak
  have:σ=cq:=dw;subst this;exact⟨hr,μ,σ,hQ,hi,aW⟩
 | succ n ih=>
  intro R listed w μ a σ hl pQ hR bd u7 uV dw hi aW;refine⟨fun hr=>?_,fun i Kk=>?_⟩
  .-- the first of the rest may come up
   cases R with
   | nil=>simp at hl
   | cons j R=>
    obtain⟨qE,pM⟩:=(hR j).1 ak
    have CI:j∈Region.ready .any ops listed:=by
     refine mem_ready.2 ⟨pM,ops[j],by simp[qE],fun e he hb=>?_⟩;have aH:=(G7 bX (j:=j) (oj:=ops[j]) (by simp[qE])).1 e he hb
     have bf:e.on ∉ (j :: R):=by
      intro hm
      rcases ajX.1 hm with h | h
      .omega
      .have:=(aku.1 u7).1 _ h;omega
     have:=mt (hR e.on).2 bf
     have eD:e.on < ops.size:=aa
     have u3:e.on < listed.size:=aa
     simp only[eD,true_and,ajF]at this ⊢;simp[u3]at this ⊢;exact this
    rw[hr]at CI;cases CI
  .obtain⟨gx,oi,gL,dA⟩:=mem_ready.1 Kk;have Kg:i∈R:=(hR i).2 ⟨(abi.1 gL).1,gx⟩;obtain⟨R1,R2,rfl⟩:=List.append_of_mem Kg
   have Ka:=agr (P:=P) (T:=T) (Mv:=Mv) (G:=G) (N:=N) gL R1 (fun q hq oq C3=>by
    have aaM:q < i:=by
     have:=(akJ.1 u7).2.2 q hq i ak;exact this
    rcases (G7 bX gL).2 q oq aaM C3 with h | h
    .exfalso;have CP:=Wv bX uV i i oi (ajJ _) gL dA q h;have o6:=((hR q).1 (by simp[hq])).2
     have KN:q < listed.size:=by have:=(abi.1 C3).1;omega
     simp[ajF,KN]at CP o6;rw[CP]at o6;cases o6
    .exact h.1) dw
   obtain⟨o',pT,aT,hstep,dH⟩:=Ka;rw[gL]at pT;obtain rfl:=AI pT;refine ze hg hstep hi gL fun w' aI a' aO mb=>?_
   have KB:(R1 ++ R2).Nodup:=by
    have:=pQ;rw[List.nodup_append]at this ⊢;obtain⟨g1,g2,g3⟩:=this;exact⟨g1,(akB.1 g2).2,fun x hx y hy=>g3 x hx y (by simp[hy])⟩
   have Ki:i ∉ R1 ++ R2:=by
    have:=pQ;rw[List.nodup_append]at this;obtain⟨g1,g2,g3⟩:=this;intro hm
    rcases ajR.1 hm with h | h
    .exact g3 i h i ak rfl
    .exact (akB.1 g2).1 h
   refine ih (R1 ++ R2) _ w' aI a' aT (by simp at hl ⊢;omega) KB (fun j=>?_) (by simpa using bd) ?_ ?_ dH aO (aW.trans mb)
   .by_cases oo:j=i
    .subst oo
     have u3:j < listed.size:=by rw[bd];exact (abi.1 gL).1
     simp[u3];simpa using Ki
    .rw[getD_set_ne true (akI oo)];rw[<- hR j];simp[oo]
   .rw[akJ]at u7 ⊢;obtain⟨g1,g2,g3⟩:=u7;exact⟨g1,(aku.1 g2).2,fun x hx y hy=>g3 x hx y (by simp[hy])⟩
   .intro j oj fe lA e he hb;by_cases oo:j=i
    .subst oo;rw[gL]at fe;obtain rfl:=AI fe;exact getD_set_true (dA e he hb)
    .rw[getD_set_ne false (akI oo)]at lA;exact getD_set_true (uV j oj fe lA e he hb)
def xd (P:Program) (T:Ty) (Mv:Nat->Prop) (G:ay) (N:Fr) (ops:Array Oper) (K:St->Prop):List Oper->St->Prop
 | [],σ=>K σ
 | o :: rest,σ=>eI N o/\match jb ops σ.env o with
  | some b=>if b=true then (match dP o.op with
    | some c=>∃ y,BQ P G σ c y/\xd P T Mv G N ops K rest ⟨aL σ.env o.dst (.d y),σ.H⟩
    | none=>qT T G Mv o σ (xd P T Mv G N ops K rest)) else xd P T Mv G N ops K rest ⟨aL σ.env o.dst da,σ.H⟩
  | none=>False
theorem ahf {K:St->Prop}:∀ (l:List Oper) (k:Nat) (σ:St),(∀ j,l[j]? = ops[k+j]?)->xd P T Mv G N ops K l σ->∃ cq,K cq/\run P T Mv G N ops (List.range' k l.length) σ cq:=by
 intro l
 induction l with
 | nil=>intro k σ _ h;exact⟨σ,h,rfl⟩
 | cons o l ih=>
  intro k σ hl h
  have h0:ops[k]? = some o:=by simpa using (hl 0).symm
  have fo:∀ j,l[j]? = ops[k+1+j]?:=fun j=>by have:=hl (j+1);simpa[akv,ala 1 j]using this
  obtain⟨hd,h⟩:=h;rw[ajP,alq]
  have fin:∀ aT,Bt P T Mv G N ops o σ aT->xd P T Mv G N ops K l aT->∃ cq,K cq/\run P T Mv G N ops (k :: List.range' (k+1) l.length) σ cq:=by
   intro aT hs hq;obtain⟨cq,hk,hr⟩:=ih (k+1) aT fo hq;exact⟨cq,hk,o,h0,aT,hs,hr⟩
  split at h
  .rename_i b hb;split at h
   .rename_i qz;subst qz;split at h
    .rename_i c hc;obtain⟨y,hy,h⟩:=h;refine fin _ ⟨hd,.inl ⟨hb,?_⟩⟩ h;unfold n5;simp only[hc];exact⟨y,hy,rfl⟩
    .rename_i hc;unfold qT at h;split at h
     .rename_i hw;split at h
      .rename_i c x aT h1;refine fin _ ⟨hd,.inl ⟨hb,?_⟩⟩ h.2;unfold n5;simp only[hc];rw[if_pos hw];exact⟨c,x,aT,h1,h.1,rfl⟩
      .exact h.elim
     .rename_i hw;split at h
      .rename_i c x h1;refine fin _ ⟨hd,.inl ⟨hb,?_⟩⟩ h.2;unfold n5;simp only[hc];rw[if_neg hw];exact⟨c,x,h1,h.1,rfl⟩
      .exact h.elim
   .rename_i pI
    have:b=false:=by simpa using pI
    subst this;exact fin _ ⟨hd,.inr ⟨hb,rfl⟩⟩ h
  .exact h.elim
theorem Vy (hg:Good P T) (hm:P.follows .mixedOrders=true) {id:Nat} (bX:rT ops=true) {Q:Exit->St->Prop} {σ:St} (h:xd P T Mv G N ops (fun aG=>Q .normal aG) ops.toList σ):AW P Mv X G N (.region id ops true) Q σ:=fun w μ a hi=>by
 obtain⟨cq,hQ,dw⟩:=ahf ops.toList 0 σ ak h;refine wpIn_region_any hm ?_;obtain⟨aO,aW⟩:=hi.qt (Mv:=Mv) (cN.drew w);refine VU hg bX hQ ops.size (List.range' 0 ops.toList.length) _ w.drew μ a σ ak (by simpa using List.nodup_range') (fun j=>?_) ak (by simpa using List.pairwise_lt_range') ?_ dw aO aW
 .simp[List.mem_range'_1];intro h;simp[ajF,h]
 .intro j oj fe lA;have hj:=(abi.1 fe).1;simp[ajF,hj]at lA
end
def ey (P:Program) (t:TypeId):Bool:=!P.stoodInHeld t && !P.eqGuardType P.depth t
def cJ (P:Program):Ty:=fun t=>match P.underlying t,P.info? t with
 | some d,some i=>i.zero.map fun z=>⟨d,i.size,i.bytes,z,ey P t⟩
 | _,_=>none
theorem aC (P:Program):Good P (cJ P):=by
 intro t ti h;unfold cJ at h;split at h
 .rename_i d i hd hi;obtain⟨z,hz,rfl⟩:=AS.1 h;exact⟨hd,i,hi,rfl,rfl,hz,fun h=>by unfold ey at h;simpa using h⟩
 .cases h
end Go.Av
namespace Go.Av
def yS:List Nat->Env->List (Nat×AV)
 | [],_=>[]
 | i :: l,e=>match e i with
  | some x=>(i,x) :: yS l e
  | none=>yS l e
section
variable {P:Program} {T:Ty} {Mv X:Nat->Prop} {G:ay} {N:Fr} {σ:St}
theorem aM.env {e e':Env} {H:Heap} (h:∀ i x,e' i=some x->e i=some x):aM Mv X G N ⟨e,H⟩ ⟨e',H⟩:=fun w μ _ hi=>
 ⟨μ,⟨hi.bq,⟨hi.env.defers,hi.env.size,fun i x hx=>hi.env.slot i x (h i x hx)⟩,hi.jf⟩,.refl _ w μ⟩
theorem LM {e:Env}:∀ {l:List Nat} {i:Nat} {x:AV},bp (yS l e) i=some x->e i=some x
 | [],_,_,h=>by simp[bp,yS]at h
 | j :: l,i,x,h=>by
  simp only[yS]at h;split at h
  .rename_i y hy;simp only[bp,List.lookup]at h;split at h
   .rename_i pL
    have:i=j:=by simpa using pL
    subst this;obtain rfl:=AI h;exact hy
   .exact LM (l:=l) h
  .exact LM (l:=l) h
theorem ag {x y:Code} {Q:Exit->St->Prop} (h:∀ K:St->Prop,(∀ aG,AW P Mv X G N y Q aG->K aG)->AW P Mv X G N x (aV K Q) σ):AW P Mv X G N (.seq x y) Q σ:=sK (h _ fun _ h=>h)
theorem LN:∀ {l:List (Nat×AV)} {i:Nat} {x:AV},bp l i=some x->(i,x)∈l
 | [],_,_,h=>by simp[bp]at h
 | (j,y) :: l,i,x,h=>by
  simp only[bp,List.lookup]at h;split at h
  .rename_i pL
   have:i=j:=by simpa using pL
   subst this;obtain rfl:=AI h;simp
  .exact List.mem_cons_of_mem _ (LN (l:=l) h)
def bh (Mv X:Nat->Prop) (G:ay) (N:Fr) {S:Type} (I:S->Prop) (inv:S->St) (p3:S->Nat) (s:S) (σ:St):Prop:=∃ s',I s'/\p3 s' < p3 s/\aM Mv X G N σ (inv s')
theorem bh.mk {S:Type} {I:S->Prop} {inv:S->St} {p3:S->Nat} {s:S} (s':S) (hI:I s') (hm:p3 s' < p3 s) (h:aM Mv X G N σ (inv s')):bh Mv X G N I inv p3 s σ:=⟨s',hI,hm,h⟩
theorem cG {S:Type} {id:Nat} {c:Code} {Q:Exit->St->Prop} (I:S->Prop) (inv:S->St) (p3:S->Nat) (s0:S) (h0:aM Mv X G N σ (inv s0)) (hI:I s0)
  (round:∀ s,I s->AW P Mv X G N c (aV (bh Mv X G N I inv p3 s) (aX id Q)) (inv s)):AW P Mv X G N (.block id (.loop c)) Q σ:=
 bg (Vn (S:={s // I s}) (fun s=>inv s.1) (fun s=>p3 s.1) ⟨s0,hI⟩ h0 fun s=>(round s.1 s.2).mono fun e τ q=>by
  cases e with
  | normal=>obtain⟨s',h1,h2,h3⟩:=q;exact⟨⟨s',h1⟩,h2,h3⟩
  | _=>exact q)
theorem fG {c:Operand} {x y:Code} {Q:Exit->St->Prop} {b:Prop} [Decidable b] (hc:bC G σ.env c=some (.d (.v (.bool (decide b))))) (ht:b->AW P Mv X G N x Q σ) (hf:¬ b->AW P Mv X G N y Q σ):AW P Mv X G N (.cond c x y) Q σ:=
 r4 (decide b) hc (fun h=>ht (of_decide_eq_true h)) (fun h=>hf (of_decide_eq_false h))
end
end Go.Av
namespace Go.Av
def DA (l:List AV):AV:=match l5 l with
 | some ds=>.d (.bz ds)
 | none=>.bz l
def AV.tr (o f:Nat->Nat->Nat->AV):AV->AV
 | .d x=>.d x
 | .own q off n=>o q off n
 | .ref q e j=>f q e j
 | .agg cells=>qR (go o f cells)
 | .bz vs=>DA (go o f vs)
 | .cf t x=>Dz t (x.tr o f)
 | .fn g caps=>Dy g (go o f caps)
 | .bm g x=>.bm g (x.tr o f)
 | .mp q=>match f q 0 0 with
  | .ref q' _ _=>.mp q'
  | _=>.dead
 | .dead=>.dead
where
 go (o f:Nat->Nat->Nat->AV):List AV->List AV
 | []=>[]
 | x :: l=>x.tr o f :: go o f l
theorem AV.Bv (o f:Nat->Nat->Nat->AV) (l:List AV):AV.tr.go o f l=l.map (AV.tr o f):=by
 induction l with
 | nil=>rfl
 | cons x l ih=>simp[AV.tr.go,ih]
def Row.tr (o f:Nat->Nat->Nat->AV):Row->Row
 | .sl ty sz els=>.sl ty sz els
 | .box ty cells=>.box ty (cells.map (AV.tr o f))
 | .mp ty ents=>.mp ty ents
 | .it ents seen=>.it ents seen
def lK (o f:Nat->Nat->Nat->AV) (e:Env):Env:=fun i=>(e i).map (AV.tr o f)
def eM (keep:Nat->Bool) (o f:Nat->Nat->Nat->AV) (H:Heap):Heap:=fun r=>if keep r then (H r).map (Row.tr o f) else none
def cC (keep:Nat->Bool) (μ:Mu):Mu:=fun r=>if keep r then μ r else none
section
variable {P:Program} {T:Ty} {Mv X:Nat->Prop} {G:ay} {N:Fr} {w:World} {μ:Mu} {a:Act} {σ:St}
theorem GR {u:Value} {l:List AV} (h:RV w X μ u (.bz l)):RV w X μ u (DA l):=by
 unfold DA;split
 .rename_i ds hd;rw[re hd]at h;obtain⟨arr,rfl,hn,hr⟩:=h.Bw;refine .d (.bz (by simpa using hn) fun j u c hu hc=>?_);exact (hr j u (.d c) hu (by rw[ajK,hc];rfl)).data
 .exact h
theorem kL {keep:Nat->Bool} {r:Nat} {m:jE} (h:cC keep μ r=some m):keep r=true/\μ r=some m:=by
 unfold cC at h;split at h
 .rename_i hk;exact⟨hk,h⟩
 .cases h
theorem BI {keep:Nat->Bool} {b:Nat} (h:XX X (cC keep μ) b):XX X μ b:=h.elim .inl fun ⟨r,m,hr,hb⟩=>.inr ⟨r,m,(kL hr).2,hb⟩
theorem RV.tr {aI:Mu} {o f:Nat->Nat->Nat->AV} (hX:∀ b,XX X aI b->XX X μ b) (ho:∀ u r off n,RV w X μ u (.own r off n)->RV w X aI u (o r off n)) (hf:∀ u r e j,RV w X μ u (.ref r e j)->RV w X aI u (f r e j)) :
  ∀ {v:Value} {x:AV},RV w X μ v x->RV w X aI v (x.tr o f):=by
 intro v x hr
 induction hr with
 | d h'=>exact .d (h'.mono (ajJ _) fun b _ hb=>⟨rfl,fun e=>hb (hX b e)⟩)
 | own hm h'=>exact ho _ _ _ _ (.own hm h')
 | ref hm hb=>exact hf _ _ _ _ (.ref hm hb)
 | agg hn _ ih=>
  rw[AV.tr,AV.Bv];refine Dx (.agg (by simpa using hn) fun j u c hu hc=>?_);rw[ajK]at hc;obtain⟨c',eb,rfl⟩:=AS.1 hc;exact ih j u c' hu eb
 | bz hn _ ih=>
  rw[AV.tr,AV.Bv];refine GR (.bz (by simpa using hn) fun j u c hu hc=>?_);rw[ajK]at hc;obtain⟨c',eb,rfl⟩:=AS.1 hc;exact ih j u c' hu eb
 | cf _ ih=>exact LV ih
 | bm _ ih=>exact .bm ih
 | fn hn _ ih=>
  rw[AV.tr,AV.Bv];refine LU (by simpa using hn) fun j u c hu hc=>?_;rw[ajK]at hc;obtain⟨c',eb,rfl⟩:=AS.1 hc;exact ih j u c' hu eb
 | mp hm hb=>
  rename_i r b m;have h0:=hf _ _ _ _ (RV.ref (e:=0) (j:=0) hm hb);unfold AV.tr;split
  .rename_i q' e' j' hq;rw[hq]at h0;obtain⟨m',b',cF,bk,e⟩:=h0.lG;simp only[Value.pointer.injEq,IS,Addr.mk.injEq]at e;obtain⟨rfl,_⟩:=e;exact .mp cF bk
  .exact .dead _
 | dead u=>exact .dead u
theorem xH {keep:Nat->Bool} (hk:∀ r m,μ r=some m->keep r=false->Mv r):Ev Mv w μ w (cC keep μ):=by
 refine⟨ajJ _,rfl,rfl,rfl,fun b hb hr=>⟨rfl,?_⟩,fun q mq hq hn=>?_⟩
 .rintro⟨q,mq,hq,lx⟩;exact hr ⟨q,mq,(kL hq).2,lx⟩
 .unfold cC
  cases h:keep q with
  | true=>simpa using hq
  | false=>exact absurd (hk q mq hq h) hn
theorem In.tr {keep:Nat->Bool} {o f:Nat->Nat->Nat->AV} (hi:In w X G μ N a σ) (ho:∀ u r off n,RV w X μ u (.own r off n)->RV w X (cC keep μ) u (o r off n)) (hf:∀ u r e j,RV w X μ u (.ref r e j)->RV w X (cC keep μ) u (f r e j)) :
  In w X G (cC keep μ) N a ⟨lK o f σ.env,eM keep o f σ.H⟩:=by
 have hX:∀ b,XX X (cC keep μ) b->XX X μ b:=fun b=>BI;have uJ:∀ {u:Value} {x:D},RD w (XX X μ) u x->RD w (XX X (cC keep μ)) u x:=fun h=>h.mono (ajJ _) fun b _ hb=>⟨rfl,fun e=>hb (hX b e)⟩;have Cr:∀ {u:Value} {x:AV},RV w X μ u x->RV w X (cC keep μ) u (x.tr o f):=fun h=>RV.tr hX ho hf h
 refine⟨⟨fun r row hr=>?_,fun r m hr=>?_,fun q q' m1 m2 b h1 h2 e9 ea=>hi.bq.inj q q' m1 m2 b (kL h1).2 (kL h2).2 e9 ea,fun q mq b hq hb=>hi.bq.frame q mq b (kL hq).2 hb,hi.bq.fits⟩,
  ⟨hi.env.defers,hi.env.size,fun i x hx=>?_⟩,fun g x hx=>uJ (hi.jf g x hx)⟩
 .replace hr:eM keep o f σ.H r=some row:=hr;unfold eM at hr;split at hr
  .rename_i hk;obtain⟨pn,h0,rfl⟩:=AS.1 hr;obtain⟨m,hm,ok⟩:=hi.bq.rows r pn h0;refine⟨m,by simp[cC,hk,hm],?_⟩
   cases ok with
   | nil h1 h2=>exact .nil h1 h2
   | sl h1 h2 h3 h4 h5 h6 h7 h8 h9=>exact .sl h1 h2 h3 h4 h5 h6 h7 h8 fun i j el c he hc=>let ⟨u,hu,hr⟩:=h9 i j el c he hc;⟨u,hu,uJ hr⟩
   | box h1 h2 h3 h4 h5 h6 h7=>
    refine .box h1 rfl h3 h4 (by simpa using h5) (fun j u c hu hc=>?_) (by simpa using h7);rw[ajK]at hc;obtain⟨c',eb,rfl⟩:=AS.1 hc;exact Cr (h6 j u c' hu eb)
   | mp h1 h2 h3 h4=>exact .mp h1 h2 h3 fun i e p he hp=>let ⟨a,b,c⟩:=h4 i e p he hp;⟨a,b,uJ c⟩
   | it h1 h2 h3=>exact .it h1 h2 (uJ h3)
  .cases hr
 .obtain⟨hk,hm⟩:=kL hr;obtain⟨row,dJ⟩:=hi.bq.lq r m hm;exact⟨row.tr o f,by simp[eM,hk,dJ]⟩
 .replace hx:lK o f σ.env i=some x:=hx;unfold lK at hx;obtain⟨x0,h0,rfl⟩:=AS.1 hx;obtain⟨u,hu,hr⟩:=hi.env.slot i x0 h0;exact⟨u,hu,Cr hr⟩
theorem RV.Bi {keep:Nat->Bool} {u:Value} {r off n:Nat} (hk:keep r=true) (h:RV w X μ u (.own r off n)):RV w X (cC keep μ) u (.own r off n):=by
 obtain⟨m,hm,hh⟩:=h.lF;exact .own (by simp[cC,hk,hm]) hh
theorem RV.Bm {keep:Nat->Bool} {u:Value} {r e j:Nat} (hk:keep r=true) (h:RV w X μ u (.ref r e j)):RV w X (cC keep μ) u (.ref r e j):=by
 obtain⟨m,b,hm,hb,rfl⟩:=h.lG;exact .ref (by simp[cC,hk,hm]) hb
def fA (ns:List Nat) (q off n:Nat):AV:=if ns.contains q then .own q off n else .dead
def fy (ns:List Nat) (q e j:Nat):AV:=if ns.contains q then .ref q e j else .dead
def wN:List Nat->Heap->List (Nat×Row)
 | [],_=>[]
 | r :: l,H=>match H r with
  | some row=>(r,row) :: wN l H
  | none=>wN l H
theorem aM.only (ns:List Nat) (hm:∀ r,ns.contains r=false->Mv r):aM Mv X G N σ ⟨lK (fA ns) (fy ns) σ.env,eM ns.contains (fA ns) (fy ns) σ.H⟩:=fun w μ a hi=>by
 refine⟨cC ns.contains μ,hi.tr (fun u r off n h=>?_) (fun u r e j h=>?_),xH fun r _ _ h=>hm r h⟩
 .unfold fA;split
  .rename_i hk;exact h.Bi hk
  .exact .dead u
 .unfold fy;split
  .rename_i hk;exact h.Bm hk
  .exact .dead u
theorem Qw {H:Heap}:∀ {l:List Nat} {r:Nat},aq (wN l H) r=if l.contains r then H r else none
 | [],r=>by simp[aq,wN]
 | q :: l,r=>by
  have ih:=Qw (H:=H) (l:=l) (r:=r);simp only[wN];split
  .rename_i row dJ;simp only[aq,List.lookup,List.contains_cons];split
   .rename_i AD
    have:r=q:=by simpa using AD
    subst this;simp[dJ]
   .rename_i AD;rw[AD,ak9];exact ih
  .rename_i dJ;rw[ih,List.contains_cons];by_cases AD:r=q
   .subst AD;simp[dJ]
   .simp[AD]
def St.norm (l ns:List Nat) (σ:St):St:=⟨bp (yS l (lK (fA ns) (fy ns) σ.env)),aq (wN ns (eM ns.contains (fA ns) (fy ns) σ.H))⟩
theorem aaw {ns:List Nat} {o f:Nat->Nat->Nat->AV} {H:Heap}:aq (wN ns (eM ns.contains o f H))=eM ns.contains o f H:=by
 funext r;rw[Qw];unfold eM;split<;>simp_all
theorem aM.norm (l ns:List Nat) (hm:∀ r,ns.contains r=false->Mv r):aM Mv X G N σ (σ.norm l ns):=by
 refine (aM.only ns hm).trans ?_;unfold St.norm;rw[aaw];exact aM.env fun _ _=>LM
theorem aM.to {e:Env} {H:Heap} {l:List (Nat×AV)} {rows:List (Nat×Row)} (hm:∀ r,(rows.map (·.1)).contains r=false->Mv r) (he:∀ p∈l,(e p.1).map (AV.tr (fA (rows.map (·.1))) (fy (rows.map (·.1))))=some p.2)
  (hH:∀ r,aq rows r=eM (rows.map (·.1)).contains (fA (rows.map (·.1))) (fy (rows.map (·.1))) H r):aM Mv X G N ⟨e,H⟩ ⟨Go.Av.bp l,aq rows⟩:=by
 refine (aM.only (rows.map (·.1)) hm).trans ?_;have:aq rows=eM (rows.map (·.1)).contains (fA (rows.map (·.1))) (fy (rows.map (·.1))) H:=funext hH;rw[this];exact aM.env fun i x hx=>he (i,x) (LN hx)
theorem Hq {rows:List (Nat×Row)} {H:Heap} {o f:Nat->Nat->Nat->AV} (h:∀ p∈rows,(H p.1).map (Row.tr o f)=aq rows p.1):∀ r,aq rows r=eM (rows.map (·.1)).contains o f H r:=by
 intro r;unfold eM;split
 .rename_i hk;obtain⟨p,hp,rfl⟩:=akh.1 (akq.1 hk);exact (h p hp).symm
 .rename_i hk
  have:∀ l:List (Nat×Row),¬ (l.map (·.1)).contains r=true->aq l r=none:=by
   intro l
   induction l with
   | nil=>intro _;rfl
   | cons q l ih=>
    intro hc;simp only[aj6,List.contains_cons,akp,not_or]at hc;simp only[aq,List.lookup];split
    .rename_i h1;exact absurd h1 hc.1
    .exact ih hc.2
  exact this rows hk
theorem aM.dk {e:Env} {H:Heap} {l:List (Nat×AV)} {rows:List (Nat×Row)} (hm:∀ r,(rows.map (·.1)).contains r=false->Mv r) (he:∀ p∈l,(e p.1).map (AV.tr (fA (rows.map (·.1))) (fy (rows.map (·.1))))=some p.2)
  (hH:∀ p∈rows,(H p.1).map (Row.tr (fA (rows.map (·.1))) (fy (rows.map (·.1))))=aq rows p.1):aM Mv X G N ⟨e,H⟩ ⟨Go.Av.bp l,aq rows⟩:=aM.to hm he (Hq hH)
def vW (r:Nat) (els:List (List D)) (q off n:Nat):AV:=if q=r then (if off=0/\n=els.length then .d (.sl none els) else if off+n<=els.length then .d (.sl none ((els.drop off).take n)) else .dead) else .own q off n
def vU (r:Nat) (q e j:Nat):AV:=if q=r then .dead else .ref q e j
def iy (r:Nat) (q:Nat):Bool:=!(q == r)
def St.freeze (r:Nat) (σ:St):St:=match σ.H r with
 | some (.sl _ _ els)=>⟨lK (vW r els) (vU r) σ.env,eM (iy r) (vW r els) (vU r) σ.H⟩
 | _=>σ
theorem aM.freeze (r:Nat) (hm:Mv r):aM Mv X G N σ (σ.freeze r):=fun w μ a hi=>by
 unfold St.freeze;split
 .rename_i ty sz els hr
  have rE:(fun q=>if q=r then none else μ q)=cC (iy r) μ:=by
   funext q;unfold cC iy;by_cases h:q=r<;>simp[h]
  refine⟨cC (iy r) μ,hi.tr (fun u q off n h=>?_) (fun u q e j h=>?_),xH fun q _ _ hq=>by
   have e:q=r:=by simpa[iy]using hq
   exact e ▸ hm⟩
  .unfold vW;split
   .rename_i hq;subst hq
    have hd:∀ {off n:Nat},RV w X μ u (.own q off n)->off+n<=els.length->RV w X (cC (iy q) μ) u (.d (.sl none ((els.drop off).take n))):=fun h hle=>by
     obtain⟨k,hk,_⟩:=G8 hi.bq hr hle h;rw[rE]at hk;exact .d hk.vx
    split
    .rename_i h2;obtain⟨rfl,rfl⟩:=h2;have:=hd h aa;simpa using this
    .split
     .rename_i hle;exact hd h hle
     .exact .dead u
   .rename_i hq;exact h.Bi (by simp[iy,hq])
  .unfold vU;split
   .exact .dead u
   .rename_i hq;exact h.Bm (by simp[iy,hq])
 .exact⟨μ,hi,.refl _ w μ⟩
def Fb (r:Nat) (ds:List D) (q e j:Nat):AV:=if q=r then (if e=0 then .d (.ip (ds.drop j)) else .dead) else .ref q e j
def Fc (r:Nat) (q off n:Nat):AV:=if q=r then .dead else .own q off n
def St.sX (r:Nat) (σ:St):St:=match σ.H r with
 | some (.box _ cells)=>match l5 cells with
  | some ds=>⟨lK (Fc r) (Fb r ds) σ.env,eM (iy r) (Fc r) (Fb r ds) σ.H⟩
  | none=>σ
 | _=>σ
theorem aM.sX (r:Nat) (hm:Mv r):aM Mv X G N σ (σ.sX r):=fun w μ a hi=>by
 unfold St.sX;split
 .rename_i ty cells hr;split
  .rename_i ds mM
   refine⟨cC (iy r) μ,hi.tr (fun u q off n h=>?_) (fun u q e j h=>?_),xH fun q _ _ hq=>by
    have e:q=r:=by simpa[iy]using hq
    exact e ▸ hm⟩
   .unfold Fc;split
    .exact .dead u
    .rename_i hq;exact h.Bi (by simp[iy,hq])
   .unfold Fb;split
    .rename_i hq;subst hq;split
     .rename_i he;subst he;obtain⟨m,b,Au,hb,rfl⟩:=h.lG;obtain⟨m',cF,ok⟩:=hi.bq.rows q _ hr;rw[Au]at cF;obtain rfl:=AI cF
      cases ok with
      | box bk bd kC hh hn lV AN=>
       rename_i b' cur;rw[hb]at bk;obtain rfl:=AI bk;have iN:=re mM
       have hlen:cells.length=ds.length:=by rw[iN,aki]
       simp only[ak5,akg];refine .d (.ip (f:=fun i=>cur.getD (j+i) undef) ?_ (abi.1 hh).1 (fun i fc=>?_) fun i d fm=>?_)
       .rintro (hX | ⟨q',m',o5,ZG⟩)
        .exact hi.bq.frame q m b Au hb hX
        .obtain⟨hk,aaz⟩:=kL o5;have:=hi.bq.inj q' q m' m b aaz Au ZG hb;simp[iy,this]at hk
       .simp only[aj5]at fc;rw[cell_of_row w b (j+i) cur ty (0,0) hh];simp[ajF,show j+i < cur.size by omega]
       .have fc:=(BY.1 fm).1;simp only[aj5]at fc;rw[akc]at fm
        have hc:cells[j+i]? = some (.d d):=by rw[iN,ajK,fm];rfl
        have aH:j+i < cur.size:=aa
        have:=lV (j+i) cur[j+i] (.d d) (by simp[aH]) hc;simp only[ajF,aH,ajZ,ak8];exact this.data.sub fun b=>BI
     .exact .dead u
    .rename_i hq;exact h.Bm (by simp[iy,hq])
  .exact⟨μ,hi,.refl _ w μ⟩
 .exact⟨μ,hi,.refl _ w μ⟩
def St.xI (r:Nat) (σ:St):St:=(σ.freeze r).sX r
theorem aM.xI (r:Nat) (hm:Mv r):aM Mv X G N σ (σ.xI r):=(aM.freeze r hm).trans (aM.sX r hm)
theorem aM.nU (i r ty sz:Nat) {e:Env} {H:Heap} (hr:H r=none) (he:e i=some (.d (.sl (some false) []))):aM Mv X G N ⟨e,H⟩ ⟨gS e i (.own r 0 0),aY H r (.sl ty sz [])⟩:=fun w μ a hi=>by
 obtain⟨aO,ev⟩:=hi.alloc (Mv:=Mv) (w':=w) (m:=⟨none,sz,0⟩) hr (cN.refl w) ak (row:=.sl ty sz []) fun _=>.nil rfl rfl;refine⟨dY μ r ⟨none,sz,0⟩,⟨aO.bq,⟨aO.env.defers,aO.env.size,fun j x hx=>?_⟩,aO.jf⟩,ev⟩;simp only[gS]at hx;split at hx
 .rename_i hj;subst hj;obtain rfl:=AI hx;obtain⟨u,hu,gM⟩:=hi.env.slot j _ he;refine⟨u,hu,.own (m:=⟨none,sz,0⟩) (by simp[dY]) (.inl ⟨rfl,?_,rfl,rfl⟩)⟩
  rcases gM.data.rY with⟨rfl,_⟩ | ⟨_,_,_,hk,_⟩
  .rfl
  .exact absurd rfl hk
 .exact aO.env.slot j x hx
end
end Go.Av
namespace Go.Av
theorem WE (a b:Int):(a != b)=decide (¬ a=b):=by by_cases h:a=b<;>simp[h]
theorem Ww (a b:Int):(a == b)=decide (a=b):=by by_cases h:a=b<;>simp[h]
theorem aR {α β:Type} (f:α->β) (l:List α):List.take l.length (List.map f l)=List.map f l:=sh ak
def rowsOf (H:Heap):Nat->AV->List Nat
 | 0,_=>[]
 | _+1,.own r _ _=>[r]
 | k+1,.ref r _ _=>match H r with
  | some (.box _ cells)=>go H k cells ++ [r]
  | _=>[]
 | k+1,.agg cells=>go H k cells
 | k+1,.cf _ x=>rowsOf H k x
 | _+1,_=>[]
where
 go (H:Heap) (k:Nat):List AV->List Nat
 | []=>[]
 | x :: l=>rowsOf H k x ++ go H k l
def sf:List Nat->St->St
 | [],σ=>σ
 | r :: l,σ=>sf l (σ.xI r)
def Bj (G:ay) (o:Oper) (σ:St):St:=match o.op with
 | .buildSlice _ _ parts=>match nw G σ.env parts.toList with
  | some ps=>sf (rowsOf.go σ.H 6 (ps.map (·.2))) σ
  | none=>σ
 | .mapUpdate _ _ _ v=>match bC G σ.env v with
  | some x=>sf (rowsOf σ.H 6 x) σ
  | none=>σ
 | .insert _ _ _ v=>match bC G σ.env v with
  | some x=>sf (rowsOf σ.H 6 x) σ
  | none=>σ
 | _=>σ
def Hc (G:ay) (o:Oper) (σ:St):List Nat:=match o.op with
 | .buildSlice _ _ parts=>match nw G σ.env parts.toList with
  | some ps=>rowsOf.go σ.H 6 (ps.map (·.2))
  | none=>[]
 | .mapUpdate _ _ _ v=>match bC G σ.env v with
  | some x=>rowsOf σ.H 6 x
  | none=>[]
 | .insert _ _ _ v=>match bC G σ.env v with
  | some x=>rowsOf σ.H 6 x
  | none=>[]
 | _=>[]
def cX (P:Program) (Mv X:Nat->Prop) (G:ay) (N:Fr) (g:FuncId) (xs:List AV) (σ:St) (dst:Option Tmp) (next:St->Prop):Prop:=
 l8 P Mv X G N g xs σ fun x aG=>next ⟨aL aG.env dst x,aG.H⟩
def nX (P:Program) (G:ay) (c:Call) (σ:St) (dst:Option Tmp) (next:St->Prop):Prop:=∃ y,BQ P G σ c y/\next ⟨aL σ.env dst (.d y),σ.H⟩
def sV (P:Program) (T:Ty) (Mv X:Nat->Prop) (G:ay) (N:Fr) (o:Oper) (σ:St) (next:St->Prop):Prop:=match dP o.op with
 | some c=>match kr G σ.env c with
  | some (g,xs)=>cX P Mv X G N g xs σ o.dst next
  | none=>False
 | none=>(∀ r∈Hc G o σ,Mv r)/\qT T G Mv o (Bj G o σ) next
def kM (P:Program) (T:Ty) (Mv X:Nat->Prop) (G:ay) (N:Fr) (ops:Array Oper) (K:St->Prop):List Oper->St->Prop
 | [],σ=>K σ
 | o :: rest,σ=>eI N o/\match jb ops σ.env o with
  | some b=>if b=true then sV P T Mv X G N o σ (kM P T Mv X G N ops K rest) else kM P T Mv X G N ops K rest ⟨aL σ.env o.dst da,σ.H⟩
  | none=>False
def pw (P:Program) (T:Ty) (Mv:Nat->Prop) (G:ay) (N:Fr) (ops:Array Oper) (K:St->Prop):List Oper->St->Prop
 | [],σ=>K σ
 | o :: rest,σ=>eI N o/\match jb ops σ.env o with
  | some b=>if b=true then (match dP o.op with
    | some c=>nX P G c σ o.dst (pw P T Mv G N ops K rest)
    | none=>qT T G Mv o σ (pw P T Mv G N ops K rest)) else pw P T Mv G N ops K rest ⟨aL σ.env o.dst da,σ.H⟩
  | none=>False
section
variable {P:Program} {T:Ty} {Mv X:Nat->Prop} {G:ay} {N:Fr} {w:World} {μ:Mu} {a:Act} {σ:St}
theorem UI {ops:Array Oper} {K:St->Prop}:∀ (l:List Oper),pw P T Mv G N ops K l=xd P T Mv G N ops K l
 | []=>rfl
 | o :: l=>by
  funext σ;simp only[pw,xd,nX,UI l]
  all_goals rfl
theorem aM.sf:∀ (l:List Nat) {σ:St},(∀ r∈l,Mv r)->aM Mv X G N σ (Go.Av.sf l σ)
 | [],σ,_=>.refl σ
 | r :: l,_,hm=>(aM.xI r (hm r ak)).trans (aM.sf l fun q hq=>hm q (by simp[hq]))
theorem aM.Bj (o:Oper) (hm:∀ r∈Hc G o σ,Mv r):aM Mv X G N σ (Go.Av.Bj G o σ):=by
 unfold Go.Av.Bj;unfold Hc at hm;split
 .rename_i ho;simp only[ho]at hm;split
  .rename_i hp;simp only[hp]at hm;exact .sf _ hm
  .exact .refl σ
 .rename_i ho;simp only[ho]at hm;split
  .rename_i hp;simp only[hp]at hm;exact .sf _ hm
  .exact .refl σ
 .rename_i ho;simp only[ho]at hm;split
  .rename_i hp;simp only[hp]at hm;exact .sf _ hm
  .exact .refl σ
 .exact .refl σ
theorem E4 (hg:Good P T) (hi:In w X G μ N a σ) {o:Oper} {K:St->Prop} (hd:∀ d,o.dst=some d->d < N.n) (h:sV P T Mv X G N o σ K) {Q:Exit->Act->World->Prop} {next:Act->World->Prop}
  (hk:∀ w' aI a' aG,K aG->In w' X G aI N a' aG->Ev Mv w μ w' aI->next a' w'):o.wpIn (wd N.ro) 0 P a w next Q:=by
 unfold sV at h;split at h
 .rename_i c hc;refine B3 (Mv:=Mv) hg hi hd ?_ hk;unfold mH;rw[hc];dsimp only;split at h
  .rename_i ht;rw[ht];exact h
  .exact h.elim
 .rename_i hc;obtain⟨l4,gx,se⟩:=aM.Bj (Mv:=Mv) (X:=X) o h.1 w μ a hi;refine B3 (Mv:=Mv) hg gx (K:=K) hd ?_ fun w' aI a' aG k aO aW=>hk w' aI a' aG k aO (se.trans aW);unfold mH;rw[hc];exact h.2
theorem ahc (hg:Good P T) {ops:Array Oper} {Q:Exit->St->Prop} {w0:World} {lh:Mu}:∀ (l:List Oper) (k:Nat) (w:World) (μ:Mu) (a:Act) (σ:St),(∀ j,l[j]? = ops[k+j]?)->kM P T Mv X G N ops (fun aG=>Q .normal aG) l σ->In w X G μ N a σ->Ev Mv w0 lh w μ->
  wpOpsIn (wd N.ro) 0 P ops (After Mv X G N w0 lh Q) (List.range' k l.length) a w:=by
 intro l
 induction l with
 | nil=>intro k w μ a σ _ h hi aW;exact⟨μ,σ,h,hi,aW⟩
 | cons o l ih=>
  intro k w μ a σ hl h hi aW
  have h0:ops[k]? = some o:=by simpa using (hl 0).symm
  have fo:∀ j,l[j]? = ops[k+1+j]?:=fun j=>by have:=hl (j+1);simpa[akv,ala 1 j]using this
  obtain⟨hd,h⟩:=h
  have fm:∀ d,o.dst=some d->d < N.n:=fun d e=>by unfold eI at hd;rw[e]at hd;exact hd
  rw[ajP,alq];simp only[wpOpsIn,h0];split at h
  .rename_i b hb;rw[tS hi hb];split at h
   .rename_i qz;subst qz;rw[if_pos rfl];exact (E4 hg hi fm h fun w' aI a' aG k' aO mb=>ih (k+1) w' aI a' aG fo k' aO (aW.trans mb))
   .rename_i pI;rw[if_neg (by simpa using pI)];exact⟨fun _ _=>trivial,ih (k+1) w μ _ _ fo h (hi.put (.d (.v _)) fm) aW⟩
  .exact h.elim
theorem NL (hg:Good P T) {id:Nat} {ops:Array Oper} {Q:Exit->St->Prop} (h:kM P T Mv X G N ops (fun aG=>Q .normal aG) ops.toList σ):AW P Mv X G N (.region id ops false) Q σ:=fun w μ a hi=>by
 refine wpIn_region ?_;have:=ahc hg ops.toList 0 w μ a σ ak h hi (.refl _ w μ)
 rwa [<- alg,aj8]at this
theorem NK (hg:Good P T) (hm:P.follows .mixedOrders=true) {id:Nat} {ops:Array Oper} (bX:rT ops=true) {Q:Exit->St->Prop} (h:pw P T Mv G N ops (fun aG=>Q .normal aG) ops.toList σ):AW P Mv X G N (.region id ops true) Q σ:=by
 rw[UI]at h;exact Vy hg hm bX h
theorem AW.norm (l ns:List Nat) (hM:∀ r,ns.contains r=false->Mv r) {c:Code} {Q:Exit->St->Prop} (h:AW P Mv X G N c Q (σ.norm l ns)):AW P Mv X G N c Q σ:=AW.imp (aM.norm l ns hM) h
theorem AW.st {τ:St} {c:Code} {Q:Exit->St->Prop} (h:σ=τ) (h':AW P Mv X G N c Q τ):AW P Mv X G N c Q σ:=h ▸ h'
theorem AW.Mb (i:Nat) {e:Env} {H:Heap} {els:List (List D)} {c:Code} {Q:Exit->St->Prop} (he:e i=some (.d (.sl none els))) (h1:AW P Mv X G N c Q ⟨gS e i (.d (.sl (some true) els)),H⟩)
  (h2:els=[]->AW P Mv X G N c Q ⟨gS e i (.d (.sl (some false) [])),H⟩):AW P Mv X G N c Q ⟨e,H⟩:=fun w μ a hi=>by
 obtain⟨u,hu,hr⟩:=hi.env.slot i _ he
 have put:∀ {y:D},RD w (XX X μ) u y->In w X G μ N a ⟨gS e i (.d y),H⟩:=fun hy=>⟨hi.bq,⟨hi.env.defers,hi.env.size,fun j x hx=>by
  simp only[gS]at hx;split at hx
  .rename_i hj;subst hj;obtain rfl:=AI hx;exact⟨u,hu,.d hy⟩
  .exact hi.env.slot j x hx⟩,hi.jf⟩
 have hd:=hr.data;generalize hy:D.sl none els=y at hd
 cases hd with
 | nil hk=>cases hy;exact h2 rfl w μ a (put (.nil ak))
 | empty hk hm=>cases hy;exact h1 w μ a (put (.empty ak hm))
 | sl a1 a2 a3 a4 a5 a6 a7 a8 a9 VL=>cases hy;exact h1 w μ a (put (.sl ak a2 a3 a4 a5 a6 a7 a8 a9 VL))
 | _=>cases hy
theorem Vz (hg:Good P T) (l ns:List Nat) (hM:∀ r,ns.contains r=false->Mv r) {id:Nat} {ops:Array Oper} {y:Code} {Q:Exit->St->Prop} (h:∀ K:St->Prop,(∀ τ:St,AW P Mv X G N y Q (τ.norm l ns)->K τ)->kM P T Mv X G N ops K ops.toList σ):AW P Mv X G N (.seq (.region id ops false) y) Q σ:=
 sK (NL hg (h _ fun _ h=>h.norm l ns hM))
theorem rg {P:Program} {Mv X:Nat->Prop} {G:ay} {N:Fr} {σ:St} (l ns:List Nat) (hM:∀ r,ns.contains r=false->Mv r) {id:Nat} {ops:Array Oper} {y:Code} {Q:Exit->St->Prop} (h:∀ K:St->Prop,(∀ τ:St,AW P Mv X G N y Q (τ.norm l ns)->K τ)->kM P (cJ P) Mv X G N ops K ops.toList σ):AW P Mv X G N (.seq (.region id ops false) y) Q σ:=Vz (aC _) l ns hM h
theorem tY (hg:Good P T) (hm:P.follows .mixedOrders=true) (l ns:List Nat) (hM:∀ r,ns.contains r=false->Mv r) {id:Nat} {ops:Array Oper} (bX:rT ops=true) {y:Code} {Q:Exit->St->Prop} (h:∀ K:St->Prop,(∀ τ:St,AW P Mv X G N y Q (τ.norm l ns)->K τ)->pw P T Mv G N ops K ops.toList σ):AW P Mv X G N (.seq (.region id ops true) y) Q σ:=
 sK (NK hg hm bX (h _ fun _ h=>h.norm l ns hM))
theorem fH (hg:Good P T) {id:Nat} {ops:Array Oper} {Q:Exit->St->Prop} (h:∀ K:St->Prop,(∀ τ:St,Q .normal τ->K τ)->kM P T Mv X G N ops K ops.toList σ):AW P Mv X G N (.region id ops false) Q σ:=
 NL hg (h _ fun _ h=>h)
theorem BB (hg:Good P T) (hm:P.follows .mixedOrders=true) {id:Nat} {ops:Array Oper} (bX:rT ops=true) {Q:Exit->St->Prop} (h:∀ K:St->Prop,(∀ τ:St,Q .normal τ->K τ)->pw P T Mv G N ops K ops.toList σ):AW P Mv X G N (.region id ops true) Q σ:=
 NK hg hm bX (h _ fun _ h=>h)
def Ho (T:Ty) (σ:St):ResultVar->k8
 | .tmp t=>(σ.env t).map fun x=>(True,x)
 | .cell a t=>(σ.env a).bind (oF T σ.H t)
def w6 (T:Ty) (σ:St):List ResultVar->Option (Prop×List AV)
 | []=>some (True,[])
 | r :: l=>match Ho T σ r,w6 T σ l with
  | some (c,x),some (c',xs)=>some (c/\c',x :: xs)
  | _,_=>none
def oneOf:List AV->AV
 | [x]=>x
 | l=>DA l
def D.le:D->D->Prop
 | .sl k els,.sl k' oQ=>(k'=none\/k=k')/\els=oQ
 | .bz l,.bz l'=>go l l'
 | .agg l,.agg l'=>go l l'
 | .ip l,.ip l'=>go l l'
 | .cf t x,.cf t' x'=>t=t'/\x.le x'
 | .fn f l,.fn f' l'=>f=f'/\go l l'
 | .dm x l,.dm x' l'=>(x'=true->x=true/\l=l')/\l.Perm l'
 | x,y=>x=y
where
 go:List D->List D->Prop
 | [],[]=>True
 | x :: l,y :: l'=>x.le y/\go l l'
 | _,_=>False
def zN (T:Ty) (rs:List ResultVar) (y:D) (σ:St):Prop:=match w6 T σ rs with
 | some (c,xs)=>c/\match fW σ.H 6 (oneOf xs) with
  | some y'=>y'.le y
  | none=>False
 | none=>False
def Ip (T:Ty) (rs:List ResultVar) (y:D):Exit->St->Prop
 | .normal,σ | .ret,σ=>zN T rs y σ
 | _,_=>False
theorem D.yR:∀ {l l':List D},D.le.go l l'->l.length=l'.length/\∀ (j:Nat) (x y:D),l[j]? = some x->l'[j]? = some y->x.le y
 | [],[],_=>⟨rfl,ak⟩
 | x :: l,y :: l',h=>by
  simp only[D.le.go]at h;obtain⟨h1,h2⟩:=D.yR h.2;refine⟨by simp[h1],fun j a b ha hb=>?_⟩
  cases j with
  | zero=>simp at ha hb;subst ha hb;exact h.1
  | succ j=>simp at ha hb;exact h2 j a b ha hb
 | [],_ :: _,h=>by simp only[D.le.go]at h
 | _ :: _,[],h=>by simp only[D.le.go]at h
theorem D.Dr {l l':List D} (hg:D.le.go l l') {j:Nat} {c:D} (hc:l'[j]? = some c):∃ x,l[j]? = some x/\x.le c:=by
 obtain⟨hl,hh⟩:=D.yR hg;have hj:=(BY.1 hc).1
 have c6:j < l.length:=aa
 exact⟨l[j],by simp[c6],hh j _ c (by simp[c6]) hc⟩
theorem RD.le {w:World} {X:Nat->Prop} {u:Value} {x:D} (hr:RD w X u x):∀ {y:D},x.le y->RD w X u y:=by
 induction hr with
 | v x=>intro y h;cases y<;>simp only[D.le,reduceCtorEq]at h;exact h ▸ .v x
 | nil hk=>
  intro y h;cases y<;>simp only[D.le,reduceCtorEq]at h;obtain⟨h1 | h1,rfl⟩:=h
  .exact .nil (by simp[h1])
  .exact .nil (h1 ▸ hk)
 | empty hk hm=>
  intro y h;cases y<;>simp only[D.le,reduceCtorEq]at h;obtain⟨h1 | h1,rfl⟩:=h
  .exact .empty (by simp[h1]) hm
  .exact .empty (h1 ▸ hk) hm
 | sl h1 h2 h3 h4 h5 h6 h7 h8 h9 Fl=>
  intro y h;cases y<;>simp only[D.le,reduceCtorEq]at h;obtain⟨e1 | e1,rfl⟩:=h
  .exact .sl (by simp[e1]) h2 h3 h4 h5 h6 h7 h8 h9 Fl
  .exact .sl (e1 ▸ h1) h2 h3 h4 h5 h6 h7 h8 h9 Fl
 | ip hX hb fb hr ih=>
  intro y h;cases y<;>simp only[D.le,reduceCtorEq]at h;obtain⟨hl,_⟩:=D.yR h;refine .ip hX hb (fun j hj=>fb j aa) fun j c hc=>?_;obtain⟨x,hx,hle⟩:=D.Dr h hc;exact ih j x hx hle
 | agg hn hr ih=>
  intro y h;cases y<;>simp only[D.le,reduceCtorEq]at h;obtain⟨hl,_⟩:=D.yR h;refine .agg aa fun j u c hu hc=>?_;obtain⟨x,hx,hle⟩:=D.Dr h hc;exact ih j u x hu hx hle
 | bz hn hr ih=>
  intro y h;cases y<;>simp only[D.le,reduceCtorEq]at h;obtain⟨hl,_⟩:=D.yR h;refine .bz aa fun j u c hu hc=>?_;obtain⟨x,hx,hle⟩:=D.Dr h hc;exact ih j u x hu hx hle
 | cf hr ih=>
  intro y h;cases y<;>simp only[D.le,reduceCtorEq]at h;obtain⟨rfl,h⟩:=h;exact .cf (ih h)
 | qe hX hh=>
  intro y h;cases y<;>simp only[D.le,reduceCtorEq]at h;injection h with h;exact h ▸ .qe hX hh
 | dm hX hh hp hx=>
  intro y h;cases y<;>simp only[D.le,reduceCtorEq]at h;exact .dm hX hh (hp.trans h.2) fun e=>(hx (h.1 e).1).trans (h.1 e).2
 | fn hn hr ih=>
  intro y h;cases y<;>simp only[D.le,reduceCtorEq]at h;obtain⟨rfl,h⟩:=h;obtain⟨hl,_⟩:=D.yR h;refine .fn aa fun j u c hu hc=>?_;obtain⟨x,hx,hle⟩:=D.Dr h hc;exact ih j u x hu hx hle
theorem aD.vx {g:FuncId} {ds iM:List D} {y:D} (hc:aD P G g ds y) (h:D.le.go iM ds):aD P G g iM y:=by
 refine⟨hc.1,fun X w μ vs hs dt hn hv=>hc.2 X w μ vs hs dt (by simpa[(D.yR h).1]using hn) fun i u x hu hx=>?_⟩;rw[ajK]at hx;obtain⟨d,hd,rfl⟩:=AS.1 hx;obtain⟨x,hx,hle⟩:=D.Dr h hd;exact .d ((hv i u (.d x) hu (by rw[ajK,hx];rfl)).data.le hle)
theorem cX.data {g:FuncId} {xs:List AV} {ds iM:List D} {y:D} {dst:Option Tmp} {next:St->Prop} (hc:aD P G g ds y) (hx:l5 xs=some iM) (hle:D.le.go iM ds) (h:next ⟨aL σ.env dst (.d y),σ.H⟩):cX P Mv X G N g xs σ dst next:=by
 unfold cX;rw[re hx];exact l8.pure (hc.vx hle) h
theorem rX {g:FuncId} {xs:List AV} {ds iM:List D} {y:D} {dst:Option Tmp} {next:St->Prop} (hc:aD P G g ds y) (hx:l5 xs=some iM) (h:next ⟨aL σ.env dst (.d y),σ.H⟩) (hle:D.le.go iM ds:=by first | exact D.bR _ | simp[aR,ajN,ajG,D.le,D.le.go,D.le_refl,D.bR]):cX P Mv X G N g xs σ dst next:=cX.data hc hx hle h
theorem cX.sB {g:FuncId} {xs:List AV} {ds iM:List D} {y:D} {dst:Option Tmp} {next:St->Prop} (hc:aD P G g ds y) (hx:l6 (fW σ.H 4) xs=some iM) (hle:D.le.go iM ds) (hy:y.scalar=true) (h:next ⟨aL σ.env dst (.d y),σ.H⟩):cX P Mv X G N g xs σ dst next:=
 l8.sB hx (hc.vx hle) hy h
theorem nX.data {c:Call} {g:FuncId} {xs:List AV} {ds iM:List D} {y:D} {dst:Option Tmp} {next:St->Prop} (hc:aD P G g ds y) (ht:kr G σ.env c=some (g,xs)) (hx:l5 xs=some iM) (hle:D.le.go iM ds) (h:next ⟨aL σ.env dst (.d y),σ.H⟩):nX P G c σ dst next:=
 ⟨y,⟨g,xs,ht,.inl ⟨iM,re hx,hc.vx hle⟩⟩,h⟩
theorem N0 (H:Heap) (k:Nat):∀ (ds:List D),l6 (fW H k) (ds.map .d)=some ds
 | []=>rfl
 | d :: ds=>by simp[l6,N0 H k ds];cases k<;>simp[fW]
theorem D.le_refl (x:D):x.le x:=by
 have key:∀ n,∀ x:D,SizeOf.sizeOf x < n->x.le x:=by
  intro n
  induction n with
  | zero=>intro x h;omega
  | succ n ih=>
   intro x h
   have go:∀ l:List D,SizeOf.sizeOf l < n->D.le.go l l:=by
    intro l
    induction l with
    | nil=>intro _;simp[D.le.go]
    | cons y l Dk=>
     intro hl;simp only[List.cons.sizeOf_spec]at hl;exact⟨ih y aa,Dk aa⟩
   cases x<;>simp only[D.le]<;>simp at h ⊢
   .exact go _ aa
   .exact go _ aa
   .exact go _ aa
   .exact ih _ aa
   .exact go _ aa
 exact key _ x (Nat.lt_succ_self _)
theorem D.bR:∀ l:List D,D.le.go l l
 | []=>trivial
 | x :: l=>⟨D.le_refl x,D.bR l⟩
theorem aew (hg:Good P T) (hi:In w X G μ N a σ) {r:ResultVar} {c:Prop} {x:AV} (h:Ho T σ r=some (c,x)) (hc:c) :
  ∃ v,(match r with | .tmp t=>(pure (a.tmps.getD t undef):Sem Value) | .cell b t=>do loadVar t (<- asAddr (a.tmps.getD b undef))).run P w = .ok v w/\RV w X μ v x:=by
 cases r with
 | tmp t=>
  simp only[Ho,AS,ajH]at h;obtain⟨y,hy,_,rfl⟩:=h;obtain⟨u,hu,hr⟩:=hi.env.slot t y hy;exact⟨u,by simp[ajF,hu],hr⟩
 | cell b t=>
  obtain⟨y,hy,hl⟩:=ajY.1 h;obtain⟨u,hu,hr⟩:=hi.env.slot b y hy;obtain⟨v,hv,gM⟩:=R6 (P:=P) hg hi.bq hl hc hr;refine⟨v,?_,gM⟩
  have e:a.tmps.getD b undef=u:=by simp[ajF,hu]
  dsimp only;rw[e];unfold oF at hl;split at hl
  .obtain⟨b,off,f,rfl,_⟩:=hr.data.rN;simpa[Instr.loadAt,Instr.sureAddr,asAddr]using hv
  .obtain⟨m,b,hm,hb,rfl⟩:=hr.lG;simpa[Instr.loadAt,Instr.sureAddr,asAddr]using hv
  .cases hl
theorem aeu (hg:Good P T) (hi:In w X G μ N a σ):∀ {rs:List ResultVar} {c:Prop} {xs:List AV},w6 T σ rs=some (c,xs)->c->
  ∃ vs:List Value,(rs.mapM (m:=Sem) fun | .tmp t=>pure (a.tmps.getD t undef) | .cell b t=>do loadVar t (<- asAddr (a.tmps.getD b undef))).run P w = .ok vs w/\vs.length=xs.length/\∀ (j:Nat) (u:Value) (x:AV),vs[j]? = some u->xs[j]? = some x->RV w X μ u x:=by
 intro rs
 induction rs with
 | nil=>
  intro c xs h hc;simp only[w6,IS,ajH]at h;obtain⟨_,rfl⟩:=h;exact⟨[],ak,rfl,ak⟩
 | cons r rs ih=>
  intro c xs h hc;simp only[w6]at h;split at h
  .rename_i c1 x c2 Vf h1 h2;obtain⟨rfl,rfl⟩:=eh h;obtain⟨v,hv,hr⟩:=aew (P:=P) hg hi h1 hc.1;obtain⟨vs,Li,hl,mj⟩:=ih h2 hc.2;refine⟨v :: vs,?_,by simp[hl],fun j u x hu hx=>?_⟩
   .rw[List.mapM_cons,Sem.run_bind,hv,Result.andThen_ok,Sem.run_bind,Li,Result.andThen_ok,Sem.run_pure]
   .cases j with
    | zero=>simp at hu hx;subst hu hx;exact hr
    | succ j=>simp at hu hx;exact mj j u x hu hx
  .cases h
theorem MJ (hg:Good P T) (hi:In w X G μ N a σ) {fn:Func} {rs:List ResultVar} (mj:fn.results=rs.toArray) {c:Prop} {xs:List AV} (h:w6 T σ rs=some (c,xs)) (hc:c) :
  ∃ v,(results fn a.tmps).run P w = .ok v w/\RV w X μ v (oneOf xs):=by
 obtain⟨vs,Li,hl,hr⟩:=aeu (P:=P) hg hi h hc;refine⟨if h:vs.toArray.size=1 then vs.toArray[0] else .tuple vs.toArray,?_,?_⟩
 .unfold results;rw[mj,Array.mapM_eq_mapM_toList,Sem.run_bind];simp only[map_eq_pure_bind,Sem.run_bind]
  erw[Li]
  rfl
 .match xs,vs,hl,hr with
  | [],[],_,hr=>exact GR (l:=[]) (.bz (arr:=#[]) (cells:=[]) rfl ak)
  | [x],[v],_,hr=>exact hr 0 v x rfl rfl
  | x :: y :: xs,v :: u :: vs,hl,hr=>
   have:¬ (v :: u :: vs).toArray.size=1:=ak
   rw[dif_neg this];exact GR (.bz (by simpa using hl) fun j u c hu hc=>hr j u c (by simpa using hu) hc)
theorem aD.aQ (hg:Good P T) {g:FuncId} {fn:Func} {c:Code} {rs:List ResultVar} {ds:List D} {y:D} (hf:P.funcs[g]? = some fn) (hb:fn.body=some c) (hn:(fn.name == "runtime.NumGoroutine")=false) (mj:fn.results=rs.toArray)
  (hN:ds.length<=fn.ntmps) (h:∀ X,AW P (fun _=>True) X G ⟨fn.ntmps,[],none⟩ c (Ip T rs y) ⟨args (ds.map .d),jj⟩):aD P G g ds y:=by
 refine⟨iA.of hf hb hn,fun X w μ vs hs dt bd hv=>?_⟩
 have fin:∀ (w':World) (aI:Mu) (a':Act) (aG:St),zN T rs y aG->In w' X G aI ⟨fn.ntmps,[],none⟩ a' aG->Ev (fun _=>True) w μ w' aI->∃ v,(results fn a'.tmps).run P w' = .ok v w'/\∃ v_1 x H' aI,Ending.returned v=Ending.returned v_1/\(x = .d y/\H'=jj)/\RV w' X aI v_1 x/\eA w' X aI H'/\Ev (fun _=>True) w μ w' aI:=by
  intro w' aI a' aG he hi aW;unfold zN at he;split at he
  .rename_i c xs hx;obtain⟨hc,he⟩:=he;split at he
   .rename_i y' hy;obtain⟨v,hv,hr⟩:=MJ (P:=P) hg hi mj hx hc;have bY:=(Ez hi.bq 6 hy hr).le he;refine⟨v,hv,v,.d y,jj,fun _=>none,rfl,⟨rfl,rfl⟩,.d (bY.sub fun b=>pz.1),eA.none hi.bq.fits,aW.size,aW.os,aW.tape,aW.output,fun b hb hr=>⟨(aW.same b hb hr).1,fun ⟨_,_,h,_⟩=>by cases h⟩,fun r m _ hn=>absurd trivial hn⟩
   .exact he.elim
  .exact he.elim
 refine calls_of_wp hf hb ((wpIn_wide (n:=0)).1 (wpIn_mono (h X w μ _ ⟨hs,⟨rfl,by simp;simp at bd;omega,fun i x hx=>?_⟩,dt⟩) fun e a' w' ⟨aI,aG,q,i,ev⟩=>?_))
 .simp only[args]at hx;have hi:i < (ds.map AV.d).length:=(BY.1 hx).1
  have wF:vs[i]? = some vs[i]:=by rw[ajZ]
  exact⟨vs[i],by rw[akm aa,wF],hv i _ x wF hx⟩
 .cases e with
  | normal=>
   obtain⟨v,hv,rest⟩:=fin w' aI a' aG q i ev;exact⟨i.env.defers,v,hv,rest⟩
  | ret=>
   obtain⟨v,hv,rest⟩:=fin w' aI a' aG q i ev;exact⟨i.env.defers,v,hv,rest⟩
  | _=>exact q.elim
end
end Go.Av
namespace Go.Av
section
variable {P:Program} {T:Ty} {Mv X:Nat->Prop} {G:ay} {N:Fr} {ops:Array Oper}
def zx (o:Oper):Option (Operand×Operand):=match o.op with
 | .call { callee:=.builtin .append,args,argTypes }=>match args.toList,argTypes.toList with
  | [x,y],[t,t']=>if t=t' then some (x,y) else none
  | _,_=>none
 | _=>none
def Ey (T:Ty) (Mv:Nat->Prop) (o:Oper) (r off n ty sz:Nat) (els news:List (List D)):Option (Prop×Nat×Row):=match o.op,o.dst with
 | .call { callee:=.builtin .append,args,argTypes },some _=>match args.toList,argTypes.toList with
  | [_,_],[t,t']=>if t=t' then match T t with
   | some tt=>match tt.desc with
    | .slice e=>match T e with
     | some te=>some (off=0/\Mv r/\ty=e/\sz=te.size/\n<=els.length/\(∀ el∈news,el.length=te.size)/\(∀ el∈news,∀ c∈el,D.one c=true)/\0 < te.size/\(gg te.zero).length=te.size/\n+news.length<=9223372036854775807/\(n+news.length) * te.bytes<=140737488355328,
       n+news.length,.sl e te.size (els.take n ++ news))
     | none=>none
    | _=>none
   | none=>none
  else none
  | _,_=>none
 | _,_=>none
def uG (s:Nat):AV->Prop
 | .own q _ _=>q=s
 | _=>True
def kQ (T:Ty) (G:ay) (Mv:Nat->Prop) (o:Oper) (e:Env) (H:Heap) (r s m:Nat) (row:Row):Prop:=
 ∃ x y off n v ty sz els news c,zx o=some (x,y)/\bC G e x=some (.own r off n)/\bC G e y=some v/\uG s v/\H r=some (.sl ty sz els)/\my H r v=some news/\Ey T Mv o r off n ty sz els news=some (c,m,row)/\c
theorem Ij {o:Oper} {x y:Operand} (h:zx o=some (x,y)):∃ t t',o.op = .call { callee:=.builtin .append,args:=#[x,y],argTypes:=#[t,t'] }/\t=t':=by
 unfold zx at h;split at h
 .rename_i args argTypes jN;split at h
  .rename_i x' y' t t' ha ht;split at h
   .rename_i du;obtain⟨rfl,rfl⟩:=eh h;have e1:args = #[x',y']:=akl.1 ha;have e2:argTypes = #[t,t']:=akl.1 ht;exact⟨t,t',by rw[jN,e1,e2],du⟩
   .cases h
  .cases h
 .cases h
theorem kQ.row {o:Oper} {e:Env} {H:Heap} {r s m:Nat} {row:Row} (h:kQ T G Mv o e H r s m row):(∃ ty sz els,row = .sl ty sz els)/\(∃ ty sz els,H r=some (.sl ty sz els))/\(∃ d,o.dst=some d):=by
 obtain⟨x,y,off,n,v,ty,sz,els,news,c,h1,h2,h3,h4,h5,h6,h7,h8⟩:=h;unfold Ey at h7
 repeat' split at h7
 all_goals first
  | cases h7;done
  | (simp only [IS, ajH] at h7
     obtain⟨_,_,rfl⟩:=h7
     exact⟨⟨_,_,_,rfl⟩,⟨_,_,_,h5⟩,⟨_,by assumption⟩⟩)
theorem kQ.to {o:Oper} {e:Env} {H:Heap} {r s m:Nat} {row:Row} (h:kQ T G Mv o e H r s m row):n5 P T Mv G o ⟨e,H⟩ ⟨aL (ef r e) o.dst (.own r 0 m),aY (eg r H) r row⟩:=by
 obtain⟨x,y,off,n,v,ty,sz,els,news,c,h1,h2,h3,h4,h5,h6,h7,h8⟩:=h;obtain⟨t,t',jN,Gh⟩:=Ij h1;obtain⟨dst,op,type,pos,after,guard⟩:=o;dsimp only at jN;subst jN;unfold n5;simp only[dP,gE,if_true];unfold Ey at h7;dsimp only at h7
 cases dst with
 | none=>cases h7
 | some d=>
  simp only[List.toList_toArray]at h7;refine⟨c,.own r 0 m,⟨ef r e,aY (eg r H) r row⟩,?_,h8,rfl⟩;unfold wr;dsimp only;subst Gh;rw[if_pos rfl]at h7;split at h7
  .rename_i tt hT;split at h7
   .rename_i E0 hd;split at h7
    .rename_i te cQ;obtain⟨rfl,rfl,rfl⟩:=mB h7;simp[hT,hd,cQ,h2,h3,h5,h6]
    .cases h7
   .cases h7
  .cases h7
theorem kQ.of {o:Oper} {e:Env} {H:Heap} {r s off n:Nat} {x y:Operand} {v:AV} {c:Prop} {z:AV} {aT:St} (ho:zx o=some (x,y)) (hx:bC G e x=some (.own r off n)) (hy:bC G e y=some v) (hs:uG s v) (h:wr T G Mv ⟨e,H⟩ o=some (c,z,aT)) (hc:c) :
  ∃ m row,kQ T G Mv o e H r s m row/\z = .own r 0 m/\aT=⟨ef r e,aY (eg r H) r row⟩:=by
 obtain⟨t,t',jN,Gh⟩:=Ij ho;obtain⟨dst,op,type,pos,after,guard⟩:=o;dsimp only at jN;subst jN;unfold wr at h;dsimp only at h
 cases dst with
 | none=>cases h
 | some d=>
  dsimp only at h;split at h
  .rename_i du;subst du
   cases hT:T t with
   | none=>simp[hT]at h
   | some tt=>
    simp only[hT]at h;split at h
    .rename_i E0 hd
     cases cQ:T E0 with
     | none=>simp[cQ]at h
     | some te=>
      simp only[cQ,hx,hy]at h;split at h
      .rename_i ty sz els news h1 h2;obtain⟨rfl,rfl,rfl⟩:=mB h;exact⟨_,_,⟨x,y,off,n,v,ty,sz,els,news,_,ho,hx,hy,hs,h1,h2,by simp[Ey,hT,hd,cQ],hc⟩,rfl,rfl⟩
      .cases h
    .cases h
  .rename_i bf;exact absurd Gh bf
theorem SA {H H2:Heap} {r s:Nat} {v:AV} (hs:uG s v) (hH:H2 s=H s):my H2 r v=my H r v:=by
 cases v with
 | own q off n=>
  simp only[uG]at hs;subst hs;simp only[my,hH]
 | d x=>cases x<;>rfl
 | _=>rfl
theorem kQ.congr {o:Oper} {e e2:Env} {H H2:Heap} {r s m:Nat} {row:Row} (h:kQ T G Mv o e H r s m row) (ha:gq o.op e e2) (hr:H2 r=H r) (hs:H2 s=H s):kQ T G Mv o e2 H2 r s m row:=by
 obtain⟨x,y,off,n,v,ty,sz,els,news,c,h1,h2,h3,h4,h5,h6,h7,h8⟩:=h;obtain⟨t,t',jN,Gh⟩:=Ij h1;have hx:∀ t,x = .tmp t->e t=e2 t:=fun t ht=>ha t (by rw[jN];simp[Op.operands,Call.operands,ht]);have hy:∀ t,y = .tmp t->e t=e2 t:=fun t ht=>ha t (by rw[jN];simp[Op.operands,Call.operands,ht]);exact⟨x,y,off,n,v,ty,sz,els,news,c,h1,by rw[<- e8 hx];exact h2,by rw[<- e8 hy];exact h3,h4,by rw[hr];exact h5,by rw[SA h4 hs];exact h6,h7,h8⟩
theorem AV.GD (r r':Nat) (x:AV):(x.kill r).kill r'=(x.kill r').kill r:=by
 have key:∀ n,∀ x:AV,SizeOf.sizeOf x < n->(x.kill r).kill r'=(x.kill r').kill r:=by
  intro n
  induction n with
  | zero=>intro x h;omega
  | succ n ih=>
   intro x h
   have go:∀ l:List AV,SizeOf.sizeOf l < n->(l.map (AV.kill r)).map (AV.kill r')=(l.map (AV.kill r')).map (AV.kill r):=by
    intro l
    induction l with
    | nil=>intro _;rfl
    | cons y l Dk=>
     intro hl;simp only[List.cons.sizeOf_spec]at hl;simp only[aj6,alh];exact⟨ih y aa,Dk aa⟩
   cases x with
   | d x=>simp[AV.kill]
   | own q off n=>by_cases h1:q=r<;>by_cases h2:q=r'<;>simp[AV.kill,h1,h2]<;>(try (by_cases h3:r=r'<;>simp[AV.kill,h3]))<;>(try simp_all [AV.kill])
   | ref q e j=>by_cases h1:q=r<;>by_cases h2:q=r'<;>simp[AV.kill,h1,h2]<;>(try (by_cases h3:r=r'<;>simp[AV.kill,h3]))<;>(try simp_all [AV.kill])
   | agg cells=>simp at h;simp only[AV.kill,AV.go_eq];rw[go cells aa]
   | bz cells=>simp at h;simp only[AV.kill,AV.go_eq];rw[go cells aa]
   | cf t x=>simp at h;simp only[AV.kill];rw[ih x aa]
   | bm t x=>simp at h;simp only[AV.kill];rw[ih x aa]
   | fn f cells=>simp at h;simp only[AV.kill,AV.go_eq];rw[go cells aa]
   | mp q=>by_cases h1:q=r<;>by_cases h2:q=r'<;>simp[AV.kill,h1,h2]<;>(try (by_cases h3:r=r'<;>simp[AV.kill,h3]))<;>(try simp_all [AV.kill])
   | dead=>simp[AV.kill]
 exact key _ x (Nat.lt_succ_self _)
theorem abo (r r':Nat) (e:Env):ef r' (ef r e)=ef r (ef r' e):=by
 funext i;simp only[ef,Option.map_map];congr 1;funext x;exact AV.GD r r' x
theorem Row.GD (r r':Nat) (x:Row):(x.kill r).kill r'=(x.kill r').kill r:=by
 cases x with
 | sl ty sz els=>rfl
 | mp ty ents=>rfl
 | it ents seen=>rfl
 | box ty cells=>
  simp only[Row.kill,ajN];congr 1;apply List.map_congr_left;intro x _;exact AV.GD r r' x
theorem abr (r r':Nat) (H:Heap):eg r' (eg r H)=eg r (eg r' H):=by
 funext i;simp only[eg,Option.map_map];congr 1;funext x;exact Row.GD r r' x
theorem GA (r:Nat) (e:Env) (d:Option Tmp) (x:AV):ef r (aL e d x)=aL (ef r e) d (x.kill r):=by
 cases d with
 | none=>rfl
 | some d=>funext i;simp only[ef,aL,gS];split<;>rfl
def H9 (r:Nat) (o:Oper) (e:Env) (x:AV):Prop:=gq o.op e (ef r e)/\x.kill r=x
theorem k7 {o:Oper} {e:Env} (h:o.guard=none):jb ops e o=some true:=by simp[jb,h]
theorem acA {r:Nat} {l:List AV} (h:(qR l).kill r=qR l):qR (l.map (AV.kill r))=qR l:=by
 unfold qR at h ⊢;split at h
 .rename_i ds hd;rw[re hd]
  have:(ds.map AV.d).map (AV.kill r)=ds.map AV.d:=by simp[ajN,ajG,AV.kill]
  rw[this,Ih]
 .rename_i hd;simp only[AV.kill,AV.go_eq,AV.agg.injEq]at h;rw[h,hd]
theorem V8 {r:Nat} {t:TypeId} {cells:List AV} {c:Prop} {x:AV} {j:Nat} (h:qm T t (cells.drop j)=some (c,x)) (hx:x.kill r=x):∃ c',qm T t ((cells.map (AV.kill r)).drop j)=some (c',x)/\(c->c'):=by
 unfold qm at h ⊢;split at h
 .cases h
 .rename_i ti ht;split at h
  .rename_i ha;rw[if_pos ha];obtain⟨rfl,rfl⟩:=eh h;refine⟨_,?_,id⟩;rw[<- alk,<- alu,aki,acA hx]
  .rename_i ha;rw[if_neg ha];obtain⟨rfl,rfl⟩:=eh h;rw[<- alk];generalize hl:cells.drop j=l at hx
   cases l with
   | nil=>exact⟨_,rfl,fun h=>absurd rfl h⟩
   | cons y l=>
    simp only[List.headD_cons]at hx;refine⟨_,by simp only[aj6,List.headD_cons,hx];rfl,fun _=>ak⟩
theorem aed {o:Oper} {e:Env} {H:Heap} {r:Nat} {row:Row} {c:Prop} {x:AV} (dJ:∃ ty sz els,row = .sl ty sz els) (h:rd T G ⟨e,H⟩ o.op=some (c,x)) (hU:H9 r o e x) :
  ∃ c',rd T G ⟨e,aY (eg r H) r row⟩ o.op=some (c',x)/\(c->c'):=by
 have FH:=hU.1;have hx:=hU.2;clear hU
 have free:∀ t v,Operand.tmp t∈o.op.operands->e t=some v->v.kill r=v:=by
  intro t v ht hv;have:=FH t ht;rw[hv]at this;simp only[ef,hv,akb,IS]at this;exact this.symm
 have ne:∀ (p:Operand) (v:AV),bC G e p=some v->p∈o.op.operands->v.kill r=v:=by
  intro p v hv hp
  cases p with
  | tmp t=>exact free t v hp hv
  | const k=>simp only[bC,IS]at hv;subst hv;unfold iD;split<;>rfl
  | global g=>simp only[bC,AS]at hv;obtain⟨d,_,rfl⟩:=hv;rfl
  | func f=>simp only[bC,IS]at hv;subst hv;rfl
 have bf:∀ q,q≠r->(aY (eg r H) r row) q=(H q).map (Row.kill r):=fun q hq=>by simp[aY,hq,eg]
 obtain⟨dst,op,type,pos,after,guard⟩:=o;dsimp only at h free ne ⊢;by_cases hk:kindOf op=0
 .rw[Tl hk _ H];exact⟨c,h,id⟩
 cases op<;>first | exact absurd rfl hk | skip
 case load t p=>
  simp only[rd]at h ⊢;obtain⟨v,hv,hl⟩:=ajY.1 h;rw[hv,alp];have hf:=ne p v hv (by simp[Op.operands])
  cases v with
  | d x=>cases x<;>first | exact⟨c,hl,id⟩ | cases hl
  | own q off n=>cases hl
  | agg _=>cases hl
  | bz _=>cases hl
  | cf _ _=>cases hl
  | fn _ _=>cases hl
  | bm _ _=>cases hl
  | dead=>cases hl
  | mp _=>cases hl
  | ref q ee j=>
   simp only[oF]at hl ⊢
   have hq:q≠r:=fun e=>by simp[AV.kill,e]at hf
   rw[bf q hq]
   cases hH:H q with
   | none=>simp[hH]at hl
   | some w7=>
    cases w7 with
    | sl ty sz els=>simp only[hH]at hl;simp only[akb,Row.kill];exact⟨c,hl,id⟩
    | mp ty ents=>simp[hH]at hl
    | it ents seen=>simp[hH]at hl
    | box ty cells=>
     simp only[hH]at hl;simp only[akb,Row.kill];split at hl
     .rename_i he;rw[if_pos he];exact V8 hl hx
     .cases hl
 case indexAddr t p i=>
  simp only[rd]at h ⊢;split at h
  .rename_i a b ha hb;have hf:=ne p a ha (by simp[Op.operands])
   have bb:∃ k n,b = .d (.v (.int k n)):=by
    unfold rM at h;split at h
    .exact⟨_,_,rfl⟩
    .exact⟨_,_,rfl⟩
    .exact⟨_,_,rfl⟩
    .exact⟨_,_,rfl⟩
    .cases h
   obtain⟨k,nn,rfl⟩:=bb
   cases a with
   | d x=>cases x<;>first | exact⟨c,h,id⟩ | (cases h;done)
   | ref _ _ _=>exact⟨c,h,id⟩
   | agg _=>cases h
   | bz _=>cases h
   | cf _ _=>cases h
   | fn _ _=>cases h
   | bm _ _=>cases h
   | dead=>cases h
   | mp _=>cases h
   | own q off n=>
   unfold rM at h ⊢
   have hq:q≠r:=fun e=>by simp[AV.kill,e]at hf
   simp only[bf q hq]
   cases hH:H q with
   | none=>simp[hH]at h
   | some w7=>
    cases w7 with
    | sl ty sz els=>simp only[hH]at h;exact⟨c,h,id⟩
    | mp ty ents=>
     cases he:qq T t with
     | none=>simp[he]at h
     | some s=>simp[he,hH]at h
    | it ents seen=>
     cases he:qq T t with
     | none=>simp[he]at h
     | some s=>simp[he,hH]at h
    | box ty cells=>
     simp only[hH]at h
     cases he:qq T t with
     | none=>simp[he]at h
     | some s=>rw[he]at h;exact⟨c,h,id⟩
  .cases h
 case slice t p lo hi mx=>
  simp only[rd]at h ⊢;split at h
  .rename_i hm;rw[if_pos hm];split at h
   .rename_i v l hh h1 h2 h3;have hf:=ne p v h1 (by simp[Op.operands])
    cases v with
    | d x=>cases x with
     | v x=>cases x<;>first | exact⟨c,h,id⟩ | (cases h;done)
     | sl k els=>exact⟨c,h,id⟩
     | _=>cases h
    | ref _ _ _=>cases h
    | agg _=>cases h
    | bz _=>cases h
    | cf _ _=>cases h
    | fn _ _=>cases h
    | bm _ _=>cases h
    | dead=>cases h
    | mp _=>cases h
    | own q off n=>
    unfold sI at h ⊢;dsimp only at h ⊢
    have hq:q≠r:=fun e=>by simp[AV.kill,e]at hf
    rw[bf q hq]
    cases hH:H q with
    | none=>simp[hH]at h
    | some w7=>
     cases w7 with
     | sl ty sz els=>simp only[hH]at h;exact⟨c,h,id⟩
     | mp ty ents=>simp[hH]at h
     | it ents seen=>simp[hH]at h
     | box ty cells=>simp[hH]at h
   .cases h
  .cases h
 case lookup t p i b=>
  simp only[rd]at h ⊢;split at h
  .rename_i a k ha hb;have hf:=ne p a ha (by simp[Op.operands])
   cases a with
   | mp q=>
    have hq:q≠r:=fun e=>by simp[AV.kill,e]at hf
    cases k with
    | d kx=>
     cases kx with
     | v kv=>
      simp only[pg]at h ⊢;rw[bf q hq]
      cases hH:H q with
      | none=>simp[hH]at h
      | some w7=>
       cases w7 with
       | mp ty ents=>rw[hH]at h;exact⟨c,h,id⟩
       | _=>simp[hH]at h
     | _=>simp[pg]at h
    | _=>simp[pg]at h
   | d q=>
    cases q with
    | dm x ents=>
     cases k with
     | d kx=>
      cases kx with
      | v kv=>simp only[pg]at h ⊢;exact⟨c,h,id⟩
      | _=>simp[pg]at h
     | _=>simp[pg]at h
    | _=>simp[pg]at h
   | _=>simp[pg]at h
  .cases h
 case call cc=>
  obtain⟨callee,args,argTypes⟩:=cc
  cases callee with
  | builtin b=>cases b<;>first | exact absurd rfl hk | (simp[rd]at h;done)
  | _=>simp[rd]at h
 all_goals first | (simp[rd]at h;done) | skip
end
end Go.Av
namespace Go.Av
section
variable {P:Program} {T:Ty} {Mv X:Nat->Prop} {G:ay} {N:Fr} {w:World} {μ:Mu} {a:Act} {σ:St}
variable {ops:Array Oper} {Step:Nat->Oper->St->St->Prop} {cp:Nat->Nat->Oper->Oper->Bool}
theorem Wu (aH:∀ j oj,ops[j]? = some oj->∀ e∈oj.after,Region.binds .any e=true->e.on < j) {listed:Array Bool} (uV:∀ j oj,ops[j]? = some oj->listed.getD j false=true->∀ e∈oj.after,Region.binds .any e=true->listed.getD e.on false=true) :
  ∀ (n j:Nat) (oj:Oper),j<=n->ops[j]? = some oj->(∀ e∈oj.after,Region.binds .any e=true->listed.getD e.on false=true)->∀ q,((tb ops).getD j 0).testBit q=true->listed.getD q false=true:=by
 intro n
 induction n with
 | zero=>
  intro j oj hj fe dA q hq
  have mQ:j=0:=aa
  subst mQ;obtain⟨e,he,hb,_⟩:=Eg ops.toList [] 0 oj q (by simpa using fe) (by simpa[tb]using hq);have:=aH 0 oj fe e he hb;omega
 | succ n ih=>
  intro j oj hj fe dA q hq;obtain⟨e,he,hb,r⟩:=Eg ops.toList [] j oj q (by simpa using fe) (by simpa[tb]using hq)
  rcases r with rfl | ⟨_,r⟩
  .exact dA e he hb
  .have Kt:=aH j oj fe e he hb
   have eD:e.on < ops.size:=by have:=(abi.1 fe).1;omega
   exact ih e.on ops[e.on] aa (by simp[eD]) (fun e' kg bk=>uV e.on _ (by simp[eD]) (dA e he hb) e' kg bk) q (by simpa[tb]using r)
def vC (Step:Nat->Oper->St->St->Prop) (cp:Nat->Nat->Oper->Oper->Bool) (ops:Array Oper):Prop:=∀ i j oi oj,ops[i]? = some oi->ops[j]? = some oj->cp i j oi oj=true->∀ σ aT gU,Step i oi σ aT->Step j oj aT gU->∃ jl,Step j oj σ jl/\Step i oi jl gU
def Sound (P:Program) (X:Nat->Prop) (G:ay) (N:Fr) (Mv:Nat->Prop) (Step:Nat->Oper->St->St->Prop) (ops:Array Oper):Prop:=∀ i o,ops[i]? = some o->∀ σ aG,Step i o σ aG->∀ w μ a,In w X G μ N a σ->∀ {Q:Exit->Act->World->Prop} {K:Act->World->Prop},(∀ w' aI a',In w' X G aI N a' aG->Ev Mv w μ w' aI->K a' w')->wpOpIn (wd N.ro) 0 P ops Q i K a w
def iJ (Step:Nat->Oper->St->St->Prop) (ops:Array Oper):List Nat->St->St->Prop
 | [],σ,aG=>σ=aG
 | i :: l,σ,aG=>∃ o,ops[i]? = some o/\∃ aT,Step i o σ aT/\iJ Step ops l aT aG
theorem ago (AH:vC Step cp ops) {p:Nat} {op:Oper} (hp:ops[p]? = some op):∀ (l1:List Nat) {l2:List Nat} {σ aG:St},(∀ q∈l1,∀ oq,ops[q]? = some oq->cp q p oq op=true)->iJ Step ops (l1 ++ p :: l2) σ aG->iJ Step ops (p :: (l1 ++ l2)) σ aG:=by
 intro l1
 induction l1 with
 | nil=>intro l2 σ aG _ h;exact h
 | cons q l1 ih=>
  intro l2 σ aG dA h;obtain⟨oq,hq,aT,s1,rest⟩:=h;obtain⟨o',pT,gU,s2,aey⟩:=ih (fun q' o5=>dA q' (by simp[o5])) rest;rw[hp]at pT;obtain rfl:=AI pT;obtain⟨jl,f1,f2⟩:=AH q p oq op hq hp (dA q ak oq hq) σ aT gU s1 s2;exact⟨op,hp,jl,f1,oq,hq,gU,f2,aey⟩
def oH (cp:Nat->Nat->Oper->Oper->Bool) (ord:List Nat) (ops:Array Oper):Bool:=
 let t:=tb ops
 ord.length == ops.size && (ord.all fun i=>decide (i < ops.size)) && ((List.range ops.size).all fun i=>ord.contains i) && decide ord.Nodup &&
 ((List.range ops.size).all fun j=>match ops[j]? with
  | some oj=>oj.after.all fun e=>!Region.binds .any e || e.on < j
  | none=>true) &&
 go t ord
where
 go (t:List Nat):List Nat->Bool
 | []=>true
 | a :: l=>(l.all fun b=>match ops[a]?,ops[b]? with
  | some oa,some ob=>(oa.after.all fun e=>!Region.binds .any e || !(e.on == b)) && ((t.getD b 0).testBit a || cp a b oa ob)
  | _,_=>true) && go t l
def Ia (cp:Nat->Nat->Oper->Oper->Bool) (ops:Array Oper) (a b:Nat):Prop:=∀ oa ob,ops[a]? = some oa->ops[b]? = some ob->
 (∀ e∈oa.after,Region.binds .any e=true->e.on≠b)/\(((tb ops).getD b 0).testBit a=true\/cp a b oa ob=true)
theorem SV:∀ {l:List Nat},oH.go cp ops (tb ops) l=true->l.Pairwise (Ia cp ops)
 | [],_=>.nil
 | a :: l,h=>by
  simp only[oH.go,IT]at h;refine .cons (fun b hb oa ob hoa KF=>?_) (SV h.2);have:=akz.1 h.1 b hb;simp only[hoa,KF,IT,akp]at this;refine⟨fun e he ZE heq=>?_,this.2⟩;have h1:=Array.all_eq_true_iff_forall_mem.1 this.1 e he;simp[ZE,heq]at h1
theorem VT (eL:Sound P X G N Mv Step ops) (AH:vC Step cp ops) (aH:∀ j oj,ops[j]? = some oj->∀ e∈oj.after,Region.binds .any e=true->e.on < j) {Q:Exit->St->Prop} {w0:World} {lh:Mu} {cq:St} (hQ:Q .normal cq):∀ (n:Nat) (R:List Nat) (listed:Array Bool) (w:World) (μ:Mu) (a:Act) (σ:St),R.length=n->R.Nodup->
  (∀ j,j∈R↔j < ops.size/\listed.getD j true=false)->listed.size=ops.size->R.Pairwise (Ia cp ops)->
  (∀ j oj,ops[j]? = some oj->listed.getD j false=true->∀ e∈oj.after,Region.binds .any e=true->listed.getD e.on false=true)->iJ Step ops R σ cq->In w X G μ N a σ->Ev Mv w0 lh w μ->
  wpAnyIn (wd N.ro) 0 P .any ops (After Mv X G N w0 lh Q) n listed a w:=by
 intro n
 induction n with
 | zero=>
  intro R listed w μ a σ hl _ hR bd _ _ dw hi aW;have:R=[]:=aj2 hl;subst this
  have hr:Region.ready .any ops listed=[]:=by
   apply List.eq_nil_iff_forall_not_mem.2;intro j hj;obtain⟨h1,o,ho,_⟩:=mem_ready.1 hj;exact absurd ((hR j).2 ⟨(abi.1 ho).1,h1⟩) ak
  have:σ=cq:=dw;subst this;exact⟨hr,μ,σ,hQ,hi,aW⟩
 | succ n ih=>
  intro R listed w μ a σ hl pQ hR bd u7 uV dw hi aW;refine⟨fun hr=>?_,fun i Kk=>?_⟩
  .cases R with
   | nil=>simp at hl
   | cons j R=>
    obtain⟨qE,pM⟩:=(hR j).1 ak
    have fe:ops[j]? = some ops[j]:=by simp[qE]
    have CI:j∈Region.ready .any ops listed:=by
     refine mem_ready.2 ⟨pM,ops[j],fe,fun e he hb=>?_⟩;have F3:=aH j ops[j] fe e he hb
     have eD:e.on < ops.size:=aa
     have bf:e.on ∉ (j :: R):=by
      intro hm
      rcases ajX.1 hm with h | h
      .omega
      .exact ((aku.1 u7).1 _ h ops[j] ops[e.on] fe (by simp[eD])).1 e he hb rfl
     have:=mt (hR e.on).2 bf
     have u3:e.on < listed.size:=aa
     simp only[eD,true_and,ajF]at this ⊢;simp[u3]at this ⊢;exact this
    rw[hr]at CI;cases CI
  .obtain⟨gx,oi,gL,dA⟩:=mem_ready.1 Kk;have Kg:i∈R:=(hR i).2 ⟨(abi.1 gL).1,gx⟩;obtain⟨R1,R2,rfl⟩:=List.append_of_mem Kg
   have Ka:=ago AH gL R1 (fun q hq oq C3=>by
    have hpq:Ia cp ops q i:=(akJ.1 u7).2.2 q hq i ak
    rcases (hpq oq oi C3 gL).2 with h | h
    .exfalso;have CP:=Wu aH uV i i oi (ajJ _) gL dA q h;have o6:=((hR q).1 (by simp[hq])).2
     have KN:q < listed.size:=by have:=(abi.1 C3).1;omega
     simp[ajF,KN]at CP o6;rw[CP]at o6;cases o6
    .exact h) dw
   obtain⟨o',pT,aT,hstep,dH⟩:=Ka;rw[gL]at pT;obtain rfl:=AI pT;refine eL i oi gL _ _ hstep _ _ _ hi fun w' aI a' aO mb=>?_
   have KB:(R1 ++ R2).Nodup:=by
    have:=pQ;rw[List.nodup_append]at this ⊢;obtain⟨g1,g2,g3⟩:=this;exact⟨g1,(akB.1 g2).2,fun x hx y hy=>g3 x hx y (by simp[hy])⟩
   have Ki:i ∉ R1 ++ R2:=by
    have:=pQ;rw[List.nodup_append]at this;obtain⟨g1,g2,g3⟩:=this;intro hm
    rcases ajR.1 hm with h | h
    .exact g3 i h i ak rfl
    .exact (akB.1 g2).1 h
   refine ih (R1 ++ R2) _ w' aI a' aT (by simp at hl ⊢;omega) KB (fun j=>?_) (by simpa using bd) ?_ ?_ dH aO (aW.trans mb)
   .by_cases oo:j=i
    .subst oo
     have u3:j < listed.size:=by rw[bd];exact (abi.1 gL).1
     simp[u3];simpa using Ki
    .rw[getD_set_ne true (akI oo)];rw[<- hR j];simp[oo]
   .rw[akJ]at u7 ⊢;obtain⟨g1,g2,g3⟩:=u7;exact⟨g1,(aku.1 g2).2,fun x hx y hy=>g3 x hx y (by simp[hy])⟩
   .intro j oj fe lA e he hb;by_cases oo:j=i
    .subst oo;rw[gL]at fe;obtain rfl:=AI fe;exact getD_set_true (dA e he hb)
    .rw[getD_set_ne false (akI oo)]at lA;exact getD_set_true (uV j oj fe lA e he hb)
theorem vA (hm:P.follows .mixedOrders=true) (eL:Sound P X G N Mv Step ops) (AH:vC Step cp ops) (ord:List Nat) {id:Nat} (bX:oH cp ord ops=true) {Q:Exit->St->Prop} {σ:St} (h:(∀ i∈ord,i < ops.size)->∃ cq,Q .normal cq/\iJ Step ops ord σ cq):AW P Mv X G N (.region id ops true) Q σ:=fun w μ a hi=>by
 unfold oH at bX;simp only[IT]at bX;obtain⟨⟨⟨⟨⟨h1,h2⟩,h3⟩,h4⟩,h5⟩,h6⟩:=bX
 have hlen:ord.length=ops.size:=by simpa using h1
 have aH:∀ i∈ord,i < ops.size:=fun i hi=>by simpa using akz.1 h2 i hi
 have dA:∀ i,i < ops.size->i∈ord:=fun i hi=>by simpa using akz.1 h3 i (akW.2 hi)
 have pQ:ord.Nodup:=by simpa using h4
 have Z4:∀ j oj,ops[j]? = some oj->∀ e∈oj.after,Region.binds .any e=true->e.on < j:=fun j oj fe e he hb=>by
  have:=akz.1 h5 j (akW.2 (abi.1 fe).1);simp only[fe]at this;have:=Array.all_eq_true_iff_forall_mem.1 this e he;simpa[hb]using this
 obtain⟨cq,hQ,dw⟩:=h aH;refine wpIn_region_any hm ?_;obtain⟨aO,aW⟩:=hi.qt (Mv:=Mv) (cN.drew w);refine VT eL AH Z4 hQ ops.size ord _ w.drew μ a σ hlen pQ (fun j=>?_) ak (SV h6) ?_ dw aO aW
 .constructor
  .intro hj;have:=aH j hj;simp[ajF,this]
  .intro hj;exact dA j hj.1
 .intro j oj fe lA;have hj:=(abi.1 fe).1;simp[ajF,hj]at lA
end
end Go.Av
namespace Go.Av
def vD (av:List (Nat×List Nat)) (i:Nat):List Nat:=(av.lookup i).getD []
def Ml (o:Op):Bool:=match o with
 | .buildSlice _ _ _=>true
 | .makeSlice _ _ _=>true
 | .alloc _=>true
 | o=>decide (kindOf o<=2)
def xz (la:List (Nat×Nat×Nat)) (av:List (Nat×List Nat)) (ops:Array Oper) (i j:Nat) (oi oj:Oper):Bool:=match la.lookup i,la.lookup j with
 | none,none=>kU ops oi oj
 | none,some (r,s)=>oi.apart ops oj && Ml oi.op && !(oi.dst == some s) && !(oi.dst == some r) && (vD av i).contains r
 | some (r,s),some (r',s')=>oi.apart ops oj && !(r == r') && !(s == r') && !(s' == r)
 | some _,none=>false
section
variable {P:Program} {T:Ty} {Mv X:Nat->Prop} {G:ay} {N:Fr} {ops:Array Oper} {la:List (Nat×Nat×Nat)} {av:List (Nat×List Nat)}
theorem AV.GC (r:Nat) (x:AV):(x.kill r).kill r=x.kill r:=by
 have key:∀ n,∀ x:AV,SizeOf.sizeOf x < n->(x.kill r).kill r=x.kill r:=by
  intro n
  induction n with
  | zero=>intro x h;omega
  | succ n ih=>
   intro x h
   have go:∀ l:List AV,SizeOf.sizeOf l < n->(l.map (AV.kill r)).map (AV.kill r)=l.map (AV.kill r):=by
    intro l
    induction l with
    | nil=>intro _;rfl
    | cons y l Dk=>
     intro hl;simp only[List.cons.sizeOf_spec]at hl;simp only[aj6,alh];exact⟨ih y aa,Dk aa⟩
   cases x with
   | d x=>simp[AV.kill]
   | own q off n=>by_cases h1:q=r<;>simp[AV.kill,h1]
   | ref q e j=>by_cases h1:q=r<;>simp[AV.kill,h1]
   | agg cells=>simp at h;simp only[AV.kill,AV.go_eq];rw[go cells aa]
   | bz cells=>simp at h;simp only[AV.kill,AV.go_eq];rw[go cells aa]
   | cf t x=>simp at h;simp only[AV.kill];rw[ih x aa]
   | bm t x=>simp at h;simp only[AV.kill];rw[ih x aa]
   | fn f cells=>simp at h;simp only[AV.kill,AV.go_eq];rw[go cells aa]
   | mp q=>by_cases h1:q=r<;>simp[AV.kill,h1]
   | dead=>simp[AV.kill]
 exact key _ x (Nat.lt_succ_self _)
theorem Row.GC (r:Nat) (x:Row):(x.kill r).kill r=x.kill r:=by
 cases x with
 | sl ty sz els=>rfl
 | mp ty ents=>rfl
 | it ents seen=>rfl
 | box ty cells=>
  simp only[Row.kill,ajN];congr 1;apply List.map_congr_left;intro x _;exact AV.GC r x
theorem XB {e:Env} {H:Heap} {r ty sz:Nat} {els:List (List D)} (d:Tmp) (hm:Mv r):aM Mv X G N ⟨gS (ef r e) d (.own r 0 els.length),aY (eg r H) r (.sl ty sz els)⟩ ⟨gS (ef r e) d (.d (.sl none els)),aY (eg r H) r (.sl ty sz [])⟩:=fun w μ a hi=>by
 have hr:aY (eg r H) r (.sl ty sz els) r=some (.sl ty sz els):=by simp[aY]
 have rE:(fun q=>if q=r then none else μ q)=cC (iy r) μ:=by
  funext q;unfold cC iy;by_cases h:q=r<;>simp[h]
 have ev:Ev Mv w μ w (cC (iy r) μ):=xH fun q _ _ hq=>by
  have e:q=r:=by simpa[iy]using hq
  exact e ▸ hm
 have bf:∀ q,q≠r->cC (iy r) μ q=μ q:=fun q hq=>by simp[cC,iy,hq]
 have hX:∀ b,XX X (cC (iy r) μ) b->XX X μ b:=fun b=>BI
 have h1:In w X G (cC (iy r) μ) N a ⟨gS (ef r e) d (.d (.sl none els)),fun q=>if q=r then none else eg r H q⟩:=by
  refine⟨⟨fun q row hq=>?_,fun q m hq=>?_,fun q q' m1 m2 b h1 h2 e9 ea=>hi.bq.inj q q' m1 m2 b (kL h1).2 (kL h2).2 e9 ea,fun q mq b hq hb=>hi.bq.frame q mq b (kL hq).2 hb,hi.bq.fits⟩,
   ⟨hi.env.defers,hi.env.size,fun i x hx=>?_⟩,fun g x hx=>(hi.jf g x hx).sub hX⟩
  .dsimp only at hq;split at hq
   .cases hq
   .rename_i Gc;obtain⟨m,CS,ok⟩:=hi.bq.rows q row (by simpa[aY,Gc]using hq);obtain⟨pn,_,rfl⟩:=AS.1 (show (H q).map (Row.kill r)=some row from hq);refine⟨m,by rw[bf q Gc];exact CS,?_⟩;have:=kz.keep ev bf (fun _ _=>rfl) ok
    rwa [Row.GC]at this
  .obtain⟨hk,CS⟩:=kL hq
   have Gc:q≠r:=by simpa[iy]using hk
   obtain⟨row,dJ⟩:=hi.bq.lq q m CS;exact⟨row,by simpa[aY,Gc]using dJ⟩
  .simp only[gS]at hx;split at hx
   .rename_i hid;subst hid;obtain rfl:=AI hx;obtain⟨u,hu,gM⟩:=hi.env.slot i (.own r 0 els.length) (by simp[gS]);refine⟨u,hu,?_⟩;obtain⟨k,hk,_⟩:=G8 hi.bq hr aa gM;rw[rE]at hk;have:=RV.d (w:=w) (μ:=cC (iy r) μ) hk.vx;simpa using this
   .rename_i hid;obtain⟨x0,h0,rfl⟩:=AS.1 (show (e i).map (AV.kill r)=some x from hx);obtain⟨u,hu,gM⟩:=hi.env.slot i (x0.kill r) (by simp[gS,hid,ef,h0]);refine⟨u,hu,?_⟩;have:=RV.keep ev bf gM
    rwa [AV.GC]at this
 obtain⟨aO,xG⟩:=h1.alloc (Mv:=Mv) (d:=r) (w':=w) (m:=⟨none,sz,0⟩) ak (cN.refl w) ak (row:=.sl ty sz []) fun _=>.nil rfl rfl
 have hH:aY (fun q=>if q=r then none else eg r H q) r (.sl ty sz [])=aY (eg r H) r (.sl ty sz []):=by
  funext q;by_cases h:q=r<;>simp[aY,h]
 refine⟨_,?_,ev.trans xG⟩;rw[<- hH];exact aO
def Fin (Mv:Nat->Prop) (r m:Nat) (row:Row) (y:AV) (iR:Row):Prop:=
 (y = .own r 0 m/\iR=row)\/(Mv r/\∃ ty sz els,row = .sl ty sz els/\m=els.length/\y = .d (.sl none els)/\iR = .sl ty sz [])
theorem Fin.row {r m:Nat} {row iR:Row} {y:AV} (h:Fin Mv r m row y iR) (dJ:∃ ty sz els,row = .sl ty sz els):∃ ty sz els,iR = .sl ty sz els:=by
 rcases h with⟨_,rfl⟩ | ⟨_,ty,sz,els,_,_,_,rfl⟩
 .exact dJ
 .exact⟨_,_,_,rfl⟩
theorem Fin.kill {r m q:Nat} {row iR:Row} {y:AV} (h:Fin Mv r m row y iR) (hq:r≠q):y.kill q=y:=by
 rcases h with⟨rfl,_⟩ | ⟨_,ty,sz,els,_,_,rfl,_⟩
 .simp[AV.kill,hq]
 .rfl
def ue (P:Program) (T:Ty) (Mv:Nat->Prop) (G:ay) (N:Fr) (la:List (Nat×Nat×Nat)) (av:List (Nat×List Nat)) (i:Nat) (o:Oper) (σ aG:St):Prop:=
 eI N o/\o.guard=none/\match la.lookup i with
  | some (r,s)=>∃ m row y iR,kQ T G Mv o σ.env σ.H r s m row/\Fin Mv r m row y iR/\aG=⟨aL (ef r σ.env) o.dst y,aY (eg r σ.H) r iR⟩
  | none=>kindOf o.op≠9/\∃ x H',Ex P T Mv G o σ.env σ.H x H'/\aG=⟨aL σ.env o.dst x,H'⟩/\(∀ r∈vD av i,H9 r o σ.env x)/\(vD av i≠[]->∀ c,dP o.op=some c->∃ y g ds,kr G σ.env c=some (g,ds.map .d)/\aD P G g ds y/\x = .d y)
theorem ue.step {i:Nat} {o:Oper} {σ aG:St} (h:ue P T Mv G N la av i o σ aG):∃ NG,Bt P T Mv G N ops o σ NG/\aM Mv X G N NG aG:=by
 obtain⟨hd,hg,h⟩:=h;split at h
 .obtain⟨m,row,y,iR,h1,hf,rfl⟩:=h;refine⟨_,⟨hd,.inl ⟨k7 hg,h1.to⟩⟩,?_⟩
  rcases hf with⟨rfl,rfl⟩ | ⟨hm,ty,sz,els,rfl,rfl,rfl,rfl⟩
  .exact .refl _
  .obtain⟨_,_,d,s4⟩:=h1.row;rw[s4];exact XB d hm
 .obtain⟨_,x,H',h1,rfl,_⟩:=h;exact⟨_,⟨hd,.inl ⟨k7 hg,h1.to⟩⟩,.refl _⟩
theorem Ex.newRow {o:Oper} (hk:¬ kindOf o.op<=2) (ho:Ml o.op=true) {e:Env} {H H':Heap} {x:AV} (h:Ex P T Mv G o e H x H'):∃ d row,o.dst=some d/\H d=none/\H'=aY H d row/\(∀ q,row.kill q=row)/\∀ H2,H2 d=none->Ex P T Mv G o e H2 x (aY H2 d row):=by
 obtain⟨dst,op,type,pos,after,guard⟩:=o;dsimp only at hk ho;unfold Ex at h;unfold Ex
 cases op<;>simp only[Ml,decide_eq_true_eq]at ho<;>first | exact absurd ho hk | skip
 case alloc t=>
  simp only[dP,gE,if_true]at h ⊢;obtain⟨c,h1,h2⟩:=h
  cases dst with
  | none=>cases h1
  | some d=>
   simp only[wr]at h1 ⊢;split at h1
   .rename_i ti Lb;simp only[IS,ajH,St.mk.injEq,true_and]at h1;obtain⟨rfl,rfl,rfl⟩:=h1;exact⟨d,_,rfl,h2,rfl,fun q=>by simp[Row.kill,iD,AV.kill],fun H2 h=>⟨_,rfl,h⟩⟩
   .cases h1
 case makeSlice t y z=>
  simp only[dP,gE,if_true]at h ⊢;obtain⟨c,h1,h2⟩:=h
  cases dst with
  | none=>cases h1
  | some d=>
   simp only[wr]at h1 ⊢;split at h1
   .split at h1
    .split at h1
     .simp only[IS,ajH,St.mk.injEq,true_and]at h1;obtain⟨rfl,rfl,rfl⟩:=h1;exact⟨d,_,rfl,h2.1,rfl,fun _=>rfl,fun H2 h=>⟨_,rfl,h,h2.2⟩⟩
     .cases h1
    .cases h1
   .cases h1
 case buildSlice t n ps=>
  simp only[dP,gE,if_true]at h ⊢;obtain⟨c,h1,h2⟩:=h
  cases dst with
  | none=>cases h1
  | some d=>
   simp only[wr]at h1 ⊢;split at h1
   .split at h1
    .split at h1
     .split at h1
      .simp only[IS,ajH,St.mk.injEq,true_and]at h1;obtain⟨rfl,rfl,rfl⟩:=h1;exact⟨d,_,rfl,h2.1,rfl,fun _=>rfl,fun H2 h=>⟨_,rfl,h,h2.2⟩⟩
      .cases h1
     .cases h1
    .cases h1
   .cases h1
theorem RB {r q off n:Nat} {z:AV} (h:z.kill r = .own q off n):z = .own q off n:=by
 cases z<;>simp only[AV.kill,reduceCtorEq]at h
 .split at h
  .cases h
  .exact h
 .split at h<;>cases h
 .split at h<;>cases h
theorem abt {r:Nat} {x:D} {z:AV} (h:z.kill r = .d x):z = .d x:=by
 cases z<;>simp only[AV.kill,reduceCtorEq]at h
 .exact h
 .split at h<;>cases h
 .split at h<;>cases h
 .split at h<;>cases h
theorem GW {H:Heap} {r:Nat} {v:AV} {l:List (List D)} (h:my H r v=some l):(∃ x,v = .d x)\/∃ q off n,v = .own q off n:=by
 unfold my at h;split at h
 .exact .inl ⟨_,rfl⟩
 .exact .inr ⟨_,_,_,rfl⟩
 .cases h
theorem Ie {r:Nat} {e:Env} {p:Operand}:bC G (ef r e) p=(bC G e p).map (AV.kill r):=by
 cases p with
 | tmp t=>rfl
 | const k=>simp only[bC,akb];unfold iD;split<;>rfl
 | global g=>simp only[bC,Option.map_map];rfl
 | func f=>rfl
theorem kQ.ahK {o:Oper} {e:Env} {H H2:Heap} {r s m q:Nat} {row:Row} (h:kQ T G Mv o (ef q e) H r s m row) (hr:H2 r=H r) (hs:H2 s=H s):kQ T G Mv o e H2 r s m row:=by
 obtain⟨x,y,off,n,v,ty,sz,els,news,c,h1,h2,h3,h4,h5,h6,h7,h8⟩:=h;rw[Ie]at h2 h3;obtain⟨z1,AO,e1⟩:=AS.1 h2;obtain⟨z2,Gn,e2⟩:=AS.1 h3;have:=RB e1;subst this
 have hz:z2=v:=by
  rcases GW h6 with⟨x,rfl⟩ | ⟨_,_,_,rfl⟩
  .exact abt e2
  .exact RB e2
 subst hz;exact⟨x,y,off,n,z2,ty,sz,els,news,c,h1,AO,Gn,h4,by rw[hr];exact h5,by rw[SA h4 hs];exact h6,h7,h8⟩
theorem kQ.ael {o:Oper} {e:Env} {H H2:Heap} {r s m q:Nat} {row:Row} (h:kQ T G Mv o e H r s m row) (hq:r≠q) (o5:s≠q) (hr:H2 r=H r) (hs:∀ ty sz els,H s=some (.sl ty sz els)->H2 s=H s):kQ T G Mv o (ef q e) H2 r s m row:=by
 obtain⟨x,y,off,n,v,ty,sz,els,news,c,h1,h2,h3,h4,h5,h6,h7,h8⟩:=h;refine⟨x,y,off,n,v,ty,sz,els,news,c,h1,by rw[Ie,h2];simp[AV.kill,hq],?_,h4,by rw[hr];exact h5,?_,h7,h8⟩
 .rw[Ie,h3]
  rcases GW h6 with⟨x,rfl⟩ | ⟨q',_,_,rfl⟩
  .rfl
  .simp only[uG]at h4;subst h4;simp[AV.kill,o5]
 .rcases GW h6 with⟨x,rfl⟩ | ⟨q',ada,n',rfl⟩
  .cases x<;>first | exact h6 | cases h6
  .simp only[uG]at h4;subst h4;simp only[my]at h6 ⊢;split at h6
   .cases h6
   .rename_i bf;rw[if_neg bf];split at h6
    .rename_i UW HD oQ hH;rw[hs _ _ _ hH,hH];exact h6
    .cases h6
theorem Q1 {H:Heap} {r d:Nat} {a b:Row} (h:d≠r):aY (aY H r a) d b=aY (aY H d b) r a:=by
 funext i;by_cases h1:i=d<;>by_cases h2:i=r<;>simp[aY,h1,h2,h,akI h]
theorem Lu {H:Heap} {r d:Nat} {b:Row} (hb:b.kill r=b):eg r (aY H d b)=aY (eg r H) d b:=by
 funext i;by_cases h1:i=d<;>simp[aY,eg,h1,hb]
theorem Ig {o:Oper} {e e':Env} {r:Nat} (h:∀ t,Operand.tmp t∈o.op.operands->e' t=e t) (ha:gq o.op e (ef r e)):gq o.op e' (ef r e'):=fun t ht=>by
 have h1:=ha t ht;simp only[ef]at h1 ⊢;rw[h t ht];exact h1
theorem acq {i j:Nat} {oi oj:Oper} (hc:xz la av ops i j oi oj=true) {σ aT gU:St} (h1:ue P T Mv G N la av i oi σ aT) (h2:ue P T Mv G N la av j oj aT gU) :
  ∃ jl,ue P T Mv G N la av j oj σ jl/\ue P T Mv G N la av i oi jl gU:=by
 obtain⟨di,gi,h1⟩:=h1;obtain⟨dj,gj,h2⟩:=h2;obtain⟨e,H⟩:=σ
 cases u1:la.lookup i with
 | none=>
  simp only[u1]at h1;obtain⟨ki,x,H1,mH,rfl,yX,IA⟩:=h1
  cases lA:la.lookup j with
  | none=>
   simp only[lA]at h2;obtain⟨kj,y,H2,Yd,rfl,G5,WN⟩:=h2;simp only[xz,u1,lA]at hc;obtain⟨H3,f1,f2⟩:=zB hc (x:=x) (y:=y) (e:=e) (H:=H) ⟨di,.inl ⟨k7 gi,mH⟩⟩ ⟨dj,.inl ⟨k7 gj,Yd⟩⟩ ki kj
   have ej:Ex P T Mv G oj e H y H3:=by
    rcases f1.2 with⟨_,h⟩ | ⟨h,_⟩
    .exact h
    .rw[k7 gj]at h;cases h
   have ei:Ex P T Mv G oi (aL e oj.dst y) H3 x H2:=by
    rcases f2.2 with⟨_,h⟩ | ⟨h,_⟩
    .exact h
    .rw[k7 gi]at h;cases h
   simp only[kU,IT]at hc;obtain⟨a1,_,bf⟩:=je hc.1 (e:=e) (v:=x);obtain⟨_,a2,_⟩:=je hc.1 (e:=e) (v:=y);refine⟨⟨aL e oj.dst y,H3⟩,⟨dj,gj,?_⟩,⟨di,gi,?_⟩⟩
   .simp only[lA];refine⟨kj,y,H3,ej,rfl,fun r hr=>⟨Ig (e:=aL e oi.dst x) (fun t ht=>(a1 t (kK ht)).symm) (G5 r hr).1,(G5 r hr).2⟩,fun ha c cK=>?_⟩;obtain⟨y',g,ds,ht,hp⟩:=WN ha c cK;exact⟨y',g,ds,by rw[<- ht];exact zk fun t ht=>(a1 t (kK (by rw[(vg cK).1];exact ht))).symm,hp⟩
   .simp only[u1];refine⟨ki,x,H2,ei,by rw[ig bf],fun r hr=>⟨Ig (e:=e) (fun t ht=>a2 t (kK ht)) (yX r hr).1,(yX r hr).2⟩,fun ha c cK=>?_⟩;obtain⟨y',g,ds,ht,hp⟩:=IA ha c cK;exact⟨y',g,ds,by rw[<- ht];exact zk fun t ht=>a2 t (kK (by rw[(vg cK).1];exact ht)),hp⟩
  | some rs=>
   obtain⟨r,s⟩:=rs;simp only[lA]at h2;obtain⟨m,row,yr,iR,app,fin,rfl⟩:=h2;simp only[xz,u1,lA,IT,akP,beq_eq_false_iff_ne,akq]at hc;obtain⟨⟨⟨⟨eu,bX⟩,hs⟩,hr⟩,P3⟩:=hc;obtain⟨FH,hx⟩:=yX r P3;obtain⟨a1,_,bf⟩:=je eu (e:=e) (v:=x);obtain⟨_,a2,_⟩:=je eu (e:=ef r e) (v:=yr);obtain⟨yo,Fv,_⟩:=app.row;have dJ:=fin.row yo;have eU:gq oj.op (aL e oi.dst x) e:=fun t ht=>a1 t (kK ht);have e3:∀ t,Operand.tmp t∈oi.op.operands->(aL (ef r e) oj.dst (yr)) t=e t:=fun t ht=>(a2 t (kK ht)).trans (FH t ht).symm
   have main:kQ T G Mv oj e H r s m row/\∃ H2,Ex P T Mv G oi e (aY (eg r H) r iR) x H2/\H2=aY (eg r H1) r iR:=by
    by_cases fP:kindOf oi.op<=2
    .have:=mH.keeps fP;subst this;refine⟨app.congr eU rfl rfl,_,?_,rfl⟩
     cases fh:dP oi.op with
     | some c=>
      obtain⟨y,g,ds,ht,hp,rfl⟩:=IA (List.ne_nil_of_mem P3) c fh;unfold Ex;simp only[fh];exact⟨y,⟨g,_,ht,.inl ⟨ds,rfl,hp⟩⟩,rfl,trivial⟩
     | none=>
      unfold Ex at mH ⊢;simp only[fh]at mH ⊢
      have hw:¬ gE oi.op=true:=fun hw=>by rcases Gw hw with h | h | h<;>omega
      rw[if_neg hw]at mH ⊢;obtain⟨c,bY,cK,_⟩:=mH;obtain⟨c',h',fc⟩:=aed dJ bY ⟨FH,hx⟩;exact⟨c',h',fc cK,trivial⟩
    .obtain⟨d,w7,hd,hn,rfl,iO,dA⟩:=mH.newRow fP bX;have oV:d≠r:=fun e=>hr (by rw[hd,e]);have mM:d≠s:=fun e=>hs (by rw[hd,e]);refine⟨app.congr eU (by simp[aY,akI oV]) (by simp[aY,akI mM]),_,dA _ (by simp[aY,oV,eg,hn]),?_⟩;rw[Lu (iO r),Q1 oV]
   obtain⟨Eu,H2,Yc,rfl⟩:=main;refine⟨⟨aL (ef r e) oj.dst (yr),aY (eg r H) r iR⟩,⟨dj,gj,?_⟩,⟨di,gi,?_⟩⟩
   .simp only[lA];exact⟨m,row,yr,iR,Eu,fin,rfl⟩
   .simp only[u1];refine⟨ki,x,_,Yc.congr ki fun t ht=>(e3 t ht).symm,?_,fun q hq=>⟨Ig e3 (yX q hq).1,(yX q hq).2⟩,fun ha c cK=>?_⟩
    .rw[GA,hx,ig bf]
    .obtain⟨y',g,ds,ht,hp⟩:=IA ha c cK;exact⟨y',g,ds,by rw[<- ht];exact zk fun t ht=>e3 t (by rw[(vg cK).1];exact ht),hp⟩
 | some rs=>
  obtain⟨r,s⟩:=rs;simp only[u1]at h1;obtain⟨m,row,y1,rw1,app,fin,rfl⟩:=h1
  cases lA:la.lookup j with
  | none=>simp[xz,u1,lA]at hc
  | some rs'=>
   obtain⟨r',s'⟩:=rs';simp only[lA]at h2;obtain⟨m',iR,y2,rw2,Eu,Jc,rfl⟩:=h2;simp only[xz,u1,lA,IT,akP,beq_eq_false_iff_ne]at hc;obtain⟨⟨⟨eu,lV⟩,hs⟩,qG⟩:=hc;obtain⟨a1,_,bf⟩:=je eu (e:=ef r e) (v:=y1);obtain⟨_,a2,_⟩:=je eu (e:=ef r' e) (v:=y2);obtain⟨⟨UX,UJ,OR,rfl⟩,⟨t1,z1,l1,Fv⟩,_⟩:=app.row;obtain⟨⟨Np,Nf,sd,rfl⟩,⟨t2,z2,l2,YR⟩,_⟩:=Eu.row;obtain⟨UY,sz3,XI,rfl⟩:=fin.row ⟨_,_,_,rfl⟩;obtain⟨HH,Ng,I0,rfl⟩:=Jc.row ⟨_,_,_,rfl⟩
   have Qu:∀ q,q≠r->∀ ty sz els,(eg r H) q=some (.sl ty sz els)->H q=some (.sl ty sz els):=by
    intro q _ ty sz els hq;obtain⟨pn,h0,he⟩:=AS.1 hq
    cases pn with
    | sl _ _ _=>rw[h0];exact congrArg some he
    | box _ _=>cases he
    | mp _ _=>cases he
    | it _ _=>cases he
   have uH:H r'=some (.sl t2 z2 l2):=Qu r' (akI lV) _ _ _ (by simpa[aY,akI lV]using YR);have p1:kQ T G Mv oj (ef r e) (aY (eg r H) r (.sl UY sz3 XI)) r' s' m' (.sl Np Nf sd):=Eu.congr (fun t ht=>a1 t (kK ht)) rfl rfl
   have p2:kQ T G Mv oj e H r' s' m' (.sl Np Nf sd):=by
    obtain⟨x,y,off,n,v,ty,sz,els,news,c,g1,g2,g3,g4,g5,g6,g7,g8⟩:=p1
    have KC:my H r' v=some news:=by
     rcases GW g6 with⟨x,rfl⟩ | ⟨q',ada,n',rfl⟩
     .cases x<;>first | exact g6 | cases g6
     .simp only[uG]at g4;subst g4;simp only[my]at g6 ⊢;split at g6
      .cases g6
      .rename_i hq;rw[if_neg hq];split at g6
       .rename_i UW HD oQ o6;have:H q'=some (.sl UW HD oQ):=Qu q' qG _ _ _ (by simpa[aY,qG]using o6);rw[this];exact g6
       .cases g6
    have:kQ T G Mv oj (ef r e) H r' s' m' (.sl Np Nf sd):=⟨x,y,off,n,v,ty,sz,els,news,c,g1,g2,g3,g4,by rw[uH];simpa[aY,akI lV,eg,uH,Row.kill]using g5,KC,g7,g8⟩;exact this.ahK rfl rfl
   have q1:kQ T G Mv oi (ef r' e) (aY (eg r' H) r' (.sl HH Ng I0)) r s m (.sl UX UJ OR):=by
    refine app.ael lV hs ?_ fun ty sz els hh=>?_
    .simp[aY,lV,eg,Fv,Row.kill]
    .simp[aY,hs,eg,hh,Row.kill]
   have q2:kQ T G Mv oi (aL (ef r' e) oj.dst y2) (aY (eg r' H) r' (.sl HH Ng I0)) r s m (.sl UX UJ OR):=q1.congr (fun t ht=>(a2 t (kK ht)).symm) rfl rfl;refine⟨⟨aL (ef r' e) oj.dst y2,aY (eg r' H) r' (.sl HH Ng I0)⟩,⟨dj,gj,?_⟩,⟨di,gi,?_⟩⟩
   .simp only[lA];exact⟨m',_,y2,_,p2,Jc,rfl⟩
   .simp only[u1];refine⟨m,_,y1,_,q2,fin,?_⟩;have k1:AV.kill r' y1=y1:=fin.kill lV;have k2:AV.kill r y2=y2:=Jc.kill (akI lV);rw[GA,GA,k1,k2,abo r' r,ig bf,Lu rfl,Lu rfl,abr r' r,Q1 lV]
def T4 (P:Program) (T:Ty) (Mv:Nat->Prop) (G:ay) (N:Fr) (la:List (Nat×Nat×Nat)) (av:List (Nat×List Nat)) (ops:Array Oper):List Nat->St->St->Prop:=iJ (ue P T Mv G N la av) ops
def Mk (la:List (Nat×Nat×Nat)) (av:List (Nat×List Nat)) (ord:List Nat) (ops:Array Oper):Bool:=oH (xz la av ops) ord ops
def yY (r:Nat) (e:Env):List Operand->Prop
 | []=>True
 | .tmp t :: l=>(e t).map (AV.kill r)=e t/\yY r e l
 | _ :: l=>yY r e l
theorem Mh {r:Nat} {e:Env}:∀ {l:List Operand},yY r e l->∀ t,Operand.tmp t∈l->e t=ef r e t
 | [],_,t,ht=>by cases ht
 | p :: l,h,t,ht=>by
  cases p with
  | tmp u=>
   simp only[yY]at h
   rcases ajX.1 ht with h1 | h1
   .cases h1;exact h.1.symm
   .exact Mh h.2 t h1
  | _=>
   simp only[yY]at h
   rcases ajX.1 ht with h1 | h1
   .cases h1
   .exact Mh h t h1
def wV (rs:List Nat) (ps:List Operand) (e:Env) (x:AV):Prop:=match rs with
 | []=>True
 | r :: rs=>(yY r e ps/\x.kill r=x)/\wV rs ps e x
theorem G6 {o:Oper} {e:Env} {x:AV}:∀ {rs:List Nat},wV rs o.op.operands.toList e x->∀ r∈rs,H9 r o e x
 | [],_,r,hr=>by cases hr
 | q :: rs,h,r,hr=>by
  simp only[wV]at h
  rcases ajX.1 hr with rfl | hr
  .exact⟨fun t ht=>Mh h.1.1 t (by simpa using ht),h.1.2⟩
  .exact G6 h.2 r hr
def sb (P:Program) (G:ay) (c:Call) (e:Env) (dst:Option Tmp) (H:Heap) (rs:List Nat) (ps:List Operand) (next:St->Prop):Prop:=∃ y g ds,kr G e c=some (g,ds.map .d)/\aD P G g ds y/\wV rs ps e (.d y)/\next ⟨aL e dst (.d y),H⟩
theorem sb.mk {c:Call} {e:Env} {dst:Option Tmp} {H:Heap} {rs:List Nat} {ps:List Operand} {next:St->Prop} {g:FuncId} {xs:List AV} {ds iM:List D} {y:D} (hc:aD P G g ds y) (ht:kr G e c=some (g,xs)) (hx:l5 xs=some iM) (hle:D.le.go iM ds)
  (ho:wV rs ps e (.d y)) (h:next ⟨aL e dst (.d y),H⟩):sb P G c e dst H rs ps next:=⟨y,g,iM,by rw[ht,re hx],hc.vx hle,ho,h⟩
def B7 (Mv:Nat->Prop) (dst:Option Tmp) (r s:Nat) (z:AV) (σ:St) (next:St->Prop):Prop:=
 if s=r then match σ.H r,z with
  | some (.sl ty sz els),.own _ _ m=>Mv r/\m=els.length/\next ⟨aL σ.env dst (.d (.sl none els)),aY σ.H r (.sl ty sz [])⟩
  | _,_=>False
 else next ⟨aL σ.env dst z,σ.H⟩
def Ew (T:Ty) (Mv:Nat->Prop) (G:ay) (o:Oper) (σ:St) (r s:Nat) (next:St->Prop):Prop:=match zx o with
 | some (x,y)=>match bC G σ.env x,bC G σ.env y with
  | some (.own q _ _),some v=>q=r/\uG s v/\match wr T G Mv σ o with
   | some (c,z,aT)=>c/\B7 Mv o.dst r s z aT next
   | none=>False
  | _,_=>False
 | none=>False
def wZ (T:Ty) (G:ay) (Mv:Nat->Prop) (o:Oper) (σ:St) (rs:List Nat) (next:St->Prop):Prop:=
 if gE o.op then match wr T G Mv σ o with
  | some (c,x,aG)=>c/\wV rs o.op.operands.toList σ.env x/\next ⟨aL aG.env o.dst x,aG.H⟩
  | none=>False
 else match rd T G σ o.op with
  | some (c,x)=>c/\wV rs o.op.operands.toList σ.env x/\next ⟨aL σ.env o.dst x,σ.H⟩
  | none=>False
def rZ (P:Program) (T:Ty) (Mv:Nat->Prop) (G:ay) (N:Fr) (la:List (Nat×Nat×Nat)) (av:List (Nat×List Nat)) (K:St->Prop):List (Nat×Oper)->St->Prop
 | [],σ=>K σ
 | (i,o) :: rest,σ=>eI N o/\o.guard=none/\match la.lookup i with
  | some (r,s)=>Ew T Mv G o σ r s (rZ P T Mv G N la av K rest)
  | none=>kindOf o.op≠9/\match dP o.op with
   | some c=>sb P G c σ.env o.dst σ.H (vD av i) o.op.operands.toList (rZ P T Mv G N la av K rest)
   | none=>wZ T G Mv o σ (vD av i) (rZ P T Mv G N la av K rest)
def bU (ops:Array Oper):List Nat->List (Nat×Oper)
 | []=>[]
 | i :: l=>match ops[i]? with
  | some o=>(i,o) :: bU ops l
  | none=>bU ops l
theorem ahe {K:St->Prop}:∀ (l:List Nat) (σ:St),(∀ i∈l,i < ops.size)->rZ P T Mv G N la av K (bU ops l) σ->∃ cq,K cq/\T4 P T Mv G N la av ops l σ cq:=by
 intro l
 induction l with
 | nil=>intro σ _ h;exact⟨σ,h,rfl⟩
 | cons i l ih=>
  intro σ hl h;have hi:=hl i ak
  have ho:ops[i]? = some ops[i]:=by simp[hi]
  simp only[bU,ho]at h;generalize ops[i]=o at ho h;simp only[rZ]at h;obtain⟨hd,de,h⟩:=h
  have fin:∀ aT,ue P T Mv G N la av i o σ aT->rZ P T Mv G N la av K (bU ops l) aT->∃ cq,K cq/\T4 P T Mv G N la av ops (i :: l) σ cq:=fun aT hs h1=>by
   obtain⟨cq,hk,hr⟩:=ih aT (fun j hj=>hl j (by simp[hj])) h1;exact⟨cq,hk,o,ho,aT,hs,hr⟩
  cases oY:la.lookup i with
  | some rs=>
   obtain⟨r,s⟩:=rs;simp only[oY]at h;unfold Ew at h;split at h
   .rename_i x y aaH;split at h
    .rename_i q off n v hx hy;obtain⟨rfl,hs,h⟩:=h;split at h
     .rename_i c z aT hw;obtain⟨hc,h⟩:=h;obtain⟨e,H⟩:=σ;obtain⟨m,row,Cu,rfl,rfl⟩:=kQ.of aaH hx hy hs hw hc;unfold B7 at h;split at h
      .obtain⟨⟨ty,sz,els,rfl⟩,_⟩:=Cu.row;simp only[aY,if_true]at h;obtain⟨hm,F5,h⟩:=h;refine fin _ ⟨hd,de,?_⟩ h;simp only[oY];refine⟨m,_,_,_,Cu,.inr ⟨hm,ty,sz,els,rfl,F5,rfl,rfl⟩,?_⟩;congr 1;funext q';by_cases o5:q'=q<;>simp[aY,o5]
      .refine fin _ ⟨hd,de,?_⟩ h;simp only[oY];exact⟨m,row,_,_,Cu,.inl ⟨rfl,rfl⟩,rfl⟩
     .exact h.elim
    .exact h.elim
   .exact h.elim
  | none=>
   simp only[oY]at h;obtain⟨hk,h⟩:=h;split at h
   .rename_i c hc;obtain⟨y,g,ds,ht,hp,hU,h⟩:=h;refine fin _ ⟨hd,de,?_⟩ h;simp only[oY];refine⟨hk,.d y,σ.H,?_,rfl,G6 hU,fun _ c' eb=>?_⟩
    .unfold Ex;simp only[hc];exact⟨y,⟨g,_,ht,.inl ⟨ds,rfl,hp⟩⟩,rfl,trivial⟩
    .rw[hc]at eb;obtain rfl:=AI eb;exact⟨y,g,ds,ht,hp,rfl⟩
   .rename_i hc;unfold wZ at h;split at h
    .rename_i hw;split at h
     .rename_i c x aT h1;obtain⟨cK,hU,h⟩:=h;have he:=BA hk h1;obtain⟨e,H⟩:=σ;obtain⟨e1,H1⟩:=aT;dsimp only at he;subst he;refine fin _ ⟨hd,de,?_⟩ h;simp only[oY];refine⟨hk,x,H1,?_,rfl,G6 hU,fun _ c' eb=>?_⟩
      .unfold Ex;simp only[hc];rw[if_pos hw];exact⟨c,h1,cK⟩
      .rw[hc]at eb;cases eb
     .exact h.elim
    .rename_i hw;split at h
     .rename_i c x h1;obtain⟨cK,hU,h⟩:=h;refine fin _ ⟨hd,de,?_⟩ h;simp only[oY];refine⟨hk,x,σ.H,?_,rfl,G6 hU,fun _ c' eb=>?_⟩
      .unfold Ex;simp only[hc];rw[if_neg hw];exact⟨c,h1,cK,trivial⟩
      .rw[hc]at eb;cases eb
     .exact h.elim
theorem NO (hg:Good P T) (hm:P.follows .mixedOrders=true) (la:List (Nat×Nat×Nat)) (av:List (Nat×List Nat)) (ord:List Nat) {id:Nat} (bX:Mk la av ord ops=true) {Q:Exit->St->Prop} {σ:St} (h:rZ P T Mv G N la av (fun aG=>Q .normal aG) (bU ops ord) σ):AW P Mv X G N (.region id ops true) Q σ:=vA (Step:=ue P T Mv G N la av) (cp:=xz la av ops) hm (fun i o ho σ aG h w μ a hi _ _ hk=>by
  obtain⟨NG,eH,himp⟩:=h.step (ops:=ops) (X:=X);refine ze hg eH hi ho fun w' aI a' aO mb=>?_;obtain⟨jZ,s6,Cz⟩:=himp w' aI a' aO
  exact hk w' jZ a' s6 (mb.trans Cz)) (fun i j oi oj _ _ hc σ aT gU h1 h2=>acq hc h1 h2) ord bX fun aH=>ahe ord σ aH h
theorem HZ (hg:Good P T) (hm:P.follows .mixedOrders=true) (la:List (Nat×Nat×Nat)) (av:List (Nat×List Nat)) (ord:List Nat) (l ns:List Nat) (hM:∀ r,ns.contains r=false->Mv r) {id:Nat} (bX:Mk la av ord ops=true) {y:Code} {Q:Exit->St->Prop} {σ:St}
  (h:∀ K:St->Prop,(∀ τ:St,AW P Mv X G N y Q (τ.norm l ns)->K τ)->rZ P T Mv G N la av K (bU ops ord) σ):AW P Mv X G N (.seq (.region id ops true) y) Q σ:=
 sK (NO hg hm la av ord bX (h _ fun _ h=>h.norm l ns hM))
theorem Eo (hg:Good P T) (hm:P.follows .mixedOrders=true) (la:List (Nat×Nat×Nat)) (av:List (Nat×List Nat)) (ord:List Nat) {id:Nat} (bX:Mk la av ord ops=true) {Q:Exit->St->Prop} {σ:St}
  (h:∀ K:St->Prop,(∀ τ:St,Q .normal τ->K τ)->rZ P T Mv G N la av K (bU ops ord) σ):AW P Mv X G N (.region id ops true) Q σ:=NO hg hm la av ord bX (h _ fun _ h=>h)
end
end Go.Av
namespace Go.Av
section
variable {P:Program} {T:Ty} {Mv X:Nat->Prop} {G:ay} {N:Fr} {σ:St}
theorem dL (l:List (Nat×AV)) (i:Nat) (x:AV):gS (bp l) i x=bp ((i,x) :: l):=by
 funext j;simp only[gS,bp,List.lookup];by_cases h:j=i
 .subst h;simp
 .have:(j == i)=false:=by simpa using h
  simp[h,this]
theorem Lh (l:List (Nat×Row)) (i:Nat) (x:Row):aY (aq l) i x=aq ((i,x) :: l):=by
 funext j;simp only[aY,aq,List.lookup];by_cases h:j=i
 .subst h;simp
 .have:(j == i)=false:=by simpa using h
  simp[h,this]
theorem LL {α β:Type} (f:α->β) (l:List (Nat×α)) (i:Nat):(l.map fun p=>(p.1,f p.2)).lookup i=(l.lookup i).map f:=by
 induction l with
 | nil=>rfl
 | cons p l ih=>
  simp only[aj6,List.lookup];cases h:(i == p.1)<;>simp[ih]
theorem abp (r:Nat) (l:List (Nat×AV)):ef r (bp l)=bp (l.map fun p=>(p.1,p.2.kill r)):=by
 funext j;simp only[ef,bp,LL]
theorem abq (r:Nat) (l:List (Nat×Row)):eg r (aq l)=aq (l.map fun p=>(p.1,p.2.kill r)):=by
 funext j;simp only[eg,aq,LL]
theorem ahz (o f:Nat->Nat->Nat->AV) (l:List (Nat×AV)):lK o f (bp l)=bp (l.map fun p=>(p.1,p.2.tr o f)):=by
 funext j;simp only[lK,bp,LL]
theorem aaC:jj=aq []:=rfl
def M6 (P:Program) (T:Ty) (Mv X:Nat->Prop) (G:ay) (N:Fr) (ops:Array Oper) (o:Oper) (σ:St) (K:St->Prop):Prop:=eI N o/\match jb ops σ.env o with
 | some b=>if b=true then sV P T Mv X G N o σ K else K ⟨aL σ.env o.dst da,σ.H⟩
 | none=>False
def Uz (P:Program) (T:Ty) (Mv:Nat->Prop) (G:ay) (N:Fr) (ops:Array Oper) (o:Oper) (σ:St) (K:St->Prop):Prop:=eI N o/\match jb ops σ.env o with
 | some b=>if b=true then (match dP o.op with
  | some c=>nX P G c σ o.dst K
  | none=>qT T G Mv o σ K) else K ⟨aL σ.env o.dst da,σ.H⟩
 | none=>False
def UC (P:Program) (T:Ty) (Mv:Nat->Prop) (G:ay) (N:Fr) (la:List (Nat×Nat×Nat)) (av:List (Nat×List Nat)) (i:Nat) (o:Oper) (σ:St) (K:St->Prop):Prop:=eI N o/\o.guard=none/\match la.lookup i with
 | some (r,s)=>Ew T Mv G o σ r s K
 | none=>kindOf o.op≠9/\match dP o.op with
  | some c=>sb P G c σ.env o.dst σ.H (vD av i) o.op.operands.toList K
  | none=>wZ T G Mv o σ (vD av i) K
theorem aK {ops:Array Oper} {K:St->Prop} {o:Oper} {rest:List Oper} (h:∀ K':St->Prop,(∀ τ,kM P T Mv X G N ops K rest τ->K' τ)->M6 P T Mv X G N ops o σ K'):kM P T Mv X G N ops K (o :: rest) σ:=h _ fun _ h=>h
theorem ja {ops:Array Oper} {K:St->Prop} {o:Oper} {rest:List Oper} (h:∀ K':St->Prop,(∀ τ,pw P T Mv G N ops K rest τ->K' τ)->Uz P T Mv G N ops o σ K'):pw P T Mv G N ops K (o :: rest) σ:=h _ fun _ h=>h
theorem bJ {ops:Array Oper} {K:St->Prop} (h:K σ):kM P T Mv X G N ops K [] σ:=h
theorem qd {ops:Array Oper} {K:St->Prop} (h:K σ):pw P T Mv G N ops K [] σ:=h
end
end Go.Av
namespace Go.Av
theorem ahA (k:Nat->Bool) (o f:Nat->Nat->Nat->AV) (l:List (Nat×Row)):eM k o f (aq l)=aq (l.filterMap fun p=>if k p.1=true then some (p.1,p.2.tr o f) else none):=by
 funext i;unfold eM aq
 induction l with
 | nil=>simp
 | cons p l ih=>
  obtain⟨j,r⟩:=p;simp only[List.lookup_cons,List.filterMap_cons];by_cases pL:i=j
  .subst pL;cases hk:k i
   .simp[hk]at ih ⊢;exact ih
   .simp
  .have hb:(i == j)=false:=by simpa using pL
   rw[hb];cases hk:k j
   .simpa using ih
   .simp only[if_true,List.lookup_cons,hb];exact ih
section
variable {P:Program} {Mv X:Nat->Prop} {G:ay} {N:Fr} {w w':World} {μ:Mu} {a:Act} {σ:St}
theorem zh {T:Ty} {ops:Array Oper} {la:List (Nat×Nat×Nat)} {av:List (Nat×List Nat)} {K:St->Prop} {i:Nat} {l:List Nat} {o:Oper} (ho:ops[i]? = some o) (h:∀ K':St->Prop,(∀ τ,rZ P T Mv G N la av K (bU ops l) τ->K' τ)->UC P T Mv G N la av i o σ K'):rZ P T Mv G N la av K (bU ops (i :: l)) σ:=by
 have:bU ops (i :: l)=(i,o) :: bU ops l:=by simp[bU,ho]
 rw[this];exact h _ fun _ h=>h
theorem zi {T:Ty} {ops:Array Oper} {la:List (Nat×Nat×Nat)} {av:List (Nat×List Nat)} {K:St->Prop} (h:K σ):rZ P T Mv G N la av K (bU ops []) σ:=h
theorem aM.r8 (b j r ty sz:Nat) {e:Env} {H:Heap} {tb:TypeId} {cells:List AV} (hb:H b=some (.box tb cells)) (hr:H r=none) (hc:cells[j]? = some (.d (.sl (some false) []))) :
  aM Mv X G N ⟨e,H⟩ ⟨e,aY (aY H r (.sl ty sz [])) b (.box tb (cells.set j (.own r 0 0)))⟩:=fun w μ a hi=>by
 obtain⟨aO,ev⟩:=hi.alloc (Mv:=Mv) (w':=w) (m:=⟨none,sz,0⟩) hr (cN.refl w) ak (row:=.sl ty sz []) fun _=>.nil rfl rfl
 have hrb:b≠r:=fun h=>by subst h;rw[hr]at hb;cases hb
 refine⟨dY μ r ⟨none,sz,0⟩,⟨⟨fun q row hq=>?_,fun q m hm=>?_,aO.bq.inj,aO.bq.frame,aO.bq.fits⟩,aO.env,aO.jf⟩,ev⟩
 .by_cases C5:q=b
  .subst C5;simp only[aY,if_true,IS]at hq;subst hq;obtain⟨m,hm,ok⟩:=aO.bq.rows q (.box tb cells) (by simp[aY,hrb,hb]);refine⟨m,hm,?_⟩
   cases ok with
   | box bk hs kC hh hn gM hx=>
    refine .box bk rfl kC hh (by simpa using hn) (hx:=by simpa using hx) fun i u c hu jg=>?_;rw[List.getElem?_set]at jg;split at jg
    .rename_i pL;subst pL;split at jg
     .obtain rfl:=AI jg;have h1:=gM j u _ hu hc;refine .own (m:=⟨none,sz,0⟩) (by simp[dY]) (.inl ⟨rfl,?_,rfl,rfl⟩)
      rcases h1.data.rY with⟨rfl,_⟩ | ⟨_,_,_,hk,_⟩
      .rfl
      .exact absurd rfl hk
     .cases jg
    .exact gM i u c hu jg
  .exact aO.bq.rows q row (by simpa[aY,C5]using hq)
 .by_cases C5:q=b
  .exact⟨.box tb (cells.set j (.own r 0 0)),by subst C5;simp[aY]⟩
  .obtain⟨row,dJ⟩:=aO.bq.lq q m hm;exact⟨row,by simpa[aY,C5]using dJ⟩
end
end Go.Av
namespace Go.Av
section
variable {P:Program} {T:Ty} {Mv X:Nat->Prop} {G:ay} {N:Fr} {σ:St}
def dI (r r' q:Nat):Nat:=if q=r then r' else q
def ik (r r' q off n:Nat):AV:=.own (dI r r' q) off n
def ij (r r' q e j:Nat):AV:=.ref (dI r r' q) e j
def tN (r r':Nat) (μ:Mu):Mu:=fun q=>if q=r' then μ r else if q=r then none else μ q
def rU (r r':Nat) (H:Heap):Heap:=fun q=>(if q=r' then H r else if q=r then none else H q).map (Row.tr (ik r r') (ij r r'))
theorem Bn {r r' q:Nat} {m:jE} {μ:Mu} (h:tN r r' μ q=some m):∃ p,μ p=some m/\q=dI r r' p:=by
 unfold tN at h;split at h
 .rename_i e;exact⟨r,h,by simp[dI,e]⟩
 .split at h
  .cases h
  .rename_i e1 e2;exact⟨q,h,by simp[dI,e2]⟩
theorem MH {r r' p:Nat} {m:jE} {μ:Mu} (h0:μ r'=none) (h:μ p=some m):tN r r' μ (dI r r' p)=some m:=by
 unfold tN dI;by_cases e:p=r
 .subst e;simp[h]
 .have e2:p≠r':=fun e2=>by rw[e2,h0]at h;cases h
  simp[e,e2,h]
theorem In.dI {w:World} {μ:Mu} {a:Act} {r r':Nat} (hi:In w X G μ N a σ) (hH:σ.H r'=none):In w X G (tN r r' μ) N a ⟨lK (ik r r') (ij r r') σ.env,rU r r' σ.H⟩:=by
 have h0:μ r'=none:=hi.bq.tK hH;have hX:∀ b,XX X (tN r r' μ) b->XX X μ b:=fun b hb=>hb.elim .inl fun ⟨q,m,hq,lx⟩=>let ⟨p,hp,_⟩:=Bn hq;.inr ⟨p,m,hp,lx⟩;have uJ:∀ {u:Value} {x:D},RD w (XX X μ) u x->RD w (XX X (tN r r' μ)) u x:=fun h=>h.mono (ajJ _) fun b _ hb=>⟨rfl,fun e=>hb (hX b e)⟩
 have Cr:∀ {u:Value} {x:AV},RV w X μ u x->RV w X (tN r r' μ) u (x.tr (ik r r') (ij r r')):=fun h=>RV.tr hX (fun u q off n h=>by
  obtain⟨m,hm,hh⟩:=h.lF
  exact .own (MH h0 hm) hh) (fun u q e j h=>by
  obtain⟨m,b,hm,hb,rfl⟩:=h.lG
  exact .ref (MH h0 hm) hb) h
 refine⟨⟨fun q row hr=>?_,fun q m hr=>?_,fun q q' m1 m2 b h1 h2 e9 ea=>?_,fun q mq b hq hb=>?_,hi.bq.fits⟩,
  ⟨hi.env.defers,hi.env.size,fun i x hx=>?_⟩,fun g x hx=>uJ (hi.jf g x hx)⟩
 .obtain⟨pn,yo,rfl⟩:=AS.1 hr
  have:∃ p,σ.H p=some pn/\q=Go.Av.dI r r' p:=by
   split at yo
   .rename_i e;exact⟨r,yo,by simp[Go.Av.dI,e]⟩
   .split at yo
    .cases yo
    .rename_i e1 e2;exact⟨q,yo,by simp[Go.Av.dI,e2]⟩
  obtain⟨p,hp,rfl⟩:=this;obtain⟨m,hm,ok⟩:=hi.bq.rows p pn hp;refine⟨m,MH h0 hm,?_⟩
  cases ok with
  | nil h1 h2=>exact .nil h1 h2
  | sl h1 h2 h3 h4 h5 h6 h7 h8 h9=>exact .sl h1 h2 h3 h4 h5 h6 h7 h8 fun i j el c he hc=>let ⟨u,hu,hr⟩:=h9 i j el c he hc;⟨u,hu,uJ hr⟩
  | box h1 h2 h3 h4 h5 h6 h7=>
   refine .box h1 rfl h3 h4 (by simpa using h5) (fun j u c hu hc=>?_) (by simpa using h7);rw[ajK]at hc;obtain⟨c',eb,rfl⟩:=AS.1 hc;exact Cr (h6 j u c' hu eb)
  | mp h1 h2 h3 h4=>exact .mp h1 h2 h3 fun i e p he hp=>let ⟨a,b,c⟩:=h4 i e p he hp;⟨a,b,uJ c⟩
  | it h1 h2 h3=>exact .it h1 h2 (uJ h3)
 .obtain⟨p,hp,rfl⟩:=Bn hr;obtain⟨row,dJ⟩:=hi.bq.lq p m hp;refine⟨row.tr (ik r r') (ij r r'),?_⟩
  have bf:p≠r':=fun e=>by rw[e,h0]at hp;cases hp
  show rU r r' σ.H _=_;unfold rU Go.Av.dI;by_cases e:p=r
  .subst e;simp[dJ]
  .simp[e,bf,dJ]
 .obtain⟨p1,iX,rfl⟩:=Bn h1;obtain⟨p2,gB,rfl⟩:=Bn h2;rw[hi.bq.inj p1 p2 m1 m2 b iX gB e9 ea]
 .obtain⟨p,hp,rfl⟩:=Bn hq;exact hi.bq.frame p mq b hp hb
 .replace hx:lK (ik r r') (ij r r') σ.env i=some x:=hx;unfold lK at hx;obtain⟨x0,Fk,rfl⟩:=AS.1 hx;obtain⟨u,hu,hr⟩:=hi.env.slot i x0 Fk;exact⟨u,hu,Cr hr⟩
theorem aM.dI {r r':Nat} (hm:Mv r) (hH:σ.H r'=none):aM Mv X G N σ ⟨lK (ik r r') (ij r r') σ.env,rU r r' σ.H⟩:=fun w μ a hi=>
 ⟨tN r r' μ,hi.dI hH,⟨ajJ _,rfl,rfl,rfl,fun b hb hr=>⟨rfl,fun ⟨q,m,hq,lx⟩=>let ⟨p,hp,_⟩:=Bn hq;hr ⟨p,m,hp,lx⟩⟩,fun q m hq hn=>by
  have h1:q≠r:=fun e=>hn (e ▸ hm)
  have h2:q≠r':=fun e=>by rw[e,hi.bq.tK hH]at hq;cases hq
  simp only[tN,if_neg h1,if_neg h2]
  exact hq⟩⟩
theorem aM.UP (r:Nat) {e:Env} {H:Heap} {ty:Nat} {els:List (List D)} (hH:H r=some (.sl ty 1 els)) (bf:els≠[]) (hT:ty≠Oi:=by decide):aM Mv X G N ⟨e,H⟩ ⟨e,aY H r (.box ty (els.map fun el=>.d (el.headD (.v .nilFunc))))⟩:=fun w μ a hi=>by
 refine⟨μ,⟨⟨fun q row hq=>?_,fun q m hq=>?_,hi.bq.inj,hi.bq.frame,hi.bq.fits⟩,⟨hi.env.defers,hi.env.size,hi.env.slot⟩,hi.jf⟩,.refl _ w μ⟩
 .replace hq:aY H r _ q=some row:=hq;unfold aY at hq;split at hq
  .rename_i e;subst e;obtain rfl:=AI hq;obtain⟨m,hm,ok⟩:=hi.bq.rows q _ hH;refine⟨m,hm,?_⟩
   cases ok with
   | nil h1 h2=>exact absurd rfl bf
   | sl h1 h2 h3 h4 h5 h6 h7 h8 h9=>
    refine .box h1 rfl h6 h3 (by simp;omega) (hx:=fun e=>absurd e hT) fun j u c hu hc=>?_;rw[ajK]at hc;obtain⟨el,ba,rfl⟩:=AS.1 hc;have hl:=h7 el (akn ba)
    match el,hl with
    | [c],_=>
     obtain⟨u',ir,bY⟩:=h9 j 0 [c] c ba rfl;simp only[akV,akD]at ir;rw[hu]at ir;obtain rfl:=AI ir;exact .d bY
  .exact hi.bq.rows q row hq
 .obtain⟨row,dJ⟩:=hi.bq.lq q m hq;by_cases e:q=r
  .exact⟨_,if_pos e⟩
  .exact⟨row,(if_neg e).trans dJ⟩
end
end Go.Av
namespace Go.Av
def AR:Op->Bool
 | .load _ _=>true
 | .indexAddr _ _ _=>true
 | .slice _ _ _ _ _=>true
 | .store _ _ _=>true
 | .mapUpdate _ _ _ _=>true
 | _=>false
def s3 (r:Nat):AV->Prop
 | .ref q _ _=>q=r
 | .own q _ _=>q=r
 | .d _=>True
 | _=>False
def wW (G:ay) (e:Env) (o:Op) (r:Nat):Prop:=match o with
 | .load _ p=>match bC G e p with
  | some v=>s3 r v
  | none=>False
 | .indexAddr _ p _=>match bC G e p with
  | some v=>s3 r v
  | none=>False
 | .slice _ p _ _ _=>match bC G e p with
  | some v=>s3 r v
  | none=>False
 | .store _ p _=>match bC G e p with
  | some (.ref q _ _)=>q=r
  | _=>False
 | .mapUpdate _ p _ _=>match bC G e p with
  | some (.mp q)=>q=r
  | _=>False
 | _=>False
def r3 (G:ay) (fp:List (Nat×Nat)) (e:Env) (i:Nat) (o:Op):Prop:=match fp.lookup i with
 | some r=>wW G e o r
 | none=>True
def zD (fp:List (Nat×Nat)) (ops:Array Oper) (i j:Nat) (oi oj:Oper):Bool:=kU ops oi oj || (oi.apart ops oj && AR oi.op && AR oj.op && match fp.lookup i,fp.lookup j with
 | some r,some r'=>!(r == r')
 | _,_=>false)
section
variable {P:Program} {T:Ty} {Mv X:Nat->Prop} {G:ay} {N:Fr} {ops:Array Oper} {fp:List (Nat×Nat)}
def nc (H:Heap) (r:Nat):Option Row->Heap
 | none=>H
 | some row=>aY H r row
theorem Hd {H:Heap} {r q:Nat} {u:Option Row} (h:q≠r):nc H r u q=H q:=by
 cases u with
 | none=>rfl
 | some row=>simp[nc,aY,h]
theorem Te {H:Heap} {r q:Nat} {u v:Option Row} (h:r≠q):nc (nc H r u) q v=nc (nc H q v) r u:=by
 cases u<;>cases v<;>try rfl
 funext i;by_cases h1:i=r<;>by_cases h2:i=q<;>simp[nc,aY,h1,h2,h,akI h]
theorem acm {H H2:Heap} {t:TypeId} {v:AV} {r:Nat} (hv:s3 r v) (h:H2 r=H r):oF T H2 t v=oF T H t v:=by
 cases v with
 | d x=>cases x<;>rfl
 | ref q ee j=>simp only[s3]at hv;subst hv;simp only[oF,h]
 | own q off n=>rfl
 | _=>exact hv.elim
theorem aa8 {H H2:Heap} {t:TypeId} {v y:AV} {r:Nat} (hv:s3 r v) (h:H2 r=H r):rM T H2 t v y=rM T H t v y:=by
 cases v with
 | d x=>cases x<;>(cases y<;>first | rfl | (rename_i z;cases z<;>first | rfl | (rename_i z;cases z<;>rfl)))
 | ref q ee j=>cases y<;>first | rfl | (rename_i z;cases z<;>first | rfl | (rename_i z;cases z<;>rfl))
 | own q off n=>
  simp only[s3]at hv;subst hv
  cases y with
  | d z=>cases z with
   | v z=>cases z<;>first | rfl | simp only[rM,h]
   | _=>rfl
  | _=>rfl
 | _=>exact hv.elim
theorem agJ {H H2:Heap} {t:TypeId} {v:AV} {lo hi:Option Int} {r:Nat} (hv:s3 r v) (h:H2 r=H r):sI T H2 t v lo hi=sI T H t v lo hi:=by
 cases v with
 | d x=>cases x<;>first | rfl | (rename_i z;cases z<;>rfl)
 | ref q ee j=>rfl
 | own q off n=>simp only[s3]at hv;subst hv;simp only[sI,h]
 | _=>exact hv.elim
theorem Ex.HF {o:Oper} {e:Env} {H H':Heap} {x:AV} {r:Nat} (ht:wW G e o.op r) (h:Ex P T Mv G o e H x H') :
  ∃ u,H'=nc H r u/\∀ H2,H2 r=H r->Ex P T Mv G o e H2 x (nc H2 r u):=by
 obtain⟨dst,op,type,pos,after,guard⟩:=o;dsimp only at ht;cases op<;>simp only[wW]at ht
 case load t p=>
  split at ht
  .rename_i v hp;refine⟨none,?_,fun H2 h2=>?_⟩
   .unfold Ex at h;simp only[dP,gE,ajM,if_false]at h;obtain⟨c,_,_,rfl⟩:=h;rfl
   .unfold Ex at h ⊢;simp only[dP,gE,ajM,if_false]at h ⊢;obtain⟨c,h1,h3,rfl⟩:=h;refine⟨c,?_,h3,rfl⟩;simp only[rd,hp,alp]at h1 ⊢;rw[acm ht h2];exact h1
  .exact ht.elim
 case indexAddr t p y=>
  split at ht
  .rename_i v hp;refine⟨none,?_,fun H2 h2=>?_⟩
   .unfold Ex at h;simp only[dP,gE,ajM,if_false]at h;obtain⟨c,_,_,rfl⟩:=h;rfl
   .unfold Ex at h ⊢;simp only[dP,gE,ajM,if_false]at h ⊢;obtain⟨c,h1,h3,rfl⟩:=h;refine⟨c,?_,h3,rfl⟩;simp only[rd,hp]at h1 ⊢
    cases hy:bC G e y with
    | none=>simp[hy]at h1
    | some b=>simp only[hy]at h1 ⊢;rw[aa8 ht h2];exact h1
  .exact ht.elim
 case slice t p lo hi mx=>
  split at ht
  .rename_i v hp;refine⟨none,?_,fun H2 h2=>?_⟩
   .unfold Ex at h;simp only[dP,gE,ajM,if_false]at h;obtain⟨c,_,_,rfl⟩:=h;rfl
   .unfold Ex at h ⊢;simp only[dP,gE,ajM,if_false]at h ⊢;obtain⟨c,h1,h3,rfl⟩:=h;refine⟨c,?_,h3,rfl⟩;simp only[rd,hp]at h1 ⊢;by_cases gK:mx.isNone=true
    .rw[if_pos gK]at h1 ⊢
     cases ye:bound G e lo with
     | none=>simp[ye]at h1
     | some l=>
      cases Ao:bound G e hi with
      | none=>simp[ye,Ao]at h1
      | some l2=>simp only[ye,Ao]at h1 ⊢;rw[agJ ht h2];exact h1
    .rw[if_neg gK]at h1;cases h1
  .exact ht.elim
 case store t p y=>
  split at ht
  .rename_i q ee j hp;subst ht;unfold Ex at h;simp only[dP,gE,if_true]at h;obtain⟨c,h1,h3⟩:=h
   cases dst with
   | some d=>simp[wr]at h1
   | none=>
    simp only[wr,hp]at h1
    cases hy:bC G e y with
    | none=>simp[hy]at h1
    | some v=>
     simp only[hy]at h1;split at h1
     .rename_i ty cells hr;split at h1
      .rename_i he;split at h1
       .rename_i c' vI hs;simp only[IS,ajH,St.mk.injEq,true_and]at h1;obtain⟨rfl,rfl,rfl⟩:=h1;refine⟨some (.box ty vI),rfl,fun H2 h2=>?_⟩;unfold Ex;simp only[dP,gE,if_true];exact⟨_,by simp[wr,hp,hy,h2,hr,he,hs,nc],h3⟩
       .cases h1
      .cases h1
     .rename_i ty sz els hr;split at h1
      .rename_i c' oQ hs;simp only[IS,ajH,St.mk.injEq,true_and]at h1;obtain⟨rfl,rfl,rfl⟩:=h1;refine⟨some (.sl ty sz oQ),rfl,fun H2 h2=>?_⟩;unfold Ex;simp only[dP,gE,if_true];exact⟨_,by simp[wr,hp,hy,h2,hr,hs,nc],h3⟩
      .cases h1
     .cases h1
     .cases h1
     .cases h1
  .exact ht.elim
 case mapUpdate t p y z=>
  split at ht
  .rename_i q hp;subst ht;unfold Ex at h;simp only[dP,gE,if_true]at h;obtain⟨c,h1,h3⟩:=h
   cases dst with
   | some d=>simp[wr]at h1
   | none=>
    simp only[wr,hp]at h1;split at h1
    .rename_i r' key dx e1 e2 e3;simp only[IS,AV.mp.injEq]at e1;subst e1;split at h1
     .rename_i ty ents hr;split at h1
      .rename_i c' nv hs;simp only[IS,ajH,St.mk.injEq,true_and]at h1;obtain⟨rfl,rfl,rfl⟩:=h1;refine⟨some (.mp ty nv),rfl,fun H2 h2=>?_⟩;unfold Ex;simp only[dP,gE,if_true];exact⟨_,by simp[wr,hp,e2,e3,h2,hr,hs,nc],h3⟩
      .cases h1
     .cases h1
    .cases h1
  .exact ht.elim
theorem Mm {o:Op} {e e':Env} {r:Nat} (ha:gq o e e') (h:wW G e o r):wW G e' o r:=by
 cases o<;>simp only[wW]at h ⊢<;>try exact h
 case load t p=>
  have:bC G e p=bC G e' p:=e8 fun t ht=>ha t (by simp[Op.operands,ht]);rw[<- this];exact h
 case indexAddr t p y=>
  have:bC G e p=bC G e' p:=e8 fun t ht=>ha t (by simp[Op.operands,ht]);rw[<- this];exact h
 case slice t p lo hi mx=>
  have:bC G e p=bC G e' p:=e8 fun t ht=>ha t (by simp[Op.operands,ht]);rw[<- this];exact h
 case store t p y=>
  have:bC G e p=bC G e' p:=e8 fun t ht=>ha t (by simp[Op.operands,ht]);rw[<- this];exact h
 case mapUpdate t p y z=>
  have:bC G e p=bC G e' p:=e8 fun t ht=>ha t (by simp[Op.operands,ht]);rw[<- this];exact h
theorem HG {o:Op} {e e':Env} {i:Nat} (ha:gq o e e') (h:r3 G fp e i o):r3 G fp e' i o:=by
 unfold r3 at h ⊢;split
 .rename_i r hr;simp only[hr]at h;exact Mm ha h
 .trivial
def GStep (P:Program) (T:Ty) (Mv:Nat->Prop) (G:ay) (N:Fr) (ops:Array Oper) (fp:List (Nat×Nat)) (i:Nat) (o:Oper) (σ aG:St):Prop:=Bt P T Mv G N ops o σ aG/\(jb ops σ.env o=some true->r3 G fp σ.env i o.op)
theorem W9 {x y:Oper} (h:kU ops x y=true):kindOf x.op≠9/\kindOf y.op≠9:=by
 simp only[kU,IT]at h;obtain⟨_,h⟩:=h;refine⟨fun e=>by rw[e]at h;simp[vk]at h,fun e=>?_⟩;rw[e]at h
 revert h
 rcases kinds x.op with k | k | k | k | k | k<;>rw[k]<;>simp[vk]
theorem Rt {o:Op} (h:AR o=true):kindOf o≠9:=by
 unfold AR at h;split at h
 .have:=LI ‹_›;simp only[kindOf];omega
 .simp[kindOf]
 .simp[kindOf]
 .simp[kindOf]
 .simp[kindOf]
 .cases h
theorem YD {i j:Nat} {oi oj:Oper} (hc:zD fp ops i j oi oj=true) {σ aT gU:St} (h1:GStep P T Mv G N ops fp i oi σ aT) (h2:GStep P T Mv G N ops fp j oj aT gU) :
  ∃ jl,GStep P T Mv G N ops fp j oj σ jl/\GStep P T Mv G N ops fp i oi jl gU:=by
 have hk:kindOf oi.op≠9/\kindOf oj.op≠9:=by
  simp only[zD,akp,IT]at hc
  rcases hc with hc | ⟨⟨⟨_,h3⟩,h4⟩,_⟩
  .exact W9 hc
  .exact⟨Rt h3,Rt h4⟩
 obtain⟨yb,wm⟩:=hk;obtain⟨s1,t1⟩:=h1;obtain⟨s2,t2⟩:=h2;obtain⟨x,H1,Ee,rfl⟩:=(w9 yb).1 s1;obtain⟨y,H2,zf,rfl⟩:=(w9 wm).1 s2;obtain⟨e,H⟩:=σ;dsimp only at s1 s2 Ee zf t1 t2 ⊢
 have eu:oi.apart ops oj=true:=by
  simp only[zD,kU,akp,IT]at hc
  rcases hc with hc | hc
  .exact hc.1
  .exact hc.1.1.1
 obtain⟨a1,_,bf⟩:=je eu (e:=e) (v:=x);obtain⟨_,a2,_⟩:=je eu (e:=e) (v:=y);have wj:=HK (o:=oj) (e:=aL e oi.dst x) (e':=e) a1;have wi:=HK (o:=oi) (e:=aL e oj.dst y) (e':=e) a2;have eU:gq oj.op (aL e oi.dst x) e:=fun t ht=>a1 t (kK ht);have fB:gq oi.op e (aL e oj.dst y):=fun t ht=>(a2 t (kK ht)).symm
 have main:∃ H3,Sx P T Mv G N ops oj e H y H3/\Sx P T Mv G N ops oi (aL e oj.dst y) H3 x H2:=by
  simp only[zD,akp,IT]at hc
  rcases hc with hc | ⟨_,x5⟩
  .exact zB hc Ee zf yb wm
  .cases cm:fp.lookup i with
   | none=>simp[cm]at x5
   | some r=>
    cases x3:fp.lookup j with
    | none=>simp[cm,x3]at x5
    | some r'=>
     have hr:r≠r':=by simpa[cm,x3]using x5
     obtain⟨di,Ee⟩:=Ee;obtain⟨dj,zf⟩:=zf;rw[wj]at zf
     rcases Ee with⟨w1,e1⟩ | ⟨w1,rfl,rfl⟩
     .have t1:=t1 w1;simp only[r3,cm]at t1;obtain⟨u,rfl,LJ⟩:=e1.HF t1
      rcases zf with⟨w2,e2⟩ | ⟨w2,rfl,rfl⟩
      .have t2:=t2 (by rw[wj];exact w2);simp only[r3,x3]at t2;have e2:=e2.congr wm eU;obtain⟨u',rfl,LK⟩:=e2.HF (Mm eU t2);refine⟨nc H r' u',⟨dj,.inl ⟨w2,LK H (Hd (akI hr)).symm⟩⟩,⟨di,.inl ⟨by rw[wi];exact w1,?_⟩⟩⟩;rw[Te hr];exact (LJ _ (Hd hr)).congr yb fB
      .exact⟨H,⟨dj,.inr ⟨w2,rfl,rfl⟩⟩,⟨di,.inl ⟨by rw[wi];exact w1,e1.congr yb fB⟩⟩⟩
     .rcases zf with⟨w2,e2⟩ | ⟨w2,rfl,rfl⟩
      .exact⟨H2,⟨dj,.inl ⟨w2,e2.congr wm eU⟩⟩,⟨di,.inr ⟨by rw[wi];exact w1,rfl,rfl⟩⟩⟩
      .exact⟨_,⟨dj,.inr ⟨w2,rfl,rfl⟩⟩,⟨di,.inr ⟨by rw[wi];exact w1,rfl,rfl⟩⟩⟩
 obtain⟨H3,f1,f2⟩:=main;refine⟨⟨aL e oj.dst y,H3⟩,⟨(w9 wm).2 ⟨y,H3,f1,rfl⟩,fun hw=>?_⟩,⟨(w9 yb).2 ⟨x,H2,f2,by rw[ig bf]⟩,fun hw=>?_⟩⟩
 .exact HG eU (t2 (by rw[wj];exact hw))
 .exact HG fB (t1 (by rw[<- wi];exact hw))
def T1 (P:Program) (T:Ty) (Mv:Nat->Prop) (G:ay) (N:Fr) (ops:Array Oper) (fp:List (Nat×Nat)):List Nat->St->St->Prop:=iJ (GStep P T Mv G N ops fp) ops
def Mj (fp:List (Nat×Nat)) (ops:Array Oper):Bool:=oH (zD fp ops) (List.range ops.size) ops
def stepG (P:Program) (T:Ty) (Mv:Nat->Prop) (G:ay) (N:Fr) (ops:Array Oper) (fp:List (Nat×Nat)) (i:Nat) (o:Oper) (σ:St) (K:St->Prop):Prop:=eI N o/\match jb ops σ.env o with
 | some b=>if b=true then r3 G fp σ.env i o.op/\(match dP o.op with
  | some c=>nX P G c σ o.dst K
  | none=>qT T G Mv o σ K) else K ⟨aL σ.env o.dst da,σ.H⟩
 | none=>False
def tQ (P:Program) (T:Ty) (Mv:Nat->Prop) (G:ay) (N:Fr) (ops:Array Oper) (fp:List (Nat×Nat)) (K:St->Prop):Nat->List Oper->St->Prop
 | _,[],σ=>K σ
 | i,o :: rest,σ=>stepG P T Mv G N ops fp i o σ (tQ P T Mv G N ops fp K (i+1) rest)
theorem jC {K:St->Prop} {i:Nat} {o:Oper} {rest:List Oper} {σ:St} (h:∀ K':St->Prop,(∀ τ,tQ P T Mv G N ops fp K (i+1) rest τ->K' τ)->stepG P T Mv G N ops fp i o σ K'):tQ P T Mv G N ops fp K i (o :: rest) σ:=h _ fun _ h=>h
theorem kN {K:St->Prop} {i:Nat} {σ:St} (h:K σ):tQ P T Mv G N ops fp K i [] σ:=h
theorem ahd {K:St->Prop}:∀ (l:List Oper) (k:Nat) (σ:St),(∀ j,l[j]? = ops[k+j]?)->tQ P T Mv G N ops fp K k l σ->∃ cq,K cq/\T1 P T Mv G N ops fp (List.range' k l.length) σ cq:=by
 intro l
 induction l with
 | nil=>intro k σ _ h;exact⟨σ,h,rfl⟩
 | cons o l ih=>
  intro k σ hl h
  have h0:ops[k]? = some o:=by simpa using (hl 0).symm
  have fo:∀ j,l[j]? = ops[k+1+j]?:=fun j=>by have:=hl (j+1);simpa[akv,ala 1 j]using this
  unfold tQ stepG at h;obtain⟨hd,h⟩:=h;rw[ajP,alq]
  have fin:∀ aT,GStep P T Mv G N ops fp k o σ aT->tQ P T Mv G N ops fp K (k+1) l aT->∃ cq,K cq/\T1 P T Mv G N ops fp (k :: List.range' (k+1) l.length) σ cq:=by
   intro aT hs hq;obtain⟨cq,hk,hr⟩:=ih (k+1) aT fo hq;exact⟨cq,hk,o,h0,aT,hs,hr⟩
  split at h
  .rename_i b hb;split at h
   .rename_i qz;subst qz;obtain⟨ht,h⟩:=h;split at h
    .rename_i c hc;obtain⟨y,hy,h⟩:=h;refine fin _ ⟨⟨hd,.inl ⟨hb,?_⟩⟩,fun _=>ht⟩ h;unfold n5;simp only[hc];exact⟨y,hy,rfl⟩
    .rename_i hc;unfold qT at h;split at h
     .rename_i hw;split at h
      .rename_i c x aT h1;obtain⟨cK,h⟩:=h;refine fin _ ⟨⟨hd,.inl ⟨hb,?_⟩⟩,fun _=>ht⟩ h;unfold n5;simp only[hc];rw[if_pos hw];exact⟨c,x,aT,h1,cK,rfl⟩
      .exact h.elim
     .rename_i hw;split at h
      .rename_i c x h1;obtain⟨cK,h⟩:=h;refine fin _ ⟨⟨hd,.inl ⟨hb,?_⟩⟩,fun _=>ht⟩ h;unfold n5;simp only[hc];rw[if_neg hw];exact⟨c,x,h1,cK,rfl⟩
      .exact h.elim
   .rename_i qz
    have:b=false:=by simpa using qz
    subst this;refine fin _ ⟨⟨hd,.inr ⟨hb,rfl⟩⟩,fun hw=>by rw[hb]at hw;cases hw⟩ h
  .exact h.elim
theorem NM (hg:Good P T) (hm:P.follows .mixedOrders=true) (fp:List (Nat×Nat)) {id:Nat} (bX:Mj fp ops=true) {Q:Exit->St->Prop} {σ:St} (h:tQ P T Mv G N ops fp (fun aG=>Q .normal aG) 0 ops.toList σ):AW P Mv X G N (.region id ops true) Q σ:=vA (Step:=GStep P T Mv G N ops fp) (cp:=zD fp ops) hm (fun i o ho σ aG h w μ a hi _ _ hk=>ze hg h.1 hi ho hk) (fun i j oi oj _ _ hc σ aT gU h1 h2=>YD hc h1 h2) _ bX fun _=>by
 have:=ahd ops.toList 0 σ ak h
 rwa [<- alg,aj8]at this
theorem px (hg:Good P T) (hm:P.follows .mixedOrders=true) (fp:List (Nat×Nat)) (l ns:List Nat) (hM:∀ r,ns.contains r=false->Mv r) {id:Nat} (bX:Mj fp ops=true) {y:Code} {Q:Exit->St->Prop} {σ:St}
  (h:∀ K:St->Prop,(∀ τ:St,AW P Mv X G N y Q (τ.norm l ns)->K τ)->tQ P T Mv G N ops fp K 0 ops.toList σ):AW P Mv X G N (.seq (.region id ops true) y) Q σ:=
 sK (NM hg hm fp bX (h _ fun _ h=>h.norm l ns hM))
theorem sJ (hg:Good P T) (hm:P.follows .mixedOrders=true) (fp:List (Nat×Nat)) {id:Nat} (bX:Mj fp ops=true) {Q:Exit->St->Prop} {σ:St}
  (h:∀ K:St->Prop,(∀ τ:St,Q .normal τ->K τ)->tQ P T Mv G N ops fp K 0 ops.toList σ):AW P Mv X G N (.region id ops true) Q σ:=NM hg hm fp bX (h _ fun _ h=>h)
end
end Go.Av
namespace Go.Av
def jx (fx:List Nat) (r:Nat):Prop:=fx.contains r=false
instance (fx:List Nat) (r:Nat):Decidable (jx fx r):=inferInstanceAs (Decidable (_=_))
theorem ew {fx ns:List Nat} (h:fx.all ns.contains=true):∀ r,ns.contains r=false->jx fx r:=fun r hr=>by
 unfold jx
 cases hc:fx.contains r with
 | false=>rfl
 | true=>
  have:=akz.1 h r (akq.1 hc);rw[this]at hr;cases hr
def MC (P:Program) (G:ay) (fx:List Nat) (g:FuncId) (xs:List AV) (H:Heap) (y:AV) (H2:Heap):Prop:=iA P g/\∀ X,NH P (jx fx) X G g xs H fun x H'=>x=y/\H'=H2
def ni (dy fx:List Nat) (q off n:Nat):AV:=if dy.contains q && !fx.contains q then .dead else .own q off n
def nh (dy fx:List Nat) (q e j:Nat):AV:=if dy.contains q && !fx.contains q then .dead else .ref q e j
def fT (dy:List Nat) (q:Nat):Bool:=!dy.contains q
def nC (H2 H:Heap):Heap:=fun q=>match H2 q with
 | some row=>some row
 | none=>H q
theorem aam (l2 l:List (Nat×Row)):nC (aq l2) (aq l)=aq (l2 ++ l):=by
 funext q
 induction l2 with
 | nil=>rfl
 | cons p l2 ih=>
  unfold nC at ih ⊢;simp only[aq,akF,List.lookup]at ih ⊢;cases h:(q == p.1)<;>simp only[h]at ih ⊢;exact ih
section
variable {P:Program} {T:Ty} {Mv X:Nat->Prop} {G:ay} {N:Fr} {w:World} {μ:Mu} {a:Act} {σ:St}
theorem RV.zl {w':World} {X':Nat->Prop} {aI:Mu} {o f:Nat->Nat->Nat->AV} (hD:∀ u d,RD w (XX X μ) u d->RD w' (XX X' aI) u d) (ho:∀ u r off n,RV w X μ u (.own r off n)->RV w' X' aI u (o r off n)) (hf:∀ u r e j,RV w X μ u (.ref r e j)->RV w' X' aI u (f r e j)) :
  ∀ {v:Value} {x:AV},RV w X μ v x->RV w' X' aI v (x.tr o f):=by
 intro v x hr
 induction hr with
 | d h'=>exact .d (hD _ _ h')
 | own hm h'=>exact ho _ _ _ _ (.own hm h')
 | ref hm hb=>exact hf _ _ _ _ (.ref hm hb)
 | agg hn _ ih=>
  rw[AV.tr,AV.Bv];refine Dx (.agg (by simpa using hn) fun j u c hu hc=>?_);rw[ajK]at hc;obtain⟨c',eb,rfl⟩:=AS.1 hc;exact ih j u c' hu eb
 | bz hn _ ih=>
  rw[AV.tr,AV.Bv];refine GR (.bz (by simpa using hn) fun j u c hu hc=>?_);rw[ajK]at hc;obtain⟨c',eb,rfl⟩:=AS.1 hc;exact ih j u c' hu eb
 | cf _ ih=>exact LV ih
 | bm _ ih=>exact .bm ih
 | fn hn _ ih=>
  rw[AV.tr,AV.Bv];refine LU (by simpa using hn) fun j u c hu hc=>?_;rw[ajK]at hc;obtain⟨c',eb,rfl⟩:=AS.1 hc;exact ih j u c' hu eb
 | mp hm hb=>
  rename_i r b m;have h0:=hf _ _ _ _ (RV.ref (e:=0) (j:=0) hm hb);unfold AV.tr;split
  .rename_i q' e' j' hq;rw[hq]at h0;obtain⟨m',b',cF,bk,e⟩:=h0.lG;simp only[Value.pointer.injEq,IS,Addr.mk.injEq]at e;obtain⟨rfl,_⟩:=e;exact .mp cF bk
  .exact .dead _
 | dead u=>exact .dead u
theorem RV.lift {w':World} {X':Nat->Prop} {aI:Mu} (hD:∀ u d,RD w (XX X μ) u d->RD w' (XX X' aI) u d) (gm:∀ q m,μ q=some m->aI q=some m):∀ {v:Value} {x:AV},RV w X μ v x->RV w' X' aI v x:=by
 intro v x hr
 induction hr with
 | d h'=>exact .d (hD _ _ h')
 | own hm h'=>exact .own (gm _ _ hm) h'
 | ref hm hb=>exact .ref (gm _ _ hm) hb
 | agg hn _ ih=>exact .agg hn ih
 | bz hn _ ih=>exact .bz hn ih
 | cf _ ih=>exact .cf ih
 | bm _ ih=>exact .bm ih
 | fn hn _ ih=>exact .fn hn ih
 | mp hm hb=>exact .mp (gm _ _ hm) hb
 | dead u=>exact .dead u
theorem kz.zl {w':World} {X':Nat->Prop} {aI:Mu} {o f:Nat->Nat->Nat->AV} {m:jE} (hb:∀ b,m.fk=some b->w'.heap[b]? = w.heap[b]?) (hD:∀ u d,RD w (XX X μ) u d->RD w' (XX X' aI) u d) (hV:∀ u x,RV w X μ u x->RV w' X' aI u (x.tr o f)) {row:Row} (ok:kz w X μ m row):kz w' X' aI m (row.tr o f):=by
 cases ok with
 | nil h1 h2=>exact .nil h1 h2
 | sl h1 h2 h3 h4 h5 h6 h7 h8 h9=>exact .sl h1 h2 ((hb _ h1).trans h3) h4 h5 h6 h7 h8 fun i j el c he hc=>let ⟨u,hu,hr⟩:=h9 i j el c he hc;⟨u,hu,hD _ _ hr⟩
 | box h1 h2 h3 h4 h5 h6 h7=>
  refine .box h1 rfl h3 ((hb _ h1).trans h4) (by simpa using h5) (hx:=by simpa using h7) fun j u c hu hc=>?_;rw[ajK]at hc;obtain⟨c',eb,rfl⟩:=AS.1 hc;exact hV _ _ (h6 j u c' hu eb)
 | mp h1 h2 h3 h4=>exact .mp h1 ((hb _ h1).trans h2) h3 fun i e p he hp=>let ⟨a,b,c⟩:=h4 i e p he hp;⟨a,b,hD _ _ c⟩
 | it h1 h2 h3=>exact .it h1 ((hb _ h1).trans h2) (hD _ _ h3)
theorem kz.lift {w':World} {X':Nat->Prop} {aI:Mu} {m:jE} (hb:∀ b,m.fk=some b->w'.heap[b]? = w.heap[b]?) (hD:∀ u d,RD w (XX X μ) u d->RD w' (XX X' aI) u d) (gm:∀ q m,μ q=some m->aI q=some m) {row:Row} (ok:kz w X μ m row):kz w' X' aI m row:=by
 cases ok with
 | nil h1 h2=>exact .nil h1 h2
 | sl h1 h2 h3 h4 h5 h6 h7 h8 h9=>exact .sl h1 h2 ((hb _ h1).trans h3) h4 h5 h6 h7 h8 fun i j el c he hc=>let ⟨u,hu,hr⟩:=h9 i j el c he hc;⟨u,hu,hD _ _ hr⟩
 | box h1 h2 h3 h4 h5 h6 h7=>exact .box h1 rfl h3 ((hb _ h1).trans h4) h5 (fun j u c hu hc=>(h6 j u c hu hc).lift hD gm) h7
 | mp h1 h2 h3 h4=>exact .mp h1 ((hb _ h1).trans h2) h3 fun i e p he hp=>let ⟨a,b,c⟩:=h4 i e p he hp;⟨a,b,hD _ _ c⟩
 | it h1 h2 h3=>exact .it h1 ((hb _ h1).trans h2) (hD _ _ h3)
theorem tM {keep:Nat->Bool} {b:Nat} (h:jz (cC keep μ) b):jz μ b:=let ⟨r,m,hr,hb⟩:=h;⟨r,m,(kL hr).2,hb⟩
theorem Ic {dy:List Nat} {b:Nat}:XX (XX X (cC (fT dy) μ)) (cC dy.contains μ) b↔XX X μ b:=by
 constructor
 .rintro ((h | h) | h)
  .exact .inl h
  .exact .inr (tM h)
  .exact .inr (tM h)
 .rintro (h | ⟨r,m,hr,hb⟩)
  .exact .inl (.inl h)
  .cases hk:dy.contains r with
   | true=>exact .inr ⟨r,m,by simp only[cC,hk,if_true];exact hr,hb⟩
   | false=>exact .inl (.inr ⟨r,m,by simp only[cC,fT,hk,akG,if_true];exact hr,hb⟩)
theorem eA.part {H:Heap} (hs:eA w X μ H) (dy:List Nat):eA w (XX X (cC (fT dy) μ)) (cC dy.contains μ) (eM dy.contains (fA dy) (fy dy) H)/\
  ∀ {u:Value} {x:AV},RV w X μ u x->RV w (XX X (cC (fT dy) μ)) (cC dy.contains μ) u (x.tr (fA dy) (fy dy)):=by
 have hD:∀ u d,RD w (XX X μ) u d->RD w (XX (XX X (cC (fT dy) μ)) (cC dy.contains μ)) u d:=fun u d h=>h.sub fun b=>Ic.1
 have hV:∀ u x,RV w X μ u x->RV w (XX X (cC (fT dy) μ)) (cC dy.contains μ) u (x.tr (fA dy) (fy dy)):=fun u x=>RV.zl hD (fun u r off n h=>by
   unfold fA;split
   .rename_i hk;obtain⟨m,hm,hh⟩:=h.lF;exact .own (by simp only[cC,hk,if_true];exact hm) hh
   .exact .dead u) (fun u r e j h=>by
   unfold fy;split
   .rename_i hk;obtain⟨m,b,hm,hb,rfl⟩:=h.lG;exact .ref (by simp only[cC,hk,if_true];exact hm) hb
   .exact .dead u)
 refine⟨⟨fun r row hr=>?_,fun r m hr=>?_,fun q q' m1 m2 b h1 h2 e9 ea=>hs.inj q q' m1 m2 b (kL h1).2 (kL h2).2 e9 ea,fun q m b hq hb hX=>?_,fun b hb=>hb.elim (hs.fits b) fun h=>hs.mF (tM h)⟩,fun h=>hV _ _ h⟩
 .unfold eM at hr;split at hr
  .rename_i hk;obtain⟨pn,h0,rfl⟩:=AS.1 hr;obtain⟨m,hm,ok⟩:=hs.rows r pn h0;exact⟨m,by simp only[cC,hk,if_true];exact hm,ok.zl (fun _ _=>rfl) hD hV⟩
  .cases hr
 .obtain⟨hk,hm⟩:=kL hr;obtain⟨row,dJ⟩:=hs.lq r m hm;exact⟨row.tr (fA dy) (fy dy),by simp only[eM,hk,if_true,dJ,akb]⟩
 .obtain⟨hk,hm⟩:=kL hq
  rcases hX with h | ⟨r,mr,hr,JM⟩
  .exact hs.frame q m b hm hb h
  .obtain⟨gy,Aw⟩:=kL hr;have:=hs.inj q r m mr b hm Aw hb JM;subst this;simp only[fT,hk,Bool.not_true,ajM]at gy
theorem l8.R3 {fx dy:List Nat} {g:FuncId} {nP xs:List AV} {H1 H2:Heap} {y:AV} (hc:MC P G fx g xs H1 y H2) (hx:nP.map (AV.tr (fA dy) (fy dy))=xs) (hH:eM dy.contains (fA dy) (fy dy) σ.H=H1)
  (hd:∀ q,(H2 q).isSome=true->dy.contains q=true\/σ.H q=none) (hm:∀ r,dy.contains r=true->fx.contains r=false->Mv r) {K:AV->St->Prop}
  (h:K y ⟨lK (ni dy fx) (nh dy fx) σ.env,nC H2 (eM (fT dy) (ni dy fx) (nh dy fx) σ.H)⟩):l8 P Mv X G N g nP σ K:=by
 refine⟨hc.1,fun w μ a vs hi hn hv=>?_⟩;obtain⟨eZ,jO⟩:=hi.bq.part dy;rw[hH]at eZ;refine (hc.2 (XX X (cC (fT dy) μ)) w (cC dy.contains μ) vs eZ (fun g x hx=>(hi.jf g x hx).sub fun b=>Ic.1) (by rw[hn,<- hx,aki]) fun i u x hu qN=>?_).mono ?_
 .rw[<- hx,ajK]at qN;obtain⟨x0,wJ,rfl⟩:=AS.1 qN;exact jO (hv i u x0 hu wJ)
 .rintro e w' ⟨v,x,H',jZ,rfl,⟨rfl,rfl⟩,hr,fi,aW⟩
  have Z0:∀ q m,jZ q=some m->dy.contains q=true\/μ q=none:=fun q m hq=>by
   obtain⟨row,dJ⟩:=fi.lq q m hq
   rcases hd q (by rw[dJ];rfl)with h | h
   .exact .inl h
   .exact .inr (hi.bq.tK h)
  let aI:Mu:=fun q=>match jZ q with
   | some m=>some m
   | none=>cC (fT dy) μ q
  have m2:∀ q m,jZ q=some m->aI q=some m:=fun q m hq=>by simp only[aI,hq]
  have mr:∀ q m,dy.contains q=false->μ q=some m->aI q=some m:=fun q m hk hq=>by
   have h2:jZ q=none:=by
    cases h2:jZ q with
    | none=>rfl
    | some m'=>
     rcases Z0 q m' h2 with h | h
     .rw[hk]at h;cases h
     .rw[hq]at h;cases h
   simp only[aI,h2,cC,fT,hk,akG,if_true,hq]
  have of:∀ q m,aI q=some m->jZ q=some m\/(jZ q=none/\dy.contains q=false/\μ q=some m):=fun q m hq=>by
   cases h2:jZ q with
   | some m'=>simp only[aI,h2]at hq;exact .inl hq
   | none=>
    simp only[aI,h2]at hq;obtain⟨hk,hm⟩:=kL hq;exact .inr ⟨rfl,by simpa[fT]using hk,hm⟩
  have same:∀ b,b < w.heap.size->¬ jz (cC dy.contains μ) b->w'.heap[b]? = w.heap[b]?/\¬ jz jZ b:=aW.same
  have Af:∀ b,XX X aI b->XX (XX X (cC (fT dy) μ)) jZ b:=fun b hb=>by
   rcases hb with hb | ⟨q,m,hq,lx⟩
   .exact .inl (.inl hb)
   .rcases of q m hq with h2 | ⟨_,hk,hm⟩
    .exact .inr ⟨q,m,h2,lx⟩
    .exact .inl (.inr ⟨q,m,by simp only[cC,fT,hk,akG,if_true];exact hm,lx⟩)
  have hD:∀ u d,RD w (XX X μ) u d->RD w' (XX X aI) u d:=fun u d h=>h.mono aW.size fun b hb hX=>by
   obtain⟨h1,h2⟩:=same b hb fun hr=>hX (.inr (tM hr));refine⟨h1,fun Zs=>?_⟩
   rcases Zs with h | ⟨q,m,hq,lx⟩
   .exact hX (.inl h)
   .rcases of q m hq with h3 | ⟨_,_,hm⟩
    .exact h2 ⟨q,m,h3,lx⟩
    .exact hX (.inr ⟨q,m,hm,lx⟩)
  have Pu:∀ u d,RD w' (XX (XX X (cC (fT dy) μ)) jZ) u d->RD w' (XX X aI) u d:=fun u d h=>h.sub Af
  have stay:∀ q m,(dy.contains q && !fx.contains q)=false->μ q=some m->aI q=some m:=fun q m hk hq=>by
   cases hl:dy.contains q with
   | false=>exact mr q m hl hq
   | true=>
    rw[hl,Bool.true_and]at hk
    have hfx:fx.contains q=true:=by simpa using hk
    exact m2 q m (aW.kept q m (by simp only[cC,hl,if_true];exact hq) (by unfold jx;rw[hfx];simp))
  have hV:∀ u x,RV w X μ u x->RV w' X aI u (x.tr (ni dy fx) (nh dy fx)):=fun u x=>RV.zl hD (fun u r off n h=>by
    unfold ni;split
    .exact .dead u
    .rename_i hk;obtain⟨m,hm,hh⟩:=h.lF
     exact .own (stay r m (by simpa using hk) hm) hh) (fun u r e j h=>by
    unfold nh;split
    .exact .dead u
    .rename_i hk;obtain⟨m,b,hm,hb,rfl⟩:=h.lG
     exact .ref (stay r m (by simpa using hk) hm) hb)
  refine⟨v,x,_,aI,rfl,h,⟨⟨fun q row hq=>?_,fun q m hq=>?_,fun q q' m1 mm b h1 h2 e9 ea=>?_,fun q m b hq hb=>?_,fun b hb=>akd (hi.bq.fits b hb) aW.size⟩,⟨hi.env.defers,hi.env.size,fun i x hx=>?_⟩,fun g x hx=>hD _ _ (hi.jf g x hx)⟩,hr.lift Pu m2,aW.size,aW.os,aW.tape,aW.output,fun b hb u9=>?_,fun r m hr hn=>?_⟩
  .simp only[nC]at hq;split at hq
   .rename_i y5 h2;obtain rfl:=AI hq;obtain⟨m,hm,ok⟩:=fi.rows q y5 h2;exact⟨m,m2 q m hm,ok.lift (fun _ _=>rfl) Pu m2⟩
   .unfold eM at hq;split at hq
    .rename_i hk
     have gy:dy.contains q=false:=by simpa[fT]using hk
     obtain⟨pn,h0,rfl⟩:=AS.1 hq;obtain⟨m,hm,ok⟩:=hi.bq.rows q pn h0;refine⟨m,mr q m gy hm,ok.zl (fun b hb=>(same b (ok.mF hb) fun ⟨r,mr',ow,JM⟩=>?_).1) hD hV⟩;obtain⟨wo,Aw⟩:=kL ow;have:=hi.bq.inj q r m mr' b hm Aw hb JM;subst this;rw[gy]at wo;cases wo
    .cases hq
  .simp only[nC]
   rcases of q m hq with h2 | ⟨h2,hk,hm⟩
   .obtain⟨row,dJ⟩:=fi.lq q m h2;exact⟨row,by rw[dJ]⟩
   .have CW:H' q=none:=by
     cases hh:H' q with
     | none=>rfl
     | some row=>obtain⟨m',cF,_⟩:=fi.rows q row hh;rw[h2]at cF;cases cF
    obtain⟨row,dJ⟩:=hi.bq.lq q m hm;exact⟨row.tr (ni dy fx) (nh dy fx),by rw[CW];simp only[eM,fT,hk,akG,if_true,dJ,akb]⟩
  .rcases of q m1 h1 with g1 | ⟨_,k1,g1⟩<;>rcases of q' mm h2 with g2 | ⟨_,k2,g2⟩
   .exact fi.inj q q' m1 mm b g1 g2 e9 ea
   .exact absurd (.inr ⟨q',mm,by simp only[cC,fT,k2,akG,if_true];exact g2,ea⟩) (fi.frame q m1 b g1 e9)
   .exact absurd (.inr ⟨q,m1,by simp only[cC,fT,k1,akG,if_true];exact g1,e9⟩) (fi.frame q' mm b g2 ea)
   .exact hi.bq.inj q q' m1 mm b g1 g2 e9 ea
  .rcases of q m hq with g1 | ⟨_,k1,g1⟩
   .exact fun hX=>fi.frame q m b g1 hb (.inl hX)
   .exact hi.bq.frame q m b g1 hb
  .replace hx:lK (ni dy fx) (nh dy fx) σ.env i=some x:=hx;unfold lK at hx;obtain⟨x0,h0,rfl⟩:=AS.1 hx;obtain⟨u,hu,hr⟩:=hi.env.slot i x0 h0;exact⟨u,hu,hV _ _ hr⟩
  .obtain⟨h1,h2⟩:=same b hb fun hr=>u9 (tM hr);refine⟨h1,fun ⟨q,m,hq,lx⟩=>?_⟩
   rcases of q m hq with h3 | ⟨_,_,hm⟩
   .exact h2 ⟨q,m,h3,lx⟩
   .exact u9 ⟨q,m,hm,lx⟩
  .cases hl:dy.contains r with
   | false=>exact mr r m hl hr
   | true=>
    cases hf:fx.contains r with
    | false=>exact absurd (hm r hl hf) hn
    | true=>exact stay r m (by rw[hl,hf];rfl) hr
theorem cX.mc {fx:List Nat} {g:FuncId} {nP xs:List AV} {b6 gd:List (Nat×Row)} {y:AV} {dst:Option Tmp} {next:St->Prop} (hc:MC P G fx g xs (aq b6) y (aq gd)) (hx:nP.map (AV.tr (fA (b6.map (·.1))) (fy (b6.map (·.1))))=xs)
  (hH:∀ p∈b6,(σ.H p.1).map (Row.tr (fA (b6.map (·.1))) (fy (b6.map (·.1))))=aq b6 p.1) (hd:∀ p∈gd,(b6.map (·.1)).contains p.1=true\/σ.H p.1=none) (hm:∀ r∈b6.map (·.1),fx.contains r=false->Mv r)
  (h:next ⟨aL (lK (ni (b6.map (·.1)) fx) (nh (b6.map (·.1)) fx) σ.env) dst y,nC (aq gd) (eM (fT (b6.map (·.1))) (ni (b6.map (·.1)) fx) (nh (b6.map (·.1)) fx) σ.H)⟩):cX P Mv X G N g nP σ dst next:=by
 refine l8.R3 hc hx (funext (Hq hH)).symm (fun q hq=>?_) (fun r hr=>hm r (akq.1 hr)) h
 have nE:∀ l:List (Nat×Row),(aq l q).isSome=true->∃ p∈l,p.1=q:=by
  intro l
  induction l with
  | nil=>intro h;simp[aq]at h
  | cons p l ih=>
   intro h;simp only[aq,List.lookup]at h
   cases pU:(q == p.1) with
   | true=>exact⟨p,ak,by simpa using (beq_iff_eq.1 pU).symm⟩
   | false=>
    rw[pU]at h;obtain⟨p',h1,h2⟩:=ih h;exact⟨p',by simp[h1],h2⟩
 obtain⟨p,hp,rfl⟩:=nE gd hq;exact hd p hp
def Hn (names:List Nat) (x y:AV):Prop:=match x.tr (fA names) (fy names),y with
 | .d d',.d d=>d'.le d
 | p,q=>p=q
def EY (T:Ty) (rs:List ResultVar) (y:AV) (rows:List (Nat×Row)) (σ:St):Prop:=match w6 T σ rs with
 | some (c,vs)=>c/\Hn (rows.map (·.1)) (oneOf vs) y/\∀ p∈rows,(σ.H p.1).map (Row.tr (fA (rows.map (·.1))) (fy (rows.map (·.1))))=aq rows p.1
 | none=>False
def N9 (T:Ty) (rs:List ResultVar) (y:AV) (rows:List (Nat×Row)):Exit->St->Prop
 | .normal,σ | .ret,σ=>EY T rs y rows σ
 | _,_=>False
theorem aev {names:List Nat} {x y:AV} {u:Value} (h:Hn names x y) (hr:RV w X μ u (x.tr (fA names) (fy names))):RV w X μ u y:=by
 unfold Hn at h;split at h
 .rename_i d' d hx;rw[hx]at hr;exact .d (hr.data.le h)
 .rw[<- h];exact hr
theorem MC.aQ (hg:Good P T) {g:FuncId} {fn:Func} {c:Code} {rs:List ResultVar} {xs:List AV} {H:Heap} {y:AV} {rows:List (Nat×Row)} {fx:List Nat} (hf:P.funcs[g]? = some fn) (hb:fn.body=some c) (hn:(fn.name == "runtime.NumGoroutine")=false) (mj:fn.results=rs.toArray)
  (hN:xs.length<=fn.ntmps) (hfx:fx.all (rows.map (·.1)).contains=true) (h:∀ X,AW P (jx fx) X G ⟨fn.ntmps,[],none⟩ c (N9 T rs y rows) ⟨args xs,H⟩):MC P G fx g xs H y (aq rows):=by
 refine⟨iA.of hf hb hn,fun X w μ vs hs dt bd hv=>?_⟩
 have fin:∀ (w':World) (aI:Mu) (a':Act) (aG:St),EY T rs y rows aG->In w' X G aI ⟨fn.ntmps,[],none⟩ a' aG->Ev (jx fx) w μ w' aI->∃ v,(results fn a'.tmps).run P w' = .ok v w'/\∃ v_1 x H' aI,Ending.returned v=Ending.returned v_1/\(x=y/\H'=aq rows)/\RV w' X aI v_1 x/\eA w' X aI H'/\Ev (jx fx) w μ w' aI:=by
  intro w' aI a' aG he hi aW;unfold EY at he;split at he
  .rename_i c xs hx;obtain⟨hc,he,aaS⟩:=he;obtain⟨v,hv,hr⟩:=MJ (P:=P) hg hi mj hx hc;have hX:∀ b,XX X (cC (rows.map (·.1)).contains aI) b->XX X aI b:=fun b=>BI
   have ho:∀ u r off n,RV w' X aI u (.own r off n)->RV w' X (cC (rows.map (·.1)).contains aI) u (fA (rows.map (·.1)) r off n):=fun u r off n h=>by
    unfold fA;split
    .rename_i hk;exact h.Bi hk
    .exact .dead u
   have hf:∀ u r e j,RV w' X aI u (.ref r e j)->RV w' X (cC (rows.map (·.1)).contains aI) u (fy (rows.map (·.1)) r e j):=fun u r e j h=>by
    unfold fy;split
    .rename_i hk;exact h.Bm hk
    .exact .dead u
   have aO:=hi.tr ho hf;have hH:eM (rows.map (·.1)).contains (fA (rows.map (·.1))) (fy (rows.map (·.1))) aG.H=aq rows:=(funext (Hq aaS)).symm;refine⟨v,hv,v,y,aq rows,_,rfl,⟨rfl,rfl⟩,aev he (RV.tr hX ho hf hr),hH ▸ aO.bq,aW.trans (xH fun r _ _ hr=>ew hfx r hr)⟩
  .exact he.elim
 refine calls_of_wp hf hb ((wpIn_wide (n:=0)).1 (wpIn_mono (h X w μ _ ⟨hs,⟨rfl,by simp;omega,fun i x hx=>?_⟩,dt⟩) fun e a' w' ⟨aI,aG,q,i,ev⟩=>?_))
 .simp only[args]at hx;have hi:i < xs.length:=(BY.1 hx).1
  have wF:vs[i]? = some vs[i]:=by rw[ajZ]
  exact⟨vs[i],by rw[akm aa,wF],hv i _ x wF hx⟩
 .cases e with
  | normal=>
   obtain⟨v,hv,rest⟩:=fin w' aI a' aG q i ev;exact⟨i.env.defers,v,hv,rest⟩
  | ret=>
   obtain⟨v,hv,rest⟩:=fin w' aI a' aG q i ev;exact⟨i.env.defers,v,hv,rest⟩
  | _=>exact q.elim
end
end Go.Av
namespace Go.Av
theorem XU (k:Value) (x:D):uD k x []=[(k,x)]:=rfl
theorem XT (k:Value) (x:D) (p:Value×D) (l:List (Value×D)):uD k x (p :: l)=if iY k p.1 then (k,x) :: l else p :: uD k x l:=by
 unfold uD;rw[ak1]
 cases h:iY k p.1 with
 | true=>simp
 | false=>
  simp only[ajM,if_false];cases List.findIdx? (fun p=>iY k p.1) l<;>simp
theorem adm (x:Value):D.one (.v x)=x.oneCell':=rfl
theorem adj (k:Option Bool) (els:List (List D)):D.one (.sl k els)=true:=rfl
theorem adi (c:List D):D.one (.ip c)=true:=rfl
theorem adf (c:List D):D.one (.agg c)=false:=rfl
theorem adl (c:List D):D.one (.bz c)=false:=rfl
theorem adh (t:TypeId) (x:D):D.one (.cf t x)=true:=rfl
theorem adg (f:Fn) (c:List D):D.one (.fn f c)=true:=rfl
theorem VX (x:D):AV.one (.d x)=x.one:=rfl
theorem V2 (r o n:Nat):AV.one (.own r o n)=true:=rfl
theorem V3 (r e j:Nat):AV.one (.ref r e j)=true:=rfl
theorem V0 (t:TypeId) (x:AV):AV.one (.cf t x)=true:=rfl
theorem VZ (f:Fn) (c:List AV):AV.one (.fn f c)=true:=rfl
theorem VV (c:List AV):AV.one (.agg c)=false:=rfl
theorem V4 (c:List AV):AV.one (.bz c)=false:=rfl
theorem VW (g:FuncId) (x:AV):AV.one (.bm g x)=false:=rfl
theorem V1 (r:Nat):AV.one (.mp r)=true:=rfl
theorem VY:AV.one .dead=false:=rfl
theorem ah1 (x:Value):jD (.d (.v x))=if x.oneCell' then some [.d (.v x)] else none:=rfl
theorem ahZ (k:Option Bool) (els:List (List D)):jD (.d (.sl k els))=some [.d (.sl k els)]:=rfl
theorem ahV (c:List D):jD (.d (.ip c))=some [.d (.ip c)]:=rfl
theorem ahO (c:List D):jD (.d (.agg c))=some (c.map .d):=rfl
theorem ahS (c:List D):jD (.d (.bz c))=none:=rfl
theorem ahR (t:TypeId) (x:D):jD (.d (.cf t x))=some [.d (.cf t x)]:=rfl
theorem ahQ (f:Fn) (c:List D):jD (.d (.fn f c))=some [.d (.fn f c)]:=rfl
theorem ahX (r o n:Nat):jD (.own r o n)=some [.own r o n]:=rfl
theorem ahY (r e j:Nat):jD (.ref r e j)=some [.ref r e j]:=rfl
theorem ahM (c:List AV):jD (.agg c)=some c:=rfl
theorem ah0 (c:List AV):jD (.bz c)=none:=rfl
theorem ahU (t:TypeId) (x:AV):jD (.cf t x)=some [.cf t x]:=rfl
theorem ahT (f:Fn) (c:List AV):jD (.fn f c)=some [.fn f c]:=rfl
theorem ahN (g:FuncId) (x:AV):jD (.bm g x)=none:=rfl
theorem ahW (r:Nat):jD (.mp r)=some [.mp r]:=rfl
theorem ahP:jD .dead=none:=rfl
attribute [simp] adm adj adi adf adl adh adg VX V2 V3 V0 VZ VV V4 VW V1 VY
attribute [simp] ah1 ahZ ahV ahO ahS ahR ahQ ahX ahY ahM ah0 ahU ahT ahN ahW ahP
attribute [simp] Int.ofNat_inj List.lookup
attribute [simp] vD wV yY kindOf Op.operands Call.operands eI jb Fj dP gE GN rj TypeDesc.isSlice TypeDesc.isStr EE
attribute [simp] Lr EF vT rM qq BK uh qm TypeDesc.isAgg E9 uF E8 gg vH my HI eqv
attribute [simp] Ma IG GZ GX E5 GP Gs Il sI bound HA HB TypeDesc.isBool TypeDesc.isIface GY
attribute [simp] EP Value.oneCell' EH Mz zQ lZ sV Bj sf rowsOf rowsOf.go St.xI qT wZ Ew zx M8 On uG M6 Uz
attribute [simp] D7 UC rd wr oR nw aL Dy Dz da undef dL Lh abp abq ahz aaC St.freeze bC iD uw gS
attribute [simp] bp aq int Av.bool oF qR DA l5 aY jj kr args ef eg AV.kill AV.kill.go Row.kill lK eM AV.tr AV.tr.go Row.tr
attribute [simp] vW vU iy WE Ww St.norm yS wN fA fy Ih N0 l6 fW D.scalar aV aX atEnd Ip zN w6 Ho
attribute [simp] oneOf ahA stepG r3 wW s3 pg DX XU XT iY kJ cM ft Hc jx ni nh fT aam
attribute [simp] EY N9 Hn Fb Fc St.sX B7
section
variable {P:Program} {T:Ty} {Mv X:Nat->Prop} {G:ay} {N:Fr} {w:World} {μ:Mu} {a:Act} {σ:St}
theorem cX.tr {keep:Nat->Bool} {o f:Nat->Nat->Nat->AV} {g:FuncId} {xs:List AV} {dst:Option Tmp} {next:St->Prop}
  (ho:∀ w μ a,In w X G μ N a σ->∀ u r off n,RV w X μ u (.own r off n)->RV w X (cC keep μ) u (o r off n)) (hf:∀ w μ a,In w X G μ N a σ->∀ u r e j,RV w X μ u (.ref r e j)->RV w X (cC keep μ) u (f r e j))
  (hk:∀ r,keep r=false->Mv r) (h:cX P Mv X G N g (xs.map (AV.tr o f)) ⟨lK o f σ.env,eM keep o f σ.H⟩ dst next):cX P Mv X G N g xs σ dst next:=by
 refine⟨h.1,fun w μ a vs hi hn hv=>?_⟩;have aO:=hi.tr (ho w μ a hi) (hf w μ a hi);have aW:Ev Mv w μ w (cC keep μ):=xH fun r _ _=>hk r;refine (h.2 w (cC keep μ) a vs aO (by simpa using hn) fun i u x hu hx=>?_).mono fun e w' ⟨v,x,aG,aI,he,k,fc,hr,ev⟩=>⟨v,x,aG,aI,he,k,fc,hr,aW.trans ev⟩;rw[ajK]at hx;obtain⟨x0,wJ,rfl⟩:=AS.1 hx;exact RV.tr (fun b=>BI) (ho w μ a hi) (hf w μ a hi) (hv i u x0 hu wJ)
theorem cX.xI (r:Nat) {ty sz:Nat} {els:List (List D)} {g:FuncId} {xs:List AV} {dst:Option Tmp} {next:St->Prop} (hr:σ.H r=some (.sl ty sz els)) (hm:Mv r)
  (h:cX P Mv X G N g (xs.map (AV.tr (vW r els) (vU r))) ⟨lK (vW r els) (vU r) σ.env,eM (iy r) (vW r els) (vU r) σ.H⟩ dst next):cX P Mv X G N g xs σ dst next:=by
 refine cX.tr (keep:=iy r) (fun w μ a hi u q off n hu=>?_) (fun w μ a hi u q e j hu=>?_) (fun q hq=>?_) h
 .have rE:(fun q=>if q=r then none else μ q)=cC (iy r) μ:=by
   funext q;unfold cC iy;by_cases h:q=r<;>simp[h]
  unfold vW;split
  .rename_i hq;subst hq
   have hd:∀ {off n:Nat},RV w X μ u (.own q off n)->off+n<=els.length->RV w X (cC (iy q) μ) u (.d (.sl none ((els.drop off).take n))):=fun h hle=>by
    obtain⟨k,hk,_⟩:=G8 hi.bq hr hle h;rw[rE]at hk;exact .d hk.vx
   split
   .rename_i h2;obtain⟨rfl,rfl⟩:=h2;have:=hd hu aa;simpa using this
   .split
    .rename_i hle;exact hd hu hle
    .exact .dead u
  .rename_i hq;exact hu.Bi (by simp[iy,hq])
 .unfold vU;split
  .exact .dead u
  .rename_i hq;exact hu.Bm (by simp[iy,hq])
 .have e:q=r:=by simpa[iy]using hq
  exact e ▸ hm
end
end Go.Av
namespace Go.Av
theorem Aq {p q:Prop} (h:p) (k:q):p/\q:=⟨h,k⟩
section
variable {P:Program} {Mv X:Nat->Prop} {G:ay} {N:Fr} {σ τ iU:St} {p:Prop}
theorem aB (l ns:List Nat) {id:Nat} {ops:Array Oper} {y:Code} {Q:Exit->St->Prop} (k:AW P Mv X G N y Q iU)
  (hM:∀ r,ns.contains r=false->Mv r:=by first | exact fun _ _=>trivial | exact ew rfl)
  (h:∀ K':St->Prop,K' τ->kM P (cJ P) Mv X G N ops K' ops.toList σ:=by
   intro K' ao;repeat (refine aK fun Kq af=>?_;simp;(repeat refine⟨aa,?_⟩);refine af _ ?_)
   exact bJ ao)
  (hn:τ.norm l ns=iU:=by simp;rfl):AW P Mv X G N (.seq (.region id ops false) y) Q σ:=
 rg l ns hM fun K hK=>h K (hK _ (hn ▸ k))
theorem ae (q:p) (l ns:List Nat) {id:Nat} {ops:Array Oper} {y:Code} {Q:Exit->St->Prop} (k:AW P Mv X G N y Q iU)
  (hM:∀ r,ns.contains r=false->Mv r:=by first | exact fun _ _=>trivial | exact ew rfl)
  (h:p->∀ K':St->Prop,K' τ->kM P (cJ P) Mv X G N ops K' ops.toList σ:=by
   intro q K' ao;repeat (refine aK fun Kq af=>?_;simp[q];(repeat refine⟨aa,?_⟩);refine af _ ?_)
   exact bJ ao)
  (hn:p->τ.norm l ns=iU:=by intro q;simp[q];rfl):AW P Mv X G N (.seq (.region id ops false) y) Q σ:=
 rg l ns hM fun K hK=>h q K (hK _ (hn q ▸ k))
theorem br (q:p) {g:FuncId} {ds:List D} {yd:D} (hc:aD P G g ds yd) (l ns:List Nat) {id:Nat} {ops:Array Oper} {y:Code} {Q:Exit->St->Prop} (k:AW P Mv X G N y Q iU)
  (hM:∀ r,ns.contains r=false->Mv r:=by first | exact fun _ _=>trivial | exact ew rfl)
  (h:p->aD P G g ds yd->∀ K':St->Prop,K' τ->kM P (cJ P) Mv X G N ops K' ops.toList σ:=by
   intro q hc K' ao;(repeat refine aK fun Kq af=>?_;simp[q];(repeat refine⟨aa,?_⟩);refine af _ ?_);refine aK fun Kq af=>?_;simp[q];refine cX.data hc bB (by first | exact D.bR _ | simp[aR,ajN,ajG,D.le,D.le.go,D.le_refl,D.bR,q]) ?_;refine af _ ?_;simp only[aL,dL];repeat (refine aK fun Kq af=>?_;simp[q];(repeat refine⟨aa,?_⟩);refine af _ ?_)
   exact bJ ao)
  (hn:p->τ.norm l ns=iU:=by intro q;simp[q];rfl):AW P Mv X G N (.seq (.region id ops false) y) Q σ:=
 rg l ns hM fun K hK=>h q hc K (hK _ (hn q ▸ k))
theorem bG (q:p) {fx:List Nat} {g:FuncId} {xs:List AV} {b6 gd:List (Nat×Row)} {yv:AV} (hc:MC P G fx g xs (aq b6) yv (aq gd)) (l ns:List Nat) {id:Nat} {ops:Array Oper} {y:Code} {Q:Exit->St->Prop} (k:AW P Mv X G N y Q iU)
  (hM:∀ r,ns.contains r=false->Mv r:=by first | exact fun _ _=>trivial | exact ew rfl)
  (h:p->MC P G fx g xs (aq b6) yv (aq gd)->∀ K':St->Prop,K' τ->kM P (cJ P) Mv X G N ops K' ops.toList σ:=by
   intro q hc K' ao;(repeat refine aK fun Kq af=>?_;simp[q];(repeat refine⟨aa,?_⟩);refine af _ ?_);refine aK fun Kq af=>?_;simp[q];refine cX.mc hc (by simp[q]) (by simp[q]) (by simp[q]) (by simp[q]) ?_;simp[q];refine af _ ?_;repeat (refine aK fun Kq af=>?_;simp[q];(repeat refine⟨aa,?_⟩);refine af _ ?_)
   exact bJ ao)
  (hn:p->τ.norm l ns=iU:=by intro q;simp[q];rfl):AW P Mv X G N (.seq (.region id ops false) y) Q σ:=
 rg l ns hM fun K hK=>h q hc K (hK _ (hn q ▸ k))
theorem Hi (q:p) (l ns:List Nat) {id:Nat} {ops:Array Oper} {y:Code} {Q:Exit->St->Prop} (k:AW P Mv X G N y Q iU)
  (hm:P.follows .mixedOrders=true:=by kernel_rfl) (bX:rT ops=true:=by kernel_rfl)
  (hM:∀ r,ns.contains r=false->Mv r:=by first | exact fun _ _=>trivial | exact ew rfl)
  (h:p->∀ K':St->Prop,K' τ->pw P (cJ P) Mv G N ops K' ops.toList σ:=by
   intro q K' ao;repeat (refine ja fun Kq af=>?_;simp[q];(repeat refine⟨aa,?_⟩);refine af _ ?_)
   exact qd ao)
  (hn:p->τ.norm l ns=iU:=by intro q;simp[q];rfl):AW P Mv X G N (.seq (.region id ops true) y) Q σ:=
 tY (aC _) hm l ns hM bX fun K hK=>h q K (hK _ (hn q ▸ k))
theorem rdc (q:p) {g:FuncId} {ds:List D} {yd:D} (hc:aD P G g ds yd) (l ns:List Nat) {id:Nat} {ops:Array Oper} {y:Code} {Q:Exit->St->Prop} (k:AW P Mv X G N y Q iU)
  (hm:P.follows .mixedOrders=true:=by kernel_rfl) (bX:rT ops=true:=by kernel_rfl)
  (hM:∀ r,ns.contains r=false->Mv r:=by first | exact fun _ _=>trivial | exact ew rfl)
  (h:p->aD P G g ds yd->∀ K':St->Prop,K' τ->pw P (cJ P) Mv G N ops K' ops.toList σ:=by
   intro q hc K' ao;(repeat refine ja fun Kq af=>?_;simp[q];(repeat refine⟨aa,?_⟩);refine af _ ?_);refine ja fun Kq af=>?_;simp[q];refine nX.data hc bB bB (by first | exact D.bR _ | simp[aR,ajN,ajG,D.le,D.le.go,D.le_refl,D.bR,q]) ?_;refine af _ ?_;simp only[aL,dL];repeat (refine ja fun Kq af=>?_;simp[q];(repeat refine⟨aa,?_⟩);refine af _ ?_)
   exact qd ao)
  (hn:p->τ.norm l ns=iU:=by intro q;simp[q];rfl):AW P Mv X G N (.seq (.region id ops true) y) Q σ:=
 tY (aC _) hm l ns hM bX fun K hK=>h q hc K (hK _ (hn q ▸ k))
theorem gR (q:p) {K0:St->Prop} {y:Code} {Q Q2:Exit->St->Prop} (hk:∀ aG,AW P Mv X G N y Q2 aG->K0 aG) (l ns:List Nat) {id:Nat} {ops:Array Oper} (k:AW P Mv X G N y Q2 iU)
  (hq:∀ τ,K0 τ->Q .normal τ:=by exact fun _ h=>h)
  (hM:∀ r,ns.contains r=false->Mv r:=by first | exact fun _ _=>trivial | exact ew rfl)
  (h:p->∀ K':St->Prop,K' τ->kM P (cJ P) Mv X G N ops K' ops.toList σ:=by
   intro q K' ao;repeat (refine aK fun Kq af=>?_;simp[q];(repeat refine⟨aa,?_⟩);refine af _ ?_)
   exact bJ ao)
  (hn:p->τ.norm l ns=iU:=by intro q;simp[q];rfl):AW P Mv X G N (.region id ops false) Q σ:=
 fH (aC _) fun K hK=>h q K (hK _ (hq _ (hk _ (AW.norm l ns hM (hn q ▸ k)))))
theorem au (l ns:List Nat) {id:Nat} {ops:Array Oper} {y:Code} {Q:Exit->St->Prop} (k:AW P Mv X G N y Q iU)
  (hM:∀ r,ns.contains r=false->Mv r:=by first | exact fun _ _=>trivial | exact ew rfl)
  (h:∀ K':St->Prop,K' τ->kM P (cJ P) Mv X G N ops K' ops.toList σ:=by
   intro K' ao;repeat (refine aK fun Kq af=>?_;simp[qf];(repeat refine⟨aa,?_⟩);refine af _ ?_)
   exact bJ ao)
  (hn:τ.norm l ns=iU:=by simp[qf];rfl):AW P Mv X G N (.seq (.region id ops false) y) Q σ:=
 rg l ns hM fun K hK=>h K (hK _ (hn ▸ k))
theorem e7 {g:FuncId} {ds:List D} {yd:D} (hc:aD P G g ds yd) (l ns:List Nat) {id:Nat} {ops:Array Oper} {y:Code} {Q:Exit->St->Prop} (k:AW P Mv X G N y Q iU)
  (hM:∀ r,ns.contains r=false->Mv r:=by first | exact fun _ _=>trivial | exact ew rfl)
  (h:aD P G g ds yd->∀ K':St->Prop,K' τ->kM P (cJ P) Mv X G N ops K' ops.toList σ:=by
   intro hc K' ao;(repeat refine aK fun Kq af=>?_;simp[qf];(repeat refine⟨aa,?_⟩);refine af _ ?_);refine aK fun Kq af=>?_;simp[qf];refine cX.data hc bB (by first | exact D.bR _ | simp[aR,ajN,ajG,D.le,D.le.go,D.le_refl,D.bR,qf]) ?_;refine af _ ?_;simp only[aL,dL];repeat (refine aK fun Kq af=>?_;simp[qf];(repeat refine⟨aa,?_⟩);refine af _ ?_)
   exact bJ ao)
  (hn:τ.norm l ns=iU:=by simp[qf];rfl):AW P Mv X G N (.seq (.region id ops false) y) Q σ:=
 rg l ns hM fun K hK=>h hc K (hK _ (hn ▸ k))
theorem jW {fx:List Nat} {g:FuncId} {xs:List AV} {b6 gd:List (Nat×Row)} {yv:AV} (hc:MC P G fx g xs (aq b6) yv (aq gd)) (l ns:List Nat) {id:Nat} {ops:Array Oper} {y:Code} {Q:Exit->St->Prop} (k:AW P Mv X G N y Q iU)
  (hM:∀ r,ns.contains r=false->Mv r:=by first | exact fun _ _=>trivial | exact ew rfl)
  (h:MC P G fx g xs (aq b6) yv (aq gd)->∀ K':St->Prop,K' τ->kM P (cJ P) Mv X G N ops K' ops.toList σ:=by
   intro hc K' ao;(repeat refine aK fun Kq af=>?_;simp[qf];(repeat refine⟨aa,?_⟩);refine af _ ?_);refine aK fun Kq af=>?_;simp[qf];refine cX.mc hc (by simp[qf]) (by simp[qf]) (by simp[qf]) (by simp[qf]) ?_;simp[qf];refine af _ ?_;repeat (refine aK fun Kq af=>?_;simp[qf];(repeat refine⟨aa,?_⟩);refine af _ ?_)
   exact bJ ao)
  (hn:τ.norm l ns=iU:=by simp[qf];rfl):AW P Mv X G N (.seq (.region id ops false) y) Q σ:=
 rg l ns hM fun K hK=>h hc K (hK _ (hn ▸ k))
theorem iz (l ns:List Nat) {id:Nat} {ops:Array Oper} {y:Code} {Q:Exit->St->Prop} (k:AW P Mv X G N y Q iU)
  (hm:P.follows .mixedOrders=true:=by kernel_rfl) (bX:rT ops=true:=by kernel_rfl)
  (hM:∀ r,ns.contains r=false->Mv r:=by first | exact fun _ _=>trivial | exact ew rfl)
  (h:∀ K':St->Prop,K' τ->pw P (cJ P) Mv G N ops K' ops.toList σ:=by
   intro K' ao;repeat (refine ja fun Kq af=>?_;simp[qf];(repeat refine⟨aa,?_⟩);refine af _ ?_)
   exact qd ao)
  (hn:τ.norm l ns=iU:=by simp[qf];rfl):AW P Mv X G N (.seq (.region id ops true) y) Q σ:=
 tY (aC _) hm l ns hM bX fun K hK=>h K (hK _ (hn ▸ k))
theorem Bk {g:FuncId} {ds:List D} {yd:D} (hc:aD P G g ds yd) (l ns:List Nat) {id:Nat} {ops:Array Oper} {y:Code} {Q:Exit->St->Prop} (k:AW P Mv X G N y Q iU)
  (hm:P.follows .mixedOrders=true:=by kernel_rfl) (bX:rT ops=true:=by kernel_rfl)
  (hM:∀ r,ns.contains r=false->Mv r:=by first | exact fun _ _=>trivial | exact ew rfl)
  (h:aD P G g ds yd->∀ K':St->Prop,K' τ->pw P (cJ P) Mv G N ops K' ops.toList σ:=by
   intro hc K' ao;(repeat refine ja fun Kq af=>?_;simp[qf];(repeat refine⟨aa,?_⟩);refine af _ ?_);refine ja fun Kq af=>?_;simp[qf];refine nX.data hc bB bB (by first | exact D.bR _ | simp[aR,ajN,ajG,D.le,D.le.go,D.le_refl,D.bR,qf]) ?_;refine af _ ?_;simp only[aL,dL];repeat (refine ja fun Kq af=>?_;simp[qf];(repeat refine⟨aa,?_⟩);refine af _ ?_)
   exact qd ao)
  (hn:τ.norm l ns=iU:=by simp[qf];rfl):AW P Mv X G N (.seq (.region id ops true) y) Q σ:=
 tY (aC _) hm l ns hM bX fun K hK=>h hc K (hK _ (hn ▸ k))
theorem e6 {K0:St->Prop} {y:Code} {Q Q2:Exit->St->Prop} (hk:∀ aG,AW P Mv X G N y Q2 aG->K0 aG) (l ns:List Nat) {id:Nat} {ops:Array Oper} (k:AW P Mv X G N y Q2 iU)
  (hq:∀ τ,K0 τ->Q .normal τ:=by exact fun _ h=>h)
  (hM:∀ r,ns.contains r=false->Mv r:=by first | exact fun _ _=>trivial | exact ew rfl)
  (h:∀ K':St->Prop,K' τ->kM P (cJ P) Mv X G N ops K' ops.toList σ:=by
   intro K' ao;repeat (refine aK fun Kq af=>?_;simp[qf];(repeat refine⟨aa,?_⟩);refine af _ ?_)
   exact bJ ao)
  (hn:τ.norm l ns=iU:=by simp[qf];rfl):AW P Mv X G N (.region id ops false) Q σ:=
 fH (aC _) fun K hK=>h K (hK _ (hq _ (hk _ (AW.norm l ns hM (hn ▸ k)))))
end
