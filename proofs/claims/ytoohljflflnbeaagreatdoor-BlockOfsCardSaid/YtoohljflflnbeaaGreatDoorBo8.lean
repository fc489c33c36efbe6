/- Parts. -/
import Derived.Test.YtoohljflflnbeaaGreatDoorBo7
import Derived.Orders
set_option linter.unusedSectionVars false
set_option linter.unusedSimpArgs false
set_option linter.unusedVariables false
namespace Go.Av
def oU:Operand->Nat
 | .global _=>0
 | _=>1
@[simp] theorem afC (x:Operand):(oU x=2)=False:=by cases x<;>simp[oU]
@[simp] theorem afD (x:Operand):(oU x=3)=False:=by cases x<;>simp[oU]
@[simp] theorem afE (x:Operand):(oU x=8)=False:=by cases x<;>simp[oU]
@[simp] theorem afF (x:Operand):(oU x=9)=False:=by cases x<;>simp[oU]
@[simp] theorem afB (x:Operand):(oU x=0\/oU x=1)=True:=by cases x<;>simp[oU]
theorem Jn (x:Operand):oU x<=1:=by cases x<;>simp[oU]
def kindOf:Op->Nat
 | .load _ x=>oU x
 | .indexAddr _ _ _=>1
 | .slice _ _ _ _ _=>1
 | .lookup _ _ _ _=>1
 | .call { callee:=.value _,.. }=>2
 | .call { callee:=.builtin .append,.. }=>9
 | .call { callee:=.builtin .copy,.. }=>9
 | .alloc _=>3
 | .box _ _=>3
 | .buildSlice _ _ _=>3
 | .makeSlice _ _ _=>3
 | .store _ _ _=>8
 | .mapUpdate _ _ _ _=>8
 | .insert _ _ _ _=>8
 | .makeMap _ _=>3
 | .select _ _=>9
 | _=>0
def uo (x y:Nat):Bool:=match x,y with
 | 0,9 | 9,_ | 1,8 | 1,9 | 2,8 | 2,9 | 3,1 | 3,2 | 3,8 | 3,9 | 8,1 | 8,2 | 8,3 | 8,8 | 8,9=>false
 | _,_=>true
def kH (ops:Array Oper) (x y:Oper):Bool:=x.apart ops y && uo (kindOf x.op) (kindOf y.op)
def bitsOf (acc:List Nat) (o:Oper):Nat:=o.after.toList.foldr (fun e s=>if Region.binds .any e then (2 ^ e.on ||| acc.getD e.on 0) ||| s else s) 0
def sJ:List Oper->List Nat->List Nat
 | [],acc=>acc
 | o :: l,acc=>sJ l (acc ++ [bitsOf acc o])
def tb (ops:Array Oper):List Nat:=sJ ops.toList []
def qO (ops:Array Oper):Bool:=
 let t:=tb ops
 (List.range ops.size).all fun j=>match ops[j]? with
  | some oj=>(oj.after.all fun e=>!Region.binds .any e || e.on < j) && (List.range j).all fun i=>(t.getD j 0).testBit i || match ops[i]? with
    | some oi=>kH ops oi oj && kH ops oj oi
    | none=>true
  | none=>true
section
variable {P:Program} {T:Ty} {Mv X:Nat->Prop} {G:aC} {N:Fr}
def As (P:Program) (G:aC) (σ:St) (c:Call) (y:D):Prop:=∃ g xs,lz G σ.env c=some (g,xs)/\
 ((∃ ds,xs=ds.map .d/\aD P G g ds y)\/(∃ ds,lS (fL σ.H 4) xs=some ds/\y.scalar=true/\aD P G g ds y))
def oC (P:Program) (T:Ty) (Mv:Nat->Prop) (G:aC) (o:Oper) (σ aJ:St):Prop:=match ey o.op with
 | some c=>∃ y,As P G σ c y/\aJ=⟨aR σ.env o.dst (.d y),σ.H⟩
 | none=>if gD o.op then ∃ c x bh,wr T G Mv σ o=some (c,x,bh)/\c/\aJ=⟨aR bh.env o.dst x,bh.H⟩
  else ∃ c x,rd T G σ o.op=some (c,x)/\c/\aJ=⟨aR σ.env o.dst x,σ.H⟩
def zY (P:Program) (T:Ty) (Mv:Nat->Prop) (G:aC) (N:Fr) (ops:Array Oper) (o:Oper) (σ aJ:St):Prop:=
 gP N o/\((jM ops σ.env o=some true/\oC P T Mv G o σ aJ)\/(jM ops σ.env o=some false/\aJ=⟨aR σ.env o.dst dN,σ.H⟩))
theorem zZ (hg:Good P T) {ops:Array Oper} {o:Oper} {σ aJ:St} (h:zY P T Mv G N ops o σ aJ) {w:World} {μ:Mu} {a:Act} (hi:In w X G μ N a σ) {i:Nat} (ho:ops[i]? = some o) {Q:Exit->Act->World->Prop} {K:Act->World->Prop}
  (hk:∀ w' aH a',In w' X G aH N a' aJ->Ev Mv w μ w' aH->K a' w'):wpOpIn (wd N.ro) 0 P ops Q i K a w:=by
 obtain⟨hd,h⟩:=h
 have jI:∀ d,o.dst=some d->d < N.n:=fun d e=>by unfold gP at hd;rw[e]at hd;exact hd
 unfold wpOpIn;simp only[ho]
 rcases h with⟨hw,h⟩ | ⟨hw,rfl⟩
 .rw[x8 hi hw,if_pos rfl];refine (DG (Mv:=Mv) (K:=fun bh=>bh=aJ) hg hi jI ?_ fun w' aH a' bh e aS bp=>hk w' aH a' (e ▸ aS) bp);unfold oC at h;unfold mZ;split at h
  .rename_i c hc;obtain⟨y,⟨g,xs,ht,fv⟩,rfl⟩:=h;simp only[hc,ht]
   rcases fv with⟨ds,rfl,hp⟩ | ⟨ds,mv,hs,hp⟩
   .exact lU.pure hp rfl
   .exact lU.rH mv hp hs rfl
  .rename_i hc;simp only[hc,qh];split at h
   .rename_i EF;rw[if_pos EF];obtain⟨c,x,bh,jK,cG,rfl⟩:=h;simp only[jK];exact⟨cG,trivial⟩
   .rename_i EF;rw[if_neg EF];obtain⟨c,x,hr,cG,rfl⟩:=h;simp only[hr];exact⟨cG,trivial⟩
 .rw[x8 hi hw,if_neg ak];exact⟨fun _ _=>trivial,hk w μ _ (hi.put (.d (.v _)) jI) (.refl _ w μ)⟩
theorem Qv {e:Env} {dst:Option Tmp} {x:AV} {t:Nat} (h:dst≠some t):aR e dst x t=e t:=by
 cases dst with
 | none=>rfl
 | some d=>have:t≠d:=fun e=>h (by rw[e]);simp[aR,gI,this]
theorem iI {e:Env} {d d':Option Tmp} {x y:AV} (h:∀ t,d=some t->d'≠some t):aR (aR e d x) d' y=aR (aR e d' y) d x:=by
 cases d with
 | none=>rfl
 | some t=>
  cases d' with
  | none=>rfl
  | some t'=>
   have bl:t≠t':=fun e=>h t rfl (by rw[e]);funext i;by_cases h1:i=t<;>by_cases h2:i=t'<;>simp[aR,gI,h1,h2,bl,ahD bl]
   all_goals (subst h1;simp[bl])
def iA (o:Op) (e e':Env):Prop:=∀ t,Operand.tmp t∈o.operands->e t=e' t
theorem fm {e e':Env} {x:Operand} (h:∀ t,x = .tmp t->e t=e' t):bF G e x=bF G e' x:=by
 cases x with
 | tmp t=>exact h t rfl
 | _=>rfl
theorem G0 {e e':Env}:∀ {l:List Operand},(∀ t,Operand.tmp t∈l->e t=e' t)->oB G e l=oB G e' l
 | [],_=>rfl
 | x :: l,h=>by
  simp only[oB];rw[fm (x:=x) fun t ht=>h t (by simp[ht]),G0 (l:=l) fun t ht=>h t (by simp[ht])]
theorem DF {e e':Env}:∀ {l:List (Nat×Operand)},(∀ t,Operand.tmp t∈l.map (·.2)->e t=e' t)->mY G e l=mY G e' l
 | [],_=>rfl
 | (i,x) :: l,h=>by
  simp only[mY];rw[fm (x:=x) fun t ht=>h t (by simp[ht]),DF (l:=l) fun t ht=>h t (by simp at ht ⊢;exact .inr ht)]
theorem LK {e e':Env} {o:Option Operand} (h:∀ t,o=some (.tmp t)->e t=e' t):bound G e o=bound G e' o:=by
 cases o with
 | none=>rfl
 | some x=>simp only[bound];rw[fm (x:=x) fun t ht=>h t (by rw[ht])]
theorem acH {o:Op} {e e':Env} {H:Heap} (h:iA o e e'):rd T G ⟨e,H⟩ o=rd T G ⟨e',H⟩ o:=by
 unfold iA at h;cases o
 case makeFunc f first caps=>
  simp only[rd];rw[G0 (l:=caps.toList) fun t ht=>h t (by simp[Op.operands];right;simpa using ht)];split
  .rfl
  .split
   .rename_i x Bm gq
    rw[fm (x:=x) fun t ht=>h t (by
     have hm:x∈first:=by
      have:x∈first.toList:=by rw[Bm];simp
      simpa using this
     simp only[Op.operands];rw[<- ht]
     simp[hm])]
   .rfl
 case typeAssert y xT t b=>
  simp only[rd];rw[fm (x:=y) fun t ht=>h t (by simp[Op.operands,ht])]
 case build t parts=>
  simp only[rd];rw[DF (l:=parts.toList) fun t ht=>h t (by simpa[Op.operands]using ht)]
 case slice t x lo hi mx=>
  simp only[rd];rw[fm (x:=x) fun t ht=>h t (by simp[Op.operands,ht]),LK (o:=lo) fun t ht=>h t (by simp[Op.operands,ht]),LK (o:=hi) fun t ht=>h t (by simp[Op.operands,ht])]
 case call c=>
  obtain⟨callee,args,argTypes⟩:=c
  cases callee with
  | builtin b=>
   have two:∀ {x y:Operand},args.toList=[x,y]->bF G e x=bF G e' x/\bF G e y=bF G e' y:=fun {x y} ha=>
    ⟨fm (x:=x) fun t ht=>h t (by simp[Op.operands,Call.operands];rw[<- Array.mem_toList_iff,ha];simp[ht]),
     fm (x:=y) fun t ht=>h t (by simp[Op.operands,Call.operands];rw[<- Array.mem_toList_iff,ha];simp[ht])⟩
   cases b<;>try rfl
   case len=>
    simp only[rd];split
    .rename_i x t ha ht;rw[fm (x:=x) fun t ht=>h t (by simp[Op.operands,Call.operands];rw[<- Array.mem_toList_iff,ha];simp[ht])]
    .rfl
   case max=>
    simp only[rd];split
    .rename_i x y ha;rw[(two ha).1,(two ha).2]
    .rfl
   case min=>
    simp only[rd];split
    .rename_i x y ha;rw[(two ha).1,(two ha).2]
    .rfl
  | _=>rfl
 all_goals
  simp only[Op.operands,List.mem_toArray,agK,List.not_mem_nil,or_false]at h
 all_goals
  first
   | rfl
   | (rename_i x;simp only[rd];rw[fm (x:=x) fun t ht=>h t (by simp[ht])];done)
   | (rename_i x _;simp only[rd];rw[fm (x:=x) fun t ht=>h t (by simp[ht])];done)
   | (rename_i x y;simp only[rd];rw[fm (x:=x) fun t ht=>h t (by simp[ht]),fm (x:=y) fun t ht=>h t (by simp[ht])];done)
   | (rename_i x y _;simp only[rd];rw[fm (x:=x) fun t ht=>h t (by simp[ht]),fm (x:=y) fun t ht=>h t (by simp[ht])];done)
   | (rename_i x y z;simp only[rd];rw[fm (x:=x) fun t ht=>h t (by simp[ht]),fm (x:=y) fun t ht=>h t (by simp[ht]),fm (x:=z) fun t ht=>h t (by simp[ht])];done)
def Ex (P:Program) (T:Ty) (Mv:Nat->Prop) (G:aC) (o:Oper) (e:Env) (H:Heap) (x:AV) (H':Heap):Prop:=match ey o.op with
 | some c=>∃ y,As P G ⟨e,H⟩ c y/\x = .d y/\H'=H
 | none=>if gD o.op then ∃ c,wr T G Mv ⟨e,H⟩ o=some (c,x,⟨e,H'⟩)/\c
  else ∃ c,rd T G ⟨e,H⟩ o.op=some (c,x)/\c/\H'=H
theorem Ae {o:Oper} (hk:kindOf o.op≠9) {σ bh:St} {c:Prop} {x:AV} (h:wr T G Mv σ o=some (c,x,bh)):bh.env=σ.env:=by
 obtain⟨dst,op,type,pos,after,guard⟩:=o;dsimp only at hk;unfold wr at h;dsimp only at h
 repeat' split at h
 all_goals first
  | (exact absurd rfl hk)
  | (obtain⟨_,_,rfl⟩:=nt h;rfl)
  | cases h
theorem Ex.of {o:Oper} (hk:kindOf o.op≠9) {σ aJ:St} (h:oC P T Mv G o σ aJ):∃ x H',Ex P T Mv G o σ.env σ.H x H'/\aJ=⟨aR σ.env o.dst x,H'⟩:=by
 unfold oC at h;unfold Ex;split at h
 .rename_i c hc;obtain⟨y,fv,rfl⟩:=h;(try simp only[hc]);exact⟨_,_,⟨y,fv,rfl,rfl⟩,rfl⟩
 .rename_i hc;(try simp only[hc]);split at h
  .rename_i hw;obtain⟨c,x,bh,h1,h2,rfl⟩:=h;have he:=Ae hk h1;refine⟨x,bh.H,?_,by rw[he]⟩;rw[if_pos hw];refine⟨c,?_,h2⟩;obtain⟨e,H⟩:=σ;obtain⟨e1,H1⟩:=bh;dsimp only at he;subst he;exact h1
  .rename_i hw;obtain⟨c,x,h1,h2,rfl⟩:=h;refine⟨x,σ.H,?_,rfl⟩;rw[if_neg hw];exact⟨c,h1,h2,rfl⟩
theorem Ex.to {o:Oper} {e:Env} {H H':Heap} {x:AV} (h:Ex P T Mv G o e H x H'):oC P T Mv G o ⟨e,H⟩ ⟨aR e o.dst x,H'⟩:=by
 unfold Ex at h;unfold oC;split at h
 .rename_i c hc;obtain⟨y,fv,rfl,rfl⟩:=h;(try simp only[hc]);exact⟨y,fv,rfl⟩
 .rename_i hc;(try simp only[hc]);split at h
  .rename_i hw;obtain⟨c,h1,h2⟩:=h;rw[if_pos hw];exact⟨c,x,_,h1,h2,rfl⟩
  .rename_i hw;obtain⟨c,h1,h2,rfl⟩:=h;rw[if_neg hw];exact⟨c,x,h1,h2,rfl⟩
theorem vh {o:Op} {c:Call} (h:ey o=some c):o = .call c/\kindOf o=2:=by
 unfold ey at h;split at h
 .obtain rfl:=AI h;exact⟨rfl,rfl⟩
 .cases h
theorem z7 {e e':Env} {c:Call} (h:∀ t,Operand.tmp t∈c.operands->e t=e' t):lz G e c=lz G e' c:=by
 unfold lz;split
 .rename_i f hf;rw[fm (x:=f) fun t ht=>h t (by simp[Call.operands,hf,ht]),G0 (l:=c.args.toList) fun t ht=>h t (by simp[Call.operands,hf];right;simpa using ht)]
 .rfl
theorem afa {o:Oper} (hk:kindOf o.op≠9) {e e':Env} {H H':Heap} {c:Prop} {x:AV} (ha:iA o.op e e') (h:wr T G Mv ⟨e,H⟩ o=some (c,x,⟨e,H'⟩)):wr T G Mv ⟨e',H⟩ o=some (c,x,⟨e',H'⟩):=by
 obtain⟨dst,op,type,pos,after,guard⟩:=o;dsimp only at hk ha;unfold iA at ha;cases op
 case alloc t=>
  cases dst with
  | none=>cases h
  | some d=>
   simp only[wr]at h ⊢;split at h
   .rename_i ti ht;simp only[IT,agA,St.mk.injEq,true_and]at h;obtain⟨rfl,rfl,rfl⟩:=h;simp
   .cases h
 case box t y=>
  cases dst with
  | none=>cases h
  | some d=>
   simp only[wr]at h ⊢;rw[<- fm (e:=e) (x:=y) fun t ht=>ha t (by simp[Op.operands,ht])];split at h
   .simp only[IT,agA,St.mk.injEq,true_and]at h;obtain⟨rfl,rfl,rfl⟩:=h;rename_i cX;simp[cX]
   .cases h
 case store t y z=>
  cases dst with
  | some d=>cases h
  | none=>
   simp only[wr]at h ⊢;rw[<- fm (e:=e) (x:=y) fun t ht=>ha t (by simp[Op.operands,ht]),<- fm (e:=e) (x:=z) fun t ht=>ha t (by simp[Op.operands,ht])];split at h
   .rename_i r e0 j v h1 h2;(try simp only[h1,h2]);split at h
    .rename_i ty cells hH;(try simp only[hH]);split at h
     .rename_i he;(try simp only[he,if_true]);split at h
      .rename_i c' uJ hs;(try simp only[hs]);simp only[IT,agA,St.mk.injEq,true_and]at h ⊢;exact h
      .cases h
     .cases h
    .rename_i ty sz els hH;(try simp only[hH]);split at h
     .rename_i c' oA hs;(try simp only[hs]);simp only[IT,agA,St.mk.injEq,true_and]at h ⊢;exact h
     .cases h
    .cases h
    .cases h
    .cases h
   .cases h
 case makeMap t rs=>
  cases dst with
  | none=>cases rs<;>cases h
  | some d=>
   cases rs with
   | some _=>cases h
   | none=>
    simp only[wr]at h ⊢;simp only[IT,agA,St.mk.injEq,true_and]at h ⊢;exact h
 case mapUpdate t m k v=>
  cases dst with
  | some d=>cases h
  | none=>
   simp only[wr]at h ⊢;rw[<- fm (e:=e) (x:=m) fun t ht=>ha t (by simp[Op.operands,ht]),<- fm (e:=e) (x:=k) fun t ht=>ha t (by simp[Op.operands,ht]),<- fm (e:=e) (x:=v) fun t ht=>ha t (by simp[Op.operands,ht])];split at h
   .rename_i r key y h1 h2 h3;(try simp only[h1,h2,h3]);split at h
    .rename_i ty ents hH;(try simp only[hH]);split at h
     .rename_i c' mX hp;(try simp only[hp]);simp only[IT,agA,St.mk.injEq,true_and]at h ⊢;exact h
     .cases h
    .cases h
   .cases h
 case insert t m k v=>
  cases dst with
  | some d=>cases h
  | none=>
   simp only[wr]at h ⊢;rw[<- fm (e:=e) (x:=m) fun t ht=>ha t (by simp[Op.operands,ht]),<- fm (e:=e) (x:=k) fun t ht=>ha t (by simp[Op.operands,ht]),<- fm (e:=e) (x:=v) fun t ht=>ha t (by simp[Op.operands,ht])];split at h
   .rename_i r key y h1 h2 h3;(try simp only[h1,h2,h3]);split at h
    .rename_i ty ents hH;(try simp only[hH]);split at h
     .rename_i c' mX hp;(try simp only[hp]);simp only[IT,agA,St.mk.injEq,true_and]at h ⊢;exact h
     .cases h
    .cases h
   .cases h
 case makeSlice t y z=>
  cases dst with
  | none=>cases h
  | some d=>
   simp only[wr]at h ⊢;rw[<- fm (e:=e) (x:=y) fun t ht=>ha t (by simp[Op.operands,ht]),<- fm (e:=e) (x:=z) fun t ht=>ha t (by simp[Op.operands,ht])];split at h
   .rename_i tt cL;(try simp only[cL]);split at h
    .rename_i e0 hd;(try simp only[hd]);split at h
     .rename_i te kn n km m h0 h1 h2;(try simp only[h0,h1,h2]);simp only[IT,agA,St.mk.injEq,true_and]at h ⊢;exact h
     .cases h
    .cases h
   .cases h
 case buildSlice t n ps=>
  cases dst with
  | none=>cases h
  | some d=>
   simp only[wr]at h ⊢;rw[<- DF (e:=e) (l:=ps.toList) fun t ht=>ha t (by simpa[Op.operands]using ht)];split at h
   .rename_i tt cL;(try simp only[cL]);split at h
    .rename_i e0 hd;(try simp only[hd]);split at h
     .rename_i te pp h0 h1;(try simp only[h0,h1]);split at h
      .rename_i els wP;(try simp only[wP]);simp only[IT,agA,St.mk.injEq,true_and]at h ⊢;exact h
      .cases h
     .cases h
    .cases h
   .cases h
 case call cc=>
  obtain⟨callee,args,argTypes⟩:=cc
  cases callee with
  | builtin b=>
   cases b<;>first | (exact absurd rfl hk) | (cases dst<;>cases h)
  | _=>cases dst<;>cases h
 all_goals (cases dst<;>cases h)
theorem Ex.congr {o:Oper} (hk:kindOf o.op≠9) {e e':Env} {H H':Heap} {x:AV} (ha:iA o.op e e') (h:Ex P T Mv G o e H x H'):Ex P T Mv G o e' H x H':=by
 unfold Ex at h ⊢;split at h
 .rename_i c hc;(try simp only[hc]);obtain⟨y,⟨g,xs,ht,fv⟩,h2,h3⟩:=h;refine⟨y,⟨g,xs,?_,fv⟩,h2,h3⟩;have ho:=(vh hc).1;rw[<- z7 (e:=e) fun t ht=>ha t (by rw[ho];exact ht)];exact ht
 .rename_i hc;(try simp only[hc]);split at h
  .rename_i hw;rw[if_pos hw];obtain⟨c,h1,h2⟩:=h;exact⟨c,afa hk ha h1,h2⟩
  .rename_i hw;rw[if_neg hw];obtain⟨c,h1,h2,h3⟩:=h;exact⟨c,by rw[<- acH ha];exact h1,h2,h3⟩
theorem EO {o:Op} (h:gD o=true):kindOf o=3\/kindOf o=8\/kindOf o=9:=by
 unfold gD at h
 split at h<;>first | (exact .inl rfl) | (exact .inr (.inl rfl)) | (exact .inr (.inr rfl)) | cases h
theorem Ex.keeps {o:Oper} (hk:kindOf o.op<=2) {e:Env} {H H':Heap} {x:AV} (h:Ex P T Mv G o e H x H'):H'=H:=by
 unfold Ex at h;split at h
 .obtain⟨_,_,_,rfl⟩:=h;rfl
 .split at h
  .rename_i hw
   rcases EO hw with h' | h' | h'<;>omega
  .obtain⟨_,_,_,rfl⟩:=h;rfl
theorem Qx {o:Op} (hk:kindOf o=0) {e:Env} (H H2:Heap):rd T G ⟨e,H⟩ o=rd T G ⟨e,H2⟩ o:=by
 cases o
 case call c=>
  obtain⟨callee,args,argTypes⟩:=c
  cases callee with
  | builtin b=>cases b<;>rfl
  | _=>rfl
 case load t y=>
  cases y with
  | global g=>
   simp only[rd,bF]
   cases G g with
   | none=>rfl
   | some x=>cases x<;>rfl
  | _=>simp[kindOf,oU]at hk
 all_goals first | rfl | (simp[kindOf]at hk)
theorem acK {o:Op} (hk:kindOf o=1) {e:Env} {H:Heap} {d:Nat} (hd:H d=none) (row:Row) {c:Prop} {x:AV} (h:rd T G ⟨e,H⟩ o=some (c,x)):rd T G ⟨e,aX H d row⟩ o=some (c,x):=by
 have key:∀ r y,H r=some y->aX H d row r=some y:=fun r y hr=>by
  unfold aX;split
  .rename_i hh;subst hh;rw[hd]at hr;cases hr
  .exact hr
 have kl:∀ t v,n5 T H t v=some (c,x)->n5 T (aX H d row) t v=some (c,x):=fun t v h=>by
  unfold n5 at h ⊢;split at h
  .exact h
  .split at h
   .rename_i hr;simp only[key _ _ hr];exact h
   .rename_i hr;simp only[key _ _ hr];exact h
   .cases h
   .cases h
   .cases h
  .cases h
 have km:∀ t b v u,oV T H t b v u=some (c,x)->oV T (aX H d row) t b v u=some (c,x):=fun t b v u h=>by
  unfold oV at h ⊢;split at h
  .split at h
   .rename_i hr h2;simp only[key _ _ hr,h2];exact h
   .cases h
  .exact h
  .cases h
 have ki:∀ t v u,qJ T H t v u=some (c,x)->qJ T (aX H d row) t v u=some (c,x):=fun t v u h=>by
  unfold qJ at h ⊢;split at h
  .exact h
  .split at h
   .rename_i h1 hr;simp only[h1,key _ _ hr];exact h
   .rename_i h1 hr;simp only[h1,key _ _ hr];exact h
   .cases h
  .exact h
  .exact h
  .cases h
 have ks:∀ t v l u,rN T H t v l u=some (c,x)->rN T (aX H d row) t v l u=some (c,x):=fun t v l u h=>by
  unfold rN at h ⊢;dsimp only at h ⊢;split at h
  .exact h
  .exact h
  .split at h
   .rename_i h1 hr;simp only[h1,key _ _ hr];exact h
   .cases h
  .cases h
 cases o
 case load t y=>
  simp only[rd,agI]at h ⊢;obtain⟨v,h1,h2⟩:=h;exact⟨v,h1,kl t v h2⟩
 case indexAddr t y z=>
  simp only[rd]at h ⊢;split at h
  .exact ki _ _ _ h
  .cases h
 case slice t y lo hi mx=>
  simp only[rd]at h ⊢;split at h
  .rename_i gZ;rw[if_pos gZ];split at h
   .exact ks _ _ _ _ h
   .cases h
  .cases h
 case lookup t y z b=>
  simp only[rd]at h ⊢;split at h
  .exact km _ _ _ _ h
  .cases h
 case call cc=>
  obtain⟨callee,args,argTypes⟩:=cc
  cases callee with
  | builtin b=>cases b<;>simp[kindOf]at hk
  | _=>simp[kindOf]at hk
 all_goals (simp[kindOf]at hk)
theorem ym {f g:AV->Option D} (h:∀ x y,f x=some y->g x=some y):∀ {l:List AV} {ys:List D},lS f l=some ys->lS g l=some ys
 | [],_,hh=>hh
 | x :: l,ys,hh=>by
  simp only[lS]at hh ⊢
  cases hf:f x with
  | none=>simp[hf]at hh
  | some y=>
   cases hl:lS f l with
   | none=>simp[hf,hl]at hh
   | some zs=>
    simp only[hf,hl]at hh;rw[h x y hf,ym h hl];exact hh
theorem Ti {H:Heap} {d:Nat} (hd:H d=none) (row:Row):∀ (k:Nat) (x:AV) (y:D),fL H k x=some y->fL (aX H d row) k x=some y:=by
 have key:∀ r y,H r=some y->aX H d row r=some y:=fun r y hr=>by
  unfold aX;split
  .rename_i hh;subst hh;rw[hd]at hr;cases hr
  .exact hr
 intro k
 induction k with
 | zero=>intro x y h;cases x<;>simp only[fL]at h ⊢<;>first | exact h | cases h
 | succ k ih=>
  intro x y h
  cases x with
  | d x=>simpa only[fL]using h
  | own r off n=>
   simp only[fL]at h ⊢;split at h
   .rename_i hr;rw[key _ _ hr];exact h
   .cases h
  | ref r e j=>
   simp only[fL]at h ⊢;split at h
   .rename_i hr;rw[key _ _ hr];dsimp only;split at h
    .rename_i he;rw[if_pos he];obtain⟨ys,h1,h2⟩:=AS.1 h;exact AS.2 ⟨ys,ym ih h1,h2⟩
    .cases h
   .cases h
  | agg cells=>simp only[fL]at h ⊢;obtain⟨ys,h1,h2⟩:=AS.1 h;exact AS.2 ⟨ys,ym ih h1,h2⟩
  | bx cells=>simp only[fL]at h ⊢;obtain⟨ys,h1,h2⟩:=AS.1 h;exact AS.2 ⟨ys,ym ih h1,h2⟩
  | fn f cells=>simp only[fL]at h ⊢;obtain⟨ys,h1,h2⟩:=AS.1 h;exact AS.2 ⟨ys,ym ih h1,h2⟩
  | bZ t x=>simp only[fL]at h ⊢;obtain⟨ys,h1,h2⟩:=AS.1 h;exact AS.2 ⟨ys,ih _ _ h1,h2⟩
  | mp r=>
   simp only[fL]at h ⊢;split at h
   .rename_i hr;rw[key _ _ hr];exact h
   .cases h
  | bm g x=>simp only[fL]at h;cases h
  | dead=>simp only[fL]at h;cases h
theorem Ex.grow {o:Oper} (hk:kindOf o.op=1\/kindOf o.op=2) {e:Env} {H H':Heap} {x:AV} (h:Ex P T Mv G o e H x H') {d:Nat} (hd:H d=none) (row:Row):Ex P T Mv G o e (aX H d row) x (aX H d row):=by
 unfold Ex at h ⊢;split at h
 .rename_i c hc;(try simp only[hc]);obtain⟨y,⟨g,xs,ht,fv⟩,h2,_⟩:=h;refine⟨y,⟨g,xs,ht,?_⟩,h2,by trivial⟩
  rcases fv with h | ⟨ds,h3,h4,h5⟩
  .exact .inl h
  .exact .inr ⟨ds,ym (Ti hd row 4) h3,h4,h5⟩
 .rename_i hc;(try simp only[hc]);split at h
  .rename_i hw
   rcases EO hw with h' | h' | h'<;>omega
  .rename_i hw;rw[if_neg hw];obtain⟨c,h1,h2,_⟩:=h
   rcases hk with hk | hk
   .exact⟨c,acK hk hd row h1,h2,by trivial⟩
   .exfalso;obtain⟨dst,op,type,pos,after,guard⟩:=o;dsimp only at hk hc;unfold kindOf at hk
    split at hk<;>first | omega | skip
    .have:=Jn ‹_›;omega
    .simp[ey]at hc
theorem Ex.free {o:Oper} (hk:kindOf o.op=0) {e:Env} {H H':Heap} {x:AV} (h:Ex P T Mv G o e H x H') (H2:Heap):Ex P T Mv G o e H2 x H2:=by
 unfold Ex at h ⊢;split at h
 .rename_i c hc;have:=(vh hc).2;omega
 .rename_i hc;(try simp only[hc]);split at h
  .rename_i hw
   rcases EO hw with h' | h' | h'<;>omega
  .rename_i hw;rw[if_neg hw];obtain⟨c,h1,h2,_⟩:=h;exact⟨c,by rw[Qx hk H2 H];exact h1,h2,by trivial⟩
theorem Ex.makes {o:Oper} (hk:kindOf o.op=3) {e:Env} {H H':Heap} {x:AV} (h:Ex P T Mv G o e H x H'):∃ d row,o.dst=some d/\H d=none/\H'=aX H d row/\∀ H2,H2 d=none->Ex P T Mv G o e H2 x (aX H2 d row):=by
 obtain⟨dst,op,type,pos,after,guard⟩:=o;dsimp only at hk;unfold Ex at h;unfold Ex
 have hc:ey op=none:=by
  cases cG:ey op with
  | none=>rfl
  | some c=>have:=(vh cG).2;omega
 simp only[hc]at h ⊢
 cases op<;>simp only[kindOf]at hk<;>first | omega | skip
 case load t y=>have:=Jn y;omega
 case alloc t=>
  simp only[gD,if_true]at h ⊢;obtain⟨c,h1,h2⟩:=h
  cases dst with
  | none=>cases h1
  | some d=>
   simp only[wr]at h1 ⊢;split at h1
   .simp only[IT,agA,St.mk.injEq,true_and]at h1;obtain⟨rfl,rfl,rfl⟩:=h1;exact⟨d,_,rfl,h2,rfl,fun H2 h=>⟨_,rfl,h⟩⟩
   .cases h1
 case box t y=>
  simp only[gD,if_true]at h ⊢;obtain⟨c,h1,h2⟩:=h
  cases dst with
  | none=>cases h1
  | some d=>
   simp only[wr]at h1 ⊢;split at h1
   .simp only[IT,agA,St.mk.injEq,true_and]at h1;obtain⟨rfl,rfl,rfl⟩:=h1;exact⟨d,_,rfl,h2,rfl,fun H2 h=>⟨_,rfl,h⟩⟩
   .cases h1
 case makeSlice t y z=>
  simp only[gD,if_true]at h ⊢;obtain⟨c,h1,h2⟩:=h
  cases dst with
  | none=>cases h1
  | some d=>
   simp only[wr]at h1 ⊢;split at h1
   .split at h1
    .split at h1
     .simp only[IT,agA,St.mk.injEq,true_and]at h1;obtain⟨rfl,rfl,rfl⟩:=h1;exact⟨d,_,rfl,h2.1,rfl,fun H2 h=>⟨_,rfl,h,h2.2⟩⟩
     .cases h1
    .cases h1
   .cases h1
 case buildSlice t n ps=>
  simp only[gD,if_true]at h ⊢;obtain⟨c,h1,h2⟩:=h
  cases dst with
  | none=>cases h1
  | some d=>
   simp only[wr]at h1 ⊢;split at h1
   .split at h1
    .split at h1
     .split at h1
      .simp only[IT,agA,St.mk.injEq,true_and]at h1;obtain⟨rfl,rfl,rfl⟩:=h1;exact⟨d,_,rfl,h2.1,rfl,fun H2 h=>⟨_,rfl,h,h2.2⟩⟩
      .cases h1
     .cases h1
    .cases h1
   .cases h1
 case makeMap t rs=>
  simp only[gD,if_true]at h ⊢;obtain⟨c,h1,h2⟩:=h
  cases dst with
  | none=>cases rs<;>cases h1
  | some d=>
   cases rs with
   | some _=>cases h1
   | none=>
    simp only[wr]at h1 ⊢;simp only[IT,agA,St.mk.injEq,true_and]at h1;obtain⟨rfl,rfl,rfl⟩:=h1;exact⟨d,_,rfl,h2,rfl,fun H2 h=>⟨_,rfl,h⟩⟩
 case call cc=>
  obtain⟨callee,args,argTypes⟩:=cc
  cases callee with
  | builtin b=>cases b<;>simp at hk
  | _=>simp at hk
end
end Go.Av
namespace Go.Av
section
variable {P:Program} {T:Ty} {Mv X:Nat->Prop} {G:aC} {N:Fr} {ops:Array Oper}
def Sx (P:Program) (T:Ty) (Mv:Nat->Prop) (G:aC) (N:Fr) (ops:Array Oper) (o:Oper) (e:Env) (H:Heap) (x:AV) (H':Heap):Prop:=
 gP N o/\((jM ops e o=some true/\Ex P T Mv G o e H x H')\/(jM ops e o=some false/\x=dN/\H'=H))
theorem lP {o:Oper} {t:Tmp} (h:Operand.tmp t∈o.op.operands):t∈o.looksAt ops:=
 ah7 _ (List.mem_filterMap.2 ⟨.tmp t,by simpa using h,rfl⟩)
theorem F2 {o:Oper} {e e':Env} (h:∀ t∈o.looksAt ops,e t=e' t):jM ops e o=jM ops e' o:=by
 unfold jM;split
 .rfl
 .rename_i j want hg;unfold DU;split
  .rename_i d hd;rw[h d (List.mem_append_right _ (by simp[hg,hd]))]
  .rfl
theorem kD {x y:Oper} (h:x.apart ops y=true) {e:Env} {v:AV}:(∀ t∈y.looksAt ops,aR e x.dst v t=e t)/\(∀ t∈x.looksAt ops,aR e y.dst v t=e t)/\(∀ d,x.dst=some d->y.dst≠some d):=by
 obtain⟨h1,h2,h3⟩:=Oper.apart_spec h;exact⟨fun t ht=>Qv fun e=>h1 t e ht,fun t ht=>Qv fun e=>h3 t e ht,h2⟩
theorem kinds (o:Op):kindOf o=0\/kindOf o=1\/kindOf o=2\/kindOf o=3\/kindOf o=8\/kindOf o=9:=by unfold kindOf;split<;>simp
theorem yq {q p:Oper} (hc:kH ops q p=true) {e:Env} {H H1 H2:Heap} {x y:AV} (hq:Sx P T Mv G N ops q e H x H1) (hp:Sx P T Mv G N ops p (aR e q.dst x) H1 y H2) (NM:kindOf q.op≠9) (NO:kindOf p.op≠9) :
  ∃ H3,Sx P T Mv G N ops p e H y H3/\Sx P T Mv G N ops q (aR e p.dst y) H3 x H2:=by
 simp only[kH,abi]at hc;obtain⟨gL,je⟩:=hc;obtain⟨a1,_,bl⟩:=kD gL (e:=e) (v:=x);obtain⟨_,a2,_⟩:=kD gL (e:=e) (v:=y);have wp:=F2 (o:=p) (e:=aR e q.dst x) (e':=e) a1;have wq:=F2 (o:=q) (e:=aR e p.dst y) (e':=e) a2;have Ls:iA p.op (aR e q.dst x) e:=fun t ht=>a1 t (lP ht);have Lt:iA q.op e (aR e p.dst y):=fun t ht=>(a2 t (lP ht)).symm;obtain⟨dq,hq⟩:=hq;obtain⟨dp,hp⟩:=hp;rw[wp]at hp
 rcases hq with⟨pM,eq⟩ | ⟨pM,rfl,rfl⟩
 .rcases hp with⟨ya,ep⟩ | ⟨ya,rfl,rfl⟩
  .have uR:=ep.congr NO Ls;have Az:=eq.congr NM Lt
   have fin:∀ H3,Ex P T Mv G p e H y H3->Ex P T Mv G q (aR e p.dst y) H3 x H2->∃ H3,Sx P T Mv G N ops p e H y H3/\Sx P T Mv G N ops q (aR e p.dst y) H3 x H2:=fun H3 h1 h2=>
    ⟨H3,⟨dp,.inl ⟨ya,h1⟩⟩,⟨dq,.inl ⟨by rw[wq];exact pM,h2⟩⟩⟩
   by_cases kp0:kindOf p.op=0
   .obtain rfl:=uR.keeps aa;exact fin H (uR.free kp0 H) Az
   .by_cases kq0:kindOf q.op=0
    .obtain rfl:=eq.keeps aa;exact fin H2 uR (Az.free kq0 H2)
    .by_cases kk:kindOf q.op<=2/\kindOf p.op<=2
     .obtain rfl:=eq.keeps kk.1;obtain rfl:=uR.keeps kk.2;exact fin _ uR Az
     .by_cases k3:kindOf q.op=3/\kindOf p.op=3
      .obtain⟨d,row,hd,hn,rfl,dy⟩:=Az.makes k3.1;obtain⟨d',ir,jI,po,rfl,Hr⟩:=uR.makes k3.2;have ew:d≠d':=fun e=>bl d hd (by rw[jI,e])
       have nT:H d'=none:=by simpa[aX,ahD ew]using po
       have:aX (aX H d row) d' ir=aX (aX H d' ir) d row:=by
        funext i;by_cases h1:i=d<;>by_cases h2:i=d'<;>simp[aX,h1,h2,ew,ahD ew]
       exact fin _ (Hr H nT) (by rw[this];exact dy _ (by simpa[aX,ew]using hn))
      .by_cases ER:(kindOf q.op=1\/kindOf q.op=2)/\kindOf p.op=3
       .obtain rfl:=eq.keeps aa;obtain⟨d,row,hd,hn,rfl,dy⟩:=uR.makes ER.2;exact fin _ uR (Az.grow ER.1 hn row)
       exfalso
       revert je
       have c1:kindOf q.op=1\/kindOf q.op=2\/kindOf q.op=3\/kindOf q.op=8:=by have:=kinds q.op;omega
       have c2:kindOf p.op=1\/kindOf p.op=2\/kindOf p.op=3\/kindOf p.op=8:=by have:=kinds p.op;omega
       rcases c1 with c1 | c1 | c1 | c1<;>rcases c2 with c2 | c2 | c2 | c2<;>rw[c1,c2]<;>first | (simp[uo];done) | (exfalso;apply kk;omega) | (exfalso;exact k3 ⟨c1,c2⟩) | (exfalso;exact ER ⟨.inl c1,c2⟩) | (exfalso;exact ER ⟨.inr c1,c2⟩)
  .exact⟨H,⟨dp,.inr ⟨ya,rfl,rfl⟩⟩,⟨dq,.inl ⟨by rw[wq];exact pM,eq.congr NM Lt⟩⟩⟩
 .rcases hp with⟨ya,ep⟩ | ⟨ya,rfl,rfl⟩
  .exact⟨H2,⟨dp,.inl ⟨ya,ep.congr NO Ls⟩⟩,⟨dq,.inr ⟨by rw[wq];exact pM,rfl,rfl⟩⟩⟩
  .exact⟨_,⟨dp,.inr ⟨ya,rfl,rfl⟩⟩,⟨dq,.inr ⟨by rw[wq];exact pM,rfl,rfl⟩⟩⟩
def run (P:Program) (T:Ty) (Mv:Nat->Prop) (G:aC) (N:Fr) (ops:Array Oper):List Nat->St->St->Prop
 | [],σ,aJ=>σ=aJ
 | i :: l,σ,aJ=>∃ o,ops[i]? = some o/\∃ bh,zY P T Mv G N ops o σ bh/\run P T Mv G N ops l bh aJ
theorem vH {o:Oper} (hk:kindOf o.op≠9) {σ aJ:St}:zY P T Mv G N ops o σ aJ↔∃ x H',Sx P T Mv G N ops o σ.env σ.H x H'/\aJ=⟨aR σ.env o.dst x,H'⟩:=by
 constructor
 .rintro⟨hd,⟨hw,h⟩ | ⟨hw,rfl⟩⟩
  .obtain⟨x,H',h1,h2⟩:=Ex.of hk h;exact⟨x,H',⟨hd,.inl ⟨hw,h1⟩⟩,h2⟩
  .exact⟨dN,σ.H,⟨hd,.inr ⟨hw,rfl,rfl⟩⟩,rfl⟩
 .rintro⟨x,H',⟨hd,⟨hw,h⟩ | ⟨hw,rfl,rfl⟩⟩,rfl⟩
  .exact⟨hd,.inl ⟨hw,h.to⟩⟩
  .exact⟨hd,.inr ⟨hw,rfl⟩⟩
theorem adx {i j:Nat} {l:List Nat} {σ aJ:St} {oi oj:Oper} (hi:ops[i]? = some oi) (hj:ops[j]? = some oj) (hc:kH ops oi oj=true) (h:run P T Mv G N ops (i :: j :: l) σ aJ):run P T Mv G N ops (j :: i :: l) σ aJ:=by
 obtain⟨o1,h1,bh,s1,o2,h2,iy,s2,rest⟩:=h;rw[hi]at h1;rw[hj]at h2;obtain rfl:=AI h1;obtain rfl:=AI h2
 have hk:kindOf oi.op≠9:=by
  intro e;simp only[kH,abi,e]at hc;have:=hc.2
  revert this
  have b2:kindOf oj.op=0\/kindOf oj.op=1\/kindOf oj.op=2\/kindOf oj.op=3\/kindOf oj.op=8\/kindOf oj.op=9:=by unfold kindOf;split<;>simp
  rcases b2 with b | b | b | b | b | b<;>rw[b]<;>simp[uo]
 have gh:kindOf oj.op≠9:=by
  intro e;simp only[kH,abi,e]at hc;have:=hc.2
  revert this
  have b2:kindOf oi.op=0\/kindOf oi.op=1\/kindOf oi.op=2\/kindOf oi.op=3\/kindOf oi.op=8\/kindOf oi.op=9:=by unfold kindOf;split<;>simp
  rcases b2 with b | b | b | b | b | b<;>rw[b]<;>simp[uo]
 obtain⟨x,H1,e1,rfl⟩:=(vH hk).1 s1;obtain⟨y,H2,e2,rfl⟩:=(vH gh).1 s2;obtain⟨H3,f1,f2⟩:=yq hc e1 e2 hk gh;refine⟨oj,hj,_,(vH gh).2 ⟨y,H3,f1,rfl⟩,oi,hi,_,(vH hk).2 ⟨x,H2,f2,rfl⟩,?_⟩
 have Yj:aR (aR σ.env oi.dst x) oj.dst y=aR (aR σ.env oj.dst y) oi.dst x:=by
  simp only[kH,abi]at hc;exact iI (kD hc.1 (e:=σ.env) (v:=x)).2.2
 dsimp only at rest ⊢;rw[Yj]at rest;exact rest
theorem adv {p:Nat} {op:Oper} (hp:ops[p]? = some op):∀ (l1:List Nat) {l2:List Nat} {σ aJ:St},(∀ q∈l1,∀ oq,ops[q]? = some oq->kH ops oq op=true)->run P T Mv G N ops (l1 ++ p :: l2) σ aJ->run P T Mv G N ops (p :: (l1 ++ l2)) σ aJ:=by
 intro l1
 induction l1 with
 | nil=>intro l2 σ aJ _ h;exact h
 | cons q l1 ih=>
  intro l2 σ aJ dy h;obtain⟨oq,hq,bh,s1,rest⟩:=h;have:=ih (fun q' oO=>dy q' (by simp[oO])) rest;have h2:run P T Mv G N ops (q :: p :: (l1 ++ l2)) σ aJ:=⟨oq,hq,bh,s1,this⟩;exact adx hq hp (dy q ak oq hq) h2
theorem KL:∀ (l:List Oper) (acc:List Nat) (k:Nat),k < acc.length->(sJ l acc).getD k 0=acc.getD k 0
 | [],_,_,_=>rfl
 | o :: l,acc,k,hk=>by
  rw[sJ,KL l _ k (by simp;omega)];simp[agw,ahA hk]
theorem TM {acc:List Nat} {o:Oper} {q:Nat} (h:(bitsOf acc o).testBit q=true):∃ e∈o.after,Region.binds .any e=true/\(q=e.on\/(acc.getD e.on 0).testBit q=true):=by
 unfold bitsOf at h
 have key:∀ (l:List Edge),(l.foldr (fun e s=>if Region.binds .any e then (2 ^ e.on ||| acc.getD e.on 0) ||| s else s) 0).testBit q=true->∃ e∈l,Region.binds .any e=true/\(q=e.on\/(acc.getD e.on 0).testBit q=true):=by
  intro l
  induction l with
  | nil=>intro h;simp at h
  | cons e l ih=>
   intro h;rw[List.foldr_cons]at h;split at h
   .rename_i hb;rw[Nat.testBit_or,Nat.testBit_or,ag9,ag9]at h
    rcases h with (h | h) | h
    .rw[Nat.testBit_two_pow]at h
     have h':e.on=q:=by simpa using h
     exact⟨e,ak,hb,.inl h'.symm⟩
    .exact⟨e,ak,hb,.inr h⟩
    .obtain⟨e',jT,r⟩:=ih h;exact⟨e',by simp[jT],r⟩
   .obtain⟨e',jT,r⟩:=ih h;exact⟨e',by simp[jT],r⟩
 obtain⟨e,he,r⟩:=key _ h;exact⟨e,by simpa using he,r⟩
theorem CX:∀ (l:List Oper) (acc:List Nat) (j:Nat) (o:Oper) (q:Nat),l[j]? = some o->((sJ l acc).getD (acc.length+j) 0).testBit q=true->∃ e∈o.after,Region.binds .any e=true/\(q=e.on\/(e.on < acc.length+j/\((sJ l acc).getD e.on 0).testBit q=true))
 | [],_,_,_,_,h,_=>by simp at h
 | o' :: l,acc,0,o,q,h,hb=>by
  simp at h;subst h;rw[sJ,KL l _ _ ak]at hb;simp[agw]at hb;obtain⟨e,he,pc,r⟩:=TM hb;refine⟨e,he,pc,r.imp id fun r=>?_⟩
  have aG:e.on < acc.length:=by
   rcases ahH e.on acc.length with h | h
   .exact h
   .simp[agw,ahN h]at r
  refine⟨aa,?_⟩;rw[sJ,KL l _ _ (by simp;omega)];simpa[agw,ahA aG]using r
 | o' :: l,acc,j+1,o,q,h,hb=>by
  have:=CX l (acc ++ [bitsOf acc o']) j o q (by simpa using h) (by rw[sJ]at hb;simpa[ahs,ah9 1 j]using hb);obtain⟨e,he,pc,r⟩:=this;refine⟨e,he,pc,r.imp id fun r=>?_⟩;rw[sJ];exact⟨by have:=r.1;simp at this;omega,r.2⟩
theorem Fp (h:qO ops=true) {j:Nat} {oj:Oper} (hj:ops[j]? = some oj):(∀ e∈oj.after,Region.binds .any e=true->e.on < j)/\
  ∀ i oi,i < j->ops[i]? = some oi->((tb ops).getD j 0).testBit i=true\/(kH ops oi oj=true/\kH ops oj oi=true):=by
 unfold qO at h;have h1:=ahl.1 h j (ahC.2 (agx.1 hj).1);simp only[hj,abi]at h1;refine⟨fun e he hb=>?_,fun i oi hi ik=>?_⟩
 .have:=Array.all_eq_true_iff_forall_mem.1 h1.1 e he;simpa[hb]using this
 .have:=ahl.1 h1.2 i (ahC.2 hi);simpa[ik]using this
theorem TG (cz:qO ops=true) {listed:Array Bool} (tM:∀ j oj,ops[j]? = some oj->listed.getD j false=true->∀ e∈oj.after,Region.binds .any e=true->listed.getD e.on false=true) :
  ∀ (n j:Nat) (oj:Oper),j<=n->ops[j]? = some oj->(∀ e∈oj.after,Region.binds .any e=true->listed.getD e.on false=true)->∀ q,((tb ops).getD j 0).testBit q=true->listed.getD q false=true:=by
 intro n
 induction n with
 | zero=>
  intro j oj hj fD dy q hq
  have mz:j=0:=aa
  subst mz;obtain⟨e,he,hb,_⟩:=CX ops.toList [] 0 oj q (by simpa using fD) (by simpa[tb]using hq);have:=(Fp cz fD).1 e he hb;omega
 | succ n ih=>
  intro j oj hj fD dy q hq;obtain⟨e,he,hb,r⟩:=CX ops.toList [] j oj q (by simpa using fD) (by simpa[tb]using hq)
  rcases r with rfl | ⟨_,r⟩
  .exact dy e he hb
  .have aG:=(Fp cz fD).1 e he hb
   have eW:e.on < ops.size:=by have:=(agx.1 fD).1;omega
   exact ih e.on ops[e.on] aa (by simp[eW]) (fun e' jT bk=>tM e.on _ (by simp[eW]) (dy e he hb) e' jT bk) q (by simpa[tb]using r)
theorem S6 (hg:Good P T) (cz:qO ops=true) {Q:Exit->St->Prop} {w0:World} {om:Mu} {cJ:St} (hQ:Q .normal cJ):∀ (n:Nat) (R:List Nat) (listed:Array Bool) (w:World) (μ:Mu) (a:Act) (σ:St),R.length=n->R.Nodup->
  (∀ j,j∈R↔j < ops.size/\listed.getD j true=false)->listed.size=ops.size->(R.Pairwise (· < ·))->
  (∀ j oj,ops[j]? = some oj->listed.getD j false=true->∀ e∈oj.after,Region.binds .any e=true->listed.getD e.on false=true)->run P T Mv G N ops R σ cJ->In w X G μ N a σ->Ev Mv w0 om w μ->
  wpAnyIn (wd N.ro) 0 P .any ops (After Mv X G N w0 om Q) n listed a w:=by
 intro n
 induction n with
 | zero=>
  intro R listed w μ a σ hl _ hR bg _ _ dV hi bp;have:R=[]:=agZ hl;subst this
  have hr:Region.ready .any ops listed=[]:=by
   apply List.eq_nil_iff_forall_not_mem.2;intro j hj;obtain⟨h1,o,ho,_⟩:=mem_ready.1 hj;exact absurd ((hR j).2 ⟨(agx.1 ho).1,h1⟩) ak
  have:σ=cJ:=dV;subst this;exact⟨hr,μ,σ,hQ,hi,bp⟩
 | succ n ih=>
  intro R listed w μ a σ hl pq hR bg tV tM dV hi bp;refine⟨fun hr=>?_,fun i HZ=>?_⟩
  .-- the first of the rest may come up
   cases R with
   | nil=>simp at hl
   | cons j R=>
    obtain⟨p4,pj⟩:=(hR j).1 ak
    have Bt:j∈Region.ready .any ops listed:=by
     refine mem_ready.2 ⟨pj,ops[j],by simp[p4],fun e he hb=>?_⟩;have aG:=(Fp cz (j:=j) (oj:=ops[j]) (by simp[p4])).1 e he hb
     have bl:e.on ∉ (j :: R):=by
      intro hm
      rcases agK.1 hm with h | h
      .omega
      .have:=(ahi.1 tV).1 _ h;omega
     have:=mt (hR e.on).2 bl
     have eW:e.on < ops.size:=aa
     have tS:e.on < listed.size:=aa
     simp only[eW,true_and,agz]at this ⊢;simp[tS]at this ⊢;exact this
    rw[hr]at Bt;cases Bt
  .obtain⟨fJ,oi,ik,dy⟩:=mem_ready.1 HZ;have HW:i∈R:=(hR i).2 ⟨(agx.1 ik).1,fJ⟩;obtain⟨R1,R2,rfl⟩:=List.append_of_mem HW
   have HR:=adv (P:=P) (T:=T) (Mv:=Mv) (G:=G) (N:=N) ik R1 (fun q hq oq BK=>by
    have ZC:q < i:=by
     have:=(ahF.1 tV).2.2 q hq i ak;exact this
    rcases (Fp cz ik).2 q oq ZC BK with h | h
    .exfalso;have BA:=TG cz tM i i oi (agD _) ik dy q h;have oP:=((hR q).1 (by simp[hq])).2
     have Iw:q < listed.size:=by have:=(agx.1 BK).1;omega
     simp[agz,Iw]at BA oP;rw[BA]at oP;cases oP
    .exact h.1) dV
   obtain⟨o',sc,bh,hstep,cO⟩:=HR;rw[ik]at sc;obtain rfl:=AI sc;refine zZ hg hstep hi ik fun w' aH a' aS p0=>?_
   have Ij:(R1 ++ R2).Nodup:=by
    have:=pq;rw[List.nodup_append]at this ⊢;obtain⟨g1,g2,g3⟩:=this;exact⟨g1,(ahn.1 g2).2,fun x hx y hy=>g3 x hx y (by simp[hy])⟩
   have HX:i ∉ R1 ++ R2:=by
    have:=pq;rw[List.nodup_append]at this;obtain⟨g1,g2,g3⟩:=this;intro hm
    rcases agN.1 hm with h | h
    .exact g3 i h i ak rfl
    .exact (ahn.1 g2).1 h
   refine ih (R1 ++ R2) _ w' aH a' bh (by simp at hl ⊢;omega) Ij (fun j=>?_) (by simpa using bg) ?_ ?_ cO aS (bp.trans p0)
   .by_cases nP:j=i
    .subst nP
     have tS:j < listed.size:=by rw[bg];exact (agx.1 ik).1
     simp[tS];simpa using HX
    .rw[getD_set_ne true (ahD nP)];rw[<- hR j];simp[nP]
   .rw[ahF]at tV ⊢;obtain⟨g1,g2,g3⟩:=tV;exact⟨g1,(ahi.1 g2).2,fun x hx y hy=>g3 x hx y (by simp[hy])⟩
   .intro j oj fD lg e he hb;by_cases nP:j=i
    .subst nP;rw[ik]at fD;obtain rfl:=AI fD;exact getD_set_true (dy e he hb)
    .rw[getD_set_ne false (ahD nP)]at lg;exact getD_set_true (tM j oj fD lg e he hb)
def vK (P:Program) (T:Ty) (Mv:Nat->Prop) (G:aC) (N:Fr) (ops:Array Oper) (K:St->Prop):List Oper->St->Prop
 | [],σ=>K σ
 | o :: rest,σ=>gP N o/\match jM ops σ.env o with
  | some b=>if b=true then (match ey o.op with
    | some c=>∃ y,As P G σ c y/\vK P T Mv G N ops K rest ⟨aR σ.env o.dst (.d y),σ.H⟩
    | none=>qh T G Mv o σ (vK P T Mv G N ops K rest)) else vK P T Mv G N ops K rest ⟨aR σ.env o.dst dN,σ.H⟩
  | none=>False
theorem aef {K:St->Prop}:∀ (l:List Oper) (k:Nat) (σ:St),(∀ j,l[j]? = ops[k+j]?)->vK P T Mv G N ops K l σ->∃ cJ,K cJ/\run P T Mv G N ops (List.range' k l.length) σ cJ:=by
 intro l
 induction l with
 | nil=>intro k σ _ h;exact⟨σ,h,rfl⟩
 | cons o l ih=>
  intro k σ hl h
  have h0:ops[k]? = some o:=by simpa using (hl 0).symm
  have gr:∀ j,l[j]? = ops[k+1+j]?:=fun j=>by have:=hl (j+1);simpa[ahs,ah9 1 j]using this
  obtain⟨hd,h⟩:=h;rw[agS,List.range'_succ]
  have fin:∀ bh,zY P T Mv G N ops o σ bh->vK P T Mv G N ops K l bh->∃ cJ,K cJ/\run P T Mv G N ops (k :: List.range' (k+1) l.length) σ cJ:=by
   intro bh hs hq;obtain⟨cJ,hk,hr⟩:=ih (k+1) bh gr hq;exact⟨cJ,hk,o,h0,bh,hs,hr⟩
  split at h
  .rename_i b hb;split at h
   .rename_i tH;subst tH;split at h
    .rename_i c hc;obtain⟨y,hy,h⟩:=h;refine fin _ ⟨hd,.inl ⟨hb,?_⟩⟩ h;unfold oC;simp only[hc];exact⟨y,hy,rfl⟩
    .rename_i hc;unfold qh at h;split at h
     .rename_i hw;split at h
      .rename_i c x bh h1;refine fin _ ⟨hd,.inl ⟨hb,?_⟩⟩ h.2;unfold oC;simp only[hc];rw[if_pos hw];exact⟨c,x,bh,h1,h.1,rfl⟩
      .exact h.elim
     .rename_i hw;split at h
      .rename_i c x h1;refine fin _ ⟨hd,.inl ⟨hb,?_⟩⟩ h.2;unfold oC;simp only[hc];rw[if_neg hw];exact⟨c,x,h1,h.1,rfl⟩
      .exact h.elim
   .rename_i pd
    have:b=false:=by simpa using pd
    subst this;exact fin _ ⟨hd,.inr ⟨hb,rfl⟩⟩ h
  .exact h.elim
theorem SI (hg:Good P T) (hm:P.follows .mixedOrders=true) {id:Nat} (cz:qO ops=true) {Q:Exit->St->Prop} {σ:St} (h:vK P T Mv G N ops (fun aJ=>Q .normal aJ) ops.toList σ):AW P Mv X G N (.region id ops true) Q σ:=fun w μ a hi=>by
 obtain⟨cJ,hQ,dV⟩:=aef ops.toList 0 σ ak h;refine wpIn_region_any hm ?_;obtain⟨aS,bp⟩:=hi.qA (Mv:=Mv) (cR.drew w);refine S6 hg cz hQ ops.size (List.range' 0 ops.toList.length) _ w.drew μ a σ ak (by simpa using List.nodup_range') (fun j=>?_) ak (by simpa using List.pairwise_lt_range') ?_ dV aS bp
 .simp[List.mem_range'_1];intro h;simp[agz,h]
 .intro j oj fD lg;have hj:=(agx.1 fD).1;simp[agz,hj]at lg
end
def ek (P:Program) (t:TypeId):Bool:=!P.stoodInHeld t && !P.eqGuardType P.depth t
def cF (P:Program):Ty:=fun t=>match P.underlying t,P.info? t with
 | some d,some i=>i.zero.map fun z=>⟨d,i.size,i.bytes,z,ek P t⟩
 | _,_=>none
theorem aB (P:Program):Good P (cF P):=by
 intro t ti h;unfold cF at h;split at h
 .rename_i d i hd hi;obtain⟨z,hz,rfl⟩:=AS.1 h;exact⟨hd,i,hi,rfl,rfl,hz,fun h=>by unfold ek at h;simpa using h⟩
 .cases h
end Go.Av
namespace Go.Av
def xK:List Nat->Env->List (Nat×AV)
 | [],_=>[]
 | i :: l,e=>match e i with
  | some x=>(i,x) :: xK l e
  | none=>xK l e
section
variable {P:Program} {T:Ty} {Mv X:Nat->Prop} {G:aC} {N:Fr} {σ:St}
theorem aK.env {e e':Env} {H:Heap} (h:∀ i x,e' i=some x->e i=some x):aK Mv X G N ⟨e,H⟩ ⟨e',H⟩:=fun w μ _ hi=>
 ⟨μ,⟨hi.bu,⟨hi.env.defers,hi.env.size,fun i x hx=>hi.env.slot i x (h i x hx)⟩,hi.jq⟩,.refl _ w μ⟩
theorem Jr {e:Env}:∀ {l:List Nat} {i:Nat} {x:AV},bn (xK l e) i=some x->e i=some x
 | [],_,_,h=>by simp[bn,xK]at h
 | j :: l,i,x,h=>by
  simp only[xK]at h;split at h
  .rename_i y hy;simp only[bn,List.lookup]at h;split at h
   .rename_i ph
    have:i=j:=by simpa using ph
    subst this;obtain rfl:=AI h;exact hy
   .exact Jr (l:=l) h
  .exact Jr (l:=l) h
theorem ag {x y:Code} {Q:Exit->St->Prop} (h:∀ K:St->Prop,(∀ aJ,AW P Mv X G N y Q aJ->K aJ)->AW P Mv X G N x (aT K Q) σ):AW P Mv X G N (.seq x y) Q σ:=sN (h _ fun _ h=>h)
theorem Js:∀ {l:List (Nat×AV)} {i:Nat} {x:AV},bn l i=some x->(i,x)∈l
 | [],_,_,h=>by simp[bn]at h
 | (j,y) :: l,i,x,h=>by
  simp only[bn,List.lookup]at h;split at h
  .rename_i ph
   have:i=j:=by simpa using ph
   subst this;obtain rfl:=AI h;simp
  .exact List.mem_cons_of_mem _ (Js (l:=l) h)
def ba (Mv X:Nat->Prop) (G:aC) (N:Fr) {S:Type} (I:S->Prop) (inv:S->St) (pz:S->Nat) (s:S) (σ:St):Prop:=∃ s',I s'/\pz s' < pz s/\aK Mv X G N σ (inv s')
theorem ba.mk {S:Type} {I:S->Prop} {inv:S->St} {pz:S->Nat} {s:S} (s':S) (hI:I s') (hm:pz s' < pz s) (h:aK Mv X G N σ (inv s')):ba Mv X G N I inv pz s σ:=⟨s',hI,hm,h⟩
theorem cy {S:Type} {id:Nat} {c:Code} {Q:Exit->St->Prop} (I:S->Prop) (inv:S->St) (pz:S->Nat) (s0:S) (h0:aK Mv X G N σ (inv s0)) (hI:I s0)
  (round:∀ s,I s->AW P Mv X G N c (aT (ba Mv X G N I inv pz s) (aV id Q)) (inv s)):AW P Mv X G N (.block id (.loop c)) Q σ:=
 bd (SA (S:={s // I s}) (fun s=>inv s.1) (fun s=>pz s.1) ⟨s0,hI⟩ h0 fun s=>(round s.1 s.2).mono fun e τ q=>by
  cases e with
  | normal=>obtain⟨s',h1,h2,h3⟩:=q;exact⟨⟨s',h1⟩,h2,h3⟩
  | _=>exact q)
theorem eE {c:Operand} {x y:Code} {Q:Exit->St->Prop} {b:Prop} [Decidable b] (hc:bF G σ.env c=some (.d (.v (.bool (decide b))))) (ht:b->AW P Mv X G N x Q σ) (hf:¬ b->AW P Mv X G N y Q σ):AW P Mv X G N (.cond c x y) Q σ:=
 pO (decide b) hc (fun h=>ht (of_decide_eq_true h)) (fun h=>hf (of_decide_eq_false h))
end
end Go.Av
namespace Go.Av
def Cg (l:List AV):AV:=match lR l with
 | some ds=>.d (.bx ds)
 | none=>.bx l
def AV.tr (o f:Nat->Nat->Nat->AV):AV->AV
 | .d x=>.d x
 | .own q off n=>o q off n
 | .ref q e j=>f q e j
 | .agg cells=>qe (go o f cells)
 | .bx vs=>Cg (go o f vs)
 | .bZ t x=>Cf t (x.tr o f)
 | .fn g caps=>Ce g (go o f caps)
 | .bm g x=>.bm g (x.tr o f)
 | .mp q=>match f q 0 0 with
  | .ref q' _ _=>.mp q'
  | _=>.dead
 | .dead=>.dead
where
 go (o f:Nat->Nat->Nat->AV):List AV->List AV
 | []=>[]
 | x :: l=>x.tr o f :: go o f l
theorem AV.z8 (o f:Nat->Nat->Nat->AV) (l:List AV):AV.tr.go o f l=l.map (AV.tr o f):=by
 induction l with
 | nil=>rfl
 | cons x l ih=>simp[AV.tr.go,ih]
def Row.tr (o f:Nat->Nat->Nat->AV):Row->Row
 | .sl ty sz els=>.sl ty sz els
 | .box ty cells=>.box ty (cells.map (AV.tr o f))
 | .mp ty ents=>.mp ty ents
 | .it ents seen=>.it ents seen
def me (o f:Nat->Nat->Nat->AV) (e:Env):Env:=fun i=>(e i).map (AV.tr o f)
def fe (keep:Nat->Bool) (o f:Nat->Nat->Nat->AV) (H:Heap):Heap:=fun r=>if keep r then (H r).map (Row.tr o f) else none
def cA (keep:Nat->Bool) (μ:Mu):Mu:=fun r=>if keep r then μ r else none
section
variable {P:Program} {T:Ty} {Mv X:Nat->Prop} {G:aC} {N:Fr} {w:World} {μ:Mu} {a:Act} {σ:St}
theorem E8 {u:Value} {l:List AV} (h:RV w X μ u (.bx l)):RV w X μ u (Cg l):=by
 unfold Cg;split
 .rename_i ds hd;rw[qo hd]at h;obtain⟨arr,rfl,hn,hr⟩:=h.Aa;refine .d (.bx (by simpa using hn) fun j u c hu hc=>?_);exact (hr j u (.d c) hu (by rw[agC,hc];rfl)).data
 .exact h
theorem kh {keep:Nat->Bool} {r:Nat} {m:jo} (h:cA keep μ r=some m):keep r=true/\μ r=some m:=by
 unfold cA at h;split at h
 .rename_i hk;exact⟨hk,h⟩
 .cases h
theorem Db {keep:Nat->Bool} {b:Nat} (h:XX X (cA keep μ) b):XX X μ b:=h.elim .inl fun ⟨r,m,hr,hb⟩=>.inr ⟨r,m,(kh hr).2,hb⟩
theorem RV.tr {aH:Mu} {o f:Nat->Nat->Nat->AV} (hX:∀ b,XX X aH b->XX X μ b) (ho:∀ u r off n,RV w X μ u (.own r off n)->RV w X aH u (o r off n)) (hf:∀ u r e j,RV w X μ u (.ref r e j)->RV w X aH u (f r e j)) :
  ∀ {v:Value} {x:AV},RV w X μ v x->RV w X aH v (x.tr o f):=by
 intro v x hr
 induction hr with
 | d h'=>exact .d (h'.mono (agD _) fun b _ hb=>⟨rfl,fun e=>hb (hX b e)⟩)
 | own hm h'=>exact ho _ _ _ _ (.own hm h')
 | ref hm hb=>exact hf _ _ _ _ (.ref hm hb)
 | agg hn _ ih=>
  rw[AV.tr,AV.z8];refine Cd (.agg (by simpa using hn) fun j u c hu hc=>?_);rw[agC]at hc;obtain⟨c',dZ,rfl⟩:=AS.1 hc;exact ih j u c' hu dZ
 | bx hn _ ih=>
  rw[AV.tr,AV.z8];refine E8 (.bx (by simpa using hn) fun j u c hu hc=>?_);rw[agC]at hc;obtain⟨c',dZ,rfl⟩:=AS.1 hc;exact ih j u c' hu dZ
 | bZ _ ih=>exact JA ih
 | bm _ ih=>exact .bm ih
 | fn hn _ ih=>
  rw[AV.tr,AV.z8];refine Jz (by simpa using hn) fun j u c hu hc=>?_;rw[agC]at hc;obtain⟨c',dZ,rfl⟩:=AS.1 hc;exact ih j u c' hu dZ
 | mp hm hb=>
  rename_i r b m;have h0:=hf _ _ _ _ (RV.ref (e:=0) (j:=0) hm hb);unfold AV.tr;split
  .rename_i q' e' j' hq;rw[hq]at h0;obtain⟨m',b',cH,bk,e⟩:=h0.lu;simp only[Value.pointer.injEq,IT,Addr.mk.injEq]at e;obtain⟨rfl,_⟩:=e;exact .mp cH bk
  .exact .dead _
 | dead u=>exact .dead u
theorem yJ {keep:Nat->Bool} (hk:∀ r m,μ r=some m->keep r=false->Mv r):Ev Mv w μ w (cA keep μ):=by
 refine⟨agD _,rfl,rfl,rfl,fun b hb hr=>⟨rfl,?_⟩,fun q mq hq hn=>?_⟩
 .rintro⟨q,mq,hq,ld⟩;exact hr ⟨q,mq,(kh hq).2,ld⟩
 .unfold cA
  cases h:keep q with
  | true=>simpa using hq
  | false=>exact absurd (hk q mq hq h) hn
theorem In.tr {keep:Nat->Bool} {o f:Nat->Nat->Nat->AV} (hi:In w X G μ N a σ) (ho:∀ u r off n,RV w X μ u (.own r off n)->RV w X (cA keep μ) u (o r off n)) (hf:∀ u r e j,RV w X μ u (.ref r e j)->RV w X (cA keep μ) u (f r e j)) :
  In w X G (cA keep μ) N a ⟨me o f σ.env,fe keep o f σ.H⟩:=by
 have hX:∀ b,XX X (cA keep μ) b->XX X μ b:=fun b=>Db;have tC:∀ {u:Value} {x:D},RD w (XX X μ) u x->RD w (XX X (cA keep μ)) u x:=fun h=>h.mono (agD _) fun b _ hb=>⟨rfl,fun e=>hb (hX b e)⟩;have Bb:∀ {u:Value} {x:AV},RV w X μ u x->RV w X (cA keep μ) u (x.tr o f):=fun h=>RV.tr hX ho hf h
 refine⟨⟨fun r row hr=>?_,fun r m hr=>?_,fun q q' m1 m2 b h1 h2 eM gB=>hi.bu.inj q q' m1 m2 b (kh h1).2 (kh h2).2 eM gB,fun q mq b hq hb=>hi.bu.frame q mq b (kh hq).2 hb,hi.bu.fits⟩,
  ⟨hi.env.defers,hi.env.size,fun i x hx=>?_⟩,fun g x hx=>tC (hi.jq g x hx)⟩
 .replace hr:fe keep o f σ.H r=some row:=hr;unfold fe at hr;split at hr
  .rename_i hk;obtain⟨oY,h0,rfl⟩:=AS.1 hr;obtain⟨m,hm,ok⟩:=hi.bu.rows r oY h0;refine⟨m,by simp[cA,hk,hm],?_⟩
   cases ok with
   | nil h1 h2=>exact .nil h1 h2
   | sl h1 h2 h3 h4 h5 h6 h7 h8 h9=>exact .sl h1 h2 h3 h4 h5 h6 h7 h8 fun i j el c he hc=>let ⟨u,hu,hr⟩:=h9 i j el c he hc;⟨u,hu,tC hr⟩
   | box h1 h2 h3 h4 h5 h6 h7=>
    refine .box h1 rfl h3 h4 (by simpa using h5) (fun j u c hu hc=>?_) (by simpa using h7);rw[agC]at hc;obtain⟨c',dZ,rfl⟩:=AS.1 hc;exact Bb (h6 j u c' hu dZ)
   | mp h1 h2 h3 h4=>exact .mp h1 h2 h3 fun i e p he hp=>let ⟨a,b,c⟩:=h4 i e p he hp;⟨a,b,tC c⟩
   | it h1 h2 h3=>exact .it h1 h2 (tC h3)
  .cases hr
 .obtain⟨hk,hm⟩:=kh hr;obtain⟨row,dX⟩:=hi.bu.lD r m hm;exact⟨row.tr o f,by simp[fe,hk,dX]⟩
 .replace hx:me o f σ.env i=some x:=hx;unfold me at hx;obtain⟨x0,h0,rfl⟩:=AS.1 hx;obtain⟨u,hu,hr⟩:=hi.env.slot i x0 h0;exact⟨u,hu,Bb hr⟩
theorem RV.Cq {keep:Nat->Bool} {u:Value} {r off n:Nat} (hk:keep r=true) (h:RV w X μ u (.own r off n)):RV w X (cA keep μ) u (.own r off n):=by
 obtain⟨m,hm,hh⟩:=h.ma;exact .own (by simp[cA,hk,hm]) hh
theorem RV.CD {keep:Nat->Bool} {u:Value} {r e j:Nat} (hk:keep r=true) (h:RV w X μ u (.ref r e j)):RV w X (cA keep μ) u (.ref r e j):=by
 obtain⟨m,b,hm,hb,rfl⟩:=h.lu;exact .ref (by simp[cA,hk,hm]) hb
def fF (ns:List Nat) (q off n:Nat):AV:=if ns.contains q then .own q off n else .dead
def fE (ns:List Nat) (q e j:Nat):AV:=if ns.contains q then .ref q e j else .dead
def vo:List Nat->Heap->List (Nat×Row)
 | [],_=>[]
 | r :: l,H=>match H r with
  | some row=>(r,row) :: vo l H
  | none=>vo l H
theorem aK.only (ns:List Nat) (hm:∀ r,ns.contains r=false->Mv r):aK Mv X G N σ ⟨me (fF ns) (fE ns) σ.env,fe ns.contains (fF ns) (fE ns) σ.H⟩:=fun w μ a hi=>by
 refine⟨cA ns.contains μ,hi.tr (fun u r off n h=>?_) (fun u r e j h=>?_),yJ fun r _ _ h=>hm r h⟩
 .unfold fF;split
  .rename_i hk;exact h.Cq hk
  .exact .dead u
 .unfold fE;split
  .rename_i hk;exact h.CD hk
  .exact .dead u
theorem NS {H:Heap}:∀ {l:List Nat} {r:Nat},aw (vo l H) r=if l.contains r then H r else none
 | [],r=>by simp[aw,vo]
 | q :: l,r=>by
  have ih:=NS (H:=H) (l:=l) (r:=r);simp only[vo];split
  .rename_i row dX;simp only[aw,List.lookup,List.contains_cons];split
   .rename_i zm
    have:r=q:=by simpa using zm
    subst this;simp[dX]
   .rename_i zm;rw[zm,ah2];exact ih
  .rename_i dX;rw[ih,List.contains_cons];by_cases zm:r=q
   .subst zm;simp[dX]
   .simp[zm]
def St.norm (l ns:List Nat) (σ:St):St:=⟨bn (xK l (me (fF ns) (fE ns) σ.env)),aw (vo ns (fe ns.contains (fF ns) (fE ns) σ.H))⟩
theorem Zd {ns:List Nat} {o f:Nat->Nat->Nat->AV} {H:Heap}:aw (vo ns (fe ns.contains o f H))=fe ns.contains o f H:=by
 funext r;rw[NS];unfold fe;split<;>simp_all
theorem aK.norm (l ns:List Nat) (hm:∀ r,ns.contains r=false->Mv r):aK Mv X G N σ (σ.norm l ns):=by
 refine (aK.only ns hm).trans ?_;unfold St.norm;rw[Zd];exact aK.env fun _ _=>Jr
theorem aK.to {e:Env} {H:Heap} {l:List (Nat×AV)} {rows:List (Nat×Row)} (hm:∀ r,(rows.map (·.1)).contains r=false->Mv r) (he:∀ p∈l,(e p.1).map (AV.tr (fF (rows.map (·.1))) (fE (rows.map (·.1))))=some p.2)
  (hH:∀ r,aw rows r=fe (rows.map (·.1)).contains (fF (rows.map (·.1))) (fE (rows.map (·.1))) H r):aK Mv X G N ⟨e,H⟩ ⟨Go.Av.bn l,aw rows⟩:=by
 refine (aK.only (rows.map (·.1)) hm).trans ?_;have:aw rows=fe (rows.map (·.1)).contains (fF (rows.map (·.1))) (fE (rows.map (·.1))) H:=funext hH;rw[this];exact aK.env fun i x hx=>he (i,x) (Js hx)
theorem FH {rows:List (Nat×Row)} {H:Heap} {o f:Nat->Nat->Nat->AV} (h:∀ p∈rows,(H p.1).map (Row.tr o f)=aw rows p.1):∀ r,aw rows r=fe (rows.map (·.1)).contains o f H r:=by
 intro r;unfold fe;split
 .rename_i hk;obtain⟨p,hp,rfl⟩:=ag3.1 (aha.1 hk);exact (h p hp).symm
 .rename_i hk
  have:∀ l:List (Nat×Row),¬ (l.map (·.1)).contains r=true->aw l r=none:=by
   intro l
   induction l with
   | nil=>intro _;rfl
   | cons q l ih=>
    intro hc;simp only[agW,List.contains_cons,ag9,not_or]at hc;simp only[aw,List.lookup];split
    .rename_i h1;exact absurd h1 hc.1
    .exact ih hc.2
  exact this rows hk
theorem aK.fk {e:Env} {H:Heap} {l:List (Nat×AV)} {rows:List (Nat×Row)} (hm:∀ r,(rows.map (·.1)).contains r=false->Mv r) (he:∀ p∈l,(e p.1).map (AV.tr (fF (rows.map (·.1))) (fE (rows.map (·.1))))=some p.2)
  (hH:∀ p∈rows,(H p.1).map (Row.tr (fF (rows.map (·.1))) (fE (rows.map (·.1))))=aw rows p.1):aK Mv X G N ⟨e,H⟩ ⟨Go.Av.bn l,aw rows⟩:=aK.to hm he (FH hH)
def DO (r:Nat) (els:List (List D)) (q off n:Nat):AV:=if q=r then (if off=0/\n=els.length then .d (.sl none els) else if off+n<=els.length then .d (.sl none ((els.drop off).take n)) else .dead) else .own q off n
def DN (r:Nat) (q e j:Nat):AV:=if q=r then .dead else .ref q e j
def jY (r:Nat) (q:Nat):Bool:=!(q == r)
def St.freeze (r:Nat) (σ:St):St:=match σ.H r with
 | some (.sl _ _ els)=>⟨me (DO r els) (DN r) σ.env,fe (jY r) (DO r els) (DN r) σ.H⟩
 | _=>σ
theorem aK.freeze (r:Nat) (hm:Mv r):aK Mv X G N σ (σ.freeze r):=fun w μ a hi=>by
 unfold St.freeze;split
 .rename_i ty sz els hr
  have xb:(fun q=>if q=r then none else μ q)=cA (jY r) μ:=by
   funext q;unfold cA jY;by_cases h:q=r<;>simp[h]
  refine⟨cA (jY r) μ,hi.tr (fun u q off n h=>?_) (fun u q e j h=>?_),yJ fun q _ _ hq=>by
   have e:q=r:=by simpa[jY]using hq
   exact e ▸ hm⟩
  .unfold DO;split
   .rename_i hq;subst hq
    have hd:∀ {off n:Nat},RV w X μ u (.own q off n)->off+n<=els.length->RV w X (cA (jY q) μ) u (.d (.sl none ((els.drop off).take n))):=fun h hle=>by
     obtain⟨k,hk,_⟩:=JX hi.bu hr hle h;rw[xb]at hk;exact .d hk.vL
    split
    .rename_i h2;obtain⟨rfl,rfl⟩:=h2;have:=hd h aa;simpa using this
    .split
     .rename_i hle;exact hd h hle
     .exact .dead u
   .rename_i hq;exact h.Cq (by simp[jY,hq])
  .unfold DN;split
   .exact .dead u
   .rename_i hq;exact h.CD (by simp[jY,hq])
 .exact⟨μ,hi,.refl _ w μ⟩
def DL (r:Nat) (ds:List D) (q e j:Nat):AV:=if q=r then (if e=0 then .d (.ip (ds.drop j)) else .dead) else .ref q e j
def DM (r:Nat) (q off n:Nat):AV:=if q=r then .dead else .own q off n
def St.r0 (r:Nat) (σ:St):St:=match σ.H r with
 | some (.box _ cells)=>match lR cells with
  | some ds=>⟨me (DM r) (DL r ds) σ.env,fe (jY r) (DM r) (DL r ds) σ.H⟩
  | none=>σ
 | _=>σ
theorem aK.r0 (r:Nat) (hm:Mv r):aK Mv X G N σ (σ.r0 r):=fun w μ a hi=>by
 unfold St.r0;split
 .rename_i ty cells hr;split
  .rename_i ds mv
   refine⟨cA (jY r) μ,hi.tr (fun u q off n h=>?_) (fun u q e j h=>?_),yJ fun q _ _ hq=>by
    have e:q=r:=by simpa[jY]using hq
    exact e ▸ hm⟩
   .unfold DM;split
    .exact .dead u
    .rename_i hq;exact h.Cq (by simp[jY,hq])
   .unfold DL;split
    .rename_i hq;subst hq;split
     .rename_i he;subst he;obtain⟨m,b,zf,hb,rfl⟩:=h.lu;obtain⟨m',cH,ok⟩:=hi.bu.rows q _ hr;rw[zf]at cH;obtain rfl:=AI cH
      cases ok with
      | box bk bg lH hh hn lN zw=>
       rename_i b' cur;rw[hb]at bk;obtain rfl:=AI bk;have ic:=qo mv
       have hlen:cells.length=ds.length:=by rw[ic,ag5]
       simp only[ahM,ag4];refine .d (.ip (f:=fun i=>cur.getD (j+i) undef) ?_ (agx.1 hh).1 (fun i e9=>?_) fun i d jI=>?_)
       .rintro (hX | ⟨q',m',oO,X9⟩)
        .exact hi.bu.frame q m b zf hb hX
        .obtain⟨hk,Zi⟩:=kh oO;have:=hi.bu.inj q' q m' m b Zi zf X9 hb;simp[jY,this]at hk
       .simp only[agX]at e9;rw[cell_of_row w b (j+i) cur ty (0,0) hh];simp[agz,show j+i < cur.size by omega]
       .have e9:=(BY.1 jI).1;simp only[agX]at e9;rw[ahd]at jI
        have hc:cells[j+i]? = some (.d d):=by rw[ic,agC,jI];rfl
        have aG:j+i < cur.size:=aa
        have:=lN (j+i) cur[j+i] (.d d) (by simp[aG]) hc;simp only[agz,aG,agL,ah1];exact this.data.sub fun b=>Db
     .exact .dead u
    .rename_i hq;exact h.CD (by simp[jY,hq])
  .exact⟨μ,hi,.refl _ w μ⟩
 .exact⟨μ,hi,.refl _ w μ⟩
def St.AM (r:Nat) (σ:St):St:=(σ.freeze r).r0 r
theorem aK.AM (r:Nat) (hm:Mv r):aK Mv X G N σ (σ.AM r):=(aK.freeze r hm).trans (aK.r0 r hm)
theorem aK.kC (i r ty sz:Nat) {e:Env} {H:Heap} (hr:H r=none) (he:e i=some (.d (.sl (some false) []))):aK Mv X G N ⟨e,H⟩ ⟨gI e i (.own r 0 0),aX H r (.sl ty sz [])⟩:=fun w μ a hi=>by
 obtain⟨aS,ev⟩:=hi.alloc (Mv:=Mv) (w':=w) (m:=⟨none,sz,0⟩) hr (cR.refl w) ak (row:=.sl ty sz []) fun _=>.nil rfl rfl;refine⟨eB μ r ⟨none,sz,0⟩,⟨aS.bu,⟨aS.env.defers,aS.env.size,fun j x hx=>?_⟩,aS.jq⟩,ev⟩;simp only[gI]at hx;split at hx
 .rename_i hj;subst hj;obtain rfl:=AI hx;obtain⟨u,hu,im⟩:=hi.env.slot j _ he;refine⟨u,hu,.own (m:=⟨none,sz,0⟩) (by simp[eB]) (.inl ⟨rfl,?_,rfl,rfl⟩)⟩
  rcases im.data.qT with⟨rfl,_⟩ | ⟨_,_,_,hk,_⟩
  .rfl
  .exact absurd rfl hk
 .exact aS.env.slot j x hx
end
end Go.Av
namespace Go.Av
theorem TQ (a b:Int):(a != b)=decide (¬ a=b):=by by_cases h:a=b<;>simp[h]
theorem TH (a b:Int):(a == b)=decide (a=b):=by by_cases h:a=b<;>simp[h]
theorem aL {α β:Type} (f:α->β) (l:List α):List.take l.length (List.map f l)=List.map f l:=sh ak
def rowsOf (H:Heap):Nat->AV->List Nat
 | 0,_=>[]
 | _+1,.own r _ _=>[r]
 | k+1,.ref r _ _=>match H r with
  | some (.box _ cells)=>go H k cells ++ [r]
  | _=>[]
 | k+1,.agg cells=>go H k cells
 | k+1,.bZ _ x=>rowsOf H k x
 | _+1,_=>[]
where
 go (H:Heap) (k:Nat):List AV->List Nat
 | []=>[]
 | x :: l=>rowsOf H k x ++ go H k l
def rm:List Nat->St->St
 | [],σ=>σ
 | r :: l,σ=>rm l (σ.AM r)
def zU (G:aC) (o:Oper) (σ:St):St:=match o.op with
 | .buildSlice _ _ parts=>match mY G σ.env parts.toList with
  | some ps=>rm (rowsOf.go σ.H 6 (ps.map (·.2))) σ
  | none=>σ
 | .mapUpdate _ _ _ v=>match bF G σ.env v with
  | some x=>rm (rowsOf σ.H 6 x) σ
  | none=>σ
 | .insert _ _ _ v=>match bF G σ.env v with
  | some x=>rm (rowsOf σ.H 6 x) σ
  | none=>σ
 | _=>σ
def Ft (G:aC) (o:Oper) (σ:St):List Nat:=match o.op with
 | .buildSlice _ _ parts=>match mY G σ.env parts.toList with
  | some ps=>rowsOf.go σ.H 6 (ps.map (·.2))
  | none=>[]
 | .mapUpdate _ _ _ v=>match bF G σ.env v with
  | some x=>rowsOf σ.H 6 x
  | none=>[]
 | .insert _ _ _ v=>match bF G σ.env v with
  | some x=>rowsOf σ.H 6 x
  | none=>[]
 | _=>[]
def dT (P:Program) (Mv X:Nat->Prop) (G:aC) (N:Fr) (g:FuncId) (xs:List AV) (σ:St) (dst:Option Tmp) (next:St->Prop):Prop:=
 lU P Mv X G N g xs σ fun x aJ=>next ⟨aR aJ.env dst x,aJ.H⟩
def kG (P:Program) (G:aC) (c:Call) (σ:St) (dst:Option Tmp) (next:St->Prop):Prop:=∃ y,As P G σ c y/\next ⟨aR σ.env dst (.d y),σ.H⟩
def wA (P:Program) (T:Ty) (Mv X:Nat->Prop) (G:aC) (N:Fr) (o:Oper) (σ:St) (next:St->Prop):Prop:=match ey o.op with
 | some c=>match lz G σ.env c with
  | some (g,xs)=>dT P Mv X G N g xs σ o.dst next
  | none=>False
 | none=>(∀ r∈Ft G o σ,Mv r)/\qh T G Mv o (zU G o σ) next
def ku (P:Program) (T:Ty) (Mv X:Nat->Prop) (G:aC) (N:Fr) (ops:Array Oper) (K:St->Prop):List Oper->St->Prop
 | [],σ=>K σ
 | o :: rest,σ=>gP N o/\match jM ops σ.env o with
  | some b=>if b=true then wA P T Mv X G N o σ (ku P T Mv X G N ops K rest) else ku P T Mv X G N ops K rest ⟨aR σ.env o.dst dN,σ.H⟩
  | none=>False
def o3 (P:Program) (T:Ty) (Mv:Nat->Prop) (G:aC) (N:Fr) (ops:Array Oper) (K:St->Prop):List Oper->St->Prop
 | [],σ=>K σ
 | o :: rest,σ=>gP N o/\match jM ops σ.env o with
  | some b=>if b=true then (match ey o.op with
    | some c=>kG P G c σ o.dst (o3 P T Mv G N ops K rest)
    | none=>qh T G Mv o σ (o3 P T Mv G N ops K rest)) else o3 P T Mv G N ops K rest ⟨aR σ.env o.dst dN,σ.H⟩
  | none=>False
section
variable {P:Program} {T:Ty} {Mv X:Nat->Prop} {G:aC} {N:Fr} {w:World} {μ:Mu} {a:Act} {σ:St}
theorem RU {ops:Array Oper} {K:St->Prop}:∀ (l:List Oper),o3 P T Mv G N ops K l=vK P T Mv G N ops K l
 | []=>rfl
 | o :: l=>by
  funext σ;simp only[o3,vK,kG,RU l]
  all_goals rfl
theorem aK.rm:∀ (l:List Nat) {σ:St},(∀ r∈l,Mv r)->aK Mv X G N σ (Go.Av.rm l σ)
 | [],σ,_=>.refl σ
 | r :: l,_,hm=>(aK.AM r (hm r ak)).trans (aK.rm l fun q hq=>hm q (by simp[hq]))
theorem aK.zU (o:Oper) (hm:∀ r∈Ft G o σ,Mv r):aK Mv X G N σ (Go.Av.zU G o σ):=by
 unfold Go.Av.zU;unfold Ft at hm;split
 .rename_i ho;simp only[ho]at hm;split
  .rename_i hp;simp only[hp]at hm;exact .rm _ hm
  .exact .refl σ
 .rename_i ho;simp only[ho]at hm;split
  .rename_i hp;simp only[hp]at hm;exact .rm _ hm
  .exact .refl σ
 .rename_i ho;simp only[ho]at hm;split
  .rename_i hp;simp only[hp]at hm;exact .rm _ hm
  .exact .refl σ
 .exact .refl σ
theorem Mx (hg:Good P T) (hi:In w X G μ N a σ) {o:Oper} {K:St->Prop} (hd:∀ d,o.dst=some d->d < N.n) (h:wA P T Mv X G N o σ K) {Q:Exit->Act->World->Prop} {next:Act->World->Prop}
  (hk:∀ w' aH a' aJ,K aJ->In w' X G aH N a' aJ->Ev Mv w μ w' aH->next a' w'):o.wpIn (wd N.ro) 0 P a w next Q:=by
 unfold wA at h;split at h
 .rename_i c hc;refine DG (Mv:=Mv) hg hi hd ?_ hk;unfold mZ;rw[hc];dsimp only;split at h
  .rename_i ht;rw[ht];exact h
  .exact h.elim
 .rename_i hc;obtain⟨lQ,fJ,rj⟩:=aK.zU (Mv:=Mv) (X:=X) o h.1 w μ a hi;refine DG (Mv:=Mv) hg fJ (K:=K) hd ?_ fun w' aH a' aJ k aS bp=>hk w' aH a' aJ k aS (rj.trans bp);unfold mZ;rw[hc];exact h.2
theorem aeb (hg:Good P T) {ops:Array Oper} {Q:Exit->St->Prop} {w0:World} {om:Mu}:∀ (l:List Oper) (k:Nat) (w:World) (μ:Mu) (a:Act) (σ:St),(∀ j,l[j]? = ops[k+j]?)->ku P T Mv X G N ops (fun aJ=>Q .normal aJ) l σ->In w X G μ N a σ->Ev Mv w0 om w μ->
  wpOpsIn (wd N.ro) 0 P ops (After Mv X G N w0 om Q) (List.range' k l.length) a w:=by
 intro l
 induction l with
 | nil=>intro k w μ a σ _ h hi bp;exact⟨μ,σ,h,hi,bp⟩
 | cons o l ih=>
  intro k w μ a σ hl h hi bp
  have h0:ops[k]? = some o:=by simpa using (hl 0).symm
  have gr:∀ j,l[j]? = ops[k+1+j]?:=fun j=>by have:=hl (j+1);simpa[ahs,ah9 1 j]using this
  obtain⟨hd,h⟩:=h
  have jI:∀ d,o.dst=some d->d < N.n:=fun d e=>by unfold gP at hd;rw[e]at hd;exact hd
  rw[agS,List.range'_succ];simp only[wpOpsIn,h0];split at h
  .rename_i b hb;rw[x8 hi hb];split at h
   .rename_i tH;subst tH;rw[if_pos rfl];exact (Mx hg hi jI h fun w' aH a' aJ k' aS p0=>ih (k+1) w' aH a' aJ gr k' aS (bp.trans p0))
   .rename_i pd;rw[if_neg (by simpa using pd)];exact⟨fun _ _=>trivial,ih (k+1) w μ _ _ gr h (hi.put (.d (.v _)) jI) bp⟩
  .exact h.elim
theorem Lj (hg:Good P T) {id:Nat} {ops:Array Oper} {Q:Exit->St->Prop} (h:ku P T Mv X G N ops (fun aJ=>Q .normal aJ) ops.toList σ):AW P Mv X G N (.region id ops false) Q σ:=fun w μ a hi=>by
 refine wpIn_region ?_;have:=aeb hg ops.toList 0 w μ a σ ak h hi (.refl _ w μ)
 rwa [<- List.range_eq_range',ahk]at this
theorem Li (hg:Good P T) (hm:P.follows .mixedOrders=true) {id:Nat} {ops:Array Oper} (cz:qO ops=true) {Q:Exit->St->Prop} (h:o3 P T Mv G N ops (fun aJ=>Q .normal aJ) ops.toList σ):AW P Mv X G N (.region id ops true) Q σ:=by
 rw[RU]at h;exact SI hg hm cz h
theorem AW.norm (l ns:List Nat) (hM:∀ r,ns.contains r=false->Mv r) {c:Code} {Q:Exit->St->Prop} (h:AW P Mv X G N c Q (σ.norm l ns)):AW P Mv X G N c Q σ:=AW.imp (aK.norm l ns hM) h
theorem AW.st {τ:St} {c:Code} {Q:Exit->St->Prop} (h:σ=τ) (h':AW P Mv X G N c Q τ):AW P Mv X G N c Q σ:=h ▸ h'
theorem AW.JK (i:Nat) {e:Env} {H:Heap} {els:List (List D)} {c:Code} {Q:Exit->St->Prop} (he:e i=some (.d (.sl none els))) (h1:AW P Mv X G N c Q ⟨gI e i (.d (.sl (some true) els)),H⟩)
  (h2:els=[]->AW P Mv X G N c Q ⟨gI e i (.d (.sl (some false) [])),H⟩):AW P Mv X G N c Q ⟨e,H⟩:=fun w μ a hi=>by
 obtain⟨u,hu,hr⟩:=hi.env.slot i _ he
 have put:∀ {y:D},RD w (XX X μ) u y->In w X G μ N a ⟨gI e i (.d y),H⟩:=fun hy=>⟨hi.bu,⟨hi.env.defers,hi.env.size,fun j x hx=>by
  simp only[gI]at hx;split at hx
  .rename_i hj;subst hj;obtain rfl:=AI hx;exact⟨u,hu,.d hy⟩
  .exact hi.env.slot j x hx⟩,hi.jq⟩
 have hd:=hr.data;generalize hy:D.sl none els=y at hd
 cases hd with
 | nil hk=>cases hy;exact h2 rfl w μ a (put (.nil ak))
 | empty hk hm=>cases hy;exact h1 w μ a (put (.empty ak hm))
 | sl a1 a2 a3 a4 a5 a6 a7 a8 a9 SU=>cases hy;exact h1 w μ a (put (.sl ak a2 a3 a4 a5 a6 a7 a8 a9 SU))
 | _=>cases hy
theorem SJ (hg:Good P T) (l ns:List Nat) (hM:∀ r,ns.contains r=false->Mv r) {id:Nat} {ops:Array Oper} {y:Code} {Q:Exit->St->Prop} (h:∀ K:St->Prop,(∀ τ:St,AW P Mv X G N y Q (τ.norm l ns)->K τ)->ku P T Mv X G N ops K ops.toList σ):AW P Mv X G N (.seq (.region id ops false) y) Q σ:=
 sN (Lj hg (h _ fun _ h=>h.norm l ns hM))
theorem rg {P:Program} {Mv X:Nat->Prop} {G:aC} {N:Fr} {σ:St} (l ns:List Nat) (hM:∀ r,ns.contains r=false->Mv r) {id:Nat} {ops:Array Oper} {y:Code} {Q:Exit->St->Prop} (h:∀ K:St->Prop,(∀ τ:St,AW P Mv X G N y Q (τ.norm l ns)->K τ)->ku P (cF P) Mv X G N ops K ops.toList σ):AW P Mv X G N (.seq (.region id ops false) y) Q σ:=SJ (aB _) l ns hM h
theorem qY (hg:Good P T) (hm:P.follows .mixedOrders=true) (l ns:List Nat) (hM:∀ r,ns.contains r=false->Mv r) {id:Nat} {ops:Array Oper} (cz:qO ops=true) {y:Code} {Q:Exit->St->Prop} (h:∀ K:St->Prop,(∀ τ:St,AW P Mv X G N y Q (τ.norm l ns)->K τ)->o3 P T Mv G N ops K ops.toList σ):AW P Mv X G N (.seq (.region id ops true) y) Q σ:=
 sN (Li hg hm cz (h _ fun _ h=>h.norm l ns hM))
theorem eU (hg:Good P T) {id:Nat} {ops:Array Oper} {Q:Exit->St->Prop} (h:∀ K:St->Prop,(∀ τ:St,Q .normal τ->K τ)->ku P T Mv X G N ops K ops.toList σ):AW P Mv X G N (.region id ops false) Q σ:=
 Lj hg (h _ fun _ h=>h)
theorem vO (hg:Good P T) (hm:P.follows .mixedOrders=true) {id:Nat} {ops:Array Oper} (cz:qO ops=true) {Q:Exit->St->Prop} (h:∀ K:St->Prop,(∀ τ:St,Q .normal τ->K τ)->o3 P T Mv G N ops K ops.toList σ):AW P Mv X G N (.region id ops true) Q σ:=
 Li hg hm cz (h _ fun _ h=>h)
def FF (T:Ty) (σ:St):ResultVar->kS
 | .tmp t=>(σ.env t).map fun x=>(True,x)
 | .cell a t=>(σ.env a).bind (n5 T σ.H t)
def vD (T:Ty) (σ:St):List ResultVar->Option (Prop×List AV)
 | []=>some (True,[])
 | r :: l=>match FF T σ r,vD T σ l with
  | some (c,x),some (c',xs)=>some (c/\c',x :: xs)
  | _,_=>none
def oneOf:List AV->AV
 | [x]=>x
 | l=>Cg l
def D.le:D->D->Prop
 | .sl k els,.sl k' oA=>(k'=none\/k=k')/\els=oA
 | .bx l,.bx l'=>go l l'
 | .agg l,.agg l'=>go l l'
 | .ip l,.ip l'=>go l l'
 | .bZ t x,.bZ t' x'=>t=t'/\x.le x'
 | .fn f l,.fn f' l'=>f=f'/\go l l'
 | .dm x l,.dm x' l'=>(x'=true->x=true/\l=l')/\l.Perm l'
 | x,y=>x=y
where
 go:List D->List D->Prop
 | [],[]=>True
 | x :: l,y :: l'=>x.le y/\go l l'
 | _,_=>False
def yG (T:Ty) (rs:List ResultVar) (y:D) (σ:St):Prop:=match vD T σ rs with
 | some (c,xs)=>c/\match fL σ.H 6 (oneOf xs) with
  | some y'=>y'.le y
  | none=>False
 | none=>False
def Gt (T:Ty) (rs:List ResultVar) (y:D):Exit->St->Prop
 | .normal,σ | .ret,σ=>yG T rs y σ
 | _,_=>False
theorem D.xJ:∀ {l l':List D},D.le.go l l'->l.length=l'.length/\∀ (j:Nat) (x y:D),l[j]? = some x->l'[j]? = some y->x.le y
 | [],[],_=>⟨rfl,ak⟩
 | x :: l,y :: l',h=>by
  simp only[D.le.go]at h;obtain⟨h1,h2⟩:=D.xJ h.2;refine⟨by simp[h1],fun j a b ha hb=>?_⟩
  cases j with
  | zero=>simp at ha hb;subst ha hb;exact h.1
  | succ j=>simp at ha hb;exact h2 j a b ha hb
 | [],_ :: _,h=>by simp only[D.le.go]at h
 | _ :: _,[],h=>by simp only[D.le.go]at h
theorem D.B8 {l l':List D} (hg:D.le.go l l') {j:Nat} {c:D} (hc:l'[j]? = some c):∃ x,l[j]? = some x/\x.le c:=by
 obtain⟨hl,hh⟩:=D.xJ hg;have hj:=(BY.1 hc).1
 have eN:j < l.length:=aa
 exact⟨l[j],by simp[eN],hh j _ c (by simp[eN]) hc⟩
theorem RD.le {w:World} {X:Nat->Prop} {u:Value} {x:D} (hr:RD w X u x):∀ {y:D},x.le y->RD w X u y:=by
 induction hr with
 | v x=>intro y h;cases y<;>simp only[D.le,reduceCtorEq]at h;exact h ▸ .v x
 | nil hk=>
  intro y h;cases y<;>simp only[D.le,reduceCtorEq]at h;obtain⟨h1 | h1,rfl⟩:=h
  .exact .nil (by simp[h1])
  .exact .nil (h1 ▸ hk)
 | empty hk hm=>
  intro y h;cases y<;>simp only[D.le,reduceCtorEq]at h;obtain⟨h1 | h1,rfl⟩:=h
  .exact .empty (by simp[h1]) hm
  .exact .empty (h1 ▸ hk) hm
 | sl h1 h2 h3 h4 h5 h6 h7 h8 h9 DV=>
  intro y h;cases y<;>simp only[D.le,reduceCtorEq]at h;obtain⟨e1 | e1,rfl⟩:=h
  .exact .sl (by simp[e1]) h2 h3 h4 h5 h6 h7 h8 h9 DV
  .exact .sl (e1 ▸ h1) h2 h3 h4 h5 h6 h7 h8 h9 DV
 | ip hX hb ea hr ih=>
  intro y h;cases y<;>simp only[D.le,reduceCtorEq]at h;obtain⟨hl,_⟩:=D.xJ h;refine .ip hX hb (fun j hj=>ea j aa) fun j c hc=>?_;obtain⟨x,hx,hle⟩:=D.B8 h hc;exact ih j x hx hle
 | agg hn hr ih=>
  intro y h;cases y<;>simp only[D.le,reduceCtorEq]at h;obtain⟨hl,_⟩:=D.xJ h;refine .agg aa fun j u c hu hc=>?_;obtain⟨x,hx,hle⟩:=D.B8 h hc;exact ih j u x hu hx hle
 | bx hn hr ih=>
  intro y h;cases y<;>simp only[D.le,reduceCtorEq]at h;obtain⟨hl,_⟩:=D.xJ h;refine .bx aa fun j u c hu hc=>?_;obtain⟨x,hx,hle⟩:=D.B8 h hc;exact ih j u x hu hx hle
 | bZ hr ih=>
  intro y h;cases y<;>simp only[D.le,reduceCtorEq]at h;obtain⟨rfl,h⟩:=h;exact .bZ (ih h)
 | pK hX hh=>
  intro y h;cases y<;>simp only[D.le,reduceCtorEq]at h;injection h with h;exact h ▸ .pK hX hh
 | dm hX hh hp hx=>
  intro y h;cases y<;>simp only[D.le,reduceCtorEq]at h;exact .dm hX hh (hp.trans h.2) fun e=>(hx (h.1 e).1).trans (h.1 e).2
 | fn hn hr ih=>
  intro y h;cases y<;>simp only[D.le,reduceCtorEq]at h;obtain⟨rfl,h⟩:=h;obtain⟨hl,_⟩:=D.xJ h;refine .fn aa fun j u c hu hc=>?_;obtain⟨x,hx,hle⟩:=D.B8 h hc;exact ih j u x hu hx hle
theorem aD.vL {g:FuncId} {ds ia:List D} {y:D} (hc:aD P G g ds y) (h:D.le.go ia ds):aD P G g ia y:=by
 refine⟨hc.1,fun X w μ vs hs dz hn hv=>hc.2 X w μ vs hs dz (by simpa[(D.xJ h).1]using hn) fun i u x hu hx=>?_⟩;rw[agC]at hx;obtain⟨d,hd,rfl⟩:=AS.1 hx;obtain⟨x,hx,hle⟩:=D.B8 h hd;exact .d ((hv i u (.d x) hu (by rw[agC,hx];rfl)).data.le hle)
theorem dT.data {g:FuncId} {xs:List AV} {ds ia:List D} {y:D} {dst:Option Tmp} {next:St->Prop} (hc:aD P G g ds y) (hx:lR xs=some ia) (hle:D.le.go ia ds) (h:next ⟨aR σ.env dst (.d y),σ.H⟩):dT P Mv X G N g xs σ dst next:=by
 unfold dT;rw[qo hx];exact lU.pure (hc.vL hle) h
theorem Ru {g:FuncId} {xs:List AV} {ds ia:List D} {y:D} {dst:Option Tmp} {next:St->Prop} (hc:aD P G g ds y) (hx:lR xs=some ia) (h:next ⟨aR σ.env dst (.d y),σ.H⟩) (hle:D.le.go ia ds:=by first | exact D.bJ _ | simp[aL,agF,agy,D.le,D.le.go,D.le_refl,D.bJ]):dT P Mv X G N g xs σ dst next:=dT.data hc hx hle h
theorem dT.rH {g:FuncId} {xs:List AV} {ds ia:List D} {y:D} {dst:Option Tmp} {next:St->Prop} (hc:aD P G g ds y) (hx:lS (fL σ.H 4) xs=some ia) (hle:D.le.go ia ds) (hy:y.scalar=true) (h:next ⟨aR σ.env dst (.d y),σ.H⟩):dT P Mv X G N g xs σ dst next:=
 lU.rH hx (hc.vL hle) hy h
theorem kG.data {c:Call} {g:FuncId} {xs:List AV} {ds ia:List D} {y:D} {dst:Option Tmp} {next:St->Prop} (hc:aD P G g ds y) (ht:lz G σ.env c=some (g,xs)) (hx:lR xs=some ia) (hle:D.le.go ia ds) (h:next ⟨aR σ.env dst (.d y),σ.H⟩):kG P G c σ dst next:=
 ⟨y,⟨g,xs,ht,.inl ⟨ia,qo hx,hc.vL hle⟩⟩,h⟩
theorem Lx (H:Heap) (k:Nat):∀ (ds:List D),lS (fL H k) (ds.map .d)=some ds
 | []=>rfl
 | d :: ds=>by simp[lS,Lx H k ds];cases k<;>simp[fL]
theorem D.le_refl (x:D):x.le x:=by
 have key:∀ n,∀ x:D,SizeOf.sizeOf x < n->x.le x:=by
  intro n
  induction n with
  | zero=>intro x h;omega
  | succ n ih=>
   intro x h
   have go:∀ l:List D,SizeOf.sizeOf l < n->D.le.go l l:=by
    intro l
    induction l with
    | nil=>intro _;simp[D.le.go]
    | cons y l B5=>
     intro hl;simp only[List.cons.sizeOf_spec]at hl;exact⟨ih y aa,B5 aa⟩
   cases x<;>simp only[D.le]<;>simp at h ⊢
   .exact go _ aa
   .exact go _ aa
   .exact go _ aa
   .exact ih _ aa
   .exact go _ aa
 exact key _ x (Nat.lt_succ_self _)
theorem D.bJ:∀ l:List D,D.le.go l l
 | []=>trivial
 | x :: l=>⟨D.le_refl x,D.bJ l⟩
theorem ac2 (hg:Good P T) (hi:In w X G μ N a σ) {r:ResultVar} {c:Prop} {x:AV} (h:FF T σ r=some (c,x)) (hc:c) :
  ∃ v,(match r with | .tmp t=>(pure (a.tmps.getD t undef):Sem Value) | .cell b t=>do loadVar t (<- asAddr (a.tmps.getD b undef))).run P w = .ok v w/\RV w X μ v x:=by
 cases r with
 | tmp t=>
  simp only[FF,AS,agA]at h;obtain⟨y,hy,_,rfl⟩:=h;obtain⟨u,hu,hr⟩:=hi.env.slot t y hy;exact⟨u,by simp[agz,hu],hr⟩
 | cell b t=>
  obtain⟨y,hy,hl⟩:=agI.1 h;obtain⟨u,hu,hr⟩:=hi.env.slot b y hy;obtain⟨v,hv,im⟩:=Pg (P:=P) hg hi.bu hl hc hr;refine⟨v,?_,im⟩
  have e:a.tmps.getD b undef=u:=by simp[agz,hu]
  dsimp only;rw[e];unfold n5 at hl;split at hl
  .obtain⟨b,off,f,rfl,_⟩:=hr.data.qK;simpa[Instr.loadAt,Instr.sureAddr,asAddr]using hv
  .obtain⟨m,b,hm,hb,rfl⟩:=hr.lu;simpa[Instr.loadAt,Instr.sureAddr,asAddr]using hv
  .cases hl
theorem ac0 (hg:Good P T) (hi:In w X G μ N a σ):∀ {rs:List ResultVar} {c:Prop} {xs:List AV},vD T σ rs=some (c,xs)->c->
  ∃ vs:List Value,(rs.mapM (m:=Sem) fun | .tmp t=>pure (a.tmps.getD t undef) | .cell b t=>do loadVar t (<- asAddr (a.tmps.getD b undef))).run P w = .ok vs w/\vs.length=xs.length/\∀ (j:Nat) (u:Value) (x:AV),vs[j]? = some u->xs[j]? = some x->RV w X μ u x:=by
 intro rs
 induction rs with
 | nil=>
  intro c xs h hc;simp only[vD,IT,agA]at h;obtain⟨_,rfl⟩:=h;exact⟨[],ak,rfl,ak⟩
 | cons r rs ih=>
  intro c xs h hc;simp only[vD]at h;split at h
  .rename_i c1 x c2 Sq h1 h2;obtain⟨rfl,rfl⟩:=eo h;obtain⟨v,hv,hr⟩:=ac2 (P:=P) hg hi h1 hc.1;obtain⟨vs,IV,hl,lk⟩:=ih h2 hc.2;refine⟨v :: vs,?_,by simp[hl],fun j u x hu hx=>?_⟩
   .rw[List.mapM_cons,Sem.run_bind,hv,Result.andThen_ok,Sem.run_bind,IV,Result.andThen_ok,Sem.run_pure]
   .cases j with
    | zero=>simp at hu hx;subst hu hx;exact hr
    | succ j=>simp at hu hx;exact lk j u x hu hx
  .cases h
theorem Kf (hg:Good P T) (hi:In w X G μ N a σ) {fn:Func} {rs:List ResultVar} (lk:fn.results=rs.toArray) {c:Prop} {xs:List AV} (h:vD T σ rs=some (c,xs)) (hc:c) :
  ∃ v,(results fn a.tmps).run P w = .ok v w/\RV w X μ v (oneOf xs):=by
 obtain⟨vs,IV,hl,hr⟩:=ac0 (P:=P) hg hi h hc;refine⟨if h:vs.toArray.size=1 then vs.toArray[0] else .tuple vs.toArray,?_,?_⟩
 .unfold results;rw[lk,Array.mapM_eq_mapM_toList,Sem.run_bind];simp only[map_eq_pure_bind,Sem.run_bind]
  erw[IV]
  rfl
 .match xs,vs,hl,hr with
  | [],[],_,hr=>exact E8 (l:=[]) (.bx (arr:=#[]) (cells:=[]) rfl ak)
  | [x],[v],_,hr=>exact hr 0 v x rfl rfl
  | x :: y :: xs,v :: u :: vs,hl,hr=>
   have:¬ (v :: u :: vs).toArray.size=1:=ak
   rw[dif_neg this];exact E8 (.bx (by simpa using hl) fun j u c hu hc=>hr j u c (by simpa using hu) hc)
theorem aD.aQ (hg:Good P T) {g:FuncId} {fn:Func} {c:Code} {rs:List ResultVar} {ds:List D} {y:D} (hf:P.funcs[g]? = some fn) (hb:fn.body=some c) (hn:(fn.name == "runtime.NumGoroutine")=false) (lk:fn.results=rs.toArray)
  (hN:ds.length<=fn.ntmps) (h:∀ X,AW P (fun _=>True) X G ⟨fn.ntmps,[],none⟩ c (Gt T rs y) ⟨args (ds.map .d),jc⟩):aD P G g ds y:=by
 refine⟨gS.of hf hb hn,fun X w μ vs hs dz bg hv=>?_⟩
 have fin:∀ (w':World) (aH:Mu) (a':Act) (aJ:St),yG T rs y aJ->In w' X G aH ⟨fn.ntmps,[],none⟩ a' aJ->Ev (fun _=>True) w μ w' aH->∃ v,(results fn a'.tmps).run P w' = .ok v w'/\∃ v_1 x H' aH,Ending.returned v=Ending.returned v_1/\(x = .d y/\H'=jc)/\RV w' X aH v_1 x/\eF w' X aH H'/\Ev (fun _=>True) w μ w' aH:=by
  intro w' aH a' aJ he hi bp;unfold yG at he;split at he
  .rename_i c xs hx;obtain⟨hc,he⟩:=he;split at he
   .rename_i y' hy;obtain⟨v,hv,hr⟩:=Kf (P:=P) hg hi lk hx hc;have cf:=(Dg hi.bu 6 hy hr).le he;refine⟨v,hv,v,.d y,jc,fun _=>none,rfl,⟨rfl,rfl⟩,.d (cf.sub fun b=>o6.1),eF.none hi.bu.fits,bp.size,bp.os,bp.tape,bp.output,fun b hb hr=>⟨(bp.same b hb hr).1,fun ⟨_,_,h,_⟩=>by cases h⟩,fun r m _ hn=>absurd trivial hn⟩
   .exact he.elim
  .exact he.elim
 refine calls_of_wp hf hb ((wpIn_wide (n:=0)).1 (wpIn_mono (h X w μ _ ⟨hs,⟨rfl,by simp;simp at bg;omega,fun i x hx=>?_⟩,dz⟩) fun e a' w' ⟨aH,aJ,q,i,ev⟩=>?_))
 .simp only[args]at hx;have hi:i < (ds.map AV.d).length:=(BY.1 hx).1
  have ve:vs[i]? = some vs[i]:=by rw[agL]
  exact⟨vs[i],by rw[ag8 aa,ve],hv i _ x ve hx⟩
 .cases e with
  | normal=>
   obtain⟨v,hv,rest⟩:=fin w' aH a' aJ q i ev;exact⟨i.env.defers,v,hv,rest⟩
  | ret=>
   obtain⟨v,hv,rest⟩:=fin w' aH a' aJ q i ev;exact⟨i.env.defers,v,hv,rest⟩
  | _=>exact q.elim
end
end Go.Av
namespace Go.Av
section
variable {P:Program} {T:Ty} {Mv X:Nat->Prop} {G:aC} {N:Fr} {ops:Array Oper}
def yl (o:Oper):Option (Operand×Operand):=match o.op with
 | .call { callee:=.builtin .append,args,argTypes }=>match args.toList,argTypes.toList with
  | [x,y],[t,t']=>if t=t' then some (x,y) else none
  | _,_=>none
 | _=>none
def Df (T:Ty) (Mv:Nat->Prop) (o:Oper) (r off n ty sz:Nat) (els news:List (List D)):Option (Prop×Nat×Row):=match o.op,o.dst with
 | .call { callee:=.builtin .append,args,argTypes },some _=>match args.toList,argTypes.toList with
  | [_,_],[t,t']=>if t=t' then match T t with
   | some tt=>match tt.desc with
    | .slice e=>match T e with
     | some te=>some (off=0/\Mv r/\ty=e/\sz=te.size/\n<=els.length/\(∀ el∈news,el.length=te.size)/\(∀ el∈news,∀ c∈el,D.one c=true)/\0 < te.size/\(kz te.zero).length=te.size/\n+news.length<=9223372036854775807/\(n+news.length) * te.bytes<=140737488355328,
       n+news.length,.sl e te.size (els.take n ++ news))
     | none=>none
    | _=>none
   | none=>none
  else none
  | _,_=>none
 | _,_=>none
def tq (s:Nat):AV->Prop
 | .own q _ _=>q=s
 | _=>True
def kA (T:Ty) (G:aC) (Mv:Nat->Prop) (o:Oper) (e:Env) (H:Heap) (r s m:Nat) (row:Row):Prop:=
 ∃ x y off n v ty sz els news c,yl o=some (x,y)/\bF G e x=some (.own r off n)/\bF G e y=some v/\tq s v/\H r=some (.sl ty sz els)/\mH H r v=some news/\Df T Mv o r off n ty sz els news=some (c,m,row)/\c
theorem Gp {o:Oper} {x y:Operand} (h:yl o=some (x,y)):∃ t t',o.op = .call { callee:=.builtin .append,args:=#[x,y],argTypes:=#[t,t'] }/\t=t':=by
 unfold yl at h;split at h
 .rename_i args argTypes kb;split at h
  .rename_i x' y' t t' ha ht;split at h
   .rename_i cL;obtain⟨rfl,rfl⟩:=eo h;have e1:args = #[x',y']:=ahg.1 ha;have e2:argTypes = #[t,t']:=ahg.1 ht;exact⟨t,t',by rw[kb,e1,e2],cL⟩
   .cases h
  .cases h
 .cases h
theorem kA.row {o:Oper} {e:Env} {H:Heap} {r s m:Nat} {row:Row} (h:kA T G Mv o e H r s m row):(∃ ty sz els,row = .sl ty sz els)/\(∃ ty sz els,H r=some (.sl ty sz els))/\(∃ d,o.dst=some d):=by
 obtain⟨x,y,off,n,v,ty,sz,els,news,c,h1,h2,h3,h4,h5,h6,h7,h8⟩:=h;unfold Df at h7
 repeat' split at h7
 all_goals first
  | cases h7;done
  | (simp only [IT, agA] at h7
     obtain⟨_,_,rfl⟩:=h7
     exact⟨⟨_,_,_,rfl⟩,⟨_,_,_,h5⟩,⟨_,by assumption⟩⟩)
theorem kA.to {o:Oper} {e:Env} {H:Heap} {r s m:Nat} {row:Row} (h:kA T G Mv o e H r s m row):oC P T Mv G o ⟨e,H⟩ ⟨aR (ez r e) o.dst (.own r 0 m),aX (eA r H) r row⟩:=by
 obtain⟨x,y,off,n,v,ty,sz,els,news,c,h1,h2,h3,h4,h5,h6,h7,h8⟩:=h;obtain⟨t,t',kb,EE⟩:=Gp h1;obtain⟨dst,op,type,pos,after,guard⟩:=o;dsimp only at kb;subst kb;unfold oC;simp only[ey,gD,if_true];unfold Df at h7;dsimp only at h7
 cases dst with
 | none=>cases h7
 | some d=>
  simp only[List.toList_toArray]at h7;refine⟨c,.own r 0 m,⟨ez r e,aX (eA r H) r row⟩,?_,h8,rfl⟩;unfold wr;dsimp only;subst EE;rw[if_pos rfl]at h7;split at h7
  .rename_i tt hT;split at h7
   .rename_i DE hd;split at h7
    .rename_i te dh;obtain⟨rfl,rfl,rfl⟩:=nt h7;simp[hT,hd,dh,h2,h3,h5,h6]
    .cases h7
   .cases h7
  .cases h7
theorem kA.of {o:Oper} {e:Env} {H:Heap} {r s off n:Nat} {x y:Operand} {v:AV} {c:Prop} {z:AV} {bh:St} (ho:yl o=some (x,y)) (hx:bF G e x=some (.own r off n)) (hy:bF G e y=some v) (hs:tq s v) (h:wr T G Mv ⟨e,H⟩ o=some (c,z,bh)) (hc:c) :
  ∃ m row,kA T G Mv o e H r s m row/\z = .own r 0 m/\bh=⟨ez r e,aX (eA r H) r row⟩:=by
 obtain⟨t,t',kb,EE⟩:=Gp ho;obtain⟨dst,op,type,pos,after,guard⟩:=o;dsimp only at kb;subst kb;unfold wr at h;dsimp only at h
 cases dst with
 | none=>cases h
 | some d=>
  dsimp only at h;split at h
  .rename_i cL;subst cL
   cases hT:T t with
   | none=>simp[hT]at h
   | some tt=>
    simp only[hT]at h;split at h
    .rename_i DE hd
     cases dh:T DE with
     | none=>simp[dh]at h
     | some te=>
      simp only[dh,hx,hy]at h;split at h
      .rename_i ty sz els news h1 h2;obtain⟨rfl,rfl,rfl⟩:=nt h;exact⟨_,_,⟨x,y,off,n,v,ty,sz,els,news,_,ho,hx,hy,hs,h1,h2,by simp[Df,hT,hd,dh],hc⟩,rfl,rfl⟩
      .cases h
    .cases h
  .rename_i bl;exact absurd EE bl
theorem PH {H H2:Heap} {r s:Nat} {v:AV} (hs:tq s v) (hH:H2 s=H s):mH H2 r v=mH H r v:=by
 cases v with
 | own q off n=>
  simp only[tq]at hs;subst hs;simp only[mH,hH]
 | d x=>cases x<;>rfl
 | _=>rfl
theorem kA.congr {o:Oper} {e e2:Env} {H H2:Heap} {r s m:Nat} {row:Row} (h:kA T G Mv o e H r s m row) (ha:iA o.op e e2) (hr:H2 r=H r) (hs:H2 s=H s):kA T G Mv o e2 H2 r s m row:=by
 obtain⟨x,y,off,n,v,ty,sz,els,news,c,h1,h2,h3,h4,h5,h6,h7,h8⟩:=h;obtain⟨t,t',kb,EE⟩:=Gp h1;have hx:∀ t,x = .tmp t->e t=e2 t:=fun t ht=>ha t (by rw[kb];simp[Op.operands,Call.operands,ht]);have hy:∀ t,y = .tmp t->e t=e2 t:=fun t ht=>ha t (by rw[kb];simp[Op.operands,Call.operands,ht]);exact⟨x,y,off,n,v,ty,sz,els,news,c,h1,by rw[<- fm hx];exact h2,by rw[<- fm hy];exact h3,h4,by rw[hr];exact h5,by rw[PH h4 hs];exact h6,h7,h8⟩
theorem AV.EV (r r':Nat) (x:AV):(x.kill r).kill r'=(x.kill r').kill r:=by
 have key:∀ n,∀ x:AV,SizeOf.sizeOf x < n->(x.kill r).kill r'=(x.kill r').kill r:=by
  intro n
  induction n with
  | zero=>intro x h;omega
  | succ n ih=>
   intro x h
   have go:∀ l:List AV,SizeOf.sizeOf l < n->(l.map (AV.kill r)).map (AV.kill r')=(l.map (AV.kill r')).map (AV.kill r):=by
    intro l
    induction l with
    | nil=>intro _;rfl
    | cons y l B5=>
     intro hl;simp only[List.cons.sizeOf_spec]at hl;simp only[agW,ah8];exact⟨ih y aa,B5 aa⟩
   cases x with
   | d x=>simp[AV.kill]
   | own q off n=>by_cases h1:q=r<;>by_cases h2:q=r'<;>simp[AV.kill,h1,h2]<;>(try (by_cases h3:r=r'<;>simp[AV.kill,h3]))<;>(try simp_all [AV.kill])
   | ref q e j=>by_cases h1:q=r<;>by_cases h2:q=r'<;>simp[AV.kill,h1,h2]<;>(try (by_cases h3:r=r'<;>simp[AV.kill,h3]))<;>(try simp_all [AV.kill])
   | agg cells=>simp at h;simp only[AV.kill,AV.go_eq];rw[go cells aa]
   | bx cells=>simp at h;simp only[AV.kill,AV.go_eq];rw[go cells aa]
   | bZ t x=>simp at h;simp only[AV.kill];rw[ih x aa]
   | bm t x=>simp at h;simp only[AV.kill];rw[ih x aa]
   | fn f cells=>simp at h;simp only[AV.kill,AV.go_eq];rw[go cells aa]
   | mp q=>by_cases h1:q=r<;>by_cases h2:q=r'<;>simp[AV.kill,h1,h2]<;>(try (by_cases h3:r=r'<;>simp[AV.kill,h3]))<;>(try simp_all [AV.kill])
   | dead=>simp[AV.kill]
 exact key _ x (Nat.lt_succ_self _)
theorem aan (r r':Nat) (e:Env):ez r' (ez r e)=ez r (ez r' e):=by
 funext i;simp only[ez,Option.map_map];congr 1;funext x;exact AV.EV r r' x
theorem Row.EV (r r':Nat) (x:Row):(x.kill r).kill r'=(x.kill r').kill r:=by
 cases x with
 | sl ty sz els=>rfl
 | mp ty ents=>rfl
 | it ents seen=>rfl
 | box ty cells=>
  simp only[Row.kill,agF];congr 1;apply List.map_congr_left;intro x _;exact AV.EV r r' x
theorem aaq (r r':Nat) (H:Heap):eA r' (eA r H)=eA r (eA r' H):=by
 funext i;simp only[eA,Option.map_map];congr 1;funext x;exact Row.EV r r' x
theorem ET (r:Nat) (e:Env) (d:Option Tmp) (x:AV):ez r (aR e d x)=aR (ez r e) d (x.kill r):=by
 cases d with
 | none=>rfl
 | some d=>funext i;simp only[ez,aR,gI];split<;>rfl
def Gg (r:Nat) (o:Oper) (e:Env) (x:AV):Prop:=iA o.op e (ez r e)/\x.kill r=x
theorem lA {o:Oper} {e:Env} (h:o.guard=none):jM ops e o=some true:=by simp[jM,h]
theorem abq {r:Nat} {l:List AV} (h:(qe l).kill r=qe l):qe (l.map (AV.kill r))=qe l:=by
 unfold qe at h ⊢;split at h
 .rename_i ds hd;rw[qo hd]
  have:(ds.map AV.d).map (AV.kill r)=ds.map AV.d:=by simp[agF,agy,AV.kill]
  rw[this,Gn]
 .rename_i hd;simp only[AV.kill,AV.go_eq,AV.agg.injEq]at h;rw[h,hd]
theorem Tj {r:Nat} {t:TypeId} {cells:List AV} {c:Prop} {x:AV} {j:Nat} (h:pQ T t (cells.drop j)=some (c,x)) (hx:x.kill r=x):∃ c',pQ T t ((cells.map (AV.kill r)).drop j)=some (c',x)/\(c->c'):=by
 unfold pQ at h ⊢;split at h
 .cases h
 .rename_i ti ht;split at h
  .rename_i ha;rw[if_pos ha];obtain⟨rfl,rfl⟩:=eo h;refine⟨_,?_,id⟩;rw[<- List.map_drop,<- List.map_take,ag5,abq hx]
  .rename_i ha;rw[if_neg ha];obtain⟨rfl,rfl⟩:=eo h;rw[<- List.map_drop];generalize hl:cells.drop j=l at hx
   cases l with
   | nil=>exact⟨_,rfl,fun h=>absurd rfl h⟩
   | cons y l=>
    simp only[List.headD_cons]at hx;refine⟨_,by simp only[agW,List.headD_cons,hx];rfl,fun _=>ak⟩
theorem acL {o:Oper} {e:Env} {H:Heap} {r:Nat} {row:Row} {c:Prop} {x:AV} (dX:∃ ty sz els,row = .sl ty sz els) (h:rd T G ⟨e,H⟩ o.op=some (c,x)) (ij:Gg r o e x) :
  ∃ c',rd T G ⟨e,aX (eA r H) r row⟩ o.op=some (c',x)/\(c->c'):=by
 have y4:=ij.1;have hx:=ij.2;clear ij
 have free:∀ t v,Operand.tmp t∈o.op.operands->e t=some v->v.kill r=v:=by
  intro t v ht hv;have:=y4 t ht;rw[hv]at this;simp only[ez,hv,ag1,IT]at this;exact this.symm
 have ne:∀ (p:Operand) (v:AV),bF G e p=some v->p∈o.op.operands->v.kill r=v:=by
  intro p v hv hp
  cases p with
  | tmp t=>exact free t v hp hv
  | const k=>simp only[bF,IT]at hv;subst hv;unfold gU;split<;>rfl
  | global g=>simp only[bF,AS]at hv;obtain⟨d,_,rfl⟩:=hv;rfl
  | func f=>simp only[bF,IT]at hv;subst hv;rfl
 have bl:∀ q,q≠r->(aX (eA r H) r row) q=(H q).map (Row.kill r):=fun q hq=>by simp[aX,hq,eA]
 obtain⟨dst,op,type,pos,after,guard⟩:=o;dsimp only at h free ne ⊢;by_cases hk:kindOf op=0
 .rw[Qx hk _ H];exact⟨c,h,id⟩
 cases op<;>first | exact absurd rfl hk | skip
 case load t p=>
  simp only[rd]at h ⊢;obtain⟨v,hv,hl⟩:=agI.1 h;rw[hv,aid];have hf:=ne p v hv (by simp[Op.operands])
  cases v with
  | d x=>cases x<;>first | exact⟨c,hl,id⟩ | cases hl
  | own q off n=>cases hl
  | agg _=>cases hl
  | bx _=>cases hl
  | bZ _ _=>cases hl
  | fn _ _=>cases hl
  | bm _ _=>cases hl
  | dead=>cases hl
  | mp _=>cases hl
  | ref q ee j=>
   simp only[n5]at hl ⊢
   have hq:q≠r:=fun e=>by simp[AV.kill,e]at hf
   rw[bl q hq]
   cases hH:H q with
   | none=>simp[hH]at hl
   | some vF=>
    cases vF with
    | sl ty sz els=>simp only[hH]at hl;simp only[ag1,Row.kill];exact⟨c,hl,id⟩
    | mp ty ents=>simp[hH]at hl
    | it ents seen=>simp[hH]at hl
    | box ty cells=>
     simp only[hH]at hl;simp only[ag1,Row.kill];split at hl
     .rename_i he;rw[if_pos he];exact Tj hl hx
     .cases hl
 case indexAddr t p i=>
  simp only[rd]at h ⊢;split at h
  .rename_i a b ha hb;have hf:=ne p a ha (by simp[Op.operands])
   have bb:∃ k n,b = .d (.v (.int k n)):=by
    unfold qJ at h;split at h
    .exact⟨_,_,rfl⟩
    .exact⟨_,_,rfl⟩
    .exact⟨_,_,rfl⟩
    .exact⟨_,_,rfl⟩
    .cases h
   obtain⟨k,nn,rfl⟩:=bb
   cases a with
   | d x=>cases x<;>first | exact⟨c,h,id⟩ | (cases h;done)
   | ref _ _ _=>exact⟨c,h,id⟩
   | agg _=>cases h
   | bx _=>cases h
   | bZ _ _=>cases h
   | fn _ _=>cases h
   | bm _ _=>cases h
   | dead=>cases h
   | mp _=>cases h
   | own q off n=>
   unfold qJ at h ⊢
   have hq:q≠r:=fun e=>by simp[AV.kill,e]at hf
   simp only[bl q hq]
   cases hH:H q with
   | none=>simp[hH]at h
   | some vF=>
    cases vF with
    | sl ty sz els=>simp only[hH]at h;exact⟨c,h,id⟩
    | mp ty ents=>
     cases he:pV T t with
     | none=>simp[he]at h
     | some s=>simp[he,hH]at h
    | it ents seen=>
     cases he:pV T t with
     | none=>simp[he]at h
     | some s=>simp[he,hH]at h
    | box ty cells=>
     simp only[hH]at h
     cases he:pV T t with
     | none=>simp[he]at h
     | some s=>rw[he]at h;exact⟨c,h,id⟩
  .cases h
 case slice t p lo hi mx=>
  simp only[rd]at h ⊢;split at h
  .rename_i hm;rw[if_pos hm];split at h
   .rename_i v l hh h1 h2 h3;have hf:=ne p v h1 (by simp[Op.operands])
    cases v with
    | d x=>cases x with
     | v x=>cases x<;>first | exact⟨c,h,id⟩ | (cases h;done)
     | sl k els=>exact⟨c,h,id⟩
     | _=>cases h
    | ref _ _ _=>cases h
    | agg _=>cases h
    | bx _=>cases h
    | bZ _ _=>cases h
    | fn _ _=>cases h
    | bm _ _=>cases h
    | dead=>cases h
    | mp _=>cases h
    | own q off n=>
    unfold rN at h ⊢;dsimp only at h ⊢
    have hq:q≠r:=fun e=>by simp[AV.kill,e]at hf
    rw[bl q hq]
    cases hH:H q with
    | none=>simp[hH]at h
    | some vF=>
     cases vF with
     | sl ty sz els=>simp only[hH]at h;exact⟨c,h,id⟩
     | mp ty ents=>simp[hH]at h
     | it ents seen=>simp[hH]at h
     | box ty cells=>simp[hH]at h
   .cases h
  .cases h
 case lookup t p i b=>
  simp only[rd]at h ⊢;split at h
  .rename_i a k ha hb;have hf:=ne p a ha (by simp[Op.operands])
   cases a with
   | mp q=>
    have hq:q≠r:=fun e=>by simp[AV.kill,e]at hf
    cases k with
    | d kx=>
     cases kx with
     | v kv=>
      simp only[oV]at h ⊢;rw[bl q hq]
      cases hH:H q with
      | none=>simp[hH]at h
      | some vF=>
       cases vF with
       | mp ty ents=>rw[hH]at h;exact⟨c,h,id⟩
       | _=>simp[hH]at h
     | _=>simp[oV]at h
    | _=>simp[oV]at h
   | d q=>
    cases q with
    | dm x ents=>
     cases k with
     | d kx=>
      cases kx with
      | v kv=>simp only[oV]at h ⊢;exact⟨c,h,id⟩
      | _=>simp[oV]at h
     | _=>simp[oV]at h
    | _=>simp[oV]at h
   | _=>simp[oV]at h
  .cases h
 case call cc=>
  obtain⟨callee,args,argTypes⟩:=cc
  cases callee with
  | builtin b=>cases b<;>first | exact absurd rfl hk | (simp[rd]at h;done)
  | _=>simp[rd]at h
 all_goals first | (simp[rd]at h;done) | skip
end
end Go.Av
namespace Go.Av
section
variable {P:Program} {T:Ty} {Mv X:Nat->Prop} {G:aC} {N:Fr} {w:World} {μ:Mu} {a:Act} {σ:St}
variable {ops:Array Oper} {Step:Nat->Oper->St->St->Prop} {cp:Nat->Nat->Oper->Oper->Bool}
theorem TF (aG:∀ j oj,ops[j]? = some oj->∀ e∈oj.after,Region.binds .any e=true->e.on < j) {listed:Array Bool} (tM:∀ j oj,ops[j]? = some oj->listed.getD j false=true->∀ e∈oj.after,Region.binds .any e=true->listed.getD e.on false=true) :
  ∀ (n j:Nat) (oj:Oper),j<=n->ops[j]? = some oj->(∀ e∈oj.after,Region.binds .any e=true->listed.getD e.on false=true)->∀ q,((tb ops).getD j 0).testBit q=true->listed.getD q false=true:=by
 intro n
 induction n with
 | zero=>
  intro j oj hj fD dy q hq
  have mz:j=0:=aa
  subst mz;obtain⟨e,he,hb,_⟩:=CX ops.toList [] 0 oj q (by simpa using fD) (by simpa[tb]using hq);have:=aG 0 oj fD e he hb;omega
 | succ n ih=>
  intro j oj hj fD dy q hq;obtain⟨e,he,hb,r⟩:=CX ops.toList [] j oj q (by simpa using fD) (by simpa[tb]using hq)
  rcases r with rfl | ⟨_,r⟩
  .exact dy e he hb
  .have H9:=aG j oj fD e he hb
   have eW:e.on < ops.size:=by have:=(agx.1 fD).1;omega
   exact ih e.on ops[e.on] aa (by simp[eW]) (fun e' jT bk=>tM e.on _ (by simp[eW]) (dy e he hb) e' jT bk) q (by simpa[tb]using r)
def yi (Step:Nat->Oper->St->St->Prop) (cp:Nat->Nat->Oper->Oper->Bool) (ops:Array Oper):Prop:=∀ i j oi oj,ops[i]? = some oi->ops[j]? = some oj->cp i j oi oj=true->∀ σ bh iy,Step i oi σ bh->Step j oj bh iy->∃ j1,Step j oj σ j1/\Step i oi j1 iy
def Sound (P:Program) (X:Nat->Prop) (G:aC) (N:Fr) (Mv:Nat->Prop) (Step:Nat->Oper->St->St->Prop) (ops:Array Oper):Prop:=∀ i o,ops[i]? = some o->∀ σ aJ,Step i o σ aJ->∀ w μ a,In w X G μ N a σ->∀ {Q:Exit->Act->World->Prop} {K:Act->World->Prop},(∀ w' aH a',In w' X G aH N a' aJ->Ev Mv w μ w' aH->K a' w')->wpOpIn (wd N.ro) 0 P ops Q i K a w
def iJ (Step:Nat->Oper->St->St->Prop) (ops:Array Oper):List Nat->St->St->Prop
 | [],σ,aJ=>σ=aJ
 | i :: l,σ,aJ=>∃ o,ops[i]? = some o/\∃ bh,Step i o σ bh/\iJ Step ops l bh aJ
theorem ads (zp:yi Step cp ops) {p:Nat} {op:Oper} (hp:ops[p]? = some op):∀ (l1:List Nat) {l2:List Nat} {σ aJ:St},(∀ q∈l1,∀ oq,ops[q]? = some oq->cp q p oq op=true)->iJ Step ops (l1 ++ p :: l2) σ aJ->iJ Step ops (p :: (l1 ++ l2)) σ aJ:=by
 intro l1
 induction l1 with
 | nil=>intro l2 σ aJ _ h;exact h
 | cons q l1 ih=>
  intro l2 σ aJ dy h;obtain⟨oq,hq,bh,s1,rest⟩:=h;obtain⟨o',sc,iy,s2,ac4⟩:=ih (fun q' oO=>dy q' (by simp[oO])) rest;rw[hp]at sc;obtain rfl:=AI sc;obtain⟨j1,f1,f2⟩:=zp q p oq op hq hp (dy q ak oq hq) σ bh iy s1 s2;exact⟨op,hp,j1,f1,oq,hq,iy,f2,ac4⟩
def qP (cp:Nat->Nat->Oper->Oper->Bool) (ord:List Nat) (ops:Array Oper):Bool:=
 let t:=tb ops
 ord.length == ops.size && (ord.all fun i=>decide (i < ops.size)) && ((List.range ops.size).all fun i=>ord.contains i) && decide ord.Nodup &&
 ((List.range ops.size).all fun j=>match ops[j]? with
  | some oj=>oj.after.all fun e=>!Region.binds .any e || e.on < j
  | none=>true) &&
 go t ord
where
 go (t:List Nat):List Nat->Bool
 | []=>true
 | a :: l=>(l.all fun b=>match ops[a]?,ops[b]? with
  | some oa,some ob=>(oa.after.all fun e=>!Region.binds .any e || !(e.on == b)) && ((t.getD b 0).testBit a || cp a b oa ob)
  | _,_=>true) && go t l
def Gh (cp:Nat->Nat->Oper->Oper->Bool) (ops:Array Oper) (a b:Nat):Prop:=∀ oa ob,ops[a]? = some oa->ops[b]? = some ob->
 (∀ e∈oa.after,Region.binds .any e=true->e.on≠b)/\(((tb ops).getD b 0).testBit a=true\/cp a b oa ob=true)
theorem Qb:∀ {l:List Nat},qP.go cp ops (tb ops) l=true->l.Pairwise (Gh cp ops)
 | [],_=>.nil
 | a :: l,h=>by
  simp only[qP.go,abi]at h;refine .cons (fun b hb oa ob Zo Ip=>?_) (Qb h.2);have:=ahl.1 h.1 b hb;simp only[Zo,Ip,abi,ag9]at this;refine⟨fun e he X7 heq=>?_,this.2⟩;have h1:=Array.all_eq_true_iff_forall_mem.1 this.1 e he;simp[X7,heq]at h1
theorem S5 (dP:Sound P X G N Mv Step ops) (zp:yi Step cp ops) (aG:∀ j oj,ops[j]? = some oj->∀ e∈oj.after,Region.binds .any e=true->e.on < j) {Q:Exit->St->Prop} {w0:World} {om:Mu} {cJ:St} (hQ:Q .normal cJ):∀ (n:Nat) (R:List Nat) (listed:Array Bool) (w:World) (μ:Mu) (a:Act) (σ:St),R.length=n->R.Nodup->
  (∀ j,j∈R↔j < ops.size/\listed.getD j true=false)->listed.size=ops.size->R.Pairwise (Gh cp ops)->
  (∀ j oj,ops[j]? = some oj->listed.getD j false=true->∀ e∈oj.after,Region.binds .any e=true->listed.getD e.on false=true)->iJ Step ops R σ cJ->In w X G μ N a σ->Ev Mv w0 om w μ->
  wpAnyIn (wd N.ro) 0 P .any ops (After Mv X G N w0 om Q) n listed a w:=by
 intro n
 induction n with
 | zero=>
  intro R listed w μ a σ hl _ hR bg _ _ dV hi bp;have:R=[]:=agZ hl;subst this
  have hr:Region.ready .any ops listed=[]:=by
   apply List.eq_nil_iff_forall_not_mem.2;intro j hj;obtain⟨h1,o,ho,_⟩:=mem_ready.1 hj;exact absurd ((hR j).2 ⟨(agx.1 ho).1,h1⟩) ak
  have:σ=cJ:=dV;subst this;exact⟨hr,μ,σ,hQ,hi,bp⟩
 | succ n ih=>
  intro R listed w μ a σ hl pq hR bg tV tM dV hi bp;refine⟨fun hr=>?_,fun i HZ=>?_⟩
  .cases R with
   | nil=>simp at hl
   | cons j R=>
    obtain⟨p4,pj⟩:=(hR j).1 ak
    have fD:ops[j]? = some ops[j]:=by simp[p4]
    have Bt:j∈Region.ready .any ops listed:=by
     refine mem_ready.2 ⟨pj,ops[j],fD,fun e he hb=>?_⟩;have tT:=aG j ops[j] fD e he hb
     have eW:e.on < ops.size:=aa
     have bl:e.on ∉ (j :: R):=by
      intro hm
      rcases agK.1 hm with h | h
      .omega
      .exact ((ahi.1 tV).1 _ h ops[j] ops[e.on] fD (by simp[eW])).1 e he hb rfl
     have:=mt (hR e.on).2 bl
     have tS:e.on < listed.size:=aa
     simp only[eW,true_and,agz]at this ⊢;simp[tS]at this ⊢;exact this
    rw[hr]at Bt;cases Bt
  .obtain⟨fJ,oi,ik,dy⟩:=mem_ready.1 HZ;have HW:i∈R:=(hR i).2 ⟨(agx.1 ik).1,fJ⟩;obtain⟨R1,R2,rfl⟩:=List.append_of_mem HW
   have HR:=ads zp ik R1 (fun q hq oq BK=>by
    have Zy:Gh cp ops q i:=(ahF.1 tV).2.2 q hq i ak
    rcases (Zy oq oi BK ik).2 with h | h
    .exfalso;have BA:=TF aG tM i i oi (agD _) ik dy q h;have oP:=((hR q).1 (by simp[hq])).2
     have Iw:q < listed.size:=by have:=(agx.1 BK).1;omega
     simp[agz,Iw]at BA oP;rw[BA]at oP;cases oP
    .exact h) dV
   obtain⟨o',sc,bh,hstep,cO⟩:=HR;rw[ik]at sc;obtain rfl:=AI sc;refine dP i oi ik _ _ hstep _ _ _ hi fun w' aH a' aS p0=>?_
   have Ij:(R1 ++ R2).Nodup:=by
    have:=pq;rw[List.nodup_append]at this ⊢;obtain⟨g1,g2,g3⟩:=this;exact⟨g1,(ahn.1 g2).2,fun x hx y hy=>g3 x hx y (by simp[hy])⟩
   have HX:i ∉ R1 ++ R2:=by
    have:=pq;rw[List.nodup_append]at this;obtain⟨g1,g2,g3⟩:=this;intro hm
    rcases agN.1 hm with h | h
    .exact g3 i h i ak rfl
    .exact (ahn.1 g2).1 h
   refine ih (R1 ++ R2) _ w' aH a' bh (by simp at hl ⊢;omega) Ij (fun j=>?_) (by simpa using bg) ?_ ?_ cO aS (bp.trans p0)
   .by_cases nP:j=i
    .subst nP
     have tS:j < listed.size:=by rw[bg];exact (agx.1 ik).1
     simp[tS];simpa using HX
    .rw[getD_set_ne true (ahD nP)];rw[<- hR j];simp[nP]
   .rw[ahF]at tV ⊢;obtain⟨g1,g2,g3⟩:=tV;exact⟨g1,(ahi.1 g2).2,fun x hx y hy=>g3 x hx y (by simp[hy])⟩
   .intro j oj fD lg e he hb;by_cases nP:j=i
    .subst nP;rw[ik]at fD;obtain rfl:=AI fD;exact getD_set_true (dy e he hb)
    .rw[getD_set_ne false (ahD nP)]at lg;exact getD_set_true (tM j oj fD lg e he hb)
theorem ye (hm:P.follows .mixedOrders=true) (dP:Sound P X G N Mv Step ops) (zp:yi Step cp ops) (ord:List Nat) {id:Nat} (cz:qP cp ord ops=true) {Q:Exit->St->Prop} {σ:St} (h:(∀ i∈ord,i < ops.size)->∃ cJ,Q .normal cJ/\iJ Step ops ord σ cJ):AW P Mv X G N (.region id ops true) Q σ:=fun w μ a hi=>by
 unfold qP at cz;simp only[abi]at cz;obtain⟨⟨⟨⟨⟨h1,h2⟩,h3⟩,h4⟩,h5⟩,h6⟩:=cz
 have hlen:ord.length=ops.size:=by simpa using h1
 have aG:∀ i∈ord,i < ops.size:=fun i hi=>by simpa using ahl.1 h2 i hi
 have dy:∀ i,i < ops.size->i∈ord:=fun i hi=>by simpa using ahl.1 h3 i (ahC.2 hi)
 have pq:ord.Nodup:=by simpa using h4
 have Yy:∀ j oj,ops[j]? = some oj->∀ e∈oj.after,Region.binds .any e=true->e.on < j:=fun j oj fD e he hb=>by
  have:=ahl.1 h5 j (ahC.2 (agx.1 fD).1);simp only[fD]at this;have:=Array.all_eq_true_iff_forall_mem.1 this e he;simpa[hb]using this
 obtain⟨cJ,hQ,dV⟩:=h aG;refine wpIn_region_any hm ?_;obtain⟨aS,bp⟩:=hi.qA (Mv:=Mv) (cR.drew w);refine S5 dP zp Yy hQ ops.size ord _ w.drew μ a σ hlen pq (fun j=>?_) ak (Qb h6) ?_ dV aS bp
 .constructor
  .intro hj;have:=aG j hj;simp[agz,this]
  .intro hj;exact dy j hj.1
 .intro j oj fD lg;have hj:=(agx.1 fD).1;simp[agz,hj]at lg
end
end Go.Av
namespace Go.Av
def uE (av:List (Nat×List Nat)) (i:Nat):List Nat:=(av.lookup i).getD []
def JU (o:Op):Bool:=match o with
 | .buildSlice _ _ _=>true
 | .makeSlice _ _ _=>true
 | .alloc _=>true
 | o=>decide (kindOf o<=2)
def wg (la:List (Nat×Nat×Nat)) (av:List (Nat×List Nat)) (ops:Array Oper) (i j:Nat) (oi oj:Oper):Bool:=match la.lookup i,la.lookup j with
 | none,none=>kH ops oi oj
 | none,some (r,s)=>oi.apart ops oj && JU oi.op && !(oi.dst == some s) && !(oi.dst == some r) && (uE av i).contains r
 | some (r,s),some (r',s')=>oi.apart ops oj && !(r == r') && !(s == r') && !(s' == r)
 | some _,none=>false
section
variable {P:Program} {T:Ty} {Mv X:Nat->Prop} {G:aC} {N:Fr} {ops:Array Oper} {la:List (Nat×Nat×Nat)} {av:List (Nat×List Nat)}
theorem AV.EU (r:Nat) (x:AV):(x.kill r).kill r=x.kill r:=by
 have key:∀ n,∀ x:AV,SizeOf.sizeOf x < n->(x.kill r).kill r=x.kill r:=by
  intro n
  induction n with
  | zero=>intro x h;omega
  | succ n ih=>
   intro x h
   have go:∀ l:List AV,SizeOf.sizeOf l < n->(l.map (AV.kill r)).map (AV.kill r)=l.map (AV.kill r):=by
    intro l
    induction l with
    | nil=>intro _;rfl
    | cons y l B5=>
     intro hl;simp only[List.cons.sizeOf_spec]at hl;simp only[agW,ah8];exact⟨ih y aa,B5 aa⟩
   cases x with
   | d x=>simp[AV.kill]
   | own q off n=>by_cases h1:q=r<;>simp[AV.kill,h1]
   | ref q e j=>by_cases h1:q=r<;>simp[AV.kill,h1]
   | agg cells=>simp at h;simp only[AV.kill,AV.go_eq];rw[go cells aa]
   | bx cells=>simp at h;simp only[AV.kill,AV.go_eq];rw[go cells aa]
   | bZ t x=>simp at h;simp only[AV.kill];rw[ih x aa]
   | bm t x=>simp at h;simp only[AV.kill];rw[ih x aa]
   | fn f cells=>simp at h;simp only[AV.kill,AV.go_eq];rw[go cells aa]
   | mp q=>by_cases h1:q=r<;>simp[AV.kill,h1]
   | dead=>simp[AV.kill]
 exact key _ x (Nat.lt_succ_self _)
theorem Row.EU (r:Nat) (x:Row):(x.kill r).kill r=x.kill r:=by
 cases x with
 | sl ty sz els=>rfl
 | mp ty ents=>rfl
 | it ents seen=>rfl
 | box ty cells=>
  simp only[Row.kill,agF];congr 1;apply List.map_congr_left;intro x _;exact AV.EU r x
theorem Wc {e:Env} {H:Heap} {r ty sz:Nat} {els:List (List D)} (d:Tmp) (hm:Mv r):aK Mv X G N ⟨gI (ez r e) d (.own r 0 els.length),aX (eA r H) r (.sl ty sz els)⟩ ⟨gI (ez r e) d (.d (.sl none els)),aX (eA r H) r (.sl ty sz [])⟩:=fun w μ a hi=>by
 have hr:aX (eA r H) r (.sl ty sz els) r=some (.sl ty sz els):=by simp[aX]
 have xb:(fun q=>if q=r then none else μ q)=cA (jY r) μ:=by
  funext q;unfold cA jY;by_cases h:q=r<;>simp[h]
 have ev:Ev Mv w μ w (cA (jY r) μ):=yJ fun q _ _ hq=>by
  have e:q=r:=by simpa[jY]using hq
  exact e ▸ hm
 have bl:∀ q,q≠r->cA (jY r) μ q=μ q:=fun q hq=>by simp[cA,jY,hq]
 have hX:∀ b,XX X (cA (jY r) μ) b->XX X μ b:=fun b=>Db
 have h1:In w X G (cA (jY r) μ) N a ⟨gI (ez r e) d (.d (.sl none els)),fun q=>if q=r then none else eA r H q⟩:=by
  refine⟨⟨fun q row hq=>?_,fun q m hq=>?_,fun q q' m1 m2 b h1 h2 eM gB=>hi.bu.inj q q' m1 m2 b (kh h1).2 (kh h2).2 eM gB,fun q mq b hq hb=>hi.bu.frame q mq b (kh hq).2 hb,hi.bu.fits⟩,
   ⟨hi.env.defers,hi.env.size,fun i x hx=>?_⟩,fun g x hx=>(hi.jq g x hx).sub hX⟩
  .dsimp only at hq;split at hq
   .cases hq
   .rename_i Ez;obtain⟨m,w9,ok⟩:=hi.bu.rows q row (by simpa[aX,Ez]using hq);obtain⟨oY,_,rfl⟩:=AS.1 (show (H q).map (Row.kill r)=some row from hq);refine⟨m,by rw[bl q Ez];exact w9,?_⟩;have:=j6.keep ev bl (fun _ _=>rfl) ok
    rwa [Row.EU]at this
  .obtain⟨hk,w9⟩:=kh hq
   have Ez:q≠r:=by simpa[jY]using hk
   obtain⟨row,dX⟩:=hi.bu.lD q m w9;exact⟨row,by simpa[aX,Ez]using dX⟩
  .simp only[gI]at hx;split at hx
   .rename_i hid;subst hid;obtain rfl:=AI hx;obtain⟨u,hu,im⟩:=hi.env.slot i (.own r 0 els.length) (by simp[gI]);refine⟨u,hu,?_⟩;obtain⟨k,hk,_⟩:=JX hi.bu hr aa im;rw[xb]at hk;have:=RV.d (w:=w) (μ:=cA (jY r) μ) hk.vL;simpa using this
   .rename_i hid;obtain⟨x0,h0,rfl⟩:=AS.1 (show (e i).map (AV.kill r)=some x from hx);obtain⟨u,hu,im⟩:=hi.env.slot i (x0.kill r) (by simp[gI,hid,ez,h0]);refine⟨u,hu,?_⟩;have:=RV.keep ev bl im
    rwa [AV.EU]at this
 obtain⟨aS,wz⟩:=h1.alloc (Mv:=Mv) (d:=r) (w':=w) (m:=⟨none,sz,0⟩) ak (cR.refl w) ak (row:=.sl ty sz []) fun _=>.nil rfl rfl
 have hH:aX (fun q=>if q=r then none else eA r H q) r (.sl ty sz [])=aX (eA r H) r (.sl ty sz []):=by
  funext q;by_cases h:q=r<;>simp[aX,h]
 refine⟨_,?_,ev.trans wz⟩;rw[<- hH];exact aS
def Fin (Mv:Nat->Prop) (r m:Nat) (row:Row) (y:AV) (ir:Row):Prop:=
 (y = .own r 0 m/\ir=row)\/(Mv r/\∃ ty sz els,row = .sl ty sz els/\m=els.length/\y = .d (.sl none els)/\ir = .sl ty sz [])
theorem Fin.row {r m:Nat} {row ir:Row} {y:AV} (h:Fin Mv r m row y ir) (dX:∃ ty sz els,row = .sl ty sz els):∃ ty sz els,ir = .sl ty sz els:=by
 rcases h with⟨_,rfl⟩ | ⟨_,ty,sz,els,_,_,_,rfl⟩
 .exact dX
 .exact⟨_,_,_,rfl⟩
theorem Fin.kill {r m q:Nat} {row ir:Row} {y:AV} (h:Fin Mv r m row y ir) (hq:r≠q):y.kill q=y:=by
 rcases h with⟨rfl,_⟩ | ⟨_,ty,sz,els,_,_,rfl,_⟩
 .simp[AV.kill,hq]
 .rfl
def sS (P:Program) (T:Ty) (Mv:Nat->Prop) (G:aC) (N:Fr) (la:List (Nat×Nat×Nat)) (av:List (Nat×List Nat)) (i:Nat) (o:Oper) (σ aJ:St):Prop:=
 gP N o/\o.guard=none/\match la.lookup i with
  | some (r,s)=>∃ m row y ir,kA T G Mv o σ.env σ.H r s m row/\Fin Mv r m row y ir/\aJ=⟨aR (ez r σ.env) o.dst y,aX (eA r σ.H) r ir⟩
  | none=>kindOf o.op≠9/\∃ x H',Ex P T Mv G o σ.env σ.H x H'/\aJ=⟨aR σ.env o.dst x,H'⟩/\(∀ r∈uE av i,Gg r o σ.env x)/\(uE av i≠[]->∀ c,ey o.op=some c->∃ y g ds,lz G σ.env c=some (g,ds.map .d)/\aD P G g ds y/\x = .d y)
theorem sS.step {i:Nat} {o:Oper} {σ aJ:St} (h:sS P T Mv G N la av i o σ aJ):∃ Lf,zY P T Mv G N ops o σ Lf/\aK Mv X G N Lf aJ:=by
 obtain⟨hd,hg,h⟩:=h;split at h
 .obtain⟨m,row,y,ir,h1,hf,rfl⟩:=h;refine⟨_,⟨hd,.inl ⟨lA hg,h1.to⟩⟩,?_⟩
  rcases hf with⟨rfl,rfl⟩ | ⟨hm,ty,sz,els,rfl,rfl,rfl,rfl⟩
  .exact .refl _
  .obtain⟨_,_,d,wO⟩:=h1.row;rw[wO];exact Wc d hm
 .obtain⟨_,x,H',h1,rfl,_⟩:=h;exact⟨_,⟨hd,.inl ⟨lA hg,h1.to⟩⟩,.refl _⟩
theorem Ex.newRow {o:Oper} (hk:¬ kindOf o.op<=2) (ho:JU o.op=true) {e:Env} {H H':Heap} {x:AV} (h:Ex P T Mv G o e H x H'):∃ d row,o.dst=some d/\H d=none/\H'=aX H d row/\(∀ q,row.kill q=row)/\∀ H2,H2 d=none->Ex P T Mv G o e H2 x (aX H2 d row):=by
 obtain⟨dst,op,type,pos,after,guard⟩:=o;dsimp only at hk ho;unfold Ex at h;unfold Ex
 cases op<;>simp only[JU,decide_eq_true_eq]at ho<;>first | exact absurd ho hk | skip
 case alloc t=>
  simp only[ey,gD,if_true]at h ⊢;obtain⟨c,h1,h2⟩:=h
  cases dst with
  | none=>cases h1
  | some d=>
   simp only[wr]at h1 ⊢;split at h1
   .rename_i ti IK;simp only[IT,agA,St.mk.injEq,true_and]at h1;obtain⟨rfl,rfl,rfl⟩:=h1;exact⟨d,_,rfl,h2,rfl,fun q=>by simp[Row.kill,gU,AV.kill],fun H2 h=>⟨_,rfl,h⟩⟩
   .cases h1
 case makeSlice t y z=>
  simp only[ey,gD,if_true]at h ⊢;obtain⟨c,h1,h2⟩:=h
  cases dst with
  | none=>cases h1
  | some d=>
   simp only[wr]at h1 ⊢;split at h1
   .split at h1
    .split at h1
     .simp only[IT,agA,St.mk.injEq,true_and]at h1;obtain⟨rfl,rfl,rfl⟩:=h1;exact⟨d,_,rfl,h2.1,rfl,fun _=>rfl,fun H2 h=>⟨_,rfl,h,h2.2⟩⟩
     .cases h1
    .cases h1
   .cases h1
 case buildSlice t n ps=>
  simp only[ey,gD,if_true]at h ⊢;obtain⟨c,h1,h2⟩:=h
  cases dst with
  | none=>cases h1
  | some d=>
   simp only[wr]at h1 ⊢;split at h1
   .split at h1
    .split at h1
     .split at h1
      .simp only[IT,agA,St.mk.injEq,true_and]at h1;obtain⟨rfl,rfl,rfl⟩:=h1;exact⟨d,_,rfl,h2.1,rfl,fun _=>rfl,fun H2 h=>⟨_,rfl,h,h2.2⟩⟩
      .cases h1
     .cases h1
    .cases h1
   .cases h1
theorem OY {r q off n:Nat} {z:AV} (h:z.kill r = .own q off n):z = .own q off n:=by
 cases z<;>simp only[AV.kill,reduceCtorEq]at h
 .split at h
  .cases h
  .exact h
 .split at h<;>cases h
 .split at h<;>cases h
theorem aar {r:Nat} {x:D} {z:AV} (h:z.kill r = .d x):z = .d x:=by
 cases z<;>simp only[AV.kill,reduceCtorEq]at h
 .exact h
 .split at h<;>cases h
 .split at h<;>cases h
 .split at h<;>cases h
theorem Fb {H:Heap} {r:Nat} {v:AV} {l:List (List D)} (h:mH H r v=some l):(∃ x,v = .d x)\/∃ q off n,v = .own q off n:=by
 unfold mH at h;split at h
 .exact .inl ⟨_,rfl⟩
 .exact .inr ⟨_,_,_,rfl⟩
 .cases h
theorem Gl {r:Nat} {e:Env} {p:Operand}:bF G (ez r e) p=(bF G e p).map (AV.kill r):=by
 cases p with
 | tmp t=>rfl
 | const k=>simp only[bF,ag1];unfold gU;split<;>rfl
 | global g=>simp only[bF,Option.map_map];rfl
 | func f=>rfl
theorem kA.aeF {o:Oper} {e:Env} {H H2:Heap} {r s m q:Nat} {row:Row} (h:kA T G Mv o (ez q e) H r s m row) (hr:H2 r=H r) (hs:H2 s=H s):kA T G Mv o e H2 r s m row:=by
 obtain⟨x,y,off,n,v,ty,sz,els,news,c,h1,h2,h3,h4,h5,h6,h7,h8⟩:=h;rw[Gl]at h2 h3;obtain⟨z1,zx,e1⟩:=AS.1 h2;obtain⟨z2,IZ,e2⟩:=AS.1 h3;have:=OY e1;subst this
 have hz:z2=v:=by
  rcases Fb h6 with⟨x,rfl⟩ | ⟨_,_,_,rfl⟩
  .exact aar e2
  .exact OY e2
 subst hz;exact⟨x,y,off,n,z2,ty,sz,els,news,c,h1,zx,IZ,h4,by rw[hr];exact h5,by rw[PH h4 hs];exact h6,h7,h8⟩
theorem kA.acW {o:Oper} {e:Env} {H H2:Heap} {r s m q:Nat} {row:Row} (h:kA T G Mv o e H r s m row) (hq:r≠q) (oO:s≠q) (hr:H2 r=H r) (hs:∀ ty sz els,H s=some (.sl ty sz els)->H2 s=H s):kA T G Mv o (ez q e) H2 r s m row:=by
 obtain⟨x,y,off,n,v,ty,sz,els,news,c,h1,h2,h3,h4,h5,h6,h7,h8⟩:=h;refine⟨x,y,off,n,v,ty,sz,els,news,c,h1,by rw[Gl,h2];simp[AV.kill,hq],?_,h4,by rw[hr];exact h5,?_,h7,h8⟩
 .rw[Gl,h3]
  rcases Fb h6 with⟨x,rfl⟩ | ⟨q',_,_,rfl⟩
  .rfl
  .simp only[tq]at h4;subst h4;simp[AV.kill,oO]
 .rcases Fb h6 with⟨x,rfl⟩ | ⟨q',abY,n',rfl⟩
  .cases x<;>first | exact h6 | cases h6
  .simp only[tq]at h4;subst h4;simp only[mH]at h6 ⊢;split at h6
   .cases h6
   .rename_i bl;rw[if_neg bl];split at h6
    .rename_i Sc FU oA hH;rw[hs _ _ _ hH,hH];exact h6
    .cases h6
theorem Oo {H:Heap} {r d:Nat} {a b:Row} (h:d≠r):aX (aX H r a) d b=aX (aX H d b) r a:=by
 funext i;by_cases h1:i=d<;>by_cases h2:i=r<;>simp[aX,h1,h2,h,ahD h]
theorem Ja {H:Heap} {r d:Nat} {b:Row} (hb:b.kill r=b):eA r (aX H d b)=aX (eA r H) d b:=by
 funext i;by_cases h1:i=d<;>simp[aX,eA,h1,hb]
theorem Gm {o:Oper} {e e':Env} {r:Nat} (h:∀ t,Operand.tmp t∈o.op.operands->e' t=e t) (ha:iA o.op e (ez r e)):iA o.op e' (ez r e'):=fun t ht=>by
 have h1:=ha t ht;simp only[ez]at h1 ⊢;rw[h t ht];exact h1
theorem abf {i j:Nat} {oi oj:Oper} (hc:wg la av ops i j oi oj=true) {σ bh iy:St} (h1:sS P T Mv G N la av i oi σ bh) (h2:sS P T Mv G N la av j oj bh iy) :
  ∃ j1,sS P T Mv G N la av j oj σ j1/\sS P T Mv G N la av i oi j1 iy:=by
 obtain⟨di,gi,h1⟩:=h1;obtain⟨dj,gj,h2⟩:=h2;obtain⟨e,H⟩:=σ
 cases tR:la.lookup i with
 | none=>
  simp only[tR]at h1;obtain⟨ki,x,H1,mZ,rfl,xS,Gz⟩:=h1
  cases lg:la.lookup j with
  | none=>
   simp only[lg]at h2;obtain⟨kj,y,H2,WL,rfl,Fl,Vv⟩:=h2;simp only[wg,tR,lg]at hc;obtain⟨H3,f1,f2⟩:=yq hc (x:=x) (y:=y) (e:=e) (H:=H) ⟨di,.inl ⟨lA gi,mZ⟩⟩ ⟨dj,.inl ⟨lA gj,WL⟩⟩ ki kj
   have ej:Ex P T Mv G oj e H y H3:=by
    rcases f1.2 with⟨_,h⟩ | ⟨h,_⟩
    .exact h
    .rw[lA gj]at h;cases h
   have ei:Ex P T Mv G oi (aR e oj.dst y) H3 x H2:=by
    rcases f2.2 with⟨_,h⟩ | ⟨h,_⟩
    .exact h
    .rw[lA gi]at h;cases h
   simp only[kH,abi]at hc;obtain⟨a1,_,bl⟩:=kD hc.1 (e:=e) (v:=x);obtain⟨_,a2,_⟩:=kD hc.1 (e:=e) (v:=y);refine⟨⟨aR e oj.dst y,H3⟩,⟨dj,gj,?_⟩,⟨di,gi,?_⟩⟩
   .simp only[lg];refine⟨kj,y,H3,ej,rfl,fun r hr=>⟨Gm (e:=aR e oi.dst x) (fun t ht=>(a1 t (lP ht)).symm) (Fl r hr).1,(Fl r hr).2⟩,fun ha c cG=>?_⟩;obtain⟨y',g,ds,ht,hp⟩:=Vv ha c cG;exact⟨y',g,ds,by rw[<- ht];exact z7 fun t ht=>(a1 t (lP (by rw[(vh cG).1];exact ht))).symm,hp⟩
   .simp only[tR];refine⟨ki,x,H2,ei,by rw[iI bl],fun r hr=>⟨Gm (e:=e) (fun t ht=>a2 t (lP ht)) (xS r hr).1,(xS r hr).2⟩,fun ha c cG=>?_⟩;obtain⟨y',g,ds,ht,hp⟩:=Gz ha c cG;exact⟨y',g,ds,by rw[<- ht];exact z7 fun t ht=>a2 t (lP (by rw[(vh cG).1];exact ht)),hp⟩
  | some rs=>
   obtain⟨r,s⟩:=rs;simp only[lg]at h2;obtain⟨m,row,yr,ir,app,fin,rfl⟩:=h2;simp only[wg,tR,lg,abi,ahY,beq_eq_false_iff_ne,aha]at hc;obtain⟨⟨⟨⟨gL,cz⟩,hs⟩,hr⟩,Nq⟩:=hc;obtain⟨y4,hx⟩:=xS r Nq;obtain⟨a1,_,bl⟩:=kD gL (e:=e) (v:=x);obtain⟨_,a2,_⟩:=kD gL (e:=ez r e) (v:=yr);obtain⟨xh,D4,_⟩:=app.row;have dX:=fin.row xh;have fV:iA oj.op (aR e oi.dst x) e:=fun t ht=>a1 t (lP ht);have e3:∀ t,Operand.tmp t∈oi.op.operands->(aR (ez r e) oj.dst (yr)) t=e t:=fun t ht=>(a2 t (lP ht)).trans (y4 t ht).symm
   have main:kA T G Mv oj e H r s m row/\∃ H2,Ex P T Mv G oi e (aX (eA r H) r ir) x H2/\H2=aX (eA r H1) r ir:=by
    by_cases ff:kindOf oi.op<=2
    .have:=mZ.keeps ff;subst this;refine⟨app.congr fV rfl rfl,_,?_,rfl⟩
     cases fv:ey oi.op with
     | some c=>
      obtain⟨y,g,ds,ht,hp,rfl⟩:=Gz (List.ne_nil_of_mem Nq) c fv;unfold Ex;simp only[fv];exact⟨y,⟨g,_,ht,.inl ⟨ds,rfl,hp⟩⟩,rfl,trivial⟩
     | none=>
      unfold Ex at mZ ⊢;simp only[fv]at mZ ⊢
      have hw:¬ gD oi.op=true:=fun hw=>by rcases EO hw with h | h | h<;>omega
      rw[if_neg hw]at mZ ⊢;obtain⟨c,cf,cG,_⟩:=mZ;obtain⟨c',h',e9⟩:=acL dX cf ⟨y4,hx⟩;exact⟨c',h',e9 cG,trivial⟩
    .obtain⟨d,vF,hd,hn,rfl,fM,dy⟩:=mZ.newRow ff cz;have mo:d≠r:=fun e=>hr (by rw[hd,e]);have mv:d≠s:=fun e=>hs (by rw[hd,e]);refine⟨app.congr fV (by simp[aX,ahD mo]) (by simp[aX,ahD mv]),_,dy _ (by simp[aX,mo,eA,hn]),?_⟩;rw[Ja (fM r),Oo mo]
   obtain⟨Dc,H2,WK,rfl⟩:=main;refine⟨⟨aR (ez r e) oj.dst (yr),aX (eA r H) r ir⟩,⟨dj,gj,?_⟩,⟨di,gi,?_⟩⟩
   .simp only[lg];exact⟨m,row,yr,ir,Dc,fin,rfl⟩
   .simp only[tR];refine⟨ki,x,_,WK.congr ki fun t ht=>(e3 t ht).symm,?_,fun q hq=>⟨Gm e3 (xS q hq).1,(xS q hq).2⟩,fun ha c cG=>?_⟩
    .rw[ET,hx,iI bl]
    .obtain⟨y',g,ds,ht,hp⟩:=Gz ha c cG;exact⟨y',g,ds,by rw[<- ht];exact z7 fun t ht=>e3 t (by rw[(vh cG).1];exact ht),hp⟩
 | some rs=>
  obtain⟨r,s⟩:=rs;simp only[tR]at h1;obtain⟨m,row,y1,rw1,app,fin,rfl⟩:=h1
  cases lg:la.lookup j with
  | none=>simp[wg,tR,lg]at hc
  | some rs'=>
   obtain⟨r',s'⟩:=rs';simp only[lg]at h2;obtain⟨m',ir,y2,rw2,Dc,G1,rfl⟩:=h2;simp only[wg,tR,lg,abi,ahY,beq_eq_false_iff_ne]at hc;obtain⟨⟨⟨gL,lN⟩,hs⟩,p5⟩:=hc;obtain⟨a1,_,bl⟩:=kD gL (e:=ez r e) (v:=y1);obtain⟨_,a2,_⟩:=kD gL (e:=ez r' e) (v:=y2);obtain⟨⟨Sd,RX,Ml,rfl⟩,⟨t1,z1,l1,D4⟩,_⟩:=app.row;obtain⟨⟨KP,KF,ri,rfl⟩,⟨t2,z2,l2,Xp⟩,_⟩:=Dc.row;obtain⟨Se,sz3,Wi,rfl⟩:=fin.row ⟨_,_,_,rfl⟩;obtain⟨FZ,KG,GU,rfl⟩:=G1.row ⟨_,_,_,rfl⟩
   have NQ:∀ q,q≠r->∀ ty sz els,(eA r H) q=some (.sl ty sz els)->H q=some (.sl ty sz els):=by
    intro q _ ty sz els hq;obtain⟨oY,h0,he⟩:=AS.1 hq
    cases oY with
    | sl _ _ _=>rw[h0];exact congrArg some he
    | box _ _=>cases he
    | mp _ _=>cases he
    | it _ _=>cases he
   have tv:H r'=some (.sl t2 z2 l2):=NQ r' (ahD lN) _ _ _ (by simpa[aX,ahD lN]using Xp);have p1:kA T G Mv oj (ez r e) (aX (eA r H) r (.sl Se sz3 Wi)) r' s' m' (.sl KP KF ri):=Dc.congr (fun t ht=>a1 t (lP ht)) rfl rfl
   have p2:kA T G Mv oj e H r' s' m' (.sl KP KF ri):=by
    obtain⟨x,y,off,n,v,ty,sz,els,news,c,g1,g2,g3,g4,g5,g6,g7,g8⟩:=p1
    have Zk:mH H r' v=some news:=by
     rcases Fb g6 with⟨x,rfl⟩ | ⟨q',abY,n',rfl⟩
     .cases x<;>first | exact g6 | cases g6
     .simp only[tq]at g4;subst g4;simp only[mH]at g6 ⊢;split at g6
      .cases g6
      .rename_i hq;rw[if_neg hq];split at g6
       .rename_i Sc FU oA oP;have:H q'=some (.sl Sc FU oA):=NQ q' p5 _ _ _ (by simpa[aX,p5]using oP);rw[this];exact g6
       .cases g6
    have:kA T G Mv oj (ez r e) H r' s' m' (.sl KP KF ri):=⟨x,y,off,n,v,ty,sz,els,news,c,g1,g2,g3,g4,by rw[tv];simpa[aX,ahD lN,eA,tv,Row.kill]using g5,Zk,g7,g8⟩;exact this.aeF rfl rfl
   have q1:kA T G Mv oi (ez r' e) (aX (eA r' H) r' (.sl FZ KG GU)) r s m (.sl Sd RX Ml):=by
    refine app.acW lN hs ?_ fun ty sz els hh=>?_
    .simp[aX,lN,eA,D4,Row.kill]
    .simp[aX,hs,eA,hh,Row.kill]
   have q2:kA T G Mv oi (aR (ez r' e) oj.dst y2) (aX (eA r' H) r' (.sl FZ KG GU)) r s m (.sl Sd RX Ml):=q1.congr (fun t ht=>(a2 t (lP ht)).symm) rfl rfl;refine⟨⟨aR (ez r' e) oj.dst y2,aX (eA r' H) r' (.sl FZ KG GU)⟩,⟨dj,gj,?_⟩,⟨di,gi,?_⟩⟩
   .simp only[lg];exact⟨m',_,y2,_,p2,G1,rfl⟩
   .simp only[tR];refine⟨m,_,y1,_,q2,fin,?_⟩;have k1:AV.kill r' y1=y1:=fin.kill lN;have k2:AV.kill r y2=y2:=G1.kill (ahD lN);rw[ET,ET,k1,k2,aan r' r,iI bl,Ja rfl,Ja rfl,aaq r' r,Oo lN]
def Q7 (P:Program) (T:Ty) (Mv:Nat->Prop) (G:aC) (N:Fr) (la:List (Nat×Nat×Nat)) (av:List (Nat×List Nat)) (ops:Array Oper):List Nat->St->St->Prop:=iJ (sS P T Mv G N la av) ops
def JT (la:List (Nat×Nat×Nat)) (av:List (Nat×List Nat)) (ord:List Nat) (ops:Array Oper):Bool:=qP (wg la av ops) ord ops
def xU (r:Nat) (e:Env):List Operand->Prop
 | []=>True
 | .tmp t :: l=>(e t).map (AV.kill r)=e t/\xU r e l
 | _ :: l=>xU r e l
theorem JQ {r:Nat} {e:Env}:∀ {l:List Operand},xU r e l->∀ t,Operand.tmp t∈l->e t=ez r e t
 | [],_,t,ht=>by cases ht
 | p :: l,h,t,ht=>by
  cases p with
  | tmp u=>
   simp only[xU]at h
   rcases agK.1 ht with h1 | h1
   .cases h1;exact h.1.symm
   .exact JQ h.2 t h1
  | _=>
   simp only[xU]at h
   rcases agK.1 ht with h1 | h1
   .cases h1
   .exact JQ h t h1
def vx (rs:List Nat) (ps:List Operand) (e:Env) (x:AV):Prop:=match rs with
 | []=>True
 | r :: rs=>(xU r e ps/\x.kill r=x)/\vx rs ps e x
theorem Fo {o:Oper} {e:Env} {x:AV}:∀ {rs:List Nat},vx rs o.op.operands.toList e x->∀ r∈rs,Gg r o e x
 | [],_,r,hr=>by cases hr
 | q :: rs,h,r,hr=>by
  simp only[vx]at h
  rcases agK.1 hr with rfl | hr
  .exact⟨fun t ht=>JQ h.1.1 t (by simpa using ht),h.1.2⟩
  .exact Fo h.2 r hr
def qt (P:Program) (G:aC) (c:Call) (e:Env) (dst:Option Tmp) (H:Heap) (rs:List Nat) (ps:List Operand) (next:St->Prop):Prop:=∃ y g ds,lz G e c=some (g,ds.map .d)/\aD P G g ds y/\vx rs ps e (.d y)/\next ⟨aR e dst (.d y),H⟩
theorem qt.mk {c:Call} {e:Env} {dst:Option Tmp} {H:Heap} {rs:List Nat} {ps:List Operand} {next:St->Prop} {g:FuncId} {xs:List AV} {ds ia:List D} {y:D} (hc:aD P G g ds y) (ht:lz G e c=some (g,xs)) (hx:lR xs=some ia) (hle:D.le.go ia ds)
  (ho:vx rs ps e (.d y)) (h:next ⟨aR e dst (.d y),H⟩):qt P G c e dst H rs ps next:=⟨y,g,ia,by rw[ht,qo hx],hc.vL hle,ho,h⟩
def AH (Mv:Nat->Prop) (dst:Option Tmp) (r s:Nat) (z:AV) (σ:St) (next:St->Prop):Prop:=
 if s=r then match σ.H r,z with
  | some (.sl ty sz els),.own _ _ m=>Mv r/\m=els.length/\next ⟨aR σ.env dst (.d (.sl none els)),aX σ.H r (.sl ty sz [])⟩
  | _,_=>False
 else next ⟨aR σ.env dst z,σ.H⟩
def De (T:Ty) (Mv:Nat->Prop) (G:aC) (o:Oper) (σ:St) (r s:Nat) (next:St->Prop):Prop:=match yl o with
 | some (x,y)=>match bF G σ.env x,bF G σ.env y with
  | some (.own q _ _),some v=>q=r/\tq s v/\match wr T G Mv σ o with
   | some (c,z,bh)=>c/\AH Mv o.dst r s z bh next
   | none=>False
  | _,_=>False
 | none=>False
def vA (T:Ty) (G:aC) (Mv:Nat->Prop) (o:Oper) (σ:St) (rs:List Nat) (next:St->Prop):Prop:=
 if gD o.op then match wr T G Mv σ o with
  | some (c,x,aJ)=>c/\vx rs o.op.operands.toList σ.env x/\next ⟨aR aJ.env o.dst x,aJ.H⟩
  | none=>False
 else match rd T G σ o.op with
  | some (c,x)=>c/\vx rs o.op.operands.toList σ.env x/\next ⟨aR σ.env o.dst x,σ.H⟩
  | none=>False
def qU (P:Program) (T:Ty) (Mv:Nat->Prop) (G:aC) (N:Fr) (la:List (Nat×Nat×Nat)) (av:List (Nat×List Nat)) (K:St->Prop):List (Nat×Oper)->St->Prop
 | [],σ=>K σ
 | (i,o) :: rest,σ=>gP N o/\o.guard=none/\match la.lookup i with
  | some (r,s)=>De T Mv G o σ r s (qU P T Mv G N la av K rest)
  | none=>kindOf o.op≠9/\match ey o.op with
   | some c=>qt P G c σ.env o.dst σ.H (uE av i) o.op.operands.toList (qU P T Mv G N la av K rest)
   | none=>vA T G Mv o σ (uE av i) (qU P T Mv G N la av K rest)
def cU (ops:Array Oper):List Nat->List (Nat×Oper)
 | []=>[]
 | i :: l=>match ops[i]? with
  | some o=>(i,o) :: cU ops l
  | none=>cU ops l
theorem aed {K:St->Prop}:∀ (l:List Nat) (σ:St),(∀ i∈l,i < ops.size)->qU P T Mv G N la av K (cU ops l) σ->∃ cJ,K cJ/\Q7 P T Mv G N la av ops l σ cJ:=by
 intro l
 induction l with
 | nil=>intro σ _ h;exact⟨σ,h,rfl⟩
 | cons i l ih=>
  intro σ hl h;have hi:=hl i ak
  have ho:ops[i]? = some ops[i]:=by simp[hi]
  simp only[cU,ho]at h;generalize ops[i]=o at ho h;simp only[qU]at h;obtain⟨hd,e8,h⟩:=h
  have fin:∀ bh,sS P T Mv G N la av i o σ bh->qU P T Mv G N la av K (cU ops l) bh->∃ cJ,K cJ/\Q7 P T Mv G N la av ops (i :: l) σ cJ:=fun bh hs h1=>by
   obtain⟨cJ,hk,hr⟩:=ih bh (fun j hj=>hl j (by simp[hj])) h1;exact⟨cJ,hk,o,ho,bh,hs,hr⟩
  cases oI:la.lookup i with
  | some rs=>
   obtain⟨r,s⟩:=rs;simp only[oI]at h;unfold De at h;split at h
   .rename_i x y Zt;split at h
    .rename_i q off n v hx hy;obtain⟨rfl,hs,h⟩:=h;split at h
     .rename_i c z bh hw;obtain⟨hc,h⟩:=h;obtain⟨e,H⟩:=σ;obtain⟨m,row,Bg,rfl,rfl⟩:=kA.of Zt hx hy hs hw hc;unfold AH at h;split at h
      .obtain⟨⟨ty,sz,els,rfl⟩,_⟩:=Bg.row;simp only[aX,if_true]at h;obtain⟨hm,Zh,h⟩:=h;refine fin _ ⟨hd,e8,?_⟩ h;simp only[oI];refine⟨m,_,_,_,Bg,.inr ⟨hm,ty,sz,els,rfl,Zh,rfl,rfl⟩,?_⟩;congr 1;funext q';by_cases oO:q'=q<;>simp[aX,oO]
      .refine fin _ ⟨hd,e8,?_⟩ h;simp only[oI];exact⟨m,row,_,_,Bg,.inl ⟨rfl,rfl⟩,rfl⟩
     .exact h.elim
    .exact h.elim
   .exact h.elim
  | none=>
   simp only[oI]at h;obtain⟨hk,h⟩:=h;split at h
   .rename_i c hc;obtain⟨y,g,ds,ht,hp,ij,h⟩:=h;refine fin _ ⟨hd,e8,?_⟩ h;simp only[oI];refine⟨hk,.d y,σ.H,?_,rfl,Fo ij,fun _ c' dZ=>?_⟩
    .unfold Ex;simp only[hc];exact⟨y,⟨g,_,ht,.inl ⟨ds,rfl,hp⟩⟩,rfl,trivial⟩
    .rw[hc]at dZ;obtain rfl:=AI dZ;exact⟨y,g,ds,ht,hp,rfl⟩
   .rename_i hc;unfold vA at h;split at h
    .rename_i hw;split at h
     .rename_i c x bh h1;obtain⟨cG,ij,h⟩:=h;have he:=Ae hk h1;obtain⟨e,H⟩:=σ;obtain⟨e1,H1⟩:=bh;dsimp only at he;subst he;refine fin _ ⟨hd,e8,?_⟩ h;simp only[oI];refine⟨hk,x,H1,?_,rfl,Fo ij,fun _ c' dZ=>?_⟩
      .unfold Ex;simp only[hc];rw[if_pos hw];exact⟨c,h1,cG⟩
      .rw[hc]at dZ;cases dZ
     .exact h.elim
    .rename_i hw;split at h
     .rename_i c x h1;obtain⟨cG,ij,h⟩:=h;refine fin _ ⟨hd,e8,?_⟩ h;simp only[oI];refine⟨hk,x,σ.H,?_,rfl,Fo ij,fun _ c' dZ=>?_⟩
      .unfold Ex;simp only[hc];rw[if_neg hw];exact⟨c,h1,cG,trivial⟩
      .rw[hc]at dZ;cases dZ
     .exact h.elim
theorem Ll (hg:Good P T) (hm:P.follows .mixedOrders=true) (la:List (Nat×Nat×Nat)) (av:List (Nat×List Nat)) (ord:List Nat) {id:Nat} (cz:JT la av ord ops=true) {Q:Exit->St->Prop} {σ:St} (h:qU P T Mv G N la av (fun aJ=>Q .normal aJ) (cU ops ord) σ):AW P Mv X G N (.region id ops true) Q σ:=ye (Step:=sS P T Mv G N la av) (cp:=wg la av ops) hm (fun i o ho σ aJ h w μ a hi _ _ hk=>by
  obtain⟨Lf,gv,himp⟩:=h.step (ops:=ops) (X:=X);refine zZ hg gv hi ho fun w' aH a' aS p0=>?_;obtain⟨jG,sa,Bl⟩:=himp w' aH a' aS
  exact hk w' jG a' sa (p0.trans Bl)) (fun i j oi oj _ _ hc σ bh iy h1 h2=>abf hc h1 h2) ord cz fun aG=>aed ord σ aG h
theorem SK (hg:Good P T) (hm:P.follows .mixedOrders=true) (la:List (Nat×Nat×Nat)) (av:List (Nat×List Nat)) (ord:List Nat) (l ns:List Nat) (hM:∀ r,ns.contains r=false->Mv r) {id:Nat} (cz:JT la av ord ops=true) {y:Code} {Q:Exit->St->Prop} {σ:St}
  (h:∀ K:St->Prop,(∀ τ:St,AW P Mv X G N y Q (τ.norm l ns)->K τ)->qU P T Mv G N la av K (cU ops ord) σ):AW P Mv X G N (.seq (.region id ops true) y) Q σ:=
 sN (Ll hg hm la av ord cz (h _ fun _ h=>h.norm l ns hM))
theorem sM (hg:Good P T) (hm:P.follows .mixedOrders=true) (la:List (Nat×Nat×Nat)) (av:List (Nat×List Nat)) (ord:List Nat) {id:Nat} (cz:JT la av ord ops=true) {Q:Exit->St->Prop} {σ:St}
  (h:∀ K:St->Prop,(∀ τ:St,Q .normal τ->K τ)->qU P T Mv G N la av K (cU ops ord) σ):AW P Mv X G N (.region id ops true) Q σ:=Ll hg hm la av ord cz (h _ fun _ h=>h)
end
end Go.Av
namespace Go.Av
section
variable {P:Program} {T:Ty} {Mv X:Nat->Prop} {G:aC} {N:Fr} {σ:St}
theorem dY (l:List (Nat×AV)) (i:Nat) (x:AV):gI (bn l) i x=bn ((i,x) :: l):=by
 funext j;simp only[gI,bn,List.lookup];by_cases h:j=i
 .subst h;simp
 .have:(j == i)=false:=by simpa using h
  simp[h,this]
theorem ZW (l:List (Nat×Row)) (i:Nat) (x:Row):aX (aw l) i x=aw ((i,x) :: l):=by
 funext j;simp only[aX,aw,List.lookup];by_cases h:j=i
 .subst h;simp
 .have:(j == i)=false:=by simpa using h
  simp[h,this]
theorem Jq {α β:Type} (f:α->β) (l:List (Nat×α)) (i:Nat):(l.map fun p=>(p.1,f p.2)).lookup i=(l.lookup i).map f:=by
 induction l with
 | nil=>rfl
 | cons p l ih=>
  simp only[agW,List.lookup];cases h:(i == p.1)<;>simp[ih]
theorem aao (r:Nat) (l:List (Nat×AV)):ez r (bn l)=bn (l.map fun p=>(p.1,p.2.kill r)):=by
 funext j;simp only[ez,bn,Jq]
theorem aap (r:Nat) (l:List (Nat×Row)):eA r (aw l)=aw (l.map fun p=>(p.1,p.2.kill r)):=by
 funext j;simp only[eA,aw,Jq]
theorem aev (o f:Nat->Nat->Nat->AV) (l:List (Nat×AV)):me o f (bn l)=bn (l.map fun p=>(p.1,p.2.tr o f)):=by
 funext j;simp only[me,bn,Jq]
theorem Zl:jc=aw []:=rfl
def KA (P:Program) (T:Ty) (Mv X:Nat->Prop) (G:aC) (N:Fr) (ops:Array Oper) (o:Oper) (σ:St) (K:St->Prop):Prop:=gP N o/\match jM ops σ.env o with
 | some b=>if b=true then wA P T Mv X G N o σ K else K ⟨aR σ.env o.dst dN,σ.H⟩
 | none=>False
def RH (P:Program) (T:Ty) (Mv:Nat->Prop) (G:aC) (N:Fr) (ops:Array Oper) (o:Oper) (σ:St) (K:St->Prop):Prop:=gP N o/\match jM ops σ.env o with
 | some b=>if b=true then (match ey o.op with
  | some c=>kG P G c σ o.dst K
  | none=>qh T G Mv o σ K) else K ⟨aR σ.env o.dst dN,σ.H⟩
 | none=>False
def RL (P:Program) (T:Ty) (Mv:Nat->Prop) (G:aC) (N:Fr) (la:List (Nat×Nat×Nat)) (av:List (Nat×List Nat)) (i:Nat) (o:Oper) (σ:St) (K:St->Prop):Prop:=gP N o/\o.guard=none/\match la.lookup i with
 | some (r,s)=>De T Mv G o σ r s K
 | none=>kindOf o.op≠9/\match ey o.op with
  | some c=>qt P G c σ.env o.dst σ.H (uE av i) o.op.operands.toList K
  | none=>vA T G Mv o σ (uE av i) K
theorem aM {ops:Array Oper} {K:St->Prop} {o:Oper} {rest:List Oper} (h:∀ K':St->Prop,(∀ τ,ku P T Mv X G N ops K rest τ->K' τ)->KA P T Mv X G N ops o σ K'):ku P T Mv X G N ops K (o :: rest) σ:=h _ fun _ h=>h
theorem eK {ops:Array Oper} {K:St->Prop} {o:Oper} {rest:List Oper} (h:∀ K':St->Prop,(∀ τ,o3 P T Mv G N ops K rest τ->K' τ)->RH P T Mv G N ops o σ K'):o3 P T Mv G N ops K (o :: rest) σ:=h _ fun _ h=>h
theorem bK {ops:Array Oper} {K:St->Prop} (h:K σ):ku P T Mv X G N ops K [] σ:=h
theorem mQ {ops:Array Oper} {K:St->Prop} (h:K σ):o3 P T Mv G N ops K [] σ:=h
end
end Go.Av
namespace Go.Av
theorem aew (k:Nat->Bool) (o f:Nat->Nat->Nat->AV) (l:List (Nat×Row)):fe k o f (aw l)=aw (l.filterMap fun p=>if k p.1=true then some (p.1,p.2.tr o f) else none):=by
 funext i;unfold fe aw
 induction l with
 | nil=>simp
 | cons p l ih=>
  obtain⟨j,r⟩:=p;simp only[List.lookup_cons,List.filterMap_cons];by_cases ph:i=j
  .subst ph;cases hk:k i
   .simp[hk]at ih ⊢;exact ih
   .simp
  .have hb:(i == j)=false:=by simpa using ph
   rw[hb];cases hk:k j
   .simpa using ih
   .simp only[if_true,List.lookup_cons,hb];exact ih
section
variable {P:Program} {Mv X:Nat->Prop} {G:aC} {N:Fr} {w w':World} {μ:Mu} {a:Act} {σ:St}
theorem qV {T:Ty} {ops:Array Oper} {la:List (Nat×Nat×Nat)} {av:List (Nat×List Nat)} {K:St->Prop} {i:Nat} {l:List Nat} {o:Oper} (ho:ops[i]? = some o) (h:∀ K':St->Prop,(∀ τ,qU P T Mv G N la av K (cU ops l) τ->K' τ)->RL P T Mv G N la av i o σ K'):qU P T Mv G N la av K (cU ops (i :: l)) σ:=by
 have:cU ops (i :: l)=(i,o) :: cU ops l:=by simp[cU,ho]
 rw[this];exact h _ fun _ h=>h
theorem sI {T:Ty} {ops:Array Oper} {la:List (Nat×Nat×Nat)} {av:List (Nat×List Nat)} {K:St->Prop} (h:K σ):qU P T Mv G N la av K (cU ops []) σ:=h
theorem aK.o7 (b j r ty sz:Nat) {e:Env} {H:Heap} {tb:TypeId} {cells:List AV} (hb:H b=some (.box tb cells)) (hr:H r=none) (hc:cells[j]? = some (.d (.sl (some false) []))) :
  aK Mv X G N ⟨e,H⟩ ⟨e,aX (aX H r (.sl ty sz [])) b (.box tb (cells.set j (.own r 0 0)))⟩:=fun w μ a hi=>by
 obtain⟨aS,ev⟩:=hi.alloc (Mv:=Mv) (w':=w) (m:=⟨none,sz,0⟩) hr (cR.refl w) ak (row:=.sl ty sz []) fun _=>.nil rfl rfl
 have ZF:b≠r:=fun h=>by subst h;rw[hr]at hb;cases hb
 refine⟨eB μ r ⟨none,sz,0⟩,⟨⟨fun q row hq=>?_,fun q m hm=>?_,aS.bu.inj,aS.bu.frame,aS.bu.fits⟩,aS.env,aS.jq⟩,ev⟩
 .by_cases BM:q=b
  .subst BM;simp only[aX,if_true,IT]at hq;subst hq;obtain⟨m,hm,ok⟩:=aS.bu.rows q (.box tb cells) (by simp[aX,ZF,hb]);refine⟨m,hm,?_⟩
   cases ok with
   | box bk hs lH hh hn im hx=>
    refine .box bk rfl lH hh (by simpa using hn) (hx:=by simpa using hx) fun i u c hu iN=>?_;rw[List.getElem?_set]at iN;split at iN
    .rename_i ph;subst ph;split at iN
     .obtain rfl:=AI iN;have h1:=im j u _ hu hc;refine .own (m:=⟨none,sz,0⟩) (by simp[eB]) (.inl ⟨rfl,?_,rfl,rfl⟩)
      rcases h1.data.qT with⟨rfl,_⟩ | ⟨_,_,_,hk,_⟩
      .rfl
      .exact absurd rfl hk
     .cases iN
    .exact im i u c hu iN
  .exact aS.bu.rows q row (by simpa[aX,BM]using hq)
 .by_cases BM:q=b
  .exact⟨.box tb (cells.set j (.own r 0 0)),by subst BM;simp[aX]⟩
  .obtain⟨row,dX⟩:=aS.bu.lD q m hm;exact⟨row,by simpa[aX,BM]using dX⟩
end
end Go.Av
namespace Go.Av
section
variable {P:Program} {T:Ty} {Mv X:Nat->Prop} {G:aC} {N:Fr} {σ:St}
def dM (r r' q:Nat):Nat:=if q=r then r' else q
def gR (r r' q off n:Nat):AV:=.own (dM r r' q) off n
def gQ (r r' q e j:Nat):AV:=.ref (dM r r' q) e j
def sD (r r':Nat) (μ:Mu):Mu:=fun q=>if q=r' then μ r else if q=r then none else μ q
def qR (r r':Nat) (H:Heap):Heap:=fun q=>(if q=r' then H r else if q=r then none else H q).map (Row.tr (gR r r') (gQ r r'))
theorem zV {r r' q:Nat} {m:jo} {μ:Mu} (h:sD r r' μ q=some m):∃ p,μ p=some m/\q=dM r r' p:=by
 unfold sD at h;split at h
 .rename_i e;exact⟨r,h,by simp[dM,e]⟩
 .split at h
  .cases h
  .rename_i e1 e2;exact⟨q,h,by simp[dM,e2]⟩
theorem Ke {r r' p:Nat} {m:jo} {μ:Mu} (h0:μ r'=none) (h:μ p=some m):sD r r' μ (dM r r' p)=some m:=by
 unfold sD dM;by_cases e:p=r
 .subst e;simp[h]
 .have e2:p≠r':=fun e2=>by rw[e2,h0]at h;cases h
  simp[e,e2,h]
theorem In.dM {w:World} {μ:Mu} {a:Act} {r r':Nat} (hi:In w X G μ N a σ) (hH:σ.H r'=none):In w X G (sD r r' μ) N a ⟨me (gR r r') (gQ r r') σ.env,qR r r' σ.H⟩:=by
 have h0:μ r'=none:=hi.bu.xP hH;have hX:∀ b,XX X (sD r r' μ) b->XX X μ b:=fun b hb=>hb.elim .inl fun ⟨q,m,hq,ld⟩=>let ⟨p,hp,_⟩:=zV hq;.inr ⟨p,m,hp,ld⟩;have tC:∀ {u:Value} {x:D},RD w (XX X μ) u x->RD w (XX X (sD r r' μ)) u x:=fun h=>h.mono (agD _) fun b _ hb=>⟨rfl,fun e=>hb (hX b e)⟩
 have Bb:∀ {u:Value} {x:AV},RV w X μ u x->RV w X (sD r r' μ) u (x.tr (gR r r') (gQ r r')):=fun h=>RV.tr hX (fun u q off n h=>by
  obtain⟨m,hm,hh⟩:=h.ma
  exact .own (Ke h0 hm) hh) (fun u q e j h=>by
  obtain⟨m,b,hm,hb,rfl⟩:=h.lu
  exact .ref (Ke h0 hm) hb) h
 refine⟨⟨fun q row hr=>?_,fun q m hr=>?_,fun q q' m1 m2 b h1 h2 eM gB=>?_,fun q mq b hq hb=>?_,hi.bu.fits⟩,
  ⟨hi.env.defers,hi.env.size,fun i x hx=>?_⟩,fun g x hx=>tC (hi.jq g x hx)⟩
 .obtain⟨oY,xh,rfl⟩:=AS.1 hr
  have:∃ p,σ.H p=some oY/\q=Go.Av.dM r r' p:=by
   split at xh
   .rename_i e;exact⟨r,xh,by simp[Go.Av.dM,e]⟩
   .split at xh
    .cases xh
    .rename_i e1 e2;exact⟨q,xh,by simp[Go.Av.dM,e2]⟩
  obtain⟨p,hp,rfl⟩:=this;obtain⟨m,hm,ok⟩:=hi.bu.rows p oY hp;refine⟨m,Ke h0 hm,?_⟩
  cases ok with
  | nil h1 h2=>exact .nil h1 h2
  | sl h1 h2 h3 h4 h5 h6 h7 h8 h9=>exact .sl h1 h2 h3 h4 h5 h6 h7 h8 fun i j el c he hc=>let ⟨u,hu,hr⟩:=h9 i j el c he hc;⟨u,hu,tC hr⟩
  | box h1 h2 h3 h4 h5 h6 h7=>
   refine .box h1 rfl h3 h4 (by simpa using h5) (fun j u c hu hc=>?_) (by simpa using h7);rw[agC]at hc;obtain⟨c',dZ,rfl⟩:=AS.1 hc;exact Bb (h6 j u c' hu dZ)
  | mp h1 h2 h3 h4=>exact .mp h1 h2 h3 fun i e p he hp=>let ⟨a,b,c⟩:=h4 i e p he hp;⟨a,b,tC c⟩
  | it h1 h2 h3=>exact .it h1 h2 (tC h3)
 .obtain⟨p,hp,rfl⟩:=zV hr;obtain⟨row,dX⟩:=hi.bu.lD p m hp;refine⟨row.tr (gR r r') (gQ r r'),?_⟩
  have bl:p≠r':=fun e=>by rw[e,h0]at hp;cases hp
  show qR r r' σ.H _=_;unfold qR Go.Av.dM;by_cases e:p=r
  .subst e;simp[dX]
  .simp[e,bl,dX]
 .obtain⟨p1,eb,rfl⟩:=zV h1;obtain⟨p2,fb,rfl⟩:=zV h2;rw[hi.bu.inj p1 p2 m1 m2 b eb fb eM gB]
 .obtain⟨p,hp,rfl⟩:=zV hq;exact hi.bu.frame p mq b hp hb
 .replace hx:me (gR r r') (gQ r r') σ.env i=some x:=hx;unfold me at hx;obtain⟨x0,yN,rfl⟩:=AS.1 hx;obtain⟨u,hu,hr⟩:=hi.env.slot i x0 yN;exact⟨u,hu,Bb hr⟩
theorem aK.dM {r r':Nat} (hm:Mv r) (hH:σ.H r'=none):aK Mv X G N σ ⟨me (gR r r') (gQ r r') σ.env,qR r r' σ.H⟩:=fun w μ a hi=>
 ⟨sD r r' μ,hi.dM hH,⟨agD _,rfl,rfl,rfl,fun b hb hr=>⟨rfl,fun ⟨q,m,hq,ld⟩=>let ⟨p,hp,_⟩:=zV hq;hr ⟨p,m,hp,ld⟩⟩,fun q m hq hn=>by
  have h1:q≠r:=fun e=>hn (e ▸ hm)
  have h2:q≠r':=fun e=>by rw[e,hi.bu.xP hH]at hq;cases hq
  simp only[sD,if_neg h1,if_neg h2]
  exact hq⟩⟩
end
end Go.Av
namespace Go.Av
def zA:Op->Bool
 | .load _ _=>true
 | .indexAddr _ _ _=>true
 | .slice _ _ _ _ _=>true
 | .store _ _ _=>true
 | .mapUpdate _ _ _ _=>true
 | _=>false
def r6 (r:Nat):AV->Prop
 | .ref q _ _=>q=r
 | .own q _ _=>q=r
 | .d _=>True
 | _=>False
def vy (G:aC) (e:Env) (o:Op) (r:Nat):Prop:=match o with
 | .load _ p=>match bF G e p with
  | some v=>r6 r v
  | none=>False
 | .indexAddr _ p _=>match bF G e p with
  | some v=>r6 r v
  | none=>False
 | .slice _ p _ _ _=>match bF G e p with
  | some v=>r6 r v
  | none=>False
 | .store _ p _=>match bF G e p with
  | some (.ref q _ _)=>q=r
  | _=>False
 | .mapUpdate _ p _ _=>match bF G e p with
  | some (.mp q)=>q=r
  | _=>False
 | _=>False
def qX (G:aC) (fp:List (Nat×Nat)) (e:Env) (i:Nat) (o:Op):Prop:=match fp.lookup i with
 | some r=>vy G e o r
 | none=>True
def yu (fp:List (Nat×Nat)) (ops:Array Oper) (i j:Nat) (oi oj:Oper):Bool:=kH ops oi oj || (oi.apart ops oj && zA oi.op && zA oj.op && match fp.lookup i,fp.lookup j with
 | some r,some r'=>!(r == r')
 | _,_=>false)
section
variable {P:Program} {T:Ty} {Mv X:Nat->Prop} {G:aC} {N:Fr} {ops:Array Oper} {fp:List (Nat×Nat)}
def mL (H:Heap) (r:Nat):Option Row->Heap
 | none=>H
 | some row=>aX H r row
theorem Fu {H:Heap} {r q:Nat} {u:Option Row} (h:q≠r):mL H r u q=H q:=by
 cases u with
 | none=>rfl
 | some row=>simp[mL,aX,h]
theorem Qr {H:Heap} {r q:Nat} {u v:Option Row} (h:r≠q):mL (mL H r u) q v=mL (mL H q v) r u:=by
 cases u<;>cases v<;>try rfl
 funext i;by_cases h1:i=r<;>by_cases h2:i=q<;>simp[mL,aX,h1,h2,h,ahD h]
theorem aba {H H2:Heap} {t:TypeId} {v:AV} {r:Nat} (hv:r6 r v) (h:H2 r=H r):n5 T H2 t v=n5 T H t v:=by
 cases v with
 | d x=>cases x<;>rfl
 | ref q ee j=>simp only[r6]at hv;subst hv;simp only[n5,h]
 | own q off n=>rfl
 | _=>exact hv.elim
theorem aaa {H H2:Heap} {t:TypeId} {v y:AV} {r:Nat} (hv:r6 r v) (h:H2 r=H r):qJ T H2 t v y=qJ T H t v y:=by
 cases v with
 | d x=>cases x<;>(cases y<;>first | rfl | (rename_i z;cases z<;>first | rfl | (rename_i z;cases z<;>rfl)))
 | ref q ee j=>cases y<;>first | rfl | (rename_i z;cases z<;>first | rfl | (rename_i z;cases z<;>rfl))
 | own q off n=>
  simp only[r6]at hv;subst hv
  cases y with
  | d z=>cases z with
   | v z=>cases z<;>first | rfl | simp only[qJ,h]
   | _=>rfl
  | _=>rfl
 | _=>exact hv.elim
theorem adO {H H2:Heap} {t:TypeId} {v:AV} {lo hi:Option Int} {r:Nat} (hv:r6 r v) (h:H2 r=H r):rN T H2 t v lo hi=rN T H t v lo hi:=by
 cases v with
 | d x=>cases x<;>first | rfl | (rename_i z;cases z<;>rfl)
 | ref q ee j=>rfl
 | own q off n=>simp only[r6]at hv;subst hv;simp only[rN,h]
 | _=>exact hv.elim
theorem Ex.FX {o:Oper} {e:Env} {H H':Heap} {x:AV} {r:Nat} (ht:vy G e o.op r) (h:Ex P T Mv G o e H x H') :
  ∃ u,H'=mL H r u/\∀ H2,H2 r=H r->Ex P T Mv G o e H2 x (mL H2 r u):=by
 obtain⟨dst,op,type,pos,after,guard⟩:=o;dsimp only at ht;cases op<;>simp only[vy]at ht
 case load t p=>
  split at ht
  .rename_i v hp;refine⟨none,?_,fun H2 h2=>?_⟩
   .unfold Ex at h;simp only[ey,gD,agE,if_false]at h;obtain⟨c,_,_,rfl⟩:=h;rfl
   .unfold Ex at h ⊢;simp only[ey,gD,agE,if_false]at h ⊢;obtain⟨c,h1,h3,rfl⟩:=h;refine⟨c,?_,h3,rfl⟩;simp only[rd,hp,aid]at h1 ⊢;rw[aba ht h2];exact h1
  .exact ht.elim
 case indexAddr t p y=>
  split at ht
  .rename_i v hp;refine⟨none,?_,fun H2 h2=>?_⟩
   .unfold Ex at h;simp only[ey,gD,agE,if_false]at h;obtain⟨c,_,_,rfl⟩:=h;rfl
   .unfold Ex at h ⊢;simp only[ey,gD,agE,if_false]at h ⊢;obtain⟨c,h1,h3,rfl⟩:=h;refine⟨c,?_,h3,rfl⟩;simp only[rd,hp]at h1 ⊢
    cases hy:bF G e y with
    | none=>simp[hy]at h1
    | some b=>simp only[hy]at h1 ⊢;rw[aaa ht h2];exact h1
  .exact ht.elim
 case slice t p lo hi mx=>
  split at ht
  .rename_i v hp;refine⟨none,?_,fun H2 h2=>?_⟩
   .unfold Ex at h;simp only[ey,gD,agE,if_false]at h;obtain⟨c,_,_,rfl⟩:=h;rfl
   .unfold Ex at h ⊢;simp only[ey,gD,agE,if_false]at h ⊢;obtain⟨c,h1,h3,rfl⟩:=h;refine⟨c,?_,h3,rfl⟩;simp only[rd,hp]at h1 ⊢;by_cases gZ:mx.isNone=true
    .rw[if_pos gZ]at h1 ⊢
     cases w8:bound G e lo with
     | none=>simp[w8]at h1
     | some l=>
      cases za:bound G e hi with
      | none=>simp[w8,za]at h1
      | some l2=>simp only[w8,za]at h1 ⊢;rw[adO ht h2];exact h1
    .rw[if_neg gZ]at h1;cases h1
  .exact ht.elim
 case store t p y=>
  split at ht
  .rename_i q ee j hp;subst ht;unfold Ex at h;simp only[ey,gD,if_true]at h;obtain⟨c,h1,h3⟩:=h
   cases dst with
   | some d=>simp[wr]at h1
   | none=>
    simp only[wr,hp]at h1
    cases hy:bF G e y with
    | none=>simp[hy]at h1
    | some v=>
     simp only[hy]at h1;split at h1
     .rename_i ty cells hr;split at h1
      .rename_i he;split at h1
       .rename_i c' uJ hs;simp only[IT,agA,St.mk.injEq,true_and]at h1;obtain⟨rfl,rfl,rfl⟩:=h1;refine⟨some (.box ty uJ),rfl,fun H2 h2=>?_⟩;unfold Ex;simp only[ey,gD,if_true];exact⟨_,by simp[wr,hp,hy,h2,hr,he,hs,mL],h3⟩
       .cases h1
      .cases h1
     .rename_i ty sz els hr;split at h1
      .rename_i c' oA hs;simp only[IT,agA,St.mk.injEq,true_and]at h1;obtain⟨rfl,rfl,rfl⟩:=h1;refine⟨some (.sl ty sz oA),rfl,fun H2 h2=>?_⟩;unfold Ex;simp only[ey,gD,if_true];exact⟨_,by simp[wr,hp,hy,h2,hr,hs,mL],h3⟩
      .cases h1
     .cases h1
     .cases h1
     .cases h1
  .exact ht.elim
 case mapUpdate t p y z=>
  split at ht
  .rename_i q hp;subst ht;unfold Ex at h;simp only[ey,gD,if_true]at h;obtain⟨c,h1,h3⟩:=h
   cases dst with
   | some d=>simp[wr]at h1
   | none=>
    simp only[wr,hp]at h1;split at h1
    .rename_i r' key dx e1 e2 e3;simp only[IT,AV.mp.injEq]at e1;subst e1;split at h1
     .rename_i ty ents hr;split at h1
      .rename_i c' mX hs;simp only[IT,agA,St.mk.injEq,true_and]at h1;obtain⟨rfl,rfl,rfl⟩:=h1;refine⟨some (.mp ty mX),rfl,fun H2 h2=>?_⟩;unfold Ex;simp only[ey,gD,if_true];exact⟨_,by simp[wr,hp,e2,e3,h2,hr,hs,mL],h3⟩
      .cases h1
     .cases h1
    .cases h1
  .exact ht.elim
theorem JV {o:Op} {e e':Env} {r:Nat} (ha:iA o e e') (h:vy G e o r):vy G e' o r:=by
 cases o<;>simp only[vy]at h ⊢<;>try exact h
 case load t p=>
  have:bF G e p=bF G e' p:=fm fun t ht=>ha t (by simp[Op.operands,ht]);rw[<- this];exact h
 case indexAddr t p y=>
  have:bF G e p=bF G e' p:=fm fun t ht=>ha t (by simp[Op.operands,ht]);rw[<- this];exact h
 case slice t p lo hi mx=>
  have:bF G e p=bF G e' p:=fm fun t ht=>ha t (by simp[Op.operands,ht]);rw[<- this];exact h
 case store t p y=>
  have:bF G e p=bF G e' p:=fm fun t ht=>ha t (by simp[Op.operands,ht]);rw[<- this];exact h
 case mapUpdate t p y z=>
  have:bF G e p=bF G e' p:=fm fun t ht=>ha t (by simp[Op.operands,ht]);rw[<- this];exact h
theorem FY {o:Op} {e e':Env} {i:Nat} (ha:iA o e e') (h:qX G fp e i o):qX G fp e' i o:=by
 unfold qX at h ⊢;split
 .rename_i r hr;simp only[hr]at h;exact JV ha h
 .trivial
def GStep (P:Program) (T:Ty) (Mv:Nat->Prop) (G:aC) (N:Fr) (ops:Array Oper) (fp:List (Nat×Nat)) (i:Nat) (o:Oper) (σ aJ:St):Prop:=zY P T Mv G N ops o σ aJ/\(jM ops σ.env o=some true->qX G fp σ.env i o.op)
theorem VN {x y:Oper} (h:kH ops x y=true):kindOf x.op≠9/\kindOf y.op≠9:=by
 simp only[kH,abi]at h;obtain⟨_,h⟩:=h;refine⟨fun e=>by rw[e]at h;simp[uo]at h,fun e=>?_⟩;rw[e]at h
 revert h
 rcases kinds x.op with k | k | k | k | k | k<;>rw[k]<;>simp[uo]
theorem OR {o:Op} (h:zA o=true):kindOf o≠9:=by
 unfold zA at h;split at h
 .have:=Jn ‹_›;simp only[kindOf];omega
 .simp[kindOf]
 .simp[kindOf]
 .simp[kindOf]
 .simp[kindOf]
 .cases h
theorem Xb {i j:Nat} {oi oj:Oper} (hc:yu fp ops i j oi oj=true) {σ bh iy:St} (h1:GStep P T Mv G N ops fp i oi σ bh) (h2:GStep P T Mv G N ops fp j oj bh iy) :
  ∃ j1,GStep P T Mv G N ops fp j oj σ j1/\GStep P T Mv G N ops fp i oi j1 iy:=by
 have hk:kindOf oi.op≠9/\kindOf oj.op≠9:=by
  simp only[yu,ag9,abi]at hc
  rcases hc with hc | ⟨⟨⟨_,h3⟩,h4⟩,_⟩
  .exact VN hc
  .exact⟨OR h3,OR h4⟩
 obtain⟨wZ,u4⟩:=hk;obtain⟨s1,t1⟩:=h1;obtain⟨s2,t2⟩:=h2;obtain⟨x,H1,CU,rfl⟩:=(vH wZ).1 s1;obtain⟨y,H2,x5,rfl⟩:=(vH u4).1 s2;obtain⟨e,H⟩:=σ;dsimp only at s1 s2 CU x5 t1 t2 ⊢
 have gL:oi.apart ops oj=true:=by
  simp only[yu,kH,ag9,abi]at hc
  rcases hc with hc | hc
  .exact hc.1
  .exact hc.1.1.1
 obtain⟨a1,_,bl⟩:=kD gL (e:=e) (v:=x);obtain⟨_,a2,_⟩:=kD gL (e:=e) (v:=y);have wj:=F2 (o:=oj) (e:=aR e oi.dst x) (e':=e) a1;have wi:=F2 (o:=oi) (e:=aR e oj.dst y) (e':=e) a2;have fV:iA oj.op (aR e oi.dst x) e:=fun t ht=>a1 t (lP ht);have gJ:iA oi.op e (aR e oj.dst y):=fun t ht=>(a2 t (lP ht)).symm
 have main:∃ H3,Sx P T Mv G N ops oj e H y H3/\Sx P T Mv G N ops oi (aR e oj.dst y) H3 x H2:=by
  simp only[yu,ag9,abi]at hc
  rcases hc with hc | ⟨_,wU⟩
  .exact yq hc CU x5 wZ u4
  .cases b8:fp.lookup i with
   | none=>simp[b8]at wU
   | some r=>
    cases wT:fp.lookup j with
    | none=>simp[b8,wT]at wU
    | some r'=>
     have hr:r≠r':=by simpa[b8,wT]using wU
     obtain⟨di,CU⟩:=CU;obtain⟨dj,x5⟩:=x5;rw[wj]at x5
     rcases CU with⟨w1,e1⟩ | ⟨w1,rfl,rfl⟩
     .have t1:=t1 w1;simp only[qX,b8]at t1;obtain⟨u,rfl,Jo⟩:=e1.FX t1
      rcases x5 with⟨w2,e2⟩ | ⟨w2,rfl,rfl⟩
      .have t2:=t2 (by rw[wj];exact w2);simp only[qX,wT]at t2;have e2:=e2.congr u4 fV;obtain⟨u',rfl,Jp⟩:=e2.FX (JV fV t2);refine⟨mL H r' u',⟨dj,.inl ⟨w2,Jp H (Fu (ahD hr)).symm⟩⟩,⟨di,.inl ⟨by rw[wi];exact w1,?_⟩⟩⟩;rw[Qr hr];exact (Jo _ (Fu hr)).congr wZ gJ
      .exact⟨H,⟨dj,.inr ⟨w2,rfl,rfl⟩⟩,⟨di,.inl ⟨by rw[wi];exact w1,e1.congr wZ gJ⟩⟩⟩
     .rcases x5 with⟨w2,e2⟩ | ⟨w2,rfl,rfl⟩
      .exact⟨H2,⟨dj,.inl ⟨w2,e2.congr u4 fV⟩⟩,⟨di,.inr ⟨by rw[wi];exact w1,rfl,rfl⟩⟩⟩
      .exact⟨_,⟨dj,.inr ⟨w2,rfl,rfl⟩⟩,⟨di,.inr ⟨by rw[wi];exact w1,rfl,rfl⟩⟩⟩
 obtain⟨H3,f1,f2⟩:=main;refine⟨⟨aR e oj.dst y,H3⟩,⟨(vH u4).2 ⟨y,H3,f1,rfl⟩,fun hw=>?_⟩,⟨(vH wZ).2 ⟨x,H2,f2,by rw[iI bl]⟩,fun hw=>?_⟩⟩
 .exact FY fV (t2 (by rw[wj];exact hw))
 .exact FY gJ (t1 (by rw[<- wi];exact hw))
def Q6 (P:Program) (T:Ty) (Mv:Nat->Prop) (G:aC) (N:Fr) (ops:Array Oper) (fp:List (Nat×Nat)):List Nat->St->St->Prop:=iJ (GStep P T Mv G N ops fp) ops
def JS (fp:List (Nat×Nat)) (ops:Array Oper):Bool:=qP (yu fp ops) (List.range ops.size) ops
def stepG (P:Program) (T:Ty) (Mv:Nat->Prop) (G:aC) (N:Fr) (ops:Array Oper) (fp:List (Nat×Nat)) (i:Nat) (o:Oper) (σ:St) (K:St->Prop):Prop:=gP N o/\match jM ops σ.env o with
 | some b=>if b=true then qX G fp σ.env i o.op/\(match ey o.op with
  | some c=>kG P G c σ o.dst K
  | none=>qh T G Mv o σ K) else K ⟨aR σ.env o.dst dN,σ.H⟩
 | none=>False
def sH (P:Program) (T:Ty) (Mv:Nat->Prop) (G:aC) (N:Fr) (ops:Array Oper) (fp:List (Nat×Nat)) (K:St->Prop):Nat->List Oper->St->Prop
 | _,[],σ=>K σ
 | i,o :: rest,σ=>stepG P T Mv G N ops fp i o σ (sH P T Mv G N ops fp K (i+1) rest)
theorem jm {K:St->Prop} {i:Nat} {o:Oper} {rest:List Oper} {σ:St} (h:∀ K':St->Prop,(∀ τ,sH P T Mv G N ops fp K (i+1) rest τ->K' τ)->stepG P T Mv G N ops fp i o σ K'):sH P T Mv G N ops fp K i (o :: rest) σ:=h _ fun _ h=>h
theorem ky {K:St->Prop} {i:Nat} {σ:St} (h:K σ):sH P T Mv G N ops fp K i [] σ:=h
theorem aec {K:St->Prop}:∀ (l:List Oper) (k:Nat) (σ:St),(∀ j,l[j]? = ops[k+j]?)->sH P T Mv G N ops fp K k l σ->∃ cJ,K cJ/\Q6 P T Mv G N ops fp (List.range' k l.length) σ cJ:=by
 intro l
 induction l with
 | nil=>intro k σ _ h;exact⟨σ,h,rfl⟩
 | cons o l ih=>
  intro k σ hl h
  have h0:ops[k]? = some o:=by simpa using (hl 0).symm
  have gr:∀ j,l[j]? = ops[k+1+j]?:=fun j=>by have:=hl (j+1);simpa[ahs,ah9 1 j]using this
  unfold sH stepG at h;obtain⟨hd,h⟩:=h;rw[agS,List.range'_succ]
  have fin:∀ bh,GStep P T Mv G N ops fp k o σ bh->sH P T Mv G N ops fp K (k+1) l bh->∃ cJ,K cJ/\Q6 P T Mv G N ops fp (k :: List.range' (k+1) l.length) σ cJ:=by
   intro bh hs hq;obtain⟨cJ,hk,hr⟩:=ih (k+1) bh gr hq;exact⟨cJ,hk,o,h0,bh,hs,hr⟩
  split at h
  .rename_i b hb;split at h
   .rename_i tH;subst tH;obtain⟨ht,h⟩:=h;split at h
    .rename_i c hc;obtain⟨y,hy,h⟩:=h;refine fin _ ⟨⟨hd,.inl ⟨hb,?_⟩⟩,fun _=>ht⟩ h;unfold oC;simp only[hc];exact⟨y,hy,rfl⟩
    .rename_i hc;unfold qh at h;split at h
     .rename_i hw;split at h
      .rename_i c x bh h1;obtain⟨cG,h⟩:=h;refine fin _ ⟨⟨hd,.inl ⟨hb,?_⟩⟩,fun _=>ht⟩ h;unfold oC;simp only[hc];rw[if_pos hw];exact⟨c,x,bh,h1,cG,rfl⟩
      .exact h.elim
     .rename_i hw;split at h
      .rename_i c x h1;obtain⟨cG,h⟩:=h;refine fin _ ⟨⟨hd,.inl ⟨hb,?_⟩⟩,fun _=>ht⟩ h;unfold oC;simp only[hc];rw[if_neg hw];exact⟨c,x,h1,cG,rfl⟩
      .exact h.elim
   .rename_i tH
    have:b=false:=by simpa using tH
    subst this;refine fin _ ⟨⟨hd,.inr ⟨hb,rfl⟩⟩,fun hw=>by rw[hb]at hw;cases hw⟩ h
  .exact h.elim
theorem Lk (hg:Good P T) (hm:P.follows .mixedOrders=true) (fp:List (Nat×Nat)) {id:Nat} (cz:JS fp ops=true) {Q:Exit->St->Prop} {σ:St} (h:sH P T Mv G N ops fp (fun aJ=>Q .normal aJ) 0 ops.toList σ):AW P Mv X G N (.region id ops true) Q σ:=ye (Step:=GStep P T Mv G N ops fp) (cp:=yu fp ops) hm (fun i o ho σ aJ h w μ a hi _ _ hk=>zZ hg h.1 hi ho hk) (fun i j oi oj _ _ hc σ bh iy h1 h2=>Xb hc h1 h2) _ cz fun _=>by
 have:=aec ops.toList 0 σ ak h
 rwa [<- List.range_eq_range',ahk]at this
theorem o4 (hg:Good P T) (hm:P.follows .mixedOrders=true) (fp:List (Nat×Nat)) (l ns:List Nat) (hM:∀ r,ns.contains r=false->Mv r) {id:Nat} (cz:JS fp ops=true) {y:Code} {Q:Exit->St->Prop} {σ:St}
  (h:∀ K:St->Prop,(∀ τ:St,AW P Mv X G N y Q (τ.norm l ns)->K τ)->sH P T Mv G N ops fp K 0 ops.toList σ):AW P Mv X G N (.seq (.region id ops true) y) Q σ:=
 sN (Lk hg hm fp cz (h _ fun _ h=>h.norm l ns hM))
theorem rO (hg:Good P T) (hm:P.follows .mixedOrders=true) (fp:List (Nat×Nat)) {id:Nat} (cz:JS fp ops=true) {Q:Exit->St->Prop} {σ:St}
  (h:∀ K:St->Prop,(∀ τ:St,Q .normal τ->K τ)->sH P T Mv G N ops fp K 0 ops.toList σ):AW P Mv X G N (.region id ops true) Q σ:=Lk hg hm fp cz (h _ fun _ h=>h)
end
end Go.Av
namespace Go.Av
def jh (fx:List Nat) (r:Nat):Prop:=fx.contains r=false
instance (fx:List Nat) (r:Nat):Decidable (jh fx r):=inferInstanceAs (Decidable (_=_))
theorem eh {fx ns:List Nat} (h:fx.all ns.contains=true):∀ r,ns.contains r=false->jh fx r:=fun r hr=>by
 unfold jh
 cases hc:fx.contains r with
 | false=>rfl
 | true=>
  have:=ahl.1 h r (aha.1 hc);rw[this]at hr;cases hr
def MC (P:Program) (G:aC) (fx:List Nat) (g:FuncId) (xs:List AV) (H:Heap) (y:AV) (H2:Heap):Prop:=gS P g/\∀ X,Lg P (jh fx) X G g xs H fun x H'=>x=y/\H'=H2
def nz (dv fx:List Nat) (q off n:Nat):AV:=if dv.contains q && !fx.contains q then .dead else .own q off n
def ny (dv fx:List Nat) (q e j:Nat):AV:=if dv.contains q && !fx.contains q then .dead else .ref q e j
def fP (dv:List Nat) (q:Nat):Bool:=!dv.contains q
def nQ (H2 H:Heap):Heap:=fun q=>match H2 q with
 | some row=>some row
 | none=>H q
theorem YY (l2 l:List (Nat×Row)):nQ (aw l2) (aw l)=aw (l2 ++ l):=by
 funext q
 induction l2 with
 | nil=>rfl
 | cons p l2 ih=>
  unfold nQ at ih ⊢;simp only[aw,ahR,List.lookup]at ih ⊢;cases h:(q == p.1)<;>simp only[h]at ih ⊢;exact ih
section
variable {P:Program} {T:Ty} {Mv X:Nat->Prop} {G:aC} {N:Fr} {w:World} {μ:Mu} {a:Act} {σ:St}
theorem RV.x7 {w':World} {X':Nat->Prop} {aH:Mu} {o f:Nat->Nat->Nat->AV} (hD:∀ u d,RD w (XX X μ) u d->RD w' (XX X' aH) u d) (ho:∀ u r off n,RV w X μ u (.own r off n)->RV w' X' aH u (o r off n)) (hf:∀ u r e j,RV w X μ u (.ref r e j)->RV w' X' aH u (f r e j)) :
  ∀ {v:Value} {x:AV},RV w X μ v x->RV w' X' aH v (x.tr o f):=by
 intro v x hr
 induction hr with
 | d h'=>exact .d (hD _ _ h')
 | own hm h'=>exact ho _ _ _ _ (.own hm h')
 | ref hm hb=>exact hf _ _ _ _ (.ref hm hb)
 | agg hn _ ih=>
  rw[AV.tr,AV.z8];refine Cd (.agg (by simpa using hn) fun j u c hu hc=>?_);rw[agC]at hc;obtain⟨c',dZ,rfl⟩:=AS.1 hc;exact ih j u c' hu dZ
 | bx hn _ ih=>
  rw[AV.tr,AV.z8];refine E8 (.bx (by simpa using hn) fun j u c hu hc=>?_);rw[agC]at hc;obtain⟨c',dZ,rfl⟩:=AS.1 hc;exact ih j u c' hu dZ
 | bZ _ ih=>exact JA ih
 | bm _ ih=>exact .bm ih
 | fn hn _ ih=>
  rw[AV.tr,AV.z8];refine Jz (by simpa using hn) fun j u c hu hc=>?_;rw[agC]at hc;obtain⟨c',dZ,rfl⟩:=AS.1 hc;exact ih j u c' hu dZ
 | mp hm hb=>
  rename_i r b m;have h0:=hf _ _ _ _ (RV.ref (e:=0) (j:=0) hm hb);unfold AV.tr;split
  .rename_i q' e' j' hq;rw[hq]at h0;obtain⟨m',b',cH,bk,e⟩:=h0.lu;simp only[Value.pointer.injEq,IT,Addr.mk.injEq]at e;obtain⟨rfl,_⟩:=e;exact .mp cH bk
  .exact .dead _
 | dead u=>exact .dead u
theorem RV.lift {w':World} {X':Nat->Prop} {aH:Mu} (hD:∀ u d,RD w (XX X μ) u d->RD w' (XX X' aH) u d) (gb:∀ q m,μ q=some m->aH q=some m):∀ {v:Value} {x:AV},RV w X μ v x->RV w' X' aH v x:=by
 intro v x hr
 induction hr with
 | d h'=>exact .d (hD _ _ h')
 | own hm h'=>exact .own (gb _ _ hm) h'
 | ref hm hb=>exact .ref (gb _ _ hm) hb
 | agg hn _ ih=>exact .agg hn ih
 | bx hn _ ih=>exact .bx hn ih
 | bZ _ ih=>exact .bZ ih
 | bm _ ih=>exact .bm ih
 | fn hn _ ih=>exact .fn hn ih
 | mp hm hb=>exact .mp (gb _ _ hm) hb
 | dead u=>exact .dead u
theorem j6.x7 {w':World} {X':Nat->Prop} {aH:Mu} {o f:Nat->Nat->Nat->AV} {m:jo} (hb:∀ b,m.fo=some b->w'.heap[b]? = w.heap[b]?) (hD:∀ u d,RD w (XX X μ) u d->RD w' (XX X' aH) u d) (hV:∀ u x,RV w X μ u x->RV w' X' aH u (x.tr o f)) {row:Row} (ok:j6 w X μ m row):j6 w' X' aH m (row.tr o f):=by
 cases ok with
 | nil h1 h2=>exact .nil h1 h2
 | sl h1 h2 h3 h4 h5 h6 h7 h8 h9=>exact .sl h1 h2 ((hb _ h1).trans h3) h4 h5 h6 h7 h8 fun i j el c he hc=>let ⟨u,hu,hr⟩:=h9 i j el c he hc;⟨u,hu,hD _ _ hr⟩
 | box h1 h2 h3 h4 h5 h6 h7=>
  refine .box h1 rfl h3 ((hb _ h1).trans h4) (by simpa using h5) (hx:=by simpa using h7) fun j u c hu hc=>?_;rw[agC]at hc;obtain⟨c',dZ,rfl⟩:=AS.1 hc;exact hV _ _ (h6 j u c' hu dZ)
 | mp h1 h2 h3 h4=>exact .mp h1 ((hb _ h1).trans h2) h3 fun i e p he hp=>let ⟨a,b,c⟩:=h4 i e p he hp;⟨a,b,hD _ _ c⟩
 | it h1 h2 h3=>exact .it h1 ((hb _ h1).trans h2) (hD _ _ h3)
theorem j6.lift {w':World} {X':Nat->Prop} {aH:Mu} {m:jo} (hb:∀ b,m.fo=some b->w'.heap[b]? = w.heap[b]?) (hD:∀ u d,RD w (XX X μ) u d->RD w' (XX X' aH) u d) (gb:∀ q m,μ q=some m->aH q=some m) {row:Row} (ok:j6 w X μ m row):j6 w' X' aH m row:=by
 cases ok with
 | nil h1 h2=>exact .nil h1 h2
 | sl h1 h2 h3 h4 h5 h6 h7 h8 h9=>exact .sl h1 h2 ((hb _ h1).trans h3) h4 h5 h6 h7 h8 fun i j el c he hc=>let ⟨u,hu,hr⟩:=h9 i j el c he hc;⟨u,hu,hD _ _ hr⟩
 | box h1 h2 h3 h4 h5 h6 h7=>exact .box h1 rfl h3 ((hb _ h1).trans h4) h5 (fun j u c hu hc=>(h6 j u c hu hc).lift hD gb) h7
 | mp h1 h2 h3 h4=>exact .mp h1 ((hb _ h1).trans h2) h3 fun i e p he hp=>let ⟨a,b,c⟩:=h4 i e p he hp;⟨a,b,hD _ _ c⟩
 | it h1 h2 h3=>exact .it h1 ((hb _ h1).trans h2) (hD _ _ h3)
theorem sC {keep:Nat->Bool} {b:Nat} (h:jj (cA keep μ) b):jj μ b:=let ⟨r,m,hr,hb⟩:=h;⟨r,m,(kh hr).2,hb⟩
theorem Gk {dv:List Nat} {b:Nat}:XX (XX X (cA (fP dv) μ)) (cA dv.contains μ) b↔XX X μ b:=by
 constructor
 .rintro ((h | h) | h)
  .exact .inl h
  .exact .inr (sC h)
  .exact .inr (sC h)
 .rintro (h | ⟨r,m,hr,hb⟩)
  .exact .inl (.inl h)
  .cases hk:dv.contains r with
   | true=>exact .inr ⟨r,m,by simp only[cA,hk,if_true];exact hr,hb⟩
   | false=>exact .inl (.inr ⟨r,m,by simp only[cA,fP,hk,ahw,if_true];exact hr,hb⟩)
theorem eF.part {H:Heap} (hs:eF w X μ H) (dv:List Nat):eF w (XX X (cA (fP dv) μ)) (cA dv.contains μ) (fe dv.contains (fF dv) (fE dv) H)/\
  ∀ {u:Value} {x:AV},RV w X μ u x->RV w (XX X (cA (fP dv) μ)) (cA dv.contains μ) u (x.tr (fF dv) (fE dv)):=by
 have hD:∀ u d,RD w (XX X μ) u d->RD w (XX (XX X (cA (fP dv) μ)) (cA dv.contains μ)) u d:=fun u d h=>h.sub fun b=>Gk.1
 have hV:∀ u x,RV w X μ u x->RV w (XX X (cA (fP dv) μ)) (cA dv.contains μ) u (x.tr (fF dv) (fE dv)):=fun u x=>RV.x7 hD (fun u r off n h=>by
   unfold fF;split
   .rename_i hk;obtain⟨m,hm,hh⟩:=h.ma;exact .own (by simp only[cA,hk,if_true];exact hm) hh
   .exact .dead u) (fun u r e j h=>by
   unfold fE;split
   .rename_i hk;obtain⟨m,b,hm,hb,rfl⟩:=h.lu;exact .ref (by simp only[cA,hk,if_true];exact hm) hb
   .exact .dead u)
 refine⟨⟨fun r row hr=>?_,fun r m hr=>?_,fun q q' m1 m2 b h1 h2 eM gB=>hs.inj q q' m1 m2 b (kh h1).2 (kh h2).2 eM gB,fun q m b hq hb hX=>?_,fun b hb=>hb.elim (hs.fits b) fun h=>hs.mg (sC h)⟩,fun h=>hV _ _ h⟩
 .unfold fe at hr;split at hr
  .rename_i hk;obtain⟨oY,h0,rfl⟩:=AS.1 hr;obtain⟨m,hm,ok⟩:=hs.rows r oY h0;exact⟨m,by simp only[cA,hk,if_true];exact hm,ok.x7 (fun _ _=>rfl) hD hV⟩
  .cases hr
 .obtain⟨hk,hm⟩:=kh hr;obtain⟨row,dX⟩:=hs.lD r m hm;exact⟨row.tr (fF dv) (fE dv),by simp only[fe,hk,if_true,dX,ag1]⟩
 .obtain⟨hk,hm⟩:=kh hq
  rcases hX with h | ⟨r,mr,hr,Hx⟩
  .exact hs.frame q m b hm hb h
  .obtain⟨gh,zg⟩:=kh hr;have:=hs.inj q r m mr b hm zg hb Hx;subst this;simp only[fP,hk,Bool.not_true,agE]at gh
theorem lU.Pd {fx dv:List Nat} {g:FuncId} {pN xs:List AV} {H1 H2:Heap} {y:AV} (hc:MC P G fx g xs H1 y H2) (hx:pN.map (AV.tr (fF dv) (fE dv))=xs) (hH:fe dv.contains (fF dv) (fE dv) σ.H=H1)
  (hd:∀ q,(H2 q).isSome=true->dv.contains q=true\/σ.H q=none) (hm:∀ r,dv.contains r=true->fx.contains r=false->Mv r) {K:AV->St->Prop}
  (h:K y ⟨me (nz dv fx) (ny dv fx) σ.env,nQ H2 (fe (fP dv) (nz dv fx) (ny dv fx) σ.H)⟩):lU P Mv X G N g pN σ K:=by
 refine⟨hc.1,fun w μ a vs hi hn hv=>?_⟩;obtain⟨dG,iS⟩:=hi.bu.part dv;rw[hH]at dG;refine (hc.2 (XX X (cA (fP dv) μ)) w (cA dv.contains μ) vs dG (fun g x hx=>(hi.jq g x hx).sub fun b=>Gk.1) (by rw[hn,<- hx,ag5]) fun i u x hu qa=>?_).mono ?_
 .rw[<- hx,agC]at qa;obtain⟨x0,zv,rfl⟩:=AS.1 qa;exact iS (hv i u x0 hu zv)
 .rintro e w' ⟨v,x,H',jG,rfl,⟨rfl,rfl⟩,hr,dW,bp⟩
  have Yu:∀ q m,jG q=some m->dv.contains q=true\/μ q=none:=fun q m hq=>by
   obtain⟨row,dX⟩:=dW.lD q m hq
   rcases hd q (by rw[dX];rfl)with h | h
   .exact .inl h
   .exact .inr (hi.bu.xP h)
  let aH:Mu:=fun q=>match jG q with
   | some m=>some m
   | none=>cA (fP dv) μ q
  have m2:∀ q m,jG q=some m->aH q=some m:=fun q m hq=>by simp only[aH,hq]
  have mr:∀ q m,dv.contains q=false->μ q=some m->aH q=some m:=fun q m hk hq=>by
   have h2:jG q=none:=by
    cases h2:jG q with
    | none=>rfl
    | some m'=>
     rcases Yu q m' h2 with h | h
     .rw[hk]at h;cases h
     .rw[hq]at h;cases h
   simp only[aH,h2,cA,fP,hk,ahw,if_true,hq]
  have of:∀ q m,aH q=some m->jG q=some m\/(jG q=none/\dv.contains q=false/\μ q=some m):=fun q m hq=>by
   cases h2:jG q with
   | some m'=>simp only[aH,h2]at hq;exact .inl hq
   | none=>
    simp only[aH,h2]at hq;obtain⟨hk,hm⟩:=kh hq;exact .inr ⟨rfl,by simpa[fP]using hk,hm⟩
  have same:∀ b,b < w.heap.size->¬ jj (cA dv.contains μ) b->w'.heap[b]? = w.heap[b]?/\¬ jj jG b:=bp.same
  have y3:∀ b,XX X aH b->XX (XX X (cA (fP dv) μ)) jG b:=fun b hb=>by
   rcases hb with hb | ⟨q,m,hq,ld⟩
   .exact .inl (.inl hb)
   .rcases of q m hq with h2 | ⟨_,hk,hm⟩
    .exact .inr ⟨q,m,h2,ld⟩
    .exact .inl (.inr ⟨q,m,by simp only[cA,fP,hk,ahw,if_true];exact hm,ld⟩)
  have hD:∀ u d,RD w (XX X μ) u d->RD w' (XX X aH) u d:=fun u d h=>h.mono bp.size fun b hb hX=>by
   obtain⟨h1,h2⟩:=same b hb fun hr=>hX (.inr (sC hr));refine⟨h1,fun XU=>?_⟩
   rcases XU with h | ⟨q,m,hq,ld⟩
   .exact hX (.inl h)
   .rcases of q m hq with h3 | ⟨_,_,hm⟩
    .exact h2 ⟨q,m,h3,ld⟩
    .exact hX (.inr ⟨q,m,hm,ld⟩)
  have MT:∀ u d,RD w' (XX (XX X (cA (fP dv) μ)) jG) u d->RD w' (XX X aH) u d:=fun u d h=>h.sub y3
  have stay:∀ q m,(dv.contains q && !fx.contains q)=false->μ q=some m->aH q=some m:=fun q m hk hq=>by
   cases hl:dv.contains q with
   | false=>exact mr q m hl hq
   | true=>
    rw[hl,Bool.true_and]at hk
    have hfx:fx.contains q=true:=by simpa using hk
    exact m2 q m (bp.kept q m (by simp only[cA,hl,if_true];exact hq) (by unfold jh;rw[hfx];simp))
  have hV:∀ u x,RV w X μ u x->RV w' X aH u (x.tr (nz dv fx) (ny dv fx)):=fun u x=>RV.x7 hD (fun u r off n h=>by
    unfold nz;split
    .exact .dead u
    .rename_i hk;obtain⟨m,hm,hh⟩:=h.ma
     exact .own (stay r m (by simpa using hk) hm) hh) (fun u r e j h=>by
    unfold ny;split
    .exact .dead u
    .rename_i hk;obtain⟨m,b,hm,hb,rfl⟩:=h.lu
     exact .ref (stay r m (by simpa using hk) hm) hb)
  refine⟨v,x,_,aH,rfl,h,⟨⟨fun q row hq=>?_,fun q m hq=>?_,fun q q' m1 mm b h1 h2 eM gB=>?_,fun q m b hq hb=>?_,fun b hb=>ag2 (hi.bu.fits b hb) bp.size⟩,⟨hi.env.defers,hi.env.size,fun i x hx=>?_⟩,fun g x hx=>hD _ _ (hi.jq g x hx)⟩,hr.lift MT m2,bp.size,bp.os,bp.tape,bp.output,fun b hb tX=>?_,fun r m hr hn=>?_⟩
  .simp only[nQ]at hq;split at hq
   .rename_i xY h2;obtain rfl:=AI hq;obtain⟨m,hm,ok⟩:=dW.rows q xY h2;exact⟨m,m2 q m hm,ok.lift (fun _ _=>rfl) MT m2⟩
   .unfold fe at hq;split at hq
    .rename_i hk
     have gh:dv.contains q=false:=by simpa[fP]using hk
     obtain⟨oY,h0,rfl⟩:=AS.1 hq;obtain⟨m,hm,ok⟩:=hi.bu.rows q oY h0;refine⟨m,mr q m gh hm,ok.x7 (fun b hb=>(same b (ok.mg hb) fun ⟨r,mr',nU,Hx⟩=>?_).1) hD hV⟩;obtain⟨u5,zg⟩:=kh nU;have:=hi.bu.inj q r m mr' b hm zg hb Hx;subst this;rw[gh]at u5;cases u5
    .cases hq
  .simp only[nQ]
   rcases of q m hq with h2 | ⟨h2,hk,hm⟩
   .obtain⟨row,dX⟩:=dW.lD q m h2;exact⟨row,by rw[dX]⟩
   .have BH:H' q=none:=by
     cases hh:H' q with
     | none=>rfl
     | some row=>obtain⟨m',cH,_⟩:=dW.rows q row hh;rw[h2]at cH;cases cH
    obtain⟨row,dX⟩:=hi.bu.lD q m hm;exact⟨row.tr (nz dv fx) (ny dv fx),by rw[BH];simp only[fe,fP,hk,ahw,if_true,dX,ag1]⟩
  .rcases of q m1 h1 with g1 | ⟨_,k1,g1⟩<;>rcases of q' mm h2 with g2 | ⟨_,k2,g2⟩
   .exact dW.inj q q' m1 mm b g1 g2 eM gB
   .exact absurd (.inr ⟨q',mm,by simp only[cA,fP,k2,ahw,if_true];exact g2,gB⟩) (dW.frame q m1 b g1 eM)
   .exact absurd (.inr ⟨q,m1,by simp only[cA,fP,k1,ahw,if_true];exact g1,eM⟩) (dW.frame q' mm b g2 gB)
   .exact hi.bu.inj q q' m1 mm b g1 g2 eM gB
  .rcases of q m hq with g1 | ⟨_,k1,g1⟩
   .exact fun hX=>dW.frame q m b g1 hb (.inl hX)
   .exact hi.bu.frame q m b g1 hb
  .replace hx:me (nz dv fx) (ny dv fx) σ.env i=some x:=hx;unfold me at hx;obtain⟨x0,h0,rfl⟩:=AS.1 hx;obtain⟨u,hu,hr⟩:=hi.env.slot i x0 h0;exact⟨u,hu,hV _ _ hr⟩
  .obtain⟨h1,h2⟩:=same b hb fun hr=>tX (sC hr);refine⟨h1,fun ⟨q,m,hq,ld⟩=>?_⟩
   rcases of q m hq with h3 | ⟨_,_,hm⟩
   .exact h2 ⟨q,m,h3,ld⟩
   .exact tX ⟨q,m,hm,ld⟩
  .cases hl:dv.contains r with
   | false=>exact mr r m hl hr
   | true=>
    cases hf:fx.contains r with
    | false=>exact absurd (hm r hl hf) hn
    | true=>exact stay r m (by rw[hl,hf];rfl) hr
theorem dT.mc {fx:List Nat} {g:FuncId} {pN xs:List AV} {cq fR:List (Nat×Row)} {y:AV} {dst:Option Tmp} {next:St->Prop} (hc:MC P G fx g xs (aw cq) y (aw fR)) (hx:pN.map (AV.tr (fF (cq.map (·.1))) (fE (cq.map (·.1))))=xs)
  (hH:∀ p∈cq,(σ.H p.1).map (Row.tr (fF (cq.map (·.1))) (fE (cq.map (·.1))))=aw cq p.1) (hd:∀ p∈fR,(cq.map (·.1)).contains p.1=true\/σ.H p.1=none) (hm:∀ r∈cq.map (·.1),fx.contains r=false->Mv r)
  (h:next ⟨aR (me (nz (cq.map (·.1)) fx) (ny (cq.map (·.1)) fx) σ.env) dst y,nQ (aw fR) (fe (fP (cq.map (·.1))) (nz (cq.map (·.1)) fx) (ny (cq.map (·.1)) fx) σ.H)⟩):dT P Mv X G N g pN σ dst next:=by
 refine lU.Pd hc hx (funext (FH hH)).symm (fun q hq=>?_) (fun r hr=>hm r (aha.1 hr)) h
 have ng:∀ l:List (Nat×Row),(aw l q).isSome=true->∃ p∈l,p.1=q:=by
  intro l
  induction l with
  | nil=>intro h;simp[aw]at h
  | cons p l ih=>
   intro h;simp only[aw,List.lookup]at h
   cases pw:(q == p.1) with
   | true=>exact⟨p,ak,by simpa using (beq_iff_eq.1 pw).symm⟩
   | false=>
    rw[pw]at h;obtain⟨p',h1,h2⟩:=ih h;exact⟨p',by simp[h1],h2⟩
 obtain⟨p,hp,rfl⟩:=ng fR hq;exact hd p hp
def FE (names:List Nat) (x y:AV):Prop:=match x.tr (fF names) (fE names),y with
 | .d d',.d d=>d'.le d
 | p,q=>p=q
def DC (T:Ty) (rs:List ResultVar) (y:AV) (rows:List (Nat×Row)) (σ:St):Prop:=match vD T σ rs with
 | some (c,vs)=>c/\FE (rows.map (·.1)) (oneOf vs) y/\∀ p∈rows,(σ.H p.1).map (Row.tr (fF (rows.map (·.1))) (fE (rows.map (·.1))))=aw rows p.1
 | none=>False
def LF (T:Ty) (rs:List ResultVar) (y:AV) (rows:List (Nat×Row)):Exit->St->Prop
 | .normal,σ | .ret,σ=>DC T rs y rows σ
 | _,_=>False
theorem ac1 {names:List Nat} {x y:AV} {u:Value} (h:FE names x y) (hr:RV w X μ u (x.tr (fF names) (fE names))):RV w X μ u y:=by
 unfold FE at h;split at h
 .rename_i d' d hx;rw[hx]at hr;exact .d (hr.data.le h)
 .rw[<- h];exact hr
theorem MC.aQ (hg:Good P T) {g:FuncId} {fn:Func} {c:Code} {rs:List ResultVar} {xs:List AV} {H:Heap} {y:AV} {rows:List (Nat×Row)} {fx:List Nat} (hf:P.funcs[g]? = some fn) (hb:fn.body=some c) (hn:(fn.name == "runtime.NumGoroutine")=false) (lk:fn.results=rs.toArray)
  (hN:xs.length<=fn.ntmps) (hfx:fx.all (rows.map (·.1)).contains=true) (h:∀ X,AW P (jh fx) X G ⟨fn.ntmps,[],none⟩ c (LF T rs y rows) ⟨args xs,H⟩):MC P G fx g xs H y (aw rows):=by
 refine⟨gS.of hf hb hn,fun X w μ vs hs dz bg hv=>?_⟩
 have fin:∀ (w':World) (aH:Mu) (a':Act) (aJ:St),DC T rs y rows aJ->In w' X G aH ⟨fn.ntmps,[],none⟩ a' aJ->Ev (jh fx) w μ w' aH->∃ v,(results fn a'.tmps).run P w' = .ok v w'/\∃ v_1 x H' aH,Ending.returned v=Ending.returned v_1/\(x=y/\H'=aw rows)/\RV w' X aH v_1 x/\eF w' X aH H'/\Ev (jh fx) w μ w' aH:=by
  intro w' aH a' aJ he hi bp;unfold DC at he;split at he
  .rename_i c xs hx;obtain⟨hc,he,ZK⟩:=he;obtain⟨v,hv,hr⟩:=Kf (P:=P) hg hi lk hx hc;have hX:∀ b,XX X (cA (rows.map (·.1)).contains aH) b->XX X aH b:=fun b=>Db
   have ho:∀ u r off n,RV w' X aH u (.own r off n)->RV w' X (cA (rows.map (·.1)).contains aH) u (fF (rows.map (·.1)) r off n):=fun u r off n h=>by
    unfold fF;split
    .rename_i hk;exact h.Cq hk
    .exact .dead u
   have hf:∀ u r e j,RV w' X aH u (.ref r e j)->RV w' X (cA (rows.map (·.1)).contains aH) u (fE (rows.map (·.1)) r e j):=fun u r e j h=>by
    unfold fE;split
    .rename_i hk;exact h.CD hk
    .exact .dead u
   have aS:=hi.tr ho hf;have hH:fe (rows.map (·.1)).contains (fF (rows.map (·.1))) (fE (rows.map (·.1))) aJ.H=aw rows:=(funext (FH ZK)).symm;refine⟨v,hv,v,y,aw rows,_,rfl,⟨rfl,rfl⟩,ac1 he (RV.tr hX ho hf hr),hH ▸ aS.bu,bp.trans (yJ fun r _ _ hr=>eh hfx r hr)⟩
  .exact he.elim
 refine calls_of_wp hf hb ((wpIn_wide (n:=0)).1 (wpIn_mono (h X w μ _ ⟨hs,⟨rfl,by simp;omega,fun i x hx=>?_⟩,dz⟩) fun e a' w' ⟨aH,aJ,q,i,ev⟩=>?_))
 .simp only[args]at hx;have hi:i < xs.length:=(BY.1 hx).1
  have ve:vs[i]? = some vs[i]:=by rw[agL]
  exact⟨vs[i],by rw[ag8 aa,ve],hv i _ x ve hx⟩
 .cases e with
  | normal=>
   obtain⟨v,hv,rest⟩:=fin w' aH a' aJ q i ev;exact⟨i.env.defers,v,hv,rest⟩
  | ret=>
   obtain⟨v,hv,rest⟩:=fin w' aH a' aJ q i ev;exact⟨i.env.defers,v,hv,rest⟩
  | _=>exact q.elim
end
end Go.Av
namespace Go.Av
theorem Ws (k:Value) (x:D):td k x []=[(k,x)]:=rfl
theorem Wr (k:Value) (x:D) (p:Value×D) (l:List (Value×D)):td k x (p :: l)=if iG k p.1 then (k,x) :: l else p :: td k x l:=by
 unfold td;rw[ahQ]
 cases h:iG k p.1 with
 | true=>simp
 | false=>
  simp only[agE,if_false];cases List.findIdx? (fun p=>iG k p.1) l<;>simp
theorem ab9 (x:Value):D.one (.v x)=x.oneCell':=rfl
theorem ab6 (k:Option Bool) (els:List (List D)):D.one (.sl k els)=true:=rfl
theorem ab4 (c:List D):D.one (.ip c)=true:=rfl
theorem ab1 (c:List D):D.one (.agg c)=false:=rfl
theorem ab8 (c:List D):D.one (.bx c)=false:=rfl
theorem ab3 (t:TypeId) (x:D):D.one (.bZ t x)=true:=rfl
theorem ab2 (f:Fn) (c:List D):D.one (.fn f c)=true:=rfl
theorem S9 (x:D):AV.one (.d x)=x.one:=rfl
theorem Te (r o n:Nat):AV.one (.own r o n)=true:=rfl
theorem Tf (r e j:Nat):AV.one (.ref r e j)=true:=rfl
theorem Tc (t:TypeId) (x:AV):AV.one (.bZ t x)=true:=rfl
theorem Tb (f:Fn) (c:List AV):AV.one (.fn f c)=true:=rfl
theorem S7 (c:List AV):AV.one (.agg c)=false:=rfl
theorem Tg (c:List AV):AV.one (.bx c)=false:=rfl
theorem S8 (g:FuncId) (x:AV):AV.one (.bm g x)=false:=rfl
theorem Td (r:Nat):AV.one (.mp r)=true:=rfl
theorem Ta:AV.one .dead=false:=rfl
theorem aeW (x:Value):jn (.d (.v x))=if x.oneCell' then some [.d (.v x)] else none:=rfl
theorem aeU (k:Option Bool) (els:List (List D)):jn (.d (.sl k els))=some [.d (.sl k els)]:=rfl
theorem aeQ (c:List D):jn (.d (.ip c))=some [.d (.ip c)]:=rfl
theorem aeJ (c:List D):jn (.d (.agg c))=some (c.map .d):=rfl
theorem aeN (c:List D):jn (.d (.bx c))=none:=rfl
theorem aeM (t:TypeId) (x:D):jn (.d (.bZ t x))=some [.d (.bZ t x)]:=rfl
theorem aeL (f:Fn) (c:List D):jn (.d (.fn f c))=some [.d (.fn f c)]:=rfl
theorem aeS (r o n:Nat):jn (.own r o n)=some [.own r o n]:=rfl
theorem aeT (r e j:Nat):jn (.ref r e j)=some [.ref r e j]:=rfl
theorem aeH (c:List AV):jn (.agg c)=some c:=rfl
theorem aeV (c:List AV):jn (.bx c)=none:=rfl
theorem aeP (t:TypeId) (x:AV):jn (.bZ t x)=some [.bZ t x]:=rfl
theorem aeO (f:Fn) (c:List AV):jn (.fn f c)=some [.fn f c]:=rfl
theorem aeI (g:FuncId) (x:AV):jn (.bm g x)=none:=rfl
theorem aeR (r:Nat):jn (.mp r)=some [.mp r]:=rfl
theorem aeK:jn .dead=none:=rfl
attribute [simp] ab9 ab6 ab4 ab1 ab8 ab3 ab2 S9 Te Tf Tc Tb S7 Tg S8 Td Ta
attribute [simp] aeW aeU aeQ aeJ aeN aeM aeL aeS aeT aeH aeV aeP aeO aeI aeR aeK
attribute [simp] Int.ofNat_inj List.lookup
attribute [simp] uE vx xU kindOf Op.operands Call.operands gP jM DU ey gD E5 qx TypeDesc.isSlice TypeDesc.isStr Dk
attribute [simp] I7 Dl uS qJ pV Am sV pQ TypeDesc.isAgg DJ tp DI kz uI mH F0 eqv
attribute [simp] JJ GI Fg Fe DH E7 EK Gq rN bound FR FT TypeDesc.isBool TypeDesc.isIface Ff
attribute [simp] Du Value.oneCell' Dn J7 yK qN wA zU rm rowsOf rowsOf.go St.AM qh vA De yl KB LO tq KA RH
attribute [simp] CO RL rd wr oB mY aR Ce Cf dN undef dY ZW aao aap aev Zl St.freeze bF gU s4 gI
attribute [simp] bn aw int Av.bool n5 qe Cg lR aX jc lz args ez eA AV.kill AV.kill.go Row.kill me fe AV.tr AV.tr.go Row.tr
attribute [simp] DO DN jY TQ TH St.norm xK vo fF fE Gn Lx lS fL D.scalar aT aV atEnd Gt yG vD FF
attribute [simp] oneOf aew stepG qX vy r6 oV CA Ws Wr iG kg cr eC Ft jh nz ny fP YY
attribute [simp] DC LF FE DL DM St.r0 AH
section
variable {P:Program} {T:Ty} {Mv X:Nat->Prop} {G:aC} {N:Fr} {w:World} {μ:Mu} {a:Act} {σ:St}
end
end Go.Av
namespace Go.Av
theorem Aq {p q:Prop} (h:p) (k:q):p/\q:=⟨h,k⟩
section
variable {P:Program} {Mv X:Nat->Prop} {G:aC} {N:Fr} {σ τ iz:St} {p:Prop}
theorem aq (l ns:List Nat) {id:Nat} {ops:Array Oper} {y:Code} {Q:Exit->St->Prop} (k:AW P Mv X G N y Q iz)
  (hM:∀ r,ns.contains r=false->Mv r:=by first | exact fun _ _=>trivial | exact eh rfl)
  (h:∀ K':St->Prop,K' τ->ku P (cF P) Mv X G N ops K' ops.toList σ:=by
   intro K' ao;repeat (refine aM fun Kq af=>?_;simp;(repeat refine⟨aa,?_⟩);refine af _ ?_)
   exact bK ao)
  (hn:τ.norm l ns=iz:=by simp;rfl):AW P Mv X G N (.seq (.region id ops false) y) Q σ:=
 rg l ns hM fun K hK=>h K (hK _ (hn ▸ k))
theorem ae (q:p) (l ns:List Nat) {id:Nat} {ops:Array Oper} {y:Code} {Q:Exit->St->Prop} (k:AW P Mv X G N y Q iz)
  (hM:∀ r,ns.contains r=false->Mv r:=by first | exact fun _ _=>trivial | exact eh rfl)
  (h:p->∀ K':St->Prop,K' τ->ku P (cF P) Mv X G N ops K' ops.toList σ:=by
   intro q K' ao;repeat (refine aM fun Kq af=>?_;simp[q];(repeat refine⟨aa,?_⟩);refine af _ ?_)
   exact bK ao)
  (hn:p->τ.norm l ns=iz:=by intro q;simp[q];rfl):AW P Mv X G N (.seq (.region id ops false) y) Q σ:=
 rg l ns hM fun K hK=>h q K (hK _ (hn q ▸ k))
theorem br (q:p) {g:FuncId} {ds:List D} {yd:D} (hc:aD P G g ds yd) (l ns:List Nat) {id:Nat} {ops:Array Oper} {y:Code} {Q:Exit->St->Prop} (k:AW P Mv X G N y Q iz)
  (hM:∀ r,ns.contains r=false->Mv r:=by first | exact fun _ _=>trivial | exact eh rfl)
  (h:p->aD P G g ds yd->∀ K':St->Prop,K' τ->ku P (cF P) Mv X G N ops K' ops.toList σ:=by
   intro q hc K' ao;(repeat refine aM fun Kq af=>?_;simp[q];(repeat refine⟨aa,?_⟩);refine af _ ?_);refine aM fun Kq af=>?_;simp[q];refine dT.data hc bA (by first | exact D.bJ _ | simp[aL,agF,agy,D.le,D.le.go,D.le_refl,D.bJ,q]) ?_;refine af _ ?_;simp only[aR,dY];repeat (refine aM fun Kq af=>?_;simp[q];(repeat refine⟨aa,?_⟩);refine af _ ?_)
   exact bK ao)
  (hn:p->τ.norm l ns=iz:=by intro q;simp[q];rfl):AW P Mv X G N (.seq (.region id ops false) y) Q σ:=
 rg l ns hM fun K hK=>h q hc K (hK _ (hn q ▸ k))
theorem bD (q:p) {fx:List Nat} {g:FuncId} {xs:List AV} {cq fR:List (Nat×Row)} {yv:AV} (hc:MC P G fx g xs (aw cq) yv (aw fR)) (l ns:List Nat) {id:Nat} {ops:Array Oper} {y:Code} {Q:Exit->St->Prop} (k:AW P Mv X G N y Q iz)
  (hM:∀ r,ns.contains r=false->Mv r:=by first | exact fun _ _=>trivial | exact eh rfl)
  (h:p->MC P G fx g xs (aw cq) yv (aw fR)->∀ K':St->Prop,K' τ->ku P (cF P) Mv X G N ops K' ops.toList σ:=by
   intro q hc K' ao;(repeat refine aM fun Kq af=>?_;simp[q];(repeat refine⟨aa,?_⟩);refine af _ ?_);refine aM fun Kq af=>?_;simp[q];refine dT.mc hc (by simp[q]) (by simp[q]) (by simp[q]) (by simp[q]) ?_;simp[q];refine af _ ?_;repeat (refine aM fun Kq af=>?_;simp[q];(repeat refine⟨aa,?_⟩);refine af _ ?_)
   exact bK ao)
  (hn:p->τ.norm l ns=iz:=by intro q;simp[q];rfl):AW P Mv X G N (.seq (.region id ops false) y) Q σ:=
 rg l ns hM fun K hK=>h q hc K (hK _ (hn q ▸ k))
theorem Fz (q:p) (l ns:List Nat) {id:Nat} {ops:Array Oper} {y:Code} {Q:Exit->St->Prop} (k:AW P Mv X G N y Q iz)
  (hm:P.follows .mixedOrders=true:=by kernel_rfl) (cz:qO ops=true:=by kernel_rfl)
  (hM:∀ r,ns.contains r=false->Mv r:=by first | exact fun _ _=>trivial | exact eh rfl)
  (h:p->∀ K':St->Prop,K' τ->o3 P (cF P) Mv G N ops K' ops.toList σ:=by
   intro q K' ao;repeat (refine eK fun Kq af=>?_;simp[q];(repeat refine⟨aa,?_⟩);refine af _ ?_)
   exact mQ ao)
  (hn:p->τ.norm l ns=iz:=by intro q;simp[q];rfl):AW P Mv X G N (.seq (.region id ops true) y) Q σ:=
 qY (aB _) hm l ns hM cz fun K hK=>h q K (hK _ (hn q ▸ k))
theorem rdc (q:p) {g:FuncId} {ds:List D} {yd:D} (hc:aD P G g ds yd) (l ns:List Nat) {id:Nat} {ops:Array Oper} {y:Code} {Q:Exit->St->Prop} (k:AW P Mv X G N y Q iz)
  (hm:P.follows .mixedOrders=true:=by kernel_rfl) (cz:qO ops=true:=by kernel_rfl)
  (hM:∀ r,ns.contains r=false->Mv r:=by first | exact fun _ _=>trivial | exact eh rfl)
  (h:p->aD P G g ds yd->∀ K':St->Prop,K' τ->o3 P (cF P) Mv G N ops K' ops.toList σ:=by
   intro q hc K' ao;(repeat refine eK fun Kq af=>?_;simp[q];(repeat refine⟨aa,?_⟩);refine af _ ?_);refine eK fun Kq af=>?_;simp[q];refine kG.data hc bA bA (by first | exact D.bJ _ | simp[aL,agF,agy,D.le,D.le.go,D.le_refl,D.bJ,q]) ?_;refine af _ ?_;simp only[aR,dY];repeat (refine eK fun Kq af=>?_;simp[q];(repeat refine⟨aa,?_⟩);refine af _ ?_)
   exact mQ ao)
  (hn:p->τ.norm l ns=iz:=by intro q;simp[q];rfl):AW P Mv X G N (.seq (.region id ops true) y) Q σ:=
 qY (aB _) hm l ns hM cz fun K hK=>h q hc K (hK _ (hn q ▸ k))
theorem gH (q:p) {K0:St->Prop} {y:Code} {Q Q2:Exit->St->Prop} (hk:∀ aJ,AW P Mv X G N y Q2 aJ->K0 aJ) (l ns:List Nat) {id:Nat} {ops:Array Oper} (k:AW P Mv X G N y Q2 iz)
  (hq:∀ τ,K0 τ->Q .normal τ:=by exact fun _ h=>h)
  (hM:∀ r,ns.contains r=false->Mv r:=by first | exact fun _ _=>trivial | exact eh rfl)
  (h:p->∀ K':St->Prop,K' τ->ku P (cF P) Mv X G N ops K' ops.toList σ:=by
   intro q K' ao;repeat (refine aM fun Kq af=>?_;simp[q];(repeat refine⟨aa,?_⟩);refine af _ ?_)
   exact bK ao)
  (hn:p->τ.norm l ns=iz:=by intro q;simp[q];rfl):AW P Mv X G N (.region id ops false) Q σ:=
 eU (aB _) fun K hK=>h q K (hK _ (hq _ (hk _ (AW.norm l ns hM (hn q ▸ k)))))
theorem ay (l ns:List Nat) {id:Nat} {ops:Array Oper} {y:Code} {Q:Exit->St->Prop} (k:AW P Mv X G N y Q iz)
  (hM:∀ r,ns.contains r=false->Mv r:=by first | exact fun _ _=>trivial | exact eh rfl)
  (h:∀ K':St->Prop,K' τ->ku P (cF P) Mv X G N ops K' ops.toList σ:=by
   intro K' ao;repeat (refine aM fun Kq af=>?_;simp[qf];(repeat refine⟨aa,?_⟩);refine af _ ?_)
   exact bK ao)
  (hn:τ.norm l ns=iz:=by simp[qf];rfl):AW P Mv X G N (.seq (.region id ops false) y) Q σ:=
 rg l ns hM fun K hK=>h K (hK _ (hn ▸ k))
theorem fj {g:FuncId} {ds:List D} {yd:D} (hc:aD P G g ds yd) (l ns:List Nat) {id:Nat} {ops:Array Oper} {y:Code} {Q:Exit->St->Prop} (k:AW P Mv X G N y Q iz)
  (hM:∀ r,ns.contains r=false->Mv r:=by first | exact fun _ _=>trivial | exact eh rfl)
  (h:aD P G g ds yd->∀ K':St->Prop,K' τ->ku P (cF P) Mv X G N ops K' ops.toList σ:=by
   intro hc K' ao;(repeat refine aM fun Kq af=>?_;simp[qf];(repeat refine⟨aa,?_⟩);refine af _ ?_);refine aM fun Kq af=>?_;simp[qf];refine dT.data hc bA (by first | exact D.bJ _ | simp[aL,agF,agy,D.le,D.le.go,D.le_refl,D.bJ,qf]) ?_;refine af _ ?_;simp only[aR,dY];repeat (refine aM fun Kq af=>?_;simp[qf];(repeat refine⟨aa,?_⟩);refine af _ ?_)
   exact bK ao)
  (hn:τ.norm l ns=iz:=by simp[qf];rfl):AW P Mv X G N (.seq (.region id ops false) y) Q σ:=
 rg l ns hM fun K hK=>h hc K (hK _ (hn ▸ k))
theorem kr {fx:List Nat} {g:FuncId} {xs:List AV} {cq fR:List (Nat×Row)} {yv:AV} (hc:MC P G fx g xs (aw cq) yv (aw fR)) (l ns:List Nat) {id:Nat} {ops:Array Oper} {y:Code} {Q:Exit->St->Prop} (k:AW P Mv X G N y Q iz)
  (hM:∀ r,ns.contains r=false->Mv r:=by first | exact fun _ _=>trivial | exact eh rfl)
  (h:MC P G fx g xs (aw cq) yv (aw fR)->∀ K':St->Prop,K' τ->ku P (cF P) Mv X G N ops K' ops.toList σ:=by
   intro hc K' ao;(repeat refine aM fun Kq af=>?_;simp[qf];(repeat refine⟨aa,?_⟩);refine af _ ?_);refine aM fun Kq af=>?_;simp[qf];refine dT.mc hc (by simp[qf]) (by simp[qf]) (by simp[qf]) (by simp[qf]) ?_;simp[qf];refine af _ ?_;repeat (refine aM fun Kq af=>?_;simp[qf];(repeat refine⟨aa,?_⟩);refine af _ ?_)
   exact bK ao)
  (hn:τ.norm l ns=iz:=by simp[qf];rfl):AW P Mv X G N (.seq (.region id ops false) y) Q σ:=
 rg l ns hM fun K hK=>h hc K (hK _ (hn ▸ k))
theorem iV (l ns:List Nat) {id:Nat} {ops:Array Oper} {y:Code} {Q:Exit->St->Prop} (k:AW P Mv X G N y Q iz)
  (hm:P.follows .mixedOrders=true:=by kernel_rfl) (cz:qO ops=true:=by kernel_rfl)
  (hM:∀ r,ns.contains r=false->Mv r:=by first | exact fun _ _=>trivial | exact eh rfl)
  (h:∀ K':St->Prop,K' τ->o3 P (cF P) Mv G N ops K' ops.toList σ:=by
   intro K' ao;repeat (refine eK fun Kq af=>?_;simp[qf];(repeat refine⟨aa,?_⟩);refine af _ ?_)
   exact mQ ao)
  (hn:τ.norm l ns=iz:=by simp[qf];rfl):AW P Mv X G N (.seq (.region id ops true) y) Q σ:=
 qY (aB _) hm l ns hM cz fun K hK=>h K (hK _ (hn ▸ k))
theorem vB {g:FuncId} {ds:List D} {yd:D} (hc:aD P G g ds yd) (l ns:List Nat) {id:Nat} {ops:Array Oper} {y:Code} {Q:Exit->St->Prop} (k:AW P Mv X G N y Q iz)
  (hm:P.follows .mixedOrders=true:=by kernel_rfl) (cz:qO ops=true:=by kernel_rfl)
  (hM:∀ r,ns.contains r=false->Mv r:=by first | exact fun _ _=>trivial | exact eh rfl)
  (h:aD P G g ds yd->∀ K':St->Prop,K' τ->o3 P (cF P) Mv G N ops K' ops.toList σ:=by
   intro hc K' ao;(repeat refine eK fun Kq af=>?_;simp[qf];(repeat refine⟨aa,?_⟩);refine af _ ?_);refine eK fun Kq af=>?_;simp[qf];refine kG.data hc bA bA (by first | exact D.bJ _ | simp[aL,agF,agy,D.le,D.le.go,D.le_refl,D.bJ,qf]) ?_;refine af _ ?_;simp only[aR,dY];repeat (refine eK fun Kq af=>?_;simp[qf];(repeat refine⟨aa,?_⟩);refine af _ ?_)
   exact mQ ao)
  (hn:τ.norm l ns=iz:=by simp[qf];rfl):AW P Mv X G N (.seq (.region id ops true) y) Q σ:=
 qY (aB _) hm l ns hM cz fun K hK=>h hc K (hK _ (hn ▸ k))
theorem eJ {K0:St->Prop} {y:Code} {Q Q2:Exit->St->Prop} (hk:∀ aJ,AW P Mv X G N y Q2 aJ->K0 aJ) (l ns:List Nat) {id:Nat} {ops:Array Oper} (k:AW P Mv X G N y Q2 iz)
  (hq:∀ τ,K0 τ->Q .normal τ:=by exact fun _ h=>h)
  (hM:∀ r,ns.contains r=false->Mv r:=by first | exact fun _ _=>trivial | exact eh rfl)
  (h:∀ K':St->Prop,K' τ->ku P (cF P) Mv X G N ops K' ops.toList σ:=by
   intro K' ao;repeat (refine aM fun Kq af=>?_;simp[qf];(repeat refine⟨aa,?_⟩);refine af _ ?_)
   exact bK ao)
  (hn:τ.norm l ns=iz:=by simp[qf];rfl):AW P Mv X G N (.region id ops false) Q σ:=
 eU (aB _) fun K hK=>h K (hK _ (hq _ (hk _ (AW.norm l ns hM (hn ▸ k)))))
end
