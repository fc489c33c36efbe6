/- Parts. -/
import Derived.Test.YtoohljflflnbeaaGreatDoorSt7
import Derived.Orders
set_option linter.unusedSectionVars false
set_option linter.unusedSimpArgs false
set_option linter.unusedVariables false
namespace Go.Av
def mX:Operand->Nat
 | .global _=>0
 | _=>1
@[simp] theorem aag (x:Operand):(mX x=2)=False:=by cases x<;>simp[mX]
@[simp] theorem aah (x:Operand):(mX x=3)=False:=by cases x<;>simp[mX]
@[simp] theorem aai (x:Operand):(mX x=8)=False:=by cases x<;>simp[mX]
@[simp] theorem aaj (x:Operand):(mX x=9)=False:=by cases x<;>simp[mX]
@[simp] theorem aaf (x:Operand):(mX x=0\/mX x=1)=True:=by cases x<;>simp[mX]
theorem F8 (x:Operand):mX x<=1:=by cases x<;>simp[mX]
def kindOf:Op->Nat
 | .load _ x=>mX x
 | .indexAddr _ _ _=>1
 | .slice _ _ _ _ _=>1
 | .lookup _ _ _ _=>1
 | .call { callee:=.value _,.. }=>2
 | .call { callee:=.builtin .append,.. }=>9
 | .call { callee:=.builtin .copy,.. }=>9
 | .alloc _=>3
 | .box _ _=>3
 | .buildSlice _ _ _=>3
 | .makeSlice _ _ _=>3
 | .store _ _ _=>8
 | .mapUpdate _ _ _ _=>8
 | .insert _ _ _ _=>8
 | .makeMap _ _=>3
 | .select _ _=>9
 | _=>0
def s9 (x y:Nat):Bool:=match x,y with
 | 0,9 | 9,_ | 1,8 | 1,9 | 2,8 | 2,9 | 3,1 | 3,2 | 3,8 | 3,9 | 8,1 | 8,2 | 8,3 | 8,8 | 8,9=>false
 | _,_=>true
def jO (ops:Array Oper) (x y:Oper):Bool:=x.apart ops y && s9 (kindOf x.op) (kindOf y.op)
def bitsOf (acc:List Nat) (o:Oper):Nat:=o.after.toList.foldr (fun e s=>if Region.binds .any e then (2 ^ e.on ||| acc.getD e.on 0) ||| s else s) 0
def qQ:List Oper->List Nat->List Nat
 | [],acc=>acc
 | o :: l,acc=>qQ l (acc ++ [bitsOf acc o])
def tb (ops:Array Oper):List Nat:=qQ ops.toList []
def p3 (ops:Array Oper):Bool:=
 let t:=tb ops
 (List.range ops.size).all fun j=>match ops[j]? with
  | some oj=>(oj.after.all fun e=>!Region.binds .any e || e.on < j) && (List.range j).all fun i=>(t.getD j 0).testBit i || match ops[i]? with
    | some oi=>jO ops oi oj && jO ops oj oi
    | none=>true
  | none=>true
section
variable {P:Program} {T:Ty} {Mv X:Nat->Prop} {G:aF} {N:Fr}
def xx (P:Program) (G:aF) (σ:St) (c:Call) (y:D):Prop:=∃ g xs,lx G σ.env c=some (g,xs)/\
 ((∃ ds,xs=ds.map .d/\aH P G g ds y)\/(∃ ds,kB (fg σ.H 4) xs=some ds/\y.scalar=true/\aH P G g ds y))
def nw (P:Program) (T:Ty) (Mv:Nat->Prop) (G:aF) (o:Oper) (σ aP:St):Prop:=match eH o.op with
 | some c=>∃ y,xx P G σ c y/\aP=⟨aR σ.env o.dst (.d y),σ.H⟩
 | none=>if gq o.op then ∃ c x bz,wr T G Mv σ o=some (c,x,bz)/\c/\aP=⟨aR bz.env o.dst x,bz.H⟩
  else ∃ c x,rd T G σ o.op=some (c,x)/\c/\aP=⟨aR σ.env o.dst x,σ.H⟩
def xc (P:Program) (T:Ty) (Mv:Nat->Prop) (G:aF) (N:Fr) (ops:Array Oper) (o:Oper) (σ aP:St):Prop:=
 iy N o/\((jK ops σ.env o=some true/\nw P T Mv G o σ aP)\/(jK ops σ.env o=some false/\aP=⟨aR σ.env o.dst dA,σ.H⟩))
theorem zI (hg:Good P T) {ops:Array Oper} {o:Oper} {σ aP:St} (h:xc P T Mv G N ops o σ aP) {w:World} {μ:Mu} {a:Act} (hi:In w X G μ N a σ) {i:Nat} (ho:ops[i]? = some o) {Q:Exit->Act->World->Prop} {K:Act->World->Prop}
  (hk:∀ w' aK a',In w' X G aK N a' aP->Ev Mv w μ w' aK->K a' w'):wpOpIn (wd N.ro) 0 P ops Q i K a w:=by
 obtain⟨hd,h⟩:=h
 have iw:∀ d,o.dst=some d->d < N.n:=fun d e=>by unfold iy at hd;rw[e]at hd;exact hd
 unfold wpOpIn;simp only[ho]
 rcases h with⟨hw,h⟩ | ⟨hw,rfl⟩
 .rw[vl hi hw,if_pos rfl];refine (xK (Mv:=Mv) (K:=fun bz=>bz=aP) hg hi iw ?_ fun w' aK a' bz e bn br=>hk w' aK a' (e ▸ bn) br);unfold nw at h;unfold lH;split at h
  .rename_i c hc;obtain⟨y,⟨g,xs,ht,eL⟩,rfl⟩:=h;simp only[hc,ht]
   rcases eL with⟨ds,rfl,hp⟩ | ⟨ds,ld,hs,hp⟩
   .exact kD.pure hp rfl
   .exact kD.kU ld hp hs rfl
  .rename_i hc;simp only[hc,oQ];split at h
   .rename_i BC;rw[if_pos BC];obtain⟨c,x,bz,hU,cA,rfl⟩:=h;simp only[hU];exact⟨cA,trivial⟩
   .rename_i BC;rw[if_neg BC];obtain⟨c,x,hr,cA,rfl⟩:=h;simp only[hr];exact⟨cA,trivial⟩
 .rw[vl hi hw,if_neg al];exact⟨fun _ _=>trivial,hk w μ _ (hi.put (.d (.v _)) iw) (.refl _ w μ)⟩
theorem Me {e:Env} {dst:Option Tmp} {x:AV} {t:Nat} (h:dst≠some t):aR e dst x t=e t:=by
 cases dst with
 | none=>rfl
 | some d=>have:t≠d:=fun e=>h (by rw[e]);simp[aR,ik,this]
theorem kV {e:Env} {d d':Option Tmp} {x y:AV} (h:∀ t,d=some t->d'≠some t):aR (aR e d x) d' y=aR (aR e d' y) d x:=by
 cases d with
 | none=>rfl
 | some t=>
  cases d' with
  | none=>rfl
  | some t'=>
   have bw:t≠t':=fun e=>h t rfl (by rw[e]);funext i;by_cases h1:i=t<;>by_cases h2:i=t'<;>simp[aR,ik,h1,h2,bw,abY bw]
   all_goals (subst h1;simp[bw])
def im (o:Op) (e e':Env):Prop:=∀ t,Operand.tmp t∈o.operands->e t=e' t
theorem eS {e e':Env} {x:Operand} (h:∀ t,x = .tmp t->e t=e' t):bG G e x=bG G e' x:=by
 cases x with
 | tmp t=>exact h t rfl
 | _=>rfl
theorem DT {e e':Env}:∀ {l:List Operand},(∀ t,Operand.tmp t∈l->e t=e' t)->mC G e l=mC G e' l
 | [],_=>rfl
 | x :: l,h=>by
  simp only[mC];rw[eS (x:=x) fun t ht=>h t (by simp[ht]),DT (l:=l) fun t ht=>h t (by simp[ht])]
theorem AL {e e':Env}:∀ {l:List (Nat×Operand)},(∀ t,Operand.tmp t∈l.map (·.2)->e t=e' t)->lG G e l=lG G e' l
 | [],_=>rfl
 | (i,x) :: l,h=>by
  simp only[lG];rw[eS (x:=x) fun t ht=>h t (by simp[ht]),AL (l:=l) fun t ht=>h t (by simp at ht ⊢;exact .inr ht)]
theorem Ie {e e':Env} {o:Option Operand} (h:∀ t,o=some (.tmp t)->e t=e' t):bound G e o=bound G e' o:=by
 cases o with
 | none=>rfl
 | some x=>simp only[bound];rw[eS (x:=x) fun t ht=>h t (by rw[ht])]
theorem VM {o:Op} {e e':Env} {H:Heap} (h:im o e e'):rd T G ⟨e,H⟩ o=rd T G ⟨e',H⟩ o:=by
 unfold im at h;cases o
 case makeFunc f first caps=>
  simp only[rd];rw[DT (l:=caps.toList) fun t ht=>h t (by simp[Op.operands];right;simpa using ht)];split
  .rfl
  .split
   .rename_i x EC c8
    rw[eS (x:=x) fun t ht=>h t (by
     have hm:x∈first:=by
      have:x∈first.toList:=by rw[EC];simp
      simpa using this
     simp only[Op.operands];rw[<- ht]
     simp[hm])]
   .rfl
 case typeAssert y xT t b=>
  simp only[rd];rw[eS (x:=y) fun t ht=>h t (by simp[Op.operands,ht])]
 case build t parts=>
  simp only[rd];rw[AL (l:=parts.toList) fun t ht=>h t (by simpa[Op.operands]using ht)]
 case slice t x lo hi mx=>
  simp only[rd];rw[eS (x:=x) fun t ht=>h t (by simp[Op.operands,ht]),Ie (o:=lo) fun t ht=>h t (by simp[Op.operands,ht]),Ie (o:=hi) fun t ht=>h t (by simp[Op.operands,ht])]
 case call c=>
  obtain⟨callee,args,argTypes⟩:=c
  cases callee with
  | builtin b=>
   have two:∀ {x y:Operand},args.toList=[x,y]->bG G e x=bG G e' x/\bG G e y=bG G e' y:=fun {x y} ha=>
    ⟨eS (x:=x) fun t ht=>h t (by simp[Op.operands,Call.operands];rw[<- Array.mem_toList_iff,ha];simp[ht]),
     eS (x:=y) fun t ht=>h t (by simp[Op.operands,Call.operands];rw[<- Array.mem_toList_iff,ha];simp[ht])⟩
   cases b<;>try rfl
   case len=>
    simp only[rd];split
    .rename_i x t ha ht;rw[eS (x:=x) fun t ht=>h t (by simp[Op.operands,Call.operands];rw[<- Array.mem_toList_iff,ha];simp[ht])]
    .rfl
   case max=>
    simp only[rd];split
    .rename_i x y ha;rw[(two ha).1,(two ha).2]
    .rfl
   case min=>
    simp only[rd];split
    .rename_i x y ha;rw[(two ha).1,(two ha).2]
    .rfl
  | _=>rfl
 all_goals
  simp only[Op.operands,List.mem_toArray,abg,List.not_mem_nil,or_false]at h
 all_goals
  first
   | rfl
   | (rename_i x;simp only[rd];rw[eS (x:=x) fun t ht=>h t (by simp[ht])];done)
   | (rename_i x _;simp only[rd];rw[eS (x:=x) fun t ht=>h t (by simp[ht])];done)
   | (rename_i x y;simp only[rd];rw[eS (x:=x) fun t ht=>h t (by simp[ht]),eS (x:=y) fun t ht=>h t (by simp[ht])];done)
   | (rename_i x y _;simp only[rd];rw[eS (x:=x) fun t ht=>h t (by simp[ht]),eS (x:=y) fun t ht=>h t (by simp[ht])];done)
   | (rename_i x y z;simp only[rd];rw[eS (x:=x) fun t ht=>h t (by simp[ht]),eS (x:=y) fun t ht=>h t (by simp[ht]),eS (x:=z) fun t ht=>h t (by simp[ht])];done)
def Ex (P:Program) (T:Ty) (Mv:Nat->Prop) (G:aF) (o:Oper) (e:Env) (H:Heap) (x:AV) (H':Heap):Prop:=match eH o.op with
 | some c=>∃ y,xx P G ⟨e,H⟩ c y/\x = .d y/\H'=H
 | none=>if gq o.op then ∃ c,wr T G Mv ⟨e,H⟩ o=some (c,x,⟨e,H'⟩)/\c
  else ∃ c,rd T G ⟨e,H⟩ o.op=some (c,x)/\c/\H'=H
theorem zT {o:Oper} (hk:kindOf o.op≠9) {σ bz:St} {c:Prop} {x:AV} (h:wr T G Mv σ o=some (c,x,bz)):bz.env=σ.env:=by
 obtain⟨dst,op,type,pos,after,guard⟩:=o;dsimp only at hk;unfold wr at h;dsimp only at h
 repeat' split at h
 all_goals first
  | (exact absurd rfl hk)
  | (obtain⟨_,_,rfl⟩:=lU h;rfl)
  | cases h
theorem Ex.of {o:Oper} (hk:kindOf o.op≠9) {σ aP:St} (h:nw P T Mv G o σ aP):∃ x H',Ex P T Mv G o σ.env σ.H x H'/\aP=⟨aR σ.env o.dst x,H'⟩:=by
 unfold nw at h;unfold Ex;split at h
 .rename_i c hc;obtain⟨y,eL,rfl⟩:=h;(try simp only[hc]);exact⟨_,_,⟨y,eL,rfl,rfl⟩,rfl⟩
 .rename_i hc;(try simp only[hc]);split at h
  .rename_i hw;obtain⟨c,x,bz,h1,h2,rfl⟩:=h;have he:=zT hk h1;refine⟨x,bz.H,?_,by rw[he]⟩;rw[if_pos hw];refine⟨c,?_,h2⟩;obtain⟨e,H⟩:=σ;obtain⟨e1,H1⟩:=bz;dsimp only at he;subst he;exact h1
  .rename_i hw;obtain⟨c,x,h1,h2,rfl⟩:=h;refine⟨x,σ.H,?_,rfl⟩;rw[if_neg hw];exact⟨c,h1,h2,rfl⟩
theorem Ex.to {o:Oper} {e:Env} {H H':Heap} {x:AV} (h:Ex P T Mv G o e H x H'):nw P T Mv G o ⟨e,H⟩ ⟨aR e o.dst x,H'⟩:=by
 unfold Ex at h;unfold nw;split at h
 .rename_i c hc;obtain⟨y,eL,rfl,rfl⟩:=h;(try simp only[hc]);exact⟨y,eL,rfl⟩
 .rename_i hc;(try simp only[hc]);split at h
  .rename_i hw;obtain⟨c,h1,h2⟩:=h;rw[if_pos hw];exact⟨c,x,_,h1,h2,rfl⟩
  .rename_i hw;obtain⟨c,h1,h2,rfl⟩:=h;rw[if_neg hw];exact⟨c,x,h1,h2,rfl⟩
theorem uY {o:Op} {c:Call} (h:eH o=some c):o = .call c/\kindOf o=2:=by
 unfold eH at h;split at h
 .obtain rfl:=AI h;exact⟨rfl,rfl⟩
 .cases h
theorem zO {e e':Env} {c:Call} (h:∀ t,Operand.tmp t∈c.operands->e t=e' t):lx G e c=lx G e' c:=by
 unfold lx;split
 .rename_i f hf;rw[eS (x:=f) fun t ht=>h t (by simp[Call.operands,hf,ht]),DT (l:=c.args.toList) fun t ht=>h t (by simp[Call.operands,hf];right;simpa using ht)]
 .rfl
theorem ZF {o:Oper} (hk:kindOf o.op≠9) {e e':Env} {H H':Heap} {c:Prop} {x:AV} (ha:im o.op e e') (h:wr T G Mv ⟨e,H⟩ o=some (c,x,⟨e,H'⟩)):wr T G Mv ⟨e',H⟩ o=some (c,x,⟨e',H'⟩):=by
 obtain⟨dst,op,type,pos,after,guard⟩:=o;dsimp only at hk ha;unfold im at ha;cases op
 case alloc t=>
  cases dst with
  | none=>cases h
  | some d=>
   simp only[wr]at h ⊢;split at h
   .rename_i ti ht;simp only[BY,aa4,St.mk.injEq,true_and]at h;obtain⟨rfl,rfl,rfl⟩:=h;simp
   .cases h
 case box t y=>
  cases dst with
  | none=>cases h
  | some d=>
   simp only[wr]at h ⊢;rw[<- eS (e:=e) (x:=y) fun t ht=>ha t (by simp[Op.operands,ht])];split at h
   .simp only[BY,aa4,St.mk.injEq,true_and]at h;obtain⟨rfl,rfl,rfl⟩:=h;rename_i cK;simp[cK]
   .cases h
 case store t y z=>
  cases dst with
  | some d=>cases h
  | none=>
   simp only[wr]at h ⊢;rw[<- eS (e:=e) (x:=y) fun t ht=>ha t (by simp[Op.operands,ht]),<- eS (e:=e) (x:=z) fun t ht=>ha t (by simp[Op.operands,ht])];split at h
   .rename_i r e0 j v h1 h2;(try simp only[h1,h2]);split at h
    .rename_i ty cells hH;(try simp only[hH]);split at h
     .rename_i he;(try simp only[he,if_true]);split at h
      .rename_i c' sD hs;(try simp only[hs]);simp only[BY,aa4,St.mk.injEq,true_and]at h ⊢;exact h
      .cases h
     .cases h
    .rename_i ty sz els hH;(try simp only[hH]);split at h
     .rename_i c' mB hs;(try simp only[hs]);simp only[BY,aa4,St.mk.injEq,true_and]at h ⊢;exact h
     .cases h
    .cases h
    .cases h
    .cases h
   .cases h
 case makeMap t rs=>
  cases dst with
  | none=>cases rs<;>cases h
  | some d=>
   cases rs with
   | some _=>cases h
   | none=>
    simp only[wr]at h ⊢;simp only[BY,aa4,St.mk.injEq,true_and]at h ⊢;exact h
 case mapUpdate t m k v=>
  cases dst with
  | some d=>cases h
  | none=>
   simp only[wr]at h ⊢;rw[<- eS (e:=e) (x:=m) fun t ht=>ha t (by simp[Op.operands,ht]),<- eS (e:=e) (x:=k) fun t ht=>ha t (by simp[Op.operands,ht]),<- eS (e:=e) (x:=v) fun t ht=>ha t (by simp[Op.operands,ht])];split at h
   .rename_i r key y h1 h2 h3;(try simp only[h1,h2,h3]);split at h
    .rename_i ty ents hH;(try simp only[hH]);split at h
     .rename_i c' lF hp;(try simp only[hp]);simp only[BY,aa4,St.mk.injEq,true_and]at h ⊢;exact h
     .cases h
    .cases h
   .cases h
 case insert t m k v=>
  cases dst with
  | some d=>cases h
  | none=>
   simp only[wr]at h ⊢;rw[<- eS (e:=e) (x:=m) fun t ht=>ha t (by simp[Op.operands,ht]),<- eS (e:=e) (x:=k) fun t ht=>ha t (by simp[Op.operands,ht]),<- eS (e:=e) (x:=v) fun t ht=>ha t (by simp[Op.operands,ht])];split at h
   .rename_i r key y h1 h2 h3;(try simp only[h1,h2,h3]);split at h
    .rename_i ty ents hH;(try simp only[hH]);split at h
     .rename_i c' lF hp;(try simp only[hp]);simp only[BY,aa4,St.mk.injEq,true_and]at h ⊢;exact h
     .cases h
    .cases h
   .cases h
 case makeSlice t y z=>
  cases dst with
  | none=>cases h
  | some d=>
   simp only[wr]at h ⊢;rw[<- eS (e:=e) (x:=y) fun t ht=>ha t (by simp[Op.operands,ht]),<- eS (e:=e) (x:=z) fun t ht=>ha t (by simp[Op.operands,ht])];split at h
   .rename_i tt dY;(try simp only[dY]);split at h
    .rename_i e0 hd;(try simp only[hd]);split at h
     .rename_i te kn n km m h0 h1 h2;(try simp only[h0,h1,h2]);simp only[BY,aa4,St.mk.injEq,true_and]at h ⊢;exact h
     .cases h
    .cases h
   .cases h
 case buildSlice t n ps=>
  cases dst with
  | none=>cases h
  | some d=>
   simp only[wr]at h ⊢;rw[<- AL (e:=e) (l:=ps.toList) fun t ht=>ha t (by simpa[Op.operands]using ht)];split at h
   .rename_i tt dY;(try simp only[dY]);split at h
    .rename_i e0 hd;(try simp only[hd]);split at h
     .rename_i te pp h0 h1;(try simp only[h0,h1]);split at h
      .rename_i els rG;(try simp only[rG]);simp only[BY,aa4,St.mk.injEq,true_and]at h ⊢;exact h
      .cases h
     .cases h
    .cases h
   .cases h
 case call cc=>
  obtain⟨callee,args,argTypes⟩:=cc
  cases callee with
  | builtin b=>
   cases b<;>first | (exact absurd rfl hk) | (cases dst<;>cases h)
  | _=>cases dst<;>cases h
 all_goals (cases dst<;>cases h)
theorem Ex.congr {o:Oper} (hk:kindOf o.op≠9) {e e':Env} {H H':Heap} {x:AV} (ha:im o.op e e') (h:Ex P T Mv G o e H x H'):Ex P T Mv G o e' H x H':=by
 unfold Ex at h ⊢;split at h
 .rename_i c hc;(try simp only[hc]);obtain⟨y,⟨g,xs,ht,eL⟩,h2,h3⟩:=h;refine⟨y,⟨g,xs,?_,eL⟩,h2,h3⟩;have ho:=(uY hc).1;rw[<- zO (e:=e) fun t ht=>ha t (by rw[ho];exact ht)];exact ht
 .rename_i hc;(try simp only[hc]);split at h
  .rename_i hw;rw[if_pos hw];obtain⟨c,h1,h2⟩:=h;exact⟨c,ZF hk ha h1,h2⟩
  .rename_i hw;rw[if_neg hw];obtain⟨c,h1,h2,h3⟩:=h;exact⟨c,by rw[<- VM ha];exact h1,h2,h3⟩
theorem BK {o:Op} (h:gq o=true):kindOf o=3\/kindOf o=8\/kindOf o=9:=by
 unfold gq at h
 split at h<;>first | (exact .inl rfl) | (exact .inr (.inl rfl)) | (exact .inr (.inr rfl)) | cases h
theorem Ex.keeps {o:Oper} (hk:kindOf o.op<=2) {e:Env} {H H':Heap} {x:AV} (h:Ex P T Mv G o e H x H'):H'=H:=by
 unfold Ex at h;split at h
 .obtain⟨_,_,_,rfl⟩:=h;rfl
 .split at h
  .rename_i hw
   rcases BK hw with h' | h' | h'<;>omega
  .obtain⟨_,_,_,rfl⟩:=h;rfl
theorem Mg {o:Op} (hk:kindOf o=0) {e:Env} (H H2:Heap):rd T G ⟨e,H⟩ o=rd T G ⟨e,H2⟩ o:=by
 cases o
 case call c=>
  obtain⟨callee,args,argTypes⟩:=c
  cases callee with
  | builtin b=>cases b<;>rfl
  | _=>rfl
 case load t y=>
  cases y with
  | global g=>
   simp only[rd,bG]
   cases G g with
   | none=>rfl
   | some x=>cases x<;>rfl
  | _=>simp[kindOf,mX]at hk
 all_goals first | rfl | (simp[kindOf]at hk)
theorem VP {o:Op} (hk:kindOf o=1) {e:Env} {H:Heap} {d:Nat} (hd:H d=none) (row:Row) {c:Prop} {x:AV} (h:rd T G ⟨e,H⟩ o=some (c,x)):rd T G ⟨e,bk H d row⟩ o=some (c,x):=by
 have key:∀ r y,H r=some y->bk H d row r=some y:=fun r y hr=>by
  unfold bk;split
  .rename_i hh;subst hh;rw[hd]at hr;cases hr
  .exact hr
 have kl:∀ t v,mW T H t v=some (c,x)->mW T (bk H d row) t v=some (c,x):=fun t v h=>by
  unfold mW at h ⊢;split at h
  .exact h
  .split at h
   .rename_i hr;simp only[key _ _ hr];exact h
   .rename_i hr;simp only[key _ _ hr];exact h
   .cases h
   .cases h
   .cases h
  .cases h
 have km:∀ t b v u,mY T H t b v u=some (c,x)->mY T (bk H d row) t b v u=some (c,x):=fun t b v u h=>by
  unfold mY at h ⊢;split at h
  .split at h
   .rename_i hr h2;simp only[key _ _ hr,h2];exact h
   .cases h
  .exact h
  .cases h
 have ki:∀ t v u,o8 T H t v u=some (c,x)->o8 T (bk H d row) t v u=some (c,x):=fun t v u h=>by
  unfold o8 at h ⊢;split at h
  .exact h
  .split at h
   .rename_i h1 hr;simp only[h1,key _ _ hr];exact h
   .rename_i h1 hr;simp only[h1,key _ _ hr];exact h
   .cases h
  .exact h
  .exact h
  .cases h
 have ks:∀ t v l u,p7 T H t v l u=some (c,x)->p7 T (bk H d row) t v l u=some (c,x):=fun t v l u h=>by
  unfold p7 at h ⊢;dsimp only at h ⊢;split at h
  .exact h
  .exact h
  .split at h
   .rename_i h1 hr;simp only[h1,key _ _ hr];exact h
   .cases h
  .cases h
 cases o
 case load t y=>
  simp only[rd,abd]at h ⊢;obtain⟨v,h1,h2⟩:=h;exact⟨v,h1,kl t v h2⟩
 case indexAddr t y z=>
  simp only[rd]at h ⊢;split at h
  .exact ki _ _ _ h
  .cases h
 case slice t y lo hi mx=>
  simp only[rd]at h ⊢;split at h
  .rename_i ix;rw[if_pos ix];split at h
   .exact ks _ _ _ _ h
   .cases h
  .cases h
 case lookup t y z b=>
  simp only[rd]at h ⊢;split at h
  .exact km _ _ _ _ h
  .cases h
 case call cc=>
  obtain⟨callee,args,argTypes⟩:=cc
  cases callee with
  | builtin b=>cases b<;>simp[kindOf]at hk
  | _=>simp[kindOf]at hk
 all_goals (simp[kindOf]at hk)
theorem vz {f g:AV->Option D} (h:∀ x y,f x=some y->g x=some y):∀ {l:List AV} {ys:List D},kB f l=some ys->kB g l=some ys
 | [],_,hh=>hh
 | x :: l,ys,hh=>by
  simp only[kB]at hh ⊢
  cases hf:f x with
  | none=>simp[hf]at hh
  | some y=>
   cases hl:kB f l with
   | none=>simp[hf,hl]at hh
   | some zs=>
    simp only[hf,hl]at hh;rw[h x y hf,vz h hl];exact hh
theorem OG {H:Heap} {d:Nat} (hd:H d=none) (row:Row):∀ (k:Nat) (x:AV) (y:D),fg H k x=some y->fg (bk H d row) k x=some y:=by
 have key:∀ r y,H r=some y->bk H d row r=some y:=fun r y hr=>by
  unfold bk;split
  .rename_i hh;subst hh;rw[hd]at hr;cases hr
  .exact hr
 intro k
 induction k with
 | zero=>intro x y h;cases x<;>simp only[fg]at h ⊢<;>first | exact h | cases h
 | succ k ih=>
  intro x y h
  cases x with
  | d x=>simpa only[fg]using h
  | own r off n=>
   simp only[fg]at h ⊢;split at h
   .rename_i hr;rw[key _ _ hr];exact h
   .cases h
  | ref r e j=>
   simp only[fg]at h ⊢;split at h
   .rename_i hr;rw[key _ _ hr];dsimp only;split at h
    .rename_i he;rw[if_pos he];obtain⟨ys,h1,h2⟩:=AS.1 h;exact AS.2 ⟨ys,vz ih h1,h2⟩
    .cases h
   .cases h
  | agg cells=>simp only[fg]at h ⊢;obtain⟨ys,h1,h2⟩:=AS.1 h;exact AS.2 ⟨ys,vz ih h1,h2⟩
  | bI cells=>simp only[fg]at h ⊢;obtain⟨ys,h1,h2⟩:=AS.1 h;exact AS.2 ⟨ys,vz ih h1,h2⟩
  | fn f cells=>simp only[fg]at h ⊢;obtain⟨ys,h1,h2⟩:=AS.1 h;exact AS.2 ⟨ys,vz ih h1,h2⟩
  | b6 t x=>simp only[fg]at h ⊢;obtain⟨ys,h1,h2⟩:=AS.1 h;exact AS.2 ⟨ys,ih _ _ h1,h2⟩
  | mp r=>
   simp only[fg]at h ⊢;split at h
   .rename_i hr;rw[key _ _ hr];exact h
   .cases h
  | bm g x=>simp only[fg]at h;cases h
  | dead=>simp only[fg]at h;cases h
theorem Ex.grow {o:Oper} (hk:kindOf o.op=1\/kindOf o.op=2) {e:Env} {H H':Heap} {x:AV} (h:Ex P T Mv G o e H x H') {d:Nat} (hd:H d=none) (row:Row):Ex P T Mv G o e (bk H d row) x (bk H d row):=by
 unfold Ex at h ⊢;split at h
 .rename_i c hc;(try simp only[hc]);obtain⟨y,⟨g,xs,ht,eL⟩,h2,_⟩:=h;refine⟨y,⟨g,xs,ht,?_⟩,h2,by trivial⟩
  rcases eL with h | ⟨ds,h3,h4,h5⟩
  .exact .inl h
  .exact .inr ⟨ds,vz (OG hd row 4) h3,h4,h5⟩
 .rename_i hc;(try simp only[hc]);split at h
  .rename_i hw
   rcases BK hw with h' | h' | h'<;>omega
  .rename_i hw;rw[if_neg hw];obtain⟨c,h1,h2,_⟩:=h
   rcases hk with hk | hk
   .exact⟨c,VP hk hd row h1,h2,by trivial⟩
   .exfalso;obtain⟨dst,op,type,pos,after,guard⟩:=o;dsimp only at hk hc;unfold kindOf at hk
    split at hk<;>first | omega | skip
    .have:=F8 ‹_›;omega
    .simp[eH]at hc
theorem Ex.free {o:Oper} (hk:kindOf o.op=0) {e:Env} {H H':Heap} {x:AV} (h:Ex P T Mv G o e H x H') (H2:Heap):Ex P T Mv G o e H2 x H2:=by
 unfold Ex at h ⊢;split at h
 .rename_i c hc;have:=(uY hc).2;omega
 .rename_i hc;(try simp only[hc]);split at h
  .rename_i hw
   rcases BK hw with h' | h' | h'<;>omega
  .rename_i hw;rw[if_neg hw];obtain⟨c,h1,h2,_⟩:=h;exact⟨c,by rw[Mg hk H2 H];exact h1,h2,by trivial⟩
theorem Ex.makes {o:Oper} (hk:kindOf o.op=3) {e:Env} {H H':Heap} {x:AV} (h:Ex P T Mv G o e H x H'):∃ d row,o.dst=some d/\H d=none/\H'=bk H d row/\∀ H2,H2 d=none->Ex P T Mv G o e H2 x (bk H2 d row):=by
 obtain⟨dst,op,type,pos,after,guard⟩:=o;dsimp only at hk;unfold Ex at h;unfold Ex
 have hc:eH op=none:=by
  cases cA:eH op with
  | none=>rfl
  | some c=>have:=(uY cA).2;omega
 simp only[hc]at h ⊢
 cases op<;>simp only[kindOf]at hk<;>first | omega | skip
 case load t y=>have:=F8 y;omega
 case alloc t=>
  simp only[gq,if_true]at h ⊢;obtain⟨c,h1,h2⟩:=h
  cases dst with
  | none=>cases h1
  | some d=>
   simp only[wr]at h1 ⊢;split at h1
   .simp only[BY,aa4,St.mk.injEq,true_and]at h1;obtain⟨rfl,rfl,rfl⟩:=h1;exact⟨d,_,rfl,h2,rfl,fun H2 h=>⟨_,rfl,h⟩⟩
   .cases h1
 case box t y=>
  simp only[gq,if_true]at h ⊢;obtain⟨c,h1,h2⟩:=h
  cases dst with
  | none=>cases h1
  | some d=>
   simp only[wr]at h1 ⊢;split at h1
   .simp only[BY,aa4,St.mk.injEq,true_and]at h1;obtain⟨rfl,rfl,rfl⟩:=h1;exact⟨d,_,rfl,h2,rfl,fun H2 h=>⟨_,rfl,h⟩⟩
   .cases h1
 case makeSlice t y z=>
  simp only[gq,if_true]at h ⊢;obtain⟨c,h1,h2⟩:=h
  cases dst with
  | none=>cases h1
  | some d=>
   simp only[wr]at h1 ⊢;split at h1
   .split at h1
    .split at h1
     .simp only[BY,aa4,St.mk.injEq,true_and]at h1;obtain⟨rfl,rfl,rfl⟩:=h1;exact⟨d,_,rfl,h2.1,rfl,fun H2 h=>⟨_,rfl,h,h2.2⟩⟩
     .cases h1
    .cases h1
   .cases h1
 case buildSlice t n ps=>
  simp only[gq,if_true]at h ⊢;obtain⟨c,h1,h2⟩:=h
  cases dst with
  | none=>cases h1
  | some d=>
   simp only[wr]at h1 ⊢;split at h1
   .split at h1
    .split at h1
     .split at h1
      .simp only[BY,aa4,St.mk.injEq,true_and]at h1;obtain⟨rfl,rfl,rfl⟩:=h1;exact⟨d,_,rfl,h2.1,rfl,fun H2 h=>⟨_,rfl,h,h2.2⟩⟩
      .cases h1
     .cases h1
    .cases h1
   .cases h1
 case makeMap t rs=>
  simp only[gq,if_true]at h ⊢;obtain⟨c,h1,h2⟩:=h
  cases dst with
  | none=>cases rs<;>cases h1
  | some d=>
   cases rs with
   | some _=>cases h1
   | none=>
    simp only[wr]at h1 ⊢;simp only[BY,aa4,St.mk.injEq,true_and]at h1;obtain⟨rfl,rfl,rfl⟩:=h1;exact⟨d,_,rfl,h2,rfl,fun H2 h=>⟨_,rfl,h⟩⟩
 case call cc=>
  obtain⟨callee,args,argTypes⟩:=cc
  cases callee with
  | builtin b=>cases b<;>simp at hk
  | _=>simp at hk
end
end Go.Av
namespace Go.Av
section
variable {P:Program} {T:Ty} {Mv X:Nat->Prop} {G:aF} {N:Fr} {ops:Array Oper}
def Sx (P:Program) (T:Ty) (Mv:Nat->Prop) (G:aF) (N:Fr) (ops:Array Oper) (o:Oper) (e:Env) (H:Heap) (x:AV) (H':Heap):Prop:=
 iy N o/\((jK ops e o=some true/\Ex P T Mv G o e H x H')\/(jK ops e o=some false/\x=dA/\H'=H))
theorem lh {o:Oper} {t:Tmp} (h:Operand.tmp t∈o.op.operands):t∈o.looksAt ops:=
 List.mem_append_left _ (List.mem_filterMap.2 ⟨.tmp t,by simpa using h,rfl⟩)
theorem CQ {o:Oper} {e e':Env} (h:∀ t∈o.looksAt ops,e t=e' t):jK ops e o=jK ops e' o:=by
 unfold jK;split
 .rfl
 .rename_i j want hg;unfold A4;split
  .rename_i d hd;rw[h d (List.mem_append_right _ (by simp[hg,hd]))]
  .rfl
theorem j0 {x y:Oper} (h:x.apart ops y=true) {e:Env} {v:AV}:(∀ t∈y.looksAt ops,aR e x.dst v t=e t)/\(∀ t∈x.looksAt ops,aR e y.dst v t=e t)/\(∀ d,x.dst=some d->y.dst≠some d):=by
 obtain⟨h1,h2,h3⟩:=Oper.apart_spec h;exact⟨fun t ht=>Me fun e=>h1 t e ht,fun t ht=>Me fun e=>h3 t e ht,h2⟩
theorem kinds (o:Op):kindOf o=0\/kindOf o=1\/kindOf o=2\/kindOf o=3\/kindOf o=8\/kindOf o=9:=by unfold kindOf;split<;>simp
theorem xA {q p:Oper} (hc:jO ops q p=true) {e:Env} {H H1 H2:Heap} {x y:AV} (hq:Sx P T Mv G N ops q e H x H1) (hp:Sx P T Mv G N ops p (aR e q.dst x) H1 y H2) (JM:kindOf q.op≠9) (JN:kindOf p.op≠9) :
  ∃ H3,Sx P T Mv G N ops p e H y H3/\Sx P T Mv G N ops q (aR e p.dst y) H3 x H2:=by
 simp only[jO,OF]at hc;obtain⟨gL,mg⟩:=hc;obtain⟨a1,_,bw⟩:=j0 gL (e:=e) (v:=x);obtain⟨_,a2,_⟩:=j0 gL (e:=e) (v:=y);have wp:=CQ (o:=p) (e:=aR e q.dst x) (e':=e) a1;have wq:=CQ (o:=q) (e:=aR e p.dst y) (e':=e) a2;have HT:im p.op (aR e q.dst x) e:=fun t ht=>a1 t (lh ht);have HU:im q.op e (aR e p.dst y):=fun t ht=>(a2 t (lh ht)).symm;obtain⟨dq,hq⟩:=hq;obtain⟨dp,hp⟩:=hp;rw[wp]at hp
 rcases hq with⟨nX,eq⟩ | ⟨nX,rfl,rfl⟩
 .rcases hp with⟨vm,ep⟩ | ⟨vm,rfl,rfl⟩
  .have sF:=ep.congr JN HT;have xF:=eq.congr JM HU
   have fin:∀ H3,Ex P T Mv G p e H y H3->Ex P T Mv G q (aR e p.dst y) H3 x H2->∃ H3,Sx P T Mv G N ops p e H y H3/\Sx P T Mv G N ops q (aR e p.dst y) H3 x H2:=fun H3 h1 h2=>
    ⟨H3,⟨dp,.inl ⟨vm,h1⟩⟩,⟨dq,.inl ⟨by rw[wq];exact nX,h2⟩⟩⟩
   by_cases TJ:kindOf p.op=0
   .obtain rfl:=sF.keeps aa;exact fin H (sF.free TJ H) xF
   .by_cases TK:kindOf q.op=0
    .obtain rfl:=eq.keeps aa;exact fin H2 sF (xF.free TK H2)
    .by_cases kk:kindOf q.op<=2/\kindOf p.op<=2
     .obtain rfl:=eq.keeps kk.1;obtain rfl:=sF.keeps kk.2;exact fin _ sF xF
     .by_cases k3:kindOf q.op=3/\kindOf p.op=3
      .obtain⟨d,row,hd,hn,rfl,dk⟩:=xF.makes k3.1;obtain⟨d',fL,iw,qw,rfl,Ee⟩:=sF.makes k3.2;have dM:d≠d':=fun e=>bw d hd (by rw[iw,e])
       have kQ:H d'=none:=by simpa[bk,abY dM]using qw
       have:bk (bk H d row) d' fL=bk (bk H d' fL) d row:=by
        funext i;by_cases h1:i=d<;>by_cases h2:i=d'<;>simp[bk,h1,h2,dM,abY dM]
       exact fin _ (Ee H kQ) (by rw[this];exact dk _ (by simpa[bk,dM]using hn))
      .by_cases BN:(kindOf q.op=1\/kindOf q.op=2)/\kindOf p.op=3
       .obtain rfl:=eq.keeps aa;obtain⟨d,row,hd,hn,rfl,dk⟩:=sF.makes BN.2;exact fin _ sF (xF.grow BN.1 hn row)
       exfalso
       revert mg
       have c1:kindOf q.op=1\/kindOf q.op=2\/kindOf q.op=3\/kindOf q.op=8:=by have:=kinds q.op;omega
       have c2:kindOf p.op=1\/kindOf p.op=2\/kindOf p.op=3\/kindOf p.op=8:=by have:=kinds p.op;omega
       rcases c1 with c1 | c1 | c1 | c1<;>rcases c2 with c2 | c2 | c2 | c2<;>rw[c1,c2]<;>first | (simp[s9];done) | (exfalso;apply kk;omega) | (exfalso;exact k3 ⟨c1,c2⟩) | (exfalso;exact BN ⟨.inl c1,c2⟩) | (exfalso;exact BN ⟨.inr c1,c2⟩)
  .exact⟨H,⟨dp,.inr ⟨vm,rfl,rfl⟩⟩,⟨dq,.inl ⟨by rw[wq];exact nX,eq.congr JM HU⟩⟩⟩
 .rcases hp with⟨vm,ep⟩ | ⟨vm,rfl,rfl⟩
  .exact⟨H2,⟨dp,.inl ⟨vm,ep.congr JN HT⟩⟩,⟨dq,.inr ⟨by rw[wq];exact nX,rfl,rfl⟩⟩⟩
  .exact⟨_,⟨dp,.inr ⟨vm,rfl,rfl⟩⟩,⟨dq,.inr ⟨by rw[wq];exact nX,rfl,rfl⟩⟩⟩
def run (P:Program) (T:Ty) (Mv:Nat->Prop) (G:aF) (N:Fr) (ops:Array Oper):List Nat->St->St->Prop
 | [],σ,aP=>σ=aP
 | i :: l,σ,aP=>∃ o,ops[i]? = some o/\∃ bz,xc P T Mv G N ops o σ bz/\run P T Mv G N ops l bz aP
theorem tF {o:Oper} (hk:kindOf o.op≠9) {σ aP:St}:xc P T Mv G N ops o σ aP↔∃ x H',Sx P T Mv G N ops o σ.env σ.H x H'/\aP=⟨aR σ.env o.dst x,H'⟩:=by
 constructor
 .rintro⟨hd,⟨hw,h⟩ | ⟨hw,rfl⟩⟩
  .obtain⟨x,H',h1,h2⟩:=Ex.of hk h;exact⟨x,H',⟨hd,.inl ⟨hw,h1⟩⟩,h2⟩
  .exact⟨dA,σ.H,⟨hd,.inr ⟨hw,rfl,rfl⟩⟩,rfl⟩
 .rintro⟨x,H',⟨hd,⟨hw,h⟩ | ⟨hw,rfl,rfl⟩⟩,rfl⟩
  .exact⟨hd,.inl ⟨hw,h.to⟩⟩
  .exact⟨hd,.inr ⟨hw,rfl⟩⟩
theorem WA {i j:Nat} {l:List Nat} {σ aP:St} {oi oj:Oper} (hi:ops[i]? = some oi) (hj:ops[j]? = some oj) (hc:jO ops oi oj=true) (h:run P T Mv G N ops (i :: j :: l) σ aP):run P T Mv G N ops (j :: i :: l) σ aP:=by
 obtain⟨o1,h1,bz,s1,o2,h2,gV,s2,rest⟩:=h;rw[hi]at h1;rw[hj]at h2;obtain rfl:=AI h1;obtain rfl:=AI h2
 have hk:kindOf oi.op≠9:=by
  intro e;simp only[jO,OF,e]at hc;have:=hc.2
  revert this
  have b2:kindOf oj.op=0\/kindOf oj.op=1\/kindOf oj.op=2\/kindOf oj.op=3\/kindOf oj.op=8\/kindOf oj.op=9:=by unfold kindOf;split<;>simp
  rcases b2 with b | b | b | b | b | b<;>rw[b]<;>simp[s9]
 have jm:kindOf oj.op≠9:=by
  intro e;simp only[jO,OF,e]at hc;have:=hc.2
  revert this
  have b2:kindOf oi.op=0\/kindOf oi.op=1\/kindOf oi.op=2\/kindOf oi.op=3\/kindOf oi.op=8\/kindOf oi.op=9:=by unfold kindOf;split<;>simp
  rcases b2 with b | b | b | b | b | b<;>rw[b]<;>simp[s9]
 obtain⟨x,H1,e1,rfl⟩:=(tF hk).1 s1;obtain⟨y,H2,e2,rfl⟩:=(tF jm).1 s2;obtain⟨H3,f1,f2⟩:=xA hc e1 e2 hk jm;refine⟨oj,hj,_,(tF jm).2 ⟨y,H3,f1,rfl⟩,oi,hi,_,(tF hk).2 ⟨x,H2,f2,rfl⟩,?_⟩
 have Rl:aR (aR σ.env oi.dst x) oj.dst y=aR (aR σ.env oj.dst y) oi.dst x:=by
  simp only[jO,OF]at hc;exact kV (j0 hc.1 (e:=σ.env) (v:=x)).2.2
 dsimp only at rest ⊢;rw[Rl]at rest;exact rest
theorem Wz {p:Nat} {op:Oper} (hp:ops[p]? = some op):∀ (l1:List Nat) {l2:List Nat} {σ aP:St},(∀ q∈l1,∀ oq,ops[q]? = some oq->jO ops oq op=true)->run P T Mv G N ops (l1 ++ p :: l2) σ aP->run P T Mv G N ops (p :: (l1 ++ l2)) σ aP:=by
 intro l1
 induction l1 with
 | nil=>intro l2 σ aP _ h;exact h
 | cons q l1 ih=>
  intro l2 σ aP dk h;obtain⟨oq,hq,bz,s1,rest⟩:=h;have:=ih (fun q' oH=>dk q' (by simp[oH])) rest;have h2:run P T Mv G N ops (q :: p :: (l1 ++ l2)) σ aP:=⟨oq,hq,bz,s1,this⟩;exact WA hq hp (dk q al oq hq) h2
theorem He:∀ (l:List Oper) (acc:List Nat) (k:Nat),k < acc.length->(qQ l acc).getD k 0=acc.getD k 0
 | [],_,_,_=>rfl
 | o :: l,acc,k,hk=>by
  rw[qQ,He l _ k (by simp;omega)];simp[aa5,abQ hk]
theorem OX {acc:List Nat} {o:Oper} {q:Nat} (h:(bitsOf acc o).testBit q=true):∃ e∈o.after,Region.binds .any e=true/\(q=e.on\/(acc.getD e.on 0).testBit q=true):=by
 unfold bitsOf at h
 have key:∀ (l:List Edge),(l.foldr (fun e s=>if Region.binds .any e then (2 ^ e.on ||| acc.getD e.on 0) ||| s else s) 0).testBit q=true->∃ e∈l,Region.binds .any e=true/\(q=e.on\/(acc.getD e.on 0).testBit q=true):=by
  intro l
  induction l with
  | nil=>intro h;simp at h
  | cons e l ih=>
   intro h;rw[List.foldr_cons]at h;split at h
   .rename_i hb;rw[Nat.testBit_or,Nat.testBit_or,abD,abD]at h
    rcases h with (h | h) | h
    .rw[Nat.testBit_two_pow]at h
     have h':e.on=q:=by simpa using h
     exact⟨e,al,hb,.inl h'.symm⟩
    .exact⟨e,al,hb,.inr h⟩
    .obtain⟨e',mF,r⟩:=ih h;exact⟨e',by simp[mF],r⟩
   .obtain⟨e',mF,r⟩:=ih h;exact⟨e',by simp[mF],r⟩
 obtain⟨e,he,r⟩:=key _ h;exact⟨e,by simpa using he,r⟩
theorem zM:∀ (l:List Oper) (acc:List Nat) (j:Nat) (o:Oper) (q:Nat),l[j]? = some o->((qQ l acc).getD (acc.length+j) 0).testBit q=true->∃ e∈o.after,Region.binds .any e=true/\(q=e.on\/(e.on < acc.length+j/\((qQ l acc).getD e.on 0).testBit q=true))
 | [],_,_,_,_,h,_=>by simp at h
 | o' :: l,acc,0,o,q,h,hb=>by
  simp at h;subst h;rw[qQ,He l _ _ al]at hb;simp[aa5]at hb;obtain⟨e,he,ov,r⟩:=OX hb;refine⟨e,he,ov,r.imp id fun r=>?_⟩
  have bf:e.on < acc.length:=by
   rcases ab7 e.on acc.length with h | h
   .exact h
   .simp[aa5,abS h]at r
  refine⟨aa,?_⟩;rw[qQ,He l _ _ (by simp;omega)];simpa[aa5,abQ bf]using r
 | o' :: l,acc,j+1,o,q,h,hb=>by
  have:=zM l (acc ++ [bitsOf acc o']) j o q (by simpa using h) (by rw[qQ]at hb;simpa[abZ,Nat.add_comm 1 j]using hb);obtain⟨e,he,ov,r⟩:=this;refine⟨e,he,ov,r.imp id fun r=>?_⟩;rw[qQ];exact⟨by have:=r.1;simp at this;omega,r.2⟩
theorem Cf (h:p3 ops=true) {j:Nat} {oj:Oper} (hj:ops[j]? = some oj):(∀ e∈oj.after,Region.binds .any e=true->e.on < j)/\
  ∀ i oi,i < j->ops[i]? = some oi->((tb ops).getD j 0).testBit i=true\/(jO ops oi oj=true/\jO ops oj oi=true):=by
 unfold p3 at h;have h1:=abP.1 h j (acu.2 (aa1.1 hj).1);simp only[hj,OF]at h1;refine⟨fun e he hb=>?_,fun i oi hi iV=>?_⟩
 .have:=Array.all_eq_true_iff_forall_mem.1 h1.1 e he;simpa[hb]using this
 .have:=abP.1 h1.2 i (acu.2 hi);simpa[iV]using this
theorem OS (cG:p3 ops=true) {listed:Array Bool} (rF:∀ j oj,ops[j]? = some oj->listed.getD j false=true->∀ e∈oj.after,Region.binds .any e=true->listed.getD e.on false=true) :
  ∀ (n j:Nat) (oj:Oper),j<=n->ops[j]? = some oj->(∀ e∈oj.after,Region.binds .any e=true->listed.getD e.on false=true)->∀ q,((tb ops).getD j 0).testBit q=true->listed.getD q false=true:=by
 intro n
 induction n with
 | zero=>
  intro j oj hj fJ dk q hq
  have nB:j=0:=aa
  subst nB;obtain⟨e,he,hb,_⟩:=zM ops.toList [] 0 oj q (by simpa using fJ) (by simpa[tb]using hq);have:=(Cf cG fJ).1 e he hb;omega
 | succ n ih=>
  intro j oj hj fJ dk q hq;obtain⟨e,he,hb,r⟩:=zM ops.toList [] j oj q (by simpa using fJ) (by simpa[tb]using hq)
  rcases r with rfl | ⟨_,r⟩
  .exact dk e he hb
  .have bf:=(Cf cG fJ).1 e he hb
   have qv:e.on < ops.size:=by have:=(aa1.1 fJ).1;omega
   exact ih e.on ops[e.on] aa (by simp[qv]) (fun e' mF bp=>rF e.on _ (by simp[qv]) (dk e he hb) e' mF bp) q (by simpa[tb]using r)
theorem Oq (hg:Good P T) (cG:p3 ops=true) {Q:Exit->St->Prop} {w0:World} {mn:Mu} {c6:St} (hQ:Q .normal c6):∀ (n:Nat) (R:List Nat) (listed:Array Bool) (w:World) (μ:Mu) (a:Act) (σ:St),R.length=n->R.Nodup->
  (∀ j,j∈R↔j < ops.size/\listed.getD j true=false)->listed.size=ops.size->(R.Pairwise (· < ·))->
  (∀ j oj,ops[j]? = some oj->listed.getD j false=true->∀ e∈oj.after,Region.binds .any e=true->listed.getD e.on false=true)->run P T Mv G N ops R σ c6->In w X G μ N a σ->Ev Mv w0 mn w μ->
  wpAnyIn (wd N.ro) 0 P .any ops (After Mv X G N w0 mn Q) n listed a w:=by
 intro n
 induction n with
 | zero=>
  intro R listed w μ a σ hl _ hR bc _ _ e9 hi br;have:R=[]:=abx hl;subst this
  have hr:Region.ready .any ops listed=[]:=by
   apply List.eq_nil_iff_forall_not_mem.2;intro j hj;obtain⟨h1,o,ho,_⟩:=mem_ready.1 hj;exact absurd ((hR j).2 ⟨(aa1.1 ho).1,h1⟩) al
  have:σ=c6:=e9;subst this;exact⟨hr,μ,σ,hQ,hi,br⟩
 | succ n ih=>
  intro R listed w μ a σ hl sT hR bc o6 rF e9 hi br;refine⟨fun hr=>?_,fun i EP=>?_⟩
  .-- the first of the rest may come up
   cases R with
   | nil=>simp at hl
   | cons j R=>
    obtain⟨pG,sQ⟩:=(hR j).1 al
    have yp:j∈Region.ready .any ops listed:=by
     refine mem_ready.2 ⟨sQ,ops[j],by simp[pG],fun e he hb=>?_⟩;have bf:=(Cf cG (j:=j) (oj:=ops[j]) (by simp[pG])).1 e he hb
     have bw:e.on ∉ (j :: R):=by
      intro hm
      rcases abg.1 hm with h | h
      .omega
      .have:=(abU.1 o6).1 _ h;omega
     have:=mt (hR e.on).2 bw
     have qv:e.on < ops.size:=aa
     have rM:e.on < listed.size:=aa
     simp only[qv,true_and,aa2]at this ⊢;simp[rM]at this ⊢;exact this
    rw[hr]at yp;cases yp
  .obtain⟨pF,oi,iV,dk⟩:=mem_ready.1 EP;have EN:i∈R:=(hR i).2 ⟨(aa1.1 iV).1,pF⟩;obtain⟨R1,R2,rfl⟩:=List.append_of_mem EN
   have EH:=Wz (P:=P) (T:=T) (Mv:=Mv) (G:=G) (N:=N) iV R1 (fun q hq oq yK=>by
    have SL:q < i:=by
     have:=(aci.1 o6).2.2 q hq i al;exact this
    rcases (Cf cG iV).2 q oq SL yK with h | h
    .exfalso;have yB:=OS cG rF i i oi (aa8 _) iV dk q h;have mN:=((hR q).1 (by simp[hq])).2
     have Fj:q < listed.size:=by have:=(aa1.1 yK).1;omega
     simp[aa2,Fj]at yB mN;rw[yB]at mN;cases mN
    .exact h.1) e9
   obtain⟨o',sU,bz,hstep,e8⟩:=EH;rw[iV]at sU;obtain rfl:=AI sU;refine zI hg hstep hi iV fun w' aK a' bn oC=>?_
   have E5:(R1 ++ R2).Nodup:=by
    have:=sT;rw[List.nodup_append]at this ⊢;obtain⟨g1,g2,g3⟩:=this;exact⟨g1,(acx.1 g2).2,fun x hx y hy=>g3 x hx y (by simp[hy])⟩
   have EO:i ∉ R1 ++ R2:=by
    have:=sT;rw[List.nodup_append]at this;obtain⟨g1,g2,g3⟩:=this;intro hm
    rcases abr.1 hm with h | h
    .exact g3 i h i al rfl
    .exact (acx.1 g2).1 h
   refine ih (R1 ++ R2) _ w' aK a' bz (by simp at hl ⊢;omega) E5 (fun j=>?_) (by simpa using bc) ?_ ?_ e8 bn (br.trans oC)
   .by_cases l9:j=i
    .subst l9
     have rM:j < listed.size:=by rw[bc];exact (aa1.1 iV).1
     simp[rM];simpa using EO
    .rw[getD_set_ne true (abY l9)];rw[<- hR j];simp[l9]
   .rw[aci]at o6 ⊢;obtain⟨g1,g2,g3⟩:=o6;exact⟨g1,(abU.1 g2).2,fun x hx y hy=>g3 x hx y (by simp[hy])⟩
   .intro j oj fJ iN e he hb;by_cases l9:j=i
    .subst l9;rw[iV]at fJ;obtain rfl:=AI fJ;exact getD_set_true (dk e he hb)
    .rw[getD_set_ne false (abY l9)]at iN;exact getD_set_true (rF j oj fJ iN e he hb)
def tH (P:Program) (T:Ty) (Mv:Nat->Prop) (G:aF) (N:Fr) (ops:Array Oper) (K:St->Prop):List Oper->St->Prop
 | [],σ=>K σ
 | o :: rest,σ=>iy N o/\match jK ops σ.env o with
  | some b=>if b=true then (match eH o.op with
    | some c=>∃ y,xx P G σ c y/\tH P T Mv G N ops K rest ⟨aR σ.env o.dst (.d y),σ.H⟩
    | none=>oQ T G Mv o σ (tH P T Mv G N ops K rest)) else tH P T Mv G N ops K rest ⟨aR σ.env o.dst dA,σ.H⟩
  | none=>False
theorem YP {K:St->Prop}:∀ (l:List Oper) (k:Nat) (σ:St),(∀ j,l[j]? = ops[k+j]?)->tH P T Mv G N ops K l σ->∃ c6,K c6/\run P T Mv G N ops (List.range' k l.length) σ c6:=by
 intro l
 induction l with
 | nil=>intro k σ _ h;exact⟨σ,h,rfl⟩
 | cons o l ih=>
  intro k σ hl h
  have h0:ops[k]? = some o:=by simpa using (hl 0).symm
  have eX:∀ j,l[j]? = ops[k+1+j]?:=fun j=>by have:=hl (j+1);simpa[abZ,Nat.add_comm 1 j]using this
  obtain⟨hd,h⟩:=h;rw[aa9,List.range'_succ]
  have fin:∀ bz,xc P T Mv G N ops o σ bz->tH P T Mv G N ops K l bz->∃ c6,K c6/\run P T Mv G N ops (k :: List.range' (k+1) l.length) σ c6:=by
   intro bz hs hq;obtain⟨c6,hk,hr⟩:=ih (k+1) bz eX hq;exact⟨c6,hk,o,h0,bz,hs,hr⟩
  split at h
  .rename_i b hb;split at h
   .rename_i lJ;subst lJ;split at h
    .rename_i c hc;obtain⟨y,hy,h⟩:=h;refine fin _ ⟨hd,.inl ⟨hb,?_⟩⟩ h;unfold nw;simp only[hc];exact⟨y,hy,rfl⟩
    .rename_i hc;unfold oQ at h;split at h
     .rename_i hw;split at h
      .rename_i c x bz h1;refine fin _ ⟨hd,.inl ⟨hb,?_⟩⟩ h.2;unfold nw;simp only[hc];rw[if_pos hw];exact⟨c,x,bz,h1,h.1,rfl⟩
      .exact h.elim
     .rename_i hw;split at h
      .rename_i c x h1;refine fin _ ⟨hd,.inl ⟨hb,?_⟩⟩ h.2;unfold nw;simp only[hc];rw[if_neg hw];exact⟨c,x,h1,h.1,rfl⟩
      .exact h.elim
   .rename_i yb
    have:b=false:=by simpa using yb
    subst this;exact fin _ ⟨hd,.inr ⟨hb,rfl⟩⟩ h
  .exact h.elim
theorem NV (hg:Good P T) (hm:P.follows .mixedOrders=true) {id:Nat} (cG:p3 ops=true) {Q:Exit->St->Prop} {σ:St} (h:tH P T Mv G N ops (fun aP=>Q .normal aP) ops.toList σ):AW P Mv X G N (.region id ops true) Q σ:=fun w μ a hi=>by
 obtain⟨c6,hQ,e9⟩:=YP ops.toList 0 σ al h;refine wpIn_region_any hm ?_;obtain⟨bn,br⟩:=hi.pA (Mv:=Mv) (cT.drew w);refine Oq hg cG hQ ops.size (List.range' 0 ops.toList.length) _ w.drew μ a σ al (by simpa using List.nodup_range') (fun j=>?_) al (by simpa using List.pairwise_lt_range') ?_ e9 bn br
 .simp[List.mem_range'_1];intro h;simp[aa2,h]
 .intro j oj fJ iN;have hj:=(aa1.1 fJ).1;simp[aa2,hj]at iN
end
def eM (P:Program) (t:TypeId):Bool:=!P.stoodInHeld t && !P.eqGuardType P.depth t
def cN (P:Program):Ty:=fun t=>match P.underlying t,P.info? t with
 | some d,some i=>i.zero.map fun z=>⟨d,i.size,i.bytes,z,eM P t⟩
 | _,_=>none
theorem aw (P:Program):Good P (cN P):=by
 intro t ti h;unfold cN at h;split at h
 .rename_i d i hd hi;obtain⟨z,hz,rfl⟩:=AS.1 h;exact⟨hd,i,hi,rfl,rfl,hz,fun h=>by unfold eM at h;simpa using h⟩
 .cases h
end Go.Av
namespace Go.Av
def u0:List Nat->Env->List (Nat×AV)
 | [],_=>[]
 | i :: l,e=>match e i with
  | some x=>(i,x) :: u0 l e
  | none=>u0 l e
section
variable {P:Program} {T:Ty} {Mv X:Nat->Prop} {G:aF} {N:Fr} {σ:St}
theorem aY.env {e e':Env} {H:Heap} (h:∀ i x,e' i=some x->e i=some x):aY Mv X G N ⟨e,H⟩ ⟨e',H⟩:=fun w μ _ hi=>
 ⟨μ,⟨hi.bo,⟨hi.env.defers,hi.env.size,fun i x hx=>hi.env.slot i x (h i x hx)⟩,hi.iu⟩,.refl _ w μ⟩
theorem Gc {e:Env}:∀ {l:List Nat} {i:Nat} {x:AV},bl (u0 l e) i=some x->e i=some x
 | [],_,_,h=>by simp[bl,u0]at h
 | j :: l,i,x,h=>by
  simp only[u0]at h;split at h
  .rename_i y hy;simp only[bl,List.lookup]at h;split at h
   .rename_i oF
    have:i=j:=by simpa using oF
    subst this;obtain rfl:=AI h;exact hy
   .exact Gc (l:=l) h
  .exact Gc (l:=l) h
theorem ah {x y:Code} {Q:Exit->St->Prop} (h:∀ K:St->Prop,(∀ aP,AW P Mv X G N y Q aP->K aP)->AW P Mv X G N x (bY K Q) σ):AW P Mv X G N (.seq x y) Q σ:=qT (h _ fun _ h=>h)
theorem Gd:∀ {l:List (Nat×AV)} {i:Nat} {x:AV},bl l i=some x->(i,x)∈l
 | [],_,_,h=>by simp[bl]at h
 | (j,y) :: l,i,x,h=>by
  simp only[bl,List.lookup]at h;split at h
  .rename_i oF
   have:i=j:=by simpa using oF
   subst this;obtain rfl:=AI h;simp
  .exact acj _ (Gd (l:=l) h)
def cC (Mv X:Nat->Prop) (G:aF) (N:Fr) {S:Type} (I:S->Prop) (inv:S->St) (nJ:S->Nat) (s:S) (σ:St):Prop:=∃ s',I s'/\nJ s' < nJ s/\aY Mv X G N σ (inv s')
theorem cC.mk {S:Type} {I:S->Prop} {inv:S->St} {nJ:S->Nat} {s:S} (s':S) (hI:I s') (hm:nJ s' < nJ s) (h:aY Mv X G N σ (inv s')):cC Mv X G N I inv nJ s σ:=⟨s',hI,hm,h⟩
theorem eD {S:Type} {id:Nat} {c:Code} {Q:Exit->St->Prop} (I:S->Prop) (inv:S->St) (nJ:S->Nat) (s0:S) (h0:aY Mv X G N σ (inv s0)) (hI:I s0)
  (round:∀ s,I s->AW P Mv X G N c (bY (cC Mv X G N I inv nJ s) (b9 id Q)) (inv s)):AW P Mv X G N (.block id (.loop c)) Q σ:=
 bd (NQ (S:={s // I s}) (fun s=>inv s.1) (fun s=>nJ s.1) ⟨s0,hI⟩ h0 fun s=>(round s.1 s.2).mono fun e τ q=>by
  cases e with
  | normal=>obtain⟨s',h1,h2,h3⟩:=q;exact⟨⟨s',h1⟩,h2,h3⟩
  | _=>exact q)
theorem ga {c:Operand} {x y:Code} {Q:Exit->St->Prop} {b:Prop} [Decidable b] (hc:bG G σ.env c=some (.d (.v (.bool (decide b))))) (ht:b->AW P Mv X G N x Q σ) (hf:¬ b->AW P Mv X G N y Q σ):AW P Mv X G N (.cond c x y) Q σ:=
 tN (decide b) hc (fun h=>ht (of_decide_eq_true h)) (fun h=>hf (of_decide_eq_false h))
end
end Go.Av
namespace Go.Av
def zl (l:List AV):AV:=match kA l with
 | some ds=>.d (.bI ds)
 | none=>.bI l
def AV.tr (o f:Nat->Nat->Nat->AV):AV->AV
 | .d x=>.d x
 | .own q off n=>o q off n
 | .ref q e j=>f q e j
 | .agg cells=>oO (go o f cells)
 | .bI vs=>zl (go o f vs)
 | .b6 t x=>zk t (x.tr o f)
 | .fn g caps=>zj g (go o f caps)
 | .bm g x=>.bm g (x.tr o f)
 | .mp q=>match f q 0 0 with
  | .ref q' _ _=>.mp q'
  | _=>.dead
 | .dead=>.dead
where
 go (o f:Nat->Nat->Nat->AV):List AV->List AV
 | []=>[]
 | x :: l=>x.tr o f :: go o f l
theorem AV.xe (o f:Nat->Nat->Nat->AV) (l:List AV):AV.tr.go o f l=l.map (AV.tr o f):=by
 induction l with
 | nil=>rfl
 | cons x l ih=>simp[AV.tr.go,ih]
def Row.tr (o f:Nat->Nat->Nat->AV):Row->Row
 | .sl ty sz els=>.sl ty sz els
 | .box ty cells=>.box ty (cells.map (AV.tr o f))
 | .mp ty ents=>.mp ty ents
 | .it ents seen=>.it ents seen
def ly (o f:Nat->Nat->Nat->AV) (e:Env):Env:=fun i=>(e i).map (AV.tr o f)
def fM (keep:Nat->Bool) (o f:Nat->Nat->Nat->AV) (H:Heap):Heap:=fun r=>if keep r then (H r).map (Row.tr o f) else none
def cE (keep:Nat->Bool) (μ:Mu):Mu:=fun r=>if keep r then μ r else none
section
variable {P:Program} {T:Ty} {Mv X:Nat->Prop} {G:aF} {N:Fr} {w:World} {μ:Mu} {a:Act} {σ:St}
theorem B2 {u:Value} {l:List AV} (h:RV w X μ u (.bI l)):RV w X μ u (zl l):=by
 unfold zl;split
 .rename_i ds hd;rw[oV hd]at h;obtain⟨arr,rfl,hn,hr⟩:=h.xf;refine .d (.bI (by simpa using hn) fun j u c hu hc=>?_);exact (hr j u (.d c) hu (by rw[aa3,hc];rfl)).data
 .exact h
theorem ja {keep:Nat->Bool} {r:Nat} {m:jh} (h:cE keep μ r=some m):keep r=true/\μ r=some m:=by
 unfold cE at h;split at h
 .rename_i hk;exact⟨hk,h⟩
 .cases h
theorem Ac {keep:Nat->Bool} {b:Nat} (h:XX X (cE keep μ) b):XX X μ b:=h.elim .inl fun ⟨r,m,hr,hb⟩=>.inr ⟨r,m,(ja hr).2,hb⟩
theorem RV.tr {aK:Mu} {o f:Nat->Nat->Nat->AV} (hX:∀ b,XX X aK b->XX X μ b) (ho:∀ u r off n,RV w X μ u (.own r off n)->RV w X aK u (o r off n)) (hf:∀ u r e j,RV w X μ u (.ref r e j)->RV w X aK u (f r e j)) :
  ∀ {v:Value} {x:AV},RV w X μ v x->RV w X aK v (x.tr o f):=by
 intro v x hr
 induction hr with
 | d h'=>exact .d (h'.mono (aa8 _) fun b _ hb=>⟨rfl,fun e=>hb (hX b e)⟩)
 | own hm h'=>exact ho _ _ _ _ (.own hm h')
 | ref hm hb=>exact hf _ _ _ _ (.ref hm hb)
 | agg hn _ ih=>
  rw[AV.tr,AV.xe];refine zi (.agg (by simpa using hn) fun j u c hu hc=>?_);rw[aa3]at hc;obtain⟨c',dD,rfl⟩:=AS.1 hc;exact ih j u c' hu dD
 | bI hn _ ih=>
  rw[AV.tr,AV.xe];refine B2 (.bI (by simpa using hn) fun j u c hu hc=>?_);rw[aa3]at hc;obtain⟨c',dD,rfl⟩:=AS.1 hc;exact ih j u c' hu dD
 | b6 _ ih=>exact Gj ih
 | bm _ ih=>exact .bm ih
 | fn hn _ ih=>
  rw[AV.tr,AV.xe];refine Gi (by simpa using hn) fun j u c hu hc=>?_;rw[aa3]at hc;obtain⟨c',dD,rfl⟩:=AS.1 hc;exact ih j u c' hu dD
 | mp hm hb=>
  rename_i r b m;have h0:=hf _ _ _ _ (RV.ref (e:=0) (j:=0) hm hb);unfold AV.tr;split
  .rename_i q' e' j' hq;rw[hq]at h0;obtain⟨m',b',cD,bp,e⟩:=h0.jd;simp only[Value.pointer.injEq,BY,Addr.mk.injEq]at e;obtain⟨rfl,_⟩:=e;exact .mp cD bp
  .exact .dead _
 | dead u=>exact .dead u
theorem xI {keep:Nat->Bool} (hk:∀ r m,μ r=some m->keep r=false->Mv r):Ev Mv w μ w (cE keep μ):=by
 refine⟨aa8 _,rfl,rfl,rfl,fun b hb hr=>⟨rfl,?_⟩,fun q mq hq hn=>?_⟩
 .rintro⟨q,mq,hq,jR⟩;exact hr ⟨q,mq,(ja hq).2,jR⟩
 .unfold cE
  cases h:keep q with
  | true=>simpa using hq
  | false=>exact absurd (hk q mq hq h) hn
theorem In.tr {keep:Nat->Bool} {o f:Nat->Nat->Nat->AV} (hi:In w X G μ N a σ) (ho:∀ u r off n,RV w X μ u (.own r off n)->RV w X (cE keep μ) u (o r off n)) (hf:∀ u r e j,RV w X μ u (.ref r e j)->RV w X (cE keep μ) u (f r e j)) :
  In w X G (cE keep μ) N a ⟨ly o f σ.env,fM keep o f σ.H⟩:=by
 have hX:∀ b,XX X (cE keep μ) b->XX X μ b:=fun b=>Ac;have rz:∀ {u:Value} {x:D},RD w (XX X μ) u x->RD w (XX X (cE keep μ)) u x:=fun h=>h.mono (aa8 _) fun b _ hb=>⟨rfl,fun e=>hb (hX b e)⟩;have x4:∀ {u:Value} {x:AV},RV w X μ u x->RV w X (cE keep μ) u (x.tr o f):=fun h=>RV.tr hX ho hf h
 refine⟨⟨fun r row hr=>?_,fun r m hr=>?_,fun q q' m1 m2 b h1 h2 fi eV=>hi.bo.inj q q' m1 m2 b (ja h1).2 (ja h2).2 fi eV,fun q mq b hq hb=>hi.bo.frame q mq b (ja hq).2 hb,hi.bo.fits⟩,
  ⟨hi.env.defers,hi.env.size,fun i x hx=>?_⟩,fun g x hx=>rz (hi.iu g x hx)⟩
 .replace hr:fM keep o f σ.H r=some row:=hr;unfold fM at hr;split at hr
  .rename_i hk;obtain⟨nc,h0,rfl⟩:=AS.1 hr;obtain⟨m,hm,ok⟩:=hi.bo.rows r nc h0;refine⟨m,by simp[cE,hk,hm],?_⟩
   cases ok with
   | nil h1 h2=>exact .nil h1 h2
   | sl h1 h2 h3 h4 h5 h6 h7 h8 h9=>exact .sl h1 h2 h3 h4 h5 h6 h7 h8 fun i j el c he hc=>let ⟨u,hu,hr⟩:=h9 i j el c he hc;⟨u,hu,rz hr⟩
   | box h1 h2 h3 h4 h5 h6 h7=>
    refine .box h1 rfl h3 h4 (by simpa using h5) (fun j u c hu hc=>?_) (by simpa using h7);rw[aa3]at hc;obtain⟨c',dD,rfl⟩:=AS.1 hc;exact x4 (h6 j u c' hu dD)
   | mp h1 h2 h3 h4=>exact .mp h1 h2 h3 fun i e p he hp=>let ⟨a,b,c⟩:=h4 i e p he hp;⟨a,b,rz c⟩
   | it h1 h2 h3=>exact .it h1 h2 (rz h3)
  .cases hr
 .obtain⟨hk,hm⟩:=ja hr;obtain⟨row,eT⟩:=hi.bo.j6 r m hm;exact⟨row.tr o f,by simp[fM,hk,eT]⟩
 .replace hx:ly o f σ.env i=some x:=hx;unfold ly at hx;obtain⟨x0,h0,rfl⟩:=AS.1 hx;obtain⟨u,hu,hr⟩:=hi.env.slot i x0 h0;exact⟨u,hu,x4 hr⟩
theorem RV.Cg {keep:Nat->Bool} {u:Value} {r off n:Nat} (hk:keep r=true) (h:RV w X μ u (.own r off n)):RV w X (cE keep μ) u (.own r off n):=by
 obtain⟨m,hm,hh⟩:=h.lp;exact .own (by simp[cE,hk,hm]) hh
theorem RV.Cp {keep:Nat->Bool} {u:Value} {r e j:Nat} (hk:keep r=true) (h:RV w X μ u (.ref r e j)):RV w X (cE keep μ) u (.ref r e j):=by
 obtain⟨m,b,hm,hb,rfl⟩:=h.jd;exact .ref (by simp[cE,hk,hm]) hb
def fb (ns:List Nat) (q off n:Nat):AV:=if ns.contains q then .own q off n else .dead
def fa (ns:List Nat) (q e j:Nat):AV:=if ns.contains q then .ref q e j else .dead
def s8:List Nat->Heap->List (Nat×Row)
 | [],_=>[]
 | r :: l,H=>match H r with
  | some row=>(r,row) :: s8 l H
  | none=>s8 l H
theorem aY.only (ns:List Nat) (hm:∀ r,ns.contains r=false->Mv r):aY Mv X G N σ ⟨ly (fb ns) (fa ns) σ.env,fM ns.contains (fb ns) (fa ns) σ.H⟩:=fun w μ a hi=>by
 refine⟨cE ns.contains μ,hi.tr (fun u r off n h=>?_) (fun u r e j h=>?_),xI fun r _ _ h=>hm r h⟩
 .unfold fb;split
  .rename_i hk;exact h.Cg hk
  .exact .dead u
 .unfold fa;split
  .rename_i hk;exact h.Cp hk
  .exact .dead u
theorem JQ {H:Heap}:∀ {l:List Nat} {r:Nat},au (s8 l H) r=if l.contains r then H r else none
 | [],r=>by simp[au,s8]
 | q :: l,r=>by
  have ih:=JQ (H:=H) (l:=l) (r:=r);simp only[s8];split
  .rename_i row eT;simp only[au,List.lookup,List.contains_cons];split
   .rename_i wv
    have:r=q:=by simpa using wv
    subst this;simp[eT]
   .rename_i wv;rw[wv,Bool.false_or];exact ih
  .rename_i eT;rw[ih,List.contains_cons];by_cases wv:r=q
   .subst wv;simp[eT]
   .simp[wv]
def St.norm (l ns:List Nat) (σ:St):St:=⟨bl (u0 l (ly (fb ns) (fa ns) σ.env)),au (s8 ns (fM ns.contains (fb ns) (fa ns) σ.H))⟩
theorem Sh {ns:List Nat} {o f:Nat->Nat->Nat->AV} {H:Heap}:au (s8 ns (fM ns.contains o f H))=fM ns.contains o f H:=by
 funext r;rw[JQ];unfold fM;split<;>simp_all
theorem aY.norm (l ns:List Nat) (hm:∀ r,ns.contains r=false->Mv r):aY Mv X G N σ (σ.norm l ns):=by
 refine (aY.only ns hm).trans ?_;unfold St.norm;rw[Sh];exact aY.env fun _ _=>Gc
theorem aY.to {e:Env} {H:Heap} {l:List (Nat×AV)} {rows:List (Nat×Row)} (hm:∀ r,(rows.map (·.1)).contains r=false->Mv r) (he:∀ p∈l,(e p.1).map (AV.tr (fb (rows.map (·.1))) (fa (rows.map (·.1))))=some p.2)
  (hH:∀ r,au rows r=fM (rows.map (·.1)).contains (fb (rows.map (·.1))) (fa (rows.map (·.1))) H r):aY Mv X G N ⟨e,H⟩ ⟨Go.Av.bl l,au rows⟩:=by
 refine (aY.only (rows.map (·.1)) hm).trans ?_;have:au rows=fM (rows.map (·.1)).contains (fb (rows.map (·.1))) (fa (rows.map (·.1))) H:=funext hH;rw[this];exact aY.env fun i x hx=>he (i,x) (Gd hx)
theorem Cu {rows:List (Nat×Row)} {H:Heap} {o f:Nat->Nat->Nat->AV} (h:∀ p∈rows,(H p.1).map (Row.tr o f)=au rows p.1):∀ r,au rows r=fM (rows.map (·.1)).contains o f H r:=by
 intro r;unfold fM;split
 .rename_i hk;obtain⟨p,hp,rfl⟩:=abE.1 (ab1.1 hk);exact (h p hp).symm
 .rename_i hk
  have:∀ l:List (Nat×Row),¬ (l.map (·.1)).contains r=true->au l r=none:=by
   intro l
   induction l with
   | nil=>intro _;rfl
   | cons q l ih=>
    intro hc;simp only[abj,List.contains_cons,abD,not_or]at hc;simp only[au,List.lookup];split
    .rename_i h1;exact absurd h1 hc.1
    .exact ih hc.2
  exact this rows hk
theorem aY.fo {e:Env} {H:Heap} {l:List (Nat×AV)} {rows:List (Nat×Row)} (hm:∀ r,(rows.map (·.1)).contains r=false->Mv r) (he:∀ p∈l,(e p.1).map (AV.tr (fb (rows.map (·.1))) (fa (rows.map (·.1))))=some p.2)
  (hH:∀ p∈rows,(H p.1).map (Row.tr (fb (rows.map (·.1))) (fa (rows.map (·.1))))=au rows p.1):aY Mv X G N ⟨e,H⟩ ⟨Go.Av.bl l,au rows⟩:=aY.to hm he (Cu hH)
def AX (r:Nat) (els:List (List D)) (q off n:Nat):AV:=if q=r then (if off=0/\n=els.length then .d (.sl none els) else if off+n<=els.length then .d (.sl none ((els.drop off).take n)) else .dead) else .own q off n
def AU (r:Nat) (q e j:Nat):AV:=if q=r then .dead else .ref q e j
def iR (r:Nat) (q:Nat):Bool:=!(q == r)
def St.freeze (r:Nat) (σ:St):St:=match σ.H r with
 | some (.sl _ _ els)=>⟨ly (AX r els) (AU r) σ.env,fM (iR r) (AX r els) (AU r) σ.H⟩
 | _=>σ
theorem aY.freeze (r:Nat) (hm:Mv r):aY Mv X G N σ (σ.freeze r):=fun w μ a hi=>by
 unfold St.freeze;split
 .rename_i ty sz els hr
  have E3:(fun q=>if q=r then none else μ q)=cE (iR r) μ:=by
   funext q;unfold cE iR;by_cases h:q=r<;>simp[h]
  refine⟨cE (iR r) μ,hi.tr (fun u q off n h=>?_) (fun u q e j h=>?_),xI fun q _ _ hq=>by
   have e:q=r:=by simpa[iR]using hq
   exact e ▸ hm⟩
  .unfold AX;split
   .rename_i hq;subst hq
    have hd:∀ {off n:Nat},RV w X μ u (.own q off n)->off+n<=els.length->RV w X (cE (iR q) μ) u (.d (.sl none ((els.drop off).take n))):=fun h hle=>by
     obtain⟨k,hk,_⟩:=Gz hi.bo hr hle h;rw[E3]at hk;exact .d hk.tJ
    split
    .rename_i h2;obtain⟨rfl,rfl⟩:=h2;have:=hd h aa;simpa using this
    .split
     .rename_i hle;exact hd h hle
     .exact .dead u
   .rename_i hq;exact h.Cg (by simp[iR,hq])
  .unfold AU;split
   .exact .dead u
   .rename_i hq;exact h.Cp (by simp[iR,hq])
 .exact⟨μ,hi,.refl _ w μ⟩
def AQ (r:Nat) (ds:List D) (q e j:Nat):AV:=if q=r then (if e=0 then .d (.ip (ds.drop j)) else .dead) else .ref q e j
def AR (r:Nat) (q off n:Nat):AV:=if q=r then .dead else .own q off n
def St.qk (r:Nat) (σ:St):St:=match σ.H r with
 | some (.box _ cells)=>match kA cells with
  | some ds=>⟨ly (AR r) (AQ r ds) σ.env,fM (iR r) (AR r) (AQ r ds) σ.H⟩
  | none=>σ
 | _=>σ
theorem aY.qk (r:Nat) (hm:Mv r):aY Mv X G N σ (σ.qk r):=fun w μ a hi=>by
 unfold St.qk;split
 .rename_i ty cells hr;split
  .rename_i ds ld
   refine⟨cE (iR r) μ,hi.tr (fun u q off n h=>?_) (fun u q e j h=>?_),xI fun q _ _ hq=>by
    have e:q=r:=by simpa[iR]using hq
    exact e ▸ hm⟩
   .unfold AR;split
    .exact .dead u
    .rename_i hq;exact h.Cg (by simp[iR,hq])
   .unfold AQ;split
    .rename_i hq;subst hq;split
     .rename_i he;subst he;obtain⟨m,b,wg,hb,rfl⟩:=h.jd;obtain⟨m',cD,ok⟩:=hi.bo.rows q _ hr;rw[wg]at cD;obtain rfl:=AI cD
      cases ok with
      | box bp bc jl hh hn jE wG=>
       rename_i b' cur;rw[hb]at bp;obtain rfl:=AI bp;have gm:=oV ld
       have hlen:cells.length=ds.length:=by rw[gm,abq]
       simp only[ab6,abe];refine .d (.ip (f:=fun i=>cur.getD (j+i) undef) ?_ (aa1.1 hh).1 (fun i eO=>?_) fun i d iw=>?_)
       .rintro (hX | ⟨q',m',oH,Q9⟩)
        .exact hi.bo.frame q m b wg hb hX
        .obtain⟨hk,Sn⟩:=ja oH;have:=hi.bo.inj q' q m' m b Sn wg Q9 hb;simp[iR,this]at hk
       .simp only[abp]at eO;rw[cell_of_row w b (j+i) cur ty (0,0) hh];simp[aa2,show j+i < cur.size by omega]
       .have eO:=(By.1 iw).1;simp only[abp]at eO;rw[abB]at iw
        have hc:cells[j+i]? = some (.d d):=by rw[gm,aa3,iw];rfl
        have bf:j+i < cur.size:=aa
        have:=jE (j+i) cur[j+i] (.d d) (by simp[bf]) hc;simp only[aa2,bf,abn,acs];exact this.data.sub fun b=>Ac
     .exact .dead u
    .rename_i hq;exact h.Cp (by simp[iR,hq])
  .exact⟨μ,hi,.refl _ w μ⟩
 .exact⟨μ,hi,.refl _ w μ⟩
def St.xQ (r:Nat) (σ:St):St:=(σ.freeze r).qk r
theorem aY.xQ (r:Nat) (hm:Mv r):aY Mv X G N σ (σ.xQ r):=(aY.freeze r hm).trans (aY.qk r hm)
theorem aY.qb (i r ty sz:Nat) {e:Env} {H:Heap} (hr:H r=none) (he:e i=some (.d (.sl (some false) []))):aY Mv X G N ⟨e,H⟩ ⟨ik e i (.own r 0 0),bk H r (.sl ty sz [])⟩:=fun w μ a hi=>by
 obtain⟨bn,ev⟩:=hi.alloc (Mv:=Mv) (w':=w) (m:=⟨none,sz,0⟩) hr (cT.refl w) al (row:=.sl ty sz []) fun _=>.nil rfl rfl;refine⟨eo μ r ⟨none,sz,0⟩,⟨bn.bo,⟨bn.env.defers,bn.env.size,fun j x hx=>?_⟩,bn.iu⟩,ev⟩;simp only[ik]at hx;split at hx
 .rename_i hj;subst hj;obtain rfl:=AI hx;obtain⟨u,hu,gp⟩:=hi.env.slot j _ he;refine⟨u,hu,.own (m:=⟨none,sz,0⟩) (by simp[eo]) (.inl ⟨rfl,?_,rfl,rfl⟩)⟩
  rcases gp.data.oT with⟨rfl,_⟩ | ⟨_,_,_,hk,_⟩
  .rfl
  .exact absurd rfl hk
 .exact bn.env.slot j x hx
end
end Go.Av
namespace Go.Av
theorem O1 (a b:Int):(a != b)=decide (¬ a=b):=by by_cases h:a=b<;>simp[h]
theorem OT (a b:Int):(a == b)=decide (a=b):=by by_cases h:a=b<;>simp[h]
theorem aL {α β:Type} (f:α->β) (l:List α):List.take l.length (List.map f l)=List.map f l:=sh al
def rowsOf (H:Heap):Nat->AV->List Nat
 | 0,_=>[]
 | _+1,.own r _ _=>[r]
 | k+1,.ref r _ _=>match H r with
  | some (.box _ cells)=>go H k cells ++ [r]
  | _=>[]
 | k+1,.agg cells=>go H k cells
 | k+1,.b6 _ x=>rowsOf H k x
 | _+1,_=>[]
where
 go (H:Heap) (k:Nat):List AV->List Nat
 | []=>[]
 | x :: l=>rowsOf H k x ++ go H k l
def pz:List Nat->St->St
 | [],σ=>σ
 | r :: l,σ=>pz l (σ.xQ r)
def w5 (G:aF) (o:Oper) (σ:St):St:=match o.op with
 | .buildSlice _ _ parts=>match lG G σ.env parts.toList with
  | some ps=>pz (rowsOf.go σ.H 6 (ps.map (·.2))) σ
  | none=>σ
 | .mapUpdate _ _ _ v=>match bG G σ.env v with
  | some x=>pz (rowsOf σ.H 6 x) σ
  | none=>σ
 | .insert _ _ _ v=>match bG G σ.env v with
  | some x=>pz (rowsOf σ.H 6 x) σ
  | none=>σ
 | _=>σ
def Cj (G:aF) (o:Oper) (σ:St):List Nat:=match o.op with
 | .buildSlice _ _ parts=>match lG G σ.env parts.toList with
  | some ps=>rowsOf.go σ.H 6 (ps.map (·.2))
  | none=>[]
 | .mapUpdate _ _ _ v=>match bG G σ.env v with
  | some x=>rowsOf σ.H 6 x
  | none=>[]
 | .insert _ _ _ v=>match bG G σ.env v with
  | some x=>rowsOf σ.H 6 x
  | none=>[]
 | _=>[]
def ch (P:Program) (Mv X:Nat->Prop) (G:aF) (N:Fr) (g:FuncId) (xs:List AV) (σ:St) (dst:Option Tmp) (next:St->Prop):Prop:=
 kD P Mv X G N g xs σ fun x aP=>next ⟨aR aP.env dst x,aP.H⟩
def lC (P:Program) (G:aF) (c:Call) (σ:St) (dst:Option Tmp) (next:St->Prop):Prop:=∃ y,xx P G σ c y/\next ⟨aR σ.env dst (.d y),σ.H⟩
def vM (P:Program) (T:Ty) (Mv X:Nat->Prop) (G:aF) (N:Fr) (o:Oper) (σ:St) (next:St->Prop):Prop:=match eH o.op with
 | some c=>match lx G σ.env c with
  | some (g,xs)=>ch P Mv X G N g xs σ o.dst next
  | none=>False
 | none=>(∀ r∈Cj G o σ,Mv r)/\oQ T G Mv o (w5 G o σ) next
def je (P:Program) (T:Ty) (Mv X:Nat->Prop) (G:aF) (N:Fr) (ops:Array Oper) (K:St->Prop):List Oper->St->Prop
 | [],σ=>K σ
 | o :: rest,σ=>iy N o/\match jK ops σ.env o with
  | some b=>if b=true then vM P T Mv X G N o σ (je P T Mv X G N ops K rest) else je P T Mv X G N ops K rest ⟨aR σ.env o.dst dA,σ.H⟩
  | none=>False
def nT (P:Program) (T:Ty) (Mv:Nat->Prop) (G:aF) (N:Fr) (ops:Array Oper) (K:St->Prop):List Oper->St->Prop
 | [],σ=>K σ
 | o :: rest,σ=>iy N o/\match jK ops σ.env o with
  | some b=>if b=true then (match eH o.op with
    | some c=>lC P G c σ o.dst (nT P T Mv G N ops K rest)
    | none=>oQ T G Mv o σ (nT P T Mv G N ops K rest)) else nT P T Mv G N ops K rest ⟨aR σ.env o.dst dA,σ.H⟩
  | none=>False
section
variable {P:Program} {T:Ty} {Mv X:Nat->Prop} {G:aF} {N:Fr} {w:World} {μ:Mu} {a:Act} {σ:St}
theorem Na {ops:Array Oper} {K:St->Prop}:∀ (l:List Oper),nT P T Mv G N ops K l=tH P T Mv G N ops K l
 | []=>rfl
 | o :: l=>by
  funext σ;simp only[nT,tH,lC,Na l]
  all_goals rfl
theorem aY.pz:∀ (l:List Nat) {σ:St},(∀ r∈l,Mv r)->aY Mv X G N σ (Go.Av.pz l σ)
 | [],σ,_=>.refl σ
 | r :: l,_,hm=>(aY.xQ r (hm r al)).trans (aY.pz l fun q hq=>hm q (by simp[hq]))
theorem aY.w5 (o:Oper) (hm:∀ r∈Cj G o σ,Mv r):aY Mv X G N σ (Go.Av.w5 G o σ):=by
 unfold Go.Av.w5;unfold Cj at hm;split
 .rename_i ho;simp only[ho]at hm;split
  .rename_i hp;simp only[hp]at hm;exact .pz _ hm
  .exact .refl σ
 .rename_i ho;simp only[ho]at hm;split
  .rename_i hp;simp only[hp]at hm;exact .pz _ hm
  .exact .refl σ
 .rename_i ho;simp only[ho]at hm;split
  .rename_i hp;simp only[hp]at hm;exact .pz _ hm
  .exact .refl σ
 .exact .refl σ
theorem Qf (hg:Good P T) (hi:In w X G μ N a σ) {o:Oper} {K:St->Prop} (hd:∀ d,o.dst=some d->d < N.n) (h:vM P T Mv X G N o σ K) {Q:Exit->Act->World->Prop} {next:Act->World->Prop}
  (hk:∀ w' aK a' aP,K aP->In w' X G aK N a' aP->Ev Mv w μ w' aK->next a' w'):o.wpIn (wd N.ro) 0 P a w next Q:=by
 unfold vM at h;split at h
 .rename_i c hc;refine xK (Mv:=Mv) hg hi hd ?_ hk;unfold lH;rw[hc];dsimp only;split at h
  .rename_i ht;rw[ht];exact h
  .exact h.elim
 .rename_i hc;obtain⟨ku,pF,sG⟩:=aY.w5 (Mv:=Mv) (X:=X) o h.1 w μ a hi;refine xK (Mv:=Mv) hg pF (K:=K) hd ?_ fun w' aK a' aP k bn br=>hk w' aK a' aP k bn (sG.trans br);unfold lH;rw[hc];exact h.2
theorem YK (hg:Good P T) {ops:Array Oper} {Q:Exit->St->Prop} {w0:World} {mn:Mu}:∀ (l:List Oper) (k:Nat) (w:World) (μ:Mu) (a:Act) (σ:St),(∀ j,l[j]? = ops[k+j]?)->je P T Mv X G N ops (fun aP=>Q .normal aP) l σ->In w X G μ N a σ->Ev Mv w0 mn w μ->
  wpOpsIn (wd N.ro) 0 P ops (After Mv X G N w0 mn Q) (List.range' k l.length) a w:=by
 intro l
 induction l with
 | nil=>intro k w μ a σ _ h hi br;exact⟨μ,σ,h,hi,br⟩
 | cons o l ih=>
  intro k w μ a σ hl h hi br
  have h0:ops[k]? = some o:=by simpa using (hl 0).symm
  have eX:∀ j,l[j]? = ops[k+1+j]?:=fun j=>by have:=hl (j+1);simpa[abZ,Nat.add_comm 1 j]using this
  obtain⟨hd,h⟩:=h
  have iw:∀ d,o.dst=some d->d < N.n:=fun d e=>by unfold iy at hd;rw[e]at hd;exact hd
  rw[aa9,List.range'_succ];simp only[wpOpsIn,h0];split at h
  .rename_i b hb;rw[vl hi hb];split at h
   .rename_i lJ;subst lJ;rw[if_pos rfl];exact (Qf hg hi iw h fun w' aK a' aP k' bn oC=>ih (k+1) w' aK a' aP eX k' bn (br.trans oC))
   .rename_i yb;rw[if_neg (by simpa using yb)];exact⟨fun _ _=>trivial,ih (k+1) w μ _ _ eX h (hi.put (.d (.v _)) iw) br⟩
  .exact h.elim
theorem HF (hg:Good P T) {id:Nat} {ops:Array Oper} {Q:Exit->St->Prop} (h:je P T Mv X G N ops (fun aP=>Q .normal aP) ops.toList σ):AW P Mv X G N (.region id ops false) Q σ:=fun w μ a hi=>by
 refine wpIn_region ?_;have:=YK hg ops.toList 0 w μ a σ al h hi (.refl _ w μ)
 rwa [<- List.range_eq_range',abO]at this
theorem HE (hg:Good P T) (hm:P.follows .mixedOrders=true) {id:Nat} {ops:Array Oper} (cG:p3 ops=true) {Q:Exit->St->Prop} (h:nT P T Mv G N ops (fun aP=>Q .normal aP) ops.toList σ):AW P Mv X G N (.region id ops true) Q σ:=by
 rw[Na]at h;exact NV hg hm cG h
theorem AW.norm (l ns:List Nat) (hM:∀ r,ns.contains r=false->Mv r) {c:Code} {Q:Exit->St->Prop} (h:AW P Mv X G N c Q (σ.norm l ns)):AW P Mv X G N c Q σ:=AW.imp (aY.norm l ns hM) h
theorem AW.st {τ:St} {c:Code} {Q:Exit->St->Prop} (h:σ=τ) (h':AW P Mv X G N c Q τ):AW P Mv X G N c Q σ:=h ▸ h'
theorem AW.U1 (i:Nat) {e:Env} {H:Heap} {els:List (List D)} {c:Code} {Q:Exit->St->Prop} (he:e i=some (.d (.sl none els))) (h1:AW P Mv X G N c Q ⟨ik e i (.d (.sl (some true) els)),H⟩)
  (h2:els=[]->AW P Mv X G N c Q ⟨ik e i (.d (.sl (some false) [])),H⟩):AW P Mv X G N c Q ⟨e,H⟩:=fun w μ a hi=>by
 obtain⟨u,hu,hr⟩:=hi.env.slot i _ he
 have put:∀ {y:D},RD w (XX X μ) u y->In w X G μ N a ⟨ik e i (.d y),H⟩:=fun hy=>⟨hi.bo,⟨hi.env.defers,hi.env.size,fun j x hx=>by
  simp only[ik]at hx;split at hx
  .rename_i hj;subst hj;obtain rfl:=AI hx;exact⟨u,hu,.d hy⟩
  .exact hi.env.slot j x hx⟩,hi.iu⟩
 have hd:=hr.data;generalize hy:D.sl none els=y at hd
 cases hd with
 | nil hk=>cases hy;exact h2 rfl w μ a (put (.nil al))
 | empty hk hm=>cases hy;exact h1 w μ a (put (.empty al hm))
 | sl a1 a2 a3 a4 a5 a6 a7 a8 a9 Ob=>cases hy;exact h1 w μ a (put (.sl al a2 a3 a4 a5 a6 a7 a8 a9 Ob))
 | _=>cases hy
theorem NW (hg:Good P T) (l ns:List Nat) (hM:∀ r,ns.contains r=false->Mv r) {id:Nat} {ops:Array Oper} {y:Code} {Q:Exit->St->Prop} (h:∀ K:St->Prop,(∀ τ:St,AW P Mv X G N y Q (τ.norm l ns)->K τ)->je P T Mv X G N ops K ops.toList σ):AW P Mv X G N (.seq (.region id ops false) y) Q σ:=
 qT (HF hg (h _ fun _ h=>h.norm l ns hM))
theorem rg {P:Program} {Mv X:Nat->Prop} {G:aF} {N:Fr} {σ:St} (l ns:List Nat) (hM:∀ r,ns.contains r=false->Mv r) {id:Nat} {ops:Array Oper} {y:Code} {Q:Exit->St->Prop} (h:∀ K:St->Prop,(∀ τ:St,AW P Mv X G N y Q (τ.norm l ns)->K τ)->je P (cN P) Mv X G N ops K ops.toList σ):AW P Mv X G N (.seq (.region id ops false) y) Q σ:=NW (aw _) l ns hM h
theorem lZ (hg:Good P T) (hm:P.follows .mixedOrders=true) (l ns:List Nat) (hM:∀ r,ns.contains r=false->Mv r) {id:Nat} {ops:Array Oper} (cG:p3 ops=true) {y:Code} {Q:Exit->St->Prop} (h:∀ K:St->Prop,(∀ τ:St,AW P Mv X G N y Q (τ.norm l ns)->K τ)->nT P T Mv G N ops K ops.toList σ):AW P Mv X G N (.seq (.region id ops true) y) Q σ:=
 qT (HE hg hm cG (h _ fun _ h=>h.norm l ns hM))
theorem ea (hg:Good P T) {id:Nat} {ops:Array Oper} {Q:Exit->St->Prop} (h:∀ K:St->Prop,(∀ τ:St,Q .normal τ->K τ)->je P T Mv X G N ops K ops.toList σ):AW P Mv X G N (.region id ops false) Q σ:=
 HF hg (h _ fun _ h=>h)
theorem C1 (hg:Good P T) (hm:P.follows .mixedOrders=true) {id:Nat} {ops:Array Oper} (cG:p3 ops=true) {Q:Exit->St->Prop} (h:∀ K:St->Prop,(∀ τ:St,Q .normal τ->K τ)->nT P T Mv G N ops K ops.toList σ):AW P Mv X G N (.region id ops true) Q σ:=
 HE hg hm cG (h _ fun _ h=>h)
def Cs (T:Ty) (σ:St):ResultVar->jy
 | .tmp t=>(σ.env t).map fun x=>(True,x)
 | .cell a t=>(σ.env a).bind (mW T σ.H t)
def tB (T:Ty) (σ:St):List ResultVar->Option (Prop×List AV)
 | []=>some (True,[])
 | r :: l=>match Cs T σ r,tB T σ l with
  | some (c,x),some (c',xs)=>some (c/\c',x :: xs)
  | _,_=>none
def oneOf:List AV->AV
 | [x]=>x
 | l=>zl l
def D.le:D->D->Prop
 | .sl k els,.sl k' mB=>(k'=none\/k=k')/\els=mB
 | .bI l,.bI l'=>go l l'
 | .agg l,.agg l'=>go l l'
 | .ip l,.ip l'=>go l l'
 | .b6 t x,.b6 t' x'=>t=t'/\x.le x'
 | .fn f l,.fn f' l'=>f=f'/\go l l'
 | .dm x l,.dm x' l'=>(x'=true->x=true/\l=l')/\l.Perm l'
 | x,y=>x=y
where
 go:List D->List D->Prop
 | [],[]=>True
 | x :: l,y :: l'=>x.le y/\go l l'
 | _,_=>False
def vJ (T:Ty) (rs:List ResultVar) (y:D) (σ:St):Prop:=match tB T σ rs with
 | some (c,xs)=>c/\match fg σ.H 6 (oneOf xs) with
  | some y'=>y'.le y
  | none=>False
 | none=>False
def Dm (T:Ty) (rs:List ResultVar) (y:D):Exit->St->Prop
 | .normal,σ | .ret,σ=>vJ T rs y σ
 | _,_=>False
theorem D.uZ:∀ {l l':List D},D.le.go l l'->l.length=l'.length/\∀ (j:Nat) (x y:D),l[j]? = some x->l'[j]? = some y->x.le y
 | [],[],_=>⟨rfl,al⟩
 | x :: l,y :: l',h=>by
  simp only[D.le.go]at h;obtain⟨h1,h2⟩:=D.uZ h.2;refine⟨by simp[h1],fun j a b ha hb=>?_⟩
  cases j with
  | zero=>simp at ha hb;subst ha hb;exact h.1
  | succ j=>simp at ha hb;exact h2 j a b ha hb
 | [],_ :: _,h=>by simp only[D.le.go]at h
 | _ :: _,[],h=>by simp only[D.le.go]at h
theorem D.zg {l l':List D} (hg:D.le.go l l') {j:Nat} {c:D} (hc:l'[j]? = some c):∃ x,l[j]? = some x/\x.le c:=by
 obtain⟨hl,hh⟩:=D.uZ hg;have hj:=(By.1 hc).1
 have fH:j < l.length:=aa
 exact⟨l[j],by simp[fH],hh j _ c (by simp[fH]) hc⟩
theorem RD.le {w:World} {X:Nat->Prop} {u:Value} {x:D} (hr:RD w X u x):∀ {y:D},x.le y->RD w X u y:=by
 induction hr with
 | v x=>intro y h;cases y<;>simp only[D.le,reduceCtorEq]at h;exact h ▸ .v x
 | nil hk=>
  intro y h;cases y<;>simp only[D.le,reduceCtorEq]at h;obtain⟨h1 | h1,rfl⟩:=h
  .exact .nil (by simp[h1])
  .exact .nil (h1 ▸ hk)
 | empty hk hm=>
  intro y h;cases y<;>simp only[D.le,reduceCtorEq]at h;obtain⟨h1 | h1,rfl⟩:=h
  .exact .empty (by simp[h1]) hm
  .exact .empty (h1 ▸ hk) hm
 | sl h1 h2 h3 h4 h5 h6 h7 h8 h9 A6=>
  intro y h;cases y<;>simp only[D.le,reduceCtorEq]at h;obtain⟨e1 | e1,rfl⟩:=h
  .exact .sl (by simp[e1]) h2 h3 h4 h5 h6 h7 h8 h9 A6
  .exact .sl (e1 ▸ h1) h2 h3 h4 h5 h6 h7 h8 h9 A6
 | ip hX hb dW hr ih=>
  intro y h;cases y<;>simp only[D.le,reduceCtorEq]at h;obtain⟨hl,_⟩:=D.uZ h;refine .ip hX hb (fun j hj=>dW j aa) fun j c hc=>?_;obtain⟨x,hx,hle⟩:=D.zg h hc;exact ih j x hx hle
 | agg hn hr ih=>
  intro y h;cases y<;>simp only[D.le,reduceCtorEq]at h;obtain⟨hl,_⟩:=D.uZ h;refine .agg aa fun j u c hu hc=>?_;obtain⟨x,hx,hle⟩:=D.zg h hc;exact ih j u x hu hx hle
 | bI hn hr ih=>
  intro y h;cases y<;>simp only[D.le,reduceCtorEq]at h;obtain⟨hl,_⟩:=D.uZ h;refine .bI aa fun j u c hu hc=>?_;obtain⟨x,hx,hle⟩:=D.zg h hc;exact ih j u x hu hx hle
 | b6 hr ih=>
  intro y h;cases y<;>simp only[D.le,reduceCtorEq]at h;obtain⟨rfl,h⟩:=h;exact .b6 (ih h)
 | nW hX hh=>
  intro y h;cases y<;>simp only[D.le,reduceCtorEq]at h;injection h with h;exact h ▸ .nW hX hh
 | dm hX hh hp hx=>
  intro y h;cases y<;>simp only[D.le,reduceCtorEq]at h;exact .dm hX hh (hp.trans h.2) fun e=>(hx (h.1 e).1).trans (h.1 e).2
 | fn hn hr ih=>
  intro y h;cases y<;>simp only[D.le,reduceCtorEq]at h;obtain⟨rfl,h⟩:=h;obtain⟨hl,_⟩:=D.uZ h;refine .fn aa fun j u c hu hc=>?_;obtain⟨x,hx,hle⟩:=D.zg h hc;exact ih j u x hu hx hle
theorem aH.tJ {g:FuncId} {ds gl:List D} {y:D} (hc:aH P G g ds y) (h:D.le.go gl ds):aH P G g gl y:=by
 refine⟨hc.1,fun X w μ vs hs cY hn hv=>hc.2 X w μ vs hs cY (by simpa[(D.uZ h).1]using hn) fun i u x hu hx=>?_⟩;rw[aa3]at hx;obtain⟨d,hd,rfl⟩:=AS.1 hx;obtain⟨x,hx,hle⟩:=D.zg h hd;exact .d ((hv i u (.d x) hu (by rw[aa3,hx];rfl)).data.le hle)
theorem ch.data {g:FuncId} {xs:List AV} {ds gl:List D} {y:D} {dst:Option Tmp} {next:St->Prop} (hc:aH P G g ds y) (hx:kA xs=some gl) (hle:D.le.go gl ds) (h:next ⟨aR σ.env dst (.d y),σ.H⟩):ch P Mv X G N g xs σ dst next:=by
 unfold ch;rw[oV hx];exact kD.pure (hc.tJ hle) h
theorem WM {g:FuncId} {xs:List AV} {ds gl:List D} {y:D} {dst:Option Tmp} {next:St->Prop} (hc:aH P G g ds y) (hx:kA xs=some gl) (h:next ⟨aR σ.env dst (.d y),σ.H⟩) (hle:D.le.go gl ds:=by first | exact D.aV _ | simp[aL,IS,AT,D.le,D.le.go,D.le_refl,D.aV]):ch P Mv X G N g xs σ dst next:=ch.data hc hx hle h
theorem ch.kU {g:FuncId} {xs:List AV} {ds gl:List D} {y:D} {dst:Option Tmp} {next:St->Prop} (hc:aH P G g ds y) (hx:kB (fg σ.H 4) xs=some gl) (hle:D.le.go gl ds) (hy:y.scalar=true) (h:next ⟨aR σ.env dst (.d y),σ.H⟩):ch P Mv X G N g xs σ dst next:=
 kD.kU hx (hc.tJ hle) hy h
theorem lC.data {c:Call} {g:FuncId} {xs:List AV} {ds gl:List D} {y:D} {dst:Option Tmp} {next:St->Prop} (hc:aH P G g ds y) (ht:lx G σ.env c=some (g,xs)) (hx:kA xs=some gl) (hle:D.le.go gl ds) (h:next ⟨aR σ.env dst (.d y),σ.H⟩):lC P G c σ dst next:=
 ⟨y,⟨g,xs,ht,.inl ⟨gl,oV hx,hc.tJ hle⟩⟩,h⟩
theorem HX (H:Heap) (k:Nat):∀ (ds:List D),kB (fg H k) (ds.map .d)=some ds
 | []=>rfl
 | d :: ds=>by simp[kB,HX H k ds];cases k<;>simp[fg]
theorem D.le_refl (x:D):x.le x:=by
 have key:∀ n,∀ x:D,SizeOf.sizeOf x < n->x.le x:=by
  intro n
  induction n with
  | zero=>intro x h;omega
  | succ n ih=>
   intro x h
   have go:∀ l:List D,SizeOf.sizeOf l < n->D.le.go l l:=by
    intro l
    induction l with
    | nil=>intro _;simp[D.le.go]
    | cons y l za=>
     intro hl;simp only[List.cons.sizeOf_spec]at hl;exact⟨ih y aa,za aa⟩
   cases x<;>simp only[D.le]<;>simp at h ⊢
   .exact go _ aa
   .exact go _ aa
   .exact go _ aa
   .exact ih _ aa
   .exact go _ aa
 exact key _ x (Nat.lt_succ_self _)
theorem D.aV:∀ l:List D,D.le.go l l
 | []=>trivial
 | x :: l=>⟨D.le_refl x,D.aV l⟩
theorem V4 (hg:Good P T) (hi:In w X G μ N a σ) {r:ResultVar} {c:Prop} {x:AV} (h:Cs T σ r=some (c,x)) (hc:c) :
  ∃ v,(match r with | .tmp t=>(pure (a.tmps.getD t undef):Sem Value) | .cell b t=>do loadVar t (<- asAddr (a.tmps.getD b undef))).run P w = .ok v w/\RV w X μ v x:=by
 cases r with
 | tmp t=>
  simp only[Cs,AS,aa4]at h;obtain⟨y,hy,_,rfl⟩:=h;obtain⟨u,hu,hr⟩:=hi.env.slot t y hy;exact⟨u,by simp[aa2,hu],hr⟩
 | cell b t=>
  obtain⟨y,hy,hl⟩:=abd.1 h;obtain⟨u,hu,hr⟩:=hi.env.slot b y hy;obtain⟨v,hv,gp⟩:=Lg (P:=P) hg hi.bo hl hc hr;refine⟨v,?_,gp⟩
  have e:a.tmps.getD b undef=u:=by simp[aa2,hu]
  dsimp only;rw[e];unfold mW at hl;split at hl
  .obtain⟨b,off,f,rfl,_⟩:=hr.data.pV;simpa[Instr.loadAt,Instr.sureAddr,asAddr]using hv
  .obtain⟨m,b,hm,hb,rfl⟩:=hr.jd;simpa[Instr.loadAt,Instr.sureAddr,asAddr]using hv
  .cases hl
theorem V2 (hg:Good P T) (hi:In w X G μ N a σ):∀ {rs:List ResultVar} {c:Prop} {xs:List AV},tB T σ rs=some (c,xs)->c->
  ∃ vs:List Value,(rs.mapM (m:=Sem) fun | .tmp t=>pure (a.tmps.getD t undef) | .cell b t=>do loadVar t (<- asAddr (a.tmps.getD b undef))).run P w = .ok vs w/\vs.length=xs.length/\∀ (j:Nat) (u:Value) (x:AV),vs[j]? = some u->xs[j]? = some x->RV w X μ u x:=by
 intro rs
 induction rs with
 | nil=>
  intro c xs h hc;simp only[tB,BY,aa4]at h;obtain⟨_,rfl⟩:=h;exact⟨[],al,rfl,al⟩
 | cons r rs ih=>
  intro c xs h hc;simp only[tB]at h;split at h
  .rename_i c1 x c2 NI h1 h2;obtain⟨rfl,rfl⟩:=dI h;obtain⟨v,hv,hr⟩:=V4 (P:=P) hg hi h1 hc.1;obtain⟨vs,FA,hl,jW⟩:=ih h2 hc.2;refine⟨v :: vs,?_,by simp[hl],fun j u x hu hx=>?_⟩
   .rw[List.mapM_cons,Sem.run_bind,hv,Result.andThen_ok,Sem.run_bind,FA,Result.andThen_ok,Sem.run_pure]
   .cases j with
    | zero=>simp at hu hx;subst hu hx;exact hr
    | succ j=>simp at hu hx;exact jW j u x hu hx
  .cases h
theorem GP (hg:Good P T) (hi:In w X G μ N a σ) {fn:Func} {rs:List ResultVar} (jW:fn.results=rs.toArray) {c:Prop} {xs:List AV} (h:tB T σ rs=some (c,xs)) (hc:c) :
  ∃ v,(results fn a.tmps).run P w = .ok v w/\RV w X μ v (oneOf xs):=by
 obtain⟨vs,FA,hl,hr⟩:=V2 (P:=P) hg hi h hc;refine⟨if h:vs.toArray.size=1 then vs.toArray[0] else .tuple vs.toArray,?_,?_⟩
 .unfold results;rw[jW,Array.mapM_eq_mapM_toList,Sem.run_bind];simp only[map_eq_pure_bind,Sem.run_bind]
  erw[FA]
  rfl
 .match xs,vs,hl,hr with
  | [],[],_,hr=>exact B2 (l:=[]) (.bI (arr:=#[]) (cells:=[]) rfl al)
  | [x],[v],_,hr=>exact hr 0 v x rfl rfl
  | x :: y :: xs,v :: u :: vs,hl,hr=>
   have:¬ (v :: u :: vs).toArray.size=1:=al
   rw[dif_neg this];exact B2 (.bI (by simpa using hl) fun j u c hu hc=>hr j u c (by simpa using hu) hc)
theorem aH.aU (hg:Good P T) {g:FuncId} {fn:Func} {c:Code} {rs:List ResultVar} {ds:List D} {y:D} (hf:P.funcs[g]? = some fn) (hb:fn.body=some c) (hn:(fn.name == "runtime.NumGoroutine")=false) (jW:fn.results=rs.toArray)
  (hN:ds.length<=fn.ntmps) (h:∀ X,AW P (fun _=>True) X G ⟨fn.ntmps,[],none⟩ c (Dm T rs y) ⟨args (ds.map .d),eQ⟩):aH P G g ds y:=by
 refine⟨fU.of hf hb hn,fun X w μ vs hs cY bc hv=>?_⟩
 have fin:∀ (w':World) (aK:Mu) (a':Act) (aP:St),vJ T rs y aP->In w' X G aK ⟨fn.ntmps,[],none⟩ a' aP->Ev (fun _=>True) w μ w' aK->∃ v,(results fn a'.tmps).run P w' = .ok v w'/\∃ v_1 x H' aK,Ending.returned v=Ending.returned v_1/\(x = .d y/\H'=eQ)/\RV w' X aK v_1 x/\eu w' X aK H'/\Ev (fun _=>True) w μ w' aK:=by
  intro w' aK a' aP he hi br;unfold vJ at he;split at he
  .rename_i c xs hx;obtain⟨hc,he⟩:=he;split at he
   .rename_i y' hy;obtain⟨v,hv,hr⟩:=GP (P:=P) hg hi jW hx hc;have cm:=(Dk hi.bo 6 hy hr).le he;refine⟨v,hv,v,.d y,eQ,fun _=>none,rfl,⟨rfl,rfl⟩,.d (cm.sub fun b=>nj.1),eu.none hi.bo.fits,br.size,br.os,br.tape,br.output,fun b hb hr=>⟨(br.same b hb hr).1,fun ⟨_,_,h,_⟩=>by cases h⟩,fun r m _ hn=>absurd trivial hn⟩
   .exact he.elim
  .exact he.elim
 refine calls_of_wp hf hb ((wpIn_wide (n:=0)).1 (wpIn_mono (h X w μ _ ⟨hs,⟨rfl,by simp;simp at bc;omega,fun i x hx=>?_⟩,cY⟩) fun e a' w' ⟨aK,aP,q,i,ev⟩=>?_))
 .simp only[args]at hx;have hi:i < (ds.map AV.d).length:=(By.1 hx).1
  have s3:vs[i]? = some vs[i]:=by rw[abn]
  exact⟨vs[i],by rw[abM aa,s3],hv i _ x s3 hx⟩
 .cases e with
  | normal=>
   obtain⟨v,hv,rest⟩:=fin w' aK a' aP q i ev;exact⟨i.env.defers,v,hv,rest⟩
  | ret=>
   obtain⟨v,hv,rest⟩:=fin w' aK a' aP q i ev;exact⟨i.env.defers,v,hv,rest⟩
  | _=>exact q.elim
end
end Go.Av
namespace Go.Av
section
variable {P:Program} {T:Ty} {Mv X:Nat->Prop} {G:aF} {N:Fr} {ops:Array Oper}
def vy (o:Oper):Option (Operand×Operand):=match o.op with
 | .call { callee:=.builtin .append,args,argTypes }=>match args.toList,argTypes.toList with
  | [x,y],[t,t']=>if t=t' then some (x,y) else none
  | _,_=>none
 | _=>none
def Aj (T:Ty) (Mv:Nat->Prop) (o:Oper) (r off n ty sz:Nat) (els news:List (List D)):Option (Prop×Nat×Row):=match o.op,o.dst with
 | .call { callee:=.builtin .append,args,argTypes },some _=>match args.toList,argTypes.toList with
  | [_,_],[t,t']=>if t=t' then match T t with
   | some tt=>match tt.desc with
    | .slice e=>match T e with
     | some te=>some (off=0/\Mv r/\ty=e/\sz=te.size/\n<=els.length/\(∀ el∈news,el.length=te.size)/\(∀ el∈news,∀ c∈el,D.one c=true)/\0 < te.size/\(kY te.zero).length=te.size/\n+news.length<=9223372036854775807/\(n+news.length) * te.bytes<=140737488355328,
       n+news.length,.sl e te.size (els.take n ++ news))
     | none=>none
    | _=>none
   | none=>none
  else none
  | _,_=>none
 | _,_=>none
def rr (s:Nat):AV->Prop
 | .own q _ _=>q=s
 | _=>True
def jf (T:Ty) (G:aF) (Mv:Nat->Prop) (o:Oper) (e:Env) (H:Heap) (r s m:Nat) (row:Row):Prop:=
 ∃ x y off n v ty sz els news c,vy o=some (x,y)/\bG G e x=some (.own r off n)/\bG G e y=some v/\rr s v/\H r=some (.sl ty sz els)/\lk H r v=some news/\Aj T Mv o r off n ty sz els news=some (c,m,row)/\c
theorem Di {o:Oper} {x y:Operand} (h:vy o=some (x,y)):∃ t t',o.op = .call { callee:=.builtin .append,args:=#[x,y],argTypes:=#[t,t'] }/\t=t':=by
 unfold vy at h;split at h
 .rename_i args argTypes jU;split at h
  .rename_i x' y' t t' ha ht;split at h
   .rename_i dY;obtain⟨rfl,rfl⟩:=dI h;have e1:args = #[x',y']:=abI.1 ha;have e2:argTypes = #[t,t']:=abI.1 ht;exact⟨t,t',by rw[jU,e1,e2],dY⟩
   .cases h
  .cases h
 .cases h
theorem jf.row {o:Oper} {e:Env} {H:Heap} {r s m:Nat} {row:Row} (h:jf T G Mv o e H r s m row):(∃ ty sz els,row = .sl ty sz els)/\(∃ ty sz els,H r=some (.sl ty sz els))/\(∃ d,o.dst=some d):=by
 obtain⟨x,y,off,n,v,ty,sz,els,news,c,h1,h2,h3,h4,h5,h6,h7,h8⟩:=h;unfold Aj at h7
 repeat' split at h7
 all_goals first
  | cases h7;done
  | (simp only [BY, aa4] at h7
     obtain⟨_,_,rfl⟩:=h7
     exact⟨⟨_,_,_,rfl⟩,⟨_,_,_,h5⟩,⟨_,by assumption⟩⟩)
theorem jf.to {o:Oper} {e:Env} {H:Heap} {r s m:Nat} {row:Row} (h:jf T G Mv o e H r s m row):nw P T Mv G o ⟨e,H⟩ ⟨aR (dN r e) o.dst (.own r 0 m),bk (dO r H) r row⟩:=by
 obtain⟨x,y,off,n,v,ty,sz,els,news,c,h1,h2,h3,h4,h5,h6,h7,h8⟩:=h;obtain⟨t,t',jU,BB⟩:=Di h1;obtain⟨dst,op,type,pos,after,guard⟩:=o;dsimp only at jU;subst jU;unfold nw;simp only[eH,gq,if_true];unfold Aj at h7;dsimp only at h7
 cases dst with
 | none=>cases h7
 | some d=>
  simp only[List.toList_toArray]at h7;refine⟨c,.own r 0 m,⟨dN r e,bk (dO r H) r row⟩,?_,h8,rfl⟩;unfold wr;dsimp only;subst BB;rw[if_pos rfl]at h7;split at h7
  .rename_i tt hT;split at h7
   .rename_i IX hd;split at h7
    .rename_i te cH;obtain⟨rfl,rfl,rfl⟩:=lU h7;simp[hT,hd,cH,h2,h3,h5,h6]
    .cases h7
   .cases h7
  .cases h7
theorem jf.of {o:Oper} {e:Env} {H:Heap} {r s off n:Nat} {x y:Operand} {v:AV} {c:Prop} {z:AV} {bz:St} (ho:vy o=some (x,y)) (hx:bG G e x=some (.own r off n)) (hy:bG G e y=some v) (hs:rr s v) (h:wr T G Mv ⟨e,H⟩ o=some (c,z,bz)) (hc:c) :
  ∃ m row,jf T G Mv o e H r s m row/\z = .own r 0 m/\bz=⟨dN r e,bk (dO r H) r row⟩:=by
 obtain⟨t,t',jU,BB⟩:=Di ho;obtain⟨dst,op,type,pos,after,guard⟩:=o;dsimp only at jU;subst jU;unfold wr at h;dsimp only at h
 cases dst with
 | none=>cases h
 | some d=>
  dsimp only at h;split at h
  .rename_i dY;subst dY
   cases hT:T t with
   | none=>simp[hT]at h
   | some tt=>
    simp only[hT]at h;split at h
    .rename_i IX hd
     cases cH:T IX with
     | none=>simp[cH]at h
     | some te=>
      simp only[cH,hx,hy]at h;split at h
      .rename_i ty sz els news h1 h2;obtain⟨rfl,rfl,rfl⟩:=lU h;exact⟨_,_,⟨x,y,off,n,v,ty,sz,els,news,_,ho,hx,hy,hs,h1,h2,by simp[Aj,hT,hd,cH],hc⟩,rfl,rfl⟩
      .cases h
    .cases h
  .rename_i bw;exact absurd BB bw
theorem Lu {H H2:Heap} {r s:Nat} {v:AV} (hs:rr s v) (hH:H2 s=H s):lk H2 r v=lk H r v:=by
 cases v with
 | own q off n=>
  simp only[rr]at hs;subst hs;simp only[lk,hH]
 | d x=>cases x<;>rfl
 | _=>rfl
theorem jf.congr {o:Oper} {e e2:Env} {H H2:Heap} {r s m:Nat} {row:Row} (h:jf T G Mv o e H r s m row) (ha:im o.op e e2) (hr:H2 r=H r) (hs:H2 s=H s):jf T G Mv o e2 H2 r s m row:=by
 obtain⟨x,y,off,n,v,ty,sz,els,news,c,h1,h2,h3,h4,h5,h6,h7,h8⟩:=h;obtain⟨t,t',jU,BB⟩:=Di h1;have hx:∀ t,x = .tmp t->e t=e2 t:=fun t ht=>ha t (by rw[jU];simp[Op.operands,Call.operands,ht]);have hy:∀ t,y = .tmp t->e t=e2 t:=fun t ht=>ha t (by rw[jU];simp[Op.operands,Call.operands,ht]);exact⟨x,y,off,n,v,ty,sz,els,news,c,h1,by rw[<- eS hx];exact h2,by rw[<- eS hy];exact h3,h4,by rw[hr];exact h5,by rw[Lu h4 hs];exact h6,h7,h8⟩
theorem AV.BR (r r':Nat) (x:AV):(x.kill r).kill r'=(x.kill r').kill r:=by
 have key:∀ n,∀ x:AV,SizeOf.sizeOf x < n->(x.kill r).kill r'=(x.kill r').kill r:=by
  intro n
  induction n with
  | zero=>intro x h;omega
  | succ n ih=>
   intro x h
   have go:∀ l:List AV,SizeOf.sizeOf l < n->(l.map (AV.kill r)).map (AV.kill r')=(l.map (AV.kill r')).map (AV.kill r):=by
    intro l
    induction l with
    | nil=>intro _;rfl
    | cons y l za=>
     intro hl;simp only[List.cons.sizeOf_spec]at hl;simp only[abj,acw];exact⟨ih y aa,za aa⟩
   cases x with
   | d x=>simp[AV.kill]
   | own q off n=>by_cases h1:q=r<;>by_cases h2:q=r'<;>simp[AV.kill,h1,h2]<;>(try (by_cases h3:r=r'<;>simp[AV.kill,h3]))<;>(try simp_all [AV.kill])
   | ref q e j=>by_cases h1:q=r<;>by_cases h2:q=r'<;>simp[AV.kill,h1,h2]<;>(try (by_cases h3:r=r'<;>simp[AV.kill,h3]))<;>(try simp_all [AV.kill])
   | agg cells=>simp at h;simp only[AV.kill,AV.go_eq];rw[go cells aa]
   | bI cells=>simp at h;simp only[AV.kill,AV.go_eq];rw[go cells aa]
   | b6 t x=>simp at h;simp only[AV.kill];rw[ih x aa]
   | bm t x=>simp at h;simp only[AV.kill];rw[ih x aa]
   | fn f cells=>simp at h;simp only[AV.kill,AV.go_eq];rw[go cells aa]
   | mp q=>by_cases h1:q=r<;>by_cases h2:q=r'<;>simp[AV.kill,h1,h2]<;>(try (by_cases h3:r=r'<;>simp[AV.kill,h3]))<;>(try simp_all [AV.kill])
   | dead=>simp[AV.kill]
 exact key _ x (Nat.lt_succ_self _)
theorem TD (r r':Nat) (e:Env):dN r' (dN r e)=dN r (dN r' e):=by
 funext i;simp only[dN,Option.map_map];congr 1;funext x;exact AV.BR r r' x
theorem Row.BR (r r':Nat) (x:Row):(x.kill r).kill r'=(x.kill r').kill r:=by
 cases x with
 | sl ty sz els=>rfl
 | mp ty ents=>rfl
 | it ents seen=>rfl
 | box ty cells=>
  simp only[Row.kill,IS];congr 1;apply List.map_congr_left;intro x _;exact AV.BR r r' x
theorem TG (r r':Nat) (H:Heap):dO r' (dO r H)=dO r (dO r' H):=by
 funext i;simp only[dO,Option.map_map];congr 1;funext x;exact Row.BR r r' x
theorem BP (r:Nat) (e:Env) (d:Option Tmp) (x:AV):dN r (aR e d x)=aR (dN r e) d (x.kill r):=by
 cases d with
 | none=>rfl
 | some d=>funext i;simp only[dN,aR,ik];split<;>rfl
def C6 (r:Nat) (o:Oper) (e:Env) (x:AV):Prop:=im o.op e (dN r e)/\x.kill r=x
theorem lY {o:Oper} {e:Env} (h:o.guard=none):jK ops e o=some true:=by simp[jK,h]
theorem UA {r:Nat} {l:List AV} (h:(oO l).kill r=oO l):oO (l.map (AV.kill r))=oO l:=by
 unfold oO at h ⊢;split at h
 .rename_i ds hd;rw[oV hd]
  have:(ds.map AV.d).map (AV.kill r)=ds.map AV.d:=by simp[IS,AT,AV.kill]
  rw[this,Dg]
 .rename_i hd;simp only[AV.kill,AV.go_eq,AV.agg.injEq]at h;rw[h,hd]
theorem OH {r:Nat} {t:TypeId} {cells:List AV} {c:Prop} {x:AV} {j:Nat} (h:n9 T t (cells.drop j)=some (c,x)) (hx:x.kill r=x):∃ c',n9 T t ((cells.map (AV.kill r)).drop j)=some (c',x)/\(c->c'):=by
 unfold n9 at h ⊢;split at h
 .cases h
 .rename_i ti ht;split at h
  .rename_i ha;rw[if_pos ha];obtain⟨rfl,rfl⟩:=dI h;refine⟨_,?_,id⟩;rw[<- List.map_drop,<- List.map_take,abq,UA hx]
  .rename_i ha;rw[if_neg ha];obtain⟨rfl,rfl⟩:=dI h;rw[<- List.map_drop];generalize hl:cells.drop j=l at hx
   cases l with
   | nil=>exact⟨_,rfl,fun h=>absurd rfl h⟩
   | cons y l=>
    simp only[List.headD_cons]at hx;refine⟨_,by simp only[abj,List.headD_cons,hx];rfl,fun _=>al⟩
theorem VR {o:Oper} {e:Env} {H:Heap} {r:Nat} {row:Row} {c:Prop} {x:AV} (eT:∃ ty sz els,row = .sl ty sz els) (h:rd T G ⟨e,H⟩ o.op=some (c,x)) (iU:C6 r o e x) :
  ∃ c',rd T G ⟨e,bk (dO r H) r row⟩ o.op=some (c',x)/\(c->c'):=by
 have Bd:=iU.1;have hx:=iU.2;clear iU
 have free:∀ t v,Operand.tmp t∈o.op.operands->e t=some v->v.kill r=v:=by
  intro t v ht hv;have:=Bd t ht;rw[hv]at this;simp only[dN,hv,abC,BY]at this;exact this.symm
 have ne:∀ (p:Operand) (v:AV),bG G e p=some v->p∈o.op.operands->v.kill r=v:=by
  intro p v hv hp
  cases p with
  | tmp t=>exact free t v hp hv
  | const k=>simp only[bG,BY]at hv;subst hv;unfold b5;split<;>rfl
  | global g=>simp only[bG,AS]at hv;obtain⟨d,_,rfl⟩:=hv;rfl
  | func f=>simp only[bG,BY]at hv;subst hv;rfl
 have bw:∀ q,q≠r->(bk (dO r H) r row) q=(H q).map (Row.kill r):=fun q hq=>by simp[bk,hq,dO]
 obtain⟨dst,op,type,pos,after,guard⟩:=o;dsimp only at h free ne ⊢;by_cases hk:kindOf op=0
 .rw[Mg hk _ H];exact⟨c,h,id⟩
 cases op<;>first | exact absurd rfl hk | skip
 case load t p=>
  simp only[rd]at h ⊢;obtain⟨v,hv,hl⟩:=abd.1 h;rw[hv,acz];have hf:=ne p v hv (by simp[Op.operands])
  cases v with
  | d x=>cases x<;>first | exact⟨c,hl,id⟩ | cases hl
  | own q off n=>cases hl
  | agg _=>cases hl
  | bI _=>cases hl
  | b6 _ _=>cases hl
  | fn _ _=>cases hl
  | bm _ _=>cases hl
  | dead=>cases hl
  | mp _=>cases hl
  | ref q ee j=>
   simp only[mW]at hl ⊢
   have hq:q≠r:=fun e=>by simp[AV.kill,e]at hf
   rw[bw q hq]
   cases hH:H q with
   | none=>simp[hH]at hl
   | some tC=>
    cases tC with
    | sl ty sz els=>simp only[hH]at hl;simp only[abC,Row.kill];exact⟨c,hl,id⟩
    | mp ty ents=>simp[hH]at hl
    | it ents seen=>simp[hH]at hl
    | box ty cells=>
     simp only[hH]at hl;simp only[abC,Row.kill];split at hl
     .rename_i he;rw[if_pos he];exact OH hl hx
     .cases hl
 case indexAddr t p i=>
  simp only[rd]at h ⊢;split at h
  .rename_i a b ha hb;have hf:=ne p a ha (by simp[Op.operands])
   have bb:∃ k n,b = .d (.v (.int k n)):=by
    unfold o8 at h;split at h
    .exact⟨_,_,rfl⟩
    .exact⟨_,_,rfl⟩
    .exact⟨_,_,rfl⟩
    .exact⟨_,_,rfl⟩
    .cases h
   obtain⟨k,nn,rfl⟩:=bb
   cases a with
   | d x=>cases x<;>first | exact⟨c,h,id⟩ | (cases h;done)
   | ref _ _ _=>exact⟨c,h,id⟩
   | agg _=>cases h
   | bI _=>cases h
   | b6 _ _=>cases h
   | fn _ _=>cases h
   | bm _ _=>cases h
   | dead=>cases h
   | mp _=>cases h
   | own q off n=>
   unfold o8 at h ⊢
   have hq:q≠r:=fun e=>by simp[AV.kill,e]at hf
   simp only[bw q hq]
   cases hH:H q with
   | none=>simp[hH]at h
   | some tC=>
    cases tC with
    | sl ty sz els=>simp only[hH]at h;exact⟨c,h,id⟩
    | mp ty ents=>
     cases he:ot T t with
     | none=>simp[he]at h
     | some s=>simp[he,hH]at h
    | it ents seen=>
     cases he:ot T t with
     | none=>simp[he]at h
     | some s=>simp[he,hH]at h
    | box ty cells=>
     simp only[hH]at h
     cases he:ot T t with
     | none=>simp[he]at h
     | some s=>rw[he]at h;exact⟨c,h,id⟩
  .cases h
 case slice t p lo hi mx=>
  simp only[rd]at h ⊢;split at h
  .rename_i hm;rw[if_pos hm];split at h
   .rename_i v l hh h1 h2 h3;have hf:=ne p v h1 (by simp[Op.operands])
    cases v with
    | d x=>cases x with
     | v x=>cases x<;>first | exact⟨c,h,id⟩ | (cases h;done)
     | sl k els=>exact⟨c,h,id⟩
     | _=>cases h
    | ref _ _ _=>cases h
    | agg _=>cases h
    | bI _=>cases h
    | b6 _ _=>cases h
    | fn _ _=>cases h
    | bm _ _=>cases h
    | dead=>cases h
    | mp _=>cases h
    | own q off n=>
    unfold p7 at h ⊢;dsimp only at h ⊢
    have hq:q≠r:=fun e=>by simp[AV.kill,e]at hf
    rw[bw q hq]
    cases hH:H q with
    | none=>simp[hH]at h
    | some tC=>
     cases tC with
     | sl ty sz els=>simp only[hH]at h;exact⟨c,h,id⟩
     | mp ty ents=>simp[hH]at h
     | it ents seen=>simp[hH]at h
     | box ty cells=>simp[hH]at h
   .cases h
  .cases h
 case lookup t p i b=>
  simp only[rd]at h ⊢;split at h
  .rename_i a k ha hb;have hf:=ne p a ha (by simp[Op.operands])
   cases a with
   | mp q=>
    have hq:q≠r:=fun e=>by simp[AV.kill,e]at hf
    cases k with
    | d kx=>
     cases kx with
     | v kv=>
      simp only[mY]at h ⊢;rw[bw q hq]
      cases hH:H q with
      | none=>simp[hH]at h
      | some tC=>
       cases tC with
       | mp ty ents=>rw[hH]at h;exact⟨c,h,id⟩
       | _=>simp[hH]at h
     | _=>simp[mY]at h
    | _=>simp[mY]at h
   | d q=>
    cases q with
    | dm x ents=>
     cases k with
     | d kx=>
      cases kx with
      | v kv=>simp only[mY]at h ⊢;exact⟨c,h,id⟩
      | _=>simp[mY]at h
     | _=>simp[mY]at h
    | _=>simp[mY]at h
   | _=>simp[mY]at h
  .cases h
 case call cc=>
  obtain⟨callee,args,argTypes⟩:=cc
  cases callee with
  | builtin b=>cases b<;>first | exact absurd rfl hk | (simp[rd]at h;done)
  | _=>simp[rd]at h
 all_goals first | (simp[rd]at h;done) | skip
end
end Go.Av
namespace Go.Av
section
variable {P:Program} {T:Ty} {Mv X:Nat->Prop} {G:aF} {N:Fr} {w:World} {μ:Mu} {a:Act} {σ:St}
variable {ops:Array Oper} {Step:Nat->Oper->St->St->Prop} {cp:Nat->Nat->Oper->Oper->Bool}
theorem OR (bf:∀ j oj,ops[j]? = some oj->∀ e∈oj.after,Region.binds .any e=true->e.on < j) {listed:Array Bool} (rF:∀ j oj,ops[j]? = some oj->listed.getD j false=true->∀ e∈oj.after,Region.binds .any e=true->listed.getD e.on false=true) :
  ∀ (n j:Nat) (oj:Oper),j<=n->ops[j]? = some oj->(∀ e∈oj.after,Region.binds .any e=true->listed.getD e.on false=true)->∀ q,((tb ops).getD j 0).testBit q=true->listed.getD q false=true:=by
 intro n
 induction n with
 | zero=>
  intro j oj hj fJ dk q hq
  have nB:j=0:=aa
  subst nB;obtain⟨e,he,hb,_⟩:=zM ops.toList [] 0 oj q (by simpa using fJ) (by simpa[tb]using hq);have:=bf 0 oj fJ e he hb;omega
 | succ n ih=>
  intro j oj hj fJ dk q hq;obtain⟨e,he,hb,r⟩:=zM ops.toList [] j oj q (by simpa using fJ) (by simpa[tb]using hq)
  rcases r with rfl | ⟨_,r⟩
  .exact dk e he hb
  .have EW:=bf j oj fJ e he hb
   have qv:e.on < ops.size:=by have:=(aa1.1 fJ).1;omega
   exact ih e.on ops[e.on] aa (by simp[qv]) (fun e' mF bp=>rF e.on _ (by simp[qv]) (dk e he hb) e' mF bp) q (by simpa[tb]using r)
def Ab (Step:Nat->Oper->St->St->Prop) (cp:Nat->Nat->Oper->Oper->Bool) (ops:Array Oper):Prop:=∀ i j oi oj,ops[i]? = some oi->ops[j]? = some oj->cp i j oi oj=true->∀ σ bz gV,Step i oi σ bz->Step j oj bz gV->∃ jx,Step j oj σ jx/\Step i oi jx gV
def Sound (P:Program) (X:Nat->Prop) (G:aF) (N:Fr) (Mv:Nat->Prop) (Step:Nat->Oper->St->St->Prop) (ops:Array Oper):Prop:=∀ i o,ops[i]? = some o->∀ σ aP,Step i o σ aP->∀ w μ a,In w X G μ N a σ->∀ {Q:Exit->Act->World->Prop} {K:Act->World->Prop},(∀ w' aK a',In w' X G aK N a' aP->Ev Mv w μ w' aK->K a' w')->wpOpIn (wd N.ro) 0 P ops Q i K a w
def nd (Step:Nat->Oper->St->St->Prop) (ops:Array Oper):List Nat->St->St->Prop
 | [],σ,aP=>σ=aP
 | i :: l,σ,aP=>∃ o,ops[i]? = some o/\∃ bz,Step i o σ bz/\nd Step ops l bz aP
theorem Ww (wz:Ab Step cp ops) {p:Nat} {op:Oper} (hp:ops[p]? = some op):∀ (l1:List Nat) {l2:List Nat} {σ aP:St},(∀ q∈l1,∀ oq,ops[q]? = some oq->cp q p oq op=true)->nd Step ops (l1 ++ p :: l2) σ aP->nd Step ops (p :: (l1 ++ l2)) σ aP:=by
 intro l1
 induction l1 with
 | nil=>intro l2 σ aP _ h;exact h
 | cons q l1 ih=>
  intro l2 σ aP dk h;obtain⟨oq,hq,bz,s1,rest⟩:=h;obtain⟨o',sU,gV,s2,V6⟩:=ih (fun q' oH=>dk q' (by simp[oH])) rest;rw[hp]at sU;obtain rfl:=AI sU;obtain⟨jx,f1,f2⟩:=wz q p oq op hq hp (dk q al oq hq) σ bz gV s1 s2;exact⟨op,hp,jx,f1,oq,hq,gV,f2,V6⟩
def p4 (cp:Nat->Nat->Oper->Oper->Bool) (ord:List Nat) (ops:Array Oper):Bool:=
 let t:=tb ops
 ord.length == ops.size && (ord.all fun i=>decide (i < ops.size)) && ((List.range ops.size).all fun i=>ord.contains i) && decide ord.Nodup &&
 ((List.range ops.size).all fun j=>match ops[j]? with
  | some oj=>oj.after.all fun e=>!Region.binds .any e || e.on < j
  | none=>true) &&
 go t ord
where
 go (t:List Nat):List Nat->Bool
 | []=>true
 | a :: l=>(l.all fun b=>match ops[a]?,ops[b]? with
  | some oa,some ob=>(oa.after.all fun e=>!Region.binds .any e || !(e.on == b)) && ((t.getD b 0).testBit a || cp a b oa ob)
  | _,_=>true) && go t l
def C7 (cp:Nat->Nat->Oper->Oper->Bool) (ops:Array Oper) (a b:Nat):Prop:=∀ oa ob,ops[a]? = some oa->ops[b]? = some ob->
 (∀ e∈oa.after,Region.binds .any e=true->e.on≠b)/\(((tb ops).getD b 0).testBit a=true\/cp a b oa ob=true)
theorem LW:∀ {l:List Nat},p4.go cp ops (tb ops) l=true->l.Pairwise (C7 cp ops)
 | [],_=>.nil
 | a :: l,h=>by
  simp only[p4.go,OF]at h;refine .cons (fun b hb oa ob Sv E9=>?_) (LW h.2);have:=abP.1 h.1 b hb;simp only[Sv,E9,OF,abD]at this;refine⟨fun e he Ej heq=>?_,this.2⟩;have h1:=Array.all_eq_true_iff_forall_mem.1 this.1 e he;simp[Ej,heq]at h1
theorem Oo (bO:Sound P X G N Mv Step ops) (wz:Ab Step cp ops) (bf:∀ j oj,ops[j]? = some oj->∀ e∈oj.after,Region.binds .any e=true->e.on < j) {Q:Exit->St->Prop} {w0:World} {mn:Mu} {c6:St} (hQ:Q .normal c6):∀ (n:Nat) (R:List Nat) (listed:Array Bool) (w:World) (μ:Mu) (a:Act) (σ:St),R.length=n->R.Nodup->
  (∀ j,j∈R↔j < ops.size/\listed.getD j true=false)->listed.size=ops.size->R.Pairwise (C7 cp ops)->
  (∀ j oj,ops[j]? = some oj->listed.getD j false=true->∀ e∈oj.after,Region.binds .any e=true->listed.getD e.on false=true)->nd Step ops R σ c6->In w X G μ N a σ->Ev Mv w0 mn w μ->
  wpAnyIn (wd N.ro) 0 P .any ops (After Mv X G N w0 mn Q) n listed a w:=by
 intro n
 induction n with
 | zero=>
  intro R listed w μ a σ hl _ hR bc _ _ e9 hi br;have:R=[]:=abx hl;subst this
  have hr:Region.ready .any ops listed=[]:=by
   apply List.eq_nil_iff_forall_not_mem.2;intro j hj;obtain⟨h1,o,ho,_⟩:=mem_ready.1 hj;exact absurd ((hR j).2 ⟨(aa1.1 ho).1,h1⟩) al
  have:σ=c6:=e9;subst this;exact⟨hr,μ,σ,hQ,hi,br⟩
 | succ n ih=>
  intro R listed w μ a σ hl sT hR bc o6 rF e9 hi br;refine⟨fun hr=>?_,fun i EP=>?_⟩
  .cases R with
   | nil=>simp at hl
   | cons j R=>
    obtain⟨pG,sQ⟩:=(hR j).1 al
    have fJ:ops[j]? = some ops[j]:=by simp[pG]
    have yp:j∈Region.ready .any ops listed:=by
     refine mem_ready.2 ⟨sQ,ops[j],fJ,fun e he hb=>?_⟩;have Bs:=bf j ops[j] fJ e he hb
     have qv:e.on < ops.size:=aa
     have bw:e.on ∉ (j :: R):=by
      intro hm
      rcases abg.1 hm with h | h
      .omega
      .exact ((abU.1 o6).1 _ h ops[j] ops[e.on] fJ (by simp[qv])).1 e he hb rfl
     have:=mt (hR e.on).2 bw
     have rM:e.on < listed.size:=aa
     simp only[qv,true_and,aa2]at this ⊢;simp[rM]at this ⊢;exact this
    rw[hr]at yp;cases yp
  .obtain⟨pF,oi,iV,dk⟩:=mem_ready.1 EP;have EN:i∈R:=(hR i).2 ⟨(aa1.1 iV).1,pF⟩;obtain⟨R1,R2,rfl⟩:=List.append_of_mem EN
   have EH:=Ww wz iV R1 (fun q hq oq yK=>by
    have SJ:C7 cp ops q i:=(aci.1 o6).2.2 q hq i al
    rcases (SJ oq oi yK iV).2 with h | h
    .exfalso;have yB:=OR bf rF i i oi (aa8 _) iV dk q h;have mN:=((hR q).1 (by simp[hq])).2
     have Fj:q < listed.size:=by have:=(aa1.1 yK).1;omega
     simp[aa2,Fj]at yB mN;rw[yB]at mN;cases mN
    .exact h) e9
   obtain⟨o',sU,bz,hstep,e8⟩:=EH;rw[iV]at sU;obtain rfl:=AI sU;refine bO i oi iV _ _ hstep _ _ _ hi fun w' aK a' bn oC=>?_
   have E5:(R1 ++ R2).Nodup:=by
    have:=sT;rw[List.nodup_append]at this ⊢;obtain⟨g1,g2,g3⟩:=this;exact⟨g1,(acx.1 g2).2,fun x hx y hy=>g3 x hx y (by simp[hy])⟩
   have EO:i ∉ R1 ++ R2:=by
    have:=sT;rw[List.nodup_append]at this;obtain⟨g1,g2,g3⟩:=this;intro hm
    rcases abr.1 hm with h | h
    .exact g3 i h i al rfl
    .exact (acx.1 g2).1 h
   refine ih (R1 ++ R2) _ w' aK a' bz (by simp at hl ⊢;omega) E5 (fun j=>?_) (by simpa using bc) ?_ ?_ e8 bn (br.trans oC)
   .by_cases l9:j=i
    .subst l9
     have rM:j < listed.size:=by rw[bc];exact (aa1.1 iV).1
     simp[rM];simpa using EO
    .rw[getD_set_ne true (abY l9)];rw[<- hR j];simp[l9]
   .rw[aci]at o6 ⊢;obtain⟨g1,g2,g3⟩:=o6;exact⟨g1,(abU.1 g2).2,fun x hx y hy=>g3 x hx y (by simp[hy])⟩
   .intro j oj fJ iN e he hb;by_cases l9:j=i
    .subst l9;rw[iV]at fJ;obtain rfl:=AI fJ;exact getD_set_true (dk e he hb)
    .rw[getD_set_ne false (abY l9)]at iN;exact getD_set_true (rF j oj fJ iN e he hb)
theorem xk (hm:P.follows .mixedOrders=true) (bO:Sound P X G N Mv Step ops) (wz:Ab Step cp ops) (ord:List Nat) {id:Nat} (cG:p4 cp ord ops=true) {Q:Exit->St->Prop} {σ:St} (h:(∀ i∈ord,i < ops.size)->∃ c6,Q .normal c6/\nd Step ops ord σ c6):AW P Mv X G N (.region id ops true) Q σ:=fun w μ a hi=>by
 unfold p4 at cG;simp only[OF]at cG;obtain⟨⟨⟨⟨⟨h1,h2⟩,h3⟩,h4⟩,h5⟩,h6⟩:=cG
 have hlen:ord.length=ops.size:=by simpa using h1
 have bf:∀ i∈ord,i < ops.size:=fun i hi=>by simpa using abP.1 h2 i hi
 have dk:∀ i,i < ops.size->i∈ord:=fun i hi=>by simpa using abP.1 h3 i (acu.2 hi)
 have sT:ord.Nodup:=by simpa using h4
 have RC:∀ j oj,ops[j]? = some oj->∀ e∈oj.after,Region.binds .any e=true->e.on < j:=fun j oj fJ e he hb=>by
  have:=abP.1 h5 j (acu.2 (aa1.1 fJ).1);simp only[fJ]at this;have:=Array.all_eq_true_iff_forall_mem.1 this e he;simpa[hb]using this
 obtain⟨c6,hQ,e9⟩:=h bf;refine wpIn_region_any hm ?_;obtain⟨bn,br⟩:=hi.pA (Mv:=Mv) (cT.drew w);refine Oo bO wz RC hQ ops.size ord _ w.drew μ a σ hlen sT (fun j=>?_) al (LW h6) ?_ e9 bn br
 .constructor
  .intro hj;have:=bf j hj;simp[aa2,this]
  .intro hj;exact dk j hj.1
 .intro j oj fJ iN;have hj:=(aa1.1 fJ).1;simp[aa2,hj]at iN
end
end Go.Av
namespace Go.Av
def sx (av:List (Nat×List Nat)) (i:Nat):List Nat:=(av.lookup i).getD []
def Gx (o:Op):Bool:=match o with
 | .buildSlice _ _ _=>true
 | .makeSlice _ _ _=>true
 | .alloc _=>true
 | o=>decide (kindOf o<=2)
def tW (la:List (Nat×Nat×Nat)) (av:List (Nat×List Nat)) (ops:Array Oper) (i j:Nat) (oi oj:Oper):Bool:=match la.lookup i,la.lookup j with
 | none,none=>jO ops oi oj
 | none,some (r,s)=>oi.apart ops oj && Gx oi.op && !(oi.dst == some s) && !(oi.dst == some r) && (sx av i).contains r
 | some (r,s),some (r',s')=>oi.apart ops oj && !(r == r') && !(s == r') && !(s' == r)
 | some _,none=>false
section
variable {P:Program} {T:Ty} {Mv X:Nat->Prop} {G:aF} {N:Fr} {ops:Array Oper} {la:List (Nat×Nat×Nat)} {av:List (Nat×List Nat)}
theorem AV.BQ (r:Nat) (x:AV):(x.kill r).kill r=x.kill r:=by
 have key:∀ n,∀ x:AV,SizeOf.sizeOf x < n->(x.kill r).kill r=x.kill r:=by
  intro n
  induction n with
  | zero=>intro x h;omega
  | succ n ih=>
   intro x h
   have go:∀ l:List AV,SizeOf.sizeOf l < n->(l.map (AV.kill r)).map (AV.kill r)=l.map (AV.kill r):=by
    intro l
    induction l with
    | nil=>intro _;rfl
    | cons y l za=>
     intro hl;simp only[List.cons.sizeOf_spec]at hl;simp only[abj,acw];exact⟨ih y aa,za aa⟩
   cases x with
   | d x=>simp[AV.kill]
   | own q off n=>by_cases h1:q=r<;>simp[AV.kill,h1]
   | ref q e j=>by_cases h1:q=r<;>simp[AV.kill,h1]
   | agg cells=>simp at h;simp only[AV.kill,AV.go_eq];rw[go cells aa]
   | bI cells=>simp at h;simp only[AV.kill,AV.go_eq];rw[go cells aa]
   | b6 t x=>simp at h;simp only[AV.kill];rw[ih x aa]
   | bm t x=>simp at h;simp only[AV.kill];rw[ih x aa]
   | fn f cells=>simp at h;simp only[AV.kill,AV.go_eq];rw[go cells aa]
   | mp q=>by_cases h1:q=r<;>simp[AV.kill,h1]
   | dead=>simp[AV.kill]
 exact key _ x (Nat.lt_succ_self _)
theorem Row.BQ (r:Nat) (x:Row):(x.kill r).kill r=x.kill r:=by
 cases x with
 | sl ty sz els=>rfl
 | mp ty ents=>rfl
 | it ents seen=>rfl
 | box ty cells=>
  simp only[Row.kill,IS];congr 1;apply List.map_congr_left;intro x _;exact AV.BQ r x
theorem PI {e:Env} {H:Heap} {r ty sz:Nat} {els:List (List D)} (d:Tmp) (hm:Mv r):aY Mv X G N ⟨ik (dN r e) d (.own r 0 els.length),bk (dO r H) r (.sl ty sz els)⟩ ⟨ik (dN r e) d (.d (.sl none els)),bk (dO r H) r (.sl ty sz [])⟩:=fun w μ a hi=>by
 have hr:bk (dO r H) r (.sl ty sz els) r=some (.sl ty sz els):=by simp[bk]
 have E3:(fun q=>if q=r then none else μ q)=cE (iR r) μ:=by
  funext q;unfold cE iR;by_cases h:q=r<;>simp[h]
 have ev:Ev Mv w μ w (cE (iR r) μ):=xI fun q _ _ hq=>by
  have e:q=r:=by simpa[iR]using hq
  exact e ▸ hm
 have bw:∀ q,q≠r->cE (iR r) μ q=μ q:=fun q hq=>by simp[cE,iR,hq]
 have hX:∀ b,XX X (cE (iR r) μ) b->XX X μ b:=fun b=>Ac
 have h1:In w X G (cE (iR r) μ) N a ⟨ik (dN r e) d (.d (.sl none els)),fun q=>if q=r then none else dO r H q⟩:=by
  refine⟨⟨fun q row hq=>?_,fun q m hq=>?_,fun q q' m1 m2 b h1 h2 fi eV=>hi.bo.inj q q' m1 m2 b (ja h1).2 (ja h2).2 fi eV,fun q mq b hq hb=>hi.bo.frame q mq b (ja hq).2 hb,hi.bo.fits⟩,
   ⟨hi.env.defers,hi.env.size,fun i x hx=>?_⟩,fun g x hx=>(hi.iu g x hx).sub hX⟩
  .dsimp only at hq;split at hq
   .cases hq
   .rename_i Bx;obtain⟨m,EX,ok⟩:=hi.bo.rows q row (by simpa[bk,Bx]using hq);obtain⟨nc,_,rfl⟩:=AS.1 (show (H q).map (Row.kill r)=some row from hq);refine⟨m,by rw[bw q Bx];exact EX,?_⟩;have:=iH.keep ev bw (fun _ _=>rfl) ok
    rwa [Row.BQ]at this
  .obtain⟨hk,EX⟩:=ja hq
   have Bx:q≠r:=by simpa[iR]using hk
   obtain⟨row,eT⟩:=hi.bo.j6 q m EX;exact⟨row,by simpa[bk,Bx]using eT⟩
  .simp only[ik]at hx;split at hx
   .rename_i hid;subst hid;obtain rfl:=AI hx;obtain⟨u,hu,gp⟩:=hi.env.slot i (.own r 0 els.length) (by simp[ik]);refine⟨u,hu,?_⟩;obtain⟨k,hk,_⟩:=Gz hi.bo hr aa gp;rw[E3]at hk;have:=RV.d (w:=w) (μ:=cE (iR r) μ) hk.tJ;simpa using this
   .rename_i hid;obtain⟨x0,h0,rfl⟩:=AS.1 (show (e i).map (AV.kill r)=some x from hx);obtain⟨u,hu,gp⟩:=hi.env.slot i (x0.kill r) (by simp[ik,hid,dN,h0]);refine⟨u,hu,?_⟩;have:=RV.keep ev bw gp
    rwa [AV.BQ]at this
 obtain⟨bn,ue⟩:=h1.alloc (Mv:=Mv) (d:=r) (w':=w) (m:=⟨none,sz,0⟩) al (cT.refl w) al (row:=.sl ty sz []) fun _=>.nil rfl rfl
 have hH:bk (fun q=>if q=r then none else dO r H q) r (.sl ty sz [])=bk (dO r H) r (.sl ty sz []):=by
  funext q;by_cases h:q=r<;>simp[bk,h]
 refine⟨_,?_,ev.trans ue⟩;rw[<- hH];exact bn
def Fin (Mv:Nat->Prop) (r m:Nat) (row:Row) (y:AV) (fL:Row):Prop:=
 (y = .own r 0 m/\fL=row)\/(Mv r/\∃ ty sz els,row = .sl ty sz els/\m=els.length/\y = .d (.sl none els)/\fL = .sl ty sz [])
theorem Fin.row {r m:Nat} {row fL:Row} {y:AV} (h:Fin Mv r m row y fL) (eT:∃ ty sz els,row = .sl ty sz els):∃ ty sz els,fL = .sl ty sz els:=by
 rcases h with⟨_,rfl⟩ | ⟨_,ty,sz,els,_,_,_,rfl⟩
 .exact eT
 .exact⟨_,_,_,rfl⟩
theorem Fin.kill {r m q:Nat} {row fL:Row} {y:AV} (h:Fin Mv r m row y fL) (hq:r≠q):y.kill q=y:=by
 rcases h with⟨rfl,_⟩ | ⟨_,ty,sz,els,_,_,rfl,_⟩
 .simp[AV.kill,hq]
 .rfl
def qV (P:Program) (T:Ty) (Mv:Nat->Prop) (G:aF) (N:Fr) (la:List (Nat×Nat×Nat)) (av:List (Nat×List Nat)) (i:Nat) (o:Oper) (σ aP:St):Prop:=
 iy N o/\o.guard=none/\match la.lookup i with
  | some (r,s)=>∃ m row y fL,jf T G Mv o σ.env σ.H r s m row/\Fin Mv r m row y fL/\aP=⟨aR (dN r σ.env) o.dst y,bk (dO r σ.H) r fL⟩
  | none=>kindOf o.op≠9/\∃ x H',Ex P T Mv G o σ.env σ.H x H'/\aP=⟨aR σ.env o.dst x,H'⟩/\(∀ r∈sx av i,C6 r o σ.env x)/\(sx av i≠[]->∀ c,eH o.op=some c->∃ y g ds,lx G σ.env c=some (g,ds.map .d)/\aH P G g ds y/\x = .d y)
theorem qV.step {i:Nat} {o:Oper} {σ aP:St} (h:qV P T Mv G N la av i o σ aP):∃ HA,xc P T Mv G N ops o σ HA/\aY Mv X G N HA aP:=by
 obtain⟨hd,hg,h⟩:=h;split at h
 .obtain⟨m,row,y,fL,h1,hf,rfl⟩:=h;refine⟨_,⟨hd,.inl ⟨lY hg,h1.to⟩⟩,?_⟩
  rcases hf with⟨rfl,rfl⟩ | ⟨hm,ty,sz,els,rfl,rfl,rfl,rfl⟩
  .exact .refl _
  .obtain⟨_,_,d,Rz⟩:=h1.row;rw[Rz];exact PI d hm
 .obtain⟨_,x,H',h1,rfl,_⟩:=h;exact⟨_,⟨hd,.inl ⟨lY hg,h1.to⟩⟩,.refl _⟩
theorem Ex.newRow {o:Oper} (hk:¬ kindOf o.op<=2) (ho:Gx o.op=true) {e:Env} {H H':Heap} {x:AV} (h:Ex P T Mv G o e H x H'):∃ d row,o.dst=some d/\H d=none/\H'=bk H d row/\(∀ q,row.kill q=row)/\∀ H2,H2 d=none->Ex P T Mv G o e H2 x (bk H2 d row):=by
 obtain⟨dst,op,type,pos,after,guard⟩:=o;dsimp only at hk ho;unfold Ex at h;unfold Ex
 cases op<;>simp only[Gx,decide_eq_true_eq]at ho<;>first | exact absurd ho hk | skip
 case alloc t=>
  simp only[eH,gq,if_true]at h ⊢;obtain⟨c,h1,h2⟩:=h
  cases dst with
  | none=>cases h1
  | some d=>
   simp only[wr]at h1 ⊢;split at h1
   .rename_i ti Fv;simp only[BY,aa4,St.mk.injEq,true_and]at h1;obtain⟨rfl,rfl,rfl⟩:=h1;exact⟨d,_,rfl,h2,rfl,fun q=>by simp[Row.kill,b5,AV.kill],fun H2 h=>⟨_,rfl,h⟩⟩
   .cases h1
 case makeSlice t y z=>
  simp only[eH,gq,if_true]at h ⊢;obtain⟨c,h1,h2⟩:=h
  cases dst with
  | none=>cases h1
  | some d=>
   simp only[wr]at h1 ⊢;split at h1
   .split at h1
    .split at h1
     .simp only[BY,aa4,St.mk.injEq,true_and]at h1;obtain⟨rfl,rfl,rfl⟩:=h1;exact⟨d,_,rfl,h2.1,rfl,fun _=>rfl,fun H2 h=>⟨_,rfl,h,h2.2⟩⟩
     .cases h1
    .cases h1
   .cases h1
 case buildSlice t n ps=>
  simp only[eH,gq,if_true]at h ⊢;obtain⟨c,h1,h2⟩:=h
  cases dst with
  | none=>cases h1
  | some d=>
   simp only[wr]at h1 ⊢;split at h1
   .split at h1
    .split at h1
     .split at h1
      .simp only[BY,aa4,St.mk.injEq,true_and]at h1;obtain⟨rfl,rfl,rfl⟩:=h1;exact⟨d,_,rfl,h2.1,rfl,fun _=>rfl,fun H2 h=>⟨_,rfl,h,h2.2⟩⟩
      .cases h1
     .cases h1
    .cases h1
   .cases h1
theorem KJ {r q off n:Nat} {z:AV} (h:z.kill r = .own q off n):z = .own q off n:=by
 cases z<;>simp only[AV.kill,reduceCtorEq]at h
 .split at h
  .cases h
  .exact h
 .split at h<;>cases h
 .split at h<;>cases h
theorem TH {r:Nat} {x:D} {z:AV} (h:z.kill r = .d x):z = .d x:=by
 cases z<;>simp only[AV.kill,reduceCtorEq]at h
 .exact h
 .split at h<;>cases h
 .split at h<;>cases h
 .split at h<;>cases h
theorem B5 {H:Heap} {r:Nat} {v:AV} {l:List (List D)} (h:lk H r v=some l):(∃ x,v = .d x)\/∃ q off n,v = .own q off n:=by
 unfold lk at h;split at h
 .exact .inl ⟨_,rfl⟩
 .exact .inr ⟨_,_,_,rfl⟩
 .cases h
theorem De {r:Nat} {e:Env} {p:Operand}:bG G (dN r e) p=(bG G e p).map (AV.kill r):=by
 cases p with
 | tmp t=>rfl
 | const k=>simp only[bG,abC];unfold b5;split<;>rfl
 | global g=>simp only[bG,Option.map_map];rfl
 | func f=>rfl
theorem jf.Zf {o:Oper} {e:Env} {H H2:Heap} {r s m q:Nat} {row:Row} (h:jf T G Mv o (dN q e) H r s m row) (hr:H2 r=H r) (hs:H2 s=H s):jf T G Mv o e H2 r s m row:=by
 obtain⟨x,y,off,n,v,ty,sz,els,news,c,h1,h2,h3,h4,h5,h6,h7,h8⟩:=h;rw[De]at h2 h3;obtain⟨z1,wH,e1⟩:=AS.1 h2;obtain⟨z2,FF,e2⟩:=AS.1 h3;have:=KJ e1;subst this
 have hz:z2=v:=by
  rcases B5 h6 with⟨x,rfl⟩ | ⟨_,_,_,rfl⟩
  .exact TH e2
  .exact KJ e2
 subst hz;exact⟨x,y,off,n,z2,ty,sz,els,news,c,h1,wH,FF,h4,by rw[hr];exact h5,by rw[Lu h4 hs];exact h6,h7,h8⟩
theorem jf.VZ {o:Oper} {e:Env} {H H2:Heap} {r s m q:Nat} {row:Row} (h:jf T G Mv o e H r s m row) (hq:r≠q) (oH:s≠q) (hr:H2 r=H r) (hs:∀ ty sz els,H s=some (.sl ty sz els)->H2 s=H s):jf T G Mv o (dN q e) H2 r s m row:=by
 obtain⟨x,y,off,n,v,ty,sz,els,news,c,h1,h2,h3,h4,h5,h6,h7,h8⟩:=h;refine⟨x,y,off,n,v,ty,sz,els,news,c,h1,by rw[De,h2];simp[AV.kill,hq],?_,h4,by rw[hr];exact h5,?_,h7,h8⟩
 .rw[De,h3]
  rcases B5 h6 with⟨x,rfl⟩ | ⟨q',_,_,rfl⟩
  .rfl
  .simp only[rr]at h4;subst h4;simp[AV.kill,oH]
 .rcases B5 h6 with⟨x,rfl⟩ | ⟨q',Vd,n',rfl⟩
  .cases x<;>first | exact h6 | cases h6
  .simp only[rr]at h4;subst h4;simp only[lk]at h6 ⊢;split at h6
   .cases h6
   .rename_i bw;rw[if_neg bw];split at h6
    .rename_i Nu CG mB hH;rw[hs _ _ _ hH,hH];exact h6
    .cases h6
theorem Kd {H:Heap} {r d:Nat} {a b:Row} (h:d≠r):bk (bk H r a) d b=bk (bk H d b) r a:=by
 funext i;by_cases h1:i=d<;>by_cases h2:i=r<;>simp[bk,h1,h2,h,abY h]
theorem FR {H:Heap} {r d:Nat} {b:Row} (hb:b.kill r=b):dO r (bk H d b)=bk (dO r H) d b:=by
 funext i;by_cases h1:i=d<;>simp[bk,dO,h1,hb]
theorem Df {o:Oper} {e e':Env} {r:Nat} (h:∀ t,Operand.tmp t∈o.op.operands->e' t=e t) (ha:im o.op e (dN r e)):im o.op e' (dN r e'):=fun t ht=>by
 have h1:=ha t ht;simp only[dN]at h1 ⊢;rw[h t ht];exact h1
theorem Uu {i j:Nat} {oi oj:Oper} (hc:tW la av ops i j oi oj=true) {σ bz gV:St} (h1:qV P T Mv G N la av i oi σ bz) (h2:qV P T Mv G N la av j oj bz gV) :
  ∃ jx,qV P T Mv G N la av j oj σ jx/\qV P T Mv G N la av i oi jx gV:=by
 obtain⟨di,gi,h1⟩:=h1;obtain⟨dj,gj,h2⟩:=h2;obtain⟨e,H⟩:=σ
 cases rL:la.lookup i with
 | none=>
  simp only[rL]at h1;obtain⟨ki,x,H1,lH,rfl,zo,Du⟩:=h1
  cases iN:la.lookup j with
  | none=>
   simp only[iN]at h2;obtain⟨kj,y,H2,Qe,rfl,LB,O7⟩:=h2;simp only[tW,rL,iN]at hc;obtain⟨H3,f1,f2⟩:=xA hc (x:=x) (y:=y) (e:=e) (H:=H) ⟨di,.inl ⟨lY gi,lH⟩⟩ ⟨dj,.inl ⟨lY gj,Qe⟩⟩ ki kj
   have ej:Ex P T Mv G oj e H y H3:=by
    rcases f1.2 with⟨_,h⟩ | ⟨h,_⟩
    .exact h
    .rw[lY gj]at h;cases h
   have ei:Ex P T Mv G oi (aR e oj.dst y) H3 x H2:=by
    rcases f2.2 with⟨_,h⟩ | ⟨h,_⟩
    .exact h
    .rw[lY gi]at h;cases h
   simp only[jO,OF]at hc;obtain⟨a1,_,bw⟩:=j0 hc.1 (e:=e) (v:=x);obtain⟨_,a2,_⟩:=j0 hc.1 (e:=e) (v:=y);refine⟨⟨aR e oj.dst y,H3⟩,⟨dj,gj,?_⟩,⟨di,gi,?_⟩⟩
   .simp only[iN];refine⟨kj,y,H3,ej,rfl,fun r hr=>⟨Df (e:=aR e oi.dst x) (fun t ht=>(a1 t (lh ht)).symm) (LB r hr).1,(LB r hr).2⟩,fun ha c cA=>?_⟩;obtain⟨y',g,ds,ht,hp⟩:=O7 ha c cA;exact⟨y',g,ds,by rw[<- ht];exact zO fun t ht=>(a1 t (lh (by rw[(uY cA).1];exact ht))).symm,hp⟩
   .simp only[rL];refine⟨ki,x,H2,ei,by rw[kV bw],fun r hr=>⟨Df (e:=e) (fun t ht=>a2 t (lh ht)) (zo r hr).1,(zo r hr).2⟩,fun ha c cA=>?_⟩;obtain⟨y',g,ds,ht,hp⟩:=Du ha c cA;exact⟨y',g,ds,by rw[<- ht];exact zO fun t ht=>a2 t (lh (by rw[(uY cA).1];exact ht)),hp⟩
  | some rs=>
   obtain⟨r,s⟩:=rs;simp only[iN]at h2;obtain⟨m,row,yr,fL,app,fin,rfl⟩:=h2;simp only[tW,rL,iN,OF,Bool.not_eq_true',beq_eq_false_iff_ne,ab1]at hc;obtain⟨⟨⟨⟨gL,cG⟩,hs⟩,hr⟩,Js⟩:=hc;obtain⟨Bd,hx⟩:=zo r Js;obtain⟨a1,_,bw⟩:=j0 gL (e:=e) (v:=x);obtain⟨_,a2,_⟩:=j0 gL (e:=dN r e) (v:=yr);obtain⟨uL,Bb,_⟩:=app.row;have eT:=fin.row uL;have iq:im oj.op (aR e oi.dst x) e:=fun t ht=>a1 t (lh ht);have e3:∀ t,Operand.tmp t∈oi.op.operands->(aR (dN r e) oj.dst (yr)) t=e t:=fun t ht=>(a2 t (lh ht)).trans (Bd t ht).symm
   have main:jf T G Mv oj e H r s m row/\∃ H2,Ex P T Mv G oi e (bk (dO r H) r fL) x H2/\H2=bk (dO r H1) r fL:=by
    by_cases mb:kindOf oi.op<=2
    .have:=lH.keeps mb;subst this;refine⟨app.congr iq rfl rfl,_,?_,rfl⟩
     cases eL:eH oi.op with
     | some c=>
      obtain⟨y,g,ds,ht,hp,rfl⟩:=Du (List.ne_nil_of_mem Js) c eL;unfold Ex;simp only[eL];exact⟨y,⟨g,_,ht,.inl ⟨ds,rfl,hp⟩⟩,rfl,trivial⟩
     | none=>
      unfold Ex at lH ⊢;simp only[eL]at lH ⊢
      have hw:¬ gq oi.op=true:=fun hw=>by rcases BK hw with h | h | h<;>omega
      rw[if_neg hw]at lH ⊢;obtain⟨c,cm,cA,_⟩:=lH;obtain⟨c',h',eO⟩:=VR eT cm ⟨Bd,hx⟩;exact⟨c',h',eO cA,trivial⟩
    .obtain⟨d,tC,hd,hn,rfl,ma,dk⟩:=lH.newRow mb cG;have oB:d≠r:=fun e=>hr (by rw[hd,e]);have ld:d≠s:=fun e=>hs (by rw[hd,e]);refine⟨app.congr iq (by simp[bk,abY oB]) (by simp[bk,abY ld]),_,dk _ (by simp[bk,oB,dO,hn]),?_⟩;rw[FR (ma r),Kd oB]
   obtain⟨Ah,H2,Qd,rfl⟩:=main;refine⟨⟨aR (dN r e) oj.dst (yr),bk (dO r H) r fL⟩,⟨dj,gj,?_⟩,⟨di,gi,?_⟩⟩
   .simp only[iN];exact⟨m,row,yr,fL,Ah,fin,rfl⟩
   .simp only[rL];refine⟨ki,x,_,Qd.congr ki fun t ht=>(e3 t ht).symm,?_,fun q hq=>⟨Df e3 (zo q hq).1,(zo q hq).2⟩,fun ha c cA=>?_⟩
    .rw[BP,hx,kV bw]
    .obtain⟨y',g,ds,ht,hp⟩:=Du ha c cA;exact⟨y',g,ds,by rw[<- ht];exact zO fun t ht=>e3 t (by rw[(uY cA).1];exact ht),hp⟩
 | some rs=>
  obtain⟨r,s⟩:=rs;simp only[rL]at h1;obtain⟨m,row,y1,rw1,app,fin,rfl⟩:=h1
  cases iN:la.lookup j with
  | none=>simp[tW,rL,iN]at hc
  | some Wq=>
   obtain⟨r',s'⟩:=Wq;simp only[iN]at h2;obtain⟨m',fL,y2,rw2,Ah,DU,rfl⟩:=h2;simp only[tW,rL,iN,OF,Bool.not_eq_true',beq_eq_false_iff_ne]at hc;obtain⟨⟨⟨gL,jE⟩,hs⟩,wx⟩:=hc;obtain⟨a1,_,bw⟩:=j0 gL (e:=dN r e) (v:=y1);obtain⟨_,a2,_⟩:=j0 gL (e:=dN r' e) (v:=y2);obtain⟨⟨Nv,Nb,IL,rfl⟩,⟨t1,z1,l1,Bb⟩,_⟩:=app.row;obtain⟨⟨Hk,G9,pt,rfl⟩,⟨t2,z2,l2,QK⟩,_⟩:=Ah.row;obtain⟨Nw,YR,PN,rfl⟩:=fin.row ⟨_,_,_,rfl⟩;obtain⟨CM,Ha,DM,rfl⟩:=DU.row ⟨_,_,_,rfl⟩
   have JO:∀ q,q≠r->∀ ty sz els,(dO r H) q=some (.sl ty sz els)->H q=some (.sl ty sz els):=by
    intro q _ ty sz els hq;obtain⟨nc,h0,he⟩:=AS.1 hq
    cases nc with
    | sl _ _ _=>rw[h0];exact congrArg some he
    | box _ _=>cases he
    | mp _ _=>cases he
    | it _ _=>cases he
   have ru:H r'=some (.sl t2 z2 l2):=JO r' (abY jE) _ _ _ (by simpa[bk,abY jE]using QK);have p1:jf T G Mv oj (dN r e) (bk (dO r H) r (.sl Nw YR PN)) r' s' m' (.sl Hk G9 pt):=Ah.congr (fun t ht=>a1 t (lh ht)) rfl rfl
   have p2:jf T G Mv oj e H r' s' m' (.sl Hk G9 pt):=by
    obtain⟨x,y,off,n,v,ty,sz,els,news,c,g1,g2,g3,g4,g5,g6,g7,g8⟩:=p1
    have Sr:lk H r' v=some news:=by
     rcases B5 g6 with⟨x,rfl⟩ | ⟨q',Vd,n',rfl⟩
     .cases x<;>first | exact g6 | cases g6
     .simp only[rr]at g4;subst g4;simp only[lk]at g6 ⊢;split at g6
      .cases g6
      .rename_i hq;rw[if_neg hq];split at g6
       .rename_i Nu CG mB mN;have:H q'=some (.sl Nu CG mB):=JO q' wx _ _ _ (by simpa[bk,wx]using mN);rw[this];exact g6
       .cases g6
    have:jf T G Mv oj (dN r e) H r' s' m' (.sl Hk G9 pt):=⟨x,y,off,n,v,ty,sz,els,news,c,g1,g2,g3,g4,by rw[ru];simpa[bk,abY jE,dO,ru,Row.kill]using g5,Sr,g7,g8⟩;exact this.Zf rfl rfl
   have q1:jf T G Mv oi (dN r' e) (bk (dO r' H) r' (.sl CM Ha DM)) r s m (.sl Nv Nb IL):=by
    refine app.VZ jE hs ?_ fun ty sz els hh=>?_
    .simp[bk,jE,dO,Bb,Row.kill]
    .simp[bk,hs,dO,hh,Row.kill]
   have q2:jf T G Mv oi (aR (dN r' e) oj.dst y2) (bk (dO r' H) r' (.sl CM Ha DM)) r s m (.sl Nv Nb IL):=q1.congr (fun t ht=>(a2 t (lh ht)).symm) rfl rfl;refine⟨⟨aR (dN r' e) oj.dst y2,bk (dO r' H) r' (.sl CM Ha DM)⟩,⟨dj,gj,?_⟩,⟨di,gi,?_⟩⟩
   .simp only[iN];exact⟨m',_,y2,_,p2,DU,rfl⟩
   .simp only[rL];refine⟨m,_,y1,_,q2,fin,?_⟩;have k1:AV.kill r' y1=y1:=fin.kill jE;have k2:AV.kill r y2=y2:=DU.kill (abY jE);rw[BP,BP,k1,k2,TD r' r,kV bw,FR rfl,FR rfl,TG r' r,Kd jE]
def MK (P:Program) (T:Ty) (Mv:Nat->Prop) (G:aF) (N:Fr) (la:List (Nat×Nat×Nat)) (av:List (Nat×List Nat)) (ops:Array Oper):List Nat->St->St->Prop:=nd (qV P T Mv G N la av) ops
def Gw (la:List (Nat×Nat×Nat)) (av:List (Nat×List Nat)) (ord:List Nat) (ops:Array Oper):Bool:=p4 (tW la av ops) ord ops
def u4 (r:Nat) (e:Env):List Operand->Prop
 | []=>True
 | .tmp t :: l=>(e t).map (AV.kill r)=e t/\u4 r e l
 | _ :: l=>u4 r e l
theorem Gt {r:Nat} {e:Env}:∀ {l:List Operand},u4 r e l->∀ t,Operand.tmp t∈l->e t=dN r e t
 | [],_,t,ht=>by cases ht
 | p :: l,h,t,ht=>by
  cases p with
  | tmp u=>
   simp only[u4]at h
   rcases abg.1 ht with h1 | h1
   .cases h1;exact h.1.symm
   .exact Gt h.2 t h1
  | _=>
   simp only[u4]at h
   rcases abg.1 ht with h1 | h1
   .cases h1
   .exact Gt h t h1
def tp (rs:List Nat) (ps:List Operand) (e:Env) (x:AV):Prop:=match rs with
 | []=>True
 | r :: rs=>(u4 r e ps/\x.kill r=x)/\tp rs ps e x
theorem Ce {o:Oper} {e:Env} {x:AV}:∀ {rs:List Nat},tp rs o.op.operands.toList e x->∀ r∈rs,C6 r o e x
 | [],_,r,hr=>by cases hr
 | q :: rs,h,r,hr=>by
  simp only[tp]at h
  rcases abg.1 hr with rfl | hr
  .exact⟨fun t ht=>Gt h.1.1 t (by simpa using ht),h.1.2⟩
  .exact Ce h.2 r hr
def mw (P:Program) (G:aF) (c:Call) (e:Env) (dst:Option Tmp) (H:Heap) (rs:List Nat) (ps:List Operand) (next:St->Prop):Prop:=∃ y g ds,lx G e c=some (g,ds.map .d)/\aH P G g ds y/\tp rs ps e (.d y)/\next ⟨aR e dst (.d y),H⟩
theorem mw.mk {c:Call} {e:Env} {dst:Option Tmp} {H:Heap} {rs:List Nat} {ps:List Operand} {next:St->Prop} {g:FuncId} {xs:List AV} {ds gl:List D} {y:D} (hc:aH P G g ds y) (ht:lx G e c=some (g,xs)) (hx:kA xs=some gl) (hle:D.le.go gl ds)
  (ho:tp rs ps e (.d y)) (h:next ⟨aR e dst (.d y),H⟩):mw P G c e dst H rs ps next:=⟨y,g,gl,by rw[ht,oV hx],hc.tJ hle,ho,h⟩
def xM (Mv:Nat->Prop) (dst:Option Tmp) (r s:Nat) (z:AV) (σ:St) (next:St->Prop):Prop:=
 if s=r then match σ.H r,z with
  | some (.sl ty sz els),.own _ _ m=>Mv r/\m=els.length/\next ⟨aR σ.env dst (.d (.sl none els)),bk σ.H r (.sl ty sz [])⟩
  | _,_=>False
 else next ⟨aR σ.env dst z,σ.H⟩
def Ai (T:Ty) (Mv:Nat->Prop) (G:aF) (o:Oper) (σ:St) (r s:Nat) (next:St->Prop):Prop:=match vy o with
 | some (x,y)=>match bG G σ.env x,bG G σ.env y with
  | some (.own q _ _),some v=>q=r/\rr s v/\match wr T G Mv σ o with
   | some (c,z,bz)=>c/\xM Mv o.dst r s z bz next
   | none=>False
  | _,_=>False
 | none=>False
def tw (T:Ty) (G:aF) (Mv:Nat->Prop) (o:Oper) (σ:St) (rs:List Nat) (next:St->Prop):Prop:=
 if gq o.op then match wr T G Mv σ o with
  | some (c,x,aP)=>c/\tp rs o.op.operands.toList σ.env x/\next ⟨aR aP.env o.dst x,aP.H⟩
  | none=>False
 else match rd T G σ o.op with
  | some (c,x)=>c/\tp rs o.op.operands.toList σ.env x/\next ⟨aR σ.env o.dst x,σ.H⟩
  | none=>False
def pg (P:Program) (T:Ty) (Mv:Nat->Prop) (G:aF) (N:Fr) (la:List (Nat×Nat×Nat)) (av:List (Nat×List Nat)) (K:St->Prop):List (Nat×Oper)->St->Prop
 | [],σ=>K σ
 | (i,o) :: rest,σ=>iy N o/\o.guard=none/\match la.lookup i with
  | some (r,s)=>Ai T Mv G o σ r s (pg P T Mv G N la av K rest)
  | none=>kindOf o.op≠9/\match eH o.op with
   | some c=>mw P G c σ.env o.dst σ.H (sx av i) o.op.operands.toList (pg P T Mv G N la av K rest)
   | none=>tw T G Mv o σ (sx av i) (pg P T Mv G N la av K rest)
def dZ (ops:Array Oper):List Nat->List (Nat×Oper)
 | []=>[]
 | i :: l=>match ops[i]? with
  | some o=>(i,o) :: dZ ops l
  | none=>dZ ops l
theorem YN {K:St->Prop}:∀ (l:List Nat) (σ:St),(∀ i∈l,i < ops.size)->pg P T Mv G N la av K (dZ ops l) σ->∃ c6,K c6/\MK P T Mv G N la av ops l σ c6:=by
 intro l
 induction l with
 | nil=>intro σ _ h;exact⟨σ,h,rfl⟩
 | cons i l ih=>
  intro σ hl h;have hi:=hl i al
  have ho:ops[i]? = some ops[i]:=by simp[hi]
  simp only[dZ,ho]at h;generalize ops[i]=o at ho h;simp only[pg]at h;obtain⟨hd,gg,h⟩:=h
  have fin:∀ bz,qV P T Mv G N la av i o σ bz->pg P T Mv G N la av K (dZ ops l) bz->∃ c6,K c6/\MK P T Mv G N la av ops (i :: l) σ c6:=fun bz hs h1=>by
   obtain⟨c6,hk,hr⟩:=ih bz (fun j hj=>hl j (by simp[hj])) h1;exact⟨c6,hk,o,ho,bz,hs,hr⟩
  cases pH:la.lookup i with
  | some rs=>
   obtain⟨r,s⟩:=rs;simp only[pH]at h;unfold Ai at h;split at h
   .rename_i x y SB;split at h
    .rename_i q off n v hx hy;obtain⟨rfl,hs,h⟩:=h;split at h
     .rename_i c z bz hw;obtain⟨hc,h⟩:=h;obtain⟨e,H⟩:=σ;obtain⟨m,row,x6,rfl,rfl⟩:=jf.of SB hx hy hs hw hc;unfold xM at h;split at h
      .obtain⟨⟨ty,sz,els,rfl⟩,_⟩:=x6.row;simp only[bk,if_true]at h;obtain⟨hm,Bu,h⟩:=h;refine fin _ ⟨hd,gg,?_⟩ h;simp only[pH];refine⟨m,_,_,_,x6,.inr ⟨hm,ty,sz,els,rfl,Bu,rfl,rfl⟩,?_⟩;congr 1;funext q';by_cases oH:q'=q<;>simp[bk,oH]
      .refine fin _ ⟨hd,gg,?_⟩ h;simp only[pH];exact⟨m,row,_,_,x6,.inl ⟨rfl,rfl⟩,rfl⟩
     .exact h.elim
    .exact h.elim
   .exact h.elim
  | none=>
   simp only[pH]at h;obtain⟨hk,h⟩:=h;split at h
   .rename_i c hc;obtain⟨y,g,ds,ht,hp,iU,h⟩:=h;refine fin _ ⟨hd,gg,?_⟩ h;simp only[pH];refine⟨hk,.d y,σ.H,?_,rfl,Ce iU,fun _ c' dD=>?_⟩
    .unfold Ex;simp only[hc];exact⟨y,⟨g,_,ht,.inl ⟨ds,rfl,hp⟩⟩,rfl,trivial⟩
    .rw[hc]at dD;obtain rfl:=AI dD;exact⟨y,g,ds,ht,hp,rfl⟩
   .rename_i hc;unfold tw at h;split at h
    .rename_i hw;split at h
     .rename_i c x bz h1;obtain⟨cA,iU,h⟩:=h;have he:=zT hk h1;obtain⟨e,H⟩:=σ;obtain⟨e1,H1⟩:=bz;dsimp only at he;subst he;refine fin _ ⟨hd,gg,?_⟩ h;simp only[pH];refine⟨hk,x,H1,?_,rfl,Ce iU,fun _ c' dD=>?_⟩
      .unfold Ex;simp only[hc];rw[if_pos hw];exact⟨c,h1,cA⟩
      .rw[hc]at dD;cases dD
     .exact h.elim
    .rename_i hw;split at h
     .rename_i c x h1;obtain⟨cA,iU,h⟩:=h;refine fin _ ⟨hd,gg,?_⟩ h;simp only[pH];refine⟨hk,x,σ.H,?_,rfl,Ce iU,fun _ c' dD=>?_⟩
      .unfold Ex;simp only[hc];rw[if_neg hw];exact⟨c,h1,cA,trivial⟩
      .rw[hc]at dD;cases dD
     .exact h.elim
theorem HH (hg:Good P T) (hm:P.follows .mixedOrders=true) (la:List (Nat×Nat×Nat)) (av:List (Nat×List Nat)) (ord:List Nat) {id:Nat} (cG:Gw la av ord ops=true) {Q:Exit->St->Prop} {σ:St} (h:pg P T Mv G N la av (fun aP=>Q .normal aP) (dZ ops ord) σ):AW P Mv X G N (.region id ops true) Q σ:=xk (Step:=qV P T Mv G N la av) (cp:=tW la av ops) hm (fun i o ho σ aP h w μ a hi _ _ hk=>by
  obtain⟨HA,gF,himp⟩:=h.step (ops:=ops) (X:=X);refine zI hg gF hi ho fun w' aK a' bn oC=>?_;obtain⟨il,RT,yi⟩:=himp w' aK a' bn
  exact hk w' il a' RT (oC.trans yi)) (fun i j oi oj _ _ hc σ bz gV h1 h2=>Uu hc h1 h2) ord cG fun bf=>YN ord σ bf h
theorem HJ (hg:Good P T) (hm:P.follows .mixedOrders=true) (la:List (Nat×Nat×Nat)) (av:List (Nat×List Nat)) (ord:List Nat) (l ns:List Nat) (hM:∀ r,ns.contains r=false->Mv r) {id:Nat} (cG:Gw la av ord ops=true) {y:Code} {Q:Exit->St->Prop} {σ:St}
  (h:∀ K:St->Prop,(∀ τ:St,AW P Mv X G N y Q (τ.norm l ns)->K τ)->pg P T Mv G N la av K (dZ ops ord) σ):AW P Mv X G N (.seq (.region id ops true) y) Q σ:=
 qT (HH hg hm la av ord cG (h _ fun _ h=>h.norm l ns hM))
theorem C2 (hg:Good P T) (hm:P.follows .mixedOrders=true) (la:List (Nat×Nat×Nat)) (av:List (Nat×List Nat)) (ord:List Nat) {id:Nat} (cG:Gw la av ord ops=true) {Q:Exit->St->Prop} {σ:St}
  (h:∀ K:St->Prop,(∀ τ:St,Q .normal τ->K τ)->pg P T Mv G N la av K (dZ ops ord) σ):AW P Mv X G N (.region id ops true) Q σ:=HH hg hm la av ord cG (h _ fun _ h=>h)
end
end Go.Av
namespace Go.Av
section
variable {P:Program} {T:Ty} {Mv X:Nat->Prop} {G:aF} {N:Fr} {σ:St}
theorem cw (l:List (Nat×AV)) (i:Nat) (x:AV):ik (bl l) i x=bl ((i,x) :: l):=by
 funext j;simp only[ik,bl,List.lookup];by_cases h:j=i
 .subst h;simp
 .have:(j == i)=false:=by simpa using h
  simp[h,this]
theorem S4 (l:List (Nat×Row)) (i:Nat) (x:Row):bk (au l) i x=au ((i,x) :: l):=by
 funext j;simp only[bk,au,List.lookup];by_cases h:j=i
 .subst h;simp
 .have:(j == i)=false:=by simpa using h
  simp[h,this]
theorem Gb {α β:Type} (f:α->β) (l:List (Nat×α)) (i:Nat):(l.map fun p=>(p.1,f p.2)).lookup i=(l.lookup i).map f:=by
 induction l with
 | nil=>rfl
 | cons p l ih=>
  simp only[abj,List.lookup];cases h:(i == p.1)<;>simp[ih]
theorem TE (r:Nat) (l:List (Nat×AV)):dN r (bl l)=bl (l.map fun p=>(p.1,p.2.kill r)):=by
 funext j;simp only[dN,bl,Gb]
theorem TF (r:Nat) (l:List (Nat×Row)):dO r (au l)=au (l.map fun p=>(p.1,p.2.kill r)):=by
 funext j;simp only[dO,au,Gb]
theorem Y6 (o f:Nat->Nat->Nat->AV) (l:List (Nat×AV)):ly o f (bl l)=bl (l.map fun p=>(p.1,p.2.tr o f)):=by
 funext j;simp only[ly,bl,Gb]
theorem Ss:eQ=au []:=rfl
def G4 (P:Program) (T:Ty) (Mv X:Nat->Prop) (G:aF) (N:Fr) (ops:Array Oper) (o:Oper) (σ:St) (K:St->Prop):Prop:=iy N o/\match jK ops σ.env o with
 | some b=>if b=true then vM P T Mv X G N o σ K else K ⟨aR σ.env o.dst dA,σ.H⟩
 | none=>False
def M6 (P:Program) (T:Ty) (Mv:Nat->Prop) (G:aF) (N:Fr) (ops:Array Oper) (o:Oper) (σ:St) (K:St->Prop):Prop:=iy N o/\match jK ops σ.env o with
 | some b=>if b=true then (match eH o.op with
  | some c=>lC P G c σ o.dst K
  | none=>oQ T G Mv o σ K) else K ⟨aR σ.env o.dst dA,σ.H⟩
 | none=>False
def M7 (P:Program) (T:Ty) (Mv:Nat->Prop) (G:aF) (N:Fr) (la:List (Nat×Nat×Nat)) (av:List (Nat×List Nat)) (i:Nat) (o:Oper) (σ:St) (K:St->Prop):Prop:=iy N o/\o.guard=none/\match la.lookup i with
 | some (r,s)=>Ai T Mv G o σ r s K
 | none=>kindOf o.op≠9/\match eH o.op with
  | some c=>mw P G c σ.env o.dst σ.H (sx av i) o.op.operands.toList K
  | none=>tw T G Mv o σ (sx av i) K
theorem aq {ops:Array Oper} {K:St->Prop} {o:Oper} {rest:List Oper} (h:∀ K':St->Prop,(∀ τ,je P T Mv X G N ops K rest τ->K' τ)->G4 P T Mv X G N ops o σ K'):je P T Mv X G N ops K (o :: rest) σ:=h _ fun _ h=>h
theorem fm {ops:Array Oper} {K:St->Prop} {o:Oper} {rest:List Oper} (h:∀ K':St->Prop,(∀ τ,nT P T Mv G N ops K rest τ->K' τ)->M6 P T Mv G N ops o σ K'):nT P T Mv G N ops K (o :: rest) σ:=h _ fun _ h=>h
theorem aZ {ops:Array Oper} {K:St->Prop} (h:K σ):je P T Mv X G N ops K [] σ:=h
theorem kW {ops:Array Oper} {K:St->Prop} (h:K σ):nT P T Mv G N ops K [] σ:=h
end
end Go.Av
namespace Go.Av
theorem Y7 (k:Nat->Bool) (o f:Nat->Nat->Nat->AV) (l:List (Nat×Row)):fM k o f (au l)=au (l.filterMap fun p=>if k p.1=true then some (p.1,p.2.tr o f) else none):=by
 funext i;unfold fM au
 induction l with
 | nil=>simp
 | cons p l ih=>
  obtain⟨j,r⟩:=p;simp only[List.lookup_cons,List.filterMap_cons];by_cases oF:i=j
  .subst oF;cases hk:k i
   .simp[hk]at ih ⊢;exact ih
   .simp
  .have hb:(i == j)=false:=by simpa using oF
   rw[hb];cases hk:k j
   .simpa using ih
   .simp only[if_true,List.lookup_cons,hb];exact ih
section
variable {P:Program} {Mv X:Nat->Prop} {G:aF} {N:Fr} {w w':World} {μ:Mu} {a:Act} {σ:St}
theorem zK {T:Ty} {ops:Array Oper} {la:List (Nat×Nat×Nat)} {av:List (Nat×List Nat)} {K:St->Prop} {i:Nat} {l:List Nat} {o:Oper} (ho:ops[i]? = some o) (h:∀ K':St->Prop,(∀ τ,pg P T Mv G N la av K (dZ ops l) τ->K' τ)->M7 P T Mv G N la av i o σ K'):pg P T Mv G N la av K (dZ ops (i :: l)) σ:=by
 have:dZ ops (i :: l)=(i,o) :: dZ ops l:=by simp[dZ,ho]
 rw[this];exact h _ fun _ h=>h
theorem zL {T:Ty} {ops:Array Oper} {la:List (Nat×Nat×Nat)} {av:List (Nat×List Nat)} {K:St->Prop} (h:K σ):pg P T Mv G N la av K (dZ ops []) σ:=h
theorem aY.n7 (b j r ty sz:Nat) {e:Env} {H:Heap} {tb:TypeId} {cells:List AV} (hb:H b=some (.box tb cells)) (hr:H r=none) (hc:cells[j]? = some (.d (.sl (some false) []))) :
  aY Mv X G N ⟨e,H⟩ ⟨e,bk (bk H r (.sl ty sz [])) b (.box tb (cells.set j (.own r 0 0)))⟩:=fun w μ a hi=>by
 obtain⟨bn,ev⟩:=hi.alloc (Mv:=Mv) (w':=w) (m:=⟨none,sz,0⟩) hr (cT.refl w) al (row:=.sl ty sz []) fun _=>.nil rfl rfl
 have SN:b≠r:=fun h=>by subst h;rw[hr]at hb;cases hb
 refine⟨eo μ r ⟨none,sz,0⟩,⟨⟨fun q row hq=>?_,fun q m hm=>?_,bn.bo.inj,bn.bo.frame,bn.bo.fits⟩,bn.env,bn.iu⟩,ev⟩
 .by_cases yM:q=b
  .subst yM;simp only[bk,if_true,BY]at hq;subst hq;obtain⟨m,hm,ok⟩:=bn.bo.rows q (.box tb cells) (by simp[bk,SN,hb]);refine⟨m,hm,?_⟩
   cases ok with
   | box bp hs jl hh hn gp hx=>
    refine .box bp rfl jl hh (by simpa using hn) (hx:=by simpa using hx) fun i u c hu gN=>?_;rw[List.getElem?_set]at gN;split at gN
    .rename_i oF;subst oF;split at gN
     .obtain rfl:=AI gN;have h1:=gp j u _ hu hc;refine .own (m:=⟨none,sz,0⟩) (by simp[eo]) (.inl ⟨rfl,?_,rfl,rfl⟩)
      rcases h1.data.oT with⟨rfl,_⟩ | ⟨_,_,_,hk,_⟩
      .rfl
      .exact absurd rfl hk
     .cases gN
    .exact gp i u c hu gN
  .exact bn.bo.rows q row (by simpa[bk,yM]using hq)
 .by_cases yM:q=b
  .exact⟨.box tb (cells.set j (.own r 0 0)),by subst yM;simp[bk]⟩
  .obtain⟨row,eT⟩:=bn.bo.j6 q m hm;exact⟨row,by simpa[bk,yM]using eT⟩
end
end Go.Av
namespace Go.Av
section
variable {P:Program} {T:Ty} {Mv X:Nat->Prop} {G:aF} {N:Fr} {σ:St}
def dT (r r' q:Nat):Nat:=if q=r then r' else q
def fR (r r' q off n:Nat):AV:=.own (dT r r' q) off n
def fQ (r r' q e j:Nat):AV:=.ref (dT r r' q) e j
def qK (r r':Nat) (μ:Mu):Mu:=fun q=>if q=r' then μ r else if q=r then none else μ q
def na (r r':Nat) (H:Heap):Heap:=fun q=>(if q=r' then H r else if q=r then none else H q).map (Row.tr (fR r r') (fQ r r'))
theorem w8 {r r' q:Nat} {m:jh} {μ:Mu} (h:qK r r' μ q=some m):∃ p,μ p=some m/\q=dT r r' p:=by
 unfold qK at h;split at h
 .rename_i e;exact⟨r,h,by simp[dT,e]⟩
 .split at h
  .cases h
  .rename_i e1 e2;exact⟨q,h,by simp[dT,e2]⟩
theorem GO {r r' p:Nat} {m:jh} {μ:Mu} (h0:μ r'=none) (h:μ p=some m):qK r r' μ (dT r r' p)=some m:=by
 unfold qK dT;by_cases e:p=r
 .subst e;simp[h]
 .have e2:p≠r':=fun e2=>by rw[e2,h0]at h;cases h
  simp[e,e2,h]
theorem In.dT {w:World} {μ:Mu} {a:Act} {r r':Nat} (hi:In w X G μ N a σ) (hH:σ.H r'=none):In w X G (qK r r' μ) N a ⟨ly (fR r r') (fQ r r') σ.env,na r r' σ.H⟩:=by
 have h0:μ r'=none:=hi.bo.u1 hH;have hX:∀ b,XX X (qK r r' μ) b->XX X μ b:=fun b hb=>hb.elim .inl fun ⟨q,m,hq,jR⟩=>let ⟨p,hp,_⟩:=w8 hq;.inr ⟨p,m,hp,jR⟩;have rz:∀ {u:Value} {x:D},RD w (XX X μ) u x->RD w (XX X (qK r r' μ)) u x:=fun h=>h.mono (aa8 _) fun b _ hb=>⟨rfl,fun e=>hb (hX b e)⟩
 have x4:∀ {u:Value} {x:AV},RV w X μ u x->RV w X (qK r r' μ) u (x.tr (fR r r') (fQ r r')):=fun h=>RV.tr hX (fun u q off n h=>by
  obtain⟨m,hm,hh⟩:=h.lp
  exact .own (GO h0 hm) hh) (fun u q e j h=>by
  obtain⟨m,b,hm,hb,rfl⟩:=h.jd
  exact .ref (GO h0 hm) hb) h
 refine⟨⟨fun q row hr=>?_,fun q m hr=>?_,fun q q' m1 m2 b h1 h2 fi eV=>?_,fun q mq b hq hb=>?_,hi.bo.fits⟩,
  ⟨hi.env.defers,hi.env.size,fun i x hx=>?_⟩,fun g x hx=>rz (hi.iu g x hx)⟩
 .obtain⟨nc,uL,rfl⟩:=AS.1 hr
  have:∃ p,σ.H p=some nc/\q=Go.Av.dT r r' p:=by
   split at uL
   .rename_i e;exact⟨r,uL,by simp[Go.Av.dT,e]⟩
   .split at uL
    .cases uL
    .rename_i e1 e2;exact⟨q,uL,by simp[Go.Av.dT,e2]⟩
  obtain⟨p,hp,rfl⟩:=this;obtain⟨m,hm,ok⟩:=hi.bo.rows p nc hp;refine⟨m,GO h0 hm,?_⟩
  cases ok with
  | nil h1 h2=>exact .nil h1 h2
  | sl h1 h2 h3 h4 h5 h6 h7 h8 h9=>exact .sl h1 h2 h3 h4 h5 h6 h7 h8 fun i j el c he hc=>let ⟨u,hu,hr⟩:=h9 i j el c he hc;⟨u,hu,rz hr⟩
  | box h1 h2 h3 h4 h5 h6 h7=>
   refine .box h1 rfl h3 h4 (by simpa using h5) (fun j u c hu hc=>?_) (by simpa using h7);rw[aa3]at hc;obtain⟨c',dD,rfl⟩:=AS.1 hc;exact x4 (h6 j u c' hu dD)
  | mp h1 h2 h3 h4=>exact .mp h1 h2 h3 fun i e p he hp=>let ⟨a,b,c⟩:=h4 i e p he hp;⟨a,b,rz c⟩
  | it h1 h2 h3=>exact .it h1 h2 (rz h3)
 .obtain⟨p,hp,rfl⟩:=w8 hr;obtain⟨row,eT⟩:=hi.bo.j6 p m hp;refine⟨row.tr (fR r r') (fQ r r'),?_⟩
  have bw:p≠r':=fun e=>by rw[e,h0]at hp;cases hp
  show na r r' σ.H _=_;unfold na Go.Av.dT;by_cases e:p=r
  .subst e;simp[eT]
  .simp[e,bw,eT]
 .obtain⟨p1,ke,rfl⟩:=w8 h1;obtain⟨p2,jD,rfl⟩:=w8 h2;rw[hi.bo.inj p1 p2 m1 m2 b ke jD fi eV]
 .obtain⟨p,hp,rfl⟩:=w8 hq;exact hi.bo.frame p mq b hp hb
 .replace hx:ly (fR r r') (fQ r r') σ.env i=some x:=hx;unfold ly at hx;obtain⟨x0,A5,rfl⟩:=AS.1 hx;obtain⟨u,hu,hr⟩:=hi.env.slot i x0 A5;exact⟨u,hu,x4 hr⟩
theorem aY.dT {r r':Nat} (hm:Mv r) (hH:σ.H r'=none):aY Mv X G N σ ⟨ly (fR r r') (fQ r r') σ.env,na r r' σ.H⟩:=fun w μ a hi=>
 ⟨qK r r' μ,hi.dT hH,⟨aa8 _,rfl,rfl,rfl,fun b hb hr=>⟨rfl,fun ⟨q,m,hq,jR⟩=>let ⟨p,hp,_⟩:=w8 hq;hr ⟨p,m,hp,jR⟩⟩,fun q m hq hn=>by
  have h1:q≠r:=fun e=>hn (e ▸ hm)
  have h2:q≠r':=fun e=>by rw[e,hi.bo.u1 hH]at hq;cases hq
  simp only[qK,if_neg h1,if_neg h2]
  exact hq⟩⟩
end
end Go.Av
namespace Go.Av
def wK:Op->Bool
 | .load _ _=>true
 | .indexAddr _ _ _=>true
 | .slice _ _ _ _ _=>true
 | .store _ _ _=>true
 | .mapUpdate _ _ _ _=>true
 | _=>false
def qo (r:Nat):AV->Prop
 | .ref q _ _=>q=r
 | .own q _ _=>q=r
 | .d _=>True
 | _=>False
def tq (G:aF) (e:Env) (o:Op) (r:Nat):Prop:=match o with
 | .load _ p=>match bG G e p with
  | some v=>qo r v
  | none=>False
 | .indexAddr _ p _=>match bG G e p with
  | some v=>qo r v
  | none=>False
 | .slice _ p _ _ _=>match bG G e p with
  | some v=>qo r v
  | none=>False
 | .store _ p _=>match bG G e p with
  | some (.ref q _ _)=>q=r
  | _=>False
 | .mapUpdate _ p _ _=>match bG G e p with
  | some (.mp q)=>q=r
  | _=>False
 | _=>False
def ph (G:aF) (fp:List (Nat×Nat)) (e:Env) (i:Nat) (o:Op):Prop:=match fp.lookup i with
 | some r=>tq G e o r
 | none=>True
def vC (fp:List (Nat×Nat)) (ops:Array Oper) (i j:Nat) (oi oj:Oper):Bool:=jO ops oi oj || (oi.apart ops oj && wK oi.op && wK oj.op && match fp.lookup i,fp.lookup j with
 | some r,some r'=>!(r == r')
 | _,_=>false)
section
variable {P:Program} {T:Ty} {Mv X:Nat->Prop} {G:aF} {N:Fr} {ops:Array Oper} {fp:List (Nat×Nat)}
def lq (H:Heap) (r:Nat):Option Row->Heap
 | none=>H
 | some row=>bk H r row
theorem Ck {H:Heap} {r q:Nat} {u:Option Row} (h:q≠r):lq H r u q=H q:=by
 cases u with
 | none=>rfl
 | some row=>simp[lq,bk,h]
theorem Ma {H:Heap} {r q:Nat} {u v:Option Row} (h:r≠q):lq (lq H r u) q v=lq (lq H q v) r u:=by
 cases u<;>cases v<;>try rfl
 funext i;by_cases h1:i=r<;>by_cases h2:i=q<;>simp[lq,bk,h1,h2,h,abY h]
theorem Ur {H H2:Heap} {t:TypeId} {v:AV} {r:Nat} (hv:qo r v) (h:H2 r=H r):mW T H2 t v=mW T H t v:=by
 cases v with
 | d x=>cases x<;>rfl
 | ref q ee j=>simp only[qo]at hv;subst hv;simp only[mW,h]
 | own q off n=>rfl
 | _=>exact hv.elim
theorem Ti {H H2:Heap} {t:TypeId} {v y:AV} {r:Nat} (hv:qo r v) (h:H2 r=H r):o8 T H2 t v y=o8 T H t v y:=by
 cases v with
 | d x=>cases x<;>(cases y<;>first | rfl | (rename_i z;cases z<;>first | rfl | (rename_i z;cases z<;>rfl)))
 | ref q ee j=>cases y<;>first | rfl | (rename_i z;cases z<;>first | rfl | (rename_i z;cases z<;>rfl))
 | own q off n=>
  simp only[qo]at hv;subst hv
  cases y with
  | d z=>cases z with
   | v z=>cases z<;>first | rfl | simp only[o8,h]
   | _=>rfl
  | _=>rfl
 | _=>exact hv.elim
theorem WT {H H2:Heap} {t:TypeId} {v:AV} {lo hi:Option Int} {r:Nat} (hv:qo r v) (h:H2 r=H r):p7 T H2 t v lo hi=p7 T H t v lo hi:=by
 cases v with
 | d x=>cases x<;>first | rfl | (rename_i z;cases z<;>rfl)
 | ref q ee j=>rfl
 | own q off n=>simp only[qo]at hv;subst hv;simp only[p7,h]
 | _=>exact hv.elim
theorem Ex.CK {o:Oper} {e:Env} {H H':Heap} {x:AV} {r:Nat} (ht:tq G e o.op r) (h:Ex P T Mv G o e H x H') :
  ∃ u,H'=lq H r u/\∀ H2,H2 r=H r->Ex P T Mv G o e H2 x (lq H2 r u):=by
 obtain⟨dst,op,type,pos,after,guard⟩:=o;dsimp only at ht;cases op<;>simp only[tq]at ht
 case load t p=>
  split at ht
  .rename_i v hp;refine⟨none,?_,fun H2 h2=>?_⟩
   .unfold Ex at h;simp only[eH,gq,abh,if_false]at h;obtain⟨c,_,_,rfl⟩:=h;rfl
   .unfold Ex at h ⊢;simp only[eH,gq,abh,if_false]at h ⊢;obtain⟨c,h1,h3,rfl⟩:=h;refine⟨c,?_,h3,rfl⟩;simp only[rd,hp,acz]at h1 ⊢;rw[Ur ht h2];exact h1
  .exact ht.elim
 case indexAddr t p y=>
  split at ht
  .rename_i v hp;refine⟨none,?_,fun H2 h2=>?_⟩
   .unfold Ex at h;simp only[eH,gq,abh,if_false]at h;obtain⟨c,_,_,rfl⟩:=h;rfl
   .unfold Ex at h ⊢;simp only[eH,gq,abh,if_false]at h ⊢;obtain⟨c,h1,h3,rfl⟩:=h;refine⟨c,?_,h3,rfl⟩;simp only[rd,hp]at h1 ⊢
    cases hy:bG G e y with
    | none=>simp[hy]at h1
    | some b=>simp only[hy]at h1 ⊢;rw[Ti ht h2];exact h1
  .exact ht.elim
 case slice t p lo hi mx=>
  split at ht
  .rename_i v hp;refine⟨none,?_,fun H2 h2=>?_⟩
   .unfold Ex at h;simp only[eH,gq,abh,if_false]at h;obtain⟨c,_,_,rfl⟩:=h;rfl
   .unfold Ex at h ⊢;simp only[eH,gq,abh,if_false]at h ⊢;obtain⟨c,h1,h3,rfl⟩:=h;refine⟨c,?_,h3,rfl⟩;simp only[rd,hp]at h1 ⊢;by_cases ix:mx.isNone=true
    .rw[if_pos ix]at h1 ⊢
     cases uD:bound G e lo with
     | none=>simp[uD]at h1
     | some l=>
      cases Bm:bound G e hi with
      | none=>simp[uD,Bm]at h1
      | some l2=>simp only[uD,Bm]at h1 ⊢;rw[WT ht h2];exact h1
    .rw[if_neg ix]at h1;cases h1
  .exact ht.elim
 case store t p y=>
  split at ht
  .rename_i q ee j hp;subst ht;unfold Ex at h;simp only[eH,gq,if_true]at h;obtain⟨c,h1,h3⟩:=h
   cases dst with
   | some d=>simp[wr]at h1
   | none=>
    simp only[wr,hp]at h1
    cases hy:bG G e y with
    | none=>simp[hy]at h1
    | some v=>
     simp only[hy]at h1;split at h1
     .rename_i ty cells hr;split at h1
      .rename_i he;split at h1
       .rename_i c' sD hs;simp only[BY,aa4,St.mk.injEq,true_and]at h1;obtain⟨rfl,rfl,rfl⟩:=h1;refine⟨some (.box ty sD),rfl,fun H2 h2=>?_⟩;unfold Ex;simp only[eH,gq,if_true];exact⟨_,by simp[wr,hp,hy,h2,hr,he,hs,lq],h3⟩
       .cases h1
      .cases h1
     .rename_i ty sz els hr;split at h1
      .rename_i c' mB hs;simp only[BY,aa4,St.mk.injEq,true_and]at h1;obtain⟨rfl,rfl,rfl⟩:=h1;refine⟨some (.sl ty sz mB),rfl,fun H2 h2=>?_⟩;unfold Ex;simp only[eH,gq,if_true];exact⟨_,by simp[wr,hp,hy,h2,hr,hs,lq],h3⟩
      .cases h1
     .cases h1
     .cases h1
     .cases h1
  .exact ht.elim
 case mapUpdate t p y z=>
  split at ht
  .rename_i q hp;subst ht;unfold Ex at h;simp only[eH,gq,if_true]at h;obtain⟨c,h1,h3⟩:=h
   cases dst with
   | some d=>simp[wr]at h1
   | none=>
    simp only[wr,hp]at h1;split at h1
    .rename_i r' key dx e1 e2 e3;simp only[BY,AV.mp.injEq]at e1;subst e1;split at h1
     .rename_i ty ents hr;split at h1
      .rename_i c' lF hs;simp only[BY,aa4,St.mk.injEq,true_and]at h1;obtain⟨rfl,rfl,rfl⟩:=h1;refine⟨some (.mp ty lF),rfl,fun H2 h2=>?_⟩;unfold Ex;simp only[eH,gq,if_true];exact⟨_,by simp[wr,hp,e2,e3,h2,hr,hs,lq],h3⟩
      .cases h1
     .cases h1
    .cases h1
  .exact ht.elim
theorem Gy {o:Op} {e e':Env} {r:Nat} (ha:im o e e') (h:tq G e o r):tq G e' o r:=by
 cases o<;>simp only[tq]at h ⊢<;>try exact h
 case load t p=>
  have:bG G e p=bG G e' p:=eS fun t ht=>ha t (by simp[Op.operands,ht]);rw[<- this];exact h
 case indexAddr t p y=>
  have:bG G e p=bG G e' p:=eS fun t ht=>ha t (by simp[Op.operands,ht]);rw[<- this];exact h
 case slice t p lo hi mx=>
  have:bG G e p=bG G e' p:=eS fun t ht=>ha t (by simp[Op.operands,ht]);rw[<- this];exact h
 case store t p y=>
  have:bG G e p=bG G e' p:=eS fun t ht=>ha t (by simp[Op.operands,ht]);rw[<- this];exact h
 case mapUpdate t p y z=>
  have:bG G e p=bG G e' p:=eS fun t ht=>ha t (by simp[Op.operands,ht]);rw[<- this];exact h
theorem CL {o:Op} {e e':Env} {i:Nat} (ha:im o e e') (h:ph G fp e i o):ph G fp e' i o:=by
 unfold ph at h ⊢;split
 .rename_i r hr;simp only[hr]at h;exact Gy ha h
 .trivial
def GStep (P:Program) (T:Ty) (Mv:Nat->Prop) (G:aF) (N:Fr) (ops:Array Oper) (fp:List (Nat×Nat)) (i:Nat) (o:Oper) (σ aP:St):Prop:=xc P T Mv G N ops o σ aP/\(jK ops σ.env o=some true->ph G fp σ.env i o.op)
theorem Pj {x y:Oper} (h:jO ops x y=true):kindOf x.op≠9/\kindOf y.op≠9:=by
 simp only[jO,OF]at h;obtain⟨_,h⟩:=h;refine⟨fun e=>by rw[e]at h;simp[s9]at h,fun e=>?_⟩;rw[e]at h
 revert h
 rcases kinds x.op with k | k | k | k | k | k<;>rw[k]<;>simp[s9]
theorem Kz {o:Op} (h:wK o=true):kindOf o≠9:=by
 unfold wK at h;split at h
 .have:=F8 ‹_›;simp only[kindOf];omega
 .simp[kindOf]
 .simp[kindOf]
 .simp[kindOf]
 .simp[kindOf]
 .cases h
theorem Qz {i j:Nat} {oi oj:Oper} (hc:vC fp ops i j oi oj=true) {σ bz gV:St} (h1:GStep P T Mv G N ops fp i oi σ bz) (h2:GStep P T Mv G N ops fp j oj bz gV) :
  ∃ jx,GStep P T Mv G N ops fp j oj σ jx/\GStep P T Mv G N ops fp i oi jx gV:=by
 have hk:kindOf oi.op≠9/\kindOf oj.op≠9:=by
  simp only[vC,abD,OF]at hc
  rcases hc with hc | ⟨⟨⟨_,h3⟩,h4⟩,_⟩
  .exact Pj hc
  .exact⟨Kz h3,Kz h4⟩
 obtain⟨yw,uu⟩:=hk;obtain⟨s1,t1⟩:=h1;obtain⟨s2,t2⟩:=h2;obtain⟨x,H1,zJ,rfl⟩:=(tF yw).1 s1;obtain⟨y,H2,ve,rfl⟩:=(tF uu).1 s2;obtain⟨e,H⟩:=σ;dsimp only at s1 s2 zJ ve t1 t2 ⊢
 have gL:oi.apart ops oj=true:=by
  simp only[vC,jO,abD,OF]at hc
  rcases hc with hc | hc
  .exact hc.1
  .exact hc.1.1.1
 obtain⟨a1,_,bw⟩:=j0 gL (e:=e) (v:=x);obtain⟨_,a2,_⟩:=j0 gL (e:=e) (v:=y);have wj:=CQ (o:=oj) (e:=aR e oi.dst x) (e':=e) a1;have wi:=CQ (o:=oi) (e:=aR e oj.dst y) (e':=e) a2;have iq:im oj.op (aR e oi.dst x) e:=fun t ht=>a1 t (lh ht);have jM:im oi.op e (aR e oj.dst y):=fun t ht=>(a2 t (lh ht)).symm
 have main:∃ H3,Sx P T Mv G N ops oj e H y H3/\Sx P T Mv G N ops oi (aR e oj.dst y) H3 x H2:=by
  simp only[vC,abD,OF]at hc
  rcases hc with hc | ⟨_,uq⟩
  .exact xA hc zJ ve yw uu
  .cases ck:fp.lookup i with
   | none=>simp[ck]at uq
   | some r=>
    cases uo:fp.lookup j with
    | none=>simp[ck,uo]at uq
    | some r'=>
     have hr:r≠r':=by simpa[ck,uo]using uq
     obtain⟨di,zJ⟩:=zJ;obtain⟨dj,ve⟩:=ve;rw[wj]at ve
     rcases zJ with⟨w1,e1⟩ | ⟨w1,rfl,rfl⟩
     .have t1:=t1 w1;simp only[ph,ck]at t1;obtain⟨u,rfl,F9⟩:=e1.CK t1
      rcases ve with⟨w2,e2⟩ | ⟨w2,rfl,rfl⟩
      .have t2:=t2 (by rw[wj];exact w2);simp only[ph,uo]at t2;have e2:=e2.congr uu iq;obtain⟨u',rfl,Ga⟩:=e2.CK (Gy iq t2);refine⟨lq H r' u',⟨dj,.inl ⟨w2,Ga H (Ck (abY hr)).symm⟩⟩,⟨di,.inl ⟨by rw[wi];exact w1,?_⟩⟩⟩;rw[Ma hr];exact (F9 _ (Ck hr)).congr yw jM
      .exact⟨H,⟨dj,.inr ⟨w2,rfl,rfl⟩⟩,⟨di,.inl ⟨by rw[wi];exact w1,e1.congr yw jM⟩⟩⟩
     .rcases ve with⟨w2,e2⟩ | ⟨w2,rfl,rfl⟩
      .exact⟨H2,⟨dj,.inl ⟨w2,e2.congr uu iq⟩⟩,⟨di,.inr ⟨by rw[wi];exact w1,rfl,rfl⟩⟩⟩
      .exact⟨_,⟨dj,.inr ⟨w2,rfl,rfl⟩⟩,⟨di,.inr ⟨by rw[wi];exact w1,rfl,rfl⟩⟩⟩
 obtain⟨H3,f1,f2⟩:=main;refine⟨⟨aR e oj.dst y,H3⟩,⟨(tF uu).2 ⟨y,H3,f1,rfl⟩,fun hw=>?_⟩,⟨(tF yw).2 ⟨x,H2,f2,by rw[kV bw]⟩,fun hw=>?_⟩⟩
 .exact CL iq (t2 (by rw[wj];exact hw))
 .exact CL jM (t1 (by rw[<- wi];exact hw))
def MJ (P:Program) (T:Ty) (Mv:Nat->Prop) (G:aF) (N:Fr) (ops:Array Oper) (fp:List (Nat×Nat)):List Nat->St->St->Prop:=nd (GStep P T Mv G N ops fp) ops
def Gv (fp:List (Nat×Nat)) (ops:Array Oper):Bool:=p4 (vC fp ops) (List.range ops.size) ops
def stepG (P:Program) (T:Ty) (Mv:Nat->Prop) (G:aF) (N:Fr) (ops:Array Oper) (fp:List (Nat×Nat)) (i:Nat) (o:Oper) (σ:St) (K:St->Prop):Prop:=iy N o/\match jK ops σ.env o with
 | some b=>if b=true then ph G fp σ.env i o.op/\(match eH o.op with
  | some c=>lC P G c σ o.dst K
  | none=>oQ T G Mv o σ K) else K ⟨aR σ.env o.dst dA,σ.H⟩
 | none=>False
def qO (P:Program) (T:Ty) (Mv:Nat->Prop) (G:aF) (N:Fr) (ops:Array Oper) (fp:List (Nat×Nat)) (K:St->Prop):Nat->List Oper->St->Prop
 | _,[],σ=>K σ
 | i,o :: rest,σ=>stepG P T Mv G N ops fp i o σ (qO P T Mv G N ops fp K (i+1) rest)
theorem lv {K:St->Prop} {i:Nat} {o:Oper} {rest:List Oper} {σ:St} (h:∀ K':St->Prop,(∀ τ,qO P T Mv G N ops fp K (i+1) rest τ->K' τ)->stepG P T Mv G N ops fp i o σ K'):qO P T Mv G N ops fp K i (o :: rest) σ:=h _ fun _ h=>h
theorem nU {K:St->Prop} {i:Nat} {σ:St} (h:K σ):qO P T Mv G N ops fp K i [] σ:=h
theorem YL {K:St->Prop}:∀ (l:List Oper) (k:Nat) (σ:St),(∀ j,l[j]? = ops[k+j]?)->qO P T Mv G N ops fp K k l σ->∃ c6,K c6/\MJ P T Mv G N ops fp (List.range' k l.length) σ c6:=by
 intro l
 induction l with
 | nil=>intro k σ _ h;exact⟨σ,h,rfl⟩
 | cons o l ih=>
  intro k σ hl h
  have h0:ops[k]? = some o:=by simpa using (hl 0).symm
  have eX:∀ j,l[j]? = ops[k+1+j]?:=fun j=>by have:=hl (j+1);simpa[abZ,Nat.add_comm 1 j]using this
  unfold qO stepG at h;obtain⟨hd,h⟩:=h;rw[aa9,List.range'_succ]
  have fin:∀ bz,GStep P T Mv G N ops fp k o σ bz->qO P T Mv G N ops fp K (k+1) l bz->∃ c6,K c6/\MJ P T Mv G N ops fp (k :: List.range' (k+1) l.length) σ c6:=by
   intro bz hs hq;obtain⟨c6,hk,hr⟩:=ih (k+1) bz eX hq;exact⟨c6,hk,o,h0,bz,hs,hr⟩
  split at h
  .rename_i b hb;split at h
   .rename_i lJ;subst lJ;obtain⟨ht,h⟩:=h;split at h
    .rename_i c hc;obtain⟨y,hy,h⟩:=h;refine fin _ ⟨⟨hd,.inl ⟨hb,?_⟩⟩,fun _=>ht⟩ h;unfold nw;simp only[hc];exact⟨y,hy,rfl⟩
    .rename_i hc;unfold oQ at h;split at h
     .rename_i hw;split at h
      .rename_i c x bz h1;obtain⟨cA,h⟩:=h;refine fin _ ⟨⟨hd,.inl ⟨hb,?_⟩⟩,fun _=>ht⟩ h;unfold nw;simp only[hc];rw[if_pos hw];exact⟨c,x,bz,h1,cA,rfl⟩
      .exact h.elim
     .rename_i hw;split at h
      .rename_i c x h1;obtain⟨cA,h⟩:=h;refine fin _ ⟨⟨hd,.inl ⟨hb,?_⟩⟩,fun _=>ht⟩ h;unfold nw;simp only[hc];rw[if_neg hw];exact⟨c,x,h1,cA,rfl⟩
      .exact h.elim
   .rename_i lJ
    have:b=false:=by simpa using lJ
    subst this;refine fin _ ⟨⟨hd,.inr ⟨hb,rfl⟩⟩,fun hw=>by rw[hb]at hw;cases hw⟩ h
  .exact h.elim
theorem HG (hg:Good P T) (hm:P.follows .mixedOrders=true) (fp:List (Nat×Nat)) {id:Nat} (cG:Gv fp ops=true) {Q:Exit->St->Prop} {σ:St} (h:qO P T Mv G N ops fp (fun aP=>Q .normal aP) 0 ops.toList σ):AW P Mv X G N (.region id ops true) Q σ:=xk (Step:=GStep P T Mv G N ops fp) (cp:=vC fp ops) hm (fun i o ho σ aP h w μ a hi _ _ hk=>zI hg h.1 hi ho hk) (fun i j oi oj _ _ hc σ bz gV h1 h2=>Qz hc h1 h2) _ cG fun _=>by
 have:=YL ops.toList 0 σ al h
 rwa [<- List.range_eq_range',abO]at this
theorem nZ (hg:Good P T) (hm:P.follows .mixedOrders=true) (fp:List (Nat×Nat)) (l ns:List Nat) (hM:∀ r,ns.contains r=false->Mv r) {id:Nat} (cG:Gv fp ops=true) {y:Code} {Q:Exit->St->Prop} {σ:St}
  (h:∀ K:St->Prop,(∀ τ:St,AW P Mv X G N y Q (τ.norm l ns)->K τ)->qO P T Mv G N ops fp K 0 ops.toList σ):AW P Mv X G N (.seq (.region id ops true) y) Q σ:=
 qT (HG hg hm fp cG (h _ fun _ h=>h.norm l ns hM))
theorem NS (hg:Good P T) (hm:P.follows .mixedOrders=true) (fp:List (Nat×Nat)) {id:Nat} (cG:Gv fp ops=true) {Q:Exit->St->Prop} {σ:St}
  (h:∀ K:St->Prop,(∀ τ:St,Q .normal τ->K τ)->qO P T Mv G N ops fp K 0 ops.toList σ):AW P Mv X G N (.region id ops true) Q σ:=HG hg hm fp cG (h _ fun _ h=>h)
end
end Go.Av
namespace Go.Av
def gS (fx:List Nat) (r:Nat):Prop:=fx.contains r=false
instance (fx:List Nat) (r:Nat):Decidable (gS fx r):=inferInstanceAs (Decidable (_=_))
theorem cy {fx ns:List Nat} (h:fx.all ns.contains=true):∀ r,ns.contains r=false->gS fx r:=fun r hr=>by
 unfold gS
 cases hc:fx.contains r with
 | false=>rfl
 | true=>
  have:=abP.1 h r (ab1.1 hc);rw[this]at hr;cases hr
def MC (P:Program) (G:aF) (fx:List Nat) (g:FuncId) (xs:List AV) (H:Heap) (y:AV) (H2:Heap):Prop:=fU P g/\∀ X,HB P (gS fx) X G g xs H fun x H'=>x=y/\H'=H2
def pf (cZ fx:List Nat) (q off n:Nat):AV:=if cZ.contains q && !fx.contains q then .dead else .own q off n
def pd (cZ fx:List Nat) (q e j:Nat):AV:=if cZ.contains q && !fx.contains q then .dead else .ref q e j
def jc (cZ:List Nat) (q:Nat):Bool:=!cZ.contains q
def kL (H2 H:Heap):Heap:=fun q=>match H2 q with
 | some row=>some row
 | none=>H q
theorem R4 (l2 l:List (Nat×Row)):kL (au l2) (au l)=au (l2 ++ l):=by
 funext q
 induction l2 with
 | nil=>rfl
 | cons p l2 ih=>
  unfold kL at ih ⊢;simp only[au,aby,List.lookup]at ih ⊢;cases h:(q == p.1)<;>simp only[h]at ih ⊢;exact ih
section
variable {P:Program} {T:Ty} {Mv X:Nat->Prop} {G:aF} {N:Fr} {w:World} {μ:Mu} {a:Act} {σ:St}
theorem RV.vk {w':World} {X':Nat->Prop} {aK:Mu} {o f:Nat->Nat->Nat->AV} (hD:∀ u d,RD w (XX X μ) u d->RD w' (XX X' aK) u d) (ho:∀ u r off n,RV w X μ u (.own r off n)->RV w' X' aK u (o r off n)) (hf:∀ u r e j,RV w X μ u (.ref r e j)->RV w' X' aK u (f r e j)) :
  ∀ {v:Value} {x:AV},RV w X μ v x->RV w' X' aK v (x.tr o f):=by
 intro v x hr
 induction hr with
 | d h'=>exact .d (hD _ _ h')
 | own hm h'=>exact ho _ _ _ _ (.own hm h')
 | ref hm hb=>exact hf _ _ _ _ (.ref hm hb)
 | agg hn _ ih=>
  rw[AV.tr,AV.xe];refine zi (.agg (by simpa using hn) fun j u c hu hc=>?_);rw[aa3]at hc;obtain⟨c',dD,rfl⟩:=AS.1 hc;exact ih j u c' hu dD
 | bI hn _ ih=>
  rw[AV.tr,AV.xe];refine B2 (.bI (by simpa using hn) fun j u c hu hc=>?_);rw[aa3]at hc;obtain⟨c',dD,rfl⟩:=AS.1 hc;exact ih j u c' hu dD
 | b6 _ ih=>exact Gj ih
 | bm _ ih=>exact .bm ih
 | fn hn _ ih=>
  rw[AV.tr,AV.xe];refine Gi (by simpa using hn) fun j u c hu hc=>?_;rw[aa3]at hc;obtain⟨c',dD,rfl⟩:=AS.1 hc;exact ih j u c' hu dD
 | mp hm hb=>
  rename_i r b m;have h0:=hf _ _ _ _ (RV.ref (e:=0) (j:=0) hm hb);unfold AV.tr;split
  .rename_i q' e' j' hq;rw[hq]at h0;obtain⟨m',b',cD,bp,e⟩:=h0.jd;simp only[Value.pointer.injEq,BY,Addr.mk.injEq]at e;obtain⟨rfl,_⟩:=e;exact .mp cD bp
  .exact .dead _
 | dead u=>exact .dead u
theorem RV.lift {w':World} {X':Nat->Prop} {aK:Mu} (hD:∀ u d,RD w (XX X μ) u d->RD w' (XX X' aK) u d) (fk:∀ q m,μ q=some m->aK q=some m):∀ {v:Value} {x:AV},RV w X μ v x->RV w' X' aK v x:=by
 intro v x hr
 induction hr with
 | d h'=>exact .d (hD _ _ h')
 | own hm h'=>exact .own (fk _ _ hm) h'
 | ref hm hb=>exact .ref (fk _ _ hm) hb
 | agg hn _ ih=>exact .agg hn ih
 | bI hn _ ih=>exact .bI hn ih
 | b6 _ ih=>exact .b6 ih
 | bm _ ih=>exact .bm ih
 | fn hn _ ih=>exact .fn hn ih
 | mp hm hb=>exact .mp (fk _ _ hm) hb
 | dead u=>exact .dead u
theorem iH.vk {w':World} {X':Nat->Prop} {aK:Mu} {o f:Nat->Nat->Nat->AV} {m:jh} (hb:∀ b,m.fh=some b->w'.heap[b]? = w.heap[b]?) (hD:∀ u d,RD w (XX X μ) u d->RD w' (XX X' aK) u d) (hV:∀ u x,RV w X μ u x->RV w' X' aK u (x.tr o f)) {row:Row} (ok:iH w X μ m row):iH w' X' aK m (row.tr o f):=by
 cases ok with
 | nil h1 h2=>exact .nil h1 h2
 | sl h1 h2 h3 h4 h5 h6 h7 h8 h9=>exact .sl h1 h2 ((hb _ h1).trans h3) h4 h5 h6 h7 h8 fun i j el c he hc=>let ⟨u,hu,hr⟩:=h9 i j el c he hc;⟨u,hu,hD _ _ hr⟩
 | box h1 h2 h3 h4 h5 h6 h7=>
  refine .box h1 rfl h3 ((hb _ h1).trans h4) (by simpa using h5) (hx:=by simpa using h7) fun j u c hu hc=>?_;rw[aa3]at hc;obtain⟨c',dD,rfl⟩:=AS.1 hc;exact hV _ _ (h6 j u c' hu dD)
 | mp h1 h2 h3 h4=>exact .mp h1 ((hb _ h1).trans h2) h3 fun i e p he hp=>let ⟨a,b,c⟩:=h4 i e p he hp;⟨a,b,hD _ _ c⟩
 | it h1 h2 h3=>exact .it h1 ((hb _ h1).trans h2) (hD _ _ h3)
theorem iH.lift {w':World} {X':Nat->Prop} {aK:Mu} {m:jh} (hb:∀ b,m.fh=some b->w'.heap[b]? = w.heap[b]?) (hD:∀ u d,RD w (XX X μ) u d->RD w' (XX X' aK) u d) (fk:∀ q m,μ q=some m->aK q=some m) {row:Row} (ok:iH w X μ m row):iH w' X' aK m row:=by
 cases ok with
 | nil h1 h2=>exact .nil h1 h2
 | sl h1 h2 h3 h4 h5 h6 h7 h8 h9=>exact .sl h1 h2 ((hb _ h1).trans h3) h4 h5 h6 h7 h8 fun i j el c he hc=>let ⟨u,hu,hr⟩:=h9 i j el c he hc;⟨u,hu,hD _ _ hr⟩
 | box h1 h2 h3 h4 h5 h6 h7=>exact .box h1 rfl h3 ((hb _ h1).trans h4) h5 (fun j u c hu hc=>(h6 j u c hu hc).lift hD fk) h7
 | mp h1 h2 h3 h4=>exact .mp h1 ((hb _ h1).trans h2) h3 fun i e p he hp=>let ⟨a,b,c⟩:=h4 i e p he hp;⟨a,b,hD _ _ c⟩
 | it h1 h2 h3=>exact .it h1 ((hb _ h1).trans h2) (hD _ _ h3)
theorem qJ {keep:Nat->Bool} {b:Nat} (h:gH (cE keep μ) b):gH μ b:=let ⟨r,m,hr,hb⟩:=h;⟨r,m,(ja hr).2,hb⟩
theorem Da {cZ:List Nat} {b:Nat}:XX (XX X (cE (jc cZ) μ)) (cE cZ.contains μ) b↔XX X μ b:=by
 constructor
 .rintro ((h | h) | h)
  .exact .inl h
  .exact .inr (qJ h)
  .exact .inr (qJ h)
 .rintro (h | ⟨r,m,hr,hb⟩)
  .exact .inl (.inl h)
  .cases hk:cZ.contains r with
   | true=>exact .inr ⟨r,m,by simp only[cE,hk,if_true];exact hr,hb⟩
   | false=>exact .inl (.inr ⟨r,m,by simp only[cE,jc,hk,ab8,if_true];exact hr,hb⟩)
theorem eu.part {H:Heap} (hs:eu w X μ H) (cZ:List Nat):eu w (XX X (cE (jc cZ) μ)) (cE cZ.contains μ) (fM cZ.contains (fb cZ) (fa cZ) H)/\
  ∀ {u:Value} {x:AV},RV w X μ u x->RV w (XX X (cE (jc cZ) μ)) (cE cZ.contains μ) u (x.tr (fb cZ) (fa cZ)):=by
 have hD:∀ u d,RD w (XX X μ) u d->RD w (XX (XX X (cE (jc cZ) μ)) (cE cZ.contains μ)) u d:=fun u d h=>h.sub fun b=>Da.1
 have hV:∀ u x,RV w X μ u x->RV w (XX X (cE (jc cZ) μ)) (cE cZ.contains μ) u (x.tr (fb cZ) (fa cZ)):=fun u x=>RV.vk hD (fun u r off n h=>by
   unfold fb;split
   .rename_i hk;obtain⟨m,hm,hh⟩:=h.lp;exact .own (by simp only[cE,hk,if_true];exact hm) hh
   .exact .dead u) (fun u r e j h=>by
   unfold fa;split
   .rename_i hk;obtain⟨m,b,hm,hb,rfl⟩:=h.jd;exact .ref (by simp only[cE,hk,if_true];exact hm) hb
   .exact .dead u)
 refine⟨⟨fun r row hr=>?_,fun r m hr=>?_,fun q q' m1 m2 b h1 h2 fi eV=>hs.inj q q' m1 m2 b (ja h1).2 (ja h2).2 fi eV,fun q m b hq hb hX=>?_,fun b hb=>hb.elim (hs.fits b) fun h=>hs.lB (qJ h)⟩,fun h=>hV _ _ h⟩
 .unfold fM at hr;split at hr
  .rename_i hk;obtain⟨nc,h0,rfl⟩:=AS.1 hr;obtain⟨m,hm,ok⟩:=hs.rows r nc h0;exact⟨m,by simp only[cE,hk,if_true];exact hm,ok.vk (fun _ _=>rfl) hD hV⟩
  .cases hr
 .obtain⟨hk,hm⟩:=ja hr;obtain⟨row,eT⟩:=hs.j6 r m hm;exact⟨row.tr (fb cZ) (fa cZ),by simp only[fM,hk,if_true,eT,abC]⟩
 .obtain⟨hk,hm⟩:=ja hq
  rcases hX with h | ⟨r,mr,hr,Ek⟩
  .exact hs.frame q m b hm hb h
  .obtain⟨jm,wh⟩:=ja hr;have:=hs.inj q r m mr b hm wh hb Ek;subst this;simp only[jc,hk,Bool.not_true,abh]at jm
theorem kD.Lf {fx cZ:List Nat} {g:FuncId} {p9 xs:List AV} {H1 H2:Heap} {y:AV} (hc:MC P G fx g xs H1 y H2) (hx:p9.map (AV.tr (fb cZ) (fa cZ))=xs) (hH:fM cZ.contains (fb cZ) (fa cZ) σ.H=H1)
  (hd:∀ q,(H2 q).isSome=true->cZ.contains q=true\/σ.H q=none) (hm:∀ r,cZ.contains r=true->fx.contains r=false->Mv r) {K:AV->St->Prop}
  (h:K y ⟨ly (pf cZ fx) (pd cZ fx) σ.env,kL H2 (fM (jc cZ) (pf cZ fx) (pd cZ fx) σ.H)⟩):kD P Mv X G N g p9 σ K:=by
 refine⟨hc.1,fun w μ a vs hi hn hv=>?_⟩;obtain⟨fW,oK⟩:=hi.bo.part cZ;rw[hH]at fW;refine (hc.2 (XX X (cE (jc cZ) μ)) w (cE cZ.contains μ) vs fW (fun g x hx=>(hi.iu g x hx).sub fun b=>Da.1) (by rw[hn,<- hx,abq]) fun i u x hu lP=>?_).mono ?_
 .rw[<- hx,aa3]at lP;obtain⟨x0,wE,rfl⟩:=AS.1 lP;exact oK (hv i u x0 hu wE)
 .rintro e w' ⟨v,x,H',il,rfl,⟨rfl,rfl⟩,hr,lO,br⟩
  have Rx:∀ q m,il q=some m->cZ.contains q=true\/μ q=none:=fun q m hq=>by
   obtain⟨row,eT⟩:=lO.j6 q m hq
   rcases hd q (by rw[eT];rfl)with h | h
   .exact .inl h
   .exact .inr (hi.bo.u1 h)
  let aK:Mu:=fun q=>match il q with
   | some m=>some m
   | none=>cE (jc cZ) μ q
  have m2:∀ q m,il q=some m->aK q=some m:=fun q m hq=>by simp only[aK,hq]
  have mr:∀ q m,cZ.contains q=false->μ q=some m->aK q=some m:=fun q m hk hq=>by
   have h2:il q=none:=by
    cases h2:il q with
    | none=>rfl
    | some m'=>
     rcases Rx q m' h2 with h | h
     .rw[hk]at h;cases h
     .rw[hq]at h;cases h
   simp only[aK,h2,cE,jc,hk,ab8,if_true,hq]
  have of:∀ q m,aK q=some m->il q=some m\/(il q=none/\cZ.contains q=false/\μ q=some m):=fun q m hq=>by
   cases h2:il q with
   | some m'=>simp only[aK,h2]at hq;exact .inl hq
   | none=>
    simp only[aK,h2]at hq;obtain⟨hk,hm⟩:=ja hq;exact .inr ⟨rfl,by simpa[jc]using hk,hm⟩
  have same:∀ b,b < w.heap.size->¬ gH (cE cZ.contains μ) b->w'.heap[b]? = w.heap[b]?/\¬ gH il b:=br.same
  have vU:∀ b,XX X aK b->XX (XX X (cE (jc cZ) μ)) il b:=fun b hb=>by
   rcases hb with hb | ⟨q,m,hq,jR⟩
   .exact .inl (.inl hb)
   .rcases of q m hq with h2 | ⟨_,hk,hm⟩
    .exact .inr ⟨q,m,h2,jR⟩
    .exact .inl (.inr ⟨q,m,by simp only[cE,jc,hk,ab8,if_true];exact hm,jR⟩)
  have hD:∀ u d,RD w (XX X μ) u d->RD w' (XX X aK) u d:=fun u d h=>h.mono br.size fun b hb hX=>by
   obtain⟨h1,h2⟩:=same b hb fun hr=>hX (.inr (qJ hr));refine⟨h1,fun QS=>?_⟩
   rcases QS with h | ⟨q,m,hq,jR⟩
   .exact hX (.inl h)
   .rcases of q m hq with h3 | ⟨_,_,hm⟩
    .exact h2 ⟨q,m,h3,jR⟩
    .exact hX (.inr ⟨q,m,hm,jR⟩)
  have Jd:∀ u d,RD w' (XX (XX X (cE (jc cZ) μ)) il) u d->RD w' (XX X aK) u d:=fun u d h=>h.sub vU
  have stay:∀ q m,(cZ.contains q && !fx.contains q)=false->μ q=some m->aK q=some m:=fun q m hk hq=>by
   cases hl:cZ.contains q with
   | false=>exact mr q m hl hq
   | true=>
    rw[hl,Bool.true_and]at hk
    have hfx:fx.contains q=true:=by simpa using hk
    exact m2 q m (br.kept q m (by simp only[cE,hl,if_true];exact hq) (by unfold gS;rw[hfx];simp))
  have hV:∀ u x,RV w X μ u x->RV w' X aK u (x.tr (pf cZ fx) (pd cZ fx)):=fun u x=>RV.vk hD (fun u r off n h=>by
    unfold pf;split
    .exact .dead u
    .rename_i hk;obtain⟨m,hm,hh⟩:=h.lp
     exact .own (stay r m (by simpa using hk) hm) hh) (fun u r e j h=>by
    unfold pd;split
    .exact .dead u
    .rename_i hk;obtain⟨m,b,hm,hb,rfl⟩:=h.jd
     exact .ref (stay r m (by simpa using hk) hm) hb)
  refine⟨v,x,_,aK,rfl,h,⟨⟨fun q row hq=>?_,fun q m hq=>?_,fun q q' m1 mm b h1 h2 fi eV=>?_,fun q m b hq hb=>?_,fun b hb=>abu (hi.bo.fits b hb) br.size⟩,⟨hi.env.defers,hi.env.size,fun i x hx=>?_⟩,fun g x hx=>hD _ _ (hi.iu g x hx)⟩,hr.lift Jd m2,br.size,br.os,br.tape,br.output,fun b hb oI=>?_,fun r m hr hn=>?_⟩
  .simp only[kL]at hq;split at hq
   .rename_i nP h2;obtain rfl:=AI hq;obtain⟨m,hm,ok⟩:=lO.rows q nP h2;exact⟨m,m2 q m hm,ok.lift (fun _ _=>rfl) Jd m2⟩
   .unfold fM at hq;split at hq
    .rename_i hk
     have jm:cZ.contains q=false:=by simpa[jc]using hk
     obtain⟨nc,h0,rfl⟩:=AS.1 hq;obtain⟨m,hm,ok⟩:=hi.bo.rows q nc h0;refine⟨m,mr q m jm hm,ok.vk (fun b hb=>(same b (ok.lB hb) fun ⟨r,UC,lg,Ek⟩=>?_).1) hD hV⟩;obtain⟨JP,wh⟩:=ja lg;have:=hi.bo.inj q r m UC b hm wh hb Ek;subst this;rw[jm]at JP;cases JP
    .cases hq
  .simp only[kL]
   rcases of q m hq with h2 | ⟨h2,hk,hm⟩
   .obtain⟨row,eT⟩:=lO.j6 q m h2;exact⟨row,by rw[eT]⟩
   .have rO:H' q=none:=by
     cases hh:H' q with
     | none=>rfl
     | some row=>obtain⟨m',cD,_⟩:=lO.rows q row hh;rw[h2]at cD;cases cD
    obtain⟨row,eT⟩:=hi.bo.j6 q m hm;exact⟨row.tr (pf cZ fx) (pd cZ fx),by rw[rO];simp only[fM,jc,hk,ab8,if_true,eT,abC]⟩
  .rcases of q m1 h1 with g1 | ⟨_,k1,g1⟩<;>rcases of q' mm h2 with g2 | ⟨_,k2,g2⟩
   .exact lO.inj q q' m1 mm b g1 g2 fi eV
   .exact absurd (.inr ⟨q',mm,by simp only[cE,jc,k2,ab8,if_true];exact g2,eV⟩) (lO.frame q m1 b g1 fi)
   .exact absurd (.inr ⟨q,m1,by simp only[cE,jc,k1,ab8,if_true];exact g1,fi⟩) (lO.frame q' mm b g2 eV)
   .exact hi.bo.inj q q' m1 mm b g1 g2 fi eV
  .rcases of q m hq with g1 | ⟨_,k1,g1⟩
   .exact fun hX=>lO.frame q m b g1 hb (.inl hX)
   .exact hi.bo.frame q m b g1 hb
  .replace hx:ly (pf cZ fx) (pd cZ fx) σ.env i=some x:=hx;unfold ly at hx;obtain⟨x0,h0,rfl⟩:=AS.1 hx;obtain⟨u,hu,hr⟩:=hi.env.slot i x0 h0;exact⟨u,hu,hV _ _ hr⟩
  .obtain⟨h1,h2⟩:=same b hb fun hr=>oI (qJ hr);refine⟨h1,fun ⟨q,m,hq,jR⟩=>?_⟩
   rcases of q m hq with h3 | ⟨_,_,hm⟩
   .exact h2 ⟨q,m,h3,jR⟩
   .exact oI ⟨q,m,hm,jR⟩
  .cases hl:cZ.contains r with
   | false=>exact mr r m hl hr
   | true=>
    cases hf:fx.contains r with
    | false=>exact absurd (hm r hl hf) hn
    | true=>exact stay r m (by rw[hl,hf];rfl) hr
theorem ch.mc {fx:List Nat} {g:FuncId} {p9 xs:List AV} {dH ju:List (Nat×Row)} {y:AV} {dst:Option Tmp} {next:St->Prop} (hc:MC P G fx g xs (au dH) y (au ju)) (hx:p9.map (AV.tr (fb (dH.map (·.1))) (fa (dH.map (·.1))))=xs)
  (hH:∀ p∈dH,(σ.H p.1).map (Row.tr (fb (dH.map (·.1))) (fa (dH.map (·.1))))=au dH p.1) (hd:∀ p∈ju,(dH.map (·.1)).contains p.1=true\/σ.H p.1=none) (hm:∀ r∈dH.map (·.1),fx.contains r=false->Mv r)
  (h:next ⟨aR (ly (pf (dH.map (·.1)) fx) (pd (dH.map (·.1)) fx) σ.env) dst y,kL (au ju) (fM (jc (dH.map (·.1))) (pf (dH.map (·.1)) fx) (pd (dH.map (·.1)) fx) σ.H)⟩):ch P Mv X G N g p9 σ dst next:=by
 refine kD.Lf hc hx (funext (Cu hH)).symm (fun q hq=>?_) (fun r hr=>hm r (ab1.1 hr)) h
 have o5:∀ l:List (Nat×Row),(au l q).isSome=true->∃ p∈l,p.1=q:=by
  intro l
  induction l with
  | nil=>intro h;simp[au]at h
  | cons p l ih=>
   intro h;simp only[au,List.lookup]at h
   cases yN:(q == p.1) with
   | true=>exact⟨p,al,by simpa using (beq_iff_eq.1 yN).symm⟩
   | false=>
    rw[yN]at h;obtain⟨p',h1,h2⟩:=ih h;exact⟨p',by simp[h1],h2⟩
 obtain⟨p,hp,rfl⟩:=o5 ju hq;exact hd p hp
def Cr (names:List Nat) (x y:AV):Prop:=match x.tr (fb names) (fa names),y with
 | .d d',.d d=>d'.le d
 | p,q=>p=q
def AG (T:Ty) (rs:List ResultVar) (y:AV) (rows:List (Nat×Row)) (σ:St):Prop:=match tB T σ rs with
 | some (c,vs)=>c/\Cr (rows.map (·.1)) (oneOf vs) y/\∀ p∈rows,(σ.H p.1).map (Row.tr (fb (rows.map (·.1))) (fa (rows.map (·.1))))=au rows p.1
 | none=>False
def H8 (T:Ty) (rs:List ResultVar) (y:AV) (rows:List (Nat×Row)):Exit->St->Prop
 | .normal,σ | .ret,σ=>AG T rs y rows σ
 | _,_=>False
theorem V3 {names:List Nat} {x y:AV} {u:Value} (h:Cr names x y) (hr:RV w X μ u (x.tr (fb names) (fa names))):RV w X μ u y:=by
 unfold Cr at h;split at h
 .rename_i d' d hx;rw[hx]at hr;exact .d (hr.data.le h)
 .rw[<- h];exact hr
theorem MC.aU (hg:Good P T) {g:FuncId} {fn:Func} {c:Code} {rs:List ResultVar} {xs:List AV} {H:Heap} {y:AV} {rows:List (Nat×Row)} {fx:List Nat} (hf:P.funcs[g]? = some fn) (hb:fn.body=some c) (hn:(fn.name == "runtime.NumGoroutine")=false) (jW:fn.results=rs.toArray)
  (hN:xs.length<=fn.ntmps) (hfx:fx.all (rows.map (·.1)).contains=true) (h:∀ X,AW P (gS fx) X G ⟨fn.ntmps,[],none⟩ c (H8 T rs y rows) ⟨args xs,H⟩):MC P G fx g xs H y (au rows):=by
 refine⟨fU.of hf hb hn,fun X w μ vs hs cY bc hv=>?_⟩
 have fin:∀ (w':World) (aK:Mu) (a':Act) (aP:St),AG T rs y rows aP->In w' X G aK ⟨fn.ntmps,[],none⟩ a' aP->Ev (gS fx) w μ w' aK->∃ v,(results fn a'.tmps).run P w' = .ok v w'/\∃ v_1 x H' aK,Ending.returned v=Ending.returned v_1/\(x=y/\H'=au rows)/\RV w' X aK v_1 x/\eu w' X aK H'/\Ev (gS fx) w μ w' aK:=by
  intro w' aK a' aP he hi br;unfold AG at he;split at he
  .rename_i c xs hx;obtain⟨hc,he,SR⟩:=he;obtain⟨v,hv,hr⟩:=GP (P:=P) hg hi jW hx hc;have hX:∀ b,XX X (cE (rows.map (·.1)).contains aK) b->XX X aK b:=fun b=>Ac
   have ho:∀ u r off n,RV w' X aK u (.own r off n)->RV w' X (cE (rows.map (·.1)).contains aK) u (fb (rows.map (·.1)) r off n):=fun u r off n h=>by
    unfold fb;split
    .rename_i hk;exact h.Cg hk
    .exact .dead u
   have hf:∀ u r e j,RV w' X aK u (.ref r e j)->RV w' X (cE (rows.map (·.1)).contains aK) u (fa (rows.map (·.1)) r e j):=fun u r e j h=>by
    unfold fa;split
    .rename_i hk;exact h.Cp hk
    .exact .dead u
   have bn:=hi.tr ho hf;have hH:fM (rows.map (·.1)).contains (fb (rows.map (·.1))) (fa (rows.map (·.1))) aP.H=au rows:=(funext (Cu SR)).symm;refine⟨v,hv,v,y,au rows,_,rfl,⟨rfl,rfl⟩,V3 he (RV.tr hX ho hf hr),hH ▸ bn.bo,br.trans (xI fun r _ _ hr=>cy hfx r hr)⟩
  .exact he.elim
 refine calls_of_wp hf hb ((wpIn_wide (n:=0)).1 (wpIn_mono (h X w μ _ ⟨hs,⟨rfl,by simp;omega,fun i x hx=>?_⟩,cY⟩) fun e a' w' ⟨aK,aP,q,i,ev⟩=>?_))
 .simp only[args]at hx;have hi:i < xs.length:=(By.1 hx).1
  have s3:vs[i]? = some vs[i]:=by rw[abn]
  exact⟨vs[i],by rw[abM aa,s3],hv i _ x s3 hx⟩
 .cases e with
  | normal=>
   obtain⟨v,hv,rest⟩:=fin w' aK a' aP q i ev;exact⟨i.env.defers,v,hv,rest⟩
  | ret=>
   obtain⟨v,hv,rest⟩:=fin w' aK a' aP q i ev;exact⟨i.env.defers,v,hv,rest⟩
  | _=>exact q.elim
end
end Go.Av
namespace Go.Av
theorem PY (k:Value) (x:D):vK k x []=[(k,x)]:=rfl
theorem PX (k:Value) (x:D) (p:Value×D) (l:List (Value×D)):vK k x (p :: l)=if jH k p.1 then (k,x) :: l else p :: vK k x l:=by
 unfold vK;rw[List.findIdx?_cons]
 cases h:jH k p.1 with
 | true=>simp
 | false=>
  simp only[abh,if_false];cases List.findIdx? (fun p=>jH k p.1) l<;>simp
theorem Vl (x:Value):D.one (.v x)=x.oneCell':=rfl
theorem Vi (k:Option Bool) (els:List (List D)):D.one (.sl k els)=true:=rfl
theorem Vh (c:List D):D.one (.ip c)=true:=rfl
theorem Ve (c:List D):D.one (.agg c)=false:=rfl
theorem Vk (c:List D):D.one (.bI c)=false:=rfl
theorem Vg (t:TypeId) (x:D):D.one (.b6 t x)=true:=rfl
theorem Vf (f:Fn) (c:List D):D.one (.fn f c)=true:=rfl
theorem Ov (x:D):AV.one (.d x)=x.one:=rfl
theorem OA (r o n:Nat):AV.one (.own r o n)=true:=rfl
theorem OB (r e j:Nat):AV.one (.ref r e j)=true:=rfl
theorem Oy (t:TypeId) (x:AV):AV.one (.b6 t x)=true:=rfl
theorem Ox (f:Fn) (c:List AV):AV.one (.fn f c)=true:=rfl
theorem Ot (c:List AV):AV.one (.agg c)=false:=rfl
theorem OC (c:List AV):AV.one (.bI c)=false:=rfl
theorem Ou (g:FuncId) (x:AV):AV.one (.bm g x)=false:=rfl
theorem Oz (r:Nat):AV.one (.mp r)=true:=rfl
theorem Ow:AV.one .dead=false:=rfl
theorem Zw (x:Value):gU (.d (.v x))=if x.oneCell' then some [.d (.v x)] else none:=rfl
theorem Zu (k:Option Bool) (els:List (List D)):gU (.d (.sl k els))=some [.d (.sl k els)]:=rfl
theorem Zq (c:List D):gU (.d (.ip c))=some [.d (.ip c)]:=rfl
theorem Zj (c:List D):gU (.d (.agg c))=some (c.map .d):=rfl
theorem Zn (c:List D):gU (.d (.bI c))=none:=rfl
theorem Zm (t:TypeId) (x:D):gU (.d (.b6 t x))=some [.d (.b6 t x)]:=rfl
theorem Zl (f:Fn) (c:List D):gU (.d (.fn f c))=some [.d (.fn f c)]:=rfl
theorem Zs (r o n:Nat):gU (.own r o n)=some [.own r o n]:=rfl
theorem Zt (r e j:Nat):gU (.ref r e j)=some [.ref r e j]:=rfl
theorem Zh (c:List AV):gU (.agg c)=some c:=rfl
theorem Zv (c:List AV):gU (.bI c)=none:=rfl
theorem Zp (t:TypeId) (x:AV):gU (.b6 t x)=some [.b6 t x]:=rfl
theorem Zo (f:Fn) (c:List AV):gU (.fn f c)=some [.fn f c]:=rfl
theorem Zi (g:FuncId) (x:AV):gU (.bm g x)=none:=rfl
theorem Zr (r:Nat):gU (.mp r)=some [.mp r]:=rfl
theorem Zk:gU .dead=none:=rfl
attribute [simp] Vl Vi Vh Ve Vk Vg Vf Ov OA OB Oy Ox Ot OC Ou Oz Ow
attribute [simp] Zw Zu Zq Zj Zn Zm Zl Zs Zt Zh Zv Zp Zo Zi Zr Zk
attribute [simp] Int.ofNat_inj List.lookup
attribute [simp] sx tp u4 kindOf Op.operands Call.operands iy jK A4 eH gq BX oW TypeDesc.isSlice TypeDesc.isStr Al
attribute [simp] FL Am sH o8 ot xq ra n9 TypeDesc.isAgg AO rq AN kY sB lk CN eqv
attribute [simp] Gq Dz B8 B6 AM B0 BH Dj p7 bound CE CF TypeDesc.isBool TypeDesc.isIface B7
attribute [simp] Aw Value.oneCell' Ao GJ vN r9 vM w5 pz rowsOf rowsOf.go St.xQ oQ tw Ai vy G6 Im rr G4 M6
attribute [simp] zG M7 rd wr mC lG aR zj zk dA undef cw S4 TE TF Y6 Ss St.freeze bG b5 rh ik
attribute [simp] bl au int Av.bool mW oO zl kA bk eQ lx args dN dO AV.kill AV.kill.go Row.kill ly fM AV.tr AV.tr.go Row.tr
attribute [simp] AX AU iR O1 OT St.norm u0 s8 fb fa Dg HX kB fg D.scalar bY b9 atEnd Dm vJ tB Cs
attribute [simp] oneOf Y7 stepG ph tq qo mY zy PY PX jH jI xj sa Cj gS pf pd jc R4
attribute [simp] AG H8 Cr AQ AR St.qk xM
section
variable {P:Program} {T:Ty} {Mv X:Nat->Prop} {G:aF} {N:Fr} {w:World} {μ:Mu} {a:Act} {σ:St}
end
end Go.Av
namespace Go.Av
theorem Aq {p q:Prop} (h:p) (k:q):p/\q:=⟨h,k⟩
section
variable {P:Program} {Mv X:Nat->Prop} {G:aF} {N:Fr} {σ τ gI:St} {p:Prop}
theorem aO (l ns:List Nat) {id:Nat} {ops:Array Oper} {y:Code} {Q:Exit->St->Prop} (k:AW P Mv X G N y Q gI)
  (hM:∀ r,ns.contains r=false->Mv r:=by first | exact fun _ _=>trivial | exact cy rfl)
  (h:∀ K':St->Prop,K' τ->je P (cN P) Mv X G N ops K' ops.toList σ:=by
   intro K' ai;repeat (refine aq fun Kq ae=>?_;simp;(repeat refine⟨aa,?_⟩);refine ae _ ?_)
   exact aZ ai)
  (hn:τ.norm l ns=gI:=by simp;rfl):AW P Mv X G N (.seq (.region id ops false) y) Q σ:=
 rg l ns hM fun K hK=>h K (hK _ (hn ▸ k))
theorem af (q:p) (l ns:List Nat) {id:Nat} {ops:Array Oper} {y:Code} {Q:Exit->St->Prop} (k:AW P Mv X G N y Q gI)
  (hM:∀ r,ns.contains r=false->Mv r:=by first | exact fun _ _=>trivial | exact cy rfl)
  (h:p->∀ K':St->Prop,K' τ->je P (cN P) Mv X G N ops K' ops.toList σ:=by
   intro q K' ai;repeat (refine aq fun Kq ae=>?_;simp[q];(repeat refine⟨aa,?_⟩);refine ae _ ?_)
   exact aZ ai)
  (hn:p->τ.norm l ns=gI:=by intro q;simp[q];rfl):AW P Mv X G N (.seq (.region id ops false) y) Q σ:=
 rg l ns hM fun K hK=>h q K (hK _ (hn q ▸ k))
theorem bB (q:p) {g:FuncId} {ds:List D} {yd:D} (hc:aH P G g ds yd) (l ns:List Nat) {id:Nat} {ops:Array Oper} {y:Code} {Q:Exit->St->Prop} (k:AW P Mv X G N y Q gI)
  (hM:∀ r,ns.contains r=false->Mv r:=by first | exact fun _ _=>trivial | exact cy rfl)
  (h:p->aH P G g ds yd->∀ K':St->Prop,K' τ->je P (cN P) Mv X G N ops K' ops.toList σ:=by
   intro q hc K' ai;(repeat refine aq fun Kq ae=>?_;simp[q];(repeat refine⟨aa,?_⟩);refine ae _ ?_);refine aq fun Kq ae=>?_;simp[q];refine ch.data hc bq (by first | exact D.aV _ | simp[aL,IS,AT,D.le,D.le.go,D.le_refl,D.aV,q]) ?_;refine ae _ ?_;simp only[aR,cw];repeat (refine aq fun Kq ae=>?_;simp[q];(repeat refine⟨aa,?_⟩);refine ae _ ?_)
   exact aZ ai)
  (hn:p->τ.norm l ns=gI:=by intro q;simp[q];rfl):AW P Mv X G N (.seq (.region id ops false) y) Q σ:=
 rg l ns hM fun K hK=>h q hc K (hK _ (hn q ▸ k))
theorem bA (q:p) {fx:List Nat} {g:FuncId} {xs:List AV} {dH ju:List (Nat×Row)} {yv:AV} (hc:MC P G fx g xs (au dH) yv (au ju)) (l ns:List Nat) {id:Nat} {ops:Array Oper} {y:Code} {Q:Exit->St->Prop} (k:AW P Mv X G N y Q gI)
  (hM:∀ r,ns.contains r=false->Mv r:=by first | exact fun _ _=>trivial | exact cy rfl)
  (h:p->MC P G fx g xs (au dH) yv (au ju)->∀ K':St->Prop,K' τ->je P (cN P) Mv X G N ops K' ops.toList σ:=by
   intro q hc K' ai;(repeat refine aq fun Kq ae=>?_;simp[q];(repeat refine⟨aa,?_⟩);refine ae _ ?_);refine aq fun Kq ae=>?_;simp[q];refine ch.mc hc (by simp[q]) (by simp[q]) (by simp[q]) (by simp[q]) ?_;simp[q];refine ae _ ?_;repeat (refine aq fun Kq ae=>?_;simp[q];(repeat refine⟨aa,?_⟩);refine ae _ ?_)
   exact aZ ai)
  (hn:p->τ.norm l ns=gI:=by intro q;simp[q];rfl):AW P Mv X G N (.seq (.region id ops false) y) Q σ:=
 rg l ns hM fun K hK=>h q hc K (hK _ (hn q ▸ k))
theorem Cn (q:p) (l ns:List Nat) {id:Nat} {ops:Array Oper} {y:Code} {Q:Exit->St->Prop} (k:AW P Mv X G N y Q gI)
  (hm:P.follows .mixedOrders=true:=by kernel_rfl) (cG:p3 ops=true:=by kernel_rfl)
  (hM:∀ r,ns.contains r=false->Mv r:=by first | exact fun _ _=>trivial | exact cy rfl)
  (h:p->∀ K':St->Prop,K' τ->nT P (cN P) Mv G N ops K' ops.toList σ:=by
   intro q K' ai;repeat (refine fm fun Kq ae=>?_;simp[q];(repeat refine⟨aa,?_⟩);refine ae _ ?_)
   exact kW ai)
  (hn:p->τ.norm l ns=gI:=by intro q;simp[q];rfl):AW P Mv X G N (.seq (.region id ops true) y) Q σ:=
 lZ (aw _) hm l ns hM cG fun K hK=>h q K (hK _ (hn q ▸ k))
theorem fc (q:p) {K0:St->Prop} {y:Code} {Q Q2:Exit->St->Prop} (hk:∀ aP,AW P Mv X G N y Q2 aP->K0 aP) (l ns:List Nat) {id:Nat} {ops:Array Oper} (k:AW P Mv X G N y Q2 gI)
  (hq:∀ τ,K0 τ->Q .normal τ:=by exact fun _ h=>h)
  (hM:∀ r,ns.contains r=false->Mv r:=by first | exact fun _ _=>trivial | exact cy rfl)
  (h:p->∀ K':St->Prop,K' τ->je P (cN P) Mv X G N ops K' ops.toList σ:=by
   intro q K' ai;repeat (refine aq fun Kq ae=>?_;simp[q];(repeat refine⟨aa,?_⟩);refine ae _ ?_)
   exact aZ ai)
  (hn:p->τ.norm l ns=gI:=by intro q;simp[q];rfl):AW P Mv X G N (.region id ops false) Q σ:=
 ea (aw _) fun K hK=>h q K (hK _ (hq _ (hk _ (AW.norm l ns hM (hn q ▸ k)))))
theorem aC (l ns:List Nat) {id:Nat} {ops:Array Oper} {y:Code} {Q:Exit->St->Prop} (k:AW P Mv X G N y Q gI)
  (hM:∀ r,ns.contains r=false->Mv r:=by first | exact fun _ _=>trivial | exact cy rfl)
  (h:∀ K':St->Prop,K' τ->je P (cN P) Mv X G N ops K' ops.toList σ:=by
   intro K' ai;repeat (refine aq fun Kq ae=>?_;simp[qf];(repeat refine⟨aa,?_⟩);refine ae _ ?_)
   exact aZ ai)
  (hn:τ.norm l ns=gI:=by simp[qf];rfl):AW P Mv X G N (.seq (.region id ops false) y) Q σ:=
 rg l ns hM fun K hK=>h K (hK _ (hn ▸ k))
theorem eC {g:FuncId} {ds:List D} {yd:D} (hc:aH P G g ds yd) (l ns:List Nat) {id:Nat} {ops:Array Oper} {y:Code} {Q:Exit->St->Prop} (k:AW P Mv X G N y Q gI)
  (hM:∀ r,ns.contains r=false->Mv r:=by first | exact fun _ _=>trivial | exact cy rfl)
  (h:aH P G g ds yd->∀ K':St->Prop,K' τ->je P (cN P) Mv X G N ops K' ops.toList σ:=by
   intro hc K' ai;(repeat refine aq fun Kq ae=>?_;simp[qf];(repeat refine⟨aa,?_⟩);refine ae _ ?_);refine aq fun Kq ae=>?_;simp[qf];refine ch.data hc bq (by first | exact D.aV _ | simp[aL,IS,AT,D.le,D.le.go,D.le_refl,D.aV,qf]) ?_;refine ae _ ?_;simp only[aR,cw];repeat (refine aq fun Kq ae=>?_;simp[qf];(repeat refine⟨aa,?_⟩);refine ae _ ?_)
   exact aZ ai)
  (hn:τ.norm l ns=gI:=by simp[qf];rfl):AW P Mv X G N (.seq (.region id ops false) y) Q σ:=
 rg l ns hM fun K hK=>h hc K (hK _ (hn ▸ k))
theorem iA {fx:List Nat} {g:FuncId} {xs:List AV} {dH ju:List (Nat×Row)} {yv:AV} (hc:MC P G fx g xs (au dH) yv (au ju)) (l ns:List Nat) {id:Nat} {ops:Array Oper} {y:Code} {Q:Exit->St->Prop} (k:AW P Mv X G N y Q gI)
  (hM:∀ r,ns.contains r=false->Mv r:=by first | exact fun _ _=>trivial | exact cy rfl)
  (h:MC P G fx g xs (au dH) yv (au ju)->∀ K':St->Prop,K' τ->je P (cN P) Mv X G N ops K' ops.toList σ:=by
   intro hc K' ai;(repeat refine aq fun Kq ae=>?_;simp[qf];(repeat refine⟨aa,?_⟩);refine ae _ ?_);refine aq fun Kq ae=>?_;simp[qf];refine ch.mc hc (by simp[qf]) (by simp[qf]) (by simp[qf]) (by simp[qf]) ?_;simp[qf];refine ae _ ?_;repeat (refine aq fun Kq ae=>?_;simp[qf];(repeat refine⟨aa,?_⟩);refine ae _ ?_)
   exact aZ ai)
  (hn:τ.norm l ns=gI:=by simp[qf];rfl):AW P Mv X G N (.seq (.region id ops false) y) Q σ:=
 rg l ns hM fun K hK=>h hc K (hK _ (hn ▸ k))
theorem gh (l ns:List Nat) {id:Nat} {ops:Array Oper} {y:Code} {Q:Exit->St->Prop} (k:AW P Mv X G N y Q gI)
  (hm:P.follows .mixedOrders=true:=by kernel_rfl) (cG:p3 ops=true:=by kernel_rfl)
  (hM:∀ r,ns.contains r=false->Mv r:=by first | exact fun _ _=>trivial | exact cy rfl)
  (h:∀ K':St->Prop,K' τ->nT P (cN P) Mv G N ops K' ops.toList σ:=by
   intro K' ai;repeat (refine fm fun Kq ae=>?_;simp[qf];(repeat refine⟨aa,?_⟩);refine ae _ ?_)
   exact kW ai)
  (hn:τ.norm l ns=gI:=by simp[qf];rfl):AW P Mv X G N (.seq (.region id ops true) y) Q σ:=
 lZ (aw _) hm l ns hM cG fun K hK=>h K (hK _ (hn ▸ k))
theorem GN {g:FuncId} {ds:List D} {yd:D} (hc:aH P G g ds yd) (l ns:List Nat) {id:Nat} {ops:Array Oper} {y:Code} {Q:Exit->St->Prop} (k:AW P Mv X G N y Q gI)
  (hm:P.follows .mixedOrders=true:=by kernel_rfl) (cG:p3 ops=true:=by kernel_rfl)
  (hM:∀ r,ns.contains r=false->Mv r:=by first | exact fun _ _=>trivial | exact cy rfl)
  (h:aH P G g ds yd->∀ K':St->Prop,K' τ->nT P (cN P) Mv G N ops K' ops.toList σ:=by
   intro hc K' ai;(repeat refine fm fun Kq ae=>?_;simp[qf];(repeat refine⟨aa,?_⟩);refine ae _ ?_);refine fm fun Kq ae=>?_;simp[qf];refine lC.data hc bq bq (by first | exact D.aV _ | simp[aL,IS,AT,D.le,D.le.go,D.le_refl,D.aV,qf]) ?_;refine ae _ ?_;simp only[aR,cw];repeat (refine fm fun Kq ae=>?_;simp[qf];(repeat refine⟨aa,?_⟩);refine ae _ ?_)
   exact kW ai)
  (hn:τ.norm l ns=gI:=by simp[qf];rfl):AW P Mv X G N (.seq (.region id ops true) y) Q σ:=
 lZ (aw _) hm l ns hM cG fun K hK=>h hc K (hK _ (hn ▸ k))
theorem nN {K0:St->Prop} {y:Code} {Q Q2:Exit->St->Prop} (hk:∀ aP,AW P Mv X G N y Q2 aP->K0 aP) (l ns:List Nat) {id:Nat} {ops:Array Oper} (k:AW P Mv X G N y Q2 gI)
  (hq:∀ τ,K0 τ->Q .normal τ:=by exact fun _ h=>h)
  (hM:∀ r,ns.contains r=false->Mv r:=by first | exact fun _ _=>trivial | exact cy rfl)
  (h:∀ K':St->Prop,K' τ->je P (cN P) Mv X G N ops K' ops.toList σ:=by
   intro K' ai;repeat (refine aq fun Kq ae=>?_;simp[qf];(repeat refine⟨aa,?_⟩);refine ae _ ?_)
   exact aZ ai)
  (hn:τ.norm l ns=gI:=by simp[qf];rfl):AW P Mv X G N (.region id ops false) Q σ:=
 ea (aw _) fun K hK=>h K (hK _ (hq _ (hk _ (AW.norm l ns hM (hn ▸ k)))))
end
end Go.Av
namespace Go.Av
section
variable {P:Program} {Mv X:Nat->Prop} {G:aF} {N:Fr} {σ τ:St} {p:Prop}
theorem fK {id:Nat} {ops:Array Oper} {Q:Exit->St->Prop} (k:Q .normal τ)
  (h:∀ K':St->Prop,K' τ->je P (cN P) Mv X G N ops K' ops.toList σ:=by
   intro K' ai;repeat (refine aq fun Kq ae=>?_;simp;(repeat refine⟨aa,?_⟩);refine ae _ ?_)
   exact aZ ai):AW P Mv X G N (.region id ops false) Q σ:=
 ea (aw _) fun K hK=>h K (hK _ k)
theorem fe (q:p) {id:Nat} {ops:Array Oper} {Q:Exit->St->Prop} (k:Q .normal τ)
  (h:p->∀ K':St->Prop,K' τ->je P (cN P) Mv X G N ops K' ops.toList σ:=by
   intro q K' ai;repeat (refine aq fun Kq ae=>?_;simp[q];(repeat refine⟨aa,?_⟩);refine ae _ ?_)
   exact aZ ai):AW P Mv X G N (.region id ops false) Q σ:=
 ea (aw _) fun K hK=>h q K (hK _ k)
theorem w6 {id:Nat} {ops:Array Oper} {Q:Exit->St->Prop} (k:Q .normal τ)
  (h:∀ K':St->Prop,K' τ->je P (cN P) Mv X G N ops K' ops.toList σ:=by
   intro K' ai;repeat (refine aq fun Kq ae=>?_;simp[qf];(repeat refine⟨aa,?_⟩);refine ae _ ?_)
   exact aZ ai):AW P Mv X G N (.region id ops false) Q σ:=
 ea (aw _) fun K hK=>h K (hK _ k)
theorem fF (r:Nat) {c:Code} {Q:Exit->St->Prop} (k:AW P Mv X G N c Q τ) (hM:Mv r:=by first | trivial | decide) (hn:σ.qk r=τ:=by simp;rfl):AW P Mv X G N c Q σ:=
 AW.imp (aY.qk r hM) (hn ▸ k)
theorem jk (q:p) (r:Nat) {c:Code} {Q:Exit->St->Prop} (k:AW P Mv X G N c Q τ) (hM:Mv r:=by first | trivial | decide) (hn:p->σ.qk r=τ:=by intro q;simp[q];rfl):AW P Mv X G N c Q σ:=
 AW.imp (aY.qk r hM) (hn q ▸ k)
theorem kr {Q:Exit->St->Prop} (h:Q .ret σ:=by simp[D.le,D.le.go,aL,D.le_refl,D.aV]):AW P Mv X G N .ret Q σ:=bt h
theorem bg (q:p) {Q:Exit->St->Prop} (h:p->Q .ret σ:=by intro q;simp[D.le,D.le.go,aL,D.le_refl,D.aV,q]):AW P Mv X G N .ret Q σ:=bt (h q)
theorem ko {e:Env} {H:Heap} {l:List (Nat×AV)} {rows:List (Nat×Row)} (hm:∀ r,(rows.map (·.1)).contains r=false->Mv r:=by first | exact fun _ _=>trivial | exact cy rfl)
  (he:∀ p∈l,(e p.1).map (AV.tr (fb (rows.map (·.1))) (fa (rows.map (·.1))))=some p.2:=by simp)
  (hH:∀ p∈rows,(H p.1).map (Row.tr (fb (rows.map (·.1))) (fa (rows.map (·.1))))=au rows p.1:=by simp):aY Mv X G N ⟨e,H⟩ ⟨bl l,au rows⟩:=aY.fo hm he hH
theorem bL (q:p) {e:Env} {H:Heap} {l:List (Nat×AV)} {rows:List (Nat×Row)} (hm:∀ r,(rows.map (·.1)).contains r=false->Mv r:=by first | exact fun _ _=>trivial | exact cy rfl)
  (he:p->∀ p∈l,(e p.1).map (AV.tr (fb (rows.map (·.1))) (fa (rows.map (·.1))))=some p.2:=by intro q;simp[q])
  (hH:p->∀ p∈rows,(H p.1).map (Row.tr (fb (rows.map (·.1))) (fa (rows.map (·.1))))=au rows p.1:=by intro q;simp[q]):aY Mv X G N ⟨e,H⟩ ⟨bl l,au rows⟩:=aY.fo hm (he q) (hH q)
end
