/- Parts. -/
import Derived.Test.YtobejfcgcfdpfaaGreatDoorPc7
import Derived.Orders
set_option linter.unusedSectionVars false
set_option linter.unusedSimpArgs false
set_option linter.unusedVariables false
namespace Go.Av
def qk:Operand->Nat
 | .global _=>0
 | _=>1
@[simp] theorem alh (x:Operand):(qk x=2)=False:=by cases x<;>simp[qk]
@[simp] theorem ali (x:Operand):(qk x=3)=False:=by cases x<;>simp[qk]
@[simp] theorem alj (x:Operand):(qk x=8)=False:=by cases x<;>simp[qk]
@[simp] theorem alk (x:Operand):(qk x=9)=False:=by cases x<;>simp[qk]
@[simp] theorem alg (x:Operand):(qk x=0\/qk x=1)=True:=by cases x<;>simp[qk]
theorem NY (x:Operand):qk x<=1:=by cases x<;>simp[qk]
def kindOf:Op->Nat
 | .load _ x=>qk x
 | .indexAddr _ _ _=>1
 | .slice _ _ _ _ _=>1
 | .lookup _ _ _ _=>1
 | .call { callee:=.value _,.. }=>2
 | .call { callee:=.builtin .append,.. }=>9
 | .call { callee:=.builtin .copy,.. }=>9
 | .alloc _=>3
 | .box _ _=>3
 | .buildSlice _ _ _=>3
 | .makeSlice _ _ _=>3
 | .store _ _ _=>8
 | .mapUpdate _ _ _ _=>8
 | .insert _ _ _ _=>8
 | .makeMap _ _=>3
 | .select _ _=>9
 | _=>0
def wI (x y:Nat):Bool:=match x,y with
 | 0,9 | 9,_ | 1,8 | 1,9 | 2,8 | 2,9 | 3,1 | 3,2 | 3,8 | 3,9 | 8,1 | 8,2 | 8,3 | 8,8 | 8,9=>false
 | _,_=>true
def lx (ops:Array Oper) (x y:Oper):Bool:=x.apart ops y && wI (kindOf x.op) (kindOf y.op)
def bitsOf (acc:List Nat) (o:Oper):Nat:=o.after.toList.foldr (fun e s=>if Region.binds .any e then (2 ^ e.on ||| acc.getD e.on 0) ||| s else s) 0
def u6:List Oper->List Nat->List Nat
 | [],acc=>acc
 | o :: l,acc=>u6 l (acc ++ [bitsOf acc o])
def tb (ops:Array Oper):List Nat:=u6 ops.toList []
def sR (ops:Array Oper):Bool:=
 let t:=tb ops
 (List.range ops.size).all fun j=>match ops[j]? with
  | some oj=>(oj.after.all fun e=>!Region.binds .any e || e.on < j) && (List.range j).all fun i=>(t.getD j 0).testBit i || match ops[i]? with
    | some oi=>lx ops oi oj && lx ops oj oi
    | none=>true
  | none=>true
section
variable {P:Program} {T:Ty} {Mv X:Nat->Prop} {G:aB} {N:Fr}
def Dh (P:Program) (G:aB) (σ:St) (c:Call) (y:D):Prop:=∃ g xs,kV G σ.env c=some (g,xs)/\
 ((∃ ds,xs=ds.map .d/\aD P G g ds y)\/(∃ ds,ng (gG σ.H 4) xs=some ds/\y.scalar=true/\aD P G g ds y))
def po (P:Program) (T:Ty) (Mv:Nat->Prop) (G:aB) (o:Oper) (σ aH:St):Prop:=match eD o.op with
 | some c=>∃ y,Dh P G σ c y/\aH=⟨aN σ.env o.dst (.d y),σ.H⟩
 | none=>if ic o.op then ∃ c x ba,wr T G Mv σ o=some (c,x,ba)/\c/\aH=⟨aN ba.env o.dst x,ba.H⟩
  else ∃ c x,rd T G σ o.op=some (c,x)/\c/\aH=⟨aN σ.env o.dst x,σ.H⟩
def CN (P:Program) (T:Ty) (Mv:Nat->Prop) (G:aB) (N:Fr) (ops:Array Oper) (o:Oper) (σ aH:St):Prop:=
 fb N o/\((jx ops σ.env o=some true/\po P T Mv G o σ aH)\/(jx ops σ.env o=some false/\aH=⟨aN σ.env o.dst dI,σ.H⟩))
theorem AH (hg:Good P T) {ops:Array Oper} {o:Oper} {σ aH:St} (h:CN P T Mv G N ops o σ aH) {w:World} {μ:Mu} {a:Act} (hi:In w X G μ N a σ) {i:Nat} (ho:ops[i]? = some o) {Q:Exit->Act->World->Prop} {K:Act->World->Prop}
  (hk:∀ w' aI a',In w' X G aI N a' aH->Ev Mv w μ w' aI->K a' w'):wpOpIn (wd N.ro) 0 P ops Q i K a w:=by
 obtain⟨hd,h⟩:=h
 have fU:∀ d,o.dst=some d->d < N.n:=fun d e=>by unfold fb at hd;rw[e]at hd;exact hd
 unfold wpOpIn;simp only[ho]
 rcases h with⟨hw,h⟩ | ⟨hw,rfl⟩
 .rw[u7 hi hw,if_pos rfl];refine (Du (Mv:=Mv) (K:=fun ba=>ba=aH) hg hi fU ?_ fun w' aI a' ba e aR bd=>hk w' aI a' (e ▸ aR) bd);unfold po at h;unfold nR;split at h
  .rename_i c hc;obtain⟨y,⟨g,xs,ht,fQ⟩,rfl⟩:=h;simp only[hc,ht]
   rcases fQ with⟨ds,rfl,hp⟩ | ⟨ds,n5,hs,hp⟩
   .exact np.pure hp rfl
   .exact np.rT n5 hp hs rfl
  .rename_i hc;simp only[hc,rY];split at h
   .rename_i H5;rw[if_pos H5];obtain⟨c,x,ba,kC,cU,rfl⟩:=h;simp only[kC];exact⟨cU,trivial⟩
   .rename_i H5;rw[if_neg H5];obtain⟨c,x,hr,cU,rfl⟩:=h;simp only[hr];exact⟨cU,trivial⟩
 .rw[u7 hi hw,if_neg ak];exact⟨fun _ _=>trivial,hk w μ _ (hi.put (.d (.v _)) fU) (.refl _ w μ)⟩
theorem V2 {e:Env} {dst:Option Tmp} {x:AV} {t:Nat} (h:dst≠some t):aN e dst x t=e t:=by
 cases dst with
 | none=>rfl
 | some d=>have:t≠d:=fun e=>h (by rw[e]);simp[aN,iz,this]
theorem iL {e:Env} {d d':Option Tmp} {x y:AV} (h:∀ t,d=some t->d'≠some t):aN (aN e d x) d' y=aN (aN e d' y) d x:=by
 cases d with
 | none=>rfl
 | some t=>
  cases d' with
  | none=>rfl
  | some t'=>
   have bq:t≠t':=fun e=>h t rfl (by rw[e]);funext i;by_cases h1:i=t<;>by_cases h2:i=t'<;>simp[aN,iz,h1,h2,bq,ann bq]
   all_goals (subst h1;simp[bq])
def gU (o:Op) (e e':Env):Prop:=∀ t,Operand.tmp t∈o.operands->e t=e' t
theorem fE {e e':Env} {x:Operand} (h:∀ t,x = .tmp t->e t=e' t):bJ G e x=bJ G e' x:=by
 cases x with
 | tmp t=>exact h t rfl
 | _=>rfl
theorem KW {e e':Env}:∀ {l:List Operand},(∀ t,Operand.tmp t∈l->e t=e' t)->pY G e l=pY G e' l
 | [],_=>rfl
 | x :: l,h=>by
  simp only[pY];rw[fE (x:=x) fun t ht=>h t (by simp[ht]),KW (l:=l) fun t ht=>h t (by simp[ht])]
theorem GC {e e':Env}:∀ {l:List (Nat×Operand)},(∀ t,Operand.tmp t∈l.map (·.2)->e t=e' t)->oR G e l=oR G e' l
 | [],_=>rfl
 | (i,x) :: l,h=>by
  simp only[oR];rw[fE (x:=x) fun t ht=>h t (by simp[ht]),GC (l:=l) fun t ht=>h t (by simp at ht ⊢;exact .inr ht)]
theorem QC {e e':Env} {o:Option Operand} (h:∀ t,o=some (.tmp t)->e t=e' t):bound G e o=bound G e' o:=by
 cases o with
 | none=>rfl
 | some x=>simp only[bound];rw[fE (x:=x) fun t ht=>h t (by rw[ht])]
theorem ahW {o:Op} {e e':Env} {H:Heap} (h:gU o e e'):rd T G ⟨e,H⟩ o=rd T G ⟨e',H⟩ o:=by
 unfold gU at h;cases o
 case makeFunc f first caps=>
  simp only[rd];rw[KW (l:=caps.toList) fun t ht=>h t (by simp[Op.operands];right;simpa using ht)];split
  .rfl
  .split
   .rename_i x Md eU
    rw[fE (x:=x) fun t ht=>h t (by
     have hm:x∈first:=by
      have:x∈first.toList:=by rw[Md];simp
      simpa using this
     simp only[Op.operands];rw[<- ht]
     simp[hm])]
   .rfl
 case typeAssert y xT t b=>
  simp only[rd];rw[fE (x:=y) fun t ht=>h t (by simp[Op.operands,ht])]
 case build t parts=>
  simp only[rd];rw[GC (l:=parts.toList) fun t ht=>h t (by simpa[Op.operands]using ht)]
 case slice t x lo hi mx=>
  simp only[rd];rw[fE (x:=x) fun t ht=>h t (by simp[Op.operands,ht]),QC (o:=lo) fun t ht=>h t (by simp[Op.operands,ht]),QC (o:=hi) fun t ht=>h t (by simp[Op.operands,ht])]
 case call c=>
  obtain⟨callee,args,argTypes⟩:=c
  cases callee with
  | builtin b=>
   have two:∀ {x y:Operand},args.toList=[x,y]->bJ G e x=bJ G e' x/\bJ G e y=bJ G e' y:=fun {x y} ha=>
    ⟨fE (x:=x) fun t ht=>h t (by simp[Op.operands,Call.operands];rw[<- Array.mem_toList_iff,ha];simp[ht]),
     fE (x:=y) fun t ht=>h t (by simp[Op.operands,Call.operands];rw[<- Array.mem_toList_iff,ha];simp[ht])⟩
   cases b<;>try rfl
   case len=>
    simp only[rd];split
    .rename_i x t ha ht;rw[fE (x:=x) fun t ht=>h t (by simp[Op.operands,Call.operands];rw[<- Array.mem_toList_iff,ha];simp[ht])]
    .rfl
   case max=>
    simp only[rd];split
    .rename_i x y ha;rw[(two ha).1,(two ha).2]
    .rfl
   case min=>
    simp only[rd];split
    .rename_i x y ha;rw[(two ha).1,(two ha).2]
    .rfl
  | _=>rfl
 all_goals
  simp only[Op.operands,List.mem_toArray,amx,List.not_mem_nil,or_false]at h
 all_goals
  first
   | rfl
   | (rename_i x;simp only[rd];rw[fE (x:=x) fun t ht=>h t (by simp[ht])];done)
   | (rename_i x _;simp only[rd];rw[fE (x:=x) fun t ht=>h t (by simp[ht])];done)
   | (rename_i x y;simp only[rd];rw[fE (x:=x) fun t ht=>h t (by simp[ht]),fE (x:=y) fun t ht=>h t (by simp[ht])];done)
   | (rename_i x y _;simp only[rd];rw[fE (x:=x) fun t ht=>h t (by simp[ht]),fE (x:=y) fun t ht=>h t (by simp[ht])];done)
   | (rename_i x y z;simp only[rd];rw[fE (x:=x) fun t ht=>h t (by simp[ht]),fE (x:=y) fun t ht=>h t (by simp[ht]),fE (x:=z) fun t ht=>h t (by simp[ht])];done)
def Ex (P:Program) (T:Ty) (Mv:Nat->Prop) (G:aB) (o:Oper) (e:Env) (H:Heap) (x:AV) (H':Heap):Prop:=match eD o.op with
 | some c=>∃ y,Dh P G ⟨e,H⟩ c y/\x = .d y/\H'=H
 | none=>if ic o.op then ∃ c,wr T G Mv ⟨e,H⟩ o=some (c,x,⟨e,H'⟩)/\c
  else ∃ c,rd T G ⟨e,H⟩ o.op=some (c,x)/\c/\H'=H
theorem CT {o:Oper} (hk:kindOf o.op≠9) {σ ba:St} {c:Prop} {x:AV} (h:wr T G Mv σ o=some (c,x,ba)):ba.env=σ.env:=by
 obtain⟨dst,op,type,pos,after,guard⟩:=o;dsimp only at hk;unfold wr at h;dsimp only at h
 repeat' split at h
 all_goals first
  | (exact absurd rfl hk)
  | (obtain⟨_,_,rfl⟩:=nL h;rfl)
  | cases h
theorem Ex.of {o:Oper} (hk:kindOf o.op≠9) {σ aH:St} (h:po P T Mv G o σ aH):∃ x H',Ex P T Mv G o σ.env σ.H x H'/\aH=⟨aN σ.env o.dst x,H'⟩:=by
 unfold po at h;unfold Ex;split at h
 .rename_i c hc;obtain⟨y,fQ,rfl⟩:=h;(try simp only[hc]);exact⟨_,_,⟨y,fQ,rfl,rfl⟩,rfl⟩
 .rename_i hc;(try simp only[hc]);split at h
  .rename_i hw;obtain⟨c,x,ba,h1,h2,rfl⟩:=h;have he:=CT hk h1;refine⟨x,ba.H,?_,by rw[he]⟩;rw[if_pos hw];refine⟨c,?_,h2⟩;obtain⟨e,H⟩:=σ;obtain⟨e1,H1⟩:=ba;dsimp only at he;subst he;exact h1
  .rename_i hw;obtain⟨c,x,h1,h2,rfl⟩:=h;refine⟨x,σ.H,?_,rfl⟩;rw[if_neg hw];exact⟨c,h1,h2,rfl⟩
theorem Ex.to {o:Oper} {e:Env} {H H':Heap} {x:AV} (h:Ex P T Mv G o e H x H'):po P T Mv G o ⟨e,H⟩ ⟨aN e o.dst x,H'⟩:=by
 unfold Ex at h;unfold po;split at h
 .rename_i c hc;obtain⟨y,fQ,rfl,rfl⟩:=h;(try simp only[hc]);exact⟨y,fQ,rfl⟩
 .rename_i hc;(try simp only[hc]);split at h
  .rename_i hw;obtain⟨c,h1,h2⟩:=h;rw[if_pos hw];exact⟨c,x,_,h1,h2,rfl⟩
  .rename_i hw;obtain⟨c,h1,h2,rfl⟩:=h;rw[if_neg hw];exact⟨c,x,h1,h2,rfl⟩
theorem wF {o:Op} {c:Call} (h:eD o=some c):o = .call c/\kindOf o=2:=by
 unfold eD at h;split at h
 .obtain rfl:=AI h;exact⟨rfl,rfl⟩
 .cases h
theorem AM {e e':Env} {c:Call} (h:∀ t,Operand.tmp t∈c.operands->e t=e' t):kV G e c=kV G e' c:=by
 unfold kV;split
 .rename_i f hf;rw[fE (x:=f) fun t ht=>h t (by simp[Call.operands,hf,ht]),KW (l:=c.args.toList) fun t ht=>h t (by simp[Call.operands,hf];right;simpa using ht)]
 .rfl
theorem akH {o:Oper} (hk:kindOf o.op≠9) {e e':Env} {H H':Heap} {c:Prop} {x:AV} (ha:gU o.op e e') (h:wr T G Mv ⟨e,H⟩ o=some (c,x,⟨e,H'⟩)):wr T G Mv ⟨e',H⟩ o=some (c,x,⟨e',H'⟩):=by
 obtain⟨dst,op,type,pos,after,guard⟩:=o;dsimp only at hk ha;unfold gU at ha;cases op
 case alloc t=>
  cases dst with
  | none=>cases h
  | some d=>
   simp only[wr]at h ⊢;split at h
   .rename_i ti ht;simp only[IT,amj,St.mk.injEq,true_and]at h;obtain⟨rfl,rfl,rfl⟩:=h;simp
   .cases h
 case box t y=>
  cases dst with
  | none=>cases h
  | some d=>
   simp only[wr]at h ⊢;rw[<- fE (e:=e) (x:=y) fun t ht=>ha t (by simp[Op.operands,ht])];split at h
   .simp only[IT,amj,St.mk.injEq,true_and]at h;obtain⟨rfl,rfl,rfl⟩:=h;rename_i cY;simp[cY]
   .cases h
 case store t y z=>
  cases dst with
  | some d=>cases h
  | none=>
   simp only[wr]at h ⊢;rw[<- fE (e:=e) (x:=y) fun t ht=>ha t (by simp[Op.operands,ht]),<- fE (e:=e) (x:=z) fun t ht=>ha t (by simp[Op.operands,ht])];split at h
   .rename_i r e0 j v h1 h2;(try simp only[h1,h2]);split at h
    .rename_i ty cells hH;(try simp only[hH]);split at h
     .rename_i he;(try simp only[he,if_true]);split at h
      .rename_i c' xb hs;(try simp only[hs]);simp only[IT,amj,St.mk.injEq,true_and]at h ⊢;exact h
      .cases h
     .cases h
    .rename_i ty sz els hH;(try simp only[hH]);split at h
     .rename_i c' pX hs;(try simp only[hs]);simp only[IT,amj,St.mk.injEq,true_and]at h ⊢;exact h
     .cases h
    .cases h
    .cases h
    .cases h
   .cases h
 case makeMap t rs=>
  cases dst with
  | none=>cases rs<;>cases h
  | some d=>
   cases rs with
   | some _=>cases h
   | none=>
    simp only[wr]at h ⊢;simp only[IT,amj,St.mk.injEq,true_and]at h ⊢;exact h
 case mapUpdate t m k v=>
  cases dst with
  | some d=>cases h
  | none=>
   simp only[wr]at h ⊢;rw[<- fE (e:=e) (x:=m) fun t ht=>ha t (by simp[Op.operands,ht]),<- fE (e:=e) (x:=k) fun t ht=>ha t (by simp[Op.operands,ht]),<- fE (e:=e) (x:=v) fun t ht=>ha t (by simp[Op.operands,ht])];split at h
   .rename_i r key y h1 h2 h3;(try simp only[h1,h2,h3]);split at h
    .rename_i ty ents hH;(try simp only[hH]);split at h
     .rename_i c' oQ hp;(try simp only[hp]);simp only[IT,amj,St.mk.injEq,true_and]at h ⊢;exact h
     .cases h
    .cases h
   .cases h
 case insert t m k v=>
  cases dst with
  | some d=>cases h
  | none=>
   simp only[wr]at h ⊢;rw[<- fE (e:=e) (x:=m) fun t ht=>ha t (by simp[Op.operands,ht]),<- fE (e:=e) (x:=k) fun t ht=>ha t (by simp[Op.operands,ht]),<- fE (e:=e) (x:=v) fun t ht=>ha t (by simp[Op.operands,ht])];split at h
   .rename_i r key y h1 h2 h3;(try simp only[h1,h2,h3]);split at h
    .rename_i ty ents hH;(try simp only[hH]);split at h
     .rename_i c' oQ hp;(try simp only[hp]);simp only[IT,amj,St.mk.injEq,true_and]at h ⊢;exact h
     .cases h
    .cases h
   .cases h
 case makeSlice t y z=>
  cases dst with
  | none=>cases h
  | some d=>
   simp only[wr]at h ⊢;rw[<- fE (e:=e) (x:=y) fun t ht=>ha t (by simp[Op.operands,ht]),<- fE (e:=e) (x:=z) fun t ht=>ha t (by simp[Op.operands,ht])];split at h
   .rename_i tt dP;(try simp only[dP]);split at h
    .rename_i e0 hd;(try simp only[hd]);split at h
     .rename_i te kn n km m h0 h1 h2;(try simp only[h0,h1,h2]);simp only[IT,amj,St.mk.injEq,true_and]at h ⊢;exact h
     .cases h
    .cases h
   .cases h
 case buildSlice t n ps=>
  cases dst with
  | none=>cases h
  | some d=>
   simp only[wr]at h ⊢;rw[<- GC (e:=e) (l:=ps.toList) fun t ht=>ha t (by simpa[Op.operands]using ht)];split at h
   .rename_i tt dP;(try simp only[dP]);split at h
    .rename_i e0 hd;(try simp only[hd]);split at h
     .rename_i te pp h0 h1;(try simp only[h0,h1]);split at h
      .rename_i els zw;(try simp only[zw]);simp only[IT,amj,St.mk.injEq,true_and]at h ⊢;exact h
      .cases h
     .cases h
    .cases h
   .cases h
 case call cc=>
  obtain⟨callee,args,argTypes⟩:=cc
  cases callee with
  | builtin b=>
   cases b<;>first | (exact absurd rfl hk) | (cases dst<;>cases h)
  | _=>cases dst<;>cases h
 all_goals (cases dst<;>cases h)
theorem Ex.congr {o:Oper} (hk:kindOf o.op≠9) {e e':Env} {H H':Heap} {x:AV} (ha:gU o.op e e') (h:Ex P T Mv G o e H x H'):Ex P T Mv G o e' H x H':=by
 unfold Ex at h ⊢;split at h
 .rename_i c hc;(try simp only[hc]);obtain⟨y,⟨g,xs,ht,fQ⟩,h2,h3⟩:=h;refine⟨y,⟨g,xs,?_,fQ⟩,h2,h3⟩;have ho:=(wF hc).1;rw[<- AM (e:=e) fun t ht=>ha t (by rw[ho];exact ht)];exact ht
 .rename_i hc;(try simp only[hc]);split at h
  .rename_i hw;rw[if_pos hw];obtain⟨c,h1,h2⟩:=h;exact⟨c,akH hk ha h1,h2⟩
  .rename_i hw;rw[if_neg hw];obtain⟨c,h1,h2,h3⟩:=h;exact⟨c,by rw[<- ahW ha];exact h1,h2,h3⟩
theorem Ij {o:Op} (h:ic o=true):kindOf o=3\/kindOf o=8\/kindOf o=9:=by
 unfold ic at h
 split at h<;>first | (exact .inl rfl) | (exact .inr (.inl rfl)) | (exact .inr (.inr rfl)) | cases h
theorem Ex.keeps {o:Oper} (hk:kindOf o.op<=2) {e:Env} {H H':Heap} {x:AV} (h:Ex P T Mv G o e H x H'):H'=H:=by
 unfold Ex at h;split at h
 .obtain⟨_,_,_,rfl⟩:=h;rfl
 .split at h
  .rename_i hw
   rcases Ij hw with h' | h' | h'<;>omega
  .obtain⟨_,_,_,rfl⟩:=h;rfl
theorem V5 {o:Op} (hk:kindOf o=0) {e:Env} (H H2:Heap):rd T G ⟨e,H⟩ o=rd T G ⟨e,H2⟩ o:=by
 cases o
 case call c=>
  obtain⟨callee,args,argTypes⟩:=c
  cases callee with
  | builtin b=>cases b<;>rfl
  | _=>rfl
 case load t y=>
  cases y with
  | global g=>
   simp only[rd,bJ]
   cases G g with
   | none=>rfl
   | some x=>cases x<;>rfl
  | _=>simp[kindOf,qk]at hk
 all_goals first | rfl | (simp[kindOf]at hk)
theorem ahZ {o:Op} (hk:kindOf o=1) {e:Env} {H:Heap} {d:Nat} (hd:H d=none) (row:Row) {c:Prop} {x:AV} (h:rd T G ⟨e,H⟩ o=some (c,x)):rd T G ⟨e,bk H d row⟩ o=some (c,x):=by
 have key:∀ r y,H r=some y->bk H d row r=some y:=fun r y hr=>by
  unfold bk;split
  .rename_i hh;subst hh;rw[hd]at hr;cases hr
  .exact hr
 have kl:∀ t v,pH T H t v=some (c,x)->pH T (bk H d row) t v=some (c,x):=fun t v h=>by
  unfold pH at h ⊢;split at h
  .exact h
  .split at h
   .rename_i hr;simp only[key _ _ hr];exact h
   .rename_i hr;simp only[key _ _ hr];exact h
   .cases h
   .cases h
   .cases h
  .cases h
 have km:∀ t b v u,ql T H t b v u=some (c,x)->ql T (bk H d row) t b v u=some (c,x):=fun t b v u h=>by
  unfold ql at h ⊢;split at h
  .split at h
   .rename_i hr h2;simp only[key _ _ hr,h2];exact h
   .cases h
  .exact h
  .cases h
 have ki:∀ t v u,sN T H t v u=some (c,x)->sN T (bk H d row) t v u=some (c,x):=fun t v u h=>by
  unfold sN at h ⊢;split at h
  .exact h
  .split at h
   .rename_i h1 hr;simp only[h1,key _ _ hr];exact h
   .rename_i h1 hr;simp only[h1,key _ _ hr];exact h
   .cases h
  .exact h
  .exact h
  .cases h
 have ks:∀ t v l u,tV T H t v l u=some (c,x)->tV T (bk H d row) t v l u=some (c,x):=fun t v l u h=>by
  unfold tV at h ⊢;dsimp only at h ⊢;split at h
  .exact h
  .exact h
  .split at h
   .rename_i h1 hr;simp only[h1,key _ _ hr];exact h
   .cases h
  .cases h
 cases o
 case load t y=>
  simp only[rd,amy]at h ⊢;obtain⟨v,h1,h2⟩:=h;exact⟨v,h1,kl t v h2⟩
 case indexAddr t y z=>
  simp only[rd]at h ⊢;split at h
  .exact ki _ _ _ h
  .cases h
 case slice t y lo hi mx=>
  simp only[rd]at h ⊢;split at h
  .rename_i iq;rw[if_pos iq];split at h
   .exact ks _ _ _ _ h
   .cases h
  .cases h
 case lookup t y z b=>
  simp only[rd]at h ⊢;split at h
  .exact km _ _ _ _ h
  .cases h
 case call cc=>
  obtain⟨callee,args,argTypes⟩:=cc
  cases callee with
  | builtin b=>cases b<;>simp[kindOf]at hk
  | _=>simp[kindOf]at hk
 all_goals (simp[kindOf]at hk)
theorem A5 {f g:AV->Option D} (h:∀ x y,f x=some y->g x=some y):∀ {l:List AV} {ys:List D},ng f l=some ys->ng g l=some ys
 | [],_,hh=>hh
 | x :: l,ys,hh=>by
  simp only[ng]at hh ⊢
  cases hf:f x with
  | none=>simp[hf]at hh
  | some y=>
   cases hl:ng f l with
   | none=>simp[hf,hl]at hh
   | some zs=>
    simp only[hf,hl]at hh;rw[h x y hf,A5 h hl];exact hh
theorem Y0 {H:Heap} {d:Nat} (hd:H d=none) (row:Row):∀ (k:Nat) (x:AV) (y:D),gG H k x=some y->gG (bk H d row) k x=some y:=by
 have key:∀ r y,H r=some y->bk H d row r=some y:=fun r y hr=>by
  unfold bk;split
  .rename_i hh;subst hh;rw[hd]at hr;cases hr
  .exact hr
 intro k
 induction k with
 | zero=>intro x y h;cases x<;>simp only[gG]at h ⊢<;>first | exact h | cases h
 | succ k ih=>
  intro x y h
  cases x with
  | d x=>simpa only[gG]using h
  | own r off n=>
   simp only[gG]at h ⊢;split at h
   .rename_i hr;rw[key _ _ hr];exact h
   .cases h
  | ref r e j=>
   simp only[gG]at h ⊢;split at h
   .rename_i hr;rw[key _ _ hr];dsimp only;split at h
    .rename_i he;rw[if_pos he];obtain⟨ys,h1,h2⟩:=AS.1 h;exact AS.2 ⟨ys,A5 ih h1,h2⟩
    .cases h
   .cases h
  | agg cells=>simp only[gG]at h ⊢;obtain⟨ys,h1,h2⟩:=AS.1 h;exact AS.2 ⟨ys,A5 ih h1,h2⟩
  | bz cells=>simp only[gG]at h ⊢;obtain⟨ys,h1,h2⟩:=AS.1 h;exact AS.2 ⟨ys,A5 ih h1,h2⟩
  | fn f cells=>simp only[gG]at h ⊢;obtain⟨ys,h1,h2⟩:=AS.1 h;exact AS.2 ⟨ys,A5 ih h1,h2⟩
  | cC t x=>simp only[gG]at h ⊢;obtain⟨ys,h1,h2⟩:=AS.1 h;exact AS.2 ⟨ys,ih _ _ h1,h2⟩
  | mp r=>
   simp only[gG]at h ⊢;split at h
   .rename_i hr;rw[key _ _ hr];exact h
   .cases h
  | bm g x=>simp only[gG]at h;cases h
  | dead=>simp only[gG]at h;cases h
theorem Ex.grow {o:Oper} (hk:kindOf o.op=1\/kindOf o.op=2) {e:Env} {H H':Heap} {x:AV} (h:Ex P T Mv G o e H x H') {d:Nat} (hd:H d=none) (row:Row):Ex P T Mv G o e (bk H d row) x (bk H d row):=by
 unfold Ex at h ⊢;split at h
 .rename_i c hc;(try simp only[hc]);obtain⟨y,⟨g,xs,ht,fQ⟩,h2,_⟩:=h;refine⟨y,⟨g,xs,ht,?_⟩,h2,by trivial⟩
  rcases fQ with h | ⟨ds,h3,h4,h5⟩
  .exact .inl h
  .exact .inr ⟨ds,A5 (Y0 hd row 4) h3,h4,h5⟩
 .rename_i hc;(try simp only[hc]);split at h
  .rename_i hw
   rcases Ij hw with h' | h' | h'<;>omega
  .rename_i hw;rw[if_neg hw];obtain⟨c,h1,h2,_⟩:=h
   rcases hk with hk | hk
   .exact⟨c,ahZ hk hd row h1,h2,by trivial⟩
   .exfalso;obtain⟨dst,op,type,pos,after,guard⟩:=o;dsimp only at hk hc;unfold kindOf at hk
    split at hk<;>first | omega | skip
    .have:=NY ‹_›;omega
    .simp[eD]at hc
theorem Ex.free {o:Oper} (hk:kindOf o.op=0) {e:Env} {H H':Heap} {x:AV} (h:Ex P T Mv G o e H x H') (H2:Heap):Ex P T Mv G o e H2 x H2:=by
 unfold Ex at h ⊢;split at h
 .rename_i c hc;have:=(wF hc).2;omega
 .rename_i hc;(try simp only[hc]);split at h
  .rename_i hw
   rcases Ij hw with h' | h' | h'<;>omega
  .rename_i hw;rw[if_neg hw];obtain⟨c,h1,h2,_⟩:=h;exact⟨c,by rw[V5 hk H2 H];exact h1,h2,by trivial⟩
theorem Ex.makes {o:Oper} (hk:kindOf o.op=3) {e:Env} {H H':Heap} {x:AV} (h:Ex P T Mv G o e H x H'):∃ d row,o.dst=some d/\H d=none/\H'=bk H d row/\∀ H2,H2 d=none->Ex P T Mv G o e H2 x (bk H2 d row):=by
 obtain⟨dst,op,type,pos,after,guard⟩:=o;dsimp only at hk;unfold Ex at h;unfold Ex
 have hc:eD op=none:=by
  cases cU:eD op with
  | none=>rfl
  | some c=>have:=(wF cU).2;omega
 simp only[hc]at h ⊢
 cases op<;>simp only[kindOf]at hk<;>first | omega | skip
 case load t y=>have:=NY y;omega
 case alloc t=>
  simp only[ic,if_true]at h ⊢;obtain⟨c,h1,h2⟩:=h
  cases dst with
  | none=>cases h1
  | some d=>
   simp only[wr]at h1 ⊢;split at h1
   .simp only[IT,amj,St.mk.injEq,true_and]at h1;obtain⟨rfl,rfl,rfl⟩:=h1;exact⟨d,_,rfl,h2,rfl,fun H2 h=>⟨_,rfl,h⟩⟩
   .cases h1
 case box t y=>
  simp only[ic,if_true]at h ⊢;obtain⟨c,h1,h2⟩:=h
  cases dst with
  | none=>cases h1
  | some d=>
   simp only[wr]at h1 ⊢;split at h1
   .simp only[IT,amj,St.mk.injEq,true_and]at h1;obtain⟨rfl,rfl,rfl⟩:=h1;exact⟨d,_,rfl,h2,rfl,fun H2 h=>⟨_,rfl,h⟩⟩
   .cases h1
 case makeSlice t y z=>
  simp only[ic,if_true]at h ⊢;obtain⟨c,h1,h2⟩:=h
  cases dst with
  | none=>cases h1
  | some d=>
   simp only[wr]at h1 ⊢;split at h1
   .split at h1
    .split at h1
     .simp only[IT,amj,St.mk.injEq,true_and]at h1;obtain⟨rfl,rfl,rfl⟩:=h1;exact⟨d,_,rfl,h2.1,rfl,fun H2 h=>⟨_,rfl,h,h2.2⟩⟩
     .cases h1
    .cases h1
   .cases h1
 case buildSlice t n ps=>
  simp only[ic,if_true]at h ⊢;obtain⟨c,h1,h2⟩:=h
  cases dst with
  | none=>cases h1
  | some d=>
   simp only[wr]at h1 ⊢;split at h1
   .split at h1
    .split at h1
     .split at h1
      .simp only[IT,amj,St.mk.injEq,true_and]at h1;obtain⟨rfl,rfl,rfl⟩:=h1;exact⟨d,_,rfl,h2.1,rfl,fun H2 h=>⟨_,rfl,h,h2.2⟩⟩
      .cases h1
     .cases h1
    .cases h1
   .cases h1
 case makeMap t rs=>
  simp only[ic,if_true]at h ⊢;obtain⟨c,h1,h2⟩:=h
  cases dst with
  | none=>cases rs<;>cases h1
  | some d=>
   cases rs with
   | some _=>cases h1
   | none=>
    simp only[wr]at h1 ⊢;simp only[IT,amj,St.mk.injEq,true_and]at h1;obtain⟨rfl,rfl,rfl⟩:=h1;exact⟨d,_,rfl,h2,rfl,fun H2 h=>⟨_,rfl,h⟩⟩
 case call cc=>
  obtain⟨callee,args,argTypes⟩:=cc
  cases callee with
  | builtin b=>cases b<;>simp at hk
  | _=>simp at hk
end
end Go.Av
namespace Go.Av
section
variable {P:Program} {T:Ty} {Mv X:Nat->Prop} {G:aB} {N:Fr} {ops:Array Oper}
def Sx (P:Program) (T:Ty) (Mv:Nat->Prop) (G:aB) (N:Fr) (ops:Array Oper) (o:Oper) (e:Env) (H:Heap) (x:AV) (H':Heap):Prop:=
 fb N o/\((jx ops e o=some true/\Ex P T Mv G o e H x H')\/(jx ops e o=some false/\x=dI/\H'=H))
theorem lk {o:Oper} {t:Tmp} (h:Operand.tmp t∈o.op.operands):t∈o.looksAt ops:=
 anT _ (List.mem_filterMap.2 ⟨.tmp t,by simpa using h,rfl⟩)
theorem JJ {o:Oper} {e e':Env} (h:∀ t∈o.looksAt ops,e t=e' t):jx ops e o=jx ops e' o:=by
 unfold jx;split
 .rfl
 .rename_i j want hg;unfold GX;split
  .rename_i d hd;rw[h d (List.mem_append_right _ (by simp[hg,hd]))]
  .rfl
theorem jz {x y:Oper} (h:x.apart ops y=true) {e:Env} {v:AV}:(∀ t∈y.looksAt ops,aN e x.dst v t=e t)/\(∀ t∈x.looksAt ops,aN e y.dst v t=e t)/\(∀ d,x.dst=some d->y.dst≠some d):=by
 obtain⟨h1,h2,h3⟩:=Oper.apart_spec h;exact⟨fun t ht=>V2 fun e=>h1 t e ht,fun t ht=>V2 fun e=>h3 t e ht,h2⟩
theorem kinds (o:Op):kindOf o=0\/kindOf o=1\/kindOf o=2\/kindOf o=3\/kindOf o=8\/kindOf o=9:=by unfold kindOf;split<;>simp
theorem A7 {q p:Oper} (hc:lx ops q p=true) {e:Env} {H H1 H2:Heap} {x y:AV} (hq:Sx P T Mv G N ops q e H x H1) (hp:Sx P T Mv G N ops p (aN e q.dst x) H1 y H2) (Ta:kindOf q.op≠9) (Tb:kindOf p.op≠9) :
  ∃ H3,Sx P T Mv G N ops p e H y H3/\Sx P T Mv G N ops q (aN e p.dst y) H3 x H2:=by
 simp only[lx,OF]at hc;obtain⟨eO,jO⟩:=hc;obtain⟨a1,_,bq⟩:=jz eO (e:=e) (v:=x);obtain⟨_,a2,_⟩:=jz eO (e:=e) (v:=y);have wp:=JJ (o:=p) (e:=aN e q.dst x) (e':=e) a1;have wq:=JJ (o:=q) (e:=aN e p.dst y) (e':=e) a2;have Qg:gU p.op (aN e q.dst x) e:=fun t ht=>a1 t (lk ht);have Qh:gU q.op e (aN e p.dst y):=fun t ht=>(a2 t (lk ht)).symm;obtain⟨dq,hq⟩:=hq;obtain⟨dp,hp⟩:=hp;rw[wp]at hp
 rcases hq with⟨re,eq⟩ | ⟨re,rfl,rfl⟩
 .rcases hp with⟨AP,ep⟩ | ⟨AP,rfl,rfl⟩
  .have xk:=ep.congr Tb Qg;have Dq:=eq.congr Ta Qh
   have fin:∀ H3,Ex P T Mv G p e H y H3->Ex P T Mv G q (aN e p.dst y) H3 x H2->∃ H3,Sx P T Mv G N ops p e H y H3/\Sx P T Mv G N ops q (aN e p.dst y) H3 x H2:=fun H3 h1 h2=>
    ⟨H3,⟨dp,.inl ⟨AP,h1⟩⟩,⟨dq,.inl ⟨by rw[wq];exact re,h2⟩⟩⟩
   by_cases kp0:kindOf p.op=0
   .obtain rfl:=xk.keeps aa;exact fin H (xk.free kp0 H) Dq
   .by_cases kq0:kindOf q.op=0
    .obtain rfl:=eq.keeps aa;exact fin H2 xk (Dq.free kq0 H2)
    .by_cases kk:kindOf q.op<=2/\kindOf p.op<=2
     .obtain rfl:=eq.keeps kk.1;obtain rfl:=xk.keeps kk.2;exact fin _ xk Dq
     .by_cases k3:kindOf q.op=3/\kindOf p.op=3
      .obtain⟨d,row,hd,hn,rfl,dY⟩:=Dq.makes k3.1;obtain⟨d',jm,fU,lf,rfl,LJ⟩:=xk.makes k3.2;have ea:d≠d':=fun e=>bq d hd (by rw[fU,e])
       have lU:H d'=none:=by simpa[bk,ann ea]using lf
       have:bk (bk H d row) d' jm=bk (bk H d' jm) d row:=by
        funext i;by_cases h1:i=d<;>by_cases h2:i=d'<;>simp[bk,h1,h2,ea,ann ea]
       exact fin _ (LJ H lU) (by rw[this];exact dY _ (by simpa[bk,ea]using hn))
      .by_cases Il:(kindOf q.op=1\/kindOf q.op=2)/\kindOf p.op=3
       .obtain rfl:=eq.keeps aa;obtain⟨d,row,hd,hn,rfl,dY⟩:=xk.makes Il.2;exact fin _ xk (Dq.grow Il.1 hn row)
       exfalso
       revert jO
       have c1:kindOf q.op=1\/kindOf q.op=2\/kindOf q.op=3\/kindOf q.op=8:=by have:=kinds q.op;omega
       have c2:kindOf p.op=1\/kindOf p.op=2\/kindOf p.op=3\/kindOf p.op=8:=by have:=kinds p.op;omega
       rcases c1 with c1 | c1 | c1 | c1<;>rcases c2 with c2 | c2 | c2 | c2<;>rw[c1,c2]<;>first | (simp[wI];done) | (exfalso;apply kk;omega) | (exfalso;exact k3 ⟨c1,c2⟩) | (exfalso;exact Il ⟨.inl c1,c2⟩) | (exfalso;exact Il ⟨.inr c1,c2⟩)
  .exact⟨H,⟨dp,.inr ⟨AP,rfl,rfl⟩⟩,⟨dq,.inl ⟨by rw[wq];exact re,eq.congr Ta Qh⟩⟩⟩
 .rcases hp with⟨AP,ep⟩ | ⟨AP,rfl,rfl⟩
  .exact⟨H2,⟨dp,.inl ⟨AP,ep.congr Tb Qg⟩⟩,⟨dq,.inr ⟨by rw[wq];exact re,rfl,rfl⟩⟩⟩
  .exact⟨_,⟨dp,.inr ⟨AP,rfl,rfl⟩⟩,⟨dq,.inr ⟨by rw[wq];exact re,rfl,rfl⟩⟩⟩
def run (P:Program) (T:Ty) (Mv:Nat->Prop) (G:aB) (N:Fr) (ops:Array Oper):List Nat->St->St->Prop
 | [],σ,aH=>σ=aH
 | i :: l,σ,aH=>∃ o,ops[i]? = some o/\∃ ba,CN P T Mv G N ops o σ ba/\run P T Mv G N ops l ba aH
theorem yu {o:Oper} (hk:kindOf o.op≠9) {σ aH:St}:CN P T Mv G N ops o σ aH↔∃ x H',Sx P T Mv G N ops o σ.env σ.H x H'/\aH=⟨aN σ.env o.dst x,H'⟩:=by
 constructor
 .rintro⟨hd,⟨hw,h⟩ | ⟨hw,rfl⟩⟩
  .obtain⟨x,H',h1,h2⟩:=Ex.of hk h;exact⟨x,H',⟨hd,.inl ⟨hw,h1⟩⟩,h2⟩
  .exact⟨dI,σ.H,⟨hd,.inr ⟨hw,rfl,rfl⟩⟩,rfl⟩
 .rintro⟨x,H',⟨hd,⟨hw,h⟩ | ⟨hw,rfl,rfl⟩⟩,rfl⟩
  .exact⟨hd,.inl ⟨hw,h.to⟩⟩
  .exact⟨hd,.inr ⟨hw,rfl⟩⟩
theorem aiO {i j:Nat} {l:List Nat} {σ aH:St} {oi oj:Oper} (hi:ops[i]? = some oi) (hj:ops[j]? = some oj) (hc:lx ops oi oj=true) (h:run P T Mv G N ops (i :: j :: l) σ aH):run P T Mv G N ops (j :: i :: l) σ aH:=by
 obtain⟨o1,h1,ba,s1,o2,h2,iB,s2,rest⟩:=h;rw[hi]at h1;rw[hj]at h2;obtain rfl:=AI h1;obtain rfl:=AI h2
 have hk:kindOf oi.op≠9:=by
  intro e;simp only[lx,OF,e]at hc;have:=hc.2
  revert this
  have b2:kindOf oj.op=0\/kindOf oj.op=1\/kindOf oj.op=2\/kindOf oj.op=3\/kindOf oj.op=8\/kindOf oj.op=9:=by unfold kindOf;split<;>simp
  rcases b2 with b | b | b | b | b | b<;>rw[b]<;>simp[wI]
 have gX:kindOf oj.op≠9:=by
  intro e;simp only[lx,OF,e]at hc;have:=hc.2
  revert this
  have b2:kindOf oi.op=0\/kindOf oi.op=1\/kindOf oi.op=2\/kindOf oi.op=3\/kindOf oi.op=8\/kindOf oi.op=9:=by unfold kindOf;split<;>simp
  rcases b2 with b | b | b | b | b | b<;>rw[b]<;>simp[wI]
 obtain⟨x,H1,e1,rfl⟩:=(yu hk).1 s1;obtain⟨y,H2,e2,rfl⟩:=(yu gX).1 s2;obtain⟨H3,f1,f2⟩:=A7 hc e1 e2 hk gX;refine⟨oj,hj,_,(yu gX).2 ⟨y,H3,f1,rfl⟩,oi,hi,_,(yu hk).2 ⟨x,H2,f2,rfl⟩,?_⟩
 have ab0:aN (aN σ.env oi.dst x) oj.dst y=aN (aN σ.env oj.dst y) oi.dst x:=by
  simp only[lx,OF]at hc;exact iL (jz hc.1 (e:=σ.env) (v:=x)).2.2
 dsimp only at rest ⊢;rw[ab0]at rest;exact rest
theorem aiM {p:Nat} {op:Oper} (hp:ops[p]? = some op):∀ (l1:List Nat) {l2:List Nat} {σ aH:St},(∀ q∈l1,∀ oq,ops[q]? = some oq->lx ops oq op=true)->run P T Mv G N ops (l1 ++ p :: l2) σ aH->run P T Mv G N ops (p :: (l1 ++ l2)) σ aH:=by
 intro l1
 induction l1 with
 | nil=>intro l2 σ aH _ h;exact h
 | cons q l1 ih=>
  intro l2 σ aH dY h;obtain⟨oq,hq,ba,s1,rest⟩:=h;have:=ih (fun q' p8=>dY q' (by simp[p8])) rest;have h2:run P T Mv G N ops (q :: p :: (l1 ++ l2)) σ aH:=⟨oq,hq,ba,s1,this⟩;exact aiO hq hp (dY q ak oq hq) h2
theorem PB:∀ (l:List Oper) (acc:List Nat) (k:Nat),k < acc.length->(u6 l acc).getD k 0=acc.getD k 0
 | [],_,_,_=>rfl
 | o :: l,acc,k,hk=>by
  rw[u6,PB l _ k (by simp;omega)];simp[ame,anq hk]
theorem Zr {acc:List Nat} {o:Oper} {q:Nat} (h:(bitsOf acc o).testBit q=true):∃ e∈o.after,Region.binds .any e=true/\(q=e.on\/(acc.getD e.on 0).testBit q=true):=by
 unfold bitsOf at h
 have key:∀ (l:List Edge),(l.foldr (fun e s=>if Region.binds .any e then (2 ^ e.on ||| acc.getD e.on 0) ||| s else s) 0).testBit q=true->∃ e∈l,Region.binds .any e=true/\(q=e.on\/(acc.getD e.on 0).testBit q=true):=by
  intro l
  induction l with
  | nil=>intro h;simp at h
  | cons e l ih=>
   intro h;rw[List.foldr_cons]at h;split at h
   .rename_i hb;rw[Nat.testBit_or,Nat.testBit_or,amU,amU]at h
    rcases h with (h | h) | h
    .rw[Nat.testBit_two_pow]at h
     have h':e.on=q:=by simpa using h
     exact⟨e,ak,hb,.inl h'.symm⟩
    .exact⟨e,ak,hb,.inr h⟩
    .obtain⟨e',kM,r⟩:=ih h;exact⟨e',by simp[kM],r⟩
   .obtain⟨e',kM,r⟩:=ih h;exact⟨e',by simp[kM],r⟩
 obtain⟨e,he,r⟩:=key _ h;exact⟨e,by simpa using he,r⟩
theorem FQ:∀ (l:List Oper) (acc:List Nat) (j:Nat) (o:Oper) (q:Nat),l[j]? = some o->((u6 l acc).getD (acc.length+j) 0).testBit q=true->∃ e∈o.after,Region.binds .any e=true/\(q=e.on\/(e.on < acc.length+j/\((u6 l acc).getD e.on 0).testBit q=true))
 | [],_,_,_,_,h,_=>by simp at h
 | o' :: l,acc,0,o,q,h,hb=>by
  simp at h;subst h;rw[u6,PB l _ _ ak]at hb;simp[ame]at hb;obtain⟨e,he,qB,r⟩:=Zr hb;refine⟨e,he,qB,r.imp id fun r=>?_⟩
  have aG:e.on < acc.length:=by
   rcases anv e.on acc.length with h | h
   .exact h
   .simp[ame,anD h]at r
  refine⟨aa,?_⟩;rw[u6,PB l _ _ (by simp;omega)];simpa[ame,anq aG]using r
 | o' :: l,acc,j+1,o,q,h,hb=>by
  have:=FQ l (acc ++ [bitsOf acc o']) j o q (by simpa using h) (by rw[u6]at hb;simpa[am6,anN 1 j]using hb);obtain⟨e,he,qB,r⟩:=this;refine⟨e,he,qB,r.imp id fun r=>?_⟩;rw[u6];exact⟨by have:=r.1;simp at this;omega,r.2⟩
theorem I3 (h:sR ops=true) {j:Nat} {oj:Oper} (hj:ops[j]? = some oj):(∀ e∈oj.after,Region.binds .any e=true->e.on < j)/\
  ∀ i oi,i < j->ops[i]? = some oi->((tb ops).getD j 0).testBit i=true\/(lx ops oi oj=true/\lx ops oj oi=true):=by
 unfold sR at h;have h1:=ane.1 h j (anA.2 (amf.1 hj).1);simp only[hj,OF]at h1;refine⟨fun e he hb=>?_,fun i oi hi ir=>?_⟩
 .have:=Array.all_eq_true_iff_forall_mem.1 h1.1 e he;simpa[hb]using this
 .have:=ane.1 h1.2 i (anA.2 hi);simpa[ir]using this
theorem Zm (cf:sR ops=true) {listed:Array Bool} (vW:∀ j oj,ops[j]? = some oj->listed.getD j false=true->∀ e∈oj.after,Region.binds .any e=true->listed.getD e.on false=true) :
  ∀ (n j:Nat) (oj:Oper),j<=n->ops[j]? = some oj->(∀ e∈oj.after,Region.binds .any e=true->listed.getD e.on false=true)->∀ q,((tb ops).getD j 0).testBit q=true->listed.getD q false=true:=by
 intro n
 induction n with
 | zero=>
  intro j oj hj fM dY q hq
  have n9:j=0:=aa
  subst n9;obtain⟨e,he,hb,_⟩:=FQ ops.toList [] 0 oj q (by simpa using fM) (by simpa[tb]using hq);have:=(I3 cf fM).1 e he hb;omega
 | succ n ih=>
  intro j oj hj fM dY q hq;obtain⟨e,he,hb,r⟩:=FQ ops.toList [] j oj q (by simpa using fM) (by simpa[tb]using hq)
  rcases r with rfl | ⟨_,r⟩
  .exact dY e he hb
  .have aG:=(I3 cf fM).1 e he hb
   have dV:e.on < ops.size:=by have:=(amf.1 fM).1;omega
   exact ih e.on ops[e.on] aa (by simp[dV]) (fun e' kM br=>vW e.on _ (by simp[dV]) (dY e he hb) e' kM br) q (by simpa[tb]using r)
theorem YN (hg:Good P T) (cf:sR ops=true) {Q:Exit->St->Prop} {w0:World} {lY:Mu} {cF:St} (hQ:Q .normal cF):∀ (n:Nat) (R:List Nat) (listed:Array Bool) (w:World) (μ:Mu) (a:Act) (σ:St),R.length=n->R.Nodup->
  (∀ j,j∈R↔j < ops.size/\listed.getD j true=false)->listed.size=ops.size->(R.Pairwise (· < ·))->
  (∀ j oj,ops[j]? = some oj->listed.getD j false=true->∀ e∈oj.after,Region.binds .any e=true->listed.getD e.on false=true)->run P T Mv G N ops R σ cF->In w X G μ N a σ->Ev Mv w0 lY w μ->
  wpAnyIn (wd N.ro) 0 P .any ops (After Mv X G N w0 lY Q) n listed a w:=by
 intro n
 induction n with
 | zero=>
  intro R listed w μ a σ hl _ hR bp _ _ dK hi bd;have:R=[]:=amC hl;subst this
  have hr:Region.ready .any ops listed=[]:=by
   apply List.eq_nil_iff_forall_not_mem.2;intro j hj;obtain⟨h1,o,ho,_⟩:=mem_ready.1 hj;exact absurd ((hR j).2 ⟨(amf.1 ho).1,h1⟩) ak
  have:σ=cF:=dK;subst this;exact⟨hr,μ,σ,hQ,hi,bd⟩
 | succ n ih=>
  intro R listed w μ a σ hl mO hR bp wx vW dK hi bd;refine⟨fun hr=>?_,fun i Mx=>?_⟩
  .-- the first of the rest may come up
   cases R with
   | nil=>simp at hl
   | cons j R=>
    obtain⟨rF,qJ⟩:=(hR j).1 ak
    have Ec:j∈Region.ready .any ops listed:=by
     refine mem_ready.2 ⟨qJ,ops[j],by simp[rF],fun e he hb=>?_⟩;have aG:=(I3 cf (j:=j) (oj:=ops[j]) (by simp[rF])).1 e he hb
     have bq:e.on ∉ (j :: R):=by
      intro hm
      rcases amx.1 hm with h | h
      .omega
      .have:=(am5.1 wx).1 _ h;omega
     have:=mt (hR e.on).2 bq
     have dV:e.on < ops.size:=aa
     have wh:e.on < listed.size:=aa
     simp only[dV,true_and,amg]at this ⊢;simp[wh]at this ⊢;exact this
    rw[hr]at Ec;cases Ec
  .obtain⟨fV,oi,ir,dY⟩:=mem_ready.1 Mx;have Mr:i∈R:=(hR i).2 ⟨(amf.1 ir).1,fV⟩;obtain⟨R1,R2,rfl⟩:=List.append_of_mem Mr
   have Mi:=aiM (P:=P) (T:=T) (Mv:=Mv) (G:=G) (N:=N) ir R1 (fun q hq oq Ew=>by
    have acW:q < i:=by
     have:=(ano.1 wx).2.2 q hq i ak;exact this
    rcases (I3 cf ir).2 q oq acW Ew with h | h
    .exfalso;have Ej:=Zm cf vW i i oi (amh _) ir dY q h;have p9:=((hR q).1 (by simp[hq])).2
     have M3:q < listed.size:=by have:=(amf.1 Ew).1;omega
     simp[amg,M3]at Ej p9;rw[Ej]at p9;cases p9
    .exact h.1) dK
   obtain⟨o',qK,ba,hstep,df⟩:=Mi;rw[ir]at qK;obtain rfl:=AI qK;refine AH hg hstep hi ir fun w' aI a' aR nu=>?_
   have MR:(R1 ++ R2).Nodup:=by
    have:=mO;rw[List.nodup_append]at this ⊢;obtain⟨g1,g2,g3⟩:=this;exact⟨g1,(anf.1 g2).2,fun x hx y hy=>g3 x hx y (by simp[hy])⟩
   have Mt:i ∉ R1 ++ R2:=by
    have:=mO;rw[List.nodup_append]at this;obtain⟨g1,g2,g3⟩:=this;intro hm
    rcases amq.1 hm with h | h
    .exact g3 i h i ak rfl
    .exact (anf.1 g2).1 h
   refine ih (R1 ++ R2) _ w' aI a' ba (by simp at hl ⊢;omega) MR (fun j=>?_) (by simpa using bp) ?_ ?_ df aR (bd.trans nu)
   .by_cases pz:j=i
    .subst pz
     have wh:j < listed.size:=by rw[bp];exact (amf.1 ir).1
     simp[wh];simpa using Mt
    .rw[getD_set_ne true (ann pz)];rw[<- hR j];simp[pz]
   .rw[ano]at wx ⊢;obtain⟨g1,g2,g3⟩:=wx;exact⟨g1,(am5.1 g2).2,fun x hx y hy=>g3 x hx y (by simp[hy])⟩
   .intro j oj fM me e he hb;by_cases pz:j=i
    .subst pz;rw[ir]at fM;obtain rfl:=AI fM;exact getD_set_true (dY e he hb)
    .rw[getD_set_ne false (ann pz)]at me;exact getD_set_true (vW j oj fM me e he hb)
def yB (P:Program) (T:Ty) (Mv:Nat->Prop) (G:aB) (N:Fr) (ops:Array Oper) (K:St->Prop):List Oper->St->Prop
 | [],σ=>K σ
 | o :: rest,σ=>fb N o/\match jx ops σ.env o with
  | some b=>if b=true then (match eD o.op with
    | some c=>∃ y,Dh P G σ c y/\yB P T Mv G N ops K rest ⟨aN σ.env o.dst (.d y),σ.H⟩
    | none=>rY T G Mv o σ (yB P T Mv G N ops K rest)) else yB P T Mv G N ops K rest ⟨aN σ.env o.dst dI,σ.H⟩
  | none=>False
theorem ajA {K:St->Prop}:∀ (l:List Oper) (k:Nat) (σ:St),(∀ j,l[j]? = ops[k+j]?)->yB P T Mv G N ops K l σ->∃ cF,K cF/\run P T Mv G N ops (List.range' k l.length) σ cF:=by
 intro l
 induction l with
 | nil=>intro k σ _ h;exact⟨σ,h,rfl⟩
 | cons o l ih=>
  intro k σ hl h
  have h0:ops[k]? = some o:=by simpa using (hl 0).symm
  have fh:∀ j,l[j]? = ops[k+1+j]?:=fun j=>by have:=hl (j+1);simpa[am6,anN 1 j]using this
  obtain⟨hd,h⟩:=h;rw[amo,an4]
  have fin:∀ ba,CN P T Mv G N ops o σ ba->yB P T Mv G N ops K l ba->∃ cF,K cF/\run P T Mv G N ops (k :: List.range' (k+1) l.length) σ cF:=by
   intro ba hs hq;obtain⟨cF,hk,hr⟩:=ih (k+1) ba fh hq;exact⟨cF,hk,o,h0,ba,hs,hr⟩
  split at h
  .rename_i b hb;split at h
   .rename_i rC;subst rC;split at h
    .rename_i c hc;obtain⟨y,hy,h⟩:=h;refine fin _ ⟨hd,.inl ⟨hb,?_⟩⟩ h;unfold po;simp only[hc];exact⟨y,hy,rfl⟩
    .rename_i hc;unfold rY at h;split at h
     .rename_i hw;split at h
      .rename_i c x ba h1;refine fin _ ⟨hd,.inl ⟨hb,?_⟩⟩ h.2;unfold po;simp only[hc];rw[if_pos hw];exact⟨c,x,ba,h1,h.1,rfl⟩
      .exact h.elim
     .rename_i hw;split at h
      .rename_i c x h1;refine fin _ ⟨hd,.inl ⟨hb,?_⟩⟩ h.2;unfold po;simp only[hc];rw[if_neg hw];exact⟨c,x,h1,h.1,rfl⟩
      .exact h.elim
   .rename_i nt
    have:b=false:=by simpa using nt
    subst this;exact fin _ ⟨hd,.inr ⟨hb,rfl⟩⟩ h
  .exact h.elim
theorem Yq (hg:Good P T) (hm:P.follows .mixedOrders=true) {id:Nat} (cf:sR ops=true) {Q:Exit->St->Prop} {σ:St} (h:yB P T Mv G N ops (fun aH=>Q .normal aH) ops.toList σ):AW P Mv X G N (.region id ops true) Q σ:=fun w μ a hi=>by
 obtain⟨cF,hQ,dK⟩:=ajA ops.toList 0 σ ak h;refine wpIn_region_any hm ?_;obtain⟨aR,bd⟩:=hi.ry (Mv:=Mv) (cX.drew w);refine YN hg cf hQ ops.size (List.range' 0 ops.toList.length) _ w.drew μ a σ ak (by simpa using List.nodup_range') (fun j=>?_) ak (by simpa using List.pairwise_lt_range') ?_ dK aR bd
 .simp[List.mem_range'_1];intro h;simp[amg,h]
 .intro j oj fM me;have hj:=(amf.1 fM).1;simp[amg,hj]at me
end
def eQ (P:Program) (t:TypeId):Bool:=!P.stoodInHeld t && !P.eqGuardType P.depth t
def cT (P:Program):Ty:=fun t=>match P.underlying t,P.info? t with
 | some d,some i=>i.zero.map fun z=>⟨d,i.size,i.bytes,z,eQ P t⟩
 | _,_=>none
theorem ay (P:Program):Good P (cT P):=by
 intro t ti h;unfold cT at h;split at h
 .rename_i d i hd hi;obtain⟨z,hz,rfl⟩:=AS.1 h;exact⟨hd,i,hi,rfl,rfl,hz,fun h=>by unfold eQ at h;simpa using h⟩
 .cases h
end Go.Av
namespace Go.Av
def Ag:List Nat->Env->List (Nat×AV)
 | [],_=>[]
 | i :: l,e=>match e i with
  | some x=>(i,x) :: Ag l e
  | none=>Ag l e
section
variable {P:Program} {T:Ty} {Mv X:Nat->Prop} {G:aB} {N:Fr} {σ:St}
theorem aL.env {e e':Env} {H:Heap} (h:∀ i x,e' i=some x->e i=some x):aL Mv X G N ⟨e,H⟩ ⟨e',H⟩:=fun w μ _ hi=>
 ⟨μ,⟨hi.bx,⟨hi.env.defers,hi.env.size,fun i x hx=>hi.env.slot i x (h i x hx)⟩,hi.jA⟩,.refl _ w μ⟩
theorem N4 {e:Env}:∀ {l:List Nat} {i:Nat} {x:AV},bg (Ag l e) i=some x->e i=some x
 | [],_,_,h=>by simp[bg,Ag]at h
 | j :: l,i,x,h=>by
  simp only[Ag]at h;split at h
  .rename_i y hy;simp only[bg,List.lookup]at h;split at h
   .rename_i qI
    have:i=j:=by simpa using qI
    subst this;obtain rfl:=AI h;exact hy
   .exact N4 (l:=l) h
  .exact N4 (l:=l) h
theorem ag {x y:Code} {Q:Exit->St->Prop} (h:∀ K:St->Prop,(∀ aH,AW P Mv X G N y Q aH->K aH)->AW P Mv X G N x (aT K Q) σ):AW P Mv X G N (.seq x y) Q σ:=tZ (h _ fun _ h=>h)
theorem N5:∀ {l:List (Nat×AV)} {i:Nat} {x:AV},bg l i=some x->(i,x)∈l
 | [],_,_,h=>by simp[bg]at h
 | (j,y) :: l,i,x,h=>by
  simp only[bg,List.lookup]at h;split at h
  .rename_i qI
   have:i=j:=by simpa using qI
   subst this;obtain rfl:=AI h;simp
  .exact List.mem_cons_of_mem _ (N5 (l:=l) h)
def aZ (Mv X:Nat->Prop) (G:aB) (N:Fr) {S:Type} (I:S->Prop) (inv:S->St) (qQ:S->Nat) (s:S) (σ:St):Prop:=∃ s',I s'/\qQ s' < qQ s/\aL Mv X G N σ (inv s')
theorem aZ.mk {S:Type} {I:S->Prop} {inv:S->St} {qQ:S->Nat} {s:S} (s':S) (hI:I s') (hm:qQ s' < qQ s) (h:aL Mv X G N σ (inv s')):aZ Mv X G N I inv qQ s σ:=⟨s',hI,hm,h⟩
theorem ch {S:Type} {id:Nat} {c:Code} {Q:Exit->St->Prop} (I:S->Prop) (inv:S->St) (qQ:S->Nat) (s0:S) (h0:aL Mv X G N σ (inv s0)) (hI:I s0)
  (round:∀ s,I s->AW P Mv X G N c (aT (aZ Mv X G N I inv qQ s) (aW id Q)) (inv s)):AW P Mv X G N (.block id (.loop c)) Q σ:=
 bf (Yf (S:={s // I s}) (fun s=>inv s.1) (fun s=>qQ s.1) ⟨s0,hI⟩ h0 fun s=>(round s.1 s.2).mono fun e τ q=>by
  cases e with
  | normal=>obtain⟨s',h1,h2,h3⟩:=q;exact⟨⟨s',h1⟩,h2,h3⟩
  | _=>exact q)
theorem eY {c:Operand} {x y:Code} {Q:Exit->St->Prop} {b:Prop} [Decidable b] (hc:bJ G σ.env c=some (.d (.v (.bool (decide b))))) (ht:b->AW P Mv X G N x Q σ) (hf:¬ b->AW P Mv X G N y Q σ):AW P Mv X G N (.cond c x y) Q σ:=
 r5 (decide b) hc (fun h=>ht (of_decide_eq_true h)) (fun h=>hf (of_decide_eq_false h))
end
end Go.Av
namespace Go.Av
def E6 (l:List AV):AV:=match nd l with
 | some ds=>.d (.bz ds)
 | none=>.bz l
def AV.tr (o f:Nat->Nat->Nat->AV):AV->AV
 | .d x=>.d x
 | .own q off n=>o q off n
 | .ref q e j=>f q e j
 | .agg cells=>rU (go o f cells)
 | .bz vs=>E6 (go o f vs)
 | .cC t x=>E5 t (x.tr o f)
 | .fn g caps=>E4 g (go o f caps)
 | .bm g x=>.bm g (x.tr o f)
 | .mp q=>match f q 0 0 with
  | .ref q' _ _=>.mp q'
  | _=>.dead
 | .dead=>.dead
where
 go (o f:Nat->Nat->Nat->AV):List AV->List AV
 | []=>[]
 | x :: l=>x.tr o f :: go o f l
theorem AV.CO (o f:Nat->Nat->Nat->AV) (l:List AV):AV.tr.go o f l=l.map (AV.tr o f):=by
 induction l with
 | nil=>rfl
 | cons x l ih=>simp[AV.tr.go,ih]
def Row.tr (o f:Nat->Nat->Nat->AV):Row->Row
 | .sl ty sz els=>.sl ty sz els
 | .box ty cells=>.box ty (cells.map (AV.tr o f))
 | .mp ty ents=>.mp ty ents
 | .it ents seen=>.it ents seen
def mz (o f:Nat->Nat->Nat->AV) (e:Env):Env:=fun i=>(e i).map (AV.tr o f)
def fi (keep:Nat->Bool) (o f:Nat->Nat->Nat->AV) (H:Heap):Heap:=fun r=>if keep r then (H r).map (Row.tr o f) else none
def cJ (keep:Nat->Bool) (μ:Mu):Mu:=fun r=>if keep r then μ r else none
section
variable {P:Program} {T:Ty} {Mv X:Nat->Prop} {G:aB} {N:Fr} {w:World} {μ:Mu} {a:Act} {σ:St}
theorem IF {u:Value} {l:List AV} (h:RV w X μ u (.bz l)):RV w X μ u (E6 l):=by
 unfold E6;split
 .rename_i ds hd;rw[r8 hd]at h;obtain⟨arr,rfl,hn,hr⟩:=h.CP;refine .d (.bz (by simpa using hn) fun j u c hu hc=>?_);exact (hr j u (.d c) hu (by rw[amm,hc];rfl)).data
 .exact h
theorem ll {keep:Nat->Bool} {r:Nat} {m:jZ} (h:cJ keep μ r=some m):keep r=true/\μ r=some m:=by
 unfold cJ at h;split at h
 .rename_i hk;exact⟨hk,h⟩
 .cases h
theorem C6 {keep:Nat->Bool} {b:Nat} (h:XX X (cJ keep μ) b):XX X μ b:=h.elim .inl fun ⟨r,m,hr,hb⟩=>.inr ⟨r,m,(ll hr).2,hb⟩
theorem RV.tr {aI:Mu} {o f:Nat->Nat->Nat->AV} (hX:∀ b,XX X aI b->XX X μ b) (ho:∀ u r off n,RV w X μ u (.own r off n)->RV w X aI u (o r off n)) (hf:∀ u r e j,RV w X μ u (.ref r e j)->RV w X aI u (f r e j)) :
  ∀ {v:Value} {x:AV},RV w X μ v x->RV w X aI v (x.tr o f):=by
 intro v x hr
 induction hr with
 | d h'=>exact .d (h'.mono (amh _) fun b _ hb=>⟨rfl,fun e=>hb (hX b e)⟩)
 | own hm h'=>exact ho _ _ _ _ (.own hm h')
 | ref hm hb=>exact hf _ _ _ _ (.ref hm hb)
 | agg hn _ ih=>
  rw[AV.tr,AV.CO];refine E3 (.agg (by simpa using hn) fun j u c hu hc=>?_);rw[amm]at hc;obtain⟨c',eI,rfl⟩:=AS.1 hc;exact ih j u c' hu eI
 | bz hn _ ih=>
  rw[AV.tr,AV.CO];refine IF (.bz (by simpa using hn) fun j u c hu hc=>?_);rw[amm]at hc;obtain⟨c',eI,rfl⟩:=AS.1 hc;exact ih j u c' hu eI
 | cC _ ih=>exact Oc ih
 | bm _ ih=>exact .bm ih
 | fn hn _ ih=>
  rw[AV.tr,AV.CO];refine Ob (by simpa using hn) fun j u c hu hc=>?_;rw[amm]at hc;obtain⟨c',eI,rfl⟩:=AS.1 hc;exact ih j u c' hu eI
 | mp hm hb=>
  rename_i r b m;have h0:=hf _ _ _ _ (RV.ref (e:=0) (j:=0) hm hb);unfold AV.tr;split
  .rename_i q' e' j' hq;rw[hq]at h0;obtain⟨m',b',cL,br,e⟩:=h0.mo;simp only[Value.pointer.injEq,IT,Addr.mk.injEq]at e;obtain⟨rfl,_⟩:=e;exact .mp cL br
  .exact .dead _
 | dead u=>exact .dead u
theorem zb {keep:Nat->Bool} (hk:∀ r m,μ r=some m->keep r=false->Mv r):Ev Mv w μ w (cJ keep μ):=by
 refine⟨amh _,rfl,rfl,rfl,fun b hb hr=>⟨rfl,?_⟩,fun q mq hq hn=>?_⟩
 .rintro⟨q,mq,hq,lA⟩;exact hr ⟨q,mq,(ll hq).2,lA⟩
 .unfold cJ
  cases h:keep q with
  | true=>simpa using hq
  | false=>exact absurd (hk q mq hq h) hn
theorem In.tr {keep:Nat->Bool} {o f:Nat->Nat->Nat->AV} (hi:In w X G μ N a σ) (ho:∀ u r off n,RV w X μ u (.own r off n)->RV w X (cJ keep μ) u (o r off n)) (hf:∀ u r e j,RV w X μ u (.ref r e j)->RV w X (cJ keep μ) u (f r e j)) :
  In w X G (cJ keep μ) N a ⟨mz o f σ.env,fi keep o f σ.H⟩:=by
 have hX:∀ b,XX X (cJ keep μ) b->XX X μ b:=fun b=>C6;have vI:∀ {u:Value} {x:D},RD w (XX X μ) u x->RD w (XX X (cJ keep μ)) u x:=fun h=>h.mono (amh _) fun b _ hb=>⟨rfl,fun e=>hb (hX b e)⟩;have DU:∀ {u:Value} {x:AV},RV w X μ u x->RV w X (cJ keep μ) u (x.tr o f):=fun h=>RV.tr hX ho hf h
 refine⟨⟨fun r row hr=>?_,fun r m hr=>?_,fun q q' m1 m2 b h1 h2 e9 fk=>hi.bx.inj q q' m1 m2 b (ll h1).2 (ll h2).2 e9 fk,fun q mq b hq hb=>hi.bx.frame q mq b (ll hq).2 hb,hi.bx.fits⟩,
  ⟨hi.env.defers,hi.env.size,fun i x hx=>?_⟩,fun g x hx=>vI (hi.jA g x hx)⟩
 .replace hr:fi keep o f σ.H r=some row:=hr;unfold fi at hr;split at hr
  .rename_i hk;obtain⟨qo,h0,rfl⟩:=AS.1 hr;obtain⟨m,hm,ok⟩:=hi.bx.rows r qo h0;refine⟨m,by simp[cJ,hk,hm],?_⟩
   cases ok with
   | nil h1 h2=>exact .nil h1 h2
   | sl h1 h2 h3 h4 h5 h6 h7 h8 h9=>exact .sl h1 h2 h3 h4 h5 h6 h7 h8 fun i j el c he hc=>let ⟨u,hu,hr⟩:=h9 i j el c he hc;⟨u,hu,vI hr⟩
   | box h1 h2 h3 h4 h5 h6 h7=>
    refine .box h1 rfl h3 h4 (by simpa using h5) (fun j u c hu hc=>?_) (by simpa using h7);rw[amm]at hc;obtain⟨c',eI,rfl⟩:=AS.1 hc;exact DU (h6 j u c' hu eI)
   | mp h1 h2 h3 h4=>exact .mp h1 h2 h3 fun i e p he hp=>let ⟨a,b,c⟩:=h4 i e p he hp;⟨a,b,vI c⟩
   | it h1 h2 h3=>exact .it h1 h2 (vI h3)
  .cases hr
 .obtain⟨hk,hm⟩:=ll hr;obtain⟨row,eg⟩:=hi.bx.l5 r m hm;exact⟨row.tr o f,by simp[fi,hk,eg]⟩
 .replace hx:mz o f σ.env i=some x:=hx;unfold mz at hx;obtain⟨x0,h0,rfl⟩:=AS.1 hx;obtain⟨u,hu,hr⟩:=hi.env.slot i x0 h0;exact⟨u,hu,DU hr⟩
theorem RV.CB {keep:Nat->Bool} {u:Value} {r off n:Nat} (hk:keep r=true) (h:RV w X μ u (.own r off n)):RV w X (cJ keep μ) u (.own r off n):=by
 obtain⟨m,hm,hh⟩:=h.ml;exact .own (by simp[cJ,hk,hm]) hh
theorem RV.CH {keep:Nat->Bool} {u:Value} {r e j:Nat} (hk:keep r=true) (h:RV w X μ u (.ref r e j)):RV w X (cJ keep μ) u (.ref r e j):=by
 obtain⟨m,b,hm,hb,rfl⟩:=h.mo;exact .ref (by simp[cJ,hk,hm]) hb
def fY (ns:List Nat) (q off n:Nat):AV:=if ns.contains q then .own q off n else .dead
def fX (ns:List Nat) (q e j:Nat):AV:=if ns.contains q then .ref q e j else .dead
def x3:List Nat->Heap->List (Nat×Row)
 | [],_=>[]
 | r :: l,H=>match H r with
  | some row=>(r,row) :: x3 l H
  | none=>x3 l H
theorem aL.only (ns:List Nat) (hm:∀ r,ns.contains r=false->Mv r):aL Mv X G N σ ⟨mz (fY ns) (fX ns) σ.env,fi ns.contains (fY ns) (fX ns) σ.H⟩:=fun w μ a hi=>by
 refine⟨cJ ns.contains μ,hi.tr (fun u r off n h=>?_) (fun u r e j h=>?_),zb fun r _ _ h=>hm r h⟩
 .unfold fY;split
  .rename_i hk;exact h.CB hk
  .exact .dead u
 .unfold fX;split
  .rename_i hk;exact h.CH hk
  .exact .dead u
theorem Tg {H:Heap}:∀ {l:List Nat} {r:Nat},aw (x3 l H) r=if l.contains r then H r else none
 | [],r=>by simp[aw,x3]
 | q :: l,r=>by
  have ih:=Tg (H:=H) (l:=l) (r:=r);simp only[x3];split
  .rename_i row eg;simp only[aw,List.lookup,List.contains_cons];split
   .rename_i B1
    have:r=q:=by simpa using B1
    subst this;simp[eg]
   .rename_i B1;rw[B1,anz];exact ih
  .rename_i eg;rw[ih,List.contains_cons];by_cases B1:r=q
   .subst B1;simp[eg]
   .simp[B1]
def St.norm (l ns:List Nat) (σ:St):St:=⟨bg (Ag l (mz (fY ns) (fX ns) σ.env)),aw (x3 ns (fi ns.contains (fY ns) (fX ns) σ.H))⟩
theorem acF {ns:List Nat} {o f:Nat->Nat->Nat->AV} {H:Heap}:aw (x3 ns (fi ns.contains o f H))=fi ns.contains o f H:=by
 funext r;rw[Tg];unfold fi;split<;>simp_all
theorem aL.norm (l ns:List Nat) (hm:∀ r,ns.contains r=false->Mv r):aL Mv X G N σ (σ.norm l ns):=by
 refine (aL.only ns hm).trans ?_;unfold St.norm;rw[acF];exact aL.env fun _ _=>N4
theorem aL.to {e:Env} {H:Heap} {l:List (Nat×AV)} {rows:List (Nat×Row)} (hm:∀ r,(rows.map (·.1)).contains r=false->Mv r) (he:∀ p∈l,(e p.1).map (AV.tr (fY (rows.map (·.1))) (fX (rows.map (·.1))))=some p.2)
  (hH:∀ r,aw rows r=fi (rows.map (·.1)).contains (fY (rows.map (·.1))) (fX (rows.map (·.1))) H r):aL Mv X G N ⟨e,H⟩ ⟨Go.Av.bg l,aw rows⟩:=by
 refine (aL.only (rows.map (·.1)) hm).trans ?_;have:aw rows=fi (rows.map (·.1)).contains (fY (rows.map (·.1))) (fX (rows.map (·.1))) H:=funext hH;rw[this];exact aL.env fun i x hx=>he (i,x) (N5 hx)
theorem Jo {rows:List (Nat×Row)} {H:Heap} {o f:Nat->Nat->Nat->AV} (h:∀ p∈rows,(H p.1).map (Row.tr o f)=aw rows p.1):∀ r,aw rows r=fi (rows.map (·.1)).contains o f H r:=by
 intro r;unfold fi;split
 .rename_i hk;obtain⟨p,hp,rfl⟩:=amS.1 (am1.1 hk);exact (h p hp).symm
 .rename_i hk
  have:∀ l:List (Nat×Row),¬ (l.map (·.1)).contains r=true->aw l r=none:=by
   intro l
   induction l with
   | nil=>intro _;rfl
   | cons q l ih=>
    intro hc;simp only[amE,List.contains_cons,amU,not_or]at hc;simp only[aw,List.lookup];split
    .rename_i h1;exact absurd h1 hc.1
    .exact ih hc.2
  exact this rows hk
theorem aL.ek {e:Env} {H:Heap} {l:List (Nat×AV)} {rows:List (Nat×Row)} (hm:∀ r,(rows.map (·.1)).contains r=false->Mv r) (he:∀ p∈l,(e p.1).map (AV.tr (fY (rows.map (·.1))) (fX (rows.map (·.1))))=some p.2)
  (hH:∀ p∈rows,(H p.1).map (Row.tr (fY (rows.map (·.1))) (fX (rows.map (·.1))))=aw rows p.1):aL Mv X G N ⟨e,H⟩ ⟨Go.Av.bg l,aw rows⟩:=aL.to hm he (Jo hH)
def xp (r:Nat) (els:List (List D)) (q off n:Nat):AV:=if q=r then (if off=0/\n=els.length then .d (.sl none els) else if off+n<=els.length then .d (.sl none ((els.drop off).take n)) else .dead) else .own q off n
def xo (r:Nat) (q e j:Nat):AV:=if q=r then .dead else .ref q e j
def iT (r:Nat) (q:Nat):Bool:=!(q == r)
def St.freeze (r:Nat) (σ:St):St:=match σ.H r with
 | some (.sl _ _ els)=>⟨mz (xp r els) (xo r) σ.env,fi (iT r) (xp r els) (xo r) σ.H⟩
 | _=>σ
theorem aL.freeze (r:Nat) (hm:Mv r):aL Mv X G N σ (σ.freeze r):=fun w μ a hi=>by
 unfold St.freeze;split
 .rename_i ty sz els hr
  have sC:(fun q=>if q=r then none else μ q)=cJ (iT r) μ:=by
   funext q;unfold cJ iT;by_cases h:q=r<;>simp[h]
  refine⟨cJ (iT r) μ,hi.tr (fun u q off n h=>?_) (fun u q e j h=>?_),zb fun q _ _ hq=>by
   have e:q=r:=by simpa[iT]using hq
   exact e ▸ hm⟩
  .unfold xp;split
   .rename_i hq;subst hq
    have hd:∀ {off n:Nat},RV w X μ u (.own q off n)->off+n<=els.length->RV w X (cJ (iT q) μ) u (.d (.sl none ((els.drop off).take n))):=fun h hle=>by
     obtain⟨k,hk,_⟩:=I4 hi.bx hr hle h;rw[sC]at hk;exact .d hk.wV
    split
    .rename_i h2;obtain⟨rfl,rfl⟩:=h2;have:=hd h aa;simpa using this
    .split
     .rename_i hle;exact hd h hle
     .exact .dead u
   .rename_i hq;exact h.CB (by simp[iT,hq])
  .unfold xo;split
   .exact .dead u
   .rename_i hq;exact h.CH (by simp[iT,hq])
 .exact⟨μ,hi,.refl _ w μ⟩
def GN (r:Nat) (ds:List D) (q e j:Nat):AV:=if q=r then (if e=0 then .d (.ip (ds.drop j)) else .dead) else .ref q e j
def GO (r:Nat) (q off n:Nat):AV:=if q=r then .dead else .own q off n
def St.uw (r:Nat) (σ:St):St:=match σ.H r with
 | some (.box _ cells)=>match nd cells with
  | some ds=>⟨mz (GO r) (GN r ds) σ.env,fi (iT r) (GO r) (GN r ds) σ.H⟩
  | none=>σ
 | _=>σ
theorem aL.uw (r:Nat) (hm:Mv r):aL Mv X G N σ (σ.uw r):=fun w μ a hi=>by
 unfold St.uw;split
 .rename_i ty cells hr;split
  .rename_i ds n5
   refine⟨cJ (iT r) μ,hi.tr (fun u q off n h=>?_) (fun u q e j h=>?_),zb fun q _ _ hq=>by
    have e:q=r:=by simpa[iT]using hq
    exact e ▸ hm⟩
   .unfold GO;split
    .exact .dead u
    .rename_i hq;exact h.CB (by simp[iT,hq])
   .unfold GN;split
    .rename_i hq;subst hq;split
     .rename_i he;subst he;obtain⟨m,b,BV,hb,rfl⟩:=h.mo;obtain⟨m',cL,ok⟩:=hi.bx.rows q _ hr;rw[BV]at cL;obtain rfl:=AI cL
      cases ok with
      | box br bp k8 hh hn mR Ca=>
       rename_i b' cur;rw[hb]at br;obtain rfl:=AI br;have jf:=r8 n5
       have hlen:cells.length=ds.length:=by rw[jf,amT]
       simp only[anJ,amR];refine .d (.ip (f:=fun i=>cur.getD (j+i) undef) ?_ (amf.1 hh).1 (fun i fK=>?_) fun i d fU=>?_)
       .rintro (hX | ⟨q',m',p8,abU⟩)
        .exact hi.bx.frame q m b BV hb hX
        .obtain⟨hk,acI⟩:=ll p8;have:=hi.bx.inj q' q m' m b acI BV abU hb;simp[iT,this]at hk
       .simp only[amF]at fK;rw[cell_of_row w b (j+i) cur ty (0,0) hh];simp[amg,show j+i < cur.size by omega]
       .have fK:=(BY.1 fU).1;simp only[amF]at fK;rw[amM]at fU
        have hc:cells[j+i]? = some (.d d):=by rw[jf,amm,fU];rfl
        have aG:j+i < cur.size:=aa
        have:=mR (j+i) cur[j+i] (.d d) (by simp[aG]) hc;simp only[amg,aG,amA,anM];exact this.data.sub fun b=>C6
     .exact .dead u
    .rename_i hq;exact h.CH (by simp[iT,hq])
  .exact⟨μ,hi,.refl _ w μ⟩
 .exact⟨μ,hi,.refl _ w μ⟩
def St.zc (r:Nat) (σ:St):St:=(σ.freeze r).uw r
theorem aL.zc (r:Nat) (hm:Mv r):aL Mv X G N σ (σ.zc r):=(aL.freeze r hm).trans (aL.uw r hm)
theorem aL.lO (i r ty sz:Nat) {e:Env} {H:Heap} (hr:H r=none) (he:e i=some (.d (.sl (some false) []))):aL Mv X G N ⟨e,H⟩ ⟨iz e i (.own r 0 0),bk H r (.sl ty sz [])⟩:=fun w μ a hi=>by
 obtain⟨aR,ev⟩:=hi.alloc (Mv:=Mv) (w':=w) (m:=⟨none,sz,0⟩) hr (cX.refl w) ak (row:=.sl ty sz []) fun _=>.nil rfl rfl;refine⟨eG μ r ⟨none,sz,0⟩,⟨aR.bx,⟨aR.env.defers,aR.env.size,fun j x hx=>?_⟩,aR.jA⟩,ev⟩;simp only[iz]at hx;split at hx
 .rename_i hj;subst hj;obtain rfl:=AI hx;obtain⟨u,hu,iu⟩:=hi.env.slot j _ he;refine⟨u,hu,.own (m:=⟨none,sz,0⟩) (by simp[eG]) (.inl ⟨rfl,?_,rfl,rfl⟩)⟩
  rcases iu.data.sW with⟨rfl,_⟩ | ⟨_,_,_,hk,_⟩
  .rfl
  .exact absurd rfl hk
 .exact aR.env.slot j x hx
end
end Go.Av
namespace Go.Av
theorem Zu (a b:Int):(a != b)=decide (¬ a=b):=by by_cases h:a=b<;>simp[h]
theorem Zn (a b:Int):(a == b)=decide (a=b):=by by_cases h:a=b<;>simp[h]
theorem aP {α β:Type} (f:α->β) (l:List α):List.take l.length (List.map f l)=List.map f l:=sh ak
def rowsOf (H:Heap):Nat->AV->List Nat
 | 0,_=>[]
 | _+1,.own r _ _=>[r]
 | k+1,.ref r _ _=>match H r with
  | some (.box _ cells)=>go H k cells ++ [r]
  | _=>[]
 | k+1,.agg cells=>go H k cells
 | k+1,.cC _ x=>rowsOf H k x
 | _+1,_=>[]
where
 go (H:Heap) (k:Nat):List AV->List Nat
 | []=>[]
 | x :: l=>rowsOf H k x ++ go H k l
def tp:List Nat->St->St
 | [],σ=>σ
 | r :: l,σ=>tp l (σ.zc r)
def CF (G:aB) (o:Oper) (σ:St):St:=match o.op with
 | .buildSlice _ _ parts=>match oR G σ.env parts.toList with
  | some ps=>tp (rowsOf.go σ.H 6 (ps.map (·.2))) σ
  | none=>σ
 | .mapUpdate _ _ _ v=>match bJ G σ.env v with
  | some x=>tp (rowsOf σ.H 6 x) σ
  | none=>σ
 | .insert _ _ _ v=>match bJ G σ.env v with
  | some x=>tp (rowsOf σ.H 6 x) σ
  | none=>σ
 | _=>σ
def I9 (G:aB) (o:Oper) (σ:St):List Nat:=match o.op with
 | .buildSlice _ _ parts=>match oR G σ.env parts.toList with
  | some ps=>rowsOf.go σ.H 6 (ps.map (·.2))
  | none=>[]
 | .mapUpdate _ _ _ v=>match bJ G σ.env v with
  | some x=>rowsOf σ.H 6 x
  | none=>[]
 | .insert _ _ _ v=>match bJ G σ.env v with
  | some x=>rowsOf σ.H 6 x
  | none=>[]
 | _=>[]
def cZ (P:Program) (Mv X:Nat->Prop) (G:aB) (N:Fr) (g:FuncId) (xs:List AV) (σ:St) (dst:Option Tmp) (next:St->Prop):Prop:=
 np P Mv X G N g xs σ fun x aH=>next ⟨aN aH.env dst x,aH.H⟩
def nj (P:Program) (G:aB) (c:Call) (σ:St) (dst:Option Tmp) (next:St->Prop):Prop:=∃ y,Dh P G σ c y/\next ⟨aN σ.env dst (.d y),σ.H⟩
def uu (P:Program) (T:Ty) (Mv X:Nat->Prop) (G:aB) (N:Fr) (o:Oper) (σ:St) (next:St->Prop):Prop:=match eD o.op with
 | some c=>match kV G σ.env c with
  | some (g,xs)=>cZ P Mv X G N g xs σ o.dst next
  | none=>False
 | none=>(∀ r∈I9 G o σ,Mv r)/\rY T G Mv o (CF G o σ) next
def lp (P:Program) (T:Ty) (Mv X:Nat->Prop) (G:aB) (N:Fr) (ops:Array Oper) (K:St->Prop):List Oper->St->Prop
 | [],σ=>K σ
 | o :: rest,σ=>fb N o/\match jx ops σ.env o with
  | some b=>if b=true then uu P T Mv X G N o σ (lp P T Mv X G N ops K rest) else lp P T Mv X G N ops K rest ⟨aN σ.env o.dst dI,σ.H⟩
  | none=>False
def qs (P:Program) (T:Ty) (Mv:Nat->Prop) (G:aB) (N:Fr) (ops:Array Oper) (K:St->Prop):List Oper->St->Prop
 | [],σ=>K σ
 | o :: rest,σ=>fb N o/\match jx ops σ.env o with
  | some b=>if b=true then (match eD o.op with
    | some c=>nj P G c σ o.dst (qs P T Mv G N ops K rest)
    | none=>rY T G Mv o σ (qs P T Mv G N ops K rest)) else qs P T Mv G N ops K rest ⟨aN σ.env o.dst dI,σ.H⟩
  | none=>False
section
variable {P:Program} {T:Ty} {Mv X:Nat->Prop} {G:aB} {N:Fr} {w:World} {μ:Mu} {a:Act} {σ:St}
theorem Xx {ops:Array Oper} {K:St->Prop}:∀ (l:List Oper),qs P T Mv G N ops K l=yB P T Mv G N ops K l
 | []=>rfl
 | o :: l=>by
  funext σ;simp only[qs,yB,nj,Xx l]
  all_goals rfl
theorem aL.tp:∀ (l:List Nat) {σ:St},(∀ r∈l,Mv r)->aL Mv X G N σ (Go.Av.tp l σ)
 | [],σ,_=>.refl σ
 | r :: l,_,hm=>(aL.zc r (hm r ak)).trans (aL.tp l fun q hq=>hm q (by simp[hq]))
theorem aL.CF (o:Oper) (hm:∀ r∈I9 G o σ,Mv r):aL Mv X G N σ (Go.Av.CF G o σ):=by
 unfold Go.Av.CF;unfold I9 at hm;split
 .rename_i ho;simp only[ho]at hm;split
  .rename_i hp;simp only[hp]at hm;exact .tp _ hm
  .exact .refl σ
 .rename_i ho;simp only[ho]at hm;split
  .rename_i hp;simp only[hp]at hm;exact .tp _ hm
  .exact .refl σ
 .rename_i ho;simp only[ho]at hm;split
  .rename_i hp;simp only[hp]at hm;exact .tp _ hm
  .exact .refl σ
 .exact .refl σ
theorem GF (hg:Good P T) (hi:In w X G μ N a σ) {o:Oper} {K:St->Prop} (hd:∀ d,o.dst=some d->d < N.n) (h:uu P T Mv X G N o σ K) {Q:Exit->Act->World->Prop} {next:Act->World->Prop}
  (hk:∀ w' aI a' aH,K aH->In w' X G aI N a' aH->Ev Mv w μ w' aI->next a' w'):o.wpIn (wd N.ro) 0 P a w next Q:=by
 unfold uu at h;split at h
 .rename_i c hc;refine Du (Mv:=Mv) hg hi hd ?_ hk;unfold nR;rw[hc];dsimp only;split at h
  .rename_i ht;rw[ht];exact h
  .exact h.elim
 .rename_i hc;obtain⟨mY,fV,th⟩:=aL.CF (Mv:=Mv) (X:=X) o h.1 w μ a hi;refine Du (Mv:=Mv) hg fV (K:=K) hd ?_ fun w' aI a' aH k aR bd=>hk w' aI a' aH k aR (th.trans bd);unfold nR;rw[hc];exact h.2
theorem ajx (hg:Good P T) {ops:Array Oper} {Q:Exit->St->Prop} {w0:World} {lY:Mu}:∀ (l:List Oper) (k:Nat) (w:World) (μ:Mu) (a:Act) (σ:St),(∀ j,l[j]? = ops[k+j]?)->lp P T Mv X G N ops (fun aH=>Q .normal aH) l σ->In w X G μ N a σ->Ev Mv w0 lY w μ->
  wpOpsIn (wd N.ro) 0 P ops (After Mv X G N w0 lY Q) (List.range' k l.length) a w:=by
 intro l
 induction l with
 | nil=>intro k w μ a σ _ h hi bd;exact⟨μ,σ,h,hi,bd⟩
 | cons o l ih=>
  intro k w μ a σ hl h hi bd
  have h0:ops[k]? = some o:=by simpa using (hl 0).symm
  have fh:∀ j,l[j]? = ops[k+1+j]?:=fun j=>by have:=hl (j+1);simpa[am6,anN 1 j]using this
  obtain⟨hd,h⟩:=h
  have fU:∀ d,o.dst=some d->d < N.n:=fun d e=>by unfold fb at hd;rw[e]at hd;exact hd
  rw[amo,an4];simp only[wpOpsIn,h0];split at h
  .rename_i b hb;rw[u7 hi hb];split at h
   .rename_i rC;subst rC;rw[if_pos rfl];exact (GF hg hi fU h fun w' aI a' aH k' aR nu=>ih (k+1) w' aI a' aH fh k' aR (bd.trans nu))
   .rename_i nt;rw[if_neg (by simpa using nt)];exact⟨fun _ _=>trivial,ih (k+1) w μ _ _ fh h (hi.put (.d (.v _)) fU) bd⟩
  .exact h.elim
theorem P6 (hg:Good P T) {id:Nat} {ops:Array Oper} {Q:Exit->St->Prop} (h:lp P T Mv X G N ops (fun aH=>Q .normal aH) ops.toList σ):AW P Mv X G N (.region id ops false) Q σ:=fun w μ a hi=>by
 refine wpIn_region ?_;have:=ajx hg ops.toList 0 w μ a σ ak h hi (.refl _ w μ)
 rwa [<- anU,amK]at this
theorem P5 (hg:Good P T) (hm:P.follows .mixedOrders=true) {id:Nat} {ops:Array Oper} (cf:sR ops=true) {Q:Exit->St->Prop} (h:qs P T Mv G N ops (fun aH=>Q .normal aH) ops.toList σ):AW P Mv X G N (.region id ops true) Q σ:=by
 rw[Xx]at h;exact Yq hg hm cf h
theorem AW.norm (l ns:List Nat) (hM:∀ r,ns.contains r=false->Mv r) {c:Code} {Q:Exit->St->Prop} (h:AW P Mv X G N c Q (σ.norm l ns)):AW P Mv X G N c Q σ:=AW.imp (aL.norm l ns hM) h
theorem AW.st {τ:St} {c:Code} {Q:Exit->St->Prop} (h:σ=τ) (h':AW P Mv X G N c Q τ):AW P Mv X G N c Q σ:=h ▸ h'
theorem AW.Fe (i:Nat) {e:Env} {H:Heap} {els:List (List D)} {c:Code} {Q:Exit->St->Prop} (he:e i=some (.d (.sl none els))) (h1:AW P Mv X G N c Q ⟨iz e i (.d (.sl (some true) els)),H⟩)
  (h2:els=[]->AW P Mv X G N c Q ⟨iz e i (.d (.sl (some false) [])),H⟩):AW P Mv X G N c Q ⟨e,H⟩:=fun w μ a hi=>by
 obtain⟨u,hu,hr⟩:=hi.env.slot i _ he
 have put:∀ {y:D},RD w (XX X μ) u y->In w X G μ N a ⟨iz e i (.d y),H⟩:=fun hy=>⟨hi.bx,⟨hi.env.defers,hi.env.size,fun j x hx=>by
  simp only[iz]at hx;split at hx
  .rename_i hj;subst hj;obtain rfl:=AI hx;exact⟨u,hu,.d hy⟩
  .exact hi.env.slot j x hx⟩,hi.jA⟩
 have hd:=hr.data;generalize hy:D.sl none els=y at hd
 cases hd with
 | nil hk=>cases hy;exact h2 rfl w μ a (put (.nil ak))
 | empty hk hm=>cases hy;exact h1 w μ a (put (.empty ak hm))
 | sl a1 a2 a3 a4 a5 a6 a7 a8 a9 YE=>cases hy;exact h1 w μ a (put (.sl ak a2 a3 a4 a5 a6 a7 a8 a9 YE))
 | _=>cases hy
theorem Yr (hg:Good P T) (l ns:List Nat) (hM:∀ r,ns.contains r=false->Mv r) {id:Nat} {ops:Array Oper} {y:Code} {Q:Exit->St->Prop} (h:∀ K:St->Prop,(∀ τ:St,AW P Mv X G N y Q (τ.norm l ns)->K τ)->lp P T Mv X G N ops K ops.toList σ):AW P Mv X G N (.seq (.region id ops false) y) Q σ:=
 tZ (P6 hg (h _ fun _ h=>h.norm l ns hM))
theorem rg {P:Program} {Mv X:Nat->Prop} {G:aB} {N:Fr} {σ:St} (l ns:List Nat) (hM:∀ r,ns.contains r=false->Mv r) {id:Nat} {ops:Array Oper} {y:Code} {Q:Exit->St->Prop} (h:∀ K:St->Prop,(∀ τ:St,AW P Mv X G N y Q (τ.norm l ns)->K τ)->lp P (cT P) Mv X G N ops K ops.toList σ):AW P Mv X G N (.seq (.region id ops false) y) Q σ:=Yr (ay _) l ns hM h
theorem tX (hg:Good P T) (hm:P.follows .mixedOrders=true) (l ns:List Nat) (hM:∀ r,ns.contains r=false->Mv r) {id:Nat} {ops:Array Oper} (cf:sR ops=true) {y:Code} {Q:Exit->St->Prop} (h:∀ K:St->Prop,(∀ τ:St,AW P Mv X G N y Q (τ.norm l ns)->K τ)->qs P T Mv G N ops K ops.toList σ):AW P Mv X G N (.seq (.region id ops true) y) Q σ:=
 tZ (P5 hg hm cf (h _ fun _ h=>h.norm l ns hM))
theorem fD (hg:Good P T) {id:Nat} {ops:Array Oper} {Q:Exit->St->Prop} (h:∀ K:St->Prop,(∀ τ:St,Q .normal τ->K τ)->lp P T Mv X G N ops K ops.toList σ):AW P Mv X G N (.region id ops false) Q σ:=
 P6 hg (h _ fun _ h=>h)
theorem yK (hg:Good P T) (hm:P.follows .mixedOrders=true) {id:Nat} {ops:Array Oper} (cf:sR ops=true) {Q:Exit->St->Prop} (h:∀ K:St->Prop,(∀ τ:St,Q .normal τ->K τ)->qs P T Mv G N ops K ops.toList σ):AW P Mv X G N (.region id ops true) Q σ:=
 P5 hg hm cf (h _ fun _ h=>h)
def Jm (T:Ty) (σ:St):ResultVar->lN
 | .tmp t=>(σ.env t).map fun x=>(True,x)
 | .cell a t=>(σ.env a).bind (pH T σ.H t)
def ym (T:Ty) (σ:St):List ResultVar->Option (Prop×List AV)
 | []=>some (True,[])
 | r :: l=>match Jm T σ r,ym T σ l with
  | some (c,x),some (c',xs)=>some (c/\c',x :: xs)
  | _,_=>none
def oneOf:List AV->AV
 | [x]=>x
 | l=>E6 l
def D.le:D->D->Prop
 | .sl k els,.sl k' pX=>(k'=none\/k=k')/\els=pX
 | .bz l,.bz l'=>go l l'
 | .agg l,.agg l'=>go l l'
 | .ip l,.ip l'=>go l l'
 | .cC t x,.cC t' x'=>t=t'/\x.le x'
 | .fn f l,.fn f' l'=>f=f'/\go l l'
 | .dm x l,.dm x' l'=>(x'=true->x=true/\l=l')/\l.Perm l'
 | x,y=>x=y
where
 go:List D->List D->Prop
 | [],[]=>True
 | x :: l,y :: l'=>x.le y/\go l l'
 | _,_=>False
def Bh (T:Ty) (rs:List ResultVar) (y:D) (σ:St):Prop:=match ym T σ rs with
 | some (c,xs)=>c/\match gG σ.H 6 (oneOf xs) with
  | some y'=>y'.le y
  | none=>False
 | none=>False
def Kh (T:Ty) (rs:List ResultVar) (y:D):Exit->St->Prop
 | .normal,σ | .ret,σ=>Bh T rs y σ
 | _,_=>False
theorem D.Af:∀ {l l':List D},D.le.go l l'->l.length=l'.length/\∀ (j:Nat) (x y:D),l[j]? = some x->l'[j]? = some y->x.le y
 | [],[],_=>⟨rfl,ak⟩
 | x :: l,y :: l',h=>by
  simp only[D.le.go]at h;obtain⟨h1,h2⟩:=D.Af h.2;refine⟨by simp[h1],fun j a b ha hb=>?_⟩
  cases j with
  | zero=>simp at ha hb;subst ha hb;exact h.1
  | succ j=>simp at ha hb;exact h2 j a b ha hb
 | [],_ :: _,h=>by simp only[D.le.go]at h
 | _ :: _,[],h=>by simp only[D.le.go]at h
theorem D.EU {l l':List D} (hg:D.le.go l l') {j:Nat} {c:D} (hc:l'[j]? = some c):∃ x,l[j]? = some x/\x.le c:=by
 obtain⟨hl,hh⟩:=D.Af hg;have hj:=(BY.1 hc).1
 have dG:j < l.length:=aa
 exact⟨l[j],by simp[dG],hh j _ c (by simp[dG]) hc⟩
theorem RD.le {w:World} {X:Nat->Prop} {u:Value} {x:D} (hr:RD w X u x):∀ {y:D},x.le y->RD w X u y:=by
 induction hr with
 | v x=>intro y h;cases y<;>simp only[D.le,reduceCtorEq]at h;exact h ▸ .v x
 | nil hk=>
  intro y h;cases y<;>simp only[D.le,reduceCtorEq]at h;obtain⟨h1 | h1,rfl⟩:=h
  .exact .nil (by simp[h1])
  .exact .nil (h1 ▸ hk)
 | empty hk hm=>
  intro y h;cases y<;>simp only[D.le,reduceCtorEq]at h;obtain⟨h1 | h1,rfl⟩:=h
  .exact .empty (by simp[h1]) hm
  .exact .empty (h1 ▸ hk) hm
 | sl h1 h2 h3 h4 h5 h6 h7 h8 h9 G0=>
  intro y h;cases y<;>simp only[D.le,reduceCtorEq]at h;obtain⟨e1 | e1,rfl⟩:=h
  .exact .sl (by simp[e1]) h2 h3 h4 h5 h6 h7 h8 h9 G0
  .exact .sl (e1 ▸ h1) h2 h3 h4 h5 h6 h7 h8 h9 G0
 | ip hX hb fJ hr ih=>
  intro y h;cases y<;>simp only[D.le,reduceCtorEq]at h;obtain⟨hl,_⟩:=D.Af h;refine .ip hX hb (fun j hj=>fJ j aa) fun j c hc=>?_;obtain⟨x,hx,hle⟩:=D.EU h hc;exact ih j x hx hle
 | agg hn hr ih=>
  intro y h;cases y<;>simp only[D.le,reduceCtorEq]at h;obtain⟨hl,_⟩:=D.Af h;refine .agg aa fun j u c hu hc=>?_;obtain⟨x,hx,hle⟩:=D.EU h hc;exact ih j u x hu hx hle
 | bz hn hr ih=>
  intro y h;cases y<;>simp only[D.le,reduceCtorEq]at h;obtain⟨hl,_⟩:=D.Af h;refine .bz aa fun j u c hu hc=>?_;obtain⟨x,hx,hle⟩:=D.EU h hc;exact ih j u x hu hx hle
 | cC hr ih=>
  intro y h;cases y<;>simp only[D.le,reduceCtorEq]at h;obtain⟨rfl,h⟩:=h;exact .cC (ih h)
 | ra hX hh=>
  intro y h;cases y<;>simp only[D.le,reduceCtorEq]at h;injection h with h;exact h ▸ .ra hX hh
 | dm hX hh hp hx=>
  intro y h;cases y<;>simp only[D.le,reduceCtorEq]at h;exact .dm hX hh (hp.trans h.2) fun e=>(hx (h.1 e).1).trans (h.1 e).2
 | fn hn hr ih=>
  intro y h;cases y<;>simp only[D.le,reduceCtorEq]at h;obtain⟨rfl,h⟩:=h;obtain⟨hl,_⟩:=D.Af h;refine .fn aa fun j u c hu hc=>?_;obtain⟨x,hx,hle⟩:=D.EU h hc;exact ih j u x hu hx hle
theorem aD.wV {g:FuncId} {ds jd:List D} {y:D} (hc:aD P G g ds y) (h:D.le.go jd ds):aD P G g jd y:=by
 refine⟨hc.1,fun X w μ vs hs cW hn hv=>hc.2 X w μ vs hs cW (by simpa[(D.Af h).1]using hn) fun i u x hu hx=>?_⟩;rw[amm]at hx;obtain⟨d,hd,rfl⟩:=AS.1 hx;obtain⟨x,hx,hle⟩:=D.EU h hd;exact .d ((hv i u (.d x) hu (by rw[amm,hx];rfl)).data.le hle)
theorem cZ.data {g:FuncId} {xs:List AV} {ds jd:List D} {y:D} {dst:Option Tmp} {next:St->Prop} (hc:aD P G g ds y) (hx:nd xs=some jd) (hle:D.le.go jd ds) (h:next ⟨aN σ.env dst (.d y),σ.H⟩):cZ P Mv X G N g xs σ dst next:=by
 unfold cZ;rw[r8 hx];exact np.pure (hc.wV hle) h
theorem yt {g:FuncId} {xs:List AV} {ds jd:List D} {y:D} {dst:Option Tmp} {next:St->Prop} (hc:aD P G g ds y) (hx:nd xs=some jd) (h:next ⟨aN σ.env dst (.d y),σ.H⟩) (hle:D.le.go jd ds:=by first | exact D.bC _ | simp[aP,amk,amc,D.le,D.le.go,D.le_refl,D.bC]):cZ P Mv X G N g xs σ dst next:=cZ.data hc hx hle h
theorem cZ.rT {g:FuncId} {xs:List AV} {ds jd:List D} {y:D} {dst:Option Tmp} {next:St->Prop} (hc:aD P G g ds y) (hx:ng (gG σ.H 4) xs=some jd) (hle:D.le.go jd ds) (hy:y.scalar=true) (h:next ⟨aN σ.env dst (.d y),σ.H⟩):cZ P Mv X G N g xs σ dst next:=
 np.rT hx (hc.wV hle) hy h
theorem nj.data {c:Call} {g:FuncId} {xs:List AV} {ds jd:List D} {y:D} {dst:Option Tmp} {next:St->Prop} (hc:aD P G g ds y) (ht:kV G σ.env c=some (g,xs)) (hx:nd xs=some jd) (hle:D.le.go jd ds) (h:next ⟨aN σ.env dst (.d y),σ.H⟩):nj P G c σ dst next:=
 ⟨y,⟨g,xs,ht,.inl ⟨jd,r8 hx,hc.wV hle⟩⟩,h⟩
theorem Qk (H:Heap) (k:Nat):∀ (ds:List D),ng (gG H k) (ds.map .d)=some ds
 | []=>rfl
 | d :: ds=>by simp[ng,Qk H k ds];cases k<;>simp[gG]
theorem D.le_refl (x:D):x.le x:=by
 have key:∀ n,∀ x:D,SizeOf.sizeOf x < n->x.le x:=by
  intro n
  induction n with
  | zero=>intro x h;omega
  | succ n ih=>
   intro x h
   have go:∀ l:List D,SizeOf.sizeOf l < n->D.le.go l l:=by
    intro l
    induction l with
    | nil=>intro _;simp[D.le.go]
    | cons y l EP=>
     intro hl;simp only[List.cons.sizeOf_spec]at hl;exact⟨ih y aa,EP aa⟩
   cases x<;>simp only[D.le]<;>simp at h ⊢
   .exact go _ aa
   .exact go _ aa
   .exact go _ aa
   .exact ih _ aa
   .exact go _ aa
 exact key _ x (Nat.lt_succ_self _)
theorem D.bC:∀ l:List D,D.le.go l l
 | []=>trivial
 | x :: l=>⟨D.le_refl x,D.bC l⟩
theorem aim (hg:Good P T) (hi:In w X G μ N a σ) {r:ResultVar} {c:Prop} {x:AV} (h:Jm T σ r=some (c,x)) (hc:c) :
  ∃ v,(match r with | .tmp t=>(pure (a.tmps.getD t undef):Sem Value) | .cell b t=>do loadVar t (<- asAddr (a.tmps.getD b undef))).run P w = .ok v w/\RV w X μ v x:=by
 cases r with
 | tmp t=>
  simp only[Jm,AS,amj]at h;obtain⟨y,hy,_,rfl⟩:=h;obtain⟨u,hu,hr⟩:=hi.env.slot t y hy;exact⟨u,by simp[amg,hu],hr⟩
 | cell b t=>
  obtain⟨y,hy,hl⟩:=amy.1 h;obtain⟨u,hu,hr⟩:=hi.env.slot b y hy;obtain⟨v,hv,iu⟩:=UO (P:=P) hg hi.bx hl hc hr;refine⟨v,?_,iu⟩
  have e:a.tmps.getD b undef=u:=by simp[amg,hu]
  dsimp only;rw[e];unfold pH at hl;split at hl
  .obtain⟨b,off,f,rfl,_⟩:=hr.data.sO;simpa[Instr.loadAt,Instr.sureAddr,asAddr]using hv
  .obtain⟨m,b,hm,hb,rfl⟩:=hr.mo;simpa[Instr.loadAt,Instr.sureAddr,asAddr]using hv
  .cases hl
theorem aik (hg:Good P T) (hi:In w X G μ N a σ):∀ {rs:List ResultVar} {c:Prop} {xs:List AV},ym T σ rs=some (c,xs)->c->
  ∃ vs:List Value,(rs.mapM (m:=Sem) fun | .tmp t=>pure (a.tmps.getD t undef) | .cell b t=>do loadVar t (<- asAddr (a.tmps.getD b undef))).run P w = .ok vs w/\vs.length=xs.length/\∀ (j:Nat) (u:Value) (x:AV),vs[j]? = some u->xs[j]? = some x->RV w X μ u x:=by
 intro rs
 induction rs with
 | nil=>
  intro c xs h hc;simp only[ym,IT,amj]at h;obtain⟨_,rfl⟩:=h;exact⟨[],ak,rfl,ak⟩
 | cons r rs ih=>
  intro c xs h hc;simp only[ym]at h;split at h
  .rename_i c1 x c2 X7 h1 h2;obtain⟨rfl,rfl⟩:=eN h;obtain⟨v,hv,hr⟩:=aim (P:=P) hg hi h1 hc.1;obtain⟨vs,Nq,hl,nE⟩:=ih h2 hc.2;refine⟨v :: vs,?_,by simp[hl],fun j u x hu hx=>?_⟩
   .rw[List.mapM_cons,Sem.run_bind,hv,Result.andThen_ok,Sem.run_bind,Nq,Result.andThen_ok,Sem.run_pure]
   .cases j with
    | zero=>simp at hu hx;subst hu hx;exact hr
    | succ j=>simp at hu hx;exact nE j u x hu hx
  .cases h
theorem OY (hg:Good P T) (hi:In w X G μ N a σ) {fn:Func} {rs:List ResultVar} (nE:fn.results=rs.toArray) {c:Prop} {xs:List AV} (h:ym T σ rs=some (c,xs)) (hc:c) :
  ∃ v,(results fn a.tmps).run P w = .ok v w/\RV w X μ v (oneOf xs):=by
 obtain⟨vs,Nq,hl,hr⟩:=aik (P:=P) hg hi h hc;refine⟨if h:vs.toArray.size=1 then vs.toArray[0] else .tuple vs.toArray,?_,?_⟩
 .unfold results;rw[nE,Array.mapM_eq_mapM_toList,Sem.run_bind];simp only[map_eq_pure_bind,Sem.run_bind]
  erw[Nq]
  rfl
 .match xs,vs,hl,hr with
  | [],[],_,hr=>exact IF (l:=[]) (.bz (arr:=#[]) (cells:=[]) rfl ak)
  | [x],[v],_,hr=>exact hr 0 v x rfl rfl
  | x :: y :: xs,v :: u :: vs,hl,hr=>
   have:¬ (v :: u :: vs).toArray.size=1:=ak
   rw[dif_neg this];exact IF (.bz (by simpa using hl) fun j u c hu hc=>hr j u c (by simpa using hu) hc)
theorem aD.aO (hg:Good P T) {g:FuncId} {fn:Func} {c:Code} {rs:List ResultVar} {ds:List D} {y:D} (hf:P.funcs[g]? = some fn) (hb:fn.body=some c) (hn:(fn.name == "runtime.NumGoroutine")=false) (nE:fn.results=rs.toArray)
  (hN:ds.length<=fn.ntmps) (h:∀ X,AW P (fun _=>True) X G ⟨fn.ntmps,[],none⟩ c (Kh T rs y) ⟨args (ds.map .d),ji⟩):aD P G g ds y:=by
 refine⟨iV.of hf hb hn,fun X w μ vs hs cW bp hv=>?_⟩
 have fin:∀ (w':World) (aI:Mu) (a':Act) (aH:St),Bh T rs y aH->In w' X G aI ⟨fn.ntmps,[],none⟩ a' aH->Ev (fun _=>True) w μ w' aI->∃ v,(results fn a'.tmps).run P w' = .ok v w'/\∃ v_1 x H' aI,Ending.returned v=Ending.returned v_1/\(x = .d y/\H'=ji)/\RV w' X aI v_1 x/\eT w' X aI H'/\Ev (fun _=>True) w μ w' aI:=by
  intro w' aI a' aH he hi bd;unfold Bh at he;split at he
  .rename_i c xs hx;obtain⟨hc,he⟩:=he;split at he
   .rename_i y' hy;obtain⟨v,hv,hr⟩:=OY (P:=P) hg hi nE hx hc;have bQ:=(F8 hi.bx 6 hy hr).le he;refine⟨v,hv,v,.d y,ji,fun _=>none,rfl,⟨rfl,rfl⟩,.d (bQ.sub fun b=>qv.1),eT.none hi.bx.fits,bd.size,bd.os,bd.tape,bd.output,fun b hb hr=>⟨(bd.same b hb hr).1,fun ⟨_,_,h,_⟩=>by cases h⟩,fun r m _ hn=>absurd trivial hn⟩
   .exact he.elim
  .exact he.elim
 refine calls_of_wp hf hb ((wpIn_wide (n:=0)).1 (wpIn_mono (h X w μ _ ⟨hs,⟨rfl,by simp;simp at bp;omega,fun i x hx=>?_⟩,cW⟩) fun e a' w' ⟨aI,aH,q,i,ev⟩=>?_))
 .simp only[args]at hx;have hi:i < (ds.map AV.d).length:=(BY.1 hx).1
  have xS:vs[i]? = some vs[i]:=by rw[amA]
  exact⟨vs[i],by rw[amY aa,xS],hv i _ x xS hx⟩
 .cases e with
  | normal=>
   obtain⟨v,hv,rest⟩:=fin w' aI a' aH q i ev;exact⟨i.env.defers,v,hv,rest⟩
  | ret=>
   obtain⟨v,hv,rest⟩:=fin w' aI a' aH q i ev;exact⟨i.env.defers,v,hv,rest⟩
  | _=>exact q.elim
end
end Go.Av
namespace Go.Av
section
variable {P:Program} {T:Ty} {Mv X:Nat->Prop} {G:aB} {N:Fr} {ops:Array Oper}
def A4 (o:Oper):Option (Operand×Operand):=match o.op with
 | .call { callee:=.builtin .append,args,argTypes }=>match args.toList,argTypes.toList with
  | [x,y],[t,t']=>if t=t' then some (x,y) else none
  | _,_=>none
 | _=>none
def F7 (T:Ty) (Mv:Nat->Prop) (o:Oper) (r off n ty sz:Nat) (els news:List (List D)):Option (Prop×Nat×Row):=match o.op,o.dst with
 | .call { callee:=.builtin .append,args,argTypes },some _=>match args.toList,argTypes.toList with
  | [_,_],[t,t']=>if t=t' then match T t with
   | some tt=>match tt.desc with
    | .slice e=>match T e with
     | some te=>some (off=0/\Mv r/\ty=e/\sz=te.size/\n<=els.length/\(∀ el∈news,el.length=te.size)/\(∀ el∈news,∀ c∈el,D.one c=true)/\0 < te.size/\(gL te.zero).length=te.size/\n+news.length<=9223372036854775807/\(n+news.length) * te.bytes<=140737488355328,
       n+news.length,.sl e te.size (els.take n ++ news))
     | none=>none
    | _=>none
   | none=>none
  else none
  | _,_=>none
 | _,_=>none
def vD (s:Nat):AV->Prop
 | .own q _ _=>q=s
 | _=>True
def lr (T:Ty) (G:aB) (Mv:Nat->Prop) (o:Oper) (e:Env) (H:Heap) (r s m:Nat) (row:Row):Prop:=
 ∃ x y off n v ty sz els news c,A4 o=some (x,y)/\bJ G e x=some (.own r off n)/\bJ G e y=some v/\vD s v/\H r=some (.sl ty sz els)/\nI H r v=some news/\F7 T Mv o r off n ty sz els news=some (c,m,row)/\c
theorem Kc {o:Oper} {x y:Operand} (h:A4 o=some (x,y)):∃ t t',o.op = .call { callee:=.builtin .append,args:=#[x,y],argTypes:=#[t,t'] }/\t=t':=by
 unfold A4 at h;split at h
 .rename_i args argTypes j9;split at h
  .rename_i x' y' t t' ha ht;split at h
   .rename_i dP;obtain⟨rfl,rfl⟩:=eN h;have e1:args = #[x',y']:=amX.1 ha;have e2:argTypes = #[t,t']:=amX.1 ht;exact⟨t,t',by rw[j9,e1,e2],dP⟩
   .cases h
  .cases h
 .cases h
theorem lr.row {o:Oper} {e:Env} {H:Heap} {r s m:Nat} {row:Row} (h:lr T G Mv o e H r s m row):(∃ ty sz els,row = .sl ty sz els)/\(∃ ty sz els,H r=some (.sl ty sz els))/\(∃ d,o.dst=some d):=by
 obtain⟨x,y,off,n,v,ty,sz,els,news,c,h1,h2,h3,h4,h5,h6,h7,h8⟩:=h;unfold F7 at h7
 repeat' split at h7
 all_goals first
  | cases h7;done
  | (simp only [IT, amj] at h7
     obtain⟨_,_,rfl⟩:=h7
     exact⟨⟨_,_,_,rfl⟩,⟨_,_,_,h5⟩,⟨_,by assumption⟩⟩)
theorem lr.to {o:Oper} {e:Env} {H:Heap} {r s m:Nat} {row:Row} (h:lr T G Mv o e H r s m row):po P T Mv G o ⟨e,H⟩ ⟨aN (eJ r e) o.dst (.own r 0 m),bk (eK r H) r row⟩:=by
 obtain⟨x,y,off,n,v,ty,sz,els,news,c,h1,h2,h3,h4,h5,h6,h7,h8⟩:=h;obtain⟨t,t',j9,HZ⟩:=Kc h1;obtain⟨dst,op,type,pos,after,guard⟩:=o;dsimp only at j9;subst j9;unfold po;simp only[eD,ic,if_true];unfold F7 at h7;dsimp only at h7
 cases dst with
 | none=>cases h7
 | some d=>
  simp only[List.toList_toArray]at h7;refine⟨c,.own r 0 m,⟨eJ r e,bk (eK r H) r row⟩,?_,h8,rfl⟩;unfold wr;dsimp only;subst HZ;rw[if_pos rfl]at h7;split at h7
  .rename_i tt hT;split at h7
   .rename_i GA hd;split at h7
    .rename_i te c8;obtain⟨rfl,rfl,rfl⟩:=nL h7;simp[hT,hd,c8,h2,h3,h5,h6]
    .cases h7
   .cases h7
  .cases h7
theorem lr.of {o:Oper} {e:Env} {H:Heap} {r s off n:Nat} {x y:Operand} {v:AV} {c:Prop} {z:AV} {ba:St} (ho:A4 o=some (x,y)) (hx:bJ G e x=some (.own r off n)) (hy:bJ G e y=some v) (hs:vD s v) (h:wr T G Mv ⟨e,H⟩ o=some (c,z,ba)) (hc:c) :
  ∃ m row,lr T G Mv o e H r s m row/\z = .own r 0 m/\ba=⟨eJ r e,bk (eK r H) r row⟩:=by
 obtain⟨t,t',j9,HZ⟩:=Kc ho;obtain⟨dst,op,type,pos,after,guard⟩:=o;dsimp only at j9;subst j9;unfold wr at h;dsimp only at h
 cases dst with
 | none=>cases h
 | some d=>
  dsimp only at h;split at h
  .rename_i dP;subst dP
   cases hT:T t with
   | none=>simp[hT]at h
   | some tt=>
    simp only[hT]at h;split at h
    .rename_i GA hd
     cases c8:T GA with
     | none=>simp[c8]at h
     | some te=>
      simp only[c8,hx,hy]at h;split at h
      .rename_i ty sz els news h1 h2;obtain⟨rfl,rfl,rfl⟩:=nL h;exact⟨_,_,⟨x,y,off,n,v,ty,sz,els,news,_,ho,hx,hy,hs,h1,h2,by simp[F7,hT,hd,c8],hc⟩,rfl,rfl⟩
      .cases h
    .cases h
  .rename_i bq;exact absurd HZ bq
theorem Vi {H H2:Heap} {r s:Nat} {v:AV} (hs:vD s v) (hH:H2 s=H s):nI H2 r v=nI H r v:=by
 cases v with
 | own q off n=>
  simp only[vD]at hs;subst hs;simp only[nI,hH]
 | d x=>cases x<;>rfl
 | _=>rfl
theorem lr.congr {o:Oper} {e e2:Env} {H H2:Heap} {r s m:Nat} {row:Row} (h:lr T G Mv o e H r s m row) (ha:gU o.op e e2) (hr:H2 r=H r) (hs:H2 s=H s):lr T G Mv o e2 H2 r s m row:=by
 obtain⟨x,y,off,n,v,ty,sz,els,news,c,h1,h2,h3,h4,h5,h6,h7,h8⟩:=h;obtain⟨t,t',j9,HZ⟩:=Kc h1;have hx:∀ t,x = .tmp t->e t=e2 t:=fun t ht=>ha t (by rw[j9];simp[Op.operands,Call.operands,ht]);have hy:∀ t,y = .tmp t->e t=e2 t:=fun t ht=>ha t (by rw[j9];simp[Op.operands,Call.operands,ht]);exact⟨x,y,off,n,v,ty,sz,els,news,c,h1,by rw[<- fE hx];exact h2,by rw[<- fE hy];exact h3,h4,by rw[hr];exact h5,by rw[Vi h4 hs];exact h6,h7,h8⟩
theorem AV.Iq (r r':Nat) (x:AV):(x.kill r).kill r'=(x.kill r').kill r:=by
 have key:∀ n,∀ x:AV,SizeOf.sizeOf x < n->(x.kill r).kill r'=(x.kill r').kill r:=by
  intro n
  induction n with
  | zero=>intro x h;omega
  | succ n ih=>
   intro x h
   have go:∀ l:List AV,SizeOf.sizeOf l < n->(l.map (AV.kill r)).map (AV.kill r')=(l.map (AV.kill r')).map (AV.kill r):=by
    intro l
    induction l with
    | nil=>intro _;rfl
    | cons y l EP=>
     intro hl;simp only[List.cons.sizeOf_spec]at hl;simp only[amE,anV];exact⟨ih y aa,EP aa⟩
   cases x with
   | d x=>simp[AV.kill]
   | own q off n=>by_cases h1:q=r<;>by_cases h2:q=r'<;>simp[AV.kill,h1,h2]<;>(try (by_cases h3:r=r'<;>simp[AV.kill,h3]))<;>(try simp_all [AV.kill])
   | ref q e j=>by_cases h1:q=r<;>by_cases h2:q=r'<;>simp[AV.kill,h1,h2]<;>(try (by_cases h3:r=r'<;>simp[AV.kill,h3]))<;>(try simp_all [AV.kill])
   | agg cells=>simp at h;simp only[AV.kill,AV.go_eq];rw[go cells aa]
   | bz cells=>simp at h;simp only[AV.kill,AV.go_eq];rw[go cells aa]
   | cC t x=>simp at h;simp only[AV.kill];rw[ih x aa]
   | bm t x=>simp at h;simp only[AV.kill];rw[ih x aa]
   | fn f cells=>simp at h;simp only[AV.kill,AV.go_eq];rw[go cells aa]
   | mp q=>by_cases h1:q=r<;>by_cases h2:q=r'<;>simp[AV.kill,h1,h2]<;>(try (by_cases h3:r=r'<;>simp[AV.kill,h3]))<;>(try simp_all [AV.kill])
   | dead=>simp[AV.kill]
 exact key _ x (Nat.lt_succ_self _)
theorem adJ (r r':Nat) (e:Env):eJ r' (eJ r e)=eJ r (eJ r' e):=by
 funext i;simp only[eJ,Option.map_map];congr 1;funext x;exact AV.Iq r r' x
theorem Row.Iq (r r':Nat) (x:Row):(x.kill r).kill r'=(x.kill r').kill r:=by
 cases x with
 | sl ty sz els=>rfl
 | mp ty ents=>rfl
 | it ents seen=>rfl
 | box ty cells=>
  simp only[Row.kill,amk];congr 1;apply List.map_congr_left;intro x _;exact AV.Iq r r' x
theorem adM (r r':Nat) (H:Heap):eK r' (eK r H)=eK r (eK r' H):=by
 funext i;simp only[eK,Option.map_map];congr 1;funext x;exact Row.Iq r r' x
theorem Io (r:Nat) (e:Env) (d:Option Tmp) (x:AV):eJ r (aN e d x)=aN (eJ r e) d (x.kill r):=by
 cases d with
 | none=>rfl
 | some d=>funext i;simp only[eJ,aN,iz];split<;>rfl
def J4 (r:Nat) (o:Oper) (e:Env) (x:AV):Prop:=gU o.op e (eJ r e)/\x.kill r=x
theorem lM {o:Oper} {e:Env} (h:o.guard=none):jx ops e o=some true:=by simp[jx,h]
theorem aeW {r:Nat} {l:List AV} (h:(rU l).kill r=rU l):rU (l.map (AV.kill r))=rU l:=by
 unfold rU at h ⊢;split at h
 .rename_i ds hd;rw[r8 hd]
  have:(ds.map AV.d).map (AV.kill r)=ds.map AV.d:=by simp[amk,amc,AV.kill]
  rw[this,Ka]
 .rename_i hd;simp only[AV.kill,AV.go_eq,AV.agg.injEq]at h;rw[h,hd]
theorem Y1 {r:Nat} {t:TypeId} {cells:List AV} {c:Prop} {x:AV} {j:Nat} (h:rm T t (cells.drop j)=some (c,x)) (hx:x.kill r=x):∃ c',rm T t ((cells.map (AV.kill r)).drop j)=some (c',x)/\(c->c'):=by
 unfold rm at h ⊢;split at h
 .cases h
 .rename_i ti ht;split at h
  .rename_i ha;rw[if_pos ha];obtain⟨rfl,rfl⟩:=eN h;refine⟨_,?_,id⟩;rw[<- anY,<- an7,amT,aeW hx]
  .rename_i ha;rw[if_neg ha];obtain⟨rfl,rfl⟩:=eN h;rw[<- anY];generalize hl:cells.drop j=l at hx
   cases l with
   | nil=>exact⟨_,rfl,fun h=>absurd rfl h⟩
   | cons y l=>
    simp only[List.headD_cons]at hx;refine⟨_,by simp only[amE,List.headD_cons,hx];rfl,fun _=>ak⟩
theorem ah0 {o:Oper} {e:Env} {H:Heap} {r:Nat} {row:Row} {c:Prop} {x:AV} (eg:∃ ty sz els,row = .sl ty sz els) (h:rd T G ⟨e,H⟩ o.op=some (c,x)) (iH:J4 r o e x) :
  ∃ c',rd T G ⟨e,bk (eK r H) r row⟩ o.op=some (c',x)/\(c->c'):=by
 have Hn:=iH.1;have hx:=iH.2;clear iH
 have free:∀ t v,Operand.tmp t∈o.op.operands->e t=some v->v.kill r=v:=by
  intro t v ht hv;have:=Hn t ht;rw[hv]at this;simp only[eJ,hv,amI,IT]at this;exact this.symm
 have ne:∀ (p:Operand) (v:AV),bJ G e p=some v->p∈o.op.operands->v.kill r=v:=by
  intro p v hv hp
  cases p with
  | tmp t=>exact free t v hp hv
  | const k=>simp only[bJ,IT]at hv;subst hv;unfold iW;split<;>rfl
  | global g=>simp only[bJ,AS]at hv;obtain⟨d,_,rfl⟩:=hv;rfl
  | func f=>simp only[bJ,IT]at hv;subst hv;rfl
 have bq:∀ q,q≠r->(bk (eK r H) r row) q=(H q).map (Row.kill r):=fun q hq=>by simp[bk,hq,eK]
 obtain⟨dst,op,type,pos,after,guard⟩:=o;dsimp only at h free ne ⊢;by_cases hk:kindOf op=0
 .rw[V5 hk _ H];exact⟨c,h,id⟩
 cases op<;>first | exact absurd rfl hk | skip
 case load t p=>
  simp only[rd]at h ⊢;obtain⟨v,hv,hl⟩:=amy.1 h;rw[hv,an3];have hf:=ne p v hv (by simp[Op.operands])
  cases v with
  | d x=>cases x<;>first | exact⟨c,hl,id⟩ | cases hl
  | own q off n=>cases hl
  | agg _=>cases hl
  | bz _=>cases hl
  | cC _ _=>cases hl
  | fn _ _=>cases hl
  | bm _ _=>cases hl
  | dead=>cases hl
  | mp _=>cases hl
  | ref q ee j=>
   simp only[pH]at hl ⊢
   have hq:q≠r:=fun e=>by simp[AV.kill,e]at hf
   rw[bq q hq]
   cases hH:H q with
   | none=>simp[hH]at hl
   | some yp=>
    cases yp with
    | sl ty sz els=>simp only[hH]at hl;simp only[amI,Row.kill];exact⟨c,hl,id⟩
    | mp ty ents=>simp[hH]at hl
    | it ents seen=>simp[hH]at hl
    | box ty cells=>
     simp only[hH]at hl;simp only[amI,Row.kill];split at hl
     .rename_i he;rw[if_pos he];exact Y1 hl hx
     .cases hl
 case indexAddr t p i=>
  simp only[rd]at h ⊢;split at h
  .rename_i a b ha hb;have hf:=ne p a ha (by simp[Op.operands])
   have bb:∃ k n,b = .d (.v (.int k n)):=by
    unfold sN at h;split at h
    .exact⟨_,_,rfl⟩
    .exact⟨_,_,rfl⟩
    .exact⟨_,_,rfl⟩
    .exact⟨_,_,rfl⟩
    .cases h
   obtain⟨k,nn,rfl⟩:=bb
   cases a with
   | d x=>cases x<;>first | exact⟨c,h,id⟩ | (cases h;done)
   | ref _ _ _=>exact⟨c,h,id⟩
   | agg _=>cases h
   | bz _=>cases h
   | cC _ _=>cases h
   | fn _ _=>cases h
   | bm _ _=>cases h
   | dead=>cases h
   | mp _=>cases h
   | own q off n=>
   unfold sN at h ⊢
   have hq:q≠r:=fun e=>by simp[AV.kill,e]at hf
   simp only[bq q hq]
   cases hH:H q with
   | none=>simp[hH]at h
   | some yp=>
    cases yp with
    | sl ty sz els=>simp only[hH]at h;exact⟨c,h,id⟩
    | mp ty ents=>
     cases he:ru T t with
     | none=>simp[he]at h
     | some s=>simp[he,hH]at h
    | it ents seen=>
     cases he:ru T t with
     | none=>simp[he]at h
     | some s=>simp[he,hH]at h
    | box ty cells=>
     simp only[hH]at h
     cases he:ru T t with
     | none=>simp[he]at h
     | some s=>rw[he]at h;exact⟨c,h,id⟩
  .cases h
 case slice t p lo hi mx=>
  simp only[rd]at h ⊢;split at h
  .rename_i hm;rw[if_pos hm];split at h
   .rename_i v l hh h1 h2 h3;have hf:=ne p v h1 (by simp[Op.operands])
    cases v with
    | d x=>cases x with
     | v x=>cases x<;>first | exact⟨c,h,id⟩ | (cases h;done)
     | sl k els=>exact⟨c,h,id⟩
     | _=>cases h
    | ref _ _ _=>cases h
    | agg _=>cases h
    | bz _=>cases h
    | cC _ _=>cases h
    | fn _ _=>cases h
    | bm _ _=>cases h
    | dead=>cases h
    | mp _=>cases h
    | own q off n=>
    unfold tV at h ⊢;dsimp only at h ⊢
    have hq:q≠r:=fun e=>by simp[AV.kill,e]at hf
    rw[bq q hq]
    cases hH:H q with
    | none=>simp[hH]at h
    | some yp=>
     cases yp with
     | sl ty sz els=>simp only[hH]at h;exact⟨c,h,id⟩
     | mp ty ents=>simp[hH]at h
     | it ents seen=>simp[hH]at h
     | box ty cells=>simp[hH]at h
   .cases h
  .cases h
 case lookup t p i b=>
  simp only[rd]at h ⊢;split at h
  .rename_i a k ha hb;have hf:=ne p a ha (by simp[Op.operands])
   cases a with
   | mp q=>
    have hq:q≠r:=fun e=>by simp[AV.kill,e]at hf
    cases k with
    | d kx=>
     cases kx with
     | v kv=>
      simp only[ql]at h ⊢;rw[bq q hq]
      cases hH:H q with
      | none=>simp[hH]at h
      | some yp=>
       cases yp with
       | mp ty ents=>rw[hH]at h;exact⟨c,h,id⟩
       | _=>simp[hH]at h
     | _=>simp[ql]at h
    | _=>simp[ql]at h
   | d q=>
    cases q with
    | dm x ents=>
     cases k with
     | d kx=>
      cases kx with
      | v kv=>simp only[ql]at h ⊢;exact⟨c,h,id⟩
      | _=>simp[ql]at h
     | _=>simp[ql]at h
    | _=>simp[ql]at h
   | _=>simp[ql]at h
  .cases h
 case call cc=>
  obtain⟨callee,args,argTypes⟩:=cc
  cases callee with
  | builtin b=>cases b<;>first | exact absurd rfl hk | (simp[rd]at h;done)
  | _=>simp[rd]at h
 all_goals first | (simp[rd]at h;done) | skip
end
end Go.Av
namespace Go.Av
section
variable {P:Program} {T:Ty} {Mv X:Nat->Prop} {G:aB} {N:Fr} {w:World} {μ:Mu} {a:Act} {σ:St}
variable {ops:Array Oper} {Step:Nat->Oper->St->St->Prop} {cp:Nat->Nat->Oper->Oper->Bool}
theorem Zl (aG:∀ j oj,ops[j]? = some oj->∀ e∈oj.after,Region.binds .any e=true->e.on < j) {listed:Array Bool} (vW:∀ j oj,ops[j]? = some oj->listed.getD j false=true->∀ e∈oj.after,Region.binds .any e=true->listed.getD e.on false=true) :
  ∀ (n j:Nat) (oj:Oper),j<=n->ops[j]? = some oj->(∀ e∈oj.after,Region.binds .any e=true->listed.getD e.on false=true)->∀ q,((tb ops).getD j 0).testBit q=true->listed.getD q false=true:=by
 intro n
 induction n with
 | zero=>
  intro j oj hj fM dY q hq
  have n9:j=0:=aa
  subst n9;obtain⟨e,he,hb,_⟩:=FQ ops.toList [] 0 oj q (by simpa using fM) (by simpa[tb]using hq);have:=aG 0 oj fM e he hb;omega
 | succ n ih=>
  intro j oj hj fM dY q hq;obtain⟨e,he,hb,r⟩:=FQ ops.toList [] j oj q (by simpa using fM) (by simpa[tb]using hq)
  rcases r with rfl | ⟨_,r⟩
  .exact dY e he hb
  .have MG:=aG j oj fM e he hb
   have dV:e.on < ops.size:=by have:=(amf.1 fM).1;omega
   exact ih e.on ops[e.on] aa (by simp[dV]) (fun e' kM br=>vW e.on _ (by simp[dV]) (dY e he hb) e' kM br) q (by simpa[tb]using r)
def wZ (Step:Nat->Oper->St->St->Prop) (cp:Nat->Nat->Oper->Oper->Bool) (ops:Array Oper):Prop:=∀ i j oi oj,ops[i]? = some oi->ops[j]? = some oj->cp i j oi oj=true->∀ σ ba iB,Step i oi σ ba->Step j oj ba iB->∃ jK,Step j oj σ jK/\Step i oi jK iB
def Sound (P:Program) (X:Nat->Prop) (G:aB) (N:Fr) (Mv:Nat->Prop) (Step:Nat->Oper->St->St->Prop) (ops:Array Oper):Prop:=∀ i o,ops[i]? = some o->∀ σ aH,Step i o σ aH->∀ w μ a,In w X G μ N a σ->∀ {Q:Exit->Act->World->Prop} {K:Act->World->Prop},(∀ w' aI a',In w' X G aI N a' aH->Ev Mv w μ w' aI->K a' w')->wpOpIn (wd N.ro) 0 P ops Q i K a w
def ja (Step:Nat->Oper->St->St->Prop) (ops:Array Oper):List Nat->St->St->Prop
 | [],σ,aH=>σ=aH
 | i :: l,σ,aH=>∃ o,ops[i]? = some o/\∃ ba,Step i o σ ba/\ja Step ops l ba aH
theorem aiJ (B5:wZ Step cp ops) {p:Nat} {op:Oper} (hp:ops[p]? = some op):∀ (l1:List Nat) {l2:List Nat} {σ aH:St},(∀ q∈l1,∀ oq,ops[q]? = some oq->cp q p oq op=true)->ja Step ops (l1 ++ p :: l2) σ aH->ja Step ops (p :: (l1 ++ l2)) σ aH:=by
 intro l1
 induction l1 with
 | nil=>intro l2 σ aH _ h;exact h
 | cons q l1 ih=>
  intro l2 σ aH dY h;obtain⟨oq,hq,ba,s1,rest⟩:=h;obtain⟨o',qK,iB,s2,aio⟩:=ih (fun q' p8=>dY q' (by simp[p8])) rest;rw[hp]at qK;obtain rfl:=AI qK;obtain⟨jK,f1,f2⟩:=B5 q p oq op hq hp (dY q ak oq hq) σ ba iB s1 s2;exact⟨op,hp,jK,f1,oq,hq,iB,f2,aio⟩
def pJ (cp:Nat->Nat->Oper->Oper->Bool) (ord:List Nat) (ops:Array Oper):Bool:=
 let t:=tb ops
 ord.length == ops.size && (ord.all fun i=>decide (i < ops.size)) && ((List.range ops.size).all fun i=>ord.contains i) && decide ord.Nodup &&
 ((List.range ops.size).all fun j=>match ops[j]? with
  | some oj=>oj.after.all fun e=>!Region.binds .any e || e.on < j
  | none=>true) &&
 go t ord
where
 go (t:List Nat):List Nat->Bool
 | []=>true
 | a :: l=>(l.all fun b=>match ops[a]?,ops[b]? with
  | some oa,some ob=>(oa.after.all fun e=>!Region.binds .any e || !(e.on == b)) && ((t.getD b 0).testBit a || cp a b oa ob)
  | _,_=>true) && go t l
def J5 (cp:Nat->Nat->Oper->Oper->Bool) (ops:Array Oper) (a b:Nat):Prop:=∀ oa ob,ops[a]? = some oa->ops[b]? = some ob->
 (∀ e∈oa.after,Region.binds .any e=true->e.on≠b)/\(((tb ops).getD b 0).testBit a=true\/cp a b oa ob=true)
theorem VD:∀ {l:List Nat},pJ.go cp ops (tb ops) l=true->l.Pairwise (J5 cp ops)
 | [],_=>.nil
 | a :: l,h=>by
  simp only[pJ.go,OF]at h;refine .cons (fun b hb oa ob hoa MV=>?_) (VD h.2);have:=ane.1 h.1 b hb;simp only[hoa,MV,OF,amU]at this;refine⟨fun e he hbi heq=>?_,this.2⟩;have h1:=Array.all_eq_true_iff_forall_mem.1 this.1 e he;simp[hbi,heq]at h1
theorem YM (dW:Sound P X G N Mv Step ops) (B5:wZ Step cp ops) (aG:∀ j oj,ops[j]? = some oj->∀ e∈oj.after,Region.binds .any e=true->e.on < j) {Q:Exit->St->Prop} {w0:World} {lY:Mu} {cF:St} (hQ:Q .normal cF):∀ (n:Nat) (R:List Nat) (listed:Array Bool) (w:World) (μ:Mu) (a:Act) (σ:St),R.length=n->R.Nodup->
  (∀ j,j∈R↔j < ops.size/\listed.getD j true=false)->listed.size=ops.size->R.Pairwise (J5 cp ops)->
  (∀ j oj,ops[j]? = some oj->listed.getD j false=true->∀ e∈oj.after,Region.binds .any e=true->listed.getD e.on false=true)->ja Step ops R σ cF->In w X G μ N a σ->Ev Mv w0 lY w μ->
  wpAnyIn (wd N.ro) 0 P .any ops (After Mv X G N w0 lY Q) n listed a w:=by
 intro n
 induction n with
 | zero=>
  intro R listed w μ a σ hl _ hR bp _ _ dK hi bd;have:R=[]:=amC hl;subst this
  have hr:Region.ready .any ops listed=[]:=by
   apply List.eq_nil_iff_forall_not_mem.2;intro j hj;obtain⟨h1,o,ho,_⟩:=mem_ready.1 hj;exact absurd ((hR j).2 ⟨(amf.1 ho).1,h1⟩) ak
  have:σ=cF:=dK;subst this;exact⟨hr,μ,σ,hQ,hi,bd⟩
 | succ n ih=>
  intro R listed w μ a σ hl mO hR bp wx vW dK hi bd;refine⟨fun hr=>?_,fun i Mx=>?_⟩
  .cases R with
   | nil=>simp at hl
   | cons j R=>
    obtain⟨rF,qJ⟩:=(hR j).1 ak
    have fM:ops[j]? = some ops[j]:=by simp[rF]
    have Ec:j∈Region.ready .any ops listed:=by
     refine mem_ready.2 ⟨qJ,ops[j],fM,fun e he hb=>?_⟩;have HK:=aG j ops[j] fM e he hb
     have dV:e.on < ops.size:=aa
     have bq:e.on ∉ (j :: R):=by
      intro hm
      rcases amx.1 hm with h | h
      .omega
      .exact ((am5.1 wx).1 _ h ops[j] ops[e.on] fM (by simp[dV])).1 e he hb rfl
     have:=mt (hR e.on).2 bq
     have wh:e.on < listed.size:=aa
     simp only[dV,true_and,amg]at this ⊢;simp[wh]at this ⊢;exact this
    rw[hr]at Ec;cases Ec
  .obtain⟨fV,oi,ir,dY⟩:=mem_ready.1 Mx;have Mr:i∈R:=(hR i).2 ⟨(amf.1 ir).1,fV⟩;obtain⟨R1,R2,rfl⟩:=List.append_of_mem Mr
   have Mi:=aiJ B5 ir R1 (fun q hq oq Ew=>by
    have hpq:J5 cp ops q i:=(ano.1 wx).2.2 q hq i ak
    rcases (hpq oq oi Ew ir).2 with h | h
    .exfalso;have Ej:=Zl aG vW i i oi (amh _) ir dY q h;have p9:=((hR q).1 (by simp[hq])).2
     have M3:q < listed.size:=by have:=(amf.1 Ew).1;omega
     simp[amg,M3]at Ej p9;rw[Ej]at p9;cases p9
    .exact h) dK
   obtain⟨o',qK,ba,hstep,df⟩:=Mi;rw[ir]at qK;obtain rfl:=AI qK;refine dW i oi ir _ _ hstep _ _ _ hi fun w' aI a' aR nu=>?_
   have MR:(R1 ++ R2).Nodup:=by
    have:=mO;rw[List.nodup_append]at this ⊢;obtain⟨g1,g2,g3⟩:=this;exact⟨g1,(anf.1 g2).2,fun x hx y hy=>g3 x hx y (by simp[hy])⟩
   have Mt:i ∉ R1 ++ R2:=by
    have:=mO;rw[List.nodup_append]at this;obtain⟨g1,g2,g3⟩:=this;intro hm
    rcases amq.1 hm with h | h
    .exact g3 i h i ak rfl
    .exact (anf.1 g2).1 h
   refine ih (R1 ++ R2) _ w' aI a' ba (by simp at hl ⊢;omega) MR (fun j=>?_) (by simpa using bp) ?_ ?_ df aR (bd.trans nu)
   .by_cases pz:j=i
    .subst pz
     have wh:j < listed.size:=by rw[bp];exact (amf.1 ir).1
     simp[wh];simpa using Mt
    .rw[getD_set_ne true (ann pz)];rw[<- hR j];simp[pz]
   .rw[ano]at wx ⊢;obtain⟨g1,g2,g3⟩:=wx;exact⟨g1,(am5.1 g2).2,fun x hx y hy=>g3 x hx y (by simp[hy])⟩
   .intro j oj fM me e he hb;by_cases pz:j=i
    .subst pz;rw[ir]at fM;obtain rfl:=AI fM;exact getD_set_true (dY e he hb)
    .rw[getD_set_ne false (ann pz)]at me;exact getD_set_true (vW j oj fM me e he hb)
theorem wY (hm:P.follows .mixedOrders=true) (dW:Sound P X G N Mv Step ops) (B5:wZ Step cp ops) (ord:List Nat) {id:Nat} (cf:pJ cp ord ops=true) {Q:Exit->St->Prop} {σ:St} (h:(∀ i∈ord,i < ops.size)->∃ cF,Q .normal cF/\ja Step ops ord σ cF):AW P Mv X G N (.region id ops true) Q σ:=fun w μ a hi=>by
 unfold pJ at cf;simp only[OF]at cf;obtain⟨⟨⟨⟨⟨h1,h2⟩,h3⟩,h4⟩,h5⟩,h6⟩:=cf
 have hlen:ord.length=ops.size:=by simpa using h1
 have aG:∀ i∈ord,i < ops.size:=fun i hi=>by simpa using ane.1 h2 i hi
 have dY:∀ i,i < ops.size->i∈ord:=fun i hi=>by simpa using ane.1 h3 i (anA.2 hi)
 have mO:ord.Nodup:=by simpa using h4
 have acb:∀ j oj,ops[j]? = some oj->∀ e∈oj.after,Region.binds .any e=true->e.on < j:=fun j oj fM e he hb=>by
  have:=ane.1 h5 j (anA.2 (amf.1 fM).1);simp only[fM]at this;have:=Array.all_eq_true_iff_forall_mem.1 this e he;simpa[hb]using this
 obtain⟨cF,hQ,dK⟩:=h aG;refine wpIn_region_any hm ?_;obtain⟨aR,bd⟩:=hi.ry (Mv:=Mv) (cX.drew w);refine YM dW B5 acb hQ ops.size ord _ w.drew μ a σ hlen mO (fun j=>?_) ak (VD h6) ?_ dK aR bd
 .constructor
  .intro hj;have:=aG j hj;simp[amg,this]
  .intro hj;exact dY j hj.1
 .intro j oj fM me;have hj:=(amf.1 fM).1;simp[amg,hj]at me
end
end Go.Av
namespace Go.Av
def w6 (av:List (Nat×List Nat)) (i:Nat):List Nat:=(av.lookup i).getD []
def OD (o:Op):Bool:=match o with
 | .buildSlice _ _ _=>true
 | .makeSlice _ _ _=>true
 | .alloc _=>true
 | o=>decide (kindOf o<=2)
def y3 (la:List (Nat×Nat×Nat)) (av:List (Nat×List Nat)) (ops:Array Oper) (i j:Nat) (oi oj:Oper):Bool:=match la.lookup i,la.lookup j with
 | none,none=>lx ops oi oj
 | none,some (r,s)=>oi.apart ops oj && OD oi.op && !(oi.dst == some s) && !(oi.dst == some r) && (w6 av i).contains r
 | some (r,s),some (r',s')=>oi.apart ops oj && !(r == r') && !(s == r') && !(s' == r)
 | some _,none=>false
section
variable {P:Program} {T:Ty} {Mv X:Nat->Prop} {G:aB} {N:Fr} {ops:Array Oper} {la:List (Nat×Nat×Nat)} {av:List (Nat×List Nat)}
theorem AV.Ip (r:Nat) (x:AV):(x.kill r).kill r=x.kill r:=by
 have key:∀ n,∀ x:AV,SizeOf.sizeOf x < n->(x.kill r).kill r=x.kill r:=by
  intro n
  induction n with
  | zero=>intro x h;omega
  | succ n ih=>
   intro x h
   have go:∀ l:List AV,SizeOf.sizeOf l < n->(l.map (AV.kill r)).map (AV.kill r)=l.map (AV.kill r):=by
    intro l
    induction l with
    | nil=>intro _;rfl
    | cons y l EP=>
     intro hl;simp only[List.cons.sizeOf_spec]at hl;simp only[amE,anV];exact⟨ih y aa,EP aa⟩
   cases x with
   | d x=>simp[AV.kill]
   | own q off n=>by_cases h1:q=r<;>simp[AV.kill,h1]
   | ref q e j=>by_cases h1:q=r<;>simp[AV.kill,h1]
   | agg cells=>simp at h;simp only[AV.kill,AV.go_eq];rw[go cells aa]
   | bz cells=>simp at h;simp only[AV.kill,AV.go_eq];rw[go cells aa]
   | cC t x=>simp at h;simp only[AV.kill];rw[ih x aa]
   | bm t x=>simp at h;simp only[AV.kill];rw[ih x aa]
   | fn f cells=>simp at h;simp only[AV.kill,AV.go_eq];rw[go cells aa]
   | mp q=>by_cases h1:q=r<;>simp[AV.kill,h1]
   | dead=>simp[AV.kill]
 exact key _ x (Nat.lt_succ_self _)
theorem Row.Ip (r:Nat) (x:Row):(x.kill r).kill r=x.kill r:=by
 cases x with
 | sl ty sz els=>rfl
 | mp ty ents=>rfl
 | it ents seen=>rfl
 | box ty cells=>
  simp only[Row.kill,amk];congr 1;apply List.map_congr_left;intro x _;exact AV.Ip r x
theorem aap {e:Env} {H:Heap} {r ty sz:Nat} {els:List (List D)} (d:Tmp) (hm:Mv r):aL Mv X G N ⟨iz (eJ r e) d (.own r 0 els.length),bk (eK r H) r (.sl ty sz els)⟩ ⟨iz (eJ r e) d (.d (.sl none els)),bk (eK r H) r (.sl ty sz [])⟩:=fun w μ a hi=>by
 have hr:bk (eK r H) r (.sl ty sz els) r=some (.sl ty sz els):=by simp[bk]
 have sC:(fun q=>if q=r then none else μ q)=cJ (iT r) μ:=by
  funext q;unfold cJ iT;by_cases h:q=r<;>simp[h]
 have ev:Ev Mv w μ w (cJ (iT r) μ):=zb fun q _ _ hq=>by
  have e:q=r:=by simpa[iT]using hq
  exact e ▸ hm
 have bq:∀ q,q≠r->cJ (iT r) μ q=μ q:=fun q hq=>by simp[cJ,iT,hq]
 have hX:∀ b,XX X (cJ (iT r) μ) b->XX X μ b:=fun b=>C6
 have h1:In w X G (cJ (iT r) μ) N a ⟨iz (eJ r e) d (.d (.sl none els)),fun q=>if q=r then none else eK r H q⟩:=by
  refine⟨⟨fun q row hq=>?_,fun q m hq=>?_,fun q q' m1 m2 b h1 h2 e9 fk=>hi.bx.inj q q' m1 m2 b (ll h1).2 (ll h2).2 e9 fk,fun q mq b hq hb=>hi.bx.frame q mq b (ll hq).2 hb,hi.bx.fits⟩,
   ⟨hi.env.defers,hi.env.size,fun i x hx=>?_⟩,fun g x hx=>(hi.jA g x hx).sub hX⟩
  .dsimp only at hq;split at hq
   .cases hq
   .rename_i HU;obtain⟨m,zJ,ok⟩:=hi.bx.rows q row (by simpa[bk,HU]using hq);obtain⟨qo,_,rfl⟩:=AS.1 (show (H q).map (Row.kill r)=some row from hq);refine⟨m,by rw[bq q HU];exact zJ,?_⟩;have:=kY.keep ev bq (fun _ _=>rfl) ok
    rwa [Row.Ip]at this
  .obtain⟨hk,zJ⟩:=ll hq
   have HU:q≠r:=by simpa[iT]using hk
   obtain⟨row,eg⟩:=hi.bx.l5 q m zJ;exact⟨row,by simpa[bk,HU]using eg⟩
  .simp only[iz]at hx;split at hx
   .rename_i hid;subst hid;obtain rfl:=AI hx;obtain⟨u,hu,iu⟩:=hi.env.slot i (.own r 0 els.length) (by simp[iz]);refine⟨u,hu,?_⟩;obtain⟨k,hk,_⟩:=I4 hi.bx hr aa iu;rw[sC]at hk;have:=RV.d (w:=w) (μ:=cJ (iT r) μ) hk.wV;simpa using this
   .rename_i hid;obtain⟨x0,h0,rfl⟩:=AS.1 (show (e i).map (AV.kill r)=some x from hx);obtain⟨u,hu,iu⟩:=hi.env.slot i (x0.kill r) (by simp[iz,hid,eJ,h0]);refine⟨u,hu,?_⟩;have:=RV.keep ev bq iu
    rwa [AV.Ip]at this
 obtain⟨aR,za⟩:=h1.alloc (Mv:=Mv) (d:=r) (w':=w) (m:=⟨none,sz,0⟩) ak (cX.refl w) ak (row:=.sl ty sz []) fun _=>.nil rfl rfl
 have hH:bk (fun q=>if q=r then none else eK r H q) r (.sl ty sz [])=bk (eK r H) r (.sl ty sz []):=by
  funext q;by_cases h:q=r<;>simp[bk,h]
 refine⟨_,?_,ev.trans za⟩;rw[<- hH];exact aR
def Fin (Mv:Nat->Prop) (r m:Nat) (row:Row) (y:AV) (jm:Row):Prop:=
 (y = .own r 0 m/\jm=row)\/(Mv r/\∃ ty sz els,row = .sl ty sz els/\m=els.length/\y = .d (.sl none els)/\jm = .sl ty sz [])
theorem Fin.row {r m:Nat} {row jm:Row} {y:AV} (h:Fin Mv r m row y jm) (eg:∃ ty sz els,row = .sl ty sz els):∃ ty sz els,jm = .sl ty sz els:=by
 rcases h with⟨_,rfl⟩ | ⟨_,ty,sz,els,_,_,_,rfl⟩
 .exact eg
 .exact⟨_,_,_,rfl⟩
theorem Fin.kill {r m q:Nat} {row jm:Row} {y:AV} (h:Fin Mv r m row y jm) (hq:r≠q):y.kill q=y:=by
 rcases h with⟨rfl,_⟩ | ⟨_,ty,sz,els,_,_,rfl,_⟩
 .simp[AV.kill,hq]
 .rfl
def vh (P:Program) (T:Ty) (Mv:Nat->Prop) (G:aB) (N:Fr) (la:List (Nat×Nat×Nat)) (av:List (Nat×List Nat)) (i:Nat) (o:Oper) (σ aH:St):Prop:=
 fb N o/\o.guard=none/\match la.lookup i with
  | some (r,s)=>∃ m row y jm,lr T G Mv o σ.env σ.H r s m row/\Fin Mv r m row y jm/\aH=⟨aN (eJ r σ.env) o.dst y,bk (eK r σ.H) r jm⟩
  | none=>kindOf o.op≠9/\∃ x H',Ex P T Mv G o σ.env σ.H x H'/\aH=⟨aN σ.env o.dst x,H'⟩/\(∀ r∈w6 av i,J4 r o σ.env x)/\(w6 av i≠[]->∀ c,eD o.op=some c->∃ y g ds,kV G σ.env c=some (g,ds.map .d)/\aD P G g ds y/\x = .d y)
theorem vh.step {i:Nat} {o:Oper} {σ aH:St} (h:vh P T Mv G N la av i o σ aH):∃ P2,CN P T Mv G N ops o σ P2/\aL Mv X G N P2 aH:=by
 obtain⟨hd,hg,h⟩:=h;split at h
 .obtain⟨m,row,y,jm,h1,hf,rfl⟩:=h;refine⟨_,⟨hd,.inl ⟨lM hg,h1.to⟩⟩,?_⟩
  rcases hf with⟨rfl,rfl⟩ | ⟨hm,ty,sz,els,rfl,rfl,rfl,rfl⟩
  .exact .refl _
  .obtain⟨_,_,d,uD⟩:=h1.row;rw[uD];exact aap d hm
 .obtain⟨_,x,H',h1,rfl,_⟩:=h;exact⟨_,⟨hd,.inl ⟨lM hg,h1.to⟩⟩,.refl _⟩
theorem Ex.newRow {o:Oper} (hk:¬ kindOf o.op<=2) (ho:OD o.op=true) {e:Env} {H H':Heap} {x:AV} (h:Ex P T Mv G o e H x H'):∃ d row,o.dst=some d/\H d=none/\H'=bk H d row/\(∀ q,row.kill q=row)/\∀ H2,H2 d=none->Ex P T Mv G o e H2 x (bk H2 d row):=by
 obtain⟨dst,op,type,pos,after,guard⟩:=o;dsimp only at hk ho;unfold Ex at h;unfold Ex
 cases op<;>simp only[OD,decide_eq_true_eq]at ho<;>first | exact absurd ho hk | skip
 case alloc t=>
  simp only[eD,ic,if_true]at h ⊢;obtain⟨c,h1,h2⟩:=h
  cases dst with
  | none=>cases h1
  | some d=>
   simp only[wr]at h1 ⊢;split at h1
   .rename_i ti Ni;simp only[IT,amj,St.mk.injEq,true_and]at h1;obtain⟨rfl,rfl,rfl⟩:=h1;exact⟨d,_,rfl,h2,rfl,fun q=>by simp[Row.kill,iW,AV.kill],fun H2 h=>⟨_,rfl,h⟩⟩
   .cases h1
 case makeSlice t y z=>
  simp only[eD,ic,if_true]at h ⊢;obtain⟨c,h1,h2⟩:=h
  cases dst with
  | none=>cases h1
  | some d=>
   simp only[wr]at h1 ⊢;split at h1
   .split at h1
    .split at h1
     .simp only[IT,amj,St.mk.injEq,true_and]at h1;obtain⟨rfl,rfl,rfl⟩:=h1;exact⟨d,_,rfl,h2.1,rfl,fun _=>rfl,fun H2 h=>⟨_,rfl,h,h2.2⟩⟩
     .cases h1
    .cases h1
   .cases h1
 case buildSlice t n ps=>
  simp only[eD,ic,if_true]at h ⊢;obtain⟨c,h1,h2⟩:=h
  cases dst with
  | none=>cases h1
  | some d=>
   simp only[wr]at h1 ⊢;split at h1
   .split at h1
    .split at h1
     .split at h1
      .simp only[IT,amj,St.mk.injEq,true_and]at h1;obtain⟨rfl,rfl,rfl⟩:=h1;exact⟨d,_,rfl,h2.1,rfl,fun _=>rfl,fun H2 h=>⟨_,rfl,h,h2.2⟩⟩
      .cases h1
     .cases h1
    .cases h1
   .cases h1
theorem Uu {r q off n:Nat} {z:AV} (h:z.kill r = .own q off n):z = .own q off n:=by
 cases z<;>simp only[AV.kill,reduceCtorEq]at h
 .split at h
  .cases h
  .exact h
 .split at h<;>cases h
 .split at h<;>cases h
theorem adN {r:Nat} {x:D} {z:AV} (h:z.kill r = .d x):z = .d x:=by
 cases z<;>simp only[AV.kill,reduceCtorEq]at h
 .exact h
 .split at h<;>cases h
 .split at h<;>cases h
 .split at h<;>cases h
theorem IK {H:Heap} {r:Nat} {v:AV} {l:List (List D)} (h:nI H r v=some l):(∃ x,v = .d x)\/∃ q off n,v = .own q off n:=by
 unfold nI at h;split at h
 .exact .inl ⟨_,rfl⟩
 .exact .inr ⟨_,_,_,rfl⟩
 .cases h
theorem J8 {r:Nat} {e:Env} {p:Operand}:bJ G (eJ r e) p=(bJ G e p).map (AV.kill r):=by
 cases p with
 | tmp t=>rfl
 | const k=>simp only[bJ,amI];unfold iW;split<;>rfl
 | global g=>simp only[bJ,Option.map_map];rfl
 | func f=>rfl
theorem lr.aj7 {o:Oper} {e:Env} {H H2:Heap} {r s m q:Nat} {row:Row} (h:lr T G Mv o (eJ q e) H r s m row) (hr:H2 r=H r) (hs:H2 s=H s):lr T G Mv o e H2 r s m row:=by
 obtain⟨x,y,off,n,v,ty,sz,els,news,c,h1,h2,h3,h4,h5,h6,h7,h8⟩:=h;rw[J8]at h2 h3;obtain⟨z1,Cb,e1⟩:=AS.1 h2;obtain⟨z2,Nv,e2⟩:=AS.1 h3;have:=Uu e1;subst this
 have hz:z2=v:=by
  rcases IK h6 with⟨x,rfl⟩ | ⟨_,_,_,rfl⟩
  .exact adN e2
  .exact Uu e2
 subst hz;exact⟨x,y,off,n,z2,ty,sz,els,news,c,h1,Cb,Nv,h4,by rw[hr];exact h5,by rw[Vi h4 hs];exact h6,h7,h8⟩
theorem lr.aia {o:Oper} {e:Env} {H H2:Heap} {r s m q:Nat} {row:Row} (h:lr T G Mv o e H r s m row) (hq:r≠q) (p8:s≠q) (hr:H2 r=H r) (hs:∀ ty sz els,H s=some (.sl ty sz els)->H2 s=H s):lr T G Mv o (eJ q e) H2 r s m row:=by
 obtain⟨x,y,off,n,v,ty,sz,els,news,c,h1,h2,h3,h4,h5,h6,h7,h8⟩:=h;refine⟨x,y,off,n,v,ty,sz,els,news,c,h1,by rw[J8,h2];simp[AV.kill,hq],?_,h4,by rw[hr];exact h5,?_,h7,h8⟩
 .rw[J8,h3]
  rcases IK h6 with⟨x,rfl⟩ | ⟨q',_,_,rfl⟩
  .rfl
  .simp only[vD]at h4;subst h4;simp[AV.kill,p8]
 .rcases IK h6 with⟨x,rfl⟩ | ⟨q',afs,n',rfl⟩
  .cases x<;>first | exact h6 | cases h6
  .simp only[vD]at h4;subst h4;simp only[nI]at h6 ⊢;split at h6
   .cases h6
   .rename_i bq;rw[if_neg bq];split at h6
    .rename_i XL JC pX hH;rw[hs _ _ _ hH,hH];exact h6
    .cases h6
theorem TQ {H:Heap} {r d:Nat} {a b:Row} (h:d≠r):bk (bk H r a) d b=bk (bk H d b) r a:=by
 funext i;by_cases h1:i=d<;>by_cases h2:i=r<;>simp[bk,h1,h2,h,ann h]
theorem NF {H:Heap} {r d:Nat} {b:Row} (hb:b.kill r=b):eK r (bk H d b)=bk (eK r H) d b:=by
 funext i;by_cases h1:i=d<;>simp[bk,eK,h1,hb]
theorem J9 {o:Oper} {e e':Env} {r:Nat} (h:∀ t,Operand.tmp t∈o.op.operands->e' t=e t) (ha:gU o.op e (eJ r e)):gU o.op e' (eJ r e'):=fun t ht=>by
 have h1:=ha t ht;simp only[eJ]at h1 ⊢;rw[h t ht];exact h1
theorem aeM {i j:Nat} {oi oj:Oper} (hc:y3 la av ops i j oi oj=true) {σ ba iB:St} (h1:vh P T Mv G N la av i oi σ ba) (h2:vh P T Mv G N la av j oj ba iB) :
  ∃ jK,vh P T Mv G N la av j oj σ jK/\vh P T Mv G N la av i oi jK iB:=by
 obtain⟨di,gi,h1⟩:=h1;obtain⟨dj,gj,h2⟩:=h2;obtain⟨e,H⟩:=σ
 cases we:la.lookup i with
 | none=>
  simp only[we]at h1;obtain⟨ki,x,H1,nR,rfl,Al,Ku⟩:=h1
  cases me:la.lookup j with
  | none=>
   simp only[me]at h2;obtain⟨kj,y,H2,ex2,rfl,IZ,ZC⟩:=h2;simp only[y3,we,me]at hc;obtain⟨H3,f1,f2⟩:=A7 hc (x:=x) (y:=y) (e:=e) (H:=H) ⟨di,.inl ⟨lM gi,nR⟩⟩ ⟨dj,.inl ⟨lM gj,ex2⟩⟩ ki kj
   have ej:Ex P T Mv G oj e H y H3:=by
    rcases f1.2 with⟨_,h⟩ | ⟨h,_⟩
    .exact h
    .rw[lM gj]at h;cases h
   have ei:Ex P T Mv G oi (aN e oj.dst y) H3 x H2:=by
    rcases f2.2 with⟨_,h⟩ | ⟨h,_⟩
    .exact h
    .rw[lM gi]at h;cases h
   simp only[lx,OF]at hc;obtain⟨a1,_,bq⟩:=jz hc.1 (e:=e) (v:=x);obtain⟨_,a2,_⟩:=jz hc.1 (e:=e) (v:=y);refine⟨⟨aN e oj.dst y,H3⟩,⟨dj,gj,?_⟩,⟨di,gi,?_⟩⟩
   .simp only[me];refine⟨kj,y,H3,ej,rfl,fun r hr=>⟨J9 (e:=aN e oi.dst x) (fun t ht=>(a1 t (lk ht)).symm) (IZ r hr).1,(IZ r hr).2⟩,fun ha c cU=>?_⟩;obtain⟨y',g,ds,ht,hp⟩:=ZC ha c cU;exact⟨y',g,ds,by rw[<- ht];exact AM fun t ht=>(a1 t (lk (by rw[(wF cU).1];exact ht))).symm,hp⟩
   .simp only[we];refine⟨ki,x,H2,ei,by rw[iL bq],fun r hr=>⟨J9 (e:=e) (fun t ht=>a2 t (lk ht)) (Al r hr).1,(Al r hr).2⟩,fun ha c cU=>?_⟩;obtain⟨y',g,ds,ht,hp⟩:=Ku ha c cU;exact⟨y',g,ds,by rw[<- ht];exact AM fun t ht=>a2 t (lk (by rw[(wF cU).1];exact ht)),hp⟩
  | some rs=>
   obtain⟨r,s⟩:=rs;simp only[me]at h2;obtain⟨m,row,yr,jm,app,fin,rfl⟩:=h2;simp only[y3,we,me,OF,ant,beq_eq_false_iff_ne,am1]at hc;obtain⟨⟨⟨⟨eO,cf⟩,hs⟩,hr⟩,SK⟩:=hc;obtain⟨Hn,hx⟩:=Al r SK;obtain⟨a1,_,bq⟩:=jz eO (e:=e) (v:=x);obtain⟨_,a2,_⟩:=jz eO (e:=eJ r e) (v:=yr);obtain⟨zN,G9,_⟩:=app.row;have eg:=fin.row zN;have ft:gU oj.op (aN e oi.dst x) e:=fun t ht=>a1 t (lk ht);have e3:∀ t,Operand.tmp t∈oi.op.operands->(aN (eJ r e) oj.dst (yr)) t=e t:=fun t ht=>(a2 t (lk ht)).trans (Hn t ht).symm
   have main:lr T G Mv oj e H r s m row/\∃ H2,Ex P T Mv G oi e (bk (eK r H) r jm) x H2/\H2=bk (eK r H1) r jm:=by
    by_cases fW:kindOf oi.op<=2
    .have:=nR.keeps fW;subst this;refine⟨app.congr ft rfl rfl,_,?_,rfl⟩
     cases fQ:eD oi.op with
     | some c=>
      obtain⟨y,g,ds,ht,hp,rfl⟩:=Ku (List.ne_nil_of_mem SK) c fQ;unfold Ex;simp only[fQ];exact⟨y,⟨g,_,ht,.inl ⟨ds,rfl,hp⟩⟩,rfl,trivial⟩
     | none=>
      unfold Ex at nR ⊢;simp only[fQ]at nR ⊢
      have hw:¬ ic oi.op=true:=fun hw=>by rcases Ij hw with h | h | h<;>omega
      rw[if_neg hw]at nR ⊢;obtain⟨c,bQ,cU,_⟩:=nR;obtain⟨c',h',fK⟩:=ah0 eg bQ ⟨Hn,hx⟩;exact⟨c',h',fK cU,trivial⟩
    .obtain⟨d,yp,hd,hn,rfl,gn,dY⟩:=nR.newRow fW cf;have nZ:d≠r:=fun e=>hr (by rw[hd,e]);have n5:d≠s:=fun e=>hs (by rw[hd,e]);refine⟨app.congr ft (by simp[bk,ann nZ]) (by simp[bk,ann n5]),_,dY _ (by simp[bk,nZ,eK,hn]),?_⟩;rw[NF (gn r),TQ nZ]
   obtain⟨F5,H2,ex',rfl⟩:=main;refine⟨⟨aN (eJ r e) oj.dst (yr),bk (eK r H) r jm⟩,⟨dj,gj,?_⟩,⟨di,gi,?_⟩⟩
   .simp only[me];exact⟨m,row,yr,jm,F5,fin,rfl⟩
   .simp only[we];refine⟨ki,x,_,ex'.congr ki fun t ht=>(e3 t ht).symm,?_,fun q hq=>⟨J9 e3 (Al q hq).1,(Al q hq).2⟩,fun ha c cU=>?_⟩
    .rw[Io,hx,iL bq]
    .obtain⟨y',g,ds,ht,hp⟩:=Ku ha c cU;exact⟨y',g,ds,by rw[<- ht];exact AM fun t ht=>e3 t (by rw[(wF cU).1];exact ht),hp⟩
 | some rs=>
  obtain⟨r,s⟩:=rs;simp only[we]at h1;obtain⟨m,row,y1,rw1,app,fin,rfl⟩:=h1
  cases me:la.lookup j with
  | none=>simp[y3,we,me]at hc
  | some rs'=>
   obtain⟨r',s'⟩:=rs';simp only[me]at h2;obtain⟨m',jm,y2,rw2,F5,La,rfl⟩:=h2;simp only[y3,we,me,OF,ant,beq_eq_false_iff_ne]at hc;obtain⟨⟨⟨eO,mR⟩,hs⟩,o0⟩:=hc;obtain⟨a1,_,bq⟩:=jz eO (e:=eJ r e) (v:=y1);obtain⟨_,a2,_⟩:=jz eO (e:=eJ r' e) (v:=y2);obtain⟨⟨XM,Xy,Q7,rfl⟩,⟨t1,z1,l1,G9⟩,_⟩:=app.row;obtain⟨⟨PD,Pv,td,rfl⟩,⟨t2,z2,l2,abn⟩,_⟩:=F5.row;obtain⟨XN,sz3,aau,rfl⟩:=fin.row ⟨_,_,_,rfl⟩;obtain⟨JG,Pw,KQ,rfl⟩:=La.row ⟨_,_,_,rfl⟩
   have Te:∀ q,q≠r->∀ ty sz els,(eK r H) q=some (.sl ty sz els)->H q=some (.sl ty sz els):=by
    intro q _ ty sz els hq;obtain⟨qo,h0,he⟩:=AS.1 hq
    cases qo with
    | sl _ _ _=>rw[h0];exact congrArg some he
    | box _ _=>cases he
    | mp _ _=>cases he
    | it _ _=>cases he
   have vG:H r'=some (.sl t2 z2 l2):=Te r' (ann mR) _ _ _ (by simpa[bk,ann mR]using abn);have p1:lr T G Mv oj (eJ r e) (bk (eK r H) r (.sl XN sz3 aau)) r' s' m' (.sl PD Pv td):=F5.congr (fun t ht=>a1 t (lk ht)) rfl rfl
   have p2:lr T G Mv oj e H r' s' m' (.sl PD Pv td):=by
    obtain⟨x,y,off,n,v,ty,sz,els,news,c,g1,g2,g3,g4,g5,g6,g7,g8⟩:=p1
    have MS:nI H r' v=some news:=by
     rcases IK g6 with⟨x,rfl⟩ | ⟨q',afs,n',rfl⟩
     .cases x<;>first | exact g6 | cases g6
     .simp only[vD]at g4;subst g4;simp only[nI]at g6 ⊢;split at g6
      .cases g6
      .rename_i hq;rw[if_neg hq];split at g6
       .rename_i XL JC pX p9;have:H q'=some (.sl XL JC pX):=Te q' o0 _ _ _ (by simpa[bk,o0]using p9);rw[this];exact g6
       .cases g6
    have:lr T G Mv oj (eJ r e) H r' s' m' (.sl PD Pv td):=⟨x,y,off,n,v,ty,sz,els,news,c,g1,g2,g3,g4,by rw[vG];simpa[bk,ann mR,eK,vG,Row.kill]using g5,MS,g7,g8⟩;exact this.aj7 rfl rfl
   have q1:lr T G Mv oi (eJ r' e) (bk (eK r' H) r' (.sl JG Pw KQ)) r s m (.sl XM Xy Q7):=by
    refine app.aia mR hs ?_ fun ty sz els hh=>?_
    .simp[bk,mR,eK,G9,Row.kill]
    .simp[bk,hs,eK,hh,Row.kill]
   have q2:lr T G Mv oi (aN (eJ r' e) oj.dst y2) (bk (eK r' H) r' (.sl JG Pw KQ)) r s m (.sl XM Xy Q7):=q1.congr (fun t ht=>(a2 t (lk ht)).symm) rfl rfl;refine⟨⟨aN (eJ r' e) oj.dst y2,bk (eK r' H) r' (.sl JG Pw KQ)⟩,⟨dj,gj,?_⟩,⟨di,gi,?_⟩⟩
   .simp only[me];exact⟨m',_,y2,_,p2,La,rfl⟩
   .simp only[we];refine⟨m,_,y1,_,q2,fin,?_⟩;have k1:AV.kill r' y1=y1:=fin.kill mR;have k2:AV.kill r y2=y2:=La.kill (ann mR);rw[Io,Io,k1,k2,adJ r' r,iL bq,NF rfl,NF rfl,adM r' r,TQ mR]
def WM (P:Program) (T:Ty) (Mv:Nat->Prop) (G:aB) (N:Fr) (la:List (Nat×Nat×Nat)) (av:List (Nat×List Nat)) (ops:Array Oper):List Nat->St->St->Prop:=ja (vh P T Mv G N la av) ops
def OC (la:List (Nat×Nat×Nat)) (av:List (Nat×List Nat)) (ord:List Nat) (ops:Array Oper):Bool:=pJ (y3 la av ops) ord ops
def Am (r:Nat) (e:Env):List Operand->Prop
 | []=>True
 | .tmp t :: l=>(e t).map (AV.kill r)=e t/\Am r e l
 | _ :: l=>Am r e l
theorem Oz {r:Nat} {e:Env}:∀ {l:List Operand},Am r e l->∀ t,Operand.tmp t∈l->e t=eJ r e t
 | [],_,t,ht=>by cases ht
 | p :: l,h,t,ht=>by
  cases p with
  | tmp u=>
   simp only[Am]at h
   rcases amx.1 ht with h1 | h1
   .cases h1;exact h.1.symm
   .exact Oz h.2 t h1
  | _=>
   simp only[Am]at h
   rcases amx.1 ht with h1 | h1
   .cases h1
   .exact Oz h t h1
def ye (rs:List Nat) (ps:List Operand) (e:Env) (x:AV):Prop:=match rs with
 | []=>True
 | r :: rs=>(Am r e ps/\x.kill r=x)/\ye rs ps e x
theorem I0 {o:Oper} {e:Env} {x:AV}:∀ {rs:List Nat},ye rs o.op.operands.toList e x->∀ r∈rs,J4 r o e x
 | [],_,r,hr=>by cases hr
 | q :: rs,h,r,hr=>by
  simp only[ye]at h
  rcases amx.1 hr with rfl | hr
  .exact⟨fun t ht=>Oz h.1.1 t (by simpa using ht),h.1.2⟩
  .exact I0 h.2 r hr
def pj (P:Program) (G:aB) (c:Call) (e:Env) (dst:Option Tmp) (H:Heap) (rs:List Nat) (ps:List Operand) (next:St->Prop):Prop:=∃ y g ds,kV G e c=some (g,ds.map .d)/\aD P G g ds y/\ye rs ps e (.d y)/\next ⟨aN e dst (.d y),H⟩
theorem pj.mk {c:Call} {e:Env} {dst:Option Tmp} {H:Heap} {rs:List Nat} {ps:List Operand} {next:St->Prop} {g:FuncId} {xs:List AV} {ds jd:List D} {y:D} (hc:aD P G g ds y) (ht:kV G e c=some (g,xs)) (hx:nd xs=some jd) (hle:D.le.go jd ds)
  (ho:ye rs ps e (.d y)) (h:next ⟨aN e dst (.d y),H⟩):pj P G c e dst H rs ps next:=⟨y,g,jd,by rw[ht,r8 hx],hc.wV hle,ho,h⟩
def Dx (Mv:Nat->Prop) (dst:Option Tmp) (r s:Nat) (z:AV) (σ:St) (next:St->Prop):Prop:=
 if s=r then match σ.H r,z with
  | some (.sl ty sz els),.own _ _ m=>Mv r/\m=els.length/\next ⟨aN σ.env dst (.d (.sl none els)),bk σ.H r (.sl ty sz [])⟩
  | _,_=>False
 else next ⟨aN σ.env dst z,σ.H⟩
def F6 (T:Ty) (Mv:Nat->Prop) (G:aB) (o:Oper) (σ:St) (r s:Nat) (next:St->Prop):Prop:=match A4 o with
 | some (x,y)=>match bJ G σ.env x,bJ G σ.env y with
  | some (.own q _ _),some v=>q=r/\vD s v/\match wr T G Mv σ o with
   | some (c,z,ba)=>c/\Dx Mv o.dst r s z ba next
   | none=>False
  | _,_=>False
 | none=>False
def yh (T:Ty) (G:aB) (Mv:Nat->Prop) (o:Oper) (σ:St) (rs:List Nat) (next:St->Prop):Prop:=
 if ic o.op then match wr T G Mv σ o with
  | some (c,x,aH)=>c/\ye rs o.op.operands.toList σ.env x/\next ⟨aN aH.env o.dst x,aH.H⟩
  | none=>False
 else match rd T G σ o.op with
  | some (c,x)=>c/\ye rs o.op.operands.toList σ.env x/\next ⟨aN σ.env o.dst x,σ.H⟩
  | none=>False
def sX (P:Program) (T:Ty) (Mv:Nat->Prop) (G:aB) (N:Fr) (la:List (Nat×Nat×Nat)) (av:List (Nat×List Nat)) (K:St->Prop):List (Nat×Oper)->St->Prop
 | [],σ=>K σ
 | (i,o) :: rest,σ=>fb N o/\o.guard=none/\match la.lookup i with
  | some (r,s)=>F6 T Mv G o σ r s (sX P T Mv G N la av K rest)
  | none=>kindOf o.op≠9/\match eD o.op with
   | some c=>pj P G c σ.env o.dst σ.H (w6 av i) o.op.operands.toList (sX P T Mv G N la av K rest)
   | none=>yh T G Mv o σ (w6 av i) (sX P T Mv G N la av K rest)
def b8 (ops:Array Oper):List Nat->List (Nat×Oper)
 | []=>[]
 | i :: l=>match ops[i]? with
  | some o=>(i,o) :: b8 ops l
  | none=>b8 ops l
theorem ajz {K:St->Prop}:∀ (l:List Nat) (σ:St),(∀ i∈l,i < ops.size)->sX P T Mv G N la av K (b8 ops l) σ->∃ cF,K cF/\WM P T Mv G N la av ops l σ cF:=by
 intro l
 induction l with
 | nil=>intro σ _ h;exact⟨σ,h,rfl⟩
 | cons i l ih=>
  intro σ hl h;have hi:=hl i ak
  have ho:ops[i]? = some ops[i]:=by simp[hi]
  simp only[b8,ho]at h;generalize ops[i]=o at ho h;simp only[sX]at h;obtain⟨hd,dJ,h⟩:=h
  have fin:∀ ba,vh P T Mv G N la av i o σ ba->sX P T Mv G N la av K (b8 ops l) ba->∃ cF,K cF/\WM P T Mv G N la av ops (i :: l) σ cF:=fun ba hs h1=>by
   obtain⟨cF,hk,hr⟩:=ih ba (fun j hj=>hl j (by simp[hj])) h1;exact⟨cF,hk,o,ho,ba,hs,hr⟩
  cases p5:la.lookup i with
  | some rs=>
   obtain⟨r,s⟩:=rs;simp only[p5]at h;unfold F6 at h;split at h
   .rename_i x y acQ;split at h
    .rename_i q off n v hx hy;obtain⟨rfl,hs,h⟩:=h;split at h
     .rename_i c z ba hw;obtain⟨hc,h⟩:=h;obtain⟨e,H⟩:=σ;obtain⟨m,row,DX,rfl,rfl⟩:=lr.of acQ hx hy hs hw hc;unfold Dx at h;split at h
      .obtain⟨⟨ty,sz,els,rfl⟩,_⟩:=DX.row;simp only[bk,if_true]at h;obtain⟨hm,wm,h⟩:=h;refine fin _ ⟨hd,dJ,?_⟩ h;simp only[p5];refine⟨m,_,_,_,DX,.inr ⟨hm,ty,sz,els,rfl,wm,rfl,rfl⟩,?_⟩;congr 1;funext q';by_cases p8:q'=q<;>simp[bk,p8]
      .refine fin _ ⟨hd,dJ,?_⟩ h;simp only[p5];exact⟨m,row,_,_,DX,.inl ⟨rfl,rfl⟩,rfl⟩
     .exact h.elim
    .exact h.elim
   .exact h.elim
  | none=>
   simp only[p5]at h;obtain⟨hk,h⟩:=h;split at h
   .rename_i c hc;obtain⟨y,g,ds,ht,hp,iH,h⟩:=h;refine fin _ ⟨hd,dJ,?_⟩ h;simp only[p5];refine⟨hk,.d y,σ.H,?_,rfl,I0 iH,fun _ c' eI=>?_⟩
    .unfold Ex;simp only[hc];exact⟨y,⟨g,_,ht,.inl ⟨ds,rfl,hp⟩⟩,rfl,trivial⟩
    .rw[hc]at eI;obtain rfl:=AI eI;exact⟨y,g,ds,ht,hp,rfl⟩
   .rename_i hc;unfold yh at h;split at h
    .rename_i hw;split at h
     .rename_i c x ba h1;obtain⟨cU,iH,h⟩:=h;have he:=CT hk h1;obtain⟨e,H⟩:=σ;obtain⟨e1,H1⟩:=ba;dsimp only at he;subst he;refine fin _ ⟨hd,dJ,?_⟩ h;simp only[p5];refine⟨hk,x,H1,?_,rfl,I0 iH,fun _ c' eI=>?_⟩
      .unfold Ex;simp only[hc];rw[if_pos hw];exact⟨c,h1,cU⟩
      .rw[hc]at eI;cases eI
     .exact h.elim
    .rename_i hw;split at h
     .rename_i c x h1;obtain⟨cU,iH,h⟩:=h;refine fin _ ⟨hd,dJ,?_⟩ h;simp only[p5];refine⟨hk,x,σ.H,?_,rfl,I0 iH,fun _ c' eI=>?_⟩
      .unfold Ex;simp only[hc];rw[if_neg hw];exact⟨c,h1,cU,trivial⟩
      .rw[hc]at eI;cases eI
     .exact h.elim
theorem P8 (hg:Good P T) (hm:P.follows .mixedOrders=true) (la:List (Nat×Nat×Nat)) (av:List (Nat×List Nat)) (ord:List Nat) {id:Nat} (cf:OC la av ord ops=true) {Q:Exit->St->Prop} {σ:St} (h:sX P T Mv G N la av (fun aH=>Q .normal aH) (b8 ops ord) σ):AW P Mv X G N (.region id ops true) Q σ:=wY (Step:=vh P T Mv G N la av) (cp:=y3 la av ops) hm (fun i o ho σ aH h w μ a hi _ _ hk=>by
  obtain⟨P2,eV,himp⟩:=h.step (ops:=ops) (X:=X);refine AH hg eV hi ho fun w' aI a' aR nu=>?_;obtain⟨ku,uE,v7⟩:=himp w' aI a' aR
  exact hk w' ku a' uE (nu.trans v7)) (fun i j oi oj _ _ hc σ ba iB h1 h2=>aeM hc h1 h2) ord cf fun aG=>ajz ord σ aG h
theorem JW (hg:Good P T) (hm:P.follows .mixedOrders=true) (la:List (Nat×Nat×Nat)) (av:List (Nat×List Nat)) (ord:List Nat) (l ns:List Nat) (hM:∀ r,ns.contains r=false->Mv r) {id:Nat} (cf:OC la av ord ops=true) {y:Code} {Q:Exit->St->Prop} {σ:St}
  (h:∀ K:St->Prop,(∀ τ:St,AW P Mv X G N y Q (τ.norm l ns)->K τ)->sX P T Mv G N la av K (b8 ops ord) σ):AW P Mv X G N (.seq (.region id ops true) y) Q σ:=
 tZ (P8 hg hm la av ord cf (h _ fun _ h=>h.norm l ns hM))
theorem CU (hg:Good P T) (hm:P.follows .mixedOrders=true) (la:List (Nat×Nat×Nat)) (av:List (Nat×List Nat)) (ord:List Nat) {id:Nat} (cf:OC la av ord ops=true) {Q:Exit->St->Prop} {σ:St}
  (h:∀ K:St->Prop,(∀ τ:St,Q .normal τ->K τ)->sX P T Mv G N la av K (b8 ops ord) σ):AW P Mv X G N (.region id ops true) Q σ:=P8 hg hm la av ord cf (h _ fun _ h=>h)
end
end Go.Av
namespace Go.Av
section
variable {P:Program} {T:Ty} {Mv X:Nat->Prop} {G:aB} {N:Fr} {σ:St}
theorem du (l:List (Nat×AV)) (i:Nat) (x:AV):iz (bg l) i x=bg ((i,x) :: l):=by
 funext j;simp only[iz,bg,List.lookup];by_cases h:j=i
 .subst h;simp
 .have:(j == i)=false:=by simpa using h
  simp[h,this]
theorem Np (l:List (Nat×Row)) (i:Nat) (x:Row):bk (aw l) i x=aw ((i,x) :: l):=by
 funext j;simp only[bk,aw,List.lookup];by_cases h:j=i
 .subst h;simp
 .have:(j == i)=false:=by simpa using h
  simp[h,this]
theorem N3 {α β:Type} (f:α->β) (l:List (Nat×α)) (i:Nat):(l.map fun p=>(p.1,f p.2)).lookup i=(l.lookup i).map f:=by
 induction l with
 | nil=>rfl
 | cons p l ih=>
  simp only[amE,List.lookup];cases h:(i == p.1)<;>simp[ih]
theorem adK (r:Nat) (l:List (Nat×AV)):eJ r (bg l)=bg (l.map fun p=>(p.1,p.2.kill r)):=by
 funext j;simp only[eJ,bg,N3]
theorem adL (r:Nat) (l:List (Nat×Row)):eK r (aw l)=aw (l.map fun p=>(p.1,p.2.kill r)):=by
 funext j;simp only[eK,aw,N3]
theorem ajW (o f:Nat->Nat->Nat->AV) (l:List (Nat×AV)):mz o f (bg l)=bg (l.map fun p=>(p.1,p.2.tr o f)):=by
 funext j;simp only[mz,bg,N3]
theorem acM:ji=aw []:=rfl
def Pq (P:Program) (T:Ty) (Mv X:Nat->Prop) (G:aB) (N:Fr) (ops:Array Oper) (o:Oper) (σ:St) (K:St->Prop):Prop:=fb N o/\match jx ops σ.env o with
 | some b=>if b=true then uu P T Mv X G N o σ K else K ⟨aN σ.env o.dst dI,σ.H⟩
 | none=>False
def Xo (P:Program) (T:Ty) (Mv:Nat->Prop) (G:aB) (N:Fr) (ops:Array Oper) (o:Oper) (σ:St) (K:St->Prop):Prop:=fb N o/\match jx ops σ.env o with
 | some b=>if b=true then (match eD o.op with
  | some c=>nj P G c σ o.dst K
  | none=>rY T G Mv o σ K) else K ⟨aN σ.env o.dst dI,σ.H⟩
 | none=>False
def Xr (P:Program) (T:Ty) (Mv:Nat->Prop) (G:aB) (N:Fr) (la:List (Nat×Nat×Nat)) (av:List (Nat×List Nat)) (i:Nat) (o:Oper) (σ:St) (K:St->Prop):Prop:=fb N o/\o.guard=none/\match la.lookup i with
 | some (r,s)=>F6 T Mv G o σ r s K
 | none=>kindOf o.op≠9/\match eD o.op with
  | some c=>pj P G c σ.env o.dst σ.H (w6 av i) o.op.operands.toList K
  | none=>yh T G Mv o σ (w6 av i) K
theorem aK {ops:Array Oper} {K:St->Prop} {o:Oper} {rest:List Oper} (h:∀ K':St->Prop,(∀ τ,lp P T Mv X G N ops K rest τ->K' τ)->Pq P T Mv X G N ops o σ K'):lp P T Mv X G N ops K (o :: rest) σ:=h _ fun _ h=>h
theorem gC {ops:Array Oper} {K:St->Prop} {o:Oper} {rest:List Oper} (h:∀ K':St->Prop,(∀ τ,qs P T Mv G N ops K rest τ->K' τ)->Xo P T Mv G N ops o σ K'):qs P T Mv G N ops K (o :: rest) σ:=h _ fun _ h=>h
theorem bH {ops:Array Oper} {K:St->Prop} (h:K σ):lp P T Mv X G N ops K [] σ:=h
theorem o8 {ops:Array Oper} {K:St->Prop} (h:K σ):qs P T Mv G N ops K [] σ:=h
end
end Go.Av
namespace Go.Av
theorem ajX (k:Nat->Bool) (o f:Nat->Nat->Nat->AV) (l:List (Nat×Row)):fi k o f (aw l)=aw (l.filterMap fun p=>if k p.1=true then some (p.1,p.2.tr o f) else none):=by
 funext i;unfold fi aw
 induction l with
 | nil=>simp
 | cons p l ih=>
  obtain⟨j,r⟩:=p;simp only[List.lookup_cons,List.filterMap_cons];by_cases qI:i=j
  .subst qI;cases hk:k i
   .simp[hk]at ih ⊢;exact ih
   .simp
  .have hb:(i == j)=false:=by simpa using qI
   rw[hb];cases hk:k j
   .simpa using ih
   .simp only[if_true,List.lookup_cons,hb];exact ih
section
variable {P:Program} {Mv X:Nat->Prop} {G:aB} {N:Fr} {w w':World} {μ:Mu} {a:Act} {σ:St}
theorem qZ {T:Ty} {ops:Array Oper} {la:List (Nat×Nat×Nat)} {av:List (Nat×List Nat)} {K:St->Prop} {i:Nat} {l:List Nat} {o:Oper} (ho:ops[i]? = some o) (h:∀ K':St->Prop,(∀ τ,sX P T Mv G N la av K (b8 ops l) τ->K' τ)->Xr P T Mv G N la av i o σ K'):sX P T Mv G N la av K (b8 ops (i :: l)) σ:=by
 have:b8 ops (i :: l)=(i,o) :: b8 ops l:=by simp[b8,ho]
 rw[this];exact h _ fun _ h=>h
theorem yA {T:Ty} {ops:Array Oper} {la:List (Nat×Nat×Nat)} {av:List (Nat×List Nat)} {K:St->Prop} (h:K σ):sX P T Mv G N la av K (b8 ops []) σ:=h
theorem aL.s6 (b j r ty sz:Nat) {e:Env} {H:Heap} {tb:TypeId} {cells:List AV} (hb:H b=some (.box tb cells)) (hr:H r=none) (hc:cells[j]? = some (.d (.sl (some false) []))) :
  aL Mv X G N ⟨e,H⟩ ⟨e,bk (bk H r (.sl ty sz [])) b (.box tb (cells.set j (.own r 0 0)))⟩:=fun w μ a hi=>by
 obtain⟨aR,ev⟩:=hi.alloc (Mv:=Mv) (w':=w) (m:=⟨none,sz,0⟩) hr (cX.refl w) ak (row:=.sl ty sz []) fun _=>.nil rfl rfl
 have hrb:b≠r:=fun h=>by subst h;rw[hr]at hb;cases hb
 refine⟨eG μ r ⟨none,sz,0⟩,⟨⟨fun q row hq=>?_,fun q m hm=>?_,aR.bx.inj,aR.bx.frame,aR.bx.fits⟩,aR.env,aR.jA⟩,ev⟩
 .by_cases Ey:q=b
  .subst Ey;simp only[bk,if_true,IT]at hq;subst hq;obtain⟨m,hm,ok⟩:=aR.bx.rows q (.box tb cells) (by simp[bk,hrb,hb]);refine⟨m,hm,?_⟩
   cases ok with
   | box br hs k8 hh hn iu hx=>
    refine .box br rfl k8 hh (by simpa using hn) (hx:=by simpa using hx) fun i u c hu jB=>?_;rw[List.getElem?_set]at jB;split at jB
    .rename_i qI;subst qI;split at jB
     .obtain rfl:=AI jB;have h1:=iu j u _ hu hc;refine .own (m:=⟨none,sz,0⟩) (by simp[eG]) (.inl ⟨rfl,?_,rfl,rfl⟩)
      rcases h1.data.sW with⟨rfl,_⟩ | ⟨_,_,_,hk,_⟩
      .rfl
      .exact absurd rfl hk
     .cases jB
    .exact iu i u c hu jB
  .exact aR.bx.rows q row (by simpa[bk,Ey]using hq)
 .by_cases Ey:q=b
  .exact⟨.box tb (cells.set j (.own r 0 0)),by subst Ey;simp[bk]⟩
  .obtain⟨row,eg⟩:=aR.bx.l5 q m hm;exact⟨row,by simpa[bk,Ey]using eg⟩
end
end Go.Av
namespace Go.Av
section
variable {P:Program} {T:Ty} {Mv X:Nat->Prop} {G:aB} {N:Fr} {σ:St}
def eb (r r' q:Nat):Nat:=if q=r then r' else q
def iN (r r' q off n:Nat):AV:=.own (eb r r' q) off n
def iM (r r' q e j:Nat):AV:=.ref (eb r r' q) e j
def u2 (r r':Nat) (μ:Mu):Mu:=fun q=>if q=r' then μ r else if q=r then none else μ q
def sT (r r':Nat) (H:Heap):Heap:=fun q=>(if q=r' then H r else if q=r then none else H q).map (Row.tr (iN r r') (iM r r'))
theorem CI {r r' q:Nat} {m:jZ} {μ:Mu} (h:u2 r r' μ q=some m):∃ p,μ p=some m/\q=eb r r' p:=by
 unfold u2 at h;split at h
 .rename_i e;exact⟨r,h,by simp[eb,e]⟩
 .split at h
  .cases h
  .rename_i e1 e2;exact⟨q,h,by simp[eb,e2]⟩
theorem OX {r r' p:Nat} {m:jZ} {μ:Mu} (h0:μ r'=none) (h:μ p=some m):u2 r r' μ (eb r r' p)=some m:=by
 unfold u2 eb;by_cases e:p=r
 .subst e;simp[h]
 .have e2:p≠r':=fun e2=>by rw[e2,h0]at h;cases h
  simp[e,e2,h]
theorem In.eb {w:World} {μ:Mu} {a:Act} {r r':Nat} (hi:In w X G μ N a σ) (hH:σ.H r'=none):In w X G (u2 r r' μ) N a ⟨mz (iN r r') (iM r r') σ.env,sT r r' σ.H⟩:=by
 have h0:μ r'=none:=hi.bx.uZ hH;have hX:∀ b,XX X (u2 r r' μ) b->XX X μ b:=fun b hb=>hb.elim .inl fun ⟨q,m,hq,lA⟩=>let ⟨p,hp,_⟩:=CI hq;.inr ⟨p,m,hp,lA⟩;have vI:∀ {u:Value} {x:D},RD w (XX X μ) u x->RD w (XX X (u2 r r' μ)) u x:=fun h=>h.mono (amh _) fun b _ hb=>⟨rfl,fun e=>hb (hX b e)⟩
 have DU:∀ {u:Value} {x:AV},RV w X μ u x->RV w X (u2 r r' μ) u (x.tr (iN r r') (iM r r')):=fun h=>RV.tr hX (fun u q off n h=>by
  obtain⟨m,hm,hh⟩:=h.ml
  exact .own (OX h0 hm) hh) (fun u q e j h=>by
  obtain⟨m,b,hm,hb,rfl⟩:=h.mo
  exact .ref (OX h0 hm) hb) h
 refine⟨⟨fun q row hr=>?_,fun q m hr=>?_,fun q q' m1 m2 b h1 h2 e9 fk=>?_,fun q mq b hq hb=>?_,hi.bx.fits⟩,
  ⟨hi.env.defers,hi.env.size,fun i x hx=>?_⟩,fun g x hx=>vI (hi.jA g x hx)⟩
 .obtain⟨qo,zN,rfl⟩:=AS.1 hr
  have:∃ p,σ.H p=some qo/\q=Go.Av.eb r r' p:=by
   split at zN
   .rename_i e;exact⟨r,zN,by simp[Go.Av.eb,e]⟩
   .split at zN
    .cases zN
    .rename_i e1 e2;exact⟨q,zN,by simp[Go.Av.eb,e2]⟩
  obtain⟨p,hp,rfl⟩:=this;obtain⟨m,hm,ok⟩:=hi.bx.rows p qo hp;refine⟨m,OX h0 hm,?_⟩
  cases ok with
  | nil h1 h2=>exact .nil h1 h2
  | sl h1 h2 h3 h4 h5 h6 h7 h8 h9=>exact .sl h1 h2 h3 h4 h5 h6 h7 h8 fun i j el c he hc=>let ⟨u,hu,hr⟩:=h9 i j el c he hc;⟨u,hu,vI hr⟩
  | box h1 h2 h3 h4 h5 h6 h7=>
   refine .box h1 rfl h3 h4 (by simpa using h5) (fun j u c hu hc=>?_) (by simpa using h7);rw[amm]at hc;obtain⟨c',eI,rfl⟩:=AS.1 hc;exact DU (h6 j u c' hu eI)
  | mp h1 h2 h3 h4=>exact .mp h1 h2 h3 fun i e p he hp=>let ⟨a,b,c⟩:=h4 i e p he hp;⟨a,b,vI c⟩
  | it h1 h2 h3=>exact .it h1 h2 (vI h3)
 .obtain⟨p,hp,rfl⟩:=CI hr;obtain⟨row,eg⟩:=hi.bx.l5 p m hp;refine⟨row.tr (iN r r') (iM r r'),?_⟩
  have bq:p≠r':=fun e=>by rw[e,h0]at hp;cases hp
  show sT r r' σ.H _=_;unfold sT Go.Av.eb;by_cases e:p=r
  .subst e;simp[eg]
  .simp[e,bq,eg]
 .obtain⟨p1,jv,rfl⟩:=CI h1;obtain⟨p2,gZ,rfl⟩:=CI h2;rw[hi.bx.inj p1 p2 m1 m2 b jv gZ e9 fk]
 .obtain⟨p,hp,rfl⟩:=CI hq;exact hi.bx.frame p mq b hp hb
 .replace hx:mz (iN r r') (iM r r') σ.env i=some x:=hx;unfold mz at hx;obtain⟨x0,GY,rfl⟩:=AS.1 hx;obtain⟨u,hu,hr⟩:=hi.env.slot i x0 GY;exact⟨u,hu,DU hr⟩
theorem aL.eb {r r':Nat} (hm:Mv r) (hH:σ.H r'=none):aL Mv X G N σ ⟨mz (iN r r') (iM r r') σ.env,sT r r' σ.H⟩:=fun w μ a hi=>
 ⟨u2 r r' μ,hi.eb hH,⟨amh _,rfl,rfl,rfl,fun b hb hr=>⟨rfl,fun ⟨q,m,hq,lA⟩=>let ⟨p,hp,_⟩:=CI hq;hr ⟨p,m,hp,lA⟩⟩,fun q m hq hn=>by
  have h1:q≠r:=fun e=>hn (e ▸ hm)
  have h2:q≠r':=fun e=>by rw[e,hi.bx.uZ hH]at hq;cases hq
  simp only[u2,if_neg h1,if_neg h2]
  exact hq⟩⟩
theorem aL.XF (r:Nat) {e:Env} {H:Heap} {ty:Nat} {els:List (List D)} (hH:H r=some (.sl ty 1 els)) (bq:els≠[]) (hT:ty≠QB:=by decide):aL Mv X G N ⟨e,H⟩ ⟨e,bk H r (.box ty (els.map fun el=>.d (el.headD (.v .nilFunc))))⟩:=fun w μ a hi=>by
 refine⟨μ,⟨⟨fun q row hq=>?_,fun q m hq=>?_,hi.bx.inj,hi.bx.frame,hi.bx.fits⟩,⟨hi.env.defers,hi.env.size,hi.env.slot⟩,hi.jA⟩,.refl _ w μ⟩
 .replace hq:bk H r _ q=some row:=hq;unfold bk at hq;split at hq
  .rename_i e;subst e;obtain rfl:=AI hq;obtain⟨m,hm,ok⟩:=hi.bx.rows q _ hH;refine⟨m,hm,?_⟩
   cases ok with
   | nil h1 h2=>exact absurd rfl bq
   | sl h1 h2 h3 h4 h5 h6 h7 h8 h9=>
    refine .box h1 rfl h6 h3 (by simp;omega) (hx:=fun e=>absurd e hT) fun j u c hu hc=>?_;rw[amm]at hc;obtain⟨el,bn,rfl⟩:=AS.1 hc;have hl:=h7 el (amZ bn)
    match el,hl with
    | [c],_=>
     obtain⟨u',iR,bQ⟩:=h9 j 0 [c] c bn rfl;simp only[anx,anj]at iR;rw[hu]at iR;obtain rfl:=AI iR;exact .d bQ
  .exact hi.bx.rows q row hq
 .obtain⟨row,eg⟩:=hi.bx.l5 q m hq;by_cases e:q=r
  .exact⟨_,if_pos e⟩
  .exact⟨row,(if_neg e).trans eg⟩
end
end Go.Av
namespace Go.Av
def Cf:Op->Bool
 | .load _ _=>true
 | .indexAddr _ _ _=>true
 | .slice _ _ _ _ _=>true
 | .store _ _ _=>true
 | .mapUpdate _ _ _ _=>true
 | _=>false
def uC (r:Nat):AV->Prop
 | .ref q _ _=>q=r
 | .own q _ _=>q=r
 | .d _=>True
 | _=>False
def yf (G:aB) (e:Env) (o:Op) (r:Nat):Prop:=match o with
 | .load _ p=>match bJ G e p with
  | some v=>uC r v
  | none=>False
 | .indexAddr _ p _=>match bJ G e p with
  | some v=>uC r v
  | none=>False
 | .slice _ p _ _ _=>match bJ G e p with
  | some v=>uC r v
  | none=>False
 | .store _ p _=>match bJ G e p with
  | some (.ref q _ _)=>q=r
  | _=>False
 | .mapUpdate _ p _ _=>match bJ G e p with
  | some (.mp q)=>q=r
  | _=>False
 | _=>False
def sZ (G:aB) (fp:List (Nat×Nat)) (e:Env) (i:Nat) (o:Op):Prop:=match fp.lookup i with
 | some r=>yf G e o r
 | none=>True
def A9 (fp:List (Nat×Nat)) (ops:Array Oper) (i j:Nat) (oi oj:Oper):Bool:=lx ops oi oj || (oi.apart ops oj && Cf oi.op && Cf oj.op && match fp.lookup i,fp.lookup j with
 | some r,some r'=>!(r == r')
 | _,_=>false)
section
variable {P:Program} {T:Ty} {Mv X:Nat->Prop} {G:aB} {N:Fr} {ops:Array Oper} {fp:List (Nat×Nat)}
def oA (H:Heap) (r:Nat):Option Row->Heap
 | none=>H
 | some row=>bk H r row
theorem Ja {H:Heap} {r q:Nat} {u:Option Row} (h:q≠r):oA H r u q=H q:=by
 cases u with
 | none=>rfl
 | some row=>simp[oA,bk,h]
theorem VY {H:Heap} {r q:Nat} {u v:Option Row} (h:r≠q):oA (oA H r u) q v=oA (oA H q v) r u:=by
 cases u<;>cases v<;>try rfl
 funext i;by_cases h1:i=r<;>by_cases h2:i=q<;>simp[oA,bk,h1,h2,h,ann h]
theorem aeH {H H2:Heap} {t:TypeId} {v:AV} {r:Nat} (hv:uC r v) (h:H2 r=H r):pH T H2 t v=pH T H t v:=by
 cases v with
 | d x=>cases x<;>rfl
 | ref q ee j=>simp only[uC]at hv;subst hv;simp only[pH,h]
 | own q off n=>rfl
 | _=>exact hv.elim
theorem ads {H H2:Heap} {t:TypeId} {v y:AV} {r:Nat} (hv:uC r v) (h:H2 r=H r):sN T H2 t v y=sN T H t v y:=by
 cases v with
 | d x=>cases x<;>(cases y<;>first | rfl | (rename_i z;cases z<;>first | rfl | (rename_i z;cases z<;>rfl)))
 | ref q ee j=>cases y<;>first | rfl | (rename_i z;cases z<;>first | rfl | (rename_i z;cases z<;>rfl))
 | own q off n=>
  simp only[uC]at hv;subst hv
  cases y with
  | d z=>cases z with
   | v z=>cases z<;>first | rfl | simp only[sN,h]
   | _=>rfl
  | _=>rfl
 | _=>exact hv.elim
theorem ai5 {H H2:Heap} {t:TypeId} {v:AV} {lo hi:Option Int} {r:Nat} (hv:uC r v) (h:H2 r=H r):tV T H2 t v lo hi=tV T H t v lo hi:=by
 cases v with
 | d x=>cases x<;>first | rfl | (rename_i z;cases z<;>rfl)
 | ref q ee j=>rfl
 | own q off n=>simp only[uC]at hv;subst hv;simp only[tV,h]
 | _=>exact hv.elim
theorem Ex.JE {o:Oper} {e:Env} {H H':Heap} {x:AV} {r:Nat} (ht:yf G e o.op r) (h:Ex P T Mv G o e H x H') :
  ∃ u,H'=oA H r u/\∀ H2,H2 r=H r->Ex P T Mv G o e H2 x (oA H2 r u):=by
 obtain⟨dst,op,type,pos,after,guard⟩:=o;dsimp only at ht;cases op<;>simp only[yf]at ht
 case load t p=>
  split at ht
  .rename_i v hp;refine⟨none,?_,fun H2 h2=>?_⟩
   .unfold Ex at h;simp only[eD,ic,amn,if_false]at h;obtain⟨c,_,_,rfl⟩:=h;rfl
   .unfold Ex at h ⊢;simp only[eD,ic,amn,if_false]at h ⊢;obtain⟨c,h1,h3,rfl⟩:=h;refine⟨c,?_,h3,rfl⟩;simp only[rd,hp,an3]at h1 ⊢;rw[aeH ht h2];exact h1
  .exact ht.elim
 case indexAddr t p y=>
  split at ht
  .rename_i v hp;refine⟨none,?_,fun H2 h2=>?_⟩
   .unfold Ex at h;simp only[eD,ic,amn,if_false]at h;obtain⟨c,_,_,rfl⟩:=h;rfl
   .unfold Ex at h ⊢;simp only[eD,ic,amn,if_false]at h ⊢;obtain⟨c,h1,h3,rfl⟩:=h;refine⟨c,?_,h3,rfl⟩;simp only[rd,hp]at h1 ⊢
    cases hy:bJ G e y with
    | none=>simp[hy]at h1
    | some b=>simp only[hy]at h1 ⊢;rw[ads ht h2];exact h1
  .exact ht.elim
 case slice t p lo hi mx=>
  split at ht
  .rename_i v hp;refine⟨none,?_,fun H2 h2=>?_⟩
   .unfold Ex at h;simp only[eD,ic,amn,if_false]at h;obtain⟨c,_,_,rfl⟩:=h;rfl
   .unfold Ex at h ⊢;simp only[eD,ic,amn,if_false]at h ⊢;obtain⟨c,h1,h3,rfl⟩:=h;refine⟨c,?_,h3,rfl⟩;simp only[rd,hp]at h1 ⊢;by_cases iq:mx.isNone=true
    .rw[if_pos iq]at h1 ⊢
     cases zI:bound G e lo with
     | none=>simp[zI]at h1
     | some l=>
      cases BQ:bound G e hi with
      | none=>simp[zI,BQ]at h1
      | some l2=>simp only[zI,BQ]at h1 ⊢;rw[ai5 ht h2];exact h1
    .rw[if_neg iq]at h1;cases h1
  .exact ht.elim
 case store t p y=>
  split at ht
  .rename_i q ee j hp;subst ht;unfold Ex at h;simp only[eD,ic,if_true]at h;obtain⟨c,h1,h3⟩:=h
   cases dst with
   | some d=>simp[wr]at h1
   | none=>
    simp only[wr,hp]at h1
    cases hy:bJ G e y with
    | none=>simp[hy]at h1
    | some v=>
     simp only[hy]at h1;split at h1
     .rename_i ty cells hr;split at h1
      .rename_i he;split at h1
       .rename_i c' xb hs;simp only[IT,amj,St.mk.injEq,true_and]at h1;obtain⟨rfl,rfl,rfl⟩:=h1;refine⟨some (.box ty xb),rfl,fun H2 h2=>?_⟩;unfold Ex;simp only[eD,ic,if_true];exact⟨_,by simp[wr,hp,hy,h2,hr,he,hs,oA],h3⟩
       .cases h1
      .cases h1
     .rename_i ty sz els hr;split at h1
      .rename_i c' pX hs;simp only[IT,amj,St.mk.injEq,true_and]at h1;obtain⟨rfl,rfl,rfl⟩:=h1;refine⟨some (.sl ty sz pX),rfl,fun H2 h2=>?_⟩;unfold Ex;simp only[eD,ic,if_true];exact⟨_,by simp[wr,hp,hy,h2,hr,hs,oA],h3⟩
      .cases h1
     .cases h1
     .cases h1
     .cases h1
  .exact ht.elim
 case mapUpdate t p y z=>
  split at ht
  .rename_i q hp;subst ht;unfold Ex at h;simp only[eD,ic,if_true]at h;obtain⟨c,h1,h3⟩:=h
   cases dst with
   | some d=>simp[wr]at h1
   | none=>
    simp only[wr,hp]at h1;split at h1
    .rename_i r' key dx e1 e2 e3;simp only[IT,AV.mp.injEq]at e1;subst e1;split at h1
     .rename_i ty ents hr;split at h1
      .rename_i c' oQ hs;simp only[IT,amj,St.mk.injEq,true_and]at h1;obtain⟨rfl,rfl,rfl⟩:=h1;refine⟨some (.mp ty oQ),rfl,fun H2 h2=>?_⟩;unfold Ex;simp only[eD,ic,if_true];exact⟨_,by simp[wr,hp,e2,e3,h2,hr,hs,oA],h3⟩
      .cases h1
     .cases h1
    .cases h1
  .exact ht.elim
theorem OE {o:Op} {e e':Env} {r:Nat} (ha:gU o e e') (h:yf G e o r):yf G e' o r:=by
 cases o<;>simp only[yf]at h ⊢<;>try exact h
 case load t p=>
  have:bJ G e p=bJ G e' p:=fE fun t ht=>ha t (by simp[Op.operands,ht]);rw[<- this];exact h
 case indexAddr t p y=>
  have:bJ G e p=bJ G e' p:=fE fun t ht=>ha t (by simp[Op.operands,ht]);rw[<- this];exact h
 case slice t p lo hi mx=>
  have:bJ G e p=bJ G e' p:=fE fun t ht=>ha t (by simp[Op.operands,ht]);rw[<- this];exact h
 case store t p y=>
  have:bJ G e p=bJ G e' p:=fE fun t ht=>ha t (by simp[Op.operands,ht]);rw[<- this];exact h
 case mapUpdate t p y z=>
  have:bJ G e p=bJ G e' p:=fE fun t ht=>ha t (by simp[Op.operands,ht]);rw[<- this];exact h
theorem JF {o:Op} {e e':Env} {i:Nat} (ha:gU o e e') (h:sZ G fp e i o):sZ G fp e' i o:=by
 unfold sZ at h ⊢;split
 .rename_i r hr;simp only[hr]at h;exact OE ha h
 .trivial
def GStep (P:Program) (T:Ty) (Mv:Nat->Prop) (G:aB) (N:Fr) (ops:Array Oper) (fp:List (Nat×Nat)) (i:Nat) (o:Oper) (σ aH:St):Prop:=CN P T Mv G N ops o σ aH/\(jx ops σ.env o=some true->sZ G fp σ.env i o.op)
theorem Z0 {x y:Oper} (h:lx ops x y=true):kindOf x.op≠9/\kindOf y.op≠9:=by
 simp only[lx,OF]at h;obtain⟨_,h⟩:=h;refine⟨fun e=>by rw[e]at h;simp[wI]at h,fun e=>?_⟩;rw[e]at h
 revert h
 rcases kinds x.op with k | k | k | k | k | k<;>rw[k]<;>simp[wI]
theorem Um {o:Op} (h:Cf o=true):kindOf o≠9:=by
 unfold Cf at h;split at h
 .have:=NY ‹_›;simp only[kindOf];omega
 .simp[kindOf]
 .simp[kindOf]
 .simp[kindOf]
 .simp[kindOf]
 .cases h
theorem abi {i j:Nat} {oi oj:Oper} (hc:A9 fp ops i j oi oj=true) {σ ba iB:St} (h1:GStep P T Mv G N ops fp i oi σ ba) (h2:GStep P T Mv G N ops fp j oj ba iB) :
  ∃ jK,GStep P T Mv G N ops fp j oj σ jK/\GStep P T Mv G N ops fp i oi jK iB:=by
 have hk:kindOf oi.op≠9/\kindOf oj.op≠9:=by
  simp only[A9,amU,OF]at hc
  rcases hc with hc | ⟨⟨⟨_,h3⟩,h4⟩,_⟩
  .exact Z0 hc
  .exact⟨Um h3,Um h4⟩
 obtain⟨wc,xF⟩:=hk;obtain⟨s1,t1⟩:=h1;obtain⟨s2,t2⟩:=h2;obtain⟨x,H1,FO,rfl⟩:=(yu wc).1 s1;obtain⟨y,H2,AJ,rfl⟩:=(yu xF).1 s2;obtain⟨e,H⟩:=σ;dsimp only at s1 s2 FO AJ t1 t2 ⊢
 have eO:oi.apart ops oj=true:=by
  simp only[A9,lx,amU,OF]at hc
  rcases hc with hc | hc
  .exact hc.1
  .exact hc.1.1.1
 obtain⟨a1,_,bq⟩:=jz eO (e:=e) (v:=x);obtain⟨_,a2,_⟩:=jz eO (e:=e) (v:=y);have wj:=JJ (o:=oj) (e:=aN e oi.dst x) (e':=e) a1;have wi:=JJ (o:=oi) (e:=aN e oj.dst y) (e':=e) a2;have ft:gU oj.op (aN e oi.dst x) e:=fun t ht=>a1 t (lk ht);have fZ:gU oi.op e (aN e oj.dst y):=fun t ht=>(a2 t (lk ht)).symm
 have main:∃ H3,Sx P T Mv G N ops oj e H y H3/\Sx P T Mv G N ops oi (aN e oj.dst y) H3 x H2:=by
  simp only[A9,amU,OF]at hc
  rcases hc with hc | ⟨_,zA⟩
  .exact A7 hc FO AJ wc xF
  .cases cE:fp.lookup i with
   | none=>simp[cE]at zA
   | some r=>
    cases zz:fp.lookup j with
    | none=>simp[cE,zz]at zA
    | some r'=>
     have hr:r≠r':=by simpa[cE,zz]using zA
     obtain⟨di,FO⟩:=FO;obtain⟨dj,AJ⟩:=AJ;rw[wj]at AJ
     rcases FO with⟨w1,e1⟩ | ⟨w1,rfl,rfl⟩
     .have t1:=t1 w1;simp only[sZ,cE]at t1;obtain⟨u,rfl,NZ⟩:=e1.JE t1
      rcases AJ with⟨w2,e2⟩ | ⟨w2,rfl,rfl⟩
      .have t2:=t2 (by rw[wj];exact w2);simp only[sZ,zz]at t2;have e2:=e2.congr xF ft;obtain⟨u',rfl,N0⟩:=e2.JE (OE ft t2);refine⟨oA H r' u',⟨dj,.inl ⟨w2,N0 H (Ja (ann hr)).symm⟩⟩,⟨di,.inl ⟨by rw[wi];exact w1,?_⟩⟩⟩;rw[VY hr];exact (NZ _ (Ja hr)).congr wc fZ
      .exact⟨H,⟨dj,.inr ⟨w2,rfl,rfl⟩⟩,⟨di,.inl ⟨by rw[wi];exact w1,e1.congr wc fZ⟩⟩⟩
     .rcases AJ with⟨w2,e2⟩ | ⟨w2,rfl,rfl⟩
      .exact⟨H2,⟨dj,.inl ⟨w2,e2.congr xF ft⟩⟩,⟨di,.inr ⟨by rw[wi];exact w1,rfl,rfl⟩⟩⟩
      .exact⟨_,⟨dj,.inr ⟨w2,rfl,rfl⟩⟩,⟨di,.inr ⟨by rw[wi];exact w1,rfl,rfl⟩⟩⟩
 obtain⟨H3,f1,f2⟩:=main;refine⟨⟨aN e oj.dst y,H3⟩,⟨(yu xF).2 ⟨y,H3,f1,rfl⟩,fun hw=>?_⟩,⟨(yu wc).2 ⟨x,H2,f2,by rw[iL bq]⟩,fun hw=>?_⟩⟩
 .exact JF ft (t2 (by rw[wj];exact hw))
 .exact JF fZ (t1 (by rw[<- wi];exact hw))
def WL (P:Program) (T:Ty) (Mv:Nat->Prop) (G:aB) (N:Fr) (ops:Array Oper) (fp:List (Nat×Nat)):List Nat->St->St->Prop:=ja (GStep P T Mv G N ops fp) ops
def OB (fp:List (Nat×Nat)) (ops:Array Oper):Bool:=pJ (A9 fp ops) (List.range ops.size) ops
def stepG (P:Program) (T:Ty) (Mv:Nat->Prop) (G:aB) (N:Fr) (ops:Array Oper) (fp:List (Nat×Nat)) (i:Nat) (o:Oper) (σ:St) (K:St->Prop):Prop:=fb N o/\match jx ops σ.env o with
 | some b=>if b=true then sZ G fp σ.env i o.op/\(match eD o.op with
  | some c=>nj P G c σ o.dst K
  | none=>rY T G Mv o σ K) else K ⟨aN σ.env o.dst dI,σ.H⟩
 | none=>False
def u5 (P:Program) (T:Ty) (Mv:Nat->Prop) (G:aB) (N:Fr) (ops:Array Oper) (fp:List (Nat×Nat)) (K:St->Prop):Nat->List Oper->St->Prop
 | _,[],σ=>K σ
 | i,o :: rest,σ=>stepG P T Mv G N ops fp i o σ (u5 P T Mv G N ops fp K (i+1) rest)
theorem jX {K:St->Prop} {i:Nat} {o:Oper} {rest:List Oper} {σ:St} (h:∀ K':St->Prop,(∀ τ,u5 P T Mv G N ops fp K (i+1) rest τ->K' τ)->stepG P T Mv G N ops fp i o σ K'):u5 P T Mv G N ops fp K i (o :: rest) σ:=h _ fun _ h=>h
theorem lq {K:St->Prop} {i:Nat} {σ:St} (h:K σ):u5 P T Mv G N ops fp K i [] σ:=h
theorem ajy {K:St->Prop}:∀ (l:List Oper) (k:Nat) (σ:St),(∀ j,l[j]? = ops[k+j]?)->u5 P T Mv G N ops fp K k l σ->∃ cF,K cF/\WL P T Mv G N ops fp (List.range' k l.length) σ cF:=by
 intro l
 induction l with
 | nil=>intro k σ _ h;exact⟨σ,h,rfl⟩
 | cons o l ih=>
  intro k σ hl h
  have h0:ops[k]? = some o:=by simpa using (hl 0).symm
  have fh:∀ j,l[j]? = ops[k+1+j]?:=fun j=>by have:=hl (j+1);simpa[am6,anN 1 j]using this
  unfold u5 stepG at h;obtain⟨hd,h⟩:=h;rw[amo,an4]
  have fin:∀ ba,GStep P T Mv G N ops fp k o σ ba->u5 P T Mv G N ops fp K (k+1) l ba->∃ cF,K cF/\WL P T Mv G N ops fp (k :: List.range' (k+1) l.length) σ cF:=by
   intro ba hs hq;obtain⟨cF,hk,hr⟩:=ih (k+1) ba fh hq;exact⟨cF,hk,o,h0,ba,hs,hr⟩
  split at h
  .rename_i b hb;split at h
   .rename_i rC;subst rC;obtain⟨ht,h⟩:=h;split at h
    .rename_i c hc;obtain⟨y,hy,h⟩:=h;refine fin _ ⟨⟨hd,.inl ⟨hb,?_⟩⟩,fun _=>ht⟩ h;unfold po;simp only[hc];exact⟨y,hy,rfl⟩
    .rename_i hc;unfold rY at h;split at h
     .rename_i hw;split at h
      .rename_i c x ba h1;obtain⟨cU,h⟩:=h;refine fin _ ⟨⟨hd,.inl ⟨hb,?_⟩⟩,fun _=>ht⟩ h;unfold po;simp only[hc];rw[if_pos hw];exact⟨c,x,ba,h1,cU,rfl⟩
      .exact h.elim
     .rename_i hw;split at h
      .rename_i c x h1;obtain⟨cU,h⟩:=h;refine fin _ ⟨⟨hd,.inl ⟨hb,?_⟩⟩,fun _=>ht⟩ h;unfold po;simp only[hc];rw[if_neg hw];exact⟨c,x,h1,cU,rfl⟩
      .exact h.elim
   .rename_i rC
    have:b=false:=by simpa using rC
    subst this;refine fin _ ⟨⟨hd,.inr ⟨hb,rfl⟩⟩,fun hw=>by rw[hb]at hw;cases hw⟩ h
  .exact h.elim
theorem P7 (hg:Good P T) (hm:P.follows .mixedOrders=true) (fp:List (Nat×Nat)) {id:Nat} (cf:OB fp ops=true) {Q:Exit->St->Prop} {σ:St} (h:u5 P T Mv G N ops fp (fun aH=>Q .normal aH) 0 ops.toList σ):AW P Mv X G N (.region id ops true) Q σ:=wY (Step:=GStep P T Mv G N ops fp) (cp:=A9 fp ops) hm (fun i o ho σ aH h w μ a hi _ _ hk=>AH hg h.1 hi ho hk) (fun i j oi oj _ _ hc σ ba iB h1 h2=>abi hc h1 h2) _ cf fun _=>by
 have:=ajy ops.toList 0 σ ak h
 rwa [<- anU,amK]at this
theorem qt (hg:Good P T) (hm:P.follows .mixedOrders=true) (fp:List (Nat×Nat)) (l ns:List Nat) (hM:∀ r,ns.contains r=false->Mv r) {id:Nat} (cf:OB fp ops=true) {y:Code} {Q:Exit->St->Prop} {σ:St}
  (h:∀ K:St->Prop,(∀ τ:St,AW P Mv X G N y Q (τ.norm l ns)->K τ)->u5 P T Mv G N ops fp K 0 ops.toList σ):AW P Mv X G N (.seq (.region id ops true) y) Q σ:=
 tZ (P7 hg hm fp cf (h _ fun _ h=>h.norm l ns hM))
theorem tY (hg:Good P T) (hm:P.follows .mixedOrders=true) (fp:List (Nat×Nat)) {id:Nat} (cf:OB fp ops=true) {Q:Exit->St->Prop} {σ:St}
  (h:∀ K:St->Prop,(∀ τ:St,Q .normal τ->K τ)->u5 P T Mv G N ops fp K 0 ops.toList σ):AW P Mv X G N (.region id ops true) Q σ:=P7 hg hm fp cf (h _ fun _ h=>h)
end
end Go.Av
namespace Go.Av
def jS (fx:List Nat) (r:Nat):Prop:=fx.contains r=false
instance (fx:List Nat) (r:Nat):Decidable (jS fx r):=inferInstanceAs (Decidable (_=_))
theorem dT {fx ns:List Nat} (h:fx.all ns.contains=true):∀ r,ns.contains r=false->jS fx r:=fun r hr=>by
 unfold jS
 cases hc:fx.contains r with
 | false=>rfl
 | true=>
  have:=ane.1 h r (am1.1 hc);rw[this]at hr;cases hr
def MC (P:Program) (G:aB) (fx:List Nat) (g:FuncId) (xs:List AV) (H:Heap) (y:AV) (H2:Heap):Prop:=iV P g/\∀ X,P3 P (jS fx) X G g xs H fun x H'=>x=y/\H'=H2
def oG (dX fx:List Nat) (q off n:Nat):AV:=if dX.contains q && !fx.contains q then .dead else .own q off n
def oF (dX fx:List Nat) (q e j:Nat):AV:=if dX.contains q && !fx.contains q then .dead else .ref q e j
def gB (dX:List Nat) (q:Nat):Bool:=!dX.contains q
def oX (H2 H:Heap):Heap:=fun q=>match H2 q with
 | some row=>some row
 | none=>H q
theorem acv (l2 l:List (Nat×Row)):oX (aw l2) (aw l)=aw (l2 ++ l):=by
 funext q
 induction l2 with
 | nil=>rfl
 | cons p l2 ih=>
  unfold oX at ih ⊢;simp only[aw,am7,List.lookup]at ih ⊢;cases h:(q == p.1)<;>simp only[h]at ih ⊢;exact ih
section
variable {P:Program} {T:Ty} {Mv X:Nat->Prop} {G:aB} {N:Fr} {w:World} {μ:Mu} {a:Act} {σ:St}
theorem RV.AN {w':World} {X':Nat->Prop} {aI:Mu} {o f:Nat->Nat->Nat->AV} (hD:∀ u d,RD w (XX X μ) u d->RD w' (XX X' aI) u d) (ho:∀ u r off n,RV w X μ u (.own r off n)->RV w' X' aI u (o r off n)) (hf:∀ u r e j,RV w X μ u (.ref r e j)->RV w' X' aI u (f r e j)) :
  ∀ {v:Value} {x:AV},RV w X μ v x->RV w' X' aI v (x.tr o f):=by
 intro v x hr
 induction hr with
 | d h'=>exact .d (hD _ _ h')
 | own hm h'=>exact ho _ _ _ _ (.own hm h')
 | ref hm hb=>exact hf _ _ _ _ (.ref hm hb)
 | agg hn _ ih=>
  rw[AV.tr,AV.CO];refine E3 (.agg (by simpa using hn) fun j u c hu hc=>?_);rw[amm]at hc;obtain⟨c',eI,rfl⟩:=AS.1 hc;exact ih j u c' hu eI
 | bz hn _ ih=>
  rw[AV.tr,AV.CO];refine IF (.bz (by simpa using hn) fun j u c hu hc=>?_);rw[amm]at hc;obtain⟨c',eI,rfl⟩:=AS.1 hc;exact ih j u c' hu eI
 | cC _ ih=>exact Oc ih
 | bm _ ih=>exact .bm ih
 | fn hn _ ih=>
  rw[AV.tr,AV.CO];refine Ob (by simpa using hn) fun j u c hu hc=>?_;rw[amm]at hc;obtain⟨c',eI,rfl⟩:=AS.1 hc;exact ih j u c' hu eI
 | mp hm hb=>
  rename_i r b m;have h0:=hf _ _ _ _ (RV.ref (e:=0) (j:=0) hm hb);unfold AV.tr;split
  .rename_i q' e' j' hq;rw[hq]at h0;obtain⟨m',b',cL,br,e⟩:=h0.mo;simp only[Value.pointer.injEq,IT,Addr.mk.injEq]at e;obtain⟨rfl,_⟩:=e;exact .mp cL br
  .exact .dead _
 | dead u=>exact .dead u
theorem RV.lift {w':World} {X':Nat->Prop} {aI:Mu} (hD:∀ u d,RD w (XX X μ) u d->RD w' (XX X' aI) u d) (gS:∀ q m,μ q=some m->aI q=some m):∀ {v:Value} {x:AV},RV w X μ v x->RV w' X' aI v x:=by
 intro v x hr
 induction hr with
 | d h'=>exact .d (hD _ _ h')
 | own hm h'=>exact .own (gS _ _ hm) h'
 | ref hm hb=>exact .ref (gS _ _ hm) hb
 | agg hn _ ih=>exact .agg hn ih
 | bz hn _ ih=>exact .bz hn ih
 | cC _ ih=>exact .cC ih
 | bm _ ih=>exact .bm ih
 | fn hn _ ih=>exact .fn hn ih
 | mp hm hb=>exact .mp (gS _ _ hm) hb
 | dead u=>exact .dead u
theorem kY.AN {w':World} {X':Nat->Prop} {aI:Mu} {o f:Nat->Nat->Nat->AV} {m:jZ} (hb:∀ b,m.fT=some b->w'.heap[b]? = w.heap[b]?) (hD:∀ u d,RD w (XX X μ) u d->RD w' (XX X' aI) u d) (hV:∀ u x,RV w X μ u x->RV w' X' aI u (x.tr o f)) {row:Row} (ok:kY w X μ m row):kY w' X' aI m (row.tr o f):=by
 cases ok with
 | nil h1 h2=>exact .nil h1 h2
 | sl h1 h2 h3 h4 h5 h6 h7 h8 h9=>exact .sl h1 h2 ((hb _ h1).trans h3) h4 h5 h6 h7 h8 fun i j el c he hc=>let ⟨u,hu,hr⟩:=h9 i j el c he hc;⟨u,hu,hD _ _ hr⟩
 | box h1 h2 h3 h4 h5 h6 h7=>
  refine .box h1 rfl h3 ((hb _ h1).trans h4) (by simpa using h5) (hx:=by simpa using h7) fun j u c hu hc=>?_;rw[amm]at hc;obtain⟨c',eI,rfl⟩:=AS.1 hc;exact hV _ _ (h6 j u c' hu eI)
 | mp h1 h2 h3 h4=>exact .mp h1 ((hb _ h1).trans h2) h3 fun i e p he hp=>let ⟨a,b,c⟩:=h4 i e p he hp;⟨a,b,hD _ _ c⟩
 | it h1 h2 h3=>exact .it h1 ((hb _ h1).trans h2) (hD _ _ h3)
theorem kY.lift {w':World} {X':Nat->Prop} {aI:Mu} {m:jZ} (hb:∀ b,m.fT=some b->w'.heap[b]? = w.heap[b]?) (hD:∀ u d,RD w (XX X μ) u d->RD w' (XX X' aI) u d) (gS:∀ q m,μ q=some m->aI q=some m) {row:Row} (ok:kY w X μ m row):kY w' X' aI m row:=by
 cases ok with
 | nil h1 h2=>exact .nil h1 h2
 | sl h1 h2 h3 h4 h5 h6 h7 h8 h9=>exact .sl h1 h2 ((hb _ h1).trans h3) h4 h5 h6 h7 h8 fun i j el c he hc=>let ⟨u,hu,hr⟩:=h9 i j el c he hc;⟨u,hu,hD _ _ hr⟩
 | box h1 h2 h3 h4 h5 h6 h7=>exact .box h1 rfl h3 ((hb _ h1).trans h4) h5 (fun j u c hu hc=>(h6 j u c hu hc).lift hD gS) h7
 | mp h1 h2 h3 h4=>exact .mp h1 ((hb _ h1).trans h2) h3 fun i e p he hp=>let ⟨a,b,c⟩:=h4 i e p he hp;⟨a,b,hD _ _ c⟩
 | it h1 h2 h3=>exact .it h1 ((hb _ h1).trans h2) (hD _ _ h3)
theorem u0 {keep:Nat->Bool} {b:Nat} (h:jU (cJ keep μ) b):jU μ b:=let ⟨r,m,hr,hb⟩:=h;⟨r,m,(ll hr).2,hb⟩
theorem J7 {dX:List Nat} {b:Nat}:XX (XX X (cJ (gB dX) μ)) (cJ dX.contains μ) b↔XX X μ b:=by
 constructor
 .rintro ((h | h) | h)
  .exact .inl h
  .exact .inr (u0 h)
  .exact .inr (u0 h)
 .rintro (h | ⟨r,m,hr,hb⟩)
  .exact .inl (.inl h)
  .cases hk:dX.contains r with
   | true=>exact .inr ⟨r,m,by simp only[cJ,hk,if_true];exact hr,hb⟩
   | false=>exact .inl (.inr ⟨r,m,by simp only[cJ,gB,hk,anl,if_true];exact hr,hb⟩)
theorem eT.part {H:Heap} (hs:eT w X μ H) (dX:List Nat):eT w (XX X (cJ (gB dX) μ)) (cJ dX.contains μ) (fi dX.contains (fY dX) (fX dX) H)/\
  ∀ {u:Value} {x:AV},RV w X μ u x->RV w (XX X (cJ (gB dX) μ)) (cJ dX.contains μ) u (x.tr (fY dX) (fX dX)):=by
 have hD:∀ u d,RD w (XX X μ) u d->RD w (XX (XX X (cJ (gB dX) μ)) (cJ dX.contains μ)) u d:=fun u d h=>h.sub fun b=>J7.1
 have hV:∀ u x,RV w X μ u x->RV w (XX X (cJ (gB dX) μ)) (cJ dX.contains μ) u (x.tr (fY dX) (fX dX)):=fun u x=>RV.AN hD (fun u r off n h=>by
   unfold fY;split
   .rename_i hk;obtain⟨m,hm,hh⟩:=h.ml;exact .own (by simp only[cJ,hk,if_true];exact hm) hh
   .exact .dead u) (fun u r e j h=>by
   unfold fX;split
   .rename_i hk;obtain⟨m,b,hm,hb,rfl⟩:=h.mo;exact .ref (by simp only[cJ,hk,if_true];exact hm) hb
   .exact .dead u)
 refine⟨⟨fun r row hr=>?_,fun r m hr=>?_,fun q q' m1 m2 b h1 h2 e9 fk=>hs.inj q q' m1 m2 b (ll h1).2 (ll h2).2 e9 fk,fun q m b hq hb hX=>?_,fun b hb=>hb.elim (hs.fits b) fun h=>hs.nP (u0 h)⟩,fun h=>hV _ _ h⟩
 .unfold fi at hr;split at hr
  .rename_i hk;obtain⟨qo,h0,rfl⟩:=AS.1 hr;obtain⟨m,hm,ok⟩:=hs.rows r qo h0;exact⟨m,by simp only[cJ,hk,if_true];exact hm,ok.AN (fun _ _=>rfl) hD hV⟩
  .cases hr
 .obtain⟨hk,hm⟩:=ll hr;obtain⟨row,eg⟩:=hs.l5 r m hm;exact⟨row.tr (fY dX) (fX dX),by simp only[fi,hk,if_true,eg,amI]⟩
 .obtain⟨hk,hm⟩:=ll hq
  rcases hX with h | ⟨r,mr,hr,LP⟩
  .exact hs.frame q m b hm hb h
  .obtain⟨gX,BW⟩:=ll hr;have:=hs.inj q r m mr b hm BW hb LP;subst this;simp only[gB,hk,Bool.not_true,amn]at gX
theorem np.UL {fx dX:List Nat} {g:FuncId} {pb xs:List AV} {H1 H2:Heap} {y:AV} (hc:MC P G fx g xs H1 y H2) (hx:pb.map (AV.tr (fY dX) (fX dX))=xs) (hH:fi dX.contains (fY dX) (fX dX) σ.H=H1)
  (hd:∀ q,(H2 q).isSome=true->dX.contains q=true\/σ.H q=none) (hm:∀ r,dX.contains r=true->fx.contains r=false->Mv r) {K:AV->St->Prop}
  (h:K y ⟨mz (oG dX fx) (oF dX fx) σ.env,oX H2 (fi (gB dX) (oG dX fx) (oF dX fx) σ.H)⟩):np P Mv X G N g pb σ K:=by
 refine⟨hc.1,fun w μ a vs hi hn hv=>?_⟩;obtain⟨e7,jG⟩:=hi.bx.part dX;rw[hH]at e7;refine (hc.2 (XX X (cJ (gB dX) μ)) w (cJ dX.contains μ) vs e7 (fun g x hx=>(hi.jA g x hx).sub fun b=>J7.1) (by rw[hn,<- hx,amT]) fun i u x hu rN=>?_).mono ?_
 .rw[<- hx,amm]at rN;obtain⟨x0,xW,rfl⟩:=AS.1 rN;exact jG (hv i u x0 hu xW)
 .rintro e w' ⟨v,x,H',ku,rfl,⟨rfl,rfl⟩,hr,fA,bd⟩
  have ab8:∀ q m,ku q=some m->dX.contains q=true\/μ q=none:=fun q m hq=>by
   obtain⟨row,eg⟩:=fA.l5 q m hq
   rcases hd q (by rw[eg];rfl)with h | h
   .exact .inl h
   .exact .inr (hi.bx.uZ h)
  let aI:Mu:=fun q=>match ku q with
   | some m=>some m
   | none=>cJ (gB dX) μ q
  have m2:∀ q m,ku q=some m->aI q=some m:=fun q m hq=>by simp only[aI,hq]
  have mr:∀ q m,dX.contains q=false->μ q=some m->aI q=some m:=fun q m hk hq=>by
   have h2:ku q=none:=by
    cases h2:ku q with
    | none=>rfl
    | some m'=>
     rcases ab8 q m' h2 with h | h
     .rw[hk]at h;cases h
     .rw[hq]at h;cases h
   simp only[aI,h2,cJ,gB,hk,anl,if_true,hq]
  have of:∀ q m,aI q=some m->ku q=some m\/(ku q=none/\dX.contains q=false/\μ q=some m):=fun q m hq=>by
   cases h2:ku q with
   | some m'=>simp only[aI,h2]at hq;exact .inl hq
   | none=>
    simp only[aI,h2]at hq;obtain⟨hk,hm⟩:=ll hq;exact .inr ⟨rfl,by simpa[gB]using hk,hm⟩
  have same:∀ b,b < w.heap.size->¬ jU (cJ dX.contains μ) b->w'.heap[b]? = w.heap[b]?/\¬ jU ku b:=bd.same
  have BB:∀ b,XX X aI b->XX (XX X (cJ (gB dX) μ)) ku b:=fun b hb=>by
   rcases hb with hb | ⟨q,m,hq,lA⟩
   .exact .inl (.inl hb)
   .rcases of q m hq with h2 | ⟨_,hk,hm⟩
    .exact .inr ⟨q,m,h2,lA⟩
    .exact .inl (.inr ⟨q,m,by simp only[cJ,gB,hk,anl,if_true];exact hm,lA⟩)
  have hD:∀ u d,RD w (XX X μ) u d->RD w' (XX X aI) u d:=fun u d h=>h.mono bd.size fun b hb hX=>by
   obtain⟨h1,h2⟩:=same b hb fun hr=>hX (.inr (u0 hr));refine⟨h1,fun hX'=>?_⟩
   rcases hX' with h | ⟨q,m,hq,lA⟩
   .exact hX (.inl h)
   .rcases of q m hq with h3 | ⟨_,_,hm⟩
    .exact h2 ⟨q,m,h3,lA⟩
    .exact hX (.inr ⟨q,m,hm,lA⟩)
  have R5:∀ u d,RD w' (XX (XX X (cJ (gB dX) μ)) ku) u d->RD w' (XX X aI) u d:=fun u d h=>h.sub BB
  have stay:∀ q m,(dX.contains q && !fx.contains q)=false->μ q=some m->aI q=some m:=fun q m hk hq=>by
   cases hl:dX.contains q with
   | false=>exact mr q m hl hq
   | true=>
    rw[hl,Bool.true_and]at hk
    have hfx:fx.contains q=true:=by simpa using hk
    exact m2 q m (bd.kept q m (by simp only[cJ,hl,if_true];exact hq) (by unfold jS;rw[hfx];simp))
  have hV:∀ u x,RV w X μ u x->RV w' X aI u (x.tr (oG dX fx) (oF dX fx)):=fun u x=>RV.AN hD (fun u r off n h=>by
    unfold oG;split
    .exact .dead u
    .rename_i hk;obtain⟨m,hm,hh⟩:=h.ml
     exact .own (stay r m (by simpa using hk) hm) hh) (fun u r e j h=>by
    unfold oF;split
    .exact .dead u
    .rename_i hk;obtain⟨m,b,hm,hb,rfl⟩:=h.mo
     exact .ref (stay r m (by simpa using hk) hm) hb)
  refine⟨v,x,_,aI,rfl,h,⟨⟨fun q row hq=>?_,fun q m hq=>?_,fun q q' m1 mm b h1 h2 e9 fk=>?_,fun q m b hq hb=>?_,fun b hb=>amN (hi.bx.fits b hb) bd.size⟩,⟨hi.env.defers,hi.env.size,fun i x hx=>?_⟩,fun g x hx=>hD _ _ (hi.jA g x hx)⟩,hr.lift R5 m2,bd.size,bd.os,bd.tape,bd.output,fun b hb wy=>?_,fun r m hr hn=>?_⟩
  .simp only[oX]at hq;split at hq
   .rename_i Ax h2;obtain rfl:=AI hq;obtain⟨m,hm,ok⟩:=fA.rows q Ax h2;exact⟨m,m2 q m hm,ok.lift (fun _ _=>rfl) R5 m2⟩
   .unfold fi at hq;split at hq
    .rename_i hk
     have gX:dX.contains q=false:=by simpa[gB]using hk
     obtain⟨qo,h0,rfl⟩:=AS.1 hq;obtain⟨m,hm,ok⟩:=hi.bx.rows q qo h0;refine⟨m,mr q m gX hm,ok.AN (fun b hb=>(same b (ok.nP hb) fun ⟨r,mr',pB,LP⟩=>?_).1) hD hV⟩;obtain⟨xG,BW⟩:=ll pB;have:=hi.bx.inj q r m mr' b hm BW hb LP;subst this;rw[gX]at xG;cases xG
    .cases hq
  .simp only[oX]
   rcases of q m hq with h2 | ⟨h2,hk,hm⟩
   .obtain⟨row,eg⟩:=fA.l5 q m h2;exact⟨row,by rw[eg]⟩
   .have Er:H' q=none:=by
     cases hh:H' q with
     | none=>rfl
     | some row=>obtain⟨m',cL,_⟩:=fA.rows q row hh;rw[h2]at cL;cases cL
    obtain⟨row,eg⟩:=hi.bx.l5 q m hm;exact⟨row.tr (oG dX fx) (oF dX fx),by rw[Er];simp only[fi,gB,hk,anl,if_true,eg,amI]⟩
  .rcases of q m1 h1 with g1 | ⟨_,k1,g1⟩<;>rcases of q' mm h2 with g2 | ⟨_,k2,g2⟩
   .exact fA.inj q q' m1 mm b g1 g2 e9 fk
   .exact absurd (.inr ⟨q',mm,by simp only[cJ,gB,k2,anl,if_true];exact g2,fk⟩) (fA.frame q m1 b g1 e9)
   .exact absurd (.inr ⟨q,m1,by simp only[cJ,gB,k1,anl,if_true];exact g1,e9⟩) (fA.frame q' mm b g2 fk)
   .exact hi.bx.inj q q' m1 mm b g1 g2 e9 fk
  .rcases of q m hq with g1 | ⟨_,k1,g1⟩
   .exact fun hX=>fA.frame q m b g1 hb (.inl hX)
   .exact hi.bx.frame q m b g1 hb
  .replace hx:mz (oG dX fx) (oF dX fx) σ.env i=some x:=hx;unfold mz at hx;obtain⟨x0,h0,rfl⟩:=AS.1 hx;obtain⟨u,hu,hr⟩:=hi.env.slot i x0 h0;exact⟨u,hu,hV _ _ hr⟩
  .obtain⟨h1,h2⟩:=same b hb fun hr=>wy (u0 hr);refine⟨h1,fun ⟨q,m,hq,lA⟩=>?_⟩
   rcases of q m hq with h3 | ⟨_,_,hm⟩
   .exact h2 ⟨q,m,h3,lA⟩
   .exact wy ⟨q,m,hm,lA⟩
  .cases hl:dX.contains r with
   | false=>exact mr r m hl hr
   | true=>
    cases hf:fx.contains r with
    | false=>exact absurd (hm r hl hf) hn
    | true=>exact stay r m (by rw[hl,hf];rfl) hr
theorem cZ.mc {fx:List Nat} {g:FuncId} {pb xs:List AV} {cq gK:List (Nat×Row)} {y:AV} {dst:Option Tmp} {next:St->Prop} (hc:MC P G fx g xs (aw cq) y (aw gK)) (hx:pb.map (AV.tr (fY (cq.map (·.1))) (fX (cq.map (·.1))))=xs)
  (hH:∀ p∈cq,(σ.H p.1).map (Row.tr (fY (cq.map (·.1))) (fX (cq.map (·.1))))=aw cq p.1) (hd:∀ p∈gK,(cq.map (·.1)).contains p.1=true\/σ.H p.1=none) (hm:∀ r∈cq.map (·.1),fx.contains r=false->Mv r)
  (h:next ⟨aN (mz (oG (cq.map (·.1)) fx) (oF (cq.map (·.1)) fx) σ.env) dst y,oX (aw gK) (fi (gB (cq.map (·.1))) (oG (cq.map (·.1)) fx) (oF (cq.map (·.1)) fx) σ.H)⟩):cZ P Mv X G N g pb σ dst next:=by
 refine np.UL hc hx (funext (Jo hH)).symm (fun q hq=>?_) (fun r hr=>hm r (am1.1 hr)) h
 have oZ:∀ l:List (Nat×Row),(aw l q).isSome=true->∃ p∈l,p.1=q:=by
  intro l
  induction l with
  | nil=>intro h;simp[aw]at h
  | cons p l ih=>
   intro h;simp only[aw,List.lookup]at h
   cases qM:(q == p.1) with
   | true=>exact⟨p,ak,by simpa using (beq_iff_eq.1 qM).symm⟩
   | false=>
    rw[qM]at h;obtain⟨p',h1,h2⟩:=ih h;exact⟨p',by simp[h1],h2⟩
 obtain⟨p,hp,rfl⟩:=oZ gK hq;exact hd p hp
def Jl (names:List Nat) (x y:AV):Prop:=match x.tr (fY names) (fX names),y with
 | .d d',.d d=>d'.le d
 | p,q=>p=q
def Gy (T:Ty) (rs:List ResultVar) (y:AV) (rows:List (Nat×Row)) (σ:St):Prop:=match ym T σ rs with
 | some (c,vs)=>c/\Jl (rows.map (·.1)) (oneOf vs) y/\∀ p∈rows,(σ.H p.1).map (Row.tr (fY (rows.map (·.1))) (fX (rows.map (·.1))))=aw rows p.1
 | none=>False
def Qs (T:Ty) (rs:List ResultVar) (y:AV) (rows:List (Nat×Row)):Exit->St->Prop
 | .normal,σ | .ret,σ=>Gy T rs y rows σ
 | _,_=>False
theorem ail {names:List Nat} {x y:AV} {u:Value} (h:Jl names x y) (hr:RV w X μ u (x.tr (fY names) (fX names))):RV w X μ u y:=by
 unfold Jl at h;split at h
 .rename_i d' d hx;rw[hx]at hr;exact .d (hr.data.le h)
 .rw[<- h];exact hr
theorem MC.aO (hg:Good P T) {g:FuncId} {fn:Func} {c:Code} {rs:List ResultVar} {xs:List AV} {H:Heap} {y:AV} {rows:List (Nat×Row)} {fx:List Nat} (hf:P.funcs[g]? = some fn) (hb:fn.body=some c) (hn:(fn.name == "runtime.NumGoroutine")=false) (nE:fn.results=rs.toArray)
  (hN:xs.length<=fn.ntmps) (hfx:fx.all (rows.map (·.1)).contains=true) (h:∀ X,AW P (jS fx) X G ⟨fn.ntmps,[],none⟩ c (Qs T rs y rows) ⟨args xs,H⟩):MC P G fx g xs H y (aw rows):=by
 refine⟨iV.of hf hb hn,fun X w μ vs hs cW bp hv=>?_⟩
 have fin:∀ (w':World) (aI:Mu) (a':Act) (aH:St),Gy T rs y rows aH->In w' X G aI ⟨fn.ntmps,[],none⟩ a' aH->Ev (jS fx) w μ w' aI->∃ v,(results fn a'.tmps).run P w' = .ok v w'/\∃ v_1 x H' aI,Ending.returned v=Ending.returned v_1/\(x=y/\H'=aw rows)/\RV w' X aI v_1 x/\eT w' X aI H'/\Ev (jS fx) w μ w' aI:=by
  intro w' aI a' aH he hi bd;unfold Gy at he;split at he
  .rename_i c xs hx;obtain⟨hc,he,ac3⟩:=he;obtain⟨v,hv,hr⟩:=OY (P:=P) hg hi nE hx hc;have hX:∀ b,XX X (cJ (rows.map (·.1)).contains aI) b->XX X aI b:=fun b=>C6
   have ho:∀ u r off n,RV w' X aI u (.own r off n)->RV w' X (cJ (rows.map (·.1)).contains aI) u (fY (rows.map (·.1)) r off n):=fun u r off n h=>by
    unfold fY;split
    .rename_i hk;exact h.CB hk
    .exact .dead u
   have hf:∀ u r e j,RV w' X aI u (.ref r e j)->RV w' X (cJ (rows.map (·.1)).contains aI) u (fX (rows.map (·.1)) r e j):=fun u r e j h=>by
    unfold fX;split
    .rename_i hk;exact h.CH hk
    .exact .dead u
   have aR:=hi.tr ho hf;have hH:fi (rows.map (·.1)).contains (fY (rows.map (·.1))) (fX (rows.map (·.1))) aH.H=aw rows:=(funext (Jo ac3)).symm;refine⟨v,hv,v,y,aw rows,_,rfl,⟨rfl,rfl⟩,ail he (RV.tr hX ho hf hr),hH ▸ aR.bx,bd.trans (zb fun r _ _ hr=>dT hfx r hr)⟩
  .exact he.elim
 refine calls_of_wp hf hb ((wpIn_wide (n:=0)).1 (wpIn_mono (h X w μ _ ⟨hs,⟨rfl,by simp;omega,fun i x hx=>?_⟩,cW⟩) fun e a' w' ⟨aI,aH,q,i,ev⟩=>?_))
 .simp only[args]at hx;have hi:i < xs.length:=(BY.1 hx).1
  have xS:vs[i]? = some vs[i]:=by rw[amA]
  exact⟨vs[i],by rw[amY aa,xS],hv i _ x xS hx⟩
 .cases e with
  | normal=>
   obtain⟨v,hv,rest⟩:=fin w' aI a' aH q i ev;exact⟨i.env.defers,v,hv,rest⟩
  | ret=>
   obtain⟨v,hv,rest⟩:=fin w' aI a' aH q i ev;exact⟨i.env.defers,v,hv,rest⟩
  | _=>exact q.elim
end
end Go.Av
namespace Go.Av
theorem aaF (k:Value) (x:D):vA k x []=[(k,x)]:=rfl
theorem aaE (k:Value) (x:D) (p:Value×D) (l:List (Value×D)):vA k x (p :: l)=if jw k p.1 then (k,x) :: l else p :: vA k x l:=by
 unfold vA;rw[anF]
 cases h:jw k p.1 with
 | true=>simp
 | false=>
  simp only[amn,if_false];cases List.findIdx? (fun p=>jw k p.1) l<;>simp
theorem afC (x:Value):D.one (.v x)=x.oneCell':=rfl
theorem afz (k:Option Bool) (els:List (List D)):D.one (.sl k els)=true:=rfl
theorem afy (c:List D):D.one (.ip c)=true:=rfl
theorem afv (c:List D):D.one (.agg c)=false:=rfl
theorem afB (c:List D):D.one (.bz c)=false:=rfl
theorem afx (t:TypeId) (x:D):D.one (.cC t x)=true:=rfl
theorem afw (f:Fn) (c:List D):D.one (.fn f c)=true:=rfl
theorem YQ (x:D):AV.one (.d x)=x.one:=rfl
theorem YV (r o n:Nat):AV.one (.own r o n)=true:=rfl
theorem YW (r e j:Nat):AV.one (.ref r e j)=true:=rfl
theorem YT (t:TypeId) (x:AV):AV.one (.cC t x)=true:=rfl
theorem YS (f:Fn) (c:List AV):AV.one (.fn f c)=true:=rfl
theorem YO (c:List AV):AV.one (.agg c)=false:=rfl
theorem YX (c:List AV):AV.one (.bz c)=false:=rfl
theorem YP (g:FuncId) (x:AV):AV.one (.bm g x)=false:=rfl
theorem YU (r:Nat):AV.one (.mp r)=true:=rfl
theorem YR:AV.one .dead=false:=rfl
theorem ako (x:Value):jY (.d (.v x))=if x.oneCell' then some [.d (.v x)] else none:=rfl
theorem akm (k:Option Bool) (els:List (List D)):jY (.d (.sl k els))=some [.d (.sl k els)]:=rfl
theorem aki (c:List D):jY (.d (.ip c))=some [.d (.ip c)]:=rfl
theorem akb (c:List D):jY (.d (.agg c))=some (c.map .d):=rfl
theorem akf (c:List D):jY (.d (.bz c))=none:=rfl
theorem ake (t:TypeId) (x:D):jY (.d (.cC t x))=some [.d (.cC t x)]:=rfl
theorem akd (f:Fn) (c:List D):jY (.d (.fn f c))=some [.d (.fn f c)]:=rfl
theorem akk (r o n:Nat):jY (.own r o n)=some [.own r o n]:=rfl
theorem akl (r e j:Nat):jY (.ref r e j)=some [.ref r e j]:=rfl
theorem aj9 (c:List AV):jY (.agg c)=some c:=rfl
theorem akn (c:List AV):jY (.bz c)=none:=rfl
theorem akh (t:TypeId) (x:AV):jY (.cC t x)=some [.cC t x]:=rfl
theorem akg (f:Fn) (c:List AV):jY (.fn f c)=some [.fn f c]:=rfl
theorem aka (g:FuncId) (x:AV):jY (.bm g x)=none:=rfl
theorem akj (r:Nat):jY (.mp r)=some [.mp r]:=rfl
theorem akc:jY .dead=none:=rfl
attribute [simp] afC afz afy afv afB afx afw YQ YV YW YT YS YO YX YP YU YR
attribute [simp] ako akm aki akb akf ake akd akk akl aj9 akn akh akg aka akj akc
attribute [simp] Int.ofNat_inj List.lookup
attribute [simp] w6 ye Am kindOf Op.operands Call.operands fb jx GX eD ic IB sf TypeDesc.isSlice TypeDesc.isStr Ge
attribute [simp] NB Gf xn sN ru C8 vn rm TypeDesc.isAgg GK vC GJ gL xa nI JH eqv
attribute [simp] Ou KB IP IL GG ID Ie Ke tV bound Jz JA TypeDesc.isBool TypeDesc.isIface IM
attribute [simp] Gq Value.oneCell' Gh OQ Bk mX uu CF tp rowsOf rowsOf.go St.zc rY yh F6 A4 Pr QF vD Pq Xo
attribute [simp] FH Xr rd wr pY oR aN E4 E5 dI undef du Np adK adL ajW acM St.freeze bJ iW vu iz
attribute [simp] bg aw int Av.bool pH rU E6 nd bk ji kV args eJ eK AV.kill AV.kill.go Row.kill mz fi AV.tr AV.tr.go Row.tr
attribute [simp] xp xo iT Zu Zn St.norm Ag x3 fY fX Ka Qk ng gG D.scalar aT aW atEnd Kh Bh ym Jm
attribute [simp] oneOf ajX stepG sZ yf uC ql Fx aaF aaE jw lh cM fq I9 jS oG oF gB acv
attribute [simp] Gy Qs Jl GN GO St.uw Dx
section
variable {P:Program} {T:Ty} {Mv X:Nat->Prop} {G:aB} {N:Fr} {w:World} {μ:Mu} {a:Act} {σ:St}
theorem cZ.tr {keep:Nat->Bool} {o f:Nat->Nat->Nat->AV} {g:FuncId} {xs:List AV} {dst:Option Tmp} {next:St->Prop}
  (ho:∀ w μ a,In w X G μ N a σ->∀ u r off n,RV w X μ u (.own r off n)->RV w X (cJ keep μ) u (o r off n)) (hf:∀ w μ a,In w X G μ N a σ->∀ u r e j,RV w X μ u (.ref r e j)->RV w X (cJ keep μ) u (f r e j))
  (hk:∀ r,keep r=false->Mv r) (h:cZ P Mv X G N g (xs.map (AV.tr o f)) ⟨mz o f σ.env,fi keep o f σ.H⟩ dst next):cZ P Mv X G N g xs σ dst next:=by
 refine⟨h.1,fun w μ a vs hi hn hv=>?_⟩;have aR:=hi.tr (ho w μ a hi) (hf w μ a hi);have bd:Ev Mv w μ w (cJ keep μ):=zb fun r _ _=>hk r;refine (h.2 w (cJ keep μ) a vs aR (by simpa using hn) fun i u x hu hx=>?_).mono fun e w' ⟨v,x,aH,aI,he,k,fK,hr,ev⟩=>⟨v,x,aH,aI,he,k,fK,hr,bd.trans ev⟩;rw[amm]at hx;obtain⟨x0,xW,rfl⟩:=AS.1 hx;exact RV.tr (fun b=>C6) (ho w μ a hi) (hf w μ a hi) (hv i u x0 hu xW)
theorem cZ.zc (r:Nat) {ty sz:Nat} {els:List (List D)} {g:FuncId} {xs:List AV} {dst:Option Tmp} {next:St->Prop} (hr:σ.H r=some (.sl ty sz els)) (hm:Mv r)
  (h:cZ P Mv X G N g (xs.map (AV.tr (xp r els) (xo r))) ⟨mz (xp r els) (xo r) σ.env,fi (iT r) (xp r els) (xo r) σ.H⟩ dst next):cZ P Mv X G N g xs σ dst next:=by
 refine cZ.tr (keep:=iT r) (fun w μ a hi u q off n hu=>?_) (fun w μ a hi u q e j hu=>?_) (fun q hq=>?_) h
 .have sC:(fun q=>if q=r then none else μ q)=cJ (iT r) μ:=by
   funext q;unfold cJ iT;by_cases h:q=r<;>simp[h]
  unfold xp;split
  .rename_i hq;subst hq
   have hd:∀ {off n:Nat},RV w X μ u (.own q off n)->off+n<=els.length->RV w X (cJ (iT q) μ) u (.d (.sl none ((els.drop off).take n))):=fun h hle=>by
    obtain⟨k,hk,_⟩:=I4 hi.bx hr hle h;rw[sC]at hk;exact .d hk.wV
   split
   .rename_i h2;obtain⟨rfl,rfl⟩:=h2;have:=hd hu aa;simpa using this
   .split
    .rename_i hle;exact hd hu hle
    .exact .dead u
  .rename_i hq;exact hu.CB (by simp[iT,hq])
 .unfold xo;split
  .exact .dead u
  .rename_i hq;exact hu.CH (by simp[iT,hq])
 .have e:q=r:=by simpa[iT]using hq
  exact e ▸ hm
end
end Go.Av
namespace Go.Av
theorem Aq {p q:Prop} (h:p) (k:q):p/\q:=⟨h,k⟩
section
variable {P:Program} {Mv X:Nat->Prop} {G:aB} {N:Fr} {σ τ jq:St} {p:Prop}
theorem ar (l ns:List Nat) {id:Nat} {ops:Array Oper} {y:Code} {Q:Exit->St->Prop} (k:AW P Mv X G N y Q jq)
  (hM:∀ r,ns.contains r=false->Mv r:=by first | exact fun _ _=>trivial | exact dT rfl)
  (h:∀ K':St->Prop,K' τ->lp P (cT P) Mv X G N ops K' ops.toList σ:=by
   intro K' ao;repeat (refine aK fun Kq af=>?_;simp;(repeat refine⟨aa,?_⟩);refine af _ ?_)
   exact bH ao)
  (hn:τ.norm l ns=jq:=by simp;rfl):AW P Mv X G N (.seq (.region id ops false) y) Q σ:=
 rg l ns hM fun K hK=>h K (hK _ (hn ▸ k))
theorem ae (q:p) (l ns:List Nat) {id:Nat} {ops:Array Oper} {y:Code} {Q:Exit->St->Prop} (k:AW P Mv X G N y Q jq)
  (hM:∀ r,ns.contains r=false->Mv r:=by first | exact fun _ _=>trivial | exact dT rfl)
  (h:p->∀ K':St->Prop,K' τ->lp P (cT P) Mv X G N ops K' ops.toList σ:=by
   intro q K' ao;repeat (refine aK fun Kq af=>?_;simp[q];(repeat refine⟨aa,?_⟩);refine af _ ?_)
   exact bH ao)
  (hn:p->τ.norm l ns=jq:=by intro q;simp[q];rfl):AW P Mv X G N (.seq (.region id ops false) y) Q σ:=
 rg l ns hM fun K hK=>h q K (hK _ (hn q ▸ k))
theorem bh (q:p) {g:FuncId} {ds:List D} {yd:D} (hc:aD P G g ds yd) (l ns:List Nat) {id:Nat} {ops:Array Oper} {y:Code} {Q:Exit->St->Prop} (k:AW P Mv X G N y Q jq)
  (hM:∀ r,ns.contains r=false->Mv r:=by first | exact fun _ _=>trivial | exact dT rfl)
  (h:p->aD P G g ds yd->∀ K':St->Prop,K' τ->lp P (cT P) Mv X G N ops K' ops.toList σ:=by
   intro q hc K' ao;(repeat refine aK fun Kq af=>?_;simp[q];(repeat refine⟨aa,?_⟩);refine af _ ?_);refine aK fun Kq af=>?_;simp[q];refine cZ.data hc bt (by first | exact D.bC _ | simp[aP,amk,amc,D.le,D.le.go,D.le_refl,D.bC,q]) ?_;refine af _ ?_;simp only[aN,du];repeat (refine aK fun Kq af=>?_;simp[q];(repeat refine⟨aa,?_⟩);refine af _ ?_)
   exact bH ao)
  (hn:p->τ.norm l ns=jq:=by intro q;simp[q];rfl):AW P Mv X G N (.seq (.region id ops false) y) Q σ:=
 rg l ns hM fun K hK=>h q hc K (hK _ (hn q ▸ k))
theorem bK (q:p) {fx:List Nat} {g:FuncId} {xs:List AV} {cq gK:List (Nat×Row)} {yv:AV} (hc:MC P G fx g xs (aw cq) yv (aw gK)) (l ns:List Nat) {id:Nat} {ops:Array Oper} {y:Code} {Q:Exit->St->Prop} (k:AW P Mv X G N y Q jq)
  (hM:∀ r,ns.contains r=false->Mv r:=by first | exact fun _ _=>trivial | exact dT rfl)
  (h:p->MC P G fx g xs (aw cq) yv (aw gK)->∀ K':St->Prop,K' τ->lp P (cT P) Mv X G N ops K' ops.toList σ:=by
   intro q hc K' ao;(repeat refine aK fun Kq af=>?_;simp[q];(repeat refine⟨aa,?_⟩);refine af _ ?_);refine aK fun Kq af=>?_;simp[q];refine cZ.mc hc (by simp[q]) (by simp[q]) (by simp[q]) (by simp[q]) ?_;simp[q];refine af _ ?_;repeat (refine aK fun Kq af=>?_;simp[q];(repeat refine⟨aa,?_⟩);refine af _ ?_)
   exact bH ao)
  (hn:p->τ.norm l ns=jq:=by intro q;simp[q];rfl):AW P Mv X G N (.seq (.region id ops false) y) Q σ:=
 rg l ns hM fun K hK=>h q hc K (hK _ (hn q ▸ k))
theorem Jf (q:p) (l ns:List Nat) {id:Nat} {ops:Array Oper} {y:Code} {Q:Exit->St->Prop} (k:AW P Mv X G N y Q jq)
  (hm:P.follows .mixedOrders=true:=by kernel_rfl) (cf:sR ops=true:=by kernel_rfl)
  (hM:∀ r,ns.contains r=false->Mv r:=by first | exact fun _ _=>trivial | exact dT rfl)
  (h:p->∀ K':St->Prop,K' τ->qs P (cT P) Mv G N ops K' ops.toList σ:=by
   intro q K' ao;repeat (refine gC fun Kq af=>?_;simp[q];(repeat refine⟨aa,?_⟩);refine af _ ?_)
   exact o8 ao)
  (hn:p->τ.norm l ns=jq:=by intro q;simp[q];rfl):AW P Mv X G N (.seq (.region id ops true) y) Q σ:=
 tX (ay _) hm l ns hM cf fun K hK=>h q K (hK _ (hn q ▸ k))
theorem rdc (q:p) {g:FuncId} {ds:List D} {yd:D} (hc:aD P G g ds yd) (l ns:List Nat) {id:Nat} {ops:Array Oper} {y:Code} {Q:Exit->St->Prop} (k:AW P Mv X G N y Q jq)
  (hm:P.follows .mixedOrders=true:=by kernel_rfl) (cf:sR ops=true:=by kernel_rfl)
  (hM:∀ r,ns.contains r=false->Mv r:=by first | exact fun _ _=>trivial | exact dT rfl)
  (h:p->aD P G g ds yd->∀ K':St->Prop,K' τ->qs P (cT P) Mv G N ops K' ops.toList σ:=by
   intro q hc K' ao;(repeat refine gC fun Kq af=>?_;simp[q];(repeat refine⟨aa,?_⟩);refine af _ ?_);refine gC fun Kq af=>?_;simp[q];refine nj.data hc bt bt (by first | exact D.bC _ | simp[aP,amk,amc,D.le,D.le.go,D.le_refl,D.bC,q]) ?_;refine af _ ?_;simp only[aN,du];repeat (refine gC fun Kq af=>?_;simp[q];(repeat refine⟨aa,?_⟩);refine af _ ?_)
   exact o8 ao)
  (hn:p->τ.norm l ns=jq:=by intro q;simp[q];rfl):AW P Mv X G N (.seq (.region id ops true) y) Q σ:=
 tX (ay _) hm l ns hM cf fun K hK=>h q hc K (hK _ (hn q ▸ k))
theorem gq (q:p) {K0:St->Prop} {y:Code} {Q Q2:Exit->St->Prop} (hk:∀ aH,AW P Mv X G N y Q2 aH->K0 aH) (l ns:List Nat) {id:Nat} {ops:Array Oper} (k:AW P Mv X G N y Q2 jq)
  (hq:∀ τ,K0 τ->Q .normal τ:=by exact fun _ h=>h)
  (hM:∀ r,ns.contains r=false->Mv r:=by first | exact fun _ _=>trivial | exact dT rfl)
  (h:p->∀ K':St->Prop,K' τ->lp P (cT P) Mv X G N ops K' ops.toList σ:=by
   intro q K' ao;repeat (refine aK fun Kq af=>?_;simp[q];(repeat refine⟨aa,?_⟩);refine af _ ?_)
   exact bH ao)
  (hn:p->τ.norm l ns=jq:=by intro q;simp[q];rfl):AW P Mv X G N (.region id ops false) Q σ:=
 fD (ay _) fun K hK=>h q K (hK _ (hq _ (hk _ (AW.norm l ns hM (hn q ▸ k)))))
theorem ax (l ns:List Nat) {id:Nat} {ops:Array Oper} {y:Code} {Q:Exit->St->Prop} (k:AW P Mv X G N y Q jq)
  (hM:∀ r,ns.contains r=false->Mv r:=by first | exact fun _ _=>trivial | exact dT rfl)
  (h:∀ K':St->Prop,K' τ->lp P (cT P) Mv X G N ops K' ops.toList σ:=by
   intro K' ao;repeat (refine aK fun Kq af=>?_;simp[qf];(repeat refine⟨aa,?_⟩);refine af _ ?_)
   exact bH ao)
  (hn:τ.norm l ns=jq:=by simp[qf];rfl):AW P Mv X G N (.seq (.region id ops false) y) Q σ:=
 rg l ns hM fun K hK=>h K (hK _ (hn ▸ k))
theorem eF {g:FuncId} {ds:List D} {yd:D} (hc:aD P G g ds yd) (l ns:List Nat) {id:Nat} {ops:Array Oper} {y:Code} {Q:Exit->St->Prop} (k:AW P Mv X G N y Q jq)
  (hM:∀ r,ns.contains r=false->Mv r:=by first | exact fun _ _=>trivial | exact dT rfl)
  (h:aD P G g ds yd->∀ K':St->Prop,K' τ->lp P (cT P) Mv X G N ops K' ops.toList σ:=by
   intro hc K' ao;(repeat refine aK fun Kq af=>?_;simp[qf];(repeat refine⟨aa,?_⟩);refine af _ ?_);refine aK fun Kq af=>?_;simp[qf];refine cZ.data hc bt (by first | exact D.bC _ | simp[aP,amk,amc,D.le,D.le.go,D.le_refl,D.bC,qf]) ?_;refine af _ ?_;simp only[aN,du];repeat (refine aK fun Kq af=>?_;simp[qf];(repeat refine⟨aa,?_⟩);refine af _ ?_)
   exact bH ao)
  (hn:τ.norm l ns=jq:=by simp[qf];rfl):AW P Mv X G N (.seq (.region id ops false) y) Q σ:=
 rg l ns hM fun K hK=>h hc K (hK _ (hn ▸ k))
theorem ko {fx:List Nat} {g:FuncId} {xs:List AV} {cq gK:List (Nat×Row)} {yv:AV} (hc:MC P G fx g xs (aw cq) yv (aw gK)) (l ns:List Nat) {id:Nat} {ops:Array Oper} {y:Code} {Q:Exit->St->Prop} (k:AW P Mv X G N y Q jq)
  (hM:∀ r,ns.contains r=false->Mv r:=by first | exact fun _ _=>trivial | exact dT rfl)
  (h:MC P G fx g xs (aw cq) yv (aw gK)->∀ K':St->Prop,K' τ->lp P (cT P) Mv X G N ops K' ops.toList σ:=by
   intro hc K' ao;(repeat refine aK fun Kq af=>?_;simp[qf];(repeat refine⟨aa,?_⟩);refine af _ ?_);refine aK fun Kq af=>?_;simp[qf];refine cZ.mc hc (by simp[qf]) (by simp[qf]) (by simp[qf]) (by simp[qf]) ?_;simp[qf];refine af _ ?_;repeat (refine aK fun Kq af=>?_;simp[qf];(repeat refine⟨aa,?_⟩);refine af _ ?_)
   exact bH ao)
  (hn:τ.norm l ns=jq:=by simp[qf];rfl):AW P Mv X G N (.seq (.region id ops false) y) Q σ:=
 rg l ns hM fun K hK=>h hc K (hK _ (hn ▸ k))
theorem il (l ns:List Nat) {id:Nat} {ops:Array Oper} {y:Code} {Q:Exit->St->Prop} (k:AW P Mv X G N y Q jq)
  (hm:P.follows .mixedOrders=true:=by kernel_rfl) (cf:sR ops=true:=by kernel_rfl)
  (hM:∀ r,ns.contains r=false->Mv r:=by first | exact fun _ _=>trivial | exact dT rfl)
  (h:∀ K':St->Prop,K' τ->qs P (cT P) Mv G N ops K' ops.toList σ:=by
   intro K' ao;repeat (refine gC fun Kq af=>?_;simp[qf];(repeat refine⟨aa,?_⟩);refine af _ ?_)
   exact o8 ao)
  (hn:τ.norm l ns=jq:=by simp[qf];rfl):AW P Mv X G N (.seq (.region id ops true) y) Q σ:=
 tX (ay _) hm l ns hM cf fun K hK=>h K (hK _ (hn ▸ k))
theorem u1 {g:FuncId} {ds:List D} {yd:D} (hc:aD P G g ds yd) (l ns:List Nat) {id:Nat} {ops:Array Oper} {y:Code} {Q:Exit->St->Prop} (k:AW P Mv X G N y Q jq)
  (hm:P.follows .mixedOrders=true:=by kernel_rfl) (cf:sR ops=true:=by kernel_rfl)
  (hM:∀ r,ns.contains r=false->Mv r:=by first | exact fun _ _=>trivial | exact dT rfl)
  (h:aD P G g ds yd->∀ K':St->Prop,K' τ->qs P (cT P) Mv G N ops K' ops.toList σ:=by
   intro hc K' ao;(repeat refine gC fun Kq af=>?_;simp[qf];(repeat refine⟨aa,?_⟩);refine af _ ?_);refine gC fun Kq af=>?_;simp[qf];refine nj.data hc bt bt (by first | exact D.bC _ | simp[aP,amk,amc,D.le,D.le.go,D.le_refl,D.bC,qf]) ?_;refine af _ ?_;simp only[aN,du];repeat (refine gC fun Kq af=>?_;simp[qf];(repeat refine⟨aa,?_⟩);refine af _ ?_)
   exact o8 ao)
  (hn:τ.norm l ns=jq:=by simp[qf];rfl):AW P Mv X G N (.seq (.region id ops true) y) Q σ:=
 tX (ay _) hm l ns hM cf fun K hK=>h hc K (hK _ (hn ▸ k))
theorem eM {K0:St->Prop} {y:Code} {Q Q2:Exit->St->Prop} (hk:∀ aH,AW P Mv X G N y Q2 aH->K0 aH) (l ns:List Nat) {id:Nat} {ops:Array Oper} (k:AW P Mv X G N y Q2 jq)
  (hq:∀ τ,K0 τ->Q .normal τ:=by exact fun _ h=>h)
  (hM:∀ r,ns.contains r=false->Mv r:=by first | exact fun _ _=>trivial | exact dT rfl)
  (h:∀ K':St->Prop,K' τ->lp P (cT P) Mv X G N ops K' ops.toList σ:=by
   intro K' ao;repeat (refine aK fun Kq af=>?_;simp[qf];(repeat refine⟨aa,?_⟩);refine af _ ?_)
   exact bH ao)
  (hn:τ.norm l ns=jq:=by simp[qf];rfl):AW P Mv X G N (.region id ops false) Q σ:=
 fD (ay _) fun K hK=>h K (hK _ (hq _ (hk _ (AW.norm l ns hM (hn ▸ k)))))
end
