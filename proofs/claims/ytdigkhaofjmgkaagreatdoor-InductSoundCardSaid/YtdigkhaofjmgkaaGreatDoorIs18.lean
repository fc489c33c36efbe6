/- Parts. -/
import Derived.Test.YtdigkhaofjmgkaaGreatDoorIs15
import Derived.Test.YtdigkhaofjmgkaaGreatDoorIs16
import Derived.Test.YtdigkhaofjmgkaaGreatDoorIs17
import Derived.Shelf.Slices.In.SortNone
import Derived.Lib.RowBridge
set_option linter.unusedSimpArgs false
set_option linter.unusedVariables false
open Go.Proofs.Tryz
namespace Go.Proofs.YtdigkhaofjmgkaaGreatDoor
open Go.Av Go.Sort
open Go.Shelf
section
variable {w:World} {X:Nat->Prop} {μ:Mu} {r:Nat}
theorem oH (r:Nat) (row:Row):YH [(r,row)] r=some row:=by simp[YH,List.lookup]
theorem wZ {r q:Nat} (row:Row) (h:q≠r):YH [(r,row)] q=none:=by simp[YH,List.lookup,beq_eq_false_iff_ne.2 h]
theorem CM {ty:TypeId} {ss:List (List UInt8)} {m:fg} {b:Nat} (hm:μ r=some m) (hs:Zf w X μ (YH [(r,.sl ty 1 (ss.map fun s=>[dS s]))])) (hb:m.cZ=some b) :
  m.sz=1/\∃ cur,w.heap[b]? = some (.cells cur ty (0,0))/\cur.size=m.cap/\ss.length<=m.cap/\m.cap<=maxLen/\∀ i (hi:i < ss.length),cur[i]? = some (encStr ss[i]):=by
 obtain⟨m',bx,ok⟩:=hs.rows r _ (oH r _);rw[hm]at bx;obtain rfl:=Option.some.inj bx;generalize Y5:Row.sl ty 1 (ss.map fun s=>[dS s])=row at ok
 cases ok with
 | nil aH _=>rw[hb]at aH;cases aH
 | box _ _ _ _ _=>cases Y5
 | mp _ _ _ _=>cases Y5
 | it _ _ _=>cases Y5
 | sl aH aK hh bR hn dG hl hz hr=>
  simp only[Row.sl.injEq]at Y5;obtain⟨rfl,rfl,rfl⟩:=Y5;rw[hb]at aH;obtain rfl:=Option.some.inj aH;refine⟨aK,_,hh,by simpa using bR,by simpa using hn,dG,fun i hi=>?_⟩;obtain⟨u,hu,tT⟩:=hr i 0 [dS ss[i]] (dS ss[i]) (by simp[hi]) rfl;have:=tT.scalar;subst this;simpa[bs]using hu
theorem Jc {ty:TypeId} {ss zs:List (List UInt8)} {m:fg} {b n:Nat} {os:Array Obj} (hm:μ r=some m) (hs:Zf w X μ (YH [(r,.sl ty 1 (ss.map fun s=>[dS s]))])) (hb:m.cZ=some b) (hz:zs.length=ss.length) :
  Zf (grow (putRow encStr (Sort.ahead w n) b 0 zs.toArray) os) X μ (YH [(r,.sl ty 1 (zs.map fun s=>[dS s]))])/\Ev (eS [r]) w μ (grow (putRow encStr (Sort.ahead w n) b 0 zs.toArray) os) μ:=by
 obtain⟨aK,cur,hh,bR,hn,dG,pY⟩:=CM hm hs hb;have ZO:b < w.heap.size:=hs.aal ⟨r,m,hm,hb⟩
 have hsize:(putRow encStr (Sort.ahead w n) b 0 zs.toArray).heap.size=w.heap.size:=by simp[putRow,mapBlock,Sort.ahead]
 have hold:∀ k,k < w.heap.size->k≠b->(grow (putRow encStr (Sort.ahead w n) b 0 zs.toArray) os).heap[k]? = w.heap[k]?:=fun k hk aG=>by
  unfold grow;dsimp only;rw[Array.getElem?_append_left (by rw[hsize];exact hk)];unfold putRow mapBlock Sort.ahead;dsimp only;rw[Array.getElem?_modify,if_neg (Ne.symm aG)]
 have iJ:(grow (putRow encStr (Sort.ahead w n) b 0 zs.toArray) os).heap[b]? = some (.cells (putCells encStr 0 zs.toArray cur) ty (0,0)):=by
  unfold grow;dsimp only;rw[Array.getElem?_append_left (by rw[hsize];exact ZO)];unfold putRow mapBlock Sort.ahead;dsimp only;rw[Array.getElem?_modify,if_pos rfl,hh];rfl
 have tp:w.heap.size<=(grow (putRow encStr (Sort.ahead w n) b 0 zs.toArray) os).heap.size:=by
  unfold grow;simp[hsize]
 have ev:Ev (eS [r]) w μ (grow (putRow encStr (Sort.ahead w n) b 0 zs.toArray) os) μ:=⟨tp,rfl,rfl,rfl,fun k hk hr=>⟨hold k hk fun e=>hr ⟨r,m,hm,e ▸ hb⟩,hr⟩,fun _ _ h _=>h⟩;refine⟨⟨fun q row hq=>?_,fun q mq hq=>?_,hs.inj,hs.frame,fun k hk=>Nat.lt_of_lt_of_le (hs.fits k hk) tp⟩,ev⟩
 .by_cases e:q=r
  .subst e;rw[oH]at hq;obtain rfl:=Option.some.inj hq;refine⟨m,hm,.sl hb aK iJ (by simpa[putCells]using bR) (by simpa[hz]using hn) dG (fun el aN=>?_) (by omega) fun i j el c hi hj=>?_⟩
   .obtain⟨x,_,rfl⟩:=List.mem_map.1 aN;rfl
   .rw[List.getElem?_map]at hi;obtain⟨x,hx,rfl⟩:=Option.map_eq_some_iff.1 hi;have eI:i < zs.length:=(List.getElem?_eq_some_iff.1 hx).1
    have iG:j=0:=by have:=(List.getElem?_eq_some_iff.1 hj).1;simpa using this
    subst iG
    obtain rfl:dS x=c:=by simpa using hj
    have bQ:i < cur.size:=by omega
    refine⟨encStr x,?_,.v _⟩;simp only[Nat.mul_one,Nat.add_zero,putCells,Array.getElem?_mapIdx,Array.getElem?_eq_getElem bQ,Option.map_some];rw[if_pos (by simp;omega)];congr 2;simp only[Nat.sub_zero];rw[getElem!_pos zs.toArray i (by simpa using eI)];simpa using (List.getElem?_eq_some_iff.1 hx).2
  .rw[wZ _ e]at hq;cases hq
 .obtain⟨row,Y5⟩:=hs.gw q mq hq;by_cases e:q=r
  .exact⟨_,by rw[e];exact oH r _⟩
  .rw[wZ _ e]at Y5;cases Y5
theorem Ja {ty:TypeId} {ss:List (List UInt8)} {m:fg} {b:Nat} (hm:μ r=some m) (hs:Zf w X μ (YH [(r,.sl ty 1 (ss.map fun s=>[dS s]))])) (hb:m.cZ=some b):Holds encStr w b 0 ss.toArray:=by
 obtain⟨aK,cur,hh,bR,hn,dG,pY⟩:=CM hm hs hb;intro j hj
 have eb:j < ss.length:=by simpa using hj
 constructor
 .unfold World.cell?;simp only[hh,Nat.zero_add];rw[getElem!_pos ss.toArray j hj,pY j eb];simp
 .unfold World.frozen?;simp only[hh];simp
theorem Jb {ty:TypeId} {ss:List (List UInt8)} {m:fg} (hm:μ r=some m) (hs:Zf w X μ (YH [(r,.sl ty 1 (ss.map fun s=>[dS s]))])) (hb:m.cZ=none):ss=[]:=by
 obtain⟨m',bx,ok⟩:=hs.rows r _ (oH r _);rw[hm]at bx;obtain rfl:=Option.some.inj bx;generalize Y5:Row.sl ty 1 (ss.map fun s=>[dS s])=row at ok
 cases ok with
 | nil _ _=>simp only[Row.sl.injEq]at Y5;simpa using Y5.2.2
 | box aH _ _ _ _=>rw[hb]at aH;cases aH
 | mp aH _ _ _=>rw[hb]at aH;cases aH
 | it aH _ _=>rw[hb]at aH;cases aH
 | sl aH _ _ _ _ _ _ _ _=>rw[hb]at aH;cases aH
end
def jY (ss:List (List UInt8)):List (List UInt8):=ss.mergeSort fun x y=>decide (x<=y)
theorem mH (ss:List (List UInt8)):(jY ss).length=ss.length:=by simp[jY]
theorem VQ (G:YI) (r:Nat) (ty:TypeId) (ss:List (List UInt8)) (hl:ss.length < 2^60):MC prog G [r] 201 [.own r 0 ss.length] (YH [(r,.sl ty 1 (ss.map fun s=>[dS s]))]) (.d (.aT [])) (YH [(r,.sl ty 1 ((jY ss).map fun s=>[dS s]))]):=by
 refine⟨fo.of func201 rfl rfl,fun X w μ vs hs Y7 aK hv=>?_⟩
 obtain⟨v,rfl⟩:∃ v,vs = #[v]:=by
  match vs,aK with
  | ⟨[v]⟩,_=>exact⟨v,rfl⟩
 obtain⟨m,hm,hc⟩:=(hv 0 v _ rfl rfl).Z3;have hL:Lays.n190 prog Tryz.Ht:={ Tryz.SS with };by_cases h0:ss=[]
 .subst h0
  have e:∃ p cap,v = .slice p 0 cap:=by
   rcases hc with⟨_,rfl,_⟩ | ⟨b,_,rfl,_⟩
   .exact⟨_,_,rfl⟩
   .exact⟨_,_,rfl⟩
  obtain⟨p,cap,rfl⟩:=e;have e1:jY []=[]:=List.eq_nil_of_length_eq_zero (by rw[mH];rfl);rw[e1];refine (Any.slices_Sort_string_none hL p cap w).mono fun e w' ⟨he,hw⟩=>?_;subst hw;exact⟨_,_,_,μ,he,⟨rfl,rfl⟩,.d (.aT rfl fun j u c hu hc=>by simp at hu),hs,.refl _ _ _⟩
 .rcases hc with⟨hb,rfl,_,hn⟩ | ⟨b,hb,rfl,hn⟩
  .exact absurd (Jb hm hs hb) h0
  .have hH:=Ja hm hs hb;have ZO:b < w.heap.size:=hs.aal ⟨r,m,hm,hb⟩;rw[Nat.zero_mul];refine (Any.slices_Sort_string hL b 0 (m.cap - 0) ss w hH ZO (by omega)).mono fun e w' ⟨he,n,os,hw⟩=>?_;subst hw;obtain⟨h1,h2⟩:=Jc (n:=n) (os:=os) hm hs hb (mH ss);exact⟨_,_,_,μ,he,⟨rfl,rfl⟩,.d (.aT rfl fun j u c hu hc=>by simp at hu),h1,h2⟩
theorem L0 (G:YI) (r:Nat) (ty:TypeId) (ss:List (List UInt8)) (hl:ss.length < 2^60):MC prog G [r] 202 [.own r 0 ss.length] (YH [(r,.sl ty 1 (ss.map fun s=>[dS s]))]) (.own r 0 (Lib.compact ss).length) (YH [(r,.sl ty 1 ((Lib.compact ss ++ List.replicate (ss.length - (Lib.compact ss).length) []).map fun s=>[dS s]))]):=by
 refine⟨fo.of func202 rfl rfl,fun X w μ vs hs Y7 aK hv=>?_⟩
 obtain⟨v,rfl⟩:∃ v,vs = #[v]:=by
  match vs,aK with
  | ⟨[v]⟩,_=>exact⟨v,rfl⟩
 have ji:=hv 0 v _ rfl rfl;obtain⟨m,hm,hc⟩:=ji.Z3;have hle:=Lib.compact_length_le ss;have hL:Lays.n194 prog Tryz.Hu:={ Tryz.SU with };by_cases h0:ss=[]
 .subst h0;have e0:(Lib.compact ([]:List (List UInt8)))=[]:=List.eq_nil_of_length_eq_zero (by simpa using hle);rw[e0]
  have e:∃ p cap,v = .slice p 0 cap:=by
   rcases hc with⟨_,rfl,_⟩ | ⟨b,_,rfl,_⟩
   .exact⟨_,_,rfl⟩
   .exact⟨_,_,rfl⟩
  obtain⟨p,cap,rfl⟩:=e;refine (Any.slices_Compact_string_empty hL p cap w).mono fun e w' ⟨he,hw⟩=>?_;subst hw;exact⟨_,_,_,μ,he,⟨rfl,rfl⟩,ji,hs,.refl _ _ _⟩
 .rcases hc with⟨hb,rfl,_,hn⟩ | ⟨b,hb,rfl,hn⟩
  .exact absurd (Jb hm hs hb) h0
  .have hH:=Ja hm hs hb;obtain⟨Br,cur,hh,bR,ZZ,dG,pY⟩:=CM hm hs hb;rw[Nat.zero_mul];refine (Any.slices_Compact_string hL b 0 (m.cap - 0) ss w hH (by omega) (by omega)).mono fun e w' ⟨he,n,hw⟩=>?_
   have hz:(Lib.compact ss ++ List.replicate (ss.length - (Lib.compact ss).length) []).length=ss.length:=by simp;omega
   obtain⟨h1,h2⟩:=Jc (n:=n) (os:=#[]) hm hs hb hz;rw[grow_empty]at h1 h2;subst hw;refine⟨_,_,_,μ,he,⟨rfl,rfl⟩,.own hm (.inr ⟨b,hb,by simp,by omega⟩),h1,h2⟩
end Go.Proofs.YtdigkhaofjmgkaaGreatDoor
namespace Go.Proofs.YtdigkhaofjmgkaaGreatDoor
def Le (st a b:Bool):Prop:=a=st\/a=b
theorem Le.refl (st a:Bool):Le st a a:=.inr rfl
theorem Le.trans {st a b c:Bool} (h:Le st a b) (h':Le st b c):Le st a c:=by
 rcases h with h | rfl
 .exact .inl h
 .exact h'
theorem Le.ne {st a b:Bool} (h:Le st a b) (aG:a≠b):a=st/\b≠st:=by
 rcases h with rfl | h
 .exact⟨rfl,fun e=>aG e.symm⟩
 .exact absurd h aG
def py (now:Nat->Bool->Bool):Prop:=∀ i,now i false=true->now i true=true
theorem py.le {now:Nat->Bool->Bool} (h:py now) (st:Bool) {i:Nat} {a b:Bool} (Ag:Le st a b):Le st (now i a) (now i b):=by
 have hi:=h i
 rcases Ag with rfl | rfl
 .cases a<;>cases b<;>unfold Le<;>cases h1:now i false<;>cases h2:now i true<;>simp_all
 .exact .refl _ _
def aai (now:Nat->Bool->Bool) (nx:Nat->Nat) (st:Bool):Nat->Nat->Bool
 | 0,_=>st
 | k+1,i=>now i (aai now nx st k (nx i))
theorem Hf {now:Nat->Bool->Bool} (h:py now) (nx:Nat->Nat) (st:Bool):∀ k i,Le st (aai now nx st k i) (aai now nx st (k+1) i)
 | 0,i=>.inl rfl
 | k+1,i=>h.le st (Hf h nx st k (nx i))
def l7 (f:Nat->Bool):Nat->Nat
 | 0=>0
 | n+1=>l7 f n+if f n then 1 else 0
theorem Ea (f:Nat->Bool):∀ n,l7 f n<=n
 | 0=>Nat.le_refl _
 | n+1=>by
  have:=Ea f n;simp only[l7];split<;>omega
theorem Ec {f g:Nat->Bool}:∀ n,(∀ i,i < n->f i=true->g i=true)->l7 f n<=l7 g n
 | 0,_=>Nat.le_refl _
 | n+1,h=>by
  have ih:=Ec n fun i hi=>h i (by omega);have hn:=h n (by omega);simp only[l7]
  cases h1:f n with
  | false=>simp;omega
  | true=>rw[hn h1];simp;omega
theorem Eb {f g:Nat->Bool}:∀ n,(∀ i,i < n->f i=true->g i=true)->(∃ i,i < n/\f i=false/\g i=true)->l7 f n < l7 g n
 | 0,_,⟨i,hi,_⟩=>by omega
 | n+1,h,⟨i,hi,h1,h2⟩=>by
  have hn:=h n (by omega);simp only[l7];by_cases ax:i=n
  .subst ax;have:=Ec i fun j hj=>h j (by omega);rw[h1,h2];simp;omega
  .have:=Eb n (fun j hj=>h j (by omega)) ⟨i,by omega,h1,h2⟩
   cases h3:f n with
   | false=>simp;split<;>omega
   | true=>rw[hn h3];simp;omega
def up (st:Bool) (n:Nat) (f:Nat->Bool):Nat:=l7 (fun i=>f i != st) n
theorem WI (st:Bool) (n:Nat) (f:Nat->Bool):up st n f<=n:=Ea _ _
theorem JW {st:Bool} {n:Nat} {f g:Nat->Bool} (h:∀ i,i < n->Le st (f i) (g i)) (hx:∃ i,i < n/\f i≠g i):up st n f < up st n g:=Eb n (fun i hi hf=>by
 simp only[bne_iff_ne,ne_eq]at hf ⊢
 rcases h i hi with h | h
 .exact absurd h hf
 .rwa [<- h]) (by
 obtain⟨i,hi,aG⟩:=hx;obtain⟨h1,h2⟩:=(h i hi).ne aG
 exact⟨i,hi,by simp[h1],by simpa using h2⟩)
theorem Ss {now:Nat->Bool->Bool} (h:py now) {nx:Nat->Nat} {st:Bool} {n:Nat} (hn:∀ i,i < n->nx i < n):∃ k,k<=n/\∀ i,i < n->aai now nx st k i=aai now nx st (k+1) i:=by
 apply Classical.byContradiction;intro hno
 have key:∀ k,k<=n+1->k<=up st n (aai now nx st k):=by
  intro k
  induction k with
  | zero=>intro _;omega
  | succ k ih=>
   intro hk;have h1:=ih (by omega)
   have hx:∃ i,i < n/\aai now nx st k i≠aai now nx st (k+1) i:=by
    apply Classical.byContradiction;intro bw;exact hno ⟨k,by omega,fun i hi=>Classical.byContradiction fun aG=>bw ⟨i,hi,aG⟩⟩
   have:=JW (fun i _=>Hf h nx st k i) hx;omega
 have h1:=key (n+1) (Nat.le_refl _);have h2:=WI st n (aai now nx st (n+1));omega
theorem BQ {now:Nat->Bool->Bool} {nx:Nat->Nat} {st:Bool} {n k:Nat} (hn:∀ i,i < n->nx i < n) (hk:∀ i,i < n->aai now nx st k i=aai now nx st (k+1) i):∀ d i,i < n->aai now nx st (k+d) i=aai now nx st k i
 | 0,i,_=>rfl
 | d+1,i,hi=>by
  have ih:=BQ hn hk d _ (hn i hi);rw[hk i hi,<- Nat.add_assoc];simp only[aai];rw[ih]
theorem Sq {now:Nat->Bool->Bool} (h:py now) {nx:Nat->Nat} {st:Bool} {n:Nat} (hn:∀ i,i < n->nx i < n) {m:Nat} (hm:n<=m) {i:Nat} (hi:i < n):aai now nx st m i=aai now nx st n i:=by
 obtain⟨k,hk,he⟩:=Ss h (st:=st) hn;have h1:=BQ hn he (m - k) i hi;have h2:=BQ hn he (n - k) i hi;rw[show k+(m - k)=m by omega]at h1;rw[show k+(n - k)=n by omega]at h2;rw[h1,h2]
theorem Sr {now:Nat->Bool->Bool} (h:py now) {nx:Nat->Nat} {st:Bool} {n:Nat} (hn:∀ i,i < n->nx i < n) {i:Nat} (hi:i < n):aai now nx st n i=now i (aai now nx st n (nx i)):=
 (Sq h hn (Nat.le_succ n) hi).symm
def kC (f:Nat->Bool) (i:Nat) (x:Bool):Nat->Bool:=fun j=>if j=i then x else f j
structure Kept (now:Nat->Bool->Bool) (nx:Nat->Nat) (st:Bool) (n:Nat) (f:Nat->Bool):Prop where
 le:∀ i,i < n->Le st (f i) (aai now nx st n i)
 grow:∀ i,i < n->Le st (f i) (now i (f (nx i)))
theorem Kept.start (now:Nat->Bool->Bool) (nx:Nat->Nat) (st:Bool) (n:Nat):Kept now nx st n fun _=>st:=⟨fun _ _=>.inl rfl,fun _ _=>.inl rfl⟩
theorem Kept.set {now:Nat->Bool->Bool} {nx:Nat->Nat} {st:Bool} {n:Nat} {f:Nat->Bool} (k:Kept now nx st n f) (h:py now) (hn:∀ i,i < n->nx i < n) {i:Nat} (hi:i < n) (aG:now i (f (nx i))≠f i) :
  Kept now nx st n (kC f i (now i (f (nx i))))/\up st n f < up st n (kC f i (now i (f (nx i)))):=by
 have aF:∀ j,j < n->Le st (f j) (kC f i (now i (f (nx i))) j):=fun j hj=>by
  unfold kC;split
  .rename_i e;subst e;exact k.grow j hj
  .exact .refl _ _
 refine⟨⟨fun j hj=>?_,fun j hj=>?_⟩,JW aF ⟨i,hi,by simp[kC,Ne.symm aG]⟩⟩
 .by_cases e:j=i
  .subst e;rw[show kC f j (now j (f (nx j))) j=now j (f (nx j)) by simp[kC],Sr h hn hj];exact h.le st (k.le _ (hn j hj))
  .rw[show kC f i (now i (f (nx i))) j=f j by simp[kC,e]];exact k.le j hj
 .have hb:=h.le st (i:=j) (aF (nx j) (hn j hj));by_cases e:j=i
  .subst e;rw[show kC f j (now j (f (nx j))) j=now j (f (nx j)) by simp[kC]];exact hb
  .rw[show kC f i (now i (f (nx i))) j=f j by simp[kC,e]];exact (k.grow j hj).trans hb
