/- Parts. -/
import Derived.Test.YtdigkhaofjmgkaaGreatDoorFx15
import Derived.Test.YtdigkhaofjmgkaaGreatDoorFx16
import Derived.Test.YtdigkhaofjmgkaaGreatDoorFx17
import Derived.Shelf.Slices.In.SortNone
import Derived.Lib.RowBridge
set_option linter.unusedSimpArgs false
set_option linter.unusedVariables false
open Go.Proofs.Tryz
namespace Go.Proofs.YtdigkhaofjmgkaaGreatDoor
open Go.Av Go.Sort
open Go.Shelf
section
variable {w:World} {X:Nat->Prop} {μ:Mu} {r:Nat}
theorem qR (r:Nat) (row:Row):ak [(r,row)] r=some row:=by simp[ak,List.lookup]
theorem zK {r q:Nat} (row:Row) (h:q≠r):ak [(r,row)] q=none:=by simp[ak,List.lookup,beq_eq_false_iff_ne.2 h]
theorem FC {ty:TypeId} {ss:List (List UInt8)} {m:gp} {b:Nat} (hm:μ r=some m) (hs:Sim w X μ (ak [(r,.sl ty 1 (ss.map fun s=>[dS s]))])) (hb:m.blk=some b) :
  m.sz=1/\∃ cur,w.heap[b]? = some (.cells cur ty (0,0))/\cur.size=m.cap/\ss.length<=m.cap/\m.cap<=maxLen/\∀ i (hi:i < ss.length),cur[i]? = some (encStr ss[i]):=by
 obtain⟨m',bU,ok⟩:=hs.rows r _ (qR r _);rw[hm]at bU;obtain rfl:=AI bU;generalize cF:Row.sl ty 1 (ss.map fun s=>[dS s])=row at ok
 cases ok with
 | nil aU _=>rw[hb]at aU;cases aU
 | box _ _ _ _ _=>cases cF
 | mp _ _ _ _=>cases cF
 | it _ _ _=>cases cF
 | sl aU aK hh b8 hn fh hl hz hr=>
  simp only[Row.sl.injEq]at cF;obtain⟨rfl,rfl,rfl⟩:=cF;rw[hb]at aU;obtain rfl:=AI aU;refine⟨aK,_,hh,by simpa using b8,by simpa using hn,fh,fun i hi=>?_⟩;obtain⟨u,hu,xj⟩:=hr i 0 [dS ss[i]] (dS ss[i]) (by simp[hi]) rfl;have:=xj.scalar;subst this;simpa[bs]using hu
theorem LO {ty:TypeId} {ss zs:List (List UInt8)} {m:gp} {b n:Nat} {os:Array Obj} (hm:μ r=some m) (hs:Sim w X μ (ak [(r,.sl ty 1 (ss.map fun s=>[dS s]))])) (hb:m.blk=some b) (hz:zs.length=ss.length) :
  Sim (grow (putRow encStr (Sort.ahead w n) b 0 zs.toArray) os) X μ (ak [(r,.sl ty 1 (zs.map fun s=>[dS s]))])/\Ev (gg [r]) w μ (grow (putRow encStr (Sort.ahead w n) b 0 zs.toArray) os) μ:=by
 obtain⟨aK,cur,hh,b8,hn,fh,sb⟩:=FC hm hs hb;have gM:b < w.heap.size:=hs.jl ⟨r,m,hm,hb⟩
 have hsize:(putRow encStr (Sort.ahead w n) b 0 zs.toArray).heap.size=w.heap.size:=by simp[putRow,mapBlock,Sort.ahead]
 have hold:∀ k,k < w.heap.size->k≠b->(grow (putRow encStr (Sort.ahead w n) b 0 zs.toArray) os).heap[k]? = w.heap[k]?:=fun k hk aI=>by
  unfold grow;dsimp only;rw[acM (by rw[hsize];exact hk)];unfold putRow mapBlock Sort.ahead;dsimp only;rw[aeJ,if_neg (adr aI)]
 have jw:(grow (putRow encStr (Sort.ahead w n) b 0 zs.toArray) os).heap[b]? = some (.cells (putCells encStr 0 zs.toArray cur) ty (0,0)):=by
  unfold grow;dsimp only;rw[acM (by rw[hsize];exact gM)];unfold putRow mapBlock Sort.ahead;dsimp only;rw[aeJ,if_pos rfl,hh];rfl
 have sk:w.heap.size<=(grow (putRow encStr (Sort.ahead w n) b 0 zs.toArray) os).heap.size:=by
  unfold grow;simp[hsize]
 have ev:Ev (gg [r]) w μ (grow (putRow encStr (Sort.ahead w n) b 0 zs.toArray) os) μ:=⟨sk,rfl,rfl,rfl,fun k hk hr=>⟨hold k hk fun e=>hr ⟨r,m,hm,e ▸ hb⟩,hr⟩,fun _ _ h _=>h⟩;refine⟨⟨fun q row hq=>?_,fun q mq hq=>?_,hs.inj,hs.frame,fun k hk=>acP (hs.fits k hk) sk⟩,ev⟩
 .by_cases e:q=r
  .subst e;rw[qR]at hq;obtain rfl:=AI hq;refine⟨m,hm,.sl hb aK jw (by simpa[putCells]using b8) (by simpa[hz]using hn) fh (fun el hel=>?_) (by omega) fun i j el c hi hj=>?_⟩
   .obtain⟨x,_,rfl⟩:=acD.1 hel;rfl
   .rw[abM]at hi;obtain⟨x,hx,rfl⟩:=AT.1 hi;have c6:i < zs.length:=(OF.1 hx).1
    have jt:j=0:=by have:=(OF.1 hj).1;simpa using this
    subst jt
    obtain rfl:dS x=c:=by simpa using hj
    have hcl:i < cur.size:=by omega
    refine⟨encStr x,?_,.v _⟩;simp only[aen,adF,putCells,Array.getElem?_mapIdx,acb hcl,acN];rw[if_pos (by simp;omega)];congr 2;simp only[Nat.sub_zero];rw[getElem!_pos zs.toArray i (by simpa using c6)];simpa using (OF.1 hx).2
  .rw[zK _ e]at hq;cases hq
 .obtain⟨row,cF⟩:=hs.iy q mq hq;by_cases e:q=r
  .exact⟨_,by rw[e];exact qR r _⟩
  .rw[zK _ e]at cF;cases cF
theorem LM {ty:TypeId} {ss:List (List UInt8)} {m:gp} {b:Nat} (hm:μ r=some m) (hs:Sim w X μ (ak [(r,.sl ty 1 (ss.map fun s=>[dS s]))])) (hb:m.blk=some b):Holds encStr w b 0 ss.toArray:=by
 obtain⟨aK,cur,hh,b8,hn,fh,sb⟩:=FC hm hs hb;intro j hj
 have hj':j < ss.length:=by simpa using hj
 constructor
 .unfold World.cell?;simp only[hh,acR];rw[getElem!_pos ss.toArray j hj,sb j hj'];simp
 .unfold World.frozen?;simp only[hh];simp
theorem LN {ty:TypeId} {ss:List (List UInt8)} {m:gp} (hm:μ r=some m) (hs:Sim w X μ (ak [(r,.sl ty 1 (ss.map fun s=>[dS s]))])) (hb:m.blk=none):ss=[]:=by
 obtain⟨m',bU,ok⟩:=hs.rows r _ (qR r _);rw[hm]at bU;obtain rfl:=AI bU;generalize cF:Row.sl ty 1 (ss.map fun s=>[dS s])=row at ok
 cases ok with
 | nil _ _=>simp only[Row.sl.injEq]at cF;simpa using cF.2.2
 | box aU _ _ _ _=>rw[hb]at aU;cases aU
 | mp aU _ _ _=>rw[hb]at aU;cases aU
 | it aU _ _=>rw[hb]at aU;cases aU
 | sl aU _ _ _ _ _ _ _ _=>rw[hb]at aU;cases aU
end
def jY (ss:List (List UInt8)):List (List UInt8):=ss.mergeSort fun x y=>decide (x<=y)
theorem oQ (ss:List (List UInt8)):(jY ss).length=ss.length:=by simp[jY]
theorem YU (G:aq) (r:Nat) (ty:TypeId) (ss:List (List UInt8)) (hl:ss.length < 2^60):MC prog G [r] 201 [.own r 0 ss.length] (ak [(r,.sl ty 1 (ss.map fun s=>[dS s]))]) (.d (.aW [])) (ak [(r,.sl ty 1 ((jY ss).map fun s=>[dS s]))]):=by
 refine⟨fe.of func201 rfl rfl,fun X w μ vs hs hgl aK hv=>?_⟩
 obtain⟨v,rfl⟩:∃ v,vs = #[v]:=by
  match vs,aK with
  | ⟨[v]⟩,_=>exact⟨v,rfl⟩
 obtain⟨m,hm,hc⟩:=(hv 0 v _ rfl rfl).je;have hL:Lays.n190 prog Tryz.J7:={ Tryz.T7 with };by_cases h0:ss=[]
 .subst h0
  have e:∃ p cap,v = .slice p 0 cap:=by
   rcases hc with⟨_,rfl,_⟩ | ⟨b,_,rfl,_⟩
   .exact⟨_,_,rfl⟩
   .exact⟨_,_,rfl⟩
  obtain⟨p,cap,rfl⟩:=e;have e1:jY []=[]:=acq (by rw[oQ];rfl);rw[e1];refine (Any.slices_Sort_string_none hL p cap w).mono fun e w' ⟨he,hw⟩=>?_;subst hw;exact⟨_,_,_,μ,he,⟨rfl,rfl⟩,.d (.aW rfl fun j u c hu hc=>by simp at hu),hs,.refl _ _ _⟩
 .rcases hc with⟨hb,rfl,_,hn⟩ | ⟨b,hb,rfl,hn⟩
  .exact absurd (LN hm hs hb) h0
  .have hH:=LM hm hs hb;have gM:b < w.heap.size:=hs.jl ⟨r,m,hm,hb⟩;rw[aea];refine (Any.slices_Sort_string hL b 0 (m.cap - 0) ss w hH gM (by omega)).mono fun e w' ⟨he,n,os,hw⟩=>?_;subst hw;obtain⟨h1,h2⟩:=LO (n:=n) (os:=os) hm hs hb (oQ ss);exact⟨_,_,_,μ,he,⟨rfl,rfl⟩,.d (.aW rfl fun j u c hu hc=>by simp at hu),h1,h2⟩
theorem OO (G:aq) (r:Nat) (ty:TypeId) (ss:List (List UInt8)) (hl:ss.length < 2^60):MC prog G [r] 202 [.own r 0 ss.length] (ak [(r,.sl ty 1 (ss.map fun s=>[dS s]))]) (.own r 0 (Lib.compact ss).length) (ak [(r,.sl ty 1 ((Lib.compact ss ++ List.replicate (ss.length - (Lib.compact ss).length) []).map fun s=>[dS s]))]):=by
 refine⟨fe.of func202 rfl rfl,fun X w μ vs hs hgl aK hv=>?_⟩
 obtain⟨v,rfl⟩:∃ v,vs = #[v]:=by
  match vs,aK with
  | ⟨[v]⟩,_=>exact⟨v,rfl⟩
 have ga:=hv 0 v _ rfl rfl;obtain⟨m,hm,hc⟩:=ga.je;have hle:=Lib.compact_length_le ss;have hL:Lays.n194 prog Tryz.J8:={ Tryz.T8 with };by_cases h0:ss=[]
 .subst h0;have e0:(Lib.compact ([]:List (List UInt8)))=[]:=acq (by simpa using hle);rw[e0]
  have e:∃ p cap,v = .slice p 0 cap:=by
   rcases hc with⟨_,rfl,_⟩ | ⟨b,_,rfl,_⟩
   .exact⟨_,_,rfl⟩
   .exact⟨_,_,rfl⟩
  obtain⟨p,cap,rfl⟩:=e;refine (Any.slices_Compact_string_empty hL p cap w).mono fun e w' ⟨he,hw⟩=>?_;subst hw;exact⟨_,_,_,μ,he,⟨rfl,rfl⟩,ga,hs,.refl _ _ _⟩
 .rcases hc with⟨hb,rfl,_,hn⟩ | ⟨b,hb,rfl,hn⟩
  .exact absurd (LN hm hs hb) h0
  .have hH:=LM hm hs hb;obtain⟨D4,cur,hh,b8,kh,fh,sb⟩:=FC hm hs hb;rw[aea];refine (Any.slices_Compact_string hL b 0 (m.cap - 0) ss w hH (by omega) (by omega)).mono fun e w' ⟨he,n,hw⟩=>?_
   have hz:(Lib.compact ss ++ List.replicate (ss.length - (Lib.compact ss).length) []).length=ss.length:=by simp;omega
   obtain⟨h1,h2⟩:=LO (n:=n) (os:=#[]) hm hs hb hz;rw[grow_empty]at h1 h2;subst hw;refine⟨_,_,_,μ,he,⟨rfl,rfl⟩,.own hm (.inr ⟨b,hb,by simp,by omega⟩),h1,h2⟩
end Go.Proofs.YtdigkhaofjmgkaaGreatDoor
namespace Go.Proofs.YtdigkhaofjmgkaaGreatDoor
def Le (st a b:Bool):Prop:=a=st\/a=b
theorem Le.refl (st a:Bool):Le st a a:=.inr rfl
theorem Le.trans {st a b c:Bool} (h:Le st a b) (h':Le st b c):Le st a c:=by
 rcases h with h | rfl
 .exact .inl h
 .exact h'
theorem Le.ne {st a b:Bool} (h:Le st a b) (aI:a≠b):a=st/\b≠st:=by
 rcases h with rfl | h
 .exact⟨rfl,fun e=>aI e.symm⟩
 .exact absurd h aI
def rI (now:Nat->Bool->Bool):Prop:=∀ i,now i false=true->now i true=true
theorem rI.le {now:Nat->Bool->Bool} (h:rI now) (st:Bool) {i:Nat} {a b:Bool} (C5:Le st a b):Le st (now i a) (now i b):=by
 have hi:=h i
 rcases C5 with rfl | rfl
 .cases a<;>cases b<;>unfold Le<;>cases h1:now i false<;>cases h2:now i true<;>simp_all
 .exact .refl _ _
def jd (now:Nat->Bool->Bool) (nx:Nat->Nat) (st:Bool):Nat->Nat->Bool
 | 0,_=>st
 | k+1,i=>now i (jd now nx st k (nx i))
theorem JT {now:Nat->Bool->Bool} (h:rI now) (nx:Nat->Nat) (st:Bool):∀ k i,Le st (jd now nx st k i) (jd now nx st (k+1) i)
 | 0,i=>.inl rfl
 | k+1,i=>h.le st (JT h nx st k (nx i))
def n9 (f:Nat->Bool):Nat->Nat
 | 0=>0
 | n+1=>n9 f n+if f n then 1 else 0
theorem G7 (f:Nat->Bool):∀ n,n9 f n<=n
 | 0=>abL _
 | n+1=>by
  have:=G7 f n;simp only[n9];split<;>omega
theorem G9 {f g:Nat->Bool}:∀ n,(∀ i,i < n->f i=true->g i=true)->n9 f n<=n9 g n
 | 0,_=>abL _
 | n+1,h=>by
  have ih:=G9 n fun i hi=>h i (by omega);have hn:=h n (by omega);simp only[n9]
  cases h1:f n with
  | false=>simp;omega
  | true=>rw[hn h1];simp;omega
theorem G8 {f g:Nat->Bool}:∀ n,(∀ i,i < n->f i=true->g i=true)->(∃ i,i < n/\f i=false/\g i=true)->n9 f n < n9 g n
 | 0,_,⟨i,hi,_⟩=>by omega
 | n+1,h,⟨i,hi,h1,h2⟩=>by
  have hn:=h n (by omega);simp only[n9];by_cases aF:i=n
  .subst aF;have:=G9 i fun j hj=>h j (by omega);rw[h1,h2];simp;omega
  .have:=G8 n (fun j hj=>h j (by omega)) ⟨i,by omega,h1,h2⟩
   cases h3:f n with
   | false=>simp;split<;>omega
   | true=>rw[hn h3];simp;omega
def up (st:Bool) (n:Nat) (f:Nat->Bool):Nat:=n9 (fun i=>f i != st) n
theorem ZS (st:Bool) (n:Nat) (f:Nat->Bool):up st n f<=n:=G7 _ _
theorem MK {st:Bool} {n:Nat} {f g:Nat->Bool} (h:∀ i,i < n->Le st (f i) (g i)) (hx:∃ i,i < n/\f i≠g i):up st n f < up st n g:=G8 n (fun i hi hf=>by
 simp only[bne_iff_ne,ne_eq]at hf ⊢
 rcases h i hi with h | h
 .exact absurd h hf
 .rwa [<- h]) (by
 obtain⟨i,hi,aI⟩:=hx;obtain⟨h1,h2⟩:=(h i hi).ne aI
 exact⟨i,hi,by simp[h1],by simpa using h2⟩)
theorem Tw {now:Nat->Bool->Bool} (h:rI now) {nx:Nat->Nat} {st:Bool} {n:Nat} (hn:∀ i,i < n->nx i < n):∃ k,k<=n/\∀ i,i < n->jd now nx st k i=jd now nx st (k+1) i:=by
 apply acj;intro fD
 have key:∀ k,k<=n+1->k<=up st n (jd now nx st k):=by
  intro k
  induction k with
  | zero=>intro _;omega
  | succ k ih=>
   intro hk;have h1:=ih (by omega)
   have hx:∃ i,i < n/\jd now nx st k i≠jd now nx st (k+1) i:=by
    apply acj;intro bC;exact fD ⟨k,by omega,fun i hi=>acj fun aI=>bC ⟨i,hi,aI⟩⟩
   have:=MK (fun i _=>JT h nx st k i) hx;omega
 have h1:=key (n+1) (abL _);have h2:=ZS st n (jd now nx st (n+1));omega
theorem Ek {now:Nat->Bool->Bool} {nx:Nat->Nat} {st:Bool} {n k:Nat} (hn:∀ i,i < n->nx i < n) (hk:∀ i,i < n->jd now nx st k i=jd now nx st (k+1) i):∀ d i,i < n->jd now nx st (k+d) i=jd now nx st k i
 | 0,i,_=>rfl
 | d+1,i,hi=>by
  have ih:=Ek hn hk d _ (hn i hi);rw[hk i hi,<- adn];simp only[jd];rw[ih]
theorem Tu {now:Nat->Bool->Bool} (h:rI now) {nx:Nat->Nat} {st:Bool} {n:Nat} (hn:∀ i,i < n->nx i < n) {m:Nat} (hm:n<=m) {i:Nat} (hi:i < n):jd now nx st m i=jd now nx st n i:=by
 obtain⟨k,hk,he⟩:=Tw h (st:=st) hn;have h1:=Ek hn he (m - k) i hi;have h2:=Ek hn he (n - k) i hi;rw[show k+(m - k)=m by omega]at h1;rw[show k+(n - k)=n by omega]at h2;rw[h1,h2]
theorem Tv {now:Nat->Bool->Bool} (h:rI now) {nx:Nat->Nat} {st:Bool} {n:Nat} (hn:∀ i,i < n->nx i < n) {i:Nat} (hi:i < n):jd now nx st n i=now i (jd now nx st n (nx i)):=
 (Tu h hn (Nat.le_succ n) hi).symm
def mj (f:Nat->Bool) (i:Nat) (x:Bool):Nat->Bool:=fun j=>if j=i then x else f j
structure Kept (now:Nat->Bool->Bool) (nx:Nat->Nat) (st:Bool) (n:Nat) (f:Nat->Bool):Prop where
 le:∀ i,i < n->Le st (f i) (jd now nx st n i)
 grow:∀ i,i < n->Le st (f i) (now i (f (nx i)))
theorem Kept.start (now:Nat->Bool->Bool) (nx:Nat->Nat) (st:Bool) (n:Nat):Kept now nx st n fun _=>st:=⟨fun _ _=>.inl rfl,fun _ _=>.inl rfl⟩
theorem Kept.set {now:Nat->Bool->Bool} {nx:Nat->Nat} {st:Bool} {n:Nat} {f:Nat->Bool} (k:Kept now nx st n f) (h:rI now) (hn:∀ i,i < n->nx i < n) {i:Nat} (hi:i < n) (aI:now i (f (nx i))≠f i) :
  Kept now nx st n (mj f i (now i (f (nx i))))/\up st n f < up st n (mj f i (now i (f (nx i)))):=by
 have aM:∀ j,j < n->Le st (f j) (mj f i (now i (f (nx i))) j):=fun j hj=>by
  unfold mj;split
  .rename_i e;subst e;exact k.grow j hj
  .exact .refl _ _
 refine⟨⟨fun j hj=>?_,fun j hj=>?_⟩,MK aM ⟨i,hi,by simp[mj,adr aI]⟩⟩
 .by_cases e:j=i
  .subst e;rw[show mj f j (now j (f (nx j))) j=now j (f (nx j)) by simp[mj],Tv h hn hj];exact h.le st (k.le _ (hn j hj))
  .rw[show mj f i (now i (f (nx i))) j=f j by simp[mj,e]];exact k.le j hj
 .have hb:=h.le st (i:=j) (aM (nx j) (hn j hj));by_cases e:j=i
  .subst e;rw[show mj f j (now j (f (nx j))) j=now j (f (nx j)) by simp[mj]];exact hb
  .rw[show mj f i (now i (f (nx i))) j=f j by simp[mj,e]];exact (k.grow j hj).trans hb
