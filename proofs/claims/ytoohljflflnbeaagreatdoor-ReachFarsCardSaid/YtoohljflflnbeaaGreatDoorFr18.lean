/- Parts. -/
import Derived.Test.YtoohljflflnbeaaGreatDoorFr15
import Derived.Test.YtoohljflflnbeaaGreatDoorFr16
import Derived.Test.YtoohljflflnbeaaGreatDoorFr17
import Derived.Shelf.Slices.In.SortNone
import Derived.Lib.RowBridge
set_option linter.unusedSimpArgs false
set_option linter.unusedVariables false
open Go.Proofs.Tryz
namespace Go.Proofs.YtoohljflflnbeaaGreatDoor
open Go.Av Go.Sort
open Go.Shelf
section
variable {w:World} {X:Nat->Prop} {μ:Mu} {r:Nat}
theorem wv (r:Nat) (row:Row):aq [(r,row)] r=some row:=by simp[aq,List.lookup]
theorem F2 {r q:Nat} (row:Row) (h:q≠r):aq [(r,row)] q=none:=by simp[aq,List.lookup,beq_eq_false_iff_ne.2 h]
theorem MM {ty:TypeId} {ss:List (List UInt8)} {m:jE} {b:Nat} (hm:μ r=some m) (hs:eA w X μ (aq [(r,.sl ty 1 (ss.map fun s=>[dS s]))])) (hb:m.fk=some b) :
  m.sz=1/\∃ cur,w.heap[b]? = some (.cells cur ty (0,0))/\cur.size=m.cap/\ss.length<=m.cap/\m.cap<=maxLen/\∀ i (hi:i < ss.length),cur[i]? = some (encStr ss[i]):=by
 obtain⟨m',cF,ok⟩:=hs.rows r _ (wv r _);rw[hm]at cF;obtain rfl:=AI cF;generalize dJ:Row.sl ty 1 (ss.map fun s=>[dS s])=row at ok
 cases ok with
 | nil bk _=>rw[hb]at bk;cases bk
 | box _ _ _ _ _=>cases dJ
 | mp _ _ _ _=>cases dJ
 | it _ _ _=>cases dJ
 | sl bk bd hh cO hn gK hl hz hr=>
  simp only[Row.sl.injEq]at dJ;obtain⟨rfl,rfl,rfl⟩:=dJ;rw[hb]at bk;obtain rfl:=AI bk;refine⟨bd,_,hh,by simpa using cO,by simpa using hn,gK,fun i hi=>?_⟩;obtain⟨u,hu,C8⟩:=hr i 0 [dS ss[i]] (dS ss[i]) (by simp[hi]) rfl;have:=C8.scalar;subst this;simpa[bs]using hu
theorem TX {ty:TypeId} {ss zs:List (List UInt8)} {m:jE} {b n:Nat} {os:Array Obj} (hm:μ r=some m) (hs:eA w X μ (aq [(r,.sl ty 1 (ss.map fun s=>[dS s]))])) (hb:m.fk=some b) (hz:zs.length=ss.length) :
  eA (grow (putRow encStr (Sort.ahead w n) b 0 zs.toArray) os) X μ (aq [(r,.sl ty 1 (zs.map fun s=>[dS s]))])/\Ev (jx [r]) w μ (grow (putRow encStr (Sort.ahead w n) b 0 zs.toArray) os) μ:=by
 obtain⟨bd,cur,hh,cO,hn,gK,uR⟩:=MM hm hs hb;have j3:b < w.heap.size:=hs.mF ⟨r,m,hm,hb⟩
 have hsize:(putRow encStr (Sort.ahead w n) b 0 zs.toArray).heap.size=w.heap.size:=by simp[putRow,mapBlock,Sort.ahead]
 have hold:∀ k,k < w.heap.size->k≠b->(grow (putRow encStr (Sort.ahead w n) b 0 zs.toArray) os).heap[k]? = w.heap[k]?:=fun k hk bf=>by
  unfold grow;dsimp only;rw[akm (by rw[hsize];exact hk)];unfold putRow mapBlock Sort.ahead;dsimp only;rw[alb,if_neg (akI bf)]
 have lU:(grow (putRow encStr (Sort.ahead w n) b 0 zs.toArray) os).heap[b]? = some (.cells (putCells encStr 0 zs.toArray cur) ty (0,0)):=by
  unfold grow;dsimp only;rw[akm (by rw[hsize];exact j3)];unfold putRow mapBlock Sort.ahead;dsimp only;rw[alb,if_pos rfl,hh];rfl
 have x8:w.heap.size<=(grow (putRow encStr (Sort.ahead w n) b 0 zs.toArray) os).heap.size:=by
  unfold grow;simp[hsize]
 have ev:Ev (jx [r]) w μ (grow (putRow encStr (Sort.ahead w n) b 0 zs.toArray) os) μ:=⟨x8,rfl,rfl,rfl,fun k hk hr=>⟨hold k hk fun e=>hr ⟨r,m,hm,e ▸ hb⟩,hr⟩,fun _ _ h _=>h⟩;refine⟨⟨fun q row hq=>?_,fun q mq hq=>?_,hs.inj,hs.frame,fun k hk=>akd (hs.fits k hk) x8⟩,ev⟩
 .by_cases e:q=r
  .subst e;rw[wv]at hq;obtain rfl:=AI hq;refine⟨m,hm,.sl hb bd lU (by simpa[putCells]using cO) (by simpa[hz]using hn) gK (fun el ba=>?_) aa fun i j el c hi hj=>?_⟩
   .obtain⟨x,_,rfl⟩:=akh.1 ba;rfl
   .rw[ajK]at hi;obtain⟨x,hx,rfl⟩:=AS.1 hi;have dM:i < zs.length:=(BY.1 hx).1
    have mQ:j=0:=by have:=(BY.1 hj).1;simpa using this
    subst mQ
    obtain rfl:dS x=c:=by simpa using hj
    have cA:i < cur.size:=aa
    refine⟨encStr x,?_,.v _⟩;simp only[akV,akD,putCells,Array.getElem?_mapIdx,ajZ cA,akb];rw[if_pos (by simp;omega)];congr 2;simp only[Nat.sub_zero];rw[getElem!_pos zs.toArray i (by simpa using dM)];simpa using (BY.1 hx).2
  .rw[F2 _ e]at hq;cases hq
 .obtain⟨row,dJ⟩:=hs.lq q mq hq;by_cases e:q=r
  .exact⟨_,by rw[e];exact wv r _⟩
  .rw[F2 _ e]at dJ;cases dJ
theorem TV {ty:TypeId} {ss:List (List UInt8)} {m:jE} {b:Nat} (hm:μ r=some m) (hs:eA w X μ (aq [(r,.sl ty 1 (ss.map fun s=>[dS s]))])) (hb:m.fk=some b):Holds encStr w b 0 ss.toArray:=by
 obtain⟨bd,cur,hh,cO,hn,gK,uR⟩:=MM hm hs hb;intro j hj
 have c6:j < ss.length:=by simpa using hj
 constructor
 .unfold World.cell?;simp only[hh,akg];rw[getElem!_pos ss.toArray j hj,uR j c6];simp
 .unfold World.frozen?;simp only[hh];simp
theorem TW {ty:TypeId} {ss:List (List UInt8)} {m:jE} (hm:μ r=some m) (hs:eA w X μ (aq [(r,.sl ty 1 (ss.map fun s=>[dS s]))])) (hb:m.fk=none):ss=[]:=by
 obtain⟨m',cF,ok⟩:=hs.rows r _ (wv r _);rw[hm]at cF;obtain rfl:=AI cF;generalize dJ:Row.sl ty 1 (ss.map fun s=>[dS s])=row at ok
 cases ok with
 | nil _ _=>simp only[Row.sl.injEq]at dJ;simpa using dJ.2.2
 | box bk _ _ _ _=>rw[hb]at bk;cases bk
 | mp bk _ _ _=>rw[hb]at bk;cases bk
 | it bk _ _=>rw[hb]at bk;cases bk
 | sl bk _ _ _ _ _ _ _ _=>rw[hb]at bk;cases bk
end
def nM (ss:List (List UInt8)):List (List UInt8):=ss.mergeSort fun x y=>decide (x<=y)
theorem tO (ss:List (List UInt8)):(nM ss).length=ss.length:=by simp[nM]
theorem agN (G:ay) (r:Nat) (ty:TypeId) (ss:List (List UInt8)) (hl:ss.length < 2^60):MC prog G [r] 243 [.own r 0 ss.length] (aq [(r,.sl ty 1 (ss.map fun s=>[dS s]))]) (.d (.bz [])) (aq [(r,.sl ty 1 ((nM ss).map fun s=>[dS s]))]):=by
 refine⟨iA.of func243 rfl rfl,fun X w μ vs hs dt bd hv=>?_⟩
 obtain⟨v,rfl⟩:∃ v,vs = #[v]:=by
  match vs,bd with
  | ⟨[v]⟩,_=>exact⟨v,rfl⟩
 obtain⟨m,hm,hc⟩:=(hv 0 v _ rfl rfl).lF;have hL:Lays.n190 prog Tryz.RO:={ Tryz.abU with };by_cases h0:ss=[]
 .subst h0
  have e:∃ p cap,v = .slice p 0 cap:=by
   rcases hc with⟨_,rfl,_⟩ | ⟨b,_,rfl,_⟩
   .exact⟨_,_,rfl⟩
   .exact⟨_,_,rfl⟩
  obtain⟨p,cap,rfl⟩:=e;have e1:nM []=[]:=aj2 (by rw[tO];rfl);rw[e1];refine (Any.slices_Sort_string_none hL p cap w).mono fun e w' ⟨he,hw⟩=>?_;subst hw;exact⟨_,_,_,μ,he,⟨rfl,rfl⟩,.d (.bz rfl fun j u c hu hc=>by simp at hu),hs,.refl _ _ _⟩
 .rcases hc with⟨hb,rfl,_,hn⟩ | ⟨b,hb,rfl,hn⟩
  .exact absurd (TW hm hs hb) h0
  .have hH:=TV hm hs hb;have j3:b < w.heap.size:=hs.mF ⟨r,m,hm,hb⟩;rw[ak5];refine (Any.slices_Sort_string hL b 0 (m.cap - 0) ss w hH j3 aa).mono fun e w' ⟨he,n,os,hw⟩=>?_;subst hw;obtain⟨h1,h2⟩:=TX (n:=n) (os:=os) hm hs hb (tO ss);exact⟨_,_,_,μ,he,⟨rfl,rfl⟩,.d (.bz rfl fun j u c hu hc=>by simp at hu),h1,h2⟩
theorem W8 (G:ay) (r:Nat) (ty:TypeId) (ss:List (List UInt8)) (hl:ss.length < 2^60):MC prog G [r] 244 [.own r 0 ss.length] (aq [(r,.sl ty 1 (ss.map fun s=>[dS s]))]) (.own r 0 (Lib.compact ss).length) (aq [(r,.sl ty 1 ((Lib.compact ss ++ List.replicate (ss.length - (Lib.compact ss).length) []).map fun s=>[dS s]))]):=by
 refine⟨iA.of func244 rfl rfl,fun X w μ vs hs dt bd hv=>?_⟩
 obtain⟨v,rfl⟩:∃ v,vs = #[v]:=by
  match vs,bd with
  | ⟨[v]⟩,_=>exact⟨v,rfl⟩
 have js:=hv 0 v _ rfl rfl;obtain⟨m,hm,hc⟩:=js.lF;have hle:=Lib.compact_length_le ss;have hL:Lays.n194 prog Tryz.RQ:={ Tryz.abV with };by_cases h0:ss=[]
 .subst h0;have e0:(Lib.compact ([]:List (List UInt8)))=[]:=aj2 (by simpa using hle);rw[e0]
  have e:∃ p cap,v = .slice p 0 cap:=by
   rcases hc with⟨_,rfl,_⟩ | ⟨b,_,rfl,_⟩
   .exact⟨_,_,rfl⟩
   .exact⟨_,_,rfl⟩
  obtain⟨p,cap,rfl⟩:=e;refine (Any.slices_Compact_string_empty hL p cap w).mono fun e w' ⟨he,hw⟩=>?_;subst hw;exact⟨_,_,_,μ,he,⟨rfl,rfl⟩,js,hs,.refl _ _ _⟩
 .rcases hc with⟨hb,rfl,_,hn⟩ | ⟨b,hb,rfl,hn⟩
  .exact absurd (TW hm hs hb) h0
  .have hH:=TV hm hs hb;obtain⟨KX,cur,hh,cO,ou,gK,uR⟩:=MM hm hs hb;rw[ak5];refine (Any.slices_Compact_string hL b 0 (m.cap - 0) ss w hH aa aa).mono fun e w' ⟨he,n,hw⟩=>?_
   have hz:(Lib.compact ss ++ List.replicate (ss.length - (Lib.compact ss).length) []).length=ss.length:=by simp;omega
   obtain⟨h1,h2⟩:=TX (n:=n) (os:=#[]) hm hs hb hz;rw[grow_empty]at h1 h2;subst hw;refine⟨_,_,_,μ,he,⟨rfl,rfl⟩,.own hm (.inr ⟨b,hb,ak,aa⟩),h1,h2⟩
end Go.Proofs.YtoohljflflnbeaaGreatDoor
namespace Go.Proofs.YtoohljflflnbeaaGreatDoor
def Le (st a b:Bool):Prop:=a=st\/a=b
def Rw (now:Nat->Bool->Bool) (nx:Nat->Nat) (st:Bool):Nat->Nat->Bool
 | 0,_=>st
 | k+1,i=>now i (Rw now nx st k (nx i))
def Ox (f:Nat->Bool):Nat->Nat
 | 0=>0
 | n+1=>Ox f n+if f n then 1 else 0
def up (st:Bool) (n:Nat) (f:Nat->Bool):Nat:=Ox (fun i=>f i != st) n
structure Kept (now:Nat->Bool->Bool) (nx:Nat->Nat) (st:Bool) (n:Nat) (f:Nat->Bool):Prop where
 le:∀ i,i < n->Le st (f i) (Rw now nx st n i)
 grow:∀ i,i < n->Le st (f i) (now i (f (nx i)))
