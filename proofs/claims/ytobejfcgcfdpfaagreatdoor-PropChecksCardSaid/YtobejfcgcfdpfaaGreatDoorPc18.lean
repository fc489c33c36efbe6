/- Parts. -/
import Derived.Test.YtobejfcgcfdpfaaGreatDoorPc15
import Derived.Test.YtobejfcgcfdpfaaGreatDoorPc16
import Derived.Test.YtobejfcgcfdpfaaGreatDoorPc17
import Derived.Shelf.Slices.In.SortNone
import Derived.Lib.RowBridge
set_option linter.unusedSimpArgs false
set_option linter.unusedVariables false
open Go.Proofs.Tryz
namespace Go.Proofs.YtobejfcgcfdpfaaGreatDoor
open Go.Av Go.Sort
open Go.Shelf
section
variable {w:World} {X:Nat->Prop} {μ:Mu} {r:Nat}
theorem xI (r:Nat) (row:Row):aw [(r,row)] r=some row:=by simp[aw,List.lookup]
theorem HJ {r q:Nat} (row:Row) (h:q≠r):aw [(r,row)] q=none:=by simp[aw,List.lookup,beq_eq_false_iff_ne.2 h]
theorem O1 {ty:TypeId} {ss:List (List UInt8)} {m:jZ} {b:Nat} (hm:μ r=some m) (hs:eT w X μ (aw [(r,.sl ty 1 (ss.map fun s=>[dS s]))])) (hb:m.fT=some b) :
  m.sz=1/\∃ cur,w.heap[b]? = some (.cells cur ty (0,0))/\cur.size=m.cap/\ss.length<=m.cap/\m.cap<=maxLen/\∀ i (hi:i < ss.length),cur[i]? = some (encStr ss[i]):=by
 obtain⟨m',cL,ok⟩:=hs.rows r _ (xI r _);rw[hm]at cL;obtain rfl:=AI cL;generalize eg:Row.sl ty 1 (ss.map fun s=>[dS s])=row at ok
 cases ok with
 | nil br _=>rw[hb]at br;cases br
 | box _ _ _ _ _=>cases eg
 | mp _ _ _ _=>cases eg
 | it _ _ _=>cases eg
 | sl br bp hh cY hn iq hl hz hr=>
  simp only[Row.sl.injEq]at eg;obtain⟨rfl,rfl,rfl⟩:=eg;rw[hb]at br;obtain rfl:=AI br;refine⟨bp,_,hh,by simpa using cY,by simpa using hn,iq,fun i hi=>?_⟩;obtain⟨u,hu,EA⟩:=hr i 0 [dS ss[i]] (dS ss[i]) (by simp[hi]) rfl;have:=EA.scalar;subst this;simpa[bs]using hu
theorem WE {ty:TypeId} {ss zs:List (List UInt8)} {m:jZ} {b n:Nat} {os:Array Obj} (hm:μ r=some m) (hs:eT w X μ (aw [(r,.sl ty 1 (ss.map fun s=>[dS s]))])) (hb:m.fT=some b) (hz:zs.length=ss.length) :
  eT (grow (putRow encStr (Sort.ahead w n) b 0 zs.toArray) os) X μ (aw [(r,.sl ty 1 (zs.map fun s=>[dS s]))])/\Ev (jS [r]) w μ (grow (putRow encStr (Sort.ahead w n) b 0 zs.toArray) os) μ:=by
 obtain⟨bp,cur,hh,cY,hn,iq,vR⟩:=O1 hm hs hb;have fI:b < w.heap.size:=hs.nP ⟨r,m,hm,hb⟩
 have hsize:(putRow encStr (Sort.ahead w n) b 0 zs.toArray).heap.size=w.heap.size:=by simp[putRow,mapBlock,Sort.ahead]
 have hold:∀ k,k < w.heap.size->k≠b->(grow (putRow encStr (Sort.ahead w n) b 0 zs.toArray) os).heap[k]? = w.heap[k]?:=fun k hk bq=>by
  unfold grow;dsimp only;rw[amY (by rw[hsize];exact hk)];unfold putRow mapBlock Sort.ahead;dsimp only;rw[anO,if_neg (ann bq)]
 have mQ:(grow (putRow encStr (Sort.ahead w n) b 0 zs.toArray) os).heap[b]? = some (.cells (putCells encStr 0 zs.toArray cur) ty (0,0)):=by
  unfold grow;dsimp only;rw[amY (by rw[hsize];exact fI)];unfold putRow mapBlock Sort.ahead;dsimp only;rw[anO,if_pos rfl,hh];rfl
 have zC:w.heap.size<=(grow (putRow encStr (Sort.ahead w n) b 0 zs.toArray) os).heap.size:=by
  unfold grow;simp[hsize]
 have ev:Ev (jS [r]) w μ (grow (putRow encStr (Sort.ahead w n) b 0 zs.toArray) os) μ:=⟨zC,rfl,rfl,rfl,fun k hk hr=>⟨hold k hk fun e=>hr ⟨r,m,hm,e ▸ hb⟩,hr⟩,fun _ _ h _=>h⟩;refine⟨⟨fun q row hq=>?_,fun q mq hq=>?_,hs.inj,hs.frame,fun k hk=>amN (hs.fits k hk) zC⟩,ev⟩
 .by_cases e:q=r
  .subst e;rw[xI]at hq;obtain rfl:=AI hq;refine⟨m,hm,.sl hb bp mQ (by simpa[putCells]using cY) (by simpa[hz]using hn) iq (fun el bn=>?_) aa fun i j el c hi hj=>?_⟩
   .obtain⟨x,_,rfl⟩:=amS.1 bn;rfl
   .rw[amm]at hi;obtain⟨x,hx,rfl⟩:=AS.1 hi;have dr:i < zs.length:=(BY.1 hx).1
    have n9:j=0:=by have:=(BY.1 hj).1;simpa using this
    subst n9
    obtain rfl:dS x=c:=by simpa using hj
    have cH:i < cur.size:=aa
    refine⟨encStr x,?_,.v _⟩;simp only[anx,anj,putCells,Array.getElem?_mapIdx,amA cH,amI];rw[if_pos (by simp;omega)];congr 2;simp only[Nat.sub_zero];rw[getElem!_pos zs.toArray i (by simpa using dr)];simpa using (BY.1 hx).2
  .rw[HJ _ e]at hq;cases hq
 .obtain⟨row,eg⟩:=hs.l5 q mq hq;by_cases e:q=r
  .exact⟨_,by rw[e];exact xI r _⟩
  .rw[HJ _ e]at eg;cases eg
theorem WB {ty:TypeId} {ss:List (List UInt8)} {m:jZ} {b:Nat} (hm:μ r=some m) (hs:eT w X μ (aw [(r,.sl ty 1 (ss.map fun s=>[dS s]))])) (hb:m.fT=some b):Holds encStr w b 0 ss.toArray:=by
 obtain⟨bp,cur,hh,cY,hn,iq,vR⟩:=O1 hm hs hb;intro j hj
 have dG:j < ss.length:=by simpa using hj
 constructor
 .unfold World.cell?;simp only[hh,amR];rw[getElem!_pos ss.toArray j hj,vR j dG];simp
 .unfold World.frozen?;simp only[hh];simp
theorem WC {ty:TypeId} {ss:List (List UInt8)} {m:jZ} (hm:μ r=some m) (hs:eT w X μ (aw [(r,.sl ty 1 (ss.map fun s=>[dS s]))])) (hb:m.fT=none):ss=[]:=by
 obtain⟨m',cL,ok⟩:=hs.rows r _ (xI r _);rw[hm]at cL;obtain rfl:=AI cL;generalize eg:Row.sl ty 1 (ss.map fun s=>[dS s])=row at ok
 cases ok with
 | nil _ _=>simp only[Row.sl.injEq]at eg;simpa using eg.2.2
 | box br _ _ _ _=>rw[hb]at br;cases br
 | mp br _ _ _=>rw[hb]at br;cases br
 | it br _ _=>rw[hb]at br;cases br
 | sl br _ _ _ _ _ _ _ _=>rw[hb]at br;cases br
end
def oD (ss:List (List UInt8)):List (List UInt8):=ss.mergeSort fun x y=>decide (x<=y)
theorem tW (ss:List (List UInt8)):(oD ss).length=ss.length:=by simp[oD]
theorem ai9 (G:aB) (r:Nat) (ty:TypeId) (ss:List (List UInt8)) (hl:ss.length < 2^60):MC prog G [r] 114 [.own r 0 ss.length] (aw [(r,.sl ty 1 (ss.map fun s=>[dS s]))]) (.d (.bz [])) (aw [(r,.sl ty 1 ((oD ss).map fun s=>[dS s]))]):=by
 refine⟨iV.of func114 rfl rfl,fun X w μ vs hs cW bp hv=>?_⟩
 obtain⟨v,rfl⟩:∃ v,vs = #[v]:=by
  match vs,bp with
  | ⟨[v]⟩,_=>exact⟨v,rfl⟩
 obtain⟨m,hm,hc⟩:=(hv 0 v _ rfl rfl).ml;have hL:Lays.n190 prog Tryz.UE:={ Tryz.aef with };by_cases h0:ss=[]
 .subst h0
  have e:∃ p cap,v = .slice p 0 cap:=by
   rcases hc with⟨_,rfl,_⟩ | ⟨b,_,rfl,_⟩
   .exact⟨_,_,rfl⟩
   .exact⟨_,_,rfl⟩
  obtain⟨p,cap,rfl⟩:=e;have e1:oD []=[]:=amC (by rw[tW];rfl);rw[e1];refine (Any.slices_Sort_string_none hL p cap w).mono fun e w' ⟨he,hw⟩=>?_;subst hw;exact⟨_,_,_,μ,he,⟨rfl,rfl⟩,.d (.bz rfl fun j u c hu hc=>by simp at hu),hs,.refl _ _ _⟩
 .rcases hc with⟨hb,rfl,_,hn⟩ | ⟨b,hb,rfl,hn⟩
  .exact absurd (WC hm hs hb) h0
  .have hH:=WB hm hs hb;have fI:b < w.heap.size:=hs.nP ⟨r,m,hm,hb⟩;rw[anJ];refine (Any.slices_Sort_string hL b 0 (m.cap - 0) ss w hH fI aa).mono fun e w' ⟨he,n,os,hw⟩=>?_;subst hw;obtain⟨h1,h2⟩:=WE (n:=n) (os:=os) hm hs hb (tW ss);exact⟨_,_,_,μ,he,⟨rfl,rfl⟩,.d (.bz rfl fun j u c hu hc=>by simp at hu),h1,h2⟩
theorem ZZ (G:aB) (r:Nat) (ty:TypeId) (ss:List (List UInt8)) (hl:ss.length < 2^60):MC prog G [r] 115 [.own r 0 ss.length] (aw [(r,.sl ty 1 (ss.map fun s=>[dS s]))]) (.own r 0 (Lib.compact ss).length) (aw [(r,.sl ty 1 ((Lib.compact ss ++ List.replicate (ss.length - (Lib.compact ss).length) []).map fun s=>[dS s]))]):=by
 refine⟨iV.of func115 rfl rfl,fun X w μ vs hs cW bp hv=>?_⟩
 obtain⟨v,rfl⟩:∃ v,vs = #[v]:=by
  match vs,bp with
  | ⟨[v]⟩,_=>exact⟨v,rfl⟩
 have iZ:=hv 0 v _ rfl rfl;obtain⟨m,hm,hc⟩:=iZ.ml;have hle:=Lib.compact_length_le ss;have hL:Lays.n194 prog Tryz.UF:={ Tryz.aeg with };by_cases h0:ss=[]
 .subst h0;have e0:(Lib.compact ([]:List (List UInt8)))=[]:=amC (by simpa using hle);rw[e0]
  have e:∃ p cap,v = .slice p 0 cap:=by
   rcases hc with⟨_,rfl,_⟩ | ⟨b,_,rfl,_⟩
   .exact⟨_,_,rfl⟩
   .exact⟨_,_,rfl⟩
  obtain⟨p,cap,rfl⟩:=e;refine (Any.slices_Compact_string_empty hL p cap w).mono fun e w' ⟨he,hw⟩=>?_;subst hw;exact⟨_,_,_,μ,he,⟨rfl,rfl⟩,iZ,hs,.refl _ _ _⟩
 .rcases hc with⟨hb,rfl,_,hn⟩ | ⟨b,hb,rfl,hn⟩
  .exact absurd (WC hm hs hb) h0
  .have hH:=WB hm hs hb;obtain⟨Nd,cur,hh,cY,lU,iq,vR⟩:=O1 hm hs hb;rw[anJ];refine (Any.slices_Compact_string hL b 0 (m.cap - 0) ss w hH aa aa).mono fun e w' ⟨he,n,hw⟩=>?_
   have hz:(Lib.compact ss ++ List.replicate (ss.length - (Lib.compact ss).length) []).length=ss.length:=by simp;omega
   obtain⟨h1,h2⟩:=WE (n:=n) (os:=#[]) hm hs hb hz;rw[grow_empty]at h1 h2;subst hw;refine⟨_,_,_,μ,he,⟨rfl,rfl⟩,.own hm (.inr ⟨b,hb,ak,aa⟩),h1,h2⟩
end Go.Proofs.YtobejfcgcfdpfaaGreatDoor
namespace Go.Proofs.YtobejfcgcfdpfaaGreatDoor
def Le (st a b:Bool):Prop:=a=st\/a=b
def Up (now:Nat->Bool->Bool) (nx:Nat->Nat) (st:Bool):Nat->Nat->Bool
 | 0,_=>st
 | k+1,i=>now i (Up now nx st k (nx i))
def QM (f:Nat->Bool):Nat->Nat
 | 0=>0
 | n+1=>QM f n+if f n then 1 else 0
def up (st:Bool) (n:Nat) (f:Nat->Bool):Nat:=QM (fun i=>f i != st) n
structure Kept (now:Nat->Bool->Bool) (nx:Nat->Nat) (st:Bool) (n:Nat) (f:Nat->Bool):Prop where
 le:∀ i,i < n->Le st (f i) (Up now nx st n i)
 grow:∀ i,i < n->Le st (f i) (now i (f (nx i)))
