/- Parts. -/
import Derived.Test.YtoohljflflnbeaaGreatDoorSt16
import Derived.Test.YtoohljflflnbeaaGreatDoorSt17
import Derived.Test.YtoohljflflnbeaaGreatDoorSt18
import Derived.Shelf.Slices.In.SortNone
import Derived.Lib.RowBridge
set_option linter.unusedSimpArgs false
set_option linter.unusedVariables false
open Go.Proofs.Tryz
namespace Go.Proofs.YtoohljflflnbeaaGreatDoor
open Go.Av Go.Sort
open Go.Shelf
section
variable {w:World} {X:Nat->Prop} {μ:Mu} {r:Nat}
theorem Br (r:Nat) (row:Row):au [(r,row)] r=some row:=by simp[au,List.lookup]
theorem JR {r q:Nat} (row:Row) (h:q≠r):au [(r,row)] q=none:=by simp[au,List.lookup,beq_eq_false_iff_ne.2 h]
theorem GR {ty:TypeId} {ss:List (List UInt8)} {m:jh} {b:Nat} (hm:μ r=some m) (hs:eu w X μ (au [(r,.sl ty 1 (ss.map fun s=>[dS s]))])) (hb:m.fh=some b) :
  m.sz=1/\∃ cur,w.heap[b]? = some (.cells cur ty (0,0))/\cur.size=m.cap/\ss.length<=m.cap/\m.cap<=maxLen/\∀ i (hi:i < ss.length),cur[i]? = some (encStr ss[i]):=by
 obtain⟨m',cD,ok⟩:=hs.rows r _ (Br r _);rw[hm]at cD;obtain rfl:=AI cD;generalize eT:Row.sl ty 1 (ss.map fun s=>[dS s])=row at ok
 cases ok with
 | nil bp _=>rw[hb]at bp;cases bp
 | box _ _ _ _ _=>cases eT
 | mp _ _ _ _=>cases eT
 | it _ _ _=>cases eT
 | sl bp bc hh cK hn ix hl hz hr=>
  simp only[Row.sl.injEq]at eT;obtain⟨rfl,rfl,rfl⟩:=eT;rw[hb]at bp;obtain rfl:=AI bp;refine⟨bc,_,hh,by simpa using cK,by simpa using hn,ix,fun i hi=>?_⟩;obtain⟨u,hu,Fo⟩:=hr i 0 [dS ss[i]] (dS ss[i]) (by simp[hi]) rfl;have:=Fo.scalar;subst this;simpa[bs]using hu
theorem MH {ty:TypeId} {ss zs:List (List UInt8)} {m:jh} {b n:Nat} {os:Array Obj} (hm:μ r=some m) (hs:eu w X μ (au [(r,.sl ty 1 (ss.map fun s=>[dS s]))])) (hb:m.fh=some b) (hz:zs.length=ss.length) :
  eu (grow (putRow encStr (Sort.ahead w n) b 0 zs.toArray) os) X μ (au [(r,.sl ty 1 (zs.map fun s=>[dS s]))])/\Ev (gS [r]) w μ (grow (putRow encStr (Sort.ahead w n) b 0 zs.toArray) os) μ:=by
 obtain⟨bc,cur,hh,cK,hn,ix,o0⟩:=GR hm hs hb;have eG:b < w.heap.size:=hs.lB ⟨r,m,hm,hb⟩
 have hsize:(putRow encStr (Sort.ahead w n) b 0 zs.toArray).heap.size=w.heap.size:=by simp[putRow,mapBlock,Sort.ahead]
 have hold:∀ k,k < w.heap.size->k≠b->(grow (putRow encStr (Sort.ahead w n) b 0 zs.toArray) os).heap[k]? = w.heap[k]?:=fun k hk bw=>by
  unfold grow;dsimp only;rw[abM (by rw[hsize];exact hk)];unfold putRow mapBlock Sort.ahead;dsimp only;rw[aca,if_neg (abY bw)]
 have nC:(grow (putRow encStr (Sort.ahead w n) b 0 zs.toArray) os).heap[b]? = some (.cells (putCells encStr 0 zs.toArray cur) ty (0,0)):=by
  unfold grow;dsimp only;rw[abM (by rw[hsize];exact eG)];unfold putRow mapBlock Sort.ahead;dsimp only;rw[aca,if_pos rfl,hh];rfl
 have JE:w.heap.size<=(grow (putRow encStr (Sort.ahead w n) b 0 zs.toArray) os).heap.size:=by
  unfold grow;simp[hsize]
 have ev:Ev (gS [r]) w μ (grow (putRow encStr (Sort.ahead w n) b 0 zs.toArray) os) μ:=⟨JE,rfl,rfl,rfl,fun k hk hr=>⟨hold k hk fun e=>hr ⟨r,m,hm,e ▸ hb⟩,hr⟩,fun _ _ h _=>h⟩;refine⟨⟨fun q row hq=>?_,fun q mq hq=>?_,hs.inj,hs.frame,fun k hk=>abu (hs.fits k hk) JE⟩,ev⟩
 .by_cases e:q=r
  .subst e;rw[Br]at hq;obtain rfl:=AI hq;refine⟨m,hm,.sl hb bc nC (by simpa[putCells]using cK) (by simpa[hz]using hn) ix (fun el bu=>?_) aa fun i j el c hi hj=>?_⟩
   .obtain⟨x,_,rfl⟩:=abE.1 bu;rfl
   .rw[aa3]at hi;obtain⟨x,hx,rfl⟩:=AS.1 hi;have dG:i < zs.length:=(By.1 hx).1
    have nB:j=0:=by have:=(By.1 hj).1;simpa using this
    subst nB
    obtain rfl:dS x=c:=by simpa using hj
    have e6:i < cur.size:=aa
    refine⟨encStr x,?_,.v _⟩;simp only[ab3,abT,putCells,Array.getElem?_mapIdx,abn e6,abC];rw[if_pos (by simp;omega)];congr 2;simp only[Nat.sub_zero];rw[getElem!_pos zs.toArray i (by simpa using dG)];simpa using (By.1 hx).2
  .rw[JR _ e]at hq;cases hq
 .obtain⟨row,eT⟩:=hs.j6 q mq hq;by_cases e:q=r
  .exact⟨_,by rw[e];exact Br r _⟩
  .rw[JR _ e]at eT;cases eT
theorem MF {ty:TypeId} {ss:List (List UInt8)} {m:jh} {b:Nat} (hm:μ r=some m) (hs:eu w X μ (au [(r,.sl ty 1 (ss.map fun s=>[dS s]))])) (hb:m.fh=some b):Holds encStr w b 0 ss.toArray:=by
 obtain⟨bc,cur,hh,cK,hn,ix,o0⟩:=GR hm hs hb;intro j hj
 have fH:j < ss.length:=by simpa using hj
 constructor
 .unfold World.cell?;simp only[hh,abe];rw[getElem!_pos ss.toArray j hj,o0 j fH];simp
 .unfold World.frozen?;simp only[hh];simp
theorem MG {ty:TypeId} {ss:List (List UInt8)} {m:jh} (hm:μ r=some m) (hs:eu w X μ (au [(r,.sl ty 1 (ss.map fun s=>[dS s]))])) (hb:m.fh=none):ss=[]:=by
 obtain⟨m',cD,ok⟩:=hs.rows r _ (Br r _);rw[hm]at cD;obtain rfl:=AI cD;generalize eT:Row.sl ty 1 (ss.map fun s=>[dS s])=row at ok
 cases ok with
 | nil _ _=>simp only[Row.sl.injEq]at eT;simpa using eT.2.2
 | box bp _ _ _ _=>rw[hb]at bp;cases bp
 | mp bp _ _ _=>rw[hb]at bp;cases bp
 | it bp _ _=>rw[hb]at bp;cases bp
 | sl bp _ _ _ _ _ _ _ _=>rw[hb]at bp;cases bp
end
def nS (ss:List (List UInt8)):List (List UInt8):=ss.mergeSort fun x y=>decide (x<=y)
theorem vc (ss:List (List UInt8)):(nS ss).length=ss.length:=by simp[nS]
theorem WW (G:aF) (r:Nat) (ty:TypeId) (ss:List (List UInt8)) (hl:ss.length < 2^60):MC prog G [r] 243 [.own r 0 ss.length] (au [(r,.sl ty 1 (ss.map fun s=>[dS s]))]) (.d (.bI [])) (au [(r,.sl ty 1 ((nS ss).map fun s=>[dS s]))]):=by
 refine⟨fU.of func243 rfl rfl,fun X w μ vs hs cY bc hv=>?_⟩
 obtain⟨v,rfl⟩:∃ v,vs = #[v]:=by
  match vs,bc with
  | ⟨[v]⟩,_=>exact⟨v,rfl⟩
 obtain⟨m,hm,hc⟩:=(hv 0 v _ rfl rfl).lp;have hL:Lays.n190 prog Tryz.KZ:={ Tryz.Ub with };by_cases h0:ss=[]
 .subst h0
  have e:∃ p cap,v = .slice p 0 cap:=by
   rcases hc with⟨_,rfl,_⟩ | ⟨b,_,rfl,_⟩
   .exact⟨_,_,rfl⟩
   .exact⟨_,_,rfl⟩
  obtain⟨p,cap,rfl⟩:=e;have e1:nS []=[]:=abx (by rw[vc];rfl);rw[e1];refine (Any.slices_Sort_string_none hL p cap w).mono fun e w' ⟨he,hw⟩=>?_;subst hw;exact⟨_,_,_,μ,he,⟨rfl,rfl⟩,.d (.bI rfl fun j u c hu hc=>by simp at hu),hs,.refl _ _ _⟩
 .rcases hc with⟨hb,rfl,_,hn⟩ | ⟨b,hb,rfl,hn⟩
  .exact absurd (MG hm hs hb) h0
  .have hH:=MF hm hs hb;have eG:b < w.heap.size:=hs.lB ⟨r,m,hm,hb⟩;rw[ab6];refine (Any.slices_Sort_string hL b 0 (m.cap - 0) ss w hH eG aa).mono fun e w' ⟨he,n,os,hw⟩=>?_;subst hw;obtain⟨h1,h2⟩:=MH (n:=n) (os:=os) hm hs hb (vc ss);exact⟨_,_,_,μ,he,⟨rfl,rfl⟩,.d (.bI rfl fun j u c hu hc=>by simp at hu),h1,h2⟩
theorem Ph (G:aF) (r:Nat) (ty:TypeId) (ss:List (List UInt8)) (hl:ss.length < 2^60):MC prog G [r] 244 [.own r 0 ss.length] (au [(r,.sl ty 1 (ss.map fun s=>[dS s]))]) (.own r 0 (Lib.compact ss).length) (au [(r,.sl ty 1 ((Lib.compact ss ++ List.replicate (ss.length - (Lib.compact ss).length) []).map fun s=>[dS s]))]):=by
 refine⟨fU.of func244 rfl rfl,fun X w μ vs hs cY bc hv=>?_⟩
 obtain⟨v,rfl⟩:∃ v,vs = #[v]:=by
  match vs,bc with
  | ⟨[v]⟩,_=>exact⟨v,rfl⟩
 have o7:=hv 0 v _ rfl rfl;obtain⟨m,hm,hc⟩:=o7.lp;have hle:=Lib.compact_length_le ss;have hL:Lays.n194 prog Tryz.La:={ Tryz.Uc with };by_cases h0:ss=[]
 .subst h0;have e0:(Lib.compact ([]:List (List UInt8)))=[]:=abx (by simpa using hle);rw[e0]
  have e:∃ p cap,v = .slice p 0 cap:=by
   rcases hc with⟨_,rfl,_⟩ | ⟨b,_,rfl,_⟩
   .exact⟨_,_,rfl⟩
   .exact⟨_,_,rfl⟩
  obtain⟨p,cap,rfl⟩:=e;refine (Any.slices_Compact_string_empty hL p cap w).mono fun e w' ⟨he,hw⟩=>?_;subst hw;exact⟨_,_,_,μ,he,⟨rfl,rfl⟩,o7,hs,.refl _ _ _⟩
 .rcases hc with⟨hb,rfl,_,hn⟩ | ⟨b,hb,rfl,hn⟩
  .exact absurd (MG hm hs hb) h0
  .have hH:=MF hm hs hb;obtain⟨Kb,cur,hh,cK,kQ,ix,o0⟩:=GR hm hs hb;rw[ab6];refine (Any.slices_Compact_string hL b 0 (m.cap - 0) ss w hH aa aa).mono fun e w' ⟨he,n,hw⟩=>?_
   have hz:(Lib.compact ss ++ List.replicate (ss.length - (Lib.compact ss).length) []).length=ss.length:=by simp;omega
   obtain⟨h1,h2⟩:=MH (n:=n) (os:=#[]) hm hs hb hz;rw[grow_empty]at h1 h2;subst hw;refine⟨_,_,_,μ,he,⟨rfl,rfl⟩,.own hm (.inr ⟨b,hb,al,aa⟩),h1,h2⟩
end Go.Proofs.YtoohljflflnbeaaGreatDoor
namespace Go.Proofs.YtoohljflflnbeaaGreatDoor
def Le (st a b:Bool):Prop:=a=st\/a=b
def KC (now:Nat->Bool->Bool) (nx:Nat->Nat) (st:Bool):Nat->Nat->Bool
 | 0,_=>st
 | k+1,i=>now i (KC now nx st k (nx i))
def Iv (f:Nat->Bool):Nat->Nat
 | 0=>0
 | n+1=>Iv f n+if f n then 1 else 0
def up (st:Bool) (n:Nat) (f:Nat->Bool):Nat:=Iv (fun i=>f i != st) n
structure Kept (now:Nat->Bool->Bool) (nx:Nat->Nat) (st:Bool) (n:Nat) (f:Nat->Bool):Prop where
 le:∀ i,i < n->Le st (f i) (KC now nx st n i)
 grow:∀ i,i < n->Le st (f i) (now i (f (nx i)))
