/- Parts. -/
import Derived.Test.YtoohljflflnbeaaGreatDoorBo15
import Derived.Test.YtoohljflflnbeaaGreatDoorBo16
import Derived.Test.YtoohljflflnbeaaGreatDoorBo17
import Derived.Shelf.Slices.In.SortNone
import Derived.Lib.RowBridge
set_option linter.unusedSimpArgs false
set_option linter.unusedVariables false
open Go.Proofs.Tryz
namespace Go.Proofs.YtoohljflflnbeaaGreatDoor
open Go.Av Go.Sort
open Go.Shelf
section
variable {w:World} {X:Nat->Prop} {μ:Mu} {r:Nat}
theorem u7 (r:Nat) (row:Row):aw [(r,row)] r=some row:=by simp[aw,List.lookup]
theorem Er {r q:Nat} (row:Row) (h:q≠r):aw [(r,row)] q=none:=by simp[aw,List.lookup,beq_eq_false_iff_ne.2 h]
theorem Ki {ty:TypeId} {ss:List (List UInt8)} {m:jo} {b:Nat} (hm:μ r=some m) (hs:eF w X μ (aw [(r,.sl ty 1 (ss.map fun s=>[dS s]))])) (hb:m.fo=some b) :
  m.sz=1/\∃ cur,w.heap[b]? = some (.cells cur ty (0,0))/\cur.size=m.cap/\ss.length<=m.cap/\m.cap<=maxLen/\∀ i (hi:i < ss.length),cur[i]? = some (encStr ss[i]):=by
 obtain⟨m',cH,ok⟩:=hs.rows r _ (u7 r _);rw[hm]at cH;obtain rfl:=AI cH;generalize dX:Row.sl ty 1 (ss.map fun s=>[dS s])=row at ok
 cases ok with
 | nil bk _=>rw[hb]at bk;cases bk
 | box _ _ _ _ _=>cases dX
 | mp _ _ _ _=>cases dX
 | it _ _ _=>cases dX
 | sl bk bg hh cX hn gZ hl hz hr=>
  simp only[Row.sl.injEq]at dX;obtain⟨rfl,rfl,rfl⟩:=dX;rw[hb]at bk;obtain rfl:=AI bk;refine⟨bg,_,hh,by simpa using cX,by simpa using hn,gZ,fun i hi=>?_⟩;obtain⟨u,hu,BQ⟩:=hr i 0 [dS ss[i]] (dS ss[i]) (by simp[hi]) rfl;have:=BQ.scalar;subst this;simpa[bs]using hu
theorem Q1 {ty:TypeId} {ss zs:List (List UInt8)} {m:jo} {b n:Nat} {os:Array Obj} (hm:μ r=some m) (hs:eF w X μ (aw [(r,.sl ty 1 (ss.map fun s=>[dS s]))])) (hb:m.fo=some b) (hz:zs.length=ss.length) :
  eF (grow (putRow encStr (Sort.ahead w n) b 0 zs.toArray) os) X μ (aw [(r,.sl ty 1 (zs.map fun s=>[dS s]))])/\Ev (jh [r]) w μ (grow (putRow encStr (Sort.ahead w n) b 0 zs.toArray) os) μ:=by
 obtain⟨bg,cur,hh,cX,hn,gZ,wN⟩:=Ki hm hs hb;have gX:b < w.heap.size:=hs.mg ⟨r,m,hm,hb⟩
 have hsize:(putRow encStr (Sort.ahead w n) b 0 zs.toArray).heap.size=w.heap.size:=by simp[putRow,mapBlock,Sort.ahead]
 have hold:∀ k,k < w.heap.size->k≠b->(grow (putRow encStr (Sort.ahead w n) b 0 zs.toArray) os).heap[k]? = w.heap[k]?:=fun k hk bl=>by
  unfold grow;dsimp only;rw[ag8 (by rw[hsize];exact hk)];unfold putRow mapBlock Sort.ahead;dsimp only;rw[ah3,if_neg (ahD bl)]
 have mB:(grow (putRow encStr (Sort.ahead w n) b 0 zs.toArray) os).heap[b]? = some (.cells (putCells encStr 0 zs.toArray cur) ty (0,0)):=by
  unfold grow;dsimp only;rw[ag8 (by rw[hsize];exact gX)];unfold putRow mapBlock Sort.ahead;dsimp only;rw[ah3,if_pos rfl,hh];rfl
 have wV:w.heap.size<=(grow (putRow encStr (Sort.ahead w n) b 0 zs.toArray) os).heap.size:=by
  unfold grow;simp[hsize]
 have ev:Ev (jh [r]) w μ (grow (putRow encStr (Sort.ahead w n) b 0 zs.toArray) os) μ:=⟨wV,rfl,rfl,rfl,fun k hk hr=>⟨hold k hk fun e=>hr ⟨r,m,hm,e ▸ hb⟩,hr⟩,fun _ _ h _=>h⟩;refine⟨⟨fun q row hq=>?_,fun q mq hq=>?_,hs.inj,hs.frame,fun k hk=>ag2 (hs.fits k hk) wV⟩,ev⟩
 .by_cases e:q=r
  .subst e;rw[u7]at hq;obtain rfl:=AI hq;refine⟨m,hm,.sl hb bg mB (by simpa[putCells]using cX) (by simpa[hz]using hn) gZ (fun el bz=>?_) aa fun i j el c hi hj=>?_⟩
   .obtain⟨x,_,rfl⟩:=ag3.1 bz;rfl
   .rw[agC]at hi;obtain⟨x,hx,rfl⟩:=AS.1 hi;have dD:i < zs.length:=(BY.1 hx).1
    have mz:j=0:=by have:=(BY.1 hj).1;simpa using this
    subst mz
    obtain rfl:dS x=c:=by simpa using hj
    have cN:i < cur.size:=aa
    refine⟨encStr x,?_,.v _⟩;simp only[ahK,ahB,putCells,Array.getElem?_mapIdx,agL cN,ag1];rw[if_pos (by simp;omega)];congr 2;simp only[Nat.sub_zero];rw[getElem!_pos zs.toArray i (by simpa using dD)];simpa using (BY.1 hx).2
  .rw[Er _ e]at hq;cases hq
 .obtain⟨row,dX⟩:=hs.lD q mq hq;by_cases e:q=r
  .exact⟨_,by rw[e];exact u7 r _⟩
  .rw[Er _ e]at dX;cases dX
theorem QZ {ty:TypeId} {ss:List (List UInt8)} {m:jo} {b:Nat} (hm:μ r=some m) (hs:eF w X μ (aw [(r,.sl ty 1 (ss.map fun s=>[dS s]))])) (hb:m.fo=some b):Holds encStr w b 0 ss.toArray:=by
 obtain⟨bg,cur,hh,cX,hn,gZ,wN⟩:=Ki hm hs hb;intro j hj
 have eN:j < ss.length:=by simpa using hj
 constructor
 .unfold World.cell?;simp only[hh,ag4];rw[getElem!_pos ss.toArray j hj,wN j eN];simp
 .unfold World.frozen?;simp only[hh];simp
theorem Q0 {ty:TypeId} {ss:List (List UInt8)} {m:jo} (hm:μ r=some m) (hs:eF w X μ (aw [(r,.sl ty 1 (ss.map fun s=>[dS s]))])) (hb:m.fo=none):ss=[]:=by
 obtain⟨m',cH,ok⟩:=hs.rows r _ (u7 r _);rw[hm]at cH;obtain rfl:=AI cH;generalize dX:Row.sl ty 1 (ss.map fun s=>[dS s])=row at ok
 cases ok with
 | nil _ _=>simp only[Row.sl.injEq]at dX;simpa using dX.2.2
 | box bk _ _ _ _=>rw[hb]at bk;cases bk
 | mp bk _ _ _=>rw[hb]at bk;cases bk
 | it bk _ _=>rw[hb]at bk;cases bk
 | sl bk _ _ _ _ _ _ _ _=>rw[hb]at bk;cases bk
end
def nv (ss:List (List UInt8)):List (List UInt8):=ss.mergeSort fun x y=>decide (x<=y)
theorem sE (ss:List (List UInt8)):(nv ss).length=ss.length:=by simp[nv]
theorem adS (G:aC) (r:Nat) (ty:TypeId) (ss:List (List UInt8)) (hl:ss.length < 2^60):MC prog G [r] 243 [.own r 0 ss.length] (aw [(r,.sl ty 1 (ss.map fun s=>[dS s]))]) (.d (.bx [])) (aw [(r,.sl ty 1 ((nv ss).map fun s=>[dS s]))]):=by
 refine⟨gS.of func243 rfl rfl,fun X w μ vs hs dz bg hv=>?_⟩
 obtain⟨v,rfl⟩:∃ v,vs = #[v]:=by
  match vs,bg with
  | ⟨[v]⟩,_=>exact⟨v,rfl⟩
 obtain⟨m,hm,hc⟩:=(hv 0 v _ rfl rfl).ma;have hL:Lays.n190 prog Tryz.O8:={ Tryz.aaS with };by_cases h0:ss=[]
 .subst h0
  have e:∃ p cap,v = .slice p 0 cap:=by
   rcases hc with⟨_,rfl,_⟩ | ⟨b,_,rfl,_⟩
   .exact⟨_,_,rfl⟩
   .exact⟨_,_,rfl⟩
  obtain⟨p,cap,rfl⟩:=e;have e1:nv []=[]:=agZ (by rw[sE];rfl);rw[e1];refine (Any.slices_Sort_string_none hL p cap w).mono fun e w' ⟨he,hw⟩=>?_;subst hw;exact⟨_,_,_,μ,he,⟨rfl,rfl⟩,.d (.bx rfl fun j u c hu hc=>by simp at hu),hs,.refl _ _ _⟩
 .rcases hc with⟨hb,rfl,_,hn⟩ | ⟨b,hb,rfl,hn⟩
  .exact absurd (Q0 hm hs hb) h0
  .have hH:=QZ hm hs hb;have gX:b < w.heap.size:=hs.mg ⟨r,m,hm,hb⟩;rw[ahM];refine (Any.slices_Sort_string hL b 0 (m.cap - 0) ss w hH gX aa).mono fun e w' ⟨he,n,os,hw⟩=>?_;subst hw;obtain⟨h1,h2⟩:=Q1 (n:=n) (os:=os) hm hs hb (sE ss);exact⟨_,_,_,μ,he,⟨rfl,rfl⟩,.d (.bx rfl fun j u c hu hc=>by simp at hu),h1,h2⟩
theorem VM (G:aC) (r:Nat) (ty:TypeId) (ss:List (List UInt8)) (hl:ss.length < 2^60):MC prog G [r] 244 [.own r 0 ss.length] (aw [(r,.sl ty 1 (ss.map fun s=>[dS s]))]) (.own r 0 (Lib.compact ss).length) (aw [(r,.sl ty 1 ((Lib.compact ss ++ List.replicate (ss.length - (Lib.compact ss).length) []).map fun s=>[dS s]))]):=by
 refine⟨gS.of func244 rfl rfl,fun X w μ vs hs dz bg hv=>?_⟩
 obtain⟨v,rfl⟩:∃ v,vs = #[v]:=by
  match vs,bg with
  | ⟨[v]⟩,_=>exact⟨v,rfl⟩
 have hC:=hv 0 v _ rfl rfl;obtain⟨m,hm,hc⟩:=hC.ma;have hle:=Lib.compact_length_le ss;have hL:Lays.n194 prog Tryz.O9:={ Tryz.aaT with };by_cases h0:ss=[]
 .subst h0;have e0:(Lib.compact ([]:List (List UInt8)))=[]:=agZ (by simpa using hle);rw[e0]
  have e:∃ p cap,v = .slice p 0 cap:=by
   rcases hc with⟨_,rfl,_⟩ | ⟨b,_,rfl,_⟩
   .exact⟨_,_,rfl⟩
   .exact⟨_,_,rfl⟩
  obtain⟨p,cap,rfl⟩:=e;refine (Any.slices_Compact_string_empty hL p cap w).mono fun e w' ⟨he,hw⟩=>?_;subst hw;exact⟨_,_,_,μ,he,⟨rfl,rfl⟩,hC,hs,.refl _ _ _⟩
 .rcases hc with⟨hb,rfl,_,hn⟩ | ⟨b,hb,rfl,hn⟩
  .exact absurd (Q0 hm hs hb) h0
  .have hH:=QZ hm hs hb;obtain⟨IG,cur,hh,cX,nT,gZ,wN⟩:=Ki hm hs hb;rw[ahM];refine (Any.slices_Compact_string hL b 0 (m.cap - 0) ss w hH aa aa).mono fun e w' ⟨he,n,hw⟩=>?_
   have hz:(Lib.compact ss ++ List.replicate (ss.length - (Lib.compact ss).length) []).length=ss.length:=by simp;omega
   obtain⟨h1,h2⟩:=Q1 (n:=n) (os:=#[]) hm hs hb hz;rw[grow_empty]at h1 h2;subst hw;refine⟨_,_,_,μ,he,⟨rfl,rfl⟩,.own hm (.inr ⟨b,hb,ak,aa⟩),h1,h2⟩
end Go.Proofs.YtoohljflflnbeaaGreatDoor
namespace Go.Proofs.YtoohljflflnbeaaGreatDoor
def Le (st a b:Bool):Prop:=a=st\/a=b
def OU (now:Nat->Bool->Bool) (nx:Nat->Nat) (st:Bool):Nat->Nat->Bool
 | 0,_=>st
 | k+1,i=>now i (OU now nx st k (nx i))
def LV (f:Nat->Bool):Nat->Nat
 | 0=>0
 | n+1=>LV f n+if f n then 1 else 0
def up (st:Bool) (n:Nat) (f:Nat->Bool):Nat:=LV (fun i=>f i != st) n
structure Kept (now:Nat->Bool->Bool) (nx:Nat->Nat) (st:Bool) (n:Nat) (f:Nat->Bool):Prop where
 le:∀ i,i < n->Le st (f i) (OU now nx st n i)
 grow:∀ i,i < n->Le st (f i) (now i (f (nx i)))
