/-
  Texts that belong together,in one file: W1,P8.
-/
import Derived.Test.YtpboiimemmfkiaaGreatDoorRp18
import Derived.Shelf.Sort.Plain
import Derived.Shelf.Slices.In.SortNone
import Derived.Shelf.Slices.CompactS
import Derived.Lib.RowBridge
set_option linter.unusedSimpArgs false
set_option linter.unusedVariables false
namespace Go.Proofs.YtpboiimemmfkiaaGreatDoor
open Go.Av Go.Sort
open Go.Shelf
section
variable {w:World} {X:Nat→Prop} {μ:Mu} {r:Nat}
theorem hlst_one (r:Nat) (row:Row):hlst [(r,row)] r=some row:=by simp [hlst,List.lookup]
theorem hlst_other {r q:Nat} (row:Row) (h:q≠r):hlst [(r,row)] q=none:=by simp [hlst,List.lookup,beq_eq_false_iff_ne.2 h]
theorem row_texts {ty:TypeId} {ss:List (List UInt8)} {m:MRow} {b:Nat} (hm:μ r=some m) (hs:Sim w X μ (hlst [(r,.sl ty 1 (ss.map fun s=>[dS s]))])) (hb:m.blk=some b) :
  m.sz=1∧∃ cur,w.heap[b]? = some (.cells cur ty (0,0))∧cur.size=m.cap∧ss.length≤m.cap∧m.cap≤maxLen∧∀ i (hi:i < ss.length),cur[i]? = some (encStr ss[i]):=by
 obtain ⟨m',hm',ok⟩:=hs.rows r _ (hlst_one r _)
 rw [hm] at hm'
 obtain rfl:=Option.some.inj hm'
 generalize hrow:Row.sl ty 1 (ss.map fun s=>[dS s])=row at ok
 cases ok with
 | nil hb' _=>rw [hb] at hb';cases hb'
 | box _ _ _ _ _=>cases hrow
 | mp _ _ _ _=>cases hrow
 | it _ _ _=>cases hrow
 | sl hb' hsz hh hcs hn hmx hl hz hr=>
  simp only [Row.sl.injEq] at hrow
  obtain ⟨rfl,rfl,rfl⟩:=hrow
  rw [hb] at hb'
  obtain rfl:=Option.some.inj hb'
  refine ⟨hsz,_,hh,by simpa using hcs,by simpa using hn,hmx,fun i hi=>?_⟩
  obtain ⟨u,hu,hru⟩:=hr i 0 [dS ss[i]] (dS ss[i]) (by simp [hi]) rfl
  have:=hru.scalar
  subst this;simpa [bs] using hu
theorem row_write {ty:TypeId} {ss zs:List (List UInt8)} {m:MRow} {b n:Nat} {os:Array Obj} (hm:μ r=some m) (hs:Sim w X μ (hlst [(r,.sl ty 1 (ss.map fun s=>[dS s]))])) (hb:m.blk=some b) (hz:zs.length=ss.length) :
  Sim (grow (putRow encStr (Sort.ahead w n) b 0 zs.toArray) os) X μ (hlst [(r,.sl ty 1 (zs.map fun s=>[dS s]))])∧Ev (notIn [r]) w μ (grow (putRow encStr (Sort.ahead w n) b 0 zs.toArray) os) μ:=by
 obtain ⟨hsz,cur,hh,hcs,hn,hmx,hcur⟩:=row_texts hm hs hb
 have hbl:b < w.heap.size:=hs.blk_lt ⟨r,m,hm,hb⟩
 have hsize:(putRow encStr (Sort.ahead w n) b 0 zs.toArray).heap.size=w.heap.size:=by simp [putRow,mapBlock,Sort.ahead]
 have hold:∀ k,k < w.heap.size→k≠b→(grow (putRow encStr (Sort.ahead w n) b 0 zs.toArray) os).heap[k]? = w.heap[k]?:=fun k hk hne=>by
  unfold grow
  dsimp only
  rw [Array.getElem?_append_left (by rw [hsize];exact hk)];unfold putRow mapBlock Sort.ahead
  dsimp only
  rw [Array.getElem?_modify,if_neg (Ne.symm hne)]
 have hnew:(grow (putRow encStr (Sort.ahead w n) b 0 zs.toArray) os).heap[b]? = some (.cells (putCells encStr 0 zs.toArray cur) ty (0,0)):=by
  unfold grow
  dsimp only
  rw [Array.getElem?_append_left (by rw [hsize];exact hbl)];unfold putRow mapBlock Sort.ahead
  dsimp only
  rw [Array.getElem?_modify,if_pos rfl,hh]
  rfl
 have hgs:w.heap.size≤(grow (putRow encStr (Sort.ahead w n) b 0 zs.toArray) os).heap.size:=by
  unfold grow;simp [hsize]
 have ev:Ev (notIn [r]) w μ (grow (putRow encStr (Sort.ahead w n) b 0 zs.toArray) os) μ:=⟨hgs,rfl,rfl,rfl,fun k hk hr=>⟨hold k hk fun e=>hr ⟨r,m,hm,e ▸ hb⟩,hr⟩,fun _ _ h _=>h⟩
 refine ⟨⟨fun q row hq=>?_,fun q mq hq=>?_,hs.inj,hs.frame,fun k hk=>Nat.lt_of_lt_of_le (hs.fits k hk) hgs⟩,ev⟩
 ·by_cases e:q=r
  ·subst e;rw [hlst_one] at hq
   obtain rfl:=Option.some.inj hq
   refine ⟨m,hm,.sl hb hsz hnew (by simpa [putCells] using hcs) (by simpa [hz] using hn) hmx (fun el hel=>?_) (by omega) fun i j el c hi hj=>?_⟩
   ·obtain ⟨x,_,rfl⟩:=List.mem_map.1 hel;rfl
   ·rw [List.getElem?_map] at hi
    obtain ⟨x,hx,rfl⟩:=Option.map_eq_some_iff.1 hi
    have hil:i < zs.length:=(List.getElem?_eq_some_iff.1 hx).1
    have hj0:j=0:=by have:=(List.getElem?_eq_some_iff.1 hj).1;simpa using this
    subst hj0
    obtain rfl:dS x=c:=by simpa using hj
    have hcl:i < cur.size:=by omega
    refine ⟨encStr x,?_,.v _⟩;simp only [Nat.mul_one,Nat.add_zero,putCells,Array.getElem?_mapIdx,Array.getElem?_eq_getElem hcl,Option.map_some];rw [if_pos (by simp;omega)]
    congr 2
    simp only [Nat.sub_zero];rw [getElem!_pos zs.toArray i (by simpa using hil)];simpa using (List.getElem?_eq_some_iff.1 hx).2
  ·rw [hlst_other _ e] at hq;cases hq
 ·obtain ⟨row,hrow⟩:=hs.dom q mq hq
  by_cases e:q=r
  ·exact ⟨_,by rw [e];exact hlst_one r _⟩
  ·rw [hlst_other _ e] at hrow;cases hrow
theorem row_holds {ty:TypeId} {ss:List (List UInt8)} {m:MRow} {b:Nat} (hm:μ r=some m) (hs:Sim w X μ (hlst [(r,.sl ty 1 (ss.map fun s=>[dS s]))])) (hb:m.blk=some b):Holds encStr w b 0 ss.toArray:=by
 obtain ⟨hsz,cur,hh,hcs,hn,hmx,hcur⟩:=row_texts hm hs hb
 intro j hj
 have hj':j < ss.length:=by simpa using hj
 constructor
 ·unfold World.cell?;simp only [hh,Nat.zero_add];rw [getElem!_pos ss.toArray j hj,hcur j hj'];simp
 ·unfold World.frozen?;simp only [hh];simp
theorem row_nil {ty:TypeId} {ss:List (List UInt8)} {m:MRow} (hm:μ r=some m) (hs:Sim w X μ (hlst [(r,.sl ty 1 (ss.map fun s=>[dS s]))])) (hb:m.blk=none):ss=[]:=by
 obtain ⟨m',hm',ok⟩:=hs.rows r _ (hlst_one r _)
 rw [hm] at hm'
 obtain rfl:=Option.some.inj hm'
 generalize hrow:Row.sl ty 1 (ss.map fun s=>[dS s])=row at ok
 cases ok with
 | nil _ _=>simp only [Row.sl.injEq] at hrow;simpa using hrow.2.2
 | box hb' _ _ _ _=>rw [hb] at hb';cases hb'
 | mp hb' _ _ _=>rw [hb] at hb';cases hb'
 | it hb' _ _=>rw [hb] at hb';cases hb'
 | sl hb' _ _ _ _ _ _ _ _=>rw [hb] at hb';cases hb'
end
def sortT (ss:List (List UInt8)):List (List UInt8):=ss.mergeSort fun x y=>decide (x≤y)
theorem sortT_len (ss:List (List UInt8)):(sortT ss).length=ss.length:=by simp [sortT]
theorem sort_mc (G:Glob) (r:Nat) (ty:TypeId) (ss:List (List UInt8)) (hl:ss.length < 2^60):MC Tryz.prog G [r] 224 [.own r 0 ss.length] (hlst [(r,.sl ty 1 (ss.map fun s=>[dS s]))]) (.d (.tup [])) (hlst [(r,.sl ty 1 ((sortT ss).map fun s=>[dS s]))]):=by
 refine ⟨Fun.of Tryz.func224 rfl rfl,fun X w μ vs hs hgl hsz hv=>?_⟩
 obtain ⟨v,rfl⟩:∃ v,vs = #[v]:=by
  match vs,hsz with
  | ⟨[v]⟩,_=>exact ⟨v,rfl⟩
 obtain ⟨m,hm,hc⟩:=(hv 0 v _ rfl rfl).own_inv
 have hL:Lays.n190 Tryz.prog Tryz.lays190_ren:={ Tryz.lays190 with }
 by_cases h0:ss=[]
 ·subst h0
  have e:∃ p cap,v = .slice p 0 cap:=by
   rcases hc with ⟨_,rfl,_⟩ | ⟨b,_,rfl,_⟩
   ·exact ⟨_,_,rfl⟩
   ·exact ⟨_,_,rfl⟩
  obtain ⟨p,cap,rfl⟩:=e
  have e1:sortT []=[]:=List.eq_nil_of_length_eq_zero (by rw [sortT_len];rfl)
  rw [e1];refine (Any.slices_Sort_string_none hL p cap w).mono fun e w' ⟨he,hw⟩=>?_;subst hw;exact ⟨_,_,_,μ,he,⟨rfl,rfl⟩,.d (.tup rfl fun j u c hu hc=>by simp at hu),hs,.refl _ _ _⟩
 ·rcases hc with ⟨hb,rfl,_,hn⟩ | ⟨b,hb,rfl,hn⟩
  ·exact absurd (row_nil hm hs hb) h0
  ·have hH:=row_holds hm hs hb
   have hbl:b < w.heap.size:=hs.blk_lt ⟨r,m,hm,hb⟩
   rw [Nat.zero_mul];refine (Any.slices_Sort_string hL b 0 (m.cap - 0) ss w hH hbl (by omega)).mono fun e w' ⟨he,n,os,hw⟩=>?_;subst hw
   obtain ⟨h1,h2⟩:=row_write (n:=n) (os:=os) hm hs hb (sortT_len ss)
   exact ⟨_,_,_,μ,he,⟨rfl,rfl⟩,.d (.tup rfl fun j u c hu hc=>by simp at hu),h1,h2⟩
theorem compact_mc (G:Glob) (r:Nat) (ty:TypeId) (ss:List (List UInt8)) (hl:ss.length < 2^60):MC Tryz.prog G [r] 225 [.own r 0 ss.length] (hlst [(r,.sl ty 1 (ss.map fun s=>[dS s]))]) (.own r 0 (Lib.compact ss).length) (hlst [(r,.sl ty 1 ((Lib.compact ss ++ List.replicate (ss.length - (Lib.compact ss).length) []).map fun s=>[dS s]))]):=by
 refine ⟨Fun.of Tryz.func225 rfl rfl,fun X w μ vs hs hgl hsz hv=>?_⟩
 obtain ⟨v,rfl⟩:∃ v,vs = #[v]:=by
  match vs,hsz with
  | ⟨[v]⟩,_=>exact ⟨v,rfl⟩
 have hv0:=hv 0 v _ rfl rfl
 obtain ⟨m,hm,hc⟩:=hv0.own_inv
 have hle:=Lib.compact_length_le ss
 have hL:Lays.n194 Tryz.prog Tryz.lays194_ren:={ Tryz.lays194 with }
 by_cases h0:ss=[]
 ·subst h0
  have e0:(Lib.compact ([]:List (List UInt8)))=[]:=List.eq_nil_of_length_eq_zero (by simpa using hle)
  rw [e0]
  have e:∃ p cap,v = .slice p 0 cap:=by
   rcases hc with ⟨_,rfl,_⟩ | ⟨b,_,rfl,_⟩
   ·exact ⟨_,_,rfl⟩
   ·exact ⟨_,_,rfl⟩
  obtain ⟨p,cap,rfl⟩:=e
  refine (Any.slices_Compact_string_empty hL p cap w).mono fun e w' ⟨he,hw⟩=>?_;subst hw;exact ⟨_,_,_,μ,he,⟨rfl,rfl⟩,hv0,hs,.refl _ _ _⟩
 ·rcases hc with ⟨hb,rfl,_,hn⟩ | ⟨b,hb,rfl,hn⟩
  ·exact absurd (row_nil hm hs hb) h0
  ·have hH:=row_holds hm hs hb
   obtain ⟨hsz1,cur,hh,hcs,hn2,hmx,hcur⟩:=row_texts hm hs hb
   rw [Nat.zero_mul];refine (Any.slices_Compact_string hL b 0 (m.cap - 0) ss w hH (by omega) (by omega)).mono fun e w' ⟨he,n,hw⟩=>?_
   have hz:(Lib.compact ss ++ List.replicate (ss.length - (Lib.compact ss).length) []).length=ss.length:=by simp;omega
   obtain ⟨h1,h2⟩:=row_write (n:=n) (os:=#[]) hm hs hb hz
   rw [grow_empty] at h1 h2;subst hw;refine ⟨_,_,_,μ,he,⟨rfl,rfl⟩,.own hm (.inr ⟨b,hb,by simp,by omega⟩),h1,h2⟩
end Go.Proofs.YtpboiimemmfkiaaGreatDoor
namespace Go.Proofs.YtpboiimemmfkiaaGreatDoor
def Le (st a b:Bool):Prop:=a=st∨a=b
theorem Le.refl (st a:Bool):Le st a a:=.inr rfl
theorem Le.trans {st a b c:Bool} (h:Le st a b) (h':Le st b c):Le st a c:=by
 rcases h with h | rfl
 ·exact .inl h
 ·exact h'
theorem Le.ne {st a b:Bool} (h:Le st a b) (hne:a≠b):a=st∧b≠st:=by
 rcases h with rfl | h
 ·exact ⟨rfl,fun e=>hne e.symm⟩
 ·exact absurd h hne
def MonoN (now:Nat→Bool→Bool):Prop:=∀ i,now i false=true→now i true=true
theorem MonoN.le {now:Nat→Bool→Bool} (h:MonoN now) (st:Bool) {i:Nat} {a b:Bool} (hab:Le st a b):Le st (now i a) (now i b):=by
 have hi:=h i
 rcases hab with rfl | rfl
 ·cases a<;>cases b<;>unfold Le<;>cases h1:now i false<;>cases h2:now i true<;>simp_all
 ·exact .refl _ _
def iterN (now:Nat→Bool→Bool) (nx:Nat→Nat) (st:Bool):Nat→Nat→Bool
 | 0,_=>st
 | k+1,i=>now i (iterN now nx st k (nx i))
theorem iterN_le {now:Nat→Bool→Bool} (h:MonoN now) (nx:Nat→Nat) (st:Bool):∀ k i,Le st (iterN now nx st k i) (iterN now nx st (k+1) i)
 | 0,i=>.inl rfl
 | k+1,i=>h.le st (iterN_le h nx st k (nx i))
def cntB (f:Nat→Bool):Nat→Nat
 | 0=>0
 | n+1=>cntB f n+if f n then 1 else 0
theorem cntB_le (f:Nat→Bool):∀ n,cntB f n≤n
 | 0=>Nat.le_refl _
 | n+1=>by
  have:=cntB_le f n
  simp only [cntB]
  split<;>omega
theorem cntB_mono {f g:Nat→Bool}:∀ n,(∀ i,i < n→f i=true→g i=true)→cntB f n≤cntB g n
 | 0,_=>Nat.le_refl _
 | n+1,h=>by
  have ih:=cntB_mono n fun i hi=>h i (by omega)
  have hn:=h n (by omega)
  simp only [cntB]
  cases h1:f n with
  | false=>simp;omega
  | true=>rw [hn h1];simp;omega
theorem cntB_lt {f g:Nat→Bool}:∀ n,(∀ i,i < n→f i=true→g i=true)→(∃ i,i < n∧f i=false∧g i=true)→cntB f n < cntB g n
 | 0,_,⟨i,hi,_⟩=>by omega
 | n+1,h,⟨i,hi,h1,h2⟩=>by
  have hn:=h n (by omega)
  simp only [cntB]
  by_cases hin:i=n
  ·subst hin
   have:=cntB_mono i fun j hj=>h j (by omega)
   rw [h1,h2];simp;omega
  ·have:=cntB_lt n (fun j hj=>h j (by omega)) ⟨i,by omega,h1,h2⟩
   cases h3:f n with
   | false=>simp;split<;>omega
   | true=>rw [hn h3];simp;omega
def up (st:Bool) (n:Nat) (f:Nat→Bool):Nat:=cntB (fun i=>f i != st) n
theorem up_le (st:Bool) (n:Nat) (f:Nat→Bool):up st n f≤n:=cntB_le _ _
theorem up_lt {st:Bool} {n:Nat} {f g:Nat→Bool} (h:∀ i,i < n→Le st (f i) (g i)) (hx:∃ i,i < n∧f i≠g i):up st n f < up st n g:=cntB_lt n (fun i hi hf=>by
 simp only [bne_iff_ne,ne_eq] at hf ⊢
 rcases h i hi with h | h
 ·exact absurd h hf
 ·rwa [← h]) (by
 obtain ⟨i,hi,hne⟩:=hx
 obtain ⟨h1,h2⟩:=(h i hi).ne hne
 exact ⟨i,hi,by simp [h1],by simpa using h2⟩)
theorem iterN_stop {now:Nat→Bool→Bool} (h:MonoN now) {nx:Nat→Nat} {st:Bool} {n:Nat} (hn:∀ i,i < n→nx i < n):∃ k,k≤n∧∀ i,i < n→iterN now nx st k i=iterN now nx st (k+1) i:=by
 apply Classical.byContradiction
 intro hno
 have key:∀ k,k≤n+1→k≤up st n (iterN now nx st k):=by
  intro k
  induction k with
  | zero=>intro _;omega
  | succ k ih=>
   intro hk
   have h1:=ih (by omega)
   have hx:∃ i,i < n∧iterN now nx st k i≠iterN now nx st (k+1) i:=by
    apply Classical.byContradiction
    intro hall
    exact hno ⟨k,by omega,fun i hi=>Classical.byContradiction fun hne=>hall ⟨i,hi,hne⟩⟩
   have:=up_lt (fun i _=>iterN_le h nx st k i) hx
   omega
 have h1:=key (n+1) (Nat.le_refl _)
 have h2:=up_le st n (iterN now nx st (n+1))
 omega
theorem iterN_stay {now:Nat→Bool→Bool} {nx:Nat→Nat} {st:Bool} {n k:Nat} (hn:∀ i,i < n→nx i < n) (hk:∀ i,i < n→iterN now nx st k i=iterN now nx st (k+1) i):∀ d i,i < n→iterN now nx st (k+d) i=iterN now nx st k i
 | 0,i,_=>rfl
 | d+1,i,hi=>by
  have ih:=iterN_stay hn hk d _ (hn i hi)
  rw [hk i hi,← Nat.add_assoc];simp only [iterN];rw [ih]
theorem iterN_all {now:Nat→Bool→Bool} (h:MonoN now) {nx:Nat→Nat} {st:Bool} {n:Nat} (hn:∀ i,i < n→nx i < n) {m:Nat} (hm:n≤m) {i:Nat} (hi:i < n):iterN now nx st m i=iterN now nx st n i:=by
 obtain ⟨k,hk,he⟩:=iterN_stop h (st:=st) hn
 have h1:=iterN_stay hn he (m - k) i hi
 have h2:=iterN_stay hn he (n - k) i hi
 rw [show k+(m - k)=m by omega] at h1;rw [show k+(n - k)=n by omega] at h2;rw [h1,h2]
theorem iterN_fix {now:Nat→Bool→Bool} (h:MonoN now) {nx:Nat→Nat} {st:Bool} {n:Nat} (hn:∀ i,i < n→nx i < n) {i:Nat} (hi:i < n):iterN now nx st n i=now i (iterN now nx st n (nx i)):=
 (iterN_all h hn (Nat.le_succ n) hi).symm
def setB (f:Nat→Bool) (i:Nat) (x:Bool):Nat→Bool:=fun j=>if j=i then x else f j
structure Kept (now:Nat→Bool→Bool) (nx:Nat→Nat) (st:Bool) (n:Nat) (f:Nat→Bool):Prop where
 le:∀ i,i < n→Le st (f i) (iterN now nx st n i)
 grow:∀ i,i < n→Le st (f i) (now i (f (nx i)))
theorem Kept.start (now:Nat→Bool→Bool) (nx:Nat→Nat) (st:Bool) (n:Nat):Kept now nx st n fun _=>st:=⟨fun _ _=>.inl rfl,fun _ _=>.inl rfl⟩
theorem Kept.set {now:Nat→Bool→Bool} {nx:Nat→Nat} {st:Bool} {n:Nat} {f:Nat→Bool} (k:Kept now nx st n f) (h:MonoN now) (hn:∀ i,i < n→nx i < n) {i:Nat} (hi:i < n) (hne:now i (f (nx i))≠f i) :
  Kept now nx st n (setB f i (now i (f (nx i))))∧up st n f < up st n (setB f i (now i (f (nx i)))):=by
 have hup:∀ j,j < n→Le st (f j) (setB f i (now i (f (nx i))) j):=fun j hj=>by
  unfold setB
  split
  ·rename_i e;subst e;exact k.grow j hj
  ·exact .refl _ _
 refine ⟨⟨fun j hj=>?_,fun j hj=>?_⟩,up_lt hup ⟨i,hi,by simp [setB,Ne.symm hne]⟩⟩
 ·by_cases e:j=i
  ·subst e;rw [show setB f j (now j (f (nx j))) j=now j (f (nx j)) by simp [setB],iterN_fix h hn hj];exact h.le st (k.le _ (hn j hj))
  ·rw [show setB f i (now i (f (nx i))) j=f j by simp [setB,e]];exact k.le j hj
 ·have hb:=h.le st (i:=j) (hup (nx j) (hn j hj))
  by_cases e:j=i
  ·subst e;rw [show setB f j (now j (f (nx j))) j=now j (f (nx j)) by simp [setB]];exact hb
  ·rw [show setB f i (now i (f (nx i))) j=f j by simp [setB,e]];exact (k.grow j hj).trans hb
end Go.Proofs.YtpboiimemmfkiaaGreatDoor
