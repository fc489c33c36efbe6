/-
  Texts that belong together,in one file: Sh10,W1I,LE0,SC1,SP1.
-/
import Derived.Test.YtpboiimemmfkiaaGreatDoorRp23
import Derived.Test.YtpboiimemmfkiaaGreatDoorProg
import Derived.Ground.Names2Prog
import Derived.Shelf.Slices.CompactI
set_option linter.unusedSimpArgs false
set_option linter.unusedVariables false
namespace Go.Proofs
open Go.Shelf
def Tryz.laysNm220_ren:Go.Shelf.Ren:=⟨fun | 20=>147 | n=>n,fun | 22=>51 | 3=>3 | 4=>4 | 0=>0 | n=>n,fun | n=>n⟩
theorem Tryz.laysNm220:Go.Proofs.Lays2.n20 Tryz.prog Tryz.laysNm220_ren:={
 mixed:=by kernel_rfl
 f20:=Tryz.func147.trans (congrArg some (by kernel_rfl))
 t0:=Tryz.underlying0
 a0:=Tryz.isAgg0
 z0:=Tryz.sizeOf0
 v0:=Tryz.zeroValue0
 t3:=Tryz.underlying3
 a3:=Tryz.isAgg3
 z3:=Tryz.sizeOf3
 v3:=Tryz.zeroValue3
 t4:=Tryz.underlying4
 a4:=Tryz.isAgg4
 z4:=Tryz.sizeOf4
 v4:=Tryz.zeroValue4
 t22:=Tryz.underlying51
 a22:=Tryz.isAgg51
 z22:=Tryz.sizeOf51
 v22:=Tryz.zeroValue51
 i3:=by kernel_rfl }
end Go.Proofs
namespace Go.Proofs.YtpboiimemmfkiaaGreatDoor
open Go.Av Go.Sort
open Go.Shelf
section
variable {w:World} {X:Nat→Prop} {μ:Mu} {r:Nat}
theorem rowI_ints {ty:TypeId} {ss:List Int} {m:MRow} {b:Nat} (hm:μ r=some m) (hs:Sim w X μ (hlst [(r,.sl ty 1 (ss.map fun s=>[D.v (.int .i64 s)]))])) (hb:m.blk=some b) :
  m.sz=1∧∃ cur,w.heap[b]? = some (.cells cur ty (0,0))∧cur.size=m.cap∧ss.length≤m.cap∧m.cap≤maxLen∧∀ i (hi:i < ss.length),cur[i]? = some ((Value.int .i64) ss[i]):=by
 obtain ⟨m',hm',ok⟩:=hs.rows r _ (hlst_one r _)
 rw [hm] at hm'
 obtain rfl:=Option.some.inj hm'
 generalize hrow:Row.sl ty 1 (ss.map fun s=>[D.v (.int .i64 s)])=row at ok
 cases ok with
 | nil hb' _=>rw [hb] at hb';cases hb'
 | box _ _ _ _ _=>cases hrow
 | mp _ _ _ _=>cases hrow
 | it _ _ _=>cases hrow
 | sl hb' hsz hh hcs hn hmx hl hz hr=>
  simp only [Row.sl.injEq] at hrow
  obtain ⟨rfl,rfl,rfl⟩:=hrow
  rw [hb] at hb'
  obtain rfl:=Option.some.inj hb'
  refine ⟨hsz,_,hh,by simpa using hcs,by simpa using hn,hmx,fun i hi=>?_⟩
  obtain ⟨u,hu,hru⟩:=hr i 0 [D.v (.int .i64 ss[i])] (D.v (.int .i64 ss[i])) (by simp [hi]) rfl
  have:=hru.scalar
  subst this;simpa using hu
theorem rowI_write {ty:TypeId} {ss zs:List Int} {m:MRow} {b n:Nat} {os:Array Obj} (hm:μ r=some m) (hs:Sim w X μ (hlst [(r,.sl ty 1 (ss.map fun s=>[D.v (.int .i64 s)]))])) (hb:m.blk=some b) (hz:zs.length=ss.length) :
  Sim (grow (putRow (Value.int .i64) (Sort.ahead w n) b 0 zs.toArray) os) X μ (hlst [(r,.sl ty 1 (zs.map fun s=>[D.v (.int .i64 s)]))])∧Ev (notIn [r]) w μ (grow (putRow (Value.int .i64) (Sort.ahead w n) b 0 zs.toArray) os) μ:=by
 obtain ⟨hsz,cur,hh,hcs,hn,hmx,hcur⟩:=rowI_ints hm hs hb
 have hbl:b < w.heap.size:=hs.blk_lt ⟨r,m,hm,hb⟩
 have hsize:(putRow (Value.int .i64) (Sort.ahead w n) b 0 zs.toArray).heap.size=w.heap.size:=by simp [putRow,mapBlock,Sort.ahead]
 have hold:∀ k,k < w.heap.size→k≠b→(grow (putRow (Value.int .i64) (Sort.ahead w n) b 0 zs.toArray) os).heap[k]? = w.heap[k]?:=fun k hk hne=>by
  unfold grow
  dsimp only
  rw [Array.getElem?_append_left (by rw [hsize];exact hk)];unfold putRow mapBlock Sort.ahead
  dsimp only
  rw [Array.getElem?_modify,if_neg (Ne.symm hne)]
 have hnew:(grow (putRow (Value.int .i64) (Sort.ahead w n) b 0 zs.toArray) os).heap[b]? = some (.cells (putCells (Value.int .i64) 0 zs.toArray cur) ty (0,0)):=by
  unfold grow
  dsimp only
  rw [Array.getElem?_append_left (by rw [hsize];exact hbl)];unfold putRow mapBlock Sort.ahead
  dsimp only
  rw [Array.getElem?_modify,if_pos rfl,hh]
  rfl
 have hgs:w.heap.size≤(grow (putRow (Value.int .i64) (Sort.ahead w n) b 0 zs.toArray) os).heap.size:=by
  unfold grow;simp [hsize]
 have ev:Ev (notIn [r]) w μ (grow (putRow (Value.int .i64) (Sort.ahead w n) b 0 zs.toArray) os) μ:=⟨hgs,rfl,rfl,rfl,fun k hk hr=>⟨hold k hk fun e=>hr ⟨r,m,hm,e ▸ hb⟩,hr⟩,fun _ _ h _=>h⟩
 refine ⟨⟨fun q row hq=>?_,fun q mq hq=>?_,hs.inj,hs.frame,fun k hk=>Nat.lt_of_lt_of_le (hs.fits k hk) hgs⟩,ev⟩
 ·by_cases e:q=r
  ·subst e;rw [hlst_one] at hq
   obtain rfl:=Option.some.inj hq
   refine ⟨m,hm,.sl hb hsz hnew (by simpa [putCells] using hcs) (by simpa [hz] using hn) hmx (fun el hel=>?_) (by omega) fun i j el c hi hj=>?_⟩
   ·obtain ⟨x,_,rfl⟩:=List.mem_map.1 hel;rfl
   ·rw [List.getElem?_map] at hi
    obtain ⟨x,hx,rfl⟩:=Option.map_eq_some_iff.1 hi
    have hil:i < zs.length:=(List.getElem?_eq_some_iff.1 hx).1
    have hj0:j=0:=by have:=(List.getElem?_eq_some_iff.1 hj).1;simpa using this
    subst hj0
    obtain rfl:D.v (.int .i64 x)=c:=by simpa using hj
    have hcl:i < cur.size:=by omega
    refine ⟨(Value.int .i64) x,?_,.v _⟩;simp only [Nat.mul_one,Nat.add_zero,putCells,Array.getElem?_mapIdx,Array.getElem?_eq_getElem hcl,Option.map_some];rw [if_pos (by simp;omega)]
    congr 2
    simp only [Nat.sub_zero];rw [getElem!_pos zs.toArray i (by simpa using hil)];simpa using (List.getElem?_eq_some_iff.1 hx).2
  ·rw [hlst_other _ e] at hq;cases hq
 ·obtain ⟨row,hrow⟩:=hs.dom q mq hq
  by_cases e:q=r
  ·exact ⟨_,by rw [e];exact hlst_one r _⟩
  ·rw [hlst_other _ e] at hrow;cases hrow
theorem rowI_holds {ty:TypeId} {ss:List Int} {m:MRow} {b:Nat} (hm:μ r=some m) (hs:Sim w X μ (hlst [(r,.sl ty 1 (ss.map fun s=>[D.v (.int .i64 s)]))])) (hb:m.blk=some b):Holds (Value.int .i64) w b 0 ss.toArray:=by
 obtain ⟨hsz,cur,hh,hcs,hn,hmx,hcur⟩:=rowI_ints hm hs hb
 intro j hj
 have hj':j < ss.length:=by simpa using hj
 constructor
 ·unfold World.cell?;simp only [hh,Nat.zero_add];rw [getElem!_pos ss.toArray j hj,hcur j hj'];simp
 ·unfold World.frozen?;simp only [hh];simp
theorem rowI_nil {ty:TypeId} {ss:List Int} {m:MRow} (hm:μ r=some m) (hs:Sim w X μ (hlst [(r,.sl ty 1 (ss.map fun s=>[D.v (.int .i64 s)]))])) (hb:m.blk=none):ss=[]:=by
 obtain ⟨m',hm',ok⟩:=hs.rows r _ (hlst_one r _)
 rw [hm] at hm'
 obtain rfl:=Option.some.inj hm'
 generalize hrow:Row.sl ty 1 (ss.map fun s=>[D.v (.int .i64 s)])=row at ok
 cases ok with
 | nil _ _=>simp only [Row.sl.injEq] at hrow;simpa using hrow.2.2
 | box hb' _ _ _ _=>rw [hb] at hb';cases hb'
 | mp hb' _ _ _=>rw [hb] at hb';cases hb'
 | it hb' _ _=>rw [hb] at hb';cases hb'
 | sl hb' _ _ _ _ _ _ _ _=>rw [hb] at hb';cases hb'
end
def sortI (ss:List Int):List Int:=ss.mergeSort fun x y=>decide (x≤y)
theorem sortI_len (ss:List Int):(sortI ss).length=ss.length:=by simp [sortI]
theorem sortI_mc (G:Glob) (r:Nat) (ty:TypeId) (ss:List Int) (hl:ss.length < 2^60):MC Tryz.prog G [r] 146 [.own r 0 ss.length] (hlst [(r,.sl ty 1 (ss.map fun s=>[D.v (.int .i64 s)]))]) (.d (.tup [])) (hlst [(r,.sl ty 1 ((sortI ss).map fun s=>[D.v (.int .i64 s)]))]):=by
 refine ⟨Fun.of Tryz.func146 rfl rfl,fun X w μ vs hs hgl hsz hv=>?_⟩
 obtain ⟨v,rfl⟩:∃ v,vs = #[v]:=by
  match vs,hsz with
  | ⟨[v]⟩,_=>exact ⟨v,rfl⟩
 obtain ⟨m,hm,hc⟩:=(hv 0 v _ rfl rfl).own_inv
 have hL:Lays.n189 Tryz.prog Tryz.lays189_ren:={ Tryz.lays189 with }
 by_cases h0:ss=[]
 ·subst h0
  have e:∃ p cap,v = .slice p 0 cap:=by
   rcases hc with ⟨_,rfl,_⟩ | ⟨b,_,rfl,_⟩
   ·exact ⟨_,_,rfl⟩
   ·exact ⟨_,_,rfl⟩
  obtain ⟨p,cap,rfl⟩:=e
  have e1:sortI []=[]:=List.eq_nil_of_length_eq_zero (by rw [sortI_len];rfl)
  rw [e1];refine (Any.slices_Sort_int_none hL p cap w).mono fun e w' ⟨he,hw⟩=>?_;subst hw;exact ⟨_,_,_,μ,he,⟨rfl,rfl⟩,.d (.tup rfl fun j u c hu hc=>by simp at hu),hs,.refl _ _ _⟩
 ·rcases hc with ⟨hb,rfl,_,hn⟩ | ⟨b,hb,rfl,hn⟩
  ·exact absurd (rowI_nil hm hs hb) h0
  ·have hH:=rowI_holds hm hs hb
   have hbl:b < w.heap.size:=hs.blk_lt ⟨r,m,hm,hb⟩
   rw [Nat.zero_mul];refine (Any.slices_Sort_int hL b 0 (m.cap - 0) ss w hH hbl (by omega)).mono fun e w' ⟨he,n,os,hw⟩=>?_;subst hw
   obtain ⟨h1,h2⟩:=rowI_write (n:=n) (os:=os) hm hs hb (sortI_len ss)
   exact ⟨_,_,_,μ,he,⟨rfl,rfl⟩,.d (.tup rfl fun j u c hu hc=>by simp at hu),h1,h2⟩
theorem compactI_mc (G:Glob) (r:Nat) (ty:TypeId) (ss:List Int) (hl:ss.length < 2^60):MC Tryz.prog G [r] 147 [.own r 0 ss.length] (hlst [(r,.sl ty 1 (ss.map fun s=>[D.v (.int .i64 s)]))]) (.own r 0 (Lib.compact ss).length) (hlst [(r,.sl ty 1 ((Lib.compact ss ++ List.replicate (ss.length - (Lib.compact ss).length) 0).map fun s=>[D.v (.int .i64 s)]))]):=by
 refine ⟨Fun.of Tryz.func147 rfl rfl,fun X w μ vs hs hgl hsz hv=>?_⟩
 obtain ⟨v,rfl⟩:∃ v,vs = #[v]:=by
  match vs,hsz with
  | ⟨[v]⟩,_=>exact ⟨v,rfl⟩
 have hv0:=hv 0 v _ rfl rfl
 obtain ⟨m,hm,hc⟩:=hv0.own_inv
 have hle:=Lib.compact_length_le ss
 have hL:Lays2.n20 Tryz.prog Tryz.laysNm220_ren:={ Tryz.laysNm220 with }
 by_cases h0:ss=[]
 ·subst h0
  have e0:(Lib.compact ([]:List Int))=[]:=List.eq_nil_of_length_eq_zero (by simpa using hle)
  rw [e0]
  have e:∃ p cap,v = .slice p 0 cap:=by
   rcases hc with ⟨_,rfl,_⟩ | ⟨b,_,rfl,_⟩
   ·exact ⟨_,_,rfl⟩
   ·exact ⟨_,_,rfl⟩
  obtain ⟨p,cap,rfl⟩:=e
  refine (Any.slices_Compact_int_empty hL p cap w).mono fun e w' ⟨he,hw⟩=>?_;subst hw;exact ⟨_,_,_,μ,he,⟨rfl,rfl⟩,hv0,hs,.refl _ _ _⟩
 ·rcases hc with ⟨hb,rfl,_,hn⟩ | ⟨b,hb,rfl,hn⟩
  ·exact absurd (rowI_nil hm hs hb) h0
  ·have hH:=rowI_holds hm hs hb
   obtain ⟨hsz1,cur,hh,hcs,hn2,hmx,hcur⟩:=rowI_ints hm hs hb
   rw [Nat.zero_mul];refine (Any.slices_Compact_int hL b 0 (m.cap - 0) ss w hH (by omega) (by omega)).mono fun e w' ⟨he,n,hw⟩=>?_
   have hz:(Lib.compact ss ++ List.replicate (ss.length - (Lib.compact ss).length) 0).length=ss.length:=by simp;omega
   obtain ⟨h1,h2⟩:=rowI_write (n:=n) (os:=#[]) hm hs hb hz
   rw [grow_empty] at h1 h2;subst hw;refine ⟨_,_,_,μ,he,⟨rfl,rfl⟩,.own hm (.inr ⟨b,hb,by simp,by omega⟩),h1,h2⟩
end Go.Proofs.YtpboiimemmfkiaaGreatDoor
namespace Go.Proofs.YtpboiimemmfkiaaGreatDoor
open Go.Av
theorem srtI_eq:∀ {a b:List Int},a.Pairwise (· < ·)→b.Pairwise (· < ·)→(∀ x,x∈a↔x∈b)→a=b
 | [],[],_,_,_=>rfl
 | [],y :: b,_,_,h=>absurd ((h y).2 (by simp)) (by simp)
 | x :: a,[],_,_,h=>absurd ((h x).1 (by simp)) (by simp)
 | x :: a,y :: b,ha,hb,h=>by
  obtain ⟨ha1,ha2⟩:=List.pairwise_cons.1 ha
  obtain ⟨hb1,hb2⟩:=List.pairwise_cons.1 hb
  have hxy:x=y:=by
   rcases List.mem_cons.1 ((h x).1 (by simp)) with e | hx
   ·exact e
   ·rcases List.mem_cons.1 ((h y).2 (by simp)) with e | hy
    ·exact e.symm
    ·have:=hb1 x hx;have:=ha1 y hy;omega
  subst hxy;rw [srtI_eq ha2 hb2 fun z=>?_]
  constructor
  ·intro hz
   rcases List.mem_cons.1 ((h z).1 (by simp [hz])) with e | e
   ·subst e;have:=ha1 z hz;omega
   ·exact e
  ·intro hz
   rcases List.mem_cons.1 ((h z).2 (by simp [hz])) with e | e
   ·subst e;have:=hb1 z hz;omega
   ·exact e
theorem memI_upTo (d:Array Int):∀ (m:Nat),m≤d.size→∀ j,j < m→d[j]!∈Lib.compactUpTo d m
 | 0,_,j,h=>by omega
 | m+1,hm,j,hj=>by
  rw [Lib.compactUpTo_succ]
  by_cases hjm:j < m
  ·exact List.mem_append_left _ (memI_upTo d m (by omega) j hjm)
  ·obtain rfl:j=m:=by omega
   by_cases hk:Lib.keeps d j=true
   ·exact List.mem_append_right _ (by simp [hk])
   ·have hj0:j≠0:=by rintro rfl;exact hk (Lib.keeps_lt_one d 0 (by omega))
    have he:d[j]! = d[j - 1]!:=by
     unfold Lib.keeps at hk;simp [hj0] at hk
     first | exact hk | exact hk.symm
    rw [he];exact List.mem_append_left _ (memI_upTo d j (by omega) (j - 1) (by omega))
theorem upToI_mem (d:Array Int):∀ (m:Nat),m≤d.size→∀ x∈Lib.compactUpTo d m,∃ j,j < m∧x=d[j]!
 | 0,_,x,h=>by simp [Lib.compactUpTo] at h
 | m+1,hm,x,h=>by
  rw [Lib.compactUpTo_succ] at h
  rcases List.mem_append.1 h with h | h
  ·obtain ⟨j,hj,e⟩:=upToI_mem d m (by omega) x h
   exact ⟨j,by omega,e⟩
  ·split at h
   ·simp at h;exact ⟨m,by omega,h⟩
   ·simp at h
theorem upToI_srt (d:Array Int) (hs:∀ i j,i≤j→j < d.size→d[i]!≤d[j]!):∀ (m:Nat),m≤d.size→(Lib.compactUpTo d m).Pairwise (· < ·)
 | 0,_=>by simp [Lib.compactUpTo]
 | m+1,hm=>by
  have ih:=upToI_srt d hs m (by omega)
  rw [Lib.compactUpTo_succ]
  by_cases hk:Lib.keeps d m=true
  ·rw [if_pos hk,List.pairwise_append];refine ⟨ih,by simp,fun a ha b hb=>?_⟩;rw [List.mem_singleton] at hb;subst hb
   obtain ⟨j,hj,rfl⟩:=upToI_mem d m (by omega) a ha
   have hne:d[m]!≠d[m - 1]!:=by
    intro he
    rw [Lib.keeps_neg (by omega) he] at hk
    cases hk
   have h1:=hs j (m - 1) (by omega) (by omega)
   have h2:=hs (m - 1) m (by omega) (by omega)
   omega
  ·rw [if_neg hk,List.append_nil];exact ih
theorem sortedI_srt (l:List Int):(Lib.compact (sortI l)).Pairwise (· < ·):=by
 unfold Lib.compact;refine upToI_srt _ (fun i j hij hj=>?_) _ (by simp)
 have hp:(sortI l).Pairwise (·≤·):=by
  unfold sortI
  have:=List.pairwise_mergeSort (le:=fun x y:Int=>decide (x≤y)) (by intro a b c h1 h2;simp only [decide_eq_true_eq] at *;omega) (by intro a b;simp only [Bool.or_eq_true,decide_eq_true_eq];omega) l
  exact this.imp fun h=>by simpa using h
 generalize sortI l=l at hp hj ⊢
 have hj':j < l.length:=by simpa using hj
 rw [getElem!_pos l.toArray i (by simpa using (by omega:i < l.length)),getElem!_pos l.toArray j (by simpa using hj')];simp only [List.getElem_toArray]
 by_cases he:i=j
 ·subst he;omega
 ·exact (List.pairwise_iff_getElem.1 hp) i j (by omega) hj' (by omega)
theorem sortedI_mem {l:List Int} {x:Int}:x∈Lib.compact (sortI l)↔x∈l:=by
 have h0:∀ l:List Int,x∈Lib.compact l↔x∈l:=by
  intro l
  unfold Lib.compact
  constructor
  ·intro h
   obtain ⟨j,hj,rfl⟩:=upToI_mem l.toArray l.length (by simp) x h
   rw [getElem!_pos l.toArray j (by simpa using hj)];simp
  ·intro h
   obtain ⟨j,hj,rfl⟩:=List.mem_iff_getElem.1 h
   have:=memI_upTo l.toArray l.length (by simp) j hj
   rw [getElem!_pos l.toArray j (by simpa using hj)] at this;simpa using this
 rw [h0];unfold sortI;exact List.mem_mergeSort
def edgR (p:PgP) (r:RgP):List Int:=match r.cond with
 | some e=>(namesE false e).map (numP p)
 | none=>[]
def edgN (p:PgP):Nat→List Int
 | 0=>[]
 | i+1=>edgN p i ++ edgR p (p.rungs.getD i ⟨0,[],none⟩)
theorem edgN_succ {p:PgP} {i:Nat} (h:i < p.rungs.length):edgN p (i+1)=edgN p i ++ edgR p p.rungs[i]:=by
 rw [edgN,List.getD_eq_getElem?_getD,List.getElem?_eq_getElem h];rfl
theorem edgN_mem {p:PgP} {x:Int}:∀ {n:Nat},n≤p.rungs.length→(x∈edgN p n↔∃ j,∃ h:j < p.rungs.length,j < n∧x∈edgR p p.rungs[j])
 | 0,_=>by simp [edgN]
 | n+1,hn=>by
  rw [edgN_succ (by omega),List.mem_append,edgN_mem (by omega)]
  constructor
  ·rintro (⟨j,h,hj,hx⟩ | hx)
   ·exact ⟨j,h,by omega,hx⟩
   ·exact ⟨n,by omega,by omega,hx⟩
  ·rintro ⟨j,h,hj,hx⟩
   by_cases e:j=n
   ·subst e;exact .inr hx
   ·exact .inl ⟨j,h,by omega,hx⟩
def hasE (s:Tx) (r:RgP):Bool:=match r.cond with
 | some e=>decide (0≤idx (fun x=>x == s) (namesE false e))
 | none=>false
def wedN (p:PgP):Nat→List Int
 | 0=>[]
 | i+1=>wedN p i ++ if p.rungs.any (hasE (p.names.getD i ⟨[],0,0⟩).name) then [(i:Int)] else []
theorem wedN_succ {p:PgP} {i:Nat} (h:i < p.names.length):wedN p (i+1)=wedN p i ++ if p.rungs.any (hasE p.names[i].name) then [(i:Int)] else []:=by
 rw [wedN,List.getD_eq_getElem?_getD,List.getElem?_eq_getElem h];rfl
theorem wedN_len (p:PgP):∀ n,(wedN p n).length≤n
 | 0=>Nat.le_refl _
 | n+1=>by rw [wedN,List.length_append];have:=wedN_len p n;split<;>simp<;>omega
theorem wedN_mem {p:PgP} {x:Int}:∀ {n:Nat},n≤p.names.length→(x∈wedN p n↔∃ i,∃ h:i < p.names.length,i < n∧x=i∧p.rungs.any (hasE p.names[i].name)=true)
 | 0,_=>by simp [wedN]
 | n+1,hn=>by
  rw [wedN_succ (by omega),List.mem_append,wedN_mem (by omega)]
  constructor
  ·rintro (⟨j,h,hj,hx⟩ | hx)
   ·exact ⟨j,h,by omega,hx⟩
   ·split at hx
    ·exact ⟨n,by omega,by omega,by simpa using hx,‹_›⟩
    ·cases hx
  ·rintro ⟨j,h,hj,hx,ha⟩
   by_cases e:j=n
   ·subst e;exact .inr (by rw [if_pos ha];simpa using hx)
   ·exact .inl ⟨j,h,by omega,hx,ha⟩
theorem wedN_srt (p:PgP):∀ {n:Nat},n≤p.names.length→(wedN p n).Pairwise (· < ·)
 | 0,_=>by simp [wedN]
 | n+1,hn=>by
  rw [wedN,List.pairwise_append];refine ⟨wedN_srt p (by omega),by split<;>simp,fun a ha b hb=>?_⟩
  obtain ⟨i,_,hi,rfl,_⟩:=(wedN_mem (by omega)).1 ha
  split at hb
  ·rw [List.mem_singleton] at hb;omega
  ·cases hb
theorem idx_memT (l:List Tx) (s:Tx):0≤idx (fun x=>x == s) l↔s∈l:=by
 have h:=idx_any (fun x:Tx=>x == s) l
 have h2:(l.any fun x=>x == s)=true↔s∈l:=by
  rw [List.any_eq_true]
  constructor
  ·rintro ⟨x,hx,he⟩
   have:x=s:=by simpa using he
   exact this ▸ hx
  ·exact fun hs=>⟨s,hs,by simp⟩
 rw [← h2,← h,decide_eq_true_eq]
theorem nms_sub {s:Tx}:∀ (n:Nat) (e:Ex),SizeOf.sizeOf e≤n→s∈nmsE false e→s∈nmsE true e
 | 0,e,hn,_=>by cases e<;>simp at hn
 | n+1,e,hn,h=>by
  have many:∀ l:List Ex,(∀ x∈l,SizeOf.sizeOf x≤n)→s∈nmsL false l→s∈nmsL true l:=by
   intro l
   induction l with
   | nil=>intro _ h;simp [nmsL] at h
   | cons x l ih=>
    intro hl h
    rw [nmsL,List.mem_append] at h ⊢
    rcases h with h | h
    ·exact .inl (nms_sub n x (hl x (by simp)) h)
    ·exact .inr (ih (fun y hy=>hl y (by simp [hy])) h)
  have inside:∀ (l:List Ex),SizeOf.sizeOf l≤n→∀ x∈l,SizeOf.sizeOf x≤n:=fun l hl x hx=>by
   have:=List.sizeOf_lt_of_mem hx;omega
  cases e with
  | cst b=>simp [nmsE,nmE,one1] at h
  | bit t=>simp [nmsE,nmE,one1] at h
  | rise t=>exact h
  | fall t=>exact h
  | not e=>exact nms_sub n e (by simp at hn;omega) h
  | and l=>exact many l (inside l (by simp at hn;omega)) h
  | or l=>exact many l (inside l (by simp at hn;omega)) h
theorem names_sub {s:Tx} {e:Ex} (h:s∈namesE false e):s∈namesE true e:=namesE_mem.2 (nms_sub _ e (Nat.le_refl _) (namesE_mem.1 h))
theorem checkP_rung {p:PgP} (h:checkP p=none):∀ r∈p.rungs,(1≤r.kind∧r.kind≤6)∧¬ numP p r.name < 0∧∃ e,r.cond=some e∧∀ s∈namesE true e,¬ numP p s < 0:=fun r hr=>by
 unfold checkP at h
 split at h
 ·cases h
 split at h
 ·cases h
 split at h
 ·cases h
 rename_i hB
 obtain ⟨k,hk,rfl⟩:=List.mem_iff_getElem.1 hr
 have h0:=firstBad_none hB k hk
 generalize p.rungs[k]=r at h0
 obtain ⟨kd,nm,cd⟩:=r
 cases cd with
 | none=>cases (show (1:Int)=0 from h0)
 | some e=>
  rw [badGw_some] at h0
  split at h0
  ·cases h0
  rename_i h1
  split at h0
  ·cases h0
  rename_i h2
  split at h0
  ·cases h0
  split at h0
  ·cases h0
  rename_i h4
  refine ⟨by simpa using h1,h2,e,rfl,fun s hs hn=>h4 ?_⟩;exact List.any_eq_true.2 ⟨s,hs,by simpa using hn⟩
theorem edges_same {p:PgP} (h:checkP p=none):Lib.compact (sortI (edgN p p.rungs.length))=wedN p p.names.length:=by
 have hg:=checkP_good h
 have hr:=checkP_rung h
 refine srtI_eq (sortedI_srt _) (wedN_srt p (Nat.le_refl _)) fun x=>?_;rw [sortedI_mem,edgN_mem (Nat.le_refl _),wedN_mem (Nat.le_refl _)]
 constructor
 ·rintro ⟨j,hj,_,hx⟩
  obtain ⟨_,_,e,he,hin⟩:=hr _ (List.getElem_mem hj)
  unfold edgR at hx;rw [he] at hx
  obtain ⟨s,hs,rfl⟩:=List.mem_map.1 hx
  obtain ⟨k,hk,hke,hks⟩:=idx_pos (hin s (names_sub hs))
  have hke':numP p s=k:=hke
  have hks':p.names[k].name=s:=by simpa using hks
  refine ⟨k,hk,hk,hke',List.any_eq_true.2 ⟨_,List.getElem_mem hj,?_⟩⟩;unfold hasE;rw [he,hks'];simpa using (idx_memT _ _).2 hs
 ·rintro ⟨i,hi,_,rfl,ha⟩
  obtain ⟨r,hrm,hb⟩:=List.any_eq_true.1 ha
  obtain ⟨j,hj,rfl⟩:=List.mem_iff_getElem.1 hrm
  obtain ⟨_,_,e,he,hin⟩:=hr _ hrm
  unfold hasE at hb;rw [he] at hb
  have hs:=(idx_memT _ _).1 (by simpa using hb)
  refine ⟨j,hj,hj,?_⟩;unfold edgR;rw [he];exact List.mem_map.2 ⟨_,hs,hg.num i hi⟩
end Go.Proofs.YtpboiimemmfkiaaGreatDoor
namespace Go.Proofs.YtpboiimemmfkiaaGreatDoor
open Go.Av
structure StP where
 is:List Bool
 ct:List Int
def startP (p:PgP):StP:=⟨List.replicate p.names.length false,List.replicate p.names.length 0⟩
def bitF (p:PgP) (l:List Bool) (s:Tx):Bool:=l.getD (numP p s).toNat false
def evC (is was:Tx→Bool):Option Ex→Bool
 | some e=>evE is was e
 | none=>false
def runS (s:StP) (i:Nat) (m:Int) (yes:Bool):StP:=
 let c:=if yes then (if s.ct.getD i 0+1 < m then s.ct.getD i 0+1 else m) else s.ct.getD i 0
 ⟨s.is.set i (decide (m≤c)),s.ct.set i c⟩
def zeroS (s:StP) (i:Nat):StP:=⟨s.is.set i false,s.ct.set i 0⟩
def rungS (p:PgP) (old t:StP) (r:RgP):StP:=
 let i:=(numP p r.name).toNat
 let yes:=evC (bitF p t.is) (bitF p old.is) r.cond
 let m:=(p.names.getD i ⟨[],0,0⟩).count
 if r.kind=1 then ⟨t.is.set i yes,t.ct⟩
 else if r.kind=2 then ⟨t.is.set i (t.is.getD i false || yes),t.ct⟩
 else if r.kind=3 then ⟨t.is.set i (t.is.getD i false && !yes),t.ct⟩
 else if r.kind=4 then (if yes then runS t i m yes else zeroS (runS t i m yes) i)
 else if r.kind=5 then runS t i m yes
 else if r.kind=6 then (if yes then zeroS t i else t)
 else t
def putIn (at':List Int) (inn:List Bool) (is:List Bool):Nat→List Bool
 | 0=>is
 | k+1=>(putIn at' inn is k).set (at'.getD k 0).toNat (inn.getD k false)
def inputP (p:PgP):List Int:=kindN p.names 1 p.names.length
def doP (p:PgP) (s:StP) (inn:List Bool):StP:=p.rungs.foldl (rungS p s) ⟨putIn (inputP p) inn s.is (inputP p).length,s.ct⟩
def stepP (p:PgP) (s:StP) (inn:List Bool):(Int×Option Nat) ⊕ StP:=match checkP p with
 | some e=>.inl e
 | none=>if inn.length≠(inputP p).length∨s.is.length≠p.names.length∨s.ct.length≠p.names.length then .inl (2,none) else .inr (doP p s inn)
def dBl (l:List Bool):D:=.sl none (l.map fun b=>[.v (.bool b)])
def dIl (l:List Int):D:=.sl none (l.map fun n=>[.v (.int .i64 n)])
def cSt (s:StP):List D:=[dBl s.is,dIl s.ct]
def dSt (s:StP):D:=.agg (cSt s)
theorem getD_of {α:Type} {l:List α} {i:Nat} {d:α} (h:i < l.length):l.getD i d=l[i]:=by
 rw [List.getD_eq_getElem?_getD,List.getElem?_eq_getElem h];rfl
theorem numP_lt {p:PgP} {s:Tx} (h:¬ numP p s < 0):(numP p s).toNat < p.names.length∧numP p s=((numP p s).toNat:Int):=by
 obtain ⟨k,hk,hke,_⟩:=idx_pos h
 have e:numP p s=(k:Int):=hke
 rw [e];exact ⟨by simpa using hk,by simp⟩
set_option maxHeartbeats 2000000 in
theorem ask1 (G:Glob) (p:PgP) (hp:p.names.length < 2^62) (s:StP) (hl:s.is.length=p.names.length):TellsOn (fun nm=>¬ numP p nm < 0) G 150 [.ip (cSt s),.ip (cPg p)] (bitF p s.is):=by
 intro nm hn
 have hnum:=lc_num G p hp nm
 obtain ⟨h1,h2⟩:=numP_lt hn
 have hi:(numP p nm).toNat < s.is.length:=by omega
 have hbv:bitF p s.is nm=s.is[(numP p nm).toNat]:=by unfold bitF;exact getD_of hi
 rw [hbv];rw [h2] at hnum;clear h1 h2 hbv hn;simp only [dPg,cPg,dNms,dRgs,dS] at hnum;simp only [cSt,dBl,dIl,cPg,dNms,dRgs];generalize hix:(numP p nm).toNat=i at hnum hi ⊢;clear hix hl hp;generalize p.names.map cNm=NN at hnum ⊢;generalize p.rungs.map cRg=RR at hnum ⊢;generalize s.is=L at hi ⊢;generalize s.ct.map (fun n=>[D.v (.int .i64 n)])=CC;refine PureC.of_body (tyOf_good _) Tryz.func150 rfl rfl (rs:=[.tmp 4]) Tryz.results150 (by simp [Tryz.ntmps150]) fun X=>?_;simp only [Tryz.ntmps150,List.map]
 have fw:=@dS.eq_1
 refine rgq fw [0,1,2] [] ?_
 have qf:=(Aq fw @hi)
 refine rdcv hnum [4] [] ?_;refine AW_ret ?_;simp [D.le,D.le.go,takeMap,dS]
set_option maxHeartbeats 2000000 in
theorem ask2 (G:Glob) (p:PgP) (hp:p.names.length < 2^62) (s:StP) (hl:s.is.length=p.names.length):TellsOn (fun nm=>¬ numP p nm < 0) G 151 [.ip (cSt s),.ip (cPg p)] (bitF p s.is):=by
 intro nm hn
 have hnum:=lc_num G p hp nm
 obtain ⟨h1,h2⟩:=numP_lt hn
 have hi:(numP p nm).toNat < s.is.length:=by omega
 have hbv:bitF p s.is nm=s.is[(numP p nm).toNat]:=by unfold bitF;exact getD_of hi
 rw [hbv];rw [h2] at hnum;clear h1 h2 hbv hn;simp only [dPg,cPg,dNms,dRgs,dS] at hnum;simp only [cSt,dBl,dIl,cPg,dNms,dRgs];generalize hix:(numP p nm).toNat=i at hnum hi ⊢;clear hix hl hp;generalize p.names.map cNm=NN at hnum ⊢;generalize p.rungs.map cRg=RR at hnum ⊢;generalize s.is=L at hi ⊢;generalize s.ct.map (fun n=>[D.v (.int .i64 n)])=CC;refine PureC.of_body (tyOf_good _) Tryz.func151 rfl rfl (rs:=[.tmp 4]) Tryz.results151 (by simp [Tryz.ntmps151]) fun X=>?_;simp only [Tryz.ntmps151,List.map]
 have fw:=@dS.eq_1
 refine rgq fw [0,1,2] [] ?_
 have qf:=(Aq fw @hi)
 refine rdcv hnum [4] [] ?_;refine AW_ret ?_;simp [D.le,D.le.go,takeMap,dS]
def stR (s:StP):List (Nat×Row):=[(7,.box 72 [.own 701 0 s.is.length,.own 702 0 s.ct.length]),(701,.sl 4 1 (s.is.map fun b=>[.v (.bool b)])),(702,.sl 3 1 (s.ct.map fun n=>[.v (.int .i64 n)]))]
set_option maxHeartbeats 4000000 in
theorem run_mc (G:Glob) (s:StP) (i:Nat) (m:Int) (yes:Bool) (hi:i < s.is.length) (hc:i < s.ct.length) (hb:∀ x∈s.ct,0≤x∧x≤2^40):MC Tryz.prog G [7] 153 [.ref 7 0 0,.d (dNum i),.d (dNum m),.d (.v (.bool yes))] (hlst (stR s)) (.d (.tup [])) (hlst (stR (runS s i m yes))):=by
 have hci:s.ct.getD i 0=s.ct[i]:=getD_of hc
 have hbd:=hb s.ct[i] (List.getElem_mem hc)
 have hgc:(s.ct.map fun n=>[D.v (.int .i64 n)])[i]? = some [.v (.int .i64 s.ct[i])]:=by simp [hc]
 simp only [stR,runS,hci]
 cases yes with
 | true=>
  simp only [if_true];refine MC.of_body (tyOf_good _) Tryz.func153 rfl rfl (rs:=[]) Tryz.results153 (by simp [Tryz.ntmps153]) rfl fun X=>?_;simp only [Tryz.ntmps153]
  have fw:=@dNum.eq_1
  refine AW_then fun K1 hK1=>?_;refine rgq fw [0,1,2,8] [7,701,702] ?_;refine AW_tt rfl ?_;refine AW_rdge (tyOf_good _) (by kernel_rfl) [(3,7),(9,7),(11,702),(12,702),(15,702),(16,702)] (by kernel_rfl) fun K' hK'=>?_;(repeat (refine sxg_next fun K2 hK2=>?_;simp [dNum,hc];(repeat (refine ⟨by omega,?_⟩));refine hK2 _ ?_;clear hK2 K2));refine sxg_nil (hK' _ ?_);clear hK' K';refine hK1 _ (AW.norm [0,1,2] [7,701,702] (notIn_ok rfl) (AW.st (by simp [dNum,hc];rfl) ?_));refine AW_rdge (tyOf_good _) (by kernel_rfl) [(3,7),(8,7),(10,702),(11,702),(14,701),(15,701)] (by kernel_rfl) fun K' hK'=>?_;(repeat (refine sxg_next fun K2 hK2=>?_;simp [dNum,hc,hi];(repeat (refine ⟨by omega,?_⟩));refine hK2 _ ?_;clear hK2 K2));refine sxg_nil (hK' _ ?_);clear hK' K';(try simp only [thn,inb]);simp [D.le,D.le.go,List.map_set]
 | false=>
  simp only [Bool.false_eq_true,if_false];refine MC.of_body (tyOf_good _) Tryz.func153 rfl rfl (rs:=[]) Tryz.results153 (by simp [Tryz.ntmps153]) rfl fun X=>?_;simp only [Tryz.ntmps153]
  have fw:=@dNum.eq_1
  refine AW_then fun K1 hK1=>?_;refine rgq fw [0,1,2,8] [7,701,702] ?_;refine AW_ff rfl ?_;refine AW_skip (hK1 _ ?_);refine AW_rdge (tyOf_good _) (by kernel_rfl) [(3,7),(8,7),(10,702),(11,702),(14,701),(15,701)] (by kernel_rfl) fun K' hK'=>?_;(repeat (refine sxg_next fun K2 hK2=>?_;simp [dNum,hc,hi];(repeat (refine ⟨by omega,?_⟩));refine hK2 _ ?_;clear hK2 K2));refine sxg_nil (hK' _ ?_);clear hK' K';(try simp only [thn,inb]);simp [D.le,D.le.go,List.map_set]
end Go.Proofs.YtpboiimemmfkiaaGreatDoor
namespace Go.Proofs.YtpboiimemmfkiaaGreatDoor
open Go.Av
theorem checkP_want {p:PgP} (h:checkP p=none):∀ r∈p.rungs,(p.names.getD (numP p r.name).toNat ⟨[],0,0⟩).kind=wantP r.kind:=fun r hr=>by
 unfold checkP at h
 split at h
 ·cases h
 split at h
 ·cases h
 split at h
 ·cases h
 rename_i hB
 obtain ⟨k,hk,rfl⟩:=List.mem_iff_getElem.1 hr
 have h0:=firstBad_none hB k hk
 generalize p.rungs[k]=r at h0
 obtain ⟨kd,nm,cd⟩:=r
 cases cd with
 | none=>cases (show (1:Int)=0 from h0)
 | some e=>
  rw [badGw_some] at h0
  split at h0
  ·cases h0
  split at h0
  ·cases h0
  split at h0
  ·cases h0
  rename_i h3
  simp only [Bool.not_eq_true',decide_eq_false_iff_not,Classical.not_not] at h3;exact h3.symm
structure InvS (p:PgP) (s:StP):Prop where
 l1:s.is.length=p.names.length
 l2:s.ct.length=p.names.length
 lo:∀ k,0≤s.ct.getD k 0
 hi:∀ k (hk:k < p.names.length),s.ct.getD k 0≤p.names[k].count
 at':∀ k (hk:k < p.names.length),3≤p.names[k].kind→s.is.getD k false=decide (s.ct.getD k 0=p.names[k].count)
theorem getD_rep {α:Type} (n k:Nat) (x:α):(List.replicate n x).getD k x=x:=by
 rw [List.getD_eq_getElem?_getD,List.getElem?_replicate]
 split<;>rfl
theorem getD_set_same {α:Type} {l:List α} {i:Nat} {x d:α} (h:i < l.length):(l.set i x).getD i d=x:=by
 rw [List.getD_eq_getElem?_getD,List.getElem?_set_self h];rfl
theorem getD_set_other {α:Type} {l:List α} {i k:Nat} {x d:α} (h:i≠k):(l.set i x).getD k d=l.getD k d:=by
 rw [List.getD_eq_getElem?_getD,List.getElem?_set_ne h,List.getD_eq_getElem?_getD]
theorem start_inv {p:PgP} (h:GoodP p):InvS p (startP p):=by
 refine ⟨by simp [startP],by simp [startP],fun k=>?_,fun k hk=>?_,fun k hk h3=>?_⟩
 ·show 0≤(List.replicate _ (0:Int)).getD k 0
  rw [getD_rep];exact Int.le_refl _
 ·show (List.replicate _ (0:Int)).getD k 0≤_
  rw [getD_rep]
  rcases h.count _ (List.getElem_mem hk) with h1 | h1<;>omega
 ·show (List.replicate _ false).getD k false=decide ((List.replicate _ (0:Int)).getD k 0=_)
  rw [getD_rep,getD_rep]
  rcases h.count _ (List.getElem_mem hk) with h1 | h1
  ·omega
  ·exact (decide_eq_false (by omega)).symm
theorem set_inv {p:PgP} {t:StP} (ht:InvS p t) {i:Nat} (hi:i < p.names.length) (hk:p.names[i].kind < 3) (b:Bool):InvS p ⟨t.is.set i b,t.ct⟩:=by
 refine ⟨by simp [ht.l1],ht.l2,ht.lo,ht.hi,fun k hk' h3=>?_⟩
 have hne:i≠k:=fun e=>by subst e;omega
 show (t.is.set i b).getD k false=_
 rw [getD_set_other hne];exact ht.at' k hk' h3
theorem zero_inv {p:PgP} (hg:GoodP p) {t:StP} (ht:InvS p t) {i:Nat} (hi:i < p.names.length):InvS p (zeroS t i):=by
 refine ⟨by simp [zeroS,ht.l1],by simp [zeroS,ht.l2],fun k=>?_,fun k hk=>?_,fun k hk h3=>?_⟩
 ·show 0≤(t.ct.set i 0).getD k 0
  by_cases e:i=k
  ·subst e;rw [getD_set_same (by rw [ht.l2];exact hi)];exact Int.le_refl _
  ·rw [getD_set_other e];exact ht.lo k
 ·show (t.ct.set i 0).getD k 0≤_
  by_cases e:i=k
  ·subst e;rw [getD_set_same (by rw [ht.l2];exact hi)]
   rcases hg.count _ (List.getElem_mem hk) with h1 | h1<;>omega
  ·rw [getD_set_other e];exact ht.hi k hk
 ·show (t.is.set i false).getD k false=decide ((t.ct.set i 0).getD k 0=_)
  by_cases e:i=k
  ·subst e;rw [getD_set_same (by first | (rw [ht.l1];exact hi) | (rw [ht.l2];exact hi)),getD_set_same (by first | (rw [ht.l2];exact hi) | (rw [ht.l1];exact hi))]
   rcases hg.count _ (List.getElem_mem hk) with h1 | h1
   ·omega
   ·exact (decide_eq_false (by omega)).symm
  ·rw [getD_set_other e,getD_set_other e];exact ht.at' k hk h3
theorem run_inv {p:PgP} (hg:GoodP p) {t:StP} (ht:InvS p t) {i:Nat} (hi:i < p.names.length) (yes:Bool):InvS p (runS t i p.names[i].count yes):=by
 have h0:=ht.lo i
 have h1:=ht.hi i hi
 have hc0:=hg.count _ (List.getElem_mem hi)
 obtain ⟨c,hcd,hc⟩:∃ c,c=(if yes then (if t.ct.getD i 0+1 < p.names[i].count then t.ct.getD i 0+1 else p.names[i].count) else t.ct.getD i 0)∧0≤c∧c≤p.names[i].count:=⟨_,rfl,by split<;>(try split)<;>omega,by split<;>(try split)<;>omega⟩
 have e:runS t i p.names[i].count yes=⟨t.is.set i (decide (p.names[i].count≤c)),t.ct.set i c⟩:=by
  rw [hcd];rfl
 rw [e];refine ⟨by simp [ht.l1],by simp [ht.l2],fun k=>?_,fun k hk=>?_,fun k hk h3=>?_⟩
 ·show 0≤(t.ct.set i c).getD k 0
  by_cases e:i=k
  ·subst e;rw [getD_set_same (by rw [ht.l2];exact hi)];omega
  ·rw [getD_set_other e];exact ht.lo k
 ·show (t.ct.set i c).getD k 0≤_
  by_cases e:i=k
  ·subst e;rw [getD_set_same (by rw [ht.l2];exact hi)];omega
  ·rw [getD_set_other e];exact ht.hi k hk
 ·show (t.is.set i _).getD k false=decide ((t.ct.set i c).getD k 0=_)
  by_cases e:i=k
  ·subst e;rw [getD_set_same (by first | (rw [ht.l1];exact hi) | (rw [ht.l2];exact hi)),getD_set_same (by first | (rw [ht.l2];exact hi) | (rw [ht.l1];exact hi))]
   congr 1
   exact propext ⟨fun h=>by omega,fun h=>by omega⟩
  ·rw [getD_set_other e,getD_set_other e];exact ht.at' k hk h3
theorem rung_at {p:PgP} (hc:checkP p=none) {r:RgP} (hr:r∈p.rungs):∃ i,∃ hi:i < p.names.length,numP p r.name=(i:Int)∧p.names[i].kind=wantP r.kind∧p.names.getD i ⟨[],0,0⟩=p.names[i]:=by
 obtain ⟨_,h2,_⟩:=checkP_rung hc r hr
 obtain ⟨h3,h4⟩:=numP_lt h2
 have h5:=checkP_want hc r hr
 have h6:p.names.getD (numP p r.name).toNat ⟨[],0,0⟩=p.names[(numP p r.name).toNat]:=getD_of h3
 rw [h6] at h5;exact ⟨_,h3,h4,h5,h6⟩
theorem rung_inv {p:PgP} (hc:checkP p=none) {r:RgP} (hr:r∈p.rungs) (old:StP) {t:StP} (ht:InvS p t):InvS p (rungS p old t r)∧∀ k (hk:k < p.names.length),p.names[k].kind=1→(rungS p old t r).is.getD k false=t.is.getD k false:=by
 have hg:=checkP_good hc
 obtain ⟨i,hi,hn,hw,hd⟩:=rung_at hc hr
 obtain ⟨hk,_⟩:=checkP_rung hc r hr
 unfold rungS;simp only [hn,Int.toNat_natCast,hd]
 have hw1:p.names[i].kind≠1:=by rw [hw];unfold wantP;split<;>(try split)<;>omega
 have off:∀ k (hk:k < p.names.length),p.names[k].kind=1→i≠k:=fun k hk h1 e=>by subst e;exact hw1 h1
 have hlow:r.kind≤3→p.names[i].kind < 3:=fun h=>by rw [hw];unfold wantP;rw [if_pos h];omega
 split
 ·exact ⟨set_inv ht hi (hlow (by omega)) _,fun k hk h1=>getD_set_other (off k hk h1)⟩
 split
 ·exact ⟨set_inv ht hi (hlow (by omega)) _,fun k hk h1=>getD_set_other (off k hk h1)⟩
 split
 ·exact ⟨set_inv ht hi (hlow (by omega)) _,fun k hk h1=>getD_set_other (off k hk h1)⟩
 split
 ·split
  ·exact ⟨run_inv hg ht hi _,fun k hk h1=>getD_set_other (off k hk h1)⟩
  ·refine ⟨zero_inv hg (run_inv hg ht hi _) hi,fun k hk h1=>?_⟩
   show ((runS t i _ _).is.set i false).getD k false=_
   rw [getD_set_other (off k hk h1)];exact getD_set_other (off k hk h1)
 split
 ·exact ⟨run_inv hg ht hi _,fun k hk h1=>getD_set_other (off k hk h1)⟩
 split
 ·split
  ·exact ⟨zero_inv hg ht hi,fun k hk h1=>getD_set_other (off k hk h1)⟩
  ·exact ⟨ht,fun k hk h1=>rfl⟩
 ·exact ⟨ht,fun k hk h1=>rfl⟩
theorem rungs_inv {p:PgP} (hc:checkP p=none) (old:StP):∀ (l:List RgP) {t:StP},(∀ r∈l,r∈p.rungs)→InvS p t→InvS p (l.foldl (rungS p old) t)∧∀ k (hk:k < p.names.length),p.names[k].kind=1→(l.foldl (rungS p old) t).is.getD k false=t.is.getD k false
 | [],t,_,ht=>⟨ht,fun k hk h1=>rfl⟩
 | r :: l,t,hl,ht=>by
  obtain ⟨h1,h2⟩:=rung_inv hc (hl r (by simp)) old ht
  obtain ⟨h3,h4⟩:=rungs_inv hc old l (fun r hr=>hl r (by simp [hr])) h1
  exact ⟨h3,fun k hk hk1=>(h4 k hk hk1).trans (h2 k hk hk1)⟩
theorem kindN_mem {l:List NmP} {k:Int} {x:Int}:∀ {n:Nat},n≤l.length→(x∈kindN l k n↔∃ i,∃ hi:i < l.length,i < n∧x=(i:Int)∧l[i].kind=k)
 | 0,_=>by simp [kindN]
 | n+1,hn=>by
  rw [kindN_succ (by omega),List.mem_append,kindN_mem (by omega)]
  constructor
  ·rintro (⟨i,hi,h1,h2,h3⟩ | h)
   ·exact ⟨i,hi,by omega,h2,h3⟩
   ·split at h
    ·rename_i hk
     exact ⟨n,by omega,by omega,by simpa using h,hk⟩
    ·cases h
  ·rintro ⟨i,hi,h1,h2,h3⟩
   by_cases e:i=n
   ·subst e
    right;rw [if_pos h3];simp [h2]
   ·exact .inl ⟨i,hi,by omega,h2,h3⟩
theorem kindN_nodup {l:List NmP} {k:Int}:∀ {n:Nat},n≤l.length→(kindN l k n).Nodup
 | 0,_=>by simp [kindN]
 | n+1,hn=>by
  rw [kindN_succ (by omega),List.nodup_append];refine ⟨kindN_nodup (by omega),by split<;>simp,fun a ha b hb e=>?_⟩;subst e
  obtain ⟨i,hi,h1,h2,_⟩:=(kindN_mem (by omega)).1 ha
  split at hb
  ·have:a=(n:Int):=by simpa using hb
   omega
  ·cases hb
theorem input_at {p:PgP} {j:Nat} (hj:j < (inputP p).length):∃ i,∃ hi:i < p.names.length,(inputP p)[j]=(i:Int)∧p.names[i].kind=1:=by
 obtain ⟨i,hi,_,h2,h3⟩:=(kindN_mem (Nat.le_refl _)).1 (List.getElem_mem hj)
 exact ⟨i,hi,h2,h3⟩
theorem putIn_succ {at':List Int} {inn is:List Bool} {k i:Nat} (h:k < at'.length) (hi:at'[k]=(i:Int)):putIn at' inn is (k+1)=(putIn at' inn is k).set i (inn.getD k false):=by
 rw [putIn,getD_of h,hi];rfl
theorem putIn_inv {p:PgP} (inn:List Bool) {s:StP} (hs:InvS p s):∀ k,k≤(inputP p).length→InvS p ⟨putIn (inputP p) inn s.is k,s.ct⟩∧∀ j (hj:j < k) (hj2:j < (inputP p).length),(putIn (inputP p) inn s.is k).getD (inputP p)[j].toNat false=inn.getD j false
 | 0,_=>⟨hs,fun j hj=>absurd hj (by omega)⟩
 | k+1,hk=>by
  obtain ⟨h1,h2⟩:=putIn_inv inn hs k (by omega)
  obtain ⟨i,hi,he,h3⟩:=input_at (p:=p) (j:=k) (by omega)
  rw [putIn_succ (by omega) he];refine ⟨set_inv h1 hi (by omega) _,fun j hj hj2=>?_⟩
  by_cases e:j=k
  ·subst e;rw [he,Int.toNat_natCast,getD_set_same (by rw [h1.l1];exact hi)]
  ·have hne:i≠(inputP p)[j].toNat:=fun e2=>by
    obtain ⟨i2,hi2,he2,_⟩:=input_at (p:=p) hj2
    rw [he2,Int.toNat_natCast] at e2
    have:(inputP p)[j]=(inputP p)[k]:=by rw [he,he2,e2]
    exact e ((List.getElem_inj (kindN_nodup (Nat.le_refl _))).1 this)
   rw [getD_set_other hne];exact h2 j (by omega) hj2
theorem do_inv {p:PgP} (hc:checkP p=none) {s:StP} (hs:InvS p s) (inn:List Bool):InvS p (doP p s inn)∧∀ j (hj:j < (inputP p).length),(doP p s inn).is.getD (inputP p)[j].toNat false=inn.getD j false:=by
 obtain ⟨h1,h2⟩:=putIn_inv inn hs (inputP p).length (Nat.le_refl _)
 obtain ⟨h3,h4⟩:=rungs_inv hc s p.rungs (fun r hr=>hr) h1
 refine ⟨h3,fun j hj=>?_⟩
 obtain ⟨i,hi,he,hk⟩:=input_at hj
 have:=h2 j hj hj
 rw [he,Int.toNat_natCast] at this ⊢;exact (h4 i hi hk).trans this
theorem inv_small {p:PgP} (hc:checkP p=none) {s:StP} (hs:InvS p s):∀ x∈s.ct,0≤x∧x≤2^20:=fun x hx=>by
 obtain ⟨k,hk,rfl⟩:=List.mem_iff_getElem.1 hx
 have hk2:k < p.names.length:=by rw [← hs.l2];exact hk
 have h1:=hs.lo k
 have h2:=hs.hi k hk2
 rw [getD_of hk] at h1 h2
 rcases (checkP_good hc).count _ (List.getElem_mem hk2) with h3 | h3<;>omega
end Go.Proofs.YtpboiimemmfkiaaGreatDoor
