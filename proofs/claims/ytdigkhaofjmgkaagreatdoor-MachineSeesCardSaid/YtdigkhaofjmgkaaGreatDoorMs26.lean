/- Parts. -/
import Derived.Test.YtdigkhaofjmgkaaGreatDoorMs25
import Derived.Ground.Names2Prog
import Derived.Shelf.Slices.CompactI
set_option linter.unusedSimpArgs false
set_option linter.unusedVariables false
set_option maxHeartbeats 4000000
open Go.Proofs.Tryz
namespace Go.Proofs
open Go.Shelf
def Tryz.IQ:Go.Shelf.Ren:=⟨fun | 20=>129 | n=>n,fun | 22=>46 | 3=>3 | 4=>4 | 0=>0 | n=>n,fun | n=>n⟩
theorem Tryz.SN:Go.Proofs.Lays2.n20 prog Tryz.IQ:={
 mixed:=by kernel_rfl
 f20:=func129.trans (congrArg some (by kernel_rfl))
 t0:=underlying0
 a0:=isAgg0
 z0:=sizeOf0
 v0:=zeroValue0
 t3:=underlying3
 a3:=isAgg3
 z3:=sizeOf3
 v3:=zeroValue3
 t4:=underlying4
 a4:=isAgg4
 z4:=sizeOf4
 v4:=zeroValue4
 t22:=underlying46
 a22:=isAgg46
 z22:=sizeOf46
 v22:=zeroValue46
 i3:=by kernel_rfl }
end Go.Proofs
namespace Go.Proofs.YtdigkhaofjmgkaaGreatDoor
open Go.Av Go.Sort
open Go.Shelf
section
variable {w:World} {X:Nat->Prop} {μ:Mu} {r:Nat}
theorem Et {ty:TypeId} {ss:List Int} {m:gn} {b:Nat} (hm:μ r=some m) (hs:Sim w X μ (ak [(r,.sl ty 1 (ss.map fun s=>[D.v (.int .i64 s)]))])) (hb:m.dy=some b) :
  m.sz=1/\∃ cur,w.heap[b]? = some (.cells cur ty (0,0))/\cur.size=m.cap/\ss.length<=m.cap/\m.cap<=maxLen/\∀ i (hi:i < ss.length),cur[i]? = some ((Value.int .i64) ss[i]):=by
 obtain⟨m',bU,ok⟩:=hs.rows r _ (qi r _);rw[hm]at bU;obtain rfl:=Option.some.inj bU;generalize cF:Row.sl ty 1 (ss.map fun s=>[D.v (.int .i64 s)])=row at ok
 cases ok with
 | nil aT _=>rw[hb]at aT;cases aT
 | box _ _ _ _ _=>cases cF
 | mp _ _ _ _=>cases cF
 | it _ _ _=>cases cF
 | sl aT aK hh hcs hn fc hl hz hr=>
  simp only[Row.sl.injEq]at cF;obtain⟨rfl,rfl,rfl⟩:=cF;rw[hb]at aT;obtain rfl:=Option.some.inj aT;refine⟨aK,_,hh,by simpa using hcs,by simpa using hn,fc,fun i hi=>?_⟩;obtain⟨u,hu,wE⟩:=hr i 0 [D.v (.int .i64 ss[i])] (D.v (.int .i64 ss[i])) (by simp[hi]) rfl;have:=wE.scalar;subst this;simpa using hu
theorem Kx {ty:TypeId} {ss zs:List Int} {m:gn} {b n:Nat} {os:Array Obj} (hm:μ r=some m) (hs:Sim w X μ (ak [(r,.sl ty 1 (ss.map fun s=>[D.v (.int .i64 s)]))])) (hb:m.dy=some b) (hz:zs.length=ss.length) :
  Sim (grow (putRow (Value.int .i64) (Sort.ahead w n) b 0 zs.toArray) os) X μ (ak [(r,.sl ty 1 (zs.map fun s=>[D.v (.int .i64 s)]))])/\Ev (gd [r]) w μ (grow (putRow (Value.int .i64) (Sort.ahead w n) b 0 zs.toArray) os) μ:=by
 obtain⟨aK,cur,hh,hcs,hn,fc,rD⟩:=Et hm hs hb;have gK:b < w.heap.size:=hs.jj ⟨r,m,hm,hb⟩
 have hsize:(putRow (Value.int .i64) (Sort.ahead w n) b 0 zs.toArray).heap.size=w.heap.size:=by simp[putRow,mapBlock,Sort.ahead]
 have hold:∀ k,k < w.heap.size->k≠b->(grow (putRow (Value.int .i64) (Sort.ahead w n) b 0 zs.toArray) os).heap[k]? = w.heap[k]?:=fun k hk aO=>by
  unfold grow;dsimp only;rw[Array.getElem?_append_left (by rw[hsize];exact hk)];unfold putRow mapBlock Sort.ahead;dsimp only;rw[Array.getElem?_modify,if_neg (Ne.symm aO)]
 have jv:(grow (putRow (Value.int .i64) (Sort.ahead w n) b 0 zs.toArray) os).heap[b]? = some (.cells (putCells (Value.int .i64) 0 zs.toArray cur) ty (0,0)):=by
  unfold grow;dsimp only;rw[Array.getElem?_append_left (by rw[hsize];exact gK)];unfold putRow mapBlock Sort.ahead;dsimp only;rw[Array.getElem?_modify,if_pos rfl,hh];rfl
 have rN:w.heap.size<=(grow (putRow (Value.int .i64) (Sort.ahead w n) b 0 zs.toArray) os).heap.size:=by
  unfold grow;simp[hsize]
 have ev:Ev (gd [r]) w μ (grow (putRow (Value.int .i64) (Sort.ahead w n) b 0 zs.toArray) os) μ:=⟨rN,rfl,rfl,rfl,fun k hk hr=>⟨hold k hk fun e=>hr ⟨r,m,hm,e ▸ hb⟩,hr⟩,fun _ _ h _=>h⟩;refine⟨⟨fun q row hq=>?_,fun q mq hq=>?_,hs.inj,hs.frame,fun k hk=>Nat.lt_of_lt_of_le (hs.fits k hk) rN⟩,ev⟩
 .by_cases e:q=r
  .subst e;rw[qi]at hq;obtain rfl:=Option.some.inj hq;refine⟨m,hm,.sl hb aK jv (by simpa[putCells]using hcs) (by simpa[hz]using hn) fc (fun el hel=>?_) (by omega) fun i j el c hi hj=>?_⟩
   .obtain⟨x,_,rfl⟩:=List.mem_map.1 hel;rfl
   .rw[List.getElem?_map]at hi;obtain⟨x,hx,rfl⟩:=Option.map_eq_some_iff.1 hi;have c6:i < zs.length:=(List.getElem?_eq_some_iff.1 hx).1
    have jt:j=0:=by have:=(List.getElem?_eq_some_iff.1 hj).1;simpa using this
    subst jt
    obtain rfl:D.v (.int .i64 x)=c:=by simpa using hj
    have hcl:i < cur.size:=by omega
    refine⟨(Value.int .i64) x,?_,.v _⟩;simp only[Nat.mul_one,Nat.add_zero,putCells,Array.getElem?_mapIdx,Array.getElem?_eq_getElem hcl,Option.map_some];rw[if_pos (by simp;omega)];congr 2;simp only[Nat.sub_zero];rw[getElem!_pos zs.toArray i (by simpa using c6)];simpa using (List.getElem?_eq_some_iff.1 hx).2
  .rw[yV _ e]at hq;cases hq
 .obtain⟨row,cF⟩:=hs.iu q mq hq;by_cases e:q=r
  .exact⟨_,by rw[e];exact qi r _⟩
  .rw[yV _ e]at cF;cases cF
theorem Kv {ty:TypeId} {ss:List Int} {m:gn} {b:Nat} (hm:μ r=some m) (hs:Sim w X μ (ak [(r,.sl ty 1 (ss.map fun s=>[D.v (.int .i64 s)]))])) (hb:m.dy=some b):Holds (Value.int .i64) w b 0 ss.toArray:=by
 obtain⟨aK,cur,hh,hcs,hn,fc,rD⟩:=Et hm hs hb;intro j hj
 have hj':j < ss.length:=by simpa using hj
 constructor
 .unfold World.cell?;simp only[hh,Nat.zero_add];rw[getElem!_pos ss.toArray j hj,rD j hj'];simp
 .unfold World.frozen?;simp only[hh];simp
theorem Kw {ty:TypeId} {ss:List Int} {m:gn} (hm:μ r=some m) (hs:Sim w X μ (ak [(r,.sl ty 1 (ss.map fun s=>[D.v (.int .i64 s)]))])) (hb:m.dy=none):ss=[]:=by
 obtain⟨m',bU,ok⟩:=hs.rows r _ (qi r _);rw[hm]at bU;obtain rfl:=Option.some.inj bU;generalize cF:Row.sl ty 1 (ss.map fun s=>[D.v (.int .i64 s)])=row at ok
 cases ok with
 | nil _ _=>simp only[Row.sl.injEq]at cF;simpa using cF.2.2
 | box aT _ _ _ _=>rw[hb]at aT;cases aT
 | mp aT _ _ _=>rw[hb]at aT;cases aT
 | it aT _ _=>rw[hb]at aT;cases aT
 | sl aT _ _ _ _ _ _ _ _=>rw[hb]at aT;cases aT
end
def kW (ss:List Int):List Int:=ss.mergeSort fun x y=>decide (x<=y)
theorem xv (ss:List Int):(kW ss).length=ss.length:=by simp[kW]
theorem Xk (G:ao) (r:Nat) (ty:TypeId) (ss:List Int) (hl:ss.length < 2^60):MC prog G [r] 128 [.own r 0 ss.length] (ak [(r,.sl ty 1 (ss.map fun s=>[D.v (.int .i64 s)]))]) (.d (.tup [])) (ak [(r,.sl ty 1 ((kW ss).map fun s=>[D.v (.int .i64 s)]))]):=by
 refine⟨e7.of func128 rfl rfl,fun X w μ vs hs cq aK hv=>?_⟩
 obtain⟨v,rfl⟩:∃ v,vs = #[v]:=by
  match vs,aK with
  | ⟨[v]⟩,_=>exact⟨v,rfl⟩
 obtain⟨m,hm,hc⟩:=(hv 0 v _ rfl rfl).jd;have hL:Lays.n189 prog Tryz.IK:={ Tryz.SJ with };by_cases h0:ss=[]
 .subst h0
  have e:∃ p cap,v = .slice p 0 cap:=by
   rcases hc with⟨_,rfl,_⟩ | ⟨b,_,rfl,_⟩
   .exact⟨_,_,rfl⟩
   .exact⟨_,_,rfl⟩
  obtain⟨p,cap,rfl⟩:=e;have e1:kW []=[]:=List.eq_nil_of_length_eq_zero (by rw[xv];rfl);rw[e1];refine (Any.slices_Sort_int_none hL p cap w).mono fun e w' ⟨he,hw⟩=>?_;subst hw;exact⟨_,_,_,μ,he,⟨rfl,rfl⟩,.d (.tup rfl fun j u c hu hc=>by simp at hu),hs,.refl _ _ _⟩
 .rcases hc with⟨hb,rfl,_,hn⟩ | ⟨b,hb,rfl,hn⟩
  .exact absurd (Kw hm hs hb) h0
  .have hH:=Kv hm hs hb;have gK:b < w.heap.size:=hs.jj ⟨r,m,hm,hb⟩;rw[Nat.zero_mul];refine (Any.slices_Sort_int hL b 0 (m.cap - 0) ss w hH gK (by omega)).mono fun e w' ⟨he,n,os,hw⟩=>?_;subst hw;obtain⟨h1,h2⟩:=Kx (n:=n) (os:=os) hm hs hb (xv ss);exact⟨_,_,_,μ,he,⟨rfl,rfl⟩,.d (.tup rfl fun j u c hu hc=>by simp at hu),h1,h2⟩
theorem Nr (G:ao) (r:Nat) (ty:TypeId) (ss:List Int) (hl:ss.length < 2^60):MC prog G [r] 129 [.own r 0 ss.length] (ak [(r,.sl ty 1 (ss.map fun s=>[D.v (.int .i64 s)]))]) (.own r 0 (Lib.compact ss).length) (ak [(r,.sl ty 1 ((Lib.compact ss ++ List.replicate (ss.length - (Lib.compact ss).length) 0).map fun s=>[D.v (.int .i64 s)]))]):=by
 refine⟨e7.of func129 rfl rfl,fun X w μ vs hs cq aK hv=>?_⟩
 obtain⟨v,rfl⟩:∃ v,vs = #[v]:=by
  match vs,aK with
  | ⟨[v]⟩,_=>exact⟨v,rfl⟩
 have ff:=hv 0 v _ rfl rfl;obtain⟨m,hm,hc⟩:=ff.jd;have hle:=Lib.compact_length_le ss;have hL:Lays2.n20 prog Tryz.IQ:={ Tryz.SN with };by_cases h0:ss=[]
 .subst h0;have e0:(Lib.compact ([]:List Int))=[]:=List.eq_nil_of_length_eq_zero (by simpa using hle);rw[e0]
  have e:∃ p cap,v = .slice p 0 cap:=by
   rcases hc with⟨_,rfl,_⟩ | ⟨b,_,rfl,_⟩
   .exact⟨_,_,rfl⟩
   .exact⟨_,_,rfl⟩
  obtain⟨p,cap,rfl⟩:=e;refine (Any.slices_Compact_int_empty hL p cap w).mono fun e w' ⟨he,hw⟩=>?_;subst hw;exact⟨_,_,_,μ,he,⟨rfl,rfl⟩,ff,hs,.refl _ _ _⟩
 .rcases hc with⟨hb,rfl,_,hn⟩ | ⟨b,hb,rfl,hn⟩
  .exact absurd (Kw hm hs hb) h0
  .have hH:=Kv hm hs hb;obtain⟨C4,cur,hh,hcs,kh,fc,rD⟩:=Et hm hs hb;rw[Nat.zero_mul];refine (Any.slices_Compact_int hL b 0 (m.cap - 0) ss w hH (by omega) (by omega)).mono fun e w' ⟨he,n,hw⟩=>?_
   have hz:(Lib.compact ss ++ List.replicate (ss.length - (Lib.compact ss).length) 0).length=ss.length:=by simp;omega
   obtain⟨h1,h2⟩:=Kx (n:=n) (os:=#[]) hm hs hb hz;rw[grow_empty]at h1 h2;subst hw;refine⟨_,_,_,μ,he,⟨rfl,rfl⟩,.own hm (.inr ⟨b,hb,by simp,by omega⟩),h1,h2⟩
end Go.Proofs.YtdigkhaofjmgkaaGreatDoor
namespace Go.Proofs.YtdigkhaofjmgkaaGreatDoor
open Go.Av
theorem afR:∀ {a b:List Int},a.Pairwise (· < ·)->b.Pairwise (· < ·)->(∀ x,x∈a↔x∈b)->a=b
 | [],[],_,_,_=>rfl
 | [],y :: b,_,_,h=>absurd ((h y).2 (by simp)) (by simp)
 | x :: a,[],_,_,h=>absurd ((h x).1 (by simp)) (by simp)
 | x :: a,y :: b,ha,hb,h=>by
  obtain⟨ha1,ha2⟩:=List.pairwise_cons.1 ha;obtain⟨cY,dA⟩:=List.pairwise_cons.1 hb
  have wN:x=y:=by
   rcases List.mem_cons.1 ((h x).1 (by simp))with e | hx
   .exact e
   .rcases List.mem_cons.1 ((h y).2 (by simp))with e | hy
    .exact e.symm
    .have:=cY x hx;have:=ha1 y hy;omega
  subst wN;rw[afR ha2 dA fun z=>?_];constructor
  .intro hz
   rcases List.mem_cons.1 ((h z).1 (by simp[hz]))with e | e
   .subst e;have:=ha1 z hz;omega
   .exact e
  .intro hz
   rcases List.mem_cons.1 ((h z).2 (by simp[hz]))with e | e
   .subst e;have:=cY z hz;omega
   .exact e
theorem DL (d:Array Int):∀ (m:Nat),m<=d.size->∀ j,j < m->d[j]!∈Lib.compactUpTo d m
 | 0,_,j,h=>by omega
 | m+1,hm,j,hj=>by
  rw[Lib.compactUpTo_succ];by_cases yS:j < m
  .exact List.mem_append_left _ (DL d m (by omega) j yS)
  .obtain rfl:j=m:=by omega
   by_cases hk:Lib.keeps d j=true
   .exact List.mem_append_right _ (by simp[hk])
   .have jt:j≠0:=by rintro rfl;exact hk (Lib.keeps_lt_one d 0 (by omega))
    have he:d[j]! = d[j - 1]!:=by
     unfold Lib.keeps at hk;simp[jt]at hk
     first | exact hk | exact hk.symm
    rw[he];exact List.mem_append_left _ (DL d j (by omega) (j - 1) (by omega))
theorem afE (d:Array Int):∀ (m:Nat),m<=d.size->∀ x∈Lib.compactUpTo d m,∃ j,j < m/\x=d[j]!
 | 0,_,x,h=>by simp[Lib.compactUpTo]at h
 | m+1,hm,x,h=>by
  rw[Lib.compactUpTo_succ]at h
  rcases List.mem_append.1 h with h | h
  .obtain⟨j,hj,e⟩:=afE d m (by omega) x h;exact⟨j,by omega,e⟩
  .split at h
   .simp at h;exact⟨m,by omega,h⟩
   .simp at h
theorem Lw (d:Array Int) (hs:∀ i j,i<=j->j < d.size->d[i]!<=d[j]!):∀ (m:Nat),m<=d.size->(Lib.compactUpTo d m).Pairwise (· < ·)
 | 0,_=>by simp[Lib.compactUpTo]
 | m+1,hm=>by
  have ih:=Lw d hs m (by omega);rw[Lib.compactUpTo_succ];by_cases hk:Lib.keeps d m=true
  .rw[if_pos hk,List.pairwise_append];refine⟨ih,by simp,fun a ha b hb=>?_⟩;rw[List.mem_singleton]at hb;subst hb;obtain⟨j,hj,rfl⟩:=afE d m (by omega) a ha
   have aO:d[m]!≠d[m - 1]!:=by
    intro he;rw[Lib.keeps_neg (by omega) he]at hk;cases hk
   have h1:=hs j (m - 1) (by omega) (by omega);have h2:=hs (m - 1) m (by omega) (by omega);omega
  .rw[if_neg hk,List.append_nil];exact ih
theorem Xn (l:List Int):(Lib.compact (kW l)).Pairwise (· < ·):=by
 unfold Lib.compact;refine Lw _ (fun i j hij hj=>?_) _ (by simp)
 have hp:(kW l).Pairwise (·<=·):=by
  unfold kW;have:=List.pairwise_mergeSort (le:=fun x y:Int=>decide (x<=y)) (by intro a b c h1 h2;simp only[decide_eq_true_eq]at *;omega) (by intro a b;simp only[Bool.or_eq_true,decide_eq_true_eq];omega) l
  exact this.imp fun h=>by simpa using h
 generalize kW l=l at hp hj ⊢
 have hj':j < l.length:=by simpa using hj
 rw[getElem!_pos l.toArray i (by simpa using (by omega:i < l.length)),getElem!_pos l.toArray j (by simpa using hj')];simp only[List.getElem_toArray];by_cases he:i=j
 .subst he;omega
 .exact (List.pairwise_iff_getElem.1 hp) i j (by omega) hj' (by omega)
theorem Xm {l:List Int} {x:Int}:x∈Lib.compact (kW l)↔x∈l:=by
 have h0:∀ l:List Int,x∈Lib.compact l↔x∈l:=by
  intro l;unfold Lib.compact;constructor
  .intro h;obtain⟨j,hj,rfl⟩:=afE l.toArray l.length (by simp) x h;rw[getElem!_pos l.toArray j (by simpa using hj)];simp
  .intro h;obtain⟨j,hj,rfl⟩:=List.mem_iff_getElem.1 h;have:=DL l.toArray l.length (by simp) j hj;rw[getElem!_pos l.toArray j (by simpa using hj)]at this;simpa using this
 rw[h0];unfold kW;exact List.mem_mergeSort
def p0 (p:PgP) (r:fI):List Int:=match r.cond with
 | some e=>(du false e).map (aaL p)
 | none=>[]
def acH (p:PgP):Nat->List Int
 | 0=>[]
 | i+1=>acH p i ++ p0 p (p.aaw.getD i ⟨0,[],none⟩)
theorem Bv {p:PgP} {i:Nat} (h:i < p.aaw.length):acH p (i+1)=acH p i ++ p0 p p.aaw[i]:=by
 rw[acH,List.getD_eq_getElem?_getD,List.getElem?_eq_getElem h];rfl
theorem Gg {p:PgP} {x:Int}:∀ {n:Nat},n<=p.aaw.length->(x∈acH p n↔∃ j,∃ h:j < p.aaw.length,j < n/\x∈p0 p p.aaw[j])
 | 0,_=>by simp[acH]
 | n+1,hn=>by
  rw[Bv (by omega),List.mem_append,Gg (by omega)];constructor
  .rintro (⟨j,h,hj,hx⟩ | hx)
   .exact⟨j,h,by omega,hx⟩
   .exact⟨n,by omega,by omega,hx⟩
  .rintro⟨j,h,hj,hx⟩;by_cases e:j=n
   .subst e;exact .inr hx
   .exact .inl ⟨j,h,by omega,hx⟩
def ac3 (s:Tx) (r:fI):Bool:=match r.cond with
 | some e=>decide (0<=idx (fun x=>x == s) (du false e))
 | none=>false
def ew (p:PgP):Nat->List Int
 | 0=>[]
 | i+1=>ew p i ++ if p.aaw.any (ac3 (p.names.getD i ⟨[],0,0⟩).name) then [(i:Int)] else []
theorem LB {p:PgP} {i:Nat} (h:i < p.names.length):ew p (i+1)=ew p i ++ if p.aaw.any (ac3 p.names[i].name) then [(i:Int)] else []:=by
 rw[ew,List.getD_eq_getElem?_getD,List.getElem?_eq_getElem h];rfl
theorem afo (p:PgP):∀ n,(ew p n).length<=n
 | 0=>Nat.le_refl _
 | n+1=>by rw[ew,List.length_append];have:=afo p n;split<;>simp<;>omega
theorem sU {p:PgP} {x:Int}:∀ {n:Nat},n<=p.names.length->(x∈ew p n↔∃ i,∃ h:i < p.names.length,i < n/\x=i/\p.aaw.any (ac3 p.names[i].name)=true)
 | 0,_=>by simp[ew]
 | n+1,hn=>by
  rw[LB (by omega),List.mem_append,sU (by omega)];constructor
  .rintro (⟨j,h,hj,hx⟩ | hx)
   .exact⟨j,h,by omega,hx⟩
   .split at hx
    .exact⟨n,by omega,by omega,by simpa using hx,‹_›⟩
    .cases hx
  .rintro⟨j,h,hj,hx,ha⟩;by_cases e:j=n
   .subst e;exact .inr (by rw[if_pos ha];simpa using hx)
   .exact .inl ⟨j,h,by omega,hx,ha⟩
theorem LA (p:PgP):∀ {n:Nat},n<=p.names.length->(ew p n).Pairwise (· < ·)
 | 0,_=>by simp[ew]
 | n+1,hn=>by
  rw[ew,List.pairwise_append];refine⟨LA p (by omega),by split<;>simp,fun a ha b hb=>?_⟩;obtain⟨i,_,hi,rfl,_⟩:=(sU (by omega)).1 ha;split at hb
  .rw[List.mem_singleton]at hb;omega
  .cases hb
theorem Ib (l:List Tx) (s:Tx):0<=idx (fun x=>x == s) l↔s∈l:=by
 have h:=Dh (fun x:Tx=>x == s) l
 have h2:(l.any fun x=>x == s)=true↔s∈l:=by
  rw[List.any_eq_true];constructor
  .rintro⟨x,hx,he⟩
   have:x=s:=by simpa using he
   exact this ▸ hx
  .exact fun hs=>⟨s,hs,by simp⟩
 rw[<- h2,<- h,decide_eq_true_eq]
theorem DZ {s:Tx}:∀ (n:Nat) (e:Ex),SizeOf.sizeOf e<=n->s∈ck false e->s∈ck true e
 | 0,e,hn,_=>by cases e<;>simp at hn
 | n+1,e,hn,h=>by
  have many:∀ l:List Ex,(∀ x∈l,SizeOf.sizeOf x<=n)->s∈abu false l->s∈abu true l:=by
   intro l
   induction l with
   | nil=>intro _ h;simp[abu]at h
   | cons x l ih=>
    intro hl h;rw[abu,List.mem_append]at h ⊢
    rcases h with h | h
    .exact .inl (DZ n x (hl x (by simp)) h)
    .exact .inr (ih (fun y hy=>hl y (by simp[hy])) h)
  have inside:∀ (l:List Ex),SizeOf.sizeOf l<=n->∀ x∈l,SizeOf.sizeOf x<=n:=fun l hl x hx=>by
   have:=List.sizeOf_lt_of_mem hx;omega
  cases e with
  | cst b=>simp[ck,nmE,eQ]at h
  | bit t=>simp[ck,nmE,eQ]at h
  | abP t=>exact h
  | fS t=>exact h
  | not e=>exact DZ n e (by simp at hn;omega) h
  | and l=>exact many l (inside l (by simp at hn;omega)) h
  | or l=>exact many l (inside l (by simp at hn;omega)) h
theorem Jk {s:Tx} {e:Ex} (h:s∈du false e):s∈du true e:=ae4.2 (DZ _ e (Nat.le_refl _) (ae4.1 h))
theorem ad8 {p:PgP} (h:cf p=none):∀ r∈p.aaw,(1<=r.kind/\r.kind<=6)/\¬ aaL p r.name < 0/\∃ e,r.cond=some e/\∀ s∈du true e,¬ aaL p s < 0:=fun r hr=>by
 unfold cf at h;split at h
 .cases h
 split at h
 .cases h
 split at h
 .cases h
 rename_i hB;obtain⟨k,hk,rfl⟩:=List.mem_iff_getElem.1 hr;have h0:=afc hB k hk;generalize p.aaw[k]=r at h0;obtain⟨kd,nm,cd⟩:=r
 cases cd with
 | none=>cases (show (1:Int)=0 from h0)
 | some e=>
  rw[A8]at h0;split at h0
  .cases h0
  rename_i h1;split at h0
  .cases h0
  rename_i h2;split at h0
  .cases h0
  split at h0
  .cases h0
  rename_i h4;refine⟨by simpa using h1,h2,e,rfl,fun s hs hn=>h4 ?_⟩;exact List.any_eq_true.2 ⟨s,hs,by simpa using hn⟩
theorem agb {p:PgP} (h:cf p=none):Lib.compact (kW (acH p p.aaw.length))=ew p p.names.length:=by
 have hg:=fB h;have hr:=ad8 h;refine afR (Xn _) (LA p (Nat.le_refl _)) fun x=>?_;rw[Xm,Gg (Nat.le_refl _),sU (Nat.le_refl _)];constructor
 .rintro⟨j,hj,_,hx⟩;obtain⟨_,_,e,he,aF⟩:=hr _ (List.getElem_mem hj);unfold p0 at hx;rw[he]at hx;obtain⟨s,hs,rfl⟩:=List.mem_map.1 hx;obtain⟨k,hk,hke,QM⟩:=po (aF s (Jk hs));have QJ:aaL p s=k:=hke
  have QN:p.names[k].name=s:=by simpa using QM
  refine⟨k,hk,hk,QJ,List.any_eq_true.2 ⟨_,List.getElem_mem hj,?_⟩⟩;unfold ac3;rw[he,QN];simpa using (Ib _ _).2 hs
 .rintro⟨i,hi,_,rfl,ha⟩;obtain⟨r,HP,hb⟩:=List.any_eq_true.1 ha;obtain⟨j,hj,rfl⟩:=List.mem_iff_getElem.1 HP;obtain⟨_,_,e,he,aF⟩:=hr _ HP;unfold ac3 at hb;rw[he]at hb;have hs:=(Ib _ _).1 (by simpa using hb);refine⟨j,hj,hj,?_⟩;unfold p0;rw[he];exact List.mem_map.2 ⟨_,hs,hg.num i hi⟩
structure StP where
 is:List Bool
 ct:List Int
def fP (p:PgP):StP:=⟨List.replicate p.names.length false,List.replicate p.names.length 0⟩
def eN (p:PgP) (l:List Bool) (s:Tx):Bool:=l.getD (aaL p s).toNat false
def nG (is bH:Tx->Bool):Option Ex->Bool
 | some e=>da is bH e
 | none=>false
def gP (s:StP) (i:Nat) (m:Int) (yes:Bool):StP:=
 let c:=if yes then (if s.ct.getD i 0+1 < m then s.ct.getD i 0+1 else m) else s.ct.getD i 0
 ⟨s.is.set i (decide (m<=c)),s.ct.set i c⟩
def oh (s:StP) (i:Nat):StP:=⟨s.is.set i false,s.ct.set i 0⟩
def je (p:PgP) (dJ t:StP) (r:fI):StP:=
 let i:=(aaL p r.name).toNat
 let yes:=nG (eN p t.is) (eN p dJ.is) r.cond
 let m:=(p.names.getD i ⟨[],0,0⟩).count
 if r.kind=1 then ⟨t.is.set i yes,t.ct⟩
 else if r.kind=2 then ⟨t.is.set i (t.is.getD i false || yes),t.ct⟩
 else if r.kind=3 then ⟨t.is.set i (t.is.getD i false && !yes),t.ct⟩
 else if r.kind=4 then (if yes then gP t i m yes else oh (gP t i m yes) i)
 else if r.kind=5 then gP t i m yes
 else if r.kind=6 then (if yes then oh t i else t)
 else t
def jV (at':List Int) (inn:List Bool) (is:List Bool):Nat->List Bool
 | 0=>is
 | k+1=>(jV at' inn is k).set (at'.getD k 0).toNat (inn.getD k false)
def aQ (p:PgP):List Int:=fN p.names 1 p.names.length
def jF (p:PgP) (s:StP) (inn:List Bool):StP:=p.aaw.foldl (je p s) ⟨jV (aQ p) inn s.is (aQ p).length,s.ct⟩
def Lb (p:PgP) (s:StP) (inn:List Bool):(Int×Option Nat) ⊕ StP:=match cf p with
 | some e=>.inl e
 | none=>if inn.length≠(aQ p).length\/s.is.length≠p.names.length\/s.ct.length≠p.names.length then .inl (2,none) else .inr (jF p s inn)
def dN (l:List Bool):D:=.sl none (l.map fun b=>[.v (.bool b)])
def eV (l:List Int):D:=.sl none (l.map fun n=>[.v (.int .i64 n)])
def j4 (s:StP):List D:=[dN s.is,eV s.ct]
def k7 (s:StP):D:=.agg (j4 s)
theorem fj {α:Type} {l:List α} {i:Nat} {d:α} (h:i < l.length):l.getD i d=l[i]:=by
 rw[List.getD_eq_getElem?_getD,List.getElem?_eq_getElem h];rfl
theorem D0 {p:PgP} {s:Tx} (h:¬ aaL p s < 0):(aaL p s).toNat < p.names.length/\aaL p s=((aaL p s).toNat:Int):=by
 obtain⟨k,hk,hke,_⟩:=po h;have e:aaL p s=(k:Int):=hke;rw[e];exact⟨by simpa using hk,by simp⟩
theorem ME (G:ao) (p:PgP) (hp:p.names.length < 2^62) (s:StP) (hl:s.is.length=p.names.length):l9 (fun nm=>¬ aaL p nm < 0) G 132 [.ip (j4 s),.ip (ey p)] (eN p s.is):=by
 intro nm hn;have bD:=su G p hp nm;obtain⟨h1,h2⟩:=D0 hn
 have hi:(aaL p nm).toNat < s.is.length:=by omega
 have oV:eN p s.is nm=s.is[(aaL p nm).toNat]:=by unfold eN;exact fj hi
 rw[oV];rw[h2]at bD;clear h1 h2 oV hn;simp only[dPg,ey,bK,dr,dS]at bD;simp only[j4,dN,eV,ey,bK,dr];generalize eZ:(aaL p nm).toNat=i at bD hi ⊢;clear eZ hl hp;generalize p.names.map aW=NN at bD ⊢;generalize p.aaw.map b7=RR at bD ⊢;generalize s.is=L at hi ⊢;generalize s.ct.map (fun n=>[D.v (.int .i64 n)])=CC;refine ar.aC (aay _) func132 rfl rfl (rs:=[.tmp 4]) results132 (by simp[ntmps132]) fun X=>?_;simp only[ntmps132,List.map];have fw:=@dS.eq_1;refine rgq fw [0,1,2] [] ?_;have qf:=(Aq fw @hi);refine uN bD [4] [] ?_;exact aG fw
theorem MF (G:ao) (p:PgP) (hp:p.names.length < 2^62) (s:StP) (hl:s.is.length=p.names.length):l9 (fun nm=>¬ aaL p nm < 0) G 133 [.ip (j4 s),.ip (ey p)] (eN p s.is):=by
 intro nm hn;have bD:=su G p hp nm;obtain⟨h1,h2⟩:=D0 hn
 have hi:(aaL p nm).toNat < s.is.length:=by omega
 have oV:eN p s.is nm=s.is[(aaL p nm).toNat]:=by unfold eN;exact fj hi
 rw[oV];rw[h2]at bD;clear h1 h2 oV hn;simp only[dPg,ey,bK,dr,dS]at bD;simp only[j4,dN,eV,ey,bK,dr];generalize eZ:(aaL p nm).toNat=i at bD hi ⊢;clear eZ hl hp;generalize p.names.map aW=NN at bD ⊢;generalize p.aaw.map b7=RR at bD ⊢;generalize s.is=L at hi ⊢;generalize s.ct.map (fun n=>[D.v (.int .i64 n)])=CC;refine ar.aC (aay _) func133 rfl rfl (rs:=[.tmp 4]) results133 (by simp[ntmps133]) fun X=>?_;simp only[ntmps133,List.map];have fw:=@dS.eq_1;refine rgq fw [0,1,2] [] ?_;have qf:=(Aq fw @hi);refine uN bD [4] [] ?_;exact aG fw
def xz (s:StP):List (Nat×Row):=[(7,.box 68 [.own 701 0 s.is.length,.own 702 0 s.ct.length]),(701,.sl 4 1 (s.is.map fun b=>[.v (.bool b)])),(702,.sl 3 1 (s.ct.map fun n=>[.v (.int .i64 n)]))]
theorem WX (G:ao) (s:StP) (i:Nat) (m:Int) (yes:Bool) (hi:i < s.is.length) (hc:i < s.ct.length) (hb:∀ x∈s.ct,0<=x/\x<=2^40):MC prog G [7] 134 [.ref 7 0 0,.d (ab i),.d (ab m),.d (.v (.bool yes))] (ak (xz s)) (.d (.tup [])) (ak (xz (gP s i m yes))):=by
 have fJ:s.ct.getD i 0=s.ct[i]:=fj hc;have k8:=hb s.ct[i] (List.getElem_mem hc)
 have Zc:(s.ct.map fun n=>[D.v (.int .i64 n)])[i]? = some [.v (.int .i64 s.ct[i])]:=by simp[hc]
 simp only[xz,gP,fJ]
 cases yes with
 | true=>
  simp only[if_true];refine MC.aC (aay _) func134 rfl rfl (rs:=[]) results134 (by simp[ntmps134]) rfl fun X=>?_;simp only[ntmps134];have fw:=@ab.eq_1;refine ae fun K1 au=>?_;refine rgq fw [0,1,2,8] [7,701,702] ?_;refine aax rfl ?_;refine adE (aay _) (by kernel_rfl) [(3,7),(9,7),(11,702),(12,702),(15,702),(16,702)] (by kernel_rfl) fun K' af=>?_;(repeat (refine gk fun K2 aa=>?_;simp[ab,hc];(repeat (refine⟨by omega,?_⟩));refine aa _ ?_;clear aa K2));refine ab8 (af _ ?_);clear af K';refine au _ (AW.norm [0,1,2] [7,701,702] (cK rfl) (AW.st (by simp[ab,hc];rfl) ?_));refine adE (aay _) (by kernel_rfl) [(3,7),(8,7),(10,702),(11,702),(14,701),(15,701)] (by kernel_rfl) fun K' af=>?_;(repeat (refine gk fun K2 aa=>?_;simp[ab,hc,hi];(repeat (refine⟨by omega,?_⟩));refine aa _ ?_;clear aa K2));refine ab8 (af _ ?_);clear af K';(try simp only[aM,aP]);simp[D.le,D.le.go,List.map_set]
 | false=>
  simp only[Bool.false_eq_true,if_false];refine MC.aC (aay _) func134 rfl rfl (rs:=[]) results134 (by simp[ntmps134]) rfl fun X=>?_;simp only[ntmps134];have fw:=@ab.eq_1;refine ae fun K1 au=>?_;refine rgq fw [0,1,2,8] [7,701,702] ?_;refine ag rfl ?_;refine ah (au _ ?_);refine adE (aay _) (by kernel_rfl) [(3,7),(8,7),(10,702),(11,702),(14,701),(15,701)] (by kernel_rfl) fun K' af=>?_;(repeat (refine gk fun K2 aa=>?_;simp[ab,hc,hi];(repeat (refine⟨by omega,?_⟩));refine aa _ ?_;clear aa K2));refine ab8 (af _ ?_);clear af K';(try simp only[aM,aP]);simp[D.le,D.le.go,List.map_set]
theorem Ng {p:PgP} (h:cf p=none):∀ r∈p.aaw,(p.names.getD (aaL p r.name).toNat ⟨[],0,0⟩).kind=gI r.kind:=fun r hr=>by
 unfold cf at h;split at h
 .cases h
 split at h
 .cases h
 split at h
 .cases h
 rename_i hB;obtain⟨k,hk,rfl⟩:=List.mem_iff_getElem.1 hr;have h0:=afc hB k hk;generalize p.aaw[k]=r at h0;obtain⟨kd,nm,cd⟩:=r
 cases cd with
 | none=>cases (show (1:Int)=0 from h0)
 | some e=>
  rw[A8]at h0;split at h0
  .cases h0
  split at h0
  .cases h0
  split at h0
  .cases h0
  rename_i h3;simp only[Bool.not_eq_true',decide_eq_false_iff_not,Classical.not_not]at h3;exact h3.symm
structure abr (p:PgP) (s:StP):Prop where
 l1:s.is.length=p.names.length
 l2:s.ct.length=p.names.length
 lo:∀ k,0<=s.ct.getD k 0
 hi:∀ k (hk:k < p.names.length),s.ct.getD k 0<=p.names[k].count
 at':∀ k (hk:k < p.names.length),3<=p.names[k].kind->s.is.getD k false=decide (s.ct.getD k 0=p.names[k].count)
theorem rj {α:Type} (n k:Nat) (x:α):(List.replicate n x).getD k x=x:=by
 rw[List.getD_eq_getElem?_getD,List.getElem?_replicate];split<;>rfl
theorem iM {α:Type} {l:List α} {i:Nat} {x d:α} (h:i < l.length):(l.set i x).getD i d=x:=by
 rw[List.getD_eq_getElem?_getD,List.getElem?_set_self h];rfl
theorem fT {α:Type} {l:List α} {i k:Nat} {x d:α} (h:i≠k):(l.set i x).getD k d=l.getD k d:=by
 rw[List.getD_eq_getElem?_getD,List.getElem?_set_ne h,List.getD_eq_getElem?_getD]
theorem Xt {p:PgP} (h:abT p):abr p (fP p):=by
 refine⟨by simp[fP],by simp[fP],fun k=>?_,fun k hk=>?_,fun k hk h3=>?_⟩
 .show 0<=(List.replicate _ (0:Int)).getD k 0;rw[rj];exact Int.le_refl _
 .show (List.replicate _ (0:Int)).getD k 0<=_;rw[rj]
  rcases h.count _ (List.getElem_mem hk)with h1 | h1<;>omega
 .show (List.replicate _ false).getD k false=decide ((List.replicate _ (0:Int)).getD k 0=_);rw[rj,rj]
  rcases h.count _ (List.getElem_mem hk)with h1 | h1
  .omega
  .exact (decide_eq_false (by omega)).symm
theorem ae6 {p:PgP} {t:StP} (ht:abr p t) {i:Nat} (hi:i < p.names.length) (hk:p.names[i].kind < 3) (b:Bool):abr p ⟨t.is.set i b,t.ct⟩:=by
 refine⟨by simp[ht.l1],ht.l2,ht.lo,ht.hi,fun k eA h3=>?_⟩
 have aO:i≠k:=fun e=>by subst e;omega
 show (t.is.set i b).getD k false=_;rw[fT aO];exact ht.at' k eA h3
theorem LK {p:PgP} (hg:abT p) {t:StP} (ht:abr p t) {i:Nat} (hi:i < p.names.length):abr p (oh t i):=by
 refine⟨by simp[oh,ht.l1],by simp[oh,ht.l2],fun k=>?_,fun k hk=>?_,fun k hk h3=>?_⟩
 .show 0<=(t.ct.set i 0).getD k 0;by_cases e:i=k
  .subst e;rw[iM (by rw[ht.l2];exact hi)];exact Int.le_refl _
  .rw[fT e];exact ht.lo k
 .show (t.ct.set i 0).getD k 0<=_;by_cases e:i=k
  .subst e;rw[iM (by rw[ht.l2];exact hi)]
   rcases hg.count _ (List.getElem_mem hk)with h1 | h1<;>omega
  .rw[fT e];exact ht.hi k hk
 .show (t.is.set i false).getD k false=decide ((t.ct.set i 0).getD k 0=_);by_cases e:i=k
  .subst e;rw[iM (by first | (rw[ht.l1];exact hi) | (rw[ht.l2];exact hi)),iM (by first | (rw[ht.l2];exact hi) | (rw[ht.l1];exact hi))]
   rcases hg.count _ (List.getElem_mem hk)with h1 | h1
   .omega
   .exact (decide_eq_false (by omega)).symm
  .rw[fT e,fT e];exact ht.at' k hk h3
theorem Ey {p:PgP} (hg:abT p) {t:StP} (ht:abr p t) {i:Nat} (hi:i < p.names.length) (yes:Bool):abr p (gP t i p.names[i].count yes):=by
 have h0:=ht.lo i;have h1:=ht.hi i hi;have hU:=hg.count _ (List.getElem_mem hi);obtain⟨c,PX,hc⟩:∃ c,c=(if yes then (if t.ct.getD i 0+1 < p.names[i].count then t.ct.getD i 0+1 else p.names[i].count) else t.ct.getD i 0)/\0<=c/\c<=p.names[i].count:=⟨_,rfl,by split<;>(try split)<;>omega,by split<;>(try split)<;>omega⟩
 have e:gP t i p.names[i].count yes=⟨t.is.set i (decide (p.names[i].count<=c)),t.ct.set i c⟩:=by
  rw[PX];rfl
 rw[e];refine⟨by simp[ht.l1],by simp[ht.l2],fun k=>?_,fun k hk=>?_,fun k hk h3=>?_⟩
 .show 0<=(t.ct.set i c).getD k 0;by_cases e:i=k
  .subst e;rw[iM (by rw[ht.l2];exact hi)];omega
  .rw[fT e];exact ht.lo k
 .show (t.ct.set i c).getD k 0<=_;by_cases e:i=k
  .subst e;rw[iM (by rw[ht.l2];exact hi)];omega
  .rw[fT e];exact ht.hi k hk
 .show (t.is.set i _).getD k false=decide ((t.ct.set i c).getD k 0=_);by_cases e:i=k
  .subst e;rw[iM (by first | (rw[ht.l1];exact hi) | (rw[ht.l2];exact hi)),iM (by first | (rw[ht.l2];exact hi) | (rw[ht.l1];exact hi))];congr 1;exact propext ⟨fun h=>by omega,fun h=>by omega⟩
  .rw[fT e,fT e];exact ht.at' k hk h3
theorem Ac {p:PgP} (hc:cf p=none) {r:fI} (hr:r∈p.aaw):∃ i,∃ hi:i < p.names.length,aaL p r.name=(i:Int)/\p.names[i].kind=gI r.kind/\p.names.getD i ⟨[],0,0⟩=p.names[i]:=by
 obtain⟨_,h2,_⟩:=ad8 hc r hr;obtain⟨h3,h4⟩:=D0 h2;have h5:=Ng hc r hr;have h6:p.names.getD (aaL p r.name).toNat ⟨[],0,0⟩=p.names[(aaL p r.name).toNat]:=fj h3;rw[h6]at h5;exact⟨_,h3,h4,h5,h6⟩
theorem KO {p:PgP} (hc:cf p=none) {r:fI} (hr:r∈p.aaw) (dJ:StP) {t:StP} (ht:abr p t):abr p (je p dJ t r)/\∀ k (hk:k < p.names.length),p.names[k].kind=1->(je p dJ t r).is.getD k false=t.is.getD k false:=by
 have hg:=fB hc;obtain⟨i,hi,hn,hw,hd⟩:=Ac hc hr;obtain⟨hk,_⟩:=ad8 hc r hr;unfold je;simp only[hn,Int.toNat_natCast,hd]
 have gM:p.names[i].kind≠1:=by rw[hw];unfold gI;split<;>(try split)<;>omega
 have off:∀ k (hk:k < p.names.length),p.names[k].kind=1->i≠k:=fun k hk h1 e=>by subst e;exact gM h1
 have CI:r.kind<=3->p.names[i].kind < 3:=fun h=>by rw[hw];unfold gI;rw[if_pos h];omega
 split
 .exact⟨ae6 ht hi (CI (by omega)) _,fun k hk h1=>fT (off k hk h1)⟩
 split
 .exact⟨ae6 ht hi (CI (by omega)) _,fun k hk h1=>fT (off k hk h1)⟩
 split
 .exact⟨ae6 ht hi (CI (by omega)) _,fun k hk h1=>fT (off k hk h1)⟩
 split
 .split
  .exact⟨Ey hg ht hi _,fun k hk h1=>fT (off k hk h1)⟩
  .refine⟨LK hg (Ey hg ht hi _) hi,fun k hk h1=>?_⟩;show ((gP t i _ _).is.set i false).getD k false=_;rw[fT (off k hk h1)];exact fT (off k hk h1)
 split
 .exact⟨Ey hg ht hi _,fun k hk h1=>fT (off k hk h1)⟩
 split
 .split
  .exact⟨LK hg ht hi,fun k hk h1=>fT (off k hk h1)⟩
  .exact⟨ht,fun k hk h1=>rfl⟩
 .exact⟨ht,fun k hk h1=>rfl⟩
theorem Ad {p:PgP} (hc:cf p=none) (dJ:StP):∀ (l:List fI) {t:StP},(∀ r∈l,r∈p.aaw)->abr p t->abr p (l.foldl (je p dJ) t)/\∀ k (hk:k < p.names.length),p.names[k].kind=1->(l.foldl (je p dJ) t).is.getD k false=t.is.getD k false
 | [],t,_,ht=>⟨ht,fun k hk h1=>rfl⟩
 | r :: l,t,hl,ht=>by
  obtain⟨h1,h2⟩:=KO hc (hl r (by simp)) dJ ht;obtain⟨h3,h4⟩:=Ad hc dJ l (fun r hr=>hl r (by simp[hr])) h1;exact⟨h3,fun k hk bg=>(h4 k hk bg).trans (h2 k hk bg)⟩
theorem Dr {l:List eM} {k:Int} {x:Int}:∀ {n:Nat},n<=l.length->(x∈fN l k n↔∃ i,∃ hi:i < l.length,i < n/\x=(i:Int)/\l[i].kind=k)
 | 0,_=>by simp[fN]
 | n+1,hn=>by
  rw[zn (by omega),List.mem_append,Dr (by omega)];constructor
  .rintro (⟨i,hi,h1,h2,h3⟩ | h)
   .exact⟨i,hi,by omega,h2,h3⟩
   .split at h
    .rename_i hk;exact⟨n,by omega,by omega,by simpa using h,hk⟩
    .cases h
  .rintro⟨i,hi,h1,h2,h3⟩;by_cases e:i=n
   .subst e;right;rw[if_pos h3];simp[h2]
   .exact .inl ⟨i,hi,by omega,h2,h3⟩
theorem IC {l:List eM} {k:Int}:∀ {n:Nat},n<=l.length->(fN l k n).Nodup
 | 0,_=>by simp[fN]
 | n+1,hn=>by
  rw[zn (by omega),List.nodup_append];refine⟨IC (by omega),by split<;>simp,fun a ha b hb e=>?_⟩;subst e;obtain⟨i,hi,h1,h2,_⟩:=(Dr (by omega)).1 ha;split at hb
  .have:a=(n:Int):=by simpa using hb
   omega
  .cases hb
theorem ug {p:PgP} {j:Nat} (hj:j < (aQ p).length):∃ i,∃ hi:i < p.names.length,(aQ p)[j]=(i:Int)/\p.names[i].kind=1:=by
 obtain⟨i,hi,_,h2,h3⟩:=(Dr (Nat.le_refl _)).1 (List.getElem_mem hj);exact⟨i,hi,h2,h3⟩
theorem Ek {at':List Int} {inn is:List Bool} {k i:Nat} (h:k < at'.length) (hi:at'[k]=(i:Int)):jV at' inn is (k+1)=(jV at' inn is k).set i (inn.getD k false):=by
 rw[jV,fj h,hi];rfl
theorem sH {p:PgP} (inn:List Bool) {s:StP} (hs:abr p s):∀ k,k<=(aQ p).length->abr p ⟨jV (aQ p) inn s.is k,s.ct⟩/\∀ j (hj:j < k) (hj2:j < (aQ p).length),(jV (aQ p) inn s.is k).getD (aQ p)[j].toNat false=inn.getD j false
 | 0,_=>⟨hs,fun j hj=>absurd hj (by omega)⟩
 | k+1,hk=>by
  obtain⟨h1,h2⟩:=sH inn hs k (by omega);obtain⟨i,hi,he,h3⟩:=ug (p:=p) (j:=k) (by omega);rw[Ek (by omega) he];refine⟨ae6 h1 hi (by omega) _,fun j hj hj2=>?_⟩;by_cases e:j=k
  .subst e;rw[he,Int.toNat_natCast,iM (by rw[h1.l1];exact hi)]
  .have aO:i≠(aQ p)[j].toNat:=fun e2=>by
    obtain⟨i2,hi2,he2,_⟩:=ug (p:=p) hj2;rw[he2,Int.toNat_natCast]at e2
    have:(aQ p)[j]=(aQ p)[k]:=by rw[he,he2,e2]
    exact e ((List.getElem_inj (IC (Nat.le_refl _))).1 this)
   rw[fT aO];exact h2 j (by omega) hj2
theorem Bt {p:PgP} (hc:cf p=none) {s:StP} (hs:abr p s) (inn:List Bool):abr p (jF p s inn)/\∀ j (hj:j < (aQ p).length),(jF p s inn).is.getD (aQ p)[j].toNat false=inn.getD j false:=by
 obtain⟨h1,h2⟩:=sH inn hs (aQ p).length (Nat.le_refl _);obtain⟨h3,h4⟩:=Ad hc s p.aaw (fun r hr=>hr) h1;refine⟨h3,fun j hj=>?_⟩;obtain⟨i,hi,he,hk⟩:=ug hj;have:=h2 j hj hj;rw[he,Int.toNat_natCast]at this ⊢;exact (h4 i hi hk).trans this
theorem agy {p:PgP} (hc:cf p=none) {s:StP} (hs:abr p s):∀ x∈s.ct,0<=x/\x<=2^20:=fun x hx=>by
 obtain⟨k,hk,rfl⟩:=List.mem_iff_getElem.1 hx
 have hk2:k < p.names.length:=by rw[<- hs.l2];exact hk
 have h1:=hs.lo k;have h2:=hs.hi k hk2;rw[fj hk]at h1 h2
 rcases (fB hc).count _ (List.getElem_mem hk2)with h3 | h3<;>omega
