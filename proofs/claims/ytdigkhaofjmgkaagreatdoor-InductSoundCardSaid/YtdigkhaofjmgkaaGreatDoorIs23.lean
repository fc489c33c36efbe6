/- Parts. -/
import Derived.Test.YtdigkhaofjmgkaaGreatDoorIs22
import Derived.Ground.Names2Prog
import Derived.Shelf.Slices.CompactI
set_option linter.unusedSimpArgs false
set_option linter.unusedVariables false
set_option maxHeartbeats 4000000
open Go.Proofs.Tryz
namespace Go.Proofs
open Go.Shelf
def Tryz.Hw:Go.Shelf.Ren:=⟨fun | 20=>129 | n=>n,fun | 22=>46 | 3=>3 | 4=>4 | 0=>0 | n=>n,fun | n=>n⟩
theorem Tryz.SW:Go.Proofs.Lays2.n20 prog Tryz.Hw:={
 mixed:=by kernel_rfl
 f20:=func129.trans (congrArg some (by kernel_rfl))
 t0:=underlying0
 a0:=isAgg0
 z0:=sizeOf0
 v0:=zeroValue0
 t3:=underlying3
 a3:=isAgg3
 z3:=sizeOf3
 v3:=zeroValue3
 t4:=underlying4
 a4:=isAgg4
 z4:=sizeOf4
 v4:=zeroValue4
 t22:=underlying46
 a22:=isAgg46
 z22:=sizeOf46
 v22:=zeroValue46
 i3:=by kernel_rfl }
end Go.Proofs
namespace Go.Proofs.YtdigkhaofjmgkaaGreatDoor
open Go.Av Go.Sort
open Go.Shelf
section
variable {w:World} {X:Nat->Prop} {μ:Mu} {r:Nat}
theorem CK {ty:TypeId} {ss:List Int} {m:fg} {b:Nat} (hm:μ r=some m) (hs:Zf w X μ (YH [(r,.sl ty 1 (ss.map fun s=>[D.v (.int .i64 s)]))])) (hb:m.cZ=some b) :
  m.sz=1/\∃ cur,w.heap[b]? = some (.cells cur ty (0,0))/\cur.size=m.cap/\ss.length<=m.cap/\m.cap<=maxLen/\∀ i (hi:i < ss.length),cur[i]? = some ((Value.int .i64) ss[i]):=by
 obtain⟨m',bx,ok⟩:=hs.rows r _ (oH r _);rw[hm]at bx;obtain rfl:=Option.some.inj bx;generalize Y5:Row.sl ty 1 (ss.map fun s=>[D.v (.int .i64 s)])=row at ok
 cases ok with
 | nil aH _=>rw[hb]at aH;cases aH
 | box _ _ _ _ _=>cases Y5
 | mp _ _ _ _=>cases Y5
 | it _ _ _=>cases Y5
 | sl aH aK hh bR hn dG hl hz hr=>
  simp only[Row.sl.injEq]at Y5;obtain⟨rfl,rfl,rfl⟩:=Y5;rw[hb]at aH;obtain rfl:=Option.some.inj aH;refine⟨aK,_,hh,by simpa using bR,by simpa using hn,dG,fun i hi=>?_⟩;obtain⟨u,hu,tT⟩:=hr i 0 [D.v (.int .i64 ss[i])] (D.v (.int .i64 ss[i])) (by simp[hi]) rfl;have:=tT.scalar;subst this;simpa using hu
theorem I9 {ty:TypeId} {ss zs:List Int} {m:fg} {b n:Nat} {os:Array Obj} (hm:μ r=some m) (hs:Zf w X μ (YH [(r,.sl ty 1 (ss.map fun s=>[D.v (.int .i64 s)]))])) (hb:m.cZ=some b) (hz:zs.length=ss.length) :
  Zf (grow (putRow (Value.int .i64) (Sort.ahead w n) b 0 zs.toArray) os) X μ (YH [(r,.sl ty 1 (zs.map fun s=>[D.v (.int .i64 s)]))])/\Ev (eS [r]) w μ (grow (putRow (Value.int .i64) (Sort.ahead w n) b 0 zs.toArray) os) μ:=by
 obtain⟨aK,cur,hh,bR,hn,dG,pY⟩:=CK hm hs hb;have ZO:b < w.heap.size:=hs.aal ⟨r,m,hm,hb⟩
 have hsize:(putRow (Value.int .i64) (Sort.ahead w n) b 0 zs.toArray).heap.size=w.heap.size:=by simp[putRow,mapBlock,Sort.ahead]
 have hold:∀ k,k < w.heap.size->k≠b->(grow (putRow (Value.int .i64) (Sort.ahead w n) b 0 zs.toArray) os).heap[k]? = w.heap[k]?:=fun k hk aG=>by
  unfold grow;dsimp only;rw[Array.getElem?_append_left (by rw[hsize];exact hk)];unfold putRow mapBlock Sort.ahead;dsimp only;rw[Array.getElem?_modify,if_neg (Ne.symm aG)]
 have iJ:(grow (putRow (Value.int .i64) (Sort.ahead w n) b 0 zs.toArray) os).heap[b]? = some (.cells (putCells (Value.int .i64) 0 zs.toArray cur) ty (0,0)):=by
  unfold grow;dsimp only;rw[Array.getElem?_append_left (by rw[hsize];exact ZO)];unfold putRow mapBlock Sort.ahead;dsimp only;rw[Array.getElem?_modify,if_pos rfl,hh];rfl
 have tp:w.heap.size<=(grow (putRow (Value.int .i64) (Sort.ahead w n) b 0 zs.toArray) os).heap.size:=by
  unfold grow;simp[hsize]
 have ev:Ev (eS [r]) w μ (grow (putRow (Value.int .i64) (Sort.ahead w n) b 0 zs.toArray) os) μ:=⟨tp,rfl,rfl,rfl,fun k hk hr=>⟨hold k hk fun e=>hr ⟨r,m,hm,e ▸ hb⟩,hr⟩,fun _ _ h _=>h⟩;refine⟨⟨fun q row hq=>?_,fun q mq hq=>?_,hs.inj,hs.frame,fun k hk=>Nat.lt_of_lt_of_le (hs.fits k hk) tp⟩,ev⟩
 .by_cases e:q=r
  .subst e;rw[oH]at hq;obtain rfl:=Option.some.inj hq;refine⟨m,hm,.sl hb aK iJ (by simpa[putCells]using bR) (by simpa[hz]using hn) dG (fun el aN=>?_) (by omega) fun i j el c hi hj=>?_⟩
   .obtain⟨x,_,rfl⟩:=List.mem_map.1 aN;rfl
   .rw[List.getElem?_map]at hi;obtain⟨x,hx,rfl⟩:=Option.map_eq_some_iff.1 hi;have eI:i < zs.length:=(List.getElem?_eq_some_iff.1 hx).1
    have iG:j=0:=by have:=(List.getElem?_eq_some_iff.1 hj).1;simpa using this
    subst iG
    obtain rfl:D.v (.int .i64 x)=c:=by simpa using hj
    have bQ:i < cur.size:=by omega
    refine⟨(Value.int .i64) x,?_,.v _⟩;simp only[Nat.mul_one,Nat.add_zero,putCells,Array.getElem?_mapIdx,Array.getElem?_eq_getElem bQ,Option.map_some];rw[if_pos (by simp;omega)];congr 2;simp only[Nat.sub_zero];rw[getElem!_pos zs.toArray i (by simpa using eI)];simpa using (List.getElem?_eq_some_iff.1 hx).2
  .rw[wZ _ e]at hq;cases hq
 .obtain⟨row,Y5⟩:=hs.gw q mq hq;by_cases e:q=r
  .exact⟨_,by rw[e];exact oH r _⟩
  .rw[wZ _ e]at Y5;cases Y5
theorem I7 {ty:TypeId} {ss:List Int} {m:fg} {b:Nat} (hm:μ r=some m) (hs:Zf w X μ (YH [(r,.sl ty 1 (ss.map fun s=>[D.v (.int .i64 s)]))])) (hb:m.cZ=some b):Holds (Value.int .i64) w b 0 ss.toArray:=by
 obtain⟨aK,cur,hh,bR,hn,dG,pY⟩:=CK hm hs hb;intro j hj
 have eb:j < ss.length:=by simpa using hj
 constructor
 .unfold World.cell?;simp only[hh,Nat.zero_add];rw[getElem!_pos ss.toArray j hj,pY j eb];simp
 .unfold World.frozen?;simp only[hh];simp
theorem I8 {ty:TypeId} {ss:List Int} {m:fg} (hm:μ r=some m) (hs:Zf w X μ (YH [(r,.sl ty 1 (ss.map fun s=>[D.v (.int .i64 s)]))])) (hb:m.cZ=none):ss=[]:=by
 obtain⟨m',bx,ok⟩:=hs.rows r _ (oH r _);rw[hm]at bx;obtain rfl:=Option.some.inj bx;generalize Y5:Row.sl ty 1 (ss.map fun s=>[D.v (.int .i64 s)])=row at ok
 cases ok with
 | nil _ _=>simp only[Row.sl.injEq]at Y5;simpa using Y5.2.2
 | box aH _ _ _ _=>rw[hb]at aH;cases aH
 | mp aH _ _ _=>rw[hb]at aH;cases aH
 | it aH _ _=>rw[hb]at aH;cases aH
 | sl aH _ _ _ _ _ _ _ _=>rw[hb]at aH;cases aH
end
def jr (ss:List Int):List Int:=ss.mergeSort fun x y=>decide (x<=y)
theorem uY (ss:List Int):(jr ss).length=ss.length:=by simp[jr]
theorem VP (G:YI) (r:Nat) (ty:TypeId) (ss:List Int) (hl:ss.length < 2^60):MC prog G [r] 128 [.own r 0 ss.length] (YH [(r,.sl ty 1 (ss.map fun s=>[D.v (.int .i64 s)]))]) (.d (.aT [])) (YH [(r,.sl ty 1 ((jr ss).map fun s=>[D.v (.int .i64 s)]))]):=by
 refine⟨fo.of func128 rfl rfl,fun X w μ vs hs Y7 aK hv=>?_⟩
 obtain⟨v,rfl⟩:∃ v,vs = #[v]:=by
  match vs,aK with
  | ⟨[v]⟩,_=>exact⟨v,rfl⟩
 obtain⟨m,hm,hc⟩:=(hv 0 v _ rfl rfl).Z3;have hL:Lays.n189 prog Tryz.Hs:={ Tryz.SR with };by_cases h0:ss=[]
 .subst h0
  have e:∃ p cap,v = .slice p 0 cap:=by
   rcases hc with⟨_,rfl,_⟩ | ⟨b,_,rfl,_⟩
   .exact⟨_,_,rfl⟩
   .exact⟨_,_,rfl⟩
  obtain⟨p,cap,rfl⟩:=e;have e1:jr []=[]:=List.eq_nil_of_length_eq_zero (by rw[uY];rfl);rw[e1];refine (Any.slices_Sort_int_none hL p cap w).mono fun e w' ⟨he,hw⟩=>?_;subst hw;exact⟨_,_,_,μ,he,⟨rfl,rfl⟩,.d (.aT rfl fun j u c hu hc=>by simp at hu),hs,.refl _ _ _⟩
 .rcases hc with⟨hb,rfl,_,hn⟩ | ⟨b,hb,rfl,hn⟩
  .exact absurd (I8 hm hs hb) h0
  .have hH:=I7 hm hs hb;have ZO:b < w.heap.size:=hs.aal ⟨r,m,hm,hb⟩;rw[Nat.zero_mul];refine (Any.slices_Sort_int hL b 0 (m.cap - 0) ss w hH ZO (by omega)).mono fun e w' ⟨he,n,os,hw⟩=>?_;subst hw;obtain⟨h1,h2⟩:=I9 (n:=n) (os:=os) hm hs hb (uY ss);exact⟨_,_,_,μ,he,⟨rfl,rfl⟩,.d (.aT rfl fun j u c hu hc=>by simp at hu),h1,h2⟩
theorem LZ (G:YI) (r:Nat) (ty:TypeId) (ss:List Int) (hl:ss.length < 2^60):MC prog G [r] 129 [.own r 0 ss.length] (YH [(r,.sl ty 1 (ss.map fun s=>[D.v (.int .i64 s)]))]) (.own r 0 (Lib.compact ss).length) (YH [(r,.sl ty 1 ((Lib.compact ss ++ List.replicate (ss.length - (Lib.compact ss).length) 0).map fun s=>[D.v (.int .i64 s)]))]):=by
 refine⟨fo.of func129 rfl rfl,fun X w μ vs hs Y7 aK hv=>?_⟩
 obtain⟨v,rfl⟩:∃ v,vs = #[v]:=by
  match vs,aK with
  | ⟨[v]⟩,_=>exact⟨v,rfl⟩
 have ji:=hv 0 v _ rfl rfl;obtain⟨m,hm,hc⟩:=ji.Z3;have hle:=Lib.compact_length_le ss;have hL:Lays2.n20 prog Tryz.Hw:={ Tryz.SW with };by_cases h0:ss=[]
 .subst h0;have e0:(Lib.compact ([]:List Int))=[]:=List.eq_nil_of_length_eq_zero (by simpa using hle);rw[e0]
  have e:∃ p cap,v = .slice p 0 cap:=by
   rcases hc with⟨_,rfl,_⟩ | ⟨b,_,rfl,_⟩
   .exact⟨_,_,rfl⟩
   .exact⟨_,_,rfl⟩
  obtain⟨p,cap,rfl⟩:=e;refine (Any.slices_Compact_int_empty hL p cap w).mono fun e w' ⟨he,hw⟩=>?_;subst hw;exact⟨_,_,_,μ,he,⟨rfl,rfl⟩,ji,hs,.refl _ _ _⟩
 .rcases hc with⟨hb,rfl,_,hn⟩ | ⟨b,hb,rfl,hn⟩
  .exact absurd (I8 hm hs hb) h0
  .have hH:=I7 hm hs hb;obtain⟨Br,cur,hh,bR,ZZ,dG,pY⟩:=CK hm hs hb;rw[Nat.zero_mul];refine (Any.slices_Compact_int hL b 0 (m.cap - 0) ss w hH (by omega) (by omega)).mono fun e w' ⟨he,n,hw⟩=>?_
   have hz:(Lib.compact ss ++ List.replicate (ss.length - (Lib.compact ss).length) 0).length=ss.length:=by simp;omega
   obtain⟨h1,h2⟩:=I9 (n:=n) (os:=#[]) hm hs hb hz;rw[grow_empty]at h1 h2;subst hw;refine⟨_,_,_,μ,he,⟨rfl,rfl⟩,.own hm (.inr ⟨b,hb,by simp,by omega⟩),h1,h2⟩
end Go.Proofs.YtdigkhaofjmgkaaGreatDoor
namespace Go.Proofs.YtdigkhaofjmgkaaGreatDoor
open Go.Av
theorem adP:∀ {a b:List Int},a.Pairwise (· < ·)->b.Pairwise (· < ·)->(∀ x,x∈a↔x∈b)->a=b
 | [],[],_,_,_=>rfl
 | [],y :: b,_,_,h=>absurd ((h y).2 (by simp)) (by simp)
 | x :: a,[],_,_,h=>absurd ((h x).1 (by simp)) (by simp)
 | x :: a,y :: b,ha,hb,h=>by
  obtain⟨wz,Af⟩:=List.pairwise_cons.1 ha;obtain⟨Zp,c6⟩:=List.pairwise_cons.1 hb
  have BD:x=y:=by
   rcases List.mem_cons.1 ((h x).1 (by simp))with e | hx
   .exact e
   .rcases List.mem_cons.1 ((h y).2 (by simp))with e | hy
    .exact e.symm
    .have:=Zp x hx;have:=wz y hy;omega
  subst BD;rw[adP Af c6 fun z=>?_];constructor
  .intro hz
   rcases List.mem_cons.1 ((h z).1 (by simp[hz]))with e | e
   .subst e;have:=wz z hz;omega
   .exact e
  .intro hz
   rcases List.mem_cons.1 ((h z).2 (by simp[hz]))with e | e
   .subst e;have:=Zp z hz;omega
   .exact e
theorem B7 (d:Array Int):∀ (m:Nat),m<=d.size->∀ j,j < m->d[j]!∈Lib.compactUpTo d m
 | 0,_,j,h=>by omega
 | m+1,hm,j,hj=>by
  rw[Lib.compactUpTo_succ];by_cases wU:j < m
  .exact List.mem_append_left _ (B7 d m (by omega) j wU)
  .obtain rfl:j=m:=by omega
   by_cases hk:Lib.keeps d j=true
   .exact List.mem_append_right _ (by simp[hk])
   .have iG:j≠0:=by rintro rfl;exact hk (Lib.keeps_lt_one d 0 (by omega))
    have he:d[j]! = d[j - 1]!:=by
     unfold Lib.keeps at hk;simp[iG]at hk
     first | exact hk | exact hk.symm
    rw[he];exact List.mem_append_left _ (B7 d j (by omega) (j - 1) (by omega))
theorem Df (d:Array Int):∀ (m:Nat),m<=d.size->∀ x∈Lib.compactUpTo d m,∃ j,j < m/\x=d[j]!
 | 0,_,x,h=>by simp[Lib.compactUpTo]at h
 | m+1,hm,x,h=>by
  rw[Lib.compactUpTo_succ]at h
  rcases List.mem_append.1 h with h | h
  .obtain⟨j,hj,e⟩:=Df d m (by omega) x h;exact⟨j,by omega,e⟩
  .split at h
   .simp at h;exact⟨m,by omega,h⟩
   .simp at h
theorem JU (d:Array Int) (hs:∀ i j,i<=j->j < d.size->d[i]!<=d[j]!):∀ (m:Nat),m<=d.size->(Lib.compactUpTo d m).Pairwise (· < ·)
 | 0,_=>by simp[Lib.compactUpTo]
 | m+1,hm=>by
  have ih:=JU d hs m (by omega);rw[Lib.compactUpTo_succ];by_cases hk:Lib.keeps d m=true
  .rw[if_pos hk,List.pairwise_append];refine⟨ih,by simp,fun a ha b hb=>?_⟩;rw[List.mem_singleton]at hb;subst hb;obtain⟨j,hj,rfl⟩:=Df d m (by omega) a ha
   have aG:d[m]!≠d[m - 1]!:=by
    intro he;rw[Lib.keeps_neg (by omega) he]at hk;cases hk
   have h1:=hs j (m - 1) (by omega) (by omega);have h2:=hs (m - 1) m (by omega) (by omega);omega
  .rw[if_neg hk,List.append_nil];exact ih
theorem VS (l:List Int):(Lib.compact (jr l)).Pairwise (· < ·):=by
 unfold Lib.compact;refine JU _ (fun i j hij hj=>?_) _ (by simp)
 have hp:(jr l).Pairwise (·<=·):=by
  unfold jr;have:=List.pairwise_mergeSort (le:=fun x y:Int=>decide (x<=y)) (by intro a b c h1 h2;simp only[decide_eq_true_eq]at *;omega) (by intro a b;simp only[Bool.or_eq_true,decide_eq_true_eq];omega) l
  exact this.imp fun h=>by simpa using h
 generalize jr l=l at hp hj ⊢
 have eb:j < l.length:=by simpa using hj
 rw[getElem!_pos l.toArray i (by simpa using (by omega:i < l.length)),getElem!_pos l.toArray j (by simpa using eb)];simp only[List.getElem_toArray];by_cases he:i=j
 .subst he;omega
 .exact (List.pairwise_iff_getElem.1 hp) i j (by omega) eb (by omega)
theorem VR {l:List Int} {x:Int}:x∈Lib.compact (jr l)↔x∈l:=by
 have h0:∀ l:List Int,x∈Lib.compact l↔x∈l:=by
  intro l;unfold Lib.compact;constructor
  .intro h;obtain⟨j,hj,rfl⟩:=Df l.toArray l.length (by simp) x h;rw[getElem!_pos l.toArray j (by simpa using hj)];simp
  .intro h;obtain⟨j,hj,rfl⟩:=List.mem_iff_getElem.1 h;have:=B7 l.toArray l.length (by simp) j hj;rw[getElem!_pos l.toArray j (by simpa using hj)]at this;simpa using this
 rw[h0];unfold jr;exact List.mem_mergeSort
def abM (p:YM) (r:fh):List Int:=match r.cond with
 | some e=>(Zw false e).map (YW p)
 | none=>[]
def gx (p:YM):Nat->List Int
 | 0=>[]
 | i+1=>gx p i ++ abM p (p.ar.getD i ⟨0,[],none⟩)
theorem zt {p:YM} {i:Nat} (h:i < p.ar.length):gx p (i+1)=gx p i ++ abM p p.ar[i]:=by
 rw[gx,List.getD_eq_getElem?_getD,List.getElem?_eq_getElem h];rfl
theorem Eu {p:YM} {x:Int}:∀ {n:Nat},n<=p.ar.length->(x∈gx p n↔∃ j,∃ h:j < p.ar.length,j < n/\x∈abM p p.ar[j])
 | 0,_=>by simp[gx]
 | n+1,hn=>by
  rw[zt (by omega),List.mem_append,Eu (by omega)];constructor
  .rintro (⟨j,h,hj,hx⟩ | hx)
   .exact⟨j,h,by omega,hx⟩
   .exact⟨n,by omega,by omega,hx⟩
  .rintro⟨j,h,hj,hx⟩;by_cases e:j=n
   .subst e;exact .inr hx
   .exact .inl ⟨j,h,by omega,hx⟩
def ab8 (s:Tx) (r:fh):Bool:=match r.cond with
 | some e=>decide (0<=idx (fun x=>x == s) (Zw false e))
 | none=>false
def ZK (p:YM):Nat->List Int
 | 0=>[]
 | i+1=>ZK p i ++ if p.ar.any (ab8 (p.names.getD i ⟨[],0,0⟩).name) then [(i:Int)] else []
theorem aeH {p:YM} {i:Nat} (h:i < p.names.length):ZK p (i+1)=ZK p i ++ if p.ar.any (ab8 p.names[i].name) then [(i:Int)] else []:=by
 rw[ZK,List.getD_eq_getElem?_getD,List.getElem?_eq_getElem h];rfl
theorem Dh (p:YM):∀ n,(ZK p n).length<=n
 | 0=>Nat.le_refl _
 | n+1=>by rw[ZK,List.length_append];have:=Dh p n;split<;>simp<;>omega
theorem qM {p:YM} {x:Int}:∀ {n:Nat},n<=p.names.length->(x∈ZK p n↔∃ i,∃ h:i < p.names.length,i < n/\x=i/\p.ar.any (ab8 p.names[i].name)=true)
 | 0,_=>by simp[ZK]
 | n+1,hn=>by
  rw[aeH (by omega),List.mem_append,qM (by omega)];constructor
  .rintro (⟨j,h,hj,hx⟩ | hx)
   .exact⟨j,h,by omega,hx⟩
   .split at hx
    .exact⟨n,by omega,by omega,by simpa using hx,‹_›⟩
    .cases hx
  .rintro⟨j,h,hj,hx,ha⟩;by_cases e:j=n
   .subst e;exact .inr (by rw[if_pos ha];simpa using hx)
   .exact .inl ⟨j,h,by omega,hx,ha⟩
theorem J0 (p:YM):∀ {n:Nat},n<=p.names.length->(ZK p n).Pairwise (· < ·)
 | 0,_=>by simp[ZK]
 | n+1,hn=>by
  rw[ZK,List.pairwise_append];refine⟨J0 p (by omega),by split<;>simp,fun a ha b hb=>?_⟩;obtain⟨i,_,hi,rfl,_⟩:=(qM (by omega)).1 ha;split at hb
  .rw[List.mem_singleton]at hb;omega
  .cases hb
theorem G2 (l:List Tx) (s:Tx):0<=idx (fun x=>x == s) l↔s∈l:=by
 have h:=ui (fun x:Tx=>x == s) l
 have h2:(l.any fun x=>x == s)=true↔s∈l:=by
  rw[List.any_eq_true];constructor
  .rintro⟨x,hx,he⟩
   have:x=s:=by simpa using he
   exact this ▸ hx
  .exact fun hs=>⟨s,hs,by simp⟩
 rw[<- h2,<- h,decide_eq_true_eq]
theorem Co {s:Tx}:∀ (n:Nat) (e:Ex),SizeOf.sizeOf e<=n->s∈Y6 false e->s∈Y6 true e
 | 0,e,hn,_=>by cases e<;>simp at hn
 | n+1,e,hn,h=>by
  have many:∀ l:List Ex,(∀ x∈l,SizeOf.sizeOf x<=n)->s∈eg false l->s∈eg true l:=by
   intro l
   induction l with
   | nil=>intro _ h;simp[eg]at h
   | cons x l ih=>
    intro hl h;rw[eg,List.mem_append]at h ⊢
    rcases h with h | h
    .exact .inl (Co n x (hl x (by simp)) h)
    .exact .inr (ih (fun y hy=>hl y (by simp[hy])) h)
  have inside:∀ (l:List Ex),SizeOf.sizeOf l<=n->∀ x∈l,SizeOf.sizeOf x<=n:=fun l hl x hx=>by
   have:=List.sizeOf_lt_of_mem hx;omega
  cases e with
  | dT b=>simp[Y6,cG,gI]at h
  | bit t=>simp[Y6,cG,gI]at h
  | fW t=>exact h
  | fO t=>exact h
  | not e=>exact Co n e (by simp at hn;omega) h
  | and l=>exact many l (inside l (by simp at hn;omega)) h
  | or l=>exact many l (inside l (by simp at hn;omega)) h
theorem Cg {s:Tx} {e:Ex} (h:s∈Zw false e):s∈Zw true e:=qq.2 (Co _ e (Nat.le_refl _) (qq.1 h))
theorem ab3 {p:YM} (h:Y3 p=none):∀ r∈p.ar,(1<=r.kind/\r.kind<=6)/\¬ YW p r.name < 0/\∃ e,r.cond=some e/\∀ s∈Zw true e,¬ YW p s < 0:=fun r hr=>by
 unfold Y3 at h;split at h
 .cases h
 split at h
 .cases h
 split at h
 .cases h
 rename_i hB;obtain⟨k,hk,rfl⟩:=List.mem_iff_getElem.1 hr;have h0:=v8 hB k hk;generalize p.ar[k]=r at h0;obtain⟨kd,nm,cd⟩:=r
 cases cd with
 | none=>cases (show (1:Int)=0 from h0)
 | some e=>
  rw[DY]at h0;split at h0
  .cases h0
  rename_i h1;split at h0
  .cases h0
  rename_i h2;split at h0
  .cases h0
  split at h0
  .cases h0
  rename_i h4;refine⟨by simpa using h1,h2,e,rfl,fun s hs hn=>h4 ?_⟩;exact List.any_eq_true.2 ⟨s,hs,by simpa using hn⟩
theorem adw {p:YM} (h:Y3 p=none):Lib.compact (jr (gx p p.ar.length))=ZK p p.names.length:=by
 have hg:=ZU h;have hr:=ab3 h;refine adP (VS _) (J0 p (Nat.le_refl _)) fun x=>?_;rw[VR,Eu (Nat.le_refl _),qM (Nat.le_refl _)];constructor
 .rintro⟨j,hj,_,hx⟩;obtain⟨_,_,e,he,ax⟩:=hr _ (List.getElem_mem hj);unfold abM at hx;rw[he]at hx;obtain⟨s,hs,rfl⟩:=List.mem_map.1 hx;obtain⟨k,hk,lN,AQ⟩:=oX (ax s (Cg hs));have Ps:YW p s=k:=lN
  have AR:p.names[k].name=s:=by simpa using AQ
  refine⟨k,hk,hk,Ps,List.any_eq_true.2 ⟨_,List.getElem_mem hj,?_⟩⟩;unfold ab8;rw[he,AR];simpa using (G2 _ _).2 hs
 .rintro⟨i,hi,_,rfl,ha⟩;obtain⟨r,GJ,hb⟩:=List.any_eq_true.1 ha;obtain⟨j,hj,rfl⟩:=List.mem_iff_getElem.1 GJ;obtain⟨_,_,e,he,ax⟩:=hr _ GJ;unfold ab8 at hb;rw[he]at hb;have hs:=(G2 _ _).1 (by simpa using hb);refine⟨j,hj,hj,?_⟩;unfold abM;rw[he];exact List.mem_map.2 ⟨_,hs,hg.num i hi⟩
structure Zd where
 is:List Bool
 ct:List Int
def gM (p:YM):Zd:=⟨List.replicate p.names.length false,List.replicate p.names.length 0⟩
def aaE (p:YM) (l:List Bool) (s:Tx):Bool:=l.getD (YW p s).toNat false
def EI (is dz:Tx->Bool):Option Ex->Bool
 | some e=>eX is dz e
 | none=>false
def fX (s:Zd) (i:Nat) (m:Int) (yes:Bool):Zd:=
 let c:=if yes then (if s.ct.getD i 0+1 < m then s.ct.getD i 0+1 else m) else s.ct.getD i 0
 ⟨s.is.set i (decide (m<=c)),s.ct.set i c⟩
def qP (s:Zd) (i:Nat):Zd:=⟨s.is.set i false,s.ct.set i 0⟩
def lg (p:YM) (im t:Zd) (r:fh):Zd:=
 let i:=(YW p r.name).toNat
 let yes:=EI (aaE p t.is) (aaE p im.is) r.cond
 let m:=(p.names.getD i ⟨[],0,0⟩).count
 if r.kind=1 then ⟨t.is.set i yes,t.ct⟩
 else if r.kind=2 then ⟨t.is.set i (t.is.getD i false || yes),t.ct⟩
 else if r.kind=3 then ⟨t.is.set i (t.is.getD i false && !yes),t.ct⟩
 else if r.kind=4 then (if yes then fX t i m yes else qP (fX t i m yes) i)
 else if r.kind=5 then fX t i m yes
 else if r.kind=6 then (if yes then qP t i else t)
 else t
def jU (at':List Int) (de:List Bool) (is:List Bool):Nat->List Bool
 | 0=>is
 | k+1=>(jU at' de is k).set (at'.getD k 0).toNat (de.getD k false)
def YQ (p:YM):List Int:=gF p.names 1 p.names.length
def jB (p:YM) (s:Zd) (de:List Bool):Zd:=p.ar.foldl (lg p s) ⟨jU (YQ p) de s.is (YQ p).length,s.ct⟩
def JD (p:YM) (s:Zd) (de:List Bool):(Int×Option Nat) ⊕ Zd:=match Y3 p with
 | some e=>.inl e
 | none=>if de.length≠(YQ p).length\/s.is.length≠p.names.length\/s.ct.length≠p.names.length then .inl (2,none) else .inr (jB p s de)
def eW (l:List Bool):D:=.sl none (l.map fun b=>[.v (.bool b)])
def eG (l:List Int):D:=.sl none (l.map fun n=>[.v (.int .i64 n)])
def iQ (s:Zd):List D:=[eW s.is,eG s.ct]
def kN (s:Zd):D:=.agg (iQ s)
theorem cr {α:Type} {l:List α} {i:Nat} {d:α} (h:i < l.length):l.getD i d=l[i]:=by
 rw[List.getD_eq_getElem?_getD,List.getElem?_eq_getElem h];rfl
theorem xQ {p:YM} {s:Tx} (h:¬ YW p s < 0):(YW p s).toNat < p.names.length/\YW p s=((YW p s).toNat:Int):=by
 obtain⟨k,hk,lN,_⟩:=oX h;have e:YW p s=(k:Int):=lN;rw[e];exact⟨by simpa using hk,by simp⟩
theorem Lc (G:YI) (p:YM) (hp:p.names.length < 2^62) (s:Zd) (hl:s.is.length=p.names.length):pA (fun nm=>¬ YW p nm < 0) G 132 [.ip (iQ s),.ip (cy p)] (aaE p s.is):=by
 intro nm hn;have bK:=nN G p hp nm;obtain⟨h1,h2⟩:=xQ hn
 have hi:(YW p nm).toNat < s.is.length:=by omega
 have jI:aaE p s.is nm=s.is[(YW p nm).toNat]:=by unfold aaE;exact cr hi
 rw[jI];rw[h2]at bK;clear h1 h2 jI hn;simp only[cA,cy,cz,cu,dS]at bK;simp only[iQ,eW,eG,cy,cz,cu];generalize fj:(YW p nm).toNat=i at bK hi ⊢;clear fj hl hp;generalize p.names.map bk=NN at bK ⊢;generalize p.ar.map bF=RR at bK ⊢;generalize s.is=L at hi ⊢;generalize s.ct.map (fun n=>[D.v (.int .i64 n)])=CC;refine aq.aI (aw _) func132 rfl rfl (rs:=[.tmp 4]) results132 (by simp[ntmps132]) fun X=>?_;simp only[ntmps132,List.map];have fw:=@dS.eq_1;refine ab fw [0,1,2] [] ?_;have qf:=(Aq fw @hi);refine CG bK [4] [] ?_;exact aV fw
theorem Ld (G:YI) (p:YM) (hp:p.names.length < 2^62) (s:Zd) (hl:s.is.length=p.names.length):pA (fun nm=>¬ YW p nm < 0) G 133 [.ip (iQ s),.ip (cy p)] (aaE p s.is):=by
 intro nm hn;have bK:=nN G p hp nm;obtain⟨h1,h2⟩:=xQ hn
 have hi:(YW p nm).toNat < s.is.length:=by omega
 have jI:aaE p s.is nm=s.is[(YW p nm).toNat]:=by unfold aaE;exact cr hi
 rw[jI];rw[h2]at bK;clear h1 h2 jI hn;simp only[cA,cy,cz,cu,dS]at bK;simp only[iQ,eW,eG,cy,cz,cu];generalize fj:(YW p nm).toNat=i at bK hi ⊢;clear fj hl hp;generalize p.names.map bk=NN at bK ⊢;generalize p.ar.map bF=RR at bK ⊢;generalize s.is=L at hi ⊢;generalize s.ct.map (fun n=>[D.v (.int .i64 n)])=CC;refine aq.aI (aw _) func133 rfl rfl (rs:=[.tmp 4]) results133 (by simp[ntmps133]) fun X=>?_;simp only[ntmps133,List.map];have fw:=@dS.eq_1;refine ab fw [0,1,2] [] ?_;have qf:=(Aq fw @hi);refine CG bK [4] [] ?_;exact aV fw
def stR (s:Zd):List (Nat×Row):=[(7,.box 68 [.own 701 0 s.is.length,.own 702 0 s.ct.length]),(701,.sl 4 1 (s.is.map fun b=>[.v (.bool b)])),(702,.sl 3 1 (s.ct.map fun n=>[.v (.int .i64 n)]))]
theorem Vv (G:YI) (s:Zd) (i:Nat) (m:Int) (yes:Bool) (hi:i < s.is.length) (hc:i < s.ct.length) (hb:∀ x∈s.ct,0<=x/\x<=2^40):MC prog G [7] 134 [.ref 7 0 0,.d (YG i),.d (YG m),.d (.v (.bool yes))] (YH (stR s)) (.d (.aT [])) (YH (stR (fX s i m yes))):=by
 have fS:s.ct.getD i 0=s.ct[i]:=cr hc;have hbd:=hb s.ct[i] (List.getElem_mem hc)
 have XG:(s.ct.map fun n=>[D.v (.int .i64 n)])[i]? = some [.v (.int .i64 s.ct[i])]:=by simp[hc]
 simp only[stR,fX,fS]
 cases yes with
 | true=>
  simp only[if_true];refine MC.aI (aw _) func134 rfl rfl (rs:=[]) results134 (by simp[ntmps134]) rfl fun X=>?_;simp only[ntmps134];have fw:=@YG.eq_1;refine ae fun K1 ay=>?_;refine ab fw [0,1,2,8] [7,701,702] ?_;refine YL rfl ?_;refine abG (aw _) (by kernel_rfl) [(3,7),(9,7),(11,702),(12,702),(15,702),(16,702)] (by kernel_rfl) fun K' ah=>?_;(repeat (refine nZ fun K2 aa=>?_;simp[YG,hc];(repeat (refine⟨by omega,?_⟩));refine aa _ ?_;clear aa K2));refine n0 (ah _ ?_);clear ah K';refine ay _ (AW.norm [0,1,2] [7,701,702] (cH rfl) (AW.st (by simp[YG,hc];rfl) ?_));refine abG (aw _) (by kernel_rfl) [(3,7),(8,7),(10,702),(11,702),(14,701),(15,701)] (by kernel_rfl) fun K' ah=>?_;(repeat (refine nZ fun K2 aa=>?_;simp[YG,hc,hi];(repeat (refine⟨by omega,?_⟩));refine aa _ ?_;clear aa K2));refine n0 (ah _ ?_);clear ah K';(try simp only[YO,bd]);simp[D.le,D.le.go,List.map_set]
 | false=>
  simp only[Bool.false_eq_true,if_false];refine MC.aI (aw _) func134 rfl rfl (rs:=[]) results134 (by simp[ntmps134]) rfl fun X=>?_;simp only[ntmps134];have fw:=@YG.eq_1;refine ae fun K1 ay=>?_;refine ab fw [0,1,2,8] [7,701,702] ?_;refine af rfl ?_;refine ao (ay _ ?_);refine abG (aw _) (by kernel_rfl) [(3,7),(8,7),(10,702),(11,702),(14,701),(15,701)] (by kernel_rfl) fun K' ah=>?_;(repeat (refine nZ fun K2 aa=>?_;simp[YG,hc,hi];(repeat (refine⟨by omega,?_⟩));refine aa _ ?_;clear aa K2));refine n0 (ah _ ?_);clear ah K';(try simp only[YO,bd]);simp[D.le,D.le.go,List.map_set]
theorem LK {p:YM} (h:Y3 p=none):∀ r∈p.ar,(p.names.getD (YW p r.name).toNat ⟨[],0,0⟩).kind=j1 r.kind:=fun r hr=>by
 unfold Y3 at h;split at h
 .cases h
 split at h
 .cases h
 split at h
 .cases h
 rename_i hB;obtain⟨k,hk,rfl⟩:=List.mem_iff_getElem.1 hr;have h0:=v8 hB k hk;generalize p.ar[k]=r at h0;obtain⟨kd,nm,cd⟩:=r
 cases cd with
 | none=>cases (show (1:Int)=0 from h0)
 | some e=>
  rw[DY]at h0;split at h0
  .cases h0
  split at h0
  .cases h0
  split at h0
  .cases h0
  rename_i h3;simp only[Bool.not_eq_true',decide_eq_false_iff_not,Classical.not_not]at h3;exact h3.symm
structure eN (p:YM) (s:Zd):Prop where
 l1:s.is.length=p.names.length
 l2:s.ct.length=p.names.length
 lo:∀ k,0<=s.ct.getD k 0
 hi:∀ k (hk:k < p.names.length),s.ct.getD k 0<=p.names[k].count
 at':∀ k (hk:k < p.names.length),3<=p.names[k].kind->s.is.getD k false=decide (s.ct.getD k 0=p.names[k].count)
theorem ra {α:Type} (n k:Nat) (x:α):(List.replicate n x).getD k x=x:=by
 rw[List.getD_eq_getElem?_getD,List.getElem?_replicate];split<;>rfl
theorem gU {α:Type} {l:List α} {i:Nat} {x d:α} (h:i < l.length):(l.set i x).getD i d=x:=by
 rw[List.getD_eq_getElem?_getD,List.getElem?_set_self h];rfl
theorem ek {α:Type} {l:List α} {i k:Nat} {x d:α} (h:i≠k):(l.set i x).getD k d=l.getD k d:=by
 rw[List.getD_eq_getElem?_getD,List.getElem?_set_ne h,List.getD_eq_getElem?_getD]
theorem VV {p:YM} (h:qS p):eN p (gM p):=by
 refine⟨by simp[gM],by simp[gM],fun k=>?_,fun k hk=>?_,fun k hk h3=>?_⟩
 .show 0<=(List.replicate _ (0:Int)).getD k 0;rw[ra];exact Int.le_refl _
 .show (List.replicate _ (0:Int)).getD k 0<=_;rw[ra]
  rcases h.count _ (List.getElem_mem hk)with h1 | h1<;>omega
 .show (List.replicate _ false).getD k false=decide ((List.replicate _ (0:Int)).getD k 0=_);rw[ra,ra]
  rcases h.count _ (List.getElem_mem hk)with h1 | h1
  .omega
  .exact (decide_eq_false (by omega)).symm
theorem uU {p:YM} {t:Zd} (ht:eN p t) {i:Nat} (hi:i < p.names.length) (hk:p.names[i].kind < 3) (b:Bool):eN p ⟨t.is.set i b,t.ct⟩:=by
 refine⟨by simp[ht.l1],ht.l2,ht.lo,ht.hi,fun k ft h3=>?_⟩
 have aG:i≠k:=fun e=>by subst e;omega
 show (t.is.set i b).getD k false=_;rw[ek aG];exact ht.at' k ft h3
theorem J7 {p:YM} (hg:qS p) {t:Zd} (ht:eN p t) {i:Nat} (hi:i < p.names.length):eN p (qP t i):=by
 refine⟨by simp[qP,ht.l1],by simp[qP,ht.l2],fun k=>?_,fun k hk=>?_,fun k hk h3=>?_⟩
 .show 0<=(t.ct.set i 0).getD k 0;by_cases e:i=k
  .subst e;rw[gU (by rw[ht.l2];exact hi)];exact Int.le_refl _
  .rw[ek e];exact ht.lo k
 .show (t.ct.set i 0).getD k 0<=_;by_cases e:i=k
  .subst e;rw[gU (by rw[ht.l2];exact hi)]
   rcases hg.count _ (List.getElem_mem hk)with h1 | h1<;>omega
  .rw[ek e];exact ht.hi k hk
 .show (t.is.set i false).getD k false=decide ((t.ct.set i 0).getD k 0=_);by_cases e:i=k
  .subst e;rw[gU (by first | (rw[ht.l1];exact hi) | (rw[ht.l2];exact hi)),gU (by first | (rw[ht.l2];exact hi) | (rw[ht.l1];exact hi))]
   rcases hg.count _ (List.getElem_mem hk)with h1 | h1
   .omega
   .exact (decide_eq_false (by omega)).symm
  .rw[ek e,ek e];exact ht.at' k hk h3
theorem CO {p:YM} (hg:qS p) {t:Zd} (ht:eN p t) {i:Nat} (hi:i < p.names.length) (yes:Bool):eN p (fX t i p.names[i].count yes):=by
 have h0:=ht.lo i;have h1:=ht.hi i hi;have pX:=hg.count _ (List.getElem_mem hi);obtain⟨c,Ao,hc⟩:∃ c,c=(if yes then (if t.ct.getD i 0+1 < p.names[i].count then t.ct.getD i 0+1 else p.names[i].count) else t.ct.getD i 0)/\0<=c/\c<=p.names[i].count:=⟨_,rfl,by split<;>(try split)<;>omega,by split<;>(try split)<;>omega⟩
 have e:fX t i p.names[i].count yes=⟨t.is.set i (decide (p.names[i].count<=c)),t.ct.set i c⟩:=by
  rw[Ao];rfl
 rw[e];refine⟨by simp[ht.l1],by simp[ht.l2],fun k=>?_,fun k hk=>?_,fun k hk h3=>?_⟩
 .show 0<=(t.ct.set i c).getD k 0;by_cases e:i=k
  .subst e;rw[gU (by rw[ht.l2];exact hi)];omega
  .rw[ek e];exact ht.lo k
 .show (t.ct.set i c).getD k 0<=_;by_cases e:i=k
  .subst e;rw[gU (by rw[ht.l2];exact hi)];omega
  .rw[ek e];exact ht.hi k hk
 .show (t.is.set i _).getD k false=decide ((t.ct.set i c).getD k 0=_);by_cases e:i=k
  .subst e;rw[gU (by first | (rw[ht.l1];exact hi) | (rw[ht.l2];exact hi)),gU (by first | (rw[ht.l2];exact hi) | (rw[ht.l1];exact hi))];congr 1;exact propext ⟨fun h=>by omega,fun h=>by omega⟩
  .rw[ek e,ek e];exact ht.at' k hk h3
theorem Jo {p:YM} (hc:Y3 p=none) {r:fh} (hr:r∈p.ar):∃ i,∃ hi:i < p.names.length,YW p r.name=(i:Int)/\p.names[i].kind=j1 r.kind/\p.names.getD i ⟨[],0,0⟩=p.names[i]:=by
 obtain⟨_,h2,_⟩:=ab3 hc r hr;obtain⟨h3,h4⟩:=xQ h2;have h5:=LK hc r hr;have h6:p.names.getD (YW p r.name).toNat ⟨[],0,0⟩=p.names[(YW p r.name).toNat]:=cr h3;rw[h6]at h5;exact⟨_,h3,h4,h5,h6⟩
theorem VA {p:YM} (hc:Y3 p=none) {r:fh} (hr:r∈p.ar) (im:Zd) {t:Zd} (ht:eN p t):eN p (lg p im t r)/\∀ k (hk:k < p.names.length),p.names[k].kind=1->(lg p im t r).is.getD k false=t.is.getD k false:=by
 have hg:=ZU hc;obtain⟨i,hi,hn,hw,hd⟩:=Jo hc hr;obtain⟨hk,_⟩:=ab3 hc r hr;unfold lg;simp only[hn,Int.toNat_natCast,hd]
 have rJ:p.names[i].kind≠1:=by rw[hw];unfold j1;split<;>(try split)<;>omega
 have off:∀ k (hk:k < p.names.length),p.names[k].kind=1->i≠k:=fun k hk h1 e=>by subst e;exact rJ h1
 have ado:r.kind<=3->p.names[i].kind < 3:=fun h=>by rw[hw];unfold j1;rw[if_pos h];omega
 split
 .exact⟨uU ht hi (ado (by omega)) _,fun k hk h1=>ek (off k hk h1)⟩
 split
 .exact⟨uU ht hi (ado (by omega)) _,fun k hk h1=>ek (off k hk h1)⟩
 split
 .exact⟨uU ht hi (ado (by omega)) _,fun k hk h1=>ek (off k hk h1)⟩
 split
 .split
  .exact⟨CO hg ht hi _,fun k hk h1=>ek (off k hk h1)⟩
  .refine⟨J7 hg (CO hg ht hi _) hi,fun k hk h1=>?_⟩;show ((fX t i _ _).is.set i false).getD k false=_;rw[ek (off k hk h1)];exact ek (off k hk h1)
 split
 .exact⟨CO hg ht hi _,fun k hk h1=>ek (off k hk h1)⟩
 split
 .split
  .exact⟨J7 hg ht hi,fun k hk h1=>ek (off k hk h1)⟩
  .exact⟨ht,fun k hk h1=>rfl⟩
 .exact⟨ht,fun k hk h1=>rfl⟩
theorem CP {p:YM} (hc:Y3 p=none) (im:Zd):∀ (l:List fh) {t:Zd},(∀ r∈l,r∈p.ar)->eN p t->eN p (l.foldl (lg p im) t)/\∀ k (hk:k < p.names.length),p.names[k].kind=1->(l.foldl (lg p im) t).is.getD k false=t.is.getD k false
 | [],t,_,ht=>⟨ht,fun k hk h1=>rfl⟩
 | r :: l,t,hl,ht=>by
  obtain⟨h1,h2⟩:=VA hc (hl r (by simp)) im ht;obtain⟨h3,h4⟩:=CP hc im l (fun r hr=>hl r (by simp[hr])) h1;exact⟨h3,fun k hk cQ=>(h4 k hk cQ).trans (h2 k hk cQ)⟩
theorem BS {l:List dL} {k:Int} {x:Int}:∀ {n:Nat},n<=l.length->(x∈gF l k n↔∃ i,∃ hi:i < l.length,i < n/\x=(i:Int)/\l[i].kind=k)
 | 0,_=>by simp[gF]
 | n+1,hn=>by
  rw[BT (by omega),List.mem_append,BS (by omega)];constructor
  .rintro (⟨i,hi,h1,h2,h3⟩ | h)
   .exact⟨i,hi,by omega,h2,h3⟩
   .split at h
    .rename_i hk;exact⟨n,by omega,by omega,by simpa using h,hk⟩
    .cases h
  .rintro⟨i,hi,h1,h2,h3⟩;by_cases e:i=n
   .subst e;right;rw[if_pos h3];simp[h2]
   .exact .inl ⟨i,hi,by omega,h2,h3⟩
theorem Hn {l:List dL} {k:Int}:∀ {n:Nat},n<=l.length->(gF l k n).Nodup
 | 0,_=>by simp[gF]
 | n+1,hn=>by
  rw[BT (by omega),List.nodup_append];refine⟨Hn (by omega),by split<;>simp,fun a ha b hb e=>?_⟩;subst e;obtain⟨i,hi,h1,h2,_⟩:=(BS (by omega)).1 ha;split at hb
  .have:a=(n:Int):=by simpa using hb
   omega
  .cases hb
theorem xq {p:YM} {j:Nat} (hj:j < (YQ p).length):∃ i,∃ hi:i < p.names.length,(YQ p)[j]=(i:Int)/\p.names[i].kind=1:=by
 obtain⟨i,hi,_,h2,h3⟩:=(BS (Nat.le_refl _)).1 (List.getElem_mem hj);exact⟨i,hi,h2,h3⟩
theorem Ix {at':List Int} {de is:List Bool} {k i:Nat} (h:k < at'.length) (hi:at'[k]=(i:Int)):jU at' de is (k+1)=(jU at' de is k).set i (de.getD k false):=by
 rw[jU,cr h,hi];rfl
theorem ac4 {p:YM} (de:List Bool) {s:Zd} (hs:eN p s):∀ k,k<=(YQ p).length->eN p ⟨jU (YQ p) de s.is k,s.ct⟩/\∀ j (hj:j < k) (ZY:j < (YQ p).length),(jU (YQ p) de s.is k).getD (YQ p)[j].toNat false=de.getD j false
 | 0,_=>⟨hs,fun j hj=>absurd hj (by omega)⟩
 | k+1,hk=>by
  obtain⟨h1,h2⟩:=ac4 de hs k (by omega);obtain⟨i,hi,he,h3⟩:=xq (p:=p) (j:=k) (by omega);rw[Ix (by omega) he];refine⟨uU h1 hi (by omega) _,fun j hj ZY=>?_⟩;by_cases e:j=k
  .subst e;rw[he,Int.toNat_natCast,gU (by rw[h1.l1];exact hi)]
  .have aG:i≠(YQ p)[j].toNat:=fun e2=>by
    obtain⟨i2,Y8,Aw,_⟩:=xq (p:=p) ZY;rw[Aw,Int.toNat_natCast]at e2
    have:(YQ p)[j]=(YQ p)[k]:=by rw[he,Aw,e2]
    exact e ((List.getElem_inj (Hn (Nat.le_refl _))).1 this)
   rw[ek aG];exact h2 j (by omega) ZY
theorem zp {p:YM} (hc:Y3 p=none) {s:Zd} (hs:eN p s) (de:List Bool):eN p (jB p s de)/\∀ j (hj:j < (YQ p).length),(jB p s de).is.getD (YQ p)[j].toNat false=de.getD j false:=by
 obtain⟨h1,h2⟩:=ac4 de hs (YQ p).length (Nat.le_refl _);obtain⟨h3,h4⟩:=CP hc s p.ar (fun r hr=>hr) h1;refine⟨h3,fun j hj=>?_⟩;obtain⟨i,hi,he,hk⟩:=xq hj;have:=h2 j hj hj;rw[he,Int.toNat_natCast]at this ⊢;exact (h4 i hi hk).trans this
theorem QX {p:YM} (hc:Y3 p=none) {s:Zd} (hs:eN p s):∀ x∈s.ct,0<=x/\x<=2^20:=fun x hx=>by
 obtain⟨k,hk,rfl⟩:=List.mem_iff_getElem.1 hx
 have jd:k < p.names.length:=by rw[<- hs.l2];exact hk
 have h1:=hs.lo k;have h2:=hs.hi k jd;rw[cr hk]at h1 h2
 rcases (ZU hc).count _ (List.getElem_mem jd)with h3 | h3<;>omega
