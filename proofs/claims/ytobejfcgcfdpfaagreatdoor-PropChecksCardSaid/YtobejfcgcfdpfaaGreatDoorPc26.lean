/- Parts. -/
import Derived.Test.YtobejfcgcfdpfaaGreatDoorPc25
import Derived.Ground.Names2Prog
import Derived.Shelf.Slices.CompactI
set_option linter.unusedSimpArgs false
set_option linter.unusedVariables false
set_option maxHeartbeats 4000000
open Go.Proofs.Tryz
namespace Go.Proofs
open Go.Shelf
def Tryz.UH:Go.Shelf.Ren:=⟨fun | 20=>100 | n=>n,fun | 22=>36 | 3=>3 | 4=>4 | 0=>0 | n=>n,fun | n=>n⟩
theorem Tryz.aei:Go.Proofs.Lays2.n20 prog Tryz.UH:={
 mixed:=ah
 f20:=func100.trans aU
 t0:=underlying0
 a0:=isAgg0
 z0:=sizeOf0
 v0:=zeroValue0
 t3:=underlying3
 a3:=isAgg3
 z3:=sizeOf3
 v3:=zeroValue3
 t4:=underlying4
 a4:=isAgg4
 z4:=sizeOf4
 v4:=zeroValue4
 t22:=underlying36
 a22:=isAgg36
 z22:=sizeOf36
 v22:=zeroValue36
 i3:=by kernel_rfl }
end Go.Proofs
namespace Go.Proofs.YtobejfcgcfdpfaaGreatDoor
open Go.Av Go.Sort
open Go.Shelf
section
variable {w:World} {X:Nat->Prop} {μ:Mu} {r:Nat}
theorem O0 {ty:TypeId} {ss:List Int} {m:jZ} {b:Nat} (hm:μ r=some m) (hs:eT w X μ (aw [(r,.sl ty 1 (ss.map fun s=>[D.v (.int .i64 s)]))])) (hb:m.fT=some b) :
  m.sz=1/\∃ cur,w.heap[b]? = some (.cells cur ty (0,0))/\cur.size=m.cap/\ss.length<=m.cap/\m.cap<=maxLen/\∀ i (hi:i < ss.length),cur[i]? = some ((Value.int .i64) ss[i]):=by
 obtain⟨m',cL,ok⟩:=hs.rows r _ (xI r _);rw[hm]at cL;obtain rfl:=AI cL;generalize eg:Row.sl ty 1 (ss.map fun s=>[D.v (.int .i64 s)])=row at ok
 cases ok with
 | nil br _=>rw[hb]at br;cases br
 | box _ _ _ _ _=>cases eg
 | mp _ _ _ _=>cases eg
 | it _ _ _=>cases eg
 | sl br bp hh cY hn iq hl hz hr=>
  simp only[Row.sl.injEq]at eg;obtain⟨rfl,rfl,rfl⟩:=eg;rw[hb]at br;obtain rfl:=AI br;refine⟨bp,_,hh,by simpa using cY,by simpa using hn,iq,fun i hi=>?_⟩;obtain⟨u,hu,EA⟩:=hr i 0 [D.v (.int .i64 ss[i])] (D.v (.int .i64 ss[i])) (by simp[hi]) rfl;have:=EA.scalar;subst this;simpa using hu
theorem Wz {ty:TypeId} {ss zs:List Int} {m:jZ} {b n:Nat} {os:Array Obj} (hm:μ r=some m) (hs:eT w X μ (aw [(r,.sl ty 1 (ss.map fun s=>[D.v (.int .i64 s)]))])) (hb:m.fT=some b) (hz:zs.length=ss.length) :
  eT (grow (putRow (Value.int .i64) (Sort.ahead w n) b 0 zs.toArray) os) X μ (aw [(r,.sl ty 1 (zs.map fun s=>[D.v (.int .i64 s)]))])/\Ev (jS [r]) w μ (grow (putRow (Value.int .i64) (Sort.ahead w n) b 0 zs.toArray) os) μ:=by
 obtain⟨bp,cur,hh,cY,hn,iq,vR⟩:=O0 hm hs hb;have fI:b < w.heap.size:=hs.nP ⟨r,m,hm,hb⟩
 have hsize:(putRow (Value.int .i64) (Sort.ahead w n) b 0 zs.toArray).heap.size=w.heap.size:=by simp[putRow,mapBlock,Sort.ahead]
 have hold:∀ k,k < w.heap.size->k≠b->(grow (putRow (Value.int .i64) (Sort.ahead w n) b 0 zs.toArray) os).heap[k]? = w.heap[k]?:=fun k hk bq=>by
  unfold grow;dsimp only;rw[amY (by rw[hsize];exact hk)];unfold putRow mapBlock Sort.ahead;dsimp only;rw[anO,if_neg (ann bq)]
 have mQ:(grow (putRow (Value.int .i64) (Sort.ahead w n) b 0 zs.toArray) os).heap[b]? = some (.cells (putCells (Value.int .i64) 0 zs.toArray cur) ty (0,0)):=by
  unfold grow;dsimp only;rw[amY (by rw[hsize];exact fI)];unfold putRow mapBlock Sort.ahead;dsimp only;rw[anO,if_pos rfl,hh];rfl
 have zC:w.heap.size<=(grow (putRow (Value.int .i64) (Sort.ahead w n) b 0 zs.toArray) os).heap.size:=by
  unfold grow;simp[hsize]
 have ev:Ev (jS [r]) w μ (grow (putRow (Value.int .i64) (Sort.ahead w n) b 0 zs.toArray) os) μ:=⟨zC,rfl,rfl,rfl,fun k hk hr=>⟨hold k hk fun e=>hr ⟨r,m,hm,e ▸ hb⟩,hr⟩,fun _ _ h _=>h⟩;refine⟨⟨fun q row hq=>?_,fun q mq hq=>?_,hs.inj,hs.frame,fun k hk=>amN (hs.fits k hk) zC⟩,ev⟩
 .by_cases e:q=r
  .subst e;rw[xI]at hq;obtain rfl:=AI hq;refine⟨m,hm,.sl hb bp mQ (by simpa[putCells]using cY) (by simpa[hz]using hn) iq (fun el bn=>?_) aa fun i j el c hi hj=>?_⟩
   .obtain⟨x,_,rfl⟩:=amS.1 bn;rfl
   .rw[amm]at hi;obtain⟨x,hx,rfl⟩:=AS.1 hi;have dr:i < zs.length:=(BY.1 hx).1
    have n9:j=0:=by have:=(BY.1 hj).1;simpa using this
    subst n9
    obtain rfl:D.v (.int .i64 x)=c:=by simpa using hj
    have cH:i < cur.size:=aa
    refine⟨(Value.int .i64) x,?_,.v _⟩;simp only[anx,anj,putCells,Array.getElem?_mapIdx,amA cH,amI];rw[if_pos (by simp;omega)];congr 2;simp only[Nat.sub_zero];rw[getElem!_pos zs.toArray i (by simpa using dr)];simpa using (BY.1 hx).2
  .rw[HJ _ e]at hq;cases hq
 .obtain⟨row,eg⟩:=hs.l5 q mq hq;by_cases e:q=r
  .exact⟨_,by rw[e];exact xI r _⟩
  .rw[HJ _ e]at eg;cases eg
theorem Wx {ty:TypeId} {ss:List Int} {m:jZ} {b:Nat} (hm:μ r=some m) (hs:eT w X μ (aw [(r,.sl ty 1 (ss.map fun s=>[D.v (.int .i64 s)]))])) (hb:m.fT=some b):Holds (Value.int .i64) w b 0 ss.toArray:=by
 obtain⟨bp,cur,hh,cY,hn,iq,vR⟩:=O0 hm hs hb;intro j hj
 have dG:j < ss.length:=by simpa using hj
 constructor
 .unfold World.cell?;simp only[hh,amR];rw[getElem!_pos ss.toArray j hj,vR j dG];simp
 .unfold World.frozen?;simp only[hh];simp
theorem Wy {ty:TypeId} {ss:List Int} {m:jZ} (hm:μ r=some m) (hs:eT w X μ (aw [(r,.sl ty 1 (ss.map fun s=>[D.v (.int .i64 s)]))])) (hb:m.fT=none):ss=[]:=by
 obtain⟨m',cL,ok⟩:=hs.rows r _ (xI r _);rw[hm]at cL;obtain rfl:=AI cL;generalize eg:Row.sl ty 1 (ss.map fun s=>[D.v (.int .i64 s)])=row at ok
 cases ok with
 | nil _ _=>simp only[Row.sl.injEq]at eg;simpa using eg.2.2
 | box br _ _ _ _=>rw[hb]at br;cases br
 | mp br _ _ _=>rw[hb]at br;cases br
 | it br _ _=>rw[hb]at br;cases br
 | sl br _ _ _ _ _ _ _ _=>rw[hb]at br;cases br
end
def qq (ss:List Int):List Int:=ss.mergeSort fun x y=>decide (x<=y)
theorem FF (ss:List Int):(qq ss).length=ss.length:=by simp[qq]
theorem ai8 (G:aB) (r:Nat) (ty:TypeId) (ss:List Int) (hl:ss.length < 2^60):MC prog G [r] 99 [.own r 0 ss.length] (aw [(r,.sl ty 1 (ss.map fun s=>[D.v (.int .i64 s)]))]) (.d (.bz [])) (aw [(r,.sl ty 1 ((qq ss).map fun s=>[D.v (.int .i64 s)]))]):=by
 refine⟨iV.of func99 rfl rfl,fun X w μ vs hs cW bp hv=>?_⟩
 obtain⟨v,rfl⟩:∃ v,vs = #[v]:=by
  match vs,bp with
  | ⟨[v]⟩,_=>exact⟨v,rfl⟩
 obtain⟨m,hm,hc⟩:=(hv 0 v _ rfl rfl).ml;have hL:Lays.n189 prog Tryz.UD:={ Tryz.aee with };by_cases h0:ss=[]
 .subst h0
  have e:∃ p cap,v = .slice p 0 cap:=by
   rcases hc with⟨_,rfl,_⟩ | ⟨b,_,rfl,_⟩
   .exact⟨_,_,rfl⟩
   .exact⟨_,_,rfl⟩
  obtain⟨p,cap,rfl⟩:=e;have e1:qq []=[]:=amC (by rw[FF];rfl);rw[e1];refine (Any.slices_Sort_int_none hL p cap w).mono fun e w' ⟨he,hw⟩=>?_;subst hw;exact⟨_,_,_,μ,he,⟨rfl,rfl⟩,.d (.bz rfl fun j u c hu hc=>by simp at hu),hs,.refl _ _ _⟩
 .rcases hc with⟨hb,rfl,_,hn⟩ | ⟨b,hb,rfl,hn⟩
  .exact absurd (Wy hm hs hb) h0
  .have hH:=Wx hm hs hb;have fI:b < w.heap.size:=hs.nP ⟨r,m,hm,hb⟩;rw[anJ];refine (Any.slices_Sort_int hL b 0 (m.cap - 0) ss w hH fI aa).mono fun e w' ⟨he,n,os,hw⟩=>?_;subst hw;obtain⟨h1,h2⟩:=Wz (n:=n) (os:=os) hm hs hb (FF ss);exact⟨_,_,_,μ,he,⟨rfl,rfl⟩,.d (.bz rfl fun j u c hu hc=>by simp at hu),h1,h2⟩
theorem ZY (G:aB) (r:Nat) (ty:TypeId) (ss:List Int) (hl:ss.length < 2^60):MC prog G [r] 100 [.own r 0 ss.length] (aw [(r,.sl ty 1 (ss.map fun s=>[D.v (.int .i64 s)]))]) (.own r 0 (Lib.compact ss).length) (aw [(r,.sl ty 1 ((Lib.compact ss ++ List.replicate (ss.length - (Lib.compact ss).length) 0).map fun s=>[D.v (.int .i64 s)]))]):=by
 refine⟨iV.of func100 rfl rfl,fun X w μ vs hs cW bp hv=>?_⟩
 obtain⟨v,rfl⟩:∃ v,vs = #[v]:=by
  match vs,bp with
  | ⟨[v]⟩,_=>exact⟨v,rfl⟩
 have iZ:=hv 0 v _ rfl rfl;obtain⟨m,hm,hc⟩:=iZ.ml;have hle:=Lib.compact_length_le ss;have hL:Lays2.n20 prog Tryz.UH:={ Tryz.aei with };by_cases h0:ss=[]
 .subst h0;have e0:(Lib.compact ([]:List Int))=[]:=amC (by simpa using hle);rw[e0]
  have e:∃ p cap,v = .slice p 0 cap:=by
   rcases hc with⟨_,rfl,_⟩ | ⟨b,_,rfl,_⟩
   .exact⟨_,_,rfl⟩
   .exact⟨_,_,rfl⟩
  obtain⟨p,cap,rfl⟩:=e;refine (Any.slices_Compact_int_empty hL p cap w).mono fun e w' ⟨he,hw⟩=>?_;subst hw;exact⟨_,_,_,μ,he,⟨rfl,rfl⟩,iZ,hs,.refl _ _ _⟩
 .rcases hc with⟨hb,rfl,_,hn⟩ | ⟨b,hb,rfl,hn⟩
  .exact absurd (Wy hm hs hb) h0
  .have hH:=Wx hm hs hb;obtain⟨Nd,cur,hh,cY,lU,iq,vR⟩:=O0 hm hs hb;rw[anJ];refine (Any.slices_Compact_int hL b 0 (m.cap - 0) ss w hH aa aa).mono fun e w' ⟨he,n,hw⟩=>?_
   have hz:(Lib.compact ss ++ List.replicate (ss.length - (Lib.compact ss).length) 0).length=ss.length:=by simp;omega
   obtain⟨h1,h2⟩:=Wz (n:=n) (os:=#[]) hm hs hb hz;rw[grow_empty]at h1 h2;subst hw;refine⟨_,_,_,μ,he,⟨rfl,rfl⟩,.own hm (.inr ⟨b,hb,ak,aa⟩),h1,h2⟩
end Go.Proofs.YtobejfcgcfdpfaaGreatDoor
namespace Go.Proofs.YtobejfcgcfdpfaaGreatDoor
open Go.Av
theorem Xk:∀ {a b:List Int},a.Pairwise (· < ·)->b.Pairwise (· < ·)->(∀ x,x∈a↔x∈b)->a=b
 | [],[],_,_,_=>rfl
 | [],y :: b,_,_,h=>absurd ((h y).2 ak) ak
 | x :: a,[],_,_,h=>absurd ((h x).1 ak) ak
 | x :: a,y :: b,ha,hb,h=>by
  obtain⟨vK,oU⟩:=am5.1 ha;obtain⟨e9,fk⟩:=am5.1 hb
  have EM:x=y:=by
   rcases amx.1 ((h x).1 ak)with e | hx
   .exact e
   .rcases amx.1 ((h y).2 ak)with e | hy
    .exact e.symm
    .have:=e9 x hx;have:=vK y hy;omega
  subst EM;rw[Xk oU fk fun z=>?_];constructor
  .intro hz
   rcases amx.1 ((h z).1 (by simp[hz]))with e | e
   .subst e;have:=vK z hz;omega
   .exact e
  .intro hz
   rcases amx.1 ((h z).2 (by simp[hz]))with e | e
   .subst e;have:=e9 z hz;omega
   .exact e
theorem N9 (d:Array Int):∀ (m:Nat),m<=d.size->∀ j,j < m->d[j]!∈Lib.compactUpTo d m
 | 0,_,j,h=>aa
 | m+1,hm,j,hj=>by
  rw[Lib.compactUpTo_succ];by_cases HE:j < m
  .exact anT _ (N9 d m aa j HE)
  .obtain rfl:j=m:=aa
   by_cases hk:Lib.keeps d j=true
   .exact List.mem_append_right _ (by simp[hk])
   .have n9:j≠0:=by rintro rfl;exact hk (Lib.keeps_lt_one d 0 aa)
    have he:d[j]! = d[j - 1]!:=by
     unfold Lib.keeps at hk;simp[n9]at hk
     first | exact hk | exact hk.symm
    rw[he];exact anT _ (N9 d j aa (j - 1) aa)
theorem PF (d:Array Int):∀ (m:Nat),m<=d.size->∀ x∈Lib.compactUpTo d m,∃ j,j < m/\x=d[j]!
 | 0,_,x,h=>by simp[Lib.compactUpTo]at h
 | m+1,hm,x,h=>by
  rw[Lib.compactUpTo_succ]at h
  rcases amq.1 h with h | h
  .obtain⟨j,hj,e⟩:=PF d m aa x h;exact⟨j,aa,e⟩
  .split at h
   .simp at h;exact⟨m,aa,h⟩
   .simp at h
theorem XQ (d:Array Int) (hs:∀ i j,i<=j->j < d.size->d[i]!<=d[j]!):∀ (m:Nat),m<=d.size->(Lib.compactUpTo d m).Pairwise (· < ·)
 | 0,_=>by simp[Lib.compactUpTo]
 | m+1,hm=>by
  have ih:=XQ d hs m aa;rw[Lib.compactUpTo_succ];by_cases hk:Lib.keeps d m=true
  .rw[if_pos hk,ano];refine⟨ih,ak,fun a ha b hb=>?_⟩;rw[amD]at hb;subst hb;obtain⟨j,hj,rfl⟩:=PF d m aa a ha
   have bq:d[m]!≠d[m - 1]!:=by
    intro he;rw[Lib.keeps_neg aa he]at hk;cases hk
   have h1:=hs j (m - 1) aa aa;have h2:=hs (m - 1) m aa aa;omega
  .rw[if_neg hk,am0];exact ih
theorem ajb (l:List Int):(Lib.compact (qq l)).Pairwise (· < ·):=by
 unfold Lib.compact;refine XQ _ (fun i j qI hj=>?_) _ ak
 have hp:(qq l).Pairwise (·<=·):=by
  unfold qq;have:=List.pairwise_mergeSort (le:=fun x y:Int=>decide (x<=y)) (by intro a b c h1 h2;simp only[decide_eq_true_eq]at *;omega) (by intro a b;simp only[amU,decide_eq_true_eq];omega) l
  exact this.imp fun h=>by simpa using h
 generalize qq l=l at hp hj ⊢
 have dG:j < l.length:=by simpa using hj
 rw[getElem!_pos l.toArray i (by simpa using (by omega:i < l.length)),getElem!_pos l.toArray j (by simpa using dG)];simp only[List.getElem_toArray];by_cases he:i=j
 .subst he;omega
 .exact (List.pairwise_iff_getElem.1 hp) i j aa dG aa
theorem aja {l:List Int} {x:Int}:x∈Lib.compact (qq l)↔x∈l:=by
 have h0:∀ l:List Int,x∈Lib.compact l↔x∈l:=by
  intro l;unfold Lib.compact;constructor
  .intro h;obtain⟨j,hj,rfl⟩:=PF l.toArray l.length ak x h;rw[getElem!_pos l.toArray j (by simpa using hj)];simp
  .intro h;obtain⟨j,hj,rfl⟩:=amz.1 h;have:=N9 l.toArray l.length ak j hj;rw[getElem!_pos l.toArray j (by simpa using hj)]at this;simpa using this
 rw[h0];unfold qq;exact List.mem_mergeSort
def xj (p:aM) (r:jy):List Int:=match r.cond with
 | some e=>(ey false e).map (b7 p)
 | none=>[]
def l7 (p:aM):Nat->List Int
 | 0=>[]
 | i+1=>l7 p i ++ xj p (p.aC.getD i ⟨0,[],none⟩)
theorem KO {p:aM} {i:Nat} (h:i < p.aC.length):l7 p (i+1)=l7 p i ++ xj p p.aC[i]:=by
 rw[l7,ame,AT h];rfl
theorem Q6 {p:aM} {x:Int}:∀ {n:Nat},n<=p.aC.length->(x∈l7 p n↔∃ j,∃ h:j < p.aC.length,j < n/\x∈xj p p.aC[j])
 | 0,_=>by simp[l7]
 | n+1,hn=>by
  rw[KO aa,amq,Q6 aa];constructor
  .rintro (⟨j,h,hj,hx⟩ | hx)
   .exact⟨j,h,aa,hx⟩
   .exact⟨n,aa,aa,hx⟩
  .rintro⟨j,h,hj,hx⟩;by_cases e:j=n
   .subst e;exact .inr hx
   .exact .inl ⟨j,h,aa,hx⟩
def p3 (s:Tx) (r:jy):Bool:=match r.cond with
 | some e=>decide (0<=idx (fun x=>x == s) (ey false e))
 | none=>false
def gT (p:aM):Nat->List Int
 | 0=>[]
 | i+1=>gT p i ++ if p.aC.any (p3 (p.names.getD i ⟨[],0,0⟩).name) then [(i:Int)] else []
theorem XZ {p:aM} {i:Nat} (h:i < p.names.length):gT p (i+1)=gT p i ++ if p.aC.any (p3 p.names[i].name) then [(i:Int)] else []:=by
 rw[gT,ame,AT h];rfl
theorem JO (p:aM):∀ n,(gT p n).length<=n
 | 0=>amh _
 | n+1=>by rw[gT,amp];have:=JO p n;split<;>simp<;>omega
theorem AO {p:aM} {x:Int}:∀ {n:Nat},n<=p.names.length->(x∈gT p n↔∃ i,∃ h:i < p.names.length,i < n/\x=i/\p.aC.any (p3 p.names[i].name)=true)
 | 0,_=>by simp[gT]
 | n+1,hn=>by
  rw[XZ aa,amq,AO aa];constructor
  .rintro (⟨j,h,hj,hx⟩ | hx)
   .exact⟨j,h,aa,hx⟩
   .split at hx
    .exact⟨n,aa,aa,by simpa using hx,‹_›⟩
    .cases hx
  .rintro⟨j,h,hj,hx,ha⟩;by_cases e:j=n
   .subst e;exact .inr (by rw[if_pos ha];simpa using hx)
   .exact .inl ⟨j,h,aa,hx,ha⟩
theorem XY (p:aM):∀ {n:Nat},n<=p.names.length->(gT p n).Pairwise (· < ·)
 | 0,_=>by simp[gT]
 | n+1,hn=>by
  rw[gT,ano];refine⟨XY p aa,by split<;>simp,fun a ha b hb=>?_⟩;obtain⟨i,_,hi,rfl,_⟩:=(AO aa).1 ha;split at hb
  .rw[amD]at hb;omega
  .cases hb
theorem T7 (l:List Tx) (s:Tx):0<=idx (fun x=>x == s) l↔s∈l:=by
 have h:=Ib (fun x:Tx=>x == s) l
 have h2:(l.any fun x=>x == s)=true↔s∈l:=by
  rw[anr];constructor
  .rintro⟨x,hx,he⟩
   have:x=s:=by simpa using he
   exact this ▸ hx
  .exact fun hs=>⟨s,hs,ak⟩
 rw[<- h2,<- h,decide_eq_true_eq]
theorem Oy {s:Tx}:∀ (n:Nat) (e:Ex),SizeOf.sizeOf e<=n->s∈dH false e->s∈dH true e
 | 0,e,hn,_=>by cases e<;>simp at hn
 | n+1,e,hn,h=>by
  have many:∀ l:List Ex,(∀ x∈l,SizeOf.sizeOf x<=n)->s∈gJ false l->s∈gJ true l:=by
   intro l
   induction l with
   | nil=>intro _ h;simp[gJ]at h
   | cons x l ih=>
    intro hl h;rw[gJ,amq]at h ⊢
    rcases h with h | h
    .exact .inl (Oy n x (hl x ak) h)
    .exact .inr (ih (fun y hy=>hl y (by simp[hy])) h)
  have inside:∀ (l:List Ex),SizeOf.sizeOf l<=n->∀ x∈l,SizeOf.sizeOf x<=n:=fun l hl x hx=>by
   have:=amL hx;omega
  cases e with
  | iW b=>simp[dH,eh,iK]at h
  | bit t=>simp[dH,eh,iK]at h
  | jV t=>exact h
  | jL t=>exact h
  | not e=>exact Oy n e (by simp at hn;omega) h
  | and l=>exact many l (inside l (by simp at hn;omega)) h
  | or l=>exact many l (inside l (by simp at hn;omega)) h
theorem On {s:Tx} {e:Ex} (h:s∈ey false e):s∈ey true e:=Aj.2 (Oy _ e (amh _) (Aj.1 h))
theorem yZ {p:aM} (h:cO p=none):∀ r∈p.aC,(1<=r.kind/\r.kind<=6)/\¬ b7 p r.name < 0/\∃ e,r.cond=some e/\∀ s∈ey true e,¬ b7 p s < 0:=fun r hr=>by
 unfold cO at h;split at h
 .cases h
 split at h
 .cases h
 split at h
 .cases h
 rename_i hB;obtain⟨k,hk,rfl⟩:=amz.1 hr;have h0:=GL hB k hk;generalize p.aC[k]=r at h0;obtain⟨kd,nm,cd⟩:=r
 cases cd with
 | none=>cases (show (1:Int)=0 from h0)
 | some e=>
  rw[Kl]at h0;split at h0
  .cases h0
  rename_i h1;split at h0
  .cases h0
  rename_i h2;split at h0
  .cases h0
  split at h0
  .cases h0
  rename_i h4;refine⟨by simpa using h1,h2,e,rfl,fun s hs hn=>h4 ?_⟩;exact anr.2 ⟨s,hs,by simpa using hn⟩
theorem aas {p:aM} (h:cO p=none):Lib.compact (qq (l7 p p.aC.length))=gT p p.names.length:=by
 have hg:=gb h;have hr:=yZ h;refine Xk (ajb _) (XY p (amh _)) fun x=>?_;rw[aja,Q6 (amh _),AO (amh _)];constructor
 .rintro⟨j,hj,_,hx⟩;obtain⟨_,_,e,he,aR⟩:=hr _ (By hj);unfold xj at hx;rw[he]at hx;obtain⟨s,hs,rfl⟩:=amS.1 hx;obtain⟨k,hk,lF,hks⟩:=tQ (aR s (On hs));have acx:b7 p s=k:=lF
  have acA:p.names[k].name=s:=by simpa using hks
  refine⟨k,hk,hk,acx,anr.2 ⟨_,By hj,?_⟩⟩;unfold p3;rw[he,acA];simpa using (T7 _ _).2 hs
 .rintro⟨i,hi,_,rfl,ha⟩;obtain⟨r,TB,hb⟩:=anr.1 ha;obtain⟨j,hj,rfl⟩:=amz.1 TB;obtain⟨_,_,e,he,aR⟩:=hr _ TB;unfold p3 at hb;rw[he]at hb;have hs:=(T7 _ _).1 (by simpa using hb);refine⟨j,hj,hj,?_⟩;unfold xj;rw[he];exact amS.2 ⟨_,hs,hg.num i hi⟩
structure cN where
 is:List Bool
 ct:List Int
def kU (p:aM):cN:=⟨List.replicate p.names.length false,List.replicate p.names.length 0⟩
def ga (p:aM) (l:List Bool) (s:Tx):Bool:=l.getD (b7 p s).toNat false
def ur (is cI:Tx->Bool):Option Ex->Bool
 | some e=>fg is cI e
 | none=>false
def ja (s:cN) (i:Nat) (m:Int) (yes:Bool):cN:=
 let c:=if yes then (if s.ct.getD i 0+1 < m then s.ct.getD i 0+1 else m) else s.ct.getD i 0
 ⟨s.is.set i (decide (m<=c)),s.ct.set i c⟩
def vb (s:cN) (i:Nat):cN:=⟨s.is.set i false,s.ct.set i 0⟩
def nK (p:aM) (gk t:cN) (r:jy):cN:=
 let i:=(b7 p r.name).toNat
 let yes:=ur (ga p t.is) (ga p gk.is) r.cond
 let m:=(p.names.getD i ⟨[],0,0⟩).count
 if r.kind=1 then ⟨t.is.set i yes,t.ct⟩
 else if r.kind=2 then ⟨t.is.set i (t.is.getD i false || yes),t.ct⟩
 else if r.kind=3 then ⟨t.is.set i (t.is.getD i false && !yes),t.ct⟩
 else if r.kind=4 then (if yes then ja t i m yes else vb (ja t i m yes) i)
 else if r.kind=5 then ja t i m yes
 else if r.kind=6 then (if yes then vb t i else t)
 else t
def o5 (at':List Int) (cQ:List Bool) (is:List Bool):Nat->List Bool
 | 0=>is
 | k+1=>(o5 at' cQ is k).set (at'.getD k 0).toNat (cQ.getD k false)
def bl (p:aM):List Int:=jI p.names 1 p.names.length
def oP (p:aM) (s:cN) (cQ:List Bool):cN:=p.aC.foldl (nK p s) ⟨o5 (bl p) cQ s.is (bl p).length,s.ct⟩
def Xs (p:aM) (s:cN) (cQ:List Bool):(Int×Option Nat) ⊕ cN:=match cO p with
 | some e=>.inl e
 | none=>if cQ.length≠(bl p).length\/s.is.length≠p.names.length\/s.ct.length≠p.names.length then .inl (2,none) else .inr (oP p s cQ)
def ff (l:List Bool):D:=.sl none (l.map fun b=>[.v (.bool b)])
def gd (l:List Int):D:=.sl none (l.map fun n=>[.v (.int .i64 n)])
def pS (s:cN):List D:=[ff s.is,gd s.ct]
def se (s:cN):D:=.agg (pS s)
theorem dw {α:Type} {l:List α} {i:Nat} {d:α} (h:i < l.length):l.getD i d=l[i]:=by
 rw[ame,AT h];rfl
theorem IV {p:aM} {s:Tx} (h:¬ b7 p s < 0):(b7 p s).toNat < p.names.length/\b7 p s=((b7 p s).toNat:Int):=by
 obtain⟨k,hk,lF,_⟩:=tQ h;have e:b7 p s=(k:Int):=lF;rw[e];exact⟨by simpa using hk,ak⟩
theorem Y5 (G:aB) (p:aM) (hp:p.names.length < 2^62) (s:cN) (hl:s.is.length=p.names.length):pP (fun nm=>¬ b7 p nm < 0) G 103 [.ip (pS s),.ip (fe p)] (ga p s.is):=by
 intro nm hn;have cy:=wH G p hp nm;obtain⟨h1,h2⟩:=IV hn
 have hi:(b7 p nm).toNat < s.is.length:=aa
 have qD:ga p s.is nm=s.is[(b7 p nm).toNat]:=by unfold ga;exact dw hi
 rw[qD];rw[h2]at cy;clear h1 h2 qD hn;simp only[fH,fe,ck,eZ,dS]at cy;simp only[pS,ff,gd,fe,ck,eZ];generalize gR:(b7 p nm).toNat=i at cy hi ⊢;clear gR hl hp;generalize p.names.map bw=NN at cy ⊢;generalize p.aC.map de=RR at cy ⊢;generalize s.is=L at hi ⊢;generalize s.ct.map (fun n=>[D.v (.int .i64 n)])=CC;refine aD.aO (ay _) func103 rfl rfl (rs:=[.tmp 4]) results103 (by simp[ntmps103]) fun X=>?_;simp only[ntmps103,List.map];have fw:=@an9;refine ae fw [0,1,2] [] ?_;have qf:=(Aq fw @hi);refine u1 cy [4] [] ?_;exact aY fw
theorem Y6 (G:aB) (p:aM) (hp:p.names.length < 2^62) (s:cN) (hl:s.is.length=p.names.length):pP (fun nm=>¬ b7 p nm < 0) G 104 [.ip (pS s),.ip (fe p)] (ga p s.is):=by
 intro nm hn;have cy:=wH G p hp nm;obtain⟨h1,h2⟩:=IV hn
 have hi:(b7 p nm).toNat < s.is.length:=aa
 have qD:ga p s.is nm=s.is[(b7 p nm).toNat]:=by unfold ga;exact dw hi
 rw[qD];rw[h2]at cy;clear h1 h2 qD hn;simp only[fH,fe,ck,eZ,dS]at cy;simp only[pS,ff,gd,fe,ck,eZ];generalize gR:(b7 p nm).toNat=i at cy hi ⊢;clear gR hl hp;generalize p.names.map bw=NN at cy ⊢;generalize p.aC.map de=RR at cy ⊢;generalize s.is=L at hi ⊢;generalize s.ct.map (fun n=>[D.v (.int .i64 n)])=CC;refine aD.aO (ay _) func104 rfl rfl (rs:=[.tmp 4]) results104 (by simp[ntmps104]) fun X=>?_;simp only[ntmps104,List.map];have fw:=@an9;refine ae fw [0,1,2] [] ?_;have qf:=(Aq fw @hi);refine u1 cy [4] [] ?_;exact aY fw
def FJ (s:cN):List (Nat×Row):=[(7,.box 82 [.own 701 0 s.is.length,.own 702 0 s.ct.length]),(701,.sl 4 1 (s.is.map fun b=>[.v (.bool b)])),(702,.sl 3 1 (s.ct.map fun n=>[.v (.int .i64 n)]))]
theorem aiN (G:aB) (s:cN) (i:Nat) (m:Int) (yes:Bool) (hi:i < s.is.length) (hc:i < s.ct.length) (hb:∀ x∈s.ct,0<=x/\x<=2^40):MC prog G [7] 105 [.ref 7 0 0,.d (ab i),.d (ab m),.d (.v (.bool yes))] (aw (FJ s)) (.d (.bz [])) (aw (FJ (ja s i m yes))):=by
 have jB:s.ct.getD i 0=s.ct[i]:=dw hc;have qB:=hb s.ct[i] (By hc)
 have hgc:(s.ct.map fun n=>[D.v (.int .i64 n)])[i]? = some [.v (.int .i64 s.ct[i])]:=by simp[hc]
 simp only[FJ,ja,jB]
 cases yes with
 | true=>
  simp only[if_true];refine MC.aO (ay _) func105 rfl rfl (rs:=[]) results105 (by simp[ntmps105]) rfl fun X=>?_;simp only[ntmps105];have fw:=@an8;refine ag fun K1 aF=>ae fw [0,1,2,8] [7,701,702] ?_;refine aJ (tY (ay _) ah [(3,7),(9,7),(11,702),(12,702),(15,702),(16,702)] ah fun K' ao=>?_);(repeat refine jX fun Kq af=>?_;simp[ab,hc];(repeat refine⟨aa,?_⟩);refine af _ ?_);refine lq (ao _ ?_);refine aF _ (AW.norm [0,1,2] [7,701,702] (dT rfl) (AW.st (by simp[ab,hc];rfl) ?_));refine tY (ay _) ah [(3,7),(8,7),(10,702),(11,702),(14,701),(15,701)] ah fun K' ao=>?_;(repeat refine jX fun Kq af=>?_;simp[ab,hc,hi];(repeat refine⟨aa,?_⟩);refine af _ ?_);refine lq (ao _ ?_);(try simp only[aT,aW]);simp[D.le,D.le.go,amt]
 | false=>
  simp only[amn,if_false];refine MC.aO (ay _) func105 rfl rfl (rs:=[]) results105 (by simp[ntmps105]) rfl fun X=>?_;simp only[ntmps105];have fw:=@an8;refine ag fun K1 aF=>ae fw [0,1,2,8] [7,701,702] ?_;refine al (aq (aF _ ?_));refine tY (ay _) ah [(3,7),(8,7),(10,702),(11,702),(14,701),(15,701)] ah fun K' ao=>?_;(repeat refine jX fun Kq af=>?_;simp[ab,hc,hi];(repeat refine⟨aa,?_⟩);refine af _ ?_);refine lq (ao _ ?_);(try simp only[aT,aW]);simp[D.le,D.le.go,amt]
theorem ZI {p:aM} (h:cO p=none):∀ r∈p.aC,(p.names.getD (b7 p r.name).toNat ⟨[],0,0⟩).kind=kr r.kind:=fun r hr=>by
 unfold cO at h;split at h
 .cases h
 split at h
 .cases h
 split at h
 .cases h
 rename_i hB;obtain⟨k,hk,rfl⟩:=amz.1 hr;have h0:=GL hB k hk;generalize p.aC[k]=r at h0;obtain⟨kd,nm,cd⟩:=r
 cases cd with
 | none=>cases (show (1:Int)=0 from h0)
 | some e=>
  rw[Kl]at h0;split at h0
  .cases h0
  split at h0
  .cases h0
  split at h0
  .cases h0
  rename_i h3;simp only[ant,decide_eq_false_iff_not,Classical.not_not]at h3;exact h3.symm
structure gE (p:aM) (s:cN):Prop where
 l1:s.is.length=p.names.length
 l2:s.ct.length=p.names.length
 lo:∀ k,0<=s.ct.getD k 0
 hi:∀ k (hk:k < p.names.length),s.ct.getD k 0<=p.names[k].count
 at':∀ k (hk:k < p.names.length),3<=p.names[k].kind->s.is.getD k false=decide (s.ct.getD k 0=p.names[k].count)
theorem xq {α:Type} (n k:Nat) (x:α):(List.replicate n x).getD k x=x:=by
 rw[ame,List.getElem?_replicate];split<;>rfl
theorem kK {α:Type} {l:List α} {i:Nat} {x d:α} (h:i < l.length):(l.set i x).getD i d=x:=by
 rw[ame,List.getElem?_set_self h];rfl
theorem gV {α:Type} {l:List α} {i k:Nat} {x d:α} (h:i≠k):(l.set i x).getD k d=l.getD k d:=by
 rw[ame,List.getElem?_set_ne h,ame]
theorem ajh {p:aM} (h:lu p):gE p (kU p):=by
 refine⟨by simp[kU],by simp[kU],fun k=>?_,fun k hk=>?_,fun k hk h3=>?_⟩
 .show 0<=(List.replicate _ (0:Int)).getD k 0;rw[xq];exact an0 _
 .show (List.replicate _ (0:Int)).getD k 0<=_;rw[xq]
  rcases h.count _ (By hk)with h1 | h1<;>omega
 .show (List.replicate _ false).getD k false=decide ((List.replicate _ (0:Int)).getD k 0=_);rw[xq,xq]
  rcases h.count _ (By hk)with h1 | h1
  .omega
  .exact (decide_eq_false aa).symm
theorem FC {p:aM} {t:cN} (ht:gE p t) {i:Nat} (hi:i < p.names.length) (hk:p.names[i].kind < 3) (b:Bool):gE p ⟨t.is.set i b,t.ct⟩:=by
 refine⟨by simp[ht.l1],ht.l2,ht.lo,ht.hi,fun k gX h3=>?_⟩
 have bq:i≠k:=fun e=>by subst e;omega
 show (t.is.set i b).getD k false=_;rw[gV bq];exact ht.at' k gX h3
theorem X8 {p:aM} (hg:lu p) {t:cN} (ht:gE p t) {i:Nat} (hi:i < p.names.length):gE p (vb t i):=by
 refine⟨by simp[vb,ht.l1],by simp[vb,ht.l2],fun k=>?_,fun k hk=>?_,fun k hk h3=>?_⟩
 .show 0<=(t.ct.set i 0).getD k 0;by_cases e:i=k
  .subst e;rw[kK (by rw[ht.l2];exact hi)];exact an0 _
  .rw[gV e];exact ht.lo k
 .show (t.ct.set i 0).getD k 0<=_;by_cases e:i=k
  .subst e;rw[kK (by rw[ht.l2];exact hi)]
   rcases hg.count _ (By hk)with h1 | h1<;>omega
  .rw[gV e];exact ht.hi k hk
 .show (t.is.set i false).getD k false=decide ((t.ct.set i 0).getD k 0=_);by_cases e:i=k
  .subst e;rw[kK (by first | (rw[ht.l1];exact hi) | (rw[ht.l2];exact hi)),kK (by first | (rw[ht.l2];exact hi) | (rw[ht.l1];exact hi))]
   rcases hg.count _ (By hk)with h1 | h1
   .omega
   .exact (decide_eq_false aa).symm
  .rw[gV e,gV e];exact ht.at' k hk h3
theorem O6 {p:aM} (hg:lu p) {t:cN} (ht:gE p t) {i:Nat} (hi:i < p.names.length) (yes:Bool):gE p (ja t i p.names[i].count yes):=by
 have h0:=ht.lo i;have h1:=ht.hi i hi;have l9:=hg.count _ (By hi);obtain⟨c,hcd,hc⟩:∃ c,c=(if yes then (if t.ct.getD i 0+1 < p.names[i].count then t.ct.getD i 0+1 else p.names[i].count) else t.ct.getD i 0)/\0<=c/\c<=p.names[i].count:=⟨_,rfl,by split<;>(try split)<;>omega,by split<;>(try split)<;>omega⟩
 have e:ja t i p.names[i].count yes=⟨t.is.set i (decide (p.names[i].count<=c)),t.ct.set i c⟩:=by
  rw[hcd];rfl
 rw[e];refine⟨by simp[ht.l1],by simp[ht.l2],fun k=>?_,fun k hk=>?_,fun k hk h3=>?_⟩
 .show 0<=(t.ct.set i c).getD k 0;by_cases e:i=k
  .subst e;rw[kK (by rw[ht.l2];exact hi)];omega
  .rw[gV e];exact ht.lo k
 .show (t.ct.set i c).getD k 0<=_;by_cases e:i=k
  .subst e;rw[kK (by rw[ht.l2];exact hi)];omega
  .rw[gV e];exact ht.hi k hk
 .show (t.is.set i _).getD k false=decide ((t.ct.set i c).getD k 0=_);by_cases e:i=k
  .subst e;rw[kK (by first | (rw[ht.l1];exact hi) | (rw[ht.l2];exact hi)),kK (by first | (rw[ht.l2];exact hi) | (rw[ht.l1];exact hi))];congr 1;exact propext ⟨fun h=>aa,fun h=>aa⟩
  .rw[gV e,gV e];exact ht.at' k hk h3
theorem Jp {p:aM} (hc:cO p=none) {r:jy} (hr:r∈p.aC):∃ i,∃ hi:i < p.names.length,b7 p r.name=(i:Int)/\p.names[i].kind=kr r.kind/\p.names.getD i ⟨[],0,0⟩=p.names[i]:=by
 obtain⟨_,h2,_⟩:=yZ hc r hr;obtain⟨h3,h4⟩:=IV h2;have h5:=ZI hc r hr;have h6:p.names.getD (b7 p r.name).toNat ⟨[],0,0⟩=p.names[(b7 p r.name).toNat]:=dw h3;rw[h6]at h5;exact⟨_,h3,h4,h5,h6⟩
theorem W5 {p:aM} (hc:cO p=none) {r:jy} (hr:r∈p.aC) (gk:cN) {t:cN} (ht:gE p t):gE p (nK p gk t r)/\∀ k (hk:k < p.names.length),p.names[k].kind=1->(nK p gk t r).is.getD k false=t.is.getD k false:=by
 have hg:=gb hc;obtain⟨i,hi,hn,hw,hd⟩:=Jp hc hr;obtain⟨hk,_⟩:=yZ hc r hr;unfold nK;simp only[hn,amd,hd]
 have kC:p.names[i].kind≠1:=by rw[hw];unfold kr;split<;>(try split)<;>omega
 have off:∀ k (hk:k < p.names.length),p.names[k].kind=1->i≠k:=fun k hk h1 e=>by subst e;exact kC h1
 have ME:r.kind<=3->p.names[i].kind < 3:=fun h=>by rw[hw];unfold kr;rw[if_pos h];omega
 split
 .exact⟨FC ht hi (ME aa) _,fun k hk h1=>gV (off k hk h1)⟩
 split
 .exact⟨FC ht hi (ME aa) _,fun k hk h1=>gV (off k hk h1)⟩
 split
 .exact⟨FC ht hi (ME aa) _,fun k hk h1=>gV (off k hk h1)⟩
 split
 .split
  .exact⟨O6 hg ht hi _,fun k hk h1=>gV (off k hk h1)⟩
  .refine⟨X8 hg (O6 hg ht hi _) hi,fun k hk h1=>?_⟩;show ((ja t i _ _).is.set i false).getD k false=_;rw[gV (off k hk h1)];exact gV (off k hk h1)
 split
 .exact⟨O6 hg ht hi _,fun k hk h1=>gV (off k hk h1)⟩
 split
 .split
  .exact⟨X8 hg ht hi,fun k hk h1=>gV (off k hk h1)⟩
  .exact⟨ht,fun k hk h1=>rfl⟩
 .exact⟨ht,fun k hk h1=>rfl⟩
theorem Jq {p:aM} (hc:cO p=none) (gk:cN):∀ (l:List jy) {t:cN},(∀ r∈l,r∈p.aC)->gE p t->gE p (l.foldl (nK p gk) t)/\∀ k (hk:k < p.names.length),p.names[k].kind=1->(l.foldl (nK p gk) t).is.getD k false=t.is.getD k false
 | [],t,_,ht=>⟨ht,fun k hk h1=>rfl⟩
 | r :: l,t,hl,ht=>by
  obtain⟨h1,h2⟩:=W5 hc (hl r ak) gk ht;obtain⟨h3,h4⟩:=Jq hc gk l (fun r hr=>hl r (by simp[hr])) h1;exact⟨h3,fun k hk bO=>(h4 k hk bO).trans (h2 k hk bO)⟩
theorem NG {l:List iD} {k:Int} {x:Int}:∀ {n:Nat},n<=l.length->(x∈jI l k n↔∃ i,∃ hi:i < l.length,i < n/\x=(i:Int)/\l[i].kind=k)
 | 0,_=>by simp[jI]
 | n+1,hn=>by
  rw[Ir aa,amq,NG aa];constructor
  .rintro (⟨i,hi,h1,h2,h3⟩ | h)
   .exact⟨i,hi,aa,h2,h3⟩
   .split at h
    .rename_i hk;exact⟨n,aa,aa,by simpa using h,hk⟩
    .cases h
  .rintro⟨i,hi,h1,h2,h3⟩;by_cases e:i=n
   .subst e;right;rw[if_pos h3];simp[h2]
   .exact .inl ⟨i,hi,aa,h2,h3⟩
theorem Uv {l:List iD} {k:Int}:∀ {n:Nat},n<=l.length->(jI l k n).Nodup
 | 0,_=>by simp[jI]
 | n+1,hn=>by
  rw[Ir aa,List.nodup_append];refine⟨Uv aa,by split<;>simp,fun a ha b hb e=>?_⟩;subst e;obtain⟨i,hi,h1,h2,_⟩:=(NG aa).1 ha;split at hb
  .have:a=(n:Int):=by simpa using hb
   omega
  .cases hb
theorem Cd {p:aM} {j:Nat} (hj:j < (bl p).length):∃ i,∃ hi:i < p.names.length,(bl p)[j]=(i:Int)/\p.names[i].kind=1:=by
 obtain⟨i,hi,_,h2,h3⟩:=(NG (amh _)).1 (By hj);exact⟨i,hi,h2,h3⟩
theorem OT {at':List Int} {cQ is:List Bool} {k i:Nat} (h:k < at'.length) (hi:at'[k]=(i:Int)):o5 at' cQ is (k+1)=(o5 at' cQ is k).set i (cQ.getD k false):=by
 rw[o5,dw h,hi];rfl
theorem Ar {p:aM} (cQ:List Bool) {s:cN} (hs:gE p s):∀ k,k<=(bl p).length->gE p ⟨o5 (bl p) cQ s.is k,s.ct⟩/\∀ j (hj:j < k) (qJ:j < (bl p).length),(o5 (bl p) cQ s.is k).getD (bl p)[j].toNat false=cQ.getD j false
 | 0,_=>⟨hs,fun j hj=>absurd hj aa⟩
 | k+1,hk=>by
  obtain⟨h1,h2⟩:=Ar cQ hs k aa;obtain⟨i,hi,he,h3⟩:=Cd (p:=p) (j:=k) aa;rw[OT aa he];refine⟨FC h1 hi aa _,fun j hj qJ=>?_⟩;by_cases e:j=k
  .subst e;rw[he,amd,kK (by rw[h1.l1];exact hi)]
  .have bq:i≠(bl p)[j].toNat:=fun e2=>by
    obtain⟨i2,gx,lD,_⟩:=Cd (p:=p) qJ;rw[lD,amd]at e2
    have:(bl p)[j]=(bl p)[k]:=by rw[he,lD,e2]
    exact e ((List.getElem_inj (Uv (amh _))).1 this)
   rw[gV bq];exact h2 j aa qJ
theorem Gv {p:aM} (hc:cO p=none) {s:cN} (hs:gE p s) (cQ:List Bool):gE p (oP p s cQ)/\∀ j (hj:j < (bl p).length),(oP p s cQ).is.getD (bl p)[j].toNat false=cQ.getD j false:=by
 obtain⟨h1,h2⟩:=Ar cQ hs (bl p).length (amh _);obtain⟨h3,h4⟩:=Jq hc s p.aC (fun r hr=>hr) h1;refine⟨h3,fun j hj=>?_⟩;obtain⟨i,hi,he,hk⟩:=Cd hj;have:=h2 j hj hj;rw[he,amd]at this ⊢;exact (h4 i hi hk).trans this
theorem adA {p:aM} (hc:cO p=none) {s:cN} (hs:gE p s):∀ x∈s.ct,0<=x/\x<=2^20:=fun x hx=>by
 obtain⟨k,hk,rfl⟩:=amz.1 hx
 have fW:k < p.names.length:=by rw[<- hs.l2];exact hk
 have h1:=hs.lo k;have h2:=hs.hi k fW;rw[dw hk]at h1 h2
 rcases (gb hc).count _ (By fW)with h3 | h3<;>omega
