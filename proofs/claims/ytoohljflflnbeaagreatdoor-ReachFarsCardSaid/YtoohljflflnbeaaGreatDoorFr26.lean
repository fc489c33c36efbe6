/- Parts. -/
import Derived.Test.YtoohljflflnbeaaGreatDoorFr25
import Derived.Ground.Names2Prog
import Derived.Shelf.Slices.CompactI
set_option linter.unusedSimpArgs false
set_option linter.unusedVariables false
set_option maxHeartbeats 4000000
open Go.Proofs.Tryz
namespace Go.Proofs
open Go.Shelf
def Tryz.RU:Go.Shelf.Ren:=⟨fun | 20=>162 | n=>n,fun | 22=>41 | 3=>3 | 4=>4 | 0=>0 | n=>n,fun | n=>n⟩
theorem Tryz.abX:Go.Proofs.Lays2.n20 prog Tryz.RU:={
 mixed:=ah
 f20:=func162.trans aP
 t0:=underlying0
 a0:=isAgg0
 z0:=sizeOf0
 v0:=zeroValue0
 t3:=underlying3
 a3:=isAgg3
 z3:=sizeOf3
 v3:=zeroValue3
 t4:=underlying4
 a4:=isAgg4
 z4:=sizeOf4
 v4:=zeroValue4
 t22:=underlying41
 a22:=isAgg41
 z22:=sizeOf41
 v22:=zeroValue41
 i3:=by kernel_rfl }
end Go.Proofs
namespace Go.Proofs.YtoohljflflnbeaaGreatDoor
open Go.Av Go.Sort
open Go.Shelf
section
variable {w:World} {X:Nat->Prop} {μ:Mu} {r:Nat}
theorem ML {ty:TypeId} {ss:List Int} {m:jE} {b:Nat} (hm:μ r=some m) (hs:eA w X μ (aq [(r,.sl ty 1 (ss.map fun s=>[D.v (.int .i64 s)]))])) (hb:m.fk=some b) :
  m.sz=1/\∃ cur,w.heap[b]? = some (.cells cur ty (0,0))/\cur.size=m.cap/\ss.length<=m.cap/\m.cap<=maxLen/\∀ i (hi:i < ss.length),cur[i]? = some ((Value.int .i64) ss[i]):=by
 obtain⟨m',cF,ok⟩:=hs.rows r _ (wv r _);rw[hm]at cF;obtain rfl:=AI cF;generalize dJ:Row.sl ty 1 (ss.map fun s=>[D.v (.int .i64 s)])=row at ok
 cases ok with
 | nil bk _=>rw[hb]at bk;cases bk
 | box _ _ _ _ _=>cases dJ
 | mp _ _ _ _=>cases dJ
 | it _ _ _=>cases dJ
 | sl bk bd hh cO hn gK hl hz hr=>
  simp only[Row.sl.injEq]at dJ;obtain⟨rfl,rfl,rfl⟩:=dJ;rw[hb]at bk;obtain rfl:=AI bk;refine⟨bd,_,hh,by simpa using cO,by simpa using hn,gK,fun i hi=>?_⟩;obtain⟨u,hu,C8⟩:=hr i 0 [D.v (.int .i64 ss[i])] (D.v (.int .i64 ss[i])) (by simp[hi]) rfl;have:=C8.scalar;subst this;simpa using hu
theorem TT {ty:TypeId} {ss zs:List Int} {m:jE} {b n:Nat} {os:Array Obj} (hm:μ r=some m) (hs:eA w X μ (aq [(r,.sl ty 1 (ss.map fun s=>[D.v (.int .i64 s)]))])) (hb:m.fk=some b) (hz:zs.length=ss.length) :
  eA (grow (putRow (Value.int .i64) (Sort.ahead w n) b 0 zs.toArray) os) X μ (aq [(r,.sl ty 1 (zs.map fun s=>[D.v (.int .i64 s)]))])/\Ev (jx [r]) w μ (grow (putRow (Value.int .i64) (Sort.ahead w n) b 0 zs.toArray) os) μ:=by
 obtain⟨bd,cur,hh,cO,hn,gK,uR⟩:=ML hm hs hb;have j3:b < w.heap.size:=hs.mF ⟨r,m,hm,hb⟩
 have hsize:(putRow (Value.int .i64) (Sort.ahead w n) b 0 zs.toArray).heap.size=w.heap.size:=by simp[putRow,mapBlock,Sort.ahead]
 have hold:∀ k,k < w.heap.size->k≠b->(grow (putRow (Value.int .i64) (Sort.ahead w n) b 0 zs.toArray) os).heap[k]? = w.heap[k]?:=fun k hk bf=>by
  unfold grow;dsimp only;rw[akm (by rw[hsize];exact hk)];unfold putRow mapBlock Sort.ahead;dsimp only;rw[alb,if_neg (akI bf)]
 have lU:(grow (putRow (Value.int .i64) (Sort.ahead w n) b 0 zs.toArray) os).heap[b]? = some (.cells (putCells (Value.int .i64) 0 zs.toArray cur) ty (0,0)):=by
  unfold grow;dsimp only;rw[akm (by rw[hsize];exact j3)];unfold putRow mapBlock Sort.ahead;dsimp only;rw[alb,if_pos rfl,hh];rfl
 have x8:w.heap.size<=(grow (putRow (Value.int .i64) (Sort.ahead w n) b 0 zs.toArray) os).heap.size:=by
  unfold grow;simp[hsize]
 have ev:Ev (jx [r]) w μ (grow (putRow (Value.int .i64) (Sort.ahead w n) b 0 zs.toArray) os) μ:=⟨x8,rfl,rfl,rfl,fun k hk hr=>⟨hold k hk fun e=>hr ⟨r,m,hm,e ▸ hb⟩,hr⟩,fun _ _ h _=>h⟩;refine⟨⟨fun q row hq=>?_,fun q mq hq=>?_,hs.inj,hs.frame,fun k hk=>akd (hs.fits k hk) x8⟩,ev⟩
 .by_cases e:q=r
  .subst e;rw[wv]at hq;obtain rfl:=AI hq;refine⟨m,hm,.sl hb bd lU (by simpa[putCells]using cO) (by simpa[hz]using hn) gK (fun el ba=>?_) aa fun i j el c hi hj=>?_⟩
   .obtain⟨x,_,rfl⟩:=akh.1 ba;rfl
   .rw[ajK]at hi;obtain⟨x,hx,rfl⟩:=AS.1 hi;have dM:i < zs.length:=(BY.1 hx).1
    have mQ:j=0:=by have:=(BY.1 hj).1;simpa using this
    subst mQ
    obtain rfl:D.v (.int .i64 x)=c:=by simpa using hj
    have cA:i < cur.size:=aa
    refine⟨(Value.int .i64) x,?_,.v _⟩;simp only[akV,akD,putCells,Array.getElem?_mapIdx,ajZ cA,akb];rw[if_pos (by simp;omega)];congr 2;simp only[Nat.sub_zero];rw[getElem!_pos zs.toArray i (by simpa using dM)];simpa using (BY.1 hx).2
  .rw[F2 _ e]at hq;cases hq
 .obtain⟨row,dJ⟩:=hs.lq q mq hq;by_cases e:q=r
  .exact⟨_,by rw[e];exact wv r _⟩
  .rw[F2 _ e]at dJ;cases dJ
theorem TR {ty:TypeId} {ss:List Int} {m:jE} {b:Nat} (hm:μ r=some m) (hs:eA w X μ (aq [(r,.sl ty 1 (ss.map fun s=>[D.v (.int .i64 s)]))])) (hb:m.fk=some b):Holds (Value.int .i64) w b 0 ss.toArray:=by
 obtain⟨bd,cur,hh,cO,hn,gK,uR⟩:=ML hm hs hb;intro j hj
 have c6:j < ss.length:=by simpa using hj
 constructor
 .unfold World.cell?;simp only[hh,akg];rw[getElem!_pos ss.toArray j hj,uR j c6];simp
 .unfold World.frozen?;simp only[hh];simp
theorem TS {ty:TypeId} {ss:List Int} {m:jE} (hm:μ r=some m) (hs:eA w X μ (aq [(r,.sl ty 1 (ss.map fun s=>[D.v (.int .i64 s)]))])) (hb:m.fk=none):ss=[]:=by
 obtain⟨m',cF,ok⟩:=hs.rows r _ (wv r _);rw[hm]at cF;obtain rfl:=AI cF;generalize dJ:Row.sl ty 1 (ss.map fun s=>[D.v (.int .i64 s)])=row at ok
 cases ok with
 | nil _ _=>simp only[Row.sl.injEq]at dJ;simpa using dJ.2.2
 | box bk _ _ _ _=>rw[hb]at bk;cases bk
 | mp bk _ _ _=>rw[hb]at bk;cases bk
 | it bk _ _=>rw[hb]at bk;cases bk
 | sl bk _ _ _ _ _ _ _ _=>rw[hb]at bk;cases bk
end
def pq (ss:List Int):List Int:=ss.mergeSort fun x y=>decide (x<=y)
theorem D5 (ss:List Int):(pq ss).length=ss.length:=by simp[pq]
theorem agM (G:ay) (r:Nat) (ty:TypeId) (ss:List Int) (hl:ss.length < 2^60):MC prog G [r] 161 [.own r 0 ss.length] (aq [(r,.sl ty 1 (ss.map fun s=>[D.v (.int .i64 s)]))]) (.d (.bz [])) (aq [(r,.sl ty 1 ((pq ss).map fun s=>[D.v (.int .i64 s)]))]):=by
 refine⟨iA.of func161 rfl rfl,fun X w μ vs hs dt bd hv=>?_⟩
 obtain⟨v,rfl⟩:∃ v,vs = #[v]:=by
  match vs,bd with
  | ⟨[v]⟩,_=>exact⟨v,rfl⟩
 obtain⟨m,hm,hc⟩:=(hv 0 v _ rfl rfl).lF;have hL:Lays.n189 prog Tryz.RN:={ Tryz.abT with };by_cases h0:ss=[]
 .subst h0
  have e:∃ p cap,v = .slice p 0 cap:=by
   rcases hc with⟨_,rfl,_⟩ | ⟨b,_,rfl,_⟩
   .exact⟨_,_,rfl⟩
   .exact⟨_,_,rfl⟩
  obtain⟨p,cap,rfl⟩:=e;have e1:pq []=[]:=aj2 (by rw[D5];rfl);rw[e1];refine (Any.slices_Sort_int_none hL p cap w).mono fun e w' ⟨he,hw⟩=>?_;subst hw;exact⟨_,_,_,μ,he,⟨rfl,rfl⟩,.d (.bz rfl fun j u c hu hc=>by simp at hu),hs,.refl _ _ _⟩
 .rcases hc with⟨hb,rfl,_,hn⟩ | ⟨b,hb,rfl,hn⟩
  .exact absurd (TS hm hs hb) h0
  .have hH:=TR hm hs hb;have j3:b < w.heap.size:=hs.mF ⟨r,m,hm,hb⟩;rw[ak5];refine (Any.slices_Sort_int hL b 0 (m.cap - 0) ss w hH j3 aa).mono fun e w' ⟨he,n,os,hw⟩=>?_;subst hw;obtain⟨h1,h2⟩:=TT (n:=n) (os:=os) hm hs hb (D5 ss);exact⟨_,_,_,μ,he,⟨rfl,rfl⟩,.d (.bz rfl fun j u c hu hc=>by simp at hu),h1,h2⟩
theorem W7 (G:ay) (r:Nat) (ty:TypeId) (ss:List Int) (hl:ss.length < 2^60):MC prog G [r] 162 [.own r 0 ss.length] (aq [(r,.sl ty 1 (ss.map fun s=>[D.v (.int .i64 s)]))]) (.own r 0 (Lib.compact ss).length) (aq [(r,.sl ty 1 ((Lib.compact ss ++ List.replicate (ss.length - (Lib.compact ss).length) 0).map fun s=>[D.v (.int .i64 s)]))]):=by
 refine⟨iA.of func162 rfl rfl,fun X w μ vs hs dt bd hv=>?_⟩
 obtain⟨v,rfl⟩:∃ v,vs = #[v]:=by
  match vs,bd with
  | ⟨[v]⟩,_=>exact⟨v,rfl⟩
 have js:=hv 0 v _ rfl rfl;obtain⟨m,hm,hc⟩:=js.lF;have hle:=Lib.compact_length_le ss;have hL:Lays2.n20 prog Tryz.RU:={ Tryz.abX with };by_cases h0:ss=[]
 .subst h0;have e0:(Lib.compact ([]:List Int))=[]:=aj2 (by simpa using hle);rw[e0]
  have e:∃ p cap,v = .slice p 0 cap:=by
   rcases hc with⟨_,rfl,_⟩ | ⟨b,_,rfl,_⟩
   .exact⟨_,_,rfl⟩
   .exact⟨_,_,rfl⟩
  obtain⟨p,cap,rfl⟩:=e;refine (Any.slices_Compact_int_empty hL p cap w).mono fun e w' ⟨he,hw⟩=>?_;subst hw;exact⟨_,_,_,μ,he,⟨rfl,rfl⟩,js,hs,.refl _ _ _⟩
 .rcases hc with⟨hb,rfl,_,hn⟩ | ⟨b,hb,rfl,hn⟩
  .exact absurd (TS hm hs hb) h0
  .have hH:=TR hm hs hb;obtain⟨KX,cur,hh,cO,ou,gK,uR⟩:=ML hm hs hb;rw[ak5];refine (Any.slices_Compact_int hL b 0 (m.cap - 0) ss w hH aa aa).mono fun e w' ⟨he,n,hw⟩=>?_
   have hz:(Lib.compact ss ++ List.replicate (ss.length - (Lib.compact ss).length) 0).length=ss.length:=by simp;omega
   obtain⟨h1,h2⟩:=TT (n:=n) (os:=#[]) hm hs hb hz;rw[grow_empty]at h1 h2;subst hw;refine⟨_,_,_,μ,he,⟨rfl,rfl⟩,.own hm (.inr ⟨b,hb,ak,aa⟩),h1,h2⟩
end Go.Proofs.YtoohljflflnbeaaGreatDoor
namespace Go.Proofs.YtoohljflflnbeaaGreatDoor
open Go.Av
theorem Uw:∀ {a b:List Int},a.Pairwise (· < ·)->b.Pairwise (· < ·)->(∀ x,x∈a↔x∈b)->a=b
 | [],[],_,_,_=>rfl
 | [],y :: b,_,_,h=>absurd ((h y).2 ak) ak
 | x :: a,[],_,_,h=>absurd ((h x).1 ak) ak
 | x :: a,y :: b,ha,hb,h=>by
  obtain⟨uM,ny⟩:=aku.1 ha;obtain⟨e9,ea⟩:=aku.1 hb
  have Dh:x=y:=by
   rcases ajX.1 ((h x).1 ak)with e | hx
   .exact e
   .rcases ajX.1 ((h y).2 ak)with e | hy
    .exact e.symm
    .have:=e9 x hx;have:=uM y hy;omega
  subst Dh;rw[Uw ny ea fun z=>?_];constructor
  .intro hz
   rcases ajX.1 ((h z).1 (by simp[hz]))with e | e
   .subst e;have:=uM z hz;omega
   .exact e
  .intro hz
   rcases ajX.1 ((h z).2 (by simp[hz]))with e | e
   .subst e;have:=e9 z hz;omega
   .exact e
theorem LR (d:Array Int):∀ (m:Nat),m<=d.size->∀ j,j < m->d[j]!∈Lib.compactUpTo d m
 | 0,_,j,h=>aa
 | m+1,hm,j,hj=>by
  rw[Lib.compactUpTo_succ];by_cases FW:j < m
  .exact alf _ (LR d m aa j FW)
  .obtain rfl:j=m:=aa
   by_cases hk:Lib.keeps d j=true
   .exact List.mem_append_right _ (by simp[hk])
   .have mQ:j≠0:=by rintro rfl;exact hk (Lib.keeps_lt_one d 0 aa)
    have he:d[j]! = d[j - 1]!:=by
     unfold Lib.keeps at hk;simp[mQ]at hk
     first | exact hk | exact hk.symm
    rw[he];exact alf _ (LR d j aa (j - 1) aa)
theorem Nr (d:Array Int):∀ (m:Nat),m<=d.size->∀ x∈Lib.compactUpTo d m,∃ j,j < m/\x=d[j]!
 | 0,_,x,h=>by simp[Lib.compactUpTo]at h
 | m+1,hm,x,h=>by
  rw[Lib.compactUpTo_succ]at h
  rcases ajR.1 h with h | h
  .obtain⟨j,hj,e⟩:=Nr d m aa x h;exact⟨j,aa,e⟩
  .split at h
   .simp at h;exact⟨m,aa,h⟩
   .simp at h
theorem U1 (d:Array Int) (hs:∀ i j,i<=j->j < d.size->d[i]!<=d[j]!):∀ (m:Nat),m<=d.size->(Lib.compactUpTo d m).Pairwise (· < ·)
 | 0,_=>by simp[Lib.compactUpTo]
 | m+1,hm=>by
  have ih:=U1 d hs m aa;rw[Lib.compactUpTo_succ];by_cases hk:Lib.keeps d m=true
  .rw[if_pos hk,akJ];refine⟨ih,ak,fun a ha b hb=>?_⟩;rw[aj3]at hb;subst hb;obtain⟨j,hj,rfl⟩:=Nr d m aa a ha
   have bf:d[m]!≠d[m - 1]!:=by
    intro he;rw[Lib.keeps_neg aa he]at hk;cases hk
   have h1:=hs j (m - 1) aa aa;have h2:=hs (m - 1) m aa aa;omega
  .rw[if_neg hk,ako];exact ih
theorem agP (l:List Int):(Lib.compact (pq l)).Pairwise (· < ·):=by
 unfold Lib.compact;refine U1 _ (fun i j pL hj=>?_) _ ak
 have hp:(pq l).Pairwise (·<=·):=by
  unfold pq;have:=List.pairwise_mergeSort (le:=fun x y:Int=>decide (x<=y)) (by intro a b c h1 h2;simp only[decide_eq_true_eq]at *;omega) (by intro a b;simp only[akp,decide_eq_true_eq];omega) l
  exact this.imp fun h=>by simpa using h
 generalize pq l=l at hp hj ⊢
 have c6:j < l.length:=by simpa using hj
 rw[getElem!_pos l.toArray i (by simpa using (by omega:i < l.length)),getElem!_pos l.toArray j (by simpa using c6)];simp only[List.getElem_toArray];by_cases he:i=j
 .subst he;omega
 .exact (List.pairwise_iff_getElem.1 hp) i j aa c6 aa
theorem agO {l:List Int} {x:Int}:x∈Lib.compact (pq l)↔x∈l:=by
 have h0:∀ l:List Int,x∈Lib.compact l↔x∈l:=by
  intro l;unfold Lib.compact;constructor
  .intro h;obtain⟨j,hj,rfl⟩:=Nr l.toArray l.length ak x h;rw[getElem!_pos l.toArray j (by simpa using hj)];simp
  .intro h;obtain⟨j,hj,rfl⟩:=aj1.1 h;have:=LR l.toArray l.length ak j hj;rw[getElem!_pos l.toArray j (by simpa using hj)]at this;simpa using this
 rw[h0];unfold pq;exact List.mem_mergeSort
def vQ (p:aS) (r:jd):List Int:=match r.cond with
 | some e=>(fj false e).map (cw p)
 | none=>[]
def lu (p:aS):Nat->List Int
 | 0=>[]
 | i+1=>lu p i ++ vQ p (p.ax.getD i ⟨0,[],none⟩)
theorem IY {p:aS} {i:Nat} (h:i < p.ax.length):lu p (i+1)=lu p i ++ vQ p p.ax[i]:=by
 rw[lu,OF,AT h];rfl
theorem OQ {p:aS} {x:Int}:∀ {n:Nat},n<=p.ax.length->(x∈lu p n↔∃ j,∃ h:j < p.ax.length,j < n/\x∈vQ p p.ax[j])
 | 0,_=>by simp[lu]
 | n+1,hn=>by
  rw[IY aa,ajR,OQ aa];constructor
  .rintro (⟨j,h,hj,hx⟩ | hx)
   .exact⟨j,h,aa,hx⟩
   .exact⟨n,aa,aa,hx⟩
  .rintro⟨j,h,hj,hx⟩;by_cases e:j=n
   .subst e;exact .inr hx
   .exact .inl ⟨j,h,aa,hx⟩
def oU (s:Tx) (r:jd):Bool:=match r.cond with
 | some e=>decide (0<=idx (fun x=>x == s) (fj false e))
 | none=>false
def gp (p:aS):Nat->List Int
 | 0=>[]
 | i+1=>gp p i ++ if p.ax.any (oU (p.names.getD i ⟨[],0,0⟩).name) then [(i:Int)] else []
theorem U7 {p:aS} {i:Nat} (h:i < p.names.length):gp p (i+1)=gp p i ++ if p.ax.any (oU p.names[i].name) then [(i:Int)] else []:=by
 rw[gp,OF,AT h];rfl
theorem HO (p:aS):∀ n,(gp p n).length<=n
 | 0=>ajJ _
 | n+1=>by rw[gp,ajQ];have:=HO p n;split<;>simp<;>omega
theorem zm {p:aS} {x:Int}:∀ {n:Nat},n<=p.names.length->(x∈gp p n↔∃ i,∃ h:i < p.names.length,i < n/\x=i/\p.ax.any (oU p.names[i].name)=true)
 | 0,_=>by simp[gp]
 | n+1,hn=>by
  rw[U7 aa,ajR,zm aa];constructor
  .rintro (⟨j,h,hj,hx⟩ | hx)
   .exact⟨j,h,aa,hx⟩
   .split at hx
    .exact⟨n,aa,aa,by simpa using hx,‹_›⟩
    .cases hx
  .rintro⟨j,h,hj,hx,ha⟩;by_cases e:j=n
   .subst e;exact .inr (by rw[if_pos ha];simpa using hx)
   .exact .inl ⟨j,h,aa,hx,ha⟩
theorem U6 (p:aS):∀ {n:Nat},n<=p.names.length->(gp p n).Pairwise (· < ·)
 | 0,_=>by simp[gp]
 | n+1,hn=>by
  rw[gp,akJ];refine⟨U6 p aa,by split<;>simp,fun a ha b hb=>?_⟩;obtain⟨i,_,hi,rfl,_⟩:=(zm aa).1 ha;split at hb
  .rw[aj3]at hb;omega
  .cases hb
theorem Rc (l:List Tx) (s:Tx):0<=idx (fun x=>x == s) l↔s∈l:=by
 have h:=Gr (fun x:Tx=>x == s) l
 have h2:(l.any fun x=>x == s)=true↔s∈l:=by
  rw[akT];constructor
  .rintro⟨x,hx,he⟩
   have:x=s:=by simpa using he
   exact this ▸ hx
  .exact fun hs=>⟨s,hs,ak⟩
 rw[<- h2,<- h,decide_eq_true_eq]
theorem Mf {s:Tx}:∀ (n:Nat) (e:Ex),SizeOf.sizeOf e<=n->s∈dv false e->s∈dv true e
 | 0,e,hn,_=>by cases e<;>simp at hn
 | n+1,e,hn,h=>by
  have many:∀ l:List Ex,(∀ x∈l,SizeOf.sizeOf x<=n)->s∈gb false l->s∈gb true l:=by
   intro l
   induction l with
   | nil=>intro _ h;simp[gb]at h
   | cons x l ih=>
    intro hl h;rw[gb,ajR]at h ⊢
    rcases h with h | h
    .exact .inl (Mf n x (hl x ak) h)
    .exact .inr (ih (fun y hy=>hl y (by simp[hy])) h)
  have inside:∀ (l:List Ex),SizeOf.sizeOf l<=n->∀ x∈l,SizeOf.sizeOf x<=n:=fun l hl x hx=>by
   have:=aka hx;omega
  cases e with
  | iD b=>simp[dv,dK,ie]at h
  | bit t=>simp[dv,dK,ie]at h
  | jA t=>exact h
  | jm t=>exact h
  | not e=>exact Mf n e (by simp at hn;omega) h
  | and l=>exact many l (inside l (by simp at hn;omega)) h
  | or l=>exact many l (inside l (by simp at hn;omega)) h
theorem Sv {s:Tx} {e:Ex} (h:s∈fj false e):s∈fj true e:=DD.2 (Mf _ e (ajJ _) (DD.1 h))
theorem xy {p:aS} (h:c8 p=none):∀ r∈p.ax,(1<=r.kind/\r.kind<=6)/\¬ cw p r.name < 0/\∃ e,r.cond=some e/\∀ s∈fj true e,¬ cw p s < 0:=fun r hr=>by
 unfold c8 at h;split at h
 .cases h
 split at h
 .cases h
 split at h
 .cases h
 rename_i hB;obtain⟨k,hk,rfl⟩:=aj1.1 hr;have h0:=Fa hB k hk;generalize p.ax[k]=r at h0;obtain⟨kd,nm,cd⟩:=r
 cases cd with
 | none=>cases (show (1:Int)=0 from h0)
 | some e=>
  rw[It]at h0;split at h0
  .cases h0
  rename_i h1;split at h0
  .cases h0
  rename_i h2;split at h0
  .cases h0
  split at h0
  .cases h0
  rename_i h4;refine⟨by simpa using h1,h2,e,rfl,fun s hs hn=>h4 ?_⟩;exact akT.2 ⟨s,hs,by simpa using hn⟩
theorem XG {p:aS} (h:c8 p=none):Lib.compact (pq (lu p p.ax.length))=gp p p.names.length:=by
 have hg:=iB h;have hr:=xy h;refine Uw (agP _) (U6 p (ajJ _)) fun x=>?_;rw[agO,OQ (ajJ _),zm (ajJ _)];constructor
 .rintro⟨j,hj,_,hx⟩;obtain⟨_,_,e,he,aO⟩:=hr _ (By hj);unfold vQ at hx;rw[he]at hx;obtain⟨s,hs,rfl⟩:=akh.1 hx;obtain⟨k,hk,kX,hks⟩:=tu (aO s (Sv hs));have aao:cw p s=k:=kX
  have aar:p.names[k].name=s:=by simpa using hks
  refine⟨k,hk,hk,aao,akT.2 ⟨_,By hj,?_⟩⟩;unfold oU;rw[he,aar];simpa using (Rc _ _).2 hs
 .rintro⟨i,hi,_,rfl,ha⟩;obtain⟨r,QO,hb⟩:=akT.1 ha;obtain⟨j,hj,rfl⟩:=aj1.1 QO;obtain⟨_,_,e,he,aO⟩:=hr _ QO;unfold oU at hb;rw[he]at hb;have hs:=(Rc _ _).1 (by simpa using hb);refine⟨j,hj,hj,?_⟩;unfold vQ;rw[he];exact akh.2 ⟨_,hs,hg.num i hi⟩
structure cL where
 is:List Bool
 ct:List Int
def mC (p:aS):cL:=⟨List.replicate p.names.length false,List.replicate p.names.length 0⟩
def gW (p:aS) (l:List Bool) (s:Tx):Bool:=l.getD (cw p s).toNat false
def sU (is cz:Tx->Bool):Option Ex->Bool
 | some e=>eN is cz e
 | none=>false
def iJ (s:cL) (i:Nat) (m:Int) (yes:Bool):cL:=
 let c:=if yes then (if s.ct.getD i 0+1 < m then s.ct.getD i 0+1 else m) else s.ct.getD i 0
 ⟨s.is.set i (decide (m<=c)),s.ct.set i c⟩
def tX (s:cL) (i:Nat):cL:=⟨s.is.set i false,s.ct.set i 0⟩
def mz (p:aS) (fF t:cL) (r:jd):cL:=
 let i:=(cw p r.name).toNat
 let yes:=sU (gW p t.is) (gW p fF.is) r.cond
 let m:=(p.names.getD i ⟨[],0,0⟩).count
 if r.kind=1 then ⟨t.is.set i yes,t.ct⟩
 else if r.kind=2 then ⟨t.is.set i (t.is.getD i false || yes),t.ct⟩
 else if r.kind=3 then ⟨t.is.set i (t.is.getD i false && !yes),t.ct⟩
 else if r.kind=4 then (if yes then iJ t i m yes else tX (iJ t i m yes) i)
 else if r.kind=5 then iJ t i m yes
 else if r.kind=6 then (if yes then tX t i else t)
 else t
def nK (at':List Int) (cH:List Bool) (is:List Bool):Nat->List Bool
 | 0=>is
 | k+1=>(nK at' cH is k).set (at'.getD k 0).toNat (cH.getD k false)
def bA (p:aS):List Int:=jQ p.names 1 p.names.length
def rm (p:aS) (s:cL) (cH:List Bool):cL:=p.ax.foldl (mz p s) ⟨nK (bA p) cH s.is (bA p).length,s.ct⟩
def UD (p:aS) (s:cL) (cH:List Bool):(Int×Option Nat) ⊕ cL:=match c8 p with
 | some e=>.inl e
 | none=>if cH.length≠(bA p).length\/s.is.length≠p.names.length\/s.ct.length≠p.names.length then .inl (2,none) else .inr (rm p s cH)
def mG (l:List Bool):D:=.sl none (l.map fun b=>[.v (.bool b)])
def fI (l:List Int):D:=.sl none (l.map fun n=>[.v (.int .i64 n)])
def rh (s:cL):List D:=[mG s.is,fI s.ct]
def vJ (s:cL):D:=.agg (rh s)
theorem dV {α:Type} {l:List α} {i:Nat} {d:α} (h:i < l.length):l.getD i d=l[i]:=by
 rw[OF,AT h];rfl
theorem Mg {p:aS} {s:Tx} (h:¬ cw p s < 0):(cw p s).toNat < p.names.length/\cw p s=((cw p s).toNat:Int):=by
 obtain⟨k,hk,kX,_⟩:=tu h;have e:cw p s=(k:Int):=kX;rw[e];exact⟨by simpa using hk,ak⟩
theorem Wc (G:ay) (p:aS) (hp:p.names.length < 2^62) (s:cL) (hl:s.is.length=p.names.length):rb (fun nm=>¬ cw p nm < 0) G 164 [.ip (rh s),.ip (gX p)] (gW p s.is):=by
 intro nm hn;have cu:=yQ G p hp nm;obtain⟨h1,h2⟩:=Mg hn
 have hi:(cw p nm).toNat < s.is.length:=aa
 have sj:gW p s.is nm=s.is[(cw p nm).toNat]:=by unfold gW;exact dV hi
 rw[sj];rw[h2]at cu;clear h1 h2 sj hn;simp only[gu,gX,cE,fg,dS]at cu;simp only[rh,mG,fI,gX,cE,fg];generalize iq:(cw p nm).toNat=i at cu hi ⊢;clear iq hl hp;generalize p.names.map bw=NN at cu ⊢;generalize p.ax.map cU=RR at cu ⊢;generalize s.is=L at hi ⊢;generalize s.ct.map (fun n=>[D.v (.int .i64 n)])=CC;refine aD.aQ (aC _) func164 rfl rfl (rs:=[.tmp 4]) results164 (by simp[ntmps164]) fun X=>?_;simp only[ntmps164,List.map];have fw:=@alw;refine ae fw [0,1,2] [] ?_;have qf:=(Aq fw @hi);refine Bk cu [4] [] ?_;exact aU fw
theorem Wd (G:ay) (p:aS) (hp:p.names.length < 2^62) (s:cL) (hl:s.is.length=p.names.length):rb (fun nm=>¬ cw p nm < 0) G 165 [.ip (rh s),.ip (gX p)] (gW p s.is):=by
 intro nm hn;have cu:=yQ G p hp nm;obtain⟨h1,h2⟩:=Mg hn
 have hi:(cw p nm).toNat < s.is.length:=aa
 have sj:gW p s.is nm=s.is[(cw p nm).toNat]:=by unfold gW;exact dV hi
 rw[sj];rw[h2]at cu;clear h1 h2 sj hn;simp only[gu,gX,cE,fg,dS]at cu;simp only[rh,mG,fI,gX,cE,fg];generalize iq:(cw p nm).toNat=i at cu hi ⊢;clear iq hl hp;generalize p.names.map bw=NN at cu ⊢;generalize p.ax.map cU=RR at cu ⊢;generalize s.is=L at hi ⊢;generalize s.ct.map (fun n=>[D.v (.int .i64 n)])=CC;refine aD.aQ (aC _) func165 rfl rfl (rs:=[.tmp 4]) results165 (by simp[ntmps165]) fun X=>?_;simp only[ntmps165,List.map];have fw:=@alw;refine ae fw [0,1,2] [] ?_;have qf:=(Aq fw @hi);refine Bk cu [4] [] ?_;exact aU fw
def D9 (s:cL):List (Nat×Row):=[(7,.box 88 [.own 701 0 s.is.length,.own 702 0 s.ct.length]),(701,.sl 4 1 (s.is.map fun b=>[.v (.bool b)])),(702,.sl 3 1 (s.ct.map fun n=>[.v (.int .i64 n)]))]
theorem ags (G:ay) (s:cL) (i:Nat) (m:Int) (yes:Bool) (hi:i < s.is.length) (hc:i < s.ct.length) (hb:∀ x∈s.ct,0<=x/\x<=2^40):MC prog G [7] 166 [.ref 7 0 0,.d (ab i),.d (ab m),.d (.v (.bool yes))] (aq (D9 s)) (.d (.bz [])) (aq (D9 (iJ s i m yes))):=by
 have jg:s.ct.getD i 0=s.ct[i]:=dV hc;have pH:=hb s.ct[i] (By hc)
 have hgc:(s.ct.map fun n=>[D.v (.int .i64 n)])[i]? = some [.v (.int .i64 s.ct[i])]:=by simp[hc]
 simp only[D9,iJ,jg]
 cases yes with
 | true=>
  simp only[if_true];refine MC.aQ (aC _) func166 rfl rfl (rs:=[]) results166 (by simp[ntmps166]) rfl fun X=>?_;simp only[ntmps166];have fw:=@alv;refine ag fun K1 aF=>ae fw [0,1,2,8] [7,701,702] ?_;refine aJ (sJ (aC _) ah [(3,7),(9,7),(11,702),(12,702),(15,702),(16,702)] ah fun K' ao=>?_);(repeat refine jC fun Kq af=>?_;simp[ab,hc];(repeat refine⟨aa,?_⟩);refine af _ ?_);refine kN (ao _ ?_);refine aF _ (AW.norm [0,1,2] [7,701,702] (ew rfl) (AW.st (by simp[ab,hc];rfl) ?_));refine sJ (aC _) ah [(3,7),(8,7),(10,702),(11,702),(14,701),(15,701)] ah fun K' ao=>?_;(repeat refine jC fun Kq af=>?_;simp[ab,hc,hi];(repeat refine⟨aa,?_⟩);refine af _ ?_);refine kN (ao _ ?_);(try simp only[aV,aX]);simp[D.le,D.le.go,ajV]
 | false=>
  simp only[ajM,if_false];refine MC.aQ (aC _) func166 rfl rfl (rs:=[]) results166 (by simp[ntmps166]) rfl fun X=>?_;simp only[ntmps166];have fw:=@alv;refine ag fun K1 aF=>ae fw [0,1,2,8] [7,701,702] ?_;refine al (ar (aF _ ?_));refine sJ (aC _) ah [(3,7),(8,7),(10,702),(11,702),(14,701),(15,701)] ah fun K' ao=>?_;(repeat refine jC fun Kq af=>?_;simp[ab,hc,hi];(repeat refine⟨aa,?_⟩);refine af _ ?_);refine kN (ao _ ?_);(try simp only[aV,aX]);simp[D.le,D.le.go,ajV]
theorem WU {p:aS} (h:c8 p=none):∀ r∈p.ax,(p.names.getD (cw p r.name).toNat ⟨[],0,0⟩).kind=jY r.kind:=fun r hr=>by
 unfold c8 at h;split at h
 .cases h
 split at h
 .cases h
 split at h
 .cases h
 rename_i hB;obtain⟨k,hk,rfl⟩:=aj1.1 hr;have h0:=Fa hB k hk;generalize p.ax[k]=r at h0;obtain⟨kd,nm,cd⟩:=r
 cases cd with
 | none=>cases (show (1:Int)=0 from h0)
 | some e=>
  rw[It]at h0;split at h0
  .cases h0
  split at h0
  .cases h0
  split at h0
  .cases h0
  rename_i h3;simp only[akP,decide_eq_false_iff_not,Classical.not_not]at h3;exact h3.symm
structure fV (p:aS) (s:cL):Prop where
 l1:s.is.length=p.names.length
 l2:s.ct.length=p.names.length
 lo:∀ k,0<=s.ct.getD k 0
 hi:∀ k (hk:k < p.names.length),s.ct.getD k 0<=p.names[k].count
 at':∀ k (hk:k < p.names.length),3<=p.names[k].kind->s.is.getD k false=decide (s.ct.getD k 0=p.names[k].count)
theorem vX {α:Type} (n k:Nat) (x:α):(List.replicate n x).getD k x=x:=by
 rw[OF,List.getElem?_replicate];split<;>rfl
theorem kb {α:Type} {l:List α} {i:Nat} {x d:α} (h:i < l.length):(l.set i x).getD i d=x:=by
 rw[OF,List.getElem?_set_self h];rfl
theorem gw {α:Type} {l:List α} {i k:Nat} {x d:α} (h:i≠k):(l.set i x).getD k d=l.getD k d:=by
 rw[OF,List.getElem?_set_ne h,OF]
theorem agV {p:aS} (h:kS p):fV p (mC p):=by
 refine⟨by simp[mC],by simp[mC],fun k=>?_,fun k hk=>?_,fun k hk h3=>?_⟩
 .show 0<=(List.replicate _ (0:Int)).getD k 0;rw[vX];exact als _
 .show (List.replicate _ (0:Int)).getD k 0<=_;rw[vX]
  rcases h.count _ (By hk)with h1 | h1<;>omega
 .show (List.replicate _ false).getD k false=decide ((List.replicate _ (0:Int)).getD k 0=_);rw[vX,vX]
  rcases h.count _ (By hk)with h1 | h1
  .omega
  .exact (decide_eq_false aa).symm
theorem D2 {p:aS} {t:cL} (ht:fV p t) {i:Nat} (hi:i < p.names.length) (hk:p.names[i].kind < 3) (b:Bool):fV p ⟨t.is.set i b,t.ct⟩:=by
 refine⟨by simp[ht.l1],ht.l2,ht.lo,ht.hi,fun k gy h3=>?_⟩
 have bf:i≠k:=fun e=>by subst e;omega
 show (t.is.set i b).getD k false=_;rw[gw bf];exact ht.at' k gy h3
theorem Vg {p:aS} (hg:kS p) {t:cL} (ht:fV p t) {i:Nat} (hi:i < p.names.length):fV p (tX t i):=by
 refine⟨by simp[tX,ht.l1],by simp[tX,ht.l2],fun k=>?_,fun k hk=>?_,fun k hk h3=>?_⟩
 .show 0<=(t.ct.set i 0).getD k 0;by_cases e:i=k
  .subst e;rw[kb (by rw[ht.l2];exact hi)];exact als _
  .rw[gw e];exact ht.lo k
 .show (t.ct.set i 0).getD k 0<=_;by_cases e:i=k
  .subst e;rw[kb (by rw[ht.l2];exact hi)]
   rcases hg.count _ (By hk)with h1 | h1<;>omega
  .rw[gw e];exact ht.hi k hk
 .show (t.is.set i false).getD k false=decide ((t.ct.set i 0).getD k 0=_);by_cases e:i=k
  .subst e;rw[kb (by first | (rw[ht.l1];exact hi) | (rw[ht.l2];exact hi)),kb (by first | (rw[ht.l2];exact hi) | (rw[ht.l1];exact hi))]
   rcases hg.count _ (By hk)with h1 | h1
   .omega
   .exact (decide_eq_false aa).symm
  .rw[gw e,gw e];exact ht.at' k hk h3
theorem MO {p:aS} (hg:kS p) {t:cL} (ht:fV p t) {i:Nat} (hi:i < p.names.length) (yes:Bool):fV p (iJ t i p.names[i].count yes):=by
 have h0:=ht.lo i;have h1:=ht.hi i hi;have ly:=hg.count _ (By hi);obtain⟨c,ZN,hc⟩:∃ c,c=(if yes then (if t.ct.getD i 0+1 < p.names[i].count then t.ct.getD i 0+1 else p.names[i].count) else t.ct.getD i 0)/\0<=c/\c<=p.names[i].count:=⟨_,rfl,by split<;>(try split)<;>omega,by split<;>(try split)<;>omega⟩
 have e:iJ t i p.names[i].count yes=⟨t.is.set i (decide (p.names[i].count<=c)),t.ct.set i c⟩:=by
  rw[ZN];rfl
 rw[e];refine⟨by simp[ht.l1],by simp[ht.l2],fun k=>?_,fun k hk=>?_,fun k hk h3=>?_⟩
 .show 0<=(t.ct.set i c).getD k 0;by_cases e:i=k
  .subst e;rw[kb (by rw[ht.l2];exact hi)];omega
  .rw[gw e];exact ht.lo k
 .show (t.ct.set i c).getD k 0<=_;by_cases e:i=k
  .subst e;rw[kb (by rw[ht.l2];exact hi)];omega
  .rw[gw e];exact ht.hi k hk
 .show (t.is.set i _).getD k false=decide ((t.ct.set i c).getD k 0=_);by_cases e:i=k
  .subst e;rw[kb (by first | (rw[ht.l1];exact hi) | (rw[ht.l2];exact hi)),kb (by first | (rw[ht.l2];exact hi) | (rw[ht.l1];exact hi))];congr 1;exact propext ⟨fun h=>aa,fun h=>aa⟩
  .rw[gw e,gw e];exact ht.at' k hk h3
theorem Hs {p:aS} (hc:c8 p=none) {r:jd} (hr:r∈p.ax):∃ i,∃ hi:i < p.names.length,cw p r.name=(i:Int)/\p.names[i].kind=jY r.kind/\p.names.getD i ⟨[],0,0⟩=p.names[i]:=by
 obtain⟨_,h2,_⟩:=xy hc r hr;obtain⟨h3,h4⟩:=Mg h2;have h5:=WU hc r hr;have h6:p.names.getD (cw p r.name).toNat ⟨[],0,0⟩=p.names[(cw p r.name).toNat]:=dV h3;rw[h6]at h5;exact⟨_,h3,h4,h5,h6⟩
theorem Uh {p:aS} (hc:c8 p=none) {r:jd} (hr:r∈p.ax) (fF:cL) {t:cL} (ht:fV p t):fV p (mz p fF t r)/\∀ k (hk:k < p.names.length),p.names[k].kind=1->(mz p fF t r).is.getD k false=t.is.getD k false:=by
 have hg:=iB hc;obtain⟨i,hi,hn,hw,hd⟩:=Hs hc hr;obtain⟨hk,_⟩:=xy hc r hr;unfold mz;simp only[hn,ajI,hd]
 have j5:p.names[i].kind≠1:=by rw[hw];unfold jY;split<;>(try split)<;>omega
 have off:∀ k (hk:k < p.names.length),p.names[k].kind=1->i≠k:=fun k hk h1 e=>by subst e;exact j5 h1
 have Kr:r.kind<=3->p.names[i].kind < 3:=fun h=>by rw[hw];unfold jY;rw[if_pos h];omega
 split
 .exact⟨D2 ht hi (Kr aa) _,fun k hk h1=>gw (off k hk h1)⟩
 split
 .exact⟨D2 ht hi (Kr aa) _,fun k hk h1=>gw (off k hk h1)⟩
 split
 .exact⟨D2 ht hi (Kr aa) _,fun k hk h1=>gw (off k hk h1)⟩
 split
 .split
  .exact⟨MO hg ht hi _,fun k hk h1=>gw (off k hk h1)⟩
  .refine⟨Vg hg (MO hg ht hi _) hi,fun k hk h1=>?_⟩;show ((iJ t i _ _).is.set i false).getD k false=_;rw[gw (off k hk h1)];exact gw (off k hk h1)
 split
 .exact⟨MO hg ht hi _,fun k hk h1=>gw (off k hk h1)⟩
 split
 .split
  .exact⟨Vg hg ht hi,fun k hk h1=>gw (off k hk h1)⟩
  .exact⟨ht,fun k hk h1=>rfl⟩
 .exact⟨ht,fun k hk h1=>rfl⟩
theorem Ht {p:aS} (hc:c8 p=none) (fF:cL):∀ (l:List jd) {t:cL},(∀ r∈l,r∈p.ax)->fV p t->fV p (l.foldl (mz p fF) t)/\∀ k (hk:k < p.names.length),p.names[k].kind=1->(l.foldl (mz p fF) t).is.getD k false=t.is.getD k false
 | [],t,_,ht=>⟨ht,fun k hk h1=>rfl⟩
 | r :: l,t,hl,ht=>by
  obtain⟨h1,h2⟩:=Uh hc (hl r ak) fF ht;obtain⟨h3,h4⟩:=Ht hc fF l (fun r hr=>hl r (by simp[hr])) h1;exact⟨h3,fun k hk bQ=>(h4 k hk bQ).trans (h2 k hk bQ)⟩
theorem Lv {l:List gV} {k:Int} {x:Int}:∀ {n:Nat},n<=l.length->(x∈jQ l k n↔∃ i,∃ hi:i < l.length,i < n/\x=(i:Int)/\l[i].kind=k)
 | 0,_=>by simp[jQ]
 | n+1,hn=>by
  rw[GF aa,ajR,Lv aa];constructor
  .rintro (⟨i,hi,h1,h2,h3⟩ | h)
   .exact⟨i,hi,aa,h2,h3⟩
   .split at h
    .rename_i hk;exact⟨n,aa,aa,by simpa using h,hk⟩
    .cases h
  .rintro⟨i,hi,h1,h2,h3⟩;by_cases e:i=n
   .subst e;right;rw[if_pos h3];simp[h2]
   .exact .inl ⟨i,hi,aa,h2,h3⟩
theorem RC {l:List gV} {k:Int}:∀ {n:Nat},n<=l.length->(jQ l k n).Nodup
 | 0,_=>by simp[jQ]
 | n+1,hn=>by
  rw[GF aa,List.nodup_append];refine⟨RC aa,by split<;>simp,fun a ha b hb e=>?_⟩;subst e;obtain⟨i,hi,h1,h2,_⟩:=(Lv aa).1 ha;split at hb
  .have:a=(n:Int):=by simpa using hb
   omega
  .cases hb
theorem AP {p:aS} {j:Nat} (hj:j < (bA p).length):∃ i,∃ hi:i < p.names.length,(bA p)[j]=(i:Int)/\p.names[i].kind=1:=by
 obtain⟨i,hi,_,h2,h3⟩:=(Lv (ajJ _)).1 (By hj);exact⟨i,hi,h2,h3⟩
theorem MD {at':List Int} {cH is:List Bool} {k i:Nat} (h:k < at'.length) (hi:at'[k]=(i:Int)):nK at' cH is (k+1)=(nK at' cH is k).set i (cH.getD k false):=by
 rw[nK,dV h,hi];rfl
theorem y3 {p:aS} (cH:List Bool) {s:cL} (hs:fV p s):∀ k,k<=(bA p).length->fV p ⟨nK (bA p) cH s.is k,s.ct⟩/\∀ j (hj:j < k) (pM:j < (bA p).length),(nK (bA p) cH s.is k).getD (bA p)[j].toNat false=cH.getD j false
 | 0,_=>⟨hs,fun j hj=>absurd hj aa⟩
 | k+1,hk=>by
  obtain⟨h1,h2⟩:=y3 cH hs k aa;obtain⟨i,hi,he,h3⟩:=AP (p:=p) (j:=k) aa;rw[MD aa he];refine⟨D2 h1 hi aa _,fun j hj pM=>?_⟩;by_cases e:j=k
  .subst e;rw[he,ajI,kb (by rw[h1.l1];exact hi)]
  .have bf:i≠(bA p)[j].toNat:=fun e2=>by
    obtain⟨i2,gJ,lR,_⟩:=AP (p:=p) pM;rw[lR,ajI]at e2
    have:(bA p)[j]=(bA p)[k]:=by rw[he,lR,e2]
    exact e ((List.getElem_inj (RC (ajJ _))).1 this)
   rw[gw bf];exact h2 j aa pM
theorem IW {p:aS} (hc:c8 p=none) {s:cL} (hs:fV p s) (cH:List Bool):fV p (rm p s cH)/\∀ j (hj:j < (bA p).length),(rm p s cH).is.getD (bA p)[j].toNat false=cH.getD j false:=by
 obtain⟨h1,h2⟩:=y3 cH hs (bA p).length (ajJ _);obtain⟨h3,h4⟩:=Ht hc s p.ax (fun r hr=>hr) h1;refine⟨h3,fun j hj=>?_⟩;obtain⟨i,hi,he,hk⟩:=AP hj;have:=h2 j hj hj;rw[he,ajI]at this ⊢;exact (h4 i hi hk).trans this
theorem abg {p:aS} (hc:c8 p=none) {s:cL} (hs:fV p s):∀ x∈s.ct,0<=x/\x<=2^20:=fun x hx=>by
 obtain⟨k,hk,rfl⟩:=aj1.1 hx
 have fP:k < p.names.length:=by rw[<- hs.l2];exact hk
 have h1:=hs.lo k;have h2:=hs.hi k fP;rw[dV hk]at h1 h2
 rcases (iB hc).count _ (By fP)with h3 | h3<;>omega
