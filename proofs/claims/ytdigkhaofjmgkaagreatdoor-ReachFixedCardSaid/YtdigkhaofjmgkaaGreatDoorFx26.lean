/- Parts. -/
import Derived.Test.YtdigkhaofjmgkaaGreatDoorFx25
import Derived.Ground.Names2Prog
import Derived.Shelf.Slices.CompactI
set_option linter.unusedSimpArgs false
set_option linter.unusedVariables false
set_option maxHeartbeats 4000000
open Go.Proofs.Tryz
namespace Go.Proofs
open Go.Shelf
def Tryz.Ka:Go.Shelf.Ren:=⟨fun | 20=>129 | n=>n,fun | 22=>46 | 3=>3 | 4=>4 | 0=>0 | n=>n,fun | n=>n⟩
theorem Tryz.Ua:Go.Proofs.Lays2.n20 prog Tryz.Ka:={
 mixed:=by kernel_rfl
 f20:=func129.trans (congrArg some (by kernel_rfl))
 t0:=underlying0
 a0:=isAgg0
 z0:=sizeOf0
 v0:=zeroValue0
 t3:=underlying3
 a3:=isAgg3
 z3:=sizeOf3
 v3:=zeroValue3
 t4:=underlying4
 a4:=isAgg4
 z4:=sizeOf4
 v4:=zeroValue4
 t22:=underlying46
 a22:=isAgg46
 z22:=sizeOf46
 v22:=zeroValue46
 i3:=by kernel_rfl }
end Go.Proofs
namespace Go.Proofs.YtdigkhaofjmgkaaGreatDoor
open Go.Av Go.Sort
open Go.Shelf
section
variable {w:World} {X:Nat->Prop} {μ:Mu} {r:Nat}
theorem FB {ty:TypeId} {ss:List Int} {m:gp} {b:Nat} (hm:μ r=some m) (hs:Sim w X μ (ak [(r,.sl ty 1 (ss.map fun s=>[D.v (.int .i64 s)]))])) (hb:m.blk=some b) :
  m.sz=1/\∃ cur,w.heap[b]? = some (.cells cur ty (0,0))/\cur.size=m.cap/\ss.length<=m.cap/\m.cap<=maxLen/\∀ i (hi:i < ss.length),cur[i]? = some ((Value.int .i64) ss[i]):=by
 obtain⟨m',bU,ok⟩:=hs.rows r _ (qR r _);rw[hm]at bU;obtain rfl:=AI bU;generalize cF:Row.sl ty 1 (ss.map fun s=>[D.v (.int .i64 s)])=row at ok
 cases ok with
 | nil aU _=>rw[hb]at aU;cases aU
 | box _ _ _ _ _=>cases cF
 | mp _ _ _ _=>cases cF
 | it _ _ _=>cases cF
 | sl aU aK hh b8 hn fh hl hz hr=>
  simp only[Row.sl.injEq]at cF;obtain⟨rfl,rfl,rfl⟩:=cF;rw[hb]at aU;obtain rfl:=AI aU;refine⟨aK,_,hh,by simpa using b8,by simpa using hn,fh,fun i hi=>?_⟩;obtain⟨u,hu,xj⟩:=hr i 0 [D.v (.int .i64 ss[i])] (D.v (.int .i64 ss[i])) (by simp[hi]) rfl;have:=xj.scalar;subst this;simpa using hu
theorem LK {ty:TypeId} {ss zs:List Int} {m:gp} {b n:Nat} {os:Array Obj} (hm:μ r=some m) (hs:Sim w X μ (ak [(r,.sl ty 1 (ss.map fun s=>[D.v (.int .i64 s)]))])) (hb:m.blk=some b) (hz:zs.length=ss.length) :
  Sim (grow (putRow (Value.int .i64) (Sort.ahead w n) b 0 zs.toArray) os) X μ (ak [(r,.sl ty 1 (zs.map fun s=>[D.v (.int .i64 s)]))])/\Ev (gg [r]) w μ (grow (putRow (Value.int .i64) (Sort.ahead w n) b 0 zs.toArray) os) μ:=by
 obtain⟨aK,cur,hh,b8,hn,fh,sb⟩:=FB hm hs hb;have gM:b < w.heap.size:=hs.jl ⟨r,m,hm,hb⟩
 have hsize:(putRow (Value.int .i64) (Sort.ahead w n) b 0 zs.toArray).heap.size=w.heap.size:=by simp[putRow,mapBlock,Sort.ahead]
 have hold:∀ k,k < w.heap.size->k≠b->(grow (putRow (Value.int .i64) (Sort.ahead w n) b 0 zs.toArray) os).heap[k]? = w.heap[k]?:=fun k hk aI=>by
  unfold grow;dsimp only;rw[acM (by rw[hsize];exact hk)];unfold putRow mapBlock Sort.ahead;dsimp only;rw[aeJ,if_neg (adr aI)]
 have jw:(grow (putRow (Value.int .i64) (Sort.ahead w n) b 0 zs.toArray) os).heap[b]? = some (.cells (putCells (Value.int .i64) 0 zs.toArray cur) ty (0,0)):=by
  unfold grow;dsimp only;rw[acM (by rw[hsize];exact gM)];unfold putRow mapBlock Sort.ahead;dsimp only;rw[aeJ,if_pos rfl,hh];rfl
 have sk:w.heap.size<=(grow (putRow (Value.int .i64) (Sort.ahead w n) b 0 zs.toArray) os).heap.size:=by
  unfold grow;simp[hsize]
 have ev:Ev (gg [r]) w μ (grow (putRow (Value.int .i64) (Sort.ahead w n) b 0 zs.toArray) os) μ:=⟨sk,rfl,rfl,rfl,fun k hk hr=>⟨hold k hk fun e=>hr ⟨r,m,hm,e ▸ hb⟩,hr⟩,fun _ _ h _=>h⟩;refine⟨⟨fun q row hq=>?_,fun q mq hq=>?_,hs.inj,hs.frame,fun k hk=>acP (hs.fits k hk) sk⟩,ev⟩
 .by_cases e:q=r
  .subst e;rw[qR]at hq;obtain rfl:=AI hq;refine⟨m,hm,.sl hb aK jw (by simpa[putCells]using b8) (by simpa[hz]using hn) fh (fun el hel=>?_) (by omega) fun i j el c hi hj=>?_⟩
   .obtain⟨x,_,rfl⟩:=acD.1 hel;rfl
   .rw[abM]at hi;obtain⟨x,hx,rfl⟩:=AT.1 hi;have c6:i < zs.length:=(OF.1 hx).1
    have jt:j=0:=by have:=(OF.1 hj).1;simpa using this
    subst jt
    obtain rfl:D.v (.int .i64 x)=c:=by simpa using hj
    have hcl:i < cur.size:=by omega
    refine⟨(Value.int .i64) x,?_,.v _⟩;simp only[aen,adF,putCells,Array.getElem?_mapIdx,acb hcl,acN];rw[if_pos (by simp;omega)];congr 2;simp only[Nat.sub_zero];rw[getElem!_pos zs.toArray i (by simpa using c6)];simpa using (OF.1 hx).2
  .rw[zK _ e]at hq;cases hq
 .obtain⟨row,cF⟩:=hs.iy q mq hq;by_cases e:q=r
  .exact⟨_,by rw[e];exact qR r _⟩
  .rw[zK _ e]at cF;cases cF
theorem LI {ty:TypeId} {ss:List Int} {m:gp} {b:Nat} (hm:μ r=some m) (hs:Sim w X μ (ak [(r,.sl ty 1 (ss.map fun s=>[D.v (.int .i64 s)]))])) (hb:m.blk=some b):Holds (Value.int .i64) w b 0 ss.toArray:=by
 obtain⟨aK,cur,hh,b8,hn,fh,sb⟩:=FB hm hs hb;intro j hj
 have hj':j < ss.length:=by simpa using hj
 constructor
 .unfold World.cell?;simp only[hh,acR];rw[getElem!_pos ss.toArray j hj,sb j hj'];simp
 .unfold World.frozen?;simp only[hh];simp
theorem LJ {ty:TypeId} {ss:List Int} {m:gp} (hm:μ r=some m) (hs:Sim w X μ (ak [(r,.sl ty 1 (ss.map fun s=>[D.v (.int .i64 s)]))])) (hb:m.blk=none):ss=[]:=by
 obtain⟨m',bU,ok⟩:=hs.rows r _ (qR r _);rw[hm]at bU;obtain rfl:=AI bU;generalize cF:Row.sl ty 1 (ss.map fun s=>[D.v (.int .i64 s)])=row at ok
 cases ok with
 | nil _ _=>simp only[Row.sl.injEq]at cF;simpa using cF.2.2
 | box aU _ _ _ _=>rw[hb]at aU;cases aU
 | mp aU _ _ _=>rw[hb]at aU;cases aU
 | it aU _ _=>rw[hb]at aU;cases aU
 | sl aU _ _ _ _ _ _ _ _=>rw[hb]at aU;cases aU
end
def aeq (ss:List Int):List Int:=ss.mergeSort fun x y=>decide (x<=y)
theorem agw (ss:List Int):(aeq ss).length=ss.length:=by simp[aeq]
theorem YT (G:aq) (r:Nat) (ty:TypeId) (ss:List Int) (hl:ss.length < 2^60):MC prog G [r] 128 [.own r 0 ss.length] (ak [(r,.sl ty 1 (ss.map fun s=>[D.v (.int .i64 s)]))]) (.d (.aW [])) (ak [(r,.sl ty 1 ((aeq ss).map fun s=>[D.v (.int .i64 s)]))]):=by
 refine⟨fe.of func128 rfl rfl,fun X w μ vs hs hgl aK hv=>?_⟩
 obtain⟨v,rfl⟩:∃ v,vs = #[v]:=by
  match vs,aK with
  | ⟨[v]⟩,_=>exact⟨v,rfl⟩
 obtain⟨m,hm,hc⟩:=(hv 0 v _ rfl rfl).je;have hL:Lays.n189 prog Tryz.J6:={ Tryz.T6 with };by_cases h0:ss=[]
 .subst h0
  have e:∃ p cap,v = .slice p 0 cap:=by
   rcases hc with⟨_,rfl,_⟩ | ⟨b,_,rfl,_⟩
   .exact⟨_,_,rfl⟩
   .exact⟨_,_,rfl⟩
  obtain⟨p,cap,rfl⟩:=e;have e1:aeq []=[]:=acq (by rw[agw];rfl);rw[e1];refine (Any.slices_Sort_int_none hL p cap w).mono fun e w' ⟨he,hw⟩=>?_;subst hw;exact⟨_,_,_,μ,he,⟨rfl,rfl⟩,.d (.aW rfl fun j u c hu hc=>by simp at hu),hs,.refl _ _ _⟩
 .rcases hc with⟨hb,rfl,_,hn⟩ | ⟨b,hb,rfl,hn⟩
  .exact absurd (LJ hm hs hb) h0
  .have hH:=LI hm hs hb;have gM:b < w.heap.size:=hs.jl ⟨r,m,hm,hb⟩;rw[aea];refine (Any.slices_Sort_int hL b 0 (m.cap - 0) ss w hH gM (by omega)).mono fun e w' ⟨he,n,os,hw⟩=>?_;subst hw;obtain⟨h1,h2⟩:=LK (n:=n) (os:=os) hm hs hb (agw ss);exact⟨_,_,_,μ,he,⟨rfl,rfl⟩,.d (.aW rfl fun j u c hu hc=>by simp at hu),h1,h2⟩
theorem ON (G:aq) (r:Nat) (ty:TypeId) (ss:List Int) (hl:ss.length < 2^60):MC prog G [r] 129 [.own r 0 ss.length] (ak [(r,.sl ty 1 (ss.map fun s=>[D.v (.int .i64 s)]))]) (.own r 0 (Lib.compact ss).length) (ak [(r,.sl ty 1 ((Lib.compact ss ++ List.replicate (ss.length - (Lib.compact ss).length) 0).map fun s=>[D.v (.int .i64 s)]))]):=by
 refine⟨fe.of func129 rfl rfl,fun X w μ vs hs hgl aK hv=>?_⟩
 obtain⟨v,rfl⟩:∃ v,vs = #[v]:=by
  match vs,aK with
  | ⟨[v]⟩,_=>exact⟨v,rfl⟩
 have ga:=hv 0 v _ rfl rfl;obtain⟨m,hm,hc⟩:=ga.je;have hle:=Lib.compact_length_le ss;have hL:Lays2.n20 prog Tryz.Ka:={ Tryz.Ua with };by_cases h0:ss=[]
 .subst h0;have e0:(Lib.compact ([]:List Int))=[]:=acq (by simpa using hle);rw[e0]
  have e:∃ p cap,v = .slice p 0 cap:=by
   rcases hc with⟨_,rfl,_⟩ | ⟨b,_,rfl,_⟩
   .exact⟨_,_,rfl⟩
   .exact⟨_,_,rfl⟩
  obtain⟨p,cap,rfl⟩:=e;refine (Any.slices_Compact_int_empty hL p cap w).mono fun e w' ⟨he,hw⟩=>?_;subst hw;exact⟨_,_,_,μ,he,⟨rfl,rfl⟩,ga,hs,.refl _ _ _⟩
 .rcases hc with⟨hb,rfl,_,hn⟩ | ⟨b,hb,rfl,hn⟩
  .exact absurd (LJ hm hs hb) h0
  .have hH:=LI hm hs hb;obtain⟨D4,cur,hh,b8,kh,fh,sb⟩:=FB hm hs hb;rw[aea];refine (Any.slices_Compact_int hL b 0 (m.cap - 0) ss w hH (by omega) (by omega)).mono fun e w' ⟨he,n,hw⟩=>?_
   have hz:(Lib.compact ss ++ List.replicate (ss.length - (Lib.compact ss).length) 0).length=ss.length:=by simp;omega
   obtain⟨h1,h2⟩:=LK (n:=n) (os:=#[]) hm hs hb hz;rw[grow_empty]at h1 h2;subst hw;refine⟨_,_,_,μ,he,⟨rfl,rfl⟩,.own hm (.inr ⟨b,hb,by simp,by omega⟩),h1,h2⟩
end Go.Proofs.YtdigkhaofjmgkaaGreatDoor
namespace Go.Proofs.YtdigkhaofjmgkaaGreatDoor
open Go.Av
theorem Mg:∀ {a b:List Int},a.Pairwise (· < ·)->b.Pairwise (· < ·)->(∀ x,x∈a↔x∈b)->a=b
 | [],[],_,_,_=>rfl
 | [],y :: b,_,_,h=>absurd ((h y).2 (by simp)) (by simp)
 | x :: a,[],_,_,h=>absurd ((h x).1 (by simp)) (by simp)
 | x :: a,y :: b,ha,hb,h=>by
  obtain⟨wK,ha2⟩:=acA.1 ha;obtain⟨hb1,hb2⟩:=acA.1 hb
  have xu:x=y:=by
   rcases abV.1 ((h x).1 (by simp))with e | hx
   .exact e
   .rcases abV.1 ((h y).2 (by simp))with e | hy
    .exact e.symm
    .have:=hb1 x hx;have:=wK y hy;omega
  subst xu;rw[Mg ha2 hb2 fun z=>?_];constructor
  .intro hz
   rcases abV.1 ((h z).1 (by simp[hz]))with e | e
   .subst e;have:=wK z hz;omega
   .exact e
  .intro hz
   rcases abV.1 ((h z).2 (by simp[hz]))with e | e
   .subst e;have:=hb1 z hz;omega
   .exact e
theorem EL (d:Array Int):∀ (m:Nat),m<=d.size->∀ j,j < m->d[j]!∈Lib.compactUpTo d m
 | 0,_,j,h=>by omega
 | m+1,hm,j,hj=>by
  rw[Lib.compactUpTo_succ];by_cases zG:j < m
  .exact aeQ _ (EL d m (by omega) j zG)
  .obtain rfl:j=m:=by omega
   by_cases hk:Lib.keeps d j=true
   .exact List.mem_append_right _ (by simp[hk])
   .have jt:j≠0:=by rintro rfl;exact hk (Lib.keeps_lt_one d 0 (by omega))
    have he:d[j]! = d[j - 1]!:=by
     unfold Lib.keeps at hk;simp[jt]at hk
     first | exact hk | exact hk.symm
    rw[he];exact aeQ _ (EL d j (by omega) (j - 1) (by omega))
theorem Ga (d:Array Int):∀ (m:Nat),m<=d.size->∀ x∈Lib.compactUpTo d m,∃ j,j < m/\x=d[j]!
 | 0,_,x,h=>by simp[Lib.compactUpTo]at h
 | m+1,hm,x,h=>by
  rw[Lib.compactUpTo_succ]at h
  rcases ab4.1 h with h | h
  .obtain⟨j,hj,e⟩:=Ga d m (by omega) x h;exact⟨j,by omega,e⟩
  .split at h
   .simp at h;exact⟨m,by omega,h⟩
   .simp at h
theorem ahs (d:Array Int) (hs:∀ i j,i<=j->j < d.size->d[i]!<=d[j]!):∀ (m:Nat),m<=d.size->(Lib.compactUpTo d m).Pairwise (· < ·)
 | 0,_=>by simp[Lib.compactUpTo]
 | m+1,hm=>by
  have ih:=ahs d hs m (by omega);rw[Lib.compactUpTo_succ];by_cases hk:Lib.keeps d m=true
  .rw[if_pos hk,acE];refine⟨ih,by simp,fun a ha b hb=>?_⟩;rw[acV]at hb;subst hb;obtain⟨j,hj,rfl⟩:=Ga d m (by omega) a ha
   have aI:d[m]!≠d[m - 1]!:=by
    intro he;rw[Lib.keeps_neg (by omega) he]at hk;cases hk
   have h1:=hs j (m - 1) (by omega) (by omega);have h2:=hs (m - 1) m (by omega) (by omega);omega
  .rw[if_neg hk,adp];exact ih
theorem YW (l:List Int):(Lib.compact (aeq l)).Pairwise (· < ·):=by
 unfold Lib.compact;refine ahs _ (fun i j lp hj=>?_) _ (by simp)
 have hp:(aeq l).Pairwise (·<=·):=by
  unfold aeq;have:=List.pairwise_mergeSort (le:=fun x y:Int=>decide (x<=y)) (by intro a b c h1 h2;simp only[decide_eq_true_eq]at *;omega) (by intro a b;simp only[acI,decide_eq_true_eq];omega) l
  exact this.imp fun h=>by simpa using h
 generalize aeq l=l at hp hj ⊢
 have hj':j < l.length:=by simpa using hj
 rw[getElem!_pos l.toArray i (by simpa using (by omega:i < l.length)),getElem!_pos l.toArray j (by simpa using hj')];simp only[List.getElem_toArray];by_cases he:i=j
 .subst he;omega
 .exact (List.pairwise_iff_getElem.1 hp) i j (by omega) hj' (by omega)
theorem YV {l:List Int} {x:Int}:x∈Lib.compact (aeq l)↔x∈l:=by
 have h0:∀ l:List Int,x∈Lib.compact l↔x∈l:=by
  intro l;unfold Lib.compact;constructor
  .intro h;obtain⟨j,hj,rfl⟩:=Ga l.toArray l.length (by simp) x h;rw[getElem!_pos l.toArray j (by simpa using hj)];simp
  .intro h;obtain⟨j,hj,rfl⟩:=aco.1 h;have:=EL l.toArray l.length (by simp) j hj;rw[getElem!_pos l.toArray j (by simpa using hj)]at this;simpa using this
 rw[h0];unfold aeq;exact List.mem_mergeSort
def qv (p:PgP) (r:fI):List Int:=match r.cond with
 | some e=>(dv false e).map (bF p)
 | none=>[]
def ia (p:PgP):Nat->List Int
 | 0=>[]
 | i+1=>ia p i ++ qv p (p.ao.getD i ⟨0,[],none⟩)
theorem Cu {p:PgP} {i:Nat} (h:i < p.ao.length):ia p (i+1)=ia p i ++ qv p p.ao[i]:=by
 rw[ia,abJ,By h];rfl
theorem Ht {p:PgP} {x:Int}:∀ {n:Nat},n<=p.ao.length->(x∈ia p n↔∃ j,∃ h:j < p.ao.length,j < n/\x∈qv p p.ao[j])
 | 0,_=>by simp[ia]
 | n+1,hn=>by
  rw[Cu (by omega),ab4,Ht (by omega)];constructor
  .rintro (⟨j,h,hj,hx⟩ | hx)
   .exact⟨j,h,by omega,hx⟩
   .exact⟨n,by omega,by omega,hx⟩
  .rintro⟨j,h,hj,hx⟩;by_cases e:j=n
   .subst e;exact .inr hx
   .exact .inl ⟨j,h,by omega,hx⟩
def kG (s:Tx) (r:fI):Bool:=match r.cond with
 | some e=>decide (0<=idx (fun x=>x == s) (dv false e))
 | none=>false
def acU (p:PgP):Nat->List Int
 | 0=>[]
 | i+1=>acU p i ++ if p.ao.any (kG (p.names.getD i ⟨[],0,0⟩).name) then [(i:Int)] else []
theorem MN {p:PgP} {i:Nat} (h:i < p.names.length):acU p (i+1)=acU p i ++ if p.ao.any (kG p.names[i].name) then [(i:Int)] else []:=by
 rw[acU,abJ,By h];rfl
theorem Bu (p:PgP):∀ n,(acU p n).length<=n
 | 0=>abL _
 | n+1=>by rw[acU,acC];have:=Bu p n;split<;>simp<;>omega
theorem afV {p:PgP} {x:Int}:∀ {n:Nat},n<=p.names.length->(x∈acU p n↔∃ i,∃ h:i < p.names.length,i < n/\x=i/\p.ao.any (kG p.names[i].name)=true)
 | 0,_=>by simp[acU]
 | n+1,hn=>by
  rw[MN (by omega),ab4,afV (by omega)];constructor
  .rintro (⟨j,h,hj,hx⟩ | hx)
   .exact⟨j,h,by omega,hx⟩
   .split at hx
    .exact⟨n,by omega,by omega,by simpa using hx,‹_›⟩
    .cases hx
  .rintro⟨j,h,hj,hx,ha⟩;by_cases e:j=n
   .subst e;exact .inr (by rw[if_pos ha];simpa using hx)
   .exact .inl ⟨j,h,by omega,hx,ha⟩
theorem MM (p:PgP):∀ {n:Nat},n<=p.names.length->(acU p n).Pairwise (· < ·)
 | 0,_=>by simp[acU]
 | n+1,hn=>by
  rw[acU,acE];refine⟨MM p (by omega),by split<;>simp,fun a ha b hb=>?_⟩;obtain⟨i,_,hi,rfl,_⟩:=(afV (by omega)).1 ha;split at hb
  .rw[acV]at hb;omega
  .cases hb
theorem JB (l:List Tx) (s:Tx):0<=idx (fun x=>x == s) l↔s∈l:=by
 have h:=agI (fun x:Tx=>x == s) l
 have h2:(l.any fun x=>x == s)=true↔s∈l:=by
  rw[ad1];constructor
  .rintro⟨x,hx,he⟩
   have:x=s:=by simpa using he
   exact this ▸ hx
  .exact fun hs=>⟨s,hs,by simp⟩
 rw[<- h2,<- h,decide_eq_true_eq]
theorem E7 {s:Tx}:∀ (n:Nat) (e:Ex),SizeOf.sizeOf e<=n->s∈ck false e->s∈ck true e
 | 0,e,hn,_=>by cases e<;>simp at hn
 | n+1,e,hn,h=>by
  have many:∀ l:List Ex,(∀ x∈l,SizeOf.sizeOf x<=n)->s∈ef false l->s∈ef true l:=by
   intro l
   induction l with
   | nil=>intro _ h;simp[ef]at h
   | cons x l ih=>
    intro hl h;rw[ef,ab4]at h ⊢
    rcases h with h | h
    .exact .inl (E7 n x (hl x (by simp)) h)
    .exact .inr (ih (fun y hy=>hl y (by simp[hy])) h)
  have inside:∀ (l:List Ex),SizeOf.sizeOf l<=n->∀ x∈l,SizeOf.sizeOf x<=n:=fun l hl x hx=>by
   have:=acL hx;omega
  cases e with
  | ff b=>simp[ck,cu,eV]at h
  | bit t=>simp[ck,cu,eV]at h
  | adb t=>exact h
  | fT t=>exact h
  | not e=>exact E7 n e (by simp at hn;omega) h
  | and l=>exact many l (inside l (by simp at hn;omega)) h
  | or l=>exact many l (inside l (by simp at hn;omega)) h
theorem Kx {s:Tx} {e:Ex} (h:s∈dv false e):s∈dv true e:=xN.2 (E7 _ e (abL _) (xN.1 h))
theorem rN {p:PgP} (h:acg p=none):∀ r∈p.ao,(1<=r.kind/\r.kind<=6)/\¬ bF p r.name < 0/\∃ e,r.cond=some e/\∀ s∈dv true e,¬ bF p s < 0:=fun r hr=>by
 unfold acg at h;split at h
 .cases h
 split at h
 .cases h
 split at h
 .cases h
 rename_i hB;obtain⟨k,hk,rfl⟩:=aco.1 hr;have h0:=y7 hB k hk;generalize p.ao[k]=r at h0;obtain⟨kd,nm,cd⟩:=r
 cases cd with
 | none=>cases (show (1:Int)=0 from h0)
 | some e=>
  rw[B3]at h0;split at h0
  .cases h0
  rename_i h1;split at h0
  .cases h0
  rename_i h2;split at h0
  .cases h0
  split at h0
  .cases h0
  rename_i h4;refine⟨by simpa using h1,h2,e,rfl,fun s hs hn=>h4 ?_⟩;exact ad1.2 ⟨s,hs,by simpa using hn⟩
theorem Pj {p:PgP} (h:acg p=none):Lib.compact (aeq (ia p p.ao.length))=acU p p.names.length:=by
 have hg:=fq h;have hr:=rN h;refine Mg (YW _) (MM p (abL _)) fun x=>?_;rw[YV,Ht (abL _),afV (abL _)];constructor
 .rintro⟨j,hj,_,hx⟩;obtain⟨_,_,e,he,aF⟩:=hr _ (abH hj);unfold qv at hx;rw[he]at hx;obtain⟨s,hs,rfl⟩:=acD.1 hx;obtain⟨k,hk,hke,Sc⟩:=pY (aF s (Kx hs));have R9:bF p s=k:=hke
  have Sd:p.names[k].name=s:=by simpa using Sc
  refine⟨k,hk,hk,R9,ad1.2 ⟨_,abH hj,?_⟩⟩;unfold kG;rw[he,Sd];simpa using (JB _ _).2 hs
 .rintro⟨i,hi,_,rfl,ha⟩;obtain⟨r,Ji,hb⟩:=ad1.1 ha;obtain⟨j,hj,rfl⟩:=aco.1 Ji;obtain⟨_,_,e,he,aF⟩:=hr _ Ji;unfold kG at hb;rw[he]at hb;have hs:=(JB _ _).1 (by simpa using hb);refine⟨j,hj,hj,?_⟩;unfold qv;rw[he];exact acD.2 ⟨_,hs,hg.num i hi⟩
structure bX where
 is:List Bool
 ct:List Int
def jg (p:PgP):bX:=⟨List.replicate p.names.length false,List.replicate p.names.length 0⟩
def eO (p:PgP) (l:List Bool) (s:Tx):Bool:=l.getD (bF p s).toNat false
def og (is bH:Tx->Bool):Option Ex->Bool
 | some e=>c8 is bH e
 | none=>false
def gS (s:bX) (i:Nat) (m:Int) (yes:Bool):bX:=
 let c:=if yes then (if s.ct.getD i 0+1 < m then s.ct.getD i 0+1 else m) else s.ct.getD i 0
 ⟨s.is.set i (decide (m<=c)),s.ct.set i c⟩
def oV (s:bX) (i:Nat):bX:=⟨s.is.set i false,s.ct.set i 0⟩
def jf (p:PgP) (dM t:bX) (r:fI):bX:=
 let i:=(bF p r.name).toNat
 let yes:=og (eO p t.is) (eO p dM.is) r.cond
 let m:=(p.names.getD i ⟨[],0,0⟩).count
 if r.kind=1 then ⟨t.is.set i yes,t.ct⟩
 else if r.kind=2 then ⟨t.is.set i (t.is.getD i false || yes),t.ct⟩
 else if r.kind=3 then ⟨t.is.set i (t.is.getD i false && !yes),t.ct⟩
 else if r.kind=4 then (if yes then gS t i m yes else oV (gS t i m yes) i)
 else if r.kind=5 then gS t i m yes
 else if r.kind=6 then (if yes then oV t i else t)
 else t
def jX (at':List Int) (bR:List Bool) (is:List Bool):Nat->List Bool
 | 0=>is
 | k+1=>(jX at' bR is k).set (at'.getD k 0).toNat (bR.getD k false)
def ba (p:PgP):List Int:=gD p.names 1 p.names.length
def mz (p:PgP) (s:bX) (bR:List Bool):bX:=p.ao.foldl (jf p s) ⟨jX (ba p) bR s.is (ba p).length,s.ct⟩
def Mm (p:PgP) (s:bX) (bR:List Bool):(Int×Option Nat) ⊕ bX:=match acg p with
 | some e=>.inl e
 | none=>if bR.length≠(ba p).length\/s.is.length≠p.names.length\/s.ct.length≠p.names.length then .inl (2,none) else .inr (mz p s bR)
def dBl (l:List Bool):D:=.sl none (l.map fun b=>[.v (.bool b)])
def dk (l:List Int):D:=.sl none (l.map fun n=>[.v (.int .i64 n)])
def mv (s:bX):List D:=[dBl s.is,dk s.ct]
def qo (s:bX):D:=.agg (mv s)
theorem cT {α:Type} {l:List α} {i:Nat} {d:α} (h:i < l.length):l.getD i d=l[i]:=by
 rw[abJ,By h];rfl
theorem E8 {p:PgP} {s:Tx} (h:¬ bF p s < 0):(bF p s).toNat < p.names.length/\bF p s=((bF p s).toNat:Int):=by
 obtain⟨k,hk,hke,_⟩:=pY h;have e:bF p s=(k:Int):=hke;rw[e];exact⟨by simpa using hk,by simp⟩
theorem NT (G:aq) (p:PgP) (hp:p.names.length < 2^62) (s:bX) (hl:s.is.length=p.names.length):aeG (fun nm=>¬ bF p nm < 0) G 132 [.ip (mv s),.ip (cPg p)] (eO p s.is):=by
 intro nm hn;have ab3:=sY G p hp nm;obtain⟨h1,h2⟩:=E8 hn
 have hi:(bF p nm).toNat < s.is.length:=by omega
 have dY:eO p s.is nm=s.is[(bF p nm).toNat]:=by unfold eO;exact cT hi
 rw[dY];rw[h2]at ab3;clear h1 h2 dY hn;simp only[dPg,cPg,bO,dP,dS]at ab3;simp only[mv,dBl,dk,cPg,bO,dP];generalize hix:(bF p nm).toNat=i at ab3 hi ⊢;clear hix hl hp;generalize p.names.map cNm=NN at ab3 ⊢;generalize p.ao.map cf=RR at ab3 ⊢;generalize s.is=L at hi ⊢;generalize s.ct.map (fun n=>[D.v (.int .i64 n)])=CC;refine ar.abS (al _) func132 rfl rfl (rs:=[.tmp 4]) results132 (by simp[ntmps132]) fun X=>?_;simp only[ntmps132,List.map];have fw:=@afi;refine rgq fw [0,1,2] [] ?_;have qf:=(Aq fw @hi);refine aga ab3 [4] [] ?_;exact aN fw
theorem NU (G:aq) (p:PgP) (hp:p.names.length < 2^62) (s:bX) (hl:s.is.length=p.names.length):aeG (fun nm=>¬ bF p nm < 0) G 133 [.ip (mv s),.ip (cPg p)] (eO p s.is):=by
 intro nm hn;have ab3:=sY G p hp nm;obtain⟨h1,h2⟩:=E8 hn
 have hi:(bF p nm).toNat < s.is.length:=by omega
 have dY:eO p s.is nm=s.is[(bF p nm).toNat]:=by unfold eO;exact cT hi
 rw[dY];rw[h2]at ab3;clear h1 h2 dY hn;simp only[dPg,cPg,bO,dP,dS]at ab3;simp only[mv,dBl,dk,cPg,bO,dP];generalize hix:(bF p nm).toNat=i at ab3 hi ⊢;clear hix hl hp;generalize p.names.map cNm=NN at ab3 ⊢;generalize p.ao.map cf=RR at ab3 ⊢;generalize s.is=L at hi ⊢;generalize s.ct.map (fun n=>[D.v (.int .i64 n)])=CC;refine ar.abS (al _) func133 rfl rfl (rs:=[.tmp 4]) results133 (by simp[ntmps133]) fun X=>?_;simp only[ntmps133,List.map];have fw:=@afi;refine rgq fw [0,1,2] [] ?_;have qf:=(Aq fw @hi);refine aga ab3 [4] [] ?_;exact aN fw
def yh (s:bX):List (Nat×Row):=[(7,.box 68 [.own 701 0 s.is.length,.own 702 0 s.ct.length]),(701,.sl 4 1 (s.is.map fun b=>[.v (.bool b)])),(702,.sl 3 1 (s.ct.map fun n=>[.v (.int .i64 n)]))]
theorem Yw (G:aq) (s:bX) (i:Nat) (m:Int) (yes:Bool) (hi:i < s.is.length) (hc:i < s.ct.length) (hb:∀ x∈s.ct,0<=x/\x<=2^40):MC prog G [7] 134 [.ref 7 0 0,.d (ab i),.d (ab m),.d (.v (.bool yes))] (ak (yh s)) (.d (.aW [])) (ak (yh (gS s i m yes))):=by
 have fL:s.ct.getD i 0=s.ct[i]:=cT hc;have hbd:=hb s.ct[i] (abH hc)
 have hgc:(s.ct.map fun n=>[D.v (.int .i64 n)])[i]? = some [.v (.int .i64 s.ct[i])]:=by simp[hc]
 simp only[yh,gS,fL]
 cases yes with
 | true=>
  simp only[if_true];refine MC.abS (al _) func134 rfl rfl (rs:=[]) results134 (by simp[ntmps134]) rfl fun X=>?_;simp only[ntmps134];have fw:=@afg;refine af fun K1 ax=>?_;refine rgq fw [0,1,2,8] [7,701,702] ?_;refine abP rfl ?_;refine ae0 (al _) (by kernel_rfl) [(3,7),(9,7),(11,702),(12,702),(15,702),(16,702)] (by kernel_rfl) fun K' ae=>?_;(repeat (refine gl fun K2 aa=>?_;simp[ab,hc];(repeat (refine⟨by omega,?_⟩));refine aa _ ?_;clear aa K2));refine adw (ae _ ?_);clear ae K';refine ax _ (AW.norm [0,1,2] [7,701,702] (cJ rfl) (AW.st (by simp[ab,hc];rfl) ?_));refine ae0 (al _) (by kernel_rfl) [(3,7),(8,7),(10,702),(11,702),(14,701),(15,701)] (by kernel_rfl) fun K' ae=>?_;(repeat (refine gl fun K2 aa=>?_;simp[ab,hc,hi];(repeat (refine⟨by omega,?_⟩));refine aa _ ?_;clear aa K2));refine adw (ae _ ?_);clear ae K';(try simp only[aJ,aL]);simp[D.le,D.le.go,ab5]
 | false=>
  simp only[abT,if_false];refine MC.abS (al _) func134 rfl rfl (rs:=[]) results134 (by simp[ntmps134]) rfl fun X=>?_;simp only[ntmps134];have fw:=@afg;refine af fun K1 ax=>?_;refine rgq fw [0,1,2,8] [7,701,702] ?_;refine abN rfl ?_;refine abO (ax _ ?_);refine ae0 (al _) (by kernel_rfl) [(3,7),(8,7),(10,702),(11,702),(14,701),(15,701)] (by kernel_rfl) fun K' ae=>?_;(repeat (refine gl fun K2 aa=>?_;simp[ab,hc,hi];(repeat (refine⟨by omega,?_⟩));refine aa _ ?_;clear aa K2));refine adw (ae _ ?_);clear ae K';(try simp only[aJ,aL]);simp[D.le,D.le.go,ab5]
theorem Oz {p:PgP} (h:acg p=none):∀ r∈p.ao,(p.names.getD (bF p r.name).toNat ⟨[],0,0⟩).kind=gK r.kind:=fun r hr=>by
 unfold acg at h;split at h
 .cases h
 split at h
 .cases h
 split at h
 .cases h
 rename_i hB;obtain⟨k,hk,rfl⟩:=aco.1 hr;have h0:=y7 hB k hk;generalize p.ao[k]=r at h0;obtain⟨kd,nm,cd⟩:=r
 cases cd with
 | none=>cases (show (1:Int)=0 from h0)
 | some e=>
  rw[B3]at h0;split at h0
  .cases h0
  split at h0
  .cases h0
  split at h0
  .cases h0
  rename_i h3;simp only[aez,decide_eq_false_iff_not,Classical.not_not]at h3;exact h3.symm
structure eb (p:PgP) (s:bX):Prop where
 l1:s.is.length=p.names.length
 l2:s.ct.length=p.names.length
 lo:∀ k,0<=s.ct.getD k 0
 hi:∀ k (hk:k < p.names.length),s.ct.getD k 0<=p.names[k].count
 at':∀ k (hk:k < p.names.length),3<=p.names[k].kind->s.is.getD k false=decide (s.ct.getD k 0=p.names[k].count)
theorem r0 {α:Type} (n k:Nat) (x:α):(List.replicate n x).getD k x=x:=by
 rw[abJ,List.getElem?_replicate];split<;>rfl
theorem jK {α:Type} {l:List α} {i:Nat} {x d:α} (h:i < l.length):(l.set i x).getD i d=x:=by
 rw[abJ,List.getElem?_set_self h];rfl
theorem gq {α:Type} {l:List α} {i k:Nat} {x d:α} (h:i≠k):(l.set i x).getD k d=l.getD k d:=by
 rw[abJ,List.getElem?_set_ne h,abJ]
theorem ah9 {p:PgP} (h:hC p):eb p (jg p):=by
 refine⟨by simp[jg],by simp[jg],fun k=>?_,fun k hk=>?_,fun k hk h3=>?_⟩
 .show 0<=(List.replicate _ (0:Int)).getD k 0;rw[r0];exact Int.le_refl _
 .show (List.replicate _ (0:Int)).getD k 0<=_;rw[r0]
  rcases h.count _ (abH hk)with h1 | h1<;>omega
 .show (List.replicate _ false).getD k false=decide ((List.replicate _ (0:Int)).getD k 0=_);rw[r0,r0]
  rcases h.count _ (abH hk)with h1 | h1
  .omega
  .exact (decide_eq_false (by omega)).symm
theorem ya {p:PgP} {t:bX} (ht:eb p t) {i:Nat} (hi:i < p.names.length) (hk:p.names[i].kind < 3) (b:Bool):eb p ⟨t.is.set i b,t.ct⟩:=by
 refine⟨by simp[ht.l1],ht.l2,ht.lo,ht.hi,fun k eQ h3=>?_⟩
 have aI:i≠k:=fun e=>by subst e;omega
 show (t.is.set i b).getD k false=_;rw[gq aI];exact ht.at' k eQ h3
theorem MV {p:PgP} (hg:hC p) {t:bX} (ht:eb p t) {i:Nat} (hi:i < p.names.length):eb p (oV t i):=by
 refine⟨by simp[oV,ht.l1],by simp[oV,ht.l2],fun k=>?_,fun k hk=>?_,fun k hk h3=>?_⟩
 .show 0<=(t.ct.set i 0).getD k 0;by_cases e:i=k
  .subst e;rw[jK (by rw[ht.l2];exact hi)];exact Int.le_refl _
  .rw[gq e];exact ht.lo k
 .show (t.ct.set i 0).getD k 0<=_;by_cases e:i=k
  .subst e;rw[jK (by rw[ht.l2];exact hi)]
   rcases hg.count _ (abH hk)with h1 | h1<;>omega
  .rw[gq e];exact ht.hi k hk
 .show (t.is.set i false).getD k false=decide ((t.ct.set i 0).getD k 0=_);by_cases e:i=k
  .subst e;rw[jK (by first | (rw[ht.l1];exact hi) | (rw[ht.l2];exact hi)),jK (by first | (rw[ht.l2];exact hi) | (rw[ht.l1];exact hi))]
   rcases hg.count _ (abH hk)with h1 | h1
   .omega
   .exact (decide_eq_false (by omega)).symm
  .rw[gq e,gq e];exact ht.at' k hk h3
theorem FE {p:PgP} (hg:hC p) {t:bX} (ht:eb p t) {i:Nat} (hi:i < p.names.length) (yes:Bool):eb p (gS t i p.names[i].count yes):=by
 have h0:=ht.lo i;have h1:=ht.hi i hi;have ic:=hg.count _ (abH hi);obtain⟨c,Rm,hc⟩:∃ c,c=(if yes then (if t.ct.getD i 0+1 < p.names[i].count then t.ct.getD i 0+1 else p.names[i].count) else t.ct.getD i 0)/\0<=c/\c<=p.names[i].count:=⟨_,rfl,by split<;>(try split)<;>omega,by split<;>(try split)<;>omega⟩
 have e:gS t i p.names[i].count yes=⟨t.is.set i (decide (p.names[i].count<=c)),t.ct.set i c⟩:=by
  rw[Rm];rfl
 rw[e];refine⟨by simp[ht.l1],by simp[ht.l2],fun k=>?_,fun k hk=>?_,fun k hk h3=>?_⟩
 .show 0<=(t.ct.set i c).getD k 0;by_cases e:i=k
  .subst e;rw[jK (by rw[ht.l2];exact hi)];omega
  .rw[gq e];exact ht.lo k
 .show (t.ct.set i c).getD k 0<=_;by_cases e:i=k
  .subst e;rw[jK (by rw[ht.l2];exact hi)];omega
  .rw[gq e];exact ht.hi k hk
 .show (t.is.set i _).getD k false=decide ((t.ct.set i c).getD k 0=_);by_cases e:i=k
  .subst e;rw[jK (by first | (rw[ht.l1];exact hi) | (rw[ht.l2];exact hi)),jK (by first | (rw[ht.l2];exact hi) | (rw[ht.l1];exact hi))];congr 1;exact propext ⟨fun h=>by omega,fun h=>by omega⟩
  .rw[gq e,gq e];exact ht.at' k hk h3
theorem Bd {p:PgP} (hc:acg p=none) {r:fI} (hr:r∈p.ao):∃ i,∃ hi:i < p.names.length,bF p r.name=(i:Int)/\p.names[i].kind=gK r.kind/\p.names.getD i ⟨[],0,0⟩=p.names[i]:=by
 obtain⟨_,h2,_⟩:=rN hc r hr;obtain⟨h3,h4⟩:=E8 h2;have h5:=Oz hc r hr;have h6:p.names.getD (bF p r.name).toNat ⟨[],0,0⟩=p.names[(bF p r.name).toNat]:=cT h3;rw[h6]at h5;exact⟨_,h3,h4,h5,h6⟩
theorem ahm {p:PgP} (hc:acg p=none) {r:fI} (hr:r∈p.ao) (dM:bX) {t:bX} (ht:eb p t):eb p (jf p dM t r)/\∀ k (hk:k < p.names.length),p.names[k].kind=1->(jf p dM t r).is.getD k false=t.is.getD k false:=by
 have hg:=fq hc;obtain⟨i,hi,hn,hw,hd⟩:=Bd hc hr;obtain⟨hk,_⟩:=rN hc r hr;unfold jf;simp only[hn,abX,hd]
 have gQ:p.names[i].kind≠1:=by rw[hw];unfold gK;split<;>(try split)<;>omega
 have off:∀ k (hk:k < p.names.length),p.names[k].kind=1->i≠k:=fun k hk h1 e=>by subst e;exact gQ h1
 have DH:r.kind<=3->p.names[i].kind < 3:=fun h=>by rw[hw];unfold gK;rw[if_pos h];omega
 split
 .exact⟨ya ht hi (DH (by omega)) _,fun k hk h1=>gq (off k hk h1)⟩
 split
 .exact⟨ya ht hi (DH (by omega)) _,fun k hk h1=>gq (off k hk h1)⟩
 split
 .exact⟨ya ht hi (DH (by omega)) _,fun k hk h1=>gq (off k hk h1)⟩
 split
 .split
  .exact⟨FE hg ht hi _,fun k hk h1=>gq (off k hk h1)⟩
  .refine⟨MV hg (FE hg ht hi _) hi,fun k hk h1=>?_⟩;show ((gS t i _ _).is.set i false).getD k false=_;rw[gq (off k hk h1)];exact gq (off k hk h1)
 split
 .exact⟨FE hg ht hi _,fun k hk h1=>gq (off k hk h1)⟩
 split
 .split
  .exact⟨MV hg ht hi,fun k hk h1=>gq (off k hk h1)⟩
  .exact⟨ht,fun k hk h1=>rfl⟩
 .exact⟨ht,fun k hk h1=>rfl⟩
theorem Be {p:PgP} (hc:acg p=none) (dM:bX):∀ (l:List fI) {t:bX},(∀ r∈l,r∈p.ao)->eb p t->eb p (l.foldl (jf p dM) t)/\∀ k (hk:k < p.names.length),p.names[k].kind=1->(l.foldl (jf p dM) t).is.getD k false=t.is.getD k false
 | [],t,_,ht=>⟨ht,fun k hk h1=>rfl⟩
 | r :: l,t,hl,ht=>by
  obtain⟨h1,h2⟩:=ahm hc (hl r (by simp)) dM ht;obtain⟨h3,h4⟩:=Be hc dM l (fun r hr=>hl r (by simp[hr])) h1;exact⟨h3,fun k hk bq=>(h4 k hk bq).trans (h2 k hk bq)⟩
theorem Er {l:List eM} {k:Int} {x:Int}:∀ {n:Nat},n<=l.length->(x∈gD l k n↔∃ i,∃ hi:i < l.length,i < n/\x=(i:Int)/\l[i].kind=k)
 | 0,_=>by simp[gD]
 | n+1,hn=>by
  rw[Ai (by omega),ab4,Er (by omega)];constructor
  .rintro (⟨i,hi,h1,h2,h3⟩ | h)
   .exact⟨i,hi,by omega,h2,h3⟩
   .split at h
    .rename_i hk;exact⟨n,by omega,by omega,by simpa using h,hk⟩
    .cases h
  .rintro⟨i,hi,h1,h2,h3⟩;by_cases e:i=n
   .subst e;right;rw[if_pos h3];simp[h2]
   .exact .inl ⟨i,hi,by omega,h2,h3⟩
theorem JY {l:List eM} {k:Int}:∀ {n:Nat},n<=l.length->(gD l k n).Nodup
 | 0,_=>by simp[gD]
 | n+1,hn=>by
  rw[Ai (by omega),ac2];refine⟨JY (by omega),by split<;>simp,fun a ha b hb e=>?_⟩;subst e;obtain⟨i,hi,h1,h2,_⟩:=(Er (by omega)).1 ha;split at hb
  .have:a=(n:Int):=by simpa using hb
   omega
  .cases hb
theorem uP {p:PgP} {j:Nat} (hj:j < (ba p).length):∃ i,∃ hi:i < p.names.length,(ba p)[j]=(i:Int)/\p.names[i].kind=1:=by
 obtain⟨i,hi,_,h2,h3⟩:=(Er (abL _)).1 (abH hj);exact⟨i,hi,h2,h3⟩
theorem Ft {at':List Int} {bR is:List Bool} {k i:Nat} (h:k < at'.length) (hi:at'[k]=(i:Int)):jX at' bR is (k+1)=(jX at' bR is k).set i (bR.getD k false):=by
 rw[jX,cT h,hi];rfl
theorem td {p:PgP} (bR:List Bool) {s:bX} (hs:eb p s):∀ k,k<=(ba p).length->eb p ⟨jX (ba p) bR s.is k,s.ct⟩/\∀ j (hj:j < k) (hj2:j < (ba p).length),(jX (ba p) bR s.is k).getD (ba p)[j].toNat false=bR.getD j false
 | 0,_=>⟨hs,fun j hj=>absurd hj (by omega)⟩
 | k+1,hk=>by
  obtain⟨h1,h2⟩:=td bR hs k (by omega);obtain⟨i,hi,he,h3⟩:=uP (p:=p) (j:=k) (by omega);rw[Ft (by omega) he];refine⟨ya h1 hi (by omega) _,fun j hj hj2=>?_⟩;by_cases e:j=k
  .subst e;rw[he,abX,jK (by rw[h1.l1];exact hi)]
  .have aI:i≠(ba p)[j].toNat:=fun e2=>by
    obtain⟨i2,eE,he2,_⟩:=uP (p:=p) hj2;rw[he2,abX]at e2
    have:(ba p)[j]=(ba p)[k]:=by rw[he,he2,e2]
    exact e ((List.getElem_inj (JY (abL _))).1 this)
   rw[gq aI];exact h2 j (by omega) hj2
theorem Cs {p:PgP} (hc:acg p=none) {s:bX} (hs:eb p s) (bR:List Bool):eb p (mz p s bR)/\∀ j (hj:j < (ba p).length),(mz p s bR).is.getD (ba p)[j].toNat false=bR.getD j false:=by
 obtain⟨h1,h2⟩:=td bR hs (ba p).length (abL _);obtain⟨h3,h4⟩:=Be hc s p.ao (fun r hr=>hr) h1;refine⟨h3,fun j hj=>?_⟩;obtain⟨i,hi,he,hk⟩:=uP hj;have:=h2 j hj hj;rw[he,abX]at this ⊢;exact (h4 i hi hk).trans this
theorem Tp {p:PgP} (hc:acg p=none) {s:bX} (hs:eb p s):∀ x∈s.ct,0<=x/\x<=2^20:=fun x hx=>by
 obtain⟨k,hk,rfl⟩:=aco.1 hx
 have hk2:k < p.names.length:=by rw[<- hs.l2];exact hk
 have h1:=hs.lo k;have h2:=hs.hi k hk2;rw[cT hk]at h1 h2
 rcases (fq hc).count _ (abH hk2)with h3 | h3<;>omega
