/- Parts. -/
import Derived.Test.YtoohljflflnbeaaGreatDoorBo25
import Derived.Ground.Names2Prog
import Derived.Shelf.Slices.CompactI
set_option linter.unusedSimpArgs false
set_option linter.unusedVariables false
set_option maxHeartbeats 4000000
open Go.Proofs.Tryz
namespace Go.Proofs
open Go.Shelf
def Tryz.Pb:Go.Shelf.Ren:=⟨fun | 20=>162 | n=>n,fun | 22=>41 | 3=>3 | 4=>4 | 0=>0 | n=>n,fun | n=>n⟩
theorem Tryz.aaV:Go.Proofs.Lays2.n20 prog Tryz.Pb:={
 mixed:=ah
 f20:=func162.trans aO
 t0:=underlying0
 a0:=isAgg0
 z0:=sizeOf0
 v0:=zeroValue0
 t3:=underlying3
 a3:=isAgg3
 z3:=sizeOf3
 v3:=zeroValue3
 t4:=underlying4
 a4:=isAgg4
 z4:=sizeOf4
 v4:=zeroValue4
 t22:=underlying41
 a22:=isAgg41
 z22:=sizeOf41
 v22:=zeroValue41
 i3:=by kernel_rfl }
end Go.Proofs
namespace Go.Proofs.YtoohljflflnbeaaGreatDoor
open Go.Av Go.Sort
open Go.Shelf
section
variable {w:World} {X:Nat->Prop} {μ:Mu} {r:Nat}
theorem Kh {ty:TypeId} {ss:List Int} {m:jo} {b:Nat} (hm:μ r=some m) (hs:eF w X μ (aw [(r,.sl ty 1 (ss.map fun s=>[D.v (.int .i64 s)]))])) (hb:m.fo=some b) :
  m.sz=1/\∃ cur,w.heap[b]? = some (.cells cur ty (0,0))/\cur.size=m.cap/\ss.length<=m.cap/\m.cap<=maxLen/\∀ i (hi:i < ss.length),cur[i]? = some ((Value.int .i64) ss[i]):=by
 obtain⟨m',cH,ok⟩:=hs.rows r _ (u7 r _);rw[hm]at cH;obtain rfl:=AI cH;generalize dX:Row.sl ty 1 (ss.map fun s=>[D.v (.int .i64 s)])=row at ok
 cases ok with
 | nil bk _=>rw[hb]at bk;cases bk
 | box _ _ _ _ _=>cases dX
 | mp _ _ _ _=>cases dX
 | it _ _ _=>cases dX
 | sl bk bg hh cX hn gZ hl hz hr=>
  simp only[Row.sl.injEq]at dX;obtain⟨rfl,rfl,rfl⟩:=dX;rw[hb]at bk;obtain rfl:=AI bk;refine⟨bg,_,hh,by simpa using cX,by simpa using hn,gZ,fun i hi=>?_⟩;obtain⟨u,hu,BQ⟩:=hr i 0 [D.v (.int .i64 ss[i])] (D.v (.int .i64 ss[i])) (by simp[hi]) rfl;have:=BQ.scalar;subst this;simpa using hu
theorem QX {ty:TypeId} {ss zs:List Int} {m:jo} {b n:Nat} {os:Array Obj} (hm:μ r=some m) (hs:eF w X μ (aw [(r,.sl ty 1 (ss.map fun s=>[D.v (.int .i64 s)]))])) (hb:m.fo=some b) (hz:zs.length=ss.length) :
  eF (grow (putRow (Value.int .i64) (Sort.ahead w n) b 0 zs.toArray) os) X μ (aw [(r,.sl ty 1 (zs.map fun s=>[D.v (.int .i64 s)]))])/\Ev (jh [r]) w μ (grow (putRow (Value.int .i64) (Sort.ahead w n) b 0 zs.toArray) os) μ:=by
 obtain⟨bg,cur,hh,cX,hn,gZ,wN⟩:=Kh hm hs hb;have gX:b < w.heap.size:=hs.mg ⟨r,m,hm,hb⟩
 have hsize:(putRow (Value.int .i64) (Sort.ahead w n) b 0 zs.toArray).heap.size=w.heap.size:=by simp[putRow,mapBlock,Sort.ahead]
 have hold:∀ k,k < w.heap.size->k≠b->(grow (putRow (Value.int .i64) (Sort.ahead w n) b 0 zs.toArray) os).heap[k]? = w.heap[k]?:=fun k hk bl=>by
  unfold grow;dsimp only;rw[ag8 (by rw[hsize];exact hk)];unfold putRow mapBlock Sort.ahead;dsimp only;rw[ah3,if_neg (ahD bl)]
 have mB:(grow (putRow (Value.int .i64) (Sort.ahead w n) b 0 zs.toArray) os).heap[b]? = some (.cells (putCells (Value.int .i64) 0 zs.toArray cur) ty (0,0)):=by
  unfold grow;dsimp only;rw[ag8 (by rw[hsize];exact gX)];unfold putRow mapBlock Sort.ahead;dsimp only;rw[ah3,if_pos rfl,hh];rfl
 have wV:w.heap.size<=(grow (putRow (Value.int .i64) (Sort.ahead w n) b 0 zs.toArray) os).heap.size:=by
  unfold grow;simp[hsize]
 have ev:Ev (jh [r]) w μ (grow (putRow (Value.int .i64) (Sort.ahead w n) b 0 zs.toArray) os) μ:=⟨wV,rfl,rfl,rfl,fun k hk hr=>⟨hold k hk fun e=>hr ⟨r,m,hm,e ▸ hb⟩,hr⟩,fun _ _ h _=>h⟩;refine⟨⟨fun q row hq=>?_,fun q mq hq=>?_,hs.inj,hs.frame,fun k hk=>ag2 (hs.fits k hk) wV⟩,ev⟩
 .by_cases e:q=r
  .subst e;rw[u7]at hq;obtain rfl:=AI hq;refine⟨m,hm,.sl hb bg mB (by simpa[putCells]using cX) (by simpa[hz]using hn) gZ (fun el bz=>?_) aa fun i j el c hi hj=>?_⟩
   .obtain⟨x,_,rfl⟩:=ag3.1 bz;rfl
   .rw[agC]at hi;obtain⟨x,hx,rfl⟩:=AS.1 hi;have dD:i < zs.length:=(BY.1 hx).1
    have mz:j=0:=by have:=(BY.1 hj).1;simpa using this
    subst mz
    obtain rfl:D.v (.int .i64 x)=c:=by simpa using hj
    have cN:i < cur.size:=aa
    refine⟨(Value.int .i64) x,?_,.v _⟩;simp only[ahK,ahB,putCells,Array.getElem?_mapIdx,agL cN,ag1];rw[if_pos (by simp;omega)];congr 2;simp only[Nat.sub_zero];rw[getElem!_pos zs.toArray i (by simpa using dD)];simpa using (BY.1 hx).2
  .rw[Er _ e]at hq;cases hq
 .obtain⟨row,dX⟩:=hs.lD q mq hq;by_cases e:q=r
  .exact⟨_,by rw[e];exact u7 r _⟩
  .rw[Er _ e]at dX;cases dX
theorem QV {ty:TypeId} {ss:List Int} {m:jo} {b:Nat} (hm:μ r=some m) (hs:eF w X μ (aw [(r,.sl ty 1 (ss.map fun s=>[D.v (.int .i64 s)]))])) (hb:m.fo=some b):Holds (Value.int .i64) w b 0 ss.toArray:=by
 obtain⟨bg,cur,hh,cX,hn,gZ,wN⟩:=Kh hm hs hb;intro j hj
 have eN:j < ss.length:=by simpa using hj
 constructor
 .unfold World.cell?;simp only[hh,ag4];rw[getElem!_pos ss.toArray j hj,wN j eN];simp
 .unfold World.frozen?;simp only[hh];simp
theorem QW {ty:TypeId} {ss:List Int} {m:jo} (hm:μ r=some m) (hs:eF w X μ (aw [(r,.sl ty 1 (ss.map fun s=>[D.v (.int .i64 s)]))])) (hb:m.fo=none):ss=[]:=by
 obtain⟨m',cH,ok⟩:=hs.rows r _ (u7 r _);rw[hm]at cH;obtain rfl:=AI cH;generalize dX:Row.sl ty 1 (ss.map fun s=>[D.v (.int .i64 s)])=row at ok
 cases ok with
 | nil _ _=>simp only[Row.sl.injEq]at dX;simpa using dX.2.2
 | box bk _ _ _ _=>rw[hb]at bk;cases bk
 | mp bk _ _ _=>rw[hb]at bk;cases bk
 | it bk _ _=>rw[hb]at bk;cases bk
 | sl bk _ _ _ _ _ _ _ _=>rw[hb]at bk;cases bk
end
def o0 (ss:List Int):List Int:=ss.mergeSort fun x y=>decide (x<=y)
theorem CM (ss:List Int):(o0 ss).length=ss.length:=by simp[o0]
theorem adR (G:aC) (r:Nat) (ty:TypeId) (ss:List Int) (hl:ss.length < 2^60):MC prog G [r] 161 [.own r 0 ss.length] (aw [(r,.sl ty 1 (ss.map fun s=>[D.v (.int .i64 s)]))]) (.d (.bx [])) (aw [(r,.sl ty 1 ((o0 ss).map fun s=>[D.v (.int .i64 s)]))]):=by
 refine⟨gS.of func161 rfl rfl,fun X w μ vs hs dz bg hv=>?_⟩
 obtain⟨v,rfl⟩:∃ v,vs = #[v]:=by
  match vs,bg with
  | ⟨[v]⟩,_=>exact⟨v,rfl⟩
 obtain⟨m,hm,hc⟩:=(hv 0 v _ rfl rfl).ma;have hL:Lays.n189 prog Tryz.O7:={ Tryz.aaR with };by_cases h0:ss=[]
 .subst h0
  have e:∃ p cap,v = .slice p 0 cap:=by
   rcases hc with⟨_,rfl,_⟩ | ⟨b,_,rfl,_⟩
   .exact⟨_,_,rfl⟩
   .exact⟨_,_,rfl⟩
  obtain⟨p,cap,rfl⟩:=e;have e1:o0 []=[]:=agZ (by rw[CM];rfl);rw[e1];refine (Any.slices_Sort_int_none hL p cap w).mono fun e w' ⟨he,hw⟩=>?_;subst hw;exact⟨_,_,_,μ,he,⟨rfl,rfl⟩,.d (.bx rfl fun j u c hu hc=>by simp at hu),hs,.refl _ _ _⟩
 .rcases hc with⟨hb,rfl,_,hn⟩ | ⟨b,hb,rfl,hn⟩
  .exact absurd (QW hm hs hb) h0
  .have hH:=QV hm hs hb;have gX:b < w.heap.size:=hs.mg ⟨r,m,hm,hb⟩;rw[ahM];refine (Any.slices_Sort_int hL b 0 (m.cap - 0) ss w hH gX aa).mono fun e w' ⟨he,n,os,hw⟩=>?_;subst hw;obtain⟨h1,h2⟩:=QX (n:=n) (os:=os) hm hs hb (CM ss);exact⟨_,_,_,μ,he,⟨rfl,rfl⟩,.d (.bx rfl fun j u c hu hc=>by simp at hu),h1,h2⟩
theorem VL (G:aC) (r:Nat) (ty:TypeId) (ss:List Int) (hl:ss.length < 2^60):MC prog G [r] 162 [.own r 0 ss.length] (aw [(r,.sl ty 1 (ss.map fun s=>[D.v (.int .i64 s)]))]) (.own r 0 (Lib.compact ss).length) (aw [(r,.sl ty 1 ((Lib.compact ss ++ List.replicate (ss.length - (Lib.compact ss).length) 0).map fun s=>[D.v (.int .i64 s)]))]):=by
 refine⟨gS.of func162 rfl rfl,fun X w μ vs hs dz bg hv=>?_⟩
 obtain⟨v,rfl⟩:∃ v,vs = #[v]:=by
  match vs,bg with
  | ⟨[v]⟩,_=>exact⟨v,rfl⟩
 have hC:=hv 0 v _ rfl rfl;obtain⟨m,hm,hc⟩:=hC.ma;have hle:=Lib.compact_length_le ss;have hL:Lays2.n20 prog Tryz.Pb:={ Tryz.aaV with };by_cases h0:ss=[]
 .subst h0;have e0:(Lib.compact ([]:List Int))=[]:=agZ (by simpa using hle);rw[e0]
  have e:∃ p cap,v = .slice p 0 cap:=by
   rcases hc with⟨_,rfl,_⟩ | ⟨b,_,rfl,_⟩
   .exact⟨_,_,rfl⟩
   .exact⟨_,_,rfl⟩
  obtain⟨p,cap,rfl⟩:=e;refine (Any.slices_Compact_int_empty hL p cap w).mono fun e w' ⟨he,hw⟩=>?_;subst hw;exact⟨_,_,_,μ,he,⟨rfl,rfl⟩,hC,hs,.refl _ _ _⟩
 .rcases hc with⟨hb,rfl,_,hn⟩ | ⟨b,hb,rfl,hn⟩
  .exact absurd (QW hm hs hb) h0
  .have hH:=QV hm hs hb;obtain⟨IG,cur,hh,cX,nT,gZ,wN⟩:=Kh hm hs hb;rw[ahM];refine (Any.slices_Compact_int hL b 0 (m.cap - 0) ss w hH aa aa).mono fun e w' ⟨he,n,hw⟩=>?_
   have hz:(Lib.compact ss ++ List.replicate (ss.length - (Lib.compact ss).length) 0).length=ss.length:=by simp;omega
   obtain⟨h1,h2⟩:=QX (n:=n) (os:=#[]) hm hs hb hz;rw[grow_empty]at h1 h2;subst hw;refine⟨_,_,_,μ,he,⟨rfl,rfl⟩,.own hm (.inr ⟨b,hb,ak,aa⟩),h1,h2⟩
end Go.Proofs.YtoohljflflnbeaaGreatDoor
namespace Go.Proofs.YtoohljflflnbeaaGreatDoor
open Go.Av
theorem RC:∀ {a b:List Int},a.Pairwise (· < ·)->b.Pairwise (· < ·)->(∀ x,x∈a↔x∈b)->a=b
 | [],[],_,_,_=>rfl
 | [],y :: b,_,_,h=>absurd ((h y).2 ak) ak
 | x :: a,[],_,_,h=>absurd ((h x).1 ak) ak
 | x :: a,y :: b,ha,hb,h=>by
  obtain⟨Be,oF⟩:=ahi.1 ha;obtain⟨eM,gB⟩:=ahi.1 hb
  have B2:x=y:=by
   rcases agK.1 ((h x).1 ak)with e | hx
   .exact e
   .rcases agK.1 ((h y).2 ak)with e | hy
    .exact e.symm
    .have:=eM x hx;have:=Be y hy;omega
  subst B2;rw[RC oF gB fun z=>?_];constructor
  .intro hz
   rcases agK.1 ((h z).1 (by simp[hz]))with e | e
   .subst e;have:=Be z hz;omega
   .exact e
  .intro hz
   rcases agK.1 ((h z).2 (by simp[hz]))with e | e
   .subst e;have:=eM z hz;omega
   .exact e
theorem Jw (d:Array Int):∀ (m:Nat),m<=d.size->∀ j,j < m->d[j]!∈Lib.compactUpTo d m
 | 0,_,j,h=>aa
 | m+1,hm,j,hj=>by
  rw[Lib.compactUpTo_succ];by_cases En:j < m
  .exact ah7 _ (Jw d m aa j En)
  .obtain rfl:j=m:=aa
   by_cases hk:Lib.keeps d j=true
   .exact List.mem_append_right _ (by simp[hk])
   .have mz:j≠0:=by rintro rfl;exact hk (Lib.keeps_lt_one d 0 aa)
    have he:d[j]! = d[j - 1]!:=by
     unfold Lib.keeps at hk;simp[mz]at hk
     first | exact hk | exact hk.symm
    rw[he];exact ah7 _ (Jw d j aa (j - 1) aa)
theorem KR (d:Array Int):∀ (m:Nat),m<=d.size->∀ x∈Lib.compactUpTo d m,∃ j,j < m/\x=d[j]!
 | 0,_,x,h=>by simp[Lib.compactUpTo]at h
 | m+1,hm,x,h=>by
  rw[Lib.compactUpTo_succ]at h
  rcases agN.1 h with h | h
  .obtain⟨j,hj,e⟩:=KR d m aa x h;exact⟨j,aa,e⟩
  .split at h
   .simp at h;exact⟨m,aa,h⟩
   .simp at h
theorem Sf (d:Array Int) (hs:∀ i j,i<=j->j < d.size->d[i]!<=d[j]!):∀ (m:Nat),m<=d.size->(Lib.compactUpTo d m).Pairwise (· < ·)
 | 0,_=>by simp[Lib.compactUpTo]
 | m+1,hm=>by
  have ih:=Sf d hs m aa;rw[Lib.compactUpTo_succ];by_cases hk:Lib.keeps d m=true
  .rw[if_pos hk,ahF];refine⟨ih,ak,fun a ha b hb=>?_⟩;rw[ahc]at hb;subst hb;obtain⟨j,hj,rfl⟩:=KR d m aa a ha
   have bl:d[m]!≠d[m - 1]!:=by
    intro he;rw[Lib.keeps_neg aa he]at hk;cases hk
   have h1:=hs j (m - 1) aa aa;have h2:=hs (m - 1) m aa aa;omega
  .rw[if_neg hk,ahm];exact ih
theorem adU (l:List Int):(Lib.compact (o0 l)).Pairwise (· < ·):=by
 unfold Lib.compact;refine Sf _ (fun i j ph hj=>?_) _ ak
 have hp:(o0 l).Pairwise (·<=·):=by
  unfold o0;have:=List.pairwise_mergeSort (le:=fun x y:Int=>decide (x<=y)) (by intro a b c h1 h2;simp only[decide_eq_true_eq]at *;omega) (by intro a b;simp only[ag9,decide_eq_true_eq];omega) l
  exact this.imp fun h=>by simpa using h
 generalize o0 l=l at hp hj ⊢
 have eN:j < l.length:=by simpa using hj
 rw[getElem!_pos l.toArray i (by simpa using (by omega:i < l.length)),getElem!_pos l.toArray j (by simpa using eN)];simp only[List.getElem_toArray];by_cases he:i=j
 .subst he;omega
 .exact (List.pairwise_iff_getElem.1 hp) i j aa eN aa
theorem adT {l:List Int} {x:Int}:x∈Lib.compact (o0 l)↔x∈l:=by
 have h0:∀ l:List Int,x∈Lib.compact l↔x∈l:=by
  intro l;unfold Lib.compact;constructor
  .intro h;obtain⟨j,hj,rfl⟩:=KR l.toArray l.length ak x h;rw[getElem!_pos l.toArray j (by simpa using hj)];simp
  .intro h;obtain⟨j,hj,rfl⟩:=agG.1 h;have:=Jw l.toArray l.length ak j hj;rw[getElem!_pos l.toArray j (by simpa using hj)]at this;simpa using this
 rw[h0];unfold o0;exact List.mem_mergeSort
def uQ (p:aP) (r:iL):List Int:=match r.cond with
 | some e=>(fi false e).map (bH p)
 | none=>[]
def k9 (p:aP):Nat->List Int
 | 0=>[]
 | i+1=>k9 p i ++ uQ p (p.ax.getD i ⟨0,[],none⟩)
theorem GR {p:aP} {i:Nat} (h:i < p.ax.length):k9 p (i+1)=k9 p i ++ uQ p p.ax[i]:=by
 rw[k9,agw,By h];rfl
theorem Mk {p:aP} {x:Int}:∀ {n:Nat},n<=p.ax.length->(x∈k9 p n↔∃ j,∃ h:j < p.ax.length,j < n/\x∈uQ p p.ax[j])
 | 0,_=>by simp[k9]
 | n+1,hn=>by
  rw[GR aa,agN,Mk aa];constructor
  .rintro (⟨j,h,hj,hx⟩ | hx)
   .exact⟨j,h,aa,hx⟩
   .exact⟨n,aa,aa,hx⟩
  .rintro⟨j,h,hj,hx⟩;by_cases e:j=n
   .subst e;exact .inr hx
   .exact .inl ⟨j,h,aa,hx⟩
def oG (s:Tx) (r:iL):Bool:=match r.cond with
 | some e=>decide (0<=idx (fun x=>x == s) (fi false e))
 | none=>false
def gd (p:aP):Nat->List Int
 | 0=>[]
 | i+1=>gd p i ++ if p.ax.any (oG (p.names.getD i ⟨[],0,0⟩).name) then [(i:Int)] else []
theorem Sj {p:aP} {i:Nat} (h:i < p.names.length):gd p (i+1)=gd p i ++ if p.ax.any (oG p.names[i].name) then [(i:Int)] else []:=by
 rw[gd,agw,By h];rfl
theorem F3 (p:aP):∀ n,(gd p n).length<=n
 | 0=>agD _
 | n+1=>by rw[gd,agU];have:=F3 p n;split<;>simp<;>omega
theorem x9 {p:aP} {x:Int}:∀ {n:Nat},n<=p.names.length->(x∈gd p n↔∃ i,∃ h:i < p.names.length,i < n/\x=i/\p.ax.any (oG p.names[i].name)=true)
 | 0,_=>by simp[gd]
 | n+1,hn=>by
  rw[Sj aa,agN,x9 aa];constructor
  .rintro (⟨j,h,hj,hx⟩ | hx)
   .exact⟨j,h,aa,hx⟩
   .split at hx
    .exact⟨n,aa,aa,by simpa using hx,‹_›⟩
    .cases hx
  .rintro⟨j,h,hj,hx,ha⟩;by_cases e:j=n
   .subst e;exact .inr (by rw[if_pos ha];simpa using hx)
   .exact .inl ⟨j,h,aa,hx,ha⟩
theorem Si (p:aP):∀ {n:Nat},n<=p.names.length->(gd p n).Pairwise (· < ·)
 | 0,_=>by simp[gd]
 | n+1,hn=>by
  rw[gd,ahF];refine⟨Si p aa,by split<;>simp,fun a ha b hb=>?_⟩;obtain⟨i,_,hi,rfl,_⟩:=(x9 aa).1 ha;split at hb
  .rw[ahc]at hb;omega
  .cases hb
theorem OB (l:List Tx) (s:Tx):0<=idx (fun x=>x == s) l↔s∈l:=by
 have h:=I0 (fun x:Tx=>x == s) l
 have h2:(l.any fun x=>x == s)=true↔s∈l:=by
  rw[ahp];constructor
  .rintro⟨x,hx,he⟩
   have:x=s:=by simpa using he
   exact this ▸ hx
  .exact fun hs=>⟨s,hs,ak⟩
 rw[<- h2,<- h,decide_eq_true_eq]
theorem JN {s:Tx}:∀ (n:Nat) (e:Ex),SizeOf.sizeOf e<=n->s∈du false e->s∈du true e
 | 0,e,hn,_=>by cases e<;>simp at hn
 | n+1,e,hn,h=>by
  have many:∀ l:List Ex,(∀ x∈l,SizeOf.sizeOf x<=n)->s∈fO false l->s∈fO true l:=by
   intro l
   induction l with
   | nil=>intro _ h;simp[fO]at h
   | cons x l ih=>
    intro hl h;rw[fO,agN]at h ⊢
    rcases h with h | h
    .exact .inl (JN n x (hl x ak) h)
    .exact .inr (ih (fun y hy=>hl y (by simp[hy])) h)
  have inside:∀ (l:List Ex),SizeOf.sizeOf l<=n->∀ x∈l,SizeOf.sizeOf x<=n:=fun l hl x hx=>by
   have:=ag0 hx;omega
  cases e with
  | gU b=>simp[du,dH,gG]at h
  | bit t=>simp[du,dH,gG]at h
  | jk t=>exact h
  | ja t=>exact h
  | not e=>exact JN n e (by simp at hn;omega) h
  | and l=>exact many l (inside l (by simp at hn;omega)) h
  | or l=>exact many l (inside l (by simp at hn;omega)) h
theorem PD {s:Tx} {e:Ex} (h:s∈fi false e):s∈fi true e:=Ck.2 (JN _ e (agD _) (Ck.1 h))
theorem we {p:aP} (h:dr p=none):∀ r∈p.ax,(1<=r.kind/\r.kind<=6)/\¬ bH p r.name < 0/\∃ e,r.cond=some e/\∀ s∈fi true e,¬ bH p s < 0:=fun r hr=>by
 unfold dr at h;split at h
 .cases h
 split at h
 .cases h
 split at h
 .cases h
 rename_i hB;obtain⟨k,hk,rfl⟩:=agG.1 hr;have h0:=DK hB k hk;generalize p.ax[k]=r at h0;obtain⟨kd,nm,cd⟩:=r
 cases cd with
 | none=>cases (show (1:Int)=0 from h0)
 | some e=>
  rw[Gw]at h0;split at h0
  .cases h0
  rename_i h1;split at h0
  .cases h0
  rename_i h2;split at h0
  .cases h0
  split at h0
  .cases h0
  rename_i h4;refine⟨by simpa using h1,h2,e,rfl,fun s hs hn=>h4 ?_⟩;exact ahp.2 ⟨s,hs,by simpa using hn⟩
theorem Wg {p:aP} (h:dr p=none):Lib.compact (o0 (k9 p p.ax.length))=gd p p.names.length:=by
 have hg:=iB h;have hr:=we h;refine RC (adU _) (Si p (agD _)) fun x=>?_;rw[adT,Mk (agD _),x9 (agD _)];constructor
 .rintro⟨j,hj,_,hx⟩;obtain⟨_,_,e,he,aS⟩:=hr _ (OF hj);unfold uQ at hx;rw[he]at hx;obtain⟨s,hs,rfl⟩:=ag3.1 hx;obtain⟨k,hk,kM,Y6⟩:=uh (aS s (PD hs));have Y3:bH p s=k:=kM
  have Y7:p.names[k].name=s:=by simpa using Y6
  refine⟨k,hk,hk,Y3,ahp.2 ⟨_,OF hj,?_⟩⟩;unfold oG;rw[he,Y7];simpa using (OB _ _).2 hs
 .rintro⟨i,hi,_,rfl,ha⟩;obtain⟨r,Oe,hb⟩:=ahp.1 ha;obtain⟨j,hj,rfl⟩:=agG.1 Oe;obtain⟨_,_,e,he,aS⟩:=hr _ Oe;unfold oG at hb;rw[he]at hb;have hs:=(OB _ _).1 (by simpa using hb);refine⟨j,hj,hj,?_⟩;unfold uQ;rw[he];exact ag3.2 ⟨_,hs,hg.num i hi⟩
structure cK where
 is:List Bool
 ct:List Int
def jZ (p:aP):cK:=⟨List.replicate p.names.length false,List.replicate p.names.length 0⟩
def gA (p:aP) (l:List Bool) (s:Tx):Bool:=l.getD (bH p s).toNat false
def rZ (is ch:Tx->Bool):Option Ex->Bool
 | some e=>eQ is ch e
 | none=>false
def iJ (s:cK) (i:Nat) (m:Int) (yes:Bool):cK:=
 let c:=if yes then (if s.ct.getD i 0+1 < m then s.ct.getD i 0+1 else m) else s.ct.getD i 0
 ⟨s.is.set i (decide (m<=c)),s.ct.set i c⟩
def sL (s:cK) (i:Nat):cK:=⟨s.is.set i false,s.ct.set i 0⟩
def mb (p:aP) (fz t:cK) (r:iL):cK:=
 let i:=(bH p r.name).toNat
 let yes:=rZ (gA p t.is) (gA p fz.is) r.cond
 let m:=(p.names.getD i ⟨[],0,0⟩).count
 if r.kind=1 then ⟨t.is.set i yes,t.ct⟩
 else if r.kind=2 then ⟨t.is.set i (t.is.getD i false || yes),t.ct⟩
 else if r.kind=3 then ⟨t.is.set i (t.is.getD i false && !yes),t.ct⟩
 else if r.kind=4 then (if yes then iJ t i m yes else sL (iJ t i m yes) i)
 else if r.kind=5 then iJ t i m yes
 else if r.kind=6 then (if yes then sL t i else t)
 else t
def nr (at':List Int) (cC:List Bool) (is:List Bool):Nat->List Bool
 | 0=>is
 | k+1=>(nr at' cC is k).set (at'.getD k 0).toNat (cC.getD k false)
def aY (p:aP):List Int:=iT p.names 1 p.names.length
def lW (p:aP) (s:cK) (cC:List Bool):cK:=p.ax.foldl (mb p s) ⟨nr (aY p) cC s.is (aY p).length,s.ct⟩
def RM (p:aP) (s:cK) (cC:List Bool):(Int×Option Nat) ⊕ cK:=match dr p with
 | some e=>.inl e
 | none=>if cC.length≠(aY p).length\/s.is.length≠p.names.length\/s.ct.length≠p.names.length then .inl (2,none) else .inr (lW p s cC)
def iM (l:List Bool):D:=.sl none (l.map fun b=>[.v (.bool b)])
def gg (l:List Int):D:=.sl none (l.map fun n=>[.v (.int .i64 n)])
def ou (s:cK):List D:=[iM s.is,gg s.ct]
def qw (s:cK):D:=.agg (ou s)
theorem gV {α:Type} {l:List α} {i:Nat} {d:α} (h:i < l.length):l.getD i d=l[i]:=by
 rw[agw,By h];rfl
theorem xR {p:aP} {s:Tx} (h:¬ bH p s < 0):(bH p s).toNat < p.names.length/\bH p s=((bH p s).toNat:Int):=by
 obtain⟨k,hk,kM,_⟩:=uh h;have e:bH p s=(k:Int):=kM;rw[e];exact⟨by simpa using hk,ak⟩
theorem Tn (G:aC) (p:aP) (hp:p.names.length < 2^62) (s:cK) (hl:s.is.length=p.names.length):qn (fun nm=>¬ bH p nm < 0) G 164 [.ip (ou s),.ip (fW p)] (gA p s.is):=by
 intro nm hn;have b5:=vn G p hp nm;obtain⟨h1,h2⟩:=xR hn
 have hi:(bH p nm).toNat < s.is.length:=aa
 have wK:gA p s.is nm=s.is[(bH p nm).toNat]:=by unfold gA;exact gV hi
 rw[wK];rw[h2]at b5;clear h1 h2 wK hn;simp only[fH,fW,cj,fq,dS]at b5;simp only[ou,iM,gg,fW,cj,fq];generalize gN:(bH p nm).toNat=i at b5 hi ⊢;clear gN hl hp;generalize p.names.map bo=NN at b5 ⊢;generalize p.ax.map c8=RR at b5 ⊢;generalize s.is=L at hi ⊢;generalize s.ct.map (fun n=>[D.v (.int .i64 n)])=CC;refine aD.aQ (aB _) func164 rfl rfl (rs:=[.tmp 4]) results164 (by simp[ntmps164]) fun X=>?_;simp only[ntmps164,List.map];have fw:=@aii;refine ae fw [0,1,2] [] ?_;have qf:=(Aq fw @hi);refine vB b5 [4] [] ?_;exact aW fw
theorem To (G:aC) (p:aP) (hp:p.names.length < 2^62) (s:cK) (hl:s.is.length=p.names.length):qn (fun nm=>¬ bH p nm < 0) G 165 [.ip (ou s),.ip (fW p)] (gA p s.is):=by
 intro nm hn;have b5:=vn G p hp nm;obtain⟨h1,h2⟩:=xR hn
 have hi:(bH p nm).toNat < s.is.length:=aa
 have wK:gA p s.is nm=s.is[(bH p nm).toNat]:=by unfold gA;exact gV hi
 rw[wK];rw[h2]at b5;clear h1 h2 wK hn;simp only[fH,fW,cj,fq,dS]at b5;simp only[ou,iM,gg,fW,cj,fq];generalize gN:(bH p nm).toNat=i at b5 hi ⊢;clear gN hl hp;generalize p.names.map bo=NN at b5 ⊢;generalize p.ax.map c8=RR at b5 ⊢;generalize s.is=L at hi ⊢;generalize s.ct.map (fun n=>[D.v (.int .i64 n)])=CC;refine aD.aQ (aB _) func165 rfl rfl (rs:=[.tmp 4]) results165 (by simp[ntmps165]) fun X=>?_;simp only[ntmps165,List.map];have fw:=@aii;refine ae fw [0,1,2] [] ?_;have qf:=(Aq fw @hi);refine vB b5 [4] [] ?_;exact aW fw
def CQ (s:cK):List (Nat×Row):=[(7,.box 88 [.own 701 0 s.is.length,.own 702 0 s.ct.length]),(701,.sl 4 1 (s.is.map fun b=>[.v (.bool b)])),(702,.sl 3 1 (s.ct.map fun n=>[.v (.int .i64 n)]))]
theorem adw (G:aC) (s:cK) (i:Nat) (m:Int) (yes:Bool) (hi:i < s.is.length) (hc:i < s.ct.length) (hb:∀ x∈s.ct,0<=x/\x<=2^40):MC prog G [7] 166 [.ref 7 0 0,.d (ab i),.d (ab m),.d (.v (.bool yes))] (aw (CQ s)) (.d (.bx [])) (aw (CQ (iJ s i m yes))):=by
 have iN:s.ct.getD i 0=s.ct[i]:=gV hc;have pc:=hb s.ct[i] (OF hc)
 have hgc:(s.ct.map fun n=>[D.v (.int .i64 n)])[i]? = some [.v (.int .i64 s.ct[i])]:=by simp[hc]
 simp only[CQ,iJ,iN]
 cases yes with
 | true=>
  simp only[if_true];refine MC.aQ (aB _) func166 rfl rfl (rs:=[]) results166 (by simp[ntmps166]) rfl fun X=>?_;simp only[ntmps166];have fw:=@aih;refine ag fun K1 aF=>ae fw [0,1,2,8] [7,701,702] ?_;refine aI (rO (aB _) ah [(3,7),(9,7),(11,702),(12,702),(15,702),(16,702)] ah fun K' ao=>?_);(repeat refine jm fun Kq af=>?_;simp[ab,hc];(repeat refine⟨aa,?_⟩);refine af _ ?_);refine ky (ao _ ?_);refine aF _ (AW.norm [0,1,2] [7,701,702] (eh rfl) (AW.st (by simp[ab,hc];rfl) ?_));refine rO (aB _) ah [(3,7),(8,7),(10,702),(11,702),(14,701),(15,701)] ah fun K' ao=>?_;(repeat refine jm fun Kq af=>?_;simp[ab,hc,hi];(repeat refine⟨aa,?_⟩);refine af _ ?_);refine ky (ao _ ?_);(try simp only[aT,aV]);simp[D.le,D.le.go,agQ]
 | false=>
  simp only[agE,if_false];refine MC.aQ (aB _) func166 rfl rfl (rs:=[]) results166 (by simp[ntmps166]) rfl fun X=>?_;simp only[ntmps166];have fw:=@aih;refine ag fun K1 aF=>ae fw [0,1,2,8] [7,701,702] ?_;refine al (ar (aF _ ?_));refine rO (aB _) ah [(3,7),(8,7),(10,702),(11,702),(14,701),(15,701)] ah fun K' ao=>?_;(repeat refine jm fun Kq af=>?_;simp[ab,hc,hi];(repeat refine⟨aa,?_⟩);refine af _ ?_);refine ky (ao _ ?_);(try simp only[aT,aV]);simp[D.le,D.le.go,agQ]
theorem VB {p:aP} (h:dr p=none):∀ r∈p.ax,(p.names.getD (bH p r.name).toNat ⟨[],0,0⟩).kind=jF r.kind:=fun r hr=>by
 unfold dr at h;split at h
 .cases h
 split at h
 .cases h
 split at h
 .cases h
 rename_i hB;obtain⟨k,hk,rfl⟩:=agG.1 hr;have h0:=DK hB k hk;generalize p.ax[k]=r at h0;obtain⟨kd,nm,cd⟩:=r
 cases cd with
 | none=>cases (show (1:Int)=0 from h0)
 | some e=>
  rw[Gw]at h0;split at h0
  .cases h0
  split at h0
  .cases h0
  split at h0
  .cases h0
  rename_i h3;simp only[ahY,decide_eq_false_iff_not,Classical.not_not]at h3;exact h3.symm
structure fU (p:aP) (s:cK):Prop where
 l1:s.is.length=p.names.length
 l2:s.ct.length=p.names.length
 lo:∀ k,0<=s.ct.getD k 0
 hi:∀ k (hk:k < p.names.length),s.ct.getD k 0<=p.names[k].count
 at':∀ k (hk:k < p.names.length),3<=p.names[k].kind->s.is.getD k false=decide (s.ct.getD k 0=p.names[k].count)
theorem wB {α:Type} (n k:Nat) (x:α):(List.replicate n x).getD k x=x:=by
 rw[agw,List.getElem?_replicate];split<;>rfl
theorem nJ {α:Type} {l:List α} {i:Nat} {x d:α} (h:i < l.length):(l.set i x).getD i d=x:=by
 rw[agw,List.getElem?_set_self h];rfl
theorem jQ {α:Type} {l:List α} {i k:Nat} {x d:α} (h:i≠k):(l.set i x).getD k d=l.getD k d:=by
 rw[agw,List.getElem?_set_ne h,agw]
theorem ad0 {p:aP} (h:j2 p):fU p (jZ p):=by
 refine⟨by simp[jZ],by simp[jZ],fun k=>?_,fun k hk=>?_,fun k hk h3=>?_⟩
 .show 0<=(List.replicate _ (0:Int)).getD k 0;rw[wB];exact Int.le_refl _
 .show (List.replicate _ (0:Int)).getD k 0<=_;rw[wB]
  rcases h.count _ (OF hk)with h1 | h1<;>omega
 .show (List.replicate _ false).getD k false=decide ((List.replicate _ (0:Int)).getD k 0=_);rw[wB,wB]
  rcases h.count _ (OF hk)with h1 | h1
  .omega
  .exact (decide_eq_false aa).symm
theorem CJ {p:aP} {t:cK} (ht:fU p t) {i:Nat} (hi:i < p.names.length) (hk:p.names[i].kind < 3) (b:Bool):fU p ⟨t.is.set i b,t.ct⟩:=by
 refine⟨by simp[ht.l1],ht.l2,ht.lo,ht.hi,fun k gh h3=>?_⟩
 have bl:i≠k:=fun e=>by subst e;omega
 show (t.is.set i b).getD k false=_;rw[jQ bl];exact ht.at' k gh h3
theorem Sr {p:aP} (hg:j2 p) {t:cK} (ht:fU p t) {i:Nat} (hi:i < p.names.length):fU p (sL t i):=by
 refine⟨by simp[sL,ht.l1],by simp[sL,ht.l2],fun k=>?_,fun k hk=>?_,fun k hk h3=>?_⟩
 .show 0<=(t.ct.set i 0).getD k 0;by_cases e:i=k
  .subst e;rw[nJ (by rw[ht.l2];exact hi)];exact Int.le_refl _
  .rw[jQ e];exact ht.lo k
 .show (t.ct.set i 0).getD k 0<=_;by_cases e:i=k
  .subst e;rw[nJ (by rw[ht.l2];exact hi)]
   rcases hg.count _ (OF hk)with h1 | h1<;>omega
  .rw[jQ e];exact ht.hi k hk
 .show (t.is.set i false).getD k false=decide ((t.ct.set i 0).getD k 0=_);by_cases e:i=k
  .subst e;rw[nJ (by first | (rw[ht.l1];exact hi) | (rw[ht.l2];exact hi)),nJ (by first | (rw[ht.l2];exact hi) | (rw[ht.l1];exact hi))]
   rcases hg.count _ (OF hk)with h1 | h1
   .omega
   .exact (decide_eq_false aa).symm
  .rw[jQ e,jQ e];exact ht.at' k hk h3
theorem Kl {p:aP} (hg:j2 p) {t:cK} (ht:fU p t) {i:Nat} (hi:i < p.names.length) (yes:Bool):fU p (iJ t i p.names[i].count yes):=by
 have h0:=ht.lo i;have h1:=ht.hi i hi;have lf:=hg.count _ (OF hi);obtain⟨c,Yg,hc⟩:∃ c,c=(if yes then (if t.ct.getD i 0+1 < p.names[i].count then t.ct.getD i 0+1 else p.names[i].count) else t.ct.getD i 0)/\0<=c/\c<=p.names[i].count:=⟨_,rfl,by split<;>(try split)<;>omega,by split<;>(try split)<;>omega⟩
 have e:iJ t i p.names[i].count yes=⟨t.is.set i (decide (p.names[i].count<=c)),t.ct.set i c⟩:=by
  rw[Yg];rfl
 rw[e];refine⟨by simp[ht.l1],by simp[ht.l2],fun k=>?_,fun k hk=>?_,fun k hk h3=>?_⟩
 .show 0<=(t.ct.set i c).getD k 0;by_cases e:i=k
  .subst e;rw[nJ (by rw[ht.l2];exact hi)];omega
  .rw[jQ e];exact ht.lo k
 .show (t.ct.set i c).getD k 0<=_;by_cases e:i=k
  .subst e;rw[nJ (by rw[ht.l2];exact hi)];omega
  .rw[jQ e];exact ht.hi k hk
 .show (t.is.set i _).getD k false=decide ((t.ct.set i c).getD k 0=_);by_cases e:i=k
  .subst e;rw[nJ (by first | (rw[ht.l1];exact hi) | (rw[ht.l2];exact hi)),nJ (by first | (rw[ht.l2];exact hi) | (rw[ht.l1];exact hi))];congr 1;exact propext ⟨fun h=>aa,fun h=>aa⟩
  .rw[jQ e,jQ e];exact ht.at' k hk h3
theorem FI {p:aP} (hc:dr p=none) {r:iL} (hr:r∈p.ax):∃ i,∃ hi:i < p.names.length,bH p r.name=(i:Int)/\p.names[i].kind=jF r.kind/\p.names.getD i ⟨[],0,0⟩=p.names[i]:=by
 obtain⟨_,h2,_⟩:=we hc r hr;obtain⟨h3,h4⟩:=xR h2;have h5:=VB hc r hr;have h6:p.names.getD (bH p r.name).toNat ⟨[],0,0⟩=p.names[(bH p r.name).toNat]:=gV h3;rw[h6]at h5;exact⟨_,h3,h4,h5,h6⟩
theorem Rk {p:aP} (hc:dr p=none) {r:iL} (hr:r∈p.ax) (fz:cK) {t:cK} (ht:fU p t):fU p (mb p fz t r)/\∀ k (hk:k < p.names.length),p.names[k].kind=1->(mb p fz t r).is.getD k false=t.is.getD k false:=by
 have hg:=iB hc;obtain⟨i,hi,hn,hw,hd⟩:=FI hc hr;obtain⟨hk,_⟩:=we hc r hr;unfold mb;simp only[hn,agO,hd]
 have jK:p.names[i].kind≠1:=by rw[hw];unfold jF;split<;>(try split)<;>omega
 have off:∀ k (hk:k < p.names.length),p.names[k].kind=1->i≠k:=fun k hk h1 e=>by subst e;exact jK h1
 have H8:r.kind<=3->p.names[i].kind < 3:=fun h=>by rw[hw];unfold jF;rw[if_pos h];omega
 split
 .exact⟨CJ ht hi (H8 aa) _,fun k hk h1=>jQ (off k hk h1)⟩
 split
 .exact⟨CJ ht hi (H8 aa) _,fun k hk h1=>jQ (off k hk h1)⟩
 split
 .exact⟨CJ ht hi (H8 aa) _,fun k hk h1=>jQ (off k hk h1)⟩
 split
 .split
  .exact⟨Kl hg ht hi _,fun k hk h1=>jQ (off k hk h1)⟩
  .refine⟨Sr hg (Kl hg ht hi _) hi,fun k hk h1=>?_⟩;show ((iJ t i _ _).is.set i false).getD k false=_;rw[jQ (off k hk h1)];exact jQ (off k hk h1)
 split
 .exact⟨Kl hg ht hi _,fun k hk h1=>jQ (off k hk h1)⟩
 split
 .split
  .exact⟨Sr hg ht hi,fun k hk h1=>jQ (off k hk h1)⟩
  .exact⟨ht,fun k hk h1=>rfl⟩
 .exact⟨ht,fun k hk h1=>rfl⟩
theorem FJ {p:aP} (hc:dr p=none) (fz:cK):∀ (l:List iL) {t:cK},(∀ r∈l,r∈p.ax)->fU p t->fU p (l.foldl (mb p fz) t)/\∀ k (hk:k < p.names.length),p.names[k].kind=1->(l.foldl (mb p fz) t).is.getD k false=t.is.getD k false
 | [],t,_,ht=>⟨ht,fun k hk h1=>rfl⟩
 | r :: l,t,hl,ht=>by
  obtain⟨h1,h2⟩:=Rk hc (hl r ak) fz ht;obtain⟨h3,h4⟩:=FJ hc fz l (fun r hr=>hl r (by simp[hr])) h1;exact⟨h3,fun k hk bC=>(h4 k hk bC).trans (h2 k hk bC)⟩
theorem Jb {l:List gz} {k:Int} {x:Int}:∀ {n:Nat},n<=l.length->(x∈iT l k n↔∃ i,∃ hi:i < l.length,i < n/\x=(i:Int)/\l[i].kind=k)
 | 0,_=>by simp[iT]
 | n+1,hn=>by
  rw[EW aa,agN,Jb aa];constructor
  .rintro (⟨i,hi,h1,h2,h3⟩ | h)
   .exact⟨i,hi,aa,h2,h3⟩
   .split at h
    .rename_i hk;exact⟨n,aa,aa,by simpa using h,hk⟩
    .cases h
  .rintro⟨i,hi,h1,h2,h3⟩;by_cases e:i=n
   .subst e;right;rw[if_pos h3];simp[h2]
   .exact .inl ⟨i,hi,aa,h2,h3⟩
theorem OZ {l:List gz} {k:Int}:∀ {n:Nat},n<=l.length->(iT l k n).Nodup
 | 0,_=>by simp[iT]
 | n+1,hn=>by
  rw[EW aa,List.nodup_append];refine⟨OZ aa,by split<;>simp,fun a ha b hb e=>?_⟩;subst e;obtain⟨i,hi,h1,h2,_⟩:=(Jb aa).1 ha;split at hb
  .have:a=(n:Int):=by simpa using hb
   omega
  .cases hb
theorem zy {p:aP} {j:Nat} (hj:j < (aY p).length):∃ i,∃ hi:i < p.names.length,(aY p)[j]=(i:Int)/\p.names[i].kind=1:=by
 obtain⟨i,hi,_,h2,h3⟩:=(Jb (agD _)).1 (OF hj);exact⟨i,hi,h2,h3⟩
theorem Ka {at':List Int} {cC is:List Bool} {k i:Nat} (h:k < at'.length) (hi:at'[k]=(i:Int)):nr at' cC is (k+1)=(nr at' cC is k).set i (cC.getD k false):=by
 rw[nr,gV h,hi];rfl
theorem xW {p:aP} (cC:List Bool) {s:cK} (hs:fU p s):∀ k,k<=(aY p).length->fU p ⟨nr (aY p) cC s.is k,s.ct⟩/\∀ j (hj:j < k) (pj:j < (aY p).length),(nr (aY p) cC s.is k).getD (aY p)[j].toNat false=cC.getD j false
 | 0,_=>⟨hs,fun j hj=>absurd hj aa⟩
 | k+1,hk=>by
  obtain⟨h1,h2⟩:=xW cC hs k aa;obtain⟨i,hi,he,h3⟩:=zy (p:=p) (j:=k) aa;rw[Ka aa he];refine⟨CJ h1 hi aa _,fun j hj pj=>?_⟩;by_cases e:j=k
  .subst e;rw[he,agO,nJ (by rw[h1.l1];exact hi)]
  .have bl:i≠(aY p)[j].toNat:=fun e2=>by
    obtain⟨i2,fZ,lJ,_⟩:=zy (p:=p) pj;rw[lJ,agO]at e2
    have:(aY p)[j]=(aY p)[k]:=by rw[he,lJ,e2]
    exact e ((List.getElem_inj (OZ (agD _))).1 this)
   rw[jQ bl];exact h2 j aa pj
theorem Dz {p:aP} (hc:dr p=none) {s:cK} (hs:fU p s) (cC:List Bool):fU p (lW p s cC)/\∀ j (hj:j < (aY p).length),(lW p s cC).is.getD (aY p)[j].toNat false=cC.getD j false:=by
 obtain⟨h1,h2⟩:=xW cC hs (aY p).length (agD _);obtain⟨h3,h4⟩:=FJ hc s p.ax (fun r hr=>hr) h1;refine⟨h3,fun j hj=>?_⟩;obtain⟨i,hi,he,hk⟩:=zy hj;have:=h2 j hj hj;rw[he,agO]at this ⊢;exact (h4 i hi hk).trans this
theorem aai {p:aP} (hc:dr p=none) {s:cK} (hs:fU p s):∀ x∈s.ct,0<=x/\x<=2^20:=fun x hx=>by
 obtain⟨k,hk,rfl⟩:=agG.1 hx
 have ff:k < p.names.length:=by rw[<- hs.l2];exact hk
 have h1:=hs.lo k;have h2:=hs.hi k ff;rw[gV hk]at h1 h2
 rcases (iB hc).count _ (OF ff)with h3 | h3<;>omega
