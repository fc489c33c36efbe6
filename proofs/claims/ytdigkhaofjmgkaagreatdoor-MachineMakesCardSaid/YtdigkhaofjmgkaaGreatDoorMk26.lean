/-
  Texts that belong together,in one file: Sh10,W1I,LE0,SC1,SP1.
-/
import Derived.Test.YtdigkhaofjmgkaaGreatDoorMk25
import Derived.Ground.Names2Prog
import Derived.Shelf.Slices.CompactI
set_option linter.unusedSimpArgs false
set_option linter.unusedVariables false
namespace Go.Proofs
open Go.Shelf
def Tryz.Iy:Go.Shelf.Ren:=⟨fun | 20=>129 | n=>n,fun | 22=>46 | 3=>3 | 4=>4 | 0=>0 | n=>n,fun | n=>n⟩
theorem Tryz.Sf:Go.Proofs.Lays2.n20 Tryz.prog Tryz.Iy:={
 mixed:=by kernel_rfl
 f20:=Tryz.func129.trans (congrArg some (by kernel_rfl))
 t0:=Tryz.underlying0
 a0:=Tryz.isAgg0
 z0:=Tryz.sizeOf0
 v0:=Tryz.zeroValue0
 t3:=Tryz.underlying3
 a3:=Tryz.isAgg3
 z3:=Tryz.sizeOf3
 v3:=Tryz.zeroValue3
 t4:=Tryz.underlying4
 a4:=Tryz.isAgg4
 z4:=Tryz.sizeOf4
 v4:=Tryz.zeroValue4
 t22:=Tryz.underlying46
 a22:=Tryz.isAgg46
 z22:=Tryz.sizeOf46
 v22:=Tryz.zeroValue46
 i3:=by kernel_rfl }
end Go.Proofs
namespace Go.Proofs.YtdigkhaofjmgkaaGreatDoor
open Go.Av Go.Sort
open Go.Shelf
section
variable {w:World} {X:Nat->Prop} {μ:Mu} {r:Nat}
theorem Ep {ty:TypeId} {ss:List Int} {m:fU} {b:Nat} (hm:μ r=some m) (hs:cK w X μ (ZX [(r,.sl ty 1 (ss.map fun s=>[D.v (.int .i64 s)]))])) (hb:m.blk=some b) :
  m.sz=1/\∃ cur,w.heap[b]? = some (.cells cur ty (0,0))/\cur.size=m.cap/\ss.length<=m.cap/\m.cap<=maxLen/\∀ i (hi:i < ss.length),cur[i]? = some ((Value.int .i64) ss[i]):=by
 obtain ⟨m',bO,ok⟩:=hs.rows r _ (pF r _);rw [hm] at bO;obtain rfl:=Option.some.inj bO;generalize cz:Row.sl ty 1 (ss.map fun s=>[D.v (.int .i64 s)])=row at ok
 cases ok with
 | nil aO _=>rw [hb] at aO;cases aO
 | box _ _ _ _ _=>cases cz
 | mp _ _ _ _=>cases cz
 | it _ _ _=>cases cz
 | sl aO aI hh bW hn eX hl hz hr=>
  simp only [Row.sl.injEq] at cz;obtain ⟨rfl,rfl,rfl⟩:=cz;rw [hb] at aO;obtain rfl:=Option.some.inj aO;refine ⟨aI,_,hh,by simpa using bW,by simpa using hn,eX,fun i hi=>?_⟩;obtain ⟨u,hu,hru⟩:=hr i 0 [D.v (.int .i64 ss[i])] (D.v (.int .i64 ss[i])) (by simp [hi]) rfl;have:=hru.scalar;subst this;simpa using hu
theorem Kc {ty:TypeId} {ss zs:List Int} {m:fU} {b n:Nat} {os:Array Obj} (hm:μ r=some m) (hs:cK w X μ (ZX [(r,.sl ty 1 (ss.map fun s=>[D.v (.int .i64 s)]))])) (hb:m.blk=some b) (hz:zs.length=ss.length) :
  cK (grow (putRow (Value.int .i64) (Sort.ahead w n) b 0 zs.toArray) os) X μ (ZX [(r,.sl ty 1 (zs.map fun s=>[D.v (.int .i64 s)]))])/\Ev (fM [r]) w μ (grow (putRow (Value.int .i64) (Sort.ahead w n) b 0 zs.toArray) os) μ:=by
 obtain ⟨aI,cur,hh,bW,hn,eX,qR⟩:=Ep hm hs hb;have gr:b < w.heap.size:=hs.iS ⟨r,m,hm,hb⟩
 have hsize:(putRow (Value.int .i64) (Sort.ahead w n) b 0 zs.toArray).heap.size=w.heap.size:=by simp [putRow,mapBlock,Sort.ahead]
 have hold:∀ k,k < w.heap.size->k≠b->(grow (putRow (Value.int .i64) (Sort.ahead w n) b 0 zs.toArray) os).heap[k]? = w.heap[k]?:=fun k hk aL=>by
  unfold grow;dsimp only;rw [Array.getElem?_append_left (by rw [hsize];exact hk)];unfold putRow mapBlock Sort.ahead;dsimp only;rw [Array.getElem?_modify,if_neg (Ne.symm aL)]
 have je:(grow (putRow (Value.int .i64) (Sort.ahead w n) b 0 zs.toArray) os).heap[b]? = some (.cells (putCells (Value.int .i64) 0 zs.toArray cur) ty (0,0)):=by
  unfold grow;dsimp only;rw [Array.getElem?_append_left (by rw [hsize];exact gr)];unfold putRow mapBlock Sort.ahead;dsimp only;rw [Array.getElem?_modify,if_pos rfl,hh];rfl
 have hgs:w.heap.size<=(grow (putRow (Value.int .i64) (Sort.ahead w n) b 0 zs.toArray) os).heap.size:=by
  unfold grow;simp [hsize]
 have ev:Ev (fM [r]) w μ (grow (putRow (Value.int .i64) (Sort.ahead w n) b 0 zs.toArray) os) μ:=⟨hgs,rfl,rfl,rfl,fun k hk hr=>⟨hold k hk fun e=>hr ⟨r,m,hm,e ▸ hb⟩,hr⟩,fun _ _ h _=>h⟩;refine ⟨⟨fun q row hq=>?_,fun q mq hq=>?_,hs.inj,hs.frame,fun k hk=>Nat.lt_of_lt_of_le (hs.fits k hk) hgs⟩,ev⟩
 .by_cases e:q=r
  .subst e;rw [pF] at hq;obtain rfl:=Option.some.inj hq;refine ⟨m,hm,.sl hb aI je (by simpa [putCells] using bW) (by simpa [hz] using hn) eX (fun el ba=>?_) (by omega) fun i j el c hi hj=>?_⟩
   .obtain ⟨x,_,rfl⟩:=List.mem_map.1 ba;rfl
   .rw [List.getElem?_map] at hi;obtain ⟨x,hx,rfl⟩:=Option.map_eq_some_iff.1 hi;have cQ:i < zs.length:=(List.getElem?_eq_some_iff.1 hx).1
    have jd:j=0:=by have:=(List.getElem?_eq_some_iff.1 hj).1;simpa using this
    subst jd
    obtain rfl:D.v (.int .i64 x)=c:=by simpa using hj
    have hcl:i < cur.size:=by omega
    refine ⟨(Value.int .i64) x,?_,.v _⟩;simp only [Nat.mul_one,Nat.add_zero,putCells,Array.getElem?_mapIdx,Array.getElem?_eq_getElem hcl,Option.map_some];rw [if_pos (by simp;omega)];congr 2;simp only [Nat.sub_zero];rw [getElem!_pos zs.toArray i (by simpa using cQ)];simpa using (List.getElem?_eq_some_iff.1 hx).2
  .rw [yB _ e] at hq;cases hq
 .obtain ⟨row,cz⟩:=hs.dom q mq hq;by_cases e:q=r
  .exact ⟨_,by rw [e];exact pF r _⟩
  .rw [yB _ e] at cz;cases cz
theorem Ka {ty:TypeId} {ss:List Int} {m:fU} {b:Nat} (hm:μ r=some m) (hs:cK w X μ (ZX [(r,.sl ty 1 (ss.map fun s=>[D.v (.int .i64 s)]))])) (hb:m.blk=some b):Holds (Value.int .i64) w b 0 ss.toArray:=by
 obtain ⟨aI,cur,hh,bW,hn,eX,qR⟩:=Ep hm hs hb;intro j hj
 have cR:j < ss.length:=by simpa using hj
 constructor
 .unfold World.cell?;simp only [hh,Nat.zero_add];rw [getElem!_pos ss.toArray j hj,qR j cR];simp
 .unfold World.frozen?;simp only [hh];simp
theorem Kb {ty:TypeId} {ss:List Int} {m:fU} (hm:μ r=some m) (hs:cK w X μ (ZX [(r,.sl ty 1 (ss.map fun s=>[D.v (.int .i64 s)]))])) (hb:m.blk=none):ss=[]:=by
 obtain ⟨m',bO,ok⟩:=hs.rows r _ (pF r _);rw [hm] at bO;obtain rfl:=Option.some.inj bO;generalize cz:Row.sl ty 1 (ss.map fun s=>[D.v (.int .i64 s)])=row at ok
 cases ok with
 | nil _ _=>simp only [Row.sl.injEq] at cz;simpa using cz.2.2
 | box aO _ _ _ _=>rw [hb] at aO;cases aO
 | mp aO _ _ _=>rw [hb] at aO;cases aO
 | it aO _ _=>rw [hb] at aO;cases aO
 | sl aO _ _ _ _ _ _ _ _=>rw [hb] at aO;cases aO
end
def kz (ss:List Int):List Int:=ss.mergeSort fun x y=>decide (x<=y)
theorem aet (ss:List Int):(kz ss).length=ss.length:=by simp [kz]
theorem WG (G:ao) (r:Nat) (ty:TypeId) (ss:List Int) (hl:ss.length < 2^60):MC Tryz.prog G [r] 128 [.own r 0 ss.length] (ZX [(r,.sl ty 1 (ss.map fun s=>[D.v (.int .i64 s)]))]) (.d (.Z4 [])) (ZX [(r,.sl ty 1 ((kz ss).map fun s=>[D.v (.int .i64 s)]))]):=by
 refine ⟨eU.of Tryz.func128 rfl rfl,fun X w μ vs hs b8 aI hv=>?_⟩
 obtain ⟨v,rfl⟩:∃ v,vs = #[v]:=by
  match vs,aI with
  | ⟨[v]⟩,_=>exact ⟨v,rfl⟩
 obtain ⟨m,hm,hc⟩:=(hv 0 v _ rfl rfl).iK;have hL:Lays.n189 Tryz.prog Tryz.Iu:={ Tryz.Sb with };by_cases h0:ss=[]
 .subst h0
  have e:∃ p cap,v = .slice p 0 cap:=by
   rcases hc with ⟨_,rfl,_⟩ | ⟨b,_,rfl,_⟩
   .exact ⟨_,_,rfl⟩
   .exact ⟨_,_,rfl⟩
  obtain ⟨p,cap,rfl⟩:=e;have e1:kz []=[]:=List.eq_nil_of_length_eq_zero (by rw [aet];rfl);rw [e1];refine (Any.slices_Sort_int_none hL p cap w).mono fun e w' ⟨he,hw⟩=>?_;subst hw;exact ⟨_,_,_,μ,he,⟨rfl,rfl⟩,.d (.Z4 rfl fun j u c hu hc=>by simp at hu),hs,.refl _ _ _⟩
 .rcases hc with ⟨hb,rfl,_,hn⟩ | ⟨b,hb,rfl,hn⟩
  .exact absurd (Kb hm hs hb) h0
  .have hH:=Ka hm hs hb;have gr:b < w.heap.size:=hs.iS ⟨r,m,hm,hb⟩;rw [Nat.zero_mul];refine (Any.slices_Sort_int hL b 0 (m.cap - 0) ss w hH gr (by omega)).mono fun e w' ⟨he,n,os,hw⟩=>?_;subst hw;obtain ⟨h1,h2⟩:=Kc (n:=n) (os:=os) hm hs hb (aet ss);exact ⟨_,_,_,μ,he,⟨rfl,rfl⟩,.d (.Z4 rfl fun j u c hu hc=>by simp at hu),h1,h2⟩
theorem M1 (G:ao) (r:Nat) (ty:TypeId) (ss:List Int) (hl:ss.length < 2^60):MC Tryz.prog G [r] 129 [.own r 0 ss.length] (ZX [(r,.sl ty 1 (ss.map fun s=>[D.v (.int .i64 s)]))]) (.own r 0 (Lib.compact ss).length) (ZX [(r,.sl ty 1 ((Lib.compact ss ++ List.replicate (ss.length - (Lib.compact ss).length) 0).map fun s=>[D.v (.int .i64 s)]))]):=by
 refine ⟨eU.of Tryz.func129 rfl rfl,fun X w μ vs hs b8 aI hv=>?_⟩
 obtain ⟨v,rfl⟩:∃ v,vs = #[v]:=by
  match vs,aI with
  | ⟨[v]⟩,_=>exact ⟨v,rfl⟩
 have fJ:=hv 0 v _ rfl rfl;obtain ⟨m,hm,hc⟩:=fJ.iK;have hle:=Lib.compact_length_le ss;have hL:Lays2.n20 Tryz.prog Tryz.Iy:={ Tryz.Sf with };by_cases h0:ss=[]
 .subst h0;have e0:(Lib.compact ([]:List Int))=[]:=List.eq_nil_of_length_eq_zero (by simpa using hle);rw [e0]
  have e:∃ p cap,v = .slice p 0 cap:=by
   rcases hc with ⟨_,rfl,_⟩ | ⟨b,_,rfl,_⟩
   .exact ⟨_,_,rfl⟩
   .exact ⟨_,_,rfl⟩
  obtain ⟨p,cap,rfl⟩:=e;refine (Any.slices_Compact_int_empty hL p cap w).mono fun e w' ⟨he,hw⟩=>?_;subst hw;exact ⟨_,_,_,μ,he,⟨rfl,rfl⟩,fJ,hs,.refl _ _ _⟩
 .rcases hc with ⟨hb,rfl,_,hn⟩ | ⟨b,hb,rfl,hn⟩
  .exact absurd (Kb hm hs hb) h0
  .have hH:=Ka hm hs hb;obtain ⟨CZ,cur,hh,bW,jX,eX,qR⟩:=Ep hm hs hb;rw [Nat.zero_mul];refine (Any.slices_Compact_int hL b 0 (m.cap - 0) ss w hH (by omega) (by omega)).mono fun e w' ⟨he,n,hw⟩=>?_
   have hz:(Lib.compact ss ++ List.replicate (ss.length - (Lib.compact ss).length) 0).length=ss.length:=by simp;omega
   obtain ⟨h1,h2⟩:=Kc (n:=n) (os:=#[]) hm hs hb hz;rw [grow_empty] at h1 h2;subst hw;refine ⟨_,_,_,μ,he,⟨rfl,rfl⟩,.own hm (.inr ⟨b,hb,by simp,by omega⟩),h1,h2⟩
end Go.Proofs.YtdigkhaofjmgkaaGreatDoor
namespace Go.Proofs.YtdigkhaofjmgkaaGreatDoor
open Go.Av
theorem afb:∀ {a b:List Int},a.Pairwise (· < ·)->b.Pairwise (· < ·)->(∀ x,x∈a↔x∈b)->a=b
 | [],[],_,_,_=>rfl
 | [],y :: b,_,_,h=>absurd ((h y).2 (by simp)) (by simp)
 | x :: a,[],_,_,h=>absurd ((h x).1 (by simp)) (by simp)
 | x :: a,y :: b,ha,hb,h=>by
  obtain ⟨vk,ha2⟩:=List.pairwise_cons.1 ha;obtain ⟨c6,ey⟩:=List.pairwise_cons.1 hb
  have we:x=y:=by
   rcases List.mem_cons.1 ((h x).1 (by simp)) with e | hx
   .exact e
   .rcases List.mem_cons.1 ((h y).2 (by simp)) with e | hy
    .exact e.symm
    .have:=c6 x hx;have:=vk y hy;omega
  subst we;rw [afb ha2 ey fun z=>?_];constructor
  .intro hz
   rcases List.mem_cons.1 ((h z).1 (by simp [hz])) with e | e
   .subst e;have:=vk z hz;omega
   .exact e
  .intro hz
   rcases List.mem_cons.1 ((h z).2 (by simp [hz])) with e | e
   .subst e;have:=c6 z hz;omega
   .exact e
theorem DI (d:Array Int):∀ (m:Nat),m<=d.size->∀ j,j < m->d[j]!∈Lib.compactUpTo d m
 | 0,_,j,h=>by omega
 | m+1,hm,j,hj=>by
  rw [Lib.compactUpTo_succ];by_cases yw:j < m
  .exact List.mem_append_left _ (DI d m (by omega) j yw)
  .obtain rfl:j=m:=by omega
   by_cases hk:Lib.keeps d j=true
   .exact List.mem_append_right _ (by simp [hk])
   .have jd:j≠0:=by rintro rfl;exact hk (Lib.keeps_lt_one d 0 (by omega))
    have he:d[j]! = d[j - 1]!:=by
     unfold Lib.keeps at hk;simp [jd] at hk
     first | exact hk | exact hk.symm
    rw [he];exact List.mem_append_left _ (DI d j (by omega) (j - 1) (by omega))
theorem EX (d:Array Int):∀ (m:Nat),m<=d.size->∀ x∈Lib.compactUpTo d m,∃ j,j < m/\x=d[j]!
 | 0,_,x,h=>by simp [Lib.compactUpTo] at h
 | m+1,hm,x,h=>by
  rw [Lib.compactUpTo_succ] at h
  rcases List.mem_append.1 h with h | h
  .obtain ⟨j,hj,e⟩:=EX d m (by omega) x h;exact ⟨j,by omega,e⟩
  .split at h
   .simp at h;exact ⟨m,by omega,h⟩
   .simp at h
theorem afj (d:Array Int) (hs:∀ i j,i<=j->j < d.size->d[i]!<=d[j]!):∀ (m:Nat),m<=d.size->(Lib.compactUpTo d m).Pairwise (· < ·)
 | 0,_=>by simp [Lib.compactUpTo]
 | m+1,hm=>by
  have ih:=afj d hs m (by omega);rw [Lib.compactUpTo_succ];by_cases hk:Lib.keeps d m=true
  .rw [if_pos hk,List.pairwise_append];refine ⟨ih,by simp,fun a ha b hb=>?_⟩;rw [List.mem_singleton] at hb;subst hb;obtain ⟨j,hj,rfl⟩:=EX d m (by omega) a ha
   have aL:d[m]!≠d[m - 1]!:=by
    intro he;rw [Lib.keeps_neg (by omega) he] at hk;cases hk
   have h1:=hs j (m - 1) (by omega) (by omega);have h2:=hs (m - 1) m (by omega) (by omega);omega
  .rw [if_neg hk,List.append_nil];exact ih
theorem WJ (l:List Int):(Lib.compact (kz l)).Pairwise (· < ·):=by
 unfold Lib.compact;refine afj _ (fun i j kL hj=>?_) _ (by simp)
 have hp:(kz l).Pairwise (·<=·):=by
  unfold kz;have:=List.pairwise_mergeSort (le:=fun x y:Int=>decide (x<=y)) (by intro a b c h1 h2;simp only [decide_eq_true_eq] at *;omega) (by intro a b;simp only [Bool.or_eq_true,decide_eq_true_eq];omega) l
  exact this.imp fun h=>by simpa using h
 generalize kz l=l at hp hj ⊢
 have cR:j < l.length:=by simpa using hj
 rw [getElem!_pos l.toArray i (by simpa using (by omega:i < l.length)),getElem!_pos l.toArray j (by simpa using cR)];simp only [List.getElem_toArray];by_cases he:i=j
 .subst he;omega
 .exact (List.pairwise_iff_getElem.1 hp) i j (by omega) cR (by omega)
theorem WI {l:List Int} {x:Int}:x∈Lib.compact (kz l)↔x∈l:=by
 have h0:∀ l:List Int,x∈Lib.compact l↔x∈l:=by
  intro l;unfold Lib.compact;constructor
  .intro h;obtain ⟨j,hj,rfl⟩:=EX l.toArray l.length (by simp) x h;rw [getElem!_pos l.toArray j (by simpa using hj)];simp
  .intro h;obtain ⟨j,hj,rfl⟩:=List.mem_iff_getElem.1 h;have:=DI l.toArray l.length (by simp) j hj;rw [getElem!_pos l.toArray j (by simpa using hj)] at this;simpa using this
 rw [h0];unfold kz;exact List.mem_mergeSort
def adn (p:aF) (r:RgP):List Int:=match r.cond with
 | some e=>(aaE false e).map (bB p)
 | none=>[]
def abO (p:aF):Nat->List Int
 | 0=>[]
 | i+1=>abO p i ++ adn p (p.ZY.getD i ⟨0,[],none⟩)
theorem Bj {p:aF} {i:Nat} (h:i < p.ZY.length):abO p (i+1)=abO p i ++ adn p p.ZY[i]:=by
 rw [abO,List.getD_eq_getElem?_getD,List.getElem?_eq_getElem h];rfl
theorem Gb {p:aF} {x:Int}:∀ {n:Nat},n<=p.ZY.length->(x∈abO p n↔∃ j,∃ h:j < p.ZY.length,j < n/\x∈adn p p.ZY[j])
 | 0,_=>by simp [abO]
 | n+1,hn=>by
  rw [Bj (by omega),List.mem_append,Gb (by omega)];constructor
  .rintro (⟨j,h,hj,hx⟩ | hx)
   .exact ⟨j,h,by omega,hx⟩
   .exact ⟨n,by omega,by omega,hx⟩
  .rintro ⟨j,h,hj,hx⟩;by_cases e:j=n
   .subst e;exact .inr hx
   .exact .inl ⟨j,h,by omega,hx⟩
def ach (s:Tx) (r:RgP):Bool:=match r.cond with
 | some e=>decide (0<=idx (fun x=>x == s) (aaE false e))
 | none=>false
def cY (p:aF):Nat->List Int
 | 0=>[]
 | i+1=>cY p i ++ if p.ZY.any (ach (p.names.getD i ⟨[],0,0⟩).name) then [(i:Int)] else []
theorem Lc {p:aF} {i:Nat} (h:i < p.names.length):cY p (i+1)=cY p i ++ if p.ZY.any (ach p.names[i].name) then [(i:Int)] else []:=by
 rw [cY,List.getD_eq_getElem?_getD,List.getElem?_eq_getElem h];rfl
theorem xj (p:aF):∀ n,(cY p n).length<=n
 | 0=>Nat.le_refl _
 | n+1=>by rw [cY,List.length_append];have:=xj p n;split<;>simp<;>omega
theorem r6 {p:aF} {x:Int}:∀ {n:Nat},n<=p.names.length->(x∈cY p n↔∃ i,∃ h:i < p.names.length,i < n/\x=i/\p.ZY.any (ach p.names[i].name)=true)
 | 0,_=>by simp [cY]
 | n+1,hn=>by
  rw [Lc (by omega),List.mem_append,r6 (by omega)];constructor
  .rintro (⟨j,h,hj,hx⟩ | hx)
   .exact ⟨j,h,by omega,hx⟩
   .split at hx
    .exact ⟨n,by omega,by omega,by simpa using hx,‹_›⟩
    .cases hx
  .rintro ⟨j,h,hj,hx,ha⟩;by_cases e:j=n
   .subst e;exact .inr (by rw [if_pos ha];simpa using hx)
   .exact .inl ⟨j,h,by omega,hx,ha⟩
theorem Lb (p:aF):∀ {n:Nat},n<=p.names.length->(cY p n).Pairwise (· < ·)
 | 0,_=>by simp [cY]
 | n+1,hn=>by
  rw [cY,List.pairwise_append];refine ⟨Lb p (by omega),by split<;>simp,fun a ha b hb=>?_⟩;obtain ⟨i,_,hi,rfl,_⟩:=(r6 (by omega)).1 ha;split at hb
  .rw [List.mem_singleton] at hb;omega
  .cases hb
theorem HV (l:List Tx) (s:Tx):0<=idx (fun x=>x == s) l↔s∈l:=by
 have h:=De (fun x:Tx=>x == s) l
 have h2:(l.any fun x=>x == s)=true↔s∈l:=by
  rw [List.any_eq_true];constructor
  .rintro ⟨x,hx,he⟩
   have:x=s:=by simpa using he
   exact this ▸ hx
  .exact fun hs=>⟨s,hs,by simp⟩
 rw [<- h2,<- h,decide_eq_true_eq]
theorem DX {s:Tx}:∀ (n:Nat) (e:Ex),SizeOf.sizeOf e<=n->s∈cf false e->s∈cf true e
 | 0,e,hn,_=>by cases e<;>simp at hn
 | n+1,e,hn,h=>by
  have many:∀ l:List Ex,(∀ x∈l,SizeOf.sizeOf x<=n)->s∈aaQ false l->s∈aaQ true l:=by
   intro l
   induction l with
   | nil=>intro _ h;simp [aaQ] at h
   | cons x l ih=>
    intro hl h;rw [aaQ,List.mem_append] at h ⊢
    rcases h with h | h
    .exact .inl (DX n x (hl x (by simp)) h)
    .exact .inr (ih (fun y hy=>hl y (by simp [hy])) h)
  have inside:∀ (l:List Ex),SizeOf.sizeOf l<=n->∀ x∈l,SizeOf.sizeOf x<=n:=fun l hl x hx=>by
   have:=List.sizeOf_lt_of_mem hx;omega
  cases e with
  | eV b=>simp [cf,cm,eE] at h
  | bit t=>simp [cf,cm,eE] at h
  | fQ t=>exact h
  | fC t=>exact h
  | not e=>exact DX n e (by simp at hn;omega) h
  | and l=>exact many l (inside l (by simp at hn;omega)) h
  | or l=>exact many l (inside l (by simp at hn;omega)) h
theorem I0 {s:Tx} {e:Ex} (h:s∈aaE false e):s∈aaE true e:=wD.2 (DX _ e (Nat.le_refl _) (wD.1 h))
theorem qt {p:aF} (h:aar p=none):∀ r∈p.ZY,(1<=r.kind/\r.kind<=6)/\¬ bB p r.name < 0/\∃ e,r.cond=some e/\∀ s∈aaE true e,¬ bB p s < 0:=fun r hr=>by
 unfold aar at h;split at h
 .cases h
 split at h
 .cases h
 split at h
 .cases h
 rename_i hB;obtain ⟨k,hk,rfl⟩:=List.mem_iff_getElem.1 hr;have h0:=xX hB k hk;generalize p.ZY[k]=r at h0;obtain ⟨kd,nm,cd⟩:=r
 cases cd with
 | none=>cases (show (1:Int)=0 from h0)
 | some e=>
  rw [aeQ] at h0;split at h0
  .cases h0
  rename_i h1;split at h0
  .cases h0
  rename_i h2;split at h0
  .cases h0
  split at h0
  .cases h0
  rename_i h4;refine ⟨by simpa using h1,h2,e,rfl,fun s hs hn=>h4 ?_⟩;exact List.any_eq_true.2 ⟨s,hs,by simpa using hn⟩
theorem Gc {p:aF} (h:aar p=none):Lib.compact (kz (abO p p.ZY.length))=cY p p.names.length:=by
 have hg:=gC h;have hr:=qt h;refine afb (WJ _) (Lb p (Nat.le_refl _)) fun x=>?_;rw [WI,Gb (Nat.le_refl _),r6 (Nat.le_refl _)];constructor
 .rintro ⟨j,hj,_,hx⟩;obtain ⟨_,_,e,he,aC⟩:=hr _ (List.getElem_mem hj);unfold adn at hx;rw [he] at hx;obtain ⟨s,hs,rfl⟩:=List.mem_map.1 hx;obtain ⟨k,hk,hke,Qn⟩:=oS (aC s (I0 hs));have Qk:bB p s=k:=hke
  have Qo:p.names[k].name=s:=by simpa using Qn
  refine ⟨k,hk,hk,Qk,List.any_eq_true.2 ⟨_,List.getElem_mem hj,?_⟩⟩;unfold ach;rw [he,Qo];simpa using (HV _ _).2 hs
 .rintro ⟨i,hi,_,rfl,ha⟩;obtain ⟨r,HG,hb⟩:=List.any_eq_true.1 ha;obtain ⟨j,hj,rfl⟩:=List.mem_iff_getElem.1 HG;obtain ⟨_,_,e,he,aC⟩:=hr _ HG;unfold ach at hb;rw [he] at hb;have hs:=(HV _ _).1 (by simpa using hb);refine ⟨j,hj,hj,?_⟩;unfold adn;rw [he];exact List.mem_map.2 ⟨_,hs,hg.num i hi⟩
structure StP where
 is:List Bool
 ct:List Int
def iO (p:aF):StP:=⟨List.replicate p.names.length false,List.replicate p.names.length 0⟩
def ew (p:aF) (l:List Bool) (s:Tx):Bool:=l.getD (bB p s).toNat false
def mZ (is bD:Tx->Bool):Option Ex->Bool
 | some e=>evE is bD e
 | none=>false
def gz (s:StP) (i:Nat) (m:Int) (yes:Bool):StP:=
 let c:=if yes then (if s.ct.getD i 0+1 < m then s.ct.getD i 0+1 else m) else s.ct.getD i 0
 ⟨s.is.set i (decide (m<=c)),s.ct.set i c⟩
def nN (s:StP) (i:Nat):StP:=⟨s.is.set i false,s.ct.set i 0⟩
def iM (p:aF) (old t:StP) (r:RgP):StP:=
 let i:=(bB p r.name).toNat
 let yes:=mZ (ew p t.is) (ew p old.is) r.cond
 let m:=(p.names.getD i ⟨[],0,0⟩).count
 if r.kind=1 then ⟨t.is.set i yes,t.ct⟩
 else if r.kind=2 then ⟨t.is.set i (t.is.getD i false || yes),t.ct⟩
 else if r.kind=3 then ⟨t.is.set i (t.is.getD i false && !yes),t.ct⟩
 else if r.kind=4 then (if yes then gz t i m yes else nN (gz t i m yes) i)
 else if r.kind=5 then gz t i m yes
 else if r.kind=6 then (if yes then nN t i else t)
 else t
def jF (at':List Int) (bL:List Bool) (is:List Bool):Nat->List Bool
 | 0=>is
 | k+1=>(jF at' bL is k).set (at'.getD k 0).toNat (bL.getD k false)
def aZ (p:aF):List Int:=abe p.names 1 p.names.length
def lO (p:aF) (s:StP) (bL:List Bool):StP:=p.ZY.foldl (iM p s) ⟨jF (aZ p) bL s.is (aZ p).length,s.ct⟩
def KO (p:aF) (s:StP) (bL:List Bool):(Int×Option Nat) ⊕ StP:=match aar p with
 | some e=>.inl e
 | none=>if bL.length≠(aZ p).length\/s.is.length≠p.names.length\/s.ct.length≠p.names.length then .inl (2,none) else .inr (lO p s bL)
def iU (l:List Bool):D:=.sl none (l.map fun b=>[.v (.bool b)])
def gE (l:List Int):D:=.sl none (l.map fun n=>[.v (.int .i64 n)])
def lM (s:StP):List D:=[iU s.is,gE s.ct]
def pd (s:StP):D:=.agg (lM s)
theorem fD {α:Type} {l:List α} {i:Nat} {d:α} (h:i < l.length):l.getD i d=l[i]:=by
 rw [List.getD_eq_getElem?_getD,List.getElem?_eq_getElem h];rfl
theorem DZ {p:aF} {s:Tx} (h:¬ bB p s < 0):(bB p s).toNat < p.names.length/\bB p s=((bB p s).toNat:Int):=by
 obtain ⟨k,hk,hke,_⟩:=oS h;have e:bB p s=(k:Int):=hke;rw [e];exact ⟨by simpa using hk,by simp⟩
set_option maxHeartbeats 2000000 in
theorem Mh (G:ao) (p:aF) (hp:p.names.length < 2^62) (s:StP) (hl:s.is.length=p.names.length):lJ (fun nm=>¬ bB p nm < 0) G 132 [.ip (lM s),.ip (cPg p)] (ew p s.is):=by
 intro nm hn;have bA:=rI G p hp nm;obtain ⟨h1,h2⟩:=DZ hn
 have hi:(bB p nm).toNat < s.is.length:=by omega
 have qO:ew p s.is nm=s.is[(bB p nm).toNat]:=by unfold ew;exact fD hi
 rw [qO];rw [h2] at bA;clear h1 h2 qO hn;simp only [dw,cPg,bR,dW,dS] at bA;simp only [lM,iU,gE,cPg,bR,dW];generalize eL:(bB p nm).toNat=i at bA hi ⊢;clear eL hl hp;generalize p.names.map Z3=NN at bA ⊢;generalize p.ZY.map cg=RR at bA ⊢;generalize s.is=L at hi ⊢;generalize s.ct.map (fun n=>[D.v (.int .i64 n)])=CC;refine aw.aD (ZZ _) Tryz.func132 rfl rfl (rs:=[.tmp 4]) Tryz.results132 (by simp [Tryz.ntmps132]) fun X=>?_;simp only [Tryz.ntmps132,List.map];have fw:=@dS.eq_1;refine ZW fw [0,1,2] [] ?_;have qf:=(Aq fw @hi);refine rU bA [4] [] ?_;exact aK fw
set_option maxHeartbeats 2000000 in
theorem Mi (G:ao) (p:aF) (hp:p.names.length < 2^62) (s:StP) (hl:s.is.length=p.names.length):lJ (fun nm=>¬ bB p nm < 0) G 133 [.ip (lM s),.ip (cPg p)] (ew p s.is):=by
 intro nm hn;have bA:=rI G p hp nm;obtain ⟨h1,h2⟩:=DZ hn
 have hi:(bB p nm).toNat < s.is.length:=by omega
 have qO:ew p s.is nm=s.is[(bB p nm).toNat]:=by unfold ew;exact fD hi
 rw [qO];rw [h2] at bA;clear h1 h2 qO hn;simp only [dw,cPg,bR,dW,dS] at bA;simp only [lM,iU,gE,cPg,bR,dW];generalize eL:(bB p nm).toNat=i at bA hi ⊢;clear eL hl hp;generalize p.names.map Z3=NN at bA ⊢;generalize p.ZY.map cg=RR at bA ⊢;generalize s.is=L at hi ⊢;generalize s.ct.map (fun n=>[D.v (.int .i64 n)])=CC;refine aw.aD (ZZ _) Tryz.func133 rfl rfl (rs:=[.tmp 4]) Tryz.results133 (by simp [Tryz.ntmps133]) fun X=>?_;simp only [Tryz.ntmps133,List.map];have fw:=@dS.eq_1;refine ZW fw [0,1,2] [] ?_;have qf:=(Aq fw @hi);refine rU bA [4] [] ?_;exact aK fw
def w8 (s:StP):List (Nat×Row):=[(7,.box 68 [.own 701 0 s.is.length,.own 702 0 s.ct.length]),(701,.sl 4 1 (s.is.map fun b=>[.v (.bool b)])),(702,.sl 3 1 (s.ct.map fun n=>[.v (.int .i64 n)]))]
set_option maxHeartbeats 4000000 in
theorem Wn (G:ao) (s:StP) (i:Nat) (m:Int) (yes:Bool) (hi:i < s.is.length) (hc:i < s.ct.length) (hb:∀ x∈s.ct,0<=x/\x<=2^40):MC Tryz.prog G [7] 134 [.ref 7 0 0,.d (ab i),.d (ab m),.d (.v (.bool yes))] (ZX (w8 s)) (.d (.Z4 [])) (ZX (w8 (gz s i m yes))):=by
 have hci:s.ct.getD i 0=s.ct[i]:=fD hc;have kI:=hb s.ct[i] (List.getElem_mem hc)
 have Yx:(s.ct.map fun n=>[D.v (.int .i64 n)])[i]? = some [.v (.int .i64 s.ct[i])]:=by simp [hc]
 simp only [w8,gz,hci]
 cases yes with
 | true=>
  simp only [if_true];refine MC.aD (ZZ _) Tryz.func134 rfl rfl (rs:=[]) Tryz.results134 (by simp [Tryz.ntmps134]) rfl fun X=>?_;simp only [Tryz.ntmps134];have fw:=@ab.eq_1;refine ae fun K1 ay=>?_;refine ZW fw [0,1,2,8] [7,701,702] ?_;refine ak rfl ?_;refine acS (ZZ _) (by kernel_rfl) [(3,7),(9,7),(11,702),(12,702),(15,702),(16,702)] (by kernel_rfl) fun K' af=>?_;(repeat (refine fz fun K2 aa=>?_;simp [ab,hc];(repeat (refine ⟨by omega,?_⟩));refine aa _ ?_;clear aa K2));refine gO (af _ ?_);clear af K';refine ay _ (AW.norm [0,1,2] [7,701,702] (cC rfl) (AW.st (by simp [ab,hc];rfl) ?_));refine acS (ZZ _) (by kernel_rfl) [(3,7),(8,7),(10,702),(11,702),(14,701),(15,701)] (by kernel_rfl) fun K' af=>?_;(repeat (refine fz fun K2 aa=>?_;simp [ab,hc,hi];(repeat (refine ⟨by omega,?_⟩));refine aa _ ?_;clear aa K2));refine gO (af _ ?_);clear af K';(try simp only [aM,aP]);simp [D.le,D.le.go,List.map_set]
 | false=>
  simp only [Bool.false_eq_true,if_false];refine MC.aD (ZZ _) Tryz.func134 rfl rfl (rs:=[]) Tryz.results134 (by simp [Tryz.ntmps134]) rfl fun X=>?_;simp only [Tryz.ntmps134];have fw:=@ab.eq_1;refine ae fun K1 ay=>?_;refine ZW fw [0,1,2,8] [7,701,702] ?_;refine ag rfl ?_;refine ah (ay _ ?_);refine acS (ZZ _) (by kernel_rfl) [(3,7),(8,7),(10,702),(11,702),(14,701),(15,701)] (by kernel_rfl) fun K' af=>?_;(repeat (refine fz fun K2 aa=>?_;simp [ab,hc,hi];(repeat (refine ⟨by omega,?_⟩));refine aa _ ?_;clear aa K2));refine gO (af _ ?_);clear af K';(try simp only [aM,aP]);simp [D.le,D.le.go,List.map_set]
theorem MS {p:aF} (h:aar p=none):∀ r∈p.ZY,(p.names.getD (bB p r.name).toNat ⟨[],0,0⟩).kind=gp r.kind:=fun r hr=>by
 unfold aar at h;split at h
 .cases h
 split at h
 .cases h
 split at h
 .cases h
 rename_i hB;obtain ⟨k,hk,rfl⟩:=List.mem_iff_getElem.1 hr;have h0:=xX hB k hk;generalize p.ZY[k]=r at h0;obtain ⟨kd,nm,cd⟩:=r
 cases cd with
 | none=>cases (show (1:Int)=0 from h0)
 | some e=>
  rw [aeQ] at h0;split at h0
  .cases h0
  split at h0
  .cases h0
  split at h0
  .cases h0
  rename_i h3;simp only [Bool.not_eq_true',decide_eq_false_iff_not,Classical.not_not] at h3;exact h3.symm
structure dU (p:aF) (s:StP):Prop where
 l1:s.is.length=p.names.length
 l2:s.ct.length=p.names.length
 lo:∀ k,0<=s.ct.getD k 0
 hi:∀ k (hk:k < p.names.length),s.ct.getD k 0<=p.names[k].count
 at':∀ k (hk:k < p.names.length),3<=p.names[k].kind->s.is.getD k false=decide (s.ct.getD k 0=p.names[k].count)
theorem qF {α:Type} (n k:Nat) (x:α):(List.replicate n x).getD k x=x:=by
 rw [List.getD_eq_getElem?_getD,List.getElem?_replicate];split<;>rfl
theorem jQ {α:Type} {l:List α} {i:Nat} {x d:α} (h:i < l.length):(l.set i x).getD i d=x:=by
 rw [List.getD_eq_getElem?_getD,List.getElem?_set_self h];rfl
theorem gF {α:Type} {l:List α} {i k:Nat} {x d:α} (h:i≠k):(l.set i x).getD k d=l.getD k d:=by
 rw [List.getD_eq_getElem?_getD,List.getElem?_set_ne h,List.getD_eq_getElem?_getD]
theorem WQ {p:aF} (h:abl p):dU p (iO p):=by
 refine ⟨by simp [iO],by simp [iO],fun k=>?_,fun k hk=>?_,fun k hk h3=>?_⟩
 .show 0<=(List.replicate _ (0:Int)).getD k 0;rw [qF];exact Int.le_refl _
 .show (List.replicate _ (0:Int)).getD k 0<=_;rw [qF]
  rcases h.count _ (List.getElem_mem hk) with h1 | h1<;>omega
 .show (List.replicate _ false).getD k false=decide ((List.replicate _ (0:Int)).getD k 0=_);rw [qF,qF]
  rcases h.count _ (List.getElem_mem hk) with h1 | h1
  .omega
  .exact (decide_eq_false (by omega)).symm
theorem aer {p:aF} {t:StP} (ht:dU p t) {i:Nat} (hi:i < p.names.length) (hk:p.names[i].kind < 3) (b:Bool):dU p ⟨t.is.set i b,t.ct⟩:=by
 refine ⟨by simp [ht.l1],ht.l2,ht.lo,ht.hi,fun k hk' h3=>?_⟩
 have aL:i≠k:=fun e=>by subst e;omega
 show (t.is.set i b).getD k false=_;rw [gF aL];exact ht.at' k hk' h3
theorem Lm {p:aF} (hg:abl p) {t:StP} (ht:dU p t) {i:Nat} (hi:i < p.names.length):dU p (nN t i):=by
 refine ⟨by simp [nN,ht.l1],by simp [nN,ht.l2],fun k=>?_,fun k hk=>?_,fun k hk h3=>?_⟩
 .show 0<=(t.ct.set i 0).getD k 0;by_cases e:i=k
  .subst e;rw [jQ (by rw [ht.l2];exact hi)];exact Int.le_refl _
  .rw [gF e];exact ht.lo k
 .show (t.ct.set i 0).getD k 0<=_;by_cases e:i=k
  .subst e;rw [jQ (by rw [ht.l2];exact hi)]
   rcases hg.count _ (List.getElem_mem hk) with h1 | h1<;>omega
  .rw [gF e];exact ht.hi k hk
 .show (t.is.set i false).getD k false=decide ((t.ct.set i 0).getD k 0=_);by_cases e:i=k
  .subst e;rw [jQ (by first | (rw [ht.l1];exact hi) | (rw [ht.l2];exact hi)),jQ (by first | (rw [ht.l2];exact hi) | (rw [ht.l1];exact hi))]
   rcases hg.count _ (List.getElem_mem hk) with h1 | h1
   .omega
   .exact (decide_eq_false (by omega)).symm
  .rw [gF e,gF e];exact ht.at' k hk h3
theorem Et {p:aF} (hg:abl p) {t:StP} (ht:dU p t) {i:Nat} (hi:i < p.names.length) (yes:Bool):dU p (gz t i p.names[i].count yes):=by
 have h0:=ht.lo i;have h1:=ht.hi i hi;have hc0:=hg.count _ (List.getElem_mem hi);obtain ⟨c,Py,hc⟩:∃ c,c=(if yes then (if t.ct.getD i 0+1 < p.names[i].count then t.ct.getD i 0+1 else p.names[i].count) else t.ct.getD i 0)/\0<=c/\c<=p.names[i].count:=⟨_,rfl,by split<;>(try split)<;>omega,by split<;>(try split)<;>omega⟩
 have e:gz t i p.names[i].count yes=⟨t.is.set i (decide (p.names[i].count<=c)),t.ct.set i c⟩:=by
  rw [Py];rfl
 rw [e];refine ⟨by simp [ht.l1],by simp [ht.l2],fun k=>?_,fun k hk=>?_,fun k hk h3=>?_⟩
 .show 0<=(t.ct.set i c).getD k 0;by_cases e:i=k
  .subst e;rw [jQ (by rw [ht.l2];exact hi)];omega
  .rw [gF e];exact ht.lo k
 .show (t.ct.set i c).getD k 0<=_;by_cases e:i=k
  .subst e;rw [jQ (by rw [ht.l2];exact hi)];omega
  .rw [gF e];exact ht.hi k hk
 .show (t.is.set i _).getD k false=decide ((t.ct.set i c).getD k 0=_);by_cases e:i=k
  .subst e;rw [jQ (by first | (rw [ht.l1];exact hi) | (rw [ht.l2];exact hi)),jQ (by first | (rw [ht.l2];exact hi) | (rw [ht.l1];exact hi))];congr 1;exact propext ⟨fun h=>by omega,fun h=>by omega⟩
  .rw [gF e,gF e];exact ht.at' k hk h3
theorem zV {p:aF} (hc:aar p=none) {r:RgP} (hr:r∈p.ZY):∃ i,∃ hi:i < p.names.length,bB p r.name=(i:Int)/\p.names[i].kind=gp r.kind/\p.names.getD i ⟨[],0,0⟩=p.names[i]:=by
 obtain ⟨_,h2,_⟩:=qt hc r hr;obtain ⟨h3,h4⟩:=DZ h2;have h5:=MS hc r hr;have h6:p.names.getD (bB p r.name).toNat ⟨[],0,0⟩=p.names[(bB p r.name).toNat]:=fD h3;rw [h6] at h5;exact ⟨_,h3,h4,h5,h6⟩
theorem Kt {p:aF} (hc:aar p=none) {r:RgP} (hr:r∈p.ZY) (old:StP) {t:StP} (ht:dU p t):dU p (iM p old t r)/\∀ k (hk:k < p.names.length),p.names[k].kind=1->(iM p old t r).is.getD k false=t.is.getD k false:=by
 have hg:=gC hc;obtain ⟨i,hi,hn,hw,hd⟩:=zV hc hr;obtain ⟨hk,_⟩:=qt hc r hr;unfold iM;simp only [hn,Int.toNat_natCast,hd]
 have gx:p.names[i].kind≠1:=by rw [hw];unfold gp;split<;>(try split)<;>omega
 have off:∀ k (hk:k < p.names.length),p.names[k].kind=1->i≠k:=fun k hk h1 e=>by subst e;exact gx h1
 have CA:r.kind<=3->p.names[i].kind < 3:=fun h=>by rw [hw];unfold gp;rw [if_pos h];omega
 split
 .exact ⟨aer ht hi (CA (by omega)) _,fun k hk h1=>gF (off k hk h1)⟩
 split
 .exact ⟨aer ht hi (CA (by omega)) _,fun k hk h1=>gF (off k hk h1)⟩
 split
 .exact ⟨aer ht hi (CA (by omega)) _,fun k hk h1=>gF (off k hk h1)⟩
 split
 .split
  .exact ⟨Et hg ht hi _,fun k hk h1=>gF (off k hk h1)⟩
  .refine ⟨Lm hg (Et hg ht hi _) hi,fun k hk h1=>?_⟩;show ((gz t i _ _).is.set i false).getD k false=_;rw [gF (off k hk h1)];exact gF (off k hk h1)
 split
 .exact ⟨Et hg ht hi _,fun k hk h1=>gF (off k hk h1)⟩
 split
 .split
  .exact ⟨Lm hg ht hi,fun k hk h1=>gF (off k hk h1)⟩
  .exact ⟨ht,fun k hk h1=>rfl⟩
 .exact ⟨ht,fun k hk h1=>rfl⟩
theorem zW {p:aF} (hc:aar p=none) (old:StP):∀ (l:List RgP) {t:StP},(∀ r∈l,r∈p.ZY)->dU p t->dU p (l.foldl (iM p old) t)/\∀ k (hk:k < p.names.length),p.names[k].kind=1->(l.foldl (iM p old) t).is.getD k false=t.is.getD k false
 | [],t,_,ht=>⟨ht,fun k hk h1=>rfl⟩
 | r :: l,t,hl,ht=>by
  obtain ⟨h1,h2⟩:=Kt hc (hl r (by simp)) old ht;obtain ⟨h3,h4⟩:=zW hc old l (fun r hr=>hl r (by simp [hr])) h1;exact ⟨h3,fun k hk hk1=>(h4 k hk hk1).trans (h2 k hk hk1)⟩
theorem Dn {l:List NmP} {k:Int} {x:Int}:∀ {n:Nat},n<=l.length->(x∈abe l k n↔∃ i,∃ hi:i < l.length,i < n/\x=(i:Int)/\l[i].kind=k)
 | 0,_=>by simp [abe]
 | n+1,hn=>by
  rw [y6 (by omega),List.mem_append,Dn (by omega)];constructor
  .rintro (⟨i,hi,h1,h2,h3⟩ | h)
   .exact ⟨i,hi,by omega,h2,h3⟩
   .split at h
    .rename_i hk;exact ⟨n,by omega,by omega,by simpa using h,hk⟩
    .cases h
  .rintro ⟨i,hi,h1,h2,h3⟩;by_cases e:i=n
   .subst e;right;rw [if_pos h3];simp [h2]
   .exact .inl ⟨i,hi,by omega,h2,h3⟩
theorem Il {l:List NmP} {k:Int}:∀ {n:Nat},n<=l.length->(abe l k n).Nodup
 | 0,_=>by simp [abe]
 | n+1,hn=>by
  rw [y6 (by omega),List.nodup_append];refine ⟨Il (by omega),by split<;>simp,fun a ha b hb e=>?_⟩;subst e;obtain ⟨i,hi,h1,h2,_⟩:=(Dn (by omega)).1 ha;split at hb
  .have:a=(n:Int):=by simpa using hb
   omega
  .cases hb
theorem ad0 {p:aF} {j:Nat} (hj:j < (aZ p).length):∃ i,∃ hi:i < p.names.length,(aZ p)[j]=(i:Int)/\p.names[i].kind=1:=by
 obtain ⟨i,hi,_,h2,h3⟩:=(Dn (Nat.le_refl _)).1 (List.getElem_mem hj);exact ⟨i,hi,h2,h3⟩
theorem Eh {at':List Int} {bL is:List Bool} {k i:Nat} (h:k < at'.length) (hi:at'[k]=(i:Int)):jF at' bL is (k+1)=(jF at' bL is k).set i (bL.getD k false):=by
 rw [jF,fD h,hi];rfl
theorem rT {p:aF} (bL:List Bool) {s:StP} (hs:dU p s):∀ k,k<=(aZ p).length->dU p ⟨jF (aZ p) bL s.is k,s.ct⟩/\∀ j (hj:j < k) (hC:j < (aZ p).length),(jF (aZ p) bL s.is k).getD (aZ p)[j].toNat false=bL.getD j false
 | 0,_=>⟨hs,fun j hj=>absurd hj (by omega)⟩
 | k+1,hk=>by
  obtain ⟨h1,h2⟩:=rT bL hs k (by omega);obtain ⟨i,hi,he,h3⟩:=ad0 (p:=p) (j:=k) (by omega);rw [Eh (by omega) he];refine ⟨aer h1 hi (by omega) _,fun j hj hC=>?_⟩;by_cases e:j=k
  .subst e;rw [he,Int.toNat_natCast,jQ (by rw [h1.l1];exact hi)]
  .have aL:i≠(aZ p)[j].toNat:=fun e2=>by
    obtain ⟨i2,ea,ia,_⟩:=ad0 (p:=p) hC;rw [ia,Int.toNat_natCast] at e2
    have:(aZ p)[j]=(aZ p)[k]:=by rw [he,ia,e2]
    exact e ((List.getElem_inj (Il (Nat.le_refl _))).1 this)
   rw [gF aL];exact h2 j (by omega) hC
theorem F6 {p:aF} (hc:aar p=none) {s:StP} (hs:dU p s) (bL:List Bool):dU p (lO p s bL)/\∀ j (hj:j < (aZ p).length),(lO p s bL).is.getD (aZ p)[j].toNat false=bL.getD j false:=by
 obtain ⟨h1,h2⟩:=rT bL hs (aZ p).length (Nat.le_refl _);obtain ⟨h3,h4⟩:=zW hc s p.ZY (fun r hr=>hr) h1;refine ⟨h3,fun j hj=>?_⟩;obtain ⟨i,hi,he,hk⟩:=ad0 hj;have:=h2 j hj hj;rw [he,Int.toNat_natCast] at this ⊢;exact (h4 i hi hk).trans this
theorem Rt {p:aF} (hc:aar p=none) {s:StP} (hs:dU p s):∀ x∈s.ct,0<=x/\x<=2^20:=fun x hx=>by
 obtain ⟨k,hk,rfl⟩:=List.mem_iff_getElem.1 hx
 have eM:k < p.names.length:=by rw [<- hs.l2];exact hk
 have h1:=hs.lo k;have h2:=hs.hi k eM;rw [fD hk] at h1 h2
 rcases (gC hc).count _ (List.getElem_mem eM) with h3 | h3<;>omega
end Go.Proofs.YtdigkhaofjmgkaaGreatDoor
