/-
  Texts that belong together,in one file: Sh10,W1I,LE0,SC1,SP1.
-/
import Derived.Test.YtdigkhaofjmgkaaGreatDoorIs22
import Derived.Ground.Names2Prog
import Derived.Shelf.Slices.CompactI
set_option linter.unusedSimpArgs false
set_option linter.unusedVariables false
namespace Go.Proofs
open Go.Shelf
def Tryz.Hx:Go.Shelf.Ren:=⟨fun | 20=>129 | n=>n,fun | 22=>46 | 3=>3 | 4=>4 | 0=>0 | n=>n,fun | n=>n⟩
theorem Tryz.SX:Go.Proofs.Lays2.n20 Tryz.prog Tryz.Hx:={
 mixed:=by kernel_rfl
 f20:=Tryz.func129.trans (congrArg some (by kernel_rfl))
 t0:=Tryz.underlying0
 a0:=Tryz.isAgg0
 z0:=Tryz.sizeOf0
 v0:=Tryz.zeroValue0
 t3:=Tryz.underlying3
 a3:=Tryz.isAgg3
 z3:=Tryz.sizeOf3
 v3:=Tryz.zeroValue3
 t4:=Tryz.underlying4
 a4:=Tryz.isAgg4
 z4:=Tryz.sizeOf4
 v4:=Tryz.zeroValue4
 t22:=Tryz.underlying46
 a22:=Tryz.isAgg46
 z22:=Tryz.sizeOf46
 v22:=Tryz.zeroValue46
 i3:=by kernel_rfl }
end Go.Proofs
namespace Go.Proofs.YtdigkhaofjmgkaaGreatDoor
open Go.Av Go.Sort
open Go.Shelf
section
variable {w:World} {X:Nat->Prop} {μ:Mu} {r:Nat}
theorem CL {ty:TypeId} {ss:List Int} {m:fg} {b:Nat} (hm:μ r=some m) (hs:Zg w X μ (YI [(r,.sl ty 1 (ss.map fun s=>[D.v (.int .i64 s)]))])) (hb:m.cZ=some b) :
  m.sz=1/\∃ cur,w.heap[b]? = some (.cells cur ty (0,0))/\cur.size=m.cap/\ss.length<=m.cap/\m.cap<=maxLen/\∀ i (hi:i < ss.length),cur[i]? = some ((Value.int .i64) ss[i]):=by
 obtain ⟨m',bx,ok⟩:=hs.rows r _ (oH r _);rw [hm] at bx;obtain rfl:=Option.some.inj bx;generalize Y6:Row.sl ty 1 (ss.map fun s=>[D.v (.int .i64 s)])=row at ok
 cases ok with
 | nil aH _=>rw [hb] at aH;cases aH
 | box _ _ _ _ _=>cases Y6
 | mp _ _ _ _=>cases Y6
 | it _ _ _=>cases Y6
 | sl aH aK hh bR hn dG hl hz hr=>
  simp only [Row.sl.injEq] at Y6;obtain ⟨rfl,rfl,rfl⟩:=Y6;rw [hb] at aH;obtain rfl:=Option.some.inj aH;refine ⟨aK,_,hh,by simpa using bR,by simpa using hn,dG,fun i hi=>?_⟩;obtain ⟨u,hu,tU⟩:=hr i 0 [D.v (.int .i64 ss[i])] (D.v (.int .i64 ss[i])) (by simp [hi]) rfl;have:=tU.scalar;subst this;simpa using hu
theorem Ja {ty:TypeId} {ss zs:List Int} {m:fg} {b n:Nat} {os:Array Obj} (hm:μ r=some m) (hs:Zg w X μ (YI [(r,.sl ty 1 (ss.map fun s=>[D.v (.int .i64 s)]))])) (hb:m.cZ=some b) (hz:zs.length=ss.length) :
  Zg (grow (putRow (Value.int .i64) (Sort.ahead w n) b 0 zs.toArray) os) X μ (YI [(r,.sl ty 1 (zs.map fun s=>[D.v (.int .i64 s)]))])/\Ev (eS [r]) w μ (grow (putRow (Value.int .i64) (Sort.ahead w n) b 0 zs.toArray) os) μ:=by
 obtain ⟨aK,cur,hh,bR,hn,dG,pY⟩:=CL hm hs hb;have ZP:b < w.heap.size:=hs.aam ⟨r,m,hm,hb⟩
 have hsize:(putRow (Value.int .i64) (Sort.ahead w n) b 0 zs.toArray).heap.size=w.heap.size:=by simp [putRow,mapBlock,Sort.ahead]
 have hold:∀ k,k < w.heap.size->k≠b->(grow (putRow (Value.int .i64) (Sort.ahead w n) b 0 zs.toArray) os).heap[k]? = w.heap[k]?:=fun k hk aG=>by
  unfold grow;dsimp only;rw [Array.getElem?_append_left (by rw [hsize];exact hk)];unfold putRow mapBlock Sort.ahead;dsimp only;rw [Array.getElem?_modify,if_neg (Ne.symm aG)]
 have iJ:(grow (putRow (Value.int .i64) (Sort.ahead w n) b 0 zs.toArray) os).heap[b]? = some (.cells (putCells (Value.int .i64) 0 zs.toArray cur) ty (0,0)):=by
  unfold grow;dsimp only;rw [Array.getElem?_append_left (by rw [hsize];exact ZP)];unfold putRow mapBlock Sort.ahead;dsimp only;rw [Array.getElem?_modify,if_pos rfl,hh];rfl
 have tq:w.heap.size<=(grow (putRow (Value.int .i64) (Sort.ahead w n) b 0 zs.toArray) os).heap.size:=by
  unfold grow;simp [hsize]
 have ev:Ev (eS [r]) w μ (grow (putRow (Value.int .i64) (Sort.ahead w n) b 0 zs.toArray) os) μ:=⟨tq,rfl,rfl,rfl,fun k hk hr=>⟨hold k hk fun e=>hr ⟨r,m,hm,e ▸ hb⟩,hr⟩,fun _ _ h _=>h⟩;refine ⟨⟨fun q row hq=>?_,fun q mq hq=>?_,hs.inj,hs.frame,fun k hk=>Nat.lt_of_lt_of_le (hs.fits k hk) tq⟩,ev⟩
 .by_cases e:q=r
  .subst e;rw [oH] at hq;obtain rfl:=Option.some.inj hq;refine ⟨m,hm,.sl hb aK iJ (by simpa [putCells] using bR) (by simpa [hz] using hn) dG (fun el aN=>?_) (by omega) fun i j el c hi hj=>?_⟩
   .obtain ⟨x,_,rfl⟩:=List.mem_map.1 aN;rfl
   .rw [List.getElem?_map] at hi;obtain ⟨x,hx,rfl⟩:=Option.map_eq_some_iff.1 hi;have eI:i < zs.length:=(List.getElem?_eq_some_iff.1 hx).1
    have iG:j=0:=by have:=(List.getElem?_eq_some_iff.1 hj).1;simpa using this
    subst iG
    obtain rfl:D.v (.int .i64 x)=c:=by simpa using hj
    have bQ:i < cur.size:=by omega
    refine ⟨(Value.int .i64) x,?_,.v _⟩;simp only [Nat.mul_one,Nat.add_zero,putCells,Array.getElem?_mapIdx,Array.getElem?_eq_getElem bQ,Option.map_some];rw [if_pos (by simp;omega)];congr 2;simp only [Nat.sub_zero];rw [getElem!_pos zs.toArray i (by simpa using eI)];simpa using (List.getElem?_eq_some_iff.1 hx).2
  .rw [acV _ e] at hq;cases hq
 .obtain ⟨row,Y6⟩:=hs.gw q mq hq;by_cases e:q=r
  .exact ⟨_,by rw [e];exact oH r _⟩
  .rw [acV _ e] at Y6;cases Y6
theorem I8 {ty:TypeId} {ss:List Int} {m:fg} {b:Nat} (hm:μ r=some m) (hs:Zg w X μ (YI [(r,.sl ty 1 (ss.map fun s=>[D.v (.int .i64 s)]))])) (hb:m.cZ=some b):Holds (Value.int .i64) w b 0 ss.toArray:=by
 obtain ⟨aK,cur,hh,bR,hn,dG,pY⟩:=CL hm hs hb;intro j hj
 have eb:j < ss.length:=by simpa using hj
 constructor
 .unfold World.cell?;simp only [hh,Nat.zero_add];rw [getElem!_pos ss.toArray j hj,pY j eb];simp
 .unfold World.frozen?;simp only [hh];simp
theorem I9 {ty:TypeId} {ss:List Int} {m:fg} (hm:μ r=some m) (hs:Zg w X μ (YI [(r,.sl ty 1 (ss.map fun s=>[D.v (.int .i64 s)]))])) (hb:m.cZ=none):ss=[]:=by
 obtain ⟨m',bx,ok⟩:=hs.rows r _ (oH r _);rw [hm] at bx;obtain rfl:=Option.some.inj bx;generalize Y6:Row.sl ty 1 (ss.map fun s=>[D.v (.int .i64 s)])=row at ok
 cases ok with
 | nil _ _=>simp only [Row.sl.injEq] at Y6;simpa using Y6.2.2
 | box aH _ _ _ _=>rw [hb] at aH;cases aH
 | mp aH _ _ _=>rw [hb] at aH;cases aH
 | it aH _ _=>rw [hb] at aH;cases aH
 | sl aH _ _ _ _ _ _ _ _=>rw [hb] at aH;cases aH
end
def jr (ss:List Int):List Int:=ss.mergeSort fun x y=>decide (x<=y)
theorem uZ (ss:List Int):(jr ss).length=ss.length:=by simp [jr]
theorem VQ (G:YJ) (r:Nat) (ty:TypeId) (ss:List Int) (hl:ss.length < 2^60):MC Tryz.prog G [r] 128 [.own r 0 ss.length] (YI [(r,.sl ty 1 (ss.map fun s=>[D.v (.int .i64 s)]))]) (.d (.aT [])) (YI [(r,.sl ty 1 ((jr ss).map fun s=>[D.v (.int .i64 s)]))]):=by
 refine ⟨fo.of Tryz.func128 rfl rfl,fun X w μ vs hs Y8 aK hv=>?_⟩
 obtain ⟨v,rfl⟩:∃ v,vs = #[v]:=by
  match vs,aK with
  | ⟨[v]⟩,_=>exact ⟨v,rfl⟩
 obtain ⟨m,hm,hc⟩:=(hv 0 v _ rfl rfl).Z4;have hL:Lays.n189 Tryz.prog Tryz.Ht:={ Tryz.SS with };by_cases h0:ss=[]
 .subst h0
  have e:∃ p cap,v = .slice p 0 cap:=by
   rcases hc with ⟨_,rfl,_⟩ | ⟨b,_,rfl,_⟩
   .exact ⟨_,_,rfl⟩
   .exact ⟨_,_,rfl⟩
  obtain ⟨p,cap,rfl⟩:=e;have e1:jr []=[]:=List.eq_nil_of_length_eq_zero (by rw [uZ];rfl);rw [e1];refine (Any.slices_Sort_int_none hL p cap w).mono fun e w' ⟨he,hw⟩=>?_;subst hw;exact ⟨_,_,_,μ,he,⟨rfl,rfl⟩,.d (.aT rfl fun j u c hu hc=>by simp at hu),hs,.refl _ _ _⟩
 .rcases hc with ⟨hb,rfl,_,hn⟩ | ⟨b,hb,rfl,hn⟩
  .exact absurd (I9 hm hs hb) h0
  .have hH:=I8 hm hs hb;have ZP:b < w.heap.size:=hs.aam ⟨r,m,hm,hb⟩;rw [Nat.zero_mul];refine (Any.slices_Sort_int hL b 0 (m.cap - 0) ss w hH ZP (by omega)).mono fun e w' ⟨he,n,os,hw⟩=>?_;subst hw;obtain ⟨h1,h2⟩:=Ja (n:=n) (os:=os) hm hs hb (uZ ss);exact ⟨_,_,_,μ,he,⟨rfl,rfl⟩,.d (.aT rfl fun j u c hu hc=>by simp at hu),h1,h2⟩
theorem L0 (G:YJ) (r:Nat) (ty:TypeId) (ss:List Int) (hl:ss.length < 2^60):MC Tryz.prog G [r] 129 [.own r 0 ss.length] (YI [(r,.sl ty 1 (ss.map fun s=>[D.v (.int .i64 s)]))]) (.own r 0 (Lib.compact ss).length) (YI [(r,.sl ty 1 ((Lib.compact ss ++ List.replicate (ss.length - (Lib.compact ss).length) 0).map fun s=>[D.v (.int .i64 s)]))]):=by
 refine ⟨fo.of Tryz.func129 rfl rfl,fun X w μ vs hs Y8 aK hv=>?_⟩
 obtain ⟨v,rfl⟩:∃ v,vs = #[v]:=by
  match vs,aK with
  | ⟨[v]⟩,_=>exact ⟨v,rfl⟩
 have ji:=hv 0 v _ rfl rfl;obtain ⟨m,hm,hc⟩:=ji.Z4;have hle:=Lib.compact_length_le ss;have hL:Lays2.n20 Tryz.prog Tryz.Hx:={ Tryz.SX with };by_cases h0:ss=[]
 .subst h0;have e0:(Lib.compact ([]:List Int))=[]:=List.eq_nil_of_length_eq_zero (by simpa using hle);rw [e0]
  have e:∃ p cap,v = .slice p 0 cap:=by
   rcases hc with ⟨_,rfl,_⟩ | ⟨b,_,rfl,_⟩
   .exact ⟨_,_,rfl⟩
   .exact ⟨_,_,rfl⟩
  obtain ⟨p,cap,rfl⟩:=e;refine (Any.slices_Compact_int_empty hL p cap w).mono fun e w' ⟨he,hw⟩=>?_;subst hw;exact ⟨_,_,_,μ,he,⟨rfl,rfl⟩,ji,hs,.refl _ _ _⟩
 .rcases hc with ⟨hb,rfl,_,hn⟩ | ⟨b,hb,rfl,hn⟩
  .exact absurd (I9 hm hs hb) h0
  .have hH:=I8 hm hs hb;obtain ⟨Bs,cur,hh,bR,Z0,dG,pY⟩:=CL hm hs hb;rw [Nat.zero_mul];refine (Any.slices_Compact_int hL b 0 (m.cap - 0) ss w hH (by omega) (by omega)).mono fun e w' ⟨he,n,hw⟩=>?_
   have hz:(Lib.compact ss ++ List.replicate (ss.length - (Lib.compact ss).length) 0).length=ss.length:=by simp;omega
   obtain ⟨h1,h2⟩:=Ja (n:=n) (os:=#[]) hm hs hb hz;rw [grow_empty] at h1 h2;subst hw;refine ⟨_,_,_,μ,he,⟨rfl,rfl⟩,.own hm (.inr ⟨b,hb,by simp,by omega⟩),h1,h2⟩
end Go.Proofs.YtdigkhaofjmgkaaGreatDoor
namespace Go.Proofs.YtdigkhaofjmgkaaGreatDoor
open Go.Av
theorem Jy:∀ {a b:List Int},a.Pairwise (· < ·)->b.Pairwise (· < ·)->(∀ x,x∈a↔x∈b)->a=b
 | [],[],_,_,_=>rfl
 | [],y :: b,_,_,h=>absurd ((h y).2 (by simp)) (by simp)
 | x :: a,[],_,_,h=>absurd ((h x).1 (by simp)) (by simp)
 | x :: a,y :: b,ha,hb,h=>by
  obtain ⟨wA,Ag⟩:=List.pairwise_cons.1 ha;obtain ⟨Zq,c6⟩:=List.pairwise_cons.1 hb
  have BE:x=y:=by
   rcases List.mem_cons.1 ((h x).1 (by simp)) with e | hx
   .exact e
   .rcases List.mem_cons.1 ((h y).2 (by simp)) with e | hy
    .exact e.symm
    .have:=Zq x hx;have:=wA y hy;omega
  subst BE;rw [Jy Ag c6 fun z=>?_];constructor
  .intro hz
   rcases List.mem_cons.1 ((h z).1 (by simp [hz])) with e | e
   .subst e;have:=wA z hz;omega
   .exact e
  .intro hz
   rcases List.mem_cons.1 ((h z).2 (by simp [hz])) with e | e
   .subst e;have:=Zq z hz;omega
   .exact e
theorem B8 (d:Array Int):∀ (m:Nat),m<=d.size->∀ j,j < m->d[j]!∈Lib.compactUpTo d m
 | 0,_,j,h=>by omega
 | m+1,hm,j,hj=>by
  rw [Lib.compactUpTo_succ];by_cases wV:j < m
  .exact List.mem_append_left _ (B8 d m (by omega) j wV)
  .obtain rfl:j=m:=by omega
   by_cases hk:Lib.keeps d j=true
   .exact List.mem_append_right _ (by simp [hk])
   .have iG:j≠0:=by rintro rfl;exact hk (Lib.keeps_lt_one d 0 (by omega))
    have he:d[j]! = d[j - 1]!:=by
     unfold Lib.keeps at hk;simp [iG] at hk
     first | exact hk | exact hk.symm
    rw [he];exact List.mem_append_left _ (B8 d j (by omega) (j - 1) (by omega))
theorem Dg (d:Array Int):∀ (m:Nat),m<=d.size->∀ x∈Lib.compactUpTo d m,∃ j,j < m/\x=d[j]!
 | 0,_,x,h=>by simp [Lib.compactUpTo] at h
 | m+1,hm,x,h=>by
  rw [Lib.compactUpTo_succ] at h
  rcases List.mem_append.1 h with h | h
  .obtain ⟨j,hj,e⟩:=Dg d m (by omega) x h;exact ⟨j,by omega,e⟩
  .split at h
   .simp at h;exact ⟨m,by omega,h⟩
   .simp at h
theorem JV (d:Array Int) (hs:∀ i j,i<=j->j < d.size->d[i]!<=d[j]!):∀ (m:Nat),m<=d.size->(Lib.compactUpTo d m).Pairwise (· < ·)
 | 0,_=>by simp [Lib.compactUpTo]
 | m+1,hm=>by
  have ih:=JV d hs m (by omega);rw [Lib.compactUpTo_succ];by_cases hk:Lib.keeps d m=true
  .rw [if_pos hk,List.pairwise_append];refine ⟨ih,by simp,fun a ha b hb=>?_⟩;rw [List.mem_singleton] at hb;subst hb;obtain ⟨j,hj,rfl⟩:=Dg d m (by omega) a ha
   have aG:d[m]!≠d[m - 1]!:=by
    intro he;rw [Lib.keeps_neg (by omega) he] at hk;cases hk
   have h1:=hs j (m - 1) (by omega) (by omega);have h2:=hs (m - 1) m (by omega) (by omega);omega
  .rw [if_neg hk,List.append_nil];exact ih
theorem VT (l:List Int):(Lib.compact (jr l)).Pairwise (· < ·):=by
 unfold Lib.compact;refine JV _ (fun i j hij hj=>?_) _ (by simp)
 have hp:(jr l).Pairwise (·<=·):=by
  unfold jr;have:=List.pairwise_mergeSort (le:=fun x y:Int=>decide (x<=y)) (by intro a b c h1 h2;simp only [decide_eq_true_eq] at *;omega) (by intro a b;simp only [Bool.or_eq_true,decide_eq_true_eq];omega) l
  exact this.imp fun h=>by simpa using h
 generalize jr l=l at hp hj ⊢
 have eb:j < l.length:=by simpa using hj
 rw [getElem!_pos l.toArray i (by simpa using (by omega:i < l.length)),getElem!_pos l.toArray j (by simpa using eb)];simp only [List.getElem_toArray];by_cases he:i=j
 .subst he;omega
 .exact (List.pairwise_iff_getElem.1 hp) i j (by omega) eb (by omega)
theorem VS {l:List Int} {x:Int}:x∈Lib.compact (jr l)↔x∈l:=by
 have h0:∀ l:List Int,x∈Lib.compact l↔x∈l:=by
  intro l;unfold Lib.compact;constructor
  .intro h;obtain ⟨j,hj,rfl⟩:=Dg l.toArray l.length (by simp) x h;rw [getElem!_pos l.toArray j (by simpa using hj)];simp
  .intro h;obtain ⟨j,hj,rfl⟩:=List.mem_iff_getElem.1 h;have:=B8 l.toArray l.length (by simp) j hj;rw [getElem!_pos l.toArray j (by simpa using hj)] at this;simpa using this
 rw [h0];unfold jr;exact List.mem_mergeSort
def abN (p:YN) (r:fh):List Int:=match r.cond with
 | some e=>(Zx false e).map (YX p)
 | none=>[]
def gx (p:YN):Nat->List Int
 | 0=>[]
 | i+1=>gx p i ++ abN p (p.ar.getD i ⟨0,[],none⟩)
theorem zu {p:YN} {i:Nat} (h:i < p.ar.length):gx p (i+1)=gx p i ++ abN p p.ar[i]:=by
 rw [gx,List.getD_eq_getElem?_getD,List.getElem?_eq_getElem h];rfl
theorem adx {p:YN} {x:Int}:∀ {n:Nat},n<=p.ar.length->(x∈gx p n↔∃ j,∃ h:j < p.ar.length,j < n/\x∈abN p p.ar[j])
 | 0,_=>by simp [gx]
 | n+1,hn=>by
  rw [zu (by omega),List.mem_append,adx (by omega)];constructor
  .rintro (⟨j,h,hj,hx⟩ | hx)
   .exact ⟨j,h,by omega,hx⟩
   .exact ⟨n,by omega,by omega,hx⟩
  .rintro ⟨j,h,hj,hx⟩;by_cases e:j=n
   .subst e;exact .inr hx
   .exact .inl ⟨j,h,by omega,hx⟩
def ab9 (s:Tx) (r:fh):Bool:=match r.cond with
 | some e=>decide (0<=idx (fun x=>x == s) (Zx false e))
 | none=>false
def ZL (p:YN):Nat->List Int
 | 0=>[]
 | i+1=>ZL p i ++ if p.ar.any (ab9 (p.names.getD i ⟨[],0,0⟩).name) then [(i:Int)] else []
theorem W4 {p:YN} {i:Nat} (h:i < p.names.length):ZL p (i+1)=ZL p i ++ if p.ar.any (ab9 p.names[i].name) then [(i:Int)] else []:=by
 rw [ZL,List.getD_eq_getElem?_getD,List.getElem?_eq_getElem h];rfl
theorem Di (p:YN):∀ n,(ZL p n).length<=n
 | 0=>Nat.le_refl _
 | n+1=>by rw [ZL,List.length_append];have:=Di p n;split<;>simp<;>omega
theorem qM {p:YN} {x:Int}:∀ {n:Nat},n<=p.names.length->(x∈ZL p n↔∃ i,∃ h:i < p.names.length,i < n/\x=i/\p.ar.any (ab9 p.names[i].name)=true)
 | 0,_=>by simp [ZL]
 | n+1,hn=>by
  rw [W4 (by omega),List.mem_append,qM (by omega)];constructor
  .rintro (⟨j,h,hj,hx⟩ | hx)
   .exact ⟨j,h,by omega,hx⟩
   .split at hx
    .exact ⟨n,by omega,by omega,by simpa using hx,‹_›⟩
    .cases hx
  .rintro ⟨j,h,hj,hx,ha⟩;by_cases e:j=n
   .subst e;exact .inr (by rw [if_pos ha];simpa using hx)
   .exact .inl ⟨j,h,by omega,hx,ha⟩
theorem J1 (p:YN):∀ {n:Nat},n<=p.names.length->(ZL p n).Pairwise (· < ·)
 | 0,_=>by simp [ZL]
 | n+1,hn=>by
  rw [ZL,List.pairwise_append];refine ⟨J1 p (by omega),by split<;>simp,fun a ha b hb=>?_⟩;obtain ⟨i,_,hi,rfl,_⟩:=(qM (by omega)).1 ha;split at hb
  .rw [List.mem_singleton] at hb;omega
  .cases hb
theorem G3 (l:List Tx) (s:Tx):0<=idx (fun x=>x == s) l↔s∈l:=by
 have h:=uj (fun x:Tx=>x == s) l
 have h2:(l.any fun x=>x == s)=true↔s∈l:=by
  rw [List.any_eq_true];constructor
  .rintro ⟨x,hx,he⟩
   have:x=s:=by simpa using he
   exact this ▸ hx
  .exact fun hs=>⟨s,hs,by simp⟩
 rw [<- h2,<- h,decide_eq_true_eq]
theorem Cp {s:Tx}:∀ (n:Nat) (e:Ex),SizeOf.sizeOf e<=n->s∈Y7 false e->s∈Y7 true e
 | 0,e,hn,_=>by cases e<;>simp at hn
 | n+1,e,hn,h=>by
  have many:∀ l:List Ex,(∀ x∈l,SizeOf.sizeOf x<=n)->s∈eg false l->s∈eg true l:=by
   intro l
   induction l with
   | nil=>intro _ h;simp [eg] at h
   | cons x l ih=>
    intro hl h;rw [eg,List.mem_append] at h ⊢
    rcases h with h | h
    .exact .inl (Cp n x (hl x (by simp)) h)
    .exact .inr (ih (fun y hy=>hl y (by simp [hy])) h)
  have inside:∀ (l:List Ex),SizeOf.sizeOf l<=n->∀ x∈l,SizeOf.sizeOf x<=n:=fun l hl x hx=>by
   have:=List.sizeOf_lt_of_mem hx;omega
  cases e with
  | dT b=>simp [Y7,cG,gI] at h
  | bit t=>simp [Y7,cG,gI] at h
  | fW t=>exact h
  | fO t=>exact h
  | not e=>exact Cp n e (by simp at hn;omega) h
  | and l=>exact many l (inside l (by simp at hn;omega)) h
  | or l=>exact many l (inside l (by simp at hn;omega)) h
theorem Ch {s:Tx} {e:Ex} (h:s∈Zx false e):s∈Zx true e:=qq.2 (Cp _ e (Nat.le_refl _) (qq.1 h))
theorem ab4 {p:YN} (h:Y4 p=none):∀ r∈p.ar,(1<=r.kind/\r.kind<=6)/\¬ YX p r.name < 0/\∃ e,r.cond=some e/\∀ s∈Zx true e,¬ YX p s < 0:=fun r hr=>by
 unfold Y4 at h;split at h
 .cases h
 split at h
 .cases h
 split at h
 .cases h
 rename_i hB;obtain ⟨k,hk,rfl⟩:=List.mem_iff_getElem.1 hr;have h0:=wa hB k hk;generalize p.ar[k]=r at h0;obtain ⟨kd,nm,cd⟩:=r
 cases cd with
 | none=>cases (show (1:Int)=0 from h0)
 | some e=>
  rw [DZ] at h0;split at h0
  .cases h0
  rename_i h1;split at h0
  .cases h0
  rename_i h2;split at h0
  .cases h0
  split at h0
  .cases h0
  rename_i h4;refine ⟨by simpa using h1,h2,e,rfl,fun s hs hn=>h4 ?_⟩;exact List.any_eq_true.2 ⟨s,hs,by simpa using hn⟩
theorem Ew {p:YN} (h:Y4 p=none):Lib.compact (jr (gx p p.ar.length))=ZL p p.names.length:=by
 have hg:=ZV h;have hr:=ab4 h;refine Jy (VT _) (J1 p (Nat.le_refl _)) fun x=>?_;rw [VS,adx (Nat.le_refl _),qM (Nat.le_refl _)];constructor
 .rintro ⟨j,hj,_,hx⟩;obtain ⟨_,_,e,he,ax⟩:=hr _ (List.getElem_mem hj);unfold abN at hx;rw [he] at hx;obtain ⟨s,hs,rfl⟩:=List.mem_map.1 hx;obtain ⟨k,hk,lN,AR⟩:=oX (ax s (Ch hs));have Pt:YX p s=k:=lN
  have AU:p.names[k].name=s:=by simpa using AR
  refine ⟨k,hk,hk,Pt,List.any_eq_true.2 ⟨_,List.getElem_mem hj,?_⟩⟩;unfold ab9;rw [he,AU];simpa using (G3 _ _).2 hs
 .rintro ⟨i,hi,_,rfl,ha⟩;obtain ⟨r,GK,hb⟩:=List.any_eq_true.1 ha;obtain ⟨j,hj,rfl⟩:=List.mem_iff_getElem.1 GK;obtain ⟨_,_,e,he,ax⟩:=hr _ GK;unfold ab9 at hb;rw [he] at hb;have hs:=(G3 _ _).1 (by simpa using hb);refine ⟨j,hj,hj,?_⟩;unfold abN;rw [he];exact List.mem_map.2 ⟨_,hs,hg.num i hi⟩
structure Ze where
 is:List Bool
 ct:List Int
def gM (p:YN):Ze:=⟨List.replicate p.names.length false,List.replicate p.names.length 0⟩
def aaF (p:YN) (l:List Bool) (s:Tx):Bool:=l.getD (YX p s).toNat false
def EJ (is dz:Tx->Bool):Option Ex->Bool
 | some e=>eX is dz e
 | none=>false
def fX (s:Ze) (i:Nat) (m:Int) (yes:Bool):Ze:=
 let c:=if yes then (if s.ct.getD i 0+1 < m then s.ct.getD i 0+1 else m) else s.ct.getD i 0
 ⟨s.is.set i (decide (m<=c)),s.ct.set i c⟩
def qP (s:Ze) (i:Nat):Ze:=⟨s.is.set i false,s.ct.set i 0⟩
def lg (p:YN) (im t:Ze) (r:fh):Ze:=
 let i:=(YX p r.name).toNat
 let yes:=EJ (aaF p t.is) (aaF p im.is) r.cond
 let m:=(p.names.getD i ⟨[],0,0⟩).count
 if r.kind=1 then ⟨t.is.set i yes,t.ct⟩
 else if r.kind=2 then ⟨t.is.set i (t.is.getD i false || yes),t.ct⟩
 else if r.kind=3 then ⟨t.is.set i (t.is.getD i false && !yes),t.ct⟩
 else if r.kind=4 then (if yes then fX t i m yes else qP (fX t i m yes) i)
 else if r.kind=5 then fX t i m yes
 else if r.kind=6 then (if yes then qP t i else t)
 else t
def jU (at':List Int) (de:List Bool) (is:List Bool):Nat->List Bool
 | 0=>is
 | k+1=>(jU at' de is k).set (at'.getD k 0).toNat (de.getD k false)
def YR (p:YN):List Int:=gF p.names 1 p.names.length
def jB (p:YN) (s:Ze) (de:List Bool):Ze:=p.ar.foldl (lg p s) ⟨jU (YR p) de s.is (YR p).length,s.ct⟩
def JE (p:YN) (s:Ze) (de:List Bool):(Int×Option Nat) ⊕ Ze:=match Y4 p with
 | some e=>.inl e
 | none=>if de.length≠(YR p).length\/s.is.length≠p.names.length\/s.ct.length≠p.names.length then .inl (2,none) else .inr (jB p s de)
def eW (l:List Bool):D:=.sl none (l.map fun b=>[.v (.bool b)])
def eG (l:List Int):D:=.sl none (l.map fun n=>[.v (.int .i64 n)])
def iQ (s:Ze):List D:=[eW s.is,eG s.ct]
def kN (s:Ze):D:=.agg (iQ s)
theorem cr {α:Type} {l:List α} {i:Nat} {d:α} (h:i < l.length):l.getD i d=l[i]:=by
 rw [List.getD_eq_getElem?_getD,List.getElem?_eq_getElem h];rfl
theorem xR {p:YN} {s:Tx} (h:¬ YX p s < 0):(YX p s).toNat < p.names.length/\YX p s=((YX p s).toNat:Int):=by
 obtain ⟨k,hk,lN,_⟩:=oX h;have e:YX p s=(k:Int):=lN;rw [e];exact ⟨by simpa using hk,by simp⟩
set_option maxHeartbeats 2000000 in
theorem Ld (G:YJ) (p:YN) (hp:p.names.length < 2^62) (s:Ze) (hl:s.is.length=p.names.length):pA (fun nm=>¬ YX p nm < 0) G 132 [.ip (iQ s),.ip (cy p)] (aaF p s.is):=by
 intro nm hn;have bK:=nN G p hp nm;obtain ⟨h1,h2⟩:=xR hn
 have hi:(YX p nm).toNat < s.is.length:=by omega
 have jI:aaF p s.is nm=s.is[(YX p nm).toNat]:=by unfold aaF;exact cr hi
 rw [jI];rw [h2] at bK;clear h1 h2 jI hn;simp only [cA,cy,cz,cu,dS] at bK;simp only [iQ,eW,eG,cy,cz,cu];generalize fj:(YX p nm).toNat=i at bK hi ⊢;clear fj hl hp;generalize p.names.map bk=NN at bK ⊢;generalize p.ar.map bF=RR at bK ⊢;generalize s.is=L at hi ⊢;generalize s.ct.map (fun n=>[D.v (.int .i64 n)])=CC;refine aq.aI (aw _) Tryz.func132 rfl rfl (rs:=[.tmp 4]) Tryz.results132 (by simp [Tryz.ntmps132]) fun X=>?_;simp only [Tryz.ntmps132,List.map];have fw:=@dS.eq_1;refine ab fw [0,1,2] [] ?_;have qf:=(Aq fw @hi);refine CH bK [4] [] ?_;exact aV fw
set_option maxHeartbeats 2000000 in
theorem ad2 (G:YJ) (p:YN) (hp:p.names.length < 2^62) (s:Ze) (hl:s.is.length=p.names.length):pA (fun nm=>¬ YX p nm < 0) G 133 [.ip (iQ s),.ip (cy p)] (aaF p s.is):=by
 intro nm hn;have bK:=nN G p hp nm;obtain ⟨h1,h2⟩:=xR hn
 have hi:(YX p nm).toNat < s.is.length:=by omega
 have jI:aaF p s.is nm=s.is[(YX p nm).toNat]:=by unfold aaF;exact cr hi
 rw [jI];rw [h2] at bK;clear h1 h2 jI hn;simp only [cA,cy,cz,cu,dS] at bK;simp only [iQ,eW,eG,cy,cz,cu];generalize fj:(YX p nm).toNat=i at bK hi ⊢;clear fj hl hp;generalize p.names.map bk=NN at bK ⊢;generalize p.ar.map bF=RR at bK ⊢;generalize s.is=L at hi ⊢;generalize s.ct.map (fun n=>[D.v (.int .i64 n)])=CC;refine aq.aI (aw _) Tryz.func133 rfl rfl (rs:=[.tmp 4]) Tryz.results133 (by simp [Tryz.ntmps133]) fun X=>?_;simp only [Tryz.ntmps133,List.map];have fw:=@dS.eq_1;refine ab fw [0,1,2] [] ?_;have qf:=(Aq fw @hi);refine CH bK [4] [] ?_;exact aV fw
def stR (s:Ze):List (Nat×Row):=[(7,.box 68 [.own 701 0 s.is.length,.own 702 0 s.ct.length]),(701,.sl 4 1 (s.is.map fun b=>[.v (.bool b)])),(702,.sl 3 1 (s.ct.map fun n=>[.v (.int .i64 n)]))]
set_option maxHeartbeats 4000000 in
theorem Vw (G:YJ) (s:Ze) (i:Nat) (m:Int) (yes:Bool) (hi:i < s.is.length) (hc:i < s.ct.length) (hb:∀ x∈s.ct,0<=x/\x<=2^40):MC Tryz.prog G [7] 134 [.ref 7 0 0,.d (YH i),.d (YH m),.d (.v (.bool yes))] (YI (stR s)) (.d (.aT [])) (YI (stR (fX s i m yes))):=by
 have fS:s.ct.getD i 0=s.ct[i]:=cr hc;have hbd:=hb s.ct[i] (List.getElem_mem hc)
 have XH:(s.ct.map fun n=>[D.v (.int .i64 n)])[i]? = some [.v (.int .i64 s.ct[i])]:=by simp [hc]
 simp only [stR,fX,fS]
 cases yes with
 | true=>
  simp only [if_true];refine MC.aI (aw _) Tryz.func134 rfl rfl (rs:=[]) Tryz.results134 (by simp [Tryz.ntmps134]) rfl fun X=>?_;simp only [Tryz.ntmps134];have fw:=@YH.eq_1;refine ae fun K1 ay=>?_;refine ab fw [0,1,2,8] [7,701,702] ?_;refine YM rfl ?_;refine abH (aw _) (by kernel_rfl) [(3,7),(9,7),(11,702),(12,702),(15,702),(16,702)] (by kernel_rfl) fun K' ah=>?_;(repeat (refine nZ fun K2 aa=>?_;simp [YH,hc];(repeat (refine ⟨by omega,?_⟩));refine aa _ ?_;clear aa K2));refine n0 (ah _ ?_);clear ah K';refine ay _ (AW.norm [0,1,2] [7,701,702] (cH rfl) (AW.st (by simp [YH,hc];rfl) ?_));refine abH (aw _) (by kernel_rfl) [(3,7),(8,7),(10,702),(11,702),(14,701),(15,701)] (by kernel_rfl) fun K' ah=>?_;(repeat (refine nZ fun K2 aa=>?_;simp [YH,hc,hi];(repeat (refine ⟨by omega,?_⟩));refine aa _ ?_;clear aa K2));refine n0 (ah _ ?_);clear ah K';(try simp only [YP,bd]);simp [D.le,D.le.go,List.map_set]
 | false=>
  simp only [Bool.false_eq_true,if_false];refine MC.aI (aw _) Tryz.func134 rfl rfl (rs:=[]) Tryz.results134 (by simp [Tryz.ntmps134]) rfl fun X=>?_;simp only [Tryz.ntmps134];have fw:=@YH.eq_1;refine ae fun K1 ay=>?_;refine ab fw [0,1,2,8] [7,701,702] ?_;refine af rfl ?_;refine ao (ay _ ?_);refine abH (aw _) (by kernel_rfl) [(3,7),(8,7),(10,702),(11,702),(14,701),(15,701)] (by kernel_rfl) fun K' ah=>?_;(repeat (refine nZ fun K2 aa=>?_;simp [YH,hc,hi];(repeat (refine ⟨by omega,?_⟩));refine aa _ ?_;clear aa K2));refine n0 (ah _ ?_);clear ah K';(try simp only [YP,bd]);simp [D.le,D.le.go,List.map_set]
theorem LL {p:YN} (h:Y4 p=none):∀ r∈p.ar,(p.names.getD (YX p r.name).toNat ⟨[],0,0⟩).kind=j1 r.kind:=fun r hr=>by
 unfold Y4 at h;split at h
 .cases h
 split at h
 .cases h
 split at h
 .cases h
 rename_i hB;obtain ⟨k,hk,rfl⟩:=List.mem_iff_getElem.1 hr;have h0:=wa hB k hk;generalize p.ar[k]=r at h0;obtain ⟨kd,nm,cd⟩:=r
 cases cd with
 | none=>cases (show (1:Int)=0 from h0)
 | some e=>
  rw [DZ] at h0;split at h0
  .cases h0
  split at h0
  .cases h0
  split at h0
  .cases h0
  rename_i h3;simp only [Bool.not_eq_true',decide_eq_false_iff_not,Classical.not_not] at h3;exact h3.symm
structure eN (p:YN) (s:Ze):Prop where
 l1:s.is.length=p.names.length
 l2:s.ct.length=p.names.length
 lo:∀ k,0<=s.ct.getD k 0
 hi:∀ k (hk:k < p.names.length),s.ct.getD k 0<=p.names[k].count
 at':∀ k (hk:k < p.names.length),3<=p.names[k].kind->s.is.getD k false=decide (s.ct.getD k 0=p.names[k].count)
theorem ra {α:Type} (n k:Nat) (x:α):(List.replicate n x).getD k x=x:=by
 rw [List.getD_eq_getElem?_getD,List.getElem?_replicate];split<;>rfl
theorem gU {α:Type} {l:List α} {i:Nat} {x d:α} (h:i < l.length):(l.set i x).getD i d=x:=by
 rw [List.getD_eq_getElem?_getD,List.getElem?_set_self h];rfl
theorem ek {α:Type} {l:List α} {i k:Nat} {x d:α} (h:i≠k):(l.set i x).getD k d=l.getD k d:=by
 rw [List.getD_eq_getElem?_getD,List.getElem?_set_ne h,List.getD_eq_getElem?_getD]
theorem VW {p:YN} (h:qS p):eN p (gM p):=by
 refine ⟨by simp [gM],by simp [gM],fun k=>?_,fun k hk=>?_,fun k hk h3=>?_⟩
 .show 0<=(List.replicate _ (0:Int)).getD k 0;rw [ra];exact Int.le_refl _
 .show (List.replicate _ (0:Int)).getD k 0<=_;rw [ra]
  rcases h.count _ (List.getElem_mem hk) with h1 | h1<;>omega
 .show (List.replicate _ false).getD k false=decide ((List.replicate _ (0:Int)).getD k 0=_);rw [ra,ra]
  rcases h.count _ (List.getElem_mem hk) with h1 | h1
  .omega
  .exact (decide_eq_false (by omega)).symm
theorem uV {p:YN} {t:Ze} (ht:eN p t) {i:Nat} (hi:i < p.names.length) (hk:p.names[i].kind < 3) (b:Bool):eN p ⟨t.is.set i b,t.ct⟩:=by
 refine ⟨by simp [ht.l1],ht.l2,ht.lo,ht.hi,fun k ft h3=>?_⟩
 have aG:i≠k:=fun e=>by subst e;omega
 show (t.is.set i b).getD k false=_;rw [ek aG];exact ht.at' k ft h3
theorem J8 {p:YN} (hg:qS p) {t:Ze} (ht:eN p t) {i:Nat} (hi:i < p.names.length):eN p (qP t i):=by
 refine ⟨by simp [qP,ht.l1],by simp [qP,ht.l2],fun k=>?_,fun k hk=>?_,fun k hk h3=>?_⟩
 .show 0<=(t.ct.set i 0).getD k 0;by_cases e:i=k
  .subst e;rw [gU (by rw [ht.l2];exact hi)];exact Int.le_refl _
  .rw [ek e];exact ht.lo k
 .show (t.ct.set i 0).getD k 0<=_;by_cases e:i=k
  .subst e;rw [gU (by rw [ht.l2];exact hi)]
   rcases hg.count _ (List.getElem_mem hk) with h1 | h1<;>omega
  .rw [ek e];exact ht.hi k hk
 .show (t.is.set i false).getD k false=decide ((t.ct.set i 0).getD k 0=_);by_cases e:i=k
  .subst e;rw [gU (by first | (rw [ht.l1];exact hi) | (rw [ht.l2];exact hi)),gU (by first | (rw [ht.l2];exact hi) | (rw [ht.l1];exact hi))]
   rcases hg.count _ (List.getElem_mem hk) with h1 | h1
   .omega
   .exact (decide_eq_false (by omega)).symm
  .rw [ek e,ek e];exact ht.at' k hk h3
theorem CP {p:YN} (hg:qS p) {t:Ze} (ht:eN p t) {i:Nat} (hi:i < p.names.length) (yes:Bool):eN p (fX t i p.names[i].count yes):=by
 have h0:=ht.lo i;have h1:=ht.hi i hi;have pX:=hg.count _ (List.getElem_mem hi);obtain ⟨c,Ap,hc⟩:∃ c,c=(if yes then (if t.ct.getD i 0+1 < p.names[i].count then t.ct.getD i 0+1 else p.names[i].count) else t.ct.getD i 0)/\0<=c/\c<=p.names[i].count:=⟨_,rfl,by split<;>(try split)<;>omega,by split<;>(try split)<;>omega⟩
 have e:fX t i p.names[i].count yes=⟨t.is.set i (decide (p.names[i].count<=c)),t.ct.set i c⟩:=by
  rw [Ap];rfl
 rw [e];refine ⟨by simp [ht.l1],by simp [ht.l2],fun k=>?_,fun k hk=>?_,fun k hk h3=>?_⟩
 .show 0<=(t.ct.set i c).getD k 0;by_cases e:i=k
  .subst e;rw [gU (by rw [ht.l2];exact hi)];omega
  .rw [ek e];exact ht.lo k
 .show (t.ct.set i c).getD k 0<=_;by_cases e:i=k
  .subst e;rw [gU (by rw [ht.l2];exact hi)];omega
  .rw [ek e];exact ht.hi k hk
 .show (t.is.set i _).getD k false=decide ((t.ct.set i c).getD k 0=_);by_cases e:i=k
  .subst e;rw [gU (by first | (rw [ht.l1];exact hi) | (rw [ht.l2];exact hi)),gU (by first | (rw [ht.l2];exact hi) | (rw [ht.l1];exact hi))];congr 1;exact propext ⟨fun h=>by omega,fun h=>by omega⟩
  .rw [ek e,ek e];exact ht.at' k hk h3
theorem Jp {p:YN} (hc:Y4 p=none) {r:fh} (hr:r∈p.ar):∃ i,∃ hi:i < p.names.length,YX p r.name=(i:Int)/\p.names[i].kind=j1 r.kind/\p.names.getD i ⟨[],0,0⟩=p.names[i]:=by
 obtain ⟨_,h2,_⟩:=ab4 hc r hr;obtain ⟨h3,h4⟩:=xR h2;have h5:=LL hc r hr;have h6:p.names.getD (YX p r.name).toNat ⟨[],0,0⟩=p.names[(YX p r.name).toNat]:=cr h3;rw [h6] at h5;exact ⟨_,h3,h4,h5,h6⟩
theorem VB {p:YN} (hc:Y4 p=none) {r:fh} (hr:r∈p.ar) (im:Ze) {t:Ze} (ht:eN p t):eN p (lg p im t r)/\∀ k (hk:k < p.names.length),p.names[k].kind=1->(lg p im t r).is.getD k false=t.is.getD k false:=by
 have hg:=ZV hc;obtain ⟨i,hi,hn,hw,hd⟩:=Jp hc hr;obtain ⟨hk,_⟩:=ab4 hc r hr;unfold lg;simp only [hn,Int.toNat_natCast,hd]
 have rK:p.names[i].kind≠1:=by rw [hw];unfold j1;split<;>(try split)<;>omega
 have off:∀ k (hk:k < p.names.length),p.names[k].kind=1->i≠k:=fun k hk h1 e=>by subst e;exact rK h1
 have AX:r.kind<=3->p.names[i].kind < 3:=fun h=>by rw [hw];unfold j1;rw [if_pos h];omega
 split
 .exact ⟨uV ht hi (AX (by omega)) _,fun k hk h1=>ek (off k hk h1)⟩
 split
 .exact ⟨uV ht hi (AX (by omega)) _,fun k hk h1=>ek (off k hk h1)⟩
 split
 .exact ⟨uV ht hi (AX (by omega)) _,fun k hk h1=>ek (off k hk h1)⟩
 split
 .split
  .exact ⟨CP hg ht hi _,fun k hk h1=>ek (off k hk h1)⟩
  .refine ⟨J8 hg (CP hg ht hi _) hi,fun k hk h1=>?_⟩;show ((fX t i _ _).is.set i false).getD k false=_;rw [ek (off k hk h1)];exact ek (off k hk h1)
 split
 .exact ⟨CP hg ht hi _,fun k hk h1=>ek (off k hk h1)⟩
 split
 .split
  .exact ⟨J8 hg ht hi,fun k hk h1=>ek (off k hk h1)⟩
  .exact ⟨ht,fun k hk h1=>rfl⟩
 .exact ⟨ht,fun k hk h1=>rfl⟩
theorem CQ {p:YN} (hc:Y4 p=none) (im:Ze):∀ (l:List fh) {t:Ze},(∀ r∈l,r∈p.ar)->eN p t->eN p (l.foldl (lg p im) t)/\∀ k (hk:k < p.names.length),p.names[k].kind=1->(l.foldl (lg p im) t).is.getD k false=t.is.getD k false
 | [],t,_,ht=>⟨ht,fun k hk h1=>rfl⟩
 | r :: l,t,hl,ht=>by
  obtain ⟨h1,h2⟩:=VB hc (hl r (by simp)) im ht;obtain ⟨h3,h4⟩:=CQ hc im l (fun r hr=>hl r (by simp [hr])) h1;exact ⟨h3,fun k hk cQ=>(h4 k hk cQ).trans (h2 k hk cQ)⟩
theorem BT {l:List dL} {k:Int} {x:Int}:∀ {n:Nat},n<=l.length->(x∈gF l k n↔∃ i,∃ hi:i < l.length,i < n/\x=(i:Int)/\l[i].kind=k)
 | 0,_=>by simp [gF]
 | n+1,hn=>by
  rw [BU (by omega),List.mem_append,BT (by omega)];constructor
  .rintro (⟨i,hi,h1,h2,h3⟩ | h)
   .exact ⟨i,hi,by omega,h2,h3⟩
   .split at h
    .rename_i hk;exact ⟨n,by omega,by omega,by simpa using h,hk⟩
    .cases h
  .rintro ⟨i,hi,h1,h2,h3⟩;by_cases e:i=n
   .subst e;right;rw [if_pos h3];simp [h2]
   .exact .inl ⟨i,hi,by omega,h2,h3⟩
theorem Ho {l:List dL} {k:Int}:∀ {n:Nat},n<=l.length->(gF l k n).Nodup
 | 0,_=>by simp [gF]
 | n+1,hn=>by
  rw [BU (by omega),List.nodup_append];refine ⟨Ho (by omega),by split<;>simp,fun a ha b hb e=>?_⟩;subst e;obtain ⟨i,hi,h1,h2,_⟩:=(BT (by omega)).1 ha;split at hb
  .have:a=(n:Int):=by simpa using hb
   omega
  .cases hb
theorem xr {p:YN} {j:Nat} (hj:j < (YR p).length):∃ i,∃ hi:i < p.names.length,(YR p)[j]=(i:Int)/\p.names[i].kind=1:=by
 obtain ⟨i,hi,_,h2,h3⟩:=(BT (Nat.le_refl _)).1 (List.getElem_mem hj);exact ⟨i,hi,h2,h3⟩
theorem Iy {at':List Int} {de is:List Bool} {k i:Nat} (h:k < at'.length) (hi:at'[k]=(i:Int)):jU at' de is (k+1)=(jU at' de is k).set i (de.getD k false):=by
 rw [jU,cr h,hi];rfl
theorem x4 {p:YN} (de:List Bool) {s:Ze} (hs:eN p s):∀ k,k<=(YR p).length->eN p ⟨jU (YR p) de s.is k,s.ct⟩/\∀ j (hj:j < k) (ZZ:j < (YR p).length),(jU (YR p) de s.is k).getD (YR p)[j].toNat false=de.getD j false
 | 0,_=>⟨hs,fun j hj=>absurd hj (by omega)⟩
 | k+1,hk=>by
  obtain ⟨h1,h2⟩:=x4 de hs k (by omega);obtain ⟨i,hi,he,h3⟩:=xr (p:=p) (j:=k) (by omega);rw [Iy (by omega) he];refine ⟨uV h1 hi (by omega) _,fun j hj ZZ=>?_⟩;by_cases e:j=k
  .subst e;rw [he,Int.toNat_natCast,gU (by rw [h1.l1];exact hi)]
  .have aG:i≠(YR p)[j].toNat:=fun e2=>by
    obtain ⟨i2,Y9,Ax,_⟩:=xr (p:=p) ZZ;rw [Ax,Int.toNat_natCast] at e2
    have:(YR p)[j]=(YR p)[k]:=by rw [he,Ax,e2]
    exact e ((List.getElem_inj (Ho (Nat.le_refl _))).1 this)
   rw [ek aG];exact h2 j (by omega) ZZ
theorem zq {p:YN} (hc:Y4 p=none) {s:Ze} (hs:eN p s) (de:List Bool):eN p (jB p s de)/\∀ j (hj:j < (YR p).length),(jB p s de).is.getD (YR p)[j].toNat false=de.getD j false:=by
 obtain ⟨h1,h2⟩:=x4 de hs (YR p).length (Nat.le_refl _);obtain ⟨h3,h4⟩:=CQ hc s p.ar (fun r hr=>hr) h1;refine ⟨h3,fun j hj=>?_⟩;obtain ⟨i,hi,he,hk⟩:=xr hj;have:=h2 j hj hj;rw [he,Int.toNat_natCast] at this ⊢;exact (h4 i hi hk).trans this
theorem QY {p:YN} (hc:Y4 p=none) {s:Ze} (hs:eN p s):∀ x∈s.ct,0<=x/\x<=2^20:=fun x hx=>by
 obtain ⟨k,hk,rfl⟩:=List.mem_iff_getElem.1 hx
 have jd:k < p.names.length:=by rw [<- hs.l2];exact hk
 have h1:=hs.lo k;have h2:=hs.hi k jd;rw [cr hk] at h1 h2
 rcases (ZV hc).count _ (List.getElem_mem jd) with h3 | h3<;>omega
end Go.Proofs.YtdigkhaofjmgkaaGreatDoor
