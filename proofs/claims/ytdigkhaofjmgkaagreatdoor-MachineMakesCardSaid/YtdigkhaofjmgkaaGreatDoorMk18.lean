/-
  Texts that belong together,in one file: W1,P8.
-/
import Derived.Test.YtdigkhaofjmgkaaGreatDoorMk15
import Derived.Test.YtdigkhaofjmgkaaGreatDoorMk16
import Derived.Test.YtdigkhaofjmgkaaGreatDoorMk17
import Derived.Shelf.Slices.In.SortNone
import Derived.Lib.RowBridge
set_option linter.unusedSimpArgs false
set_option linter.unusedVariables false
namespace Go.Proofs.YtdigkhaofjmgkaaGreatDoor
open Go.Av Go.Sort
open Go.Shelf
section
variable {w:World} {X:Nat->Prop} {μ:Mu} {r:Nat}
theorem pF (r:Nat) (row:Row):ZX [(r,row)] r=some row:=by simp [ZX,List.lookup]
theorem yB {r q:Nat} (row:Row) (h:q≠r):ZX [(r,row)] q=none:=by simp [ZX,List.lookup,beq_eq_false_iff_ne.2 h]
theorem Er {ty:TypeId} {ss:List (List UInt8)} {m:fU} {b:Nat} (hm:μ r=some m) (hs:cK w X μ (ZX [(r,.sl ty 1 (ss.map fun s=>[dS s]))])) (hb:m.blk=some b) :
  m.sz=1/\∃ cur,w.heap[b]? = some (.cells cur ty (0,0))/\cur.size=m.cap/\ss.length<=m.cap/\m.cap<=maxLen/\∀ i (hi:i < ss.length),cur[i]? = some (encStr ss[i]):=by
 obtain ⟨m',bO,ok⟩:=hs.rows r _ (pF r _);rw [hm] at bO;obtain rfl:=Option.some.inj bO;generalize cz:Row.sl ty 1 (ss.map fun s=>[dS s])=row at ok
 cases ok with
 | nil aO _=>rw [hb] at aO;cases aO
 | box _ _ _ _ _=>cases cz
 | mp _ _ _ _=>cases cz
 | it _ _ _=>cases cz
 | sl aO aI hh bW hn eX hl hz hr=>
  simp only [Row.sl.injEq] at cz;obtain ⟨rfl,rfl,rfl⟩:=cz;rw [hb] at aO;obtain rfl:=Option.some.inj aO;refine ⟨aI,_,hh,by simpa using bW,by simpa using hn,eX,fun i hi=>?_⟩;obtain ⟨u,hu,hru⟩:=hr i 0 [dS ss[i]] (dS ss[i]) (by simp [hi]) rfl;have:=hru.scalar;subst this;simpa [bs] using hu
theorem Kg {ty:TypeId} {ss zs:List (List UInt8)} {m:fU} {b n:Nat} {os:Array Obj} (hm:μ r=some m) (hs:cK w X μ (ZX [(r,.sl ty 1 (ss.map fun s=>[dS s]))])) (hb:m.blk=some b) (hz:zs.length=ss.length) :
  cK (grow (putRow encStr (Sort.ahead w n) b 0 zs.toArray) os) X μ (ZX [(r,.sl ty 1 (zs.map fun s=>[dS s]))])/\Ev (fM [r]) w μ (grow (putRow encStr (Sort.ahead w n) b 0 zs.toArray) os) μ:=by
 obtain ⟨aI,cur,hh,bW,hn,eX,qR⟩:=Er hm hs hb;have gr:b < w.heap.size:=hs.iS ⟨r,m,hm,hb⟩
 have hsize:(putRow encStr (Sort.ahead w n) b 0 zs.toArray).heap.size=w.heap.size:=by simp [putRow,mapBlock,Sort.ahead]
 have hold:∀ k,k < w.heap.size->k≠b->(grow (putRow encStr (Sort.ahead w n) b 0 zs.toArray) os).heap[k]? = w.heap[k]?:=fun k hk aL=>by
  unfold grow;dsimp only;rw [Array.getElem?_append_left (by rw [hsize];exact hk)];unfold putRow mapBlock Sort.ahead;dsimp only;rw [Array.getElem?_modify,if_neg (Ne.symm aL)]
 have je:(grow (putRow encStr (Sort.ahead w n) b 0 zs.toArray) os).heap[b]? = some (.cells (putCells encStr 0 zs.toArray cur) ty (0,0)):=by
  unfold grow;dsimp only;rw [Array.getElem?_append_left (by rw [hsize];exact gr)];unfold putRow mapBlock Sort.ahead;dsimp only;rw [Array.getElem?_modify,if_pos rfl,hh];rfl
 have hgs:w.heap.size<=(grow (putRow encStr (Sort.ahead w n) b 0 zs.toArray) os).heap.size:=by
  unfold grow;simp [hsize]
 have ev:Ev (fM [r]) w μ (grow (putRow encStr (Sort.ahead w n) b 0 zs.toArray) os) μ:=⟨hgs,rfl,rfl,rfl,fun k hk hr=>⟨hold k hk fun e=>hr ⟨r,m,hm,e ▸ hb⟩,hr⟩,fun _ _ h _=>h⟩;refine ⟨⟨fun q row hq=>?_,fun q mq hq=>?_,hs.inj,hs.frame,fun k hk=>Nat.lt_of_lt_of_le (hs.fits k hk) hgs⟩,ev⟩
 .by_cases e:q=r
  .subst e;rw [pF] at hq;obtain rfl:=Option.some.inj hq;refine ⟨m,hm,.sl hb aI je (by simpa [putCells] using bW) (by simpa [hz] using hn) eX (fun el ba=>?_) (by omega) fun i j el c hi hj=>?_⟩
   .obtain ⟨x,_,rfl⟩:=List.mem_map.1 ba;rfl
   .rw [List.getElem?_map] at hi;obtain ⟨x,hx,rfl⟩:=Option.map_eq_some_iff.1 hi;have cQ:i < zs.length:=(List.getElem?_eq_some_iff.1 hx).1
    have jd:j=0:=by have:=(List.getElem?_eq_some_iff.1 hj).1;simpa using this
    subst jd
    obtain rfl:dS x=c:=by simpa using hj
    have hcl:i < cur.size:=by omega
    refine ⟨encStr x,?_,.v _⟩;simp only [Nat.mul_one,Nat.add_zero,putCells,Array.getElem?_mapIdx,Array.getElem?_eq_getElem hcl,Option.map_some];rw [if_pos (by simp;omega)];congr 2;simp only [Nat.sub_zero];rw [getElem!_pos zs.toArray i (by simpa using cQ)];simpa using (List.getElem?_eq_some_iff.1 hx).2
  .rw [yB _ e] at hq;cases hq
 .obtain ⟨row,cz⟩:=hs.dom q mq hq;by_cases e:q=r
  .exact ⟨_,by rw [e];exact pF r _⟩
  .rw [yB _ e] at cz;cases cz
theorem Ke {ty:TypeId} {ss:List (List UInt8)} {m:fU} {b:Nat} (hm:μ r=some m) (hs:cK w X μ (ZX [(r,.sl ty 1 (ss.map fun s=>[dS s]))])) (hb:m.blk=some b):Holds encStr w b 0 ss.toArray:=by
 obtain ⟨aI,cur,hh,bW,hn,eX,qR⟩:=Er hm hs hb;intro j hj
 have cR:j < ss.length:=by simpa using hj
 constructor
 .unfold World.cell?;simp only [hh,Nat.zero_add];rw [getElem!_pos ss.toArray j hj,qR j cR];simp
 .unfold World.frozen?;simp only [hh];simp
theorem Kf {ty:TypeId} {ss:List (List UInt8)} {m:fU} (hm:μ r=some m) (hs:cK w X μ (ZX [(r,.sl ty 1 (ss.map fun s=>[dS s]))])) (hb:m.blk=none):ss=[]:=by
 obtain ⟨m',bO,ok⟩:=hs.rows r _ (pF r _);rw [hm] at bO;obtain rfl:=Option.some.inj bO;generalize cz:Row.sl ty 1 (ss.map fun s=>[dS s])=row at ok
 cases ok with
 | nil _ _=>simp only [Row.sl.injEq] at cz;simpa using cz.2.2
 | box aO _ _ _ _=>rw [hb] at aO;cases aO
 | mp aO _ _ _=>rw [hb] at aO;cases aO
 | it aO _ _=>rw [hb] at aO;cases aO
 | sl aO _ _ _ _ _ _ _ _=>rw [hb] at aO;cases aO
end
def jG (ss:List (List UInt8)):List (List UInt8):=ss.mergeSort fun x y=>decide (x<=y)
theorem nI (ss:List (List UInt8)):(jG ss).length=ss.length:=by simp [jG]
theorem WH (G:ao) (r:Nat) (ty:TypeId) (ss:List (List UInt8)) (hl:ss.length < 2^60):MC Tryz.prog G [r] 201 [.own r 0 ss.length] (ZX [(r,.sl ty 1 (ss.map fun s=>[dS s]))]) (.d (.Z4 [])) (ZX [(r,.sl ty 1 ((jG ss).map fun s=>[dS s]))]):=by
 refine ⟨eU.of Tryz.func201 rfl rfl,fun X w μ vs hs b8 aI hv=>?_⟩
 obtain ⟨v,rfl⟩:∃ v,vs = #[v]:=by
  match vs,aI with
  | ⟨[v]⟩,_=>exact ⟨v,rfl⟩
 obtain ⟨m,hm,hc⟩:=(hv 0 v _ rfl rfl).iK;have hL:Lays.n190 Tryz.prog Tryz.Iv:={ Tryz.Sc with };by_cases h0:ss=[]
 .subst h0
  have e:∃ p cap,v = .slice p 0 cap:=by
   rcases hc with ⟨_,rfl,_⟩ | ⟨b,_,rfl,_⟩
   .exact ⟨_,_,rfl⟩
   .exact ⟨_,_,rfl⟩
  obtain ⟨p,cap,rfl⟩:=e;have e1:jG []=[]:=List.eq_nil_of_length_eq_zero (by rw [nI];rfl);rw [e1];refine (Any.slices_Sort_string_none hL p cap w).mono fun e w' ⟨he,hw⟩=>?_;subst hw;exact ⟨_,_,_,μ,he,⟨rfl,rfl⟩,.d (.Z4 rfl fun j u c hu hc=>by simp at hu),hs,.refl _ _ _⟩
 .rcases hc with ⟨hb,rfl,_,hn⟩ | ⟨b,hb,rfl,hn⟩
  .exact absurd (Kf hm hs hb) h0
  .have hH:=Ke hm hs hb;have gr:b < w.heap.size:=hs.iS ⟨r,m,hm,hb⟩;rw [Nat.zero_mul];refine (Any.slices_Sort_string hL b 0 (m.cap - 0) ss w hH gr (by omega)).mono fun e w' ⟨he,n,os,hw⟩=>?_;subst hw;obtain ⟨h1,h2⟩:=Kg (n:=n) (os:=os) hm hs hb (nI ss);exact ⟨_,_,_,μ,he,⟨rfl,rfl⟩,.d (.Z4 rfl fun j u c hu hc=>by simp at hu),h1,h2⟩
theorem M3 (G:ao) (r:Nat) (ty:TypeId) (ss:List (List UInt8)) (hl:ss.length < 2^60):MC Tryz.prog G [r] 202 [.own r 0 ss.length] (ZX [(r,.sl ty 1 (ss.map fun s=>[dS s]))]) (.own r 0 (Lib.compact ss).length) (ZX [(r,.sl ty 1 ((Lib.compact ss ++ List.replicate (ss.length - (Lib.compact ss).length) []).map fun s=>[dS s]))]):=by
 refine ⟨eU.of Tryz.func202 rfl rfl,fun X w μ vs hs b8 aI hv=>?_⟩
 obtain ⟨v,rfl⟩:∃ v,vs = #[v]:=by
  match vs,aI with
  | ⟨[v]⟩,_=>exact ⟨v,rfl⟩
 have fJ:=hv 0 v _ rfl rfl;obtain ⟨m,hm,hc⟩:=fJ.iK;have hle:=Lib.compact_length_le ss;have hL:Lays.n194 Tryz.prog Tryz.Iw:={ Tryz.Sd with };by_cases h0:ss=[]
 .subst h0;have e0:(Lib.compact ([]:List (List UInt8)))=[]:=List.eq_nil_of_length_eq_zero (by simpa using hle);rw [e0]
  have e:∃ p cap,v = .slice p 0 cap:=by
   rcases hc with ⟨_,rfl,_⟩ | ⟨b,_,rfl,_⟩
   .exact ⟨_,_,rfl⟩
   .exact ⟨_,_,rfl⟩
  obtain ⟨p,cap,rfl⟩:=e;refine (Any.slices_Compact_string_empty hL p cap w).mono fun e w' ⟨he,hw⟩=>?_;subst hw;exact ⟨_,_,_,μ,he,⟨rfl,rfl⟩,fJ,hs,.refl _ _ _⟩
 .rcases hc with ⟨hb,rfl,_,hn⟩ | ⟨b,hb,rfl,hn⟩
  .exact absurd (Kf hm hs hb) h0
  .have hH:=Ke hm hs hb;obtain ⟨CZ,cur,hh,bW,jX,eX,qR⟩:=Er hm hs hb;rw [Nat.zero_mul];refine (Any.slices_Compact_string hL b 0 (m.cap - 0) ss w hH (by omega) (by omega)).mono fun e w' ⟨he,n,hw⟩=>?_
   have hz:(Lib.compact ss ++ List.replicate (ss.length - (Lib.compact ss).length) []).length=ss.length:=by simp;omega
   obtain ⟨h1,h2⟩:=Kg (n:=n) (os:=#[]) hm hs hb hz;rw [grow_empty] at h1 h2;subst hw;refine ⟨_,_,_,μ,he,⟨rfl,rfl⟩,.own hm (.inr ⟨b,hb,by simp,by omega⟩),h1,h2⟩
end Go.Proofs.YtdigkhaofjmgkaaGreatDoor
namespace Go.Proofs.YtdigkhaofjmgkaaGreatDoor
def Le (st a b:Bool):Prop:=a=st\/a=b
theorem Le.refl (st a:Bool):Le st a a:=.inr rfl
theorem Le.trans {st a b c:Bool} (h:Le st a b) (h':Le st b c):Le st a c:=by
 rcases h with h | rfl
 .exact .inl h
 .exact h'
theorem Le.ne {st a b:Bool} (h:Le st a b) (aL:a≠b):a=st/\b≠st:=by
 rcases h with rfl | h
 .exact ⟨rfl,fun e=>aL e.symm⟩
 .exact absurd h aL
def qn (now:Nat->Bool->Bool):Prop:=∀ i,now i false=true->now i true=true
theorem qn.le {now:Nat->Bool->Bool} (h:qn now) (st:Bool) {i:Nat} {a b:Bool} (BT:Le st a b):Le st (now i a) (now i b):=by
 have hi:=h i
 rcases BT with rfl | rfl
 .cases a<;>cases b<;>unfold Le<;>cases h1:now i false<;>cases h2:now i true<;>simp_all
 .exact .refl _ _
def iJ (now:Nat->Bool->Bool) (nx:Nat->Nat) (st:Bool):Nat->Nat->Bool
 | 0,_=>st
 | k+1,i=>now i (iJ now nx st k (nx i))
theorem Ig {now:Nat->Bool->Bool} (h:qn now) (nx:Nat->Nat) (st:Bool):∀ k i,Le st (iJ now nx st k i) (iJ now nx st (k+1) i)
 | 0,i=>.inl rfl
 | k+1,i=>h.le st (Ig h nx st k (nx i))
def acU (f:Nat->Bool):Nat->Nat
 | 0=>0
 | n+1=>acU f n+if f n then 1 else 0
theorem FO (f:Nat->Bool):∀ n,acU f n<=n
 | 0=>Nat.le_refl _
 | n+1=>by
  have:=FO f n;simp only [acU];split<;>omega
theorem FQ {f g:Nat->Bool}:∀ n,(∀ i,i < n->f i=true->g i=true)->acU f n<=acU g n
 | 0,_=>Nat.le_refl _
 | n+1,h=>by
  have ih:=FQ n fun i hi=>h i (by omega);have hn:=h n (by omega);simp only [acU]
  cases h1:f n with
  | false=>simp;omega
  | true=>rw [hn h1];simp;omega
theorem FP {f g:Nat->Bool}:∀ n,(∀ i,i < n->f i=true->g i=true)->(∃ i,i < n/\f i=false/\g i=true)->acU f n < acU g n
 | 0,_,⟨i,hi,_⟩=>by omega
 | n+1,h,⟨i,hi,h1,h2⟩=>by
  have hn:=h n (by omega);simp only [acU];by_cases aC:i=n
  .subst aC;have:=FQ i fun j hj=>h j (by omega);rw [h1,h2];simp;omega
  .have:=FP n (fun j hj=>h j (by omega)) ⟨i,by omega,h1,h2⟩
   cases h3:f n with
   | false=>simp;split<;>omega
   | true=>rw [hn h3];simp;omega
def up (st:Bool) (n:Nat) (f:Nat->Bool):Nat:=acU (fun i=>f i != st) n
theorem Xz (st:Bool) (n:Nat) (f:Nat->Bool):up st n f<=n:=FO _ _
theorem afl {st:Bool} {n:Nat} {f g:Nat->Bool} (h:∀ i,i < n->Le st (f i) (g i)) (hx:∃ i,i < n/\f i≠g i):up st n f < up st n g:=FP n (fun i hi hf=>by
 simp only [bne_iff_ne,ne_eq] at hf ⊢
 rcases h i hi with h | h
 .exact absurd h hf
 .rwa [<- h]) (by
 obtain ⟨i,hi,aL⟩:=hx;obtain ⟨h1,h2⟩:=(h i hi).ne aL
 exact ⟨i,hi,by simp [h1],by simpa using h2⟩)
theorem afJ {now:Nat->Bool->Bool} (h:qn now) {nx:Nat->Nat} {st:Bool} {n:Nat} (hn:∀ i,i < n->nx i < n):∃ k,k<=n/\∀ i,i < n->iJ now nx st k i=iJ now nx st (k+1) i:=by
 apply Classical.byContradiction;intro eA
 have key:∀ k,k<=n+1->k<=up st n (iJ now nx st k):=by
  intro k
  induction k with
  | zero=>intro _;omega
  | succ k ih=>
   intro hk;have h1:=ih (by omega)
   have hx:∃ i,i < n/\iJ now nx st k i≠iJ now nx st (k+1) i:=by
    apply Classical.byContradiction;intro bx;exact eA ⟨k,by omega,fun i hi=>Classical.byContradiction fun aL=>bx ⟨i,hi,aL⟩⟩
   have:=afl (fun i _=>Ig h nx st k i) hx;omega
 have h1:=key (n+1) (Nat.le_refl _);have h2:=Xz st n (iJ now nx st (n+1));omega
theorem Dj {now:Nat->Bool->Bool} {nx:Nat->Nat} {st:Bool} {n k:Nat} (hn:∀ i,i < n->nx i < n) (hk:∀ i,i < n->iJ now nx st k i=iJ now nx st (k+1) i):∀ d i,i < n->iJ now nx st (k+d) i=iJ now nx st k i
 | 0,i,_=>rfl
 | d+1,i,hi=>by
  have ih:=Dj hn hk d _ (hn i hi);rw [hk i hi,<- Nat.add_assoc];simp only [iJ];rw [ih]
theorem Ry {now:Nat->Bool->Bool} (h:qn now) {nx:Nat->Nat} {st:Bool} {n:Nat} (hn:∀ i,i < n->nx i < n) {m:Nat} (hm:n<=m) {i:Nat} (hi:i < n):iJ now nx st m i=iJ now nx st n i:=by
 obtain ⟨k,hk,he⟩:=afJ h (st:=st) hn;have h1:=Dj hn he (m - k) i hi;have h2:=Dj hn he (n - k) i hi;rw [show k+(m - k)=m by omega] at h1;rw [show k+(n - k)=n by omega] at h2;rw [h1,h2]
theorem Rz {now:Nat->Bool->Bool} (h:qn now) {nx:Nat->Nat} {st:Bool} {n:Nat} (hn:∀ i,i < n->nx i < n) {i:Nat} (hi:i < n):iJ now nx st n i=now i (iJ now nx st n (nx i)):=
 (Ry h hn (Nat.le_succ n) hi).symm
def lG (f:Nat->Bool) (i:Nat) (x:Bool):Nat->Bool:=fun j=>if j=i then x else f j
structure Kept (now:Nat->Bool->Bool) (nx:Nat->Nat) (st:Bool) (n:Nat) (f:Nat->Bool):Prop where
 le:∀ i,i < n->Le st (f i) (iJ now nx st n i)
 grow:∀ i,i < n->Le st (f i) (now i (f (nx i)))
theorem Kept.start (now:Nat->Bool->Bool) (nx:Nat->Nat) (st:Bool) (n:Nat):Kept now nx st n fun _=>st:=⟨fun _ _=>.inl rfl,fun _ _=>.inl rfl⟩
theorem Kept.set {now:Nat->Bool->Bool} {nx:Nat->Nat} {st:Bool} {n:Nat} {f:Nat->Bool} (k:Kept now nx st n f) (h:qn now) (hn:∀ i,i < n->nx i < n) {i:Nat} (hi:i < n) (aL:now i (f (nx i))≠f i) :
  Kept now nx st n (lG f i (now i (f (nx i))))/\up st n f < up st n (lG f i (now i (f (nx i)))):=by
 have aJ:∀ j,j < n->Le st (f j) (lG f i (now i (f (nx i))) j):=fun j hj=>by
  unfold lG;split
  .rename_i e;subst e;exact k.grow j hj
  .exact .refl _ _
 refine ⟨⟨fun j hj=>?_,fun j hj=>?_⟩,afl aJ ⟨i,hi,by simp [lG,Ne.symm aL]⟩⟩
 .by_cases e:j=i
  .subst e;rw [show lG f j (now j (f (nx j))) j=now j (f (nx j)) by simp [lG],Rz h hn hj];exact h.le st (k.le _ (hn j hj))
  .rw [show lG f i (now i (f (nx i))) j=f j by simp [lG,e]];exact k.le j hj
 .have hb:=h.le st (i:=j) (aJ (nx j) (hn j hj));by_cases e:j=i
  .subst e;rw [show lG f j (now j (f (nx j))) j=now j (f (nx j)) by simp [lG]];exact hb
  .rw [show lG f i (now i (f (nx i))) j=f j by simp [lG,e]];exact (k.grow j hj).trans hb
end Go.Proofs.YtdigkhaofjmgkaaGreatDoor
