/- Parts. -/
import Derived.Test.YtdigkhaofjmgkaaGreatDoorMs15
import Derived.Test.YtdigkhaofjmgkaaGreatDoorMs16
import Derived.Test.YtdigkhaofjmgkaaGreatDoorMs17
import Derived.Shelf.Slices.In.SortNone
import Derived.Lib.RowBridge
set_option linter.unusedSimpArgs false
set_option linter.unusedVariables false
open Go.Proofs.Tryz
namespace Go.Proofs.YtdigkhaofjmgkaaGreatDoor
open Go.Av Go.Sort
open Go.Shelf
section
variable {w:World} {X:Nat->Prop} {μ:Mu} {r:Nat}
theorem qi (r:Nat) (row:Row):ak [(r,row)] r=some row:=by simp[ak,List.lookup]
theorem yV {r q:Nat} (row:Row) (h:q≠r):ak [(r,row)] q=none:=by simp[ak,List.lookup,beq_eq_false_iff_ne.2 h]
theorem afC {ty:TypeId} {ss:List (List UInt8)} {m:gn} {b:Nat} (hm:μ r=some m) (hs:Sim w X μ (ak [(r,.sl ty 1 (ss.map fun s=>[dS s]))])) (hb:m.dy=some b) :
  m.sz=1/\∃ cur,w.heap[b]? = some (.cells cur ty (0,0))/\cur.size=m.cap/\ss.length<=m.cap/\m.cap<=maxLen/\∀ i (hi:i < ss.length),cur[i]? = some (encStr ss[i]):=by
 obtain⟨m',bU,ok⟩:=hs.rows r _ (qi r _);rw[hm]at bU;obtain rfl:=Option.some.inj bU;generalize cF:Row.sl ty 1 (ss.map fun s=>[dS s])=row at ok
 cases ok with
 | nil aT _=>rw[hb]at aT;cases aT
 | box _ _ _ _ _=>cases cF
 | mp _ _ _ _=>cases cF
 | it _ _ _=>cases cF
 | sl aT aK hh hcs hn fc hl hz hr=>
  simp only[Row.sl.injEq]at cF;obtain⟨rfl,rfl,rfl⟩:=cF;rw[hb]at aT;obtain rfl:=Option.some.inj aT;refine⟨aK,_,hh,by simpa using hcs,by simpa using hn,fc,fun i hi=>?_⟩;obtain⟨u,hu,wE⟩:=hr i 0 [dS ss[i]] (dS ss[i]) (by simp[hi]) rfl;have:=wE.scalar;subst this;simpa[bs]using hu
theorem KB {ty:TypeId} {ss zs:List (List UInt8)} {m:gn} {b n:Nat} {os:Array Obj} (hm:μ r=some m) (hs:Sim w X μ (ak [(r,.sl ty 1 (ss.map fun s=>[dS s]))])) (hb:m.dy=some b) (hz:zs.length=ss.length) :
  Sim (grow (putRow encStr (Sort.ahead w n) b 0 zs.toArray) os) X μ (ak [(r,.sl ty 1 (zs.map fun s=>[dS s]))])/\Ev (gd [r]) w μ (grow (putRow encStr (Sort.ahead w n) b 0 zs.toArray) os) μ:=by
 obtain⟨aK,cur,hh,hcs,hn,fc,rD⟩:=afC hm hs hb;have gK:b < w.heap.size:=hs.jj ⟨r,m,hm,hb⟩
 have hsize:(putRow encStr (Sort.ahead w n) b 0 zs.toArray).heap.size=w.heap.size:=by simp[putRow,mapBlock,Sort.ahead]
 have hold:∀ k,k < w.heap.size->k≠b->(grow (putRow encStr (Sort.ahead w n) b 0 zs.toArray) os).heap[k]? = w.heap[k]?:=fun k hk aO=>by
  unfold grow;dsimp only;rw[Array.getElem?_append_left (by rw[hsize];exact hk)];unfold putRow mapBlock Sort.ahead;dsimp only;rw[Array.getElem?_modify,if_neg (Ne.symm aO)]
 have jv:(grow (putRow encStr (Sort.ahead w n) b 0 zs.toArray) os).heap[b]? = some (.cells (putCells encStr 0 zs.toArray cur) ty (0,0)):=by
  unfold grow;dsimp only;rw[Array.getElem?_append_left (by rw[hsize];exact gK)];unfold putRow mapBlock Sort.ahead;dsimp only;rw[Array.getElem?_modify,if_pos rfl,hh];rfl
 have rN:w.heap.size<=(grow (putRow encStr (Sort.ahead w n) b 0 zs.toArray) os).heap.size:=by
  unfold grow;simp[hsize]
 have ev:Ev (gd [r]) w μ (grow (putRow encStr (Sort.ahead w n) b 0 zs.toArray) os) μ:=⟨rN,rfl,rfl,rfl,fun k hk hr=>⟨hold k hk fun e=>hr ⟨r,m,hm,e ▸ hb⟩,hr⟩,fun _ _ h _=>h⟩;refine⟨⟨fun q row hq=>?_,fun q mq hq=>?_,hs.inj,hs.frame,fun k hk=>Nat.lt_of_lt_of_le (hs.fits k hk) rN⟩,ev⟩
 .by_cases e:q=r
  .subst e;rw[qi]at hq;obtain rfl:=Option.some.inj hq;refine⟨m,hm,.sl hb aK jv (by simpa[putCells]using hcs) (by simpa[hz]using hn) fc (fun el hel=>?_) (by omega) fun i j el c hi hj=>?_⟩
   .obtain⟨x,_,rfl⟩:=List.mem_map.1 hel;rfl
   .rw[List.getElem?_map]at hi;obtain⟨x,hx,rfl⟩:=Option.map_eq_some_iff.1 hi;have c6:i < zs.length:=(List.getElem?_eq_some_iff.1 hx).1
    have jt:j=0:=by have:=(List.getElem?_eq_some_iff.1 hj).1;simpa using this
    subst jt
    obtain rfl:dS x=c:=by simpa using hj
    have hcl:i < cur.size:=by omega
    refine⟨encStr x,?_,.v _⟩;simp only[Nat.mul_one,Nat.add_zero,putCells,Array.getElem?_mapIdx,Array.getElem?_eq_getElem hcl,Option.map_some];rw[if_pos (by simp;omega)];congr 2;simp only[Nat.sub_zero];rw[getElem!_pos zs.toArray i (by simpa using c6)];simpa using (List.getElem?_eq_some_iff.1 hx).2
  .rw[yV _ e]at hq;cases hq
 .obtain⟨row,cF⟩:=hs.iu q mq hq;by_cases e:q=r
  .exact⟨_,by rw[e];exact qi r _⟩
  .rw[yV _ e]at cF;cases cF
theorem Kz {ty:TypeId} {ss:List (List UInt8)} {m:gn} {b:Nat} (hm:μ r=some m) (hs:Sim w X μ (ak [(r,.sl ty 1 (ss.map fun s=>[dS s]))])) (hb:m.dy=some b):Holds encStr w b 0 ss.toArray:=by
 obtain⟨aK,cur,hh,hcs,hn,fc,rD⟩:=afC hm hs hb;intro j hj
 have hj':j < ss.length:=by simpa using hj
 constructor
 .unfold World.cell?;simp only[hh,Nat.zero_add];rw[getElem!_pos ss.toArray j hj,rD j hj'];simp
 .unfold World.frozen?;simp only[hh];simp
theorem KA {ty:TypeId} {ss:List (List UInt8)} {m:gn} (hm:μ r=some m) (hs:Sim w X μ (ak [(r,.sl ty 1 (ss.map fun s=>[dS s]))])) (hb:m.dy=none):ss=[]:=by
 obtain⟨m',bU,ok⟩:=hs.rows r _ (qi r _);rw[hm]at bU;obtain rfl:=Option.some.inj bU;generalize cF:Row.sl ty 1 (ss.map fun s=>[dS s])=row at ok
 cases ok with
 | nil _ _=>simp only[Row.sl.injEq]at cF;simpa using cF.2.2
 | box aT _ _ _ _=>rw[hb]at aT;cases aT
 | mp aT _ _ _=>rw[hb]at aT;cases aT
 | it aT _ _=>rw[hb]at aT;cases aT
 | sl aT _ _ _ _ _ _ _ _=>rw[hb]at aT;cases aT
end
def jW (ss:List (List UInt8)):List (List UInt8):=ss.mergeSort fun x y=>decide (x<=y)
theorem adM (ss:List (List UInt8)):(jW ss).length=ss.length:=by simp[jW]
theorem Xl (G:ao) (r:Nat) (ty:TypeId) (ss:List (List UInt8)) (hl:ss.length < 2^60):MC prog G [r] 201 [.own r 0 ss.length] (ak [(r,.sl ty 1 (ss.map fun s=>[dS s]))]) (.d (.tup [])) (ak [(r,.sl ty 1 ((jW ss).map fun s=>[dS s]))]):=by
 refine⟨e7.of func201 rfl rfl,fun X w μ vs hs cq aK hv=>?_⟩
 obtain⟨v,rfl⟩:∃ v,vs = #[v]:=by
  match vs,aK with
  | ⟨[v]⟩,_=>exact⟨v,rfl⟩
 obtain⟨m,hm,hc⟩:=(hv 0 v _ rfl rfl).jd;have hL:Lays.n190 prog Tryz.IL:={ Tryz.SK with };by_cases h0:ss=[]
 .subst h0
  have e:∃ p cap,v = .slice p 0 cap:=by
   rcases hc with⟨_,rfl,_⟩ | ⟨b,_,rfl,_⟩
   .exact⟨_,_,rfl⟩
   .exact⟨_,_,rfl⟩
  obtain⟨p,cap,rfl⟩:=e;have e1:jW []=[]:=List.eq_nil_of_length_eq_zero (by rw[adM];rfl);rw[e1];refine (Any.slices_Sort_string_none hL p cap w).mono fun e w' ⟨he,hw⟩=>?_;subst hw;exact⟨_,_,_,μ,he,⟨rfl,rfl⟩,.d (.tup rfl fun j u c hu hc=>by simp at hu),hs,.refl _ _ _⟩
 .rcases hc with⟨hb,rfl,_,hn⟩ | ⟨b,hb,rfl,hn⟩
  .exact absurd (KA hm hs hb) h0
  .have hH:=Kz hm hs hb;have gK:b < w.heap.size:=hs.jj ⟨r,m,hm,hb⟩;rw[Nat.zero_mul];refine (Any.slices_Sort_string hL b 0 (m.cap - 0) ss w hH gK (by omega)).mono fun e w' ⟨he,n,os,hw⟩=>?_;subst hw;obtain⟨h1,h2⟩:=KB (n:=n) (os:=os) hm hs hb (adM ss);exact⟨_,_,_,μ,he,⟨rfl,rfl⟩,.d (.tup rfl fun j u c hu hc=>by simp at hu),h1,h2⟩
theorem Ns (G:ao) (r:Nat) (ty:TypeId) (ss:List (List UInt8)) (hl:ss.length < 2^60):MC prog G [r] 202 [.own r 0 ss.length] (ak [(r,.sl ty 1 (ss.map fun s=>[dS s]))]) (.own r 0 (Lib.compact ss).length) (ak [(r,.sl ty 1 ((Lib.compact ss ++ List.replicate (ss.length - (Lib.compact ss).length) []).map fun s=>[dS s]))]):=by
 refine⟨e7.of func202 rfl rfl,fun X w μ vs hs cq aK hv=>?_⟩
 obtain⟨v,rfl⟩:∃ v,vs = #[v]:=by
  match vs,aK with
  | ⟨[v]⟩,_=>exact⟨v,rfl⟩
 have ff:=hv 0 v _ rfl rfl;obtain⟨m,hm,hc⟩:=ff.jd;have hle:=Lib.compact_length_le ss;have hL:Lays.n194 prog Tryz.IM:={ Tryz.SL with };by_cases h0:ss=[]
 .subst h0;have e0:(Lib.compact ([]:List (List UInt8)))=[]:=List.eq_nil_of_length_eq_zero (by simpa using hle);rw[e0]
  have e:∃ p cap,v = .slice p 0 cap:=by
   rcases hc with⟨_,rfl,_⟩ | ⟨b,_,rfl,_⟩
   .exact⟨_,_,rfl⟩
   .exact⟨_,_,rfl⟩
  obtain⟨p,cap,rfl⟩:=e;refine (Any.slices_Compact_string_empty hL p cap w).mono fun e w' ⟨he,hw⟩=>?_;subst hw;exact⟨_,_,_,μ,he,⟨rfl,rfl⟩,ff,hs,.refl _ _ _⟩
 .rcases hc with⟨hb,rfl,_,hn⟩ | ⟨b,hb,rfl,hn⟩
  .exact absurd (KA hm hs hb) h0
  .have hH:=Kz hm hs hb;obtain⟨C4,cur,hh,hcs,kh,fc,rD⟩:=afC hm hs hb;rw[Nat.zero_mul];refine (Any.slices_Compact_string hL b 0 (m.cap - 0) ss w hH (by omega) (by omega)).mono fun e w' ⟨he,n,hw⟩=>?_
   have hz:(Lib.compact ss ++ List.replicate (ss.length - (Lib.compact ss).length) []).length=ss.length:=by simp;omega
   obtain⟨h1,h2⟩:=KB (n:=n) (os:=#[]) hm hs hb hz;rw[grow_empty]at h1 h2;subst hw;refine⟨_,_,_,μ,he,⟨rfl,rfl⟩,.own hm (.inr ⟨b,hb,by simp,by omega⟩),h1,h2⟩
end Go.Proofs.YtdigkhaofjmgkaaGreatDoor
namespace Go.Proofs.YtdigkhaofjmgkaaGreatDoor
def Le (st a b:Bool):Prop:=a=st\/a=b
theorem Le.refl (st a:Bool):Le st a a:=.inr rfl
theorem Le.trans {st a b c:Bool} (h:Le st a b) (h':Le st b c):Le st a c:=by
 rcases h with h | rfl
 .exact .inl h
 .exact h'
theorem Le.ne {st a b:Bool} (h:Le st a b) (aO:a≠b):a=st/\b≠st:=by
 rcases h with rfl | h
 .exact⟨rfl,fun e=>aO e.symm⟩
 .exact absurd h aO
def qZ (now:Nat->Bool->Bool):Prop:=∀ i,now i false=true->now i true=true
theorem qZ.le {now:Nat->Bool->Bool} (h:qZ now) (st:Bool) {i:Nat} {a b:Bool} (B3:Le st a b):Le st (now i a) (now i b):=by
 have hi:=h i
 rcases B3 with rfl | rfl
 .cases a<;>cases b<;>unfold Le<;>cases h1:now i false<;>cases h2:now i true<;>simp_all
 .exact .refl _ _
def jc (now:Nat->Bool->Bool) (nx:Nat->Nat) (st:Bool):Nat->Nat->Bool
 | 0,_=>st
 | k+1,i=>now i (jc now nx st k (nx i))
theorem Ix {now:Nat->Bool->Bool} (h:qZ now) (nx:Nat->Nat) (st:Bool):∀ k i,Le st (jc now nx st k i) (jc now nx st (k+1) i)
 | 0,i=>.inl rfl
 | k+1,i=>h.le st (Ix h nx st k (nx i))
def nD (f:Nat->Bool):Nat->Nat
 | 0=>0
 | n+1=>nD f n+if f n then 1 else 0
theorem FV (f:Nat->Bool):∀ n,nD f n<=n
 | 0=>Nat.le_refl _
 | n+1=>by
  have:=FV f n;simp only[nD];split<;>omega
theorem FX {f g:Nat->Bool}:∀ n,(∀ i,i < n->f i=true->g i=true)->nD f n<=nD g n
 | 0,_=>Nat.le_refl _
 | n+1,h=>by
  have ih:=FX n fun i hi=>h i (by omega);have hn:=h n (by omega);simp only[nD]
  cases h1:f n with
  | false=>simp;omega
  | true=>rw[hn h1];simp;omega
theorem FW {f g:Nat->Bool}:∀ n,(∀ i,i < n->f i=true->g i=true)->(∃ i,i < n/\f i=false/\g i=true)->nD f n < nD g n
 | 0,_,⟨i,hi,_⟩=>by omega
 | n+1,h,⟨i,hi,h1,h2⟩=>by
  have hn:=h n (by omega);simp only[nD];by_cases aF:i=n
  .subst aF;have:=FX i fun j hj=>h j (by omega);rw[h1,h2];simp;omega
  .have:=FW n (fun j hj=>h j (by omega)) ⟨i,by omega,h1,h2⟩
   cases h3:f n with
   | false=>simp;split<;>omega
   | true=>rw[hn h3];simp;omega
def up (st:Bool) (n:Nat) (f:Nat->Bool):Nat:=nD (fun i=>f i != st) n
theorem Yd (st:Bool) (n:Nat) (f:Nat->Bool):up st n f<=n:=FV _ _
theorem Ly {st:Bool} {n:Nat} {f g:Nat->Bool} (h:∀ i,i < n->Le st (f i) (g i)) (hx:∃ i,i < n/\f i≠g i):up st n f < up st n g:=FW n (fun i hi hf=>by
 simp only[bne_iff_ne,ne_eq]at hf ⊢
 rcases h i hi with h | h
 .exact absurd h hf
 .rwa [<- h]) (by
 obtain⟨i,hi,aO⟩:=hx;obtain⟨h1,h2⟩:=(h i hi).ne aO
 exact⟨i,hi,by simp[h1],by simpa using h2⟩)
theorem R8 {now:Nat->Bool->Bool} (h:qZ now) {nx:Nat->Nat} {st:Bool} {n:Nat} (hn:∀ i,i < n->nx i < n):∃ k,k<=n/\∀ i,i < n->jc now nx st k i=jc now nx st (k+1) i:=by
 apply Classical.byContradiction;intro fD
 have key:∀ k,k<=n+1->k<=up st n (jc now nx st k):=by
  intro k
  induction k with
  | zero=>intro _;omega
  | succ k ih=>
   intro hk;have h1:=ih (by omega)
   have hx:∃ i,i < n/\jc now nx st k i≠jc now nx st (k+1) i:=by
    apply Classical.byContradiction;intro bB;exact fD ⟨k,by omega,fun i hi=>Classical.byContradiction fun aO=>bB ⟨i,hi,aO⟩⟩
   have:=Ly (fun i _=>Ix h nx st k i) hx;omega
 have h1:=key (n+1) (Nat.le_refl _);have h2:=Yd st n (jc now nx st (n+1));omega
theorem Dm {now:Nat->Bool->Bool} {nx:Nat->Nat} {st:Bool} {n k:Nat} (hn:∀ i,i < n->nx i < n) (hk:∀ i,i < n->jc now nx st k i=jc now nx st (k+1) i):∀ d i,i < n->jc now nx st (k+d) i=jc now nx st k i
 | 0,i,_=>rfl
 | d+1,i,hi=>by
  have ih:=Dm hn hk d _ (hn i hi);rw[hk i hi,<- Nat.add_assoc];simp only[jc];rw[ih]
theorem R6 {now:Nat->Bool->Bool} (h:qZ now) {nx:Nat->Nat} {st:Bool} {n:Nat} (hn:∀ i,i < n->nx i < n) {m:Nat} (hm:n<=m) {i:Nat} (hi:i < n):jc now nx st m i=jc now nx st n i:=by
 obtain⟨k,hk,he⟩:=R8 h (st:=st) hn;have h1:=Dm hn he (m - k) i hi;have h2:=Dm hn he (n - k) i hi;rw[show k+(m - k)=m by omega]at h1;rw[show k+(n - k)=n by omega]at h2;rw[h1,h2]
theorem R7 {now:Nat->Bool->Bool} (h:qZ now) {nx:Nat->Nat} {st:Bool} {n:Nat} (hn:∀ i,i < n->nx i < n) {i:Nat} (hi:i < n):jc now nx st n i=now i (jc now nx st n (nx i)):=
 (R6 h hn (Nat.le_succ n) hi).symm
def l5 (f:Nat->Bool) (i:Nat) (x:Bool):Nat->Bool:=fun j=>if j=i then x else f j
structure Kept (now:Nat->Bool->Bool) (nx:Nat->Nat) (st:Bool) (n:Nat) (f:Nat->Bool):Prop where
 le:∀ i,i < n->Le st (f i) (jc now nx st n i)
 grow:∀ i,i < n->Le st (f i) (now i (f (nx i)))
theorem Kept.start (now:Nat->Bool->Bool) (nx:Nat->Nat) (st:Bool) (n:Nat):Kept now nx st n fun _=>st:=⟨fun _ _=>.inl rfl,fun _ _=>.inl rfl⟩
theorem Kept.set {now:Nat->Bool->Bool} {nx:Nat->Nat} {st:Bool} {n:Nat} {f:Nat->Bool} (k:Kept now nx st n f) (h:qZ now) (hn:∀ i,i < n->nx i < n) {i:Nat} (hi:i < n) (aO:now i (f (nx i))≠f i) :
  Kept now nx st n (l5 f i (now i (f (nx i))))/\up st n f < up st n (l5 f i (now i (f (nx i)))):=by
 have aL:∀ j,j < n->Le st (f j) (l5 f i (now i (f (nx i))) j):=fun j hj=>by
  unfold l5;split
  .rename_i e;subst e;exact k.grow j hj
  .exact .refl _ _
 refine⟨⟨fun j hj=>?_,fun j hj=>?_⟩,Ly aL ⟨i,hi,by simp[l5,Ne.symm aO]⟩⟩
 .by_cases e:j=i
  .subst e;rw[show l5 f j (now j (f (nx j))) j=now j (f (nx j)) by simp[l5],R7 h hn hj];exact h.le st (k.le _ (hn j hj))
  .rw[show l5 f i (now i (f (nx i))) j=f j by simp[l5,e]];exact k.le j hj
 .have hb:=h.le st (i:=j) (aL (nx j) (hn j hj));by_cases e:j=i
  .subst e;rw[show l5 f j (now j (f (nx j))) j=now j (f (nx j)) by simp[l5]];exact hb
  .rw[show l5 f i (now i (f (nx i))) j=f j by simp[l5,e]];exact (k.grow j hj).trans hb
