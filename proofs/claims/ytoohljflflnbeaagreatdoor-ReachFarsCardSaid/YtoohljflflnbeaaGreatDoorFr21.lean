/- Parts. -/
import Derived.Test.YtoohljflflnbeaaGreatDoorFr12
import Derived.Lib.Join
set_option linter.unusedSimpArgs false
set_option linter.unusedVariables false
namespace Go.Proofs.YtoohljflflnbeaaGreatDoor
inductive Ex where
 | iD (b:Bool)
 | bit (s:List UInt8)
 | jA (s:List UInt8)
 | jm (s:List UInt8)
 | not (e:Ex)
 | and (l:List Ex)
 | or (l:List Ex)
inductive Rs (α:Type) where
 | ok (x:α) (i:Nat)
 | err (c:Int) (p q:Nat)
def bx (t:List UInt8) (i:Nat):Nat:=i+((t.drop i).takeWhile fun c=>c == 32).length
theorem M3 {t:List UInt8} {i:Nat} (h:t[i]? = some 32):bx t i=bx t (i+1):=by
 obtain⟨hi,he⟩:=BY.1 h;unfold bx;rw[aj4 hi,he,ak7];simp;omega
theorem zd {t:List UInt8} {i:Nat} (h:t[i]?≠some 32):bx t i=i:=by
 unfold bx;by_cases hi:i < t.length
 .rw[aj4 hi,ak7]
  have:(t[i] == 32)=false:=by
   rw[AT hi]at h;simpa using h
  simp[this]
 .rw[akr aa];simp
theorem D4 (t:List UInt8) (i:Nat):i<=bx t i:=by unfold bx;omega
theorem M4 {t:List UInt8}:∀ (n i:Nat),t.length - i=n->i<=t.length->bx t i<=t.length/\t[bx t i]?≠some 32
 | 0,i,h,hi=>by
  have e:t[i]? = none:=akZ aa;rw[zd (by rw[e];simp)];exact⟨hi,by rw[e];simp⟩
 | n+1,i,h,hi=>by
  by_cases hb:t[i]? = some 32
  .rw[M3 hb];exact M4 n (i+1) aa aa
  .rw[zd hb];exact⟨hi,hb⟩
theorem lI {t:List UInt8} {i:Nat} (h:i<=t.length):bx t i<=t.length:=(M4 _ i rfl h).1
theorem agI {t:List UInt8} {i:Nat} (h:i<=t.length):t[bx t i]?≠some 32:=(M4 _ i rfl h).2
theorem zc {t:List UInt8} {i:Nat} (h:i<=t.length):bx t (bx t i)=bx t i:=zd (agI h)
def eC (t:List UInt8) (c:UInt8) (i:Nat):Bool×Nat:=if t[bx t i]? = some c then (true,bx t i+1) else (false,bx t i)
def mw (c:UInt8):Bool:=[32,38,124,33,94,126,40,41,61].contains c
def r0 (t:List UInt8) (k:Nat):Nat:=k+((t.drop k).takeWhile fun c=>!mw c).length
theorem ahr {t:List UInt8} {k:Nat} (hk:k < t.length) (h:mw t[k]=false):r0 t k=r0 t (k+1):=by
 unfold r0;rw[aj4 hk,ak7,h];simp;omega
theorem ahs {t:List UInt8} {k:Nat} (h:∀ hk:k < t.length,mw t[k]=true):r0 t k=k:=by
 unfold r0;by_cases hk:k < t.length
 .rw[aj4 hk,ak7,h hk];simp
 .rw[akr aa];simp
theorem ahq (t:List UInt8) (k:Nat):k<=r0 t k:=by unfold r0;omega
theorem Nj {α:Type} (p:α->Bool):∀ l:List α,(l.takeWhile p).length<=l.length
 | []=>ak
 | x :: l=>by
  rw[ak7];split
  .simp only[ajP];have:=Nj p l;omega
  .simp
theorem aht {t:List UInt8} {k:Nat} (h:k<=t.length):r0 t k<=t.length:=by
 have:=Nj (fun c=>!mw c) (t.drop k);rw[aj5]at this;unfold r0;omega
def uW (t:List UInt8) (i:Nat):Bool:=match t[i]? with
 | some c=>!mw c && (c != 48 && c != 49)
 | none=>false
def qg (t:List UInt8) (i:Nat):Nat:=if uW t i then r0 t (i+1) else i
theorem Z3 {t:List UInt8} {i:Nat} (h:uW t i=true):i < t.length:=by
 unfold uW at h
 cases hi:t[i]? with
 | none=>rw[hi]at h;cases h
 | some c=>exact (BY.1 hi).1
theorem HJ (t:List UInt8) (i:Nat):i<=qg t i:=by
 unfold qg;split
 .have:=ahq t (i+1);omega
 .omega
theorem Nt {t:List UInt8} {i:Nat} (h:i<=t.length):qg t i<=t.length:=by
 unfold qg;split
 .rename_i hh;exact aht (Z3 hh)
 .exact h
def jk (t:List UInt8) (j:Nat):List UInt8:=(t.drop j).take (qg t j - j)
def fU (t:List UInt8) (q i:Nat):Rs (List UInt8):=
 if jk t (bx t i)=[] then .err 3 (bx t i) q else if jv (jk t (bx t i))=false then .err 5 (bx t i) q else .ok (jk t (bx t i)) (qg t (bx t i))
def Rs.map {α β:Type} (f:α->β):Rs α->Rs β
 | .ok x i=>.ok (f x) i
 | .err c p q=>.err c p q
def iS {α:Type} (t:List UInt8) (sign:UInt8) (f:Nat->Rs α):Nat->Nat->List α->Rs (List α)
 | 0,i,_=>.err 0 i 0
 | n+1,i,acc=>match f i with
  | .err c p _=>.err c p 0
  | .ok x j=>if (eC t sign j).1 then iS t sign f n (eC t sign j).2 (acc ++ [x]) else .ok (acc ++ [x]) (eC t sign j).2
def ur:List Ex->Ex
 | [x]=>x
 | l=>.and l
def uu:List Ex->Ex
 | [x]=>x
 | l=>.or l
def nt (t:List UInt8) (one:Nat->Rs Ex) (i:Nat):Rs Ex:=(iS t 38 one (t.length+1 - i) i []).map ur
def lE (t:List UInt8) (one:Nat->Rs Ex) (i:Nat):Rs Ex:=(iS t 124 (nt t one) (t.length+1 - i) i []).map uu
def cI (t:List UInt8):Nat->Nat->Rs Ex
 | 0,i=>.err 4 (bx t i) 0
 | d+1,i=>
  if t[bx t i]? = some 33 then (match cI t d (bx t i+1)with | .ok x k=>.ok (.not x) k | .err c p _=>.err c p 0)
  else if t[bx t i]? = some 40 then (match lE t (cI t d) (bx t i+1) with
   | .ok x k=>if (eC t 41 k).1 then .ok x (eC t 41 k).2 else .err 3 (eC t 41 k).2 0
   | .err c p _=>.err c p 0)
  else if t[bx t i]? = some 48 then .ok (.iD false) (bx t i+1)
  else if t[bx t i]? = some 49 then .ok (.iD true) (bx t i+1)
  else if t[bx t i]? = some 94 then (fU t 1 (bx t i+1)).map .jA
  else if t[bx t i]? = some 126 then (fU t 2 (bx t i+1)).map .jm
  else (fU t 3 (bx t i)).map .bit
def iZ (t:List UInt8):Option Ex×Option (Int×Option Nat):=
 if 2000 < t.length then (none,some (4,none))
 else match lE t (cI t 20) 0 with
  | .err c p _=>(none,some (c,some p))
  | .ok x i=>if bx t i < t.length then (none,some (3,some (bx t i))) else (some x,none)
def lM {α:Type} (t:List UInt8) (f:Nat->Rs α):Prop:=∀ i x j,i<=t.length->f i = .ok x j->i < j/\j<=t.length
theorem oL {t:List UInt8} {c:UInt8} {i:Nat} (h:i<=t.length):i<=(eC t c i).2/\(eC t c i).2<=t.length/\((eC t c i).1=true->i < (eC t c i).2):=by
 have h1:=D4 t i;have h2:=lI h;unfold eC;split
 .rename_i hc;have:=(BY.1 hc).1;exact⟨by dsimp only;omega,by dsimp only;omega,fun _=>by dsimp only;omega⟩
 .exact⟨h1,h2,fun h=>by cases h⟩
theorem Hw {α:Type} {t:List UInt8} {s:UInt8} {f:Nat->Rs α} (hf:lM t f):∀ (n i:Nat) (acc l:List α) (j:Nat),i<=t.length->iS t s f n i acc = .ok l j->i < j/\j<=t.length
 | 0,i,acc,l,j,_,h=>by simp[iS]at h
 | n+1,i,acc,l,j,hi,h=>by
  rw[iS]at h
  cases cm:f i with
  | err c p q=>rw[cm]at h;cases h
  | ok x k=>
   rw[cm]at h;obtain⟨h1,h2⟩:=hf i x k hi cm;obtain⟨t1,t2,t3⟩:=oL (c:=s) h2;dsimp only at h;split at h
   .have:=Hw hf n _ _ l j t2 h;omega
   .simp only[Rs.ok.injEq]at h;omega
theorem ph {α β:Type} {f:α->β} {r:Rs α} {y:β} {j:Nat} (h:r.map f = .ok y j):∃ x,r = .ok x j/\f x=y:=by
 cases r with
 | ok x i=>simp only[Rs.map,Rs.ok.injEq]at h;exact⟨x,by rw[h.2],h.1⟩
 | err c p q=>cases h
theorem BJ {t:List UInt8} {one:Nat->Rs Ex} (h:lM t one):lM t (nt t one):=fun i x j hi he=>by
 obtain⟨l,h1,_⟩:=ph he;exact Hw h _ _ _ _ _ hi h1
theorem vm {t:List UInt8} {one:Nat->Rs Ex} (h:lM t one):lM t (lE t one):=fun i x j hi he=>by
 obtain⟨l,h1,_⟩:=ph he;exact Hw (BJ h) _ _ _ _ _ hi h1
theorem HR (t:List UInt8) (q:Nat):lM t (fU t q):=fun i s j hi h=>by
 have h1:=D4 t i;have h2:=lI hi;unfold fU at h;split at h
 .cases h
 .rename_i hn;split at h
  .cases h
  .simp only[Rs.ok.injEq]at h;obtain⟨_,rfl⟩:=h;have h3:=Nt h2;have h4:=HJ t (bx t i);refine⟨?_,h3⟩
   rcases Nat.eq_or_lt_of_le h4 with e | e
   .exfalso;apply hn;unfold jk;rw[<- e,Nat.sub_self,List.take_zero]
   .omega
theorem oI (t:List UInt8):∀ d,lM t (cI t d)
 | 0=>fun i x j _ h=>by simp[cI]at h
 | d+1=>fun i x j hi h=>by
  have ih:=oI t d;have h1:=D4 t i;have h2:=lI hi;have hb:∀ {c:UInt8},t[bx t i]? = some c->bx t i < t.length:=fun hc=>(BY.1 hc).1;rw[cI]at h;split at h
  .rename_i hc;have:=hb hc
   cases he:cI t d (bx t i+1) with
   | err c p q=>rw[he]at h;cases h
   | ok y k=>
    rw[he]at h;simp only[Rs.ok.injEq]at h;have:=ih _ y k aa he;omega
  split at h
  .rename_i _ hc;have:=hb hc
   cases he:lE t (cI t d) (bx t i+1) with
   | err c p q=>rw[he]at h;cases h
   | ok y k=>
    rw[he]at h;dsimp only at h;have h3:=vm ih _ y k aa he;obtain⟨t1,t2,t3⟩:=oL (c:=41) h3.2;split at h
    .simp only[Rs.ok.injEq]at h;omega
    .cases h
  split at h
  .rename_i _ _ hc;have:=hb hc;simp only[Rs.ok.injEq]at h;omega
  split at h
  .rename_i _ _ _ hc;have:=hb hc;simp only[Rs.ok.injEq]at h;omega
  split at h
  .rename_i _ _ _ _ hc;have:=hb hc;obtain⟨s,h3,_⟩:=ph h;have:=HR t 1 _ s j aa h3;omega
  split at h
  .rename_i _ _ _ _ _ hc;have:=hb hc;obtain⟨s,h3,_⟩:=ph h;have:=HR t 2 _ s j aa h3;omega
  .obtain⟨s,h3,_⟩:=ph h;have:=HR t 3 _ s j h2 h3;omega
