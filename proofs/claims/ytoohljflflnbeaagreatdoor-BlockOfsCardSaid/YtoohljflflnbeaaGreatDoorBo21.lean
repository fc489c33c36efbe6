/- Parts. -/
import Derived.Test.YtoohljflflnbeaaGreatDoorBo12
import Derived.Lib.Join
set_option linter.unusedSimpArgs false
set_option linter.unusedVariables false
namespace Go.Proofs.YtoohljflflnbeaaGreatDoor
inductive Ex where
 | gU (b:Bool)
 | bit (s:List UInt8)
 | jk (s:List UInt8)
 | ja (s:List UInt8)
 | not (e:Ex)
 | and (l:List Ex)
 | or (l:List Ex)
inductive Rs (α:Type) where
 | ok (x:α) (i:Nat)
 | err (c:Int) (p q:Nat)
def bw (t:List UInt8) (i:Nat):Nat:=i+((t.drop i).takeWhile fun c=>c == 32).length
theorem Ky {t:List UInt8} {i:Nat} (h:t[i]? = some 32):bw t i=bw t (i+1):=by
 obtain⟨hi,he⟩:=BY.1 h;unfold bw;rw[agR hi,he,ah0];simp;omega
theorem x4 {t:List UInt8} {i:Nat} (h:t[i]?≠some 32):bw t i=i:=by
 unfold bw;by_cases hi:i < t.length
 .rw[agR hi,ah0]
  have:(t[i] == 32)=false:=by
   rw[By hi]at h;simpa using h
  simp[this]
 .rw[ahe aa];simp
theorem CL (t:List UInt8) (i:Nat):i<=bw t i:=by unfold bw;omega
theorem Kz {t:List UInt8}:∀ (n i:Nat),t.length - i=n->i<=t.length->bw t i<=t.length/\t[bw t i]?≠some 32
 | 0,i,h,hi=>by
  have e:t[i]? = none:=ahN aa;rw[x4 (by rw[e];simp)];exact⟨hi,by rw[e];simp⟩
 | n+1,i,h,hi=>by
  by_cases hb:t[i]? = some 32
  .rw[Ky hb];exact Kz n (i+1) aa aa
  .rw[x4 hb];exact⟨hi,hb⟩
theorem lx {t:List UInt8} {i:Nat} (h:i<=t.length):bw t i<=t.length:=(Kz _ i rfl h).1
theorem adN {t:List UInt8} {i:Nat} (h:i<=t.length):t[bw t i]?≠some 32:=(Kz _ i rfl h).2
theorem x3 {t:List UInt8} {i:Nat} (h:i<=t.length):bw t (bw t i)=bw t i:=x4 (adN h)
def eD (t:List UInt8) (c:UInt8) (i:Nat):Bool×Nat:=if t[bw t i]? = some c then (true,bw t i+1) else (false,bw t i)
def l9 (c:UInt8):Bool:=[32,38,124,33,94,126,40,41,61].contains c
def qW (t:List UInt8) (k:Nat):Nat:=k+((t.drop k).takeWhile fun c=>!l9 c).length
theorem aem {t:List UInt8} {k:Nat} (hk:k < t.length) (h:l9 t[k]=false):qW t k=qW t (k+1):=by
 unfold qW;rw[agR hk,ah0,h];simp;omega
theorem aen {t:List UInt8} {k:Nat} (h:∀ hk:k < t.length,l9 t[k]=true):qW t k=k:=by
 unfold qW;by_cases hk:k < t.length
 .rw[agR hk,ah0,h hk];simp
 .rw[ahe aa];simp
theorem ael (t:List UInt8) (k:Nat):k<=qW t k:=by unfold qW;omega
theorem KJ {α:Type} (p:α->Bool):∀ l:List α,(l.takeWhile p).length<=l.length
 | []=>ak
 | x :: l=>by
  rw[ah0];split
  .simp only[agS];have:=KJ p l;omega
  .simp
theorem aeo {t:List UInt8} {k:Nat} (h:k<=t.length):qW t k<=t.length:=by
 have:=KJ (fun c=>!l9 c) (t.drop k);rw[agX]at this;unfold qW;omega
def tN (t:List UInt8) (i:Nat):Bool:=match t[i]? with
 | some c=>!l9 c && (c != 48 && c != 49)
 | none=>false
def pL (t:List UInt8) (i:Nat):Nat:=if tN t i then qW t (i+1) else i
theorem Yx {t:List UInt8} {i:Nat} (h:tN t i=true):i < t.length:=by
 unfold tN at h
 cases hi:t[i]? with
 | none=>rw[hi]at h;cases h
 | some c=>exact (BY.1 hi).1
theorem F1 (t:List UInt8) (i:Nat):i<=pL t i:=by
 unfold pL;split
 .have:=ael t (i+1);omega
 .omega
theorem KT {t:List UInt8} {i:Nat} (h:i<=t.length):pL t i<=t.length:=by
 unfold pL;split
 .rename_i hh;exact aeo (Yx hh)
 .exact h
def iY (t:List UInt8) (j:Nat):List UInt8:=(t.drop j).take (pL t j - j)
def fK (t:List UInt8) (q i:Nat):Rs (List UInt8):=
 if iY t (bw t i)=[] then .err 3 (bw t i) q else if jg (iY t (bw t i))=false then .err 5 (bw t i) q else .ok (iY t (bw t i)) (pL t (bw t i))
def Rs.map {α β:Type} (f:α->β):Rs α->Rs β
 | .ok x i=>.ok (f x) i
 | .err c p q=>.err c p q
def iu {α:Type} (t:List UInt8) (sign:UInt8) (f:Nat->Rs α):Nat->Nat->List α->Rs (List α)
 | 0,i,_=>.err 0 i 0
 | n+1,i,acc=>match f i with
  | .err c p _=>.err c p 0
  | .ok x j=>if (eD t sign j).1 then iu t sign f n (eD t sign j).2 (acc ++ [x]) else .ok (acc ++ [x]) (eD t sign j).2
def sZ:List Ex->Ex
 | [x]=>x
 | l=>.and l
def s3:List Ex->Ex
 | [x]=>x
 | l=>.or l
def mW (t:List UInt8) (one:Nat->Rs Ex) (i:Nat):Rs Ex:=(iu t 38 one (t.length+1 - i) i []).map sZ
def lr (t:List UInt8) (one:Nat->Rs Ex) (i:Nat):Rs Ex:=(iu t 124 (mW t one) (t.length+1 - i) i []).map s3
def cD (t:List UInt8):Nat->Nat->Rs Ex
 | 0,i=>.err 4 (bw t i) 0
 | d+1,i=>
  if t[bw t i]? = some 33 then (match cD t d (bw t i+1)with | .ok x k=>.ok (.not x) k | .err c p _=>.err c p 0)
  else if t[bw t i]? = some 40 then (match lr t (cD t d) (bw t i+1) with
   | .ok x k=>if (eD t 41 k).1 then .ok x (eD t 41 k).2 else .err 3 (eD t 41 k).2 0
   | .err c p _=>.err c p 0)
  else if t[bw t i]? = some 48 then .ok (.gU false) (bw t i+1)
  else if t[bw t i]? = some 49 then .ok (.gU true) (bw t i+1)
  else if t[bw t i]? = some 94 then (fK t 1 (bw t i+1)).map .jk
  else if t[bw t i]? = some 126 then (fK t 2 (bw t i+1)).map .ja
  else (fK t 3 (bw t i)).map .bit
def iH (t:List UInt8):Option Ex×Option (Int×Option Nat):=
 if 2000 < t.length then (none,some (4,none))
 else match lr t (cD t 20) 0 with
  | .err c p _=>(none,some (c,some p))
  | .ok x i=>if bw t i < t.length then (none,some (3,some (bw t i))) else (some x,none)
def lB {α:Type} (t:List UInt8) (f:Nat->Rs α):Prop:=∀ i x j,i<=t.length->f i = .ok x j->i < j/\j<=t.length
theorem oh {t:List UInt8} {c:UInt8} {i:Nat} (h:i<=t.length):i<=(eD t c i).2/\(eD t c i).2<=t.length/\((eD t c i).1=true->i < (eD t c i).2):=by
 have h1:=CL t i;have h2:=lx h;unfold eD;split
 .rename_i hc;have:=(BY.1 hc).1;exact⟨by dsimp only;omega,by dsimp only;omega,fun _=>by dsimp only;omega⟩
 .exact⟨h1,h2,fun h=>by cases h⟩
theorem FM {α:Type} {t:List UInt8} {s:UInt8} {f:Nat->Rs α} (hf:lB t f):∀ (n i:Nat) (acc l:List α) (j:Nat),i<=t.length->iu t s f n i acc = .ok l j->i < j/\j<=t.length
 | 0,i,acc,l,j,_,h=>by simp[iu]at h
 | n+1,i,acc,l,j,hi,h=>by
  rw[iu]at h
  cases b8:f i with
  | err c p q=>rw[b8]at h;cases h
  | ok x k=>
   rw[b8]at h;obtain⟨h1,h2⟩:=hf i x k hi b8;obtain⟨t1,t2,t3⟩:=oh (c:=s) h2;dsimp only at h;split at h
   .have:=FM hf n _ _ l j t2 h;omega
   .simp only[Rs.ok.injEq]at h;omega
theorem oW {α β:Type} {f:α->β} {r:Rs α} {y:β} {j:Nat} (h:r.map f = .ok y j):∃ x,r = .ok x j/\f x=y:=by
 cases r with
 | ok x i=>simp only[Rs.map,Rs.ok.injEq]at h;exact⟨x,by rw[h.2],h.1⟩
 | err c p q=>cases h
theorem Al {t:List UInt8} {one:Nat->Rs Ex} (h:lB t one):lB t (mW t one):=fun i x j hi he=>by
 obtain⟨l,h1,_⟩:=oW he;exact FM h _ _ _ _ _ hi h1
theorem ur {t:List UInt8} {one:Nat->Rs Ex} (h:lB t one):lB t (lr t one):=fun i x j hi he=>by
 obtain⟨l,h1,_⟩:=oW he;exact FM (Al h) _ _ _ _ _ hi h1
theorem F5 (t:List UInt8) (q:Nat):lB t (fK t q):=fun i s j hi h=>by
 have h1:=CL t i;have h2:=lx hi;unfold fK at h;split at h
 .cases h
 .rename_i hn;split at h
  .cases h
  .simp only[Rs.ok.injEq]at h;obtain⟨_,rfl⟩:=h;have h3:=KT h2;have h4:=F1 t (bw t i);refine⟨?_,h3⟩
   rcases Nat.eq_or_lt_of_le h4 with e | e
   .exfalso;apply hn;unfold iY;rw[<- e,Nat.sub_self,List.take_zero]
   .omega
theorem n9 (t:List UInt8):∀ d,lB t (cD t d)
 | 0=>fun i x j _ h=>by simp[cD]at h
 | d+1=>fun i x j hi h=>by
  have ih:=n9 t d;have h1:=CL t i;have h2:=lx hi;have hb:∀ {c:UInt8},t[bw t i]? = some c->bw t i < t.length:=fun hc=>(BY.1 hc).1;rw[cD]at h;split at h
  .rename_i hc;have:=hb hc
   cases he:cD t d (bw t i+1) with
   | err c p q=>rw[he]at h;cases h
   | ok y k=>
    rw[he]at h;simp only[Rs.ok.injEq]at h;have:=ih _ y k aa he;omega
  split at h
  .rename_i _ hc;have:=hb hc
   cases he:lr t (cD t d) (bw t i+1) with
   | err c p q=>rw[he]at h;cases h
   | ok y k=>
    rw[he]at h;dsimp only at h;have h3:=ur ih _ y k aa he;obtain⟨t1,t2,t3⟩:=oh (c:=41) h3.2;split at h
    .simp only[Rs.ok.injEq]at h;omega
    .cases h
  split at h
  .rename_i _ _ hc;have:=hb hc;simp only[Rs.ok.injEq]at h;omega
  split at h
  .rename_i _ _ _ hc;have:=hb hc;simp only[Rs.ok.injEq]at h;omega
  split at h
  .rename_i _ _ _ _ hc;have:=hb hc;obtain⟨s,h3,_⟩:=oW h;have:=F5 t 1 _ s j aa h3;omega
  split at h
  .rename_i _ _ _ _ _ hc;have:=hb hc;obtain⟨s,h3,_⟩:=oW h;have:=F5 t 2 _ s j aa h3;omega
  .obtain⟨s,h3,_⟩:=oW h;have:=F5 t 3 _ s j h2 h3;omega
