/- Parts. -/
import Derived.Test.YtdigkhaofjmgkaaGreatDoorMs12
import Derived.Lib.Join
set_option linter.unusedSimpArgs false
set_option linter.unusedVariables false
namespace Go.Proofs.YtdigkhaofjmgkaaGreatDoor
inductive Ex where
 | cst (b:Bool)
 | bit (s:List UInt8)
 | abP (s:List UInt8)
 | fS (s:List UInt8)
 | not (e:Ex)
 | and (l:List Ex)
 | or (l:List Ex)
inductive Rs (α:Type) where
 | ok (x:α) (i:Nat)
 | err (c:Int) (p q:Nat)
def aaD (t:List UInt8) (i:Nat):Nat:=i+((t.drop i).takeWhile fun c=>c == 32).length
theorem EK {t:List UInt8} {i:Nat} (h:t[i]? = some 32):aaD t i=aaD t (i+1):=by
 obtain⟨hi,he⟩:=List.getElem?_eq_some_iff.1 h;unfold aaD;rw[List.drop_eq_getElem_cons hi,he,List.takeWhile_cons];simp;omega
theorem sO {t:List UInt8} {i:Nat} (h:t[i]?≠some 32):aaD t i=i:=by
 unfold aaD;by_cases hi:i < t.length
 .rw[List.drop_eq_getElem_cons hi,List.takeWhile_cons]
  have:(t[i] == 32)=false:=by
   rw[List.getElem?_eq_getElem hi]at h;simpa using h
  simp[this]
 .rw[List.drop_eq_nil_of_le (by omega)];simp
theorem xu (t:List UInt8) (i:Nat):i<=aaD t i:=by unfold aaD;omega
theorem EL {t:List UInt8}:∀ (n i:Nat),t.length - i=n->i<=t.length->aaD t i<=t.length/\t[aaD t i]?≠some 32
 | 0,i,h,hi=>by
  have e:t[i]? = none:=List.getElem?_eq_none (by omega);rw[sO (by rw[e];simp)];exact⟨hi,by rw[e];simp⟩
 | n+1,i,h,hi=>by
  by_cases hb:t[i]? = some 32
  .rw[EK hb];exact EL n (i+1) (by omega) (by omega)
  .rw[sO hb];exact⟨hi,hb⟩
theorem acL {t:List UInt8} {i:Nat} (h:i<=t.length):aaD t i<=t.length:=(EL _ i rfl h).1
theorem Xg {t:List UInt8} {i:Nat} (h:i<=t.length):t[aaD t i]?≠some 32:=(EL _ i rfl h).2
theorem sN {t:List UInt8} {i:Nat} (h:i<=t.length):aaD t (aaD t i)=aaD t i:=sO (Xg h)
def cU (t:List UInt8) (c:UInt8) (i:Nat):Bool×Nat:=if t[aaD t i]? = some c then (true,aaD t i+1) else (false,aaD t i)
def jb (c:UInt8):Bool:=[32,38,124,33,94,126,40,41,61].contains c
def mF (t:List UInt8) (k:Nat):Nat:=k+((t.drop k).takeWhile fun c=>!jb c).length
theorem XQ {t:List UInt8} {k:Nat} (hk:k < t.length) (h:jb t[k]=false):mF t k=mF t (k+1):=by
 unfold mF;rw[List.drop_eq_getElem_cons hk,List.takeWhile_cons,h];simp;omega
theorem XR {t:List UInt8} {k:Nat} (h:∀ hk:k < t.length,jb t[k]=true):mF t k=k:=by
 unfold mF;by_cases hk:k < t.length
 .rw[List.drop_eq_getElem_cons hk,List.takeWhile_cons,h hk];simp
 .rw[List.drop_eq_nil_of_le (by omega)];simp
theorem XP (t:List UInt8) (k:Nat):k<=mF t k:=by unfold mF;omega
theorem EV {α:Type} (p:α->Bool):∀ l:List α,(l.takeWhile p).length<=l.length
 | []=>by simp
 | x :: l=>by
  rw[List.takeWhile_cons];split
  .simp only[List.length_cons];have:=EV p l;omega
  .simp
theorem XS {t:List UInt8} {k:Nat} (h:k<=t.length):mF t k<=t.length:=by
 have:=EV (fun c=>!jb c) (t.drop k);rw[List.length_drop]at this;unfold mF;omega
def o0 (t:List UInt8) (i:Nat):Bool:=match t[i]? with
 | some c=>!jb c && (c != 48 && c != 49)
 | none=>false
def lB (t:List UInt8) (i:Nat):Nat:=if o0 t i then mF t (i+1) else i
theorem Qd {t:List UInt8} {i:Nat} (h:o0 t i=true):i < t.length:=by
 unfold o0 at h
 cases hi:t[i]? with
 | none=>rw[hi]at h;cases h
 | some c=>exact (List.getElem?_eq_some_iff.1 hi).1
theorem As (t:List UInt8) (i:Nat):i<=lB t i:=by
 unfold lB;split
 .have:=XP t (i+1);omega
 .omega
theorem E3 {t:List UInt8} {i:Nat} (h:i<=t.length):lB t i<=t.length:=by
 unfold lB;split
 .rename_i hh;exact XS (Qd hh)
 .exact h
def fR (t:List UInt8) (j:Nat):List UInt8:=(t.drop j).take (lB t j - j)
def abq (t:List UInt8) (q i:Nat):Rs (List UInt8):=
 if fR t (aaD t i)=[] then .err 3 (aaD t i) q else if gb (fR t (aaD t i))=false then .err 5 (aaD t i) q else .ok (fR t (aaD t i)) (lB t (aaD t i))
def Rs.map {α β:Type} (f:α->β):Rs α->Rs β
 | .ok x i=>.ok (f x) i
 | .err c p q=>.err c p q
def abO {α:Type} (t:List UInt8) (sign:UInt8) (f:Nat->Rs α):Nat->Nat->List α->Rs (List α)
 | 0,i,_=>.err 0 i 0
 | n+1,i,acc=>match f i with
  | .err c p _=>.err c p 0
  | .ok x j=>if (cU t sign j).1 then abO t sign f n (cU t sign j).2 (acc ++ [x]) else .ok (acc ++ [x]) (cU t sign j).2
def adT:List Ex->Ex
 | [x]=>x
 | l=>.and l
def oA:List Ex->Ex
 | [x]=>x
 | l=>.or l
def jE (t:List UInt8) (one:Nat->Rs Ex) (i:Nat):Rs Ex:=(abO t 38 one (t.length+1 - i) i []).map adT
def ic (t:List UInt8) (one:Nat->Rs Ex) (i:Nat):Rs Ex:=(abO t 124 (jE t one) (t.length+1 - i) i []).map oA
def bT (t:List UInt8):Nat->Nat->Rs Ex
 | 0,i=>.err 4 (aaD t i) 0
 | d+1,i=>
  if t[aaD t i]? = some 33 then (match bT t d (aaD t i+1)with | .ok x k=>.ok (.not x) k | .err c p _=>.err c p 0)
  else if t[aaD t i]? = some 40 then (match ic t (bT t d) (aaD t i+1) with
   | .ok x k=>if (cU t 41 k).1 then .ok x (cU t 41 k).2 else .err 3 (cU t 41 k).2 0
   | .err c p _=>.err c p 0)
  else if t[aaD t i]? = some 48 then .ok (.cst false) (aaD t i+1)
  else if t[aaD t i]? = some 49 then .ok (.cst true) (aaD t i+1)
  else if t[aaD t i]? = some 94 then (abq t 1 (aaD t i+1)).map .abP
  else if t[aaD t i]? = some 126 then (abq t 2 (aaD t i+1)).map .fS
  else (abq t 3 (aaD t i)).map .bit
def fF (t:List UInt8):Option Ex×Option (Int×Option Nat):=
 if 2000 < t.length then (none,some (4,none))
 else match ic t (bT t 20) 0 with
  | .err c p _=>(none,some (c,some p))
  | .ok x i=>if aaD t i < t.length then (none,some (3,some (aaD t i))) else (some x,none)
def il {α:Type} (t:List UInt8) (f:Nat->Rs α):Prop:=∀ i x j,i<=t.length->f i = .ok x j->i < j/\j<=t.length
theorem acY {t:List UInt8} {c:UInt8} {i:Nat} (h:i<=t.length):i<=(cU t c i).2/\(cU t c i).2<=t.length/\((cU t c i).1=true->i < (cU t c i).2):=by
 have h1:=xu t i;have h2:=acL h;unfold cU;split
 .rename_i hc;have:=(List.getElem?_eq_some_iff.1 hc).1;exact⟨by dsimp only;omega,by dsimp only;omega,fun _=>by dsimp only;omega⟩
 .exact⟨h1,h2,fun h=>by cases h⟩
theorem Ag {α:Type} {t:List UInt8} {s:UInt8} {f:Nat->Rs α} (hf:il t f):∀ (n i:Nat) (acc l:List α) (j:Nat),i<=t.length->abO t s f n i acc = .ok l j->i < j/\j<=t.length
 | 0,i,acc,l,j,_,h=>by simp[abO]at h
 | n+1,i,acc,l,j,hi,h=>by
  rw[abO]at h
  cases bz:f i with
  | err c p q=>rw[bz]at h;cases h
  | ok x k=>
   rw[bz]at h;obtain⟨h1,h2⟩:=hf i x k hi bz;obtain⟨t1,t2,t3⟩:=acY (c:=s) h2;dsimp only at h;split at h
   .have:=Ag hf n _ _ l j t2 h;omega
   .simp only[Rs.ok.injEq]at h;omega
theorem kS {α β:Type} {f:α->β} {r:Rs α} {y:β} {j:Nat} (h:r.map f = .ok y j):∃ x,r = .ok x j/\f x=y:=by
 cases r with
 | ok x i=>simp only[Rs.map,Rs.ok.injEq]at h;exact⟨x,by rw[h.2],h.1⟩
 | err c p q=>cases h
theorem vg {t:List UInt8} {one:Nat->Rs Ex} (h:il t one):il t (jE t one):=fun i x j hi he=>by
 obtain⟨l,h1,_⟩:=kS he;exact Ag h _ _ _ _ _ hi h1
theorem adZ {t:List UInt8} {one:Nat->Rs Ex} (h:il t one):il t (ic t one):=fun i x j hi he=>by
 obtain⟨l,h1,_⟩:=kS he;exact Ag (vg h) _ _ _ _ _ hi h1
theorem Ax (t:List UInt8) (q:Nat):il t (abq t q):=fun i s j hi h=>by
 have h1:=xu t i;have h2:=acL hi;unfold abq at h;split at h
 .cases h
 .rename_i hn;split at h
  .cases h
  .simp only[Rs.ok.injEq]at h;obtain⟨_,rfl⟩:=h;have h3:=E3 h2;have h4:=As t (aaD t i);refine⟨?_,h3⟩
   rcases Nat.eq_or_lt_of_le h4 with e | e
   .exfalso;apply hn;unfold fR;rw[<- e,Nat.sub_self,List.take_zero]
   .omega
theorem acX (t:List UInt8):∀ d,il t (bT t d)
 | 0=>fun i x j _ h=>by simp[bT]at h
 | d+1=>fun i x j hi h=>by
  have ih:=acX t d;have h1:=xu t i;have h2:=acL hi;have hb:∀ {c:UInt8},t[aaD t i]? = some c->aaD t i < t.length:=fun hc=>(List.getElem?_eq_some_iff.1 hc).1;rw[bT]at h;split at h
  .rename_i hc;have:=hb hc
   cases he:bT t d (aaD t i+1) with
   | err c p q=>rw[he]at h;cases h
   | ok y k=>
    rw[he]at h;simp only[Rs.ok.injEq]at h;have:=ih _ y k (by omega) he;omega
  split at h
  .rename_i _ hc;have:=hb hc
   cases he:ic t (bT t d) (aaD t i+1) with
   | err c p q=>rw[he]at h;cases h
   | ok y k=>
    rw[he]at h;dsimp only at h;have h3:=adZ ih _ y k (by omega) he;obtain⟨t1,t2,t3⟩:=acY (c:=41) h3.2;split at h
    .simp only[Rs.ok.injEq]at h;omega
    .cases h
  split at h
  .rename_i _ _ hc;have:=hb hc;simp only[Rs.ok.injEq]at h;omega
  split at h
  .rename_i _ _ _ hc;have:=hb hc;simp only[Rs.ok.injEq]at h;omega
  split at h
  .rename_i _ _ _ _ hc;have:=hb hc;obtain⟨s,h3,_⟩:=kS h;have:=Ax t 1 _ s j (by omega) h3;omega
  split at h
  .rename_i _ _ _ _ _ hc;have:=hb hc;obtain⟨s,h3,_⟩:=kS h;have:=Ax t 2 _ s j (by omega) h3;omega
  .obtain⟨s,h3,_⟩:=kS h;have:=Ax t 3 _ s j h2 h3;omega
