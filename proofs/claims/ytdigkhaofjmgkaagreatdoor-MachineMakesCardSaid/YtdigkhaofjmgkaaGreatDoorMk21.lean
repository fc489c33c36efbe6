/-
  Texts that belong together,in one file: X1.
-/
import Derived.Test.YtdigkhaofjmgkaaGreatDoorMk12
import Derived.Lib.Join
set_option linter.unusedSimpArgs false
set_option linter.unusedVariables false
namespace Go.Proofs.YtdigkhaofjmgkaaGreatDoor
inductive Ex where
 | eV (b:Bool)
 | bit (s:List UInt8)
 | fQ (s:List UInt8)
 | fC (s:List UInt8)
 | not (e:Ex)
 | and (l:List Ex)
 | or (l:List Ex)
inductive Rs (α:Type) where
 | ok (x:α) (i:Nat)
 | err (c:Int) (p q:Nat)
def aW (t:List UInt8) (i:Nat):Nat:=i+((t.drop i).takeWhile fun c=>c == 32).length
theorem EF {t:List UInt8} {i:Nat} (h:t[i]? = some 32):aW t i=aW t (i+1):=by
 obtain ⟨hi,he⟩:=List.getElem?_eq_some_iff.1 h;unfold aW;rw [List.drop_eq_getElem_cons hi,he,List.takeWhile_cons];simp;omega
theorem r0 {t:List UInt8} {i:Nat} (h:t[i]?≠some 32):aW t i=i:=by
 unfold aW;by_cases hi:i < t.length
 .rw [List.drop_eq_getElem_cons hi,List.takeWhile_cons]
  have:(t[i] == 32)=false:=by
   rw [List.getElem?_eq_getElem hi] at h;simpa using h
  simp [this]
 .rw [List.drop_eq_nil_of_le (by omega)];simp
theorem aes (t:List UInt8) (i:Nat):i<=aW t i:=by unfold aW;omega
theorem EG {t:List UInt8}:∀ (n i:Nat),t.length - i=n->i<=t.length->aW t i<=t.length/\t[aW t i]?≠some 32
 | 0,i,h,hi=>by
  have e:t[i]? = none:=List.getElem?_eq_none (by omega);rw [r0 (by rw [e];simp)];exact ⟨hi,by rw [e];simp⟩
 | n+1,i,h,hi=>by
  by_cases hb:t[i]? = some 32
  .rw [EF hb];exact EG n (i+1) (by omega) (by omega)
  .rw [r0 hb];exact ⟨hi,hb⟩
theorem abX {t:List UInt8} {i:Nat} (h:i<=t.length):aW t i<=t.length:=(EG _ i rfl h).1
theorem WC {t:List UInt8} {i:Nat} (h:i<=t.length):t[aW t i]?≠some 32:=(EG _ i rfl h).2
theorem rZ {t:List UInt8} {i:Nat} (h:i<=t.length):aW t (aW t i)=aW t i:=r0 (WC h)
def cJ (t:List UInt8) (c:UInt8) (i:Nat):Bool×Nat:=if t[aW t i]? = some c then (true,aW t i+1) else (false,aW t i)
def iI (c:UInt8):Bool:=[32,38,124,33,94,126,40,41,61].contains c
def ma (t:List UInt8) (k:Nat):Nat:=k+((t.drop k).takeWhile fun c=>!iI c).length
theorem Xe {t:List UInt8} {k:Nat} (hk:k < t.length) (h:iI t[k]=false):ma t k=ma t (k+1):=by
 unfold ma;rw [List.drop_eq_getElem_cons hk,List.takeWhile_cons,h];simp;omega
theorem Xf {t:List UInt8} {k:Nat} (h:∀ hk:k < t.length,iI t[k]=true):ma t k=k:=by
 unfold ma;by_cases hk:k < t.length
 .rw [List.drop_eq_getElem_cons hk,List.takeWhile_cons,h hk];simp
 .rw [List.drop_eq_nil_of_le (by omega)];simp
theorem Xd (t:List UInt8) (k:Nat):k<=ma t k:=by unfold ma;omega
theorem ER {α:Type} (p:α->Bool):∀ l:List α,(l.takeWhile p).length<=l.length
 | []=>by simp
 | x :: l=>by
  rw [List.takeWhile_cons];split
  .simp only [List.length_cons];have:=ER p l;omega
  .simp
theorem Xg {t:List UInt8} {k:Nat} (h:k<=t.length):ma t k<=t.length:=by
 have:=ER (fun c=>!iI c) (t.drop k);rw [List.length_drop] at this;unfold ma;omega
def adi (t:List UInt8) (i:Nat):Bool:=match t[i]? with
 | some c=>!iI c && (c != 48 && c != 49)
 | none=>false
def acy (t:List UInt8) (i:Nat):Nat:=if adi t i then ma t (i+1) else i
theorem PQ {t:List UInt8} {i:Nat} (h:adi t i=true):i < t.length:=by
 unfold adi at h
 cases hi:t[i]? with
 | none=>rw [hi] at h;cases h
 | some c=>exact (List.getElem?_eq_some_iff.1 hi).1
theorem Ah (t:List UInt8) (i:Nat):i<=acy t i:=by
 unfold acy;split
 .have:=Xd t (i+1);omega
 .omega
theorem EZ {t:List UInt8} {i:Nat} (h:i<=t.length):acy t i<=t.length:=by
 unfold acy;split
 .rename_i hh;exact Xg (PQ hh)
 .exact h
def fB (t:List UInt8) (j:Nat):List UInt8:=(t.drop j).take (acy t j - j)
def aaO (t:List UInt8) (q i:Nat):Rs (List UInt8):=
 if fB t (aW t i)=[] then .err 3 (aW t i) q else if fL (fB t (aW t i))=false then .err 5 (aW t i) q else .ok (fB t (aW t i)) (acy t (aW t i))
def Rs.map {α β:Type} (f:α->β):Rs α->Rs β
 | .ok x i=>.ok (f x) i
 | .err c p q=>.err c p q
def fc {α:Type} (t:List UInt8) (sign:UInt8) (f:Nat->Rs α):Nat->Nat->List α->Rs (List α)
 | 0,i,_=>.err 0 i 0
 | n+1,i,acc=>match f i with
  | .err c p _=>.err c p 0
  | .ok x j=>if (cJ t sign j).1 then fc t sign f n (cJ t sign j).2 (acc ++ [x]) else .ok (acc ++ [x]) (cJ t sign j).2
def ac4:List Ex->Ex
 | [x]=>x
 | l=>.and l
def ac5:List Ex->Ex
 | [x]=>x
 | l=>.or l
def jo (t:List UInt8) (one:Nat->Rs Ex) (i:Nat):Rs Ex:=(fc t 38 one (t.length+1 - i) i []).map ac4
def orR (t:List UInt8) (one:Nat->Rs Ex) (i:Nat):Rs Ex:=(fc t 124 (jo t one) (t.length+1 - i) i []).map ac5
def aae (t:List UInt8):Nat->Nat->Rs Ex
 | 0,i=>.err 4 (aW t i) 0
 | d+1,i=>
  if t[aW t i]? = some 33 then (match aae t d (aW t i+1) with | .ok x k=>.ok (.not x) k | .err c p _=>.err c p 0)
  else if t[aW t i]? = some 40 then (match orR t (aae t d) (aW t i+1) with
   | .ok x k=>if (cJ t 41 k).1 then .ok x (cJ t 41 k).2 else .err 3 (cJ t 41 k).2 0
   | .err c p _=>.err c p 0)
  else if t[aW t i]? = some 48 then .ok (.eV false) (aW t i+1)
  else if t[aW t i]? = some 49 then .ok (.eV true) (aW t i+1)
  else if t[aW t i]? = some 94 then (aaO t 1 (aW t i+1)).map .fQ
  else if t[aW t i]? = some 126 then (aaO t 2 (aW t i+1)).map .fC
  else (aaO t 3 (aW t i)).map .bit
def aba (t:List UInt8):Option Ex×Option (Int×Option Nat):=
 if 2000 < t.length then (none,some (4,none))
 else match orR t (aae t 20) 0 with
  | .err c p _=>(none,some (c,some p))
  | .ok x i=>if aW t i < t.length then (none,some (3,some (aW t i))) else (some x,none)
def abZ {α:Type} (t:List UInt8) (f:Nat->Rs α):Prop:=∀ i x j,i<=t.length->f i = .ok x j->i < j/\j<=t.length
theorem j7 {t:List UInt8} {c:UInt8} {i:Nat} (h:i<=t.length):i<=(cJ t c i).2/\(cJ t c i).2<=t.length/\((cJ t c i).1=true->i < (cJ t c i).2):=by
 have h1:=aes t i;have h2:=abX h;unfold cJ;split
 .rename_i hc;have:=(List.getElem?_eq_some_iff.1 hc).1;exact ⟨by dsimp only;omega,by dsimp only;omega,fun _=>by dsimp only;omega⟩
 .exact ⟨h1,h2,fun h=>by cases h⟩
theorem zZ {α:Type} {t:List UInt8} {s:UInt8} {f:Nat->Rs α} (hf:abZ t f):∀ (n i:Nat) (acc l:List α) (j:Nat),i<=t.length->fc t s f n i acc = .ok l j->i < j/\j<=t.length
 | 0,i,acc,l,j,_,h=>by simp [fc] at h
 | n+1,i,acc,l,j,hi,h=>by
  rw [fc] at h
  cases bu:f i with
  | err c p q=>rw [bu] at h;cases h
  | ok x k=>
   rw [bu] at h;obtain ⟨h1,h2⟩:=hf i x k hi bu;obtain ⟨t1,t2,t3⟩:=j7 (c:=s) h2;dsimp only at h;split at h
   .have:=zZ hf n _ _ l j t2 h;omega
   .simp only [Rs.ok.injEq] at h;omega
theorem acp {α β:Type} {f:α->β} {r:Rs α} {y:β} {j:Nat} (h:r.map f = .ok y j):∃ x,r = .ok x j/\f x=y:=by
 cases r with
 | ok x i=>simp only [Rs.map,Rs.ok.injEq] at h;exact ⟨x,by rw [h.2],h.1⟩
 | err c p q=>cases h
theorem aec {t:List UInt8} {one:Nat->Rs Ex} (h:abZ t one):abZ t (jo t one):=fun i x j hi he=>by
 obtain ⟨l,h1,_⟩:=acp he;exact zZ h _ _ _ _ _ hi h1
theorem oV {t:List UInt8} {one:Nat->Rs Ex} (h:abZ t one):abZ t (orR t one):=fun i x j hi he=>by
 obtain ⟨l,h1,_⟩:=acp he;exact zZ (aec h) _ _ _ _ _ hi h1
theorem Al (t:List UInt8) (q:Nat):abZ t (aaO t q):=fun i s j hi h=>by
 have h1:=aes t i;have h2:=abX hi;unfold aaO at h;split at h
 .cases h
 .rename_i hn;split at h
  .cases h
  .simp only [Rs.ok.injEq] at h;obtain ⟨_,rfl⟩:=h;have h3:=EZ h2;have h4:=Ah t (aW t i);refine ⟨?_,h3⟩
   rcases Nat.eq_or_lt_of_le h4 with e | e
   .exfalso;apply hn;unfold fB;rw [<- e,Nat.sub_self,List.take_zero]
   .omega
theorem j5 (t:List UInt8):∀ d,abZ t (aae t d)
 | 0=>fun i x j _ h=>by simp [aae] at h
 | d+1=>fun i x j hi h=>by
  have ih:=j5 t d;have h1:=aes t i;have h2:=abX hi;have hb:∀ {c:UInt8},t[aW t i]? = some c->aW t i < t.length:=fun hc=>(List.getElem?_eq_some_iff.1 hc).1;rw [aae] at h;split at h
  .rename_i hc;have:=hb hc
   cases he:aae t d (aW t i+1) with
   | err c p q=>rw [he] at h;cases h
   | ok y k=>
    rw [he] at h;simp only [Rs.ok.injEq] at h;have:=ih _ y k (by omega) he;omega
  split at h
  .rename_i _ hc;have:=hb hc
   cases he:orR t (aae t d) (aW t i+1) with
   | err c p q=>rw [he] at h;cases h
   | ok y k=>
    rw [he] at h;dsimp only at h;have h3:=oV ih _ y k (by omega) he;obtain ⟨t1,t2,t3⟩:=j7 (c:=41) h3.2;split at h
    .simp only [Rs.ok.injEq] at h;omega
    .cases h
  split at h
  .rename_i _ _ hc;have:=hb hc;simp only [Rs.ok.injEq] at h;omega
  split at h
  .rename_i _ _ _ hc;have:=hb hc;simp only [Rs.ok.injEq] at h;omega
  split at h
  .rename_i _ _ _ _ hc;have:=hb hc;obtain ⟨s,h3,_⟩:=acp h;have:=Al t 1 _ s j (by omega) h3;omega
  split at h
  .rename_i _ _ _ _ _ hc;have:=hb hc;obtain ⟨s,h3,_⟩:=acp h;have:=Al t 2 _ s j (by omega) h3;omega
  .obtain ⟨s,h3,_⟩:=acp h;have:=Al t 3 _ s j h2 h3;omega
end Go.Proofs.YtdigkhaofjmgkaaGreatDoor
