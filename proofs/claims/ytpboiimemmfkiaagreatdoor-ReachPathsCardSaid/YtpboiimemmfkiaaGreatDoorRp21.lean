/-
  Texts that belong together,in one file: X1.
-/
import Derived.Test.YtpboiimemmfkiaaGreatDoorRp20
import Derived.Lib.Join
set_option linter.unusedSimpArgs false
set_option linter.unusedVariables false
namespace Go.Proofs.YtpboiimemmfkiaaGreatDoor
inductive Ex where
 | cst (b:Bool)
 | bit (s:List UInt8)
 | rise (s:List UInt8)
 | fall (s:List UInt8)
 | not (e:Ex)
 | and (l:List Ex)
 | or (l:List Ex)
inductive Rs (α:Type) where
 | ok (x:α) (i:Nat)
 | err (c:Int) (p q:Nat)
def skipB (t:List UInt8) (i:Nat):Nat:=i+((t.drop i).takeWhile fun c=>c == 32).length
theorem skipB_blank {t:List UInt8} {i:Nat} (h:t[i]? = some 32):skipB t i=skipB t (i+1):=by
 obtain ⟨hi,he⟩:=List.getElem?_eq_some_iff.1 h
 unfold skipB;rw [List.drop_eq_getElem_cons hi,he,List.takeWhile_cons];simp
 omega
theorem skipB_stop {t:List UInt8} {i:Nat} (h:t[i]?≠some 32):skipB t i=i:=by
 unfold skipB
 by_cases hi:i < t.length
 ·rw [List.drop_eq_getElem_cons hi,List.takeWhile_cons]
  have:(t[i] == 32)=false:=by
   rw [List.getElem?_eq_getElem hi] at h;simpa using h
  simp [this]
 ·rw [List.drop_eq_nil_of_le (by omega)];simp
theorem skipB_le (t:List UInt8) (i:Nat):i≤skipB t i:=by unfold skipB;omega
theorem skipB_len {t:List UInt8}:∀ (n i:Nat),t.length - i=n→i≤t.length→skipB t i≤t.length∧t[skipB t i]?≠some 32
 | 0,i,h,hi=>by
  have e:t[i]? = none:=List.getElem?_eq_none (by omega)
  rw [skipB_stop (by rw [e];simp)];exact ⟨hi,by rw [e];simp⟩
 | n+1,i,h,hi=>by
  by_cases hb:t[i]? = some 32
  ·rw [skipB_blank hb];exact skipB_len n (i+1) (by omega) (by omega)
  ·rw [skipB_stop hb];exact ⟨hi,hb⟩
theorem skipB_top {t:List UInt8} {i:Nat} (h:i≤t.length):skipB t i≤t.length:=(skipB_len _ i rfl h).1
theorem skipB_not {t:List UInt8} {i:Nat} (h:i≤t.length):t[skipB t i]?≠some 32:=(skipB_len _ i rfl h).2
theorem skipB_idem {t:List UInt8} {i:Nat} (h:i≤t.length):skipB t (skipB t i)=skipB t i:=skipB_stop (skipB_not h)
def takeM (t:List UInt8) (c:UInt8) (i:Nat):Bool×Nat:=if t[skipB t i]? = some c then (true,skipB t i+1) else (false,skipB t i)
def isSgn (c:UInt8):Bool:=[32,38,124,33,94,126,40,41,61].contains c
def tailEnd (t:List UInt8) (k:Nat):Nat:=k+((t.drop k).takeWhile fun c=>!isSgn c).length
theorem tail_step {t:List UInt8} {k:Nat} (hk:k < t.length) (h:isSgn t[k]=false):tailEnd t k=tailEnd t (k+1):=by
 unfold tailEnd;rw [List.drop_eq_getElem_cons hk,List.takeWhile_cons,h];simp
 omega
theorem tail_stop {t:List UInt8} {k:Nat} (h:∀ hk:k < t.length,isSgn t[k]=true):tailEnd t k=k:=by
 unfold tailEnd
 by_cases hk:k < t.length
 ·rw [List.drop_eq_getElem_cons hk,List.takeWhile_cons,h hk];simp
 ·rw [List.drop_eq_nil_of_le (by omega)];simp
theorem tail_le (t:List UInt8) (k:Nat):k≤tailEnd t k:=by unfold tailEnd;omega
theorem takeWhile_len {α:Type} (p:α→Bool):∀ l:List α,(l.takeWhile p).length≤l.length
 | []=>by simp
 | x :: l=>by
  rw [List.takeWhile_cons]
  split
  ·simp only [List.length_cons];have:=takeWhile_len p l;omega
  ·simp
theorem tail_top {t:List UInt8} {k:Nat} (h:k≤t.length):tailEnd t k≤t.length:=by
 have:=takeWhile_len (fun c=>!isSgn c) (t.drop k)
 rw [List.length_drop] at this;unfold tailEnd
 omega
def headOk (t:List UInt8) (i:Nat):Bool:=match t[i]? with
 | some c=>!isSgn c && (c != 48 && c != 49)
 | none=>false
def wEnd (t:List UInt8) (i:Nat):Nat:=if headOk t i then tailEnd t (i+1) else i
theorem headOk_lt {t:List UInt8} {i:Nat} (h:headOk t i=true):i < t.length:=by
 unfold headOk at h
 cases hi:t[i]? with
 | none=>rw [hi] at h;cases h
 | some c=>exact (List.getElem?_eq_some_iff.1 hi).1
theorem wEnd_le (t:List UInt8) (i:Nat):i≤wEnd t i:=by
 unfold wEnd
 split
 ·have:=tail_le t (i+1);omega
 ·omega
theorem wEnd_top {t:List UInt8} {i:Nat} (h:i≤t.length):wEnd t i≤t.length:=by
 unfold wEnd
 split
 ·rename_i hh;exact tail_top (headOk_lt hh)
 ·exact h
def wordS (t:List UInt8) (j:Nat):List UInt8:=(t.drop j).take (wEnd t j - j)
def wordR (t:List UInt8) (q i:Nat):Rs (List UInt8):=
 if wordS t (skipB t i)=[] then .err 3 (skipB t i) q else if nameF (wordS t (skipB t i))=false then .err 5 (skipB t i) q else .ok (wordS t (skipB t i)) (wEnd t (skipB t i))
def Rs.map {α β:Type} (f:α→β):Rs α→Rs β
 | .ok x i=>.ok (f x) i
 | .err c p q=>.err c p q
def sevR {α:Type} (t:List UInt8) (sign:UInt8) (f:Nat→Rs α):Nat→Nat→List α→Rs (List α)
 | 0,i,_=>.err 0 i 0
 | n+1,i,acc=>match f i with
  | .err c p _=>.err c p 0
  | .ok x j=>if (takeM t sign j).1 then sevR t sign f n (takeM t sign j).2 (acc ++ [x]) else .ok (acc ++ [x]) (takeM t sign j).2
def colA:List Ex→Ex
 | [x]=>x
 | l=>.and l
def colO:List Ex→Ex
 | [x]=>x
 | l=>.or l
def andR (t:List UInt8) (one:Nat→Rs Ex) (i:Nat):Rs Ex:=(sevR t 38 one (t.length+1 - i) i []).map colA
def orR (t:List UInt8) (one:Nat→Rs Ex) (i:Nat):Rs Ex:=(sevR t 124 (andR t one) (t.length+1 - i) i []).map colO
def oneR (t:List UInt8):Nat→Nat→Rs Ex
 | 0,i=>.err 4 (skipB t i) 0
 | d+1,i=>
  if t[skipB t i]? = some 33 then (match oneR t d (skipB t i+1) with | .ok x k=>.ok (.not x) k | .err c p _=>.err c p 0)
  else if t[skipB t i]? = some 40 then (match orR t (oneR t d) (skipB t i+1) with
   | .ok x k=>if (takeM t 41 k).1 then .ok x (takeM t 41 k).2 else .err 3 (takeM t 41 k).2 0
   | .err c p _=>.err c p 0)
  else if t[skipB t i]? = some 48 then .ok (.cst false) (skipB t i+1)
  else if t[skipB t i]? = some 49 then .ok (.cst true) (skipB t i+1)
  else if t[skipB t i]? = some 94 then (wordR t 1 (skipB t i+1)).map .rise
  else if t[skipB t i]? = some 126 then (wordR t 2 (skipB t i+1)).map .fall
  else (wordR t 3 (skipB t i)).map .bit
def parseM (t:List UInt8):Option Ex×Option (Int×Option Nat):=
 if 2000 < t.length then (none,some (4,none))
 else match orR t (oneR t 20) 0 with
  | .err c p _=>(none,some (c,some p))
  | .ok x i=>if skipB t i < t.length then (none,some (3,some (skipB t i))) else (some x,none)
def Goes {α:Type} (t:List UInt8) (f:Nat→Rs α):Prop:=∀ i x j,i≤t.length→f i = .ok x j→i < j∧j≤t.length
theorem take_goes {t:List UInt8} {c:UInt8} {i:Nat} (h:i≤t.length):i≤(takeM t c i).2∧(takeM t c i).2≤t.length∧((takeM t c i).1=true→i < (takeM t c i).2):=by
 have h1:=skipB_le t i
 have h2:=skipB_top h
 unfold takeM
 split
 ·rename_i hc
  have:=(List.getElem?_eq_some_iff.1 hc).1
  exact ⟨by dsimp only;omega,by dsimp only;omega,fun _=>by dsimp only;omega⟩
 ·exact ⟨h1,h2,fun h=>by cases h⟩
theorem sev_goes {α:Type} {t:List UInt8} {s:UInt8} {f:Nat→Rs α} (hf:Goes t f):∀ (n i:Nat) (acc l:List α) (j:Nat),i≤t.length→sevR t s f n i acc = .ok l j→i < j∧j≤t.length
 | 0,i,acc,l,j,_,h=>by simp [sevR] at h
 | n+1,i,acc,l,j,hi,h=>by
  rw [sevR] at h
  cases hfi:f i with
  | err c p q=>rw [hfi] at h;cases h
  | ok x k=>
   rw [hfi] at h
   obtain ⟨h1,h2⟩:=hf i x k hi hfi
   obtain ⟨t1,t2,t3⟩:=take_goes (c:=s) h2
   dsimp only at h
   split at h
   ·have:=sev_goes hf n _ _ l j t2 h
    omega
   ·simp only [Rs.ok.injEq] at h
    omega
theorem map_ok {α β:Type} {f:α→β} {r:Rs α} {y:β} {j:Nat} (h:r.map f = .ok y j):∃ x,r = .ok x j∧f x=y:=by
 cases r with
 | ok x i=>simp only [Rs.map,Rs.ok.injEq] at h;exact ⟨x,by rw [h.2],h.1⟩
 | err c p q=>cases h
theorem and_goes {t:List UInt8} {one:Nat→Rs Ex} (h:Goes t one):Goes t (andR t one):=fun i x j hi he=>by
 obtain ⟨l,h1,_⟩:=map_ok he
 exact sev_goes h _ _ _ _ _ hi h1
theorem or_goes {t:List UInt8} {one:Nat→Rs Ex} (h:Goes t one):Goes t (orR t one):=fun i x j hi he=>by
 obtain ⟨l,h1,_⟩:=map_ok he
 exact sev_goes (and_goes h) _ _ _ _ _ hi h1
theorem word_goes (t:List UInt8) (q:Nat):Goes t (wordR t q):=fun i s j hi h=>by
 have h1:=skipB_le t i
 have h2:=skipB_top hi
 unfold wordR at h
 split at h
 ·cases h
 ·rename_i hn
  split at h
  ·cases h
  ·simp only [Rs.ok.injEq] at h
   obtain ⟨_,rfl⟩:=h
   have h3:=wEnd_top h2
   have h4:=wEnd_le t (skipB t i)
   refine ⟨?_,h3⟩
   rcases Nat.eq_or_lt_of_le h4 with e | e
   ·exfalso
    apply hn
    unfold wordS;rw [← e,Nat.sub_self,List.take_zero]
   ·omega
theorem one_goes (t:List UInt8):∀ d,Goes t (oneR t d)
 | 0=>fun i x j _ h=>by simp [oneR] at h
 | d+1=>fun i x j hi h=>by
  have ih:=one_goes t d
  have h1:=skipB_le t i
  have h2:=skipB_top hi
  have hb:∀ {c:UInt8},t[skipB t i]? = some c→skipB t i < t.length:=fun hc=>(List.getElem?_eq_some_iff.1 hc).1
  rw [oneR] at h
  split at h
  ·rename_i hc
   have:=hb hc
   cases he:oneR t d (skipB t i+1) with
   | err c p q=>rw [he] at h;cases h
   | ok y k=>
    rw [he] at h;simp only [Rs.ok.injEq] at h
    have:=ih _ y k (by omega) he
    omega
  split at h
  ·rename_i _ hc
   have:=hb hc
   cases he:orR t (oneR t d) (skipB t i+1) with
   | err c p q=>rw [he] at h;cases h
   | ok y k=>
    rw [he] at h
    dsimp only at h
    have h3:=or_goes ih _ y k (by omega) he
    obtain ⟨t1,t2,t3⟩:=take_goes (c:=41) h3.2
    split at h
    ·simp only [Rs.ok.injEq] at h
     omega
    ·cases h
  split at h
  ·rename_i _ _ hc
   have:=hb hc
   simp only [Rs.ok.injEq] at h
   omega
  split at h
  ·rename_i _ _ _ hc
   have:=hb hc
   simp only [Rs.ok.injEq] at h
   omega
  split at h
  ·rename_i _ _ _ _ hc
   have:=hb hc
   obtain ⟨s,h3,_⟩:=map_ok h
   have:=word_goes t 1 _ s j (by omega) h3
   omega
  split at h
  ·rename_i _ _ _ _ _ hc
   have:=hb hc
   obtain ⟨s,h3,_⟩:=map_ok h
   have:=word_goes t 2 _ s j (by omega) h3
   omega
  ·obtain ⟨s,h3,_⟩:=map_ok h
   have:=word_goes t 3 _ s j h2 h3
   omega
mutual
def wrE:Ex→Nat→List UInt8
 | .cst b,_=>if b then [49] else [48]
 | .bit s,_=>s
 | .rise s,_=>94 :: s
 | .fall s,_=>126 :: s
 | .not e,_=>33 :: wrE e 2
 | .and l,k=>if 2≤k then [40] ++ Lib.join (wrL l 2) [32,38,32] ++ [41] else Lib.join (wrL l 2) [32,38,32]
 | .or l,k=>if 1≤k then [40] ++ Lib.join (wrL l 1) [32,124,32] ++ [41] else Lib.join (wrL l 1) [32,124,32]
def wrL:List Ex→Nat→List (List UInt8)
 | [],_=>[]
 | e :: l,k=>wrE e k :: wrL l k
end
theorem wrL_map:∀ (l:List Ex) (k:Nat),wrL l k=l.map fun e=>wrE e k
 | [],_=>rfl
 | e :: l,k=>by rw [wrL,wrL_map l k];rfl
end Go.Proofs.YtpboiimemmfkiaaGreatDoor
