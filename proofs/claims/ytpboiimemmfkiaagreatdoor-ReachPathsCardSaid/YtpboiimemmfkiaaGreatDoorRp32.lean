/-
  Texts that belong together,in one file: PM1.
-/
import Derived.Test.YtpboiimemmfkiaaGreatDoorRp31
import Derived.Lib.AtoiAll
import Derived.Lib.ItoaNum
set_option linter.unusedSimpArgs false
set_option linter.unusedVariables false
namespace Go.Proofs.YtpboiimemmfkiaaGreatDoor
open Go.Av
def kwN:List Tx:=[[],[105,110,112,117,116],[99,111,105,108],[116,105,109,101,114],[99,111,117,110,116,101,114]]
def kwR:List Tx:=[[],[],[115,101,116],[114,101,115,101,116],[114,117,110],[99,111,117,110,116],[122,101,114,111]]
def ixW (l:List Tx) (s:Tx):Int:=idx (fun x=>x == s) l
def numF (w:Tx):Option Int:=match Lib.atoiAll w with
 | .ok v=>if Lib.itoa v=w then some v else none
 | _=>none
inductive LnR where
 | form
 | bad (c:Int) (off:Nat)
 | name (n:NmP)
 | rung (r:RgP)
def rungP (k:Int) (nm hd rest:Tx):LnR:=match (parseM rest).2 with
 | some (c,o)=>.bad c (hd.length+1+o.getD 0)
 | none=>.rung ⟨k,nm,(parseM rest).1⟩
def rungL (hd rest:Tx):List Tx→LnR
 | [a]=>rungP 1 a hd rest
 | [a,b]=>if ixW kwR a < 2 then .form else rungP (ixW kwR a) b hd rest
 | _=>.form
def nameP (k:Int):List Tx→LnR
 | [b]=>if 1≤k∧k < 3 then .name ⟨b,k,0⟩ else .form
 | [b,c]=>if 3≤k then (match numF c with | some v=>.name ⟨b,k,v⟩ | none=>.form) else .form
 | _=>.form
def nameL:List Tx→LnR
 | a :: l=>nameP (ixW kwN a) l
 | []=>.form
def lineP (s:Tx):LnR:=if (61:UInt8)∈s then rungL (cutAt 61 s).1 (cutAt 61 s).2 (wordsT (cutAt 61 s).1) else nameL (wordsT s)
structure PrS where
 names:List NmP
 nAt:List Nat
 rungs:List RgP
 rAt:List Nat
def prS0:PrS:=⟨[],[],[],[]⟩
def stepS (s:PrS) (pl:Nat) (ln:Tx):(Int×Nat) ⊕ PrS:=
 if wordsT ln=[] then .inr s else match lineP ln with
  | .form=>.inl (3,pl)
  | .bad c off=>.inl (c,pl+off)
  | .name n=>if s.rungs=[] then .inr ⟨s.names ++ [n],s.nAt ++ [pl],s.rungs,s.rAt⟩ else .inl (3,pl)
  | .rung r=>.inr ⟨s.names,s.nAt,s.rungs ++ [r],s.rAt ++ [pl]⟩
def prK (l:List Tx):Nat→(Int×Nat) ⊕ PrS
 | 0=>.inr prS0
 | k+1=>match prK l k with
  | .inl e=>.inl e
  | .inr s=>stepS s (placeK l k) (l.getD k [])
def parseP (t:Tx):Option (Int×Option Nat)×PgP:=
 if 20000 < t.length then (some (4,none),⟨[],[]⟩) else match prK (cutT 10 t) (cutT 10 t).length with
  | .inl (c,i)=>(some (c,some i),⟨[],[]⟩)
  | .inr s=>match checkP ⟨s.names,s.rungs⟩ with
   | none=>(none,⟨s.names,s.rungs⟩)
   | some (c,none)=>(some (c,none),⟨[],[]⟩)
   | some (c,some i)=>(some (c,some ((s.nAt ++ s.rAt).getD i 0)),⟨[],[]⟩)
theorem prK_stays {l:List Tx} {e:Int×Nat} {k:Nat} (h:prK l k = .inl e):∀ j,k≤j→prK l j = .inl e:=by
 intro j hj
 induction j with
 | zero => obtain rfl : k = 0 := by omega
           exact h
 | succ j ih=>
  rcases Nat.lt_or_ge k (j+1) with h1 | h1
  ·rw [prK,ih (by omega)]
  ·obtain rfl:k=j+1:=by omega
   exact h
theorem prK_err {l:List Tx} {s:PrS} {e:Int×Nat} {k:Nat} (hk:k < l.length) (h:prK l k = .inr s) (he:stepS s (placeK l k) l[k] = .inl e):prK l l.length = .inl e:=by
 refine prK_stays (k:=k+1) ?_ _ (by omega);rw [prK,h]
 show stepS s (placeK l k) (l.getD k [])=_
 rw [List.getD_eq_getElem?_getD,List.getElem?_eq_getElem hk];exact he
theorem prK_next {l:List Tx} {s s':PrS} {k:Nat} (hk:k < l.length) (h:prK l k = .inr s) (he:stepS s (placeK l k) l[k] = .inr s'):prK l (k+1) = .inr s':=by
 rw [prK,h]
 show stepS s (placeK l k) (l.getD k [])=_
 rw [List.getD_eq_getElem?_getD,List.getElem?_eq_getElem hk];exact he
theorem parseP_bad {t:Tx} {c:Int} {i:Nat} (ht:t.length≤20000) (h:prK (cutT 10 t) (cutT 10 t).length = .inl (c,i)):parseP t=(some (c,some i),⟨[],[]⟩):=by
 unfold parseP;rw [if_neg (by omega),h]
theorem parseP_end {t : Tx} {s : PrS} (ht : t.length ≤ 20000) (h : prK (cutT 10 t) (cutT 10 t).length = .inr s) : parseP t = match checkP ⟨s.names, s.rungs⟩ with
      | none=>(none,⟨s.names,s.rungs⟩)
      | some (c,none)=>(some (c,none),⟨[],[]⟩)
      | some (c,some i)=>(some (c,some ((s.nAt ++ s.rAt).getD i 0)),⟨[],[]⟩):=by
 unfold parseP;rw [if_neg (by omega),h]
def ErrB {α:Type} (t:Tx) (f:Nat→Rs α):Prop:=∀ i c p q,i≤t.length→f i = .err c p q→p≤t.length
theorem map_err {α β:Type} {f:α→β} {r:Rs α} {c:Int} {p q:Nat} (h:r.map f = .err c p q):r = .err c p q:=by
 cases r with
 | ok x j=>cases h
 | err c' p' q'=>
  simp only [Rs.map,Rs.err.injEq] at h
  obtain ⟨rfl,rfl,rfl⟩:=h
  rfl
theorem word_errB (t:Tx) (q0:Nat):ErrB t (wordR t q0):=fun i c p q hi h=>by
 unfold wordR at h
 have:=skipB_top hi
 split at h
 ·simp only [Rs.err.injEq] at h;omega
 ·split at h
  ·simp only [Rs.err.injEq] at h;omega
  ·cases h
theorem sev_errB {α:Type} {t:Tx} {s:UInt8} {f:Nat→Rs α} (hg:Goes t f) (hf:ErrB t f):∀ (n i:Nat) (acc:List α) (c:Int) (p q:Nat),i≤t.length→sevR t s f n i acc = .err c p q→p≤t.length
 | 0,i,acc,c,p,q,hi,h=>by
  simp only [sevR,Rs.err.injEq] at h
  omega
 | n+1,i,acc,c,p,q,hi,h=>by
  rw [sevR] at h
  cases hfi:f i with
  | err c' p' q'=>
   rw [hfi] at h;simp only [Rs.err.injEq] at h
   have:=hf i c' p' q' hi hfi
   omega
  | ok x j=>
   rw [hfi] at h
   dsimp only at h
   have hj:=hg i x j hi hfi
   split at h
   ·exact sev_errB hg hf n _ _ c p q (take_goes hj.2).2.1 h
   ·cases h
theorem and_errB {t:Tx} {one:Nat→Rs Ex} (hg:Goes t one) (h:ErrB t one):ErrB t (andR t one):=fun i c p q hi he=>sev_errB hg h _ _ _ c p q hi (map_err he)
theorem or_errB {t:Tx} {one:Nat→Rs Ex} (hg:Goes t one) (h:ErrB t one):ErrB t (orR t one):=fun i c p q hi he=>sev_errB (and_goes hg) (and_errB hg h) _ _ _ c p q hi (map_err he)
theorem one_errB (t:Tx):∀ d,ErrB t (oneR t d)
 | 0=>fun i c p q hi h=>by
  simp only [oneR,Rs.err.injEq] at h
  have:=skipB_top hi
  omega
 | d+1=>fun i c p q hi h=>by
  have ih:=one_errB t d
  have hs:=skipB_top hi
  have nx:∀ {x:UInt8},t[skipB t i]? = some x→skipB t i+1≤t.length:=fun h=>(List.getElem?_eq_some_iff.1 h).1
  rw [oneR] at h
  split at h
  ·rename_i hc
   cases he:oneR t d (skipB t i+1) with
   | ok y k=>rw [he] at h;cases h
   | err c' p' q'=>
    rw [he] at h;simp only [Rs.err.injEq] at h
    have:=ih _ _ _ _ (nx hc) he
    omega
  split at h
  ·rename_i hc
   cases he:orR t (oneR t d) (skipB t i+1) with
   | ok y k=>
    rw [he] at h
    dsimp only at h
    have hk:=or_goes (one_goes t d) _ _ _ (nx hc) he
    split at h
    ·cases h
    ·simp only [Rs.err.injEq] at h
     have:=(take_goes (c:=41) hk.2).2.1
     omega
   | err c' p' q'=>
    rw [he] at h;simp only [Rs.err.injEq] at h
    have:=or_errB (one_goes t d) ih _ _ _ _ (nx hc) he
    omega
  split at h
  ·cases h
  split at h
  ·cases h
  split at h
  ·rename_i hc
   exact word_errB t 1 _ _ _ _ (nx hc) (map_err h)
  split at h
  ·rename_i hc
   exact word_errB t 2 _ _ _ _ (nx hc) (map_err h)
  ·exact word_errB t 3 _ _ _ _ hs (map_err h)
theorem parse_at {t:Tx} {c:Int} {p:Nat} (h:(parseM t).2=some (c,some p)):p≤t.length:=by
 unfold parseM at h
 split at h
 ·cases h
 ·split at h
  ·rename_i c' p' q' he
   simp only [Option.some.injEq,Prod.mk.injEq] at h
   have:=or_errB (one_goes t 20) (one_errB t 20) 0 _ _ _ (Nat.zero_le _) he
   omega
  ·rename_i x i he
   have:=or_goes (one_goes t 20) 0 _ _ (Nat.zero_le _) he
   split at h
   ·simp only [Option.some.injEq,Prod.mk.injEq] at h
    have:=skipB_top this.2
    omega
   ·cases h
structure PrOk (m:Nat) (s:PrS):Prop where
 nl:s.nAt.length=s.names.length
 rl:s.rAt.length=s.rungs.length
 nm:s.names.length+s.rungs.length≤m
 nn:∀ n∈s.names,n.name.length≤20000
 cb:∀ r∈s.rungs,(∃ e,r.cond=some e∧bE e≤10000∧WfE e)∧r.name.length≤20000
theorem rungP_ok {k:Int} {nm hd rest:Tx} {r:RgP} (h:rungP k nm hd rest = .rung r):∃ e,r.cond=some e∧(parseM rest).1=some e∧(parseM rest).2=none∧r.name=nm∧r.kind=k:=by
 unfold rungP at h
 split at h
 ·cases h
 ·rename_i hn
  simp only [LnR.rung.injEq] at h
  obtain ⟨e,he⟩:=parse_some hn
  subst h;exact ⟨e,he,he,hn,rfl,rfl⟩
theorem rungP_name {k:Int} {nm hd rest:Tx} {n:NmP}:rungP k nm hd rest≠.name n:=by
 unfold rungP
 split<;>simp
theorem rungL_ok {hd rest:Tx} {l:List Tx} {r:RgP} (h:rungL hd rest l = .rung r):∃ k nm,nm∈l∧rungP k nm hd rest = .rung r:=by
 match l,h with
 | [a],h=>exact ⟨_,a,by simp,h⟩
 | [a,b],h=>
  simp only [rungL] at h
  split at h
  ·cases h
  ·exact ⟨_,b,by simp,h⟩
theorem nameL_ok {l:List Tx} {n:NmP} (h:nameL l = .name n):n.name∈l:=by
 match l,h with
 | a :: [b],h=>
  simp only [nameL,nameP] at h
  split at h
  ·simp only [LnR.name.injEq] at h;subst h;simp
  ·cases h
 | a :: [b,c],h=>
  simp only [nameL,nameP] at h
  split at h
  ·split at h
   ·simp only [LnR.name.injEq] at h;subst h;simp
   ·cases h
  ·cases h
theorem nameL_rung {l:List Tx} {r:RgP}:nameL l≠.rung r:=by
 match l with
 | []=>simp [nameL]
 | [a]=>simp [nameL,nameP]
 | [a,b]=>simp only [nameL,nameP];split<;>simp
 | [a,b,c]=>simp only [nameL,nameP];split<;>(try split)<;>simp
 | a :: b :: c :: d :: l=>simp [nameL,nameP]
theorem rungL_name {hd rest:Tx} {l:List Tx} {n:NmP}:rungL hd rest l≠.name n:=by
 match l with
 | []=>simp [rungL]
 | [a]=>exact rungP_name
 | [a, b] => simp only [rungL]; split; · simp
             ·exact rungP_name
 | a :: b :: c :: l=>simp [rungL]
theorem cutAt_le (c:UInt8) (t:Tx):(cutAt c t).1.length≤t.length∧(cutAt c t).2.length≤t.length:=by
 by_cases h:c∈t
 ·obtain ⟨h1,_⟩:=cutAt_parts h
  have:=congrArg List.length h1
  simp only [List.length_append,List.length_cons] at this
  omega
 ·unfold cutAt
  have h1:=takeWhile_len (fun x=>!decide (x=c)) t
  have h2:=(List.dropWhile_sublist (l:=t) (fun x=>!decide (x=c))).length_le
  dsimp only
  rw [List.length_drop]
  omega
theorem lineP_name {s:Tx} {n:NmP} (h:lineP s = .name n):n.name.length≤s.length∧n.name≠[]:=by
 unfold lineP at h
 split at h
 ·exact absurd h rungL_name
 ·have:=wordsT_mem (nameL_ok h)
  exact ⟨this.2,this.1⟩
theorem lineP_rung {s:Tx} {r:RgP} (h:lineP s = .rung r):(∃ e,r.cond=some e∧bE e≤10000∧WfE e)∧r.name.length≤s.length:=by
 unfold lineP at h
 split at h
 ·obtain ⟨k,nm,hm,hr⟩:=rungL_ok h
  obtain ⟨e,he,hp,_,hn,_⟩:=rungP_ok hr
  have h1:=wordsT_mem hm
  have h2:=cutAt_le 61 s
  exact ⟨⟨e,he,parse_b hp,(parse_wf hp).1⟩,by rw [hn];omega⟩
 ·exact absurd h nameL_rung
theorem prOk_step {s s':PrS} {m pl:Nat} {ln:Tx} (hs:PrOk m s) (hl:ln.length≤20000) (h:stepS s pl ln = .inr s'):PrOk (m+1) s':=by
 obtain ⟨h1,h2,h3,h4,h5⟩:=hs
 unfold stepS at h
 split at h
 ·simp only [Sum.inr.injEq] at h;subst h;exact ⟨h1,h2,by omega,h4,h5⟩
 ·split at h
  ·cases h
  ·cases h
  ·rename_i n hn
   split at h
   ·simp only [Sum.inr.injEq] at h;subst h;refine ⟨by simp [h1],h2,by simp;omega,fun x hx=>?_,h5⟩
    rcases List.mem_append.1 hx with hx | hx
    ·exact h4 x hx
    ·obtain rfl:x=n:=by simpa using hx
     have:=(lineP_name hn).1;omega
   ·cases h
  ·rename_i r hr
   simp only [Sum.inr.injEq] at h;subst h;refine ⟨h1,by simp [h2],by simp;omega,h4,fun x hx=>?_⟩
   rcases List.mem_append.1 hx with hx | hx
   ·exact h5 x hx
   ·obtain rfl:x=r:=by simpa using hx
    have:=lineP_rung hr
    exact ⟨this.1,by omega⟩
theorem prOk_zero:PrOk 0 prS0:=⟨rfl,rfl,Nat.le_refl _,by simp [prS0],by simp [prS0]⟩
theorem prOk_k {t:Tx} (ht:t.length≤20000):∀ {k:Nat} {s:PrS},k≤(cutT 10 t).length→prK (cutT 10 t) k = .inr s→PrOk k s
 | 0,s,_,h=>by
  simp only [prK,Sum.inr.injEq] at h;subst h;exact prOk_zero
 | k+1,s,hk,h=>by
  rw [prK] at h
  split at h
  ·cases h
  ·rename_i s0 h0
   refine prOk_step (prOk_k ht (by omega) h0) ?_ h;rw [List.getD_eq_getElem?_getD,List.getElem?_eq_getElem (by omega)]
   have:=piece_le (c:=10) (t:=t) (k:=k) (by omega)
   simp only [Option.getD_some]
   omega
theorem prOk_small {m:Nat} {s:PrS} (h:PrOk m s) (hm:m≤30000):SmallP ⟨s.names,s.rungs⟩:=by
 obtain ⟨h1,h2,h3,h4,h5⟩:=h
 refine ⟨by show s.names.length < _;omega,by show s.rungs.length < _;omega,fun n hn=>by have:=h4 n hn;omega,fun r hr e he=>?_⟩
 obtain ⟨⟨e',he',hb,_⟩,_⟩:=h5 r hr
 obtain rfl:e'=e:=Option.some.inj (he'.symm.trans he)
 have h1:=Lib.compact_length_le (sortT (nmsE true e'))
 have h2:=sortT_len (nmsE true e')
 have h3:=nms_len true e'
 refine ⟨by omega,?_⟩;unfold namesE;omega
end Go.Proofs.YtpboiimemmfkiaaGreatDoor
