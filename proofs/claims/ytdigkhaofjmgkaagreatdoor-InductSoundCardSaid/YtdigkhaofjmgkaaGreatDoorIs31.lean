/-
  Texts that belong together,in one file: PM1.
-/
import Derived.Test.YtdigkhaofjmgkaaGreatDoorIs25
import Derived.Lib.AtoiAll
import Derived.Lib.ItoaNum
set_option linter.unusedSimpArgs false
set_option linter.unusedVariables false
namespace Go.Proofs.YtdigkhaofjmgkaaGreatDoor
open Go.Av
def o0:List Tx:=[[],[105,110,112,117,116],[99,111,105,108],[116,105,109,101,114],[99,111,117,110,116,101,114]]
def kwR:List Tx:=[[],[],[115,101,116],[114,101,115,101,116],[114,117,110],[99,111,117,110,116],[122,101,114,111]]
def ixW (l:List Tx) (s:Tx):Int:=idx (fun x=>x == s) l
def rT (w:Tx):Option Int:=match Lib.atoiAll w with
 | .ok v=>if Lib.itoa v=w then some v else none
 | _=>none
inductive l3 where
 | form
 | bad (c:Int) (off:Nat)
 | name (n:dL)
 | jq (r:fh)
def jW (k:Int) (nm hd rest:Tx):l3:=match (Zy rest).2 with
 | some (c,o)=>.bad c (hd.length+1+o.getD 0)
 | none=>.jq ⟨k,nm,(Zy rest).1⟩
def lf (hd rest:Tx):List Tx->l3
 | [a]=>jW 1 a hd rest
 | [a,b]=>if ixW kwR a < 2 then .form else jW (ixW kwR a) b hd rest
 | _=>.form
def eC (k:Int):List Tx->l3
 | [b]=>if 1<=k/\k < 3 then .name ⟨b,k,0⟩ else .form
 | [b,c]=>if 3<=k then (match rT c with | some v=>.name ⟨b,k,v⟩ | none=>.form) else .form
 | _=>.form
def il:List Tx->l3
 | a :: l=>eC (ixW o0 a) l
 | []=>.form
def gG (s:Tx):l3:=if (61:UInt8)∈s then lf (cutAt 61 s).1 (cutAt 61 s).2 (dW (cutAt 61 s).1) else il (dW s)
structure kK where
 names:List dL
 hU:List Nat
 ar:List fh
 rAt:List Nat
def mC:kK:=⟨[],[],[],[]⟩
def aaR (s:kK) (pl:Nat) (ln:Tx):(Int×Nat) ⊕ kK:=
 if dW ln=[] then .inr s else match gG ln with
  | .form=>.inl (3,pl)
  | .bad c off=>.inl (c,pl+off)
  | .name n=>if s.ar=[] then .inr ⟨s.names ++ [n],s.hU ++ [pl],s.ar,s.rAt⟩ else .inl (3,pl)
  | .jq r=>.inr ⟨s.names,s.hU,s.ar ++ [r],s.rAt ++ [pl]⟩
def ZE (l:List Tx):Nat->(Int×Nat) ⊕ kK
 | 0=>.inr mC
 | k+1=>match ZE l k with
  | .inl e=>.inl e
  | .inr s=>aaR s (Z5 l k) (l.getD k [])
def fV (t:Tx):Option (Int×Option Nat)×YN:=
 if 20000 < t.length then (some (4,none),⟨[],[]⟩) else match ZE (Zl 10 t) (Zl 10 t).length with
  | .inl (c,i)=>(some (c,some i),⟨[],[]⟩)
  | .inr s=>match Y4 ⟨s.names,s.ar⟩ with
   | none=>(none,⟨s.names,s.ar⟩)
   | some (c,none)=>(some (c,none),⟨[],[]⟩)
   | some (c,some i)=>(some (c,some ((s.hU ++ s.rAt).getD i 0)),⟨[],[]⟩)
theorem Uv {l:List Tx} {e:Int×Nat} {k:Nat} (h:ZE l k = .inl e):∀ j,k<=j->ZE l j = .inl e:=by
 intro j hj
 induction j with
 | zero => obtain rfl : k = 0 := by omega
           exact h
 | succ j ih=>
  rcases Nat.lt_or_ge k (j+1) with h1 | h1
  .rw [ZE,ih (by omega)]
  .obtain rfl:k=j+1:=by omega
   exact h
theorem Ut {l:List Tx} {s:kK} {e:Int×Nat} {k:Nat} (hk:k < l.length) (h:ZE l k = .inr s) (he:aaR s (Z5 l k) l[k] = .inl e):ZE l l.length = .inl e:=by
 refine Uv (k:=k+1) ?_ _ (by omega);rw [ZE,h];show aaR s (Z5 l k) (l.getD k [])=_;rw [List.getD_eq_getElem?_getD,List.getElem?_eq_getElem hk];exact he
theorem Uu {l:List Tx} {s s':kK} {k:Nat} (hk:k < l.length) (h:ZE l k = .inr s) (he:aaR s (Z5 l k) l[k] = .inr s'):ZE l (k+1) = .inr s':=by
 rw [ZE,h];show aaR s (Z5 l k) (l.getD k [])=_;rw [List.getD_eq_getElem?_getD,List.getElem?_eq_getElem hk];exact he
theorem Il {t:Tx} {c:Int} {i:Nat} (ht:t.length<=20000) (h:ZE (Zl 10 t) (Zl 10 t).length = .inl (c,i)):fV t=(some (c,some i),⟨[],[]⟩):=by
 unfold fV;rw [if_neg (by omega),h]
theorem Cy {t : Tx} {s : kK} (ht : t.length <= 20000) (h : ZE (Zl 10 t) (Zl 10 t).length = .inr s) : fV t = match Y4 ⟨s.names, s.ar⟩ with
      | none=>(none,⟨s.names,s.ar⟩)
      | some (c,none)=>(some (c,none),⟨[],[]⟩)
      | some (c,some i)=>(some (c,some ((s.hU ++ s.rAt).getD i 0)),⟨[],[]⟩):=by
 unfold fV;rw [if_neg (by omega),h]
def pt {α:Type} (t:Tx) (f:Nat->Rs α):Prop:=∀ i c p q,i<=t.length->f i = .err c p q->p<=t.length
theorem uy {α β:Type} {f:α->β} {r:Rs α} {c:Int} {p q:Nat} (h:r.map f = .err c p q):r = .err c p q:=by
 cases r with
 | ok x j=>cases h
 | err c' p' q'=>
  simp only [Rs.map,Rs.err.injEq] at h;obtain ⟨rfl,rfl,rfl⟩:=h;rfl
theorem Dk (t:Tx) (q0:Nat):pt t (fI t q0):=fun i c p q hi h=>by
 unfold fI at h;have:=iu hi;split at h
 .simp only [Rs.err.injEq] at h;omega
 .split at h
  .simp only [Rs.err.injEq] at h;omega
  .cases h
theorem CV {α:Type} {t:Tx} {s:UInt8} {f:Nat->Rs α} (hg:aaE t f) (hf:pt t f):∀ (n i:Nat) (acc:List α) (c:Int) (p q:Nat),i<=t.length->e8 t s f n i acc = .err c p q->p<=t.length
 | 0,i,acc,c,p,q,hi,h=>by
  simp only [e8,Rs.err.injEq] at h;omega
 | n+1,i,acc,c,p,q,hi,h=>by
  rw [e8] at h
  cases ZG:f i with
  | err c' p' q'=>
   rw [ZG] at h;simp only [Rs.err.injEq] at h;have:=hf i c' p' q' hi ZG;omega
  | ok x j=>
   rw [ZG] at h;dsimp only at h;have hj:=hg i x j hi ZG;split at h
   .exact CV hg hf n _ _ c p q (mJ hj.2).2.1 h
   .cases h
theorem KJ {t:Tx} {one:Nat->Rs Ex} (hg:aaE t one) (h:pt t one):pt t (iP t one):=fun i c p q hi he=>CV hg h _ _ _ c p q hi (uy he)
theorem Ia {t:Tx} {one:Nat->Rs Ex} (hg:aaE t one) (h:pt t one):pt t (iq t one):=fun i c p q hi he=>CV (qV hg) (KJ hg h) _ _ _ c p q hi (uy he)
theorem H4 (t:Tx):∀ d,pt t (bJ t d)
 | 0=>fun i c p q hi h=>by
  simp only [bJ,Rs.err.injEq] at h;have:=iu hi;omega
 | d+1=>fun i c p q hi h=>by
  have ih:=H4 t d;have hs:=iu hi;have nx:∀ {x:UInt8},t[aM t i]? = some x->aM t i+1<=t.length:=fun h=>(List.getElem?_eq_some_iff.1 h).1;rw [bJ] at h;split at h
  .rename_i hc
   cases he:bJ t d (aM t i+1) with
   | ok y k=>rw [he] at h;cases h
   | err c' p' q'=>
    rw [he] at h;simp only [Rs.err.injEq] at h;have:=ih _ _ _ _ (nx hc) he;omega
  split at h
  .rename_i hc
   cases he:iq t (bJ t d) (aM t i+1) with
   | ok y k=>
    rw [he] at h;dsimp only at h;have hk:=qx (iM t d) _ _ _ (nx hc) he;split at h
    .cases h
    .simp only [Rs.err.injEq] at h;have:=(mJ (c:=41) hk.2).2.1;omega
   | err c' p' q'=>
    rw [he] at h;simp only [Rs.err.injEq] at h;have:=Ia (iM t d) ih _ _ _ _ (nx hc) he;omega
  split at h
  .cases h
  split at h
  .cases h
  split at h
  .rename_i hc;exact Dk t 1 _ _ _ _ (nx hc) (uy h)
  split at h
  .rename_i hc;exact Dk t 2 _ _ _ _ (nx hc) (uy h)
  .exact Dk t 3 _ _ _ _ hs (uy h)
theorem Cz {t:Tx} {c:Int} {p:Nat} (h:(Zy t).2=some (c,some p)):p<=t.length:=by
 unfold Zy at h;split at h
 .cases h
 .split at h
  .rename_i c' p' q' he;simp only [Option.some.injEq,Prod.mk.injEq] at h;have:=Ia (iM t 20) (H4 t 20) 0 _ _ _ (Nat.zero_le _) he;omega
  .rename_i x i he;have:=qx (iM t 20) 0 _ _ (Nat.zero_le _) he;split at h
   .simp only [Option.some.injEq,Prod.mk.injEq] at h;have:=iu this.2;omega
   .cases h
structure so (m:Nat) (s:kK):Prop where
 nl:s.hU.length=s.names.length
 rl:s.rAt.length=s.ar.length
 nm:s.names.length+s.ar.length<=m
 nn:∀ n∈s.names,n.name.length<=20000
 cb:∀ r∈s.ar,(∃ e,r.cond=some e/\bE e<=10000/\cD e)/\r.name.length<=20000
theorem Jo {k:Int} {nm hd rest:Tx} {r:fh} (h:jW k nm hd rest = .jq r):∃ e,r.cond=some e/\(Zy rest).1=some e/\(Zy rest).2=none/\r.name=nm/\r.kind=k:=by
 unfold jW at h;split at h
 .cases h
 .rename_i hn;simp only [l3.jq.injEq] at h;obtain ⟨e,he⟩:=xZ hn;subst h;exact ⟨e,he,he,hn,rfl,rfl⟩
theorem Jn {k:Int} {nm hd rest:Tx} {n:dL}:jW k nm hd rest≠.name n:=by
 unfold jW;split<;>simp
theorem Jl {hd rest:Tx} {l:List Tx} {r:fh} (h:lf hd rest l = .jq r):∃ k nm,nm∈l/\jW k nm hd rest = .jq r:=by
 match l,h with
 | [a],h=>exact ⟨_,a,by simp,h⟩
 | [a,b],h=>
  simp only [lf] at h;split at h
  .cases h
  .exact ⟨_,b,by simp,h⟩
theorem TE {l:List Tx} {n:dL} (h:il l = .name n):n.name∈l:=by
 match l,h with
 | a :: [b],h=>
  simp only [il,eC] at h;split at h
  .simp only [l3.name.injEq] at h;subst h;simp
  .cases h
 | a :: [b,c],h=>
  simp only [il,eC] at h;split at h
  .split at h
   .simp only [l3.name.injEq] at h;subst h;simp
   .cases h
  .cases h
theorem HP {l:List Tx} {r:fh}:il l≠.jq r:=by
 match l with
 | []=>simp [il]
 | [a]=>simp [il,eC]
 | [a,b]=>simp only [il,eC];split<;>simp
 | [a,b,c]=>simp only [il,eC];split<;>(try split)<;>simp
 | a :: b :: c :: d :: l=>simp [il,eC]
theorem Vy {hd rest:Tx} {l:List Tx} {n:dL}:lf hd rest l≠.name n:=by
 match l with
 | []=>simp [lf]
 | [a]=>exact Jn
 | [a, b] => simp only [lf]; split; · simp
             .exact Jn
 | a :: b :: c :: l=>simp [lf]
theorem zl (c:UInt8) (t:Tx):(cutAt c t).1.length<=t.length/\(cutAt c t).2.length<=t.length:=by
 by_cases h:c∈t
 .obtain ⟨h1,_⟩:=Mf h;have:=congrArg List.length h1;simp only [List.length_append,List.length_cons] at this;omega
 .unfold cutAt;have h1:=Dc (fun x=>!decide (x=c)) t;have h2:=(List.dropWhile_sublist (l:=t) (fun x=>!decide (x=c))).length_le;dsimp only;rw [List.length_drop];omega
theorem S4 {s:Tx} {n:dL} (h:gG s = .name n):n.name.length<=s.length/\n.name≠[]:=by
 unfold gG at h;split at h
 .exact absurd h Vy
 .have:=Dr (TE h);exact ⟨this.2,this.1⟩
theorem S5 {s:Tx} {r:fh} (h:gG s = .jq r):(∃ e,r.cond=some e/\bE e<=10000/\cD e)/\r.name.length<=s.length:=by
 unfold gG at h;split at h
 .obtain ⟨k,nm,hm,hr⟩:=Jl h;obtain ⟨e,he,hp,_,hn,_⟩:=Jo hr;have h1:=Dr hm;have h2:=zl 61 s;exact ⟨⟨e,he,uN hp,(acf hp).1⟩,by rw [hn];omega⟩
 .exact absurd h HP
theorem Ux {s s':kK} {m pl:Nat} {ln:Tx} (hs:so m s) (hl:ln.length<=20000) (h:aaR s pl ln = .inr s'):so (m+1) s':=by
 obtain ⟨h1,h2,h3,h4,h5⟩:=hs;unfold aaR at h;split at h
 .simp only [Sum.inr.injEq] at h;subst h;exact ⟨h1,h2,by omega,h4,h5⟩
 .split at h
  .cases h
  .cases h
  .rename_i n hn;split at h
   .simp only [Sum.inr.injEq] at h;subst h;refine ⟨by simp [h1],h2,by simp;omega,fun x hx=>?_,h5⟩
    rcases List.mem_append.1 hx with hx | hx
    .exact h4 x hx
    .obtain rfl:x=n:=by simpa using hx
     have:=(S4 hn).1;omega
   .cases h
  .rename_i r hr;simp only [Sum.inr.injEq] at h;subst h;refine ⟨h1,by simp [h2],by simp;omega,h4,fun x hx=>?_⟩
   rcases List.mem_append.1 hx with hx | hx
   .exact h5 x hx
   .obtain rfl:x=r:=by simpa using hx
    have:=S5 hr;exact ⟨this.1,by omega⟩
theorem Uy:so 0 mC:=⟨rfl,rfl,Nat.le_refl _,by simp [mC],by simp [mC]⟩
theorem CF {t:Tx} (ht:t.length<=20000):∀ {k:Nat} {s:kK},k<=(Zl 10 t).length->ZE (Zl 10 t) k = .inr s->so k s
 | 0,s,_,h=>by
  simp only [ZE,Sum.inr.injEq] at h;subst h;exact Uy
 | k+1,s,hk,h=>by
  rw [ZE] at h;split at h
  .cases h
  .rename_i s0 h0;refine Ux (CF ht (by omega) h0) ?_ h;rw [List.getD_eq_getElem?_getD,List.getElem?_eq_getElem (by omega)];have:=Iq (c:=10) (t:=t) (k:=k) (by omega);simp only [Option.getD_some];omega
theorem Uw {m:Nat} {s:kK} (h:so m s) (hm:m<=30000):yL ⟨s.names,s.ar⟩:=by
 obtain ⟨h1,h2,h3,h4,h5⟩:=h;refine ⟨by show s.names.length < _;omega,by show s.ar.length < _;omega,fun n hn=>by have:=h4 n hn;omega,fun r hr e he=>?_⟩;obtain ⟨⟨e',he',hb,_⟩,_⟩:=h5 r hr;obtain rfl:e'=e:=Option.some.inj (he'.symm.trans he);have h1:=Lib.compact_length_le (jY (Y7 true e'));have h2:=mH (Y7 true e');have h3:=qs true e';refine ⟨by omega,?_⟩;unfold Zx;omega
end Go.Proofs.YtdigkhaofjmgkaaGreatDoor
