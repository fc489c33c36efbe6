/- Parts. -/
import Derived.Test.YtdigkhaofjmgkaaGreatDoorIs25
import Derived.Lib.AtoiAll
import Derived.Lib.ItoaNum
set_option linter.unusedSimpArgs false
set_option linter.unusedVariables false
namespace Go.Proofs.YtdigkhaofjmgkaaGreatDoor
open Go.Av
def o0:List Tx:=[[],[105,110,112,117,116],[99,111,105,108],[116,105,109,101,114],[99,111,117,110,116,101,114]]
def kwR:List Tx:=[[],[],[115,101,116],[114,101,115,101,116],[114,117,110],[99,111,117,110,116],[122,101,114,111]]
def ixW (l:List Tx) (s:Tx):Int:=idx (fun x=>x == s) l
def acb (w:Tx):Option Int:=match Lib.atoiAll w with
 | .ok v=>if Lib.itoa v=w then some v else none
 | _=>none
inductive l3 where
 | form
 | bad (c:Int) (off:Nat)
 | name (n:dL)
 | jq (r:fh)
def jW (k:Int) (nm hd rest:Tx):l3:=match (Zx rest).2 with
 | some (c,o)=>.bad c (hd.length+1+o.getD 0)
 | none=>.jq ⟨k,nm,(Zx rest).1⟩
def lf (hd rest:Tx):List Tx->l3
 | [a]=>jW 1 a hd rest
 | [a,b]=>if ixW kwR a < 2 then .form else jW (ixW kwR a) b hd rest
 | _=>.form
def eC (k:Int):List Tx->l3
 | [b]=>if 1<=k/\k < 3 then .name ⟨b,k,0⟩ else .form
 | [b,c]=>if 3<=k then (match acb c with | some v=>.name ⟨b,k,v⟩ | none=>.form) else .form
 | _=>.form
def il:List Tx->l3
 | a :: l=>eC (ixW o0 a) l
 | []=>.form
def gG (s:Tx):l3:=if (61:UInt8)∈s then lf (cutAt 61 s).1 (cutAt 61 s).2 (dW (cutAt 61 s).1) else il (dW s)
structure kK where
 names:List dL
 hU:List Nat
 ar:List fh
 rAt:List Nat
def mC:kK:=⟨[],[],[],[]⟩
def aaQ (s:kK) (pl:Nat) (ln:Tx):(Int×Nat) ⊕ kK:=
 if dW ln=[] then .inr s else match gG ln with
  | .form=>.inl (3,pl)
  | .bad c off=>.inl (c,pl+off)
  | .name n=>if s.ar=[] then .inr ⟨s.names ++ [n],s.hU ++ [pl],s.ar,s.rAt⟩ else .inl (3,pl)
  | .jq r=>.inr ⟨s.names,s.hU,s.ar ++ [r],s.rAt ++ [pl]⟩
def ZD (l:List Tx):Nat->(Int×Nat) ⊕ kK
 | 0=>.inr mC
 | k+1=>match ZD l k with
  | .inl e=>.inl e
  | .inr s=>aaQ s (Z4 l k) (l.getD k [])
def fV (t:Tx):Option (Int×Option Nat)×YM:=
 if 20000 < t.length then (some (4,none),⟨[],[]⟩) else match ZD (Zk 10 t) (Zk 10 t).length with
  | .inl (c,i)=>(some (c,some i),⟨[],[]⟩)
  | .inr s=>match Y3 ⟨s.names,s.ar⟩ with
   | none=>(none,⟨s.names,s.ar⟩)
   | some (c,none)=>(some (c,none),⟨[],[]⟩)
   | some (c,some i)=>(some (c,some ((s.hU ++ s.rAt).getD i 0)),⟨[],[]⟩)
theorem Uu {l:List Tx} {e:Int×Nat} {k:Nat} (h:ZD l k = .inl e):∀ j,k<=j->ZD l j = .inl e:=by
 intro j hj
 induction j with
 | zero => obtain rfl : k = 0 := by omega
           exact h
 | succ j ih=>
  rcases Nat.lt_or_ge k (j+1)with h1 | h1
  .rw[ZD,ih (by omega)]
  .obtain rfl:k=j+1:=by omega
   exact h
theorem Us {l:List Tx} {s:kK} {e:Int×Nat} {k:Nat} (hk:k < l.length) (h:ZD l k = .inr s) (he:aaQ s (Z4 l k) l[k] = .inl e):ZD l l.length = .inl e:=by
 refine Uu (k:=k+1) ?_ _ (by omega);rw[ZD,h];show aaQ s (Z4 l k) (l.getD k [])=_;rw[List.getD_eq_getElem?_getD,List.getElem?_eq_getElem hk];exact he
theorem Ut {l:List Tx} {s s':kK} {k:Nat} (hk:k < l.length) (h:ZD l k = .inr s) (he:aaQ s (Z4 l k) l[k] = .inr s'):ZD l (k+1) = .inr s':=by
 rw[ZD,h];show aaQ s (Z4 l k) (l.getD k [])=_;rw[List.getD_eq_getElem?_getD,List.getElem?_eq_getElem hk];exact he
theorem Ik {t:Tx} {c:Int} {i:Nat} (ht:t.length<=20000) (h:ZD (Zk 10 t) (Zk 10 t).length = .inl (c,i)):fV t=(some (c,some i),⟨[],[]⟩):=by
 unfold fV;rw[if_neg (by omega),h]
theorem Cx {t : Tx} {s : kK} (ht : t.length <= 20000) (h : ZD (Zk 10 t) (Zk 10 t).length = .inr s) : fV t = match Y3 ⟨s.names, s.ar⟩ with
      | none=>(none,⟨s.names,s.ar⟩)
      | some (c,none)=>(some (c,none),⟨[],[]⟩)
      | some (c,some i)=>(some (c,some ((s.hU ++ s.rAt).getD i 0)),⟨[],[]⟩):=by
 unfold fV;rw[if_neg (by omega),h]
def pt {α:Type} (t:Tx) (f:Nat->Rs α):Prop:=∀ i c p q,i<=t.length->f i = .err c p q->p<=t.length
theorem ux {α β:Type} {f:α->β} {r:Rs α} {c:Int} {p q:Nat} (h:r.map f = .err c p q):r = .err c p q:=by
 cases r with
 | ok x j=>cases h
 | err c' p' q'=>
  simp only[Rs.map,Rs.err.injEq]at h;obtain⟨rfl,rfl,rfl⟩:=h;rfl
theorem Dj (t:Tx) (q0:Nat):pt t (fI t q0):=fun i c p q hi h=>by
 unfold fI at h;have:=iu hi;split at h
 .simp only[Rs.err.injEq]at h;omega
 .split at h
  .simp only[Rs.err.injEq]at h;omega
  .cases h
theorem CU {α:Type} {t:Tx} {s:UInt8} {f:Nat->Rs α} (hg:aaD t f) (hf:pt t f):∀ (n i:Nat) (acc:List α) (c:Int) (p q:Nat),i<=t.length->e8 t s f n i acc = .err c p q->p<=t.length
 | 0,i,acc,c,p,q,hi,h=>by
  simp only[e8,Rs.err.injEq]at h;omega
 | n+1,i,acc,c,p,q,hi,h=>by
  rw[e8]at h
  cases ZF:f i with
  | err c' p' q'=>
   rw[ZF]at h;simp only[Rs.err.injEq]at h;have:=hf i c' p' q' hi ZF;omega
  | ok x j=>
   rw[ZF]at h;dsimp only at h;have hj:=hg i x j hi ZF;split at h
   .exact CU hg hf n _ _ c p q (mJ hj.2).2.1 h
   .cases h
theorem adQ {t:Tx} {one:Nat->Rs Ex} (hg:aaD t one) (h:pt t one):pt t (iP t one):=fun i c p q hi he=>CU hg h _ _ _ c p q hi (ux he)
theorem H9 {t:Tx} {one:Nat->Rs Ex} (hg:aaD t one) (h:pt t one):pt t (iq t one):=fun i c p q hi he=>CU (qV hg) (adQ hg h) _ _ _ c p q hi (ux he)
theorem adK (t:Tx):∀ d,pt t (bJ t d)
 | 0=>fun i c p q hi h=>by
  simp only[bJ,Rs.err.injEq]at h;have:=iu hi;omega
 | d+1=>fun i c p q hi h=>by
  have ih:=adK t d;have hs:=iu hi;have nx:∀ {x:UInt8},t[aM t i]? = some x->aM t i+1<=t.length:=fun h=>(List.getElem?_eq_some_iff.1 h).1;rw[bJ]at h;split at h
  .rename_i hc
   cases he:bJ t d (aM t i+1) with
   | ok y k=>rw[he]at h;cases h
   | err c' p' q'=>
    rw[he]at h;simp only[Rs.err.injEq]at h;have:=ih _ _ _ _ (nx hc) he;omega
  split at h
  .rename_i hc
   cases he:iq t (bJ t d) (aM t i+1) with
   | ok y k=>
    rw[he]at h;dsimp only at h;have hk:=qx (iM t d) _ _ _ (nx hc) he;split at h
    .cases h
    .simp only[Rs.err.injEq]at h;have:=(mJ (c:=41) hk.2).2.1;omega
   | err c' p' q'=>
    rw[he]at h;simp only[Rs.err.injEq]at h;have:=H9 (iM t d) ih _ _ _ _ (nx hc) he;omega
  split at h
  .cases h
  split at h
  .cases h
  split at h
  .rename_i hc;exact Dj t 1 _ _ _ _ (nx hc) (ux h)
  split at h
  .rename_i hc;exact Dj t 2 _ _ _ _ (nx hc) (ux h)
  .exact Dj t 3 _ _ _ _ hs (ux h)
theorem Cy {t:Tx} {c:Int} {p:Nat} (h:(Zx t).2=some (c,some p)):p<=t.length:=by
 unfold Zx at h;split at h
 .cases h
 .split at h
  .rename_i c' p' q' he;simp only[Option.some.injEq,Prod.mk.injEq]at h;have:=H9 (iM t 20) (adK t 20) 0 _ _ _ (Nat.zero_le _) he;omega
  .rename_i x i he;have:=qx (iM t 20) 0 _ _ (Nat.zero_le _) he;split at h
   .simp only[Option.some.injEq,Prod.mk.injEq]at h;have:=iu this.2;omega
   .cases h
structure ach (m:Nat) (s:kK):Prop where
 nl:s.hU.length=s.names.length
 rl:s.rAt.length=s.ar.length
 nm:s.names.length+s.ar.length<=m
 nn:∀ n∈s.names,n.name.length<=20000
 cb:∀ r∈s.ar,(∃ e,r.cond=some e/\bE e<=10000/\cD e)/\r.name.length<=20000
theorem Jn {k:Int} {nm hd rest:Tx} {r:fh} (h:jW k nm hd rest = .jq r):∃ e,r.cond=some e/\(Zx rest).1=some e/\(Zx rest).2=none/\r.name=nm/\r.kind=k:=by
 unfold jW at h;split at h
 .cases h
 .rename_i hn;simp only[l3.jq.injEq]at h;obtain⟨e,he⟩:=xY hn;subst h;exact⟨e,he,he,hn,rfl,rfl⟩
theorem Jm {k:Int} {nm hd rest:Tx} {n:dL}:jW k nm hd rest≠.name n:=by
 unfold jW;split<;>simp
theorem Jk {hd rest:Tx} {l:List Tx} {r:fh} (h:lf hd rest l = .jq r):∃ k nm,nm∈l/\jW k nm hd rest = .jq r:=by
 match l,h with
 | [a],h=>exact⟨_,a,by simp,h⟩
 | [a,b],h=>
  simp only[lf]at h;split at h
  .cases h
  .exact⟨_,b,by simp,h⟩
theorem TD {l:List Tx} {n:dL} (h:il l = .name n):n.name∈l:=by
 match l,h with
 | a :: [b],h=>
  simp only[il,eC]at h;split at h
  .simp only[l3.name.injEq]at h;subst h;simp
  .cases h
 | a :: [b,c],h=>
  simp only[il,eC]at h;split at h
  .split at h
   .simp only[l3.name.injEq]at h;subst h;simp
   .cases h
  .cases h
theorem HO {l:List Tx} {r:fh}:il l≠.jq r:=by
 match l with
 | []=>simp[il]
 | [a]=>simp[il,eC]
 | [a,b]=>simp only[il,eC];split<;>simp
 | [a,b,c]=>simp only[il,eC];split<;>(try split)<;>simp
 | a :: b :: c :: d :: l=>simp[il,eC]
theorem Vx {hd rest:Tx} {l:List Tx} {n:dL}:lf hd rest l≠.name n:=by
 match l with
 | []=>simp[lf]
 | [a]=>exact Jm
 | [a, b] => simp only [lf]; split; · simp
             .exact Jm
 | a :: b :: c :: l=>simp[lf]
theorem zk (c:UInt8) (t:Tx):(cutAt c t).1.length<=t.length/\(cutAt c t).2.length<=t.length:=by
 by_cases h:c∈t
 .obtain⟨h1,_⟩:=Me h;have:=congrArg List.length h1;simp only[List.length_append,List.length_cons]at this;omega
 .unfold cutAt;have h1:=Db (fun x=>!decide (x=c)) t;have h2:=(List.dropWhile_sublist (l:=t) (fun x=>!decide (x=c))).length_le;dsimp only;rw[List.length_drop];omega
theorem S3 {s:Tx} {n:dL} (h:gG s = .name n):n.name.length<=s.length/\n.name≠[]:=by
 unfold gG at h;split at h
 .exact absurd h Vx
 .have:=Dq (TD h);exact⟨this.2,this.1⟩
theorem S4 {s:Tx} {r:fh} (h:gG s = .jq r):(∃ e,r.cond=some e/\bE e<=10000/\cD e)/\r.name.length<=s.length:=by
 unfold gG at h;split at h
 .obtain⟨k,nm,hm,hr⟩:=Jk h;obtain⟨e,he,hp,_,hn,_⟩:=Jn hr;have h1:=Dq hm;have h2:=zk 61 s;exact⟨⟨e,he,uM hp,(r0 hp).1⟩,by rw[hn];omega⟩
 .exact absurd h HO
theorem Uw {s s':kK} {m pl:Nat} {ln:Tx} (hs:ach m s) (hl:ln.length<=20000) (h:aaQ s pl ln = .inr s'):ach (m+1) s':=by
 obtain⟨h1,h2,h3,h4,h5⟩:=hs;unfold aaQ at h;split at h
 .simp only[Sum.inr.injEq]at h;subst h;exact⟨h1,h2,by omega,h4,h5⟩
 .split at h
  .cases h
  .cases h
  .rename_i n hn;split at h
   .simp only[Sum.inr.injEq]at h;subst h;refine⟨by simp[h1],h2,by simp;omega,fun x hx=>?_,h5⟩
    rcases List.mem_append.1 hx with hx | hx
    .exact h4 x hx
    .obtain rfl:x=n:=by simpa using hx
     have:=(S3 hn).1;omega
   .cases h
  .rename_i r hr;simp only[Sum.inr.injEq]at h;subst h;refine⟨h1,by simp[h2],by simp;omega,h4,fun x hx=>?_⟩
   rcases List.mem_append.1 hx with hx | hx
   .exact h5 x hx
   .obtain rfl:x=r:=by simpa using hx
    have:=S4 hr;exact⟨this.1,by omega⟩
theorem Ux:ach 0 mC:=⟨rfl,rfl,Nat.le_refl _,by simp[mC],by simp[mC]⟩
theorem CE {t:Tx} (ht:t.length<=20000):∀ {k:Nat} {s:kK},k<=(Zk 10 t).length->ZD (Zk 10 t) k = .inr s->ach k s
 | 0,s,_,h=>by
  simp only[ZD,Sum.inr.injEq]at h;subst h;exact Ux
 | k+1,s,hk,h=>by
  rw[ZD]at h;split at h
  .cases h
  .rename_i s0 h0;refine Uw (CE ht (by omega) h0) ?_ h;rw[List.getD_eq_getElem?_getD,List.getElem?_eq_getElem (by omega)];have:=Ip (c:=10) (t:=t) (k:=k) (by omega);simp only[Option.getD_some];omega
theorem Uv {m:Nat} {s:kK} (h:ach m s) (hm:m<=30000):yK ⟨s.names,s.ar⟩:=by
 obtain⟨h1,h2,h3,h4,h5⟩:=h;refine⟨by show s.names.length < _;omega,by show s.ar.length < _;omega,fun n hn=>by have:=h4 n hn;omega,fun r hr e he=>?_⟩;obtain⟨⟨e',he',hb,_⟩,_⟩:=h5 r hr;obtain rfl:e'=e:=Option.some.inj (he'.symm.trans he);have h1:=Lib.compact_length_le (jY (Y6 true e'));have h2:=mH (Y6 true e');have h3:=qs true e';refine⟨by omega,?_⟩;unfold Zw;omega
