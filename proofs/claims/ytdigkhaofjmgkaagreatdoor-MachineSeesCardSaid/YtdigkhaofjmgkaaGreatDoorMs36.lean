/- Parts. -/
import Derived.Test.YtdigkhaofjmgkaaGreatDoorMs28
import Derived.Lib.AtoiAll
import Derived.Lib.ItoaNum
set_option linter.unusedSimpArgs false
set_option linter.unusedVariables false
namespace Go.Proofs.YtdigkhaofjmgkaaGreatDoor
open Go.Av
def nY:List Tx:=[[],[105,110,112,117,116],[99,111,105,108],[116,105,109,101,114],[99,111,117,110,116,101,114]]
def kwR:List Tx:=[[],[],[115,101,116],[114,101,115,101,116],[114,117,110],[99,111,117,110,116],[122,101,114,111]]
def ixW (l:List Tx) (s:Tx):Int:=idx (fun x=>x == s) l
def qE (w:Tx):Option Int:=match Lib.atoiAll w with
 | .ok v=>if Lib.itoa v=w then some v else none
 | _=>none
inductive mJ where
 | form
 | bad (c:Int) (off:Nat)
 | name (n:eM)
 | lv (r:fI)
def jC (k:Int) (nm hd rest:Tx):mJ:=match (fF rest).2 with
 | some (c,o)=>.bad c (hd.length+1+o.getD 0)
 | none=>.lv ⟨k,nm,(fF rest).1⟩
def l3 (hd rest:Tx):List Tx->mJ
 | [a]=>jC 1 a hd rest
 | [a,b]=>if ixW kwR a < 2 then .form else jC (ixW kwR a) b hd rest
 | _=>.form
def abB (k:Int):List Tx->mJ
 | [b]=>if 1<=k/\k < 3 then .name ⟨b,k,0⟩ else .form
 | [b,c]=>if 3<=k then (match qE c with | some v=>.name ⟨b,k,v⟩ | none=>.form) else .form
 | _=>.form
def acK:List Tx->mJ
 | a :: l=>abB (ixW nY a) l
 | []=>.form
def abD (s:Tx):mJ:=if (61:UInt8)∈s then l3 (cutAt 61 s).1 (cutAt 61 s).2 (fy (cutAt 61 s).1) else acK (fy s)
structure PrS where
 names:List eM
 gB:List Nat
 aaw:List fI
 gF:List Nat
def lr:PrS:=⟨[],[],[],[]⟩
def ij (s:PrS) (pl:Nat) (ln:Tx):(Int×Nat) ⊕ PrS:=
 if fy ln=[] then .inr s else match abD ln with
  | .form=>.inl (3,pl)
  | .bad c off=>.inl (c,pl+off)
  | .name n=>if s.aaw=[] then .inr ⟨s.names ++ [n],s.gB ++ [pl],s.aaw,s.gF⟩ else .inl (3,pl)
  | .lv r=>.inr ⟨s.names,s.gB,s.aaw ++ [r],s.gF ++ [pl]⟩
def eE (l:List Tx):Nat->(Int×Nat) ⊕ PrS
 | 0=>.inr lr
 | k+1=>match eE l k with
  | .inl e=>.inl e
  | .inr s=>ij s (gE l k) (l.getD k [])
def gD (t:Tx):Option (Int×Option Nat)×PgP:=
 if 20000 < t.length then (some (4,none),⟨[],[]⟩) else match eE (abe 10 t) (abe 10 t).length with
  | .inl (c,i)=>(some (c,some i),⟨[],[]⟩)
  | .inr s=>match cf ⟨s.names,s.aaw⟩ with
   | none=>(none,⟨s.names,s.aaw⟩)
   | some (c,none)=>(some (c,none),⟨[],[]⟩)
   | some (c,some i)=>(some (c,some ((s.gB ++ s.gF).getD i 0)),⟨[],[]⟩)
theorem VL {l:List Tx} {e:Int×Nat} {k:Nat} (h:eE l k = .inl e):∀ j,k<=j->eE l j = .inl e:=by
 intro j hj
 induction j with
 | zero => obtain rfl : k = 0 := by omega
           exact h
 | succ j ih=>
  rcases Nat.lt_or_ge k (j+1)with h1 | h1
  .rw[eE,ih (by omega)]
  .obtain rfl:k=j+1:=by omega
   exact h
theorem JU {l:List Tx} {s:PrS} {e:Int×Nat} {k:Nat} (hk:k < l.length) (h:eE l k = .inr s) (he:ij s (gE l k) l[k] = .inl e):eE l l.length = .inl e:=by
 refine VL (k:=k+1) ?_ _ (by omega);rw[eE,h];show ij s (gE l k) (l.getD k [])=_;rw[List.getD_eq_getElem?_getD,List.getElem?_eq_getElem hk];exact he
theorem JV {l:List Tx} {s s':PrS} {k:Nat} (hk:k < l.length) (h:eE l k = .inr s) (he:ij s (gE l k) l[k] = .inr s'):eE l (k+1) = .inr s':=by
 rw[eE,h];show ij s (gE l k) (l.getD k [])=_;rw[List.getD_eq_getElem?_getD,List.getElem?_eq_getElem hk];exact he
theorem D7 {t:Tx} {c:Int} {i:Nat} (ht:t.length<=20000) (h:eE (abe 10 t) (abe 10 t).length = .inl (c,i)):gD t=(some (c,some i),⟨[],[]⟩):=by
 unfold gD;rw[if_neg (by omega),h]
theorem D8 {t : Tx} {s : PrS} (ht : t.length <= 20000) (h : eE (abe 10 t) (abe 10 t).length = .inr s) : gD t = match cf ⟨s.names, s.aaw⟩ with
      | none=>(none,⟨s.names,s.aaw⟩)
      | some (c,none)=>(some (c,none),⟨[],[]⟩)
      | some (c,some i)=>(some (c,some ((s.gB ++ s.gF).getD i 0)),⟨[],[]⟩):=by
 unfold gD;rw[if_neg (by omega),h]
def qW {α:Type} (t:Tx) (f:Nat->Rs α):Prop:=∀ i c p q,i<=t.length->f i = .err c p q->p<=t.length
theorem wW {α β:Type} {f:α->β} {r:Rs α} {c:Int} {p q:Nat} (h:r.map f = .err c p q):r = .err c p q:=by
 cases r with
 | ok x j=>cases h
 | err c' p' q'=>
  simp only[Rs.map,Rs.err.injEq]at h;obtain⟨rfl,rfl,rfl⟩:=h;rfl
theorem E5 (t:Tx) (q0:Nat):qW t (abq t q0):=fun i c p q hi h=>by
 unfold abq at h;have:=acL hi;split at h
 .simp only[Rs.err.injEq]at h;omega
 .split at h
  .simp only[Rs.err.injEq]at h;omega
  .cases h
theorem EF {α:Type} {t:Tx} {s:UInt8} {f:Nat->Rs α} (hg:il t f) (hf:qW t f):∀ (n i:Nat) (acc:List α) (c:Int) (p q:Nat),i<=t.length->abO t s f n i acc = .err c p q->p<=t.length
 | 0,i,acc,c,p,q,hi,h=>by
  simp only[abO,Rs.err.injEq]at h;omega
 | n+1,i,acc,c,p,q,hi,h=>by
  rw[abO]at h
  cases bz:f i with
  | err c' p' q'=>
   rw[bz]at h;simp only[Rs.err.injEq]at h;have:=hf i c' p' q' hi bz;omega
  | ok x j=>
   rw[bz]at h;dsimp only at h;have hj:=hg i x j hi bz;split at h
   .exact EF hg hf n _ _ c p q (acY hj.2).2.1 h
   .cases h
theorem Md {t:Tx} {one:Nat->Rs Ex} (hg:il t one) (h:qW t one):qW t (jE t one):=fun i c p q hi he=>EF hg h _ _ _ c p q hi (wW he)
theorem JB {t:Tx} {one:Nat->Rs Ex} (hg:il t one) (h:qW t one):qW t (ic t one):=fun i c p q hi he=>EF (vg hg) (Md hg h) _ _ _ c p q hi (wW he)
theorem Jy (t:Tx):∀ d,qW t (bT t d)
 | 0=>fun i c p q hi h=>by
  simp only[bT,Rs.err.injEq]at h;have:=acL hi;omega
 | d+1=>fun i c p q hi h=>by
  have ih:=Jy t d;have hs:=acL hi;have nx:∀ {x:UInt8},t[aaD t i]? = some x->aaD t i+1<=t.length:=fun h=>(List.getElem?_eq_some_iff.1 h).1;rw[bT]at h;split at h
  .rename_i hc
   cases he:bT t d (aaD t i+1) with
   | ok y k=>rw[he]at h;cases h
   | err c' p' q'=>
    rw[he]at h;simp only[Rs.err.injEq]at h;have:=ih _ _ _ _ (nx hc) he;omega
  split at h
  .rename_i hc
   cases he:ic t (bT t d) (aaD t i+1) with
   | ok y k=>
    rw[he]at h;dsimp only at h;have hk:=adZ (acX t d) _ _ _ (nx hc) he;split at h
    .cases h
    .simp only[Rs.err.injEq]at h;have:=(acY (c:=41) hk.2).2.1;omega
   | err c' p' q'=>
    rw[he]at h;simp only[Rs.err.injEq]at h;have:=JB (acX t d) ih _ _ _ _ (nx hc) he;omega
  split at h
  .cases h
  split at h
  .cases h
  split at h
  .rename_i hc;exact E5 t 1 _ _ _ _ (nx hc) (wW h)
  split at h
  .rename_i hc;exact E5 t 2 _ _ _ _ (nx hc) (wW h)
  .exact E5 t 3 _ _ _ _ hs (wW h)
theorem xc {t:Tx} {c:Int} {p:Nat} (h:(fF t).2=some (c,some p)):p<=t.length:=by
 unfold fF at h;split at h
 .cases h
 .split at h
  .rename_i c' p' q' he;simp only[Option.some.injEq,Prod.mk.injEq]at h;have:=JB (acX t 20) (Jy t 20) 0 _ _ _ (Nat.zero_le _) he;omega
  .rename_i x i he;have:=adZ (acX t 20) 0 _ _ (Nat.zero_le _) he;split at h
   .simp only[Option.some.injEq,Prod.mk.injEq]at h;have:=acL this.2;omega
   .cases h
structure vc (m:Nat) (s:PrS):Prop where
 nl:s.gB.length=s.names.length
 rl:s.gF.length=s.aaw.length
 nm:s.names.length+s.aaw.length<=m
 nn:∀ n∈s.names,n.name.length<=20000
 cb:∀ r∈s.aaw,(∃ e,r.cond=some e/\bE e<=10000/\fi e)/\r.name.length<=20000
theorem KM {k:Int} {nm hd rest:Tx} {r:fI} (h:jC k nm hd rest = .lv r):∃ e,r.cond=some e/\(fF rest).1=some e/\(fF rest).2=none/\r.name=nm/\r.kind=k:=by
 unfold jC at h;split at h
 .cases h
 .rename_i hn;simp only[mJ.lv.injEq]at h;obtain⟨e,he⟩:=xd hn;subst h;exact⟨e,he,he,hn,rfl,rfl⟩
theorem KK {k:Int} {nm hd rest:Tx} {n:eM}:jC k nm hd rest≠.name n:=by
 unfold jC;split<;>simp
theorem afO {hd rest:Tx} {l:List Tx} {r:fI} (h:l3 hd rest l = .lv r):∃ k nm,nm∈l/\jC k nm hd rest = .lv r:=by
 match l,h with
 | [a],h=>exact⟨_,a,by simp,h⟩
 | [a,b],h=>
  simp only[l3]at h;split at h
  .cases h
  .exact⟨_,b,by simp,h⟩
theorem U0 {l:List Tx} {n:eM} (h:acK l = .name n):n.name∈l:=by
 match l,h with
 | a :: [b],h=>
  simp only[acK,abB]at h;split at h
  .simp only[mJ.name.injEq]at h;subst h;simp
  .cases h
 | a :: [b,c],h=>
  simp only[acK,abB]at h;split at h
  .split at h
   .simp only[mJ.name.injEq]at h;subst h;simp
   .cases h
  .cases h
theorem Jf {l:List Tx} {r:fI}:acK l≠.lv r:=by
 match l with
 | []=>simp[acK]
 | [a]=>simp[acK,abB]
 | [a,b]=>simp only[acK,abB];split<;>simp
 | [a,b,c]=>simp only[acK,abB];split<;>(try split)<;>simp
 | a :: b :: c :: d :: l=>simp[acK,abB]
theorem WZ {hd rest:Tx} {l:List Tx} {n:eM}:l3 hd rest l≠.name n:=by
 match l with
 | []=>simp[l3]
 | [a]=>exact KK
 | [a, b] => simp only [l3]; split; · simp
             .exact KK
 | a :: b :: c :: l=>simp[l3]
theorem x7 (c:UInt8) (t:Tx):(cutAt c t).1.length<=t.length/\(cutAt c t).2.length<=t.length:=by
 by_cases h:c∈t
 .obtain⟨h1,_⟩:=NH h;have:=congrArg List.length h1;simp only[List.length_append,List.length_cons]at this;omega
 .unfold cutAt;have h1:=EV (fun x=>!decide (x=c)) t;have h2:=(List.dropWhile_sublist (l:=t) (fun x=>!decide (x=c))).length_le;dsimp only;rw[List.length_drop];omega
theorem SY {s:Tx} {n:eM} (h:abD s = .name n):n.name.length<=s.length/\n.name≠[]:=by
 unfold abD at h;split at h
 .exact absurd h WZ
 .have:=AB (U0 h);exact⟨this.2,this.1⟩
theorem S0 {s:Tx} {r:fI} (h:abD s = .lv r):(∃ e,r.cond=some e/\bE e<=10000/\fi e)/\r.name.length<=s.length:=by
 unfold abD at h;split at h
 .obtain⟨k,nm,hm,hr⟩:=afO h;obtain⟨e,he,hp,_,hn,_⟩:=KM hr;have h1:=AB hm;have h2:=x7 61 s;exact⟨⟨e,he,JL hp,(Ea hp).1⟩,by rw[hn];omega⟩
 .exact absurd h Jf
theorem VN {s s':PrS} {m pl:Nat} {ln:Tx} (hs:vc m s) (hl:ln.length<=20000) (h:ij s pl ln = .inr s'):vc (m+1) s':=by
 obtain⟨h1,h2,h3,h4,h5⟩:=hs;unfold ij at h;split at h
 .simp only[Sum.inr.injEq]at h;subst h;exact⟨h1,h2,by omega,h4,h5⟩
 .split at h
  .cases h
  .cases h
  .rename_i n hn;split at h
   .simp only[Sum.inr.injEq]at h;subst h;refine⟨by simp[h1],h2,by simp;omega,fun x hx=>?_,h5⟩
    rcases List.mem_append.1 hx with hx | hx
    .exact h4 x hx
    .obtain rfl:x=n:=by simpa using hx
     have:=(SY hn).1;omega
   .cases h
  .rename_i r hr;simp only[Sum.inr.injEq]at h;subst h;refine⟨h1,by simp[h2],by simp;omega,h4,fun x hx=>?_⟩
   rcases List.mem_append.1 hx with hx | hx
   .exact h5 x hx
   .obtain rfl:x=r:=by simpa using hx
    have:=S0 hr;exact⟨this.1,by omega⟩
theorem VO:vc 0 lr:=⟨rfl,rfl,Nat.le_refl _,by simp[lr],by simp[lr]⟩
theorem xj {t:Tx} (ht:t.length<=20000):∀ {k:Nat} {s:PrS},k<=(abe 10 t).length->eE (abe 10 t) k = .inr s->vc k s
 | 0,s,_,h=>by
  simp only[eE,Sum.inr.injEq]at h;subst h;exact VO
 | k+1,s,hk,h=>by
  rw[eE]at h;split at h
  .cases h
  .rename_i s0 h0;refine VN (xj ht (by omega) h0) ?_ h;rw[List.getD_eq_getElem?_getD,List.getElem?_eq_getElem (by omega)];have:=Ef (c:=10) (t:=t) (k:=k) (by omega);simp only[Option.getD_some];omega
theorem JZ {m:Nat} {s:PrS} (h:vc m s) (hm:m<=30000):xO ⟨s.names,s.aaw⟩:=by
 obtain⟨h1,h2,h3,h4,h5⟩:=h;refine⟨by show s.names.length < _;omega,by show s.aaw.length < _;omega,fun n hn=>by have:=h4 n hn;omega,fun r hr e he=>?_⟩;obtain⟨⟨e',gV,hb,_⟩,_⟩:=h5 r hr;obtain rfl:e'=e:=Option.some.inj (gV.symm.trans he);have h1:=Lib.compact_length_le (jW (ck true e'));have h2:=adM (ck true e');have h3:=sB true e';refine⟨by omega,?_⟩;unfold du;omega
