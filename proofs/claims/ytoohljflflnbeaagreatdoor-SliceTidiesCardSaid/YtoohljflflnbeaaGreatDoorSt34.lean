/- Parts. -/
import Derived.Test.YtoohljflflnbeaaGreatDoorSt33
import Derived.Lib.AtoiAll
import Derived.Lib.ItoaNum
set_option linter.unusedSimpArgs false
set_option linter.unusedVariables false
namespace Go.Proofs.YtoohljflflnbeaaGreatDoor
open Go.Av
def qD:List Tx:=[[],[105,110,112,117,116],[99,111,105,108],[116,105,109,101,114],[99,111,117,110,116,101,114]]
def mT:List Tx:=[[],[],[115,101,116],[114,101,115,101,116],[114,117,110],[99,111,117,110,116],[122,101,114,111]]
def iP (l:List Tx) (s:Tx):Int:=idx (fun x=>x == s) l
def tn (w:Tx):Option Int:=match Lib.atoiAll w with
 | .ok v=>if Lib.itoa v=w then some v else none
 | _=>none
inductive po where
 | form
 | bad (c:Int) (off:Nat)
 | name (n:gE)
 | nQ (r:gy)
def lu (k:Int) (nm hd rest:Tx):po:=match (gB rest).2 with
 | some (c,o)=>.bad c (hd.length+1+o.getD 0)
 | none=>.nQ ⟨k,nm,(gB rest).1⟩
def oR (hd rest:Tx):List Tx->po
 | [a]=>lu 1 a hd rest
 | [a,b]=>if iP mT a < 2 then .form else lu (iP mT a) b hd rest
 | _=>.form
def fP (k:Int):List Tx->po
 | [b]=>if 1<=k/\k < 3 then .name ⟨b,k,0⟩ else .form
 | [b,c]=>if 3<=k then (match tn c with | some v=>.name ⟨b,k,v⟩ | none=>.form) else .form
 | _=>.form
def jX:List Tx->po
 | a :: l=>fP (iP qD a) l
 | []=>.form
def fY (s:Tx):po:=if (61:UInt8)∈s then oR (cutAt 61 s).1 (cutAt 61 s).2 (gx (cutAt 61 s).1) else jX (gx s)
structure ni where
 names:List gE
 ia:List Nat
 ao:List gy
 ij:List Nat
def nM:ni:=⟨[],[],[],[]⟩
def jY (s:ni) (pl:Nat) (ln:Tx):(Int×Nat) ⊕ ni:=
 if gx ln=[] then .inr s else match fY ln with
  | .form=>.inl (3,pl)
  | .bad c off=>.inl (c,pl+off)
  | .name n=>if s.ao=[] then .inr ⟨s.names ++ [n],s.ia ++ [pl],s.ao,s.ij⟩ else .inl (3,pl)
  | .nQ r=>.inr ⟨s.names,s.ia,s.ao ++ [r],s.ij ++ [pl]⟩
def fE (l:List Tx):Nat->(Int×Nat) ⊕ ni
 | 0=>.inr nM
 | k+1=>match fE l k with
  | .inl e=>.inl e
  | .inr s=>jY s (ig l k) (l.getD k [])
def ie (t:Tx):Option (Int×Option Nat)×dJ:=
 if 20000 < t.length then (some (4,none),⟨[],[]⟩) else match fE (eE 10 t) (eE 10 t).length with
  | .inl (c,i)=>(some (c,some i),⟨[],[]⟩)
  | .inr s=>match gJ ⟨s.names,s.ao⟩ with
   | none=>(none,⟨s.names,s.ao⟩)
   | some (c,none)=>(some (c,none),⟨[],[]⟩)
   | some (c,some i)=>(some (c,some ((s.ia ++ s.ij).getD i 0)),⟨[],[]⟩)
theorem Vz {l:List Tx} {e:Int×Nat} {k:Nat} (h:fE l k = .inl e):∀ j,k<=j->fE l j = .inl e:=by
 intro j hj
 induction j with
 | zero => obtain rfl : k = 0 := aa
           exact h
 | succ j ih=>
  rcases ab7 k (j+1)with h1 | h1
  .rw[fE,ih aa]
  .obtain rfl:k=j+1:=aa
   exact h
theorem L7 {l:List Tx} {s:ni} {e:Int×Nat} {k:Nat} (hk:k < l.length) (h:fE l k = .inr s) (he:jY s (ig l k) l[k] = .inl e):fE l l.length = .inl e:=by
 refine Vz (k:=k+1) ?_ _ aa;rw[fE,h];show jY s (ig l k) (l.getD k [])=_;rw[aa5,IN hk];exact he
theorem L8 {l:List Tx} {s s':ni} {k:Nat} (hk:k < l.length) (h:fE l k = .inr s) (he:jY s (ig l k) l[k] = .inr s'):fE l (k+1) = .inr s':=by
 rw[fE,h];show jY s (ig l k) (l.getD k [])=_;rw[aa5,IN hk];exact he
theorem GC {t:Tx} {c:Int} {i:Nat} (ht:t.length<=20000) (h:fE (eE 10 t) (eE 10 t).length = .inl (c,i)):ie t=(some (c,some i),⟨[],[]⟩):=by
 unfold ie;rw[if_neg aa,h]
theorem GD {t : Tx} {s : ni} (ht : t.length <= 20000) (h : fE (eE 10 t) (eE 10 t).length = .inr s) : ie t = match gJ ⟨s.names, s.ao⟩ with
      | none=>(none,⟨s.names,s.ao⟩)
      | some (c,none)=>(some (c,none),⟨[],[]⟩)
      | some (c,some i)=>(some (c,some ((s.ia ++ s.ij).getD i 0)),⟨[],[]⟩):=by
 unfold ie;rw[if_neg aa,h]
def tQ {α:Type} (t:Tx) (f:Nat->Rs α):Prop:=∀ i c p q,i<=t.length->f i = .err c p q->p<=t.length
theorem zh {α β:Type} {f:α->β} {r:Rs α} {c:Int} {p q:Nat} (h:r.map f = .err c p q):r = .err c p q:=by
 cases r with
 | ok x j=>cases h
 | err c' p' q'=>
  simp only[Rs.map,Rs.err.injEq]at h;obtain⟨rfl,rfl,rfl⟩:=h;rfl
theorem Hq (t:Tx) (q0:Nat):tQ t (eU t q0):=fun i c p q hi h=>by
 unfold eU at h;have:=iD hi;split at h
 .simp only[Rs.err.injEq]at h;omega
 .split at h
  .simp only[Rs.err.injEq]at h;omega
  .cases h
theorem GY {α:Type} {t:Tx} {s:UInt8} {f:Nat->Rs α} (hg:jL t f) (hf:tQ t f):∀ (n i:Nat) (acc:List α) (c:Int) (p q:Nat),i<=t.length->gv t s f n i acc = .err c p q->p<=t.length
 | 0,i,acc,c,p,q,hi,h=>by
  simp only[gv,Rs.err.injEq]at h;omega
 | n+1,i,acc,c,p,q,hi,h=>by
  rw[gv]at h
  cases ck:f i with
  | err c' p' q'=>
   rw[ck]at h;simp only[Rs.err.injEq]at h;have:=hf i c' p' q' hi ck;omega
  | ok x j=>
   rw[ck]at h;dsimp only at h;have hj:=hg i x j hi ck;split at h
   .exact GY hg hf n _ _ c p q (mj hj.2).2.1 h
   .cases h
theorem Oj {t:Tx} {one:Nat->Rs Ex} (hg:jL t one) (h:tQ t one):tQ t (j1 t one):=fun i c p q hi he=>GY hg h _ _ _ c p q hi (zh he)
theorem LN {t:Tx} {one:Nat->Rs Ex} (hg:jL t one) (h:tQ t one):tQ t (jt t one):=fun i c p q hi he=>GY (tV hg) (Oj hg h) _ _ _ c p q hi (zh he)
theorem LI (t:Tx):∀ d,tQ t (cf t d)
 | 0=>fun i c p q hi h=>by
  simp only[cf,Rs.err.injEq]at h;have:=iD hi;omega
 | d+1=>fun i c p q hi h=>by
  have ih:=LI t d;have hs:=iD hi;have nx:∀ {x:UInt8},t[aQ t i]? = some x->aQ t i+1<=t.length:=fun h=>(By.1 h).1;rw[cf]at h;split at h
  .rename_i hc
   cases he:cf t d (aQ t i+1) with
   | ok y k=>rw[he]at h;cases h
   | err c' p' q'=>
    rw[he]at h;simp only[Rs.err.injEq]at h;have:=ih _ _ _ _ (nx hc) he;omega
  split at h
  .rename_i hc
   cases he:jt t (cf t d) (aQ t i+1) with
   | ok y k=>
    rw[he]at h;dsimp only at h;have hk:=sd (kp t d) _ _ _ (nx hc) he;split at h
    .cases h
    .simp only[Rs.err.injEq]at h;have:=(mj (c:=41) hk.2).2.1;omega
   | err c' p' q'=>
    rw[he]at h;simp only[Rs.err.injEq]at h;have:=LN (kp t d) ih _ _ _ _ (nx hc) he;omega
  split at h
  .cases h
  split at h
  .cases h
  split at h
  .rename_i hc;exact Hq t 1 _ _ _ _ (nx hc) (zh h)
  split at h
  .rename_i hc;exact Hq t 2 _ _ _ _ (nx hc) (zh h)
  .exact Hq t 3 _ _ _ _ hs (zh h)
theorem zq {t:Tx} {c:Int} {p:Nat} (h:(gB t).2=some (c,some p)):p<=t.length:=by
 unfold gB at h;split at h
 .cases h
 .split at h
  .rename_i c' p' q' he;simp only[BY,aa4]at h;have:=LN (kp t 20) (LI t 20) 0 _ _ _ (acv _) he;omega
  .rename_i x i he;have:=sd (kp t 20) 0 _ _ (acv _) he;split at h
   .simp only[BY,aa4]at h;have:=iD this.2;omega
   .cases h
structure xo (m:Nat) (s:ni):Prop where
 nl:s.ia.length=s.names.length
 rl:s.ij.length=s.ao.length
 nm:s.names.length+s.ao.length<=m
 nn:∀ n∈s.names,n.name.length<=20000
 cb:∀ r∈s.ao,(∃ e,r.cond=some e/\bE e<=10000/\ew e)/\r.name.length<=20000
theorem MU {k:Int} {nm hd rest:Tx} {r:gy} (h:lu k nm hd rest = .nQ r):∃ e,r.cond=some e/\(gB rest).1=some e/\(gB rest).2=none/\r.name=nm/\r.kind=k:=by
 unfold lu at h;split at h
 .cases h
 .rename_i hn;simp only[po.nQ.injEq]at h;obtain⟨e,he⟩:=zr hn;subst h;exact⟨e,he,he,hn,rfl,rfl⟩
theorem MS {k:Int} {nm hd rest:Tx} {n:gE}:lu k nm hd rest≠.name n:=by
 unfold lu;split<;>simp
theorem MQ {hd rest:Tx} {l:List Tx} {r:gy} (h:oR hd rest l = .nQ r):∃ k nm,nm∈l/\lu k nm hd rest = .nQ r:=by
 match l,h with
 | [a],h=>exact⟨_,a,al,h⟩
 | [a,b],h=>
  simp only[oR]at h;split at h
  .cases h
  .exact⟨_,b,al,h⟩
theorem UR {l:List Tx} {n:gE} (h:jX l = .name n):n.name∈l:=by
 match l,h with
 | a :: [b],h=>
  simp only[jX,fP]at h;split at h
  .simp only[po.name.injEq]at h;subst h;simp
  .cases h
 | a :: [b,c],h=>
  simp only[jX,fP]at h;split at h
  .split at h
   .simp only[po.name.injEq]at h;subst h;simp
   .cases h
  .cases h
theorem Lm {l:List Tx} {r:gy}:jX l≠.nQ r:=by
 match l with
 | []=>simp[jX]
 | [a]=>simp[jX,fP]
 | [a,b]=>simp only[jX,fP];split<;>simp
 | [a,b,c]=>simp only[jX,fP];split<;>(try split)<;>simp
 | a :: b :: c :: d :: l=>simp[jX,fP]
theorem WB {hd rest:Tx} {l:List Tx} {n:gE}:oR hd rest l≠.name n:=by
 match l with
 | []=>simp[oR]
 | [a]=>exact MS
 | [a, b] => simp only [oR]; split; · simp
             .exact MS
 | a :: b :: c :: l=>simp[oR]
theorem Az (c:UInt8) (t:Tx):(cutAt c t).1.length<=t.length/\(cutAt c t).2.length<=t.length:=by
 by_cases h:c∈t
 .obtain⟨h1,_⟩:=Pu h;have:=congrArg List.length h1;simp only[abb,aa9]at this;omega
 .unfold cutAt;have h1:=Hc (fun x=>!decide (x=c)) t;have h2:=(List.dropWhile_sublist (l:=t) (fun x=>!decide (x=c))).length_le;dsimp only;rw[abp];omega
theorem Um {s:Tx} {n:gE} (h:fY s = .name n):n.name.length<=s.length/\n.name≠[]:=by
 unfold fY at h;split at h
 .exact absurd h WB
 .have:=CW (UR h);exact⟨this.2,this.1⟩
theorem Uo {s:Tx} {r:gy} (h:fY s = .nQ r):(∃ e,r.cond=some e/\bE e<=10000/\ew e)/\r.name.length<=s.length:=by
 unfold fY at h;split at h
 .obtain⟨k,nm,hm,hr⟩:=MQ h;obtain⟨e,he,hp,_,hn,_⟩:=MU hr;have h1:=CW hm;have h2:=Az 61 s;exact⟨⟨e,he,LX hp,(GG hp).1⟩,by rw[hn];omega⟩
 .exact absurd h Lm
theorem VA {s s':ni} {m pl:Nat} {ln:Tx} (hs:xo m s) (hl:ln.length<=20000) (h:jY s pl ln = .inr s'):xo (m+1) s':=by
 obtain⟨h1,h2,h3,h4,h5⟩:=hs;unfold jY at h;split at h
 .simp only[acy]at h;subst h;exact⟨h1,h2,aa,h4,h5⟩
 .split at h
  .cases h
  .cases h
  .rename_i n hn;split at h
   .simp only[acy]at h;subst h;refine⟨by simp[h1],h2,by simp;omega,fun x hx=>?_,h5⟩
    rcases abr.1 hx with hx | hx
    .exact h4 x hx
    .obtain rfl:x=n:=by simpa using hx
     have:=(Um hn).1;omega
   .cases h
  .rename_i r hr;simp only[acy]at h;subst h;refine⟨h1,by simp[h2],by simp;omega,h4,fun x hx=>?_⟩
   rcases abr.1 hx with hx | hx
   .exact h5 x hx
   .obtain rfl:x=r:=by simpa using hx
    have:=Uo hr;exact⟨this.1,aa⟩
theorem VB:xo 0 nM:=⟨rfl,rfl,aa8 _,by simp[nM],by simp[nM]⟩
theorem zw {t:Tx} (ht:t.length<=20000):∀ {k:Nat} {s:ni},k<=(eE 10 t).length->fE (eE 10 t) k = .inr s->xo k s
 | 0,s,_,h=>by
  simp only[fE,acy]at h;subst h;exact VB
 | k+1,s,hk,h=>by
  rw[fE]at h;split at h
  .cases h
  .rename_i s0 h0;refine VA (zw ht aa h0) ?_ h;rw[aa5,IN aa];have:=GH (c:=10) (t:=t) (k:=k) aa;simp only[acs];omega
theorem L9 {m:Nat} {s:ni} (h:xo m s) (hm:m<=30000):Aa ⟨s.names,s.ao⟩:=by
 obtain⟨h1,h2,h3,h4,h5⟩:=h;refine⟨by show s.names.length < _;omega,by show s.ao.length < _;omega,fun n hn=>by have:=h4 n hn;omega,fun r hr e he=>?_⟩;obtain⟨⟨e',mF,hb,_⟩,_⟩:=h5 r hr;obtain rfl:e'=e:=AI (mF.symm.trans he);have h1:=Lib.compact_length_le (nS (fD true e'));have h2:=vc (fD true e');have h3:=B9 true e';refine⟨aa,?_⟩;unfold iQ;omega
