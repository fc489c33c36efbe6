/- Parts. -/
import Derived.Test.YtoohljflflnbeaaGreatDoorBo28
import Derived.Lib.AtoiAll
import Derived.Lib.ItoaNum
set_option linter.unusedSimpArgs false
set_option linter.unusedVariables false
namespace Go.Proofs.YtoohljflflnbeaaGreatDoor
open Go.Av
def so:List Tx:=[[],[105,110,112,117,116],[99,111,105,108],[116,105,109,101,114],[99,111,117,110,116,101,114]]
def oT:List Tx:=[[],[],[115,101,116],[114,101,115,101,116],[114,117,110],[99,111,117,110,116],[122,101,114,111]]
def jX (l:List Tx) (s:Tx):Int:=idx (fun x=>x == s) l
def vw (w:Tx):Option Int:=match Lib.atoiAll w with
 | .ok v=>if Lib.itoa v=w then some v else none
 | _=>none
inductive ra where
 | form
 | bad (c:Int) (off:Nat)
 | name (n:gz)
 | pH (r:iL)
def mN (k:Int) (nm hd rest:Tx):ra:=match (iH rest).2 with
 | some (c,o)=>.bad c (hd.length+1+o.getD 0)
 | none=>.pH ⟨k,nm,(iH rest).1⟩
def qj (hd rest:Tx):List Tx->ra
 | [a]=>mN 1 a hd rest
 | [a,b]=>if jX oT a < 2 then .form else mN (jX oT a) b hd rest
 | _=>.form
def gE (k:Int):List Tx->ra
 | [b]=>if 1<=k/\k < 3 then .name ⟨b,k,0⟩ else .form
 | [b,c]=>if 3<=k then (match vw c with | some v=>.name ⟨b,k,v⟩ | none=>.form) else .form
 | _=>.form
def lq:List Tx->ra
 | a :: l=>gE (jX so a) l
 | []=>.form
def gO (s:Tx):ra:=if (61:UInt8)∈s then qj (cutAt 61 s).1 (cutAt 61 s).2 (iw (cutAt 61 s).1) else lq (iw s)
structure o5 where
 names:List gz
 jz:List Nat
 ax:List iL
 jD:List Nat
def pF:o5:=⟨[],[],[],[]⟩
def ly (s:o5) (pl:Nat) (ln:Tx):(Int×Nat) ⊕ o5:=
 if iw ln=[] then .inr s else match gO ln with
  | .form=>.inl (3,pl)
  | .bad c off=>.inl (c,pl+off)
  | .name n=>if s.ax=[] then .inr ⟨s.names ++ [n],s.jz ++ [pl],s.ax,s.jD⟩ else .inl (3,pl)
  | .pH r=>.inr ⟨s.names,s.jz,s.ax ++ [r],s.jD ++ [pl]⟩
def gn (l:List Tx):Nat->(Int×Nat) ⊕ o5
 | 0=>.inr pF
 | k+1=>match gn l k with
  | .inl e=>.inl e
  | .inr s=>ly s (jC l k) (l.getD k [])
def jB (t:Tx):Option (Int×Option Nat)×aP:=
 if 20000 < t.length then (some (4,none),⟨[],[]⟩) else match gn (eV 10 t) (eV 10 t).length with
  | .inl (c,i)=>(some (c,some i),⟨[],[]⟩)
  | .inr s=>match dr ⟨s.names,s.ax⟩ with
   | none=>(none,⟨s.names,s.ax⟩)
   | some (c,none)=>(some (c,none),⟨[],[]⟩)
   | some (c,some i)=>(some (c,some ((s.jz ++ s.jD).getD i 0)),⟨[],[]⟩)
theorem acr {l:List Tx} {e:Int×Nat} {k:Nat} (h:gn l k = .inl e):∀ j,k<=j->gn l j = .inl e:=by
 intro j hj
 induction j with
 | zero => obtain rfl : k = 0 := aa
           exact h
 | succ j ih=>
  rcases ahH k (j+1)with h1 | h1
  .rw[gn,ih aa]
  .obtain rfl:k=j+1:=aa
   exact h
theorem Ql {l:List Tx} {s:o5} {e:Int×Nat} {k:Nat} (hk:k < l.length) (h:gn l k = .inr s) (he:ly s (jC l k) l[k] = .inl e):gn l l.length = .inl e:=by
 refine acr (k:=k+1) ?_ _ aa;rw[gn,h];show ly s (jC l k) (l.getD k [])=_;rw[agw,By hk];exact he
theorem Qm {l:List Tx} {s s':o5} {k:Nat} (hk:k < l.length) (h:gn l k = .inr s) (he:ly s (jC l k) l[k] = .inr s'):gn l (k+1) = .inr s':=by
 rw[gn,h];show ly s (jC l k) (l.getD k [])=_;rw[agw,By hk];exact he
theorem JZ {t:Tx} {c:Int} {i:Nat} (ht:t.length<=20000) (h:gn (eV 10 t) (eV 10 t).length = .inl (c,i)):jB t=(some (c,some i),⟨[],[]⟩):=by
 unfold jB;rw[if_neg aa,h]
theorem J0 {t : Tx} {s : o5} (ht : t.length <= 20000) (h : gn (eV 10 t) (eV 10 t).length = .inr s) : jB t = match dr ⟨s.names, s.ax⟩ with
      | none=>(none,⟨s.names,s.ax⟩)
      | some (c,none)=>(some (c,none),⟨[],[]⟩)
      | some (c,some i)=>(some (c,some ((s.jz ++ s.jD).getD i 0)),⟨[],[]⟩):=by
 unfold jB;rw[if_neg aa,h]
def vU {α:Type} (t:Tx) (f:Nat->Rs α):Prop:=∀ i c p q,i<=t.length->f i = .err c p q->p<=t.length
theorem Cc {α β:Type} {f:α->β} {r:Rs α} {c:Int} {p q:Nat} (h:r.map f = .err c p q):r = .err c p q:=by
 cases r with
 | ok x j=>cases h
 | err c' p' q'=>
  simp only[Rs.map,Rs.err.injEq]at h;obtain⟨rfl,rfl,rfl⟩:=h;rfl
theorem KW (t:Tx) (q0:Nat):vU t (fK t q0):=fun i c p q hi h=>by
 unfold fK at h;have:=lx hi;split at h
 .simp only[Rs.err.injEq]at h;omega
 .split at h
  .simp only[Rs.err.injEq]at h;omega
  .cases h
theorem Kt {α:Type} {t:Tx} {s:UInt8} {f:Nat->Rs α} (hg:lB t f) (hf:vU t f):∀ (n i:Nat) (acc:List α) (c:Int) (p q:Nat),i<=t.length->iu t s f n i acc = .err c p q->p<=t.length
 | 0,i,acc,c,p,q,hi,h=>by
  simp only[iu,Rs.err.injEq]at h;omega
 | n+1,i,acc,c,p,q,hi,h=>by
  rw[iu]at h
  cases b8:f i with
  | err c' p' q'=>
   rw[b8]at h;simp only[Rs.err.injEq]at h;have:=hf i c' p' q' hi b8;omega
  | ok x j=>
   rw[b8]at h;dsimp only at h;have hj:=hg i x j hi b8;split at h
   .exact Kt hg hf n _ _ c p q (oh hj.2).2.1 h
   .cases h
theorem SY {t:Tx} {one:Nat->Rs Ex} (hg:lB t one) (h:vU t one):vU t (mW t one):=fun i c p q hi he=>Kt hg h _ _ _ c p q hi (Cc he)
theorem P3 {t:Tx} {one:Nat->Rs Ex} (hg:lB t one) (h:vU t one):vU t (lr t one):=fun i c p q hi he=>Kt (Al hg) (SY hg h) _ _ _ c p q hi (Cc he)
theorem PY (t:Tx):∀ d,vU t (cD t d)
 | 0=>fun i c p q hi h=>by
  simp only[cD,Rs.err.injEq]at h;have:=lx hi;omega
 | d+1=>fun i c p q hi h=>by
  have ih:=PY t d;have hs:=lx hi;have nx:∀ {x:UInt8},t[bw t i]? = some x->bw t i+1<=t.length:=fun h=>(BY.1 h).1;rw[cD]at h;split at h
  .rename_i hc
   cases he:cD t d (bw t i+1) with
   | ok y k=>rw[he]at h;cases h
   | err c' p' q'=>
    rw[he]at h;simp only[Rs.err.injEq]at h;have:=ih _ _ _ _ (nx hc) he;omega
  split at h
  .rename_i hc
   cases he:lr t (cD t d) (bw t i+1) with
   | ok y k=>
    rw[he]at h;dsimp only at h;have hk:=ur (n9 t d) _ _ _ (nx hc) he;split at h
    .cases h
    .simp only[Rs.err.injEq]at h;have:=(oh (c:=41) hk.2).2.1;omega
   | err c' p' q'=>
    rw[he]at h;simp only[Rs.err.injEq]at h;have:=P3 (n9 t d) ih _ _ _ _ (nx hc) he;omega
  split at h
  .cases h
  split at h
  .cases h
  split at h
  .rename_i hc;exact KW t 1 _ _ _ _ (nx hc) (Cc h)
  split at h
  .rename_i hc;exact KW t 2 _ _ _ _ (nx hc) (Cc h)
  .exact KW t 3 _ _ _ _ hs (Cc h)
theorem Cr {t:Tx} {c:Int} {p:Nat} (h:(iH t).2=some (c,some p)):p<=t.length:=by
 unfold iH at h;split at h
 .cases h
 .split at h
  .rename_i c' p' q' he;simp only[IT,agA]at h;have:=P3 (n9 t 20) (PY t 20) 0 _ _ _ (aib _) he;omega
  .rename_i x i he;have:=ur (n9 t 20) 0 _ _ (aib _) he;split at h
   .simp only[IT,agA]at h;have:=lx this.2;omega
   .cases h
structure Aj (m:Nat) (s:o5):Prop where
 nl:s.jz.length=s.names.length
 rl:s.jD.length=s.ax.length
 nm:s.names.length+s.ax.length<=m
 nn:∀ n∈s.names,n.name.length<=20000
 cb:∀ r∈s.ax,(∃ e,r.cond=some e/\bE e<=10000/\hU e)/\r.name.length<=20000
theorem Ri {k:Int} {nm hd rest:Tx} {r:iL} (h:mN k nm hd rest = .pH r):∃ e,r.cond=some e/\(iH rest).1=some e/\(iH rest).2=none/\r.name=nm/\r.kind=k:=by
 unfold mN at h;split at h
 .cases h
 .rename_i hn;simp only[ra.pH.injEq]at h;obtain⟨e,he⟩:=Cs hn;subst h;exact⟨e,he,he,hn,rfl,rfl⟩
theorem Rg {k:Int} {nm hd rest:Tx} {n:gz}:mN k nm hd rest≠.name n:=by
 unfold mN;split<;>simp
theorem Re {hd rest:Tx} {l:List Tx} {r:iL} (h:qj hd rest l = .pH r):∃ k nm,nm∈l/\mN k nm hd rest = .pH r:=by
 match l,h with
 | [a],h=>exact⟨_,a,ak,h⟩
 | [a,b],h=>
  simp only[qj]at h;split at h
  .cases h
  .exact⟨_,b,ak,h⟩
theorem abE {l:List Tx} {n:gz} (h:lq l = .name n):n.name∈l:=by
 match l,h with
 | a :: [b],h=>
  simp only[lq,gE]at h;split at h
  .simp only[ra.name.injEq]at h;subst h;simp
  .cases h
 | a :: [b,c],h=>
  simp only[lq,gE]at h;split at h
  .split at h
   .simp only[ra.name.injEq]at h;subst h;simp
   .cases h
  .cases h
theorem Py {l:List Tx} {r:iL}:lq l≠.pH r:=by
 match l with
 | []=>simp[lq]
 | [a]=>simp[lq,gE]
 | [a,b]=>simp only[lq,gE];split<;>simp
 | [a,b,c]=>simp only[lq,gE];split<;>(try split)<;>simp
 | a :: b :: c :: d :: l=>simp[lq,gE]
theorem ady {hd rest:Tx} {l:List Tx} {n:gz}:qj hd rest l≠.name n:=by
 match l with
 | []=>simp[qj]
 | [a]=>exact Rg
 | [a, b] => simp only [qj]; split; · simp
             .exact Rg
 | a :: b :: c :: l=>simp[qj]
theorem Dw (c:UInt8) (t:Tx):(cutAt c t).1.length<=t.length/\(cutAt c t).2.length<=t.length:=by
 by_cases h:c∈t
 .obtain⟨h1,_⟩:=V0 h;have:=congrArg List.length h1;simp only[agU,agS]at this;omega
 .unfold cutAt;have h1:=KJ (fun x=>!decide (x=c)) t;have h2:=(List.dropWhile_sublist (l:=t) (fun x=>!decide (x=c))).length_le;dsimp only;rw[agX];omega
theorem aa5 {s:Tx} {n:gz} (h:gO s = .name n):n.name.length<=s.length/\n.name≠[]:=by
 unfold gO at h;split at h
 .exact absurd h ady
 .have:=F9 (abE h);exact⟨this.2,this.1⟩
theorem aa7 {s:Tx} {r:iL} (h:gO s = .pH r):(∃ e,r.cond=some e/\bE e<=10000/\hU e)/\r.name.length<=s.length:=by
 unfold gO at h;split at h
 .obtain⟨k,nm,hm,hr⟩:=Re h;obtain⟨e,he,hp,_,hn,_⟩:=Ri hr;have h1:=F9 hm;have h2:=Dw 61 s;exact⟨⟨e,he,Qc hp,(J2 hp).1⟩,by rw[hn];omega⟩
 .exact absurd h Py
theorem acu {s s':o5} {m pl:Nat} {ln:Tx} (hs:Aj m s) (hl:ln.length<=20000) (h:ly s pl ln = .inr s'):Aj (m+1) s':=by
 obtain⟨h1,h2,h3,h4,h5⟩:=hs;unfold ly at h;split at h
 .simp only[aic]at h;subst h;exact⟨h1,h2,aa,h4,h5⟩
 .split at h
  .cases h
  .cases h
  .rename_i n hn;split at h
   .simp only[aic]at h;subst h;refine⟨by simp[h1],h2,by simp;omega,fun x hx=>?_,h5⟩
    rcases agN.1 hx with hx | hx
    .exact h4 x hx
    .obtain rfl:x=n:=by simpa using hx
     have:=(aa5 hn).1;omega
   .cases h
  .rename_i r hr;simp only[aic]at h;subst h;refine⟨h1,by simp[h2],by simp;omega,h4,fun x hx=>?_⟩
   rcases agN.1 hx with hx | hx
   .exact h5 x hx
   .obtain rfl:x=r:=by simpa using hx
    have:=aa7 hr;exact⟨this.1,aa⟩
theorem acv:Aj 0 pF:=⟨rfl,rfl,agD _,by simp[pF],by simp[pF]⟩
theorem Cy {t:Tx} (ht:t.length<=20000):∀ {k:Nat} {s:o5},k<=(eV 10 t).length->gn (eV 10 t) k = .inr s->Aj k s
 | 0,s,_,h=>by
  simp only[gn,aic]at h;subst h;exact acv
 | k+1,s,hk,h=>by
  rw[gn]at h;split at h
  .cases h
  .rename_i s0 h0;refine acu (Cy ht aa h0) ?_ h;rw[agw,By aa];have:=J5 (c:=10) (t:=t) (k:=k) aa;simp only[ah1];omega
theorem Qq {m:Nat} {s:o5} (h:Aj m s) (hm:m<=30000):Da ⟨s.names,s.ax⟩:=by
 obtain⟨h1,h2,h3,h4,h5⟩:=h;refine⟨by show s.names.length < _;omega,by show s.ax.length < _;omega,fun n hn=>by have:=h4 n hn;omega,fun r hr e he=>?_⟩;obtain⟨⟨e',jT,hb,_⟩,_⟩:=h5 r hr;obtain rfl:e'=e:=AI (jT.symm.trans he);have h1:=Lib.compact_length_le (nv (du true e'));have h2:=sE (du true e');have h3:=xO true e';refine⟨aa,?_⟩;unfold fi;omega
