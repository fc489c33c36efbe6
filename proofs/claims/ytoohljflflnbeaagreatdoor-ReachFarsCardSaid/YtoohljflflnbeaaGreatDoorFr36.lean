/- Parts. -/
import Derived.Test.YtoohljflflnbeaaGreatDoorFr28
import Derived.Lib.AtoiAll
import Derived.Lib.ItoaNum
set_option linter.unusedSimpArgs false
set_option linter.unusedVariables false
namespace Go.Proofs.YtoohljflflnbeaaGreatDoor
open Go.Av
def tB:List Tx:=[[],[105,110,112,117,116],[99,111,105,108],[116,105,109,101,114],[99,111,117,110,116,101,114]]
def pc:List Tx:=[[],[],[115,101,116],[114,101,115,101,116],[114,117,110],[99,111,117,110,116],[122,101,114,111]]
def kp (l:List Tx) (s:Tx):Int:=idx (fun x=>x == s) l
def wU (w:Tx):Option Int:=match Lib.atoiAll w with
 | .ok v=>if Lib.itoa v=w then some v else none
 | _=>none
inductive r6 where
 | form
 | bad (c:Int) (off:Nat)
 | name (n:gV)
 | p9 (r:jd)
def ng (k:Int) (nm hd rest:Tx):r6:=match (iZ rest).2 with
 | some (c,o)=>.bad c (hd.length+1+o.getD 0)
 | none=>.p9 ⟨k,nm,(iZ rest).1⟩
def qV (hd rest:Tx):List Tx->r6
 | [a]=>ng 1 a hd rest
 | [a,b]=>if kp pc a < 2 then .form else ng (kp pc a) b hd rest
 | _=>.form
def ic (k:Int):List Tx->r6
 | [b]=>if 1<=k/\k < 3 then .name ⟨b,k,0⟩ else .form
 | [b,c]=>if 3<=k then (match wU c with | some v=>.name ⟨b,k,v⟩ | none=>.form) else .form
 | _=>.form
def lB:List Tx->r6
 | a :: l=>ic (kp tB a) l
 | []=>.form
def iw (s:Tx):r6:=if (61:UInt8)∈s then qV (cutAt 61 s).1 (cutAt 61 s).2 (iT (cutAt 61 s).1) else lB (iT s)
structure py where
 names:List gV
 jR:List Nat
 ax:List jd
 jV:List Nat
def p6:py:=⟨[],[],[],[]⟩
def lJ (s:py) (pl:Nat) (ln:Tx):(Int×Nat) ⊕ py:=
 if iT ln=[] then .inr s else match iw ln with
  | .form=>.inl (3,pl)
  | .bad c off=>.inl (c,pl+off)
  | .name n=>if s.ax=[] then .inr ⟨s.names ++ [n],s.jR ++ [pl],s.ax,s.jV⟩ else .inl (3,pl)
  | .p9 r=>.inr ⟨s.names,s.jR,s.ax ++ [r],s.jV ++ [pl]⟩
def gG (l:List Tx):Nat->(Int×Nat) ⊕ py
 | 0=>.inr p6
 | k+1=>match gG l k with
  | .inl e=>.inl e
  | .inr s=>lJ s (jU l k) (l.getD k [])
def jT (t:Tx):Option (Int×Option Nat)×aS:=
 if 20000 < t.length then (some (4,none),⟨[],[]⟩) else match gG (eW 10 t) (eW 10 t).length with
  | .inl (c,i)=>(some (c,some i),⟨[],[]⟩)
  | .inr s=>match c8 ⟨s.names,s.ax⟩ with
   | none=>(none,⟨s.names,s.ax⟩)
   | some (c,none)=>(some (c,none),⟨[],[]⟩)
   | some (c,some i)=>(some (c,some ((s.jR ++ s.jV).getD i 0)),⟨[],[]⟩)
theorem adQ {l:List Tx} {e:Int×Nat} {k:Nat} (h:gG l k = .inl e):∀ j,k<=j->gG l j = .inl e:=by
 intro j hj
 induction j with
 | zero => obtain rfl : k = 0 := aa
           exact h
 | succ j ih=>
  rcases akS k (j+1)with h1 | h1
  .rw[gG,ih aa]
  .obtain rfl:k=j+1:=aa
   exact h
theorem S8 {l:List Tx} {s:py} {e:Int×Nat} {k:Nat} (hk:k < l.length) (h:gG l k = .inr s) (he:lJ s (jU l k) l[k] = .inl e):gG l l.length = .inl e:=by
 refine adQ (k:=k+1) ?_ _ aa;rw[gG,h];show lJ s (jU l k) (l.getD k [])=_;rw[OF,AT hk];exact he
theorem S9 {l:List Tx} {s s':py} {k:Nat} (hk:k < l.length) (h:gG l k = .inr s) (he:lJ s (jU l k) l[k] = .inr s'):gG l (k+1) = .inr s':=by
 rw[gG,h];show lJ s (jU l k) (l.getD k [])=_;rw[OF,AT hk];exact he
theorem Mp {t:Tx} {c:Int} {i:Nat} (ht:t.length<=20000) (h:gG (eW 10 t) (eW 10 t).length = .inl (c,i)):jT t=(some (c,some i),⟨[],[]⟩):=by
 unfold jT;rw[if_neg aa,h]
theorem Mq {t : Tx} {s : py} (ht : t.length <= 20000) (h : gG (eW 10 t) (eW 10 t).length = .inr s) : jT t = match c8 ⟨s.names, s.ax⟩ with
      | none=>(none,⟨s.names,s.ax⟩)
      | some (c,none)=>(some (c,none),⟨[],[]⟩)
      | some (c,some i)=>(some (c,some ((s.jR ++ s.jV).getD i 0)),⟨[],[]⟩):=by
 unfold jT;rw[if_neg aa,h]
def xn {α:Type} (t:Tx) (f:Nat->Rs α):Prop:=∀ i c p q,i<=t.length->f i = .err c p q->p<=t.length
theorem Dw {α β:Type} {f:α->β} {r:Rs α} {c:Int} {p q:Nat} (h:r.map f = .err c p q):r = .err c p q:=by
 cases r with
 | ok x j=>cases h
 | err c' p' q'=>
  simp only[Rs.map,Rs.err.injEq]at h;obtain⟨rfl,rfl,rfl⟩:=h;rfl
theorem Nw (t:Tx) (q0:Nat):xn t (fU t q0):=fun i c p q hi h=>by
 unfold fU at h;have:=lI hi;split at h
 .simp only[Rs.err.injEq]at h;omega
 .split at h
  .simp only[Rs.err.injEq]at h;omega
  .cases h
theorem MX {α:Type} {t:Tx} {s:UInt8} {f:Nat->Rs α} (hg:lM t f) (hf:xn t f):∀ (n i:Nat) (acc:List α) (c:Int) (p q:Nat),i<=t.length->iS t s f n i acc = .err c p q->p<=t.length
 | 0,i,acc,c,p,q,hi,h=>by
  simp only[iS,Rs.err.injEq]at h;omega
 | n+1,i,acc,c,p,q,hi,h=>by
  rw[iS]at h
  cases cm:f i with
  | err c' p' q'=>
   rw[cm]at h;simp only[Rs.err.injEq]at h;have:=hf i c' p' q' hi cm;omega
  | ok x j=>
   rw[cm]at h;dsimp only at h;have hj:=hg i x j hi cm;split at h
   .exact MX hg hf n _ _ c p q (oL hj.2).2.1 h
   .cases h
theorem VP {t:Tx} {one:Nat->Rs Ex} (hg:lM t one) (h:xn t one):xn t (nt t one):=fun i c p q hi he=>MX hg h _ _ _ c p q hi (Dw he)
theorem SP {t:Tx} {one:Nat->Rs Ex} (hg:lM t one) (h:xn t one):xn t (lE t one):=fun i c p q hi he=>MX (BJ hg) (VP hg h) _ _ _ c p q hi (Dw he)
theorem SL (t:Tx):∀ d,xn t (cI t d)
 | 0=>fun i c p q hi h=>by
  simp only[cI,Rs.err.injEq]at h;have:=lI hi;omega
 | d+1=>fun i c p q hi h=>by
  have ih:=SL t d;have hs:=lI hi;have nx:∀ {x:UInt8},t[bx t i]? = some x->bx t i+1<=t.length:=fun h=>(BY.1 h).1;rw[cI]at h;split at h
  .rename_i hc
   cases he:cI t d (bx t i+1) with
   | ok y k=>rw[he]at h;cases h
   | err c' p' q'=>
    rw[he]at h;simp only[Rs.err.injEq]at h;have:=ih _ _ _ _ (nx hc) he;omega
  split at h
  .rename_i hc
   cases he:lE t (cI t d) (bx t i+1) with
   | ok y k=>
    rw[he]at h;dsimp only at h;have hk:=vm (oI t d) _ _ _ (nx hc) he;split at h
    .cases h
    .simp only[Rs.err.injEq]at h;have:=(oL (c:=41) hk.2).2.1;omega
   | err c' p' q'=>
    rw[he]at h;simp only[Rs.err.injEq]at h;have:=SP (oI t d) ih _ _ _ _ (nx hc) he;omega
  split at h
  .cases h
  split at h
  .cases h
  split at h
  .rename_i hc;exact Nw t 1 _ _ _ _ (nx hc) (Dw h)
  split at h
  .rename_i hc;exact Nw t 2 _ _ _ _ (nx hc) (Dw h)
  .exact Nw t 3 _ _ _ _ hs (Dw h)
theorem DO {t:Tx} {c:Int} {p:Nat} (h:(iZ t).2=some (c,some p)):p<=t.length:=by
 unfold iZ at h;split at h
 .cases h
 .split at h
  .rename_i c' p' q' he;simp only[IS,ajH]at h;have:=SP (oI t 20) (SL t 20) 0 _ _ _ (alm _) he;omega
  .rename_i x i he;have:=vm (oI t 20) 0 _ _ (alm _) he;split at h
   .simp only[IS,ajH]at h;have:=lI this.2;omega
   .cases h
structure BG (m:Nat) (s:py):Prop where
 nl:s.jR.length=s.names.length
 rl:s.jV.length=s.ax.length
 nm:s.names.length+s.ax.length<=m
 nn:∀ n∈s.names,n.name.length<=20000
 cb:∀ r∈s.ax,(∃ e,r.cond=some e/\bE e<=10000/\iL e)/\r.name.length<=20000
theorem Uf {k:Int} {nm hd rest:Tx} {r:jd} (h:ng k nm hd rest = .p9 r):∃ e,r.cond=some e/\(iZ rest).1=some e/\(iZ rest).2=none/\r.name=nm/\r.kind=k:=by
 unfold ng at h;split at h
 .cases h
 .rename_i hn;simp only[r6.p9.injEq]at h;obtain⟨e,he⟩:=DP hn;subst h;exact⟨e,he,he,hn,rfl,rfl⟩
theorem Ud {k:Int} {nm hd rest:Tx} {n:gV}:ng k nm hd rest≠.name n:=by
 unfold ng;split<;>simp
theorem Ub {hd rest:Tx} {l:List Tx} {r:jd} (h:qV hd rest l = .p9 r):∃ k nm,nm∈l/\ng k nm hd rest = .p9 r:=by
 match l,h with
 | [a],h=>exact⟨_,a,ak,h⟩
 | [a,b],h=>
  simp only[qV]at h;split at h
  .cases h
  .exact⟨_,b,ak,h⟩
theorem acQ {l:List Tx} {n:gV} (h:lB l = .name n):n.name∈l:=by
 match l,h with
 | a :: [b],h=>
  simp only[lB,ic]at h;split at h
  .simp only[r6.name.injEq]at h;subst h;simp
  .cases h
 | a :: [b,c],h=>
  simp only[lB,ic]at h;split at h
  .split at h
   .simp only[r6.name.injEq]at h;subst h;simp
   .cases h
  .cases h
theorem Sp {l:List Tx} {r:jd}:lB l≠.p9 r:=by
 match l with
 | []=>simp[lB]
 | [a]=>simp[lB,ic]
 | [a,b]=>simp only[lB,ic];split<;>simp
 | [a,b,c]=>simp only[lB,ic];split<;>(try split)<;>simp
 | a :: b :: c :: d :: l=>simp[lB,ic]
theorem agu {hd rest:Tx} {l:List Tx} {n:gV}:qV hd rest l≠.name n:=by
 match l with
 | []=>simp[qV]
 | [a]=>exact Ud
 | [a, b] => simp only [qV]; split; · simp
             .exact Ud
 | a :: b :: c :: l=>simp[qV]
theorem ES (c:UInt8) (t:Tx):(cutAt c t).1.length<=t.length/\(cutAt c t).2.length<=t.length:=by
 by_cases h:c∈t
 .obtain⟨h1,_⟩:=Xp h;have:=congrArg List.length h1;simp only[ajQ,ajP]at this;omega
 .unfold cutAt;have h1:=Nj (fun x=>!decide (x=c)) t;have h2:=(List.dropWhile_sublist (l:=t) (fun x=>!decide (x=c))).length_le;dsimp only;rw[aj5];omega
theorem acg {s:Tx} {n:gV} (h:iw s = .name n):n.name.length<=s.length/\n.name≠[]:=by
 unfold iw at h;split at h
 .exact absurd h agu
 .have:=HV (acQ h);exact⟨this.2,this.1⟩
theorem aci {s:Tx} {r:jd} (h:iw s = .p9 r):(∃ e,r.cond=some e/\bE e<=10000/\iL e)/\r.name.length<=s.length:=by
 unfold iw at h;split at h
 .obtain⟨k,nm,hm,hr⟩:=Ub h;obtain⟨e,he,hp,_,hn,_⟩:=Uf hr;have h1:=HV hm;have h2:=ES 61 s;exact⟨⟨e,he,SW hp,(Ms hp).1⟩,by rw[hn];omega⟩
 .exact absurd h Sp
theorem adS {s s':py} {m pl:Nat} {ln:Tx} (hs:BG m s) (hl:ln.length<=20000) (h:lJ s pl ln = .inr s'):BG (m+1) s':=by
 obtain⟨h1,h2,h3,h4,h5⟩:=hs;unfold lJ at h;split at h
 .simp only[aln]at h;subst h;exact⟨h1,h2,aa,h4,h5⟩
 .split at h
  .cases h
  .cases h
  .rename_i n hn;split at h
   .simp only[aln]at h;subst h;refine⟨by simp[h1],h2,by simp;omega,fun x hx=>?_,h5⟩
    rcases ajR.1 hx with hx | hx
    .exact h4 x hx
    .obtain rfl:x=n:=by simpa using hx
     have:=(acg hn).1;omega
   .cases h
  .rename_i r hr;simp only[aln]at h;subst h;refine⟨h1,by simp[h2],by simp;omega,h4,fun x hx=>?_⟩
   rcases ajR.1 hx with hx | hx
   .exact h5 x hx
   .obtain rfl:x=r:=by simpa using hx
    have:=aci hr;exact⟨this.1,aa⟩
theorem adT:BG 0 p6:=⟨rfl,rfl,ajJ _,by simp[p6],by simp[p6]⟩
theorem DV {t:Tx} (ht:t.length<=20000):∀ {k:Nat} {s:py},k<=(eW 10 t).length->gG (eW 10 t) k = .inr s->BG k s
 | 0,s,_,h=>by
  simp only[gG,aln]at h;subst h;exact adT
 | k+1,s,hk,h=>by
  rw[gG]at h;split at h
  .cases h
  .rename_i s0 h0;refine adS (DV ht aa h0) ?_ h;rw[OF,AT aa];have:=Mx (c:=10) (t:=t) (k:=k) aa;simp only[ak8];omega
theorem Td {m:Nat} {s:py} (h:BG m s) (hm:m<=30000):Et ⟨s.names,s.ax⟩:=by
 obtain⟨h1,h2,h3,h4,h5⟩:=h;refine⟨by show s.names.length < _;omega,by show s.ax.length < _;omega,fun n hn=>by have:=h4 n hn;omega,fun r hr e he=>?_⟩;obtain⟨⟨e',kg,hb,_⟩,_⟩:=h5 r hr;obtain rfl:e'=e:=AI (kg.symm.trans he);have h1:=Lib.compact_length_le (nM (dv true e'));have h2:=tO (dv true e');have h3:=yV true e';refine⟨aa,?_⟩;unfold fj;omega
