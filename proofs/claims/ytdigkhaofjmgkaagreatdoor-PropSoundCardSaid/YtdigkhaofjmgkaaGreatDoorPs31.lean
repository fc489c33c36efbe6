/- Parts. -/
import Derived.Test.YtdigkhaofjmgkaaGreatDoorPs25
import Derived.Lib.AtoiAll
import Derived.Lib.ItoaNum
set_option linter.unusedSimpArgs false
set_option linter.unusedVariables false
namespace Go.Proofs.YtdigkhaofjmgkaaGreatDoor
open Go.Av
def oN:List Tx:=[[],[105,110,112,117,116],[99,111,105,108],[116,105,109,101,114],[99,111,117,110,116,101,114]]
def oO:List Tx:=[[],[],[115,101,116],[114,101,115,101,116],[114,117,110],[99,111,117,110,116],[122,101,114,111]]
def ZW (l:List Tx) (s:Tx):Int:=idx (fun x=>x == s) l
def rC (w:Tx):Option Int:=match Lib.atoiAll w with
 | .ok v=>if Lib.itoa v=w then some v else none
 | _=>none
inductive lT where
 | form
 | bad (c:Int) (off:Nat)
 | name (n:Zi)
 | jk (r:fg)
def jM (k:Int) (nm hd rest:Tx):lT:=match (dO rest).2 with
 | some (c,o)=>.bad c (hd.length+1+o.getD 0)
 | none=>.jk ⟨k,nm,(dO rest).1⟩
def k6 (hd rest:Tx):List Tx->lT
 | [a]=>jM 1 a hd rest
 | [a,b]=>if ZW oO a < 2 then .form else jM (ZW oO a) b hd rest
 | _=>.form
def eF (k:Int):List Tx->lT
 | [b]=>if 1<=k/\k < 3 then .name ⟨b,k,0⟩ else .form
 | [b,c]=>if 3<=k then (match rC c with | some v=>.name ⟨b,k,v⟩ | none=>.form) else .form
 | _=>.form
def ig:List Tx->lT
 | a :: l=>eF (ZW oN a) l
 | []=>.form
def gz (s:Tx):lT:=if (61:UInt8)∈s then k6 (cutAt 61 s).1 (cutAt 61 s).2 (eb (cutAt 61 s).1) else ig (eb s)
structure kC where
 names:List Zi
 nAt:List Nat
 aq:List fg
 rAt:List Nat
def mn:kC:=⟨[],[],[],[]⟩
def im (s:kC) (pl:Nat) (ln:Tx):(Int×Nat) ⊕ kC:=
 if eb ln=[] then .inr s else match gz ln with
  | .form=>.inl (3,pl)
  | .bad c off=>.inl (c,pl+off)
  | .name n=>if s.aq=[] then .inr ⟨s.names ++ [n],s.nAt ++ [pl],s.aq,s.rAt⟩ else .inl (3,pl)
  | .jk r=>.inr ⟨s.names,s.nAt,s.aq ++ [r],s.rAt ++ [pl]⟩
def ek (l:List Tx):Nat->(Int×Nat) ⊕ kC
 | 0=>.inr mn
 | k+1=>match ek l k with
  | .inl e=>.inl e
  | .inr s=>im s (gW l k) (l.getD k [])
def fR (t:Tx):Option (Int×Option Nat)×Yy:=
 if 20000 < t.length then (some (4,none),⟨[],[]⟩) else match ek (cT 10 t) (cT 10 t).length with
  | .inl (c,i)=>(some (c,some i),⟨[],[]⟩)
  | .inr s=>match YP ⟨s.names,s.aq⟩ with
   | none=>(none,⟨s.names,s.aq⟩)
   | some (c,none)=>(some (c,none),⟨[],[]⟩)
   | some (c,some i)=>(some (c,some ((s.nAt ++ s.rAt).getD i 0)),⟨[],[]⟩)
theorem SK {l:List Tx} {e:Int×Nat} {k:Nat} (h:ek l k = .inl e):∀ j,k<=j->ek l j = .inl e:=by
 intro j hj
 induction j with
 | zero => obtain rfl : k = 0 := by omega
           exact h
 | succ j ih=>
  rcases Nat.lt_or_ge k (j+1)with h1 | h1
  .rw[ek,ih (by omega)]
  .obtain rfl:k=j+1:=by omega
   exact h
theorem SI {l:List Tx} {s:kC} {e:Int×Nat} {k:Nat} (hk:k < l.length) (h:ek l k = .inr s) (he:im s (gW l k) l[k] = .inl e):ek l l.length = .inl e:=by
 refine SK (k:=k+1) ?_ _ (by omega);rw[ek,h];show im s (gW l k) (l.getD k [])=_;rw[List.getD_eq_getElem?_getD,List.getElem?_eq_getElem hk];exact he
theorem SJ {l:List Tx} {s s':kC} {k:Nat} (hk:k < l.length) (h:ek l k = .inr s) (he:im s (gW l k) l[k] = .inr s'):ek l (k+1) = .inr s':=by
 rw[ek,h];show im s (gW l k) (l.getD k [])=_;rw[List.getD_eq_getElem?_getD,List.getElem?_eq_getElem hk];exact he
theorem HS {t:Tx} {c:Int} {i:Nat} (ht:t.length<=20000) (h:ek (cT 10 t) (cT 10 t).length = .inl (c,i)):fR t=(some (c,some i),⟨[],[]⟩):=by
 unfold fR;rw[if_neg (by omega),h]
theorem Ci {t : Tx} {s : kC} (ht : t.length <= 20000) (h : ek (cT 10 t) (cT 10 t).length = .inr s) : fR t = match YP ⟨s.names, s.aq⟩ with
      | none=>(none,⟨s.names,s.aq⟩)
      | some (c,none)=>(some (c,none),⟨[],[]⟩)
      | some (c,some i)=>(some (c,some ((s.nAt ++ s.rAt).getD i 0)),⟨[],[]⟩):=by
 unfold fR;rw[if_neg (by omega),h]
def abD {α:Type} (t:Tx) (f:Nat->Rs α):Prop:=∀ i c p q,i<=t.length->f i = .err c p q->p<=t.length
theorem tU {α β:Type} {f:α->β} {r:Rs α} {c:Int} {p q:Nat} (h:r.map f = .err c p q):r = .err c p q:=by
 cases r with
 | ok x j=>cases h
 | err c' p' q'=>
  simp only[Rs.map,Rs.err.injEq]at h;obtain⟨rfl,rfl,rfl⟩:=h;rfl
theorem C3 (t:Tx) (q0:Nat):abD t (fE t q0):=fun i c p q hi h=>by
 unfold fE at h;have:=il hi;split at h
 .simp only[Rs.err.injEq]at h;omega
 .split at h
  .simp only[Rs.err.injEq]at h;omega
  .cases h
theorem CE {α:Type} {t:Tx} {s:UInt8} {f:Nat->Rs α} (hg:aai t f) (hf:abD t f):∀ (n i:Nat) (acc:List α) (c:Int) (p q:Nat),i<=t.length->e8 t s f n i acc = .err c p q->p<=t.length
 | 0,i,acc,c,p,q,hi,h=>by
  simp only[e8,Rs.err.injEq]at h;omega
 | n+1,i,acc,c,p,q,hi,h=>by
  rw[e8]at h
  cases Zs:f i with
  | err c' p' q'=>
   rw[Zs]at h;simp only[Rs.err.injEq]at h;have:=hf i c' p' q' hi Zs;omega
  | ok x j=>
   rw[Zs]at h;dsimp only at h;have hj:=hg i x j hi Zs;split at h
   .exact CE hg hf n _ _ c p q (my hj.2).2.1 h
   .cases h
theorem Ko {t:Tx} {one:Nat->Rs Ex} (hg:aai t one) (h:abD t one):abD t (iP t one):=fun i c p q hi he=>CE hg h _ _ _ c p q hi (tU he)
theorem HJ {t:Tx} {one:Nat->Rs Ex} (hg:aai t one) (h:abD t one):abD t (ij t one):=fun i c p q hi he=>CE (qG hg) (Ko hg h) _ _ _ c p q hi (tU he)
theorem HD (t:Tx):∀ d,abD t (bK t d)
 | 0=>fun i c p q hi h=>by
  simp only[bK,Rs.err.injEq]at h;have:=il hi;omega
 | d+1=>fun i c p q hi h=>by
  have ih:=HD t d;have hs:=il hi;have nx:∀ {x:UInt8},t[aM t i]? = some x->aM t i+1<=t.length:=fun h=>(List.getElem?_eq_some_iff.1 h).1;rw[bK]at h;split at h
  .rename_i hc
   cases he:bK t d (aM t i+1) with
   | ok y k=>rw[he]at h;cases h
   | err c' p' q'=>
    rw[he]at h;simp only[Rs.err.injEq]at h;have:=ih _ _ _ _ (nx hc) he;omega
  split at h
  .rename_i hc
   cases he:ij t (bK t d) (aM t i+1) with
   | ok y k=>
    rw[he]at h;dsimp only at h;have hk:=qi (iM t d) _ _ _ (nx hc) he;split at h
    .cases h
    .simp only[Rs.err.injEq]at h;have:=(my (c:=41) hk.2).2.1;omega
   | err c' p' q'=>
    rw[he]at h;simp only[Rs.err.injEq]at h;have:=HJ (iM t d) ih _ _ _ _ (nx hc) he;omega
  split at h
  .cases h
  split at h
  .cases h
  split at h
  .rename_i hc;exact C3 t 1 _ _ _ _ (nx hc) (tU h)
  split at h
  .rename_i hc;exact C3 t 2 _ _ _ _ (nx hc) (tU h)
  .exact C3 t 3 _ _ _ _ hs (tU h)
theorem Cj {t:Tx} {c:Int} {p:Nat} (h:(dO t).2=some (c,some p)):p<=t.length:=by
 unfold dO at h;split at h
 .cases h
 .split at h
  .rename_i c' p' q' he;simp only[Option.some.injEq,Prod.mk.injEq]at h;have:=HJ (iM t 20) (HD t 20) 0 _ _ _ (Nat.zero_le _) he;omega
  .rename_i x i he;have:=qi (iM t 20) 0 _ _ (Nat.zero_le _) he;split at h
   .simp only[Option.some.injEq,Prod.mk.injEq]at h;have:=il this.2;omega
   .cases h
structure r5 (m:Nat) (s:kC):Prop where
 nl:s.nAt.length=s.names.length
 rl:s.rAt.length=s.aq.length
 nm:s.names.length+s.aq.length<=m
 nn:∀ n∈s.names,n.name.length<=20000
 cb:∀ r∈s.aq,(∃ e,r.cond=some e/\bE e<=10000/\cu e)/\r.name.length<=20000
theorem I3 {k:Int} {nm hd rest:Tx} {r:fg} (h:jM k nm hd rest = .jk r):∃ e,r.cond=some e/\(dO rest).1=some e/\(dO rest).2=none/\r.name=nm/\r.kind=k:=by
 unfold jM at h;split at h
 .cases h
 .rename_i hn;simp only[lT.jk.injEq]at h;obtain⟨e,he⟩:=xz hn;subst h;exact⟨e,he,he,hn,rfl,rfl⟩
theorem ads {k:Int} {nm hd rest:Tx} {n:Zi}:jM k nm hd rest≠.name n:=by
 unfold jM;split<;>simp
theorem I0 {hd rest:Tx} {l:List Tx} {r:fg} (h:k6 hd rest l = .jk r):∃ k nm,nm∈l/\jM k nm hd rest = .jk r:=by
 match l,h with
 | [a],h=>exact⟨_,a,by simp,h⟩
 | [a,b],h=>
  simp only[k6]at h;split at h
  .cases h
  .exact⟨_,b,by simp,h⟩
theorem ad2 {l:List Tx} {n:Zi} (h:ig l = .name n):n.name∈l:=by
 match l,h with
 | a :: [b],h=>
  simp only[ig,eF]at h;split at h
  .simp only[lT.name.injEq]at h;subst h;simp
  .cases h
 | a :: [b,c],h=>
  simp only[ig,eF]at h;split at h
  .split at h
   .simp only[lT.name.injEq]at h;subst h;simp
   .cases h
  .cases h
theorem Hq {l:List Tx} {r:fg}:ig l≠.jk r:=by
 match l with
 | []=>simp[ig]
 | [a]=>simp[ig,eF]
 | [a,b]=>simp only[ig,eF];split<;>simp
 | [a,b,c]=>simp only[ig,eF];split<;>(try split)<;>simp
 | a :: b :: c :: d :: l=>simp[ig,eF]
theorem Ve {hd rest:Tx} {l:List Tx} {n:Zi}:k6 hd rest l≠.name n:=by
 match l with
 | []=>simp[k6]
 | [a]=>exact ads
 | [a, b] => simp only [k6]; split; · simp
             .exact ads
 | a :: b :: c :: l=>simp[k6]
theorem yY (c:UInt8) (t:Tx):(cutAt c t).1.length<=t.length/\(cutAt c t).2.length<=t.length:=by
 by_cases h:c∈t
 .obtain⟨h1,_⟩:=LM h;have:=congrArg List.length h1;simp only[List.length_append,List.length_cons]at this;omega
 .unfold cutAt;have h1:=CV (fun x=>!decide (x=c)) t;have h2:=(List.dropWhile_sublist (l:=t) (fun x=>!decide (x=c))).length_le;dsimp only;rw[List.length_drop];omega
theorem Rf {s:Tx} {n:Zi} (h:gz s = .name n):n.name.length<=s.length/\n.name≠[]:=by
 unfold gz at h;split at h
 .exact absurd h Ve
 .have:=C9 (ad2 h);exact⟨this.2,this.1⟩
theorem Rg {s:Tx} {r:fg} (h:gz s = .jk r):(∃ e,r.cond=some e/\bE e<=10000/\cu e)/\r.name.length<=s.length:=by
 unfold gz at h;split at h
 .obtain⟨k,nm,hm,hr⟩:=I0 h;obtain⟨e,he,hp,_,hn,_⟩:=I3 hr;have h1:=C9 hm;have h2:=yY 61 s;exact⟨⟨e,he,rK hp,(rL hp).1⟩,by rw[hn];omega⟩
 .exact absurd h Hq
theorem SM {s s':kC} {m pl:Nat} {ln:Tx} (hs:r5 m s) (hl:ln.length<=20000) (h:im s pl ln = .inr s'):r5 (m+1) s':=by
 obtain⟨h1,h2,h3,h4,h5⟩:=hs;unfold im at h;split at h
 .simp only[Sum.inr.injEq]at h;subst h;exact⟨h1,h2,by omega,h4,h5⟩
 .split at h
  .cases h
  .cases h
  .rename_i n hn;split at h
   .simp only[Sum.inr.injEq]at h;subst h;refine⟨by simp[h1],h2,by simp;omega,fun x hx=>?_,h5⟩
    rcases List.mem_append.1 hx with hx | hx
    .exact h4 x hx
    .obtain rfl:x=n:=by simpa using hx
     have:=(Rf hn).1;omega
   .cases h
  .rename_i r hr;simp only[Sum.inr.injEq]at h;subst h;refine⟨h1,by simp[h2],by simp;omega,h4,fun x hx=>?_⟩
   rcases List.mem_append.1 hx with hx | hx
   .exact h5 x hx
   .obtain rfl:x=r:=by simpa using hx
    have:=Rg hr;exact⟨this.1,by omega⟩
theorem aea:r5 0 mn:=⟨rfl,rfl,Nat.le_refl _,by simp[mn],by simp[mn]⟩
theorem Co {t:Tx} (ht:t.length<=20000):∀ {k:Nat} {s:kC},k<=(cT 10 t).length->ek (cT 10 t) k = .inr s->r5 k s
 | 0,s,_,h=>by
  simp only[ek,Sum.inr.injEq]at h;subst h;exact aea
 | k+1,s,hk,h=>by
  rw[ek]at h;split at h
  .cases h
  .rename_i s0 h0;refine SM (Co ht (by omega) h0) ?_ h;rw[List.getD_eq_getElem?_getD,List.getElem?_eq_getElem (by omega)];have:=HY (c:=10) (t:=t) (k:=k) (by omega);simp only[Option.getD_some];omega
theorem SL {m:Nat} {s:kC} (h:r5 m s) (hm:m<=30000):yn ⟨s.names,s.aq⟩:=by
 obtain⟨h1,h2,h3,h4,h5⟩:=h;refine⟨by show s.names.length < _;omega,by show s.aq.length < _;omega,fun n hn=>by have:=h4 n hn;omega,fun r hr e he=>?_⟩;obtain⟨⟨e',Z7,hb,_⟩,_⟩:=h5 r hr;obtain rfl:e'=e:=Option.some.inj (Z7.symm.trans he);have h1:=Lib.compact_length_le (jO (b5 true e'));have h2:=mv (b5 true e');have h3:=qd true e';refine⟨by omega,?_⟩;unfold Zh;omega
