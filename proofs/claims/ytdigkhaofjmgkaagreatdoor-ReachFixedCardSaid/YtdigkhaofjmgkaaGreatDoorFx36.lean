/- Parts. -/
import Derived.Test.YtdigkhaofjmgkaaGreatDoorFx28
import Derived.Lib.AtoiAll
import Derived.Lib.ItoaNum
set_option linter.unusedSimpArgs false
set_option linter.unusedVariables false
namespace Go.Proofs.YtdigkhaofjmgkaaGreatDoor
open Go.Av
def kwN:List Tx:=[[],[105,110,112,117,116],[99,111,105,108],[116,105,109,101,114],[99,111,117,110,116,101,114]]
def kS:List Tx:=[[],[],[115,101,116],[114,101,115,101,116],[114,117,110],[99,111,117,110,116],[122,101,114,111]]
def ixW (l:List Tx) (s:Tx):Int:=idx (fun x=>x == s) l
def ri (w:Tx):Option Int:=match Lib.atoiAll w with
 | .ok v=>if Lib.itoa v=w then some v else none
 | _=>none
inductive nh where
 | form
 | bad (c:Int) (off:Nat)
 | name (n:eM)
 | lK (r:fI)
def jE (k:Int) (nm hd rest:Tx):nh:=match (fF rest).2 with
 | some (c,o)=>.bad c (hd.length+1+o.getD 0)
 | none=>.lK ⟨k,nm,(fF rest).1⟩
def mh (hd rest:Tx):List Tx->nh
 | [a]=>jE 1 a hd rest
 | [a,b]=>if ixW kS a < 2 then .form else jE (ixW kS a) b hd rest
 | _=>.form
def eT (k:Int):List Tx->nh
 | [b]=>if 1<=k/\k < 3 then .name ⟨b,k,0⟩ else .form
 | [b,c]=>if 3<=k then (match ri c with | some v=>.name ⟨b,k,v⟩ | none=>.form) else .form
 | _=>.form
def ad4:List Tx->nh
 | a :: l=>eT (ixW kwN a) l
 | []=>.form
def e7 (s:Tx):nh:=if (61:UInt8)∈s then mh (cutAt 61 s).1 (cutAt 61 s).2 (fz (cutAt 61 s).1) else ad4 (fz s)
structure k7 where
 names:List eM
 gE:List Nat
 ao:List fI
 gI:List Nat
def lH:k7:=⟨[],[],[],[]⟩
def iq (s:k7) (pl:Nat) (ln:Tx):(Int×Nat) ⊕ k7:=
 if fz ln=[] then .inr s else match e7 ln with
  | .form=>.inl (3,pl)
  | .bad c off=>.inl (c,pl+off)
  | .name n=>if s.ao=[] then .inr ⟨s.names ++ [n],s.gE ++ [pl],s.ao,s.gI⟩ else .inl (3,pl)
  | .lK r=>.inr ⟨s.names,s.gE,s.ao ++ [r],s.gI ++ [pl]⟩
def eB (l:List Tx):Nat->(Int×Nat) ⊕ k7
 | 0=>.inr lH
 | k+1=>match eB l k with
  | .inl e=>.inl e
  | .inr s=>iq s (gH l k) (l.getD k [])
def gG (t:Tx):Option (Int×Option Nat)×PgP:=
 if 20000 < t.length then (some (4,none),⟨[],[]⟩) else match eB (acx 10 t) (acx 10 t).length with
  | .inl (c,i)=>(some (c,some i),⟨[],[]⟩)
  | .inr s=>match acg ⟨s.names,s.ao⟩ with
   | none=>(none,⟨s.names,s.ao⟩)
   | some (c,none)=>(some (c,none),⟨[],[]⟩)
   | some (c,some i)=>(some (c,some ((s.gE ++ s.gI).getD i 0)),⟨[],[]⟩)
theorem VR {l:List Tx} {e:Int×Nat} {k:Nat} (h:eB l k = .inl e):∀ j,k<=j->eB l j = .inl e:=by
 intro j hj
 induction j with
 | zero => obtain rfl : k = 0 := by omega
           exact h
 | succ j ih=>
  rcases adY k (j+1)with h1 | h1
  .rw[eB,ih (by omega)]
  .obtain rfl:k=j+1:=by omega
   exact h
theorem ahe {l:List Tx} {s:k7} {e:Int×Nat} {k:Nat} (hk:k < l.length) (h:eB l k = .inr s) (he:iq s (gH l k) l[k] = .inl e):eB l l.length = .inl e:=by
 refine VR (k:=k+1) ?_ _ (by omega);rw[eB,h];show iq s (gH l k) (l.getD k [])=_;rw[abJ,By hk];exact he
theorem ahf {l:List Tx} {s s':k7} {k:Nat} (hk:k < l.length) (h:eB l k = .inr s) (he:iq s (gH l k) l[k] = .inr s'):eB l (k+1) = .inr s':=by
 rw[eB,h];show iq s (gH l k) (l.getD k [])=_;rw[abJ,By hk];exact he
theorem Fg {t:Tx} {c:Int} {i:Nat} (ht:t.length<=20000) (h:eB (acx 10 t) (acx 10 t).length = .inl (c,i)):gG t=(some (c,some i),⟨[],[]⟩):=by
 unfold gG;rw[if_neg (by omega),h]
theorem Fh {t : Tx} {s : k7} (ht : t.length <= 20000) (h : eB (acx 10 t) (acx 10 t).length = .inr s) : gG t = match acg ⟨s.names, s.ao⟩ with
      | none=>(none,⟨s.names,s.ao⟩)
      | some (c,none)=>(some (c,none),⟨[],[]⟩)
      | some (c,some i)=>(some (c,some ((s.gE ++ s.gI).getD i 0)),⟨[],[]⟩):=by
 unfold gG;rw[if_neg (by omega),h]
def rF {α:Type} (t:Tx) (f:Nat->Rs α):Prop:=∀ i c p q,i<=t.length->f i = .err c p q->p<=t.length
theorem xG {α β:Type} {f:α->β} {r:Rs α} {c:Int} {p q:Nat} (h:r.map f = .err c p q):r = .err c p q:=by
 cases r with
 | ok x j=>cases h
 | err c' p' q'=>
  simp only[Rs.map,Rs.err.injEq]at h;obtain⟨rfl,rfl,rfl⟩:=h;rfl
theorem Gg (t:Tx) (q0:Nat):rF t (ea t q0):=fun i c p q hi h=>by
 unfold ea at h;have:=im hi;split at h
 .simp only[Rs.err.injEq]at h;omega
 .split at h
  .simp only[Rs.err.injEq]at h;omega
  .cases h
theorem FO {α:Type} {t:Tx} {s:UInt8} {f:Nat->Rs α} (hg:iu t f) (hf:rF t f):∀ (n i:Nat) (acc:List α) (c:Int) (p q:Nat),i<=t.length->fy t s f n i acc = .err c p q->p<=t.length
 | 0,i,acc,c,p,q,hi,h=>by
  simp only[fy,Rs.err.injEq]at h;omega
 | n+1,i,acc,c,p,q,hi,h=>by
  rw[fy]at h
  cases bA:f i with
  | err c' p' q'=>
   rw[bA]at h;simp only[Rs.err.injEq]at h;have:=hf i c' p' q' hi bA;omega
  | ok x j=>
   rw[bA]at h;dsimp only at h;have hj:=hg i x j hi bA;split at h
   .exact FO hg hf n _ _ c p q (ku hj.2).2.1 h
   .cases h
theorem Ns {t:Tx} {one:Nat->Rs Ex} (hg:iu t one) (h:rF t one):rF t (jG t one):=fun i c p q hi he=>FO hg h _ _ _ c p q hi (xG he)
theorem KM {t:Tx} {one:Nat->Rs Ex} (hg:iu t one) (h:rF t one):rF t (ij t one):=fun i c p q hi he=>FO (vO hg) (Ns hg h) _ _ _ c p q hi (xG he)
theorem KJ (t:Tx):∀ d,rF t (ab7 t d)
 | 0=>fun i c p q hi h=>by
  simp only[ab7,Rs.err.injEq]at h;have:=im hi;omega
 | d+1=>fun i c p q hi h=>by
  have ih:=KJ t d;have hs:=im hi;have nx:∀ {x:UInt8},t[aZ t i]? = some x->aZ t i+1<=t.length:=fun h=>(OF.1 h).1;rw[ab7]at h;split at h
  .rename_i hc
   cases he:ab7 t d (aZ t i+1) with
   | ok y k=>rw[he]at h;cases h
   | err c' p' q'=>
    rw[he]at h;simp only[Rs.err.injEq]at h;have:=ih _ _ _ _ (nx hc) he;omega
  split at h
  .rename_i hc
   cases he:ij t (ab7 t d) (aZ t i+1) with
   | ok y k=>
    rw[he]at h;dsimp only at h;have hk:=afl (aeg t d) _ _ _ (nx hc) he;split at h
    .cases h
    .simp only[Rs.err.injEq]at h;have:=(ku (c:=41) hk.2).2.1;omega
   | err c' p' q'=>
    rw[he]at h;simp only[Rs.err.injEq]at h;have:=KM (aeg t d) ih _ _ _ _ (nx hc) he;omega
  split at h
  .cases h
  split at h
  .cases h
  split at h
  .rename_i hc;exact Gg t 1 _ _ _ _ (nx hc) (xG h)
  split at h
  .rename_i hc;exact Gg t 2 _ _ _ _ (nx hc) (xG h)
  .exact Gg t 3 _ _ _ _ hs (xG h)
theorem xX {t:Tx} {c:Int} {p:Nat} (h:(fF t).2=some (c,some p)):p<=t.length:=by
 unfold fF at h;split at h
 .cases h
 .split at h
  .rename_i c' p' q' he;simp only[AS,BY]at h;have:=KM (aeg t 20) (KJ t 20) 0 _ _ _ (ae2 _) he;omega
  .rename_i x i he;have:=afl (aeg t 20) 0 _ _ (ae2 _) he;split at h
   .simp only[AS,BY]at h;have:=im this.2;omega
   .cases h
structure vK (m:Nat) (s:k7):Prop where
 nl:s.gE.length=s.names.length
 rl:s.gI.length=s.ao.length
 nm:s.names.length+s.ao.length<=m
 nn:∀ n∈s.names,n.name.length<=20000
 cb:∀ r∈s.ao,(∃ e,r.cond=some e/\bE e<=10000/\fo e)/\r.name.length<=20000
theorem L0 {k:Int} {nm hd rest:Tx} {r:fI} (h:jE k nm hd rest = .lK r):∃ e,r.cond=some e/\(fF rest).1=some e/\(fF rest).2=none/\r.name=nm/\r.kind=k:=by
 unfold jE at h;split at h
 .cases h
 .rename_i hn;simp only[nh.lK.injEq]at h;obtain⟨e,he⟩:=xY hn;subst h;exact⟨e,he,he,hn,rfl,rfl⟩
theorem LY {k:Int} {nm hd rest:Tx} {n:eM}:jE k nm hd rest≠.name n:=by
 unfold jE;split<;>simp
theorem LW {hd rest:Tx} {l:List Tx} {r:fI} (h:mh hd rest l = .lK r):∃ k nm,nm∈l/\jE k nm hd rest = .lK r:=by
 match l,h with
 | [a],h=>exact⟨_,a,by simp,h⟩
 | [a,b],h=>
  simp only[mh]at h;split at h
  .cases h
  .exact⟨_,b,by simp,h⟩
theorem U6 {l:List Tx} {n:eM} (h:ad4 l = .name n):n.name∈l:=by
 match l,h with
 | a :: [b],h=>
  simp only[ad4,eT]at h;split at h
  .simp only[nh.name.injEq]at h;subst h;simp
  .cases h
 | a :: [b,c],h=>
  simp only[ad4,eT]at h;split at h
  .split at h
   .simp only[nh.name.injEq]at h;subst h;simp
   .cases h
  .cases h
theorem Ks {l:List Tx} {r:fI}:ad4 l≠.lK r:=by
 match l with
 | []=>simp[ad4]
 | [a]=>simp[ad4,eT]
 | [a,b]=>simp only[ad4,eT];split<;>simp
 | [a,b,c]=>simp only[ad4,eT];split<;>(try split)<;>simp
 | a :: b :: c :: d :: l=>simp[ad4,eT]
theorem Yy {hd rest:Tx} {l:List Tx} {n:eM}:mh hd rest l≠.name n:=by
 match l with
 | []=>simp[mh]
 | [a]=>exact LY
 | [a, b] => simp only [mh]; split; · simp
             .exact LY
 | a :: b :: c :: l=>simp[mh]
theorem yU (c:UInt8) (t:Tx):(cutAt c t).1.length<=t.length/\(cutAt c t).2.length<=t.length:=by
 by_cases h:c∈t
 .obtain⟨h1,_⟩:=O2 h;have:=congrArg List.length h1;simp only[acC,acv]at this;omega
 .unfold cutAt;have h1:=F4 (fun x=>!decide (x=c)) t;have h2:=(List.dropWhile_sublist (l:=t) (fun x=>!decide (x=c))).length_le;dsimp only;rw[acK];omega
theorem Uk {s:Tx} {n:eM} (h:e7 s = .name n):n.name.length<=s.length/\n.name≠[]:=by
 unfold e7 at h;split at h
 .exact absurd h Yy
 .have:=BC (U6 h);exact⟨this.2,this.1⟩
theorem Um {s:Tx} {r:fI} (h:e7 s = .lK r):(∃ e,r.cond=some e/\bE e<=10000/\fo e)/\r.name.length<=s.length:=by
 unfold e7 at h;split at h
 .obtain⟨k,nm,hm,hr⟩:=LW h;obtain⟨e,he,hp,_,hn,_⟩:=L0 hr;have h1:=BC hm;have h2:=yU 61 s;exact⟨⟨e,he,KW hp,(Fj hp).1⟩,by rw[hn];omega⟩
 .exact absurd h Ks
theorem VT {s s':k7} {m pl:Nat} {ln:Tx} (hs:vK m s) (hl:ln.length<=20000) (h:iq s pl ln = .inr s'):vK (m+1) s':=by
 obtain⟨h1,h2,h3,h4,h5⟩:=hs;unfold iq at h;split at h
 .simp only[ae3]at h;subst h;exact⟨h1,h2,by omega,h4,h5⟩
 .split at h
  .cases h
  .cases h
  .rename_i n hn;split at h
   .simp only[ae3]at h;subst h;refine⟨by simp[h1],h2,by simp;omega,fun x hx=>?_,h5⟩
    rcases ab4.1 hx with hx | hx
    .exact h4 x hx
    .obtain rfl:x=n:=by simpa using hx
     have:=(Uk hn).1;omega
   .cases h
  .rename_i r hr;simp only[ae3]at h;subst h;refine⟨h1,by simp[h2],by simp;omega,h4,fun x hx=>?_⟩
   rcases ab4.1 hx with hx | hx
   .exact h5 x hx
   .obtain rfl:x=r:=by simpa using hx
    have:=Um hr;exact⟨this.1,by omega⟩
theorem VU:vK 0 lH:=⟨rfl,rfl,abL _,by simp[lH],by simp[lH]⟩
theorem agv {t:Tx} (ht:t.length<=20000):∀ {k:Nat} {s:k7},k<=(acx 10 t).length->eB (acx 10 t) k = .inr s->vK k s
 | 0,s,_,h=>by
  simp only[eB,ae3]at h;subst h;exact VU
 | k+1,s,hk,h=>by
  rw[eB]at h;split at h
  .cases h
  .rename_i s0 h0;refine VT (agv ht (by omega) h0) ?_ h;rw[abJ,By (by omega)];have:=ag0 (c:=10) (t:=t) (k:=k) (by omega);simp only[adW];omega
theorem La {m:Nat} {s:k7} (h:vK m s) (hm:m<=30000):yB ⟨s.names,s.ao⟩:=by
 obtain⟨h1,h2,h3,h4,h5⟩:=h;refine⟨by show s.names.length < _;omega,by show s.ao.length < _;omega,fun n hn=>by have:=h4 n hn;omega,fun r hr e he=>?_⟩;obtain⟨⟨e',gZ,hb,_⟩,_⟩:=h5 r hr;obtain rfl:e'=e:=AI (gZ.symm.trans he);have h1:=Lib.compact_length_le (jY (ck true e'));have h2:=oQ (ck true e');have h3:=s6 true e';refine⟨by omega,?_⟩;unfold dv;omega
