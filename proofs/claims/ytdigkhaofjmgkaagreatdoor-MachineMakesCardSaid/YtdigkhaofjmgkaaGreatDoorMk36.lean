/-
  Texts that belong together,in one file: PM1.
-/
import Derived.Test.YtdigkhaofjmgkaaGreatDoorMk28
import Derived.Lib.AtoiAll
import Derived.Lib.ItoaNum
set_option linter.unusedSimpArgs false
set_option linter.unusedVariables false
namespace Go.Proofs.YtdigkhaofjmgkaaGreatDoor
open Go.Av
def nv:List Tx:=[[],[105,110,112,117,116],[99,111,105,108],[116,105,109,101,114],[99,111,117,110,116,101,114]]
def kwR:List Tx:=[[],[],[115,101,116],[114,101,115,101,116],[114,117,110],[99,111,117,110,116],[122,101,114,111]]
def gN (l:List Tx) (s:Tx):Int:=idx (fun x=>x == s) l
def adq (w:Tx):Option Int:=match Lib.atoiAll w with
 | .ok v=>if Lib.itoa v=w then some v else none
 | _=>none
inductive mg where
 | form
 | bad (c:Int) (off:Nat)
 | name (n:NmP)
 | kX (r:RgP)
def jm (k:Int) (nm hd rest:Tx):mg:=match (aba rest).2 with
 | some (c,o)=>.bad c (hd.length+1+o.getD 0)
 | none=>.kX ⟨k,nm,(aba rest).1⟩
def lE (hd rest:Tx):List Tx->mg
 | [a]=>jm 1 a hd rest
 | [a,b]=>if gN kwR a < 2 then .form else jm (gN kwR a) b hd rest
 | _=>.form
def eC (k:Int):List Tx->mg
 | [b]=>if 1<=k/\k < 3 then .name ⟨b,k,0⟩ else .form
 | [b,c]=>if 3<=k then (match adq c with | some v=>.name ⟨b,k,v⟩ | none=>.form) else .form
 | _=>.form
def hU:List Tx->mg
 | a :: l=>eC (gN nv a) l
 | []=>.form
def eO (s:Tx):mg:=if (61:UInt8)∈s then lE (cutAt 61 s).1 (cutAt 61 s).2 (fe (cutAt 61 s).1) else hU (fe s)
structure kC where
 names:List NmP
 gh:List Nat
 ZY:List RgP
 gl:List Nat
def kV:kC:=⟨[],[],[],[]⟩
def abY (s:kC) (pl:Nat) (ln:Tx):(Int×Nat) ⊕ kC:=
 if fe ln=[] then .inr s else match eO ln with
  | .form=>.inl (3,pl)
  | .bad c off=>.inl (c,pl+off)
  | .name n=>if s.ZY=[] then .inr ⟨s.names ++ [n],s.gh ++ [pl],s.ZY,s.gl⟩ else .inl (3,pl)
  | .kX r=>.inr ⟨s.names,s.gh,s.ZY ++ [r],s.gl ++ [pl]⟩
def prK (l:List Tx):Nat->(Int×Nat) ⊕ kC
 | 0=>.inr kV
 | k+1=>match prK l k with
  | .inl e=>.inl e
  | .inr s=>abY s (gk l k) (l.getD k [])
def abg (t:Tx):Option (Int×Option Nat)×aF:=
 if 20000 < t.length then (some (4,none),⟨[],[]⟩) else match prK (cU 10 t) (cU 10 t).length with
  | .inl (c,i)=>(some (c,some i),⟨[],[]⟩)
  | .inr s=>match aar ⟨s.names,s.ZY⟩ with
   | none=>(none,⟨s.names,s.ZY⟩)
   | some (c,none)=>(some (c,none),⟨[],[]⟩)
   | some (c,some i)=>(some (c,some ((s.gh ++ s.gl).getD i 0)),⟨[],[]⟩)
theorem Vg {l:List Tx} {e:Int×Nat} {k:Nat} (h:prK l k = .inl e):∀ j,k<=j->prK l j = .inl e:=by
 intro j hj
 induction j with
 | zero => obtain rfl : k = 0 := by omega
           exact h
 | succ j ih=>
  rcases Nat.lt_or_ge k (j+1) with h1 | h1
  .rw [prK,ih (by omega)]
  .obtain rfl:k=j+1:=by omega
   exact h
theorem Jz {l:List Tx} {s:kC} {e:Int×Nat} {k:Nat} (hk:k < l.length) (h:prK l k = .inr s) (he:abY s (gk l k) l[k] = .inl e):prK l l.length = .inl e:=by
 refine Vg (k:=k+1) ?_ _ (by omega);rw [prK,h];show abY s (gk l k) (l.getD k [])=_;rw [List.getD_eq_getElem?_getD,List.getElem?_eq_getElem hk];exact he
theorem JA {l:List Tx} {s s':kC} {k:Nat} (hk:k < l.length) (h:prK l k = .inr s) (he:abY s (gk l k) l[k] = .inr s'):prK l (k+1) = .inr s':=by
 rw [prK,h];show abY s (gk l k) (l.getD k [])=_;rw [List.getD_eq_getElem?_getD,List.getElem?_eq_getElem hk];exact he
theorem D6 {t:Tx} {c:Int} {i:Nat} (ht:t.length<=20000) (h:prK (cU 10 t) (cU 10 t).length = .inl (c,i)):abg t=(some (c,some i),⟨[],[]⟩):=by
 unfold abg;rw [if_neg (by omega),h]
theorem D7 {t : Tx} {s : kC} (ht : t.length <= 20000) (h : prK (cU 10 t) (cU 10 t).length = .inr s) : abg t = match aar ⟨s.names, s.ZY⟩ with
      | none=>(none,⟨s.names,s.ZY⟩)
      | some (c,none)=>(some (c,none),⟨[],[]⟩)
      | some (c,some i)=>(some (c,some ((s.gh ++ s.gl).getD i 0)),⟨[],[]⟩):=by
 unfold abg;rw [if_neg (by omega),h]
def qj {α:Type} (t:Tx) (f:Nat->Rs α):Prop:=∀ i c p q,i<=t.length->f i = .err c p q->p<=t.length
theorem wv {α β:Type} {f:α->β} {r:Rs α} {c:Int} {p q:Nat} (h:r.map f = .err c p q):r = .err c p q:=by
 cases r with
 | ok x j=>cases h
 | err c' p' q'=>
  simp only [Rs.map,Rs.err.injEq] at h;obtain ⟨rfl,rfl,rfl⟩:=h;rfl
theorem ae1 (t:Tx) (q0:Nat):qj t (aaO t q0):=fun i c p q hi h=>by
 unfold aaO at h;have:=abX hi;split at h
 .simp only [Rs.err.injEq] at h;omega
 .split at h
  .simp only [Rs.err.injEq] at h;omega
  .cases h
theorem EA {α:Type} {t:Tx} {s:UInt8} {f:Nat->Rs α} (hg:abZ t f) (hf:qj t f):∀ (n i:Nat) (acc:List α) (c:Int) (p q:Nat),i<=t.length->fc t s f n i acc = .err c p q->p<=t.length
 | 0,i,acc,c,p,q,hi,h=>by
  simp only [fc,Rs.err.injEq] at h;omega
 | n+1,i,acc,c,p,q,hi,h=>by
  rw [fc] at h
  cases bu:f i with
  | err c' p' q'=>
   rw [bu] at h;simp only [Rs.err.injEq] at h;have:=hf i c' p' q' hi bu;omega
  | ok x j=>
   rw [bu] at h;dsimp only at h;have hj:=hg i x j hi bu;split at h
   .exact EA hg hf n _ _ c p q (j7 hj.2).2.1 h
   .cases h
theorem LQ {t:Tx} {one:Nat->Rs Ex} (hg:abZ t one) (h:qj t one):qj t (jo t one):=fun i c p q hi he=>EA hg h _ _ _ c p q hi (wv he)
theorem Jh {t:Tx} {one:Nat->Rs Ex} (hg:abZ t one) (h:qj t one):qj t (orR t one):=fun i c p q hi he=>EA (aec hg) (LQ hg h) _ _ _ c p q hi (wv he)
theorem Je (t:Tx):∀ d,qj t (aae t d)
 | 0=>fun i c p q hi h=>by
  simp only [aae,Rs.err.injEq] at h;have:=abX hi;omega
 | d+1=>fun i c p q hi h=>by
  have ih:=Je t d;have hs:=abX hi;have nx:∀ {x:UInt8},t[aW t i]? = some x->aW t i+1<=t.length:=fun h=>(List.getElem?_eq_some_iff.1 h).1;rw [aae] at h;split at h
  .rename_i hc
   cases he:aae t d (aW t i+1) with
   | ok y k=>rw [he] at h;cases h
   | err c' p' q'=>
    rw [he] at h;simp only [Rs.err.injEq] at h;have:=ih _ _ _ _ (nx hc) he;omega
  split at h
  .rename_i hc
   cases he:orR t (aae t d) (aW t i+1) with
   | ok y k=>
    rw [he] at h;dsimp only at h;have hk:=oV (j5 t d) _ _ _ (nx hc) he;split at h
    .cases h
    .simp only [Rs.err.injEq] at h;have:=(j7 (c:=41) hk.2).2.1;omega
   | err c' p' q'=>
    rw [he] at h;simp only [Rs.err.injEq] at h;have:=Jh (j5 t d) ih _ _ _ _ (nx hc) he;omega
  split at h
  .cases h
  split at h
  .cases h
  split at h
  .rename_i hc;exact ae1 t 1 _ _ _ _ (nx hc) (wv h)
  split at h
  .rename_i hc;exact ae1 t 2 _ _ _ _ (nx hc) (wv h)
  .exact ae1 t 3 _ _ _ _ hs (wv h)
theorem wM {t:Tx} {c:Int} {p:Nat} (h:(aba t).2=some (c,some p)):p<=t.length:=by
 unfold aba at h;split at h
 .cases h
 .split at h
  .rename_i c' p' q' he;simp only [Option.some.injEq,Prod.mk.injEq] at h;have:=Jh (j5 t 20) (Je t 20) 0 _ _ _ (Nat.zero_le _) he;omega
  .rename_i x i he;have:=oV (j5 t 20) 0 _ _ (Nat.zero_le _) he;split at h
   .simp only [Option.some.injEq,Prod.mk.injEq] at h;have:=abX this.2;omega
   .cases h
structure uw (m:Nat) (s:kC):Prop where
 nl:s.gh.length=s.names.length
 rl:s.gl.length=s.ZY.length
 nm:s.names.length+s.ZY.length<=m
 nn:∀ n∈s.names,n.name.length<=20000
 cb:∀ r∈s.ZY,(∃ e,r.cond=some e/\bE e<=10000/\WfE e)/\r.name.length<=20000
theorem Kr {k:Int} {nm hd rest:Tx} {r:RgP} (h:jm k nm hd rest = .kX r):∃ e,r.cond=some e/\(aba rest).1=some e/\(aba rest).2=none/\r.name=nm/\r.kind=k:=by
 unfold jm at h;split at h
 .cases h
 .rename_i hn;simp only [mg.kX.injEq] at h;obtain ⟨e,he⟩:=wN hn;subst h;exact ⟨e,he,he,hn,rfl,rfl⟩
theorem Kp {k:Int} {nm hd rest:Tx} {n:NmP}:jm k nm hd rest≠.name n:=by
 unfold jm;split<;>simp
theorem Kn {hd rest:Tx} {l:List Tx} {r:RgP} (h:lE hd rest l = .kX r):∃ k nm,nm∈l/\jm k nm hd rest = .kX r:=by
 match l,h with
 | [a],h=>exact ⟨_,a,by simp,h⟩
 | [a,b],h=>
  simp only [lE] at h;split at h
  .cases h
  .exact ⟨_,b,by simp,h⟩
theorem Uv {l:List Tx} {n:NmP} (h:hU l = .name n):n.name∈l:=by
 match l,h with
 | a :: [b],h=>
  simp only [hU,eC] at h;split at h
  .simp only [mg.name.injEq] at h;subst h;simp
  .cases h
 | a :: [b,c],h=>
  simp only [hU,eC] at h;split at h
  .split at h
   .simp only [mg.name.injEq] at h;subst h;simp
   .cases h
  .cases h
theorem IV {l:List Tx} {r:RgP}:hU l≠.kX r:=by
 match l with
 | []=>simp [hU]
 | [a]=>simp [hU,eC]
 | [a,b]=>simp only [hU,eC];split<;>simp
 | [a,b,c]=>simp only [hU,eC];split<;>(try split)<;>simp
 | a :: b :: c :: d :: l=>simp [hU,eC]
theorem Wp {hd rest:Tx} {l:List Tx} {n:NmP}:lE hd rest l≠.name n:=by
 match l with
 | []=>simp [lE]
 | [a]=>exact Kp
 | [a, b] => simp only [lE]; split; · simp
             .exact Kp
 | a :: b :: c :: l=>simp [lE]
theorem xJ (c:UInt8) (t:Tx):(cutAt c t).1.length<=t.length/\(cutAt c t).2.length<=t.length:=by
 by_cases h:c∈t
 .obtain ⟨h1,_⟩:=Ni h;have:=congrArg List.length h1;simp only [List.length_append,List.length_cons] at this;omega
 .unfold cutAt;have h1:=ER (fun x=>!decide (x=c)) t;have h2:=(List.dropWhile_sublist (l:=t) (fun x=>!decide (x=c))).length_le;dsimp only;rw [List.length_drop];omega
theorem Sp {s:Tx} {n:NmP} (h:eO s = .name n):n.name.length<=s.length/\n.name≠[]:=by
 unfold eO at h;split at h
 .exact absurd h Wp
 .have:=Ap (Uv h);exact ⟨this.2,this.1⟩
theorem Sr {s:Tx} {r:RgP} (h:eO s = .kX r):(∃ e,r.cond=some e/\bE e<=10000/\WfE e)/\r.name.length<=s.length:=by
 unfold eO at h;split at h
 .obtain ⟨k,nm,hm,hr⟩:=Kn h;obtain ⟨e,he,hp,_,hn,_⟩:=Kr hr;have h1:=Ap hm;have h2:=xJ 61 s;exact ⟨⟨e,he,Jr hp,(D9 hp).1⟩,by rw [hn];omega⟩
 .exact absurd h IV
theorem Vi {s s':kC} {m pl:Nat} {ln:Tx} (hs:uw m s) (hl:ln.length<=20000) (h:abY s pl ln = .inr s'):uw (m+1) s':=by
 obtain ⟨h1,h2,h3,h4,h5⟩:=hs;unfold abY at h;split at h
 .simp only [Sum.inr.injEq] at h;subst h;exact ⟨h1,h2,by omega,h4,h5⟩
 .split at h
  .cases h
  .cases h
  .rename_i n hn;split at h
   .simp only [Sum.inr.injEq] at h;subst h;refine ⟨by simp [h1],h2,by simp;omega,fun x hx=>?_,h5⟩
    rcases List.mem_append.1 hx with hx | hx
    .exact h4 x hx
    .obtain rfl:x=n:=by simpa using hx
     have:=(Sp hn).1;omega
   .cases h
  .rename_i r hr;simp only [Sum.inr.injEq] at h;subst h;refine ⟨h1,by simp [h2],by simp;omega,h4,fun x hx=>?_⟩
   rcases List.mem_append.1 hx with hx | hx
   .exact h5 x hx
   .obtain rfl:x=r:=by simpa using hx
    have:=Sr hr;exact ⟨this.1,by omega⟩
theorem Vj:uw 0 kV:=⟨rfl,rfl,Nat.le_refl _,by simp [kV],by simp [kV]⟩
theorem wU {t:Tx} (ht:t.length<=20000):∀ {k:Nat} {s:kC},k<=(cU 10 t).length->prK (cU 10 t) k = .inr s->uw k s
 | 0,s,_,h=>by
  simp only [prK,Sum.inr.injEq] at h;subst h;exact Vj
 | k+1,s,hk,h=>by
  rw [prK] at h;split at h
  .cases h
  .rename_i s0 h0;refine Vi (wU ht (by omega) h0) ?_ h;rw [List.getD_eq_getElem?_getD,List.getElem?_eq_getElem (by omega)];have:=Ec (c:=10) (t:=t) (k:=k) (by omega);simp only [Option.getD_some];omega
theorem JE {m:Nat} {s:kC} (h:uw m s) (hm:m<=30000):xp ⟨s.names,s.ZY⟩:=by
 obtain ⟨h1,h2,h3,h4,h5⟩:=h;refine ⟨by show s.names.length < _;omega,by show s.ZY.length < _;omega,fun n hn=>by have:=h4 n hn;omega,fun r hr e he=>?_⟩;obtain ⟨⟨e',gJ,hb,_⟩,_⟩:=h5 r hr;obtain rfl:e'=e:=Option.some.inj (gJ.symm.trans he);have h1:=Lib.compact_length_le (jG (cf true e'));have h2:=nI (cf true e');have h3:=rN true e';refine ⟨by omega,?_⟩;unfold aaE;omega
end Go.Proofs.YtdigkhaofjmgkaaGreatDoor
