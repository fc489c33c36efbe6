/- Parts. -/
import Derived.Test.YtobejfcgcfdpfaaGreatDoorPc28
import Derived.Lib.AtoiAll
import Derived.Lib.ItoaNum
set_option linter.unusedSimpArgs false
set_option linter.unusedVariables false
namespace Go.Proofs.YtobejfcgcfdpfaaGreatDoor
open Go.Av
def uR:List Tx:=[[],[105,110,112,117,116],[99,111,105,108],[116,105,109,101,114],[99,111,117,110,116,101,114]]
def qi:List Tx:=[[],[],[115,101,116],[114,101,115,101,116],[114,117,110],[99,111,117,110,116],[122,101,114,111]]
def kT (l:List Tx) (s:Tx):Int:=idx (fun x=>x == s) l
def yc (w:Tx):Option Int:=match Lib.atoiAll w with
 | .ok v=>if Lib.itoa v=w then some v else none
 | _=>none
inductive s4 where
 | form
 | bad (c:Int) (off:Nat)
 | name (n:iD)
 | qW (r:jy)
def oC (k:Int) (nm hd rest:Tx):s4:=match (ig rest).2 with
 | some (c,o)=>.bad c (hd.length+1+o.getD 0)
 | none=>.qW ⟨k,nm,(ig rest).1⟩
def r0 (hd rest:Tx):List Tx->s4
 | [a]=>oC 1 a hd rest
 | [a,b]=>if kT qi a < 2 then .form else oC (kT qi a) b hd rest
 | _=>.form
def iJ (k:Int):List Tx->s4
 | [b]=>if 1<=k/\k < 3 then .name ⟨b,k,0⟩ else .form
 | [b,c]=>if 3<=k then (match yc c with | some v=>.name ⟨b,k,v⟩ | none=>.form) else .form
 | _=>.form
def mg:List Tx->s4
 | a :: l=>iJ (kT uR a) l
 | []=>.form
def iS (s:Tx):s4:=if (61:UInt8)∈s then r0 (cutAt 61 s).1 (cutAt 61 s).2 (jo (cutAt 61 s).1) else mg (jo s)
structure qu where
 names:List iD
 kb:List Nat
 aC:List jy
 kh:List Nat
def qT:qu:=⟨[],[],[],[]⟩
def my (s:qu) (pl:Nat) (ln:Tx):(Int×Nat) ⊕ qu:=
 if jo ln=[] then .inr s else match iS ln with
  | .form=>.inl (3,pl)
  | .bad c off=>.inl (c,pl+off)
  | .name n=>if s.aC=[] then .inr ⟨s.names ++ [n],s.kb ++ [pl],s.aC,s.kh⟩ else .inl (3,pl)
  | .qW r=>.inr ⟨s.names,s.kb,s.aC ++ [r],s.kh ++ [pl]⟩
def ik (l:List Tx):Nat->(Int×Nat) ⊕ qu
 | 0=>.inr qT
 | k+1=>match ik l k with
  | .inl e=>.inl e
  | .inr s=>my s (kg l k) (l.getD k [])
def kf (t:Tx):Option (Int×Option Nat)×aM:=
 if 20000 < t.length then (some (4,none),⟨[],[]⟩) else match ik (fy 10 t) (fy 10 t).length with
  | .inl (c,i)=>(some (c,some i),⟨[],[]⟩)
  | .inr s=>match cO ⟨s.names,s.aC⟩ with
   | none=>(none,⟨s.names,s.aC⟩)
   | some (c,none)=>(some (c,none),⟨[],[]⟩)
   | some (c,some i)=>(some (c,some ((s.kb ++ s.kh).getD i 0)),⟨[],[]⟩)
theorem ahD {l:List Tx} {e:Int×Nat} {k:Nat} (h:ik l k = .inl e):∀ j,k<=j->ik l j = .inl e:=by
 intro j hj
 induction j with
 | zero => obtain rfl : k = 0 := aa
           exact h
 | succ j ih=>
  rcases anv k (j+1)with h1 | h1
  .rw[ik,ih aa]
  .obtain rfl:k=j+1:=aa
   exact h
theorem VS {l:List Tx} {s:qu} {e:Int×Nat} {k:Nat} (hk:k < l.length) (h:ik l k = .inr s) (he:my s (kg l k) l[k] = .inl e):ik l l.length = .inl e:=by
 refine ahD (k:=k+1) ?_ _ aa;rw[ik,h];show my s (kg l k) (l.getD k [])=_;rw[ame,AT hk];exact he
theorem VT {l:List Tx} {s s':qu} {k:Nat} (hk:k < l.length) (h:ik l k = .inr s) (he:my s (kg l k) l[k] = .inr s'):ik l (k+1) = .inr s':=by
 rw[ik,h];show my s (kg l k) (l.getD k [])=_;rw[ame,AT hk];exact he
theorem OJ {t:Tx} {c:Int} {i:Nat} (ht:t.length<=20000) (h:ik (fy 10 t) (fy 10 t).length = .inl (c,i)):kf t=(some (c,some i),⟨[],[]⟩):=by
 unfold kf;rw[if_neg aa,h]
theorem OK {t : Tx} {s : qu} (ht : t.length <= 20000) (h : ik (fy 10 t) (fy 10 t).length = .inr s) : kf t = match cO ⟨s.names, s.aC⟩ with
      | none=>(none,⟨s.names,s.aC⟩)
      | some (c,none)=>(some (c,none),⟨[],[]⟩)
      | some (c,some i)=>(some (c,some ((s.kb ++ s.kh).getD i 0)),⟨[],[]⟩):=by
 unfold kf;rw[if_neg aa,h]
def yP {α:Type} (t:Tx) (f:Nat->Rs α):Prop:=∀ i c p q,i<=t.length->f i = .err c p q->p<=t.length
theorem E0 {α β:Type} {f:α->β} {r:Rs α} {c:Int} {p q:Nat} (h:r.map f = .err c p q):r = .err c p q:=by
 cases r with
 | ok x j=>cases h
 | err c' p' q'=>
  simp only[Rs.map,Rs.err.injEq]at h;obtain⟨rfl,rfl,rfl⟩:=h;rfl
theorem PS (t:Tx) (q0:Nat):yP t (gD t q0):=fun i c p q hi h=>by
 unfold gD at h;have:=mw hi;split at h
 .simp only[Rs.err.injEq]at h;omega
 .split at h
  .simp only[Rs.err.injEq]at h;omega
  .cases h
theorem Pg {α:Type} {t:Tx} {s:UInt8} {f:Nat->Rs α} (hg:mC t f) (hf:yP t f):∀ (n i:Nat) (acc:List α) (c:Int) (p q:Nat),i<=t.length->jn t s f n i acc = .err c p q->p<=t.length
 | 0,i,acc,c,p,q,hi,h=>by
  simp only[jn,Rs.err.injEq]at h;omega
 | n+1,i,acc,c,p,q,hi,h=>by
  rw[jn]at h
  cases cE:f i with
  | err c' p' q'=>
   rw[cE]at h;simp only[Rs.err.injEq]at h;have:=hf i c' p' q' hi cE;omega
  | ok x j=>
   rw[cE]at h;dsimp only at h;have hj:=hg i x j hi cE;split at h
   .exact Pg hg hf n _ _ c p q (pM hj.2).2.1 h
   .cases h
theorem YI {t:Tx} {one:Nat->Rs Ex} (hg:mC t one) (h:yP t one):yP t (oL t one):=fun i c p q hi he=>Pg hg h _ _ _ c p q hi (E0 he)
theorem Vy {t:Tx} {one:Nat->Rs Ex} (hg:mC t one) (h:yP t one):yP t (mj t one):=fun i c p q hi he=>Pg (C7 hg) (YI hg h) _ _ _ c p q hi (E0 he)
theorem Vv (t:Tx):∀ d,yP t (cR t d)
 | 0=>fun i c p q hi h=>by
  simp only[cR,Rs.err.injEq]at h;have:=mw hi;omega
 | d+1=>fun i c p q hi h=>by
  have ih:=Vv t d;have hs:=mw hi;have nx:∀ {x:UInt8},t[bB t i]? = some x->bB t i+1<=t.length:=fun h=>(BY.1 h).1;rw[cR]at h;split at h
  .rename_i hc
   cases he:cR t d (bB t i+1) with
   | ok y k=>rw[he]at h;cases h
   | err c' p' q'=>
    rw[he]at h;simp only[Rs.err.injEq]at h;have:=ih _ _ _ _ (nx hc) he;omega
  split at h
  .rename_i hc
   cases he:mj t (cR t d) (bB t i+1) with
   | ok y k=>
    rw[he]at h;dsimp only at h;have hk:=wL (pK t d) _ _ _ (nx hc) he;split at h
    .cases h
    .simp only[Rs.err.injEq]at h;have:=(pM (c:=41) hk.2).2.1;omega
   | err c' p' q'=>
    rw[he]at h;simp only[Rs.err.injEq]at h;have:=Vy (pK t d) ih _ _ _ _ (nx hc) he;omega
  split at h
  .cases h
  split at h
  .cases h
  split at h
  .rename_i hc;exact PS t 1 _ _ _ _ (nx hc) (E0 h)
  split at h
  .rename_i hc;exact PS t 2 _ _ _ _ (nx hc) (E0 h)
  .exact PS t 3 _ _ _ _ hs (E0 h)
theorem Fl {t:Tx} {c:Int} {p:Nat} (h:(ig t).2=some (c,some p)):p<=t.length:=by
 unfold ig at h;split at h
 .cases h
 .split at h
  .rename_i c' p' q' he;simp only[IT,amj]at h;have:=Vy (pK t 20) (Vv t 20) 0 _ _ _ (anZ _) he;omega
  .rename_i x i he;have:=wL (pK t 20) 0 _ _ (anZ _) he;split at h
   .simp only[IT,amj]at h;have:=mw this.2;omega
   .cases h
structure CZ (m:Nat) (s:qu):Prop where
 nl:s.kb.length=s.names.length
 rl:s.kh.length=s.aC.length
 nm:s.names.length+s.aC.length<=m
 nn:∀ n∈s.names,n.name.length<=20000
 cb:∀ r∈s.aC,(∃ e,r.cond=some e/\bE e<=10000/\gF e)/\r.name.length<=20000
theorem W0 {k:Int} {nm hd rest:Tx} {r:jy} (h:oC k nm hd rest = .qW r):∃ e,r.cond=some e/\(ig rest).1=some e/\(ig rest).2=none/\r.name=nm/\r.kind=k:=by
 unfold oC at h;split at h
 .cases h
 .rename_i hn;simp only[s4.qW.injEq]at h;obtain⟨e,he⟩:=CD hn;subst h;exact⟨e,he,he,hn,rfl,rfl⟩
theorem WY {k:Int} {nm hd rest:Tx} {n:iD}:oC k nm hd rest≠.name n:=by
 unfold oC;split<;>simp
theorem WV {hd rest:Tx} {l:List Tx} {r:jy} (h:r0 hd rest l = .qW r):∃ k nm,nm∈l/\oC k nm hd rest = .qW r:=by
 match l,h with
 | [a],h=>exact⟨_,a,ak,h⟩
 | [a,b],h=>
  simp only[r0]at h;split at h
  .cases h
  .exact⟨_,b,ak,h⟩
theorem ae9 {l:List Tx} {n:iD} (h:mg l = .name n):n.name∈l:=by
 match l,h with
 | a :: [b],h=>
  simp only[mg,iJ]at h;split at h
  .simp only[s4.name.injEq]at h;subst h;simp
  .cases h
 | a :: [b,c],h=>
  simp only[mg,iJ]at h;split at h
  .split at h
   .simp only[s4.name.injEq]at h;subst h;simp
   .cases h
  .cases h
theorem U9 {l:List Tx} {r:jy}:mg l≠.qW r:=by
 match l with
 | []=>simp[mg]
 | [a]=>simp[mg,iJ]
 | [a,b]=>simp only[mg,iJ];split<;>simp
 | [a,b,c]=>simp only[mg,iJ];split<;>(try split)<;>simp
 | a :: b :: c :: d :: l=>simp[mg,iJ]
theorem aiP {hd rest:Tx} {l:List Tx} {n:iD}:r0 hd rest l≠.name n:=by
 match l with
 | []=>simp[r0]
 | [a]=>exact WY
 | [a, b] => simp only [r0]; split; · simp
             .exact WY
 | a :: b :: c :: l=>simp[r0]
theorem Gs (c:UInt8) (t:Tx):(cutAt c t).1.length<=t.length/\(cutAt c t).2.length<=t.length:=by
 by_cases h:c∈t
 .obtain⟨h1,_⟩:=aaf h;have:=congrArg List.length h1;simp only[amp,amo]at this;omega
 .unfold cutAt;have h1:=Pz (fun x=>!decide (x=c)) t;have h2:=(List.dropWhile_sublist (l:=t) (fun x=>!decide (x=c))).length_le;dsimp only;rw[amF];omega
theorem aeC {s:Tx} {n:iD} (h:iS s = .name n):n.name.length<=s.length/\n.name≠[]:=by
 unfold iS at h;split at h
 .exact absurd h aiP
 .have:=JU (ae9 h);exact⟨this.2,this.1⟩
theorem aeE {s:Tx} {r:jy} (h:iS s = .qW r):(∃ e,r.cond=some e/\bE e<=10000/\gF e)/\r.name.length<=s.length:=by
 unfold iS at h;split at h
 .obtain⟨k,nm,hm,hr⟩:=WV h;obtain⟨e,he,hp,_,hn,_⟩:=W0 hr;have h1:=JU hm;have h2:=Gs 61 s;exact⟨⟨e,he,OL hp,(I6 hp).1⟩,by rw[hn];omega⟩
 .exact absurd h U9
theorem ahF {s s':qu} {m pl:Nat} {ln:Tx} (hs:CZ m s) (hl:ln.length<=20000) (h:my s pl ln = .inr s'):CZ (m+1) s':=by
 obtain⟨h1,h2,h3,h4,h5⟩:=hs;unfold my at h;split at h
 .simp only[an1]at h;subst h;exact⟨h1,h2,aa,h4,h5⟩
 .split at h
  .cases h
  .cases h
  .rename_i n hn;split at h
   .simp only[an1]at h;subst h;refine⟨by simp[h1],h2,by simp;omega,fun x hx=>?_,h5⟩
    rcases amq.1 hx with hx | hx
    .exact h4 x hx
    .obtain rfl:x=n:=by simpa using hx
     have:=(aeC hn).1;omega
   .cases h
  .rename_i r hr;simp only[an1]at h;subst h;refine⟨h1,by simp[h2],by simp;omega,h4,fun x hx=>?_⟩
   rcases amq.1 hx with hx | hx
   .exact h5 x hx
   .obtain rfl:x=r:=by simpa using hx
    have:=aeE hr;exact⟨this.1,aa⟩
theorem ahG:CZ 0 qT:=⟨rfl,rfl,amh _,by simp[qT],by simp[qT]⟩
theorem Fv {t:Tx} (ht:t.length<=20000):∀ {k:Nat} {s:qu},k<=(fy 10 t).length->ik (fy 10 t) k = .inr s->CZ k s
 | 0,s,_,h=>by
  simp only[ik,an1]at h;subst h;exact ahG
 | k+1,s,hk,h=>by
  rw[ik]at h;split at h
  .cases h
  .rename_i s0 h0;refine ahF (Fv ht aa h0) ?_ h;rw[ame,AT aa];have:=OO (c:=10) (t:=t) (k:=k) aa;simp only[anM];omega
theorem VX {m:Nat} {s:qu} (h:CZ m s) (hm:m<=30000):F4 ⟨s.names,s.aC⟩:=by
 obtain⟨h1,h2,h3,h4,h5⟩:=h;refine⟨by show s.names.length < _;omega,by show s.aC.length < _;omega,fun n hn=>by have:=h4 n hn;omega,fun r hr e he=>?_⟩;obtain⟨⟨e',kM,hb,_⟩,_⟩:=h5 r hr;obtain rfl:e'=e:=AI (kM.symm.trans he);have h1:=Lib.compact_length_le (oD (dH true e'));have h2:=tW (dH true e');have h3:=x8 true e';refine⟨aa,?_⟩;unfold ey;omega
