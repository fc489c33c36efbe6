/- Parts. -/
import Derived.Test.YtobejfcgcfdpfaaGreatDoorPc12
import Derived.Lib.Join
set_option linter.unusedSimpArgs false
set_option linter.unusedVariables false
namespace Go.Proofs.YtobejfcgcfdpfaaGreatDoor
inductive Ex where
 | iW (b:Bool)
 | bit (s:List UInt8)
 | jV (s:List UInt8)
 | jL (s:List UInt8)
 | not (e:Ex)
 | and (l:List Ex)
 | or (l:List Ex)
inductive Rs (α:Type) where
 | ok (x:α) (i:Nat)
 | err (c:Int) (p q:Nat)
def bB (t:List UInt8) (i:Nat):Nat:=i+((t.drop i).takeWhile fun c=>c == 32).length
theorem Pn {t:List UInt8} {i:Nat} (h:t[i]? = some 32):bB t i=bB t (i+1):=by
 obtain⟨hi,he⟩:=BY.1 h;unfold bB;rw[amu hi,he,anL];simp;omega
theorem AG {t:List UInt8} {i:Nat} (h:t[i]?≠some 32):bB t i=i:=by
 unfold bB;by_cases hi:i < t.length
 .rw[amu hi,anL]
  have:(t[i] == 32)=false:=by
   rw[AT hi]at h;simpa using h
  simp[this]
 .rw[amH aa];simp
theorem FE (t:List UInt8) (i:Nat):i<=bB t i:=by unfold bB;omega
theorem Po {t:List UInt8}:∀ (n i:Nat),t.length - i=n->i<=t.length->bB t i<=t.length/\t[bB t i]?≠some 32
 | 0,i,h,hi=>by
  have e:t[i]? = none:=anD aa;rw[AG (by rw[e];simp)];exact⟨hi,by rw[e];simp⟩
 | n+1,i,h,hi=>by
  by_cases hb:t[i]? = some 32
  .rw[Pn hb];exact Po n (i+1) aa aa
  .rw[AG hb];exact⟨hi,hb⟩
theorem mw {t:List UInt8} {i:Nat} (h:i<=t.length):bB t i<=t.length:=(Po _ i rfl h).1
theorem ai4 {t:List UInt8} {i:Nat} (h:i<=t.length):t[bB t i]?≠some 32:=(Po _ i rfl h).2
theorem AF {t:List UInt8} {i:Nat} (h:i<=t.length):bB t (bB t i)=bB t i:=AG (ai4 h)
def eX (t:List UInt8) (c:UInt8) (i:Nat):Bool×Nat:=if t[bB t i]? = some c then (true,bB t i+1) else (false,bB t i)
def nH (c:UInt8):Bool:=[32,38,124,33,94,126,40,41,61].contains c
def sY (t:List UInt8) (k:Nat):Nat:=k+((t.drop k).takeWhile fun c=>!nH c).length
theorem ajM {t:List UInt8} {k:Nat} (hk:k < t.length) (h:nH t[k]=false):sY t k=sY t (k+1):=by
 unfold sY;rw[amu hk,anL,h];simp;omega
theorem ajN {t:List UInt8} {k:Nat} (h:∀ hk:k < t.length,nH t[k]=true):sY t k=k:=by
 unfold sY;by_cases hk:k < t.length
 .rw[amu hk,anL,h hk];simp
 .rw[amH aa];simp
theorem ajL (t:List UInt8) (k:Nat):k<=sY t k:=by unfold sY;omega
theorem Pz {α:Type} (p:α->Bool):∀ l:List α,(l.takeWhile p).length<=l.length
 | []=>ak
 | x :: l=>by
  rw[anL];split
  .simp only[amo];have:=Pz p l;omega
  .simp
theorem ajO {t:List UInt8} {k:Nat} (h:k<=t.length):sY t k<=t.length:=by
 have:=Pz (fun c=>!nH c) (t.drop k);rw[amF]at this;unfold sY;omega
def vX (t:List UInt8) (i:Nat):Bool:=match t[i]? with
 | some c=>!nH c && (c != 48 && c != 49)
 | none=>false
def rb (t:List UInt8) (i:Nat):Nat:=if vX t i then sY t (i+1) else i
theorem aca {t:List UInt8} {i:Nat} (h:vX t i=true):i < t.length:=by
 unfold vX at h
 cases hi:t[i]? with
 | none=>rw[hi]at h;cases h
 | some c=>exact (BY.1 hi).1
theorem JI (t:List UInt8) (i:Nat):i<=rb t i:=by
 unfold rb;split
 .have:=ajL t (i+1);omega
 .omega
theorem PH {t:List UInt8} {i:Nat} (h:i<=t.length):rb t i<=t.length:=by
 unfold rb;split
 .rename_i hh;exact ajO (aca hh)
 .exact h
def jJ (t:List UInt8) (j:Nat):List UInt8:=(t.drop j).take (rb t j - j)
def gD (t:List UInt8) (q i:Nat):Rs (List UInt8):=
 if jJ t (bB t i)=[] then .err 3 (bB t i) q else if jQ (jJ t (bB t i))=false then .err 5 (bB t i) q else .ok (jJ t (bB t i)) (rb t (bB t i))
def Rs.map {α β:Type} (f:α->β):Rs α->Rs β
 | .ok x i=>.ok (f x) i
 | .err c p q=>.err c p q
def jn {α:Type} (t:List UInt8) (sign:UInt8) (f:Nat->Rs α):Nat->Nat->List α->Rs (List α)
 | 0,i,_=>.err 0 i 0
 | n+1,i,acc=>match f i with
  | .err c p _=>.err c p 0
  | .ok x j=>if (eX t sign j).1 then jn t sign f n (eX t sign j).2 (acc ++ [x]) else .ok (acc ++ [x]) (eX t sign j).2
def vr:List Ex->Ex
 | [x]=>x
 | l=>.and l
def vt:List Ex->Ex
 | [x]=>x
 | l=>.or l
def oL (t:List UInt8) (one:Nat->Rs Ex) (i:Nat):Rs Ex:=(jn t 38 one (t.length+1 - i) i []).map vr
def mj (t:List UInt8) (one:Nat->Rs Ex) (i:Nat):Rs Ex:=(jn t 124 (oL t one) (t.length+1 - i) i []).map vt
def cR (t:List UInt8):Nat->Nat->Rs Ex
 | 0,i=>.err 4 (bB t i) 0
 | d+1,i=>
  if t[bB t i]? = some 33 then (match cR t d (bB t i+1)with | .ok x k=>.ok (.not x) k | .err c p _=>.err c p 0)
  else if t[bB t i]? = some 40 then (match mj t (cR t d) (bB t i+1) with
   | .ok x k=>if (eX t 41 k).1 then .ok x (eX t 41 k).2 else .err 3 (eX t 41 k).2 0
   | .err c p _=>.err c p 0)
  else if t[bB t i]? = some 48 then .ok (.iW false) (bB t i+1)
  else if t[bB t i]? = some 49 then .ok (.iW true) (bB t i+1)
  else if t[bB t i]? = some 94 then (gD t 1 (bB t i+1)).map .jV
  else if t[bB t i]? = some 126 then (gD t 2 (bB t i+1)).map .jL
  else (gD t 3 (bB t i)).map .bit
def ig (t:List UInt8):Option Ex×Option (Int×Option Nat):=
 if 2000 < t.length then (none,some (4,none))
 else match mj t (cR t 20) 0 with
  | .err c p _=>(none,some (c,some p))
  | .ok x i=>if bB t i < t.length then (none,some (3,some (bB t i))) else (some x,none)
def mC {α:Type} (t:List UInt8) (f:Nat->Rs α):Prop:=∀ i x j,i<=t.length->f i = .ok x j->i < j/\j<=t.length
theorem pM {t:List UInt8} {c:UInt8} {i:Nat} (h:i<=t.length):i<=(eX t c i).2/\(eX t c i).2<=t.length/\((eX t c i).1=true->i < (eX t c i).2):=by
 have h1:=FE t i;have h2:=mw h;unfold eX;split
 .rename_i hc;have:=(BY.1 hc).1;exact⟨by dsimp only;omega,by dsimp only;omega,fun _=>by dsimp only;omega⟩
 .exact⟨h1,h2,fun h=>by cases h⟩
theorem Jt {α:Type} {t:List UInt8} {s:UInt8} {f:Nat->Rs α} (hf:mC t f):∀ (n i:Nat) (acc l:List α) (j:Nat),i<=t.length->jn t s f n i acc = .ok l j->i < j/\j<=t.length
 | 0,i,acc,l,j,_,h=>by simp[jn]at h
 | n+1,i,acc,l,j,hi,h=>by
  rw[jn]at h
  cases cE:f i with
  | err c p q=>rw[cE]at h;cases h
  | ok x k=>
   rw[cE]at h;obtain⟨h1,h2⟩:=hf i x k hi cE;obtain⟨t1,t2,t3⟩:=pM (c:=s) h2;dsimp only at h;split at h
   .have:=Jt hf n _ _ l j t2 h;omega
   .simp only[Rs.ok.injEq]at h;omega
theorem qm {α β:Type} {f:α->β} {r:Rs α} {y:β} {j:Nat} (h:r.map f = .ok y j):∃ x,r = .ok x j/\f x=y:=by
 cases r with
 | ok x i=>simp only[Rs.map,Rs.ok.injEq]at h;exact⟨x,by rw[h.2],h.1⟩
 | err c p q=>cases h
theorem C7 {t:List UInt8} {one:Nat->Rs Ex} (h:mC t one):mC t (oL t one):=fun i x j hi he=>by
 obtain⟨l,h1,_⟩:=qm he;exact Jt h _ _ _ _ _ hi h1
theorem wL {t:List UInt8} {one:Nat->Rs Ex} (h:mC t one):mC t (mj t one):=fun i x j hi he=>by
 obtain⟨l,h1,_⟩:=qm he;exact Jt (C7 h) _ _ _ _ _ hi h1
theorem JQ (t:List UInt8) (q:Nat):mC t (gD t q):=fun i s j hi h=>by
 have h1:=FE t i;have h2:=mw hi;unfold gD at h;split at h
 .cases h
 .rename_i hn;split at h
  .cases h
  .simp only[Rs.ok.injEq]at h;obtain⟨_,rfl⟩:=h;have h3:=PH h2;have h4:=JI t (bB t i);refine⟨?_,h3⟩
   rcases Nat.eq_or_lt_of_le h4 with e | e
   .exfalso;apply hn;unfold jJ;rw[<- e,Nat.sub_self,List.take_zero]
   .omega
theorem pK (t:List UInt8):∀ d,mC t (cR t d)
 | 0=>fun i x j _ h=>by simp[cR]at h
 | d+1=>fun i x j hi h=>by
  have ih:=pK t d;have h1:=FE t i;have h2:=mw hi;have hb:∀ {c:UInt8},t[bB t i]? = some c->bB t i < t.length:=fun hc=>(BY.1 hc).1;rw[cR]at h;split at h
  .rename_i hc;have:=hb hc
   cases he:cR t d (bB t i+1) with
   | err c p q=>rw[he]at h;cases h
   | ok y k=>
    rw[he]at h;simp only[Rs.ok.injEq]at h;have:=ih _ y k aa he;omega
  split at h
  .rename_i _ hc;have:=hb hc
   cases he:mj t (cR t d) (bB t i+1) with
   | err c p q=>rw[he]at h;cases h
   | ok y k=>
    rw[he]at h;dsimp only at h;have h3:=wL ih _ y k aa he;obtain⟨t1,t2,t3⟩:=pM (c:=41) h3.2;split at h
    .simp only[Rs.ok.injEq]at h;omega
    .cases h
  split at h
  .rename_i _ _ hc;have:=hb hc;simp only[Rs.ok.injEq]at h;omega
  split at h
  .rename_i _ _ _ hc;have:=hb hc;simp only[Rs.ok.injEq]at h;omega
  split at h
  .rename_i _ _ _ _ hc;have:=hb hc;obtain⟨s,h3,_⟩:=qm h;have:=JQ t 1 _ s j aa h3;omega
  split at h
  .rename_i _ _ _ _ _ hc;have:=hb hc;obtain⟨s,h3,_⟩:=qm h;have:=JQ t 2 _ s j aa h3;omega
  .obtain⟨s,h3,_⟩:=qm h;have:=JQ t 3 _ s j h2 h3;omega
