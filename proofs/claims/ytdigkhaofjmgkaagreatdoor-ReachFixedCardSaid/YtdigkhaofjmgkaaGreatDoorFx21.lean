/- Parts. -/
import Derived.Test.YtdigkhaofjmgkaaGreatDoorFx12
import Derived.Lib.Join
set_option linter.unusedSimpArgs false
set_option linter.unusedVariables false
namespace Go.Proofs.YtdigkhaofjmgkaaGreatDoor
inductive Ex where
 | ff (b:Bool)
 | bit (s:List UInt8)
 | adb (s:List UInt8)
 | fT (s:List UInt8)
 | not (e:Ex)
 | and (l:List Ex)
 | or (l:List Ex)
inductive Rs (α:Type) where
 | ok (x:α) (i:Nat)
 | err (c:Int) (p q:Nat)
def aZ (t:List UInt8) (i:Nat):Nat:=i+((t.drop i).takeWhile fun c=>c == 32).length
theorem FU {t:List UInt8} {i:Nat} (h:t[i]? = some 32):aZ t i=aZ t (i+1):=by
 obtain⟨hi,he⟩:=OF.1 h;unfold aZ;rw[acy hi,he,aeC];simp;omega
theorem afS {t:List UInt8} {i:Nat} (h:t[i]?≠some 32):aZ t i=i:=by
 unfold aZ;by_cases hi:i < t.length
 .rw[acy hi,aeC]
  have:(t[i] == 32)=false:=by
   rw[By hi]at h;simpa using h
  simp[this]
 .rw[adI (by omega)];simp
theorem yc (t:List UInt8) (i:Nat):i<=aZ t i:=by unfold aZ;omega
theorem FV {t:List UInt8}:∀ (n i:Nat),t.length - i=n->i<=t.length->aZ t i<=t.length/\t[aZ t i]?≠some 32
 | 0,i,h,hi=>by
  have e:t[i]? = none:=adh (by omega);rw[afS (by rw[e];simp)];exact⟨hi,by rw[e];simp⟩
 | n+1,i,h,hi=>by
  by_cases hb:t[i]? = some 32
  .rw[FU hb];exact FV n (i+1) (by omega) (by omega)
  .rw[afS hb];exact⟨hi,hb⟩
theorem im {t:List UInt8} {i:Nat} (h:i<=t.length):aZ t i<=t.length:=(FV _ i rfl h).1
theorem YO {t:List UInt8} {i:Nat} (h:i<=t.length):t[aZ t i]?≠some 32:=(FV _ i rfl h).2
theorem afR {t:List UInt8} {i:Nat} (h:i<=t.length):aZ t (aZ t i)=aZ t i:=afS (YO h)
def cQ (t:List UInt8) (c:UInt8) (i:Nat):Bool×Nat:=if t[aZ t i]? = some c then (true,aZ t i+1) else (false,aZ t i)
def jc (c:UInt8):Bool:=[32,38,124,33,94,126,40,41,61].contains c
def nc (t:List UInt8) (k:Nat):Nat:=k+((t.drop k).takeWhile fun c=>!jc c).length
theorem Zw {t:List UInt8} {k:Nat} (hk:k < t.length) (h:jc t[k]=false):nc t k=nc t (k+1):=by
 unfold nc;rw[acy hk,aeC,h];simp;omega
theorem Zx {t:List UInt8} {k:Nat} (h:∀ hk:k < t.length,jc t[k]=true):nc t k=k:=by
 unfold nc;by_cases hk:k < t.length
 .rw[acy hk,aeC,h hk];simp
 .rw[adI (by omega)];simp
theorem Zv (t:List UInt8) (k:Nat):k<=nc t k:=by unfold nc;omega
theorem F4 {α:Type} (p:α->Bool):∀ l:List α,(l.takeWhile p).length<=l.length
 | []=>by simp
 | x :: l=>by
  rw[aeC];split
  .simp only[acv];have:=F4 p l;omega
  .simp
theorem Zy {t:List UInt8} {k:Nat} (h:k<=t.length):nc t k<=t.length:=by
 have:=F4 (fun c=>!jc c) (t.drop k);rw[acK]at this;unfold nc;omega
def pF (t:List UInt8) (i:Nat):Bool:=match t[i]? with
 | some c=>!jc c && (c != 48 && c != 49)
 | none=>false
def lO (t:List UInt8) (i:Nat):Nat:=if pF t i then nc t (i+1) else i
theorem ahH {t:List UInt8} {i:Nat} (h:pF t i=true):i < t.length:=by
 unfold pF at h
 cases hi:t[i]? with
 | none=>rw[hi]at h;cases h
 | some c=>exact (OF.1 hi).1
theorem Bs (t:List UInt8) (i:Nat):i<=lO t i:=by
 unfold lO;split
 .have:=Zv t (i+1);omega
 .omega
theorem Gc {t:List UInt8} {i:Nat} (h:i<=t.length):lO t i<=t.length:=by
 unfold lO;split
 .rename_i hh;exact Zy (ahH hh)
 .exact h
def fS (t:List UInt8) (j:Nat):List UInt8:=(t.drop j).take (lO t j - j)
def ea (t:List UInt8) (q i:Nat):Rs (List UInt8):=
 if fS t (aZ t i)=[] then .err 3 (aZ t i) q else if gd (fS t (aZ t i))=false then .err 5 (aZ t i) q else .ok (fS t (aZ t i)) (lO t (aZ t i))
def Rs.map {α β:Type} (f:α->β):Rs α->Rs β
 | .ok x i=>.ok (f x) i
 | .err c p q=>.err c p q
def fy {α:Type} (t:List UInt8) (sign:UInt8) (f:Nat->Rs α):Nat->Nat->List α->Rs (List α)
 | 0,i,_=>.err 0 i 0
 | n+1,i,acc=>match f i with
  | .err c p _=>.err c p 0
  | .ok x j=>if (cQ t sign j).1 then fy t sign f n (cQ t sign j).2 (acc ++ [x]) else .ok (acc ++ [x]) (cQ t sign j).2
def o8:List Ex->Ex
 | [x]=>x
 | l=>.and l
def o9:List Ex->Ex
 | [x]=>x
 | l=>.or l
def jG (t:List UInt8) (one:Nat->Rs Ex) (i:Nat):Rs Ex:=(fy t 38 one (t.length+1 - i) i []).map o8
def ij (t:List UInt8) (one:Nat->Rs Ex) (i:Nat):Rs Ex:=(fy t 124 (jG t one) (t.length+1 - i) i []).map o9
def ab7 (t:List UInt8):Nat->Nat->Rs Ex
 | 0,i=>.err 4 (aZ t i) 0
 | d+1,i=>
  if t[aZ t i]? = some 33 then (match ab7 t d (aZ t i+1)with | .ok x k=>.ok (.not x) k | .err c p _=>.err c p 0)
  else if t[aZ t i]? = some 40 then (match ij t (ab7 t d) (aZ t i+1) with
   | .ok x k=>if (cQ t 41 k).1 then .ok x (cQ t 41 k).2 else .err 3 (cQ t 41 k).2 0
   | .err c p _=>.err c p 0)
  else if t[aZ t i]? = some 48 then .ok (.ff false) (aZ t i+1)
  else if t[aZ t i]? = some 49 then .ok (.ff true) (aZ t i+1)
  else if t[aZ t i]? = some 94 then (ea t 1 (aZ t i+1)).map .adb
  else if t[aZ t i]? = some 126 then (ea t 2 (aZ t i+1)).map .fT
  else (ea t 3 (aZ t i)).map .bit
def fF (t:List UInt8):Option Ex×Option (Int×Option Nat):=
 if 2000 < t.length then (none,some (4,none))
 else match ij t (ab7 t 20) 0 with
  | .err c p _=>(none,some (c,some p))
  | .ok x i=>if aZ t i < t.length then (none,some (3,some (aZ t i))) else (some x,none)
def iu {α:Type} (t:List UInt8) (f:Nat->Rs α):Prop:=∀ i x j,i<=t.length->f i = .ok x j->i < j/\j<=t.length
theorem ku {t:List UInt8} {c:UInt8} {i:Nat} (h:i<=t.length):i<=(cQ t c i).2/\(cQ t c i).2<=t.length/\((cQ t c i).1=true->i < (cQ t c i).2):=by
 have h1:=yc t i;have h2:=im h;unfold cQ;split
 .rename_i hc;have:=(OF.1 hc).1;exact⟨by dsimp only;omega,by dsimp only;omega,fun _=>by dsimp only;omega⟩
 .exact⟨h1,h2,fun h=>by cases h⟩
theorem Bh {α:Type} {t:List UInt8} {s:UInt8} {f:Nat->Rs α} (hf:iu t f):∀ (n i:Nat) (acc l:List α) (j:Nat),i<=t.length->fy t s f n i acc = .ok l j->i < j/\j<=t.length
 | 0,i,acc,l,j,_,h=>by simp[fy]at h
 | n+1,i,acc,l,j,hi,h=>by
  rw[fy]at h
  cases bA:f i with
  | err c p q=>rw[bA]at h;cases h
  | ok x k=>
   rw[bA]at h;obtain⟨h1,h2⟩:=hf i x k hi bA;obtain⟨t1,t2,t3⟩:=ku (c:=s) h2;dsimp only at h;split at h
   .have:=Bh hf n _ _ l j t2 h;omega
   .simp only[Rs.ok.injEq]at h;omega
theorem kV {α β:Type} {f:α->β} {r:Rs α} {y:β} {j:Nat} (h:r.map f = .ok y j):∃ x,r = .ok x j/\f x=y:=by
 cases r with
 | ok x i=>simp only[Rs.map,Rs.ok.injEq]at h;exact⟨x,by rw[h.2],h.1⟩
 | err c p q=>cases h
theorem vO {t:List UInt8} {one:Nat->Rs Ex} (h:iu t one):iu t (jG t one):=fun i x j hi he=>by
 obtain⟨l,h1,_⟩:=kV he;exact Bh h _ _ _ _ _ hi h1
theorem afl {t:List UInt8} {one:Nat->Rs Ex} (h:iu t one):iu t (ij t one):=fun i x j hi he=>by
 obtain⟨l,h1,_⟩:=kV he;exact Bh (vO h) _ _ _ _ _ hi h1
theorem Bx (t:List UInt8) (q:Nat):iu t (ea t q):=fun i s j hi h=>by
 have h1:=yc t i;have h2:=im hi;unfold ea at h;split at h
 .cases h
 .rename_i hn;split at h
  .cases h
  .simp only[Rs.ok.injEq]at h;obtain⟨_,rfl⟩:=h;have h3:=Gc h2;have h4:=Bs t (aZ t i);refine⟨?_,h3⟩
   rcases Nat.eq_or_lt_of_le h4 with e | e
   .exfalso;apply hn;unfold fS;rw[<- e,Nat.sub_self,List.take_zero]
   .omega
theorem aeg (t:List UInt8):∀ d,iu t (ab7 t d)
 | 0=>fun i x j _ h=>by simp[ab7]at h
 | d+1=>fun i x j hi h=>by
  have ih:=aeg t d;have h1:=yc t i;have h2:=im hi;have hb:∀ {c:UInt8},t[aZ t i]? = some c->aZ t i < t.length:=fun hc=>(OF.1 hc).1;rw[ab7]at h;split at h
  .rename_i hc;have:=hb hc
   cases he:ab7 t d (aZ t i+1) with
   | err c p q=>rw[he]at h;cases h
   | ok y k=>
    rw[he]at h;simp only[Rs.ok.injEq]at h;have:=ih _ y k (by omega) he;omega
  split at h
  .rename_i _ hc;have:=hb hc
   cases he:ij t (ab7 t d) (aZ t i+1) with
   | err c p q=>rw[he]at h;cases h
   | ok y k=>
    rw[he]at h;dsimp only at h;have h3:=afl ih _ y k (by omega) he;obtain⟨t1,t2,t3⟩:=ku (c:=41) h3.2;split at h
    .simp only[Rs.ok.injEq]at h;omega
    .cases h
  split at h
  .rename_i _ _ hc;have:=hb hc;simp only[Rs.ok.injEq]at h;omega
  split at h
  .rename_i _ _ _ hc;have:=hb hc;simp only[Rs.ok.injEq]at h;omega
  split at h
  .rename_i _ _ _ _ hc;have:=hb hc;obtain⟨s,h3,_⟩:=kV h;have:=Bx t 1 _ s j (by omega) h3;omega
  split at h
  .rename_i _ _ _ _ _ hc;have:=hb hc;obtain⟨s,h3,_⟩:=kV h;have:=Bx t 2 _ s j (by omega) h3;omega
  .obtain⟨s,h3,_⟩:=kV h;have:=Bx t 3 _ s j h2 h3;omega
