/- Parts. -/
import Derived.Test.YtdigkhaofjmgkaaGreatDoorPs12
import Derived.Lib.Join
set_option linter.unusedSimpArgs false
set_option linter.unusedVariables false
namespace Go.Proofs.YtdigkhaofjmgkaaGreatDoor
inductive Ex where
 | dX (b:Bool)
 | bit (s:List UInt8)
 | fS (s:List UInt8)
 | fJ (s:List UInt8)
 | not (e:Ex)
 | and (l:List Ex)
 | or (l:List Ex)
inductive Rs (α:Type) where
 | ok (x:α) (i:Nat)
 | err (c:Int) (p q:Nat)
def aM (t:List UInt8) (i:Nat):Nat:=i+((t.drop i).takeWhile fun c=>c == 32).length
theorem uy {t:List UInt8} {i:Nat} (h:t[i]? = some 32):aM t i=aM t (i+1):=by
 obtain⟨hi,he⟩:=List.getElem?_eq_some_iff.1 h;unfold aM;rw[List.drop_eq_getElem_cons hi,he,List.takeWhile_cons];simp;omega
theorem aaN {t:List UInt8} {i:Nat} (h:t[i]?≠some 32):aM t i=i:=by
 unfold aM;by_cases hi:i < t.length
 .rw[List.drop_eq_getElem_cons hi,List.takeWhile_cons]
  have:(t[i] == 32)=false:=by
   rw[List.getElem?_eq_getElem hi]at h;simpa using h
  simp[this]
 .rw[List.drop_eq_nil_of_le (by omega)];simp
theorem uz (t:List UInt8) (i:Nat):i<=aM t i:=by unfold aM;omega
theorem CJ {t:List UInt8}:∀ (n i:Nat),t.length - i=n->i<=t.length->aM t i<=t.length/\t[aM t i]?≠some 32
 | 0,i,h,hi=>by
  have e:t[i]? = none:=List.getElem?_eq_none (by omega);rw[aaN (by rw[e];simp)];exact⟨hi,by rw[e];simp⟩
 | n+1,i,h,hi=>by
  by_cases hb:t[i]? = some 32
  .rw[uy hb];exact CJ n (i+1) (by omega) (by omega)
  .rw[aaN hb];exact⟨hi,hb⟩
theorem il {t:List UInt8} {i:Nat} (h:i<=t.length):aM t i<=t.length:=(CJ _ i rfl h).1
theorem Vt {t:List UInt8} {i:Nat} (h:i<=t.length):t[aM t i]?≠some 32:=(CJ _ i rfl h).2
theorem qn {t:List UInt8} {i:Nat} (h:i<=t.length):aM t (aM t i)=aM t i:=aaN (Vt h)
def dV (t:List UInt8) (c:UInt8) (i:Nat):Bool×Nat:=if t[aM t i]? = some c then (true,aM t i+1) else (false,aM t i)
def iK (c:UInt8):Bool:=[32,38,124,33,94,126,40,41,61].contains c
def ky (t:List UInt8) (k:Nat):Nat:=k+((t.drop k).takeWhile fun c=>!iK c).length
theorem Jq {t:List UInt8} {k:Nat} (hk:k < t.length) (h:iK t[k]=false):ky t k=ky t (k+1):=by
 unfold ky;rw[List.drop_eq_getElem_cons hk,List.takeWhile_cons,h];simp;omega
theorem Jr {t:List UInt8} {k:Nat} (h:∀ hk:k < t.length,iK t[k]=true):ky t k=k:=by
 unfold ky;by_cases hk:k < t.length
 .rw[List.drop_eq_getElem_cons hk,List.takeWhile_cons,h hk];simp
 .rw[List.drop_eq_nil_of_le (by omega)];simp
theorem V4 (t:List UInt8) (k:Nat):k<=ky t k:=by unfold ky;omega
theorem CV {α:Type} (p:α->Bool):∀ l:List α,(l.takeWhile p).length<=l.length
 | []=>by simp
 | x :: l=>by
  rw[List.takeWhile_cons];split
  .simp only[List.length_cons];have:=CV p l;omega
  .simp
theorem V5 {t:List UInt8} {k:Nat} (h:k<=t.length):ky t k<=t.length:=by
 have:=CV (fun c=>!iK c) (t.drop k);rw[List.length_drop]at this;unfold ky;omega
def ly (t:List UInt8) (i:Nat):Bool:=match t[i]? with
 | some c=>!iK c && (c != 48 && c != 49)
 | none=>false
def kz (t:List UInt8) (i:Nat):Nat:=if ly t i then ky t (i+1) else i
theorem Oz {t:List UInt8} {i:Nat} (h:ly t i=true):i < t.length:=by
 unfold ly at h
 cases hi:t[i]? with
 | none=>rw[hi]at h;cases h
 | some c=>exact (List.getElem?_eq_some_iff.1 hi).1
theorem C0 (t:List UInt8) (i:Nat):i<=kz t i:=by
 unfold kz;split
 .have:=V4 t (i+1);omega
 .omega
theorem JD {t:List UInt8} {i:Nat} (h:i<=t.length):kz t i<=t.length:=by
 unfold kz;split
 .rename_i hh;exact V5 (Oz hh)
 .exact h
def jm (t:List UInt8) (j:Nat):List UInt8:=(t.drop j).take (kz t j - j)
def fE (t:List UInt8) (q i:Nat):Rs (List UInt8):=
 if jm t (aM t i)=[] then .err 3 (aM t i) q else if eS (jm t (aM t i))=false then .err 5 (aM t i) q else .ok (jm t (aM t i)) (kz t (aM t i))
def Rs.map {α β:Type} (f:α->β):Rs α->Rs β
 | .ok x i=>.ok (f x) i
 | .err c p q=>.err c p q
def e8 {α:Type} (t:List UInt8) (sign:UInt8) (f:Nat->Rs α):Nat->Nat->List α->Rs (List α)
 | 0,i,_=>.err 0 i 0
 | n+1,i,acc=>match f i with
  | .err c p _=>.err c p 0
  | .ok x j=>if (dV t sign j).1 then e8 t sign f n (dV t sign j).2 (acc ++ [x]) else .ok (acc ++ [x]) (dV t sign j).2
def mH:List Ex->Ex
 | [x]=>x
 | l=>.and l
def aa5:List Ex->Ex
 | [x]=>x
 | l=>.or l
def iP (t:List UInt8) (one:Nat->Rs Ex) (i:Nat):Rs Ex:=(e8 t 38 one (t.length+1 - i) i []).map mH
def ij (t:List UInt8) (one:Nat->Rs Ex) (i:Nat):Rs Ex:=(e8 t 124 (iP t one) (t.length+1 - i) i []).map aa5
def bK (t:List UInt8):Nat->Nat->Rs Ex
 | 0,i=>.err 4 (aM t i) 0
 | d+1,i=>
  if t[aM t i]? = some 33 then (match bK t d (aM t i+1)with | .ok x k=>.ok (.not x) k | .err c p _=>.err c p 0)
  else if t[aM t i]? = some 40 then (match ij t (bK t d) (aM t i+1) with
   | .ok x k=>if (dV t 41 k).1 then .ok x (dV t 41 k).2 else .err 3 (dV t 41 k).2 0
   | .err c p _=>.err c p 0)
  else if t[aM t i]? = some 48 then .ok (.dX false) (aM t i+1)
  else if t[aM t i]? = some 49 then .ok (.dX true) (aM t i+1)
  else if t[aM t i]? = some 94 then (fE t 1 (aM t i+1)).map .fS
  else if t[aM t i]? = some 126 then (fE t 2 (aM t i+1)).map .fJ
  else (fE t 3 (aM t i)).map .bit
def dO (t:List UInt8):Option Ex×Option (Int×Option Nat):=
 if 2000 < t.length then (none,some (4,none))
 else match ij t (bK t 20) 0 with
  | .err c p _=>(none,some (c,some p))
  | .ok x i=>if aM t i < t.length then (none,some (3,some (aM t i))) else (some x,none)
def aai {α:Type} (t:List UInt8) (f:Nat->Rs α):Prop:=∀ i x j,i<=t.length->f i = .ok x j->i < j/\j<=t.length
theorem my {t:List UInt8} {c:UInt8} {i:Nat} (h:i<=t.length):i<=(dV t c i).2/\(dV t c i).2<=t.length/\((dV t c i).1=true->i < (dV t c i).2):=by
 have h1:=uz t i;have h2:=il h;unfold dV;split
 .rename_i hc;have:=(List.getElem?_eq_some_iff.1 hc).1;exact⟨by dsimp only;omega,by dsimp only;omega,fun _=>by dsimp only;omega⟩
 .exact⟨h1,h2,fun h=>by cases h⟩
theorem xO {α:Type} {t:List UInt8} {s:UInt8} {f:Nat->Rs α} (hf:aai t f):∀ (n i:Nat) (acc l:List α) (j:Nat),i<=t.length->e8 t s f n i acc = .ok l j->i < j/\j<=t.length
 | 0,i,acc,l,j,_,h=>by simp[e8]at h
 | n+1,i,acc,l,j,hi,h=>by
  rw[e8]at h
  cases Zs:f i with
  | err c p q=>rw[Zs]at h;cases h
  | ok x k=>
   rw[Zs]at h;obtain⟨h1,h2⟩:=hf i x k hi Zs;obtain⟨t1,t2,t3⟩:=my (c:=s) h2;dsimp only at h;split at h
   .have:=xO hf n _ _ l j t2 h;omega
   .simp only[Rs.ok.injEq]at h;omega
theorem ji {α β:Type} {f:α->β} {r:Rs α} {y:β} {j:Nat} (h:r.map f = .ok y j):∃ x,r = .ok x j/\f x=y:=by
 cases r with
 | ok x i=>simp only[Rs.map,Rs.ok.injEq]at h;exact⟨x,by rw[h.2],h.1⟩
 | err c p q=>cases h
theorem qG {t:List UInt8} {one:Nat->Rs Ex} (h:aai t one):aai t (iP t one):=fun i x j hi he=>by
 obtain⟨l,h1,_⟩:=ji he;exact xO h _ _ _ _ _ hi h1
theorem qi {t:List UInt8} {one:Nat->Rs Ex} (h:aai t one):aai t (ij t one):=fun i x j hi he=>by
 obtain⟨l,h1,_⟩:=ji he;exact xO (qG h) _ _ _ _ _ hi h1
theorem acN (t:List UInt8) (q:Nat):aai t (fE t q):=fun i s j hi h=>by
 have h1:=uz t i;have h2:=il hi;unfold fE at h;split at h
 .cases h
 .rename_i hn;split at h
  .cases h
  .simp only[Rs.ok.injEq]at h;obtain⟨_,rfl⟩:=h;have h3:=JD h2;have h4:=C0 t (aM t i);refine⟨?_,h3⟩
   rcases Nat.eq_or_lt_of_le h4 with e | e
   .exfalso;apply hn;unfold jm;rw[<- e,Nat.sub_self,List.take_zero]
   .omega
theorem iM (t:List UInt8):∀ d,aai t (bK t d)
 | 0=>fun i x j _ h=>by simp[bK]at h
 | d+1=>fun i x j hi h=>by
  have ih:=iM t d;have h1:=uz t i;have h2:=il hi;have hb:∀ {c:UInt8},t[aM t i]? = some c->aM t i < t.length:=fun hc=>(List.getElem?_eq_some_iff.1 hc).1;rw[bK]at h;split at h
  .rename_i hc;have:=hb hc
   cases he:bK t d (aM t i+1) with
   | err c p q=>rw[he]at h;cases h
   | ok y k=>
    rw[he]at h;simp only[Rs.ok.injEq]at h;have:=ih _ y k (by omega) he;omega
  split at h
  .rename_i _ hc;have:=hb hc
   cases he:ij t (bK t d) (aM t i+1) with
   | err c p q=>rw[he]at h;cases h
   | ok y k=>
    rw[he]at h;dsimp only at h;have h3:=qi ih _ y k (by omega) he;obtain⟨t1,t2,t3⟩:=my (c:=41) h3.2;split at h
    .simp only[Rs.ok.injEq]at h;omega
    .cases h
  split at h
  .rename_i _ _ hc;have:=hb hc;simp only[Rs.ok.injEq]at h;omega
  split at h
  .rename_i _ _ _ hc;have:=hb hc;simp only[Rs.ok.injEq]at h;omega
  split at h
  .rename_i _ _ _ _ hc;have:=hb hc;obtain⟨s,h3,_⟩:=ji h;have:=acN t 1 _ s j (by omega) h3;omega
  split at h
  .rename_i _ _ _ _ _ hc;have:=hb hc;obtain⟨s,h3,_⟩:=ji h;have:=acN t 2 _ s j (by omega) h3;omega
  .obtain⟨s,h3,_⟩:=ji h;have:=acN t 3 _ s j h2 h3;omega
mutual
def aU:Ex->Nat->List UInt8
 | .dX b,_=>if b then [49] else [48]
 | .bit s,_=>s
 | .fS s,_=>94 :: s
 | .fJ s,_=>126 :: s
 | .not e,_=>33 :: aU e 2
 | .and l,k=>if 2<=k then [40] ++ Lib.join (kA l 2) [32,38,32] ++ [41] else Lib.join (kA l 2) [32,38,32]
 | .or l,k=>if 1<=k then [40] ++ Lib.join (kA l 1) [32,124,32] ++ [41] else Lib.join (kA l 1) [32,124,32]
def kA:List Ex->Nat->List (List UInt8)
 | [],_=>[]
 | e :: l,k=>aU e k :: kA l k
end
theorem uP:∀ (l:List Ex) (k:Nat),kA l k=l.map fun e=>aU e k
 | [],_=>rfl
 | e :: l,k=>by rw[kA,uP l k];rfl
