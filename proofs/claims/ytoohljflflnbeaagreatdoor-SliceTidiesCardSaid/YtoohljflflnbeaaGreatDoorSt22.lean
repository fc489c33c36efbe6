/- Parts. -/
import Derived.Test.YtoohljflflnbeaaGreatDoorSt13
import Derived.Lib.Join
set_option linter.unusedSimpArgs false
set_option linter.unusedVariables false
namespace Go.Proofs.YtoohljflflnbeaaGreatDoor
inductive Ex where
 | b5 (b:Bool)
 | bit (s:List UInt8)
 | ef (s:List UInt8)
 | eb (s:List UInt8)
 | not (e:Ex)
 | and (l:List Ex)
 | or (l:List Ex)
inductive Rs (α:Type) where
 | ok (x:α) (i:Nat)
 | err (c:Int) (p q:Nat)
def aQ (t:List UInt8) (i:Nat):Nat:=i+((t.drop i).takeWhile fun c=>c == 32).length
theorem zD {t:List UInt8} {i:Nat} (h:t[i]? = some 32):aQ t i=aQ t (i+1):=by
 obtain⟨hi,he⟩:=By.1 h;unfold aQ;rw[abA hi,he,acq];simp;omega
theorem pc {t:List UInt8} {i:Nat} (h:t[i]?≠some 32):aQ t i=i:=by
 unfold aQ;by_cases hi:i < t.length
 .rw[abA hi,acq]
  have:(t[i] == 32)=false:=by
   rw[IN hi]at h;simpa using h
  simp[this]
 .rw[acr aa];simp
theorem zE (t:List UInt8) (i:Nat):i<=aQ t i:=by unfold aQ;omega
theorem G3 {t:List UInt8}:∀ (n i:Nat),t.length - i=n->i<=t.length->aQ t i<=t.length/\t[aQ t i]?≠some 32
 | 0,i,h,hi=>by
  have e:t[i]? = none:=abS aa;rw[pc (by rw[e];simp)];exact⟨hi,by rw[e];simp⟩
 | n+1,i,h,hi=>by
  by_cases hb:t[i]? = some 32
  .rw[zD hb];exact G3 n (i+1) aa aa
  .rw[pc hb];exact⟨hi,hb⟩
theorem iD {t:List UInt8} {i:Nat} (h:i<=t.length):aQ t i<=t.length:=(G3 _ i rfl h).1
theorem WS {t:List UInt8} {i:Nat} (h:i<=t.length):t[aQ t i]?≠some 32:=(G3 _ i rfl h).2
theorem qM {t:List UInt8} {i:Nat} (h:i<=t.length):aQ t (aQ t i)=aQ t i:=pc (WS h)
def du (t:List UInt8) (c:UInt8) (i:Nat):Bool×Nat:=if t[aQ t i]? = some c then (true,aQ t i+1) else (false,aQ t i)
def jG (c:UInt8):Bool:=[32,38,124,33,94,126,40,41,61].contains c
def oU (t:List UInt8) (k:Nat):Nat:=k+((t.drop k).takeWhile fun c=>!jG c).length
theorem Ng {t:List UInt8} {k:Nat} (hk:k < t.length) (h:jG t[k]=false):oU t k=oU t (k+1):=by
 unfold oU;rw[abA hk,acq,h];simp;omega
theorem Nh {t:List UInt8} {k:Nat} (h:∀ hk:k < t.length,jG t[k]=true):oU t k=k:=by
 unfold oU;by_cases hk:k < t.length
 .rw[abA hk,acq,h hk];simp
 .rw[acr aa];simp
theorem YT (t:List UInt8) (k:Nat):k<=oU t k:=by unfold oU;omega
theorem Hc {α:Type} (p:α->Bool):∀ l:List α,(l.takeWhile p).length<=l.length
 | []=>al
 | x :: l=>by
  rw[acq];split
  .simp only[aa9];have:=Hc p l;omega
  .simp
theorem YU {t:List UInt8} {k:Nat} (h:k<=t.length):oU t k<=t.length:=by
 have:=Hc (fun c=>!jG c) (t.drop k);rw[abp]at this;unfold oU;omega
def pD (t:List UInt8) (i:Nat):Bool:=match t[i]? with
 | some c=>!jG c && (c != 48 && c != 49)
 | none=>false
def ml (t:List UInt8) (i:Nat):Nat:=if pD t i then oU t (i+1) else i
theorem RB {t:List UInt8} {i:Nat} (h:pD t i=true):i < t.length:=by
 unfold pD at h
 cases hi:t[i]? with
 | none=>rw[hi]at h;cases h
 | some c=>exact (By.1 hi).1
theorem CO (t:List UInt8) (i:Nat):i<=ml t i:=by
 unfold ml;split
 .have:=YT t (i+1);omega
 .omega
theorem Hn {t:List UInt8} {i:Nat} (h:i<=t.length):ml t i<=t.length:=by
 unfold ml;split
 .rename_i hh;exact YU (RB hh)
 .exact h
def gw (t:List UInt8) (j:Nat):List UInt8:=(t.drop j).take (ml t j - j)
def eU (t:List UInt8) (q i:Nat):Rs (List UInt8):=
 if gw t (aQ t i)=[] then .err 3 (aQ t i) q else if gr (gw t (aQ t i))=false then .err 5 (aQ t i) q else .ok (gw t (aQ t i)) (ml t (aQ t i))
def Rs.map {α β:Type} (f:α->β):Rs α->Rs β
 | .ok x i=>.ok (f x) i
 | .err c p q=>.err c p q
def gv {α:Type} (t:List UInt8) (sign:UInt8) (f:Nat->Rs α):Nat->Nat->List α->Rs (List α)
 | 0,i,_=>.err 0 i 0
 | n+1,i,acc=>match f i with
  | .err c p _=>.err c p 0
  | .ok x j=>if (du t sign j).1 then gv t sign f n (du t sign j).2 (acc ++ [x]) else .ok (acc ++ [x]) (du t sign j).2
def og:List Ex->Ex
 | [x]=>x
 | l=>.and l
def oh:List Ex->Ex
 | [x]=>x
 | l=>.or l
def j1 (t:List UInt8) (one:Nat->Rs Ex) (i:Nat):Rs Ex:=(gv t 38 one (t.length+1 - i) i []).map og
def jt (t:List UInt8) (one:Nat->Rs Ex) (i:Nat):Rs Ex:=(gv t 124 (j1 t one) (t.length+1 - i) i []).map oh
def cf (t:List UInt8):Nat->Nat->Rs Ex
 | 0,i=>.err 4 (aQ t i) 0
 | d+1,i=>
  if t[aQ t i]? = some 33 then (match cf t d (aQ t i+1)with | .ok x k=>.ok (.not x) k | .err c p _=>.err c p 0)
  else if t[aQ t i]? = some 40 then (match jt t (cf t d) (aQ t i+1) with
   | .ok x k=>if (du t 41 k).1 then .ok x (du t 41 k).2 else .err 3 (du t 41 k).2 0
   | .err c p _=>.err c p 0)
  else if t[aQ t i]? = some 48 then .ok (.b5 false) (aQ t i+1)
  else if t[aQ t i]? = some 49 then .ok (.b5 true) (aQ t i+1)
  else if t[aQ t i]? = some 94 then (eU t 1 (aQ t i+1)).map .ef
  else if t[aQ t i]? = some 126 then (eU t 2 (aQ t i+1)).map .eb
  else (eU t 3 (aQ t i)).map .bit
def gB (t:List UInt8):Option Ex×Option (Int×Option Nat):=
 if 2000 < t.length then (none,some (4,none))
 else match jt t (cf t 20) 0 with
  | .err c p _=>(none,some (c,some p))
  | .ok x i=>if aQ t i < t.length then (none,some (3,some (aQ t i))) else (some x,none)
def jL {α:Type} (t:List UInt8) (f:Nat->Rs α):Prop:=∀ i x j,i<=t.length->f i = .ok x j->i < j/\j<=t.length
theorem mj {t:List UInt8} {c:UInt8} {i:Nat} (h:i<=t.length):i<=(du t c i).2/\(du t c i).2<=t.length/\((du t c i).1=true->i < (du t c i).2):=by
 have h1:=zE t i;have h2:=iD h;unfold du;split
 .rename_i hc;have:=(By.1 hc).1;exact⟨by dsimp only;omega,by dsimp only;omega,fun _=>by dsimp only;omega⟩
 .exact⟨h1,h2,fun h=>by cases h⟩
theorem Cz {α:Type} {t:List UInt8} {s:UInt8} {f:Nat->Rs α} (hf:jL t f):∀ (n i:Nat) (acc l:List α) (j:Nat),i<=t.length->gv t s f n i acc = .ok l j->i < j/\j<=t.length
 | 0,i,acc,l,j,_,h=>by simp[gv]at h
 | n+1,i,acc,l,j,hi,h=>by
  rw[gv]at h
  cases ck:f i with
  | err c p q=>rw[ck]at h;cases h
  | ok x k=>
   rw[ck]at h;obtain⟨h1,h2⟩:=hf i x k hi ck;obtain⟨t1,t2,t3⟩:=mj (c:=s) h2;dsimp only at h;split at h
   .have:=Cz hf n _ _ l j t2 h;omega
   .simp only[Rs.ok.injEq]at h;omega
theorem mZ {α β:Type} {f:α->β} {r:Rs α} {y:β} {j:Nat} (h:r.map f = .ok y j):∃ x,r = .ok x j/\f x=y:=by
 cases r with
 | ok x i=>simp only[Rs.map,Rs.ok.injEq]at h;exact⟨x,by rw[h.2],h.1⟩
 | err c p q=>cases h
theorem tV {t:List UInt8} {one:Nat->Rs Ex} (h:jL t one):jL t (j1 t one):=fun i x j hi he=>by
 obtain⟨l,h1,_⟩:=mZ he;exact Cz h _ _ _ _ _ hi h1
theorem sd {t:List UInt8} {one:Nat->Rs Ex} (h:jL t one):jL t (jt t one):=fun i x j hi he=>by
 obtain⟨l,h1,_⟩:=mZ he;exact Cz (tV h) _ _ _ _ _ hi h1
theorem CS (t:List UInt8) (q:Nat):jL t (eU t q):=fun i s j hi h=>by
 have h1:=zE t i;have h2:=iD hi;unfold eU at h;split at h
 .cases h
 .rename_i hn;split at h
  .cases h
  .simp only[Rs.ok.injEq]at h;obtain⟨_,rfl⟩:=h;have h3:=Hn h2;have h4:=CO t (aQ t i);refine⟨?_,h3⟩
   rcases Nat.eq_or_lt_of_le h4 with e | e
   .exfalso;apply hn;unfold gw;rw[<- e,Nat.sub_self,List.take_zero]
   .omega
theorem kp (t:List UInt8):∀ d,jL t (cf t d)
 | 0=>fun i x j _ h=>by simp[cf]at h
 | d+1=>fun i x j hi h=>by
  have ih:=kp t d;have h1:=zE t i;have h2:=iD hi;have hb:∀ {c:UInt8},t[aQ t i]? = some c->aQ t i < t.length:=fun hc=>(By.1 hc).1;rw[cf]at h;split at h
  .rename_i hc;have:=hb hc
   cases he:cf t d (aQ t i+1) with
   | err c p q=>rw[he]at h;cases h
   | ok y k=>
    rw[he]at h;simp only[Rs.ok.injEq]at h;have:=ih _ y k aa he;omega
  split at h
  .rename_i _ hc;have:=hb hc
   cases he:jt t (cf t d) (aQ t i+1) with
   | err c p q=>rw[he]at h;cases h
   | ok y k=>
    rw[he]at h;dsimp only at h;have h3:=sd ih _ y k aa he;obtain⟨t1,t2,t3⟩:=mj (c:=41) h3.2;split at h
    .simp only[Rs.ok.injEq]at h;omega
    .cases h
  split at h
  .rename_i _ _ hc;have:=hb hc;simp only[Rs.ok.injEq]at h;omega
  split at h
  .rename_i _ _ _ hc;have:=hb hc;simp only[Rs.ok.injEq]at h;omega
  split at h
  .rename_i _ _ _ _ hc;have:=hb hc;obtain⟨s,h3,_⟩:=mZ h;have:=CS t 1 _ s j aa h3;omega
  split at h
  .rename_i _ _ _ _ _ hc;have:=hb hc;obtain⟨s,h3,_⟩:=mZ h;have:=CS t 2 _ s j aa h3;omega
  .obtain⟨s,h3,_⟩:=mZ h;have:=CS t 3 _ s j h2 h3;omega
mutual
def aB:Ex->Nat->List UInt8
 | .b5 b,_=>if b then [49] else [48]
 | .bit s,_=>s
 | .ef s,_=>94 :: s
 | .eb s,_=>126 :: s
 | .not e,_=>33 :: aB e 2
 | .and l,k=>if 2<=k then [40] ++ Lib.join (sj l 2) [32,38,32] ++ [41] else Lib.join (sj l 2) [32,38,32]
 | .or l,k=>if 1<=k then [40] ++ Lib.join (sj l 1) [32,124,32] ++ [41] else Lib.join (sj l 1) [32,124,32]
def sj:List Ex->Nat->List (List UInt8)
 | [],_=>[]
 | e :: l,k=>aB e k :: sj l k
end
theorem nY:∀ (l:List Ex) (k:Nat),sj l k=l.map fun e=>aB e k
 | [],_=>rfl
 | e :: l,k=>by rw[sj,nY l k];rfl
