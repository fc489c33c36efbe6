/-
  Texts that belong together,in one file: X2,X3,X8p,X4,X9,Y1,Y2,Y3,X5,X6,V7.
-/
import Derived.Test.YthnjfeielmbfkaaGreatDoorSy21
import Derived.Shelf.Small.Strs
import Derived.Lib.IndexLaws
set_option linter.unusedSimpArgs false
set_option linter.unusedVariables false
namespace Go.Proofs.YthnjfeielmbfkaaGreatDoor
open Go.Av
open Go.Shelf
def rdr (t:List UInt8) (i:Int):Row:=.box 282 [.d (dS t),int i]
def rRow (t:List UInt8) (i:Int):List (Nat×Row):=[(500,rdr t i)]
theorem u8_eq (a:UInt8) (n:Nat) (hn:n < 256):((a.toNat:Int)=(n:Int))↔a=UInt8.ofNat n:=by
 constructor
 ·intro h
  have:a.toNat=n:=by omega
  rw [← this,UInt8.ofNat_toNat]
 ·rintro rfl
  simp
  omega
set_option maxHeartbeats 4000000 in
theorem blanks_spec (G:Glob) (t:List UInt8) (i:Nat) (ht:t.length < 2^60) (hi:i≤t.length) :
  MC Tryz.prog G [500] 195 [.ref 500 0 0] (hlst (rRow t i)) (.d (.tup [])) (hlst (rRow t (skipB t i))):=by
 refine MC.of_body (tyOf_good _) Tryz.func195 rfl rfl (rs:=[]) Tryz.results195 (by simp [Tryz.ntmps195]) rfl fun X=>?_;simp only [Tryz.ntmps195]
 have fw:=(Aq @dNum.eq_1 (Aq @rRow.eq_1 (Aq @rdr.eq_1 @dS.eq_1)))
 refine AW_for (S:=Nat) (fun k=>k≤t.length∧skipB t k=skipB t i) (fun k=>⟨lst [(0,.ref 500 0 0)],hlst [(500,.box 282 [.d (dS t),int k])]⟩) (fun k=>t.length - k) i ?_ ⟨hi,rfl⟩ ?_
 ·refine Imp.to' (notIn_ok rfl) (by simp [dNum,rRow,rdr,dS]) (by simp [dNum,rRow,rdr,dS])
 ·rintro k ⟨hk,hs⟩
  refine AW_then fun K1 hK1=>?_
  by_cases hkl:k < t.length
  ·have hkl':(k:Int) < (t.length:Int):=by omega
   have hgd:t.getD k 0=t[k]:=by simp [List.getD_eq_getElem?_getD,hkl]
   by_cases hb:((t[k]).toNat:Int)=32
   ·have qf:=(Aq fw (Aq @bs_size (Aq @bs_data (Aq @hkl @hb))))
    refine rdqv [0,23] [500] ?_;refine AW_tt rfl ?_;refine AW_skip (hK1 _ ?_);refine AW_block ?_;refine AW_re (tyOf_good _) fun K' hK'=>?_;(repeat (refine sxn fun K2 hK2=>?_;simp [dNum,rRow,rdr,dS];(repeat (refine ⟨by omega,?_⟩));refine hK2 _ ?_;clear hK2 K2));refine sxz (hK' _ ?_);clear hK' K';try simp only [thn,inb]
    have h32:t[k]? = some 32:=by
     rw [List.getElem?_eq_getElem hkl,(u8_eq _ 32 (by decide)).1 hb];rfl
    refine Again.mk (k+1) ⟨by omega,?_⟩ (by omega) ?_
    ·rw [← skipB_blank h32];exact hs
    refine Imp.to' (notIn_ok rfl) (by simp [dNum,rRow,rdr,dS]) (by simp [dNum,rRow,rdr,dS])
   ·have qf:=(Aq fw (Aq @bs_size (Aq @bs_data (Aq @hkl @hb))))
    refine rdqv [0,23] [500] ?_;refine AW_ff rfl ?_;refine AW_exit ?_
    have h32:t[k]?≠some 32:=by
     rw [List.getElem?_eq_getElem hkl]
     intro h
     apply hb
     rw [Option.some.inj h];rfl
    rw [skipB_stop h32] at hs;rw [← hs];simp [rRow,rdr,dS,D.le_refl]
  ·obtain rfl:k=t.length:=by omega
   have qf:=(Aq fw (Aq @bs_size @bs_data))
   refine rdqv [0,23] [500] ?_;refine AW_ff rfl ?_;refine AW_exit ?_
   have h32:t[t.length]?≠some 32:=by simp
   rw [skipB_stop h32] at hs;rw [← hs];simp [rRow,rdr,dS,D.le_refl]
set_option maxHeartbeats 4000000 in
theorem take_spec (G:Glob) (t:List UInt8) (i:Nat) (ht:t.length < 2^60) (hi:i≤t.length) (c:UInt8) :
  MC Tryz.prog G [500] 262 [.ref 500 0 0,.d (.v (.int .u8 c.toNat))] (hlst (rRow t i)) (.d (.v (.bool (takeM t c i).1))) (hlst (rRow t (takeM t c i).2)):=by
 have hbl:=blanks_spec G t i ht hi
 have htop:=skipB_top hi
 unfold takeM;generalize skipB t i=j at hbl htop ⊢
 by_cases hjl:j < t.length
 ·rw [List.getElem?_eq_getElem hjl]
  by_cases hb:t[j]=c
  ·have hb':((t[j]).toNat:Int)=(c.toNat:Int):=by rw [hb]
   rw [if_pos (by rw [hb])];refine MC.of_body (tyOf_good _) Tryz.func262 rfl rfl (rs:=[.tmp 4]) Tryz.results262 (by simp [Tryz.ntmps262]) rfl fun X=>?_;simp only [Tryz.ntmps262]
   have fw:=(Aq @dNum.eq_1 (Aq @rRow.eq_1 (Aq @rdr.eq_1 @dS.eq_1)))
   refine rgq fw [0,1] [500] ?_;refine rgm fw hbl [0,1] [500] ?_;refine AW_then fun K1 hK1=>?_
   have qf:=(Aq fw (Aq @bs_size (Aq @bs_data (Aq @hjl @hb'))))
   refine rdqv [0,29] [500] ?_;refine AW_tt rfl ?_;refine rgq fw [] [500] ?_;refine rgq fw [4] [500] ?_;refine AW_ret ?_;simp [D.le,D.le.go,takeMap,dNum,rRow,rdr,dS,rRow,rdr]
  ·have hb':¬ ((t[j]).toNat:Int)=(c.toNat:Int):=fun h=>hb (UInt8.toNat_inj.1 (by omega))
   rw [if_neg (fun h=>hb (Option.some.inj h))];refine MC.of_body (tyOf_good _) Tryz.func262 rfl rfl (rs:=[.tmp 4]) Tryz.results262 (by simp [Tryz.ntmps262]) rfl fun X=>?_;simp only [Tryz.ntmps262]
   have fw:=(Aq @dNum.eq_1 (Aq @rRow.eq_1 (Aq @rdr.eq_1 @dS.eq_1)))
   refine rgq fw [0,1] [500] ?_;refine rgm fw hbl [0,1] [500] ?_;refine AW_then fun K1 hK1=>?_
   have qf:=(Aq fw (Aq @bs_size (Aq @bs_data (Aq @hjl @hb'))))
   refine rdqv [0,29] [500] ?_;refine AW_ff rfl ?_;refine AW_skip (hK1 _ ?_);refine rgq fw [4] [500] ?_;refine AW_ret ?_;simp [D.le,D.le.go,takeMap,dNum,rRow,rdr,dS,rRow,rdr]
 ·obtain rfl:j=t.length:=by omega
  rw [if_neg (by simp)];refine MC.of_body (tyOf_good _) Tryz.func262 rfl rfl (rs:=[.tmp 4]) Tryz.results262 (by simp [Tryz.ntmps262]) rfl fun X=>?_;simp only [Tryz.ntmps262]
  have fw:=(Aq @dNum.eq_1 (Aq @rRow.eq_1 (Aq @rdr.eq_1 @dS.eq_1)))
  refine rgq fw [0,1] [500] ?_;refine rgm fw hbl [0,1] [500] ?_;refine AW_then fun K1 hK1=>?_
  have qf:=(Aq fw (Aq @bs_size @bs_data))
  refine rdqv [0,29] [500] ?_;refine AW_ff rfl ?_;refine AW_skip (hK1 _ ?_);refine rgq fw [4] [500] ?_;refine AW_ret ?_;simp [D.le,D.le.go,takeMap,dNum,rRow,rdr,dS,rRow,rdr]
set_option maxHeartbeats 4000000 in
theorem fail_spec (G:Glob) (t:List UInt8) (i:Nat) (ht:t.length < 2^60) (hi:i≤t.length) (e:Int) :
  MC Tryz.prog G [500] 196 [.ref 500 0 0,.d (dNum e)] (hlst (rRow t i)) (.d (dErr (some (e,some (skipB t i))))) (hlst (rRow t (skipB t i))):=by
 have hbl:=blanks_spec G t i ht hi
 generalize skipB t i=j at hbl ⊢;refine MC.of_body (tyOf_good _) Tryz.func196 rfl rfl (rs:=[.tmp 4]) Tryz.results196 (by simp [Tryz.ntmps196]) rfl fun X=>?_;simp only [Tryz.ntmps196]
 have fw:=(Aq @dNum.eq_1 (Aq @rRow.eq_1 (Aq @rdr.eq_1 @dS.eq_1)))
 refine rgq fw [0,1] [500] ?_;refine rgm fw hbl [0,1] [500] ?_;refine rgq fw [4] [500,13] ?_;refine AW.imp (Imp.freezeB 13 (by decide)) ?_;refine AW.st (by simp [dNum,rRow,rdr,dS];rfl) ?_;refine AW_ret ?_;simp [D.le,D.le.go,takeMap,dNum,rRow,rdr,dS,rRow,rdr,dErr]
def set11:List UInt8:=[32,38,124,33,94,126,40,41,48,49,61]
theorem ixb_neg (l:List UInt8) (c:UInt8):Lib.indexByte l c < 0↔c ∉ l:=by
 have hge:=Lib.indexByte_ge l c
 constructor
 ·intro h hm
  obtain ⟨k,hk,rfl⟩:=List.mem_iff_getElem.1 hm
  exact Lib.indexByte_none (show Lib.indexByte l l[k] = -1 by omega) k (List.getElem?_eq_getElem hk)
 ·intro hm
  apply Classical.byContradiction
  intro h
  obtain ⟨n,hn⟩:=Int.eq_ofNat_of_zero_le (show 0≤Lib.indexByte l c by omega)
  exact hm (List.mem_of_getElem? (Lib.indexByte_some hn).1)
theorem ixb_spec (G:Glob) (l:List UInt8) (c:UInt8):PureC Tryz.prog G 85 [dS l,.v (.int .u8 c.toNat)] (dNum (Lib.indexByte l c)):=by
 refine PureC.of_calls (Fun.of Tryz.func85 rfl rfl) fun X w vs hsz hrd hgl=>?_
 obtain ⟨a,b,rfl⟩:∃ a b,vs = #[a,b]:=by
  match vs,hsz with
  | ⟨[a,b]⟩,_=>exact ⟨a,b,rfl⟩
 have ha:=(hrd 0 a _ rfl rfl).scalar
 have hb:=(hrd 1 b _ rfl rfl).scalar
 subst ha hb
 have hcon:=Any.strings_IndexByte (P:=Tryz.prog) (ρ:=Tryz.lays160_ren) { Tryz.lays160 with } (bs l) c.toNat w
 rw [show (c.toNat:Int).toNat.toUInt8=c by simp] at hcon;exact hcon.mono fun e w' ⟨he,hw⟩=>⟨_,he,by rw [hw];exact Grew.refl _,.v _⟩
end Go.Proofs.YthnjfeielmbfkaaGreatDoor
namespace Go.Proofs.YthnjfeielmbfkaaGreatDoor
open Go.Av
theorem bs_extract (t:List UInt8) (i j:Nat):(bs t).extract i j=bs ((t.drop i).take (j - i)):=ByteArray.ext (by
 rw [ByteArray.data_extract];unfold bs
 apply Array.toList_inj.1
 simp [List.take_drop,List.extract])
theorem set11_lit:(⟨#[32,38,124,33,94,126,40,41,48,49,61]⟩:ByteArray)=bs set11:=rfl
def tupW:Rs (List UInt8)→D
 | .ok s _=>.tup [dS s,.v .nilIface]
 | .err c p _=>.tup [dS [],dErr (some (c,some p))]
def posR {α:Type}:Rs α→Nat
 | .ok _ i=>i
 | .err _ p _=>p
theorem mem11 (c:UInt8):c∈set11↔(isSgn c=true∨c=48∨c=49):=by
 simp only [set11,isSgn,List.mem_cons,List.not_mem_nil,or_false,List.contains_iff_mem]
 constructor
 ·rintro (h | h | h | h | h | h | h | h | h | h | h)<;>simp [h]
 ·rintro ((h | h | h | h | h | h | h | h | h) | h | h)<;>simp [h]
def AtW (t:List UInt8) (j k:Nat):Prop:=k=j∨(j < k∧headOk t j=true∧tailEnd t (j+1)=tailEnd t k)
theorem atW_exit {t:List UInt8} {j k:Nat} (h:AtW t j k) (hk:k≤t.length) (hstop:∀ hk:k < t.length,t[k]∈set11∧(j < k→t[k]≠48∧t[k]≠49)):k=wEnd t j:=by
 unfold wEnd
 rcases h with rfl | ⟨hjk,hh,he⟩
 ·by_cases hk':k < t.length
  ·have:=(mem11 _).1 (hstop hk').1
   have hno:headOk t k=false:=by
    unfold headOk;rw [List.getElem?_eq_getElem hk']
    rcases this with h | h | h<;>simp [h]
   rw [hno];rfl
  ·have hno:headOk t k=false:=by
    unfold headOk;rw [List.getElem?_eq_none (by omega)]
   rw [hno];rfl
 ·rw [hh,if_pos rfl,he,tail_stop]
  intro hk'
  obtain ⟨h1,h2⟩:=hstop hk'
  rcases (mem11 _).1 h1 with h | h | h
  ·exact h
  ·exact absurd h (h2 hjk).1
  ·exact absurd h (h2 hjk).2
theorem atW_next {t:List UInt8} {j k:Nat} (h:AtW t j k) (hk:k < t.length) (hgo:t[k] ∉ set11∨(j < k∧(t[k]=48∨t[k]=49))):AtW t j (k+1):=by
 have hs:isSgn t[k]=false:=by
  rcases hgo with h | ⟨_,h⟩
  ·cases hc:isSgn t[k] with
   | false=>rfl
   | true=>exact absurd ((mem11 _).2 (.inl hc)) h
  ·rcases h with h | h<;>rw [h]<;>rfl
 right
 rcases h with rfl | ⟨hjk,hh,he⟩
 ·refine ⟨by omega,?_,rfl⟩
  rcases hgo with h | ⟨h,_⟩
  ·have h1:t[k]≠48:=fun e=>h ((mem11 _).2 (.inr (.inl e)))
   have h2:t[k]≠49:=fun e=>h ((mem11 _).2 (.inr (.inr e)))
   unfold headOk;rw [List.getElem?_eq_getElem hk];simp [hs,h1,h2]
  ·omega
 ·refine ⟨by omega,hh,?_⟩;rw [he,tail_step hk hs]
set_option maxHeartbeats 8000000 in
theorem word_spec (G:Glob) (t:List UInt8) (q i:Nat) (ht:t.length < 2^60) (hi:i≤t.length) :
  MC Tryz.prog G [500] 276 [.ref 500 0 0] (hlst (rRow t i)) (.d (tupW (wordR t q i))) (hlst (rRow t (posR (wordR t q i)))):=by
 have hbl:=blanks_spec G t i ht hi
 have htop:=skipB_top hi
 have hidem:=skipB_idem hi
 unfold wordR;generalize skipB t i=j at hbl htop hidem ⊢
 have hf3:=fail_spec G t j ht htop 3
 have hf5:=fail_spec G t j ht htop 5
 rw [hidem] at hf3 hf5
 have hel:=wEnd_le t j
 have het:=wEnd_top htop
 have hws:(t.drop j).take (wEnd t j - j)=wordS t j:=rfl
 have hslen:(wordS t j).length < 2^60:=by
  rw [← hws,List.length_take,List.length_drop];omega
 have hname:=name_spec G (wordS t j) hslen
 refine MC.of_body (tyOf_good _) Tryz.func276 rfl rfl (rs:=[.tmp 2,.tmp 3]) Tryz.results276 (by simp [Tryz.ntmps276]) rfl fun X=>?_;simp only [Tryz.ntmps276]
 have fw:=(Aq @dNum.eq_1 (Aq @rRow.eq_1 (Aq @rdr.eq_1 @dS.eq_1)))
 refine rgq fw [0] [500] ?_;refine rgm fw hbl [0] [500] ?_;refine rgq fw [0,4] [500] ?_;refine AW_then fun K1 hK1=>?_;refine AW_for (S:=Nat) (fun k=>j≤k∧k≤t.length∧AtW t j k) (fun k=>⟨lst [(0,.ref 500 0 0),(4,int k)],hlst [(500,.box 282 [.d (dS t),int j])]⟩) (fun k=>t.length - k) j ?_ ⟨Nat.le_refl _,htop,.inl rfl⟩ ?_
 ·refine Imp.to' (notIn_ok rfl) (by simp [dNum,rRow,rdr,dS]) (by simp [dNum,rRow,rdr,dS])
 ·rintro k ⟨hjk,hk,hat⟩
  refine AW_then fun K2 hK2=>?_
  refine (fun hgo hstop=>?_) (fun (σ:St) (hn:AtW t j (k+1)) (hkl:k < t.length) himp=>hK2 σ (AW.imp (τ:=⟨lst [(0,.ref 500 0 0),(4,int k)],hlst [(500,.box 282 [.d (dS t),int j])]⟩) himp ?_))
   (fun (σ:St) (he:k=wEnd t j) himp=>hK1 σ (AW.imp (τ:=⟨lst [(0,.ref 500 0 0),(4,int k)],hlst [(500,.box 282 [.d (dS t),int j])]⟩) himp ?_))
  ·by_cases hkl:k < t.length
   ·have hix:=ixb_spec G set11 t[k]
    have hix2:=ixb_neg set11 t[k]
    by_cases hm:t[k]∈set11
    ·have hix3:¬ Lib.indexByte set11 t[k] < 0:=fun h=>hix2.1 h hm
     by_cases hjk':j < k
     ·have hjk2:(j:Int) < (k:Int):=by omega
      by_cases h48:((t[k]).toNat:Int)=48
      ·have hc:t[k]=48:=(u8_eq _ 48 (by decide)).1 h48
       have qf:=(Aq fw (Aq @bs_size (Aq @bs_data (Aq @set11_lit (Aq @hkl (Aq @hix3 (Aq @hjk2 (Aq @hjk' @h48))))))))
       refine rgcv hix [0,4,63] [500] ?_;refine AW_tt rfl ?_;refine AW_skip (hgo _ (atW_next hat hkl (.inr ⟨hjk',.inl hc⟩)) hkl ?_);refine Imp.to' (notIn_ok rfl) (by simp [dNum,rRow,rdr,dS]) (by simp [dNum,rRow,rdr,dS])
      ·by_cases h49:((t[k]).toNat:Int)=49
       ·have hc:t[k]=49:=(u8_eq _ 49 (by decide)).1 h49
        have qf:=(Aq fw (Aq @bs_size (Aq @bs_data (Aq @set11_lit (Aq @hkl (Aq @hix3 (Aq @hjk2 (Aq @hjk' (Aq @h48 @h49)))))))))
        refine rgcv hix [0,4,63] [500] ?_;refine AW_tt rfl ?_;refine AW_skip (hgo _ (atW_next hat hkl (.inr ⟨hjk',.inr hc⟩)) hkl ?_);refine Imp.to' (notIn_ok rfl) (by simp [dNum,rRow,rdr,dS]) (by simp [dNum,rRow,rdr,dS])
       ·have qf:=(Aq fw (Aq @bs_size (Aq @bs_data (Aq @set11_lit (Aq @hkl (Aq @hix3 (Aq @hjk2 (Aq @hjk' (Aq @h48 @h49)))))))))
        refine rgcv hix [0,4,63] [500] ?_;refine AW_ff rfl ?_;refine AW_exit (hstop _ (atW_exit hat hk fun _=>⟨hm,fun _=>⟨fun e=>h48 (by rw [e];rfl),fun e=>h49 (by rw [e];rfl)⟩⟩) ?_);refine Imp.to' (notIn_ok rfl) (by simp [dNum,rRow,rdr,dS]) (by simp [dNum,rRow,rdr,dS])
     ·have hjk2:¬ (j:Int) < (k:Int):=by omega
      have qf:=(Aq fw (Aq @bs_size (Aq @bs_data (Aq @set11_lit (Aq @hkl (Aq @hix3 (Aq @hjk2 @hjk')))))))
      refine rgcv hix [0,4,63] [500] ?_;refine AW_ff rfl ?_;refine AW_exit (hstop _ (atW_exit hat hk fun _=>⟨hm,fun h=>absurd h hjk'⟩) ?_);refine Imp.to' (notIn_ok rfl) (by simp [dNum,rRow,rdr,dS]) (by simp [dNum,rRow,rdr,dS])
    ·have hix3:Lib.indexByte set11 t[k] < 0:=hix2.2 hm
     have qf:=(Aq fw (Aq @bs_size (Aq @bs_data (Aq @set11_lit (Aq @hkl @hix3)))))
     refine rgcv hix [0,4,63] [500] ?_;refine AW_tt rfl ?_;refine AW_skip (hgo _ (atW_next hat hkl (.inl hm)) hkl ?_);refine Imp.to' (notIn_ok rfl) (by simp [dNum,rRow,rdr,dS]) (by simp [dNum,rRow,rdr,dS])
   ·obtain rfl:k=t.length:=by omega
    by_cases hjk':j < t.length
    ·have hjk2:(j:Int) < (t.length:Int):=by omega
     have qf:=(Aq fw (Aq @bs_size (Aq @bs_data (Aq @set11_lit (Aq @hjk2 @hjk')))))
     refine rgqv [0,4,63] [500] ?_;refine AW_ff rfl ?_;refine AW_exit (hstop _ (atW_exit hat hk fun h=>absurd h hkl) ?_);refine Imp.to' (notIn_ok rfl) (by simp [dNum,rRow,rdr,dS]) (by simp [dNum,rRow,rdr,dS])
    ·have hjk2:¬ (j:Int) < (t.length:Int):=by omega
     have qf:=(Aq fw (Aq @bs_size (Aq @bs_data (Aq @set11_lit (Aq @hjk2 @hjk')))))
     refine rgqv [0,4,63] [500] ?_;refine AW_ff rfl ?_;refine AW_exit (hstop _ (atW_exit hat hk fun h=>absurd h hkl) ?_);refine Imp.to' (notIn_ok rfl) (by simp [dNum,rRow,rdr,dS]) (by simp [dNum,rRow,rdr,dS])
  ·refine AW_block ?_;refine AW_re (tyOf_good _) fun K' hK'=>?_;(repeat (refine sxn fun K2 hK2=>?_;simp [dNum,rRow,rdr,dS];(repeat (refine ⟨by omega,?_⟩));refine hK2 _ ?_;clear hK2 K2));refine sxz (hK' _ ?_);clear hK' K';(try simp only [thn,inb]);refine Again.mk (k+1) ⟨by omega,by omega,hn⟩ (by omega) ?_;refine Imp.to' (notIn_ok rfl) (by simp [dNum,rRow,rdr,dS]) (by simp [dNum,rRow,rdr,dS])
  ·subst he;clear hK1 hK2
   have hws2:List.take (wEnd t j - j) (List.drop j t)=wordS t j:=hws
   have qf:=(Aq fw (Aq @bs_size (Aq @bs_extract (Aq @hel (Aq @het @hws2)))))
   refine rdqv [0,4,5] [500] ?_;refine AW_then fun K3 hK3=>?_
   by_cases hs:wordS t j=[]
   ·refine rg [0,4,5,77] [500] (notIn_ok rfl) fun K' hK'=>?_;(repeat (refine sxn fun K2 hK2=>?_;simp [dNum,rRow,rdr,dS,hs,bs_nil,bs_list,binS];(repeat (refine ⟨by omega,?_⟩));refine hK2 _ ?_;clear hK2 K2));refine sxz (hK' _ (AW.st (by simp [dNum,rRow,rdr,dS,hs,bs_nil,bs_list,binS];rfl) ?_));clear hK' K';refine AW_tt rfl ?_;refine rgm (Aq fw (Aq @dErr.eq_1 (Aq @dErr.eq_2 @dErr.eq_3))) hf3 [2,3] [500] ?_;refine AW_ret ?_;simp [D.le,D.le.go,takeMap,dNum,rRow,rdr,dS,rRow,rdr,tupW,posR,dErr,bs_nil,hs]
   ·have hse:(wordS t j == [])=false:=by simpa using hs
    have hse2:(wordS t j).isEmpty=false:=by rw [List.isEmpty_eq_false_iff];exact hs
    refine rg [0,4,5,77] [500] (notIn_ok rfl) fun K' hK'=>?_;(repeat (refine sxn fun K2 hK2=>?_;simp [dNum,rRow,rdr,dS,bs_nil,bs_list,binS,hs,hse,hse2];(repeat (refine ⟨by omega,?_⟩));refine hK2 _ ?_;clear hK2 K2));refine sxz (hK' _ (AW.st (by simp [dNum,rRow,rdr,dS,bs_nil,bs_list,binS,hs,hse,hse2];rfl) ?_));clear hK' K';refine AW_ff rfl ?_;refine AW_skip (hK3 _ ?_);refine AW_then fun K4 hK4=>?_
    cases hn:nameF (wordS t j) with
    | false=>
     rw [hn] at hname;refine rgc fw hname [0,4,5,82] [500] ?_;refine AW_tt rfl ?_;refine rgm (Aq fw (Aq @dErr.eq_1 (Aq @dErr.eq_2 @dErr.eq_3))) hf5 [2,3] [500] ?_;refine AW_ret ?_;simp [D.le,D.le.go,takeMap,dNum,rRow,rdr,dS,rRow,rdr,tupW,posR,dErr,bs_nil,hs,hn]
    | true=>
     rw [hn] at hname;refine rgc fw hname [0,4,5,82] [500] ?_;refine AW_ff rfl ?_;refine AW_skip (hK4 _ ?_);refine rgq fw [5] [500] ?_;refine rgq fw [2,3] [500] ?_;refine AW_ret ?_;simp [D.le,D.le.go,takeMap,dNum,rRow,rdr,dS,rRow,rdr,tupW,posR,hs,hn]
end Go.Proofs.YthnjfeielmbfkaaGreatDoor
namespace Go.Proofs.YthnjfeielmbfkaaGreatDoor
theorem sev_fuel {α:Type} {t:List UInt8} {s:UInt8} {f:Nat→Rs α} (hf:Goes t f):∀ (n m i:Nat) (acc:List α),i≤t.length→t.length+1 - i≤n→t.length+1 - i≤m→sevR t s f n i acc=sevR t s f m i acc
 | 0,_,i,_,hi,h,_=>by omega
 | _+1,0,i,_,hi,_,h=>by omega
 | n+1,m+1,i,acc,hi,h1,h2=>by
  rw [sevR,sevR]
  cases hfi:f i with
  | err c p q=>rfl
  | ok x j=>
   obtain ⟨g1,g2⟩:=hf i x j hi hfi
   obtain ⟨t1,t2,t3⟩:=take_goes (c:=s) g2
   dsimp only
   split
   ·exact sev_fuel hf n m _ _ t2 (by omega) (by omega)
   ·rfl
def sevA {α:Type} (t:List UInt8) (s:UInt8) (f:Nat→Rs α) (i:Nat) (acc:List α):Rs (List α):=sevR t s f (t.length+1 - i) i acc
theorem sev_step {α:Type} {t:List UInt8} {s:UInt8} {f:Nat→Rs α} (hf:Goes t f) {i:Nat} (hi:i≤t.length) (acc:List α):sevA t s f i acc=match f i with
  | .err c p _=>.err c p 0
  | .ok x j=>if (takeM t s j).1 then sevA t s f (takeM t s j).2 (acc ++ [x]) else .ok (acc ++ [x]) (takeM t s j).2:=by
 unfold sevA
 obtain ⟨n,hn⟩:∃ n,t.length+1 - i=n+1:=⟨t.length - i,by omega⟩
 rw [hn,sevR]
 cases hfi:f i with
 | err c p q=>rfl
 | ok x j=>
  obtain ⟨g1,g2⟩:=hf i x j hi hfi
  obtain ⟨t1,t2,t3⟩:=take_goes (c:=s) g2
  dsimp only
  split
  ·exact sev_fuel hf _ _ _ _ t2 (by omega) (by omega)
  ·rfl
theorem sev_q {α:Type} {t:List UInt8} {s:UInt8} {f:Nat→Rs α}:∀ (n i:Nat) (acc:List α) {c:Int} {p q:Nat},sevR t s f n i acc = .err c p q→q=0
 | 0,_,_,_,_,_,h=>by simp only [sevR,Rs.err.injEq] at h;omega
 | n+1,i,acc,c,p,q,h=>by
  rw [sevR] at h
  split at h
  ·simp only [Rs.err.injEq] at h;omega
  ·split at h
   ·exact sev_q n _ _ h
   ·cases h
theorem colA_ne {l:List Ex} (h:l.length≠1):colA l = .and l:=by
 match l,h with
 | [],_=>rfl
 | [_],h=>exact absurd rfl h
 | _ :: _ :: _,_=>rfl
theorem colO_ne {l:List Ex} (h:l.length≠1):colO l = .or l:=by
 match l,h with
 | [],_=>rfl
 | [_],h=>exact absurd rfl h
 | _ :: _ :: _,_=>rfl
end Go.Proofs.YthnjfeielmbfkaaGreatDoor
namespace Go.Proofs.YthnjfeielmbfkaaGreatDoor
open Go.Av
mutual
def dE:Ex→D
 | .cst b=>.ifc 128 (.v (.bool b))
 | .bit s=>.ifc 108 (dS s)
 | .rise s=>.ifc 125 (dS s)
 | .fall s=>.ifc 127 (dS s)
 | .not e=>.ifc 110 (.agg [dE e])
 | .and l=>.ifc 123 (.sl none (dEs l))
 | .or l=>.ifc 124 (.sl none (dEs l))
def dEs:List Ex→List (List D)
 | []=>[]
 | e :: l=>[dE e] :: dEs l
end
theorem dEs_map:∀ l:List Ex,dEs l=l.map fun e=>[dE e]
 | []=>rfl
 | e :: l=>by rw [dEs,dEs_map l];rfl
theorem dE_ifc (e:Ex):∃ t y,dE e = .ifc t y:=by
 cases e<;>simp only [dE]<;>exact ⟨_,_,rfl⟩
def dEl (l:List Ex):D:=.sl none (l.map fun e=>[dE e])
def dQ (q:Nat):D:=if q=1 then .ifc 125 (dS []) else if q=2 then .ifc 127 (dS []) else if q=3 then .ifc 108 (dS []) else .v .nilIface
def tupX:Rs Ex→D
 | .ok x _=>.tup [dE x,.v .nilIface]
 | .err c p q=>.tup [dQ q,dErr (some (c,some p))]
def tupL:Rs (List Ex)→D
 | .ok l _=>.tup [dEl l,.v .nilIface]
 | .err c p _=>.tup [.sl (some false) [],dErr (some (c,some p))]
set_option maxHeartbeats 8000000 in
theorem several_spec (G:Glob) (t:List UInt8) (ht:t.length≤2000) (g:FuncId) (s:UInt8) (sn:Int) (hsn:(s.toNat:Int)=sn) (d:Int) (f:Nat→Rs Ex) (hf:Goes t f)
  (hcall:∀ i,i≤t.length→MC Tryz.prog G [500] g [.ref 500 0 0,.d (dNum d)] (hlst (rRow t i)) (.d (tupX (f i))) (hlst (rRow t (posR (f i))))) (i:Nat) (hi:i≤t.length) :
  MC Tryz.prog G [500] 241 [.ref 500 0 0,.d (.v (.int .u8 sn)),.d (dNum d),.bm g (.ref 500 0 0)] (hlst (rRow t i)) (.d (tupL (sevA t s f i []))) (hlst (rRow t (posR (sevA t s f i [])))):=by
 generalize hR:sevA t s f i []=R;refine MC.of_body (tyOf_good _) Tryz.func241 rfl rfl (rs:=[.tmp 8,.tmp 9]) Tryz.results241 (by simp [Tryz.ntmps241]) rfl fun X=>?_;simp only [Tryz.ntmps241]
 have fw:=(Aq @dNum.eq_1 (Aq @rRow.eq_1 (Aq @rdr.eq_1 @dS.eq_1)))
 refine rgq fw [0,1,2,3] [500] ?_;refine rgq fw [0,1,2,3,10] [500] ?_;refine AW_for (S:=Nat×List Ex) (fun z=>z.1≤t.length∧z.2.length≤z.1∧sevA t s f z.1 z.2=R) (fun z=>⟨lst [(0,.ref 500 0 0),(1,.d (.v (.int .u8 sn))),(2,.d (dNum d)),(3,.bm g (.ref 500 0 0)),(10,.own 300 0 z.2.length)],hlst [(500,.box 282 [.d (dS t),int z.1]),(300,.sl 48 1 (z.2.map fun e=>[dE e]))]⟩) (fun z=>t.length - z.1) (i,[]) ?_ ⟨hi,by simp,hR⟩ ?_
 ·refine (Imp.adopt 10 300 48 1 rfl rfl).trans ?_;refine Imp.to' (notIn_ok rfl) (by simp [dNum,rRow,rdr,dS]) (by simp [dNum,rRow,rdr,dS])
 ·rintro ⟨k,acc⟩ ⟨hk,hacc,hs⟩
  dsimp only at hk hacc hs ⊢
  have hc:=hcall k hk
  rw [sev_step hf hk] at hs;refine AW_block ?_
  cases hfk:f k with
  | err c p q=>
   rw [hfk] at hc hs
   dsimp only at hs
   subst hs;refine rgm (Aq fw (Aq @tupX.eq_1 (Aq @tupX.eq_2 (Aq @dErr.eq_1 (Aq @dErr.eq_2 @dErr.eq_3))))) hc [0,1,2,3,10,11,12] [500,300] ?_;refine AW_then fun K1 hK1=>?_;refine rgq fw [0,1,2,3,10,11,12,20] [500,300] ?_;refine AW_tt rfl ?_;refine rgq fw [8,9] [500] ?_;refine AW_ret ?_;simp [D.le,D.le.go,takeMap,dNum,rRow,rdr,dS,rRow,rdr,tupL,posR,dErr]
  | ok x j=>
   rw [hfk] at hc hs
   dsimp only at hs
   obtain ⟨g1,g2⟩:=hf k x j hk hfk
   have htk:=take_spec G t j (by omega) g2 s
   rw [hsn] at htk
   obtain ⟨t1,t2,t3⟩:=take_goes (c:=s) g2
   obtain ⟨tx,cx,hx⟩:=dE_ifc x
   have qf:=(Aq fw (Aq @tupX.eq_1 (Aq @tupX.eq_2 (Aq @posR.eq_1 (Aq @posR.eq_2 @hx)))))
   refine rgmv hc [0,1,2,3,10,11,12] [500,300] ?_;refine AW_then fun K1 hK1=>?_;refine rgq fw [0,1,2,3,10,11,12,20] [500,300] ?_;refine AW_ff rfl ?_;refine AW_skip (hK1 _ ?_);refine rg [0,1,2,3,10] [500,300] (notIn_ok rfl) fun K' hK'=>?_;(repeat (refine sxn fun K2 hK2=>?_;simp [dNum,rRow,rdr,dS,List.take_of_length_le];(repeat (refine ⟨by omega,?_⟩));refine hK2 _ ?_;clear hK2 K2));refine sxz (hK' _ (AW.st (by simp [dNum,rRow,rdr,dS,List.take_of_length_le];rfl) ?_));clear hK' K'
   cases htm:takeM t s j with
   | mk b k2=>
   rw [htm] at hs htk t1 t2 t3
   dsimp only at hs htk t1 t2 t3
   cases b with
   | true=>
    rw [if_pos rfl] at hs
    have hlt:=t3 rfl
    refine rgm fw htk [0,1,2,3,10,29] [500,300] ?_;refine AW_ff rfl ?_;refine AW_skip ?_;refine Again.mk (k2,acc ++ [x]) ⟨t2,by simp;omega,hs⟩ (by dsimp only;omega) ?_;refine Imp.to' (notIn_ok rfl) (by simp [dNum,rRow,rdr,dS,hx]) (by simp [dNum,rRow,rdr,dS,hx])
   | false=>
    rw [if_neg (by simp)] at hs;subst hs;refine rgm fw htk [0,1,2,3,10,29] [500,300] ?_;refine AW_tt rfl ?_;refine AW.imp (Imp.freeze 300 (by decide)) ?_;refine AW.st (by simp [dNum,rRow,rdr,dS];rfl) ?_;refine rgq fw [8,9] [500] ?_;refine AW_ret ?_;simp [D.le,D.le.go,takeMap,dNum,rRow,rdr,dS,rRow,rdr,tupL,dEl,posR,hx,D.le_refl,D.leGo_refl]
set_option maxHeartbeats 8000000 in
theorem and_spec (G:Glob) (t:List UInt8) (ht:t.length≤2000) (d:Nat) (hone:∀ i,i≤t.length→MC Tryz.prog G [500] 263 [.ref 500 0 0,.d (dNum d)] (hlst (rRow t i)) (.d (tupX (oneR t d i))) (hlst (rRow t (posR (oneR t d i))))) (i:Nat) (hi:i≤t.length) :
  MC Tryz.prog G [500] 242 [.ref 500 0 0,.d (dNum d)] (hlst (rRow t i)) (.d (tupX (andR t (oneR t d) i))) (hlst (rRow t (posR (andR t (oneR t d) i)))):=by
 have hsv:=several_spec G t ht 263 38 38 rfl d (oneR t d) (one_goes t d) hone i hi
 have hR:andR t (oneR t d) i=(sevA t 38 (oneR t d) i []).map colA:=rfl
 rw [hR]
 have hq:∀ {c:Int} {p q:Nat},sevA t 38 (oneR t d) i [] = .err c p q→q=0:=fun h=>sev_q _ _ _ h
 cases hs:sevA t 38 (oneR t d) i [] with
 | err c p q=>
  obtain rfl:=hq hs
  rw [hs] at hsv;refine MC.of_body (tyOf_good _) Tryz.func242 rfl rfl (rs:=[.tmp 4,.tmp 5]) Tryz.results242 (by simp [Tryz.ntmps242]) rfl fun X=>?_;simp only [Tryz.ntmps242]
  have fw:=(Aq @dNum.eq_1 (Aq @rRow.eq_1 (Aq @rdr.eq_1 @dS.eq_1)))
  refine rgq fw [0,1] [500] ?_;refine rgm (Aq fw (Aq @tupL.eq_1 (Aq @tupL.eq_2 (Aq @dErr.eq_1 (Aq @dErr.eq_2 @dErr.eq_3))))) hsv [6,7] [500] ?_;refine AW_then fun K1 hK1=>?_;refine rgq fw [6,7,17] [500] ?_;refine AW_tt rfl ?_;refine rgq fw [4,5] [500] ?_;refine AW_ret ?_;simp [D.le,D.le.go,takeMap,dNum,rRow,rdr,dS,rRow,rdr,tupX,posR,dErr,Rs.map,dQ]
 | ok l p=>
  rw [hs] at hsv
  by_cases hl:l.length=1
  ·obtain ⟨x,rfl⟩:=List.length_eq_one_iff.1 hl
   obtain ⟨tx,cx,hx⟩:=dE_ifc x
   refine MC.of_body (tyOf_good _) Tryz.func242 rfl rfl (rs:=[.tmp 4,.tmp 5]) Tryz.results242 (by simp [Tryz.ntmps242]) rfl fun X=>?_;simp only [Tryz.ntmps242]
   have fw:=(Aq @dNum.eq_1 (Aq @rRow.eq_1 (Aq @rdr.eq_1 @dS.eq_1)))
   refine rgq fw [0,1] [500] ?_
   have qf:=(Aq fw (Aq @tupL.eq_1 (Aq @tupL.eq_2 (Aq @dEl.eq_1 @hx))))
   refine rgmv hsv [6,7] [500] ?_;refine AW_then fun K1 hK1=>?_;refine rgq fw [6,7,17] [500] ?_;refine AW_ff rfl ?_;refine AW_skip (hK1 _ ?_);refine AW_then fun K2 hK2=>?_;refine rgq fw [6,21] [500] ?_;refine AW_tt rfl ?_;refine rgq fw [4,5] [500] ?_;refine AW_ret ?_;simp [D.le,D.le.go,takeMap,dNum,rRow,rdr,dS,rRow,rdr,tupX,posR,Rs.map,colA,hx,D.le_refl]
  ·have hl':¬ (l.length:Int)=1:=by omega
   have hcol:=colA_ne hl
   refine MC.of_body (tyOf_good _) Tryz.func242 rfl rfl (rs:=[.tmp 4,.tmp 5]) Tryz.results242 (by simp [Tryz.ntmps242]) rfl fun X=>?_;simp only [Tryz.ntmps242]
   have fw:=(Aq @dNum.eq_1 (Aq @rRow.eq_1 (Aq @rdr.eq_1 @dS.eq_1)))
   refine rgq fw [0,1] [500] ?_;refine rgm (Aq fw (Aq @tupL.eq_1 (Aq @tupL.eq_2 @dEl.eq_1))) hsv [6,7] [500] ?_;refine AW_then fun K1 hK1=>?_;refine rgq fw [6,7,17] [500] ?_;refine AW_ff rfl ?_;refine AW_skip (hK1 _ ?_);refine AW_then fun K2 hK2=>?_
   have qf:=(Aq fw (Aq @hl @hl'))
   refine rgqv [6,21] [500] ?_;refine AW_ff rfl ?_;refine AW_skip (hK2 _ ?_);refine rgq fw [4,5] [500] ?_;refine AW_ret ?_;simp [D.le,D.le.go,takeMap,dNum,rRow,rdr,dS,rRow,rdr,tupX,posR,Rs.map,hcol,dE,dEs_map,D.le_refl,D.leGo_refl]
set_option maxHeartbeats 8000000 in
theorem or_spec (G:Glob) (t:List UInt8) (ht:t.length≤2000) (d:Nat) (hone:∀ i,i≤t.length→MC Tryz.prog G [500] 263 [.ref 500 0 0,.d (dNum d)] (hlst (rRow t i)) (.d (tupX (oneR t d i))) (hlst (rRow t (posR (oneR t d i))))) (i:Nat) (hi:i≤t.length) :
  MC Tryz.prog G [500] 194 [.ref 500 0 0,.d (dNum d)] (hlst (rRow t i)) (.d (tupX (orR t (oneR t d) i))) (hlst (rRow t (posR (orR t (oneR t d) i)))):=by
 have hsv:=several_spec G t ht 242 124 124 rfl d (andR t (oneR t d)) (and_goes (one_goes t d)) (and_spec G t ht d hone) i hi
 have hR:orR t (oneR t d) i=(sevA t 124 (andR t (oneR t d)) i []).map colO:=rfl
 rw [hR]
 have hq:∀ {c:Int} {p q:Nat},sevA t 124 (andR t (oneR t d)) i [] = .err c p q→q=0:=fun h=>sev_q _ _ _ h
 cases hs:sevA t 124 (andR t (oneR t d)) i [] with
 | err c p q=>
  obtain rfl:=hq hs
  rw [hs] at hsv;refine MC.of_body (tyOf_good _) Tryz.func194 rfl rfl (rs:=[.tmp 4,.tmp 5]) Tryz.results194 (by simp [Tryz.ntmps194]) rfl fun X=>?_;simp only [Tryz.ntmps194]
  have fw:=(Aq @dNum.eq_1 (Aq @rRow.eq_1 (Aq @rdr.eq_1 @dS.eq_1)))
  refine rgq fw [0,1] [500] ?_;refine rgm (Aq fw (Aq @tupL.eq_1 (Aq @tupL.eq_2 (Aq @dErr.eq_1 (Aq @dErr.eq_2 @dErr.eq_3))))) hsv [6,7] [500] ?_;refine AW_then fun K1 hK1=>?_;refine rgq fw [6,7,17] [500] ?_;refine AW_tt rfl ?_;refine rgq fw [4,5] [500] ?_;refine AW_ret ?_;simp [D.le,D.le.go,takeMap,dNum,rRow,rdr,dS,rRow,rdr,tupX,posR,dErr,Rs.map,dQ]
 | ok l p=>
  rw [hs] at hsv
  by_cases hl:l.length=1
  ·obtain ⟨x,rfl⟩:=List.length_eq_one_iff.1 hl
   obtain ⟨tx,cx,hx⟩:=dE_ifc x
   refine MC.of_body (tyOf_good _) Tryz.func194 rfl rfl (rs:=[.tmp 4,.tmp 5]) Tryz.results194 (by simp [Tryz.ntmps194]) rfl fun X=>?_;simp only [Tryz.ntmps194]
   have fw:=(Aq @dNum.eq_1 (Aq @rRow.eq_1 (Aq @rdr.eq_1 @dS.eq_1)))
   refine rgq fw [0,1] [500] ?_
   have qf:=(Aq fw (Aq @tupL.eq_1 (Aq @tupL.eq_2 (Aq @dEl.eq_1 @hx))))
   refine rgmv hsv [6,7] [500] ?_;refine AW_then fun K1 hK1=>?_;refine rgq fw [6,7,17] [500] ?_;refine AW_ff rfl ?_;refine AW_skip (hK1 _ ?_);refine AW_then fun K2 hK2=>?_;refine rgq fw [6,21] [500] ?_;refine AW_tt rfl ?_;refine rgq fw [4,5] [500] ?_;refine AW_ret ?_;simp [D.le,D.le.go,takeMap,dNum,rRow,rdr,dS,rRow,rdr,tupX,posR,Rs.map,colO,hx,D.le_refl]
  ·have hl':¬ (l.length:Int)=1:=by omega
   have hcol:=colO_ne hl
   refine MC.of_body (tyOf_good _) Tryz.func194 rfl rfl (rs:=[.tmp 4,.tmp 5]) Tryz.results194 (by simp [Tryz.ntmps194]) rfl fun X=>?_;simp only [Tryz.ntmps194]
   have fw:=(Aq @dNum.eq_1 (Aq @rRow.eq_1 (Aq @rdr.eq_1 @dS.eq_1)))
   refine rgq fw [0,1] [500] ?_;refine rgm (Aq fw (Aq @tupL.eq_1 (Aq @tupL.eq_2 @dEl.eq_1))) hsv [6,7] [500] ?_;refine AW_then fun K1 hK1=>?_;refine rgq fw [6,7,17] [500] ?_;refine AW_ff rfl ?_;refine AW_skip (hK1 _ ?_);refine AW_then fun K2 hK2=>?_
   have qf:=(Aq fw (Aq @hl @hl'))
   refine rgqv [6,21] [500] ?_;refine AW_ff rfl ?_;refine AW_skip (hK2 _ ?_);refine rgq fw [4,5] [500] ?_;refine AW_ret ?_;simp [D.le,D.le.go,takeMap,dNum,rRow,rdr,dS,rRow,rdr,tupX,posR,Rs.map,hcol,dE,dEs_map,D.le_refl,D.leGo_refl]
end Go.Proofs.YthnjfeielmbfkaaGreatDoor
namespace Go.Proofs.YthnjfeielmbfkaaGreatDoor
def Five {α:Type} (sz:α→Nat) (t:List UInt8) (f:Nat→Rs α):Prop:=∀ i x j,i≤t.length→f i = .ok x j→sz x≤5 * (j - i)
end Go.Proofs.YthnjfeielmbfkaaGreatDoor
namespace Go.Proofs.YthnjfeielmbfkaaGreatDoor
def Has (t:List UInt8) (p:Nat) (w:List UInt8):Prop:=∀ k,k < w.length→t[p+k]? = w[k]?
theorem Has.cons {t:List UInt8} {p:Nat} {c:UInt8} {w:List UInt8} (h:Has t p (c :: w)):t[p]? = some c∧Has t (p+1) w:=by
 refine ⟨by simpa using h 0 (by simp),fun k hk=>?_⟩
 have:=h (k+1) (by simp;omega)
 rw [show p+1+k=p+(k+1) by omega,this]
 rfl
theorem Has.app {t:List UInt8} {p:Nat} {u v:List UInt8} (h:Has t p (u ++ v)):Has t p u∧Has t (p+u.length) v:=by
 constructor
 ·intro k hk
  rw [h k (by simp;omega),List.getElem?_append_left hk]
 ·intro k hk
  rw [show p+u.length+k=p+(u.length+k) by omega,h (u.length+k) (by simp;omega),List.getElem?_append_right (by omega)]
  congr 1
  omega
theorem Has.top {t:List UInt8} {p:Nat} {w:List UInt8} (h:Has t p w) (hp:p≤t.length):p+w.length≤t.length:=by
 cases w with
 | nil=>simpa using hp
 | cons c w=>
  have h1:=h w.length (by simp)
  have h2:(c :: w)[w.length]?≠none:=by simp
  rw [← h1] at h2
  have h3:p+w.length < t.length:=by
   apply Classical.byContradiction
   intro hn
   exact h2 (List.getElem?_eq_none (by omega))
  simp only [List.length_cons]
  omega
theorem name_facts {s:List UInt8} (h:nameF s=true):s≠[]∧s.length≤8∧(∀ c∈s,isSgn c=false)∧∀ c,s[0]? = some c→isSgn c=false∧c≠48∧c≠49∧97≤c.toNat:=by
 unfold nameF at h;simp only [Bool.and_eq_true,decide_eq_true_eq,trim_nil] at h
 obtain ⟨h1,h2,h3,h4,h5,-⟩:=h
 have hs:∀ c:UInt8,cutL.contains c=true→isSgn c=false:=by
  have h:∀ n:Fin 256,cutL.contains (UInt8.ofNat n)=true→isSgn (UInt8.ofNat n)=false:=by decide +kernel
  intro c
  have:=h ⟨c.toNat,c.toNat_lt⟩
  simpa using this
 refine ⟨h1,h2,fun c hc=>hs c (h5 c hc),fun c hc=>?_⟩
 have hm:c∈s:=List.mem_of_getElem? hc
 have hg:s.getD 0 0=c:=by rw [List.getD_eq_getElem?_getD,hc];rfl
 rw [hg] at h3;refine ⟨hs c (h5 c hm),?_,?_,h3⟩<;>rintro rfl<;>revert h3<;>decide
mutual
def WfE:Ex→Prop
 | .cst _=>True
 | .bit s=>nameF s=true
 | .rise s=>nameF s=true
 | .fall s=>nameF s=true
 | .not e=>WfE e
 | .and l=>2≤l.length∧WfEs l
 | .or l=>2≤l.length∧WfEs l
def WfEs:List Ex→Prop
 | []=>True
 | e :: l=>WfE e∧WfEs l
end
theorem WfEs_iff:∀ l:List Ex,WfEs l↔∀ e∈l,WfE e
 | []=>by simp [WfEs]
 | e :: l=>by simp [WfEs,WfEs_iff l]
mutual
def dpE:Ex→Nat
 | .cst _=>1
 | .bit _=>1
 | .rise _=>1
 | .fall _=>1
 | .not e=>dpE e+1
 | .and l=>dpA l+1
 | .or l=>dpO l+1
def dpA:List Ex→Nat
 | []=>0
 | e :: l=>max (dpE e) (dpA l)
def dpO:List Ex→Nat
 | []=>0
 | e :: l=>max (match e with | .and m=>dpA m | e=>dpE e) (dpO l)
end
def dpI:Ex→Nat
 | .and l=>dpA l
 | .or l=>dpO l
 | e=>dpE e
def dpJ:Ex→Nat
 | .and l=>dpA l
 | e=>dpE e
theorem dpO_cons (e:Ex) (l:List Ex):dpO (e :: l)=max (dpJ e) (dpO l):=by
 cases e<;>simp [dpO,dpJ]
theorem dpJ_le (e:Ex):dpJ e≤dpE e:=by cases e<;>simp [dpJ,dpE]
theorem dpI_le (e:Ex):dpI e≤dpJ e:=by
 cases e<;>simp [dpI,dpJ,dpE]
theorem dpE_le (e:Ex):dpE e≤dpI e+1:=by
 cases e<;>simp [dpI,dpE]
theorem sev_all {t:List UInt8} {s:UInt8} {f:Nat→Rs Ex} (P:Ex→Prop) (hf:∀ i x j,f i = .ok x j→P x):∀ (n i:Nat) (acc l:List Ex) (j:Nat),sevR t s f n i acc = .ok l j→(∀ x∈acc,P x)→∀ x∈l,P x
 | 0,i,acc,l,j,h,_=>by simp [sevR] at h
 | n+1,i,acc,l,j,h,ha=>by
  rw [sevR] at h
  cases hfi:f i with
  | err c p q=>rw [hfi] at h;cases h
  | ok x k=>
   rw [hfi] at h
   dsimp only at h
   have hap:∀ y∈acc ++ [x],P y:=fun y hy=>by
    rcases List.mem_append.1 hy with hy | hy
    ·exact ha y hy
    ·simp at hy;subst hy;exact hf _ _ _ hfi
   split at h
   ·exact sev_all P hf n _ _ l j h hap
   ·simp only [Rs.ok.injEq] at h
    obtain ⟨rfl,-⟩:=h
    exact hap
theorem sev_pos {t:List UInt8} {s:UInt8} {f:Nat→Rs Ex}:∀ (n i:Nat) (acc l:List Ex) (j:Nat),sevR t s f n i acc = .ok l j→acc.length < l.length
 | 0,i,acc,l,j,h=>by simp [sevR] at h
 | n+1,i,acc,l,j,h=>by
  rw [sevR] at h
  split at h
  ·cases h
  ·split at h
   ·have:=sev_pos n _ _ l j h
    simp only [List.length_append,List.length_singleton] at this
    omega
   ·simp only [Rs.ok.injEq] at h
    obtain ⟨rfl,-⟩:=h
    simp
theorem dpA_le {d:Nat}:∀ {l:List Ex},(∀ x∈l,dpE x≤d)→dpA l≤d
 | [],_=>by simp [dpA]
 | e :: l,h=>by
  have h1:=h e (by simp)
  have h2:=dpA_le (l:=l) fun x hx=>h x (by simp [hx])
  rw [dpA]
  omega
theorem dpO_le {d:Nat}:∀ {l:List Ex},(∀ x∈l,dpJ x≤d)→dpO l≤d
 | [],_=>by simp [dpO]
 | e :: l,h=>by
  have h1:=h e (by simp)
  have h2:=dpO_le (l:=l) fun x hx=>h x (by simp [hx])
  rw [dpO_cons]
  omega
theorem and_wf {t:List UInt8} {d:Nat} (h:∀ i x j,oneR t d i = .ok x j→WfE x∧dpE x≤d) {i j:Nat} {x:Ex} (he:andR t (oneR t d) i = .ok x j):WfE x∧dpJ x≤d:=by
 obtain ⟨l,h1,rfl⟩:=map_ok he
 have ha:=sev_all (fun x=>WfE x∧dpE x≤d) h _ _ _ _ _ h1 (by simp)
 have hp:=sev_pos _ _ _ _ _ h1
 by_cases hl:l.length=1
 ·obtain ⟨x,rfl⟩:=List.length_eq_one_iff.1 hl
  have:=ha x (by simp)
  exact ⟨this.1,Nat.le_trans (dpJ_le x) this.2⟩
 ·rw [colA_ne hl];exact ⟨⟨by simp at hp;omega,(WfEs_iff _).2 fun x hx=>(ha x hx).1⟩,dpA_le fun x hx=>(ha x hx).2⟩
theorem or_wf {t:List UInt8} {d:Nat} (h:∀ i x j,oneR t d i = .ok x j→WfE x∧dpE x≤d) {i j:Nat} {x:Ex} (he:orR t (oneR t d) i = .ok x j):WfE x∧dpI x≤d:=by
 obtain ⟨l,h1,rfl⟩:=map_ok he
 have ha:=sev_all (fun x=>WfE x∧dpJ x≤d) (fun i x j h'=>and_wf h h') _ _ _ _ _ h1 (by simp)
 have hp:=sev_pos _ _ _ _ _ h1
 by_cases hl:l.length=1
 ·obtain ⟨x,rfl⟩:=List.length_eq_one_iff.1 hl
  have:=ha x (by simp)
  exact ⟨this.1,Nat.le_trans (dpI_le x) this.2⟩
 ·rw [colO_ne hl];exact ⟨⟨by simp at hp;omega,(WfEs_iff _).2 fun x hx=>(ha x hx).1⟩,dpO_le fun x hx=>(ha x hx).2⟩
theorem word_wf {t:List UInt8} {q i j:Nat} {s:List UInt8} (h:wordR t q i = .ok s j):nameF s=true:=by
 unfold wordR at h
 split at h
 ·cases h
 ·split at h
  ·cases h
  ·rename_i hn
   simp only [Rs.ok.injEq] at h
   obtain ⟨rfl,-⟩:=h
   simpa using hn
theorem one_wf (t:List UInt8):∀ d i x j,oneR t d i = .ok x j→WfE x∧dpE x≤d
 | 0,i,x,j,h=>by simp [oneR] at h
 | d+1,i,x,j,h=>by
  have ih:=one_wf t d
  rw [oneR] at h
  split at h
  ·cases he:oneR t d (skipB t i+1) with
   | err c p q=>rw [he] at h;cases h
   | ok y k=>
    rw [he] at h;simp only [Rs.ok.injEq] at h
    obtain ⟨rfl,rfl⟩:=h
    have:=ih _ _ _ he
    exact ⟨this.1,by simp only [dpE];omega⟩
  split at h
  ·cases he:orR t (oneR t d) (skipB t i+1) with
   | err c p q=>rw [he] at h;cases h
   | ok y k=>
    rw [he] at h
    dsimp only at h
    split at h
    ·simp only [Rs.ok.injEq] at h
     obtain ⟨rfl,rfl⟩:=h
     have:=or_wf ih he
     have h3:=dpE_le y
     exact ⟨this.1,by omega⟩
    ·cases h
  split at h
  ·simp only [Rs.ok.injEq] at h
   obtain ⟨rfl,rfl⟩:=h
   exact ⟨trivial,by simp only [dpE];omega⟩
  split at h
  ·simp only [Rs.ok.injEq] at h
   obtain ⟨rfl,rfl⟩:=h
   exact ⟨trivial,by simp only [dpE];omega⟩
  split at h
  ·obtain ⟨s,h3,rfl⟩:=map_ok h
   exact ⟨word_wf h3,by simp only [dpE];omega⟩
  split at h
  ·obtain ⟨s,h3,rfl⟩:=map_ok h
   exact ⟨word_wf h3,by simp only [dpE];omega⟩
  ·obtain ⟨s,h3,rfl⟩:=map_ok h
   exact ⟨word_wf h3,by simp only [dpE];omega⟩
theorem parse_wf {t:List UInt8} {x:Ex} (h:(parseM t).1=some x):WfE x∧dpI x≤20:=by
 unfold parseM at h
 split at h
 ·cases h
 ·split at h
  ·cases h
  ·rename_i y i he
   split at h
   ·cases h
   ·obtain rfl:=Option.some.inj h
    exact or_wf (one_wf t 20) he
end Go.Proofs.YthnjfeielmbfkaaGreatDoor
namespace Go.Proofs.YthnjfeielmbfkaaGreatDoor
mutual
def evE (is was:List UInt8→Bool):Ex→Bool
 | .cst b=>b
 | .bit s=>is s
 | .rise s=>is s && !was s
 | .fall s=>!is s && was s
 | .not e=>!evE is was e
 | .and l=>evA is was l
 | .or l=>evO is was l
def evA (is was:List UInt8→Bool):List Ex→Bool
 | []=>true
 | e :: l=>evE is was e && evA is was l
def evO (is was:List UInt8→Bool):List Ex→Bool
 | []=>false
 | e :: l=>evE is was e || evO is was l
end
end Go.Proofs.YthnjfeielmbfkaaGreatDoor
namespace Go.Proofs.YthnjfeielmbfkaaGreatDoor
mutual
def bE:Ex→Nat
 | .cst _=>4
 | .bit s=>s.length+3
 | .rise s=>s.length+4
 | .fall s=>s.length+4
 | .not e=>bE e+1
 | .and l=>bEs l+5
 | .or l=>bEs l+5
def bEs:List Ex→Nat
 | []=>0
 | e :: l=>bE e+bEs l
end
theorem bEs_app:∀ (a b:List Ex),bEs (a ++ b)=bEs a+bEs b
 | [],b=>by simp [bEs]
 | e :: a,b=>by simp only [List.cons_append,bEs,bEs_app a b];omega
theorem bE_pos:∀ e:Ex,3≤bE e
 | .not e=>by have:=bE_pos e;simp only [bE];omega
 | .cst _=>by simp [bE]
 | .bit _=>by simp [bE]
 | .rise _=>by simp only [bE];omega
 | .fall _=>by simp only [bE];omega
 | .and _=>by simp only [bE];omega
 | .or _=>by simp only [bE];omega
theorem bEs_mem {x:Ex}:∀ {l:List Ex},x∈l→bE x≤bEs l
 | y :: l,h=>by
  rw [bEs]
  rcases List.mem_cons.1 h with rfl | h
  ·omega
  ·have:=bEs_mem h;omega
theorem bEs_len:∀ l:List Ex,3 * l.length≤bEs l
 | []=>by simp
 | e :: l=>by have:=bEs_len l;have:=bE_pos e;simp only [List.length_cons,bEs];omega
theorem sev_fiveB {t:List UInt8} {s:UInt8} {f:Nat→Rs Ex} (hg:Goes t f) (hf:Five bE t f):∀ (n i:Nat) (acc l:List Ex) (j:Nat),i≤t.length→sevR t s f n i acc = .ok l j→bEs l+5 * (l.length - 1)≤bEs acc+5 * acc.length+5 * (j - i)∧acc.length < l.length
 | 0,i,acc,l,j,_,h=>by simp [sevR] at h
 | n+1,i,acc,l,j,hi,h=>by
  rw [sevR] at h
  cases hfi:f i with
  | err c p q=>rw [hfi] at h;cases h
  | ok x k=>
   rw [hfi] at h
   obtain ⟨h1,h2⟩:=hg i x k hi hfi
   have h5:=hf i x k hi hfi
   obtain ⟨t1,t2,t3⟩:=take_goes (c:=s) h2
   dsimp only at h
   split at h
   ·rename_i ht
    have h4:=t3 ht
    have ih:=sev_fiveB hg hf n _ _ l j t2 h
    have h6:=sev_goes hg n _ _ l j t2 h
    simp only [bEs_app,bEs,List.length_append,List.length_singleton] at ih
    omega
   ·simp only [Rs.ok.injEq] at h
    obtain ⟨rfl,rfl⟩:=h
    simp only [bEs_app,bEs,List.length_append,List.length_singleton]
    omega
theorem colA_fiveB {l:List Ex} {m:Nat} (h:bEs l+5 * (l.length - 1)≤m) (h0:0 < l.length):bE (colA l)≤m:=by
 by_cases h1:l.length=1
 ·obtain ⟨x,rfl⟩:=List.length_eq_one_iff.1 h1
  simp only [bEs,List.length_singleton] at h
  show bE x≤m
  omega
 ·rw [colA_ne h1,bE]
  omega
theorem colO_fiveB {l:List Ex} {m:Nat} (h:bEs l+5 * (l.length - 1)≤m) (h0:0 < l.length):bE (colO l)≤m:=by
 by_cases h1:l.length=1
 ·obtain ⟨x,rfl⟩:=List.length_eq_one_iff.1 h1
  simp only [bEs,List.length_singleton] at h
  show bE x≤m
  omega
 ·rw [colO_ne h1,bE]
  omega
theorem and_fiveB {t:List UInt8} {one:Nat→Rs Ex} (hg:Goes t one) (h:Five bE t one):Five bE t (andR t one):=fun i x j hi he=>by
 obtain ⟨l,h1,rfl⟩:=map_ok he
 have:=sev_fiveB hg h _ _ _ _ _ hi h1
 simp only [bEs,List.length_nil] at this;exact colA_fiveB (by omega) (by omega)
theorem or_fiveB {t:List UInt8} {one:Nat→Rs Ex} (hg:Goes t one) (h:Five bE t one):Five bE t (orR t one):=fun i x j hi he=>by
 obtain ⟨l,h1,rfl⟩:=map_ok he
 have:=sev_fiveB (and_goes hg) (and_fiveB hg h) _ _ _ _ _ hi h1
 simp only [bEs,List.length_nil] at this;exact colO_fiveB (by omega) (by omega)
theorem word_fourB (t:List UInt8) (q i j:Nat) (s:List UInt8) (hi:i≤t.length) (h:wordR t q i = .ok s j):s.length≤j - i∧1≤j - i:=by
 have hg:=word_goes t q i s j hi h
 have h1:=skipB_le t i
 unfold wordR at h
 split at h
 ·cases h
 ·split at h
  ·cases h
  ·simp only [Rs.ok.injEq] at h
   obtain ⟨rfl,rfl⟩:=h
   have h4:=wEnd_le t (skipB t i)
   unfold wordS;rw [List.length_take]
   omega
theorem one_fiveB (t:List UInt8):∀ d,Five bE t (oneR t d)
 | 0=>fun i x j _ h=>by simp [oneR] at h
 | d+1=>fun i x j hi h=>by
  have ih:=one_fiveB t d
  have hg:=one_goes t d
  have h1:=skipB_le t i
  have h2:=skipB_top hi
  have hb:∀ {c:UInt8},t[skipB t i]? = some c→skipB t i < t.length:=fun hc=>(List.getElem?_eq_some_iff.1 hc).1
  rw [oneR] at h
  split at h
  ·rename_i hc
   have:=hb hc
   cases he:oneR t d (skipB t i+1) with
   | err c p q=>rw [he] at h;cases h
   | ok y k=>
    rw [he] at h;simp only [Rs.ok.injEq] at h
    obtain ⟨rfl,rfl⟩:=h
    have h3:=ih _ y k (by omega) he
    have h4:=hg _ y k (by omega) he
    simp only [bE]
    omega
  split at h
  ·rename_i _ hc
   have:=hb hc
   cases he:orR t (oneR t d) (skipB t i+1) with
   | err c p q=>rw [he] at h;cases h
   | ok y k=>
    rw [he] at h
    dsimp only at h
    have h3:=or_fiveB hg ih _ y k (by omega) he
    have h4:=or_goes hg _ y k (by omega) he
    obtain ⟨t1,t2,t3⟩:=take_goes (c:=41) h4.2
    split at h
    ·simp only [Rs.ok.injEq] at h
     obtain ⟨rfl,rfl⟩:=h
     omega
    ·cases h
  split at h
  ·rename_i _ _ hc
   have:=hb hc
   simp only [Rs.ok.injEq] at h
   obtain ⟨rfl,rfl⟩:=h
   simp only [bE]
   omega
  split at h
  ·rename_i _ _ _ hc
   have:=hb hc
   simp only [Rs.ok.injEq] at h
   obtain ⟨rfl,rfl⟩:=h
   simp only [bE]
   omega
  split at h
  ·rename_i _ _ _ _ hc
   have:=hb hc
   obtain ⟨s,h3,rfl⟩:=map_ok h
   have h4:=word_fourB t 1 _ j s (by omega) h3
   simp only [bE]
   omega
  split at h
  ·rename_i _ _ _ _ _ hc
   have:=hb hc
   obtain ⟨s,h3,rfl⟩:=map_ok h
   have h4:=word_fourB t 2 _ j s (by omega) h3
   simp only [bE]
   omega
  ·obtain ⟨s,h3,rfl⟩:=map_ok h
   have h4:=word_fourB t 3 _ j s (by omega) h3
   simp only [bE]
   omega
theorem parse_b {t:List UInt8} {x:Ex} (h:(parseM t).1=some x):bE x≤10000:=by
 unfold parseM at h
 split at h
 ·cases h
 ·rename_i hl
  split at h
  ·cases h
  ·rename_i y i he
   split at h
   ·cases h
   ·obtain rfl:=Option.some.inj h
    have h1:=or_fiveB (one_goes t 20) (one_fiveB t 20) 0 y i (Nat.zero_le _) he
    have h2:=or_goes (one_goes t 20) 0 y i (Nat.zero_le _) he
    omega
end Go.Proofs.YthnjfeielmbfkaaGreatDoor
namespace Go.Proofs.YthnjfeielmbfkaaGreatDoor
open Go.Av
theorem take_at {t:List UInt8} {c:UInt8} {i j:Nat} (hj:skipB t i=j):takeM t c i=if t[j]? = some c then (true,j+1) else (false,j):=by
 unfold takeM;rw [hj]
theorem word_q {t:List UInt8} {q i:Nat} {c:Int} {p q':Nat} (h:wordR t q i = .err c p q'):q'=q:=by
 unfold wordR at h
 split at h
 ·simp only [Rs.err.injEq] at h;omega
 ·split at h
  ·simp only [Rs.err.injEq] at h;omega
  ·cases h
set_option maxHeartbeats 16000000 in
theorem one_spec (G:Glob) (t:List UInt8) (ht:t.length≤2000):∀ (d:Nat),d≤20→∀ i,i≤t.length→MC Tryz.prog G [500] 263 [.ref 500 0 0,.d (dNum d)] (hlst (rRow t i)) (.d (tupX (oneR t d i))) (hlst (rRow t (posR (oneR t d i)))):=by
 intro d
 induction d with
 | zero=>
  intro _ i hi
  have hfl:=fail_spec G t i (by omega) hi 4
  refine MC.of_body (tyOf_good _) Tryz.func263 rfl rfl (rs:=[.tmp 4,.tmp 5]) Tryz.results263 (by simp [Tryz.ntmps263]) rfl fun X=>?_;simp only [Tryz.ntmps263]
  have fw:=(Aq @dNum.eq_1 (Aq @rRow.eq_1 (Aq @rdr.eq_1 @dS.eq_1)))
  refine rgq fw [0,1] [500] ?_;refine AW_then fun K1 hK1=>?_;refine rgq fw [0,1,17] [500] ?_;refine AW_tt rfl ?_;refine rgm (Aq fw (Aq @dErr.eq_1 (Aq @dErr.eq_2 @dErr.eq_3))) hfl [4,5] [500] ?_;refine AW_ret ?_;simp [D.le,D.le.go,takeMap,dNum,rRow,rdr,dS,rRow,rdr,tupX,oneR,posR,dErr,dQ]
 | succ d ih=>
  intro hd i hi
  have ih:=ih (by omega)
  have hor:=or_spec G t ht d ih
  have htop:=skipB_top hi
  have hidem:=skipB_idem hi
  have hd0:¬ (d:Int)+1=0:=by omega
  have ht60:t.length < 2^60:=by omega
  have htk1:∀ c,MC Tryz.prog G [500] 262 [.ref 500 0 0,.d (.v (.int .u8 c.toNat))] (hlst (rRow t i)) (.d (.v (.bool (takeM t c i).1))) (hlst (rRow t (takeM t c i).2)):=fun c=>take_spec G t i ht60 hi c
  rw [oneR];generalize hj:skipB t i=j at htop hidem ⊢
  have htk2:∀ c,MC Tryz.prog G [500] 262 [.ref 500 0 0,.d (.v (.int .u8 c.toNat))] (hlst (rRow t j)) (.d (.v (.bool (takeM t c j).1))) (hlst (rRow t (takeM t c j).2)):=fun c=>take_spec G t j ht60 htop c
  have at1:=fun c=>take_at (t:=t) (c:=c) hj
  have at2:=fun c=>take_at (t:=t) (c:=c) hidem
  simp only [at1] at htk1;simp only [at2] at htk2
  have hlt:∀ {c:UInt8},t[j]? = some c→j+1≤t.length:=fun h=>(List.getElem?_eq_some_iff.1 h).1
  have k33:=htk1 33
  have k40:=htk2 40
  have k48:=htk2 48
  have k49:=htk2 49
  have k94:=htk2 94
  have k126:=htk2 126
  clear htk1 at1 at2 hj
  by_cases c33:t[j]? = some 33
  ·rw [if_pos c33] at k33 ⊢
   have hc:=ih (j+1) (hlt c33)
   cases hr:oneR t d (j+1) with
   | err c p q=>
    rw [hr] at hc;refine MC.of_body (tyOf_good _) Tryz.func263 rfl rfl (rs:=[.tmp 4,.tmp 5]) Tryz.results263 (by simp [Tryz.ntmps263]) rfl fun X=>?_;simp only [Tryz.ntmps263]
    have fw:=(Aq @dNum.eq_1 (Aq @rRow.eq_1 (Aq @rdr.eq_1 @dS.eq_1)))
    refine rgq fw [0,1] [500] ?_;refine AW_then fun K1 hK1=>?_
    have qf:=(Aq fw @hd0)
    refine rgqv [0,1,17] [500] ?_;refine AW_ff rfl ?_;refine AW_skip (hK1 _ ?_);refine AW_then fun K2 hK2=>?_;refine AW_block ?_;refine rgm fw k33 [0,1,20] [500] ?_;refine AW_tt rfl ?_;refine rgm (Aq fw (Aq @tupX.eq_1 (Aq @tupX.eq_2 (Aq @dErr.eq_1 (Aq @dErr.eq_2 @dErr.eq_3))))) hc [6,7] [500] ?_;refine AW_then fun K3 hK3=>?_;refine rgq fw [6,7,31] [500] ?_;refine AW_tt rfl ?_;refine rgq fw [4,5] [500] ?_;refine AW_ret ?_;simp [D.le,D.le.go,takeMap,dNum,rRow,rdr,dS,rRow,rdr,tupX,posR,dErr,dQ]
   | ok x k=>
    rw [hr] at hc
    obtain ⟨tx,cx,hx⟩:=dE_ifc x
    refine MC.of_body (tyOf_good _) Tryz.func263 rfl rfl (rs:=[.tmp 4,.tmp 5]) Tryz.results263 (by simp [Tryz.ntmps263]) rfl fun X=>?_;simp only [Tryz.ntmps263]
    have fw:=(Aq @dNum.eq_1 (Aq @rRow.eq_1 (Aq @rdr.eq_1 @dS.eq_1)))
    refine rgq fw [0,1] [500] ?_;refine AW_then fun K1 hK1=>?_
    have qf:=(Aq fw @hd0)
    refine rgqv [0,1,17] [500] ?_;refine AW_ff rfl ?_;refine AW_skip (hK1 _ ?_);refine AW_then fun K2 hK2=>?_;refine AW_block ?_;refine rgm fw k33 [0,1,20] [500] ?_;refine AW_tt rfl ?_
    have qf:=(Aq fw (Aq @tupX.eq_1 (Aq @tupX.eq_2 @hx)))
    refine rgmv hc [6,7] [500] ?_;refine AW_then fun K3 hK3=>?_;refine rgq fw [6,7,31] [500] ?_;refine AW_ff rfl ?_;refine AW_skip (hK3 _ ?_);refine rgq fw [4,5] [500] ?_;refine AW_ret ?_;simp [D.le,D.le.go,takeMap,dNum,rRow,rdr,dS,rRow,rdr,tupX,posR,dE,hx,D.le_refl]
  rw [if_neg c33] at k33 ⊢
  by_cases c40:t[j]? = some 40
  ·rw [if_pos c40] at k40 ⊢
   have hc:=hor (j+1) (hlt c40)
   cases hr:orR t (oneR t d) (j+1) with
   | err c p q=>
    rw [hr] at hc;refine MC.of_body (tyOf_good _) Tryz.func263 rfl rfl (rs:=[.tmp 4,.tmp 5]) Tryz.results263 (by simp [Tryz.ntmps263]) rfl fun X=>?_;simp only [Tryz.ntmps263]
    have fw:=(Aq @dNum.eq_1 (Aq @rRow.eq_1 (Aq @rdr.eq_1 @dS.eq_1)))
    refine rgq fw [0,1] [500] ?_;refine AW_then fun K1 hK1=>?_
    have qf:=(Aq fw @hd0)
    refine rgqv [0,1,17] [500] ?_;refine AW_ff rfl ?_;refine AW_skip (hK1 _ ?_);refine AW_then fun K2 hK2=>?_;refine AW_block ?_;refine rgm fw k33 [0,1,20] [500] ?_;refine AW_ff rfl ?_;refine rgm fw k40 [0,1,36] [500] ?_;refine AW_tt rfl ?_;refine rgm (Aq fw (Aq @tupX.eq_1 (Aq @tupX.eq_2 (Aq @dErr.eq_1 (Aq @dErr.eq_2 @dErr.eq_3))))) hc [0,8,9] [500] ?_;refine AW_then fun K4 hK4=>?_;refine rgq fw [0,8,9,47] [500] ?_;refine AW_tt rfl ?_;refine rgq fw [4,5] [500] ?_;refine AW_ret ?_;simp [D.le,D.le.go,takeMap,dNum,rRow,rdr,dS,rRow,rdr,tupX,posR,dErr,dQ]
   | ok x k=>
    rw [hr] at hc
    obtain ⟨tx,cx,hx⟩:=dE_ifc x
    have hkt:=(or_goes (one_goes t d) (j+1) x k (hlt c40) hr).2
    have k41:=take_spec G t k ht60 hkt 41
    have htg:=take_goes (c:=41) hkt
    have h41:(takeM t 41 k).1=false→skipB t (takeM t 41 k).2=(takeM t 41 k).2:=fun h=>by
     unfold takeM at h ⊢
     split at h
     ·cases h
     ·rw [if_neg ‹_›];exact skipB_idem hkt
    cases htm:takeM t 41 k with
    | mk b k2=>
    rw [htm] at k41 htg h41
    dsimp only at k41 htg h41 ⊢
    cases b with
    | true=>
     refine MC.of_body (tyOf_good _) Tryz.func263 rfl rfl (rs:=[.tmp 4,.tmp 5]) Tryz.results263 (by simp [Tryz.ntmps263]) rfl fun X=>?_;simp only [Tryz.ntmps263]
     have fw:=(Aq @dNum.eq_1 (Aq @rRow.eq_1 (Aq @rdr.eq_1 @dS.eq_1)))
     refine rgq fw [0,1] [500] ?_;refine AW_then fun K1 hK1=>?_
     have qf:=(Aq fw @hd0)
     refine rgqv [0,1,17] [500] ?_;refine AW_ff rfl ?_;refine AW_skip (hK1 _ ?_);refine AW_then fun K2 hK2=>?_;refine AW_block ?_;refine rgm fw k33 [0,1,20] [500] ?_;refine AW_ff rfl ?_;refine rgm fw k40 [0,1,36] [500] ?_;refine AW_tt rfl ?_
     have qf:=(Aq fw (Aq @tupX.eq_1 (Aq @tupX.eq_2 (Aq @posR.eq_1 (Aq @posR.eq_2 @hx)))))
     refine rgmv hc [0,8,9] [500] ?_;refine AW_then fun K4 hK4=>?_;refine rgq fw [0,8,9,47] [500] ?_;refine AW_ff rfl ?_;refine AW_skip (hK4 _ ?_);refine AW_then fun K5 hK5=>?_;refine rgm fw k41 [0,8,51] [500] ?_;refine AW_ff rfl ?_;refine AW_skip (hK5 _ ?_);refine rgq fw [4,5] [500] ?_;refine AW_ret ?_;simp [D.le,D.le.go,takeMap,dNum,rRow,rdr,dS,rRow,rdr,tupX,posR,hx,htm,D.le_refl]
    | false=>
     have hfl:=fail_spec G t k2 ht60 htg.2.1 3
     rw [h41 rfl] at hfl;refine MC.of_body (tyOf_good _) Tryz.func263 rfl rfl (rs:=[.tmp 4,.tmp 5]) Tryz.results263 (by simp [Tryz.ntmps263]) rfl fun X=>?_;simp only [Tryz.ntmps263]
     have fw:=(Aq @dNum.eq_1 (Aq @rRow.eq_1 (Aq @rdr.eq_1 @dS.eq_1)))
     refine rgq fw [0,1] [500] ?_;refine AW_then fun K1 hK1=>?_
     have qf:=(Aq fw @hd0)
     refine rgqv [0,1,17] [500] ?_;refine AW_ff rfl ?_;refine AW_skip (hK1 _ ?_);refine AW_then fun K2 hK2=>?_;refine AW_block ?_;refine rgm fw k33 [0,1,20] [500] ?_;refine AW_ff rfl ?_;refine rgm fw k40 [0,1,36] [500] ?_;refine AW_tt rfl ?_
     have qf:=(Aq fw (Aq @tupX.eq_1 (Aq @tupX.eq_2 (Aq @posR.eq_1 (Aq @posR.eq_2 @hx)))))
     refine rgmv hc [0,8,9] [500] ?_;refine AW_then fun K4 hK4=>?_;refine rgq fw [0,8,9,47] [500] ?_;refine AW_ff rfl ?_;refine AW_skip (hK4 _ ?_);refine AW_then fun K5 hK5=>?_;refine rgm fw k41 [0,8,51] [500] ?_;refine AW_tt rfl ?_;refine rgm (Aq fw (Aq @dErr.eq_1 (Aq @dErr.eq_2 @dErr.eq_3))) hfl [4,5] [500] ?_;refine AW_ret ?_;simp [D.le,D.le.go,takeMap,dNum,rRow,rdr,dS,rRow,rdr,tupX,posR,dErr,dQ,htm]
  rw [if_neg c40] at k40 ⊢
  by_cases c48:t[j]? = some 48
  ·rw [if_pos c48] at k48 ⊢;refine MC.of_body (tyOf_good _) Tryz.func263 rfl rfl (rs:=[.tmp 4,.tmp 5]) Tryz.results263 (by simp [Tryz.ntmps263]) rfl fun X=>?_;simp only [Tryz.ntmps263]
   have fw:=(Aq @dNum.eq_1 (Aq @rRow.eq_1 (Aq @rdr.eq_1 @dS.eq_1)))
   refine rgq fw [0,1] [500] ?_;refine AW_then fun K1 hK1=>?_
   have qf:=(Aq fw @hd0)
   refine rgqv [0,1,17] [500] ?_;refine AW_ff rfl ?_;refine AW_skip (hK1 _ ?_);refine AW_then fun K2 hK2=>?_;refine AW_block ?_;refine rgm fw k33 [0,1,20] [500] ?_;refine AW_ff rfl ?_;refine rgm fw k40 [0,1,36] [500] ?_;refine AW_ff rfl ?_;refine rgm fw k48 [0,55] [500] ?_;refine AW_tt rfl ?_;refine rgq fw [4,5] [500] ?_;refine AW_ret ?_;simp [D.le,D.le.go,takeMap,dNum,rRow,rdr,dS,rRow,rdr,tupX,posR,dE]
  rw [if_neg c48] at k48 ⊢
  by_cases c49:t[j]? = some 49
  ·rw [if_pos c49] at k49 ⊢;refine MC.of_body (tyOf_good _) Tryz.func263 rfl rfl (rs:=[.tmp 4,.tmp 5]) Tryz.results263 (by simp [Tryz.ntmps263]) rfl fun X=>?_;simp only [Tryz.ntmps263]
   have fw:=(Aq @dNum.eq_1 (Aq @rRow.eq_1 (Aq @rdr.eq_1 @dS.eq_1)))
   refine rgq fw [0,1] [500] ?_;refine AW_then fun K1 hK1=>?_
   have qf:=(Aq fw @hd0)
   refine rgqv [0,1,17] [500] ?_;refine AW_ff rfl ?_;refine AW_skip (hK1 _ ?_);refine AW_then fun K2 hK2=>?_;refine AW_block ?_;refine rgm fw k33 [0,1,20] [500] ?_;refine AW_ff rfl ?_;refine rgm fw k40 [0,1,36] [500] ?_;refine AW_ff rfl ?_;refine rgm fw k48 [0,55] [500] ?_;refine AW_ff rfl ?_;refine rgm fw k49 [0,59] [500] ?_;refine AW_tt rfl ?_;refine rgq fw [4,5] [500] ?_;refine AW_ret ?_;simp [D.le,D.le.go,takeMap,dNum,rRow,rdr,dS,rRow,rdr,tupX,posR,dE]
  rw [if_neg c49] at k49 ⊢
  by_cases c94:t[j]? = some 94
  ·rw [if_pos c94] at k94 ⊢
   have hc:=word_spec G t 1 (j+1) ht60 (hlt c94)
   have hq:∀ {c:Int} {p q':Nat},wordR t 1 (j+1) = .err c p q'→q'=1:=fun h=>word_q h
   cases hr:wordR t 1 (j+1) with
   | err c p q'=>
    obtain rfl:=hq hr
    rw [hr] at hc;refine MC.of_body (tyOf_good _) Tryz.func263 rfl rfl (rs:=[.tmp 4,.tmp 5]) Tryz.results263 (by simp [Tryz.ntmps263]) rfl fun X=>?_;simp only [Tryz.ntmps263]
    have fw:=(Aq @dNum.eq_1 (Aq @rRow.eq_1 (Aq @rdr.eq_1 @dS.eq_1)))
    refine rgq fw [0,1] [500] ?_;refine AW_then fun K1 hK1=>?_
    have qf:=(Aq fw @hd0)
    refine rgqv [0,1,17] [500] ?_;refine AW_ff rfl ?_;refine AW_skip (hK1 _ ?_);refine AW_then fun K2 hK2=>?_;refine AW_block ?_;refine rgm fw k33 [0,1,20] [500] ?_;refine AW_ff rfl ?_;refine rgm fw k40 [0,1,36] [500] ?_;refine AW_ff rfl ?_;refine rgm fw k48 [0,55] [500] ?_;refine AW_ff rfl ?_;refine rgm fw k49 [0,59] [500] ?_;refine AW_ff rfl ?_;refine rgm fw k94 [0,63] [500] ?_;refine AW_tt rfl ?_;refine rgm (Aq fw (Aq @tupW.eq_1 (Aq @tupW.eq_2 (Aq @dErr.eq_1 (Aq @dErr.eq_2 @dErr.eq_3))))) hc [10,11] [500] ?_;refine rgq fw [4,5] [500] ?_;refine AW_ret ?_;simp [D.le,D.le.go,takeMap,dNum,rRow,rdr,dS,rRow,rdr,tupX,posR,dErr,dQ,Rs.map,bs_nil]
   | ok s p=>
    rw [hr] at hc;refine MC.of_body (tyOf_good _) Tryz.func263 rfl rfl (rs:=[.tmp 4,.tmp 5]) Tryz.results263 (by simp [Tryz.ntmps263]) rfl fun X=>?_;simp only [Tryz.ntmps263]
    have fw:=(Aq @dNum.eq_1 (Aq @rRow.eq_1 (Aq @rdr.eq_1 @dS.eq_1)))
    refine rgq fw [0,1] [500] ?_;refine AW_then fun K1 hK1=>?_
    have qf:=(Aq fw @hd0)
    refine rgqv [0,1,17] [500] ?_;refine AW_ff rfl ?_;refine AW_skip (hK1 _ ?_);refine AW_then fun K2 hK2=>?_;refine AW_block ?_;refine rgm fw k33 [0,1,20] [500] ?_;refine AW_ff rfl ?_;refine rgm fw k40 [0,1,36] [500] ?_;refine AW_ff rfl ?_;refine rgm fw k48 [0,55] [500] ?_;refine AW_ff rfl ?_;refine rgm fw k49 [0,59] [500] ?_;refine AW_ff rfl ?_;refine rgm fw k94 [0,63] [500] ?_;refine AW_tt rfl ?_;refine rgm (Aq fw (Aq @tupW.eq_1 @tupW.eq_2)) hc [10,11] [500] ?_;refine rgq fw [4,5] [500] ?_;refine AW_ret ?_;simp [D.le,D.le.go,takeMap,dNum,rRow,rdr,dS,rRow,rdr,tupX,posR,Rs.map,dE]
  rw [if_neg c94] at k94 ⊢
  by_cases c126:t[j]? = some 126
  ·rw [if_pos c126] at k126 ⊢
   have hc:=word_spec G t 2 (j+1) ht60 (hlt c126)
   have hq:∀ {c:Int} {p q':Nat},wordR t 2 (j+1) = .err c p q'→q'=2:=fun h=>word_q h
   cases hr:wordR t 2 (j+1) with
   | err c p q'=>
    obtain rfl:=hq hr
    rw [hr] at hc;refine MC.of_body (tyOf_good _) Tryz.func263 rfl rfl (rs:=[.tmp 4,.tmp 5]) Tryz.results263 (by simp [Tryz.ntmps263]) rfl fun X=>?_;simp only [Tryz.ntmps263]
    have fw:=(Aq @dNum.eq_1 (Aq @rRow.eq_1 (Aq @rdr.eq_1 @dS.eq_1)))
    refine rgq fw [0,1] [500] ?_;refine AW_then fun K1 hK1=>?_
    have qf:=(Aq fw @hd0)
    refine rgqv [0,1,17] [500] ?_;refine AW_ff rfl ?_;refine AW_skip (hK1 _ ?_);refine AW_then fun K2 hK2=>?_;refine AW_block ?_;refine rgm fw k33 [0,1,20] [500] ?_;refine AW_ff rfl ?_;refine rgm fw k40 [0,1,36] [500] ?_;refine AW_ff rfl ?_;refine rgm fw k48 [0,55] [500] ?_;refine AW_ff rfl ?_;refine rgm fw k49 [0,59] [500] ?_;refine AW_ff rfl ?_;refine rgm fw k94 [0,63] [500] ?_;refine AW_ff rfl ?_;refine rgm fw k126 [0,74] [500] ?_;refine AW_tt rfl ?_;refine rgm (Aq fw (Aq @tupW.eq_1 (Aq @tupW.eq_2 (Aq @dErr.eq_1 (Aq @dErr.eq_2 @dErr.eq_3))))) hc [12,13] [500] ?_;refine rgq fw [4,5] [500] ?_;refine AW_ret ?_;simp [D.le,D.le.go,takeMap,dNum,rRow,rdr,dS,rRow,rdr,tupX,posR,dErr,dQ,Rs.map,bs_nil]
   | ok s p=>
    rw [hr] at hc;refine MC.of_body (tyOf_good _) Tryz.func263 rfl rfl (rs:=[.tmp 4,.tmp 5]) Tryz.results263 (by simp [Tryz.ntmps263]) rfl fun X=>?_;simp only [Tryz.ntmps263]
    have fw:=(Aq @dNum.eq_1 (Aq @rRow.eq_1 (Aq @rdr.eq_1 @dS.eq_1)))
    refine rgq fw [0,1] [500] ?_;refine AW_then fun K1 hK1=>?_
    have qf:=(Aq fw @hd0)
    refine rgqv [0,1,17] [500] ?_;refine AW_ff rfl ?_;refine AW_skip (hK1 _ ?_);refine AW_then fun K2 hK2=>?_;refine AW_block ?_;refine rgm fw k33 [0,1,20] [500] ?_;refine AW_ff rfl ?_;refine rgm fw k40 [0,1,36] [500] ?_;refine AW_ff rfl ?_;refine rgm fw k48 [0,55] [500] ?_;refine AW_ff rfl ?_;refine rgm fw k49 [0,59] [500] ?_;refine AW_ff rfl ?_;refine rgm fw k94 [0,63] [500] ?_;refine AW_ff rfl ?_;refine rgm fw k126 [0,74] [500] ?_;refine AW_tt rfl ?_;refine rgm (Aq fw (Aq @tupW.eq_1 @tupW.eq_2)) hc [12,13] [500] ?_;refine rgq fw [4,5] [500] ?_;refine AW_ret ?_;simp [D.le,D.le.go,takeMap,dNum,rRow,rdr,dS,rRow,rdr,tupX,posR,Rs.map,dE]
  rw [if_neg c126] at k126 ⊢
  have hc:=word_spec G t 3 j ht60 htop
  have hq:∀ {c:Int} {p q':Nat},wordR t 3 j = .err c p q'→q'=3:=fun h=>word_q h
  cases hr:wordR t 3 j with
  | err c p q'=>
   obtain rfl:=hq hr
   rw [hr] at hc;refine MC.of_body (tyOf_good _) Tryz.func263 rfl rfl (rs:=[.tmp 4,.tmp 5]) Tryz.results263 (by simp [Tryz.ntmps263]) rfl fun X=>?_;simp only [Tryz.ntmps263]
   have fw:=(Aq @dNum.eq_1 (Aq @rRow.eq_1 (Aq @rdr.eq_1 @dS.eq_1)))
   refine rgq fw [0,1] [500] ?_;refine AW_then fun K1 hK1=>?_
   have qf:=(Aq fw @hd0)
   refine rgqv [0,1,17] [500] ?_;refine AW_ff rfl ?_;refine AW_skip (hK1 _ ?_);refine AW_then fun K2 hK2=>?_;refine AW_block ?_;refine rgm fw k33 [0,1,20] [500] ?_;refine AW_ff rfl ?_;refine rgm fw k40 [0,1,36] [500] ?_;refine AW_ff rfl ?_;refine rgm fw k48 [0,55] [500] ?_;refine AW_ff rfl ?_;refine rgm fw k49 [0,59] [500] ?_;refine AW_ff rfl ?_;refine rgm fw k94 [0,63] [500] ?_;refine AW_ff rfl ?_;refine rgm fw k126 [0,74] [500] ?_;refine AW_ff rfl ?_;refine AW_skip (hK2 _ ?_);refine rgm (Aq fw (Aq @tupW.eq_1 (Aq @tupW.eq_2 (Aq @dErr.eq_1 (Aq @dErr.eq_2 @dErr.eq_3))))) hc [14,15] [500] ?_;refine rgq fw [4,5] [500] ?_;refine AW_ret ?_;simp [D.le,D.le.go,takeMap,dNum,rRow,rdr,dS,rRow,rdr,tupX,posR,dErr,dQ,Rs.map,bs_nil]
  | ok s p=>
   rw [hr] at hc;refine MC.of_body (tyOf_good _) Tryz.func263 rfl rfl (rs:=[.tmp 4,.tmp 5]) Tryz.results263 (by simp [Tryz.ntmps263]) rfl fun X=>?_;simp only [Tryz.ntmps263]
   have fw:=(Aq @dNum.eq_1 (Aq @rRow.eq_1 (Aq @rdr.eq_1 @dS.eq_1)))
   refine rgq fw [0,1] [500] ?_;refine AW_then fun K1 hK1=>?_
   have qf:=(Aq fw @hd0)
   refine rgqv [0,1,17] [500] ?_;refine AW_ff rfl ?_;refine AW_skip (hK1 _ ?_);refine AW_then fun K2 hK2=>?_;refine AW_block ?_;refine rgm fw k33 [0,1,20] [500] ?_;refine AW_ff rfl ?_;refine rgm fw k40 [0,1,36] [500] ?_;refine AW_ff rfl ?_;refine rgm fw k48 [0,55] [500] ?_;refine AW_ff rfl ?_;refine rgm fw k49 [0,59] [500] ?_;refine AW_ff rfl ?_;refine rgm fw k94 [0,63] [500] ?_;refine AW_ff rfl ?_;refine rgm fw k126 [0,74] [500] ?_;refine AW_ff rfl ?_;refine AW_skip (hK2 _ ?_);refine rgm (Aq fw (Aq @tupW.eq_1 @tupW.eq_2)) hc [14,15] [500] ?_;refine rgq fw [4,5] [500] ?_;refine AW_ret ?_;simp [D.le,D.le.go,takeMap,dNum,rRow,rdr,dS,rRow,rdr,tupX,posR,Rs.map,dE]
end Go.Proofs.YthnjfeielmbfkaaGreatDoor
namespace Go.Proofs.YthnjfeielmbfkaaGreatDoor
open Go.Av
theorem renH_one {r r':Nat} (h:r≠r') (row:Row):renH r r' (hlst [(r,row)])=hlst [(r',row.tr (renO r r') (renF r r'))]:=by
 funext q
 unfold renH
 by_cases h1:q=r'
 ·subst h1;simp [hlst,List.lookup]
 ·rw [if_neg h1]
  by_cases h2:q=r
  ·subst h2;simp [hlst,List.lookup,h1,beq_eq_false_iff_ne.2 h1]
  ·simp [hlst,List.lookup,h2,beq_eq_false_iff_ne.2 h1,beq_eq_false_iff_ne.2 h2]
def dOE:Option Ex→D
 | some x=>dE x
 | none=>.v .nilIface
set_option maxHeartbeats 4000000 in
theorem parse_spec (G:Glob) (t:List UInt8) (ht:t.length < 2^60):PureC Tryz.prog G 152 [dS t] (.tup [dOE (parseM t).1,dErr (parseM t).2]):=by
 unfold parseM
 by_cases hl:2000 < t.length
 ·have hl':(2000:Int) < (t.length:Int):=by omega
  rw [if_pos hl];refine PureC.of_body (tyOf_good _) Tryz.func152 rfl rfl (rs:=[.tmp 2,.tmp 3]) Tryz.results152 (by simp [Tryz.ntmps152]) fun X=>?_;simp only [Tryz.ntmps152,List.map]
  have fw:=(Aq @dNum.eq_1 (Aq @rRow.eq_1 (Aq @rdr.eq_1 @dS.eq_1)))
  refine rgq fw [0] [] ?_;refine AW_then fun K1 hK1=>?_
  have qf:=(Aq fw (Aq @bs_size (Aq @hl @hl')))
  refine rgqv [0,9] [] ?_;refine AW_tt rfl ?_;refine rgq fw [2,3] [] ?_;refine AW_ret ?_;simp [D.le,D.le.go,takeMap,dNum,rRow,rdr,dS,dOE,dErr]
 have hl':¬ (2000:Int) < (t.length:Int):=by omega
 rw [if_neg hl]
 have hor:=or_spec G t (by omega) 20 (one_spec G t (by omega) 20 (by decide)) 0 (Nat.zero_le _)
 cases hr:orR t (oneR t 20) 0 with
 | err c p q=>
  rw [hr] at hor;refine PureC.of_body (tyOf_good _) Tryz.func152 rfl rfl (rs:=[.tmp 2,.tmp 3]) Tryz.results152 (by simp [Tryz.ntmps152]) fun X=>?_;simp only [Tryz.ntmps152,List.map]
  have fw:=(Aq @dNum.eq_1 (Aq @rRow.eq_1 (Aq @rdr.eq_1 @dS.eq_1)))
  refine rgq fw [0] [] ?_;refine AW_then fun K1 hK1=>?_
  have qf:=(Aq fw (Aq @bs_size (Aq @hl @hl')))
  refine rgqv [0,9] [] ?_;refine AW_ff rfl ?_;refine AW_skip (hK1 _ ?_);refine rgq fw [0,4] [13] ?_;refine AW.imp (Imp.ren (r:=13) (r':=500) trivial (by simp)) ?_;refine AW.st (by simp [renO,renF,Go.Av.ren,renH_one];rfl) ?_;refine rgm (Aq fw (Aq @tupX.eq_1 (Aq @tupX.eq_2 (Aq @dErr.eq_1 (Aq @dErr.eq_2 @dErr.eq_3))))) hor [0,4,5,6] [500] ?_;refine AW_then fun K2 hK2=>?_;refine rgq fw [0,4,5,6,20] [500] ?_;refine AW_tt rfl ?_;refine rgq fw [2,3] [] ?_;refine AW_ret ?_;simp [D.le,D.le.go,takeMap,dNum,rRow,rdr,dS,dOE,dErr]
 | ok x k=>
  rw [hr] at hor
  have hk:=(or_goes (one_goes t 20) 0 x k (Nat.zero_le _) hr).2
  have hbl:=blanks_spec G t k (by omega) hk
  have htop:=skipB_top hk
  have hfl:=fail_spec G t (skipB t k) (by omega) htop 3
  rw [skipB_idem hk] at hfl
  obtain ⟨tx,cx,hx⟩:=dE_ifc x
  dsimp only
  generalize skipB t k=j at hbl htop hfl ⊢
  by_cases hj:j < t.length
  ·have hj':(j:Int) < (t.length:Int):=by omega
   rw [if_pos hj];refine PureC.of_body (tyOf_good _) Tryz.func152 rfl rfl (rs:=[.tmp 2,.tmp 3]) Tryz.results152 (by simp [Tryz.ntmps152]) fun X=>?_;simp only [Tryz.ntmps152,List.map]
   have fw:=(Aq @dNum.eq_1 (Aq @rRow.eq_1 (Aq @rdr.eq_1 @dS.eq_1)))
   refine rgq fw [0] [] ?_;refine AW_then fun K1 hK1=>?_
   have qf:=(Aq fw (Aq @bs_size (Aq @hl @hl')))
   refine rgqv [0,9] [] ?_;refine AW_ff rfl ?_;refine AW_skip (hK1 _ ?_);refine rgq fw [0,4] [13] ?_;refine AW.imp (Imp.ren (r:=13) (r':=500) trivial (by simp)) ?_;refine AW.st (by simp [renO,renF,Go.Av.ren,renH_one];rfl) ?_
   have qf:=(Aq fw (Aq @tupX.eq_1 (Aq @tupX.eq_2 (Aq @posR.eq_1 (Aq @posR.eq_2 @hx)))))
   refine rgmv hor [0,4,5,6] [500] ?_;refine AW_then fun K2 hK2=>?_;refine rgq fw [0,4,5,6,20] [500] ?_;refine AW_ff rfl ?_;refine AW_skip (hK2 _ ?_);refine AW_then fun K3 hK3=>?_;refine rgm fw hbl [0,4,5] [500] ?_
   have qf:=(Aq fw (Aq @bs_size (Aq @hj @hj')))
   refine rgqv [4,5,30] [500] ?_;refine AW_tt rfl ?_;refine rgm (Aq fw (Aq @dErr.eq_1 (Aq @dErr.eq_2 @dErr.eq_3))) hfl [2,3] [] ?_;refine AW_ret ?_;simp [D.le,D.le.go,takeMap,dNum,rRow,rdr,dS,dOE,dErr]
  ·have hj':¬ (j:Int) < (t.length:Int):=by omega
   rw [if_neg hj];refine PureC.of_body (tyOf_good _) Tryz.func152 rfl rfl (rs:=[.tmp 2,.tmp 3]) Tryz.results152 (by simp [Tryz.ntmps152]) fun X=>?_;simp only [Tryz.ntmps152,List.map]
   have fw:=(Aq @dNum.eq_1 (Aq @rRow.eq_1 (Aq @rdr.eq_1 @dS.eq_1)))
   refine rgq fw [0] [] ?_;refine AW_then fun K1 hK1=>?_
   have qf:=(Aq fw (Aq @bs_size (Aq @hl @hl')))
   refine rgqv [0,9] [] ?_;refine AW_ff rfl ?_;refine AW_skip (hK1 _ ?_);refine rgq fw [0,4] [13] ?_;refine AW.imp (Imp.ren (r:=13) (r':=500) trivial (by simp)) ?_;refine AW.st (by simp [renO,renF,Go.Av.ren,renH_one];rfl) ?_
   have qf:=(Aq fw (Aq @tupX.eq_1 (Aq @tupX.eq_2 (Aq @posR.eq_1 (Aq @posR.eq_2 @hx)))))
   refine rgmv hor [0,4,5,6] [500] ?_;refine AW_then fun K2 hK2=>?_;refine rgq fw [0,4,5,6,20] [500] ?_;refine AW_ff rfl ?_;refine AW_skip (hK2 _ ?_);refine AW_then fun K3 hK3=>?_;refine rgm fw hbl [0,4,5] [500] ?_
   have qf:=(Aq fw (Aq @bs_size (Aq @hj @hj')))
   refine rgqv [4,5,30] [500] ?_;refine AW_ff rfl ?_;refine AW_skip (hK3 _ ?_);refine rgq fw [2,3] [] ?_;refine AW_ret ?_;simp [D.le,D.le.go,takeMap,dNum,rRow,rdr,dS,dOE,dErr,hx,D.le_refl]
end Go.Proofs.YthnjfeielmbfkaaGreatDoor
namespace Go.Proofs.YthnjfeielmbfkaaGreatDoor
open Go.Av
theorem bEs_take {l:List Ex} {i:Nat} (hi:i < l.length):bEs (l.take i)+bE l[i]≤bEs l:=by
 have h1:=bEs_app (l.take i) [l[i]]
 rw [← List.take_succ_eq_append_getElem hi] at h1
 have h2:=bEs_app (l.take (i+1)) (l.drop (i+1))
 rw [List.take_append_drop] at h2;simp only [bEs] at h1
 omega
end Go.Proofs.YthnjfeielmbfkaaGreatDoor
