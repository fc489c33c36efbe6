/-
  Texts that belong together,in one file: X2,X3,X8p,X4,X9,Y1,Y2,Y3,X5,X6,V7,A3,W2,U2,A7,V6,V8,C1,LP1,LC1,LC2,LK.
-/
import Derived.Test.YtpboiimemmfkiaaGreatDoorRp21
import Derived.Shelf.Small.Strs
import Derived.Lib.IndexLaws
set_option linter.unusedSimpArgs false
set_option linter.unusedVariables false
namespace Go.Proofs.YtpboiimemmfkiaaGreatDoor
open Go.Av
open Go.Shelf
def rdr (t:List UInt8) (i:Int):Row:=.box 362 [.d (dS t),int i]
def rRow (t:List UInt8) (i:Int):List (Nat×Row):=[(500,rdr t i)]
theorem u8_eq (a:UInt8) (n:Nat) (hn:n < 256):((a.toNat:Int)=(n:Int))↔a=UInt8.ofNat n:=by
 constructor
 ·intro h
  have:a.toNat=n:=by omega
  rw [← this,UInt8.ofNat_toNat]
 ·rintro rfl
  simp
  omega
set_option maxHeartbeats 4000000 in
theorem blanks_spec (G:Glob) (t:List UInt8) (i:Nat) (ht:t.length < 2^60) (hi:i≤t.length) :
  MC Tryz.prog G [500] 267 [.ref 500 0 0] (hlst (rRow t i)) (.d (.tup [])) (hlst (rRow t (skipB t i))):=by
 refine MC.of_body (tyOf_good _) Tryz.func267 rfl rfl (rs:=[]) Tryz.results267 (by simp [Tryz.ntmps267]) rfl fun X=>?_;simp only [Tryz.ntmps267]
 have fw:=(Aq @dNum.eq_1 (Aq @rRow.eq_1 (Aq @rdr.eq_1 @dS.eq_1)))
 refine AW_for (S:=Nat) (fun k=>k≤t.length∧skipB t k=skipB t i) (fun k=>⟨lst [(0,.ref 500 0 0)],hlst [(500,.box 362 [.d (dS t),int k])]⟩) (fun k=>t.length - k) i ?_ ⟨hi,rfl⟩ ?_
 ·refine Imp.to' (notIn_ok rfl) (by simp [dNum,rRow,rdr,dS]) (by simp [dNum,rRow,rdr,dS])
 ·rintro k ⟨hk,hs⟩
  refine AW_then fun K1 hK1=>?_
  by_cases hkl:k < t.length
  ·have hkl':(k:Int) < (t.length:Int):=by omega
   have hgd:t.getD k 0=t[k]:=by simp [List.getD_eq_getElem?_getD,hkl]
   by_cases hb:((t[k]).toNat:Int)=32
   ·have qf:=(Aq fw (Aq @bs_size (Aq @bs_data (Aq @hkl @hb))))
    refine rdqv [0,23] [500] ?_;refine AW_tt rfl ?_;refine AW_skip (hK1 _ ?_);refine AW_block ?_;refine AW_re (tyOf_good _) fun K' hK'=>?_;(repeat (refine sxn fun K2 hK2=>?_;simp [dNum,rRow,rdr,dS];(repeat (refine ⟨by omega,?_⟩));refine hK2 _ ?_;clear hK2 K2));refine sxz (hK' _ ?_);clear hK' K';try simp only [thn,inb]
    have h32:t[k]? = some 32:=by
     rw [List.getElem?_eq_getElem hkl,(u8_eq _ 32 (by decide)).1 hb];rfl
    refine Again.mk (k+1) ⟨by omega,?_⟩ (by omega) ?_
    ·rw [← skipB_blank h32];exact hs
    refine Imp.to' (notIn_ok rfl) (by simp [dNum,rRow,rdr,dS]) (by simp [dNum,rRow,rdr,dS])
   ·have qf:=(Aq fw (Aq @bs_size (Aq @bs_data (Aq @hkl @hb))))
    refine rdqv [0,23] [500] ?_;refine AW_ff rfl ?_;refine AW_exit ?_
    have h32:t[k]?≠some 32:=by
     rw [List.getElem?_eq_getElem hkl]
     intro h
     apply hb
     rw [Option.some.inj h];rfl
    rw [skipB_stop h32] at hs;rw [← hs];simp [rRow,rdr,dS,D.le_refl]
  ·obtain rfl:k=t.length:=by omega
   have qf:=(Aq fw (Aq @bs_size @bs_data))
   refine rdqv [0,23] [500] ?_;refine AW_ff rfl ?_;refine AW_exit ?_
   have h32:t[t.length]?≠some 32:=by simp
   rw [skipB_stop h32] at hs;rw [← hs];simp [rRow,rdr,dS,D.le_refl]
set_option maxHeartbeats 4000000 in
theorem take_spec (G:Glob) (t:List UInt8) (i:Nat) (ht:t.length < 2^60) (hi:i≤t.length) (c:UInt8) :
  MC Tryz.prog G [500] 313 [.ref 500 0 0,.d (.v (.int .u8 c.toNat))] (hlst (rRow t i)) (.d (.v (.bool (takeM t c i).1))) (hlst (rRow t (takeM t c i).2)):=by
 have hbl:=blanks_spec G t i ht hi
 have htop:=skipB_top hi
 unfold takeM;generalize skipB t i=j at hbl htop ⊢
 by_cases hjl:j < t.length
 ·rw [List.getElem?_eq_getElem hjl]
  by_cases hb:t[j]=c
  ·have hb':((t[j]).toNat:Int)=(c.toNat:Int):=by rw [hb]
   rw [if_pos (by rw [hb])];refine MC.of_body (tyOf_good _) Tryz.func313 rfl rfl (rs:=[.tmp 4]) Tryz.results313 (by simp [Tryz.ntmps313]) rfl fun X=>?_;simp only [Tryz.ntmps313]
   have fw:=(Aq @dNum.eq_1 (Aq @rRow.eq_1 (Aq @rdr.eq_1 @dS.eq_1)))
   refine rgq fw [0,1] [500] ?_;refine rgm fw hbl [0,1] [500] ?_;refine AW_then fun K1 hK1=>?_
   have qf:=(Aq fw (Aq @bs_size (Aq @bs_data (Aq @hjl @hb'))))
   refine rdqv [0,29] [500] ?_;refine AW_tt rfl ?_;refine rgq fw [] [500] ?_;refine rgq fw [4] [500] ?_;refine AW_ret ?_;simp [D.le,D.le.go,takeMap,dNum,rRow,rdr,dS,rRow,rdr]
  ·have hb':¬ ((t[j]).toNat:Int)=(c.toNat:Int):=fun h=>hb (UInt8.toNat_inj.1 (by omega))
   rw [if_neg (fun h=>hb (Option.some.inj h))];refine MC.of_body (tyOf_good _) Tryz.func313 rfl rfl (rs:=[.tmp 4]) Tryz.results313 (by simp [Tryz.ntmps313]) rfl fun X=>?_;simp only [Tryz.ntmps313]
   have fw:=(Aq @dNum.eq_1 (Aq @rRow.eq_1 (Aq @rdr.eq_1 @dS.eq_1)))
   refine rgq fw [0,1] [500] ?_;refine rgm fw hbl [0,1] [500] ?_;refine AW_then fun K1 hK1=>?_
   have qf:=(Aq fw (Aq @bs_size (Aq @bs_data (Aq @hjl @hb'))))
   refine rdqv [0,29] [500] ?_;refine AW_ff rfl ?_;refine AW_skip (hK1 _ ?_);refine rgq fw [4] [500] ?_;refine AW_ret ?_;simp [D.le,D.le.go,takeMap,dNum,rRow,rdr,dS,rRow,rdr]
 ·obtain rfl:j=t.length:=by omega
  rw [if_neg (by simp)];refine MC.of_body (tyOf_good _) Tryz.func313 rfl rfl (rs:=[.tmp 4]) Tryz.results313 (by simp [Tryz.ntmps313]) rfl fun X=>?_;simp only [Tryz.ntmps313]
  have fw:=(Aq @dNum.eq_1 (Aq @rRow.eq_1 (Aq @rdr.eq_1 @dS.eq_1)))
  refine rgq fw [0,1] [500] ?_;refine rgm fw hbl [0,1] [500] ?_;refine AW_then fun K1 hK1=>?_
  have qf:=(Aq fw (Aq @bs_size @bs_data))
  refine rdqv [0,29] [500] ?_;refine AW_ff rfl ?_;refine AW_skip (hK1 _ ?_);refine rgq fw [4] [500] ?_;refine AW_ret ?_;simp [D.le,D.le.go,takeMap,dNum,rRow,rdr,dS,rRow,rdr]
set_option maxHeartbeats 4000000 in
theorem fail_spec (G:Glob) (t:List UInt8) (i:Nat) (ht:t.length < 2^60) (hi:i≤t.length) (e:Int) :
  MC Tryz.prog G [500] 268 [.ref 500 0 0,.d (dNum e)] (hlst (rRow t i)) (.d (dErr (some (e,some (skipB t i))))) (hlst (rRow t (skipB t i))):=by
 have hbl:=blanks_spec G t i ht hi
 generalize skipB t i=j at hbl ⊢;refine MC.of_body (tyOf_good _) Tryz.func268 rfl rfl (rs:=[.tmp 4]) Tryz.results268 (by simp [Tryz.ntmps268]) rfl fun X=>?_;simp only [Tryz.ntmps268]
 have fw:=(Aq @dNum.eq_1 (Aq @rRow.eq_1 (Aq @rdr.eq_1 @dS.eq_1)))
 refine rgq fw [0,1] [500] ?_;refine rgm fw hbl [0,1] [500] ?_;refine rgq fw [4] [500,13] ?_;refine AW.imp (Imp.freezeB 13 (by decide)) ?_;refine AW.st (by simp [dNum,rRow,rdr,dS];rfl) ?_;refine AW_ret ?_;simp [D.le,D.le.go,takeMap,dNum,rRow,rdr,dS,rRow,rdr,dErr]
def set11:List UInt8:=[32,38,124,33,94,126,40,41,48,49,61]
theorem ixb_neg (l:List UInt8) (c:UInt8):Lib.indexByte l c < 0↔c ∉ l:=by
 have hge:=Lib.indexByte_ge l c
 constructor
 ·intro h hm
  obtain ⟨k,hk,rfl⟩:=List.mem_iff_getElem.1 hm
  exact Lib.indexByte_none (show Lib.indexByte l l[k] = -1 by omega) k (List.getElem?_eq_getElem hk)
 ·intro hm
  apply Classical.byContradiction
  intro h
  obtain ⟨n,hn⟩:=Int.eq_ofNat_of_zero_le (show 0≤Lib.indexByte l c by omega)
  exact hm (List.mem_of_getElem? (Lib.indexByte_some hn).1)
theorem ixb_spec (G:Glob) (l:List UInt8) (c:UInt8):PureC Tryz.prog G 156 [dS l,.v (.int .u8 c.toNat)] (dNum (Lib.indexByte l c)):=by
 refine PureC.of_calls (Fun.of Tryz.func156 rfl rfl) fun X w vs hsz hrd hgl=>?_
 obtain ⟨a,b,rfl⟩:∃ a b,vs = #[a,b]:=by
  match vs,hsz with
  | ⟨[a,b]⟩,_=>exact ⟨a,b,rfl⟩
 have ha:=(hrd 0 a _ rfl rfl).scalar
 have hb:=(hrd 1 b _ rfl rfl).scalar
 subst ha hb
 have hcon:=Any.strings_IndexByte (P:=Tryz.prog) (ρ:=Tryz.lays160_ren) { Tryz.lays160 with } (bs l) c.toNat w
 rw [show (c.toNat:Int).toNat.toUInt8=c by simp] at hcon;exact hcon.mono fun e w' ⟨he,hw⟩=>⟨_,he,by rw [hw];exact Grew.refl _,.v _⟩
end Go.Proofs.YtpboiimemmfkiaaGreatDoor
namespace Go.Proofs.YtpboiimemmfkiaaGreatDoor
open Go.Av
theorem bs_extract (t:List UInt8) (i j:Nat):(bs t).extract i j=bs ((t.drop i).take (j - i)):=ByteArray.ext (by
 rw [ByteArray.data_extract];unfold bs
 apply Array.toList_inj.1
 simp [List.take_drop,List.extract])
theorem set11_lit:(⟨#[32,38,124,33,94,126,40,41,48,49,61]⟩:ByteArray)=bs set11:=rfl
def tupW:Rs (List UInt8)→D
 | .ok s _=>.tup [dS s,.v .nilIface]
 | .err c p _=>.tup [dS [],dErr (some (c,some p))]
def posR {α:Type}:Rs α→Nat
 | .ok _ i=>i
 | .err _ p _=>p
theorem mem11 (c:UInt8):c∈set11↔(isSgn c=true∨c=48∨c=49):=by
 simp only [set11,isSgn,List.mem_cons,List.not_mem_nil,or_false,List.contains_iff_mem]
 constructor
 ·rintro (h | h | h | h | h | h | h | h | h | h | h)<;>simp [h]
 ·rintro ((h | h | h | h | h | h | h | h | h) | h | h)<;>simp [h]
def AtW (t:List UInt8) (j k:Nat):Prop:=k=j∨(j < k∧headOk t j=true∧tailEnd t (j+1)=tailEnd t k)
theorem atW_exit {t:List UInt8} {j k:Nat} (h:AtW t j k) (hk:k≤t.length) (hstop:∀ hk:k < t.length,t[k]∈set11∧(j < k→t[k]≠48∧t[k]≠49)):k=wEnd t j:=by
 unfold wEnd
 rcases h with rfl | ⟨hjk,hh,he⟩
 ·by_cases hk':k < t.length
  ·have:=(mem11 _).1 (hstop hk').1
   have hno:headOk t k=false:=by
    unfold headOk;rw [List.getElem?_eq_getElem hk']
    rcases this with h | h | h<;>simp [h]
   rw [hno];rfl
  ·have hno:headOk t k=false:=by
    unfold headOk;rw [List.getElem?_eq_none (by omega)]
   rw [hno];rfl
 ·rw [hh,if_pos rfl,he,tail_stop]
  intro hk'
  obtain ⟨h1,h2⟩:=hstop hk'
  rcases (mem11 _).1 h1 with h | h | h
  ·exact h
  ·exact absurd h (h2 hjk).1
  ·exact absurd h (h2 hjk).2
theorem atW_next {t:List UInt8} {j k:Nat} (h:AtW t j k) (hk:k < t.length) (hgo:t[k] ∉ set11∨(j < k∧(t[k]=48∨t[k]=49))):AtW t j (k+1):=by
 have hs:isSgn t[k]=false:=by
  rcases hgo with h | ⟨_,h⟩
  ·cases hc:isSgn t[k] with
   | false=>rfl
   | true=>exact absurd ((mem11 _).2 (.inl hc)) h
  ·rcases h with h | h<;>rw [h]<;>rfl
 right
 rcases h with rfl | ⟨hjk,hh,he⟩
 ·refine ⟨by omega,?_,rfl⟩
  rcases hgo with h | ⟨h,_⟩
  ·have h1:t[k]≠48:=fun e=>h ((mem11 _).2 (.inr (.inl e)))
   have h2:t[k]≠49:=fun e=>h ((mem11 _).2 (.inr (.inr e)))
   unfold headOk;rw [List.getElem?_eq_getElem hk];simp [hs,h1,h2]
  ·omega
 ·refine ⟨by omega,hh,?_⟩;rw [he,tail_step hk hs]
set_option maxHeartbeats 8000000 in
theorem word_spec (G:Glob) (t:List UInt8) (q i:Nat) (ht:t.length < 2^60) (hi:i≤t.length) :
  MC Tryz.prog G [500] 319 [.ref 500 0 0] (hlst (rRow t i)) (.d (tupW (wordR t q i))) (hlst (rRow t (posR (wordR t q i)))):=by
 have hbl:=blanks_spec G t i ht hi
 have htop:=skipB_top hi
 have hidem:=skipB_idem hi
 unfold wordR;generalize skipB t i=j at hbl htop hidem ⊢
 have hf3:=fail_spec G t j ht htop 3
 have hf5:=fail_spec G t j ht htop 5
 rw [hidem] at hf3 hf5
 have hel:=wEnd_le t j
 have het:=wEnd_top htop
 have hws:(t.drop j).take (wEnd t j - j)=wordS t j:=rfl
 have hslen:(wordS t j).length < 2^60:=by
  rw [← hws,List.length_take,List.length_drop];omega
 have hname:=name_spec G (wordS t j) hslen
 refine MC.of_body (tyOf_good _) Tryz.func319 rfl rfl (rs:=[.tmp 2,.tmp 3]) Tryz.results319 (by simp [Tryz.ntmps319]) rfl fun X=>?_;simp only [Tryz.ntmps319]
 have fw:=(Aq @dNum.eq_1 (Aq @rRow.eq_1 (Aq @rdr.eq_1 @dS.eq_1)))
 refine rgq fw [0] [500] ?_;refine rgm fw hbl [0] [500] ?_;refine rgq fw [0,4] [500] ?_;refine AW_then fun K1 hK1=>?_;refine AW_for (S:=Nat) (fun k=>j≤k∧k≤t.length∧AtW t j k) (fun k=>⟨lst [(0,.ref 500 0 0),(4,int k)],hlst [(500,.box 362 [.d (dS t),int j])]⟩) (fun k=>t.length - k) j ?_ ⟨Nat.le_refl _,htop,.inl rfl⟩ ?_
 ·refine Imp.to' (notIn_ok rfl) (by simp [dNum,rRow,rdr,dS]) (by simp [dNum,rRow,rdr,dS])
 ·rintro k ⟨hjk,hk,hat⟩
  refine AW_then fun K2 hK2=>?_
  refine (fun hgo hstop=>?_) (fun (σ:St) (hn:AtW t j (k+1)) (hkl:k < t.length) himp=>hK2 σ (AW.imp (τ:=⟨lst [(0,.ref 500 0 0),(4,int k)],hlst [(500,.box 362 [.d (dS t),int j])]⟩) himp ?_))
   (fun (σ:St) (he:k=wEnd t j) himp=>hK1 σ (AW.imp (τ:=⟨lst [(0,.ref 500 0 0),(4,int k)],hlst [(500,.box 362 [.d (dS t),int j])]⟩) himp ?_))
  ·by_cases hkl:k < t.length
   ·have hix:=ixb_spec G set11 t[k]
    have hix2:=ixb_neg set11 t[k]
    by_cases hm:t[k]∈set11
    ·have hix3:¬ Lib.indexByte set11 t[k] < 0:=fun h=>hix2.1 h hm
     by_cases hjk':j < k
     ·have hjk2:(j:Int) < (k:Int):=by omega
      by_cases h48:((t[k]).toNat:Int)=48
      ·have hc:t[k]=48:=(u8_eq _ 48 (by decide)).1 h48
       have qf:=(Aq fw (Aq @bs_size (Aq @bs_data (Aq @set11_lit (Aq @hkl (Aq @hix3 (Aq @hjk2 (Aq @hjk' @h48))))))))
       refine rgcv hix [0,4,63] [500] ?_;refine AW_tt rfl ?_;refine AW_skip (hgo _ (atW_next hat hkl (.inr ⟨hjk',.inl hc⟩)) hkl ?_);refine Imp.to' (notIn_ok rfl) (by simp [dNum,rRow,rdr,dS]) (by simp [dNum,rRow,rdr,dS])
      ·by_cases h49:((t[k]).toNat:Int)=49
       ·have hc:t[k]=49:=(u8_eq _ 49 (by decide)).1 h49
        have qf:=(Aq fw (Aq @bs_size (Aq @bs_data (Aq @set11_lit (Aq @hkl (Aq @hix3 (Aq @hjk2 (Aq @hjk' (Aq @h48 @h49)))))))))
        refine rgcv hix [0,4,63] [500] ?_;refine AW_tt rfl ?_;refine AW_skip (hgo _ (atW_next hat hkl (.inr ⟨hjk',.inr hc⟩)) hkl ?_);refine Imp.to' (notIn_ok rfl) (by simp [dNum,rRow,rdr,dS]) (by simp [dNum,rRow,rdr,dS])
       ·have qf:=(Aq fw (Aq @bs_size (Aq @bs_data (Aq @set11_lit (Aq @hkl (Aq @hix3 (Aq @hjk2 (Aq @hjk' (Aq @h48 @h49)))))))))
        refine rgcv hix [0,4,63] [500] ?_;refine AW_ff rfl ?_;refine AW_exit (hstop _ (atW_exit hat hk fun _=>⟨hm,fun _=>⟨fun e=>h48 (by rw [e];rfl),fun e=>h49 (by rw [e];rfl)⟩⟩) ?_);refine Imp.to' (notIn_ok rfl) (by simp [dNum,rRow,rdr,dS]) (by simp [dNum,rRow,rdr,dS])
     ·have hjk2:¬ (j:Int) < (k:Int):=by omega
      have qf:=(Aq fw (Aq @bs_size (Aq @bs_data (Aq @set11_lit (Aq @hkl (Aq @hix3 (Aq @hjk2 @hjk')))))))
      refine rgcv hix [0,4,63] [500] ?_;refine AW_ff rfl ?_;refine AW_exit (hstop _ (atW_exit hat hk fun _=>⟨hm,fun h=>absurd h hjk'⟩) ?_);refine Imp.to' (notIn_ok rfl) (by simp [dNum,rRow,rdr,dS]) (by simp [dNum,rRow,rdr,dS])
    ·have hix3:Lib.indexByte set11 t[k] < 0:=hix2.2 hm
     have qf:=(Aq fw (Aq @bs_size (Aq @bs_data (Aq @set11_lit (Aq @hkl @hix3)))))
     refine rgcv hix [0,4,63] [500] ?_;refine AW_tt rfl ?_;refine AW_skip (hgo _ (atW_next hat hkl (.inl hm)) hkl ?_);refine Imp.to' (notIn_ok rfl) (by simp [dNum,rRow,rdr,dS]) (by simp [dNum,rRow,rdr,dS])
   ·obtain rfl:k=t.length:=by omega
    by_cases hjk':j < t.length
    ·have hjk2:(j:Int) < (t.length:Int):=by omega
     have qf:=(Aq fw (Aq @bs_size (Aq @bs_data (Aq @set11_lit (Aq @hjk2 @hjk')))))
     refine rgqv [0,4,63] [500] ?_;refine AW_ff rfl ?_;refine AW_exit (hstop _ (atW_exit hat hk fun h=>absurd h hkl) ?_);refine Imp.to' (notIn_ok rfl) (by simp [dNum,rRow,rdr,dS]) (by simp [dNum,rRow,rdr,dS])
    ·have hjk2:¬ (j:Int) < (t.length:Int):=by omega
     have qf:=(Aq fw (Aq @bs_size (Aq @bs_data (Aq @set11_lit (Aq @hjk2 @hjk')))))
     refine rgqv [0,4,63] [500] ?_;refine AW_ff rfl ?_;refine AW_exit (hstop _ (atW_exit hat hk fun h=>absurd h hkl) ?_);refine Imp.to' (notIn_ok rfl) (by simp [dNum,rRow,rdr,dS]) (by simp [dNum,rRow,rdr,dS])
  ·refine AW_block ?_;refine AW_re (tyOf_good _) fun K' hK'=>?_;(repeat (refine sxn fun K2 hK2=>?_;simp [dNum,rRow,rdr,dS];(repeat (refine ⟨by omega,?_⟩));refine hK2 _ ?_;clear hK2 K2));refine sxz (hK' _ ?_);clear hK' K';(try simp only [thn,inb]);refine Again.mk (k+1) ⟨by omega,by omega,hn⟩ (by omega) ?_;refine Imp.to' (notIn_ok rfl) (by simp [dNum,rRow,rdr,dS]) (by simp [dNum,rRow,rdr,dS])
  ·subst he;clear hK1 hK2
   have hws2:List.take (wEnd t j - j) (List.drop j t)=wordS t j:=hws
   have qf:=(Aq fw (Aq @bs_size (Aq @bs_extract (Aq @hel (Aq @het @hws2)))))
   refine rdqv [0,4,5] [500] ?_;refine AW_then fun K3 hK3=>?_
   by_cases hs:wordS t j=[]
   ·refine rg [0,4,5,77] [500] (notIn_ok rfl) fun K' hK'=>?_;(repeat (refine sxn fun K2 hK2=>?_;simp [dNum,rRow,rdr,dS,hs,bs_nil,bs_list,binS];(repeat (refine ⟨by omega,?_⟩));refine hK2 _ ?_;clear hK2 K2));refine sxz (hK' _ (AW.st (by simp [dNum,rRow,rdr,dS,hs,bs_nil,bs_list,binS];rfl) ?_));clear hK' K';refine AW_tt rfl ?_;refine rgm (Aq fw (Aq @dErr.eq_1 (Aq @dErr.eq_2 @dErr.eq_3))) hf3 [2,3] [500] ?_;refine AW_ret ?_;simp [D.le,D.le.go,takeMap,dNum,rRow,rdr,dS,rRow,rdr,tupW,posR,dErr,bs_nil,hs]
   ·have hse:(wordS t j == [])=false:=by simpa using hs
    have hse2:(wordS t j).isEmpty=false:=by rw [List.isEmpty_eq_false_iff];exact hs
    refine rg [0,4,5,77] [500] (notIn_ok rfl) fun K' hK'=>?_;(repeat (refine sxn fun K2 hK2=>?_;simp [dNum,rRow,rdr,dS,bs_nil,bs_list,binS,hs,hse,hse2];(repeat (refine ⟨by omega,?_⟩));refine hK2 _ ?_;clear hK2 K2));refine sxz (hK' _ (AW.st (by simp [dNum,rRow,rdr,dS,bs_nil,bs_list,binS,hs,hse,hse2];rfl) ?_));clear hK' K';refine AW_ff rfl ?_;refine AW_skip (hK3 _ ?_);refine AW_then fun K4 hK4=>?_
    cases hn:nameF (wordS t j) with
    | false=>
     rw [hn] at hname;refine rgc fw hname [0,4,5,82] [500] ?_;refine AW_tt rfl ?_;refine rgm (Aq fw (Aq @dErr.eq_1 (Aq @dErr.eq_2 @dErr.eq_3))) hf5 [2,3] [500] ?_;refine AW_ret ?_;simp [D.le,D.le.go,takeMap,dNum,rRow,rdr,dS,rRow,rdr,tupW,posR,dErr,bs_nil,hs,hn]
    | true=>
     rw [hn] at hname;refine rgc fw hname [0,4,5,82] [500] ?_;refine AW_ff rfl ?_;refine AW_skip (hK4 _ ?_);refine rgq fw [5] [500] ?_;refine rgq fw [2,3] [500] ?_;refine AW_ret ?_;simp [D.le,D.le.go,takeMap,dNum,rRow,rdr,dS,rRow,rdr,tupW,posR,hs,hn]
end Go.Proofs.YtpboiimemmfkiaaGreatDoor
namespace Go.Proofs.YtpboiimemmfkiaaGreatDoor
theorem sev_fuel {α:Type} {t:List UInt8} {s:UInt8} {f:Nat→Rs α} (hf:Goes t f):∀ (n m i:Nat) (acc:List α),i≤t.length→t.length+1 - i≤n→t.length+1 - i≤m→sevR t s f n i acc=sevR t s f m i acc
 | 0,_,i,_,hi,h,_=>by omega
 | _+1,0,i,_,hi,_,h=>by omega
 | n+1,m+1,i,acc,hi,h1,h2=>by
  rw [sevR,sevR]
  cases hfi:f i with
  | err c p q=>rfl
  | ok x j=>
   obtain ⟨g1,g2⟩:=hf i x j hi hfi
   obtain ⟨t1,t2,t3⟩:=take_goes (c:=s) g2
   dsimp only
   split
   ·exact sev_fuel hf n m _ _ t2 (by omega) (by omega)
   ·rfl
def sevA {α:Type} (t:List UInt8) (s:UInt8) (f:Nat→Rs α) (i:Nat) (acc:List α):Rs (List α):=sevR t s f (t.length+1 - i) i acc
theorem sev_step {α:Type} {t:List UInt8} {s:UInt8} {f:Nat→Rs α} (hf:Goes t f) {i:Nat} (hi:i≤t.length) (acc:List α):sevA t s f i acc=match f i with
  | .err c p _=>.err c p 0
  | .ok x j=>if (takeM t s j).1 then sevA t s f (takeM t s j).2 (acc ++ [x]) else .ok (acc ++ [x]) (takeM t s j).2:=by
 unfold sevA
 obtain ⟨n,hn⟩:∃ n,t.length+1 - i=n+1:=⟨t.length - i,by omega⟩
 rw [hn,sevR]
 cases hfi:f i with
 | err c p q=>rfl
 | ok x j=>
  obtain ⟨g1,g2⟩:=hf i x j hi hfi
  obtain ⟨t1,t2,t3⟩:=take_goes (c:=s) g2
  dsimp only
  split
  ·exact sev_fuel hf _ _ _ _ t2 (by omega) (by omega)
  ·rfl
theorem sev_q {α:Type} {t:List UInt8} {s:UInt8} {f:Nat→Rs α}:∀ (n i:Nat) (acc:List α) {c:Int} {p q:Nat},sevR t s f n i acc = .err c p q→q=0
 | 0,_,_,_,_,_,h=>by simp only [sevR,Rs.err.injEq] at h;omega
 | n+1,i,acc,c,p,q,h=>by
  rw [sevR] at h
  split at h
  ·simp only [Rs.err.injEq] at h;omega
  ·split at h
   ·exact sev_q n _ _ h
   ·cases h
theorem colA_ne {l:List Ex} (h:l.length≠1):colA l = .and l:=by
 match l,h with
 | [],_=>rfl
 | [_],h=>exact absurd rfl h
 | _ :: _ :: _,_=>rfl
theorem colO_ne {l:List Ex} (h:l.length≠1):colO l = .or l:=by
 match l,h with
 | [],_=>rfl
 | [_],h=>exact absurd rfl h
 | _ :: _ :: _,_=>rfl
end Go.Proofs.YtpboiimemmfkiaaGreatDoor
namespace Go.Proofs.YtpboiimemmfkiaaGreatDoor
open Go.Av
mutual
def dE:Ex→D
 | .cst b=>.ifc 162 (.v (.bool b))
 | .bit s=>.ifc 147 (dS s)
 | .rise s=>.ifc 159 (dS s)
 | .fall s=>.ifc 161 (dS s)
 | .not e=>.ifc 149 (.agg [dE e])
 | .and l=>.ifc 157 (.sl none (dEs l))
 | .or l=>.ifc 158 (.sl none (dEs l))
def dEs:List Ex→List (List D)
 | []=>[]
 | e :: l=>[dE e] :: dEs l
end
theorem dEs_map:∀ l:List Ex,dEs l=l.map fun e=>[dE e]
 | []=>rfl
 | e :: l=>by rw [dEs,dEs_map l];rfl
theorem dE_ifc (e:Ex):∃ t y,dE e = .ifc t y:=by
 cases e<;>simp only [dE]<;>exact ⟨_,_,rfl⟩
def dEl (l:List Ex):D:=.sl none (l.map fun e=>[dE e])
def dQ (q:Nat):D:=if q=1 then .ifc 159 (dS []) else if q=2 then .ifc 161 (dS []) else if q=3 then .ifc 147 (dS []) else .v .nilIface
def tupX:Rs Ex→D
 | .ok x _=>.tup [dE x,.v .nilIface]
 | .err c p q=>.tup [dQ q,dErr (some (c,some p))]
def tupL:Rs (List Ex)→D
 | .ok l _=>.tup [dEl l,.v .nilIface]
 | .err c p _=>.tup [.sl (some false) [],dErr (some (c,some p))]
set_option maxHeartbeats 8000000 in
theorem several_spec (G:Glob) (t:List UInt8) (ht:t.length≤2000) (g:FuncId) (s:UInt8) (sn:Int) (hsn:(s.toNat:Int)=sn) (d:Int) (f:Nat→Rs Ex) (hf:Goes t f)
  (hcall:∀ i,i≤t.length→MC Tryz.prog G [500] g [.ref 500 0 0,.d (dNum d)] (hlst (rRow t i)) (.d (tupX (f i))) (hlst (rRow t (posR (f i))))) (i:Nat) (hi:i≤t.length) :
  MC Tryz.prog G [500] 294 [.ref 500 0 0,.d (.v (.int .u8 sn)),.d (dNum d),.bm g (.ref 500 0 0)] (hlst (rRow t i)) (.d (tupL (sevA t s f i []))) (hlst (rRow t (posR (sevA t s f i [])))):=by
 generalize hR:sevA t s f i []=R;refine MC.of_body (tyOf_good _) Tryz.func294 rfl rfl (rs:=[.tmp 8,.tmp 9]) Tryz.results294 (by simp [Tryz.ntmps294]) rfl fun X=>?_;simp only [Tryz.ntmps294]
 have fw:=(Aq @dNum.eq_1 (Aq @rRow.eq_1 (Aq @rdr.eq_1 @dS.eq_1)))
 refine rgq fw [0,1,2,3] [500] ?_;refine rgq fw [0,1,2,3,10] [500] ?_;refine AW_for (S:=Nat×List Ex) (fun z=>z.1≤t.length∧z.2.length≤z.1∧sevA t s f z.1 z.2=R) (fun z=>⟨lst [(0,.ref 500 0 0),(1,.d (.v (.int .u8 sn))),(2,.d (dNum d)),(3,.bm g (.ref 500 0 0)),(10,.own 300 0 z.2.length)],hlst [(500,.box 362 [.d (dS t),int z.1]),(300,.sl 43 1 (z.2.map fun e=>[dE e]))]⟩) (fun z=>t.length - z.1) (i,[]) ?_ ⟨hi,by simp,hR⟩ ?_
 ·refine (Imp.adopt 10 300 43 1 rfl rfl).trans ?_;refine Imp.to' (notIn_ok rfl) (by simp [dNum,rRow,rdr,dS]) (by simp [dNum,rRow,rdr,dS])
 ·rintro ⟨k,acc⟩ ⟨hk,hacc,hs⟩
  dsimp only at hk hacc hs ⊢
  have hc:=hcall k hk
  rw [sev_step hf hk] at hs;refine AW_block ?_
  cases hfk:f k with
  | err c p q=>
   rw [hfk] at hc hs
   dsimp only at hs
   subst hs;refine rgm (Aq fw (Aq @tupX.eq_1 (Aq @tupX.eq_2 (Aq @dErr.eq_1 (Aq @dErr.eq_2 @dErr.eq_3))))) hc [0,1,2,3,10,11,12] [500,300] ?_;refine AW_then fun K1 hK1=>?_;refine rgq fw [0,1,2,3,10,11,12,20] [500,300] ?_;refine AW_tt rfl ?_;refine rgq fw [8,9] [500] ?_;refine AW_ret ?_;simp [D.le,D.le.go,takeMap,dNum,rRow,rdr,dS,rRow,rdr,tupL,posR,dErr]
  | ok x j=>
   rw [hfk] at hc hs
   dsimp only at hs
   obtain ⟨g1,g2⟩:=hf k x j hk hfk
   have htk:=take_spec G t j (by omega) g2 s
   rw [hsn] at htk
   obtain ⟨t1,t2,t3⟩:=take_goes (c:=s) g2
   obtain ⟨tx,cx,hx⟩:=dE_ifc x
   have qf:=(Aq fw (Aq @tupX.eq_1 (Aq @tupX.eq_2 (Aq @posR.eq_1 (Aq @posR.eq_2 @hx)))))
   refine rgmv hc [0,1,2,3,10,11,12] [500,300] ?_;refine AW_then fun K1 hK1=>?_;refine rgq fw [0,1,2,3,10,11,12,20] [500,300] ?_;refine AW_ff rfl ?_;refine AW_skip (hK1 _ ?_);refine rg [0,1,2,3,10] [500,300] (notIn_ok rfl) fun K' hK'=>?_;(repeat (refine sxn fun K2 hK2=>?_;simp [dNum,rRow,rdr,dS,List.take_of_length_le];(repeat (refine ⟨by omega,?_⟩));refine hK2 _ ?_;clear hK2 K2));refine sxz (hK' _ (AW.st (by simp [dNum,rRow,rdr,dS,List.take_of_length_le];rfl) ?_));clear hK' K'
   cases htm:takeM t s j with
   | mk b k2=>
   rw [htm] at hs htk t1 t2 t3
   dsimp only at hs htk t1 t2 t3
   cases b with
   | true=>
    rw [if_pos rfl] at hs
    have hlt:=t3 rfl
    refine rgm fw htk [0,1,2,3,10,29] [500,300] ?_;refine AW_ff rfl ?_;refine AW_skip ?_;refine Again.mk (k2,acc ++ [x]) ⟨t2,by simp;omega,hs⟩ (by dsimp only;omega) ?_;refine Imp.to' (notIn_ok rfl) (by simp [dNum,rRow,rdr,dS,hx]) (by simp [dNum,rRow,rdr,dS,hx])
   | false=>
    rw [if_neg (by simp)] at hs;subst hs;refine rgm fw htk [0,1,2,3,10,29] [500,300] ?_;refine AW_tt rfl ?_;refine AW.imp (Imp.freeze 300 (by decide)) ?_;refine AW.st (by simp [dNum,rRow,rdr,dS];rfl) ?_;refine rgq fw [8,9] [500] ?_;refine AW_ret ?_;simp [D.le,D.le.go,takeMap,dNum,rRow,rdr,dS,rRow,rdr,tupL,dEl,posR,hx,D.le_refl,D.leGo_refl]
set_option maxHeartbeats 8000000 in
theorem and_spec (G:Glob) (t:List UInt8) (ht:t.length≤2000) (d:Nat) (hone:∀ i,i≤t.length→MC Tryz.prog G [500] 314 [.ref 500 0 0,.d (dNum d)] (hlst (rRow t i)) (.d (tupX (oneR t d i))) (hlst (rRow t (posR (oneR t d i))))) (i:Nat) (hi:i≤t.length) :
  MC Tryz.prog G [500] 295 [.ref 500 0 0,.d (dNum d)] (hlst (rRow t i)) (.d (tupX (andR t (oneR t d) i))) (hlst (rRow t (posR (andR t (oneR t d) i)))):=by
 have hsv:=several_spec G t ht 314 38 38 rfl d (oneR t d) (one_goes t d) hone i hi
 have hR:andR t (oneR t d) i=(sevA t 38 (oneR t d) i []).map colA:=rfl
 rw [hR]
 have hq:∀ {c:Int} {p q:Nat},sevA t 38 (oneR t d) i [] = .err c p q→q=0:=fun h=>sev_q _ _ _ h
 cases hs:sevA t 38 (oneR t d) i [] with
 | err c p q=>
  obtain rfl:=hq hs
  rw [hs] at hsv;refine MC.of_body (tyOf_good _) Tryz.func295 rfl rfl (rs:=[.tmp 4,.tmp 5]) Tryz.results295 (by simp [Tryz.ntmps295]) rfl fun X=>?_;simp only [Tryz.ntmps295]
  have fw:=(Aq @dNum.eq_1 (Aq @rRow.eq_1 (Aq @rdr.eq_1 @dS.eq_1)))
  refine rgq fw [0,1] [500] ?_;refine rgm (Aq fw (Aq @tupL.eq_1 (Aq @tupL.eq_2 (Aq @dErr.eq_1 (Aq @dErr.eq_2 @dErr.eq_3))))) hsv [6,7] [500] ?_;refine AW_then fun K1 hK1=>?_;refine rgq fw [6,7,17] [500] ?_;refine AW_tt rfl ?_;refine rgq fw [4,5] [500] ?_;refine AW_ret ?_;simp [D.le,D.le.go,takeMap,dNum,rRow,rdr,dS,rRow,rdr,tupX,posR,dErr,Rs.map,dQ]
 | ok l p=>
  rw [hs] at hsv
  by_cases hl:l.length=1
  ·obtain ⟨x,rfl⟩:=List.length_eq_one_iff.1 hl
   obtain ⟨tx,cx,hx⟩:=dE_ifc x
   refine MC.of_body (tyOf_good _) Tryz.func295 rfl rfl (rs:=[.tmp 4,.tmp 5]) Tryz.results295 (by simp [Tryz.ntmps295]) rfl fun X=>?_;simp only [Tryz.ntmps295]
   have fw:=(Aq @dNum.eq_1 (Aq @rRow.eq_1 (Aq @rdr.eq_1 @dS.eq_1)))
   refine rgq fw [0,1] [500] ?_
   have qf:=(Aq fw (Aq @tupL.eq_1 (Aq @tupL.eq_2 (Aq @dEl.eq_1 @hx))))
   refine rgmv hsv [6,7] [500] ?_;refine AW_then fun K1 hK1=>?_;refine rgq fw [6,7,17] [500] ?_;refine AW_ff rfl ?_;refine AW_skip (hK1 _ ?_);refine AW_then fun K2 hK2=>?_;refine rgq fw [6,21] [500] ?_;refine AW_tt rfl ?_;refine rgq fw [4,5] [500] ?_;refine AW_ret ?_;simp [D.le,D.le.go,takeMap,dNum,rRow,rdr,dS,rRow,rdr,tupX,posR,Rs.map,colA,hx,D.le_refl]
  ·have hl':¬ (l.length:Int)=1:=by omega
   have hcol:=colA_ne hl
   refine MC.of_body (tyOf_good _) Tryz.func295 rfl rfl (rs:=[.tmp 4,.tmp 5]) Tryz.results295 (by simp [Tryz.ntmps295]) rfl fun X=>?_;simp only [Tryz.ntmps295]
   have fw:=(Aq @dNum.eq_1 (Aq @rRow.eq_1 (Aq @rdr.eq_1 @dS.eq_1)))
   refine rgq fw [0,1] [500] ?_;refine rgm (Aq fw (Aq @tupL.eq_1 (Aq @tupL.eq_2 @dEl.eq_1))) hsv [6,7] [500] ?_;refine AW_then fun K1 hK1=>?_;refine rgq fw [6,7,17] [500] ?_;refine AW_ff rfl ?_;refine AW_skip (hK1 _ ?_);refine AW_then fun K2 hK2=>?_
   have qf:=(Aq fw (Aq @hl @hl'))
   refine rgqv [6,21] [500] ?_;refine AW_ff rfl ?_;refine AW_skip (hK2 _ ?_);refine rgq fw [4,5] [500] ?_;refine AW_ret ?_;simp [D.le,D.le.go,takeMap,dNum,rRow,rdr,dS,rRow,rdr,tupX,posR,Rs.map,hcol,dE,dEs_map,D.le_refl,D.leGo_refl]
set_option maxHeartbeats 8000000 in
theorem or_spec (G:Glob) (t:List UInt8) (ht:t.length≤2000) (d:Nat) (hone:∀ i,i≤t.length→MC Tryz.prog G [500] 314 [.ref 500 0 0,.d (dNum d)] (hlst (rRow t i)) (.d (tupX (oneR t d i))) (hlst (rRow t (posR (oneR t d i))))) (i:Nat) (hi:i≤t.length) :
  MC Tryz.prog G [500] 266 [.ref 500 0 0,.d (dNum d)] (hlst (rRow t i)) (.d (tupX (orR t (oneR t d) i))) (hlst (rRow t (posR (orR t (oneR t d) i)))):=by
 have hsv:=several_spec G t ht 295 124 124 rfl d (andR t (oneR t d)) (and_goes (one_goes t d)) (and_spec G t ht d hone) i hi
 have hR:orR t (oneR t d) i=(sevA t 124 (andR t (oneR t d)) i []).map colO:=rfl
 rw [hR]
 have hq:∀ {c:Int} {p q:Nat},sevA t 124 (andR t (oneR t d)) i [] = .err c p q→q=0:=fun h=>sev_q _ _ _ h
 cases hs:sevA t 124 (andR t (oneR t d)) i [] with
 | err c p q=>
  obtain rfl:=hq hs
  rw [hs] at hsv;refine MC.of_body (tyOf_good _) Tryz.func266 rfl rfl (rs:=[.tmp 4,.tmp 5]) Tryz.results266 (by simp [Tryz.ntmps266]) rfl fun X=>?_;simp only [Tryz.ntmps266]
  have fw:=(Aq @dNum.eq_1 (Aq @rRow.eq_1 (Aq @rdr.eq_1 @dS.eq_1)))
  refine rgq fw [0,1] [500] ?_;refine rgm (Aq fw (Aq @tupL.eq_1 (Aq @tupL.eq_2 (Aq @dErr.eq_1 (Aq @dErr.eq_2 @dErr.eq_3))))) hsv [6,7] [500] ?_;refine AW_then fun K1 hK1=>?_;refine rgq fw [6,7,17] [500] ?_;refine AW_tt rfl ?_;refine rgq fw [4,5] [500] ?_;refine AW_ret ?_;simp [D.le,D.le.go,takeMap,dNum,rRow,rdr,dS,rRow,rdr,tupX,posR,dErr,Rs.map,dQ]
 | ok l p=>
  rw [hs] at hsv
  by_cases hl:l.length=1
  ·obtain ⟨x,rfl⟩:=List.length_eq_one_iff.1 hl
   obtain ⟨tx,cx,hx⟩:=dE_ifc x
   refine MC.of_body (tyOf_good _) Tryz.func266 rfl rfl (rs:=[.tmp 4,.tmp 5]) Tryz.results266 (by simp [Tryz.ntmps266]) rfl fun X=>?_;simp only [Tryz.ntmps266]
   have fw:=(Aq @dNum.eq_1 (Aq @rRow.eq_1 (Aq @rdr.eq_1 @dS.eq_1)))
   refine rgq fw [0,1] [500] ?_
   have qf:=(Aq fw (Aq @tupL.eq_1 (Aq @tupL.eq_2 (Aq @dEl.eq_1 @hx))))
   refine rgmv hsv [6,7] [500] ?_;refine AW_then fun K1 hK1=>?_;refine rgq fw [6,7,17] [500] ?_;refine AW_ff rfl ?_;refine AW_skip (hK1 _ ?_);refine AW_then fun K2 hK2=>?_;refine rgq fw [6,21] [500] ?_;refine AW_tt rfl ?_;refine rgq fw [4,5] [500] ?_;refine AW_ret ?_;simp [D.le,D.le.go,takeMap,dNum,rRow,rdr,dS,rRow,rdr,tupX,posR,Rs.map,colO,hx,D.le_refl]
  ·have hl':¬ (l.length:Int)=1:=by omega
   have hcol:=colO_ne hl
   refine MC.of_body (tyOf_good _) Tryz.func266 rfl rfl (rs:=[.tmp 4,.tmp 5]) Tryz.results266 (by simp [Tryz.ntmps266]) rfl fun X=>?_;simp only [Tryz.ntmps266]
   have fw:=(Aq @dNum.eq_1 (Aq @rRow.eq_1 (Aq @rdr.eq_1 @dS.eq_1)))
   refine rgq fw [0,1] [500] ?_;refine rgm (Aq fw (Aq @tupL.eq_1 (Aq @tupL.eq_2 @dEl.eq_1))) hsv [6,7] [500] ?_;refine AW_then fun K1 hK1=>?_;refine rgq fw [6,7,17] [500] ?_;refine AW_ff rfl ?_;refine AW_skip (hK1 _ ?_);refine AW_then fun K2 hK2=>?_
   have qf:=(Aq fw (Aq @hl @hl'))
   refine rgqv [6,21] [500] ?_;refine AW_ff rfl ?_;refine AW_skip (hK2 _ ?_);refine rgq fw [4,5] [500] ?_;refine AW_ret ?_;simp [D.le,D.le.go,takeMap,dNum,rRow,rdr,dS,rRow,rdr,tupX,posR,Rs.map,hcol,dE,dEs_map,D.le_refl,D.leGo_refl]
end Go.Proofs.YtpboiimemmfkiaaGreatDoor
namespace Go.Proofs.YtpboiimemmfkiaaGreatDoor
def Five {α:Type} (sz:α→Nat) (t:List UInt8) (f:Nat→Rs α):Prop:=∀ i x j,i≤t.length→f i = .ok x j→sz x≤5 * (j - i)
end Go.Proofs.YtpboiimemmfkiaaGreatDoor
namespace Go.Proofs.YtpboiimemmfkiaaGreatDoor
def Has (t:List UInt8) (p:Nat) (w:List UInt8):Prop:=∀ k,k < w.length→t[p+k]? = w[k]?
theorem Has.cons {t:List UInt8} {p:Nat} {c:UInt8} {w:List UInt8} (h:Has t p (c :: w)):t[p]? = some c∧Has t (p+1) w:=by
 refine ⟨by simpa using h 0 (by simp),fun k hk=>?_⟩
 have:=h (k+1) (by simp;omega)
 rw [show p+1+k=p+(k+1) by omega,this]
 rfl
theorem Has.app {t:List UInt8} {p:Nat} {u v:List UInt8} (h:Has t p (u ++ v)):Has t p u∧Has t (p+u.length) v:=by
 constructor
 ·intro k hk
  rw [h k (by simp;omega),List.getElem?_append_left hk]
 ·intro k hk
  rw [show p+u.length+k=p+(u.length+k) by omega,h (u.length+k) (by simp;omega),List.getElem?_append_right (by omega)]
  congr 1
  omega
theorem Has.top {t:List UInt8} {p:Nat} {w:List UInt8} (h:Has t p w) (hp:p≤t.length):p+w.length≤t.length:=by
 cases w with
 | nil=>simpa using hp
 | cons c w=>
  have h1:=h w.length (by simp)
  have h2:(c :: w)[w.length]?≠none:=by simp
  rw [← h1] at h2
  have h3:p+w.length < t.length:=by
   apply Classical.byContradiction
   intro hn
   exact h2 (List.getElem?_eq_none (by omega))
  simp only [List.length_cons]
  omega
theorem name_facts {s:List UInt8} (h:nameF s=true):s≠[]∧s.length≤8∧(∀ c∈s,isSgn c=false)∧∀ c,s[0]? = some c→isSgn c=false∧c≠48∧c≠49∧97≤c.toNat:=by
 unfold nameF at h;simp only [Bool.and_eq_true,decide_eq_true_eq,trim_nil] at h
 obtain ⟨h1,h2,h3,h4,h5,-⟩:=h
 have hs:∀ c:UInt8,cutL.contains c=true→isSgn c=false:=by
  have h:∀ n:Fin 256,cutL.contains (UInt8.ofNat n)=true→isSgn (UInt8.ofNat n)=false:=by decide +kernel
  intro c
  have:=h ⟨c.toNat,c.toNat_lt⟩
  simpa using this
 refine ⟨h1,h2,fun c hc=>hs c (h5 c hc),fun c hc=>?_⟩
 have hm:c∈s:=List.mem_of_getElem? hc
 have hg:s.getD 0 0=c:=by rw [List.getD_eq_getElem?_getD,hc];rfl
 rw [hg] at h3;refine ⟨hs c (h5 c hm),?_,?_,h3⟩<;>rintro rfl<;>revert h3<;>decide
def StopAt (t:List UInt8) (e:Nat):Prop:=∀ c,t[e]? = some c→isSgn c=true
theorem tail_run {t:List UInt8}:∀ (w:List UInt8) (k:Nat),Has t k w→(∀ c∈w,isSgn c=false)→StopAt t (k+w.length)→tailEnd t k=k+w.length
 | [],k,_,_,hs=>by
  rw [tail_stop fun hk=>hs _ (by simp [List.getElem?_eq_getElem hk])]
  rfl
 | c :: w,k,h,hw,hs=>by
  obtain ⟨h1,h2⟩:=h.cons
  obtain ⟨hk,he⟩:=List.getElem?_eq_some_iff.1 h1
  rw [tail_step hk (by rw [he];exact hw c (by simp)),tail_run w (k+1) h2 (fun c hc=>hw c (by simp [hc])) (by rw [show k+1+w.length=k+(c :: w).length by simp;omega];exact hs)];simp
  omega
theorem word_back {t s:List UInt8} {q i:Nat} (hn:nameF s=true) (h:Has t (skipB t i) s) (hs:StopAt t (skipB t i+s.length)):wordR t q i = .ok s (skipB t i+s.length):=by
 obtain ⟨h1,h2,h3,h4⟩:=name_facts hn
 unfold wordR;generalize skipB t i=p at *
 have hw:wEnd t p=p+s.length:=by
  cases s with
  | nil=>exact absurd rfl h1
  | cons c w=>
   obtain ⟨g1,g2⟩:=h.cons
   obtain ⟨f1,f2,f3,f4⟩:=h4 c rfl
   have ho:headOk t p=true:=by
    unfold headOk;rw [g1];simp [f1,f2,f3]
   unfold wEnd;rw [ho,if_pos rfl,tail_run w (p+1) g2 (fun c hc=>h3 c (by simp [hc])) (by rw [show p+1+w.length=p+(c :: w).length by simp;omega];exact hs)];simp
   omega
 have hws:wordS t p=s:=by
  unfold wordS;rw [hw]
  apply List.ext_getElem?
  intro k
  rw [show p+s.length - p=s.length by omega,List.getElem?_take]
  split
  ·rename_i hk
   rw [List.getElem?_drop,h k hk]
  ·rw [List.getElem?_eq_none (by omega)]
 rw [hws,if_neg h1,if_neg (by rw [hn];simp),hw]
mutual
def WfE:Ex→Prop
 | .cst _=>True
 | .bit s=>nameF s=true
 | .rise s=>nameF s=true
 | .fall s=>nameF s=true
 | .not e=>WfE e
 | .and l=>2≤l.length∧WfEs l
 | .or l=>2≤l.length∧WfEs l
def WfEs:List Ex→Prop
 | []=>True
 | e :: l=>WfE e∧WfEs l
end
theorem WfEs_iff:∀ l:List Ex,WfEs l↔∀ e∈l,WfE e
 | []=>by simp [WfEs]
 | e :: l=>by simp [WfEs,WfEs_iff l]
mutual
def dpE:Ex→Nat
 | .cst _=>1
 | .bit _=>1
 | .rise _=>1
 | .fall _=>1
 | .not e=>dpE e+1
 | .and l=>dpA l+1
 | .or l=>dpO l+1
def dpA:List Ex→Nat
 | []=>0
 | e :: l=>max (dpE e) (dpA l)
def dpO:List Ex→Nat
 | []=>0
 | e :: l=>max (match e with | .and m=>dpA m | e=>dpE e) (dpO l)
end
def dpI:Ex→Nat
 | .and l=>dpA l
 | .or l=>dpO l
 | e=>dpE e
def dpJ:Ex→Nat
 | .and l=>dpA l
 | e=>dpE e
theorem dpO_cons (e:Ex) (l:List Ex):dpO (e :: l)=max (dpJ e) (dpO l):=by
 cases e<;>simp [dpO,dpJ]
theorem dpA_mem {x:Ex}:∀ {l:List Ex},x∈l→dpE x≤dpA l
 | e :: l,h=>by
  rw [dpA]
  rcases List.mem_cons.1 h with rfl | h
  ·omega
  ·have:=dpA_mem h;omega
theorem dpO_mem {x:Ex}:∀ {l:List Ex},x∈l→dpJ x≤dpO l
 | e :: l,h=>by
  rw [dpO_cons]
  rcases List.mem_cons.1 h with rfl | h
  ·omega
  ·have:=dpO_mem h;omega
theorem dpJ_le (e:Ex):dpJ e≤dpE e:=by cases e<;>simp [dpJ,dpE]
theorem dpI_le (e:Ex):dpI e≤dpJ e:=by
 cases e<;>simp [dpI,dpJ,dpE]
theorem dpE_le (e:Ex):dpE e≤dpI e+1:=by
 cases e<;>simp [dpI,dpE]
theorem wr_head:∀ (e:Ex) (k:Nat),WfE e→∃ c r,wrE e k=c :: r∧c≠32
 | .cst b,k,_=>by cases b<;>exact ⟨_,_,rfl,by decide⟩
 | .bit s,k,h=>by
  obtain ⟨h1,h2,h3,h4⟩:=name_facts h
  cases s with
  | nil=>exact absurd rfl h1
  | cons c r=>exact ⟨c,r,rfl,by rintro rfl;have:=(h4 32 rfl).1;revert this;decide⟩
 | .rise s,k,_=>⟨_,_,rfl,by decide⟩
 | .fall s,k,_=>⟨_,_,rfl,by decide⟩
 | .not e,k,_=>⟨_,_,rfl,by decide⟩
 | .and l,k,h=>by
  rw [wrE]
  split
  ·exact ⟨40,_,rfl,by decide⟩
  ·obtain ⟨h1,h2⟩:=h
   match l,h1,h2 with
   | x :: l,_,h2=>
    obtain ⟨c,r,he,hc⟩:=wr_head x 2 h2.1
    rw [wrL,Lib.join_cons,he];exact ⟨c,_,rfl,hc⟩
 | .or l,k,h=>by
  rw [wrE]
  split
  ·exact ⟨40,_,rfl,by decide⟩
  ·obtain ⟨h1,h2⟩:=h
   match l,h1,h2 with
   | x :: l,_,h2=>
    obtain ⟨c,r,he,hc⟩:=wr_head x 1 h2.1
    rw [wrL,Lib.join_cons,he];exact ⟨c,_,rfl,hc⟩
theorem skip_at {t:List UInt8} {p:Nat} {w:List UInt8} (h:Has t p w) (hw:∃ c r,w=c :: r∧c≠32):skipB t p=p:=by
 obtain ⟨c,r,rfl,hc⟩:=hw
 exact skipB_stop (by rw [h.cons.1];intro e;exact hc (Option.some.inj e))
theorem sev_back {t:List UInt8} {s:UInt8} (hs:s≠32) {f:Nat→Rs Ex} (hg:Goes t f) (k:Nat) (Q:Nat→Prop) (L:List Ex) (hL:∀ y∈L,WfE y)
  (hQ:∀ e,t[e]? = some 32→t[e+1]? = some s→skipB t e=e+1→Q e)
  (hf:∀ y∈L,∀ i,i≤t.length→Has t (skipB t i) (wrE y k)→Q (skipB t i+(wrE y k).length)→∃ j,f i = .ok y j∧skipB t j=skipB t (skipB t i+(wrE y k).length)) :
  ∀ (l:List Ex) (x:Ex),(∀ y∈x :: l,y∈L)→∀ (i:Nat) (acc:List Ex),i≤t.length→Has t (skipB t i) (wrE x k ++ Lib.joinTail [32,s,32] (l.map fun e=>wrE e k))→
   Q (skipB t i+(wrE x k ++ Lib.joinTail [32,s,32] (l.map fun e=>wrE e k)).length)→t[skipB t (skipB t i+(wrE x k ++ Lib.joinTail [32,s,32] (l.map fun e=>wrE e k)).length)]?≠some s→
   sevA t s f i acc = .ok (acc ++ x :: l) (skipB t (skipB t i+(wrE x k ++ Lib.joinTail [32,s,32] (l.map fun e=>wrE e k)).length)):=by
 intro l
 induction l with
 | nil=>
  intro x hx i acc hi hh hq hn
  simp only [List.map_nil,Lib.joinTail,List.flatten_nil,List.append_nil] at hh hq hn ⊢
  obtain ⟨j,hj,hsk⟩:=hf x (hx x (by simp)) i hi hh hq
  rw [sev_step hg hi,hj]
  dsimp only
  unfold takeM;rw [hsk,if_neg hn];simp
 | cons y l ih=>
  intro x hx i acc hi hh hq hn
  have ej:Lib.joinTail [32,s,32] ((y :: l).map fun e=>wrE e k)=32 :: s :: 32 :: (wrE y k ++ Lib.joinTail [32,s,32] (l.map fun e=>wrE e k)):=by
   simp [Lib.joinTail]
  rw [ej] at hh hq hn ⊢
  have htop:=skipB_top hi
  obtain ⟨h1,h2⟩:=hh.app
  have hx1:=h1.top htop
  generalize hE:skipB t i+(wrE x k).length=e1 at h2 hx1
  obtain ⟨g1,h2⟩:=h2.cons
  obtain ⟨g2,h2⟩:=h2.cons
  obtain ⟨g3,h2⟩:=h2.cons
  have k1:skipB t e1=e1+1:=by
   rw [skipB_blank g1,skipB_stop];rw [g2];intro h;exact hs (Option.some.inj h)
  obtain ⟨j,hj,hsk⟩:=hf x (hx x (by simp)) i hi h1 (by rw [hE];exact hQ e1 g1 g2 k1)
  rw [hE,k1] at hsk
  have ht:takeM t s j=(true,e1+2):=by
   unfold takeM;rw [hsk,if_pos g2]
  have k2:skipB t (e1+2)=e1+3:=by
   rw [skipB_blank g3]
   exact skip_at h2 (by
    obtain ⟨c,r,he,hc⟩:=wr_head y k (hL y (hx y (by simp)))
    exact ⟨c,_,by rw [he];rfl,hc⟩)
  have hlen:e1+2≤t.length:=by
   obtain ⟨h,_⟩:=List.getElem?_eq_some_iff.1 g3
   omega
  have hend:skipB t i+(wrE x k ++ 32 :: s :: 32 :: (wrE y k ++ Lib.joinTail [32,s,32] (l.map fun e=>wrE e k))).length=skipB t (e1+2)+(wrE y k ++ Lib.joinTail [32,s,32] (l.map fun e=>wrE e k)).length:=by
   rw [k2,List.length_append];simp only [List.length_cons]
   omega
  rw [hend] at hq hn ⊢
  have:=ih y (fun z hz=>hx z (List.mem_cons_of_mem x hz)) (e1+2) (acc ++ [x]) hlen (by rw [k2];exact h2) hq hn
  rw [sev_step hg hi,hj]
  dsimp only
  rw [ht];simp only [if_true];rw [this];simp
def OneB (t:List UInt8) (d:Nat) (e:Ex):Prop:=∀ i,i≤t.length→Has t (skipB t i) (wrE e 2)→StopAt t (skipB t i+(wrE e 2).length)→oneR t d i = .ok e (skipB t i+(wrE e 2).length)
def AndB (t:List UInt8) (d:Nat) (e:Ex):Prop:=∀ i,i≤t.length→Has t (skipB t i) (wrE e 1)→StopAt t (skipB t i+(wrE e 1).length)→t[skipB t (skipB t i+(wrE e 1).length)]?≠some 38→andR t (oneR t d) i = .ok e (skipB t (skipB t i+(wrE e 1).length))
def OrB (t:List UInt8) (d:Nat) (e:Ex):Prop:=∀ i,i≤t.length→Has t (skipB t i) (wrE e 0)→StopAt t (skipB t i+(wrE e 0).length)→t[skipB t (skipB t i+(wrE e 0).length)]?≠some 38→t[skipB t (skipB t i+(wrE e 0).length)]?≠some 124→orR t (oneR t d) i = .ok e (skipB t (skipB t i+(wrE e 0).length))
theorem andB_and {t:List UInt8} {d:Nat} {l:List Ex} (hw:WfE (.and l)) (h:∀ y∈l,OneB t d y):AndB t d (.and l):=by
 intro i hi hh hst hn
 obtain ⟨h2,hws⟩:=hw
 match l,h2 with
 | x :: l,h2=>
  have e1:wrE (.and (x :: l)) 1=wrE x 2 ++ Lib.joinTail [32,38,32] (l.map fun e=>wrE e 2):=by
   rw [wrE,if_neg (by omega),wrL_map,List.map_cons,Lib.join_cons]
  rw [e1] at hh hst hn ⊢
  have:=sev_back (s:=38) (by decide) (one_goes t d) 2 (StopAt t) (x :: l) ((WfEs_iff _).1 hws) (fun e h1 _ _ c hc=>by rw [h1] at hc;obtain rfl:=Option.some.inj hc;rfl)
   (fun y hy i hi hh hs=>⟨_,h y hy i hi hh hs,rfl⟩) l x (fun y hy=>hy) i [] hi hh hst hn
  show (sevA t 38 (oneR t d) i []).map colA=_
  rw [this]
  show Rs.ok (colA ([] ++ x :: l)) _=_
  rw [List.nil_append,colA_ne (by simp only [List.length_cons] at h2 ⊢;omega)]
theorem andB_one {t:List UInt8} {d:Nat} {e:Ex} (hw:WfE e) (h12:wrE e 1=wrE e 2) (h:OneB t d e):AndB t d e:=by
 intro i hi hh hst hn
 rw [h12] at hh hst hn ⊢
 have:=sev_back (s:=38) (by decide) (one_goes t d) 2 (StopAt t) [e] (fun y hy=>by simp at hy;subst hy;exact hw) (fun e h1 _ _ c hc=>by rw [h1] at hc;obtain rfl:=Option.some.inj hc;rfl)
  (fun y hy i2 hi2 hh2 hs2=>⟨_,by have hy2:=List.mem_singleton.1 hy;subst hy2;exact h i2 hi2 hh2 hs2,rfl⟩) [] e (fun y hy=>hy) i [] hi (by simpa [Lib.joinTail] using hh) (by simpa [Lib.joinTail] using hst) (by simpa [Lib.joinTail] using hn)
 show (sevA t 38 (oneR t d) i []).map colA=_
 rw [this];simp [Rs.map,colA,Lib.joinTail]
theorem orB_or {t:List UInt8} {d:Nat} {l:List Ex} (hw:WfE (.or l)) (h:∀ y∈l,AndB t d y):OrB t d (.or l):=by
 intro i hi hh hst hn1 hn2
 obtain ⟨h2,hws⟩:=hw
 match l,h2 with
 | x :: l,h2=>
  have e1:wrE (.or (x :: l)) 0=wrE x 1 ++ Lib.joinTail [32,124,32] (l.map fun e=>wrE e 1):=by
   rw [wrE,if_neg (by omega),wrL_map,List.map_cons,Lib.join_cons]
  rw [e1] at hh hst hn1 hn2 ⊢
  have:=sev_back (s:=124) (by decide) (and_goes (one_goes t d)) 1 (fun e=>StopAt t e∧t[skipB t e]?≠some 38) (x :: l) ((WfEs_iff _).1 hws)
   (fun e h1 h2 h3=>⟨fun c hc=>by rw [h1] at hc;obtain rfl:=Option.some.inj hc;rfl,by rw [h3,h2];decide⟩)
   (fun y hy i hi hh hs=>⟨_,h y hy i hi hh hs.1 hs.2,skipB_idem (hh.top (skipB_top hi))⟩) l x (fun y hy=>hy) i [] hi hh ⟨hst,hn1⟩ hn2
  show (sevA t 124 (andR t (oneR t d)) i []).map colO=_
  rw [this]
  show Rs.ok (colO ([] ++ x :: l)) _=_
  rw [List.nil_append,colO_ne (by simp only [List.length_cons] at h2 ⊢;omega)]
theorem orB_one {t:List UInt8} {d:Nat} {e:Ex} (hw:WfE e) (h01:wrE e 0=wrE e 1) (h:AndB t d e):OrB t d e:=by
 intro i hi hh hst hn1 hn2
 rw [h01] at hh hst hn1 hn2 ⊢
 have:=sev_back (s:=124) (by decide) (and_goes (one_goes t d)) 1 (fun e=>StopAt t e∧t[skipB t e]?≠some 38) [e] (fun y hy=>by simp at hy;subst hy;exact hw)
  (fun e h1 h2 h3=>⟨fun c hc=>by rw [h1] at hc;obtain rfl:=Option.some.inj hc;rfl,by rw [h3,h2];decide⟩)
  (fun y hy i2 hi2 hh2 hs2=>⟨_,by have hy2:=List.mem_singleton.1 hy;subst hy2;exact h i2 hi2 hh2 hs2.1 hs2.2,skipB_idem (hh2.top (skipB_top hi2))⟩) [] e (fun y hy=>hy) i [] hi (by simpa [Lib.joinTail] using hh) ⟨by simpa [Lib.joinTail] using hst,by simpa [Lib.joinTail] using hn1⟩ (by simpa [Lib.joinTail] using hn2)
 show (sevA t 124 (andR t (oneR t d)) i []).map colO=_
 rw [this];simp [Rs.map,colO,Lib.joinTail]
theorem oneB_par {t:List UInt8} {d:Nat} {e:Ex} (hw:WfE e) (h2:wrE e 2=40 :: (wrE e 0 ++ [41])) (h:OrB t d e):OneB t (d+1) e:=by
 intro i hi hh hst
 rw [h2] at hh hst ⊢
 have htop:=skipB_top hi
 generalize hp:skipB t i=p at *
 obtain ⟨g1,hh⟩:=hh.cons
 obtain ⟨g2,g3⟩:=hh.app
 have hpl:p+1≤t.length:=(List.getElem?_eq_some_iff.1 g1).1
 have k1:skipB t (p+1)=p+1:=skip_at g2 (wr_head e 0 hw)
 have g4:=g3.cons.1
 have k2:skipB t (p+1+(wrE e 0).length)=p+1+(wrE e 0).length:=skipB_stop (by rw [g4];decide)
 have:=h (p+1) hpl (by rw [k1];exact g2) (by rw [k1];intro c hc;rw [g4] at hc;obtain rfl:=Option.some.inj hc;rfl) (by rw [k1,k2,g4];decide) (by rw [k1,k2,g4];decide)
 rw [k1,k2] at this
 have ht:takeM t 41 (p+1+(wrE e 0).length)=(true,p+1+(wrE e 0).length+1):=by
  unfold takeM;rw [k2,if_pos g4]
 rw [oneR,hp,if_neg (by rw [g1];decide),if_pos g1,this]
 dsimp only
 rw [ht];simp
 omega
theorem one_back {t:List UInt8}:∀ (n:Nat) (e:Ex),SizeOf.sizeOf e≤n→WfE e→∀ d,dpE e≤d→OneB t d e
 | 0,e,hn,_,_,_=>by cases e<;>simp at hn
 | n+1,e,hn,hw,d,hd=>by
  have key:∀ b:Bool,∀ (p:Nat),t[p]? = some (if b then 49 else 48)→skipB t p=p:=fun b p h=>skipB_stop (by rw [h];cases b<;>decide)
  cases e with
  | cst b=>
   obtain ⟨d,rfl⟩:∃ d',d=d'+1:=⟨d - 1,by simp only [dpE] at hd;omega⟩
   intro i hi hh hst
   cases b with
   | true=>
    have g:t[skipB t i]? = some 49:=(show Has t (skipB t i) (_ :: _) from hh).cons.1
    rw [oneR,if_neg (by rw [g];decide),if_neg (by rw [g];decide),if_neg (by rw [g];decide),if_pos g];simp [wrE]
   | false=>
    have g:t[skipB t i]? = some 48:=(show Has t (skipB t i) (_ :: _) from hh).cons.1
    rw [oneR,if_neg (by rw [g];decide),if_neg (by rw [g];decide),if_pos g];simp [wrE]
  | bit s=>
   obtain ⟨d,rfl⟩:∃ d',d=d'+1:=⟨d - 1,by simp only [dpE] at hd;omega⟩
   intro i hi hh hst
   rw [wrE] at hh hst ⊢
   obtain ⟨n1,n2,n3,n4⟩:=name_facts hw
   have htop:=skipB_top hi
   have hid:=skipB_idem hi
   have hlen:0 < s.length:=by cases s with | nil=>exact absurd rfl n1 | cons c s=>simp
   have hc:t[skipB t i]? = s[0]?:=by simpa using hh 0 hlen
   have hne:∀ c:UInt8,isSgn c=true∨c=48∨c=49→t[skipB t i]?≠some c:=by
    intro c hc2 h
    rw [hc] at h
    obtain ⟨f1,f2,f3,_⟩:=n4 c h
    rcases hc2 with h | h | h
    ·rw [f1] at h;cases h
    ·exact f2 h
    ·exact f3 h
   rw [oneR,if_neg (hne 33 (by decide)),if_neg (hne 40 (by decide)),if_neg (hne 48 (by decide)),if_neg (hne 49 (by decide)),if_neg (hne 94 (by decide)),if_neg (hne 126 (by decide)),word_back hw (by rw [hid];exact hh) (by rw [hid];exact hst),hid]
   rfl
  | rise s=>
   obtain ⟨d,rfl⟩:∃ d',d=d'+1:=⟨d - 1,by simp only [dpE] at hd;omega⟩
   intro i hi hh hst
   rw [wrE] at hh hst ⊢
   obtain ⟨g,hh⟩:=hh.cons
   have k1:skipB t (skipB t i+1)=skipB t i+1:=skip_at hh (wr_head (.bit s) 0 hw)
   rw [oneR,if_neg (by rw [g];decide),if_neg (by rw [g];decide),if_neg (by rw [g];decide),if_neg (by rw [g];decide),if_pos g,word_back hw (by rw [k1];exact hh) (by rw [k1];rw [List.length_cons] at hst;rw [show skipB t i+1+s.length=skipB t i+(s.length+1) by omega];exact hst),k1];simp [Rs.map]
   omega
  | fall s=>
   obtain ⟨d,rfl⟩:∃ d',d=d'+1:=⟨d - 1,by simp only [dpE] at hd;omega⟩
   intro i hi hh hst
   rw [wrE] at hh hst ⊢
   obtain ⟨g,hh⟩:=hh.cons
   have k1:skipB t (skipB t i+1)=skipB t i+1:=skip_at hh (wr_head (.bit s) 0 hw)
   rw [oneR,if_neg (by rw [g];decide),if_neg (by rw [g];decide),if_neg (by rw [g];decide),if_neg (by rw [g];decide),if_neg (by rw [g];decide),if_pos g,word_back hw (by rw [k1];exact hh) (by rw [k1];rw [List.length_cons] at hst;rw [show skipB t i+1+s.length=skipB t i+(s.length+1) by omega];exact hst),k1];simp [Rs.map]
   omega
  | not x=>
   obtain ⟨d,rfl⟩:∃ d',d=d'+1:=⟨d - 1,by simp only [dpE] at hd;omega⟩
   have ih:=one_back (t:=t) n x (by simp at hn;omega) hw d (by simp only [dpE] at hd;omega)
   intro i hi hh hst
   rw [wrE] at hh hst ⊢
   obtain ⟨g,hh⟩:=hh.cons
   have hpl:=(List.getElem?_eq_some_iff.1 g).1
   have k1:skipB t (skipB t i+1)=skipB t i+1:=skip_at hh (wr_head x 2 hw)
   rw [oneR,if_pos g,ih (skipB t i+1) hpl (by rw [k1];exact hh) (by rw [k1];rw [List.length_cons] at hst;rw [show skipB t i+1+(wrE x 2).length=skipB t i+((wrE x 2).length+1) by omega];exact hst),k1];simp
   omega
  | and l=>
   obtain ⟨d,rfl⟩:∃ d',d=d'+1:=⟨d - 1,by simp only [dpE] at hd;omega⟩
   simp only [dpE] at hd;refine oneB_par hw (by simp [wrE]) (orB_one hw (by simp [wrE]) (andB_and hw fun y hy=>?_))
   have:=List.sizeOf_lt_of_mem hy
   have h2:=dpA_mem hy
   exact one_back n y (by simp only [Ex.and.sizeOf_spec] at hn;omega) ((WfEs_iff _).1 hw.2 y hy) d (by omega)
  | or l=>
   obtain ⟨d,rfl⟩:∃ d',d=d'+1:=⟨d - 1,by simp only [dpE] at hd;omega⟩
   simp only [dpE] at hd;refine oneB_par hw (by simp [wrE]) (orB_or hw fun y hy=>?_)
   have hs:=List.sizeOf_lt_of_mem hy
   have h2:=dpO_mem hy
   have hwy:=(WfEs_iff _).1 hw.2 y hy
   have hn':SizeOf.sizeOf y+1≤n:=by simp only [Ex.or.sizeOf_spec] at hn;omega
   by_cases hm:∃ m,y = .and m
   ·obtain ⟨m,rfl⟩:=hm
    refine andB_and hwy fun z hz=>?_
    have:=List.sizeOf_lt_of_mem hz
    have h3:=dpA_mem hz
    simp only [dpJ] at h2;exact one_back n z (by simp only [Ex.and.sizeOf_spec] at hn';omega) ((WfEs_iff _).1 hwy.2 z hz) d (by omega)
   ·have h3:dpJ y=dpE y:=by
     cases y<;>first | rfl | exact absurd ⟨_,rfl⟩ hm
    have h4:wrE y 1=wrE y 2:=by
     cases y<;>first | rfl | exact absurd ⟨_,rfl⟩ hm | simp [wrE]
    exact andB_one hwy h4 (one_back n y (by omega) hwy d (by omega))
theorem or_back {t:List UInt8} {e:Ex} (hw:WfE e) {d:Nat} (hd:dpI e≤d):OrB t d e:=by
 by_cases ho:∃ l,e = .or l
 ·obtain ⟨l,rfl⟩:=ho
  refine orB_or hw fun y hy=>?_
  have h2:=dpO_mem hy
  have hwy:=(WfEs_iff _).1 hw.2 y hy
  simp only [dpI] at hd
  by_cases hm:∃ m,y = .and m
  ·obtain ⟨m,rfl⟩:=hm
   refine andB_and hwy fun z hz=>?_
   have h3:=dpA_mem hz
   simp only [dpJ] at h2;exact one_back _ z (Nat.le_refl _) ((WfEs_iff _).1 hwy.2 z hz) d (by omega)
  ·have h3:dpJ y=dpE y:=by
    cases y<;>first | rfl | exact absurd ⟨_,rfl⟩ hm
   have h4:wrE y 1=wrE y 2:=by
    cases y<;>first | rfl | exact absurd ⟨_,rfl⟩ hm | simp [wrE]
   exact andB_one hwy h4 (one_back _ y (Nat.le_refl _) hwy d (by omega))
 ·have h0:wrE e 0=wrE e 1:=by
   cases e<;>first | rfl | exact absurd ⟨_,rfl⟩ ho | simp [wrE]
  refine orB_one hw h0 ?_
  by_cases hm:∃ m,e = .and m
  ·obtain ⟨m,rfl⟩:=hm
   refine andB_and hw fun z hz=>?_
   have h3:=dpA_mem hz
   simp only [dpI] at hd;exact one_back _ z (Nat.le_refl _) ((WfEs_iff _).1 hw.2 z hz) d (by omega)
  ·have h3:dpI e=dpE e:=by
    cases e<;>first | rfl | exact absurd ⟨_,rfl⟩ hm | exact absurd ⟨_,rfl⟩ ho
   have h4:wrE e 1=wrE e 2:=by
    cases e<;>first | rfl | exact absurd ⟨_,rfl⟩ hm | exact absurd ⟨_,rfl⟩ ho | simp [wrE]
   exact andB_one hw h4 (one_back _ e (Nat.le_refl _) hw d (by omega))
theorem sev_all {t:List UInt8} {s:UInt8} {f:Nat→Rs Ex} (P:Ex→Prop) (hf:∀ i x j,f i = .ok x j→P x):∀ (n i:Nat) (acc l:List Ex) (j:Nat),sevR t s f n i acc = .ok l j→(∀ x∈acc,P x)→∀ x∈l,P x
 | 0,i,acc,l,j,h,_=>by simp [sevR] at h
 | n+1,i,acc,l,j,h,ha=>by
  rw [sevR] at h
  cases hfi:f i with
  | err c p q=>rw [hfi] at h;cases h
  | ok x k=>
   rw [hfi] at h
   dsimp only at h
   have hap:∀ y∈acc ++ [x],P y:=fun y hy=>by
    rcases List.mem_append.1 hy with hy | hy
    ·exact ha y hy
    ·simp at hy;subst hy;exact hf _ _ _ hfi
   split at h
   ·exact sev_all P hf n _ _ l j h hap
   ·simp only [Rs.ok.injEq] at h
    obtain ⟨rfl,-⟩:=h
    exact hap
theorem sev_pos {t:List UInt8} {s:UInt8} {f:Nat→Rs Ex}:∀ (n i:Nat) (acc l:List Ex) (j:Nat),sevR t s f n i acc = .ok l j→acc.length < l.length
 | 0,i,acc,l,j,h=>by simp [sevR] at h
 | n+1,i,acc,l,j,h=>by
  rw [sevR] at h
  split at h
  ·cases h
  ·split at h
   ·have:=sev_pos n _ _ l j h
    simp only [List.length_append,List.length_singleton] at this
    omega
   ·simp only [Rs.ok.injEq] at h
    obtain ⟨rfl,-⟩:=h
    simp
theorem dpA_le {d:Nat}:∀ {l:List Ex},(∀ x∈l,dpE x≤d)→dpA l≤d
 | [],_=>by simp [dpA]
 | e :: l,h=>by
  have h1:=h e (by simp)
  have h2:=dpA_le (l:=l) fun x hx=>h x (by simp [hx])
  rw [dpA]
  omega
theorem dpO_le {d:Nat}:∀ {l:List Ex},(∀ x∈l,dpJ x≤d)→dpO l≤d
 | [],_=>by simp [dpO]
 | e :: l,h=>by
  have h1:=h e (by simp)
  have h2:=dpO_le (l:=l) fun x hx=>h x (by simp [hx])
  rw [dpO_cons]
  omega
theorem and_wf {t:List UInt8} {d:Nat} (h:∀ i x j,oneR t d i = .ok x j→WfE x∧dpE x≤d) {i j:Nat} {x:Ex} (he:andR t (oneR t d) i = .ok x j):WfE x∧dpJ x≤d:=by
 obtain ⟨l,h1,rfl⟩:=map_ok he
 have ha:=sev_all (fun x=>WfE x∧dpE x≤d) h _ _ _ _ _ h1 (by simp)
 have hp:=sev_pos _ _ _ _ _ h1
 by_cases hl:l.length=1
 ·obtain ⟨x,rfl⟩:=List.length_eq_one_iff.1 hl
  have:=ha x (by simp)
  exact ⟨this.1,Nat.le_trans (dpJ_le x) this.2⟩
 ·rw [colA_ne hl];exact ⟨⟨by simp at hp;omega,(WfEs_iff _).2 fun x hx=>(ha x hx).1⟩,dpA_le fun x hx=>(ha x hx).2⟩
theorem or_wf {t:List UInt8} {d:Nat} (h:∀ i x j,oneR t d i = .ok x j→WfE x∧dpE x≤d) {i j:Nat} {x:Ex} (he:orR t (oneR t d) i = .ok x j):WfE x∧dpI x≤d:=by
 obtain ⟨l,h1,rfl⟩:=map_ok he
 have ha:=sev_all (fun x=>WfE x∧dpJ x≤d) (fun i x j h'=>and_wf h h') _ _ _ _ _ h1 (by simp)
 have hp:=sev_pos _ _ _ _ _ h1
 by_cases hl:l.length=1
 ·obtain ⟨x,rfl⟩:=List.length_eq_one_iff.1 hl
  have:=ha x (by simp)
  exact ⟨this.1,Nat.le_trans (dpI_le x) this.2⟩
 ·rw [colO_ne hl];exact ⟨⟨by simp at hp;omega,(WfEs_iff _).2 fun x hx=>(ha x hx).1⟩,dpO_le fun x hx=>(ha x hx).2⟩
theorem word_wf {t:List UInt8} {q i j:Nat} {s:List UInt8} (h:wordR t q i = .ok s j):nameF s=true:=by
 unfold wordR at h
 split at h
 ·cases h
 ·split at h
  ·cases h
  ·rename_i hn
   simp only [Rs.ok.injEq] at h
   obtain ⟨rfl,-⟩:=h
   simpa using hn
theorem one_wf (t:List UInt8):∀ d i x j,oneR t d i = .ok x j→WfE x∧dpE x≤d
 | 0,i,x,j,h=>by simp [oneR] at h
 | d+1,i,x,j,h=>by
  have ih:=one_wf t d
  rw [oneR] at h
  split at h
  ·cases he:oneR t d (skipB t i+1) with
   | err c p q=>rw [he] at h;cases h
   | ok y k=>
    rw [he] at h;simp only [Rs.ok.injEq] at h
    obtain ⟨rfl,rfl⟩:=h
    have:=ih _ _ _ he
    exact ⟨this.1,by simp only [dpE];omega⟩
  split at h
  ·cases he:orR t (oneR t d) (skipB t i+1) with
   | err c p q=>rw [he] at h;cases h
   | ok y k=>
    rw [he] at h
    dsimp only at h
    split at h
    ·simp only [Rs.ok.injEq] at h
     obtain ⟨rfl,rfl⟩:=h
     have:=or_wf ih he
     have h3:=dpE_le y
     exact ⟨this.1,by omega⟩
    ·cases h
  split at h
  ·simp only [Rs.ok.injEq] at h
   obtain ⟨rfl,rfl⟩:=h
   exact ⟨trivial,by simp only [dpE];omega⟩
  split at h
  ·simp only [Rs.ok.injEq] at h
   obtain ⟨rfl,rfl⟩:=h
   exact ⟨trivial,by simp only [dpE];omega⟩
  split at h
  ·obtain ⟨s,h3,rfl⟩:=map_ok h
   exact ⟨word_wf h3,by simp only [dpE];omega⟩
  split at h
  ·obtain ⟨s,h3,rfl⟩:=map_ok h
   exact ⟨word_wf h3,by simp only [dpE];omega⟩
  ·obtain ⟨s,h3,rfl⟩:=map_ok h
   exact ⟨word_wf h3,by simp only [dpE];omega⟩
theorem parse_wf {t:List UInt8} {x:Ex} (h:(parseM t).1=some x):WfE x∧dpI x≤20:=by
 unfold parseM at h
 split at h
 ·cases h
 ·split at h
  ·cases h
  ·rename_i y i he
   split at h
   ·cases h
   ·obtain rfl:=Option.some.inj h
    exact or_wf (one_wf t 20) he
end Go.Proofs.YtpboiimemmfkiaaGreatDoor
namespace Go.Proofs.YtpboiimemmfkiaaGreatDoor
mutual
def evE (is was:List UInt8→Bool):Ex→Bool
 | .cst b=>b
 | .bit s=>is s
 | .rise s=>is s && !was s
 | .fall s=>!is s && was s
 | .not e=>!evE is was e
 | .and l=>evA is was l
 | .or l=>evO is was l
def evA (is was:List UInt8→Bool):List Ex→Bool
 | []=>true
 | e :: l=>evE is was e && evA is was l
def evO (is was:List UInt8→Bool):List Ex→Bool
 | []=>false
 | e :: l=>evE is was e || evO is was l
end
end Go.Proofs.YtpboiimemmfkiaaGreatDoor
namespace Go.Proofs.YtpboiimemmfkiaaGreatDoor
mutual
def bE:Ex→Nat
 | .cst _=>4
 | .bit s=>s.length+3
 | .rise s=>s.length+4
 | .fall s=>s.length+4
 | .not e=>bE e+1
 | .and l=>bEs l+5
 | .or l=>bEs l+5
def bEs:List Ex→Nat
 | []=>0
 | e :: l=>bE e+bEs l
end
theorem bEs_app:∀ (a b:List Ex),bEs (a ++ b)=bEs a+bEs b
 | [],b=>by simp [bEs]
 | e :: a,b=>by simp only [List.cons_append,bEs,bEs_app a b];omega
theorem bE_pos:∀ e:Ex,3≤bE e
 | .not e=>by have:=bE_pos e;simp only [bE];omega
 | .cst _=>by simp [bE]
 | .bit _=>by simp [bE]
 | .rise _=>by simp only [bE];omega
 | .fall _=>by simp only [bE];omega
 | .and _=>by simp only [bE];omega
 | .or _=>by simp only [bE];omega
theorem bEs_mem {x:Ex}:∀ {l:List Ex},x∈l→bE x≤bEs l
 | y :: l,h=>by
  rw [bEs]
  rcases List.mem_cons.1 h with rfl | h
  ·omega
  ·have:=bEs_mem h;omega
theorem bEs_len:∀ l:List Ex,3 * l.length≤bEs l
 | []=>by simp
 | e :: l=>by have:=bEs_len l;have:=bE_pos e;simp only [List.length_cons,bEs];omega
theorem sev_fiveB {t:List UInt8} {s:UInt8} {f:Nat→Rs Ex} (hg:Goes t f) (hf:Five bE t f):∀ (n i:Nat) (acc l:List Ex) (j:Nat),i≤t.length→sevR t s f n i acc = .ok l j→bEs l+5 * (l.length - 1)≤bEs acc+5 * acc.length+5 * (j - i)∧acc.length < l.length
 | 0,i,acc,l,j,_,h=>by simp [sevR] at h
 | n+1,i,acc,l,j,hi,h=>by
  rw [sevR] at h
  cases hfi:f i with
  | err c p q=>rw [hfi] at h;cases h
  | ok x k=>
   rw [hfi] at h
   obtain ⟨h1,h2⟩:=hg i x k hi hfi
   have h5:=hf i x k hi hfi
   obtain ⟨t1,t2,t3⟩:=take_goes (c:=s) h2
   dsimp only at h
   split at h
   ·rename_i ht
    have h4:=t3 ht
    have ih:=sev_fiveB hg hf n _ _ l j t2 h
    have h6:=sev_goes hg n _ _ l j t2 h
    simp only [bEs_app,bEs,List.length_append,List.length_singleton] at ih
    omega
   ·simp only [Rs.ok.injEq] at h
    obtain ⟨rfl,rfl⟩:=h
    simp only [bEs_app,bEs,List.length_append,List.length_singleton]
    omega
theorem colA_fiveB {l:List Ex} {m:Nat} (h:bEs l+5 * (l.length - 1)≤m) (h0:0 < l.length):bE (colA l)≤m:=by
 by_cases h1:l.length=1
 ·obtain ⟨x,rfl⟩:=List.length_eq_one_iff.1 h1
  simp only [bEs,List.length_singleton] at h
  show bE x≤m
  omega
 ·rw [colA_ne h1,bE]
  omega
theorem colO_fiveB {l:List Ex} {m:Nat} (h:bEs l+5 * (l.length - 1)≤m) (h0:0 < l.length):bE (colO l)≤m:=by
 by_cases h1:l.length=1
 ·obtain ⟨x,rfl⟩:=List.length_eq_one_iff.1 h1
  simp only [bEs,List.length_singleton] at h
  show bE x≤m
  omega
 ·rw [colO_ne h1,bE]
  omega
theorem and_fiveB {t:List UInt8} {one:Nat→Rs Ex} (hg:Goes t one) (h:Five bE t one):Five bE t (andR t one):=fun i x j hi he=>by
 obtain ⟨l,h1,rfl⟩:=map_ok he
 have:=sev_fiveB hg h _ _ _ _ _ hi h1
 simp only [bEs,List.length_nil] at this;exact colA_fiveB (by omega) (by omega)
theorem or_fiveB {t:List UInt8} {one:Nat→Rs Ex} (hg:Goes t one) (h:Five bE t one):Five bE t (orR t one):=fun i x j hi he=>by
 obtain ⟨l,h1,rfl⟩:=map_ok he
 have:=sev_fiveB (and_goes hg) (and_fiveB hg h) _ _ _ _ _ hi h1
 simp only [bEs,List.length_nil] at this;exact colO_fiveB (by omega) (by omega)
theorem word_fourB (t:List UInt8) (q i j:Nat) (s:List UInt8) (hi:i≤t.length) (h:wordR t q i = .ok s j):s.length≤j - i∧1≤j - i:=by
 have hg:=word_goes t q i s j hi h
 have h1:=skipB_le t i
 unfold wordR at h
 split at h
 ·cases h
 ·split at h
  ·cases h
  ·simp only [Rs.ok.injEq] at h
   obtain ⟨rfl,rfl⟩:=h
   have h4:=wEnd_le t (skipB t i)
   unfold wordS;rw [List.length_take]
   omega
theorem one_fiveB (t:List UInt8):∀ d,Five bE t (oneR t d)
 | 0=>fun i x j _ h=>by simp [oneR] at h
 | d+1=>fun i x j hi h=>by
  have ih:=one_fiveB t d
  have hg:=one_goes t d
  have h1:=skipB_le t i
  have h2:=skipB_top hi
  have hb:∀ {c:UInt8},t[skipB t i]? = some c→skipB t i < t.length:=fun hc=>(List.getElem?_eq_some_iff.1 hc).1
  rw [oneR] at h
  split at h
  ·rename_i hc
   have:=hb hc
   cases he:oneR t d (skipB t i+1) with
   | err c p q=>rw [he] at h;cases h
   | ok y k=>
    rw [he] at h;simp only [Rs.ok.injEq] at h
    obtain ⟨rfl,rfl⟩:=h
    have h3:=ih _ y k (by omega) he
    have h4:=hg _ y k (by omega) he
    simp only [bE]
    omega
  split at h
  ·rename_i _ hc
   have:=hb hc
   cases he:orR t (oneR t d) (skipB t i+1) with
   | err c p q=>rw [he] at h;cases h
   | ok y k=>
    rw [he] at h
    dsimp only at h
    have h3:=or_fiveB hg ih _ y k (by omega) he
    have h4:=or_goes hg _ y k (by omega) he
    obtain ⟨t1,t2,t3⟩:=take_goes (c:=41) h4.2
    split at h
    ·simp only [Rs.ok.injEq] at h
     obtain ⟨rfl,rfl⟩:=h
     omega
    ·cases h
  split at h
  ·rename_i _ _ hc
   have:=hb hc
   simp only [Rs.ok.injEq] at h
   obtain ⟨rfl,rfl⟩:=h
   simp only [bE]
   omega
  split at h
  ·rename_i _ _ _ hc
   have:=hb hc
   simp only [Rs.ok.injEq] at h
   obtain ⟨rfl,rfl⟩:=h
   simp only [bE]
   omega
  split at h
  ·rename_i _ _ _ _ hc
   have:=hb hc
   obtain ⟨s,h3,rfl⟩:=map_ok h
   have h4:=word_fourB t 1 _ j s (by omega) h3
   simp only [bE]
   omega
  split at h
  ·rename_i _ _ _ _ _ hc
   have:=hb hc
   obtain ⟨s,h3,rfl⟩:=map_ok h
   have h4:=word_fourB t 2 _ j s (by omega) h3
   simp only [bE]
   omega
  ·obtain ⟨s,h3,rfl⟩:=map_ok h
   have h4:=word_fourB t 3 _ j s (by omega) h3
   simp only [bE]
   omega
theorem parse_b {t:List UInt8} {x:Ex} (h:(parseM t).1=some x):bE x≤10000:=by
 unfold parseM at h
 split at h
 ·cases h
 ·rename_i hl
  split at h
  ·cases h
  ·rename_i y i he
   split at h
   ·cases h
   ·obtain rfl:=Option.some.inj h
    have h1:=or_fiveB (one_goes t 20) (one_fiveB t 20) 0 y i (Nat.zero_le _) he
    have h2:=or_goes (one_goes t 20) 0 y i (Nat.zero_le _) he
    omega
end Go.Proofs.YtpboiimemmfkiaaGreatDoor
namespace Go.Proofs.YtpboiimemmfkiaaGreatDoor
open Go.Av
theorem take_at {t:List UInt8} {c:UInt8} {i j:Nat} (hj:skipB t i=j):takeM t c i=if t[j]? = some c then (true,j+1) else (false,j):=by
 unfold takeM;rw [hj]
theorem word_q {t:List UInt8} {q i:Nat} {c:Int} {p q':Nat} (h:wordR t q i = .err c p q'):q'=q:=by
 unfold wordR at h
 split at h
 ·simp only [Rs.err.injEq] at h;omega
 ·split at h
  ·simp only [Rs.err.injEq] at h;omega
  ·cases h
set_option maxHeartbeats 16000000 in
theorem one_spec (G:Glob) (t:List UInt8) (ht:t.length≤2000):∀ (d:Nat),d≤20→∀ i,i≤t.length→MC Tryz.prog G [500] 314 [.ref 500 0 0,.d (dNum d)] (hlst (rRow t i)) (.d (tupX (oneR t d i))) (hlst (rRow t (posR (oneR t d i)))):=by
 intro d
 induction d with
 | zero=>
  intro _ i hi
  have hfl:=fail_spec G t i (by omega) hi 4
  refine MC.of_body (tyOf_good _) Tryz.func314 rfl rfl (rs:=[.tmp 4,.tmp 5]) Tryz.results314 (by simp [Tryz.ntmps314]) rfl fun X=>?_;simp only [Tryz.ntmps314]
  have fw:=(Aq @dNum.eq_1 (Aq @rRow.eq_1 (Aq @rdr.eq_1 @dS.eq_1)))
  refine rgq fw [0,1] [500] ?_;refine AW_then fun K1 hK1=>?_;refine rgq fw [0,1,17] [500] ?_;refine AW_tt rfl ?_;refine rgm (Aq fw (Aq @dErr.eq_1 (Aq @dErr.eq_2 @dErr.eq_3))) hfl [4,5] [500] ?_;refine AW_ret ?_;simp [D.le,D.le.go,takeMap,dNum,rRow,rdr,dS,rRow,rdr,tupX,oneR,posR,dErr,dQ]
 | succ d ih=>
  intro hd i hi
  have ih:=ih (by omega)
  have hor:=or_spec G t ht d ih
  have htop:=skipB_top hi
  have hidem:=skipB_idem hi
  have hd0:¬ (d:Int)+1=0:=by omega
  have ht60:t.length < 2^60:=by omega
  have htk1:∀ c,MC Tryz.prog G [500] 313 [.ref 500 0 0,.d (.v (.int .u8 c.toNat))] (hlst (rRow t i)) (.d (.v (.bool (takeM t c i).1))) (hlst (rRow t (takeM t c i).2)):=fun c=>take_spec G t i ht60 hi c
  rw [oneR];generalize hj:skipB t i=j at htop hidem ⊢
  have htk2:∀ c,MC Tryz.prog G [500] 313 [.ref 500 0 0,.d (.v (.int .u8 c.toNat))] (hlst (rRow t j)) (.d (.v (.bool (takeM t c j).1))) (hlst (rRow t (takeM t c j).2)):=fun c=>take_spec G t j ht60 htop c
  have at1:=fun c=>take_at (t:=t) (c:=c) hj
  have at2:=fun c=>take_at (t:=t) (c:=c) hidem
  simp only [at1] at htk1;simp only [at2] at htk2
  have hlt:∀ {c:UInt8},t[j]? = some c→j+1≤t.length:=fun h=>(List.getElem?_eq_some_iff.1 h).1
  have k33:=htk1 33
  have k40:=htk2 40
  have k48:=htk2 48
  have k49:=htk2 49
  have k94:=htk2 94
  have k126:=htk2 126
  clear htk1 at1 at2 hj
  by_cases c33:t[j]? = some 33
  ·rw [if_pos c33] at k33 ⊢
   have hc:=ih (j+1) (hlt c33)
   cases hr:oneR t d (j+1) with
   | err c p q=>
    rw [hr] at hc;refine MC.of_body (tyOf_good _) Tryz.func314 rfl rfl (rs:=[.tmp 4,.tmp 5]) Tryz.results314 (by simp [Tryz.ntmps314]) rfl fun X=>?_;simp only [Tryz.ntmps314]
    have fw:=(Aq @dNum.eq_1 (Aq @rRow.eq_1 (Aq @rdr.eq_1 @dS.eq_1)))
    refine rgq fw [0,1] [500] ?_;refine AW_then fun K1 hK1=>?_
    have qf:=(Aq fw @hd0)
    refine rgqv [0,1,17] [500] ?_;refine AW_ff rfl ?_;refine AW_skip (hK1 _ ?_);refine AW_then fun K2 hK2=>?_;refine AW_block ?_;refine rgm fw k33 [0,1,20] [500] ?_;refine AW_tt rfl ?_;refine rgm (Aq fw (Aq @tupX.eq_1 (Aq @tupX.eq_2 (Aq @dErr.eq_1 (Aq @dErr.eq_2 @dErr.eq_3))))) hc [6,7] [500] ?_;refine AW_then fun K3 hK3=>?_;refine rgq fw [6,7,31] [500] ?_;refine AW_tt rfl ?_;refine rgq fw [4,5] [500] ?_;refine AW_ret ?_;simp [D.le,D.le.go,takeMap,dNum,rRow,rdr,dS,rRow,rdr,tupX,posR,dErr,dQ]
   | ok x k=>
    rw [hr] at hc
    obtain ⟨tx,cx,hx⟩:=dE_ifc x
    refine MC.of_body (tyOf_good _) Tryz.func314 rfl rfl (rs:=[.tmp 4,.tmp 5]) Tryz.results314 (by simp [Tryz.ntmps314]) rfl fun X=>?_;simp only [Tryz.ntmps314]
    have fw:=(Aq @dNum.eq_1 (Aq @rRow.eq_1 (Aq @rdr.eq_1 @dS.eq_1)))
    refine rgq fw [0,1] [500] ?_;refine AW_then fun K1 hK1=>?_
    have qf:=(Aq fw @hd0)
    refine rgqv [0,1,17] [500] ?_;refine AW_ff rfl ?_;refine AW_skip (hK1 _ ?_);refine AW_then fun K2 hK2=>?_;refine AW_block ?_;refine rgm fw k33 [0,1,20] [500] ?_;refine AW_tt rfl ?_
    have qf:=(Aq fw (Aq @tupX.eq_1 (Aq @tupX.eq_2 @hx)))
    refine rgmv hc [6,7] [500] ?_;refine AW_then fun K3 hK3=>?_;refine rgq fw [6,7,31] [500] ?_;refine AW_ff rfl ?_;refine AW_skip (hK3 _ ?_);refine rgq fw [4,5] [500] ?_;refine AW_ret ?_;simp [D.le,D.le.go,takeMap,dNum,rRow,rdr,dS,rRow,rdr,tupX,posR,dE,hx,D.le_refl]
  rw [if_neg c33] at k33 ⊢
  by_cases c40:t[j]? = some 40
  ·rw [if_pos c40] at k40 ⊢
   have hc:=hor (j+1) (hlt c40)
   cases hr:orR t (oneR t d) (j+1) with
   | err c p q=>
    rw [hr] at hc;refine MC.of_body (tyOf_good _) Tryz.func314 rfl rfl (rs:=[.tmp 4,.tmp 5]) Tryz.results314 (by simp [Tryz.ntmps314]) rfl fun X=>?_;simp only [Tryz.ntmps314]
    have fw:=(Aq @dNum.eq_1 (Aq @rRow.eq_1 (Aq @rdr.eq_1 @dS.eq_1)))
    refine rgq fw [0,1] [500] ?_;refine AW_then fun K1 hK1=>?_
    have qf:=(Aq fw @hd0)
    refine rgqv [0,1,17] [500] ?_;refine AW_ff rfl ?_;refine AW_skip (hK1 _ ?_);refine AW_then fun K2 hK2=>?_;refine AW_block ?_;refine rgm fw k33 [0,1,20] [500] ?_;refine AW_ff rfl ?_;refine rgm fw k40 [0,1,36] [500] ?_;refine AW_tt rfl ?_;refine rgm (Aq fw (Aq @tupX.eq_1 (Aq @tupX.eq_2 (Aq @dErr.eq_1 (Aq @dErr.eq_2 @dErr.eq_3))))) hc [0,8,9] [500] ?_;refine AW_then fun K4 hK4=>?_;refine rgq fw [0,8,9,47] [500] ?_;refine AW_tt rfl ?_;refine rgq fw [4,5] [500] ?_;refine AW_ret ?_;simp [D.le,D.le.go,takeMap,dNum,rRow,rdr,dS,rRow,rdr,tupX,posR,dErr,dQ]
   | ok x k=>
    rw [hr] at hc
    obtain ⟨tx,cx,hx⟩:=dE_ifc x
    have hkt:=(or_goes (one_goes t d) (j+1) x k (hlt c40) hr).2
    have k41:=take_spec G t k ht60 hkt 41
    have htg:=take_goes (c:=41) hkt
    have h41:(takeM t 41 k).1=false→skipB t (takeM t 41 k).2=(takeM t 41 k).2:=fun h=>by
     unfold takeM at h ⊢
     split at h
     ·cases h
     ·rw [if_neg ‹_›];exact skipB_idem hkt
    cases htm:takeM t 41 k with
    | mk b k2=>
    rw [htm] at k41 htg h41
    dsimp only at k41 htg h41 ⊢
    cases b with
    | true=>
     refine MC.of_body (tyOf_good _) Tryz.func314 rfl rfl (rs:=[.tmp 4,.tmp 5]) Tryz.results314 (by simp [Tryz.ntmps314]) rfl fun X=>?_;simp only [Tryz.ntmps314]
     have fw:=(Aq @dNum.eq_1 (Aq @rRow.eq_1 (Aq @rdr.eq_1 @dS.eq_1)))
     refine rgq fw [0,1] [500] ?_;refine AW_then fun K1 hK1=>?_
     have qf:=(Aq fw @hd0)
     refine rgqv [0,1,17] [500] ?_;refine AW_ff rfl ?_;refine AW_skip (hK1 _ ?_);refine AW_then fun K2 hK2=>?_;refine AW_block ?_;refine rgm fw k33 [0,1,20] [500] ?_;refine AW_ff rfl ?_;refine rgm fw k40 [0,1,36] [500] ?_;refine AW_tt rfl ?_
     have qf:=(Aq fw (Aq @tupX.eq_1 (Aq @tupX.eq_2 (Aq @posR.eq_1 (Aq @posR.eq_2 @hx)))))
     refine rgmv hc [0,8,9] [500] ?_;refine AW_then fun K4 hK4=>?_;refine rgq fw [0,8,9,47] [500] ?_;refine AW_ff rfl ?_;refine AW_skip (hK4 _ ?_);refine AW_then fun K5 hK5=>?_;refine rgm fw k41 [0,8,51] [500] ?_;refine AW_ff rfl ?_;refine AW_skip (hK5 _ ?_);refine rgq fw [4,5] [500] ?_;refine AW_ret ?_;simp [D.le,D.le.go,takeMap,dNum,rRow,rdr,dS,rRow,rdr,tupX,posR,hx,htm,D.le_refl]
    | false=>
     have hfl:=fail_spec G t k2 ht60 htg.2.1 3
     rw [h41 rfl] at hfl;refine MC.of_body (tyOf_good _) Tryz.func314 rfl rfl (rs:=[.tmp 4,.tmp 5]) Tryz.results314 (by simp [Tryz.ntmps314]) rfl fun X=>?_;simp only [Tryz.ntmps314]
     have fw:=(Aq @dNum.eq_1 (Aq @rRow.eq_1 (Aq @rdr.eq_1 @dS.eq_1)))
     refine rgq fw [0,1] [500] ?_;refine AW_then fun K1 hK1=>?_
     have qf:=(Aq fw @hd0)
     refine rgqv [0,1,17] [500] ?_;refine AW_ff rfl ?_;refine AW_skip (hK1 _ ?_);refine AW_then fun K2 hK2=>?_;refine AW_block ?_;refine rgm fw k33 [0,1,20] [500] ?_;refine AW_ff rfl ?_;refine rgm fw k40 [0,1,36] [500] ?_;refine AW_tt rfl ?_
     have qf:=(Aq fw (Aq @tupX.eq_1 (Aq @tupX.eq_2 (Aq @posR.eq_1 (Aq @posR.eq_2 @hx)))))
     refine rgmv hc [0,8,9] [500] ?_;refine AW_then fun K4 hK4=>?_;refine rgq fw [0,8,9,47] [500] ?_;refine AW_ff rfl ?_;refine AW_skip (hK4 _ ?_);refine AW_then fun K5 hK5=>?_;refine rgm fw k41 [0,8,51] [500] ?_;refine AW_tt rfl ?_;refine rgm (Aq fw (Aq @dErr.eq_1 (Aq @dErr.eq_2 @dErr.eq_3))) hfl [4,5] [500] ?_;refine AW_ret ?_;simp [D.le,D.le.go,takeMap,dNum,rRow,rdr,dS,rRow,rdr,tupX,posR,dErr,dQ,htm]
  rw [if_neg c40] at k40 ⊢
  by_cases c48:t[j]? = some 48
  ·rw [if_pos c48] at k48 ⊢;refine MC.of_body (tyOf_good _) Tryz.func314 rfl rfl (rs:=[.tmp 4,.tmp 5]) Tryz.results314 (by simp [Tryz.ntmps314]) rfl fun X=>?_;simp only [Tryz.ntmps314]
   have fw:=(Aq @dNum.eq_1 (Aq @rRow.eq_1 (Aq @rdr.eq_1 @dS.eq_1)))
   refine rgq fw [0,1] [500] ?_;refine AW_then fun K1 hK1=>?_
   have qf:=(Aq fw @hd0)
   refine rgqv [0,1,17] [500] ?_;refine AW_ff rfl ?_;refine AW_skip (hK1 _ ?_);refine AW_then fun K2 hK2=>?_;refine AW_block ?_;refine rgm fw k33 [0,1,20] [500] ?_;refine AW_ff rfl ?_;refine rgm fw k40 [0,1,36] [500] ?_;refine AW_ff rfl ?_;refine rgm fw k48 [0,55] [500] ?_;refine AW_tt rfl ?_;refine rgq fw [4,5] [500] ?_;refine AW_ret ?_;simp [D.le,D.le.go,takeMap,dNum,rRow,rdr,dS,rRow,rdr,tupX,posR,dE]
  rw [if_neg c48] at k48 ⊢
  by_cases c49:t[j]? = some 49
  ·rw [if_pos c49] at k49 ⊢;refine MC.of_body (tyOf_good _) Tryz.func314 rfl rfl (rs:=[.tmp 4,.tmp 5]) Tryz.results314 (by simp [Tryz.ntmps314]) rfl fun X=>?_;simp only [Tryz.ntmps314]
   have fw:=(Aq @dNum.eq_1 (Aq @rRow.eq_1 (Aq @rdr.eq_1 @dS.eq_1)))
   refine rgq fw [0,1] [500] ?_;refine AW_then fun K1 hK1=>?_
   have qf:=(Aq fw @hd0)
   refine rgqv [0,1,17] [500] ?_;refine AW_ff rfl ?_;refine AW_skip (hK1 _ ?_);refine AW_then fun K2 hK2=>?_;refine AW_block ?_;refine rgm fw k33 [0,1,20] [500] ?_;refine AW_ff rfl ?_;refine rgm fw k40 [0,1,36] [500] ?_;refine AW_ff rfl ?_;refine rgm fw k48 [0,55] [500] ?_;refine AW_ff rfl ?_;refine rgm fw k49 [0,59] [500] ?_;refine AW_tt rfl ?_;refine rgq fw [4,5] [500] ?_;refine AW_ret ?_;simp [D.le,D.le.go,takeMap,dNum,rRow,rdr,dS,rRow,rdr,tupX,posR,dE]
  rw [if_neg c49] at k49 ⊢
  by_cases c94:t[j]? = some 94
  ·rw [if_pos c94] at k94 ⊢
   have hc:=word_spec G t 1 (j+1) ht60 (hlt c94)
   have hq:∀ {c:Int} {p q':Nat},wordR t 1 (j+1) = .err c p q'→q'=1:=fun h=>word_q h
   cases hr:wordR t 1 (j+1) with
   | err c p q'=>
    obtain rfl:=hq hr
    rw [hr] at hc;refine MC.of_body (tyOf_good _) Tryz.func314 rfl rfl (rs:=[.tmp 4,.tmp 5]) Tryz.results314 (by simp [Tryz.ntmps314]) rfl fun X=>?_;simp only [Tryz.ntmps314]
    have fw:=(Aq @dNum.eq_1 (Aq @rRow.eq_1 (Aq @rdr.eq_1 @dS.eq_1)))
    refine rgq fw [0,1] [500] ?_;refine AW_then fun K1 hK1=>?_
    have qf:=(Aq fw @hd0)
    refine rgqv [0,1,17] [500] ?_;refine AW_ff rfl ?_;refine AW_skip (hK1 _ ?_);refine AW_then fun K2 hK2=>?_;refine AW_block ?_;refine rgm fw k33 [0,1,20] [500] ?_;refine AW_ff rfl ?_;refine rgm fw k40 [0,1,36] [500] ?_;refine AW_ff rfl ?_;refine rgm fw k48 [0,55] [500] ?_;refine AW_ff rfl ?_;refine rgm fw k49 [0,59] [500] ?_;refine AW_ff rfl ?_;refine rgm fw k94 [0,63] [500] ?_;refine AW_tt rfl ?_;refine rgm (Aq fw (Aq @tupW.eq_1 (Aq @tupW.eq_2 (Aq @dErr.eq_1 (Aq @dErr.eq_2 @dErr.eq_3))))) hc [10,11] [500] ?_;refine rgq fw [4,5] [500] ?_;refine AW_ret ?_;simp [D.le,D.le.go,takeMap,dNum,rRow,rdr,dS,rRow,rdr,tupX,posR,dErr,dQ,Rs.map,bs_nil]
   | ok s p=>
    rw [hr] at hc;refine MC.of_body (tyOf_good _) Tryz.func314 rfl rfl (rs:=[.tmp 4,.tmp 5]) Tryz.results314 (by simp [Tryz.ntmps314]) rfl fun X=>?_;simp only [Tryz.ntmps314]
    have fw:=(Aq @dNum.eq_1 (Aq @rRow.eq_1 (Aq @rdr.eq_1 @dS.eq_1)))
    refine rgq fw [0,1] [500] ?_;refine AW_then fun K1 hK1=>?_
    have qf:=(Aq fw @hd0)
    refine rgqv [0,1,17] [500] ?_;refine AW_ff rfl ?_;refine AW_skip (hK1 _ ?_);refine AW_then fun K2 hK2=>?_;refine AW_block ?_;refine rgm fw k33 [0,1,20] [500] ?_;refine AW_ff rfl ?_;refine rgm fw k40 [0,1,36] [500] ?_;refine AW_ff rfl ?_;refine rgm fw k48 [0,55] [500] ?_;refine AW_ff rfl ?_;refine rgm fw k49 [0,59] [500] ?_;refine AW_ff rfl ?_;refine rgm fw k94 [0,63] [500] ?_;refine AW_tt rfl ?_;refine rgm (Aq fw (Aq @tupW.eq_1 @tupW.eq_2)) hc [10,11] [500] ?_;refine rgq fw [4,5] [500] ?_;refine AW_ret ?_;simp [D.le,D.le.go,takeMap,dNum,rRow,rdr,dS,rRow,rdr,tupX,posR,Rs.map,dE]
  rw [if_neg c94] at k94 ⊢
  by_cases c126:t[j]? = some 126
  ·rw [if_pos c126] at k126 ⊢
   have hc:=word_spec G t 2 (j+1) ht60 (hlt c126)
   have hq:∀ {c:Int} {p q':Nat},wordR t 2 (j+1) = .err c p q'→q'=2:=fun h=>word_q h
   cases hr:wordR t 2 (j+1) with
   | err c p q'=>
    obtain rfl:=hq hr
    rw [hr] at hc;refine MC.of_body (tyOf_good _) Tryz.func314 rfl rfl (rs:=[.tmp 4,.tmp 5]) Tryz.results314 (by simp [Tryz.ntmps314]) rfl fun X=>?_;simp only [Tryz.ntmps314]
    have fw:=(Aq @dNum.eq_1 (Aq @rRow.eq_1 (Aq @rdr.eq_1 @dS.eq_1)))
    refine rgq fw [0,1] [500] ?_;refine AW_then fun K1 hK1=>?_
    have qf:=(Aq fw @hd0)
    refine rgqv [0,1,17] [500] ?_;refine AW_ff rfl ?_;refine AW_skip (hK1 _ ?_);refine AW_then fun K2 hK2=>?_;refine AW_block ?_;refine rgm fw k33 [0,1,20] [500] ?_;refine AW_ff rfl ?_;refine rgm fw k40 [0,1,36] [500] ?_;refine AW_ff rfl ?_;refine rgm fw k48 [0,55] [500] ?_;refine AW_ff rfl ?_;refine rgm fw k49 [0,59] [500] ?_;refine AW_ff rfl ?_;refine rgm fw k94 [0,63] [500] ?_;refine AW_ff rfl ?_;refine rgm fw k126 [0,74] [500] ?_;refine AW_tt rfl ?_;refine rgm (Aq fw (Aq @tupW.eq_1 (Aq @tupW.eq_2 (Aq @dErr.eq_1 (Aq @dErr.eq_2 @dErr.eq_3))))) hc [12,13] [500] ?_;refine rgq fw [4,5] [500] ?_;refine AW_ret ?_;simp [D.le,D.le.go,takeMap,dNum,rRow,rdr,dS,rRow,rdr,tupX,posR,dErr,dQ,Rs.map,bs_nil]
   | ok s p=>
    rw [hr] at hc;refine MC.of_body (tyOf_good _) Tryz.func314 rfl rfl (rs:=[.tmp 4,.tmp 5]) Tryz.results314 (by simp [Tryz.ntmps314]) rfl fun X=>?_;simp only [Tryz.ntmps314]
    have fw:=(Aq @dNum.eq_1 (Aq @rRow.eq_1 (Aq @rdr.eq_1 @dS.eq_1)))
    refine rgq fw [0,1] [500] ?_;refine AW_then fun K1 hK1=>?_
    have qf:=(Aq fw @hd0)
    refine rgqv [0,1,17] [500] ?_;refine AW_ff rfl ?_;refine AW_skip (hK1 _ ?_);refine AW_then fun K2 hK2=>?_;refine AW_block ?_;refine rgm fw k33 [0,1,20] [500] ?_;refine AW_ff rfl ?_;refine rgm fw k40 [0,1,36] [500] ?_;refine AW_ff rfl ?_;refine rgm fw k48 [0,55] [500] ?_;refine AW_ff rfl ?_;refine rgm fw k49 [0,59] [500] ?_;refine AW_ff rfl ?_;refine rgm fw k94 [0,63] [500] ?_;refine AW_ff rfl ?_;refine rgm fw k126 [0,74] [500] ?_;refine AW_tt rfl ?_;refine rgm (Aq fw (Aq @tupW.eq_1 @tupW.eq_2)) hc [12,13] [500] ?_;refine rgq fw [4,5] [500] ?_;refine AW_ret ?_;simp [D.le,D.le.go,takeMap,dNum,rRow,rdr,dS,rRow,rdr,tupX,posR,Rs.map,dE]
  rw [if_neg c126] at k126 ⊢
  have hc:=word_spec G t 3 j ht60 htop
  have hq:∀ {c:Int} {p q':Nat},wordR t 3 j = .err c p q'→q'=3:=fun h=>word_q h
  cases hr:wordR t 3 j with
  | err c p q'=>
   obtain rfl:=hq hr
   rw [hr] at hc;refine MC.of_body (tyOf_good _) Tryz.func314 rfl rfl (rs:=[.tmp 4,.tmp 5]) Tryz.results314 (by simp [Tryz.ntmps314]) rfl fun X=>?_;simp only [Tryz.ntmps314]
   have fw:=(Aq @dNum.eq_1 (Aq @rRow.eq_1 (Aq @rdr.eq_1 @dS.eq_1)))
   refine rgq fw [0,1] [500] ?_;refine AW_then fun K1 hK1=>?_
   have qf:=(Aq fw @hd0)
   refine rgqv [0,1,17] [500] ?_;refine AW_ff rfl ?_;refine AW_skip (hK1 _ ?_);refine AW_then fun K2 hK2=>?_;refine AW_block ?_;refine rgm fw k33 [0,1,20] [500] ?_;refine AW_ff rfl ?_;refine rgm fw k40 [0,1,36] [500] ?_;refine AW_ff rfl ?_;refine rgm fw k48 [0,55] [500] ?_;refine AW_ff rfl ?_;refine rgm fw k49 [0,59] [500] ?_;refine AW_ff rfl ?_;refine rgm fw k94 [0,63] [500] ?_;refine AW_ff rfl ?_;refine rgm fw k126 [0,74] [500] ?_;refine AW_ff rfl ?_;refine AW_skip (hK2 _ ?_);refine rgm (Aq fw (Aq @tupW.eq_1 (Aq @tupW.eq_2 (Aq @dErr.eq_1 (Aq @dErr.eq_2 @dErr.eq_3))))) hc [14,15] [500] ?_;refine rgq fw [4,5] [500] ?_;refine AW_ret ?_;simp [D.le,D.le.go,takeMap,dNum,rRow,rdr,dS,rRow,rdr,tupX,posR,dErr,dQ,Rs.map,bs_nil]
  | ok s p=>
   rw [hr] at hc;refine MC.of_body (tyOf_good _) Tryz.func314 rfl rfl (rs:=[.tmp 4,.tmp 5]) Tryz.results314 (by simp [Tryz.ntmps314]) rfl fun X=>?_;simp only [Tryz.ntmps314]
   have fw:=(Aq @dNum.eq_1 (Aq @rRow.eq_1 (Aq @rdr.eq_1 @dS.eq_1)))
   refine rgq fw [0,1] [500] ?_;refine AW_then fun K1 hK1=>?_
   have qf:=(Aq fw @hd0)
   refine rgqv [0,1,17] [500] ?_;refine AW_ff rfl ?_;refine AW_skip (hK1 _ ?_);refine AW_then fun K2 hK2=>?_;refine AW_block ?_;refine rgm fw k33 [0,1,20] [500] ?_;refine AW_ff rfl ?_;refine rgm fw k40 [0,1,36] [500] ?_;refine AW_ff rfl ?_;refine rgm fw k48 [0,55] [500] ?_;refine AW_ff rfl ?_;refine rgm fw k49 [0,59] [500] ?_;refine AW_ff rfl ?_;refine rgm fw k94 [0,63] [500] ?_;refine AW_ff rfl ?_;refine rgm fw k126 [0,74] [500] ?_;refine AW_ff rfl ?_;refine AW_skip (hK2 _ ?_);refine rgm (Aq fw (Aq @tupW.eq_1 @tupW.eq_2)) hc [14,15] [500] ?_;refine rgq fw [4,5] [500] ?_;refine AW_ret ?_;simp [D.le,D.le.go,takeMap,dNum,rRow,rdr,dS,rRow,rdr,tupX,posR,Rs.map,dE]
end Go.Proofs.YtpboiimemmfkiaaGreatDoor
namespace Go.Proofs.YtpboiimemmfkiaaGreatDoor
open Go.Av
theorem renH_one {r r':Nat} (h:r≠r') (row:Row):renH r r' (hlst [(r,row)])=hlst [(r',row.tr (renO r r') (renF r r'))]:=by
 funext q
 unfold renH
 by_cases h1:q=r'
 ·subst h1;simp [hlst,List.lookup]
 ·rw [if_neg h1]
  by_cases h2:q=r
  ·subst h2;simp [hlst,List.lookup,h1,beq_eq_false_iff_ne.2 h1]
  ·simp [hlst,List.lookup,h2,beq_eq_false_iff_ne.2 h1,beq_eq_false_iff_ne.2 h2]
def dOE:Option Ex→D
 | some x=>dE x
 | none=>.v .nilIface
set_option maxHeartbeats 4000000 in
theorem parse_spec (G:Glob) (t:List UInt8) (ht:t.length < 2^60):PureC Tryz.prog G 213 [dS t] (.tup [dOE (parseM t).1,dErr (parseM t).2]):=by
 unfold parseM
 by_cases hl:2000 < t.length
 ·have hl':(2000:Int) < (t.length:Int):=by omega
  rw [if_pos hl];refine PureC.of_body (tyOf_good _) Tryz.func213 rfl rfl (rs:=[.tmp 2,.tmp 3]) Tryz.results213 (by simp [Tryz.ntmps213]) fun X=>?_;simp only [Tryz.ntmps213,List.map]
  have fw:=(Aq @dNum.eq_1 (Aq @rRow.eq_1 (Aq @rdr.eq_1 @dS.eq_1)))
  refine rgq fw [0] [] ?_;refine AW_then fun K1 hK1=>?_
  have qf:=(Aq fw (Aq @bs_size (Aq @hl @hl')))
  refine rgqv [0,9] [] ?_;refine AW_tt rfl ?_;refine rgq fw [2,3] [] ?_;refine AW_ret ?_;simp [D.le,D.le.go,takeMap,dNum,rRow,rdr,dS,dOE,dErr]
 have hl':¬ (2000:Int) < (t.length:Int):=by omega
 rw [if_neg hl]
 have hor:=or_spec G t (by omega) 20 (one_spec G t (by omega) 20 (by decide)) 0 (Nat.zero_le _)
 cases hr:orR t (oneR t 20) 0 with
 | err c p q=>
  rw [hr] at hor;refine PureC.of_body (tyOf_good _) Tryz.func213 rfl rfl (rs:=[.tmp 2,.tmp 3]) Tryz.results213 (by simp [Tryz.ntmps213]) fun X=>?_;simp only [Tryz.ntmps213,List.map]
  have fw:=(Aq @dNum.eq_1 (Aq @rRow.eq_1 (Aq @rdr.eq_1 @dS.eq_1)))
  refine rgq fw [0] [] ?_;refine AW_then fun K1 hK1=>?_
  have qf:=(Aq fw (Aq @bs_size (Aq @hl @hl')))
  refine rgqv [0,9] [] ?_;refine AW_ff rfl ?_;refine AW_skip (hK1 _ ?_);refine rgq fw [0,4] [13] ?_;refine AW.imp (Imp.ren (r:=13) (r':=500) trivial (by simp)) ?_;refine AW.st (by simp [renO,renF,Go.Av.ren,renH_one];rfl) ?_;refine rgm (Aq fw (Aq @tupX.eq_1 (Aq @tupX.eq_2 (Aq @dErr.eq_1 (Aq @dErr.eq_2 @dErr.eq_3))))) hor [0,4,5,6] [500] ?_;refine AW_then fun K2 hK2=>?_;refine rgq fw [0,4,5,6,20] [500] ?_;refine AW_tt rfl ?_;refine rgq fw [2,3] [] ?_;refine AW_ret ?_;simp [D.le,D.le.go,takeMap,dNum,rRow,rdr,dS,dOE,dErr]
 | ok x k=>
  rw [hr] at hor
  have hk:=(or_goes (one_goes t 20) 0 x k (Nat.zero_le _) hr).2
  have hbl:=blanks_spec G t k (by omega) hk
  have htop:=skipB_top hk
  have hfl:=fail_spec G t (skipB t k) (by omega) htop 3
  rw [skipB_idem hk] at hfl
  obtain ⟨tx,cx,hx⟩:=dE_ifc x
  dsimp only
  generalize skipB t k=j at hbl htop hfl ⊢
  by_cases hj:j < t.length
  ·have hj':(j:Int) < (t.length:Int):=by omega
   rw [if_pos hj];refine PureC.of_body (tyOf_good _) Tryz.func213 rfl rfl (rs:=[.tmp 2,.tmp 3]) Tryz.results213 (by simp [Tryz.ntmps213]) fun X=>?_;simp only [Tryz.ntmps213,List.map]
   have fw:=(Aq @dNum.eq_1 (Aq @rRow.eq_1 (Aq @rdr.eq_1 @dS.eq_1)))
   refine rgq fw [0] [] ?_;refine AW_then fun K1 hK1=>?_
   have qf:=(Aq fw (Aq @bs_size (Aq @hl @hl')))
   refine rgqv [0,9] [] ?_;refine AW_ff rfl ?_;refine AW_skip (hK1 _ ?_);refine rgq fw [0,4] [13] ?_;refine AW.imp (Imp.ren (r:=13) (r':=500) trivial (by simp)) ?_;refine AW.st (by simp [renO,renF,Go.Av.ren,renH_one];rfl) ?_
   have qf:=(Aq fw (Aq @tupX.eq_1 (Aq @tupX.eq_2 (Aq @posR.eq_1 (Aq @posR.eq_2 @hx)))))
   refine rgmv hor [0,4,5,6] [500] ?_;refine AW_then fun K2 hK2=>?_;refine rgq fw [0,4,5,6,20] [500] ?_;refine AW_ff rfl ?_;refine AW_skip (hK2 _ ?_);refine AW_then fun K3 hK3=>?_;refine rgm fw hbl [0,4,5] [500] ?_
   have qf:=(Aq fw (Aq @bs_size (Aq @hj @hj')))
   refine rgqv [4,5,30] [500] ?_;refine AW_tt rfl ?_;refine rgm (Aq fw (Aq @dErr.eq_1 (Aq @dErr.eq_2 @dErr.eq_3))) hfl [2,3] [] ?_;refine AW_ret ?_;simp [D.le,D.le.go,takeMap,dNum,rRow,rdr,dS,dOE,dErr]
  ·have hj':¬ (j:Int) < (t.length:Int):=by omega
   rw [if_neg hj];refine PureC.of_body (tyOf_good _) Tryz.func213 rfl rfl (rs:=[.tmp 2,.tmp 3]) Tryz.results213 (by simp [Tryz.ntmps213]) fun X=>?_;simp only [Tryz.ntmps213,List.map]
   have fw:=(Aq @dNum.eq_1 (Aq @rRow.eq_1 (Aq @rdr.eq_1 @dS.eq_1)))
   refine rgq fw [0] [] ?_;refine AW_then fun K1 hK1=>?_
   have qf:=(Aq fw (Aq @bs_size (Aq @hl @hl')))
   refine rgqv [0,9] [] ?_;refine AW_ff rfl ?_;refine AW_skip (hK1 _ ?_);refine rgq fw [0,4] [13] ?_;refine AW.imp (Imp.ren (r:=13) (r':=500) trivial (by simp)) ?_;refine AW.st (by simp [renO,renF,Go.Av.ren,renH_one];rfl) ?_
   have qf:=(Aq fw (Aq @tupX.eq_1 (Aq @tupX.eq_2 (Aq @posR.eq_1 (Aq @posR.eq_2 @hx)))))
   refine rgmv hor [0,4,5,6] [500] ?_;refine AW_then fun K2 hK2=>?_;refine rgq fw [0,4,5,6,20] [500] ?_;refine AW_ff rfl ?_;refine AW_skip (hK2 _ ?_);refine AW_then fun K3 hK3=>?_;refine rgm fw hbl [0,4,5] [500] ?_
   have qf:=(Aq fw (Aq @bs_size (Aq @hj @hj')))
   refine rgqv [4,5,30] [500] ?_;refine AW_ff rfl ?_;refine AW_skip (hK3 _ ?_);refine rgq fw [2,3] [] ?_;refine AW_ret ?_;simp [D.le,D.le.go,takeMap,dNum,rRow,rdr,dS,dOE,dErr,hx,D.le_refl]
end Go.Proofs.YtpboiimemmfkiaaGreatDoor
namespace Go.Proofs.YtpboiimemmfkiaaGreatDoor
open Go.Av
theorem bEs_take {l:List Ex} {i:Nat} (hi:i < l.length):bEs (l.take i)+bE l[i]≤bEs l:=by
 have h1:=bEs_app (l.take i) [l[i]]
 rw [← List.take_succ_eq_append_getElem hi] at h1
 have h2:=bEs_app (l.take (i+1)) (l.drop (i+1))
 rw [List.take_append_drop] at h2;simp only [bEs] at h1
 omega
end Go.Proofs.YtpboiimemmfkiaaGreatDoor
namespace Go.Proofs.YtpboiimemmfkiaaGreatDoor
open Go.Av
theorem cells_one {y:D} (h:y.one=true):valCells (.d y)=some [.d y]:=by
 cases y<;>first | (simp [valCells,AV.one,D.one] at h ⊢;done) | (simp [D.one] at h;simp [valCells,AV.one,D.one,h])
end Go.Proofs.YtpboiimemmfkiaaGreatDoor
namespace Go.Proofs.YtpboiimemmfkiaaGreatDoor
open Go.Av
def nmE (all:Bool):Ex→List UInt8
 | .bit s=>if all then s else []
 | .rise s=>s
 | .fall s=>s
 | _=>[]
def one1 (s:List UInt8):List (List UInt8):=if s=[] then [] else [s]
mutual
def nmsE (all:Bool):Ex→List (List UInt8)
 | .not e=>nmsE all e
 | .and l=>nmsL all l
 | .or l=>nmsL all l
 | e=>one1 (nmE all e)
def nmsL (all:Bool):List Ex→List (List UInt8)
 | []=>[]
 | e :: l=>nmsE all e ++ nmsL all l
end
theorem nmsL_app (all:Bool):∀ a b:List Ex,nmsL all (a ++ b)=nmsL all a ++ nmsL all b
 | [],b=>rfl
 | e :: a,b=>by simp [nmsL,nmsL_app all a b]
theorem nmsL_take (all:Bool) {l:List Ex} {i:Nat} (hi:i < l.length):nmsL all (l.take (i+1))=nmsL all (l.take i) ++ nmsE all l[i]:=by
 rw [List.take_succ_eq_append_getElem hi,nmsL_app];simp [nmsL]
theorem nms_b (all:Bool):∀ (n:Nat) (e:Ex),SizeOf.sizeOf e≤n→(nmsE all e).length≤bE e
 | 0,e,hn=>by cases e<;>simp at hn
 | n+1,e,hn=>by
  have many:∀ l:List Ex,(∀ x∈l,SizeOf.sizeOf x≤n)→(nmsL all l).length≤bEs l:=by
   intro l
   induction l with
   | nil=>intro _;simp [nmsL]
   | cons x l ih=>
    intro h
    have a:=ih fun y hy=>h y (by simp [hy])
    have b:=nms_b all n x (h x (by simp))
    simp only [nmsL,bEs,List.length_append]
    omega
  have hone:∀ s,(one1 s).length≤1:=fun s=>by unfold one1;split<;>simp
  have hp:=bE_pos e
  cases e with
  | not x=>have:=nms_b all n x (by simp at hn;omega);simp only [nmsE,bE];omega
  | and l=>
   have:=many l fun x hx=>by have:=List.sizeOf_lt_of_mem hx;simp only [Ex.and.sizeOf_spec] at hn;omega
   simp only [nmsE,bE];omega
  | or l=>
   have:=many l fun x hx=>by have:=List.sizeOf_lt_of_mem hx;simp only [Ex.or.sizeOf_spec] at hn;omega
   simp only [nmsE,bE];omega
  | cst b=>have:=hone (nmE all (.cst b));simp only [nmsE];omega
  | bit s=>have:=hone (nmE all (.bit s));simp only [nmsE];omega
  | rise s=>have:=hone (nmE all (.rise s));simp only [nmsE];omega
  | fall s=>have:=hone (nmE all (.fall s));simp only [nmsE];omega
theorem nms_len (all:Bool) (e:Ex):(nmsE all e).length≤bE e:=nms_b all _ e (Nat.le_refl _)
theorem nmsL_len (all:Bool):∀ l:List Ex,(nmsL all l).length≤bEs l
 | []=>by simp [nmsL]
 | e :: l=>by have:=nms_len all e;have:=nmsL_len all l;simp only [nmsL,bEs,List.length_append];omega
def nRow (l:List (List UInt8)):List (Nat×Row):=[(502,.box 113 [.own 503 0 l.length]),(503,.sl 9 1 (l.map fun s=>[dS s]))]
def fnOf (all:Bool):FuncId:=if all then 172 else 186
set_option maxHeartbeats 8000000 in
theorem names1_spec (G:Glob) (e:Ex):PureC Tryz.prog G 172 [dE e] (dS (nmE true e)):=by
 by_cases h1:∃ s,e = .bit s
 ·obtain ⟨s,rfl⟩:=h1
  rw [dE];refine PureC.of_body (tyOf_good _) Tryz.func172 rfl rfl (rs:=[.tmp 2]) Tryz.results172 (by simp [Tryz.ntmps172]) fun X=>?_;simp only [Tryz.ntmps172,List.map]
  have fw:=(Aq @dNum.eq_1 (Aq @dS.eq_1 (Aq @pairA.eq_1 (Aq @pairA.eq_2 @assertA.eq_1))))
  refine rgq fw [0] [] ?_;refine AW_then fun K1 hK1=>?_;refine rgq fw [6] [] ?_;refine AW_block ?_;refine rgq fw [6,8,9] [] ?_;refine AW_tt rfl ?_;refine rgq fw [3] [] ?_;refine rgq fw [2] [] ?_;refine AW_ret ?_;simp [D.le,D.le.go,takeMap,dNum,dS,pairA,assertA,nmE,dS,D.le_refl]
 by_cases h2:∃ s,e = .rise s
 ·obtain ⟨s,rfl⟩:=h2
  rw [dE];refine PureC.of_body (tyOf_good _) Tryz.func172 rfl rfl (rs:=[.tmp 2]) Tryz.results172 (by simp [Tryz.ntmps172]) fun X=>?_;simp only [Tryz.ntmps172,List.map]
  have fw:=(Aq @dNum.eq_1 (Aq @dS.eq_1 (Aq @pairA.eq_1 (Aq @pairA.eq_2 @assertA.eq_1))))
  refine rgq fw [0] [] ?_;refine AW_then fun K1 hK1=>?_;refine rgq fw [6] [] ?_;refine AW_block ?_;refine rgq fw [6,8,9] [] ?_;refine AW_ff rfl ?_;refine rgq fw [6,12,13] [] ?_;refine AW_tt rfl ?_;refine rgq fw [4] [] ?_;refine rgq fw [2] [] ?_;refine AW_ret ?_;simp [D.le,D.le.go,takeMap,dNum,dS,pairA,assertA,nmE,dS,D.le_refl]
 by_cases h3:∃ s,e = .fall s
 ·obtain ⟨s,rfl⟩:=h3
  rw [dE];refine PureC.of_body (tyOf_good _) Tryz.func172 rfl rfl (rs:=[.tmp 2]) Tryz.results172 (by simp [Tryz.ntmps172]) fun X=>?_;simp only [Tryz.ntmps172,List.map]
  have fw:=(Aq @dNum.eq_1 (Aq @dS.eq_1 (Aq @pairA.eq_1 (Aq @pairA.eq_2 @assertA.eq_1))))
  refine rgq fw [0] [] ?_;refine AW_then fun K1 hK1=>?_;refine rgq fw [6] [] ?_;refine AW_block ?_;refine rgq fw [6,8,9] [] ?_;refine AW_ff rfl ?_;refine rgq fw [6,12,13] [] ?_;refine AW_ff rfl ?_;refine rgq fw [16,17] [] ?_;refine AW_tt rfl ?_;refine rgq fw [5] [] ?_;refine rgq fw [2] [] ?_;refine AW_ret ?_;simp [D.le,D.le.go,takeMap,dNum,dS,pairA,assertA,nmE,dS,D.le_refl]
 have hk:∃ t c,dE e = .ifc t c∧¬ t=147∧¬ t=159∧¬ t=161∧nmE true e=[]:=by
  cases e with
  | bit s=>exact absurd ⟨s,rfl⟩ h1
  | rise s=>exact absurd ⟨s,rfl⟩ h2
  | fall s=>exact absurd ⟨s,rfl⟩ h3
  | cst b=>exact ⟨_,_,by rw [dE],by decide,by decide,by decide,rfl⟩
  | not b=>exact ⟨_,_,by rw [dE],by decide,by decide,by decide,rfl⟩
  | and b=>exact ⟨_,_,by rw [dE],by decide,by decide,by decide,rfl⟩
  | or b=>exact ⟨_,_,by rw [dE],by decide,by decide,by decide,rfl⟩
 obtain ⟨t,c,hy,a1,a2,a3,a4⟩:=hk
 rw [a4,hy];refine PureC.of_body (tyOf_good _) Tryz.func172 rfl rfl (rs:=[.tmp 2]) Tryz.results172 (by simp [Tryz.ntmps172]) fun X=>?_;simp only [Tryz.ntmps172,List.map]
 have fw:=(Aq @dNum.eq_1 (Aq @dS.eq_1 (Aq @pairA.eq_1 (Aq @pairA.eq_2 @assertA.eq_1))))
 refine rgq fw [0] [] ?_;refine AW_then fun K1 hK1=>?_;refine rgq fw [6] [] ?_;refine AW_block ?_
 have qf:=(Aq fw @a1)
 refine rgqv [6,8,9] [] ?_;refine AW_ff rfl ?_
 have qf:=(Aq fw @a2)
 refine rgqv [6,12,13] [] ?_;refine AW_ff rfl ?_
 have qf:=(Aq fw @a3)
 refine rgqv [16,17] [] ?_;refine AW_ff rfl ?_;refine AW_skip (hK1 _ ?_);refine rgq fw [2] [] ?_;refine AW_ret ?_;simp [D.le,D.le.go,takeMap,dNum,dS,pairA,assertA,dS,bs_nil,D.le_refl]
set_option maxHeartbeats 8000000 in
theorem edges1_spec (G:Glob) (e:Ex):PureC Tryz.prog G 186 [dE e] (dS (nmE false e)):=by
 by_cases h2:∃ s,e = .rise s
 ·obtain ⟨s,rfl⟩:=h2
  rw [dE];refine PureC.of_body (tyOf_good _) Tryz.func186 rfl rfl (rs:=[.tmp 2]) Tryz.results186 (by simp [Tryz.ntmps186]) fun X=>?_;simp only [Tryz.ntmps186,List.map]
  have fw:=(Aq @dNum.eq_1 (Aq @dS.eq_1 (Aq @pairA.eq_1 (Aq @pairA.eq_2 @assertA.eq_1))))
  refine rgq fw [0] [] ?_;refine AW_then fun K1 hK1=>?_;refine rgq fw [5] [] ?_;refine AW_block ?_;refine rgq fw [5,7,8] [] ?_;refine AW_tt rfl ?_;refine rgq fw [3] [] ?_;refine rgq fw [2] [] ?_;refine AW_ret ?_;simp [D.le,D.le.go,takeMap,dNum,dS,pairA,assertA,nmE,dS,D.le_refl]
 by_cases h3:∃ s,e = .fall s
 ·obtain ⟨s,rfl⟩:=h3
  rw [dE];refine PureC.of_body (tyOf_good _) Tryz.func186 rfl rfl (rs:=[.tmp 2]) Tryz.results186 (by simp [Tryz.ntmps186]) fun X=>?_;simp only [Tryz.ntmps186,List.map]
  have fw:=(Aq @dNum.eq_1 (Aq @dS.eq_1 (Aq @pairA.eq_1 (Aq @pairA.eq_2 @assertA.eq_1))))
  refine rgq fw [0] [] ?_;refine AW_then fun K1 hK1=>?_;refine rgq fw [5] [] ?_;refine AW_block ?_;refine rgq fw [5,7,8] [] ?_;refine AW_ff rfl ?_;refine rgq fw [11,12] [] ?_;refine AW_tt rfl ?_;refine rgq fw [4] [] ?_;refine rgq fw [2] [] ?_;refine AW_ret ?_;simp [D.le,D.le.go,takeMap,dNum,dS,pairA,assertA,nmE,dS,D.le_refl]
 have hk:∃ t c,dE e = .ifc t c∧¬ t=159∧¬ t=161∧nmE false e=[]:=by
  cases e with
  | rise s=>exact absurd ⟨s,rfl⟩ h2
  | fall s=>exact absurd ⟨s,rfl⟩ h3
  | cst b=>exact ⟨_,_,by rw [dE],by decide,by decide,rfl⟩
  | bit b=>exact ⟨_,_,by rw [dE],by decide,by decide,rfl⟩
  | not b=>exact ⟨_,_,by rw [dE],by decide,by decide,rfl⟩
  | and b=>exact ⟨_,_,by rw [dE],by decide,by decide,rfl⟩
  | or b=>exact ⟨_,_,by rw [dE],by decide,by decide,rfl⟩
 obtain ⟨t,c,hy,a2,a3,a4⟩:=hk
 rw [a4,hy];refine PureC.of_body (tyOf_good _) Tryz.func186 rfl rfl (rs:=[.tmp 2]) Tryz.results186 (by simp [Tryz.ntmps186]) fun X=>?_;simp only [Tryz.ntmps186,List.map]
 have fw:=(Aq @dNum.eq_1 (Aq @dS.eq_1 (Aq @pairA.eq_1 (Aq @pairA.eq_2 @assertA.eq_1))))
 refine rgq fw [0] [] ?_;refine AW_then fun K1 hK1=>?_;refine rgq fw [5] [] ?_;refine AW_block ?_
 have qf:=(Aq fw @a2)
 refine rgqv [5,7,8] [] ?_;refine AW_ff rfl ?_
 have qf:=(Aq fw @a3)
 refine rgqv [11,12] [] ?_;refine AW_ff rfl ?_;refine AW_skip (hK1 _ ?_);refine rgq fw [2] [] ?_;refine AW_ret ?_;simp [D.le,D.le.go,takeMap,dNum,dS,pairA,assertA,dS,bs_nil,D.le_refl]
theorem name1_spec (G:Glob) (all:Bool) (e:Ex):PureC Tryz.prog G (fnOf all) [dE e] (dS (nmE all e)):=by
 cases all with
 | true=>exact names1_spec G e
 | false=>exact edges1_spec G e
set_option maxHeartbeats 8000000 in
theorem gather_spec (G:Glob) (all:Bool) (l:List (List UInt8)) (e:Ex) (hl:l.length < 2^40):MC Tryz.prog G [502] 223 ([.d (dE e)] ++ [.d (.ip [.fn (.func (fnOf all)) []]),.ref 502 0 0]) (hlst (nRow l)) (.d (.tup [])) (hlst (nRow (l ++ one1 (nmE all e)))):=by
 have hn:=name1_spec G all e
 obtain ⟨t,c,hx⟩:=dE_ifc e
 rw [hx] at hn ⊢;generalize fnOf all=g at hn ⊢;generalize nmE all e=s at hn ⊢
 by_cases hs:s=[]
 ·subst hs
  have he:l ++ one1 []=l:=by simp [one1]
  rw [he];refine MC.of_body (tyOf_good _) Tryz.func223 rfl rfl (rs:=[]) Tryz.results223 (by simp [Tryz.ntmps223]) rfl fun X=>?_;simp only [Tryz.ntmps223]
  have fw:=(Aq @dNum.eq_1 (Aq @dS.eq_1 @nRow.eq_1))
  refine rgc fw hn [2,4] [502,503] ?_;refine rg [2,4,9] [502,503] (notIn_ok rfl) fun K' hK'=>?_;(repeat (refine sxn fun K2 hK2=>?_;simp [dNum,dS,nRow,binS,bs_list,bs_nil];(repeat (refine ⟨by omega,?_⟩));refine hK2 _ ?_;clear hK2 K2));refine sxz (hK' _ (AW.st (by simp [dNum,dS,nRow,binS,bs_list,bs_nil];rfl) ?_));clear hK' K';refine AW_ff rfl ?_;refine AW_skip ?_;simp [D.le_refl,nRow,dS]
 ·have he:one1 s=[s]:=by unfold one1;rw [if_neg hs]
  have hse:s.isEmpty=false:=by rw [List.isEmpty_eq_false_iff];exact hs
  have hsb:(s == [])=false:=by simpa using hs
  rw [he];refine MC.of_body (tyOf_good _) Tryz.func223 rfl rfl (rs:=[]) Tryz.results223 (by simp [Tryz.ntmps223]) rfl fun X=>?_;simp only [Tryz.ntmps223]
  have fw:=(Aq @dNum.eq_1 (Aq @dS.eq_1 @nRow.eq_1))
  refine rgc fw hn [2,4] [502,503] ?_;refine rg [2,4,9] [502,503] (notIn_ok rfl) fun K' hK'=>?_;(repeat (refine sxn fun K2 hK2=>?_;simp [dNum,dS,nRow,binS,bs_list,bs_nil,hs,hse,hsb];(repeat (refine ⟨by omega,?_⟩));refine hK2 _ ?_;clear hK2 K2));refine sxz (hK' _ (AW.st (by simp [dNum,dS,nRow,binS,bs_list,bs_nil,hs,hse,hsb];rfl) ?_));clear hK' K';refine AW_tt rfl ?_;refine AW_re (tyOf_good _) fun K' hK'=>?_;(repeat (refine sxn fun K2 hK2=>?_;simp [dNum,dS,nRow,List.take_of_length_le];(repeat (refine ⟨by omega,?_⟩));refine hK2 _ ?_;clear hK2 K2));refine sxz (hK' _ ?_);clear hK' K';(try simp only [thn,inb]);simp [D.le_refl,nRow,dS]
set_option maxHeartbeats 16000000 in
theorem walkN_at (G:Glob) (all:Bool):∀ (m:Nat) (e:Ex),SizeOf.sizeOf e≤m→∀ l0:List (List UInt8),l0.length+bE e≤2^39→MC Tryz.prog G [502] 222 [.d (dE e),.fn (.func 223) [.d (.ip [.fn (.func (fnOf all)) []]),.ref 502 0 0]] (hlst (nRow l0)) (.d (.tup [])) (hlst (nRow (l0 ++ nmsE all e))):=by
 intro m
 induction m with
 | zero=>intro e hsz;cases e<;>simp at hsz
 | succ m ih=>
  intro e hsz l0 hb
  have hbp:=bE_pos e
  by_cases hN:∃ x,e = .not x
  ·obtain ⟨x,rfl⟩:=hN
   simp only [bE] at hb
   obtain ⟨tx,cx,hx⟩:=dE_ifc x
   have hs1:=gather_spec G all l0 (.not x) (by omega)
   have hnil:one1 (nmE all (.not x))=[]:=rfl
   rw [hnil,List.append_nil,List.singleton_append] at hs1
   have hc:=ih x (by simp at hsz;omega) l0 (by omega)
   rw [nmsE];rw [dE,hx];rw [dE,hx] at hs1;rw [hx] at hc;generalize l0 ++ nmsE all x=l1 at hc ⊢;generalize fnOf all=g at hc hs1 ⊢;refine MC.of_body (tyOf_good _) Tryz.func222 rfl rfl (rs:=[]) Tryz.results222 (by simp [Tryz.ntmps222]) rfl fun X=>?_;simp only [Tryz.ntmps222]
   have fw:=(Aq @dNum.eq_1 (Aq @dS.eq_1 (Aq @nRow.eq_1 (Aq @pairA.eq_1 (Aq @pairA.eq_2 @assertA.eq_1)))))
   refine rgm fw hs1 [0,1] [502,503] ?_;refine rgq fw [1,14] [502,503] ?_;refine AW_block ?_;refine rgq fw [1,14,16,17] [502,503] ?_;refine AW_tt rfl ?_;refine rgq fw [1,4] [4,502,503] ?_;refine AW_re (tyOf_good _) fun K' hK'=>?_;(repeat (refine sxn fun K2 hK2=>?_;simp [dNum,dS,nRow,pairA,assertA];(repeat (refine ⟨by omega,?_⟩));refine hK2 _ ?_;clear hK2 K2));refine sxn fun K2 hK2=>?_;simp [dNum,dS,nRow,pairA,assertA];refine callK.mc (hc) ?_ ?_ ?_ ?_ ?_<;>simp [dNum,dS,nRow,pairA,assertA];refine hK2 _ ?_;clear hK2 K2;(repeat (refine sxn fun K2 hK2=>?_;simp [dNum,dS,nRow,pairA,assertA];(repeat (refine ⟨by omega,?_⟩));refine hK2 _ ?_;clear hK2 K2));refine sxz (hK' _ ?_);clear hK' K';(try simp only [thn,inb]);simp [D.le_refl,nRow,dS]
  by_cases hand:∃ l,e = .and l
  ·obtain ⟨l,rfl⟩:=hand
   simp only [bE] at hb
   have hs1:=gather_spec G all l0 (.and l) (by omega)
   have hnil:one1 (nmE all (.and l))=[]:=rfl
   rw [hnil,List.append_nil,List.singleton_append] at hs1
   have hch:=fun (x:Ex) (hx:x∈l)=>ih x (by have:=List.sizeOf_lt_of_mem hx;simp only [Ex.and.sizeOf_spec] at hsz;omega)
   have hln:=bEs_len l
   rw [nmsE];rw [dE,dEs_map];rw [dE,dEs_map] at hs1;clear ih;generalize hg:fnOf all=g at hch hs1 ⊢;refine MC.of_body (tyOf_good _) Tryz.func222 rfl rfl (rs:=[]) Tryz.results222 (by simp [Tryz.ntmps222]) rfl fun X=>?_;simp only [Tryz.ntmps222]
   have fw:=(Aq @dNum.eq_1 (Aq @dS.eq_1 (Aq @nRow.eq_1 (Aq @pairA.eq_1 (Aq @pairA.eq_2 @assertA.eq_1)))))
   refine rgm fw hs1 [0,1] [502,503] ?_;refine rgq fw [1,14] [502,503] ?_;refine AW_block ?_;refine rgq fw [1,14,16,17] [502,503] ?_;refine AW_ff rfl ?_;refine rgq fw [1,14,23,24] [502,503] ?_;refine AW_tt rfl ?_;refine rgq fw [1,5] [502,503] ?_;refine rgq fw [1,25,26,27] [502,503] ?_;refine AW_for (S:=Nat) (fun i=>i≤l.length) (fun i=>⟨lst [(1,.fn (.func 223) [.d (.ip [.fn (.func g) []]),.ref 502 0 0]),(25,.d (.sl none (l.map fun e=>[dE e]))),(26,int l.length),(27,int i)],hlst (nRow (l0 ++ nmsL all (l.take i)))⟩) (fun i=>l.length - i) 0 ?_ (by omega) ?_
   ·refine Imp.to' (notIn_ok rfl) (by simp [dNum,dS,nRow,pairA,assertA,nmsL]) (by simp [dNum,dS,nRow,pairA,assertA,nmsL])
   ·intro i hi
    refine rgq fw [1,25,26,27,28] [502,503] ?_;refine AW_then fun K1 hK1=>?_;refine AW_cond' (b:=i < l.length) (by simp [D.le,D.le.go,takeMap,dNum,dS,nRow,pairA,assertA]) (fun hc=>?_) (fun hc=>?_)
    ·have hil:i < l.length:=hc
     have h1:=nmsL_take all hil
     have h2:=nmsL_len all (l.take i)
     have h3:=bEs_take hil
     have hcc:=hch _ (List.getElem_mem hil) (l0 ++ nmsL all (l.take i)) (by rw [List.length_append];omega)
     rw [List.append_assoc,← h1] at hcc
     obtain ⟨tx,cx,hx⟩:=dE_ifc l[i]
     rw [hx] at hcc;refine AW_skip (hK1 _ ?_);refine AW_then fun K2 hK2=>?_;refine AW_block ?_
     have qf:=(Aq fw (Aq @hil @hx))
     refine rgqv [1,7,25,26,27] [502,503] ?_;refine AW_re (tyOf_good _) fun K' hK'=>?_;(repeat (refine sxn fun K2 hK2=>?_;simp [dNum,dS,nRow,pairA,assertA];(repeat (refine ⟨by omega,?_⟩));refine hK2 _ ?_;clear hK2 K2));refine sxn fun K2 hK2=>?_;simp [dNum,dS,nRow,pairA,assertA];refine callK.mc (hcc) ?_ ?_ ?_ ?_ ?_<;>simp [dNum,dS,nRow,pairA,assertA];refine hK2 _ ?_;clear hK2 K2;(repeat (refine sxn fun K2 hK2=>?_;simp [dNum,dS,nRow,pairA,assertA];(repeat (refine ⟨by omega,?_⟩));refine hK2 _ ?_;clear hK2 K2));refine sxz (hK' _ ?_);clear hK' K';refine hK2 _ (AW.norm [1,25,26,27] [502,503] (notIn_ok rfl) (AW.st (by simp [dNum,dS,nRow,pairA,assertA];rfl) ?_));refine AW_re (tyOf_good _) fun K' hK'=>?_;(repeat (refine sxn fun K2 hK2=>?_;simp [dNum,dS,nRow,pairA,assertA];(repeat (refine ⟨by omega,?_⟩));refine hK2 _ ?_;clear hK2 K2));refine sxz (hK' _ ?_);clear hK' K';(try simp only [thn,inb]);refine Again.mk (i+1) (by omega) (by omega) ?_;refine Imp.to' (notIn_ok rfl) (by simp [dNum,dS,nRow,pairA,assertA]) (by simp [dNum,dS,nRow,pairA,assertA])
    ·obtain rfl:i=l.length:=by omega
     refine AW_exit ?_;simp [D.le_refl,List.take_length,nRow,dS]
  by_cases hor:∃ l,e = .or l
  ·obtain ⟨l,rfl⟩:=hor
   simp only [bE] at hb
   have hs1:=gather_spec G all l0 (.or l) (by omega)
   have hnil:one1 (nmE all (.or l))=[]:=rfl
   rw [hnil,List.append_nil,List.singleton_append] at hs1
   have hch:=fun (x:Ex) (hx:x∈l)=>ih x (by have:=List.sizeOf_lt_of_mem hx;simp only [Ex.or.sizeOf_spec] at hsz;omega)
   have hln:=bEs_len l
   rw [nmsE];rw [dE,dEs_map];rw [dE,dEs_map] at hs1;clear ih;generalize hg:fnOf all=g at hch hs1 ⊢;refine MC.of_body (tyOf_good _) Tryz.func222 rfl rfl (rs:=[]) Tryz.results222 (by simp [Tryz.ntmps222]) rfl fun X=>?_;simp only [Tryz.ntmps222]
   have fw:=(Aq @dNum.eq_1 (Aq @dS.eq_1 (Aq @nRow.eq_1 (Aq @pairA.eq_1 (Aq @pairA.eq_2 @assertA.eq_1)))))
   refine rgm fw hs1 [0,1] [502,503] ?_;refine rgq fw [1,14] [502,503] ?_;refine AW_block ?_;refine rgq fw [1,14,16,17] [502,503] ?_;refine AW_ff rfl ?_;refine rgq fw [1,14,23,24] [502,503] ?_;refine AW_ff rfl ?_;refine rgq fw [1,36,37] [502,503] ?_;refine AW_tt rfl ?_;refine rgq fw [1,8] [502,503] ?_;refine rgq fw [1,38,39,40] [502,503] ?_;refine AW_for (S:=Nat) (fun i=>i≤l.length) (fun i=>⟨lst [(1,.fn (.func 223) [.d (.ip [.fn (.func g) []]),.ref 502 0 0]),(38,.d (.sl none (l.map fun e=>[dE e]))),(39,int l.length),(40,int i)],hlst (nRow (l0 ++ nmsL all (l.take i)))⟩) (fun i=>l.length - i) 0 ?_ (by omega) ?_
   ·refine Imp.to' (notIn_ok rfl) (by simp [dNum,dS,nRow,pairA,assertA,nmsL]) (by simp [dNum,dS,nRow,pairA,assertA,nmsL])
   ·intro i hi
    refine rgq fw [1,38,39,40,41] [502,503] ?_;refine AW_then fun K1 hK1=>?_;refine AW_cond' (b:=i < l.length) (by simp [D.le,D.le.go,takeMap,dNum,dS,nRow,pairA,assertA]) (fun hc=>?_) (fun hc=>?_)
    ·have hil:i < l.length:=hc
     have h1:=nmsL_take all hil
     have h2:=nmsL_len all (l.take i)
     have h3:=bEs_take hil
     have hcc:=hch _ (List.getElem_mem hil) (l0 ++ nmsL all (l.take i)) (by rw [List.length_append];omega)
     rw [List.append_assoc,← h1] at hcc
     obtain ⟨tx,cx,hx⟩:=dE_ifc l[i]
     rw [hx] at hcc;refine AW_skip (hK1 _ ?_);refine AW_then fun K2 hK2=>?_;refine AW_block ?_
     have qf:=(Aq fw (Aq @hil @hx))
     refine rgqv [1,10,38,39,40] [502,503] ?_;refine AW_re (tyOf_good _) fun K' hK'=>?_;(repeat (refine sxn fun K2 hK2=>?_;simp [dNum,dS,nRow,pairA,assertA];(repeat (refine ⟨by omega,?_⟩));refine hK2 _ ?_;clear hK2 K2));refine sxn fun K2 hK2=>?_;simp [dNum,dS,nRow,pairA,assertA];refine callK.mc (hcc) ?_ ?_ ?_ ?_ ?_<;>simp [dNum,dS,nRow,pairA,assertA];refine hK2 _ ?_;clear hK2 K2;(repeat (refine sxn fun K2 hK2=>?_;simp [dNum,dS,nRow,pairA,assertA];(repeat (refine ⟨by omega,?_⟩));refine hK2 _ ?_;clear hK2 K2));refine sxz (hK' _ ?_);clear hK' K';refine hK2 _ (AW.norm [1,38,39,40] [502,503] (notIn_ok rfl) (AW.st (by simp [dNum,dS,nRow,pairA,assertA];rfl) ?_));refine AW_re (tyOf_good _) fun K' hK'=>?_;(repeat (refine sxn fun K2 hK2=>?_;simp [dNum,dS,nRow,pairA,assertA];(repeat (refine ⟨by omega,?_⟩));refine hK2 _ ?_;clear hK2 K2));refine sxz (hK' _ ?_);clear hK' K';(try simp only [thn,inb]);refine Again.mk (i+1) (by omega) (by omega) ?_;refine Imp.to' (notIn_ok rfl) (by simp [dNum,dS,nRow,pairA,assertA]) (by simp [dNum,dS,nRow,pairA,assertA])
    ·obtain rfl:i=l.length:=by omega
     refine AW_exit ?_;simp [D.le_refl,List.take_length,nRow,dS]
  have hk:∃ t c,dE e = .ifc t c∧¬ t=149∧¬ t=157∧¬ t=158∧nmsE all e=one1 (nmE all e):=by
   cases e with
   | not z=>exact absurd ⟨z,rfl⟩ hN
   | and l=>exact absurd ⟨l,rfl⟩ hand
   | or l=>exact absurd ⟨l,rfl⟩ hor
   | cst b=>exact ⟨_,_,by rw [dE],by decide,by decide,by decide,rfl⟩
   | bit s=>exact ⟨_,_,by rw [dE],by decide,by decide,by decide,rfl⟩
   | rise s=>exact ⟨_,_,by rw [dE],by decide,by decide,by decide,rfl⟩
   | fall s=>exact ⟨_,_,by rw [dE],by decide,by decide,by decide,rfl⟩
  obtain ⟨t,c,hy,h1,h2,h3,h4⟩:=hk
  have hs1:=gather_spec G all l0 e (by omega)
  rw [List.singleton_append] at hs1;rw [h4,hy];rw [hy] at hs1;generalize l0 ++ one1 (nmE all e)=l1 at hs1 ⊢;generalize fnOf all=g at hs1 ⊢;refine MC.of_body (tyOf_good _) Tryz.func222 rfl rfl (rs:=[]) Tryz.results222 (by simp [Tryz.ntmps222]) rfl fun X=>?_;simp only [Tryz.ntmps222]
  have fw:=(Aq @dNum.eq_1 (Aq @dS.eq_1 (Aq @nRow.eq_1 (Aq @pairA.eq_1 (Aq @pairA.eq_2 @assertA.eq_1)))))
  refine rgm fw hs1 [0,1] [502,503] ?_;refine rgq fw [1,14] [502,503] ?_;refine AW_block ?_
  have qf:=(Aq fw @h1)
  refine rgqv [1,14,16,17] [502,503] ?_;refine AW_ff rfl ?_
  have qf:=(Aq fw @h2)
  refine rgqv [1,14,23,24] [502,503] ?_;refine AW_ff rfl ?_
  have qf:=(Aq fw @h3)
  refine rgqv [1,36,37] [502,503] ?_;refine AW_ff rfl ?_;refine AW_skip ?_;simp [D.le_refl,nRow,dS]
def namesE (all:Bool) (e:Ex):List (List UInt8):=Lib.compact (sortT (nmsE all e))
set_option maxHeartbeats 8000000 in
theorem sorted_spec (G:Glob) (all:Bool) (e:Ex) (hb:bE e≤2^28):PureC Tryz.prog G 171 [dE e,.fn (.func (fnOf all)) []] (.sl none ((namesE all e).map fun s=>[dS s])):=by
 have hlen:=nms_len all e
 have hw:=walkN_at G all _ e (Nat.le_refl _) [] (by simp;omega)
 rw [List.nil_append] at hw
 have hso:=sort_mc G 503 9 (nmsE all e) (by omega)
 have hco:=compact_mc G 503 9 (sortT (nmsE all e)) (by rw [sortT_len];omega)
 rw [sortT_len] at hco
 have hcl:=Lib.compact_length_le (sortT (nmsE all e))
 rw [sortT_len] at hcl;unfold namesE
 obtain ⟨tx,cx,hx⟩:=dE_ifc e
 rw [hx] at hw ⊢;generalize fnOf all=g at hw ⊢;generalize nmsE all e=l at hw hso hco hcl hlen ⊢;generalize sortT l=z at hso hco hcl ⊢
 have htk:List.take (Lib.compact z).length ((Lib.compact z ++ List.replicate (l.length - (Lib.compact z).length) []).map fun s=>[dS s])=(Lib.compact z).map fun s=>[dS s]:=by
  rw [List.map_append,List.take_append_of_le_length (by simp),List.take_of_length_le (by simp)]
 have hyl:(Lib.compact z ++ List.replicate (l.length - (Lib.compact z).length) []).length=l.length:=by simp;omega
 generalize Lib.compact z ++ List.replicate (l.length - (Lib.compact z).length) []=y at hco htk hyl;generalize Lib.compact z=c at hco hcl htk ⊢;refine PureC.of_body (tyOf_good _) Tryz.func171 rfl rfl (rs:=[.tmp 4]) Tryz.results171 (by simp [Tryz.ntmps171]) fun X=>?_;simp only [Tryz.ntmps171,List.map]
 have fw:=(Aq @dNum.eq_1 (Aq @dS.eq_1 (Aq @nRow.eq_1 (Aq @pairA.eq_1 (Aq @pairA.eq_2 @assertA.eq_1)))))
 refine rgq fw [0,3] [3] ?_;refine AW.imp (Imp.freezeB 3 trivial) ?_;refine AW.st (by simp [dNum,dS,nRow,pairA,assertA];rfl) ?_;refine rgq fw [0,3,5] [5] ?_;refine AW.imp (Imp.ren (r:=5) (r':=502) trivial (by simp)) ?_;refine AW.st (by simp [renO,renF,Go.Av.ren,renH_one];rfl) ?_;refine AW.imp (Imp.adoptCell 502 0 503 9 1 rfl rfl rfl) ?_;refine AW.imp (τ:=⟨lst [(0,.d (.ifc tx cx)),(3,.d (.ip [.fn (.func g) []])),(5,.ref 502 0 0)],hlst (nRow [])⟩) ?_ ?_
 ·refine Imp.to' (fun _ _=>trivial) (by simp [dNum,dS,nRow,pairA,assertA,nRow]) (by simp [dNum,dS,nRow,pairA,assertA,nRow])
 refine rgm fw hw [5] [502,503] ?_;refine rgm fw hso [5] [502,503] ?_;refine rgm fw hco [4] [502,503] ?_
 have hle:c.length≤y.length:=by omega
 by_cases hcy:c.length=y.length
 ·have htk2:(y.map fun s=>[dS s])=c.map fun s=>[dS s]:=by rw [← htk,hcy,List.take_of_length_le (by simp)]
  simp only [dS] at htk2;refine AW.imp (Imp.freeze 503 trivial) ?_;refine AW.st (by simp [dNum,dS,nRow,pairA,assertA,hcy,hle,htk2];rfl) ?_;refine AW_ret ?_;simp [D.le,D.le.go,takeMap,dNum,dS,nRow,pairA,assertA,D.le_refl,D.leGo_refl,hcy,htk2]
 ·simp only [dS] at htk;refine AW.imp (Imp.freeze 503 trivial) ?_;refine AW.st (by simp [dNum,dS,nRow,pairA,assertA,hcy,hle,htk];rfl) ?_;refine AW_ret ?_;simp [D.le,D.le.go,takeMap,dNum,dS,nRow,pairA,assertA,D.le_refl,D.leGo_refl,htk]
theorem namesE_spec (G:Glob) (e:Ex) (hb:bE e≤2^28):PureC Tryz.prog G 114 [dE e] (.sl none ((namesE true e).map fun s=>[dS s])):=by
 have hs:=sorted_spec G true e hb
 obtain ⟨tx,cx,hx⟩:=dE_ifc e
 rw [hx] at hs ⊢;generalize namesE true e=l at hs ⊢;simp only [fnOf,if_true,if_false,Bool.false_eq_true] at hs;refine PureC.of_body (tyOf_good _) Tryz.func114 rfl rfl (rs:=[.tmp 2]) Tryz.results114 (by simp [Tryz.ntmps114]) fun X=>?_;simp only [Tryz.ntmps114,List.map]
 have fw:=(Aq @dNum.eq_1 (Aq @dS.eq_1 (Aq @nRow.eq_1 (Aq @pairA.eq_1 (Aq @pairA.eq_2 @assertA.eq_1)))))
 refine rgq fw [0] [] ?_;refine rgc fw hs [2] [] ?_;refine AW_ret ?_;simp [D.le,D.le.go,takeMap,dNum,dS,nRow,pairA,assertA,D.le_refl,D.leGo_refl]
theorem edgesE_spec (G:Glob) (e:Ex) (hb:bE e≤2^28):PureC Tryz.prog G 145 [dE e] (.sl none ((namesE false e).map fun s=>[dS s])):=by
 have hs:=sorted_spec G false e hb
 obtain ⟨tx,cx,hx⟩:=dE_ifc e
 rw [hx] at hs ⊢;generalize namesE false e=l at hs ⊢;simp only [fnOf,if_true,if_false,Bool.false_eq_true] at hs;refine PureC.of_body (tyOf_good _) Tryz.func145 rfl rfl (rs:=[.tmp 2]) Tryz.results145 (by simp [Tryz.ntmps145]) fun X=>?_;simp only [Tryz.ntmps145,List.map]
 have fw:=(Aq @dNum.eq_1 (Aq @dS.eq_1 (Aq @nRow.eq_1 (Aq @pairA.eq_1 (Aq @pairA.eq_2 @assertA.eq_1)))))
 refine rgq fw [0] [] ?_;refine rgc fw hs [2] [] ?_;refine AW_ret ?_;simp [D.le,D.le.go,takeMap,dNum,dS,nRow,pairA,assertA,D.le_refl,D.leGo_refl]
end Go.Proofs.YtpboiimemmfkiaaGreatDoor
namespace Go.Proofs.YtpboiimemmfkiaaGreatDoor
open Go.Av
abbrev Tx:=List UInt8
theorem mem_upTo (d:Array Tx):∀ (m:Nat),m≤d.size→∀ j,j < m→d[j]!∈Lib.compactUpTo d m
 | 0,_,j,h=>by omega
 | m+1,hm,j,hj=>by
  rw [Lib.compactUpTo_succ]
  by_cases hjm:j < m
  ·exact List.mem_append_left _ (mem_upTo d m (by omega) j hjm)
  ·obtain rfl:j=m:=by omega
   by_cases hk:Lib.keeps d j=true
   ·exact List.mem_append_right _ (by simp [hk])
   ·have hj0:j≠0:=by rintro rfl;exact hk (Lib.keeps_lt_one d 0 (by omega))
    have he:d[j]! = d[j - 1]!:=by
     unfold Lib.keeps at hk;simp [hj0] at hk
     first | exact hk | exact hk.symm
    rw [he];exact List.mem_append_left _ (mem_upTo d j (by omega) (j - 1) (by omega))
theorem upTo_mem (d:Array Tx):∀ (m:Nat),m≤d.size→∀ x∈Lib.compactUpTo d m,∃ j,j < m∧x=d[j]!
 | 0,_,x,h=>by simp [Lib.compactUpTo] at h
 | m+1,hm,x,h=>by
  rw [Lib.compactUpTo_succ] at h
  rcases List.mem_append.1 h with h | h
  ·obtain ⟨j,hj,e⟩:=upTo_mem d m (by omega) x h
   exact ⟨j,by omega,e⟩
  ·split at h
   ·simp at h;exact ⟨m,by omega,h⟩
   ·simp at h
theorem namesE_mem {all:Bool} {e:Ex} {s:Tx}:s∈namesE all e↔s∈nmsE all e:=by
 unfold namesE
 have h0:∀ l:List Tx,s∈Lib.compact l↔s∈l:=by
  intro l
  unfold Lib.compact
  constructor
  ·intro h
   obtain ⟨j,hj,rfl⟩:=upTo_mem l.toArray l.length (by simp) s h
   rw [getElem!_pos l.toArray j (by simpa using hj)];simp
  ·intro h
   obtain ⟨j,hj,rfl⟩:=List.mem_iff_getElem.1 h
   have:=mem_upTo l.toArray l.length (by simp) j hj
   rw [getElem!_pos l.toArray j (by simpa using hj)] at this;simpa using this
 rw [h0];unfold sortT;exact List.mem_mergeSort
end Go.Proofs.YtpboiimemmfkiaaGreatDoor
namespace Go.Proofs.YtpboiimemmfkiaaGreatDoor
open Go.Av
theorem parse_some {t:List UInt8} (h:(parseM t).2=none):∃ x,(parseM t).1=some x:=by
 unfold parseM at h ⊢
 split at h
 ·cases h
 ·rw [if_neg ‹_›]
  split at h
  ·cases h
  ·split at h
   ·cases h
   ·rw [if_neg ‹_›];exact ⟨_,rfl⟩
end Go.Proofs.YtpboiimemmfkiaaGreatDoor
namespace Go.Proofs.YtpboiimemmfkiaaGreatDoor
open Go.Av
theorem idx_some {α:Type} (p:α→Bool) (l:List α):decide (0≤idx p l)=l.any p:=by
 unfold idx
 cases h:l.findIdx? p with
 | none=>
  rw [List.findIdx?_eq_none_iff] at h
  have:l.any p=false:=by rw [List.any_eq_false];intro x hx;simp [h x hx]
  rw [this];simp
 | some i=>
  rw [List.findIdx?_eq_some_iff_getElem] at h
  obtain ⟨hi,hp,_⟩:=h
  have:l.any p=true:=List.any_eq_true.2 ⟨_,List.getElem_mem hi,hp⟩
  rw [this];simp
theorem evA_any (is was:List UInt8→Bool):∀ l:List Ex,evA is was l = !(l.any fun e=>!evE is was e)
 | []=>rfl
 | e :: l=>by rw [evA,evA_any is was l];simp
theorem evO_any (is was:List UInt8→Bool):∀ l:List Ex,evO is was l=l.any fun e=>evE is was e
 | []=>rfl
 | e :: l=>by rw [evO,evO_any is was l];simp
set_option maxHeartbeats 1000000 in
theorem indexAnd_spec (G:Glob) (k:Option Bool) (xs:List Ex) (g:FuncId) (caps:List D) (p:Ex→Bool) (hl:xs.length < 2^63) (ha:∀ x∈xs,PureC Tryz.prog G g (dE x :: caps) (.v (.bool (p x)))) :
  PureC Tryz.prog G 249 [.sl k (xs.map fun x=>[dE x]),.fn (.func g) caps] (.v (.int .i64 (idx p xs))):=by
 refine PureC.of_body (tyOf_good _) Tryz.func249 rfl rfl (rs:=[.tmp 4]) Tryz.results249 (by simp [Tryz.ntmps249]) fun X=>?_;simp only [Tryz.ntmps249,List.map];refine rg0 [0,1] [] ?_;refine AW_then fun K1 hK1=>?_;refine rg0 [0,1,7,8] [] ?_;refine AW_for (S:=Nat) (fun n=>n≤xs.length∧∀ i (hi:i < xs.length),i < n→p xs[i]=false) (fun n=>⟨lst [(0,.d (.sl k (xs.map fun x=>[dE x]))),(1,.d (.fn (.func g) caps)),(7,int xs.length),(8,int n)],hlst []⟩) (fun n=>xs.length - n) 0 ?_ (by simp) ?_
 ·refine Imp.to' (fun _ _=>trivial) (by simp) (by simp)
 ·rintro n ⟨hn,hp⟩
  refine rg0 [0,1,7,8,9] [] ?_;refine AW_then fun K2 hK2=>?_;refine AW_cond' (b:=n < xs.length) (by simp [D.le,D.le.go,takeMap]) (fun hc=>?_) (fun hc=>?_)
  ·have hax:=ha xs[n] (by simp)
   refine AW_skip (hK2 _ ?_);refine AW_then fun K3 hK3=>?_;refine AW_block ?_;refine rg0 [0,1,5,7,8] [] ?_
   have qf:=@hc
   refine rgcv hax [0,1,5,7,8,16] [] ?_;refine AW_cond _ rfl (fun hp2=>?_) (fun hp2=>?_)
   ·refine rg0 [4] [] ?_;refine AW_ret ?_;simp [D.le,D.le.go,takeMap];exact (idx_hit hc hp2 fun i hi=>hp i (by omega) hi).symm
   ·refine AW_skip (hK3 _ ?_);refine AW_re (tyOf_good _) fun K' hK'=>?_;(repeat (refine sxn fun K2 hK2=>?_;simp;(repeat (refine ⟨by omega,?_⟩));refine hK2 _ ?_;clear hK2 K2));refine sxz (hK' _ ?_);clear hK' K';(try simp only [thn,inb]);refine Again.mk (n+1) ⟨by omega,fun i hi hin=>?_⟩ (by omega) ?_
    ·by_cases h:i=n
     ·subst h;exact hp2
     ·exact hp i hi (by omega)
    refine Imp.to' (fun _ _=>trivial) (by simp) (by simp)
  ·refine AW_exit (hK1 _ ?_);refine rg0 [4] [] ?_;refine AW_ret ?_;simp [D.le,D.le.go,takeMap];exact (idx_miss fun i hi=>hp i hi (by omega)).symm
theorem containsAnd_spec (G:Glob) (k:Option Bool) (xs:List Ex) (g:FuncId) (caps:List D) (p:Ex→Bool) (hl:xs.length < 2^63) (ha:∀ x∈xs,PureC Tryz.prog G g (dE x :: caps) (.v (.bool (p x)))) :
  PureC Tryz.prog G 189 [.sl k (xs.map fun x=>[dE x]),.fn (.func g) caps] (.v (.bool (xs.any p))):=by
 have hi:=indexAnd_spec G k xs g caps p hl ha
 have hd:=idx_some p xs
 generalize idx p xs=r at hi hd;rw [← hd];refine PureC.of_body (tyOf_good _) Tryz.func189 rfl rfl (rs:=[.tmp 4]) Tryz.results189 (by simp [Tryz.ntmps189]) fun X=>?_;simp only [Tryz.ntmps189,List.map];refine rg0 [0,1] [] ?_;refine rgc trivial hi [4] [] ?_;refine AW_ret ?_;simp [D.le,D.le.go,takeMap]
set_option maxHeartbeats 1000000 in
theorem indexOr_spec (G:Glob) (k:Option Bool) (xs:List Ex) (g:FuncId) (caps:List D) (p:Ex→Bool) (hl:xs.length < 2^63) (ha:∀ x∈xs,PureC Tryz.prog G g (dE x :: caps) (.v (.bool (p x)))) :
  PureC Tryz.prog G 250 [.sl k (xs.map fun x=>[dE x]),.fn (.func g) caps] (.v (.int .i64 (idx p xs))):=by
 refine PureC.of_body (tyOf_good _) Tryz.func250 rfl rfl (rs:=[.tmp 4]) Tryz.results250 (by simp [Tryz.ntmps250]) fun X=>?_;simp only [Tryz.ntmps250,List.map];refine rg0 [0,1] [] ?_;refine AW_then fun K1 hK1=>?_;refine rg0 [0,1,7,8] [] ?_;refine AW_for (S:=Nat) (fun n=>n≤xs.length∧∀ i (hi:i < xs.length),i < n→p xs[i]=false) (fun n=>⟨lst [(0,.d (.sl k (xs.map fun x=>[dE x]))),(1,.d (.fn (.func g) caps)),(7,int xs.length),(8,int n)],hlst []⟩) (fun n=>xs.length - n) 0 ?_ (by simp) ?_
 ·refine Imp.to' (fun _ _=>trivial) (by simp) (by simp)
 ·rintro n ⟨hn,hp⟩
  refine rg0 [0,1,7,8,9] [] ?_;refine AW_then fun K2 hK2=>?_;refine AW_cond' (b:=n < xs.length) (by simp [D.le,D.le.go,takeMap]) (fun hc=>?_) (fun hc=>?_)
  ·have hax:=ha xs[n] (by simp)
   refine AW_skip (hK2 _ ?_);refine AW_then fun K3 hK3=>?_;refine AW_block ?_;refine rg0 [0,1,5,7,8] [] ?_
   have qf:=@hc
   refine rgcv hax [0,1,5,7,8,16] [] ?_;refine AW_cond _ rfl (fun hp2=>?_) (fun hp2=>?_)
   ·refine rg0 [4] [] ?_;refine AW_ret ?_;simp [D.le,D.le.go,takeMap];exact (idx_hit hc hp2 fun i hi=>hp i (by omega) hi).symm
   ·refine AW_skip (hK3 _ ?_);refine AW_re (tyOf_good _) fun K' hK'=>?_;(repeat (refine sxn fun K2 hK2=>?_;simp;(repeat (refine ⟨by omega,?_⟩));refine hK2 _ ?_;clear hK2 K2));refine sxz (hK' _ ?_);clear hK' K';(try simp only [thn,inb]);refine Again.mk (n+1) ⟨by omega,fun i hi hin=>?_⟩ (by omega) ?_
    ·by_cases h:i=n
     ·subst h;exact hp2
     ·exact hp i hi (by omega)
    refine Imp.to' (fun _ _=>trivial) (by simp) (by simp)
  ·refine AW_exit (hK1 _ ?_);refine rg0 [4] [] ?_;refine AW_ret ?_;simp [D.le,D.le.go,takeMap];exact (idx_miss fun i hi=>hp i hi (by omega)).symm
theorem containsOr_spec (G:Glob) (k:Option Bool) (xs:List Ex) (g:FuncId) (caps:List D) (p:Ex→Bool) (hl:xs.length < 2^63) (ha:∀ x∈xs,PureC Tryz.prog G g (dE x :: caps) (.v (.bool (p x)))) :
  PureC Tryz.prog G 191 [.sl k (xs.map fun x=>[dE x]),.fn (.func g) caps] (.v (.bool (xs.any p))):=by
 have hi:=indexOr_spec G k xs g caps p hl ha
 have hd:=idx_some p xs
 generalize idx p xs=r at hi hd;rw [← hd];refine PureC.of_body (tyOf_good _) Tryz.func191 rfl rfl (rs:=[.tmp 4]) Tryz.results191 (by simp [Tryz.ntmps191]) fun X=>?_;simp only [Tryz.ntmps191,List.map];refine rg0 [0,1] [] ?_;refine rgc trivial hi [4] [] ?_;refine AW_ret ?_;simp [D.le,D.le.go,takeMap]
mutual
def AskE (S1 S2:List UInt8→Prop):Ex→Prop
 | .cst _=>True
 | .bit s=>S1 s
 | .rise s=>S1 s∧S2 s
 | .fall s=>S1 s∧S2 s
 | .not e=>AskE S1 S2 e
 | .and l=>AskL S1 S2 l
 | .or l=>AskL S1 S2 l
def AskL (S1 S2:List UInt8→Prop):List Ex→Prop
 | []=>True
 | e :: l=>AskE S1 S2 e∧AskL S1 S2 l
end
theorem AskL_iff {S1 S2:List UInt8→Prop}:∀ {l:List Ex},AskL S1 S2 l↔∀ x∈l,AskE S1 S2 x
 | []=>by simp [AskL]
 | e :: l=>by rw [AskL,AskL_iff];simp
def TellsOn (S:List UInt8→Prop) (G:Glob) (g:FuncId) (caps:List D) (p:List UInt8→Bool):Prop:=∀ s,S s→PureC Tryz.prog G g (dS s :: caps) (.v (.bool (p s)))
set_option maxHeartbeats 32000000 in
theorem eval_at (G:Glob) (g1 g2:FuncId) (c1 c2:List D) (is was:List UInt8→Bool) (S1 S2:List UInt8→Prop) (h1:TellsOn S1 G g1 c1 is) (h2:TellsOn S2 G g2 c2 was):∀ (n:Nat) (e:Ex),SizeOf.sizeOf e≤n→AskE S1 S2 e→bE e≤2^28→PureC Tryz.prog G 152 [dE e,.fn (.func g1) c1,.fn (.func g2) c2] (.v (.bool (evE is was e))):=by
 intro n
 induction n with
 | zero=>intro e hsz;cases e<;>simp at hsz
 | succ n ih=>
  intro e hsz hask hb
  have fw:=(Aq @dNum.eq_1 (Aq @dS.eq_1 (Aq @pairA.eq_1 (Aq @pairA.eq_2 @assertA.eq_1))))
  cases e with
  | cst b=>
   rw [dE];refine PureC.of_body (tyOf_good _) Tryz.func152 rfl rfl (rs:=[.tmp 6]) Tryz.results152 (by simp [Tryz.ntmps152]) fun X=>?_;simp only [Tryz.ntmps152,List.map];refine rgq fw [0,4,5] [4,5] ?_;refine AW.imp (Imp.freezeB 4 trivial) ?_;refine AW.st (by simp [dNum,dS,pairA,assertA];rfl) ?_;refine AW.imp (Imp.freezeB 5 trivial) ?_;refine AW.st (by simp [dNum,dS,pairA,assertA];rfl) ?_;refine AW_then fun K1 hK1=>?_;refine rgq fw [4,5,14] [] ?_;refine AW_block ?_;refine rgq fw [4,5,14,16,17] [] ?_;refine AW_tt rfl ?_;refine rgq fw [7] [] ?_;refine rgq fw [6] [] ?_;refine AW_ret ?_;simp [D.le,D.le.go,takeMap,dNum,dS,pairA,assertA,evE]
  | bit s=>
   rw [AskE] at hask
   have hi:=h1 s hask
   rw [dE,evE];refine PureC.of_body (tyOf_good _) Tryz.func152 rfl rfl (rs:=[.tmp 6]) Tryz.results152 (by simp [Tryz.ntmps152]) fun X=>?_;simp only [Tryz.ntmps152,List.map];refine rgq fw [0,4,5] [4,5] ?_;refine AW.imp (Imp.freezeB 4 trivial) ?_;refine AW.st (by simp [dNum,dS,pairA,assertA];rfl) ?_;refine AW.imp (Imp.freezeB 5 trivial) ?_;refine AW.st (by simp [dNum,dS,pairA,assertA];rfl) ?_;refine AW_then fun K1 hK1=>?_;refine rgq fw [4,5,14] [] ?_;refine AW_block ?_;refine rgq fw [4,5,14,16,17] [] ?_;refine AW_ff rfl ?_;refine rgq fw [4,5,14,20,21] [] ?_;refine AW_tt rfl ?_;refine rgq fw [4,8] [] ?_;refine rgc fw hi [6] [] ?_;refine AW_ret ?_;simp [D.le,D.le.go,takeMap,dNum,dS,pairA,assertA]
  | rise s=>
   rw [AskE] at hask
   have hi:=h1 s hask.1
   have hw:=h2 s hask.2
   rw [dE,evE]
   cases hs:is s with
   | false=>
    rw [hs] at hi;refine PureC.of_body (tyOf_good _) Tryz.func152 rfl rfl (rs:=[.tmp 6]) Tryz.results152 (by simp [Tryz.ntmps152]) fun X=>?_;simp only [Tryz.ntmps152,List.map];refine rgq fw [0,4,5] [4,5] ?_;refine AW.imp (Imp.freezeB 4 trivial) ?_;refine AW.st (by simp [dNum,dS,pairA,assertA];rfl) ?_;refine AW.imp (Imp.freezeB 5 trivial) ?_;refine AW.st (by simp [dNum,dS,pairA,assertA];rfl) ?_;refine AW_then fun K1 hK1=>?_;refine rgq fw [4,5,14] [] ?_;refine AW_block ?_;refine rgq fw [4,5,14,16,17] [] ?_;refine AW_ff rfl ?_;refine rgq fw [4,5,14,20,21] [] ?_;refine AW_ff rfl ?_;refine rgq fw [4,5,14,26,27] [] ?_;refine AW_tt rfl ?_;refine rgq fw [4,5,9] [] ?_;refine rgc fw hi [6] [] ?_;refine AW_ret ?_;simp [D.le,D.le.go,takeMap,dNum,dS,pairA,assertA]
   | true=>
    rw [hs] at hi;refine PureC.of_body (tyOf_good _) Tryz.func152 rfl rfl (rs:=[.tmp 6]) Tryz.results152 (by simp [Tryz.ntmps152]) fun X=>?_;simp only [Tryz.ntmps152,List.map];refine rgq fw [0,4,5] [4,5] ?_;refine AW.imp (Imp.freezeB 4 trivial) ?_;refine AW.st (by simp [dNum,dS,pairA,assertA];rfl) ?_;refine AW.imp (Imp.freezeB 5 trivial) ?_;refine AW.st (by simp [dNum,dS,pairA,assertA];rfl) ?_;refine AW_then fun K1 hK1=>?_;refine rgq fw [4,5,14] [] ?_;refine AW_block ?_;refine rgq fw [4,5,14,16,17] [] ?_;refine AW_ff rfl ?_;refine rgq fw [4,5,14,20,21] [] ?_;refine AW_ff rfl ?_;refine rgq fw [4,5,14,26,27] [] ?_;refine AW_tt rfl ?_;refine rgq fw [4,5,9] [] ?_;refine rg [6] [] (fun _ _=>trivial) fun K' hK'=>?_;(repeat (refine sxn fun K2 hK2=>?_;simp [dNum,dS,pairA,assertA];(repeat (refine ⟨by omega,?_⟩));refine hK2 _ ?_;clear hK2 K2));refine sxn fun K2 hK2=>?_;simp [dNum,dS,pairA,assertA];refine callK.data (hi) (by simp;rfl) (by first | exact D.leGo_refl _ | simp [takeMap,List.map_map,Function.comp_def,D.le,D.le.go,D.le_refl,D.leGo_refl,dNum,dS,pairA,assertA]) ?_;refine hK2 _ ?_;clear hK2 K2;simp only [putd,upd_lst];(repeat (refine sxn fun K2 hK2=>?_;simp [dNum,dS,pairA,assertA];(repeat (refine ⟨by omega,?_⟩));refine hK2 _ ?_;clear hK2 K2));refine sxn fun K2 hK2=>?_;simp [dNum,dS,pairA,assertA];refine callK.data (hw) (by simp;rfl) (by first | exact D.leGo_refl _ | simp [takeMap,List.map_map,Function.comp_def,D.le,D.le.go,D.le_refl,D.leGo_refl,dNum,dS,pairA,assertA]) ?_;refine hK2 _ ?_;clear hK2 K2;simp only [putd,upd_lst];(repeat (refine sxn fun K2 hK2=>?_;simp [dNum,dS,pairA,assertA];(repeat (refine ⟨by omega,?_⟩));refine hK2 _ ?_;clear hK2 K2));refine sxz (hK' _ (AW.st (by simp [dNum,dS,pairA,assertA];rfl) ?_));clear hK' K';refine AW_ret ?_;simp [D.le,D.le.go,takeMap,dNum,dS,pairA,assertA]
  | fall s=>
   rw [AskE] at hask
   have hi:=h1 s hask.1
   have hw:=h2 s hask.2
   rw [dE,evE]
   cases hs:is s with
   | true=>
    rw [hs] at hi;refine PureC.of_body (tyOf_good _) Tryz.func152 rfl rfl (rs:=[.tmp 6]) Tryz.results152 (by simp [Tryz.ntmps152]) fun X=>?_;simp only [Tryz.ntmps152,List.map];refine rgq fw [0,4,5] [4,5] ?_;refine AW.imp (Imp.freezeB 4 trivial) ?_;refine AW.st (by simp [dNum,dS,pairA,assertA];rfl) ?_;refine AW.imp (Imp.freezeB 5 trivial) ?_;refine AW.st (by simp [dNum,dS,pairA,assertA];rfl) ?_;refine AW_then fun K1 hK1=>?_;refine rgq fw [4,5,14] [] ?_;refine AW_block ?_;refine rgq fw [4,5,14,16,17] [] ?_;refine AW_ff rfl ?_;refine rgq fw [4,5,14,20,21] [] ?_;refine AW_ff rfl ?_;refine rgq fw [4,5,14,26,27] [] ?_;refine AW_ff rfl ?_;refine rgq fw [4,5,14,38,39] [] ?_;refine AW_tt rfl ?_;refine rgq fw [4,5,10] [] ?_;refine rgc fw hi [6] [] ?_;refine AW_ret ?_;simp [D.le,D.le.go,takeMap,dNum,dS,pairA,assertA]
   | false=>
    rw [hs] at hi;refine PureC.of_body (tyOf_good _) Tryz.func152 rfl rfl (rs:=[.tmp 6]) Tryz.results152 (by simp [Tryz.ntmps152]) fun X=>?_;simp only [Tryz.ntmps152,List.map];refine rgq fw [0,4,5] [4,5] ?_;refine AW.imp (Imp.freezeB 4 trivial) ?_;refine AW.st (by simp [dNum,dS,pairA,assertA];rfl) ?_;refine AW.imp (Imp.freezeB 5 trivial) ?_;refine AW.st (by simp [dNum,dS,pairA,assertA];rfl) ?_;refine AW_then fun K1 hK1=>?_;refine rgq fw [4,5,14] [] ?_;refine AW_block ?_;refine rgq fw [4,5,14,16,17] [] ?_;refine AW_ff rfl ?_;refine rgq fw [4,5,14,20,21] [] ?_;refine AW_ff rfl ?_;refine rgq fw [4,5,14,26,27] [] ?_;refine AW_ff rfl ?_;refine rgq fw [4,5,14,38,39] [] ?_;refine AW_tt rfl ?_;refine rgq fw [4,5,10] [] ?_;refine rg [6] [] (fun _ _=>trivial) fun K' hK'=>?_;(repeat (refine sxn fun K2 hK2=>?_;simp [dNum,dS,pairA,assertA];(repeat (refine ⟨by omega,?_⟩));refine hK2 _ ?_;clear hK2 K2));refine sxn fun K2 hK2=>?_;simp [dNum,dS,pairA,assertA];refine callK.data (hi) (by simp;rfl) (by first | exact D.leGo_refl _ | simp [takeMap,List.map_map,Function.comp_def,D.le,D.le.go,D.le_refl,D.leGo_refl,dNum,dS,pairA,assertA]) ?_;refine hK2 _ ?_;clear hK2 K2;simp only [putd,upd_lst];(repeat (refine sxn fun K2 hK2=>?_;simp [dNum,dS,pairA,assertA];(repeat (refine ⟨by omega,?_⟩));refine hK2 _ ?_;clear hK2 K2));refine sxn fun K2 hK2=>?_;simp [dNum,dS,pairA,assertA];refine callK.data (hw) (by simp;rfl) (by first | exact D.leGo_refl _ | simp [takeMap,List.map_map,Function.comp_def,D.le,D.le.go,D.le_refl,D.leGo_refl,dNum,dS,pairA,assertA]) ?_;refine hK2 _ ?_;clear hK2 K2;simp only [putd,upd_lst];(repeat (refine sxn fun K2 hK2=>?_;simp [dNum,dS,pairA,assertA];(repeat (refine ⟨by omega,?_⟩));refine hK2 _ ?_;clear hK2 K2));refine sxz (hK' _ (AW.st (by simp [dNum,dS,pairA,assertA];rfl) ?_));clear hK' K';refine AW_ret ?_;simp [D.le,D.le.go,takeMap,dNum,dS,pairA,assertA]
  | not x=>
   have hc:=ih x (by simp at hsz;omega) (by rwa [AskE] at hask) (by simp only [bE] at hb;omega)
   obtain ⟨tx,cx,hx⟩:=dE_ifc x
   rw [dE,evE,hx];rw [hx] at hc;generalize evE is was x=r at hc ⊢;refine PureC.of_body (tyOf_good _) Tryz.func152 rfl rfl (rs:=[.tmp 6]) Tryz.results152 (by simp [Tryz.ntmps152]) fun X=>?_;simp only [Tryz.ntmps152,List.map];refine rgq fw [0,4,5] [4,5] ?_;refine AW.imp (Imp.freezeB 4 trivial) ?_;refine AW.st (by simp [dNum,dS,pairA,assertA];rfl) ?_;refine AW.imp (Imp.freezeB 5 trivial) ?_;refine AW.st (by simp [dNum,dS,pairA,assertA];rfl) ?_;refine AW_then fun K1 hK1=>?_;refine rgq fw [4,5,14] [] ?_;refine AW_block ?_;refine rgq fw [4,5,14,16,17] [] ?_;refine AW_ff rfl ?_;refine rgq fw [4,5,14,20,21] [] ?_;refine AW_ff rfl ?_;refine rgq fw [4,5,14,26,27] [] ?_;refine AW_ff rfl ?_;refine rgq fw [4,5,14,38,39] [] ?_;refine AW_ff rfl ?_;refine rgq fw [4,5,14,50,51] [] ?_;refine AW_tt rfl ?_;refine rgq fw [4,5,11] [11] ?_;refine rgc fw hc [6] [11] ?_;refine AW_ret ?_;simp [D.le,D.le.go,takeMap,dNum,dS,pairA,assertA]
  | and l=>
   have hch:∀ x∈l,PureC Tryz.prog G 190 [dE x,.ip [.fn (.func g1) c1],.ip [.fn (.func g2) c2]] (.v (.bool (!evE is was x))):=fun x hx=>by
    have hc:=ih x (by have:=List.sizeOf_lt_of_mem hx;simp only [Ex.and.sizeOf_spec] at hsz;omega) (by rw [AskE,AskL_iff] at hask;exact hask x hx) (by have:=bEs_mem hx;simp only [bE] at hb;omega)
    obtain ⟨tx,cx,hxx⟩:=dE_ifc x
    rw [hxx] at hc ⊢;generalize evE is was x=r at hc ⊢;refine PureC.of_body (tyOf_good _) Tryz.func190 rfl rfl (rs:=[.tmp 4]) Tryz.results190 (by simp [Tryz.ntmps190]) fun X=>?_;simp only [Tryz.ntmps190,List.map];refine rgq fw [0,1,2] [] ?_;refine rgc fw hc [4] [] ?_;refine AW_ret ?_;simp [D.le,D.le.go,takeMap,dNum,dS,pairA,assertA]
   have hln:=bEs_len l
   have hcf:=containsAnd_spec G none l 190 [.ip [.fn (.func g1) c1],.ip [.fn (.func g2) c2]] (fun x=>!evE is was x) (by simp only [bE] at hb;omega) hch
   rw [dE,dEs_map,evE,evA_any];generalize l.any (fun x=>!evE is was x)=r at hcf ⊢;refine PureC.of_body (tyOf_good _) Tryz.func152 rfl rfl (rs:=[.tmp 6]) Tryz.results152 (by simp [Tryz.ntmps152]) fun X=>?_;simp only [Tryz.ntmps152,List.map];refine rgq fw [0,4,5] [4,5] ?_;refine AW.imp (Imp.freezeB 4 trivial) ?_;refine AW.st (by simp [dNum,dS,pairA,assertA];rfl) ?_;refine AW.imp (Imp.freezeB 5 trivial) ?_;refine AW.st (by simp [dNum,dS,pairA,assertA];rfl) ?_;refine AW_then fun K1 hK1=>?_;refine rgq fw [4,5,14] [] ?_;refine AW_block ?_;refine rgq fw [4,5,14,16,17] [] ?_;refine AW_ff rfl ?_;refine rgq fw [4,5,14,20,21] [] ?_;refine AW_ff rfl ?_;refine rgq fw [4,5,14,26,27] [] ?_;refine AW_ff rfl ?_;refine rgq fw [4,5,14,38,39] [] ?_;refine AW_ff rfl ?_;refine rgq fw [4,5,14,50,51] [] ?_;refine AW_ff rfl ?_;refine rgq fw [4,5,14,59,60] [] ?_;refine AW_tt rfl ?_;refine rgq fw [4,5,12] [] ?_;refine rgc fw hcf [6] [] ?_;refine AW_ret ?_;simp [D.le,D.le.go,takeMap,dNum,dS,pairA,assertA]
  | or l=>
   have hch:∀ x∈l,PureC Tryz.prog G 192 [dE x,.ip [.fn (.func g1) c1],.ip [.fn (.func g2) c2]] (.v (.bool (evE is was x))):=fun x hx=>by
    have hc:=ih x (by have:=List.sizeOf_lt_of_mem hx;simp only [Ex.or.sizeOf_spec] at hsz;omega) (by rw [AskE,AskL_iff] at hask;exact hask x hx) (by have:=bEs_mem hx;simp only [bE] at hb;omega)
    obtain ⟨tx,cx,hxx⟩:=dE_ifc x
    rw [hxx] at hc ⊢;generalize evE is was x=r at hc ⊢;refine PureC.of_body (tyOf_good _) Tryz.func192 rfl rfl (rs:=[.tmp 4]) Tryz.results192 (by simp [Tryz.ntmps192]) fun X=>?_;simp only [Tryz.ntmps192,List.map];refine rgq fw [0,1,2] [] ?_;refine rgc fw hc [4] [] ?_;refine AW_ret ?_;simp [D.le,D.le.go,takeMap,dNum,dS,pairA,assertA]
   have hln:=bEs_len l
   have hcf:=containsOr_spec G none l 192 [.ip [.fn (.func g1) c1],.ip [.fn (.func g2) c2]] (fun x=>evE is was x) (by simp only [bE] at hb;omega) hch
   rw [dE,dEs_map,evE,evO_any];generalize l.any (fun x=>evE is was x)=r at hcf ⊢;refine PureC.of_body (tyOf_good _) Tryz.func152 rfl rfl (rs:=[.tmp 6]) Tryz.results152 (by simp [Tryz.ntmps152]) fun X=>?_;simp only [Tryz.ntmps152,List.map];refine rgq fw [0,4,5] [4,5] ?_;refine AW.imp (Imp.freezeB 4 trivial) ?_;refine AW.st (by simp [dNum,dS,pairA,assertA];rfl) ?_;refine AW.imp (Imp.freezeB 5 trivial) ?_;refine AW.st (by simp [dNum,dS,pairA,assertA];rfl) ?_;refine AW_then fun K1 hK1=>?_;refine rgq fw [4,5,14] [] ?_;refine AW_block ?_;refine rgq fw [4,5,14,16,17] [] ?_;refine AW_ff rfl ?_;refine rgq fw [4,5,14,20,21] [] ?_;refine AW_ff rfl ?_;refine rgq fw [4,5,14,26,27] [] ?_;refine AW_ff rfl ?_;refine rgq fw [4,5,14,38,39] [] ?_;refine AW_ff rfl ?_;refine rgq fw [4,5,14,50,51] [] ?_;refine AW_ff rfl ?_;refine rgq fw [4,5,14,59,60] [] ?_;refine AW_ff rfl ?_;refine rgq fw [4,5,66,67] [] ?_;refine AW_tt rfl ?_;refine rgq fw [4,5,13] [] ?_;refine rgc fw hcf [6] [] ?_;refine AW_ret ?_;simp [D.le,D.le.go,takeMap,dNum,dS,pairA,assertA]
theorem eval_on (G:Glob) (g1 g2:FuncId) (c1 c2:List D) (is was:List UInt8→Bool) (S1 S2:List UInt8→Prop) (h1:TellsOn S1 G g1 c1 is) (h2:TellsOn S2 G g2 c2 was) (e:Ex) (ha:AskE S1 S2 e) (hb:bE e≤2^28):PureC Tryz.prog G 152 [dE e,.fn (.func g1) c1,.fn (.func g2) c2] (.v (.bool (evE is was e))):=
 eval_at G g1 g2 c1 c2 is was S1 S2 h1 h2 _ e (Nat.le_refl _) ha hb
end Go.Proofs.YtpboiimemmfkiaaGreatDoor
namespace Go.Proofs.YtpboiimemmfkiaaGreatDoor
open Go.Av
theorem la:(⟨#[97]⟩:ByteArray)=bs [97]:=rfl
theorem lb:(⟨#[98]⟩:ByteArray)=bs [98]:=rfl
end Go.Proofs.YtpboiimemmfkiaaGreatDoor
namespace Go.Proofs.YtpboiimemmfkiaaGreatDoor
open Go.Av
theorem u_nat (x:Nat) (h:x < 2^64):(BitVec.ofInt 64 (x:Int)).toNat=x:=by
 rw [BitVec.toNat_ofInt]
 have:(2:Nat)^64=18446744073709551616:=by decide
 omega
theorem u_wrap (x:Nat) (h:x < 2^64):IntKind.u64.wrap (x:Int)=(x:Int):=by
 rw [IntKind.wrap_u64]
 have:(2:Nat)^64=18446744073709551616:=by decide
 omega
theorem u_and (x y:Nat) (hx:x < 2^64) (hy:y < 2^64):bitsI .and .u64 (x:Int) (y:Int)=((x &&& y:Nat):Int):=by
 unfold bitsI
 dsimp only
 have h3:(BitVec.ofInt IntKind.u64.bits (x:Int) &&& BitVec.ofInt IntKind.u64.bits (y:Int)).toNat=x &&& y:=by
  show (BitVec.ofInt 64 (x:Int) &&& BitVec.ofInt 64 (y:Int)).toNat=x &&& y
  rw [BitVec.toNat_and,u_nat x hx,u_nat y hy]
 rw [h3,u_wrap _ (Nat.lt_of_le_of_lt Nat.and_le_left hx)]
end Go.Proofs.YtpboiimemmfkiaaGreatDoor
namespace Go.Proofs.YtpboiimemmfkiaaGreatDoor
open Go.Av
structure NmP where
 name:Tx
 kind:Int
 count:Int
structure RgP where
 kind:Int
 name:Tx
 cond:Option Ex
structure PgP where
 names:List NmP
 rungs:List RgP
def numP (p:PgP) (s:Tx):Int:=idx (fun n:NmP=>n.name == s) p.names
theorem numP_le (p:PgP) {i:Nat} (hi:i < p.names.length):0≤numP p p.names[i].name∧numP p p.names[i].name≤i:=by
 have hne:¬ numP p p.names[i].name < 0:=fun h=>by
  have:=idx_neg h _ (List.getElem_mem hi)
  simp at this
 obtain ⟨k,hk,he,_⟩:=idx_pos hne
 refine ⟨by omega,?_⟩
 apply Classical.byContradiction
 intro hlt
 have hik:i < k:=by unfold numP at hlt;omega
 unfold idx at he
 cases hf:p.names.findIdx? (fun n:NmP=>n.name == p.names[i].name) with
 | none=>rw [hf] at he;simp at he
 | some k'=>
  rw [hf] at he;simp only [Int.ofNat.injEq,Int.natCast_inj] at he
  have hkk:k'=k:=by simpa using he
  subst hkk
  have:=(List.findIdx?_eq_some_iff_getElem.1 hf).2.2 i hik
  simp at this
def firstBad {α:Type} (f:Nat→α→Int):List α→Nat→Option (Int×Nat)
 | [],_=>none
 | x :: l,i=>if f i x=0 then firstBad f l (i+1) else some (f i x,i)
theorem firstBad_lt {α:Type} {f:Nat→α→Int}:∀ {l:List α} {i:Nat} {e:Int} {k:Nat},firstBad f l i=some (e,k)→i≤k∧k < i+l.length∧e≠0
 | x :: l,i,e,k,h=>by
  rw [firstBad] at h
  split at h
  ·have:=firstBad_lt h
   simp only [List.length_cons]
   omega
  ·rename_i hne
   simp only [Option.some.injEq,Prod.mk.injEq] at h
   obtain ⟨h1,h2⟩:=h
   rw [h1] at hne;simp only [List.length_cons];exact ⟨by omega,by omega,hne⟩
theorem firstBad_none {α:Type} {f:Nat→α→Int}:∀ {l:List α} {i:Nat},firstBad f l i=none→∀ k (hk:k < l.length),f (i+k) l[k]=0
 | x :: l,i,h,k,hk=>by
  rw [firstBad] at h
  split at h
  ·rename_i h0
   cases k with
   | zero=>simpa using h0
   | succ k=>
    have:=firstBad_none h k (by simpa using hk)
    simpa [Nat.add_assoc,Nat.add_comm 1 k] using this
  ·cases h
def countsP (n:NmP):Bool:=decide (n.kind=3) || decide (n.kind=4)
def badN (p:PgP) (i:Nat) (n:NmP):Int:=
 if !nameF n.name then 5 else if decide (n.kind < 1) || decide (n.kind > 4) then 1 else if (countsP n && (decide (n.count < 1) || decide (n.count > 7))) || (!countsP n && decide (n.count≠0)) then 2 else if numP p n.name < i then 9 else 0
def wantP (k:Int):Int:=if k≤3 then 2 else if k=4 then 3 else 4
def badG (p:PgP) (r:RgP):Int:=match r.cond with
 | none=>1
 | some e=>if decide (r.kind < 1) || decide (r.kind > 6) then 1 else if numP p r.name < 0 then 7
  else if wantP r.kind≠(p.names.getD (numP p r.name).toNat ⟨[],0,0⟩).kind then 1 else if (namesE true e).any fun s=>decide (numP p s < 0) then 7 else 0
def checkP (p:PgP):Option (Int×Option Nat):=
 if p.names.length > 12∨p.rungs.length > 40 then some (4,none) else match firstBad (badN p) p.names 0 with
  | some (e,i)=>some (e,some i)
  | none=>match firstBad (fun _ r=>badG p r) p.rungs 0 with
   | some (e,i)=>some (e,some (p.names.length+i))
   | none=>none
structure GoodP (p:PgP):Prop where
 names:p.names.length≤12
 rungs:p.rungs.length≤40
 name:∀ n∈p.names,nameF n.name=true∧1≤n.kind∧n.kind≤4
 count:∀ n∈p.names,(n.kind < 3∧n.count=0)∨(3≤n.kind∧1≤n.count∧n.count≤7)
 num:∀ i (hi:i < p.names.length),numP p p.names[i].name=i
theorem checkP_good {p:PgP} (h:checkP p=none):GoodP p:=by
 unfold checkP at h
 split at h
 ·cases h
 ·rename_i hl
  split at h
  ·cases h
  ·rename_i hN
   have hall:=fun i hi=>firstBad_none hN i hi
   have one:∀ i (hi:i < p.names.length),nameF p.names[i].name=true∧1≤p.names[i].kind∧p.names[i].kind≤4∧((p.names[i].kind < 3∧p.names[i].count=0)∨(3≤p.names[i].kind∧1≤p.names[i].count∧p.names[i].count≤7))∧numP p p.names[i].name=i:=fun i hi=>by
    have hb:=hall i hi
    have hle:=numP_le p hi
    rw [Nat.zero_add] at hb;generalize p.names[i]=n at hb hle ⊢;unfold badN countsP at hb
    split at hb
    ·omega
    ·rename_i h1
     split at hb
     ·omega
     ·rename_i h2
      split at hb
      ·omega
      ·rename_i h3
       split at hb
       ·omega
       ·rename_i h4
        simp at h1 h2 h3;refine ⟨h1,by omega,by omega,?_,by omega⟩
        by_cases hk:n.kind=3∨n.kind=4
        ·exact .inr ⟨by omega,by have:=h3.1 hk;omega,by have:=h3.1 hk;omega⟩
        ·have:=h3.2 (by omega) (by omega)
         exact .inl ⟨by omega,by omega⟩
   refine ⟨by omega,by omega,fun n hn=>?_,fun n hn=>?_,fun i hi=>(one i hi).2.2.2.2⟩
   ·obtain ⟨i,hi,rfl⟩:=List.mem_iff_getElem.1 hn
    exact ⟨(one i hi).1,(one i hi).2.1,(one i hi).2.2.1⟩
   ·obtain ⟨i,hi,rfl⟩:=List.mem_iff_getElem.1 hn
    exact (one i hi).2.2.2.1
end Go.Proofs.YtpboiimemmfkiaaGreatDoor
namespace Go.Proofs.YtpboiimemmfkiaaGreatDoor
open Go.Av
def cNm (n:NmP):List D:=[dS n.name,.v (.int .i64 n.kind),.v (.int .i64 n.count)]
def dNm (n:NmP):D:=.agg (cNm n)
def dNms (l:List NmP):D:=.sl none (l.map cNm)
def dC (c:Option Ex):D:=match c with
 | none=>.v .nilIface
 | some e=>dE e
def cRg (r:RgP):List D:=[.v (.int .i64 r.kind),dS r.name,dC r.cond]
def dRg (r:RgP):D:=.agg (cRg r)
def dRgs (l:List RgP):D:=.sl none (l.map cRg)
def cPg (p:PgP):List D:=[dNms p.names,dRgs p.rungs]
def dPg (p:PgP):D:=.agg (cPg p)
set_option maxHeartbeats 1000000 in
theorem indexNm_spec (G:Glob) (k:Option Bool) (xs:List NmP) (g:FuncId) (caps:List D) (p:NmP→Bool) (hl:xs.length < 2^62) (ha:Answers G g caps dNm p xs) :
  PureC Tryz.prog G 118 [.sl k (xs.map cNm),.fn (.func g) caps] (.v (.int .i64 (idx p xs))):=by
 refine PureC.of_body (tyOf_good _) Tryz.func118 rfl rfl (rs:=[.tmp 4]) Tryz.results118 (by simp [Tryz.ntmps118]) fun X=>?_;simp only [Tryz.ntmps118,List.map];refine rg0 [0,1] [] ?_;refine AW_then fun K1 hK1=>?_;refine rg0 [0,1,7,8] [] ?_;refine AW_for (S:=Nat) (fun n=>n≤xs.length∧∀ i (hi:i < xs.length),i < n→p xs[i]=false) (fun n=>⟨lst [(0,.d (.sl k (xs.map cNm))),(1,.d (.fn (.func g) caps)),(7,int xs.length),(8,int n)],hlst []⟩) (fun n=>xs.length - n) 0 ?_ (by simp) ?_
 ·refine Imp.to' (fun _ _=>trivial) (by simp) (by simp)
 ·rintro n ⟨hn,hp⟩
  refine rg0 [0,1,7,8,9] [] ?_;refine AW_then fun K2 hK2=>?_;refine AW_cond' (b:=n < xs.length) (by simp [D.le,D.le.go,takeMap]) (fun hc=>?_) (fun hc=>?_)
  ·refine AW_skip (hK2 _ ?_);refine AW_then fun K3 hK3=>?_;refine AW_block ?_;refine rg0 [0,1,5,7,8] [] ?_
   have hax:=ha xs[n] (by simp)
   simp only [dNm,cNm] at hax
   have qf:=(Aq @hc @cNm.eq_1)
   refine rgcv hax [0,1,5,7,8,16] [] ?_;refine AW_cond _ rfl (fun hp2=>?_) (fun hp2=>?_)
   ·refine rg0 [4] [] ?_;refine AW_ret ?_;simp [D.le,D.le.go,takeMap];exact (idx_hit hc hp2 fun i hi=>hp i (by omega) hi).symm
   ·refine AW_skip (hK3 _ ?_);refine AW_re (tyOf_good _) fun K' hK'=>?_;(repeat (refine sxn fun K2 hK2=>?_;simp;(repeat (refine ⟨by omega,?_⟩));refine hK2 _ ?_;clear hK2 K2));refine sxz (hK' _ ?_);clear hK' K';(try simp only [thn,inb]);refine Again.mk (n+1) ⟨by omega,fun i hi hin=>?_⟩ (by omega) ?_
    ·by_cases h:i=n
     ·subst h;exact hp2
     ·exact hp i hi (by omega)
    refine Imp.to' (fun _ _=>trivial) (by simp) (by simp)
  ·refine AW_exit (hK1 _ ?_);refine rg0 [4] [] ?_;refine AW_ret ?_;simp [D.le,D.le.go,takeMap];exact (idx_miss fun i hi=>hp i hi (by omega)).symm
set_option maxHeartbeats 1000000 in
theorem indexTx_spec (G:Glob) (k:Option Bool) (xs:List (List UInt8)) (g:FuncId) (caps:List D) (p:(List UInt8)→Bool) (hl:xs.length < 2^62) (ha:Answers G g caps dS p xs) :
  PureC Tryz.prog G 229 [.sl k (xs.map (fun s=>[dS s])),.fn (.func g) caps] (.v (.int .i64 (idx p xs))):=by
 refine PureC.of_body (tyOf_good _) Tryz.func229 rfl rfl (rs:=[.tmp 4]) Tryz.results229 (by simp [Tryz.ntmps229]) fun X=>?_;simp only [Tryz.ntmps229,List.map];refine rg0 [0,1] [] ?_;refine AW_then fun K1 hK1=>?_;refine rg0 [0,1,7,8] [] ?_;refine AW_for (S:=Nat) (fun n=>n≤xs.length∧∀ i (hi:i < xs.length),i < n→p xs[i]=false) (fun n=>⟨lst [(0,.d (.sl k (xs.map (fun s=>[dS s])))),(1,.d (.fn (.func g) caps)),(7,int xs.length),(8,int n)],hlst []⟩) (fun n=>xs.length - n) 0 ?_ (by simp) ?_
 ·refine Imp.to' (fun _ _=>trivial) (by simp [dS]) (by simp [dS])
 ·rintro n ⟨hn,hp⟩
  refine rg0 [0,1,7,8,9] [] ?_;refine AW_then fun K2 hK2=>?_;refine AW_cond' (b:=n < xs.length) (by simp [D.le,D.le.go,takeMap]) (fun hc=>?_) (fun hc=>?_)
  ·refine AW_skip (hK2 _ ?_);refine AW_then fun K3 hK3=>?_;refine AW_block ?_;refine rg0 [0,1,5,7,8] [] ?_
   have hax:=ha xs[n] (by simp)
   simp only [dS] at hax
   have qf:=(Aq @hc @dS.eq_1)
   refine rgcv hax [0,1,5,7,8,16] [] ?_;refine AW_cond _ rfl (fun hp2=>?_) (fun hp2=>?_)
   ·refine rg0 [4] [] ?_;refine AW_ret ?_;simp [D.le,D.le.go,takeMap];exact (idx_hit hc hp2 fun i hi=>hp i (by omega) hi).symm
   ·refine AW_skip (hK3 _ ?_);refine AW_re (tyOf_good _) fun K' hK'=>?_;(repeat (refine sxn fun K2 hK2=>?_;simp;(repeat (refine ⟨by omega,?_⟩));refine hK2 _ ?_;clear hK2 K2));refine sxz (hK' _ ?_);clear hK' K';(try simp only [thn,inb]);refine Again.mk (n+1) ⟨by omega,fun i hi hin=>?_⟩ (by omega) ?_
    ·by_cases h:i=n
     ·subst h;exact hp2
     ·exact hp i hi (by omega)
    refine Imp.to' (fun _ _=>trivial) (by simp [dS]) (by simp [dS])
  ·refine AW_exit (hK1 _ ?_);refine rg0 [4] [] ?_;refine AW_ret ?_;simp [D.le,D.le.go,takeMap];exact (idx_miss fun i hi=>hp i hi (by omega)).symm
set_option maxHeartbeats 1000000 in
theorem containsTx_spec (G:Glob) (k:Option Bool) (xs:List (List UInt8)) (g:FuncId) (caps:List D) (p:List UInt8→Bool) (hl:xs.length < 2^62) (ha:Answers G g caps dS p xs) :
  PureC Tryz.prog G 180 [.sl k (xs.map fun s=>[dS s]),.fn (.func g) caps] (.v (.bool (xs.any p))):=by
 refine PureC.of_body (tyOf_good _) Tryz.func180 rfl rfl (rs:=[.tmp 4]) Tryz.results180 (by simp [Tryz.ntmps180]) fun X=>?_;simp only [Tryz.ntmps180,List.map];refine rg0 [0,1] [] ?_;refine rgc trivial (indexTx_spec G k xs g caps p hl ha) [4] [] ?_;refine AW_ret ?_;simp [D.le,D.le.go,takeMap];exact idx_any p xs
set_option maxHeartbeats 1000000 in
theorem lc_num1 (G:Glob) (n:NmP) (s:List UInt8):PureC Tryz.prog G 119 [dNm n,.ip [dS s]] (.v (.bool (n.name == s))):=by
 simp only [dNm,cNm,dS];refine PureC.of_body (tyOf_good _) Tryz.func119 rfl rfl (rs:=[.tmp 3]) Tryz.results119 (by simp [Tryz.ntmps119]) fun X=>?_;simp only [Tryz.ntmps119,List.map];refine rg0 [1,2] [2] ?_;refine rg [3] [2] (fun _ _=>trivial) fun K' hK'=>?_;(repeat (refine sxn fun K2 hK2=>?_;simp [binS,bs_list];(repeat (refine ⟨by omega,?_⟩));refine hK2 _ ?_;clear hK2 K2));refine sxz (hK' _ (AW.st (by simp [binS,bs_list];rfl) ?_));clear hK' K';refine AW_ret ?_;simp [D.le,D.le.go,takeMap]
set_option maxHeartbeats 1000000 in
theorem lc_num (G:Glob) (p:PgP) (hp:p.names.length < 2^62) (s:List UInt8):PureC Tryz.prog G 61 [dPg p,dS s] (.v (.int .i64 (numP p s))):=by
 have hi:=indexNm_spec G none p.names 119 [.ip [dS s]] (fun n=>n.name == s) hp fun n _=>lc_num1 G n s
 unfold numP;simp only [dPg,cPg,dNms,dS] at hi ⊢;generalize dRgs p.rungs=R at *;generalize idx (fun n:NmP=>n.name == s) p.names=z at hi ⊢;refine PureC.of_body (tyOf_good _) Tryz.func61 rfl rfl (rs:=[.tmp 4]) Tryz.results61 (by simp [Tryz.ntmps61]) fun X=>?_;simp only [Tryz.ntmps61,List.map];refine rgq @dRgs.eq_1 [2,3] [2,3] ?_;refine AW.imp (Imp.freezeB 3 trivial) ?_;refine AW.st (by simp;rfl) ?_;refine rgc trivial hi [4] [2] ?_;refine AW_ret ?_;simp [D.le,D.le.go,takeMap]
set_option maxHeartbeats 1000000 in
theorem lc_chk1 (G:Glob) (p:PgP) (hp:p.names.length < 2^62) (s:List UInt8):PureC Tryz.prog G 181 [dS s,.ip (cPg p)] (.v (.bool (decide (numP p s < 0)))):=by
 have hi:=lc_num G p hp s
 simp only [dPg,cPg,dNms,dRgs,dS] at hi ⊢;refine PureC.of_body (tyOf_good _) Tryz.func181 rfl rfl (rs:=[.tmp 3]) Tryz.results181 (by simp [Tryz.ntmps181]) fun X=>?_;simp only [Tryz.ntmps181,List.map];refine rg0 [0,1] [] ?_;refine rgc trivial hi [3] [] ?_;refine AW_ret ?_;simp [D.le,D.le.go,takeMap]
structure LaterG (T:Prop):Prop where
 out:T
theorem lateG {T U:Prop} (h:LaterG T→U) (t:T):U:=h ⟨t⟩
theorem numP_pos {p:PgP} {s:List UInt8} (h:¬ numP p s < 0):∃ k:Nat,∃ hk:k < p.names.length,numP p s=k:=by
 obtain ⟨k,hk,he,_⟩:=idx_pos h
 exact ⟨k,hk,he⟩
set_option maxHeartbeats 8000000 in
theorem lc_chk (G:Glob) (p:PgP) (hp:p.names.length < 2^62) (r:RgP) (hb:∀ e,r.cond=some e→bE e≤2^28∧(namesE true e).length < 2^62):PureC Tryz.prog G 139 [dPg p,dRg r] (.v (.int .i64 (badG p r))):=by
 obtain ⟨kind,name,cond⟩:=r
 dsimp only at hb
 have hnum:=lc_num G p hp name
 have hck:=fun s=>lc_chk1 G p hp s
 simp only [dPg,cPg,dNms,dRgs,dRg,cRg,dS] at hnum hck ⊢
 cases cond with
 | none=>
  have hres0:badG p ⟨kind,name,none⟩=1:=rfl
  generalize badG p ⟨kind,name,none⟩=res at hres0;refine PureC.of_body (tyOf_good _) Tryz.func139 rfl rfl (rs:=[.tmp 4]) Tryz.results139 (by simp [Tryz.ntmps139]) fun X=>?_;simp only [Tryz.ntmps139,List.map]
  have fw:=(Aq @dC.eq_1 @dC.eq_2)
  refine rgq fw [2,3] [2,3] ?_;refine AW_then fun K1 hK1=>?_
  by_cases h1:kind < 1
  ·have qf:=(Aq fw @h1)
   refine rgqv [2,3,19] [2,3] ?_;refine AW_tt rfl ?_;refine rgq fw [4] [] ?_;refine AW_ret ?_;simp [D.le,D.le.go,takeMap,dC,hres0]
  ·by_cases h2:kind > 6
   ·have qf:=(Aq fw (Aq @h1 @h2))
    refine rgqv [2,3,19] [2,3] ?_;refine AW_tt rfl ?_;refine rgq fw [4] [] ?_;refine AW_ret ?_;simp [D.le,D.le.go,takeMap,dC,hres0]
   ·have qf:=(Aq fw (Aq @h1 @h2))
    refine rgqv [2,3,19] [2,3] ?_;refine AW_tt rfl ?_;refine rgq fw [4] [] ?_;refine AW_ret ?_;simp [D.le,D.le.go,takeMap,dC,hres0]
 | some e=>
  have hres0:badG p ⟨kind,name,some e⟩=if decide (kind < 1) || decide (kind > 6) then 1 else if numP p name < 0 then 7
   else if wantP kind≠(p.names.getD (numP p name).toNat ⟨[],0,0⟩).kind then 1 else if (namesE true e).any fun s=>decide (numP p s < 0) then 7 else 0:=rfl
  generalize badG p ⟨kind,name,some e⟩=res at hres0
  obtain ⟨hbe,hnl⟩:=hb e rfl
  have hns:=namesE_spec G e hbe
  have hany:=containsTx_spec G none (namesE true e) 181 [.ip (cPg p)] (fun s=>decide (numP p s < 0)) hnl fun s _=>lc_chk1 G p hp s
  have hdc:dC (some e)=dE e:=rfl
  rw [hdc]
  obtain ⟨tx,cx,hx⟩:=dE_ifc e
  rw [hx] at hns ⊢;simp only [cPg,dNms,dRgs,dS] at hns hany;generalize ((namesE true e).any fun s=>decide (numP p s < 0))=an at hres0 hany;generalize namesE true e=nm at hns hany;refine PureC.of_body (tyOf_good _) Tryz.func139 rfl rfl (rs:=[.tmp 4]) Tryz.results139 (by simp [Tryz.ntmps139]) fun X=>?_;simp only [Tryz.ntmps139,List.map]
  have fw:=(Aq @dC.eq_1 @dC.eq_2)
  refine rgq fw [2,3] [2,3] ?_;refine AW.imp (Imp.freezeB 2 trivial) ?_;refine AW.st (by simp [dC];rfl) ?_;refine AW.imp (Imp.freezeB 3 trivial) ?_;refine AW.st (by simp [dC];rfl) ?_;refine AW_then fun K1 hK1=>?_
  by_cases h1:kind < 1
  ·rw [if_pos (by simp [h1])] at hres0
   have qf:=(Aq fw @h1)
   refine rgqv [2,3,19] [] ?_;refine AW_tt rfl ?_;refine rgq fw [4] [] ?_;refine AW_ret ?_;simp [D.le,D.le.go,takeMap,dC,hres0]
  by_cases h2:kind > 6
  ·rw [if_pos (by simp [h2])] at hres0
   have qf:=(Aq fw (Aq @h1 @h2))
   refine rgqv [2,3,19] [] ?_;refine AW_tt rfl ?_;refine rgq fw [4] [] ?_;refine AW_ret ?_;simp [D.le,D.le.go,takeMap,dC,hres0]
  rw [if_neg (by simp [h1,h2])] at hres0
  have qf:=(Aq fw (Aq @h1 @h2))
  refine rgqv [2,3,19] [] ?_;refine AW_ff rfl ?_;refine AW_skip (hK1 _ ?_);refine rgc fw hnum [2,3,5] [] ?_;refine AW_then fun K2 hK2=>?_;refine rgq fw [2,3,5,25] [] ?_
  by_cases h3:numP p name < 0
  ·rw [if_pos h3] at hres0;refine AW_cond true (by simp [h3]) (fun _=>?_) (fun h=>by cases h);refine rgq fw [4] [] ?_;refine AW_ret ?_;simp [D.le,D.le.go,takeMap,dC,hres0]
  rw [if_neg h3] at hres0
  obtain ⟨k,hk,hke⟩:=numP_pos h3
  have hgd:p.names.getD (numP p name).toNat ⟨[],0,0⟩=p.names[k]:=by
   rw [hke,Int.toNat_natCast,List.getD_eq_getElem?_getD,List.getElem?_eq_getElem hk];rfl
  rw [hgd] at hres0;refine AW_cond false (by simp [h3]) (fun h=>by cases h) (fun _=>?_);refine AW_skip (hK2 _ ?_);refine AW_then fun K3 hK3=>?_
  have hcells:cNm p.names[k]=[dS p.names[k].name,.v (.int .i64 p.names[k].kind),.v (.int .i64 p.names[k].count)]:=rfl
  generalize hkk:p.names[k].kind=kk at hres0 hcells;refine' lateG (fun hrest=>?_) ?_
  rotate_left
  ·have hk0:=h1
   by_cases hk1:kind=1
   ·have qf:=(Aq fw @hk1)
    refine rgqv [2,3,5,6] [] ?_;refine AW.st (show _=(⟨lst [(2,.d (.ip [.sl none (p.names.map cNm),.sl none (p.rungs.map cRg)])),(3,.d (.ip [.v (.int .i64 kind),.v (.string (bs name)),.ifc tx cx])),(5,int (numP p name)),(6,int (wantP kind))],hlst []⟩:St) by rw [hk1]<;>rfl) ?_;exact hrest.out
   by_cases hk1:kind=2
   ·have qf:=(Aq fw @hk1)
    refine rgqv [2,3,5,6] [] ?_;refine AW.st (show _=(⟨lst [(2,.d (.ip [.sl none (p.names.map cNm),.sl none (p.rungs.map cRg)])),(3,.d (.ip [.v (.int .i64 kind),.v (.string (bs name)),.ifc tx cx])),(5,int (numP p name)),(6,int (wantP kind))],hlst []⟩:St) by rw [hk1]<;>rfl) ?_;exact hrest.out
   by_cases hk1:kind=3
   ·have qf:=(Aq fw @hk1)
    refine rgqv [2,3,5,6] [] ?_;refine AW.st (show _=(⟨lst [(2,.d (.ip [.sl none (p.names.map cNm),.sl none (p.rungs.map cRg)])),(3,.d (.ip [.v (.int .i64 kind),.v (.string (bs name)),.ifc tx cx])),(5,int (numP p name)),(6,int (wantP kind))],hlst []⟩:St) by rw [hk1]<;>rfl) ?_;exact hrest.out
   by_cases hk1:kind=4
   ·have qf:=(Aq fw @hk1)
    refine rgqv [2,3,5,6] [] ?_;refine AW.st (show _=(⟨lst [(2,.d (.ip [.sl none (p.names.map cNm),.sl none (p.rungs.map cRg)])),(3,.d (.ip [.v (.int .i64 kind),.v (.string (bs name)),.ifc tx cx])),(5,int (numP p name)),(6,int (wantP kind))],hlst []⟩:St) by rw [hk1]<;>rfl) ?_;exact hrest.out
   by_cases hk1:kind=5
   ·have qf:=(Aq fw @hk1)
    refine rgqv [2,3,5,6] [] ?_;refine AW.st (show _=(⟨lst [(2,.d (.ip [.sl none (p.names.map cNm),.sl none (p.rungs.map cRg)])),(3,.d (.ip [.v (.int .i64 kind),.v (.string (bs name)),.ifc tx cx])),(5,int (numP p name)),(6,int (wantP kind))],hlst []⟩:St) by rw [hk1]<;>rfl) ?_;exact hrest.out
   have hk1:kind=6:=by omega
   have qf:=(Aq fw @hk1)
   refine rgqv [2,3,5,6] [] ?_;refine AW.st (show _=(⟨lst [(2,.d (.ip [.sl none (p.names.map cNm),.sl none (p.rungs.map cRg)])),(3,.d (.ip [.v (.int .i64 kind),.v (.string (bs name)),.ifc tx cx])),(5,int (numP p name)),(6,int (wantP kind))],hlst []⟩:St) by rw [hk1]<;>rfl) ?_;exact hrest.out
  ·rw [hke]
   have qf:=(Aq fw (Aq @hk @hcells))
   refine rgqv [2,3,37] [] ?_
   by_cases h4:kk=wantP kind
   ·rw [if_neg (by simp [h4])] at hres0;refine AW_cond false (by simp [h4]) (fun h=>by cases h) (fun _=>?_);refine AW_skip (hK3 _ ?_);refine AW_then fun K4 hK4=>?_;refine rg [42] [] (fun _ _=>trivial) fun K' hK'=>?_;(repeat (refine sxn fun K2 hK2=>?_;simp [dC];(repeat (refine ⟨by omega,?_⟩));refine hK2 _ ?_;clear hK2 K2));refine sxn fun K2 hK2=>?_;simp [dC];refine callK.data (hns) (by simp;rfl) (by first | exact D.leGo_refl _ | simp [takeMap,List.map_map,Function.comp_def,D.le,D.le.go,D.le_refl,D.leGo_refl,dC]) ?_;refine hK2 _ ?_;clear hK2 K2;simp only [putd,upd_lst];(repeat (refine sxn fun K2 hK2=>?_;simp [dC];(repeat (refine ⟨by omega,?_⟩));refine hK2 _ ?_;clear hK2 K2));refine sxn fun K2 hK2=>?_;simp [dC];refine callK.data (hany) (by simp;rfl) (by first | exact D.leGo_refl _ | simp [takeMap,List.map_map,Function.comp_def,D.le,D.le.go,D.le_refl,D.leGo_refl,dC]) ?_;refine hK2 _ ?_;clear hK2 K2;simp only [putd,upd_lst];(repeat (refine sxn fun K2 hK2=>?_;simp [dC];(repeat (refine ⟨by omega,?_⟩));refine hK2 _ ?_;clear hK2 K2));refine sxz (hK' _ (AW.st (by simp [dC];rfl) ?_));clear hK' K'
    cases an with
    | true=>
     rw [if_pos rfl] at hres0;refine AW_tt rfl ?_;refine rgq fw [4] [] ?_;refine AW_ret ?_;simp [D.le,D.le.go,takeMap,dC,hres0]
    | false=>
     rw [if_neg (by decide)] at hres0;refine AW_ff rfl ?_;refine AW_skip (hK4 _ ?_);refine rgq fw [4] [] ?_;refine AW_ret ?_;simp [D.le,D.le.go,takeMap,dC,hres0]
   ·rw [if_pos (fun h=>h4 h.symm)] at hres0;refine AW_cond true (by simp [h4]) (fun _=>?_) (fun h=>by cases h);refine rgq fw [4] [] ?_;refine AW_ret ?_;simp [D.le,D.le.go,takeMap,dC,hres0]
end Go.Proofs.YtpboiimemmfkiaaGreatDoor
namespace Go.Proofs.YtpboiimemmfkiaaGreatDoor
open Go.Av
theorem firstBad_at {α:Type} {f:Nat→α→Int}:∀ {l:List α} {i n:Nat} (hn:n < l.length),(∀ k (hk:k < l.length),k < n→f (i+k) l[k]=0)→f (i+n) l[n]≠0→firstBad f l i=some (f (i+n) l[n],i+n)
 | x :: l,i,0,_,_,hne=>by rw [firstBad,if_neg (show ¬ f i x=0 from hne)];rfl
 | x :: l,i,n+1,hn,hb,hne=>by
  have h0:f i x=0:=hb 0 (by simp) (by omega)
  have e:∀ k,i+1+k=i+(k+1):=fun k=>by omega
  rw [firstBad,if_pos h0,firstBad_at (l:=l) (i:=i+1) (n:=n) (by simpa using hn) (fun k hk hkn=>by rw [e];exact hb (k+1) (by simpa using hk) (by omega)) (by rw [e];exact hne),e]
  rfl
theorem firstBad_ok {α:Type} {f:Nat→α→Int}:∀ {l:List α} {i:Nat},(∀ k (hk:k < l.length),f (i+k) l[k]=0)→firstBad f l i=none
 | [],_,_=>rfl
 | x :: l,i,hb=>by
  have e:∀ k,i+1+k=i+(k+1):=fun k=>by omega
  rw [firstBad,if_pos (show f i x=0 from hb 0 (by simp)),firstBad_ok fun k hk=>by rw [e];exact hb (k+1) (by simpa using hk)]
structure SmallP (p:PgP):Prop where
 nl:p.names.length < 2^62
 rl:p.rungs.length < 2^62
 nn:∀ n∈p.names,n.name.length < 2^60
 cb:∀ r∈p.rungs,∀ e,r.cond=some e→bE e≤2^28∧(namesE true e).length < 2^62
set_option maxHeartbeats 16000000 in
theorem ladderCheck_spec (G:Glob) (p:PgP) (hp:SmallP p):PureC Tryz.prog G 82 [dPg p] (dErr (checkP p)):=by
 obtain ⟨hnl,hrl,hnn,hcb⟩:=hp
 have hr2:checkP p=if p.names.length > 12∨p.rungs.length > 40 then some (4,none) else match firstBad (badN p) p.names 0 with
  | some (e,i)=>some (e,some i)
  | none=>match firstBad (fun _ r=>badG p r) p.rungs 0 with
   | some (e,i)=>some (e,some (p.names.length+i))
   | none=>none:=rfl
 generalize hres:checkP p=res;rw [hr2] at hres
 have hnum:=fun s=>lc_num G p hnl s
 have hchk:=fun r h=>lc_chk G p hnl r h
 simp only [dPg,cPg,dNms,dRgs,dS] at hnum hchk ⊢;refine PureC.of_body (tyOf_good _) Tryz.func82 rfl rfl (rs:=[.tmp 2]) Tryz.results82 (by simp [Tryz.ntmps82]) fun X=>?_;simp only [Tryz.ntmps82,List.map];refine rg0 [1] [1] ?_;refine AW.imp (Imp.freezeB 1 trivial) ?_;refine AW.st (by simp;rfl) ?_;refine AW_then fun K1 hK1=>?_
 by_cases g0:(p.names.length:Int) > 12
 ·rw [if_pos (.inl (by omega))] at hres
  have qf:=@g0
  refine rgqv [1,19] [] ?_;refine AW_tt rfl ?_;refine rg0 [2] [] ?_;refine AW_ret ?_;simp [D.le,D.le.go,takeMap];simp [← hres,dErr,D.le]
 by_cases g1:(p.rungs.length:Int) > 40
 ·rw [if_pos (.inr (by omega))] at hres
  have qf:=(Aq @g0 @g1)
  refine rgqv [1,19] [] ?_;refine AW_tt rfl ?_;refine rg0 [2] [] ?_;refine AW_ret ?_;simp [D.le,D.le.go,takeMap];simp [← hres,dErr,D.le]
 rw [if_neg (by omega)] at hres
 have qf:=(Aq @g0 @g1)
 refine rgqv [1,19] [] ?_;refine AW_ff rfl ?_;refine AW_skip (hK1 _ ?_);refine AW_then fun K2 hK2=>?_;refine rg0 [1,22,23,24] [] ?_;refine AW_for (S:=Nat) (fun n=>n≤p.names.length∧∀ k (hk:k < p.names.length),k < n→badN p k p.names[k]=0) (fun n=>⟨lst [(1,.d (.ip [.sl none (p.names.map cNm),.sl none (p.rungs.map cRg)])),(22,.d (.sl none (p.names.map cNm))),(23,int p.names.length),(24,int n)],hlst []⟩) (fun n=>p.names.length - n) 0 ?_ (by simp) ?_
 ·refine Imp.to' (fun _ _=>trivial) (by simp) (by simp)
 ·rintro n ⟨hn,hb⟩
  refine rg0 [1,22,23,24,25] [] ?_;refine AW_then fun K3 hK3=>?_;refine AW_cond' (b:=n < p.names.length) (by simp [D.le,D.le.go,takeMap]) (fun hc=>?_) (fun hc=>?_)
  ·have hlt:=hc
   have hgo:badN p n p.names[n]≠0→res=some (badN p n p.names[n],some n):=fun hne=>by
    rw [← hres,firstBad_at (i:=0) hlt (fun k hk hkn=>by rw [Nat.zero_add];exact hb k hk hkn) (by rw [Nat.zero_add];exact hne)];simp
   have hnm:=hnn _ (List.getElem_mem hlt)
   have hcells:cNm p.names[n]=[dS p.names[n].name,.v (.int .i64 p.names[n].kind),.v (.int .i64 p.names[n].count)]:=rfl
   have hbad:badN p n p.names[n]=if !nameF p.names[n].name then 5 else if decide (p.names[n].kind < 1) || decide (p.names[n].kind > 4) then 1 else if ((decide (p.names[n].kind=3) || decide (p.names[n].kind=4)) && (decide (p.names[n].count < 1) || decide (p.names[n].count > 7))) || (!(decide (p.names[n].kind=3) || decide (p.names[n].kind=4)) && decide (p.names[n].count≠0)) then 2 else if numP p p.names[n].name < n then 9 else 0:=rfl
   generalize hv:badN p n p.names[n]=v at hbad hgo;generalize p.names[n].name=nm at hnm hcells hbad;generalize p.names[n].kind=kd at hcells hbad;generalize p.names[n].count=ct at hcells hbad
   have hname:=name_spec G nm hnm
   have hnu:=hnum nm
   simp only [dS] at hcells hname;generalize nameF nm=nf at hname hbad;refine AW_skip (hK3 _ ?_);refine AW_then fun K4 hK4=>?_;refine AW_block ?_
   have qf:=(Aq @hlt @hcells)
   refine rgqv [1,3,4,22,23,24] [4] ?_;refine AW.imp (Imp.freezeB 4 trivial) ?_;refine AW.st (by simp;rfl) ?_;refine' lateG (fun hst=>?_) ?_
   rotate_left
   ·by_cases k3:kd=3
    ·have qf:=@k3
     refine rgqv [1,3,4,5,22,23,24] [] ?_;refine AW.st (show _=(⟨lst [(1,.d (.ip [.sl none (p.names.map cNm),.sl none (p.rungs.map cRg)])),(3,int n),(4,.d (.ip [.v (.string (bs nm)),.v (.int .i64 kd),.v (.int .i64 ct)])),(5,.d (.v (.bool (decide (kd=3) || decide (kd=4))))),(22,.d (.sl none (p.names.map cNm))),(23,int p.names.length),(24,int n)],hlst []⟩:St) by rw [k3]<;>rfl) ?_;exact hst.out
    ·by_cases k4:kd=4
     ·have qf:=(Aq @k3 @k4)
      refine rgqv [1,3,4,5,22,23,24] [] ?_;refine AW.st (show _=(⟨lst [(1,.d (.ip [.sl none (p.names.map cNm),.sl none (p.rungs.map cRg)])),(3,int n),(4,.d (.ip [.v (.string (bs nm)),.v (.int .i64 kd),.v (.int .i64 ct)])),(5,.d (.v (.bool (decide (kd=3) || decide (kd=4))))),(22,.d (.sl none (p.names.map cNm))),(23,int p.names.length),(24,int n)],hlst []⟩:St) by rw [k4]<;>rfl) ?_;exact hst.out
     ·have e:(decide (kd=3) || decide (kd=4))=false:=by simp [k3,k4]
      have qf:=(Aq @k3 @k4)
      refine rgqv [1,3,4,5,22,23,24] [] ?_;refine AW.st (show _=(⟨lst [(1,.d (.ip [.sl none (p.names.map cNm),.sl none (p.rungs.map cRg)])),(3,int n),(4,.d (.ip [.v (.string (bs nm)),.v (.int .i64 kd),.v (.int .i64 ct)])),(5,.d (.v (.bool (decide (kd=3) || decide (kd=4))))),(22,.d (.sl none (p.names.map cNm))),(23,int p.names.length),(24,int n)],hlst []⟩:St) by rw [e]<;>rfl) ?_;exact hst.out
   ·generalize (decide (kd=3) || decide (kd=4))=cB at hbad;refine rg0 [1,3,4,5,6,22,23,24] [] ?_;refine AW_then fun K5 hK5=>?_;refine' lateG (fun hrest=>?_) ?_
    rotate_left
    ·refine AW_block ?_;refine rgc trivial hname [1,3,4,5,6,22,23,24,37] [] ?_
     by_cases hnf:nf=true
     rotate_left
     ·have hnf2:nf=false:=by simpa using hnf
      rw [if_pos (by simp [hnf2])] at hbad;rw [hnf2];refine AW_tt rfl ?_;refine reK trivial hK5 [1,3,6,22,23,24] [] ?_;refine AW.st (show _=(⟨lst [(1,.d (.ip [.sl none (p.names.map cNm),.sl none (p.rungs.map cRg)])),(3,int n),(6,int v),(22,.d (.sl none (p.names.map cNm))),(23,int p.names.length),(24,int n)],hlst []⟩:St) by rw [hbad]<;>rfl) ?_;exact hrest.out
     ·rw [if_neg (by simp [hnf])] at hbad;rw [hnf];refine AW_ff rfl ?_
      by_cases k1:kd < 1
      ·rw [if_pos (by simp [k1])] at hbad
       have qf:=@k1
       refine rgqv [1,3,4,5,6,22,23,24,42] [] ?_;refine AW_tt rfl ?_;refine reK trivial hK5 [1,3,6,22,23,24] [] ?_;refine AW.st (show _=(⟨lst [(1,.d (.ip [.sl none (p.names.map cNm),.sl none (p.rungs.map cRg)])),(3,int n),(6,int v),(22,.d (.sl none (p.names.map cNm))),(23,int p.names.length),(24,int n)],hlst []⟩:St) by rw [hbad]<;>rfl) ?_;exact hrest.out
      by_cases k2:kd > 4
      ·rw [if_pos (by simp [k2])] at hbad
       have qf:=(Aq @k1 @k2)
       refine rgqv [1,3,4,5,6,22,23,24,42] [] ?_;refine AW_tt rfl ?_;refine reK trivial hK5 [1,3,6,22,23,24] [] ?_;refine AW.st (show _=(⟨lst [(1,.d (.ip [.sl none (p.names.map cNm),.sl none (p.rungs.map cRg)])),(3,int n),(6,int v),(22,.d (.sl none (p.names.map cNm))),(23,int p.names.length),(24,int n)],hlst []⟩:St) by rw [hbad]<;>rfl) ?_;exact hrest.out
      rw [if_neg (by simp [k1,k2])] at hbad
      have qf:=(Aq @k1 @k2)
      refine rgqv [1,3,4,5,6,22,23,24,42] [] ?_;refine AW_ff rfl ?_
      by_cases hcB:cB=true
      ·rw [hcB] at hbad ⊢
       by_cases c1:ct < 1
       ·rw [if_pos (by simp [c1])] at hbad
        have qf:=@c1
        refine rgqv [1,3,4,6,22,23,24,51] [] ?_;refine AW_tt rfl ?_;refine reK trivial hK5 [1,3,6,22,23,24] [] ?_;refine AW.st (show _=(⟨lst [(1,.d (.ip [.sl none (p.names.map cNm),.sl none (p.rungs.map cRg)])),(3,int n),(6,int v),(22,.d (.sl none (p.names.map cNm))),(23,int p.names.length),(24,int n)],hlst []⟩:St) by rw [hbad]<;>rfl) ?_;exact hrest.out
       by_cases c2:ct > 7
       ·rw [if_pos (by simp [c2])] at hbad
        have qf:=(Aq @c1 @c2)
        refine rgqv [1,3,4,6,22,23,24,51] [] ?_;refine AW_tt rfl ?_;refine reK trivial hK5 [1,3,6,22,23,24] [] ?_;refine AW.st (show _=(⟨lst [(1,.d (.ip [.sl none (p.names.map cNm),.sl none (p.rungs.map cRg)])),(3,int n),(6,int v),(22,.d (.sl none (p.names.map cNm))),(23,int p.names.length),(24,int n)],hlst []⟩:St) by rw [hbad]<;>rfl) ?_;exact hrest.out
       rw [if_neg (by simp [c1,c2])] at hbad
       have qf:=(Aq @c1 @c2)
       refine rgqv [1,3,4,6,22,23,24,51] [] ?_;refine AW_ff rfl ?_;refine rgc trivial hnu [1,3,6,22,23,24,72] [] ?_
       by_cases c9:numP p nm < n
       ·rw [if_pos c9] at hbad;refine AW_cond true (by simp [c9]) (fun _=>?_) (fun h=>by cases h);refine reK trivial hK5 [1,3,6,22,23,24] [] ?_;refine AW.st (show _=(⟨lst [(1,.d (.ip [.sl none (p.names.map cNm),.sl none (p.rungs.map cRg)])),(3,int n),(6,int v),(22,.d (.sl none (p.names.map cNm))),(23,int p.names.length),(24,int n)],hlst []⟩:St) by rw [hbad]<;>rfl) ?_;exact hrest.out
       ·rw [if_neg c9] at hbad;refine AW_cond false (by simp [c9]) (fun h=>by cases h) (fun _=>?_);refine AW_skip ?_;refine hK5 _ (AW.norm [1,3,6,22,23,24] [] (fun _ _=>trivial) (AW.st (by simp;rfl) ?_));refine AW.st (show _=(⟨lst [(1,.d (.ip [.sl none (p.names.map cNm),.sl none (p.rungs.map cRg)])),(3,int n),(6,int v),(22,.d (.sl none (p.names.map cNm))),(23,int p.names.length),(24,int n)],hlst []⟩:St) by rw [hbad]<;>rfl) ?_;exact hrest.out
      ·have hcB2:cB=false:=by simpa using hcB
       rw [hcB2] at hbad ⊢
       by_cases c0:ct=0
       ·rw [if_neg (by simp [c0])] at hbad
        have qf:=@c0
        refine rgqv [1,3,4,6,22,23,24,51] [] ?_;refine AW_ff rfl ?_;refine rgc trivial hnu [1,3,6,22,23,24,72] [] ?_
        by_cases c9:numP p nm < n
        ·rw [if_pos c9] at hbad;refine AW_cond true (by simp [c9]) (fun _=>?_) (fun h=>by cases h);refine reK trivial hK5 [1,3,6,22,23,24] [] ?_;refine AW.st (show _=(⟨lst [(1,.d (.ip [.sl none (p.names.map cNm),.sl none (p.rungs.map cRg)])),(3,int n),(6,int v),(22,.d (.sl none (p.names.map cNm))),(23,int p.names.length),(24,int n)],hlst []⟩:St) by rw [hbad]<;>rfl) ?_;exact hrest.out
        ·rw [if_neg c9] at hbad;refine AW_cond false (by simp [c9]) (fun h=>by cases h) (fun _=>?_);refine AW_skip ?_;refine hK5 _ (AW.norm [1,3,6,22,23,24] [] (fun _ _=>trivial) (AW.st (by simp;rfl) ?_));refine AW.st (show _=(⟨lst [(1,.d (.ip [.sl none (p.names.map cNm),.sl none (p.rungs.map cRg)])),(3,int n),(6,int v),(22,.d (.sl none (p.names.map cNm))),(23,int p.names.length),(24,int n)],hlst []⟩:St) by rw [hbad]<;>rfl) ?_;exact hrest.out
       ·rw [if_pos (by simp [c0])] at hbad
        have qf:=@c0
        refine rgqv [1,3,4,6,22,23,24,51] [] ?_;refine AW_tt rfl ?_;refine reK trivial hK5 [1,3,6,22,23,24] [] ?_;refine AW.st (show _=(⟨lst [(1,.d (.ip [.sl none (p.names.map cNm),.sl none (p.rungs.map cRg)])),(3,int n),(6,int v),(22,.d (.sl none (p.names.map cNm))),(23,int p.names.length),(24,int n)],hlst []⟩:St) by rw [hbad]<;>rfl) ?_;exact hrest.out
    ·by_cases hv0:v=0
     ·have qf:=@hv0
      refine rgqv [1,3,6,22,23,24,80] [] ?_;refine AW_ff rfl ?_;refine AW_skip ?_;refine hK4 _ ?_;refine AW_re (tyOf_good _) fun K' hK'=>?_;(repeat (refine sxn fun K2 hK2=>?_;simp;(repeat (refine ⟨by omega,?_⟩));refine hK2 _ ?_;clear hK2 K2));refine sxz (hK' _ ?_);clear hK' K';(try simp only [thn,inb]);refine Again.mk (n+1) ⟨by omega,fun k hk hkn=>?_⟩ (by omega) ?_
      ·by_cases h:k=n
       ·subst h;rw [hv,hv0]
       ·exact hb k hk (by omega)
      refine Imp.to' (fun _ _=>trivial) (by simp) (by simp)
     ·have qf:=@hv0
      refine rgqv [1,3,6,22,23,24,80] [] ?_;refine AW_tt rfl ?_;refine rg0 [2] [84] ?_;refine AW_ret ?_;simp [D.le,D.le.go,takeMap];simp [hgo hv0,dErr,D.le,D.le.go]
  ·rw [firstBad_ok fun k hk=>by rw [Nat.zero_add];exact hb k hk (by omega)] at hres
   dsimp only at hres
   refine AW_exit (hK2 _ ?_);refine AW_then fun K6 hK6=>?_;refine rg0 [1,88,89,90] [] ?_;refine AW_for (S:=Nat) (fun n=>n≤p.rungs.length∧∀ k (hk:k < p.rungs.length),k < n→badG p p.rungs[k]=0) (fun n=>⟨lst [(1,.d (.ip [.sl none (p.names.map cNm),.sl none (p.rungs.map cRg)])),(88,.d (.sl none (p.rungs.map cRg))),(89,int p.rungs.length),(90,int n)],hlst []⟩) (fun n=>p.rungs.length - n) 0 ?_ (by simp) ?_
   ·refine Imp.to' (fun _ _=>trivial) (by simp) (by simp)
   ·rintro n ⟨hn,hb⟩
    refine rg0 [1,88,89,90,91] [] ?_;refine AW_then fun K7 hK7=>?_;refine AW_cond' (b:=n < p.rungs.length) (by simp [D.le,D.le.go,takeMap]) (fun hc=>?_) (fun hc=>?_)
    ·have hlt:=hc
     have hgo:badG p p.rungs[n]≠0→res=some (badG p p.rungs[n],some (p.names.length+n)):=fun hne=>by
      rw [← hres,firstBad_at (i:=0) hlt (fun k hk hkn=>hb k hk hkn) hne];simp
     have hcells:cRg p.rungs[n]=[.v (.int .i64 p.rungs[n].kind),dS p.rungs[n].name,dC p.rungs[n].cond]:=rfl
     have hck:=hchk p.rungs[n] (hcb _ (List.getElem_mem hlt))
     simp only [dRg,hcells] at hck;generalize hv:badG p p.rungs[n]=v at hck hgo
     obtain ⟨tc,hdc,hsc⟩:∃ tc,dC p.rungs[n].cond=tc∧((∃ a b,tc = .ifc a b)∨tc = .v .nilIface):=by
      cases p.rungs[n].cond with
      | none=>exact ⟨_,rfl,.inr rfl⟩
      | some e=>obtain ⟨a,b,h⟩:=dE_ifc e;exact ⟨_,rfl,.inl ⟨a,b,h⟩⟩
     rw [hdc] at hcells hck;generalize p.rungs[n].kind=kd at hcells hck;generalize p.rungs[n].name=nm at hcells hck;simp only [dS] at hcells hck
     have hlt':(p.names.length:Int)+(n:Int)≤2^62:=by omega
     refine AW_skip (hK7 _ ?_);refine AW_then fun K8 hK8=>?_;refine AW_block ?_
     rcases hsc with ⟨ta,tb2,rfl⟩ | rfl
     all_goals
      ·have qf:=(Aq @hlt @hcells)
       refine rgqv [1,7,8,88,89,90] [8] ?_;refine AW.imp (Imp.freezeB 8 trivial) ?_;refine AW.st (by simp;rfl) ?_;refine rgc trivial hck [1,7,9,88,89,90] [] ?_
       by_cases hv0:v=0
       ·have qf:=@hv0
        refine rgqv [1,7,9,88,89,90,99] [] ?_;refine AW_ff rfl ?_;refine AW_skip (hK8 _ ?_);refine AW_re (tyOf_good _) fun K' hK'=>?_;(repeat (refine sxn fun K2 hK2=>?_;simp;(repeat (refine ⟨by omega,?_⟩));refine hK2 _ ?_;clear hK2 K2));refine sxz (hK' _ ?_);clear hK' K';(try simp only [thn,inb]);refine Again.mk (n+1) ⟨by omega,fun k hk hkn=>?_⟩ (by omega) ?_
        ·by_cases h:k=n
         ·subst h;rw [hv,hv0]
         ·exact hb k hk (by omega)
        refine Imp.to' (fun _ _=>trivial) (by simp) (by simp)
       ·have qf:=@hv0
        refine rgqv [1,7,9,88,89,90,99] [] ?_;refine AW_tt rfl ?_;refine rg0 [2] [107] ?_;refine AW_ret ?_;simp [D.le,D.le.go,takeMap];simp [hgo hv0,dErr,D.le,D.le.go]
    ·rw [firstBad_ok fun k hk=>hb k hk (by omega)] at hres;refine AW_exit (hK6 _ ?_);refine rg0 [2] [] ?_;refine AW_ret ?_;simp [D.le,D.le.go,takeMap];simp [← hres,dErr]
end Go.Proofs.YtpboiimemmfkiaaGreatDoor
namespace Go.Proofs.YtpboiimemmfkiaaGreatDoor
open Go.Av
def kindN (l:List NmP) (k:Int):Nat→List Int
 | 0=>[]
 | i+1=>kindN l k i ++ if (l.getD i ⟨[],0,0⟩).kind=k then [(i:Int)] else []
theorem kindN_len (l:List NmP) (k:Int):∀ n,(kindN l k n).length≤n
 | 0=>Nat.le_refl _
 | n+1=>by rw [kindN,List.length_append];have:=kindN_len l k n;split<;>simp<;>omega
theorem kindN_zero (l:List NmP) (k:Int):kindN l k 0=[]:=rfl
theorem kindN_succ {l:List NmP} {k:Int} {i:Nat} (h:i < l.length):kindN l k (i+1)=kindN l k i ++ if l[i].kind=k then [(i:Int)] else []:=by
 rw [kindN,List.getD_eq_getElem?_getD,List.getElem?_eq_getElem h];rfl
set_option maxHeartbeats 4000000 in
theorem lkind_spec (G:Glob) (p:PgP) (hl:p.names.length < 2^40) (k:Int):PureC Tryz.prog G 28 [dPg p,.v (.int .i64 k)] (.sl none ((kindN p.names k p.names.length).map fun x=>[.v (.int .i64 x)])):=by
 simp only [dPg,cPg,dNms,dRgs];generalize p.rungs.map cRg=R;refine PureC.of_body (tyOf_good _) Tryz.func28 rfl rfl (rs:=[.tmp 4]) Tryz.results28 (by simp [Tryz.ntmps28]) fun X=>?_;simp only [Tryz.ntmps28,List.map];refine rg0 [1,2] [2] ?_;refine AW.imp (Imp.freezeB 2 trivial) ?_;refine AW.st (by simp;rfl) ?_;refine rg0 [1,2,5] [] ?_;refine AW_then fun K1 hK1=>?_;refine rg0 [1,5,9,10,11] [] ?_;refine AW_for (S:=Nat) (fun i=>i≤p.names.length) (fun i=>⟨lst [(1,.d (.v (.int .i64 k))),(5,.own 300 0 (kindN p.names k i).length),(9,.d (.sl none (p.names.map cNm))),(10,int p.names.length),(11,int i)],hlst [(300,.sl 3 1 ((kindN p.names k i).map fun x=>[.v (.int .i64 x)]))]⟩) (fun i=>p.names.length - i) 0 ?_ (by simp) ?_
 ·refine (Imp.adopt 5 300 3 1 rfl rfl).trans ?_;refine Imp.to' (fun _ _=>trivial) (by simp [kindN_zero]) (by simp [kindN_zero])
 ·intro i hi
  have hkl:=kindN_len p.names k i
  have hsuc:=fun h=>kindN_succ (l:=p.names) (k:=k) (i:=i) h
  generalize hkL:kindN p.names k i=L at hkl hsuc ⊢;refine rg0 [1,5,9,10,11,12] [300] ?_;refine AW_then fun K2 hK2=>?_;refine AW_cond' (b:=i < p.names.length) (by simp [D.le,D.le.go,takeMap]) (fun hc=>?_) (fun hc=>?_)
  ·have hlt:=hc
   have hs2:=hsuc hlt
   have hcn:cNm p.names[i]=[.v (.string (bs p.names[i].name)),.v (.int .i64 p.names[i].kind),.v (.int .i64 p.names[i].count)]:=rfl
   generalize p.names[i].name=nm at hcn;generalize p.names[i].kind=kd at hcn hs2;generalize p.names[i].count=ct at hcn;refine AW_skip (hK2 _ ?_);refine AW_then fun K3 hK3=>?_;refine AW_block ?_
   have qf:=(Aq @hlt @hcn)
   refine rgqv [1,5,6,7,9,10,11] [300,7] ?_;refine AW.imp (Imp.freezeB 7 trivial) ?_;refine AW.st (by simp;rfl) ?_
   by_cases heq:kd=k
   ·rw [if_pos heq] at hs2
    have qf:=@heq
    refine rgqv [1,5,6,9,10,11,19] [300] ?_;refine AW_tt rfl ?_;refine AW_re (tyOf_good _) fun K' hK'=>?_;(repeat (refine sxn fun K2 hK2=>?_;simp [List.take_of_length_le];(repeat (refine ⟨by omega,?_⟩));refine hK2 _ ?_;clear hK2 K2));refine sxz (hK' _ ?_);clear hK' K';refine hK3 _ (AW.norm [1,5,9,10,11] [300] (fun _ _=>trivial) (AW.st (by simp [List.take_of_length_le];rfl) ?_));refine AW_re (tyOf_good _) fun K' hK'=>?_;(repeat (refine sxn fun K2 hK2=>?_;simp;(repeat (refine ⟨by omega,?_⟩));refine hK2 _ ?_;clear hK2 K2));refine sxz (hK' _ ?_);clear hK' K';(try simp only [thn,inb]);refine Again.mk (i+1) (by omega) (by omega) ?_;refine Imp.to' (fun _ _=>trivial) (by simp [hs2]) (by simp [hs2])
   ·rw [if_neg heq,List.append_nil] at hs2
    have qf:=@heq
    refine rgqv [1,5,6,9,10,11,19] [300] ?_;refine AW_ff rfl ?_;refine AW_skip (hK3 _ ?_);refine AW_re (tyOf_good _) fun K' hK'=>?_;(repeat (refine sxn fun K2 hK2=>?_;simp;(repeat (refine ⟨by omega,?_⟩));refine hK2 _ ?_;clear hK2 K2));refine sxz (hK' _ ?_);clear hK' K';(try simp only [thn,inb]);refine Again.mk (i+1) (by omega) (by omega) ?_;refine Imp.to' (fun _ _=>trivial) (by simp [hs2]) (by simp [hs2])
  ·obtain rfl:i=p.names.length:=by omega
   refine AW_exit (hK1 _ ?_);refine AW.imp (Imp.freeze 300 trivial) ?_;refine AW.st (by simp [List.take_of_length_le];rfl) ?_;refine rg0 [4] [] ?_;refine AW_ret ?_;simp [D.le,D.le.go,takeMap,D.leGo_refl,D.le_refl,hkL]
end Go.Proofs.YtpboiimemmfkiaaGreatDoor
