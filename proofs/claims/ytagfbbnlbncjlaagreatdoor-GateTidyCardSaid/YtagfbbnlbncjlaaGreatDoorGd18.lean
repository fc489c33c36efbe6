/-
  Texts that belong together, in one file: X2, X3, X8p, X4, X7, X8, X9, Y1, Y2, Y3.
-/
import Derived.Test.YtagfbbnlbncjlaaGreatDoorGd17
import Derived.Shelf.Small.Strs
import Derived.Lib.IndexLaws
set_option linter.unusedSimpArgs false
set_option linter.unusedVariables false
namespace Go.Proofs.YtagfbbnlbncjlaaGreatDoor
open Go.Av
open Go.Shelf
def rdr (t : List UInt8) (i : Int) : Row := .box 94 [.d (dS t), int i]
def rRow (t : List UInt8) (i : Int) : List (Nat × Row) := [(500, rdr t i)]
theorem u8_eq (a : UInt8) (n : Nat) (hn : n < 256) : ((a.toNat : Int) = (n : Int)) ↔ a = UInt8.ofNat n := by
 constructor
 ·intro h
  have : a.toNat = n := by omega
  rw [← this, UInt8.ofNat_toNat]
 ·rintro rfl
  simp
  omega
set_option maxHeartbeats 4000000 in
theorem blanks_spec (G : Glob) (t : List UInt8) (i : Nat) (ht : t.length < 2^60) (hi : i ≤ t.length) :
  MC Tryz.prog G [500] 47 [.ref 500 0 0] (hlst (rRow t i)) (.d (.tup [])) (hlst (rRow t (skipB t i))) := by
 refine MC.of_body (tyOf_good _) Tryz.func47 rfl rfl (rs := []) Tryz.results47 (by simp [Tryz.ntmps47]) rfl fun X => ?_; simp only [Tryz.ntmps47]; refine AW_for (S := Nat) (fun k => k ≤ t.length ∧ skipB t k = skipB t i) (fun k => ⟨lst [(0, .ref 500 0 0)], hlst [(500, .box 94 [.d (dS t), int k])]⟩) (fun k => t.length - k) i ?_ ⟨hi, rfl⟩ ?_
 ·refine Imp.to' (notIn_ok rfl) (by simp [dNum, rRow, rdr, dS]) (by simp [dNum, rRow, rdr, dS])
 ·rintro k ⟨hk, hs⟩
  refine AW_then fun K1 hK1 => ?_
  by_cases hkl : k < t.length
  ·have hkl' : (k : Int) < (t.length : Int) := by omega
   have hgd : t.getD k 0 = t[k] := by simp [List.getD_eq_getElem?_getD, hkl]
   by_cases hb : ((t[k]).toNat : Int) = 32
   ·refine AW_rd (tyOf_good _) (by kernel_rfl) [0, 23] [500] (notIn_ok rfl) (by kernel_rfl) fun K' hK' => ?_; (repeat (refine sxd_next fun K2 hK2 => ?_; simp [dNum, rRow, rdr, dS, bs_size, bs_data, hkl, hb]; (repeat (refine ⟨by omega, ?_⟩)); refine hK2 _ ?_; clear hK2 K2)); refine sxd_nil (hK' _ ?_); refine AW.st (by simp [dNum, rRow, rdr, dS, bs_size, bs_data, hkl, hb]; rfl) ?_; clear hK' K'; refine AW_tt rfl ?_; refine AW_skip (hK1 _ ?_); refine AW_block ?_; refine AW_re (tyOf_good _) fun K' hK' => ?_; (repeat (refine sxn fun K2 hK2 => ?_; simp [dNum, rRow, rdr, dS]; (repeat (refine ⟨by omega, ?_⟩)); refine hK2 _ ?_; clear hK2 K2)); refine sxz (hK' _ ?_); clear hK' K'; try simp only [thn, inb]
    have h32 : t[k]? = some 32 := by
     rw [List.getElem?_eq_getElem hkl, (u8_eq _ 32 (by decide)).1 hb]; rfl
    refine Again.mk (k + 1) ⟨by omega, ?_⟩ (by omega) ?_
    ·rw [← skipB_blank h32]; exact hs
    refine Imp.to' (notIn_ok rfl) (by simp [dNum, rRow, rdr, dS]) (by simp [dNum, rRow, rdr, dS])
   ·refine AW_rd (tyOf_good _) (by kernel_rfl) [0, 23] [500] (notIn_ok rfl) (by kernel_rfl) fun K' hK' => ?_; (repeat (refine sxd_next fun K2 hK2 => ?_; simp [dNum, rRow, rdr, dS, bs_size, bs_data, hkl, hb]; (repeat (refine ⟨by omega, ?_⟩)); refine hK2 _ ?_; clear hK2 K2)); refine sxd_nil (hK' _ ?_); refine AW.st (by simp [dNum, rRow, rdr, dS, bs_size, bs_data, hkl, hb]; rfl) ?_; clear hK' K'; refine AW_ff rfl ?_; refine AW_exit ?_
    have h32 : t[k]? ≠ some 32 := by
     rw [List.getElem?_eq_getElem hkl]
     intro h
     apply hb
     rw [Option.some.inj h]; rfl
    rw [skipB_stop h32] at hs; rw [← hs]; simp [rRow, rdr, dS, D.le_refl]
  ·obtain rfl : k = t.length := by omega
   refine AW_rd (tyOf_good _) (by kernel_rfl) [0, 23] [500] (notIn_ok rfl) (by kernel_rfl) fun K' hK' => ?_; (repeat (refine sxd_next fun K2 hK2 => ?_; simp [dNum, rRow, rdr, dS, bs_size, bs_data]; (repeat (refine ⟨by omega, ?_⟩)); refine hK2 _ ?_; clear hK2 K2)); refine sxd_nil (hK' _ ?_); refine AW.st (by simp [dNum, rRow, rdr, dS, bs_size, bs_data]; rfl) ?_; clear hK' K'; refine AW_ff rfl ?_; refine AW_exit ?_
   have h32 : t[t.length]? ≠ some 32 := by simp
   rw [skipB_stop h32] at hs; rw [← hs]; simp [rRow, rdr, dS, D.le_refl]
set_option maxHeartbeats 4000000 in
theorem take_spec (G : Glob) (t : List UInt8) (i : Nat) (ht : t.length < 2^60) (hi : i ≤ t.length) (c : UInt8) :
  MC Tryz.prog G [500] 102 [.ref 500 0 0, .d (.v (.int .u8 c.toNat))] (hlst (rRow t i)) (.d (.v (.bool (takeM t c i).1))) (hlst (rRow t (takeM t c i).2)) := by
 have hbl := blanks_spec G t i ht hi
 have htop := skipB_top hi
 unfold takeM; generalize skipB t i = j at hbl htop ⊢
 by_cases hjl : j < t.length
 ·rw [List.getElem?_eq_getElem hjl]
  by_cases hb : t[j] = c
  ·have hb' : ((t[j]).toNat : Int) = (c.toNat : Int) := by rw [hb]
   rw [if_pos (by rw [hb])]; refine MC.of_body (tyOf_good _) Tryz.func102 rfl rfl (rs := [.tmp 4]) Tryz.results102 (by simp [Tryz.ntmps102]) rfl fun X => ?_; simp only [Tryz.ntmps102]; refine rg [0, 1] [500] (notIn_ok rfl) fun K' hK' => ?_; (repeat (refine sxn fun K2 hK2 => ?_; simp [dNum, rRow, rdr, dS]; (repeat (refine ⟨by omega, ?_⟩)); refine hK2 _ ?_; clear hK2 K2)); refine sxz (hK' _ (AW.st (by simp [dNum, rRow, rdr, dS]; rfl) ?_)); clear hK' K'; refine rg [0, 1] [500] (notIn_ok rfl) fun K' hK' => ?_; (repeat (refine sxn fun K2 hK2 => ?_; simp [dNum, rRow, rdr, dS]; (repeat (refine ⟨by omega, ?_⟩)); refine hK2 _ ?_; clear hK2 K2)); refine sxn fun K2 hK2 => ?_; simp [dNum, rRow, rdr, dS]; refine callK.mc (hbl) ?_ ?_ ?_ ?_ ?_ <;> simp [dNum, rRow, rdr, dS]; refine hK2 _ ?_; clear hK2 K2; (repeat (refine sxn fun K2 hK2 => ?_; simp [dNum, rRow, rdr, dS]; (repeat (refine ⟨by omega, ?_⟩)); refine hK2 _ ?_; clear hK2 K2)); refine sxz (hK' _ (AW.st (by simp [dNum, rRow, rdr, dS]; rfl) ?_)); clear hK' K'; refine AW_then fun K1 hK1 => ?_; refine AW_rd (tyOf_good _) (by kernel_rfl) [0, 29] [500] (notIn_ok rfl) (by kernel_rfl) fun K' hK' => ?_; (repeat (refine sxd_next fun K2 hK2 => ?_; simp [dNum, rRow, rdr, dS, bs_size, bs_data, hjl, hb']; (repeat (refine ⟨by omega, ?_⟩)); refine hK2 _ ?_; clear hK2 K2)); refine sxd_nil (hK' _ ?_); refine AW.st (by simp [dNum, rRow, rdr, dS, bs_size, bs_data, hjl, hb']; rfl) ?_; clear hK' K'; refine AW_tt rfl ?_; refine rg [] [500] (notIn_ok rfl) fun K' hK' => ?_; (repeat (refine sxn fun K2 hK2 => ?_; simp [dNum, rRow, rdr, dS]; (repeat (refine ⟨by omega, ?_⟩)); refine hK2 _ ?_; clear hK2 K2)); refine sxz (hK' _ (AW.st (by simp [dNum, rRow, rdr, dS]; rfl) ?_)); clear hK' K'; refine rg [4] [500] (notIn_ok rfl) fun K' hK' => ?_; (repeat (refine sxn fun K2 hK2 => ?_; simp [dNum, rRow, rdr, dS]; (repeat (refine ⟨by omega, ?_⟩)); refine hK2 _ ?_; clear hK2 K2)); refine sxz (hK' _ (AW.st (by simp [dNum, rRow, rdr, dS]; rfl) ?_)); clear hK' K'; refine AW_ret ?_; simp [D.le, D.le.go, takeMap, dNum, rRow, rdr, dS, rRow, rdr]
  ·have hb' : ¬ ((t[j]).toNat : Int) = (c.toNat : Int) := fun h => hb (UInt8.toNat_inj.1 (by omega))
   rw [if_neg (fun h => hb (Option.some.inj h))]; refine MC.of_body (tyOf_good _) Tryz.func102 rfl rfl (rs := [.tmp 4]) Tryz.results102 (by simp [Tryz.ntmps102]) rfl fun X => ?_; simp only [Tryz.ntmps102]; refine rg [0, 1] [500] (notIn_ok rfl) fun K' hK' => ?_; (repeat (refine sxn fun K2 hK2 => ?_; simp [dNum, rRow, rdr, dS]; (repeat (refine ⟨by omega, ?_⟩)); refine hK2 _ ?_; clear hK2 K2)); refine sxz (hK' _ (AW.st (by simp [dNum, rRow, rdr, dS]; rfl) ?_)); clear hK' K'; refine rg [0, 1] [500] (notIn_ok rfl) fun K' hK' => ?_; (repeat (refine sxn fun K2 hK2 => ?_; simp [dNum, rRow, rdr, dS]; (repeat (refine ⟨by omega, ?_⟩)); refine hK2 _ ?_; clear hK2 K2)); refine sxn fun K2 hK2 => ?_; simp [dNum, rRow, rdr, dS]; refine callK.mc (hbl) ?_ ?_ ?_ ?_ ?_ <;> simp [dNum, rRow, rdr, dS]; refine hK2 _ ?_; clear hK2 K2; (repeat (refine sxn fun K2 hK2 => ?_; simp [dNum, rRow, rdr, dS]; (repeat (refine ⟨by omega, ?_⟩)); refine hK2 _ ?_; clear hK2 K2)); refine sxz (hK' _ (AW.st (by simp [dNum, rRow, rdr, dS]; rfl) ?_)); clear hK' K'; refine AW_then fun K1 hK1 => ?_; refine AW_rd (tyOf_good _) (by kernel_rfl) [0, 29] [500] (notIn_ok rfl) (by kernel_rfl) fun K' hK' => ?_; (repeat (refine sxd_next fun K2 hK2 => ?_; simp [dNum, rRow, rdr, dS, bs_size, bs_data, hjl, hb']; (repeat (refine ⟨by omega, ?_⟩)); refine hK2 _ ?_; clear hK2 K2)); refine sxd_nil (hK' _ ?_); refine AW.st (by simp [dNum, rRow, rdr, dS, bs_size, bs_data, hjl, hb']; rfl) ?_; clear hK' K'; refine AW_ff rfl ?_; refine AW_skip (hK1 _ ?_); refine rg [4] [500] (notIn_ok rfl) fun K' hK' => ?_; (repeat (refine sxn fun K2 hK2 => ?_; simp [dNum, rRow, rdr, dS]; (repeat (refine ⟨by omega, ?_⟩)); refine hK2 _ ?_; clear hK2 K2)); refine sxz (hK' _ (AW.st (by simp [dNum, rRow, rdr, dS]; rfl) ?_)); clear hK' K'; refine AW_ret ?_; simp [D.le, D.le.go, takeMap, dNum, rRow, rdr, dS, rRow, rdr]
 ·obtain rfl : j = t.length := by omega
  rw [if_neg (by simp)]; refine MC.of_body (tyOf_good _) Tryz.func102 rfl rfl (rs := [.tmp 4]) Tryz.results102 (by simp [Tryz.ntmps102]) rfl fun X => ?_; simp only [Tryz.ntmps102]; refine rg [0, 1] [500] (notIn_ok rfl) fun K' hK' => ?_; (repeat (refine sxn fun K2 hK2 => ?_; simp [dNum, rRow, rdr, dS]; (repeat (refine ⟨by omega, ?_⟩)); refine hK2 _ ?_; clear hK2 K2)); refine sxz (hK' _ (AW.st (by simp [dNum, rRow, rdr, dS]; rfl) ?_)); clear hK' K'; refine rg [0, 1] [500] (notIn_ok rfl) fun K' hK' => ?_; (repeat (refine sxn fun K2 hK2 => ?_; simp [dNum, rRow, rdr, dS]; (repeat (refine ⟨by omega, ?_⟩)); refine hK2 _ ?_; clear hK2 K2)); refine sxn fun K2 hK2 => ?_; simp [dNum, rRow, rdr, dS]; refine callK.mc (hbl) ?_ ?_ ?_ ?_ ?_ <;> simp [dNum, rRow, rdr, dS]; refine hK2 _ ?_; clear hK2 K2; (repeat (refine sxn fun K2 hK2 => ?_; simp [dNum, rRow, rdr, dS]; (repeat (refine ⟨by omega, ?_⟩)); refine hK2 _ ?_; clear hK2 K2)); refine sxz (hK' _ (AW.st (by simp [dNum, rRow, rdr, dS]; rfl) ?_)); clear hK' K'; refine AW_then fun K1 hK1 => ?_; refine AW_rd (tyOf_good _) (by kernel_rfl) [0, 29] [500] (notIn_ok rfl) (by kernel_rfl) fun K' hK' => ?_; (repeat (refine sxd_next fun K2 hK2 => ?_; simp [dNum, rRow, rdr, dS, bs_size, bs_data]; (repeat (refine ⟨by omega, ?_⟩)); refine hK2 _ ?_; clear hK2 K2)); refine sxd_nil (hK' _ ?_); refine AW.st (by simp [dNum, rRow, rdr, dS, bs_size, bs_data]; rfl) ?_; clear hK' K'; refine AW_ff rfl ?_; refine AW_skip (hK1 _ ?_); refine rg [4] [500] (notIn_ok rfl) fun K' hK' => ?_; (repeat (refine sxn fun K2 hK2 => ?_; simp [dNum, rRow, rdr, dS]; (repeat (refine ⟨by omega, ?_⟩)); refine hK2 _ ?_; clear hK2 K2)); refine sxz (hK' _ (AW.st (by simp [dNum, rRow, rdr, dS]; rfl) ?_)); clear hK' K'; refine AW_ret ?_; simp [D.le, D.le.go, takeMap, dNum, rRow, rdr, dS, rRow, rdr]
set_option maxHeartbeats 4000000 in
theorem fail_spec (G : Glob) (t : List UInt8) (i : Nat) (ht : t.length < 2^60) (hi : i ≤ t.length) (e : Int) :
  MC Tryz.prog G [500] 48 [.ref 500 0 0, .d (dNum e)] (hlst (rRow t i)) (.d (dErr (some (e, some (skipB t i))))) (hlst (rRow t (skipB t i))) := by
 have hbl := blanks_spec G t i ht hi
 generalize skipB t i = j at hbl ⊢; refine MC.of_body (tyOf_good _) Tryz.func48 rfl rfl (rs := [.tmp 4]) Tryz.results48 (by simp [Tryz.ntmps48]) rfl fun X => ?_; simp only [Tryz.ntmps48]; refine rg [0, 1] [500] (notIn_ok rfl) fun K' hK' => ?_; (repeat (refine sxn fun K2 hK2 => ?_; simp [dNum, rRow, rdr, dS]; (repeat (refine ⟨by omega, ?_⟩)); refine hK2 _ ?_; clear hK2 K2)); refine sxz (hK' _ (AW.st (by simp [dNum, rRow, rdr, dS]; rfl) ?_)); clear hK' K'; refine rg [0, 1] [500] (notIn_ok rfl) fun K' hK' => ?_; (repeat (refine sxn fun K2 hK2 => ?_; simp [dNum, rRow, rdr, dS]; (repeat (refine ⟨by omega, ?_⟩)); refine hK2 _ ?_; clear hK2 K2)); refine sxn fun K2 hK2 => ?_; simp [dNum, rRow, rdr, dS]; refine callK.mc (hbl) ?_ ?_ ?_ ?_ ?_ <;> simp [dNum, rRow, rdr, dS]; refine hK2 _ ?_; clear hK2 K2; (repeat (refine sxn fun K2 hK2 => ?_; simp [dNum, rRow, rdr, dS]; (repeat (refine ⟨by omega, ?_⟩)); refine hK2 _ ?_; clear hK2 K2)); refine sxz (hK' _ (AW.st (by simp [dNum, rRow, rdr, dS]; rfl) ?_)); clear hK' K'; refine rg [4] [500, 13] (notIn_ok rfl) fun K' hK' => ?_; (repeat (refine sxn fun K2 hK2 => ?_; simp [dNum, rRow, rdr, dS]; (repeat (refine ⟨by omega, ?_⟩)); refine hK2 _ ?_; clear hK2 K2)); refine sxz (hK' _ (AW.st (by simp [dNum, rRow, rdr, dS]; rfl) ?_)); clear hK' K'; refine AW.imp (Imp.freezeB 13 (by decide)) ?_; refine AW.st (by simp [dNum, rRow, rdr, dS]; rfl) ?_; refine AW_ret ?_; simp [D.le, D.le.go, takeMap, dNum, rRow, rdr, dS, rRow, rdr, dErr]
def set11 : List UInt8 := [32, 38, 124, 33, 94, 126, 40, 41, 48, 49, 61]
theorem ixb_neg (l : List UInt8) (c : UInt8) : Lib.indexByte l c < 0 ↔ c ∉ l := by
 have hge := Lib.indexByte_ge l c
 constructor
 ·intro h hm
  obtain ⟨k, hk, rfl⟩ := List.mem_iff_getElem.1 hm
  exact Lib.indexByte_none (show Lib.indexByte l l[k] = -1 by omega) k (List.getElem?_eq_getElem hk)
 ·intro hm
  apply Classical.byContradiction
  intro h
  obtain ⟨n, hn⟩ := Int.eq_ofNat_of_zero_le (show 0 ≤ Lib.indexByte l c by omega)
  exact hm (List.mem_of_getElem? (Lib.indexByte_some hn).1)
theorem ixb_spec (G : Glob) (l : List UInt8) (c : UInt8) : PureC Tryz.prog G 132 [dS l, .v (.int .u8 c.toNat)] (dNum (Lib.indexByte l c)) := by
 refine PureC.of_calls (Fun.of Tryz.func132 rfl rfl) fun X w vs hsz hrd hgl => ?_
 obtain ⟨a, b, rfl⟩ : ∃ a b, vs = #[a, b] := by
  match vs, hsz with
  | ⟨[a, b]⟩, _ => exact ⟨a, b, rfl⟩
 have ha := (hrd 0 a _ rfl rfl).scalar
 have hb := (hrd 1 b _ rfl rfl).scalar
 subst ha hb
 have hcon := Any.strings_IndexByte (P := Tryz.prog) (ρ := Tryz.lays160_ren) { Tryz.lays160 with } (bs l) c.toNat w
 rw [show (c.toNat : Int).toNat.toUInt8 = c by simp] at hcon; exact hcon.mono fun e w' ⟨he, hw⟩ => ⟨_, he, by rw [hw]; exact Grew.refl _, .v _⟩
end Go.Proofs.YtagfbbnlbncjlaaGreatDoor
namespace Go.Proofs.YtagfbbnlbncjlaaGreatDoor
open Go.Av
theorem bs_extract (t : List UInt8) (i j : Nat) : (bs t).extract i j = bs ((t.drop i).take (j - i)) := ByteArray.ext (by
 rw [ByteArray.data_extract]; unfold bs
 apply Array.toList_inj.1
 simp [List.take_drop, List.extract])
theorem set11_lit : (⟨#[32, 38, 124, 33, 94, 126, 40, 41, 48, 49, 61]⟩ : ByteArray) = bs set11 := rfl
def tupW : Rs (List UInt8) → D
 | .ok s _ => .tup [dS s, .v .nilIface]
 | .err c p _ => .tup [dS [], dErr (some (c, some p))]
def posR {α : Type} : Rs α → Nat
 | .ok _ i => i
 | .err _ p _ => p
theorem mem11 (c : UInt8) : c ∈ set11 ↔ (isSgn c = true ∨ c = 48 ∨ c = 49) := by
 simp only [set11, isSgn, List.mem_cons, List.not_mem_nil, or_false, List.contains_iff_mem]
 constructor
 ·rintro (h | h | h | h | h | h | h | h | h | h | h) <;> simp [h]
 ·rintro ((h | h | h | h | h | h | h | h | h) | h | h) <;> simp [h]
def AtW (t : List UInt8) (j k : Nat) : Prop := k = j ∨ (j < k ∧ headOk t j = true ∧ tailEnd t (j + 1) = tailEnd t k)
theorem atW_exit {t : List UInt8} {j k : Nat} (h : AtW t j k) (hk : k ≤ t.length) (hstop : ∀ hk : k < t.length, t[k] ∈ set11 ∧ (j < k → t[k] ≠ 48 ∧ t[k] ≠ 49)) : k = wEnd t j := by
 unfold wEnd
 rcases h with rfl | ⟨hjk, hh, he⟩
 ·by_cases hk' : k < t.length
  ·have := (mem11 _).1 (hstop hk').1
   have hno : headOk t k = false := by
    unfold headOk; rw [List.getElem?_eq_getElem hk']
    rcases this with h | h | h <;> simp [h]
   rw [hno]; rfl
  ·have hno : headOk t k = false := by
    unfold headOk; rw [List.getElem?_eq_none (by omega)]
   rw [hno]; rfl
 ·rw [hh, if_pos rfl, he, tail_stop]
  intro hk'
  obtain ⟨h1, h2⟩ := hstop hk'
  rcases (mem11 _).1 h1 with h | h | h
  ·exact h
  ·exact absurd h (h2 hjk).1
  ·exact absurd h (h2 hjk).2
theorem atW_next {t : List UInt8} {j k : Nat} (h : AtW t j k) (hk : k < t.length) (hgo : t[k] ∉ set11 ∨ (j < k ∧ (t[k] = 48 ∨ t[k] = 49))) : AtW t j (k + 1) := by
 have hs : isSgn t[k] = false := by
  rcases hgo with h | ⟨_, h⟩
  ·cases hc : isSgn t[k] with
   | false => rfl
   | true => exact absurd ((mem11 _).2 (.inl hc)) h
  ·rcases h with h | h <;> rw [h] <;> rfl
 right
 rcases h with rfl | ⟨hjk, hh, he⟩
 ·refine ⟨by omega, ?_, rfl⟩
  rcases hgo with h | ⟨h, _⟩
  ·have h1 : t[k] ≠ 48 := fun e => h ((mem11 _).2 (.inr (.inl e)))
   have h2 : t[k] ≠ 49 := fun e => h ((mem11 _).2 (.inr (.inr e)))
   unfold headOk; rw [List.getElem?_eq_getElem hk]; simp [hs, h1, h2]
  ·omega
 ·refine ⟨by omega, hh, ?_⟩; rw [he, tail_step hk hs]
set_option maxHeartbeats 8000000 in
theorem word_spec (G : Glob) (t : List UInt8) (q i : Nat) (ht : t.length < 2^60) (hi : i ≤ t.length) :
  MC Tryz.prog G [500] 114 [.ref 500 0 0] (hlst (rRow t i)) (.d (tupW (wordR t q i))) (hlst (rRow t (posR (wordR t q i)))) := by
 have hbl := blanks_spec G t i ht hi
 have htop := skipB_top hi
 have hidem := skipB_idem hi
 unfold wordR; generalize skipB t i = j at hbl htop hidem ⊢
 have hf3 := fail_spec G t j ht htop 3
 have hf5 := fail_spec G t j ht htop 5
 rw [hidem] at hf3 hf5
 have hel := wEnd_le t j
 have het := wEnd_top htop
 have hws : (t.drop j).take (wEnd t j - j) = wordS t j := rfl
 have hslen : (wordS t j).length < 2^60 := by
  rw [← hws, List.length_take, List.length_drop]; omega
 have hname := name_spec G (wordS t j) hslen
 refine MC.of_body (tyOf_good _) Tryz.func114 rfl rfl (rs := [.tmp 2, .tmp 3]) Tryz.results114 (by simp [Tryz.ntmps114]) rfl fun X => ?_; simp only [Tryz.ntmps114]; refine rg [0] [500] (notIn_ok rfl) fun K' hK' => ?_; (repeat (refine sxn fun K2 hK2 => ?_; simp [dNum, rRow, rdr, dS]; (repeat (refine ⟨by omega, ?_⟩)); refine hK2 _ ?_; clear hK2 K2)); refine sxz (hK' _ (AW.st (by simp [dNum, rRow, rdr, dS]; rfl) ?_)); clear hK' K'; refine rg [0] [500] (notIn_ok rfl) fun K' hK' => ?_; (repeat (refine sxn fun K2 hK2 => ?_; simp [dNum, rRow, rdr, dS]; (repeat (refine ⟨by omega, ?_⟩)); refine hK2 _ ?_; clear hK2 K2)); refine sxn fun K2 hK2 => ?_; simp [dNum, rRow, rdr, dS]; refine callK.mc (hbl) ?_ ?_ ?_ ?_ ?_ <;> simp [dNum, rRow, rdr, dS]; refine hK2 _ ?_; clear hK2 K2; (repeat (refine sxn fun K2 hK2 => ?_; simp [dNum, rRow, rdr, dS]; (repeat (refine ⟨by omega, ?_⟩)); refine hK2 _ ?_; clear hK2 K2)); refine sxz (hK' _ (AW.st (by simp [dNum, rRow, rdr, dS]; rfl) ?_)); clear hK' K'; refine rg [0, 4] [500] (notIn_ok rfl) fun K' hK' => ?_; (repeat (refine sxn fun K2 hK2 => ?_; simp [dNum, rRow, rdr, dS]; (repeat (refine ⟨by omega, ?_⟩)); refine hK2 _ ?_; clear hK2 K2)); refine sxz (hK' _ (AW.st (by simp [dNum, rRow, rdr, dS]; rfl) ?_)); clear hK' K'; refine AW_then fun K1 hK1 => ?_; refine AW_for (S := Nat) (fun k => j ≤ k ∧ k ≤ t.length ∧ AtW t j k) (fun k => ⟨lst [(0, .ref 500 0 0), (4, int k)], hlst [(500, .box 94 [.d (dS t), int j])]⟩) (fun k => t.length - k) j ?_ ⟨Nat.le_refl _, htop, .inl rfl⟩ ?_
 ·refine Imp.to' (notIn_ok rfl) (by simp [dNum, rRow, rdr, dS]) (by simp [dNum, rRow, rdr, dS])
 ·rintro k ⟨hjk, hk, hat⟩
  refine AW_then fun K2 hK2 => ?_
  refine (fun hgo hstop => ?_) (fun (σ : St) (hn : AtW t j (k + 1)) (hkl : k < t.length) himp => hK2 σ (AW.imp (τ := ⟨lst [(0, .ref 500 0 0), (4, int k)], hlst [(500, .box 94 [.d (dS t), int j])]⟩) himp ?_))
   (fun (σ : St) (he : k = wEnd t j) himp => hK1 σ (AW.imp (τ := ⟨lst [(0, .ref 500 0 0), (4, int k)], hlst [(500, .box 94 [.d (dS t), int j])]⟩) himp ?_))
  ·by_cases hkl : k < t.length
   ·have hix := ixb_spec G set11 t[k]
    have hix2 := ixb_neg set11 t[k]
    by_cases hm : t[k] ∈ set11
    ·have hix3 : ¬ Lib.indexByte set11 t[k] < 0 := fun h => hix2.1 h hm
     by_cases hjk' : j < k
     ·have hjk2 : (j : Int) < (k : Int) := by omega
      by_cases h48 : ((t[k]).toNat : Int) = 48
      ·have hc : t[k] = 48 := (u8_eq _ 48 (by decide)).1 h48
       refine rg [0, 4, 63] [500] (notIn_ok rfl) fun K' hK' => ?_; (repeat (refine sxn fun K2 hK2 => ?_; simp [dNum, rRow, rdr, dS, bs_size, bs_data, set11_lit, hkl, hix3, hjk2, hjk', h48]; (repeat (refine ⟨by omega, ?_⟩)); refine hK2 _ ?_; clear hK2 K2)); refine sxn fun K2 hK2 => ?_; simp [dNum, rRow, rdr, dS, bs_size, bs_data, set11_lit, hkl, hix3, hjk2, hjk', h48]; refine callK.data (hix) (by simp; rfl) (by first | exact D.leGo_refl _ | simp [takeMap, List.map_map, Function.comp_def, D.le, D.le.go, D.le_refl, D.leGo_refl, dNum, rRow, rdr, dS, bs_size, bs_data, set11_lit, hkl, hix3, hjk2, hjk', h48]) ?_; refine hK2 _ ?_; clear hK2 K2; simp only [putd, upd_lst]; (repeat (refine sxn fun K2 hK2 => ?_; simp [dNum, rRow, rdr, dS, bs_size, bs_data, set11_lit, hkl, hix3, hjk2, hjk', h48]; (repeat (refine ⟨by omega, ?_⟩)); refine hK2 _ ?_; clear hK2 K2)); refine sxz (hK' _ (AW.st (by simp [dNum, rRow, rdr, dS, bs_size, bs_data, set11_lit, hkl, hix3, hjk2, hjk', h48]; rfl) ?_)); clear hK' K'; refine AW_tt rfl ?_; refine AW_skip (hgo _ (atW_next hat hkl (.inr ⟨hjk', .inl hc⟩)) hkl ?_); refine Imp.to' (notIn_ok rfl) (by simp [dNum, rRow, rdr, dS]) (by simp [dNum, rRow, rdr, dS])
      ·by_cases h49 : ((t[k]).toNat : Int) = 49
       ·have hc : t[k] = 49 := (u8_eq _ 49 (by decide)).1 h49
        refine rg [0, 4, 63] [500] (notIn_ok rfl) fun K' hK' => ?_; (repeat (refine sxn fun K2 hK2 => ?_; simp [dNum, rRow, rdr, dS, bs_size, bs_data, set11_lit, hkl, hix3, hjk2, hjk', h48, h49]; (repeat (refine ⟨by omega, ?_⟩)); refine hK2 _ ?_; clear hK2 K2)); refine sxn fun K2 hK2 => ?_; simp [dNum, rRow, rdr, dS, bs_size, bs_data, set11_lit, hkl, hix3, hjk2, hjk', h48, h49]; refine callK.data (hix) (by simp; rfl) (by first | exact D.leGo_refl _ | simp [takeMap, List.map_map, Function.comp_def, D.le, D.le.go, D.le_refl, D.leGo_refl, dNum, rRow, rdr, dS, bs_size, bs_data, set11_lit, hkl, hix3, hjk2, hjk', h48, h49]) ?_; refine hK2 _ ?_; clear hK2 K2; simp only [putd, upd_lst]; (repeat (refine sxn fun K2 hK2 => ?_; simp [dNum, rRow, rdr, dS, bs_size, bs_data, set11_lit, hkl, hix3, hjk2, hjk', h48, h49]; (repeat (refine ⟨by omega, ?_⟩)); refine hK2 _ ?_; clear hK2 K2)); refine sxz (hK' _ (AW.st (by simp [dNum, rRow, rdr, dS, bs_size, bs_data, set11_lit, hkl, hix3, hjk2, hjk', h48, h49]; rfl) ?_)); clear hK' K'; refine AW_tt rfl ?_; refine AW_skip (hgo _ (atW_next hat hkl (.inr ⟨hjk', .inr hc⟩)) hkl ?_); refine Imp.to' (notIn_ok rfl) (by simp [dNum, rRow, rdr, dS]) (by simp [dNum, rRow, rdr, dS])
       ·refine rg [0, 4, 63] [500] (notIn_ok rfl) fun K' hK' => ?_; (repeat (refine sxn fun K2 hK2 => ?_; simp [dNum, rRow, rdr, dS, bs_size, bs_data, set11_lit, hkl, hix3, hjk2, hjk', h48, h49]; (repeat (refine ⟨by omega, ?_⟩)); refine hK2 _ ?_; clear hK2 K2)); refine sxn fun K2 hK2 => ?_; simp [dNum, rRow, rdr, dS, bs_size, bs_data, set11_lit, hkl, hix3, hjk2, hjk', h48, h49]; refine callK.data (hix) (by simp; rfl) (by first | exact D.leGo_refl _ | simp [takeMap, List.map_map, Function.comp_def, D.le, D.le.go, D.le_refl, D.leGo_refl, dNum, rRow, rdr, dS, bs_size, bs_data, set11_lit, hkl, hix3, hjk2, hjk', h48, h49]) ?_; refine hK2 _ ?_; clear hK2 K2; simp only [putd, upd_lst]; (repeat (refine sxn fun K2 hK2 => ?_; simp [dNum, rRow, rdr, dS, bs_size, bs_data, set11_lit, hkl, hix3, hjk2, hjk', h48, h49]; (repeat (refine ⟨by omega, ?_⟩)); refine hK2 _ ?_; clear hK2 K2)); refine sxz (hK' _ (AW.st (by simp [dNum, rRow, rdr, dS, bs_size, bs_data, set11_lit, hkl, hix3, hjk2, hjk', h48, h49]; rfl) ?_)); clear hK' K'; refine AW_ff rfl ?_; refine AW_exit (hstop _ (atW_exit hat hk fun _ => ⟨hm, fun _ => ⟨fun e => h48 (by rw [e]; rfl), fun e => h49 (by rw [e]; rfl)⟩⟩) ?_); refine Imp.to' (notIn_ok rfl) (by simp [dNum, rRow, rdr, dS]) (by simp [dNum, rRow, rdr, dS])
     ·have hjk2 : ¬ (j : Int) < (k : Int) := by omega
      refine rg [0, 4, 63] [500] (notIn_ok rfl) fun K' hK' => ?_; (repeat (refine sxn fun K2 hK2 => ?_; simp [dNum, rRow, rdr, dS, bs_size, bs_data, set11_lit, hkl, hix3, hjk2, hjk']; (repeat (refine ⟨by omega, ?_⟩)); refine hK2 _ ?_; clear hK2 K2)); refine sxn fun K2 hK2 => ?_; simp [dNum, rRow, rdr, dS, bs_size, bs_data, set11_lit, hkl, hix3, hjk2, hjk']; refine callK.data (hix) (by simp; rfl) (by first | exact D.leGo_refl _ | simp [takeMap, List.map_map, Function.comp_def, D.le, D.le.go, D.le_refl, D.leGo_refl, dNum, rRow, rdr, dS, bs_size, bs_data, set11_lit, hkl, hix3, hjk2, hjk']) ?_; refine hK2 _ ?_; clear hK2 K2; simp only [putd, upd_lst]; (repeat (refine sxn fun K2 hK2 => ?_; simp [dNum, rRow, rdr, dS, bs_size, bs_data, set11_lit, hkl, hix3, hjk2, hjk']; (repeat (refine ⟨by omega, ?_⟩)); refine hK2 _ ?_; clear hK2 K2)); refine sxz (hK' _ (AW.st (by simp [dNum, rRow, rdr, dS, bs_size, bs_data, set11_lit, hkl, hix3, hjk2, hjk']; rfl) ?_)); clear hK' K'; refine AW_ff rfl ?_; refine AW_exit (hstop _ (atW_exit hat hk fun _ => ⟨hm, fun h => absurd h hjk'⟩) ?_); refine Imp.to' (notIn_ok rfl) (by simp [dNum, rRow, rdr, dS]) (by simp [dNum, rRow, rdr, dS])
    ·have hix3 : Lib.indexByte set11 t[k] < 0 := hix2.2 hm
     refine rg [0, 4, 63] [500] (notIn_ok rfl) fun K' hK' => ?_; (repeat (refine sxn fun K2 hK2 => ?_; simp [dNum, rRow, rdr, dS, bs_size, bs_data, set11_lit, hkl, hix3]; (repeat (refine ⟨by omega, ?_⟩)); refine hK2 _ ?_; clear hK2 K2)); refine sxn fun K2 hK2 => ?_; simp [dNum, rRow, rdr, dS, bs_size, bs_data, set11_lit, hkl, hix3]; refine callK.data (hix) (by simp; rfl) (by first | exact D.leGo_refl _ | simp [takeMap, List.map_map, Function.comp_def, D.le, D.le.go, D.le_refl, D.leGo_refl, dNum, rRow, rdr, dS, bs_size, bs_data, set11_lit, hkl, hix3]) ?_; refine hK2 _ ?_; clear hK2 K2; simp only [putd, upd_lst]; (repeat (refine sxn fun K2 hK2 => ?_; simp [dNum, rRow, rdr, dS, bs_size, bs_data, set11_lit, hkl, hix3]; (repeat (refine ⟨by omega, ?_⟩)); refine hK2 _ ?_; clear hK2 K2)); refine sxz (hK' _ (AW.st (by simp [dNum, rRow, rdr, dS, bs_size, bs_data, set11_lit, hkl, hix3]; rfl) ?_)); clear hK' K'; refine AW_tt rfl ?_; refine AW_skip (hgo _ (atW_next hat hkl (.inl hm)) hkl ?_); refine Imp.to' (notIn_ok rfl) (by simp [dNum, rRow, rdr, dS]) (by simp [dNum, rRow, rdr, dS])
   ·obtain rfl : k = t.length := by omega
    by_cases hjk' : j < t.length
    ·have hjk2 : (j : Int) < (t.length : Int) := by omega
     refine rg [0, 4, 63] [500] (notIn_ok rfl) fun K' hK' => ?_; (repeat (refine sxn fun K2 hK2 => ?_; simp [dNum, rRow, rdr, dS, bs_size, bs_data, set11_lit, hjk2, hjk']; (repeat (refine ⟨by omega, ?_⟩)); refine hK2 _ ?_; clear hK2 K2)); refine sxz (hK' _ (AW.st (by simp [dNum, rRow, rdr, dS, bs_size, bs_data, set11_lit, hjk2, hjk']; rfl) ?_)); clear hK' K'; refine AW_ff rfl ?_; refine AW_exit (hstop _ (atW_exit hat hk fun h => absurd h hkl) ?_); refine Imp.to' (notIn_ok rfl) (by simp [dNum, rRow, rdr, dS]) (by simp [dNum, rRow, rdr, dS])
    ·have hjk2 : ¬ (j : Int) < (t.length : Int) := by omega
     refine rg [0, 4, 63] [500] (notIn_ok rfl) fun K' hK' => ?_; (repeat (refine sxn fun K2 hK2 => ?_; simp [dNum, rRow, rdr, dS, bs_size, bs_data, set11_lit, hjk2, hjk']; (repeat (refine ⟨by omega, ?_⟩)); refine hK2 _ ?_; clear hK2 K2)); refine sxz (hK' _ (AW.st (by simp [dNum, rRow, rdr, dS, bs_size, bs_data, set11_lit, hjk2, hjk']; rfl) ?_)); clear hK' K'; refine AW_ff rfl ?_; refine AW_exit (hstop _ (atW_exit hat hk fun h => absurd h hkl) ?_); refine Imp.to' (notIn_ok rfl) (by simp [dNum, rRow, rdr, dS]) (by simp [dNum, rRow, rdr, dS])
  ·refine AW_block ?_; refine AW_re (tyOf_good _) fun K' hK' => ?_; (repeat (refine sxn fun K2 hK2 => ?_; simp [dNum, rRow, rdr, dS]; (repeat (refine ⟨by omega, ?_⟩)); refine hK2 _ ?_; clear hK2 K2)); refine sxz (hK' _ ?_); clear hK' K'; (try simp only [thn, inb]); refine Again.mk (k + 1) ⟨by omega, by omega, hn⟩ (by omega) ?_; refine Imp.to' (notIn_ok rfl) (by simp [dNum, rRow, rdr, dS]) (by simp [dNum, rRow, rdr, dS])
  ·subst he; clear hK1 hK2
   have hws2 : List.take (wEnd t j - j) (List.drop j t) = wordS t j := hws
   refine AW_rd (tyOf_good _) (by kernel_rfl) [0, 4, 5] [500] (notIn_ok rfl) (by kernel_rfl) fun K' hK' => ?_; (repeat (refine sxd_next fun K2 hK2 => ?_; simp [dNum, rRow, rdr, dS, bs_size, bs_extract, hel, het, hws2]; (repeat (refine ⟨by omega, ?_⟩)); refine hK2 _ ?_; clear hK2 K2)); refine sxd_nil (hK' _ ?_); refine AW.st (by simp [dNum, rRow, rdr, dS, bs_size, bs_extract, hel, het, hws2]; rfl) ?_; clear hK' K'; refine AW_then fun K3 hK3 => ?_
   by_cases hs : wordS t j = []
   ·refine rg [0, 4, 5, 77] [500] (notIn_ok rfl) fun K' hK' => ?_; (repeat (refine sxn fun K2 hK2 => ?_; simp [dNum, rRow, rdr, dS, hs, bs_nil, bs_list, binS]; (repeat (refine ⟨by omega, ?_⟩)); refine hK2 _ ?_; clear hK2 K2)); refine sxz (hK' _ (AW.st (by simp [dNum, rRow, rdr, dS, hs, bs_nil, bs_list, binS]; rfl) ?_)); clear hK' K'; refine AW_tt rfl ?_; refine rg [2, 3] [500] (notIn_ok rfl) fun K' hK' => ?_; (repeat (refine sxn fun K2 hK2 => ?_; simp [dNum, rRow, rdr, dS, dErr]; (repeat (refine ⟨by omega, ?_⟩)); refine hK2 _ ?_; clear hK2 K2)); refine sxn fun K2 hK2 => ?_; simp [dNum, rRow, rdr, dS, dErr]; refine callK.mc (hf3) ?_ ?_ ?_ ?_ ?_ <;> simp [dNum, rRow, rdr, dS, dErr]; refine hK2 _ ?_; clear hK2 K2; (repeat (refine sxn fun K2 hK2 => ?_; simp [dNum, rRow, rdr, dS, dErr]; (repeat (refine ⟨by omega, ?_⟩)); refine hK2 _ ?_; clear hK2 K2)); refine sxz (hK' _ (AW.st (by simp [dNum, rRow, rdr, dS, dErr]; rfl) ?_)); clear hK' K'; refine AW_ret ?_; simp [D.le, D.le.go, takeMap, dNum, rRow, rdr, dS, rRow, rdr, tupW, posR, dErr, bs_nil, hs]
   ·have hse : (wordS t j == []) = false := by simpa using hs
    have hse2 : (wordS t j).isEmpty = false := by rw [List.isEmpty_eq_false_iff]; exact hs
    refine rg [0, 4, 5, 77] [500] (notIn_ok rfl) fun K' hK' => ?_; (repeat (refine sxn fun K2 hK2 => ?_; simp [dNum, rRow, rdr, dS, bs_nil, bs_list, binS, hs, hse, hse2]; (repeat (refine ⟨by omega, ?_⟩)); refine hK2 _ ?_; clear hK2 K2)); refine sxz (hK' _ (AW.st (by simp [dNum, rRow, rdr, dS, bs_nil, bs_list, binS, hs, hse, hse2]; rfl) ?_)); clear hK' K'; refine AW_ff rfl ?_; refine AW_skip (hK3 _ ?_); refine AW_then fun K4 hK4 => ?_
    cases hn : nameF (wordS t j) with
    | false =>
     rw [hn] at hname; refine rg [0, 4, 5, 82] [500] (notIn_ok rfl) fun K' hK' => ?_; (repeat (refine sxn fun K2 hK2 => ?_; simp [dNum, rRow, rdr, dS]; (repeat (refine ⟨by omega, ?_⟩)); refine hK2 _ ?_; clear hK2 K2)); refine sxn fun K2 hK2 => ?_; simp [dNum, rRow, rdr, dS]; refine callK.data (hname) (by simp; rfl) (by first | exact D.leGo_refl _ | simp [takeMap, List.map_map, Function.comp_def, D.le, D.le.go, D.le_refl, D.leGo_refl, dNum, rRow, rdr, dS]) ?_; refine hK2 _ ?_; clear hK2 K2; simp only [putd, upd_lst]; (repeat (refine sxn fun K2 hK2 => ?_; simp [dNum, rRow, rdr, dS]; (repeat (refine ⟨by omega, ?_⟩)); refine hK2 _ ?_; clear hK2 K2)); refine sxz (hK' _ (AW.st (by simp [dNum, rRow, rdr, dS]; rfl) ?_)); clear hK' K'; refine AW_tt rfl ?_; refine rg [2, 3] [500] (notIn_ok rfl) fun K' hK' => ?_; (repeat (refine sxn fun K2 hK2 => ?_; simp [dNum, rRow, rdr, dS, dErr]; (repeat (refine ⟨by omega, ?_⟩)); refine hK2 _ ?_; clear hK2 K2)); refine sxn fun K2 hK2 => ?_; simp [dNum, rRow, rdr, dS, dErr]; refine callK.mc (hf5) ?_ ?_ ?_ ?_ ?_ <;> simp [dNum, rRow, rdr, dS, dErr]; refine hK2 _ ?_; clear hK2 K2; (repeat (refine sxn fun K2 hK2 => ?_; simp [dNum, rRow, rdr, dS, dErr]; (repeat (refine ⟨by omega, ?_⟩)); refine hK2 _ ?_; clear hK2 K2)); refine sxz (hK' _ (AW.st (by simp [dNum, rRow, rdr, dS, dErr]; rfl) ?_)); clear hK' K'; refine AW_ret ?_; simp [D.le, D.le.go, takeMap, dNum, rRow, rdr, dS, rRow, rdr, tupW, posR, dErr, bs_nil, hs, hn]
    | true =>
     rw [hn] at hname; refine rg [0, 4, 5, 82] [500] (notIn_ok rfl) fun K' hK' => ?_; (repeat (refine sxn fun K2 hK2 => ?_; simp [dNum, rRow, rdr, dS]; (repeat (refine ⟨by omega, ?_⟩)); refine hK2 _ ?_; clear hK2 K2)); refine sxn fun K2 hK2 => ?_; simp [dNum, rRow, rdr, dS]; refine callK.data (hname) (by simp; rfl) (by first | exact D.leGo_refl _ | simp [takeMap, List.map_map, Function.comp_def, D.le, D.le.go, D.le_refl, D.leGo_refl, dNum, rRow, rdr, dS]) ?_; refine hK2 _ ?_; clear hK2 K2; simp only [putd, upd_lst]; (repeat (refine sxn fun K2 hK2 => ?_; simp [dNum, rRow, rdr, dS]; (repeat (refine ⟨by omega, ?_⟩)); refine hK2 _ ?_; clear hK2 K2)); refine sxz (hK' _ (AW.st (by simp [dNum, rRow, rdr, dS]; rfl) ?_)); clear hK' K'; refine AW_ff rfl ?_; refine AW_skip (hK4 _ ?_); refine rg [5] [500] (notIn_ok rfl) fun K' hK' => ?_; (repeat (refine sxn fun K2 hK2 => ?_; simp [dNum, rRow, rdr, dS]; (repeat (refine ⟨by omega, ?_⟩)); refine hK2 _ ?_; clear hK2 K2)); refine sxz (hK' _ (AW.st (by simp [dNum, rRow, rdr, dS]; rfl) ?_)); clear hK' K'; refine rg [2, 3] [500] (notIn_ok rfl) fun K' hK' => ?_; (repeat (refine sxn fun K2 hK2 => ?_; simp [dNum, rRow, rdr, dS]; (repeat (refine ⟨by omega, ?_⟩)); refine hK2 _ ?_; clear hK2 K2)); refine sxz (hK' _ (AW.st (by simp [dNum, rRow, rdr, dS]; rfl) ?_)); clear hK' K'; refine AW_ret ?_; simp [D.le, D.le.go, takeMap, dNum, rRow, rdr, dS, rRow, rdr, tupW, posR, hs, hn]
end Go.Proofs.YtagfbbnlbncjlaaGreatDoor
namespace Go.Proofs.YtagfbbnlbncjlaaGreatDoor
theorem sev_fuel {α : Type} {t : List UInt8} {s : UInt8} {f : Nat → Rs α} (hf : Goes t f) : ∀ (n m i : Nat) (acc : List α), i ≤ t.length → t.length + 1 - i ≤ n → t.length + 1 - i ≤ m → sevR t s f n i acc = sevR t s f m i acc
 | 0, _, i, _, hi, h, _ => by omega
 | _ + 1, 0, i, _, hi, _, h => by omega
 | n + 1, m + 1, i, acc, hi, h1, h2 => by
  rw [sevR, sevR]
  cases hfi : f i with
  | err c p q => rfl
  | ok x j =>
   obtain ⟨g1, g2⟩ := hf i x j hi hfi
   obtain ⟨t1, t2, t3⟩ := take_goes (c := s) g2
   dsimp only
   split
   ·exact sev_fuel hf n m _ _ t2 (by omega) (by omega)
   ·rfl
def sevA {α : Type} (t : List UInt8) (s : UInt8) (f : Nat → Rs α) (i : Nat) (acc : List α) : Rs (List α) := sevR t s f (t.length + 1 - i) i acc
theorem sev_step {α : Type} {t : List UInt8} {s : UInt8} {f : Nat → Rs α} (hf : Goes t f) {i : Nat} (hi : i ≤ t.length) (acc : List α) : sevA t s f i acc = match f i with
  | .err c p _ => .err c p 0
  | .ok x j => if (takeM t s j).1 then sevA t s f (takeM t s j).2 (acc ++ [x]) else .ok (acc ++ [x]) (takeM t s j).2 := by
 unfold sevA
 obtain ⟨n, hn⟩ : ∃ n, t.length + 1 - i = n + 1 := ⟨t.length - i, by omega⟩
 rw [hn, sevR]
 cases hfi : f i with
 | err c p q => rfl
 | ok x j =>
  obtain ⟨g1, g2⟩ := hf i x j hi hfi
  obtain ⟨t1, t2, t3⟩ := take_goes (c := s) g2
  dsimp only
  split
  ·exact sev_fuel hf _ _ _ _ t2 (by omega) (by omega)
  ·rfl
theorem sev_q {α : Type} {t : List UInt8} {s : UInt8} {f : Nat → Rs α} : ∀ (n i : Nat) (acc : List α) {c : Int} {p q : Nat}, sevR t s f n i acc = .err c p q → q = 0
 | 0, _, _, _, _, _, h => by simp only [sevR, Rs.err.injEq] at h; omega
 | n + 1, i, acc, c, p, q, h => by
  rw [sevR] at h
  split at h
  ·simp only [Rs.err.injEq] at h; omega
  ·split at h
   ·exact sev_q n _ _ h
   ·cases h
theorem colA_ne {l : List Ex} (h : l.length ≠ 1) : colA l = .and l := by
 match l, h with
 | [], _ => rfl
 | [_], h => exact absurd rfl h
 | _ :: _ :: _, _ => rfl
theorem colO_ne {l : List Ex} (h : l.length ≠ 1) : colO l = .or l := by
 match l, h with
 | [], _ => rfl
 | [_], h => exact absurd rfl h
 | _ :: _ :: _, _ => rfl
theorem Xlens_cons (x : List UInt8) (r : List (List UInt8)) : Lib.lens (x :: r) = x.length + Lib.lens r := by simp [Lib.lens]
theorem wr_two : ∀ (e : Ex) (k : Nat), (wrE e k).length ≤ (wrE e 2).length ∧ (wrE e 2).length ≤ (wrE e k).length + 2 := by
 intro e k
 cases e <;> simp only [wrE] <;> (try split) <;> simp <;> omega
theorem mem_lens {t : List (List UInt8)} {x : List UInt8} (h : x ∈ t) : x.length ≤ Lib.lens t := by
 induction t with
 | nil => simp at h
 | cons y t ih =>
  rw [Xlens_cons]
  rcases List.mem_cons.1 h with rfl | h
  ·omega
  ·have := ih h; omega
theorem lens_join (t : List (List UInt8)) (sep : List UInt8) : Lib.lens t ≤ (Lib.join t sep).length := by
 cases t with
 | nil => simp [Lib.lens]
 | cons x r => rw [Lib.join_length]; omega
theorem count_join (t : List (List UInt8)) (sep : List UInt8) : sep.length * (t.length - 1) ≤ (Lib.join t sep).length := by
 cases t with
 | nil => simp
 | cons x r => rw [Lib.join_length]; simp
end Go.Proofs.YtagfbbnlbncjlaaGreatDoor
namespace Go.Proofs.YtagfbbnlbncjlaaGreatDoor
open Go.Av
mutual
def dE : Ex → D
 | .cst b => .ifc 109 (.v (.bool b))
 | .bit s => .ifc 98 (dS s)
 | .rise s => .ifc 99 (dS s)
 | .fall s => .ifc 100 (dS s)
 | .not e => .ifc 111 (.agg [dE e])
 | .and l => .ifc 113 (.sl none (dEs l))
 | .or l => .ifc 116 (.sl none (dEs l))
def dEs : List Ex → List (List D)
 | [] => []
 | e :: l => [dE e] :: dEs l
end
theorem dEs_map : ∀ l : List Ex, dEs l = l.map fun e => [dE e]
 | [] => rfl
 | e :: l => by rw [dEs, dEs_map l]; rfl
theorem dE_ifc (e : Ex) : ∃ t y, dE e = .ifc t y := by
 cases e <;> simp only [dE] <;> exact ⟨_, _, rfl⟩
def dEl (l : List Ex) : D := .sl none (l.map fun e => [dE e])
def dQ (q : Nat) : D := if q = 1 then .ifc 99 (dS []) else if q = 2 then .ifc 100 (dS []) else if q = 3 then .ifc 98 (dS []) else .v .nilIface
def tupX : Rs Ex → D
 | .ok x _ => .tup [dE x, .v .nilIface]
 | .err c p q => .tup [dQ q, dErr (some (c, some p))]
def tupL : Rs (List Ex) → D
 | .ok l _ => .tup [dEl l, .v .nilIface]
 | .err c p _ => .tup [.sl (some false) [], dErr (some (c, some p))]
set_option maxHeartbeats 8000000 in
theorem several_spec (G : Glob) (t : List UInt8) (ht : t.length ≤ 2000) (g : FuncId) (s : UInt8) (sn : Int) (hsn : (s.toNat : Int) = sn) (d : Int) (f : Nat → Rs Ex) (hf : Goes t f)
  (hcall : ∀ i, i ≤ t.length → MC Tryz.prog G [500] g [.ref 500 0 0, .d (dNum d)] (hlst (rRow t i)) (.d (tupX (f i))) (hlst (rRow t (posR (f i))))) (i : Nat) (hi : i ≤ t.length) :
  MC Tryz.prog G [500] 74 [.ref 500 0 0, .d (.v (.int .u8 sn)), .d (dNum d), .bm g (.ref 500 0 0)] (hlst (rRow t i)) (.d (tupL (sevA t s f i []))) (hlst (rRow t (posR (sevA t s f i [])))) := by
 generalize hR : sevA t s f i [] = R; refine MC.of_body (tyOf_good _) Tryz.func74 rfl rfl (rs := [.tmp 8, .tmp 9]) Tryz.results74 (by simp [Tryz.ntmps74]) rfl fun X => ?_; simp only [Tryz.ntmps74]; refine rg [0, 1, 2, 3] [500] (notIn_ok rfl) fun K' hK' => ?_; (repeat (refine sxn fun K2 hK2 => ?_; simp [dNum, rRow, rdr, dS]; (repeat (refine ⟨by omega, ?_⟩)); refine hK2 _ ?_; clear hK2 K2)); refine sxz (hK' _ (AW.st (by simp [dNum, rRow, rdr, dS]; rfl) ?_)); clear hK' K'; refine rg [0, 1, 2, 3, 10] [500] (notIn_ok rfl) fun K' hK' => ?_; (repeat (refine sxn fun K2 hK2 => ?_; simp [dNum, rRow, rdr, dS]; (repeat (refine ⟨by omega, ?_⟩)); refine hK2 _ ?_; clear hK2 K2)); refine sxz (hK' _ (AW.st (by simp [dNum, rRow, rdr, dS]; rfl) ?_)); clear hK' K'; refine AW_for (S := Nat × List Ex) (fun z => z.1 ≤ t.length ∧ z.2.length ≤ z.1 ∧ sevA t s f z.1 z.2 = R) (fun z => ⟨lst [(0, .ref 500 0 0), (1, .d (.v (.int .u8 sn))), (2, .d (dNum d)), (3, .bm g (.ref 500 0 0)), (10, .own 300 0 z.2.length)], hlst [(500, .box 94 [.d (dS t), int z.1]), (300, .sl 23 1 (z.2.map fun e => [dE e]))]⟩) (fun z => t.length - z.1) (i, []) ?_ ⟨hi, by simp, hR⟩ ?_
 ·refine (Imp.adopt 10 300 23 1 rfl rfl).trans ?_; refine Imp.to' (notIn_ok rfl) (by simp [dNum, rRow, rdr, dS]) (by simp [dNum, rRow, rdr, dS])
 ·rintro ⟨k, acc⟩ ⟨hk, hacc, hs⟩
  dsimp only at hk hacc hs ⊢
  have hc := hcall k hk
  rw [sev_step hf hk] at hs; refine AW_block ?_
  cases hfk : f k with
  | err c p q =>
   rw [hfk] at hc hs
   dsimp only at hs
   subst hs; refine rg [0, 1, 2, 3, 10, 11, 12] [500, 300] (notIn_ok rfl) fun K' hK' => ?_; (repeat (refine sxn fun K2 hK2 => ?_; simp [dNum, rRow, rdr, dS, tupX, dErr]; (repeat (refine ⟨by omega, ?_⟩)); refine hK2 _ ?_; clear hK2 K2)); refine sxn fun K2 hK2 => ?_; simp [dNum, rRow, rdr, dS, tupX, dErr]; refine callK.mc (hc) ?_ ?_ ?_ ?_ ?_ <;> simp [dNum, rRow, rdr, dS, tupX, dErr]; refine hK2 _ ?_; clear hK2 K2; (repeat (refine sxn fun K2 hK2 => ?_; simp [dNum, rRow, rdr, dS, tupX, dErr]; (repeat (refine ⟨by omega, ?_⟩)); refine hK2 _ ?_; clear hK2 K2)); refine sxz (hK' _ (AW.st (by simp [dNum, rRow, rdr, dS, tupX, dErr]; rfl) ?_)); clear hK' K'; refine AW_then fun K1 hK1 => ?_; refine rg [0, 1, 2, 3, 10, 11, 12, 20] [500, 300] (notIn_ok rfl) fun K' hK' => ?_; (repeat (refine sxn fun K2 hK2 => ?_; simp [dNum, rRow, rdr, dS]; (repeat (refine ⟨by omega, ?_⟩)); refine hK2 _ ?_; clear hK2 K2)); refine sxz (hK' _ (AW.st (by simp [dNum, rRow, rdr, dS]; rfl) ?_)); clear hK' K'; refine AW_tt rfl ?_; refine rg [8, 9] [500] (notIn_ok rfl) fun K' hK' => ?_; (repeat (refine sxn fun K2 hK2 => ?_; simp [dNum, rRow, rdr, dS]; (repeat (refine ⟨by omega, ?_⟩)); refine hK2 _ ?_; clear hK2 K2)); refine sxz (hK' _ (AW.st (by simp [dNum, rRow, rdr, dS]; rfl) ?_)); clear hK' K'; refine AW_ret ?_; simp [D.le, D.le.go, takeMap, dNum, rRow, rdr, dS, rRow, rdr, tupL, posR, dErr]
  | ok x j =>
   rw [hfk] at hc hs
   dsimp only at hs
   obtain ⟨g1, g2⟩ := hf k x j hk hfk
   have htk := take_spec G t j (by omega) g2 s
   rw [hsn] at htk
   obtain ⟨t1, t2, t3⟩ := take_goes (c := s) g2
   obtain ⟨tx, cx, hx⟩ := dE_ifc x
   refine rg [0, 1, 2, 3, 10, 11, 12] [500, 300] (notIn_ok rfl) fun K' hK' => ?_; (repeat (refine sxn fun K2 hK2 => ?_; simp [dNum, rRow, rdr, dS, tupX, posR, hx]; (repeat (refine ⟨by omega, ?_⟩)); refine hK2 _ ?_; clear hK2 K2)); refine sxn fun K2 hK2 => ?_; simp [dNum, rRow, rdr, dS, tupX, posR, hx]; refine callK.mc (hc) ?_ ?_ ?_ ?_ ?_ <;> simp [dNum, rRow, rdr, dS, tupX, posR, hx]; refine hK2 _ ?_; clear hK2 K2; (repeat (refine sxn fun K2 hK2 => ?_; simp [dNum, rRow, rdr, dS, tupX, posR, hx]; (repeat (refine ⟨by omega, ?_⟩)); refine hK2 _ ?_; clear hK2 K2)); refine sxz (hK' _ (AW.st (by simp [dNum, rRow, rdr, dS, tupX, posR, hx]; rfl) ?_)); clear hK' K'; refine AW_then fun K1 hK1 => ?_; refine rg [0, 1, 2, 3, 10, 11, 12, 20] [500, 300] (notIn_ok rfl) fun K' hK' => ?_; (repeat (refine sxn fun K2 hK2 => ?_; simp [dNum, rRow, rdr, dS]; (repeat (refine ⟨by omega, ?_⟩)); refine hK2 _ ?_; clear hK2 K2)); refine sxz (hK' _ (AW.st (by simp [dNum, rRow, rdr, dS]; rfl) ?_)); clear hK' K'; refine AW_ff rfl ?_; refine AW_skip (hK1 _ ?_); refine rg [0, 1, 2, 3, 10] [500, 300] (notIn_ok rfl) fun K' hK' => ?_; (repeat (refine sxn fun K2 hK2 => ?_; simp [dNum, rRow, rdr, dS, List.take_of_length_le]; (repeat (refine ⟨by omega, ?_⟩)); refine hK2 _ ?_; clear hK2 K2)); refine sxz (hK' _ (AW.st (by simp [dNum, rRow, rdr, dS, List.take_of_length_le]; rfl) ?_)); clear hK' K'
   cases htm : takeM t s j with
   | mk b k2 =>
   rw [htm] at hs htk t1 t2 t3
   dsimp only at hs htk t1 t2 t3
   cases b with
   | true =>
    rw [if_pos rfl] at hs
    have hlt := t3 rfl
    refine rg [0, 1, 2, 3, 10, 29] [500, 300] (notIn_ok rfl) fun K' hK' => ?_; (repeat (refine sxn fun K2 hK2 => ?_; simp [dNum, rRow, rdr, dS]; (repeat (refine ⟨by omega, ?_⟩)); refine hK2 _ ?_; clear hK2 K2)); refine sxn fun K2 hK2 => ?_; simp [dNum, rRow, rdr, dS]; refine callK.mc (htk) ?_ ?_ ?_ ?_ ?_ <;> simp [dNum, rRow, rdr, dS]; refine hK2 _ ?_; clear hK2 K2; (repeat (refine sxn fun K2 hK2 => ?_; simp [dNum, rRow, rdr, dS]; (repeat (refine ⟨by omega, ?_⟩)); refine hK2 _ ?_; clear hK2 K2)); refine sxz (hK' _ (AW.st (by simp [dNum, rRow, rdr, dS]; rfl) ?_)); clear hK' K'; refine AW_ff rfl ?_; refine AW_skip ?_; refine Again.mk (k2, acc ++ [x]) ⟨t2, by simp; omega, hs⟩ (by dsimp only; omega) ?_; refine Imp.to' (notIn_ok rfl) (by simp [dNum, rRow, rdr, dS, hx]) (by simp [dNum, rRow, rdr, dS, hx])
   | false =>
    rw [if_neg (by simp)] at hs; subst hs; refine rg [0, 1, 2, 3, 10, 29] [500, 300] (notIn_ok rfl) fun K' hK' => ?_; (repeat (refine sxn fun K2 hK2 => ?_; simp [dNum, rRow, rdr, dS]; (repeat (refine ⟨by omega, ?_⟩)); refine hK2 _ ?_; clear hK2 K2)); refine sxn fun K2 hK2 => ?_; simp [dNum, rRow, rdr, dS]; refine callK.mc (htk) ?_ ?_ ?_ ?_ ?_ <;> simp [dNum, rRow, rdr, dS]; refine hK2 _ ?_; clear hK2 K2; (repeat (refine sxn fun K2 hK2 => ?_; simp [dNum, rRow, rdr, dS]; (repeat (refine ⟨by omega, ?_⟩)); refine hK2 _ ?_; clear hK2 K2)); refine sxz (hK' _ (AW.st (by simp [dNum, rRow, rdr, dS]; rfl) ?_)); clear hK' K'; refine AW_tt rfl ?_; refine AW.imp (Imp.freeze 300 (by decide)) ?_; refine AW.st (by simp [dNum, rRow, rdr, dS]; rfl) ?_; refine rg [8, 9] [500] (notIn_ok rfl) fun K' hK' => ?_; (repeat (refine sxn fun K2 hK2 => ?_; simp [dNum, rRow, rdr, dS]; (repeat (refine ⟨by omega, ?_⟩)); refine hK2 _ ?_; clear hK2 K2)); refine sxz (hK' _ (AW.st (by simp [dNum, rRow, rdr, dS]; rfl) ?_)); clear hK' K'; refine AW_ret ?_; simp [D.le, D.le.go, takeMap, dNum, rRow, rdr, dS, rRow, rdr, tupL, dEl, posR, hx, D.le_refl, D.leGo_refl]
set_option maxHeartbeats 8000000 in
theorem and_spec (G : Glob) (t : List UInt8) (ht : t.length ≤ 2000) (d : Nat) (hone : ∀ i, i ≤ t.length → MC Tryz.prog G [500] 103 [.ref 500 0 0, .d (dNum d)] (hlst (rRow t i)) (.d (tupX (oneR t d i))) (hlst (rRow t (posR (oneR t d i))))) (i : Nat) (hi : i ≤ t.length) :
  MC Tryz.prog G [500] 75 [.ref 500 0 0, .d (dNum d)] (hlst (rRow t i)) (.d (tupX (andR t (oneR t d) i))) (hlst (rRow t (posR (andR t (oneR t d) i)))) := by
 have hsv := several_spec G t ht 103 38 38 rfl d (oneR t d) (one_goes t d) hone i hi
 have hR : andR t (oneR t d) i = (sevA t 38 (oneR t d) i []).map colA := rfl
 rw [hR]
 have hq : ∀ {c : Int} {p q : Nat}, sevA t 38 (oneR t d) i [] = .err c p q → q = 0 := fun h => sev_q _ _ _ h
 cases hs : sevA t 38 (oneR t d) i [] with
 | err c p q =>
  obtain rfl := hq hs
  rw [hs] at hsv; refine MC.of_body (tyOf_good _) Tryz.func75 rfl rfl (rs := [.tmp 4, .tmp 5]) Tryz.results75 (by simp [Tryz.ntmps75]) rfl fun X => ?_; simp only [Tryz.ntmps75]; refine rg [0, 1] [500] (notIn_ok rfl) fun K' hK' => ?_; (repeat (refine sxn fun K2 hK2 => ?_; simp [dNum, rRow, rdr, dS]; (repeat (refine ⟨by omega, ?_⟩)); refine hK2 _ ?_; clear hK2 K2)); refine sxz (hK' _ (AW.st (by simp [dNum, rRow, rdr, dS]; rfl) ?_)); clear hK' K'; refine rg [6, 7] [500] (notIn_ok rfl) fun K' hK' => ?_; (repeat (refine sxn fun K2 hK2 => ?_; simp [dNum, rRow, rdr, dS, tupL, dErr]; (repeat (refine ⟨by omega, ?_⟩)); refine hK2 _ ?_; clear hK2 K2)); refine sxn fun K2 hK2 => ?_; simp [dNum, rRow, rdr, dS, tupL, dErr]; refine callK.mc (hsv) ?_ ?_ ?_ ?_ ?_ <;> simp [dNum, rRow, rdr, dS, tupL, dErr]; refine hK2 _ ?_; clear hK2 K2; (repeat (refine sxn fun K2 hK2 => ?_; simp [dNum, rRow, rdr, dS, tupL, dErr]; (repeat (refine ⟨by omega, ?_⟩)); refine hK2 _ ?_; clear hK2 K2)); refine sxz (hK' _ (AW.st (by simp [dNum, rRow, rdr, dS, tupL, dErr]; rfl) ?_)); clear hK' K'; refine AW_then fun K1 hK1 => ?_; refine rg [6, 7, 17] [500] (notIn_ok rfl) fun K' hK' => ?_; (repeat (refine sxn fun K2 hK2 => ?_; simp [dNum, rRow, rdr, dS]; (repeat (refine ⟨by omega, ?_⟩)); refine hK2 _ ?_; clear hK2 K2)); refine sxz (hK' _ (AW.st (by simp [dNum, rRow, rdr, dS]; rfl) ?_)); clear hK' K'; refine AW_tt rfl ?_; refine rg [4, 5] [500] (notIn_ok rfl) fun K' hK' => ?_; (repeat (refine sxn fun K2 hK2 => ?_; simp [dNum, rRow, rdr, dS]; (repeat (refine ⟨by omega, ?_⟩)); refine hK2 _ ?_; clear hK2 K2)); refine sxz (hK' _ (AW.st (by simp [dNum, rRow, rdr, dS]; rfl) ?_)); clear hK' K'; refine AW_ret ?_; simp [D.le, D.le.go, takeMap, dNum, rRow, rdr, dS, rRow, rdr, tupX, posR, dErr, Rs.map, dQ]
 | ok l p =>
  rw [hs] at hsv
  by_cases hl : l.length = 1
  ·obtain ⟨x, rfl⟩ := List.length_eq_one_iff.1 hl
   obtain ⟨tx, cx, hx⟩ := dE_ifc x
   refine MC.of_body (tyOf_good _) Tryz.func75 rfl rfl (rs := [.tmp 4, .tmp 5]) Tryz.results75 (by simp [Tryz.ntmps75]) rfl fun X => ?_; simp only [Tryz.ntmps75]; refine rg [0, 1] [500] (notIn_ok rfl) fun K' hK' => ?_; (repeat (refine sxn fun K2 hK2 => ?_; simp [dNum, rRow, rdr, dS]; (repeat (refine ⟨by omega, ?_⟩)); refine hK2 _ ?_; clear hK2 K2)); refine sxz (hK' _ (AW.st (by simp [dNum, rRow, rdr, dS]; rfl) ?_)); clear hK' K'; refine rg [6, 7] [500] (notIn_ok rfl) fun K' hK' => ?_; (repeat (refine sxn fun K2 hK2 => ?_; simp [dNum, rRow, rdr, dS, tupL, dEl, hx]; (repeat (refine ⟨by omega, ?_⟩)); refine hK2 _ ?_; clear hK2 K2)); refine sxn fun K2 hK2 => ?_; simp [dNum, rRow, rdr, dS, tupL, dEl, hx]; refine callK.mc (hsv) ?_ ?_ ?_ ?_ ?_ <;> simp [dNum, rRow, rdr, dS, tupL, dEl, hx]; refine hK2 _ ?_; clear hK2 K2; (repeat (refine sxn fun K2 hK2 => ?_; simp [dNum, rRow, rdr, dS, tupL, dEl, hx]; (repeat (refine ⟨by omega, ?_⟩)); refine hK2 _ ?_; clear hK2 K2)); refine sxz (hK' _ (AW.st (by simp [dNum, rRow, rdr, dS, tupL, dEl, hx]; rfl) ?_)); clear hK' K'; refine AW_then fun K1 hK1 => ?_; refine rg [6, 7, 17] [500] (notIn_ok rfl) fun K' hK' => ?_; (repeat (refine sxn fun K2 hK2 => ?_; simp [dNum, rRow, rdr, dS]; (repeat (refine ⟨by omega, ?_⟩)); refine hK2 _ ?_; clear hK2 K2)); refine sxz (hK' _ (AW.st (by simp [dNum, rRow, rdr, dS]; rfl) ?_)); clear hK' K'; refine AW_ff rfl ?_; refine AW_skip (hK1 _ ?_); refine AW_then fun K2 hK2 => ?_; refine rg [6, 21] [500] (notIn_ok rfl) fun K' hK' => ?_; (repeat (refine sxn fun K2 hK2 => ?_; simp [dNum, rRow, rdr, dS]; (repeat (refine ⟨by omega, ?_⟩)); refine hK2 _ ?_; clear hK2 K2)); refine sxz (hK' _ (AW.st (by simp [dNum, rRow, rdr, dS]; rfl) ?_)); clear hK' K'; refine AW_tt rfl ?_; refine rg [4, 5] [500] (notIn_ok rfl) fun K' hK' => ?_; (repeat (refine sxn fun K2 hK2 => ?_; simp [dNum, rRow, rdr, dS]; (repeat (refine ⟨by omega, ?_⟩)); refine hK2 _ ?_; clear hK2 K2)); refine sxz (hK' _ (AW.st (by simp [dNum, rRow, rdr, dS]; rfl) ?_)); clear hK' K'; refine AW_ret ?_; simp [D.le, D.le.go, takeMap, dNum, rRow, rdr, dS, rRow, rdr, tupX, posR, Rs.map, colA, hx, D.le_refl]
  ·have hl' : ¬ (l.length : Int) = 1 := by omega
   have hcol := colA_ne hl
   refine MC.of_body (tyOf_good _) Tryz.func75 rfl rfl (rs := [.tmp 4, .tmp 5]) Tryz.results75 (by simp [Tryz.ntmps75]) rfl fun X => ?_; simp only [Tryz.ntmps75]; refine rg [0, 1] [500] (notIn_ok rfl) fun K' hK' => ?_; (repeat (refine sxn fun K2 hK2 => ?_; simp [dNum, rRow, rdr, dS]; (repeat (refine ⟨by omega, ?_⟩)); refine hK2 _ ?_; clear hK2 K2)); refine sxz (hK' _ (AW.st (by simp [dNum, rRow, rdr, dS]; rfl) ?_)); clear hK' K'; refine rg [6, 7] [500] (notIn_ok rfl) fun K' hK' => ?_; (repeat (refine sxn fun K2 hK2 => ?_; simp [dNum, rRow, rdr, dS, tupL, dEl]; (repeat (refine ⟨by omega, ?_⟩)); refine hK2 _ ?_; clear hK2 K2)); refine sxn fun K2 hK2 => ?_; simp [dNum, rRow, rdr, dS, tupL, dEl]; refine callK.mc (hsv) ?_ ?_ ?_ ?_ ?_ <;> simp [dNum, rRow, rdr, dS, tupL, dEl]; refine hK2 _ ?_; clear hK2 K2; (repeat (refine sxn fun K2 hK2 => ?_; simp [dNum, rRow, rdr, dS, tupL, dEl]; (repeat (refine ⟨by omega, ?_⟩)); refine hK2 _ ?_; clear hK2 K2)); refine sxz (hK' _ (AW.st (by simp [dNum, rRow, rdr, dS, tupL, dEl]; rfl) ?_)); clear hK' K'; refine AW_then fun K1 hK1 => ?_; refine rg [6, 7, 17] [500] (notIn_ok rfl) fun K' hK' => ?_; (repeat (refine sxn fun K2 hK2 => ?_; simp [dNum, rRow, rdr, dS]; (repeat (refine ⟨by omega, ?_⟩)); refine hK2 _ ?_; clear hK2 K2)); refine sxz (hK' _ (AW.st (by simp [dNum, rRow, rdr, dS]; rfl) ?_)); clear hK' K'; refine AW_ff rfl ?_; refine AW_skip (hK1 _ ?_); refine AW_then fun K2 hK2 => ?_; refine rg [6, 21] [500] (notIn_ok rfl) fun K' hK' => ?_; (repeat (refine sxn fun K2 hK2 => ?_; simp [dNum, rRow, rdr, dS, hl, hl']; (repeat (refine ⟨by omega, ?_⟩)); refine hK2 _ ?_; clear hK2 K2)); refine sxz (hK' _ (AW.st (by simp [dNum, rRow, rdr, dS, hl, hl']; rfl) ?_)); clear hK' K'; refine AW_ff rfl ?_; refine AW_skip (hK2 _ ?_); refine rg [4, 5] [500] (notIn_ok rfl) fun K' hK' => ?_; (repeat (refine sxn fun K2 hK2 => ?_; simp [dNum, rRow, rdr, dS]; (repeat (refine ⟨by omega, ?_⟩)); refine hK2 _ ?_; clear hK2 K2)); refine sxz (hK' _ (AW.st (by simp [dNum, rRow, rdr, dS]; rfl) ?_)); clear hK' K'; refine AW_ret ?_; simp [D.le, D.le.go, takeMap, dNum, rRow, rdr, dS, rRow, rdr, tupX, posR, Rs.map, hcol, dE, dEs_map, D.le_refl, D.leGo_refl]
set_option maxHeartbeats 8000000 in
theorem or_spec (G : Glob) (t : List UInt8) (ht : t.length ≤ 2000) (d : Nat) (hone : ∀ i, i ≤ t.length → MC Tryz.prog G [500] 103 [.ref 500 0 0, .d (dNum d)] (hlst (rRow t i)) (.d (tupX (oneR t d i))) (hlst (rRow t (posR (oneR t d i))))) (i : Nat) (hi : i ≤ t.length) :
  MC Tryz.prog G [500] 46 [.ref 500 0 0, .d (dNum d)] (hlst (rRow t i)) (.d (tupX (orR t (oneR t d) i))) (hlst (rRow t (posR (orR t (oneR t d) i)))) := by
 have hsv := several_spec G t ht 75 124 124 rfl d (andR t (oneR t d)) (and_goes (one_goes t d)) (and_spec G t ht d hone) i hi
 have hR : orR t (oneR t d) i = (sevA t 124 (andR t (oneR t d)) i []).map colO := rfl
 rw [hR]
 have hq : ∀ {c : Int} {p q : Nat}, sevA t 124 (andR t (oneR t d)) i [] = .err c p q → q = 0 := fun h => sev_q _ _ _ h
 cases hs : sevA t 124 (andR t (oneR t d)) i [] with
 | err c p q =>
  obtain rfl := hq hs
  rw [hs] at hsv; refine MC.of_body (tyOf_good _) Tryz.func46 rfl rfl (rs := [.tmp 4, .tmp 5]) Tryz.results46 (by simp [Tryz.ntmps46]) rfl fun X => ?_; simp only [Tryz.ntmps46]; refine rg [0, 1] [500] (notIn_ok rfl) fun K' hK' => ?_; (repeat (refine sxn fun K2 hK2 => ?_; simp [dNum, rRow, rdr, dS]; (repeat (refine ⟨by omega, ?_⟩)); refine hK2 _ ?_; clear hK2 K2)); refine sxz (hK' _ (AW.st (by simp [dNum, rRow, rdr, dS]; rfl) ?_)); clear hK' K'; refine rg [6, 7] [500] (notIn_ok rfl) fun K' hK' => ?_; (repeat (refine sxn fun K2 hK2 => ?_; simp [dNum, rRow, rdr, dS, tupL, dErr]; (repeat (refine ⟨by omega, ?_⟩)); refine hK2 _ ?_; clear hK2 K2)); refine sxn fun K2 hK2 => ?_; simp [dNum, rRow, rdr, dS, tupL, dErr]; refine callK.mc (hsv) ?_ ?_ ?_ ?_ ?_ <;> simp [dNum, rRow, rdr, dS, tupL, dErr]; refine hK2 _ ?_; clear hK2 K2; (repeat (refine sxn fun K2 hK2 => ?_; simp [dNum, rRow, rdr, dS, tupL, dErr]; (repeat (refine ⟨by omega, ?_⟩)); refine hK2 _ ?_; clear hK2 K2)); refine sxz (hK' _ (AW.st (by simp [dNum, rRow, rdr, dS, tupL, dErr]; rfl) ?_)); clear hK' K'; refine AW_then fun K1 hK1 => ?_; refine rg [6, 7, 17] [500] (notIn_ok rfl) fun K' hK' => ?_; (repeat (refine sxn fun K2 hK2 => ?_; simp [dNum, rRow, rdr, dS]; (repeat (refine ⟨by omega, ?_⟩)); refine hK2 _ ?_; clear hK2 K2)); refine sxz (hK' _ (AW.st (by simp [dNum, rRow, rdr, dS]; rfl) ?_)); clear hK' K'; refine AW_tt rfl ?_; refine rg [4, 5] [500] (notIn_ok rfl) fun K' hK' => ?_; (repeat (refine sxn fun K2 hK2 => ?_; simp [dNum, rRow, rdr, dS]; (repeat (refine ⟨by omega, ?_⟩)); refine hK2 _ ?_; clear hK2 K2)); refine sxz (hK' _ (AW.st (by simp [dNum, rRow, rdr, dS]; rfl) ?_)); clear hK' K'; refine AW_ret ?_; simp [D.le, D.le.go, takeMap, dNum, rRow, rdr, dS, rRow, rdr, tupX, posR, dErr, Rs.map, dQ]
 | ok l p =>
  rw [hs] at hsv
  by_cases hl : l.length = 1
  ·obtain ⟨x, rfl⟩ := List.length_eq_one_iff.1 hl
   obtain ⟨tx, cx, hx⟩ := dE_ifc x
   refine MC.of_body (tyOf_good _) Tryz.func46 rfl rfl (rs := [.tmp 4, .tmp 5]) Tryz.results46 (by simp [Tryz.ntmps46]) rfl fun X => ?_; simp only [Tryz.ntmps46]; refine rg [0, 1] [500] (notIn_ok rfl) fun K' hK' => ?_; (repeat (refine sxn fun K2 hK2 => ?_; simp [dNum, rRow, rdr, dS]; (repeat (refine ⟨by omega, ?_⟩)); refine hK2 _ ?_; clear hK2 K2)); refine sxz (hK' _ (AW.st (by simp [dNum, rRow, rdr, dS]; rfl) ?_)); clear hK' K'; refine rg [6, 7] [500] (notIn_ok rfl) fun K' hK' => ?_; (repeat (refine sxn fun K2 hK2 => ?_; simp [dNum, rRow, rdr, dS, tupL, dEl, hx]; (repeat (refine ⟨by omega, ?_⟩)); refine hK2 _ ?_; clear hK2 K2)); refine sxn fun K2 hK2 => ?_; simp [dNum, rRow, rdr, dS, tupL, dEl, hx]; refine callK.mc (hsv) ?_ ?_ ?_ ?_ ?_ <;> simp [dNum, rRow, rdr, dS, tupL, dEl, hx]; refine hK2 _ ?_; clear hK2 K2; (repeat (refine sxn fun K2 hK2 => ?_; simp [dNum, rRow, rdr, dS, tupL, dEl, hx]; (repeat (refine ⟨by omega, ?_⟩)); refine hK2 _ ?_; clear hK2 K2)); refine sxz (hK' _ (AW.st (by simp [dNum, rRow, rdr, dS, tupL, dEl, hx]; rfl) ?_)); clear hK' K'; refine AW_then fun K1 hK1 => ?_; refine rg [6, 7, 17] [500] (notIn_ok rfl) fun K' hK' => ?_; (repeat (refine sxn fun K2 hK2 => ?_; simp [dNum, rRow, rdr, dS]; (repeat (refine ⟨by omega, ?_⟩)); refine hK2 _ ?_; clear hK2 K2)); refine sxz (hK' _ (AW.st (by simp [dNum, rRow, rdr, dS]; rfl) ?_)); clear hK' K'; refine AW_ff rfl ?_; refine AW_skip (hK1 _ ?_); refine AW_then fun K2 hK2 => ?_; refine rg [6, 21] [500] (notIn_ok rfl) fun K' hK' => ?_; (repeat (refine sxn fun K2 hK2 => ?_; simp [dNum, rRow, rdr, dS]; (repeat (refine ⟨by omega, ?_⟩)); refine hK2 _ ?_; clear hK2 K2)); refine sxz (hK' _ (AW.st (by simp [dNum, rRow, rdr, dS]; rfl) ?_)); clear hK' K'; refine AW_tt rfl ?_; refine rg [4, 5] [500] (notIn_ok rfl) fun K' hK' => ?_; (repeat (refine sxn fun K2 hK2 => ?_; simp [dNum, rRow, rdr, dS]; (repeat (refine ⟨by omega, ?_⟩)); refine hK2 _ ?_; clear hK2 K2)); refine sxz (hK' _ (AW.st (by simp [dNum, rRow, rdr, dS]; rfl) ?_)); clear hK' K'; refine AW_ret ?_; simp [D.le, D.le.go, takeMap, dNum, rRow, rdr, dS, rRow, rdr, tupX, posR, Rs.map, colO, hx, D.le_refl]
  ·have hl' : ¬ (l.length : Int) = 1 := by omega
   have hcol := colO_ne hl
   refine MC.of_body (tyOf_good _) Tryz.func46 rfl rfl (rs := [.tmp 4, .tmp 5]) Tryz.results46 (by simp [Tryz.ntmps46]) rfl fun X => ?_; simp only [Tryz.ntmps46]; refine rg [0, 1] [500] (notIn_ok rfl) fun K' hK' => ?_; (repeat (refine sxn fun K2 hK2 => ?_; simp [dNum, rRow, rdr, dS]; (repeat (refine ⟨by omega, ?_⟩)); refine hK2 _ ?_; clear hK2 K2)); refine sxz (hK' _ (AW.st (by simp [dNum, rRow, rdr, dS]; rfl) ?_)); clear hK' K'; refine rg [6, 7] [500] (notIn_ok rfl) fun K' hK' => ?_; (repeat (refine sxn fun K2 hK2 => ?_; simp [dNum, rRow, rdr, dS, tupL, dEl]; (repeat (refine ⟨by omega, ?_⟩)); refine hK2 _ ?_; clear hK2 K2)); refine sxn fun K2 hK2 => ?_; simp [dNum, rRow, rdr, dS, tupL, dEl]; refine callK.mc (hsv) ?_ ?_ ?_ ?_ ?_ <;> simp [dNum, rRow, rdr, dS, tupL, dEl]; refine hK2 _ ?_; clear hK2 K2; (repeat (refine sxn fun K2 hK2 => ?_; simp [dNum, rRow, rdr, dS, tupL, dEl]; (repeat (refine ⟨by omega, ?_⟩)); refine hK2 _ ?_; clear hK2 K2)); refine sxz (hK' _ (AW.st (by simp [dNum, rRow, rdr, dS, tupL, dEl]; rfl) ?_)); clear hK' K'; refine AW_then fun K1 hK1 => ?_; refine rg [6, 7, 17] [500] (notIn_ok rfl) fun K' hK' => ?_; (repeat (refine sxn fun K2 hK2 => ?_; simp [dNum, rRow, rdr, dS]; (repeat (refine ⟨by omega, ?_⟩)); refine hK2 _ ?_; clear hK2 K2)); refine sxz (hK' _ (AW.st (by simp [dNum, rRow, rdr, dS]; rfl) ?_)); clear hK' K'; refine AW_ff rfl ?_; refine AW_skip (hK1 _ ?_); refine AW_then fun K2 hK2 => ?_; refine rg [6, 21] [500] (notIn_ok rfl) fun K' hK' => ?_; (repeat (refine sxn fun K2 hK2 => ?_; simp [dNum, rRow, rdr, dS, hl, hl']; (repeat (refine ⟨by omega, ?_⟩)); refine hK2 _ ?_; clear hK2 K2)); refine sxz (hK' _ (AW.st (by simp [dNum, rRow, rdr, dS, hl, hl']; rfl) ?_)); clear hK' K'; refine AW_ff rfl ?_; refine AW_skip (hK2 _ ?_); refine rg [4, 5] [500] (notIn_ok rfl) fun K' hK' => ?_; (repeat (refine sxn fun K2 hK2 => ?_; simp [dNum, rRow, rdr, dS]; (repeat (refine ⟨by omega, ?_⟩)); refine hK2 _ ?_; clear hK2 K2)); refine sxz (hK' _ (AW.st (by simp [dNum, rRow, rdr, dS]; rfl) ?_)); clear hK' K'; refine AW_ret ?_; simp [D.le, D.le.go, takeMap, dNum, rRow, rdr, dS, rRow, rdr, tupX, posR, Rs.map, hcol, dE, dEs_map, D.le_refl, D.leGo_refl]
end Go.Proofs.YtagfbbnlbncjlaaGreatDoor
namespace Go.Proofs.YtagfbbnlbncjlaaGreatDoor
open Go.Av
set_option maxHeartbeats 8000000 in
theorem wjoin_spec (G : Glob) (l : List Ex) (sep : List UInt8) (k : Nat) (ar : Bool) (hl : l.length ≤ 2^31) (hlen : (Lib.join (l.map fun e => wrE e k) sep).length ≤ 2^31) (hch : ∀ e ∈ l, PureC Tryz.prog G 186 [dE e, dNum k] (dS (wrE e k))) :
  PureC Tryz.prog G 187 [dEl l, dS sep, dNum k, .v (.bool ar)] (dS (if ar then [40] ++ Lib.join (l.map fun e => wrE e k) sep ++ [41] else Lib.join (l.map fun e => wrE e k) sep)) := by
 have hjoin := join_spec G (l.map fun e => wrE e k) sep (by omega) (by simp; omega)
 rw [show ((l.map fun e => wrE e k).map fun s => [dS s]) = l.map fun e => [dS (wrE e k)] by rw [List.map_map]; rfl] at hjoin; refine PureC.of_body (tyOf_good _) Tryz.func187 rfl rfl (rs := [.tmp 8]) Tryz.results187 (by simp [Tryz.ntmps187]) fun X => ?_; simp only [Tryz.ntmps187, List.map]; refine rg [0, 1, 2, 3] [] (fun _ _ => trivial) fun K' hK' => ?_; (repeat (refine sxn fun K2 hK2 => ?_; simp [dNum, dEl]; (repeat (refine ⟨by omega, ?_⟩)); refine hK2 _ ?_; clear hK2 K2)); refine sxz (hK' _ (AW.st (by simp [dNum, dEl]; rfl) ?_)); clear hK' K'; refine rg [0, 1, 2, 3, 9] [] (fun _ _ => trivial) fun K' hK' => ?_; (repeat (refine sxn fun K2 hK2 => ?_; simp [dNum, dEl]; (repeat (refine ⟨by omega, ?_⟩)); refine hK2 _ ?_; clear hK2 K2)); refine sxz (hK' _ (AW.st (by simp [dNum, dEl]; rfl) ?_)); clear hK' K'; refine AW_then fun K1 hK1 => ?_; refine rg [1, 2, 3, 9, 12, 13, 14] [] (fun _ _ => trivial) fun K' hK' => ?_; (repeat (refine sxn fun K2 hK2 => ?_; simp [dNum, dEl]; (repeat (refine ⟨by omega, ?_⟩)); refine hK2 _ ?_; clear hK2 K2)); refine sxz (hK' _ (AW.st (by simp [dNum, dEl]; rfl) ?_)); clear hK' K'; refine AW_for (S := Nat) (fun i => i ≤ l.length) (fun i => ⟨lst [(1, .d (dS sep)), (2, .d (dNum k)), (3, .d (.v (.bool ar))), (9, .own 300 0 i), (12, .d (.sl none (l.map fun e => [dE e]))), (13, int l.length), (14, int i)], hlst [(300, .sl 9 1 (List.take i (l.map fun e => [dS (wrE e k)])))]⟩) (fun i => l.length - i) 0 ?_ (by omega) ?_
 ·refine (Imp.adopt 9 300 9 1 rfl rfl).trans ?_; refine Imp.to' (fun _ _ => trivial) (by simp [dNum, dEl, dS]) (by simp [dNum, dEl, dS])
 ·intro i hi
  refine rg [1, 2, 3, 9, 12, 13, 14, 15] [300] (fun _ _ => trivial) fun K' hK' => ?_; (repeat (refine sxn fun K2 hK2 => ?_; simp [dNum, dEl]; (repeat (refine ⟨by omega, ?_⟩)); refine hK2 _ ?_; clear hK2 K2)); refine sxz (hK' _ (AW.st (by simp [dNum, dEl]; rfl) ?_)); clear hK' K'; refine AW_then fun K2 hK2 => ?_; refine AW_cond' (b := i < l.length) (by simp [D.le, D.le.go, takeMap, dNum, dEl]) (fun hc => ?_) (fun hc => ?_)
  ·have hil : i < l.length := hc
   obtain ⟨ti, ci, hci⟩ := dE_ifc l[i]
   have hcc := hch _ (List.getElem_mem hil)
   rw [hci] at hcc
   have htk : ∀ g : Ex → List D, List.take (i + 1) (List.map g l) = List.take i (List.map g l) ++ [g l[i]] := fun g => by
    rw [List.take_succ_eq_append_getElem (by simp; exact hil), List.getElem_map]
   refine AW_skip (hK2 _ ?_); refine AW_then fun K3 hK3 => ?_; refine AW_block ?_; refine rg [1, 2, 3, 9, 11, 12, 13, 14] [300] (fun _ _ => trivial) fun K' hK' => ?_; (repeat (refine sxn fun K2 hK2 => ?_; simp [dNum, dEl, hil, hci]; (repeat (refine ⟨by omega, ?_⟩)); refine hK2 _ ?_; clear hK2 K2)); refine sxz (hK' _ (AW.st (by simp [dNum, dEl, hil, hci]; rfl) ?_)); clear hK' K'; refine AW_re (tyOf_good _) fun K' hK' => ?_; (repeat (refine sxn fun K2 hK2 => ?_; simp [dNum, dEl, dS, List.take_take]; (repeat (refine ⟨by omega, ?_⟩)); refine hK2 _ ?_; clear hK2 K2)); refine sxn fun K2 hK2 => ?_; simp [dNum, dEl, dS, List.take_take]; refine callK.data (hcc) (by simp; rfl) (by first | exact D.leGo_refl _ | simp [takeMap, List.map_map, Function.comp_def, D.le, D.le.go, D.le_refl, D.leGo_refl, dNum, dEl, dS, List.take_take]) ?_; refine hK2 _ ?_; clear hK2 K2; simp only [putd, upd_lst]; (repeat (refine sxn fun K2 hK2 => ?_; simp [dNum, dEl, dS, List.take_take]; (repeat (refine ⟨by omega, ?_⟩)); refine hK2 _ ?_; clear hK2 K2)); refine sxz (hK' _ ?_); clear hK' K'; refine hK3 _ (AW.norm [1, 2, 3, 9, 12, 13, 14] [300] (fun _ _ => trivial) (AW.st (by simp [dNum, dEl, dS, List.take_take]; rfl) ?_)); refine AW_re (tyOf_good _) fun K' hK' => ?_; (repeat (refine sxn fun K2 hK2 => ?_; simp [dNum, dEl]; (repeat (refine ⟨by omega, ?_⟩)); refine hK2 _ ?_; clear hK2 K2)); refine sxz (hK' _ ?_); clear hK' K'; (try simp only [thn, inb]); refine Again.mk (i + 1) (by omega) (by omega) ?_; refine Imp.to' (fun _ _ => trivial) (by simp [dNum, dEl, htk, dS]) (by simp [dNum, dEl, htk, dS])
  ·obtain rfl : i = l.length := by omega
   refine AW_exit (hK1 _ ?_)
   have htkl : ∀ g : Ex → List D, List.take l.length (l.map g) = l.map g := fun g => List.take_of_length_le (by simp)
   refine AW.imp (Imp.freeze 300 trivial) ?_; refine AW.st (by simp [dNum, dEl, htkl]; rfl) ?_; refine AW_then fun K4 hK4 => ?_; refine rg [1, 9, 25] [] (fun _ _ => trivial) fun K' hK' => ?_; (repeat (refine sxn fun K2 hK2 => ?_; simp [dNum, dEl]; (repeat (refine ⟨by omega, ?_⟩)); refine hK2 _ ?_; clear hK2 K2)); refine sxz (hK' _ (AW.st (by simp [dNum, dEl]; rfl) ?_)); clear hK' K'
   have h1 : binS .add ⟨#[40]⟩ (bs (Lib.join (l.map fun e => wrE e k) sep)) = some (True, .string (bs (40 :: Lib.join (l.map fun e => wrE e k) sep))) := binS_bs [40] _ (by simp; omega)
   have h2 : binS .add (bs (40 :: Lib.join (l.map fun e => wrE e k) sep)) ⟨#[41]⟩ = some (True, .string (bs (40 :: (Lib.join (l.map fun e => wrE e k) sep ++ [41])))) := binS_bs (40 :: _) [41] (by simp; omega)
   cases ar with
   | true =>
    refine AW_tt rfl ?_; refine rg [8] [] (fun _ _ => trivial) fun K' hK' => ?_; (repeat (refine sxn fun K2 hK2 => ?_; simp [dNum, dEl, dS, h1, h2]; (repeat (refine ⟨by omega, ?_⟩)); refine hK2 _ ?_; clear hK2 K2)); refine sxn fun K2 hK2 => ?_; simp [dNum, dEl, dS, h1, h2]; refine callK.data (hjoin) (by simp; rfl) (by first | exact D.leGo_refl _ | simp [takeMap, List.map_map, Function.comp_def, D.le, D.le.go, D.le_refl, D.leGo_refl, dNum, dEl, dS, h1, h2]) ?_; refine hK2 _ ?_; clear hK2 K2; simp only [putd, upd_lst]; (repeat (refine sxn fun K2 hK2 => ?_; simp [dNum, dEl, dS, h1, h2]; (repeat (refine ⟨by omega, ?_⟩)); refine hK2 _ ?_; clear hK2 K2)); refine sxz (hK' _ (AW.st (by simp [dNum, dEl, dS, h1, h2]; rfl) ?_)); clear hK' K'; refine AW_ret ?_; simp [D.le, D.le.go, takeMap, dNum, dEl, dS]
   | false =>
    refine AW_ff rfl ?_; refine AW_skip (hK4 _ ?_); refine rg [8] [] (fun _ _ => trivial) fun K' hK' => ?_; (repeat (refine sxn fun K2 hK2 => ?_; simp [dNum, dEl, dS]; (repeat (refine ⟨by omega, ?_⟩)); refine hK2 _ ?_; clear hK2 K2)); refine sxn fun K2 hK2 => ?_; simp [dNum, dEl, dS]; refine callK.data (hjoin) (by simp; rfl) (by first | exact D.leGo_refl _ | simp [takeMap, List.map_map, Function.comp_def, D.le, D.le.go, D.le_refl, D.leGo_refl, dNum, dEl, dS]) ?_; refine hK2 _ ?_; clear hK2 K2; simp only [putd, upd_lst]; (repeat (refine sxn fun K2 hK2 => ?_; simp [dNum, dEl, dS]; (repeat (refine ⟨by omega, ?_⟩)); refine hK2 _ ?_; clear hK2 K2)); refine sxz (hK' _ (AW.st (by simp [dNum, dEl, dS]; rfl) ?_)); clear hK' K'; refine AW_ret ?_; simp [D.le, D.le.go, takeMap, dNum, dEl, dS]
end Go.Proofs.YtagfbbnlbncjlaaGreatDoor
namespace Go.Proofs.YtagfbbnlbncjlaaGreatDoor
open Go.Av
set_option maxHeartbeats 16000000 in
set_option maxRecDepth 100000 in
theorem write_at (G : Glob) : ∀ (n : Nat) (e : Ex), SizeOf.sizeOf e ≤ n → (wrE e 2).length ≤ 2^30 → ∀ (k : Nat), k ≤ 2 → PureC Tryz.prog G 186 [dE e, dNum k] (dS (wrE e k)) := by
 intro n
 induction n with
 | zero => intro e hsz; cases e <;> simp at hsz
 | succ n ih =>
  intro e hsz hlen k hk
  cases e with
  | cst b =>
   cases b with
   | true =>
    rw [dE]; refine PureC.of_body (tyOf_good _) Tryz.func186 rfl rfl (rs := [.tmp 4]) Tryz.results186 (by simp [Tryz.ntmps186]) fun X => ?_; simp only [Tryz.ntmps186, List.map]; refine rg [0, 1] [] (fun _ _ => trivial) fun K' hK' => ?_; (repeat (refine sxn fun K2 hK2 => ?_; simp [dNum, assertA, pairA]; (repeat (refine ⟨by omega, ?_⟩)); refine hK2 _ ?_; clear hK2 K2)); refine sxz (hK' _ (AW.st (by simp [dNum, assertA, pairA]; rfl) ?_)); clear hK' K'; refine AW_then fun K1 hK1 => ?_; refine rg [1, 12] [] (fun _ _ => trivial) fun K' hK' => ?_; (repeat (refine sxn fun K2 hK2 => ?_; simp [dNum, assertA, pairA]; (repeat (refine ⟨by omega, ?_⟩)); refine hK2 _ ?_; clear hK2 K2)); refine sxz (hK' _ (AW.st (by simp [dNum, assertA, pairA]; rfl) ?_)); clear hK' K'; refine AW_block ?_; refine rg [1, 12, 14, 15] [] (fun _ _ => trivial) fun K' hK' => ?_; (repeat (refine sxn fun K2 hK2 => ?_; simp [dNum, assertA, pairA]; (repeat (refine ⟨by omega, ?_⟩)); refine hK2 _ ?_; clear hK2 K2)); refine sxz (hK' _ (AW.st (by simp [dNum, assertA, pairA]; rfl) ?_)); clear hK' K'; refine AW_tt rfl ?_; refine rg [5] [] (fun _ _ => trivial) fun K' hK' => ?_; (repeat (refine sxn fun K2 hK2 => ?_; simp [dNum, assertA, pairA]; (repeat (refine ⟨by omega, ?_⟩)); refine hK2 _ ?_; clear hK2 K2)); refine sxz (hK' _ (AW.st (by simp [dNum, assertA, pairA]; rfl) ?_)); clear hK' K'; refine AW_then fun K2 hK2 => ?_; refine rg [16] [] (fun _ _ => trivial) fun K' hK' => ?_; (repeat (refine sxn fun K2 hK2 => ?_; simp [dNum, assertA, pairA]; (repeat (refine ⟨by omega, ?_⟩)); refine hK2 _ ?_; clear hK2 K2)); refine sxz (hK' _ (AW.st (by simp [dNum, assertA, pairA]; rfl) ?_)); clear hK' K'; refine AW_tt rfl ?_; refine rg [4] [] (fun _ _ => trivial) fun K' hK' => ?_; (repeat (refine sxn fun K2 hK2 => ?_; simp [dNum, assertA, pairA]; (repeat (refine ⟨by omega, ?_⟩)); refine hK2 _ ?_; clear hK2 K2)); refine sxz (hK' _ (AW.st (by simp [dNum, assertA, pairA]; rfl) ?_)); clear hK' K'; refine AW_ret ?_; simp [D.le, D.le.go, takeMap, dNum, assertA, pairA, wrE, dS, bs_lit]
   | false =>
    rw [dE]; refine PureC.of_body (tyOf_good _) Tryz.func186 rfl rfl (rs := [.tmp 4]) Tryz.results186 (by simp [Tryz.ntmps186]) fun X => ?_; simp only [Tryz.ntmps186, List.map]; refine rg [0, 1] [] (fun _ _ => trivial) fun K' hK' => ?_; (repeat (refine sxn fun K2 hK2 => ?_; simp [dNum, assertA, pairA]; (repeat (refine ⟨by omega, ?_⟩)); refine hK2 _ ?_; clear hK2 K2)); refine sxz (hK' _ (AW.st (by simp [dNum, assertA, pairA]; rfl) ?_)); clear hK' K'; refine AW_then fun K1 hK1 => ?_; refine rg [1, 12] [] (fun _ _ => trivial) fun K' hK' => ?_; (repeat (refine sxn fun K2 hK2 => ?_; simp [dNum, assertA, pairA]; (repeat (refine ⟨by omega, ?_⟩)); refine hK2 _ ?_; clear hK2 K2)); refine sxz (hK' _ (AW.st (by simp [dNum, assertA, pairA]; rfl) ?_)); clear hK' K'; refine AW_block ?_; refine rg [1, 12, 14, 15] [] (fun _ _ => trivial) fun K' hK' => ?_; (repeat (refine sxn fun K2 hK2 => ?_; simp [dNum, assertA, pairA]; (repeat (refine ⟨by omega, ?_⟩)); refine hK2 _ ?_; clear hK2 K2)); refine sxz (hK' _ (AW.st (by simp [dNum, assertA, pairA]; rfl) ?_)); clear hK' K'; refine AW_tt rfl ?_; refine rg [5] [] (fun _ _ => trivial) fun K' hK' => ?_; (repeat (refine sxn fun K2 hK2 => ?_; simp [dNum, assertA, pairA]; (repeat (refine ⟨by omega, ?_⟩)); refine hK2 _ ?_; clear hK2 K2)); refine sxz (hK' _ (AW.st (by simp [dNum, assertA, pairA]; rfl) ?_)); clear hK' K'; refine AW_then fun K2 hK2 => ?_; refine rg [16] [] (fun _ _ => trivial) fun K' hK' => ?_; (repeat (refine sxn fun K2 hK2 => ?_; simp [dNum, assertA, pairA]; (repeat (refine ⟨by omega, ?_⟩)); refine hK2 _ ?_; clear hK2 K2)); refine sxz (hK' _ (AW.st (by simp [dNum, assertA, pairA]; rfl) ?_)); clear hK' K'; refine AW_ff rfl ?_; refine AW_skip (hK2 _ ?_); refine rg [4] [] (fun _ _ => trivial) fun K' hK' => ?_; (repeat (refine sxn fun K2 hK2 => ?_; simp [dNum, assertA, pairA]; (repeat (refine ⟨by omega, ?_⟩)); refine hK2 _ ?_; clear hK2 K2)); refine sxz (hK' _ (AW.st (by simp [dNum, assertA, pairA]; rfl) ?_)); clear hK' K'; refine AW_ret ?_; simp [D.le, D.le.go, takeMap, dNum, assertA, pairA, wrE, dS, bs_lit]
  | bit s =>
   rw [dE]; refine PureC.of_body (tyOf_good _) Tryz.func186 rfl rfl (rs := [.tmp 4]) Tryz.results186 (by simp [Tryz.ntmps186]) fun X => ?_; simp only [Tryz.ntmps186, List.map]; refine rg [0, 1] [] (fun _ _ => trivial) fun K' hK' => ?_; (repeat (refine sxn fun K2 hK2 => ?_; simp [dNum, assertA, pairA]; (repeat (refine ⟨by omega, ?_⟩)); refine hK2 _ ?_; clear hK2 K2)); refine sxz (hK' _ (AW.st (by simp [dNum, assertA, pairA]; rfl) ?_)); clear hK' K'; refine AW_then fun K1 hK1 => ?_; refine rg [1, 12] [] (fun _ _ => trivial) fun K' hK' => ?_; (repeat (refine sxn fun K2 hK2 => ?_; simp [dNum, assertA, pairA]; (repeat (refine ⟨by omega, ?_⟩)); refine hK2 _ ?_; clear hK2 K2)); refine sxz (hK' _ (AW.st (by simp [dNum, assertA, pairA]; rfl) ?_)); clear hK' K'; refine AW_block ?_; refine rg [1, 12, 14, 15] [] (fun _ _ => trivial) fun K' hK' => ?_; (repeat (refine sxn fun K2 hK2 => ?_; simp [dNum, assertA, pairA, dS]; (repeat (refine ⟨by omega, ?_⟩)); refine hK2 _ ?_; clear hK2 K2)); refine sxz (hK' _ (AW.st (by simp [dNum, assertA, pairA, dS]; rfl) ?_)); clear hK' K'; refine AW_ff rfl ?_; refine rg [1, 12, 18, 19] [] (fun _ _ => trivial) fun K' hK' => ?_; (repeat (refine sxn fun K2 hK2 => ?_; simp [dNum, assertA, pairA, dS]; (repeat (refine ⟨by omega, ?_⟩)); refine hK2 _ ?_; clear hK2 K2)); refine sxz (hK' _ (AW.st (by simp [dNum, assertA, pairA, dS]; rfl) ?_)); clear hK' K'; refine AW_tt rfl ?_; refine rg [6] [] (fun _ _ => trivial) fun K' hK' => ?_; (repeat (refine sxn fun K2 hK2 => ?_; simp [dNum, assertA, pairA]; (repeat (refine ⟨by omega, ?_⟩)); refine hK2 _ ?_; clear hK2 K2)); refine sxz (hK' _ (AW.st (by simp [dNum, assertA, pairA]; rfl) ?_)); clear hK' K'; refine rg [4] [] (fun _ _ => trivial) fun K' hK' => ?_; (repeat (refine sxn fun K2 hK2 => ?_; simp [dNum, assertA, pairA]; (repeat (refine ⟨by omega, ?_⟩)); refine hK2 _ ?_; clear hK2 K2)); refine sxz (hK' _ (AW.st (by simp [dNum, assertA, pairA]; rfl) ?_)); clear hK' K'; refine AW_ret ?_; simp [D.le, D.le.go, takeMap, dNum, assertA, pairA, wrE, dS]
  | rise s =>
   have h1 : binS .add ⟨#[94]⟩ (bs s) = some (True, .string (bs (94 :: s))) := binS_bs [94] _ (by simp [wrE] at hlen ⊢; omega)
   rw [dE]; refine PureC.of_body (tyOf_good _) Tryz.func186 rfl rfl (rs := [.tmp 4]) Tryz.results186 (by simp [Tryz.ntmps186]) fun X => ?_; simp only [Tryz.ntmps186, List.map]; refine rg [0, 1] [] (fun _ _ => trivial) fun K' hK' => ?_; (repeat (refine sxn fun K2 hK2 => ?_; simp [dNum, assertA, pairA]; (repeat (refine ⟨by omega, ?_⟩)); refine hK2 _ ?_; clear hK2 K2)); refine sxz (hK' _ (AW.st (by simp [dNum, assertA, pairA]; rfl) ?_)); clear hK' K'; refine AW_then fun K1 hK1 => ?_; refine rg [1, 12] [] (fun _ _ => trivial) fun K' hK' => ?_; (repeat (refine sxn fun K2 hK2 => ?_; simp [dNum, assertA, pairA]; (repeat (refine ⟨by omega, ?_⟩)); refine hK2 _ ?_; clear hK2 K2)); refine sxz (hK' _ (AW.st (by simp [dNum, assertA, pairA]; rfl) ?_)); clear hK' K'; refine AW_block ?_; refine rg [1, 12, 14, 15] [] (fun _ _ => trivial) fun K' hK' => ?_; (repeat (refine sxn fun K2 hK2 => ?_; simp [dNum, assertA, pairA, dS]; (repeat (refine ⟨by omega, ?_⟩)); refine hK2 _ ?_; clear hK2 K2)); refine sxz (hK' _ (AW.st (by simp [dNum, assertA, pairA, dS]; rfl) ?_)); clear hK' K'; refine AW_ff rfl ?_; refine rg [1, 12, 18, 19] [] (fun _ _ => trivial) fun K' hK' => ?_; (repeat (refine sxn fun K2 hK2 => ?_; simp [dNum, assertA, pairA, dS]; (repeat (refine ⟨by omega, ?_⟩)); refine hK2 _ ?_; clear hK2 K2)); refine sxz (hK' _ (AW.st (by simp [dNum, assertA, pairA, dS]; rfl) ?_)); clear hK' K'; refine AW_ff rfl ?_; refine rg [1, 12, 22, 23] [] (fun _ _ => trivial) fun K' hK' => ?_; (repeat (refine sxn fun K2 hK2 => ?_; simp [dNum, assertA, pairA, dS]; (repeat (refine ⟨by omega, ?_⟩)); refine hK2 _ ?_; clear hK2 K2)); refine sxz (hK' _ (AW.st (by simp [dNum, assertA, pairA, dS]; rfl) ?_)); clear hK' K'; refine AW_tt rfl ?_; refine rg [7] [] (fun _ _ => trivial) fun K' hK' => ?_; (repeat (refine sxn fun K2 hK2 => ?_; simp [dNum, assertA, pairA]; (repeat (refine ⟨by omega, ?_⟩)); refine hK2 _ ?_; clear hK2 K2)); refine sxz (hK' _ (AW.st (by simp [dNum, assertA, pairA]; rfl) ?_)); clear hK' K'; refine rg [4] [] (fun _ _ => trivial) fun K' hK' => ?_; (repeat (refine sxn fun K2 hK2 => ?_; simp [dNum, assertA, pairA, h1]; (repeat (refine ⟨by omega, ?_⟩)); refine hK2 _ ?_; clear hK2 K2)); refine sxz (hK' _ (AW.st (by simp [dNum, assertA, pairA, h1]; rfl) ?_)); clear hK' K'; refine AW_ret ?_; simp [D.le, D.le.go, takeMap, dNum, assertA, pairA, wrE, dS]
  | fall s =>
   have h1 : binS .add ⟨#[126]⟩ (bs s) = some (True, .string (bs (126 :: s))) := binS_bs [126] _ (by simp [wrE] at hlen ⊢; omega)
   rw [dE]; refine PureC.of_body (tyOf_good _) Tryz.func186 rfl rfl (rs := [.tmp 4]) Tryz.results186 (by simp [Tryz.ntmps186]) fun X => ?_; simp only [Tryz.ntmps186, List.map]; refine rg [0, 1] [] (fun _ _ => trivial) fun K' hK' => ?_; (repeat (refine sxn fun K2 hK2 => ?_; simp [dNum, assertA, pairA]; (repeat (refine ⟨by omega, ?_⟩)); refine hK2 _ ?_; clear hK2 K2)); refine sxz (hK' _ (AW.st (by simp [dNum, assertA, pairA]; rfl) ?_)); clear hK' K'; refine AW_then fun K1 hK1 => ?_; refine rg [1, 12] [] (fun _ _ => trivial) fun K' hK' => ?_; (repeat (refine sxn fun K2 hK2 => ?_; simp [dNum, assertA, pairA]; (repeat (refine ⟨by omega, ?_⟩)); refine hK2 _ ?_; clear hK2 K2)); refine sxz (hK' _ (AW.st (by simp [dNum, assertA, pairA]; rfl) ?_)); clear hK' K'; refine AW_block ?_; refine rg [1, 12, 14, 15] [] (fun _ _ => trivial) fun K' hK' => ?_; (repeat (refine sxn fun K2 hK2 => ?_; simp [dNum, assertA, pairA, dS]; (repeat (refine ⟨by omega, ?_⟩)); refine hK2 _ ?_; clear hK2 K2)); refine sxz (hK' _ (AW.st (by simp [dNum, assertA, pairA, dS]; rfl) ?_)); clear hK' K'; refine AW_ff rfl ?_; refine rg [1, 12, 18, 19] [] (fun _ _ => trivial) fun K' hK' => ?_; (repeat (refine sxn fun K2 hK2 => ?_; simp [dNum, assertA, pairA, dS]; (repeat (refine ⟨by omega, ?_⟩)); refine hK2 _ ?_; clear hK2 K2)); refine sxz (hK' _ (AW.st (by simp [dNum, assertA, pairA, dS]; rfl) ?_)); clear hK' K'; refine AW_ff rfl ?_; refine rg [1, 12, 22, 23] [] (fun _ _ => trivial) fun K' hK' => ?_; (repeat (refine sxn fun K2 hK2 => ?_; simp [dNum, assertA, pairA, dS]; (repeat (refine ⟨by omega, ?_⟩)); refine hK2 _ ?_; clear hK2 K2)); refine sxz (hK' _ (AW.st (by simp [dNum, assertA, pairA, dS]; rfl) ?_)); clear hK' K'; refine AW_ff rfl ?_; refine rg [1, 12, 27, 28] [] (fun _ _ => trivial) fun K' hK' => ?_; (repeat (refine sxn fun K2 hK2 => ?_; simp [dNum, assertA, pairA, dS]; (repeat (refine ⟨by omega, ?_⟩)); refine hK2 _ ?_; clear hK2 K2)); refine sxz (hK' _ (AW.st (by simp [dNum, assertA, pairA, dS]; rfl) ?_)); clear hK' K'; refine AW_tt rfl ?_; refine rg [8] [] (fun _ _ => trivial) fun K' hK' => ?_; (repeat (refine sxn fun K2 hK2 => ?_; simp [dNum, assertA, pairA]; (repeat (refine ⟨by omega, ?_⟩)); refine hK2 _ ?_; clear hK2 K2)); refine sxz (hK' _ (AW.st (by simp [dNum, assertA, pairA]; rfl) ?_)); clear hK' K'; refine rg [4] [] (fun _ _ => trivial) fun K' hK' => ?_; (repeat (refine sxn fun K2 hK2 => ?_; simp [dNum, assertA, pairA, h1]; (repeat (refine ⟨by omega, ?_⟩)); refine hK2 _ ?_; clear hK2 K2)); refine sxz (hK' _ (AW.st (by simp [dNum, assertA, pairA, h1]; rfl) ?_)); clear hK' K'; refine AW_ret ?_; simp [D.le, D.le.go, takeMap, dNum, assertA, pairA, wrE, dS]
  | not x =>
   obtain ⟨tx, cx, hx⟩ := dE_ifc x
   have hc := ih x (by simp at hsz; omega) (by simp [wrE] at hlen; omega) 2 (by omega)
   have h1 : binS .add ⟨#[33]⟩ (bs (wrE x 2)) = some (True, .string (bs (33 :: wrE x 2))) := binS_bs [33] _ (by simp [wrE] at hlen ⊢; omega)
   rw [dE, hx]; rw [hx] at hc; refine PureC.of_body (tyOf_good _) Tryz.func186 rfl rfl (rs := [.tmp 4]) Tryz.results186 (by simp [Tryz.ntmps186]) fun X => ?_; simp only [Tryz.ntmps186, List.map]; refine rg [0, 1] [] (fun _ _ => trivial) fun K' hK' => ?_; (repeat (refine sxn fun K2 hK2 => ?_; simp [dNum, assertA, pairA]; (repeat (refine ⟨by omega, ?_⟩)); refine hK2 _ ?_; clear hK2 K2)); refine sxz (hK' _ (AW.st (by simp [dNum, assertA, pairA]; rfl) ?_)); clear hK' K'; refine AW_then fun K1 hK1 => ?_; refine rg [1, 12] [] (fun _ _ => trivial) fun K' hK' => ?_; (repeat (refine sxn fun K2 hK2 => ?_; simp [dNum, assertA, pairA]; (repeat (refine ⟨by omega, ?_⟩)); refine hK2 _ ?_; clear hK2 K2)); refine sxz (hK' _ (AW.st (by simp [dNum, assertA, pairA]; rfl) ?_)); clear hK' K'; refine AW_block ?_; refine rg [1, 12, 14, 15] [] (fun _ _ => trivial) fun K' hK' => ?_; (repeat (refine sxn fun K2 hK2 => ?_; simp [dNum, assertA, pairA]; (repeat (refine ⟨by omega, ?_⟩)); refine hK2 _ ?_; clear hK2 K2)); refine sxz (hK' _ (AW.st (by simp [dNum, assertA, pairA]; rfl) ?_)); clear hK' K'; refine AW_ff rfl ?_; refine rg [1, 12, 18, 19] [] (fun _ _ => trivial) fun K' hK' => ?_; (repeat (refine sxn fun K2 hK2 => ?_; simp [dNum, assertA, pairA]; (repeat (refine ⟨by omega, ?_⟩)); refine hK2 _ ?_; clear hK2 K2)); refine sxz (hK' _ (AW.st (by simp [dNum, assertA, pairA]; rfl) ?_)); clear hK' K'; refine AW_ff rfl ?_; refine rg [1, 12, 22, 23] [] (fun _ _ => trivial) fun K' hK' => ?_; (repeat (refine sxn fun K2 hK2 => ?_; simp [dNum, assertA, pairA]; (repeat (refine ⟨by omega, ?_⟩)); refine hK2 _ ?_; clear hK2 K2)); refine sxz (hK' _ (AW.st (by simp [dNum, assertA, pairA]; rfl) ?_)); clear hK' K'; refine AW_ff rfl ?_; refine rg [1, 12, 27, 28] [] (fun _ _ => trivial) fun K' hK' => ?_; (repeat (refine sxn fun K2 hK2 => ?_; simp [dNum, assertA, pairA]; (repeat (refine ⟨by omega, ?_⟩)); refine hK2 _ ?_; clear hK2 K2)); refine sxz (hK' _ (AW.st (by simp [dNum, assertA, pairA]; rfl) ?_)); clear hK' K'; refine AW_ff rfl ?_; refine rg [1, 12, 32, 33] [] (fun _ _ => trivial) fun K' hK' => ?_; (repeat (refine sxn fun K2 hK2 => ?_; simp [dNum, assertA, pairA]; (repeat (refine ⟨by omega, ?_⟩)); refine hK2 _ ?_; clear hK2 K2)); refine sxz (hK' _ (AW.st (by simp [dNum, assertA, pairA]; rfl) ?_)); clear hK' K'; refine AW_tt rfl ?_; refine rg [9] [9] (fun _ _ => trivial) fun K' hK' => ?_; (repeat (refine sxn fun K2 hK2 => ?_; simp [dNum, assertA, pairA]; (repeat (refine ⟨by omega, ?_⟩)); refine hK2 _ ?_; clear hK2 K2)); refine sxz (hK' _ (AW.st (by simp [dNum, assertA, pairA]; rfl) ?_)); clear hK' K'; refine rg [4] [] (fun _ _ => trivial) fun K' hK' => ?_; (repeat (refine sxn fun K2 hK2 => ?_; simp [dNum, assertA, pairA, dS, h1]; (repeat (refine ⟨by omega, ?_⟩)); refine hK2 _ ?_; clear hK2 K2)); refine sxn fun K2 hK2 => ?_; simp [dNum, assertA, pairA, dS, h1]; refine callK.data (hc) (by simp; rfl) (by first | exact D.leGo_refl _ | simp [takeMap, List.map_map, Function.comp_def, D.le, D.le.go, D.le_refl, D.leGo_refl, dNum, assertA, pairA, dS, h1]) ?_
   refine hK2 _ ?_; clear hK2 K2; simp only [putd, upd_lst]; (repeat (refine sxn fun K2 hK2 => ?_; simp [dNum, assertA, pairA, dS, h1]; (repeat (refine ⟨by omega, ?_⟩)); refine hK2 _ ?_; clear hK2 K2)); refine sxz (hK' _ (AW.st (by simp [dNum, assertA, pairA, dS, h1]; rfl) ?_)); clear hK' K'; refine AW_ret ?_; simp [D.le, D.le.go, takeMap, dNum, assertA, pairA, wrE, dS]
  | and l =>
   have hj : (Lib.join (l.map fun e => wrE e 2) [32, 38, 32]).length ≤ 2^30 := by
    rw [wrE, if_pos (by omega), wrL_map] at hlen; simp at hlen
    omega
   have hn := count_join (l.map fun e => wrE e 2) [32, 38, 32]
   rw [List.length_map] at hn
   have hl3 : [32, 38, 32].length = 3 := rfl
   have hch : ∀ x ∈ l, PureC Tryz.prog G 186 [dE x, dNum 2] (dS (wrE x 2)) := fun x hx => ih x (by have := List.sizeOf_lt_of_mem hx; simp only [Ex.and.sizeOf_spec] at hsz; omega) (by
     have h1 := lens_join (l.map fun e => wrE e 2) [32, 38, 32]
     have h2 := mem_lens (List.mem_map.2 ⟨x, hx, rfl⟩ : wrE x 2 ∈ l.map fun e => wrE e 2)
     omega) 2 (by omega)
   have hw := wjoin_spec G l [32, 38, 32] 2 (decide (2 ≤ k)) (by simp at hn; omega) (by omega) hch
   have e1 : wrE (.and l) k = if decide (2 ≤ k) then [40] ++ Lib.join (l.map fun e => wrE e 2) [32, 38, 32] ++ [41] else Lib.join (l.map fun e => wrE e 2) [32, 38, 32] := by
    rw [wrE, wrL_map]
    by_cases h : 2 ≤ k <;> simp [h]
   have hlit : (⟨#[32, 38, 32]⟩ : ByteArray) = bs [32, 38, 32] := rfl
   have hde : dE (.and l) = .ifc 113 (.sl none (l.map fun e => [dE e])) := by rw [dE, dEs_map]
   rw [hde, e1]; generalize (if decide (2 ≤ k) then [40] ++ Lib.join (l.map fun e => wrE e 2) [32, 38, 32] ++ [41] else Lib.join (l.map fun e => wrE e 2) [32, 38, 32]) = r at hw ⊢
   have hk2 : decide ((2 : Int) ≤ (k : Int)) = decide (2 ≤ k) := by apply decide_eq_decide.2; omega
   unfold dEl at hw; refine PureC.of_body (tyOf_good _) Tryz.func186 rfl rfl (rs := [.tmp 4]) Tryz.results186 (by simp [Tryz.ntmps186]) fun X => ?_; simp only [Tryz.ntmps186, List.map]; refine rg [0, 1] [] (fun _ _ => trivial) fun K' hK' => ?_; (repeat (refine sxn fun K2 hK2 => ?_; simp [dNum, assertA, pairA]; (repeat (refine ⟨by omega, ?_⟩)); refine hK2 _ ?_; clear hK2 K2)); refine sxz (hK' _ (AW.st (by simp [dNum, assertA, pairA]; rfl) ?_)); clear hK' K'; refine AW_then fun K1 hK1 => ?_; refine rg [1, 12] [] (fun _ _ => trivial) fun K' hK' => ?_; (repeat (refine sxn fun K2 hK2 => ?_; simp [dNum, assertA, pairA]; (repeat (refine ⟨by omega, ?_⟩)); refine hK2 _ ?_; clear hK2 K2)); refine sxz (hK' _ (AW.st (by simp [dNum, assertA, pairA]; rfl) ?_)); clear hK' K'; refine AW_block ?_; refine rg [1, 12, 14, 15] [] (fun _ _ => trivial) fun K' hK' => ?_; (repeat (refine sxn fun K2 hK2 => ?_; simp [dNum, assertA, pairA]; (repeat (refine ⟨by omega, ?_⟩)); refine hK2 _ ?_; clear hK2 K2)); refine sxz (hK' _ (AW.st (by simp [dNum, assertA, pairA]; rfl) ?_)); clear hK' K'; refine AW_ff rfl ?_; refine rg [1, 12, 18, 19] [] (fun _ _ => trivial) fun K' hK' => ?_; (repeat (refine sxn fun K2 hK2 => ?_; simp [dNum, assertA, pairA]; (repeat (refine ⟨by omega, ?_⟩)); refine hK2 _ ?_; clear hK2 K2)); refine sxz (hK' _ (AW.st (by simp [dNum, assertA, pairA]; rfl) ?_)); clear hK' K'; refine AW_ff rfl ?_; refine rg [1, 12, 22, 23] [] (fun _ _ => trivial) fun K' hK' => ?_; (repeat (refine sxn fun K2 hK2 => ?_; simp [dNum, assertA, pairA]; (repeat (refine ⟨by omega, ?_⟩)); refine hK2 _ ?_; clear hK2 K2)); refine sxz (hK' _ (AW.st (by simp [dNum, assertA, pairA]; rfl) ?_)); clear hK' K'; refine AW_ff rfl ?_; refine rg [1, 12, 27, 28] [] (fun _ _ => trivial) fun K' hK' => ?_; (repeat (refine sxn fun K2 hK2 => ?_; simp [dNum, assertA, pairA]; (repeat (refine ⟨by omega, ?_⟩)); refine hK2 _ ?_; clear hK2 K2)); refine sxz (hK' _ (AW.st (by simp [dNum, assertA, pairA]; rfl) ?_)); clear hK' K'; refine AW_ff rfl ?_; refine rg [1, 12, 32, 33] [] (fun _ _ => trivial) fun K' hK' => ?_; (repeat (refine sxn fun K2 hK2 => ?_; simp [dNum, assertA, pairA]; (repeat (refine ⟨by omega, ?_⟩)); refine hK2 _ ?_; clear hK2 K2)); refine sxz (hK' _ (AW.st (by simp [dNum, assertA, pairA]; rfl) ?_)); clear hK' K'; refine AW_ff rfl ?_; refine rg [1, 12, 39, 40] [] (fun _ _ => trivial) fun K' hK' => ?_; (repeat (refine sxn fun K2 hK2 => ?_; simp [dNum, assertA, pairA]; (repeat (refine ⟨by omega, ?_⟩)); refine hK2 _ ?_; clear hK2 K2)); refine sxz (hK' _ (AW.st (by simp [dNum, assertA, pairA]; rfl) ?_)); clear hK' K'; refine AW_tt rfl ?_; refine rg [1, 10] [] (fun _ _ => trivial) fun K' hK' => ?_; (repeat (refine sxn fun K2 hK2 => ?_; simp [dNum, assertA, pairA]; (repeat (refine ⟨by omega, ?_⟩)); refine hK2 _ ?_; clear hK2 K2)); refine sxz (hK' _ (AW.st (by simp [dNum, assertA, pairA]; rfl) ?_)); clear hK' K'; refine rg [4] [] (fun _ _ => trivial) fun K' hK' => ?_; repeat (refine sxn fun K2 hK2 => ?_; simp [dNum, assertA, pairA, dS, hlit, hk2]; (repeat (refine ⟨by omega, ?_⟩)); refine hK2 _ ?_; clear hK2 K2)
   refine sxn fun K2 hK2 => ?_; simp [dNum, assertA, pairA, dS, hlit, hk2]; refine callK.data (hw) (by simp; rfl) (by first | exact D.leGo_refl _ | simp [takeMap, List.map_map, Function.comp_def, D.le, D.le.go, D.le_refl, D.leGo_refl, dNum, assertA, pairA, dS, hlit, hk2]) ?_; refine hK2 _ ?_; clear hK2 K2; simp only [putd, upd_lst]; (repeat (refine sxn fun K2 hK2 => ?_; simp [dNum, assertA, pairA, dS, hlit, hk2]; (repeat (refine ⟨by omega, ?_⟩)); refine hK2 _ ?_; clear hK2 K2)); refine sxz (hK' _ (AW.st (by simp [dNum, assertA, pairA, dS, hlit, hk2]; rfl) ?_)); clear hK' K'; refine AW_ret ?_; simp [D.le, D.le.go, takeMap, dNum, assertA, pairA, dS]
  | or l =>
   have hj : (Lib.join (l.map fun e => wrE e 1) [32, 124, 32]).length ≤ 2^30 := by
    rw [wrE, if_pos (by omega), wrL_map] at hlen; simp at hlen
    omega
   have hn := count_join (l.map fun e => wrE e 1) [32, 124, 32]
   rw [List.length_map] at hn
   have hl3 : [32, 124, 32].length = 3 := rfl
   have hch : ∀ x ∈ l, PureC Tryz.prog G 186 [dE x, dNum 1] (dS (wrE x 1)) := fun x hx => ih x (by have := List.sizeOf_lt_of_mem hx; simp only [Ex.or.sizeOf_spec] at hsz; omega) (by
     have h1 := lens_join (l.map fun e => wrE e 1) [32, 124, 32]
     have h2 := mem_lens (List.mem_map.2 ⟨x, hx, rfl⟩ : wrE x 1 ∈ l.map fun e => wrE e 1)
     have h3 := (wr_two x 1).2
     have h4 : (Lib.join (l.map fun e => wrE e 1) [32, 124, 32]).length + 2 ≤ 2^30 := by
      rw [wrE, if_pos (by omega), wrL_map] at hlen; simp at hlen
      omega
     omega) 1 (by omega)
   have hw := wjoin_spec G l [32, 124, 32] 1 (decide (1 ≤ k)) (by simp at hn; omega) (by omega) hch
   have e1 : wrE (.or l) k = if decide (1 ≤ k) then [40] ++ Lib.join (l.map fun e => wrE e 1) [32, 124, 32] ++ [41] else Lib.join (l.map fun e => wrE e 1) [32, 124, 32] := by
    rw [wrE, wrL_map]
    by_cases h : 1 ≤ k <;> simp [h]
   have hlit : (⟨#[32, 124, 32]⟩ : ByteArray) = bs [32, 124, 32] := rfl
   have hde : dE (.or l) = .ifc 116 (.sl none (l.map fun e => [dE e])) := by rw [dE, dEs_map]
   rw [hde, e1]; generalize (if decide (1 ≤ k) then [40] ++ Lib.join (l.map fun e => wrE e 1) [32, 124, 32] ++ [41] else Lib.join (l.map fun e => wrE e 1) [32, 124, 32]) = r at hw ⊢
   have hk2 : decide ((1 : Int) ≤ (k : Int)) = decide (1 ≤ k) := by apply decide_eq_decide.2; omega
   unfold dEl at hw; refine PureC.of_body (tyOf_good _) Tryz.func186 rfl rfl (rs := [.tmp 4]) Tryz.results186 (by simp [Tryz.ntmps186]) fun X => ?_; simp only [Tryz.ntmps186, List.map]; refine rg [0, 1] [] (fun _ _ => trivial) fun K' hK' => ?_; (repeat (refine sxn fun K2 hK2 => ?_; simp [dNum, assertA, pairA]; (repeat (refine ⟨by omega, ?_⟩)); refine hK2 _ ?_; clear hK2 K2)); refine sxz (hK' _ (AW.st (by simp [dNum, assertA, pairA]; rfl) ?_)); clear hK' K'; refine AW_then fun K1 hK1 => ?_; refine rg [1, 12] [] (fun _ _ => trivial) fun K' hK' => ?_; (repeat (refine sxn fun K2 hK2 => ?_; simp [dNum, assertA, pairA]; (repeat (refine ⟨by omega, ?_⟩)); refine hK2 _ ?_; clear hK2 K2)); refine sxz (hK' _ (AW.st (by simp [dNum, assertA, pairA]; rfl) ?_)); clear hK' K'; refine AW_block ?_; refine rg [1, 12, 14, 15] [] (fun _ _ => trivial) fun K' hK' => ?_; (repeat (refine sxn fun K2 hK2 => ?_; simp [dNum, assertA, pairA]; (repeat (refine ⟨by omega, ?_⟩)); refine hK2 _ ?_; clear hK2 K2)); refine sxz (hK' _ (AW.st (by simp [dNum, assertA, pairA]; rfl) ?_)); clear hK' K'; refine AW_ff rfl ?_; refine rg [1, 12, 18, 19] [] (fun _ _ => trivial) fun K' hK' => ?_; (repeat (refine sxn fun K2 hK2 => ?_; simp [dNum, assertA, pairA]; (repeat (refine ⟨by omega, ?_⟩)); refine hK2 _ ?_; clear hK2 K2)); refine sxz (hK' _ (AW.st (by simp [dNum, assertA, pairA]; rfl) ?_)); clear hK' K'; refine AW_ff rfl ?_; refine rg [1, 12, 22, 23] [] (fun _ _ => trivial) fun K' hK' => ?_; (repeat (refine sxn fun K2 hK2 => ?_; simp [dNum, assertA, pairA]; (repeat (refine ⟨by omega, ?_⟩)); refine hK2 _ ?_; clear hK2 K2)); refine sxz (hK' _ (AW.st (by simp [dNum, assertA, pairA]; rfl) ?_)); clear hK' K'; refine AW_ff rfl ?_; refine rg [1, 12, 27, 28] [] (fun _ _ => trivial) fun K' hK' => ?_; (repeat (refine sxn fun K2 hK2 => ?_; simp [dNum, assertA, pairA]; (repeat (refine ⟨by omega, ?_⟩)); refine hK2 _ ?_; clear hK2 K2)); refine sxz (hK' _ (AW.st (by simp [dNum, assertA, pairA]; rfl) ?_)); clear hK' K'; refine AW_ff rfl ?_; refine rg [1, 12, 32, 33] [] (fun _ _ => trivial) fun K' hK' => ?_; (repeat (refine sxn fun K2 hK2 => ?_; simp [dNum, assertA, pairA]; (repeat (refine ⟨by omega, ?_⟩)); refine hK2 _ ?_; clear hK2 K2)); refine sxz (hK' _ (AW.st (by simp [dNum, assertA, pairA]; rfl) ?_)); clear hK' K'; refine AW_ff rfl ?_; refine rg [1, 12, 39, 40] [] (fun _ _ => trivial) fun K' hK' => ?_; (repeat (refine sxn fun K2 hK2 => ?_; simp [dNum, assertA, pairA]; (repeat (refine ⟨by omega, ?_⟩)); refine hK2 _ ?_; clear hK2 K2)); refine sxz (hK' _ (AW.st (by simp [dNum, assertA, pairA]; rfl) ?_)); clear hK' K'; refine AW_ff rfl ?_; refine rg [1, 46, 47] [] (fun _ _ => trivial) fun K' hK' => ?_; (repeat (refine sxn fun K2 hK2 => ?_; simp [dNum, assertA, pairA]; (repeat (refine ⟨by omega, ?_⟩)); refine hK2 _ ?_; clear hK2 K2)); refine sxz (hK' _ (AW.st (by simp [dNum, assertA, pairA]; rfl) ?_)); clear hK' K'; refine AW_tt rfl ?_; refine rg [1, 11] [] (fun _ _ => trivial) fun K' hK' => ?_; repeat (refine sxn fun K2 hK2 => ?_; simp [dNum, assertA, pairA]; (repeat (refine ⟨by omega, ?_⟩)); refine hK2 _ ?_; clear hK2 K2)
   refine sxz (hK' _ (AW.st (by simp [dNum, assertA, pairA]; rfl) ?_)); clear hK' K'; refine rg [4] [] (fun _ _ => trivial) fun K' hK' => ?_; (repeat (refine sxn fun K2 hK2 => ?_; simp [dNum, assertA, pairA, dS, hlit, hk2]; (repeat (refine ⟨by omega, ?_⟩)); refine hK2 _ ?_; clear hK2 K2)); refine sxn fun K2 hK2 => ?_; simp [dNum, assertA, pairA, dS, hlit, hk2]; refine callK.data (hw) (by simp; rfl) (by first | exact D.leGo_refl _ | simp [takeMap, List.map_map, Function.comp_def, D.le, D.le.go, D.le_refl, D.leGo_refl, dNum, assertA, pairA, dS, hlit, hk2]) ?_; refine hK2 _ ?_; clear hK2 K2; simp only [putd, upd_lst]; (repeat (refine sxn fun K2 hK2 => ?_; simp [dNum, assertA, pairA, dS, hlit, hk2]; (repeat (refine ⟨by omega, ?_⟩)); refine hK2 _ ?_; clear hK2 K2)); refine sxz (hK' _ (AW.st (by simp [dNum, assertA, pairA, dS, hlit, hk2]; rfl) ?_)); clear hK' K'; refine AW_ret ?_; simp [D.le, D.le.go, takeMap, dNum, assertA, pairA, dS]
theorem write_spec (G : Glob) (e : Ex) (hlen : (wrE e 2).length ≤ 2^30) (k : Nat) (hk : k ≤ 2) : PureC Tryz.prog G 186 [dE e, dNum k] (dS (wrE e k)) := write_at G _ e (Nat.le_refl _) hlen k hk
end Go.Proofs.YtagfbbnlbncjlaaGreatDoor
namespace Go.Proofs.YtagfbbnlbncjlaaGreatDoor
def szE (e : Ex) : Nat := (wrE e 2).length
def sumE : List Ex → Nat
 | [] => 0
 | e :: l => szE e + sumE l
theorem join_le (sep : List UInt8) (k : Nat) : ∀ (l : List Ex), (Lib.join (l.map fun e => wrE e k) sep).length ≤ sumE l + sep.length * (l.length - 1)
 | [] => by simp [Lib.join]
 | e :: l => by
  have hsum : ∀ (l : List Ex), Lib.lens (l.map fun e => wrE e k) ≤ sumE l := by
   intro l
   induction l with
   | nil => simp [Lib.lens, sumE]
   | cons e l ih =>
    have := (wr_two e k).1
    rw [List.map_cons, Xlens_cons, sumE]; unfold szE
    omega
  have h1 := hsum (e :: l)
  rw [List.map_cons, Lib.join_length, Xlens_cons]; rw [List.map_cons, Xlens_cons] at h1; simp only [List.length_map, List.length_cons, Nat.add_sub_cancel]
  omega
def Five {α : Type} (sz : α → Nat) (t : List UInt8) (f : Nat → Rs α) : Prop := ∀ i x j, i ≤ t.length → f i = .ok x j → sz x ≤ 5 * (j - i)
end Go.Proofs.YtagfbbnlbncjlaaGreatDoor
namespace Go.Proofs.YtagfbbnlbncjlaaGreatDoor
def Has (t : List UInt8) (p : Nat) (w : List UInt8) : Prop := ∀ k, k < w.length → t[p + k]? = w[k]?
theorem Has.cons {t : List UInt8} {p : Nat} {c : UInt8} {w : List UInt8} (h : Has t p (c :: w)) : t[p]? = some c ∧ Has t (p + 1) w := by
 refine ⟨by simpa using h 0 (by simp), fun k hk => ?_⟩
 have := h (k + 1) (by simp; omega)
 rw [show p + 1 + k = p + (k + 1) by omega, this]
 rfl
theorem Has.app {t : List UInt8} {p : Nat} {u v : List UInt8} (h : Has t p (u ++ v)) : Has t p u ∧ Has t (p + u.length) v := by
 constructor
 ·intro k hk
  rw [h k (by simp; omega), List.getElem?_append_left hk]
 ·intro k hk
  rw [show p + u.length + k = p + (u.length + k) by omega, h (u.length + k) (by simp; omega), List.getElem?_append_right (by omega)]
  congr 1
  omega
theorem Has.top {t : List UInt8} {p : Nat} {w : List UInt8} (h : Has t p w) (hp : p ≤ t.length) : p + w.length ≤ t.length := by
 cases w with
 | nil => simpa using hp
 | cons c w =>
  have h1 := h w.length (by simp)
  have h2 : (c :: w)[w.length]? ≠ none := by simp
  rw [← h1] at h2
  have h3 : p + w.length < t.length := by
   apply Classical.byContradiction
   intro hn
   exact h2 (List.getElem?_eq_none (by omega))
  simp only [List.length_cons]
  omega
theorem has_self (t : List UInt8) : Has t 0 t := fun k hk => by simp
theorem name_facts {s : List UInt8} (h : nameF s = true) : s ≠ [] ∧ s.length ≤ 8 ∧ (∀ c ∈ s, isSgn c = false) ∧ ∀ c, s[0]? = some c → isSgn c = false ∧ c ≠ 48 ∧ c ≠ 49 ∧ 97 ≤ c.toNat := by
 unfold nameF at h; simp only [Bool.and_eq_true, decide_eq_true_eq, trim_nil] at h
 obtain ⟨h1, h2, h3, h4, h5, -⟩ := h
 have hs : ∀ c : UInt8, cutL.contains c = true → isSgn c = false := by
  have h : ∀ n : Fin 256, cutL.contains (UInt8.ofNat n) = true → isSgn (UInt8.ofNat n) = false := by decide +kernel
  intro c
  have := h ⟨c.toNat, c.toNat_lt⟩
  simpa using this
 refine ⟨h1, h2, fun c hc => hs c (h5 c hc), fun c hc => ?_⟩
 have hm : c ∈ s := List.mem_of_getElem? hc
 have hg : s.getD 0 0 = c := by rw [List.getD_eq_getElem?_getD, hc]; rfl
 rw [hg] at h3; refine ⟨hs c (h5 c hm), ?_, ?_, h3⟩ <;> rintro rfl <;> revert h3 <;> decide
def StopAt (t : List UInt8) (e : Nat) : Prop := ∀ c, t[e]? = some c → isSgn c = true
theorem tail_run {t : List UInt8} : ∀ (w : List UInt8) (k : Nat), Has t k w → (∀ c ∈ w, isSgn c = false) → StopAt t (k + w.length) → tailEnd t k = k + w.length
 | [], k, _, _, hs => by
  rw [tail_stop fun hk => hs _ (by simp [List.getElem?_eq_getElem hk])]
  rfl
 | c :: w, k, h, hw, hs => by
  obtain ⟨h1, h2⟩ := h.cons
  obtain ⟨hk, he⟩ := List.getElem?_eq_some_iff.1 h1
  rw [tail_step hk (by rw [he]; exact hw c (by simp)), tail_run w (k + 1) h2 (fun c hc => hw c (by simp [hc])) (by rw [show k + 1 + w.length = k + (c :: w).length by simp; omega]; exact hs)]; simp
  omega
theorem word_back {t s : List UInt8} {q i : Nat} (hn : nameF s = true) (h : Has t (skipB t i) s) (hs : StopAt t (skipB t i + s.length)) : wordR t q i = .ok s (skipB t i + s.length) := by
 obtain ⟨h1, h2, h3, h4⟩ := name_facts hn
 unfold wordR; generalize skipB t i = p at *
 have hw : wEnd t p = p + s.length := by
  cases s with
  | nil => exact absurd rfl h1
  | cons c w =>
   obtain ⟨g1, g2⟩ := h.cons
   obtain ⟨f1, f2, f3, f4⟩ := h4 c rfl
   have ho : headOk t p = true := by
    unfold headOk; rw [g1]; simp [f1, f2, f3]
   unfold wEnd; rw [ho, if_pos rfl, tail_run w (p + 1) g2 (fun c hc => h3 c (by simp [hc])) (by rw [show p + 1 + w.length = p + (c :: w).length by simp; omega]; exact hs)]; simp
   omega
 have hws : wordS t p = s := by
  unfold wordS; rw [hw]
  apply List.ext_getElem?
  intro k
  rw [show p + s.length - p = s.length by omega, List.getElem?_take]
  split
  ·rename_i hk
   rw [List.getElem?_drop, h k hk]
  ·rw [List.getElem?_eq_none (by omega)]
 rw [hws, if_neg h1, if_neg (by rw [hn]; simp), hw]
mutual
def WfE : Ex → Prop
 | .cst _ => True
 | .bit s => nameF s = true
 | .rise s => nameF s = true
 | .fall s => nameF s = true
 | .not e => WfE e
 | .and l => 2 ≤ l.length ∧ WfEs l
 | .or l => 2 ≤ l.length ∧ WfEs l
def WfEs : List Ex → Prop
 | [] => True
 | e :: l => WfE e ∧ WfEs l
end
theorem WfEs_iff : ∀ l : List Ex, WfEs l ↔ ∀ e ∈ l, WfE e
 | [] => by simp [WfEs]
 | e :: l => by simp [WfEs, WfEs_iff l]
mutual
def dpE : Ex → Nat
 | .cst _ => 1
 | .bit _ => 1
 | .rise _ => 1
 | .fall _ => 1
 | .not e => dpE e + 1
 | .and l => dpA l + 1
 | .or l => dpO l + 1
def dpA : List Ex → Nat
 | [] => 0
 | e :: l => max (dpE e) (dpA l)
def dpO : List Ex → Nat
 | [] => 0
 | e :: l => max (match e with | .and m => dpA m | e => dpE e) (dpO l)
end
def dpI : Ex → Nat
 | .and l => dpA l
 | .or l => dpO l
 | e => dpE e
def dpJ : Ex → Nat
 | .and l => dpA l
 | e => dpE e
theorem dpO_cons (e : Ex) (l : List Ex) : dpO (e :: l) = max (dpJ e) (dpO l) := by
 cases e <;> simp [dpO, dpJ]
theorem dpA_mem {x : Ex} : ∀ {l : List Ex}, x ∈ l → dpE x ≤ dpA l
 | e :: l, h => by
  rw [dpA]
  rcases List.mem_cons.1 h with rfl | h
  ·omega
  ·have := dpA_mem h; omega
theorem dpO_mem {x : Ex} : ∀ {l : List Ex}, x ∈ l → dpJ x ≤ dpO l
 | e :: l, h => by
  rw [dpO_cons]
  rcases List.mem_cons.1 h with rfl | h
  ·omega
  ·have := dpO_mem h; omega
theorem dpJ_le (e : Ex) : dpJ e ≤ dpE e := by cases e <;> simp [dpJ, dpE]
theorem dpI_le (e : Ex) : dpI e ≤ dpJ e := by
 cases e <;> simp [dpI, dpJ, dpE]
theorem dpE_le (e : Ex) : dpE e ≤ dpI e + 1 := by
 cases e <;> simp [dpI, dpE]
theorem wr_head : ∀ (e : Ex) (k : Nat), WfE e → ∃ c r, wrE e k = c :: r ∧ c ≠ 32
 | .cst b, k, _ => by cases b <;> exact ⟨_, _, rfl, by decide⟩
 | .bit s, k, h => by
  obtain ⟨h1, h2, h3, h4⟩ := name_facts h
  cases s with
  | nil => exact absurd rfl h1
  | cons c r => exact ⟨c, r, rfl, by rintro rfl; have := (h4 32 rfl).1; revert this; decide⟩
 | .rise s, k, _ => ⟨_, _, rfl, by decide⟩
 | .fall s, k, _ => ⟨_, _, rfl, by decide⟩
 | .not e, k, _ => ⟨_, _, rfl, by decide⟩
 | .and l, k, h => by
  rw [wrE]
  split
  ·exact ⟨40, _, rfl, by decide⟩
  ·obtain ⟨h1, h2⟩ := h
   match l, h1, h2 with
   | x :: l, _, h2 =>
    obtain ⟨c, r, he, hc⟩ := wr_head x 2 h2.1
    rw [wrL, Lib.join_cons, he]; exact ⟨c, _, rfl, hc⟩
 | .or l, k, h => by
  rw [wrE]
  split
  ·exact ⟨40, _, rfl, by decide⟩
  ·obtain ⟨h1, h2⟩ := h
   match l, h1, h2 with
   | x :: l, _, h2 =>
    obtain ⟨c, r, he, hc⟩ := wr_head x 1 h2.1
    rw [wrL, Lib.join_cons, he]; exact ⟨c, _, rfl, hc⟩
theorem skip_at {t : List UInt8} {p : Nat} {w : List UInt8} (h : Has t p w) (hw : ∃ c r, w = c :: r ∧ c ≠ 32) : skipB t p = p := by
 obtain ⟨c, r, rfl, hc⟩ := hw
 exact skipB_stop (by rw [h.cons.1]; intro e; exact hc (Option.some.inj e))
theorem sev_back {t : List UInt8} {s : UInt8} (hs : s ≠ 32) {f : Nat → Rs Ex} (hg : Goes t f) (k : Nat) (Q : Nat → Prop) (L : List Ex) (hL : ∀ y ∈ L, WfE y)
  (hQ : ∀ e, t[e]? = some 32 → t[e + 1]? = some s → skipB t e = e + 1 → Q e)
  (hf : ∀ y ∈ L, ∀ i, i ≤ t.length → Has t (skipB t i) (wrE y k) → Q (skipB t i + (wrE y k).length) → ∃ j, f i = .ok y j ∧ skipB t j = skipB t (skipB t i + (wrE y k).length)) :
  ∀ (l : List Ex) (x : Ex), (∀ y ∈ x :: l, y ∈ L) → ∀ (i : Nat) (acc : List Ex), i ≤ t.length → Has t (skipB t i) (wrE x k ++ Lib.joinTail [32, s, 32] (l.map fun e => wrE e k)) →
   Q (skipB t i + (wrE x k ++ Lib.joinTail [32, s, 32] (l.map fun e => wrE e k)).length) → t[skipB t (skipB t i + (wrE x k ++ Lib.joinTail [32, s, 32] (l.map fun e => wrE e k)).length)]? ≠ some s →
   sevA t s f i acc = .ok (acc ++ x :: l) (skipB t (skipB t i + (wrE x k ++ Lib.joinTail [32, s, 32] (l.map fun e => wrE e k)).length)) := by
 intro l
 induction l with
 | nil =>
  intro x hx i acc hi hh hq hn
  simp only [List.map_nil, Lib.joinTail, List.flatten_nil, List.append_nil] at hh hq hn ⊢
  obtain ⟨j, hj, hsk⟩ := hf x (hx x (by simp)) i hi hh hq
  rw [sev_step hg hi, hj]
  dsimp only
  unfold takeM; rw [hsk, if_neg hn]; simp
 | cons y l ih =>
  intro x hx i acc hi hh hq hn
  have ej : Lib.joinTail [32, s, 32] ((y :: l).map fun e => wrE e k) = 32 :: s :: 32 :: (wrE y k ++ Lib.joinTail [32, s, 32] (l.map fun e => wrE e k)) := by
   simp [Lib.joinTail]
  rw [ej] at hh hq hn ⊢
  have htop := skipB_top hi
  obtain ⟨h1, h2⟩ := hh.app
  have hx1 := h1.top htop
  generalize hE : skipB t i + (wrE x k).length = e1 at h2 hx1
  obtain ⟨g1, h2⟩ := h2.cons
  obtain ⟨g2, h2⟩ := h2.cons
  obtain ⟨g3, h2⟩ := h2.cons
  have k1 : skipB t e1 = e1 + 1 := by
   rw [skipB_blank g1, skipB_stop]; rw [g2]; intro h; exact hs (Option.some.inj h)
  obtain ⟨j, hj, hsk⟩ := hf x (hx x (by simp)) i hi h1 (by rw [hE]; exact hQ e1 g1 g2 k1)
  rw [hE, k1] at hsk
  have ht : takeM t s j = (true, e1 + 2) := by
   unfold takeM; rw [hsk, if_pos g2]
  have k2 : skipB t (e1 + 2) = e1 + 3 := by
   rw [skipB_blank g3]
   exact skip_at h2 (by
    obtain ⟨c, r, he, hc⟩ := wr_head y k (hL y (hx y (by simp)))
    exact ⟨c, _, by rw [he]; rfl, hc⟩)
  have hlen : e1 + 2 ≤ t.length := by
   obtain ⟨h, _⟩ := List.getElem?_eq_some_iff.1 g3
   omega
  have hend : skipB t i + (wrE x k ++ 32 :: s :: 32 :: (wrE y k ++ Lib.joinTail [32, s, 32] (l.map fun e => wrE e k))).length = skipB t (e1 + 2) + (wrE y k ++ Lib.joinTail [32, s, 32] (l.map fun e => wrE e k)).length := by
   rw [k2, List.length_append]; simp only [List.length_cons]
   omega
  rw [hend] at hq hn ⊢
  have := ih y (fun z hz => hx z (List.mem_cons_of_mem x hz)) (e1 + 2) (acc ++ [x]) hlen (by rw [k2]; exact h2) hq hn
  rw [sev_step hg hi, hj]
  dsimp only
  rw [ht]; simp only [if_true]; rw [this]; simp
def OneB (t : List UInt8) (d : Nat) (e : Ex) : Prop := ∀ i, i ≤ t.length → Has t (skipB t i) (wrE e 2) → StopAt t (skipB t i + (wrE e 2).length) → oneR t d i = .ok e (skipB t i + (wrE e 2).length)
def AndB (t : List UInt8) (d : Nat) (e : Ex) : Prop := ∀ i, i ≤ t.length → Has t (skipB t i) (wrE e 1) → StopAt t (skipB t i + (wrE e 1).length) → t[skipB t (skipB t i + (wrE e 1).length)]? ≠ some 38 → andR t (oneR t d) i = .ok e (skipB t (skipB t i + (wrE e 1).length))
def OrB (t : List UInt8) (d : Nat) (e : Ex) : Prop := ∀ i, i ≤ t.length → Has t (skipB t i) (wrE e 0) → StopAt t (skipB t i + (wrE e 0).length) → t[skipB t (skipB t i + (wrE e 0).length)]? ≠ some 38 → t[skipB t (skipB t i + (wrE e 0).length)]? ≠ some 124 → orR t (oneR t d) i = .ok e (skipB t (skipB t i + (wrE e 0).length))
theorem andB_and {t : List UInt8} {d : Nat} {l : List Ex} (hw : WfE (.and l)) (h : ∀ y ∈ l, OneB t d y) : AndB t d (.and l) := by
 intro i hi hh hst hn
 obtain ⟨h2, hws⟩ := hw
 match l, h2 with
 | x :: l, h2 =>
  have e1 : wrE (.and (x :: l)) 1 = wrE x 2 ++ Lib.joinTail [32, 38, 32] (l.map fun e => wrE e 2) := by
   rw [wrE, if_neg (by omega), wrL_map, List.map_cons, Lib.join_cons]
  rw [e1] at hh hst hn ⊢
  have := sev_back (s := 38) (by decide) (one_goes t d) 2 (StopAt t) (x :: l) ((WfEs_iff _).1 hws) (fun e h1 _ _ c hc => by rw [h1] at hc; obtain rfl := Option.some.inj hc; rfl)
   (fun y hy i hi hh hs => ⟨_, h y hy i hi hh hs, rfl⟩) l x (fun y hy => hy) i [] hi hh hst hn
  show (sevA t 38 (oneR t d) i []).map colA = _
  rw [this]
  show Rs.ok (colA ([] ++ x :: l)) _ = _
  rw [List.nil_append, colA_ne (by simp only [List.length_cons] at h2 ⊢; omega)]
theorem andB_one {t : List UInt8} {d : Nat} {e : Ex} (hw : WfE e) (h12 : wrE e 1 = wrE e 2) (h : OneB t d e) : AndB t d e := by
 intro i hi hh hst hn
 rw [h12] at hh hst hn ⊢
 have := sev_back (s := 38) (by decide) (one_goes t d) 2 (StopAt t) [e] (fun y hy => by simp at hy; subst hy; exact hw) (fun e h1 _ _ c hc => by rw [h1] at hc; obtain rfl := Option.some.inj hc; rfl)
  (fun y hy i2 hi2 hh2 hs2 => ⟨_, by have hy2 := List.mem_singleton.1 hy; subst hy2; exact h i2 hi2 hh2 hs2, rfl⟩) [] e (fun y hy => hy) i [] hi (by simpa [Lib.joinTail] using hh) (by simpa [Lib.joinTail] using hst) (by simpa [Lib.joinTail] using hn)
 show (sevA t 38 (oneR t d) i []).map colA = _
 rw [this]; simp [Rs.map, colA, Lib.joinTail]
theorem orB_or {t : List UInt8} {d : Nat} {l : List Ex} (hw : WfE (.or l)) (h : ∀ y ∈ l, AndB t d y) : OrB t d (.or l) := by
 intro i hi hh hst hn1 hn2
 obtain ⟨h2, hws⟩ := hw
 match l, h2 with
 | x :: l, h2 =>
  have e1 : wrE (.or (x :: l)) 0 = wrE x 1 ++ Lib.joinTail [32, 124, 32] (l.map fun e => wrE e 1) := by
   rw [wrE, if_neg (by omega), wrL_map, List.map_cons, Lib.join_cons]
  rw [e1] at hh hst hn1 hn2 ⊢
  have := sev_back (s := 124) (by decide) (and_goes (one_goes t d)) 1 (fun e => StopAt t e ∧ t[skipB t e]? ≠ some 38) (x :: l) ((WfEs_iff _).1 hws)
   (fun e h1 h2 h3 => ⟨fun c hc => by rw [h1] at hc; obtain rfl := Option.some.inj hc; rfl, by rw [h3, h2]; decide⟩)
   (fun y hy i hi hh hs => ⟨_, h y hy i hi hh hs.1 hs.2, skipB_idem (hh.top (skipB_top hi))⟩) l x (fun y hy => hy) i [] hi hh ⟨hst, hn1⟩ hn2
  show (sevA t 124 (andR t (oneR t d)) i []).map colO = _
  rw [this]
  show Rs.ok (colO ([] ++ x :: l)) _ = _
  rw [List.nil_append, colO_ne (by simp only [List.length_cons] at h2 ⊢; omega)]
theorem orB_one {t : List UInt8} {d : Nat} {e : Ex} (hw : WfE e) (h01 : wrE e 0 = wrE e 1) (h : AndB t d e) : OrB t d e := by
 intro i hi hh hst hn1 hn2
 rw [h01] at hh hst hn1 hn2 ⊢
 have := sev_back (s := 124) (by decide) (and_goes (one_goes t d)) 1 (fun e => StopAt t e ∧ t[skipB t e]? ≠ some 38) [e] (fun y hy => by simp at hy; subst hy; exact hw)
  (fun e h1 h2 h3 => ⟨fun c hc => by rw [h1] at hc; obtain rfl := Option.some.inj hc; rfl, by rw [h3, h2]; decide⟩)
  (fun y hy i2 hi2 hh2 hs2 => ⟨_, by have hy2 := List.mem_singleton.1 hy; subst hy2; exact h i2 hi2 hh2 hs2.1 hs2.2, skipB_idem (hh2.top (skipB_top hi2))⟩) [] e (fun y hy => hy) i [] hi (by simpa [Lib.joinTail] using hh) ⟨by simpa [Lib.joinTail] using hst, by simpa [Lib.joinTail] using hn1⟩ (by simpa [Lib.joinTail] using hn2)
 show (sevA t 124 (andR t (oneR t d)) i []).map colO = _
 rw [this]; simp [Rs.map, colO, Lib.joinTail]
theorem oneB_par {t : List UInt8} {d : Nat} {e : Ex} (hw : WfE e) (h2 : wrE e 2 = 40 :: (wrE e 0 ++ [41])) (h : OrB t d e) : OneB t (d + 1) e := by
 intro i hi hh hst
 rw [h2] at hh hst ⊢
 have htop := skipB_top hi
 generalize hp : skipB t i = p at *
 obtain ⟨g1, hh⟩ := hh.cons
 obtain ⟨g2, g3⟩ := hh.app
 have hpl : p + 1 ≤ t.length := (List.getElem?_eq_some_iff.1 g1).1
 have k1 : skipB t (p + 1) = p + 1 := skip_at g2 (wr_head e 0 hw)
 have g4 := g3.cons.1
 have k2 : skipB t (p + 1 + (wrE e 0).length) = p + 1 + (wrE e 0).length := skipB_stop (by rw [g4]; decide)
 have := h (p + 1) hpl (by rw [k1]; exact g2) (by rw [k1]; intro c hc; rw [g4] at hc; obtain rfl := Option.some.inj hc; rfl) (by rw [k1, k2, g4]; decide) (by rw [k1, k2, g4]; decide)
 rw [k1, k2] at this
 have ht : takeM t 41 (p + 1 + (wrE e 0).length) = (true, p + 1 + (wrE e 0).length + 1) := by
  unfold takeM; rw [k2, if_pos g4]
 rw [oneR, hp, if_neg (by rw [g1]; decide), if_pos g1, this]
 dsimp only
 rw [ht]; simp
 omega
theorem one_back {t : List UInt8} : ∀ (n : Nat) (e : Ex), SizeOf.sizeOf e ≤ n → WfE e → ∀ d, dpE e ≤ d → OneB t d e
 | 0, e, hn, _, _, _ => by cases e <;> simp at hn
 | n + 1, e, hn, hw, d, hd => by
  have key : ∀ b : Bool, ∀ (p : Nat), t[p]? = some (if b then 49 else 48) → skipB t p = p := fun b p h => skipB_stop (by rw [h]; cases b <;> decide)
  cases e with
  | cst b =>
   obtain ⟨d, rfl⟩ : ∃ d', d = d' + 1 := ⟨d - 1, by simp only [dpE] at hd; omega⟩
   intro i hi hh hst
   cases b with
   | true =>
    have g : t[skipB t i]? = some 49 := (show Has t (skipB t i) (_ :: _) from hh).cons.1
    rw [oneR, if_neg (by rw [g]; decide), if_neg (by rw [g]; decide), if_neg (by rw [g]; decide), if_pos g]; simp [wrE]
   | false =>
    have g : t[skipB t i]? = some 48 := (show Has t (skipB t i) (_ :: _) from hh).cons.1
    rw [oneR, if_neg (by rw [g]; decide), if_neg (by rw [g]; decide), if_pos g]; simp [wrE]
  | bit s =>
   obtain ⟨d, rfl⟩ : ∃ d', d = d' + 1 := ⟨d - 1, by simp only [dpE] at hd; omega⟩
   intro i hi hh hst
   rw [wrE] at hh hst ⊢
   obtain ⟨n1, n2, n3, n4⟩ := name_facts hw
   have htop := skipB_top hi
   have hid := skipB_idem hi
   have hlen : 0 < s.length := by cases s with | nil => exact absurd rfl n1 | cons c s => simp
   have hc : t[skipB t i]? = s[0]? := by simpa using hh 0 hlen
   have hne : ∀ c : UInt8, isSgn c = true ∨ c = 48 ∨ c = 49 → t[skipB t i]? ≠ some c := by
    intro c hc2 h
    rw [hc] at h
    obtain ⟨f1, f2, f3, _⟩ := n4 c h
    rcases hc2 with h | h | h
    ·rw [f1] at h; cases h
    ·exact f2 h
    ·exact f3 h
   rw [oneR, if_neg (hne 33 (by decide)), if_neg (hne 40 (by decide)), if_neg (hne 48 (by decide)), if_neg (hne 49 (by decide)), if_neg (hne 94 (by decide)), if_neg (hne 126 (by decide)), word_back hw (by rw [hid]; exact hh) (by rw [hid]; exact hst), hid]
   rfl
  | rise s =>
   obtain ⟨d, rfl⟩ : ∃ d', d = d' + 1 := ⟨d - 1, by simp only [dpE] at hd; omega⟩
   intro i hi hh hst
   rw [wrE] at hh hst ⊢
   obtain ⟨g, hh⟩ := hh.cons
   have k1 : skipB t (skipB t i + 1) = skipB t i + 1 := skip_at hh (wr_head (.bit s) 0 hw)
   rw [oneR, if_neg (by rw [g]; decide), if_neg (by rw [g]; decide), if_neg (by rw [g]; decide), if_neg (by rw [g]; decide), if_pos g, word_back hw (by rw [k1]; exact hh) (by rw [k1]; rw [List.length_cons] at hst; rw [show skipB t i + 1 + s.length = skipB t i + (s.length + 1) by omega]; exact hst), k1]; simp [Rs.map]
   omega
  | fall s =>
   obtain ⟨d, rfl⟩ : ∃ d', d = d' + 1 := ⟨d - 1, by simp only [dpE] at hd; omega⟩
   intro i hi hh hst
   rw [wrE] at hh hst ⊢
   obtain ⟨g, hh⟩ := hh.cons
   have k1 : skipB t (skipB t i + 1) = skipB t i + 1 := skip_at hh (wr_head (.bit s) 0 hw)
   rw [oneR, if_neg (by rw [g]; decide), if_neg (by rw [g]; decide), if_neg (by rw [g]; decide), if_neg (by rw [g]; decide), if_neg (by rw [g]; decide), if_pos g, word_back hw (by rw [k1]; exact hh) (by rw [k1]; rw [List.length_cons] at hst; rw [show skipB t i + 1 + s.length = skipB t i + (s.length + 1) by omega]; exact hst), k1]; simp [Rs.map]
   omega
  | not x =>
   obtain ⟨d, rfl⟩ : ∃ d', d = d' + 1 := ⟨d - 1, by simp only [dpE] at hd; omega⟩
   have ih := one_back (t := t) n x (by simp at hn; omega) hw d (by simp only [dpE] at hd; omega)
   intro i hi hh hst
   rw [wrE] at hh hst ⊢
   obtain ⟨g, hh⟩ := hh.cons
   have hpl := (List.getElem?_eq_some_iff.1 g).1
   have k1 : skipB t (skipB t i + 1) = skipB t i + 1 := skip_at hh (wr_head x 2 hw)
   rw [oneR, if_pos g, ih (skipB t i + 1) hpl (by rw [k1]; exact hh) (by rw [k1]; rw [List.length_cons] at hst; rw [show skipB t i + 1 + (wrE x 2).length = skipB t i + ((wrE x 2).length + 1) by omega]; exact hst), k1]; simp
   omega
  | and l =>
   obtain ⟨d, rfl⟩ : ∃ d', d = d' + 1 := ⟨d - 1, by simp only [dpE] at hd; omega⟩
   simp only [dpE] at hd; refine oneB_par hw (by simp [wrE]) (orB_one hw (by simp [wrE]) (andB_and hw fun y hy => ?_))
   have := List.sizeOf_lt_of_mem hy
   have h2 := dpA_mem hy
   exact one_back n y (by simp only [Ex.and.sizeOf_spec] at hn; omega) ((WfEs_iff _).1 hw.2 y hy) d (by omega)
  | or l =>
   obtain ⟨d, rfl⟩ : ∃ d', d = d' + 1 := ⟨d - 1, by simp only [dpE] at hd; omega⟩
   simp only [dpE] at hd; refine oneB_par hw (by simp [wrE]) (orB_or hw fun y hy => ?_)
   have hs := List.sizeOf_lt_of_mem hy
   have h2 := dpO_mem hy
   have hwy := (WfEs_iff _).1 hw.2 y hy
   have hn' : SizeOf.sizeOf y + 1 ≤ n := by simp only [Ex.or.sizeOf_spec] at hn; omega
   by_cases hm : ∃ m, y = .and m
   ·obtain ⟨m, rfl⟩ := hm
    refine andB_and hwy fun z hz => ?_
    have := List.sizeOf_lt_of_mem hz
    have h3 := dpA_mem hz
    simp only [dpJ] at h2; exact one_back n z (by simp only [Ex.and.sizeOf_spec] at hn'; omega) ((WfEs_iff _).1 hwy.2 z hz) d (by omega)
   ·have h3 : dpJ y = dpE y := by
     cases y <;> first | rfl | exact absurd ⟨_, rfl⟩ hm
    have h4 : wrE y 1 = wrE y 2 := by
     cases y <;> first | rfl | exact absurd ⟨_, rfl⟩ hm | simp [wrE]
    exact andB_one hwy h4 (one_back n y (by omega) hwy d (by omega))
theorem or_back {t : List UInt8} {e : Ex} (hw : WfE e) {d : Nat} (hd : dpI e ≤ d) : OrB t d e := by
 by_cases ho : ∃ l, e = .or l
 ·obtain ⟨l, rfl⟩ := ho
  refine orB_or hw fun y hy => ?_
  have h2 := dpO_mem hy
  have hwy := (WfEs_iff _).1 hw.2 y hy
  simp only [dpI] at hd
  by_cases hm : ∃ m, y = .and m
  ·obtain ⟨m, rfl⟩ := hm
   refine andB_and hwy fun z hz => ?_
   have h3 := dpA_mem hz
   simp only [dpJ] at h2; exact one_back _ z (Nat.le_refl _) ((WfEs_iff _).1 hwy.2 z hz) d (by omega)
  ·have h3 : dpJ y = dpE y := by
    cases y <;> first | rfl | exact absurd ⟨_, rfl⟩ hm
   have h4 : wrE y 1 = wrE y 2 := by
    cases y <;> first | rfl | exact absurd ⟨_, rfl⟩ hm | simp [wrE]
   exact andB_one hwy h4 (one_back _ y (Nat.le_refl _) hwy d (by omega))
 ·have h0 : wrE e 0 = wrE e 1 := by
   cases e <;> first | rfl | exact absurd ⟨_, rfl⟩ ho | simp [wrE]
  refine orB_one hw h0 ?_
  by_cases hm : ∃ m, e = .and m
  ·obtain ⟨m, rfl⟩ := hm
   refine andB_and hw fun z hz => ?_
   have h3 := dpA_mem hz
   simp only [dpI] at hd; exact one_back _ z (Nat.le_refl _) ((WfEs_iff _).1 hw.2 z hz) d (by omega)
  ·have h3 : dpI e = dpE e := by
    cases e <;> first | rfl | exact absurd ⟨_, rfl⟩ hm | exact absurd ⟨_, rfl⟩ ho
   have h4 : wrE e 1 = wrE e 2 := by
    cases e <;> first | rfl | exact absurd ⟨_, rfl⟩ hm | exact absurd ⟨_, rfl⟩ ho | simp [wrE]
   exact andB_one hw h4 (one_back _ e (Nat.le_refl _) hw d (by omega))
theorem or_self {e : Ex} (hw : WfE e) {d : Nat} (hd : dpI e ≤ d) : orR (wrE e 0) (oneR (wrE e 0) d) 0 = .ok e (wrE e 0).length := by
 have k0 : skipB (wrE e 0) 0 = 0 := skip_at (has_self _) (wr_head e 0 hw)
 have k1 : skipB (wrE e 0) (wrE e 0).length = (wrE e 0).length := skipB_stop (by simp)
 have := or_back (t := wrE e 0) hw hd 0 (Nat.zero_le _) (by rw [k0]; exact has_self _) (by rw [k0]; intro c hc; simp at hc) (by rw [k0, Nat.zero_add, k1]; simp) (by rw [k0, Nat.zero_add, k1]; simp)
 rw [k0, Nat.zero_add, k1] at this; exact this
theorem parse_back {e : Ex} (hw : WfE e) (hd : dpI e ≤ 20) (hl : (wrE e 0).length ≤ 2000) : parseM (wrE e 0) = (some e, none) := by
 have k1 : skipB (wrE e 0) (wrE e 0).length = (wrE e 0).length := skipB_stop (by simp)
 unfold parseM; rw [if_neg (by omega), or_self hw hd]
 dsimp only
 rw [k1, if_neg (by omega)]
theorem wr_inj {a b : Ex} (ha : WfE a) (hb : WfE b) (h : wrE a 0 = wrE b 0) : a = b := by
 have h1 := or_self ha (d := max (dpI a) (dpI b)) (by omega)
 have h2 := or_self hb (d := max (dpI a) (dpI b)) (by omega)
 rw [h, h2] at h1; simp only [Rs.ok.injEq] at h1; exact h1.1.symm
theorem sev_all {t : List UInt8} {s : UInt8} {f : Nat → Rs Ex} (P : Ex → Prop) (hf : ∀ i x j, f i = .ok x j → P x) : ∀ (n i : Nat) (acc l : List Ex) (j : Nat), sevR t s f n i acc = .ok l j → (∀ x ∈ acc, P x) → ∀ x ∈ l, P x
 | 0, i, acc, l, j, h, _ => by simp [sevR] at h
 | n + 1, i, acc, l, j, h, ha => by
  rw [sevR] at h
  cases hfi : f i with
  | err c p q => rw [hfi] at h; cases h
  | ok x k =>
   rw [hfi] at h
   dsimp only at h
   have hap : ∀ y ∈ acc ++ [x], P y := fun y hy => by
    rcases List.mem_append.1 hy with hy | hy
    ·exact ha y hy
    ·simp at hy; subst hy; exact hf _ _ _ hfi
   split at h
   ·exact sev_all P hf n _ _ l j h hap
   ·simp only [Rs.ok.injEq] at h
    obtain ⟨rfl, -⟩ := h
    exact hap
theorem sev_pos {t : List UInt8} {s : UInt8} {f : Nat → Rs Ex} : ∀ (n i : Nat) (acc l : List Ex) (j : Nat), sevR t s f n i acc = .ok l j → acc.length < l.length
 | 0, i, acc, l, j, h => by simp [sevR] at h
 | n + 1, i, acc, l, j, h => by
  rw [sevR] at h
  split at h
  ·cases h
  ·split at h
   ·have := sev_pos n _ _ l j h
    simp only [List.length_append, List.length_singleton] at this
    omega
   ·simp only [Rs.ok.injEq] at h
    obtain ⟨rfl, -⟩ := h
    simp
theorem dpA_le {d : Nat} : ∀ {l : List Ex}, (∀ x ∈ l, dpE x ≤ d) → dpA l ≤ d
 | [], _ => by simp [dpA]
 | e :: l, h => by
  have h1 := h e (by simp)
  have h2 := dpA_le (l := l) fun x hx => h x (by simp [hx])
  rw [dpA]
  omega
theorem dpO_le {d : Nat} : ∀ {l : List Ex}, (∀ x ∈ l, dpJ x ≤ d) → dpO l ≤ d
 | [], _ => by simp [dpO]
 | e :: l, h => by
  have h1 := h e (by simp)
  have h2 := dpO_le (l := l) fun x hx => h x (by simp [hx])
  rw [dpO_cons]
  omega
theorem and_wf {t : List UInt8} {d : Nat} (h : ∀ i x j, oneR t d i = .ok x j → WfE x ∧ dpE x ≤ d) {i j : Nat} {x : Ex} (he : andR t (oneR t d) i = .ok x j) : WfE x ∧ dpJ x ≤ d := by
 obtain ⟨l, h1, rfl⟩ := map_ok he
 have ha := sev_all (fun x => WfE x ∧ dpE x ≤ d) h _ _ _ _ _ h1 (by simp)
 have hp := sev_pos _ _ _ _ _ h1
 by_cases hl : l.length = 1
 ·obtain ⟨x, rfl⟩ := List.length_eq_one_iff.1 hl
  have := ha x (by simp)
  exact ⟨this.1, Nat.le_trans (dpJ_le x) this.2⟩
 ·rw [colA_ne hl]; exact ⟨⟨by simp at hp; omega, (WfEs_iff _).2 fun x hx => (ha x hx).1⟩, dpA_le fun x hx => (ha x hx).2⟩
theorem or_wf {t : List UInt8} {d : Nat} (h : ∀ i x j, oneR t d i = .ok x j → WfE x ∧ dpE x ≤ d) {i j : Nat} {x : Ex} (he : orR t (oneR t d) i = .ok x j) : WfE x ∧ dpI x ≤ d := by
 obtain ⟨l, h1, rfl⟩ := map_ok he
 have ha := sev_all (fun x => WfE x ∧ dpJ x ≤ d) (fun i x j h' => and_wf h h') _ _ _ _ _ h1 (by simp)
 have hp := sev_pos _ _ _ _ _ h1
 by_cases hl : l.length = 1
 ·obtain ⟨x, rfl⟩ := List.length_eq_one_iff.1 hl
  have := ha x (by simp)
  exact ⟨this.1, Nat.le_trans (dpI_le x) this.2⟩
 ·rw [colO_ne hl]; exact ⟨⟨by simp at hp; omega, (WfEs_iff _).2 fun x hx => (ha x hx).1⟩, dpO_le fun x hx => (ha x hx).2⟩
theorem word_wf {t : List UInt8} {q i j : Nat} {s : List UInt8} (h : wordR t q i = .ok s j) : nameF s = true := by
 unfold wordR at h
 split at h
 ·cases h
 ·split at h
  ·cases h
  ·rename_i hn
   simp only [Rs.ok.injEq] at h
   obtain ⟨rfl, -⟩ := h
   simpa using hn
theorem one_wf (t : List UInt8) : ∀ d i x j, oneR t d i = .ok x j → WfE x ∧ dpE x ≤ d
 | 0, i, x, j, h => by simp [oneR] at h
 | d + 1, i, x, j, h => by
  have ih := one_wf t d
  rw [oneR] at h
  split at h
  ·cases he : oneR t d (skipB t i + 1) with
   | err c p q => rw [he] at h; cases h
   | ok y k =>
    rw [he] at h; simp only [Rs.ok.injEq] at h
    obtain ⟨rfl, rfl⟩ := h
    have := ih _ _ _ he
    exact ⟨this.1, by simp only [dpE]; omega⟩
  split at h
  ·cases he : orR t (oneR t d) (skipB t i + 1) with
   | err c p q => rw [he] at h; cases h
   | ok y k =>
    rw [he] at h
    dsimp only at h
    split at h
    ·simp only [Rs.ok.injEq] at h
     obtain ⟨rfl, rfl⟩ := h
     have := or_wf ih he
     have h3 := dpE_le y
     exact ⟨this.1, by omega⟩
    ·cases h
  split at h
  ·simp only [Rs.ok.injEq] at h
   obtain ⟨rfl, rfl⟩ := h
   exact ⟨trivial, by simp only [dpE]; omega⟩
  split at h
  ·simp only [Rs.ok.injEq] at h
   obtain ⟨rfl, rfl⟩ := h
   exact ⟨trivial, by simp only [dpE]; omega⟩
  split at h
  ·obtain ⟨s, h3, rfl⟩ := map_ok h
   exact ⟨word_wf h3, by simp only [dpE]; omega⟩
  split at h
  ·obtain ⟨s, h3, rfl⟩ := map_ok h
   exact ⟨word_wf h3, by simp only [dpE]; omega⟩
  ·obtain ⟨s, h3, rfl⟩ := map_ok h
   exact ⟨word_wf h3, by simp only [dpE]; omega⟩
theorem parse_wf {t : List UInt8} {x : Ex} (h : (parseM t).1 = some x) : WfE x ∧ dpI x ≤ 20 := by
 unfold parseM at h
 split at h
 ·cases h
 ·split at h
  ·cases h
  ·rename_i y i he
   split at h
   ·cases h
   ·obtain rfl := Option.some.inj h
    exact or_wf (one_wf t 20) he
end Go.Proofs.YtagfbbnlbncjlaaGreatDoor
namespace Go.Proofs.YtagfbbnlbncjlaaGreatDoor
mutual
def evE (is was : List UInt8 → Bool) : Ex → Bool
 | .cst b => b
 | .bit s => is s
 | .rise s => is s && !was s
 | .fall s => !is s && was s
 | .not e => !evE is was e
 | .and l => evA is was l
 | .or l => evO is was l
def evA (is was : List UInt8 → Bool) : List Ex → Bool
 | [] => true
 | e :: l => evE is was e && evA is was l
def evO (is was : List UInt8 → Bool) : List Ex → Bool
 | [] => false
 | e :: l => evE is was e || evO is was l
end
mutual
def szN : Ex → Nat
 | .not e => szN e + 1
 | .and l => szNs l + 1
 | .or l => szNs l + 1
 | _ => 1
def szNs : List Ex → Nat
 | [] => 0
 | e :: l => szN e + szNs l
end
def grp (and : Bool) (l : List Ex) : Ex := if and then .and l else .or l
def evG (is was : List UInt8 → Bool) (and : Bool) (l : List Ex) : Bool := evE is was (grp and l)
theorem evG_nil (is was : List UInt8 → Bool) (and : Bool) : evG is was and [] = and := by cases and <;> rfl
theorem evG_cons (is was : List UInt8 → Bool) (and : Bool) (e : Ex) (l : List Ex) : evG is was and (e :: l) = if and then (evE is was e && evG is was and l) else (evE is was e || evG is was and l) := by
 cases and <;> simp [evG, grp, evE, evA, evO]
theorem evG_app (is was : List UInt8 → Bool) (and : Bool) : ∀ (a b : List Ex), evG is was and (a ++ b) = if and then (evG is was and a && evG is was and b) else (evG is was and a || evG is was and b)
 | [], b => by rw [List.nil_append, evG_nil]; cases and <;> simp
 | e :: a, b => by
  rw [List.cons_append, evG_cons, evG_cons, evG_app is was and a b]
  cases and <;> simp [Bool.and_assoc, Bool.or_assoc]
theorem evG_mem (is was : List UInt8 → Bool) (and : Bool) {e : Ex} : ∀ {l : List Ex}, e ∈ l → evE is was e = !and → evG is was and l = !and
 | x :: l, h, he => by
  rw [evG_cons]
  rcases List.mem_cons.1 h with rfl | h
  ·rw [he]; cases and <;> rfl
  ·rw [evG_mem is was and h he]; cases and <;> simp
theorem evG_dup (is was : List UInt8 → Bool) (and : Bool) {e : Ex} {l : List Ex} (h : e ∈ l) : evG is was and (l ++ [e]) = evG is was and l := by
 rw [evG_app, evG_cons, evG_nil]
 by_cases he : evE is was e = and
 ·rw [he]; cases and <;> simp
 ·have he2 : evE is was e = !and := by cases and <;> simpa using he
  rw [evG_mem is was and h he2]
  cases and <;> simp
theorem szNs_app : ∀ (a b : List Ex), szNs (a ++ b) = szNs a + szNs b
 | [], b => by simp [szNs]
 | e :: a, b => by simp only [List.cons_append, szNs, szNs_app a b]; omega
def wr0 (e : Ex) : List UInt8 := wrE e 0
def notE : Ex → Ex
 | .cst b => .cst (!b)
 | .not y => y
 | y => .not y
def othE : Ex → Ex
 | .not y => y
 | y => .not y
def piecesE (and : Bool) : Ex → Option (List Ex)
 | .cst b => if b != and then none else some []
 | .and l => some (if and then l else [.and l])
 | .or l => some (if and then [.or l] else l)
 | y => some [y]
def hasT (out : List Ex) (x : Ex) : Bool := out.any fun z => wr0 z == wr0 x
def addE (out : List Ex) (x : Ex) : Option (List Ex) := if hasT out x then some out else if hasT out (othE x) then none else some (out ++ [x])
def addsE : List Ex → List Ex → Option (List Ex)
 | out, [] => some out
 | out, x :: l => match addE out x with
  | none => none
  | some o => addsE o l
def partsE (and : Bool) : List Ex → List Ex → Option (List Ex)
 | out, [] => some out
 | out, x :: l => match piecesE and x with
  | none => none
  | some i => match addsE out i with
   | none => none
   | some o => partsE and o l
def finE (and : Bool) : Option (List Ex) → Ex
 | none => .cst (!and)
 | some [] => .cst and
 | some [x] => x
 | some l => grp and l
mutual
def tidE : Ex → Ex
 | .not e => notE (tidE e)
 | .and l => finE true (partsE true [] (tidL l))
 | .or l => finE false (partsE false [] (tidL l))
 | e => e
def tidL : List Ex → List Ex
 | [] => []
 | e :: l => tidE e :: tidL l
end
theorem tidL_map : ∀ l : List Ex, tidL l = l.map tidE
 | [] => rfl
 | e :: l => by rw [tidL, tidL_map l]; rfl
def isC : Ex → Bool | .cst _ => true | _ => false
def isN : Ex → Bool | .not _ => true | _ => false
def isG (and : Bool) : Ex → Bool | .and _ => and | .or _ => !and | _ => false
mutual
def Tdy : Ex → Prop
 | .cst _ => True
 | .bit s => nameF s = true
 | .rise s => nameF s = true
 | .fall s => nameF s = true
 | .not e => isC e = false ∧ isN e = false ∧ Tdy e
 | .and l => 2 ≤ l.length ∧ Tdys true l ∧ l.Pairwise (fun a b => a ≠ b ∧ a ≠ othE b)
 | .or l => 2 ≤ l.length ∧ Tdys false l ∧ l.Pairwise (fun a b => a ≠ b ∧ a ≠ othE b)
def Tdys (and : Bool) : List Ex → Prop
 | [] => True
 | e :: l => isC e = false ∧ isG and e = false ∧ Tdy e ∧ Tdys and l
end
theorem Tdys_iff (and : Bool) : ∀ l : List Ex, Tdys and l ↔ ∀ e ∈ l, isC e = false ∧ isG and e = false ∧ Tdy e
 | [] => by simp [Tdys]
 | e :: l => by simp [Tdys, Tdys_iff and l, and_assoc]
theorem tdy_wf : ∀ e : Ex, Tdy e → WfE e
 | .cst _, _ => trivial
 | .bit s, h => h
 | .rise s, h => h
 | .fall s, h => h
 | .not e, h => tdy_wf e h.2.2
 | .and l, h => ⟨h.1, (WfEs_iff _).2 fun x hx => tdy_wf x ((Tdys_iff _ _).1 h.2.1 x hx).2.2⟩
 | .or l, h => ⟨h.1, (WfEs_iff _).2 fun x hx => tdy_wf x ((Tdys_iff _ _).1 h.2.1 x hx).2.2⟩
termination_by e => SizeOf.sizeOf e
decreasing_by
 all_goals simp_wf
 all_goals first
  | omega
  | (have := List.sizeOf_lt_of_mem hx; omega)
structure Gath (and : Bool) (out : List Ex) : Prop where
 tdy : ∀ e ∈ out, isC e = false ∧ isG and e = false ∧ Tdy e
 pw : out.Pairwise fun a b => a ≠ b ∧ a ≠ othE b
theorem oth_wf {x : Ex} (h : WfE x) : WfE (othE x) := by
 cases x <;> exact h
theorem oth_ev (is was : List UInt8 → Bool) (x : Ex) : evE is was (othE x) = !evE is was x := by
 cases x <;> simp [othE, evE]
theorem has_iff {out : List Ex} {x : Ex} (ho : ∀ e ∈ out, WfE e) (hx : WfE x) : hasT out x = true ↔ x ∈ out := by
 unfold hasT; rw [List.any_eq_true]
 constructor
 ·rintro ⟨z, hz, he⟩
  have := wr_inj (ho z hz) hx (by simpa [wr0] using he)
  exact this ▸ hz
 ·intro h
  exact ⟨x, h, by simp⟩
theorem add_law {and : Bool} {out : List Ex} (hg : Gath and out) {x : Ex} (hx : isC x = false ∧ isG and x = false ∧ Tdy x) :
  (x ∈ out ∧ addE out x = some out) ∨ (x ∉ out ∧ othE x ∈ out ∧ addE out x = none) ∨ (x ∉ out ∧ othE x ∉ out ∧ addE out x = some (out ++ [x]) ∧ Gath and (out ++ [x])) := by
 have hw := tdy_wf x hx.2.2
 have ho : ∀ e ∈ out, WfE e := fun e he => tdy_wf e (hg.tdy e he).2.2
 have h1 := has_iff ho hw
 have h2 := has_iff ho (oth_wf hw)
 unfold addE
 by_cases c1 : x ∈ out
 ·exact .inl ⟨c1, if_pos (h1.2 c1)⟩
 ·rw [if_neg (fun h => c1 (h1.1 h))]
  by_cases c2 : othE x ∈ out
  ·exact .inr (.inl ⟨c1, c2, if_pos (h2.2 c2)⟩)
  ·refine .inr (.inr ⟨c1, c2, if_neg (fun h => c2 (h2.1 h)), fun e he => ?_, ?_⟩)
   ·rcases List.mem_append.1 he with he | he
    ·exact hg.tdy e he
    ·simp at he; subst he; exact hx
   ·rw [List.pairwise_append]; refine ⟨hg.pw, by simp, fun a ha b hb => ?_⟩; simp at hb; subst hb; exact ⟨fun e => c1 (e ▸ ha), fun e => c2 (e ▸ ha)⟩
theorem adds_law (is was : List UInt8 → Bool) {and : Bool} : ∀ (l : List Ex) (out : List Ex), Gath and out → (∀ x ∈ l, isC x = false ∧ isG and x = false ∧ Tdy x) →
  (addsE out l = none ∧ evG is was and (out ++ l) = !and) ∨ (∃ o, addsE out l = some o ∧ Gath and o ∧ evG is was and o = evG is was and (out ++ l) ∧ szNs o ≤ szNs out + szNs l)
 | [], out, hg, _ => .inr ⟨out, rfl, hg, by simp, by simp [szNs]⟩
 | x :: l, out, hg, hl => by
  have hx := hl x (by simp)
  have hl' := fun y hy => hl y (List.mem_cons_of_mem x hy)
  rw [addsE]
  rcases add_law hg hx with ⟨c, e⟩ | ⟨_, c, e⟩ | ⟨_, _, e, hg'⟩
  ·rw [e]
   have h1 : evG is was and (out ++ x :: l) = evG is was and (out ++ l) := by
    rw [show out ++ x :: l = (out ++ [x]) ++ l by simp, evG_app, evG_dup is was and c, ← evG_app]
   rcases adds_law is was l out hg hl' with ⟨a, b⟩ | ⟨o, a, b, c, d⟩
   ·exact .inl ⟨a, by rw [h1]; exact b⟩
   ·exact .inr ⟨o, a, b, by rw [h1]; exact c, by simp only [szNs]; omega⟩
  ·rw [e]; refine .inl ⟨rfl, ?_⟩
   by_cases hv : evE is was x = and
   ·exact evG_mem is was and (e := othE x) (by simp [c]) (by rw [oth_ev, hv])
   ·exact evG_mem is was and (e := x) (by simp) (by cases and <;> simpa using hv)
  ·rw [e]
   have h1 : out ++ x :: l = (out ++ [x]) ++ l := by simp
   rcases adds_law is was l (out ++ [x]) hg' hl' with ⟨a, b⟩ | ⟨o, a, b, c, d⟩
   ·exact .inl ⟨a, by rw [h1]; exact b⟩
   ·exact .inr ⟨o, a, b, by rw [h1]; exact c, by rw [szNs_app] at d; simp only [szNs] at d ⊢; omega⟩
theorem pieces_law (is was : List UInt8 → Bool) {and : Bool} {x : Ex} (hx : Tdy x) :
  (piecesE and x = none ∧ evE is was x = !and) ∨ (∃ i, piecesE and x = some i ∧ evG is was and i = evE is was x ∧ (∀ y ∈ i, isC y = false ∧ isG and y = false ∧ Tdy y) ∧ szNs i ≤ szN x) := by
 have hone : ∀ y : Ex, Tdy y → isC y = false → isG and y = false → evG is was and [y] = evE is was y ∧ (∀ z ∈ [y], isC z = false ∧ isG and z = false ∧ Tdy z) ∧ szNs [y] ≤ szN y := by
  intro y h1 h2 h3
  refine ⟨by rw [evG_cons, evG_nil]; cases and <;> simp, fun z hz => ?_, by simp [szNs]⟩; simp at hz; subst hz; exact ⟨h2, h3, h1⟩
 cases x with
 | cst b =>
  have hp : piecesE and (.cst b) = if b != and then none else some [] := rfl
  rw [hp]
  by_cases hb : (b != and) = true
  ·rw [if_pos hb]; refine .inl ⟨rfl, ?_⟩
   revert hb
   cases b <;> cases and <;> simp [evE]
  ·rw [if_neg hb]; refine .inr ⟨[], rfl, ?_, by simp, by simp [szNs]⟩; rw [evG_nil]
   revert hb
   cases b <;> cases and <;> simp [evE]
 | bit s => exact .inr ⟨_, rfl, hone _ hx rfl rfl⟩
 | rise s => exact .inr ⟨_, rfl, hone _ hx rfl rfl⟩
 | fall s => exact .inr ⟨_, rfl, hone _ hx rfl rfl⟩
 | not y => exact .inr ⟨_, rfl, hone _ hx rfl rfl⟩
 | and l =>
  cases and with
  | true => exact .inr ⟨l, rfl, rfl, (Tdys_iff _ _).1 hx.2.1, by simp [szN]⟩
  | false => exact .inr ⟨_, rfl, hone _ hx rfl rfl⟩
 | or l =>
  cases and with
  | true => exact .inr ⟨_, rfl, hone _ hx rfl rfl⟩
  | false => exact .inr ⟨l, rfl, rfl, (Tdys_iff _ _).1 hx.2.1, by simp [szN]⟩
theorem parts_law2 (is was : List UInt8 → Bool) {and : Bool} : ∀ (l : List Ex) (out : List Ex), Gath and out → (∀ x ∈ l, Tdy x) →
  (partsE and out l = none ∧ (if and then (evG is was and out && evG is was and l) else (evG is was and out || evG is was and l)) = !and) ∨ (∃ o, partsE and out l = some o ∧ Gath and o ∧ evG is was and o = (if and then (evG is was and out && evG is was and l) else (evG is was and out || evG is was and l)) ∧ szNs o ≤ szNs out + szNs l)
 | [], out, hg, _ => .inr ⟨out, rfl, hg, by rw [evG_nil]; cases and <;> simp, by simp [szNs]⟩
 | x :: l, out, hg, hl => by
  have hx := hl x (by simp)
  have hl' := fun y hy => hl y (List.mem_cons_of_mem x hy)
  rw [partsE, evG_cons]
  rcases pieces_law is was (and := and) hx with ⟨a, b⟩ | ⟨i, a, b, c, d⟩
  ·rw [a, b]; refine .inl ⟨rfl, by cases and <;> simp⟩
  ·rw [a]
   dsimp only
   rcases adds_law is was i out hg c with ⟨e, f⟩ | ⟨o, e, f, g, h⟩
   ·rw [e]; refine .inl ⟨rfl, ?_⟩; rw [evG_app, b] at f
    revert f
    cases and <;> cases evE is was x <;> cases evG is was _ out <;> simp
   ·rw [e]
    dsimp only
    rw [evG_app, b] at g
    rcases parts_law2 is was l o f hl' with ⟨p, q⟩ | ⟨o2, p, q, r, s⟩
    ·refine .inl ⟨p, ?_⟩; rw [g] at q
     revert q
     cases and <;> simp [Bool.and_assoc, Bool.or_assoc]
    ·refine .inr ⟨o2, p, q, ?_, by simp only [szNs]; omega⟩; rw [r, g]
     cases and <;> simp [Bool.and_assoc, Bool.or_assoc]
theorem szN_pos : ∀ e : Ex, 1 ≤ szN e := by intro e; cases e <;> simp [szN]
theorem fin_law (is was : List UInt8 → Bool) {and : Bool} {l : List Ex} (hl : ∀ x ∈ l, Tdy x) : Tdy (finE and (partsE and [] l)) ∧ evE is was (finE and (partsE and [] l)) = evG is was and l ∧ szN (finE and (partsE and [] l)) ≤ szNs l + 1 := by
 rcases parts_law2 is was (and := and) l [] ⟨by simp, by simp⟩ hl with ⟨a, b⟩ | ⟨o, a, b, c, d⟩
 ·rw [a]; rw [evG_nil] at b; refine ⟨trivial, ?_, by simp [finE, szN]⟩
  show (!and) = _
  revert b
  cases and <;> simp
 ·rw [a]; rw [evG_nil] at c
  have c' : evG is was and o = evG is was and l := by rw [c]; cases and <;> simp
  simp only [szNs, Nat.zero_add] at d
  match o, b, c', d with
  | [], _, c', _ => exact ⟨trivial, by rw [← c', evG_nil]; rfl, by simp [finE, szN]⟩
  | [x], b, c', d =>
   refine ⟨(b.tdy x (by simp)).2.2, ?_, by simp only [finE, szNs] at d ⊢; omega⟩; rw [← c', evG_cons, evG_nil]
   cases and <;> simp [finE]
  | x :: y :: l', b, c', d =>
   have hT := (Tdys_iff and (x :: y :: l')).2 b.tdy
   cases and with
   | true => exact ⟨⟨by simp, hT, b.pw⟩, c', by simp only [finE, grp, if_true, szN]; omega⟩
   | false => exact ⟨⟨by simp, hT, b.pw⟩, c', by simp only [finE, grp, Bool.false_eq_true, if_false, szN]; omega⟩
theorem tid_law (is was : List UInt8 → Bool) : ∀ (n : Nat) (e : Ex), SizeOf.sizeOf e ≤ n → WfE e → Tdy (tidE e) ∧ evE is was (tidE e) = evE is was e ∧ szN (tidE e) ≤ szN e
 | 0, e, hn, _ => by cases e <;> simp at hn
 | n + 1, e, hn, hw => by
  have many : ∀ (and : Bool) (l : List Ex), (∀ x ∈ l, SizeOf.sizeOf x ≤ n ∧ WfE x) → Tdy (finE and (partsE and [] (tidL l))) ∧ evE is was (finE and (partsE and [] (tidL l))) = evG is was and l ∧ szN (finE and (partsE and [] (tidL l))) ≤ szNs l + 1 := by
   intro and l hl
   have h1 : ∀ l : List Ex, (∀ x ∈ l, SizeOf.sizeOf x ≤ n ∧ WfE x) → (∀ x ∈ tidL l, Tdy x) ∧ evG is was and (tidL l) = evG is was and l ∧ szNs (tidL l) ≤ szNs l := by
    intro l
    induction l with
    | nil => intro _; exact ⟨by simp [tidL], rfl, by simp [tidL]⟩
    | cons x l ih =>
     intro h
     obtain ⟨a, b, c⟩ := ih fun y hy => h y (by simp [hy])
     obtain ⟨p, q, r⟩ := tid_law is was n x (h x (by simp)).1 (h x (by simp)).2
     refine ⟨fun y hy => ?_, ?_, ?_⟩
     ·rw [tidL] at hy
      rcases List.mem_cons.1 hy with rfl | hy
      ·exact p
      ·exact a y hy
     ·rw [tidL, evG_cons, evG_cons, b, q]
     ·simp only [tidL, szNs]; omega
   obtain ⟨a, b, c⟩ := h1 l hl
   obtain ⟨p, q, r⟩ := fin_law is was (and := and) a
   exact ⟨p, by rw [q, b], by omega⟩
  cases e with
  | cst b => exact ⟨trivial, rfl, Nat.le_refl _⟩
  | bit s => exact ⟨hw, rfl, Nat.le_refl _⟩
  | rise s => exact ⟨hw, rfl, Nat.le_refl _⟩
  | fall s => exact ⟨hw, rfl, Nat.le_refl _⟩
  | not x =>
   obtain ⟨a, b, c⟩ := tid_law is was n x (by simp at hn; omega) hw
   rw [tidE]
   have e1 : evE is was (.not x) = !evE is was x := rfl
   have e2 : szN (.not x) = szN x + 1 := rfl
   rw [e1, e2, ← b]
   revert a c
   generalize tidE x = y
   intro a c
   cases y with
   | cst b => exact ⟨trivial, rfl, by simp [notE, szN]⟩
   | not y => exact ⟨a.2.2, by simp [notE, evE], by simp only [notE, szN] at c ⊢; omega⟩
   | bit s => exact ⟨⟨rfl, rfl, a⟩, rfl, by simp only [notE, szN] at c ⊢; omega⟩
   | rise s => exact ⟨⟨rfl, rfl, a⟩, rfl, by simp only [notE, szN] at c ⊢; omega⟩
   | fall s => exact ⟨⟨rfl, rfl, a⟩, rfl, by simp only [notE, szN] at c ⊢; omega⟩
   | and l => exact ⟨⟨rfl, rfl, a⟩, rfl, by simp only [notE, szN] at c ⊢; omega⟩
   | or l => exact ⟨⟨rfl, rfl, a⟩, rfl, by simp only [notE, szN] at c ⊢; omega⟩
  | and l => exact many true l fun x hx => ⟨by have := List.sizeOf_lt_of_mem hx; simp only [Ex.and.sizeOf_spec] at hn; omega, (WfEs_iff _).1 hw.2 x hx⟩
  | or l => exact many false l fun x hx => ⟨by have := List.sizeOf_lt_of_mem hx; simp only [Ex.or.sizeOf_spec] at hn; omega, (WfEs_iff _).1 hw.2 x hx⟩
end Go.Proofs.YtagfbbnlbncjlaaGreatDoor
namespace Go.Proofs.YtagfbbnlbncjlaaGreatDoor
mutual
def bE : Ex → Nat
 | .cst _ => 4
 | .bit s => s.length + 3
 | .rise s => s.length + 4
 | .fall s => s.length + 4
 | .not e => bE e + 1
 | .and l => bEs l + 5
 | .or l => bEs l + 5
def bEs : List Ex → Nat
 | [] => 0
 | e :: l => bE e + bEs l
end
theorem bEs_app : ∀ (a b : List Ex), bEs (a ++ b) = bEs a + bEs b
 | [], b => by simp [bEs]
 | e :: a, b => by simp only [List.cons_append, bEs, bEs_app a b]; omega
theorem bE_pos : ∀ e : Ex, 3 ≤ bE e
 | .not e => by have := bE_pos e; simp only [bE]; omega
 | .cst _ => by simp [bE]
 | .bit _ => by simp [bE]
 | .rise _ => by simp only [bE]; omega
 | .fall _ => by simp only [bE]; omega
 | .and _ => by simp only [bE]; omega
 | .or _ => by simp only [bE]; omega
theorem bEs_mem {x : Ex} : ∀ {l : List Ex}, x ∈ l → bE x ≤ bEs l
 | y :: l, h => by
  rw [bEs]
  rcases List.mem_cons.1 h with rfl | h
  ·omega
  ·have := bEs_mem h; omega
theorem bEs_len : ∀ l : List Ex, 3 * l.length ≤ bEs l
 | [] => by simp
 | e :: l => by have := bEs_len l; have := bE_pos e; simp only [List.length_cons, bEs]; omega
theorem wr_b : ∀ (n : Nat) (e : Ex), SizeOf.sizeOf e ≤ n → (wrE e 2).length + 3 ≤ bE e
 | 0, e, hn => by cases e <;> simp at hn
 | n + 1, e, hn => by
  have many : ∀ (sep : List UInt8) (k : Nat) (l : List Ex), sep.length = 3 → (∀ x ∈ l, SizeOf.sizeOf x ≤ n) → (Lib.join (l.map fun e => wrE e k) sep).length ≤ bEs l := by
   intro sep k l hs hl
   have h1 := join_le sep k l
   have h2 : ∀ l : List Ex, (∀ x ∈ l, SizeOf.sizeOf x ≤ n) → sumE l + 3 * l.length ≤ bEs l := by
    intro l
    induction l with
    | nil => intro _; simp [sumE, bEs]
    | cons x l ih =>
     intro h
     have a := ih fun y hy => h y (by simp [hy])
     have b := wr_b n x (h x (by simp))
     unfold szE at *; simp only [sumE, bEs, List.length_cons, szE]
     omega
   have h3 := h2 l hl
   rw [hs] at h1
   omega
  cases e with
  | cst b => cases b <;> simp [wrE, bE]
  | bit s => simp [wrE, bE]
  | rise s => simp [wrE, bE]
  | fall s => simp [wrE, bE]
  | not x =>
   have := wr_b n x (by simp at hn; omega)
   simp only [wrE, bE, List.length_cons]
   omega
  | and l =>
   have := many [32, 38, 32] 2 l rfl fun x hx => by have := List.sizeOf_lt_of_mem hx; simp only [Ex.and.sizeOf_spec] at hn; omega
   rw [wrE, if_pos (by omega), wrL_map]; simp only [List.length_append, List.length_singleton, bE]
   omega
  | or l =>
   have := many [32, 124, 32] 1 l rfl fun x hx => by have := List.sizeOf_lt_of_mem hx; simp only [Ex.or.sizeOf_spec] at hn; omega
   rw [wrE, if_pos (by omega), wrL_map]; simp only [List.length_append, List.length_singleton, bE]
   omega
theorem wr_len (e : Ex) : (wrE e 2).length ≤ bE e := by have := wr_b _ e (Nat.le_refl _); omega
theorem add_b {out o : List Ex} {x : Ex} (h : addE out x = some o) : bEs o ≤ bEs out + bE x := by
 unfold addE at h
 split at h
 ·obtain rfl := Option.some.inj h; omega
 ·split at h
  ·cases h
  ·obtain rfl := Option.some.inj h
   rw [bEs_app]; simp only [bEs]
   omega
theorem adds_b : ∀ (l out o : List Ex), addsE out l = some o → bEs o ≤ bEs out + bEs l
 | [], out, o, h => by rw [addsE] at h; obtain rfl := Option.some.inj h; omega
 | x :: l, out, o, h => by
  rw [addsE] at h
  split at h
  ·cases h
  ·rename_i o1 h1
   have a := add_b h1
   have b := adds_b l o1 o h
   simp only [bEs]
   omega
theorem pieces_b {and : Bool} {x : Ex} {i : List Ex} (h : piecesE and x = some i) : bEs i ≤ bE x := by
 cases x with
 | cst b =>
  have hp : piecesE and (.cst b) = if b != and then none else some [] := rfl
  rw [hp] at h
  split at h
  ·cases h
  ·obtain rfl := Option.some.inj h; simp [bEs]
 | and l => cases and <;> (obtain rfl := Option.some.inj h; simp [bEs, bE])
 | or l => cases and <;> (obtain rfl := Option.some.inj h; simp [bEs, bE])
 | bit s => obtain rfl := Option.some.inj h; simp [bEs]
 | rise s => obtain rfl := Option.some.inj h; simp [bEs]
 | fall s => obtain rfl := Option.some.inj h; simp [bEs]
 | not y => obtain rfl := Option.some.inj h; simp [bEs]
theorem parts_b {and : Bool} : ∀ (l out o : List Ex), partsE and out l = some o → bEs o ≤ bEs out + bEs l
 | [], out, o, h => by rw [partsE] at h; obtain rfl := Option.some.inj h; omega
 | x :: l, out, o, h => by
  rw [partsE] at h
  split at h
  ·cases h
  ·rename_i i hi
   split at h
   ·cases h
   ·rename_i o1 h1
    have a := pieces_b hi
    have b := adds_b _ _ _ h1
    have c := parts_b l o1 o h
    simp only [bEs]
    omega
theorem fin_b {and : Bool} {l : List Ex} : bE (finE and (partsE and [] l)) ≤ bEs l + 5 := by
 cases h : partsE and [] l with
 | none => simp [finE, bE]
 | some o =>
  have := parts_b l [] o h
  simp only [bEs, Nat.zero_add] at this
  match o, this with
  | [], _ => simp [finE, bE]
  | [x], this => simp only [finE, bEs] at this ⊢; omega
  | x :: y :: o, this => cases and <;> (simp only [finE, grp, bE, if_true, if_false, Bool.false_eq_true]; omega)
theorem tid_b : ∀ (n : Nat) (e : Ex), SizeOf.sizeOf e ≤ n → bE (tidE e) ≤ bE e
 | 0, e, hn => by cases e <;> simp at hn
 | n + 1, e, hn => by
  have many : ∀ (and : Bool) (l : List Ex), (∀ x ∈ l, SizeOf.sizeOf x ≤ n) → bE (finE and (partsE and [] (tidL l))) ≤ bEs l + 5 := by
   intro and l hl
   have h1 : ∀ l : List Ex, (∀ x ∈ l, SizeOf.sizeOf x ≤ n) → bEs (tidL l) ≤ bEs l := by
    intro l
    induction l with
    | nil => intro _; simp [tidL]
    | cons x l ih =>
     intro h
     have a := ih fun y hy => h y (by simp [hy])
     have b := tid_b n x (h x (by simp))
     simp only [tidL, bEs]
     omega
   have a := h1 l hl
   have b := fin_b (and := and) (l := tidL l)
   omega
  cases e with
  | cst b => exact Nat.le_refl _
  | bit s => exact Nat.le_refl _
  | rise s => exact Nat.le_refl _
  | fall s => exact Nat.le_refl _
  | not x =>
   have h := tid_b n x (by simp at hn; omega)
   rw [tidE]
   show _ ≤ bE x + 1
   generalize tidE x = y at h
   have := bE_pos x
   cases y <;> simp only [notE, bE] at h ⊢ <;> omega
  | and l => exact many true l fun x hx => by have := List.sizeOf_lt_of_mem hx; simp only [Ex.and.sizeOf_spec] at hn; omega
  | or l => exact many false l fun x hx => by have := List.sizeOf_lt_of_mem hx; simp only [Ex.or.sizeOf_spec] at hn; omega
theorem tidy_b (e : Ex) : bE (tidE e) ≤ bE e := tid_b _ e (Nat.le_refl _)
theorem sev_fiveB {t : List UInt8} {s : UInt8} {f : Nat → Rs Ex} (hg : Goes t f) (hf : Five bE t f) : ∀ (n i : Nat) (acc l : List Ex) (j : Nat), i ≤ t.length → sevR t s f n i acc = .ok l j → bEs l + 5 * (l.length - 1) ≤ bEs acc + 5 * acc.length + 5 * (j - i) ∧ acc.length < l.length
 | 0, i, acc, l, j, _, h => by simp [sevR] at h
 | n + 1, i, acc, l, j, hi, h => by
  rw [sevR] at h
  cases hfi : f i with
  | err c p q => rw [hfi] at h; cases h
  | ok x k =>
   rw [hfi] at h
   obtain ⟨h1, h2⟩ := hg i x k hi hfi
   have h5 := hf i x k hi hfi
   obtain ⟨t1, t2, t3⟩ := take_goes (c := s) h2
   dsimp only at h
   split at h
   ·rename_i ht
    have h4 := t3 ht
    have ih := sev_fiveB hg hf n _ _ l j t2 h
    have h6 := sev_goes hg n _ _ l j t2 h
    simp only [bEs_app, bEs, List.length_append, List.length_singleton] at ih
    omega
   ·simp only [Rs.ok.injEq] at h
    obtain ⟨rfl, rfl⟩ := h
    simp only [bEs_app, bEs, List.length_append, List.length_singleton]
    omega
theorem colA_fiveB {l : List Ex} {m : Nat} (h : bEs l + 5 * (l.length - 1) ≤ m) (h0 : 0 < l.length) : bE (colA l) ≤ m := by
 by_cases h1 : l.length = 1
 ·obtain ⟨x, rfl⟩ := List.length_eq_one_iff.1 h1
  simp only [bEs, List.length_singleton] at h
  show bE x ≤ m
  omega
 ·rw [colA_ne h1, bE]
  omega
theorem colO_fiveB {l : List Ex} {m : Nat} (h : bEs l + 5 * (l.length - 1) ≤ m) (h0 : 0 < l.length) : bE (colO l) ≤ m := by
 by_cases h1 : l.length = 1
 ·obtain ⟨x, rfl⟩ := List.length_eq_one_iff.1 h1
  simp only [bEs, List.length_singleton] at h
  show bE x ≤ m
  omega
 ·rw [colO_ne h1, bE]
  omega
theorem and_fiveB {t : List UInt8} {one : Nat → Rs Ex} (hg : Goes t one) (h : Five bE t one) : Five bE t (andR t one) := fun i x j hi he => by
 obtain ⟨l, h1, rfl⟩ := map_ok he
 have := sev_fiveB hg h _ _ _ _ _ hi h1
 simp only [bEs, List.length_nil] at this; exact colA_fiveB (by omega) (by omega)
theorem or_fiveB {t : List UInt8} {one : Nat → Rs Ex} (hg : Goes t one) (h : Five bE t one) : Five bE t (orR t one) := fun i x j hi he => by
 obtain ⟨l, h1, rfl⟩ := map_ok he
 have := sev_fiveB (and_goes hg) (and_fiveB hg h) _ _ _ _ _ hi h1
 simp only [bEs, List.length_nil] at this; exact colO_fiveB (by omega) (by omega)
theorem word_fourB (t : List UInt8) (q i j : Nat) (s : List UInt8) (hi : i ≤ t.length) (h : wordR t q i = .ok s j) : s.length ≤ j - i ∧ 1 ≤ j - i := by
 have hg := word_goes t q i s j hi h
 have h1 := skipB_le t i
 unfold wordR at h
 split at h
 ·cases h
 ·split at h
  ·cases h
  ·simp only [Rs.ok.injEq] at h
   obtain ⟨rfl, rfl⟩ := h
   have h4 := wEnd_le t (skipB t i)
   unfold wordS; rw [List.length_take]
   omega
theorem one_fiveB (t : List UInt8) : ∀ d, Five bE t (oneR t d)
 | 0 => fun i x j _ h => by simp [oneR] at h
 | d + 1 => fun i x j hi h => by
  have ih := one_fiveB t d
  have hg := one_goes t d
  have h1 := skipB_le t i
  have h2 := skipB_top hi
  have hb : ∀ {c : UInt8}, t[skipB t i]? = some c → skipB t i < t.length := fun hc => (List.getElem?_eq_some_iff.1 hc).1
  rw [oneR] at h
  split at h
  ·rename_i hc
   have := hb hc
   cases he : oneR t d (skipB t i + 1) with
   | err c p q => rw [he] at h; cases h
   | ok y k =>
    rw [he] at h; simp only [Rs.ok.injEq] at h
    obtain ⟨rfl, rfl⟩ := h
    have h3 := ih _ y k (by omega) he
    have h4 := hg _ y k (by omega) he
    simp only [bE]
    omega
  split at h
  ·rename_i _ hc
   have := hb hc
   cases he : orR t (oneR t d) (skipB t i + 1) with
   | err c p q => rw [he] at h; cases h
   | ok y k =>
    rw [he] at h
    dsimp only at h
    have h3 := or_fiveB hg ih _ y k (by omega) he
    have h4 := or_goes hg _ y k (by omega) he
    obtain ⟨t1, t2, t3⟩ := take_goes (c := 41) h4.2
    split at h
    ·simp only [Rs.ok.injEq] at h
     obtain ⟨rfl, rfl⟩ := h
     omega
    ·cases h
  split at h
  ·rename_i _ _ hc
   have := hb hc
   simp only [Rs.ok.injEq] at h
   obtain ⟨rfl, rfl⟩ := h
   simp only [bE]
   omega
  split at h
  ·rename_i _ _ _ hc
   have := hb hc
   simp only [Rs.ok.injEq] at h
   obtain ⟨rfl, rfl⟩ := h
   simp only [bE]
   omega
  split at h
  ·rename_i _ _ _ _ hc
   have := hb hc
   obtain ⟨s, h3, rfl⟩ := map_ok h
   have h4 := word_fourB t 1 _ j s (by omega) h3
   simp only [bE]
   omega
  split at h
  ·rename_i _ _ _ _ _ hc
   have := hb hc
   obtain ⟨s, h3, rfl⟩ := map_ok h
   have h4 := word_fourB t 2 _ j s (by omega) h3
   simp only [bE]
   omega
  ·obtain ⟨s, h3, rfl⟩ := map_ok h
   have h4 := word_fourB t 3 _ j s (by omega) h3
   simp only [bE]
   omega
theorem parse_b {t : List UInt8} {x : Ex} (h : (parseM t).1 = some x) : bE x ≤ 10000 := by
 unfold parseM at h
 split at h
 ·cases h
 ·rename_i hl
  split at h
  ·cases h
  ·rename_i y i he
   split at h
   ·cases h
   ·obtain rfl := Option.some.inj h
    have h1 := or_fiveB (one_goes t 20) (one_fiveB t 20) 0 y i (Nat.zero_le _) he
    have h2 := or_goes (one_goes t 20) 0 y i (Nat.zero_le _) he
    omega
def addP (out : List Ex) (x : Ex) : List Ex × Bool := if hasT out x then (out, false) else if hasT out (othE x) then (out, true) else (out ++ [x], false)
def addsP : List Ex → List Ex → List Ex × Bool
 | out, [] => (out, false)
 | out, x :: l => if (addP out x).2 then addP out x else addsP (addP out x).1 l
theorem addE_P (out : List Ex) (x : Ex) : addE out x = if (addP out x).2 then none else some (addP out x).1 := by
 unfold addE addP
 split
 ·rfl
 ·split <;> rfl
theorem addsE_P : ∀ (l out : List Ex), addsE out l = if (addsP out l).2 then none else some (addsP out l).1
 | [], out => rfl
 | x :: l, out => by
  rw [addsE, addE_P, addsP]
  by_cases h : (addP out x).2 = true
  ·rw [if_pos h, if_pos h, if_pos h]
  ·rw [if_neg h, if_neg h]; exact addsE_P l _
theorem addP_b (out : List Ex) (x : Ex) : bEs (addP out x).1 ≤ bEs out + bE x := by
 unfold addP
 split
 ·dsimp only; omega
 ·split
  ·dsimp only; omega
  ·rw [bEs_app]; simp only [bEs]; omega
theorem addsP_snoc : ∀ (l out : List Ex) (x : Ex), (addsP out l).2 = false → addsP out (l ++ [x]) = addP (addsP out l).1 x
 | [], out, x, _ => by
  rw [List.nil_append, addsP, addsP]
  dsimp only
  by_cases h : (addP out x).2 = true
  ·rw [if_pos h]
  ·rw [if_neg h]; rw [addsP]
   have : (addP out x).2 = false := by simpa using h
   rw [← this]
 | y :: l, out, x, h => by
  rw [List.cons_append, addsP, addsP]; rw [addsP] at h
  by_cases h1 : (addP out y).2 = true
  ·rw [if_pos h1] at h; rw [h1] at h; cases h
  ·rw [if_neg h1] at h ⊢; rw [if_neg h1]; exact addsP_snoc l _ x h
theorem addsP_stop : ∀ (l out r : List Ex), (addsP out l).2 = true → addsP out (l ++ r) = addsP out l
 | [], out, r, h => by cases h
 | y :: l, out, r, h => by
  rw [List.cons_append, addsP, addsP]; rw [addsP] at h
  by_cases h1 : (addP out y).2 = true
  ·rw [if_pos h1, if_pos h1]
  ·rw [if_neg h1] at h ⊢; rw [if_neg h1]; exact addsP_stop l _ r h
end Go.Proofs.YtagfbbnlbncjlaaGreatDoor
