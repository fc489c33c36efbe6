/-
  Texts that belong together, in one file: Sh2, A1, A2, A3, X5, X6.
-/
import Derived.Test.YtfehigldhedkgaaDoorEd13
import Derived.Test.YtfehigldhedkgaaDoorProg
import Derived.Ground.NamesProg
import Derived.Shelf.Strings.Runes
/-
  DERIVED: THE SHELF's CONTRACTS AT THIS DUMP, IN PLAIN WORDS (tools/lay-plain.mjs out of 'YtfehigldhedkgaaDoorSh2s.lean', which tools/lay-shelf.mjs wrote): THE SAME DECLARATIONS UNDER THE SAME NAMES: 'import', 'namespace', 'open', 'def', 'theorem' AND NOTHING ELSE: no command of the shelf's: FOR A HAND-IN. Each laying: the table of numbers ('.._ren') and one theorem, a field a fact of the dump's own or the kernel's comparison; each contract: ONE APPLICATION.
-/
namespace Go.Proofs
open Go.Shelf
def Tryd.lays151_ren : Go.Shelf.Ren := ⟨fun | 151 => 111 | 152 => 133 | 137 => 131 | 119 => 144 | 224 => 145 | 225 => 146 | 217 => 142 | 266 => 148 | n => n, fun | 9 => 9 | 21 => 21 | 4 => 4 | 3 => 3 | 5 => 5 | 0 => 0 | 46 => 160 | n => n, fun | n => n⟩
theorem Tryd.lays151 : Go.Proofs.Lays.n151 Tryd.prog Tryd.lays151_ren := {
  mixed := by kernel_rfl
  f119 := Tryd.func144.trans (congrArg some (by kernel_rfl))
  f137 := Tryd.func131.trans (congrArg some (by kernel_rfl))
  f151 := Tryd.func111.trans (congrArg some (by kernel_rfl))
  f152 := Tryd.func133.trans (congrArg some (by kernel_rfl))
  f217 := Tryd.func142.trans (congrArg some (by kernel_rfl))
  f224 := Tryd.func145.trans (congrArg some (by kernel_rfl))
  f225 := Tryd.func146.trans (congrArg some (by kernel_rfl))
  f266 := Tryd.func148.trans (congrArg some (by kernel_rfl))
  t0 := Tryd.underlying0
  a0 := Tryd.isAgg0
  z0 := Tryd.sizeOf0
  v0 := Tryd.zeroValue0
  t3 := Tryd.underlying3
  a3 := Tryd.isAgg3
  z3 := Tryd.sizeOf3
  v3 := Tryd.zeroValue3
  t4 := Tryd.underlying4
  a4 := Tryd.isAgg4
  z4 := Tryd.sizeOf4
  v4 := Tryd.zeroValue4
  t5 := Tryd.underlying5
  a5 := Tryd.isAgg5
  z5 := Tryd.sizeOf5
  v5 := Tryd.zeroValue5
  t9 := Tryd.underlying9
  a9 := Tryd.isAgg9
  z9 := Tryd.sizeOf9
  v9 := Tryd.zeroValue9
  t21 := Tryd.underlying21
  a21 := Tryd.isAgg21
  z21 := Tryd.sizeOf21
  v21 := Tryd.zeroValue21
  t46 := Tryd.underlying160
  a46 := Tryd.isAgg160
  z46 := Tryd.sizeOf160
  v46 := Tryd.zeroValue160 }
end Go.Proofs

/-
  The document's reader of expressions: blanks, the next sign, errors; whether a byte is a sign.
-/
namespace Go.Proofs.YtfehigldhedkgaaDoor
set_option linter.unusedSimpArgs false
set_option linter.unusedVariables false
open Go.Av
open Go.Shelf

/-- The reader: what is read, where one is, what is wrong, and where. -/
def pRow (t : List UInt8) (i : Int) (e p : Int) : List (Nat × Row) := [(500, .box 124 [.d (dS t), int i, int e, int p])]

set_option maxHeartbeats 4000000 in
theorem pskip_spec (G : Glob) (t : List UInt8) (i : Nat) (ht : t.length < 2^60) (hi : i ≤ t.length) (e p : Int) :
    MC Tryd.prog G [500] 86 [.ref 500 0 0] (hlst (pRow t i e p)) (.d (.tup [])) (hlst (pRow t (skipB t i) e p)) := by
  refine MC.of_body (tyOf_good _) Tryd.func86 rfl rfl (rs := []) Tryd.results86 (by simp [Tryd.ntmps86]) rfl fun X => ?_
  simp only [Tryd.ntmps86]
  refine AW_for (S := Nat) (fun k => k ≤ t.length ∧ skipB t k = skipB t i) (fun k => ⟨lst [(0, .ref 500 0 0)], hlst [(500, .box 124 [.d (dS t), int k, int e, int p])]⟩) (fun k => t.length - k) i ?_ ⟨hi, rfl⟩ ?_
  · refine Imp.to' (notIn_ok rfl) (by simp [dNum, pRow, dS]) (by simp [dNum, pRow, dS])
  · rintro k ⟨hk, hs⟩
    refine AW_then fun K1 hK1 => ?_
    by_cases hkl : k < t.length
    · have hkl' : (k : Int) < (t.length : Int) := by omega
      by_cases hb : ((t[k]).toNat : Int) = 32
      · refine AW_rd (tyOf_good _) (by kernel_rfl) [0, 23] [500] (notIn_ok rfl) (by kernel_rfl) fun K' hK' => ?_
        repeat (refine sxd_next fun K2 hK2 => ?_; simp [dNum, pRow, dS, bs_size, bs_data, hkl, hb]; (repeat (refine ⟨by omega, ?_⟩)); refine hK2 _ ?_; clear hK2 K2)
        refine sxd_nil (hK' _ ?_)
        refine AW.st (by simp [dNum, pRow, dS, bs_size, bs_data, hkl, hb]; rfl) ?_
        clear hK' K'
        refine AW_cond true rfl (fun _ => ?_) (fun h => by cases h)
        refine AW_skip (hK1 _ ?_)
        refine AW_block ?_
        refine AW_re (tyOf_good _) fun K' hK' => ?_
        repeat (refine sxf_next fun K2 hK2 => ?_; simp [dNum, pRow, dS]; (repeat (refine ⟨by omega, ?_⟩)); refine hK2 _ ?_; clear hK2 K2)
        refine sxf_nil (hK' _ ?_)
        clear hK' K'
        try simp only [thn, inb]
        have h32 : t[k]? = some 32 := by
          rw [List.getElem?_eq_getElem hkl, (u8_eq _ 32 (by decide)).1 hb]; rfl
        refine Again.mk (k + 1) ⟨by omega, ?_⟩ (by omega) ?_
        · rw [← skipB_blank h32]; exact hs
        refine Imp.to' (notIn_ok rfl) (by simp [dNum, pRow, dS]) (by simp [dNum, pRow, dS])
      · refine AW_rd (tyOf_good _) (by kernel_rfl) [0, 23] [500] (notIn_ok rfl) (by kernel_rfl) fun K' hK' => ?_
        repeat (refine sxd_next fun K2 hK2 => ?_; simp [dNum, pRow, dS, bs_size, bs_data, hkl, hb]; (repeat (refine ⟨by omega, ?_⟩)); refine hK2 _ ?_; clear hK2 K2)
        refine sxd_nil (hK' _ ?_)
        refine AW.st (by simp [dNum, pRow, dS, bs_size, bs_data, hkl, hb]; rfl) ?_
        clear hK' K'
        refine AW_cond false rfl (fun h => by cases h) (fun _ => ?_)
        refine AW_exit ?_
        have h32 : t[k]? ≠ some 32 := by
          rw [List.getElem?_eq_getElem hkl]
          intro h
          apply hb
          rw [Option.some.inj h]; rfl
        rw [skipB_stop h32] at hs
        rw [← hs]
        simp [pRow, dS, D.le_refl]
    · obtain rfl : k = t.length := by omega
      refine AW_rd (tyOf_good _) (by kernel_rfl) [0, 23] [500] (notIn_ok rfl) (by kernel_rfl) fun K' hK' => ?_
      repeat (refine sxd_next fun K2 hK2 => ?_; simp [dNum, pRow, dS, bs_size, bs_data]; (repeat (refine ⟨by omega, ?_⟩)); refine hK2 _ ?_; clear hK2 K2)
      refine sxd_nil (hK' _ ?_)
      refine AW.st (by simp [dNum, pRow, dS, bs_size, bs_data]; rfl) ?_
      clear hK' K'
      refine AW_cond false rfl (fun h => by cases h) (fun _ => ?_)
      refine AW_exit ?_
      have h32 : t[t.length]? ≠ some 32 := by simp
      rw [skipB_stop h32] at hs
      rw [← hs]
      simp [pRow, dS, D.le_refl]
/-- The next sign's first byte. -/
def nxB (t : List UInt8) (i : Nat) : UInt8 := t.getD (skipB t i) 0
set_option maxHeartbeats 4000000 in
theorem pnext_spec (G : Glob) (t : List UInt8) (i : Nat) (ht : t.length < 2^60) (hi : i ≤ t.length) (e p : Int) :
    MC Tryd.prog G [500] 62 [.ref 500 0 0] (hlst (pRow t i e p)) (.d (.v (.int .u8 (nxB t i).toNat))) (hlst (pRow t (skipB t i) e p)) := by
  have hsk := pskip_spec G t i ht hi e p
  have htop := skipB_top hi
  unfold nxB
  generalize skipB t i = j at hsk htop ⊢
  by_cases hjl : j < t.length
  · have hjl' : (j : Int) < (t.length : Int) := by omega
    have hgd : t.getD j 0 = t[j] := by simp [List.getD_eq_getElem?_getD, hjl]
    rw [hgd]
    refine MC.of_body (tyOf_good _) Tryd.func62 rfl rfl (rs := [.tmp 2]) Tryd.results62 (by simp [Tryd.ntmps62]) rfl fun X => ?_
    simp only [Tryd.ntmps62]
    refine AW_rg (tyOf_good _) [0] [500] (notIn_ok rfl) fun K' hK' => ?_
    repeat (refine sxf_next fun K2 hK2 => ?_; simp [dNum, pRow, dS]; (repeat (refine ⟨by omega, ?_⟩)); refine hK2 _ ?_; clear hK2 K2)
    refine sxf_nil (hK' _ ?_)
    refine AW.st (by simp [dNum, pRow, dS]; rfl) ?_
    clear hK' K'
    refine AW_rg (tyOf_good _) [0] [500] (notIn_ok rfl) fun K' hK' => ?_
    repeat (refine sxf_next fun K2 hK2 => ?_; simp [dNum, pRow, dS]; (repeat (refine ⟨by omega, ?_⟩)); refine hK2 _ ?_; clear hK2 K2)
    refine sxf_next fun K2 hK2 => ?_
    simp [dNum, pRow, dS]
    refine callK.mc (hsk) (by simp [dNum, pRow, dS]) (by simp [dNum, pRow, dS]) (by simp [dNum, pRow, dS]) (by simp [dNum, pRow, dS]) ?_
    simp [dNum, pRow, dS]
    refine hK2 _ ?_
    clear hK2 K2
    repeat (refine sxf_next fun K2 hK2 => ?_; simp [dNum, pRow, dS]; (repeat (refine ⟨by omega, ?_⟩)); refine hK2 _ ?_; clear hK2 K2)
    refine sxf_nil (hK' _ ?_)
    refine AW.st (by simp [dNum, pRow, dS]; rfl) ?_
    clear hK' K'
    refine AW_then fun K1 hK1 => ?_
    refine AW_rd (tyOf_good _) (by kernel_rfl) [0, 14] [500] (notIn_ok rfl) (by kernel_rfl) fun K' hK' => ?_
    repeat (refine sxd_next fun K2 hK2 => ?_; simp [dNum, pRow, dS, bs_size, hjl, hjl']; (repeat (refine ⟨by omega, ?_⟩)); refine hK2 _ ?_; clear hK2 K2)
    refine sxd_nil (hK' _ ?_)
    refine AW.st (by simp [dNum, pRow, dS, bs_size, hjl, hjl']; rfl) ?_
    clear hK' K'
    refine AW_cond true rfl (fun _ => ?_) (fun h => by cases h)
    refine AW_rd (tyOf_good _) (by kernel_rfl) [2] [500] (notIn_ok rfl) (by kernel_rfl) fun K' hK' => ?_
    repeat (refine sxd_next fun K2 hK2 => ?_; simp [dNum, pRow, dS, bs_size, bs_data, hjl]; (repeat (refine ⟨by omega, ?_⟩)); refine hK2 _ ?_; clear hK2 K2)
    refine sxd_nil (hK' _ ?_)
    refine AW.st (by simp [dNum, pRow, dS, bs_size, bs_data, hjl]; rfl) ?_
    clear hK' K'
    refine AW_ret ?_
    simp [D.le, D.le.go, takeMap, dNum, pRow, dS, pRow, hjl]
  · obtain rfl : j = t.length := by omega
    refine MC.of_body (tyOf_good _) Tryd.func62 rfl rfl (rs := [.tmp 2]) Tryd.results62 (by simp [Tryd.ntmps62]) rfl fun X => ?_
    simp only [Tryd.ntmps62]
    refine AW_rg (tyOf_good _) [0] [500] (notIn_ok rfl) fun K' hK' => ?_
    repeat (refine sxf_next fun K2 hK2 => ?_; simp [dNum, pRow, dS]; (repeat (refine ⟨by omega, ?_⟩)); refine hK2 _ ?_; clear hK2 K2)
    refine sxf_nil (hK' _ ?_)
    refine AW.st (by simp [dNum, pRow, dS]; rfl) ?_
    clear hK' K'
    refine AW_rg (tyOf_good _) [0] [500] (notIn_ok rfl) fun K' hK' => ?_
    repeat (refine sxf_next fun K2 hK2 => ?_; simp [dNum, pRow, dS]; (repeat (refine ⟨by omega, ?_⟩)); refine hK2 _ ?_; clear hK2 K2)
    refine sxf_next fun K2 hK2 => ?_
    simp [dNum, pRow, dS]
    refine callK.mc (hsk) (by simp [dNum, pRow, dS]) (by simp [dNum, pRow, dS]) (by simp [dNum, pRow, dS]) (by simp [dNum, pRow, dS]) ?_
    simp [dNum, pRow, dS]
    refine hK2 _ ?_
    clear hK2 K2
    repeat (refine sxf_next fun K2 hK2 => ?_; simp [dNum, pRow, dS]; (repeat (refine ⟨by omega, ?_⟩)); refine hK2 _ ?_; clear hK2 K2)
    refine sxf_nil (hK' _ ?_)
    refine AW.st (by simp [dNum, pRow, dS]; rfl) ?_
    clear hK' K'
    refine AW_then fun K1 hK1 => ?_
    refine AW_rd (tyOf_good _) (by kernel_rfl) [0, 14] [500] (notIn_ok rfl) (by kernel_rfl) fun K' hK' => ?_
    repeat (refine sxd_next fun K2 hK2 => ?_; simp [dNum, pRow, dS, bs_size]; (repeat (refine ⟨by omega, ?_⟩)); refine hK2 _ ?_; clear hK2 K2)
    refine sxd_nil (hK' _ ?_)
    refine AW.st (by simp [dNum, pRow, dS, bs_size]; rfl) ?_
    clear hK' K'
    refine AW_cond false rfl (fun h => by cases h) (fun _ => ?_)
    refine AW_skip (hK1 _ ?_)
    refine AW_rg (tyOf_good _) [2] [500] (notIn_ok rfl) fun K' hK' => ?_
    repeat (refine sxf_next fun K2 hK2 => ?_; simp [dNum, pRow, dS]; (repeat (refine ⟨by omega, ?_⟩)); refine hK2 _ ?_; clear hK2 K2)
    refine sxf_nil (hK' _ ?_)
    refine AW.st (by simp [dNum, pRow, dS]; rfl) ?_
    clear hK' K'
    refine AW_ret ?_
    simp [D.le, D.le.go, takeMap, dNum, pRow, dS, pRow]
set_option maxHeartbeats 4000000 in
theorem pfail_spec (G : Glob) (t : List UInt8) (i : Nat) (ht : t.length < 2^60) (hi : i ≤ t.length) (e : Int) :
    MC Tryd.prog G [500] 63 [.ref 500 0 0, .d (dNum e)] (hlst (pRow t i 0 (-1))) (.d (.v (.pointer none))) (hlst (pRow t (skipB t i) e (skipB t i))) := by
  have hsk := pskip_spec G t i ht hi 0 (-1)
  generalize skipB t i = j at hsk ⊢
  refine MC.of_body (tyOf_good _) Tryd.func63 rfl rfl (rs := [.tmp 4]) Tryd.results63 (by simp [Tryd.ntmps63]) rfl fun X => ?_
  simp only [Tryd.ntmps63]
  refine AW_rg (tyOf_good _) [0, 1] [500] (notIn_ok rfl) fun K' hK' => ?_
  repeat (refine sxf_next fun K2 hK2 => ?_; simp [dNum, pRow, dS]; (repeat (refine ⟨by omega, ?_⟩)); refine hK2 _ ?_; clear hK2 K2)
  refine sxf_nil (hK' _ ?_)
  refine AW.st (by simp [dNum, pRow, dS]; rfl) ?_
  clear hK' K'
  refine AW_rg (tyOf_good _) [0, 1] [500] (notIn_ok rfl) fun K' hK' => ?_
  repeat (refine sxf_next fun K2 hK2 => ?_; simp [dNum, pRow, dS]; (repeat (refine ⟨by omega, ?_⟩)); refine hK2 _ ?_; clear hK2 K2)
  refine sxf_next fun K2 hK2 => ?_
  simp [dNum, pRow, dS]
  refine callK.mc (hsk) (by simp [dNum, pRow, dS]) (by simp [dNum, pRow, dS]) (by simp [dNum, pRow, dS]) (by simp [dNum, pRow, dS]) ?_
  simp [dNum, pRow, dS]
  refine hK2 _ ?_
  clear hK2 K2
  repeat (refine sxf_next fun K2 hK2 => ?_; simp [dNum, pRow, dS]; (repeat (refine ⟨by omega, ?_⟩)); refine hK2 _ ?_; clear hK2 K2)
  refine sxf_nil (hK' _ ?_)
  refine AW.st (by simp [dNum, pRow, dS]; rfl) ?_
  clear hK' K'
  refine AW_then fun K1 hK1 => ?_
  refine AW_rg (tyOf_good _) [0, 1, 12] [500] (notIn_ok rfl) fun K' hK' => ?_
  repeat (refine sxf_next fun K2 hK2 => ?_; simp [dNum, pRow, dS]; (repeat (refine ⟨by omega, ?_⟩)); refine hK2 _ ?_; clear hK2 K2)
  refine sxf_nil (hK' _ ?_)
  refine AW.st (by simp [dNum, pRow, dS]; rfl) ?_
  clear hK' K'
  refine AW_cond true rfl (fun _ => ?_) (fun h => by cases h)
  refine AW_re (tyOf_good _) fun K' hK' => ?_
  repeat (refine sxf_next fun K2 hK2 => ?_; simp [dNum, pRow, dS]; (repeat (refine ⟨by omega, ?_⟩)); refine hK2 _ ?_; clear hK2 K2)
  refine sxf_nil (hK' _ ?_)
  clear hK' K'
  refine hK1 _ (AW.norm [] [500] (notIn_ok rfl) (AW.st (by simp [dNum, pRow, dS]; rfl) ?_))
  refine AW_rg (tyOf_good _) [4] [500] (notIn_ok rfl) fun K' hK' => ?_
  repeat (refine sxf_next fun K2 hK2 => ?_; simp [dNum, pRow, dS]; (repeat (refine ⟨by omega, ?_⟩)); refine hK2 _ ?_; clear hK2 K2)
  refine sxf_nil (hK' _ ?_)
  refine AW.st (by simp [dNum, pRow, dS]; rfl) ?_
  clear hK' K'
  refine AW_ret ?_
  simp [D.le, D.le.go, takeMap, dNum, pRow, dS, pRow]
/-! ### Whether a byte is a sign -/
def set9 : List UInt8 := [32, 38, 124, 33, 94, 126, 40, 41, 61]
theorem isSgn9 (c : UInt8) : isSgn c = set9.contains c := rfl
theorem enc_big {c : UInt8} (h : 128 ≤ c.toNat) : ∃ b0 b1 : UInt8, Utf8.encode (c.toNat : Int) = bs [b0, b1] ∧ 128 ≤ b1.toNat := by
  have hv : Utf8.valid (c.toNat : Int) = true := by
    have hc := c.toNat_lt
    simp [Utf8.valid]
    omega
  refine ⟨UInt8.ofNat (0xC0 + c.toNat / 64), UInt8.ofNat (0x80 + c.toNat % 64), ?_, ?_⟩
  · have hc := c.toNat_lt
    unfold Utf8.encode
    rw [hv]
    simp only [if_true, Int.toNat_natCast]
    rw [if_neg (by omega), if_pos (by omega)]
    rfl
  · simp
    omega
theorem vrune_spec (G : Glob) (n : Nat) (h : n < 256) : PureC Tryd.prog G 144 [.v (.int .i32 n)] (.v (.bool true)) := by
  have h1 : (n : Int) < 55296 := by omega
  refine PureC.of_body (tyOf_good _) Tryd.func144 rfl rfl (rs := [.tmp 2]) Tryd.results144 (by simp [Tryd.ntmps144]) fun X => ?_
  simp only [Tryd.ntmps144, List.map]
  refine AW_rg (tyOf_good _) [0] [] (fun _ _ => trivial) fun K' hK' => ?_
  repeat (refine sxf_next fun K2 hK2 => ?_; simp [dNum, dS]; (repeat (refine ⟨by omega, ?_⟩)); refine hK2 _ ?_; clear hK2 K2)
  refine sxf_nil (hK' _ ?_)
  refine AW.st (by simp [dNum, dS]; rfl) ?_
  clear hK' K'
  refine AW_then fun K1 hK1 => ?_
  refine AW_block ?_
  refine AW_rg (tyOf_good _) [0, 3] [] (fun _ _ => trivial) fun K' hK' => ?_
  repeat (refine sxf_next fun K2 hK2 => ?_; simp [dNum, dS, h1]; (repeat (refine ⟨by omega, ?_⟩)); refine hK2 _ ?_; clear hK2 K2)
  refine sxf_nil (hK' _ ?_)
  refine AW.st (by simp [dNum, dS, h1]; rfl) ?_
  clear hK' K'
  refine AW_cond true rfl (fun _ => ?_) (fun h => by cases h)
  refine AW_rg (tyOf_good _) [2] [] (fun _ _ => trivial) fun K' hK' => ?_
  repeat (refine sxf_next fun K2 hK2 => ?_; simp [dNum, dS]; (repeat (refine ⟨by omega, ?_⟩)); refine hK2 _ ?_; clear hK2 K2)
  refine sxf_nil (hK' _ ?_)
  refine AW.st (by simp [dNum, dS]; rfl) ?_
  clear hK' K'
  refine AW_ret ?_
  simp [D.le, D.le.go, takeMap, dNum, dS]
set_option maxHeartbeats 4000000 in
theorem irune_big (G : Glob) (c : UInt8) (h : 128 ≤ c.toNat) : PureC Tryd.prog G 133 [dS set9, .v (.int .i32 c.toNat)] (dNum (-1)) := by
  have hc := c.toNat_lt
  obtain ⟨b0, b1, he, hb⟩ := enc_big h
  have h1 : ¬ (c.toNat : Int) < 128 := by omega
  have h2 : ¬ (c.toNat : Int) = 65533 := by omega
  have hv := vrune_spec G c.toNat hc
  have hb2 : ¬ (38 : Int) = (b1.toNat : Int) := by omega
  have hix := ixb_spec G [124, 33, 94, 126, 40, 41, 61] b1
  have hneg : Lib.indexByte [124, 33, 94, 126, 40, 41, 61] b1 < 0 := (ixb_neg _ _).2 (by
    intro hm
    have : ∀ x ∈ ([124, 33, 94, 126, 40, 41, 61] : List UInt8), x.toNat < 128 := by decide
    have := this _ hm
    omega)
  have hsl : (bs set9).extract 2 9 = bs [124, 33, 94, 126, 40, 41, 61] := rfl
  refine PureC.of_body (tyOf_good _) Tryd.func133 rfl rfl (rs := [.tmp 4]) Tryd.results133 (by simp [Tryd.ntmps133]) fun X => ?_
  simp only [Tryd.ntmps133, List.map]
  refine AW_rg (tyOf_good _) [0, 1] [] (fun _ _ => trivial) fun K' hK' => ?_
  repeat (refine sxf_next fun K2 hK2 => ?_; simp [dNum, dS]; (repeat (refine ⟨by omega, ?_⟩)); refine hK2 _ ?_; clear hK2 K2)
  refine sxf_nil (hK' _ ?_)
  refine AW.st (by simp [dNum, dS]; rfl) ?_
  clear hK' K'
  refine AW_block ?_
  refine AW_rg (tyOf_good _) [0, 1, 160] [] (fun _ _ => trivial) fun K' hK' => ?_
  repeat (refine sxf_next fun K2 hK2 => ?_; simp [dNum, dS, h1]; (repeat (refine ⟨by omega, ?_⟩)); refine hK2 _ ?_; clear hK2 K2)
  refine sxf_nil (hK' _ ?_)
  refine AW.st (by simp [dNum, dS, h1]; rfl) ?_
  clear hK' K'
  refine AW_cond false rfl (fun h => by cases h) (fun _ => ?_)
  refine AW_rg (tyOf_good _) [0, 1, 171] [] (fun _ _ => trivial) fun K' hK' => ?_
  repeat (refine sxf_next fun K2 hK2 => ?_; simp [dNum, dS, h2]; (repeat (refine ⟨by omega, ?_⟩)); refine hK2 _ ?_; clear hK2 K2)
  refine sxf_nil (hK' _ ?_)
  refine AW.st (by simp [dNum, dS, h2]; rfl) ?_
  clear hK' K'
  refine AW_cond false rfl (fun h => by cases h) (fun _ => ?_)
  refine AW_rg (tyOf_good _) [0, 1, 183] [] (fun _ _ => trivial) fun K' hK' => ?_
  repeat (refine sxf_next fun K2 hK2 => ?_; simp [dNum, dS]; (repeat (refine ⟨by omega, ?_⟩)); refine hK2 _ ?_; clear hK2 K2)
  refine sxf_next fun K2 hK2 => ?_
  simp [dNum, dS]
  refine callK.data (hv) (by simp; rfl) (by first | exact D.leGo_refl _ | simp [takeMap, List.map_map, Function.comp_def, D.le, D.le.go, D.le_refl, D.leGo_refl, dNum, dS]) ?_
  refine hK2 _ ?_
  clear hK2 K2
  simp only [putd, upd_lst]
  repeat (refine sxf_next fun K2 hK2 => ?_; simp [dNum, dS]; (repeat (refine ⟨by omega, ?_⟩)); refine hK2 _ ?_; clear hK2 K2)
  refine sxf_nil (hK' _ ?_)
  refine AW.st (by simp [dNum, dS]; rfl) ?_
  clear hK' K'
  refine AW_cond false rfl (fun h => by cases h) (fun _ => ?_)
  refine AW_scope ?_
  refine AW_rg (tyOf_good _) [0, 7] [] (fun _ _ => trivial) fun K' hK' => ?_
  repeat (refine sxf_next fun K2 hK2 => ?_; simp [dNum, dS, he]; (repeat (refine ⟨by omega, ?_⟩)); refine hK2 _ ?_; clear hK2 K2)
  refine sxf_nil (hK' _ ?_)
  refine AW.st (by simp [dNum, dS, he]; rfl) ?_
  clear hK' K'
  refine AW_rg (tyOf_good _) [0, 7, 8] [] (fun _ _ => trivial) fun K' hK' => ?_
  repeat (refine sxf_next fun K2 hK2 => ?_; simp [dNum, dS, bs_size]; (repeat (refine ⟨by omega, ?_⟩)); refine hK2 _ ?_; clear hK2 K2)
  refine sxf_nil (hK' _ ?_)
  refine AW.st (by simp [dNum, dS, bs_size]; rfl) ?_
  clear hK' K'
  refine AW_rg (tyOf_good _) [0, 7, 8, 9] [] (fun _ _ => trivial) fun K' hK' => ?_
  repeat (refine sxf_next fun K2 hK2 => ?_; simp [dNum, dS]; (repeat (refine ⟨by omega, ?_⟩)); refine hK2 _ ?_; clear hK2 K2)
  refine sxf_nil (hK' _ ?_)
  refine AW.st (by simp [dNum, dS]; rfl) ?_
  clear hK' K'
  refine AW_rg (tyOf_good _) [0, 7, 8, 9] [] (fun _ _ => trivial) fun K' hK' => ?_
  repeat (refine sxf_next fun K2 hK2 => ?_; simp [dNum, dS]; (repeat (refine ⟨by omega, ?_⟩)); refine hK2 _ ?_; clear hK2 K2)
  refine sxf_nil (hK' _ ?_)
  refine AW.st (by simp [dNum, dS]; rfl) ?_
  clear hK' K'
  refine AW_then fun K3 hK3 => ?_
  refine AW_for (S := Nat) (fun n => True) (fun n => ⟨lst [(0, .d (dS set9)), (7, .d (dS [b0, b1])), (8, int 1), (9, int 1)], hlst []⟩) (fun n => 0) 0 ?_ trivial ?_
  · refine Imp.to' (fun _ _ => trivial) (by simp [dNum, dS]) (by simp [dNum, dS])
  · intro n hn
    refine AW_then fun K4 hK4 => ?_
    refine AW_rg (tyOf_good _) [0, 7, 8, 9, 26] [] (fun _ _ => trivial) fun K' hK' => ?_
    repeat (refine sxf_next fun K2 hK2 => ?_; simp [dNum, dS, bs_size, set9]; (repeat (refine ⟨by omega, ?_⟩)); refine hK2 _ ?_; clear hK2 K2)
    refine sxf_nil (hK' _ ?_)
    refine AW.st (by simp [dNum, dS, bs_size, set9]; rfl) ?_
    clear hK' K'
    refine AW_cond true rfl (fun _ => ?_) (fun h => by cases h)
    refine AW_skip (hK4 _ ?_)
    refine AW_block ?_
    refine AW_scope ?_
    refine AW_then fun K5 hK5 => ?_
    refine AW_rd (tyOf_good _) (by kernel_rfl) [0, 7, 8, 9, 33] [] (fun _ _ => trivial) (by kernel_rfl) fun K' hK' => ?_
    repeat (refine sxd_next fun K2 hK2 => ?_; simp [dNum, dS, bs_size, bs_data, set9, hb2]; (repeat (refine ⟨by omega, ?_⟩)); refine hK2 _ ?_; clear hK2 K2)
    refine sxd_nil (hK' _ ?_)
    refine AW.st (by simp [dNum, dS, bs_size, bs_data, set9, hb2]; rfl) ?_
    clear hK' K'
    refine AW_cond true rfl (fun _ => ?_) (fun h => by cases h)
    refine AW_rd (tyOf_good _) (by kernel_rfl) [0, 7, 8, 9, 11] [] (fun _ _ => trivial) (by kernel_rfl) fun K' hK' => ?_
    repeat (refine sxd_next fun K2 hK2 => ?_; simp [dNum, dS, bs_size, bs_data, set9, hsl]; (repeat (refine ⟨by omega, ?_⟩)); refine hK2 _ ?_; clear hK2 K2)
    refine sxd_next fun K2 hK2 => ?_
    simp [dNum, dS, bs_size, bs_data, set9, hsl]
    refine callQ.data (hix) (by simp; rfl) (by simp; rfl) (by first | exact D.leGo_refl _ | simp [takeMap, List.map_map, Function.comp_def, D.le, D.le.go, D.le_refl, D.leGo_refl, dNum, dS, bs_size, bs_data, set9, hsl]) ?_
    refine hK2 _ ?_
    clear hK2 K2
    simp only [putd, upd_lst]
    repeat (refine sxd_next fun K2 hK2 => ?_; simp [dNum, dS, bs_size, bs_data, set9, hsl]; (repeat (refine ⟨by omega, ?_⟩)); refine hK2 _ ?_; clear hK2 K2)
    refine sxd_nil (hK' _ ?_)
    refine AW.st (by simp [dNum, dS, bs_size, bs_data, set9, hsl]; rfl) ?_
    clear hK' K'
    refine AW_then fun K6 hK6 => ?_
    refine AW_rg (tyOf_good _) [0, 7, 8, 9, 11, 43] [] (fun _ _ => trivial) fun K' hK' => ?_
    repeat (refine sxf_next fun K2 hK2 => ?_; simp [dNum, dS, hneg]; (repeat (refine ⟨by omega, ?_⟩)); refine hK2 _ ?_; clear hK2 K2)
    refine sxf_nil (hK' _ ?_)
    refine AW.st (by simp [dNum, dS, hneg]; rfl) ?_
    clear hK' K'
    refine AW_cond true rfl (fun _ => ?_) (fun h => by cases h)
    refine AW_rg (tyOf_good _) [4] [] (fun _ _ => trivial) fun K' hK' => ?_
    repeat (refine sxf_next fun K2 hK2 => ?_; simp [dNum, dS]; (repeat (refine ⟨by omega, ?_⟩)); refine hK2 _ ?_; clear hK2 K2)
    refine sxf_nil (hK' _ ?_)
    refine AW.st (by simp [dNum, dS]; rfl) ?_
    clear hK' K'
    refine AW_ret ?_
    simp [D.le, D.le.go, takeMap, dNum, dS]
theorem crune_spec (G : Glob) (c : UInt8) : PureC Tryd.prog G 111 [dS set9, .v (.int .i32 c.toNat)] (.v (.bool (isSgn c))) := by
  by_cases h : c.toNat < 128
  · refine PureC.of_calls (Fun.of Tryd.func111 rfl rfl) fun X w vs hsz hrd hgl => ?_
    obtain ⟨a, b, rfl⟩ : ∃ a b, vs = #[a, b] := by
      match vs, hsz with
      | ⟨[a, b]⟩, _ => exact ⟨a, b, rfl⟩
    have ha := (hrd 0 a _ rfl rfl).scalar
    have hb := (hrd 1 b _ rfl rfl).scalar
    subst ha hb
    have hcon := Any.strings_ContainsRune_ascii (P := Tryd.prog) (ρ := Tryd.lays151_ren) { Tryd.lays151 with } (bs set9) c.toNat w (by omega) (by omega)
    rw [show (c.toNat : Int).toNat.toUInt8 = c by simp] at hcon
    refine hcon.mono fun e w' ⟨he, hw⟩ => ⟨_, he, by rw [hw]; exact Grew.refl _, ?_⟩
    have hbb : decide (0 ≤ Lib.indexByte (bs set9).data.toList c) = isSgn c := by
      rw [isSgn9, Bool.eq_iff_iff, decide_eq_true_eq, List.contains_iff_mem]
      have := ixb_neg set9 c
      have e : (bs set9).data.toList = set9 := rfl
      rw [e]
      constructor
      · intro h0
        apply Classical.byContradiction
        intro hn
        have := this.2 hn
        omega
      · intro hm
        apply Classical.byContradiction
        intro hn
        exact this.1 (by omega) hm
    rw [hbb]
    exact .v _
  · have hbig := irune_big G c (by omega)
    have hno : isSgn c = false := by
      have h : ∀ n : Fin 256, 128 ≤ n.val → isSgn (UInt8.ofNat n) = false := by decide +kernel
      have := h ⟨c.toNat, c.toNat_lt⟩ (by simp; omega)
      simpa using this
    rw [hno]
    refine PureC.of_body (tyOf_good _) Tryd.func111 rfl rfl (rs := [.tmp 4]) Tryd.results111 (by simp [Tryd.ntmps111]) fun X => ?_
    simp only [Tryd.ntmps111, List.map]
    refine AW_rg (tyOf_good _) [0, 1] [] (fun _ _ => trivial) fun K' hK' => ?_
    repeat (refine sxf_next fun K2 hK2 => ?_; simp [dNum, dS]; (repeat (refine ⟨by omega, ?_⟩)); refine hK2 _ ?_; clear hK2 K2)
    refine sxf_nil (hK' _ ?_)
    refine AW.st (by simp [dNum, dS]; rfl) ?_
    clear hK' K'
    refine AW_rg (tyOf_good _) [4] [] (fun _ _ => trivial) fun K' hK' => ?_
    repeat (refine sxf_next fun K2 hK2 => ?_; simp [dNum, dS]; (repeat (refine ⟨by omega, ?_⟩)); refine hK2 _ ?_; clear hK2 K2)
    refine sxf_next fun K2 hK2 => ?_
    simp [dNum, dS]
    refine callK.data (hbig) (by simp; rfl) (by first | exact D.leGo_refl _ | simp [takeMap, List.map_map, Function.comp_def, D.le, D.le.go, D.le_refl, D.leGo_refl, dNum, dS]) ?_
    refine hK2 _ ?_
    clear hK2 K2
    simp only [putd, upd_lst]
    repeat (refine sxf_next fun K2 hK2 => ?_; simp [dNum, dS]; (repeat (refine ⟨by omega, ?_⟩)); refine hK2 _ ?_; clear hK2 K2)
    refine sxf_nil (hK' _ ?_)
    refine AW.st (by simp [dNum, dS]; rfl) ?_
    clear hK' K'
    refine AW_ret ?_
    simp [D.le, D.le.go, takeMap, dNum, dS]
end Go.Proofs.YtfehigldhedkgaaDoor

/-
  The document's reader of expressions: a name.
-/
namespace Go.Proofs.YtfehigldhedkgaaDoor
set_option linter.unusedSimpArgs false
set_option linter.unusedVariables false
open Go.Av

def eR {α : Type} : Rs α → Int
  | .ok _ _ => 0
  | .err c _ _ => c
def pR {α : Type} : Rs α → Int
  | .ok _ _ => -1
  | .err _ p _ => p
theorem u8_wrap (c : UInt8) : IntKind.i32.wrap (c.toNat : Int) = (c.toNat : Int) := by
  have h : ∀ n : Fin 256, IntKind.i32.wrap ((UInt8.ofNat n.val).toNat : Int) = ((UInt8.ofNat n.val).toNat : Int) := by decide +kernel
  have := h ⟨c.toNat, c.toNat_lt⟩
  simpa using this
theorem wrap48 : IntKind.i32.wrap 48 = 48 := by decide +kernel
theorem wrap49 : IntKind.i32.wrap 49 = 49 := by decide +kernel
theorem set9_lit : (⟨#[32, 38, 124, 33, 94, 126, 40, 41, 61]⟩ : ByteArray) = bs set9 := rfl

set_option maxHeartbeats 8000000 in
theorem pword_spec (G : Glob) (t : List UInt8) (q i : Nat) (ht : t.length < 2^60) (hi : i ≤ t.length) :
    MC Tryd.prog G [500] 98 [.ref 500 0 0] (hlst (pRow t i 0 (-1))) (.d (dS (wordS t (skipB t i)))) (hlst (pRow t (posR (wordR t q i)) (eR (wordR t q i)) (pR (wordR t q i)))) := by
  have hsk := pskip_spec G t i ht hi 0 (-1)
  have htop := skipB_top hi
  have hidem := skipB_idem hi
  unfold wordR
  generalize skipB t i = j at hsk htop hidem ⊢
  have hf3 := pfail_spec G t j ht htop 3
  have hf5 := pfail_spec G t j ht htop 5
  rw [hidem] at hf3 hf5
  have hel := wEnd_le t j
  have het := wEnd_top htop
  have hws : (t.drop j).take (wEnd t j - j) = wordS t j := rfl
  have hslen : (wordS t j).length < 2^60 := by
    rw [← hws, List.length_take, List.length_drop]; omega
  have hname := ncheck_spec G (wordS t j) hslen
  rw [← name_same] at hname
  refine MC.of_body (tyOf_good _) Tryd.func98 rfl rfl (rs := [.tmp 2]) Tryd.results98 (by simp [Tryd.ntmps98]) rfl fun X => ?_
  simp only [Tryd.ntmps98]
  refine AW_rg (tyOf_good _) [0] [500] (notIn_ok rfl) fun K' hK' => ?_
  repeat (refine sxf_next fun K2 hK2 => ?_; simp [dNum, pRow, dS]; (repeat (refine ⟨by omega, ?_⟩)); refine hK2 _ ?_; clear hK2 K2)
  refine sxf_nil (hK' _ ?_)
  refine AW.st (by simp [dNum, pRow, dS]; rfl) ?_
  clear hK' K'
  refine AW_rg (tyOf_good _) [0] [500] (notIn_ok rfl) fun K' hK' => ?_
  repeat (refine sxf_next fun K2 hK2 => ?_; simp [dNum, pRow, dS]; (repeat (refine ⟨by omega, ?_⟩)); refine hK2 _ ?_; clear hK2 K2)
  refine sxf_next fun K2 hK2 => ?_
  simp [dNum, pRow, dS]
  refine callK.mc (hsk) (by simp [dNum, pRow, dS]) (by simp [dNum, pRow, dS]) (by simp [dNum, pRow, dS]) (by simp [dNum, pRow, dS]) ?_
  simp [dNum, pRow, dS]
  refine hK2 _ ?_
  clear hK2 K2
  repeat (refine sxf_next fun K2 hK2 => ?_; simp [dNum, pRow, dS]; (repeat (refine ⟨by omega, ?_⟩)); refine hK2 _ ?_; clear hK2 K2)
  refine sxf_nil (hK' _ ?_)
  refine AW.st (by simp [dNum, pRow, dS]; rfl) ?_
  clear hK' K'
  refine AW_rg (tyOf_good _) [0, 3] [500] (notIn_ok rfl) fun K' hK' => ?_
  repeat (refine sxf_next fun K2 hK2 => ?_; simp [dNum, pRow, dS]; (repeat (refine ⟨by omega, ?_⟩)); refine hK2 _ ?_; clear hK2 K2)
  refine sxf_nil (hK' _ ?_)
  refine AW.st (by simp [dNum, pRow, dS]; rfl) ?_
  clear hK' K'
  refine AW_then fun K1 hK1 => ?_
  refine AW_for (S := Nat) (fun k => j ≤ k ∧ k ≤ t.length ∧ AtW t j k) (fun k => ⟨lst [(0, .ref 500 0 0), (3, int k)], hlst [(500, .box 124 [.d (dS t), int j, int 0, int (-1)])]⟩) (fun k => t.length - k) j ?_ ⟨Nat.le_refl _, htop, .inl rfl⟩ ?_
  · refine Imp.to' (notIn_ok rfl) (by simp [dNum, pRow, dS]) (by simp [dNum, pRow, dS])
  · rintro k ⟨hjk, hk, hat⟩
    refine AW_then fun K2 hK2 => ?_
    refine (fun hgo hstop => ?_) (fun (σ : St) (hn : AtW t j (k + 1)) (hkl : k < t.length) himp => hK2 σ (AW.imp (τ := ⟨lst [(0, .ref 500 0 0), (3, int k)], hlst [(500, .box 124 [.d (dS t), int j, int 0, int (-1)])]⟩) himp ?_))
      (fun (σ : St) (he : k = wEnd t j) himp => hK1 σ (AW.imp (τ := ⟨lst [(0, .ref 500 0 0), (3, int k)], hlst [(500, .box 124 [.d (dS t), int j, int 0, int (-1)])]⟩) himp ?_))
    · by_cases hkl : k < t.length
      · have hcr := crune_spec G t[k]
        have hm11 := mem11 t[k]
        cases hsg : isSgn t[k] with
        | true =>
          rw [hsg] at hcr hm11
          refine AW_rg (tyOf_good _) [0, 3, 54] [500] (notIn_ok rfl) fun K' hK' => ?_
          repeat (refine sxf_next fun K2 hK2 => ?_; simp [dNum, pRow, dS, bs_size, bs_data, set9_lit, u8_wrap, hkl]; (repeat (refine ⟨by omega, ?_⟩)); refine hK2 _ ?_; clear hK2 K2)
          refine sxf_next fun K2 hK2 => ?_
          simp [dNum, pRow, dS, bs_size, bs_data, set9_lit, u8_wrap, hkl]
          refine callK.data (hcr) (by simp; rfl) (by first | exact D.leGo_refl _ | simp [takeMap, List.map_map, Function.comp_def, D.le, D.le.go, D.le_refl, D.leGo_refl, dNum, pRow, dS, bs_size, bs_data, set9_lit, u8_wrap, hkl]) ?_
          refine hK2 _ ?_
          clear hK2 K2
          simp only [putd, upd_lst]
          repeat (refine sxf_next fun K2 hK2 => ?_; simp [dNum, pRow, dS, bs_size, bs_data, set9_lit, u8_wrap, hkl]; (repeat (refine ⟨by omega, ?_⟩)); refine hK2 _ ?_; clear hK2 K2)
          refine sxf_nil (hK' _ ?_)
          refine AW.st (by simp [dNum, pRow, dS, bs_size, bs_data, set9_lit, u8_wrap, hkl]; rfl) ?_
          clear hK' K'
          refine AW_cond false rfl (fun h => by cases h) (fun _ => ?_)
          refine AW_exit (hstop _ (atW_exit hat hk fun _ => ⟨hm11.2 (.inl rfl), fun _ => ⟨fun e => ?_, fun e => ?_⟩⟩) ?_)
          · rw [e] at hsg; exact absurd hsg (by decide)
          · rw [e] at hsg; exact absurd hsg (by decide)
          · refine Imp.to' (notIn_ok rfl) (by simp [dNum, pRow, dS]) (by simp [dNum, pRow, dS])
        | false =>
          rw [hsg] at hcr hm11
          by_cases hjk' : j < k
          · have hjk2 : (j : Int) < (k : Int) := by omega
            have hgo2 : t[k] ∉ set11 ∨ (j < k ∧ (t[k] = 48 ∨ t[k] = 49)) := by
              by_cases hm : t[k] ∈ set11
              · rcases hm11.1 hm with h | h | h
                · cases h
                · exact .inr ⟨hjk', .inl h⟩
                · exact .inr ⟨hjk', .inr h⟩
              · exact .inl hm
            refine AW_rg (tyOf_good _) [0, 3, 54] [500] (notIn_ok rfl) fun K' hK' => ?_
            repeat (refine sxf_next fun K2 hK2 => ?_; simp [dNum, pRow, dS, bs_size, bs_data, set9_lit, u8_wrap, hkl, hjk2, hjk']; (repeat (refine ⟨by omega, ?_⟩)); refine hK2 _ ?_; clear hK2 K2)
            refine sxf_next fun K2 hK2 => ?_
            simp [dNum, pRow, dS, bs_size, bs_data, set9_lit, u8_wrap, hkl, hjk2, hjk']
            refine callK.data (hcr) (by simp; rfl) (by first | exact D.leGo_refl _ | simp [takeMap, List.map_map, Function.comp_def, D.le, D.le.go, D.le_refl, D.leGo_refl, dNum, pRow, dS, bs_size, bs_data, set9_lit, u8_wrap, hkl, hjk2, hjk']) ?_
            refine hK2 _ ?_
            clear hK2 K2
            simp only [putd, upd_lst]
            repeat (refine sxf_next fun K2 hK2 => ?_; simp [dNum, pRow, dS, bs_size, bs_data, set9_lit, u8_wrap, hkl, hjk2, hjk']; (repeat (refine ⟨by omega, ?_⟩)); refine hK2 _ ?_; clear hK2 K2)
            refine sxf_nil (hK' _ ?_)
            refine AW.st (by simp [dNum, pRow, dS, bs_size, bs_data, set9_lit, u8_wrap, hkl, hjk2, hjk']; rfl) ?_
            clear hK' K'
            refine AW_cond true rfl (fun _ => ?_) (fun h => by cases h)
            refine AW_skip (hgo _ (atW_next hat hkl hgo2) hkl ?_)
            refine Imp.to' (notIn_ok rfl) (by simp [dNum, pRow, dS]) (by simp [dNum, pRow, dS])
          · have hjk2 : ¬ (j : Int) < (k : Int) := by omega
            by_cases h48 : ((t[k]).toNat : Int) = 48
            · have hc : t[k] = 48 := (u8_eq _ 48 (by decide)).1 h48
              rw [h48] at hcr
              refine AW_rg (tyOf_good _) [0, 3, 54] [500] (notIn_ok rfl) fun K' hK' => ?_
              repeat (refine sxf_next fun K2 hK2 => ?_; simp [dNum, pRow, dS, bs_size, bs_data, set9_lit, wrap48, hkl, hjk2, hjk', h48]; (repeat (refine ⟨by omega, ?_⟩)); refine hK2 _ ?_; clear hK2 K2)
              refine sxf_next fun K2 hK2 => ?_
              simp [dNum, pRow, dS, bs_size, bs_data, set9_lit, wrap48, hkl, hjk2, hjk', h48]
              refine callK.data (hcr) (by simp; rfl) (by first | exact D.leGo_refl _ | simp [takeMap, List.map_map, Function.comp_def, D.le, D.le.go, D.le_refl, D.leGo_refl, dNum, pRow, dS, bs_size, bs_data, set9_lit, wrap48, hkl, hjk2, hjk', h48]) ?_
              refine hK2 _ ?_
              clear hK2 K2
              simp only [putd, upd_lst]
              repeat (refine sxf_next fun K2 hK2 => ?_; simp [dNum, pRow, dS, bs_size, bs_data, set9_lit, wrap48, hkl, hjk2, hjk', h48]; (repeat (refine ⟨by omega, ?_⟩)); refine hK2 _ ?_; clear hK2 K2)
              refine sxf_nil (hK' _ ?_)
              refine AW.st (by simp [dNum, pRow, dS, bs_size, bs_data, set9_lit, wrap48, hkl, hjk2, hjk', h48]; rfl) ?_
              clear hK' K'
              refine AW_cond false rfl (fun h => by cases h) (fun _ => ?_)
              refine AW_exit (hstop _ (atW_exit hat hk fun _ => ⟨hm11.2 (.inr (.inl hc)), fun h => absurd h hjk'⟩) ?_)
              refine Imp.to' (notIn_ok rfl) (by simp [dNum, pRow, dS]) (by simp [dNum, pRow, dS])
            · by_cases h49 : ((t[k]).toNat : Int) = 49
              · have hc : t[k] = 49 := (u8_eq _ 49 (by decide)).1 h49
                rw [h49] at hcr
                refine AW_rg (tyOf_good _) [0, 3, 54] [500] (notIn_ok rfl) fun K' hK' => ?_
                repeat (refine sxf_next fun K2 hK2 => ?_; simp [dNum, pRow, dS, bs_size, bs_data, set9_lit, wrap49, hkl, hjk2, hjk', h48, h49]; (repeat (refine ⟨by omega, ?_⟩)); refine hK2 _ ?_; clear hK2 K2)
                refine sxf_next fun K2 hK2 => ?_
                simp [dNum, pRow, dS, bs_size, bs_data, set9_lit, wrap49, hkl, hjk2, hjk', h48, h49]
                refine callK.data (hcr) (by simp; rfl) (by first | exact D.leGo_refl _ | simp [takeMap, List.map_map, Function.comp_def, D.le, D.le.go, D.le_refl, D.leGo_refl, dNum, pRow, dS, bs_size, bs_data, set9_lit, wrap49, hkl, hjk2, hjk', h48, h49]) ?_
                refine hK2 _ ?_
                clear hK2 K2
                simp only [putd, upd_lst]
                repeat (refine sxf_next fun K2 hK2 => ?_; simp [dNum, pRow, dS, bs_size, bs_data, set9_lit, wrap49, hkl, hjk2, hjk', h48, h49]; (repeat (refine ⟨by omega, ?_⟩)); refine hK2 _ ?_; clear hK2 K2)
                refine sxf_nil (hK' _ ?_)
                refine AW.st (by simp [dNum, pRow, dS, bs_size, bs_data, set9_lit, wrap49, hkl, hjk2, hjk', h48, h49]; rfl) ?_
                clear hK' K'
                refine AW_cond false rfl (fun h => by cases h) (fun _ => ?_)
                refine AW_exit (hstop _ (atW_exit hat hk fun _ => ⟨hm11.2 (.inr (.inr hc)), fun h => absurd h hjk'⟩) ?_)
                refine Imp.to' (notIn_ok rfl) (by simp [dNum, pRow, dS]) (by simp [dNum, pRow, dS])
              · have hm : t[k] ∉ set11 := fun hm => by
                  rcases hm11.1 hm with h | h | h
                  · cases h
                  · exact h48 (by rw [h]; rfl)
                  · exact h49 (by rw [h]; rfl)
                refine AW_rg (tyOf_good _) [0, 3, 54] [500] (notIn_ok rfl) fun K' hK' => ?_
                repeat (refine sxf_next fun K2 hK2 => ?_; simp [dNum, pRow, dS, bs_size, bs_data, set9_lit, u8_wrap, hkl, hjk2, hjk', h48, h49]; (repeat (refine ⟨by omega, ?_⟩)); refine hK2 _ ?_; clear hK2 K2)
                refine sxf_next fun K2 hK2 => ?_
                simp [dNum, pRow, dS, bs_size, bs_data, set9_lit, u8_wrap, hkl, hjk2, hjk', h48, h49]
                refine callK.data (hcr) (by simp; rfl) (by first | exact D.leGo_refl _ | simp [takeMap, List.map_map, Function.comp_def, D.le, D.le.go, D.le_refl, D.leGo_refl, dNum, pRow, dS, bs_size, bs_data, set9_lit, u8_wrap, hkl, hjk2, hjk', h48, h49]) ?_
                refine hK2 _ ?_
                clear hK2 K2
                simp only [putd, upd_lst]
                repeat (refine sxf_next fun K2 hK2 => ?_; simp [dNum, pRow, dS, bs_size, bs_data, set9_lit, u8_wrap, hkl, hjk2, hjk', h48, h49]; (repeat (refine ⟨by omega, ?_⟩)); refine hK2 _ ?_; clear hK2 K2)
                refine sxf_nil (hK' _ ?_)
                refine AW.st (by simp [dNum, pRow, dS, bs_size, bs_data, set9_lit, u8_wrap, hkl, hjk2, hjk', h48, h49]; rfl) ?_
                clear hK' K'
                refine AW_cond true rfl (fun _ => ?_) (fun h => by cases h)
                refine AW_skip (hgo _ (atW_next hat hkl (.inl hm)) hkl ?_)
                refine Imp.to' (notIn_ok rfl) (by simp [dNum, pRow, dS]) (by simp [dNum, pRow, dS])
      · obtain rfl : k = t.length := by omega
        by_cases hjk' : j < t.length
        · have hjk2 : (j : Int) < (t.length : Int) := by omega
          refine AW_rg (tyOf_good _) [0, 3, 54] [500] (notIn_ok rfl) fun K' hK' => ?_
          repeat (refine sxf_next fun K2 hK2 => ?_; simp [dNum, pRow, dS, bs_size, bs_data, hjk2, hjk']; (repeat (refine ⟨by omega, ?_⟩)); refine hK2 _ ?_; clear hK2 K2)
          refine sxf_nil (hK' _ ?_)
          refine AW.st (by simp [dNum, pRow, dS, bs_size, bs_data, hjk2, hjk']; rfl) ?_
          clear hK' K'
          refine AW_cond false rfl (fun h => by cases h) (fun _ => ?_)
          refine AW_exit (hstop _ (atW_exit hat hk fun h => absurd h hkl) ?_)
          refine Imp.to' (notIn_ok rfl) (by simp [dNum, pRow, dS]) (by simp [dNum, pRow, dS])
        · have hjk2 : ¬ (j : Int) < (t.length : Int) := by omega
          refine AW_rg (tyOf_good _) [0, 3, 54] [500] (notIn_ok rfl) fun K' hK' => ?_
          repeat (refine sxf_next fun K2 hK2 => ?_; simp [dNum, pRow, dS, bs_size, bs_data, hjk2, hjk']; (repeat (refine ⟨by omega, ?_⟩)); refine hK2 _ ?_; clear hK2 K2)
          refine sxf_nil (hK' _ ?_)
          refine AW.st (by simp [dNum, pRow, dS, bs_size, bs_data, hjk2, hjk']; rfl) ?_
          clear hK' K'
          refine AW_cond false rfl (fun h => by cases h) (fun _ => ?_)
          refine AW_exit (hstop _ (atW_exit hat hk fun h => absurd h hkl) ?_)
          refine Imp.to' (notIn_ok rfl) (by simp [dNum, pRow, dS]) (by simp [dNum, pRow, dS])
    · refine AW_block ?_
      refine AW_re (tyOf_good _) fun K' hK' => ?_
      repeat (refine sxf_next fun K2 hK2 => ?_; simp [dNum, pRow, dS]; (repeat (refine ⟨by omega, ?_⟩)); refine hK2 _ ?_; clear hK2 K2)
      refine sxf_nil (hK' _ ?_)
      clear hK' K'
      try simp only [thn, inb]
      refine Again.mk (k + 1) ⟨by omega, by omega, hn⟩ (by omega) ?_
      refine Imp.to' (notIn_ok rfl) (by simp [dNum, pRow, dS]) (by simp [dNum, pRow, dS])
    · subst he
      clear hK1 hK2
      have hws2 : List.take (wEnd t j - j) (List.drop j t) = wordS t j := hws
      refine AW_rd (tyOf_good _) (by kernel_rfl) [0, 3, 4] [500] (notIn_ok rfl) (by kernel_rfl) fun K' hK' => ?_
      repeat (refine sxd_next fun K2 hK2 => ?_; simp [dNum, pRow, dS, bs_size, bs_extract, hel, het, hws2]; (repeat (refine ⟨by omega, ?_⟩)); refine hK2 _ ?_; clear hK2 K2)
      refine sxd_nil (hK' _ ?_)
      refine AW.st (by simp [dNum, pRow, dS, bs_size, bs_extract, hel, het, hws2]; rfl) ?_
      clear hK' K'
      refine AW_then fun K3 hK3 => ?_
      refine AW_block ?_
      by_cases hs : wordS t j = []
      · refine AW_rg (tyOf_good _) [0, 3, 4, 71] [500] (notIn_ok rfl) fun K' hK' => ?_
        repeat (refine sxf_next fun K2 hK2 => ?_; simp [dNum, pRow, dS, hs, bs_nil, bs_list, binS]; (repeat (refine ⟨by omega, ?_⟩)); refine hK2 _ ?_; clear hK2 K2)
        refine sxf_nil (hK' _ ?_)
        refine AW.st (by simp [dNum, pRow, dS, hs, bs_nil, bs_list, binS]; rfl) ?_
        clear hK' K'
        refine AW_cond true rfl (fun _ => ?_) (fun h => by cases h)
        refine AW_re (tyOf_good _) fun K' hK' => ?_
        repeat (refine sxf_next fun K2 hK2 => ?_; simp [dNum, pRow, dS]; (repeat (refine ⟨by omega, ?_⟩)); refine hK2 _ ?_; clear hK2 K2)
        refine sxf_next fun K2 hK2 => ?_
        simp [dNum, pRow, dS]
        refine callK.mc (hf3) (by simp [dNum, pRow, dS]) (by simp [dNum, pRow, dS]) (by simp [dNum, pRow, dS]) (by simp [dNum, pRow, dS]) ?_
        simp [dNum, pRow, dS]
        refine hK2 _ ?_
        clear hK2 K2
        repeat (refine sxf_next fun K2 hK2 => ?_; simp [dNum, pRow, dS]; (repeat (refine ⟨by omega, ?_⟩)); refine hK2 _ ?_; clear hK2 K2)
        refine sxf_nil (hK' _ ?_)
        clear hK' K'
        refine hK3 _ (AW.norm [4] [500] (notIn_ok rfl) (AW.st (by simp [dNum, pRow, dS]; rfl) ?_))
        refine AW_rg (tyOf_good _) [2] [500] (notIn_ok rfl) fun K' hK' => ?_
        repeat (refine sxf_next fun K2 hK2 => ?_; simp [dNum, pRow, dS]; (repeat (refine ⟨by omega, ?_⟩)); refine hK2 _ ?_; clear hK2 K2)
        refine sxf_nil (hK' _ ?_)
        refine AW.st (by simp [dNum, pRow, dS]; rfl) ?_
        clear hK' K'
        refine AW_ret ?_
        simp [D.le, D.le.go, takeMap, dNum, pRow, dS, pRow, posR, eR, pR, hs, bs_nil]
      · have hse : (wordS t j == []) = false := by simpa using hs
        have hse2 : (wordS t j).isEmpty = false := by rw [List.isEmpty_eq_false_iff]; exact hs
        refine AW_rg (tyOf_good _) [0, 3, 4, 71] [500] (notIn_ok rfl) fun K' hK' => ?_
        repeat (refine sxf_next fun K2 hK2 => ?_; simp [dNum, pRow, dS, bs_nil, bs_list, binS, hs, hse, hse2]; (repeat (refine ⟨by omega, ?_⟩)); refine hK2 _ ?_; clear hK2 K2)
        refine sxf_nil (hK' _ ?_)
        refine AW.st (by simp [dNum, pRow, dS, bs_nil, bs_list, binS, hs, hse, hse2]; rfl) ?_
        clear hK' K'
        refine AW_cond false rfl (fun h => by cases h) (fun _ => ?_)
        cases hn : nameF (wordS t j) with
        | false =>
          rw [hn] at hname
          refine AW_rg (tyOf_good _) [0, 3, 4, 76] [500] (notIn_ok rfl) fun K' hK' => ?_
          repeat (refine sxf_next fun K2 hK2 => ?_; simp [dNum, pRow, dS]; (repeat (refine ⟨by omega, ?_⟩)); refine hK2 _ ?_; clear hK2 K2)
          refine sxf_next fun K2 hK2 => ?_
          simp [dNum, pRow, dS]
          refine callK.data (hname) (by simp; rfl) (by first | exact D.leGo_refl _ | simp [takeMap, List.map_map, Function.comp_def, D.le, D.le.go, D.le_refl, D.leGo_refl, dNum, pRow, dS]) ?_
          refine hK2 _ ?_
          clear hK2 K2
          simp only [putd, upd_lst]
          repeat (refine sxf_next fun K2 hK2 => ?_; simp [dNum, pRow, dS]; (repeat (refine ⟨by omega, ?_⟩)); refine hK2 _ ?_; clear hK2 K2)
          refine sxf_nil (hK' _ ?_)
          refine AW.st (by simp [dNum, pRow, dS]; rfl) ?_
          clear hK' K'
          refine AW_cond true rfl (fun _ => ?_) (fun h => by cases h)
          refine AW_re (tyOf_good _) fun K' hK' => ?_
          repeat (refine sxf_next fun K2 hK2 => ?_; simp [dNum, pRow, dS]; (repeat (refine ⟨by omega, ?_⟩)); refine hK2 _ ?_; clear hK2 K2)
          refine sxf_next fun K2 hK2 => ?_
          simp [dNum, pRow, dS]
          refine callK.mc (hf5) (by simp [dNum, pRow, dS]) (by simp [dNum, pRow, dS]) (by simp [dNum, pRow, dS]) (by simp [dNum, pRow, dS]) ?_
          simp [dNum, pRow, dS]
          refine hK2 _ ?_
          clear hK2 K2
          repeat (refine sxf_next fun K2 hK2 => ?_; simp [dNum, pRow, dS]; (repeat (refine ⟨by omega, ?_⟩)); refine hK2 _ ?_; clear hK2 K2)
          refine sxf_nil (hK' _ ?_)
          clear hK' K'
          refine hK3 _ (AW.norm [4] [500] (notIn_ok rfl) (AW.st (by simp [dNum, pRow, dS]; rfl) ?_))
          refine AW_rg (tyOf_good _) [2] [500] (notIn_ok rfl) fun K' hK' => ?_
          repeat (refine sxf_next fun K2 hK2 => ?_; simp [dNum, pRow, dS]; (repeat (refine ⟨by omega, ?_⟩)); refine hK2 _ ?_; clear hK2 K2)
          refine sxf_nil (hK' _ ?_)
          refine AW.st (by simp [dNum, pRow, dS]; rfl) ?_
          clear hK' K'
          refine AW_ret ?_
          simp [D.le, D.le.go, takeMap, dNum, pRow, dS, pRow, posR, eR, pR, hs, hn]
        | true =>
          rw [hn] at hname
          refine AW_rg (tyOf_good _) [0, 3, 4, 76] [500] (notIn_ok rfl) fun K' hK' => ?_
          repeat (refine sxf_next fun K2 hK2 => ?_; simp [dNum, pRow, dS]; (repeat (refine ⟨by omega, ?_⟩)); refine hK2 _ ?_; clear hK2 K2)
          refine sxf_next fun K2 hK2 => ?_
          simp [dNum, pRow, dS]
          refine callK.data (hname) (by simp; rfl) (by first | exact D.leGo_refl _ | simp [takeMap, List.map_map, Function.comp_def, D.le, D.le.go, D.le_refl, D.leGo_refl, dNum, pRow, dS]) ?_
          refine hK2 _ ?_
          clear hK2 K2
          simp only [putd, upd_lst]
          repeat (refine sxf_next fun K2 hK2 => ?_; simp [dNum, pRow, dS]; (repeat (refine ⟨by omega, ?_⟩)); refine hK2 _ ?_; clear hK2 K2)
          refine sxf_nil (hK' _ ?_)
          refine AW.st (by simp [dNum, pRow, dS]; rfl) ?_
          clear hK' K'
          refine AW_cond false rfl (fun h => by cases h) (fun _ => ?_)
          refine AW_re (tyOf_good _) fun K' hK' => ?_
          repeat (refine sxf_next fun K2 hK2 => ?_; simp [dNum, pRow, dS]; (repeat (refine ⟨by omega, ?_⟩)); refine hK2 _ ?_; clear hK2 K2)
          refine sxf_nil (hK' _ ?_)
          clear hK' K'
          refine hK3 _ (AW.norm [4] [500] (notIn_ok rfl) (AW.st (by simp [dNum, pRow, dS]; rfl) ?_))
          refine AW_rg (tyOf_good _) [2] [500] (notIn_ok rfl) fun K' hK' => ?_
          repeat (refine sxf_next fun K2 hK2 => ?_; simp [dNum, pRow, dS]; (repeat (refine ⟨by omega, ?_⟩)); refine hK2 _ ?_; clear hK2 K2)
          refine sxf_nil (hK' _ ?_)
          refine AW.st (by simp [dNum, pRow, dS]; rfl) ?_
          clear hK' K'
          refine AW_ret ?_
          simp [D.le, D.le.go, takeMap, dNum, pRow, dS, pRow, posR, eR, pR, hs, hn]
end Go.Proofs.YtfehigldhedkgaaDoor

/-
  The document's reader of expressions: rows of parts.
-/
namespace Go.Proofs.YtfehigldhedkgaaDoor
set_option linter.unusedSimpArgs false
set_option linter.unusedVariables false
open Go.Av

/-! ### Expressions as data, as the document keeps them -/
def dNil : D := .sl (some false) []
mutual
def dR : Ex → D
  | .cst b => .ip [dS [if b then 49 else 48], dS [], dNil]
  | .bit s => .ip [dS [98, 105, 116], dS s, dNil]
  | .rise s => .ip [dS [94], dS s, dNil]
  | .fall s => .ip [dS [126], dS s, dNil]
  | .not e => .ip [dS [33], dS [], .sl none [[dR e]]]
  | .and l => .ip [dS [38], dS [], .sl none (dRs l)]
  | .or l => .ip [dS [124], dS [], .sl none (dRs l)]
def dRs : List Ex → List (List D)
  | [] => []
  | e :: l => [dR e] :: dRs l
end
theorem dRs_map : ∀ l : List Ex, dRs l = l.map fun e => [dR e]
  | [] => rfl
  | e :: l => by rw [dRs, dRs_map l]; rfl
theorem dR_ip (e : Ex) : ∃ c, dR e = .ip c := by
  cases e <;> simp only [dR] <;> exact ⟨_, rfl⟩
theorem dR_one (e : Ex) : (dR e).one = true := by
  obtain ⟨c, h⟩ := dR_ip e
  rw [h]; rfl
theorem cells_one {y : D} (h : y.one = true) : valCells (.d y) = some [.d y] := by
  cases y <;> first | (simp [valCells, AV.one, D.one] at h ⊢; done) | (simp [D.one] at h; simp [valCells, AV.one, D.one, h])

/-! ### What comes of reading -/
def outD (r : Rs Ex) (y : D) : D := match r with
  | .ok x _ => dR x
  | .err _ _ _ => y
def outK {α : Type} (r : Rs α) (k : Nat) : Nat := match r with
  | .ok _ j => j
  | .err _ _ _ => k
/-- One reading: y and k: what comes with an error, and where one is then. -/
def PSx (G : Glob) (t : List UInt8) (fx : List Nat) (xr : List (Nat × Row)) (g : FuncId) (xs : List AV) (d : Nat) (r : Rs Ex) (i : Nat) (y : D) (k : Nat) : Prop :=
  MC Tryd.prog G fx g xs (hlst (pRow t i 0 (-1) ++ xr)) (.d (outD r y)) (hlst (pRow t (outK r k) (eR r) (pR r) ++ xr)) ∧ (∀ c p q, r = .err c p q → 0 < c ∧ y.one = true ∧ k ≤ t.length + d)
def Reads (G : Glob) (t : List UInt8) (fx : List Nat) (xr : List (Nat × Row)) (g : FuncId) (xs : List AV) (d : Nat) (f : Nat → Rs Ex) : Prop := ∃ (yF : Nat → D) (kF : Nat → Nat), ∀ i, i ≤ t.length → PSx G t fx xr g xs d (f i) i (yF i) (kF i)
theorem reads_of {G : Glob} {t : List UInt8} {fx : List Nat} {xr : List (Nat × Row)} {g : FuncId} {xs : List AV} {d : Nat} {f : Nat → Rs Ex} (h : ∀ i, i ≤ t.length → ∃ y k, PSx G t fx xr g xs d (f i) i y k) : Reads G t fx xr g xs d f := by
  have h2 : ∀ i, ∃ z : D × Nat, i ≤ t.length → PSx G t fx xr g xs d (f i) i z.1 z.2 := fun i => by
    by_cases hi : i ≤ t.length
    · obtain ⟨y, k, h⟩ := h i hi
      exact ⟨(y, k), fun _ => h⟩
    · exact ⟨(default, 0), fun h => absurd h hi⟩
  exact ⟨fun i => (Classical.choose (h2 i)).1, fun i => (Classical.choose (h2 i)).2, fun i hi => Classical.choose_spec (h2 i) hi⟩

/-! ### Where a row of parts ends, if it fails -/
def sevT (t : List UInt8) (s : UInt8) (f : Nat → Rs Ex) : Nat → Nat → List Ex → List Ex × Nat
  | 0, i, acc => (acc, i)
  | n + 1, i, acc => match f i with
    | .err _ _ _ => (acc, i)
    | .ok x j => if (takeM t s j).1 then sevT t s f n (takeM t s j).2 (acc ++ [x]) else (acc, i)
theorem sevT_fuel {t : List UInt8} {s : UInt8} {f : Nat → Rs Ex} (hf : Goes t f) : ∀ (n m i : Nat) (acc : List Ex), i ≤ t.length → t.length + 1 - i ≤ n → t.length + 1 - i ≤ m → sevT t s f n i acc = sevT t s f m i acc
  | 0, _, i, _, hi, h, _ => by omega
  | _ + 1, 0, i, _, hi, _, h => by omega
  | n + 1, m + 1, i, acc, hi, h1, h2 => by
    rw [sevT, sevT]
    cases hfi : f i with
    | err c p q => rfl
    | ok x j =>
      obtain ⟨g1, g2⟩ := hf i x j hi hfi
      obtain ⟨t1, t2, t3⟩ := take_goes (c := s) g2
      dsimp only
      split
      · exact sevT_fuel hf n m _ _ t2 (by omega) (by omega)
      · rfl
def sevZ (t : List UInt8) (s : UInt8) (f : Nat → Rs Ex) (i : Nat) (acc : List Ex) : List Ex × Nat := sevT t s f (t.length + 1 - i) i acc
theorem sevZ_step {t : List UInt8} {s : UInt8} {f : Nat → Rs Ex} (hf : Goes t f) {i : Nat} (hi : i ≤ t.length) (acc : List Ex) : sevZ t s f i acc = match f i with
    | .err _ _ _ => (acc, i)
    | .ok x j => if (takeM t s j).1 then sevZ t s f (takeM t s j).2 (acc ++ [x]) else (acc, i) := by
  unfold sevZ
  obtain ⟨n, hn⟩ : ∃ n, t.length + 1 - i = n + 1 := ⟨t.length - i, by omega⟩
  rw [hn, sevT]
  cases hfi : f i with
  | err c p q => rfl
  | ok x j =>
    obtain ⟨g1, g2⟩ := hf i x j hi hfi
    obtain ⟨t1, t2, t3⟩ := take_goes (c := s) g2
    dsimp only
    split
    · exact sevT_fuel hf _ _ _ _ t2 (by omega) (by omega)
    · rfl
theorem nx_take {t : List UInt8} {i : Nat} {c : UInt8} (hc : c ≠ 0) : (takeM t c i).1 = decide (((nxB t i).toNat : Int) = (c.toNat : Int)) := by
  unfold takeM nxB
  rw [List.getD_eq_getElem?_getD]
  cases h : t[skipB t i]? with
  | none =>
    rw [if_neg (by simp)]
    simp only [Option.getD_none]
    symm
    rw [decide_eq_false_iff_not]
    intro e
    apply hc
    have : c.toNat = 0 := by simp at e; omega
    exact UInt8.toNat_inj.1 (by simpa using this)
  | some b =>
    simp only [Option.getD_some]
    by_cases hb : b = c
    · subst hb; simp
    · have : ¬ ((b.toNat : Int) = (c.toNat : Int)) := fun e => hb (UInt8.toNat_inj.1 (by omega))
      simp [hb, this]
theorem take_two {t : List UInt8} {c : UInt8} {i : Nat} : (takeM t c i).2 = if (takeM t c i).1 then skipB t i + 1 else skipB t i := by
  unfold takeM
  split <;> rfl
def rowD (s : UInt8) (ys : List D) : D := match ys with
  | [y] => y
  | ys => .ip [dS [s], dS [], .sl none (ys.map fun y => [y])]
theorem rowD_ne {s : UInt8} {ys : List D} (h : ys.length ≠ 1) : rowD s ys = .ip [dS [s], dS [], .sl none (ys.map fun y => [y])] := by
  match ys, h with
  | [], _ => rfl
  | [_], h => exact absurd rfl h
  | _ :: _ :: _, _ => rfl
theorem rowD_one {s : UInt8} {ys : List D} (h : ∀ y ∈ ys, y.one = true) : (rowD s ys).one = true := by
  match ys, h with
  | [], _ => rfl
  | [y], h => exact h y (by simp)
  | _ :: _ :: _, _ => rfl

set_option maxHeartbeats 16000000 in
theorem prow_bm (G : Glob) (t : List UInt8) (ht : t.length ≤ 2000) (g : FuncId) (s : UInt8) (sn : Int) (hsn : (s.toNat : Int) = sn) (hs0 : s ≠ 0) (henc : Utf8.encode sn = bs [s]) (a : Int) (d : Nat) (f : Nat → Rs Ex) (hf : Goes t f) (col : List Ex → Ex) (hcol : ∀ l, dR (col l) = rowD s (l.map dR))
    (hcall : Reads G t [500] [] g [.ref 500 0 0, .d (dNum a)] d f) : Reads G t [500] [] 83 [.ref 500 0 0, .d (.v (.int .u8 sn)), .d (dNum a), .bm g (.ref 500 0 0)] d (fun i => (sevA t s f i []).map col) := by
  obtain ⟨yF, kF, hcall⟩ := hcall
  refine reads_of fun i hi => ?_
  generalize hR : sevA t s f i [] = R
  generalize hZ : sevZ t s f i [] = Z
  refine ⟨rowD s (Z.1.map dR ++ [yF Z.2]), kF Z.2, ?_⟩
  -- how it goes on: with what was read, or with an error
  have hend : ∀ (k : Nat) (ys : List D) (e p : Int), ((e = 0 ∧ p = -1 ∧ ∃ acc, ys = acc.map dR ∧ R = .ok acc k) ∨ (∃ c p' q, R = .err c p' q ∧ e = c ∧ p = p' ∧ ys = Z.1.map dR ++ [yF Z.2] ∧ k = kF Z.2)) →
      outD (R.map col) (rowD s (Z.1.map dR ++ [yF Z.2])) = rowD s ys ∧ outK (R.map col) (kF Z.2) = k ∧ eR (R.map col) = e ∧ pR (R.map col) = p := by
    rintro k ys e p (⟨rfl, rfl, acc, rfl, rfl⟩ | ⟨c, p', q, rfl, rfl, rfl, rfl, rfl⟩)
    · exact ⟨by simp [Rs.map, outD, hcol], rfl, rfl, rfl⟩
    · exact ⟨rfl, rfl, rfl, rfl⟩
  have herr : ∀ (n i : Nat) (acc : List Ex), i ≤ t.length → t.length + 1 - i ≤ n → ∀ c p q, sevR t s f n i acc = .err c p q → 0 < c ∧ (yF (sevT t s f n i acc).2).one = true ∧ kF (sevT t s f n i acc).2 ≤ t.length + d := by
    intro n
    induction n with
    | zero => intro i acc hi hn; omega
    | succ n ih =>
      intro i acc hi hn c p q h
      rw [sevR] at h
      rw [sevT]
      cases hfi : f i with
      | err c' p' q' =>
        rw [hfi] at h
        simp only [Rs.err.injEq] at h
        obtain ⟨rfl, -, -⟩ := h
        exact (hcall i hi).2 _ _ _ hfi
      | ok x j =>
        rw [hfi] at h
        obtain ⟨g1, g2⟩ := hf i x j hi hfi
        obtain ⟨t1, t2, t3⟩ := take_goes (c := s) g2
        dsimp only at h ⊢
        split at h
        · rename_i htk
          rw [if_pos htk]
          exact ih _ _ t2 (by omega) c p q h
        · cases h
  refine ⟨?_, fun c p q h => ?_⟩
  rotate_left
  · cases R with
    | ok l j => cases h
    | err c' p' q' =>
      simp only [Rs.map, Rs.err.injEq] at h
      obtain ⟨rfl, rfl, rfl⟩ := h
      obtain ⟨h1, h2, h3⟩ := herr _ i [] hi (Nat.le_refl _) _ _ _ hR
      have hZ2 : (sevT t s f (t.length + 1 - i) i []).2 = Z.2 := by rw [← hZ]; rfl
      rw [hZ2] at h2 h3
      refine ⟨h1, rowD_one fun y hy => ?_, h3⟩
      rcases List.mem_append.1 hy with hy | hy
      · obtain ⟨x, _, rfl⟩ := List.mem_map.1 hy
        exact dR_one x
      · simp at hy; subst hy; exact h2
  generalize hyE : rowD s (Z.1.map dR ++ [yF Z.2]) = yE at hend ⊢
  generalize R.map col = RR at hend ⊢
  refine MC.of_body (tyOf_good _) Tryd.func83 rfl rfl (rs := [.tmp 8]) Tryd.results83 (by simp [Tryd.ntmps83]) rfl fun X => ?_
  simp only [Tryd.ntmps83]
  refine AW_rg (tyOf_good _) [0, 1, 2, 3] [500] (notIn_ok rfl) fun K' hK' => ?_
  repeat (refine sxf_next fun K2 hK2 => ?_; simp [dNum, pRow, dS]; (repeat (refine ⟨by omega, ?_⟩)); refine hK2 _ ?_; clear hK2 K2)
  refine sxf_nil (hK' _ ?_)
  refine AW.st (by simp [dNum, pRow, dS]; rfl) ?_
  clear hK' K'
  -- the first part
  have hfirst := (hcall i hi).1
  have hone : (outD (f i) (yF i)).one = true := by
    cases hfi : f i with
    | ok x j => exact dR_one x
    | err c p q => exact ((hcall i hi).2 _ _ _ hfi).2.1
  have hcel := cells_one hone
  refine AW_rg (tyOf_good _) [0, 1, 2, 3, 9] [500, 13] (notIn_ok rfl) fun K' hK' => ?_
  repeat (refine sxf_next fun K2 hK2 => ?_; simp [dNum, pRow, dS, hcel]; (repeat (refine ⟨by omega, ?_⟩)); refine hK2 _ ?_; clear hK2 K2)
  refine sxf_next fun K2 hK2 => ?_
  simp [dNum, pRow, dS, hcel]
  refine callK.mc (hfirst) (by simp [dNum, pRow, dS, hcel]) (by simp [dNum, pRow, dS, hcel]) (by simp [dNum, pRow, dS, hcel]) (by simp [dNum, pRow, dS, hcel]) ?_
  simp [dNum, pRow, dS, hcel]
  refine hK2 _ ?_
  clear hK2 K2
  repeat (refine sxf_next fun K2 hK2 => ?_; simp [dNum, pRow, dS, hcel]; (repeat (refine ⟨by omega, ?_⟩)); refine hK2 _ ?_; clear hK2 K2)
  refine sxf_nil (hK' _ ?_)
  refine AW.st (by simp [dNum, pRow, dS, hcel]; rfl) ?_
  clear hK' K'
  refine AW_then fun K1 hK1 => ?_
  refine AW_for (S := Nat × List D × Int × Int) (fun z => (z.2.2.1 = 0 ∧ z.2.2.2 = -1 ∧ z.1 ≤ t.length ∧ ∃ acc, z.2.1 = acc.map dR ∧ 0 < acc.length ∧ acc.length ≤ z.1 ∧ (if (takeM t s z.1).1 then sevA t s f (takeM t s z.1).2 acc else .ok acc (takeM t s z.1).2) = R ∧ ((takeM t s z.1).1 = true → sevZ t s f (takeM t s z.1).2 acc = Z)) ∨ (0 < z.2.2.1 ∧ z.2.1.length ≤ 2001 ∧ ∃ c p q, R = .err c p q ∧ z.2.2.1 = c ∧ z.2.2.2 = p ∧ z.2.1 = Z.1.map dR ++ [yF Z.2] ∧ z.1 = kF Z.2))
    (fun z => ⟨lst [(0, .ref 500 0 0), (1, .d (.v (.int .u8 sn))), (2, .d (dNum a)), (3, .bm g (.ref 500 0 0)), (9, .own 13 0 z.2.1.length)], hlst [(500, .box 124 [.d (dS t), int z.1, int z.2.2.1, int z.2.2.2]), (13, .sl 61 1 (z.2.1.map fun y => [y]))]⟩) (fun z => if z.2.2.1 = 0 then t.length + 1 - z.1 else 0) (outK (f i) (kF i), [outD (f i) (yF i)], eR (f i), pR (f i)) ?_ ?_ ?_
  · refine Imp.to' (notIn_ok rfl) (by simp [dNum, pRow, dS]) (by simp [dNum, pRow, dS])
  · cases hfi : f i with
    | ok x j =>
      obtain ⟨g1, g2⟩ := hf i x j hi hfi
      rw [sev_step hf hi, hfi] at hR
      rw [sevZ_step hf hi, hfi] at hZ
      exact .inl ⟨rfl, rfl, g2, [x], rfl, by simp, by simp [outK]; omega, hR, fun h => by dsimp only [outK] at h ⊢; simpa only [h, if_true, List.nil_append] using hZ⟩
    | err c p q =>
      rw [sev_step hf hi, hfi] at hR
      rw [sevZ_step hf hi, hfi] at hZ
      obtain ⟨h1, h2, h3⟩ := (hcall i hi).2 _ _ _ hfi
      exact .inr ⟨h1, by simp, c, p, 0, hR.symm, rfl, rfl, by rw [← hZ]; rfl, by rw [← hZ]; rfl⟩
  · rintro ⟨k, ys, e, p⟩ hI
    dsimp only at hI ⊢
    refine AW_then fun K2 hK2 => ?_
    refine (fun hcont => ?_) (fun (σ : St) (k : Nat) (ys : List D) (e p : Int) (hl : ys.length ≤ 2001) (hcond : (e = 0 ∧ p = -1 ∧ ∃ acc, ys = acc.map dR ∧ R = .ok acc k) ∨ (∃ c p' q, R = .err c p' q ∧ e = c ∧ p = p' ∧ ys = Z.1.map dR ++ [yF Z.2] ∧ k = kF Z.2)) himp =>
      hK1 σ (AW.imp (τ := ⟨lst [(0, .ref 500 0 0), (1, .d (.v (.int .u8 sn))), (9, .own 13 0 ys.length)], hlst [(500, .box 124 [.d (dS t), int k, int e, int p]), (13, .sl 61 1 (ys.map fun y => [y]))]⟩) himp ?_))
    · rcases hI with ⟨rfl, rfl, hk, acc, rfl, hacc, hak, hRk, hZk⟩ | ⟨he, hlen, c, p', q, hRe, rfl, rfl, rfl, rfl⟩
      · have hnx := pnext_spec G t k (by omega) hk 0 (-1)
        have htk := nx_take (t := t) (i := k) hs0
        rw [hsn] at htk
        have ht2 := take_two (t := t) (c := s) (i := k)
        obtain ⟨t1, t2, t3⟩ := take_goes (t := t) (c := s) hk
        have htop := skipB_top hk
        by_cases hb : ((nxB t k).toNat : Int) = sn
        · rw [decide_eq_true hb] at htk
          rw [htk] at hRk hZk ht2 t3
          simp only [if_true] at hRk ht2
          have hZk := hZk rfl
          have t3 := t3 rfl
          rw [ht2] at hRk hZk t2 t3
          refine AW_rg (tyOf_good _) [0, 1, 2, 3, 9, 25] [500, 13] (notIn_ok rfl) fun K' hK' => ?_
          repeat (refine sxf_next fun K2 hK2 => ?_; simp [dNum, pRow, dS, hb]; (repeat (refine ⟨by omega, ?_⟩)); refine hK2 _ ?_; clear hK2 K2)
          refine sxf_next fun K2 hK2 => ?_
          simp [dNum, pRow, dS, hb]
          refine callK.mc (hnx) (by simp [dNum, pRow, dS, hb]) (by simp [dNum, pRow, dS, hb]) (by simp [dNum, pRow, dS, hb]) (by simp [dNum, pRow, dS, hb]) ?_
          simp [dNum, pRow, dS, hb]
          refine hK2 _ ?_
          clear hK2 K2
          repeat (refine sxf_next fun K2 hK2 => ?_; simp [dNum, pRow, dS, hb]; (repeat (refine ⟨by omega, ?_⟩)); refine hK2 _ ?_; clear hK2 K2)
          refine sxf_nil (hK' _ ?_)
          refine AW.st (by simp [dNum, pRow, dS, hb]; rfl) ?_
          clear hK' K'
          refine AW_cond true rfl (fun _ => ?_) (fun h => by cases h)
          refine AW_skip (hK2 _ ?_)
          refine AW_block ?_
          refine AW_rg (tyOf_good _) [0, 1, 2, 3, 9] [500, 13] (notIn_ok rfl) fun K' hK' => ?_
          repeat (refine sxf_next fun K2 hK2 => ?_; simp [dNum, pRow, dS]; (repeat (refine ⟨by omega, ?_⟩)); refine hK2 _ ?_; clear hK2 K2)
          refine sxf_nil (hK' _ ?_)
          refine AW.st (by simp [dNum, pRow, dS]; rfl) ?_
          clear hK' K'
          have hnext := (hcall _ t2).1
          rw [Int.natCast_add] at hnext
          have hone2 : (outD (f (skipB t k + 1)) (yF (skipB t k + 1))).one = true := by
            cases hfi : f (skipB t k + 1) with
            | ok x j => exact dR_one x
            | err c p q => exact ((hcall _ t2).2 _ _ _ hfi).2.1
          have hcel2 := cells_one hone2
          refine AW_re (tyOf_good _) fun K' hK' => ?_
          repeat (refine sxf_next fun K2 hK2 => ?_; simp [dNum, pRow, dS, hcel2, hone2, List.take_of_length_le]; (repeat (refine ⟨by omega, ?_⟩)); refine hK2 _ ?_; clear hK2 K2)
          refine sxf_next fun K2 hK2 => ?_
          simp [dNum, pRow, dS, hcel2, hone2, List.take_of_length_le]
          refine callK.mc (hnext) (by simp [dNum, pRow, dS, hcel2, hone2, List.take_of_length_le]) (by simp [dNum, pRow, dS, hcel2, hone2, List.take_of_length_le]) (by simp [dNum, pRow, dS, hcel2, hone2, List.take_of_length_le]) (by simp [dNum, pRow, dS, hcel2, hone2, List.take_of_length_le]) ?_
          simp [dNum, pRow, dS, hcel2, hone2, List.take_of_length_le]
          refine hK2 _ ?_
          clear hK2 K2
          repeat (refine sxf_next fun K2 hK2 => ?_; simp [dNum, pRow, dS, hcel2, hone2, List.take_of_length_le]; (repeat (refine ⟨by omega, ?_⟩)); refine hK2 _ ?_; clear hK2 K2)
          refine sxf_nil (hK' _ ?_)
          clear hK' K'
          try simp only [thn, inb]
          refine Again.mk (outK (f (skipB t k + 1)) (kF (skipB t k + 1)), acc.map dR ++ [outD (f (skipB t k + 1)) (yF (skipB t k + 1))], eR (f (skipB t k + 1)), pR (f (skipB t k + 1))) ?_ ?_ ?_
          · cases hfi : f (skipB t k + 1) with
            | ok x j =>
              obtain ⟨g1, g2⟩ := hf _ x j t2 hfi
              rw [sev_step hf t2, hfi] at hRk
              rw [sevZ_step hf t2, hfi] at hZk
              exact .inl ⟨rfl, rfl, g2, acc ++ [x], by simp [outD], by simp, by simp [outK]; omega, hRk, fun h => by dsimp only [outK] at h ⊢; simpa only [h, if_true] using hZk⟩
            | err c p q =>
              rw [sev_step hf t2, hfi] at hRk
              rw [sevZ_step hf t2, hfi] at hZk
              obtain ⟨h1, h2, h3⟩ := (hcall _ t2).2 _ _ _ hfi
              exact .inr ⟨h1, by simp; omega, c, p, 0, hRk.symm, rfl, rfl, by rw [← hZk]; rfl, by rw [← hZk]; rfl⟩
          · cases hfi : f (skipB t k + 1) with
            | ok x j =>
              obtain ⟨g1, g2⟩ := hf _ x j t2 hfi
              simp only [eR, outK, if_true]
              omega
            | err c p q =>
              obtain ⟨h1, h2, h3⟩ := (hcall _ t2).2 _ _ _ hfi
              have hc0 : ¬ c = 0 := by omega
              simp [eR, hc0]
              omega
          · refine Imp.to' (notIn_ok rfl) (by simp [dNum, pRow, dS]) (by simp [dNum, pRow, dS])
        · rw [decide_eq_false hb] at htk
          rw [htk] at hRk ht2
          simp only [Bool.false_eq_true, if_false] at hRk ht2
          refine AW_rg (tyOf_good _) [0, 1, 2, 3, 9, 25] [500, 13] (notIn_ok rfl) fun K' hK' => ?_
          repeat (refine sxf_next fun K2 hK2 => ?_; simp [dNum, pRow, dS, hb]; (repeat (refine ⟨by omega, ?_⟩)); refine hK2 _ ?_; clear hK2 K2)
          refine sxf_next fun K2 hK2 => ?_
          simp [dNum, pRow, dS, hb]
          refine callK.mc (hnx) (by simp [dNum, pRow, dS, hb]) (by simp [dNum, pRow, dS, hb]) (by simp [dNum, pRow, dS, hb]) (by simp [dNum, pRow, dS, hb]) ?_
          simp [dNum, pRow, dS, hb]
          refine hK2 _ ?_
          clear hK2 K2
          repeat (refine sxf_next fun K2 hK2 => ?_; simp [dNum, pRow, dS, hb]; (repeat (refine ⟨by omega, ?_⟩)); refine hK2 _ ?_; clear hK2 K2)
          refine sxf_nil (hK' _ ?_)
          refine AW.st (by simp [dNum, pRow, dS, hb]; rfl) ?_
          clear hK' K'
          refine AW_cond false rfl (fun h => by cases h) (fun _ => ?_)
          refine AW_exit (hcont _ (skipB t k) (acc.map dR) 0 (-1) (by simp; omega) (.inl ⟨rfl, rfl, acc, rfl, by rw [← hRk, ht2]⟩) ?_)
          refine Imp.to' (notIn_ok rfl) (by simp [dNum, pRow, dS]) (by simp [dNum, pRow, dS])
      · have he2 : ¬ e = 0 := by omega
        refine AW_rg (tyOf_good _) [0, 1, 2, 3, 9, 25] [500, 13] (notIn_ok rfl) fun K' hK' => ?_
        repeat (refine sxf_next fun K2 hK2 => ?_; simp [dNum, pRow, dS, he2]; (repeat (refine ⟨by omega, ?_⟩)); refine hK2 _ ?_; clear hK2 K2)
        refine sxf_nil (hK' _ ?_)
        refine AW.st (by simp [dNum, pRow, dS, he2]; rfl) ?_
        clear hK' K'
        refine AW_cond false rfl (fun h => by cases h) (fun _ => ?_)
        refine AW_exit (hcont _ (kF Z.2) _ e p' hlen (.inr ⟨e, p', q, hRe, rfl, rfl, rfl, rfl⟩) ?_)
        refine Imp.to' (notIn_ok rfl) (by simp [dNum, pRow, dS]) (by simp [dNum, pRow, dS])
    · obtain ⟨h1, h2, h3, h4⟩ := hend k ys e p hcond
      rw [h1, h2, h3, h4]
      refine AW_then fun K3 hK3 => ?_
      by_cases hl1 : ys.length = 1
      · obtain ⟨y, rfl⟩ := List.length_eq_one_iff.1 hl1
        refine AW_rg (tyOf_good _) [1, 9, 41] [500, 13] (notIn_ok rfl) fun K' hK' => ?_
        repeat (refine sxf_next fun K2 hK2 => ?_; simp [dNum, pRow, dS]; (repeat (refine ⟨by omega, ?_⟩)); refine hK2 _ ?_; clear hK2 K2)
        refine sxf_nil (hK' _ ?_)
        refine AW.st (by simp [dNum, pRow, dS]; rfl) ?_
        clear hK' K'
        refine AW_cond true rfl (fun _ => ?_) (fun h => by cases h)
        refine AW_rg (tyOf_good _) [8] [500] (notIn_ok rfl) fun K' hK' => ?_
        repeat (refine sxf_next fun K2 hK2 => ?_; simp [dNum, pRow, dS]; (repeat (refine ⟨by omega, ?_⟩)); refine hK2 _ ?_; clear hK2 K2)
        refine sxf_nil (hK' _ ?_)
        refine AW.st (by simp [dNum, pRow, dS]; rfl) ?_
        clear hK' K'
        refine AW_ret ?_
        simp [D.le, D.le.go, takeMap, dNum, pRow, dS, rowD, D.le_refl]
      · have hl2 : ¬ (ys.length : Int) = 1 := by omega
        refine AW_rg (tyOf_good _) [1, 9, 41] [500, 13] (notIn_ok rfl) fun K' hK' => ?_
        repeat (refine sxf_next fun K2 hK2 => ?_; simp [dNum, pRow, dS, hl1, hl2]; (repeat (refine ⟨by omega, ?_⟩)); refine hK2 _ ?_; clear hK2 K2)
        refine sxf_nil (hK' _ ?_)
        refine AW.st (by simp [dNum, pRow, dS, hl1, hl2]; rfl) ?_
        clear hK' K'
        refine AW_cond false rfl (fun h => by cases h) (fun _ => ?_)
        refine AW_skip (hK3 _ ?_)
        refine AW.imp (Imp.freeze 13 (by decide)) ?_
        refine AW.st (by simp [dNum, pRow, dS, List.take_of_length_le]; rfl) ?_
        refine AW_rg (tyOf_good _) [8] [500, 49] (notIn_ok rfl) fun K' hK' => ?_
        repeat (refine sxf_next fun K2 hK2 => ?_; simp [dNum, pRow, dS, henc]; (repeat (refine ⟨by omega, ?_⟩)); refine hK2 _ ?_; clear hK2 K2)
        refine sxf_nil (hK' _ ?_)
        refine AW.st (by simp [dNum, pRow, dS, henc]; rfl) ?_
        clear hK' K'
        refine AW.imp (Imp.freezeB 49 (by decide)) ?_
        refine AW.st (by simp [dNum, pRow, dS]; rfl) ?_
        refine AW_ret ?_
        simp [D.le, D.le.go, takeMap, dNum, pRow, dS, rowD_ne hl1, dS, bs_nil, D.le_refl, D.leGo_refl]
set_option maxHeartbeats 16000000 in
theorem prow_fn (G : Glob) (t : List UInt8) (ht : t.length ≤ 2000) (g : FuncId) (s : UInt8) (sn : Int) (hsn : (s.toNat : Int) = sn) (hs0 : s ≠ 0) (henc : Utf8.encode sn = bs [s]) (a : Int) (d : Nat) (f : Nat → Rs Ex) (hf : Goes t f) (col : List Ex → Ex) (hcol : ∀ l, dR (col l) = rowD s (l.map dR))
    (hcall : Reads G t [500, 501] [(501, .box 122 [.ref 500 0 0])] g [.d (dNum a), .ref 501 0 0] d f) : Reads G t [500, 501] [(501, .box 122 [.ref 500 0 0])] 83 [.ref 500 0 0, .d (.v (.int .u8 sn)), .d (dNum a), .fn (.func g) [.ref 501 0 0]] d (fun i => (sevA t s f i []).map col) := by
  obtain ⟨yF, kF, hcall⟩ := hcall
  refine reads_of fun i hi => ?_
  generalize hR : sevA t s f i [] = R
  generalize hZ : sevZ t s f i [] = Z
  refine ⟨rowD s (Z.1.map dR ++ [yF Z.2]), kF Z.2, ?_⟩
  -- how it goes on: with what was read, or with an error
  have hend : ∀ (k : Nat) (ys : List D) (e p : Int), ((e = 0 ∧ p = -1 ∧ ∃ acc, ys = acc.map dR ∧ R = .ok acc k) ∨ (∃ c p' q, R = .err c p' q ∧ e = c ∧ p = p' ∧ ys = Z.1.map dR ++ [yF Z.2] ∧ k = kF Z.2)) →
      outD (R.map col) (rowD s (Z.1.map dR ++ [yF Z.2])) = rowD s ys ∧ outK (R.map col) (kF Z.2) = k ∧ eR (R.map col) = e ∧ pR (R.map col) = p := by
    rintro k ys e p (⟨rfl, rfl, acc, rfl, rfl⟩ | ⟨c, p', q, rfl, rfl, rfl, rfl, rfl⟩)
    · exact ⟨by simp [Rs.map, outD, hcol], rfl, rfl, rfl⟩
    · exact ⟨rfl, rfl, rfl, rfl⟩
  have herr : ∀ (n i : Nat) (acc : List Ex), i ≤ t.length → t.length + 1 - i ≤ n → ∀ c p q, sevR t s f n i acc = .err c p q → 0 < c ∧ (yF (sevT t s f n i acc).2).one = true ∧ kF (sevT t s f n i acc).2 ≤ t.length + d := by
    intro n
    induction n with
    | zero => intro i acc hi hn; omega
    | succ n ih =>
      intro i acc hi hn c p q h
      rw [sevR] at h
      rw [sevT]
      cases hfi : f i with
      | err c' p' q' =>
        rw [hfi] at h
        simp only [Rs.err.injEq] at h
        obtain ⟨rfl, -, -⟩ := h
        exact (hcall i hi).2 _ _ _ hfi
      | ok x j =>
        rw [hfi] at h
        obtain ⟨g1, g2⟩ := hf i x j hi hfi
        obtain ⟨t1, t2, t3⟩ := take_goes (c := s) g2
        dsimp only at h ⊢
        split at h
        · rename_i htk
          rw [if_pos htk]
          exact ih _ _ t2 (by omega) c p q h
        · cases h
  refine ⟨?_, fun c p q h => ?_⟩
  rotate_left
  · cases R with
    | ok l j => cases h
    | err c' p' q' =>
      simp only [Rs.map, Rs.err.injEq] at h
      obtain ⟨rfl, rfl, rfl⟩ := h
      obtain ⟨h1, h2, h3⟩ := herr _ i [] hi (Nat.le_refl _) _ _ _ hR
      have hZ2 : (sevT t s f (t.length + 1 - i) i []).2 = Z.2 := by rw [← hZ]; rfl
      rw [hZ2] at h2 h3
      refine ⟨h1, rowD_one fun y hy => ?_, h3⟩
      rcases List.mem_append.1 hy with hy | hy
      · obtain ⟨x, _, rfl⟩ := List.mem_map.1 hy
        exact dR_one x
      · simp at hy; subst hy; exact h2
  generalize hyE : rowD s (Z.1.map dR ++ [yF Z.2]) = yE at hend ⊢
  generalize R.map col = RR at hend ⊢
  refine MC.of_body (tyOf_good _) Tryd.func83 rfl rfl (rs := [.tmp 8]) Tryd.results83 (by simp [Tryd.ntmps83]) rfl fun X => ?_
  simp only [Tryd.ntmps83]
  refine AW_rg (tyOf_good _) [0, 1, 2, 3] [500, 501] (notIn_ok rfl) fun K' hK' => ?_
  repeat (refine sxf_next fun K2 hK2 => ?_; simp [dNum, pRow, dS]; (repeat (refine ⟨by omega, ?_⟩)); refine hK2 _ ?_; clear hK2 K2)
  refine sxf_nil (hK' _ ?_)
  refine AW.st (by simp [dNum, pRow, dS]; rfl) ?_
  clear hK' K'
  -- the first part
  have hfirst := (hcall i hi).1
  have hone : (outD (f i) (yF i)).one = true := by
    cases hfi : f i with
    | ok x j => exact dR_one x
    | err c p q => exact ((hcall i hi).2 _ _ _ hfi).2.1
  have hcel := cells_one hone
  refine AW_rg (tyOf_good _) [0, 1, 2, 3, 9] [500, 501, 13] (notIn_ok rfl) fun K' hK' => ?_
  repeat (refine sxf_next fun K2 hK2 => ?_; simp [dNum, pRow, dS, hcel]; (repeat (refine ⟨by omega, ?_⟩)); refine hK2 _ ?_; clear hK2 K2)
  refine sxf_next fun K2 hK2 => ?_
  simp [dNum, pRow, dS, hcel]
  refine callK.mc (hfirst) (by simp [dNum, pRow, dS, hcel]) (by simp [dNum, pRow, dS, hcel]) (by simp [dNum, pRow, dS, hcel]) (by simp [dNum, pRow, dS, hcel]) ?_
  simp [dNum, pRow, dS, hcel]
  refine hK2 _ ?_
  clear hK2 K2
  repeat (refine sxf_next fun K2 hK2 => ?_; simp [dNum, pRow, dS, hcel]; (repeat (refine ⟨by omega, ?_⟩)); refine hK2 _ ?_; clear hK2 K2)
  refine sxf_nil (hK' _ ?_)
  refine AW.st (by simp [dNum, pRow, dS, hcel]; rfl) ?_
  clear hK' K'
  refine AW_then fun K1 hK1 => ?_
  refine AW_for (S := Nat × List D × Int × Int) (fun z => (z.2.2.1 = 0 ∧ z.2.2.2 = -1 ∧ z.1 ≤ t.length ∧ ∃ acc, z.2.1 = acc.map dR ∧ 0 < acc.length ∧ acc.length ≤ z.1 ∧ (if (takeM t s z.1).1 then sevA t s f (takeM t s z.1).2 acc else .ok acc (takeM t s z.1).2) = R ∧ ((takeM t s z.1).1 = true → sevZ t s f (takeM t s z.1).2 acc = Z)) ∨ (0 < z.2.2.1 ∧ z.2.1.length ≤ 2001 ∧ ∃ c p q, R = .err c p q ∧ z.2.2.1 = c ∧ z.2.2.2 = p ∧ z.2.1 = Z.1.map dR ++ [yF Z.2] ∧ z.1 = kF Z.2))
    (fun z => ⟨lst [(0, .ref 500 0 0), (1, .d (.v (.int .u8 sn))), (2, .d (dNum a)), (3, .fn (.func g) [.ref 501 0 0]), (9, .own 13 0 z.2.1.length)], hlst [(500, .box 124 [.d (dS t), int z.1, int z.2.2.1, int z.2.2.2]), (501, .box 122 [.ref 500 0 0]), (13, .sl 61 1 (z.2.1.map fun y => [y]))]⟩) (fun z => if z.2.2.1 = 0 then t.length + 1 - z.1 else 0) (outK (f i) (kF i), [outD (f i) (yF i)], eR (f i), pR (f i)) ?_ ?_ ?_
  · refine Imp.to' (notIn_ok rfl) (by simp [dNum, pRow, dS]) (by simp [dNum, pRow, dS])
  · cases hfi : f i with
    | ok x j =>
      obtain ⟨g1, g2⟩ := hf i x j hi hfi
      rw [sev_step hf hi, hfi] at hR
      rw [sevZ_step hf hi, hfi] at hZ
      exact .inl ⟨rfl, rfl, g2, [x], rfl, by simp, by simp [outK]; omega, hR, fun h => by dsimp only [outK] at h ⊢; simpa only [h, if_true, List.nil_append] using hZ⟩
    | err c p q =>
      rw [sev_step hf hi, hfi] at hR
      rw [sevZ_step hf hi, hfi] at hZ
      obtain ⟨h1, h2, h3⟩ := (hcall i hi).2 _ _ _ hfi
      exact .inr ⟨h1, by simp, c, p, 0, hR.symm, rfl, rfl, by rw [← hZ]; rfl, by rw [← hZ]; rfl⟩
  · rintro ⟨k, ys, e, p⟩ hI
    dsimp only at hI ⊢
    refine AW_then fun K2 hK2 => ?_
    refine (fun hcont => ?_) (fun (σ : St) (k : Nat) (ys : List D) (e p : Int) (hl : ys.length ≤ 2001) (hcond : (e = 0 ∧ p = -1 ∧ ∃ acc, ys = acc.map dR ∧ R = .ok acc k) ∨ (∃ c p' q, R = .err c p' q ∧ e = c ∧ p = p' ∧ ys = Z.1.map dR ++ [yF Z.2] ∧ k = kF Z.2)) himp =>
      hK1 σ (AW.imp (τ := ⟨lst [(0, .ref 500 0 0), (1, .d (.v (.int .u8 sn))), (9, .own 13 0 ys.length)], hlst [(500, .box 124 [.d (dS t), int k, int e, int p]), (501, .box 122 [.ref 500 0 0]), (13, .sl 61 1 (ys.map fun y => [y]))]⟩) himp ?_))
    · rcases hI with ⟨rfl, rfl, hk, acc, rfl, hacc, hak, hRk, hZk⟩ | ⟨he, hlen, c, p', q, hRe, rfl, rfl, rfl, rfl⟩
      · have hnx := pnext_spec G t k (by omega) hk 0 (-1)
        have htk := nx_take (t := t) (i := k) hs0
        rw [hsn] at htk
        have ht2 := take_two (t := t) (c := s) (i := k)
        obtain ⟨t1, t2, t3⟩ := take_goes (t := t) (c := s) hk
        have htop := skipB_top hk
        by_cases hb : ((nxB t k).toNat : Int) = sn
        · rw [decide_eq_true hb] at htk
          rw [htk] at hRk hZk ht2 t3
          simp only [if_true] at hRk ht2
          have hZk := hZk rfl
          have t3 := t3 rfl
          rw [ht2] at hRk hZk t2 t3
          refine AW_rg (tyOf_good _) [0, 1, 2, 3, 9, 25] [500, 501, 13] (notIn_ok rfl) fun K' hK' => ?_
          repeat (refine sxf_next fun K2 hK2 => ?_; simp [dNum, pRow, dS, hb]; (repeat (refine ⟨by omega, ?_⟩)); refine hK2 _ ?_; clear hK2 K2)
          refine sxf_next fun K2 hK2 => ?_
          simp [dNum, pRow, dS, hb]
          refine callK.mc (hnx) (by simp [dNum, pRow, dS, hb]) (by simp [dNum, pRow, dS, hb]) (by simp [dNum, pRow, dS, hb]) (by simp [dNum, pRow, dS, hb]) ?_
          simp [dNum, pRow, dS, hb]
          refine hK2 _ ?_
          clear hK2 K2
          repeat (refine sxf_next fun K2 hK2 => ?_; simp [dNum, pRow, dS, hb]; (repeat (refine ⟨by omega, ?_⟩)); refine hK2 _ ?_; clear hK2 K2)
          refine sxf_nil (hK' _ ?_)
          refine AW.st (by simp [dNum, pRow, dS, hb]; rfl) ?_
          clear hK' K'
          refine AW_cond true rfl (fun _ => ?_) (fun h => by cases h)
          refine AW_skip (hK2 _ ?_)
          refine AW_block ?_
          refine AW_rg (tyOf_good _) [0, 1, 2, 3, 9] [500, 501, 13] (notIn_ok rfl) fun K' hK' => ?_
          repeat (refine sxf_next fun K2 hK2 => ?_; simp [dNum, pRow, dS]; (repeat (refine ⟨by omega, ?_⟩)); refine hK2 _ ?_; clear hK2 K2)
          refine sxf_nil (hK' _ ?_)
          refine AW.st (by simp [dNum, pRow, dS]; rfl) ?_
          clear hK' K'
          have hnext := (hcall _ t2).1
          rw [Int.natCast_add] at hnext
          have hone2 : (outD (f (skipB t k + 1)) (yF (skipB t k + 1))).one = true := by
            cases hfi : f (skipB t k + 1) with
            | ok x j => exact dR_one x
            | err c p q => exact ((hcall _ t2).2 _ _ _ hfi).2.1
          have hcel2 := cells_one hone2
          refine AW_re (tyOf_good _) fun K' hK' => ?_
          repeat (refine sxf_next fun K2 hK2 => ?_; simp [dNum, pRow, dS, hcel2, hone2, List.take_of_length_le]; (repeat (refine ⟨by omega, ?_⟩)); refine hK2 _ ?_; clear hK2 K2)
          refine sxf_next fun K2 hK2 => ?_
          simp [dNum, pRow, dS, hcel2, hone2, List.take_of_length_le]
          refine callK.mc (hnext) (by simp [dNum, pRow, dS, hcel2, hone2, List.take_of_length_le]) (by simp [dNum, pRow, dS, hcel2, hone2, List.take_of_length_le]) (by simp [dNum, pRow, dS, hcel2, hone2, List.take_of_length_le]) (by simp [dNum, pRow, dS, hcel2, hone2, List.take_of_length_le]) ?_
          simp [dNum, pRow, dS, hcel2, hone2, List.take_of_length_le]
          refine hK2 _ ?_
          clear hK2 K2
          repeat (refine sxf_next fun K2 hK2 => ?_; simp [dNum, pRow, dS, hcel2, hone2, List.take_of_length_le]; (repeat (refine ⟨by omega, ?_⟩)); refine hK2 _ ?_; clear hK2 K2)
          refine sxf_nil (hK' _ ?_)
          clear hK' K'
          try simp only [thn, inb]
          refine Again.mk (outK (f (skipB t k + 1)) (kF (skipB t k + 1)), acc.map dR ++ [outD (f (skipB t k + 1)) (yF (skipB t k + 1))], eR (f (skipB t k + 1)), pR (f (skipB t k + 1))) ?_ ?_ ?_
          · cases hfi : f (skipB t k + 1) with
            | ok x j =>
              obtain ⟨g1, g2⟩ := hf _ x j t2 hfi
              rw [sev_step hf t2, hfi] at hRk
              rw [sevZ_step hf t2, hfi] at hZk
              exact .inl ⟨rfl, rfl, g2, acc ++ [x], by simp [outD], by simp, by simp [outK]; omega, hRk, fun h => by dsimp only [outK] at h ⊢; simpa only [h, if_true] using hZk⟩
            | err c p q =>
              rw [sev_step hf t2, hfi] at hRk
              rw [sevZ_step hf t2, hfi] at hZk
              obtain ⟨h1, h2, h3⟩ := (hcall _ t2).2 _ _ _ hfi
              exact .inr ⟨h1, by simp; omega, c, p, 0, hRk.symm, rfl, rfl, by rw [← hZk]; rfl, by rw [← hZk]; rfl⟩
          · cases hfi : f (skipB t k + 1) with
            | ok x j =>
              obtain ⟨g1, g2⟩ := hf _ x j t2 hfi
              simp only [eR, outK, if_true]
              omega
            | err c p q =>
              obtain ⟨h1, h2, h3⟩ := (hcall _ t2).2 _ _ _ hfi
              have hc0 : ¬ c = 0 := by omega
              simp [eR, hc0]
              omega
          · refine Imp.to' (notIn_ok rfl) (by simp [dNum, pRow, dS]) (by simp [dNum, pRow, dS])
        · rw [decide_eq_false hb] at htk
          rw [htk] at hRk ht2
          simp only [Bool.false_eq_true, if_false] at hRk ht2
          refine AW_rg (tyOf_good _) [0, 1, 2, 3, 9, 25] [500, 501, 13] (notIn_ok rfl) fun K' hK' => ?_
          repeat (refine sxf_next fun K2 hK2 => ?_; simp [dNum, pRow, dS, hb]; (repeat (refine ⟨by omega, ?_⟩)); refine hK2 _ ?_; clear hK2 K2)
          refine sxf_next fun K2 hK2 => ?_
          simp [dNum, pRow, dS, hb]
          refine callK.mc (hnx) (by simp [dNum, pRow, dS, hb]) (by simp [dNum, pRow, dS, hb]) (by simp [dNum, pRow, dS, hb]) (by simp [dNum, pRow, dS, hb]) ?_
          simp [dNum, pRow, dS, hb]
          refine hK2 _ ?_
          clear hK2 K2
          repeat (refine sxf_next fun K2 hK2 => ?_; simp [dNum, pRow, dS, hb]; (repeat (refine ⟨by omega, ?_⟩)); refine hK2 _ ?_; clear hK2 K2)
          refine sxf_nil (hK' _ ?_)
          refine AW.st (by simp [dNum, pRow, dS, hb]; rfl) ?_
          clear hK' K'
          refine AW_cond false rfl (fun h => by cases h) (fun _ => ?_)
          refine AW_exit (hcont _ (skipB t k) (acc.map dR) 0 (-1) (by simp; omega) (.inl ⟨rfl, rfl, acc, rfl, by rw [← hRk, ht2]⟩) ?_)
          refine Imp.to' (notIn_ok rfl) (by simp [dNum, pRow, dS]) (by simp [dNum, pRow, dS])
      · have he2 : ¬ e = 0 := by omega
        refine AW_rg (tyOf_good _) [0, 1, 2, 3, 9, 25] [500, 501, 13] (notIn_ok rfl) fun K' hK' => ?_
        repeat (refine sxf_next fun K2 hK2 => ?_; simp [dNum, pRow, dS, he2]; (repeat (refine ⟨by omega, ?_⟩)); refine hK2 _ ?_; clear hK2 K2)
        refine sxf_nil (hK' _ ?_)
        refine AW.st (by simp [dNum, pRow, dS, he2]; rfl) ?_
        clear hK' K'
        refine AW_cond false rfl (fun h => by cases h) (fun _ => ?_)
        refine AW_exit (hcont _ (kF Z.2) _ e p' hlen (.inr ⟨e, p', q, hRe, rfl, rfl, rfl, rfl⟩) ?_)
        refine Imp.to' (notIn_ok rfl) (by simp [dNum, pRow, dS]) (by simp [dNum, pRow, dS])
    · obtain ⟨h1, h2, h3, h4⟩ := hend k ys e p hcond
      rw [h1, h2, h3, h4]
      refine AW_then fun K3 hK3 => ?_
      by_cases hl1 : ys.length = 1
      · obtain ⟨y, rfl⟩ := List.length_eq_one_iff.1 hl1
        refine AW_rg (tyOf_good _) [1, 9, 41] [500, 501, 13] (notIn_ok rfl) fun K' hK' => ?_
        repeat (refine sxf_next fun K2 hK2 => ?_; simp [dNum, pRow, dS]; (repeat (refine ⟨by omega, ?_⟩)); refine hK2 _ ?_; clear hK2 K2)
        refine sxf_nil (hK' _ ?_)
        refine AW.st (by simp [dNum, pRow, dS]; rfl) ?_
        clear hK' K'
        refine AW_cond true rfl (fun _ => ?_) (fun h => by cases h)
        refine AW_rg (tyOf_good _) [8] [500, 501] (notIn_ok rfl) fun K' hK' => ?_
        repeat (refine sxf_next fun K2 hK2 => ?_; simp [dNum, pRow, dS]; (repeat (refine ⟨by omega, ?_⟩)); refine hK2 _ ?_; clear hK2 K2)
        refine sxf_nil (hK' _ ?_)
        refine AW.st (by simp [dNum, pRow, dS]; rfl) ?_
        clear hK' K'
        refine AW_ret ?_
        simp [D.le, D.le.go, takeMap, dNum, pRow, dS, rowD, D.le_refl]
      · have hl2 : ¬ (ys.length : Int) = 1 := by omega
        refine AW_rg (tyOf_good _) [1, 9, 41] [500, 501, 13] (notIn_ok rfl) fun K' hK' => ?_
        repeat (refine sxf_next fun K2 hK2 => ?_; simp [dNum, pRow, dS, hl1, hl2]; (repeat (refine ⟨by omega, ?_⟩)); refine hK2 _ ?_; clear hK2 K2)
        refine sxf_nil (hK' _ ?_)
        refine AW.st (by simp [dNum, pRow, dS, hl1, hl2]; rfl) ?_
        clear hK' K'
        refine AW_cond false rfl (fun h => by cases h) (fun _ => ?_)
        refine AW_skip (hK3 _ ?_)
        refine AW.imp (Imp.freeze 13 (by decide)) ?_
        refine AW.st (by simp [dNum, pRow, dS, List.take_of_length_le]; rfl) ?_
        refine AW_rg (tyOf_good _) [8] [500, 501, 49] (notIn_ok rfl) fun K' hK' => ?_
        repeat (refine sxf_next fun K2 hK2 => ?_; simp [dNum, pRow, dS, henc]; (repeat (refine ⟨by omega, ?_⟩)); refine hK2 _ ?_; clear hK2 K2)
        refine sxf_nil (hK' _ ?_)
        refine AW.st (by simp [dNum, pRow, dS, henc]; rfl) ?_
        clear hK' K'
        refine AW.imp (Imp.freezeB 49 (by decide)) ?_
        refine AW.st (by simp [dNum, pRow, dS]; rfl) ?_
        refine AW_ret ?_
        simp [D.le, D.le.go, takeMap, dNum, pRow, dS, rowD_ne hl1, dS, bs_nil, D.le_refl, D.leGo_refl]
end Go.Proofs.YtfehigldhedkgaaDoor

/-
  The reader of expressions: one.
-/
namespace Go.Proofs.YtfehigldhedkgaaDoor
set_option linter.unusedSimpArgs false
set_option linter.unusedVariables false
open Go.Av

/-! ### One -/
theorem take_at {t : List UInt8} {c : UInt8} {i j : Nat} (hj : skipB t i = j) : takeM t c i = if t[j]? = some c then (true, j + 1) else (false, j) := by
  unfold takeM
  rw [hj]
theorem word_q {t : List UInt8} {q i : Nat} {c : Int} {p q' : Nat} (h : wordR t q i = .err c p q') : q' = q := by
  unfold wordR at h
  split at h
  · simp only [Rs.err.injEq] at h; omega
  · split at h
    · simp only [Rs.err.injEq] at h; omega
    · cases h

set_option maxHeartbeats 16000000 in
theorem one_spec (G : Glob) (t : List UInt8) (ht : t.length ≤ 2000) : ∀ (d : Nat), d ≤ 20 → ∀ i, i ≤ t.length → MC Tryd.prog G [500] 94 [.ref 500 0 0, .d (dNum d)] (hlst (rRow t i)) (.d (tupX (oneR t d i))) (hlst (rRow t (posR (oneR t d i)))) := by
  intro d
  induction d with
  | zero =>
    intro _ i hi
    have hfl := fail_spec G t i (by omega) hi 4
    refine MC.of_body (tyOf_good _) Tryd.func94 rfl rfl (rs := [.tmp 4, .tmp 5]) Tryd.results94 (by simp [Tryd.ntmps94]) rfl fun X => ?_
    simp only [Tryd.ntmps94]
    refine AW_rg (tyOf_good _) [0, 1] [500] (notIn_ok rfl) fun K' hK' => ?_
    repeat (refine sxf_next fun K2 hK2 => ?_; simp [dNum, rRow, rdr, dS]; (repeat (refine ⟨by omega, ?_⟩)); refine hK2 _ ?_; clear hK2 K2)
    refine sxf_nil (hK' _ ?_)
    refine AW.st (by simp [dNum, rRow, rdr, dS]; rfl) ?_
    clear hK' K'
    refine AW_then fun K1 hK1 => ?_
    refine AW_rg (tyOf_good _) [0, 1, 17] [500] (notIn_ok rfl) fun K' hK' => ?_
    repeat (refine sxf_next fun K2 hK2 => ?_; simp [dNum, rRow, rdr, dS]; (repeat (refine ⟨by omega, ?_⟩)); refine hK2 _ ?_; clear hK2 K2)
    refine sxf_nil (hK' _ ?_)
    refine AW.st (by simp [dNum, rRow, rdr, dS]; rfl) ?_
    clear hK' K'
    refine AW_cond true rfl (fun _ => ?_) (fun h => by cases h)
    refine AW_rg (tyOf_good _) [4, 5] [500] (notIn_ok rfl) fun K' hK' => ?_
    repeat (refine sxf_next fun K2 hK2 => ?_; simp [dNum, rRow, rdr, dS, dErr]; (repeat (refine ⟨by omega, ?_⟩)); refine hK2 _ ?_; clear hK2 K2)
    refine sxf_next fun K2 hK2 => ?_
    simp [dNum, rRow, rdr, dS, dErr]
    refine callK.mc (hfl) (by simp [dNum, rRow, rdr, dS, dErr]) (by simp [dNum, rRow, rdr, dS, dErr]) (by simp [dNum, rRow, rdr, dS, dErr]) (by simp [dNum, rRow, rdr, dS, dErr]) ?_
    simp [dNum, rRow, rdr, dS, dErr]
    refine hK2 _ ?_
    clear hK2 K2
    repeat (refine sxf_next fun K2 hK2 => ?_; simp [dNum, rRow, rdr, dS, dErr]; (repeat (refine ⟨by omega, ?_⟩)); refine hK2 _ ?_; clear hK2 K2)
    refine sxf_nil (hK' _ ?_)
    refine AW.st (by simp [dNum, rRow, rdr, dS, dErr]; rfl) ?_
    clear hK' K'
    refine AW_ret ?_
    simp [D.le, D.le.go, takeMap, dNum, rRow, rdr, dS, rRow, rdr, tupX, oneR, posR, dErr, dQ]
  | succ d ih =>
    intro hd i hi
    have ih := ih (by omega)
    have hor := or_spec G t ht d ih
    have htop := skipB_top hi
    have hidem := skipB_idem hi
    have hd0 : ¬ (d : Int) + 1 = 0 := by omega
    have ht60 : t.length < 2^60 := by omega
    have htk1 : ∀ c, MC Tryd.prog G [500] 93 [.ref 500 0 0, .d (.v (.int .u8 c.toNat))] (hlst (rRow t i)) (.d (.v (.bool (takeM t c i).1))) (hlst (rRow t (takeM t c i).2)) := fun c => take_spec G t i ht60 hi c
    rw [oneR]
    generalize hj : skipB t i = j at htop hidem ⊢
    have htk2 : ∀ c, MC Tryd.prog G [500] 93 [.ref 500 0 0, .d (.v (.int .u8 c.toNat))] (hlst (rRow t j)) (.d (.v (.bool (takeM t c j).1))) (hlst (rRow t (takeM t c j).2)) := fun c => take_spec G t j ht60 htop c
    have at1 := fun c => take_at (t := t) (c := c) hj
    have at2 := fun c => take_at (t := t) (c := c) hidem
    simp only [at1] at htk1
    simp only [at2] at htk2
    have hlt : ∀ {c : UInt8}, t[j]? = some c → j + 1 ≤ t.length := fun h => (List.getElem?_eq_some_iff.1 h).1
    have k33 := htk1 33
    have k40 := htk2 40
    have k48 := htk2 48
    have k49 := htk2 49
    have k94 := htk2 94
    have k126 := htk2 126
    clear htk1 at1 at2 hj
    by_cases c33 : t[j]? = some 33
    · rw [if_pos c33] at k33 ⊢
      have hc := ih (j + 1) (hlt c33)
      cases hr : oneR t d (j + 1) with
      | err c p q =>
        rw [hr] at hc
        refine MC.of_body (tyOf_good _) Tryd.func94 rfl rfl (rs := [.tmp 4, .tmp 5]) Tryd.results94 (by simp [Tryd.ntmps94]) rfl fun X => ?_
        simp only [Tryd.ntmps94]
        refine AW_rg (tyOf_good _) [0, 1] [500] (notIn_ok rfl) fun K' hK' => ?_
        repeat (refine sxf_next fun K2 hK2 => ?_; simp [dNum, rRow, rdr, dS]; (repeat (refine ⟨by omega, ?_⟩)); refine hK2 _ ?_; clear hK2 K2)
        refine sxf_nil (hK' _ ?_)
        refine AW.st (by simp [dNum, rRow, rdr, dS]; rfl) ?_
        clear hK' K'
        refine AW_then fun K1 hK1 => ?_
        refine AW_rg (tyOf_good _) [0, 1, 17] [500] (notIn_ok rfl) fun K' hK' => ?_
        repeat (refine sxf_next fun K2 hK2 => ?_; simp [dNum, rRow, rdr, dS, hd0]; (repeat (refine ⟨by omega, ?_⟩)); refine hK2 _ ?_; clear hK2 K2)
        refine sxf_nil (hK' _ ?_)
        refine AW.st (by simp [dNum, rRow, rdr, dS, hd0]; rfl) ?_
        clear hK' K'
        refine AW_cond false rfl (fun h => by cases h) (fun _ => ?_)
        refine AW_skip (hK1 _ ?_)
        refine AW_then fun K2 hK2 => ?_
        refine AW_block ?_
        refine AW_rg (tyOf_good _) [0, 1, 20] [500] (notIn_ok rfl) fun K' hK' => ?_
        repeat (refine sxf_next fun K2 hK2 => ?_; simp [dNum, rRow, rdr, dS]; (repeat (refine ⟨by omega, ?_⟩)); refine hK2 _ ?_; clear hK2 K2)
        refine sxf_next fun K2 hK2 => ?_
        simp [dNum, rRow, rdr, dS]
        refine callK.mc (k33) (by simp [dNum, rRow, rdr, dS]) (by simp [dNum, rRow, rdr, dS]) (by simp [dNum, rRow, rdr, dS]) (by simp [dNum, rRow, rdr, dS]) ?_
        simp [dNum, rRow, rdr, dS]
        refine hK2 _ ?_
        clear hK2 K2
        repeat (refine sxf_next fun K2 hK2 => ?_; simp [dNum, rRow, rdr, dS]; (repeat (refine ⟨by omega, ?_⟩)); refine hK2 _ ?_; clear hK2 K2)
        refine sxf_nil (hK' _ ?_)
        refine AW.st (by simp [dNum, rRow, rdr, dS]; rfl) ?_
        clear hK' K'
        refine AW_cond true rfl (fun _ => ?_) (fun h => by cases h)
        refine AW_rg (tyOf_good _) [6, 7] [500] (notIn_ok rfl) fun K' hK' => ?_
        repeat (refine sxf_next fun K2 hK2 => ?_; simp [dNum, rRow, rdr, dS, tupX, dErr]; (repeat (refine ⟨by omega, ?_⟩)); refine hK2 _ ?_; clear hK2 K2)
        refine sxf_next fun K2 hK2 => ?_
        simp [dNum, rRow, rdr, dS, tupX, dErr]
        refine callK.mc (hc) (by simp [dNum, rRow, rdr, dS, tupX, dErr]) (by simp [dNum, rRow, rdr, dS, tupX, dErr]) (by simp [dNum, rRow, rdr, dS, tupX, dErr]) (by simp [dNum, rRow, rdr, dS, tupX, dErr]) ?_
        simp [dNum, rRow, rdr, dS, tupX, dErr]
        refine hK2 _ ?_
        clear hK2 K2
        repeat (refine sxf_next fun K2 hK2 => ?_; simp [dNum, rRow, rdr, dS, tupX, dErr]; (repeat (refine ⟨by omega, ?_⟩)); refine hK2 _ ?_; clear hK2 K2)
        refine sxf_nil (hK' _ ?_)
        refine AW.st (by simp [dNum, rRow, rdr, dS, tupX, dErr]; rfl) ?_
        clear hK' K'
        refine AW_then fun K3 hK3 => ?_
        refine AW_rg (tyOf_good _) [6, 7, 31] [500] (notIn_ok rfl) fun K' hK' => ?_
        repeat (refine sxf_next fun K2 hK2 => ?_; simp [dNum, rRow, rdr, dS]; (repeat (refine ⟨by omega, ?_⟩)); refine hK2 _ ?_; clear hK2 K2)
        refine sxf_nil (hK' _ ?_)
        refine AW.st (by simp [dNum, rRow, rdr, dS]; rfl) ?_
        clear hK' K'
        refine AW_cond true rfl (fun _ => ?_) (fun h => by cases h)
        refine AW_rg (tyOf_good _) [4, 5] [500] (notIn_ok rfl) fun K' hK' => ?_
        repeat (refine sxf_next fun K2 hK2 => ?_; simp [dNum, rRow, rdr, dS]; (repeat (refine ⟨by omega, ?_⟩)); refine hK2 _ ?_; clear hK2 K2)
        refine sxf_nil (hK' _ ?_)
        refine AW.st (by simp [dNum, rRow, rdr, dS]; rfl) ?_
        clear hK' K'
        refine AW_ret ?_
        simp [D.le, D.le.go, takeMap, dNum, rRow, rdr, dS, rRow, rdr, tupX, posR, dErr, dQ]
      | ok x k =>
        rw [hr] at hc
        obtain ⟨tx, cx, hx⟩ := dE_ifc x
        refine MC.of_body (tyOf_good _) Tryd.func94 rfl rfl (rs := [.tmp 4, .tmp 5]) Tryd.results94 (by simp [Tryd.ntmps94]) rfl fun X => ?_
        simp only [Tryd.ntmps94]
        refine AW_rg (tyOf_good _) [0, 1] [500] (notIn_ok rfl) fun K' hK' => ?_
        repeat (refine sxf_next fun K2 hK2 => ?_; simp [dNum, rRow, rdr, dS]; (repeat (refine ⟨by omega, ?_⟩)); refine hK2 _ ?_; clear hK2 K2)
        refine sxf_nil (hK' _ ?_)
        refine AW.st (by simp [dNum, rRow, rdr, dS]; rfl) ?_
        clear hK' K'
        refine AW_then fun K1 hK1 => ?_
        refine AW_rg (tyOf_good _) [0, 1, 17] [500] (notIn_ok rfl) fun K' hK' => ?_
        repeat (refine sxf_next fun K2 hK2 => ?_; simp [dNum, rRow, rdr, dS, hd0]; (repeat (refine ⟨by omega, ?_⟩)); refine hK2 _ ?_; clear hK2 K2)
        refine sxf_nil (hK' _ ?_)
        refine AW.st (by simp [dNum, rRow, rdr, dS, hd0]; rfl) ?_
        clear hK' K'
        refine AW_cond false rfl (fun h => by cases h) (fun _ => ?_)
        refine AW_skip (hK1 _ ?_)
        refine AW_then fun K2 hK2 => ?_
        refine AW_block ?_
        refine AW_rg (tyOf_good _) [0, 1, 20] [500] (notIn_ok rfl) fun K' hK' => ?_
        repeat (refine sxf_next fun K2 hK2 => ?_; simp [dNum, rRow, rdr, dS]; (repeat (refine ⟨by omega, ?_⟩)); refine hK2 _ ?_; clear hK2 K2)
        refine sxf_next fun K2 hK2 => ?_
        simp [dNum, rRow, rdr, dS]
        refine callK.mc (k33) (by simp [dNum, rRow, rdr, dS]) (by simp [dNum, rRow, rdr, dS]) (by simp [dNum, rRow, rdr, dS]) (by simp [dNum, rRow, rdr, dS]) ?_
        simp [dNum, rRow, rdr, dS]
        refine hK2 _ ?_
        clear hK2 K2
        repeat (refine sxf_next fun K2 hK2 => ?_; simp [dNum, rRow, rdr, dS]; (repeat (refine ⟨by omega, ?_⟩)); refine hK2 _ ?_; clear hK2 K2)
        refine sxf_nil (hK' _ ?_)
        refine AW.st (by simp [dNum, rRow, rdr, dS]; rfl) ?_
        clear hK' K'
        refine AW_cond true rfl (fun _ => ?_) (fun h => by cases h)
        refine AW_rg (tyOf_good _) [6, 7] [500] (notIn_ok rfl) fun K' hK' => ?_
        repeat (refine sxf_next fun K2 hK2 => ?_; simp [dNum, rRow, rdr, dS, tupX, hx]; (repeat (refine ⟨by omega, ?_⟩)); refine hK2 _ ?_; clear hK2 K2)
        refine sxf_next fun K2 hK2 => ?_
        simp [dNum, rRow, rdr, dS, tupX, hx]
        refine callK.mc (hc) (by simp [dNum, rRow, rdr, dS, tupX, hx]) (by simp [dNum, rRow, rdr, dS, tupX, hx]) (by simp [dNum, rRow, rdr, dS, tupX, hx]) (by simp [dNum, rRow, rdr, dS, tupX, hx]) ?_
        simp [dNum, rRow, rdr, dS, tupX, hx]
        refine hK2 _ ?_
        clear hK2 K2
        repeat (refine sxf_next fun K2 hK2 => ?_; simp [dNum, rRow, rdr, dS, tupX, hx]; (repeat (refine ⟨by omega, ?_⟩)); refine hK2 _ ?_; clear hK2 K2)
        refine sxf_nil (hK' _ ?_)
        refine AW.st (by simp [dNum, rRow, rdr, dS, tupX, hx]; rfl) ?_
        clear hK' K'
        refine AW_then fun K3 hK3 => ?_
        refine AW_rg (tyOf_good _) [6, 7, 31] [500] (notIn_ok rfl) fun K' hK' => ?_
        repeat (refine sxf_next fun K2 hK2 => ?_; simp [dNum, rRow, rdr, dS]; (repeat (refine ⟨by omega, ?_⟩)); refine hK2 _ ?_; clear hK2 K2)
        refine sxf_nil (hK' _ ?_)
        refine AW.st (by simp [dNum, rRow, rdr, dS]; rfl) ?_
        clear hK' K'
        refine AW_cond false rfl (fun h => by cases h) (fun _ => ?_)
        refine AW_skip (hK3 _ ?_)
        refine AW_rg (tyOf_good _) [4, 5] [500] (notIn_ok rfl) fun K' hK' => ?_
        repeat (refine sxf_next fun K2 hK2 => ?_; simp [dNum, rRow, rdr, dS]; (repeat (refine ⟨by omega, ?_⟩)); refine hK2 _ ?_; clear hK2 K2)
        refine sxf_nil (hK' _ ?_)
        refine AW.st (by simp [dNum, rRow, rdr, dS]; rfl) ?_
        clear hK' K'
        refine AW_ret ?_
        simp [D.le, D.le.go, takeMap, dNum, rRow, rdr, dS, rRow, rdr, tupX, posR, dE, hx, D.le_refl]
    rw [if_neg c33] at k33 ⊢
    by_cases c40 : t[j]? = some 40
    · rw [if_pos c40] at k40 ⊢
      have hc := hor (j + 1) (hlt c40)
      cases hr : orR t (oneR t d) (j + 1) with
      | err c p q =>
        rw [hr] at hc
        refine MC.of_body (tyOf_good _) Tryd.func94 rfl rfl (rs := [.tmp 4, .tmp 5]) Tryd.results94 (by simp [Tryd.ntmps94]) rfl fun X => ?_
        simp only [Tryd.ntmps94]
        refine AW_rg (tyOf_good _) [0, 1] [500] (notIn_ok rfl) fun K' hK' => ?_
        repeat (refine sxf_next fun K2 hK2 => ?_; simp [dNum, rRow, rdr, dS]; (repeat (refine ⟨by omega, ?_⟩)); refine hK2 _ ?_; clear hK2 K2)
        refine sxf_nil (hK' _ ?_)
        refine AW.st (by simp [dNum, rRow, rdr, dS]; rfl) ?_
        clear hK' K'
        refine AW_then fun K1 hK1 => ?_
        refine AW_rg (tyOf_good _) [0, 1, 17] [500] (notIn_ok rfl) fun K' hK' => ?_
        repeat (refine sxf_next fun K2 hK2 => ?_; simp [dNum, rRow, rdr, dS, hd0]; (repeat (refine ⟨by omega, ?_⟩)); refine hK2 _ ?_; clear hK2 K2)
        refine sxf_nil (hK' _ ?_)
        refine AW.st (by simp [dNum, rRow, rdr, dS, hd0]; rfl) ?_
        clear hK' K'
        refine AW_cond false rfl (fun h => by cases h) (fun _ => ?_)
        refine AW_skip (hK1 _ ?_)
        refine AW_then fun K2 hK2 => ?_
        refine AW_block ?_
        refine AW_rg (tyOf_good _) [0, 1, 20] [500] (notIn_ok rfl) fun K' hK' => ?_
        repeat (refine sxf_next fun K2 hK2 => ?_; simp [dNum, rRow, rdr, dS]; (repeat (refine ⟨by omega, ?_⟩)); refine hK2 _ ?_; clear hK2 K2)
        refine sxf_next fun K2 hK2 => ?_
        simp [dNum, rRow, rdr, dS]
        refine callK.mc (k33) (by simp [dNum, rRow, rdr, dS]) (by simp [dNum, rRow, rdr, dS]) (by simp [dNum, rRow, rdr, dS]) (by simp [dNum, rRow, rdr, dS]) ?_
        simp [dNum, rRow, rdr, dS]
        refine hK2 _ ?_
        clear hK2 K2
        repeat (refine sxf_next fun K2 hK2 => ?_; simp [dNum, rRow, rdr, dS]; (repeat (refine ⟨by omega, ?_⟩)); refine hK2 _ ?_; clear hK2 K2)
        refine sxf_nil (hK' _ ?_)
        refine AW.st (by simp [dNum, rRow, rdr, dS]; rfl) ?_
        clear hK' K'
        refine AW_cond false rfl (fun h => by cases h) (fun _ => ?_)
        refine AW_rg (tyOf_good _) [0, 1, 36] [500] (notIn_ok rfl) fun K' hK' => ?_
        repeat (refine sxf_next fun K2 hK2 => ?_; simp [dNum, rRow, rdr, dS]; (repeat (refine ⟨by omega, ?_⟩)); refine hK2 _ ?_; clear hK2 K2)
        refine sxf_next fun K2 hK2 => ?_
        simp [dNum, rRow, rdr, dS]
        refine callK.mc (k40) (by simp [dNum, rRow, rdr, dS]) (by simp [dNum, rRow, rdr, dS]) (by simp [dNum, rRow, rdr, dS]) (by simp [dNum, rRow, rdr, dS]) ?_
        simp [dNum, rRow, rdr, dS]
        refine hK2 _ ?_
        clear hK2 K2
        repeat (refine sxf_next fun K2 hK2 => ?_; simp [dNum, rRow, rdr, dS]; (repeat (refine ⟨by omega, ?_⟩)); refine hK2 _ ?_; clear hK2 K2)
        refine sxf_nil (hK' _ ?_)
        refine AW.st (by simp [dNum, rRow, rdr, dS]; rfl) ?_
        clear hK' K'
        refine AW_cond true rfl (fun _ => ?_) (fun h => by cases h)
        refine AW_rg (tyOf_good _) [0, 8, 9] [500] (notIn_ok rfl) fun K' hK' => ?_
        repeat (refine sxf_next fun K2 hK2 => ?_; simp [dNum, rRow, rdr, dS, tupX, dErr]; (repeat (refine ⟨by omega, ?_⟩)); refine hK2 _ ?_; clear hK2 K2)
        refine sxf_next fun K2 hK2 => ?_
        simp [dNum, rRow, rdr, dS, tupX, dErr]
        refine callK.mc (hc) (by simp [dNum, rRow, rdr, dS, tupX, dErr]) (by simp [dNum, rRow, rdr, dS, tupX, dErr]) (by simp [dNum, rRow, rdr, dS, tupX, dErr]) (by simp [dNum, rRow, rdr, dS, tupX, dErr]) ?_
        simp [dNum, rRow, rdr, dS, tupX, dErr]
        refine hK2 _ ?_
        clear hK2 K2
        repeat (refine sxf_next fun K2 hK2 => ?_; simp [dNum, rRow, rdr, dS, tupX, dErr]; (repeat (refine ⟨by omega, ?_⟩)); refine hK2 _ ?_; clear hK2 K2)
        refine sxf_nil (hK' _ ?_)
        refine AW.st (by simp [dNum, rRow, rdr, dS, tupX, dErr]; rfl) ?_
        clear hK' K'
        refine AW_then fun K4 hK4 => ?_
        refine AW_rg (tyOf_good _) [0, 8, 9, 47] [500] (notIn_ok rfl) fun K' hK' => ?_
        repeat (refine sxf_next fun K2 hK2 => ?_; simp [dNum, rRow, rdr, dS]; (repeat (refine ⟨by omega, ?_⟩)); refine hK2 _ ?_; clear hK2 K2)
        refine sxf_nil (hK' _ ?_)
        refine AW.st (by simp [dNum, rRow, rdr, dS]; rfl) ?_
        clear hK' K'
        refine AW_cond true rfl (fun _ => ?_) (fun h => by cases h)
        refine AW_rg (tyOf_good _) [4, 5] [500] (notIn_ok rfl) fun K' hK' => ?_
        repeat (refine sxf_next fun K2 hK2 => ?_; simp [dNum, rRow, rdr, dS]; (repeat (refine ⟨by omega, ?_⟩)); refine hK2 _ ?_; clear hK2 K2)
        refine sxf_nil (hK' _ ?_)
        refine AW.st (by simp [dNum, rRow, rdr, dS]; rfl) ?_
        clear hK' K'
        refine AW_ret ?_
        simp [D.le, D.le.go, takeMap, dNum, rRow, rdr, dS, rRow, rdr, tupX, posR, dErr, dQ]
      | ok x k =>
        rw [hr] at hc
        obtain ⟨tx, cx, hx⟩ := dE_ifc x
        have hkt := (or_goes (one_goes t d) (j + 1) x k (hlt c40) hr).2
        have k41 := take_spec G t k ht60 hkt 41
        have htg := take_goes (c := 41) hkt
        have h41 : (takeM t 41 k).1 = false → skipB t (takeM t 41 k).2 = (takeM t 41 k).2 := fun h => by
          unfold takeM at h ⊢
          split at h
          · cases h
          · rw [if_neg ‹_›]; exact skipB_idem hkt
        cases htm : takeM t 41 k with
        | mk b k2 =>
        rw [htm] at k41 htg h41
        dsimp only at k41 htg h41 ⊢
        cases b with
        | true =>
          refine MC.of_body (tyOf_good _) Tryd.func94 rfl rfl (rs := [.tmp 4, .tmp 5]) Tryd.results94 (by simp [Tryd.ntmps94]) rfl fun X => ?_
          simp only [Tryd.ntmps94]
          refine AW_rg (tyOf_good _) [0, 1] [500] (notIn_ok rfl) fun K' hK' => ?_
          repeat (refine sxf_next fun K2 hK2 => ?_; simp [dNum, rRow, rdr, dS]; (repeat (refine ⟨by omega, ?_⟩)); refine hK2 _ ?_; clear hK2 K2)
          refine sxf_nil (hK' _ ?_)
          refine AW.st (by simp [dNum, rRow, rdr, dS]; rfl) ?_
          clear hK' K'
          refine AW_then fun K1 hK1 => ?_
          refine AW_rg (tyOf_good _) [0, 1, 17] [500] (notIn_ok rfl) fun K' hK' => ?_
          repeat (refine sxf_next fun K2 hK2 => ?_; simp [dNum, rRow, rdr, dS, hd0]; (repeat (refine ⟨by omega, ?_⟩)); refine hK2 _ ?_; clear hK2 K2)
          refine sxf_nil (hK' _ ?_)
          refine AW.st (by simp [dNum, rRow, rdr, dS, hd0]; rfl) ?_
          clear hK' K'
          refine AW_cond false rfl (fun h => by cases h) (fun _ => ?_)
          refine AW_skip (hK1 _ ?_)
          refine AW_then fun K2 hK2 => ?_
          refine AW_block ?_
          refine AW_rg (tyOf_good _) [0, 1, 20] [500] (notIn_ok rfl) fun K' hK' => ?_
          repeat (refine sxf_next fun K2 hK2 => ?_; simp [dNum, rRow, rdr, dS]; (repeat (refine ⟨by omega, ?_⟩)); refine hK2 _ ?_; clear hK2 K2)
          refine sxf_next fun K2 hK2 => ?_
          simp [dNum, rRow, rdr, dS]
          refine callK.mc (k33) (by simp [dNum, rRow, rdr, dS]) (by simp [dNum, rRow, rdr, dS]) (by simp [dNum, rRow, rdr, dS]) (by simp [dNum, rRow, rdr, dS]) ?_
          simp [dNum, rRow, rdr, dS]
          refine hK2 _ ?_
          clear hK2 K2
          repeat (refine sxf_next fun K2 hK2 => ?_; simp [dNum, rRow, rdr, dS]; (repeat (refine ⟨by omega, ?_⟩)); refine hK2 _ ?_; clear hK2 K2)
          refine sxf_nil (hK' _ ?_)
          refine AW.st (by simp [dNum, rRow, rdr, dS]; rfl) ?_
          clear hK' K'
          refine AW_cond false rfl (fun h => by cases h) (fun _ => ?_)
          refine AW_rg (tyOf_good _) [0, 1, 36] [500] (notIn_ok rfl) fun K' hK' => ?_
          repeat (refine sxf_next fun K2 hK2 => ?_; simp [dNum, rRow, rdr, dS]; (repeat (refine ⟨by omega, ?_⟩)); refine hK2 _ ?_; clear hK2 K2)
          refine sxf_next fun K2 hK2 => ?_
          simp [dNum, rRow, rdr, dS]
          refine callK.mc (k40) (by simp [dNum, rRow, rdr, dS]) (by simp [dNum, rRow, rdr, dS]) (by simp [dNum, rRow, rdr, dS]) (by simp [dNum, rRow, rdr, dS]) ?_
          simp [dNum, rRow, rdr, dS]
          refine hK2 _ ?_
          clear hK2 K2
          repeat (refine sxf_next fun K2 hK2 => ?_; simp [dNum, rRow, rdr, dS]; (repeat (refine ⟨by omega, ?_⟩)); refine hK2 _ ?_; clear hK2 K2)
          refine sxf_nil (hK' _ ?_)
          refine AW.st (by simp [dNum, rRow, rdr, dS]; rfl) ?_
          clear hK' K'
          refine AW_cond true rfl (fun _ => ?_) (fun h => by cases h)
          refine AW_rg (tyOf_good _) [0, 8, 9] [500] (notIn_ok rfl) fun K' hK' => ?_
          repeat (refine sxf_next fun K2 hK2 => ?_; simp [dNum, rRow, rdr, dS, tupX, posR, hx]; (repeat (refine ⟨by omega, ?_⟩)); refine hK2 _ ?_; clear hK2 K2)
          refine sxf_next fun K2 hK2 => ?_
          simp [dNum, rRow, rdr, dS, tupX, posR, hx]
          refine callK.mc (hc) (by simp [dNum, rRow, rdr, dS, tupX, posR, hx]) (by simp [dNum, rRow, rdr, dS, tupX, posR, hx]) (by simp [dNum, rRow, rdr, dS, tupX, posR, hx]) (by simp [dNum, rRow, rdr, dS, tupX, posR, hx]) ?_
          simp [dNum, rRow, rdr, dS, tupX, posR, hx]
          refine hK2 _ ?_
          clear hK2 K2
          repeat (refine sxf_next fun K2 hK2 => ?_; simp [dNum, rRow, rdr, dS, tupX, posR, hx]; (repeat (refine ⟨by omega, ?_⟩)); refine hK2 _ ?_; clear hK2 K2)
          refine sxf_nil (hK' _ ?_)
          refine AW.st (by simp [dNum, rRow, rdr, dS, tupX, posR, hx]; rfl) ?_
          clear hK' K'
          refine AW_then fun K4 hK4 => ?_
          refine AW_rg (tyOf_good _) [0, 8, 9, 47] [500] (notIn_ok rfl) fun K' hK' => ?_
          repeat (refine sxf_next fun K2 hK2 => ?_; simp [dNum, rRow, rdr, dS]; (repeat (refine ⟨by omega, ?_⟩)); refine hK2 _ ?_; clear hK2 K2)
          refine sxf_nil (hK' _ ?_)
          refine AW.st (by simp [dNum, rRow, rdr, dS]; rfl) ?_
          clear hK' K'
          refine AW_cond false rfl (fun h => by cases h) (fun _ => ?_)
          refine AW_skip (hK4 _ ?_)
          refine AW_then fun K5 hK5 => ?_
          refine AW_rg (tyOf_good _) [0, 8, 51] [500] (notIn_ok rfl) fun K' hK' => ?_
          repeat (refine sxf_next fun K2 hK2 => ?_; simp [dNum, rRow, rdr, dS]; (repeat (refine ⟨by omega, ?_⟩)); refine hK2 _ ?_; clear hK2 K2)
          refine sxf_next fun K2 hK2 => ?_
          simp [dNum, rRow, rdr, dS]
          refine callK.mc (k41) (by simp [dNum, rRow, rdr, dS]) (by simp [dNum, rRow, rdr, dS]) (by simp [dNum, rRow, rdr, dS]) (by simp [dNum, rRow, rdr, dS]) ?_
          simp [dNum, rRow, rdr, dS]
          refine hK2 _ ?_
          clear hK2 K2
          repeat (refine sxf_next fun K2 hK2 => ?_; simp [dNum, rRow, rdr, dS]; (repeat (refine ⟨by omega, ?_⟩)); refine hK2 _ ?_; clear hK2 K2)
          refine sxf_nil (hK' _ ?_)
          refine AW.st (by simp [dNum, rRow, rdr, dS]; rfl) ?_
          clear hK' K'
          refine AW_cond false rfl (fun h => by cases h) (fun _ => ?_)
          refine AW_skip (hK5 _ ?_)
          refine AW_rg (tyOf_good _) [4, 5] [500] (notIn_ok rfl) fun K' hK' => ?_
          repeat (refine sxf_next fun K2 hK2 => ?_; simp [dNum, rRow, rdr, dS]; (repeat (refine ⟨by omega, ?_⟩)); refine hK2 _ ?_; clear hK2 K2)
          refine sxf_nil (hK' _ ?_)
          refine AW.st (by simp [dNum, rRow, rdr, dS]; rfl) ?_
          clear hK' K'
          refine AW_ret ?_
          simp [D.le, D.le.go, takeMap, dNum, rRow, rdr, dS, rRow, rdr, tupX, posR, hx, htm, D.le_refl]
        | false =>
          have hfl := fail_spec G t k2 ht60 htg.2.1 3
          rw [h41 rfl] at hfl
          refine MC.of_body (tyOf_good _) Tryd.func94 rfl rfl (rs := [.tmp 4, .tmp 5]) Tryd.results94 (by simp [Tryd.ntmps94]) rfl fun X => ?_
          simp only [Tryd.ntmps94]
          refine AW_rg (tyOf_good _) [0, 1] [500] (notIn_ok rfl) fun K' hK' => ?_
          repeat (refine sxf_next fun K2 hK2 => ?_; simp [dNum, rRow, rdr, dS]; (repeat (refine ⟨by omega, ?_⟩)); refine hK2 _ ?_; clear hK2 K2)
          refine sxf_nil (hK' _ ?_)
          refine AW.st (by simp [dNum, rRow, rdr, dS]; rfl) ?_
          clear hK' K'
          refine AW_then fun K1 hK1 => ?_
          refine AW_rg (tyOf_good _) [0, 1, 17] [500] (notIn_ok rfl) fun K' hK' => ?_
          repeat (refine sxf_next fun K2 hK2 => ?_; simp [dNum, rRow, rdr, dS, hd0]; (repeat (refine ⟨by omega, ?_⟩)); refine hK2 _ ?_; clear hK2 K2)
          refine sxf_nil (hK' _ ?_)
          refine AW.st (by simp [dNum, rRow, rdr, dS, hd0]; rfl) ?_
          clear hK' K'
          refine AW_cond false rfl (fun h => by cases h) (fun _ => ?_)
          refine AW_skip (hK1 _ ?_)
          refine AW_then fun K2 hK2 => ?_
          refine AW_block ?_
          refine AW_rg (tyOf_good _) [0, 1, 20] [500] (notIn_ok rfl) fun K' hK' => ?_
          repeat (refine sxf_next fun K2 hK2 => ?_; simp [dNum, rRow, rdr, dS]; (repeat (refine ⟨by omega, ?_⟩)); refine hK2 _ ?_; clear hK2 K2)
          refine sxf_next fun K2 hK2 => ?_
          simp [dNum, rRow, rdr, dS]
          refine callK.mc (k33) (by simp [dNum, rRow, rdr, dS]) (by simp [dNum, rRow, rdr, dS]) (by simp [dNum, rRow, rdr, dS]) (by simp [dNum, rRow, rdr, dS]) ?_
          simp [dNum, rRow, rdr, dS]
          refine hK2 _ ?_
          clear hK2 K2
          repeat (refine sxf_next fun K2 hK2 => ?_; simp [dNum, rRow, rdr, dS]; (repeat (refine ⟨by omega, ?_⟩)); refine hK2 _ ?_; clear hK2 K2)
          refine sxf_nil (hK' _ ?_)
          refine AW.st (by simp [dNum, rRow, rdr, dS]; rfl) ?_
          clear hK' K'
          refine AW_cond false rfl (fun h => by cases h) (fun _ => ?_)
          refine AW_rg (tyOf_good _) [0, 1, 36] [500] (notIn_ok rfl) fun K' hK' => ?_
          repeat (refine sxf_next fun K2 hK2 => ?_; simp [dNum, rRow, rdr, dS]; (repeat (refine ⟨by omega, ?_⟩)); refine hK2 _ ?_; clear hK2 K2)
          refine sxf_next fun K2 hK2 => ?_
          simp [dNum, rRow, rdr, dS]
          refine callK.mc (k40) (by simp [dNum, rRow, rdr, dS]) (by simp [dNum, rRow, rdr, dS]) (by simp [dNum, rRow, rdr, dS]) (by simp [dNum, rRow, rdr, dS]) ?_
          simp [dNum, rRow, rdr, dS]
          refine hK2 _ ?_
          clear hK2 K2
          repeat (refine sxf_next fun K2 hK2 => ?_; simp [dNum, rRow, rdr, dS]; (repeat (refine ⟨by omega, ?_⟩)); refine hK2 _ ?_; clear hK2 K2)
          refine sxf_nil (hK' _ ?_)
          refine AW.st (by simp [dNum, rRow, rdr, dS]; rfl) ?_
          clear hK' K'
          refine AW_cond true rfl (fun _ => ?_) (fun h => by cases h)
          refine AW_rg (tyOf_good _) [0, 8, 9] [500] (notIn_ok rfl) fun K' hK' => ?_
          repeat (refine sxf_next fun K2 hK2 => ?_; simp [dNum, rRow, rdr, dS, tupX, posR, hx]; (repeat (refine ⟨by omega, ?_⟩)); refine hK2 _ ?_; clear hK2 K2)
          refine sxf_next fun K2 hK2 => ?_
          simp [dNum, rRow, rdr, dS, tupX, posR, hx]
          refine callK.mc (hc) (by simp [dNum, rRow, rdr, dS, tupX, posR, hx]) (by simp [dNum, rRow, rdr, dS, tupX, posR, hx]) (by simp [dNum, rRow, rdr, dS, tupX, posR, hx]) (by simp [dNum, rRow, rdr, dS, tupX, posR, hx]) ?_
          simp [dNum, rRow, rdr, dS, tupX, posR, hx]
          refine hK2 _ ?_
          clear hK2 K2
          repeat (refine sxf_next fun K2 hK2 => ?_; simp [dNum, rRow, rdr, dS, tupX, posR, hx]; (repeat (refine ⟨by omega, ?_⟩)); refine hK2 _ ?_; clear hK2 K2)
          refine sxf_nil (hK' _ ?_)
          refine AW.st (by simp [dNum, rRow, rdr, dS, tupX, posR, hx]; rfl) ?_
          clear hK' K'
          refine AW_then fun K4 hK4 => ?_
          refine AW_rg (tyOf_good _) [0, 8, 9, 47] [500] (notIn_ok rfl) fun K' hK' => ?_
          repeat (refine sxf_next fun K2 hK2 => ?_; simp [dNum, rRow, rdr, dS]; (repeat (refine ⟨by omega, ?_⟩)); refine hK2 _ ?_; clear hK2 K2)
          refine sxf_nil (hK' _ ?_)
          refine AW.st (by simp [dNum, rRow, rdr, dS]; rfl) ?_
          clear hK' K'
          refine AW_cond false rfl (fun h => by cases h) (fun _ => ?_)
          refine AW_skip (hK4 _ ?_)
          refine AW_then fun K5 hK5 => ?_
          refine AW_rg (tyOf_good _) [0, 8, 51] [500] (notIn_ok rfl) fun K' hK' => ?_
          repeat (refine sxf_next fun K2 hK2 => ?_; simp [dNum, rRow, rdr, dS]; (repeat (refine ⟨by omega, ?_⟩)); refine hK2 _ ?_; clear hK2 K2)
          refine sxf_next fun K2 hK2 => ?_
          simp [dNum, rRow, rdr, dS]
          refine callK.mc (k41) (by simp [dNum, rRow, rdr, dS]) (by simp [dNum, rRow, rdr, dS]) (by simp [dNum, rRow, rdr, dS]) (by simp [dNum, rRow, rdr, dS]) ?_
          simp [dNum, rRow, rdr, dS]
          refine hK2 _ ?_
          clear hK2 K2
          repeat (refine sxf_next fun K2 hK2 => ?_; simp [dNum, rRow, rdr, dS]; (repeat (refine ⟨by omega, ?_⟩)); refine hK2 _ ?_; clear hK2 K2)
          refine sxf_nil (hK' _ ?_)
          refine AW.st (by simp [dNum, rRow, rdr, dS]; rfl) ?_
          clear hK' K'
          refine AW_cond true rfl (fun _ => ?_) (fun h => by cases h)
          refine AW_rg (tyOf_good _) [4, 5] [500] (notIn_ok rfl) fun K' hK' => ?_
          repeat (refine sxf_next fun K2 hK2 => ?_; simp [dNum, rRow, rdr, dS, dErr]; (repeat (refine ⟨by omega, ?_⟩)); refine hK2 _ ?_; clear hK2 K2)
          refine sxf_next fun K2 hK2 => ?_
          simp [dNum, rRow, rdr, dS, dErr]
          refine callK.mc (hfl) (by simp [dNum, rRow, rdr, dS, dErr]) (by simp [dNum, rRow, rdr, dS, dErr]) (by simp [dNum, rRow, rdr, dS, dErr]) (by simp [dNum, rRow, rdr, dS, dErr]) ?_
          simp [dNum, rRow, rdr, dS, dErr]
          refine hK2 _ ?_
          clear hK2 K2
          repeat (refine sxf_next fun K2 hK2 => ?_; simp [dNum, rRow, rdr, dS, dErr]; (repeat (refine ⟨by omega, ?_⟩)); refine hK2 _ ?_; clear hK2 K2)
          refine sxf_nil (hK' _ ?_)
          refine AW.st (by simp [dNum, rRow, rdr, dS, dErr]; rfl) ?_
          clear hK' K'
          refine AW_ret ?_
          simp [D.le, D.le.go, takeMap, dNum, rRow, rdr, dS, rRow, rdr, tupX, posR, dErr, dQ, htm]
    rw [if_neg c40] at k40 ⊢
    by_cases c48 : t[j]? = some 48
    · rw [if_pos c48] at k48 ⊢
      refine MC.of_body (tyOf_good _) Tryd.func94 rfl rfl (rs := [.tmp 4, .tmp 5]) Tryd.results94 (by simp [Tryd.ntmps94]) rfl fun X => ?_
      simp only [Tryd.ntmps94]
      refine AW_rg (tyOf_good _) [0, 1] [500] (notIn_ok rfl) fun K' hK' => ?_
      repeat (refine sxf_next fun K2 hK2 => ?_; simp [dNum, rRow, rdr, dS]; (repeat (refine ⟨by omega, ?_⟩)); refine hK2 _ ?_; clear hK2 K2)
      refine sxf_nil (hK' _ ?_)
      refine AW.st (by simp [dNum, rRow, rdr, dS]; rfl) ?_
      clear hK' K'
      refine AW_then fun K1 hK1 => ?_
      refine AW_rg (tyOf_good _) [0, 1, 17] [500] (notIn_ok rfl) fun K' hK' => ?_
      repeat (refine sxf_next fun K2 hK2 => ?_; simp [dNum, rRow, rdr, dS, hd0]; (repeat (refine ⟨by omega, ?_⟩)); refine hK2 _ ?_; clear hK2 K2)
      refine sxf_nil (hK' _ ?_)
      refine AW.st (by simp [dNum, rRow, rdr, dS, hd0]; rfl) ?_
      clear hK' K'
      refine AW_cond false rfl (fun h => by cases h) (fun _ => ?_)
      refine AW_skip (hK1 _ ?_)
      refine AW_then fun K2 hK2 => ?_
      refine AW_block ?_
      refine AW_rg (tyOf_good _) [0, 1, 20] [500] (notIn_ok rfl) fun K' hK' => ?_
      repeat (refine sxf_next fun K2 hK2 => ?_; simp [dNum, rRow, rdr, dS]; (repeat (refine ⟨by omega, ?_⟩)); refine hK2 _ ?_; clear hK2 K2)
      refine sxf_next fun K2 hK2 => ?_
      simp [dNum, rRow, rdr, dS]
      refine callK.mc (k33) (by simp [dNum, rRow, rdr, dS]) (by simp [dNum, rRow, rdr, dS]) (by simp [dNum, rRow, rdr, dS]) (by simp [dNum, rRow, rdr, dS]) ?_
      simp [dNum, rRow, rdr, dS]
      refine hK2 _ ?_
      clear hK2 K2
      repeat (refine sxf_next fun K2 hK2 => ?_; simp [dNum, rRow, rdr, dS]; (repeat (refine ⟨by omega, ?_⟩)); refine hK2 _ ?_; clear hK2 K2)
      refine sxf_nil (hK' _ ?_)
      refine AW.st (by simp [dNum, rRow, rdr, dS]; rfl) ?_
      clear hK' K'
      refine AW_cond false rfl (fun h => by cases h) (fun _ => ?_)
      refine AW_rg (tyOf_good _) [0, 1, 36] [500] (notIn_ok rfl) fun K' hK' => ?_
      repeat (refine sxf_next fun K2 hK2 => ?_; simp [dNum, rRow, rdr, dS]; (repeat (refine ⟨by omega, ?_⟩)); refine hK2 _ ?_; clear hK2 K2)
      refine sxf_next fun K2 hK2 => ?_
      simp [dNum, rRow, rdr, dS]
      refine callK.mc (k40) (by simp [dNum, rRow, rdr, dS]) (by simp [dNum, rRow, rdr, dS]) (by simp [dNum, rRow, rdr, dS]) (by simp [dNum, rRow, rdr, dS]) ?_
      simp [dNum, rRow, rdr, dS]
      refine hK2 _ ?_
      clear hK2 K2
      repeat (refine sxf_next fun K2 hK2 => ?_; simp [dNum, rRow, rdr, dS]; (repeat (refine ⟨by omega, ?_⟩)); refine hK2 _ ?_; clear hK2 K2)
      refine sxf_nil (hK' _ ?_)
      refine AW.st (by simp [dNum, rRow, rdr, dS]; rfl) ?_
      clear hK' K'
      refine AW_cond false rfl (fun h => by cases h) (fun _ => ?_)
      refine AW_rg (tyOf_good _) [0, 55] [500] (notIn_ok rfl) fun K' hK' => ?_
      repeat (refine sxf_next fun K2 hK2 => ?_; simp [dNum, rRow, rdr, dS]; (repeat (refine ⟨by omega, ?_⟩)); refine hK2 _ ?_; clear hK2 K2)
      refine sxf_next fun K2 hK2 => ?_
      simp [dNum, rRow, rdr, dS]
      refine callK.mc (k48) (by simp [dNum, rRow, rdr, dS]) (by simp [dNum, rRow, rdr, dS]) (by simp [dNum, rRow, rdr, dS]) (by simp [dNum, rRow, rdr, dS]) ?_
      simp [dNum, rRow, rdr, dS]
      refine hK2 _ ?_
      clear hK2 K2
      repeat (refine sxf_next fun K2 hK2 => ?_; simp [dNum, rRow, rdr, dS]; (repeat (refine ⟨by omega, ?_⟩)); refine hK2 _ ?_; clear hK2 K2)
      refine sxf_nil (hK' _ ?_)
      refine AW.st (by simp [dNum, rRow, rdr, dS]; rfl) ?_
      clear hK' K'
      refine AW_cond true rfl (fun _ => ?_) (fun h => by cases h)
      refine AW_rg (tyOf_good _) [4, 5] [500] (notIn_ok rfl) fun K' hK' => ?_
      repeat (refine sxf_next fun K2 hK2 => ?_; simp [dNum, rRow, rdr, dS]; (repeat (refine ⟨by omega, ?_⟩)); refine hK2 _ ?_; clear hK2 K2)
      refine sxf_nil (hK' _ ?_)
      refine AW.st (by simp [dNum, rRow, rdr, dS]; rfl) ?_
      clear hK' K'
      refine AW_ret ?_
      simp [D.le, D.le.go, takeMap, dNum, rRow, rdr, dS, rRow, rdr, tupX, posR, dE]
    rw [if_neg c48] at k48 ⊢
    by_cases c49 : t[j]? = some 49
    · rw [if_pos c49] at k49 ⊢
      refine MC.of_body (tyOf_good _) Tryd.func94 rfl rfl (rs := [.tmp 4, .tmp 5]) Tryd.results94 (by simp [Tryd.ntmps94]) rfl fun X => ?_
      simp only [Tryd.ntmps94]
      refine AW_rg (tyOf_good _) [0, 1] [500] (notIn_ok rfl) fun K' hK' => ?_
      repeat (refine sxf_next fun K2 hK2 => ?_; simp [dNum, rRow, rdr, dS]; (repeat (refine ⟨by omega, ?_⟩)); refine hK2 _ ?_; clear hK2 K2)
      refine sxf_nil (hK' _ ?_)
      refine AW.st (by simp [dNum, rRow, rdr, dS]; rfl) ?_
      clear hK' K'
      refine AW_then fun K1 hK1 => ?_
      refine AW_rg (tyOf_good _) [0, 1, 17] [500] (notIn_ok rfl) fun K' hK' => ?_
      repeat (refine sxf_next fun K2 hK2 => ?_; simp [dNum, rRow, rdr, dS, hd0]; (repeat (refine ⟨by omega, ?_⟩)); refine hK2 _ ?_; clear hK2 K2)
      refine sxf_nil (hK' _ ?_)
      refine AW.st (by simp [dNum, rRow, rdr, dS, hd0]; rfl) ?_
      clear hK' K'
      refine AW_cond false rfl (fun h => by cases h) (fun _ => ?_)
      refine AW_skip (hK1 _ ?_)
      refine AW_then fun K2 hK2 => ?_
      refine AW_block ?_
      refine AW_rg (tyOf_good _) [0, 1, 20] [500] (notIn_ok rfl) fun K' hK' => ?_
      repeat (refine sxf_next fun K2 hK2 => ?_; simp [dNum, rRow, rdr, dS]; (repeat (refine ⟨by omega, ?_⟩)); refine hK2 _ ?_; clear hK2 K2)
      refine sxf_next fun K2 hK2 => ?_
      simp [dNum, rRow, rdr, dS]
      refine callK.mc (k33) (by simp [dNum, rRow, rdr, dS]) (by simp [dNum, rRow, rdr, dS]) (by simp [dNum, rRow, rdr, dS]) (by simp [dNum, rRow, rdr, dS]) ?_
      simp [dNum, rRow, rdr, dS]
      refine hK2 _ ?_
      clear hK2 K2
      repeat (refine sxf_next fun K2 hK2 => ?_; simp [dNum, rRow, rdr, dS]; (repeat (refine ⟨by omega, ?_⟩)); refine hK2 _ ?_; clear hK2 K2)
      refine sxf_nil (hK' _ ?_)
      refine AW.st (by simp [dNum, rRow, rdr, dS]; rfl) ?_
      clear hK' K'
      refine AW_cond false rfl (fun h => by cases h) (fun _ => ?_)
      refine AW_rg (tyOf_good _) [0, 1, 36] [500] (notIn_ok rfl) fun K' hK' => ?_
      repeat (refine sxf_next fun K2 hK2 => ?_; simp [dNum, rRow, rdr, dS]; (repeat (refine ⟨by omega, ?_⟩)); refine hK2 _ ?_; clear hK2 K2)
      refine sxf_next fun K2 hK2 => ?_
      simp [dNum, rRow, rdr, dS]
      refine callK.mc (k40) (by simp [dNum, rRow, rdr, dS]) (by simp [dNum, rRow, rdr, dS]) (by simp [dNum, rRow, rdr, dS]) (by simp [dNum, rRow, rdr, dS]) ?_
      simp [dNum, rRow, rdr, dS]
      refine hK2 _ ?_
      clear hK2 K2
      repeat (refine sxf_next fun K2 hK2 => ?_; simp [dNum, rRow, rdr, dS]; (repeat (refine ⟨by omega, ?_⟩)); refine hK2 _ ?_; clear hK2 K2)
      refine sxf_nil (hK' _ ?_)
      refine AW.st (by simp [dNum, rRow, rdr, dS]; rfl) ?_
      clear hK' K'
      refine AW_cond false rfl (fun h => by cases h) (fun _ => ?_)
      refine AW_rg (tyOf_good _) [0, 55] [500] (notIn_ok rfl) fun K' hK' => ?_
      repeat (refine sxf_next fun K2 hK2 => ?_; simp [dNum, rRow, rdr, dS]; (repeat (refine ⟨by omega, ?_⟩)); refine hK2 _ ?_; clear hK2 K2)
      refine sxf_next fun K2 hK2 => ?_
      simp [dNum, rRow, rdr, dS]
      refine callK.mc (k48) (by simp [dNum, rRow, rdr, dS]) (by simp [dNum, rRow, rdr, dS]) (by simp [dNum, rRow, rdr, dS]) (by simp [dNum, rRow, rdr, dS]) ?_
      simp [dNum, rRow, rdr, dS]
      refine hK2 _ ?_
      clear hK2 K2
      repeat (refine sxf_next fun K2 hK2 => ?_; simp [dNum, rRow, rdr, dS]; (repeat (refine ⟨by omega, ?_⟩)); refine hK2 _ ?_; clear hK2 K2)
      refine sxf_nil (hK' _ ?_)
      refine AW.st (by simp [dNum, rRow, rdr, dS]; rfl) ?_
      clear hK' K'
      refine AW_cond false rfl (fun h => by cases h) (fun _ => ?_)
      refine AW_rg (tyOf_good _) [0, 59] [500] (notIn_ok rfl) fun K' hK' => ?_
      repeat (refine sxf_next fun K2 hK2 => ?_; simp [dNum, rRow, rdr, dS]; (repeat (refine ⟨by omega, ?_⟩)); refine hK2 _ ?_; clear hK2 K2)
      refine sxf_next fun K2 hK2 => ?_
      simp [dNum, rRow, rdr, dS]
      refine callK.mc (k49) (by simp [dNum, rRow, rdr, dS]) (by simp [dNum, rRow, rdr, dS]) (by simp [dNum, rRow, rdr, dS]) (by simp [dNum, rRow, rdr, dS]) ?_
      simp [dNum, rRow, rdr, dS]
      refine hK2 _ ?_
      clear hK2 K2
      repeat (refine sxf_next fun K2 hK2 => ?_; simp [dNum, rRow, rdr, dS]; (repeat (refine ⟨by omega, ?_⟩)); refine hK2 _ ?_; clear hK2 K2)
      refine sxf_nil (hK' _ ?_)
      refine AW.st (by simp [dNum, rRow, rdr, dS]; rfl) ?_
      clear hK' K'
      refine AW_cond true rfl (fun _ => ?_) (fun h => by cases h)
      refine AW_rg (tyOf_good _) [4, 5] [500] (notIn_ok rfl) fun K' hK' => ?_
      repeat (refine sxf_next fun K2 hK2 => ?_; simp [dNum, rRow, rdr, dS]; (repeat (refine ⟨by omega, ?_⟩)); refine hK2 _ ?_; clear hK2 K2)
      refine sxf_nil (hK' _ ?_)
      refine AW.st (by simp [dNum, rRow, rdr, dS]; rfl) ?_
      clear hK' K'
      refine AW_ret ?_
      simp [D.le, D.le.go, takeMap, dNum, rRow, rdr, dS, rRow, rdr, tupX, posR, dE]
    rw [if_neg c49] at k49 ⊢
    by_cases c94 : t[j]? = some 94
    · rw [if_pos c94] at k94 ⊢
      have hc := word_spec G t 1 (j + 1) ht60 (hlt c94)
      have hq : ∀ {c : Int} {p q' : Nat}, wordR t 1 (j + 1) = .err c p q' → q' = 1 := fun h => word_q h
      cases hr : wordR t 1 (j + 1) with
      | err c p q' =>
        obtain rfl := hq hr
        rw [hr] at hc
        refine MC.of_body (tyOf_good _) Tryd.func94 rfl rfl (rs := [.tmp 4, .tmp 5]) Tryd.results94 (by simp [Tryd.ntmps94]) rfl fun X => ?_
        simp only [Tryd.ntmps94]
        refine AW_rg (tyOf_good _) [0, 1] [500] (notIn_ok rfl) fun K' hK' => ?_
        repeat (refine sxf_next fun K2 hK2 => ?_; simp [dNum, rRow, rdr, dS]; (repeat (refine ⟨by omega, ?_⟩)); refine hK2 _ ?_; clear hK2 K2)
        refine sxf_nil (hK' _ ?_)
        refine AW.st (by simp [dNum, rRow, rdr, dS]; rfl) ?_
        clear hK' K'
        refine AW_then fun K1 hK1 => ?_
        refine AW_rg (tyOf_good _) [0, 1, 17] [500] (notIn_ok rfl) fun K' hK' => ?_
        repeat (refine sxf_next fun K2 hK2 => ?_; simp [dNum, rRow, rdr, dS, hd0]; (repeat (refine ⟨by omega, ?_⟩)); refine hK2 _ ?_; clear hK2 K2)
        refine sxf_nil (hK' _ ?_)
        refine AW.st (by simp [dNum, rRow, rdr, dS, hd0]; rfl) ?_
        clear hK' K'
        refine AW_cond false rfl (fun h => by cases h) (fun _ => ?_)
        refine AW_skip (hK1 _ ?_)
        refine AW_then fun K2 hK2 => ?_
        refine AW_block ?_
        refine AW_rg (tyOf_good _) [0, 1, 20] [500] (notIn_ok rfl) fun K' hK' => ?_
        repeat (refine sxf_next fun K2 hK2 => ?_; simp [dNum, rRow, rdr, dS]; (repeat (refine ⟨by omega, ?_⟩)); refine hK2 _ ?_; clear hK2 K2)
        refine sxf_next fun K2 hK2 => ?_
        simp [dNum, rRow, rdr, dS]
        refine callK.mc (k33) (by simp [dNum, rRow, rdr, dS]) (by simp [dNum, rRow, rdr, dS]) (by simp [dNum, rRow, rdr, dS]) (by simp [dNum, rRow, rdr, dS]) ?_
        simp [dNum, rRow, rdr, dS]
        refine hK2 _ ?_
        clear hK2 K2
        repeat (refine sxf_next fun K2 hK2 => ?_; simp [dNum, rRow, rdr, dS]; (repeat (refine ⟨by omega, ?_⟩)); refine hK2 _ ?_; clear hK2 K2)
        refine sxf_nil (hK' _ ?_)
        refine AW.st (by simp [dNum, rRow, rdr, dS]; rfl) ?_
        clear hK' K'
        refine AW_cond false rfl (fun h => by cases h) (fun _ => ?_)
        refine AW_rg (tyOf_good _) [0, 1, 36] [500] (notIn_ok rfl) fun K' hK' => ?_
        repeat (refine sxf_next fun K2 hK2 => ?_; simp [dNum, rRow, rdr, dS]; (repeat (refine ⟨by omega, ?_⟩)); refine hK2 _ ?_; clear hK2 K2)
        refine sxf_next fun K2 hK2 => ?_
        simp [dNum, rRow, rdr, dS]
        refine callK.mc (k40) (by simp [dNum, rRow, rdr, dS]) (by simp [dNum, rRow, rdr, dS]) (by simp [dNum, rRow, rdr, dS]) (by simp [dNum, rRow, rdr, dS]) ?_
        simp [dNum, rRow, rdr, dS]
        refine hK2 _ ?_
        clear hK2 K2
        repeat (refine sxf_next fun K2 hK2 => ?_; simp [dNum, rRow, rdr, dS]; (repeat (refine ⟨by omega, ?_⟩)); refine hK2 _ ?_; clear hK2 K2)
        refine sxf_nil (hK' _ ?_)
        refine AW.st (by simp [dNum, rRow, rdr, dS]; rfl) ?_
        clear hK' K'
        refine AW_cond false rfl (fun h => by cases h) (fun _ => ?_)
        refine AW_rg (tyOf_good _) [0, 55] [500] (notIn_ok rfl) fun K' hK' => ?_
        repeat (refine sxf_next fun K2 hK2 => ?_; simp [dNum, rRow, rdr, dS]; (repeat (refine ⟨by omega, ?_⟩)); refine hK2 _ ?_; clear hK2 K2)
        refine sxf_next fun K2 hK2 => ?_
        simp [dNum, rRow, rdr, dS]
        refine callK.mc (k48) (by simp [dNum, rRow, rdr, dS]) (by simp [dNum, rRow, rdr, dS]) (by simp [dNum, rRow, rdr, dS]) (by simp [dNum, rRow, rdr, dS]) ?_
        simp [dNum, rRow, rdr, dS]
        refine hK2 _ ?_
        clear hK2 K2
        repeat (refine sxf_next fun K2 hK2 => ?_; simp [dNum, rRow, rdr, dS]; (repeat (refine ⟨by omega, ?_⟩)); refine hK2 _ ?_; clear hK2 K2)
        refine sxf_nil (hK' _ ?_)
        refine AW.st (by simp [dNum, rRow, rdr, dS]; rfl) ?_
        clear hK' K'
        refine AW_cond false rfl (fun h => by cases h) (fun _ => ?_)
        refine AW_rg (tyOf_good _) [0, 59] [500] (notIn_ok rfl) fun K' hK' => ?_
        repeat (refine sxf_next fun K2 hK2 => ?_; simp [dNum, rRow, rdr, dS]; (repeat (refine ⟨by omega, ?_⟩)); refine hK2 _ ?_; clear hK2 K2)
        refine sxf_next fun K2 hK2 => ?_
        simp [dNum, rRow, rdr, dS]
        refine callK.mc (k49) (by simp [dNum, rRow, rdr, dS]) (by simp [dNum, rRow, rdr, dS]) (by simp [dNum, rRow, rdr, dS]) (by simp [dNum, rRow, rdr, dS]) ?_
        simp [dNum, rRow, rdr, dS]
        refine hK2 _ ?_
        clear hK2 K2
        repeat (refine sxf_next fun K2 hK2 => ?_; simp [dNum, rRow, rdr, dS]; (repeat (refine ⟨by omega, ?_⟩)); refine hK2 _ ?_; clear hK2 K2)
        refine sxf_nil (hK' _ ?_)
        refine AW.st (by simp [dNum, rRow, rdr, dS]; rfl) ?_
        clear hK' K'
        refine AW_cond false rfl (fun h => by cases h) (fun _ => ?_)
        refine AW_rg (tyOf_good _) [0, 63] [500] (notIn_ok rfl) fun K' hK' => ?_
        repeat (refine sxf_next fun K2 hK2 => ?_; simp [dNum, rRow, rdr, dS]; (repeat (refine ⟨by omega, ?_⟩)); refine hK2 _ ?_; clear hK2 K2)
        refine sxf_next fun K2 hK2 => ?_
        simp [dNum, rRow, rdr, dS]
        refine callK.mc (k94) (by simp [dNum, rRow, rdr, dS]) (by simp [dNum, rRow, rdr, dS]) (by simp [dNum, rRow, rdr, dS]) (by simp [dNum, rRow, rdr, dS]) ?_
        simp [dNum, rRow, rdr, dS]
        refine hK2 _ ?_
        clear hK2 K2
        repeat (refine sxf_next fun K2 hK2 => ?_; simp [dNum, rRow, rdr, dS]; (repeat (refine ⟨by omega, ?_⟩)); refine hK2 _ ?_; clear hK2 K2)
        refine sxf_nil (hK' _ ?_)
        refine AW.st (by simp [dNum, rRow, rdr, dS]; rfl) ?_
        clear hK' K'
        refine AW_cond true rfl (fun _ => ?_) (fun h => by cases h)
        refine AW_rg (tyOf_good _) [10, 11] [500] (notIn_ok rfl) fun K' hK' => ?_
        repeat (refine sxf_next fun K2 hK2 => ?_; simp [dNum, rRow, rdr, dS, tupW, dErr]; (repeat (refine ⟨by omega, ?_⟩)); refine hK2 _ ?_; clear hK2 K2)
        refine sxf_next fun K2 hK2 => ?_
        simp [dNum, rRow, rdr, dS, tupW, dErr]
        refine callK.mc (hc) (by simp [dNum, rRow, rdr, dS, tupW, dErr]) (by simp [dNum, rRow, rdr, dS, tupW, dErr]) (by simp [dNum, rRow, rdr, dS, tupW, dErr]) (by simp [dNum, rRow, rdr, dS, tupW, dErr]) ?_
        simp [dNum, rRow, rdr, dS, tupW, dErr]
        refine hK2 _ ?_
        clear hK2 K2
        repeat (refine sxf_next fun K2 hK2 => ?_; simp [dNum, rRow, rdr, dS, tupW, dErr]; (repeat (refine ⟨by omega, ?_⟩)); refine hK2 _ ?_; clear hK2 K2)
        refine sxf_nil (hK' _ ?_)
        refine AW.st (by simp [dNum, rRow, rdr, dS, tupW, dErr]; rfl) ?_
        clear hK' K'
        refine AW_rg (tyOf_good _) [4, 5] [500] (notIn_ok rfl) fun K' hK' => ?_
        repeat (refine sxf_next fun K2 hK2 => ?_; simp [dNum, rRow, rdr, dS]; (repeat (refine ⟨by omega, ?_⟩)); refine hK2 _ ?_; clear hK2 K2)
        refine sxf_nil (hK' _ ?_)
        refine AW.st (by simp [dNum, rRow, rdr, dS]; rfl) ?_
        clear hK' K'
        refine AW_ret ?_
        simp [D.le, D.le.go, takeMap, dNum, rRow, rdr, dS, rRow, rdr, tupX, posR, dErr, dQ, Rs.map, bs_nil]
      | ok s p =>
        rw [hr] at hc
        refine MC.of_body (tyOf_good _) Tryd.func94 rfl rfl (rs := [.tmp 4, .tmp 5]) Tryd.results94 (by simp [Tryd.ntmps94]) rfl fun X => ?_
        simp only [Tryd.ntmps94]
        refine AW_rg (tyOf_good _) [0, 1] [500] (notIn_ok rfl) fun K' hK' => ?_
        repeat (refine sxf_next fun K2 hK2 => ?_; simp [dNum, rRow, rdr, dS]; (repeat (refine ⟨by omega, ?_⟩)); refine hK2 _ ?_; clear hK2 K2)
        refine sxf_nil (hK' _ ?_)
        refine AW.st (by simp [dNum, rRow, rdr, dS]; rfl) ?_
        clear hK' K'
        refine AW_then fun K1 hK1 => ?_
        refine AW_rg (tyOf_good _) [0, 1, 17] [500] (notIn_ok rfl) fun K' hK' => ?_
        repeat (refine sxf_next fun K2 hK2 => ?_; simp [dNum, rRow, rdr, dS, hd0]; (repeat (refine ⟨by omega, ?_⟩)); refine hK2 _ ?_; clear hK2 K2)
        refine sxf_nil (hK' _ ?_)
        refine AW.st (by simp [dNum, rRow, rdr, dS, hd0]; rfl) ?_
        clear hK' K'
        refine AW_cond false rfl (fun h => by cases h) (fun _ => ?_)
        refine AW_skip (hK1 _ ?_)
        refine AW_then fun K2 hK2 => ?_
        refine AW_block ?_
        refine AW_rg (tyOf_good _) [0, 1, 20] [500] (notIn_ok rfl) fun K' hK' => ?_
        repeat (refine sxf_next fun K2 hK2 => ?_; simp [dNum, rRow, rdr, dS]; (repeat (refine ⟨by omega, ?_⟩)); refine hK2 _ ?_; clear hK2 K2)
        refine sxf_next fun K2 hK2 => ?_
        simp [dNum, rRow, rdr, dS]
        refine callK.mc (k33) (by simp [dNum, rRow, rdr, dS]) (by simp [dNum, rRow, rdr, dS]) (by simp [dNum, rRow, rdr, dS]) (by simp [dNum, rRow, rdr, dS]) ?_
        simp [dNum, rRow, rdr, dS]
        refine hK2 _ ?_
        clear hK2 K2
        repeat (refine sxf_next fun K2 hK2 => ?_; simp [dNum, rRow, rdr, dS]; (repeat (refine ⟨by omega, ?_⟩)); refine hK2 _ ?_; clear hK2 K2)
        refine sxf_nil (hK' _ ?_)
        refine AW.st (by simp [dNum, rRow, rdr, dS]; rfl) ?_
        clear hK' K'
        refine AW_cond false rfl (fun h => by cases h) (fun _ => ?_)
        refine AW_rg (tyOf_good _) [0, 1, 36] [500] (notIn_ok rfl) fun K' hK' => ?_
        repeat (refine sxf_next fun K2 hK2 => ?_; simp [dNum, rRow, rdr, dS]; (repeat (refine ⟨by omega, ?_⟩)); refine hK2 _ ?_; clear hK2 K2)
        refine sxf_next fun K2 hK2 => ?_
        simp [dNum, rRow, rdr, dS]
        refine callK.mc (k40) (by simp [dNum, rRow, rdr, dS]) (by simp [dNum, rRow, rdr, dS]) (by simp [dNum, rRow, rdr, dS]) (by simp [dNum, rRow, rdr, dS]) ?_
        simp [dNum, rRow, rdr, dS]
        refine hK2 _ ?_
        clear hK2 K2
        repeat (refine sxf_next fun K2 hK2 => ?_; simp [dNum, rRow, rdr, dS]; (repeat (refine ⟨by omega, ?_⟩)); refine hK2 _ ?_; clear hK2 K2)
        refine sxf_nil (hK' _ ?_)
        refine AW.st (by simp [dNum, rRow, rdr, dS]; rfl) ?_
        clear hK' K'
        refine AW_cond false rfl (fun h => by cases h) (fun _ => ?_)
        refine AW_rg (tyOf_good _) [0, 55] [500] (notIn_ok rfl) fun K' hK' => ?_
        repeat (refine sxf_next fun K2 hK2 => ?_; simp [dNum, rRow, rdr, dS]; (repeat (refine ⟨by omega, ?_⟩)); refine hK2 _ ?_; clear hK2 K2)
        refine sxf_next fun K2 hK2 => ?_
        simp [dNum, rRow, rdr, dS]
        refine callK.mc (k48) (by simp [dNum, rRow, rdr, dS]) (by simp [dNum, rRow, rdr, dS]) (by simp [dNum, rRow, rdr, dS]) (by simp [dNum, rRow, rdr, dS]) ?_
        simp [dNum, rRow, rdr, dS]
        refine hK2 _ ?_
        clear hK2 K2
        repeat (refine sxf_next fun K2 hK2 => ?_; simp [dNum, rRow, rdr, dS]; (repeat (refine ⟨by omega, ?_⟩)); refine hK2 _ ?_; clear hK2 K2)
        refine sxf_nil (hK' _ ?_)
        refine AW.st (by simp [dNum, rRow, rdr, dS]; rfl) ?_
        clear hK' K'
        refine AW_cond false rfl (fun h => by cases h) (fun _ => ?_)
        refine AW_rg (tyOf_good _) [0, 59] [500] (notIn_ok rfl) fun K' hK' => ?_
        repeat (refine sxf_next fun K2 hK2 => ?_; simp [dNum, rRow, rdr, dS]; (repeat (refine ⟨by omega, ?_⟩)); refine hK2 _ ?_; clear hK2 K2)
        refine sxf_next fun K2 hK2 => ?_
        simp [dNum, rRow, rdr, dS]
        refine callK.mc (k49) (by simp [dNum, rRow, rdr, dS]) (by simp [dNum, rRow, rdr, dS]) (by simp [dNum, rRow, rdr, dS]) (by simp [dNum, rRow, rdr, dS]) ?_
        simp [dNum, rRow, rdr, dS]
        refine hK2 _ ?_
        clear hK2 K2
        repeat (refine sxf_next fun K2 hK2 => ?_; simp [dNum, rRow, rdr, dS]; (repeat (refine ⟨by omega, ?_⟩)); refine hK2 _ ?_; clear hK2 K2)
        refine sxf_nil (hK' _ ?_)
        refine AW.st (by simp [dNum, rRow, rdr, dS]; rfl) ?_
        clear hK' K'
        refine AW_cond false rfl (fun h => by cases h) (fun _ => ?_)
        refine AW_rg (tyOf_good _) [0, 63] [500] (notIn_ok rfl) fun K' hK' => ?_
        repeat (refine sxf_next fun K2 hK2 => ?_; simp [dNum, rRow, rdr, dS]; (repeat (refine ⟨by omega, ?_⟩)); refine hK2 _ ?_; clear hK2 K2)
        refine sxf_next fun K2 hK2 => ?_
        simp [dNum, rRow, rdr, dS]
        refine callK.mc (k94) (by simp [dNum, rRow, rdr, dS]) (by simp [dNum, rRow, rdr, dS]) (by simp [dNum, rRow, rdr, dS]) (by simp [dNum, rRow, rdr, dS]) ?_
        simp [dNum, rRow, rdr, dS]
        refine hK2 _ ?_
        clear hK2 K2
        repeat (refine sxf_next fun K2 hK2 => ?_; simp [dNum, rRow, rdr, dS]; (repeat (refine ⟨by omega, ?_⟩)); refine hK2 _ ?_; clear hK2 K2)
        refine sxf_nil (hK' _ ?_)
        refine AW.st (by simp [dNum, rRow, rdr, dS]; rfl) ?_
        clear hK' K'
        refine AW_cond true rfl (fun _ => ?_) (fun h => by cases h)
        refine AW_rg (tyOf_good _) [10, 11] [500] (notIn_ok rfl) fun K' hK' => ?_
        repeat (refine sxf_next fun K2 hK2 => ?_; simp [dNum, rRow, rdr, dS, tupW]; (repeat (refine ⟨by omega, ?_⟩)); refine hK2 _ ?_; clear hK2 K2)
        refine sxf_next fun K2 hK2 => ?_
        simp [dNum, rRow, rdr, dS, tupW]
        refine callK.mc (hc) (by simp [dNum, rRow, rdr, dS, tupW]) (by simp [dNum, rRow, rdr, dS, tupW]) (by simp [dNum, rRow, rdr, dS, tupW]) (by simp [dNum, rRow, rdr, dS, tupW]) ?_
        simp [dNum, rRow, rdr, dS, tupW]
        refine hK2 _ ?_
        clear hK2 K2
        repeat (refine sxf_next fun K2 hK2 => ?_; simp [dNum, rRow, rdr, dS, tupW]; (repeat (refine ⟨by omega, ?_⟩)); refine hK2 _ ?_; clear hK2 K2)
        refine sxf_nil (hK' _ ?_)
        refine AW.st (by simp [dNum, rRow, rdr, dS, tupW]; rfl) ?_
        clear hK' K'
        refine AW_rg (tyOf_good _) [4, 5] [500] (notIn_ok rfl) fun K' hK' => ?_
        repeat (refine sxf_next fun K2 hK2 => ?_; simp [dNum, rRow, rdr, dS]; (repeat (refine ⟨by omega, ?_⟩)); refine hK2 _ ?_; clear hK2 K2)
        refine sxf_nil (hK' _ ?_)
        refine AW.st (by simp [dNum, rRow, rdr, dS]; rfl) ?_
        clear hK' K'
        refine AW_ret ?_
        simp [D.le, D.le.go, takeMap, dNum, rRow, rdr, dS, rRow, rdr, tupX, posR, Rs.map, dE]
    rw [if_neg c94] at k94 ⊢
    by_cases c126 : t[j]? = some 126
    · rw [if_pos c126] at k126 ⊢
      have hc := word_spec G t 2 (j + 1) ht60 (hlt c126)
      have hq : ∀ {c : Int} {p q' : Nat}, wordR t 2 (j + 1) = .err c p q' → q' = 2 := fun h => word_q h
      cases hr : wordR t 2 (j + 1) with
      | err c p q' =>
        obtain rfl := hq hr
        rw [hr] at hc
        refine MC.of_body (tyOf_good _) Tryd.func94 rfl rfl (rs := [.tmp 4, .tmp 5]) Tryd.results94 (by simp [Tryd.ntmps94]) rfl fun X => ?_
        simp only [Tryd.ntmps94]
        refine AW_rg (tyOf_good _) [0, 1] [500] (notIn_ok rfl) fun K' hK' => ?_
        repeat (refine sxf_next fun K2 hK2 => ?_; simp [dNum, rRow, rdr, dS]; (repeat (refine ⟨by omega, ?_⟩)); refine hK2 _ ?_; clear hK2 K2)
        refine sxf_nil (hK' _ ?_)
        refine AW.st (by simp [dNum, rRow, rdr, dS]; rfl) ?_
        clear hK' K'
        refine AW_then fun K1 hK1 => ?_
        refine AW_rg (tyOf_good _) [0, 1, 17] [500] (notIn_ok rfl) fun K' hK' => ?_
        repeat (refine sxf_next fun K2 hK2 => ?_; simp [dNum, rRow, rdr, dS, hd0]; (repeat (refine ⟨by omega, ?_⟩)); refine hK2 _ ?_; clear hK2 K2)
        refine sxf_nil (hK' _ ?_)
        refine AW.st (by simp [dNum, rRow, rdr, dS, hd0]; rfl) ?_
        clear hK' K'
        refine AW_cond false rfl (fun h => by cases h) (fun _ => ?_)
        refine AW_skip (hK1 _ ?_)
        refine AW_then fun K2 hK2 => ?_
        refine AW_block ?_
        refine AW_rg (tyOf_good _) [0, 1, 20] [500] (notIn_ok rfl) fun K' hK' => ?_
        repeat (refine sxf_next fun K2 hK2 => ?_; simp [dNum, rRow, rdr, dS]; (repeat (refine ⟨by omega, ?_⟩)); refine hK2 _ ?_; clear hK2 K2)
        refine sxf_next fun K2 hK2 => ?_
        simp [dNum, rRow, rdr, dS]
        refine callK.mc (k33) (by simp [dNum, rRow, rdr, dS]) (by simp [dNum, rRow, rdr, dS]) (by simp [dNum, rRow, rdr, dS]) (by simp [dNum, rRow, rdr, dS]) ?_
        simp [dNum, rRow, rdr, dS]
        refine hK2 _ ?_
        clear hK2 K2
        repeat (refine sxf_next fun K2 hK2 => ?_; simp [dNum, rRow, rdr, dS]; (repeat (refine ⟨by omega, ?_⟩)); refine hK2 _ ?_; clear hK2 K2)
        refine sxf_nil (hK' _ ?_)
        refine AW.st (by simp [dNum, rRow, rdr, dS]; rfl) ?_
        clear hK' K'
        refine AW_cond false rfl (fun h => by cases h) (fun _ => ?_)
        refine AW_rg (tyOf_good _) [0, 1, 36] [500] (notIn_ok rfl) fun K' hK' => ?_
        repeat (refine sxf_next fun K2 hK2 => ?_; simp [dNum, rRow, rdr, dS]; (repeat (refine ⟨by omega, ?_⟩)); refine hK2 _ ?_; clear hK2 K2)
        refine sxf_next fun K2 hK2 => ?_
        simp [dNum, rRow, rdr, dS]
        refine callK.mc (k40) (by simp [dNum, rRow, rdr, dS]) (by simp [dNum, rRow, rdr, dS]) (by simp [dNum, rRow, rdr, dS]) (by simp [dNum, rRow, rdr, dS]) ?_
        simp [dNum, rRow, rdr, dS]
        refine hK2 _ ?_
        clear hK2 K2
        repeat (refine sxf_next fun K2 hK2 => ?_; simp [dNum, rRow, rdr, dS]; (repeat (refine ⟨by omega, ?_⟩)); refine hK2 _ ?_; clear hK2 K2)
        refine sxf_nil (hK' _ ?_)
        refine AW.st (by simp [dNum, rRow, rdr, dS]; rfl) ?_
        clear hK' K'
        refine AW_cond false rfl (fun h => by cases h) (fun _ => ?_)
        refine AW_rg (tyOf_good _) [0, 55] [500] (notIn_ok rfl) fun K' hK' => ?_
        repeat (refine sxf_next fun K2 hK2 => ?_; simp [dNum, rRow, rdr, dS]; (repeat (refine ⟨by omega, ?_⟩)); refine hK2 _ ?_; clear hK2 K2)
        refine sxf_next fun K2 hK2 => ?_
        simp [dNum, rRow, rdr, dS]
        refine callK.mc (k48) (by simp [dNum, rRow, rdr, dS]) (by simp [dNum, rRow, rdr, dS]) (by simp [dNum, rRow, rdr, dS]) (by simp [dNum, rRow, rdr, dS]) ?_
        simp [dNum, rRow, rdr, dS]
        refine hK2 _ ?_
        clear hK2 K2
        repeat (refine sxf_next fun K2 hK2 => ?_; simp [dNum, rRow, rdr, dS]; (repeat (refine ⟨by omega, ?_⟩)); refine hK2 _ ?_; clear hK2 K2)
        refine sxf_nil (hK' _ ?_)
        refine AW.st (by simp [dNum, rRow, rdr, dS]; rfl) ?_
        clear hK' K'
        refine AW_cond false rfl (fun h => by cases h) (fun _ => ?_)
        refine AW_rg (tyOf_good _) [0, 59] [500] (notIn_ok rfl) fun K' hK' => ?_
        repeat (refine sxf_next fun K2 hK2 => ?_; simp [dNum, rRow, rdr, dS]; (repeat (refine ⟨by omega, ?_⟩)); refine hK2 _ ?_; clear hK2 K2)
        refine sxf_next fun K2 hK2 => ?_
        simp [dNum, rRow, rdr, dS]
        refine callK.mc (k49) (by simp [dNum, rRow, rdr, dS]) (by simp [dNum, rRow, rdr, dS]) (by simp [dNum, rRow, rdr, dS]) (by simp [dNum, rRow, rdr, dS]) ?_
        simp [dNum, rRow, rdr, dS]
        refine hK2 _ ?_
        clear hK2 K2
        repeat (refine sxf_next fun K2 hK2 => ?_; simp [dNum, rRow, rdr, dS]; (repeat (refine ⟨by omega, ?_⟩)); refine hK2 _ ?_; clear hK2 K2)
        refine sxf_nil (hK' _ ?_)
        refine AW.st (by simp [dNum, rRow, rdr, dS]; rfl) ?_
        clear hK' K'
        refine AW_cond false rfl (fun h => by cases h) (fun _ => ?_)
        refine AW_rg (tyOf_good _) [0, 63] [500] (notIn_ok rfl) fun K' hK' => ?_
        repeat (refine sxf_next fun K2 hK2 => ?_; simp [dNum, rRow, rdr, dS]; (repeat (refine ⟨by omega, ?_⟩)); refine hK2 _ ?_; clear hK2 K2)
        refine sxf_next fun K2 hK2 => ?_
        simp [dNum, rRow, rdr, dS]
        refine callK.mc (k94) (by simp [dNum, rRow, rdr, dS]) (by simp [dNum, rRow, rdr, dS]) (by simp [dNum, rRow, rdr, dS]) (by simp [dNum, rRow, rdr, dS]) ?_
        simp [dNum, rRow, rdr, dS]
        refine hK2 _ ?_
        clear hK2 K2
        repeat (refine sxf_next fun K2 hK2 => ?_; simp [dNum, rRow, rdr, dS]; (repeat (refine ⟨by omega, ?_⟩)); refine hK2 _ ?_; clear hK2 K2)
        refine sxf_nil (hK' _ ?_)
        refine AW.st (by simp [dNum, rRow, rdr, dS]; rfl) ?_
        clear hK' K'
        refine AW_cond false rfl (fun h => by cases h) (fun _ => ?_)
        refine AW_rg (tyOf_good _) [0, 74] [500] (notIn_ok rfl) fun K' hK' => ?_
        repeat (refine sxf_next fun K2 hK2 => ?_; simp [dNum, rRow, rdr, dS]; (repeat (refine ⟨by omega, ?_⟩)); refine hK2 _ ?_; clear hK2 K2)
        refine sxf_next fun K2 hK2 => ?_
        simp [dNum, rRow, rdr, dS]
        refine callK.mc (k126) (by simp [dNum, rRow, rdr, dS]) (by simp [dNum, rRow, rdr, dS]) (by simp [dNum, rRow, rdr, dS]) (by simp [dNum, rRow, rdr, dS]) ?_
        simp [dNum, rRow, rdr, dS]
        refine hK2 _ ?_
        clear hK2 K2
        repeat (refine sxf_next fun K2 hK2 => ?_; simp [dNum, rRow, rdr, dS]; (repeat (refine ⟨by omega, ?_⟩)); refine hK2 _ ?_; clear hK2 K2)
        refine sxf_nil (hK' _ ?_)
        refine AW.st (by simp [dNum, rRow, rdr, dS]; rfl) ?_
        clear hK' K'
        refine AW_cond true rfl (fun _ => ?_) (fun h => by cases h)
        refine AW_rg (tyOf_good _) [12, 13] [500] (notIn_ok rfl) fun K' hK' => ?_
        repeat (refine sxf_next fun K2 hK2 => ?_; simp [dNum, rRow, rdr, dS, tupW, dErr]; (repeat (refine ⟨by omega, ?_⟩)); refine hK2 _ ?_; clear hK2 K2)
        refine sxf_next fun K2 hK2 => ?_
        simp [dNum, rRow, rdr, dS, tupW, dErr]
        refine callK.mc (hc) (by simp [dNum, rRow, rdr, dS, tupW, dErr]) (by simp [dNum, rRow, rdr, dS, tupW, dErr]) (by simp [dNum, rRow, rdr, dS, tupW, dErr]) (by simp [dNum, rRow, rdr, dS, tupW, dErr]) ?_
        simp [dNum, rRow, rdr, dS, tupW, dErr]
        refine hK2 _ ?_
        clear hK2 K2
        repeat (refine sxf_next fun K2 hK2 => ?_; simp [dNum, rRow, rdr, dS, tupW, dErr]; (repeat (refine ⟨by omega, ?_⟩)); refine hK2 _ ?_; clear hK2 K2)
        refine sxf_nil (hK' _ ?_)
        refine AW.st (by simp [dNum, rRow, rdr, dS, tupW, dErr]; rfl) ?_
        clear hK' K'
        refine AW_rg (tyOf_good _) [4, 5] [500] (notIn_ok rfl) fun K' hK' => ?_
        repeat (refine sxf_next fun K2 hK2 => ?_; simp [dNum, rRow, rdr, dS]; (repeat (refine ⟨by omega, ?_⟩)); refine hK2 _ ?_; clear hK2 K2)
        refine sxf_nil (hK' _ ?_)
        refine AW.st (by simp [dNum, rRow, rdr, dS]; rfl) ?_
        clear hK' K'
        refine AW_ret ?_
        simp [D.le, D.le.go, takeMap, dNum, rRow, rdr, dS, rRow, rdr, tupX, posR, dErr, dQ, Rs.map, bs_nil]
      | ok s p =>
        rw [hr] at hc
        refine MC.of_body (tyOf_good _) Tryd.func94 rfl rfl (rs := [.tmp 4, .tmp 5]) Tryd.results94 (by simp [Tryd.ntmps94]) rfl fun X => ?_
        simp only [Tryd.ntmps94]
        refine AW_rg (tyOf_good _) [0, 1] [500] (notIn_ok rfl) fun K' hK' => ?_
        repeat (refine sxf_next fun K2 hK2 => ?_; simp [dNum, rRow, rdr, dS]; (repeat (refine ⟨by omega, ?_⟩)); refine hK2 _ ?_; clear hK2 K2)
        refine sxf_nil (hK' _ ?_)
        refine AW.st (by simp [dNum, rRow, rdr, dS]; rfl) ?_
        clear hK' K'
        refine AW_then fun K1 hK1 => ?_
        refine AW_rg (tyOf_good _) [0, 1, 17] [500] (notIn_ok rfl) fun K' hK' => ?_
        repeat (refine sxf_next fun K2 hK2 => ?_; simp [dNum, rRow, rdr, dS, hd0]; (repeat (refine ⟨by omega, ?_⟩)); refine hK2 _ ?_; clear hK2 K2)
        refine sxf_nil (hK' _ ?_)
        refine AW.st (by simp [dNum, rRow, rdr, dS, hd0]; rfl) ?_
        clear hK' K'
        refine AW_cond false rfl (fun h => by cases h) (fun _ => ?_)
        refine AW_skip (hK1 _ ?_)
        refine AW_then fun K2 hK2 => ?_
        refine AW_block ?_
        refine AW_rg (tyOf_good _) [0, 1, 20] [500] (notIn_ok rfl) fun K' hK' => ?_
        repeat (refine sxf_next fun K2 hK2 => ?_; simp [dNum, rRow, rdr, dS]; (repeat (refine ⟨by omega, ?_⟩)); refine hK2 _ ?_; clear hK2 K2)
        refine sxf_next fun K2 hK2 => ?_
        simp [dNum, rRow, rdr, dS]
        refine callK.mc (k33) (by simp [dNum, rRow, rdr, dS]) (by simp [dNum, rRow, rdr, dS]) (by simp [dNum, rRow, rdr, dS]) (by simp [dNum, rRow, rdr, dS]) ?_
        simp [dNum, rRow, rdr, dS]
        refine hK2 _ ?_
        clear hK2 K2
        repeat (refine sxf_next fun K2 hK2 => ?_; simp [dNum, rRow, rdr, dS]; (repeat (refine ⟨by omega, ?_⟩)); refine hK2 _ ?_; clear hK2 K2)
        refine sxf_nil (hK' _ ?_)
        refine AW.st (by simp [dNum, rRow, rdr, dS]; rfl) ?_
        clear hK' K'
        refine AW_cond false rfl (fun h => by cases h) (fun _ => ?_)
        refine AW_rg (tyOf_good _) [0, 1, 36] [500] (notIn_ok rfl) fun K' hK' => ?_
        repeat (refine sxf_next fun K2 hK2 => ?_; simp [dNum, rRow, rdr, dS]; (repeat (refine ⟨by omega, ?_⟩)); refine hK2 _ ?_; clear hK2 K2)
        refine sxf_next fun K2 hK2 => ?_
        simp [dNum, rRow, rdr, dS]
        refine callK.mc (k40) (by simp [dNum, rRow, rdr, dS]) (by simp [dNum, rRow, rdr, dS]) (by simp [dNum, rRow, rdr, dS]) (by simp [dNum, rRow, rdr, dS]) ?_
        simp [dNum, rRow, rdr, dS]
        refine hK2 _ ?_
        clear hK2 K2
        repeat (refine sxf_next fun K2 hK2 => ?_; simp [dNum, rRow, rdr, dS]; (repeat (refine ⟨by omega, ?_⟩)); refine hK2 _ ?_; clear hK2 K2)
        refine sxf_nil (hK' _ ?_)
        refine AW.st (by simp [dNum, rRow, rdr, dS]; rfl) ?_
        clear hK' K'
        refine AW_cond false rfl (fun h => by cases h) (fun _ => ?_)
        refine AW_rg (tyOf_good _) [0, 55] [500] (notIn_ok rfl) fun K' hK' => ?_
        repeat (refine sxf_next fun K2 hK2 => ?_; simp [dNum, rRow, rdr, dS]; (repeat (refine ⟨by omega, ?_⟩)); refine hK2 _ ?_; clear hK2 K2)
        refine sxf_next fun K2 hK2 => ?_
        simp [dNum, rRow, rdr, dS]
        refine callK.mc (k48) (by simp [dNum, rRow, rdr, dS]) (by simp [dNum, rRow, rdr, dS]) (by simp [dNum, rRow, rdr, dS]) (by simp [dNum, rRow, rdr, dS]) ?_
        simp [dNum, rRow, rdr, dS]
        refine hK2 _ ?_
        clear hK2 K2
        repeat (refine sxf_next fun K2 hK2 => ?_; simp [dNum, rRow, rdr, dS]; (repeat (refine ⟨by omega, ?_⟩)); refine hK2 _ ?_; clear hK2 K2)
        refine sxf_nil (hK' _ ?_)
        refine AW.st (by simp [dNum, rRow, rdr, dS]; rfl) ?_
        clear hK' K'
        refine AW_cond false rfl (fun h => by cases h) (fun _ => ?_)
        refine AW_rg (tyOf_good _) [0, 59] [500] (notIn_ok rfl) fun K' hK' => ?_
        repeat (refine sxf_next fun K2 hK2 => ?_; simp [dNum, rRow, rdr, dS]; (repeat (refine ⟨by omega, ?_⟩)); refine hK2 _ ?_; clear hK2 K2)
        refine sxf_next fun K2 hK2 => ?_
        simp [dNum, rRow, rdr, dS]
        refine callK.mc (k49) (by simp [dNum, rRow, rdr, dS]) (by simp [dNum, rRow, rdr, dS]) (by simp [dNum, rRow, rdr, dS]) (by simp [dNum, rRow, rdr, dS]) ?_
        simp [dNum, rRow, rdr, dS]
        refine hK2 _ ?_
        clear hK2 K2
        repeat (refine sxf_next fun K2 hK2 => ?_; simp [dNum, rRow, rdr, dS]; (repeat (refine ⟨by omega, ?_⟩)); refine hK2 _ ?_; clear hK2 K2)
        refine sxf_nil (hK' _ ?_)
        refine AW.st (by simp [dNum, rRow, rdr, dS]; rfl) ?_
        clear hK' K'
        refine AW_cond false rfl (fun h => by cases h) (fun _ => ?_)
        refine AW_rg (tyOf_good _) [0, 63] [500] (notIn_ok rfl) fun K' hK' => ?_
        repeat (refine sxf_next fun K2 hK2 => ?_; simp [dNum, rRow, rdr, dS]; (repeat (refine ⟨by omega, ?_⟩)); refine hK2 _ ?_; clear hK2 K2)
        refine sxf_next fun K2 hK2 => ?_
        simp [dNum, rRow, rdr, dS]
        refine callK.mc (k94) (by simp [dNum, rRow, rdr, dS]) (by simp [dNum, rRow, rdr, dS]) (by simp [dNum, rRow, rdr, dS]) (by simp [dNum, rRow, rdr, dS]) ?_
        simp [dNum, rRow, rdr, dS]
        refine hK2 _ ?_
        clear hK2 K2
        repeat (refine sxf_next fun K2 hK2 => ?_; simp [dNum, rRow, rdr, dS]; (repeat (refine ⟨by omega, ?_⟩)); refine hK2 _ ?_; clear hK2 K2)
        refine sxf_nil (hK' _ ?_)
        refine AW.st (by simp [dNum, rRow, rdr, dS]; rfl) ?_
        clear hK' K'
        refine AW_cond false rfl (fun h => by cases h) (fun _ => ?_)
        refine AW_rg (tyOf_good _) [0, 74] [500] (notIn_ok rfl) fun K' hK' => ?_
        repeat (refine sxf_next fun K2 hK2 => ?_; simp [dNum, rRow, rdr, dS]; (repeat (refine ⟨by omega, ?_⟩)); refine hK2 _ ?_; clear hK2 K2)
        refine sxf_next fun K2 hK2 => ?_
        simp [dNum, rRow, rdr, dS]
        refine callK.mc (k126) (by simp [dNum, rRow, rdr, dS]) (by simp [dNum, rRow, rdr, dS]) (by simp [dNum, rRow, rdr, dS]) (by simp [dNum, rRow, rdr, dS]) ?_
        simp [dNum, rRow, rdr, dS]
        refine hK2 _ ?_
        clear hK2 K2
        repeat (refine sxf_next fun K2 hK2 => ?_; simp [dNum, rRow, rdr, dS]; (repeat (refine ⟨by omega, ?_⟩)); refine hK2 _ ?_; clear hK2 K2)
        refine sxf_nil (hK' _ ?_)
        refine AW.st (by simp [dNum, rRow, rdr, dS]; rfl) ?_
        clear hK' K'
        refine AW_cond true rfl (fun _ => ?_) (fun h => by cases h)
        refine AW_rg (tyOf_good _) [12, 13] [500] (notIn_ok rfl) fun K' hK' => ?_
        repeat (refine sxf_next fun K2 hK2 => ?_; simp [dNum, rRow, rdr, dS, tupW]; (repeat (refine ⟨by omega, ?_⟩)); refine hK2 _ ?_; clear hK2 K2)
        refine sxf_next fun K2 hK2 => ?_
        simp [dNum, rRow, rdr, dS, tupW]
        refine callK.mc (hc) (by simp [dNum, rRow, rdr, dS, tupW]) (by simp [dNum, rRow, rdr, dS, tupW]) (by simp [dNum, rRow, rdr, dS, tupW]) (by simp [dNum, rRow, rdr, dS, tupW]) ?_
        simp [dNum, rRow, rdr, dS, tupW]
        refine hK2 _ ?_
        clear hK2 K2
        repeat (refine sxf_next fun K2 hK2 => ?_; simp [dNum, rRow, rdr, dS, tupW]; (repeat (refine ⟨by omega, ?_⟩)); refine hK2 _ ?_; clear hK2 K2)
        refine sxf_nil (hK' _ ?_)
        refine AW.st (by simp [dNum, rRow, rdr, dS, tupW]; rfl) ?_
        clear hK' K'
        refine AW_rg (tyOf_good _) [4, 5] [500] (notIn_ok rfl) fun K' hK' => ?_
        repeat (refine sxf_next fun K2 hK2 => ?_; simp [dNum, rRow, rdr, dS]; (repeat (refine ⟨by omega, ?_⟩)); refine hK2 _ ?_; clear hK2 K2)
        refine sxf_nil (hK' _ ?_)
        refine AW.st (by simp [dNum, rRow, rdr, dS]; rfl) ?_
        clear hK' K'
        refine AW_ret ?_
        simp [D.le, D.le.go, takeMap, dNum, rRow, rdr, dS, rRow, rdr, tupX, posR, Rs.map, dE]
    rw [if_neg c126] at k126 ⊢
    have hc := word_spec G t 3 j ht60 htop
    have hq : ∀ {c : Int} {p q' : Nat}, wordR t 3 j = .err c p q' → q' = 3 := fun h => word_q h
    cases hr : wordR t 3 j with
    | err c p q' =>
      obtain rfl := hq hr
      rw [hr] at hc
      refine MC.of_body (tyOf_good _) Tryd.func94 rfl rfl (rs := [.tmp 4, .tmp 5]) Tryd.results94 (by simp [Tryd.ntmps94]) rfl fun X => ?_
      simp only [Tryd.ntmps94]
      refine AW_rg (tyOf_good _) [0, 1] [500] (notIn_ok rfl) fun K' hK' => ?_
      repeat (refine sxf_next fun K2 hK2 => ?_; simp [dNum, rRow, rdr, dS]; (repeat (refine ⟨by omega, ?_⟩)); refine hK2 _ ?_; clear hK2 K2)
      refine sxf_nil (hK' _ ?_)
      refine AW.st (by simp [dNum, rRow, rdr, dS]; rfl) ?_
      clear hK' K'
      refine AW_then fun K1 hK1 => ?_
      refine AW_rg (tyOf_good _) [0, 1, 17] [500] (notIn_ok rfl) fun K' hK' => ?_
      repeat (refine sxf_next fun K2 hK2 => ?_; simp [dNum, rRow, rdr, dS, hd0]; (repeat (refine ⟨by omega, ?_⟩)); refine hK2 _ ?_; clear hK2 K2)
      refine sxf_nil (hK' _ ?_)
      refine AW.st (by simp [dNum, rRow, rdr, dS, hd0]; rfl) ?_
      clear hK' K'
      refine AW_cond false rfl (fun h => by cases h) (fun _ => ?_)
      refine AW_skip (hK1 _ ?_)
      refine AW_then fun K2 hK2 => ?_
      refine AW_block ?_
      refine AW_rg (tyOf_good _) [0, 1, 20] [500] (notIn_ok rfl) fun K' hK' => ?_
      repeat (refine sxf_next fun K2 hK2 => ?_; simp [dNum, rRow, rdr, dS]; (repeat (refine ⟨by omega, ?_⟩)); refine hK2 _ ?_; clear hK2 K2)
      refine sxf_next fun K2 hK2 => ?_
      simp [dNum, rRow, rdr, dS]
      refine callK.mc (k33) (by simp [dNum, rRow, rdr, dS]) (by simp [dNum, rRow, rdr, dS]) (by simp [dNum, rRow, rdr, dS]) (by simp [dNum, rRow, rdr, dS]) ?_
      simp [dNum, rRow, rdr, dS]
      refine hK2 _ ?_
      clear hK2 K2
      repeat (refine sxf_next fun K2 hK2 => ?_; simp [dNum, rRow, rdr, dS]; (repeat (refine ⟨by omega, ?_⟩)); refine hK2 _ ?_; clear hK2 K2)
      refine sxf_nil (hK' _ ?_)
      refine AW.st (by simp [dNum, rRow, rdr, dS]; rfl) ?_
      clear hK' K'
      refine AW_cond false rfl (fun h => by cases h) (fun _ => ?_)
      refine AW_rg (tyOf_good _) [0, 1, 36] [500] (notIn_ok rfl) fun K' hK' => ?_
      repeat (refine sxf_next fun K2 hK2 => ?_; simp [dNum, rRow, rdr, dS]; (repeat (refine ⟨by omega, ?_⟩)); refine hK2 _ ?_; clear hK2 K2)
      refine sxf_next fun K2 hK2 => ?_
      simp [dNum, rRow, rdr, dS]
      refine callK.mc (k40) (by simp [dNum, rRow, rdr, dS]) (by simp [dNum, rRow, rdr, dS]) (by simp [dNum, rRow, rdr, dS]) (by simp [dNum, rRow, rdr, dS]) ?_
      simp [dNum, rRow, rdr, dS]
      refine hK2 _ ?_
      clear hK2 K2
      repeat (refine sxf_next fun K2 hK2 => ?_; simp [dNum, rRow, rdr, dS]; (repeat (refine ⟨by omega, ?_⟩)); refine hK2 _ ?_; clear hK2 K2)
      refine sxf_nil (hK' _ ?_)
      refine AW.st (by simp [dNum, rRow, rdr, dS]; rfl) ?_
      clear hK' K'
      refine AW_cond false rfl (fun h => by cases h) (fun _ => ?_)
      refine AW_rg (tyOf_good _) [0, 55] [500] (notIn_ok rfl) fun K' hK' => ?_
      repeat (refine sxf_next fun K2 hK2 => ?_; simp [dNum, rRow, rdr, dS]; (repeat (refine ⟨by omega, ?_⟩)); refine hK2 _ ?_; clear hK2 K2)
      refine sxf_next fun K2 hK2 => ?_
      simp [dNum, rRow, rdr, dS]
      refine callK.mc (k48) (by simp [dNum, rRow, rdr, dS]) (by simp [dNum, rRow, rdr, dS]) (by simp [dNum, rRow, rdr, dS]) (by simp [dNum, rRow, rdr, dS]) ?_
      simp [dNum, rRow, rdr, dS]
      refine hK2 _ ?_
      clear hK2 K2
      repeat (refine sxf_next fun K2 hK2 => ?_; simp [dNum, rRow, rdr, dS]; (repeat (refine ⟨by omega, ?_⟩)); refine hK2 _ ?_; clear hK2 K2)
      refine sxf_nil (hK' _ ?_)
      refine AW.st (by simp [dNum, rRow, rdr, dS]; rfl) ?_
      clear hK' K'
      refine AW_cond false rfl (fun h => by cases h) (fun _ => ?_)
      refine AW_rg (tyOf_good _) [0, 59] [500] (notIn_ok rfl) fun K' hK' => ?_
      repeat (refine sxf_next fun K2 hK2 => ?_; simp [dNum, rRow, rdr, dS]; (repeat (refine ⟨by omega, ?_⟩)); refine hK2 _ ?_; clear hK2 K2)
      refine sxf_next fun K2 hK2 => ?_
      simp [dNum, rRow, rdr, dS]
      refine callK.mc (k49) (by simp [dNum, rRow, rdr, dS]) (by simp [dNum, rRow, rdr, dS]) (by simp [dNum, rRow, rdr, dS]) (by simp [dNum, rRow, rdr, dS]) ?_
      simp [dNum, rRow, rdr, dS]
      refine hK2 _ ?_
      clear hK2 K2
      repeat (refine sxf_next fun K2 hK2 => ?_; simp [dNum, rRow, rdr, dS]; (repeat (refine ⟨by omega, ?_⟩)); refine hK2 _ ?_; clear hK2 K2)
      refine sxf_nil (hK' _ ?_)
      refine AW.st (by simp [dNum, rRow, rdr, dS]; rfl) ?_
      clear hK' K'
      refine AW_cond false rfl (fun h => by cases h) (fun _ => ?_)
      refine AW_rg (tyOf_good _) [0, 63] [500] (notIn_ok rfl) fun K' hK' => ?_
      repeat (refine sxf_next fun K2 hK2 => ?_; simp [dNum, rRow, rdr, dS]; (repeat (refine ⟨by omega, ?_⟩)); refine hK2 _ ?_; clear hK2 K2)
      refine sxf_next fun K2 hK2 => ?_
      simp [dNum, rRow, rdr, dS]
      refine callK.mc (k94) (by simp [dNum, rRow, rdr, dS]) (by simp [dNum, rRow, rdr, dS]) (by simp [dNum, rRow, rdr, dS]) (by simp [dNum, rRow, rdr, dS]) ?_
      simp [dNum, rRow, rdr, dS]
      refine hK2 _ ?_
      clear hK2 K2
      repeat (refine sxf_next fun K2 hK2 => ?_; simp [dNum, rRow, rdr, dS]; (repeat (refine ⟨by omega, ?_⟩)); refine hK2 _ ?_; clear hK2 K2)
      refine sxf_nil (hK' _ ?_)
      refine AW.st (by simp [dNum, rRow, rdr, dS]; rfl) ?_
      clear hK' K'
      refine AW_cond false rfl (fun h => by cases h) (fun _ => ?_)
      refine AW_rg (tyOf_good _) [0, 74] [500] (notIn_ok rfl) fun K' hK' => ?_
      repeat (refine sxf_next fun K2 hK2 => ?_; simp [dNum, rRow, rdr, dS]; (repeat (refine ⟨by omega, ?_⟩)); refine hK2 _ ?_; clear hK2 K2)
      refine sxf_next fun K2 hK2 => ?_
      simp [dNum, rRow, rdr, dS]
      refine callK.mc (k126) (by simp [dNum, rRow, rdr, dS]) (by simp [dNum, rRow, rdr, dS]) (by simp [dNum, rRow, rdr, dS]) (by simp [dNum, rRow, rdr, dS]) ?_
      simp [dNum, rRow, rdr, dS]
      refine hK2 _ ?_
      clear hK2 K2
      repeat (refine sxf_next fun K2 hK2 => ?_; simp [dNum, rRow, rdr, dS]; (repeat (refine ⟨by omega, ?_⟩)); refine hK2 _ ?_; clear hK2 K2)
      refine sxf_nil (hK' _ ?_)
      refine AW.st (by simp [dNum, rRow, rdr, dS]; rfl) ?_
      clear hK' K'
      refine AW_cond false rfl (fun h => by cases h) (fun _ => ?_)
      refine AW_skip (hK2 _ ?_)
      refine AW_rg (tyOf_good _) [14, 15] [500] (notIn_ok rfl) fun K' hK' => ?_
      repeat (refine sxf_next fun K2 hK2 => ?_; simp [dNum, rRow, rdr, dS, tupW, dErr]; (repeat (refine ⟨by omega, ?_⟩)); refine hK2 _ ?_; clear hK2 K2)
      refine sxf_next fun K2 hK2 => ?_
      simp [dNum, rRow, rdr, dS, tupW, dErr]
      refine callK.mc (hc) (by simp [dNum, rRow, rdr, dS, tupW, dErr]) (by simp [dNum, rRow, rdr, dS, tupW, dErr]) (by simp [dNum, rRow, rdr, dS, tupW, dErr]) (by simp [dNum, rRow, rdr, dS, tupW, dErr]) ?_
      simp [dNum, rRow, rdr, dS, tupW, dErr]
      refine hK2 _ ?_
      clear hK2 K2
      repeat (refine sxf_next fun K2 hK2 => ?_; simp [dNum, rRow, rdr, dS, tupW, dErr]; (repeat (refine ⟨by omega, ?_⟩)); refine hK2 _ ?_; clear hK2 K2)
      refine sxf_nil (hK' _ ?_)
      refine AW.st (by simp [dNum, rRow, rdr, dS, tupW, dErr]; rfl) ?_
      clear hK' K'
      refine AW_rg (tyOf_good _) [4, 5] [500] (notIn_ok rfl) fun K' hK' => ?_
      repeat (refine sxf_next fun K2 hK2 => ?_; simp [dNum, rRow, rdr, dS]; (repeat (refine ⟨by omega, ?_⟩)); refine hK2 _ ?_; clear hK2 K2)
      refine sxf_nil (hK' _ ?_)
      refine AW.st (by simp [dNum, rRow, rdr, dS]; rfl) ?_
      clear hK' K'
      refine AW_ret ?_
      simp [D.le, D.le.go, takeMap, dNum, rRow, rdr, dS, rRow, rdr, tupX, posR, dErr, dQ, Rs.map, bs_nil]
    | ok s p =>
      rw [hr] at hc
      refine MC.of_body (tyOf_good _) Tryd.func94 rfl rfl (rs := [.tmp 4, .tmp 5]) Tryd.results94 (by simp [Tryd.ntmps94]) rfl fun X => ?_
      simp only [Tryd.ntmps94]
      refine AW_rg (tyOf_good _) [0, 1] [500] (notIn_ok rfl) fun K' hK' => ?_
      repeat (refine sxf_next fun K2 hK2 => ?_; simp [dNum, rRow, rdr, dS]; (repeat (refine ⟨by omega, ?_⟩)); refine hK2 _ ?_; clear hK2 K2)
      refine sxf_nil (hK' _ ?_)
      refine AW.st (by simp [dNum, rRow, rdr, dS]; rfl) ?_
      clear hK' K'
      refine AW_then fun K1 hK1 => ?_
      refine AW_rg (tyOf_good _) [0, 1, 17] [500] (notIn_ok rfl) fun K' hK' => ?_
      repeat (refine sxf_next fun K2 hK2 => ?_; simp [dNum, rRow, rdr, dS, hd0]; (repeat (refine ⟨by omega, ?_⟩)); refine hK2 _ ?_; clear hK2 K2)
      refine sxf_nil (hK' _ ?_)
      refine AW.st (by simp [dNum, rRow, rdr, dS, hd0]; rfl) ?_
      clear hK' K'
      refine AW_cond false rfl (fun h => by cases h) (fun _ => ?_)
      refine AW_skip (hK1 _ ?_)
      refine AW_then fun K2 hK2 => ?_
      refine AW_block ?_
      refine AW_rg (tyOf_good _) [0, 1, 20] [500] (notIn_ok rfl) fun K' hK' => ?_
      repeat (refine sxf_next fun K2 hK2 => ?_; simp [dNum, rRow, rdr, dS]; (repeat (refine ⟨by omega, ?_⟩)); refine hK2 _ ?_; clear hK2 K2)
      refine sxf_next fun K2 hK2 => ?_
      simp [dNum, rRow, rdr, dS]
      refine callK.mc (k33) (by simp [dNum, rRow, rdr, dS]) (by simp [dNum, rRow, rdr, dS]) (by simp [dNum, rRow, rdr, dS]) (by simp [dNum, rRow, rdr, dS]) ?_
      simp [dNum, rRow, rdr, dS]
      refine hK2 _ ?_
      clear hK2 K2
      repeat (refine sxf_next fun K2 hK2 => ?_; simp [dNum, rRow, rdr, dS]; (repeat (refine ⟨by omega, ?_⟩)); refine hK2 _ ?_; clear hK2 K2)
      refine sxf_nil (hK' _ ?_)
      refine AW.st (by simp [dNum, rRow, rdr, dS]; rfl) ?_
      clear hK' K'
      refine AW_cond false rfl (fun h => by cases h) (fun _ => ?_)
      refine AW_rg (tyOf_good _) [0, 1, 36] [500] (notIn_ok rfl) fun K' hK' => ?_
      repeat (refine sxf_next fun K2 hK2 => ?_; simp [dNum, rRow, rdr, dS]; (repeat (refine ⟨by omega, ?_⟩)); refine hK2 _ ?_; clear hK2 K2)
      refine sxf_next fun K2 hK2 => ?_
      simp [dNum, rRow, rdr, dS]
      refine callK.mc (k40) (by simp [dNum, rRow, rdr, dS]) (by simp [dNum, rRow, rdr, dS]) (by simp [dNum, rRow, rdr, dS]) (by simp [dNum, rRow, rdr, dS]) ?_
      simp [dNum, rRow, rdr, dS]
      refine hK2 _ ?_
      clear hK2 K2
      repeat (refine sxf_next fun K2 hK2 => ?_; simp [dNum, rRow, rdr, dS]; (repeat (refine ⟨by omega, ?_⟩)); refine hK2 _ ?_; clear hK2 K2)
      refine sxf_nil (hK' _ ?_)
      refine AW.st (by simp [dNum, rRow, rdr, dS]; rfl) ?_
      clear hK' K'
      refine AW_cond false rfl (fun h => by cases h) (fun _ => ?_)
      refine AW_rg (tyOf_good _) [0, 55] [500] (notIn_ok rfl) fun K' hK' => ?_
      repeat (refine sxf_next fun K2 hK2 => ?_; simp [dNum, rRow, rdr, dS]; (repeat (refine ⟨by omega, ?_⟩)); refine hK2 _ ?_; clear hK2 K2)
      refine sxf_next fun K2 hK2 => ?_
      simp [dNum, rRow, rdr, dS]
      refine callK.mc (k48) (by simp [dNum, rRow, rdr, dS]) (by simp [dNum, rRow, rdr, dS]) (by simp [dNum, rRow, rdr, dS]) (by simp [dNum, rRow, rdr, dS]) ?_
      simp [dNum, rRow, rdr, dS]
      refine hK2 _ ?_
      clear hK2 K2
      repeat (refine sxf_next fun K2 hK2 => ?_; simp [dNum, rRow, rdr, dS]; (repeat (refine ⟨by omega, ?_⟩)); refine hK2 _ ?_; clear hK2 K2)
      refine sxf_nil (hK' _ ?_)
      refine AW.st (by simp [dNum, rRow, rdr, dS]; rfl) ?_
      clear hK' K'
      refine AW_cond false rfl (fun h => by cases h) (fun _ => ?_)
      refine AW_rg (tyOf_good _) [0, 59] [500] (notIn_ok rfl) fun K' hK' => ?_
      repeat (refine sxf_next fun K2 hK2 => ?_; simp [dNum, rRow, rdr, dS]; (repeat (refine ⟨by omega, ?_⟩)); refine hK2 _ ?_; clear hK2 K2)
      refine sxf_next fun K2 hK2 => ?_
      simp [dNum, rRow, rdr, dS]
      refine callK.mc (k49) (by simp [dNum, rRow, rdr, dS]) (by simp [dNum, rRow, rdr, dS]) (by simp [dNum, rRow, rdr, dS]) (by simp [dNum, rRow, rdr, dS]) ?_
      simp [dNum, rRow, rdr, dS]
      refine hK2 _ ?_
      clear hK2 K2
      repeat (refine sxf_next fun K2 hK2 => ?_; simp [dNum, rRow, rdr, dS]; (repeat (refine ⟨by omega, ?_⟩)); refine hK2 _ ?_; clear hK2 K2)
      refine sxf_nil (hK' _ ?_)
      refine AW.st (by simp [dNum, rRow, rdr, dS]; rfl) ?_
      clear hK' K'
      refine AW_cond false rfl (fun h => by cases h) (fun _ => ?_)
      refine AW_rg (tyOf_good _) [0, 63] [500] (notIn_ok rfl) fun K' hK' => ?_
      repeat (refine sxf_next fun K2 hK2 => ?_; simp [dNum, rRow, rdr, dS]; (repeat (refine ⟨by omega, ?_⟩)); refine hK2 _ ?_; clear hK2 K2)
      refine sxf_next fun K2 hK2 => ?_
      simp [dNum, rRow, rdr, dS]
      refine callK.mc (k94) (by simp [dNum, rRow, rdr, dS]) (by simp [dNum, rRow, rdr, dS]) (by simp [dNum, rRow, rdr, dS]) (by simp [dNum, rRow, rdr, dS]) ?_
      simp [dNum, rRow, rdr, dS]
      refine hK2 _ ?_
      clear hK2 K2
      repeat (refine sxf_next fun K2 hK2 => ?_; simp [dNum, rRow, rdr, dS]; (repeat (refine ⟨by omega, ?_⟩)); refine hK2 _ ?_; clear hK2 K2)
      refine sxf_nil (hK' _ ?_)
      refine AW.st (by simp [dNum, rRow, rdr, dS]; rfl) ?_
      clear hK' K'
      refine AW_cond false rfl (fun h => by cases h) (fun _ => ?_)
      refine AW_rg (tyOf_good _) [0, 74] [500] (notIn_ok rfl) fun K' hK' => ?_
      repeat (refine sxf_next fun K2 hK2 => ?_; simp [dNum, rRow, rdr, dS]; (repeat (refine ⟨by omega, ?_⟩)); refine hK2 _ ?_; clear hK2 K2)
      refine sxf_next fun K2 hK2 => ?_
      simp [dNum, rRow, rdr, dS]
      refine callK.mc (k126) (by simp [dNum, rRow, rdr, dS]) (by simp [dNum, rRow, rdr, dS]) (by simp [dNum, rRow, rdr, dS]) (by simp [dNum, rRow, rdr, dS]) ?_
      simp [dNum, rRow, rdr, dS]
      refine hK2 _ ?_
      clear hK2 K2
      repeat (refine sxf_next fun K2 hK2 => ?_; simp [dNum, rRow, rdr, dS]; (repeat (refine ⟨by omega, ?_⟩)); refine hK2 _ ?_; clear hK2 K2)
      refine sxf_nil (hK' _ ?_)
      refine AW.st (by simp [dNum, rRow, rdr, dS]; rfl) ?_
      clear hK' K'
      refine AW_cond false rfl (fun h => by cases h) (fun _ => ?_)
      refine AW_skip (hK2 _ ?_)
      refine AW_rg (tyOf_good _) [14, 15] [500] (notIn_ok rfl) fun K' hK' => ?_
      repeat (refine sxf_next fun K2 hK2 => ?_; simp [dNum, rRow, rdr, dS, tupW]; (repeat (refine ⟨by omega, ?_⟩)); refine hK2 _ ?_; clear hK2 K2)
      refine sxf_next fun K2 hK2 => ?_
      simp [dNum, rRow, rdr, dS, tupW]
      refine callK.mc (hc) (by simp [dNum, rRow, rdr, dS, tupW]) (by simp [dNum, rRow, rdr, dS, tupW]) (by simp [dNum, rRow, rdr, dS, tupW]) (by simp [dNum, rRow, rdr, dS, tupW]) ?_
      simp [dNum, rRow, rdr, dS, tupW]
      refine hK2 _ ?_
      clear hK2 K2
      repeat (refine sxf_next fun K2 hK2 => ?_; simp [dNum, rRow, rdr, dS, tupW]; (repeat (refine ⟨by omega, ?_⟩)); refine hK2 _ ?_; clear hK2 K2)
      refine sxf_nil (hK' _ ?_)
      refine AW.st (by simp [dNum, rRow, rdr, dS, tupW]; rfl) ?_
      clear hK' K'
      refine AW_rg (tyOf_good _) [4, 5] [500] (notIn_ok rfl) fun K' hK' => ?_
      repeat (refine sxf_next fun K2 hK2 => ?_; simp [dNum, rRow, rdr, dS]; (repeat (refine ⟨by omega, ?_⟩)); refine hK2 _ ?_; clear hK2 K2)
      refine sxf_nil (hK' _ ?_)
      refine AW.st (by simp [dNum, rRow, rdr, dS]; rfl) ?_
      clear hK' K'
      refine AW_ret ?_
      simp [D.le, D.le.go, takeMap, dNum, rRow, rdr, dS, rRow, rdr, tupX, posR, Rs.map, dE]
end Go.Proofs.YtfehigldhedkgaaDoor

/-
  Parse.
-/
namespace Go.Proofs.YtfehigldhedkgaaDoor
set_option linter.unusedSimpArgs false
set_option linter.unusedVariables false
open Go.Av

theorem renH_one {r r' : Nat} (h : r ≠ r') (row : Row) : renH r r' (hlst [(r, row)]) = hlst [(r', row.tr (renO r r') (renF r r'))] := by
  funext q
  unfold renH
  by_cases h1 : q = r'
  · subst h1
    simp [hlst, List.lookup]
  · rw [if_neg h1]
    by_cases h2 : q = r
    · subst h2
      simp [hlst, List.lookup, h1, beq_eq_false_iff_ne.2 h1]
    · simp [hlst, List.lookup, h2, beq_eq_false_iff_ne.2 h1, beq_eq_false_iff_ne.2 h2]
def dOE : Option Ex → D
  | some x => dE x
  | none => .v .nilIface

set_option maxHeartbeats 4000000 in
theorem parse_spec (G : Glob) (t : List UInt8) (ht : t.length < 2^60) : PureC Tryd.prog G 17 [dS t] (.tup [dOE (parseM t).1, dErr (parseM t).2]) := by
  unfold parseM
  by_cases hl : 2000 < t.length
  · have hl' : (2000 : Int) < (t.length : Int) := by omega
    rw [if_pos hl]
    refine PureC.of_body (tyOf_good _) Tryd.func17 rfl rfl (rs := [.tmp 2, .tmp 3]) Tryd.results17 (by simp [Tryd.ntmps17]) fun X => ?_
    simp only [Tryd.ntmps17, List.map]
    refine AW_rg (tyOf_good _) [0] [] (fun _ _ => trivial) fun K' hK' => ?_
    repeat (refine sxf_next fun K2 hK2 => ?_; simp [dNum, rRow, rdr, dS]; (repeat (refine ⟨by omega, ?_⟩)); refine hK2 _ ?_; clear hK2 K2)
    refine sxf_nil (hK' _ ?_)
    refine AW.st (by simp [dNum, rRow, rdr, dS]; rfl) ?_
    clear hK' K'
    refine AW_then fun K1 hK1 => ?_
    refine AW_rg (tyOf_good _) [0, 9] [] (fun _ _ => trivial) fun K' hK' => ?_
    repeat (refine sxf_next fun K2 hK2 => ?_; simp [dNum, rRow, rdr, dS, bs_size, hl, hl']; (repeat (refine ⟨by omega, ?_⟩)); refine hK2 _ ?_; clear hK2 K2)
    refine sxf_nil (hK' _ ?_)
    refine AW.st (by simp [dNum, rRow, rdr, dS, bs_size, hl, hl']; rfl) ?_
    clear hK' K'
    refine AW_cond true rfl (fun _ => ?_) (fun h => by cases h)
    refine AW_rg (tyOf_good _) [2, 3] [] (fun _ _ => trivial) fun K' hK' => ?_
    repeat (refine sxf_next fun K2 hK2 => ?_; simp [dNum, rRow, rdr, dS]; (repeat (refine ⟨by omega, ?_⟩)); refine hK2 _ ?_; clear hK2 K2)
    refine sxf_nil (hK' _ ?_)
    refine AW.st (by simp [dNum, rRow, rdr, dS]; rfl) ?_
    clear hK' K'
    refine AW_ret ?_
    simp [D.le, D.le.go, takeMap, dNum, rRow, rdr, dS, dOE, dErr]
  have hl' : ¬ (2000 : Int) < (t.length : Int) := by omega
  rw [if_neg hl]
  have hor := or_spec G t (by omega) 20 (one_spec G t (by omega) 20 (by decide)) 0 (Nat.zero_le _)
  cases hr : orR t (oneR t 20) 0 with
  | err c p q =>
    rw [hr] at hor
    refine PureC.of_body (tyOf_good _) Tryd.func17 rfl rfl (rs := [.tmp 2, .tmp 3]) Tryd.results17 (by simp [Tryd.ntmps17]) fun X => ?_
    simp only [Tryd.ntmps17, List.map]
    refine AW_rg (tyOf_good _) [0] [] (fun _ _ => trivial) fun K' hK' => ?_
    repeat (refine sxf_next fun K2 hK2 => ?_; simp [dNum, rRow, rdr, dS]; (repeat (refine ⟨by omega, ?_⟩)); refine hK2 _ ?_; clear hK2 K2)
    refine sxf_nil (hK' _ ?_)
    refine AW.st (by simp [dNum, rRow, rdr, dS]; rfl) ?_
    clear hK' K'
    refine AW_then fun K1 hK1 => ?_
    refine AW_rg (tyOf_good _) [0, 9] [] (fun _ _ => trivial) fun K' hK' => ?_
    repeat (refine sxf_next fun K2 hK2 => ?_; simp [dNum, rRow, rdr, dS, bs_size, hl, hl']; (repeat (refine ⟨by omega, ?_⟩)); refine hK2 _ ?_; clear hK2 K2)
    refine sxf_nil (hK' _ ?_)
    refine AW.st (by simp [dNum, rRow, rdr, dS, bs_size, hl, hl']; rfl) ?_
    clear hK' K'
    refine AW_cond false rfl (fun h => by cases h) (fun _ => ?_)
    refine AW_skip (hK1 _ ?_)
    refine AW_rg (tyOf_good _) [0, 4] [13] (fun _ _ => trivial) fun K' hK' => ?_
    repeat (refine sxf_next fun K2 hK2 => ?_; simp [dNum, rRow, rdr, dS]; (repeat (refine ⟨by omega, ?_⟩)); refine hK2 _ ?_; clear hK2 K2)
    refine sxf_nil (hK' _ ?_)
    refine AW.st (by simp [dNum, rRow, rdr, dS]; rfl) ?_
    clear hK' K'
    refine AW.imp (Imp.ren (r := 13) (r' := 500) trivial (by simp)) ?_
    refine AW.st (by simp [renO, renF, Go.Av.ren, renH_one]; rfl) ?_
    refine AW_rg (tyOf_good _) [0, 4, 5, 6] [500] (fun _ _ => trivial) fun K' hK' => ?_
    repeat (refine sxf_next fun K2 hK2 => ?_; simp [dNum, rRow, rdr, dS, tupX, dErr]; (repeat (refine ⟨by omega, ?_⟩)); refine hK2 _ ?_; clear hK2 K2)
    refine sxf_next fun K2 hK2 => ?_
    simp [dNum, rRow, rdr, dS, tupX, dErr]
    refine callK.mc (hor) (by simp [dNum, rRow, rdr, dS, tupX, dErr]) (by simp [dNum, rRow, rdr, dS, tupX, dErr]) (by simp [dNum, rRow, rdr, dS, tupX, dErr]) (by simp [dNum, rRow, rdr, dS, tupX, dErr]) ?_
    simp [dNum, rRow, rdr, dS, tupX, dErr]
    refine hK2 _ ?_
    clear hK2 K2
    repeat (refine sxf_next fun K2 hK2 => ?_; simp [dNum, rRow, rdr, dS, tupX, dErr]; (repeat (refine ⟨by omega, ?_⟩)); refine hK2 _ ?_; clear hK2 K2)
    refine sxf_nil (hK' _ ?_)
    refine AW.st (by simp [dNum, rRow, rdr, dS, tupX, dErr]; rfl) ?_
    clear hK' K'
    refine AW_then fun K2 hK2 => ?_
    refine AW_rg (tyOf_good _) [0, 4, 5, 6, 20] [500] (fun _ _ => trivial) fun K' hK' => ?_
    repeat (refine sxf_next fun K2 hK2 => ?_; simp [dNum, rRow, rdr, dS]; (repeat (refine ⟨by omega, ?_⟩)); refine hK2 _ ?_; clear hK2 K2)
    refine sxf_nil (hK' _ ?_)
    refine AW.st (by simp [dNum, rRow, rdr, dS]; rfl) ?_
    clear hK' K'
    refine AW_cond true rfl (fun _ => ?_) (fun h => by cases h)
    refine AW_rg (tyOf_good _) [2, 3] [] (fun _ _ => trivial) fun K' hK' => ?_
    repeat (refine sxf_next fun K2 hK2 => ?_; simp [dNum, rRow, rdr, dS]; (repeat (refine ⟨by omega, ?_⟩)); refine hK2 _ ?_; clear hK2 K2)
    refine sxf_nil (hK' _ ?_)
    refine AW.st (by simp [dNum, rRow, rdr, dS]; rfl) ?_
    clear hK' K'
    refine AW_ret ?_
    simp [D.le, D.le.go, takeMap, dNum, rRow, rdr, dS, dOE, dErr]
  | ok x k =>
    rw [hr] at hor
    have hk := (or_goes (one_goes t 20) 0 x k (Nat.zero_le _) hr).2
    have hbl := blanks_spec G t k (by omega) hk
    have htop := skipB_top hk
    have hfl := fail_spec G t (skipB t k) (by omega) htop 3
    rw [skipB_idem hk] at hfl
    obtain ⟨tx, cx, hx⟩ := dE_ifc x
    dsimp only
    generalize skipB t k = j at hbl htop hfl ⊢
    by_cases hj : j < t.length
    · have hj' : (j : Int) < (t.length : Int) := by omega
      rw [if_pos hj]
      refine PureC.of_body (tyOf_good _) Tryd.func17 rfl rfl (rs := [.tmp 2, .tmp 3]) Tryd.results17 (by simp [Tryd.ntmps17]) fun X => ?_
      simp only [Tryd.ntmps17, List.map]
      refine AW_rg (tyOf_good _) [0] [] (fun _ _ => trivial) fun K' hK' => ?_
      repeat (refine sxf_next fun K2 hK2 => ?_; simp [dNum, rRow, rdr, dS]; (repeat (refine ⟨by omega, ?_⟩)); refine hK2 _ ?_; clear hK2 K2)
      refine sxf_nil (hK' _ ?_)
      refine AW.st (by simp [dNum, rRow, rdr, dS]; rfl) ?_
      clear hK' K'
      refine AW_then fun K1 hK1 => ?_
      refine AW_rg (tyOf_good _) [0, 9] [] (fun _ _ => trivial) fun K' hK' => ?_
      repeat (refine sxf_next fun K2 hK2 => ?_; simp [dNum, rRow, rdr, dS, bs_size, hl, hl']; (repeat (refine ⟨by omega, ?_⟩)); refine hK2 _ ?_; clear hK2 K2)
      refine sxf_nil (hK' _ ?_)
      refine AW.st (by simp [dNum, rRow, rdr, dS, bs_size, hl, hl']; rfl) ?_
      clear hK' K'
      refine AW_cond false rfl (fun h => by cases h) (fun _ => ?_)
      refine AW_skip (hK1 _ ?_)
      refine AW_rg (tyOf_good _) [0, 4] [13] (fun _ _ => trivial) fun K' hK' => ?_
      repeat (refine sxf_next fun K2 hK2 => ?_; simp [dNum, rRow, rdr, dS]; (repeat (refine ⟨by omega, ?_⟩)); refine hK2 _ ?_; clear hK2 K2)
      refine sxf_nil (hK' _ ?_)
      refine AW.st (by simp [dNum, rRow, rdr, dS]; rfl) ?_
      clear hK' K'
      refine AW.imp (Imp.ren (r := 13) (r' := 500) trivial (by simp)) ?_
      refine AW.st (by simp [renO, renF, Go.Av.ren, renH_one]; rfl) ?_
      refine AW_rg (tyOf_good _) [0, 4, 5, 6] [500] (fun _ _ => trivial) fun K' hK' => ?_
      repeat (refine sxf_next fun K2 hK2 => ?_; simp [dNum, rRow, rdr, dS, tupX, posR, hx]; (repeat (refine ⟨by omega, ?_⟩)); refine hK2 _ ?_; clear hK2 K2)
      refine sxf_next fun K2 hK2 => ?_
      simp [dNum, rRow, rdr, dS, tupX, posR, hx]
      refine callK.mc (hor) (by simp [dNum, rRow, rdr, dS, tupX, posR, hx]) (by simp [dNum, rRow, rdr, dS, tupX, posR, hx]) (by simp [dNum, rRow, rdr, dS, tupX, posR, hx]) (by simp [dNum, rRow, rdr, dS, tupX, posR, hx]) ?_
      simp [dNum, rRow, rdr, dS, tupX, posR, hx]
      refine hK2 _ ?_
      clear hK2 K2
      repeat (refine sxf_next fun K2 hK2 => ?_; simp [dNum, rRow, rdr, dS, tupX, posR, hx]; (repeat (refine ⟨by omega, ?_⟩)); refine hK2 _ ?_; clear hK2 K2)
      refine sxf_nil (hK' _ ?_)
      refine AW.st (by simp [dNum, rRow, rdr, dS, tupX, posR, hx]; rfl) ?_
      clear hK' K'
      refine AW_then fun K2 hK2 => ?_
      refine AW_rg (tyOf_good _) [0, 4, 5, 6, 20] [500] (fun _ _ => trivial) fun K' hK' => ?_
      repeat (refine sxf_next fun K2 hK2 => ?_; simp [dNum, rRow, rdr, dS]; (repeat (refine ⟨by omega, ?_⟩)); refine hK2 _ ?_; clear hK2 K2)
      refine sxf_nil (hK' _ ?_)
      refine AW.st (by simp [dNum, rRow, rdr, dS]; rfl) ?_
      clear hK' K'
      refine AW_cond false rfl (fun h => by cases h) (fun _ => ?_)
      refine AW_skip (hK2 _ ?_)
      refine AW_then fun K3 hK3 => ?_
      refine AW_rg (tyOf_good _) [0, 4, 5] [500] (fun _ _ => trivial) fun K' hK' => ?_
      repeat (refine sxf_next fun K2 hK2 => ?_; simp [dNum, rRow, rdr, dS]; (repeat (refine ⟨by omega, ?_⟩)); refine hK2 _ ?_; clear hK2 K2)
      refine sxf_next fun K2 hK2 => ?_
      simp [dNum, rRow, rdr, dS]
      refine callK.mc (hbl) (by simp [dNum, rRow, rdr, dS]) (by simp [dNum, rRow, rdr, dS]) (by simp [dNum, rRow, rdr, dS]) (by simp [dNum, rRow, rdr, dS]) ?_
      simp [dNum, rRow, rdr, dS]
      refine hK2 _ ?_
      clear hK2 K2
      repeat (refine sxf_next fun K2 hK2 => ?_; simp [dNum, rRow, rdr, dS]; (repeat (refine ⟨by omega, ?_⟩)); refine hK2 _ ?_; clear hK2 K2)
      refine sxf_nil (hK' _ ?_)
      refine AW.st (by simp [dNum, rRow, rdr, dS]; rfl) ?_
      clear hK' K'
      refine AW_rg (tyOf_good _) [4, 5, 30] [500] (fun _ _ => trivial) fun K' hK' => ?_
      repeat (refine sxf_next fun K2 hK2 => ?_; simp [dNum, rRow, rdr, dS, bs_size, hj, hj']; (repeat (refine ⟨by omega, ?_⟩)); refine hK2 _ ?_; clear hK2 K2)
      refine sxf_nil (hK' _ ?_)
      refine AW.st (by simp [dNum, rRow, rdr, dS, bs_size, hj, hj']; rfl) ?_
      clear hK' K'
      refine AW_cond true rfl (fun _ => ?_) (fun h => by cases h)
      refine AW_rg (tyOf_good _) [2, 3] [] (fun _ _ => trivial) fun K' hK' => ?_
      repeat (refine sxf_next fun K2 hK2 => ?_; simp [dNum, rRow, rdr, dS, dErr]; (repeat (refine ⟨by omega, ?_⟩)); refine hK2 _ ?_; clear hK2 K2)
      refine sxf_next fun K2 hK2 => ?_
      simp [dNum, rRow, rdr, dS, dErr]
      refine callK.mc (hfl) (by simp [dNum, rRow, rdr, dS, dErr]) (by simp [dNum, rRow, rdr, dS, dErr]) (by simp [dNum, rRow, rdr, dS, dErr]) (by simp [dNum, rRow, rdr, dS, dErr]) ?_
      simp [dNum, rRow, rdr, dS, dErr]
      refine hK2 _ ?_
      clear hK2 K2
      repeat (refine sxf_next fun K2 hK2 => ?_; simp [dNum, rRow, rdr, dS, dErr]; (repeat (refine ⟨by omega, ?_⟩)); refine hK2 _ ?_; clear hK2 K2)
      refine sxf_nil (hK' _ ?_)
      refine AW.st (by simp [dNum, rRow, rdr, dS, dErr]; rfl) ?_
      clear hK' K'
      refine AW_ret ?_
      simp [D.le, D.le.go, takeMap, dNum, rRow, rdr, dS, dOE, dErr]
    · have hj' : ¬ (j : Int) < (t.length : Int) := by omega
      rw [if_neg hj]
      refine PureC.of_body (tyOf_good _) Tryd.func17 rfl rfl (rs := [.tmp 2, .tmp 3]) Tryd.results17 (by simp [Tryd.ntmps17]) fun X => ?_
      simp only [Tryd.ntmps17, List.map]
      refine AW_rg (tyOf_good _) [0] [] (fun _ _ => trivial) fun K' hK' => ?_
      repeat (refine sxf_next fun K2 hK2 => ?_; simp [dNum, rRow, rdr, dS]; (repeat (refine ⟨by omega, ?_⟩)); refine hK2 _ ?_; clear hK2 K2)
      refine sxf_nil (hK' _ ?_)
      refine AW.st (by simp [dNum, rRow, rdr, dS]; rfl) ?_
      clear hK' K'
      refine AW_then fun K1 hK1 => ?_
      refine AW_rg (tyOf_good _) [0, 9] [] (fun _ _ => trivial) fun K' hK' => ?_
      repeat (refine sxf_next fun K2 hK2 => ?_; simp [dNum, rRow, rdr, dS, bs_size, hl, hl']; (repeat (refine ⟨by omega, ?_⟩)); refine hK2 _ ?_; clear hK2 K2)
      refine sxf_nil (hK' _ ?_)
      refine AW.st (by simp [dNum, rRow, rdr, dS, bs_size, hl, hl']; rfl) ?_
      clear hK' K'
      refine AW_cond false rfl (fun h => by cases h) (fun _ => ?_)
      refine AW_skip (hK1 _ ?_)
      refine AW_rg (tyOf_good _) [0, 4] [13] (fun _ _ => trivial) fun K' hK' => ?_
      repeat (refine sxf_next fun K2 hK2 => ?_; simp [dNum, rRow, rdr, dS]; (repeat (refine ⟨by omega, ?_⟩)); refine hK2 _ ?_; clear hK2 K2)
      refine sxf_nil (hK' _ ?_)
      refine AW.st (by simp [dNum, rRow, rdr, dS]; rfl) ?_
      clear hK' K'
      refine AW.imp (Imp.ren (r := 13) (r' := 500) trivial (by simp)) ?_
      refine AW.st (by simp [renO, renF, Go.Av.ren, renH_one]; rfl) ?_
      refine AW_rg (tyOf_good _) [0, 4, 5, 6] [500] (fun _ _ => trivial) fun K' hK' => ?_
      repeat (refine sxf_next fun K2 hK2 => ?_; simp [dNum, rRow, rdr, dS, tupX, posR, hx]; (repeat (refine ⟨by omega, ?_⟩)); refine hK2 _ ?_; clear hK2 K2)
      refine sxf_next fun K2 hK2 => ?_
      simp [dNum, rRow, rdr, dS, tupX, posR, hx]
      refine callK.mc (hor) (by simp [dNum, rRow, rdr, dS, tupX, posR, hx]) (by simp [dNum, rRow, rdr, dS, tupX, posR, hx]) (by simp [dNum, rRow, rdr, dS, tupX, posR, hx]) (by simp [dNum, rRow, rdr, dS, tupX, posR, hx]) ?_
      simp [dNum, rRow, rdr, dS, tupX, posR, hx]
      refine hK2 _ ?_
      clear hK2 K2
      repeat (refine sxf_next fun K2 hK2 => ?_; simp [dNum, rRow, rdr, dS, tupX, posR, hx]; (repeat (refine ⟨by omega, ?_⟩)); refine hK2 _ ?_; clear hK2 K2)
      refine sxf_nil (hK' _ ?_)
      refine AW.st (by simp [dNum, rRow, rdr, dS, tupX, posR, hx]; rfl) ?_
      clear hK' K'
      refine AW_then fun K2 hK2 => ?_
      refine AW_rg (tyOf_good _) [0, 4, 5, 6, 20] [500] (fun _ _ => trivial) fun K' hK' => ?_
      repeat (refine sxf_next fun K2 hK2 => ?_; simp [dNum, rRow, rdr, dS]; (repeat (refine ⟨by omega, ?_⟩)); refine hK2 _ ?_; clear hK2 K2)
      refine sxf_nil (hK' _ ?_)
      refine AW.st (by simp [dNum, rRow, rdr, dS]; rfl) ?_
      clear hK' K'
      refine AW_cond false rfl (fun h => by cases h) (fun _ => ?_)
      refine AW_skip (hK2 _ ?_)
      refine AW_then fun K3 hK3 => ?_
      refine AW_rg (tyOf_good _) [0, 4, 5] [500] (fun _ _ => trivial) fun K' hK' => ?_
      repeat (refine sxf_next fun K2 hK2 => ?_; simp [dNum, rRow, rdr, dS]; (repeat (refine ⟨by omega, ?_⟩)); refine hK2 _ ?_; clear hK2 K2)
      refine sxf_next fun K2 hK2 => ?_
      simp [dNum, rRow, rdr, dS]
      refine callK.mc (hbl) (by simp [dNum, rRow, rdr, dS]) (by simp [dNum, rRow, rdr, dS]) (by simp [dNum, rRow, rdr, dS]) (by simp [dNum, rRow, rdr, dS]) ?_
      simp [dNum, rRow, rdr, dS]
      refine hK2 _ ?_
      clear hK2 K2
      repeat (refine sxf_next fun K2 hK2 => ?_; simp [dNum, rRow, rdr, dS]; (repeat (refine ⟨by omega, ?_⟩)); refine hK2 _ ?_; clear hK2 K2)
      refine sxf_nil (hK' _ ?_)
      refine AW.st (by simp [dNum, rRow, rdr, dS]; rfl) ?_
      clear hK' K'
      refine AW_rg (tyOf_good _) [4, 5, 30] [500] (fun _ _ => trivial) fun K' hK' => ?_
      repeat (refine sxf_next fun K2 hK2 => ?_; simp [dNum, rRow, rdr, dS, bs_size, hj, hj']; (repeat (refine ⟨by omega, ?_⟩)); refine hK2 _ ?_; clear hK2 K2)
      refine sxf_nil (hK' _ ?_)
      refine AW.st (by simp [dNum, rRow, rdr, dS, bs_size, hj, hj']; rfl) ?_
      clear hK' K'
      refine AW_cond false rfl (fun h => by cases h) (fun _ => ?_)
      refine AW_skip (hK3 _ ?_)
      refine AW_rg (tyOf_good _) [2, 3] [] (fun _ _ => trivial) fun K' hK' => ?_
      repeat (refine sxf_next fun K2 hK2 => ?_; simp [dNum, rRow, rdr, dS]; (repeat (refine ⟨by omega, ?_⟩)); refine hK2 _ ?_; clear hK2 K2)
      refine sxf_nil (hK' _ ?_)
      refine AW.st (by simp [dNum, rRow, rdr, dS]; rfl) ?_
      clear hK' K'
      refine AW_ret ?_
      simp [D.le, D.le.go, takeMap, dNum, rRow, rdr, dS, dOE, dErr, hx, D.le_refl]
end Go.Proofs.YtfehigldhedkgaaDoor
