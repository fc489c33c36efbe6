/-
  Texts that belong together, in one file: Av31, A1, A2, A3, A4, A6, U1.
-/
import Derived.Test.YtfehigldhedkgaaGreatDoorEs14
import Derived.Scope
import Derived.Shelf.Strings.Runes
/-
  Scopes that are left without a jump.
-/
namespace Go.Av

def noG (Q : Exit → St → Prop) : Exit → St → Prop
  | .goto _, _ => False
  | e, σ => Q e σ
section
variable {P : Program} {Mv X : Nat → Prop} {G : Glob} {N : Nat} {σ : St}
theorem AW_scope {c : Code} {Q : Exit → St → Prop} (h : AW P Mv X G N c (noG Q) σ) : AW P Mv X G N (.scope c) Q σ := fun w μ a hi =>
  wp_scope_straight (wp_mono (h w μ a hi) fun e a' w' ⟨μ', σ', q, i, ev⟩ => by
    cases e with
    | goto l => exact q.elim
    | _ => exact ⟨μ', σ', q, i, ev⟩)
end
attribute [simp] noG
end Go.Av

/-
  The document's reader of expressions: blanks, the next sign, errors; whether a byte is a sign.
-/
namespace Go.Proofs.YtfehigldhedkgaaGreatDoor
set_option linter.unusedSimpArgs false
set_option linter.unusedVariables false
open Go.Av
open Go.Shelf

/-- The reader: what is read, where one is, what is wrong, and where. -/
def pRow (t : List UInt8) (i : Int) (e p : Int) : List (Nat × Row) := [(500, .box 70 [.d (dS t), int i, int e, int p])]

set_option maxHeartbeats 4000000 in
theorem pskip_spec (G : Glob) (t : List UInt8) (i : Nat) (ht : t.length < 2^60) (hi : i ≤ t.length) (e p : Int) :
    MC Tryz.prog G [500] 45 [.ref 500 0 0] (hlst (pRow t i e p)) (.d (.tup [])) (hlst (pRow t (skipB t i) e p)) := by
  refine MC.of_body (tyOf_good _) Tryz.func45 rfl rfl (rs := []) Tryz.results45 (by simp [Tryz.ntmps45]) rfl fun X => ?_
  simp only [Tryz.ntmps45]
  refine AW_for (S := Nat) (fun k => k ≤ t.length ∧ skipB t k = skipB t i) (fun k => ⟨lst [(0, .ref 500 0 0)], hlst [(500, .box 70 [.d (dS t), int k, int e, int p])]⟩) (fun k => t.length - k) i ?_ ⟨hi, rfl⟩ ?_
  · refine Imp.to' (notIn_ok rfl) (by simp [dNum, pRow, dS]) (by simp [dNum, pRow, dS])
  · rintro k ⟨hk, hs⟩
    refine AW_then fun K1 hK1 => ?_
    by_cases hkl : k < t.length
    · have hkl' : (k : Int) < (t.length : Int) := by omega
      by_cases hb : ((t[k]).toNat : Int) = 32
      · refine AW_rd (tyOf_good _) (by kernel_rfl) [0, 23] [500] (notIn_ok rfl) (by kernel_rfl) fun K' hK' => ?_
        repeat (refine sxd_next fun K2 hK2 => ?_; simp [dNum, pRow, dS, bs_size, bs_data, hkl, hb]; (repeat (refine ⟨by omega, ?_⟩)); refine hK2 _ ?_; clear hK2 K2)
        refine sxd_nil (hK' _ ?_)
        refine AW.st (by simp [dNum, pRow, dS, bs_size, bs_data, hkl, hb]; rfl) ?_
        clear hK' K'
        refine AW_cond true rfl (fun _ => ?_) (fun h => by cases h)
        refine AW_skip (hK1 _ ?_)
        refine AW_block ?_
        refine AW_re (tyOf_good _) fun K' hK' => ?_
        repeat (refine sxf_next fun K2 hK2 => ?_; simp [dNum, pRow, dS]; (repeat (refine ⟨by omega, ?_⟩)); refine hK2 _ ?_; clear hK2 K2)
        refine sxf_nil (hK' _ ?_)
        clear hK' K'
        try simp only [thn, inb]
        have h32 : t[k]? = some 32 := by
          rw [List.getElem?_eq_getElem hkl, (u8_eq _ 32 (by decide)).1 hb]; rfl
        refine Again.mk (k + 1) ⟨by omega, ?_⟩ (by omega) ?_
        · rw [← skipB_blank h32]; exact hs
        refine Imp.to' (notIn_ok rfl) (by simp [dNum, pRow, dS]) (by simp [dNum, pRow, dS])
      · refine AW_rd (tyOf_good _) (by kernel_rfl) [0, 23] [500] (notIn_ok rfl) (by kernel_rfl) fun K' hK' => ?_
        repeat (refine sxd_next fun K2 hK2 => ?_; simp [dNum, pRow, dS, bs_size, bs_data, hkl, hb]; (repeat (refine ⟨by omega, ?_⟩)); refine hK2 _ ?_; clear hK2 K2)
        refine sxd_nil (hK' _ ?_)
        refine AW.st (by simp [dNum, pRow, dS, bs_size, bs_data, hkl, hb]; rfl) ?_
        clear hK' K'
        refine AW_cond false rfl (fun h => by cases h) (fun _ => ?_)
        refine AW_exit ?_
        have h32 : t[k]? ≠ some 32 := by
          rw [List.getElem?_eq_getElem hkl]
          intro h
          apply hb
          rw [Option.some.inj h]; rfl
        rw [skipB_stop h32] at hs
        rw [← hs]
        simp [pRow, dS, D.le_refl]
    · obtain rfl : k = t.length := by omega
      refine AW_rd (tyOf_good _) (by kernel_rfl) [0, 23] [500] (notIn_ok rfl) (by kernel_rfl) fun K' hK' => ?_
      repeat (refine sxd_next fun K2 hK2 => ?_; simp [dNum, pRow, dS, bs_size, bs_data]; (repeat (refine ⟨by omega, ?_⟩)); refine hK2 _ ?_; clear hK2 K2)
      refine sxd_nil (hK' _ ?_)
      refine AW.st (by simp [dNum, pRow, dS, bs_size, bs_data]; rfl) ?_
      clear hK' K'
      refine AW_cond false rfl (fun h => by cases h) (fun _ => ?_)
      refine AW_exit ?_
      have h32 : t[t.length]? ≠ some 32 := by simp
      rw [skipB_stop h32] at hs
      rw [← hs]
      simp [pRow, dS, D.le_refl]
/-- The next sign's first byte. -/
def nxB (t : List UInt8) (i : Nat) : UInt8 := t.getD (skipB t i) 0
set_option maxHeartbeats 4000000 in
theorem pnext_spec (G : Glob) (t : List UInt8) (i : Nat) (ht : t.length < 2^60) (hi : i ≤ t.length) (e p : Int) :
    MC Tryz.prog G [500] 30 [.ref 500 0 0] (hlst (pRow t i e p)) (.d (.v (.int .u8 (nxB t i).toNat))) (hlst (pRow t (skipB t i) e p)) := by
  have hsk := pskip_spec G t i ht hi e p
  have htop := skipB_top hi
  unfold nxB
  generalize skipB t i = j at hsk htop ⊢
  by_cases hjl : j < t.length
  · have hjl' : (j : Int) < (t.length : Int) := by omega
    have hgd : t.getD j 0 = t[j] := by simp [List.getD_eq_getElem?_getD, hjl]
    rw [hgd]
    refine MC.of_body (tyOf_good _) Tryz.func30 rfl rfl (rs := [.tmp 2]) Tryz.results30 (by simp [Tryz.ntmps30]) rfl fun X => ?_
    simp only [Tryz.ntmps30]
    refine AW_rg (tyOf_good _) [0] [500] (notIn_ok rfl) fun K' hK' => ?_
    repeat (refine sxf_next fun K2 hK2 => ?_; simp [dNum, pRow, dS]; (repeat (refine ⟨by omega, ?_⟩)); refine hK2 _ ?_; clear hK2 K2)
    refine sxf_nil (hK' _ ?_)
    refine AW.st (by simp [dNum, pRow, dS]; rfl) ?_
    clear hK' K'
    refine AW_rg (tyOf_good _) [0] [500] (notIn_ok rfl) fun K' hK' => ?_
    repeat (refine sxf_next fun K2 hK2 => ?_; simp [dNum, pRow, dS]; (repeat (refine ⟨by omega, ?_⟩)); refine hK2 _ ?_; clear hK2 K2)
    refine sxf_next fun K2 hK2 => ?_
    simp [dNum, pRow, dS]
    refine callK.mc (hsk) (by simp [dNum, pRow, dS]) (by simp [dNum, pRow, dS]) (by simp [dNum, pRow, dS]) (by simp [dNum, pRow, dS]) ?_
    simp [dNum, pRow, dS]
    refine hK2 _ ?_
    clear hK2 K2
    repeat (refine sxf_next fun K2 hK2 => ?_; simp [dNum, pRow, dS]; (repeat (refine ⟨by omega, ?_⟩)); refine hK2 _ ?_; clear hK2 K2)
    refine sxf_nil (hK' _ ?_)
    refine AW.st (by simp [dNum, pRow, dS]; rfl) ?_
    clear hK' K'
    refine AW_then fun K1 hK1 => ?_
    refine AW_rd (tyOf_good _) (by kernel_rfl) [0, 14] [500] (notIn_ok rfl) (by kernel_rfl) fun K' hK' => ?_
    repeat (refine sxd_next fun K2 hK2 => ?_; simp [dNum, pRow, dS, bs_size, hjl, hjl']; (repeat (refine ⟨by omega, ?_⟩)); refine hK2 _ ?_; clear hK2 K2)
    refine sxd_nil (hK' _ ?_)
    refine AW.st (by simp [dNum, pRow, dS, bs_size, hjl, hjl']; rfl) ?_
    clear hK' K'
    refine AW_cond true rfl (fun _ => ?_) (fun h => by cases h)
    refine AW_rd (tyOf_good _) (by kernel_rfl) [2] [500] (notIn_ok rfl) (by kernel_rfl) fun K' hK' => ?_
    repeat (refine sxd_next fun K2 hK2 => ?_; simp [dNum, pRow, dS, bs_size, bs_data, hjl]; (repeat (refine ⟨by omega, ?_⟩)); refine hK2 _ ?_; clear hK2 K2)
    refine sxd_nil (hK' _ ?_)
    refine AW.st (by simp [dNum, pRow, dS, bs_size, bs_data, hjl]; rfl) ?_
    clear hK' K'
    refine AW_ret ?_
    simp [D.le, D.le.go, takeMap, dNum, pRow, dS, pRow, hjl]
  · obtain rfl : j = t.length := by omega
    refine MC.of_body (tyOf_good _) Tryz.func30 rfl rfl (rs := [.tmp 2]) Tryz.results30 (by simp [Tryz.ntmps30]) rfl fun X => ?_
    simp only [Tryz.ntmps30]
    refine AW_rg (tyOf_good _) [0] [500] (notIn_ok rfl) fun K' hK' => ?_
    repeat (refine sxf_next fun K2 hK2 => ?_; simp [dNum, pRow, dS]; (repeat (refine ⟨by omega, ?_⟩)); refine hK2 _ ?_; clear hK2 K2)
    refine sxf_nil (hK' _ ?_)
    refine AW.st (by simp [dNum, pRow, dS]; rfl) ?_
    clear hK' K'
    refine AW_rg (tyOf_good _) [0] [500] (notIn_ok rfl) fun K' hK' => ?_
    repeat (refine sxf_next fun K2 hK2 => ?_; simp [dNum, pRow, dS]; (repeat (refine ⟨by omega, ?_⟩)); refine hK2 _ ?_; clear hK2 K2)
    refine sxf_next fun K2 hK2 => ?_
    simp [dNum, pRow, dS]
    refine callK.mc (hsk) (by simp [dNum, pRow, dS]) (by simp [dNum, pRow, dS]) (by simp [dNum, pRow, dS]) (by simp [dNum, pRow, dS]) ?_
    simp [dNum, pRow, dS]
    refine hK2 _ ?_
    clear hK2 K2
    repeat (refine sxf_next fun K2 hK2 => ?_; simp [dNum, pRow, dS]; (repeat (refine ⟨by omega, ?_⟩)); refine hK2 _ ?_; clear hK2 K2)
    refine sxf_nil (hK' _ ?_)
    refine AW.st (by simp [dNum, pRow, dS]; rfl) ?_
    clear hK' K'
    refine AW_then fun K1 hK1 => ?_
    refine AW_rd (tyOf_good _) (by kernel_rfl) [0, 14] [500] (notIn_ok rfl) (by kernel_rfl) fun K' hK' => ?_
    repeat (refine sxd_next fun K2 hK2 => ?_; simp [dNum, pRow, dS, bs_size]; (repeat (refine ⟨by omega, ?_⟩)); refine hK2 _ ?_; clear hK2 K2)
    refine sxd_nil (hK' _ ?_)
    refine AW.st (by simp [dNum, pRow, dS, bs_size]; rfl) ?_
    clear hK' K'
    refine AW_cond false rfl (fun h => by cases h) (fun _ => ?_)
    refine AW_skip (hK1 _ ?_)
    refine AW_rg (tyOf_good _) [2] [500] (notIn_ok rfl) fun K' hK' => ?_
    repeat (refine sxf_next fun K2 hK2 => ?_; simp [dNum, pRow, dS]; (repeat (refine ⟨by omega, ?_⟩)); refine hK2 _ ?_; clear hK2 K2)
    refine sxf_nil (hK' _ ?_)
    refine AW.st (by simp [dNum, pRow, dS]; rfl) ?_
    clear hK' K'
    refine AW_ret ?_
    simp [D.le, D.le.go, takeMap, dNum, pRow, dS, pRow]
set_option maxHeartbeats 4000000 in
theorem pfail_spec (G : Glob) (t : List UInt8) (i : Nat) (ht : t.length < 2^60) (hi : i ≤ t.length) (e : Int) :
    MC Tryz.prog G [500] 31 [.ref 500 0 0, .d (dNum e)] (hlst (pRow t i 0 (-1))) (.d (.v (.pointer none))) (hlst (pRow t (skipB t i) e (skipB t i))) := by
  have hsk := pskip_spec G t i ht hi 0 (-1)
  generalize skipB t i = j at hsk ⊢
  refine MC.of_body (tyOf_good _) Tryz.func31 rfl rfl (rs := [.tmp 4]) Tryz.results31 (by simp [Tryz.ntmps31]) rfl fun X => ?_
  simp only [Tryz.ntmps31]
  refine AW_rg (tyOf_good _) [0, 1] [500] (notIn_ok rfl) fun K' hK' => ?_
  repeat (refine sxf_next fun K2 hK2 => ?_; simp [dNum, pRow, dS]; (repeat (refine ⟨by omega, ?_⟩)); refine hK2 _ ?_; clear hK2 K2)
  refine sxf_nil (hK' _ ?_)
  refine AW.st (by simp [dNum, pRow, dS]; rfl) ?_
  clear hK' K'
  refine AW_rg (tyOf_good _) [0, 1] [500] (notIn_ok rfl) fun K' hK' => ?_
  repeat (refine sxf_next fun K2 hK2 => ?_; simp [dNum, pRow, dS]; (repeat (refine ⟨by omega, ?_⟩)); refine hK2 _ ?_; clear hK2 K2)
  refine sxf_next fun K2 hK2 => ?_
  simp [dNum, pRow, dS]
  refine callK.mc (hsk) (by simp [dNum, pRow, dS]) (by simp [dNum, pRow, dS]) (by simp [dNum, pRow, dS]) (by simp [dNum, pRow, dS]) ?_
  simp [dNum, pRow, dS]
  refine hK2 _ ?_
  clear hK2 K2
  repeat (refine sxf_next fun K2 hK2 => ?_; simp [dNum, pRow, dS]; (repeat (refine ⟨by omega, ?_⟩)); refine hK2 _ ?_; clear hK2 K2)
  refine sxf_nil (hK' _ ?_)
  refine AW.st (by simp [dNum, pRow, dS]; rfl) ?_
  clear hK' K'
  refine AW_then fun K1 hK1 => ?_
  refine AW_rg (tyOf_good _) [0, 1, 12] [500] (notIn_ok rfl) fun K' hK' => ?_
  repeat (refine sxf_next fun K2 hK2 => ?_; simp [dNum, pRow, dS]; (repeat (refine ⟨by omega, ?_⟩)); refine hK2 _ ?_; clear hK2 K2)
  refine sxf_nil (hK' _ ?_)
  refine AW.st (by simp [dNum, pRow, dS]; rfl) ?_
  clear hK' K'
  refine AW_cond true rfl (fun _ => ?_) (fun h => by cases h)
  refine AW_re (tyOf_good _) fun K' hK' => ?_
  repeat (refine sxf_next fun K2 hK2 => ?_; simp [dNum, pRow, dS]; (repeat (refine ⟨by omega, ?_⟩)); refine hK2 _ ?_; clear hK2 K2)
  refine sxf_nil (hK' _ ?_)
  clear hK' K'
  refine hK1 _ (AW.norm [] [500] (notIn_ok rfl) (AW.st (by simp [dNum, pRow, dS]; rfl) ?_))
  refine AW_rg (tyOf_good _) [4] [500] (notIn_ok rfl) fun K' hK' => ?_
  repeat (refine sxf_next fun K2 hK2 => ?_; simp [dNum, pRow, dS]; (repeat (refine ⟨by omega, ?_⟩)); refine hK2 _ ?_; clear hK2 K2)
  refine sxf_nil (hK' _ ?_)
  refine AW.st (by simp [dNum, pRow, dS]; rfl) ?_
  clear hK' K'
  refine AW_ret ?_
  simp [D.le, D.le.go, takeMap, dNum, pRow, dS, pRow]
/-! ### Whether a byte is a sign -/
def set9 : List UInt8 := [32, 38, 124, 33, 94, 126, 40, 41, 61]
theorem isSgn9 (c : UInt8) : isSgn c = set9.contains c := rfl
theorem enc_big {c : UInt8} (h : 128 ≤ c.toNat) : ∃ b0 b1 : UInt8, Utf8.encode (c.toNat : Int) = bs [b0, b1] ∧ 128 ≤ b1.toNat := by
  have hv : Utf8.valid (c.toNat : Int) = true := by
    have hc := c.toNat_lt
    simp [Utf8.valid]
    omega
  refine ⟨UInt8.ofNat (0xC0 + c.toNat / 64), UInt8.ofNat (0x80 + c.toNat % 64), ?_, ?_⟩
  · have hc := c.toNat_lt
    unfold Utf8.encode
    rw [hv]
    simp only [if_true, Int.toNat_natCast]
    rw [if_neg (by omega), if_pos (by omega)]
    rfl
  · simp
    omega
theorem vrune_spec (G : Glob) (n : Nat) (h : n < 256) : PureC Tryz.prog G 85 [.v (.int .i32 n)] (.v (.bool true)) := by
  have h1 : (n : Int) < 55296 := by omega
  refine PureC.of_body (tyOf_good _) Tryz.func85 rfl rfl (rs := [.tmp 2]) Tryz.results85 (by simp [Tryz.ntmps85]) fun X => ?_
  simp only [Tryz.ntmps85, List.map]
  refine AW_rg (tyOf_good _) [0] [] (fun _ _ => trivial) fun K' hK' => ?_
  repeat (refine sxf_next fun K2 hK2 => ?_; simp [dNum, dS]; (repeat (refine ⟨by omega, ?_⟩)); refine hK2 _ ?_; clear hK2 K2)
  refine sxf_nil (hK' _ ?_)
  refine AW.st (by simp [dNum, dS]; rfl) ?_
  clear hK' K'
  refine AW_then fun K1 hK1 => ?_
  refine AW_block ?_
  refine AW_rg (tyOf_good _) [0, 3] [] (fun _ _ => trivial) fun K' hK' => ?_
  repeat (refine sxf_next fun K2 hK2 => ?_; simp [dNum, dS, h1]; (repeat (refine ⟨by omega, ?_⟩)); refine hK2 _ ?_; clear hK2 K2)
  refine sxf_nil (hK' _ ?_)
  refine AW.st (by simp [dNum, dS, h1]; rfl) ?_
  clear hK' K'
  refine AW_cond true rfl (fun _ => ?_) (fun h => by cases h)
  refine AW_rg (tyOf_good _) [2] [] (fun _ _ => trivial) fun K' hK' => ?_
  repeat (refine sxf_next fun K2 hK2 => ?_; simp [dNum, dS]; (repeat (refine ⟨by omega, ?_⟩)); refine hK2 _ ?_; clear hK2 K2)
  refine sxf_nil (hK' _ ?_)
  refine AW.st (by simp [dNum, dS]; rfl) ?_
  clear hK' K'
  refine AW_ret ?_
  simp [D.le, D.le.go, takeMap, dNum, dS]
set_option maxHeartbeats 4000000 in
theorem irune_big (G : Glob) (c : UInt8) (h : 128 ≤ c.toNat) : PureC Tryz.prog G 79 [dS set9, .v (.int .i32 c.toNat)] (dNum (-1)) := by
  have hc := c.toNat_lt
  obtain ⟨b0, b1, he, hb⟩ := enc_big h
  have h1 : ¬ (c.toNat : Int) < 128 := by omega
  have h2 : ¬ (c.toNat : Int) = 65533 := by omega
  have hv := vrune_spec G c.toNat hc
  have hb2 : ¬ (38 : Int) = (b1.toNat : Int) := by omega
  have hix := ixb_spec G [124, 33, 94, 126, 40, 41, 61] b1
  have hneg : Lib.indexByte [124, 33, 94, 126, 40, 41, 61] b1 < 0 := (ixb_neg _ _).2 (by
    intro hm
    have : ∀ x ∈ ([124, 33, 94, 126, 40, 41, 61] : List UInt8), x.toNat < 128 := by decide
    have := this _ hm
    omega)
  have hsl : (bs set9).extract 2 9 = bs [124, 33, 94, 126, 40, 41, 61] := rfl
  refine PureC.of_body (tyOf_good _) Tryz.func79 rfl rfl (rs := [.tmp 4]) Tryz.results79 (by simp [Tryz.ntmps79]) fun X => ?_
  simp only [Tryz.ntmps79, List.map]
  refine AW_rg (tyOf_good _) [0, 1] [] (fun _ _ => trivial) fun K' hK' => ?_
  repeat (refine sxf_next fun K2 hK2 => ?_; simp [dNum, dS]; (repeat (refine ⟨by omega, ?_⟩)); refine hK2 _ ?_; clear hK2 K2)
  refine sxf_nil (hK' _ ?_)
  refine AW.st (by simp [dNum, dS]; rfl) ?_
  clear hK' K'
  refine AW_block ?_
  refine AW_rg (tyOf_good _) [0, 1, 160] [] (fun _ _ => trivial) fun K' hK' => ?_
  repeat (refine sxf_next fun K2 hK2 => ?_; simp [dNum, dS, h1]; (repeat (refine ⟨by omega, ?_⟩)); refine hK2 _ ?_; clear hK2 K2)
  refine sxf_nil (hK' _ ?_)
  refine AW.st (by simp [dNum, dS, h1]; rfl) ?_
  clear hK' K'
  refine AW_cond false rfl (fun h => by cases h) (fun _ => ?_)
  refine AW_rg (tyOf_good _) [0, 1, 171] [] (fun _ _ => trivial) fun K' hK' => ?_
  repeat (refine sxf_next fun K2 hK2 => ?_; simp [dNum, dS, h2]; (repeat (refine ⟨by omega, ?_⟩)); refine hK2 _ ?_; clear hK2 K2)
  refine sxf_nil (hK' _ ?_)
  refine AW.st (by simp [dNum, dS, h2]; rfl) ?_
  clear hK' K'
  refine AW_cond false rfl (fun h => by cases h) (fun _ => ?_)
  refine AW_rg (tyOf_good _) [0, 1, 183] [] (fun _ _ => trivial) fun K' hK' => ?_
  repeat (refine sxf_next fun K2 hK2 => ?_; simp [dNum, dS]; (repeat (refine ⟨by omega, ?_⟩)); refine hK2 _ ?_; clear hK2 K2)
  refine sxf_next fun K2 hK2 => ?_
  simp [dNum, dS]
  refine callK.data (hv) (by simp; rfl) (by first | exact D.leGo_refl _ | simp [takeMap, List.map_map, Function.comp_def, D.le, D.le.go, D.le_refl, D.leGo_refl, dNum, dS]) ?_
  refine hK2 _ ?_
  clear hK2 K2
  simp only [putd, upd_lst]
  repeat (refine sxf_next fun K2 hK2 => ?_; simp [dNum, dS]; (repeat (refine ⟨by omega, ?_⟩)); refine hK2 _ ?_; clear hK2 K2)
  refine sxf_nil (hK' _ ?_)
  refine AW.st (by simp [dNum, dS]; rfl) ?_
  clear hK' K'
  refine AW_cond false rfl (fun h => by cases h) (fun _ => ?_)
  refine AW_scope ?_
  refine AW_rg (tyOf_good _) [0, 7] [] (fun _ _ => trivial) fun K' hK' => ?_
  repeat (refine sxf_next fun K2 hK2 => ?_; simp [dNum, dS, he]; (repeat (refine ⟨by omega, ?_⟩)); refine hK2 _ ?_; clear hK2 K2)
  refine sxf_nil (hK' _ ?_)
  refine AW.st (by simp [dNum, dS, he]; rfl) ?_
  clear hK' K'
  refine AW_rg (tyOf_good _) [0, 7, 8] [] (fun _ _ => trivial) fun K' hK' => ?_
  repeat (refine sxf_next fun K2 hK2 => ?_; simp [dNum, dS, bs_size]; (repeat (refine ⟨by omega, ?_⟩)); refine hK2 _ ?_; clear hK2 K2)
  refine sxf_nil (hK' _ ?_)
  refine AW.st (by simp [dNum, dS, bs_size]; rfl) ?_
  clear hK' K'
  refine AW_rg (tyOf_good _) [0, 7, 8, 9] [] (fun _ _ => trivial) fun K' hK' => ?_
  repeat (refine sxf_next fun K2 hK2 => ?_; simp [dNum, dS]; (repeat (refine ⟨by omega, ?_⟩)); refine hK2 _ ?_; clear hK2 K2)
  refine sxf_nil (hK' _ ?_)
  refine AW.st (by simp [dNum, dS]; rfl) ?_
  clear hK' K'
  refine AW_rg (tyOf_good _) [0, 7, 8, 9] [] (fun _ _ => trivial) fun K' hK' => ?_
  repeat (refine sxf_next fun K2 hK2 => ?_; simp [dNum, dS]; (repeat (refine ⟨by omega, ?_⟩)); refine hK2 _ ?_; clear hK2 K2)
  refine sxf_nil (hK' _ ?_)
  refine AW.st (by simp [dNum, dS]; rfl) ?_
  clear hK' K'
  refine AW_then fun K3 hK3 => ?_
  refine AW_for (S := Nat) (fun n => True) (fun n => ⟨lst [(0, .d (dS set9)), (7, .d (dS [b0, b1])), (8, int 1), (9, int 1)], hlst []⟩) (fun n => 0) 0 ?_ trivial ?_
  · refine Imp.to' (fun _ _ => trivial) (by simp [dNum, dS]) (by simp [dNum, dS])
  · intro n hn
    refine AW_then fun K4 hK4 => ?_
    refine AW_rg (tyOf_good _) [0, 7, 8, 9, 26] [] (fun _ _ => trivial) fun K' hK' => ?_
    repeat (refine sxf_next fun K2 hK2 => ?_; simp [dNum, dS, bs_size, set9]; (repeat (refine ⟨by omega, ?_⟩)); refine hK2 _ ?_; clear hK2 K2)
    refine sxf_nil (hK' _ ?_)
    refine AW.st (by simp [dNum, dS, bs_size, set9]; rfl) ?_
    clear hK' K'
    refine AW_cond true rfl (fun _ => ?_) (fun h => by cases h)
    refine AW_skip (hK4 _ ?_)
    refine AW_block ?_
    refine AW_scope ?_
    refine AW_then fun K5 hK5 => ?_
    refine AW_rd (tyOf_good _) (by kernel_rfl) [0, 7, 8, 9, 33] [] (fun _ _ => trivial) (by kernel_rfl) fun K' hK' => ?_
    repeat (refine sxd_next fun K2 hK2 => ?_; simp [dNum, dS, bs_size, bs_data, set9, hb2]; (repeat (refine ⟨by omega, ?_⟩)); refine hK2 _ ?_; clear hK2 K2)
    refine sxd_nil (hK' _ ?_)
    refine AW.st (by simp [dNum, dS, bs_size, bs_data, set9, hb2]; rfl) ?_
    clear hK' K'
    refine AW_cond true rfl (fun _ => ?_) (fun h => by cases h)
    refine AW_rd (tyOf_good _) (by kernel_rfl) [0, 7, 8, 9, 11] [] (fun _ _ => trivial) (by kernel_rfl) fun K' hK' => ?_
    repeat (refine sxd_next fun K2 hK2 => ?_; simp [dNum, dS, bs_size, bs_data, set9, hsl]; (repeat (refine ⟨by omega, ?_⟩)); refine hK2 _ ?_; clear hK2 K2)
    refine sxd_next fun K2 hK2 => ?_
    simp [dNum, dS, bs_size, bs_data, set9, hsl]
    refine callQ.data (hix) (by simp; rfl) (by simp; rfl) (by first | exact D.leGo_refl _ | simp [takeMap, List.map_map, Function.comp_def, D.le, D.le.go, D.le_refl, D.leGo_refl, dNum, dS, bs_size, bs_data, set9, hsl]) ?_
    refine hK2 _ ?_
    clear hK2 K2
    simp only [putd, upd_lst]
    repeat (refine sxd_next fun K2 hK2 => ?_; simp [dNum, dS, bs_size, bs_data, set9, hsl]; (repeat (refine ⟨by omega, ?_⟩)); refine hK2 _ ?_; clear hK2 K2)
    refine sxd_nil (hK' _ ?_)
    refine AW.st (by simp [dNum, dS, bs_size, bs_data, set9, hsl]; rfl) ?_
    clear hK' K'
    refine AW_then fun K6 hK6 => ?_
    refine AW_rg (tyOf_good _) [0, 7, 8, 9, 11, 43] [] (fun _ _ => trivial) fun K' hK' => ?_
    repeat (refine sxf_next fun K2 hK2 => ?_; simp [dNum, dS, hneg]; (repeat (refine ⟨by omega, ?_⟩)); refine hK2 _ ?_; clear hK2 K2)
    refine sxf_nil (hK' _ ?_)
    refine AW.st (by simp [dNum, dS, hneg]; rfl) ?_
    clear hK' K'
    refine AW_cond true rfl (fun _ => ?_) (fun h => by cases h)
    refine AW_rg (tyOf_good _) [4] [] (fun _ _ => trivial) fun K' hK' => ?_
    repeat (refine sxf_next fun K2 hK2 => ?_; simp [dNum, dS]; (repeat (refine ⟨by omega, ?_⟩)); refine hK2 _ ?_; clear hK2 K2)
    refine sxf_nil (hK' _ ?_)
    refine AW.st (by simp [dNum, dS]; rfl) ?_
    clear hK' K'
    refine AW_ret ?_
    simp [D.le, D.le.go, takeMap, dNum, dS]
theorem crune_spec (G : Glob) (c : UInt8) : PureC Tryz.prog G 66 [dS set9, .v (.int .i32 c.toNat)] (.v (.bool (isSgn c))) := by
  by_cases h : c.toNat < 128
  · refine PureC.of_calls (Fun.of Tryz.func66 rfl rfl) fun X w vs hsz hrd hgl => ?_
    obtain ⟨a, b, rfl⟩ : ∃ a b, vs = #[a, b] := by
      match vs, hsz with
      | ⟨[a, b]⟩, _ => exact ⟨a, b, rfl⟩
    have ha := (hrd 0 a _ rfl rfl).scalar
    have hb := (hrd 1 b _ rfl rfl).scalar
    subst ha hb
    have hcon := Any.strings_ContainsRune_ascii (P := Tryz.prog) (ρ := Tryz.lays151_ren) { Tryz.lays151 with } (bs set9) c.toNat w (by omega) (by omega)
    rw [show (c.toNat : Int).toNat.toUInt8 = c by simp] at hcon
    refine hcon.mono fun e w' ⟨he, hw⟩ => ⟨_, he, by rw [hw]; exact Grew.refl _, ?_⟩
    have hbb : decide (0 ≤ Lib.indexByte (bs set9).data.toList c) = isSgn c := by
      rw [isSgn9, Bool.eq_iff_iff, decide_eq_true_eq, List.contains_iff_mem]
      have := ixb_neg set9 c
      have e : (bs set9).data.toList = set9 := rfl
      rw [e]
      constructor
      · intro h0
        apply Classical.byContradiction
        intro hn
        have := this.2 hn
        omega
      · intro hm
        apply Classical.byContradiction
        intro hn
        exact this.1 (by omega) hm
    rw [hbb]
    exact .v _
  · have hbig := irune_big G c (by omega)
    have hno : isSgn c = false := by
      have h : ∀ n : Fin 256, 128 ≤ n.val → isSgn (UInt8.ofNat n) = false := by decide +kernel
      have := h ⟨c.toNat, c.toNat_lt⟩ (by simp; omega)
      simpa using this
    rw [hno]
    refine PureC.of_body (tyOf_good _) Tryz.func66 rfl rfl (rs := [.tmp 4]) Tryz.results66 (by simp [Tryz.ntmps66]) fun X => ?_
    simp only [Tryz.ntmps66, List.map]
    refine AW_rg (tyOf_good _) [0, 1] [] (fun _ _ => trivial) fun K' hK' => ?_
    repeat (refine sxf_next fun K2 hK2 => ?_; simp [dNum, dS]; (repeat (refine ⟨by omega, ?_⟩)); refine hK2 _ ?_; clear hK2 K2)
    refine sxf_nil (hK' _ ?_)
    refine AW.st (by simp [dNum, dS]; rfl) ?_
    clear hK' K'
    refine AW_rg (tyOf_good _) [4] [] (fun _ _ => trivial) fun K' hK' => ?_
    repeat (refine sxf_next fun K2 hK2 => ?_; simp [dNum, dS]; (repeat (refine ⟨by omega, ?_⟩)); refine hK2 _ ?_; clear hK2 K2)
    refine sxf_next fun K2 hK2 => ?_
    simp [dNum, dS]
    refine callK.data (hbig) (by simp; rfl) (by first | exact D.leGo_refl _ | simp [takeMap, List.map_map, Function.comp_def, D.le, D.le.go, D.le_refl, D.leGo_refl, dNum, dS]) ?_
    refine hK2 _ ?_
    clear hK2 K2
    simp only [putd, upd_lst]
    repeat (refine sxf_next fun K2 hK2 => ?_; simp [dNum, dS]; (repeat (refine ⟨by omega, ?_⟩)); refine hK2 _ ?_; clear hK2 K2)
    refine sxf_nil (hK' _ ?_)
    refine AW.st (by simp [dNum, dS]; rfl) ?_
    clear hK' K'
    refine AW_ret ?_
    simp [D.le, D.le.go, takeMap, dNum, dS]
end Go.Proofs.YtfehigldhedkgaaGreatDoor

/-
  The document's reader of expressions: a name.
-/
namespace Go.Proofs.YtfehigldhedkgaaGreatDoor
set_option linter.unusedSimpArgs false
set_option linter.unusedVariables false
open Go.Av

def eR {α : Type} : Rs α → Int
  | .ok _ _ => 0
  | .err c _ _ => c
def pR {α : Type} : Rs α → Int
  | .ok _ _ => -1
  | .err _ p _ => p
theorem u8_wrap (c : UInt8) : IntKind.i32.wrap (c.toNat : Int) = (c.toNat : Int) := by
  have h : ∀ n : Fin 256, IntKind.i32.wrap ((UInt8.ofNat n.val).toNat : Int) = ((UInt8.ofNat n.val).toNat : Int) := by decide +kernel
  have := h ⟨c.toNat, c.toNat_lt⟩
  simpa using this
theorem wrap48 : IntKind.i32.wrap 48 = 48 := by decide +kernel
theorem wrap49 : IntKind.i32.wrap 49 = 49 := by decide +kernel
theorem set9_lit : (⟨#[32, 38, 124, 33, 94, 126, 40, 41, 61]⟩ : ByteArray) = bs set9 := rfl

set_option maxHeartbeats 8000000 in
theorem pword_spec (G : Glob) (t : List UInt8) (q i : Nat) (ht : t.length < 2^60) (hi : i ≤ t.length) :
    MC Tryz.prog G [500] 51 [.ref 500 0 0] (hlst (pRow t i 0 (-1))) (.d (dS (wordS t (skipB t i)))) (hlst (pRow t (posR (wordR t q i)) (eR (wordR t q i)) (pR (wordR t q i)))) := by
  have hsk := pskip_spec G t i ht hi 0 (-1)
  have htop := skipB_top hi
  have hidem := skipB_idem hi
  unfold wordR
  generalize skipB t i = j at hsk htop hidem ⊢
  have hf3 := pfail_spec G t j ht htop 3
  have hf5 := pfail_spec G t j ht htop 5
  rw [hidem] at hf3 hf5
  have hel := wEnd_le t j
  have het := wEnd_top htop
  have hws : (t.drop j).take (wEnd t j - j) = wordS t j := rfl
  have hslen : (wordS t j).length < 2^60 := by
    rw [← hws, List.length_take, List.length_drop]; omega
  have hname := ncheck_spec G (wordS t j) hslen
  rw [← name_same] at hname
  refine MC.of_body (tyOf_good _) Tryz.func51 rfl rfl (rs := [.tmp 2]) Tryz.results51 (by simp [Tryz.ntmps51]) rfl fun X => ?_
  simp only [Tryz.ntmps51]
  refine AW_rg (tyOf_good _) [0] [500] (notIn_ok rfl) fun K' hK' => ?_
  repeat (refine sxf_next fun K2 hK2 => ?_; simp [dNum, pRow, dS]; (repeat (refine ⟨by omega, ?_⟩)); refine hK2 _ ?_; clear hK2 K2)
  refine sxf_nil (hK' _ ?_)
  refine AW.st (by simp [dNum, pRow, dS]; rfl) ?_
  clear hK' K'
  refine AW_rg (tyOf_good _) [0] [500] (notIn_ok rfl) fun K' hK' => ?_
  repeat (refine sxf_next fun K2 hK2 => ?_; simp [dNum, pRow, dS]; (repeat (refine ⟨by omega, ?_⟩)); refine hK2 _ ?_; clear hK2 K2)
  refine sxf_next fun K2 hK2 => ?_
  simp [dNum, pRow, dS]
  refine callK.mc (hsk) (by simp [dNum, pRow, dS]) (by simp [dNum, pRow, dS]) (by simp [dNum, pRow, dS]) (by simp [dNum, pRow, dS]) ?_
  simp [dNum, pRow, dS]
  refine hK2 _ ?_
  clear hK2 K2
  repeat (refine sxf_next fun K2 hK2 => ?_; simp [dNum, pRow, dS]; (repeat (refine ⟨by omega, ?_⟩)); refine hK2 _ ?_; clear hK2 K2)
  refine sxf_nil (hK' _ ?_)
  refine AW.st (by simp [dNum, pRow, dS]; rfl) ?_
  clear hK' K'
  refine AW_rg (tyOf_good _) [0, 3] [500] (notIn_ok rfl) fun K' hK' => ?_
  repeat (refine sxf_next fun K2 hK2 => ?_; simp [dNum, pRow, dS]; (repeat (refine ⟨by omega, ?_⟩)); refine hK2 _ ?_; clear hK2 K2)
  refine sxf_nil (hK' _ ?_)
  refine AW.st (by simp [dNum, pRow, dS]; rfl) ?_
  clear hK' K'
  refine AW_then fun K1 hK1 => ?_
  refine AW_for (S := Nat) (fun k => j ≤ k ∧ k ≤ t.length ∧ AtW t j k) (fun k => ⟨lst [(0, .ref 500 0 0), (3, int k)], hlst [(500, .box 70 [.d (dS t), int j, int 0, int (-1)])]⟩) (fun k => t.length - k) j ?_ ⟨Nat.le_refl _, htop, .inl rfl⟩ ?_
  · refine Imp.to' (notIn_ok rfl) (by simp [dNum, pRow, dS]) (by simp [dNum, pRow, dS])
  · rintro k ⟨hjk, hk, hat⟩
    refine AW_then fun K2 hK2 => ?_
    refine (fun hgo hstop => ?_) (fun (σ : St) (hn : AtW t j (k + 1)) (hkl : k < t.length) himp => hK2 σ (AW.imp (τ := ⟨lst [(0, .ref 500 0 0), (3, int k)], hlst [(500, .box 70 [.d (dS t), int j, int 0, int (-1)])]⟩) himp ?_))
      (fun (σ : St) (he : k = wEnd t j) himp => hK1 σ (AW.imp (τ := ⟨lst [(0, .ref 500 0 0), (3, int k)], hlst [(500, .box 70 [.d (dS t), int j, int 0, int (-1)])]⟩) himp ?_))
    · by_cases hkl : k < t.length
      · have hcr := crune_spec G t[k]
        have hm11 := mem11 t[k]
        cases hsg : isSgn t[k] with
        | true =>
          rw [hsg] at hcr hm11
          refine AW_rg (tyOf_good _) [0, 3, 54] [500] (notIn_ok rfl) fun K' hK' => ?_
          repeat (refine sxf_next fun K2 hK2 => ?_; simp [dNum, pRow, dS, bs_size, bs_data, set9_lit, u8_wrap, hkl]; (repeat (refine ⟨by omega, ?_⟩)); refine hK2 _ ?_; clear hK2 K2)
          refine sxf_next fun K2 hK2 => ?_
          simp [dNum, pRow, dS, bs_size, bs_data, set9_lit, u8_wrap, hkl]
          refine callK.data (hcr) (by simp; rfl) (by first | exact D.leGo_refl _ | simp [takeMap, List.map_map, Function.comp_def, D.le, D.le.go, D.le_refl, D.leGo_refl, dNum, pRow, dS, bs_size, bs_data, set9_lit, u8_wrap, hkl]) ?_
          refine hK2 _ ?_
          clear hK2 K2
          simp only [putd, upd_lst]
          repeat (refine sxf_next fun K2 hK2 => ?_; simp [dNum, pRow, dS, bs_size, bs_data, set9_lit, u8_wrap, hkl]; (repeat (refine ⟨by omega, ?_⟩)); refine hK2 _ ?_; clear hK2 K2)
          refine sxf_nil (hK' _ ?_)
          refine AW.st (by simp [dNum, pRow, dS, bs_size, bs_data, set9_lit, u8_wrap, hkl]; rfl) ?_
          clear hK' K'
          refine AW_cond false rfl (fun h => by cases h) (fun _ => ?_)
          refine AW_exit (hstop _ (atW_exit hat hk fun _ => ⟨hm11.2 (.inl rfl), fun _ => ⟨fun e => ?_, fun e => ?_⟩⟩) ?_)
          · rw [e] at hsg; exact absurd hsg (by decide)
          · rw [e] at hsg; exact absurd hsg (by decide)
          · refine Imp.to' (notIn_ok rfl) (by simp [dNum, pRow, dS]) (by simp [dNum, pRow, dS])
        | false =>
          rw [hsg] at hcr hm11
          by_cases hjk' : j < k
          · have hjk2 : (j : Int) < (k : Int) := by omega
            have hgo2 : t[k] ∉ set11 ∨ (j < k ∧ (t[k] = 48 ∨ t[k] = 49)) := by
              by_cases hm : t[k] ∈ set11
              · rcases hm11.1 hm with h | h | h
                · cases h
                · exact .inr ⟨hjk', .inl h⟩
                · exact .inr ⟨hjk', .inr h⟩
              · exact .inl hm
            refine AW_rg (tyOf_good _) [0, 3, 54] [500] (notIn_ok rfl) fun K' hK' => ?_
            repeat (refine sxf_next fun K2 hK2 => ?_; simp [dNum, pRow, dS, bs_size, bs_data, set9_lit, u8_wrap, hkl, hjk2, hjk']; (repeat (refine ⟨by omega, ?_⟩)); refine hK2 _ ?_; clear hK2 K2)
            refine sxf_next fun K2 hK2 => ?_
            simp [dNum, pRow, dS, bs_size, bs_data, set9_lit, u8_wrap, hkl, hjk2, hjk']
            refine callK.data (hcr) (by simp; rfl) (by first | exact D.leGo_refl _ | simp [takeMap, List.map_map, Function.comp_def, D.le, D.le.go, D.le_refl, D.leGo_refl, dNum, pRow, dS, bs_size, bs_data, set9_lit, u8_wrap, hkl, hjk2, hjk']) ?_
            refine hK2 _ ?_
            clear hK2 K2
            simp only [putd, upd_lst]
            repeat (refine sxf_next fun K2 hK2 => ?_; simp [dNum, pRow, dS, bs_size, bs_data, set9_lit, u8_wrap, hkl, hjk2, hjk']; (repeat (refine ⟨by omega, ?_⟩)); refine hK2 _ ?_; clear hK2 K2)
            refine sxf_nil (hK' _ ?_)
            refine AW.st (by simp [dNum, pRow, dS, bs_size, bs_data, set9_lit, u8_wrap, hkl, hjk2, hjk']; rfl) ?_
            clear hK' K'
            refine AW_cond true rfl (fun _ => ?_) (fun h => by cases h)
            refine AW_skip (hgo _ (atW_next hat hkl hgo2) hkl ?_)
            refine Imp.to' (notIn_ok rfl) (by simp [dNum, pRow, dS]) (by simp [dNum, pRow, dS])
          · have hjk2 : ¬ (j : Int) < (k : Int) := by omega
            by_cases h48 : ((t[k]).toNat : Int) = 48
            · have hc : t[k] = 48 := (u8_eq _ 48 (by decide)).1 h48
              rw [h48] at hcr
              refine AW_rg (tyOf_good _) [0, 3, 54] [500] (notIn_ok rfl) fun K' hK' => ?_
              repeat (refine sxf_next fun K2 hK2 => ?_; simp [dNum, pRow, dS, bs_size, bs_data, set9_lit, wrap48, hkl, hjk2, hjk', h48]; (repeat (refine ⟨by omega, ?_⟩)); refine hK2 _ ?_; clear hK2 K2)
              refine sxf_next fun K2 hK2 => ?_
              simp [dNum, pRow, dS, bs_size, bs_data, set9_lit, wrap48, hkl, hjk2, hjk', h48]
              refine callK.data (hcr) (by simp; rfl) (by first | exact D.leGo_refl _ | simp [takeMap, List.map_map, Function.comp_def, D.le, D.le.go, D.le_refl, D.leGo_refl, dNum, pRow, dS, bs_size, bs_data, set9_lit, wrap48, hkl, hjk2, hjk', h48]) ?_
              refine hK2 _ ?_
              clear hK2 K2
              simp only [putd, upd_lst]
              repeat (refine sxf_next fun K2 hK2 => ?_; simp [dNum, pRow, dS, bs_size, bs_data, set9_lit, wrap48, hkl, hjk2, hjk', h48]; (repeat (refine ⟨by omega, ?_⟩)); refine hK2 _ ?_; clear hK2 K2)
              refine sxf_nil (hK' _ ?_)
              refine AW.st (by simp [dNum, pRow, dS, bs_size, bs_data, set9_lit, wrap48, hkl, hjk2, hjk', h48]; rfl) ?_
              clear hK' K'
              refine AW_cond false rfl (fun h => by cases h) (fun _ => ?_)
              refine AW_exit (hstop _ (atW_exit hat hk fun _ => ⟨hm11.2 (.inr (.inl hc)), fun h => absurd h hjk'⟩) ?_)
              refine Imp.to' (notIn_ok rfl) (by simp [dNum, pRow, dS]) (by simp [dNum, pRow, dS])
            · by_cases h49 : ((t[k]).toNat : Int) = 49
              · have hc : t[k] = 49 := (u8_eq _ 49 (by decide)).1 h49
                rw [h49] at hcr
                refine AW_rg (tyOf_good _) [0, 3, 54] [500] (notIn_ok rfl) fun K' hK' => ?_
                repeat (refine sxf_next fun K2 hK2 => ?_; simp [dNum, pRow, dS, bs_size, bs_data, set9_lit, wrap49, hkl, hjk2, hjk', h48, h49]; (repeat (refine ⟨by omega, ?_⟩)); refine hK2 _ ?_; clear hK2 K2)
                refine sxf_next fun K2 hK2 => ?_
                simp [dNum, pRow, dS, bs_size, bs_data, set9_lit, wrap49, hkl, hjk2, hjk', h48, h49]
                refine callK.data (hcr) (by simp; rfl) (by first | exact D.leGo_refl _ | simp [takeMap, List.map_map, Function.comp_def, D.le, D.le.go, D.le_refl, D.leGo_refl, dNum, pRow, dS, bs_size, bs_data, set9_lit, wrap49, hkl, hjk2, hjk', h48, h49]) ?_
                refine hK2 _ ?_
                clear hK2 K2
                simp only [putd, upd_lst]
                repeat (refine sxf_next fun K2 hK2 => ?_; simp [dNum, pRow, dS, bs_size, bs_data, set9_lit, wrap49, hkl, hjk2, hjk', h48, h49]; (repeat (refine ⟨by omega, ?_⟩)); refine hK2 _ ?_; clear hK2 K2)
                refine sxf_nil (hK' _ ?_)
                refine AW.st (by simp [dNum, pRow, dS, bs_size, bs_data, set9_lit, wrap49, hkl, hjk2, hjk', h48, h49]; rfl) ?_
                clear hK' K'
                refine AW_cond false rfl (fun h => by cases h) (fun _ => ?_)
                refine AW_exit (hstop _ (atW_exit hat hk fun _ => ⟨hm11.2 (.inr (.inr hc)), fun h => absurd h hjk'⟩) ?_)
                refine Imp.to' (notIn_ok rfl) (by simp [dNum, pRow, dS]) (by simp [dNum, pRow, dS])
              · have hm : t[k] ∉ set11 := fun hm => by
                  rcases hm11.1 hm with h | h | h
                  · cases h
                  · exact h48 (by rw [h]; rfl)
                  · exact h49 (by rw [h]; rfl)
                refine AW_rg (tyOf_good _) [0, 3, 54] [500] (notIn_ok rfl) fun K' hK' => ?_
                repeat (refine sxf_next fun K2 hK2 => ?_; simp [dNum, pRow, dS, bs_size, bs_data, set9_lit, u8_wrap, hkl, hjk2, hjk', h48, h49]; (repeat (refine ⟨by omega, ?_⟩)); refine hK2 _ ?_; clear hK2 K2)
                refine sxf_next fun K2 hK2 => ?_
                simp [dNum, pRow, dS, bs_size, bs_data, set9_lit, u8_wrap, hkl, hjk2, hjk', h48, h49]
                refine callK.data (hcr) (by simp; rfl) (by first | exact D.leGo_refl _ | simp [takeMap, List.map_map, Function.comp_def, D.le, D.le.go, D.le_refl, D.leGo_refl, dNum, pRow, dS, bs_size, bs_data, set9_lit, u8_wrap, hkl, hjk2, hjk', h48, h49]) ?_
                refine hK2 _ ?_
                clear hK2 K2
                simp only [putd, upd_lst]
                repeat (refine sxf_next fun K2 hK2 => ?_; simp [dNum, pRow, dS, bs_size, bs_data, set9_lit, u8_wrap, hkl, hjk2, hjk', h48, h49]; (repeat (refine ⟨by omega, ?_⟩)); refine hK2 _ ?_; clear hK2 K2)
                refine sxf_nil (hK' _ ?_)
                refine AW.st (by simp [dNum, pRow, dS, bs_size, bs_data, set9_lit, u8_wrap, hkl, hjk2, hjk', h48, h49]; rfl) ?_
                clear hK' K'
                refine AW_cond true rfl (fun _ => ?_) (fun h => by cases h)
                refine AW_skip (hgo _ (atW_next hat hkl (.inl hm)) hkl ?_)
                refine Imp.to' (notIn_ok rfl) (by simp [dNum, pRow, dS]) (by simp [dNum, pRow, dS])
      · obtain rfl : k = t.length := by omega
        by_cases hjk' : j < t.length
        · have hjk2 : (j : Int) < (t.length : Int) := by omega
          refine AW_rg (tyOf_good _) [0, 3, 54] [500] (notIn_ok rfl) fun K' hK' => ?_
          repeat (refine sxf_next fun K2 hK2 => ?_; simp [dNum, pRow, dS, bs_size, bs_data, hjk2, hjk']; (repeat (refine ⟨by omega, ?_⟩)); refine hK2 _ ?_; clear hK2 K2)
          refine sxf_nil (hK' _ ?_)
          refine AW.st (by simp [dNum, pRow, dS, bs_size, bs_data, hjk2, hjk']; rfl) ?_
          clear hK' K'
          refine AW_cond false rfl (fun h => by cases h) (fun _ => ?_)
          refine AW_exit (hstop _ (atW_exit hat hk fun h => absurd h hkl) ?_)
          refine Imp.to' (notIn_ok rfl) (by simp [dNum, pRow, dS]) (by simp [dNum, pRow, dS])
        · have hjk2 : ¬ (j : Int) < (t.length : Int) := by omega
          refine AW_rg (tyOf_good _) [0, 3, 54] [500] (notIn_ok rfl) fun K' hK' => ?_
          repeat (refine sxf_next fun K2 hK2 => ?_; simp [dNum, pRow, dS, bs_size, bs_data, hjk2, hjk']; (repeat (refine ⟨by omega, ?_⟩)); refine hK2 _ ?_; clear hK2 K2)
          refine sxf_nil (hK' _ ?_)
          refine AW.st (by simp [dNum, pRow, dS, bs_size, bs_data, hjk2, hjk']; rfl) ?_
          clear hK' K'
          refine AW_cond false rfl (fun h => by cases h) (fun _ => ?_)
          refine AW_exit (hstop _ (atW_exit hat hk fun h => absurd h hkl) ?_)
          refine Imp.to' (notIn_ok rfl) (by simp [dNum, pRow, dS]) (by simp [dNum, pRow, dS])
    · refine AW_block ?_
      refine AW_re (tyOf_good _) fun K' hK' => ?_
      repeat (refine sxf_next fun K2 hK2 => ?_; simp [dNum, pRow, dS]; (repeat (refine ⟨by omega, ?_⟩)); refine hK2 _ ?_; clear hK2 K2)
      refine sxf_nil (hK' _ ?_)
      clear hK' K'
      try simp only [thn, inb]
      refine Again.mk (k + 1) ⟨by omega, by omega, hn⟩ (by omega) ?_
      refine Imp.to' (notIn_ok rfl) (by simp [dNum, pRow, dS]) (by simp [dNum, pRow, dS])
    · subst he
      clear hK1 hK2
      have hws2 : List.take (wEnd t j - j) (List.drop j t) = wordS t j := hws
      refine AW_rd (tyOf_good _) (by kernel_rfl) [0, 3, 4] [500] (notIn_ok rfl) (by kernel_rfl) fun K' hK' => ?_
      repeat (refine sxd_next fun K2 hK2 => ?_; simp [dNum, pRow, dS, bs_size, bs_extract, hel, het, hws2]; (repeat (refine ⟨by omega, ?_⟩)); refine hK2 _ ?_; clear hK2 K2)
      refine sxd_nil (hK' _ ?_)
      refine AW.st (by simp [dNum, pRow, dS, bs_size, bs_extract, hel, het, hws2]; rfl) ?_
      clear hK' K'
      refine AW_then fun K3 hK3 => ?_
      refine AW_block ?_
      by_cases hs : wordS t j = []
      · refine AW_rg (tyOf_good _) [0, 3, 4, 71] [500] (notIn_ok rfl) fun K' hK' => ?_
        repeat (refine sxf_next fun K2 hK2 => ?_; simp [dNum, pRow, dS, hs, bs_nil, bs_list, binS]; (repeat (refine ⟨by omega, ?_⟩)); refine hK2 _ ?_; clear hK2 K2)
        refine sxf_nil (hK' _ ?_)
        refine AW.st (by simp [dNum, pRow, dS, hs, bs_nil, bs_list, binS]; rfl) ?_
        clear hK' K'
        refine AW_cond true rfl (fun _ => ?_) (fun h => by cases h)
        refine AW_re (tyOf_good _) fun K' hK' => ?_
        repeat (refine sxf_next fun K2 hK2 => ?_; simp [dNum, pRow, dS]; (repeat (refine ⟨by omega, ?_⟩)); refine hK2 _ ?_; clear hK2 K2)
        refine sxf_next fun K2 hK2 => ?_
        simp [dNum, pRow, dS]
        refine callK.mc (hf3) (by simp [dNum, pRow, dS]) (by simp [dNum, pRow, dS]) (by simp [dNum, pRow, dS]) (by simp [dNum, pRow, dS]) ?_
        simp [dNum, pRow, dS]
        refine hK2 _ ?_
        clear hK2 K2
        repeat (refine sxf_next fun K2 hK2 => ?_; simp [dNum, pRow, dS]; (repeat (refine ⟨by omega, ?_⟩)); refine hK2 _ ?_; clear hK2 K2)
        refine sxf_nil (hK' _ ?_)
        clear hK' K'
        refine hK3 _ (AW.norm [4] [500] (notIn_ok rfl) (AW.st (by simp [dNum, pRow, dS]; rfl) ?_))
        refine AW_rg (tyOf_good _) [2] [500] (notIn_ok rfl) fun K' hK' => ?_
        repeat (refine sxf_next fun K2 hK2 => ?_; simp [dNum, pRow, dS]; (repeat (refine ⟨by omega, ?_⟩)); refine hK2 _ ?_; clear hK2 K2)
        refine sxf_nil (hK' _ ?_)
        refine AW.st (by simp [dNum, pRow, dS]; rfl) ?_
        clear hK' K'
        refine AW_ret ?_
        simp [D.le, D.le.go, takeMap, dNum, pRow, dS, pRow, posR, eR, pR, hs, bs_nil]
      · have hse : (wordS t j == []) = false := by simpa using hs
        have hse2 : (wordS t j).isEmpty = false := by rw [List.isEmpty_eq_false_iff]; exact hs
        refine AW_rg (tyOf_good _) [0, 3, 4, 71] [500] (notIn_ok rfl) fun K' hK' => ?_
        repeat (refine sxf_next fun K2 hK2 => ?_; simp [dNum, pRow, dS, bs_nil, bs_list, binS, hs, hse, hse2]; (repeat (refine ⟨by omega, ?_⟩)); refine hK2 _ ?_; clear hK2 K2)
        refine sxf_nil (hK' _ ?_)
        refine AW.st (by simp [dNum, pRow, dS, bs_nil, bs_list, binS, hs, hse, hse2]; rfl) ?_
        clear hK' K'
        refine AW_cond false rfl (fun h => by cases h) (fun _ => ?_)
        cases hn : nameF (wordS t j) with
        | false =>
          rw [hn] at hname
          refine AW_rg (tyOf_good _) [0, 3, 4, 76] [500] (notIn_ok rfl) fun K' hK' => ?_
          repeat (refine sxf_next fun K2 hK2 => ?_; simp [dNum, pRow, dS]; (repeat (refine ⟨by omega, ?_⟩)); refine hK2 _ ?_; clear hK2 K2)
          refine sxf_next fun K2 hK2 => ?_
          simp [dNum, pRow, dS]
          refine callK.data (hname) (by simp; rfl) (by first | exact D.leGo_refl _ | simp [takeMap, List.map_map, Function.comp_def, D.le, D.le.go, D.le_refl, D.leGo_refl, dNum, pRow, dS]) ?_
          refine hK2 _ ?_
          clear hK2 K2
          simp only [putd, upd_lst]
          repeat (refine sxf_next fun K2 hK2 => ?_; simp [dNum, pRow, dS]; (repeat (refine ⟨by omega, ?_⟩)); refine hK2 _ ?_; clear hK2 K2)
          refine sxf_nil (hK' _ ?_)
          refine AW.st (by simp [dNum, pRow, dS]; rfl) ?_
          clear hK' K'
          refine AW_cond true rfl (fun _ => ?_) (fun h => by cases h)
          refine AW_re (tyOf_good _) fun K' hK' => ?_
          repeat (refine sxf_next fun K2 hK2 => ?_; simp [dNum, pRow, dS]; (repeat (refine ⟨by omega, ?_⟩)); refine hK2 _ ?_; clear hK2 K2)
          refine sxf_next fun K2 hK2 => ?_
          simp [dNum, pRow, dS]
          refine callK.mc (hf5) (by simp [dNum, pRow, dS]) (by simp [dNum, pRow, dS]) (by simp [dNum, pRow, dS]) (by simp [dNum, pRow, dS]) ?_
          simp [dNum, pRow, dS]
          refine hK2 _ ?_
          clear hK2 K2
          repeat (refine sxf_next fun K2 hK2 => ?_; simp [dNum, pRow, dS]; (repeat (refine ⟨by omega, ?_⟩)); refine hK2 _ ?_; clear hK2 K2)
          refine sxf_nil (hK' _ ?_)
          clear hK' K'
          refine hK3 _ (AW.norm [4] [500] (notIn_ok rfl) (AW.st (by simp [dNum, pRow, dS]; rfl) ?_))
          refine AW_rg (tyOf_good _) [2] [500] (notIn_ok rfl) fun K' hK' => ?_
          repeat (refine sxf_next fun K2 hK2 => ?_; simp [dNum, pRow, dS]; (repeat (refine ⟨by omega, ?_⟩)); refine hK2 _ ?_; clear hK2 K2)
          refine sxf_nil (hK' _ ?_)
          refine AW.st (by simp [dNum, pRow, dS]; rfl) ?_
          clear hK' K'
          refine AW_ret ?_
          simp [D.le, D.le.go, takeMap, dNum, pRow, dS, pRow, posR, eR, pR, hs, hn]
        | true =>
          rw [hn] at hname
          refine AW_rg (tyOf_good _) [0, 3, 4, 76] [500] (notIn_ok rfl) fun K' hK' => ?_
          repeat (refine sxf_next fun K2 hK2 => ?_; simp [dNum, pRow, dS]; (repeat (refine ⟨by omega, ?_⟩)); refine hK2 _ ?_; clear hK2 K2)
          refine sxf_next fun K2 hK2 => ?_
          simp [dNum, pRow, dS]
          refine callK.data (hname) (by simp; rfl) (by first | exact D.leGo_refl _ | simp [takeMap, List.map_map, Function.comp_def, D.le, D.le.go, D.le_refl, D.leGo_refl, dNum, pRow, dS]) ?_
          refine hK2 _ ?_
          clear hK2 K2
          simp only [putd, upd_lst]
          repeat (refine sxf_next fun K2 hK2 => ?_; simp [dNum, pRow, dS]; (repeat (refine ⟨by omega, ?_⟩)); refine hK2 _ ?_; clear hK2 K2)
          refine sxf_nil (hK' _ ?_)
          refine AW.st (by simp [dNum, pRow, dS]; rfl) ?_
          clear hK' K'
          refine AW_cond false rfl (fun h => by cases h) (fun _ => ?_)
          refine AW_re (tyOf_good _) fun K' hK' => ?_
          repeat (refine sxf_next fun K2 hK2 => ?_; simp [dNum, pRow, dS]; (repeat (refine ⟨by omega, ?_⟩)); refine hK2 _ ?_; clear hK2 K2)
          refine sxf_nil (hK' _ ?_)
          clear hK' K'
          refine hK3 _ (AW.norm [4] [500] (notIn_ok rfl) (AW.st (by simp [dNum, pRow, dS]; rfl) ?_))
          refine AW_rg (tyOf_good _) [2] [500] (notIn_ok rfl) fun K' hK' => ?_
          repeat (refine sxf_next fun K2 hK2 => ?_; simp [dNum, pRow, dS]; (repeat (refine ⟨by omega, ?_⟩)); refine hK2 _ ?_; clear hK2 K2)
          refine sxf_nil (hK' _ ?_)
          refine AW.st (by simp [dNum, pRow, dS]; rfl) ?_
          clear hK' K'
          refine AW_ret ?_
          simp [D.le, D.le.go, takeMap, dNum, pRow, dS, pRow, posR, eR, pR, hs, hn]
end Go.Proofs.YtfehigldhedkgaaGreatDoor

/-
  The document's reader of expressions: rows of parts.
-/
namespace Go.Proofs.YtfehigldhedkgaaGreatDoor
set_option linter.unusedSimpArgs false
set_option linter.unusedVariables false
open Go.Av

/-! ### Expressions as data, as the document keeps them -/
def dNil : D := .sl (some false) []
mutual
def dR : Ex → D
  | .cst b => .ip [dS [if b then 49 else 48], dS [], dNil]
  | .bit s => .ip [dS [98, 105, 116], dS s, dNil]
  | .rise s => .ip [dS [94], dS s, dNil]
  | .fall s => .ip [dS [126], dS s, dNil]
  | .not e => .ip [dS [33], dS [], .sl none [[dR e]]]
  | .and l => .ip [dS [38], dS [], .sl none (dRs l)]
  | .or l => .ip [dS [124], dS [], .sl none (dRs l)]
def dRs : List Ex → List (List D)
  | [] => []
  | e :: l => [dR e] :: dRs l
end
theorem dRs_map : ∀ l : List Ex, dRs l = l.map fun e => [dR e]
  | [] => rfl
  | e :: l => by rw [dRs, dRs_map l]; rfl
theorem dR_ip (e : Ex) : ∃ c, dR e = .ip c := by
  cases e <;> simp only [dR] <;> exact ⟨_, rfl⟩
theorem dR_one (e : Ex) : (dR e).one = true := by
  obtain ⟨c, h⟩ := dR_ip e
  rw [h]; rfl
theorem cells_one {y : D} (h : y.one = true) : valCells (.d y) = some [.d y] := by
  cases y <;> first | (simp [valCells, AV.one, D.one] at h ⊢; done) | (simp [D.one] at h; simp [valCells, AV.one, D.one, h])

/-! ### What comes of reading -/
def outD (r : Rs Ex) (y : D) : D := match r with
  | .ok x _ => dR x
  | .err _ _ _ => y
def outK {α : Type} (r : Rs α) (k : Nat) : Nat := match r with
  | .ok _ j => j
  | .err _ _ _ => k
/-- One reading: y and k: what comes with an error, and where one is then. -/
def PSx (G : Glob) (t : List UInt8) (fx : List Nat) (xr : List (Nat × Row)) (g : FuncId) (xs : List AV) (d : Nat) (r : Rs Ex) (i : Nat) (y : D) (k : Nat) : Prop :=
  MC Tryz.prog G fx g xs (hlst (pRow t i 0 (-1) ++ xr)) (.d (outD r y)) (hlst (pRow t (outK r k) (eR r) (pR r) ++ xr)) ∧ (∀ c p q, r = .err c p q → 0 < c ∧ y.one = true ∧ k ≤ t.length + d)
def Reads (G : Glob) (t : List UInt8) (fx : List Nat) (xr : List (Nat × Row)) (g : FuncId) (xs : List AV) (d : Nat) (f : Nat → Rs Ex) : Prop := ∃ (yF : Nat → D) (kF : Nat → Nat), ∀ i, i ≤ t.length → PSx G t fx xr g xs d (f i) i (yF i) (kF i)
theorem reads_of {G : Glob} {t : List UInt8} {fx : List Nat} {xr : List (Nat × Row)} {g : FuncId} {xs : List AV} {d : Nat} {f : Nat → Rs Ex} (h : ∀ i, i ≤ t.length → ∃ y k, PSx G t fx xr g xs d (f i) i y k) : Reads G t fx xr g xs d f := by
  have h2 : ∀ i, ∃ z : D × Nat, i ≤ t.length → PSx G t fx xr g xs d (f i) i z.1 z.2 := fun i => by
    by_cases hi : i ≤ t.length
    · obtain ⟨y, k, h⟩ := h i hi
      exact ⟨(y, k), fun _ => h⟩
    · exact ⟨(default, 0), fun h => absurd h hi⟩
  exact ⟨fun i => (Classical.choose (h2 i)).1, fun i => (Classical.choose (h2 i)).2, fun i hi => Classical.choose_spec (h2 i) hi⟩

/-! ### Where a row of parts ends, if it fails -/
def sevT (t : List UInt8) (s : UInt8) (f : Nat → Rs Ex) : Nat → Nat → List Ex → List Ex × Nat
  | 0, i, acc => (acc, i)
  | n + 1, i, acc => match f i with
    | .err _ _ _ => (acc, i)
    | .ok x j => if (takeM t s j).1 then sevT t s f n (takeM t s j).2 (acc ++ [x]) else (acc, i)
theorem sevT_fuel {t : List UInt8} {s : UInt8} {f : Nat → Rs Ex} (hf : Goes t f) : ∀ (n m i : Nat) (acc : List Ex), i ≤ t.length → t.length + 1 - i ≤ n → t.length + 1 - i ≤ m → sevT t s f n i acc = sevT t s f m i acc
  | 0, _, i, _, hi, h, _ => by omega
  | _ + 1, 0, i, _, hi, _, h => by omega
  | n + 1, m + 1, i, acc, hi, h1, h2 => by
    rw [sevT, sevT]
    cases hfi : f i with
    | err c p q => rfl
    | ok x j =>
      obtain ⟨g1, g2⟩ := hf i x j hi hfi
      obtain ⟨t1, t2, t3⟩ := take_goes (c := s) g2
      dsimp only
      split
      · exact sevT_fuel hf n m _ _ t2 (by omega) (by omega)
      · rfl
def sevZ (t : List UInt8) (s : UInt8) (f : Nat → Rs Ex) (i : Nat) (acc : List Ex) : List Ex × Nat := sevT t s f (t.length + 1 - i) i acc
theorem sevZ_step {t : List UInt8} {s : UInt8} {f : Nat → Rs Ex} (hf : Goes t f) {i : Nat} (hi : i ≤ t.length) (acc : List Ex) : sevZ t s f i acc = match f i with
    | .err _ _ _ => (acc, i)
    | .ok x j => if (takeM t s j).1 then sevZ t s f (takeM t s j).2 (acc ++ [x]) else (acc, i) := by
  unfold sevZ
  obtain ⟨n, hn⟩ : ∃ n, t.length + 1 - i = n + 1 := ⟨t.length - i, by omega⟩
  rw [hn, sevT]
  cases hfi : f i with
  | err c p q => rfl
  | ok x j =>
    obtain ⟨g1, g2⟩ := hf i x j hi hfi
    obtain ⟨t1, t2, t3⟩ := take_goes (c := s) g2
    dsimp only
    split
    · exact sevT_fuel hf _ _ _ _ t2 (by omega) (by omega)
    · rfl
theorem nx_take {t : List UInt8} {i : Nat} {c : UInt8} (hc : c ≠ 0) : (takeM t c i).1 = decide (((nxB t i).toNat : Int) = (c.toNat : Int)) := by
  unfold takeM nxB
  rw [List.getD_eq_getElem?_getD]
  cases h : t[skipB t i]? with
  | none =>
    rw [if_neg (by simp)]
    simp only [Option.getD_none]
    symm
    rw [decide_eq_false_iff_not]
    intro e
    apply hc
    have : c.toNat = 0 := by simp at e; omega
    exact UInt8.toNat_inj.1 (by simpa using this)
  | some b =>
    simp only [Option.getD_some]
    by_cases hb : b = c
    · subst hb; simp
    · have : ¬ ((b.toNat : Int) = (c.toNat : Int)) := fun e => hb (UInt8.toNat_inj.1 (by omega))
      simp [hb, this]
theorem take_two {t : List UInt8} {c : UInt8} {i : Nat} : (takeM t c i).2 = if (takeM t c i).1 then skipB t i + 1 else skipB t i := by
  unfold takeM
  split <;> rfl
def rowD (s : UInt8) (ys : List D) : D := match ys with
  | [y] => y
  | ys => .ip [dS [s], dS [], .sl none (ys.map fun y => [y])]
theorem rowD_ne {s : UInt8} {ys : List D} (h : ys.length ≠ 1) : rowD s ys = .ip [dS [s], dS [], .sl none (ys.map fun y => [y])] := by
  match ys, h with
  | [], _ => rfl
  | [_], h => exact absurd rfl h
  | _ :: _ :: _, _ => rfl
theorem rowD_one {s : UInt8} {ys : List D} (h : ∀ y ∈ ys, y.one = true) : (rowD s ys).one = true := by
  match ys, h with
  | [], _ => rfl
  | [y], h => exact h y (by simp)
  | _ :: _ :: _, _ => rfl

set_option maxHeartbeats 16000000 in
theorem prow_bm (G : Glob) (t : List UInt8) (ht : t.length ≤ 2000) (g : FuncId) (s : UInt8) (sn : Int) (hsn : (s.toNat : Int) = sn) (hs0 : s ≠ 0) (henc : Utf8.encode sn = bs [s]) (a : Int) (d : Nat) (f : Nat → Rs Ex) (hf : Goes t f) (col : List Ex → Ex) (hcol : ∀ l, dR (col l) = rowD s (l.map dR))
    (hcall : Reads G t [500] [] g [.ref 500 0 0, .d (dNum a)] d f) : Reads G t [500] [] 42 [.ref 500 0 0, .d (.v (.int .u8 sn)), .d (dNum a), .bm g (.ref 500 0 0)] d (fun i => (sevA t s f i []).map col) := by
  obtain ⟨yF, kF, hcall⟩ := hcall
  refine reads_of fun i hi => ?_
  generalize hR : sevA t s f i [] = R
  generalize hZ : sevZ t s f i [] = Z
  refine ⟨rowD s (Z.1.map dR ++ [yF Z.2]), kF Z.2, ?_⟩
  -- how it goes on: with what was read, or with an error
  have hend : ∀ (k : Nat) (ys : List D) (e p : Int), ((e = 0 ∧ p = -1 ∧ ∃ acc, ys = acc.map dR ∧ R = .ok acc k) ∨ (∃ c p' q, R = .err c p' q ∧ e = c ∧ p = p' ∧ ys = Z.1.map dR ++ [yF Z.2] ∧ k = kF Z.2)) →
      outD (R.map col) (rowD s (Z.1.map dR ++ [yF Z.2])) = rowD s ys ∧ outK (R.map col) (kF Z.2) = k ∧ eR (R.map col) = e ∧ pR (R.map col) = p := by
    rintro k ys e p (⟨rfl, rfl, acc, rfl, rfl⟩ | ⟨c, p', q, rfl, rfl, rfl, rfl, rfl⟩)
    · exact ⟨by simp [Rs.map, outD, hcol], rfl, rfl, rfl⟩
    · exact ⟨rfl, rfl, rfl, rfl⟩
  have herr : ∀ (n i : Nat) (acc : List Ex), i ≤ t.length → t.length + 1 - i ≤ n → ∀ c p q, sevR t s f n i acc = .err c p q → 0 < c ∧ (yF (sevT t s f n i acc).2).one = true ∧ kF (sevT t s f n i acc).2 ≤ t.length + d := by
    intro n
    induction n with
    | zero => intro i acc hi hn; omega
    | succ n ih =>
      intro i acc hi hn c p q h
      rw [sevR] at h
      rw [sevT]
      cases hfi : f i with
      | err c' p' q' =>
        rw [hfi] at h
        simp only [Rs.err.injEq] at h
        obtain ⟨rfl, -, -⟩ := h
        exact (hcall i hi).2 _ _ _ hfi
      | ok x j =>
        rw [hfi] at h
        obtain ⟨g1, g2⟩ := hf i x j hi hfi
        obtain ⟨t1, t2, t3⟩ := take_goes (c := s) g2
        dsimp only at h ⊢
        split at h
        · rename_i htk
          rw [if_pos htk]
          exact ih _ _ t2 (by omega) c p q h
        · cases h
  refine ⟨?_, fun c p q h => ?_⟩
  rotate_left
  · cases R with
    | ok l j => cases h
    | err c' p' q' =>
      simp only [Rs.map, Rs.err.injEq] at h
      obtain ⟨rfl, rfl, rfl⟩ := h
      obtain ⟨h1, h2, h3⟩ := herr _ i [] hi (Nat.le_refl _) _ _ _ hR
      have hZ2 : (sevT t s f (t.length + 1 - i) i []).2 = Z.2 := by rw [← hZ]; rfl
      rw [hZ2] at h2 h3
      refine ⟨h1, rowD_one fun y hy => ?_, h3⟩
      rcases List.mem_append.1 hy with hy | hy
      · obtain ⟨x, _, rfl⟩ := List.mem_map.1 hy
        exact dR_one x
      · simp at hy; subst hy; exact h2
  generalize hyE : rowD s (Z.1.map dR ++ [yF Z.2]) = yE at hend ⊢
  generalize R.map col = RR at hend ⊢
  refine MC.of_body (tyOf_good _) Tryz.func42 rfl rfl (rs := [.tmp 8]) Tryz.results42 (by simp [Tryz.ntmps42]) rfl fun X => ?_
  simp only [Tryz.ntmps42]
  refine AW_rg (tyOf_good _) [0, 1, 2, 3] [500] (notIn_ok rfl) fun K' hK' => ?_
  repeat (refine sxf_next fun K2 hK2 => ?_; simp [dNum, pRow, dS]; (repeat (refine ⟨by omega, ?_⟩)); refine hK2 _ ?_; clear hK2 K2)
  refine sxf_nil (hK' _ ?_)
  refine AW.st (by simp [dNum, pRow, dS]; rfl) ?_
  clear hK' K'
  -- the first part
  have hfirst := (hcall i hi).1
  have hone : (outD (f i) (yF i)).one = true := by
    cases hfi : f i with
    | ok x j => exact dR_one x
    | err c p q => exact ((hcall i hi).2 _ _ _ hfi).2.1
  have hcel := cells_one hone
  refine AW_rg (tyOf_good _) [0, 1, 2, 3, 9] [500, 13] (notIn_ok rfl) fun K' hK' => ?_
  repeat (refine sxf_next fun K2 hK2 => ?_; simp [dNum, pRow, dS, hcel]; (repeat (refine ⟨by omega, ?_⟩)); refine hK2 _ ?_; clear hK2 K2)
  refine sxf_next fun K2 hK2 => ?_
  simp [dNum, pRow, dS, hcel]
  refine callK.mc (hfirst) (by simp [dNum, pRow, dS, hcel]) (by simp [dNum, pRow, dS, hcel]) (by simp [dNum, pRow, dS, hcel]) (by simp [dNum, pRow, dS, hcel]) ?_
  simp [dNum, pRow, dS, hcel]
  refine hK2 _ ?_
  clear hK2 K2
  repeat (refine sxf_next fun K2 hK2 => ?_; simp [dNum, pRow, dS, hcel]; (repeat (refine ⟨by omega, ?_⟩)); refine hK2 _ ?_; clear hK2 K2)
  refine sxf_nil (hK' _ ?_)
  refine AW.st (by simp [dNum, pRow, dS, hcel]; rfl) ?_
  clear hK' K'
  refine AW_then fun K1 hK1 => ?_
  refine AW_for (S := Nat × List D × Int × Int) (fun z => (z.2.2.1 = 0 ∧ z.2.2.2 = -1 ∧ z.1 ≤ t.length ∧ ∃ acc, z.2.1 = acc.map dR ∧ 0 < acc.length ∧ acc.length ≤ z.1 ∧ (if (takeM t s z.1).1 then sevA t s f (takeM t s z.1).2 acc else .ok acc (takeM t s z.1).2) = R ∧ ((takeM t s z.1).1 = true → sevZ t s f (takeM t s z.1).2 acc = Z)) ∨ (0 < z.2.2.1 ∧ z.2.1.length ≤ 2001 ∧ ∃ c p q, R = .err c p q ∧ z.2.2.1 = c ∧ z.2.2.2 = p ∧ z.2.1 = Z.1.map dR ++ [yF Z.2] ∧ z.1 = kF Z.2))
    (fun z => ⟨lst [(0, .ref 500 0 0), (1, .d (.v (.int .u8 sn))), (2, .d (dNum a)), (3, .bm g (.ref 500 0 0)), (9, .own 13 0 z.2.1.length)], hlst [(500, .box 70 [.d (dS t), int z.1, int z.2.2.1, int z.2.2.2]), (13, .sl 25 1 (z.2.1.map fun y => [y]))]⟩) (fun z => if z.2.2.1 = 0 then t.length + 1 - z.1 else 0) (outK (f i) (kF i), [outD (f i) (yF i)], eR (f i), pR (f i)) ?_ ?_ ?_
  · refine Imp.to' (notIn_ok rfl) (by simp [dNum, pRow, dS]) (by simp [dNum, pRow, dS])
  · cases hfi : f i with
    | ok x j =>
      obtain ⟨g1, g2⟩ := hf i x j hi hfi
      rw [sev_step hf hi, hfi] at hR
      rw [sevZ_step hf hi, hfi] at hZ
      exact .inl ⟨rfl, rfl, g2, [x], rfl, by simp, by simp [outK]; omega, hR, fun h => by dsimp only [outK] at h ⊢; simpa only [h, if_true, List.nil_append] using hZ⟩
    | err c p q =>
      rw [sev_step hf hi, hfi] at hR
      rw [sevZ_step hf hi, hfi] at hZ
      obtain ⟨h1, h2, h3⟩ := (hcall i hi).2 _ _ _ hfi
      exact .inr ⟨h1, by simp, c, p, 0, hR.symm, rfl, rfl, by rw [← hZ]; rfl, by rw [← hZ]; rfl⟩
  · rintro ⟨k, ys, e, p⟩ hI
    dsimp only at hI ⊢
    refine AW_then fun K2 hK2 => ?_
    refine (fun hcont => ?_) (fun (σ : St) (k : Nat) (ys : List D) (e p : Int) (hl : ys.length ≤ 2001) (hcond : (e = 0 ∧ p = -1 ∧ ∃ acc, ys = acc.map dR ∧ R = .ok acc k) ∨ (∃ c p' q, R = .err c p' q ∧ e = c ∧ p = p' ∧ ys = Z.1.map dR ++ [yF Z.2] ∧ k = kF Z.2)) himp =>
      hK1 σ (AW.imp (τ := ⟨lst [(0, .ref 500 0 0), (1, .d (.v (.int .u8 sn))), (9, .own 13 0 ys.length)], hlst [(500, .box 70 [.d (dS t), int k, int e, int p]), (13, .sl 25 1 (ys.map fun y => [y]))]⟩) himp ?_))
    · rcases hI with ⟨rfl, rfl, hk, acc, rfl, hacc, hak, hRk, hZk⟩ | ⟨he, hlen, c, p', q, hRe, rfl, rfl, rfl, rfl⟩
      · have hnx := pnext_spec G t k (by omega) hk 0 (-1)
        have htk := nx_take (t := t) (i := k) hs0
        rw [hsn] at htk
        have ht2 := take_two (t := t) (c := s) (i := k)
        obtain ⟨t1, t2, t3⟩ := take_goes (t := t) (c := s) hk
        have htop := skipB_top hk
        by_cases hb : ((nxB t k).toNat : Int) = sn
        · rw [decide_eq_true hb] at htk
          rw [htk] at hRk hZk ht2 t3
          simp only [if_true] at hRk ht2
          have hZk := hZk rfl
          have t3 := t3 rfl
          rw [ht2] at hRk hZk t2 t3
          refine AW_rg (tyOf_good _) [0, 1, 2, 3, 9, 25] [500, 13] (notIn_ok rfl) fun K' hK' => ?_
          repeat (refine sxf_next fun K2 hK2 => ?_; simp [dNum, pRow, dS, hb]; (repeat (refine ⟨by omega, ?_⟩)); refine hK2 _ ?_; clear hK2 K2)
          refine sxf_next fun K2 hK2 => ?_
          simp [dNum, pRow, dS, hb]
          refine callK.mc (hnx) (by simp [dNum, pRow, dS, hb]) (by simp [dNum, pRow, dS, hb]) (by simp [dNum, pRow, dS, hb]) (by simp [dNum, pRow, dS, hb]) ?_
          simp [dNum, pRow, dS, hb]
          refine hK2 _ ?_
          clear hK2 K2
          repeat (refine sxf_next fun K2 hK2 => ?_; simp [dNum, pRow, dS, hb]; (repeat (refine ⟨by omega, ?_⟩)); refine hK2 _ ?_; clear hK2 K2)
          refine sxf_nil (hK' _ ?_)
          refine AW.st (by simp [dNum, pRow, dS, hb]; rfl) ?_
          clear hK' K'
          refine AW_cond true rfl (fun _ => ?_) (fun h => by cases h)
          refine AW_skip (hK2 _ ?_)
          refine AW_block ?_
          refine AW_rg (tyOf_good _) [0, 1, 2, 3, 9] [500, 13] (notIn_ok rfl) fun K' hK' => ?_
          repeat (refine sxf_next fun K2 hK2 => ?_; simp [dNum, pRow, dS]; (repeat (refine ⟨by omega, ?_⟩)); refine hK2 _ ?_; clear hK2 K2)
          refine sxf_nil (hK' _ ?_)
          refine AW.st (by simp [dNum, pRow, dS]; rfl) ?_
          clear hK' K'
          have hnext := (hcall _ t2).1
          rw [Int.natCast_add] at hnext
          have hone2 : (outD (f (skipB t k + 1)) (yF (skipB t k + 1))).one = true := by
            cases hfi : f (skipB t k + 1) with
            | ok x j => exact dR_one x
            | err c p q => exact ((hcall _ t2).2 _ _ _ hfi).2.1
          have hcel2 := cells_one hone2
          refine AW_re (tyOf_good _) fun K' hK' => ?_
          repeat (refine sxf_next fun K2 hK2 => ?_; simp [dNum, pRow, dS, hcel2, hone2, List.take_of_length_le]; (repeat (refine ⟨by omega, ?_⟩)); refine hK2 _ ?_; clear hK2 K2)
          refine sxf_next fun K2 hK2 => ?_
          simp [dNum, pRow, dS, hcel2, hone2, List.take_of_length_le]
          refine callK.mc (hnext) (by simp [dNum, pRow, dS, hcel2, hone2, List.take_of_length_le]) (by simp [dNum, pRow, dS, hcel2, hone2, List.take_of_length_le]) (by simp [dNum, pRow, dS, hcel2, hone2, List.take_of_length_le]) (by simp [dNum, pRow, dS, hcel2, hone2, List.take_of_length_le]) ?_
          simp [dNum, pRow, dS, hcel2, hone2, List.take_of_length_le]
          refine hK2 _ ?_
          clear hK2 K2
          repeat (refine sxf_next fun K2 hK2 => ?_; simp [dNum, pRow, dS, hcel2, hone2, List.take_of_length_le]; (repeat (refine ⟨by omega, ?_⟩)); refine hK2 _ ?_; clear hK2 K2)
          refine sxf_nil (hK' _ ?_)
          clear hK' K'
          try simp only [thn, inb]
          refine Again.mk (outK (f (skipB t k + 1)) (kF (skipB t k + 1)), acc.map dR ++ [outD (f (skipB t k + 1)) (yF (skipB t k + 1))], eR (f (skipB t k + 1)), pR (f (skipB t k + 1))) ?_ ?_ ?_
          · cases hfi : f (skipB t k + 1) with
            | ok x j =>
              obtain ⟨g1, g2⟩ := hf _ x j t2 hfi
              rw [sev_step hf t2, hfi] at hRk
              rw [sevZ_step hf t2, hfi] at hZk
              exact .inl ⟨rfl, rfl, g2, acc ++ [x], by simp [outD], by simp, by simp [outK]; omega, hRk, fun h => by dsimp only [outK] at h ⊢; simpa only [h, if_true] using hZk⟩
            | err c p q =>
              rw [sev_step hf t2, hfi] at hRk
              rw [sevZ_step hf t2, hfi] at hZk
              obtain ⟨h1, h2, h3⟩ := (hcall _ t2).2 _ _ _ hfi
              exact .inr ⟨h1, by simp; omega, c, p, 0, hRk.symm, rfl, rfl, by rw [← hZk]; rfl, by rw [← hZk]; rfl⟩
          · cases hfi : f (skipB t k + 1) with
            | ok x j =>
              obtain ⟨g1, g2⟩ := hf _ x j t2 hfi
              simp only [eR, outK, if_true]
              omega
            | err c p q =>
              obtain ⟨h1, h2, h3⟩ := (hcall _ t2).2 _ _ _ hfi
              have hc0 : ¬ c = 0 := by omega
              simp [eR, hc0]
              omega
          · refine Imp.to' (notIn_ok rfl) (by simp [dNum, pRow, dS]) (by simp [dNum, pRow, dS])
        · rw [decide_eq_false hb] at htk
          rw [htk] at hRk ht2
          simp only [Bool.false_eq_true, if_false] at hRk ht2
          refine AW_rg (tyOf_good _) [0, 1, 2, 3, 9, 25] [500, 13] (notIn_ok rfl) fun K' hK' => ?_
          repeat (refine sxf_next fun K2 hK2 => ?_; simp [dNum, pRow, dS, hb]; (repeat (refine ⟨by omega, ?_⟩)); refine hK2 _ ?_; clear hK2 K2)
          refine sxf_next fun K2 hK2 => ?_
          simp [dNum, pRow, dS, hb]
          refine callK.mc (hnx) (by simp [dNum, pRow, dS, hb]) (by simp [dNum, pRow, dS, hb]) (by simp [dNum, pRow, dS, hb]) (by simp [dNum, pRow, dS, hb]) ?_
          simp [dNum, pRow, dS, hb]
          refine hK2 _ ?_
          clear hK2 K2
          repeat (refine sxf_next fun K2 hK2 => ?_; simp [dNum, pRow, dS, hb]; (repeat (refine ⟨by omega, ?_⟩)); refine hK2 _ ?_; clear hK2 K2)
          refine sxf_nil (hK' _ ?_)
          refine AW.st (by simp [dNum, pRow, dS, hb]; rfl) ?_
          clear hK' K'
          refine AW_cond false rfl (fun h => by cases h) (fun _ => ?_)
          refine AW_exit (hcont _ (skipB t k) (acc.map dR) 0 (-1) (by simp; omega) (.inl ⟨rfl, rfl, acc, rfl, by rw [← hRk, ht2]⟩) ?_)
          refine Imp.to' (notIn_ok rfl) (by simp [dNum, pRow, dS]) (by simp [dNum, pRow, dS])
      · have he2 : ¬ e = 0 := by omega
        refine AW_rg (tyOf_good _) [0, 1, 2, 3, 9, 25] [500, 13] (notIn_ok rfl) fun K' hK' => ?_
        repeat (refine sxf_next fun K2 hK2 => ?_; simp [dNum, pRow, dS, he2]; (repeat (refine ⟨by omega, ?_⟩)); refine hK2 _ ?_; clear hK2 K2)
        refine sxf_nil (hK' _ ?_)
        refine AW.st (by simp [dNum, pRow, dS, he2]; rfl) ?_
        clear hK' K'
        refine AW_cond false rfl (fun h => by cases h) (fun _ => ?_)
        refine AW_exit (hcont _ (kF Z.2) _ e p' hlen (.inr ⟨e, p', q, hRe, rfl, rfl, rfl, rfl⟩) ?_)
        refine Imp.to' (notIn_ok rfl) (by simp [dNum, pRow, dS]) (by simp [dNum, pRow, dS])
    · obtain ⟨h1, h2, h3, h4⟩ := hend k ys e p hcond
      rw [h1, h2, h3, h4]
      refine AW_then fun K3 hK3 => ?_
      by_cases hl1 : ys.length = 1
      · obtain ⟨y, rfl⟩ := List.length_eq_one_iff.1 hl1
        refine AW_rg (tyOf_good _) [1, 9, 41] [500, 13] (notIn_ok rfl) fun K' hK' => ?_
        repeat (refine sxf_next fun K2 hK2 => ?_; simp [dNum, pRow, dS]; (repeat (refine ⟨by omega, ?_⟩)); refine hK2 _ ?_; clear hK2 K2)
        refine sxf_nil (hK' _ ?_)
        refine AW.st (by simp [dNum, pRow, dS]; rfl) ?_
        clear hK' K'
        refine AW_cond true rfl (fun _ => ?_) (fun h => by cases h)
        refine AW_rg (tyOf_good _) [8] [500] (notIn_ok rfl) fun K' hK' => ?_
        repeat (refine sxf_next fun K2 hK2 => ?_; simp [dNum, pRow, dS]; (repeat (refine ⟨by omega, ?_⟩)); refine hK2 _ ?_; clear hK2 K2)
        refine sxf_nil (hK' _ ?_)
        refine AW.st (by simp [dNum, pRow, dS]; rfl) ?_
        clear hK' K'
        refine AW_ret ?_
        simp [D.le, D.le.go, takeMap, dNum, pRow, dS, rowD, D.le_refl]
      · have hl2 : ¬ (ys.length : Int) = 1 := by omega
        refine AW_rg (tyOf_good _) [1, 9, 41] [500, 13] (notIn_ok rfl) fun K' hK' => ?_
        repeat (refine sxf_next fun K2 hK2 => ?_; simp [dNum, pRow, dS, hl1, hl2]; (repeat (refine ⟨by omega, ?_⟩)); refine hK2 _ ?_; clear hK2 K2)
        refine sxf_nil (hK' _ ?_)
        refine AW.st (by simp [dNum, pRow, dS, hl1, hl2]; rfl) ?_
        clear hK' K'
        refine AW_cond false rfl (fun h => by cases h) (fun _ => ?_)
        refine AW_skip (hK3 _ ?_)
        refine AW.imp (Imp.freeze 13 (by decide)) ?_
        refine AW.st (by simp [dNum, pRow, dS, List.take_of_length_le]; rfl) ?_
        refine AW_rg (tyOf_good _) [8] [500, 49] (notIn_ok rfl) fun K' hK' => ?_
        repeat (refine sxf_next fun K2 hK2 => ?_; simp [dNum, pRow, dS, henc]; (repeat (refine ⟨by omega, ?_⟩)); refine hK2 _ ?_; clear hK2 K2)
        refine sxf_nil (hK' _ ?_)
        refine AW.st (by simp [dNum, pRow, dS, henc]; rfl) ?_
        clear hK' K'
        refine AW.imp (Imp.freezeB 49 (by decide)) ?_
        refine AW.st (by simp [dNum, pRow, dS]; rfl) ?_
        refine AW_ret ?_
        simp [D.le, D.le.go, takeMap, dNum, pRow, dS, rowD_ne hl1, dS, bs_nil, D.le_refl, D.leGo_refl]
set_option maxHeartbeats 16000000 in
theorem prow_fn (G : Glob) (t : List UInt8) (ht : t.length ≤ 2000) (g : FuncId) (s : UInt8) (sn : Int) (hsn : (s.toNat : Int) = sn) (hs0 : s ≠ 0) (henc : Utf8.encode sn = bs [s]) (a : Int) (d : Nat) (f : Nat → Rs Ex) (hf : Goes t f) (col : List Ex → Ex) (hcol : ∀ l, dR (col l) = rowD s (l.map dR))
    (hcall : Reads G t [500, 501] [(501, .box 68 [.ref 500 0 0])] g [.d (dNum a), .ref 501 0 0] d f) : Reads G t [500, 501] [(501, .box 68 [.ref 500 0 0])] 42 [.ref 500 0 0, .d (.v (.int .u8 sn)), .d (dNum a), .fn (.func g) [.ref 501 0 0]] d (fun i => (sevA t s f i []).map col) := by
  obtain ⟨yF, kF, hcall⟩ := hcall
  refine reads_of fun i hi => ?_
  generalize hR : sevA t s f i [] = R
  generalize hZ : sevZ t s f i [] = Z
  refine ⟨rowD s (Z.1.map dR ++ [yF Z.2]), kF Z.2, ?_⟩
  -- how it goes on: with what was read, or with an error
  have hend : ∀ (k : Nat) (ys : List D) (e p : Int), ((e = 0 ∧ p = -1 ∧ ∃ acc, ys = acc.map dR ∧ R = .ok acc k) ∨ (∃ c p' q, R = .err c p' q ∧ e = c ∧ p = p' ∧ ys = Z.1.map dR ++ [yF Z.2] ∧ k = kF Z.2)) →
      outD (R.map col) (rowD s (Z.1.map dR ++ [yF Z.2])) = rowD s ys ∧ outK (R.map col) (kF Z.2) = k ∧ eR (R.map col) = e ∧ pR (R.map col) = p := by
    rintro k ys e p (⟨rfl, rfl, acc, rfl, rfl⟩ | ⟨c, p', q, rfl, rfl, rfl, rfl, rfl⟩)
    · exact ⟨by simp [Rs.map, outD, hcol], rfl, rfl, rfl⟩
    · exact ⟨rfl, rfl, rfl, rfl⟩
  have herr : ∀ (n i : Nat) (acc : List Ex), i ≤ t.length → t.length + 1 - i ≤ n → ∀ c p q, sevR t s f n i acc = .err c p q → 0 < c ∧ (yF (sevT t s f n i acc).2).one = true ∧ kF (sevT t s f n i acc).2 ≤ t.length + d := by
    intro n
    induction n with
    | zero => intro i acc hi hn; omega
    | succ n ih =>
      intro i acc hi hn c p q h
      rw [sevR] at h
      rw [sevT]
      cases hfi : f i with
      | err c' p' q' =>
        rw [hfi] at h
        simp only [Rs.err.injEq] at h
        obtain ⟨rfl, -, -⟩ := h
        exact (hcall i hi).2 _ _ _ hfi
      | ok x j =>
        rw [hfi] at h
        obtain ⟨g1, g2⟩ := hf i x j hi hfi
        obtain ⟨t1, t2, t3⟩ := take_goes (c := s) g2
        dsimp only at h ⊢
        split at h
        · rename_i htk
          rw [if_pos htk]
          exact ih _ _ t2 (by omega) c p q h
        · cases h
  refine ⟨?_, fun c p q h => ?_⟩
  rotate_left
  · cases R with
    | ok l j => cases h
    | err c' p' q' =>
      simp only [Rs.map, Rs.err.injEq] at h
      obtain ⟨rfl, rfl, rfl⟩ := h
      obtain ⟨h1, h2, h3⟩ := herr _ i [] hi (Nat.le_refl _) _ _ _ hR
      have hZ2 : (sevT t s f (t.length + 1 - i) i []).2 = Z.2 := by rw [← hZ]; rfl
      rw [hZ2] at h2 h3
      refine ⟨h1, rowD_one fun y hy => ?_, h3⟩
      rcases List.mem_append.1 hy with hy | hy
      · obtain ⟨x, _, rfl⟩ := List.mem_map.1 hy
        exact dR_one x
      · simp at hy; subst hy; exact h2
  generalize hyE : rowD s (Z.1.map dR ++ [yF Z.2]) = yE at hend ⊢
  generalize R.map col = RR at hend ⊢
  refine MC.of_body (tyOf_good _) Tryz.func42 rfl rfl (rs := [.tmp 8]) Tryz.results42 (by simp [Tryz.ntmps42]) rfl fun X => ?_
  simp only [Tryz.ntmps42]
  refine AW_rg (tyOf_good _) [0, 1, 2, 3] [500, 501] (notIn_ok rfl) fun K' hK' => ?_
  repeat (refine sxf_next fun K2 hK2 => ?_; simp [dNum, pRow, dS]; (repeat (refine ⟨by omega, ?_⟩)); refine hK2 _ ?_; clear hK2 K2)
  refine sxf_nil (hK' _ ?_)
  refine AW.st (by simp [dNum, pRow, dS]; rfl) ?_
  clear hK' K'
  -- the first part
  have hfirst := (hcall i hi).1
  have hone : (outD (f i) (yF i)).one = true := by
    cases hfi : f i with
    | ok x j => exact dR_one x
    | err c p q => exact ((hcall i hi).2 _ _ _ hfi).2.1
  have hcel := cells_one hone
  refine AW_rg (tyOf_good _) [0, 1, 2, 3, 9] [500, 501, 13] (notIn_ok rfl) fun K' hK' => ?_
  repeat (refine sxf_next fun K2 hK2 => ?_; simp [dNum, pRow, dS, hcel]; (repeat (refine ⟨by omega, ?_⟩)); refine hK2 _ ?_; clear hK2 K2)
  refine sxf_next fun K2 hK2 => ?_
  simp [dNum, pRow, dS, hcel]
  refine callK.mc (hfirst) (by simp [dNum, pRow, dS, hcel]) (by simp [dNum, pRow, dS, hcel]) (by simp [dNum, pRow, dS, hcel]) (by simp [dNum, pRow, dS, hcel]) ?_
  simp [dNum, pRow, dS, hcel]
  refine hK2 _ ?_
  clear hK2 K2
  repeat (refine sxf_next fun K2 hK2 => ?_; simp [dNum, pRow, dS, hcel]; (repeat (refine ⟨by omega, ?_⟩)); refine hK2 _ ?_; clear hK2 K2)
  refine sxf_nil (hK' _ ?_)
  refine AW.st (by simp [dNum, pRow, dS, hcel]; rfl) ?_
  clear hK' K'
  refine AW_then fun K1 hK1 => ?_
  refine AW_for (S := Nat × List D × Int × Int) (fun z => (z.2.2.1 = 0 ∧ z.2.2.2 = -1 ∧ z.1 ≤ t.length ∧ ∃ acc, z.2.1 = acc.map dR ∧ 0 < acc.length ∧ acc.length ≤ z.1 ∧ (if (takeM t s z.1).1 then sevA t s f (takeM t s z.1).2 acc else .ok acc (takeM t s z.1).2) = R ∧ ((takeM t s z.1).1 = true → sevZ t s f (takeM t s z.1).2 acc = Z)) ∨ (0 < z.2.2.1 ∧ z.2.1.length ≤ 2001 ∧ ∃ c p q, R = .err c p q ∧ z.2.2.1 = c ∧ z.2.2.2 = p ∧ z.2.1 = Z.1.map dR ++ [yF Z.2] ∧ z.1 = kF Z.2))
    (fun z => ⟨lst [(0, .ref 500 0 0), (1, .d (.v (.int .u8 sn))), (2, .d (dNum a)), (3, .fn (.func g) [.ref 501 0 0]), (9, .own 13 0 z.2.1.length)], hlst [(500, .box 70 [.d (dS t), int z.1, int z.2.2.1, int z.2.2.2]), (501, .box 68 [.ref 500 0 0]), (13, .sl 25 1 (z.2.1.map fun y => [y]))]⟩) (fun z => if z.2.2.1 = 0 then t.length + 1 - z.1 else 0) (outK (f i) (kF i), [outD (f i) (yF i)], eR (f i), pR (f i)) ?_ ?_ ?_
  · refine Imp.to' (notIn_ok rfl) (by simp [dNum, pRow, dS]) (by simp [dNum, pRow, dS])
  · cases hfi : f i with
    | ok x j =>
      obtain ⟨g1, g2⟩ := hf i x j hi hfi
      rw [sev_step hf hi, hfi] at hR
      rw [sevZ_step hf hi, hfi] at hZ
      exact .inl ⟨rfl, rfl, g2, [x], rfl, by simp, by simp [outK]; omega, hR, fun h => by dsimp only [outK] at h ⊢; simpa only [h, if_true, List.nil_append] using hZ⟩
    | err c p q =>
      rw [sev_step hf hi, hfi] at hR
      rw [sevZ_step hf hi, hfi] at hZ
      obtain ⟨h1, h2, h3⟩ := (hcall i hi).2 _ _ _ hfi
      exact .inr ⟨h1, by simp, c, p, 0, hR.symm, rfl, rfl, by rw [← hZ]; rfl, by rw [← hZ]; rfl⟩
  · rintro ⟨k, ys, e, p⟩ hI
    dsimp only at hI ⊢
    refine AW_then fun K2 hK2 => ?_
    refine (fun hcont => ?_) (fun (σ : St) (k : Nat) (ys : List D) (e p : Int) (hl : ys.length ≤ 2001) (hcond : (e = 0 ∧ p = -1 ∧ ∃ acc, ys = acc.map dR ∧ R = .ok acc k) ∨ (∃ c p' q, R = .err c p' q ∧ e = c ∧ p = p' ∧ ys = Z.1.map dR ++ [yF Z.2] ∧ k = kF Z.2)) himp =>
      hK1 σ (AW.imp (τ := ⟨lst [(0, .ref 500 0 0), (1, .d (.v (.int .u8 sn))), (9, .own 13 0 ys.length)], hlst [(500, .box 70 [.d (dS t), int k, int e, int p]), (501, .box 68 [.ref 500 0 0]), (13, .sl 25 1 (ys.map fun y => [y]))]⟩) himp ?_))
    · rcases hI with ⟨rfl, rfl, hk, acc, rfl, hacc, hak, hRk, hZk⟩ | ⟨he, hlen, c, p', q, hRe, rfl, rfl, rfl, rfl⟩
      · have hnx := pnext_spec G t k (by omega) hk 0 (-1)
        have htk := nx_take (t := t) (i := k) hs0
        rw [hsn] at htk
        have ht2 := take_two (t := t) (c := s) (i := k)
        obtain ⟨t1, t2, t3⟩ := take_goes (t := t) (c := s) hk
        have htop := skipB_top hk
        by_cases hb : ((nxB t k).toNat : Int) = sn
        · rw [decide_eq_true hb] at htk
          rw [htk] at hRk hZk ht2 t3
          simp only [if_true] at hRk ht2
          have hZk := hZk rfl
          have t3 := t3 rfl
          rw [ht2] at hRk hZk t2 t3
          refine AW_rg (tyOf_good _) [0, 1, 2, 3, 9, 25] [500, 501, 13] (notIn_ok rfl) fun K' hK' => ?_
          repeat (refine sxf_next fun K2 hK2 => ?_; simp [dNum, pRow, dS, hb]; (repeat (refine ⟨by omega, ?_⟩)); refine hK2 _ ?_; clear hK2 K2)
          refine sxf_next fun K2 hK2 => ?_
          simp [dNum, pRow, dS, hb]
          refine callK.mc (hnx) (by simp [dNum, pRow, dS, hb]) (by simp [dNum, pRow, dS, hb]) (by simp [dNum, pRow, dS, hb]) (by simp [dNum, pRow, dS, hb]) ?_
          simp [dNum, pRow, dS, hb]
          refine hK2 _ ?_
          clear hK2 K2
          repeat (refine sxf_next fun K2 hK2 => ?_; simp [dNum, pRow, dS, hb]; (repeat (refine ⟨by omega, ?_⟩)); refine hK2 _ ?_; clear hK2 K2)
          refine sxf_nil (hK' _ ?_)
          refine AW.st (by simp [dNum, pRow, dS, hb]; rfl) ?_
          clear hK' K'
          refine AW_cond true rfl (fun _ => ?_) (fun h => by cases h)
          refine AW_skip (hK2 _ ?_)
          refine AW_block ?_
          refine AW_rg (tyOf_good _) [0, 1, 2, 3, 9] [500, 501, 13] (notIn_ok rfl) fun K' hK' => ?_
          repeat (refine sxf_next fun K2 hK2 => ?_; simp [dNum, pRow, dS]; (repeat (refine ⟨by omega, ?_⟩)); refine hK2 _ ?_; clear hK2 K2)
          refine sxf_nil (hK' _ ?_)
          refine AW.st (by simp [dNum, pRow, dS]; rfl) ?_
          clear hK' K'
          have hnext := (hcall _ t2).1
          rw [Int.natCast_add] at hnext
          have hone2 : (outD (f (skipB t k + 1)) (yF (skipB t k + 1))).one = true := by
            cases hfi : f (skipB t k + 1) with
            | ok x j => exact dR_one x
            | err c p q => exact ((hcall _ t2).2 _ _ _ hfi).2.1
          have hcel2 := cells_one hone2
          refine AW_re (tyOf_good _) fun K' hK' => ?_
          repeat (refine sxf_next fun K2 hK2 => ?_; simp [dNum, pRow, dS, hcel2, hone2, List.take_of_length_le]; (repeat (refine ⟨by omega, ?_⟩)); refine hK2 _ ?_; clear hK2 K2)
          refine sxf_next fun K2 hK2 => ?_
          simp [dNum, pRow, dS, hcel2, hone2, List.take_of_length_le]
          refine callK.mc (hnext) (by simp [dNum, pRow, dS, hcel2, hone2, List.take_of_length_le]) (by simp [dNum, pRow, dS, hcel2, hone2, List.take_of_length_le]) (by simp [dNum, pRow, dS, hcel2, hone2, List.take_of_length_le]) (by simp [dNum, pRow, dS, hcel2, hone2, List.take_of_length_le]) ?_
          simp [dNum, pRow, dS, hcel2, hone2, List.take_of_length_le]
          refine hK2 _ ?_
          clear hK2 K2
          repeat (refine sxf_next fun K2 hK2 => ?_; simp [dNum, pRow, dS, hcel2, hone2, List.take_of_length_le]; (repeat (refine ⟨by omega, ?_⟩)); refine hK2 _ ?_; clear hK2 K2)
          refine sxf_nil (hK' _ ?_)
          clear hK' K'
          try simp only [thn, inb]
          refine Again.mk (outK (f (skipB t k + 1)) (kF (skipB t k + 1)), acc.map dR ++ [outD (f (skipB t k + 1)) (yF (skipB t k + 1))], eR (f (skipB t k + 1)), pR (f (skipB t k + 1))) ?_ ?_ ?_
          · cases hfi : f (skipB t k + 1) with
            | ok x j =>
              obtain ⟨g1, g2⟩ := hf _ x j t2 hfi
              rw [sev_step hf t2, hfi] at hRk
              rw [sevZ_step hf t2, hfi] at hZk
              exact .inl ⟨rfl, rfl, g2, acc ++ [x], by simp [outD], by simp, by simp [outK]; omega, hRk, fun h => by dsimp only [outK] at h ⊢; simpa only [h, if_true] using hZk⟩
            | err c p q =>
              rw [sev_step hf t2, hfi] at hRk
              rw [sevZ_step hf t2, hfi] at hZk
              obtain ⟨h1, h2, h3⟩ := (hcall _ t2).2 _ _ _ hfi
              exact .inr ⟨h1, by simp; omega, c, p, 0, hRk.symm, rfl, rfl, by rw [← hZk]; rfl, by rw [← hZk]; rfl⟩
          · cases hfi : f (skipB t k + 1) with
            | ok x j =>
              obtain ⟨g1, g2⟩ := hf _ x j t2 hfi
              simp only [eR, outK, if_true]
              omega
            | err c p q =>
              obtain ⟨h1, h2, h3⟩ := (hcall _ t2).2 _ _ _ hfi
              have hc0 : ¬ c = 0 := by omega
              simp [eR, hc0]
              omega
          · refine Imp.to' (notIn_ok rfl) (by simp [dNum, pRow, dS]) (by simp [dNum, pRow, dS])
        · rw [decide_eq_false hb] at htk
          rw [htk] at hRk ht2
          simp only [Bool.false_eq_true, if_false] at hRk ht2
          refine AW_rg (tyOf_good _) [0, 1, 2, 3, 9, 25] [500, 501, 13] (notIn_ok rfl) fun K' hK' => ?_
          repeat (refine sxf_next fun K2 hK2 => ?_; simp [dNum, pRow, dS, hb]; (repeat (refine ⟨by omega, ?_⟩)); refine hK2 _ ?_; clear hK2 K2)
          refine sxf_next fun K2 hK2 => ?_
          simp [dNum, pRow, dS, hb]
          refine callK.mc (hnx) (by simp [dNum, pRow, dS, hb]) (by simp [dNum, pRow, dS, hb]) (by simp [dNum, pRow, dS, hb]) (by simp [dNum, pRow, dS, hb]) ?_
          simp [dNum, pRow, dS, hb]
          refine hK2 _ ?_
          clear hK2 K2
          repeat (refine sxf_next fun K2 hK2 => ?_; simp [dNum, pRow, dS, hb]; (repeat (refine ⟨by omega, ?_⟩)); refine hK2 _ ?_; clear hK2 K2)
          refine sxf_nil (hK' _ ?_)
          refine AW.st (by simp [dNum, pRow, dS, hb]; rfl) ?_
          clear hK' K'
          refine AW_cond false rfl (fun h => by cases h) (fun _ => ?_)
          refine AW_exit (hcont _ (skipB t k) (acc.map dR) 0 (-1) (by simp; omega) (.inl ⟨rfl, rfl, acc, rfl, by rw [← hRk, ht2]⟩) ?_)
          refine Imp.to' (notIn_ok rfl) (by simp [dNum, pRow, dS]) (by simp [dNum, pRow, dS])
      · have he2 : ¬ e = 0 := by omega
        refine AW_rg (tyOf_good _) [0, 1, 2, 3, 9, 25] [500, 501, 13] (notIn_ok rfl) fun K' hK' => ?_
        repeat (refine sxf_next fun K2 hK2 => ?_; simp [dNum, pRow, dS, he2]; (repeat (refine ⟨by omega, ?_⟩)); refine hK2 _ ?_; clear hK2 K2)
        refine sxf_nil (hK' _ ?_)
        refine AW.st (by simp [dNum, pRow, dS, he2]; rfl) ?_
        clear hK' K'
        refine AW_cond false rfl (fun h => by cases h) (fun _ => ?_)
        refine AW_exit (hcont _ (kF Z.2) _ e p' hlen (.inr ⟨e, p', q, hRe, rfl, rfl, rfl, rfl⟩) ?_)
        refine Imp.to' (notIn_ok rfl) (by simp [dNum, pRow, dS]) (by simp [dNum, pRow, dS])
    · obtain ⟨h1, h2, h3, h4⟩ := hend k ys e p hcond
      rw [h1, h2, h3, h4]
      refine AW_then fun K3 hK3 => ?_
      by_cases hl1 : ys.length = 1
      · obtain ⟨y, rfl⟩ := List.length_eq_one_iff.1 hl1
        refine AW_rg (tyOf_good _) [1, 9, 41] [500, 501, 13] (notIn_ok rfl) fun K' hK' => ?_
        repeat (refine sxf_next fun K2 hK2 => ?_; simp [dNum, pRow, dS]; (repeat (refine ⟨by omega, ?_⟩)); refine hK2 _ ?_; clear hK2 K2)
        refine sxf_nil (hK' _ ?_)
        refine AW.st (by simp [dNum, pRow, dS]; rfl) ?_
        clear hK' K'
        refine AW_cond true rfl (fun _ => ?_) (fun h => by cases h)
        refine AW_rg (tyOf_good _) [8] [500, 501] (notIn_ok rfl) fun K' hK' => ?_
        repeat (refine sxf_next fun K2 hK2 => ?_; simp [dNum, pRow, dS]; (repeat (refine ⟨by omega, ?_⟩)); refine hK2 _ ?_; clear hK2 K2)
        refine sxf_nil (hK' _ ?_)
        refine AW.st (by simp [dNum, pRow, dS]; rfl) ?_
        clear hK' K'
        refine AW_ret ?_
        simp [D.le, D.le.go, takeMap, dNum, pRow, dS, rowD, D.le_refl]
      · have hl2 : ¬ (ys.length : Int) = 1 := by omega
        refine AW_rg (tyOf_good _) [1, 9, 41] [500, 501, 13] (notIn_ok rfl) fun K' hK' => ?_
        repeat (refine sxf_next fun K2 hK2 => ?_; simp [dNum, pRow, dS, hl1, hl2]; (repeat (refine ⟨by omega, ?_⟩)); refine hK2 _ ?_; clear hK2 K2)
        refine sxf_nil (hK' _ ?_)
        refine AW.st (by simp [dNum, pRow, dS, hl1, hl2]; rfl) ?_
        clear hK' K'
        refine AW_cond false rfl (fun h => by cases h) (fun _ => ?_)
        refine AW_skip (hK3 _ ?_)
        refine AW.imp (Imp.freeze 13 (by decide)) ?_
        refine AW.st (by simp [dNum, pRow, dS, List.take_of_length_le]; rfl) ?_
        refine AW_rg (tyOf_good _) [8] [500, 501, 49] (notIn_ok rfl) fun K' hK' => ?_
        repeat (refine sxf_next fun K2 hK2 => ?_; simp [dNum, pRow, dS, henc]; (repeat (refine ⟨by omega, ?_⟩)); refine hK2 _ ?_; clear hK2 K2)
        refine sxf_nil (hK' _ ?_)
        refine AW.st (by simp [dNum, pRow, dS, henc]; rfl) ?_
        clear hK' K'
        refine AW.imp (Imp.freezeB 49 (by decide)) ?_
        refine AW.st (by simp [dNum, pRow, dS]; rfl) ?_
        refine AW_ret ?_
        simp [D.le, D.le.go, takeMap, dNum, pRow, dS, rowD_ne hl1, dS, bs_nil, D.le_refl, D.leGo_refl]
end Go.Proofs.YtfehigldhedkgaaGreatDoor

/-
  The document's reader of expressions: whole, piece.
-/
namespace Go.Proofs.YtfehigldhedkgaaGreatDoor
set_option linter.unusedSimpArgs false
set_option linter.unusedVariables false
open Go.Av

theorem renH_two {r r' s : Nat} (h : r ≠ r') (hs : s ≠ r') (hr : s ≠ r) (row row2 : Row) : renH r r' (hlst [(r, row), (s, row2)]) = hlst [(r', row.tr (renO r r') (renF r r')), (s, row2.tr (renO r r') (renF r r'))] := by
  funext q
  unfold renH
  by_cases h1 : q = r'
  · subst h1
    simp [hlst, List.lookup]
  · rw [if_neg h1]
    by_cases h2 : q = r
    · subst h2
      simp [hlst, List.lookup, beq_eq_false_iff_ne.2 h1, beq_eq_false_iff_ne.2 (Ne.symm hr)]
    · by_cases h3 : q = s
      · subst h3
        simp [hlst, List.lookup, h2, beq_eq_false_iff_ne.2 h1, beq_eq_false_iff_ne.2 h2]
      · simp [hlst, List.lookup, h2, beq_eq_false_iff_ne.2 h1, beq_eq_false_iff_ne.2 h2, beq_eq_false_iff_ne.2 h3]
theorem colA_row (l : List Ex) : dR (colA l) = rowD 38 (l.map dR) := by
  match l with
  | [] => rfl
  | [x] => rfl
  | x :: y :: l => rw [rowD_ne (by simp)]; simp [colA, dR, dRs_map]
theorem colO_row (l : List Ex) : dR (colO l) = rowD 124 (l.map dR) := by
  match l with
  | [] => rfl
  | [x] => rfl
  | x :: y :: l => rw [rowD_ne (by simp)]; simp [colO, dR, dRs_map]
theorem l33 : (⟨#[33]⟩ : ByteArray) = bs [33] := rfl
theorem lbit : (⟨#[98, 105, 116]⟩ : ByteArray) = bs [98, 105, 116] := rfl
theorem enc38 : Utf8.encode 38 = bs [38] := by decide +kernel
theorem enc124 : Utf8.encode 124 = bs [124] := by decide +kernel
theorem enc48 : Utf8.encode 48 = bs [48] := by decide +kernel
theorem enc49 : Utf8.encode 49 = bs [49] := by decide +kernel
theorem enc94 : Utf8.encode 94 = bs [94] := by decide +kernel
theorem enc126 : Utf8.encode 126 = bs [126] := by decide +kernel

set_option maxHeartbeats 4000000 in
theorem pwhole1_spec (G : Glob) (t : List UInt8) (ht : t.length ≤ 2000) (a : Int) (d : Nat) (h : Reads G t [500] [] 44 [.ref 500 0 0, .d (dNum a)] d (oneR t d)) :
    Reads G t [500, 501] [(501, .box 68 [.ref 500 0 0])] 43 [.d (dNum a), .ref 501 0 0] d (andR t (oneR t d)) := by
  obtain ⟨yF, kF, hr⟩ := prow_bm G t ht 44 38 38 rfl (by decide) enc38 a d (oneR t d) (one_goes t d) colA colA_row h
  refine ⟨yF, kF, fun i hi => ⟨?_, (hr i hi).2⟩⟩
  have hc := (hr i hi).1
  have hR : andR t (oneR t d) i = (sevA t 38 (oneR t d) i []).map colA := rfl
  dsimp only at hc
  rw [← hR] at hc
  generalize andR t (oneR t d) i = R at hc ⊢
  refine MC.of_body (tyOf_good _) Tryz.func43 rfl rfl (rs := [.tmp 3]) Tryz.results43 (by simp [Tryz.ntmps43]) rfl fun X => ?_
  simp only [Tryz.ntmps43]
  refine AW_rg (tyOf_good _) [0, 1] [500, 501] (notIn_ok rfl) fun K' hK' => ?_
  repeat (refine sxf_next fun K2 hK2 => ?_; simp [dNum, pRow, dS]; (repeat (refine ⟨by omega, ?_⟩)); refine hK2 _ ?_; clear hK2 K2)
  refine sxf_nil (hK' _ ?_)
  refine AW.st (by simp [dNum, pRow, dS]; rfl) ?_
  clear hK' K'
  refine AW_rg (tyOf_good _) [3] [500, 501] (notIn_ok rfl) fun K' hK' => ?_
  repeat (refine sxf_next fun K2 hK2 => ?_; simp [dNum, pRow, dS]; (repeat (refine ⟨by omega, ?_⟩)); refine hK2 _ ?_; clear hK2 K2)
  refine sxf_next fun K2 hK2 => ?_
  simp [dNum, pRow, dS]
  refine callK.mc (hc) (by simp [dNum, pRow, dS]) (by simp [dNum, pRow, dS]) (by simp [dNum, pRow, dS]) (by simp [dNum, pRow, dS]) ?_
  simp [dNum, pRow, dS]
  refine hK2 _ ?_
  clear hK2 K2
  repeat (refine sxf_next fun K2 hK2 => ?_; simp [dNum, pRow, dS]; (repeat (refine ⟨by omega, ?_⟩)); refine hK2 _ ?_; clear hK2 K2)
  refine sxf_nil (hK' _ ?_)
  refine AW.st (by simp [dNum, pRow, dS]; rfl) ?_
  clear hK' K'
  refine AW_ret ?_
  simp [D.le, D.le.go, takeMap, dNum, pRow, dS, pRow, dS, D.le_refl, D.leGo_refl]
set_option maxHeartbeats 4000000 in
theorem pwhole_spec (G : Glob) (t : List UInt8) (ht : t.length ≤ 2000) (a : Int) (d : Nat) (h : Reads G t [500] [] 44 [.ref 500 0 0, .d (dNum a)] d (oneR t d)) :
    Reads G t [500] [] 29 [.ref 500 0 0, .d (dNum a)] d (orR t (oneR t d)) := by
  obtain ⟨yF, kF, hr⟩ := prow_fn G t ht 43 124 124 rfl (by decide) enc124 a d (andR t (oneR t d)) (and_goes (one_goes t d)) colO colO_row (pwhole1_spec G t ht a d h)
  refine ⟨yF, kF, fun i hi => ⟨?_, (hr i hi).2⟩⟩
  have hc := (hr i hi).1
  have hR : orR t (oneR t d) i = (sevA t 124 (andR t (oneR t d)) i []).map colO := rfl
  dsimp only at hc
  rw [← hR] at hc
  generalize orR t (oneR t d) i = R at hc ⊢
  refine MC.of_body (tyOf_good _) Tryz.func29 rfl rfl (rs := [.tmp 4]) Tryz.results29 (by simp [Tryz.ntmps29]) rfl fun X => ?_
  simp only [Tryz.ntmps29]
  refine AW_rg (tyOf_good _) [1, 2] [2, 500] (notIn_ok rfl) fun K' hK' => ?_
  repeat (refine sxf_next fun K2 hK2 => ?_; simp [dNum, pRow, dS]; (repeat (refine ⟨by omega, ?_⟩)); refine hK2 _ ?_; clear hK2 K2)
  refine sxf_nil (hK' _ ?_)
  refine AW.st (by simp [dNum, pRow, dS]; rfl) ?_
  clear hK' K'
  refine AW.imp (Imp.ren (r := 2) (r' := 501) (by decide) (by simp)) ?_
  refine AW.st (by simp [renO, renF, Go.Av.ren, renH_two]; rfl) ?_
  refine AW_rg (tyOf_good _) [4] [500, 501] (notIn_ok rfl) fun K' hK' => ?_
  repeat (refine sxf_next fun K2 hK2 => ?_; simp [dNum, pRow, dS]; (repeat (refine ⟨by omega, ?_⟩)); refine hK2 _ ?_; clear hK2 K2)
  refine sxf_next fun K2 hK2 => ?_
  simp [dNum, pRow, dS]
  refine callK.mc (hc) (by simp [dNum, pRow, dS]) (by simp [dNum, pRow, dS]) (by simp [dNum, pRow, dS]) (by simp [dNum, pRow, dS]) ?_
  simp [dNum, pRow, dS]
  refine hK2 _ ?_
  clear hK2 K2
  repeat (refine sxf_next fun K2 hK2 => ?_; simp [dNum, pRow, dS]; (repeat (refine ⟨by omega, ?_⟩)); refine hK2 _ ?_; clear hK2 K2)
  refine sxf_nil (hK' _ ?_)
  refine AW.st (by simp [dNum, pRow, dS]; rfl) ?_
  clear hK' K'
  refine AW_ret ?_
  simp [D.le, D.le.go, takeMap, dNum, pRow, dS, pRow, dS, D.le_refl, D.leGo_refl]

/-! ### One piece -/
theorem nx_some {t : List UInt8} {i : Nat} {c : UInt8} (h : t[skipB t i]? = some c) : nxB t i = c := by
  unfold nxB
  rw [List.getD_eq_getElem?_getD, h]
  rfl
theorem nx_ne {t : List UInt8} {i : Nat} {c : UInt8} (hc : c ≠ 0) (h : t[skipB t i]? ≠ some c) : ¬ ((nxB t i).toNat : Int) = (c.toNat : Int) := by
  have h1 := nx_take (t := t) (i := i) hc
  have h2 : (takeM t c i).1 = false := by
    unfold takeM
    rw [if_neg h]
  rw [h2] at h1
  exact of_decide_eq_false h1.symm
def notR : Rs Ex → Rs Ex
  | .ok x k => .ok (.not x) k
  | .err c p _ => .err c p 0
theorem word_ok {t : List UInt8} {q i j : Nat} {s : List UInt8} (h : wordR t q i = .ok s j) : wordS t (skipB t i) = s := by
  unfold wordR at h
  split at h
  · cases h
  · split at h
    · cases h
    · simp only [Rs.ok.injEq] at h
      exact h.1
theorem word_pos {t : List UInt8} {q i p q' : Nat} {c : Int} (hi : i ≤ t.length) (h : wordR t q i = .err c p q') : 0 < c ∧ p ≤ t.length := by
  have htop := skipB_top hi
  unfold wordR at h
  split at h
  · simp only [Rs.err.injEq] at h; omega
  · split at h
    · simp only [Rs.err.injEq] at h; omega
    · cases h

set_option maxHeartbeats 32000000 in
theorem piece_spec (G : Glob) (t : List UInt8) (ht : t.length ≤ 2000) : ∀ (d : Nat) (a : Int), d ≤ 20 → a + d = 20 → Reads G t [500] [] 44 [.ref 500 0 0, .d (dNum a)] d (oneR t d) := by
  intro d
  induction d with
  | zero =>
    intro a _ ha
    refine reads_of fun i hi => ⟨.v (.pointer none), skipB t i, ?_, fun c p q h => ?_⟩
    · have hfl := pfail_spec G t i (by omega) hi 4
      have ha2 : 20 ≤ a := by omega
      rw [oneR]
      show MC _ _ _ _ _ _ (.d (.v (.pointer none))) (hlst (pRow t (skipB t i) 4 (skipB t i) ++ []))
      refine MC.of_body (tyOf_good _) Tryz.func44 rfl rfl (rs := [.tmp 4]) Tryz.results44 (by simp [Tryz.ntmps44]) rfl fun X => ?_
      simp only [Tryz.ntmps44]
      refine AW_rg (tyOf_good _) [0, 1] [500] (notIn_ok rfl) fun K' hK' => ?_
      repeat (refine sxf_next fun K2 hK2 => ?_; simp [dNum, pRow, dS]; (repeat (refine ⟨by omega, ?_⟩)); refine hK2 _ ?_; clear hK2 K2)
      refine sxf_nil (hK' _ ?_)
      refine AW.st (by simp [dNum, pRow, dS]; rfl) ?_
      clear hK' K'
      refine AW_then fun K1 hK1 => ?_
      refine AW_rg (tyOf_good _) [0, 1, 12] [500] (notIn_ok rfl) fun K' hK' => ?_
      repeat (refine sxf_next fun K2 hK2 => ?_; simp [dNum, pRow, dS]; (repeat (refine ⟨by omega, ?_⟩)); refine hK2 _ ?_; clear hK2 K2)
      refine sxf_nil (hK' _ ?_)
      refine AW.st (by simp [dNum, pRow, dS]; rfl) ?_
      clear hK' K'
      refine AW_cond false rfl (fun h => by cases h) (fun _ => ?_)
      refine AW_skip (hK1 _ ?_)
      refine AW_then fun K2 hK2 => ?_
      refine AW_rg (tyOf_good _) [0, 1, 14] [500] (notIn_ok rfl) fun K' hK' => ?_
      repeat (refine sxf_next fun K2 hK2 => ?_; simp [dNum, pRow, dS, ha2]; (repeat (refine ⟨by omega, ?_⟩)); refine hK2 _ ?_; clear hK2 K2)
      refine sxf_nil (hK' _ ?_)
      refine AW.st (by simp [dNum, pRow, dS, ha2]; rfl) ?_
      clear hK' K'
      refine AW_cond true rfl (fun _ => ?_) (fun h => by cases h)
      refine AW_rg (tyOf_good _) [4] [500] (notIn_ok rfl) fun K' hK' => ?_
      repeat (refine sxf_next fun K2 hK2 => ?_; simp [dNum, pRow, dS]; (repeat (refine ⟨by omega, ?_⟩)); refine hK2 _ ?_; clear hK2 K2)
      refine sxf_next fun K2 hK2 => ?_
      simp [dNum, pRow, dS]
      refine callK.mc (hfl) (by simp [dNum, pRow, dS]) (by simp [dNum, pRow, dS]) (by simp [dNum, pRow, dS]) (by simp [dNum, pRow, dS]) ?_
      simp [dNum, pRow, dS]
      refine hK2 _ ?_
      clear hK2 K2
      repeat (refine sxf_next fun K2 hK2 => ?_; simp [dNum, pRow, dS]; (repeat (refine ⟨by omega, ?_⟩)); refine hK2 _ ?_; clear hK2 K2)
      refine sxf_nil (hK' _ ?_)
      refine AW.st (by simp [dNum, pRow, dS]; rfl) ?_
      clear hK' K'
      refine AW_ret ?_
      simp [D.le, D.le.go, takeMap, dNum, pRow, dS, pRow, dS]
    · rw [oneR] at h
      simp only [Rs.err.injEq] at h
      have := skipB_top hi
      exact ⟨by omega, rfl, by omega⟩
  | succ d ih =>
    intro a hd ha
    have ih' := ih (a + 1) (by omega) (by omega)
    have hwh := pwhole_spec G t ht (a + 1) d ih'
    obtain ⟨yF, kF, ih'⟩ := ih'
    obtain ⟨yO, kO, hwh⟩ := hwh
    refine reads_of fun i hi => ?_
    have hnx := pnext_spec G t i (by omega) hi 0 (-1)
    have htop := skipB_top hi
    have ha2 : ¬ 20 ≤ a := by omega
    have ha0 : 0 ≤ a := by omega
    have nsome := fun (c : UInt8) (h : t[skipB t i]? = some c) => nx_some h
    have nne := fun (c : UInt8) (hc : c ≠ 0) (h : t[skipB t i]? ≠ some c) => nx_ne hc h
    have hlt : ∀ {c : UInt8}, t[skipB t i]? = some c → skipB t i + 1 ≤ t.length := fun h => (List.getElem?_eq_some_iff.1 h).1
    rw [oneR]
    generalize nxB t i = b at hnx nsome nne
    generalize skipB t i = j at hnx htop nsome nne hlt ⊢
    by_cases c33 : t[j]? = some 33
    · rw [if_pos c33]
      obtain rfl := nsome 33 c33
      have hc := (ih' (j + 1) (hlt c33)).1
      rw [Int.natCast_add] at hc
      have he := (ih' (j + 1) (hlt c33)).2
      have hone : (outD (oneR t d (j + 1)) (yF (j + 1))).one = true := by
        cases hfi : oneR t d (j + 1) with
        | ok x k => exact dR_one x
        | err c p q => exact (he _ _ _ hfi).2.1
      have hcel := cells_one hone
      change ∃ y k, PSx G t [500] [] 44 [.ref 500 0 0, .d (dNum a)] (d + 1) (notR (oneR t d (j + 1))) i y k
      generalize hRR : oneR t d (j + 1) = R at hc he hone hcel ⊢
      refine ⟨.ip [dS [33], dS [], .sl none [[yF (j + 1)]]], kF (j + 1), ?_, fun c p q h => ?_⟩
      · have h1 : outD (notR R) (.ip [dS [33], dS [], .sl none [[yF (j + 1)]]]) = .ip [dS [33], dS [], .sl none [[outD R (yF (j + 1))]]] := by cases R <;> rfl
        have h2 : outK (notR R) (kF (j + 1)) = outK R (kF (j + 1)) := by cases R <;> rfl
        have h3 : eR (notR R) = eR R := by cases R <;> rfl
        have h4 : pR (notR R) = pR R := by cases R <;> rfl
        rw [h1, h2, h3, h4]
        refine MC.of_body (tyOf_good _) Tryz.func44 rfl rfl (rs := [.tmp 4]) Tryz.results44 (by simp [Tryz.ntmps44]) rfl fun X => ?_
        simp only [Tryz.ntmps44]
        refine AW_rg (tyOf_good _) [0, 1] [500] (notIn_ok rfl) fun K' hK' => ?_
        repeat (refine sxf_next fun K2 hK2 => ?_; simp [dNum, pRow, dS]; (repeat (refine ⟨by omega, ?_⟩)); refine hK2 _ ?_; clear hK2 K2)
        refine sxf_nil (hK' _ ?_)
        refine AW.st (by simp [dNum, pRow, dS]; rfl) ?_
        clear hK' K'
        refine AW_then fun K1 hK1 => ?_
        refine AW_rg (tyOf_good _) [0, 1, 12] [500] (notIn_ok rfl) fun K' hK' => ?_
        repeat (refine sxf_next fun K2 hK2 => ?_; simp [dNum, pRow, dS]; (repeat (refine ⟨by omega, ?_⟩)); refine hK2 _ ?_; clear hK2 K2)
        refine sxf_nil (hK' _ ?_)
        refine AW.st (by simp [dNum, pRow, dS]; rfl) ?_
        clear hK' K'
        refine AW_cond false rfl (fun h => by cases h) (fun _ => ?_)
        refine AW_skip (hK1 _ ?_)
        refine AW_then fun K2 hK2 => ?_
        refine AW_rg (tyOf_good _) [0, 1, 14] [500] (notIn_ok rfl) fun K' hK' => ?_
        repeat (refine sxf_next fun K2 hK2 => ?_; simp [dNum, pRow, dS, ha2]; (repeat (refine ⟨by omega, ?_⟩)); refine hK2 _ ?_; clear hK2 K2)
        refine sxf_nil (hK' _ ?_)
        refine AW.st (by simp [dNum, pRow, dS, ha2]; rfl) ?_
        clear hK' K'
        refine AW_cond false rfl (fun h => by cases h) (fun _ => ?_)
        refine AW_skip (hK2 _ ?_)
        refine AW_then fun K3 hK3 => ?_
        refine AW_rg (tyOf_good _) [0, 1, 5] [500] (notIn_ok rfl) fun K' hK' => ?_
        repeat (refine sxf_next fun K2 hK2 => ?_; simp [dNum, pRow, dS]; (repeat (refine ⟨by omega, ?_⟩)); refine hK2 _ ?_; clear hK2 K2)
        refine sxf_next fun K2 hK2 => ?_
        simp [dNum, pRow, dS]
        refine callK.mc (hnx) (by simp [dNum, pRow, dS]) (by simp [dNum, pRow, dS]) (by simp [dNum, pRow, dS]) (by simp [dNum, pRow, dS]) ?_
        simp [dNum, pRow, dS]
        refine hK2 _ ?_
        clear hK2 K2
        repeat (refine sxf_next fun K2 hK2 => ?_; simp [dNum, pRow, dS]; (repeat (refine ⟨by omega, ?_⟩)); refine hK2 _ ?_; clear hK2 K2)
        refine sxf_nil (hK' _ ?_)
        refine AW.st (by simp [dNum, pRow, dS]; rfl) ?_
        clear hK' K'
        refine AW_rg (tyOf_good _) [0, 1, 5, 19] [500] (notIn_ok rfl) fun K' hK' => ?_
        repeat (refine sxf_next fun K2 hK2 => ?_; simp [dNum, pRow, dS]; (repeat (refine ⟨by omega, ?_⟩)); refine hK2 _ ?_; clear hK2 K2)
        refine sxf_nil (hK' _ ?_)
        refine AW.st (by simp [dNum, pRow, dS]; rfl) ?_
        clear hK' K'
        refine AW_block ?_
        refine AW_rg (tyOf_good _) [0, 1, 5, 19, 20] [500] (notIn_ok rfl) fun K' hK' => ?_
        repeat (refine sxf_next fun K2 hK2 => ?_; simp [dNum, pRow, dS]; (repeat (refine ⟨by omega, ?_⟩)); refine hK2 _ ?_; clear hK2 K2)
        refine sxf_nil (hK' _ ?_)
        refine AW.st (by simp [dNum, pRow, dS]; rfl) ?_
        clear hK' K'
        refine AW_cond true rfl (fun _ => ?_) (fun h => by cases h)
        refine AW_rg (tyOf_good _) [0, 1] [500] (notIn_ok rfl) fun K' hK' => ?_
        repeat (refine sxf_next fun K2 hK2 => ?_; simp [dNum, pRow, dS]; (repeat (refine ⟨by omega, ?_⟩)); refine hK2 _ ?_; clear hK2 K2)
        refine sxf_nil (hK' _ ?_)
        refine AW.st (by simp [dNum, pRow, dS]; rfl) ?_
        clear hK' K'
        refine AW_rg (tyOf_good _) [4] [33, 35, 500] (notIn_ok rfl) fun K' hK' => ?_
        repeat (refine sxf_next fun K2 hK2 => ?_; simp [dNum, pRow, dS, hcel, hone, l33]; (repeat (refine ⟨by omega, ?_⟩)); refine hK2 _ ?_; clear hK2 K2)
        refine sxf_next fun K2 hK2 => ?_
        simp [dNum, pRow, dS, hcel, hone, l33]
        refine callK.mc (hc) (by simp [dNum, pRow, dS, hcel, hone, l33]) (by simp [dNum, pRow, dS, hcel, hone, l33]) (by simp [dNum, pRow, dS, hcel, hone, l33]) (by simp [dNum, pRow, dS, hcel, hone, l33]) ?_
        simp [dNum, pRow, dS, hcel, hone, l33]
        refine hK2 _ ?_
        clear hK2 K2
        repeat (refine sxf_next fun K2 hK2 => ?_; simp [dNum, pRow, dS, hcel, hone, l33]; (repeat (refine ⟨by omega, ?_⟩)); refine hK2 _ ?_; clear hK2 K2)
        refine sxf_nil (hK' _ ?_)
        refine AW.st (by simp [dNum, pRow, dS, hcel, hone, l33]; rfl) ?_
        clear hK' K'
        refine AW.imp (Imp.freeze 33 (by decide)) ?_
        refine AW.st (by simp [dNum, pRow, dS]; rfl) ?_
        refine AW.imp (Imp.freezeB 35 (by decide)) ?_
        refine AW.st (by simp [dNum, pRow, dS]; rfl) ?_
        refine AW_ret ?_
        simp [D.le, D.le.go, takeMap, dNum, pRow, dS, pRow, dS, bs_nil, D.le_refl, D.leGo_refl]
      · cases R with
        | ok x k => cases h
        | err c' p' q' =>
          simp only [notR, Rs.err.injEq] at h
          obtain ⟨rfl, rfl, rfl⟩ := h
          obtain ⟨g1, g2, g3⟩ := he _ _ _ rfl
          exact ⟨g1, rfl, by omega⟩
    rw [if_neg c33]
    have n33 : ¬ (b.toNat : Int) = 33 := nne 33 (by decide) c33
    by_cases c40 : t[j]? = some 40
    · rw [if_pos c40]
      obtain rfl := nsome 40 c40
      have hc := (hwh (j + 1) (hlt c40)).1
      rw [Int.natCast_add] at hc
      have he := (hwh (j + 1) (hlt c40)).2
      cases hr : orR t (oneR t d) (j + 1) with
      | err c p q =>
        rw [hr] at hc
        obtain ⟨g1, g2, g3⟩ := he _ _ _ hr
        have g4 : ¬ c = 0 := by omega
        refine ⟨yO (j + 1), kO (j + 1) + 1, ?_, fun c' p' q' h => ?_⟩
        · show MC _ _ _ _ _ _ (.d (yO (j + 1))) (hlst (pRow t ((kO (j + 1) + 1 : Nat) : Int) c p ++ []))
          rw [Int.natCast_add]
          refine MC.of_body (tyOf_good _) Tryz.func44 rfl rfl (rs := [.tmp 4]) Tryz.results44 (by simp [Tryz.ntmps44]) rfl fun X => ?_
          simp only [Tryz.ntmps44]
          refine AW_rg (tyOf_good _) [0, 1] [500] (notIn_ok rfl) fun K' hK' => ?_
          repeat (refine sxf_next fun K2 hK2 => ?_; simp [dNum, pRow, dS]; (repeat (refine ⟨by omega, ?_⟩)); refine hK2 _ ?_; clear hK2 K2)
          refine sxf_nil (hK' _ ?_)
          refine AW.st (by simp [dNum, pRow, dS]; rfl) ?_
          clear hK' K'
          refine AW_then fun K1 hK1 => ?_
          refine AW_rg (tyOf_good _) [0, 1, 12] [500] (notIn_ok rfl) fun K' hK' => ?_
          repeat (refine sxf_next fun K2 hK2 => ?_; simp [dNum, pRow, dS]; (repeat (refine ⟨by omega, ?_⟩)); refine hK2 _ ?_; clear hK2 K2)
          refine sxf_nil (hK' _ ?_)
          refine AW.st (by simp [dNum, pRow, dS]; rfl) ?_
          clear hK' K'
          refine AW_cond false rfl (fun h => by cases h) (fun _ => ?_)
          refine AW_skip (hK1 _ ?_)
          refine AW_then fun K2 hK2 => ?_
          refine AW_rg (tyOf_good _) [0, 1, 14] [500] (notIn_ok rfl) fun K' hK' => ?_
          repeat (refine sxf_next fun K2 hK2 => ?_; simp [dNum, pRow, dS, ha2]; (repeat (refine ⟨by omega, ?_⟩)); refine hK2 _ ?_; clear hK2 K2)
          refine sxf_nil (hK' _ ?_)
          refine AW.st (by simp [dNum, pRow, dS, ha2]; rfl) ?_
          clear hK' K'
          refine AW_cond false rfl (fun h => by cases h) (fun _ => ?_)
          refine AW_skip (hK2 _ ?_)
          refine AW_then fun K3 hK3 => ?_
          refine AW_rg (tyOf_good _) [0, 1, 5] [500] (notIn_ok rfl) fun K' hK' => ?_
          repeat (refine sxf_next fun K2 hK2 => ?_; simp [dNum, pRow, dS]; (repeat (refine ⟨by omega, ?_⟩)); refine hK2 _ ?_; clear hK2 K2)
          refine sxf_next fun K2 hK2 => ?_
          simp [dNum, pRow, dS]
          refine callK.mc (hnx) (by simp [dNum, pRow, dS]) (by simp [dNum, pRow, dS]) (by simp [dNum, pRow, dS]) (by simp [dNum, pRow, dS]) ?_
          simp [dNum, pRow, dS]
          refine hK2 _ ?_
          clear hK2 K2
          repeat (refine sxf_next fun K2 hK2 => ?_; simp [dNum, pRow, dS]; (repeat (refine ⟨by omega, ?_⟩)); refine hK2 _ ?_; clear hK2 K2)
          refine sxf_nil (hK' _ ?_)
          refine AW.st (by simp [dNum, pRow, dS]; rfl) ?_
          clear hK' K'
          refine AW_rg (tyOf_good _) [0, 1, 5, 19] [500] (notIn_ok rfl) fun K' hK' => ?_
          repeat (refine sxf_next fun K2 hK2 => ?_; simp [dNum, pRow, dS]; (repeat (refine ⟨by omega, ?_⟩)); refine hK2 _ ?_; clear hK2 K2)
          refine sxf_nil (hK' _ ?_)
          refine AW.st (by simp [dNum, pRow, dS]; rfl) ?_
          clear hK' K'
          refine AW_block ?_
          refine AW_rg (tyOf_good _) [0, 1, 5, 19, 20] [500] (notIn_ok rfl) fun K' hK' => ?_
          repeat (refine sxf_next fun K2 hK2 => ?_; simp [dNum, pRow, dS]; (repeat (refine ⟨by omega, ?_⟩)); refine hK2 _ ?_; clear hK2 K2)
          refine sxf_nil (hK' _ ?_)
          refine AW.st (by simp [dNum, pRow, dS]; rfl) ?_
          clear hK' K'
          refine AW_cond false rfl (fun h => by cases h) (fun _ => ?_)
          refine AW_rg (tyOf_good _) [0, 1, 5, 19, 36] [500] (notIn_ok rfl) fun K' hK' => ?_
          repeat (refine sxf_next fun K2 hK2 => ?_; simp [dNum, pRow, dS]; (repeat (refine ⟨by omega, ?_⟩)); refine hK2 _ ?_; clear hK2 K2)
          refine sxf_nil (hK' _ ?_)
          refine AW.st (by simp [dNum, pRow, dS]; rfl) ?_
          clear hK' K'
          refine AW_cond true rfl (fun _ => ?_) (fun h => by cases h)
          refine AW_rg (tyOf_good _) [0, 1] [500] (notIn_ok rfl) fun K' hK' => ?_
          repeat (refine sxf_next fun K2 hK2 => ?_; simp [dNum, pRow, dS]; (repeat (refine ⟨by omega, ?_⟩)); refine hK2 _ ?_; clear hK2 K2)
          refine sxf_nil (hK' _ ?_)
          refine AW.st (by simp [dNum, pRow, dS]; rfl) ?_
          clear hK' K'
          refine AW_rg (tyOf_good _) [0, 6] [500] (notIn_ok rfl) fun K' hK' => ?_
          repeat (refine sxf_next fun K2 hK2 => ?_; simp [dNum, pRow, dS, outD, outK, eR, pR]; (repeat (refine ⟨by omega, ?_⟩)); refine hK2 _ ?_; clear hK2 K2)
          refine sxf_next fun K2 hK2 => ?_
          simp [dNum, pRow, dS, outD, outK, eR, pR]
          refine callK.mc (hc) (by simp [dNum, pRow, dS, outD, outK, eR, pR]) (by simp [dNum, pRow, dS, outD, outK, eR, pR]) (by simp [dNum, pRow, dS, outD, outK, eR, pR]) (by simp [dNum, pRow, dS, outD, outK, eR, pR]) ?_
          simp [dNum, pRow, dS, outD, outK, eR, pR]
          refine hK2 _ ?_
          clear hK2 K2
          repeat (refine sxf_next fun K2 hK2 => ?_; simp [dNum, pRow, dS, outD, outK, eR, pR]; (repeat (refine ⟨by omega, ?_⟩)); refine hK2 _ ?_; clear hK2 K2)
          refine sxf_nil (hK' _ ?_)
          refine AW.st (by simp [dNum, pRow, dS, outD, outK, eR, pR]; rfl) ?_
          clear hK' K'
          refine AW_then fun K4 hK4 => ?_
          refine AW_rg (tyOf_good _) [0, 6, 59] [500] (notIn_ok rfl) fun K' hK' => ?_
          repeat (refine sxf_next fun K2 hK2 => ?_; simp [dNum, pRow, dS, g4]; (repeat (refine ⟨by omega, ?_⟩)); refine hK2 _ ?_; clear hK2 K2)
          refine sxf_nil (hK' _ ?_)
          refine AW.st (by simp [dNum, pRow, dS, g4]; rfl) ?_
          clear hK' K'
          refine AW_cond false rfl (fun h => by cases h) (fun _ => ?_)
          refine AW_skip (hK4 _ ?_)
          refine AW_rg (tyOf_good _) [6] [500] (notIn_ok rfl) fun K' hK' => ?_
          repeat (refine sxf_next fun K2 hK2 => ?_; simp [dNum, pRow, dS]; (repeat (refine ⟨by omega, ?_⟩)); refine hK2 _ ?_; clear hK2 K2)
          refine sxf_nil (hK' _ ?_)
          refine AW.st (by simp [dNum, pRow, dS]; rfl) ?_
          clear hK' K'
          refine AW_rg (tyOf_good _) [4] [500] (notIn_ok rfl) fun K' hK' => ?_
          repeat (refine sxf_next fun K2 hK2 => ?_; simp [dNum, pRow, dS]; (repeat (refine ⟨by omega, ?_⟩)); refine hK2 _ ?_; clear hK2 K2)
          refine sxf_nil (hK' _ ?_)
          refine AW.st (by simp [dNum, pRow, dS]; rfl) ?_
          clear hK' K'
          refine AW_ret ?_
          simp [D.le, D.le.go, takeMap, dNum, pRow, dS, pRow, dS, D.le_refl, D.leGo_refl]
        · simp only [Rs.err.injEq] at h
          obtain ⟨rfl, rfl, rfl⟩ := h
          exact ⟨g1, g2, by omega⟩
      | ok x k =>
        rw [hr] at hc
        dsimp only [outD, outK, eR, pR] at hc
        have hk := (or_goes (one_goes t d) (j + 1) x k (hlt c40) hr).2
        have hn2 := pnext_spec G t k (by omega) hk 0 (-1)
        have hk2 := skipB_top hk
        have hfl := pfail_spec G t (skipB t k) (by omega) hk2 3
        rw [skipB_idem hk] at hfl
        have htk := nx_take (t := t) (i := k) (c := 41) (by decide)
        have ht2 := take_two (t := t) (c := 41) (i := k)
        have hd41 : ((41 : UInt8).toNat : Int) = 41 := rfl
        rw [hd41] at htk
        dsimp only
        by_cases hb : ((nxB t k).toNat : Int) = 41
        · rw [decide_eq_true hb] at htk
          rw [htk] at ht2 ⊢
          simp only [if_true] at ht2 ⊢
          rw [ht2]
          refine ⟨default, 0, ?_, fun c p q h => by cases h⟩
          show MC _ _ _ _ _ _ (.d (dR x)) (hlst (pRow t ((skipB t k + 1 : Nat) : Int) 0 (-1) ++ []))
          rw [Int.natCast_add]
          obtain ⟨cx, hx⟩ := dR_ip x
          rw [hx] at hc ⊢
          refine MC.of_body (tyOf_good _) Tryz.func44 rfl rfl (rs := [.tmp 4]) Tryz.results44 (by simp [Tryz.ntmps44]) rfl fun X => ?_
          simp only [Tryz.ntmps44]
          refine AW_rg (tyOf_good _) [0, 1] [500] (notIn_ok rfl) fun K' hK' => ?_
          repeat (refine sxf_next fun K2 hK2 => ?_; simp [dNum, pRow, dS]; (repeat (refine ⟨by omega, ?_⟩)); refine hK2 _ ?_; clear hK2 K2)
          refine sxf_nil (hK' _ ?_)
          refine AW.st (by simp [dNum, pRow, dS]; rfl) ?_
          clear hK' K'
          refine AW_then fun K1 hK1 => ?_
          refine AW_rg (tyOf_good _) [0, 1, 12] [500] (notIn_ok rfl) fun K' hK' => ?_
          repeat (refine sxf_next fun K2 hK2 => ?_; simp [dNum, pRow, dS]; (repeat (refine ⟨by omega, ?_⟩)); refine hK2 _ ?_; clear hK2 K2)
          refine sxf_nil (hK' _ ?_)
          refine AW.st (by simp [dNum, pRow, dS]; rfl) ?_
          clear hK' K'
          refine AW_cond false rfl (fun h => by cases h) (fun _ => ?_)
          refine AW_skip (hK1 _ ?_)
          refine AW_then fun K2 hK2 => ?_
          refine AW_rg (tyOf_good _) [0, 1, 14] [500] (notIn_ok rfl) fun K' hK' => ?_
          repeat (refine sxf_next fun K2 hK2 => ?_; simp [dNum, pRow, dS, ha2]; (repeat (refine ⟨by omega, ?_⟩)); refine hK2 _ ?_; clear hK2 K2)
          refine sxf_nil (hK' _ ?_)
          refine AW.st (by simp [dNum, pRow, dS, ha2]; rfl) ?_
          clear hK' K'
          refine AW_cond false rfl (fun h => by cases h) (fun _ => ?_)
          refine AW_skip (hK2 _ ?_)
          refine AW_then fun K3 hK3 => ?_
          refine AW_rg (tyOf_good _) [0, 1, 5] [500] (notIn_ok rfl) fun K' hK' => ?_
          repeat (refine sxf_next fun K2 hK2 => ?_; simp [dNum, pRow, dS]; (repeat (refine ⟨by omega, ?_⟩)); refine hK2 _ ?_; clear hK2 K2)
          refine sxf_next fun K2 hK2 => ?_
          simp [dNum, pRow, dS]
          refine callK.mc (hnx) (by simp [dNum, pRow, dS]) (by simp [dNum, pRow, dS]) (by simp [dNum, pRow, dS]) (by simp [dNum, pRow, dS]) ?_
          simp [dNum, pRow, dS]
          refine hK2 _ ?_
          clear hK2 K2
          repeat (refine sxf_next fun K2 hK2 => ?_; simp [dNum, pRow, dS]; (repeat (refine ⟨by omega, ?_⟩)); refine hK2 _ ?_; clear hK2 K2)
          refine sxf_nil (hK' _ ?_)
          refine AW.st (by simp [dNum, pRow, dS]; rfl) ?_
          clear hK' K'
          refine AW_rg (tyOf_good _) [0, 1, 5, 19] [500] (notIn_ok rfl) fun K' hK' => ?_
          repeat (refine sxf_next fun K2 hK2 => ?_; simp [dNum, pRow, dS]; (repeat (refine ⟨by omega, ?_⟩)); refine hK2 _ ?_; clear hK2 K2)
          refine sxf_nil (hK' _ ?_)
          refine AW.st (by simp [dNum, pRow, dS]; rfl) ?_
          clear hK' K'
          refine AW_block ?_
          refine AW_rg (tyOf_good _) [0, 1, 5, 19, 20] [500] (notIn_ok rfl) fun K' hK' => ?_
          repeat (refine sxf_next fun K2 hK2 => ?_; simp [dNum, pRow, dS]; (repeat (refine ⟨by omega, ?_⟩)); refine hK2 _ ?_; clear hK2 K2)
          refine sxf_nil (hK' _ ?_)
          refine AW.st (by simp [dNum, pRow, dS]; rfl) ?_
          clear hK' K'
          refine AW_cond false rfl (fun h => by cases h) (fun _ => ?_)
          refine AW_rg (tyOf_good _) [0, 1, 5, 19, 36] [500] (notIn_ok rfl) fun K' hK' => ?_
          repeat (refine sxf_next fun K2 hK2 => ?_; simp [dNum, pRow, dS]; (repeat (refine ⟨by omega, ?_⟩)); refine hK2 _ ?_; clear hK2 K2)
          refine sxf_nil (hK' _ ?_)
          refine AW.st (by simp [dNum, pRow, dS]; rfl) ?_
          clear hK' K'
          refine AW_cond true rfl (fun _ => ?_) (fun h => by cases h)
          refine AW_rg (tyOf_good _) [0, 1] [500] (notIn_ok rfl) fun K' hK' => ?_
          repeat (refine sxf_next fun K2 hK2 => ?_; simp [dNum, pRow, dS]; (repeat (refine ⟨by omega, ?_⟩)); refine hK2 _ ?_; clear hK2 K2)
          refine sxf_nil (hK' _ ?_)
          refine AW.st (by simp [dNum, pRow, dS]; rfl) ?_
          clear hK' K'
          refine AW_rg (tyOf_good _) [0, 6] [500] (notIn_ok rfl) fun K' hK' => ?_
          repeat (refine sxf_next fun K2 hK2 => ?_; simp [dNum, pRow, dS]; (repeat (refine ⟨by omega, ?_⟩)); refine hK2 _ ?_; clear hK2 K2)
          refine sxf_next fun K2 hK2 => ?_
          simp [dNum, pRow, dS]
          refine callK.mc (hc) (by simp [dNum, pRow, dS]) (by simp [dNum, pRow, dS]) (by simp [dNum, pRow, dS]) (by simp [dNum, pRow, dS]) ?_
          simp [dNum, pRow, dS]
          refine hK2 _ ?_
          clear hK2 K2
          repeat (refine sxf_next fun K2 hK2 => ?_; simp [dNum, pRow, dS]; (repeat (refine ⟨by omega, ?_⟩)); refine hK2 _ ?_; clear hK2 K2)
          refine sxf_nil (hK' _ ?_)
          refine AW.st (by simp [dNum, pRow, dS]; rfl) ?_
          clear hK' K'
          refine AW_then fun K4 hK4 => ?_
          refine AW_rg (tyOf_good _) [0, 6, 59] [500] (notIn_ok rfl) fun K' hK' => ?_
          repeat (refine sxf_next fun K2 hK2 => ?_; simp [dNum, pRow, dS, hb]; (repeat (refine ⟨by omega, ?_⟩)); refine hK2 _ ?_; clear hK2 K2)
          refine sxf_next fun K2 hK2 => ?_
          simp [dNum, pRow, dS, hb]
          refine callK.mc (hn2) (by simp [dNum, pRow, dS, hb]) (by simp [dNum, pRow, dS, hb]) (by simp [dNum, pRow, dS, hb]) (by simp [dNum, pRow, dS, hb]) ?_
          simp [dNum, pRow, dS, hb]
          refine hK2 _ ?_
          clear hK2 K2
          repeat (refine sxf_next fun K2 hK2 => ?_; simp [dNum, pRow, dS, hb]; (repeat (refine ⟨by omega, ?_⟩)); refine hK2 _ ?_; clear hK2 K2)
          refine sxf_nil (hK' _ ?_)
          refine AW.st (by simp [dNum, pRow, dS, hb]; rfl) ?_
          clear hK' K'
          refine AW_cond false rfl (fun h => by cases h) (fun _ => ?_)
          refine AW_skip (hK4 _ ?_)
          refine AW_rg (tyOf_good _) [6] [500] (notIn_ok rfl) fun K' hK' => ?_
          repeat (refine sxf_next fun K2 hK2 => ?_; simp [dNum, pRow, dS]; (repeat (refine ⟨by omega, ?_⟩)); refine hK2 _ ?_; clear hK2 K2)
          refine sxf_nil (hK' _ ?_)
          refine AW.st (by simp [dNum, pRow, dS]; rfl) ?_
          clear hK' K'
          refine AW_rg (tyOf_good _) [4] [500] (notIn_ok rfl) fun K' hK' => ?_
          repeat (refine sxf_next fun K2 hK2 => ?_; simp [dNum, pRow, dS]; (repeat (refine ⟨by omega, ?_⟩)); refine hK2 _ ?_; clear hK2 K2)
          refine sxf_nil (hK' _ ?_)
          refine AW.st (by simp [dNum, pRow, dS]; rfl) ?_
          clear hK' K'
          refine AW_ret ?_
          simp [D.le, D.le.go, takeMap, dNum, pRow, dS, pRow, dS, D.le_refl, D.leGo_refl]
        · rw [decide_eq_false hb] at htk
          rw [htk] at ht2 ⊢
          simp only [Bool.false_eq_true, if_false] at ht2 ⊢
          rw [ht2]
          refine ⟨.v (.pointer none), skipB t k, ?_, fun c p q h => ?_⟩
          · show MC _ _ _ _ _ _ (.d (.v (.pointer none))) (hlst (pRow t (skipB t k) 3 (skipB t k) ++ []))
            obtain ⟨cx, hx⟩ := dR_ip x
            rw [hx] at hc
            refine MC.of_body (tyOf_good _) Tryz.func44 rfl rfl (rs := [.tmp 4]) Tryz.results44 (by simp [Tryz.ntmps44]) rfl fun X => ?_
            simp only [Tryz.ntmps44]
            refine AW_rg (tyOf_good _) [0, 1] [500] (notIn_ok rfl) fun K' hK' => ?_
            repeat (refine sxf_next fun K2 hK2 => ?_; simp [dNum, pRow, dS]; (repeat (refine ⟨by omega, ?_⟩)); refine hK2 _ ?_; clear hK2 K2)
            refine sxf_nil (hK' _ ?_)
            refine AW.st (by simp [dNum, pRow, dS]; rfl) ?_
            clear hK' K'
            refine AW_then fun K1 hK1 => ?_
            refine AW_rg (tyOf_good _) [0, 1, 12] [500] (notIn_ok rfl) fun K' hK' => ?_
            repeat (refine sxf_next fun K2 hK2 => ?_; simp [dNum, pRow, dS]; (repeat (refine ⟨by omega, ?_⟩)); refine hK2 _ ?_; clear hK2 K2)
            refine sxf_nil (hK' _ ?_)
            refine AW.st (by simp [dNum, pRow, dS]; rfl) ?_
            clear hK' K'
            refine AW_cond false rfl (fun h => by cases h) (fun _ => ?_)
            refine AW_skip (hK1 _ ?_)
            refine AW_then fun K2 hK2 => ?_
            refine AW_rg (tyOf_good _) [0, 1, 14] [500] (notIn_ok rfl) fun K' hK' => ?_
            repeat (refine sxf_next fun K2 hK2 => ?_; simp [dNum, pRow, dS, ha2]; (repeat (refine ⟨by omega, ?_⟩)); refine hK2 _ ?_; clear hK2 K2)
            refine sxf_nil (hK' _ ?_)
            refine AW.st (by simp [dNum, pRow, dS, ha2]; rfl) ?_
            clear hK' K'
            refine AW_cond false rfl (fun h => by cases h) (fun _ => ?_)
            refine AW_skip (hK2 _ ?_)
            refine AW_then fun K3 hK3 => ?_
            refine AW_rg (tyOf_good _) [0, 1, 5] [500] (notIn_ok rfl) fun K' hK' => ?_
            repeat (refine sxf_next fun K2 hK2 => ?_; simp [dNum, pRow, dS]; (repeat (refine ⟨by omega, ?_⟩)); refine hK2 _ ?_; clear hK2 K2)
            refine sxf_next fun K2 hK2 => ?_
            simp [dNum, pRow, dS]
            refine callK.mc (hnx) (by simp [dNum, pRow, dS]) (by simp [dNum, pRow, dS]) (by simp [dNum, pRow, dS]) (by simp [dNum, pRow, dS]) ?_
            simp [dNum, pRow, dS]
            refine hK2 _ ?_
            clear hK2 K2
            repeat (refine sxf_next fun K2 hK2 => ?_; simp [dNum, pRow, dS]; (repeat (refine ⟨by omega, ?_⟩)); refine hK2 _ ?_; clear hK2 K2)
            refine sxf_nil (hK' _ ?_)
            refine AW.st (by simp [dNum, pRow, dS]; rfl) ?_
            clear hK' K'
            refine AW_rg (tyOf_good _) [0, 1, 5, 19] [500] (notIn_ok rfl) fun K' hK' => ?_
            repeat (refine sxf_next fun K2 hK2 => ?_; simp [dNum, pRow, dS]; (repeat (refine ⟨by omega, ?_⟩)); refine hK2 _ ?_; clear hK2 K2)
            refine sxf_nil (hK' _ ?_)
            refine AW.st (by simp [dNum, pRow, dS]; rfl) ?_
            clear hK' K'
            refine AW_block ?_
            refine AW_rg (tyOf_good _) [0, 1, 5, 19, 20] [500] (notIn_ok rfl) fun K' hK' => ?_
            repeat (refine sxf_next fun K2 hK2 => ?_; simp [dNum, pRow, dS]; (repeat (refine ⟨by omega, ?_⟩)); refine hK2 _ ?_; clear hK2 K2)
            refine sxf_nil (hK' _ ?_)
            refine AW.st (by simp [dNum, pRow, dS]; rfl) ?_
            clear hK' K'
            refine AW_cond false rfl (fun h => by cases h) (fun _ => ?_)
            refine AW_rg (tyOf_good _) [0, 1, 5, 19, 36] [500] (notIn_ok rfl) fun K' hK' => ?_
            repeat (refine sxf_next fun K2 hK2 => ?_; simp [dNum, pRow, dS]; (repeat (refine ⟨by omega, ?_⟩)); refine hK2 _ ?_; clear hK2 K2)
            refine sxf_nil (hK' _ ?_)
            refine AW.st (by simp [dNum, pRow, dS]; rfl) ?_
            clear hK' K'
            refine AW_cond true rfl (fun _ => ?_) (fun h => by cases h)
            refine AW_rg (tyOf_good _) [0, 1] [500] (notIn_ok rfl) fun K' hK' => ?_
            repeat (refine sxf_next fun K2 hK2 => ?_; simp [dNum, pRow, dS]; (repeat (refine ⟨by omega, ?_⟩)); refine hK2 _ ?_; clear hK2 K2)
            refine sxf_nil (hK' _ ?_)
            refine AW.st (by simp [dNum, pRow, dS]; rfl) ?_
            clear hK' K'
            refine AW_rg (tyOf_good _) [0, 6] [500] (notIn_ok rfl) fun K' hK' => ?_
            repeat (refine sxf_next fun K2 hK2 => ?_; simp [dNum, pRow, dS]; (repeat (refine ⟨by omega, ?_⟩)); refine hK2 _ ?_; clear hK2 K2)
            refine sxf_next fun K2 hK2 => ?_
            simp [dNum, pRow, dS]
            refine callK.mc (hc) (by simp [dNum, pRow, dS]) (by simp [dNum, pRow, dS]) (by simp [dNum, pRow, dS]) (by simp [dNum, pRow, dS]) ?_
            simp [dNum, pRow, dS]
            refine hK2 _ ?_
            clear hK2 K2
            repeat (refine sxf_next fun K2 hK2 => ?_; simp [dNum, pRow, dS]; (repeat (refine ⟨by omega, ?_⟩)); refine hK2 _ ?_; clear hK2 K2)
            refine sxf_nil (hK' _ ?_)
            refine AW.st (by simp [dNum, pRow, dS]; rfl) ?_
            clear hK' K'
            refine AW_then fun K4 hK4 => ?_
            refine AW_rg (tyOf_good _) [0, 6, 59] [500] (notIn_ok rfl) fun K' hK' => ?_
            repeat (refine sxf_next fun K2 hK2 => ?_; simp [dNum, pRow, dS, hb]; (repeat (refine ⟨by omega, ?_⟩)); refine hK2 _ ?_; clear hK2 K2)
            refine sxf_next fun K2 hK2 => ?_
            simp [dNum, pRow, dS, hb]
            refine callK.mc (hn2) (by simp [dNum, pRow, dS, hb]) (by simp [dNum, pRow, dS, hb]) (by simp [dNum, pRow, dS, hb]) (by simp [dNum, pRow, dS, hb]) ?_
            simp [dNum, pRow, dS, hb]
            refine hK2 _ ?_
            clear hK2 K2
            repeat (refine sxf_next fun K2 hK2 => ?_; simp [dNum, pRow, dS, hb]; (repeat (refine ⟨by omega, ?_⟩)); refine hK2 _ ?_; clear hK2 K2)
            refine sxf_nil (hK' _ ?_)
            refine AW.st (by simp [dNum, pRow, dS, hb]; rfl) ?_
            clear hK' K'
            refine AW_cond true rfl (fun _ => ?_) (fun h => by cases h)
            refine AW_rg (tyOf_good _) [4] [500] (notIn_ok rfl) fun K' hK' => ?_
            repeat (refine sxf_next fun K2 hK2 => ?_; simp [dNum, pRow, dS]; (repeat (refine ⟨by omega, ?_⟩)); refine hK2 _ ?_; clear hK2 K2)
            refine sxf_next fun K2 hK2 => ?_
            simp [dNum, pRow, dS]
            refine callK.mc (hfl) (by simp [dNum, pRow, dS]) (by simp [dNum, pRow, dS]) (by simp [dNum, pRow, dS]) (by simp [dNum, pRow, dS]) ?_
            simp [dNum, pRow, dS]
            refine hK2 _ ?_
            clear hK2 K2
            repeat (refine sxf_next fun K2 hK2 => ?_; simp [dNum, pRow, dS]; (repeat (refine ⟨by omega, ?_⟩)); refine hK2 _ ?_; clear hK2 K2)
            refine sxf_nil (hK' _ ?_)
            refine AW.st (by simp [dNum, pRow, dS]; rfl) ?_
            clear hK' K'
            refine AW_ret ?_
            simp [D.le, D.le.go, takeMap, dNum, pRow, dS, pRow, dS, D.le_refl, D.leGo_refl]
          · simp only [Rs.err.injEq] at h
            exact ⟨by omega, rfl, by omega⟩
    rw [if_neg c40]
    have n40 : ¬ (b.toNat : Int) = 40 := nne 40 (by decide) c40
    by_cases c48 : t[j]? = some 48
    · rw [if_pos c48]
      obtain rfl := nsome 48 c48
      have := hlt c48
      refine ⟨default, 0, ?_, fun c p q h => by cases h⟩
      show MC _ _ _ _ _ _ (.d (.ip [dS [48], dS [], dNil])) (hlst (pRow t ((j + 1 : Nat) : Int) 0 (-1) ++ []))
      rw [Int.natCast_add]
      refine MC.of_body (tyOf_good _) Tryz.func44 rfl rfl (rs := [.tmp 4]) Tryz.results44 (by simp [Tryz.ntmps44]) rfl fun X => ?_
      simp only [Tryz.ntmps44]
      refine AW_rg (tyOf_good _) [0, 1] [500] (notIn_ok rfl) fun K' hK' => ?_
      repeat (refine sxf_next fun K2 hK2 => ?_; simp [dNum, pRow, dS]; (repeat (refine ⟨by omega, ?_⟩)); refine hK2 _ ?_; clear hK2 K2)
      refine sxf_nil (hK' _ ?_)
      refine AW.st (by simp [dNum, pRow, dS]; rfl) ?_
      clear hK' K'
      refine AW_then fun K1 hK1 => ?_
      refine AW_rg (tyOf_good _) [0, 1, 12] [500] (notIn_ok rfl) fun K' hK' => ?_
      repeat (refine sxf_next fun K2 hK2 => ?_; simp [dNum, pRow, dS]; (repeat (refine ⟨by omega, ?_⟩)); refine hK2 _ ?_; clear hK2 K2)
      refine sxf_nil (hK' _ ?_)
      refine AW.st (by simp [dNum, pRow, dS]; rfl) ?_
      clear hK' K'
      refine AW_cond false rfl (fun h => by cases h) (fun _ => ?_)
      refine AW_skip (hK1 _ ?_)
      refine AW_then fun K2 hK2 => ?_
      refine AW_rg (tyOf_good _) [0, 1, 14] [500] (notIn_ok rfl) fun K' hK' => ?_
      repeat (refine sxf_next fun K2 hK2 => ?_; simp [dNum, pRow, dS, ha2]; (repeat (refine ⟨by omega, ?_⟩)); refine hK2 _ ?_; clear hK2 K2)
      refine sxf_nil (hK' _ ?_)
      refine AW.st (by simp [dNum, pRow, dS, ha2]; rfl) ?_
      clear hK' K'
      refine AW_cond false rfl (fun h => by cases h) (fun _ => ?_)
      refine AW_skip (hK2 _ ?_)
      refine AW_then fun K3 hK3 => ?_
      refine AW_rg (tyOf_good _) [0, 1, 5] [500] (notIn_ok rfl) fun K' hK' => ?_
      repeat (refine sxf_next fun K2 hK2 => ?_; simp [dNum, pRow, dS]; (repeat (refine ⟨by omega, ?_⟩)); refine hK2 _ ?_; clear hK2 K2)
      refine sxf_next fun K2 hK2 => ?_
      simp [dNum, pRow, dS]
      refine callK.mc (hnx) (by simp [dNum, pRow, dS]) (by simp [dNum, pRow, dS]) (by simp [dNum, pRow, dS]) (by simp [dNum, pRow, dS]) ?_
      simp [dNum, pRow, dS]
      refine hK2 _ ?_
      clear hK2 K2
      repeat (refine sxf_next fun K2 hK2 => ?_; simp [dNum, pRow, dS]; (repeat (refine ⟨by omega, ?_⟩)); refine hK2 _ ?_; clear hK2 K2)
      refine sxf_nil (hK' _ ?_)
      refine AW.st (by simp [dNum, pRow, dS]; rfl) ?_
      clear hK' K'
      refine AW_rg (tyOf_good _) [0, 1, 5, 19] [500] (notIn_ok rfl) fun K' hK' => ?_
      repeat (refine sxf_next fun K2 hK2 => ?_; simp [dNum, pRow, dS]; (repeat (refine ⟨by omega, ?_⟩)); refine hK2 _ ?_; clear hK2 K2)
      refine sxf_nil (hK' _ ?_)
      refine AW.st (by simp [dNum, pRow, dS]; rfl) ?_
      clear hK' K'
      refine AW_block ?_
      refine AW_rg (tyOf_good _) [0, 1, 5, 19, 20] [500] (notIn_ok rfl) fun K' hK' => ?_
      repeat (refine sxf_next fun K2 hK2 => ?_; simp [dNum, pRow, dS]; (repeat (refine ⟨by omega, ?_⟩)); refine hK2 _ ?_; clear hK2 K2)
      refine sxf_nil (hK' _ ?_)
      refine AW.st (by simp [dNum, pRow, dS]; rfl) ?_
      clear hK' K'
      refine AW_cond false rfl (fun h => by cases h) (fun _ => ?_)
      refine AW_rg (tyOf_good _) [0, 1, 5, 19, 36] [500] (notIn_ok rfl) fun K' hK' => ?_
      repeat (refine sxf_next fun K2 hK2 => ?_; simp [dNum, pRow, dS]; (repeat (refine ⟨by omega, ?_⟩)); refine hK2 _ ?_; clear hK2 K2)
      refine sxf_nil (hK' _ ?_)
      refine AW.st (by simp [dNum, pRow, dS]; rfl) ?_
      clear hK' K'
      refine AW_cond false rfl (fun h => by cases h) (fun _ => ?_)
      refine AW_then fun K5 hK5 => ?_
      refine AW_rg (tyOf_good _) [0, 5, 19, 70] [500] (notIn_ok rfl) fun K' hK' => ?_
      repeat (refine sxf_next fun K2 hK2 => ?_; simp [dNum, pRow, dS]; (repeat (refine ⟨by omega, ?_⟩)); refine hK2 _ ?_; clear hK2 K2)
      refine sxf_nil (hK' _ ?_)
      refine AW.st (by simp [dNum, pRow, dS]; rfl) ?_
      clear hK' K'
      refine AW_cond true rfl (fun _ => ?_) (fun h => by cases h)
      refine AW_skip (hK5 _ ?_)
      refine AW_cond true rfl (fun _ => ?_) (fun h => by cases h)
      refine AW_rg (tyOf_good _) [5] [500] (notIn_ok rfl) fun K' hK' => ?_
      repeat (refine sxf_next fun K2 hK2 => ?_; simp [dNum, pRow, dS]; (repeat (refine ⟨by omega, ?_⟩)); refine hK2 _ ?_; clear hK2 K2)
      refine sxf_nil (hK' _ ?_)
      refine AW.st (by simp [dNum, pRow, dS]; rfl) ?_
      clear hK' K'
      refine AW_rg (tyOf_good _) [4] [83, 500] (notIn_ok rfl) fun K' hK' => ?_
      repeat (refine sxf_next fun K2 hK2 => ?_; simp [dNum, pRow, dS, enc48, dNil]; (repeat (refine ⟨by omega, ?_⟩)); refine hK2 _ ?_; clear hK2 K2)
      refine sxf_nil (hK' _ ?_)
      refine AW.st (by simp [dNum, pRow, dS, enc48, dNil]; rfl) ?_
      clear hK' K'
      refine AW.imp (Imp.freezeB 83 (by decide)) ?_
      refine AW.st (by simp [dNum, pRow, dS]; rfl) ?_
      refine AW_ret ?_
      simp [D.le, D.le.go, takeMap, dNum, pRow, dS, pRow, dS, dNil, bs_nil, D.le_refl, D.leGo_refl]
    rw [if_neg c48]
    have n48 : ¬ (b.toNat : Int) = 48 := nne 48 (by decide) c48
    by_cases c49 : t[j]? = some 49
    · rw [if_pos c49]
      obtain rfl := nsome 49 c49
      have := hlt c49
      refine ⟨default, 0, ?_, fun c p q h => by cases h⟩
      show MC _ _ _ _ _ _ (.d (.ip [dS [49], dS [], dNil])) (hlst (pRow t ((j + 1 : Nat) : Int) 0 (-1) ++ []))
      rw [Int.natCast_add]
      refine MC.of_body (tyOf_good _) Tryz.func44 rfl rfl (rs := [.tmp 4]) Tryz.results44 (by simp [Tryz.ntmps44]) rfl fun X => ?_
      simp only [Tryz.ntmps44]
      refine AW_rg (tyOf_good _) [0, 1] [500] (notIn_ok rfl) fun K' hK' => ?_
      repeat (refine sxf_next fun K2 hK2 => ?_; simp [dNum, pRow, dS]; (repeat (refine ⟨by omega, ?_⟩)); refine hK2 _ ?_; clear hK2 K2)
      refine sxf_nil (hK' _ ?_)
      refine AW.st (by simp [dNum, pRow, dS]; rfl) ?_
      clear hK' K'
      refine AW_then fun K1 hK1 => ?_
      refine AW_rg (tyOf_good _) [0, 1, 12] [500] (notIn_ok rfl) fun K' hK' => ?_
      repeat (refine sxf_next fun K2 hK2 => ?_; simp [dNum, pRow, dS]; (repeat (refine ⟨by omega, ?_⟩)); refine hK2 _ ?_; clear hK2 K2)
      refine sxf_nil (hK' _ ?_)
      refine AW.st (by simp [dNum, pRow, dS]; rfl) ?_
      clear hK' K'
      refine AW_cond false rfl (fun h => by cases h) (fun _ => ?_)
      refine AW_skip (hK1 _ ?_)
      refine AW_then fun K2 hK2 => ?_
      refine AW_rg (tyOf_good _) [0, 1, 14] [500] (notIn_ok rfl) fun K' hK' => ?_
      repeat (refine sxf_next fun K2 hK2 => ?_; simp [dNum, pRow, dS, ha2]; (repeat (refine ⟨by omega, ?_⟩)); refine hK2 _ ?_; clear hK2 K2)
      refine sxf_nil (hK' _ ?_)
      refine AW.st (by simp [dNum, pRow, dS, ha2]; rfl) ?_
      clear hK' K'
      refine AW_cond false rfl (fun h => by cases h) (fun _ => ?_)
      refine AW_skip (hK2 _ ?_)
      refine AW_then fun K3 hK3 => ?_
      refine AW_rg (tyOf_good _) [0, 1, 5] [500] (notIn_ok rfl) fun K' hK' => ?_
      repeat (refine sxf_next fun K2 hK2 => ?_; simp [dNum, pRow, dS]; (repeat (refine ⟨by omega, ?_⟩)); refine hK2 _ ?_; clear hK2 K2)
      refine sxf_next fun K2 hK2 => ?_
      simp [dNum, pRow, dS]
      refine callK.mc (hnx) (by simp [dNum, pRow, dS]) (by simp [dNum, pRow, dS]) (by simp [dNum, pRow, dS]) (by simp [dNum, pRow, dS]) ?_
      simp [dNum, pRow, dS]
      refine hK2 _ ?_
      clear hK2 K2
      repeat (refine sxf_next fun K2 hK2 => ?_; simp [dNum, pRow, dS]; (repeat (refine ⟨by omega, ?_⟩)); refine hK2 _ ?_; clear hK2 K2)
      refine sxf_nil (hK' _ ?_)
      refine AW.st (by simp [dNum, pRow, dS]; rfl) ?_
      clear hK' K'
      refine AW_rg (tyOf_good _) [0, 1, 5, 19] [500] (notIn_ok rfl) fun K' hK' => ?_
      repeat (refine sxf_next fun K2 hK2 => ?_; simp [dNum, pRow, dS]; (repeat (refine ⟨by omega, ?_⟩)); refine hK2 _ ?_; clear hK2 K2)
      refine sxf_nil (hK' _ ?_)
      refine AW.st (by simp [dNum, pRow, dS]; rfl) ?_
      clear hK' K'
      refine AW_block ?_
      refine AW_rg (tyOf_good _) [0, 1, 5, 19, 20] [500] (notIn_ok rfl) fun K' hK' => ?_
      repeat (refine sxf_next fun K2 hK2 => ?_; simp [dNum, pRow, dS]; (repeat (refine ⟨by omega, ?_⟩)); refine hK2 _ ?_; clear hK2 K2)
      refine sxf_nil (hK' _ ?_)
      refine AW.st (by simp [dNum, pRow, dS]; rfl) ?_
      clear hK' K'
      refine AW_cond false rfl (fun h => by cases h) (fun _ => ?_)
      refine AW_rg (tyOf_good _) [0, 1, 5, 19, 36] [500] (notIn_ok rfl) fun K' hK' => ?_
      repeat (refine sxf_next fun K2 hK2 => ?_; simp [dNum, pRow, dS]; (repeat (refine ⟨by omega, ?_⟩)); refine hK2 _ ?_; clear hK2 K2)
      refine sxf_nil (hK' _ ?_)
      refine AW.st (by simp [dNum, pRow, dS]; rfl) ?_
      clear hK' K'
      refine AW_cond false rfl (fun h => by cases h) (fun _ => ?_)
      refine AW_then fun K5 hK5 => ?_
      refine AW_rg (tyOf_good _) [0, 5, 19, 70] [500] (notIn_ok rfl) fun K' hK' => ?_
      repeat (refine sxf_next fun K2 hK2 => ?_; simp [dNum, pRow, dS]; (repeat (refine ⟨by omega, ?_⟩)); refine hK2 _ ?_; clear hK2 K2)
      refine sxf_nil (hK' _ ?_)
      refine AW.st (by simp [dNum, pRow, dS]; rfl) ?_
      clear hK' K'
      refine AW_cond false rfl (fun h => by cases h) (fun _ => ?_)
      refine AW_re (tyOf_good _) fun K' hK' => ?_
      repeat (refine sxf_next fun K2 hK2 => ?_; simp [dNum, pRow, dS]; (repeat (refine ⟨by omega, ?_⟩)); refine hK2 _ ?_; clear hK2 K2)
      refine sxf_nil (hK' _ ?_)
      clear hK' K'
      refine hK5 _ (AW.norm [0, 5, 19, 70] [500] (notIn_ok rfl) (AW.st (by simp [dNum, pRow, dS]; rfl) ?_))
      refine AW_cond true rfl (fun _ => ?_) (fun h => by cases h)
      refine AW_rg (tyOf_good _) [5] [500] (notIn_ok rfl) fun K' hK' => ?_
      repeat (refine sxf_next fun K2 hK2 => ?_; simp [dNum, pRow, dS]; (repeat (refine ⟨by omega, ?_⟩)); refine hK2 _ ?_; clear hK2 K2)
      refine sxf_nil (hK' _ ?_)
      refine AW.st (by simp [dNum, pRow, dS]; rfl) ?_
      clear hK' K'
      refine AW_rg (tyOf_good _) [4] [83, 500] (notIn_ok rfl) fun K' hK' => ?_
      repeat (refine sxf_next fun K2 hK2 => ?_; simp [dNum, pRow, dS, enc49, dNil]; (repeat (refine ⟨by omega, ?_⟩)); refine hK2 _ ?_; clear hK2 K2)
      refine sxf_nil (hK' _ ?_)
      refine AW.st (by simp [dNum, pRow, dS, enc49, dNil]; rfl) ?_
      clear hK' K'
      refine AW.imp (Imp.freezeB 83 (by decide)) ?_
      refine AW.st (by simp [dNum, pRow, dS]; rfl) ?_
      refine AW_ret ?_
      simp [D.le, D.le.go, takeMap, dNum, pRow, dS, pRow, dS, dNil, bs_nil, D.le_refl, D.leGo_refl]
    rw [if_neg c49]
    have n49 : ¬ (b.toNat : Int) = 49 := nne 49 (by decide) c49
    by_cases c94 : t[j]? = some 94
    · rw [if_pos c94]
      obtain rfl := nsome 94 c94
      have hj := hlt c94
      have hw := pword_spec G t 1 (j + 1) (by omega) hj
      rw [Int.natCast_add] at hw
      have hwo : ∀ s k, wordR t 1 (j + 1) = .ok s k → wordS t (skipB t (j + 1)) = s := fun s k h => word_ok h
      have hwe : ∀ c p q', wordR t 1 (j + 1) = .err c p q' → 0 < c ∧ p ≤ t.length := fun c p q' h => word_pos hj h
      generalize hW : wordR t 1 (j + 1) = W at hw hwo hwe ⊢
      generalize wordS t (skipB t (j + 1)) = sw at hw hwo
      refine ⟨.ip [dS [94], dS sw, dNil], posR W, ?_, fun c p q h => ?_⟩
      · have h1 : outD (W.map .rise) (.ip [dS [94], dS sw, dNil]) = .ip [dS [94], dS sw, dNil] := by
          cases W with
          | ok s k => obtain rfl := hwo _ _ rfl; rfl
          | err c p q => rfl
        have h2 : outK (W.map Ex.rise) (posR W) = posR W := by cases W <;> rfl
        have h3 : eR (W.map Ex.rise) = eR W := by cases W <;> rfl
        have h4 : pR (W.map Ex.rise) = pR W := by cases W <;> rfl
        rw [h1, h2, h3, h4]
        refine MC.of_body (tyOf_good _) Tryz.func44 rfl rfl (rs := [.tmp 4]) Tryz.results44 (by simp [Tryz.ntmps44]) rfl fun X => ?_
        simp only [Tryz.ntmps44]
        refine AW_rg (tyOf_good _) [0, 1] [500] (notIn_ok rfl) fun K' hK' => ?_
        repeat (refine sxf_next fun K2 hK2 => ?_; simp [dNum, pRow, dS]; (repeat (refine ⟨by omega, ?_⟩)); refine hK2 _ ?_; clear hK2 K2)
        refine sxf_nil (hK' _ ?_)
        refine AW.st (by simp [dNum, pRow, dS]; rfl) ?_
        clear hK' K'
        refine AW_then fun K1 hK1 => ?_
        refine AW_rg (tyOf_good _) [0, 1, 12] [500] (notIn_ok rfl) fun K' hK' => ?_
        repeat (refine sxf_next fun K2 hK2 => ?_; simp [dNum, pRow, dS]; (repeat (refine ⟨by omega, ?_⟩)); refine hK2 _ ?_; clear hK2 K2)
        refine sxf_nil (hK' _ ?_)
        refine AW.st (by simp [dNum, pRow, dS]; rfl) ?_
        clear hK' K'
        refine AW_cond false rfl (fun h => by cases h) (fun _ => ?_)
        refine AW_skip (hK1 _ ?_)
        refine AW_then fun K2 hK2 => ?_
        refine AW_rg (tyOf_good _) [0, 1, 14] [500] (notIn_ok rfl) fun K' hK' => ?_
        repeat (refine sxf_next fun K2 hK2 => ?_; simp [dNum, pRow, dS, ha2]; (repeat (refine ⟨by omega, ?_⟩)); refine hK2 _ ?_; clear hK2 K2)
        refine sxf_nil (hK' _ ?_)
        refine AW.st (by simp [dNum, pRow, dS, ha2]; rfl) ?_
        clear hK' K'
        refine AW_cond false rfl (fun h => by cases h) (fun _ => ?_)
        refine AW_skip (hK2 _ ?_)
        refine AW_then fun K3 hK3 => ?_
        refine AW_rg (tyOf_good _) [0, 1, 5] [500] (notIn_ok rfl) fun K' hK' => ?_
        repeat (refine sxf_next fun K2 hK2 => ?_; simp [dNum, pRow, dS]; (repeat (refine ⟨by omega, ?_⟩)); refine hK2 _ ?_; clear hK2 K2)
        refine sxf_next fun K2 hK2 => ?_
        simp [dNum, pRow, dS]
        refine callK.mc (hnx) (by simp [dNum, pRow, dS]) (by simp [dNum, pRow, dS]) (by simp [dNum, pRow, dS]) (by simp [dNum, pRow, dS]) ?_
        simp [dNum, pRow, dS]
        refine hK2 _ ?_
        clear hK2 K2
        repeat (refine sxf_next fun K2 hK2 => ?_; simp [dNum, pRow, dS]; (repeat (refine ⟨by omega, ?_⟩)); refine hK2 _ ?_; clear hK2 K2)
        refine sxf_nil (hK' _ ?_)
        refine AW.st (by simp [dNum, pRow, dS]; rfl) ?_
        clear hK' K'
        refine AW_rg (tyOf_good _) [0, 1, 5, 19] [500] (notIn_ok rfl) fun K' hK' => ?_
        repeat (refine sxf_next fun K2 hK2 => ?_; simp [dNum, pRow, dS]; (repeat (refine ⟨by omega, ?_⟩)); refine hK2 _ ?_; clear hK2 K2)
        refine sxf_nil (hK' _ ?_)
        refine AW.st (by simp [dNum, pRow, dS]; rfl) ?_
        clear hK' K'
        refine AW_block ?_
        refine AW_rg (tyOf_good _) [0, 1, 5, 19, 20] [500] (notIn_ok rfl) fun K' hK' => ?_
        repeat (refine sxf_next fun K2 hK2 => ?_; simp [dNum, pRow, dS]; (repeat (refine ⟨by omega, ?_⟩)); refine hK2 _ ?_; clear hK2 K2)
        refine sxf_nil (hK' _ ?_)
        refine AW.st (by simp [dNum, pRow, dS]; rfl) ?_
        clear hK' K'
        refine AW_cond false rfl (fun h => by cases h) (fun _ => ?_)
        refine AW_rg (tyOf_good _) [0, 1, 5, 19, 36] [500] (notIn_ok rfl) fun K' hK' => ?_
        repeat (refine sxf_next fun K2 hK2 => ?_; simp [dNum, pRow, dS]; (repeat (refine ⟨by omega, ?_⟩)); refine hK2 _ ?_; clear hK2 K2)
        refine sxf_nil (hK' _ ?_)
        refine AW.st (by simp [dNum, pRow, dS]; rfl) ?_
        clear hK' K'
        refine AW_cond false rfl (fun h => by cases h) (fun _ => ?_)
        refine AW_then fun K5 hK5 => ?_
        refine AW_rg (tyOf_good _) [0, 5, 19, 70] [500] (notIn_ok rfl) fun K' hK' => ?_
        repeat (refine sxf_next fun K2 hK2 => ?_; simp [dNum, pRow, dS]; (repeat (refine ⟨by omega, ?_⟩)); refine hK2 _ ?_; clear hK2 K2)
        refine sxf_nil (hK' _ ?_)
        refine AW.st (by simp [dNum, pRow, dS]; rfl) ?_
        clear hK' K'
        refine AW_cond false rfl (fun h => by cases h) (fun _ => ?_)
        refine AW_re (tyOf_good _) fun K' hK' => ?_
        repeat (refine sxf_next fun K2 hK2 => ?_; simp [dNum, pRow, dS]; (repeat (refine ⟨by omega, ?_⟩)); refine hK2 _ ?_; clear hK2 K2)
        refine sxf_nil (hK' _ ?_)
        clear hK' K'
        refine hK5 _ (AW.norm [0, 5, 19, 70] [500] (notIn_ok rfl) (AW.st (by simp [dNum, pRow, dS]; rfl) ?_))
        refine AW_cond false rfl (fun h => by cases h) (fun _ => ?_)
        refine AW_then fun K6 hK6 => ?_
        refine AW_rg (tyOf_good _) [0, 5, 19, 84] [500] (notIn_ok rfl) fun K' hK' => ?_
        repeat (refine sxf_next fun K2 hK2 => ?_; simp [dNum, pRow, dS]; (repeat (refine ⟨by omega, ?_⟩)); refine hK2 _ ?_; clear hK2 K2)
        refine sxf_nil (hK' _ ?_)
        refine AW.st (by simp [dNum, pRow, dS]; rfl) ?_
        clear hK' K'
        refine AW_cond true rfl (fun _ => ?_) (fun h => by cases h)
        refine AW_skip (hK6 _ ?_)
        refine AW_cond true rfl (fun _ => ?_) (fun h => by cases h)
        refine AW_rg (tyOf_good _) [0, 5] [500] (notIn_ok rfl) fun K' hK' => ?_
        repeat (refine sxf_next fun K2 hK2 => ?_; simp [dNum, pRow, dS]; (repeat (refine ⟨by omega, ?_⟩)); refine hK2 _ ?_; clear hK2 K2)
        refine sxf_nil (hK' _ ?_)
        refine AW.st (by simp [dNum, pRow, dS]; rfl) ?_
        clear hK' K'
        refine AW_rg (tyOf_good _) [4] [99, 500] (notIn_ok rfl) fun K' hK' => ?_
        repeat (refine sxf_next fun K2 hK2 => ?_; simp [dNum, pRow, dS, enc94, dNil]; (repeat (refine ⟨by omega, ?_⟩)); refine hK2 _ ?_; clear hK2 K2)
        refine sxf_next fun K2 hK2 => ?_
        simp [dNum, pRow, dS, enc94, dNil]
        refine callK.mc (hw) (by simp [dNum, pRow, dS, enc94, dNil]) (by simp [dNum, pRow, dS, enc94, dNil]) (by simp [dNum, pRow, dS, enc94, dNil]) (by simp [dNum, pRow, dS, enc94, dNil]) ?_
        simp [dNum, pRow, dS, enc94, dNil]
        refine hK2 _ ?_
        clear hK2 K2
        repeat (refine sxf_next fun K2 hK2 => ?_; simp [dNum, pRow, dS, enc94, dNil]; (repeat (refine ⟨by omega, ?_⟩)); refine hK2 _ ?_; clear hK2 K2)
        refine sxf_nil (hK' _ ?_)
        refine AW.st (by simp [dNum, pRow, dS, enc94, dNil]; rfl) ?_
        clear hK' K'
        refine AW.imp (Imp.freezeB 99 (by decide)) ?_
        refine AW.st (by simp [dNum, pRow, dS]; rfl) ?_
        refine AW_ret ?_
        simp [D.le, D.le.go, takeMap, dNum, pRow, dS, pRow, dS, dNil, bs_nil, D.le_refl, D.leGo_refl]
      · cases W with
        | ok s k => cases h
        | err c' p' q' =>
          simp only [Rs.map, Rs.err.injEq] at h
          obtain ⟨rfl, rfl, rfl⟩ := h
          obtain ⟨g1, g2⟩ := hwe _ _ _ rfl
          exact ⟨g1, rfl, by simp only [posR]; omega⟩
    rw [if_neg c94]
    have n94 : ¬ (b.toNat : Int) = 94 := nne 94 (by decide) c94
    by_cases c126 : t[j]? = some 126
    · rw [if_pos c126]
      obtain rfl := nsome 126 c126
      have hj := hlt c126
      have hw := pword_spec G t 2 (j + 1) (by omega) hj
      rw [Int.natCast_add] at hw
      have hwo : ∀ s k, wordR t 2 (j + 1) = .ok s k → wordS t (skipB t (j + 1)) = s := fun s k h => word_ok h
      have hwe : ∀ c p q', wordR t 2 (j + 1) = .err c p q' → 0 < c ∧ p ≤ t.length := fun c p q' h => word_pos hj h
      generalize hW : wordR t 2 (j + 1) = W at hw hwo hwe ⊢
      generalize wordS t (skipB t (j + 1)) = sw at hw hwo
      refine ⟨.ip [dS [126], dS sw, dNil], posR W, ?_, fun c p q h => ?_⟩
      · have h1 : outD (W.map .fall) (.ip [dS [126], dS sw, dNil]) = .ip [dS [126], dS sw, dNil] := by
          cases W with
          | ok s k => obtain rfl := hwo _ _ rfl; rfl
          | err c p q => rfl
        have h2 : outK (W.map Ex.fall) (posR W) = posR W := by cases W <;> rfl
        have h3 : eR (W.map Ex.fall) = eR W := by cases W <;> rfl
        have h4 : pR (W.map Ex.fall) = pR W := by cases W <;> rfl
        rw [h1, h2, h3, h4]
        refine MC.of_body (tyOf_good _) Tryz.func44 rfl rfl (rs := [.tmp 4]) Tryz.results44 (by simp [Tryz.ntmps44]) rfl fun X => ?_
        simp only [Tryz.ntmps44]
        refine AW_rg (tyOf_good _) [0, 1] [500] (notIn_ok rfl) fun K' hK' => ?_
        repeat (refine sxf_next fun K2 hK2 => ?_; simp [dNum, pRow, dS]; (repeat (refine ⟨by omega, ?_⟩)); refine hK2 _ ?_; clear hK2 K2)
        refine sxf_nil (hK' _ ?_)
        refine AW.st (by simp [dNum, pRow, dS]; rfl) ?_
        clear hK' K'
        refine AW_then fun K1 hK1 => ?_
        refine AW_rg (tyOf_good _) [0, 1, 12] [500] (notIn_ok rfl) fun K' hK' => ?_
        repeat (refine sxf_next fun K2 hK2 => ?_; simp [dNum, pRow, dS]; (repeat (refine ⟨by omega, ?_⟩)); refine hK2 _ ?_; clear hK2 K2)
        refine sxf_nil (hK' _ ?_)
        refine AW.st (by simp [dNum, pRow, dS]; rfl) ?_
        clear hK' K'
        refine AW_cond false rfl (fun h => by cases h) (fun _ => ?_)
        refine AW_skip (hK1 _ ?_)
        refine AW_then fun K2 hK2 => ?_
        refine AW_rg (tyOf_good _) [0, 1, 14] [500] (notIn_ok rfl) fun K' hK' => ?_
        repeat (refine sxf_next fun K2 hK2 => ?_; simp [dNum, pRow, dS, ha2]; (repeat (refine ⟨by omega, ?_⟩)); refine hK2 _ ?_; clear hK2 K2)
        refine sxf_nil (hK' _ ?_)
        refine AW.st (by simp [dNum, pRow, dS, ha2]; rfl) ?_
        clear hK' K'
        refine AW_cond false rfl (fun h => by cases h) (fun _ => ?_)
        refine AW_skip (hK2 _ ?_)
        refine AW_then fun K3 hK3 => ?_
        refine AW_rg (tyOf_good _) [0, 1, 5] [500] (notIn_ok rfl) fun K' hK' => ?_
        repeat (refine sxf_next fun K2 hK2 => ?_; simp [dNum, pRow, dS]; (repeat (refine ⟨by omega, ?_⟩)); refine hK2 _ ?_; clear hK2 K2)
        refine sxf_next fun K2 hK2 => ?_
        simp [dNum, pRow, dS]
        refine callK.mc (hnx) (by simp [dNum, pRow, dS]) (by simp [dNum, pRow, dS]) (by simp [dNum, pRow, dS]) (by simp [dNum, pRow, dS]) ?_
        simp [dNum, pRow, dS]
        refine hK2 _ ?_
        clear hK2 K2
        repeat (refine sxf_next fun K2 hK2 => ?_; simp [dNum, pRow, dS]; (repeat (refine ⟨by omega, ?_⟩)); refine hK2 _ ?_; clear hK2 K2)
        refine sxf_nil (hK' _ ?_)
        refine AW.st (by simp [dNum, pRow, dS]; rfl) ?_
        clear hK' K'
        refine AW_rg (tyOf_good _) [0, 1, 5, 19] [500] (notIn_ok rfl) fun K' hK' => ?_
        repeat (refine sxf_next fun K2 hK2 => ?_; simp [dNum, pRow, dS]; (repeat (refine ⟨by omega, ?_⟩)); refine hK2 _ ?_; clear hK2 K2)
        refine sxf_nil (hK' _ ?_)
        refine AW.st (by simp [dNum, pRow, dS]; rfl) ?_
        clear hK' K'
        refine AW_block ?_
        refine AW_rg (tyOf_good _) [0, 1, 5, 19, 20] [500] (notIn_ok rfl) fun K' hK' => ?_
        repeat (refine sxf_next fun K2 hK2 => ?_; simp [dNum, pRow, dS]; (repeat (refine ⟨by omega, ?_⟩)); refine hK2 _ ?_; clear hK2 K2)
        refine sxf_nil (hK' _ ?_)
        refine AW.st (by simp [dNum, pRow, dS]; rfl) ?_
        clear hK' K'
        refine AW_cond false rfl (fun h => by cases h) (fun _ => ?_)
        refine AW_rg (tyOf_good _) [0, 1, 5, 19, 36] [500] (notIn_ok rfl) fun K' hK' => ?_
        repeat (refine sxf_next fun K2 hK2 => ?_; simp [dNum, pRow, dS]; (repeat (refine ⟨by omega, ?_⟩)); refine hK2 _ ?_; clear hK2 K2)
        refine sxf_nil (hK' _ ?_)
        refine AW.st (by simp [dNum, pRow, dS]; rfl) ?_
        clear hK' K'
        refine AW_cond false rfl (fun h => by cases h) (fun _ => ?_)
        refine AW_then fun K5 hK5 => ?_
        refine AW_rg (tyOf_good _) [0, 5, 19, 70] [500] (notIn_ok rfl) fun K' hK' => ?_
        repeat (refine sxf_next fun K2 hK2 => ?_; simp [dNum, pRow, dS]; (repeat (refine ⟨by omega, ?_⟩)); refine hK2 _ ?_; clear hK2 K2)
        refine sxf_nil (hK' _ ?_)
        refine AW.st (by simp [dNum, pRow, dS]; rfl) ?_
        clear hK' K'
        refine AW_cond false rfl (fun h => by cases h) (fun _ => ?_)
        refine AW_re (tyOf_good _) fun K' hK' => ?_
        repeat (refine sxf_next fun K2 hK2 => ?_; simp [dNum, pRow, dS]; (repeat (refine ⟨by omega, ?_⟩)); refine hK2 _ ?_; clear hK2 K2)
        refine sxf_nil (hK' _ ?_)
        clear hK' K'
        refine hK5 _ (AW.norm [0, 5, 19, 70] [500] (notIn_ok rfl) (AW.st (by simp [dNum, pRow, dS]; rfl) ?_))
        refine AW_cond false rfl (fun h => by cases h) (fun _ => ?_)
        refine AW_then fun K6 hK6 => ?_
        refine AW_rg (tyOf_good _) [0, 5, 19, 84] [500] (notIn_ok rfl) fun K' hK' => ?_
        repeat (refine sxf_next fun K2 hK2 => ?_; simp [dNum, pRow, dS]; (repeat (refine ⟨by omega, ?_⟩)); refine hK2 _ ?_; clear hK2 K2)
        refine sxf_nil (hK' _ ?_)
        refine AW.st (by simp [dNum, pRow, dS]; rfl) ?_
        clear hK' K'
        refine AW_cond false rfl (fun h => by cases h) (fun _ => ?_)
        refine AW_re (tyOf_good _) fun K' hK' => ?_
        repeat (refine sxf_next fun K2 hK2 => ?_; simp [dNum, pRow, dS]; (repeat (refine ⟨by omega, ?_⟩)); refine hK2 _ ?_; clear hK2 K2)
        refine sxf_nil (hK' _ ?_)
        clear hK' K'
        refine hK6 _ (AW.norm [0, 5, 84] [500] (notIn_ok rfl) (AW.st (by simp [dNum, pRow, dS]; rfl) ?_))
        refine AW_cond true rfl (fun _ => ?_) (fun h => by cases h)
        refine AW_rg (tyOf_good _) [0, 5] [500] (notIn_ok rfl) fun K' hK' => ?_
        repeat (refine sxf_next fun K2 hK2 => ?_; simp [dNum, pRow, dS]; (repeat (refine ⟨by omega, ?_⟩)); refine hK2 _ ?_; clear hK2 K2)
        refine sxf_nil (hK' _ ?_)
        refine AW.st (by simp [dNum, pRow, dS]; rfl) ?_
        clear hK' K'
        refine AW_rg (tyOf_good _) [4] [99, 500] (notIn_ok rfl) fun K' hK' => ?_
        repeat (refine sxf_next fun K2 hK2 => ?_; simp [dNum, pRow, dS, enc126, dNil]; (repeat (refine ⟨by omega, ?_⟩)); refine hK2 _ ?_; clear hK2 K2)
        refine sxf_next fun K2 hK2 => ?_
        simp [dNum, pRow, dS, enc126, dNil]
        refine callK.mc (hw) (by simp [dNum, pRow, dS, enc126, dNil]) (by simp [dNum, pRow, dS, enc126, dNil]) (by simp [dNum, pRow, dS, enc126, dNil]) (by simp [dNum, pRow, dS, enc126, dNil]) ?_
        simp [dNum, pRow, dS, enc126, dNil]
        refine hK2 _ ?_
        clear hK2 K2
        repeat (refine sxf_next fun K2 hK2 => ?_; simp [dNum, pRow, dS, enc126, dNil]; (repeat (refine ⟨by omega, ?_⟩)); refine hK2 _ ?_; clear hK2 K2)
        refine sxf_nil (hK' _ ?_)
        refine AW.st (by simp [dNum, pRow, dS, enc126, dNil]; rfl) ?_
        clear hK' K'
        refine AW.imp (Imp.freezeB 99 (by decide)) ?_
        refine AW.st (by simp [dNum, pRow, dS]; rfl) ?_
        refine AW_ret ?_
        simp [D.le, D.le.go, takeMap, dNum, pRow, dS, pRow, dS, dNil, bs_nil, D.le_refl, D.leGo_refl]
      · cases W with
        | ok s k => cases h
        | err c' p' q' =>
          simp only [Rs.map, Rs.err.injEq] at h
          obtain ⟨rfl, rfl, rfl⟩ := h
          obtain ⟨g1, g2⟩ := hwe _ _ _ rfl
          exact ⟨g1, rfl, by simp only [posR]; omega⟩
    rw [if_neg c126]
    have n126 : ¬ (b.toNat : Int) = 126 := nne 126 (by decide) c126
    have hw := pword_spec G t 3 j (by omega) htop
    have hwo : ∀ s k, wordR t 3 j = .ok s k → wordS t (skipB t j) = s := fun s k h => word_ok h
    have hwe : ∀ c p q', wordR t 3 j = .err c p q' → 0 < c ∧ p ≤ t.length := fun c p q' h => word_pos htop h
    generalize hW : wordR t 3 j = W at hw hwo hwe ⊢
    generalize wordS t (skipB t j) = sw at hw hwo
    refine ⟨.ip [dS [98, 105, 116], dS sw, dNil], posR W, ?_, fun c p q h => ?_⟩
    · have h1 : outD (W.map .bit) (.ip [dS [98, 105, 116], dS sw, dNil]) = .ip [dS [98, 105, 116], dS sw, dNil] := by
        cases W with
        | ok s k => obtain rfl := hwo _ _ rfl; rfl
        | err c p q => rfl
      have h2 : outK (W.map Ex.bit) (posR W) = posR W := by cases W <;> rfl
      have h3 : eR (W.map Ex.bit) = eR W := by cases W <;> rfl
      have h4 : pR (W.map Ex.bit) = pR W := by cases W <;> rfl
      rw [h1, h2, h3, h4]
      refine MC.of_body (tyOf_good _) Tryz.func44 rfl rfl (rs := [.tmp 4]) Tryz.results44 (by simp [Tryz.ntmps44]) rfl fun X => ?_
      simp only [Tryz.ntmps44]
      refine AW_rg (tyOf_good _) [0, 1] [500] (notIn_ok rfl) fun K' hK' => ?_
      repeat (refine sxf_next fun K2 hK2 => ?_; simp [dNum, pRow, dS]; (repeat (refine ⟨by omega, ?_⟩)); refine hK2 _ ?_; clear hK2 K2)
      refine sxf_nil (hK' _ ?_)
      refine AW.st (by simp [dNum, pRow, dS]; rfl) ?_
      clear hK' K'
      refine AW_then fun K1 hK1 => ?_
      refine AW_rg (tyOf_good _) [0, 1, 12] [500] (notIn_ok rfl) fun K' hK' => ?_
      repeat (refine sxf_next fun K2 hK2 => ?_; simp [dNum, pRow, dS]; (repeat (refine ⟨by omega, ?_⟩)); refine hK2 _ ?_; clear hK2 K2)
      refine sxf_nil (hK' _ ?_)
      refine AW.st (by simp [dNum, pRow, dS]; rfl) ?_
      clear hK' K'
      refine AW_cond false rfl (fun h => by cases h) (fun _ => ?_)
      refine AW_skip (hK1 _ ?_)
      refine AW_then fun K2 hK2 => ?_
      refine AW_rg (tyOf_good _) [0, 1, 14] [500] (notIn_ok rfl) fun K' hK' => ?_
      repeat (refine sxf_next fun K2 hK2 => ?_; simp [dNum, pRow, dS, ha2]; (repeat (refine ⟨by omega, ?_⟩)); refine hK2 _ ?_; clear hK2 K2)
      refine sxf_nil (hK' _ ?_)
      refine AW.st (by simp [dNum, pRow, dS, ha2]; rfl) ?_
      clear hK' K'
      refine AW_cond false rfl (fun h => by cases h) (fun _ => ?_)
      refine AW_skip (hK2 _ ?_)
      refine AW_then fun K3 hK3 => ?_
      refine AW_rg (tyOf_good _) [0, 1, 5] [500] (notIn_ok rfl) fun K' hK' => ?_
      repeat (refine sxf_next fun K2 hK2 => ?_; simp [dNum, pRow, dS]; (repeat (refine ⟨by omega, ?_⟩)); refine hK2 _ ?_; clear hK2 K2)
      refine sxf_next fun K2 hK2 => ?_
      simp [dNum, pRow, dS]
      refine callK.mc (hnx) (by simp [dNum, pRow, dS]) (by simp [dNum, pRow, dS]) (by simp [dNum, pRow, dS]) (by simp [dNum, pRow, dS]) ?_
      simp [dNum, pRow, dS]
      refine hK2 _ ?_
      clear hK2 K2
      repeat (refine sxf_next fun K2 hK2 => ?_; simp [dNum, pRow, dS]; (repeat (refine ⟨by omega, ?_⟩)); refine hK2 _ ?_; clear hK2 K2)
      refine sxf_nil (hK' _ ?_)
      refine AW.st (by simp [dNum, pRow, dS]; rfl) ?_
      clear hK' K'
      refine AW_rg (tyOf_good _) [0, 1, 5, 19] [500] (notIn_ok rfl) fun K' hK' => ?_
      repeat (refine sxf_next fun K2 hK2 => ?_; simp [dNum, pRow, dS]; (repeat (refine ⟨by omega, ?_⟩)); refine hK2 _ ?_; clear hK2 K2)
      refine sxf_nil (hK' _ ?_)
      refine AW.st (by simp [dNum, pRow, dS]; rfl) ?_
      clear hK' K'
      refine AW_block ?_
      refine AW_rg (tyOf_good _) [0, 1, 5, 19, 20] [500] (notIn_ok rfl) fun K' hK' => ?_
      repeat (refine sxf_next fun K2 hK2 => ?_; simp [dNum, pRow, dS, n33, n40, n48, n49, n94, n126]; (repeat (refine ⟨by omega, ?_⟩)); refine hK2 _ ?_; clear hK2 K2)
      refine sxf_nil (hK' _ ?_)
      refine AW.st (by simp [dNum, pRow, dS, n33, n40, n48, n49, n94, n126]; rfl) ?_
      clear hK' K'
      refine AW_cond false rfl (fun h => by cases h) (fun _ => ?_)
      refine AW_rg (tyOf_good _) [0, 1, 5, 19, 36] [500] (notIn_ok rfl) fun K' hK' => ?_
      repeat (refine sxf_next fun K2 hK2 => ?_; simp [dNum, pRow, dS, n33, n40, n48, n49, n94, n126]; (repeat (refine ⟨by omega, ?_⟩)); refine hK2 _ ?_; clear hK2 K2)
      refine sxf_nil (hK' _ ?_)
      refine AW.st (by simp [dNum, pRow, dS, n33, n40, n48, n49, n94, n126]; rfl) ?_
      clear hK' K'
      refine AW_cond false rfl (fun h => by cases h) (fun _ => ?_)
      refine AW_then fun K5 hK5 => ?_
      refine AW_rg (tyOf_good _) [0, 5, 19, 70] [500] (notIn_ok rfl) fun K' hK' => ?_
      repeat (refine sxf_next fun K2 hK2 => ?_; simp [dNum, pRow, dS, n33, n40, n48, n49, n94, n126]; (repeat (refine ⟨by omega, ?_⟩)); refine hK2 _ ?_; clear hK2 K2)
      refine sxf_nil (hK' _ ?_)
      refine AW.st (by simp [dNum, pRow, dS, n33, n40, n48, n49, n94, n126]; rfl) ?_
      clear hK' K'
      refine AW_cond false rfl (fun h => by cases h) (fun _ => ?_)
      refine AW_re (tyOf_good _) fun K' hK' => ?_
      repeat (refine sxf_next fun K2 hK2 => ?_; simp [dNum, pRow, dS, n33, n40, n48, n49, n94, n126]; (repeat (refine ⟨by omega, ?_⟩)); refine hK2 _ ?_; clear hK2 K2)
      refine sxf_nil (hK' _ ?_)
      clear hK' K'
      refine hK5 _ (AW.norm [0, 5, 19, 70] [500] (notIn_ok rfl) (AW.st (by simp [dNum, pRow, dS, n33, n40, n48, n49, n94, n126]; rfl) ?_))
      refine AW_cond false rfl (fun h => by cases h) (fun _ => ?_)
      refine AW_then fun K6 hK6 => ?_
      refine AW_rg (tyOf_good _) [0, 5, 19, 84] [500] (notIn_ok rfl) fun K' hK' => ?_
      repeat (refine sxf_next fun K2 hK2 => ?_; simp [dNum, pRow, dS, n33, n40, n48, n49, n94, n126]; (repeat (refine ⟨by omega, ?_⟩)); refine hK2 _ ?_; clear hK2 K2)
      refine sxf_nil (hK' _ ?_)
      refine AW.st (by simp [dNum, pRow, dS, n33, n40, n48, n49, n94, n126]; rfl) ?_
      clear hK' K'
      refine AW_cond false rfl (fun h => by cases h) (fun _ => ?_)
      refine AW_re (tyOf_good _) fun K' hK' => ?_
      repeat (refine sxf_next fun K2 hK2 => ?_; simp [dNum, pRow, dS, n33, n40, n48, n49, n94, n126]; (repeat (refine ⟨by omega, ?_⟩)); refine hK2 _ ?_; clear hK2 K2)
      refine sxf_nil (hK' _ ?_)
      clear hK' K'
      refine hK6 _ (AW.norm [0, 5, 84] [500] (notIn_ok rfl) (AW.st (by simp [dNum, pRow, dS, n33, n40, n48, n49, n94, n126]; rfl) ?_))
      refine AW_cond false rfl (fun h => by cases h) (fun _ => ?_)
      refine AW_skip (hK3 _ ?_)
      refine AW_rg (tyOf_good _) [4] [103, 500] (notIn_ok rfl) fun K' hK' => ?_
      repeat (refine sxf_next fun K2 hK2 => ?_; simp [dNum, pRow, dS, dNil, lbit]; (repeat (refine ⟨by omega, ?_⟩)); refine hK2 _ ?_; clear hK2 K2)
      refine sxf_next fun K2 hK2 => ?_
      simp [dNum, pRow, dS, dNil, lbit]
      refine callK.mc (hw) (by simp [dNum, pRow, dS, dNil, lbit]) (by simp [dNum, pRow, dS, dNil, lbit]) (by simp [dNum, pRow, dS, dNil, lbit]) (by simp [dNum, pRow, dS, dNil, lbit]) ?_
      simp [dNum, pRow, dS, dNil, lbit]
      refine hK2 _ ?_
      clear hK2 K2
      repeat (refine sxf_next fun K2 hK2 => ?_; simp [dNum, pRow, dS, dNil, lbit]; (repeat (refine ⟨by omega, ?_⟩)); refine hK2 _ ?_; clear hK2 K2)
      refine sxf_nil (hK' _ ?_)
      refine AW.st (by simp [dNum, pRow, dS, dNil, lbit]; rfl) ?_
      clear hK' K'
      refine AW.imp (Imp.freezeB 103 (by decide)) ?_
      refine AW.st (by simp [dNum, pRow, dS]; rfl) ?_
      refine AW_ret ?_
      simp [D.le, D.le.go, takeMap, dNum, pRow, dS, pRow, dS, dNil, bs_nil, D.le_refl, D.leGo_refl]
    · cases W with
      | ok s k => cases h
      | err c' p' q' =>
        simp only [Rs.map, Rs.err.injEq] at h
        obtain ⟨rfl, rfl, rfl⟩ := h
        obtain ⟨g1, g2⟩ := hwe _ _ _ rfl
        exact ⟨g1, rfl, by simp only [posR]; omega⟩
end Go.Proofs.YtfehigldhedkgaaGreatDoor

/-
  The document's text of an expression.
-/
namespace Go.Proofs.YtfehigldhedkgaaGreatDoor
set_option linter.unusedSimpArgs false
set_option linter.unusedVariables false
open Go.Av

def kdR : Ex → List UInt8
  | .cst b => [if b then 49 else 48]
  | .bit _ => [98, 105, 116]
  | .rise _ => [94]
  | .fall _ => [126]
  | .not _ => [33]
  | .and _ => [38]
  | .or _ => [124]
def nmR : Ex → List UInt8
  | .bit s => s
  | .rise s => s
  | .fall s => s
  | _ => []
def ofR : Ex → D
  | .not e => .sl none [[dR e]]
  | .and l => .sl none (dRs l)
  | .or l => .sl none (dRs l)
  | _ => dNil
theorem dR_form (e : Ex) : dR e = .ip [dS (kdR e), dS (nmR e), ofR e] := by cases e <;> simp [dR, kdR, nmR, ofR]
theorem binS_eq (k : List UInt8) (arr : Array UInt8) : binS .eql (bs k) ⟨arr⟩ = some (True, .bool (decide (k = arr.toList))) := by
  have h : (bs k).toList = k := bs_list k
  have h2 : (⟨arr⟩ : ByteArray).toList = arr.toList := by rw [ByteArray.toList_eq]
  unfold binS
  dsimp only
  rw [h, h2]
  congr 3
  by_cases e : k = arr.toList
  · subst e; simp
  · rw [decide_eq_false e, beq_eq_false_iff_ne.2 e]
end Go.Proofs.YtfehigldhedkgaaGreatDoor

/-
  The law's small parts, and the document's Eval and Size.
-/
namespace Go.Proofs.YtfehigldhedkgaaGreatDoor
set_option linter.unusedSimpArgs false
set_option linter.unusedVariables false
open Go.Av

/-! ### sameTexts -/
set_option maxHeartbeats 2000000 in
theorem sameTexts_spec (G : Glob) (k1 k2 : Option Bool) (l : List (List UInt8)) (hl : l.length < 2^60) : PureC Tryz.prog G 9 [.sl k1 (l.map fun x => [dS x]), .sl k2 (l.map fun x => [dS x])] (.v (.bool true)) := by
  refine PureC.of_body (tyOf_good _) Tryz.func9 rfl rfl (rs := [.tmp 4]) Tryz.results9 (by simp [Tryz.ntmps9]) fun X => ?_
  simp only [Tryz.ntmps9, List.map]
  refine AW_rg (tyOf_good _) [0, 1] [] (fun _ _ => trivial) fun K' hK' => ?_
  repeat (refine sxf_next fun K2 hK2 => ?_; simp [dNum, dS]; (repeat (refine ⟨by omega, ?_⟩)); refine hK2 _ ?_; clear hK2 K2)
  refine sxf_nil (hK' _ ?_)
  refine AW.st (by simp [dNum, dS]; rfl) ?_
  clear hK' K'
  refine AW_then fun K1 hK1 => ?_
  refine AW_rg (tyOf_good _) [0, 1, 10] [] (fun _ _ => trivial) fun K' hK' => ?_
  repeat (refine sxf_next fun K2 hK2 => ?_; simp [dNum, dS]; (repeat (refine ⟨by omega, ?_⟩)); refine hK2 _ ?_; clear hK2 K2)
  refine sxf_nil (hK' _ ?_)
  refine AW.st (by simp [dNum, dS]; rfl) ?_
  clear hK' K'
  refine AW_cond false (by simp) (fun h => by cases h) (fun _ => ?_)
  refine AW_skip (hK1 _ ?_)
  refine AW_then fun K2 hK2 => ?_
  refine AW_rg (tyOf_good _) [0, 1, 5] [] (fun _ _ => trivial) fun K' hK' => ?_
  repeat (refine sxf_next fun K2 hK2 => ?_; simp [dNum, dS]; (repeat (refine ⟨by omega, ?_⟩)); refine hK2 _ ?_; clear hK2 K2)
  refine sxf_nil (hK' _ ?_)
  refine AW.st (by simp [dNum, dS]; rfl) ?_
  clear hK' K'
  refine AW_for (S := Nat) (fun n => n ≤ l.length) (fun n => ⟨lst [(0, .d (.sl k1 (l.map fun x => [dS x]))), (1, .d (.sl k2 (l.map fun x => [dS x]))), (5, int n)], hlst []⟩) (fun n => l.length - n) 0 ?_ (by simp) ?_
  · refine Imp.to' (fun _ _ => trivial) (by simp [dNum, dS]) (by simp [dNum, dS])
  · intro n hn
    refine AW_then fun K3 hK3 => ?_
    refine AW_rg (tyOf_good _) [0, 1, 5, 14] [] (fun _ _ => trivial) fun K' hK' => ?_
    repeat (refine sxf_next fun K2 hK2 => ?_; simp [dNum, dS]; (repeat (refine ⟨by omega, ?_⟩)); refine hK2 _ ?_; clear hK2 K2)
    refine sxf_nil (hK' _ ?_)
    refine AW.st (by simp [dNum, dS]; rfl) ?_
    clear hK' K'
    refine AW_cond' (b := n < l.length) (by simp [D.le, D.le.go, takeMap, dNum, dS]) (fun hc => ?_) (fun hc => ?_)
    · have hnl : n < l.length := hc
      refine AW_skip (hK3 _ ?_)
      refine AW_then fun K4 hK4 => ?_
      refine AW_block ?_
      have hbeq : binS .neq (bs l[n]) (bs l[n]) = some (True, .bool false) := by simp [binS]
      refine AW_rd (tyOf_good _) (by kernel_rfl) [0, 1, 5, 25] [] (fun _ _ => trivial) (by kernel_rfl) fun K' hK' => ?_
      repeat (refine sxd_next fun K2 hK2 => ?_; simp [dNum, dS, hnl, hbeq]; (repeat (refine ⟨by omega, ?_⟩)); refine hK2 _ ?_; clear hK2 K2)
      refine sxd_nil (hK' _ ?_)
      refine AW.st (by simp [dNum, dS, hnl, hbeq]; rfl) ?_
      clear hK' K'
      refine AW_cond false rfl (fun h => by cases h) (fun _ => ?_)
      refine AW_skip (hK4 _ ?_)
      refine AW_re (tyOf_good _) fun K' hK' => ?_
      repeat (refine sxf_next fun K2 hK2 => ?_; simp [dNum, dS]; (repeat (refine ⟨by omega, ?_⟩)); refine hK2 _ ?_; clear hK2 K2)
      refine sxf_nil (hK' _ ?_)
      clear hK' K'
      try simp only [thn, inb]
      refine Again.mk (n + 1) (by omega) (by omega) ?_
      refine Imp.to' (fun _ _ => trivial) (by simp [dNum, dS]) (by simp [dNum, dS])
    · refine AW_exit (hK2 _ ?_)
      refine AW_rg (tyOf_good _) [4] [] (fun _ _ => trivial) fun K' hK' => ?_
      repeat (refine sxf_next fun K2 hK2 => ?_; simp [dNum, dS]; (repeat (refine ⟨by omega, ?_⟩)); refine hK2 _ ?_; clear hK2 K2)
      refine sxf_nil (hK' _ ?_)
      refine AW.st (by simp [dNum, dS]; rfl) ?_
      clear hK' K'
      refine AW_ret ?_
      simp [D.le, D.le.go, takeMap, dNum, dS]

/-! ### Names among some -/
set_option maxHeartbeats 2000000 in
theorem lamong1_spec (G : Glob) (k : Option Bool) (l : List (List UInt8)) (s : List UInt8) (hl : l.length < 2^60) : PureC Tryz.prog G 6 [dS s, .ip [.sl k (l.map fun x => [dS x])]] (.v (.bool (l.any fun x => x == s))) := by
  refine PureC.of_body (tyOf_good _) Tryz.func6 rfl rfl (rs := [.tmp 3]) Tryz.results6 (by simp [Tryz.ntmps6]) fun X => ?_
  simp only [Tryz.ntmps6, List.map]
  refine AW_rg (tyOf_good _) [0, 1] [] (fun _ _ => trivial) fun K' hK' => ?_
  repeat (refine sxf_next fun K2 hK2 => ?_; simp [dNum, dS]; (repeat (refine ⟨by omega, ?_⟩)); refine hK2 _ ?_; clear hK2 K2)
  refine sxf_nil (hK' _ ?_)
  refine AW.st (by simp [dNum, dS]; rfl) ?_
  clear hK' K'
  refine AW_then fun K1 hK1 => ?_
  refine AW_rg (tyOf_good _) [0, 1, 4] [] (fun _ _ => trivial) fun K' hK' => ?_
  repeat (refine sxf_next fun K2 hK2 => ?_; simp [dNum, dS]; (repeat (refine ⟨by omega, ?_⟩)); refine hK2 _ ?_; clear hK2 K2)
  refine sxf_nil (hK' _ ?_)
  refine AW.st (by simp [dNum, dS]; rfl) ?_
  clear hK' K'
  refine AW_for (S := Nat) (fun n => n ≤ l.length ∧ ∀ i (hi : i < l.length), i < n → (l[i] == s) = false) (fun n => ⟨lst [(0, .d (dS s)), (1, .d (.ip [.sl k (l.map fun x => [dS x])])), (4, int n)], hlst []⟩) (fun n => l.length - n) 0 ?_ (by simp) ?_
  · refine Imp.to' (fun _ _ => trivial) (by simp [dNum, dS]) (by simp [dNum, dS])
  · rintro n ⟨hn, hp⟩
    refine AW_then fun K2 hK2 => ?_
    refine AW_rg (tyOf_good _) [0, 1, 4, 8] [] (fun _ _ => trivial) fun K' hK' => ?_
    repeat (refine sxf_next fun K2 hK2 => ?_; simp [dNum, dS]; (repeat (refine ⟨by omega, ?_⟩)); refine hK2 _ ?_; clear hK2 K2)
    refine sxf_nil (hK' _ ?_)
    refine AW.st (by simp [dNum, dS]; rfl) ?_
    clear hK' K'
    refine AW_cond' (b := n < l.length) (by simp [D.le, D.le.go, takeMap, dNum, dS]) (fun hc => ?_) (fun hc => ?_)
    · have hnl : n < l.length := hc
      refine AW_skip (hK2 _ ?_)
      refine AW_then fun K3 hK3 => ?_
      refine AW_block ?_
      cases he : (l[n] == s) with
      | true =>
        have he2 : l[n] = s := by simpa using he
        refine AW_rg (tyOf_good _) [0, 1, 4, 16] [] (fun _ _ => trivial) fun K' hK' => ?_
        repeat (refine sxf_next fun K2 hK2 => ?_; simp [dNum, dS, hnl, he, he2, binS, bs_list]; (repeat (refine ⟨by omega, ?_⟩)); refine hK2 _ ?_; clear hK2 K2)
        refine sxf_nil (hK' _ ?_)
        refine AW.st (by simp [dNum, dS, hnl, he, he2, binS, bs_list]; rfl) ?_
        clear hK' K'
        refine AW_cond true rfl (fun _ => ?_) (fun h => by cases h)
        refine AW_rg (tyOf_good _) [3] [] (fun _ _ => trivial) fun K' hK' => ?_
        repeat (refine sxf_next fun K2 hK2 => ?_; simp [dNum, dS]; (repeat (refine ⟨by omega, ?_⟩)); refine hK2 _ ?_; clear hK2 K2)
        refine sxf_nil (hK' _ ?_)
        refine AW.st (by simp [dNum, dS]; rfl) ?_
        clear hK' K'
        have hany : (l.any fun x => x == s) = true := List.any_eq_true.2 ⟨_, List.getElem_mem hnl, he⟩
        refine AW_ret ?_
        simp [D.le, D.le.go, takeMap, dNum, dS, hany]
      | false =>
        have he2 : ¬ l[n] = s := by simpa using he
        refine AW_rg (tyOf_good _) [0, 1, 4, 16] [] (fun _ _ => trivial) fun K' hK' => ?_
        repeat (refine sxf_next fun K2 hK2 => ?_; simp [dNum, dS, hnl, he, he2, binS, bs_list]; (repeat (refine ⟨by omega, ?_⟩)); refine hK2 _ ?_; clear hK2 K2)
        refine sxf_nil (hK' _ ?_)
        refine AW.st (by simp [dNum, dS, hnl, he, he2, binS, bs_list]; rfl) ?_
        clear hK' K'
        refine AW_cond false rfl (fun h => by cases h) (fun _ => ?_)
        refine AW_skip (hK3 _ ?_)
        refine AW_re (tyOf_good _) fun K' hK' => ?_
        repeat (refine sxf_next fun K2 hK2 => ?_; simp [dNum, dS]; (repeat (refine ⟨by omega, ?_⟩)); refine hK2 _ ?_; clear hK2 K2)
        refine sxf_nil (hK' _ ?_)
        clear hK' K'
        try simp only [thn, inb]
        refine Again.mk (n + 1) ⟨by omega, fun i hi hin => ?_⟩ (by omega) ?_
        · by_cases h : i = n
          · subst h; exact he
          · exact hp i hi (by omega)
        refine Imp.to' (fun _ _ => trivial) (by simp [dNum, dS]) (by simp [dNum, dS])
    · refine AW_exit (hK1 _ ?_)
      have hany : (l.any fun x => x == s) = false := by
        rw [List.any_eq_false]
        intro x hx
        obtain ⟨i, hi, rfl⟩ := List.mem_iff_getElem.1 hx
        simp [hp i hi (by omega)]
      refine AW_rg (tyOf_good _) [3] [] (fun _ _ => trivial) fun K' hK' => ?_
      repeat (refine sxf_next fun K2 hK2 => ?_; simp [dNum, dS]; (repeat (refine ⟨by omega, ?_⟩)); refine hK2 _ ?_; clear hK2 K2)
      refine sxf_nil (hK' _ ?_)
      refine AW.st (by simp [dNum, dS]; rfl) ?_
      clear hK' K'
      refine AW_ret ?_
      simp [D.le, D.le.go, takeMap, dNum, dS, hany]
def dLam (k : Option Bool) (l : List (List UInt8)) : D := .fn (.func 6) [.ip [.sl k (l.map fun x => [dS x])]]
theorem lamong_spec (G : Glob) (k : Option Bool) (l : List (List UInt8)) : PureC Tryz.prog G 5 [.sl k (l.map fun x => [dS x])] (dLam k l) := by
  refine PureC.of_body (tyOf_good _) Tryz.func5 rfl rfl (rs := [.tmp 2]) Tryz.results5 (by simp [Tryz.ntmps5]) fun X => ?_
  simp only [Tryz.ntmps5, List.map]
  refine AW_rg (tyOf_good _) [1] [1] (fun _ _ => trivial) fun K' hK' => ?_
  repeat (refine sxf_next fun K2 hK2 => ?_; simp [dNum, dS]; (repeat (refine ⟨by omega, ?_⟩)); refine hK2 _ ?_; clear hK2 K2)
  refine sxf_nil (hK' _ ?_)
  refine AW.st (by simp [dNum, dS]; rfl) ?_
  clear hK' K'
  refine AW.imp (Imp.freezeB 1 trivial) ?_
  refine AW.st (by simp [dNum, dS]; rfl) ?_
  refine AW_rg (tyOf_good _) [2] [] (fun _ _ => trivial) fun K' hK' => ?_
  repeat (refine sxf_next fun K2 hK2 => ?_; simp [dNum, dS]; (repeat (refine ⟨by omega, ?_⟩)); refine hK2 _ ?_; clear hK2 K2)
  refine sxf_nil (hK' _ ?_)
  refine AW.st (by simp [dNum, dS]; rfl) ?_
  clear hK' K'
  refine AW_ret ?_
  simp [D.le, D.le.go, takeMap, dNum, dS, dLam, D.le_refl, D.leGo_refl]
theorem lamong_tells (G : Glob) (k : Option Bool) (l : List (List UInt8)) (hl : l.length < 2^60) : Tells G 6 [.ip [.sl k (l.map fun x => [dS x])]] (fun s => l.any fun x => x == s) := fun s => lamong1_spec G k l s hl

/-! ### The document's Eval -/
def cntE (is was : List UInt8 → Bool) : List Ex → Nat
  | [] => 0
  | e :: l => (if evE is was e then 1 else 0) + cntE is was l
theorem cntE_app (is was : List UInt8 → Bool) : ∀ a b : List Ex, cntE is was (a ++ b) = cntE is was a + cntE is was b
  | [], b => by simp [cntE]
  | e :: a, b => by simp only [List.cons_append, cntE, cntE_app is was a b]; omega
theorem cntE_le (is was : List UInt8 → Bool) : ∀ l : List Ex, cntE is was l ≤ l.length
  | [] => by simp [cntE]
  | e :: l => by have := cntE_le is was l; simp only [cntE, List.length_cons]; split <;> omega
theorem cntE_take (is was : List UInt8 → Bool) {l : List Ex} {i : Nat} (hi : i < l.length) : cntE is was (l.take (i + 1)) = cntE is was (l.take i) + (if evE is was l[i] then 1 else 0) := by
  rw [List.take_succ_eq_append_getElem hi, cntE_app]
  simp [cntE]
theorem cntE_and (is was : List UInt8 → Bool) : ∀ l : List Ex, decide (cntE is was l = l.length) = evA is was l
  | [] => rfl
  | e :: l => by
    have h1 := cntE_and is was l
    have h2 := cntE_le is was l
    rw [evA, ← h1]
    simp only [cntE, List.length_cons]
    rcases Bool.eq_false_or_eq_true (evE is was e) with hE | hE
    · simp [hE, Nat.add_comm 1]
    · have : ¬ cntE is was l = l.length + 1 := by omega
      simp [hE, this]
theorem cntE_or (is was : List UInt8 → Bool) : ∀ l : List Ex, decide (0 < cntE is was l) = evO is was l
  | [] => rfl
  | e :: l => by
    have h1 := cntE_or is was l
    rw [evO, ← h1]
    simp only [cntE]
    rcases Bool.eq_false_or_eq_true (evE is was e) with hE | hE
    · simp [hE]; omega
    · simp [hE]
set_option maxHeartbeats 32000000 in
set_option maxRecDepth 100000 in
theorem reval_at (G : Glob) (g1 g2 : FuncId) (c1 c2 : List D) (is was : List UInt8 → Bool) (h1 : Tells G g1 c1 is) (h2 : Tells G g2 c2 was) : ∀ (n : Nat) (e : Ex), SizeOf.sizeOf e ≤ n → WfE e → bE e ≤ 2^28 → PureC Tryz.prog G 8 [dR e, .fn (.func g1) c1, .fn (.func g2) c2] (.v (.bool (evE is was e))) := by
  intro n
  induction n with
  | zero => intro e hsz; cases e <;> simp at hsz
  | succ n ih =>
    intro e hsz hwf hb
    cases e with
    | cst b =>
      cases b with
      | true =>
        rw [dR]
        refine PureC.of_body (tyOf_good _) Tryz.func8 rfl rfl (rs := [.tmp 6]) Tryz.results8 (by simp [Tryz.ntmps8]) fun X => ?_
        simp only [Tryz.ntmps8, List.map]
        refine AW_rg (tyOf_good _) [0, 1, 2] [] (fun _ _ => trivial) fun K' hK' => ?_
        repeat (refine sxf_next fun K2 hK2 => ?_; simp [dNum, dS, binS_eq, dNil]; (repeat (refine ⟨by omega, ?_⟩)); refine hK2 _ ?_; clear hK2 K2)
        refine sxf_nil (hK' _ ?_)
        refine AW.st (by simp [dNum, dS, binS_eq, dNil]; rfl) ?_
        clear hK' K'
        refine AW_then fun K1 hK1 => ?_
        refine AW_rg (tyOf_good _) [0, 1, 2, 13] [] (fun _ _ => trivial) fun K' hK' => ?_
        repeat (refine sxf_next fun K2 hK2 => ?_; simp [dNum, dS, binS_eq, dNil]; (repeat (refine ⟨by omega, ?_⟩)); refine hK2 _ ?_; clear hK2 K2)
        refine sxf_nil (hK' _ ?_)
        refine AW.st (by simp [dNum, dS, binS_eq, dNil]; rfl) ?_
        clear hK' K'
        refine AW_block ?_
        refine AW_rg (tyOf_good _) [0, 1, 2, 13, 14] [] (fun _ _ => trivial) fun K' hK' => ?_
        repeat (refine sxf_next fun K2 hK2 => ?_; simp [dNum, dS, binS_eq, dNil]; (repeat (refine ⟨by omega, ?_⟩)); refine hK2 _ ?_; clear hK2 K2)
        refine sxf_nil (hK' _ ?_)
        refine AW.st (by simp [dNum, dS, binS_eq, dNil]; rfl) ?_
        clear hK' K'
        refine AW_cond true rfl (fun _ => ?_) (fun h => by cases h)
        refine AW_rg (tyOf_good _) [6] [] (fun _ _ => trivial) fun K' hK' => ?_
        repeat (refine sxf_next fun K2 hK2 => ?_; simp [dNum, dS, binS_eq, dNil]; (repeat (refine ⟨by omega, ?_⟩)); refine hK2 _ ?_; clear hK2 K2)
        refine sxf_nil (hK' _ ?_)
        refine AW.st (by simp [dNum, dS, binS_eq, dNil]; rfl) ?_
        clear hK' K'
        refine AW_ret ?_
        simp [D.le, D.le.go, takeMap, dNum, dS, binS_eq, dNil, evE]
      | false =>
        rw [dR]
        refine PureC.of_body (tyOf_good _) Tryz.func8 rfl rfl (rs := [.tmp 6]) Tryz.results8 (by simp [Tryz.ntmps8]) fun X => ?_
        simp only [Tryz.ntmps8, List.map]
        refine AW_rg (tyOf_good _) [0, 1, 2] [] (fun _ _ => trivial) fun K' hK' => ?_
        repeat (refine sxf_next fun K2 hK2 => ?_; simp [dNum, dS, binS_eq, dNil]; (repeat (refine ⟨by omega, ?_⟩)); refine hK2 _ ?_; clear hK2 K2)
        refine sxf_nil (hK' _ ?_)
        refine AW.st (by simp [dNum, dS, binS_eq, dNil]; rfl) ?_
        clear hK' K'
        refine AW_then fun K1 hK1 => ?_
        refine AW_rg (tyOf_good _) [0, 1, 2, 13] [] (fun _ _ => trivial) fun K' hK' => ?_
        repeat (refine sxf_next fun K2 hK2 => ?_; simp [dNum, dS, binS_eq, dNil]; (repeat (refine ⟨by omega, ?_⟩)); refine hK2 _ ?_; clear hK2 K2)
        refine sxf_nil (hK' _ ?_)
        refine AW.st (by simp [dNum, dS, binS_eq, dNil]; rfl) ?_
        clear hK' K'
        refine AW_block ?_
        refine AW_rg (tyOf_good _) [0, 1, 2, 13, 14] [] (fun _ _ => trivial) fun K' hK' => ?_
        repeat (refine sxf_next fun K2 hK2 => ?_; simp [dNum, dS, binS_eq, dNil]; (repeat (refine ⟨by omega, ?_⟩)); refine hK2 _ ?_; clear hK2 K2)
        refine sxf_nil (hK' _ ?_)
        refine AW.st (by simp [dNum, dS, binS_eq, dNil]; rfl) ?_
        clear hK' K'
        refine AW_cond false rfl (fun h => by cases h) (fun _ => ?_)
        refine AW_rg (tyOf_good _) [0, 1, 2, 13, 16] [] (fun _ _ => trivial) fun K' hK' => ?_
        repeat (refine sxf_next fun K2 hK2 => ?_; simp [dNum, dS, binS_eq, dNil]; (repeat (refine ⟨by omega, ?_⟩)); refine hK2 _ ?_; clear hK2 K2)
        refine sxf_nil (hK' _ ?_)
        refine AW.st (by simp [dNum, dS, binS_eq, dNil]; rfl) ?_
        clear hK' K'
        refine AW_cond false rfl (fun h => by cases h) (fun _ => ?_)
        refine AW_rg (tyOf_good _) [0, 1, 2, 13, 24] [] (fun _ _ => trivial) fun K' hK' => ?_
        repeat (refine sxf_next fun K2 hK2 => ?_; simp [dNum, dS, binS_eq, dNil]; (repeat (refine ⟨by omega, ?_⟩)); refine hK2 _ ?_; clear hK2 K2)
        refine sxf_nil (hK' _ ?_)
        refine AW.st (by simp [dNum, dS, binS_eq, dNil]; rfl) ?_
        clear hK' K'
        refine AW_cond false rfl (fun h => by cases h) (fun _ => ?_)
        refine AW_rg (tyOf_good _) [0, 1, 2, 13, 41] [] (fun _ _ => trivial) fun K' hK' => ?_
        repeat (refine sxf_next fun K2 hK2 => ?_; simp [dNum, dS, binS_eq, dNil]; (repeat (refine ⟨by omega, ?_⟩)); refine hK2 _ ?_; clear hK2 K2)
        refine sxf_nil (hK' _ ?_)
        refine AW.st (by simp [dNum, dS, binS_eq, dNil]; rfl) ?_
        clear hK' K'
        refine AW_cond false rfl (fun h => by cases h) (fun _ => ?_)
        refine AW_rg (tyOf_good _) [0, 1, 2, 13, 58] [] (fun _ _ => trivial) fun K' hK' => ?_
        repeat (refine sxf_next fun K2 hK2 => ?_; simp [dNum, dS, binS_eq, dNil]; (repeat (refine ⟨by omega, ?_⟩)); refine hK2 _ ?_; clear hK2 K2)
        refine sxf_nil (hK' _ ?_)
        refine AW.st (by simp [dNum, dS, binS_eq, dNil]; rfl) ?_
        clear hK' K'
        refine AW_cond false rfl (fun h => by cases h) (fun _ => ?_)
        refine AW_then fun K2 hK2 => ?_
        refine AW_rg (tyOf_good _) [0, 1, 2, 13, 70] [] (fun _ _ => trivial) fun K' hK' => ?_
        repeat (refine sxf_next fun K2 hK2 => ?_; simp [dNum, dS, binS_eq, dNil]; (repeat (refine ⟨by omega, ?_⟩)); refine hK2 _ ?_; clear hK2 K2)
        refine sxf_nil (hK' _ ?_)
        refine AW.st (by simp [dNum, dS, binS_eq, dNil]; rfl) ?_
        clear hK' K'
        refine AW_cond false rfl (fun h => by cases h) (fun _ => ?_)
        refine AW_re (tyOf_good _) fun K' hK' => ?_
        repeat (refine sxf_next fun K2 hK2 => ?_; simp [dNum, dS, binS_eq, dNil]; (repeat (refine ⟨by omega, ?_⟩)); refine hK2 _ ?_; clear hK2 K2)
        refine sxf_nil (hK' _ ?_)
        clear hK' K'
        refine hK2 _ (AW.norm [0, 1, 2, 70] [] (fun _ _ => trivial) (AW.st (by simp [dNum, dS, binS_eq, dNil]; rfl) ?_))
        refine AW_cond false rfl (fun h => by cases h) (fun _ => ?_)
        refine AW_skip (hK1 _ ?_)
        refine AW_rg (tyOf_good _) [6] [] (fun _ _ => trivial) fun K' hK' => ?_
        repeat (refine sxf_next fun K2 hK2 => ?_; simp [dNum, dS, binS_eq, dNil]; (repeat (refine ⟨by omega, ?_⟩)); refine hK2 _ ?_; clear hK2 K2)
        refine sxf_nil (hK' _ ?_)
        refine AW.st (by simp [dNum, dS, binS_eq, dNil]; rfl) ?_
        clear hK' K'
        refine AW_ret ?_
        simp [D.le, D.le.go, takeMap, dNum, dS, binS_eq, dNil, evE]
    | bit s =>
      have hi := h1 s
      rw [dR, evE]
      refine PureC.of_body (tyOf_good _) Tryz.func8 rfl rfl (rs := [.tmp 6]) Tryz.results8 (by simp [Tryz.ntmps8]) fun X => ?_
      simp only [Tryz.ntmps8, List.map]
      refine AW_rg (tyOf_good _) [0, 1, 2] [] (fun _ _ => trivial) fun K' hK' => ?_
      repeat (refine sxf_next fun K2 hK2 => ?_; simp [dNum, dS, binS_eq, dNil]; (repeat (refine ⟨by omega, ?_⟩)); refine hK2 _ ?_; clear hK2 K2)
      refine sxf_nil (hK' _ ?_)
      refine AW.st (by simp [dNum, dS, binS_eq, dNil]; rfl) ?_
      clear hK' K'
      refine AW_then fun K1 hK1 => ?_
      refine AW_rg (tyOf_good _) [0, 1, 2, 13] [] (fun _ _ => trivial) fun K' hK' => ?_
      repeat (refine sxf_next fun K2 hK2 => ?_; simp [dNum, dS, binS_eq, dNil]; (repeat (refine ⟨by omega, ?_⟩)); refine hK2 _ ?_; clear hK2 K2)
      refine sxf_nil (hK' _ ?_)
      refine AW.st (by simp [dNum, dS, binS_eq, dNil]; rfl) ?_
      clear hK' K'
      refine AW_block ?_
      refine AW_rg (tyOf_good _) [0, 1, 2, 13, 14] [] (fun _ _ => trivial) fun K' hK' => ?_
      repeat (refine sxf_next fun K2 hK2 => ?_; simp [dNum, dS, binS_eq, dNil]; (repeat (refine ⟨by omega, ?_⟩)); refine hK2 _ ?_; clear hK2 K2)
      refine sxf_nil (hK' _ ?_)
      refine AW.st (by simp [dNum, dS, binS_eq, dNil]; rfl) ?_
      clear hK' K'
      refine AW_cond false rfl (fun h => by cases h) (fun _ => ?_)
      refine AW_rg (tyOf_good _) [0, 1, 2, 13, 16] [] (fun _ _ => trivial) fun K' hK' => ?_
      repeat (refine sxf_next fun K2 hK2 => ?_; simp [dNum, dS, binS_eq, dNil]; (repeat (refine ⟨by omega, ?_⟩)); refine hK2 _ ?_; clear hK2 K2)
      refine sxf_nil (hK' _ ?_)
      refine AW.st (by simp [dNum, dS, binS_eq, dNil]; rfl) ?_
      clear hK' K'
      refine AW_cond true rfl (fun _ => ?_) (fun h => by cases h)
      refine AW_rg (tyOf_good _) [6] [] (fun _ _ => trivial) fun K' hK' => ?_
      repeat (refine sxf_next fun K2 hK2 => ?_; simp [dNum, dS, binS_eq, dNil]; (repeat (refine ⟨by omega, ?_⟩)); refine hK2 _ ?_; clear hK2 K2)
      refine sxf_next fun K2 hK2 => ?_
      simp [dNum, dS, binS_eq, dNil]
      refine callK.data (hi) (by simp; rfl) (by first | exact D.leGo_refl _ | simp [takeMap, List.map_map, Function.comp_def, D.le, D.le.go, D.le_refl, D.leGo_refl, dNum, dS, binS_eq, dNil]) ?_
      refine hK2 _ ?_
      clear hK2 K2
      simp only [putd, upd_lst]
      repeat (refine sxf_next fun K2 hK2 => ?_; simp [dNum, dS, binS_eq, dNil]; (repeat (refine ⟨by omega, ?_⟩)); refine hK2 _ ?_; clear hK2 K2)
      refine sxf_nil (hK' _ ?_)
      refine AW.st (by simp [dNum, dS, binS_eq, dNil]; rfl) ?_
      clear hK' K'
      refine AW_ret ?_
      simp [D.le, D.le.go, takeMap, dNum, dS, binS_eq, dNil]
    | rise s =>
      have hi := h1 s
      have hw := h2 s
      rw [dR, evE]
      cases hx : is s with
      | false =>
        rw [hx] at hi
        refine PureC.of_body (tyOf_good _) Tryz.func8 rfl rfl (rs := [.tmp 6]) Tryz.results8 (by simp [Tryz.ntmps8]) fun X => ?_
        simp only [Tryz.ntmps8, List.map]
        refine AW_rg (tyOf_good _) [0, 1, 2] [] (fun _ _ => trivial) fun K' hK' => ?_
        repeat (refine sxf_next fun K2 hK2 => ?_; simp [dNum, dS, binS_eq, dNil]; (repeat (refine ⟨by omega, ?_⟩)); refine hK2 _ ?_; clear hK2 K2)
        refine sxf_nil (hK' _ ?_)
        refine AW.st (by simp [dNum, dS, binS_eq, dNil]; rfl) ?_
        clear hK' K'
        refine AW_then fun K1 hK1 => ?_
        refine AW_rg (tyOf_good _) [0, 1, 2, 13] [] (fun _ _ => trivial) fun K' hK' => ?_
        repeat (refine sxf_next fun K2 hK2 => ?_; simp [dNum, dS, binS_eq, dNil]; (repeat (refine ⟨by omega, ?_⟩)); refine hK2 _ ?_; clear hK2 K2)
        refine sxf_nil (hK' _ ?_)
        refine AW.st (by simp [dNum, dS, binS_eq, dNil]; rfl) ?_
        clear hK' K'
        refine AW_block ?_
        refine AW_rg (tyOf_good _) [0, 1, 2, 13, 14] [] (fun _ _ => trivial) fun K' hK' => ?_
        repeat (refine sxf_next fun K2 hK2 => ?_; simp [dNum, dS, binS_eq, dNil]; (repeat (refine ⟨by omega, ?_⟩)); refine hK2 _ ?_; clear hK2 K2)
        refine sxf_nil (hK' _ ?_)
        refine AW.st (by simp [dNum, dS, binS_eq, dNil]; rfl) ?_
        clear hK' K'
        refine AW_cond false rfl (fun h => by cases h) (fun _ => ?_)
        refine AW_rg (tyOf_good _) [0, 1, 2, 13, 16] [] (fun _ _ => trivial) fun K' hK' => ?_
        repeat (refine sxf_next fun K2 hK2 => ?_; simp [dNum, dS, binS_eq, dNil]; (repeat (refine ⟨by omega, ?_⟩)); refine hK2 _ ?_; clear hK2 K2)
        refine sxf_nil (hK' _ ?_)
        refine AW.st (by simp [dNum, dS, binS_eq, dNil]; rfl) ?_
        clear hK' K'
        refine AW_cond false rfl (fun h => by cases h) (fun _ => ?_)
        refine AW_rg (tyOf_good _) [0, 1, 2, 13, 24] [] (fun _ _ => trivial) fun K' hK' => ?_
        repeat (refine sxf_next fun K2 hK2 => ?_; simp [dNum, dS, binS_eq, dNil]; (repeat (refine ⟨by omega, ?_⟩)); refine hK2 _ ?_; clear hK2 K2)
        refine sxf_nil (hK' _ ?_)
        refine AW.st (by simp [dNum, dS, binS_eq, dNil]; rfl) ?_
        clear hK' K'
        refine AW_cond true rfl (fun _ => ?_) (fun h => by cases h)
        refine AW_rg (tyOf_good _) [6] [] (fun _ _ => trivial) fun K' hK' => ?_
        repeat (refine sxf_next fun K2 hK2 => ?_; simp [dNum, dS, binS_eq, dNil]; (repeat (refine ⟨by omega, ?_⟩)); refine hK2 _ ?_; clear hK2 K2)
        refine sxf_next fun K2 hK2 => ?_
        simp [dNum, dS, binS_eq, dNil]
        refine callK.data (hi) (by simp; rfl) (by first | exact D.leGo_refl _ | simp [takeMap, List.map_map, Function.comp_def, D.le, D.le.go, D.le_refl, D.leGo_refl, dNum, dS, binS_eq, dNil]) ?_
        refine hK2 _ ?_
        clear hK2 K2
        simp only [putd, upd_lst]
        repeat (refine sxf_next fun K2 hK2 => ?_; simp [dNum, dS, binS_eq, dNil]; (repeat (refine ⟨by omega, ?_⟩)); refine hK2 _ ?_; clear hK2 K2)
        refine sxf_nil (hK' _ ?_)
        refine AW.st (by simp [dNum, dS, binS_eq, dNil]; rfl) ?_
        clear hK' K'
        refine AW_ret ?_
        simp [D.le, D.le.go, takeMap, dNum, dS, binS_eq, dNil]
      | true =>
        rw [hx] at hi
        refine PureC.of_body (tyOf_good _) Tryz.func8 rfl rfl (rs := [.tmp 6]) Tryz.results8 (by simp [Tryz.ntmps8]) fun X => ?_
        simp only [Tryz.ntmps8, List.map]
        refine AW_rg (tyOf_good _) [0, 1, 2] [] (fun _ _ => trivial) fun K' hK' => ?_
        repeat (refine sxf_next fun K2 hK2 => ?_; simp [dNum, dS, binS_eq, dNil]; (repeat (refine ⟨by omega, ?_⟩)); refine hK2 _ ?_; clear hK2 K2)
        refine sxf_nil (hK' _ ?_)
        refine AW.st (by simp [dNum, dS, binS_eq, dNil]; rfl) ?_
        clear hK' K'
        refine AW_then fun K1 hK1 => ?_
        refine AW_rg (tyOf_good _) [0, 1, 2, 13] [] (fun _ _ => trivial) fun K' hK' => ?_
        repeat (refine sxf_next fun K2 hK2 => ?_; simp [dNum, dS, binS_eq, dNil]; (repeat (refine ⟨by omega, ?_⟩)); refine hK2 _ ?_; clear hK2 K2)
        refine sxf_nil (hK' _ ?_)
        refine AW.st (by simp [dNum, dS, binS_eq, dNil]; rfl) ?_
        clear hK' K'
        refine AW_block ?_
        refine AW_rg (tyOf_good _) [0, 1, 2, 13, 14] [] (fun _ _ => trivial) fun K' hK' => ?_
        repeat (refine sxf_next fun K2 hK2 => ?_; simp [dNum, dS, binS_eq, dNil]; (repeat (refine ⟨by omega, ?_⟩)); refine hK2 _ ?_; clear hK2 K2)
        refine sxf_nil (hK' _ ?_)
        refine AW.st (by simp [dNum, dS, binS_eq, dNil]; rfl) ?_
        clear hK' K'
        refine AW_cond false rfl (fun h => by cases h) (fun _ => ?_)
        refine AW_rg (tyOf_good _) [0, 1, 2, 13, 16] [] (fun _ _ => trivial) fun K' hK' => ?_
        repeat (refine sxf_next fun K2 hK2 => ?_; simp [dNum, dS, binS_eq, dNil]; (repeat (refine ⟨by omega, ?_⟩)); refine hK2 _ ?_; clear hK2 K2)
        refine sxf_nil (hK' _ ?_)
        refine AW.st (by simp [dNum, dS, binS_eq, dNil]; rfl) ?_
        clear hK' K'
        refine AW_cond false rfl (fun h => by cases h) (fun _ => ?_)
        refine AW_rg (tyOf_good _) [0, 1, 2, 13, 24] [] (fun _ _ => trivial) fun K' hK' => ?_
        repeat (refine sxf_next fun K2 hK2 => ?_; simp [dNum, dS, binS_eq, dNil]; (repeat (refine ⟨by omega, ?_⟩)); refine hK2 _ ?_; clear hK2 K2)
        refine sxf_nil (hK' _ ?_)
        refine AW.st (by simp [dNum, dS, binS_eq, dNil]; rfl) ?_
        clear hK' K'
        refine AW_cond true rfl (fun _ => ?_) (fun h => by cases h)
        refine AW_rg (tyOf_good _) [6] [] (fun _ _ => trivial) fun K' hK' => ?_
        repeat (refine sxf_next fun K2 hK2 => ?_; simp [dNum, dS, binS_eq, dNil]; (repeat (refine ⟨by omega, ?_⟩)); refine hK2 _ ?_; clear hK2 K2)
        refine sxf_next fun K2 hK2 => ?_
        simp [dNum, dS, binS_eq, dNil]
        refine callK.data (hi) (by simp; rfl) (by first | exact D.leGo_refl _ | simp [takeMap, List.map_map, Function.comp_def, D.le, D.le.go, D.le_refl, D.leGo_refl, dNum, dS, binS_eq, dNil]) ?_
        refine hK2 _ ?_
        clear hK2 K2
        simp only [putd, upd_lst]
        repeat (refine sxf_next fun K2 hK2 => ?_; simp [dNum, dS, binS_eq, dNil]; (repeat (refine ⟨by omega, ?_⟩)); refine hK2 _ ?_; clear hK2 K2)
        refine sxf_next fun K2 hK2 => ?_
        simp [dNum, dS, binS_eq, dNil]
        refine callK.data (hw) (by simp; rfl) (by first | exact D.leGo_refl _ | simp [takeMap, List.map_map, Function.comp_def, D.le, D.le.go, D.le_refl, D.leGo_refl, dNum, dS, binS_eq, dNil]) ?_
        refine hK2 _ ?_
        clear hK2 K2
        simp only [putd, upd_lst]
        repeat (refine sxf_next fun K2 hK2 => ?_; simp [dNum, dS, binS_eq, dNil]; (repeat (refine ⟨by omega, ?_⟩)); refine hK2 _ ?_; clear hK2 K2)
        refine sxf_nil (hK' _ ?_)
        refine AW.st (by simp [dNum, dS, binS_eq, dNil]; rfl) ?_
        clear hK' K'
        refine AW_ret ?_
        simp [D.le, D.le.go, takeMap, dNum, dS, binS_eq, dNil]
    | fall s =>
      have hi := h2 s
      have hw := h1 s
      rw [dR, evE]
      rw [Bool.and_comm]
      cases hx : was s with
      | false =>
        rw [hx] at hi
        refine PureC.of_body (tyOf_good _) Tryz.func8 rfl rfl (rs := [.tmp 6]) Tryz.results8 (by simp [Tryz.ntmps8]) fun X => ?_
        simp only [Tryz.ntmps8, List.map]
        refine AW_rg (tyOf_good _) [0, 1, 2] [] (fun _ _ => trivial) fun K' hK' => ?_
        repeat (refine sxf_next fun K2 hK2 => ?_; simp [dNum, dS, binS_eq, dNil]; (repeat (refine ⟨by omega, ?_⟩)); refine hK2 _ ?_; clear hK2 K2)
        refine sxf_nil (hK' _ ?_)
        refine AW.st (by simp [dNum, dS, binS_eq, dNil]; rfl) ?_
        clear hK' K'
        refine AW_then fun K1 hK1 => ?_
        refine AW_rg (tyOf_good _) [0, 1, 2, 13] [] (fun _ _ => trivial) fun K' hK' => ?_
        repeat (refine sxf_next fun K2 hK2 => ?_; simp [dNum, dS, binS_eq, dNil]; (repeat (refine ⟨by omega, ?_⟩)); refine hK2 _ ?_; clear hK2 K2)
        refine sxf_nil (hK' _ ?_)
        refine AW.st (by simp [dNum, dS, binS_eq, dNil]; rfl) ?_
        clear hK' K'
        refine AW_block ?_
        refine AW_rg (tyOf_good _) [0, 1, 2, 13, 14] [] (fun _ _ => trivial) fun K' hK' => ?_
        repeat (refine sxf_next fun K2 hK2 => ?_; simp [dNum, dS, binS_eq, dNil]; (repeat (refine ⟨by omega, ?_⟩)); refine hK2 _ ?_; clear hK2 K2)
        refine sxf_nil (hK' _ ?_)
        refine AW.st (by simp [dNum, dS, binS_eq, dNil]; rfl) ?_
        clear hK' K'
        refine AW_cond false rfl (fun h => by cases h) (fun _ => ?_)
        refine AW_rg (tyOf_good _) [0, 1, 2, 13, 16] [] (fun _ _ => trivial) fun K' hK' => ?_
        repeat (refine sxf_next fun K2 hK2 => ?_; simp [dNum, dS, binS_eq, dNil]; (repeat (refine ⟨by omega, ?_⟩)); refine hK2 _ ?_; clear hK2 K2)
        refine sxf_nil (hK' _ ?_)
        refine AW.st (by simp [dNum, dS, binS_eq, dNil]; rfl) ?_
        clear hK' K'
        refine AW_cond false rfl (fun h => by cases h) (fun _ => ?_)
        refine AW_rg (tyOf_good _) [0, 1, 2, 13, 24] [] (fun _ _ => trivial) fun K' hK' => ?_
        repeat (refine sxf_next fun K2 hK2 => ?_; simp [dNum, dS, binS_eq, dNil]; (repeat (refine ⟨by omega, ?_⟩)); refine hK2 _ ?_; clear hK2 K2)
        refine sxf_nil (hK' _ ?_)
        refine AW.st (by simp [dNum, dS, binS_eq, dNil]; rfl) ?_
        clear hK' K'
        refine AW_cond false rfl (fun h => by cases h) (fun _ => ?_)
        refine AW_rg (tyOf_good _) [0, 1, 2, 13, 41] [] (fun _ _ => trivial) fun K' hK' => ?_
        repeat (refine sxf_next fun K2 hK2 => ?_; simp [dNum, dS, binS_eq, dNil]; (repeat (refine ⟨by omega, ?_⟩)); refine hK2 _ ?_; clear hK2 K2)
        refine sxf_nil (hK' _ ?_)
        refine AW.st (by simp [dNum, dS, binS_eq, dNil]; rfl) ?_
        clear hK' K'
        refine AW_cond true rfl (fun _ => ?_) (fun h => by cases h)
        refine AW_rg (tyOf_good _) [6] [] (fun _ _ => trivial) fun K' hK' => ?_
        repeat (refine sxf_next fun K2 hK2 => ?_; simp [dNum, dS, binS_eq, dNil]; (repeat (refine ⟨by omega, ?_⟩)); refine hK2 _ ?_; clear hK2 K2)
        refine sxf_next fun K2 hK2 => ?_
        simp [dNum, dS, binS_eq, dNil]
        refine callK.data (hi) (by simp; rfl) (by first | exact D.leGo_refl _ | simp [takeMap, List.map_map, Function.comp_def, D.le, D.le.go, D.le_refl, D.leGo_refl, dNum, dS, binS_eq, dNil]) ?_
        refine hK2 _ ?_
        clear hK2 K2
        simp only [putd, upd_lst]
        repeat (refine sxf_next fun K2 hK2 => ?_; simp [dNum, dS, binS_eq, dNil]; (repeat (refine ⟨by omega, ?_⟩)); refine hK2 _ ?_; clear hK2 K2)
        refine sxf_nil (hK' _ ?_)
        refine AW.st (by simp [dNum, dS, binS_eq, dNil]; rfl) ?_
        clear hK' K'
        refine AW_ret ?_
        simp [D.le, D.le.go, takeMap, dNum, dS, binS_eq, dNil]
      | true =>
        rw [hx] at hi
        refine PureC.of_body (tyOf_good _) Tryz.func8 rfl rfl (rs := [.tmp 6]) Tryz.results8 (by simp [Tryz.ntmps8]) fun X => ?_
        simp only [Tryz.ntmps8, List.map]
        refine AW_rg (tyOf_good _) [0, 1, 2] [] (fun _ _ => trivial) fun K' hK' => ?_
        repeat (refine sxf_next fun K2 hK2 => ?_; simp [dNum, dS, binS_eq, dNil]; (repeat (refine ⟨by omega, ?_⟩)); refine hK2 _ ?_; clear hK2 K2)
        refine sxf_nil (hK' _ ?_)
        refine AW.st (by simp [dNum, dS, binS_eq, dNil]; rfl) ?_
        clear hK' K'
        refine AW_then fun K1 hK1 => ?_
        refine AW_rg (tyOf_good _) [0, 1, 2, 13] [] (fun _ _ => trivial) fun K' hK' => ?_
        repeat (refine sxf_next fun K2 hK2 => ?_; simp [dNum, dS, binS_eq, dNil]; (repeat (refine ⟨by omega, ?_⟩)); refine hK2 _ ?_; clear hK2 K2)
        refine sxf_nil (hK' _ ?_)
        refine AW.st (by simp [dNum, dS, binS_eq, dNil]; rfl) ?_
        clear hK' K'
        refine AW_block ?_
        refine AW_rg (tyOf_good _) [0, 1, 2, 13, 14] [] (fun _ _ => trivial) fun K' hK' => ?_
        repeat (refine sxf_next fun K2 hK2 => ?_; simp [dNum, dS, binS_eq, dNil]; (repeat (refine ⟨by omega, ?_⟩)); refine hK2 _ ?_; clear hK2 K2)
        refine sxf_nil (hK' _ ?_)
        refine AW.st (by simp [dNum, dS, binS_eq, dNil]; rfl) ?_
        clear hK' K'
        refine AW_cond false rfl (fun h => by cases h) (fun _ => ?_)
        refine AW_rg (tyOf_good _) [0, 1, 2, 13, 16] [] (fun _ _ => trivial) fun K' hK' => ?_
        repeat (refine sxf_next fun K2 hK2 => ?_; simp [dNum, dS, binS_eq, dNil]; (repeat (refine ⟨by omega, ?_⟩)); refine hK2 _ ?_; clear hK2 K2)
        refine sxf_nil (hK' _ ?_)
        refine AW.st (by simp [dNum, dS, binS_eq, dNil]; rfl) ?_
        clear hK' K'
        refine AW_cond false rfl (fun h => by cases h) (fun _ => ?_)
        refine AW_rg (tyOf_good _) [0, 1, 2, 13, 24] [] (fun _ _ => trivial) fun K' hK' => ?_
        repeat (refine sxf_next fun K2 hK2 => ?_; simp [dNum, dS, binS_eq, dNil]; (repeat (refine ⟨by omega, ?_⟩)); refine hK2 _ ?_; clear hK2 K2)
        refine sxf_nil (hK' _ ?_)
        refine AW.st (by simp [dNum, dS, binS_eq, dNil]; rfl) ?_
        clear hK' K'
        refine AW_cond false rfl (fun h => by cases h) (fun _ => ?_)
        refine AW_rg (tyOf_good _) [0, 1, 2, 13, 41] [] (fun _ _ => trivial) fun K' hK' => ?_
        repeat (refine sxf_next fun K2 hK2 => ?_; simp [dNum, dS, binS_eq, dNil]; (repeat (refine ⟨by omega, ?_⟩)); refine hK2 _ ?_; clear hK2 K2)
        refine sxf_nil (hK' _ ?_)
        refine AW.st (by simp [dNum, dS, binS_eq, dNil]; rfl) ?_
        clear hK' K'
        refine AW_cond true rfl (fun _ => ?_) (fun h => by cases h)
        refine AW_rg (tyOf_good _) [6] [] (fun _ _ => trivial) fun K' hK' => ?_
        repeat (refine sxf_next fun K2 hK2 => ?_; simp [dNum, dS, binS_eq, dNil]; (repeat (refine ⟨by omega, ?_⟩)); refine hK2 _ ?_; clear hK2 K2)
        refine sxf_next fun K2 hK2 => ?_
        simp [dNum, dS, binS_eq, dNil]
        refine callK.data (hi) (by simp; rfl) (by first | exact D.leGo_refl _ | simp [takeMap, List.map_map, Function.comp_def, D.le, D.le.go, D.le_refl, D.leGo_refl, dNum, dS, binS_eq, dNil]) ?_
        refine hK2 _ ?_
        clear hK2 K2
        simp only [putd, upd_lst]
        repeat (refine sxf_next fun K2 hK2 => ?_; simp [dNum, dS, binS_eq, dNil]; (repeat (refine ⟨by omega, ?_⟩)); refine hK2 _ ?_; clear hK2 K2)
        refine sxf_next fun K2 hK2 => ?_
        simp [dNum, dS, binS_eq, dNil]
        refine callK.data (hw) (by simp; rfl) (by first | exact D.leGo_refl _ | simp [takeMap, List.map_map, Function.comp_def, D.le, D.le.go, D.le_refl, D.leGo_refl, dNum, dS, binS_eq, dNil]) ?_
        refine hK2 _ ?_
        clear hK2 K2
        simp only [putd, upd_lst]
        repeat (refine sxf_next fun K2 hK2 => ?_; simp [dNum, dS, binS_eq, dNil]; (repeat (refine ⟨by omega, ?_⟩)); refine hK2 _ ?_; clear hK2 K2)
        refine sxf_nil (hK' _ ?_)
        refine AW.st (by simp [dNum, dS, binS_eq, dNil]; rfl) ?_
        clear hK' K'
        refine AW_ret ?_
        simp [D.le, D.le.go, takeMap, dNum, dS, binS_eq, dNil]
    | not x =>
      have hc := ih x (by simp at hsz; omega) (by simpa [WfE] using hwf) (by simp only [bE] at hb; omega)
      rw [dR, evE]
      rw [dR_form x] at hc ⊢
      refine PureC.of_body (tyOf_good _) Tryz.func8 rfl rfl (rs := [.tmp 6]) Tryz.results8 (by simp [Tryz.ntmps8]) fun X => ?_
      simp only [Tryz.ntmps8, List.map]
      refine AW_rg (tyOf_good _) [0, 1, 2] [] (fun _ _ => trivial) fun K' hK' => ?_
      repeat (refine sxf_next fun K2 hK2 => ?_; simp [dNum, dS, binS_eq, dNil]; (repeat (refine ⟨by omega, ?_⟩)); refine hK2 _ ?_; clear hK2 K2)
      refine sxf_nil (hK' _ ?_)
      refine AW.st (by simp [dNum, dS, binS_eq, dNil]; rfl) ?_
      clear hK' K'
      refine AW_then fun K1 hK1 => ?_
      refine AW_rg (tyOf_good _) [0, 1, 2, 13] [] (fun _ _ => trivial) fun K' hK' => ?_
      repeat (refine sxf_next fun K2 hK2 => ?_; simp [dNum, dS, binS_eq, dNil]; (repeat (refine ⟨by omega, ?_⟩)); refine hK2 _ ?_; clear hK2 K2)
      refine sxf_nil (hK' _ ?_)
      refine AW.st (by simp [dNum, dS, binS_eq, dNil]; rfl) ?_
      clear hK' K'
      refine AW_block ?_
      refine AW_rg (tyOf_good _) [0, 1, 2, 13, 14] [] (fun _ _ => trivial) fun K' hK' => ?_
      repeat (refine sxf_next fun K2 hK2 => ?_; simp [dNum, dS, binS_eq, dNil]; (repeat (refine ⟨by omega, ?_⟩)); refine hK2 _ ?_; clear hK2 K2)
      refine sxf_nil (hK' _ ?_)
      refine AW.st (by simp [dNum, dS, binS_eq, dNil]; rfl) ?_
      clear hK' K'
      refine AW_cond false rfl (fun h => by cases h) (fun _ => ?_)
      refine AW_rg (tyOf_good _) [0, 1, 2, 13, 16] [] (fun _ _ => trivial) fun K' hK' => ?_
      repeat (refine sxf_next fun K2 hK2 => ?_; simp [dNum, dS, binS_eq, dNil]; (repeat (refine ⟨by omega, ?_⟩)); refine hK2 _ ?_; clear hK2 K2)
      refine sxf_nil (hK' _ ?_)
      refine AW.st (by simp [dNum, dS, binS_eq, dNil]; rfl) ?_
      clear hK' K'
      refine AW_cond false rfl (fun h => by cases h) (fun _ => ?_)
      refine AW_rg (tyOf_good _) [0, 1, 2, 13, 24] [] (fun _ _ => trivial) fun K' hK' => ?_
      repeat (refine sxf_next fun K2 hK2 => ?_; simp [dNum, dS, binS_eq, dNil]; (repeat (refine ⟨by omega, ?_⟩)); refine hK2 _ ?_; clear hK2 K2)
      refine sxf_nil (hK' _ ?_)
      refine AW.st (by simp [dNum, dS, binS_eq, dNil]; rfl) ?_
      clear hK' K'
      refine AW_cond false rfl (fun h => by cases h) (fun _ => ?_)
      refine AW_rg (tyOf_good _) [0, 1, 2, 13, 41] [] (fun _ _ => trivial) fun K' hK' => ?_
      repeat (refine sxf_next fun K2 hK2 => ?_; simp [dNum, dS, binS_eq, dNil]; (repeat (refine ⟨by omega, ?_⟩)); refine hK2 _ ?_; clear hK2 K2)
      refine sxf_nil (hK' _ ?_)
      refine AW.st (by simp [dNum, dS, binS_eq, dNil]; rfl) ?_
      clear hK' K'
      refine AW_cond false rfl (fun h => by cases h) (fun _ => ?_)
      refine AW_rg (tyOf_good _) [0, 1, 2, 13, 58] [] (fun _ _ => trivial) fun K' hK' => ?_
      repeat (refine sxf_next fun K2 hK2 => ?_; simp [dNum, dS, binS_eq, dNil]; (repeat (refine ⟨by omega, ?_⟩)); refine hK2 _ ?_; clear hK2 K2)
      refine sxf_nil (hK' _ ?_)
      refine AW.st (by simp [dNum, dS, binS_eq, dNil]; rfl) ?_
      clear hK' K'
      refine AW_cond true rfl (fun _ => ?_) (fun h => by cases h)
      refine AW_rg (tyOf_good _) [6] [] (fun _ _ => trivial) fun K' hK' => ?_
      repeat (refine sxf_next fun K2 hK2 => ?_; simp [dNum, dS, binS_eq, dNil]; (repeat (refine ⟨by omega, ?_⟩)); refine hK2 _ ?_; clear hK2 K2)
      refine sxf_next fun K2 hK2 => ?_
      simp [dNum, dS, binS_eq, dNil]
      refine callK.data (hc) (by simp; rfl) (by first | exact D.leGo_refl _ | simp [takeMap, List.map_map, Function.comp_def, D.le, D.le.go, D.le_refl, D.leGo_refl, dNum, dS, binS_eq, dNil]) ?_
      refine hK2 _ ?_
      clear hK2 K2
      simp only [putd, upd_lst]
      repeat (refine sxf_next fun K2 hK2 => ?_; simp [dNum, dS, binS_eq, dNil]; (repeat (refine ⟨by omega, ?_⟩)); refine hK2 _ ?_; clear hK2 K2)
      refine sxf_nil (hK' _ ?_)
      refine AW.st (by simp [dNum, dS, binS_eq, dNil]; rfl) ?_
      clear hK' K'
      refine AW_ret ?_
      simp [D.le, D.le.go, takeMap, dNum, dS, binS_eq, dNil]
    | and l =>
      have hln := bEs_len l
      simp only [bE] at hb
      have hwl : 2 ≤ l.length ∧ ∀ x ∈ l, WfE x := by rw [WfE] at hwf; exact ⟨hwf.1, (WfEs_iff l).1 hwf.2⟩
      have hch : ∀ x ∈ l, PureC Tryz.prog G 8 [dR x, .fn (.func g1) c1, .fn (.func g2) c2] (.v (.bool (evE is was x))) := fun x hx => by
        have h5 := List.sizeOf_lt_of_mem hx
        exact ih x (by simp only [Ex.and.sizeOf_spec] at hsz; omega) (hwl.2 x hx) (by have := bEs_mem hx; omega)
      have hcnt := cntE_and is was l
      rw [evE, ← hcnt]
      rw [dR, dRs_map]
      clear hcnt
      refine PureC.of_body (tyOf_good _) Tryz.func8 rfl rfl (rs := [.tmp 6]) Tryz.results8 (by simp [Tryz.ntmps8]) fun X => ?_
      simp only [Tryz.ntmps8, List.map]
      refine AW_rg (tyOf_good _) [0, 1, 2] [] (fun _ _ => trivial) fun K' hK' => ?_
      repeat (refine sxf_next fun K2 hK2 => ?_; simp [dNum, dS, binS_eq, dNil]; (repeat (refine ⟨by omega, ?_⟩)); refine hK2 _ ?_; clear hK2 K2)
      refine sxf_nil (hK' _ ?_)
      refine AW.st (by simp [dNum, dS, binS_eq, dNil]; rfl) ?_
      clear hK' K'
      refine AW_then fun K1 hK1 => ?_
      refine AW_rg (tyOf_good _) [0, 1, 2, 13] [] (fun _ _ => trivial) fun K' hK' => ?_
      repeat (refine sxf_next fun K2 hK2 => ?_; simp [dNum, dS, binS_eq, dNil]; (repeat (refine ⟨by omega, ?_⟩)); refine hK2 _ ?_; clear hK2 K2)
      refine sxf_nil (hK' _ ?_)
      refine AW.st (by simp [dNum, dS, binS_eq, dNil]; rfl) ?_
      clear hK' K'
      refine AW_block ?_
      refine AW_rg (tyOf_good _) [0, 1, 2, 13, 14] [] (fun _ _ => trivial) fun K' hK' => ?_
      repeat (refine sxf_next fun K2 hK2 => ?_; simp [dNum, dS, binS_eq, dNil]; (repeat (refine ⟨by omega, ?_⟩)); refine hK2 _ ?_; clear hK2 K2)
      refine sxf_nil (hK' _ ?_)
      refine AW.st (by simp [dNum, dS, binS_eq, dNil]; rfl) ?_
      clear hK' K'
      refine AW_cond false rfl (fun h => by cases h) (fun _ => ?_)
      refine AW_rg (tyOf_good _) [0, 1, 2, 13, 16] [] (fun _ _ => trivial) fun K' hK' => ?_
      repeat (refine sxf_next fun K2 hK2 => ?_; simp [dNum, dS, binS_eq, dNil]; (repeat (refine ⟨by omega, ?_⟩)); refine hK2 _ ?_; clear hK2 K2)
      refine sxf_nil (hK' _ ?_)
      refine AW.st (by simp [dNum, dS, binS_eq, dNil]; rfl) ?_
      clear hK' K'
      refine AW_cond false rfl (fun h => by cases h) (fun _ => ?_)
      refine AW_rg (tyOf_good _) [0, 1, 2, 13, 24] [] (fun _ _ => trivial) fun K' hK' => ?_
      repeat (refine sxf_next fun K2 hK2 => ?_; simp [dNum, dS, binS_eq, dNil]; (repeat (refine ⟨by omega, ?_⟩)); refine hK2 _ ?_; clear hK2 K2)
      refine sxf_nil (hK' _ ?_)
      refine AW.st (by simp [dNum, dS, binS_eq, dNil]; rfl) ?_
      clear hK' K'
      refine AW_cond false rfl (fun h => by cases h) (fun _ => ?_)
      refine AW_rg (tyOf_good _) [0, 1, 2, 13, 41] [] (fun _ _ => trivial) fun K' hK' => ?_
      repeat (refine sxf_next fun K2 hK2 => ?_; simp [dNum, dS, binS_eq, dNil]; (repeat (refine ⟨by omega, ?_⟩)); refine hK2 _ ?_; clear hK2 K2)
      refine sxf_nil (hK' _ ?_)
      refine AW.st (by simp [dNum, dS, binS_eq, dNil]; rfl) ?_
      clear hK' K'
      refine AW_cond false rfl (fun h => by cases h) (fun _ => ?_)
      refine AW_rg (tyOf_good _) [0, 1, 2, 13, 58] [] (fun _ _ => trivial) fun K' hK' => ?_
      repeat (refine sxf_next fun K2 hK2 => ?_; simp [dNum, dS, binS_eq, dNil]; (repeat (refine ⟨by omega, ?_⟩)); refine hK2 _ ?_; clear hK2 K2)
      refine sxf_nil (hK' _ ?_)
      refine AW.st (by simp [dNum, dS, binS_eq, dNil]; rfl) ?_
      clear hK' K'
      refine AW_cond false rfl (fun h => by cases h) (fun _ => ?_)
      refine AW_then fun K2 hK2 => ?_
      refine AW_rg (tyOf_good _) [0, 1, 2, 13, 70] [] (fun _ _ => trivial) fun K' hK' => ?_
      repeat (refine sxf_next fun K2 hK2 => ?_; simp [dNum, dS, binS_eq, dNil]; (repeat (refine ⟨by omega, ?_⟩)); refine hK2 _ ?_; clear hK2 K2)
      refine sxf_nil (hK' _ ?_)
      refine AW.st (by simp [dNum, dS, binS_eq, dNil]; rfl) ?_
      clear hK' K'
      refine AW_cond true rfl (fun _ => ?_) (fun h => by cases h)
      refine AW_skip (hK2 _ ?_)
      refine AW_cond true rfl (fun _ => ?_) (fun h => by cases h)
      refine AW_rg (tyOf_good _) [0, 1, 2, 7] [] (fun _ _ => trivial) fun K' hK' => ?_
      repeat (refine sxf_next fun K2 hK2 => ?_; simp [dNum, dS, binS_eq, dNil]; (repeat (refine ⟨by omega, ?_⟩)); refine hK2 _ ?_; clear hK2 K2)
      refine sxf_nil (hK' _ ?_)
      refine AW.st (by simp [dNum, dS, binS_eq, dNil]; rfl) ?_
      clear hK' K'
      refine AW_then fun K3 hK3 => ?_
      refine AW_rg (tyOf_good _) [0, 1, 2, 7, 76, 77, 78] [] (fun _ _ => trivial) fun K' hK' => ?_
      repeat (refine sxf_next fun K2 hK2 => ?_; simp [dNum, dS, binS_eq, dNil]; (repeat (refine ⟨by omega, ?_⟩)); refine hK2 _ ?_; clear hK2 K2)
      refine sxf_nil (hK' _ ?_)
      refine AW.st (by simp [dNum, dS, binS_eq, dNil]; rfl) ?_
      clear hK' K'
      refine AW_for (S := Nat) (fun i => i ≤ l.length) (fun i => ⟨lst [(0, .d (.ip [dS [38], dS [], .sl none (l.map fun e => [dR e])])), (1, .d (.fn (.func g1) c1)), (2, .d (.fn (.func g2) c2)), (7, int (cntE is was (l.take i) : Nat)), (76, .d (.sl none (l.map fun e => [dR e]))), (77, int l.length), (78, int i)], hlst []⟩) (fun i => l.length - i) 0 ?_ (by omega) ?_
      · refine Imp.to' (fun _ _ => trivial) (by simp [dNum, dS, binS_eq, dNil, cntE]) (by simp [dNum, dS, binS_eq, dNil, cntE])
      · intro i hi
        have hcl := cntE_le is was (l.take i)
        rw [List.length_take] at hcl
        refine AW_rg (tyOf_good _) [0, 1, 2, 7, 76, 77, 78, 79] [] (fun _ _ => trivial) fun K' hK' => ?_
        repeat (refine sxf_next fun K2 hK2 => ?_; simp [dNum, dS, binS_eq, dNil]; (repeat (refine ⟨by omega, ?_⟩)); refine hK2 _ ?_; clear hK2 K2)
        refine sxf_nil (hK' _ ?_)
        refine AW.st (by simp [dNum, dS, binS_eq, dNil]; rfl) ?_
        clear hK' K'
        refine AW_then fun K4 hK4 => ?_
        refine AW_cond' (b := i < l.length) (by simp [D.le, D.le.go, takeMap, dNum, dS, binS_eq, dNil]) (fun hc => ?_) (fun hc => ?_)
        · have hil : i < l.length := hc
          have hcc := hch _ (List.getElem_mem hil)
          have htk := cntE_take is was hil
          have hf := dR_form l[i]
          rw [hf] at hcc
          refine AW_skip (hK4 _ ?_)
          refine AW_then fun K5 hK5 => ?_
          refine AW_block ?_
          refine AW_rg (tyOf_good _) [0, 1, 2, 7, 9, 76, 77, 78] [] (fun _ _ => trivial) fun K' hK' => ?_
          repeat (refine sxf_next fun K2 hK2 => ?_; simp [dNum, dS, binS_eq, dNil, hil, hf]; (repeat (refine ⟨by omega, ?_⟩)); refine hK2 _ ?_; clear hK2 K2)
          refine sxf_nil (hK' _ ?_)
          refine AW.st (by simp [dNum, dS, binS_eq, dNil, hil, hf]; rfl) ?_
          clear hK' K'
          refine AW_rg (tyOf_good _) [0, 1, 2, 7, 76, 77, 78, 85] [] (fun _ _ => trivial) fun K' hK' => ?_
          repeat (refine sxf_next fun K2 hK2 => ?_; simp [dNum, dS, binS_eq, dNil]; (repeat (refine ⟨by omega, ?_⟩)); refine hK2 _ ?_; clear hK2 K2)
          refine sxf_next fun K2 hK2 => ?_
          simp [dNum, dS, binS_eq, dNil]
          refine callK.data (hcc) (by simp; rfl) (by first | exact D.leGo_refl _ | simp [takeMap, List.map_map, Function.comp_def, D.le, D.le.go, D.le_refl, D.leGo_refl, dNum, dS, binS_eq, dNil]) ?_
          refine hK2 _ ?_
          clear hK2 K2
          simp only [putd, upd_lst]
          repeat (refine sxf_next fun K2 hK2 => ?_; simp [dNum, dS, binS_eq, dNil]; (repeat (refine ⟨by omega, ?_⟩)); refine hK2 _ ?_; clear hK2 K2)
          refine sxf_nil (hK' _ ?_)
          refine AW.st (by simp [dNum, dS, binS_eq, dNil]; rfl) ?_
          clear hK' K'
          cases hv : evE is was l[i] with
          | true =>
            rw [hv] at htk
            refine AW_cond true (by simp [hv]) (fun _ => ?_) (fun h => by cases h)
            refine AW_re (tyOf_good _) fun K' hK' => ?_
            repeat (refine sxf_next fun K2 hK2 => ?_; simp [dNum, dS, binS_eq, dNil]; (repeat (refine ⟨by omega, ?_⟩)); refine hK2 _ ?_; clear hK2 K2)
            refine sxf_nil (hK' _ ?_)
            clear hK' K'
            refine hK5 _ (AW.norm [0, 1, 2, 7, 76, 77, 78] [] (fun _ _ => trivial) (AW.st (by simp [dNum, dS, binS_eq, dNil]; rfl) ?_))
            refine AW_re (tyOf_good _) fun K' hK' => ?_
            repeat (refine sxf_next fun K2 hK2 => ?_; simp [dNum, dS, binS_eq, dNil]; (repeat (refine ⟨by omega, ?_⟩)); refine hK2 _ ?_; clear hK2 K2)
            refine sxf_nil (hK' _ ?_)
            clear hK' K'
            try simp only [thn, inb]
            refine Again.mk (i + 1) (by omega) (by omega) ?_
            refine Imp.to' (fun _ _ => trivial) (by simp [dNum, dS, binS_eq, dNil, htk]) (by simp [dNum, dS, binS_eq, dNil, htk])
          | false =>
            rw [hv] at htk
            refine AW_cond false (by simp [hv]) (fun h => by cases h) (fun _ => ?_)
            refine AW_skip (hK5 _ ?_)
            refine AW_re (tyOf_good _) fun K' hK' => ?_
            repeat (refine sxf_next fun K2 hK2 => ?_; simp [dNum, dS, binS_eq, dNil]; (repeat (refine ⟨by omega, ?_⟩)); refine hK2 _ ?_; clear hK2 K2)
            refine sxf_nil (hK' _ ?_)
            clear hK' K'
            try simp only [thn, inb]
            refine Again.mk (i + 1) (by omega) (by omega) ?_
            refine Imp.to' (fun _ _ => trivial) (by simp [dNum, dS, binS_eq, dNil, htk]) (by simp [dNum, dS, binS_eq, dNil, htk])
        · obtain rfl : i = l.length := by omega
          refine AW_exit (hK3 _ ?_)
          rw [List.take_length] at hcl ⊢
          refine AW_rg (tyOf_good _) [6] [] (fun _ _ => trivial) fun K' hK' => ?_
          repeat (refine sxf_next fun K2 hK2 => ?_; simp [dNum, dS, binS_eq, dNil]; (repeat (refine ⟨by omega, ?_⟩)); refine hK2 _ ?_; clear hK2 K2)
          refine sxf_nil (hK' _ ?_)
          refine AW.st (by simp [dNum, dS, binS_eq, dNil]; rfl) ?_
          clear hK' K'
          refine AW_ret ?_
          simp [D.le, D.le.go, takeMap, dNum, dS, binS_eq, dNil]
    | or l =>
      have hln := bEs_len l
      simp only [bE] at hb
      have hwl : 2 ≤ l.length ∧ ∀ x ∈ l, WfE x := by rw [WfE] at hwf; exact ⟨hwf.1, (WfEs_iff l).1 hwf.2⟩
      have hch : ∀ x ∈ l, PureC Tryz.prog G 8 [dR x, .fn (.func g1) c1, .fn (.func g2) c2] (.v (.bool (evE is was x))) := fun x hx => by
        have h5 := List.sizeOf_lt_of_mem hx
        exact ih x (by simp only [Ex.or.sizeOf_spec] at hsz; omega) (hwl.2 x hx) (by have := bEs_mem hx; omega)
      have hcnt := cntE_or is was l
      rw [evE, ← hcnt]
      rw [dR, dRs_map]
      clear hcnt
      refine PureC.of_body (tyOf_good _) Tryz.func8 rfl rfl (rs := [.tmp 6]) Tryz.results8 (by simp [Tryz.ntmps8]) fun X => ?_
      simp only [Tryz.ntmps8, List.map]
      refine AW_rg (tyOf_good _) [0, 1, 2] [] (fun _ _ => trivial) fun K' hK' => ?_
      repeat (refine sxf_next fun K2 hK2 => ?_; simp [dNum, dS, binS_eq, dNil]; (repeat (refine ⟨by omega, ?_⟩)); refine hK2 _ ?_; clear hK2 K2)
      refine sxf_nil (hK' _ ?_)
      refine AW.st (by simp [dNum, dS, binS_eq, dNil]; rfl) ?_
      clear hK' K'
      refine AW_then fun K1 hK1 => ?_
      refine AW_rg (tyOf_good _) [0, 1, 2, 13] [] (fun _ _ => trivial) fun K' hK' => ?_
      repeat (refine sxf_next fun K2 hK2 => ?_; simp [dNum, dS, binS_eq, dNil]; (repeat (refine ⟨by omega, ?_⟩)); refine hK2 _ ?_; clear hK2 K2)
      refine sxf_nil (hK' _ ?_)
      refine AW.st (by simp [dNum, dS, binS_eq, dNil]; rfl) ?_
      clear hK' K'
      refine AW_block ?_
      refine AW_rg (tyOf_good _) [0, 1, 2, 13, 14] [] (fun _ _ => trivial) fun K' hK' => ?_
      repeat (refine sxf_next fun K2 hK2 => ?_; simp [dNum, dS, binS_eq, dNil]; (repeat (refine ⟨by omega, ?_⟩)); refine hK2 _ ?_; clear hK2 K2)
      refine sxf_nil (hK' _ ?_)
      refine AW.st (by simp [dNum, dS, binS_eq, dNil]; rfl) ?_
      clear hK' K'
      refine AW_cond false rfl (fun h => by cases h) (fun _ => ?_)
      refine AW_rg (tyOf_good _) [0, 1, 2, 13, 16] [] (fun _ _ => trivial) fun K' hK' => ?_
      repeat (refine sxf_next fun K2 hK2 => ?_; simp [dNum, dS, binS_eq, dNil]; (repeat (refine ⟨by omega, ?_⟩)); refine hK2 _ ?_; clear hK2 K2)
      refine sxf_nil (hK' _ ?_)
      refine AW.st (by simp [dNum, dS, binS_eq, dNil]; rfl) ?_
      clear hK' K'
      refine AW_cond false rfl (fun h => by cases h) (fun _ => ?_)
      refine AW_rg (tyOf_good _) [0, 1, 2, 13, 24] [] (fun _ _ => trivial) fun K' hK' => ?_
      repeat (refine sxf_next fun K2 hK2 => ?_; simp [dNum, dS, binS_eq, dNil]; (repeat (refine ⟨by omega, ?_⟩)); refine hK2 _ ?_; clear hK2 K2)
      refine sxf_nil (hK' _ ?_)
      refine AW.st (by simp [dNum, dS, binS_eq, dNil]; rfl) ?_
      clear hK' K'
      refine AW_cond false rfl (fun h => by cases h) (fun _ => ?_)
      refine AW_rg (tyOf_good _) [0, 1, 2, 13, 41] [] (fun _ _ => trivial) fun K' hK' => ?_
      repeat (refine sxf_next fun K2 hK2 => ?_; simp [dNum, dS, binS_eq, dNil]; (repeat (refine ⟨by omega, ?_⟩)); refine hK2 _ ?_; clear hK2 K2)
      refine sxf_nil (hK' _ ?_)
      refine AW.st (by simp [dNum, dS, binS_eq, dNil]; rfl) ?_
      clear hK' K'
      refine AW_cond false rfl (fun h => by cases h) (fun _ => ?_)
      refine AW_rg (tyOf_good _) [0, 1, 2, 13, 58] [] (fun _ _ => trivial) fun K' hK' => ?_
      repeat (refine sxf_next fun K2 hK2 => ?_; simp [dNum, dS, binS_eq, dNil]; (repeat (refine ⟨by omega, ?_⟩)); refine hK2 _ ?_; clear hK2 K2)
      refine sxf_nil (hK' _ ?_)
      refine AW.st (by simp [dNum, dS, binS_eq, dNil]; rfl) ?_
      clear hK' K'
      refine AW_cond false rfl (fun h => by cases h) (fun _ => ?_)
      refine AW_then fun K2 hK2 => ?_
      refine AW_rg (tyOf_good _) [0, 1, 2, 13, 70] [] (fun _ _ => trivial) fun K' hK' => ?_
      repeat (refine sxf_next fun K2 hK2 => ?_; simp [dNum, dS, binS_eq, dNil]; (repeat (refine ⟨by omega, ?_⟩)); refine hK2 _ ?_; clear hK2 K2)
      refine sxf_nil (hK' _ ?_)
      refine AW.st (by simp [dNum, dS, binS_eq, dNil]; rfl) ?_
      clear hK' K'
      refine AW_cond false rfl (fun h => by cases h) (fun _ => ?_)
      refine AW_re (tyOf_good _) fun K' hK' => ?_
      repeat (refine sxf_next fun K2 hK2 => ?_; simp [dNum, dS, binS_eq, dNil]; (repeat (refine ⟨by omega, ?_⟩)); refine hK2 _ ?_; clear hK2 K2)
      refine sxf_nil (hK' _ ?_)
      clear hK' K'
      refine hK2 _ (AW.norm [0, 1, 2, 70] [] (fun _ _ => trivial) (AW.st (by simp [dNum, dS, binS_eq, dNil]; rfl) ?_))
      refine AW_cond true rfl (fun _ => ?_) (fun h => by cases h)
      refine AW_rg (tyOf_good _) [0, 1, 2, 7] [] (fun _ _ => trivial) fun K' hK' => ?_
      repeat (refine sxf_next fun K2 hK2 => ?_; simp [dNum, dS, binS_eq, dNil]; (repeat (refine ⟨by omega, ?_⟩)); refine hK2 _ ?_; clear hK2 K2)
      refine sxf_nil (hK' _ ?_)
      refine AW.st (by simp [dNum, dS, binS_eq, dNil]; rfl) ?_
      clear hK' K'
      refine AW_then fun K3 hK3 => ?_
      refine AW_rg (tyOf_good _) [0, 1, 2, 7, 76, 77, 78] [] (fun _ _ => trivial) fun K' hK' => ?_
      repeat (refine sxf_next fun K2 hK2 => ?_; simp [dNum, dS, binS_eq, dNil]; (repeat (refine ⟨by omega, ?_⟩)); refine hK2 _ ?_; clear hK2 K2)
      refine sxf_nil (hK' _ ?_)
      refine AW.st (by simp [dNum, dS, binS_eq, dNil]; rfl) ?_
      clear hK' K'
      refine AW_for (S := Nat) (fun i => i ≤ l.length) (fun i => ⟨lst [(0, .d (.ip [dS [124], dS [], .sl none (l.map fun e => [dR e])])), (1, .d (.fn (.func g1) c1)), (2, .d (.fn (.func g2) c2)), (7, int (cntE is was (l.take i) : Nat)), (76, .d (.sl none (l.map fun e => [dR e]))), (77, int l.length), (78, int i)], hlst []⟩) (fun i => l.length - i) 0 ?_ (by omega) ?_
      · refine Imp.to' (fun _ _ => trivial) (by simp [dNum, dS, binS_eq, dNil, cntE]) (by simp [dNum, dS, binS_eq, dNil, cntE])
      · intro i hi
        have hcl := cntE_le is was (l.take i)
        rw [List.length_take] at hcl
        refine AW_rg (tyOf_good _) [0, 1, 2, 7, 76, 77, 78, 79] [] (fun _ _ => trivial) fun K' hK' => ?_
        repeat (refine sxf_next fun K2 hK2 => ?_; simp [dNum, dS, binS_eq, dNil]; (repeat (refine ⟨by omega, ?_⟩)); refine hK2 _ ?_; clear hK2 K2)
        refine sxf_nil (hK' _ ?_)
        refine AW.st (by simp [dNum, dS, binS_eq, dNil]; rfl) ?_
        clear hK' K'
        refine AW_then fun K4 hK4 => ?_
        refine AW_cond' (b := i < l.length) (by simp [D.le, D.le.go, takeMap, dNum, dS, binS_eq, dNil]) (fun hc => ?_) (fun hc => ?_)
        · have hil : i < l.length := hc
          have hcc := hch _ (List.getElem_mem hil)
          have htk := cntE_take is was hil
          have hf := dR_form l[i]
          rw [hf] at hcc
          refine AW_skip (hK4 _ ?_)
          refine AW_then fun K5 hK5 => ?_
          refine AW_block ?_
          refine AW_rg (tyOf_good _) [0, 1, 2, 7, 9, 76, 77, 78] [] (fun _ _ => trivial) fun K' hK' => ?_
          repeat (refine sxf_next fun K2 hK2 => ?_; simp [dNum, dS, binS_eq, dNil, hil, hf]; (repeat (refine ⟨by omega, ?_⟩)); refine hK2 _ ?_; clear hK2 K2)
          refine sxf_nil (hK' _ ?_)
          refine AW.st (by simp [dNum, dS, binS_eq, dNil, hil, hf]; rfl) ?_
          clear hK' K'
          refine AW_rg (tyOf_good _) [0, 1, 2, 7, 76, 77, 78, 85] [] (fun _ _ => trivial) fun K' hK' => ?_
          repeat (refine sxf_next fun K2 hK2 => ?_; simp [dNum, dS, binS_eq, dNil]; (repeat (refine ⟨by omega, ?_⟩)); refine hK2 _ ?_; clear hK2 K2)
          refine sxf_next fun K2 hK2 => ?_
          simp [dNum, dS, binS_eq, dNil]
          refine callK.data (hcc) (by simp; rfl) (by first | exact D.leGo_refl _ | simp [takeMap, List.map_map, Function.comp_def, D.le, D.le.go, D.le_refl, D.leGo_refl, dNum, dS, binS_eq, dNil]) ?_
          refine hK2 _ ?_
          clear hK2 K2
          simp only [putd, upd_lst]
          repeat (refine sxf_next fun K2 hK2 => ?_; simp [dNum, dS, binS_eq, dNil]; (repeat (refine ⟨by omega, ?_⟩)); refine hK2 _ ?_; clear hK2 K2)
          refine sxf_nil (hK' _ ?_)
          refine AW.st (by simp [dNum, dS, binS_eq, dNil]; rfl) ?_
          clear hK' K'
          cases hv : evE is was l[i] with
          | true =>
            rw [hv] at htk
            refine AW_cond true (by simp [hv]) (fun _ => ?_) (fun h => by cases h)
            refine AW_re (tyOf_good _) fun K' hK' => ?_
            repeat (refine sxf_next fun K2 hK2 => ?_; simp [dNum, dS, binS_eq, dNil]; (repeat (refine ⟨by omega, ?_⟩)); refine hK2 _ ?_; clear hK2 K2)
            refine sxf_nil (hK' _ ?_)
            clear hK' K'
            refine hK5 _ (AW.norm [0, 1, 2, 7, 76, 77, 78] [] (fun _ _ => trivial) (AW.st (by simp [dNum, dS, binS_eq, dNil]; rfl) ?_))
            refine AW_re (tyOf_good _) fun K' hK' => ?_
            repeat (refine sxf_next fun K2 hK2 => ?_; simp [dNum, dS, binS_eq, dNil]; (repeat (refine ⟨by omega, ?_⟩)); refine hK2 _ ?_; clear hK2 K2)
            refine sxf_nil (hK' _ ?_)
            clear hK' K'
            try simp only [thn, inb]
            refine Again.mk (i + 1) (by omega) (by omega) ?_
            refine Imp.to' (fun _ _ => trivial) (by simp [dNum, dS, binS_eq, dNil, htk]) (by simp [dNum, dS, binS_eq, dNil, htk])
          | false =>
            rw [hv] at htk
            refine AW_cond false (by simp [hv]) (fun h => by cases h) (fun _ => ?_)
            refine AW_skip (hK5 _ ?_)
            refine AW_re (tyOf_good _) fun K' hK' => ?_
            repeat (refine sxf_next fun K2 hK2 => ?_; simp [dNum, dS, binS_eq, dNil]; (repeat (refine ⟨by omega, ?_⟩)); refine hK2 _ ?_; clear hK2 K2)
            refine sxf_nil (hK' _ ?_)
            clear hK' K'
            try simp only [thn, inb]
            refine Again.mk (i + 1) (by omega) (by omega) ?_
            refine Imp.to' (fun _ _ => trivial) (by simp [dNum, dS, binS_eq, dNil, htk]) (by simp [dNum, dS, binS_eq, dNil, htk])
        · obtain rfl : i = l.length := by omega
          refine AW_exit (hK3 _ ?_)
          rw [List.take_length] at hcl ⊢
          by_cases h0 : 0 < cntE is was l
          · refine AW_rg (tyOf_good _) [6] [] (fun _ _ => trivial) fun K' hK' => ?_
            repeat (refine sxf_next fun K2 hK2 => ?_; simp [dNum, dS, binS_eq, dNil, h0]; (repeat (refine ⟨by omega, ?_⟩)); refine hK2 _ ?_; clear hK2 K2)
            refine sxf_nil (hK' _ ?_)
            refine AW.st (by simp [dNum, dS, binS_eq, dNil, h0]; rfl) ?_
            clear hK' K'
            refine AW_ret ?_
            simp [D.le, D.le.go, takeMap, dNum, dS, binS_eq, dNil, h0]
          · have hz : cntE is was l = 0 := by omega
            have hne : ¬ l.length = 0 := by omega
            have hne2 : ¬ 0 = (l.length : Int) := by omega
            refine AW_rg (tyOf_good _) [6] [] (fun _ _ => trivial) fun K' hK' => ?_
            repeat (refine sxf_next fun K2 hK2 => ?_; simp [dNum, dS, binS_eq, dNil, h0, hz, hne, hne2]; (repeat (refine ⟨by omega, ?_⟩)); refine hK2 _ ?_; clear hK2 K2)
            refine sxf_nil (hK' _ ?_)
            refine AW.st (by simp [dNum, dS, binS_eq, dNil, h0, hz, hne, hne2]; rfl) ?_
            clear hK' K'
            refine AW_ret ?_
            simp [D.le, D.le.go, takeMap, dNum, dS, binS_eq, dNil, h0, hz, hne, hne2]
theorem reval_spec (G : Glob) (g1 g2 : FuncId) (c1 c2 : List D) (is was : List UInt8 → Bool) (h1 : Tells G g1 c1 is) (h2 : Tells G g2 c2 was) (e : Ex) (hw : WfE e) (hb : bE e ≤ 2^28) : PureC Tryz.prog G 8 [dR e, .fn (.func g1) c1, .fn (.func g2) c2] (.v (.bool (evE is was e))) :=
  reval_at G g1 g2 c1 c2 is was h1 h2 _ e (Nat.le_refl _) hw hb
/-! ### The document's Size -/
def kidsR : Ex → List Ex
  | .not e => [e]
  | .and l => l
  | .or l => l
  | _ => []
def kR : Ex → Option Bool
  | .not _ => none
  | .and _ => none
  | .or _ => none
  | _ => some false
theorem ofR_form (e : Ex) : ofR e = .sl (kR e) ((kidsR e).map fun x => [dR x]) := by
  cases e <;> simp [ofR, kidsR, kR, dNil, dRs_map]
theorem szN_kids (e : Ex) : szN e = szNs (kidsR e) + 1 := by cases e <;> simp [szN, kidsR, szNs]
theorem bE_kids (e : Ex) : bEs (kidsR e) ≤ bE e := by cases e <;> simp [bE, kidsR, bEs] <;> omega
theorem sz_kids {e x : Ex} (h : x ∈ kidsR e) : SizeOf.sizeOf x < SizeOf.sizeOf e := by
  cases e with
  | not y => simp only [kidsR, List.mem_singleton] at h; subst h; simp
  | and l => simp only [kidsR] at h; have := List.sizeOf_lt_of_mem h; simp only [Ex.and.sizeOf_spec]; omega
  | or l => simp only [kidsR] at h; have := List.sizeOf_lt_of_mem h; simp only [Ex.or.sizeOf_spec]; omega
  | _ => simp [kidsR] at h

set_option maxHeartbeats 8000000 in
theorem rsize_at (G : Glob) : ∀ (n : Nat) (e : Ex), SizeOf.sizeOf e ≤ n → bE e ≤ 2^28 → PureC Tryz.prog G 15 [dR e] (dNum (szN e)) := by
  intro n
  induction n with
  | zero => intro e hsz; cases e <;> simp at hsz
  | succ n ih =>
    intro e hsz hb
    have hch : ∀ x ∈ kidsR e, PureC Tryz.prog G 15 [dR x] (dNum (szN x)) := fun x hx => ih x (by have := sz_kids hx; omega) (by have := bEs_mem hx; have := bE_kids e; omega)
    have hkb := bE_kids e
    have hln := bEs_len (kidsR e)
    have hsb := szNs_bs (kidsR e)
    rw [dR_form, szN_kids, ofR_form]
    generalize kidsR e = l at hch hkb hln hsb ⊢
    generalize kdR e = kd
    generalize nmR e = nm
    generalize kR e = kk
    clear ih hsz
    refine PureC.of_body (tyOf_good _) Tryz.func15 rfl rfl (rs := [.tmp 2]) Tryz.results15 (by simp [Tryz.ntmps15]) fun X => ?_
    simp only [Tryz.ntmps15, List.map]
    refine AW_rg (tyOf_good _) [0] [] (fun _ _ => trivial) fun K' hK' => ?_
    repeat (refine sxf_next fun K2 hK2 => ?_; simp [dNum, dS]; (repeat (refine ⟨by omega, ?_⟩)); refine hK2 _ ?_; clear hK2 K2)
    refine sxf_nil (hK' _ ?_)
    refine AW.st (by simp [dNum, dS]; rfl) ?_
    clear hK' K'
    refine AW_rg (tyOf_good _) [0, 3] [] (fun _ _ => trivial) fun K' hK' => ?_
    repeat (refine sxf_next fun K2 hK2 => ?_; simp [dNum, dS]; (repeat (refine ⟨by omega, ?_⟩)); refine hK2 _ ?_; clear hK2 K2)
    refine sxf_nil (hK' _ ?_)
    refine AW.st (by simp [dNum, dS]; rfl) ?_
    clear hK' K'
    refine AW_then fun K1 hK1 => ?_
    refine AW_rg (tyOf_good _) [3, 9, 10, 11] [] (fun _ _ => trivial) fun K' hK' => ?_
    repeat (refine sxf_next fun K2 hK2 => ?_; simp [dNum, dS]; (repeat (refine ⟨by omega, ?_⟩)); refine hK2 _ ?_; clear hK2 K2)
    refine sxf_nil (hK' _ ?_)
    refine AW.st (by simp [dNum, dS]; rfl) ?_
    clear hK' K'
    refine AW_for (S := Nat) (fun i => i ≤ l.length) (fun i => ⟨lst [(3, int ((szNs (l.take i) : Nat) + 1)), (9, .d (.sl kk (l.map fun x => [dR x]))), (10, int l.length), (11, int i)], hlst []⟩) (fun i => l.length - i) 0 ?_ (by omega) ?_
    · refine Imp.to' (fun _ _ => trivial) (by simp [dNum, dS, szNs]) (by simp [dNum, dS, szNs])
    · intro i hi
      refine AW_rg (tyOf_good _) [3, 9, 10, 11, 12] [] (fun _ _ => trivial) fun K' hK' => ?_
      repeat (refine sxf_next fun K2 hK2 => ?_; simp [dNum, dS]; (repeat (refine ⟨by omega, ?_⟩)); refine hK2 _ ?_; clear hK2 K2)
      refine sxf_nil (hK' _ ?_)
      refine AW.st (by simp [dNum, dS]; rfl) ?_
      clear hK' K'
      refine AW_then fun K2 hK2 => ?_
      refine AW_cond' (b := i < l.length) (by simp [D.le, D.le.go, takeMap, dNum, dS]) (fun hc => ?_) (fun hc => ?_)
      · have hil : i < l.length := hc
        have hcc := hch _ (List.getElem_mem hil)
        have htk := szNs_take hil
        have hle := szNs_le l (i + 1)
        have hf := dR_form l[i]
        rw [hf] at hcc
        refine AW_skip (hK2 _ ?_)
        refine AW_then fun K3 hK3 => ?_
        refine AW_block ?_
        refine AW_rg (tyOf_good _) [3, 5, 9, 10, 11] [] (fun _ _ => trivial) fun K' hK' => ?_
        repeat (refine sxf_next fun K2 hK2 => ?_; simp [dNum, dS, hil, hf]; (repeat (refine ⟨by omega, ?_⟩)); refine hK2 _ ?_; clear hK2 K2)
        refine sxf_nil (hK' _ ?_)
        refine AW.st (by simp [dNum, dS, hil, hf]; rfl) ?_
        clear hK' K'
        refine AW_re (tyOf_good _) fun K' hK' => ?_
        repeat (refine sxf_next fun K2 hK2 => ?_; simp [dNum, dS]; (repeat (refine ⟨by omega, ?_⟩)); refine hK2 _ ?_; clear hK2 K2)
        refine sxf_next fun K2 hK2 => ?_
        simp [dNum, dS]
        refine callK.data (hcc) (by simp; rfl) (by first | exact D.leGo_refl _ | simp [takeMap, List.map_map, Function.comp_def, D.le, D.le.go, D.le_refl, D.leGo_refl, dNum, dS]) ?_
        refine hK2 _ ?_
        clear hK2 K2
        simp only [putd, upd_lst]
        repeat (refine sxf_next fun K2 hK2 => ?_; simp [dNum, dS]; (repeat (refine ⟨by omega, ?_⟩)); refine hK2 _ ?_; clear hK2 K2)
        refine sxf_nil (hK' _ ?_)
        clear hK' K'
        refine hK3 _ (AW.norm [3, 9, 10, 11] [] (fun _ _ => trivial) (AW.st (by simp [dNum, dS]; rfl) ?_))
        refine AW_re (tyOf_good _) fun K' hK' => ?_
        repeat (refine sxf_next fun K2 hK2 => ?_; simp [dNum, dS]; (repeat (refine ⟨by omega, ?_⟩)); refine hK2 _ ?_; clear hK2 K2)
        refine sxf_nil (hK' _ ?_)
        clear hK' K'
        try simp only [thn, inb]
        refine Again.mk (i + 1) (by omega) (by omega) ?_
        have e1 : (szNs (List.take (i + 1) l) : Int) + 1 = (szNs (List.take i l) : Int) + 1 + (szN l[i] : Int) := by omega
        refine Imp.to' (fun _ _ => trivial) (by simp [dNum, dS, e1]) (by simp [dNum, dS, e1])
      · obtain rfl : i = l.length := by omega
        refine AW_exit (hK1 _ ?_)
        rw [List.take_length]
        refine AW_rg (tyOf_good _) [2] [] (fun _ _ => trivial) fun K' hK' => ?_
        repeat (refine sxf_next fun K2 hK2 => ?_; simp [dNum, dS]; (repeat (refine ⟨by omega, ?_⟩)); refine hK2 _ ?_; clear hK2 K2)
        refine sxf_nil (hK' _ ?_)
        refine AW.st (by simp [dNum, dS]; rfl) ?_
        clear hK' K'
        refine AW_ret ?_
        simp [D.le, D.le.go, takeMap, dNum, dS]
theorem rsize_spec (G : Glob) (e : Ex) (hb : bE e ≤ 2^28) : PureC Tryz.prog G 15 [dR e] (dNum (szN e)) := rsize_at G _ e (Nat.le_refl _) hb
end Go.Proofs.YtfehigldhedkgaaGreatDoor
