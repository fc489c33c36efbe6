/-
  Texts that belong together, in one file: X5, X6, V7.
-/
import Derived.Test.YtfehigldhedkgaaDoorEh15
/-
  The reader of expressions: one.
-/
namespace Go.Proofs.YtfehigldhedkgaaDoor
set_option linter.unusedSimpArgs false
set_option linter.unusedVariables false
open Go.Av

/-! ### One -/
theorem take_at {t : List UInt8} {c : UInt8} {i j : Nat} (hj : skipB t i = j) : takeM t c i = if t[j]? = some c then (true, j + 1) else (false, j) := by
  unfold takeM
  rw [hj]
theorem word_q {t : List UInt8} {q i : Nat} {c : Int} {p q' : Nat} (h : wordR t q i = .err c p q') : q' = q := by
  unfold wordR at h
  split at h
  · simp only [Rs.err.injEq] at h; omega
  · split at h
    · simp only [Rs.err.injEq] at h; omega
    · cases h

set_option maxHeartbeats 16000000 in
theorem one_spec (G : Glob) (t : List UInt8) (ht : t.length ≤ 2000) : ∀ (d : Nat), d ≤ 20 → ∀ i, i ≤ t.length → MC Tryd.prog G [500] 94 [.ref 500 0 0, .d (dNum d)] (hlst (rRow t i)) (.d (tupX (oneR t d i))) (hlst (rRow t (posR (oneR t d i)))) := by
  intro d
  induction d with
  | zero =>
    intro _ i hi
    have hfl := fail_spec G t i (by omega) hi 4
    refine MC.of_body (tyOf_good _) Tryd.func94 rfl rfl (rs := [.tmp 4, .tmp 5]) Tryd.results94 (by simp [Tryd.ntmps94]) rfl fun X => ?_
    simp only [Tryd.ntmps94]
    refine AW_rg (tyOf_good _) [0, 1] [500] (notIn_ok rfl) fun K' hK' => ?_
    repeat (refine sxf_next fun K2 hK2 => ?_; simp [dNum, rRow, rdr, dS]; (repeat (refine ⟨by omega, ?_⟩)); refine hK2 _ ?_; clear hK2 K2)
    refine sxf_nil (hK' _ ?_)
    refine AW.st (by simp [dNum, rRow, rdr, dS]; rfl) ?_
    clear hK' K'
    refine AW_then fun K1 hK1 => ?_
    refine AW_rg (tyOf_good _) [0, 1, 17] [500] (notIn_ok rfl) fun K' hK' => ?_
    repeat (refine sxf_next fun K2 hK2 => ?_; simp [dNum, rRow, rdr, dS]; (repeat (refine ⟨by omega, ?_⟩)); refine hK2 _ ?_; clear hK2 K2)
    refine sxf_nil (hK' _ ?_)
    refine AW.st (by simp [dNum, rRow, rdr, dS]; rfl) ?_
    clear hK' K'
    refine AW_cond true rfl (fun _ => ?_) (fun h => by cases h)
    refine AW_rg (tyOf_good _) [4, 5] [500] (notIn_ok rfl) fun K' hK' => ?_
    repeat (refine sxf_next fun K2 hK2 => ?_; simp [dNum, rRow, rdr, dS, dErr]; (repeat (refine ⟨by omega, ?_⟩)); refine hK2 _ ?_; clear hK2 K2)
    refine sxf_next fun K2 hK2 => ?_
    simp [dNum, rRow, rdr, dS, dErr]
    refine callK.mc (hfl) (by simp [dNum, rRow, rdr, dS, dErr]) (by simp [dNum, rRow, rdr, dS, dErr]) (by simp [dNum, rRow, rdr, dS, dErr]) (by simp [dNum, rRow, rdr, dS, dErr]) ?_
    simp [dNum, rRow, rdr, dS, dErr]
    refine hK2 _ ?_
    clear hK2 K2
    repeat (refine sxf_next fun K2 hK2 => ?_; simp [dNum, rRow, rdr, dS, dErr]; (repeat (refine ⟨by omega, ?_⟩)); refine hK2 _ ?_; clear hK2 K2)
    refine sxf_nil (hK' _ ?_)
    refine AW.st (by simp [dNum, rRow, rdr, dS, dErr]; rfl) ?_
    clear hK' K'
    refine AW_ret ?_
    simp [D.le, D.le.go, takeMap, dNum, rRow, rdr, dS, rRow, rdr, tupX, oneR, posR, dErr, dQ]
  | succ d ih =>
    intro hd i hi
    have ih := ih (by omega)
    have hor := or_spec G t ht d ih
    have htop := skipB_top hi
    have hidem := skipB_idem hi
    have hd0 : ¬ (d : Int) + 1 = 0 := by omega
    have ht60 : t.length < 2^60 := by omega
    have htk1 : ∀ c, MC Tryd.prog G [500] 93 [.ref 500 0 0, .d (.v (.int .u8 c.toNat))] (hlst (rRow t i)) (.d (.v (.bool (takeM t c i).1))) (hlst (rRow t (takeM t c i).2)) := fun c => take_spec G t i ht60 hi c
    rw [oneR]
    generalize hj : skipB t i = j at htop hidem ⊢
    have htk2 : ∀ c, MC Tryd.prog G [500] 93 [.ref 500 0 0, .d (.v (.int .u8 c.toNat))] (hlst (rRow t j)) (.d (.v (.bool (takeM t c j).1))) (hlst (rRow t (takeM t c j).2)) := fun c => take_spec G t j ht60 htop c
    have at1 := fun c => take_at (t := t) (c := c) hj
    have at2 := fun c => take_at (t := t) (c := c) hidem
    simp only [at1] at htk1
    simp only [at2] at htk2
    have hlt : ∀ {c : UInt8}, t[j]? = some c → j + 1 ≤ t.length := fun h => (List.getElem?_eq_some_iff.1 h).1
    have k33 := htk1 33
    have k40 := htk2 40
    have k48 := htk2 48
    have k49 := htk2 49
    have k94 := htk2 94
    have k126 := htk2 126
    clear htk1 at1 at2 hj
    by_cases c33 : t[j]? = some 33
    · rw [if_pos c33] at k33 ⊢
      have hc := ih (j + 1) (hlt c33)
      cases hr : oneR t d (j + 1) with
      | err c p q =>
        rw [hr] at hc
        refine MC.of_body (tyOf_good _) Tryd.func94 rfl rfl (rs := [.tmp 4, .tmp 5]) Tryd.results94 (by simp [Tryd.ntmps94]) rfl fun X => ?_
        simp only [Tryd.ntmps94]
        refine AW_rg (tyOf_good _) [0, 1] [500] (notIn_ok rfl) fun K' hK' => ?_
        repeat (refine sxf_next fun K2 hK2 => ?_; simp [dNum, rRow, rdr, dS]; (repeat (refine ⟨by omega, ?_⟩)); refine hK2 _ ?_; clear hK2 K2)
        refine sxf_nil (hK' _ ?_)
        refine AW.st (by simp [dNum, rRow, rdr, dS]; rfl) ?_
        clear hK' K'
        refine AW_then fun K1 hK1 => ?_
        refine AW_rg (tyOf_good _) [0, 1, 17] [500] (notIn_ok rfl) fun K' hK' => ?_
        repeat (refine sxf_next fun K2 hK2 => ?_; simp [dNum, rRow, rdr, dS, hd0]; (repeat (refine ⟨by omega, ?_⟩)); refine hK2 _ ?_; clear hK2 K2)
        refine sxf_nil (hK' _ ?_)
        refine AW.st (by simp [dNum, rRow, rdr, dS, hd0]; rfl) ?_
        clear hK' K'
        refine AW_cond false rfl (fun h => by cases h) (fun _ => ?_)
        refine AW_skip (hK1 _ ?_)
        refine AW_then fun K2 hK2 => ?_
        refine AW_block ?_
        refine AW_rg (tyOf_good _) [0, 1, 20] [500] (notIn_ok rfl) fun K' hK' => ?_
        repeat (refine sxf_next fun K2 hK2 => ?_; simp [dNum, rRow, rdr, dS]; (repeat (refine ⟨by omega, ?_⟩)); refine hK2 _ ?_; clear hK2 K2)
        refine sxf_next fun K2 hK2 => ?_
        simp [dNum, rRow, rdr, dS]
        refine callK.mc (k33) (by simp [dNum, rRow, rdr, dS]) (by simp [dNum, rRow, rdr, dS]) (by simp [dNum, rRow, rdr, dS]) (by simp [dNum, rRow, rdr, dS]) ?_
        simp [dNum, rRow, rdr, dS]
        refine hK2 _ ?_
        clear hK2 K2
        repeat (refine sxf_next fun K2 hK2 => ?_; simp [dNum, rRow, rdr, dS]; (repeat (refine ⟨by omega, ?_⟩)); refine hK2 _ ?_; clear hK2 K2)
        refine sxf_nil (hK' _ ?_)
        refine AW.st (by simp [dNum, rRow, rdr, dS]; rfl) ?_
        clear hK' K'
        refine AW_cond true rfl (fun _ => ?_) (fun h => by cases h)
        refine AW_rg (tyOf_good _) [6, 7] [500] (notIn_ok rfl) fun K' hK' => ?_
        repeat (refine sxf_next fun K2 hK2 => ?_; simp [dNum, rRow, rdr, dS, tupX, dErr]; (repeat (refine ⟨by omega, ?_⟩)); refine hK2 _ ?_; clear hK2 K2)
        refine sxf_next fun K2 hK2 => ?_
        simp [dNum, rRow, rdr, dS, tupX, dErr]
        refine callK.mc (hc) (by simp [dNum, rRow, rdr, dS, tupX, dErr]) (by simp [dNum, rRow, rdr, dS, tupX, dErr]) (by simp [dNum, rRow, rdr, dS, tupX, dErr]) (by simp [dNum, rRow, rdr, dS, tupX, dErr]) ?_
        simp [dNum, rRow, rdr, dS, tupX, dErr]
        refine hK2 _ ?_
        clear hK2 K2
        repeat (refine sxf_next fun K2 hK2 => ?_; simp [dNum, rRow, rdr, dS, tupX, dErr]; (repeat (refine ⟨by omega, ?_⟩)); refine hK2 _ ?_; clear hK2 K2)
        refine sxf_nil (hK' _ ?_)
        refine AW.st (by simp [dNum, rRow, rdr, dS, tupX, dErr]; rfl) ?_
        clear hK' K'
        refine AW_then fun K3 hK3 => ?_
        refine AW_rg (tyOf_good _) [6, 7, 31] [500] (notIn_ok rfl) fun K' hK' => ?_
        repeat (refine sxf_next fun K2 hK2 => ?_; simp [dNum, rRow, rdr, dS]; (repeat (refine ⟨by omega, ?_⟩)); refine hK2 _ ?_; clear hK2 K2)
        refine sxf_nil (hK' _ ?_)
        refine AW.st (by simp [dNum, rRow, rdr, dS]; rfl) ?_
        clear hK' K'
        refine AW_cond true rfl (fun _ => ?_) (fun h => by cases h)
        refine AW_rg (tyOf_good _) [4, 5] [500] (notIn_ok rfl) fun K' hK' => ?_
        repeat (refine sxf_next fun K2 hK2 => ?_; simp [dNum, rRow, rdr, dS]; (repeat (refine ⟨by omega, ?_⟩)); refine hK2 _ ?_; clear hK2 K2)
        refine sxf_nil (hK' _ ?_)
        refine AW.st (by simp [dNum, rRow, rdr, dS]; rfl) ?_
        clear hK' K'
        refine AW_ret ?_
        simp [D.le, D.le.go, takeMap, dNum, rRow, rdr, dS, rRow, rdr, tupX, posR, dErr, dQ]
      | ok x k =>
        rw [hr] at hc
        obtain ⟨tx, cx, hx⟩ := dE_ifc x
        refine MC.of_body (tyOf_good _) Tryd.func94 rfl rfl (rs := [.tmp 4, .tmp 5]) Tryd.results94 (by simp [Tryd.ntmps94]) rfl fun X => ?_
        simp only [Tryd.ntmps94]
        refine AW_rg (tyOf_good _) [0, 1] [500] (notIn_ok rfl) fun K' hK' => ?_
        repeat (refine sxf_next fun K2 hK2 => ?_; simp [dNum, rRow, rdr, dS]; (repeat (refine ⟨by omega, ?_⟩)); refine hK2 _ ?_; clear hK2 K2)
        refine sxf_nil (hK' _ ?_)
        refine AW.st (by simp [dNum, rRow, rdr, dS]; rfl) ?_
        clear hK' K'
        refine AW_then fun K1 hK1 => ?_
        refine AW_rg (tyOf_good _) [0, 1, 17] [500] (notIn_ok rfl) fun K' hK' => ?_
        repeat (refine sxf_next fun K2 hK2 => ?_; simp [dNum, rRow, rdr, dS, hd0]; (repeat (refine ⟨by omega, ?_⟩)); refine hK2 _ ?_; clear hK2 K2)
        refine sxf_nil (hK' _ ?_)
        refine AW.st (by simp [dNum, rRow, rdr, dS, hd0]; rfl) ?_
        clear hK' K'
        refine AW_cond false rfl (fun h => by cases h) (fun _ => ?_)
        refine AW_skip (hK1 _ ?_)
        refine AW_then fun K2 hK2 => ?_
        refine AW_block ?_
        refine AW_rg (tyOf_good _) [0, 1, 20] [500] (notIn_ok rfl) fun K' hK' => ?_
        repeat (refine sxf_next fun K2 hK2 => ?_; simp [dNum, rRow, rdr, dS]; (repeat (refine ⟨by omega, ?_⟩)); refine hK2 _ ?_; clear hK2 K2)
        refine sxf_next fun K2 hK2 => ?_
        simp [dNum, rRow, rdr, dS]
        refine callK.mc (k33) (by simp [dNum, rRow, rdr, dS]) (by simp [dNum, rRow, rdr, dS]) (by simp [dNum, rRow, rdr, dS]) (by simp [dNum, rRow, rdr, dS]) ?_
        simp [dNum, rRow, rdr, dS]
        refine hK2 _ ?_
        clear hK2 K2
        repeat (refine sxf_next fun K2 hK2 => ?_; simp [dNum, rRow, rdr, dS]; (repeat (refine ⟨by omega, ?_⟩)); refine hK2 _ ?_; clear hK2 K2)
        refine sxf_nil (hK' _ ?_)
        refine AW.st (by simp [dNum, rRow, rdr, dS]; rfl) ?_
        clear hK' K'
        refine AW_cond true rfl (fun _ => ?_) (fun h => by cases h)
        refine AW_rg (tyOf_good _) [6, 7] [500] (notIn_ok rfl) fun K' hK' => ?_
        repeat (refine sxf_next fun K2 hK2 => ?_; simp [dNum, rRow, rdr, dS, tupX, hx]; (repeat (refine ⟨by omega, ?_⟩)); refine hK2 _ ?_; clear hK2 K2)
        refine sxf_next fun K2 hK2 => ?_
        simp [dNum, rRow, rdr, dS, tupX, hx]
        refine callK.mc (hc) (by simp [dNum, rRow, rdr, dS, tupX, hx]) (by simp [dNum, rRow, rdr, dS, tupX, hx]) (by simp [dNum, rRow, rdr, dS, tupX, hx]) (by simp [dNum, rRow, rdr, dS, tupX, hx]) ?_
        simp [dNum, rRow, rdr, dS, tupX, hx]
        refine hK2 _ ?_
        clear hK2 K2
        repeat (refine sxf_next fun K2 hK2 => ?_; simp [dNum, rRow, rdr, dS, tupX, hx]; (repeat (refine ⟨by omega, ?_⟩)); refine hK2 _ ?_; clear hK2 K2)
        refine sxf_nil (hK' _ ?_)
        refine AW.st (by simp [dNum, rRow, rdr, dS, tupX, hx]; rfl) ?_
        clear hK' K'
        refine AW_then fun K3 hK3 => ?_
        refine AW_rg (tyOf_good _) [6, 7, 31] [500] (notIn_ok rfl) fun K' hK' => ?_
        repeat (refine sxf_next fun K2 hK2 => ?_; simp [dNum, rRow, rdr, dS]; (repeat (refine ⟨by omega, ?_⟩)); refine hK2 _ ?_; clear hK2 K2)
        refine sxf_nil (hK' _ ?_)
        refine AW.st (by simp [dNum, rRow, rdr, dS]; rfl) ?_
        clear hK' K'
        refine AW_cond false rfl (fun h => by cases h) (fun _ => ?_)
        refine AW_skip (hK3 _ ?_)
        refine AW_rg (tyOf_good _) [4, 5] [500] (notIn_ok rfl) fun K' hK' => ?_
        repeat (refine sxf_next fun K2 hK2 => ?_; simp [dNum, rRow, rdr, dS]; (repeat (refine ⟨by omega, ?_⟩)); refine hK2 _ ?_; clear hK2 K2)
        refine sxf_nil (hK' _ ?_)
        refine AW.st (by simp [dNum, rRow, rdr, dS]; rfl) ?_
        clear hK' K'
        refine AW_ret ?_
        simp [D.le, D.le.go, takeMap, dNum, rRow, rdr, dS, rRow, rdr, tupX, posR, dE, hx, D.le_refl]
    rw [if_neg c33] at k33 ⊢
    by_cases c40 : t[j]? = some 40
    · rw [if_pos c40] at k40 ⊢
      have hc := hor (j + 1) (hlt c40)
      cases hr : orR t (oneR t d) (j + 1) with
      | err c p q =>
        rw [hr] at hc
        refine MC.of_body (tyOf_good _) Tryd.func94 rfl rfl (rs := [.tmp 4, .tmp 5]) Tryd.results94 (by simp [Tryd.ntmps94]) rfl fun X => ?_
        simp only [Tryd.ntmps94]
        refine AW_rg (tyOf_good _) [0, 1] [500] (notIn_ok rfl) fun K' hK' => ?_
        repeat (refine sxf_next fun K2 hK2 => ?_; simp [dNum, rRow, rdr, dS]; (repeat (refine ⟨by omega, ?_⟩)); refine hK2 _ ?_; clear hK2 K2)
        refine sxf_nil (hK' _ ?_)
        refine AW.st (by simp [dNum, rRow, rdr, dS]; rfl) ?_
        clear hK' K'
        refine AW_then fun K1 hK1 => ?_
        refine AW_rg (tyOf_good _) [0, 1, 17] [500] (notIn_ok rfl) fun K' hK' => ?_
        repeat (refine sxf_next fun K2 hK2 => ?_; simp [dNum, rRow, rdr, dS, hd0]; (repeat (refine ⟨by omega, ?_⟩)); refine hK2 _ ?_; clear hK2 K2)
        refine sxf_nil (hK' _ ?_)
        refine AW.st (by simp [dNum, rRow, rdr, dS, hd0]; rfl) ?_
        clear hK' K'
        refine AW_cond false rfl (fun h => by cases h) (fun _ => ?_)
        refine AW_skip (hK1 _ ?_)
        refine AW_then fun K2 hK2 => ?_
        refine AW_block ?_
        refine AW_rg (tyOf_good _) [0, 1, 20] [500] (notIn_ok rfl) fun K' hK' => ?_
        repeat (refine sxf_next fun K2 hK2 => ?_; simp [dNum, rRow, rdr, dS]; (repeat (refine ⟨by omega, ?_⟩)); refine hK2 _ ?_; clear hK2 K2)
        refine sxf_next fun K2 hK2 => ?_
        simp [dNum, rRow, rdr, dS]
        refine callK.mc (k33) (by simp [dNum, rRow, rdr, dS]) (by simp [dNum, rRow, rdr, dS]) (by simp [dNum, rRow, rdr, dS]) (by simp [dNum, rRow, rdr, dS]) ?_
        simp [dNum, rRow, rdr, dS]
        refine hK2 _ ?_
        clear hK2 K2
        repeat (refine sxf_next fun K2 hK2 => ?_; simp [dNum, rRow, rdr, dS]; (repeat (refine ⟨by omega, ?_⟩)); refine hK2 _ ?_; clear hK2 K2)
        refine sxf_nil (hK' _ ?_)
        refine AW.st (by simp [dNum, rRow, rdr, dS]; rfl) ?_
        clear hK' K'
        refine AW_cond false rfl (fun h => by cases h) (fun _ => ?_)
        refine AW_rg (tyOf_good _) [0, 1, 36] [500] (notIn_ok rfl) fun K' hK' => ?_
        repeat (refine sxf_next fun K2 hK2 => ?_; simp [dNum, rRow, rdr, dS]; (repeat (refine ⟨by omega, ?_⟩)); refine hK2 _ ?_; clear hK2 K2)
        refine sxf_next fun K2 hK2 => ?_
        simp [dNum, rRow, rdr, dS]
        refine callK.mc (k40) (by simp [dNum, rRow, rdr, dS]) (by simp [dNum, rRow, rdr, dS]) (by simp [dNum, rRow, rdr, dS]) (by simp [dNum, rRow, rdr, dS]) ?_
        simp [dNum, rRow, rdr, dS]
        refine hK2 _ ?_
        clear hK2 K2
        repeat (refine sxf_next fun K2 hK2 => ?_; simp [dNum, rRow, rdr, dS]; (repeat (refine ⟨by omega, ?_⟩)); refine hK2 _ ?_; clear hK2 K2)
        refine sxf_nil (hK' _ ?_)
        refine AW.st (by simp [dNum, rRow, rdr, dS]; rfl) ?_
        clear hK' K'
        refine AW_cond true rfl (fun _ => ?_) (fun h => by cases h)
        refine AW_rg (tyOf_good _) [0, 8, 9] [500] (notIn_ok rfl) fun K' hK' => ?_
        repeat (refine sxf_next fun K2 hK2 => ?_; simp [dNum, rRow, rdr, dS, tupX, dErr]; (repeat (refine ⟨by omega, ?_⟩)); refine hK2 _ ?_; clear hK2 K2)
        refine sxf_next fun K2 hK2 => ?_
        simp [dNum, rRow, rdr, dS, tupX, dErr]
        refine callK.mc (hc) (by simp [dNum, rRow, rdr, dS, tupX, dErr]) (by simp [dNum, rRow, rdr, dS, tupX, dErr]) (by simp [dNum, rRow, rdr, dS, tupX, dErr]) (by simp [dNum, rRow, rdr, dS, tupX, dErr]) ?_
        simp [dNum, rRow, rdr, dS, tupX, dErr]
        refine hK2 _ ?_
        clear hK2 K2
        repeat (refine sxf_next fun K2 hK2 => ?_; simp [dNum, rRow, rdr, dS, tupX, dErr]; (repeat (refine ⟨by omega, ?_⟩)); refine hK2 _ ?_; clear hK2 K2)
        refine sxf_nil (hK' _ ?_)
        refine AW.st (by simp [dNum, rRow, rdr, dS, tupX, dErr]; rfl) ?_
        clear hK' K'
        refine AW_then fun K4 hK4 => ?_
        refine AW_rg (tyOf_good _) [0, 8, 9, 47] [500] (notIn_ok rfl) fun K' hK' => ?_
        repeat (refine sxf_next fun K2 hK2 => ?_; simp [dNum, rRow, rdr, dS]; (repeat (refine ⟨by omega, ?_⟩)); refine hK2 _ ?_; clear hK2 K2)
        refine sxf_nil (hK' _ ?_)
        refine AW.st (by simp [dNum, rRow, rdr, dS]; rfl) ?_
        clear hK' K'
        refine AW_cond true rfl (fun _ => ?_) (fun h => by cases h)
        refine AW_rg (tyOf_good _) [4, 5] [500] (notIn_ok rfl) fun K' hK' => ?_
        repeat (refine sxf_next fun K2 hK2 => ?_; simp [dNum, rRow, rdr, dS]; (repeat (refine ⟨by omega, ?_⟩)); refine hK2 _ ?_; clear hK2 K2)
        refine sxf_nil (hK' _ ?_)
        refine AW.st (by simp [dNum, rRow, rdr, dS]; rfl) ?_
        clear hK' K'
        refine AW_ret ?_
        simp [D.le, D.le.go, takeMap, dNum, rRow, rdr, dS, rRow, rdr, tupX, posR, dErr, dQ]
      | ok x k =>
        rw [hr] at hc
        obtain ⟨tx, cx, hx⟩ := dE_ifc x
        have hkt := (or_goes (one_goes t d) (j + 1) x k (hlt c40) hr).2
        have k41 := take_spec G t k ht60 hkt 41
        have htg := take_goes (c := 41) hkt
        have h41 : (takeM t 41 k).1 = false → skipB t (takeM t 41 k).2 = (takeM t 41 k).2 := fun h => by
          unfold takeM at h ⊢
          split at h
          · cases h
          · rw [if_neg ‹_›]; exact skipB_idem hkt
        cases htm : takeM t 41 k with
        | mk b k2 =>
        rw [htm] at k41 htg h41
        dsimp only at k41 htg h41 ⊢
        cases b with
        | true =>
          refine MC.of_body (tyOf_good _) Tryd.func94 rfl rfl (rs := [.tmp 4, .tmp 5]) Tryd.results94 (by simp [Tryd.ntmps94]) rfl fun X => ?_
          simp only [Tryd.ntmps94]
          refine AW_rg (tyOf_good _) [0, 1] [500] (notIn_ok rfl) fun K' hK' => ?_
          repeat (refine sxf_next fun K2 hK2 => ?_; simp [dNum, rRow, rdr, dS]; (repeat (refine ⟨by omega, ?_⟩)); refine hK2 _ ?_; clear hK2 K2)
          refine sxf_nil (hK' _ ?_)
          refine AW.st (by simp [dNum, rRow, rdr, dS]; rfl) ?_
          clear hK' K'
          refine AW_then fun K1 hK1 => ?_
          refine AW_rg (tyOf_good _) [0, 1, 17] [500] (notIn_ok rfl) fun K' hK' => ?_
          repeat (refine sxf_next fun K2 hK2 => ?_; simp [dNum, rRow, rdr, dS, hd0]; (repeat (refine ⟨by omega, ?_⟩)); refine hK2 _ ?_; clear hK2 K2)
          refine sxf_nil (hK' _ ?_)
          refine AW.st (by simp [dNum, rRow, rdr, dS, hd0]; rfl) ?_
          clear hK' K'
          refine AW_cond false rfl (fun h => by cases h) (fun _ => ?_)
          refine AW_skip (hK1 _ ?_)
          refine AW_then fun K2 hK2 => ?_
          refine AW_block ?_
          refine AW_rg (tyOf_good _) [0, 1, 20] [500] (notIn_ok rfl) fun K' hK' => ?_
          repeat (refine sxf_next fun K2 hK2 => ?_; simp [dNum, rRow, rdr, dS]; (repeat (refine ⟨by omega, ?_⟩)); refine hK2 _ ?_; clear hK2 K2)
          refine sxf_next fun K2 hK2 => ?_
          simp [dNum, rRow, rdr, dS]
          refine callK.mc (k33) (by simp [dNum, rRow, rdr, dS]) (by simp [dNum, rRow, rdr, dS]) (by simp [dNum, rRow, rdr, dS]) (by simp [dNum, rRow, rdr, dS]) ?_
          simp [dNum, rRow, rdr, dS]
          refine hK2 _ ?_
          clear hK2 K2
          repeat (refine sxf_next fun K2 hK2 => ?_; simp [dNum, rRow, rdr, dS]; (repeat (refine ⟨by omega, ?_⟩)); refine hK2 _ ?_; clear hK2 K2)
          refine sxf_nil (hK' _ ?_)
          refine AW.st (by simp [dNum, rRow, rdr, dS]; rfl) ?_
          clear hK' K'
          refine AW_cond false rfl (fun h => by cases h) (fun _ => ?_)
          refine AW_rg (tyOf_good _) [0, 1, 36] [500] (notIn_ok rfl) fun K' hK' => ?_
          repeat (refine sxf_next fun K2 hK2 => ?_; simp [dNum, rRow, rdr, dS]; (repeat (refine ⟨by omega, ?_⟩)); refine hK2 _ ?_; clear hK2 K2)
          refine sxf_next fun K2 hK2 => ?_
          simp [dNum, rRow, rdr, dS]
          refine callK.mc (k40) (by simp [dNum, rRow, rdr, dS]) (by simp [dNum, rRow, rdr, dS]) (by simp [dNum, rRow, rdr, dS]) (by simp [dNum, rRow, rdr, dS]) ?_
          simp [dNum, rRow, rdr, dS]
          refine hK2 _ ?_
          clear hK2 K2
          repeat (refine sxf_next fun K2 hK2 => ?_; simp [dNum, rRow, rdr, dS]; (repeat (refine ⟨by omega, ?_⟩)); refine hK2 _ ?_; clear hK2 K2)
          refine sxf_nil (hK' _ ?_)
          refine AW.st (by simp [dNum, rRow, rdr, dS]; rfl) ?_
          clear hK' K'
          refine AW_cond true rfl (fun _ => ?_) (fun h => by cases h)
          refine AW_rg (tyOf_good _) [0, 8, 9] [500] (notIn_ok rfl) fun K' hK' => ?_
          repeat (refine sxf_next fun K2 hK2 => ?_; simp [dNum, rRow, rdr, dS, tupX, posR, hx]; (repeat (refine ⟨by omega, ?_⟩)); refine hK2 _ ?_; clear hK2 K2)
          refine sxf_next fun K2 hK2 => ?_
          simp [dNum, rRow, rdr, dS, tupX, posR, hx]
          refine callK.mc (hc) (by simp [dNum, rRow, rdr, dS, tupX, posR, hx]) (by simp [dNum, rRow, rdr, dS, tupX, posR, hx]) (by simp [dNum, rRow, rdr, dS, tupX, posR, hx]) (by simp [dNum, rRow, rdr, dS, tupX, posR, hx]) ?_
          simp [dNum, rRow, rdr, dS, tupX, posR, hx]
          refine hK2 _ ?_
          clear hK2 K2
          repeat (refine sxf_next fun K2 hK2 => ?_; simp [dNum, rRow, rdr, dS, tupX, posR, hx]; (repeat (refine ⟨by omega, ?_⟩)); refine hK2 _ ?_; clear hK2 K2)
          refine sxf_nil (hK' _ ?_)
          refine AW.st (by simp [dNum, rRow, rdr, dS, tupX, posR, hx]; rfl) ?_
          clear hK' K'
          refine AW_then fun K4 hK4 => ?_
          refine AW_rg (tyOf_good _) [0, 8, 9, 47] [500] (notIn_ok rfl) fun K' hK' => ?_
          repeat (refine sxf_next fun K2 hK2 => ?_; simp [dNum, rRow, rdr, dS]; (repeat (refine ⟨by omega, ?_⟩)); refine hK2 _ ?_; clear hK2 K2)
          refine sxf_nil (hK' _ ?_)
          refine AW.st (by simp [dNum, rRow, rdr, dS]; rfl) ?_
          clear hK' K'
          refine AW_cond false rfl (fun h => by cases h) (fun _ => ?_)
          refine AW_skip (hK4 _ ?_)
          refine AW_then fun K5 hK5 => ?_
          refine AW_rg (tyOf_good _) [0, 8, 51] [500] (notIn_ok rfl) fun K' hK' => ?_
          repeat (refine sxf_next fun K2 hK2 => ?_; simp [dNum, rRow, rdr, dS]; (repeat (refine ⟨by omega, ?_⟩)); refine hK2 _ ?_; clear hK2 K2)
          refine sxf_next fun K2 hK2 => ?_
          simp [dNum, rRow, rdr, dS]
          refine callK.mc (k41) (by simp [dNum, rRow, rdr, dS]) (by simp [dNum, rRow, rdr, dS]) (by simp [dNum, rRow, rdr, dS]) (by simp [dNum, rRow, rdr, dS]) ?_
          simp [dNum, rRow, rdr, dS]
          refine hK2 _ ?_
          clear hK2 K2
          repeat (refine sxf_next fun K2 hK2 => ?_; simp [dNum, rRow, rdr, dS]; (repeat (refine ⟨by omega, ?_⟩)); refine hK2 _ ?_; clear hK2 K2)
          refine sxf_nil (hK' _ ?_)
          refine AW.st (by simp [dNum, rRow, rdr, dS]; rfl) ?_
          clear hK' K'
          refine AW_cond false rfl (fun h => by cases h) (fun _ => ?_)
          refine AW_skip (hK5 _ ?_)
          refine AW_rg (tyOf_good _) [4, 5] [500] (notIn_ok rfl) fun K' hK' => ?_
          repeat (refine sxf_next fun K2 hK2 => ?_; simp [dNum, rRow, rdr, dS]; (repeat (refine ⟨by omega, ?_⟩)); refine hK2 _ ?_; clear hK2 K2)
          refine sxf_nil (hK' _ ?_)
          refine AW.st (by simp [dNum, rRow, rdr, dS]; rfl) ?_
          clear hK' K'
          refine AW_ret ?_
          simp [D.le, D.le.go, takeMap, dNum, rRow, rdr, dS, rRow, rdr, tupX, posR, hx, htm, D.le_refl]
        | false =>
          have hfl := fail_spec G t k2 ht60 htg.2.1 3
          rw [h41 rfl] at hfl
          refine MC.of_body (tyOf_good _) Tryd.func94 rfl rfl (rs := [.tmp 4, .tmp 5]) Tryd.results94 (by simp [Tryd.ntmps94]) rfl fun X => ?_
          simp only [Tryd.ntmps94]
          refine AW_rg (tyOf_good _) [0, 1] [500] (notIn_ok rfl) fun K' hK' => ?_
          repeat (refine sxf_next fun K2 hK2 => ?_; simp [dNum, rRow, rdr, dS]; (repeat (refine ⟨by omega, ?_⟩)); refine hK2 _ ?_; clear hK2 K2)
          refine sxf_nil (hK' _ ?_)
          refine AW.st (by simp [dNum, rRow, rdr, dS]; rfl) ?_
          clear hK' K'
          refine AW_then fun K1 hK1 => ?_
          refine AW_rg (tyOf_good _) [0, 1, 17] [500] (notIn_ok rfl) fun K' hK' => ?_
          repeat (refine sxf_next fun K2 hK2 => ?_; simp [dNum, rRow, rdr, dS, hd0]; (repeat (refine ⟨by omega, ?_⟩)); refine hK2 _ ?_; clear hK2 K2)
          refine sxf_nil (hK' _ ?_)
          refine AW.st (by simp [dNum, rRow, rdr, dS, hd0]; rfl) ?_
          clear hK' K'
          refine AW_cond false rfl (fun h => by cases h) (fun _ => ?_)
          refine AW_skip (hK1 _ ?_)
          refine AW_then fun K2 hK2 => ?_
          refine AW_block ?_
          refine AW_rg (tyOf_good _) [0, 1, 20] [500] (notIn_ok rfl) fun K' hK' => ?_
          repeat (refine sxf_next fun K2 hK2 => ?_; simp [dNum, rRow, rdr, dS]; (repeat (refine ⟨by omega, ?_⟩)); refine hK2 _ ?_; clear hK2 K2)
          refine sxf_next fun K2 hK2 => ?_
          simp [dNum, rRow, rdr, dS]
          refine callK.mc (k33) (by simp [dNum, rRow, rdr, dS]) (by simp [dNum, rRow, rdr, dS]) (by simp [dNum, rRow, rdr, dS]) (by simp [dNum, rRow, rdr, dS]) ?_
          simp [dNum, rRow, rdr, dS]
          refine hK2 _ ?_
          clear hK2 K2
          repeat (refine sxf_next fun K2 hK2 => ?_; simp [dNum, rRow, rdr, dS]; (repeat (refine ⟨by omega, ?_⟩)); refine hK2 _ ?_; clear hK2 K2)
          refine sxf_nil (hK' _ ?_)
          refine AW.st (by simp [dNum, rRow, rdr, dS]; rfl) ?_
          clear hK' K'
          refine AW_cond false rfl (fun h => by cases h) (fun _ => ?_)
          refine AW_rg (tyOf_good _) [0, 1, 36] [500] (notIn_ok rfl) fun K' hK' => ?_
          repeat (refine sxf_next fun K2 hK2 => ?_; simp [dNum, rRow, rdr, dS]; (repeat (refine ⟨by omega, ?_⟩)); refine hK2 _ ?_; clear hK2 K2)
          refine sxf_next fun K2 hK2 => ?_
          simp [dNum, rRow, rdr, dS]
          refine callK.mc (k40) (by simp [dNum, rRow, rdr, dS]) (by simp [dNum, rRow, rdr, dS]) (by simp [dNum, rRow, rdr, dS]) (by simp [dNum, rRow, rdr, dS]) ?_
          simp [dNum, rRow, rdr, dS]
          refine hK2 _ ?_
          clear hK2 K2
          repeat (refine sxf_next fun K2 hK2 => ?_; simp [dNum, rRow, rdr, dS]; (repeat (refine ⟨by omega, ?_⟩)); refine hK2 _ ?_; clear hK2 K2)
          refine sxf_nil (hK' _ ?_)
          refine AW.st (by simp [dNum, rRow, rdr, dS]; rfl) ?_
          clear hK' K'
          refine AW_cond true rfl (fun _ => ?_) (fun h => by cases h)
          refine AW_rg (tyOf_good _) [0, 8, 9] [500] (notIn_ok rfl) fun K' hK' => ?_
          repeat (refine sxf_next fun K2 hK2 => ?_; simp [dNum, rRow, rdr, dS, tupX, posR, hx]; (repeat (refine ⟨by omega, ?_⟩)); refine hK2 _ ?_; clear hK2 K2)
          refine sxf_next fun K2 hK2 => ?_
          simp [dNum, rRow, rdr, dS, tupX, posR, hx]
          refine callK.mc (hc) (by simp [dNum, rRow, rdr, dS, tupX, posR, hx]) (by simp [dNum, rRow, rdr, dS, tupX, posR, hx]) (by simp [dNum, rRow, rdr, dS, tupX, posR, hx]) (by simp [dNum, rRow, rdr, dS, tupX, posR, hx]) ?_
          simp [dNum, rRow, rdr, dS, tupX, posR, hx]
          refine hK2 _ ?_
          clear hK2 K2
          repeat (refine sxf_next fun K2 hK2 => ?_; simp [dNum, rRow, rdr, dS, tupX, posR, hx]; (repeat (refine ⟨by omega, ?_⟩)); refine hK2 _ ?_; clear hK2 K2)
          refine sxf_nil (hK' _ ?_)
          refine AW.st (by simp [dNum, rRow, rdr, dS, tupX, posR, hx]; rfl) ?_
          clear hK' K'
          refine AW_then fun K4 hK4 => ?_
          refine AW_rg (tyOf_good _) [0, 8, 9, 47] [500] (notIn_ok rfl) fun K' hK' => ?_
          repeat (refine sxf_next fun K2 hK2 => ?_; simp [dNum, rRow, rdr, dS]; (repeat (refine ⟨by omega, ?_⟩)); refine hK2 _ ?_; clear hK2 K2)
          refine sxf_nil (hK' _ ?_)
          refine AW.st (by simp [dNum, rRow, rdr, dS]; rfl) ?_
          clear hK' K'
          refine AW_cond false rfl (fun h => by cases h) (fun _ => ?_)
          refine AW_skip (hK4 _ ?_)
          refine AW_then fun K5 hK5 => ?_
          refine AW_rg (tyOf_good _) [0, 8, 51] [500] (notIn_ok rfl) fun K' hK' => ?_
          repeat (refine sxf_next fun K2 hK2 => ?_; simp [dNum, rRow, rdr, dS]; (repeat (refine ⟨by omega, ?_⟩)); refine hK2 _ ?_; clear hK2 K2)
          refine sxf_next fun K2 hK2 => ?_
          simp [dNum, rRow, rdr, dS]
          refine callK.mc (k41) (by simp [dNum, rRow, rdr, dS]) (by simp [dNum, rRow, rdr, dS]) (by simp [dNum, rRow, rdr, dS]) (by simp [dNum, rRow, rdr, dS]) ?_
          simp [dNum, rRow, rdr, dS]
          refine hK2 _ ?_
          clear hK2 K2
          repeat (refine sxf_next fun K2 hK2 => ?_; simp [dNum, rRow, rdr, dS]; (repeat (refine ⟨by omega, ?_⟩)); refine hK2 _ ?_; clear hK2 K2)
          refine sxf_nil (hK' _ ?_)
          refine AW.st (by simp [dNum, rRow, rdr, dS]; rfl) ?_
          clear hK' K'
          refine AW_cond true rfl (fun _ => ?_) (fun h => by cases h)
          refine AW_rg (tyOf_good _) [4, 5] [500] (notIn_ok rfl) fun K' hK' => ?_
          repeat (refine sxf_next fun K2 hK2 => ?_; simp [dNum, rRow, rdr, dS, dErr]; (repeat (refine ⟨by omega, ?_⟩)); refine hK2 _ ?_; clear hK2 K2)
          refine sxf_next fun K2 hK2 => ?_
          simp [dNum, rRow, rdr, dS, dErr]
          refine callK.mc (hfl) (by simp [dNum, rRow, rdr, dS, dErr]) (by simp [dNum, rRow, rdr, dS, dErr]) (by simp [dNum, rRow, rdr, dS, dErr]) (by simp [dNum, rRow, rdr, dS, dErr]) ?_
          simp [dNum, rRow, rdr, dS, dErr]
          refine hK2 _ ?_
          clear hK2 K2
          repeat (refine sxf_next fun K2 hK2 => ?_; simp [dNum, rRow, rdr, dS, dErr]; (repeat (refine ⟨by omega, ?_⟩)); refine hK2 _ ?_; clear hK2 K2)
          refine sxf_nil (hK' _ ?_)
          refine AW.st (by simp [dNum, rRow, rdr, dS, dErr]; rfl) ?_
          clear hK' K'
          refine AW_ret ?_
          simp [D.le, D.le.go, takeMap, dNum, rRow, rdr, dS, rRow, rdr, tupX, posR, dErr, dQ, htm]
    rw [if_neg c40] at k40 ⊢
    by_cases c48 : t[j]? = some 48
    · rw [if_pos c48] at k48 ⊢
      refine MC.of_body (tyOf_good _) Tryd.func94 rfl rfl (rs := [.tmp 4, .tmp 5]) Tryd.results94 (by simp [Tryd.ntmps94]) rfl fun X => ?_
      simp only [Tryd.ntmps94]
      refine AW_rg (tyOf_good _) [0, 1] [500] (notIn_ok rfl) fun K' hK' => ?_
      repeat (refine sxf_next fun K2 hK2 => ?_; simp [dNum, rRow, rdr, dS]; (repeat (refine ⟨by omega, ?_⟩)); refine hK2 _ ?_; clear hK2 K2)
      refine sxf_nil (hK' _ ?_)
      refine AW.st (by simp [dNum, rRow, rdr, dS]; rfl) ?_
      clear hK' K'
      refine AW_then fun K1 hK1 => ?_
      refine AW_rg (tyOf_good _) [0, 1, 17] [500] (notIn_ok rfl) fun K' hK' => ?_
      repeat (refine sxf_next fun K2 hK2 => ?_; simp [dNum, rRow, rdr, dS, hd0]; (repeat (refine ⟨by omega, ?_⟩)); refine hK2 _ ?_; clear hK2 K2)
      refine sxf_nil (hK' _ ?_)
      refine AW.st (by simp [dNum, rRow, rdr, dS, hd0]; rfl) ?_
      clear hK' K'
      refine AW_cond false rfl (fun h => by cases h) (fun _ => ?_)
      refine AW_skip (hK1 _ ?_)
      refine AW_then fun K2 hK2 => ?_
      refine AW_block ?_
      refine AW_rg (tyOf_good _) [0, 1, 20] [500] (notIn_ok rfl) fun K' hK' => ?_
      repeat (refine sxf_next fun K2 hK2 => ?_; simp [dNum, rRow, rdr, dS]; (repeat (refine ⟨by omega, ?_⟩)); refine hK2 _ ?_; clear hK2 K2)
      refine sxf_next fun K2 hK2 => ?_
      simp [dNum, rRow, rdr, dS]
      refine callK.mc (k33) (by simp [dNum, rRow, rdr, dS]) (by simp [dNum, rRow, rdr, dS]) (by simp [dNum, rRow, rdr, dS]) (by simp [dNum, rRow, rdr, dS]) ?_
      simp [dNum, rRow, rdr, dS]
      refine hK2 _ ?_
      clear hK2 K2
      repeat (refine sxf_next fun K2 hK2 => ?_; simp [dNum, rRow, rdr, dS]; (repeat (refine ⟨by omega, ?_⟩)); refine hK2 _ ?_; clear hK2 K2)
      refine sxf_nil (hK' _ ?_)
      refine AW.st (by simp [dNum, rRow, rdr, dS]; rfl) ?_
      clear hK' K'
      refine AW_cond false rfl (fun h => by cases h) (fun _ => ?_)
      refine AW_rg (tyOf_good _) [0, 1, 36] [500] (notIn_ok rfl) fun K' hK' => ?_
      repeat (refine sxf_next fun K2 hK2 => ?_; simp [dNum, rRow, rdr, dS]; (repeat (refine ⟨by omega, ?_⟩)); refine hK2 _ ?_; clear hK2 K2)
      refine sxf_next fun K2 hK2 => ?_
      simp [dNum, rRow, rdr, dS]
      refine callK.mc (k40) (by simp [dNum, rRow, rdr, dS]) (by simp [dNum, rRow, rdr, dS]) (by simp [dNum, rRow, rdr, dS]) (by simp [dNum, rRow, rdr, dS]) ?_
      simp [dNum, rRow, rdr, dS]
      refine hK2 _ ?_
      clear hK2 K2
      repeat (refine sxf_next fun K2 hK2 => ?_; simp [dNum, rRow, rdr, dS]; (repeat (refine ⟨by omega, ?_⟩)); refine hK2 _ ?_; clear hK2 K2)
      refine sxf_nil (hK' _ ?_)
      refine AW.st (by simp [dNum, rRow, rdr, dS]; rfl) ?_
      clear hK' K'
      refine AW_cond false rfl (fun h => by cases h) (fun _ => ?_)
      refine AW_rg (tyOf_good _) [0, 55] [500] (notIn_ok rfl) fun K' hK' => ?_
      repeat (refine sxf_next fun K2 hK2 => ?_; simp [dNum, rRow, rdr, dS]; (repeat (refine ⟨by omega, ?_⟩)); refine hK2 _ ?_; clear hK2 K2)
      refine sxf_next fun K2 hK2 => ?_
      simp [dNum, rRow, rdr, dS]
      refine callK.mc (k48) (by simp [dNum, rRow, rdr, dS]) (by simp [dNum, rRow, rdr, dS]) (by simp [dNum, rRow, rdr, dS]) (by simp [dNum, rRow, rdr, dS]) ?_
      simp [dNum, rRow, rdr, dS]
      refine hK2 _ ?_
      clear hK2 K2
      repeat (refine sxf_next fun K2 hK2 => ?_; simp [dNum, rRow, rdr, dS]; (repeat (refine ⟨by omega, ?_⟩)); refine hK2 _ ?_; clear hK2 K2)
      refine sxf_nil (hK' _ ?_)
      refine AW.st (by simp [dNum, rRow, rdr, dS]; rfl) ?_
      clear hK' K'
      refine AW_cond true rfl (fun _ => ?_) (fun h => by cases h)
      refine AW_rg (tyOf_good _) [4, 5] [500] (notIn_ok rfl) fun K' hK' => ?_
      repeat (refine sxf_next fun K2 hK2 => ?_; simp [dNum, rRow, rdr, dS]; (repeat (refine ⟨by omega, ?_⟩)); refine hK2 _ ?_; clear hK2 K2)
      refine sxf_nil (hK' _ ?_)
      refine AW.st (by simp [dNum, rRow, rdr, dS]; rfl) ?_
      clear hK' K'
      refine AW_ret ?_
      simp [D.le, D.le.go, takeMap, dNum, rRow, rdr, dS, rRow, rdr, tupX, posR, dE]
    rw [if_neg c48] at k48 ⊢
    by_cases c49 : t[j]? = some 49
    · rw [if_pos c49] at k49 ⊢
      refine MC.of_body (tyOf_good _) Tryd.func94 rfl rfl (rs := [.tmp 4, .tmp 5]) Tryd.results94 (by simp [Tryd.ntmps94]) rfl fun X => ?_
      simp only [Tryd.ntmps94]
      refine AW_rg (tyOf_good _) [0, 1] [500] (notIn_ok rfl) fun K' hK' => ?_
      repeat (refine sxf_next fun K2 hK2 => ?_; simp [dNum, rRow, rdr, dS]; (repeat (refine ⟨by omega, ?_⟩)); refine hK2 _ ?_; clear hK2 K2)
      refine sxf_nil (hK' _ ?_)
      refine AW.st (by simp [dNum, rRow, rdr, dS]; rfl) ?_
      clear hK' K'
      refine AW_then fun K1 hK1 => ?_
      refine AW_rg (tyOf_good _) [0, 1, 17] [500] (notIn_ok rfl) fun K' hK' => ?_
      repeat (refine sxf_next fun K2 hK2 => ?_; simp [dNum, rRow, rdr, dS, hd0]; (repeat (refine ⟨by omega, ?_⟩)); refine hK2 _ ?_; clear hK2 K2)
      refine sxf_nil (hK' _ ?_)
      refine AW.st (by simp [dNum, rRow, rdr, dS, hd0]; rfl) ?_
      clear hK' K'
      refine AW_cond false rfl (fun h => by cases h) (fun _ => ?_)
      refine AW_skip (hK1 _ ?_)
      refine AW_then fun K2 hK2 => ?_
      refine AW_block ?_
      refine AW_rg (tyOf_good _) [0, 1, 20] [500] (notIn_ok rfl) fun K' hK' => ?_
      repeat (refine sxf_next fun K2 hK2 => ?_; simp [dNum, rRow, rdr, dS]; (repeat (refine ⟨by omega, ?_⟩)); refine hK2 _ ?_; clear hK2 K2)
      refine sxf_next fun K2 hK2 => ?_
      simp [dNum, rRow, rdr, dS]
      refine callK.mc (k33) (by simp [dNum, rRow, rdr, dS]) (by simp [dNum, rRow, rdr, dS]) (by simp [dNum, rRow, rdr, dS]) (by simp [dNum, rRow, rdr, dS]) ?_
      simp [dNum, rRow, rdr, dS]
      refine hK2 _ ?_
      clear hK2 K2
      repeat (refine sxf_next fun K2 hK2 => ?_; simp [dNum, rRow, rdr, dS]; (repeat (refine ⟨by omega, ?_⟩)); refine hK2 _ ?_; clear hK2 K2)
      refine sxf_nil (hK' _ ?_)
      refine AW.st (by simp [dNum, rRow, rdr, dS]; rfl) ?_
      clear hK' K'
      refine AW_cond false rfl (fun h => by cases h) (fun _ => ?_)
      refine AW_rg (tyOf_good _) [0, 1, 36] [500] (notIn_ok rfl) fun K' hK' => ?_
      repeat (refine sxf_next fun K2 hK2 => ?_; simp [dNum, rRow, rdr, dS]; (repeat (refine ⟨by omega, ?_⟩)); refine hK2 _ ?_; clear hK2 K2)
      refine sxf_next fun K2 hK2 => ?_
      simp [dNum, rRow, rdr, dS]
      refine callK.mc (k40) (by simp [dNum, rRow, rdr, dS]) (by simp [dNum, rRow, rdr, dS]) (by simp [dNum, rRow, rdr, dS]) (by simp [dNum, rRow, rdr, dS]) ?_
      simp [dNum, rRow, rdr, dS]
      refine hK2 _ ?_
      clear hK2 K2
      repeat (refine sxf_next fun K2 hK2 => ?_; simp [dNum, rRow, rdr, dS]; (repeat (refine ⟨by omega, ?_⟩)); refine hK2 _ ?_; clear hK2 K2)
      refine sxf_nil (hK' _ ?_)
      refine AW.st (by simp [dNum, rRow, rdr, dS]; rfl) ?_
      clear hK' K'
      refine AW_cond false rfl (fun h => by cases h) (fun _ => ?_)
      refine AW_rg (tyOf_good _) [0, 55] [500] (notIn_ok rfl) fun K' hK' => ?_
      repeat (refine sxf_next fun K2 hK2 => ?_; simp [dNum, rRow, rdr, dS]; (repeat (refine ⟨by omega, ?_⟩)); refine hK2 _ ?_; clear hK2 K2)
      refine sxf_next fun K2 hK2 => ?_
      simp [dNum, rRow, rdr, dS]
      refine callK.mc (k48) (by simp [dNum, rRow, rdr, dS]) (by simp [dNum, rRow, rdr, dS]) (by simp [dNum, rRow, rdr, dS]) (by simp [dNum, rRow, rdr, dS]) ?_
      simp [dNum, rRow, rdr, dS]
      refine hK2 _ ?_
      clear hK2 K2
      repeat (refine sxf_next fun K2 hK2 => ?_; simp [dNum, rRow, rdr, dS]; (repeat (refine ⟨by omega, ?_⟩)); refine hK2 _ ?_; clear hK2 K2)
      refine sxf_nil (hK' _ ?_)
      refine AW.st (by simp [dNum, rRow, rdr, dS]; rfl) ?_
      clear hK' K'
      refine AW_cond false rfl (fun h => by cases h) (fun _ => ?_)
      refine AW_rg (tyOf_good _) [0, 59] [500] (notIn_ok rfl) fun K' hK' => ?_
      repeat (refine sxf_next fun K2 hK2 => ?_; simp [dNum, rRow, rdr, dS]; (repeat (refine ⟨by omega, ?_⟩)); refine hK2 _ ?_; clear hK2 K2)
      refine sxf_next fun K2 hK2 => ?_
      simp [dNum, rRow, rdr, dS]
      refine callK.mc (k49) (by simp [dNum, rRow, rdr, dS]) (by simp [dNum, rRow, rdr, dS]) (by simp [dNum, rRow, rdr, dS]) (by simp [dNum, rRow, rdr, dS]) ?_
      simp [dNum, rRow, rdr, dS]
      refine hK2 _ ?_
      clear hK2 K2
      repeat (refine sxf_next fun K2 hK2 => ?_; simp [dNum, rRow, rdr, dS]; (repeat (refine ⟨by omega, ?_⟩)); refine hK2 _ ?_; clear hK2 K2)
      refine sxf_nil (hK' _ ?_)
      refine AW.st (by simp [dNum, rRow, rdr, dS]; rfl) ?_
      clear hK' K'
      refine AW_cond true rfl (fun _ => ?_) (fun h => by cases h)
      refine AW_rg (tyOf_good _) [4, 5] [500] (notIn_ok rfl) fun K' hK' => ?_
      repeat (refine sxf_next fun K2 hK2 => ?_; simp [dNum, rRow, rdr, dS]; (repeat (refine ⟨by omega, ?_⟩)); refine hK2 _ ?_; clear hK2 K2)
      refine sxf_nil (hK' _ ?_)
      refine AW.st (by simp [dNum, rRow, rdr, dS]; rfl) ?_
      clear hK' K'
      refine AW_ret ?_
      simp [D.le, D.le.go, takeMap, dNum, rRow, rdr, dS, rRow, rdr, tupX, posR, dE]
    rw [if_neg c49] at k49 ⊢
    by_cases c94 : t[j]? = some 94
    · rw [if_pos c94] at k94 ⊢
      have hc := word_spec G t 1 (j + 1) ht60 (hlt c94)
      have hq : ∀ {c : Int} {p q' : Nat}, wordR t 1 (j + 1) = .err c p q' → q' = 1 := fun h => word_q h
      cases hr : wordR t 1 (j + 1) with
      | err c p q' =>
        obtain rfl := hq hr
        rw [hr] at hc
        refine MC.of_body (tyOf_good _) Tryd.func94 rfl rfl (rs := [.tmp 4, .tmp 5]) Tryd.results94 (by simp [Tryd.ntmps94]) rfl fun X => ?_
        simp only [Tryd.ntmps94]
        refine AW_rg (tyOf_good _) [0, 1] [500] (notIn_ok rfl) fun K' hK' => ?_
        repeat (refine sxf_next fun K2 hK2 => ?_; simp [dNum, rRow, rdr, dS]; (repeat (refine ⟨by omega, ?_⟩)); refine hK2 _ ?_; clear hK2 K2)
        refine sxf_nil (hK' _ ?_)
        refine AW.st (by simp [dNum, rRow, rdr, dS]; rfl) ?_
        clear hK' K'
        refine AW_then fun K1 hK1 => ?_
        refine AW_rg (tyOf_good _) [0, 1, 17] [500] (notIn_ok rfl) fun K' hK' => ?_
        repeat (refine sxf_next fun K2 hK2 => ?_; simp [dNum, rRow, rdr, dS, hd0]; (repeat (refine ⟨by omega, ?_⟩)); refine hK2 _ ?_; clear hK2 K2)
        refine sxf_nil (hK' _ ?_)
        refine AW.st (by simp [dNum, rRow, rdr, dS, hd0]; rfl) ?_
        clear hK' K'
        refine AW_cond false rfl (fun h => by cases h) (fun _ => ?_)
        refine AW_skip (hK1 _ ?_)
        refine AW_then fun K2 hK2 => ?_
        refine AW_block ?_
        refine AW_rg (tyOf_good _) [0, 1, 20] [500] (notIn_ok rfl) fun K' hK' => ?_
        repeat (refine sxf_next fun K2 hK2 => ?_; simp [dNum, rRow, rdr, dS]; (repeat (refine ⟨by omega, ?_⟩)); refine hK2 _ ?_; clear hK2 K2)
        refine sxf_next fun K2 hK2 => ?_
        simp [dNum, rRow, rdr, dS]
        refine callK.mc (k33) (by simp [dNum, rRow, rdr, dS]) (by simp [dNum, rRow, rdr, dS]) (by simp [dNum, rRow, rdr, dS]) (by simp [dNum, rRow, rdr, dS]) ?_
        simp [dNum, rRow, rdr, dS]
        refine hK2 _ ?_
        clear hK2 K2
        repeat (refine sxf_next fun K2 hK2 => ?_; simp [dNum, rRow, rdr, dS]; (repeat (refine ⟨by omega, ?_⟩)); refine hK2 _ ?_; clear hK2 K2)
        refine sxf_nil (hK' _ ?_)
        refine AW.st (by simp [dNum, rRow, rdr, dS]; rfl) ?_
        clear hK' K'
        refine AW_cond false rfl (fun h => by cases h) (fun _ => ?_)
        refine AW_rg (tyOf_good _) [0, 1, 36] [500] (notIn_ok rfl) fun K' hK' => ?_
        repeat (refine sxf_next fun K2 hK2 => ?_; simp [dNum, rRow, rdr, dS]; (repeat (refine ⟨by omega, ?_⟩)); refine hK2 _ ?_; clear hK2 K2)
        refine sxf_next fun K2 hK2 => ?_
        simp [dNum, rRow, rdr, dS]
        refine callK.mc (k40) (by simp [dNum, rRow, rdr, dS]) (by simp [dNum, rRow, rdr, dS]) (by simp [dNum, rRow, rdr, dS]) (by simp [dNum, rRow, rdr, dS]) ?_
        simp [dNum, rRow, rdr, dS]
        refine hK2 _ ?_
        clear hK2 K2
        repeat (refine sxf_next fun K2 hK2 => ?_; simp [dNum, rRow, rdr, dS]; (repeat (refine ⟨by omega, ?_⟩)); refine hK2 _ ?_; clear hK2 K2)
        refine sxf_nil (hK' _ ?_)
        refine AW.st (by simp [dNum, rRow, rdr, dS]; rfl) ?_
        clear hK' K'
        refine AW_cond false rfl (fun h => by cases h) (fun _ => ?_)
        refine AW_rg (tyOf_good _) [0, 55] [500] (notIn_ok rfl) fun K' hK' => ?_
        repeat (refine sxf_next fun K2 hK2 => ?_; simp [dNum, rRow, rdr, dS]; (repeat (refine ⟨by omega, ?_⟩)); refine hK2 _ ?_; clear hK2 K2)
        refine sxf_next fun K2 hK2 => ?_
        simp [dNum, rRow, rdr, dS]
        refine callK.mc (k48) (by simp [dNum, rRow, rdr, dS]) (by simp [dNum, rRow, rdr, dS]) (by simp [dNum, rRow, rdr, dS]) (by simp [dNum, rRow, rdr, dS]) ?_
        simp [dNum, rRow, rdr, dS]
        refine hK2 _ ?_
        clear hK2 K2
        repeat (refine sxf_next fun K2 hK2 => ?_; simp [dNum, rRow, rdr, dS]; (repeat (refine ⟨by omega, ?_⟩)); refine hK2 _ ?_; clear hK2 K2)
        refine sxf_nil (hK' _ ?_)
        refine AW.st (by simp [dNum, rRow, rdr, dS]; rfl) ?_
        clear hK' K'
        refine AW_cond false rfl (fun h => by cases h) (fun _ => ?_)
        refine AW_rg (tyOf_good _) [0, 59] [500] (notIn_ok rfl) fun K' hK' => ?_
        repeat (refine sxf_next fun K2 hK2 => ?_; simp [dNum, rRow, rdr, dS]; (repeat (refine ⟨by omega, ?_⟩)); refine hK2 _ ?_; clear hK2 K2)
        refine sxf_next fun K2 hK2 => ?_
        simp [dNum, rRow, rdr, dS]
        refine callK.mc (k49) (by simp [dNum, rRow, rdr, dS]) (by simp [dNum, rRow, rdr, dS]) (by simp [dNum, rRow, rdr, dS]) (by simp [dNum, rRow, rdr, dS]) ?_
        simp [dNum, rRow, rdr, dS]
        refine hK2 _ ?_
        clear hK2 K2
        repeat (refine sxf_next fun K2 hK2 => ?_; simp [dNum, rRow, rdr, dS]; (repeat (refine ⟨by omega, ?_⟩)); refine hK2 _ ?_; clear hK2 K2)
        refine sxf_nil (hK' _ ?_)
        refine AW.st (by simp [dNum, rRow, rdr, dS]; rfl) ?_
        clear hK' K'
        refine AW_cond false rfl (fun h => by cases h) (fun _ => ?_)
        refine AW_rg (tyOf_good _) [0, 63] [500] (notIn_ok rfl) fun K' hK' => ?_
        repeat (refine sxf_next fun K2 hK2 => ?_; simp [dNum, rRow, rdr, dS]; (repeat (refine ⟨by omega, ?_⟩)); refine hK2 _ ?_; clear hK2 K2)
        refine sxf_next fun K2 hK2 => ?_
        simp [dNum, rRow, rdr, dS]
        refine callK.mc (k94) (by simp [dNum, rRow, rdr, dS]) (by simp [dNum, rRow, rdr, dS]) (by simp [dNum, rRow, rdr, dS]) (by simp [dNum, rRow, rdr, dS]) ?_
        simp [dNum, rRow, rdr, dS]
        refine hK2 _ ?_
        clear hK2 K2
        repeat (refine sxf_next fun K2 hK2 => ?_; simp [dNum, rRow, rdr, dS]; (repeat (refine ⟨by omega, ?_⟩)); refine hK2 _ ?_; clear hK2 K2)
        refine sxf_nil (hK' _ ?_)
        refine AW.st (by simp [dNum, rRow, rdr, dS]; rfl) ?_
        clear hK' K'
        refine AW_cond true rfl (fun _ => ?_) (fun h => by cases h)
        refine AW_rg (tyOf_good _) [10, 11] [500] (notIn_ok rfl) fun K' hK' => ?_
        repeat (refine sxf_next fun K2 hK2 => ?_; simp [dNum, rRow, rdr, dS, tupW, dErr]; (repeat (refine ⟨by omega, ?_⟩)); refine hK2 _ ?_; clear hK2 K2)
        refine sxf_next fun K2 hK2 => ?_
        simp [dNum, rRow, rdr, dS, tupW, dErr]
        refine callK.mc (hc) (by simp [dNum, rRow, rdr, dS, tupW, dErr]) (by simp [dNum, rRow, rdr, dS, tupW, dErr]) (by simp [dNum, rRow, rdr, dS, tupW, dErr]) (by simp [dNum, rRow, rdr, dS, tupW, dErr]) ?_
        simp [dNum, rRow, rdr, dS, tupW, dErr]
        refine hK2 _ ?_
        clear hK2 K2
        repeat (refine sxf_next fun K2 hK2 => ?_; simp [dNum, rRow, rdr, dS, tupW, dErr]; (repeat (refine ⟨by omega, ?_⟩)); refine hK2 _ ?_; clear hK2 K2)
        refine sxf_nil (hK' _ ?_)
        refine AW.st (by simp [dNum, rRow, rdr, dS, tupW, dErr]; rfl) ?_
        clear hK' K'
        refine AW_rg (tyOf_good _) [4, 5] [500] (notIn_ok rfl) fun K' hK' => ?_
        repeat (refine sxf_next fun K2 hK2 => ?_; simp [dNum, rRow, rdr, dS]; (repeat (refine ⟨by omega, ?_⟩)); refine hK2 _ ?_; clear hK2 K2)
        refine sxf_nil (hK' _ ?_)
        refine AW.st (by simp [dNum, rRow, rdr, dS]; rfl) ?_
        clear hK' K'
        refine AW_ret ?_
        simp [D.le, D.le.go, takeMap, dNum, rRow, rdr, dS, rRow, rdr, tupX, posR, dErr, dQ, Rs.map, bs_nil]
      | ok s p =>
        rw [hr] at hc
        refine MC.of_body (tyOf_good _) Tryd.func94 rfl rfl (rs := [.tmp 4, .tmp 5]) Tryd.results94 (by simp [Tryd.ntmps94]) rfl fun X => ?_
        simp only [Tryd.ntmps94]
        refine AW_rg (tyOf_good _) [0, 1] [500] (notIn_ok rfl) fun K' hK' => ?_
        repeat (refine sxf_next fun K2 hK2 => ?_; simp [dNum, rRow, rdr, dS]; (repeat (refine ⟨by omega, ?_⟩)); refine hK2 _ ?_; clear hK2 K2)
        refine sxf_nil (hK' _ ?_)
        refine AW.st (by simp [dNum, rRow, rdr, dS]; rfl) ?_
        clear hK' K'
        refine AW_then fun K1 hK1 => ?_
        refine AW_rg (tyOf_good _) [0, 1, 17] [500] (notIn_ok rfl) fun K' hK' => ?_
        repeat (refine sxf_next fun K2 hK2 => ?_; simp [dNum, rRow, rdr, dS, hd0]; (repeat (refine ⟨by omega, ?_⟩)); refine hK2 _ ?_; clear hK2 K2)
        refine sxf_nil (hK' _ ?_)
        refine AW.st (by simp [dNum, rRow, rdr, dS, hd0]; rfl) ?_
        clear hK' K'
        refine AW_cond false rfl (fun h => by cases h) (fun _ => ?_)
        refine AW_skip (hK1 _ ?_)
        refine AW_then fun K2 hK2 => ?_
        refine AW_block ?_
        refine AW_rg (tyOf_good _) [0, 1, 20] [500] (notIn_ok rfl) fun K' hK' => ?_
        repeat (refine sxf_next fun K2 hK2 => ?_; simp [dNum, rRow, rdr, dS]; (repeat (refine ⟨by omega, ?_⟩)); refine hK2 _ ?_; clear hK2 K2)
        refine sxf_next fun K2 hK2 => ?_
        simp [dNum, rRow, rdr, dS]
        refine callK.mc (k33) (by simp [dNum, rRow, rdr, dS]) (by simp [dNum, rRow, rdr, dS]) (by simp [dNum, rRow, rdr, dS]) (by simp [dNum, rRow, rdr, dS]) ?_
        simp [dNum, rRow, rdr, dS]
        refine hK2 _ ?_
        clear hK2 K2
        repeat (refine sxf_next fun K2 hK2 => ?_; simp [dNum, rRow, rdr, dS]; (repeat (refine ⟨by omega, ?_⟩)); refine hK2 _ ?_; clear hK2 K2)
        refine sxf_nil (hK' _ ?_)
        refine AW.st (by simp [dNum, rRow, rdr, dS]; rfl) ?_
        clear hK' K'
        refine AW_cond false rfl (fun h => by cases h) (fun _ => ?_)
        refine AW_rg (tyOf_good _) [0, 1, 36] [500] (notIn_ok rfl) fun K' hK' => ?_
        repeat (refine sxf_next fun K2 hK2 => ?_; simp [dNum, rRow, rdr, dS]; (repeat (refine ⟨by omega, ?_⟩)); refine hK2 _ ?_; clear hK2 K2)
        refine sxf_next fun K2 hK2 => ?_
        simp [dNum, rRow, rdr, dS]
        refine callK.mc (k40) (by simp [dNum, rRow, rdr, dS]) (by simp [dNum, rRow, rdr, dS]) (by simp [dNum, rRow, rdr, dS]) (by simp [dNum, rRow, rdr, dS]) ?_
        simp [dNum, rRow, rdr, dS]
        refine hK2 _ ?_
        clear hK2 K2
        repeat (refine sxf_next fun K2 hK2 => ?_; simp [dNum, rRow, rdr, dS]; (repeat (refine ⟨by omega, ?_⟩)); refine hK2 _ ?_; clear hK2 K2)
        refine sxf_nil (hK' _ ?_)
        refine AW.st (by simp [dNum, rRow, rdr, dS]; rfl) ?_
        clear hK' K'
        refine AW_cond false rfl (fun h => by cases h) (fun _ => ?_)
        refine AW_rg (tyOf_good _) [0, 55] [500] (notIn_ok rfl) fun K' hK' => ?_
        repeat (refine sxf_next fun K2 hK2 => ?_; simp [dNum, rRow, rdr, dS]; (repeat (refine ⟨by omega, ?_⟩)); refine hK2 _ ?_; clear hK2 K2)
        refine sxf_next fun K2 hK2 => ?_
        simp [dNum, rRow, rdr, dS]
        refine callK.mc (k48) (by simp [dNum, rRow, rdr, dS]) (by simp [dNum, rRow, rdr, dS]) (by simp [dNum, rRow, rdr, dS]) (by simp [dNum, rRow, rdr, dS]) ?_
        simp [dNum, rRow, rdr, dS]
        refine hK2 _ ?_
        clear hK2 K2
        repeat (refine sxf_next fun K2 hK2 => ?_; simp [dNum, rRow, rdr, dS]; (repeat (refine ⟨by omega, ?_⟩)); refine hK2 _ ?_; clear hK2 K2)
        refine sxf_nil (hK' _ ?_)
        refine AW.st (by simp [dNum, rRow, rdr, dS]; rfl) ?_
        clear hK' K'
        refine AW_cond false rfl (fun h => by cases h) (fun _ => ?_)
        refine AW_rg (tyOf_good _) [0, 59] [500] (notIn_ok rfl) fun K' hK' => ?_
        repeat (refine sxf_next fun K2 hK2 => ?_; simp [dNum, rRow, rdr, dS]; (repeat (refine ⟨by omega, ?_⟩)); refine hK2 _ ?_; clear hK2 K2)
        refine sxf_next fun K2 hK2 => ?_
        simp [dNum, rRow, rdr, dS]
        refine callK.mc (k49) (by simp [dNum, rRow, rdr, dS]) (by simp [dNum, rRow, rdr, dS]) (by simp [dNum, rRow, rdr, dS]) (by simp [dNum, rRow, rdr, dS]) ?_
        simp [dNum, rRow, rdr, dS]
        refine hK2 _ ?_
        clear hK2 K2
        repeat (refine sxf_next fun K2 hK2 => ?_; simp [dNum, rRow, rdr, dS]; (repeat (refine ⟨by omega, ?_⟩)); refine hK2 _ ?_; clear hK2 K2)
        refine sxf_nil (hK' _ ?_)
        refine AW.st (by simp [dNum, rRow, rdr, dS]; rfl) ?_
        clear hK' K'
        refine AW_cond false rfl (fun h => by cases h) (fun _ => ?_)
        refine AW_rg (tyOf_good _) [0, 63] [500] (notIn_ok rfl) fun K' hK' => ?_
        repeat (refine sxf_next fun K2 hK2 => ?_; simp [dNum, rRow, rdr, dS]; (repeat (refine ⟨by omega, ?_⟩)); refine hK2 _ ?_; clear hK2 K2)
        refine sxf_next fun K2 hK2 => ?_
        simp [dNum, rRow, rdr, dS]
        refine callK.mc (k94) (by simp [dNum, rRow, rdr, dS]) (by simp [dNum, rRow, rdr, dS]) (by simp [dNum, rRow, rdr, dS]) (by simp [dNum, rRow, rdr, dS]) ?_
        simp [dNum, rRow, rdr, dS]
        refine hK2 _ ?_
        clear hK2 K2
        repeat (refine sxf_next fun K2 hK2 => ?_; simp [dNum, rRow, rdr, dS]; (repeat (refine ⟨by omega, ?_⟩)); refine hK2 _ ?_; clear hK2 K2)
        refine sxf_nil (hK' _ ?_)
        refine AW.st (by simp [dNum, rRow, rdr, dS]; rfl) ?_
        clear hK' K'
        refine AW_cond true rfl (fun _ => ?_) (fun h => by cases h)
        refine AW_rg (tyOf_good _) [10, 11] [500] (notIn_ok rfl) fun K' hK' => ?_
        repeat (refine sxf_next fun K2 hK2 => ?_; simp [dNum, rRow, rdr, dS, tupW]; (repeat (refine ⟨by omega, ?_⟩)); refine hK2 _ ?_; clear hK2 K2)
        refine sxf_next fun K2 hK2 => ?_
        simp [dNum, rRow, rdr, dS, tupW]
        refine callK.mc (hc) (by simp [dNum, rRow, rdr, dS, tupW]) (by simp [dNum, rRow, rdr, dS, tupW]) (by simp [dNum, rRow, rdr, dS, tupW]) (by simp [dNum, rRow, rdr, dS, tupW]) ?_
        simp [dNum, rRow, rdr, dS, tupW]
        refine hK2 _ ?_
        clear hK2 K2
        repeat (refine sxf_next fun K2 hK2 => ?_; simp [dNum, rRow, rdr, dS, tupW]; (repeat (refine ⟨by omega, ?_⟩)); refine hK2 _ ?_; clear hK2 K2)
        refine sxf_nil (hK' _ ?_)
        refine AW.st (by simp [dNum, rRow, rdr, dS, tupW]; rfl) ?_
        clear hK' K'
        refine AW_rg (tyOf_good _) [4, 5] [500] (notIn_ok rfl) fun K' hK' => ?_
        repeat (refine sxf_next fun K2 hK2 => ?_; simp [dNum, rRow, rdr, dS]; (repeat (refine ⟨by omega, ?_⟩)); refine hK2 _ ?_; clear hK2 K2)
        refine sxf_nil (hK' _ ?_)
        refine AW.st (by simp [dNum, rRow, rdr, dS]; rfl) ?_
        clear hK' K'
        refine AW_ret ?_
        simp [D.le, D.le.go, takeMap, dNum, rRow, rdr, dS, rRow, rdr, tupX, posR, Rs.map, dE]
    rw [if_neg c94] at k94 ⊢
    by_cases c126 : t[j]? = some 126
    · rw [if_pos c126] at k126 ⊢
      have hc := word_spec G t 2 (j + 1) ht60 (hlt c126)
      have hq : ∀ {c : Int} {p q' : Nat}, wordR t 2 (j + 1) = .err c p q' → q' = 2 := fun h => word_q h
      cases hr : wordR t 2 (j + 1) with
      | err c p q' =>
        obtain rfl := hq hr
        rw [hr] at hc
        refine MC.of_body (tyOf_good _) Tryd.func94 rfl rfl (rs := [.tmp 4, .tmp 5]) Tryd.results94 (by simp [Tryd.ntmps94]) rfl fun X => ?_
        simp only [Tryd.ntmps94]
        refine AW_rg (tyOf_good _) [0, 1] [500] (notIn_ok rfl) fun K' hK' => ?_
        repeat (refine sxf_next fun K2 hK2 => ?_; simp [dNum, rRow, rdr, dS]; (repeat (refine ⟨by omega, ?_⟩)); refine hK2 _ ?_; clear hK2 K2)
        refine sxf_nil (hK' _ ?_)
        refine AW.st (by simp [dNum, rRow, rdr, dS]; rfl) ?_
        clear hK' K'
        refine AW_then fun K1 hK1 => ?_
        refine AW_rg (tyOf_good _) [0, 1, 17] [500] (notIn_ok rfl) fun K' hK' => ?_
        repeat (refine sxf_next fun K2 hK2 => ?_; simp [dNum, rRow, rdr, dS, hd0]; (repeat (refine ⟨by omega, ?_⟩)); refine hK2 _ ?_; clear hK2 K2)
        refine sxf_nil (hK' _ ?_)
        refine AW.st (by simp [dNum, rRow, rdr, dS, hd0]; rfl) ?_
        clear hK' K'
        refine AW_cond false rfl (fun h => by cases h) (fun _ => ?_)
        refine AW_skip (hK1 _ ?_)
        refine AW_then fun K2 hK2 => ?_
        refine AW_block ?_
        refine AW_rg (tyOf_good _) [0, 1, 20] [500] (notIn_ok rfl) fun K' hK' => ?_
        repeat (refine sxf_next fun K2 hK2 => ?_; simp [dNum, rRow, rdr, dS]; (repeat (refine ⟨by omega, ?_⟩)); refine hK2 _ ?_; clear hK2 K2)
        refine sxf_next fun K2 hK2 => ?_
        simp [dNum, rRow, rdr, dS]
        refine callK.mc (k33) (by simp [dNum, rRow, rdr, dS]) (by simp [dNum, rRow, rdr, dS]) (by simp [dNum, rRow, rdr, dS]) (by simp [dNum, rRow, rdr, dS]) ?_
        simp [dNum, rRow, rdr, dS]
        refine hK2 _ ?_
        clear hK2 K2
        repeat (refine sxf_next fun K2 hK2 => ?_; simp [dNum, rRow, rdr, dS]; (repeat (refine ⟨by omega, ?_⟩)); refine hK2 _ ?_; clear hK2 K2)
        refine sxf_nil (hK' _ ?_)
        refine AW.st (by simp [dNum, rRow, rdr, dS]; rfl) ?_
        clear hK' K'
        refine AW_cond false rfl (fun h => by cases h) (fun _ => ?_)
        refine AW_rg (tyOf_good _) [0, 1, 36] [500] (notIn_ok rfl) fun K' hK' => ?_
        repeat (refine sxf_next fun K2 hK2 => ?_; simp [dNum, rRow, rdr, dS]; (repeat (refine ⟨by omega, ?_⟩)); refine hK2 _ ?_; clear hK2 K2)
        refine sxf_next fun K2 hK2 => ?_
        simp [dNum, rRow, rdr, dS]
        refine callK.mc (k40) (by simp [dNum, rRow, rdr, dS]) (by simp [dNum, rRow, rdr, dS]) (by simp [dNum, rRow, rdr, dS]) (by simp [dNum, rRow, rdr, dS]) ?_
        simp [dNum, rRow, rdr, dS]
        refine hK2 _ ?_
        clear hK2 K2
        repeat (refine sxf_next fun K2 hK2 => ?_; simp [dNum, rRow, rdr, dS]; (repeat (refine ⟨by omega, ?_⟩)); refine hK2 _ ?_; clear hK2 K2)
        refine sxf_nil (hK' _ ?_)
        refine AW.st (by simp [dNum, rRow, rdr, dS]; rfl) ?_
        clear hK' K'
        refine AW_cond false rfl (fun h => by cases h) (fun _ => ?_)
        refine AW_rg (tyOf_good _) [0, 55] [500] (notIn_ok rfl) fun K' hK' => ?_
        repeat (refine sxf_next fun K2 hK2 => ?_; simp [dNum, rRow, rdr, dS]; (repeat (refine ⟨by omega, ?_⟩)); refine hK2 _ ?_; clear hK2 K2)
        refine sxf_next fun K2 hK2 => ?_
        simp [dNum, rRow, rdr, dS]
        refine callK.mc (k48) (by simp [dNum, rRow, rdr, dS]) (by simp [dNum, rRow, rdr, dS]) (by simp [dNum, rRow, rdr, dS]) (by simp [dNum, rRow, rdr, dS]) ?_
        simp [dNum, rRow, rdr, dS]
        refine hK2 _ ?_
        clear hK2 K2
        repeat (refine sxf_next fun K2 hK2 => ?_; simp [dNum, rRow, rdr, dS]; (repeat (refine ⟨by omega, ?_⟩)); refine hK2 _ ?_; clear hK2 K2)
        refine sxf_nil (hK' _ ?_)
        refine AW.st (by simp [dNum, rRow, rdr, dS]; rfl) ?_
        clear hK' K'
        refine AW_cond false rfl (fun h => by cases h) (fun _ => ?_)
        refine AW_rg (tyOf_good _) [0, 59] [500] (notIn_ok rfl) fun K' hK' => ?_
        repeat (refine sxf_next fun K2 hK2 => ?_; simp [dNum, rRow, rdr, dS]; (repeat (refine ⟨by omega, ?_⟩)); refine hK2 _ ?_; clear hK2 K2)
        refine sxf_next fun K2 hK2 => ?_
        simp [dNum, rRow, rdr, dS]
        refine callK.mc (k49) (by simp [dNum, rRow, rdr, dS]) (by simp [dNum, rRow, rdr, dS]) (by simp [dNum, rRow, rdr, dS]) (by simp [dNum, rRow, rdr, dS]) ?_
        simp [dNum, rRow, rdr, dS]
        refine hK2 _ ?_
        clear hK2 K2
        repeat (refine sxf_next fun K2 hK2 => ?_; simp [dNum, rRow, rdr, dS]; (repeat (refine ⟨by omega, ?_⟩)); refine hK2 _ ?_; clear hK2 K2)
        refine sxf_nil (hK' _ ?_)
        refine AW.st (by simp [dNum, rRow, rdr, dS]; rfl) ?_
        clear hK' K'
        refine AW_cond false rfl (fun h => by cases h) (fun _ => ?_)
        refine AW_rg (tyOf_good _) [0, 63] [500] (notIn_ok rfl) fun K' hK' => ?_
        repeat (refine sxf_next fun K2 hK2 => ?_; simp [dNum, rRow, rdr, dS]; (repeat (refine ⟨by omega, ?_⟩)); refine hK2 _ ?_; clear hK2 K2)
        refine sxf_next fun K2 hK2 => ?_
        simp [dNum, rRow, rdr, dS]
        refine callK.mc (k94) (by simp [dNum, rRow, rdr, dS]) (by simp [dNum, rRow, rdr, dS]) (by simp [dNum, rRow, rdr, dS]) (by simp [dNum, rRow, rdr, dS]) ?_
        simp [dNum, rRow, rdr, dS]
        refine hK2 _ ?_
        clear hK2 K2
        repeat (refine sxf_next fun K2 hK2 => ?_; simp [dNum, rRow, rdr, dS]; (repeat (refine ⟨by omega, ?_⟩)); refine hK2 _ ?_; clear hK2 K2)
        refine sxf_nil (hK' _ ?_)
        refine AW.st (by simp [dNum, rRow, rdr, dS]; rfl) ?_
        clear hK' K'
        refine AW_cond false rfl (fun h => by cases h) (fun _ => ?_)
        refine AW_rg (tyOf_good _) [0, 74] [500] (notIn_ok rfl) fun K' hK' => ?_
        repeat (refine sxf_next fun K2 hK2 => ?_; simp [dNum, rRow, rdr, dS]; (repeat (refine ⟨by omega, ?_⟩)); refine hK2 _ ?_; clear hK2 K2)
        refine sxf_next fun K2 hK2 => ?_
        simp [dNum, rRow, rdr, dS]
        refine callK.mc (k126) (by simp [dNum, rRow, rdr, dS]) (by simp [dNum, rRow, rdr, dS]) (by simp [dNum, rRow, rdr, dS]) (by simp [dNum, rRow, rdr, dS]) ?_
        simp [dNum, rRow, rdr, dS]
        refine hK2 _ ?_
        clear hK2 K2
        repeat (refine sxf_next fun K2 hK2 => ?_; simp [dNum, rRow, rdr, dS]; (repeat (refine ⟨by omega, ?_⟩)); refine hK2 _ ?_; clear hK2 K2)
        refine sxf_nil (hK' _ ?_)
        refine AW.st (by simp [dNum, rRow, rdr, dS]; rfl) ?_
        clear hK' K'
        refine AW_cond true rfl (fun _ => ?_) (fun h => by cases h)
        refine AW_rg (tyOf_good _) [12, 13] [500] (notIn_ok rfl) fun K' hK' => ?_
        repeat (refine sxf_next fun K2 hK2 => ?_; simp [dNum, rRow, rdr, dS, tupW, dErr]; (repeat (refine ⟨by omega, ?_⟩)); refine hK2 _ ?_; clear hK2 K2)
        refine sxf_next fun K2 hK2 => ?_
        simp [dNum, rRow, rdr, dS, tupW, dErr]
        refine callK.mc (hc) (by simp [dNum, rRow, rdr, dS, tupW, dErr]) (by simp [dNum, rRow, rdr, dS, tupW, dErr]) (by simp [dNum, rRow, rdr, dS, tupW, dErr]) (by simp [dNum, rRow, rdr, dS, tupW, dErr]) ?_
        simp [dNum, rRow, rdr, dS, tupW, dErr]
        refine hK2 _ ?_
        clear hK2 K2
        repeat (refine sxf_next fun K2 hK2 => ?_; simp [dNum, rRow, rdr, dS, tupW, dErr]; (repeat (refine ⟨by omega, ?_⟩)); refine hK2 _ ?_; clear hK2 K2)
        refine sxf_nil (hK' _ ?_)
        refine AW.st (by simp [dNum, rRow, rdr, dS, tupW, dErr]; rfl) ?_
        clear hK' K'
        refine AW_rg (tyOf_good _) [4, 5] [500] (notIn_ok rfl) fun K' hK' => ?_
        repeat (refine sxf_next fun K2 hK2 => ?_; simp [dNum, rRow, rdr, dS]; (repeat (refine ⟨by omega, ?_⟩)); refine hK2 _ ?_; clear hK2 K2)
        refine sxf_nil (hK' _ ?_)
        refine AW.st (by simp [dNum, rRow, rdr, dS]; rfl) ?_
        clear hK' K'
        refine AW_ret ?_
        simp [D.le, D.le.go, takeMap, dNum, rRow, rdr, dS, rRow, rdr, tupX, posR, dErr, dQ, Rs.map, bs_nil]
      | ok s p =>
        rw [hr] at hc
        refine MC.of_body (tyOf_good _) Tryd.func94 rfl rfl (rs := [.tmp 4, .tmp 5]) Tryd.results94 (by simp [Tryd.ntmps94]) rfl fun X => ?_
        simp only [Tryd.ntmps94]
        refine AW_rg (tyOf_good _) [0, 1] [500] (notIn_ok rfl) fun K' hK' => ?_
        repeat (refine sxf_next fun K2 hK2 => ?_; simp [dNum, rRow, rdr, dS]; (repeat (refine ⟨by omega, ?_⟩)); refine hK2 _ ?_; clear hK2 K2)
        refine sxf_nil (hK' _ ?_)
        refine AW.st (by simp [dNum, rRow, rdr, dS]; rfl) ?_
        clear hK' K'
        refine AW_then fun K1 hK1 => ?_
        refine AW_rg (tyOf_good _) [0, 1, 17] [500] (notIn_ok rfl) fun K' hK' => ?_
        repeat (refine sxf_next fun K2 hK2 => ?_; simp [dNum, rRow, rdr, dS, hd0]; (repeat (refine ⟨by omega, ?_⟩)); refine hK2 _ ?_; clear hK2 K2)
        refine sxf_nil (hK' _ ?_)
        refine AW.st (by simp [dNum, rRow, rdr, dS, hd0]; rfl) ?_
        clear hK' K'
        refine AW_cond false rfl (fun h => by cases h) (fun _ => ?_)
        refine AW_skip (hK1 _ ?_)
        refine AW_then fun K2 hK2 => ?_
        refine AW_block ?_
        refine AW_rg (tyOf_good _) [0, 1, 20] [500] (notIn_ok rfl) fun K' hK' => ?_
        repeat (refine sxf_next fun K2 hK2 => ?_; simp [dNum, rRow, rdr, dS]; (repeat (refine ⟨by omega, ?_⟩)); refine hK2 _ ?_; clear hK2 K2)
        refine sxf_next fun K2 hK2 => ?_
        simp [dNum, rRow, rdr, dS]
        refine callK.mc (k33) (by simp [dNum, rRow, rdr, dS]) (by simp [dNum, rRow, rdr, dS]) (by simp [dNum, rRow, rdr, dS]) (by simp [dNum, rRow, rdr, dS]) ?_
        simp [dNum, rRow, rdr, dS]
        refine hK2 _ ?_
        clear hK2 K2
        repeat (refine sxf_next fun K2 hK2 => ?_; simp [dNum, rRow, rdr, dS]; (repeat (refine ⟨by omega, ?_⟩)); refine hK2 _ ?_; clear hK2 K2)
        refine sxf_nil (hK' _ ?_)
        refine AW.st (by simp [dNum, rRow, rdr, dS]; rfl) ?_
        clear hK' K'
        refine AW_cond false rfl (fun h => by cases h) (fun _ => ?_)
        refine AW_rg (tyOf_good _) [0, 1, 36] [500] (notIn_ok rfl) fun K' hK' => ?_
        repeat (refine sxf_next fun K2 hK2 => ?_; simp [dNum, rRow, rdr, dS]; (repeat (refine ⟨by omega, ?_⟩)); refine hK2 _ ?_; clear hK2 K2)
        refine sxf_next fun K2 hK2 => ?_
        simp [dNum, rRow, rdr, dS]
        refine callK.mc (k40) (by simp [dNum, rRow, rdr, dS]) (by simp [dNum, rRow, rdr, dS]) (by simp [dNum, rRow, rdr, dS]) (by simp [dNum, rRow, rdr, dS]) ?_
        simp [dNum, rRow, rdr, dS]
        refine hK2 _ ?_
        clear hK2 K2
        repeat (refine sxf_next fun K2 hK2 => ?_; simp [dNum, rRow, rdr, dS]; (repeat (refine ⟨by omega, ?_⟩)); refine hK2 _ ?_; clear hK2 K2)
        refine sxf_nil (hK' _ ?_)
        refine AW.st (by simp [dNum, rRow, rdr, dS]; rfl) ?_
        clear hK' K'
        refine AW_cond false rfl (fun h => by cases h) (fun _ => ?_)
        refine AW_rg (tyOf_good _) [0, 55] [500] (notIn_ok rfl) fun K' hK' => ?_
        repeat (refine sxf_next fun K2 hK2 => ?_; simp [dNum, rRow, rdr, dS]; (repeat (refine ⟨by omega, ?_⟩)); refine hK2 _ ?_; clear hK2 K2)
        refine sxf_next fun K2 hK2 => ?_
        simp [dNum, rRow, rdr, dS]
        refine callK.mc (k48) (by simp [dNum, rRow, rdr, dS]) (by simp [dNum, rRow, rdr, dS]) (by simp [dNum, rRow, rdr, dS]) (by simp [dNum, rRow, rdr, dS]) ?_
        simp [dNum, rRow, rdr, dS]
        refine hK2 _ ?_
        clear hK2 K2
        repeat (refine sxf_next fun K2 hK2 => ?_; simp [dNum, rRow, rdr, dS]; (repeat (refine ⟨by omega, ?_⟩)); refine hK2 _ ?_; clear hK2 K2)
        refine sxf_nil (hK' _ ?_)
        refine AW.st (by simp [dNum, rRow, rdr, dS]; rfl) ?_
        clear hK' K'
        refine AW_cond false rfl (fun h => by cases h) (fun _ => ?_)
        refine AW_rg (tyOf_good _) [0, 59] [500] (notIn_ok rfl) fun K' hK' => ?_
        repeat (refine sxf_next fun K2 hK2 => ?_; simp [dNum, rRow, rdr, dS]; (repeat (refine ⟨by omega, ?_⟩)); refine hK2 _ ?_; clear hK2 K2)
        refine sxf_next fun K2 hK2 => ?_
        simp [dNum, rRow, rdr, dS]
        refine callK.mc (k49) (by simp [dNum, rRow, rdr, dS]) (by simp [dNum, rRow, rdr, dS]) (by simp [dNum, rRow, rdr, dS]) (by simp [dNum, rRow, rdr, dS]) ?_
        simp [dNum, rRow, rdr, dS]
        refine hK2 _ ?_
        clear hK2 K2
        repeat (refine sxf_next fun K2 hK2 => ?_; simp [dNum, rRow, rdr, dS]; (repeat (refine ⟨by omega, ?_⟩)); refine hK2 _ ?_; clear hK2 K2)
        refine sxf_nil (hK' _ ?_)
        refine AW.st (by simp [dNum, rRow, rdr, dS]; rfl) ?_
        clear hK' K'
        refine AW_cond false rfl (fun h => by cases h) (fun _ => ?_)
        refine AW_rg (tyOf_good _) [0, 63] [500] (notIn_ok rfl) fun K' hK' => ?_
        repeat (refine sxf_next fun K2 hK2 => ?_; simp [dNum, rRow, rdr, dS]; (repeat (refine ⟨by omega, ?_⟩)); refine hK2 _ ?_; clear hK2 K2)
        refine sxf_next fun K2 hK2 => ?_
        simp [dNum, rRow, rdr, dS]
        refine callK.mc (k94) (by simp [dNum, rRow, rdr, dS]) (by simp [dNum, rRow, rdr, dS]) (by simp [dNum, rRow, rdr, dS]) (by simp [dNum, rRow, rdr, dS]) ?_
        simp [dNum, rRow, rdr, dS]
        refine hK2 _ ?_
        clear hK2 K2
        repeat (refine sxf_next fun K2 hK2 => ?_; simp [dNum, rRow, rdr, dS]; (repeat (refine ⟨by omega, ?_⟩)); refine hK2 _ ?_; clear hK2 K2)
        refine sxf_nil (hK' _ ?_)
        refine AW.st (by simp [dNum, rRow, rdr, dS]; rfl) ?_
        clear hK' K'
        refine AW_cond false rfl (fun h => by cases h) (fun _ => ?_)
        refine AW_rg (tyOf_good _) [0, 74] [500] (notIn_ok rfl) fun K' hK' => ?_
        repeat (refine sxf_next fun K2 hK2 => ?_; simp [dNum, rRow, rdr, dS]; (repeat (refine ⟨by omega, ?_⟩)); refine hK2 _ ?_; clear hK2 K2)
        refine sxf_next fun K2 hK2 => ?_
        simp [dNum, rRow, rdr, dS]
        refine callK.mc (k126) (by simp [dNum, rRow, rdr, dS]) (by simp [dNum, rRow, rdr, dS]) (by simp [dNum, rRow, rdr, dS]) (by simp [dNum, rRow, rdr, dS]) ?_
        simp [dNum, rRow, rdr, dS]
        refine hK2 _ ?_
        clear hK2 K2
        repeat (refine sxf_next fun K2 hK2 => ?_; simp [dNum, rRow, rdr, dS]; (repeat (refine ⟨by omega, ?_⟩)); refine hK2 _ ?_; clear hK2 K2)
        refine sxf_nil (hK' _ ?_)
        refine AW.st (by simp [dNum, rRow, rdr, dS]; rfl) ?_
        clear hK' K'
        refine AW_cond true rfl (fun _ => ?_) (fun h => by cases h)
        refine AW_rg (tyOf_good _) [12, 13] [500] (notIn_ok rfl) fun K' hK' => ?_
        repeat (refine sxf_next fun K2 hK2 => ?_; simp [dNum, rRow, rdr, dS, tupW]; (repeat (refine ⟨by omega, ?_⟩)); refine hK2 _ ?_; clear hK2 K2)
        refine sxf_next fun K2 hK2 => ?_
        simp [dNum, rRow, rdr, dS, tupW]
        refine callK.mc (hc) (by simp [dNum, rRow, rdr, dS, tupW]) (by simp [dNum, rRow, rdr, dS, tupW]) (by simp [dNum, rRow, rdr, dS, tupW]) (by simp [dNum, rRow, rdr, dS, tupW]) ?_
        simp [dNum, rRow, rdr, dS, tupW]
        refine hK2 _ ?_
        clear hK2 K2
        repeat (refine sxf_next fun K2 hK2 => ?_; simp [dNum, rRow, rdr, dS, tupW]; (repeat (refine ⟨by omega, ?_⟩)); refine hK2 _ ?_; clear hK2 K2)
        refine sxf_nil (hK' _ ?_)
        refine AW.st (by simp [dNum, rRow, rdr, dS, tupW]; rfl) ?_
        clear hK' K'
        refine AW_rg (tyOf_good _) [4, 5] [500] (notIn_ok rfl) fun K' hK' => ?_
        repeat (refine sxf_next fun K2 hK2 => ?_; simp [dNum, rRow, rdr, dS]; (repeat (refine ⟨by omega, ?_⟩)); refine hK2 _ ?_; clear hK2 K2)
        refine sxf_nil (hK' _ ?_)
        refine AW.st (by simp [dNum, rRow, rdr, dS]; rfl) ?_
        clear hK' K'
        refine AW_ret ?_
        simp [D.le, D.le.go, takeMap, dNum, rRow, rdr, dS, rRow, rdr, tupX, posR, Rs.map, dE]
    rw [if_neg c126] at k126 ⊢
    have hc := word_spec G t 3 j ht60 htop
    have hq : ∀ {c : Int} {p q' : Nat}, wordR t 3 j = .err c p q' → q' = 3 := fun h => word_q h
    cases hr : wordR t 3 j with
    | err c p q' =>
      obtain rfl := hq hr
      rw [hr] at hc
      refine MC.of_body (tyOf_good _) Tryd.func94 rfl rfl (rs := [.tmp 4, .tmp 5]) Tryd.results94 (by simp [Tryd.ntmps94]) rfl fun X => ?_
      simp only [Tryd.ntmps94]
      refine AW_rg (tyOf_good _) [0, 1] [500] (notIn_ok rfl) fun K' hK' => ?_
      repeat (refine sxf_next fun K2 hK2 => ?_; simp [dNum, rRow, rdr, dS]; (repeat (refine ⟨by omega, ?_⟩)); refine hK2 _ ?_; clear hK2 K2)
      refine sxf_nil (hK' _ ?_)
      refine AW.st (by simp [dNum, rRow, rdr, dS]; rfl) ?_
      clear hK' K'
      refine AW_then fun K1 hK1 => ?_
      refine AW_rg (tyOf_good _) [0, 1, 17] [500] (notIn_ok rfl) fun K' hK' => ?_
      repeat (refine sxf_next fun K2 hK2 => ?_; simp [dNum, rRow, rdr, dS, hd0]; (repeat (refine ⟨by omega, ?_⟩)); refine hK2 _ ?_; clear hK2 K2)
      refine sxf_nil (hK' _ ?_)
      refine AW.st (by simp [dNum, rRow, rdr, dS, hd0]; rfl) ?_
      clear hK' K'
      refine AW_cond false rfl (fun h => by cases h) (fun _ => ?_)
      refine AW_skip (hK1 _ ?_)
      refine AW_then fun K2 hK2 => ?_
      refine AW_block ?_
      refine AW_rg (tyOf_good _) [0, 1, 20] [500] (notIn_ok rfl) fun K' hK' => ?_
      repeat (refine sxf_next fun K2 hK2 => ?_; simp [dNum, rRow, rdr, dS]; (repeat (refine ⟨by omega, ?_⟩)); refine hK2 _ ?_; clear hK2 K2)
      refine sxf_next fun K2 hK2 => ?_
      simp [dNum, rRow, rdr, dS]
      refine callK.mc (k33) (by simp [dNum, rRow, rdr, dS]) (by simp [dNum, rRow, rdr, dS]) (by simp [dNum, rRow, rdr, dS]) (by simp [dNum, rRow, rdr, dS]) ?_
      simp [dNum, rRow, rdr, dS]
      refine hK2 _ ?_
      clear hK2 K2
      repeat (refine sxf_next fun K2 hK2 => ?_; simp [dNum, rRow, rdr, dS]; (repeat (refine ⟨by omega, ?_⟩)); refine hK2 _ ?_; clear hK2 K2)
      refine sxf_nil (hK' _ ?_)
      refine AW.st (by simp [dNum, rRow, rdr, dS]; rfl) ?_
      clear hK' K'
      refine AW_cond false rfl (fun h => by cases h) (fun _ => ?_)
      refine AW_rg (tyOf_good _) [0, 1, 36] [500] (notIn_ok rfl) fun K' hK' => ?_
      repeat (refine sxf_next fun K2 hK2 => ?_; simp [dNum, rRow, rdr, dS]; (repeat (refine ⟨by omega, ?_⟩)); refine hK2 _ ?_; clear hK2 K2)
      refine sxf_next fun K2 hK2 => ?_
      simp [dNum, rRow, rdr, dS]
      refine callK.mc (k40) (by simp [dNum, rRow, rdr, dS]) (by simp [dNum, rRow, rdr, dS]) (by simp [dNum, rRow, rdr, dS]) (by simp [dNum, rRow, rdr, dS]) ?_
      simp [dNum, rRow, rdr, dS]
      refine hK2 _ ?_
      clear hK2 K2
      repeat (refine sxf_next fun K2 hK2 => ?_; simp [dNum, rRow, rdr, dS]; (repeat (refine ⟨by omega, ?_⟩)); refine hK2 _ ?_; clear hK2 K2)
      refine sxf_nil (hK' _ ?_)
      refine AW.st (by simp [dNum, rRow, rdr, dS]; rfl) ?_
      clear hK' K'
      refine AW_cond false rfl (fun h => by cases h) (fun _ => ?_)
      refine AW_rg (tyOf_good _) [0, 55] [500] (notIn_ok rfl) fun K' hK' => ?_
      repeat (refine sxf_next fun K2 hK2 => ?_; simp [dNum, rRow, rdr, dS]; (repeat (refine ⟨by omega, ?_⟩)); refine hK2 _ ?_; clear hK2 K2)
      refine sxf_next fun K2 hK2 => ?_
      simp [dNum, rRow, rdr, dS]
      refine callK.mc (k48) (by simp [dNum, rRow, rdr, dS]) (by simp [dNum, rRow, rdr, dS]) (by simp [dNum, rRow, rdr, dS]) (by simp [dNum, rRow, rdr, dS]) ?_
      simp [dNum, rRow, rdr, dS]
      refine hK2 _ ?_
      clear hK2 K2
      repeat (refine sxf_next fun K2 hK2 => ?_; simp [dNum, rRow, rdr, dS]; (repeat (refine ⟨by omega, ?_⟩)); refine hK2 _ ?_; clear hK2 K2)
      refine sxf_nil (hK' _ ?_)
      refine AW.st (by simp [dNum, rRow, rdr, dS]; rfl) ?_
      clear hK' K'
      refine AW_cond false rfl (fun h => by cases h) (fun _ => ?_)
      refine AW_rg (tyOf_good _) [0, 59] [500] (notIn_ok rfl) fun K' hK' => ?_
      repeat (refine sxf_next fun K2 hK2 => ?_; simp [dNum, rRow, rdr, dS]; (repeat (refine ⟨by omega, ?_⟩)); refine hK2 _ ?_; clear hK2 K2)
      refine sxf_next fun K2 hK2 => ?_
      simp [dNum, rRow, rdr, dS]
      refine callK.mc (k49) (by simp [dNum, rRow, rdr, dS]) (by simp [dNum, rRow, rdr, dS]) (by simp [dNum, rRow, rdr, dS]) (by simp [dNum, rRow, rdr, dS]) ?_
      simp [dNum, rRow, rdr, dS]
      refine hK2 _ ?_
      clear hK2 K2
      repeat (refine sxf_next fun K2 hK2 => ?_; simp [dNum, rRow, rdr, dS]; (repeat (refine ⟨by omega, ?_⟩)); refine hK2 _ ?_; clear hK2 K2)
      refine sxf_nil (hK' _ ?_)
      refine AW.st (by simp [dNum, rRow, rdr, dS]; rfl) ?_
      clear hK' K'
      refine AW_cond false rfl (fun h => by cases h) (fun _ => ?_)
      refine AW_rg (tyOf_good _) [0, 63] [500] (notIn_ok rfl) fun K' hK' => ?_
      repeat (refine sxf_next fun K2 hK2 => ?_; simp [dNum, rRow, rdr, dS]; (repeat (refine ⟨by omega, ?_⟩)); refine hK2 _ ?_; clear hK2 K2)
      refine sxf_next fun K2 hK2 => ?_
      simp [dNum, rRow, rdr, dS]
      refine callK.mc (k94) (by simp [dNum, rRow, rdr, dS]) (by simp [dNum, rRow, rdr, dS]) (by simp [dNum, rRow, rdr, dS]) (by simp [dNum, rRow, rdr, dS]) ?_
      simp [dNum, rRow, rdr, dS]
      refine hK2 _ ?_
      clear hK2 K2
      repeat (refine sxf_next fun K2 hK2 => ?_; simp [dNum, rRow, rdr, dS]; (repeat (refine ⟨by omega, ?_⟩)); refine hK2 _ ?_; clear hK2 K2)
      refine sxf_nil (hK' _ ?_)
      refine AW.st (by simp [dNum, rRow, rdr, dS]; rfl) ?_
      clear hK' K'
      refine AW_cond false rfl (fun h => by cases h) (fun _ => ?_)
      refine AW_rg (tyOf_good _) [0, 74] [500] (notIn_ok rfl) fun K' hK' => ?_
      repeat (refine sxf_next fun K2 hK2 => ?_; simp [dNum, rRow, rdr, dS]; (repeat (refine ⟨by omega, ?_⟩)); refine hK2 _ ?_; clear hK2 K2)
      refine sxf_next fun K2 hK2 => ?_
      simp [dNum, rRow, rdr, dS]
      refine callK.mc (k126) (by simp [dNum, rRow, rdr, dS]) (by simp [dNum, rRow, rdr, dS]) (by simp [dNum, rRow, rdr, dS]) (by simp [dNum, rRow, rdr, dS]) ?_
      simp [dNum, rRow, rdr, dS]
      refine hK2 _ ?_
      clear hK2 K2
      repeat (refine sxf_next fun K2 hK2 => ?_; simp [dNum, rRow, rdr, dS]; (repeat (refine ⟨by omega, ?_⟩)); refine hK2 _ ?_; clear hK2 K2)
      refine sxf_nil (hK' _ ?_)
      refine AW.st (by simp [dNum, rRow, rdr, dS]; rfl) ?_
      clear hK' K'
      refine AW_cond false rfl (fun h => by cases h) (fun _ => ?_)
      refine AW_skip (hK2 _ ?_)
      refine AW_rg (tyOf_good _) [14, 15] [500] (notIn_ok rfl) fun K' hK' => ?_
      repeat (refine sxf_next fun K2 hK2 => ?_; simp [dNum, rRow, rdr, dS, tupW, dErr]; (repeat (refine ⟨by omega, ?_⟩)); refine hK2 _ ?_; clear hK2 K2)
      refine sxf_next fun K2 hK2 => ?_
      simp [dNum, rRow, rdr, dS, tupW, dErr]
      refine callK.mc (hc) (by simp [dNum, rRow, rdr, dS, tupW, dErr]) (by simp [dNum, rRow, rdr, dS, tupW, dErr]) (by simp [dNum, rRow, rdr, dS, tupW, dErr]) (by simp [dNum, rRow, rdr, dS, tupW, dErr]) ?_
      simp [dNum, rRow, rdr, dS, tupW, dErr]
      refine hK2 _ ?_
      clear hK2 K2
      repeat (refine sxf_next fun K2 hK2 => ?_; simp [dNum, rRow, rdr, dS, tupW, dErr]; (repeat (refine ⟨by omega, ?_⟩)); refine hK2 _ ?_; clear hK2 K2)
      refine sxf_nil (hK' _ ?_)
      refine AW.st (by simp [dNum, rRow, rdr, dS, tupW, dErr]; rfl) ?_
      clear hK' K'
      refine AW_rg (tyOf_good _) [4, 5] [500] (notIn_ok rfl) fun K' hK' => ?_
      repeat (refine sxf_next fun K2 hK2 => ?_; simp [dNum, rRow, rdr, dS]; (repeat (refine ⟨by omega, ?_⟩)); refine hK2 _ ?_; clear hK2 K2)
      refine sxf_nil (hK' _ ?_)
      refine AW.st (by simp [dNum, rRow, rdr, dS]; rfl) ?_
      clear hK' K'
      refine AW_ret ?_
      simp [D.le, D.le.go, takeMap, dNum, rRow, rdr, dS, rRow, rdr, tupX, posR, dErr, dQ, Rs.map, bs_nil]
    | ok s p =>
      rw [hr] at hc
      refine MC.of_body (tyOf_good _) Tryd.func94 rfl rfl (rs := [.tmp 4, .tmp 5]) Tryd.results94 (by simp [Tryd.ntmps94]) rfl fun X => ?_
      simp only [Tryd.ntmps94]
      refine AW_rg (tyOf_good _) [0, 1] [500] (notIn_ok rfl) fun K' hK' => ?_
      repeat (refine sxf_next fun K2 hK2 => ?_; simp [dNum, rRow, rdr, dS]; (repeat (refine ⟨by omega, ?_⟩)); refine hK2 _ ?_; clear hK2 K2)
      refine sxf_nil (hK' _ ?_)
      refine AW.st (by simp [dNum, rRow, rdr, dS]; rfl) ?_
      clear hK' K'
      refine AW_then fun K1 hK1 => ?_
      refine AW_rg (tyOf_good _) [0, 1, 17] [500] (notIn_ok rfl) fun K' hK' => ?_
      repeat (refine sxf_next fun K2 hK2 => ?_; simp [dNum, rRow, rdr, dS, hd0]; (repeat (refine ⟨by omega, ?_⟩)); refine hK2 _ ?_; clear hK2 K2)
      refine sxf_nil (hK' _ ?_)
      refine AW.st (by simp [dNum, rRow, rdr, dS, hd0]; rfl) ?_
      clear hK' K'
      refine AW_cond false rfl (fun h => by cases h) (fun _ => ?_)
      refine AW_skip (hK1 _ ?_)
      refine AW_then fun K2 hK2 => ?_
      refine AW_block ?_
      refine AW_rg (tyOf_good _) [0, 1, 20] [500] (notIn_ok rfl) fun K' hK' => ?_
      repeat (refine sxf_next fun K2 hK2 => ?_; simp [dNum, rRow, rdr, dS]; (repeat (refine ⟨by omega, ?_⟩)); refine hK2 _ ?_; clear hK2 K2)
      refine sxf_next fun K2 hK2 => ?_
      simp [dNum, rRow, rdr, dS]
      refine callK.mc (k33) (by simp [dNum, rRow, rdr, dS]) (by simp [dNum, rRow, rdr, dS]) (by simp [dNum, rRow, rdr, dS]) (by simp [dNum, rRow, rdr, dS]) ?_
      simp [dNum, rRow, rdr, dS]
      refine hK2 _ ?_
      clear hK2 K2
      repeat (refine sxf_next fun K2 hK2 => ?_; simp [dNum, rRow, rdr, dS]; (repeat (refine ⟨by omega, ?_⟩)); refine hK2 _ ?_; clear hK2 K2)
      refine sxf_nil (hK' _ ?_)
      refine AW.st (by simp [dNum, rRow, rdr, dS]; rfl) ?_
      clear hK' K'
      refine AW_cond false rfl (fun h => by cases h) (fun _ => ?_)
      refine AW_rg (tyOf_good _) [0, 1, 36] [500] (notIn_ok rfl) fun K' hK' => ?_
      repeat (refine sxf_next fun K2 hK2 => ?_; simp [dNum, rRow, rdr, dS]; (repeat (refine ⟨by omega, ?_⟩)); refine hK2 _ ?_; clear hK2 K2)
      refine sxf_next fun K2 hK2 => ?_
      simp [dNum, rRow, rdr, dS]
      refine callK.mc (k40) (by simp [dNum, rRow, rdr, dS]) (by simp [dNum, rRow, rdr, dS]) (by simp [dNum, rRow, rdr, dS]) (by simp [dNum, rRow, rdr, dS]) ?_
      simp [dNum, rRow, rdr, dS]
      refine hK2 _ ?_
      clear hK2 K2
      repeat (refine sxf_next fun K2 hK2 => ?_; simp [dNum, rRow, rdr, dS]; (repeat (refine ⟨by omega, ?_⟩)); refine hK2 _ ?_; clear hK2 K2)
      refine sxf_nil (hK' _ ?_)
      refine AW.st (by simp [dNum, rRow, rdr, dS]; rfl) ?_
      clear hK' K'
      refine AW_cond false rfl (fun h => by cases h) (fun _ => ?_)
      refine AW_rg (tyOf_good _) [0, 55] [500] (notIn_ok rfl) fun K' hK' => ?_
      repeat (refine sxf_next fun K2 hK2 => ?_; simp [dNum, rRow, rdr, dS]; (repeat (refine ⟨by omega, ?_⟩)); refine hK2 _ ?_; clear hK2 K2)
      refine sxf_next fun K2 hK2 => ?_
      simp [dNum, rRow, rdr, dS]
      refine callK.mc (k48) (by simp [dNum, rRow, rdr, dS]) (by simp [dNum, rRow, rdr, dS]) (by simp [dNum, rRow, rdr, dS]) (by simp [dNum, rRow, rdr, dS]) ?_
      simp [dNum, rRow, rdr, dS]
      refine hK2 _ ?_
      clear hK2 K2
      repeat (refine sxf_next fun K2 hK2 => ?_; simp [dNum, rRow, rdr, dS]; (repeat (refine ⟨by omega, ?_⟩)); refine hK2 _ ?_; clear hK2 K2)
      refine sxf_nil (hK' _ ?_)
      refine AW.st (by simp [dNum, rRow, rdr, dS]; rfl) ?_
      clear hK' K'
      refine AW_cond false rfl (fun h => by cases h) (fun _ => ?_)
      refine AW_rg (tyOf_good _) [0, 59] [500] (notIn_ok rfl) fun K' hK' => ?_
      repeat (refine sxf_next fun K2 hK2 => ?_; simp [dNum, rRow, rdr, dS]; (repeat (refine ⟨by omega, ?_⟩)); refine hK2 _ ?_; clear hK2 K2)
      refine sxf_next fun K2 hK2 => ?_
      simp [dNum, rRow, rdr, dS]
      refine callK.mc (k49) (by simp [dNum, rRow, rdr, dS]) (by simp [dNum, rRow, rdr, dS]) (by simp [dNum, rRow, rdr, dS]) (by simp [dNum, rRow, rdr, dS]) ?_
      simp [dNum, rRow, rdr, dS]
      refine hK2 _ ?_
      clear hK2 K2
      repeat (refine sxf_next fun K2 hK2 => ?_; simp [dNum, rRow, rdr, dS]; (repeat (refine ⟨by omega, ?_⟩)); refine hK2 _ ?_; clear hK2 K2)
      refine sxf_nil (hK' _ ?_)
      refine AW.st (by simp [dNum, rRow, rdr, dS]; rfl) ?_
      clear hK' K'
      refine AW_cond false rfl (fun h => by cases h) (fun _ => ?_)
      refine AW_rg (tyOf_good _) [0, 63] [500] (notIn_ok rfl) fun K' hK' => ?_
      repeat (refine sxf_next fun K2 hK2 => ?_; simp [dNum, rRow, rdr, dS]; (repeat (refine ⟨by omega, ?_⟩)); refine hK2 _ ?_; clear hK2 K2)
      refine sxf_next fun K2 hK2 => ?_
      simp [dNum, rRow, rdr, dS]
      refine callK.mc (k94) (by simp [dNum, rRow, rdr, dS]) (by simp [dNum, rRow, rdr, dS]) (by simp [dNum, rRow, rdr, dS]) (by simp [dNum, rRow, rdr, dS]) ?_
      simp [dNum, rRow, rdr, dS]
      refine hK2 _ ?_
      clear hK2 K2
      repeat (refine sxf_next fun K2 hK2 => ?_; simp [dNum, rRow, rdr, dS]; (repeat (refine ⟨by omega, ?_⟩)); refine hK2 _ ?_; clear hK2 K2)
      refine sxf_nil (hK' _ ?_)
      refine AW.st (by simp [dNum, rRow, rdr, dS]; rfl) ?_
      clear hK' K'
      refine AW_cond false rfl (fun h => by cases h) (fun _ => ?_)
      refine AW_rg (tyOf_good _) [0, 74] [500] (notIn_ok rfl) fun K' hK' => ?_
      repeat (refine sxf_next fun K2 hK2 => ?_; simp [dNum, rRow, rdr, dS]; (repeat (refine ⟨by omega, ?_⟩)); refine hK2 _ ?_; clear hK2 K2)
      refine sxf_next fun K2 hK2 => ?_
      simp [dNum, rRow, rdr, dS]
      refine callK.mc (k126) (by simp [dNum, rRow, rdr, dS]) (by simp [dNum, rRow, rdr, dS]) (by simp [dNum, rRow, rdr, dS]) (by simp [dNum, rRow, rdr, dS]) ?_
      simp [dNum, rRow, rdr, dS]
      refine hK2 _ ?_
      clear hK2 K2
      repeat (refine sxf_next fun K2 hK2 => ?_; simp [dNum, rRow, rdr, dS]; (repeat (refine ⟨by omega, ?_⟩)); refine hK2 _ ?_; clear hK2 K2)
      refine sxf_nil (hK' _ ?_)
      refine AW.st (by simp [dNum, rRow, rdr, dS]; rfl) ?_
      clear hK' K'
      refine AW_cond false rfl (fun h => by cases h) (fun _ => ?_)
      refine AW_skip (hK2 _ ?_)
      refine AW_rg (tyOf_good _) [14, 15] [500] (notIn_ok rfl) fun K' hK' => ?_
      repeat (refine sxf_next fun K2 hK2 => ?_; simp [dNum, rRow, rdr, dS, tupW]; (repeat (refine ⟨by omega, ?_⟩)); refine hK2 _ ?_; clear hK2 K2)
      refine sxf_next fun K2 hK2 => ?_
      simp [dNum, rRow, rdr, dS, tupW]
      refine callK.mc (hc) (by simp [dNum, rRow, rdr, dS, tupW]) (by simp [dNum, rRow, rdr, dS, tupW]) (by simp [dNum, rRow, rdr, dS, tupW]) (by simp [dNum, rRow, rdr, dS, tupW]) ?_
      simp [dNum, rRow, rdr, dS, tupW]
      refine hK2 _ ?_
      clear hK2 K2
      repeat (refine sxf_next fun K2 hK2 => ?_; simp [dNum, rRow, rdr, dS, tupW]; (repeat (refine ⟨by omega, ?_⟩)); refine hK2 _ ?_; clear hK2 K2)
      refine sxf_nil (hK' _ ?_)
      refine AW.st (by simp [dNum, rRow, rdr, dS, tupW]; rfl) ?_
      clear hK' K'
      refine AW_rg (tyOf_good _) [4, 5] [500] (notIn_ok rfl) fun K' hK' => ?_
      repeat (refine sxf_next fun K2 hK2 => ?_; simp [dNum, rRow, rdr, dS]; (repeat (refine ⟨by omega, ?_⟩)); refine hK2 _ ?_; clear hK2 K2)
      refine sxf_nil (hK' _ ?_)
      refine AW.st (by simp [dNum, rRow, rdr, dS]; rfl) ?_
      clear hK' K'
      refine AW_ret ?_
      simp [D.le, D.le.go, takeMap, dNum, rRow, rdr, dS, rRow, rdr, tupX, posR, Rs.map, dE]
end Go.Proofs.YtfehigldhedkgaaDoor

/-
  Parse.
-/
namespace Go.Proofs.YtfehigldhedkgaaDoor
set_option linter.unusedSimpArgs false
set_option linter.unusedVariables false
open Go.Av

theorem renH_one {r r' : Nat} (h : r ≠ r') (row : Row) : renH r r' (hlst [(r, row)]) = hlst [(r', row.tr (renO r r') (renF r r'))] := by
  funext q
  unfold renH
  by_cases h1 : q = r'
  · subst h1
    simp [hlst, List.lookup]
  · rw [if_neg h1]
    by_cases h2 : q = r
    · subst h2
      simp [hlst, List.lookup, h1, beq_eq_false_iff_ne.2 h1]
    · simp [hlst, List.lookup, h2, beq_eq_false_iff_ne.2 h1, beq_eq_false_iff_ne.2 h2]
def dOE : Option Ex → D
  | some x => dE x
  | none => .v .nilIface

set_option maxHeartbeats 4000000 in
theorem parse_spec (G : Glob) (t : List UInt8) (ht : t.length < 2^60) : PureC Tryd.prog G 17 [dS t] (.tup [dOE (parseM t).1, dErr (parseM t).2]) := by
  unfold parseM
  by_cases hl : 2000 < t.length
  · have hl' : (2000 : Int) < (t.length : Int) := by omega
    rw [if_pos hl]
    refine PureC.of_body (tyOf_good _) Tryd.func17 rfl rfl (rs := [.tmp 2, .tmp 3]) Tryd.results17 (by simp [Tryd.ntmps17]) fun X => ?_
    simp only [Tryd.ntmps17, List.map]
    refine AW_rg (tyOf_good _) [0] [] (fun _ _ => trivial) fun K' hK' => ?_
    repeat (refine sxf_next fun K2 hK2 => ?_; simp [dNum, rRow, rdr, dS]; (repeat (refine ⟨by omega, ?_⟩)); refine hK2 _ ?_; clear hK2 K2)
    refine sxf_nil (hK' _ ?_)
    refine AW.st (by simp [dNum, rRow, rdr, dS]; rfl) ?_
    clear hK' K'
    refine AW_then fun K1 hK1 => ?_
    refine AW_rg (tyOf_good _) [0, 9] [] (fun _ _ => trivial) fun K' hK' => ?_
    repeat (refine sxf_next fun K2 hK2 => ?_; simp [dNum, rRow, rdr, dS, bs_size, hl, hl']; (repeat (refine ⟨by omega, ?_⟩)); refine hK2 _ ?_; clear hK2 K2)
    refine sxf_nil (hK' _ ?_)
    refine AW.st (by simp [dNum, rRow, rdr, dS, bs_size, hl, hl']; rfl) ?_
    clear hK' K'
    refine AW_cond true rfl (fun _ => ?_) (fun h => by cases h)
    refine AW_rg (tyOf_good _) [2, 3] [] (fun _ _ => trivial) fun K' hK' => ?_
    repeat (refine sxf_next fun K2 hK2 => ?_; simp [dNum, rRow, rdr, dS]; (repeat (refine ⟨by omega, ?_⟩)); refine hK2 _ ?_; clear hK2 K2)
    refine sxf_nil (hK' _ ?_)
    refine AW.st (by simp [dNum, rRow, rdr, dS]; rfl) ?_
    clear hK' K'
    refine AW_ret ?_
    simp [D.le, D.le.go, takeMap, dNum, rRow, rdr, dS, dOE, dErr]
  have hl' : ¬ (2000 : Int) < (t.length : Int) := by omega
  rw [if_neg hl]
  have hor := or_spec G t (by omega) 20 (one_spec G t (by omega) 20 (by decide)) 0 (Nat.zero_le _)
  cases hr : orR t (oneR t 20) 0 with
  | err c p q =>
    rw [hr] at hor
    refine PureC.of_body (tyOf_good _) Tryd.func17 rfl rfl (rs := [.tmp 2, .tmp 3]) Tryd.results17 (by simp [Tryd.ntmps17]) fun X => ?_
    simp only [Tryd.ntmps17, List.map]
    refine AW_rg (tyOf_good _) [0] [] (fun _ _ => trivial) fun K' hK' => ?_
    repeat (refine sxf_next fun K2 hK2 => ?_; simp [dNum, rRow, rdr, dS]; (repeat (refine ⟨by omega, ?_⟩)); refine hK2 _ ?_; clear hK2 K2)
    refine sxf_nil (hK' _ ?_)
    refine AW.st (by simp [dNum, rRow, rdr, dS]; rfl) ?_
    clear hK' K'
    refine AW_then fun K1 hK1 => ?_
    refine AW_rg (tyOf_good _) [0, 9] [] (fun _ _ => trivial) fun K' hK' => ?_
    repeat (refine sxf_next fun K2 hK2 => ?_; simp [dNum, rRow, rdr, dS, bs_size, hl, hl']; (repeat (refine ⟨by omega, ?_⟩)); refine hK2 _ ?_; clear hK2 K2)
    refine sxf_nil (hK' _ ?_)
    refine AW.st (by simp [dNum, rRow, rdr, dS, bs_size, hl, hl']; rfl) ?_
    clear hK' K'
    refine AW_cond false rfl (fun h => by cases h) (fun _ => ?_)
    refine AW_skip (hK1 _ ?_)
    refine AW_rg (tyOf_good _) [0, 4] [13] (fun _ _ => trivial) fun K' hK' => ?_
    repeat (refine sxf_next fun K2 hK2 => ?_; simp [dNum, rRow, rdr, dS]; (repeat (refine ⟨by omega, ?_⟩)); refine hK2 _ ?_; clear hK2 K2)
    refine sxf_nil (hK' _ ?_)
    refine AW.st (by simp [dNum, rRow, rdr, dS]; rfl) ?_
    clear hK' K'
    refine AW.imp (Imp.ren (r := 13) (r' := 500) trivial (by simp)) ?_
    refine AW.st (by simp [renO, renF, Go.Av.ren, renH_one]; rfl) ?_
    refine AW_rg (tyOf_good _) [0, 4, 5, 6] [500] (fun _ _ => trivial) fun K' hK' => ?_
    repeat (refine sxf_next fun K2 hK2 => ?_; simp [dNum, rRow, rdr, dS, tupX, dErr]; (repeat (refine ⟨by omega, ?_⟩)); refine hK2 _ ?_; clear hK2 K2)
    refine sxf_next fun K2 hK2 => ?_
    simp [dNum, rRow, rdr, dS, tupX, dErr]
    refine callK.mc (hor) (by simp [dNum, rRow, rdr, dS, tupX, dErr]) (by simp [dNum, rRow, rdr, dS, tupX, dErr]) (by simp [dNum, rRow, rdr, dS, tupX, dErr]) (by simp [dNum, rRow, rdr, dS, tupX, dErr]) ?_
    simp [dNum, rRow, rdr, dS, tupX, dErr]
    refine hK2 _ ?_
    clear hK2 K2
    repeat (refine sxf_next fun K2 hK2 => ?_; simp [dNum, rRow, rdr, dS, tupX, dErr]; (repeat (refine ⟨by omega, ?_⟩)); refine hK2 _ ?_; clear hK2 K2)
    refine sxf_nil (hK' _ ?_)
    refine AW.st (by simp [dNum, rRow, rdr, dS, tupX, dErr]; rfl) ?_
    clear hK' K'
    refine AW_then fun K2 hK2 => ?_
    refine AW_rg (tyOf_good _) [0, 4, 5, 6, 20] [500] (fun _ _ => trivial) fun K' hK' => ?_
    repeat (refine sxf_next fun K2 hK2 => ?_; simp [dNum, rRow, rdr, dS]; (repeat (refine ⟨by omega, ?_⟩)); refine hK2 _ ?_; clear hK2 K2)
    refine sxf_nil (hK' _ ?_)
    refine AW.st (by simp [dNum, rRow, rdr, dS]; rfl) ?_
    clear hK' K'
    refine AW_cond true rfl (fun _ => ?_) (fun h => by cases h)
    refine AW_rg (tyOf_good _) [2, 3] [] (fun _ _ => trivial) fun K' hK' => ?_
    repeat (refine sxf_next fun K2 hK2 => ?_; simp [dNum, rRow, rdr, dS]; (repeat (refine ⟨by omega, ?_⟩)); refine hK2 _ ?_; clear hK2 K2)
    refine sxf_nil (hK' _ ?_)
    refine AW.st (by simp [dNum, rRow, rdr, dS]; rfl) ?_
    clear hK' K'
    refine AW_ret ?_
    simp [D.le, D.le.go, takeMap, dNum, rRow, rdr, dS, dOE, dErr]
  | ok x k =>
    rw [hr] at hor
    have hk := (or_goes (one_goes t 20) 0 x k (Nat.zero_le _) hr).2
    have hbl := blanks_spec G t k (by omega) hk
    have htop := skipB_top hk
    have hfl := fail_spec G t (skipB t k) (by omega) htop 3
    rw [skipB_idem hk] at hfl
    obtain ⟨tx, cx, hx⟩ := dE_ifc x
    dsimp only
    generalize skipB t k = j at hbl htop hfl ⊢
    by_cases hj : j < t.length
    · have hj' : (j : Int) < (t.length : Int) := by omega
      rw [if_pos hj]
      refine PureC.of_body (tyOf_good _) Tryd.func17 rfl rfl (rs := [.tmp 2, .tmp 3]) Tryd.results17 (by simp [Tryd.ntmps17]) fun X => ?_
      simp only [Tryd.ntmps17, List.map]
      refine AW_rg (tyOf_good _) [0] [] (fun _ _ => trivial) fun K' hK' => ?_
      repeat (refine sxf_next fun K2 hK2 => ?_; simp [dNum, rRow, rdr, dS]; (repeat (refine ⟨by omega, ?_⟩)); refine hK2 _ ?_; clear hK2 K2)
      refine sxf_nil (hK' _ ?_)
      refine AW.st (by simp [dNum, rRow, rdr, dS]; rfl) ?_
      clear hK' K'
      refine AW_then fun K1 hK1 => ?_
      refine AW_rg (tyOf_good _) [0, 9] [] (fun _ _ => trivial) fun K' hK' => ?_
      repeat (refine sxf_next fun K2 hK2 => ?_; simp [dNum, rRow, rdr, dS, bs_size, hl, hl']; (repeat (refine ⟨by omega, ?_⟩)); refine hK2 _ ?_; clear hK2 K2)
      refine sxf_nil (hK' _ ?_)
      refine AW.st (by simp [dNum, rRow, rdr, dS, bs_size, hl, hl']; rfl) ?_
      clear hK' K'
      refine AW_cond false rfl (fun h => by cases h) (fun _ => ?_)
      refine AW_skip (hK1 _ ?_)
      refine AW_rg (tyOf_good _) [0, 4] [13] (fun _ _ => trivial) fun K' hK' => ?_
      repeat (refine sxf_next fun K2 hK2 => ?_; simp [dNum, rRow, rdr, dS]; (repeat (refine ⟨by omega, ?_⟩)); refine hK2 _ ?_; clear hK2 K2)
      refine sxf_nil (hK' _ ?_)
      refine AW.st (by simp [dNum, rRow, rdr, dS]; rfl) ?_
      clear hK' K'
      refine AW.imp (Imp.ren (r := 13) (r' := 500) trivial (by simp)) ?_
      refine AW.st (by simp [renO, renF, Go.Av.ren, renH_one]; rfl) ?_
      refine AW_rg (tyOf_good _) [0, 4, 5, 6] [500] (fun _ _ => trivial) fun K' hK' => ?_
      repeat (refine sxf_next fun K2 hK2 => ?_; simp [dNum, rRow, rdr, dS, tupX, posR, hx]; (repeat (refine ⟨by omega, ?_⟩)); refine hK2 _ ?_; clear hK2 K2)
      refine sxf_next fun K2 hK2 => ?_
      simp [dNum, rRow, rdr, dS, tupX, posR, hx]
      refine callK.mc (hor) (by simp [dNum, rRow, rdr, dS, tupX, posR, hx]) (by simp [dNum, rRow, rdr, dS, tupX, posR, hx]) (by simp [dNum, rRow, rdr, dS, tupX, posR, hx]) (by simp [dNum, rRow, rdr, dS, tupX, posR, hx]) ?_
      simp [dNum, rRow, rdr, dS, tupX, posR, hx]
      refine hK2 _ ?_
      clear hK2 K2
      repeat (refine sxf_next fun K2 hK2 => ?_; simp [dNum, rRow, rdr, dS, tupX, posR, hx]; (repeat (refine ⟨by omega, ?_⟩)); refine hK2 _ ?_; clear hK2 K2)
      refine sxf_nil (hK' _ ?_)
      refine AW.st (by simp [dNum, rRow, rdr, dS, tupX, posR, hx]; rfl) ?_
      clear hK' K'
      refine AW_then fun K2 hK2 => ?_
      refine AW_rg (tyOf_good _) [0, 4, 5, 6, 20] [500] (fun _ _ => trivial) fun K' hK' => ?_
      repeat (refine sxf_next fun K2 hK2 => ?_; simp [dNum, rRow, rdr, dS]; (repeat (refine ⟨by omega, ?_⟩)); refine hK2 _ ?_; clear hK2 K2)
      refine sxf_nil (hK' _ ?_)
      refine AW.st (by simp [dNum, rRow, rdr, dS]; rfl) ?_
      clear hK' K'
      refine AW_cond false rfl (fun h => by cases h) (fun _ => ?_)
      refine AW_skip (hK2 _ ?_)
      refine AW_then fun K3 hK3 => ?_
      refine AW_rg (tyOf_good _) [0, 4, 5] [500] (fun _ _ => trivial) fun K' hK' => ?_
      repeat (refine sxf_next fun K2 hK2 => ?_; simp [dNum, rRow, rdr, dS]; (repeat (refine ⟨by omega, ?_⟩)); refine hK2 _ ?_; clear hK2 K2)
      refine sxf_next fun K2 hK2 => ?_
      simp [dNum, rRow, rdr, dS]
      refine callK.mc (hbl) (by simp [dNum, rRow, rdr, dS]) (by simp [dNum, rRow, rdr, dS]) (by simp [dNum, rRow, rdr, dS]) (by simp [dNum, rRow, rdr, dS]) ?_
      simp [dNum, rRow, rdr, dS]
      refine hK2 _ ?_
      clear hK2 K2
      repeat (refine sxf_next fun K2 hK2 => ?_; simp [dNum, rRow, rdr, dS]; (repeat (refine ⟨by omega, ?_⟩)); refine hK2 _ ?_; clear hK2 K2)
      refine sxf_nil (hK' _ ?_)
      refine AW.st (by simp [dNum, rRow, rdr, dS]; rfl) ?_
      clear hK' K'
      refine AW_rg (tyOf_good _) [4, 5, 30] [500] (fun _ _ => trivial) fun K' hK' => ?_
      repeat (refine sxf_next fun K2 hK2 => ?_; simp [dNum, rRow, rdr, dS, bs_size, hj, hj']; (repeat (refine ⟨by omega, ?_⟩)); refine hK2 _ ?_; clear hK2 K2)
      refine sxf_nil (hK' _ ?_)
      refine AW.st (by simp [dNum, rRow, rdr, dS, bs_size, hj, hj']; rfl) ?_
      clear hK' K'
      refine AW_cond true rfl (fun _ => ?_) (fun h => by cases h)
      refine AW_rg (tyOf_good _) [2, 3] [] (fun _ _ => trivial) fun K' hK' => ?_
      repeat (refine sxf_next fun K2 hK2 => ?_; simp [dNum, rRow, rdr, dS, dErr]; (repeat (refine ⟨by omega, ?_⟩)); refine hK2 _ ?_; clear hK2 K2)
      refine sxf_next fun K2 hK2 => ?_
      simp [dNum, rRow, rdr, dS, dErr]
      refine callK.mc (hfl) (by simp [dNum, rRow, rdr, dS, dErr]) (by simp [dNum, rRow, rdr, dS, dErr]) (by simp [dNum, rRow, rdr, dS, dErr]) (by simp [dNum, rRow, rdr, dS, dErr]) ?_
      simp [dNum, rRow, rdr, dS, dErr]
      refine hK2 _ ?_
      clear hK2 K2
      repeat (refine sxf_next fun K2 hK2 => ?_; simp [dNum, rRow, rdr, dS, dErr]; (repeat (refine ⟨by omega, ?_⟩)); refine hK2 _ ?_; clear hK2 K2)
      refine sxf_nil (hK' _ ?_)
      refine AW.st (by simp [dNum, rRow, rdr, dS, dErr]; rfl) ?_
      clear hK' K'
      refine AW_ret ?_
      simp [D.le, D.le.go, takeMap, dNum, rRow, rdr, dS, dOE, dErr]
    · have hj' : ¬ (j : Int) < (t.length : Int) := by omega
      rw [if_neg hj]
      refine PureC.of_body (tyOf_good _) Tryd.func17 rfl rfl (rs := [.tmp 2, .tmp 3]) Tryd.results17 (by simp [Tryd.ntmps17]) fun X => ?_
      simp only [Tryd.ntmps17, List.map]
      refine AW_rg (tyOf_good _) [0] [] (fun _ _ => trivial) fun K' hK' => ?_
      repeat (refine sxf_next fun K2 hK2 => ?_; simp [dNum, rRow, rdr, dS]; (repeat (refine ⟨by omega, ?_⟩)); refine hK2 _ ?_; clear hK2 K2)
      refine sxf_nil (hK' _ ?_)
      refine AW.st (by simp [dNum, rRow, rdr, dS]; rfl) ?_
      clear hK' K'
      refine AW_then fun K1 hK1 => ?_
      refine AW_rg (tyOf_good _) [0, 9] [] (fun _ _ => trivial) fun K' hK' => ?_
      repeat (refine sxf_next fun K2 hK2 => ?_; simp [dNum, rRow, rdr, dS, bs_size, hl, hl']; (repeat (refine ⟨by omega, ?_⟩)); refine hK2 _ ?_; clear hK2 K2)
      refine sxf_nil (hK' _ ?_)
      refine AW.st (by simp [dNum, rRow, rdr, dS, bs_size, hl, hl']; rfl) ?_
      clear hK' K'
      refine AW_cond false rfl (fun h => by cases h) (fun _ => ?_)
      refine AW_skip (hK1 _ ?_)
      refine AW_rg (tyOf_good _) [0, 4] [13] (fun _ _ => trivial) fun K' hK' => ?_
      repeat (refine sxf_next fun K2 hK2 => ?_; simp [dNum, rRow, rdr, dS]; (repeat (refine ⟨by omega, ?_⟩)); refine hK2 _ ?_; clear hK2 K2)
      refine sxf_nil (hK' _ ?_)
      refine AW.st (by simp [dNum, rRow, rdr, dS]; rfl) ?_
      clear hK' K'
      refine AW.imp (Imp.ren (r := 13) (r' := 500) trivial (by simp)) ?_
      refine AW.st (by simp [renO, renF, Go.Av.ren, renH_one]; rfl) ?_
      refine AW_rg (tyOf_good _) [0, 4, 5, 6] [500] (fun _ _ => trivial) fun K' hK' => ?_
      repeat (refine sxf_next fun K2 hK2 => ?_; simp [dNum, rRow, rdr, dS, tupX, posR, hx]; (repeat (refine ⟨by omega, ?_⟩)); refine hK2 _ ?_; clear hK2 K2)
      refine sxf_next fun K2 hK2 => ?_
      simp [dNum, rRow, rdr, dS, tupX, posR, hx]
      refine callK.mc (hor) (by simp [dNum, rRow, rdr, dS, tupX, posR, hx]) (by simp [dNum, rRow, rdr, dS, tupX, posR, hx]) (by simp [dNum, rRow, rdr, dS, tupX, posR, hx]) (by simp [dNum, rRow, rdr, dS, tupX, posR, hx]) ?_
      simp [dNum, rRow, rdr, dS, tupX, posR, hx]
      refine hK2 _ ?_
      clear hK2 K2
      repeat (refine sxf_next fun K2 hK2 => ?_; simp [dNum, rRow, rdr, dS, tupX, posR, hx]; (repeat (refine ⟨by omega, ?_⟩)); refine hK2 _ ?_; clear hK2 K2)
      refine sxf_nil (hK' _ ?_)
      refine AW.st (by simp [dNum, rRow, rdr, dS, tupX, posR, hx]; rfl) ?_
      clear hK' K'
      refine AW_then fun K2 hK2 => ?_
      refine AW_rg (tyOf_good _) [0, 4, 5, 6, 20] [500] (fun _ _ => trivial) fun K' hK' => ?_
      repeat (refine sxf_next fun K2 hK2 => ?_; simp [dNum, rRow, rdr, dS]; (repeat (refine ⟨by omega, ?_⟩)); refine hK2 _ ?_; clear hK2 K2)
      refine sxf_nil (hK' _ ?_)
      refine AW.st (by simp [dNum, rRow, rdr, dS]; rfl) ?_
      clear hK' K'
      refine AW_cond false rfl (fun h => by cases h) (fun _ => ?_)
      refine AW_skip (hK2 _ ?_)
      refine AW_then fun K3 hK3 => ?_
      refine AW_rg (tyOf_good _) [0, 4, 5] [500] (fun _ _ => trivial) fun K' hK' => ?_
      repeat (refine sxf_next fun K2 hK2 => ?_; simp [dNum, rRow, rdr, dS]; (repeat (refine ⟨by omega, ?_⟩)); refine hK2 _ ?_; clear hK2 K2)
      refine sxf_next fun K2 hK2 => ?_
      simp [dNum, rRow, rdr, dS]
      refine callK.mc (hbl) (by simp [dNum, rRow, rdr, dS]) (by simp [dNum, rRow, rdr, dS]) (by simp [dNum, rRow, rdr, dS]) (by simp [dNum, rRow, rdr, dS]) ?_
      simp [dNum, rRow, rdr, dS]
      refine hK2 _ ?_
      clear hK2 K2
      repeat (refine sxf_next fun K2 hK2 => ?_; simp [dNum, rRow, rdr, dS]; (repeat (refine ⟨by omega, ?_⟩)); refine hK2 _ ?_; clear hK2 K2)
      refine sxf_nil (hK' _ ?_)
      refine AW.st (by simp [dNum, rRow, rdr, dS]; rfl) ?_
      clear hK' K'
      refine AW_rg (tyOf_good _) [4, 5, 30] [500] (fun _ _ => trivial) fun K' hK' => ?_
      repeat (refine sxf_next fun K2 hK2 => ?_; simp [dNum, rRow, rdr, dS, bs_size, hj, hj']; (repeat (refine ⟨by omega, ?_⟩)); refine hK2 _ ?_; clear hK2 K2)
      refine sxf_nil (hK' _ ?_)
      refine AW.st (by simp [dNum, rRow, rdr, dS, bs_size, hj, hj']; rfl) ?_
      clear hK' K'
      refine AW_cond false rfl (fun h => by cases h) (fun _ => ?_)
      refine AW_skip (hK3 _ ?_)
      refine AW_rg (tyOf_good _) [2, 3] [] (fun _ _ => trivial) fun K' hK' => ?_
      repeat (refine sxf_next fun K2 hK2 => ?_; simp [dNum, rRow, rdr, dS]; (repeat (refine ⟨by omega, ?_⟩)); refine hK2 _ ?_; clear hK2 K2)
      refine sxf_nil (hK' _ ?_)
      refine AW.st (by simp [dNum, rRow, rdr, dS]; rfl) ?_
      clear hK' K'
      refine AW_ret ?_
      simp [D.le, D.le.go, takeMap, dNum, rRow, rdr, dS, dOE, dErr, hx, D.le_refl]
end Go.Proofs.YtfehigldhedkgaaDoor

/-
  How great an expression is: walk, Size.
-/
namespace Go.Proofs.YtfehigldhedkgaaDoor
set_option linter.unusedSimpArgs false
set_option linter.unusedVariables false
open Go.Av

theorem bEs_take {l : List Ex} {i : Nat} (hi : i < l.length) : bEs (l.take i) + bE l[i] ≤ bEs l := by
  have h1 := bEs_app (l.take i) [l[i]]
  rw [← List.take_succ_eq_append_getElem hi] at h1
  have h2 := bEs_app (l.take (i + 1)) (l.drop (i + 1))
  rw [List.take_append_drop] at h2
  simp only [bEs] at h1
  omega

end Go.Proofs.YtfehigldhedkgaaDoor
