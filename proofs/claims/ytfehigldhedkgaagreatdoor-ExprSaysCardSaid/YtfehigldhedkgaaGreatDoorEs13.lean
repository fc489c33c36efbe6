/-
  Texts that belong together, in one file: X6, V7.
-/
import Derived.Test.YtfehigldhedkgaaGreatDoorEs12
/-
  Parse.
-/
namespace Go.Proofs.YtfehigldhedkgaaGreatDoor
set_option linter.unusedSimpArgs false
set_option linter.unusedVariables false
open Go.Av

theorem renH_one {r r' : Nat} (h : r ≠ r') (row : Row) : renH r r' (hlst [(r, row)]) = hlst [(r', row.tr (renO r r') (renF r r'))] := by
  funext q
  unfold renH
  by_cases h1 : q = r'
  · subst h1
    simp [hlst, List.lookup]
  · rw [if_neg h1]
    by_cases h2 : q = r
    · subst h2
      simp [hlst, List.lookup, h1, beq_eq_false_iff_ne.2 h1]
    · simp [hlst, List.lookup, h2, beq_eq_false_iff_ne.2 h1, beq_eq_false_iff_ne.2 h2]
def dOE : Option Ex → D
  | some x => dE x
  | none => .v .nilIface

set_option maxHeartbeats 4000000 in
theorem parse_spec (G : Glob) (t : List UInt8) (ht : t.length < 2^60) : PureC Tryz.prog G 17 [dS t] (.tup [dOE (parseM t).1, dErr (parseM t).2]) := by
  unfold parseM
  by_cases hl : 2000 < t.length
  · have hl' : (2000 : Int) < (t.length : Int) := by omega
    rw [if_pos hl]
    refine PureC.of_body (tyOf_good _) Tryz.func17 rfl rfl (rs := [.tmp 2, .tmp 3]) Tryz.results17 (by simp [Tryz.ntmps17]) fun X => ?_
    simp only [Tryz.ntmps17, List.map]
    refine AW_rg (tyOf_good _) [0] [] (fun _ _ => trivial) fun K' hK' => ?_
    repeat (refine sxf_next fun K2 hK2 => ?_; simp [dNum, rRow, rdr, dS]; (repeat (refine ⟨by omega, ?_⟩)); refine hK2 _ ?_; clear hK2 K2)
    refine sxf_nil (hK' _ ?_)
    refine AW.st (by simp [dNum, rRow, rdr, dS]; rfl) ?_
    clear hK' K'
    refine AW_then fun K1 hK1 => ?_
    refine AW_rg (tyOf_good _) [0, 9] [] (fun _ _ => trivial) fun K' hK' => ?_
    repeat (refine sxf_next fun K2 hK2 => ?_; simp [dNum, rRow, rdr, dS, bs_size, hl, hl']; (repeat (refine ⟨by omega, ?_⟩)); refine hK2 _ ?_; clear hK2 K2)
    refine sxf_nil (hK' _ ?_)
    refine AW.st (by simp [dNum, rRow, rdr, dS, bs_size, hl, hl']; rfl) ?_
    clear hK' K'
    refine AW_cond true rfl (fun _ => ?_) (fun h => by cases h)
    refine AW_rg (tyOf_good _) [2, 3] [] (fun _ _ => trivial) fun K' hK' => ?_
    repeat (refine sxf_next fun K2 hK2 => ?_; simp [dNum, rRow, rdr, dS]; (repeat (refine ⟨by omega, ?_⟩)); refine hK2 _ ?_; clear hK2 K2)
    refine sxf_nil (hK' _ ?_)
    refine AW.st (by simp [dNum, rRow, rdr, dS]; rfl) ?_
    clear hK' K'
    refine AW_ret ?_
    simp [D.le, D.le.go, takeMap, dNum, rRow, rdr, dS, dOE, dErr]
  have hl' : ¬ (2000 : Int) < (t.length : Int) := by omega
  rw [if_neg hl]
  have hor := or_spec G t (by omega) 20 (one_spec G t (by omega) 20 (by decide)) 0 (Nat.zero_le _)
  cases hr : orR t (oneR t 20) 0 with
  | err c p q =>
    rw [hr] at hor
    refine PureC.of_body (tyOf_good _) Tryz.func17 rfl rfl (rs := [.tmp 2, .tmp 3]) Tryz.results17 (by simp [Tryz.ntmps17]) fun X => ?_
    simp only [Tryz.ntmps17, List.map]
    refine AW_rg (tyOf_good _) [0] [] (fun _ _ => trivial) fun K' hK' => ?_
    repeat (refine sxf_next fun K2 hK2 => ?_; simp [dNum, rRow, rdr, dS]; (repeat (refine ⟨by omega, ?_⟩)); refine hK2 _ ?_; clear hK2 K2)
    refine sxf_nil (hK' _ ?_)
    refine AW.st (by simp [dNum, rRow, rdr, dS]; rfl) ?_
    clear hK' K'
    refine AW_then fun K1 hK1 => ?_
    refine AW_rg (tyOf_good _) [0, 9] [] (fun _ _ => trivial) fun K' hK' => ?_
    repeat (refine sxf_next fun K2 hK2 => ?_; simp [dNum, rRow, rdr, dS, bs_size, hl, hl']; (repeat (refine ⟨by omega, ?_⟩)); refine hK2 _ ?_; clear hK2 K2)
    refine sxf_nil (hK' _ ?_)
    refine AW.st (by simp [dNum, rRow, rdr, dS, bs_size, hl, hl']; rfl) ?_
    clear hK' K'
    refine AW_cond false rfl (fun h => by cases h) (fun _ => ?_)
    refine AW_skip (hK1 _ ?_)
    refine AW_rg (tyOf_good _) [0, 4] [13] (fun _ _ => trivial) fun K' hK' => ?_
    repeat (refine sxf_next fun K2 hK2 => ?_; simp [dNum, rRow, rdr, dS]; (repeat (refine ⟨by omega, ?_⟩)); refine hK2 _ ?_; clear hK2 K2)
    refine sxf_nil (hK' _ ?_)
    refine AW.st (by simp [dNum, rRow, rdr, dS]; rfl) ?_
    clear hK' K'
    refine AW.imp (Imp.ren (r := 13) (r' := 500) trivial (by simp)) ?_
    refine AW.st (by simp [renO, renF, Go.Av.ren, renH_one]; rfl) ?_
    refine AW_rg (tyOf_good _) [0, 4, 5, 6] [500] (fun _ _ => trivial) fun K' hK' => ?_
    repeat (refine sxf_next fun K2 hK2 => ?_; simp [dNum, rRow, rdr, dS, tupX, dErr]; (repeat (refine ⟨by omega, ?_⟩)); refine hK2 _ ?_; clear hK2 K2)
    refine sxf_next fun K2 hK2 => ?_
    simp [dNum, rRow, rdr, dS, tupX, dErr]
    refine callK.mc (hor) (by simp [dNum, rRow, rdr, dS, tupX, dErr]) (by simp [dNum, rRow, rdr, dS, tupX, dErr]) (by simp [dNum, rRow, rdr, dS, tupX, dErr]) (by simp [dNum, rRow, rdr, dS, tupX, dErr]) ?_
    simp [dNum, rRow, rdr, dS, tupX, dErr]
    refine hK2 _ ?_
    clear hK2 K2
    repeat (refine sxf_next fun K2 hK2 => ?_; simp [dNum, rRow, rdr, dS, tupX, dErr]; (repeat (refine ⟨by omega, ?_⟩)); refine hK2 _ ?_; clear hK2 K2)
    refine sxf_nil (hK' _ ?_)
    refine AW.st (by simp [dNum, rRow, rdr, dS, tupX, dErr]; rfl) ?_
    clear hK' K'
    refine AW_then fun K2 hK2 => ?_
    refine AW_rg (tyOf_good _) [0, 4, 5, 6, 20] [500] (fun _ _ => trivial) fun K' hK' => ?_
    repeat (refine sxf_next fun K2 hK2 => ?_; simp [dNum, rRow, rdr, dS]; (repeat (refine ⟨by omega, ?_⟩)); refine hK2 _ ?_; clear hK2 K2)
    refine sxf_nil (hK' _ ?_)
    refine AW.st (by simp [dNum, rRow, rdr, dS]; rfl) ?_
    clear hK' K'
    refine AW_cond true rfl (fun _ => ?_) (fun h => by cases h)
    refine AW_rg (tyOf_good _) [2, 3] [] (fun _ _ => trivial) fun K' hK' => ?_
    repeat (refine sxf_next fun K2 hK2 => ?_; simp [dNum, rRow, rdr, dS]; (repeat (refine ⟨by omega, ?_⟩)); refine hK2 _ ?_; clear hK2 K2)
    refine sxf_nil (hK' _ ?_)
    refine AW.st (by simp [dNum, rRow, rdr, dS]; rfl) ?_
    clear hK' K'
    refine AW_ret ?_
    simp [D.le, D.le.go, takeMap, dNum, rRow, rdr, dS, dOE, dErr]
  | ok x k =>
    rw [hr] at hor
    have hk := (or_goes (one_goes t 20) 0 x k (Nat.zero_le _) hr).2
    have hbl := blanks_spec G t k (by omega) hk
    have htop := skipB_top hk
    have hfl := fail_spec G t (skipB t k) (by omega) htop 3
    rw [skipB_idem hk] at hfl
    obtain ⟨tx, cx, hx⟩ := dE_ifc x
    dsimp only
    generalize skipB t k = j at hbl htop hfl ⊢
    by_cases hj : j < t.length
    · have hj' : (j : Int) < (t.length : Int) := by omega
      rw [if_pos hj]
      refine PureC.of_body (tyOf_good _) Tryz.func17 rfl rfl (rs := [.tmp 2, .tmp 3]) Tryz.results17 (by simp [Tryz.ntmps17]) fun X => ?_
      simp only [Tryz.ntmps17, List.map]
      refine AW_rg (tyOf_good _) [0] [] (fun _ _ => trivial) fun K' hK' => ?_
      repeat (refine sxf_next fun K2 hK2 => ?_; simp [dNum, rRow, rdr, dS]; (repeat (refine ⟨by omega, ?_⟩)); refine hK2 _ ?_; clear hK2 K2)
      refine sxf_nil (hK' _ ?_)
      refine AW.st (by simp [dNum, rRow, rdr, dS]; rfl) ?_
      clear hK' K'
      refine AW_then fun K1 hK1 => ?_
      refine AW_rg (tyOf_good _) [0, 9] [] (fun _ _ => trivial) fun K' hK' => ?_
      repeat (refine sxf_next fun K2 hK2 => ?_; simp [dNum, rRow, rdr, dS, bs_size, hl, hl']; (repeat (refine ⟨by omega, ?_⟩)); refine hK2 _ ?_; clear hK2 K2)
      refine sxf_nil (hK' _ ?_)
      refine AW.st (by simp [dNum, rRow, rdr, dS, bs_size, hl, hl']; rfl) ?_
      clear hK' K'
      refine AW_cond false rfl (fun h => by cases h) (fun _ => ?_)
      refine AW_skip (hK1 _ ?_)
      refine AW_rg (tyOf_good _) [0, 4] [13] (fun _ _ => trivial) fun K' hK' => ?_
      repeat (refine sxf_next fun K2 hK2 => ?_; simp [dNum, rRow, rdr, dS]; (repeat (refine ⟨by omega, ?_⟩)); refine hK2 _ ?_; clear hK2 K2)
      refine sxf_nil (hK' _ ?_)
      refine AW.st (by simp [dNum, rRow, rdr, dS]; rfl) ?_
      clear hK' K'
      refine AW.imp (Imp.ren (r := 13) (r' := 500) trivial (by simp)) ?_
      refine AW.st (by simp [renO, renF, Go.Av.ren, renH_one]; rfl) ?_
      refine AW_rg (tyOf_good _) [0, 4, 5, 6] [500] (fun _ _ => trivial) fun K' hK' => ?_
      repeat (refine sxf_next fun K2 hK2 => ?_; simp [dNum, rRow, rdr, dS, tupX, posR, hx]; (repeat (refine ⟨by omega, ?_⟩)); refine hK2 _ ?_; clear hK2 K2)
      refine sxf_next fun K2 hK2 => ?_
      simp [dNum, rRow, rdr, dS, tupX, posR, hx]
      refine callK.mc (hor) (by simp [dNum, rRow, rdr, dS, tupX, posR, hx]) (by simp [dNum, rRow, rdr, dS, tupX, posR, hx]) (by simp [dNum, rRow, rdr, dS, tupX, posR, hx]) (by simp [dNum, rRow, rdr, dS, tupX, posR, hx]) ?_
      simp [dNum, rRow, rdr, dS, tupX, posR, hx]
      refine hK2 _ ?_
      clear hK2 K2
      repeat (refine sxf_next fun K2 hK2 => ?_; simp [dNum, rRow, rdr, dS, tupX, posR, hx]; (repeat (refine ⟨by omega, ?_⟩)); refine hK2 _ ?_; clear hK2 K2)
      refine sxf_nil (hK' _ ?_)
      refine AW.st (by simp [dNum, rRow, rdr, dS, tupX, posR, hx]; rfl) ?_
      clear hK' K'
      refine AW_then fun K2 hK2 => ?_
      refine AW_rg (tyOf_good _) [0, 4, 5, 6, 20] [500] (fun _ _ => trivial) fun K' hK' => ?_
      repeat (refine sxf_next fun K2 hK2 => ?_; simp [dNum, rRow, rdr, dS]; (repeat (refine ⟨by omega, ?_⟩)); refine hK2 _ ?_; clear hK2 K2)
      refine sxf_nil (hK' _ ?_)
      refine AW.st (by simp [dNum, rRow, rdr, dS]; rfl) ?_
      clear hK' K'
      refine AW_cond false rfl (fun h => by cases h) (fun _ => ?_)
      refine AW_skip (hK2 _ ?_)
      refine AW_then fun K3 hK3 => ?_
      refine AW_rg (tyOf_good _) [0, 4, 5] [500] (fun _ _ => trivial) fun K' hK' => ?_
      repeat (refine sxf_next fun K2 hK2 => ?_; simp [dNum, rRow, rdr, dS]; (repeat (refine ⟨by omega, ?_⟩)); refine hK2 _ ?_; clear hK2 K2)
      refine sxf_next fun K2 hK2 => ?_
      simp [dNum, rRow, rdr, dS]
      refine callK.mc (hbl) (by simp [dNum, rRow, rdr, dS]) (by simp [dNum, rRow, rdr, dS]) (by simp [dNum, rRow, rdr, dS]) (by simp [dNum, rRow, rdr, dS]) ?_
      simp [dNum, rRow, rdr, dS]
      refine hK2 _ ?_
      clear hK2 K2
      repeat (refine sxf_next fun K2 hK2 => ?_; simp [dNum, rRow, rdr, dS]; (repeat (refine ⟨by omega, ?_⟩)); refine hK2 _ ?_; clear hK2 K2)
      refine sxf_nil (hK' _ ?_)
      refine AW.st (by simp [dNum, rRow, rdr, dS]; rfl) ?_
      clear hK' K'
      refine AW_rg (tyOf_good _) [4, 5, 30] [500] (fun _ _ => trivial) fun K' hK' => ?_
      repeat (refine sxf_next fun K2 hK2 => ?_; simp [dNum, rRow, rdr, dS, bs_size, hj, hj']; (repeat (refine ⟨by omega, ?_⟩)); refine hK2 _ ?_; clear hK2 K2)
      refine sxf_nil (hK' _ ?_)
      refine AW.st (by simp [dNum, rRow, rdr, dS, bs_size, hj, hj']; rfl) ?_
      clear hK' K'
      refine AW_cond true rfl (fun _ => ?_) (fun h => by cases h)
      refine AW_rg (tyOf_good _) [2, 3] [] (fun _ _ => trivial) fun K' hK' => ?_
      repeat (refine sxf_next fun K2 hK2 => ?_; simp [dNum, rRow, rdr, dS, dErr]; (repeat (refine ⟨by omega, ?_⟩)); refine hK2 _ ?_; clear hK2 K2)
      refine sxf_next fun K2 hK2 => ?_
      simp [dNum, rRow, rdr, dS, dErr]
      refine callK.mc (hfl) (by simp [dNum, rRow, rdr, dS, dErr]) (by simp [dNum, rRow, rdr, dS, dErr]) (by simp [dNum, rRow, rdr, dS, dErr]) (by simp [dNum, rRow, rdr, dS, dErr]) ?_
      simp [dNum, rRow, rdr, dS, dErr]
      refine hK2 _ ?_
      clear hK2 K2
      repeat (refine sxf_next fun K2 hK2 => ?_; simp [dNum, rRow, rdr, dS, dErr]; (repeat (refine ⟨by omega, ?_⟩)); refine hK2 _ ?_; clear hK2 K2)
      refine sxf_nil (hK' _ ?_)
      refine AW.st (by simp [dNum, rRow, rdr, dS, dErr]; rfl) ?_
      clear hK' K'
      refine AW_ret ?_
      simp [D.le, D.le.go, takeMap, dNum, rRow, rdr, dS, dOE, dErr]
    · have hj' : ¬ (j : Int) < (t.length : Int) := by omega
      rw [if_neg hj]
      refine PureC.of_body (tyOf_good _) Tryz.func17 rfl rfl (rs := [.tmp 2, .tmp 3]) Tryz.results17 (by simp [Tryz.ntmps17]) fun X => ?_
      simp only [Tryz.ntmps17, List.map]
      refine AW_rg (tyOf_good _) [0] [] (fun _ _ => trivial) fun K' hK' => ?_
      repeat (refine sxf_next fun K2 hK2 => ?_; simp [dNum, rRow, rdr, dS]; (repeat (refine ⟨by omega, ?_⟩)); refine hK2 _ ?_; clear hK2 K2)
      refine sxf_nil (hK' _ ?_)
      refine AW.st (by simp [dNum, rRow, rdr, dS]; rfl) ?_
      clear hK' K'
      refine AW_then fun K1 hK1 => ?_
      refine AW_rg (tyOf_good _) [0, 9] [] (fun _ _ => trivial) fun K' hK' => ?_
      repeat (refine sxf_next fun K2 hK2 => ?_; simp [dNum, rRow, rdr, dS, bs_size, hl, hl']; (repeat (refine ⟨by omega, ?_⟩)); refine hK2 _ ?_; clear hK2 K2)
      refine sxf_nil (hK' _ ?_)
      refine AW.st (by simp [dNum, rRow, rdr, dS, bs_size, hl, hl']; rfl) ?_
      clear hK' K'
      refine AW_cond false rfl (fun h => by cases h) (fun _ => ?_)
      refine AW_skip (hK1 _ ?_)
      refine AW_rg (tyOf_good _) [0, 4] [13] (fun _ _ => trivial) fun K' hK' => ?_
      repeat (refine sxf_next fun K2 hK2 => ?_; simp [dNum, rRow, rdr, dS]; (repeat (refine ⟨by omega, ?_⟩)); refine hK2 _ ?_; clear hK2 K2)
      refine sxf_nil (hK' _ ?_)
      refine AW.st (by simp [dNum, rRow, rdr, dS]; rfl) ?_
      clear hK' K'
      refine AW.imp (Imp.ren (r := 13) (r' := 500) trivial (by simp)) ?_
      refine AW.st (by simp [renO, renF, Go.Av.ren, renH_one]; rfl) ?_
      refine AW_rg (tyOf_good _) [0, 4, 5, 6] [500] (fun _ _ => trivial) fun K' hK' => ?_
      repeat (refine sxf_next fun K2 hK2 => ?_; simp [dNum, rRow, rdr, dS, tupX, posR, hx]; (repeat (refine ⟨by omega, ?_⟩)); refine hK2 _ ?_; clear hK2 K2)
      refine sxf_next fun K2 hK2 => ?_
      simp [dNum, rRow, rdr, dS, tupX, posR, hx]
      refine callK.mc (hor) (by simp [dNum, rRow, rdr, dS, tupX, posR, hx]) (by simp [dNum, rRow, rdr, dS, tupX, posR, hx]) (by simp [dNum, rRow, rdr, dS, tupX, posR, hx]) (by simp [dNum, rRow, rdr, dS, tupX, posR, hx]) ?_
      simp [dNum, rRow, rdr, dS, tupX, posR, hx]
      refine hK2 _ ?_
      clear hK2 K2
      repeat (refine sxf_next fun K2 hK2 => ?_; simp [dNum, rRow, rdr, dS, tupX, posR, hx]; (repeat (refine ⟨by omega, ?_⟩)); refine hK2 _ ?_; clear hK2 K2)
      refine sxf_nil (hK' _ ?_)
      refine AW.st (by simp [dNum, rRow, rdr, dS, tupX, posR, hx]; rfl) ?_
      clear hK' K'
      refine AW_then fun K2 hK2 => ?_
      refine AW_rg (tyOf_good _) [0, 4, 5, 6, 20] [500] (fun _ _ => trivial) fun K' hK' => ?_
      repeat (refine sxf_next fun K2 hK2 => ?_; simp [dNum, rRow, rdr, dS]; (repeat (refine ⟨by omega, ?_⟩)); refine hK2 _ ?_; clear hK2 K2)
      refine sxf_nil (hK' _ ?_)
      refine AW.st (by simp [dNum, rRow, rdr, dS]; rfl) ?_
      clear hK' K'
      refine AW_cond false rfl (fun h => by cases h) (fun _ => ?_)
      refine AW_skip (hK2 _ ?_)
      refine AW_then fun K3 hK3 => ?_
      refine AW_rg (tyOf_good _) [0, 4, 5] [500] (fun _ _ => trivial) fun K' hK' => ?_
      repeat (refine sxf_next fun K2 hK2 => ?_; simp [dNum, rRow, rdr, dS]; (repeat (refine ⟨by omega, ?_⟩)); refine hK2 _ ?_; clear hK2 K2)
      refine sxf_next fun K2 hK2 => ?_
      simp [dNum, rRow, rdr, dS]
      refine callK.mc (hbl) (by simp [dNum, rRow, rdr, dS]) (by simp [dNum, rRow, rdr, dS]) (by simp [dNum, rRow, rdr, dS]) (by simp [dNum, rRow, rdr, dS]) ?_
      simp [dNum, rRow, rdr, dS]
      refine hK2 _ ?_
      clear hK2 K2
      repeat (refine sxf_next fun K2 hK2 => ?_; simp [dNum, rRow, rdr, dS]; (repeat (refine ⟨by omega, ?_⟩)); refine hK2 _ ?_; clear hK2 K2)
      refine sxf_nil (hK' _ ?_)
      refine AW.st (by simp [dNum, rRow, rdr, dS]; rfl) ?_
      clear hK' K'
      refine AW_rg (tyOf_good _) [4, 5, 30] [500] (fun _ _ => trivial) fun K' hK' => ?_
      repeat (refine sxf_next fun K2 hK2 => ?_; simp [dNum, rRow, rdr, dS, bs_size, hj, hj']; (repeat (refine ⟨by omega, ?_⟩)); refine hK2 _ ?_; clear hK2 K2)
      refine sxf_nil (hK' _ ?_)
      refine AW.st (by simp [dNum, rRow, rdr, dS, bs_size, hj, hj']; rfl) ?_
      clear hK' K'
      refine AW_cond false rfl (fun h => by cases h) (fun _ => ?_)
      refine AW_skip (hK3 _ ?_)
      refine AW_rg (tyOf_good _) [2, 3] [] (fun _ _ => trivial) fun K' hK' => ?_
      repeat (refine sxf_next fun K2 hK2 => ?_; simp [dNum, rRow, rdr, dS]; (repeat (refine ⟨by omega, ?_⟩)); refine hK2 _ ?_; clear hK2 K2)
      refine sxf_nil (hK' _ ?_)
      refine AW.st (by simp [dNum, rRow, rdr, dS]; rfl) ?_
      clear hK' K'
      refine AW_ret ?_
      simp [D.le, D.le.go, takeMap, dNum, rRow, rdr, dS, dOE, dErr, hx, D.le_refl]
end Go.Proofs.YtfehigldhedkgaaGreatDoor

/-
  How great an expression is: walk, Size.
-/
namespace Go.Proofs.YtfehigldhedkgaaGreatDoor
set_option linter.unusedSimpArgs false
set_option linter.unusedVariables false
open Go.Av

theorem szN_b : ∀ (n : Nat) (e : Ex), SizeOf.sizeOf e ≤ n → szN e ≤ bE e
  | 0, e, hn => by cases e <;> simp at hn
  | n + 1, e, hn => by
    have many : ∀ l : List Ex, (∀ x ∈ l, SizeOf.sizeOf x ≤ n) → szNs l ≤ bEs l := by
      intro l
      induction l with
      | nil => intro _; simp [szNs]
      | cons x l ih =>
        intro h
        have a := ih fun y hy => h y (by simp [hy])
        have b := szN_b n x (h x (by simp))
        simp only [szNs, bEs]
        omega
    cases e with
    | not x => have := szN_b n x (by simp at hn; omega); simp only [szN, bE]; omega
    | and l => have := many l fun x hx => by have := List.sizeOf_lt_of_mem hx; simp only [Ex.and.sizeOf_spec] at hn; omega
               simp only [szN, bE]; omega
    | or l => have := many l fun x hx => by have := List.sizeOf_lt_of_mem hx; simp only [Ex.or.sizeOf_spec] at hn; omega
              simp only [szN, bE]; omega
    | cst b => simp [szN, bE]
    | bit s => simp only [szN, bE]; omega
    | rise s => simp only [szN, bE]; omega
    | fall s => simp only [szN, bE]; omega
theorem size_b (e : Ex) : szN e ≤ bE e := szN_b _ e (Nat.le_refl _)
theorem szNs_take {l : List Ex} {i : Nat} (hi : i < l.length) : szNs (l.take (i + 1)) = szNs (l.take i) + szN l[i] := by
  rw [List.take_succ_eq_append_getElem hi, szNs_app]
  simp [szNs]
theorem szNs_le (l : List Ex) (i : Nat) : szNs (l.take i) ≤ szNs l := by
  have := szNs_app (l.take i) (l.drop i)
  rw [List.take_append_drop] at this
  omega

theorem szNs_bs : ∀ l : List Ex, szNs l ≤ bEs l
  | [] => by simp [szNs]
  | e :: l => by have := size_b e; have := szNs_bs l; simp only [szNs, bEs]; omega
theorem bEs_take {l : List Ex} {i : Nat} (hi : i < l.length) : bEs (l.take i) + bE l[i] ≤ bEs l := by
  have h1 := bEs_app (l.take i) [l[i]]
  rw [← List.take_succ_eq_append_getElem hi] at h1
  have h2 := bEs_app (l.take (i + 1)) (l.drop (i + 1))
  rw [List.take_append_drop] at h2
  simp only [bEs] at h1
  omega

theorem size1_spec (G : Glob) (n : Int) (h0 : 0 ≤ n) (hn : n < 2^60) (t : TypeId) (c : D) : MC Tryz.prog G [501] 27 [.d (.ifc t c), .ref 501 0 0] (hlst [(501, .box 3 [int n])]) (.d (.tup [])) (hlst [(501, .box 3 [int (n + 1)])]) := by
  refine MC.of_body (tyOf_good _) Tryz.func27 rfl rfl (rs := []) Tryz.results27 (by simp [Tryz.ntmps27]) rfl fun X => ?_
  simp only [Tryz.ntmps27]
  refine AW_re (tyOf_good _) fun K' hK' => ?_
  repeat (refine sxf_next fun K2 hK2 => ?_; simp [dNum, dS, pairA, assertA]; (repeat (refine ⟨by omega, ?_⟩)); refine hK2 _ ?_; clear hK2 K2)
  refine sxf_nil (hK' _ ?_)
  clear hK' K'
  try simp only [thn, inb]
  simp [D.le_refl]

set_option maxHeartbeats 16000000 in
theorem walkS_at (G : Glob) : ∀ (m : Nat) (e : Ex), SizeOf.sizeOf e ≤ m → ∀ n : Int, 0 ≤ n → n + bE e ≤ 2^50 → MC Tryz.prog G [501] 26 [.d (dE e), .fn (.func 27) [.ref 501 0 0]] (hlst [(501, .box 3 [int n])]) (.d (.tup [])) (hlst [(501, .box 3 [int (n + szN e)])]) := by
  intro m
  induction m with
  | zero => intro e hsz; cases e <;> simp at hsz
  | succ m ih =>
    intro e hsz n h0 hb
    have hbp := bE_pos e
    by_cases hN : ∃ x, e = .not x
    · obtain ⟨x, rfl⟩ := hN
      simp only [bE] at hb
      obtain ⟨tx, cx, hx⟩ := dE_ifc x
      have hs1 := size1_spec G n h0 (by omega) 52 (.agg [dE x])
      have hc := ih x (by simp at hsz; omega) (n + 1) (by omega) (by omega)
      have hsz2 : (n + (szN (.not x) : Nat) : Int) = n + 1 + (szN x : Nat) := by simp only [szN]; omega
      rw [hsz2]
      rw [dE, hx]
      rw [hx] at hs1 hc
      generalize ((szN x : Nat) : Int) = z at hc ⊢
      refine MC.of_body (tyOf_good _) Tryz.func26 rfl rfl (rs := []) Tryz.results26 (by simp [Tryz.ntmps26]) rfl fun X => ?_
      simp only [Tryz.ntmps26]
      refine AW_rg (tyOf_good _) [0, 1] [501] (notIn_ok rfl) fun K' hK' => ?_
      repeat (refine sxf_next fun K2 hK2 => ?_; simp [dNum, dS, pairA, assertA]; (repeat (refine ⟨by omega, ?_⟩)); refine hK2 _ ?_; clear hK2 K2)
      refine sxf_next fun K2 hK2 => ?_
      simp [dNum, dS, pairA, assertA]
      refine callK.mc (hs1) (by simp [dNum, dS, pairA, assertA]) (by simp [dNum, dS, pairA, assertA]) (by simp [dNum, dS, pairA, assertA]) (by simp [dNum, dS, pairA, assertA]) ?_
      simp [dNum, dS, pairA, assertA]
      refine hK2 _ ?_
      clear hK2 K2
      repeat (refine sxf_next fun K2 hK2 => ?_; simp [dNum, dS, pairA, assertA]; (repeat (refine ⟨by omega, ?_⟩)); refine hK2 _ ?_; clear hK2 K2)
      refine sxf_nil (hK' _ ?_)
      refine AW.st (by simp [dNum, dS, pairA, assertA]; rfl) ?_
      clear hK' K'
      refine AW_rg (tyOf_good _) [1, 14] [501] (notIn_ok rfl) fun K' hK' => ?_
      repeat (refine sxf_next fun K2 hK2 => ?_; simp [dNum, dS, pairA, assertA]; (repeat (refine ⟨by omega, ?_⟩)); refine hK2 _ ?_; clear hK2 K2)
      refine sxf_nil (hK' _ ?_)
      refine AW.st (by simp [dNum, dS, pairA, assertA]; rfl) ?_
      clear hK' K'
      refine AW_block ?_
      refine AW_rg (tyOf_good _) [1, 14, 16, 17] [501] (notIn_ok rfl) fun K' hK' => ?_
      repeat (refine sxf_next fun K2 hK2 => ?_; simp [dNum, dS, pairA, assertA]; (repeat (refine ⟨by omega, ?_⟩)); refine hK2 _ ?_; clear hK2 K2)
      refine sxf_nil (hK' _ ?_)
      refine AW.st (by simp [dNum, dS, pairA, assertA]; rfl) ?_
      clear hK' K'
      refine AW_cond true rfl (fun _ => ?_) (fun h => by cases h)
      refine AW_rg (tyOf_good _) [1, 4] [4, 501] (notIn_ok rfl) fun K' hK' => ?_
      repeat (refine sxf_next fun K2 hK2 => ?_; simp [dNum, dS, pairA, assertA]; (repeat (refine ⟨by omega, ?_⟩)); refine hK2 _ ?_; clear hK2 K2)
      refine sxf_nil (hK' _ ?_)
      refine AW.st (by simp [dNum, dS, pairA, assertA]; rfl) ?_
      clear hK' K'
      refine AW_re (tyOf_good _) fun K' hK' => ?_
      repeat (refine sxf_next fun K2 hK2 => ?_; simp [dNum, dS, pairA, assertA]; (repeat (refine ⟨by omega, ?_⟩)); refine hK2 _ ?_; clear hK2 K2)
      refine sxf_next fun K2 hK2 => ?_
      simp [dNum, dS, pairA, assertA]
      refine callK.mc (hc) (by simp [dNum, dS, pairA, assertA]) (by simp [dNum, dS, pairA, assertA]) (by simp [dNum, dS, pairA, assertA]) (by simp [dNum, dS, pairA, assertA]) ?_
      simp [dNum, dS, pairA, assertA]
      refine hK2 _ ?_
      clear hK2 K2
      repeat (refine sxf_next fun K2 hK2 => ?_; simp [dNum, dS, pairA, assertA]; (repeat (refine ⟨by omega, ?_⟩)); refine hK2 _ ?_; clear hK2 K2)
      refine sxf_nil (hK' _ ?_)
      clear hK' K'
      try simp only [thn, inb]
      simp [D.le_refl]
    by_cases hand : ∃ l, e = .and l
    · obtain ⟨l, rfl⟩ := hand
      simp only [bE] at hb
      have hs1 := size1_spec G n h0 (by omega) 54 (.sl none (l.map fun e => [dE e]))
      have hch := fun (x : Ex) (hx : x ∈ l) => ih x (by have := List.sizeOf_lt_of_mem hx; simp only [Ex.and.sizeOf_spec] at hsz; omega)
      have hln := bEs_len l
      have hsb := szNs_bs l
      have hsz2 : (n + (szN (.and l) : Nat) : Int) = n + 1 + (szNs l : Nat) := by simp only [szN]; omega
      rw [hsz2]
      rw [dE, dEs_map]
      clear ih
      refine MC.of_body (tyOf_good _) Tryz.func26 rfl rfl (rs := []) Tryz.results26 (by simp [Tryz.ntmps26]) rfl fun X => ?_
      simp only [Tryz.ntmps26]
      refine AW_rg (tyOf_good _) [0, 1] [501] (notIn_ok rfl) fun K' hK' => ?_
      repeat (refine sxf_next fun K2 hK2 => ?_; simp [dNum, dS, pairA, assertA]; (repeat (refine ⟨by omega, ?_⟩)); refine hK2 _ ?_; clear hK2 K2)
      refine sxf_next fun K2 hK2 => ?_
      simp [dNum, dS, pairA, assertA]
      refine callK.mc (hs1) (by simp [dNum, dS, pairA, assertA]) (by simp [dNum, dS, pairA, assertA]) (by simp [dNum, dS, pairA, assertA]) (by simp [dNum, dS, pairA, assertA]) ?_
      simp [dNum, dS, pairA, assertA]
      refine hK2 _ ?_
      clear hK2 K2
      repeat (refine sxf_next fun K2 hK2 => ?_; simp [dNum, dS, pairA, assertA]; (repeat (refine ⟨by omega, ?_⟩)); refine hK2 _ ?_; clear hK2 K2)
      refine sxf_nil (hK' _ ?_)
      refine AW.st (by simp [dNum, dS, pairA, assertA]; rfl) ?_
      clear hK' K'
      refine AW_rg (tyOf_good _) [1, 14] [501] (notIn_ok rfl) fun K' hK' => ?_
      repeat (refine sxf_next fun K2 hK2 => ?_; simp [dNum, dS, pairA, assertA]; (repeat (refine ⟨by omega, ?_⟩)); refine hK2 _ ?_; clear hK2 K2)
      refine sxf_nil (hK' _ ?_)
      refine AW.st (by simp [dNum, dS, pairA, assertA]; rfl) ?_
      clear hK' K'
      refine AW_block ?_
      refine AW_rg (tyOf_good _) [1, 14, 16, 17] [501] (notIn_ok rfl) fun K' hK' => ?_
      repeat (refine sxf_next fun K2 hK2 => ?_; simp [dNum, dS, pairA, assertA]; (repeat (refine ⟨by omega, ?_⟩)); refine hK2 _ ?_; clear hK2 K2)
      refine sxf_nil (hK' _ ?_)
      refine AW.st (by simp [dNum, dS, pairA, assertA]; rfl) ?_
      clear hK' K'
      refine AW_cond false rfl (fun h => by cases h) (fun _ => ?_)
      refine AW_rg (tyOf_good _) [1, 14, 23, 24] [501] (notIn_ok rfl) fun K' hK' => ?_
      repeat (refine sxf_next fun K2 hK2 => ?_; simp [dNum, dS, pairA, assertA]; (repeat (refine ⟨by omega, ?_⟩)); refine hK2 _ ?_; clear hK2 K2)
      refine sxf_nil (hK' _ ?_)
      refine AW.st (by simp [dNum, dS, pairA, assertA]; rfl) ?_
      clear hK' K'
      refine AW_cond true rfl (fun _ => ?_) (fun h => by cases h)
      refine AW_rg (tyOf_good _) [1, 5] [501] (notIn_ok rfl) fun K' hK' => ?_
      repeat (refine sxf_next fun K2 hK2 => ?_; simp [dNum, dS, pairA, assertA]; (repeat (refine ⟨by omega, ?_⟩)); refine hK2 _ ?_; clear hK2 K2)
      refine sxf_nil (hK' _ ?_)
      refine AW.st (by simp [dNum, dS, pairA, assertA]; rfl) ?_
      clear hK' K'
      refine AW_rg (tyOf_good _) [1, 25, 26, 27] [501] (notIn_ok rfl) fun K' hK' => ?_
      repeat (refine sxf_next fun K2 hK2 => ?_; simp [dNum, dS, pairA, assertA]; (repeat (refine ⟨by omega, ?_⟩)); refine hK2 _ ?_; clear hK2 K2)
      refine sxf_nil (hK' _ ?_)
      refine AW.st (by simp [dNum, dS, pairA, assertA]; rfl) ?_
      clear hK' K'
      refine AW_for (S := Nat) (fun i => i ≤ l.length) (fun i => ⟨lst [(1, .fn (.func 27) [.ref 501 0 0]), (25, .d (.sl none (l.map fun e => [dE e]))), (26, int l.length), (27, int i)], hlst [(501, .box 3 [int (n + 1 + (szNs (l.take i) : Nat))])]⟩) (fun i => l.length - i) 0 ?_ (by omega) ?_
      · refine Imp.to' (notIn_ok rfl) (by simp [dNum, dS, pairA, assertA, szNs]) (by simp [dNum, dS, pairA, assertA, szNs])
      · intro i hi
        refine AW_rg (tyOf_good _) [1, 25, 26, 27, 28] [501] (notIn_ok rfl) fun K' hK' => ?_
        repeat (refine sxf_next fun K2 hK2 => ?_; simp [dNum, dS, pairA, assertA]; (repeat (refine ⟨by omega, ?_⟩)); refine hK2 _ ?_; clear hK2 K2)
        refine sxf_nil (hK' _ ?_)
        refine AW.st (by simp [dNum, dS, pairA, assertA]; rfl) ?_
        clear hK' K'
        refine AW_then fun K1 hK1 => ?_
        refine AW_cond' (b := i < l.length) (by simp [D.le, D.le.go, takeMap, dNum, dS, pairA, assertA]) (fun hc => ?_) (fun hc => ?_)
        · have hil : i < l.length := hc
          have h1 := szNs_take hil
          have h2 := szNs_bs (l.take i)
          have h3 := bEs_take hil
          have hcc := hch _ (List.getElem_mem hil) (n + 1 + (szNs (l.take i) : Nat)) (by omega) (by omega)
          have h4 : (n + 1 + (szNs (l.take i) : Nat) : Int) + (szN l[i] : Nat) = n + 1 + (szNs (l.take (i + 1)) : Nat) := by omega
          rw [h4] at hcc
          obtain ⟨tx, cx, hx⟩ := dE_ifc l[i]
          rw [hx] at hcc
          refine AW_skip (hK1 _ ?_)
          refine AW_then fun K2 hK2 => ?_
          refine AW_block ?_
          refine AW_rg (tyOf_good _) [1, 7, 25, 26, 27] [501] (notIn_ok rfl) fun K' hK' => ?_
          repeat (refine sxf_next fun K2 hK2 => ?_; simp [dNum, dS, pairA, assertA, hil, hx]; (repeat (refine ⟨by omega, ?_⟩)); refine hK2 _ ?_; clear hK2 K2)
          refine sxf_nil (hK' _ ?_)
          refine AW.st (by simp [dNum, dS, pairA, assertA, hil, hx]; rfl) ?_
          clear hK' K'
          refine AW_re (tyOf_good _) fun K' hK' => ?_
          repeat (refine sxf_next fun K2 hK2 => ?_; simp [dNum, dS, pairA, assertA]; (repeat (refine ⟨by omega, ?_⟩)); refine hK2 _ ?_; clear hK2 K2)
          refine sxf_next fun K2 hK2 => ?_
          simp [dNum, dS, pairA, assertA]
          refine callK.mc (hcc) (by simp [dNum, dS, pairA, assertA]) (by simp [dNum, dS, pairA, assertA]) (by simp [dNum, dS, pairA, assertA]) (by simp [dNum, dS, pairA, assertA]) ?_
          simp [dNum, dS, pairA, assertA]
          refine hK2 _ ?_
          clear hK2 K2
          repeat (refine sxf_next fun K2 hK2 => ?_; simp [dNum, dS, pairA, assertA]; (repeat (refine ⟨by omega, ?_⟩)); refine hK2 _ ?_; clear hK2 K2)
          refine sxf_nil (hK' _ ?_)
          clear hK' K'
          refine hK2 _ (AW.norm [1, 25, 26, 27] [501] (notIn_ok rfl) (AW.st (by simp [dNum, dS, pairA, assertA]; rfl) ?_))
          refine AW_re (tyOf_good _) fun K' hK' => ?_
          repeat (refine sxf_next fun K2 hK2 => ?_; simp [dNum, dS, pairA, assertA]; (repeat (refine ⟨by omega, ?_⟩)); refine hK2 _ ?_; clear hK2 K2)
          refine sxf_nil (hK' _ ?_)
          clear hK' K'
          try simp only [thn, inb]
          refine Again.mk (i + 1) (by omega) (by omega) ?_
          refine Imp.to' (notIn_ok rfl) (by simp [dNum, dS, pairA, assertA]) (by simp [dNum, dS, pairA, assertA])
        · obtain rfl : i = l.length := by omega
          refine AW_exit ?_
          simp [D.le_refl, List.take_length]
    by_cases hor : ∃ l, e = .or l
    · obtain ⟨l, rfl⟩ := hor
      simp only [bE] at hb
      have hs1 := size1_spec G n h0 (by omega) 57 (.sl none (l.map fun e => [dE e]))
      have hch := fun (x : Ex) (hx : x ∈ l) => ih x (by have := List.sizeOf_lt_of_mem hx; simp only [Ex.or.sizeOf_spec] at hsz; omega)
      have hln := bEs_len l
      have hsb := szNs_bs l
      have hsz2 : (n + (szN (.or l) : Nat) : Int) = n + 1 + (szNs l : Nat) := by simp only [szN]; omega
      rw [hsz2]
      rw [dE, dEs_map]
      clear ih
      refine MC.of_body (tyOf_good _) Tryz.func26 rfl rfl (rs := []) Tryz.results26 (by simp [Tryz.ntmps26]) rfl fun X => ?_
      simp only [Tryz.ntmps26]
      refine AW_rg (tyOf_good _) [0, 1] [501] (notIn_ok rfl) fun K' hK' => ?_
      repeat (refine sxf_next fun K2 hK2 => ?_; simp [dNum, dS, pairA, assertA]; (repeat (refine ⟨by omega, ?_⟩)); refine hK2 _ ?_; clear hK2 K2)
      refine sxf_next fun K2 hK2 => ?_
      simp [dNum, dS, pairA, assertA]
      refine callK.mc (hs1) (by simp [dNum, dS, pairA, assertA]) (by simp [dNum, dS, pairA, assertA]) (by simp [dNum, dS, pairA, assertA]) (by simp [dNum, dS, pairA, assertA]) ?_
      simp [dNum, dS, pairA, assertA]
      refine hK2 _ ?_
      clear hK2 K2
      repeat (refine sxf_next fun K2 hK2 => ?_; simp [dNum, dS, pairA, assertA]; (repeat (refine ⟨by omega, ?_⟩)); refine hK2 _ ?_; clear hK2 K2)
      refine sxf_nil (hK' _ ?_)
      refine AW.st (by simp [dNum, dS, pairA, assertA]; rfl) ?_
      clear hK' K'
      refine AW_rg (tyOf_good _) [1, 14] [501] (notIn_ok rfl) fun K' hK' => ?_
      repeat (refine sxf_next fun K2 hK2 => ?_; simp [dNum, dS, pairA, assertA]; (repeat (refine ⟨by omega, ?_⟩)); refine hK2 _ ?_; clear hK2 K2)
      refine sxf_nil (hK' _ ?_)
      refine AW.st (by simp [dNum, dS, pairA, assertA]; rfl) ?_
      clear hK' K'
      refine AW_block ?_
      refine AW_rg (tyOf_good _) [1, 14, 16, 17] [501] (notIn_ok rfl) fun K' hK' => ?_
      repeat (refine sxf_next fun K2 hK2 => ?_; simp [dNum, dS, pairA, assertA]; (repeat (refine ⟨by omega, ?_⟩)); refine hK2 _ ?_; clear hK2 K2)
      refine sxf_nil (hK' _ ?_)
      refine AW.st (by simp [dNum, dS, pairA, assertA]; rfl) ?_
      clear hK' K'
      refine AW_cond false rfl (fun h => by cases h) (fun _ => ?_)
      refine AW_rg (tyOf_good _) [1, 14, 23, 24] [501] (notIn_ok rfl) fun K' hK' => ?_
      repeat (refine sxf_next fun K2 hK2 => ?_; simp [dNum, dS, pairA, assertA]; (repeat (refine ⟨by omega, ?_⟩)); refine hK2 _ ?_; clear hK2 K2)
      refine sxf_nil (hK' _ ?_)
      refine AW.st (by simp [dNum, dS, pairA, assertA]; rfl) ?_
      clear hK' K'
      refine AW_cond false rfl (fun h => by cases h) (fun _ => ?_)
      refine AW_rg (tyOf_good _) [1, 36, 37] [501] (notIn_ok rfl) fun K' hK' => ?_
      repeat (refine sxf_next fun K2 hK2 => ?_; simp [dNum, dS, pairA, assertA]; (repeat (refine ⟨by omega, ?_⟩)); refine hK2 _ ?_; clear hK2 K2)
      refine sxf_nil (hK' _ ?_)
      refine AW.st (by simp [dNum, dS, pairA, assertA]; rfl) ?_
      clear hK' K'
      refine AW_cond true rfl (fun _ => ?_) (fun h => by cases h)
      refine AW_rg (tyOf_good _) [1, 8] [501] (notIn_ok rfl) fun K' hK' => ?_
      repeat (refine sxf_next fun K2 hK2 => ?_; simp [dNum, dS, pairA, assertA]; (repeat (refine ⟨by omega, ?_⟩)); refine hK2 _ ?_; clear hK2 K2)
      refine sxf_nil (hK' _ ?_)
      refine AW.st (by simp [dNum, dS, pairA, assertA]; rfl) ?_
      clear hK' K'
      refine AW_rg (tyOf_good _) [1, 38, 39, 40] [501] (notIn_ok rfl) fun K' hK' => ?_
      repeat (refine sxf_next fun K2 hK2 => ?_; simp [dNum, dS, pairA, assertA]; (repeat (refine ⟨by omega, ?_⟩)); refine hK2 _ ?_; clear hK2 K2)
      refine sxf_nil (hK' _ ?_)
      refine AW.st (by simp [dNum, dS, pairA, assertA]; rfl) ?_
      clear hK' K'
      refine AW_for (S := Nat) (fun i => i ≤ l.length) (fun i => ⟨lst [(1, .fn (.func 27) [.ref 501 0 0]), (38, .d (.sl none (l.map fun e => [dE e]))), (39, int l.length), (40, int i)], hlst [(501, .box 3 [int (n + 1 + (szNs (l.take i) : Nat))])]⟩) (fun i => l.length - i) 0 ?_ (by omega) ?_
      · refine Imp.to' (notIn_ok rfl) (by simp [dNum, dS, pairA, assertA, szNs]) (by simp [dNum, dS, pairA, assertA, szNs])
      · intro i hi
        refine AW_rg (tyOf_good _) [1, 38, 39, 40, 41] [501] (notIn_ok rfl) fun K' hK' => ?_
        repeat (refine sxf_next fun K2 hK2 => ?_; simp [dNum, dS, pairA, assertA]; (repeat (refine ⟨by omega, ?_⟩)); refine hK2 _ ?_; clear hK2 K2)
        refine sxf_nil (hK' _ ?_)
        refine AW.st (by simp [dNum, dS, pairA, assertA]; rfl) ?_
        clear hK' K'
        refine AW_then fun K1 hK1 => ?_
        refine AW_cond' (b := i < l.length) (by simp [D.le, D.le.go, takeMap, dNum, dS, pairA, assertA]) (fun hc => ?_) (fun hc => ?_)
        · have hil : i < l.length := hc
          have h1 := szNs_take hil
          have h2 := szNs_bs (l.take i)
          have h3 := bEs_take hil
          have hcc := hch _ (List.getElem_mem hil) (n + 1 + (szNs (l.take i) : Nat)) (by omega) (by omega)
          have h4 : (n + 1 + (szNs (l.take i) : Nat) : Int) + (szN l[i] : Nat) = n + 1 + (szNs (l.take (i + 1)) : Nat) := by omega
          rw [h4] at hcc
          obtain ⟨tx, cx, hx⟩ := dE_ifc l[i]
          rw [hx] at hcc
          refine AW_skip (hK1 _ ?_)
          refine AW_then fun K2 hK2 => ?_
          refine AW_block ?_
          refine AW_rg (tyOf_good _) [1, 10, 38, 39, 40] [501] (notIn_ok rfl) fun K' hK' => ?_
          repeat (refine sxf_next fun K2 hK2 => ?_; simp [dNum, dS, pairA, assertA, hil, hx]; (repeat (refine ⟨by omega, ?_⟩)); refine hK2 _ ?_; clear hK2 K2)
          refine sxf_nil (hK' _ ?_)
          refine AW.st (by simp [dNum, dS, pairA, assertA, hil, hx]; rfl) ?_
          clear hK' K'
          refine AW_re (tyOf_good _) fun K' hK' => ?_
          repeat (refine sxf_next fun K2 hK2 => ?_; simp [dNum, dS, pairA, assertA]; (repeat (refine ⟨by omega, ?_⟩)); refine hK2 _ ?_; clear hK2 K2)
          refine sxf_next fun K2 hK2 => ?_
          simp [dNum, dS, pairA, assertA]
          refine callK.mc (hcc) (by simp [dNum, dS, pairA, assertA]) (by simp [dNum, dS, pairA, assertA]) (by simp [dNum, dS, pairA, assertA]) (by simp [dNum, dS, pairA, assertA]) ?_
          simp [dNum, dS, pairA, assertA]
          refine hK2 _ ?_
          clear hK2 K2
          repeat (refine sxf_next fun K2 hK2 => ?_; simp [dNum, dS, pairA, assertA]; (repeat (refine ⟨by omega, ?_⟩)); refine hK2 _ ?_; clear hK2 K2)
          refine sxf_nil (hK' _ ?_)
          clear hK' K'
          refine hK2 _ (AW.norm [1, 38, 39, 40] [501] (notIn_ok rfl) (AW.st (by simp [dNum, dS, pairA, assertA]; rfl) ?_))
          refine AW_re (tyOf_good _) fun K' hK' => ?_
          repeat (refine sxf_next fun K2 hK2 => ?_; simp [dNum, dS, pairA, assertA]; (repeat (refine ⟨by omega, ?_⟩)); refine hK2 _ ?_; clear hK2 K2)
          refine sxf_nil (hK' _ ?_)
          clear hK' K'
          try simp only [thn, inb]
          refine Again.mk (i + 1) (by omega) (by omega) ?_
          refine Imp.to' (notIn_ok rfl) (by simp [dNum, dS, pairA, assertA]) (by simp [dNum, dS, pairA, assertA])
        · obtain rfl : i = l.length := by omega
          refine AW_exit ?_
          simp [D.le_refl, List.take_length]
    have hk : ∃ t c, dE e = .ifc t c ∧ ¬ t = 52 ∧ ¬ t = 54 ∧ ¬ t = 57 ∧ szN e = 1 := by
      cases e with
      | not z => exact absurd ⟨z, rfl⟩ hN
      | and l => exact absurd ⟨l, rfl⟩ hand
      | or l => exact absurd ⟨l, rfl⟩ hor
      | cst b => exact ⟨_, _, by rw [dE], by decide, by decide, by decide, rfl⟩
      | bit s => exact ⟨_, _, by rw [dE], by decide, by decide, by decide, rfl⟩
      | rise s => exact ⟨_, _, by rw [dE], by decide, by decide, by decide, rfl⟩
      | fall s => exact ⟨_, _, by rw [dE], by decide, by decide, by decide, rfl⟩
    obtain ⟨t, c, hy, h1, h2, h3, h4⟩ := hk
    have hs1 := size1_spec G n h0 (by omega) t c
    have h5 : ((szN e : Nat) : Int) = 1 := by omega
    rw [h5, hy]
    refine MC.of_body (tyOf_good _) Tryz.func26 rfl rfl (rs := []) Tryz.results26 (by simp [Tryz.ntmps26]) rfl fun X => ?_
    simp only [Tryz.ntmps26]
    refine AW_rg (tyOf_good _) [0, 1] [501] (notIn_ok rfl) fun K' hK' => ?_
    repeat (refine sxf_next fun K2 hK2 => ?_; simp [dNum, dS, pairA, assertA]; (repeat (refine ⟨by omega, ?_⟩)); refine hK2 _ ?_; clear hK2 K2)
    refine sxf_next fun K2 hK2 => ?_
    simp [dNum, dS, pairA, assertA]
    refine callK.mc (hs1) (by simp [dNum, dS, pairA, assertA]) (by simp [dNum, dS, pairA, assertA]) (by simp [dNum, dS, pairA, assertA]) (by simp [dNum, dS, pairA, assertA]) ?_
    simp [dNum, dS, pairA, assertA]
    refine hK2 _ ?_
    clear hK2 K2
    repeat (refine sxf_next fun K2 hK2 => ?_; simp [dNum, dS, pairA, assertA]; (repeat (refine ⟨by omega, ?_⟩)); refine hK2 _ ?_; clear hK2 K2)
    refine sxf_nil (hK' _ ?_)
    refine AW.st (by simp [dNum, dS, pairA, assertA]; rfl) ?_
    clear hK' K'
    refine AW_rg (tyOf_good _) [1, 14] [501] (notIn_ok rfl) fun K' hK' => ?_
    repeat (refine sxf_next fun K2 hK2 => ?_; simp [dNum, dS, pairA, assertA]; (repeat (refine ⟨by omega, ?_⟩)); refine hK2 _ ?_; clear hK2 K2)
    refine sxf_nil (hK' _ ?_)
    refine AW.st (by simp [dNum, dS, pairA, assertA]; rfl) ?_
    clear hK' K'
    refine AW_block ?_
    refine AW_rg (tyOf_good _) [1, 14, 16, 17] [501] (notIn_ok rfl) fun K' hK' => ?_
    repeat (refine sxf_next fun K2 hK2 => ?_; simp [dNum, dS, pairA, assertA, h1]; (repeat (refine ⟨by omega, ?_⟩)); refine hK2 _ ?_; clear hK2 K2)
    refine sxf_nil (hK' _ ?_)
    refine AW.st (by simp [dNum, dS, pairA, assertA, h1]; rfl) ?_
    clear hK' K'
    refine AW_cond false rfl (fun h => by cases h) (fun _ => ?_)
    refine AW_rg (tyOf_good _) [1, 14, 23, 24] [501] (notIn_ok rfl) fun K' hK' => ?_
    repeat (refine sxf_next fun K2 hK2 => ?_; simp [dNum, dS, pairA, assertA, h2]; (repeat (refine ⟨by omega, ?_⟩)); refine hK2 _ ?_; clear hK2 K2)
    refine sxf_nil (hK' _ ?_)
    refine AW.st (by simp [dNum, dS, pairA, assertA, h2]; rfl) ?_
    clear hK' K'
    refine AW_cond false rfl (fun h => by cases h) (fun _ => ?_)
    refine AW_rg (tyOf_good _) [1, 36, 37] [501] (notIn_ok rfl) fun K' hK' => ?_
    repeat (refine sxf_next fun K2 hK2 => ?_; simp [dNum, dS, pairA, assertA, h3]; (repeat (refine ⟨by omega, ?_⟩)); refine hK2 _ ?_; clear hK2 K2)
    refine sxf_nil (hK' _ ?_)
    refine AW.st (by simp [dNum, dS, pairA, assertA, h3]; rfl) ?_
    clear hK' K'
    refine AW_cond false rfl (fun h => by cases h) (fun _ => ?_)
    refine AW_skip ?_
    simp [D.le_refl]

set_option maxHeartbeats 4000000 in
theorem size_spec (G : Glob) (e : Ex) (hb : bE e ≤ 2^28) : PureC Tryz.prog G 14 [dE e] (dNum (szN e)) := by
  have hw := walkS_at G _ e (Nat.le_refl _) 0 (by omega) (by omega)
  obtain ⟨tx, cx, hx⟩ := dE_ifc e
  rw [hx] at hw ⊢
  rw [Int.zero_add] at hw
  generalize ((szN e : Nat) : Int) = z at hw ⊢
  refine PureC.of_body (tyOf_good _) Tryz.func14 rfl rfl (rs := [.tmp 2]) Tryz.results14 (by simp [Tryz.ntmps14]) fun X => ?_
  simp only [Tryz.ntmps14, List.map]
  refine AW_rg (tyOf_good _) [0] [] (fun _ _ => trivial) fun K' hK' => ?_
  repeat (refine sxf_next fun K2 hK2 => ?_; simp [dNum, dS, pairA, assertA]; (repeat (refine ⟨by omega, ?_⟩)); refine hK2 _ ?_; clear hK2 K2)
  refine sxf_nil (hK' _ ?_)
  refine AW.st (by simp [dNum, dS, pairA, assertA]; rfl) ?_
  clear hK' K'
  refine AW_rg (tyOf_good _) [0, 3] [3] (fun _ _ => trivial) fun K' hK' => ?_
  repeat (refine sxf_next fun K2 hK2 => ?_; simp [dNum, dS, pairA, assertA]; (repeat (refine ⟨by omega, ?_⟩)); refine hK2 _ ?_; clear hK2 K2)
  refine sxf_nil (hK' _ ?_)
  refine AW.st (by simp [dNum, dS, pairA, assertA]; rfl) ?_
  clear hK' K'
  refine AW.imp (Imp.ren (r := 3) (r' := 501) trivial (by simp)) ?_
  refine AW.st (by simp [renO, renF, Go.Av.ren, renH_one]; rfl) ?_
  refine AW_rg (tyOf_good _) [3] [501] (fun _ _ => trivial) fun K' hK' => ?_
  repeat (refine sxf_next fun K2 hK2 => ?_; simp [dNum, dS, pairA, assertA]; (repeat (refine ⟨by omega, ?_⟩)); refine hK2 _ ?_; clear hK2 K2)
  refine sxf_next fun K2 hK2 => ?_
  simp [dNum, dS, pairA, assertA]
  refine callK.mc (hw) (by simp [dNum, dS, pairA, assertA]) (by simp [dNum, dS, pairA, assertA]) (by simp [dNum, dS, pairA, assertA]) (by simp [dNum, dS, pairA, assertA]) ?_
  simp [dNum, dS, pairA, assertA]
  refine hK2 _ ?_
  clear hK2 K2
  repeat (refine sxf_next fun K2 hK2 => ?_; simp [dNum, dS, pairA, assertA]; (repeat (refine ⟨by omega, ?_⟩)); refine hK2 _ ?_; clear hK2 K2)
  refine sxf_nil (hK' _ ?_)
  refine AW.st (by simp [dNum, dS, pairA, assertA]; rfl) ?_
  clear hK' K'
  refine AW_rg (tyOf_good _) [2] [501] (fun _ _ => trivial) fun K' hK' => ?_
  repeat (refine sxf_next fun K2 hK2 => ?_; simp [dNum, dS, pairA, assertA]; (repeat (refine ⟨by omega, ?_⟩)); refine hK2 _ ?_; clear hK2 K2)
  refine sxf_nil (hK' _ ?_)
  refine AW.st (by simp [dNum, dS, pairA, assertA]; rfl) ?_
  clear hK' K'
  refine AW_ret ?_
  simp [D.le, D.le.go, takeMap, dNum, dS, pairA, assertA]
end Go.Proofs.YtfehigldhedkgaaGreatDoor
