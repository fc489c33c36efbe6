/-
  Texts that belong together, in one file: M2, M3, M4, F13, F14, M6, M7, Av22, R1, Q1.
-/
import Derived.Test.YtoikggboakojlaaDoorBp3
import Derived.Test.YtoikggboakojlaaDoorRows
import Derived.LaidLaws
import Derived.LaidHandle
import Derived.LaidSub
import Derived.Stop.Joined
import Derived.Lay
/-
  The reference: errors without a place; numbers within bounds; which tables may be; blocks.
-/
namespace Go.Proofs.YtoikggboakojlaaDoor
open Go.Av
set_option linter.unusedSimpArgs false
set_option linter.unusedVariables false

def dFault (e : Option (Int × Option Nat)) : D := .agg [dNum (codeF e), dNum (placeF e)]
def HasFine (G : Glob) : Prop := G 0 = some (.ip [dNum 0, dNum (-1)])

theorem bare0_spec (G : Glob) (c : Int) : PureC Tryd.prog G 67 [dNum c] (.agg [dNum c, dNum (-1)]) := by
  refine PureC.of_body (tyOf_good _) Tryd.func67 rfl rfl (rs := [.cell 2 29]) Tryd.results67 (by simp [Tryd.ntmps67]) fun X => ?_
  simp only [Tryd.ntmps67, List.map]
  refine AW_rg (tyOf_good _) (fun _ => trivial) [0, 2] [2] fun K' hK' => ?_
  repeat (refine sxf_next fun K2 hK2 => ?_; simp [dNum]; (repeat (refine ⟨by omega, ?_⟩)); refine hK2 _ ?_; clear hK2 K2)
  first | refine sxf_nil (hK' _ ?_) | (refine sxf_next fun K2 hK2 => ?_; clear hK2 hK'; simp [dNum]; fail "STUCK")
  refine AW.st (by simp [dNum]; rfl) ?_
  clear hK' K'
  refine AW_rg (tyOf_good _) (fun _ => trivial) [2] [2] fun K' hK' => ?_
  repeat (refine sxf_next fun K2 hK2 => ?_; simp [dNum]; (repeat (refine ⟨by omega, ?_⟩)); refine hK2 _ ?_; clear hK2 K2)
  first | refine sxf_nil (hK' _ ?_) | (refine sxf_next fun K2 hK2 => ?_; clear hK2 hK'; simp [dNum]; fail "STUCK")
  refine AW.st (by simp [dNum]; rfl) ?_
  clear hK' K'
  refine AW_ret ?_
  simp [D.le, D.le.go, takeMap, dNum]

theorem within_spec (G : Glob) (n lo hi : Int) : PureC Tryd.prog G 68 [dNum n, dNum lo, dNum hi] (.v (.bool (decide (lo ≤ n) && decide (n ≤ hi)))) := by
  refine PureC.of_body (tyOf_good _) Tryd.func68 rfl rfl (rs := [.tmp 6]) Tryd.results68 (by simp [Tryd.ntmps68]) fun X => ?_
  simp only [Tryd.ntmps68, List.map]
  refine AW_rg (tyOf_good _) (fun _ => trivial) [0, 1, 2] [] fun K' hK' => ?_
  repeat (refine sxf_next fun K2 hK2 => ?_; simp [dNum]; (repeat (refine ⟨by omega, ?_⟩)); refine hK2 _ ?_; clear hK2 K2)
  first | refine sxf_nil (hK' _ ?_) | (refine sxf_next fun K2 hK2 => ?_; clear hK2 hK'; simp [dNum]; fail "STUCK")
  refine AW.st (by simp [dNum]; rfl) ?_
  clear hK' K'
  by_cases h1 : lo ≤ n
  · refine AW_rg (tyOf_good _) (fun _ => trivial) [6] [] fun K' hK' => ?_
    repeat (refine sxf_next fun K2 hK2 => ?_; simp [h1]; (repeat (refine ⟨by omega, ?_⟩)); refine hK2 _ ?_; clear hK2 K2)
    first | refine sxf_nil (hK' _ ?_) | (refine sxf_next fun K2 hK2 => ?_; clear hK2 hK'; simp [h1]; fail "STUCK")
    refine AW.st (by simp [h1]; rfl) ?_
    clear hK' K'
    refine AW_ret ?_
    simp [D.le, D.le.go, takeMap, h1]
  · refine AW_rg (tyOf_good _) (fun _ => trivial) [6] [] fun K' hK' => ?_
    repeat (refine sxf_next fun K2 hK2 => ?_; simp [h1]; (repeat (refine ⟨by omega, ?_⟩)); refine hK2 _ ?_; clear hK2 K2)
    first | refine sxf_nil (hK' _ ?_) | (refine sxf_next fun K2 hK2 => ?_; clear hK2 hK'; simp [h1]; fail "STUCK")
    refine AW.st (by simp [h1]; rfl) ?_
    clear hK' K'
    refine AW_ret ?_
    simp [D.le, D.le.go, takeMap, h1]
theorem within_yes (G : Glob) (n lo hi : Int) (h1 : lo ≤ n) (h2 : n ≤ hi) : PureC Tryd.prog G 68 [dNum n, dNum lo, dNum hi] (.v (.bool true)) := by
  have := within_spec G n lo hi
  rwa [decide_eq_true h1, decide_eq_true h2] at this
theorem within_no (G : Glob) (n lo hi : Int) (h : n < lo ∨ hi < n) : PureC Tryd.prog G 68 [dNum n, dNum lo, dNum hi] (.v (.bool false)) := by
  have := within_spec G n lo hi
  have e : (decide (lo ≤ n) && decide (n ≤ hi)) = false := by
    rcases h with h | h
    · rw [decide_eq_false (by omega), Bool.false_and]
    · rw [decide_eq_false (p := n ≤ hi) (by omega), Bool.and_false]
  rwa [e] at this

set_option maxHeartbeats 4000000 in
theorem tcheck_spec (G : Glob) (hF : HasFine G) (t : Tab) : PureC Tryd.prog G 57 [dTab t] (dFault (checkF t)) := by
  obtain ⟨next, tells⟩ := t
  have hr2 : checkF ⟨next, tells⟩ = (if (next.length < 1 ∨ 500 < next.length ∨ 64 < (next.getD 0 []).length) then some (4, none)
      else if tells.length ≠ next.length then some (3, none) else rowsF ⟨next, tells⟩ 0 next.length) := rfl
  generalize hres : checkF ⟨next, tells⟩ = res
  rw [hr2] at hres
  refine PureC.of_body (tyOf_good _) Tryd.func57 rfl rfl (rs := [.cell 2 29]) Tryd.results57 (by simp [Tryd.ntmps57]) fun X => ?_
  simp only [Tryd.ntmps57, List.map]
  refine AW_rg (tyOf_good _) (fun _ => trivial) [1, 2] [1, 2] fun K' hK' => ?_
  repeat (refine sxf_next fun K2 hK2 => ?_; simp [dTab]; (repeat (refine ⟨by omega, ?_⟩)); refine hK2 _ ?_; clear hK2 K2)
  first | refine sxf_nil (hK' _ ?_) | (refine sxf_next fun K2 hK2 => ?_; clear hK2 hK'; simp [dTab]; fail "STUCK")
  refine AW.st (by simp [dTab]; rfl) ?_
  clear hK' K'
  refine AW_rg (tyOf_good _) (fun _ => trivial) [1, 2, 3] [1, 2] fun K' hK' => ?_
  repeat (refine sxf_next fun K2 hK2 => ?_; simp [dRows]; (repeat (refine ⟨by omega, ?_⟩)); refine hK2 _ ?_; clear hK2 K2)
  first | refine sxf_nil (hK' _ ?_) | (refine sxf_next fun K2 hK2 => ?_; clear hK2 hK'; simp [dRows]; fail "STUCK")
  refine AW.st (by simp [dRows]; rfl) ?_
  clear hK' K'
  refine AW_then fun K1 hK1 => ?_
  by_cases h1 : (next.length : Int) < 1
  · rw [if_pos (.inl (by omega))] at hres
    refine AW_rg (tyOf_good _) (fun _ => trivial) [1, 2, 3, 20] [1, 2] fun K' hK' => ?_
    repeat (refine sxf_next fun K2 hK2 => ?_; simp [dNum]; (repeat (refine ⟨by omega, ?_⟩)); refine hK2 _ ?_; clear hK2 K2)
    refine sxf_next fun K2 hK2 => ?_
    simp [dNum]
    refine callK.data (within_no G next.length 1 500 (by omega)) (by simp; rfl) (by first | exact D.leGo_refl _ | simp [takeMap, List.map_map, Function.comp_def, D.le, D.le.go, D.le_refl, D.leGo_refl, dNum]) ?_
    refine hK2 _ ?_
    clear hK2 K2
    simp only [putd, upd_lst]
    repeat (refine sxf_next fun K2 hK2 => ?_; simp [dNum]; (repeat (refine ⟨by omega, ?_⟩)); refine hK2 _ ?_; clear hK2 K2)
    first | refine sxf_nil (hK' _ ?_) | (refine sxf_next fun K2 hK2 => ?_; clear hK2 hK'; simp [dNum]; fail "STUCK")
    refine AW.st (by simp [dNum]; rfl) ?_
    clear hK' K'
    refine AW_cond true rfl (fun _ => ?_) (fun h => by cases h)
    refine AW_rg (tyOf_good _) (fun _ => trivial) [2] [2] fun K' hK' => ?_
    repeat (refine sxf_next fun K2 hK2 => ?_; simp [dNum]; (repeat (refine ⟨by omega, ?_⟩)); refine hK2 _ ?_; clear hK2 K2)
    refine sxf_next fun K2 hK2 => ?_
    simp [dNum]
    refine callK.data (bare0_spec G 4) (by simp; rfl) (by first | exact D.leGo_refl _ | simp [takeMap, List.map_map, Function.comp_def, D.le, D.le.go, D.le_refl, D.leGo_refl, dNum]) ?_
    refine hK2 _ ?_
    clear hK2 K2
    simp only [putd, upd_lst]
    repeat (refine sxf_next fun K2 hK2 => ?_; simp [dNum]; (repeat (refine ⟨by omega, ?_⟩)); refine hK2 _ ?_; clear hK2 K2)
    first | refine sxf_nil (hK' _ ?_) | (refine sxf_next fun K2 hK2 => ?_; clear hK2 hK'; simp [dNum]; fail "STUCK")
    refine AW.st (by simp [dNum]; rfl) ?_
    clear hK' K'
    refine AW_ret ?_
    simp [D.le, D.le.go, takeMap, dNum]
    simp [← hres, dFault, codeF, placeF, dNum, D.le, D.le.go]
  by_cases h2 : 500 < (next.length : Int)
  · rw [if_pos (.inr (.inl (by omega)))] at hres
    refine AW_rg (tyOf_good _) (fun _ => trivial) [1, 2, 3, 20] [1, 2] fun K' hK' => ?_
    repeat (refine sxf_next fun K2 hK2 => ?_; simp [dNum]; (repeat (refine ⟨by omega, ?_⟩)); refine hK2 _ ?_; clear hK2 K2)
    refine sxf_next fun K2 hK2 => ?_
    simp [dNum]
    refine callK.data (within_no G next.length 1 500 (by omega)) (by simp; rfl) (by first | exact D.leGo_refl _ | simp [takeMap, List.map_map, Function.comp_def, D.le, D.le.go, D.le_refl, D.leGo_refl, dNum]) ?_
    refine hK2 _ ?_
    clear hK2 K2
    simp only [putd, upd_lst]
    repeat (refine sxf_next fun K2 hK2 => ?_; simp [dNum]; (repeat (refine ⟨by omega, ?_⟩)); refine hK2 _ ?_; clear hK2 K2)
    first | refine sxf_nil (hK' _ ?_) | (refine sxf_next fun K2 hK2 => ?_; clear hK2 hK'; simp [dNum]; fail "STUCK")
    refine AW.st (by simp [dNum]; rfl) ?_
    clear hK' K'
    refine AW_cond true rfl (fun _ => ?_) (fun h => by cases h)
    refine AW_rg (tyOf_good _) (fun _ => trivial) [2] [2] fun K' hK' => ?_
    repeat (refine sxf_next fun K2 hK2 => ?_; simp [dNum]; (repeat (refine ⟨by omega, ?_⟩)); refine hK2 _ ?_; clear hK2 K2)
    refine sxf_next fun K2 hK2 => ?_
    simp [dNum]
    refine callK.data (bare0_spec G 4) (by simp; rfl) (by first | exact D.leGo_refl _ | simp [takeMap, List.map_map, Function.comp_def, D.le, D.le.go, D.le_refl, D.leGo_refl, dNum]) ?_
    refine hK2 _ ?_
    clear hK2 K2
    simp only [putd, upd_lst]
    repeat (refine sxf_next fun K2 hK2 => ?_; simp [dNum]; (repeat (refine ⟨by omega, ?_⟩)); refine hK2 _ ?_; clear hK2 K2)
    first | refine sxf_nil (hK' _ ?_) | (refine sxf_next fun K2 hK2 => ?_; clear hK2 hK'; simp [dNum]; fail "STUCK")
    refine AW.st (by simp [dNum]; rfl) ?_
    clear hK' K'
    refine AW_ret ?_
    simp [D.le, D.le.go, takeMap, dNum]
    simp [← hres, dFault, codeF, placeF, dNum, D.le, D.le.go]
  have hwy := within_yes G next.length 1 500 (by omega) (by omega)
  obtain ⟨r0, next', hnx⟩ : ∃ r0 next', next = r0 :: next' := by
    cases next with
    | nil => simp at h1
    | cons a b => exact ⟨a, b, rfl⟩
  have hg0 : next.getD 0 [] = r0 := by rw [hnx]; rfl
  have hpos : 0 < next.length := by omega
  simp only [hg0] at hres
  have hgq : next[0] = r0 := by subst hnx; rfl
  by_cases h3 : 64 < (r0.length : Int)
  · rw [if_pos (.inr (.inr (by omega)))] at hres
    refine AW_rg (tyOf_good _) (fun _ => trivial) [1, 2, 3, 20] [1, 2] fun K' hK' => ?_
    repeat (refine sxf_next fun K2 hK2 => ?_; simp [dNum, h3, hpos, hgq, dRow, dInts]; (repeat (refine ⟨by omega, ?_⟩)); refine hK2 _ ?_; clear hK2 K2)
    refine sxf_next fun K2 hK2 => ?_
    simp [dNum, h3, hpos, hgq, dRow, dInts]
    refine callK.data (hwy) (by simp; rfl) (by first | exact D.leGo_refl _ | simp [takeMap, List.map_map, Function.comp_def, D.le, D.le.go, D.le_refl, D.leGo_refl, dNum, h3, hpos, hgq, dRow, dInts]) ?_
    refine hK2 _ ?_
    clear hK2 K2
    simp only [putd, upd_lst]
    repeat (refine sxf_next fun K2 hK2 => ?_; simp [dNum, h3, hpos, hgq, dRow, dInts]; (repeat (refine ⟨by omega, ?_⟩)); refine hK2 _ ?_; clear hK2 K2)
    first | refine sxf_nil (hK' _ ?_) | (refine sxf_next fun K2 hK2 => ?_; clear hK2 hK'; simp [dNum, h3, hpos, hgq, dRow, dInts]; fail "STUCK")
    refine AW.st (by simp [dNum, h3, hpos, hgq, dRow, dInts]; rfl) ?_
    clear hK' K'
    refine AW_cond true rfl (fun _ => ?_) (fun h => by cases h)
    refine AW_rg (tyOf_good _) (fun _ => trivial) [2] [2] fun K' hK' => ?_
    repeat (refine sxf_next fun K2 hK2 => ?_; simp [dNum]; (repeat (refine ⟨by omega, ?_⟩)); refine hK2 _ ?_; clear hK2 K2)
    refine sxf_next fun K2 hK2 => ?_
    simp [dNum]
    refine callK.data (bare0_spec G 4) (by simp; rfl) (by first | exact D.leGo_refl _ | simp [takeMap, List.map_map, Function.comp_def, D.le, D.le.go, D.le_refl, D.leGo_refl, dNum]) ?_
    refine hK2 _ ?_
    clear hK2 K2
    simp only [putd, upd_lst]
    repeat (refine sxf_next fun K2 hK2 => ?_; simp [dNum]; (repeat (refine ⟨by omega, ?_⟩)); refine hK2 _ ?_; clear hK2 K2)
    first | refine sxf_nil (hK' _ ?_) | (refine sxf_next fun K2 hK2 => ?_; clear hK2 hK'; simp [dNum]; fail "STUCK")
    refine AW.st (by simp [dNum]; rfl) ?_
    clear hK' K'
    refine AW_ret ?_
    simp [D.le, D.le.go, takeMap, dNum]
    simp [← hres, dFault, codeF, placeF, dNum, D.le, D.le.go]
  rw [if_neg (by omega)] at hres
  refine AW_rg (tyOf_good _) (fun _ => trivial) [1, 2, 3, 20] [1, 2] fun K' hK' => ?_
  repeat (refine sxf_next fun K2 hK2 => ?_; simp [dNum, h3, hpos, hgq, dRow, dInts]; (repeat (refine ⟨by omega, ?_⟩)); refine hK2 _ ?_; clear hK2 K2)
  refine sxf_next fun K2 hK2 => ?_
  simp [dNum, h3, hpos, hgq, dRow, dInts]
  refine callK.data (hwy) (by simp; rfl) (by first | exact D.leGo_refl _ | simp [takeMap, List.map_map, Function.comp_def, D.le, D.le.go, D.le_refl, D.leGo_refl, dNum, h3, hpos, hgq, dRow, dInts]) ?_
  refine hK2 _ ?_
  clear hK2 K2
  simp only [putd, upd_lst]
  repeat (refine sxf_next fun K2 hK2 => ?_; simp [dNum, h3, hpos, hgq, dRow, dInts]; (repeat (refine ⟨by omega, ?_⟩)); refine hK2 _ ?_; clear hK2 K2)
  first | refine sxf_nil (hK' _ ?_) | (refine sxf_next fun K2 hK2 => ?_; clear hK2 hK'; simp [dNum, h3, hpos, hgq, dRow, dInts]; fail "STUCK")
  refine AW.st (by simp [dNum, h3, hpos, hgq, dRow, dInts]; rfl) ?_
  clear hK' K'
  refine AW_cond false rfl (fun h => by cases h) (fun _ => ?_)
  refine AW_skip (hK1 _ ?_)
  refine AW_then fun K2 hK2 => ?_
  refine AW_rg (tyOf_good _) (fun _ => trivial) [1, 2, 3, 26] [1, 2] fun K' hK' => ?_
  repeat (refine sxf_next fun K2 hK2 => ?_; simp [dRow, dInts]; (repeat (refine ⟨by omega, ?_⟩)); refine hK2 _ ?_; clear hK2 K2)
  first | refine sxf_nil (hK' _ ?_) | (refine sxf_next fun K2 hK2 => ?_; clear hK2 hK'; simp [dRow, dInts]; fail "STUCK")
  refine AW.st (by simp [dRow, dInts]; rfl) ?_
  clear hK' K'
  refine AW_cond' (b := ¬ tells.length = next.length) (by simp [D.le, D.le.go, takeMap]) (fun hc => ?_) (fun hc => ?_)
  · rw [if_pos hc] at hres
    refine AW_rg (tyOf_good _) (fun _ => trivial) [2] [2] fun K' hK' => ?_
    repeat (refine sxf_next fun K2 hK2 => ?_; simp [dNum]; (repeat (refine ⟨by omega, ?_⟩)); refine hK2 _ ?_; clear hK2 K2)
    refine sxf_next fun K2 hK2 => ?_
    simp [dNum]
    refine callK.data (bare0_spec G 3) (by simp; rfl) (by first | exact D.leGo_refl _ | simp [takeMap, List.map_map, Function.comp_def, D.le, D.le.go, D.le_refl, D.leGo_refl, dNum]) ?_
    refine hK2 _ ?_
    clear hK2 K2
    simp only [putd, upd_lst]
    repeat (refine sxf_next fun K2 hK2 => ?_; simp [dNum]; (repeat (refine ⟨by omega, ?_⟩)); refine hK2 _ ?_; clear hK2 K2)
    first | refine sxf_nil (hK' _ ?_) | (refine sxf_next fun K2 hK2 => ?_; clear hK2 hK'; simp [dNum]; fail "STUCK")
    refine AW.st (by simp [dNum]; rfl) ?_
    clear hK' K'
    refine AW_ret ?_
    simp [D.le, D.le.go, takeMap, dNum]
    simp [← hres, dFault, codeF, placeF, dNum, D.le, D.le.go]
  rw [if_neg hc] at hres
  have htl : tells.length = next.length := by omega
  refine AW_skip (hK2 _ ?_)
  refine AW_then fun K3 hK3 => ?_
  refine AW_rg (tyOf_good _) (fun _ => trivial) [1, 2, 3, 30, 31] [1, 2] fun K' hK' => ?_
  repeat (refine sxf_next fun K2 hK2 => ?_; simp [dRow, dInts]; (repeat (refine ⟨by omega, ?_⟩)); refine hK2 _ ?_; clear hK2 K2)
  first | refine sxf_nil (hK' _ ?_) | (refine sxf_next fun K2 hK2 => ?_; clear hK2 hK'; simp [dRow, dInts]; fail "STUCK")
  refine AW.st (by simp [dRow, dInts]; rfl) ?_
  clear hK' K'
  refine AW_for (S := Nat) (fun n => n ≤ next.length ∧ rowsF ⟨next, tells⟩ n (next.length - n) = rowsF ⟨next, tells⟩ 0 next.length) (fun n => ⟨lst [(1, .ref 1 0 0), (2, .ref 2 0 0), (3, int next.length), (30, int next.length), (31, int n)],
    hlst [(1, .box 26 [.d (dRows next), .d (dRows tells)]), (2, .box 29 [.d (.v (.int .i64 0)), .d (.v (.int .i64 0))])]⟩) (fun n => next.length - n) 0 ?_ (by simp) ?_
  · refine Imp.to' (fun _ => trivial) (by simp [dRows, dRow, dInts]) (by simp [dRows, dRow, dInts])
  · rintro n ⟨hn, hrs⟩
    refine AW_rg (tyOf_good _) (fun _ => trivial) [1, 2, 3, 30, 31, 32] [1, 2] fun K' hK' => ?_
    repeat (refine sxf_next fun K2 hK2 => ?_; simp; (repeat (refine ⟨by omega, ?_⟩)); refine hK2 _ ?_; clear hK2 K2)
    first | refine sxf_nil (hK' _ ?_) | (refine sxf_next fun K2 hK2 => ?_; clear hK2 hK'; simp; fail "STUCK")
    refine AW.st (by simp; rfl) ?_
    clear hK' K'
    refine AW_then fun K4 hK4 => ?_
    refine AW_cond' (b := n < next.length) (by simp [D.le, D.le.go, takeMap]) (fun hc => ?_) (fun hc => ?_)
    · refine AW_skip (hK4 _ ?_)
      refine AW_then fun K5 hK5 => ?_
      refine AW_block ?_
      refine AW_rg (tyOf_good _) (fun _ => trivial) [1, 2, 3, 4, 30, 31] [1, 2] fun K' hK' => ?_
      repeat (refine sxf_next fun K2 hK2 => ?_; simp; (repeat (refine ⟨by omega, ?_⟩)); refine hK2 _ ?_; clear hK2 K2)
      first | refine sxf_nil (hK' _ ?_) | (refine sxf_next fun K2 hK2 => ?_; clear hK2 hK'; simp; fail "STUCK")
      refine AW.st (by simp; rfl) ?_
      clear hK' K'
      refine AW_then fun K6 hK6 => ?_
      have hstep : rowsF ⟨next, tells⟩ n (next.length - n) = match rowF ⟨next, tells⟩ n with
          | some c => some (c, some n)
          | none => rowsF ⟨next, tells⟩ (n + 1) (next.length - (n + 1)) := by
        have : next.length - n = (next.length - (n + 1)) + 1 := by omega
        rw [this]
        rfl
      rw [hstep] at hrs
      have htn : n < tells.length := by omega
      have hrow : rowF ⟨next, tells⟩ n = if next[n].length ≠ r0.length ∨ tells[n].length ≠ r0.length then some 3 else if next[n].any fun x => decide (x < 0) || decide ((next.length : Int) ≤ x) then some 2 else none := by
        simp [rowF, hc, htn, hpos, hgq]
      by_cases h4 : next[n].length = r0.length
      · by_cases h5 : tells[n].length = r0.length
        · rw [if_neg (by simp [h4, h5])] at hrow
          refine AW_rd (tyOf_good _) (fun _ => trivial) (by kernel_rfl) [1, 2, 3, 4, 30, 31, 59] [1, 2] (by kernel_rfl) fun K' hK' => ?_
          repeat (refine sxd_next fun K2 hK2 => ?_; simp [dRows, h4, h5, hpos, hgq, hc, htn, dRow, dInts]; (repeat (refine ⟨by omega, ?_⟩)); refine hK2 _ ?_; clear hK2 K2)
          first | refine sxd_nil (hK' _ ?_) | (refine sxd_next fun K2 hK2 => ?_; clear hK2 hK'; simp [dRows, h4, h5, hpos, hgq, hc, htn, dRow, dInts]; fail "STUCK")
          refine AW.st (by simp [dRows, h4, h5, hpos, hgq, hc, htn, dRow, dInts]; rfl) ?_
          clear hK' K'
          refine AW_cond false rfl (fun h => by cases h) (fun _ => ?_)
          refine AW_skip (hK6 _ ?_)
          refine AW_rg (tyOf_good _) (fun _ => trivial) [1, 2, 3, 4, 30, 31, 66, 67, 68] [1, 2] fun K' hK' => ?_
          repeat (refine sxf_next fun K2 hK2 => ?_; simp [dRows, dRow, dInts, hc]; (repeat (refine ⟨by omega, ?_⟩)); refine hK2 _ ?_; clear hK2 K2)
          first | refine sxf_nil (hK' _ ?_) | (refine sxf_next fun K2 hK2 => ?_; clear hK2 hK'; simp [dRows, dRow, dInts, hc]; fail "STUCK")
          refine AW.st (by simp [dRows, dRow, dInts, hc]; rfl) ?_
          clear hK' K'
          generalize hr : next[n] = row at hrow h4
          refine AW_for (S := Nat) (fun j => j ≤ row.length ∧ ∀ q (hq : q < row.length), q < j → 0 ≤ row[q] ∧ row[q] < (next.length : Int)) (fun j => ⟨lst [(1, .ref 1 0 0), (2, .ref 2 0 0), (3, int next.length), (4, int n), (30, int next.length), (31, int n), (66, .d (dRow row)), (67, int row.length), (68, int j)],
            hlst [(1, .box 26 [.d (dRows next), .d (dRows tells)]), (2, .box 29 [.d (.v (.int .i64 0)), .d (.v (.int .i64 0))])]⟩) (fun j => row.length - j) 0 ?_ (by simp) ?_
          · refine Imp.to' (fun _ => trivial) (by simp [dRows, dRow, dInts]) (by simp [dRows, dRow, dInts])
          · rintro j ⟨hj, hall⟩
            refine AW_rg (tyOf_good _) (fun _ => trivial) [1, 2, 3, 4, 30, 31, 66, 67, 68, 69] [1, 2] fun K' hK' => ?_
            repeat (refine sxf_next fun K2 hK2 => ?_; simp; (repeat (refine ⟨by omega, ?_⟩)); refine hK2 _ ?_; clear hK2 K2)
            first | refine sxf_nil (hK' _ ?_) | (refine sxf_next fun K2 hK2 => ?_; clear hK2 hK'; simp; fail "STUCK")
            refine AW.st (by simp; rfl) ?_
            clear hK' K'
            refine AW_then fun K7 hK7 => ?_
            refine AW_cond' (b := j < row.length) (by simp [D.le, D.le.go, takeMap]) (fun hc => ?_) (fun hc => ?_)
            · have hjl : j < row.length := hc
              refine AW_skip (hK7 _ ?_)
              refine AW_then fun K8 hK8 => ?_
              refine AW_block ?_
              refine AW_rg (tyOf_good _) (fun _ => trivial) [1, 2, 3, 4, 6, 30, 31, 66, 67, 68] [1, 2] fun K' hK' => ?_
              repeat (refine sxf_next fun K2 hK2 => ?_; simp [dRow, dInts, hjl]; (repeat (refine ⟨by omega, ?_⟩)); refine hK2 _ ?_; clear hK2 K2)
              first | refine sxf_nil (hK' _ ?_) | (refine sxf_next fun K2 hK2 => ?_; clear hK2 hK'; simp [dRow, dInts, hjl]; fail "STUCK")
              refine AW.st (by simp [dRow, dInts, hjl]; rfl) ?_
              clear hK' K'
              by_cases hin : 0 ≤ row[j] ∧ row[j] ≤ (next.length : Int) - 1
              · refine AW_rg (tyOf_good _) (fun _ => trivial) [1, 2, 3, 4, 30, 31, 66, 67, 68, 76] [1, 2] fun K' hK' => ?_
                repeat (refine sxf_next fun K2 hK2 => ?_; simp [dNum]; (repeat (refine ⟨by omega, ?_⟩)); refine hK2 _ ?_; clear hK2 K2)
                refine sxf_next fun K2 hK2 => ?_
                simp [dNum]
                refine callK.data (within_yes G row[j] 0 ((next.length : Int) - 1) hin.1 hin.2) (by simp; rfl) (by first | exact D.leGo_refl _ | simp [takeMap, List.map_map, Function.comp_def, D.le, D.le.go, D.le_refl, D.leGo_refl, dNum]) ?_
                refine hK2 _ ?_
                clear hK2 K2
                simp only [putd, upd_lst]
                repeat (refine sxf_next fun K2 hK2 => ?_; simp [dNum]; (repeat (refine ⟨by omega, ?_⟩)); refine hK2 _ ?_; clear hK2 K2)
                first | refine sxf_nil (hK' _ ?_) | (refine sxf_next fun K2 hK2 => ?_; clear hK2 hK'; simp [dNum]; fail "STUCK")
                refine AW.st (by simp [dNum]; rfl) ?_
                clear hK' K'
                refine AW_cond false rfl (fun h => by cases h) (fun _ => ?_)
                refine AW_skip (hK8 _ ?_)
                refine AW_re (tyOf_good _) (fun _ => trivial) fun K' hK' => ?_
                repeat (refine sxf_next fun K2 hK2 => ?_; simp; (repeat (refine ⟨by omega, ?_⟩)); refine hK2 _ ?_; clear hK2 K2)
                first | refine sxf_nil (hK' _ ?_) | (refine sxf_next fun K2 hK2 => ?_; clear hK2 hK'; simp; fail "STUCK")
                clear hK' K'
                try simp only [thn, inb]
                refine Again.mk (j + 1) ⟨by omega, fun q hq hqj => ?_⟩ (by omega) ?_
                · rcases Nat.lt_or_ge q j with h | h
                  · exact hall q hq h
                  · obtain rfl : q = j := by omega
                    exact ⟨hin.1, by omega⟩
                refine Imp.to' (fun _ => trivial) (by simp [dRows, dRow, dInts]) (by simp [dRows, dRow, dInts])
              · rw [if_pos (List.any_eq_true.2 ⟨row[j], List.getElem_mem hjl, by simp; omega⟩)] at hrow
                refine AW_rg (tyOf_good _) (fun _ => trivial) [1, 2, 3, 4, 30, 31, 66, 67, 68, 76] [1, 2] fun K' hK' => ?_
                repeat (refine sxf_next fun K2 hK2 => ?_; simp [dNum]; (repeat (refine ⟨by omega, ?_⟩)); refine hK2 _ ?_; clear hK2 K2)
                refine sxf_next fun K2 hK2 => ?_
                simp [dNum]
                refine callK.data (within_no G row[j] 0 ((next.length : Int) - 1) (by omega)) (by simp; rfl) (by first | exact D.leGo_refl _ | simp [takeMap, List.map_map, Function.comp_def, D.le, D.le.go, D.le_refl, D.leGo_refl, dNum]) ?_
                refine hK2 _ ?_
                clear hK2 K2
                simp only [putd, upd_lst]
                repeat (refine sxf_next fun K2 hK2 => ?_; simp [dNum]; (repeat (refine ⟨by omega, ?_⟩)); refine hK2 _ ?_; clear hK2 K2)
                first | refine sxf_nil (hK' _ ?_) | (refine sxf_next fun K2 hK2 => ?_; clear hK2 hK'; simp [dNum]; fail "STUCK")
                refine AW.st (by simp [dNum]; rfl) ?_
                clear hK' K'
                refine AW_cond true rfl (fun _ => ?_) (fun h => by cases h)
                refine AW_rg (tyOf_good _) (fun _ => trivial) [2] [2] fun K' hK' => ?_
                repeat (refine sxf_next fun K2 hK2 => ?_; simp; (repeat (refine ⟨by omega, ?_⟩)); refine hK2 _ ?_; clear hK2 K2)
                first | refine sxf_nil (hK' _ ?_) | (refine sxf_next fun K2 hK2 => ?_; clear hK2 hK'; simp; fail "STUCK")
                refine AW.st (by simp; rfl) ?_
                clear hK' K'
                refine AW_ret ?_
                simp [D.le, D.le.go, takeMap]
                rw [hrow] at hrs
                simp [← hres, ← hrs, dFault, codeF, placeF, dNum, D.le, D.le.go]
            · obtain rfl : j = row.length := by omega
              refine AW_exit (hK5 _ ?_)
              rw [if_neg] at hrow
              · rw [hrow] at hrs
                refine AW_re (tyOf_good _) (fun _ => trivial) fun K' hK' => ?_
                repeat (refine sxf_next fun K2 hK2 => ?_; simp; (repeat (refine ⟨by omega, ?_⟩)); refine hK2 _ ?_; clear hK2 K2)
                first | refine sxf_nil (hK' _ ?_) | (refine sxf_next fun K2 hK2 => ?_; clear hK2 hK'; simp; fail "STUCK")
                clear hK' K'
                try simp only [thn, inb]
                refine Again.mk (n + 1) ⟨by omega, hrs⟩ (by omega) ?_
                refine Imp.to' (fun _ => trivial) (by simp [dRows, dRow, dInts]) (by simp [dRows, dRow, dInts])
              · simp only [Bool.not_eq_true, List.any_eq_false]
                intro x hx
                obtain ⟨q, hq, rfl⟩ := List.mem_iff_getElem.1 hx
                have := hall q hq hq
                simp; omega
        · rw [if_pos (.inr h5)] at hrow
          refine AW_rd (tyOf_good _) (fun _ => trivial) (by kernel_rfl) [1, 2, 3, 4, 30, 31, 59] [1, 2] (by kernel_rfl) fun K' hK' => ?_
          repeat (refine sxd_next fun K2 hK2 => ?_; simp [dRows, h4, h5, hpos, hgq, hc, htn, dRow, dInts]; (repeat (refine ⟨by omega, ?_⟩)); refine hK2 _ ?_; clear hK2 K2)
          first | refine sxd_nil (hK' _ ?_) | (refine sxd_next fun K2 hK2 => ?_; clear hK2 hK'; simp [dRows, h4, h5, hpos, hgq, hc, htn, dRow, dInts]; fail "STUCK")
          refine AW.st (by simp [dRows, h4, h5, hpos, hgq, hc, htn, dRow, dInts]; rfl) ?_
          clear hK' K'
          refine AW_cond true rfl (fun _ => ?_) (fun h => by cases h)
          refine AW_rg (tyOf_good _) (fun _ => trivial) [2] [2] fun K' hK' => ?_
          repeat (refine sxf_next fun K2 hK2 => ?_; simp; (repeat (refine ⟨by omega, ?_⟩)); refine hK2 _ ?_; clear hK2 K2)
          first | refine sxf_nil (hK' _ ?_) | (refine sxf_next fun K2 hK2 => ?_; clear hK2 hK'; simp; fail "STUCK")
          refine AW.st (by simp; rfl) ?_
          clear hK' K'
          refine AW_ret ?_
          simp [D.le, D.le.go, takeMap]
          rw [hrow] at hrs
          simp [← hres, ← hrs, dFault, codeF, placeF, dNum, D.le, D.le.go]
      · rw [if_pos (.inl h4)] at hrow
        refine AW_rd (tyOf_good _) (fun _ => trivial) (by kernel_rfl) [1, 2, 3, 4, 30, 31, 59] [1, 2] (by kernel_rfl) fun K' hK' => ?_
        repeat (refine sxd_next fun K2 hK2 => ?_; simp [dRows, h4, hpos, hgq, hc, htn, dRow, dInts]; (repeat (refine ⟨by omega, ?_⟩)); refine hK2 _ ?_; clear hK2 K2)
        first | refine sxd_nil (hK' _ ?_) | (refine sxd_next fun K2 hK2 => ?_; clear hK2 hK'; simp [dRows, h4, hpos, hgq, hc, htn, dRow, dInts]; fail "STUCK")
        refine AW.st (by simp [dRows, h4, hpos, hgq, hc, htn, dRow, dInts]; rfl) ?_
        clear hK' K'
        refine AW_cond true rfl (fun _ => ?_) (fun h => by cases h)
        refine AW_rg (tyOf_good _) (fun _ => trivial) [2] [2] fun K' hK' => ?_
        repeat (refine sxf_next fun K2 hK2 => ?_; simp; (repeat (refine ⟨by omega, ?_⟩)); refine hK2 _ ?_; clear hK2 K2)
        first | refine sxf_nil (hK' _ ?_) | (refine sxf_next fun K2 hK2 => ?_; clear hK2 hK'; simp; fail "STUCK")
        refine AW.st (by simp; rfl) ?_
        clear hK' K'
        refine AW_ret ?_
        simp [D.le, D.le.go, takeMap]
        rw [hrow] at hrs
        simp [← hres, ← hrs, dFault, codeF, placeF, dNum, D.le, D.le.go]
    · obtain rfl : n = next.length := by omega
      refine AW_exit (hK3 _ ?_)
      unfold HasFine at hF
      rw [Nat.sub_self] at hrs
      refine AW_rg (tyOf_good _) (fun _ => trivial) [2] [2] fun K' hK' => ?_
      repeat (refine sxf_next fun K2 hK2 => ?_; simp [hF, dNum]; (repeat (refine ⟨by omega, ?_⟩)); refine hK2 _ ?_; clear hK2 K2)
      first | refine sxf_nil (hK' _ ?_) | (refine sxf_next fun K2 hK2 => ?_; clear hK2 hK'; simp [hF, dNum]; fail "STUCK")
      refine AW.st (by simp [hF, dNum]; rfl) ?_
      clear hK' K'
      refine AW_ret ?_
      simp [D.le, D.le.go, takeMap]
      simp [← hres, ← hrs, rowsF, dFault, codeF, placeF, dNum, D.le, D.le.go]

set_option maxHeartbeats 2000000 in
theorem rblocks_spec (G : Glob) (t : Tab) (ok : Ok t) (k : Nat) (hk : k < 2^20) (hs : Stops t k) : PureC Tryd.prog G 23 [dTab t] (dRow (iter t k)) := by
  have hmost : t.next.length ≤ 500 := ok.most
  have hlen : (iter t k).length = t.next.length := iter_len t k
  have hg : ∀ s (hs : s < (iter t k).length), (iter t k).getD s 0 = (iter t k)[s] := fun s hs => by rw [List.getD_eq_getElem?_getD, List.getElem?_eq_getElem hs]; rfl
  refine PureC.of_body (tyOf_good _) Tryd.func23 rfl rfl (rs := [.tmp 2]) Tryd.results23 (by simp [Tryd.ntmps23]) fun X => ?_
  simp only [Tryd.ntmps23, List.map]
  refine AW_rg (tyOf_good _) (fun _ => trivial) [1] [1] fun K' hK' => ?_
  repeat (refine sxf_next fun K2 hK2 => ?_; simp [dTab]; (repeat (refine ⟨by omega, ?_⟩)); refine hK2 _ ?_; clear hK2 K2)
  first | refine sxf_nil (hK' _ ?_) | (refine sxf_next fun K2 hK2 => ?_; clear hK2 hK'; simp [dTab]; fail "STUCK")
  refine AW.st (by simp [dTab]; rfl) ?_
  clear hK' K'
  refine AW_rg (tyOf_good _) (fun _ => trivial) [1, 3] [1] fun K' hK' => ?_
  repeat (refine sxf_next fun K2 hK2 => ?_; simp [dTab]; (repeat (refine ⟨by omega, ?_⟩)); refine hK2 _ ?_; clear hK2 K2)
  refine sxf_next fun K2 hK2 => ?_
  simp [dTab]
  refine callK.data (apart_spec G t ok k hk hs) (by simp; rfl) (by first | exact D.leGo_refl _ | simp [takeMap, List.map_map, Function.comp_def, D.le, D.le.go, D.le_refl, D.leGo_refl, dTab]) ?_
  refine hK2 _ ?_
  clear hK2 K2
  simp only [putd, upd_lst]
  repeat (refine sxf_next fun K2 hK2 => ?_; simp [dTab]; (repeat (refine ⟨by omega, ?_⟩)); refine hK2 _ ?_; clear hK2 K2)
  first | refine sxf_nil (hK' _ ?_) | (refine sxf_next fun K2 hK2 => ?_; clear hK2 hK'; simp [dTab]; fail "STUCK")
  refine AW.st (by simp [dTab]; rfl) ?_
  clear hK' K'
  refine AW_rg (tyOf_good _) (fun _ => trivial) [1, 3, 4] [1] fun K' hK' => ?_
  repeat (refine sxf_next fun K2 hK2 => ?_; simp; (repeat (refine ⟨by omega, ?_⟩)); refine hK2 _ ?_; clear hK2 K2)
  first | refine sxf_nil (hK' _ ?_) | (refine sxf_next fun K2 hK2 => ?_; clear hK2 hK'; simp; fail "STUCK")
  refine AW.st (by simp; rfl) ?_
  clear hK' K'
  refine AW_rg (tyOf_good _) (fun _ => trivial) [1, 3, 4, 5] [1] fun K' hK' => ?_
  repeat (refine sxf_next fun K2 hK2 => ?_; simp; (repeat (refine ⟨by omega, ?_⟩)); refine hK2 _ ?_; clear hK2 K2)
  first | refine sxf_nil (hK' _ ?_) | (refine sxf_next fun K2 hK2 => ?_; clear hK2 hK'; simp; fail "STUCK")
  refine AW.st (by simp; rfl) ?_
  clear hK' K'
  refine AW_then fun K1 hK1 => ?_
  refine AW_rg (tyOf_good _) (fun _ => trivial) [3, 4, 5, 13, 14] [1] fun K' hK' => ?_
  repeat (refine sxf_next fun K2 hK2 => ?_; simp [dRows]; (repeat (refine ⟨by omega, ?_⟩)); refine hK2 _ ?_; clear hK2 K2)
  first | refine sxf_nil (hK' _ ?_) | (refine sxf_next fun K2 hK2 => ?_; clear hK2 hK'; simp [dRows]; fail "STUCK")
  refine AW.st (by simp [dRows]; rfl) ?_
  clear hK' K'
  refine AW_for (S := Nat) (fun s => s ≤ t.next.length) (fun s => ⟨lst [(3, .d (dMat t.next.length (apM t k))), (4, .own 60 0 s), (5, int (bn t k s)), (13, int t.next.length), (14, int s)], hlst [(1, boxA t), (60, rowI ((iter t k).take s))]⟩) (fun s => t.next.length - s) 0 ?_ (by omega) ?_
  · refine (Imp.adopt 4 60 3 1 rfl rfl).trans ?_
    refine Imp.to' (fun _ => trivial) (by simp [boxA, rowI, dRows, dRow, dInts, bn_zero]) (by simp [boxA, rowI, dRows, dRow, dInts, bn_zero])
  · intro s hsn
    have hbn : bn t k s ≤ s := bn_le hsn
    refine AW_rg (tyOf_good _) (fun _ => trivial) [3, 4, 5, 13, 14, 15] [1, 60] fun K' hK' => ?_
    repeat (refine sxf_next fun K2 hK2 => ?_; simp [boxA, rowI]; (repeat (refine ⟨by omega, ?_⟩)); refine hK2 _ ?_; clear hK2 K2)
    first | refine sxf_nil (hK' _ ?_) | (refine sxf_next fun K2 hK2 => ?_; clear hK2 hK'; simp [boxA, rowI]; fail "STUCK")
    refine AW.st (by simp [boxA, rowI]; rfl) ?_
    clear hK' K'
    refine AW_then fun K2 hK2 => ?_
    refine AW_cond' (b := s < t.next.length) (by simp [D.le, D.le.go, takeMap]) (fun hc => ?_) (fun hc => ?_)
    · have hs1 : s < t.next.length := hc
      have hs2 : s < t.n := hc
      have hsl : s < (iter t k).length := by omega
      refine AW_skip (hK2 _ ?_)
      refine AW_then fun K3 hK3 => ?_
      refine AW_block ?_
      refine AW_rg (tyOf_good _) (fun _ => trivial) [3, 4, 5, 6, 13, 14] [1, 60] fun K' hK' => ?_
      repeat (refine sxf_next fun K2 hK2 => ?_; simp [boxA, rowI]; (repeat (refine ⟨by omega, ?_⟩)); refine hK2 _ ?_; clear hK2 K2)
      first | refine sxf_nil (hK' _ ?_) | (refine sxf_next fun K2 hK2 => ?_; clear hK2 hK'; simp [boxA, rowI]; fail "STUCK")
      refine AW.st (by simp [boxA, rowI]; rfl) ?_
      clear hK' K'
      refine AW_rg (tyOf_good _) (fun _ => trivial) [3, 4, 5, 6, 7, 13, 14] [1, 60] fun K' hK' => ?_
      repeat (refine sxf_next fun K2 hK2 => ?_; simp [boxA, rowI]; (repeat (refine ⟨by omega, ?_⟩)); refine hK2 _ ?_; clear hK2 K2)
      first | refine sxf_nil (hK' _ ?_) | (refine sxf_next fun K2 hK2 => ?_; clear hK2 hK'; simp [boxA, rowI]; fail "STUCK")
      refine AW.st (by simp [boxA, rowI]; rfl) ?_
      clear hK' K'
      refine AW_then fun K4 hK4 => ?_
      refine AW_rg (tyOf_good _) (fun _ => trivial) [3, 4, 5, 6, 7, 13, 14, 17, 18] [1, 60] fun K' hK' => ?_
      repeat (refine sxf_next fun K2 hK2 => ?_; simp [boxA, rowI]; (repeat (refine ⟨by omega, ?_⟩)); refine hK2 _ ?_; clear hK2 K2)
      first | refine sxf_nil (hK' _ ?_) | (refine sxf_next fun K2 hK2 => ?_; clear hK2 hK'; simp [boxA, rowI]; fail "STUCK")
      refine AW.st (by simp [boxA, rowI]; rfl) ?_
      clear hK' K'
      refine AW_for (S := Nat) (fun r => r ≤ s) (fun r => ⟨lst [(3, .d (dMat t.next.length (apM t k))), (4, .own 60 0 s), (5, int (bn t k s)), (6, int s), (7, int (foundK t k s r)), (13, int t.next.length), (14, int s), (17, int s), (18, int r)], hlst [(1, boxA t), (60, rowI ((iter t k).take s))]⟩) (fun r => s - r) 0 ?_ (by omega) ?_
      · refine Imp.to' (fun _ => trivial) (by simp [boxA, rowI, dRows, dRow, dInts, foundK_zero]) (by simp [boxA, rowI, dRows, dRow, dInts, foundK_zero])
      · intro r hr
        refine AW_rg (tyOf_good _) (fun _ => trivial) [3, 4, 5, 6, 7, 13, 14, 17, 18, 19] [1, 60] fun K' hK' => ?_
        repeat (refine sxf_next fun K2 hK2 => ?_; simp [boxA, rowI]; (repeat (refine ⟨by omega, ?_⟩)); refine hK2 _ ?_; clear hK2 K2)
        first | refine sxf_nil (hK' _ ?_) | (refine sxf_next fun K2 hK2 => ?_; clear hK2 hK'; simp [boxA, rowI]; fail "STUCK")
        refine AW.st (by simp [boxA, rowI]; rfl) ?_
        clear hK' K'
        refine AW_then fun K5 hK5 => ?_
        refine AW_cond' (b := r < s) (by simp [D.le, D.le.go, takeMap]) (fun hc => ?_) (fun hc => ?_)
        · have hrs : r < s := hc
          have hr1 : r < t.next.length := by omega
          have hrl : r < (iter t k).length := by omega
          have hap := (apM_spec ok k r s (show r < t.n by omega) hs2).1
          unfold Al at hap
          refine AW_skip (hK5 _ ?_)
          refine AW_then fun K6 hK6 => ?_
          refine AW_block ?_
          refine AW_rg (tyOf_good _) (fun _ => trivial) [3, 4, 5, 6, 7, 8, 13, 14, 17, 18] [1, 60] fun K' hK' => ?_
          repeat (refine sxf_next fun K2 hK2 => ?_; simp [boxA, rowI]; (repeat (refine ⟨by omega, ?_⟩)); refine hK2 _ ?_; clear hK2 K2)
          first | refine sxf_nil (hK' _ ?_) | (refine sxf_next fun K2 hK2 => ?_; clear hK2 hK'; simp [boxA, rowI]; fail "STUCK")
          refine AW.st (by simp [boxA, rowI]; rfl) ?_
          clear hK' K'
          by_cases hneg : foundK t k s r < 0
          · by_cases h0 : apM t k r s = 0
            · have hit := hap.1 h0
              refine AW_rg (tyOf_good _) (fun _ => trivial) [3, 4, 5, 6, 7, 8, 13, 14, 17, 18, 32] [1, 60] fun K' hK' => ?_
              repeat (refine sxf_next fun K2 hK2 => ?_; simp [boxA, rowI, hneg, dMat, rowM, hr1, hs1, h0]; (repeat (refine ⟨by omega, ?_⟩)); refine hK2 _ ?_; clear hK2 K2)
              first | refine sxf_nil (hK' _ ?_) | (refine sxf_next fun K2 hK2 => ?_; clear hK2 hK'; simp [boxA, rowI, hneg, dMat, rowM, hr1, hs1, h0]; fail "STUCK")
              refine AW.st (by simp [boxA, rowI, hneg, dMat, rowM, hr1, hs1, h0]; rfl) ?_
              clear hK' K'
              refine AW_cond true rfl (fun _ => ?_) (fun h => by cases h)
              refine AW_re (tyOf_good _) (fun _ => trivial) fun K' hK' => ?_
              repeat (refine sxf_next fun K2 hK2 => ?_; simp [boxA, rowI, hrs, hrl]; (repeat (refine ⟨by omega, ?_⟩)); refine hK2 _ ?_; clear hK2 K2)
              first | refine sxf_nil (hK' _ ?_) | (refine sxf_next fun K2 hK2 => ?_; clear hK2 hK'; simp [boxA, rowI, hrs, hrl]; fail "STUCK")
              clear hK' K'
              refine hK6 _ (AW.norm (fun _ => trivial) [3, 4, 5, 6, 7, 13, 14, 17, 18] [1, 60] (AW.st (by simp [boxA, rowI, hrs, hrl]; rfl) ?_))
              refine AW_re (tyOf_good _) (fun _ => trivial) fun K' hK' => ?_
              repeat (refine sxf_next fun K2 hK2 => ?_; simp; (repeat (refine ⟨by omega, ?_⟩)); refine hK2 _ ?_; clear hK2 K2)
              first | refine sxf_nil (hK' _ ?_) | (refine sxf_next fun K2 hK2 => ?_; clear hK2 hK'; simp; fail "STUCK")
              clear hK' K'
              try simp only [thn, inb]
              refine Again.mk (r + 1) (by omega) (by omega) ?_
              have hf := foundK_hit hit
              rw [← hit, hg r hrl] at hf
              refine Imp.to' (fun _ => trivial) (by simp [dMat, rowM, boxA, rowI, hf, dNum, hrs, hrl]) (by simp [dMat, rowM, boxA, rowI, hf, dNum, hrs, hrl])
            · have hne : (iter t k).getD r 0 ≠ (iter t k).getD s 0 := fun h => h0 (hap.2 h)
              refine AW_rg (tyOf_good _) (fun _ => trivial) [3, 4, 5, 6, 7, 8, 13, 14, 17, 18, 32] [1, 60] fun K' hK' => ?_
              repeat (refine sxf_next fun K2 hK2 => ?_; simp [boxA, rowI, hneg, dMat, rowM, hr1, hs1, h0]; (repeat (refine ⟨by omega, ?_⟩)); refine hK2 _ ?_; clear hK2 K2)
              first | refine sxf_nil (hK' _ ?_) | (refine sxf_next fun K2 hK2 => ?_; clear hK2 hK'; simp [boxA, rowI, hneg, dMat, rowM, hr1, hs1, h0]; fail "STUCK")
              refine AW.st (by simp [boxA, rowI, hneg, dMat, rowM, hr1, hs1, h0]; rfl) ?_
              clear hK' K'
              refine AW_cond false rfl (fun h => by cases h) (fun _ => ?_)
              refine AW_skip (hK6 _ ?_)
              refine AW_re (tyOf_good _) (fun _ => trivial) fun K' hK' => ?_
              repeat (refine sxf_next fun K2 hK2 => ?_; simp; (repeat (refine ⟨by omega, ?_⟩)); refine hK2 _ ?_; clear hK2 K2)
              first | refine sxf_nil (hK' _ ?_) | (refine sxf_next fun K2 hK2 => ?_; clear hK2 hK'; simp; fail "STUCK")
              clear hK' K'
              try simp only [thn, inb]
              refine Again.mk (r + 1) (by omega) (by omega) ?_
              have hf := foundK_miss hne
              refine Imp.to' (fun _ => trivial) (by simp [dMat, rowM, boxA, rowI, hf]) (by simp [dMat, rowM, boxA, rowI, hf])
          · refine AW_rg (tyOf_good _) (fun _ => trivial) [3, 4, 5, 6, 7, 8, 13, 14, 17, 18, 32] [1, 60] fun K' hK' => ?_
            repeat (refine sxf_next fun K2 hK2 => ?_; simp [boxA, rowI, hneg, dMat, rowM, hr1, hs1]; (repeat (refine ⟨by omega, ?_⟩)); refine hK2 _ ?_; clear hK2 K2)
            first | refine sxf_nil (hK' _ ?_) | (refine sxf_next fun K2 hK2 => ?_; clear hK2 hK'; simp [boxA, rowI, hneg, dMat, rowM, hr1, hs1]; fail "STUCK")
            refine AW.st (by simp [boxA, rowI, hneg, dMat, rowM, hr1, hs1]; rfl) ?_
            clear hK' K'
            refine AW_cond false rfl (fun h => by cases h) (fun _ => ?_)
            refine AW_skip (hK6 _ ?_)
            refine AW_re (tyOf_good _) (fun _ => trivial) fun K' hK' => ?_
            repeat (refine sxf_next fun K2 hK2 => ?_; simp; (repeat (refine ⟨by omega, ?_⟩)); refine hK2 _ ?_; clear hK2 K2)
            first | refine sxf_nil (hK' _ ?_) | (refine sxf_next fun K2 hK2 => ?_; clear hK2 hK'; simp; fail "STUCK")
            clear hK' K'
            try simp only [thn, inb]
            refine Again.mk (r + 1) (by omega) (by omega) ?_
            have hf := foundK_keep hs hs2 (by omega : 0 ≤ foundK t k s r)
            refine Imp.to' (fun _ => trivial) (by simp [dMat, rowM, boxA, rowI, hf]) (by simp [dMat, rowM, boxA, rowI, hf])
        · obtain rfl : r = s := by omega
          refine AW_exit (hK4 _ ?_)
          refine AW_then fun K7 hK7 => ?_
          have htk : (iter t k).take (r + 1) = (iter t k).take r ++ [(iter t k)[r]] := List.take_succ_eq_append_getElem hsl
          have hlt : ((iter t k).take r).length = r := by rw [List.length_take]; omega
          have hpt : ∀ f : Int → List D, List.take r (List.map f ((iter t k).take r)) = List.map f ((iter t k).take r) := fun f => List.take_of_length_le (by rw [List.length_map, hlt]; exact Nat.le_refl _)
          by_cases hneg : foundK t k r r < 0
          · obtain ⟨hb1, hb2⟩ := blk_new hs hs2 (foundK_neg hs hs2 hneg)
            rw [hg r hsl] at hb2
            refine AW_rg (tyOf_good _) (fun _ => trivial) [3, 4, 5, 7, 13, 14, 39] [1, 60] fun K' hK' => ?_
            repeat (refine sxf_next fun K2 hK2 => ?_; simp [boxA, rowI, hneg]; (repeat (refine ⟨by omega, ?_⟩)); refine hK2 _ ?_; clear hK2 K2)
            first | refine sxf_nil (hK' _ ?_) | (refine sxf_next fun K2 hK2 => ?_; clear hK2 hK'; simp [boxA, rowI, hneg]; fail "STUCK")
            refine AW.st (by simp [boxA, rowI, hneg]; rfl) ?_
            clear hK' K'
            refine AW_cond true rfl (fun _ => ?_) (fun h => by cases h)
            refine AW_rg (tyOf_good _) (fun _ => trivial) [3, 4, 5, 7, 13, 14] [1, 60] fun K' hK' => ?_
            repeat (refine sxf_next fun K2 hK2 => ?_; simp [boxA, rowI]; (repeat (refine ⟨by omega, ?_⟩)); refine hK2 _ ?_; clear hK2 K2)
            first | refine sxf_nil (hK' _ ?_) | (refine sxf_next fun K2 hK2 => ?_; clear hK2 hK'; simp [boxA, rowI]; fail "STUCK")
            refine AW.st (by simp [boxA, rowI]; rfl) ?_
            clear hK' K'
            refine AW_re (tyOf_good _) (fun _ => trivial) fun K' hK' => ?_
            repeat (refine sxf_next fun K2 hK2 => ?_; simp [boxA, rowI]; (repeat (refine ⟨by omega, ?_⟩)); refine hK2 _ ?_; clear hK2 K2)
            first | refine sxf_nil (hK' _ ?_) | (refine sxf_next fun K2 hK2 => ?_; clear hK2 hK'; simp [boxA, rowI]; fail "STUCK")
            clear hK' K'
            refine hK7 _ (AW.norm (fun _ => trivial) [3, 4, 5, 7, 13, 14] [1, 60] (AW.st (by simp [boxA, rowI]; rfl) ?_))
            refine AW_re (tyOf_good _) (fun _ => trivial) fun K' hK' => ?_
            repeat (refine sxf_next fun K2 hK2 => ?_; simp [boxA, rowI, hlt, hpt]; (repeat (refine ⟨by omega, ?_⟩)); refine hK2 _ ?_; clear hK2 K2)
            first | refine sxf_nil (hK' _ ?_) | (refine sxf_next fun K2 hK2 => ?_; clear hK2 hK'; simp [boxA, rowI, hlt, hpt]; fail "STUCK")
            clear hK' K'
            refine hK3 _ (AW.norm (fun _ => trivial) [3, 4, 5, 13, 14] [1, 60] (AW.st (by simp [boxA, rowI, hlt, hpt]; rfl) ?_))
            refine AW_re (tyOf_good _) (fun _ => trivial) fun K' hK' => ?_
            repeat (refine sxf_next fun K2 hK2 => ?_; simp; (repeat (refine ⟨by omega, ?_⟩)); refine hK2 _ ?_; clear hK2 K2)
            first | refine sxf_nil (hK' _ ?_) | (refine sxf_next fun K2 hK2 => ?_; clear hK2 hK'; simp; fail "STUCK")
            clear hK' K'
            try simp only [thn, inb]
            refine Again.mk (r + 1) (by omega) (by omega) ?_
            refine Imp.to' (fun _ => trivial) (by simp [boxA, rowI, htk, hb1, hb2, dNum, List.take_take]) (by simp [boxA, rowI, htk, hb1, hb2, dNum, List.take_take])
          · obtain ⟨hv, q, hq, he⟩ := foundK_pos hneg
            obtain ⟨hb1, hb2⟩ := blk_old hs hs2 hq he
            rw [hg r hsl] at hv
            refine AW_rg (tyOf_good _) (fun _ => trivial) [3, 4, 5, 7, 13, 14, 39] [1, 60] fun K' hK' => ?_
            repeat (refine sxf_next fun K2 hK2 => ?_; simp [boxA, rowI, hneg]; (repeat (refine ⟨by omega, ?_⟩)); refine hK2 _ ?_; clear hK2 K2)
            first | refine sxf_nil (hK' _ ?_) | (refine sxf_next fun K2 hK2 => ?_; clear hK2 hK'; simp [boxA, rowI, hneg]; fail "STUCK")
            refine AW.st (by simp [boxA, rowI, hneg]; rfl) ?_
            clear hK' K'
            refine AW_cond false rfl (fun h => by cases h) (fun _ => ?_)
            refine AW_skip (hK7 _ ?_)
            rw [hv]
            generalize (iter t k)[r] = v at htk ⊢
            refine AW_re (tyOf_good _) (fun _ => trivial) fun K' hK' => ?_
            repeat (refine sxf_next fun K2 hK2 => ?_; simp [boxA, rowI, hlt, hpt]; (repeat (refine ⟨by omega, ?_⟩)); refine hK2 _ ?_; clear hK2 K2)
            first | refine sxf_nil (hK' _ ?_) | (refine sxf_next fun K2 hK2 => ?_; clear hK2 hK'; simp [boxA, rowI, hlt, hpt]; fail "STUCK")
            clear hK' K'
            refine hK3 _ (AW.norm (fun _ => trivial) [3, 4, 5, 13, 14] [1, 60] (AW.st (by simp [boxA, rowI, hlt, hpt]; rfl) ?_))
            refine AW_re (tyOf_good _) (fun _ => trivial) fun K' hK' => ?_
            repeat (refine sxf_next fun K2 hK2 => ?_; simp; (repeat (refine ⟨by omega, ?_⟩)); refine hK2 _ ?_; clear hK2 K2)
            first | refine sxf_nil (hK' _ ?_) | (refine sxf_next fun K2 hK2 => ?_; clear hK2 hK'; simp; fail "STUCK")
            clear hK' K'
            try simp only [thn, inb]
            refine Again.mk (r + 1) (by omega) (by omega) ?_
            refine Imp.to' (fun _ => trivial) (by simp [boxA, rowI, htk, hb1, dNum, List.take_take]) (by simp [boxA, rowI, htk, hb1, dNum, List.take_take])
    · obtain rfl : s = t.next.length := by omega
      have hta : (iter t k).take t.next.length = iter t k := List.take_of_length_le (by omega)
      refine AW_exit (hK1 _ ?_)
      refine AW_rg (tyOf_good _) (fun _ => trivial) [2] [60] fun K' hK' => ?_
      repeat (refine sxf_next fun K2 hK2 => ?_; simp [rowI, hta]; (repeat (refine ⟨by omega, ?_⟩)); refine hK2 _ ?_; clear hK2 K2)
      first | refine sxf_nil (hK' _ ?_) | (refine sxf_next fun K2 hK2 => ?_; clear hK2 hK'; simp [rowI, hta]; fail "STUCK")
      refine AW.st (by simp [rowI, hta]; rfl) ?_
      clear hK' K'
      rw [← hlen]
      refine AW_ret ?_
      simp [D.le, D.le.go, takeMap, dRow, dInts, dNum]
#print axioms tcheck_spec
#print axioms rblocks_spec
end Go.Proofs.YtoikggboakojlaaDoor

/-
  The reference: the least inputs by which two states are told apart; the table of blocks.
-/
namespace Go.Proofs.YtoikggboakojlaaDoor
open Go.Av
set_option linter.unusedSimpArgs false
set_option linter.unusedVariables false

theorem dMat_len (n : Nat) (m : Nat → Nat → Nat) : ((List.range n).map fun x => [D.sl none (rowM n (m x))]).length = n := by simp

/-- What is known of a state and an input of a table that may be. -/
structure AtTab (t : Tab) (a i : Nat) : Prop where
  ha : a < t.next.length
  hia : i < t.next[a].length
  hta : a < t.tells.length
  hit : i < t.tells[a].length
  lo : 0 ≤ t.next[a][i]
  hi : t.next[a][i] < (t.next.length : Int)
  lt : t.next[a][i].toNat < t.next.length
  nx : nx t a i = t.next[a][i].toNat
  te : te t a i = t.tells[a][i]
theorem atTab {t : Tab} (ok : Ok t) {a i : Nat} (ha : a < t.next.length) (hi : i < wd t) : AtTab t a i := by
  have hia : i < t.next[a].length := by have h1 := ok.nextLen a ha; rw [List.getD_eq_getElem?_getD, List.getElem?_eq_getElem ha] at h1; rw [show t.next[a].length = wd t from h1]; exact hi
  obtain ⟨hta, hit, hte⟩ := tells_at ok ha hi
  obtain ⟨h1, h2, h3⟩ := next_at ok ha hi hia
  exact ⟨ha, hia, hta, hit, h1, h2, by omega, h3, hte⟩
theorem wd_at {t : Tab} (ok : Ok t) {a : Nat} (ha : a < t.next.length) : t.next[a].length = wd t := by
  have h1 := ok.nextLen a ha; rw [List.getD_eq_getElem?_getD, List.getElem?_eq_getElem ha] at h1; exact h1

theorem rpart_none (G : Glob) (t : Tab) (ok : Ok t) (k : Nat) (hk : k < 2^20) (hs : Stops t k) (a b : Nat) (ha : a < t.next.length) (hb : b < t.next.length) (hal : Al t k a b) :
    PureC Tryd.prog G 27 [dTab t, dNum a, dNum b] (.tup [.sl (some false) [], .v (.bool false)]) := by
  have h0 : apM t k a b = 0 := (apM_spec ok k a b ha hb).1.2 hal
  refine PureC.of_body (tyOf_good _) Tryd.func27 rfl rfl (rs := [.tmp 6, .tmp 7]) Tryd.results27 (by simp [Tryd.ntmps27]) fun X => ?_
  simp only [Tryd.ntmps27, List.map]
  refine AW_rg (tyOf_good _) (fun _ => trivial) [1, 2, 3] [3] fun K' hK' => ?_
  repeat (refine sxf_next fun K2 hK2 => ?_; simp [dTab, dNum]; (repeat (refine ⟨by omega, ?_⟩)); refine hK2 _ ?_; clear hK2 K2)
  first | refine sxf_nil (hK' _ ?_) | (refine sxf_next fun K2 hK2 => ?_; clear hK2 hK'; simp [dTab, dNum]; fail "STUCK")
  refine AW.st (by simp [dTab, dNum]; rfl) ?_
  clear hK' K'
  refine AW_rg (tyOf_good _) (fun _ => trivial) [1, 2, 3, 8] [3] fun K' hK' => ?_
  repeat (refine sxf_next fun K2 hK2 => ?_; simp [dTab]; (repeat (refine ⟨by omega, ?_⟩)); refine hK2 _ ?_; clear hK2 K2)
  refine sxf_next fun K2 hK2 => ?_
  simp [dTab]
  refine callK.data (apart_spec G t ok k hk hs) (by simp; rfl) (by first | exact D.leGo_refl _ | simp [takeMap, List.map_map, Function.comp_def, D.le, D.le.go, D.le_refl, D.leGo_refl, dTab]) ?_
  refine hK2 _ ?_
  clear hK2 K2
  simp only [putd, upd_lst]
  repeat (refine sxf_next fun K2 hK2 => ?_; simp [dTab]; (repeat (refine ⟨by omega, ?_⟩)); refine hK2 _ ?_; clear hK2 K2)
  first | refine sxf_nil (hK' _ ?_) | (refine sxf_next fun K2 hK2 => ?_; clear hK2 hK'; simp [dTab]; fail "STUCK")
  refine AW.st (by simp [dTab]; rfl) ?_
  clear hK' K'
  refine AW_then fun K1 hK1 => ?_
  refine AW_rg (tyOf_good _) (fun _ => trivial) [1, 2, 3, 8, 23] [3] fun K' hK' => ?_
  repeat (refine sxf_next fun K2 hK2 => ?_; simp [dMat, rowM, ha, hb, h0]; (repeat (refine ⟨by omega, ?_⟩)); refine hK2 _ ?_; clear hK2 K2)
  first | refine sxf_nil (hK' _ ?_) | (refine sxf_next fun K2 hK2 => ?_; clear hK2 hK'; simp [dMat, rowM, ha, hb, h0]; fail "STUCK")
  refine AW.st (by simp [dMat, rowM, ha, hb, h0]; rfl) ?_
  clear hK' K'
  refine AW_cond true rfl (fun _ => ?_) (fun h => by cases h)
  refine AW_rg (tyOf_good _) (fun _ => trivial) [6, 7] [] fun K' hK' => ?_
  repeat (refine sxf_next fun K2 hK2 => ?_; simp; (repeat (refine ⟨by omega, ?_⟩)); refine hK2 _ ?_; clear hK2 K2)
  first | refine sxf_nil (hK' _ ?_) | (refine sxf_next fun K2 hK2 => ?_; clear hK2 hK'; simp; fail "STUCK")
  refine AW.st (by simp; rfl) ?_
  clear hK' K'
  refine AW_ret ?_
  simp [D.le, D.le.go, takeMap]

set_option maxHeartbeats 4000000 in
theorem rpart_good (G : Glob) (t : Tab) (ok : Ok t) (k : Nat) (hk : k < 2^20) (hs : Stops t k) (a b d : Nat) (ha : a < t.next.length) (hb : b < t.next.length) (hdk : d + 1 ≤ k) (h1 : Al t d a b) (h2 : ¬ Al t (d + 1) a b) :
    PureC Tryd.prog G 27 [dTab t, dNum a, dNum b] (.tup [dRow (partF t (d + 1) a b), .v (.bool true)]) := by
  have h0 : apM t k a b = d + 1 := apM_val ok ha hb hdk h1 h2
  have h0' : ¬ (d : Int) + 1 = 0 := by omega
  generalize hR : partF t (d + 1) a b = R
  refine PureC.of_body (tyOf_good _) Tryd.func27 rfl rfl (rs := [.tmp 6, .tmp 7]) Tryd.results27 (by simp [Tryd.ntmps27]) fun X => ?_
  simp only [Tryd.ntmps27, List.map]
  refine AW_rg (tyOf_good _) (fun _ => trivial) [1, 2, 3] [3] fun K' hK' => ?_
  repeat (refine sxf_next fun K2 hK2 => ?_; simp [dTab, dNum]; (repeat (refine ⟨by omega, ?_⟩)); refine hK2 _ ?_; clear hK2 K2)
  first | refine sxf_nil (hK' _ ?_) | (refine sxf_next fun K2 hK2 => ?_; clear hK2 hK'; simp [dTab, dNum]; fail "STUCK")
  refine AW.st (by simp [dTab, dNum]; rfl) ?_
  clear hK' K'
  refine AW_rg (tyOf_good _) (fun _ => trivial) [1, 2, 3, 8] [3] fun K' hK' => ?_
  repeat (refine sxf_next fun K2 hK2 => ?_; simp [dTab]; (repeat (refine ⟨by omega, ?_⟩)); refine hK2 _ ?_; clear hK2 K2)
  refine sxf_next fun K2 hK2 => ?_
  simp [dTab]
  refine callK.data (apart_spec G t ok k hk hs) (by simp; rfl) (by first | exact D.leGo_refl _ | simp [takeMap, List.map_map, Function.comp_def, D.le, D.le.go, D.le_refl, D.leGo_refl, dTab]) ?_
  refine hK2 _ ?_
  clear hK2 K2
  simp only [putd, upd_lst]
  repeat (refine sxf_next fun K2 hK2 => ?_; simp [dTab]; (repeat (refine ⟨by omega, ?_⟩)); refine hK2 _ ?_; clear hK2 K2)
  first | refine sxf_nil (hK' _ ?_) | (refine sxf_next fun K2 hK2 => ?_; clear hK2 hK'; simp [dTab]; fail "STUCK")
  refine AW.st (by simp [dTab]; rfl) ?_
  clear hK' K'
  refine AW_then fun K1 hK1 => ?_
  refine AW_rg (tyOf_good _) (fun _ => trivial) [1, 2, 3, 8, 23] [3] fun K' hK' => ?_
  repeat (refine sxf_next fun K2 hK2 => ?_; simp [dMat, rowM, ha, hb, h0, h0']; (repeat (refine ⟨by omega, ?_⟩)); refine hK2 _ ?_; clear hK2 K2)
  first | refine sxf_nil (hK' _ ?_) | (refine sxf_next fun K2 hK2 => ?_; clear hK2 hK'; simp [dMat, rowM, ha, hb, h0, h0']; fail "STUCK")
  refine AW.st (by simp [dMat, rowM, ha, hb, h0, h0']; rfl) ?_
  clear hK' K'
  refine AW_cond false rfl (fun h => by cases h) (fun _ => ?_)
  refine AW_skip (hK1 _ ?_)
  refine AW_rg (tyOf_good _) (fun _ => trivial) [1, 2, 3, 8, 9] [3] fun K' hK' => ?_
  repeat (refine sxf_next fun K2 hK2 => ?_; simp; (repeat (refine ⟨by omega, ?_⟩)); refine hK2 _ ?_; clear hK2 K2)
  first | refine sxf_nil (hK' _ ?_) | (refine sxf_next fun K2 hK2 => ?_; clear hK2 hK'; simp; fail "STUCK")
  refine AW.st (by simp; rfl) ?_
  clear hK' K'
  refine AW_then fun K2 hK2 => ?_
  refine AW_rg (tyOf_good _) (fun _ => trivial) [1, 2, 3, 8, 9, 10] [3] fun K' hK' => ?_
  repeat (refine sxf_next fun K2 hK2 => ?_; simp [dMat, rowM, ha, hb, h0]; (repeat (refine ⟨by omega, ?_⟩)); refine hK2 _ ?_; clear hK2 K2)
  first | refine sxf_nil (hK' _ ?_) | (refine sxf_next fun K2 hK2 => ?_; clear hK2 hK'; simp [dMat, rowM, ha, hb, h0]; fail "STUCK")
  refine AW.st (by simp [dMat, rowM, ha, hb, h0]; rfl) ?_
  clear hK' K'
  refine AW_for (S := Nat × Nat × Nat × List Int) (fun s => s.1 ≤ d + 1 ∧ s.2.1 < t.next.length ∧ s.2.2.1 < t.next.length ∧ s.2.2.2 ++ partF t s.1 s.2.1 s.2.2.1 = R ∧ s.2.2.2.length + s.1 ≤ d + 1 ∧ (0 < s.1 → Al t (s.1 - 1) s.2.1 s.2.2.1 ∧ ¬ Al t s.1 s.2.1 s.2.2.1))
    (fun s => ⟨lst [(1, int s.2.1), (2, int s.2.2.1), (3, .ref 3 0 0), (8, .d (dMat t.next.length (apM t k))), (9, .own 80 0 s.2.2.2.length), (10, int s.1)], hlst [(3, boxA t), (80, rowI s.2.2.2)]⟩) (fun s => s.1) (d + 1, a, b, []) ?_ ⟨Nat.le_refl _, ha, hb, by simpa using hR, by simp, fun _ => ⟨h1, h2⟩⟩ ?_
  · refine (Imp.adopt 9 80 3 1 rfl rfl).trans ?_
    refine Imp.to' (fun _ => trivial) (by simp [boxA, rowI, dRows, dRow, dInts, dMat, rowM]) (by simp [boxA, rowI, dRows, dRow, dInts, dMat, rowM])
  · rintro ⟨m, a1, b1, out⟩ ⟨hm, ha1, hb1, hout, hol, hal⟩
    dsimp only at hm ha1 hb1 hout hol hal ⊢
    refine AW_then fun K3 hK3 => ?_
    cases m with
    | zero =>
      refine AW_rg (tyOf_good _) (fun _ => trivial) [1, 2, 3, 8, 9, 10, 32] [3, 80] fun K' hK' => ?_
      repeat (refine sxf_next fun K2 hK2 => ?_; simp; (repeat (refine ⟨by omega, ?_⟩)); refine hK2 _ ?_; clear hK2 K2)
      first | refine sxf_nil (hK' _ ?_) | (refine sxf_next fun K2 hK2 => ?_; clear hK2 hK'; simp; fail "STUCK")
      refine AW.st (by simp; rfl) ?_
      clear hK' K'
      refine AW_cond false rfl (fun h => by cases h) (fun _ => ?_)
      refine AW_exit (hK2 _ ?_)
      simp only [partF, List.append_nil] at hout
      subst hout
      refine AW_rg (tyOf_good _) (fun _ => trivial) [6, 7] [80] fun K' hK' => ?_
      repeat (refine sxf_next fun K2 hK2 => ?_; simp; (repeat (refine ⟨by omega, ?_⟩)); refine hK2 _ ?_; clear hK2 K2)
      first | refine sxf_nil (hK' _ ?_) | (refine sxf_next fun K2 hK2 => ?_; clear hK2 hK'; simp; fail "STUCK")
      refine AW.st (by simp; rfl) ?_
      clear hK' K'
      refine AW_ret ?_
      simp [D.le, D.le.go, takeMap, rowI, dRow, dInts, dNum, D.le_refl]
    | succ q =>
      obtain ⟨hal1, hal2⟩ := hal (by omega)
      rw [Nat.add_sub_cancel] at hal1
      obtain ⟨c, hc, hhit, hmis, hnext⟩ := part_step ok ha1 hb1 hal1 hal2
      have hw64 : wd t ≤ 64 := ok.ins
      have hwa := wd_at ok ha1
      refine AW_rg (tyOf_good _) (fun _ => trivial) [1, 2, 3, 8, 9, 10, 32] [3, 80] fun K' hK' => ?_
      repeat (refine sxf_next fun K2 hK2 => ?_; simp; (repeat (refine ⟨by omega, ?_⟩)); refine hK2 _ ?_; clear hK2 K2)
      first | refine sxf_nil (hK' _ ?_) | (refine sxf_next fun K2 hK2 => ?_; clear hK2 hK'; simp; fail "STUCK")
      refine AW.st (by simp; rfl) ?_
      clear hK' K'
      refine AW_cond true rfl (fun _ => ?_) (fun h => by cases h)
      refine AW_skip (hK3 _ ?_)
      refine AW_then fun K4 hK4 => ?_
      refine AW_block ?_
      refine AW_rg (tyOf_good _) (fun _ => trivial) [1, 2, 3, 8, 9, 10, 40, 41] [3, 80] fun K' hK' => ?_
      repeat (refine sxf_next fun K2 hK2 => ?_; simp [boxA, dRows, dRow, dInts, ha1, hwa]; (repeat (refine ⟨by omega, ?_⟩)); refine hK2 _ ?_; clear hK2 K2)
      first | refine sxf_nil (hK' _ ?_) | (refine sxf_next fun K2 hK2 => ?_; clear hK2 hK'; simp [boxA, dRows, dRow, dInts, ha1, hwa]; fail "STUCK")
      refine AW.st (by simp [boxA, dRows, dRow, dInts, ha1, hwa]; rfl) ?_
      clear hK' K'
      refine AW_for (S := Nat) (fun i => i ≤ c) (fun i => ⟨lst [(1, int a1), (2, int b1), (3, .ref 3 0 0), (8, .d (dMat t.next.length (apM t k))), (9, .own 80 0 out.length), (10, int (q + 1)), (40, int (wd t)), (41, int i)], hlst [(3, boxA t), (80, rowI out)]⟩) (fun i => wd t - i) 0 ?_ (by simp) ?_
      · refine Imp.to' (fun _ => trivial) (by simp [boxA, rowI, dRows, dRow, dInts]) (by simp [boxA, rowI, dRows, dRow, dInts])
      · intro i hi
        have hiw : i < wd t := by omega
        obtain ⟨_, hia, hta, hita, lo1, hi1, lt1, nx1, te1⟩ := atTab ok ha1 hiw
        obtain ⟨_, hib, htb, hitb, lo2, hi2, lt2, nx2, te2⟩ := atTab ok hb1 hiw
        refine AW_rg (tyOf_good _) (fun _ => trivial) [1, 2, 3, 8, 9, 10, 40, 41, 42] [3, 80] fun K' hK' => ?_
        repeat (refine sxf_next fun K2 hK2 => ?_; simp [boxA, rowI, hiw]; (repeat (refine ⟨by omega, ?_⟩)); refine hK2 _ ?_; clear hK2 K2)
        first | refine sxf_nil (hK' _ ?_) | (refine sxf_next fun K2 hK2 => ?_; clear hK2 hK'; simp [boxA, rowI, hiw]; fail "STUCK")
        refine AW.st (by simp [boxA, rowI, hiw]; rfl) ?_
        clear hK' K'
        refine AW_then fun K5 hK5 => ?_
        refine AW_cond true rfl (fun _ => ?_) (fun h => by cases h)
        refine AW_skip (hK5 _ ?_)
        refine AW_then fun K6 hK6 => ?_
        refine AW_block ?_
        refine AW_rg (tyOf_good _) (fun _ => trivial) [1, 2, 3, 8, 9, 10, 11, 40, 41] [3, 80] fun K' hK' => ?_
        repeat (refine sxf_next fun K2 hK2 => ?_; simp [boxA, rowI]; (repeat (refine ⟨by omega, ?_⟩)); refine hK2 _ ?_; clear hK2 K2)
        first | refine sxf_nil (hK' _ ?_) | (refine sxf_next fun K2 hK2 => ?_; clear hK2 hK'; simp [boxA, rowI]; fail "STUCK")
        refine AW.st (by simp [boxA, rowI]; rfl) ?_
        clear hK' K'
        refine AW_rd (tyOf_good _) (fun _ => trivial) (by kernel_rfl) [1, 2, 3, 8, 9, 10, 11, 12, 13, 40, 41] [3, 80] (by kernel_rfl) fun K' hK' => ?_
        repeat (refine sxd_next fun K2 hK2 => ?_; simp [boxA, rowI, dRows, dRow, dInts, ha1, hb1, hia, hib]; (repeat (refine ⟨by omega, ?_⟩)); refine hK2 _ ?_; clear hK2 K2)
        first | refine sxd_nil (hK' _ ?_) | (refine sxd_next fun K2 hK2 => ?_; clear hK2 hK'; simp [boxA, rowI, dRows, dRow, dInts, ha1, hb1, hia, hib]; fail "STUCK")
        refine AW.st (by simp [boxA, rowI, dRows, dRow, dInts, ha1, hb1, hia, hib]; rfl) ?_
        clear hK' K'
        have href := hit_ref ok ha1 hb1 (k := k) (by omega) hiw hal1
        rw [nx1, nx2, te1, te2] at href
        have hadv : ∀ (v : Bool), (if i = c then true else false) = v → hitF t (q + 1) a1 b1 i = v := by
          intro v hv
          by_cases hic : i = c
          · rw [if_pos hic] at hv; rw [← hv, hic]; exact hhit
          · rw [if_neg hic] at hv; rw [← hv]; exact hmis i (by omega)
        by_cases hic : i = c
        · have hh := hadv true (by simp [hic])
          rw [hh] at href
          have hfin : partF t (q + 1) a1 b1 = (i : Int) :: partF t q t.next[a1][i].toNat t.next[b1][i].toNat := by rw [← nx1, ← nx2]; exact partF_hit hiw hh (fun j hj => hmis j (by omega))
          have hxz : ((t.next[a1][i].toNat : Nat) : Int) = t.next[a1][i] := by omega
          have hyz : ((t.next[b1][i].toNat : Nat) : Int) = t.next[b1][i] := by omega
          by_cases hq0 : q = 0
          · subst hq0
            have ht : ¬ t.tells[a1][i] = t.tells[b1][i] := by simpa using href
            refine AW_rd (tyOf_good _) (fun _ => trivial) (by kernel_rfl) [1, 2, 3, 8, 9, 10, 11, 12, 13, 40, 41, 96] [3, 80] (by kernel_rfl) fun K' hK' => ?_
            repeat (refine sxd_next fun K2 hK2 => ?_; simp [boxA, rowI, dRows, dRow, dInts, ht, hta, htb, hita, hitb]; (repeat (refine ⟨by omega, ?_⟩)); refine hK2 _ ?_; clear hK2 K2)
            first | refine sxd_nil (hK' _ ?_) | (refine sxd_next fun K2 hK2 => ?_; clear hK2 hK'; simp [boxA, rowI, dRows, dRow, dInts, ht, hta, htb, hita, hitb]; fail "STUCK")
            refine AW.st (by simp [boxA, rowI, dRows, dRow, dInts, ht, hta, htb, hita, hitb]; rfl) ?_
            clear hK' K'
            refine AW_cond true rfl (fun _ => ?_) (fun h => by cases h)
            refine AW_rg (tyOf_good _) (fun _ => trivial) [3, 8, 9, 10, 12, 13] [3, 80] fun K' hK' => ?_
            repeat (refine sxf_next fun K2 hK2 => ?_; simp [rowI]; (repeat (refine ⟨by omega, ?_⟩)); refine hK2 _ ?_; clear hK2 K2)
            first | refine sxf_nil (hK' _ ?_) | (refine sxf_next fun K2 hK2 => ?_; clear hK2 hK'; simp [rowI]; fail "STUCK")
            refine AW.st (by simp [rowI]; rfl) ?_
            clear hK' K'
            refine AW_rg (tyOf_good _) (fun _ => trivial) [1, 2, 3, 8, 9, 10] [3, 80] fun K' hK' => ?_
            repeat (refine sxf_next fun K2 hK2 => ?_; simp [rowI]; (repeat (refine ⟨by omega, ?_⟩)); refine hK2 _ ?_; clear hK2 K2)
            first | refine sxf_nil (hK' _ ?_) | (refine sxf_next fun K2 hK2 => ?_; clear hK2 hK'; simp [rowI]; fail "STUCK")
            refine AW.st (by simp [rowI]; rfl) ?_
            clear hK' K'
            refine AW_exit (hK4 _ ?_)
            refine AW_re (tyOf_good _) (fun _ => trivial) fun K' hK' => ?_
            repeat (refine sxf_next fun K2 hK2 => ?_; simp; (repeat (refine ⟨by omega, ?_⟩)); refine hK2 _ ?_; clear hK2 K2)
            first | refine sxf_nil (hK' _ ?_) | (refine sxf_next fun K2 hK2 => ?_; clear hK2 hK'; simp; fail "STUCK")
            clear hK' K'
            try simp only [thn, inb]
            refine Again.mk (0, t.next[a1][i].toNat, t.next[b1][i].toNat, out ++ [(i : Int)]) ⟨by omega, lt1, lt2, by rw [← hout, hfin]; simp, by simp; omega, fun h => absurd h (Nat.lt_irrefl 0)⟩ (by simp) ?_
            refine Imp.to' (fun _ => trivial) (by simp [boxA, rowI, dRows, dRow, dInts, dMat, rowM, dNum, hxz, hyz, takeMap]) (by simp [boxA, rowI, dRows, dRow, dInts, dMat, rowM, dNum, hxz, hyz, takeMap])
          · have hqe : ¬ ((q : Int) + 1 = 1) := by omega
            have hqg : (1 : Int) < (q : Int) + 1 := by omega
            have hq1 : 0 < q := by omega
            rw [if_neg hq0] at href
            have hap : apM t k t.next[a1][i].toNat t.next[b1][i].toNat = q := of_decide_eq_true href.symm
            rw [← hic, nx1, nx2] at hnext
            refine AW_rd (tyOf_good _) (fun _ => trivial) (by kernel_rfl) [1, 2, 3, 8, 9, 10, 11, 12, 13, 40, 41, 96] [3, 80] (by kernel_rfl) fun K' hK' => ?_
            repeat (refine sxd_next fun K2 hK2 => ?_; simp [boxA, rowI, dMat, rowM, hq0, hq1, hqe, hqg, lo1, hi1, lt1, lo2, hi2, lt2, hap]; (repeat (refine ⟨by omega, ?_⟩)); refine hK2 _ ?_; clear hK2 K2)
            first | refine sxd_nil (hK' _ ?_) | (refine sxd_next fun K2 hK2 => ?_; clear hK2 hK'; simp [boxA, rowI, dMat, rowM, hq0, hq1, hqe, hqg, lo1, hi1, lt1, lo2, hi2, lt2, hap]; fail "STUCK")
            refine AW.st (by simp [boxA, rowI, dMat, rowM, hq0, hq1, hqe, hqg, lo1, hi1, lt1, lo2, hi2, lt2, hap]; rfl) ?_
            clear hK' K'
            refine AW_cond true rfl (fun _ => ?_) (fun h => by cases h)
            refine AW_rg (tyOf_good _) (fun _ => trivial) [3, 8, 9, 10, 12, 13] [3, 80] fun K' hK' => ?_
            repeat (refine sxf_next fun K2 hK2 => ?_; simp [rowI]; (repeat (refine ⟨by omega, ?_⟩)); refine hK2 _ ?_; clear hK2 K2)
            first | refine sxf_nil (hK' _ ?_) | (refine sxf_next fun K2 hK2 => ?_; clear hK2 hK'; simp [rowI]; fail "STUCK")
            refine AW.st (by simp [rowI]; rfl) ?_
            clear hK' K'
            refine AW_rg (tyOf_good _) (fun _ => trivial) [1, 2, 3, 8, 9, 10] [3, 80] fun K' hK' => ?_
            repeat (refine sxf_next fun K2 hK2 => ?_; simp [rowI]; (repeat (refine ⟨by omega, ?_⟩)); refine hK2 _ ?_; clear hK2 K2)
            first | refine sxf_nil (hK' _ ?_) | (refine sxf_next fun K2 hK2 => ?_; clear hK2 hK'; simp [rowI]; fail "STUCK")
            refine AW.st (by simp [rowI]; rfl) ?_
            clear hK' K'
            refine AW_exit (hK4 _ ?_)
            refine AW_re (tyOf_good _) (fun _ => trivial) fun K' hK' => ?_
            repeat (refine sxf_next fun K2 hK2 => ?_; simp; (repeat (refine ⟨by omega, ?_⟩)); refine hK2 _ ?_; clear hK2 K2)
            first | refine sxf_nil (hK' _ ?_) | (refine sxf_next fun K2 hK2 => ?_; clear hK2 hK'; simp; fail "STUCK")
            clear hK' K'
            try simp only [thn, inb]
            refine Again.mk (q, t.next[a1][i].toNat, t.next[b1][i].toNat, out ++ [(i : Int)]) ⟨by omega, lt1, lt2, by rw [← hout, hfin]; simp, by simp; omega, hnext⟩ (by simp) ?_
            refine Imp.to' (fun _ => trivial) (by simp [boxA, rowI, dRows, dRow, dInts, dMat, rowM, dNum, hxz, hyz, takeMap]) (by simp [boxA, rowI, dRows, dRow, dInts, dMat, rowM, dNum, hxz, hyz, takeMap])
        · have hh := hadv false (by simp [hic])
          rw [hh] at href
          by_cases hq0 : q = 0
          · subst hq0
            have ht : t.tells[a1][i] = t.tells[b1][i] := by simpa using href
            refine AW_rd (tyOf_good _) (fun _ => trivial) (by kernel_rfl) [1, 2, 3, 8, 9, 10, 11, 12, 13, 40, 41, 96] [3, 80] (by kernel_rfl) fun K' hK' => ?_
            repeat (refine sxd_next fun K2 hK2 => ?_; simp [boxA, rowI, dRows, dRow, dInts, ht, hta, htb, hita, hitb]; (repeat (refine ⟨by omega, ?_⟩)); refine hK2 _ ?_; clear hK2 K2)
            first | refine sxd_nil (hK' _ ?_) | (refine sxd_next fun K2 hK2 => ?_; clear hK2 hK'; simp [boxA, rowI, dRows, dRow, dInts, ht, hta, htb, hita, hitb]; fail "STUCK")
            refine AW.st (by simp [boxA, rowI, dRows, dRow, dInts, ht, hta, htb, hita, hitb]; rfl) ?_
            clear hK' K'
            refine AW_cond false rfl (fun h => by cases h) (fun _ => ?_)
            refine AW_skip (hK6 _ ?_)
            refine AW_re (tyOf_good _) (fun _ => trivial) fun K' hK' => ?_
            repeat (refine sxf_next fun K2 hK2 => ?_; simp; (repeat (refine ⟨by omega, ?_⟩)); refine hK2 _ ?_; clear hK2 K2)
            first | refine sxf_nil (hK' _ ?_) | (refine sxf_next fun K2 hK2 => ?_; clear hK2 hK'; simp; fail "STUCK")
            clear hK' K'
            try simp only [thn, inb]
            refine Again.mk (i + 1) (by omega) (by omega) ?_
            refine Imp.to' (fun _ => trivial) (by simp [boxA, rowI, dRows, dRow, dInts, dMat, rowM]) (by simp [boxA, rowI, dRows, dRow, dInts, dMat, rowM])
          · have hqe : ¬ ((q : Int) + 1 = 1) := by omega
            have hqg : (1 : Int) < (q : Int) + 1 := by omega
            have hq1 : 0 < q := by omega
            rw [if_neg hq0] at href
            have hap : ¬ apM t k t.next[a1][i].toNat t.next[b1][i].toNat = q := of_decide_eq_false href.symm
            refine AW_rd (tyOf_good _) (fun _ => trivial) (by kernel_rfl) [1, 2, 3, 8, 9, 10, 11, 12, 13, 40, 41, 96] [3, 80] (by kernel_rfl) fun K' hK' => ?_
            repeat (refine sxd_next fun K2 hK2 => ?_; simp [boxA, rowI, dMat, rowM, hq0, hq1, hqe, hqg, lo1, hi1, lt1, lo2, hi2, lt2, hap]; (repeat (refine ⟨by omega, ?_⟩)); refine hK2 _ ?_; clear hK2 K2)
            first | refine sxd_nil (hK' _ ?_) | (refine sxd_next fun K2 hK2 => ?_; clear hK2 hK'; simp [boxA, rowI, dMat, rowM, hq0, hq1, hqe, hqg, lo1, hi1, lt1, lo2, hi2, lt2, hap]; fail "STUCK")
            refine AW.st (by simp [boxA, rowI, dMat, rowM, hq0, hq1, hqe, hqg, lo1, hi1, lt1, lo2, hi2, lt2, hap]; rfl) ?_
            clear hK' K'
            refine AW_cond false rfl (fun h => by cases h) (fun _ => ?_)
            refine AW_skip (hK6 _ ?_)
            refine AW_re (tyOf_good _) (fun _ => trivial) fun K' hK' => ?_
            repeat (refine sxf_next fun K2 hK2 => ?_; simp; (repeat (refine ⟨by omega, ?_⟩)); refine hK2 _ ?_; clear hK2 K2)
            first | refine sxf_nil (hK' _ ?_) | (refine sxf_next fun K2 hK2 => ?_; clear hK2 hK'; simp; fail "STUCK")
            clear hK' K'
            try simp only [thn, inb]
            refine Again.mk (i + 1) (by omega) (by omega) ?_
            refine Imp.to' (fun _ => trivial) (by simp [boxA, rowI, dRows, dRow, dInts, dMat, rowM]) (by simp [boxA, rowI, dRows, dRow, dInts, dMat, rowM])

#print axioms rpart_good
end Go.Proofs.YtoikggboakojlaaDoor

/-
  What the statements hold answers with: like lists, errors and their places; tables that are few.
-/
namespace Go.Proofs.YtoikggboakojlaaDoor
open Go.Av
set_option linter.unusedSimpArgs false
set_option linter.unusedVariables false

set_option maxHeartbeats 1000000 in
theorem lsameInts_spec (G : Glob) (k k' : Option Bool) (l l' : List Int) (h : l.length < 2^63) : PureC Tryd.prog G 22 [dInts k l, dInts k' l'] (.v (.bool (l == l'))) := by
  refine PureC.of_body (tyOf_good _) Tryd.func22 rfl rfl (rs := [.tmp 4]) Tryd.results22 (by simp [Tryd.ntmps22]) fun X => ?_
  simp only [Tryd.ntmps22, List.map]
  refine AW_rg (tyOf_good _) (fun _ => trivial) [0, 1] [] fun K' hK' => ?_
  repeat (refine sxf_next fun K2 hK2 => ?_; simp; (repeat (refine ⟨by omega, ?_⟩)); refine hK2 _ ?_; clear hK2 K2)
  first | refine sxf_nil (hK' _ ?_) | (refine sxf_next fun K2 hK2 => ?_; clear hK2 hK'; simp; fail "STUCK")
  refine AW.st (by simp; rfl) ?_
  clear hK' K'
  refine AW_then fun K1 hK1 => ?_
  refine AW_rg (tyOf_good _) (fun _ => trivial) [0, 1, 10] [] fun K' hK' => ?_
  repeat (refine sxf_next fun K2 hK2 => ?_; simp [dInts]; (repeat (refine ⟨by omega, ?_⟩)); refine hK2 _ ?_; clear hK2 K2)
  first | refine sxf_nil (hK' _ ?_) | (refine sxf_next fun K2 hK2 => ?_; clear hK2 hK'; simp [dInts]; fail "STUCK")
  refine AW.st (by simp [dInts]; rfl) ?_
  clear hK' K'
  refine AW_cond' (b := l.length ≠ l'.length) (by simp [D.le, D.le.go, takeMap]) (fun hc => ?_) (fun hc => ?_)
  · refine AW_rg (tyOf_good _) (fun _ => trivial) [4] [] fun K' hK' => ?_
    repeat (refine sxf_next fun K2 hK2 => ?_; simp; (repeat (refine ⟨by omega, ?_⟩)); refine hK2 _ ?_; clear hK2 K2)
    first | refine sxf_nil (hK' _ ?_) | (refine sxf_next fun K2 hK2 => ?_; clear hK2 hK'; simp; fail "STUCK")
    refine AW.st (by simp; rfl) ?_
    clear hK' K'
    refine AW_ret ?_
    simp [D.le, D.le.go, takeMap]
    intro e; subst e; simp at hc
  · refine AW_skip (hK1 _ ?_)
    have hl : l.length = l'.length := by simpa using hc
    refine AW_then fun K2 hK2 => ?_
    refine AW_rg (tyOf_good _) (fun _ => trivial) [0, 1, 5] [] fun K' hK' => ?_
    repeat (refine sxf_next fun K2 hK2 => ?_; simp [dInts]; (repeat (refine ⟨by omega, ?_⟩)); refine hK2 _ ?_; clear hK2 K2)
    first | refine sxf_nil (hK' _ ?_) | (refine sxf_next fun K2 hK2 => ?_; clear hK2 hK'; simp [dInts]; fail "STUCK")
    refine AW.st (by simp [dInts]; rfl) ?_
    clear hK' K'
    refine AW_for (S := Nat) (fun n => n ≤ l.length ∧ l.take n = l'.take n) (fun n => ⟨lst [(0, .d (dInts k l)), (1, .d (dInts k' l')), (5, int n)], hlst []⟩) (fun n => l.length - n) 0 ?_ (by simp) ?_
    · refine Imp.to' (fun _ => trivial) (by simp [dInts]) (by simp [dInts])
    · rintro n ⟨hn, ht⟩
      refine AW_then fun K3 hK3 => ?_
      refine AW_rg (tyOf_good _) (fun _ => trivial) [0, 1, 5, 14] [] fun K' hK' => ?_
      repeat (refine sxf_next fun K2 hK2 => ?_; simp [dInts]; (repeat (refine ⟨by omega, ?_⟩)); refine hK2 _ ?_; clear hK2 K2)
      first | refine sxf_nil (hK' _ ?_) | (refine sxf_next fun K2 hK2 => ?_; clear hK2 hK'; simp [dInts]; fail "STUCK")
      refine AW.st (by simp [dInts]; rfl) ?_
      clear hK' K'
      refine AW_cond' (b := n < l.length) (by simp [D.le, D.le.go, takeMap]) (fun hc => ?_) (fun hc => ?_)
      · refine AW_skip (hK3 _ ?_)
        refine AW_then fun K4 hK4 => ?_
        refine AW_block ?_
        have hn' : n < l'.length := by omega
        refine AW_rd (tyOf_good _) (fun _ => trivial) (by kernel_rfl) [0, 1, 5, 25] [] (by kernel_rfl) fun K' hK' => ?_
        repeat (refine sxd_next fun K2 hK2 => ?_; simp [dInts, hc, hn']; (repeat (refine ⟨by omega, ?_⟩)); refine hK2 _ ?_; clear hK2 K2)
        first | refine sxd_nil (hK' _ ?_) | (refine sxd_next fun K2 hK2 => ?_; clear hK2 hK'; simp [dInts, hc, hn']; fail "STUCK")
        refine AW.st (by simp [dInts, hc, hn']; rfl) ?_
        clear hK' K'
        refine AW_cond' (b := ¬ l[n] = l'[n]) (by simp [D.le, D.le.go, takeMap]) (fun hc => ?_) (fun hc => ?_)
        · refine AW_rg (tyOf_good _) (fun _ => trivial) [4] [] fun K' hK' => ?_
          repeat (refine sxf_next fun K2 hK2 => ?_; simp; (repeat (refine ⟨by omega, ?_⟩)); refine hK2 _ ?_; clear hK2 K2)
          first | refine sxf_nil (hK' _ ?_) | (refine sxf_next fun K2 hK2 => ?_; clear hK2 hK'; simp; fail "STUCK")
          refine AW.st (by simp; rfl) ?_
          clear hK' K'
          refine AW_ret ?_
          simp [D.le, D.le.go, takeMap]
          intro e; subst e; simp at hc
        · refine AW_skip (hK4 _ ?_)
          refine AW_re (tyOf_good _) (fun _ => trivial) fun K' hK' => ?_
          repeat (refine sxf_next fun K2 hK2 => ?_; simp; (repeat (refine ⟨by omega, ?_⟩)); refine hK2 _ ?_; clear hK2 K2)
          first | refine sxf_nil (hK' _ ?_) | (refine sxf_next fun K2 hK2 => ?_; clear hK2 hK'; simp; fail "STUCK")
          clear hK' K'
          try simp only [thn, inb]
          have he : l[n] = l'[n] := by simpa using hc
          refine Again.mk (n + 1) ⟨by omega, take_step ht (by omega) hn' he⟩ (by omega) ?_
          refine Imp.to' (fun _ => trivial) (by simp [dInts]) (by simp [dInts])
      · refine AW_exit (hK2 _ ?_)
        refine AW_rg (tyOf_good _) (fun _ => trivial) [4] [] fun K' hK' => ?_
        repeat (refine sxf_next fun K2 hK2 => ?_; simp; (repeat (refine ⟨by omega, ?_⟩)); refine hK2 _ ?_; clear hK2 K2)
        first | refine sxf_nil (hK' _ ?_) | (refine sxf_next fun K2 hK2 => ?_; clear hK2 hK'; simp; fail "STUCK")
        refine AW.st (by simp; rfl) ?_
        clear hK' K'
        refine AW_ret ?_
        simp [D.le, D.le.go, takeMap]
        have hnn : n = l.length := by omega
        subst hnn
        exact take_eq_all hl ht

set_option maxHeartbeats 1000000 in
theorem lsameLists_spec (G : Glob) (l l' : List (List Int)) (h : l.length < 2^63) (hr : ∀ r ∈ l, r.length < 2^63) : PureC Tryd.prog G 24 [dRows l, dRows l'] (.v (.bool (l == l'))) := by
  refine PureC.of_body (tyOf_good _) Tryd.func24 rfl rfl (rs := [.tmp 4]) Tryd.results24 (by simp [Tryd.ntmps24]) fun X => ?_
  simp only [Tryd.ntmps24, List.map]
  refine AW_rg (tyOf_good _) (fun _ => trivial) [0, 1] [] fun K' hK' => ?_
  repeat (refine sxf_next fun K2 hK2 => ?_; simp; (repeat (refine ⟨by omega, ?_⟩)); refine hK2 _ ?_; clear hK2 K2)
  first | refine sxf_nil (hK' _ ?_) | (refine sxf_next fun K2 hK2 => ?_; clear hK2 hK'; simp; fail "STUCK")
  refine AW.st (by simp; rfl) ?_
  clear hK' K'
  refine AW_then fun K1 hK1 => ?_
  refine AW_rg (tyOf_good _) (fun _ => trivial) [0, 1, 10] [] fun K' hK' => ?_
  repeat (refine sxf_next fun K2 hK2 => ?_; simp [dRows]; (repeat (refine ⟨by omega, ?_⟩)); refine hK2 _ ?_; clear hK2 K2)
  first | refine sxf_nil (hK' _ ?_) | (refine sxf_next fun K2 hK2 => ?_; clear hK2 hK'; simp [dRows]; fail "STUCK")
  refine AW.st (by simp [dRows]; rfl) ?_
  clear hK' K'
  refine AW_cond' (b := l.length ≠ l'.length) (by simp [D.le, D.le.go, takeMap]) (fun hc => ?_) (fun hc => ?_)
  · refine AW_rg (tyOf_good _) (fun _ => trivial) [4] [] fun K' hK' => ?_
    repeat (refine sxf_next fun K2 hK2 => ?_; simp; (repeat (refine ⟨by omega, ?_⟩)); refine hK2 _ ?_; clear hK2 K2)
    first | refine sxf_nil (hK' _ ?_) | (refine sxf_next fun K2 hK2 => ?_; clear hK2 hK'; simp; fail "STUCK")
    refine AW.st (by simp; rfl) ?_
    clear hK' K'
    refine AW_ret ?_
    simp [D.le, D.le.go, takeMap]
    intro e; subst e; simp at hc
  · refine AW_skip (hK1 _ ?_)
    have hl : l.length = l'.length := by simpa using hc
    refine AW_then fun K2 hK2 => ?_
    refine AW_rg (tyOf_good _) (fun _ => trivial) [0, 1, 5] [] fun K' hK' => ?_
    repeat (refine sxf_next fun K2 hK2 => ?_; simp [dRows]; (repeat (refine ⟨by omega, ?_⟩)); refine hK2 _ ?_; clear hK2 K2)
    first | refine sxf_nil (hK' _ ?_) | (refine sxf_next fun K2 hK2 => ?_; clear hK2 hK'; simp [dRows]; fail "STUCK")
    refine AW.st (by simp [dRows]; rfl) ?_
    clear hK' K'
    refine AW_for (S := Nat) (fun n => n ≤ l.length ∧ l.take n = l'.take n) (fun n => ⟨lst [(0, .d (dRows l)), (1, .d (dRows l')), (5, int n)], hlst []⟩) (fun n => l.length - n) 0 ?_ (by simp) ?_
    · refine Imp.to' (fun _ => trivial) (by simp [dRows]) (by simp [dRows])
    · rintro n ⟨hn, ht⟩
      refine AW_then fun K3 hK3 => ?_
      refine AW_rg (tyOf_good _) (fun _ => trivial) [0, 1, 5, 14] [] fun K' hK' => ?_
      repeat (refine sxf_next fun K2 hK2 => ?_; simp [dRows]; (repeat (refine ⟨by omega, ?_⟩)); refine hK2 _ ?_; clear hK2 K2)
      first | refine sxf_nil (hK' _ ?_) | (refine sxf_next fun K2 hK2 => ?_; clear hK2 hK'; simp [dRows]; fail "STUCK")
      refine AW.st (by simp [dRows]; rfl) ?_
      clear hK' K'
      refine AW_cond' (b := n < l.length) (by simp [D.le, D.le.go, takeMap]) (fun hc => ?_) (fun hc => ?_)
      · refine AW_skip (hK3 _ ?_)
        refine AW_then fun K4 hK4 => ?_
        refine AW_block ?_
        have hn' : n < l'.length := by omega
        refine AW_rd (tyOf_good _) (fun _ => trivial) (by kernel_rfl) [0, 1, 5, 26] [] (by kernel_rfl) fun K' hK' => ?_
        repeat (refine sxd_next fun K2 hK2 => ?_; simp [dRows, hc, hn']; (repeat (refine ⟨by omega, ?_⟩)); refine hK2 _ ?_; clear hK2 K2)
        refine sxd_next fun K2 hK2 => ?_
        simp [dRows, hc, hn']
        refine callQ.data (lsameInts_spec G none none l[n] l'[n] (hr _ (List.getElem_mem hc))) (by simp; rfl) (by simp; rfl) (by first | exact D.leGo_refl _ | simp [takeMap, List.map_map, Function.comp_def, D.le, D.le.go, D.le_refl, D.leGo_refl, dRows, hc, hn']) ?_
        refine hK2 _ ?_
        clear hK2 K2
        simp only [putd, upd_lst]
        repeat (refine sxd_next fun K2 hK2 => ?_; simp [dRows, hc, hn']; (repeat (refine ⟨by omega, ?_⟩)); refine hK2 _ ?_; clear hK2 K2)
        first | refine sxd_nil (hK' _ ?_) | (refine sxd_next fun K2 hK2 => ?_; clear hK2 hK'; simp [dRows, hc, hn']; fail "STUCK")
        refine AW.st (by simp [dRows, hc, hn']; rfl) ?_
        clear hK' K'
        by_cases he : l[n] = l'[n]
        · refine AW_cond false (by simp [he]) (fun h => by cases h) (fun _ => ?_)
          refine AW_skip (hK4 _ ?_)
          refine AW_re (tyOf_good _) (fun _ => trivial) fun K' hK' => ?_
          repeat (refine sxf_next fun K2 hK2 => ?_; simp; (repeat (refine ⟨by omega, ?_⟩)); refine hK2 _ ?_; clear hK2 K2)
          first | refine sxf_nil (hK' _ ?_) | (refine sxf_next fun K2 hK2 => ?_; clear hK2 hK'; simp; fail "STUCK")
          clear hK' K'
          try simp only [thn, inb]
          refine Again.mk (n + 1) ⟨by omega, ?_⟩ (by omega) ?_
          · rw [List.take_succ_eq_append_getElem hc, List.take_succ_eq_append_getElem hn', ht, he]
          refine Imp.to' (fun _ => trivial) (by simp [dRows]) (by simp [dRows])
        · refine AW_cond true (by simp [he]) (fun _ => ?_) (fun h => by cases h)
          refine AW_rg (tyOf_good _) (fun _ => trivial) [4] [] fun K' hK' => ?_
          repeat (refine sxf_next fun K2 hK2 => ?_; simp; (repeat (refine ⟨by omega, ?_⟩)); refine hK2 _ ?_; clear hK2 K2)
          first | refine sxf_nil (hK' _ ?_) | (refine sxf_next fun K2 hK2 => ?_; clear hK2 hK'; simp; fail "STUCK")
          refine AW.st (by simp; rfl) ?_
          clear hK' K'
          refine AW_ret ?_
          simp [D.le, D.le.go, takeMap]
          intro e; subst e; exact he rfl
      · refine AW_exit (hK2 _ ?_)
        refine AW_rg (tyOf_good _) (fun _ => trivial) [4] [] fun K' hK' => ?_
        repeat (refine sxf_next fun K2 hK2 => ?_; simp; (repeat (refine ⟨by omega, ?_⟩)); refine hK2 _ ?_; clear hK2 K2)
        first | refine sxf_nil (hK' _ ?_) | (refine sxf_next fun K2 hK2 => ?_; clear hK2 hK'; simp; fail "STUCK")
        refine AW.st (by simp; rfl) ?_
        clear hK' K'
        refine AW_ret ?_
        simp [D.le, D.le.go, takeMap]
        have hnn : n = l.length := by omega
        subst hnn
        rw [List.take_length] at ht
        rw [ht]; exact (List.take_of_length_le (by omega))

theorem at_spec (G : Glob) (hG : HasErr G) (e e' : Option (Int × Option Nat)) : PureC Tryd.prog G 19 [dErr e, dFault e'] (.v (.bool (decide (codeF e = codeF e') && decide (placeF e = placeF e')))) := by
  have hp := place_spec G hG e
  refine PureC.of_body (tyOf_good _) Tryd.func19 rfl rfl (rs := [.tmp 4]) Tryd.results19 (by simp [Tryd.ntmps19]) fun X => ?_
  simp only [Tryd.ntmps19, List.map]
  refine AW_rg (tyOf_good _) (fun _ => trivial) [0, 3] [3] fun K' hK' => ?_
  repeat (refine sxf_next fun K2 hK2 => ?_; simp [dFault]; (repeat (refine ⟨by omega, ?_⟩)); refine hK2 _ ?_; clear hK2 K2)
  first | refine sxf_nil (hK' _ ?_) | (refine sxf_next fun K2 hK2 => ?_; clear hK2 hK'; simp [dFault]; fail "STUCK")
  refine AW.st (by simp [dFault]; rfl) ?_
  clear hK' K'
  refine AW_rg (tyOf_good _) (fun _ => trivial) [3, 5, 6] [3] fun K' hK' => ?_
  repeat (refine sxf_next fun K2 hK2 => ?_; simp; (repeat (refine ⟨by omega, ?_⟩)); refine hK2 _ ?_; clear hK2 K2)
  refine sxf_next fun K2 hK2 => ?_
  simp
  refine callK.data (hp) (by simp; rfl) (by first | exact D.leGo_refl _ | simp [takeMap, List.map_map, Function.comp_def, D.le, D.le.go, D.le_refl, D.leGo_refl]) ?_
  refine hK2 _ ?_
  clear hK2 K2
  simp only [putd, upd_lst]
  repeat (refine sxf_next fun K2 hK2 => ?_; simp; (repeat (refine ⟨by omega, ?_⟩)); refine hK2 _ ?_; clear hK2 K2)
  first | refine sxf_nil (hK' _ ?_) | (refine sxf_next fun K2 hK2 => ?_; clear hK2 hK'; simp; fail "STUCK")
  refine AW.st (by simp; rfl) ?_
  clear hK' K'
  by_cases h1 : codeF e = codeF e'
  · refine AW_rg (tyOf_good _) (fun _ => trivial) [4] [3] fun K' hK' => ?_
    repeat (refine sxf_next fun K2 hK2 => ?_; simp [dNum, h1]; (repeat (refine ⟨by omega, ?_⟩)); refine hK2 _ ?_; clear hK2 K2)
    first | refine sxf_nil (hK' _ ?_) | (refine sxf_next fun K2 hK2 => ?_; clear hK2 hK'; simp [dNum, h1]; fail "STUCK")
    refine AW.st (by simp [dNum, h1]; rfl) ?_
    clear hK' K'
    refine AW_ret ?_
    simp [D.le, D.le.go, takeMap, h1]
    try exact fun _ => h1
  · refine AW_rg (tyOf_good _) (fun _ => trivial) [4] [3] fun K' hK' => ?_
    repeat (refine sxf_next fun K2 hK2 => ?_; simp [dNum, h1]; (repeat (refine ⟨by omega, ?_⟩)); refine hK2 _ ?_; clear hK2 K2)
    first | refine sxf_nil (hK' _ ?_) | (refine sxf_next fun K2 hK2 => ?_; clear hK2 hK'; simp [dNum, h1]; fail "STUCK")
    refine AW.st (by simp [dNum, h1]; rfl) ?_
    clear hK' K'
    refine AW_ret ?_
    simp [D.le, D.le.go, takeMap, h1]
    try exact fun h => absurd h h1
theorem at_same (G : Glob) (hG : HasErr G) (e : Option (Int × Option Nat)) : PureC Tryd.prog G 19 [dErr e, dFault e] (.v (.bool true)) := by
  have := at_spec G hG e e
  simpa using this
/-- An error without a place. -/
def errOf (c : Int) : Option (Int × Option Nat) := if c = 0 then none else some (c, none)
theorem errOf_code (c : Int) : codeF (errOf c) = c := by unfold errOf; split <;> simp_all [codeF]
theorem errOf_place (c : Int) : placeF (errOf c) = -1 := by unfold errOf; split <;> simp [placeF]
theorem bare_spec (G : Glob) (hG : HasErr G) (c : Int) : PureC Tryd.prog G 28 [dErr (errOf c), dNum c] (.v (.bool true)) := by
  have h := at_same G hG (errOf c)
  rw [show dFault (errOf c) = .agg [dNum c, dNum (-1)] by rw [dFault, errOf_code, errOf_place]] at h
  refine PureC.of_body (tyOf_good _) Tryd.func28 rfl rfl (rs := [.tmp 4]) Tryd.results28 (by simp [Tryd.ntmps28]) fun X => ?_
  simp only [Tryd.ntmps28, List.map]
  refine AW_rg (tyOf_good _) (fun _ => trivial) [0, 1] [] fun K' hK' => ?_
  repeat (refine sxf_next fun K2 hK2 => ?_; simp; (repeat (refine ⟨by omega, ?_⟩)); refine hK2 _ ?_; clear hK2 K2)
  first | refine sxf_nil (hK' _ ?_) | (refine sxf_next fun K2 hK2 => ?_; clear hK2 hK'; simp; fail "STUCK")
  refine AW.st (by simp; rfl) ?_
  clear hK' K'
  refine AW_rg (tyOf_good _) (fun _ => trivial) [4] [] fun K' hK' => ?_
  repeat (refine sxf_next fun K2 hK2 => ?_; simp [dNum]; (repeat (refine ⟨by omega, ?_⟩)); refine hK2 _ ?_; clear hK2 K2)
  refine sxf_next fun K2 hK2 => ?_
  simp [dNum]
  refine callK.data (bare0_spec G c) (by simp; rfl) (by first | exact D.leGo_refl _ | simp [takeMap, List.map_map, Function.comp_def, D.le, D.le.go, D.le_refl, D.leGo_refl, dNum]) ?_
  refine hK2 _ ?_
  clear hK2 K2
  simp only [putd, upd_lst]
  repeat (refine sxf_next fun K2 hK2 => ?_; simp [dNum]; (repeat (refine ⟨by omega, ?_⟩)); refine hK2 _ ?_; clear hK2 K2)
  refine sxf_next fun K2 hK2 => ?_
  simp [dNum]
  refine callK.data (h) (by simp; rfl) (by first | exact D.leGo_refl _ | simp [takeMap, List.map_map, Function.comp_def, D.le, D.le.go, D.le_refl, D.leGo_refl, dNum]) ?_
  refine hK2 _ ?_
  clear hK2 K2
  simp only [putd, upd_lst]
  repeat (refine sxf_next fun K2 hK2 => ?_; simp [dNum]; (repeat (refine ⟨by omega, ?_⟩)); refine hK2 _ ?_; clear hK2 K2)
  first | refine sxf_nil (hK' _ ?_) | (refine sxf_next fun K2 hK2 => ?_; clear hK2 hK'; simp [dNum]; fail "STUCK")
  refine AW.st (by simp [dNum]; rfl) ?_
  clear hK' K'
  refine AW_ret ?_
  simp [D.le, D.le.go, takeMap]

theorem checkF_code {t : Tab} {e : Int × Option Nat} (h : checkF t = some e) : e.1 ≠ 0 := by
  have rows : ∀ n s, rowsF t s n = some e → e.1 ≠ 0 := by
    intro n
    induction n with
    | zero => intro s h; simp [rowsF] at h
    | succ n ih =>
      intro s h
      simp only [rowsF] at h
      split at h
      · rename_i c hc
        obtain rfl := Option.some.inj h
        unfold rowF at hc
        split at hc
        · obtain rfl := Option.some.inj hc; exact (by decide : (3 : Int) ≠ 0)
        · split at hc
          · obtain rfl := Option.some.inj hc; exact (by decide : (2 : Int) ≠ 0)
          · cases hc
      · exact ih _ h
  unfold checkF at h
  split at h
  · obtain rfl := Option.some.inj h; decide
  · split at h
    · obtain rfl := Option.some.inj h; decide
    · exact rows _ _ h

set_option maxHeartbeats 2000000 in
theorem tables_many (G : Glob) (hF : HasFine G) (t : Tab) (h : 510 < t.next.length ∨ 510 < t.tells.length) : PureC Tryd.prog G 16 [dTab t] (.tup [dTab t, dFault none, .v (.bool false)]) := by
  unfold HasFine at hF
  refine PureC.of_body (tyOf_good _) Tryd.func16 rfl rfl (rs := [.cell 2 26, .cell 3 29, .tmp 4]) Tryd.results16 (by simp [Tryd.ntmps16]) fun X => ?_
  simp only [Tryd.ntmps16, List.map]
  refine AW_rg (tyOf_good _) (fun _ => trivial) [1, 2, 3] [1, 2, 3] fun K' hK' => ?_
  repeat (refine sxf_next fun K2 hK2 => ?_; simp [dTab]; (repeat (refine ⟨by omega, ?_⟩)); refine hK2 _ ?_; clear hK2 K2)
  first | refine sxf_nil (hK' _ ?_) | (refine sxf_next fun K2 hK2 => ?_; clear hK2 hK'; simp [dTab]; fail "STUCK")
  refine AW.st (by simp [dTab]; rfl) ?_
  clear hK' K'
  refine AW_rg (tyOf_good _) (fun _ => trivial) [1, 2, 3, 5] [1, 2, 3, 5] fun K' hK' => ?_
  repeat (refine sxf_next fun K2 hK2 => ?_; simp [dRows]; (repeat (refine ⟨by omega, ?_⟩)); refine hK2 _ ?_; clear hK2 K2)
  first | refine sxf_nil (hK' _ ?_) | (refine sxf_next fun K2 hK2 => ?_; clear hK2 hK'; simp [dRows]; fail "STUCK")
  refine AW.st (by simp [dRows]; rfl) ?_
  clear hK' K'
  refine AW_then fun K1 hK1 => ?_
  by_cases h1 : (510 : Int) < t.next.length
  · refine AW_rg (tyOf_good _) (fun _ => trivial) [1, 2, 3, 5, 21] [1, 2, 3, 5] fun K' hK' => ?_
    repeat (refine sxf_next fun K2 hK2 => ?_; simp [dRows, h1]; (repeat (refine ⟨by omega, ?_⟩)); refine hK2 _ ?_; clear hK2 K2)
    first | refine sxf_nil (hK' _ ?_) | (refine sxf_next fun K2 hK2 => ?_; clear hK2 hK'; simp [dRows, h1]; fail "STUCK")
    refine AW.st (by simp [dRows, h1]; rfl) ?_
    clear hK' K'
    refine AW_cond true rfl (fun _ => ?_) (fun h => by cases h)
    refine AW_rdg (tyOf_good _) (fun _ => trivial) (by kernel_rfl) [(0, 5), (2, 2), (3, 3)] [2, 3, 4] [1, 2, 3, 5] (by kernel_rfl) fun K' hK' => ?_
    repeat (refine sxg_next fun K2 hK2 => ?_; simp [hF, dNum]; (repeat (refine ⟨by omega, ?_⟩)); refine hK2 _ ?_; clear hK2 K2)
    first | refine sxg_nil (hK' _ ?_) | (refine sxg_next fun K2 hK2 => ?_; clear hK2 hK'; simp [hF, dNum]; fail "STUCK")
    refine AW.st (by simp [hF, dNum]; rfl) ?_
    clear hK' K'
    refine AW_ret ?_
    simp [D.le, D.le.go, takeMap, dTab, dRows, dFault, codeF, placeF, dNum]
  · have h2 : (510 : Int) < t.tells.length := by omega
    refine AW_rg (tyOf_good _) (fun _ => trivial) [1, 2, 3, 5, 21] [1, 2, 3, 5] fun K' hK' => ?_
    repeat (refine sxf_next fun K2 hK2 => ?_; simp [dRows, h1, h2]; (repeat (refine ⟨by omega, ?_⟩)); refine hK2 _ ?_; clear hK2 K2)
    first | refine sxf_nil (hK' _ ?_) | (refine sxf_next fun K2 hK2 => ?_; clear hK2 hK'; simp [dRows, h1, h2]; fail "STUCK")
    refine AW.st (by simp [dRows, h1, h2]; rfl) ?_
    clear hK' K'
    refine AW_cond true rfl (fun _ => ?_) (fun h => by cases h)
    refine AW_rdg (tyOf_good _) (fun _ => trivial) (by kernel_rfl) [(0, 5), (2, 2), (3, 3)] [2, 3, 4] [1, 2, 3, 5] (by kernel_rfl) fun K' hK' => ?_
    repeat (refine sxg_next fun K2 hK2 => ?_; simp [hF, dNum]; (repeat (refine ⟨by omega, ?_⟩)); refine hK2 _ ?_; clear hK2 K2)
    first | refine sxg_nil (hK' _ ?_) | (refine sxg_next fun K2 hK2 => ?_; clear hK2 hK'; simp [hF, dNum]; fail "STUCK")
    refine AW.st (by simp [hF, dNum]; rfl) ?_
    clear hK' K'
    refine AW_ret ?_
    simp [D.le, D.le.go, takeMap, dTab, dRows, dFault, codeF, placeF, dNum]

set_option maxHeartbeats 2000000 in
theorem tables_bad (G : Glob) (hF : HasFine G) (t : Tab) (h1 : ¬ (510 : Int) < t.next.length) (h2 : ¬ (510 : Int) < t.tells.length) (e : Int × Option Nat) (he : checkF t = some e) : PureC Tryd.prog G 16 [dTab t] (.tup [dTab t, dFault (some e), .v (.bool true)]) := by
  have hne : ¬ codeF (some e) = 0 := by obtain ⟨c, s⟩ := e; exact checkF_code he
  have htc := tcheck_spec G hF t
  rw [he] at htc
  unfold dFault at htc
  refine PureC.of_body (tyOf_good _) Tryd.func16 rfl rfl (rs := [.cell 2 26, .cell 3 29, .tmp 4]) Tryd.results16 (by simp [Tryd.ntmps16]) fun X => ?_
  simp only [Tryd.ntmps16, List.map]
  refine AW_rg (tyOf_good _) (fun _ => trivial) [1, 2, 3] [1, 2, 3] fun K' hK' => ?_
  repeat (refine sxf_next fun K2 hK2 => ?_; simp [dTab]; (repeat (refine ⟨by omega, ?_⟩)); refine hK2 _ ?_; clear hK2 K2)
  first | refine sxf_nil (hK' _ ?_) | (refine sxf_next fun K2 hK2 => ?_; clear hK2 hK'; simp [dTab]; fail "STUCK")
  refine AW.st (by simp [dTab]; rfl) ?_
  clear hK' K'
  refine AW_rg (tyOf_good _) (fun _ => trivial) [1, 2, 3, 5] [1, 2, 3, 5] fun K' hK' => ?_
  repeat (refine sxf_next fun K2 hK2 => ?_; simp [dRows]; (repeat (refine ⟨by omega, ?_⟩)); refine hK2 _ ?_; clear hK2 K2)
  first | refine sxf_nil (hK' _ ?_) | (refine sxf_next fun K2 hK2 => ?_; clear hK2 hK'; simp [dRows]; fail "STUCK")
  refine AW.st (by simp [dRows]; rfl) ?_
  clear hK' K'
  refine AW_then fun K1 hK1 => ?_
  refine AW_rg (tyOf_good _) (fun _ => trivial) [1, 2, 3, 5, 21] [1, 2, 3, 5] fun K' hK' => ?_
  repeat (refine sxf_next fun K2 hK2 => ?_; simp [dRows, h1, h2]; (repeat (refine ⟨by omega, ?_⟩)); refine hK2 _ ?_; clear hK2 K2)
  first | refine sxf_nil (hK' _ ?_) | (refine sxf_next fun K2 hK2 => ?_; clear hK2 hK'; simp [dRows, h1, h2]; fail "STUCK")
  refine AW.st (by simp [dRows, h1, h2]; rfl) ?_
  clear hK' K'
  refine AW_cond false rfl (fun h => by cases h) (fun _ => ?_)
  refine AW_skip (hK1 _ ?_)
  refine AW_rg (tyOf_good _) (fun _ => trivial) [1, 2, 3, 5, 6] [1, 2, 3, 5, 6] fun K' hK' => ?_
  repeat (refine sxf_next fun K2 hK2 => ?_; simp [dTab, dRows, dNum]; (repeat (refine ⟨by omega, ?_⟩)); refine hK2 _ ?_; clear hK2 K2)
  refine sxf_next fun K2 hK2 => ?_
  simp [dTab, dRows, dNum]
  refine callK.data (htc) (by simp; rfl) (by first | exact D.leGo_refl _ | simp [takeMap, List.map_map, Function.comp_def, D.le, D.le.go, D.le_refl, D.leGo_refl, dTab, dRows, dNum]) ?_
  refine hK2 _ ?_
  clear hK2 K2
  simp only [putd, upd_lst]
  repeat (refine sxf_next fun K2 hK2 => ?_; simp [dTab, dRows, dNum]; (repeat (refine ⟨by omega, ?_⟩)); refine hK2 _ ?_; clear hK2 K2)
  first | refine sxf_nil (hK' _ ?_) | (refine sxf_next fun K2 hK2 => ?_; clear hK2 hK'; simp [dTab, dRows, dNum]; fail "STUCK")
  refine AW.st (by simp [dTab, dRows, dNum]; rfl) ?_
  clear hK' K'
  refine AW_rdg (tyOf_good _) (fun _ => trivial) (by kernel_rfl) [(0, 5), (1, 6), (3, 6), (7, 1), (12, 1), (13, 999), (14, 999), (19, 2), (20, 3)] [2, 3, 4] [1, 2, 3, 5, 6] (by kernel_rfl) fun K' hK' => ?_
  repeat (refine sxg_next fun K2 hK2 => ?_; simp [hne, dNum]; (repeat (refine ⟨by omega, ?_⟩)); refine hK2 _ ?_; clear hK2 K2)
  first | refine sxg_nil (hK' _ ?_) | (refine sxg_next fun K2 hK2 => ?_; clear hK2 hK'; simp [hne, dNum]; fail "STUCK")
  refine AW.st (by simp [hne, dNum]; rfl) ?_
  clear hK' K'
  refine AW_ret ?_
  simp [D.le, D.le.go, takeMap, dTab, dRows, dFault, codeF, placeF, dNum]

set_option maxHeartbeats 2000000 in
theorem tables_good (G : Glob) (hF : HasFine G) (t : Tab) (ok : Ok t) : PureC Tryd.prog G 16 [dTab t] (.tup [dTab t, dFault none, .v (.bool (decide ((t.next.length : Int) ≤ 30) && decide ((wd t : Int) ≤ 8)))]) := by
  have he : checkF t = none := ok_iff.2 ok
  have htc := tcheck_spec G hF t
  rw [he] at htc
  unfold dFault at htc
  have hmost : t.next.length ≤ 500 := ok.most
  have hpos : 0 < t.next.length := ok.pos
  have htl : t.tells.length = t.next.length := ok.tells
  have h1 : ¬ (510 : Int) < t.next.length := by omega
  have hw := wd_at ok hpos
  refine PureC.of_body (tyOf_good _) Tryd.func16 rfl rfl (rs := [.cell 2 26, .cell 3 29, .tmp 4]) Tryd.results16 (by simp [Tryd.ntmps16]) fun X => ?_
  simp only [Tryd.ntmps16, List.map]
  refine AW_rg (tyOf_good _) (fun _ => trivial) [1, 2, 3] [1, 2, 3] fun K' hK' => ?_
  repeat (refine sxf_next fun K2 hK2 => ?_; simp [dTab]; (repeat (refine ⟨by omega, ?_⟩)); refine hK2 _ ?_; clear hK2 K2)
  first | refine sxf_nil (hK' _ ?_) | (refine sxf_next fun K2 hK2 => ?_; clear hK2 hK'; simp [dTab]; fail "STUCK")
  refine AW.st (by simp [dTab]; rfl) ?_
  clear hK' K'
  refine AW_rg (tyOf_good _) (fun _ => trivial) [1, 2, 3, 5] [1, 2, 3, 5] fun K' hK' => ?_
  repeat (refine sxf_next fun K2 hK2 => ?_; simp [dRows]; (repeat (refine ⟨by omega, ?_⟩)); refine hK2 _ ?_; clear hK2 K2)
  first | refine sxf_nil (hK' _ ?_) | (refine sxf_next fun K2 hK2 => ?_; clear hK2 hK'; simp [dRows]; fail "STUCK")
  refine AW.st (by simp [dRows]; rfl) ?_
  clear hK' K'
  refine AW_then fun K1 hK1 => ?_
  refine AW_rg (tyOf_good _) (fun _ => trivial) [1, 2, 3, 5, 21] [1, 2, 3, 5] fun K' hK' => ?_
  repeat (refine sxf_next fun K2 hK2 => ?_; simp [dRows, h1, htl]; (repeat (refine ⟨by omega, ?_⟩)); refine hK2 _ ?_; clear hK2 K2)
  first | refine sxf_nil (hK' _ ?_) | (refine sxf_next fun K2 hK2 => ?_; clear hK2 hK'; simp [dRows, h1, htl]; fail "STUCK")
  refine AW.st (by simp [dRows, h1, htl]; rfl) ?_
  clear hK' K'
  refine AW_cond false rfl (fun h => by cases h) (fun _ => ?_)
  refine AW_skip (hK1 _ ?_)
  refine AW_rg (tyOf_good _) (fun _ => trivial) [1, 2, 3, 5, 6] [1, 2, 3, 5, 6] fun K' hK' => ?_
  repeat (refine sxf_next fun K2 hK2 => ?_; simp [dTab, dRows, dNum]; (repeat (refine ⟨by omega, ?_⟩)); refine hK2 _ ?_; clear hK2 K2)
  refine sxf_next fun K2 hK2 => ?_
  simp [dTab, dRows, dNum]
  refine callK.data (htc) (by simp; rfl) (by first | exact D.leGo_refl _ | simp [takeMap, List.map_map, Function.comp_def, D.le, D.le.go, D.le_refl, D.leGo_refl, dTab, dRows, dNum]) ?_
  refine hK2 _ ?_
  clear hK2 K2
  simp only [putd, upd_lst]
  repeat (refine sxf_next fun K2 hK2 => ?_; simp [dTab, dRows, dNum]; (repeat (refine ⟨by omega, ?_⟩)); refine hK2 _ ?_; clear hK2 K2)
  first | refine sxf_nil (hK' _ ?_) | (refine sxf_next fun K2 hK2 => ?_; clear hK2 hK'; simp [dTab, dRows, dNum]; fail "STUCK")
  refine AW.st (by simp [dTab, dRows, dNum]; rfl) ?_
  clear hK' K'
  by_cases h3 : (t.next.length : Int) ≤ 30
  · refine AW_rdg (tyOf_good _) (fun _ => trivial) (by kernel_rfl) [(0, 5), (1, 6), (3, 6), (7, 1), (12, 1), (13, 999), (14, 999), (19, 2), (20, 3)] [2, 3, 4] [1, 2, 3, 5, 6] (by kernel_rfl) fun K' hK' => ?_
    repeat (refine sxg_next fun K2 hK2 => ?_; simp [dNum, codeF, h3, hpos, hw, dRows, dRow, dInts]; (repeat (refine ⟨by omega, ?_⟩)); refine hK2 _ ?_; clear hK2 K2)
    first | refine sxg_nil (hK' _ ?_) | (refine sxg_next fun K2 hK2 => ?_; clear hK2 hK'; simp [dNum, codeF, h3, hpos, hw, dRows, dRow, dInts]; fail "STUCK")
    refine AW.st (by simp [dNum, codeF, h3, hpos, hw, dRows, dRow, dInts]; rfl) ?_
    clear hK' K'
    refine AW_ret ?_
    simp [D.le, D.le.go, takeMap, dTab, dRows, dRow, dInts, dFault, codeF, placeF, dNum, h3]
  · refine AW_rdg (tyOf_good _) (fun _ => trivial) (by kernel_rfl) [(0, 5), (1, 6), (3, 6), (7, 1), (12, 1), (13, 999), (14, 999), (19, 2), (20, 3)] [2, 3, 4] [1, 2, 3, 5, 6] (by kernel_rfl) fun K' hK' => ?_
    repeat (refine sxg_next fun K2 hK2 => ?_; simp [dNum, codeF, h3, dRows, dRow, dInts]; (repeat (refine ⟨by omega, ?_⟩)); refine hK2 _ ?_; clear hK2 K2)
    first | refine sxg_nil (hK' _ ?_) | (refine sxg_next fun K2 hK2 => ?_; clear hK2 hK'; simp [dNum, codeF, h3, dRows, dRow, dInts]; fail "STUCK")
    refine AW.st (by simp [dNum, codeF, h3, dRows, dRow, dInts]; rfl) ?_
    clear hK' K'
    refine AW_ret ?_
    simp [D.le, D.le.go, takeMap, dTab, dRows, dRow, dInts, dFault, codeF, placeF, dNum, h3]
#print axioms lsameLists_spec
#print axioms bare_spec
#print axioms tables_good
end Go.Proofs.YtoikggboakojlaaDoor

/-
  The least inputs by which two states are told apart: the walk.
-/
namespace Go.Proofs.YtoikggboakojlaaDoor
open Go.Av
set_option linter.unusedSimpArgs false
set_option linter.unusedVariables false

set_option maxHeartbeats 1000000 in
theorem part_none (G : Glob) (t : Tab) (ok : Ok t) (k : Nat) (hk : k < 2^20) (hs : Stops t k) (a b : Nat) (ha : a < t.next.length) (hb : b < t.next.length)
    (hd : idx (apartF a b) (rndF t k) < 0) : PureC Tryd.prog G 25 [dTab t, dNum a, dNum b] (.tup [.sl (some false) [], dErr (some (8, none))]) := by
  have hch : checkF t = none := ok_iff.2 ok
  have hna : ¬ (a : Int) < 0 := by omega
  have hnb : ¬ (b : Int) < 0 := by omega
  have hna2 : ¬ (t.next.length : Int) ≤ a := by omega
  have hnb2 : ¬ (t.next.length : Int) ≤ b := by omega
  have hlen : ∀ x ∈ rndF t k, a < x.length ∧ b < x.length := by
    intro x hx
    have := rndF_mem hx
    unfold Tab.n at this
    omega
  have hrounds : PureC Tryd.prog G 58 [dTab t] (dRows (rndF t k)) := rounds_spec G t ok k hk hs
  have hrl := rndF_len t k
  have hrg := rndF_get t k
  have hfun : PureC Tryd.prog G 64 [dRows (rndF t k), .fn (.func 65) [.ip [dNum a], .ip [dNum b]]] (.v (.int .i64 (idx (apartF a b) (rndF t k)))) :=
    indexInts_spec G none dRow (rndF t k) 65 [.ip [dNum a], .ip [dNum b]] (apartF a b) (by omega) (fun x hx => by have h1 := part1_spec G x a b (hlen x hx).1 (hlen x hx).2; simpa [apartF, List.getD_eq_getElem?_getD, (hlen x hx).1, (hlen x hx).2] using h1)
  refine PureC.of_body (tyOf_good _) Tryd.func25 rfl rfl (rs := [.tmp 6, .tmp 7]) Tryd.results25 (by simp [Tryd.ntmps25]) fun X => ?_
  simp only [Tryd.ntmps25, List.map]
  refine AW_rg (tyOf_good _) (fun _ => trivial) [3, 4, 5] [3, 4, 5] fun K' hK' => ?_
  repeat (refine sxf_next fun K2 hK2 => ?_; simp [dTab, dNum]; (repeat (refine ⟨by omega, ?_⟩)); refine hK2 _ ?_; clear hK2 K2)
  first | refine sxf_nil (hK' _ ?_) | (refine sxf_next fun K2 hK2 => ?_; clear hK2 hK'; simp [dTab, dNum]; fail "STUCK")
  refine AW.st (by simp [dTab, dNum]; rfl) ?_
  clear hK' K'
  refine AW_then fun K1 hK1 => ?_
  refine AW_rg (tyOf_good _) (fun _ => trivial) [3, 4, 5, 8] [3, 4, 5] fun K' hK' => ?_
  repeat (refine sxf_next fun K2 hK2 => ?_; simp; (repeat (refine ⟨by omega, ?_⟩)); refine hK2 _ ?_; clear hK2 K2)
  refine sxf_next fun K2 hK2 => ?_
  simp
  refine callK.data (check_spec G t) (by simp; rfl) (by first | exact D.leGo_refl _ | simp [takeMap, List.map_map, Function.comp_def, D.le, D.le.go, D.le_refl, D.leGo_refl]) ?_
  refine hK2 _ ?_
  clear hK2 K2
  simp only [putd, upd_lst]
  repeat (refine sxf_next fun K2 hK2 => ?_; simp; (repeat (refine ⟨by omega, ?_⟩)); refine hK2 _ ?_; clear hK2 K2)
  first | refine sxf_nil (hK' _ ?_) | (refine sxf_next fun K2 hK2 => ?_; clear hK2 hK'; simp; fail "STUCK")
  refine AW.st (by simp; rfl) ?_
  clear hK' K'
  rw [hch]
  refine AW_rg (tyOf_good _) (fun _ => trivial) [3, 4, 5, 8, 18] [3, 4, 5] fun K' hK' => ?_
  repeat (refine sxf_next fun K2 hK2 => ?_; simp [dErr]; (repeat (refine ⟨by omega, ?_⟩)); refine hK2 _ ?_; clear hK2 K2)
  first | refine sxf_nil (hK' _ ?_) | (refine sxf_next fun K2 hK2 => ?_; clear hK2 hK'; simp [dErr]; fail "STUCK")
  refine AW.st (by simp [dErr]; rfl) ?_
  clear hK' K'
  refine AW_cond false rfl (fun h => by cases h) (fun _ => ?_)
  refine AW_skip (hK1 _ ?_)
  refine AW_then fun K2 hK2 => ?_
  refine AW_rg (tyOf_good _) (fun _ => trivial) [3, 4, 5, 39] [3, 4, 5] fun K' hK' => ?_
  repeat (refine sxf_next fun K2 hK2 => ?_; simp [dRows, Nat.not_le.2 ha, Nat.not_le.2 hb, hna, hnb, hna2, hnb2]; (repeat (refine ⟨by omega, ?_⟩)); refine hK2 _ ?_; clear hK2 K2)
  first | refine sxf_nil (hK' _ ?_) | (refine sxf_next fun K2 hK2 => ?_; clear hK2 hK'; simp [dRows, Nat.not_le.2 ha, Nat.not_le.2 hb, hna, hnb, hna2, hnb2]; fail "STUCK")
  refine AW.st (by simp [dRows, Nat.not_le.2 ha, Nat.not_le.2 hb, hna, hnb, hna2, hnb2]; rfl) ?_
  clear hK' K'
  refine AW_cond false rfl (fun h => by cases h) (fun _ => ?_)
  refine AW_skip (hK2 _ ?_)
  refine AW_rg (tyOf_good _) (fun _ => trivial) [3, 4, 5, 9] [3, 4, 5] fun K' hK' => ?_
  repeat (refine sxf_next fun K2 hK2 => ?_; simp; (repeat (refine ⟨by omega, ?_⟩)); refine hK2 _ ?_; clear hK2 K2)
  refine sxf_next fun K2 hK2 => ?_
  simp
  refine callK.data (hrounds) (by simp; rfl) (by first | exact D.leGo_refl _ | simp [takeMap, List.map_map, Function.comp_def, D.le, D.le.go, D.le_refl, D.leGo_refl]) ?_
  refine hK2 _ ?_
  clear hK2 K2
  simp only [putd, upd_lst]
  repeat (refine sxf_next fun K2 hK2 => ?_; simp; (repeat (refine ⟨by omega, ?_⟩)); refine hK2 _ ?_; clear hK2 K2)
  first | refine sxf_nil (hK' _ ?_) | (refine sxf_next fun K2 hK2 => ?_; clear hK2 hK'; simp; fail "STUCK")
  refine AW.st (by simp; rfl) ?_
  clear hK' K'
  refine AW_rg (tyOf_good _) (fun _ => trivial) [3, 4, 5, 9, 10] [3, 4, 5] fun K' hK' => ?_
  repeat (refine sxf_next fun K2 hK2 => ?_; simp [dRows, dNum]; (repeat (refine ⟨by omega, ?_⟩)); refine hK2 _ ?_; clear hK2 K2)
  refine sxf_next fun K2 hK2 => ?_
  simp [dRows, dNum]
  refine callK.lend (hfun) (by simp; rfl) (by first | exact D.leGo_refl _ | simp [takeMap, List.map_map, Function.comp_def, D.le, D.le.go, D.le_refl, D.leGo_refl, dRows, dNum]) (by simp [D.scalar]) ?_
  refine hK2 _ ?_
  clear hK2 K2
  simp only [putd, upd_lst]
  repeat (refine sxf_next fun K2 hK2 => ?_; simp [dRows, dNum]; (repeat (refine ⟨by omega, ?_⟩)); refine hK2 _ ?_; clear hK2 K2)
  first | refine sxf_nil (hK' _ ?_) | (refine sxf_next fun K2 hK2 => ?_; clear hK2 hK'; simp [dRows, dNum]; fail "STUCK")
  refine AW.st (by simp [dRows, dNum]; rfl) ?_
  clear hK' K'
  refine AW_then fun K3 hK3 => ?_
  refine AW_rg (tyOf_good _) (fun _ => trivial) [3, 4, 5, 9, 10, 47] [3, 4, 5] fun K' hK' => ?_
  repeat (refine sxf_next fun K2 hK2 => ?_; simp [hd]; (repeat (refine ⟨by omega, ?_⟩)); refine hK2 _ ?_; clear hK2 K2)
  first | refine sxf_nil (hK' _ ?_) | (refine sxf_next fun K2 hK2 => ?_; clear hK2 hK'; simp [hd]; fail "STUCK")
  refine AW.st (by simp [hd]; rfl) ?_
  clear hK' K'
  refine AW_cond true rfl (fun _ => ?_) (fun h => by cases h)
  refine AW_rg (tyOf_good _) (fun _ => trivial) [6, 7] [3, 4, 5] fun K' hK' => ?_
  repeat (refine sxf_next fun K2 hK2 => ?_; simp; (repeat (refine ⟨by omega, ?_⟩)); refine hK2 _ ?_; clear hK2 K2)
  first | refine sxf_nil (hK' _ ?_) | (refine sxf_next fun K2 hK2 => ?_; clear hK2 hK'; simp; fail "STUCK")
  refine AW.st (by simp; rfl) ?_
  clear hK' K'
  refine AW_ret ?_
  simp [D.le, D.le.go, takeMap, dErr]

set_option maxHeartbeats 4000000 in
theorem part_good (G : Glob) (t : Tab) (ok : Ok t) (k : Nat) (hk : k < 2^20) (hs : Stops t k) (a b : Nat) (ha : a < t.next.length) (hb : b < t.next.length) (d : Nat) (hdk : d ≤ k)
    (hd : idx (apartF a b) (rndF t k) = (d : Int)) : PureC Tryd.prog G 25 [dTab t, dNum a, dNum b] (.tup [dRow (partF t d a b), .v .nilIface]) := by
  have hch : checkF t = none := ok_iff.2 ok
  have hna : ¬ (a : Int) < 0 := by omega
  have hnb : ¬ (b : Int) < 0 := by omega
  have hna2 : ¬ (t.next.length : Int) ≤ a := by omega
  have hnb2 : ¬ (t.next.length : Int) ≤ b := by omega
  have hlen : ∀ x ∈ rndF t k, a < x.length ∧ b < x.length := by
    intro x hx
    have := rndF_mem hx
    unfold Tab.n at this
    omega
  have hrounds : PureC Tryd.prog G 58 [dTab t] (dRows (rndF t k)) := rounds_spec G t ok k hk hs
  have hrl := rndF_len t k
  have hrg := rndF_get t k
  have hfun : PureC Tryd.prog G 64 [dRows (rndF t k), .fn (.func 65) [.ip [dNum a], .ip [dNum b]]] (.v (.int .i64 (idx (apartF a b) (rndF t k)))) :=
    indexInts_spec G none dRow (rndF t k) 65 [.ip [dNum a], .ip [dNum b]] (apartF a b) (by omega) (fun x hx => by have h1 := part1_spec G x a b (hlen x hx).1 (hlen x hx).2; simpa [apartF, List.getD_eq_getElem?_getD, (hlen x hx).1, (hlen x hx).2] using h1)
  refine PureC.of_body (tyOf_good _) Tryd.func25 rfl rfl (rs := [.tmp 6, .tmp 7]) Tryd.results25 (by simp [Tryd.ntmps25]) fun X => ?_
  simp only [Tryd.ntmps25, List.map]
  refine AW_rg (tyOf_good _) (fun _ => trivial) [3, 4, 5] [3, 4, 5] fun K' hK' => ?_
  repeat (refine sxf_next fun K2 hK2 => ?_; simp [dTab, dNum]; (repeat (refine ⟨by omega, ?_⟩)); refine hK2 _ ?_; clear hK2 K2)
  first | refine sxf_nil (hK' _ ?_) | (refine sxf_next fun K2 hK2 => ?_; clear hK2 hK'; simp [dTab, dNum]; fail "STUCK")
  refine AW.st (by simp [dTab, dNum]; rfl) ?_
  clear hK' K'
  refine AW_then fun K1 hK1 => ?_
  refine AW_rg (tyOf_good _) (fun _ => trivial) [3, 4, 5, 8] [3, 4, 5] fun K' hK' => ?_
  repeat (refine sxf_next fun K2 hK2 => ?_; simp; (repeat (refine ⟨by omega, ?_⟩)); refine hK2 _ ?_; clear hK2 K2)
  refine sxf_next fun K2 hK2 => ?_
  simp
  refine callK.data (check_spec G t) (by simp; rfl) (by first | exact D.leGo_refl _ | simp [takeMap, List.map_map, Function.comp_def, D.le, D.le.go, D.le_refl, D.leGo_refl]) ?_
  refine hK2 _ ?_
  clear hK2 K2
  simp only [putd, upd_lst]
  repeat (refine sxf_next fun K2 hK2 => ?_; simp; (repeat (refine ⟨by omega, ?_⟩)); refine hK2 _ ?_; clear hK2 K2)
  first | refine sxf_nil (hK' _ ?_) | (refine sxf_next fun K2 hK2 => ?_; clear hK2 hK'; simp; fail "STUCK")
  refine AW.st (by simp; rfl) ?_
  clear hK' K'
  rw [hch]
  refine AW_rg (tyOf_good _) (fun _ => trivial) [3, 4, 5, 8, 18] [3, 4, 5] fun K' hK' => ?_
  repeat (refine sxf_next fun K2 hK2 => ?_; simp [dErr]; (repeat (refine ⟨by omega, ?_⟩)); refine hK2 _ ?_; clear hK2 K2)
  first | refine sxf_nil (hK' _ ?_) | (refine sxf_next fun K2 hK2 => ?_; clear hK2 hK'; simp [dErr]; fail "STUCK")
  refine AW.st (by simp [dErr]; rfl) ?_
  clear hK' K'
  refine AW_cond false rfl (fun h => by cases h) (fun _ => ?_)
  refine AW_skip (hK1 _ ?_)
  refine AW_then fun K2 hK2 => ?_
  refine AW_rg (tyOf_good _) (fun _ => trivial) [3, 4, 5, 39] [3, 4, 5] fun K' hK' => ?_
  repeat (refine sxf_next fun K2 hK2 => ?_; simp [dRows, Nat.not_le.2 ha, Nat.not_le.2 hb, hna, hnb, hna2, hnb2]; (repeat (refine ⟨by omega, ?_⟩)); refine hK2 _ ?_; clear hK2 K2)
  first | refine sxf_nil (hK' _ ?_) | (refine sxf_next fun K2 hK2 => ?_; clear hK2 hK'; simp [dRows, Nat.not_le.2 ha, Nat.not_le.2 hb, hna, hnb, hna2, hnb2]; fail "STUCK")
  refine AW.st (by simp [dRows, Nat.not_le.2 ha, Nat.not_le.2 hb, hna, hnb, hna2, hnb2]; rfl) ?_
  clear hK' K'
  refine AW_cond false rfl (fun h => by cases h) (fun _ => ?_)
  refine AW_skip (hK2 _ ?_)
  refine AW_rg (tyOf_good _) (fun _ => trivial) [3, 4, 5, 9] [3, 4, 5] fun K' hK' => ?_
  repeat (refine sxf_next fun K2 hK2 => ?_; simp; (repeat (refine ⟨by omega, ?_⟩)); refine hK2 _ ?_; clear hK2 K2)
  refine sxf_next fun K2 hK2 => ?_
  simp
  refine callK.data (hrounds) (by simp; rfl) (by first | exact D.leGo_refl _ | simp [takeMap, List.map_map, Function.comp_def, D.le, D.le.go, D.le_refl, D.leGo_refl]) ?_
  refine hK2 _ ?_
  clear hK2 K2
  simp only [putd, upd_lst]
  repeat (refine sxf_next fun K2 hK2 => ?_; simp; (repeat (refine ⟨by omega, ?_⟩)); refine hK2 _ ?_; clear hK2 K2)
  first | refine sxf_nil (hK' _ ?_) | (refine sxf_next fun K2 hK2 => ?_; clear hK2 hK'; simp; fail "STUCK")
  refine AW.st (by simp; rfl) ?_
  clear hK' K'
  refine AW_rg (tyOf_good _) (fun _ => trivial) [3, 4, 5, 9, 10] [3, 4, 5] fun K' hK' => ?_
  repeat (refine sxf_next fun K2 hK2 => ?_; simp [dRows, dNum]; (repeat (refine ⟨by omega, ?_⟩)); refine hK2 _ ?_; clear hK2 K2)
  refine sxf_next fun K2 hK2 => ?_
  simp [dRows, dNum]
  refine callK.lend (hfun) (by simp; rfl) (by first | exact D.leGo_refl _ | simp [takeMap, List.map_map, Function.comp_def, D.le, D.le.go, D.le_refl, D.leGo_refl, dRows, dNum]) (by simp [D.scalar]) ?_
  refine hK2 _ ?_
  clear hK2 K2
  simp only [putd, upd_lst]
  repeat (refine sxf_next fun K2 hK2 => ?_; simp [dRows, dNum]; (repeat (refine ⟨by omega, ?_⟩)); refine hK2 _ ?_; clear hK2 K2)
  first | refine sxf_nil (hK' _ ?_) | (refine sxf_next fun K2 hK2 => ?_; clear hK2 hK'; simp [dRows, dNum]; fail "STUCK")
  refine AW.st (by simp [dRows, dNum]; rfl) ?_
  clear hK' K'
  refine AW_then fun K3 hK3 => ?_
  rw [hd]
  refine AW_rg (tyOf_good _) (fun _ => trivial) [3, 4, 5, 9, 10, 47] [3, 4, 5] fun K' hK' => ?_
  repeat (refine sxf_next fun K2 hK2 => ?_; simp; (repeat (refine ⟨by omega, ?_⟩)); refine hK2 _ ?_; clear hK2 K2)
  first | refine sxf_nil (hK' _ ?_) | (refine sxf_next fun K2 hK2 => ?_; clear hK2 hK'; simp; fail "STUCK")
  refine AW.st (by simp; rfl) ?_
  clear hK' K'
  refine AW_cond false rfl (fun h => by cases h) (fun _ => ?_)
  refine AW_skip (hK3 _ ?_)
  refine AW_rg (tyOf_good _) (fun _ => trivial) [3, 4, 5, 9, 10, 11] [3, 4, 5] fun K' hK' => ?_
  repeat (refine sxf_next fun K2 hK2 => ?_; simp; (repeat (refine ⟨by omega, ?_⟩)); refine hK2 _ ?_; clear hK2 K2)
  first | refine sxf_nil (hK' _ ?_) | (refine sxf_next fun K2 hK2 => ?_; clear hK2 hK'; simp; fail "STUCK")
  refine AW.st (by simp; rfl) ?_
  clear hK' K'
  refine AW_then fun K4 hK4 => ?_
  refine AW_for (S := Nat × Nat × Nat × List Int) (fun s => s.1 ≤ d ∧ s.2.1 < t.next.length ∧ s.2.2.1 < t.next.length ∧ s.2.2.2 ++ partF t s.1 s.2.1 s.2.2.1 = partF t d a b ∧ s.2.2.2.length + s.1 ≤ d)
    (fun s => ⟨lst [(3, .ref 3 0 0), (4, .ref 4 0 0), (5, .ref 5 0 0), (9, .d (dRows (rndF t k))), (10, int s.1), (11, .own 80 0 s.2.2.2.length)],
      hlst [(3, boxT t), (4, .box 3 [int s.2.1]), (5, .box 3 [int s.2.2.1]), (80, rowI s.2.2.2)]⟩) (fun s => s.1) (d, a, b, []) ?_ (by simp; omega) ?_
  · refine (Imp.adopt 11 80 3 1 rfl rfl).trans ?_
    refine Imp.to' (fun _ => trivial) (by simp [boxT, rowI, dRows, dRow, dInts, Function.comp_def]) (by simp [boxT, rowI, dRows, dRow, dInts, Function.comp_def])
  · rintro ⟨m, a1, b1, out⟩ ⟨hm, ha1, hb1, hout, hol⟩
    dsimp only at hm ha1 hb1 hout hol ⊢
    refine AW_then fun K5 hK5 => ?_
    cases m with
    | zero =>
      refine AW_rg (tyOf_good _) (fun _ => trivial) [3, 4, 5, 9, 10, 11, 50] [3, 4, 5, 80] fun K' hK' => ?_
      repeat (refine sxf_next fun K2 hK2 => ?_; simp; (repeat (refine ⟨by omega, ?_⟩)); refine hK2 _ ?_; clear hK2 K2)
      first | refine sxf_nil (hK' _ ?_) | (refine sxf_next fun K2 hK2 => ?_; clear hK2 hK'; simp; fail "STUCK")
      refine AW.st (by simp; rfl) ?_
      clear hK' K'
      refine AW_cond false rfl (fun h => by cases h) (fun _ => ?_)
      refine AW_exit (hK4 _ ?_)
      simp only [partF, List.append_nil] at hout
      subst hout
      refine AW_rg (tyOf_good _) (fun _ => trivial) [6, 7] [80] fun K' hK' => ?_
      repeat (refine sxf_next fun K2 hK2 => ?_; simp; (repeat (refine ⟨by omega, ?_⟩)); refine hK2 _ ?_; clear hK2 K2)
      first | refine sxf_nil (hK' _ ?_) | (refine sxf_next fun K2 hK2 => ?_; clear hK2 hK'; simp; fail "STUCK")
      refine AW.st (by simp; rfl) ?_
      clear hK' K'
      refine AW_ret ?_
      simp [D.le, D.le.go, takeMap, rowI, dRow, dInts, dNum, D.le_refl]
    | succ q =>
      refine AW_rg (tyOf_good _) (fun _ => trivial) [3, 4, 5, 9, 10, 11, 50] [3, 4, 5, 80] fun K' hK' => ?_
      repeat (refine sxf_next fun K2 hK2 => ?_; simp; (repeat (refine ⟨by omega, ?_⟩)); refine hK2 _ ?_; clear hK2 K2)
      first | refine sxf_nil (hK' _ ?_) | (refine sxf_next fun K2 hK2 => ?_; clear hK2 hK'; simp; fail "STUCK")
      refine AW.st (by simp; rfl) ?_
      clear hK' K'
      refine AW_cond true rfl (fun _ => ?_) (fun h => by cases h)
      refine AW_skip (hK5 _ ?_)
      refine AW_then fun K6 hK6 => ?_
      refine AW_block ?_
      have hw64 : wd t ≤ 64 := ok.ins
      have hwa : t.next[a1].length = wd t := by have h1 := ok.nextLen a1 ha1; rw [List.getD_eq_getElem?_getD, List.getElem?_eq_getElem ha1] at h1; exact h1
      have hwb : t.next[b1].length = wd t := by have h1 := ok.nextLen b1 hb1; rw [List.getD_eq_getElem?_getD, List.getElem?_eq_getElem hb1] at h1; exact h1
      refine AW_rg (tyOf_good _) (fun _ => trivial) [3, 4, 5, 9, 10, 11, 58, 59] [3, 4, 5, 80] fun K' hK' => ?_
      repeat (refine sxf_next fun K2 hK2 => ?_; simp [boxT, dRows, dRow, dInts, ha1, hb1, hwa]; (repeat (refine ⟨by omega, ?_⟩)); refine hK2 _ ?_; clear hK2 K2)
      first | refine sxf_nil (hK' _ ?_) | (refine sxf_next fun K2 hK2 => ?_; clear hK2 hK'; simp [boxT, dRows, dRow, dInts, ha1, hb1, hwa]; fail "STUCK")
      refine AW.st (by simp [boxT, dRows, dRow, dInts, ha1, hb1, hwa]; rfl) ?_
      clear hK' K'
      refine AW_for (S := Nat) (fun i => i ≤ wd t ∧ ∀ j, j < i → hitF t (q + 1) a1 b1 j = false)
        (fun i => ⟨lst [(3, .ref 3 0 0), (4, .ref 4 0 0), (5, .ref 5 0 0), (9, .d (dRows (rndF t k))), (10, int (q + 1)), (11, .own 80 0 out.length), (58, int (wd t)), (59, int i)],
          hlst [(3, boxT t), (4, .box 3 [int a1]), (5, .box 3 [int b1]), (80, rowI out)]⟩) (fun i => wd t - i) 0 ?_ (by simp) ?_
      · refine Imp.to' (fun _ => trivial) (by simp [boxT, rowI, dRows, dRow, dInts, Function.comp_def]) (by simp [boxT, rowI, dRows, dRow, dInts, Function.comp_def])
      · rintro i ⟨hi, hmiss⟩
        refine AW_rg (tyOf_good _) (fun _ => trivial) [3, 4, 5, 9, 10, 11, 58, 59, 60] [3, 4, 5, 80] fun K' hK' => ?_
        repeat (refine sxf_next fun K2 hK2 => ?_; simp [rowI, boxT]; (repeat (refine ⟨by omega, ?_⟩)); refine hK2 _ ?_; clear hK2 K2)
        first | refine sxf_nil (hK' _ ?_) | (refine sxf_next fun K2 hK2 => ?_; clear hK2 hK'; simp [rowI, boxT]; fail "STUCK")
        refine AW.st (by simp [rowI, boxT]; rfl) ?_
        clear hK' K'
        refine AW_then fun K7 hK7 => ?_
        refine AW_cond' (b := i < wd t) (by simp [D.le, D.le.go, takeMap]) (fun hc => ?_) (fun hc => ?_)
        · have hiw : i < wd t := hc
          refine AW_skip (hK7 _ ?_)
          refine AW_then fun K8 hK8 => ?_
          refine AW_block ?_
          refine AW_rg (tyOf_good _) (fun _ => trivial) [3, 4, 5, 9, 10, 11, 12, 58, 59] [3, 4, 5, 80] fun K' hK' => ?_
          repeat (refine sxf_next fun K2 hK2 => ?_; simp; (repeat (refine ⟨by omega, ?_⟩)); refine hK2 _ ?_; clear hK2 K2)
          first | refine sxf_nil (hK' _ ?_) | (refine sxf_next fun K2 hK2 => ?_; clear hK2 hK'; simp; fail "STUCK")
          refine AW.st (by simp; rfl) ?_
          clear hK' K'
          have hia : i < t.next[a1].length := by omega
          have hib : i < t.next[b1].length := by omega
          refine AW_rd (tyOf_good _) (fun _ => trivial) (by kernel_rfl) [3, 4, 5, 9, 10, 11, 12, 13, 14, 58, 59] [3, 4, 5, 80] (by kernel_rfl) fun K' hK' => ?_
          repeat (refine sxd_next fun K2 hK2 => ?_; simp [dRows, dRow, dInts, ha1, hb1, hia, hib]; (repeat (refine ⟨by omega, ?_⟩)); refine hK2 _ ?_; clear hK2 K2)
          first | refine sxd_nil (hK' _ ?_) | (refine sxd_next fun K2 hK2 => ?_; clear hK2 hK'; simp [dRows, dRow, dInts, ha1, hb1, hia, hib]; fail "STUCK")
          refine AW.st (by simp [dRows, dRow, dInts, ha1, hb1, hia, hib]; rfl) ?_
          clear hK' K'
          have hxa := ok.there a1 ha1
          have hxb := ok.there b1 hb1
          have htl := ok.tells
          have htla := ok.tellsLen a1 ha1
          have htlb := ok.tellsLen b1 hb1
          have hta : a1 < t.tells.length := by unfold Tab.n at htl; omega
          have htb : b1 < t.tells.length := by unfold Tab.n at htl; omega
          rw [List.getD_eq_getElem?_getD, List.getElem?_eq_getElem ha1] at hxa
          rw [List.getD_eq_getElem?_getD, List.getElem?_eq_getElem hb1] at hxb
          rw [List.getD_eq_getElem?_getD, List.getElem?_eq_getElem hta] at htla
          rw [List.getD_eq_getElem?_getD, List.getElem?_eq_getElem htb] at htlb
          dsimp only [Option.getD_some] at hxa hxb htla htlb
          have hia2 : i < t.tells[a1].length := by rw [htla]; exact hiw
          have hib2 : i < t.tells[b1].length := by rw [htlb]; exact hiw
          obtain ⟨hx0, hx1⟩ := hxa t.next[a1][i] (by simp)
          obtain ⟨hy0, hy1⟩ := hxb t.next[b1][i] (by simp)
          have hln : (iter t q).length = t.n := iter_len t q
          have hx2 : t.next[a1][i] < ((iter t q).length : Int) := by omega
          have hy2 : t.next[b1][i] < ((iter t q).length : Int) := by omega
          have hx3 : t.next[a1][i].toNat < (iter t q).length := by omega
          have hy3 : t.next[b1][i].toNat < (iter t q).length := by omega
          have hnxa : nx t a1 i = t.next[a1][i].toNat := by simp [nx, List.getD_eq_getElem?_getD, ha1, hia]
          have hnxb : nx t b1 i = t.next[b1][i].toNat := by simp [nx, List.getD_eq_getElem?_getD, hb1, hib]
          have hxz : ((t.next[a1][i].toNat : Nat) : Int) = t.next[a1][i] := by omega
          have hyz : ((t.next[b1][i].toNat : Nat) : Int) = t.next[b1][i] := by omega
          have htea : te t a1 i = t.tells[a1][i] := by simp [te, List.getD_eq_getElem?_getD, hta, hia2]
          have hteb : te t b1 i = t.tells[b1][i] := by simp [te, List.getD_eq_getElem?_getD, htb, hib2]
          have hqk : q < k + 1 := by omega
          by_cases hq0 : q = 0
          · subst hq0
            have hhit : hitF t (0 + 1) a1 b1 i = (t.tells[a1][i] != t.tells[b1][i]) := by simp [hitF, htea, hteb]
            by_cases ht : t.tells[a1][i] = t.tells[b1][i]
            · have hfal : hitF t (0 + 1) a1 b1 i = false := by rw [hhit]; simp [ht]
              refine AW_rd (tyOf_good _) (fun _ => trivial) (by kernel_rfl) [3, 4, 5, 9, 10, 11, 12, 13, 14, 58, 59, 121] [3, 4, 5, 80] (by kernel_rfl) fun K' hK' => ?_
              repeat (refine sxd_next fun K2 hK2 => ?_; simp [ht, dRows, dRow, dInts, hta, htb, hia2, hib2]; (repeat (refine ⟨by omega, ?_⟩)); refine hK2 _ ?_; clear hK2 K2)
              first | refine sxd_nil (hK' _ ?_) | (refine sxd_next fun K2 hK2 => ?_; clear hK2 hK'; simp [ht, dRows, dRow, dInts, hta, htb, hia2, hib2]; fail "STUCK")
              refine AW.st (by simp [ht, dRows, dRow, dInts, hta, htb, hia2, hib2]; rfl) ?_
              clear hK' K'
              refine AW_cond false rfl (fun h => by cases h) (fun _ => ?_)
              refine AW_skip (hK8 _ ?_)
              refine AW_re (tyOf_good _) (fun _ => trivial) fun K' hK' => ?_
              repeat (refine sxf_next fun K2 hK2 => ?_; simp; (repeat (refine ⟨by omega, ?_⟩)); refine hK2 _ ?_; clear hK2 K2)
              first | refine sxf_nil (hK' _ ?_) | (refine sxf_next fun K2 hK2 => ?_; clear hK2 hK'; simp; fail "STUCK")
              clear hK' K'
              try simp only [thn, inb]
              refine Again.mk (i + 1) ⟨by omega, fun j hj => ?_⟩ (by omega) ?_
              · rcases Nat.lt_or_ge j i with h | h
                · exact hmiss j h
                · rw [show j = i by omega]; exact hfal
              refine Imp.to' (fun _ => trivial) (by simp [boxT, rowI, dRows, dRow, dInts, Function.comp_def]) (by simp [boxT, rowI, dRows, dRow, dInts, Function.comp_def])
            · have htru : hitF t (0 + 1) a1 b1 i = true := by rw [hhit]; simp [ht]
              refine AW_rd (tyOf_good _) (fun _ => trivial) (by kernel_rfl) [3, 4, 5, 9, 10, 11, 12, 13, 14, 58, 59, 121] [3, 4, 5, 80] (by kernel_rfl) fun K' hK' => ?_
              repeat (refine sxd_next fun K2 hK2 => ?_; simp [ht, dRows, dRow, dInts, hta, htb, hia2, hib2]; (repeat (refine ⟨by omega, ?_⟩)); refine hK2 _ ?_; clear hK2 K2)
              first | refine sxd_nil (hK' _ ?_) | (refine sxd_next fun K2 hK2 => ?_; clear hK2 hK'; simp [ht, dRows, dRow, dInts, hta, htb, hia2, hib2]; fail "STUCK")
              refine AW.st (by simp [ht, dRows, dRow, dInts, hta, htb, hia2, hib2]; rfl) ?_
              clear hK' K'
              refine AW_cond true rfl (fun _ => ?_) (fun h => by cases h)
              refine AW_rg (tyOf_good _) (fun _ => trivial) [3, 4, 5, 9, 10, 11, 13, 14] [3, 4, 5, 80] fun K' hK' => ?_
              repeat (refine sxf_next fun K2 hK2 => ?_; simp [rowI]; (repeat (refine ⟨by omega, ?_⟩)); refine hK2 _ ?_; clear hK2 K2)
              first | refine sxf_nil (hK' _ ?_) | (refine sxf_next fun K2 hK2 => ?_; clear hK2 hK'; simp [rowI]; fail "STUCK")
              refine AW.st (by simp [rowI]; rfl) ?_
              clear hK' K'
              refine AW_rg (tyOf_good _) (fun _ => trivial) [3, 4, 5, 9, 10, 11] [3, 4, 5, 80] fun K' hK' => ?_
              repeat (refine sxf_next fun K2 hK2 => ?_; simp [rowI]; (repeat (refine ⟨by omega, ?_⟩)); refine hK2 _ ?_; clear hK2 K2)
              first | refine sxf_nil (hK' _ ?_) | (refine sxf_next fun K2 hK2 => ?_; clear hK2 hK'; simp [rowI]; fail "STUCK")
              refine AW.st (by simp [rowI]; rfl) ?_
              clear hK' K'
              refine AW_exit (hK6 _ ?_)
              refine AW_re (tyOf_good _) (fun _ => trivial) fun K' hK' => ?_
              repeat (refine sxf_next fun K2 hK2 => ?_; simp; (repeat (refine ⟨by omega, ?_⟩)); refine hK2 _ ?_; clear hK2 K2)
              first | refine sxf_nil (hK' _ ?_) | (refine sxf_next fun K2 hK2 => ?_; clear hK2 hK'; simp; fail "STUCK")
              clear hK' K'
              try simp only [thn, inb]
              refine Again.mk (0, nx t a1 i, nx t b1 i, out ++ [(i : Int)]) ⟨by omega, by have := ok.nx_lt ha1 hiw; exact this, by have := ok.nx_lt hb1 hiw; exact this, ?_, by simp; omega⟩ (by simp) ?_
              · have hstep : partF t (0 + 1) a1 b1 = (i : Int) :: partF t 0 (nx t a1 i) (nx t b1 i) := partF_hit hiw htru hmiss
                rw [← hout, hstep]
                simp
              refine Imp.to' (fun _ => trivial) (by simp [boxT, rowI, dRows, dRow, dInts, dNum, Function.comp_def, hnxa, hnxb, hxz, hyz, takeMap]) (by simp [boxT, rowI, dRows, dRow, dInts, dNum, Function.comp_def, hnxa, hnxb, hxz, hyz, takeMap])
          · have hq1 : 0 < q := by omega
            have hqe : ¬ ((q : Int) + 1 = 1) := by omega
            have hqg : (1 : Int) < (q : Int) + 1 := by omega
            have hhit : hitF t (q + 1) a1 b1 i = ((iter t q)[t.next[a1][i].toNat] != (iter t q)[t.next[b1][i].toNat]) := by simp [hitF, hq0, hnxa, hnxb, List.getD_eq_getElem?_getD, hx3, hy3]
            by_cases ht : (iter t q)[t.next[a1][i].toNat] = (iter t q)[t.next[b1][i].toNat]
            · have hfal : hitF t (q + 1) a1 b1 i = false := by rw [hhit]; simp [ht]
              refine AW_rd (tyOf_good _) (fun _ => trivial) (by kernel_rfl) [3, 4, 5, 9, 10, 11, 12, 13, 14, 58, 59, 121] [3, 4, 5, 80] (by kernel_rfl) fun K' hK' => ?_
              repeat (refine sxd_next fun K2 hK2 => ?_; simp [hq0, hq1, hqe, hqg, ht, dRows, dRow, dInts, hqk, hrl, hrg, hx0, hx2, hx3, hy0, hy2, hy3]; (repeat (refine ⟨by omega, ?_⟩)); refine hK2 _ ?_; clear hK2 K2)
              first | refine sxd_nil (hK' _ ?_) | (refine sxd_next fun K2 hK2 => ?_; clear hK2 hK'; simp [hq0, hq1, hqe, hqg, ht, dRows, dRow, dInts, hqk, hrl, hrg, hx0, hx2, hx3, hy0, hy2, hy3]; fail "STUCK")
              refine AW.st (by simp [hq0, hq1, hqe, hqg, ht, dRows, dRow, dInts, hqk, hrl, hrg, hx0, hx2, hx3, hy0, hy2, hy3]; rfl) ?_
              clear hK' K'
              refine AW_cond false rfl (fun h => by cases h) (fun _ => ?_)
              refine AW_skip (hK8 _ ?_)
              refine AW_re (tyOf_good _) (fun _ => trivial) fun K' hK' => ?_
              repeat (refine sxf_next fun K2 hK2 => ?_; simp; (repeat (refine ⟨by omega, ?_⟩)); refine hK2 _ ?_; clear hK2 K2)
              first | refine sxf_nil (hK' _ ?_) | (refine sxf_next fun K2 hK2 => ?_; clear hK2 hK'; simp; fail "STUCK")
              clear hK' K'
              try simp only [thn, inb]
              refine Again.mk (i + 1) ⟨by omega, fun j hj => ?_⟩ (by omega) ?_
              · rcases Nat.lt_or_ge j i with h | h
                · exact hmiss j h
                · rw [show j = i by omega]; exact hfal
              refine Imp.to' (fun _ => trivial) (by simp [boxT, rowI, dRows, dRow, dInts, Function.comp_def]) (by simp [boxT, rowI, dRows, dRow, dInts, Function.comp_def])
            · have htru : hitF t (q + 1) a1 b1 i = true := by rw [hhit]; simp [ht]
              refine AW_rd (tyOf_good _) (fun _ => trivial) (by kernel_rfl) [3, 4, 5, 9, 10, 11, 12, 13, 14, 58, 59, 121] [3, 4, 5, 80] (by kernel_rfl) fun K' hK' => ?_
              repeat (refine sxd_next fun K2 hK2 => ?_; simp [hq0, hq1, hqe, hqg, ht, dRows, dRow, dInts, hqk, hrl, hrg, hx0, hx2, hx3, hy0, hy2, hy3]; (repeat (refine ⟨by omega, ?_⟩)); refine hK2 _ ?_; clear hK2 K2)
              first | refine sxd_nil (hK' _ ?_) | (refine sxd_next fun K2 hK2 => ?_; clear hK2 hK'; simp [hq0, hq1, hqe, hqg, ht, dRows, dRow, dInts, hqk, hrl, hrg, hx0, hx2, hx3, hy0, hy2, hy3]; fail "STUCK")
              refine AW.st (by simp [hq0, hq1, hqe, hqg, ht, dRows, dRow, dInts, hqk, hrl, hrg, hx0, hx2, hx3, hy0, hy2, hy3]; rfl) ?_
              clear hK' K'
              refine AW_cond true rfl (fun _ => ?_) (fun h => by cases h)
              refine AW_rg (tyOf_good _) (fun _ => trivial) [3, 4, 5, 9, 10, 11, 13, 14] [3, 4, 5, 80] fun K' hK' => ?_
              repeat (refine sxf_next fun K2 hK2 => ?_; simp [rowI]; (repeat (refine ⟨by omega, ?_⟩)); refine hK2 _ ?_; clear hK2 K2)
              first | refine sxf_nil (hK' _ ?_) | (refine sxf_next fun K2 hK2 => ?_; clear hK2 hK'; simp [rowI]; fail "STUCK")
              refine AW.st (by simp [rowI]; rfl) ?_
              clear hK' K'
              refine AW_rg (tyOf_good _) (fun _ => trivial) [3, 4, 5, 9, 10, 11] [3, 4, 5, 80] fun K' hK' => ?_
              repeat (refine sxf_next fun K2 hK2 => ?_; simp [rowI]; (repeat (refine ⟨by omega, ?_⟩)); refine hK2 _ ?_; clear hK2 K2)
              first | refine sxf_nil (hK' _ ?_) | (refine sxf_next fun K2 hK2 => ?_; clear hK2 hK'; simp [rowI]; fail "STUCK")
              refine AW.st (by simp [rowI]; rfl) ?_
              clear hK' K'
              refine AW_exit (hK6 _ ?_)
              refine AW_re (tyOf_good _) (fun _ => trivial) fun K' hK' => ?_
              repeat (refine sxf_next fun K2 hK2 => ?_; simp; (repeat (refine ⟨by omega, ?_⟩)); refine hK2 _ ?_; clear hK2 K2)
              first | refine sxf_nil (hK' _ ?_) | (refine sxf_next fun K2 hK2 => ?_; clear hK2 hK'; simp; fail "STUCK")
              clear hK' K'
              try simp only [thn, inb]
              refine Again.mk (q, nx t a1 i, nx t b1 i, out ++ [(i : Int)]) ⟨by omega, by have := ok.nx_lt ha1 hiw; exact this, by have := ok.nx_lt hb1 hiw; exact this, ?_, by simp; omega⟩ (by simp) ?_
              · have hstep : partF t (q + 1) a1 b1 = (i : Int) :: partF t q (nx t a1 i) (nx t b1 i) := partF_hit hiw htru hmiss
                rw [← hout, hstep]
                simp
              refine Imp.to' (fun _ => trivial) (by simp [boxT, rowI, dRows, dRow, dInts, dNum, Function.comp_def, hnxa, hnxb, hxz, hyz, takeMap]) (by simp [boxT, rowI, dRows, dRow, dInts, dNum, Function.comp_def, hnxa, hnxb, hxz, hyz, takeMap])
        · have hiw : i = wd t := by omega
          subst hiw
          refine AW_exit (hK6 _ ?_)
          refine AW_re (tyOf_good _) (fun _ => trivial) fun K' hK' => ?_
          repeat (refine sxf_next fun K2 hK2 => ?_; simp; (repeat (refine ⟨by omega, ?_⟩)); refine hK2 _ ?_; clear hK2 K2)
          first | refine sxf_nil (hK' _ ?_) | (refine sxf_next fun K2 hK2 => ?_; clear hK2 hK'; simp; fail "STUCK")
          clear hK' K'
          try simp only [thn, inb]
          refine Again.mk (q, a1, b1, out) ⟨by omega, ha1, hb1, ?_, by dsimp only; omega⟩ (by simp) ?_
          · have hstep : partF t (q + 1) a1 b1 = partF t q a1 b1 := partF_miss hmiss
            rw [← hout, hstep]
          refine Imp.to' (fun _ => trivial) (by simp [boxT, rowI, dRows, dRow, dInts, Function.comp_def]) (by simp [boxT, rowI, dRows, dRow, dInts, Function.comp_def])
#print axioms part_none
#print axioms part_good
end Go.Proofs.YtoikggboakojlaaDoor

/-
  What a table tells of inputs; a number below another one.
-/
namespace Go.Proofs.YtoikggboakojlaaDoor
open Go.Av
set_option linter.unusedSimpArgs false
set_option linter.unusedVariables false

def natsI (l : List Nat) : List Int := l.map fun (c : Nat) => (c : Int)
theorem natsI_len (l : List Nat) : (natsI l).length = l.length := by simp [natsI]
theorem natsI_get (l : List Nat) (i : Nat) (h : i < (natsI l).length) : (natsI l)[i] = ((l[i]'(by rw [natsI_len] at h; exact h) : Nat) : Int) := by simp [natsI]
def dNats (l : List Nat) : D := dRow (natsI l)

theorem tell1_spec (G : Glob) (t : Tab) (hp : 0 < t.next.length) (x : Int) : PureC Tryd.prog G 66 [dNum x, .ip [dRows t.next, dRows t.tells]] (.v (.bool (x < 0 || (wd t : Int) ≤ x))) := by
  have hg : t.next.getD 0 [] = t.next[0] := by rw [List.getD_eq_getElem?_getD, List.getElem?_eq_getElem hp]; rfl
  have hw : wd t = t.next[0].length := by unfold wd; rw [hg]
  refine PureC.of_body (tyOf_good _) Tryd.func66 rfl rfl (rs := [.tmp 3]) Tryd.results66 (by simp [Tryd.ntmps66]) fun X => ?_
  simp only [Tryd.ntmps66, List.map]
  refine AW_rg (tyOf_good _) (fun _ => trivial) [0, 1] [] fun K' hK' => ?_
  repeat (refine sxf_next fun K2 hK2 => ?_; simp [dNum]; (repeat (refine ⟨by omega, ?_⟩)); refine hK2 _ ?_; clear hK2 K2)
  first | refine sxf_nil (hK' _ ?_) | (refine sxf_next fun K2 hK2 => ?_; clear hK2 hK'; simp [dNum]; fail "STUCK")
  refine AW.st (by simp [dNum]; rfl) ?_
  clear hK' K'
  by_cases h : x < 0
  · refine AW_rg (tyOf_good _) (fun _ => trivial) [3] [] fun K' hK' => ?_
    repeat (refine sxf_next fun K2 hK2 => ?_; simp [dNum, h]; (repeat (refine ⟨by omega, ?_⟩)); refine hK2 _ ?_; clear hK2 K2)
    first | refine sxf_nil (hK' _ ?_) | (refine sxf_next fun K2 hK2 => ?_; clear hK2 hK'; simp [dNum, h]; fail "STUCK")
    refine AW.st (by simp [dNum, h]; rfl) ?_
    clear hK' K'
    refine AW_ret ?_
    simp [D.le, D.le.go, takeMap]
    simp [h]
  · refine AW_rg (tyOf_good _) (fun _ => trivial) [3] [] fun K' hK' => ?_
    repeat (refine sxf_next fun K2 hK2 => ?_; simp [dNum, h, dRows, dRow, dInts, hp]; (repeat (refine ⟨by omega, ?_⟩)); refine hK2 _ ?_; clear hK2 K2)
    first | refine sxf_nil (hK' _ ?_) | (refine sxf_next fun K2 hK2 => ?_; clear hK2 hK'; simp [dNum, h, dRows, dRow, dInts, hp]; fail "STUCK")
    refine AW.st (by simp [dNum, h, dRows, dRow, dInts, hp]; rfl) ?_
    clear hK' K'
    refine AW_ret ?_
    simp [D.le, D.le.go, takeMap]
    simp [h, hw]

set_option maxHeartbeats 1000000 in
theorem btell_bad (G : Glob) (t : Tab) (a : Int) (l : List Int) (e : Int × Option Nat) (h : checkF t = some e) : PureC Tryd.prog G 26 [dTab t, dNum a, dRow l] (.tup [.sl (some false) [], dErr (some e)]) := by
  refine PureC.of_body (tyOf_good _) Tryd.func26 rfl rfl (rs := [.tmp 6, .tmp 7]) Tryd.results26 (by simp [Tryd.ntmps26]) fun X => ?_
  simp only [Tryd.ntmps26, List.map]
  refine AW_rg (tyOf_good _) (fun _ => trivial) [1, 2, 3] [3] fun K' hK' => ?_
  repeat (refine sxf_next fun K2 hK2 => ?_; simp [dTab, dNum]; (repeat (refine ⟨by omega, ?_⟩)); refine hK2 _ ?_; clear hK2 K2)
  first | refine sxf_nil (hK' _ ?_) | (refine sxf_next fun K2 hK2 => ?_; clear hK2 hK'; simp [dTab, dNum]; fail "STUCK")
  refine AW.st (by simp [dTab, dNum]; rfl) ?_
  clear hK' K'
  refine AW_then fun K1 hK1 => ?_
  refine AW_rg (tyOf_good _) (fun _ => trivial) [1, 2, 3, 8] [3] fun K' hK' => ?_
  repeat (refine sxf_next fun K2 hK2 => ?_; simp; (repeat (refine ⟨by omega, ?_⟩)); refine hK2 _ ?_; clear hK2 K2)
  refine sxf_next fun K2 hK2 => ?_
  simp
  refine callK.data (check_spec G t) (by simp; rfl) (by first | exact D.leGo_refl _ | simp [takeMap, List.map_map, Function.comp_def, D.le, D.le.go, D.le_refl, D.leGo_refl]) ?_
  refine hK2 _ ?_
  clear hK2 K2
  simp only [putd, upd_lst]
  repeat (refine sxf_next fun K2 hK2 => ?_; simp; (repeat (refine ⟨by omega, ?_⟩)); refine hK2 _ ?_; clear hK2 K2)
  first | refine sxf_nil (hK' _ ?_) | (refine sxf_next fun K2 hK2 => ?_; clear hK2 hK'; simp; fail "STUCK")
  refine AW.st (by simp; rfl) ?_
  clear hK' K'
  rw [h]
  obtain ⟨c, s⟩ := e
  cases s
  · refine AW_rg (tyOf_good _) (fun _ => trivial) [1, 2, 3, 8, 15] [3] fun K' hK' => ?_
    repeat (refine sxf_next fun K2 hK2 => ?_; simp [dErr]; (repeat (refine ⟨by omega, ?_⟩)); refine hK2 _ ?_; clear hK2 K2)
    first | refine sxf_nil (hK' _ ?_) | (refine sxf_next fun K2 hK2 => ?_; clear hK2 hK'; simp [dErr]; fail "STUCK")
    refine AW.st (by simp [dErr]; rfl) ?_
    clear hK' K'
    refine AW_cond true rfl (fun _ => ?_) (fun h => by cases h)
    refine AW_rg (tyOf_good _) (fun _ => trivial) [6, 7] [3] fun K' hK' => ?_
    repeat (refine sxf_next fun K2 hK2 => ?_; simp; (repeat (refine ⟨by omega, ?_⟩)); refine hK2 _ ?_; clear hK2 K2)
    first | refine sxf_nil (hK' _ ?_) | (refine sxf_next fun K2 hK2 => ?_; clear hK2 hK'; simp; fail "STUCK")
    refine AW.st (by simp; rfl) ?_
    clear hK' K'
    refine AW_ret ?_
    simp [D.le, D.le.go, takeMap, dErr]
  · refine AW_rg (tyOf_good _) (fun _ => trivial) [1, 2, 3, 8, 15] [3] fun K' hK' => ?_
    repeat (refine sxf_next fun K2 hK2 => ?_; simp [dErr]; (repeat (refine ⟨by omega, ?_⟩)); refine hK2 _ ?_; clear hK2 K2)
    first | refine sxf_nil (hK' _ ?_) | (refine sxf_next fun K2 hK2 => ?_; clear hK2 hK'; simp [dErr]; fail "STUCK")
    refine AW.st (by simp [dErr]; rfl) ?_
    clear hK' K'
    refine AW_cond true rfl (fun _ => ?_) (fun h => by cases h)
    refine AW_rg (tyOf_good _) (fun _ => trivial) [6, 7] [3] fun K' hK' => ?_
    repeat (refine sxf_next fun K2 hK2 => ?_; simp; (repeat (refine ⟨by omega, ?_⟩)); refine hK2 _ ?_; clear hK2 K2)
    first | refine sxf_nil (hK' _ ?_) | (refine sxf_next fun K2 hK2 => ?_; clear hK2 hK'; simp; fail "STUCK")
    refine AW.st (by simp; rfl) ?_
    clear hK' K'
    refine AW_ret ?_
    simp [D.le, D.le.go, takeMap, dErr]

set_option maxHeartbeats 2000000 in
theorem btell_range (G : Glob) (t : Tab) (ok : Ok t) (a : Int) (l : List Int) (hl : l.length < 2^40) (h : a < 0 ∨ (t.next.length : Int) ≤ a ∨ l.any (fun x => x < 0 || (wd t : Int) ≤ x) = true) :
    PureC Tryd.prog G 26 [dTab t, dNum a, dRow l] (.tup [.sl (some false) [], dErr (some (2, none))]) := by
  have hch : checkF t = none := ok_iff.2 ok
  have hp : 0 < t.next.length := ok.pos
  refine PureC.of_body (tyOf_good _) Tryd.func26 rfl rfl (rs := [.tmp 6, .tmp 7]) Tryd.results26 (by simp [Tryd.ntmps26]) fun X => ?_
  simp only [Tryd.ntmps26, List.map]
  refine AW_rg (tyOf_good _) (fun _ => trivial) [1, 2, 3] [3] fun K' hK' => ?_
  repeat (refine sxf_next fun K2 hK2 => ?_; simp [dTab, dNum]; (repeat (refine ⟨by omega, ?_⟩)); refine hK2 _ ?_; clear hK2 K2)
  first | refine sxf_nil (hK' _ ?_) | (refine sxf_next fun K2 hK2 => ?_; clear hK2 hK'; simp [dTab, dNum]; fail "STUCK")
  refine AW.st (by simp [dTab, dNum]; rfl) ?_
  clear hK' K'
  refine AW_then fun K1 hK1 => ?_
  refine AW_rg (tyOf_good _) (fun _ => trivial) [1, 2, 3, 8] [3] fun K' hK' => ?_
  repeat (refine sxf_next fun K2 hK2 => ?_; simp; (repeat (refine ⟨by omega, ?_⟩)); refine hK2 _ ?_; clear hK2 K2)
  refine sxf_next fun K2 hK2 => ?_
  simp
  refine callK.data (check_spec G t) (by simp; rfl) (by first | exact D.leGo_refl _ | simp [takeMap, List.map_map, Function.comp_def, D.le, D.le.go, D.le_refl, D.leGo_refl]) ?_
  refine hK2 _ ?_
  clear hK2 K2
  simp only [putd, upd_lst]
  repeat (refine sxf_next fun K2 hK2 => ?_; simp; (repeat (refine ⟨by omega, ?_⟩)); refine hK2 _ ?_; clear hK2 K2)
  first | refine sxf_nil (hK' _ ?_) | (refine sxf_next fun K2 hK2 => ?_; clear hK2 hK'; simp; fail "STUCK")
  refine AW.st (by simp; rfl) ?_
  clear hK' K'
  rw [hch]
  refine AW_rg (tyOf_good _) (fun _ => trivial) [1, 2, 3, 8, 15] [3] fun K' hK' => ?_
  repeat (refine sxf_next fun K2 hK2 => ?_; simp [dErr]; (repeat (refine ⟨by omega, ?_⟩)); refine hK2 _ ?_; clear hK2 K2)
  first | refine sxf_nil (hK' _ ?_) | (refine sxf_next fun K2 hK2 => ?_; clear hK2 hK'; simp [dErr]; fail "STUCK")
  refine AW.st (by simp [dErr]; rfl) ?_
  clear hK' K'
  refine AW_cond false rfl (fun h => by cases h) (fun _ => ?_)
  refine AW_skip (hK1 _ ?_)
  refine AW_then fun K2 hK2 => ?_
  by_cases h1 : a < 0
  · refine AW_rg (tyOf_good _) (fun _ => trivial) [1, 2, 3, 30] [3] fun K' hK' => ?_
    repeat (refine sxf_next fun K2 hK2 => ?_; simp [h1, dRows]; (repeat (refine ⟨by omega, ?_⟩)); refine hK2 _ ?_; clear hK2 K2)
    first | refine sxf_nil (hK' _ ?_) | (refine sxf_next fun K2 hK2 => ?_; clear hK2 hK'; simp [h1, dRows]; fail "STUCK")
    refine AW.st (by simp [h1, dRows]; rfl) ?_
    clear hK' K'
    refine AW_cond true rfl (fun _ => ?_) (fun h => by cases h)
    refine AW_rg (tyOf_good _) (fun _ => trivial) [6, 7] [3] fun K' hK' => ?_
    repeat (refine sxf_next fun K2 hK2 => ?_; simp; (repeat (refine ⟨by omega, ?_⟩)); refine hK2 _ ?_; clear hK2 K2)
    first | refine sxf_nil (hK' _ ?_) | (refine sxf_next fun K2 hK2 => ?_; clear hK2 hK'; simp; fail "STUCK")
    refine AW.st (by simp; rfl) ?_
    clear hK' K'
    refine AW_ret ?_
    simp [D.le, D.le.go, takeMap, dErr]
  by_cases h2 : (t.next.length : Int) ≤ a
  · refine AW_rg (tyOf_good _) (fun _ => trivial) [1, 2, 3, 30] [3] fun K' hK' => ?_
    repeat (refine sxf_next fun K2 hK2 => ?_; simp [h1, h2, dRows]; (repeat (refine ⟨by omega, ?_⟩)); refine hK2 _ ?_; clear hK2 K2)
    first | refine sxf_nil (hK' _ ?_) | (refine sxf_next fun K2 hK2 => ?_; clear hK2 hK'; simp [h1, h2, dRows]; fail "STUCK")
    refine AW.st (by simp [h1, h2, dRows]; rfl) ?_
    clear hK' K'
    refine AW_cond true rfl (fun _ => ?_) (fun h => by cases h)
    refine AW_rg (tyOf_good _) (fun _ => trivial) [6, 7] [3] fun K' hK' => ?_
    repeat (refine sxf_next fun K2 hK2 => ?_; simp; (repeat (refine ⟨by omega, ?_⟩)); refine hK2 _ ?_; clear hK2 K2)
    first | refine sxf_nil (hK' _ ?_) | (refine sxf_next fun K2 hK2 => ?_; clear hK2 hK'; simp; fail "STUCK")
    refine AW.st (by simp; rfl) ?_
    clear hK' K'
    refine AW_ret ?_
    simp [D.le, D.le.go, takeMap, dErr]
  have h3 : l.any (fun x => x < 0 || (wd t : Int) ≤ x) = true := by
    rcases h with h | h | h
    · exact absurd h h1
    · exact absurd h h2
    · exact h
  refine AW_rg (tyOf_good _) (fun _ => trivial) [1, 2, 3, 30] [3] fun K' hK' => ?_
  repeat (refine sxf_next fun K2 hK2 => ?_; simp [h1, h2, dRows, dRow, dInts]; (repeat (refine ⟨by omega, ?_⟩)); refine hK2 _ ?_; clear hK2 K2)
  refine sxf_next fun K2 hK2 => ?_
  simp [h1, h2, dRows, dRow, dInts]
  refine callK.lend (containsInt_spec G none dNum l 66 [.ip [dRows t.next, dRows t.tells]] (fun x => x < 0 || (wd t : Int) ≤ x) (by omega) (fun x _ => tell1_spec G t hp x)) (by simp; rfl) (by first | exact D.leGo_refl _ | simp [takeMap, List.map_map, Function.comp_def, D.le, D.le.go, D.le_refl, D.leGo_refl, h1, h2, dRows, dRow, dInts]) (by simp [D.scalar]) ?_
  refine hK2 _ ?_
  clear hK2 K2
  simp only [putd, upd_lst]
  repeat (refine sxf_next fun K2 hK2 => ?_; simp [h1, h2, dRows, dRow, dInts]; (repeat (refine ⟨by omega, ?_⟩)); refine hK2 _ ?_; clear hK2 K2)
  first | refine sxf_nil (hK' _ ?_) | (refine sxf_next fun K2 hK2 => ?_; clear hK2 hK'; simp [h1, h2, dRows, dRow, dInts]; fail "STUCK")
  refine AW.st (by simp [h1, h2, dRows, dRow, dInts]; rfl) ?_
  clear hK' K'
  refine AW_cond _ rfl (fun _ => ?_) (fun h => by simp [h3] at h)
  refine AW_rg (tyOf_good _) (fun _ => trivial) [6, 7] [3] fun K' hK' => ?_
  repeat (refine sxf_next fun K2 hK2 => ?_; simp; (repeat (refine ⟨by omega, ?_⟩)); refine hK2 _ ?_; clear hK2 K2)
  first | refine sxf_nil (hK' _ ?_) | (refine sxf_next fun K2 hK2 => ?_; clear hK2 hK'; simp; fail "STUCK")
  refine AW.st (by simp; rfl) ?_
  clear hK' K'
  refine AW_ret ?_
  simp [D.le, D.le.go, takeMap, dErr]

set_option maxHeartbeats 4000000 in
theorem btell_good (G : Glob) (t : Tab) (ok : Ok t) (a : Nat) (ha : a < t.next.length) (l : List Nat) (hlen : l.length < 2^40) (hl : ∀ c ∈ l, c < wd t) :
    PureC Tryd.prog G 26 [dTab t, dNum a, dNats l] (.tup [dRow (tellF t a l), .v .nilIface]) := by
  have hch : checkF t = none := ok_iff.2 ok
  have hp : 0 < t.next.length := ok.pos
  have h1 : ¬ (a : Int) < 0 := by omega
  have h2 : ¬ (t.next.length : Int) ≤ a := by omega
  have h3 : (natsI l).any (fun x => x < 0 || (wd t : Int) ≤ x) = false := by
    rw [List.any_eq_false]
    intro x hx
    obtain ⟨c, hc, rfl⟩ := List.mem_map.1 hx
    have := hl c hc
    simp
    omega
  have hnl := natsI_len l
  have hcont : PureC Tryd.prog G 61 [.sl none ((natsI l).map fun x => [dNum x]), .fn (.func 66) [.ip [dRows t.next, dRows t.tells]]] (.v (.bool false)) := by
    have h4 := containsInt_spec G none dNum (natsI l) 66 [.ip [dRows t.next, dRows t.tells]] (fun x => x < 0 || (wd t : Int) ≤ x) (by omega) (fun x _ => tell1_spec G t hp x)
    rwa [h3] at h4
  refine PureC.of_body (tyOf_good _) Tryd.func26 rfl rfl (rs := [.tmp 6, .tmp 7]) Tryd.results26 (by simp [Tryd.ntmps26]) fun X => ?_
  simp only [Tryd.ntmps26, List.map]
  refine AW_rg (tyOf_good _) (fun _ => trivial) [1, 2, 3] [3] fun K' hK' => ?_
  repeat (refine sxf_next fun K2 hK2 => ?_; simp [dTab, dNum]; (repeat (refine ⟨by omega, ?_⟩)); refine hK2 _ ?_; clear hK2 K2)
  first | refine sxf_nil (hK' _ ?_) | (refine sxf_next fun K2 hK2 => ?_; clear hK2 hK'; simp [dTab, dNum]; fail "STUCK")
  refine AW.st (by simp [dTab, dNum]; rfl) ?_
  clear hK' K'
  refine AW_then fun K1 hK1 => ?_
  refine AW_rg (tyOf_good _) (fun _ => trivial) [1, 2, 3, 8] [3] fun K' hK' => ?_
  repeat (refine sxf_next fun K2 hK2 => ?_; simp; (repeat (refine ⟨by omega, ?_⟩)); refine hK2 _ ?_; clear hK2 K2)
  refine sxf_next fun K2 hK2 => ?_
  simp
  refine callK.data (check_spec G t) (by simp; rfl) (by first | exact D.leGo_refl _ | simp [takeMap, List.map_map, Function.comp_def, D.le, D.le.go, D.le_refl, D.leGo_refl]) ?_
  refine hK2 _ ?_
  clear hK2 K2
  simp only [putd, upd_lst]
  repeat (refine sxf_next fun K2 hK2 => ?_; simp; (repeat (refine ⟨by omega, ?_⟩)); refine hK2 _ ?_; clear hK2 K2)
  first | refine sxf_nil (hK' _ ?_) | (refine sxf_next fun K2 hK2 => ?_; clear hK2 hK'; simp; fail "STUCK")
  refine AW.st (by simp; rfl) ?_
  clear hK' K'
  rw [hch]
  refine AW_rg (tyOf_good _) (fun _ => trivial) [1, 2, 3, 8, 15] [3] fun K' hK' => ?_
  repeat (refine sxf_next fun K2 hK2 => ?_; simp [dErr]; (repeat (refine ⟨by omega, ?_⟩)); refine hK2 _ ?_; clear hK2 K2)
  first | refine sxf_nil (hK' _ ?_) | (refine sxf_next fun K2 hK2 => ?_; clear hK2 hK'; simp [dErr]; fail "STUCK")
  refine AW.st (by simp [dErr]; rfl) ?_
  clear hK' K'
  refine AW_cond false rfl (fun h => by cases h) (fun _ => ?_)
  refine AW_skip (hK1 _ ?_)
  refine AW_then fun K2 hK2 => ?_
  refine AW_rg (tyOf_good _) (fun _ => trivial) [1, 2, 3, 30] [3] fun K' hK' => ?_
  repeat (refine sxf_next fun K2 hK2 => ?_; simp [h1, h2, Nat.not_le.2 ha, dNats, dRows, dRow, dInts]; (repeat (refine ⟨by omega, ?_⟩)); refine hK2 _ ?_; clear hK2 K2)
  refine sxf_next fun K2 hK2 => ?_
  simp [h1, h2, Nat.not_le.2 ha, dNats, dRows, dRow, dInts]
  refine callK.lend (hcont) (by simp; rfl) (by first | exact D.leGo_refl _ | simp [takeMap, List.map_map, Function.comp_def, D.le, D.le.go, D.le_refl, D.leGo_refl, h1, h2, Nat.not_le.2 ha, dNats, dRows, dRow, dInts]) (by simp [D.scalar]) ?_
  refine hK2 _ ?_
  clear hK2 K2
  simp only [putd, upd_lst]
  repeat (refine sxf_next fun K2 hK2 => ?_; simp [h1, h2, Nat.not_le.2 ha, dNats, dRows, dRow, dInts]; (repeat (refine ⟨by omega, ?_⟩)); refine hK2 _ ?_; clear hK2 K2)
  first | refine sxf_nil (hK' _ ?_) | (refine sxf_next fun K2 hK2 => ?_; clear hK2 hK'; simp [h1, h2, Nat.not_le.2 ha, dNats, dRows, dRow, dInts]; fail "STUCK")
  refine AW.st (by simp [h1, h2, Nat.not_le.2 ha, dNats, dRows, dRow, dInts]; rfl) ?_
  clear hK' K'
  refine AW_cond false rfl (fun h => by cases h) (fun _ => ?_)
  refine AW_skip (hK2 _ ?_)
  refine AW_rg (tyOf_good _) (fun _ => trivial) [1, 2, 3, 9] [3] fun K' hK' => ?_
  repeat (refine sxf_next fun K2 hK2 => ?_; simp; (repeat (refine ⟨by omega, ?_⟩)); refine hK2 _ ?_; clear hK2 K2)
  first | refine sxf_nil (hK' _ ?_) | (refine sxf_next fun K2 hK2 => ?_; clear hK2 hK'; simp; fail "STUCK")
  refine AW.st (by simp; rfl) ?_
  clear hK' K'
  refine AW_then fun K3 hK3 => ?_
  refine AW_rg (tyOf_good _) (fun _ => trivial) [1, 3, 9, 32, 33, 34] [3] fun K' hK' => ?_
  repeat (refine sxf_next fun K2 hK2 => ?_; simp [dNats, dRow, dInts, hnl]; (repeat (refine ⟨by omega, ?_⟩)); refine hK2 _ ?_; clear hK2 K2)
  first | refine sxf_nil (hK' _ ?_) | (refine sxf_next fun K2 hK2 => ?_; clear hK2 hK'; simp [dNats, dRow, dInts, hnl]; fail "STUCK")
  refine AW.st (by simp [dNats, dRow, dInts, hnl]; rfl) ?_
  clear hK' K'
  refine AW_for (S := Nat) (fun i => i ≤ l.length) (fun i => ⟨lst [(1, int (goF t a (l.take i))), (3, .ref 3 0 0), (9, .own 90 0 i), (32, .d (dNats l)), (33, int l.length), (34, int i)],
    hlst [(3, boxT t), (90, rowI (tellF t a (l.take i)))]⟩) (fun i => l.length - i) 0 ?_ (by simp) ?_
  · refine (Imp.adopt 9 90 3 1 rfl rfl).trans ?_
    refine Imp.to' (fun _ => trivial) (by simp [boxT, rowI, dRows, dRow, dInts, dNats, tellF, goF, Function.comp_def]) (by simp [boxT, rowI, dRows, dRow, dInts, dNats, tellF, goF, Function.comp_def])
  · intro i hi
    have htl : (tellF t a (l.take i)).length = i := by rw [tellF_len]; simp; omega
    refine AW_rg (tyOf_good _) (fun _ => trivial) [1, 3, 9, 32, 33, 34, 35] [3, 90] fun K' hK' => ?_
    repeat (refine sxf_next fun K2 hK2 => ?_; simp [boxT, rowI]; (repeat (refine ⟨by omega, ?_⟩)); refine hK2 _ ?_; clear hK2 K2)
    first | refine sxf_nil (hK' _ ?_) | (refine sxf_next fun K2 hK2 => ?_; clear hK2 hK'; simp [boxT, rowI]; fail "STUCK")
    refine AW.st (by simp [boxT, rowI]; rfl) ?_
    clear hK' K'
    refine AW_then fun K4 hK4 => ?_
    refine AW_cond' (b := i < l.length) (by simp [D.le, D.le.go, takeMap]) (fun hc => ?_) (fun hc => ?_)
    · have hil : i < l.length := hc
      have hni : i < (natsI l).length := by omega
      have hng := natsI_get l i hni
      refine AW_skip (hK4 _ ?_)
      refine AW_then fun K5 hK5 => ?_
      refine AW_block ?_
      have hci : l[i] < wd t := hl _ (by simp)
      have hs : goF t a (l.take i) < t.next.length := goF_lt ok _ _ ha fun c hc => hl c (List.mem_of_mem_take hc)
      have htk : l.take (i + 1) = l.take i ++ [l[i]] := List.take_succ_eq_append_getElem hil
      have e1 : tellF t a (l.take (i + 1)) = tellF t a (l.take i) ++ [te t (goF t a (l.take i)) l[i]] := by rw [htk, tellF_snoc]
      have e2 : goF t a (l.take (i + 1)) = nx t (goF t a (l.take i)) l[i] := by rw [htk, goF_snoc]
      generalize goF t a (l.take i) = s at hs e1 e2
      generalize tellF t a (l.take i) = out at htl e1
      have hn1 := ok.nextLen s hs
      have hn2 := ok.tellsLen s hs
      have hth := ok.there s hs
      have hst : s < t.tells.length := by have := ok.tells; unfold Tab.n at this; omega
      rw [List.getD_eq_getElem?_getD, List.getElem?_eq_getElem hs, Option.getD_some] at hn1 hth
      rw [List.getD_eq_getElem?_getD, List.getElem?_eq_getElem hst, Option.getD_some] at hn2
      have hc1 : l[i] < t.next[s].length := by rw [hn1]; exact hci
      have hc2 : l[i] < t.tells[s].length := by rw [hn2]; exact hci
      have e3 : te t s l[i] = t.tells[s][l[i]] := by simp [te, List.getD_eq_getElem?_getD, hst, hc2]
      have e4 : nx t s l[i] = t.next[s][l[i]].toNat := by simp [nx, List.getD_eq_getElem?_getD, hs, hc1]
      have e5 := (hth t.next[s][l[i]] (by simp)).1
      have e6 : ((t.next[s][l[i]].toNat : Nat) : Int) = t.next[s][l[i]] := by omega
      refine AW_rg (tyOf_good _) (fun _ => trivial) [1, 3, 9, 11, 32, 33, 34] [3, 90] fun K' hK' => ?_
      repeat (refine sxf_next fun K2 hK2 => ?_; simp [dNats, dRow, dInts, hni, hng]; (repeat (refine ⟨by omega, ?_⟩)); refine hK2 _ ?_; clear hK2 K2)
      first | refine sxf_nil (hK' _ ?_) | (refine sxf_next fun K2 hK2 => ?_; clear hK2 hK'; simp [dNats, dRow, dInts, hni, hng]; fail "STUCK")
      refine AW.st (by simp [dNats, dRow, dInts, hni, hng]; rfl) ?_
      clear hK' K'
      refine AW_rg (tyOf_good _) (fun _ => trivial) [1, 3, 9, 11, 32, 33, 34] [3, 90] fun K' hK' => ?_
      repeat (refine sxf_next fun K2 hK2 => ?_; simp [dRows, dRow, dInts, hst, hc2, takeMap]; (repeat (refine ⟨by omega, ?_⟩)); refine hK2 _ ?_; clear hK2 K2)
      first | refine sxf_nil (hK' _ ?_) | (refine sxf_next fun K2 hK2 => ?_; clear hK2 hK'; simp [dRows, dRow, dInts, hst, hc2, takeMap]; fail "STUCK")
      refine AW.st (by simp [dRows, dRow, dInts, hst, hc2, takeMap]; rfl) ?_
      clear hK' K'
      refine AW_re (tyOf_good _) (fun _ => trivial) fun K' hK' => ?_
      repeat (refine sxf_next fun K2 hK2 => ?_; simp [dRows, dRow, dInts, hs, hc1, takeMap]; (repeat (refine ⟨by omega, ?_⟩)); refine hK2 _ ?_; clear hK2 K2)
      first | refine sxf_nil (hK' _ ?_) | (refine sxf_next fun K2 hK2 => ?_; clear hK2 hK'; simp [dRows, dRow, dInts, hs, hc1, takeMap]; fail "STUCK")
      clear hK' K'
      refine hK5 _ (AW.norm (fun _ => trivial) [1, 3, 9, 32, 33, 34] [3, 90] (AW.st (by simp [dRows, dRow, dInts, hs, hc1, takeMap]; rfl) ?_))
      refine AW_re (tyOf_good _) (fun _ => trivial) fun K' hK' => ?_
      repeat (refine sxf_next fun K2 hK2 => ?_; simp; (repeat (refine ⟨by omega, ?_⟩)); refine hK2 _ ?_; clear hK2 K2)
      first | refine sxf_nil (hK' _ ?_) | (refine sxf_next fun K2 hK2 => ?_; clear hK2 hK'; simp; fail "STUCK")
      clear hK' K'
      try simp only [thn, inb]
      refine Again.mk (i + 1) (by omega) (by omega) ?_
      have hot : ∀ f : Int → List D, List.take i (List.map f out) = List.map f out := fun f => List.take_of_length_le (by simp [htl])
      refine Imp.to' (fun _ => trivial) (by simp [boxT, rowI, dRows, dRow, dInts, dNats, dNum, e1, e2, e3, e4, e6, hot, htl]) (by simp [boxT, rowI, dRows, dRow, dInts, dNats, dNum, e1, e2, e3, e4, e6, hot, htl])
    · have hil : i = l.length := by omega
      subst hil
      have htake : l.take l.length = l := List.take_length
      rw [htake] at htl
      refine AW_exit (hK3 _ ?_)
      refine AW_rg (tyOf_good _) (fun _ => trivial) [6, 7] [90] fun K' hK' => ?_
      repeat (refine sxf_next fun K2 hK2 => ?_; simp [rowI, htake]; (repeat (refine ⟨by omega, ?_⟩)); refine hK2 _ ?_; clear hK2 K2)
      first | refine sxf_nil (hK' _ ?_) | (refine sxf_next fun K2 hK2 => ?_; clear hK2 hK'; simp [rowI, htake]; fail "STUCK")
      refine AW.st (by simp [rowI, htake]; rfl) ?_
      clear hK' K'
      refine AW_ret ?_
      simp [D.le, D.le.go, takeMap, dRow, dInts, dNum, htl, htake, D.le_refl]
      exact List.take_of_length_le (by simp [htl])
#print axioms tell1_spec
#print axioms btell_range
#print axioms btell_good
end Go.Proofs.YtoikggboakojlaaDoor

/-
  The least inputs by which two states are told apart, and what is told of inputs.
-/
namespace Go.Proofs.YtoikggboakojlaaDoor
open Go.Av
set_option linter.unusedSimpArgs false
set_option linter.unusedVariables false

def nilD : D := .sl (some false) []
def badI (t : Tab) (x : Int) : Bool := decide (x < 0) || decide ((wd t : Int) ≤ x)

theorem nats_of {t : Tab} {l : List Int} (h : l.any (badI t) = false) : l = natsI (l.map Int.toNat) ∧ ∀ c ∈ l.map Int.toNat, c < wd t := by
  rw [List.any_eq_false] at h
  have h' : ∀ x ∈ l, 0 ≤ x ∧ x < (wd t : Int) := fun x hx => by
    have := h x hx
    simp [badI] at this
    exact this
  constructor
  · unfold natsI
    rw [List.map_map]
    conv => lhs; rw [← List.map_id l]
    refine List.map_congr_left fun x hx => ?_
    have := h' x hx
    simp; omega
  · intro c hc
    obtain ⟨x, hx, rfl⟩ := List.mem_map.1 hc
    have := h' x hx
    omega

theorem btell_at (G : Glob) (t : Tab) (ok : Ok t) (s : Nat) (hs : s < t.next.length) (l : List Int) (hl : l.length < 2^40) :
    ∃ T E, PureC Tryd.prog G 26 [dTab t, dNum s, dRow l] (.tup [T, dErr (errOf E)]) ∧
      ((l.any (badI t) = true ∧ T = nilD ∧ E = 2) ∨ (l.any (badI t) = false ∧ T = dRow (tellF t s (l.map Int.toNat)) ∧ E = 0)) := by
  cases h : l.any (badI t) with
  | true => exact ⟨_, 2, btell_range G t ok s l hl (.inr (.inr h)), .inl ⟨rfl, rfl, rfl⟩⟩
  | false =>
    obtain ⟨h1, h2⟩ := nats_of h
    refine ⟨_, 0, ?_, .inr ⟨rfl, rfl, rfl⟩⟩
    have := btell_good G t ok s hs (l.map Int.toNat) (by simpa using hl) h2
    unfold dNats at this
    rw [← h1] at this
    exact this

set_option maxHeartbeats 8000000 in
theorem parts_good (G : Glob) (hG : HasErr G) (hF : HasFine G) (t : Tab) (a b : Int) (l : List Int) (ok : Ok t) (hfew : (t.next.length : Int) ≤ 30) (hwfew : (wd t : Int) ≤ 8) (hl60 : ¬ (60 : Int) < l.length)
    (T : D) (E : Int) (hTell : PureC Tryd.prog G 26 [dTab t, dNum a, dRow l] (.tup [T, dErr (errOf E)]))
    (hcase : (∃ s : Nat, a = s ∧ s < t.next.length ∧ ((l.any (badI t) = true ∧ T = nilD ∧ E = 2) ∨ (l.any (badI t) = false ∧ T = dRow (tellF t s (l.map Int.toNat)) ∧ E = 0))) ∨ ((a < 0 ∨ (t.next.length : Int) ≤ a) ∧ T = nilD ∧ E = 2)) :
    PureC Tryd.prog G 5 [dTab t, dNum a, dNum b, dRow l] (.v (.bool true)) := by
  have htab := tables_good G hF t ok
  rw [decide_eq_true hfew, decide_eq_true hwfew] at htab
  change PureC _ _ _ _ (.tup [.agg [dRows t.next, dRows t.tells], .agg [dNum 0, dNum (-1)], .v (.bool true)]) at htab
  obtain ⟨k, hk, hs⟩ := stops_small ok
  have hp : 0 < t.next.length := ok.pos
  have hw0 := wd_at ok hp
  have hnil : PureC Tryd.prog G 22 [nilD, nilD] (.v (.bool true)) := lsameInts_spec G (some false) (some false) [] [] (by decide)
  have hllen : l.length ≤ 60 := by omega
  refine PureC.of_body (tyOf_good _) Tryd.func5 rfl rfl (rs := [.tmp 8]) Tryd.results5 (by simp [Tryd.ntmps5]) fun X => ?_
  simp only [Tryd.ntmps5, List.map]
  refine AW_rg (tyOf_good _) (fun _ => trivial) [1, 2, 3, 4] [4] fun K' hK' => ?_
  repeat (refine sxf_next fun K2 hK2 => ?_; simp [dTab, dNum]; (repeat (refine ⟨by omega, ?_⟩)); refine hK2 _ ?_; clear hK2 K2)
  first | refine sxf_nil (hK' _ ?_) | (refine sxf_next fun K2 hK2 => ?_; clear hK2 hK'; simp [dTab, dNum]; fail "STUCK")
  refine AW.st (by simp [dTab, dNum]; rfl) ?_
  clear hK' K'
  refine AW_rg (tyOf_good _) (fun _ => trivial) [1, 2, 3, 4, 9, 10, 11] [4, 9, 10] fun K' hK' => ?_
  repeat (refine sxf_next fun K2 hK2 => ?_; simp [dTab, dRows, dNum]; (repeat (refine ⟨by omega, ?_⟩)); refine hK2 _ ?_; clear hK2 K2)
  refine sxf_next fun K2 hK2 => ?_
  simp [dTab, dRows, dNum]
  refine callK.data (htab) (by simp; rfl) (by first | exact D.leGo_refl _ | simp [takeMap, List.map_map, Function.comp_def, D.le, D.le.go, D.le_refl, D.leGo_refl, dTab, dRows, dNum]) ?_
  refine hK2 _ ?_
  clear hK2 K2
  simp only [putd, upd_lst]
  repeat (refine sxf_next fun K2 hK2 => ?_; simp [dTab, dRows, dNum]; (repeat (refine ⟨by omega, ?_⟩)); refine hK2 _ ?_; clear hK2 K2)
  first | refine sxf_nil (hK' _ ?_) | (refine sxf_next fun K2 hK2 => ?_; clear hK2 hK'; simp [dTab, dRows, dNum]; fail "STUCK")
  refine AW.st (by simp [dTab, dRows, dNum]; rfl) ?_
  clear hK' K'
  refine AW_then fun K1 hK1 => ?_
  refine AW_rg (tyOf_good _) (fun _ => trivial) [1, 2, 3, 4, 9, 10, 33] [4, 9, 10] fun K' hK' => ?_
  repeat (refine sxf_next fun K2 hK2 => ?_; simp [dRow, dInts, hl60]; (repeat (refine ⟨by omega, ?_⟩)); refine hK2 _ ?_; clear hK2 K2)
  first | refine sxf_nil (hK' _ ?_) | (refine sxf_next fun K2 hK2 => ?_; clear hK2 hK'; simp [dRow, dInts, hl60]; fail "STUCK")
  refine AW.st (by simp [dRow, dInts, hl60]; rfl) ?_
  clear hK' K'
  refine AW_cond false rfl (fun h => by cases h) (fun _ => ?_)
  refine AW_skip (hK1 _ ?_)
  have hpart : ∃ P c, PureC Tryd.prog G 25 [dTab t, dNum a, dNum b] (.tup [P, dErr (errOf c)]) ∧ (((a < 0 ∨ (t.next.length : Int) ≤ a ∨ b < 0 ∨ (t.next.length : Int) ≤ b) ∧ P = nilD ∧ c = 2)
      ∨ (∃ x y : Nat, a = x ∧ b = y ∧ x < t.next.length ∧ y < t.next.length ∧ ((Al t k x y ∧ P = nilD ∧ c = 8) ∨ (∃ d, d + 1 ≤ k ∧ Al t d x y ∧ ¬ Al t (d + 1) x y ∧ P = dRow (partF t (d + 1) x y) ∧ c = 0 ∧ (partF t (d + 1) x y).length = d + 1)))) := by
    by_cases hr : a < 0 ∨ (t.next.length : Int) ≤ a ∨ b < 0 ∨ (t.next.length : Int) ≤ b
    · exact ⟨_, 2, part_range G t a b ok hr, .inl ⟨hr, rfl, rfl⟩⟩
    · obtain ⟨x, rfl⟩ := Int.eq_ofNat_of_zero_le (show 0 ≤ a by omega)
      obtain ⟨y, rfl⟩ := Int.eq_ofNat_of_zero_le (show 0 ≤ b by omega)
      have hx : x < t.next.length := by omega
      have hy : y < t.next.length := by omega
      by_cases hal : Al t k x y
      · exact ⟨_, 8, part_none G t ok k hk hs x y hx hy (idx_same ok hx hy hal), .inr ⟨x, y, rfl, rfl, hx, hy, .inl ⟨hal, rfl, rfl⟩⟩⟩
      · obtain ⟨d, hdk, hidx, h1, h2⟩ := idx_apart ok hx hy hal
        obtain ⟨L, e1, e2, _⟩ := part_tells ok d x y hx hy h1 h2
        exact ⟨_, 0, part_good G t ok k hk hs x y hx hy (d + 1) hdk hidx, .inr ⟨x, y, rfl, rfl, hx, hy, .inr ⟨d, hdk, h1, h2, rfl, rfl, by rw [e1]; simpa using e2⟩⟩⟩
  obtain ⟨P, c, hPart, hpc⟩ := hpart
  refine AW_rg (tyOf_good _) (fun _ => trivial) [1, 2, 3, 4, 9, 10, 12, 13] [4, 9, 10] fun K' hK' => ?_
  repeat (refine sxf_next fun K2 hK2 => ?_; simp [boxT, dNum, dTab]; (repeat (refine ⟨by omega, ?_⟩)); refine hK2 _ ?_; clear hK2 K2)
  refine sxf_next fun K2 hK2 => ?_
  simp [boxT, dNum, dTab]
  refine callK.data (hPart) (by simp; rfl) (by first | exact D.leGo_refl _ | simp [takeMap, List.map_map, Function.comp_def, D.le, D.le.go, D.le_refl, D.leGo_refl, boxT, dNum, dTab]) ?_
  refine hK2 _ ?_
  clear hK2 K2
  simp only [putd, upd_lst]
  repeat (refine sxf_next fun K2 hK2 => ?_; simp [boxT, dNum, dTab]; (repeat (refine ⟨by omega, ?_⟩)); refine hK2 _ ?_; clear hK2 K2)
  first | refine sxf_nil (hK' _ ?_) | (refine sxf_next fun K2 hK2 => ?_; clear hK2 hK'; simp [boxT, dNum, dTab]; fail "STUCK")
  refine AW.st (by simp [boxT, dNum, dTab]; rfl) ?_
  clear hK' K'
  refine AW_rg (tyOf_good _) (fun _ => trivial) [1, 2, 3, 4, 9, 10, 12, 13, 14, 15] [4, 9, 10] fun K' hK' => ?_
  repeat (refine sxf_next fun K2 hK2 => ?_; simp [boxT, dNum, dTab]; (repeat (refine ⟨by omega, ?_⟩)); refine hK2 _ ?_; clear hK2 K2)
  refine sxf_next fun K2 hK2 => ?_
  simp [boxT, dNum, dTab]
  refine callK.data (hTell) (by simp; rfl) (by first | exact D.leGo_refl _ | simp [takeMap, List.map_map, Function.comp_def, D.le, D.le.go, D.le_refl, D.leGo_refl, boxT, dNum, dTab]) ?_
  refine hK2 _ ?_
  clear hK2 K2
  simp only [putd, upd_lst]
  repeat (refine sxf_next fun K2 hK2 => ?_; simp [boxT, dNum, dTab]; (repeat (refine ⟨by omega, ?_⟩)); refine hK2 _ ?_; clear hK2 K2)
  first | refine sxf_nil (hK' _ ?_) | (refine sxf_next fun K2 hK2 => ?_; clear hK2 hK'; simp [boxT, dNum, dTab]; fail "STUCK")
  refine AW.st (by simp [boxT, dNum, dTab]; rfl) ?_
  clear hK' K'
  refine AW_then fun K2 hK2 => ?_
  refine AW_rg (tyOf_good _) (fun _ => trivial) [1, 2, 3, 4, 9, 10, 12, 13, 14, 15, 50] [4, 9, 10] fun K' hK' => ?_
  repeat (refine sxf_next fun K2 hK2 => ?_; simp [boxT, dNum]; (repeat (refine ⟨by omega, ?_⟩)); refine hK2 _ ?_; clear hK2 K2)
  first | refine sxf_nil (hK' _ ?_) | (refine sxf_next fun K2 hK2 => ?_; clear hK2 hK'; simp [boxT, dNum]; fail "STUCK")
  refine AW.st (by simp [boxT, dNum]; rfl) ?_
  clear hK' K'
  refine AW_cond false rfl (fun h => by cases h) (fun _ => ?_)
  refine AW_skip (hK2 _ ?_)
  refine AW_rg (tyOf_good _) (fun _ => trivial) [1, 2, 3, 4, 9, 12, 13, 14, 15, 16] [4, 9] fun K' hK' => ?_
  repeat (refine sxf_next fun K2 hK2 => ?_; simp [boxT, dNum, dRows]; (repeat (refine ⟨by omega, ?_⟩)); refine hK2 _ ?_; clear hK2 K2)
  first | refine sxf_nil (hK' _ ?_) | (refine sxf_next fun K2 hK2 => ?_; clear hK2 hK'; simp [boxT, dNum, dRows]; fail "STUCK")
  refine AW.st (by simp [boxT, dNum, dRows]; rfl) ?_
  clear hK' K'
  refine AW_rg (tyOf_good _) (fun _ => trivial) [1, 2, 3, 4, 9, 12, 13, 14, 15, 16, 17] [4, 9] fun K' hK' => ?_
  repeat (refine sxf_next fun K2 hK2 => ?_; simp [boxT, dNum]; (repeat (refine ⟨by omega, ?_⟩)); refine hK2 _ ?_; clear hK2 K2)
  first | refine sxf_nil (hK' _ ?_) | (refine sxf_next fun K2 hK2 => ?_; clear hK2 hK'; simp [boxT, dNum]; fail "STUCK")
  refine AW.st (by simp [boxT, dNum]; rfl) ?_
  clear hK' K'
  refine AW_rg (tyOf_good _) (fun _ => trivial) [1, 2, 3, 4, 9, 12, 13, 14, 15, 16, 17, 18] [4, 9] fun K' hK' => ?_
  repeat (refine sxf_next fun K2 hK2 => ?_; simp [boxT, dNum]; (repeat (refine ⟨by omega, ?_⟩)); refine hK2 _ ?_; clear hK2 K2)
  first | refine sxf_nil (hK' _ ?_) | (refine sxf_next fun K2 hK2 => ?_; clear hK2 hK'; simp [boxT, dNum]; fail "STUCK")
  refine AW.st (by simp [boxT, dNum]; rfl) ?_
  clear hK' K'
  refine AW_then fun K3 hK3 => ?_
  refine (fun hcont => ?_) (fun (W : D) (hsame : PureC Tryd.prog G 22 [P, W] (.v (.bool true))) (σ : St) himp => hK3 σ (AW.imp (τ := ⟨lst [(1, int a), (3, .d (dRow l)), (4, .ref 4 0 0), (12, .d P), (13, .d (dErr (errOf c))), (14, .d T), (15, .d (dErr (errOf E))), (16, int t.next.length), (17, int c), (18, .d W)], hlst [(4, boxT t)]⟩) himp ?_))
  · rcases hpc with ⟨hr, rfl, rfl⟩ | ⟨x, y, rfl, rfl, hx, hy, hpc⟩
    · by_cases h1 : a < 0
      · refine AW_rg (tyOf_good _) (fun _ => trivial) [1, 2, 3, 4, 9, 12, 13, 14, 15, 16, 17, 18, 85] [4, 9] fun K' hK' => ?_
        repeat (refine sxf_next fun K2 hK2 => ?_; simp [boxT, dNum, h1]; (repeat (refine ⟨by omega, ?_⟩)); refine hK2 _ ?_; clear hK2 K2)
        first | refine sxf_nil (hK' _ ?_) | (refine sxf_next fun K2 hK2 => ?_; clear hK2 hK'; simp [boxT, dNum, h1]; fail "STUCK")
        refine AW.st (by simp [boxT, dNum, h1]; rfl) ?_
        clear hK' K'
        refine AW_cond true rfl (fun _ => ?_) (fun h => by cases h)
        refine AW_re (tyOf_good _) (fun _ => trivial) fun K' hK' => ?_
        repeat (refine sxf_next fun K2 hK2 => ?_; simp [boxT, dNum]; (repeat (refine ⟨by omega, ?_⟩)); refine hK2 _ ?_; clear hK2 K2)
        first | refine sxf_nil (hK' _ ?_) | (refine sxf_next fun K2 hK2 => ?_; clear hK2 hK'; simp [boxT, dNum]; fail "STUCK")
        clear hK' K'
        try simp only [thn, inb]
        refine hcont nilD hnil _ ?_
        refine Imp.to' (fun _ => trivial) (by simp [boxT, dNum, nilD, dRow, dInts, dRows]) (by simp [boxT, dNum, nilD, dRow, dInts, dRows])
      by_cases h2 : (t.next.length : Int) ≤ a
      · refine AW_rg (tyOf_good _) (fun _ => trivial) [1, 2, 3, 4, 9, 12, 13, 14, 15, 16, 17, 18, 85] [4, 9] fun K' hK' => ?_
        repeat (refine sxf_next fun K2 hK2 => ?_; simp [boxT, dNum, h1, h2]; (repeat (refine ⟨by omega, ?_⟩)); refine hK2 _ ?_; clear hK2 K2)
        first | refine sxf_nil (hK' _ ?_) | (refine sxf_next fun K2 hK2 => ?_; clear hK2 hK'; simp [boxT, dNum, h1, h2]; fail "STUCK")
        refine AW.st (by simp [boxT, dNum, h1, h2]; rfl) ?_
        clear hK' K'
        refine AW_cond true rfl (fun _ => ?_) (fun h => by cases h)
        refine AW_re (tyOf_good _) (fun _ => trivial) fun K' hK' => ?_
        repeat (refine sxf_next fun K2 hK2 => ?_; simp [boxT, dNum]; (repeat (refine ⟨by omega, ?_⟩)); refine hK2 _ ?_; clear hK2 K2)
        first | refine sxf_nil (hK' _ ?_) | (refine sxf_next fun K2 hK2 => ?_; clear hK2 hK'; simp [boxT, dNum]; fail "STUCK")
        clear hK' K'
        try simp only [thn, inb]
        refine hcont nilD hnil _ ?_
        refine Imp.to' (fun _ => trivial) (by simp [boxT, dNum, nilD, dRow, dInts, dRows]) (by simp [boxT, dNum, nilD, dRow, dInts, dRows])
      by_cases h3 : b < 0
      · refine AW_rg (tyOf_good _) (fun _ => trivial) [1, 2, 3, 4, 9, 12, 13, 14, 15, 16, 17, 18, 85] [4, 9] fun K' hK' => ?_
        repeat (refine sxf_next fun K2 hK2 => ?_; simp [boxT, dNum, h1, h2, h3]; (repeat (refine ⟨by omega, ?_⟩)); refine hK2 _ ?_; clear hK2 K2)
        first | refine sxf_nil (hK' _ ?_) | (refine sxf_next fun K2 hK2 => ?_; clear hK2 hK'; simp [boxT, dNum, h1, h2, h3]; fail "STUCK")
        refine AW.st (by simp [boxT, dNum, h1, h2, h3]; rfl) ?_
        clear hK' K'
        refine AW_cond true rfl (fun _ => ?_) (fun h => by cases h)
        refine AW_re (tyOf_good _) (fun _ => trivial) fun K' hK' => ?_
        repeat (refine sxf_next fun K2 hK2 => ?_; simp [boxT, dNum]; (repeat (refine ⟨by omega, ?_⟩)); refine hK2 _ ?_; clear hK2 K2)
        first | refine sxf_nil (hK' _ ?_) | (refine sxf_next fun K2 hK2 => ?_; clear hK2 hK'; simp [boxT, dNum]; fail "STUCK")
        clear hK' K'
        try simp only [thn, inb]
        refine hcont nilD hnil _ ?_
        refine Imp.to' (fun _ => trivial) (by simp [boxT, dNum, nilD, dRow, dInts, dRows]) (by simp [boxT, dNum, nilD, dRow, dInts, dRows])
      have h4 : (t.next.length : Int) ≤ b := by omega
      refine AW_rg (tyOf_good _) (fun _ => trivial) [1, 2, 3, 4, 9, 12, 13, 14, 15, 16, 17, 18, 85] [4, 9] fun K' hK' => ?_
      repeat (refine sxf_next fun K2 hK2 => ?_; simp [boxT, dNum, h1, h2, h3, h4]; (repeat (refine ⟨by omega, ?_⟩)); refine hK2 _ ?_; clear hK2 K2)
      first | refine sxf_nil (hK' _ ?_) | (refine sxf_next fun K2 hK2 => ?_; clear hK2 hK'; simp [boxT, dNum, h1, h2, h3, h4]; fail "STUCK")
      refine AW.st (by simp [boxT, dNum, h1, h2, h3, h4]; rfl) ?_
      clear hK' K'
      refine AW_cond true rfl (fun _ => ?_) (fun h => by cases h)
      refine AW_re (tyOf_good _) (fun _ => trivial) fun K' hK' => ?_
      repeat (refine sxf_next fun K2 hK2 => ?_; simp [boxT, dNum]; (repeat (refine ⟨by omega, ?_⟩)); refine hK2 _ ?_; clear hK2 K2)
      first | refine sxf_nil (hK' _ ?_) | (refine sxf_next fun K2 hK2 => ?_; clear hK2 hK'; simp [boxT, dNum]; fail "STUCK")
      clear hK' K'
      try simp only [thn, inb]
      refine hcont nilD hnil _ ?_
      refine Imp.to' (fun _ => trivial) (by simp [boxT, dNum, nilD, dRow, dInts, dRows]) (by simp [boxT, dNum, nilD, dRow, dInts, dRows])
    · have h1 : ¬ (x : Int) < 0 := by omega
      have h2 : ¬ t.next.length ≤ x := by omega
      have h3 : ¬ (y : Int) < 0 := by omega
      have h4 : ¬ t.next.length ≤ y := by omega
      refine AW_rg (tyOf_good _) (fun _ => trivial) [1, 2, 3, 4, 9, 12, 13, 14, 15, 16, 17, 18, 85] [4, 9] fun K' hK' => ?_
      repeat (refine sxf_next fun K2 hK2 => ?_; simp [boxT, dNum, h1, h2, h3, h4, hx, hy]; (repeat (refine ⟨by omega, ?_⟩)); refine hK2 _ ?_; clear hK2 K2)
      first | refine sxf_nil (hK' _ ?_) | (refine sxf_next fun K2 hK2 => ?_; clear hK2 hK'; simp [boxT, dNum, h1, h2, h3, h4, hx, hy]; fail "STUCK")
      refine AW.st (by simp [boxT, dNum, h1, h2, h3, h4, hx, hy]; rfl) ?_
      clear hK' K'
      refine AW_cond false rfl (fun h => by cases h) (fun _ => ?_)
      rcases hpc with ⟨hal, rfl, rfl⟩ | ⟨d, hdk, hd1, hd2, rfl, rfl, hplen⟩
      · have hrp := rpart_none G t ok k hk hs x y hx hy hal
        refine AW_rg (tyOf_good _) (fun _ => trivial) [1, 3, 4, 11, 12, 13, 14, 15, 16, 17, 18] [4] fun K' hK' => ?_
        repeat (refine sxf_next fun K2 hK2 => ?_; simp [boxT, dNum, dTab]; (repeat (refine ⟨by omega, ?_⟩)); refine hK2 _ ?_; clear hK2 K2)
        refine sxf_next fun K2 hK2 => ?_
        simp [boxT, dNum, dTab]
        refine callK.data (hrp) (by simp; rfl) (by first | exact D.leGo_refl _ | simp [takeMap, List.map_map, Function.comp_def, D.le, D.le.go, D.le_refl, D.leGo_refl, boxT, dNum, dTab]) ?_
        refine hK2 _ ?_
        clear hK2 K2
        simp only [putd, upd_lst]
        repeat (refine sxf_next fun K2 hK2 => ?_; simp [boxT, dNum, dTab]; (repeat (refine ⟨by omega, ?_⟩)); refine hK2 _ ?_; clear hK2 K2)
        first | refine sxf_nil (hK' _ ?_) | (refine sxf_next fun K2 hK2 => ?_; clear hK2 hK'; simp [boxT, dNum, dTab]; fail "STUCK")
        refine AW.st (by simp [boxT, dNum, dTab]; rfl) ?_
        clear hK' K'
        refine AW_rg (tyOf_good _) (fun _ => trivial) [1, 3, 4, 12, 13, 14, 15, 16, 17, 18, 94] [4] fun K' hK' => ?_
        repeat (refine sxf_next fun K2 hK2 => ?_; simp [boxT, dNum]; (repeat (refine ⟨by omega, ?_⟩)); refine hK2 _ ?_; clear hK2 K2)
        first | refine sxf_nil (hK' _ ?_) | (refine sxf_next fun K2 hK2 => ?_; clear hK2 hK'; simp [boxT, dNum]; fail "STUCK")
        refine AW.st (by simp [boxT, dNum]; rfl) ?_
        clear hK' K'
        refine AW_cond true rfl (fun _ => ?_) (fun h => by cases h)
        refine AW_re (tyOf_good _) (fun _ => trivial) fun K' hK' => ?_
        repeat (refine sxf_next fun K2 hK2 => ?_; simp [boxT, dNum]; (repeat (refine ⟨by omega, ?_⟩)); refine hK2 _ ?_; clear hK2 K2)
        first | refine sxf_nil (hK' _ ?_) | (refine sxf_next fun K2 hK2 => ?_; clear hK2 hK'; simp [boxT, dNum]; fail "STUCK")
        clear hK' K'
        try simp only [thn, inb]
        refine hcont nilD hnil _ ?_
        refine Imp.to' (fun _ => trivial) (by simp [boxT, dNum, nilD, dRow, dInts, dRows]) (by simp [boxT, dNum, nilD, dRow, dInts, dRows])
      · have hrp := rpart_good G t ok k hk hs x y d hx hy hdk hd1 hd2
        have hsame := lsameInts_spec G none none (partF t (d + 1) x y) (partF t (d + 1) x y) (by omega)
        rw [show (partF t (d + 1) x y == partF t (d + 1) x y) = true by simp] at hsame
        generalize partF t (d + 1) x y = R at hrp hsame hcont hPart
        refine AW_rg (tyOf_good _) (fun _ => trivial) [1, 3, 4, 11, 12, 13, 14, 15, 16, 17, 18] [4] fun K' hK' => ?_
        repeat (refine sxf_next fun K2 hK2 => ?_; simp [boxT, dNum, dTab]; (repeat (refine ⟨by omega, ?_⟩)); refine hK2 _ ?_; clear hK2 K2)
        refine sxf_next fun K2 hK2 => ?_
        simp [boxT, dNum, dTab]
        refine callK.data (hrp) (by simp; rfl) (by first | exact D.leGo_refl _ | simp [takeMap, List.map_map, Function.comp_def, D.le, D.le.go, D.le_refl, D.leGo_refl, boxT, dNum, dTab]) ?_
        refine hK2 _ ?_
        clear hK2 K2
        simp only [putd, upd_lst]
        repeat (refine sxf_next fun K2 hK2 => ?_; simp [boxT, dNum, dTab]; (repeat (refine ⟨by omega, ?_⟩)); refine hK2 _ ?_; clear hK2 K2)
        first | refine sxf_nil (hK' _ ?_) | (refine sxf_next fun K2 hK2 => ?_; clear hK2 hK'; simp [boxT, dNum, dTab]; fail "STUCK")
        refine AW.st (by simp [boxT, dNum, dTab]; rfl) ?_
        clear hK' K'
        refine AW_rg (tyOf_good _) (fun _ => trivial) [1, 3, 4, 12, 13, 14, 15, 16, 17, 18, 94] [4] fun K' hK' => ?_
        repeat (refine sxf_next fun K2 hK2 => ?_; simp [boxT, dNum]; (repeat (refine ⟨by omega, ?_⟩)); refine hK2 _ ?_; clear hK2 K2)
        first | refine sxf_nil (hK' _ ?_) | (refine sxf_next fun K2 hK2 => ?_; clear hK2 hK'; simp [boxT, dNum]; fail "STUCK")
        refine AW.st (by simp [boxT, dNum]; rfl) ?_
        clear hK' K'
        refine AW_cond false rfl (fun h => by cases h) (fun _ => ?_)
        refine AW_skip (hcont (dRow R) hsame _ ?_)
        refine Imp.to' (fun _ => trivial) (by simp [boxT, dNum, dRow, dInts, dRows]) (by simp [boxT, dNum, dRow, dInts, dRows])
  · clear hpc
    refine AW_then fun K4 hK4 => ?_
    refine AW_rg (tyOf_good _) (fun _ => trivial) [1, 3, 4, 14, 15, 16, 104] [4] fun K' hK' => ?_
    repeat (refine sxf_next fun K2 hK2 => ?_; simp [boxT, dNum]; (repeat (refine ⟨by omega, ?_⟩)); refine hK2 _ ?_; clear hK2 K2)
    refine sxf_next fun K2 hK2 => ?_
    simp [boxT, dNum]
    refine callK.data (bare_spec G hG c) (by simp; rfl) (by first | exact D.leGo_refl _ | simp [takeMap, List.map_map, Function.comp_def, D.le, D.le.go, D.le_refl, D.leGo_refl, boxT, dNum]) ?_
    refine hK2 _ ?_
    clear hK2 K2
    simp only [putd, upd_lst]
    repeat (refine sxf_next fun K2 hK2 => ?_; simp [boxT, dNum]; (repeat (refine ⟨by omega, ?_⟩)); refine hK2 _ ?_; clear hK2 K2)
    refine sxf_next fun K2 hK2 => ?_
    simp [boxT, dNum]
    refine callK.data (hsame) (by simp; rfl) (by first | exact D.leGo_refl _ | simp [takeMap, List.map_map, Function.comp_def, D.le, D.le.go, D.le_refl, D.leGo_refl, boxT, dNum]) ?_
    refine hK2 _ ?_
    clear hK2 K2
    simp only [putd, upd_lst]
    repeat (refine sxf_next fun K2 hK2 => ?_; simp [boxT, dNum]; (repeat (refine ⟨by omega, ?_⟩)); refine hK2 _ ?_; clear hK2 K2)
    first | refine sxf_nil (hK' _ ?_) | (refine sxf_next fun K2 hK2 => ?_; clear hK2 hK'; simp [boxT, dNum]; fail "STUCK")
    refine AW.st (by simp [boxT, dNum]; rfl) ?_
    clear hK' K'
    refine AW_cond false rfl (fun h => by cases h) (fun _ => ?_)
    refine AW_skip (hK4 _ ?_)
    refine AW_rg (tyOf_good _) (fun _ => trivial) [1, 3, 4, 14, 15, 16, 17, 18] [4] fun K' hK' => ?_
    repeat (refine sxf_next fun K2 hK2 => ?_; simp [boxT, dNum]; (repeat (refine ⟨by omega, ?_⟩)); refine hK2 _ ?_; clear hK2 K2)
    first | refine sxf_nil (hK' _ ?_) | (refine sxf_next fun K2 hK2 => ?_; clear hK2 hK'; simp [boxT, dNum]; fail "STUCK")
    refine AW.st (by simp [boxT, dNum]; rfl) ?_
    clear hK' K'
    refine AW_then fun K5 hK5 => ?_
    rcases hcase with ⟨s, rfl, hsn, hT⟩ | ⟨hr, rfl, rfl⟩
    · have h1 : ¬ (s : Int) < 0 := by omega
      have h2 : ¬ t.next.length ≤ s := by omega
      refine AW_rg (tyOf_good _) (fun _ => trivial) [1, 3, 4, 14, 15, 17, 18, 111] [4] fun K' hK' => ?_
      repeat (refine sxf_next fun K2 hK2 => ?_; simp [boxT, dNum, h1, h2, hsn]; (repeat (refine ⟨by omega, ?_⟩)); refine hK2 _ ?_; clear hK2 K2)
      first | refine sxf_nil (hK' _ ?_) | (refine sxf_next fun K2 hK2 => ?_; clear hK2 hK'; simp [boxT, dNum, h1, h2, hsn]; fail "STUCK")
      refine AW.st (by simp [boxT, dNum, h1, h2, hsn]; rfl) ?_
      clear hK' K'
      refine AW_cond false rfl (fun h => by cases h) (fun _ => ?_)
      refine AW_skip (hK5 _ ?_)
      refine AW_then fun K6 hK6 => ?_
      refine AW_rg (tyOf_good _) (fun _ => trivial) [3, 4, 14, 15, 17, 18, 19, 20] [4] fun K' hK' => ?_
      repeat (refine sxf_next fun K2 hK2 => ?_; simp [boxT, dNum]; (repeat (refine ⟨by omega, ?_⟩)); refine hK2 _ ?_; clear hK2 K2)
      first | refine sxf_nil (hK' _ ?_) | (refine sxf_next fun K2 hK2 => ?_; clear hK2 hK'; simp [boxT, dNum]; fail "STUCK")
      refine AW.st (by simp [boxT, dNum]; rfl) ?_
      clear hK' K'
      have hgo : ∀ i, (∀ j (hj : j < l.length), j < i → badI t l[j] = false) → ∀ c ∈ (l.map Int.toNat).take i, c < wd t := fun i h => by
        rw [← List.map_take]
        refine (nats_of (List.any_eq_false.2 fun x hx => ?_)).2
        obtain ⟨j, hj, rfl⟩ := List.mem_iff_getElem.1 hx
        rw [List.getElem_take]
        simp only [List.length_take] at hj
        rw [h j (by omega) (by omega)]
        simp
      refine AW_for (S := Nat) (fun i => i ≤ l.length ∧ ∀ j (hj : j < l.length), j < i → badI t l[j] = false) (fun i => ⟨lst [(3, .d (dRow l)), (4, .ref 4 0 0), (14, .d T), (15, .d (dErr (errOf E))), (17, int 0), (18, .own 190 0 i), (19, int i), (20, int (goF t s ((l.map Int.toNat).take i)))],
        hlst [(4, boxT t), (190, rowI (tellF t s ((l.map Int.toNat).take i)))]⟩) (fun i => l.length - i) 0 ?_ (by simp) ?_
      · refine (Imp.adopt 18 190 3 1 rfl rfl).trans ?_
        refine Imp.to' (fun _ => trivial) (by simp [boxT, dNum, rowI, dRow, dInts, dRows, goF, tellF]) (by simp [boxT, dNum, rowI, dRow, dInts, dRows, goF, tellF])
      · rintro i ⟨hi, hgood⟩
        have hgl := hgo i hgood
        have hcur := goF_lt ok ((l.map Int.toNat).take i) s hsn hgl
        have htl : (tellF t s ((l.map Int.toNat).take i)).length = i := by rw [tellF_len]; simp; omega
        refine AW_then fun K7 hK7 => ?_
        by_cases hil : i < l.length
        · refine AW_rg (tyOf_good _) (fun _ => trivial) [3, 4, 14, 15, 17, 18, 19, 20, 120] [4, 190] fun K' hK' => ?_
          repeat (refine sxf_next fun K2 hK2 => ?_; simp [boxT, dNum, rowI, dRow, dInts, hil]; (repeat (refine ⟨by omega, ?_⟩)); refine hK2 _ ?_; clear hK2 K2)
          first | refine sxf_nil (hK' _ ?_) | (refine sxf_next fun K2 hK2 => ?_; clear hK2 hK'; simp [boxT, dNum, rowI, dRow, dInts, hil]; fail "STUCK")
          refine AW.st (by simp [boxT, dNum, rowI, dRow, dInts, hil]; rfl) ?_
          clear hK' K'
          refine AW_cond true rfl (fun _ => ?_) (fun h => by cases h)
          refine AW_skip (hK7 _ ?_)
          refine AW_then fun K8 hK8 => ?_
          refine AW_block ?_
          refine AW_then fun K9 hK9 => ?_
          by_cases hb : badI t l[i] = true
          · have hany : l.any (badI t) = true := List.any_eq_true.2 ⟨_, List.getElem_mem hil, hb⟩
            rcases hT with ⟨_, rfl, rfl⟩ | ⟨h, _, _⟩
            · by_cases h5 : l[i] < 0
              · refine AW_rd (tyOf_good _) (fun _ => trivial) (by kernel_rfl) [3, 4, 14, 15, 17, 18, 19, 20, 139] [4, 190] (by kernel_rfl) fun K' hK' => ?_
                repeat (refine sxd_next fun K2 hK2 => ?_; simp [boxT, dNum, rowI, dRow, dInts, hil, h5]; (repeat (refine ⟨by omega, ?_⟩)); refine hK2 _ ?_; clear hK2 K2)
                first | refine sxd_nil (hK' _ ?_) | (refine sxd_next fun K2 hK2 => ?_; clear hK2 hK'; simp [boxT, dNum, rowI, dRow, dInts, hil, h5]; fail "STUCK")
                refine AW.st (by simp [boxT, dNum, rowI, dRow, dInts, hil, h5]; rfl) ?_
                clear hK' K'
                refine AW_cond true rfl (fun _ => ?_) (fun h => by cases h)
                refine AW_rg (tyOf_good _) (fun _ => trivial) [14, 15, 17, 18] [] fun K' hK' => ?_
                repeat (refine sxf_next fun K2 hK2 => ?_; simp [boxT, dNum]; (repeat (refine ⟨by omega, ?_⟩)); refine hK2 _ ?_; clear hK2 K2)
                first | refine sxf_nil (hK' _ ?_) | (refine sxf_next fun K2 hK2 => ?_; clear hK2 hK'; simp [boxT, dNum]; fail "STUCK")
                refine AW.st (by simp [boxT, dNum]; rfl) ?_
                clear hK' K'
                refine AW_exit (hK6 _ ?_)
                refine AW_rg (tyOf_good _) (fun _ => trivial) [8] [] fun K' hK' => ?_
                repeat (refine sxf_next fun K2 hK2 => ?_; simp [boxT, dNum, nilD]; (repeat (refine ⟨by omega, ?_⟩)); refine hK2 _ ?_; clear hK2 K2)
                refine sxf_next fun K2 hK2 => ?_
                simp [boxT, dNum, nilD]
                refine callK.data (bare_spec G hG 2) (by simp; rfl) (by first | exact D.leGo_refl _ | simp [takeMap, List.map_map, Function.comp_def, D.le, D.le.go, D.le_refl, D.leGo_refl, boxT, dNum, nilD]) ?_
                refine hK2 _ ?_
                clear hK2 K2
                simp only [putd, upd_lst]
                repeat (refine sxf_next fun K2 hK2 => ?_; simp [boxT, dNum, nilD]; (repeat (refine ⟨by omega, ?_⟩)); refine hK2 _ ?_; clear hK2 K2)
                refine sxf_next fun K2 hK2 => ?_
                simp [boxT, dNum, nilD]
                refine callK.data (hnil) (by simp; rfl) (by first | exact D.leGo_refl _ | simp [takeMap, List.map_map, Function.comp_def, D.le, D.le.go, D.le_refl, D.leGo_refl, boxT, dNum, nilD]) ?_
                refine hK2 _ ?_
                clear hK2 K2
                simp only [putd, upd_lst]
                repeat (refine sxf_next fun K2 hK2 => ?_; simp [boxT, dNum, nilD]; (repeat (refine ⟨by omega, ?_⟩)); refine hK2 _ ?_; clear hK2 K2)
                first | refine sxf_nil (hK' _ ?_) | (refine sxf_next fun K2 hK2 => ?_; clear hK2 hK'; simp [boxT, dNum, nilD]; fail "STUCK")
                refine AW.st (by simp [boxT, dNum, nilD]; rfl) ?_
                clear hK' K'
                refine AW_ret ?_
                simp [D.le, D.le.go, takeMap, boxT, dNum]
              · have h6 : (wd t : Int) ≤ l[i] := by simp [badI, h5] at hb; exact hb
                refine AW_rd (tyOf_good _) (fun _ => trivial) (by kernel_rfl) [3, 4, 14, 15, 17, 18, 19, 20, 139] [4, 190] (by kernel_rfl) fun K' hK' => ?_
                repeat (refine sxd_next fun K2 hK2 => ?_; simp [boxT, dNum, rowI, dRow, dInts, dRows, hil, h5, h6, hp, hw0]; (repeat (refine ⟨by omega, ?_⟩)); refine hK2 _ ?_; clear hK2 K2)
                first | refine sxd_nil (hK' _ ?_) | (refine sxd_next fun K2 hK2 => ?_; clear hK2 hK'; simp [boxT, dNum, rowI, dRow, dInts, dRows, hil, h5, h6, hp, hw0]; fail "STUCK")
                refine AW.st (by simp [boxT, dNum, rowI, dRow, dInts, dRows, hil, h5, h6, hp, hw0]; rfl) ?_
                clear hK' K'
                refine AW_cond true rfl (fun _ => ?_) (fun h => by cases h)
                refine AW_rg (tyOf_good _) (fun _ => trivial) [14, 15, 17, 18] [] fun K' hK' => ?_
                repeat (refine sxf_next fun K2 hK2 => ?_; simp [boxT, dNum]; (repeat (refine ⟨by omega, ?_⟩)); refine hK2 _ ?_; clear hK2 K2)
                first | refine sxf_nil (hK' _ ?_) | (refine sxf_next fun K2 hK2 => ?_; clear hK2 hK'; simp [boxT, dNum]; fail "STUCK")
                refine AW.st (by simp [boxT, dNum]; rfl) ?_
                clear hK' K'
                refine AW_exit (hK6 _ ?_)
                refine AW_rg (tyOf_good _) (fun _ => trivial) [8] [] fun K' hK' => ?_
                repeat (refine sxf_next fun K2 hK2 => ?_; simp [boxT, dNum, nilD]; (repeat (refine ⟨by omega, ?_⟩)); refine hK2 _ ?_; clear hK2 K2)
                refine sxf_next fun K2 hK2 => ?_
                simp [boxT, dNum, nilD]
                refine callK.data (bare_spec G hG 2) (by simp; rfl) (by first | exact D.leGo_refl _ | simp [takeMap, List.map_map, Function.comp_def, D.le, D.le.go, D.le_refl, D.leGo_refl, boxT, dNum, nilD]) ?_
                refine hK2 _ ?_
                clear hK2 K2
                simp only [putd, upd_lst]
                repeat (refine sxf_next fun K2 hK2 => ?_; simp [boxT, dNum, nilD]; (repeat (refine ⟨by omega, ?_⟩)); refine hK2 _ ?_; clear hK2 K2)
                refine sxf_next fun K2 hK2 => ?_
                simp [boxT, dNum, nilD]
                refine callK.data (hnil) (by simp; rfl) (by first | exact D.leGo_refl _ | simp [takeMap, List.map_map, Function.comp_def, D.le, D.le.go, D.le_refl, D.leGo_refl, boxT, dNum, nilD]) ?_
                refine hK2 _ ?_
                clear hK2 K2
                simp only [putd, upd_lst]
                repeat (refine sxf_next fun K2 hK2 => ?_; simp [boxT, dNum, nilD]; (repeat (refine ⟨by omega, ?_⟩)); refine hK2 _ ?_; clear hK2 K2)
                first | refine sxf_nil (hK' _ ?_) | (refine sxf_next fun K2 hK2 => ?_; clear hK2 hK'; simp [boxT, dNum, nilD]; fail "STUCK")
                refine AW.st (by simp [boxT, dNum, nilD]; rfl) ?_
                clear hK' K'
                refine AW_ret ?_
                simp [D.le, D.le.go, takeMap, boxT, dNum]
            · rw [h] at hany; cases hany
          · have h5 : ¬ l[i] < 0 := by simp [badI] at hb; omega
            have h6 : ¬ (wd t : Int) ≤ l[i] := by simp [badI] at hb; omega
            have h7 : 0 ≤ l[i] := by omega
            have hbf : badI t l[i] = false := by simpa using hb
            have hsnoc : (l.map Int.toNat).take (i + 1) = (l.map Int.toNat).take i ++ [l[i].toNat] := by rw [← List.map_take, ← List.map_take, List.take_succ_eq_append_getElem hil, List.map_append]; rfl
            have hts := tellF_snoc t l[i].toNat ((l.map Int.toNat).take i) s
            have hgs := goF_snoc t l[i].toNat ((l.map Int.toNat).take i) s
            rw [← hsnoc] at hts hgs
            generalize goF t s ((l.map Int.toNat).take i) = cur at hcur hts hgs
            generalize tellF t s ((l.map Int.toNat).take i) = W at htl hts
            have hcur : cur < t.next.length := hcur
            have hxw : l[i].toNat < wd t := by omega
            obtain ⟨_, hia, hta, hita, lo1, hi1, lt1, nx1, te1⟩ := atTab ok hcur hxw
            rw [te1] at hts
            rw [nx1] at hgs
            have hx1 : l[i] < ((t.tells[cur]).length : Int) := by omega
            have hx2 : l[i] < ((t.next[cur]).length : Int) := by omega
            have hxz : ((t.next[cur][l[i].toNat].toNat : Nat) : Int) = t.next[cur][l[i].toNat] := by omega
            have hpt : ∀ f : Int → List D, List.take i (List.map f W) = List.map f W := fun f => List.take_of_length_le (by simp [htl])
            refine AW_rd (tyOf_good _) (fun _ => trivial) (by kernel_rfl) [3, 4, 14, 15, 17, 18, 19, 20, 139] [4, 190] (by kernel_rfl) fun K' hK' => ?_
            repeat (refine sxd_next fun K2 hK2 => ?_; simp [boxT, dNum, rowI, dRow, dInts, dRows, hil, h5, h6, hp, hw0]; (repeat (refine ⟨by omega, ?_⟩)); refine hK2 _ ?_; clear hK2 K2)
            first | refine sxd_nil (hK' _ ?_) | (refine sxd_next fun K2 hK2 => ?_; clear hK2 hK'; simp [boxT, dNum, rowI, dRow, dInts, dRows, hil, h5, h6, hp, hw0]; fail "STUCK")
            refine AW.st (by simp [boxT, dNum, rowI, dRow, dInts, dRows, hil, h5, h6, hp, hw0]; rfl) ?_
            clear hK' K'
            refine AW_cond false rfl (fun h => by cases h) (fun _ => ?_)
            refine AW_skip (hK9 _ ?_)
            refine AW_rd (tyOf_good _) (fun _ => trivial) (by kernel_rfl) [3, 4, 14, 15, 17, 18, 19, 20] [4, 190] (by kernel_rfl) fun K' hK' => ?_
            repeat (refine sxd_next fun K2 hK2 => ?_; simp [boxT, dNum, rowI, dRow, dInts, dRows, hil, hta, hita, h7, hx1, hpt, htl]; (repeat (refine ⟨by omega, ?_⟩)); refine hK2 _ ?_; clear hK2 K2)
            first | refine sxd_nil (hK' _ ?_) | (refine sxd_next fun K2 hK2 => ?_; clear hK2 hK'; simp [boxT, dNum, rowI, dRow, dInts, dRows, hil, hta, hita, h7, hx1, hpt, htl]; fail "STUCK")
            refine AW.st (by simp [boxT, dNum, rowI, dRow, dInts, dRows, hil, hta, hita, h7, hx1, hpt, htl]; rfl) ?_
            clear hK' K'
            refine AW_rde (tyOf_good _) (by kernel_rfl) (by kernel_rfl) fun K' hK' => ?_
            repeat (refine sxd_next fun K2 hK2 => ?_; simp [boxT, dNum, rowI, dRow, dInts, dRows, hil, hcur, hia, h7, hx2]; (repeat (refine ⟨by omega, ?_⟩)); refine hK2 _ ?_; clear hK2 K2)
            first | refine sxd_nil (hK' _ ?_) | (refine sxd_next fun K2 hK2 => ?_; clear hK2 hK'; simp [boxT, dNum, rowI, dRow, dInts, dRows, hil, hcur, hia, h7, hx2]; fail "STUCK")
            clear hK' K'
            refine hK8 _ (AW.norm (fun _ => trivial) [3, 4, 14, 15, 17, 18, 19, 20] [4, 190] (AW.st (by simp [boxT, dNum, rowI, dRow, dInts, dRows, hil, hcur, hia, h7, hx2]; rfl) ?_))
            refine AW_re (tyOf_good _) (fun _ => trivial) fun K' hK' => ?_
            repeat (refine sxf_next fun K2 hK2 => ?_; simp [boxT, dNum]; (repeat (refine ⟨by omega, ?_⟩)); refine hK2 _ ?_; clear hK2 K2)
            first | refine sxf_nil (hK' _ ?_) | (refine sxf_next fun K2 hK2 => ?_; clear hK2 hK'; simp [boxT, dNum]; fail "STUCK")
            clear hK' K'
            try simp only [thn, inb]
            refine Again.mk (i + 1) ⟨by omega, fun j hj hji => ?_⟩ (by omega) ?_
            · rcases Nat.lt_or_ge j i with h | h
              · exact hgood j hj h
              · obtain rfl : j = i := by omega
                exact hbf
            refine Imp.to' (fun _ => trivial) (by simp [boxT, dNum, rowI, dRow, dInts, dRows, hts, hgs, hxz]) (by simp [boxT, dNum, rowI, dRow, dInts, dRows, hts, hgs, hxz])
        · obtain rfl : i = l.length := by omega
          have hnone : l.any (badI t) = false := List.any_eq_false.2 fun x hx => by
            obtain ⟨j, hj, rfl⟩ := List.mem_iff_getElem.1 hx
            rw [hgood j hj hj]
            simp
          rcases hT with ⟨h, _, _⟩ | ⟨_, rfl, rfl⟩
          · rw [h] at hnone; cases hnone
          · rw [List.take_of_length_le (by simp)] at htl ⊢
            have hsame := lsameInts_spec G none none (tellF t s (l.map Int.toNat)) (tellF t s (l.map Int.toNat)) (by omega)
            rw [show (tellF t s (l.map Int.toNat) == tellF t s (l.map Int.toNat)) = true by simp] at hsame
            refine AW_rg (tyOf_good _) (fun _ => trivial) [14, 15, 17, 18, 120] [190] fun K' hK' => ?_
            repeat (refine sxf_next fun K2 hK2 => ?_; simp [boxT, dNum, rowI, dRow, dInts]; (repeat (refine ⟨by omega, ?_⟩)); refine hK2 _ ?_; clear hK2 K2)
            first | refine sxf_nil (hK' _ ?_) | (refine sxf_next fun K2 hK2 => ?_; clear hK2 hK'; simp [boxT, dNum, rowI, dRow, dInts]; fail "STUCK")
            refine AW.st (by simp [boxT, dNum, rowI, dRow, dInts]; rfl) ?_
            clear hK' K'
            refine AW_cond false rfl (fun h => by cases h) (fun _ => ?_)
            refine AW_exit (hK6 _ ?_)
            generalize tellF t s (l.map Int.toNat) = W at htl hsame
            refine AW.imp (Imp.freeze 190 (fun _ => trivial)) ?_
            refine AW.st (by simp [boxT, dNum, rowI, htl]; rfl) ?_
            refine AW_rg (tyOf_good _) (fun _ => trivial) [8] [] fun K' hK' => ?_
            repeat (refine sxf_next fun K2 hK2 => ?_; simp [boxT, dNum, dRow, dInts]; (repeat (refine ⟨by omega, ?_⟩)); refine hK2 _ ?_; clear hK2 K2)
            refine sxf_next fun K2 hK2 => ?_
            simp [boxT, dNum, dRow, dInts]
            refine callK.data (bare_spec G hG 0) (by simp; rfl) (by first | exact D.leGo_refl _ | simp [takeMap, List.map_map, Function.comp_def, D.le, D.le.go, D.le_refl, D.leGo_refl, boxT, dNum, dRow, dInts]) ?_
            refine hK2 _ ?_
            clear hK2 K2
            simp only [putd, upd_lst]
            repeat (refine sxf_next fun K2 hK2 => ?_; simp [boxT, dNum, dRow, dInts]; (repeat (refine ⟨by omega, ?_⟩)); refine hK2 _ ?_; clear hK2 K2)
            refine sxf_next fun K2 hK2 => ?_
            simp [boxT, dNum, dRow, dInts]
            refine callK.data (hsame) (by simp; rfl) (by first | exact D.leGo_refl _ | simp [takeMap, List.map_map, Function.comp_def, D.le, D.le.go, D.le_refl, D.leGo_refl, boxT, dNum, dRow, dInts]) ?_
            refine hK2 _ ?_
            clear hK2 K2
            simp only [putd, upd_lst]
            repeat (refine sxf_next fun K2 hK2 => ?_; simp [boxT, dNum, dRow, dInts]; (repeat (refine ⟨by omega, ?_⟩)); refine hK2 _ ?_; clear hK2 K2)
            first | refine sxf_nil (hK' _ ?_) | (refine sxf_next fun K2 hK2 => ?_; clear hK2 hK'; simp [boxT, dNum, dRow, dInts]; fail "STUCK")
            refine AW.st (by simp [boxT, dNum, dRow, dInts]; rfl) ?_
            clear hK' K'
            refine AW_ret ?_
            simp [D.le, D.le.go, takeMap, boxT, dNum]
    · have hcond : ∀ K : Prop, K → K := fun _ h => h
      refine (fun hend => ?_) (fun (σ : St) himp => hK5 σ (AW.imp (τ := ⟨lst [(1, int a), (3, .d (dRow l)), (4, .ref 4 0 0), (14, .d nilD), (15, .d (dErr (errOf 2))), (17, int 2), (18, .d nilD)], hlst [(4, boxT t)]⟩) himp ?_))
      · by_cases h1 : a < 0
        · refine AW_rg (tyOf_good _) (fun _ => trivial) [1, 3, 4, 14, 15, 17, 18, 111] [4] fun K' hK' => ?_
          repeat (refine sxf_next fun K2 hK2 => ?_; simp [boxT, dNum, h1]; (repeat (refine ⟨by omega, ?_⟩)); refine hK2 _ ?_; clear hK2 K2)
          first | refine sxf_nil (hK' _ ?_) | (refine sxf_next fun K2 hK2 => ?_; clear hK2 hK'; simp [boxT, dNum, h1]; fail "STUCK")
          refine AW.st (by simp [boxT, dNum, h1]; rfl) ?_
          clear hK' K'
          refine AW_cond true rfl (fun _ => ?_) (fun h => by cases h)
          refine AW_re (tyOf_good _) (fun _ => trivial) fun K' hK' => ?_
          repeat (refine sxf_next fun K2 hK2 => ?_; simp [boxT, dNum]; (repeat (refine ⟨by omega, ?_⟩)); refine hK2 _ ?_; clear hK2 K2)
          first | refine sxf_nil (hK' _ ?_) | (refine sxf_next fun K2 hK2 => ?_; clear hK2 hK'; simp [boxT, dNum]; fail "STUCK")
          clear hK' K'
          try simp only [thn, inb]
          refine hend _ ?_
          refine Imp.to' (fun _ => trivial) (by simp [boxT, dNum, nilD, dRow, dInts, dRows]) (by simp [boxT, dNum, nilD, dRow, dInts, dRows])
        · have h2 : (t.next.length : Int) ≤ a := by omega
          refine AW_rg (tyOf_good _) (fun _ => trivial) [1, 3, 4, 14, 15, 17, 18, 111] [4] fun K' hK' => ?_
          repeat (refine sxf_next fun K2 hK2 => ?_; simp [boxT, dNum, h1, h2]; (repeat (refine ⟨by omega, ?_⟩)); refine hK2 _ ?_; clear hK2 K2)
          first | refine sxf_nil (hK' _ ?_) | (refine sxf_next fun K2 hK2 => ?_; clear hK2 hK'; simp [boxT, dNum, h1, h2]; fail "STUCK")
          refine AW.st (by simp [boxT, dNum, h1, h2]; rfl) ?_
          clear hK' K'
          refine AW_cond true rfl (fun _ => ?_) (fun h => by cases h)
          refine AW_re (tyOf_good _) (fun _ => trivial) fun K' hK' => ?_
          repeat (refine sxf_next fun K2 hK2 => ?_; simp [boxT, dNum]; (repeat (refine ⟨by omega, ?_⟩)); refine hK2 _ ?_; clear hK2 K2)
          first | refine sxf_nil (hK' _ ?_) | (refine sxf_next fun K2 hK2 => ?_; clear hK2 hK'; simp [boxT, dNum]; fail "STUCK")
          clear hK' K'
          try simp only [thn, inb]
          refine hend _ ?_
          refine Imp.to' (fun _ => trivial) (by simp [boxT, dNum, nilD, dRow, dInts, dRows]) (by simp [boxT, dNum, nilD, dRow, dInts, dRows])
      · refine AW_then fun K6 hK6 => ?_
        refine AW_rg (tyOf_good _) (fun _ => trivial) [3, 4, 14, 15, 17, 18, 19, 20] [4] fun K' hK' => ?_
        repeat (refine sxf_next fun K2 hK2 => ?_; simp [boxT, dNum]; (repeat (refine ⟨by omega, ?_⟩)); refine hK2 _ ?_; clear hK2 K2)
        first | refine sxf_nil (hK' _ ?_) | (refine sxf_next fun K2 hK2 => ?_; clear hK2 hK'; simp [boxT, dNum]; fail "STUCK")
        refine AW.st (by simp [boxT, dNum]; rfl) ?_
        clear hK' K'
        refine AW_for (S := Unit) (fun _ => True) (fun _ => ⟨lst [(3, .d (dRow l)), (14, .d nilD), (15, .d (dErr (errOf 2))), (17, int 2), (18, .d nilD), (19, int 0)], hlst [(4, boxT t)]⟩) (fun _ => 0) () ?_ trivial ?_
        · refine Imp.to' (fun _ => trivial) (by simp [boxT, dNum, nilD, dRow, dInts, dRows]) (by simp [boxT, dNum, nilD, dRow, dInts, dRows])
        · intro _ _
          refine AW_then fun K7 hK7 => ?_
          by_cases h0 : 0 < l.length
          · refine AW_rg (tyOf_good _) (fun _ => trivial) [14, 15, 17, 18, 120] [4] fun K' hK' => ?_
            repeat (refine sxf_next fun K2 hK2 => ?_; simp [boxT, dNum, dRow, dInts, h0]; (repeat (refine ⟨by omega, ?_⟩)); refine hK2 _ ?_; clear hK2 K2)
            first | refine sxf_nil (hK' _ ?_) | (refine sxf_next fun K2 hK2 => ?_; clear hK2 hK'; simp [boxT, dNum, dRow, dInts, h0]; fail "STUCK")
            refine AW.st (by simp [boxT, dNum, dRow, dInts, h0]; rfl) ?_
            clear hK' K'
            refine AW_cond false rfl (fun h => by cases h) (fun _ => ?_)
            refine AW_exit (hK6 _ ?_)
            refine AW_rg (tyOf_good _) (fun _ => trivial) [8] [] fun K' hK' => ?_
            repeat (refine sxf_next fun K2 hK2 => ?_; simp [boxT, dNum]; (repeat (refine ⟨by omega, ?_⟩)); refine hK2 _ ?_; clear hK2 K2)
            refine sxf_next fun K2 hK2 => ?_
            simp [boxT, dNum]
            refine callK.data (bare_spec G hG 2) (by simp; rfl) (by first | exact D.leGo_refl _ | simp [takeMap, List.map_map, Function.comp_def, D.le, D.le.go, D.le_refl, D.leGo_refl, boxT, dNum]) ?_
            refine hK2 _ ?_
            clear hK2 K2
            simp only [putd, upd_lst]
            repeat (refine sxf_next fun K2 hK2 => ?_; simp [boxT, dNum]; (repeat (refine ⟨by omega, ?_⟩)); refine hK2 _ ?_; clear hK2 K2)
            refine sxf_next fun K2 hK2 => ?_
            simp [boxT, dNum]
            refine callK.data (hnil) (by simp; rfl) (by first | exact D.leGo_refl _ | simp [takeMap, List.map_map, Function.comp_def, D.le, D.le.go, D.le_refl, D.leGo_refl, boxT, dNum]) ?_
            refine hK2 _ ?_
            clear hK2 K2
            simp only [putd, upd_lst]
            repeat (refine sxf_next fun K2 hK2 => ?_; simp [boxT, dNum]; (repeat (refine ⟨by omega, ?_⟩)); refine hK2 _ ?_; clear hK2 K2)
            first | refine sxf_nil (hK' _ ?_) | (refine sxf_next fun K2 hK2 => ?_; clear hK2 hK'; simp [boxT, dNum]; fail "STUCK")
            refine AW.st (by simp [boxT, dNum]; rfl) ?_
            clear hK' K'
            refine AW_ret ?_
            simp [D.le, D.le.go, takeMap, boxT, dNum]
          · refine AW_rg (tyOf_good _) (fun _ => trivial) [14, 15, 17, 18, 120] [4] fun K' hK' => ?_
            repeat (refine sxf_next fun K2 hK2 => ?_; simp [boxT, dNum, dRow, dInts, h0]; (repeat (refine ⟨by omega, ?_⟩)); refine hK2 _ ?_; clear hK2 K2)
            first | refine sxf_nil (hK' _ ?_) | (refine sxf_next fun K2 hK2 => ?_; clear hK2 hK'; simp [boxT, dNum, dRow, dInts, h0]; fail "STUCK")
            refine AW.st (by simp [boxT, dNum, dRow, dInts, h0]; rfl) ?_
            clear hK' K'
            refine AW_cond false rfl (fun h => by cases h) (fun _ => ?_)
            refine AW_exit (hK6 _ ?_)
            refine AW_rg (tyOf_good _) (fun _ => trivial) [8] [] fun K' hK' => ?_
            repeat (refine sxf_next fun K2 hK2 => ?_; simp [boxT, dNum]; (repeat (refine ⟨by omega, ?_⟩)); refine hK2 _ ?_; clear hK2 K2)
            refine sxf_next fun K2 hK2 => ?_
            simp [boxT, dNum]
            refine callK.data (bare_spec G hG 2) (by simp; rfl) (by first | exact D.leGo_refl _ | simp [takeMap, List.map_map, Function.comp_def, D.le, D.le.go, D.le_refl, D.leGo_refl, boxT, dNum]) ?_
            refine hK2 _ ?_
            clear hK2 K2
            simp only [putd, upd_lst]
            repeat (refine sxf_next fun K2 hK2 => ?_; simp [boxT, dNum]; (repeat (refine ⟨by omega, ?_⟩)); refine hK2 _ ?_; clear hK2 K2)
            refine sxf_next fun K2 hK2 => ?_
            simp [boxT, dNum]
            refine callK.data (hnil) (by simp; rfl) (by first | exact D.leGo_refl _ | simp [takeMap, List.map_map, Function.comp_def, D.le, D.le.go, D.le_refl, D.leGo_refl, boxT, dNum]) ?_
            refine hK2 _ ?_
            clear hK2 K2
            simp only [putd, upd_lst]
            repeat (refine sxf_next fun K2 hK2 => ?_; simp [boxT, dNum]; (repeat (refine ⟨by omega, ?_⟩)); refine hK2 _ ?_; clear hK2 K2)
            first | refine sxf_nil (hK' _ ?_) | (refine sxf_next fun K2 hK2 => ?_; clear hK2 hK'; simp [boxT, dNum]; fail "STUCK")
            refine AW.st (by simp [boxT, dNum]; rfl) ?_
            clear hK' K'
            refine AW_ret ?_
            simp [D.le, D.le.go, takeMap, boxT, dNum]
#print axioms parts_good
end Go.Proofs.YtoikggboakojlaaDoor

/-
  The least inputs by which two states are told apart, and what is told of inputs, are the document's.
-/
namespace Go.Proofs.YtoikggboakojlaaDoor
open Go.Av
set_option linter.unusedSimpArgs false
set_option linter.unusedVariables false

set_option maxHeartbeats 4000000 in
theorem parts_true (G : Glob) (t : Tab) (a b : Int) (l : List Int) (c p : Int) (okb : Bool)
    (htab : PureC Tryd.prog G 16 [dTab t] (.tup [.agg [dRows t.next, dRows t.tells], .agg [dNum c, dNum p], .v (.bool okb)])) (h : okb = false ∨ (60 : Int) < l.length) :
    PureC Tryd.prog G 5 [dTab t, dNum a, dNum b, dRow l] (.v (.bool true)) := by
  refine PureC.of_body (tyOf_good _) Tryd.func5 rfl rfl (rs := [.tmp 8]) Tryd.results5 (by simp [Tryd.ntmps5]) fun X => ?_
  simp only [Tryd.ntmps5, List.map]
  refine AW_rg (tyOf_good _) (fun _ => trivial) [1, 2, 3, 4] [4] fun K' hK' => ?_
  repeat (refine sxf_next fun K2 hK2 => ?_; simp [dTab, dNum]; (repeat (refine ⟨by omega, ?_⟩)); refine hK2 _ ?_; clear hK2 K2)
  first | refine sxf_nil (hK' _ ?_) | (refine sxf_next fun K2 hK2 => ?_; clear hK2 hK'; simp [dTab, dNum]; fail "STUCK")
  refine AW.st (by simp [dTab, dNum]; rfl) ?_
  clear hK' K'
  refine AW_rg (tyOf_good _) (fun _ => trivial) [1, 2, 3, 4, 9, 10, 11] [4, 9, 10] fun K' hK' => ?_
  repeat (refine sxf_next fun K2 hK2 => ?_; simp [dTab, dRows, dNum]; (repeat (refine ⟨by omega, ?_⟩)); refine hK2 _ ?_; clear hK2 K2)
  refine sxf_next fun K2 hK2 => ?_
  simp [dTab, dRows, dNum]
  refine callK.data (htab) (by simp; rfl) (by first | exact D.leGo_refl _ | simp [takeMap, List.map_map, Function.comp_def, D.le, D.le.go, D.le_refl, D.leGo_refl, dTab, dRows, dNum]) ?_
  refine hK2 _ ?_
  clear hK2 K2
  simp only [putd, upd_lst]
  repeat (refine sxf_next fun K2 hK2 => ?_; simp [dTab, dRows, dNum]; (repeat (refine ⟨by omega, ?_⟩)); refine hK2 _ ?_; clear hK2 K2)
  first | refine sxf_nil (hK' _ ?_) | (refine sxf_next fun K2 hK2 => ?_; clear hK2 hK'; simp [dTab, dRows, dNum]; fail "STUCK")
  refine AW.st (by simp [dTab, dRows, dNum]; rfl) ?_
  clear hK' K'
  refine AW_then fun K1 hK1 => ?_
  cases okb with
  | false =>
    refine AW_rg (tyOf_good _) (fun _ => trivial) [33] [4, 9, 10] fun K' hK' => ?_
    repeat (refine sxf_next fun K2 hK2 => ?_; simp [dRow, dInts]; (repeat (refine ⟨by omega, ?_⟩)); refine hK2 _ ?_; clear hK2 K2)
    first | refine sxf_nil (hK' _ ?_) | (refine sxf_next fun K2 hK2 => ?_; clear hK2 hK'; simp [dRow, dInts]; fail "STUCK")
    refine AW.st (by simp [dRow, dInts]; rfl) ?_
    clear hK' K'
    refine AW_cond true rfl (fun _ => ?_) (fun h => by cases h)
    refine AW_rg (tyOf_good _) (fun _ => trivial) [8] [] fun K' hK' => ?_
    repeat (refine sxf_next fun K2 hK2 => ?_; simp; (repeat (refine ⟨by omega, ?_⟩)); refine hK2 _ ?_; clear hK2 K2)
    first | refine sxf_nil (hK' _ ?_) | (refine sxf_next fun K2 hK2 => ?_; clear hK2 hK'; simp; fail "STUCK")
    refine AW.st (by simp; rfl) ?_
    clear hK' K'
    refine AW_ret ?_
    simp [D.le, D.le.go, takeMap]
  | true =>
    have h60 : (60 : Int) < l.length := by rcases h with h | h; cases h; exact h
    refine AW_rg (tyOf_good _) (fun _ => trivial) [33] [4, 9, 10] fun K' hK' => ?_
    repeat (refine sxf_next fun K2 hK2 => ?_; simp [dRow, dInts, h60]; (repeat (refine ⟨by omega, ?_⟩)); refine hK2 _ ?_; clear hK2 K2)
    first | refine sxf_nil (hK' _ ?_) | (refine sxf_next fun K2 hK2 => ?_; clear hK2 hK'; simp [dRow, dInts, h60]; fail "STUCK")
    refine AW.st (by simp [dRow, dInts, h60]; rfl) ?_
    clear hK' K'
    refine AW_cond true rfl (fun _ => ?_) (fun h => by cases h)
    refine AW_rg (tyOf_good _) (fun _ => trivial) [8] [] fun K' hK' => ?_
    repeat (refine sxf_next fun K2 hK2 => ?_; simp; (repeat (refine ⟨by omega, ?_⟩)); refine hK2 _ ?_; clear hK2 K2)
    first | refine sxf_nil (hK' _ ?_) | (refine sxf_next fun K2 hK2 => ?_; clear hK2 hK'; simp; fail "STUCK")
    refine AW.st (by simp; rfl) ?_
    clear hK' K'
    refine AW_ret ?_
    simp [D.le, D.le.go, takeMap]

set_option maxHeartbeats 4000000 in
theorem parts_bad (G : Glob) (hG : HasErr G) (hF : HasFine G) (t : Tab) (a b : Int) (l : List Int) (h1 : ¬ (510 : Int) < t.next.length) (h2 : ¬ (510 : Int) < t.tells.length) (e : Int × Option Nat) (he : checkF t = some e) (hl : ¬ (60 : Int) < l.length) :
    PureC Tryd.prog G 5 [dTab t, dNum a, dNum b, dRow l] (.v (.bool true)) := by
  have htab := tables_bad G hF t h1 h2 e he
  have hat := at_same G hG (some e)
  have hne : ¬ codeF (some e) = 0 := by obtain ⟨c, s⟩ := e; exact checkF_code he
  unfold dFault at hat
  change PureC _ _ _ _ (.tup [.agg [dRows t.next, dRows t.tells], .agg [dNum (codeF (some e)), dNum (placeF (some e))], .v (.bool true)]) at htab
  refine PureC.of_body (tyOf_good _) Tryd.func5 rfl rfl (rs := [.tmp 8]) Tryd.results5 (by simp [Tryd.ntmps5]) fun X => ?_
  simp only [Tryd.ntmps5, List.map]
  refine AW_rg (tyOf_good _) (fun _ => trivial) [1, 2, 3, 4] [4] fun K' hK' => ?_
  repeat (refine sxf_next fun K2 hK2 => ?_; simp [dTab, dNum]; (repeat (refine ⟨by omega, ?_⟩)); refine hK2 _ ?_; clear hK2 K2)
  first | refine sxf_nil (hK' _ ?_) | (refine sxf_next fun K2 hK2 => ?_; clear hK2 hK'; simp [dTab, dNum]; fail "STUCK")
  refine AW.st (by simp [dTab, dNum]; rfl) ?_
  clear hK' K'
  refine AW_rg (tyOf_good _) (fun _ => trivial) [1, 2, 3, 4, 9, 10, 11] [4, 9, 10] fun K' hK' => ?_
  repeat (refine sxf_next fun K2 hK2 => ?_; simp [dTab, dRows, dNum]; (repeat (refine ⟨by omega, ?_⟩)); refine hK2 _ ?_; clear hK2 K2)
  refine sxf_next fun K2 hK2 => ?_
  simp [dTab, dRows, dNum]
  refine callK.data (htab) (by simp; rfl) (by first | exact D.leGo_refl _ | simp [takeMap, List.map_map, Function.comp_def, D.le, D.le.go, D.le_refl, D.leGo_refl, dTab, dRows, dNum]) ?_
  refine hK2 _ ?_
  clear hK2 K2
  simp only [putd, upd_lst]
  repeat (refine sxf_next fun K2 hK2 => ?_; simp [dTab, dRows, dNum]; (repeat (refine ⟨by omega, ?_⟩)); refine hK2 _ ?_; clear hK2 K2)
  first | refine sxf_nil (hK' _ ?_) | (refine sxf_next fun K2 hK2 => ?_; clear hK2 hK'; simp [dTab, dRows, dNum]; fail "STUCK")
  refine AW.st (by simp [dTab, dRows, dNum]; rfl) ?_
  clear hK' K'
  refine AW_then fun K1 hK1 => ?_
  refine AW_rg (tyOf_good _) (fun _ => trivial) [1, 2, 3, 4, 9, 10, 33] [4, 9, 10] fun K' hK' => ?_
  repeat (refine sxf_next fun K2 hK2 => ?_; simp [dRow, dInts, hl]; (repeat (refine ⟨by omega, ?_⟩)); refine hK2 _ ?_; clear hK2 K2)
  first | refine sxf_nil (hK' _ ?_) | (refine sxf_next fun K2 hK2 => ?_; clear hK2 hK'; simp [dRow, dInts, hl]; fail "STUCK")
  refine AW.st (by simp [dRow, dInts, hl]; rfl) ?_
  clear hK' K'
  refine AW_cond false rfl (fun h => by cases h) (fun _ => ?_)
  refine AW_skip (hK1 _ ?_)
  refine AW_rg (tyOf_good _) (fun _ => trivial) [1, 2, 3, 4, 9, 10, 12, 13] [4, 9, 10] fun K' hK' => ?_
  repeat (refine sxf_next fun K2 hK2 => ?_; simp [dTab, dNum]; (repeat (refine ⟨by omega, ?_⟩)); refine hK2 _ ?_; clear hK2 K2)
  refine sxf_next fun K2 hK2 => ?_
  simp [dTab, dNum]
  refine callK.data (part_bad G t a b e he) (by simp; rfl) (by first | exact D.leGo_refl _ | simp [takeMap, List.map_map, Function.comp_def, D.le, D.le.go, D.le_refl, D.leGo_refl, dTab, dNum]) ?_
  refine hK2 _ ?_
  clear hK2 K2
  simp only [putd, upd_lst]
  repeat (refine sxf_next fun K2 hK2 => ?_; simp [dTab, dNum]; (repeat (refine ⟨by omega, ?_⟩)); refine hK2 _ ?_; clear hK2 K2)
  first | refine sxf_nil (hK' _ ?_) | (refine sxf_next fun K2 hK2 => ?_; clear hK2 hK'; simp [dTab, dNum]; fail "STUCK")
  refine AW.st (by simp [dTab, dNum]; rfl) ?_
  clear hK' K'
  refine AW_rg (tyOf_good _) (fun _ => trivial) [1, 2, 3, 4, 9, 10, 12, 13, 14, 15] [4, 9, 10] fun K' hK' => ?_
  repeat (refine sxf_next fun K2 hK2 => ?_; simp [dTab, dNum]; (repeat (refine ⟨by omega, ?_⟩)); refine hK2 _ ?_; clear hK2 K2)
  refine sxf_next fun K2 hK2 => ?_
  simp [dTab, dNum]
  refine callK.data (btell_bad G t a l e he) (by simp; rfl) (by first | exact D.leGo_refl _ | simp [takeMap, List.map_map, Function.comp_def, D.le, D.le.go, D.le_refl, D.leGo_refl, dTab, dNum]) ?_
  refine hK2 _ ?_
  clear hK2 K2
  simp only [putd, upd_lst]
  repeat (refine sxf_next fun K2 hK2 => ?_; simp [dTab, dNum]; (repeat (refine ⟨by omega, ?_⟩)); refine hK2 _ ?_; clear hK2 K2)
  first | refine sxf_nil (hK' _ ?_) | (refine sxf_next fun K2 hK2 => ?_; clear hK2 hK'; simp [dTab, dNum]; fail "STUCK")
  refine AW.st (by simp [dTab, dNum]; rfl) ?_
  clear hK' K'
  refine AW_then fun K2 hK2 => ?_
  refine AW_rg (tyOf_good _) (fun _ => trivial) [1, 2, 3, 4, 9, 10, 12, 13, 14, 15, 50] [4, 9, 10] fun K' hK' => ?_
  repeat (refine sxf_next fun K2 hK2 => ?_; simp [hne]; (repeat (refine ⟨by omega, ?_⟩)); refine hK2 _ ?_; clear hK2 K2)
  first | refine sxf_nil (hK' _ ?_) | (refine sxf_next fun K2 hK2 => ?_; clear hK2 hK'; simp [hne]; fail "STUCK")
  refine AW.st (by simp [hne]; rfl) ?_
  clear hK' K'
  refine AW_cond true rfl (fun _ => ?_) (fun h => by cases h)
  refine AW_rg (tyOf_good _) (fun _ => trivial) [8] [] fun K' hK' => ?_
  repeat (refine sxf_next fun K2 hK2 => ?_; simp [dNum]; (repeat (refine ⟨by omega, ?_⟩)); refine hK2 _ ?_; clear hK2 K2)
  refine sxf_next fun K2 hK2 => ?_
  simp [dNum]
  refine callK.data (hat) (by simp; rfl) (by first | exact D.leGo_refl _ | simp [takeMap, List.map_map, Function.comp_def, D.le, D.le.go, D.le_refl, D.leGo_refl, dNum]) ?_
  refine hK2 _ ?_
  clear hK2 K2
  simp only [putd, upd_lst]
  repeat (refine sxf_next fun K2 hK2 => ?_; simp [dNum]; (repeat (refine ⟨by omega, ?_⟩)); refine hK2 _ ?_; clear hK2 K2)
  refine sxf_next fun K2 hK2 => ?_
  simp [dNum]
  refine callK.data (hat) (by simp; rfl) (by first | exact D.leGo_refl _ | simp [takeMap, List.map_map, Function.comp_def, D.le, D.le.go, D.le_refl, D.leGo_refl, dNum]) ?_
  refine hK2 _ ?_
  clear hK2 K2
  simp only [putd, upd_lst]
  repeat (refine sxf_next fun K2 hK2 => ?_; simp [dNum]; (repeat (refine ⟨by omega, ?_⟩)); refine hK2 _ ?_; clear hK2 K2)
  first | refine sxf_nil (hK' _ ?_) | (refine sxf_next fun K2 hK2 => ?_; clear hK2 hK'; simp [dNum]; fail "STUCK")
  refine AW.st (by simp [dNum]; rfl) ?_
  clear hK' K'
  refine AW_ret ?_
  simp [D.le, D.le.go, takeMap]

theorem parts_spec (G : Glob) (hG : HasErr G) (hF : HasFine G) (t : Tab) (a b : Int) (l : List Int) : PureC Tryd.prog G 5 [dTab t, dNum a, dNum b, dRow l] (.v (.bool true)) := by
  by_cases hm : 510 < t.next.length ∨ 510 < t.tells.length
  · exact parts_true G t a b l 0 (-1) false (tables_many G hF t hm) (.inl rfl)
  · have h1 : ¬ (510 : Int) < t.next.length := by omega
    have h2 : ¬ (510 : Int) < t.tells.length := by omega
    by_cases h60 : (60 : Int) < l.length
    · cases he : checkF t with
      | some e => exact parts_true G t a b l (codeF (some e)) (placeF (some e)) true (tables_bad G hF t h1 h2 e he) (.inr h60)
      | none => exact parts_true G t a b l 0 (-1) _ (tables_good G hF t (ok_iff.1 he)) (.inr h60)
    · cases he : checkF t with
      | some e => exact parts_bad G hG hF t a b l h1 h2 e he h60
      | none =>
        have ok := ok_iff.1 he
        by_cases hfew : (t.next.length : Int) ≤ 30 ∧ (wd t : Int) ≤ 8
        · by_cases hr : a < 0 ∨ (t.next.length : Int) ≤ a
          · exact parts_good G hG hF t a b l ok hfew.1 hfew.2 h60 nilD 2 (btell_range G t ok a l (by omega) (by rcases hr with h | h; exact .inl h; exact .inr (.inl h))) (.inr ⟨hr, rfl, rfl⟩)
          · obtain ⟨s, rfl⟩ := Int.eq_ofNat_of_zero_le (show 0 ≤ a by omega)
            have hs : s < t.next.length := by omega
            obtain ⟨T, E, h1, h2⟩ := btell_at G t ok s hs l (by omega)
            exact parts_good G hG hF t s b l ok hfew.1 hfew.2 h60 T E h1 (.inl ⟨s, rfl, hs, h2⟩)
        · refine parts_true G t a b l 0 (-1) _ (tables_good G hF t ok) (.inl ?_)
          by_cases h3 : (t.next.length : Int) ≤ 30
          · have h4 : ¬ (wd t : Int) ≤ 8 := fun h => hfew ⟨h3, h⟩
            rw [decide_eq_false h4, Bool.and_false]
          · rw [decide_eq_false h3, Bool.false_and]
#print axioms parts_spec
end Go.Proofs.YtoikggboakojlaaDoor

/-
  Laws over programs whose package-level variables are known.
-/
namespace Go.Av
set_option linter.unusedSimpArgs false
set_option linter.unusedVariables false
set_option linter.unusedSectionVars false
open Go.ChangeShapes Go.WideShapes Go.RowKit

theorem law_callsG {P : Program} {G : Glob} {g : FuncId} {xs : List D} {b : Bool} (hc : PureC P G g xs (.v (.bool b))) {W : World} {args : Array Value} (hgl : ∀ g x, G g = some x → RD W (fun _ => False) (.pointer (some ⟨g, 0, none⟩)) x) (hsz : args.size = xs.length)
    (hrd : ∀ (i : Nat) (u : Value) (x : D), args[i]? = some u → xs[i]? = some x → RD W (fun _ => False) u x) : Calls P g args W fun e W' => e = .returned (.bool b) ∧ Below W.heap.size W W' := by
  refine (hc.2 (fun _ => False) W (fun _ => none) args (Sim.none (by simp)) (fun g x hx => (hgl g x hx).sub fun b hb => XX_none.1 hb) (by simpa using hsz) fun i u x hu hx => ?_).mono fun e W' ⟨v, x, H', μ', he, ⟨hx, _⟩, hr, _, ev⟩ => ?_
  · rw [List.getElem?_map] at hx
    obtain ⟨d, hd, rfl⟩ := Option.map_eq_some_iff.1 hx
    exact .d ((hrd i u d hu hd).sub fun b hb => XX_none.1 hb)
  · subst hx
    have := hr.scalar
    subst this
    have hg := Ev.grew ev
    exact ⟨he, hg.os, hg.tape, hg.output, hg.size, hg.same⟩

theorem RD.cell1 {W : World} {X : Nat → Prop} {g : Nat} {v : Value} (hX : ∀ b, ¬ X b) (h : W.cell? ⟨g, 0, none⟩ = some v) : RD W X (.pointer (some ⟨g, 0, none⟩)) (.ip [.v v]) :=
  .ip (f := fun _ => v) (hX g) (cell_lt h) (fun j hj => by
    have : j = 0 := by simpa using hj
    subst this
    exact h) (fun j c hc => by
    have hj : j = 0 := by
      have := (List.getElem?_eq_some_iff.1 hc).1
      simpa using this
    subst hj
    simp at hc
    subst hc
    exact .v v)
theorem RD.at2 {W : World} {X : Nat → Prop} {x y : Value} {a b : D} (h0 : RD W X x a) (h1 : RD W X y b) : ∀ (i : Nat) (u : Value) (c : D), #[x, y][i]? = some u → [a, b][i]? = some c → RD W X u c := fun i u c hu hc => by
  match i, hu, hc with
  | 0, hu, hc => simp at hu hc; subst hu hc; exact h0
  | 1, hu, hc => simp at hu hc; subst hu hc; exact h1
  | i + 2, hu, hc => simp at hu
theorem RD.at1 {W : World} {X : Nat → Prop} {x : Value} {a : D} (h0 : RD W X x a) : ∀ (i : Nat) (u : Value) (c : D), #[x][i]? = some u → [a][i]? = some c → RD W X u c := fun i u c hu hc => by
  match i, hu, hc with
  | 0, hu, hc => simp at hu hc; subst hu hc; exact h0
  | i + 1, hu, hc => simp at hu
theorem RD.at4 {W : World} {X : Nat → Prop} {x y z v : Value} {a b e f : D} (h0 : RD W X x a) (h1 : RD W X y b) (h2 : RD W X z e) (h3 : RD W X v f) : ∀ (i : Nat) (u : Value) (c : D), #[x, y, z, v][i]? = some u → [a, b, e, f][i]? = some c → RD W X u c := fun i u c hu hc => by
  match i, hu, hc with
  | 0, hu, hc => simp at hu hc; subst hu hc; exact h0
  | 1, hu, hc => simp at hu hc; subst hu hc; exact h1
  | 2, hu, hc => simp at hu hc; subst hu hc; exact h2
  | 3, hu, hc => simp at hu hc; subst hu hc; exact h3
  | i + 4, hu, hc => simp at hu
end Go.Av

/-
  Tables, as they are read.
-/
namespace Go.Proofs.YtoikggboakojlaaDoor
open Go.Av Go.ChangeShapes Go.WideShapes Go.ChangeAt Go.RowKit
set_option linter.unusedSimpArgs false
set_option linter.unusedVariables false

theorem law_own : ownKnob Tryd.prog.godebug = none := by kernel_rfl
theorem law_laidOut : laidOutB Tryd.prog = true := by kernel_rfl
theorem cells_int : Tryd.prog.cellsOf 3 = 1 := by kernel_rfl
theorem cells_ints : Tryd.prog.cellsOf 32 = 1 := by kernel_rfl
theorem cells_rows : Tryd.prog.cellsOf 23 = 1 := by kernel_rfl
theorem cells_tab : Tryd.prog.cellsOf 25 = 2 := by kernel_rfl

section
variable {H : Type} {enc : TypeId × Value → H} {w : World} {base : Nat} {spare : Nat → Bool} {held : Bool} {X : Nat → Prop}

theorem reads_ints (hX : ∀ b, ¬ X b) : ReadsAs enc Tryd.prog w base spare held X 32 (fun _ : List Int => True) (fun l => [dRow l]) := by
  intro fuel cs x h
  obtain ⟨l, _, hr⟩ := reads_slice Tryd.underlying32 cells_int (by omega) hX (reads_int Tryd.underlying3) fuel cs x h
  exact ⟨l, trivial, hr⟩
theorem reads_rows (hX : ∀ b, ¬ X b) : ReadsAs enc Tryd.prog w base spare held X 23 (fun _ : List (List Int) => True) (fun l => [dRows l]) := by
  intro fuel cs x h
  obtain ⟨l, _, hr⟩ := reads_slice Tryd.underlying23 cells_ints (by omega) hX (reads_ints hX) fuel cs x h
  exact ⟨l, trivial, hr⟩
theorem reads_tab (hX : ∀ b, ¬ X b) : ReadsAs enc Tryd.prog w base spare held X 25 (fun _ : List (List Int) × List (List Int) => True) (fun s => [dRows s.1, dRows s.2]) := by
  intro fuel cs x h
  obtain ⟨l, _, hr⟩ := reads_struct2 Tryd.underlying25 (by rw [cells_tab]; simp only [cells_rows]) rfl (by simp only [cells_rows]) (reads_rows hX) (reads_rows hX) fuel cs x h
  exact ⟨l, trivial, hr⟩
end

end Go.Proofs.YtoikggboakojlaaDoor

/-
  Package-level variables that are laid: errors.errorType, and the reference's Fine.
-/
namespace Go.Proofs.YtoikggboakojlaaDoor
open Go.Av Go.ChangeShapes Go.WideShapes Go.ChangeAt Go.RowKit
set_option linter.unusedSimpArgs false
set_option linter.unusedVariables false

theorem laid_et : Tryd.prog.globalNamed "errors.errorType" = some 1 := by kernel_rfl
theorem laid_rt : (Tryd.prog.cutTypes.find? (·.1 == "internal/reflectlite.rtype")).map (·.2) = some 177 := by kernel_rfl
theorem laid_oneRow : ((List.range (333 - 100)).filter fun t => Tryd.prog.rowNamed t [101, 114, 114, 111, 114]) = [34] := by kernel_rfl
theorem laid_size : Tryd.prog.types.size = 333 - 100 := by kernel_rfl
theorem laid_fi : Tryd.prog.globalNamed "signalcabin/signalcabinref.Fine" = some 0 := by kernel_rfl
theorem laid_fiT : (Tryd.prog.globals[0]?).map (·.type) = some 29 := by kernel_rfl
theorem cells_errno : Tryd.prog.cellsOf 27 = 1 := by kernel_rfl
theorem cells_fault : Tryd.prog.cellsOf 29 = 2 := by kernel_rfl

def laidE : List (String × DataW Unit) := [("errors.errorType", Rows.laid_errors_errorType)]
def laidF : List (String × DataW Unit) := [("signalcabin/signalcabinref.Fine", Rows.laid_signalcabin_signalcabinref_Fine)]
def laidEF : List (String × DataW Unit) := [("errors.errorType", Rows.laid_errors_errorType), ("signalcabin/signalcabinref.Fine", Rows.laid_signalcabin_signalcabinref_Fine)]

theorem handle_of_met {W : World} (h : handlesMet Tryd.prog laidE W) : W.cell? ⟨1, 0, none⟩ = some errType := by
  obtain ⟨name, u, ty, e1, e2, e3, e4, e5⟩ := h _ (List.mem_singleton.2 rfl)
  have en : name = [101, 114, 114, 111, 114] := (Option.some.inj e1).symm
  subst en
  obtain rfl := Option.some.inj (laid_rt.symm.trans e2)
  have hm : ty ∈ (List.range (333 - 100)).filter fun t => Tryd.prog.rowNamed t [101, 114, 114, 111, 114] := List.mem_filter.2 ⟨List.mem_range.2 (by rw [← laid_size]; exact e3), e4⟩
  rw [laid_oneRow] at hm
  obtain rfl := List.mem_singleton.1 hm
  have hh : typeHandle Tryd.prog 34 = .pointer (some ⟨6, 34, none⟩) := by kernel_rfl
  rw [hh] at e5
  simpa [errType] using World.var?_cell laid_et e5 0

theorem trod_errno {W : World} {fuel : Nat} {cs : List Value} {y : DataW Unit × List MemPlace} (h : DataW.trod (fun _ => ()) Tryd.prog W 0 (fun _ => true) false fuel 27 cs = some y) : ∃ n, cs = [.int .i64 n] ∧ y = (.lit (.int .i64 n), []) := by
  obtain ⟨n, a, b, _⟩ := DataW.trod_int Tryd.underlying27 h
  exact ⟨n, a, b⟩
theorem trod_int3 {W : World} {fuel : Nat} {cs : List Value} {y : DataW Unit × List MemPlace} (h : DataW.trod (fun _ => ()) Tryd.prog W 0 (fun _ => true) false fuel 3 cs = some y) : ∃ n, cs = [.int .i64 n] ∧ y = (.lit (.int .i64 n), []) := by
  obtain ⟨n, a, b, _⟩ := DataW.trod_int Tryd.underlying3 h
  exact ⟨n, a, b⟩
theorem fine_of_met {W : World} (h : laidMet Tryd.prog laidF W) : W.cell? ⟨0, 0, none⟩ = some (.int .i64 0) ∧ W.cell? ⟨0, 1, none⟩ = some (.int .i64 (-1)) := by
  obtain ⟨ps, hv, _, _⟩ := h
  obtain ⟨g, t, cs, fuel, p, q, hg, ht, hcs, htr, _, _⟩ := hv
  obtain rfl := Option.some.inj (laid_fi.symm.trans hg)
  obtain rfl := Option.some.inj (laid_fiT.symm.trans ht)
  obtain ⟨y0, y1, n, hx, hl, t0, t1⟩ := trod_struct2 Tryd.underlying29 htr
  refine Exists.elim (trod_errno t0) fun n0 q0 => Exists.elim (trod_int3 t1) fun n1 q1 => ?_
  have e0 := q0.1
  have e1 := q1.1
  rw [q0.2, q1.2] at hx
  have hd : (DataW.agg [.lit (.int .i64 0), .lit (.int .i64 (-1))] : DataW Unit) = (DataW.agg [.lit (.int .i64 n0), .lit (.int .i64 n1)] : DataW Unit) := congrArg (·.1) hx
  simp only [DataW.agg.injEq, List.cons.injEq, DataW.lit.injEq, Lit.int.injEq, true_and, and_true] at hd
  have h0 : n0 = 0 := hd.1.symm
  have h1 : n1 = -1 := hd.2.symm
  subst h0 h1
  have c0 : cs[0]? = some (.int .i64 0) := by
    rw [cells_errno] at e0
    have := congrArg (fun l => l[0]?) e0
    simpa using this
  have c1 : cs[1]? = some (.int .i64 (-1)) := by
    rw [cells_int] at e1
    have := congrArg (fun l => l[0]?) e1
    simpa using this
  exact ⟨by rw [World.var?_cell laid_fi hcs 0]; exact c0, by rw [World.var?_cell laid_fi hcs 1]; exact c1⟩

theorem parts_of_EF {W : World} (h : laidMetH Tryd.prog laidEF W) : laidMet Tryd.prog laidF W ∧ handlesMet Tryd.prog laidE W := h

/-- The world in which these two are laid. -/
noncomputable def worldEF (os : Os) : World :=
  let w0 := World.laidAll Tryd.prog os laidF
  { w0 with heap := w0.heap.modify 1 fun
      | .cells _ t frozen => .cells #[errType] t frozen
      | o => o }
theorem worldEF_met (os : Os) (args : Array Value) : laidMetH Tryd.prog laidEF ((worldEF os).forCall (fun _ _ => 0) ⟨#[], args, []⟩).memory :=
  laidMetH_of_parts (laidMet_of_run' 8 (by kernel_rfl) (by kernel_rfl)) (by kernel_rfl)

def globEF : Glob := fun g => if g = 1 then some (.ip [.v errType]) else if g = 0 then some (.ip [dNum 0, dNum (-1)]) else none
theorem globEF_err : HasErr globEF := rfl
theorem globEF_fine : HasFine globEF := rfl
theorem RD.cells2 {W : World} {X : Nat → Prop} {g : Nat} {u v : Value} (hX : ∀ b, ¬ X b) (h0 : W.cell? ⟨g, 0, none⟩ = some u) (h1 : W.cell? ⟨g, 1, none⟩ = some v) : RD W X (.pointer (some ⟨g, 0, none⟩)) (.ip [.v u, .v v]) := by
  refine .ip (f := fun j => if j = 0 then u else v) (hX _) (cell_lt h0) (fun j hj => ?_) fun j c hc => ?_
  · match j, hj with
    | 0, _ => simpa using h0
    | 1, _ => simpa using h1
  · match j, hc with
    | 0, hc => simp at hc; subst hc; exact .v _
    | 1, hc => simp at hc; subst hc; exact .v _
    | j + 2, hc => simp at hc
theorem globEF_ok {W : World} (h : laidMetH Tryd.prog laidEF W) : ∀ g x, globEF g = some x → RD W (fun _ => False) (.pointer (some ⟨g, 0, none⟩)) x := fun g x hx => by
  obtain ⟨hf, he⟩ := parts_of_EF h
  obtain ⟨f0, f1⟩ := fine_of_met hf
  unfold globEF at hx
  split at hx
  · rename_i hg
    subst hg
    obtain rfl := Option.some.inj hx
    exact RD.cell1 (by simp) (handle_of_met he)
  · split at hx
    · rename_i hg
      subst hg
      obtain rfl := Option.some.inj hx
      exact RD.cells2 (by simp) f0 f1
    · cases hx
end Go.Proofs.YtoikggboakojlaaDoor
