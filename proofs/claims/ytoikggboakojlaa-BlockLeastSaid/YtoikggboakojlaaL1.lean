/-
  Proved: for every table whatever, BlockLeast answers true and leaves the table as it was. No condition.
-/
import Derived.Test.YtoikggboakojlaaF12
import Derived.Test.YtoikggboakojlaaAv20
import Derived.Test.YtoikggboakojlaaRows
namespace Go.Proofs.Ytoikggboakojlaa
open Go.Av Go.ChangeShapes Go.WideShapes Go.ChangeAt Go.RowKit
set_option linter.unusedSimpArgs false
set_option linter.unusedVariables false

theorem law_own : ownKnob Try.prog.godebug = none := by kernel_rfl
theorem law_laidOut : laidOutB Try.prog = true := by kernel_rfl
theorem cells_int : Try.prog.cellsOf 3 = 1 := by kernel_rfl
theorem cells_ints : Try.prog.cellsOf 31 = 1 := by kernel_rfl
theorem cells_rows : Try.prog.cellsOf 22 = 1 := by kernel_rfl
theorem cells_tab : Try.prog.cellsOf 24 = 2 := by kernel_rfl

section
variable {H : Type} {enc : TypeId × Value → H} {w : World} {base : Nat} {spare : Nat → Bool} {held : Bool} {X : Nat → Prop}

theorem reads_ints (hX : ∀ b, ¬ X b) : ReadsAs enc Try.prog w base spare held X 31 (fun _ : List Int => True) (fun l => [dRow l]) := by
  intro fuel cs x h
  obtain ⟨l, _, hr⟩ := reads_slice Try.underlying31 cells_int (by omega) hX (reads_int Try.underlying3) fuel cs x h
  exact ⟨l, trivial, hr⟩
theorem reads_rows (hX : ∀ b, ¬ X b) : ReadsAs enc Try.prog w base spare held X 22 (fun _ : List (List Int) => True) (fun l => [dRows l]) := by
  intro fuel cs x h
  obtain ⟨l, _, hr⟩ := reads_slice Try.underlying22 cells_ints (by omega) hX (reads_ints hX) fuel cs x h
  exact ⟨l, trivial, hr⟩
theorem reads_tab (hX : ∀ b, ¬ X b) : ReadsAs enc Try.prog w base spare held X 24 (fun _ : List (List Int) × List (List Int) => True) (fun s => [dRows s.1, dRows s.2]) := by
  intro fuel cs x h
  obtain ⟨l, _, hr⟩ := reads_struct2 Try.underlying24 (by rw [cells_tab]; simp only [cells_rows]) rfl (by simp only [cells_rows]) (reads_rows hX) (reads_rows hX) fuel cs x h
  exact ⟨l, trivial, hr⟩
end

set_option maxRecDepth 100000 in
theorem blockLeast_lifted (os : Os) (started : os.Started) (H : Type) (enc : TypeId × Value → H) :
    ReturnsInHanded {} Try.checked os 3 .any (Rows.blockLeastSpec.pre6 enc Try.prog Try.f3 Rows.blockLeastRow.domain false) (Rows.blockLeastSpec.post enc Try.prog Try.f3 false true false false) := by
  refine returnsInHanded_of_change (C := Try.checked) law_own started (by kernel_rfl) Try.func3
    (ChangeSpec.witness6 (enc := enc) (C := Try.checked) false ⟨#[], #[.agg #[.slice none 0 0, .slice none 0 0]], []⟩ 8 (by kernel_rfl) (by kernel_rfl) (by kernel_rfl) (by kernel_rfl)) ?_
  intro W base args ds gs before hval0 hW _ _
  have hval : ∀ (j : Nat) t v, Try.f3.params[j]? = some t → args[j]? = some v → Value.okWide Try.prog W .any base t v := hval0
  have hW' := hW
  obtain ⟨p, q, hA0, hV, rfl, hfz, hnd⟩ := hW
  have hA : DataW.TrodAll enc Try.prog W 0 (fun _ => true) true Try.f3.params.toList args.toList ds p := hA0
  have hlt : ∀ x ∈ p, x.block < W.heap.size := fun x hx => by simpa using hW'.lt x (by simp [hx])
  have hback : ∀ W', Below W.heap.size W W' → DataW.TrodAll enc Try.prog W' 0 (fun b => decide (b < W.heap.size)) true Try.f3.params.toList args.toList ds p := fun W' hb =>
    trodAll_below law_laidOut hb (by rw [Try.params3]; intro t ht; simp at ht; subst ht; exact ⟨by kernel_rfl, of_decide_eq_true (by kernel_rfl)⟩) hA hlt
  rw [Try.params3] at hA hval
  obtain ⟨v0, d0, rfl, rfl, h0⟩ := trodAll_one hA
  obtain ⟨rfl, rfl⟩ := trodVars_none hV
  obtain ⟨cs, rfl, _⟩ := okWide_struct Try.underlying24 (hval 0 24 v0 rfl rfl)
  obtain ⟨fuel, hf⟩ := h0
  obtain ⟨s, _, hr⟩ := reads_tab (X := fun _ => False) (by simp) fuel _ _ hf
  have hrd := RD.of_cells ⟨cs, rfl⟩ hr
  refine (law_calls (blockLeast_spec (fun _ => none) ⟨s.1, s.2⟩) (W := W) (args := #[.agg cs]) rfl (fun i u x hu hx => ?_)).mono fun e W' ⟨he, hb⟩ => ?_
  · match i, hu, hx with
    | 0, hu, hx => simp at hu hx; subst hu hx; exact hrd
    | i + 1, hu, hx => simp at hu
  · subst he
    exact ⟨_, rfl, _, _, _, [], _, [], hW', trodAll_mk1 (shut_bool Try.underlying4 _), hback W' hb, rfl, hb.frame _, fun h => by cases h⟩

theorem blockLeast_holds : Rows.BlockLeastSaid :=
  OpenClaim.holds_of_wide 3 Try.f3 rfl rfl rfl rfl rfl rfl rfl ⟨rfl, rfl, rfl, rfl, rfl⟩ rfl rfl rfl rfl rfl (by kernel_rfl) Try.func3 (by kernel_rfl)
    (of_decide_eq_true (by kernel_rfl)) (by unfold Func.isWrapper; first | (rw [if_pos (by decide +kernel)]; kernel_rfl) | (rw [if_neg (by decide +kernel)]; exact ⟨rfl, rfl⟩))
    (fun os started H enc _ => blockLeast_lifted os started H enc)
#print axioms blockLeast_holds
end Go.Proofs.Ytoikggboakojlaa
