/-
  Tables, as they are read.
-/
import Derived.Test.YtoikggboakojlaaDoorF5
import Derived.Test.YtoikggboakojlaaDoorAv22
namespace Go.Proofs.YtoikggboakojlaaDoor
open Go.Av Go.ChangeShapes Go.WideShapes Go.ChangeAt Go.RowKit
set_option linter.unusedSimpArgs false
set_option linter.unusedVariables false
attribute [local simp] avOf offAll offOps kindOf Op.operands Call.operands okDst wantedS gval isCall isWr lenA descIs TypeDesc.isSlice TypeDesc.isStr binA isSh binI fit64 indexA elemSz asValD asVal TypeDesc.isAgg fieldAddrA fieldOf fieldA valCells AV.one D.one zeroD catD newsOf unA eqv nilBin constOf nilFits nilA extractA makeIfaceA indexStrA sliceA bound storeBox storeSl TypeDesc.isBool TypeDesc.isIface nilCheckA convA Value.oneCell' buildA placesA fillA makeEls exK preF freezeL AV.rows AV.rows.go plainS plainL appK appOps fromRow stepF stepD stepL rd wr evalL evalP putd mkFn mkIfc

theorem law_own : ownKnob Tryd.prog.godebug = none := by kernel_rfl
theorem law_laidOut : laidOutB Tryd.prog = true := by kernel_rfl
theorem cells_int : Tryd.prog.cellsOf 3 = 1 := by kernel_rfl
theorem cells_ints : Tryd.prog.cellsOf 32 = 1 := by kernel_rfl
theorem cells_rows : Tryd.prog.cellsOf 23 = 1 := by kernel_rfl
theorem cells_tab : Tryd.prog.cellsOf 25 = 2 := by kernel_rfl

section
variable {H : Type} {enc : TypeId × Value → H} {w : World} {base : Nat} {spare : Nat → Bool} {held : Bool} {X : Nat → Prop}

theorem reads_ints (hX : ∀ b, ¬ X b) : ReadsAs enc Tryd.prog w base spare held X 32 (fun _ : List Int => True) (fun l => [dRow l]) := by
  intro fuel cs x h
  obtain ⟨l, _, hr⟩ := reads_slice Tryd.underlying32 cells_int (by omega) hX (reads_int Tryd.underlying3) fuel cs x h
  exact ⟨l, trivial, hr⟩
theorem reads_rows (hX : ∀ b, ¬ X b) : ReadsAs enc Tryd.prog w base spare held X 23 (fun _ : List (List Int) => True) (fun l => [dRows l]) := by
  intro fuel cs x h
  obtain ⟨l, _, hr⟩ := reads_slice Tryd.underlying23 cells_ints (by omega) hX (reads_ints hX) fuel cs x h
  exact ⟨l, trivial, hr⟩
theorem reads_tab (hX : ∀ b, ¬ X b) : ReadsAs enc Tryd.prog w base spare held X 25 (fun _ : List (List Int) × List (List Int) => True) (fun s => [dRows s.1, dRows s.2]) := by
  intro fuel cs x h
  obtain ⟨l, _, hr⟩ := reads_struct2 Tryd.underlying25 (by rw [cells_tab]; simp only [cells_rows]) rfl (by simp only [cells_rows]) (reads_rows hX) (reads_rows hX) fuel cs x h
  exact ⟨l, trivial, hr⟩
end

end Go.Proofs.YtoikggboakojlaaDoor
