/-
  Texts that belong together, in one file: L31h.
-/
import Derived.Test.YthnjfeielmbfkaaGreatDoorSb39
import Derived.Test.YthnjfeielmbfkaaGreatDoorCards
import Derived.Test.YthnjfeielmbfkaaGreatDoorTie
import Derived.ChangeSame
import Derived.ChangeVars
import Derived.ChangeMaps5
import Derived.JoinedOf
import Derived.LaidMore
import Derived.LaidLaws
import Derived.LaidHandle
import Derived.Lay
set_option linter.unusedSimpArgs false
set_option linter.unusedVariables false
namespace Go.Proofs.YthnjfeielmbfkaaGreatDoor
open Go.Av Go.ChangeShapes Go.WideShapes Go.ChangeAt Go.RowKit
set_option maxRecDepth 100000 in
theorem sbounds_closed : joinedFacts Tryz.prog 6 Tryz.f6 Rows.scanBoundsSpec Rows.scanBoundsRow = true := (Bool.and_eq_true _ _).mpr ⟨(Bool.and_eq_true _ _).mpr ⟨(Bool.and_eq_true _ _).mpr ⟨(Bool.and_eq_true _ _).mpr ⟨(Bool.and_eq_true _ _).mpr ⟨(Bool.and_eq_true _ _).mpr ⟨(Bool.and_eq_true _ _).mpr ⟨(Bool.and_eq_true _ _).mpr ⟨(Bool.and_eq_true _ _).mpr ⟨(Bool.and_eq_true _ _).mpr ⟨(Bool.and_eq_true _ _).mpr ⟨(Bool.and_eq_true _ _).mpr ⟨(Bool.and_eq_true _ _).mpr ⟨(Bool.and_eq_true _ _).mpr ⟨(Bool.and_eq_true _ _).mpr ⟨(Bool.and_eq_true _ _).mpr ⟨(Bool.and_eq_true _ _).mpr ⟨(Bool.and_eq_true _ _).mpr ⟨(Bool.and_eq_true _ _).mpr ⟨(Bool.and_eq_true _ _).mpr ⟨(Bool.and_eq_true _ _).mpr ⟨(Bool.and_eq_true _ _).mpr ⟨(Bool.and_eq_true _ _).mpr ⟨(Bool.and_eq_true _ _).mpr ⟨(Bool.and_eq_true _ _).mpr ⟨(Bool.and_eq_true _ _).mpr ⟨(Bool.and_eq_true _ _).mpr ⟨(Bool.and_eq_true _ _).mpr ⟨(Bool.and_eq_true _ _).mpr ⟨(Bool.and_eq_true _ _).mpr ⟨(Bool.and_eq_true _ _).mpr ⟨sbounds_j0, sbounds_j1⟩, sbounds_j2⟩, sbounds_j3⟩, sbounds_j4⟩, sbounds_j5⟩, sbounds_j6⟩, sbounds_j7⟩, sbounds_j8⟩, sbounds_j9⟩, sbounds_j10⟩, sbounds_j11⟩, sbounds_j12⟩, sbounds_j13⟩, sbounds_j14⟩, sbounds_j15⟩, sbounds_j16⟩, sbounds_j17⟩, sbounds_j18⟩, sbounds_j19⟩, sbounds_j20⟩, sbounds_j21⟩, sbounds_j22⟩, sbounds_j23⟩, sbounds_j24⟩, sbounds_j25⟩, sbounds_j26⟩, sbounds_j27⟩, sbounds_j28⟩, sbounds_j29⟩, sbounds_j30⟩, sbounds_j31⟩
theorem sbounds_holds : Rows.ScanBoundsSaid :=
 OpenClaim.holds_of_wide 6 Tryz.f6 rfl rfl rfl rfl rfl rfl rfl ⟨rfl, rfl, rfl, rfl, rfl⟩ rfl rfl rfl rfl rfl (by kernel_rfl) Tryz.func6 sbounds_closed
  (of_decide_eq_true (by kernel_rfl)) (by unfold Func.isWrapper; first | (rw [if_pos (by decide +kernel)]; kernel_rfl) | (rw [if_neg (by decide +kernel)]; exact ⟨rfl, rfl⟩))
  (fun os started H enc _ => sbounds_lifted os started H enc)
end Go.Proofs.YthnjfeielmbfkaaGreatDoor
