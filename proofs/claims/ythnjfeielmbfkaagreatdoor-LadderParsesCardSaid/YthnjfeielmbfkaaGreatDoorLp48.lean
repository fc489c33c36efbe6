/-
  Texts that belong together, in one file: L30h.
-/
import Derived.Test.YthnjfeielmbfkaaGreatDoorLp47
import Derived.Test.YthnjfeielmbfkaaGreatDoorCards
import Derived.Test.YthnjfeielmbfkaaGreatDoorTie
import Derived.ChangeSame
import Derived.ChangeVars
import Derived.ChangeMaps5
import Derived.JoinedOf
import Derived.LaidMore
import Derived.LaidLaws
import Derived.LaidHandle
import Derived.Lay
set_option linter.unusedSimpArgs false
set_option linter.unusedVariables false
namespace Go.Proofs.YthnjfeielmbfkaaGreatDoor
open Go.Av Go.ChangeShapes Go.WideShapes Go.ChangeAt Go.RowKit
set_option maxRecDepth 100000 in
theorem ldparses_closed : joinedFacts Tryz.prog 8 Tryz.f8 Rows.ladderParsesSpec Rows.ladderParsesRow = true := (Bool.and_eq_true _ _).mpr ⟨(Bool.and_eq_true _ _).mpr ⟨(Bool.and_eq_true _ _).mpr ⟨(Bool.and_eq_true _ _).mpr ⟨(Bool.and_eq_true _ _).mpr ⟨(Bool.and_eq_true _ _).mpr ⟨(Bool.and_eq_true _ _).mpr ⟨(Bool.and_eq_true _ _).mpr ⟨(Bool.and_eq_true _ _).mpr ⟨(Bool.and_eq_true _ _).mpr ⟨(Bool.and_eq_true _ _).mpr ⟨(Bool.and_eq_true _ _).mpr ⟨(Bool.and_eq_true _ _).mpr ⟨(Bool.and_eq_true _ _).mpr ⟨(Bool.and_eq_true _ _).mpr ⟨(Bool.and_eq_true _ _).mpr ⟨(Bool.and_eq_true _ _).mpr ⟨(Bool.and_eq_true _ _).mpr ⟨(Bool.and_eq_true _ _).mpr ⟨(Bool.and_eq_true _ _).mpr ⟨(Bool.and_eq_true _ _).mpr ⟨(Bool.and_eq_true _ _).mpr ⟨(Bool.and_eq_true _ _).mpr ⟨(Bool.and_eq_true _ _).mpr ⟨(Bool.and_eq_true _ _).mpr ⟨(Bool.and_eq_true _ _).mpr ⟨(Bool.and_eq_true _ _).mpr ⟨(Bool.and_eq_true _ _).mpr ⟨(Bool.and_eq_true _ _).mpr ⟨(Bool.and_eq_true _ _).mpr ⟨(Bool.and_eq_true _ _).mpr ⟨ldparses_j0, ldparses_j1⟩, ldparses_j2⟩, ldparses_j3⟩, ldparses_j4⟩, ldparses_j5⟩, ldparses_j6⟩, ldparses_j7⟩, ldparses_j8⟩, ldparses_j9⟩, ldparses_j10⟩, ldparses_j11⟩, ldparses_j12⟩, ldparses_j13⟩, ldparses_j14⟩, ldparses_j15⟩, ldparses_j16⟩, ldparses_j17⟩, ldparses_j18⟩, ldparses_j19⟩, ldparses_j20⟩, ldparses_j21⟩, ldparses_j22⟩, ldparses_j23⟩, ldparses_j24⟩, ldparses_j25⟩, ldparses_j26⟩, ldparses_j27⟩, ldparses_j28⟩, ldparses_j29⟩, ldparses_j30⟩, ldparses_j31⟩
theorem ldparses_holds : Rows.LadderParsesSaid :=
 OpenClaim.holds_of_wide 8 Tryz.f8 rfl rfl rfl rfl rfl rfl rfl ⟨rfl, rfl, rfl, rfl, rfl⟩ rfl rfl rfl rfl rfl (by kernel_rfl) Tryz.func8 ldparses_closed
  (of_decide_eq_true (by kernel_rfl)) (by unfold Func.isWrapper; first | (rw [if_pos (by decide +kernel)]; kernel_rfl) | (rw [if_neg (by decide +kernel)]; exact ⟨rfl, rfl⟩))
  (fun os started H enc _ => ldparses_lifted os started H enc)
end Go.Proofs.YthnjfeielmbfkaaGreatDoor
