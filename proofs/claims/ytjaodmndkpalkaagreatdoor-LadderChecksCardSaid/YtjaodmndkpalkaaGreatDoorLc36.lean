/-
  Texts that belong together, in one file: L28h.
-/
import Derived.Test.YtjaodmndkpalkaaGreatDoorLc35
import Derived.Test.YtjaodmndkpalkaaGreatDoorCards
import Derived.Test.YtjaodmndkpalkaaGreatDoorTie
import Derived.ChangeSame
import Derived.ChangeVars
import Derived.ChangeMaps5
import Derived.JoinedOf
import Derived.LaidMore
import Derived.LaidLaws
import Derived.LaidHandle
import Derived.Lay
set_option linter.unusedSimpArgs false
set_option linter.unusedVariables false
namespace Go.Proofs.YtjaodmndkpalkaaGreatDoor
open Go.Av Go.ChangeShapes Go.WideShapes Go.ChangeAt Go.RowKit
set_option maxRecDepth 100000 in
theorem ldchecks_closed : joinedFacts Tryz.prog 5 Tryz.f5 Rows.ladderChecksSpec Rows.ladderChecksRow = true := (Bool.and_eq_true _ _).mpr ⟨(Bool.and_eq_true _ _).mpr ⟨(Bool.and_eq_true _ _).mpr ⟨(Bool.and_eq_true _ _).mpr ⟨(Bool.and_eq_true _ _).mpr ⟨(Bool.and_eq_true _ _).mpr ⟨(Bool.and_eq_true _ _).mpr ⟨(Bool.and_eq_true _ _).mpr ⟨(Bool.and_eq_true _ _).mpr ⟨(Bool.and_eq_true _ _).mpr ⟨(Bool.and_eq_true _ _).mpr ⟨(Bool.and_eq_true _ _).mpr ⟨(Bool.and_eq_true _ _).mpr ⟨(Bool.and_eq_true _ _).mpr ⟨(Bool.and_eq_true _ _).mpr ⟨(Bool.and_eq_true _ _).mpr ⟨(Bool.and_eq_true _ _).mpr ⟨(Bool.and_eq_true _ _).mpr ⟨(Bool.and_eq_true _ _).mpr ⟨(Bool.and_eq_true _ _).mpr ⟨(Bool.and_eq_true _ _).mpr ⟨(Bool.and_eq_true _ _).mpr ⟨(Bool.and_eq_true _ _).mpr ⟨(Bool.and_eq_true _ _).mpr ⟨(Bool.and_eq_true _ _).mpr ⟨(Bool.and_eq_true _ _).mpr ⟨(Bool.and_eq_true _ _).mpr ⟨(Bool.and_eq_true _ _).mpr ⟨(Bool.and_eq_true _ _).mpr ⟨(Bool.and_eq_true _ _).mpr ⟨(Bool.and_eq_true _ _).mpr ⟨ldchecks_j0, ldchecks_j1⟩, ldchecks_j2⟩, ldchecks_j3⟩, ldchecks_j4⟩, ldchecks_j5⟩, ldchecks_j6⟩, ldchecks_j7⟩, ldchecks_j8⟩, ldchecks_j9⟩, ldchecks_j10⟩, ldchecks_j11⟩, ldchecks_j12⟩, ldchecks_j13⟩, ldchecks_j14⟩, ldchecks_j15⟩, ldchecks_j16⟩, ldchecks_j17⟩, ldchecks_j18⟩, ldchecks_j19⟩, ldchecks_j20⟩, ldchecks_j21⟩, ldchecks_j22⟩, ldchecks_j23⟩, ldchecks_j24⟩, ldchecks_j25⟩, ldchecks_j26⟩, ldchecks_j27⟩, ldchecks_j28⟩, ldchecks_j29⟩, ldchecks_j30⟩, ldchecks_j31⟩
theorem ldchecks_holds : Rows.LadderChecksSaid :=
 OpenClaim.holds_of_wide 5 Tryz.f5 rfl rfl rfl rfl rfl rfl rfl ⟨rfl, rfl, rfl, rfl, rfl⟩ rfl rfl rfl rfl rfl (by kernel_rfl) Tryz.func5 ldchecks_closed
  (of_decide_eq_true (by kernel_rfl)) (by unfold Func.isWrapper; first | (rw [if_pos (by decide +kernel)]; kernel_rfl) | (rw [if_neg (by decide +kernel)]; exact ⟨rfl, rfl⟩))
  (fun os started H enc _ => ldchecks_lifted os started H enc)
end Go.Proofs.YtjaodmndkpalkaaGreatDoor
