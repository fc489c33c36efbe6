/-
  Texts that belong together,in one file: L36h.
-/
import Derived.Test.YtpboiimemmfkiaaGreatDoorRp42
import Derived.Test.YtpboiimemmfkiaaGreatDoorCards
import Derived.Test.YtpboiimemmfkiaaGreatDoorTie
import Derived.ChangeSame
import Derived.ChangeVars
import Derived.ChangeMaps5
import Derived.JoinedOf
import Derived.LaidMore
import Derived.LaidLaws
import Derived.LaidHandle
import Derived.Lay
set_option linter.unusedSimpArgs false
set_option linter.unusedVariables false
namespace Go.Proofs.YtpboiimemmfkiaaGreatDoor
open Go.Av Go.ChangeShapes Go.WideShapes Go.ChangeAt Go.RowKit
set_option maxRecDepth 100000 in
theorem rpaths_closed:joinedFacts Tryz.prog 7 Tryz.f7 Rows.reachPathsSpec Rows.reachPathsRow=true:=(Bool.and_eq_true _ _).mpr ⟨(Bool.and_eq_true _ _).mpr ⟨(Bool.and_eq_true _ _).mpr ⟨(Bool.and_eq_true _ _).mpr ⟨(Bool.and_eq_true _ _).mpr ⟨(Bool.and_eq_true _ _).mpr ⟨(Bool.and_eq_true _ _).mpr ⟨(Bool.and_eq_true _ _).mpr ⟨(Bool.and_eq_true _ _).mpr ⟨(Bool.and_eq_true _ _).mpr ⟨(Bool.and_eq_true _ _).mpr ⟨(Bool.and_eq_true _ _).mpr ⟨(Bool.and_eq_true _ _).mpr ⟨(Bool.and_eq_true _ _).mpr ⟨(Bool.and_eq_true _ _).mpr ⟨(Bool.and_eq_true _ _).mpr ⟨(Bool.and_eq_true _ _).mpr ⟨(Bool.and_eq_true _ _).mpr ⟨(Bool.and_eq_true _ _).mpr ⟨(Bool.and_eq_true _ _).mpr ⟨(Bool.and_eq_true _ _).mpr ⟨(Bool.and_eq_true _ _).mpr ⟨(Bool.and_eq_true _ _).mpr ⟨(Bool.and_eq_true _ _).mpr ⟨(Bool.and_eq_true _ _).mpr ⟨(Bool.and_eq_true _ _).mpr ⟨(Bool.and_eq_true _ _).mpr ⟨(Bool.and_eq_true _ _).mpr ⟨(Bool.and_eq_true _ _).mpr ⟨(Bool.and_eq_true _ _).mpr ⟨(Bool.and_eq_true _ _).mpr ⟨rpaths_j0,rpaths_j1⟩,rpaths_j2⟩,rpaths_j3⟩,rpaths_j4⟩,rpaths_j5⟩,rpaths_j6⟩,rpaths_j7⟩,rpaths_j8⟩,rpaths_j9⟩,rpaths_j10⟩,rpaths_j11⟩,rpaths_j12⟩,rpaths_j13⟩,rpaths_j14⟩,rpaths_j15⟩,rpaths_j16⟩,rpaths_j17⟩,rpaths_j18⟩,rpaths_j19⟩,rpaths_j20⟩,rpaths_j21⟩,rpaths_j22⟩,rpaths_j23⟩,rpaths_j24⟩,rpaths_j25⟩,rpaths_j26⟩,rpaths_j27⟩,rpaths_j28⟩,rpaths_j29⟩,rpaths_j30⟩,rpaths_j31⟩
theorem rpaths_holds:Rows.ReachPathsSaid:=
 OpenClaim.holds_of_wide 7 Tryz.f7 rfl rfl rfl rfl rfl rfl rfl ⟨rfl,rfl,rfl,rfl,rfl⟩ rfl rfl rfl rfl rfl (by kernel_rfl) Tryz.func7 rpaths_closed
  (of_decide_eq_true (by kernel_rfl)) (by unfold Func.isWrapper;first | (rw [if_pos (by decide +kernel)];kernel_rfl) | (rw [if_neg (by decide +kernel)];exact ⟨rfl,rfl⟩))
  (fun os started H enc _=>rpaths_lifted os started H enc)
end Go.Proofs.YtpboiimemmfkiaaGreatDoor
