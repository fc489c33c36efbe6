/-
  Texts that belong together,in one file: L35h.
-/
import Derived.Test.YtpboiimemmfkiaaGreatDoorRt42
import Derived.Test.YtpboiimemmfkiaaGreatDoorCards
import Derived.Test.YtpboiimemmfkiaaGreatDoorTie
import Derived.ChangeSame
import Derived.ChangeVars
import Derived.ChangeMaps5
import Derived.JoinedOf
import Derived.LaidMore
import Derived.LaidLaws
import Derived.LaidHandle
import Derived.Lay
set_option linter.unusedSimpArgs false
set_option linter.unusedVariables false
namespace Go.Proofs.YtpboiimemmfkiaaGreatDoor
open Go.Av Go.ChangeShapes Go.WideShapes Go.ChangeAt Go.RowKit
set_option maxRecDepth 100000 in
theorem rtarski_closed:joinedFacts Tryz.prog 10 Tryz.f10 Rows.reachTarskiSpec Rows.reachTarskiRow=true:=(Bool.and_eq_true _ _).mpr ⟨(Bool.and_eq_true _ _).mpr ⟨(Bool.and_eq_true _ _).mpr ⟨(Bool.and_eq_true _ _).mpr ⟨(Bool.and_eq_true _ _).mpr ⟨(Bool.and_eq_true _ _).mpr ⟨(Bool.and_eq_true _ _).mpr ⟨(Bool.and_eq_true _ _).mpr ⟨(Bool.and_eq_true _ _).mpr ⟨(Bool.and_eq_true _ _).mpr ⟨(Bool.and_eq_true _ _).mpr ⟨(Bool.and_eq_true _ _).mpr ⟨(Bool.and_eq_true _ _).mpr ⟨(Bool.and_eq_true _ _).mpr ⟨(Bool.and_eq_true _ _).mpr ⟨(Bool.and_eq_true _ _).mpr ⟨(Bool.and_eq_true _ _).mpr ⟨(Bool.and_eq_true _ _).mpr ⟨(Bool.and_eq_true _ _).mpr ⟨(Bool.and_eq_true _ _).mpr ⟨(Bool.and_eq_true _ _).mpr ⟨(Bool.and_eq_true _ _).mpr ⟨(Bool.and_eq_true _ _).mpr ⟨(Bool.and_eq_true _ _).mpr ⟨(Bool.and_eq_true _ _).mpr ⟨(Bool.and_eq_true _ _).mpr ⟨(Bool.and_eq_true _ _).mpr ⟨(Bool.and_eq_true _ _).mpr ⟨(Bool.and_eq_true _ _).mpr ⟨(Bool.and_eq_true _ _).mpr ⟨(Bool.and_eq_true _ _).mpr ⟨rtarski_j0,rtarski_j1⟩,rtarski_j2⟩,rtarski_j3⟩,rtarski_j4⟩,rtarski_j5⟩,rtarski_j6⟩,rtarski_j7⟩,rtarski_j8⟩,rtarski_j9⟩,rtarski_j10⟩,rtarski_j11⟩,rtarski_j12⟩,rtarski_j13⟩,rtarski_j14⟩,rtarski_j15⟩,rtarski_j16⟩,rtarski_j17⟩,rtarski_j18⟩,rtarski_j19⟩,rtarski_j20⟩,rtarski_j21⟩,rtarski_j22⟩,rtarski_j23⟩,rtarski_j24⟩,rtarski_j25⟩,rtarski_j26⟩,rtarski_j27⟩,rtarski_j28⟩,rtarski_j29⟩,rtarski_j30⟩,rtarski_j31⟩
theorem rtarski_holds:Rows.ReachTarskiSaid:=
 OpenClaim.holds_of_wide 10 Tryz.f10 rfl rfl rfl rfl rfl rfl rfl ⟨rfl,rfl,rfl,rfl,rfl⟩ rfl rfl rfl rfl rfl (by kernel_rfl) Tryz.func10 rtarski_closed
  (of_decide_eq_true (by kernel_rfl)) (by unfold Func.isWrapper;first | (rw [if_pos (by decide +kernel)];kernel_rfl) | (rw [if_neg (by decide +kernel)];exact ⟨rfl,rfl⟩))
  (fun os started H enc _=>rtarski_lifted os started H enc)
end Go.Proofs.YtpboiimemmfkiaaGreatDoor
