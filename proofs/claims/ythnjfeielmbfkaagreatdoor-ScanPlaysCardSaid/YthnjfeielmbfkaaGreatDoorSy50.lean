/-
  Texts that belong together,in one file: L33h.
-/
import Derived.Test.YthnjfeielmbfkaaGreatDoorSy49
import Derived.Test.YthnjfeielmbfkaaGreatDoorCards
import Derived.Test.YthnjfeielmbfkaaGreatDoorTie
import Derived.ChangeSame
import Derived.ChangeVars
import Derived.ChangeMaps5
import Derived.JoinedOf
import Derived.LaidMore
import Derived.LaidLaws
import Derived.LaidHandle
import Derived.Lay
set_option linter.unusedSimpArgs false
set_option linter.unusedVariables false
namespace Go.Proofs.YthnjfeielmbfkaaGreatDoor
open Go.Av Go.ChangeShapes Go.WideShapes Go.ChangeAt Go.RowKit
set_option maxRecDepth 100000 in
theorem splays_closed:joinedFacts Tryz.prog 7 Tryz.f7 Rows.scanPlaysSpec Rows.scanPlaysRow=true:=(Bool.and_eq_true _ _).mpr ⟨(Bool.and_eq_true _ _).mpr ⟨(Bool.and_eq_true _ _).mpr ⟨(Bool.and_eq_true _ _).mpr ⟨(Bool.and_eq_true _ _).mpr ⟨(Bool.and_eq_true _ _).mpr ⟨(Bool.and_eq_true _ _).mpr ⟨(Bool.and_eq_true _ _).mpr ⟨(Bool.and_eq_true _ _).mpr ⟨(Bool.and_eq_true _ _).mpr ⟨(Bool.and_eq_true _ _).mpr ⟨(Bool.and_eq_true _ _).mpr ⟨(Bool.and_eq_true _ _).mpr ⟨(Bool.and_eq_true _ _).mpr ⟨(Bool.and_eq_true _ _).mpr ⟨(Bool.and_eq_true _ _).mpr ⟨(Bool.and_eq_true _ _).mpr ⟨(Bool.and_eq_true _ _).mpr ⟨(Bool.and_eq_true _ _).mpr ⟨(Bool.and_eq_true _ _).mpr ⟨(Bool.and_eq_true _ _).mpr ⟨(Bool.and_eq_true _ _).mpr ⟨(Bool.and_eq_true _ _).mpr ⟨(Bool.and_eq_true _ _).mpr ⟨(Bool.and_eq_true _ _).mpr ⟨(Bool.and_eq_true _ _).mpr ⟨(Bool.and_eq_true _ _).mpr ⟨(Bool.and_eq_true _ _).mpr ⟨(Bool.and_eq_true _ _).mpr ⟨(Bool.and_eq_true _ _).mpr ⟨(Bool.and_eq_true _ _).mpr ⟨splays_j0,splays_j1⟩,splays_j2⟩,splays_j3⟩,splays_j4⟩,splays_j5⟩,splays_j6⟩,splays_j7⟩,splays_j8⟩,splays_j9⟩,splays_j10⟩,splays_j11⟩,splays_j12⟩,splays_j13⟩,splays_j14⟩,splays_j15⟩,splays_j16⟩,splays_j17⟩,splays_j18⟩,splays_j19⟩,splays_j20⟩,splays_j21⟩,splays_j22⟩,splays_j23⟩,splays_j24⟩,splays_j25⟩,splays_j26⟩,splays_j27⟩,splays_j28⟩,splays_j29⟩,splays_j30⟩,splays_j31⟩
theorem splays_holds:Rows.ScanPlaysSaid:=
 OpenClaim.holds_of_wide 7 Tryz.f7 rfl rfl rfl rfl rfl rfl rfl ⟨rfl,rfl,rfl,rfl,rfl⟩ rfl rfl rfl rfl rfl (by kernel_rfl) Tryz.func7 splays_closed
  (of_decide_eq_true (by kernel_rfl)) (by unfold Func.isWrapper;first | (rw [if_pos (by decide +kernel)];kernel_rfl) | (rw [if_neg (by decide +kernel)];exact ⟨rfl,rfl⟩))
  (fun os started H enc _=>splays_lifted os started H enc)
end Go.Proofs.YthnjfeielmbfkaaGreatDoor
