/-
  Texts that belong together, in one file: L31g.
-/
import Derived.Test.YthnjfeielmbfkaaGreatDoorSb40
import Derived.Test.YthnjfeielmbfkaaGreatDoorCards
import Derived.Test.YthnjfeielmbfkaaGreatDoorTie
import Derived.ChangeSame
import Derived.ChangeVars
import Derived.ChangeMaps5
import Derived.JoinedOf
import Derived.LaidMore
import Derived.LaidLaws
import Derived.LaidHandle
import Derived.Lay
set_option linter.unusedSimpArgs false
set_option linter.unusedVariables false
namespace Go.Proofs.YthnjfeielmbfkaaGreatDoor
open Go.Av Go.ChangeShapes Go.WideShapes Go.ChangeAt Go.RowKit
theorem sbounds_w : OpenClaim.wfByText (c := Rows.scanBoundsRow) (s := OpenSpec.ofChange Rows.scanBoundsSpec) = true := by kernel_rfl
theorem sbounds_main : Tryz.prog.mainIs = some (Rows.scanBoundsCard.stood.harness.1, Rows.scanBoundsCard.stood.harness.2.toList) := by kernel_rfl
theorem sbounds_looks : true = Tryz.prog.looks [] := by kernel_rfl
theorem sbounds_goes : false = OpenClaim.goesBy Rows.scanBoundsRow Tryz.prog := by kernel_rfl
theorem sbounds_named : Tryz.prog.funcNamed "signalcabin/signalcabinkeep.ScanBounds" = some 6 := by kernel_rfl
theorem sbounds_stand : ([9, 25].all fun u => !Tryz.prog.wantsStandIn u) = true := by kernel_rfl
end Go.Proofs.YthnjfeielmbfkaaGreatDoor
