/-
  Texts that belong together, in one file: L32g.
-/
import Derived.Test.YthnjfeielmbfkaaGreatDoorRv27
import Derived.Test.YthnjfeielmbfkaaGreatDoorCards
import Derived.Test.YthnjfeielmbfkaaGreatDoorTie
import Derived.ChangeSame
import Derived.ChangeVars
import Derived.ChangeMaps5
import Derived.JoinedOf
import Derived.LaidMore
import Derived.LaidLaws
import Derived.LaidHandle
import Derived.Lay
set_option linter.unusedSimpArgs false
set_option linter.unusedVariables false
namespace Go.Proofs.YthnjfeielmbfkaaGreatDoor
open Go.Av Go.ChangeShapes Go.WideShapes Go.ChangeAt Go.RowKit
theorem rserves_w : OpenClaim.wfByText (c := Rows.routeServesRow) (s := OpenSpec.ofChange Rows.routeServesSpec) = true := by kernel_rfl
theorem rserves_main : Tryz.prog.mainIs = some (Rows.routeServesCard.stood.harness.1, Rows.routeServesCard.stood.harness.2.toList) := by kernel_rfl
theorem rserves_looks : true = Tryz.prog.looks [] := by kernel_rfl
theorem rserves_goes : false = OpenClaim.goesBy Rows.routeServesRow Tryz.prog := by kernel_rfl
theorem rserves_named : Tryz.prog.funcNamed "signalcabin/signalcabinkeep.RouteServes" = some 3 := by kernel_rfl
theorem rserves_stand : ([24, 3, 25].all fun u => !Tryz.prog.wantsStandIn u) = true := by kernel_rfl
end Go.Proofs.YthnjfeielmbfkaaGreatDoor
