/-
  Texts that belong together, in one file: L30g.
-/
import Derived.Test.YthnjfeielmbfkaaGreatDoorLp48
import Derived.Test.YthnjfeielmbfkaaGreatDoorCards
import Derived.Test.YthnjfeielmbfkaaGreatDoorTie
import Derived.ChangeSame
import Derived.ChangeVars
import Derived.ChangeMaps5
import Derived.JoinedOf
import Derived.LaidMore
import Derived.LaidLaws
import Derived.LaidHandle
import Derived.Lay
set_option linter.unusedSimpArgs false
set_option linter.unusedVariables false
namespace Go.Proofs.YthnjfeielmbfkaaGreatDoor
open Go.Av Go.ChangeShapes Go.WideShapes Go.ChangeAt Go.RowKit
theorem ldparses_w : OpenClaim.wfByText (c := Rows.ladderParsesRow) (s := OpenSpec.ofChange Rows.ladderParsesSpec) = true := by kernel_rfl
theorem ldparses_main : Tryz.prog.mainIs = some (Rows.ladderParsesCard.stood.harness.1, Rows.ladderParsesCard.stood.harness.2.toList) := by kernel_rfl
theorem ldparses_looks : true = Tryz.prog.looks [] := by kernel_rfl
theorem ldparses_goes : false = OpenClaim.goesBy Rows.ladderParsesRow Tryz.prog := by kernel_rfl
theorem ldparses_named : Tryz.prog.funcNamed "signalcabin/signalcabinlaw.LadderParses" = some 8 := by kernel_rfl
theorem ldparses_stand : ([9].all fun u => !Tryz.prog.wantsStandIn u) = true := by kernel_rfl
end Go.Proofs.YthnjfeielmbfkaaGreatDoor
