/-
  Texts that belong together, in one file: L29g.
-/
import Derived.Test.YtjaodmndkpalkaaGreatDoorLb41
import Derived.Test.YtjaodmndkpalkaaGreatDoorCards
import Derived.Test.YtjaodmndkpalkaaGreatDoorTie
import Derived.ChangeSame
import Derived.ChangeVars
import Derived.ChangeMaps5
import Derived.JoinedOf
import Derived.LaidMore
import Derived.LaidLaws
import Derived.LaidHandle
import Derived.Lay
set_option linter.unusedSimpArgs false
set_option linter.unusedVariables false
namespace Go.Proofs.YtjaodmndkpalkaaGreatDoor
open Go.Av Go.ChangeShapes Go.WideShapes Go.ChangeAt Go.RowKit
theorem ldback_w : OpenClaim.wfByText (c := Rows.ladderBackRow) (s := OpenSpec.ofChange Rows.ladderBackSpec) = true := by kernel_rfl
theorem ldback_main : Tryz.prog.mainIs = some (Rows.ladderBackCard.stood.harness.1, Rows.ladderBackCard.stood.harness.2.toList) := by kernel_rfl
theorem ldback_looks : true = Tryz.prog.looks [] := by kernel_rfl
theorem ldback_goes : false = OpenClaim.goesBy Rows.ladderBackRow Tryz.prog := by kernel_rfl
theorem ldback_named : Tryz.prog.funcNamed "signalcabin/signalcabinkeep.LadderBack" = some 8 := by kernel_rfl
theorem ldback_stand : ([9].all fun u => !Tryz.prog.wantsStandIn u) = true := by kernel_rfl
end Go.Proofs.YtjaodmndkpalkaaGreatDoor
