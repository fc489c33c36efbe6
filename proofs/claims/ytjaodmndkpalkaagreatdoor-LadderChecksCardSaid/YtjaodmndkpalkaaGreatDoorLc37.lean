/-
  Texts that belong together, in one file: L28g.
-/
import Derived.Test.YtjaodmndkpalkaaGreatDoorLc36
import Derived.Test.YtjaodmndkpalkaaGreatDoorCards
import Derived.Test.YtjaodmndkpalkaaGreatDoorTie
import Derived.ChangeSame
import Derived.ChangeVars
import Derived.ChangeMaps5
import Derived.JoinedOf
import Derived.LaidMore
import Derived.LaidLaws
import Derived.LaidHandle
import Derived.Lay
set_option linter.unusedSimpArgs false
set_option linter.unusedVariables false
namespace Go.Proofs.YtjaodmndkpalkaaGreatDoor
open Go.Av Go.ChangeShapes Go.WideShapes Go.ChangeAt Go.RowKit
theorem ldchecks_w : OpenClaim.wfByText (c := Rows.ladderChecksRow) (s := OpenSpec.ofChange Rows.ladderChecksSpec) = true := by kernel_rfl
theorem ldchecks_main : Tryz.prog.mainIs = some (Rows.ladderChecksCard.stood.harness.1, Rows.ladderChecksCard.stood.harness.2.toList) := by kernel_rfl
theorem ldchecks_looks : true = Tryz.prog.looks [] := by kernel_rfl
theorem ldchecks_goes : false = OpenClaim.goesBy Rows.ladderChecksRow Tryz.prog := by kernel_rfl
theorem ldchecks_named : Tryz.prog.funcNamed "signalcabin/signalcabinlaw.LadderChecks" = some 5 := by kernel_rfl
theorem ldchecks_stand : ([59].all fun u => !Tryz.prog.wantsStandIn u) = true := by kernel_rfl
end Go.Proofs.YtjaodmndkpalkaaGreatDoor
