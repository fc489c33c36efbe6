/-
  Texts that belong together, in one file: L34g.
-/
import Derived.Test.YtpboiimemmfkiaaGreatDoorMp42
import Derived.Test.YtpboiimemmfkiaaGreatDoorCards
import Derived.Test.YtpboiimemmfkiaaGreatDoorTie
import Derived.ChangeSame
import Derived.ChangeVars
import Derived.ChangeMaps5
import Derived.JoinedOf
import Derived.LaidMore
import Derived.LaidLaws
import Derived.LaidHandle
import Derived.Lay
set_option linter.unusedSimpArgs false
set_option linter.unusedVariables false
namespace Go.Proofs.YtpboiimemmfkiaaGreatDoor
open Go.Av Go.ChangeShapes Go.WideShapes Go.ChangeAt Go.RowKit
theorem mplays_w : OpenClaim.wfByText (c := Rows.machinePlaysRow) (s := OpenSpec.ofChange Rows.machinePlaysSpec) = true := by kernel_rfl
theorem mplays_main : Tryz.prog.mainIs = some (Rows.machinePlaysCard.stood.harness.1, Rows.machinePlaysCard.stood.harness.2.toList) := by kernel_rfl
theorem mplays_looks : true = Tryz.prog.looks [] := by kernel_rfl
theorem mplays_goes : false = OpenClaim.goesBy Rows.machinePlaysRow Tryz.prog := by kernel_rfl
theorem mplays_named : Tryz.prog.funcNamed "signalcabin/signalcabinkeep.MachinePlays" = some 4 := by kernel_rfl
theorem mplays_stand : ([9, 51].all fun u => !Tryz.prog.wantsStandIn u) = true := by kernel_rfl
end Go.Proofs.YtpboiimemmfkiaaGreatDoor
