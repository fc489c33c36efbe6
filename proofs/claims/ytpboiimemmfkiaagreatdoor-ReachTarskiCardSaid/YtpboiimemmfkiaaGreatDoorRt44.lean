/-
  Texts that belong together,in one file: L35g.
-/
import Derived.Test.YtpboiimemmfkiaaGreatDoorRt43
import Derived.Test.YtpboiimemmfkiaaGreatDoorCards
import Derived.Test.YtpboiimemmfkiaaGreatDoorTie
import Derived.ChangeSame
import Derived.ChangeVars
import Derived.ChangeMaps5
import Derived.JoinedOf
import Derived.LaidMore
import Derived.LaidLaws
import Derived.LaidHandle
import Derived.Lay
set_option linter.unusedSimpArgs false
set_option linter.unusedVariables false
namespace Go.Proofs.YtpboiimemmfkiaaGreatDoor
open Go.Av Go.ChangeShapes Go.WideShapes Go.ChangeAt Go.RowKit
theorem rtarski_w:OpenClaim.wfByText (c:=Rows.reachTarskiRow) (s:=OpenSpec.ofChange Rows.reachTarskiSpec)=true:=by kernel_rfl
theorem rtarski_main:Tryz.prog.mainIs=some (Rows.reachTarskiCard.stood.harness.1,Rows.reachTarskiCard.stood.harness.2.toList):=by kernel_rfl
theorem rtarski_looks:true=Tryz.prog.looks []:=by kernel_rfl
theorem rtarski_goes:false=OpenClaim.goesBy Rows.reachTarskiRow Tryz.prog:=by kernel_rfl
theorem rtarski_named:Tryz.prog.funcNamed "signalcabin/signalcabinkeep.ReachTarski" = some 10:=by kernel_rfl
theorem rtarski_stand:([9,67].all fun u=>!Tryz.prog.wantsStandIn u)=true:=by kernel_rfl
end Go.Proofs.YtpboiimemmfkiaaGreatDoor
