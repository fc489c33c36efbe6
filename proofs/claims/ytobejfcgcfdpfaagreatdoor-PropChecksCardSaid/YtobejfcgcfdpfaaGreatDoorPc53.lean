/- Parts. -/
import Derived.Test.YtobejfcgcfdpfaaGreatDoorPc52
set_option linter.unusedSimpArgs false
set_option linter.unusedVariables false
open Go.Proofs.Tryz
namespace Go.Proofs.YtobejfcgcfdpfaaGreatDoor
open Go.Av Go.ChangeShapes Go.WideShapes Go.ChangeAt Go.RowKit
theorem ahh:OpenClaim.wfByText (c:=Rows.propChecksRow) (s:=OpenSpec.ofChange Rows.propChecksSpec)=true:=ah
theorem ag8:prog.mainIs=some (Rows.propChecksCard.stood.harness.1,Rows.propChecksCard.stood.harness.2.toList):=ah
theorem ag7:true=prog.looks []:=ah
theorem agq:false=OpenClaim.goesBy Rows.propChecksRow prog:=ah
theorem aha:prog.funcNamed "signalcabin/signalcabinlaw.PropChecks" = some 3:=by kernel_rfl
theorem ahf:([9,9].all fun u=>!prog.wantsStandIn u)=true:=ah
