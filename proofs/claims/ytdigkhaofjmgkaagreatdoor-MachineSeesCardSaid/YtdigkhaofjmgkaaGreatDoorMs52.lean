/- Parts. -/
import Derived.Test.YtdigkhaofjmgkaaGreatDoorMs51
set_option linter.unusedSimpArgs false
set_option linter.unusedVariables false
open Go.Proofs.Tryz
namespace Go.Proofs.YtdigkhaofjmgkaaGreatDoor
open Go.Av Go.ChangeShapes Go.WideShapes Go.ChangeAt Go.RowKit
theorem UP:OpenClaim.wfByText (c:=Rows.machineSeesRow) (s:=OpenSpec.ofChange Rows.machineSeesSpec)=true:=by kernel_rfl
theorem UG:prog.mainIs=some (Rows.machineSeesCard.stood.harness.1,Rows.machineSeesCard.stood.harness.2.toList):=by kernel_rfl
theorem UF:true=prog.looks []:=by kernel_rfl
theorem TY:false=OpenClaim.goesBy Rows.machineSeesRow prog:=by kernel_rfl
theorem UI:prog.funcNamed "signalcabin/signalcabinlaw.MachineSees" = some 4:=by kernel_rfl
theorem UN:([9,3,3].all fun u=>!prog.wantsStandIn u)=true:=by kernel_rfl
