/- Parts. -/
import Derived.Test.YtdigkhaofjmgkaaGreatDoorFx51
set_option linter.unusedSimpArgs false
set_option linter.unusedVariables false
open Go.Proofs.Tryz
namespace Go.Proofs.YtdigkhaofjmgkaaGreatDoor
open Go.Av Go.ChangeShapes Go.WideShapes Go.ChangeAt Go.RowKit
theorem X0:OpenClaim.wfByText (c:=Rows.reachFixedRow) (s:=OpenSpec.ofChange Rows.reachFixedSpec)=true:=by kernel_rfl
theorem XR:prog.mainIs=some (Rows.reachFixedCard.stood.harness.1,Rows.reachFixedCard.stood.harness.2.toList):=by kernel_rfl
theorem XQ:true=prog.looks []:=by kernel_rfl
theorem W9:false=OpenClaim.goesBy Rows.reachFixedRow prog:=by kernel_rfl
theorem XT:prog.funcNamed "signalcabin/signalcabinlaw.ReachFixed" = some 5:=by kernel_rfl
theorem XY:([9,55].all fun u=>!prog.wantsStandIn u)=true:=by kernel_rfl
