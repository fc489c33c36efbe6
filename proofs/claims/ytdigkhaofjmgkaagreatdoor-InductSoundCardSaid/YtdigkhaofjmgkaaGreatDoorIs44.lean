/- Parts. -/
import Derived.Test.YtdigkhaofjmgkaaGreatDoorIs43
set_option linter.unusedSimpArgs false
set_option linter.unusedVariables false
open Go.Proofs.Tryz
namespace Go.Proofs.YtdigkhaofjmgkaaGreatDoor
open Go.Av Go.ChangeShapes Go.WideShapes Go.ChangeAt Go.RowKit
theorem Sn:OpenClaim.wfByText (c:=Rows.inductSoundRow) (s:=OpenSpec.ofChange Rows.inductSoundSpec)=true:=by kernel_rfl
theorem Sg:prog.mainIs=some (Rows.inductSoundCard.stood.harness.1,Rows.inductSoundCard.stood.harness.2.toList):=by kernel_rfl
theorem Sf:true=prog.looks []:=by kernel_rfl
theorem aei:false=OpenClaim.goesBy Rows.inductSoundRow prog:=by kernel_rfl
theorem Si:prog.funcNamed "signalcabin/signalcabinkeep.InductSound" = some 10:=by kernel_rfl
theorem Sl:([9,9,3].all fun u=>!prog.wantsStandIn u)=true:=by kernel_rfl
