/- Parts. -/
import Derived.Test.YtdigkhaofjmgkaaGreatDoorPs43
set_option linter.unusedSimpArgs false
set_option linter.unusedVariables false
open Go.Proofs.Tryz
namespace Go.Proofs.YtdigkhaofjmgkaaGreatDoor
open Go.Av Go.ChangeShapes Go.WideShapes Go.ChangeAt Go.RowKit
theorem Ue:OpenClaim.wfByText (c:=Rows.propSoundRow) (s:=OpenSpec.ofChange Rows.propSoundSpec)=true:=by kernel_rfl
theorem T7:prog.mainIs=some (Rows.propSoundCard.stood.harness.1,Rows.propSoundCard.stood.harness.2.toList):=by kernel_rfl
theorem T6:true=prog.looks []:=by kernel_rfl
theorem Tr:false=OpenClaim.goesBy Rows.propSoundRow prog:=by kernel_rfl
theorem T9:prog.funcNamed "signalcabin/signalcabinkeep.PropSound" = some 9:=by kernel_rfl
theorem Uc:([9,9,46].all fun u=>!prog.wantsStandIn u)=true:=by kernel_rfl
