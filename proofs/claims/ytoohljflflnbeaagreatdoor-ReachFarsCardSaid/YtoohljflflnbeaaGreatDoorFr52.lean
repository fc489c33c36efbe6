/- Parts. -/
import Derived.Test.YtoohljflflnbeaaGreatDoorFr51
set_option linter.unusedSimpArgs false
set_option linter.unusedVariables false
open Go.Proofs.Tryz
namespace Go.Proofs.YtoohljflflnbeaaGreatDoor
open Go.Av Go.ChangeShapes Go.WideShapes Go.ChangeAt Go.RowKit
theorem af1:OpenClaim.wfByText (c:=Rows.reachFarsRow) (s:=OpenSpec.ofChange Rows.reachFarsSpec)=true:=ah
theorem afS:prog.mainIs=some (Rows.reachFarsCard.stood.harness.1,Rows.reachFarsCard.stood.harness.2.toList):=ah
theorem afR:true=prog.looks []:=ah
theorem afa:false=OpenClaim.goesBy Rows.reachFarsRow prog:=ah
theorem afU:prog.funcNamed "signalcabin/signalcabinlaw.ReachFars" = some 10:=by kernel_rfl
theorem afZ:([9,3].all fun u=>!prog.wantsStandIn u)=true:=ah
