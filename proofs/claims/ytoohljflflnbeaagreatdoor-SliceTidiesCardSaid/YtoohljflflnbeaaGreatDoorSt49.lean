/- Parts. -/
import Derived.Test.YtoohljflflnbeaaGreatDoorSt48
set_option linter.unusedSimpArgs false
set_option linter.unusedVariables false
open Go.Proofs.Tryz
namespace Go.Proofs.YtoohljflflnbeaaGreatDoor
open Go.Av Go.ChangeShapes Go.WideShapes Go.ChangeAt Go.RowKit
theorem YB:OpenClaim.wfByText (c:=Rows.sliceTidiesRow) (s:=OpenSpec.ofChange Rows.sliceTidiesSpec)=true:=ag
theorem Ys:prog.mainIs=some (Rows.sliceTidiesCard.stood.harness.1,Rows.sliceTidiesCard.stood.harness.2.toList):=ag
theorem Yr:true=prog.looks []:=ag
theorem XH:false=OpenClaim.goesBy Rows.sliceTidiesRow prog:=ag
theorem Yu:prog.funcNamed "signalcabin/signalcabinlaw.SliceTidies" = some 8:=by kernel_rfl
theorem Yz:([9].all fun u=>!prog.wantsStandIn u)=true:=ag
