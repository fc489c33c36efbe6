/- Parts. -/
import Derived.Test.YtoohljflflnbeaaGreatDoorBo51
set_option linter.unusedSimpArgs false
set_option linter.unusedVariables false
open Go.Proofs.Tryz
namespace Go.Proofs.YtoohljflflnbeaaGreatDoor
open Go.Av Go.ChangeShapes Go.WideShapes Go.ChangeAt Go.RowKit
theorem Vn:OpenClaim.wfByText (c:=Rows.blockOfsRow) (s:=OpenSpec.ofChange Rows.blockOfsSpec)=true:=ah
theorem Ve:prog.mainIs=some (Rows.blockOfsCard.stood.harness.1,Rows.blockOfsCard.stood.harness.2.toList):=ah
theorem Vd:true=prog.looks []:=ah
theorem Uv:false=OpenClaim.goesBy Rows.blockOfsRow prog:=ah
theorem Vg:prog.funcNamed "signalcabin/signalcabinlaw.BlockOfs" = some 7:=by kernel_rfl
theorem Vl:([9,58].all fun u=>!prog.wantsStandIn u)=true:=ah
