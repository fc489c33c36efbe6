/-
  Texts that belong together,in one file: L37g.
-/
import Derived.Test.YtdigkhaofjmgkaaGreatDoorMk49
set_option linter.unusedSimpArgs false
set_option linter.unusedVariables false
namespace Go.Proofs.YtdigkhaofjmgkaaGreatDoor
open Go.Av Go.ChangeShapes Go.WideShapes Go.ChangeAt Go.RowKit
theorem Ub:OpenClaim.wfByText (c:=Rows.machineMakesRow) (s:=OpenSpec.ofChange Rows.machineMakesSpec)=true:=by kernel_rfl
theorem T2:Tryz.prog.mainIs=some (Rows.machineMakesCard.stood.harness.1,Rows.machineMakesCard.stood.harness.2.toList):=by kernel_rfl
theorem T1:true=Tryz.prog.looks []:=by kernel_rfl
theorem Tk:false=OpenClaim.goesBy Rows.machineMakesRow Tryz.prog:=by kernel_rfl
theorem T4:Tryz.prog.funcNamed "signalcabin/signalcabinlaw.MachineMakes" = some 3:=by kernel_rfl
theorem T9:([9].all fun u=>!Tryz.prog.wantsStandIn u)=true:=by kernel_rfl
end Go.Proofs.YtdigkhaofjmgkaaGreatDoor
