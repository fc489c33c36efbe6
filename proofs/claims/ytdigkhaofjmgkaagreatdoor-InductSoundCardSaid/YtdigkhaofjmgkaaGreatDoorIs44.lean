/-
  Texts that belong together,in one file: L41g.
-/
import Derived.Test.YtdigkhaofjmgkaaGreatDoorIs43
set_option linter.unusedSimpArgs false
set_option linter.unusedVariables false
namespace Go.Proofs.YtdigkhaofjmgkaaGreatDoor
open Go.Av Go.ChangeShapes Go.WideShapes Go.ChangeAt Go.RowKit
theorem Sp:OpenClaim.wfByText (c:=Rows.inductSoundRow) (s:=OpenSpec.ofChange Rows.inductSoundSpec)=true:=by kernel_rfl
theorem Sh:Tryz.prog.mainIs=some (Rows.inductSoundCard.stood.harness.1,Rows.inductSoundCard.stood.harness.2.toList):=by kernel_rfl
theorem Sg:true=Tryz.prog.looks []:=by kernel_rfl
theorem RB:false=OpenClaim.goesBy Rows.inductSoundRow Tryz.prog:=by kernel_rfl
theorem Sj:Tryz.prog.funcNamed "signalcabin/signalcabinkeep.InductSound" = some 10:=by kernel_rfl
theorem Sm:([9,9,3].all fun u=>!Tryz.prog.wantsStandIn u)=true:=by kernel_rfl
end Go.Proofs.YtdigkhaofjmgkaaGreatDoor
