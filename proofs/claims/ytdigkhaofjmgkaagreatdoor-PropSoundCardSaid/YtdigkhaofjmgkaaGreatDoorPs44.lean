/-
  Texts that belong together,in one file: L40g.
-/
import Derived.Test.YtdigkhaofjmgkaaGreatDoorPs43
set_option linter.unusedSimpArgs false
set_option linter.unusedVariables false
namespace Go.Proofs.YtdigkhaofjmgkaaGreatDoor
open Go.Av Go.ChangeShapes Go.WideShapes Go.ChangeAt Go.RowKit
theorem Uf:OpenClaim.wfByText (c:=Rows.propSoundRow) (s:=OpenSpec.ofChange Rows.propSoundSpec)=true:=by kernel_rfl
theorem T8:Tryz.prog.mainIs=some (Rows.propSoundCard.stood.harness.1,Rows.propSoundCard.stood.harness.2.toList):=by kernel_rfl
theorem T7:true=Tryz.prog.looks []:=by kernel_rfl
theorem Ts:false=OpenClaim.goesBy Rows.propSoundRow Tryz.prog:=by kernel_rfl
theorem Ua:Tryz.prog.funcNamed "signalcabin/signalcabinkeep.PropSound" = some 9:=by kernel_rfl
theorem Ud:([9,9,46].all fun u=>!Tryz.prog.wantsStandIn u)=true:=by kernel_rfl
end Go.Proofs.YtdigkhaofjmgkaaGreatDoor
