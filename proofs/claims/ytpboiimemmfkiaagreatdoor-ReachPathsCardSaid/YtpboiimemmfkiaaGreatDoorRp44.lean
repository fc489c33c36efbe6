/-
  Texts that belong together,in one file: L36g.
-/
import Derived.Test.YtpboiimemmfkiaaGreatDoorRp43
import Derived.Test.YtpboiimemmfkiaaGreatDoorCards
import Derived.Test.YtpboiimemmfkiaaGreatDoorTie
import Derived.ChangeSame
import Derived.ChangeVars
import Derived.ChangeMaps5
import Derived.JoinedOf
import Derived.LaidMore
import Derived.LaidLaws
import Derived.LaidHandle
import Derived.Lay
set_option linter.unusedSimpArgs false
set_option linter.unusedVariables false
namespace Go.Proofs.YtpboiimemmfkiaaGreatDoor
open Go.Av Go.ChangeShapes Go.WideShapes Go.ChangeAt Go.RowKit
theorem rpaths_w:OpenClaim.wfByText (c:=Rows.reachPathsRow) (s:=OpenSpec.ofChange Rows.reachPathsSpec)=true:=by kernel_rfl
theorem rpaths_main:Tryz.prog.mainIs=some (Rows.reachPathsCard.stood.harness.1,Rows.reachPathsCard.stood.harness.2.toList):=by kernel_rfl
theorem rpaths_looks:true=Tryz.prog.looks []:=by kernel_rfl
theorem rpaths_goes:false=OpenClaim.goesBy Rows.reachPathsRow Tryz.prog:=by kernel_rfl
theorem rpaths_named:Tryz.prog.funcNamed "signalcabin/signalcabinkeep.ReachPaths" = some 7:=by kernel_rfl
theorem rpaths_stand:([9,3].all fun u=>!Tryz.prog.wantsStandIn u)=true:=by kernel_rfl
end Go.Proofs.YtpboiimemmfkiaaGreatDoor
