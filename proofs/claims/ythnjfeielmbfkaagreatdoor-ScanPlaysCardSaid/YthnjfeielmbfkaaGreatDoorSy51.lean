/-
  Texts that belong together,in one file: L33g.
-/
import Derived.Test.YthnjfeielmbfkaaGreatDoorSy50
import Derived.Test.YthnjfeielmbfkaaGreatDoorCards
import Derived.Test.YthnjfeielmbfkaaGreatDoorTie
import Derived.ChangeSame
import Derived.ChangeVars
import Derived.ChangeMaps5
import Derived.JoinedOf
import Derived.LaidMore
import Derived.LaidLaws
import Derived.LaidHandle
import Derived.Lay
set_option linter.unusedSimpArgs false
set_option linter.unusedVariables false
namespace Go.Proofs.YthnjfeielmbfkaaGreatDoor
open Go.Av Go.ChangeShapes Go.WideShapes Go.ChangeAt Go.RowKit
theorem splays_w:OpenClaim.wfByText (c:=Rows.scanPlaysRow) (s:=OpenSpec.ofChange Rows.scanPlaysSpec)=true:=by kernel_rfl
theorem splays_main:Tryz.prog.mainIs=some (Rows.scanPlaysCard.stood.harness.1,Rows.scanPlaysCard.stood.harness.2.toList):=by kernel_rfl
theorem splays_looks:true=Tryz.prog.looks []:=by kernel_rfl
theorem splays_goes:false=OpenClaim.goesBy Rows.scanPlaysRow Tryz.prog:=by kernel_rfl
theorem splays_named:Tryz.prog.funcNamed "signalcabin/signalcabinlaw.ScanPlays" = some 7:=by kernel_rfl
theorem splays_stand:([9,25,4].all fun u=>!Tryz.prog.wantsStandIn u)=true:=by kernel_rfl
end Go.Proofs.YthnjfeielmbfkaaGreatDoor
