/-
  Texts that belong together,in one file: L36f.
-/
import Derived.Test.YtpboiimemmfkiaaGreatDoorRp41
import Derived.Test.YtpboiimemmfkiaaGreatDoorCards
import Derived.Test.YtpboiimemmfkiaaGreatDoorTie
import Derived.ChangeSame
import Derived.ChangeVars
import Derived.ChangeMaps5
import Derived.JoinedOf
import Derived.LaidMore
import Derived.LaidLaws
import Derived.LaidHandle
import Derived.Lay
set_option linter.unusedSimpArgs false
set_option linter.unusedVariables false
namespace Go.Proofs.YtpboiimemmfkiaaGreatDoor
open Go.Av Go.ChangeShapes Go.WideShapes Go.ChangeAt Go.RowKit
def rpaths_J0 (P:Program) (f:FuncId) (fn:Func) (s:ChangeSpec) (c:OpenClaim):Bool:=c.wf (OpenSpec.ofChange s)
theorem rpaths_j0:rpaths_J0 Tryz.prog 7 Tryz.f7 Rows.reachPathsSpec Rows.reachPathsRow=true:=by kernel_rfl
def rpaths_J1 (P:Program) (f:FuncId) (fn:Func) (s:ChangeSpec) (c:OpenClaim):Bool:=laidOutB P
theorem rpaths_j1:rpaths_J1 Tryz.prog 7 Tryz.f7 Rows.reachPathsSpec Rows.reachPathsRow=true:=by kernel_rfl
def rpaths_J2 (P:Program) (f:FuncId) (fn:Func) (s:ChangeSpec) (c:OpenClaim):Bool:=mapsRowed P
theorem rpaths_j2:rpaths_J2 Tryz.prog 7 Tryz.f7 Rows.reachPathsSpec Rows.reachPathsRow=true:=by kernel_rfl
def rpaths_J3 (P:Program) (f:FuncId) (fn:Func) (s:ChangeSpec) (c:OpenClaim):Bool:=fn.params.all (P.readableRec ·)
theorem rpaths_j3:rpaths_J3 Tryz.prog 7 Tryz.f7 Rows.reachPathsSpec Rows.reachPathsRow=true:=by kernel_rfl
def rpaths_J4 (P:Program) (f:FuncId) (fn:Func) (s:ChangeSpec) (c:OpenClaim):Bool:=namedTie P c.named s.vars
theorem rpaths_j4:rpaths_J4 Tryz.prog 7 Tryz.f7 Rows.reachPathsSpec Rows.reachPathsRow=true:=by kernel_rfl
def rpaths_J5 (P:Program) (f:FuncId) (fn:Func) (s:ChangeSpec) (c:OpenClaim):Bool:=(c.stops == [])
theorem rpaths_j5:rpaths_J5 Tryz.prog 7 Tryz.f7 Rows.reachPathsSpec Rows.reachPathsRow=true:=by kernel_rfl
def rpaths_J6 (P:Program) (f:FuncId) (fn:Func) (s:ChangeSpec) (c:OpenClaim):Bool:=(P.stops == [])
theorem rpaths_j6:rpaths_J6 Tryz.prog 7 Tryz.f7 Rows.reachPathsSpec Rows.reachPathsRow=true:=by kernel_rfl
def rpaths_J7 (P:Program) (f:FuncId) (fn:Func) (s:ChangeSpec) (c:OpenClaim):Bool:=(c.knobs == [])
theorem rpaths_j7:rpaths_J7 Tryz.prog 7 Tryz.f7 Rows.reachPathsSpec Rows.reachPathsRow=true:=by kernel_rfl
def rpaths_J8 (P:Program) (f:FuncId) (fn:Func) (s:ChangeSpec) (c:OpenClaim):Bool:=(P.stopKnobs == [])
theorem rpaths_j8:rpaths_J8 Tryz.prog 7 Tryz.f7 Rows.reachPathsSpec Rows.reachPathsRow=true:=by kernel_rfl
def rpaths_J9 (P:Program) (f:FuncId) (fn:Func) (s:ChangeSpec) (c:OpenClaim):Bool:=(c.inPlace == P.inPlace f)
theorem rpaths_j9:rpaths_J9 Tryz.prog 7 Tryz.f7 Rows.reachPathsSpec Rows.reachPathsRow=true:=by kernel_rfl
def rpaths_J10 (P:Program) (f:FuncId) (fn:Func) (s:ChangeSpec) (c:OpenClaim):Bool:=(c.unfollowed == P.unfollowed f)
theorem rpaths_j10:rpaths_J10 Tryz.prog 7 Tryz.f7 Rows.reachPathsSpec Rows.reachPathsRow=true:=by kernel_rfl
def rpaths_J11 (P:Program) (f:FuncId) (fn:Func) (s:ChangeSpec) (c:OpenClaim):Bool:=(c.recurses == P.recurses f)
theorem rpaths_j11:rpaths_J11 Tryz.prog 7 Tryz.f7 Rows.reachPathsSpec Rows.reachPathsRow=true:=by kernel_rfl
def rpaths_J12 (P:Program) (f:FuncId) (fn:Func) (s:ChangeSpec) (c:OpenClaim):Bool:=(c.named == P.varsNamed f)
theorem rpaths_j12:rpaths_J12 Tryz.prog 7 Tryz.f7 Rows.reachPathsSpec Rows.reachPathsRow=true:=by kernel_rfl
def rpaths_J13 (P:Program) (f:FuncId) (fn:Func) (s:ChangeSpec) (c:OpenClaim):Bool:=(c.maps == (fn.params.toList ++ s.plain.varTypes P).any (P.mapsRec ·))
theorem rpaths_j13:rpaths_J13 Tryz.prog 7 Tryz.f7 Rows.reachPathsSpec Rows.reachPathsRow=true:=by kernel_rfl
def rpaths_J14 (P:Program) (f:FuncId) (fn:Func) (s:ChangeSpec) (c:OpenClaim):Bool:=(c.ifaces == (fn.params.toList ++ s.plain.varTypes P).any (P.ifacesRec ·))
theorem rpaths_j14:rpaths_J14 Tryz.prog 7 Tryz.f7 Rows.reachPathsSpec Rows.reachPathsRow=true:=by kernel_rfl
def rpaths_J15 (P:Program) (f:FuncId) (fn:Func) (s:ChangeSpec) (c:OpenClaim):Bool:=(c.mapsOut == P.mapsAmong fn.resultTypes.toList)
theorem rpaths_j15:rpaths_J15 Tryz.prog 7 Tryz.f7 Rows.reachPathsSpec Rows.reachPathsRow=true:=by kernel_rfl
def rpaths_J16 (P:Program) (f:FuncId) (fn:Func) (s:ChangeSpec) (c:OpenClaim):Bool:=(c.loops == (fn.params.toList ++ s.plain.varTypes P).any (P.loopsFrom ·))
theorem rpaths_j16:rpaths_J16 Tryz.prog 7 Tryz.f7 Rows.reachPathsSpec Rows.reachPathsRow=true:=by kernel_rfl
def rpaths_J17 (P:Program) (f:FuncId) (fn:Func) (s:ChangeSpec) (c:OpenClaim):Bool:=(c.wideKeys == (fn.params.toList ++ s.plain.varTypes P ++ fn.resultTypes.toList).any (P.wideKeysFrom ·))
theorem rpaths_j17:rpaths_J17 Tryz.prog 7 Tryz.f7 Rows.reachPathsSpec Rows.reachPathsRow=true:=by kernel_rfl
def rpaths_J18 (P:Program) (f:FuncId) (fn:Func) (s:ChangeSpec) (c:OpenClaim):Bool:=s.vars.all (P.varReadable ·)
theorem rpaths_j18:rpaths_J18 Tryz.prog 7 Tryz.f7 Rows.reachPathsSpec Rows.reachPathsRow=true:=by kernel_rfl
def rpaths_J19 (P:Program) (f:FuncId) (fn:Func) (s:ChangeSpec) (c:OpenClaim):Bool:=fn.resultTypes.all (fun t=>P.readableRec t && decide (t < P.types.size))
theorem rpaths_j19:rpaths_J19 Tryz.prog 7 Tryz.f7 Rows.reachPathsSpec Rows.reachPathsRow=true:=by kernel_rfl
def rpaths_J20 (P:Program) (f:FuncId) (fn:Func) (s:ChangeSpec) (c:OpenClaim):Bool:=(c.ifacesOut == fn.resultTypes.toList.any (P.ifacesRec ·))
theorem rpaths_j20:rpaths_J20 Tryz.prog 7 Tryz.f7 Rows.reachPathsSpec Rows.reachPathsRow=true:=by kernel_rfl
def rpaths_J21 (P:Program) (f:FuncId) (fn:Func) (s:ChangeSpec) (c:OpenClaim):Bool:=(c.loopsOut == fn.resultTypes.toList.any (P.loopsFrom ·))
theorem rpaths_j21:rpaths_J21 Tryz.prog 7 Tryz.f7 Rows.reachPathsSpec Rows.reachPathsRow=true:=by kernel_rfl
def rpaths_J22 (P:Program) (f:FuncId) (fn:Func) (s:ChangeSpec) (c:OpenClaim):Bool:=(c.plainKeys == P.plainKeys)
theorem rpaths_j22:rpaths_J22 Tryz.prog 7 Tryz.f7 Rows.reachPathsSpec Rows.reachPathsRow=true:=by kernel_rfl
def rpaths_J23 (P:Program) (f:FuncId) (fn:Func) (s:ChangeSpec) (c:OpenClaim):Bool:=c.shortTexts.isNone
theorem rpaths_j23:rpaths_J23 Tryz.prog 7 Tryz.f7 Rows.reachPathsSpec Rows.reachPathsRow=true:=by kernel_rfl
def rpaths_J24 (P:Program) (f:FuncId) (fn:Func) (s:ChangeSpec) (c:OpenClaim):Bool:=P.stopsHeard
theorem rpaths_j24:rpaths_J24 Tryz.prog 7 Tryz.f7 Rows.reachPathsSpec Rows.reachPathsRow=true:=by kernel_rfl
def rpaths_J25 (P:Program) (f:FuncId) (fn:Func) (s:ChangeSpec) (c:OpenClaim):Bool:=P.mayEnter
theorem rpaths_j25:rpaths_J25 Tryz.prog 7 Tryz.f7 Rows.reachPathsSpec Rows.reachPathsRow=true:=by kernel_rfl
def rpaths_J26 (P:Program) (f:FuncId) (fn:Func) (s:ChangeSpec) (c:OpenClaim):Bool:=(c.lifted == P.liftsFinal)
theorem rpaths_j26:rpaths_J26 Tryz.prog 7 Tryz.f7 Rows.reachPathsSpec Rows.reachPathsRow=true:=by kernel_rfl
def rpaths_J27 (P:Program) (f:FuncId) (fn:Func) (s:ChangeSpec) (c:OpenClaim):Bool:=(P.make == some c.make)
theorem rpaths_j27:rpaths_J27 Tryz.prog 7 Tryz.f7 Rows.reachPathsSpec Rows.reachPathsRow=true:=by kernel_rfl
def rpaths_J28 (P:Program) (f:FuncId) (fn:Func) (s:ChangeSpec) (c:OpenClaim):Bool:=(c.kinds == (if c.domain.isEmpty then [] else fn.params.toList.map fun t=>match P.underlying t with | some (.int k)=>some k | _=>none))
theorem rpaths_j28:rpaths_J28 Tryz.prog 7 Tryz.f7 Rows.reachPathsSpec Rows.reachPathsRow=true:=by kernel_rfl
def rpaths_J29 (P:Program) (f:FuncId) (fn:Func) (s:ChangeSpec) (c:OpenClaim):Bool:=(c.pinned == c.pinnedBy)
theorem rpaths_j29:rpaths_J29 Tryz.prog 7 Tryz.f7 Rows.reachPathsSpec Rows.reachPathsRow=true:=by kernel_rfl
def rpaths_J30 (P:Program) (f:FuncId) (fn:Func) (s:ChangeSpec) (c:OpenClaim):Bool:=(c.veiled == (fn.params.toList ++ s.plain.varTypes P ++ fn.resultTypes.toList).any (P.veiledRec ·))
theorem rpaths_j30:rpaths_J30 Tryz.prog 7 Tryz.f7 Rows.reachPathsSpec Rows.reachPathsRow=true:=by kernel_rfl
def rpaths_J31 (P:Program) (f:FuncId) (fn:Func) (s:ChangeSpec) (c:OpenClaim):Bool:=c.veiledFits P fn.params.toList (fn.params.toList ++ s.plain.varTypes P ++ fn.resultTypes.toList)
theorem rpaths_j31:rpaths_J31 Tryz.prog 7 Tryz.f7 Rows.reachPathsSpec Rows.reachPathsRow=true:=by kernel_rfl
end Go.Proofs.YtpboiimemmfkiaaGreatDoor
