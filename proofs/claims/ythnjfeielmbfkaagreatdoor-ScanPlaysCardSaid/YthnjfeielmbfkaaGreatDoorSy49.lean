/-
  Texts that belong together,in one file: L33f.
-/
import Derived.Test.YthnjfeielmbfkaaGreatDoorSy48
import Derived.Test.YthnjfeielmbfkaaGreatDoorCards
import Derived.Test.YthnjfeielmbfkaaGreatDoorTie
import Derived.ChangeSame
import Derived.ChangeVars
import Derived.ChangeMaps5
import Derived.JoinedOf
import Derived.LaidMore
import Derived.LaidLaws
import Derived.LaidHandle
import Derived.Lay
set_option linter.unusedSimpArgs false
set_option linter.unusedVariables false
namespace Go.Proofs.YthnjfeielmbfkaaGreatDoor
open Go.Av Go.ChangeShapes Go.WideShapes Go.ChangeAt Go.RowKit
def splays_J0 (P:Program) (f:FuncId) (fn:Func) (s:ChangeSpec) (c:OpenClaim):Bool:=c.wf (OpenSpec.ofChange s)
theorem splays_j0:splays_J0 Tryz.prog 7 Tryz.f7 Rows.scanPlaysSpec Rows.scanPlaysRow=true:=by kernel_rfl
def splays_J1 (P:Program) (f:FuncId) (fn:Func) (s:ChangeSpec) (c:OpenClaim):Bool:=laidOutB P
theorem splays_j1:splays_J1 Tryz.prog 7 Tryz.f7 Rows.scanPlaysSpec Rows.scanPlaysRow=true:=by kernel_rfl
def splays_J2 (P:Program) (f:FuncId) (fn:Func) (s:ChangeSpec) (c:OpenClaim):Bool:=mapsRowed P
theorem splays_j2:splays_J2 Tryz.prog 7 Tryz.f7 Rows.scanPlaysSpec Rows.scanPlaysRow=true:=by kernel_rfl
def splays_J3 (P:Program) (f:FuncId) (fn:Func) (s:ChangeSpec) (c:OpenClaim):Bool:=fn.params.all (P.readableRec ·)
theorem splays_j3:splays_J3 Tryz.prog 7 Tryz.f7 Rows.scanPlaysSpec Rows.scanPlaysRow=true:=by kernel_rfl
def splays_J4 (P:Program) (f:FuncId) (fn:Func) (s:ChangeSpec) (c:OpenClaim):Bool:=namedTie P c.named s.vars
theorem splays_j4:splays_J4 Tryz.prog 7 Tryz.f7 Rows.scanPlaysSpec Rows.scanPlaysRow=true:=by kernel_rfl
def splays_J5 (P:Program) (f:FuncId) (fn:Func) (s:ChangeSpec) (c:OpenClaim):Bool:=(c.stops == [])
theorem splays_j5:splays_J5 Tryz.prog 7 Tryz.f7 Rows.scanPlaysSpec Rows.scanPlaysRow=true:=by kernel_rfl
def splays_J6 (P:Program) (f:FuncId) (fn:Func) (s:ChangeSpec) (c:OpenClaim):Bool:=(P.stops == [])
theorem splays_j6:splays_J6 Tryz.prog 7 Tryz.f7 Rows.scanPlaysSpec Rows.scanPlaysRow=true:=by kernel_rfl
def splays_J7 (P:Program) (f:FuncId) (fn:Func) (s:ChangeSpec) (c:OpenClaim):Bool:=(c.knobs == [])
theorem splays_j7:splays_J7 Tryz.prog 7 Tryz.f7 Rows.scanPlaysSpec Rows.scanPlaysRow=true:=by kernel_rfl
def splays_J8 (P:Program) (f:FuncId) (fn:Func) (s:ChangeSpec) (c:OpenClaim):Bool:=(P.stopKnobs == [])
theorem splays_j8:splays_J8 Tryz.prog 7 Tryz.f7 Rows.scanPlaysSpec Rows.scanPlaysRow=true:=by kernel_rfl
def splays_J9 (P:Program) (f:FuncId) (fn:Func) (s:ChangeSpec) (c:OpenClaim):Bool:=(c.inPlace == P.inPlace f)
theorem splays_j9:splays_J9 Tryz.prog 7 Tryz.f7 Rows.scanPlaysSpec Rows.scanPlaysRow=true:=by kernel_rfl
def splays_J10 (P:Program) (f:FuncId) (fn:Func) (s:ChangeSpec) (c:OpenClaim):Bool:=(c.unfollowed == P.unfollowed f)
theorem splays_j10:splays_J10 Tryz.prog 7 Tryz.f7 Rows.scanPlaysSpec Rows.scanPlaysRow=true:=by kernel_rfl
def splays_J11 (P:Program) (f:FuncId) (fn:Func) (s:ChangeSpec) (c:OpenClaim):Bool:=(c.recurses == P.recurses f)
theorem splays_j11:splays_J11 Tryz.prog 7 Tryz.f7 Rows.scanPlaysSpec Rows.scanPlaysRow=true:=by kernel_rfl
def splays_J12 (P:Program) (f:FuncId) (fn:Func) (s:ChangeSpec) (c:OpenClaim):Bool:=(c.named == P.varsNamed f)
theorem splays_j12:splays_J12 Tryz.prog 7 Tryz.f7 Rows.scanPlaysSpec Rows.scanPlaysRow=true:=by kernel_rfl
def splays_J13 (P:Program) (f:FuncId) (fn:Func) (s:ChangeSpec) (c:OpenClaim):Bool:=(c.maps == (fn.params.toList ++ s.plain.varTypes P).any (P.mapsRec ·))
theorem splays_j13:splays_J13 Tryz.prog 7 Tryz.f7 Rows.scanPlaysSpec Rows.scanPlaysRow=true:=by kernel_rfl
def splays_J14 (P:Program) (f:FuncId) (fn:Func) (s:ChangeSpec) (c:OpenClaim):Bool:=(c.ifaces == (fn.params.toList ++ s.plain.varTypes P).any (P.ifacesRec ·))
theorem splays_j14:splays_J14 Tryz.prog 7 Tryz.f7 Rows.scanPlaysSpec Rows.scanPlaysRow=true:=by kernel_rfl
def splays_J15 (P:Program) (f:FuncId) (fn:Func) (s:ChangeSpec) (c:OpenClaim):Bool:=(c.mapsOut == P.mapsAmong fn.resultTypes.toList)
theorem splays_j15:splays_J15 Tryz.prog 7 Tryz.f7 Rows.scanPlaysSpec Rows.scanPlaysRow=true:=by kernel_rfl
def splays_J16 (P:Program) (f:FuncId) (fn:Func) (s:ChangeSpec) (c:OpenClaim):Bool:=(c.loops == (fn.params.toList ++ s.plain.varTypes P).any (P.loopsFrom ·))
theorem splays_j16:splays_J16 Tryz.prog 7 Tryz.f7 Rows.scanPlaysSpec Rows.scanPlaysRow=true:=by kernel_rfl
def splays_J17 (P:Program) (f:FuncId) (fn:Func) (s:ChangeSpec) (c:OpenClaim):Bool:=(c.wideKeys == (fn.params.toList ++ s.plain.varTypes P ++ fn.resultTypes.toList).any (P.wideKeysFrom ·))
theorem splays_j17:splays_J17 Tryz.prog 7 Tryz.f7 Rows.scanPlaysSpec Rows.scanPlaysRow=true:=by kernel_rfl
def splays_J18 (P:Program) (f:FuncId) (fn:Func) (s:ChangeSpec) (c:OpenClaim):Bool:=s.vars.all (P.varReadable ·)
theorem splays_j18:splays_J18 Tryz.prog 7 Tryz.f7 Rows.scanPlaysSpec Rows.scanPlaysRow=true:=by kernel_rfl
def splays_J19 (P:Program) (f:FuncId) (fn:Func) (s:ChangeSpec) (c:OpenClaim):Bool:=fn.resultTypes.all (fun t=>P.readableRec t && decide (t < P.types.size))
theorem splays_j19:splays_J19 Tryz.prog 7 Tryz.f7 Rows.scanPlaysSpec Rows.scanPlaysRow=true:=by kernel_rfl
def splays_J20 (P:Program) (f:FuncId) (fn:Func) (s:ChangeSpec) (c:OpenClaim):Bool:=(c.ifacesOut == fn.resultTypes.toList.any (P.ifacesRec ·))
theorem splays_j20:splays_J20 Tryz.prog 7 Tryz.f7 Rows.scanPlaysSpec Rows.scanPlaysRow=true:=by kernel_rfl
def splays_J21 (P:Program) (f:FuncId) (fn:Func) (s:ChangeSpec) (c:OpenClaim):Bool:=(c.loopsOut == fn.resultTypes.toList.any (P.loopsFrom ·))
theorem splays_j21:splays_J21 Tryz.prog 7 Tryz.f7 Rows.scanPlaysSpec Rows.scanPlaysRow=true:=by kernel_rfl
def splays_J22 (P:Program) (f:FuncId) (fn:Func) (s:ChangeSpec) (c:OpenClaim):Bool:=(c.plainKeys == P.plainKeys)
theorem splays_j22:splays_J22 Tryz.prog 7 Tryz.f7 Rows.scanPlaysSpec Rows.scanPlaysRow=true:=by kernel_rfl
def splays_J23 (P:Program) (f:FuncId) (fn:Func) (s:ChangeSpec) (c:OpenClaim):Bool:=c.shortTexts.isNone
theorem splays_j23:splays_J23 Tryz.prog 7 Tryz.f7 Rows.scanPlaysSpec Rows.scanPlaysRow=true:=by kernel_rfl
def splays_J24 (P:Program) (f:FuncId) (fn:Func) (s:ChangeSpec) (c:OpenClaim):Bool:=P.stopsHeard
theorem splays_j24:splays_J24 Tryz.prog 7 Tryz.f7 Rows.scanPlaysSpec Rows.scanPlaysRow=true:=by kernel_rfl
def splays_J25 (P:Program) (f:FuncId) (fn:Func) (s:ChangeSpec) (c:OpenClaim):Bool:=P.mayEnter
theorem splays_j25:splays_J25 Tryz.prog 7 Tryz.f7 Rows.scanPlaysSpec Rows.scanPlaysRow=true:=by kernel_rfl
def splays_J26 (P:Program) (f:FuncId) (fn:Func) (s:ChangeSpec) (c:OpenClaim):Bool:=(c.lifted == P.liftsFinal)
theorem splays_j26:splays_J26 Tryz.prog 7 Tryz.f7 Rows.scanPlaysSpec Rows.scanPlaysRow=true:=by kernel_rfl
def splays_J27 (P:Program) (f:FuncId) (fn:Func) (s:ChangeSpec) (c:OpenClaim):Bool:=(P.make == some c.make)
theorem splays_j27:splays_J27 Tryz.prog 7 Tryz.f7 Rows.scanPlaysSpec Rows.scanPlaysRow=true:=by kernel_rfl
def splays_J28 (P:Program) (f:FuncId) (fn:Func) (s:ChangeSpec) (c:OpenClaim):Bool:=(c.kinds == (if c.domain.isEmpty then [] else fn.params.toList.map fun t=>match P.underlying t with | some (.int k)=>some k | _=>none))
theorem splays_j28:splays_J28 Tryz.prog 7 Tryz.f7 Rows.scanPlaysSpec Rows.scanPlaysRow=true:=by kernel_rfl
def splays_J29 (P:Program) (f:FuncId) (fn:Func) (s:ChangeSpec) (c:OpenClaim):Bool:=(c.pinned == c.pinnedBy)
theorem splays_j29:splays_J29 Tryz.prog 7 Tryz.f7 Rows.scanPlaysSpec Rows.scanPlaysRow=true:=by kernel_rfl
def splays_J30 (P:Program) (f:FuncId) (fn:Func) (s:ChangeSpec) (c:OpenClaim):Bool:=(c.veiled == (fn.params.toList ++ s.plain.varTypes P ++ fn.resultTypes.toList).any (P.veiledRec ·))
theorem splays_j30:splays_J30 Tryz.prog 7 Tryz.f7 Rows.scanPlaysSpec Rows.scanPlaysRow=true:=by kernel_rfl
def splays_J31 (P:Program) (f:FuncId) (fn:Func) (s:ChangeSpec) (c:OpenClaim):Bool:=c.veiledFits P fn.params.toList (fn.params.toList ++ s.plain.varTypes P ++ fn.resultTypes.toList)
theorem splays_j31:splays_J31 Tryz.prog 7 Tryz.f7 Rows.scanPlaysSpec Rows.scanPlaysRow=true:=by kernel_rfl
end Go.Proofs.YthnjfeielmbfkaaGreatDoor
