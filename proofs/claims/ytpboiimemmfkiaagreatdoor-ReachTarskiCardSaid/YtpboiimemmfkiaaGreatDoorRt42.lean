/-
  Texts that belong together,in one file: L35f.
-/
import Derived.Test.YtpboiimemmfkiaaGreatDoorRt41
import Derived.Test.YtpboiimemmfkiaaGreatDoorCards
import Derived.Test.YtpboiimemmfkiaaGreatDoorTie
import Derived.ChangeSame
import Derived.ChangeVars
import Derived.ChangeMaps5
import Derived.JoinedOf
import Derived.LaidMore
import Derived.LaidLaws
import Derived.LaidHandle
import Derived.Lay
set_option linter.unusedSimpArgs false
set_option linter.unusedVariables false
namespace Go.Proofs.YtpboiimemmfkiaaGreatDoor
open Go.Av Go.ChangeShapes Go.WideShapes Go.ChangeAt Go.RowKit
def rtarski_J0 (P:Program) (f:FuncId) (fn:Func) (s:ChangeSpec) (c:OpenClaim):Bool:=c.wf (OpenSpec.ofChange s)
theorem rtarski_j0:rtarski_J0 Tryz.prog 10 Tryz.f10 Rows.reachTarskiSpec Rows.reachTarskiRow=true:=by kernel_rfl
def rtarski_J1 (P:Program) (f:FuncId) (fn:Func) (s:ChangeSpec) (c:OpenClaim):Bool:=laidOutB P
theorem rtarski_j1:rtarski_J1 Tryz.prog 10 Tryz.f10 Rows.reachTarskiSpec Rows.reachTarskiRow=true:=by kernel_rfl
def rtarski_J2 (P:Program) (f:FuncId) (fn:Func) (s:ChangeSpec) (c:OpenClaim):Bool:=mapsRowed P
theorem rtarski_j2:rtarski_J2 Tryz.prog 10 Tryz.f10 Rows.reachTarskiSpec Rows.reachTarskiRow=true:=by kernel_rfl
def rtarski_J3 (P:Program) (f:FuncId) (fn:Func) (s:ChangeSpec) (c:OpenClaim):Bool:=fn.params.all (P.readableRec ·)
theorem rtarski_j3:rtarski_J3 Tryz.prog 10 Tryz.f10 Rows.reachTarskiSpec Rows.reachTarskiRow=true:=by kernel_rfl
def rtarski_J4 (P:Program) (f:FuncId) (fn:Func) (s:ChangeSpec) (c:OpenClaim):Bool:=namedTie P c.named s.vars
theorem rtarski_j4:rtarski_J4 Tryz.prog 10 Tryz.f10 Rows.reachTarskiSpec Rows.reachTarskiRow=true:=by kernel_rfl
def rtarski_J5 (P:Program) (f:FuncId) (fn:Func) (s:ChangeSpec) (c:OpenClaim):Bool:=(c.stops == [])
theorem rtarski_j5:rtarski_J5 Tryz.prog 10 Tryz.f10 Rows.reachTarskiSpec Rows.reachTarskiRow=true:=by kernel_rfl
def rtarski_J6 (P:Program) (f:FuncId) (fn:Func) (s:ChangeSpec) (c:OpenClaim):Bool:=(P.stops == [])
theorem rtarski_j6:rtarski_J6 Tryz.prog 10 Tryz.f10 Rows.reachTarskiSpec Rows.reachTarskiRow=true:=by kernel_rfl
def rtarski_J7 (P:Program) (f:FuncId) (fn:Func) (s:ChangeSpec) (c:OpenClaim):Bool:=(c.knobs == [])
theorem rtarski_j7:rtarski_J7 Tryz.prog 10 Tryz.f10 Rows.reachTarskiSpec Rows.reachTarskiRow=true:=by kernel_rfl
def rtarski_J8 (P:Program) (f:FuncId) (fn:Func) (s:ChangeSpec) (c:OpenClaim):Bool:=(P.stopKnobs == [])
theorem rtarski_j8:rtarski_J8 Tryz.prog 10 Tryz.f10 Rows.reachTarskiSpec Rows.reachTarskiRow=true:=by kernel_rfl
def rtarski_J9 (P:Program) (f:FuncId) (fn:Func) (s:ChangeSpec) (c:OpenClaim):Bool:=(c.inPlace == P.inPlace f)
theorem rtarski_j9:rtarski_J9 Tryz.prog 10 Tryz.f10 Rows.reachTarskiSpec Rows.reachTarskiRow=true:=by kernel_rfl
def rtarski_J10 (P:Program) (f:FuncId) (fn:Func) (s:ChangeSpec) (c:OpenClaim):Bool:=(c.unfollowed == P.unfollowed f)
theorem rtarski_j10:rtarski_J10 Tryz.prog 10 Tryz.f10 Rows.reachTarskiSpec Rows.reachTarskiRow=true:=by kernel_rfl
def rtarski_J11 (P:Program) (f:FuncId) (fn:Func) (s:ChangeSpec) (c:OpenClaim):Bool:=(c.recurses == P.recurses f)
theorem rtarski_j11:rtarski_J11 Tryz.prog 10 Tryz.f10 Rows.reachTarskiSpec Rows.reachTarskiRow=true:=by kernel_rfl
def rtarski_J12 (P:Program) (f:FuncId) (fn:Func) (s:ChangeSpec) (c:OpenClaim):Bool:=(c.named == P.varsNamed f)
theorem rtarski_j12:rtarski_J12 Tryz.prog 10 Tryz.f10 Rows.reachTarskiSpec Rows.reachTarskiRow=true:=by kernel_rfl
def rtarski_J13 (P:Program) (f:FuncId) (fn:Func) (s:ChangeSpec) (c:OpenClaim):Bool:=(c.maps == (fn.params.toList ++ s.plain.varTypes P).any (P.mapsRec ·))
theorem rtarski_j13:rtarski_J13 Tryz.prog 10 Tryz.f10 Rows.reachTarskiSpec Rows.reachTarskiRow=true:=by kernel_rfl
def rtarski_J14 (P:Program) (f:FuncId) (fn:Func) (s:ChangeSpec) (c:OpenClaim):Bool:=(c.ifaces == (fn.params.toList ++ s.plain.varTypes P).any (P.ifacesRec ·))
theorem rtarski_j14:rtarski_J14 Tryz.prog 10 Tryz.f10 Rows.reachTarskiSpec Rows.reachTarskiRow=true:=by kernel_rfl
def rtarski_J15 (P:Program) (f:FuncId) (fn:Func) (s:ChangeSpec) (c:OpenClaim):Bool:=(c.mapsOut == P.mapsAmong fn.resultTypes.toList)
theorem rtarski_j15:rtarski_J15 Tryz.prog 10 Tryz.f10 Rows.reachTarskiSpec Rows.reachTarskiRow=true:=by kernel_rfl
def rtarski_J16 (P:Program) (f:FuncId) (fn:Func) (s:ChangeSpec) (c:OpenClaim):Bool:=(c.loops == (fn.params.toList ++ s.plain.varTypes P).any (P.loopsFrom ·))
theorem rtarski_j16:rtarski_J16 Tryz.prog 10 Tryz.f10 Rows.reachTarskiSpec Rows.reachTarskiRow=true:=by kernel_rfl
def rtarski_J17 (P:Program) (f:FuncId) (fn:Func) (s:ChangeSpec) (c:OpenClaim):Bool:=(c.wideKeys == (fn.params.toList ++ s.plain.varTypes P ++ fn.resultTypes.toList).any (P.wideKeysFrom ·))
theorem rtarski_j17:rtarski_J17 Tryz.prog 10 Tryz.f10 Rows.reachTarskiSpec Rows.reachTarskiRow=true:=by kernel_rfl
def rtarski_J18 (P:Program) (f:FuncId) (fn:Func) (s:ChangeSpec) (c:OpenClaim):Bool:=s.vars.all (P.varReadable ·)
theorem rtarski_j18:rtarski_J18 Tryz.prog 10 Tryz.f10 Rows.reachTarskiSpec Rows.reachTarskiRow=true:=by kernel_rfl
def rtarski_J19 (P:Program) (f:FuncId) (fn:Func) (s:ChangeSpec) (c:OpenClaim):Bool:=fn.resultTypes.all (fun t=>P.readableRec t && decide (t < P.types.size))
theorem rtarski_j19:rtarski_J19 Tryz.prog 10 Tryz.f10 Rows.reachTarskiSpec Rows.reachTarskiRow=true:=by kernel_rfl
def rtarski_J20 (P:Program) (f:FuncId) (fn:Func) (s:ChangeSpec) (c:OpenClaim):Bool:=(c.ifacesOut == fn.resultTypes.toList.any (P.ifacesRec ·))
theorem rtarski_j20:rtarski_J20 Tryz.prog 10 Tryz.f10 Rows.reachTarskiSpec Rows.reachTarskiRow=true:=by kernel_rfl
def rtarski_J21 (P:Program) (f:FuncId) (fn:Func) (s:ChangeSpec) (c:OpenClaim):Bool:=(c.loopsOut == fn.resultTypes.toList.any (P.loopsFrom ·))
theorem rtarski_j21:rtarski_J21 Tryz.prog 10 Tryz.f10 Rows.reachTarskiSpec Rows.reachTarskiRow=true:=by kernel_rfl
def rtarski_J22 (P:Program) (f:FuncId) (fn:Func) (s:ChangeSpec) (c:OpenClaim):Bool:=(c.plainKeys == P.plainKeys)
theorem rtarski_j22:rtarski_J22 Tryz.prog 10 Tryz.f10 Rows.reachTarskiSpec Rows.reachTarskiRow=true:=by kernel_rfl
def rtarski_J23 (P:Program) (f:FuncId) (fn:Func) (s:ChangeSpec) (c:OpenClaim):Bool:=c.shortTexts.isNone
theorem rtarski_j23:rtarski_J23 Tryz.prog 10 Tryz.f10 Rows.reachTarskiSpec Rows.reachTarskiRow=true:=by kernel_rfl
def rtarski_J24 (P:Program) (f:FuncId) (fn:Func) (s:ChangeSpec) (c:OpenClaim):Bool:=P.stopsHeard
theorem rtarski_j24:rtarski_J24 Tryz.prog 10 Tryz.f10 Rows.reachTarskiSpec Rows.reachTarskiRow=true:=by kernel_rfl
def rtarski_J25 (P:Program) (f:FuncId) (fn:Func) (s:ChangeSpec) (c:OpenClaim):Bool:=P.mayEnter
theorem rtarski_j25:rtarski_J25 Tryz.prog 10 Tryz.f10 Rows.reachTarskiSpec Rows.reachTarskiRow=true:=by kernel_rfl
def rtarski_J26 (P:Program) (f:FuncId) (fn:Func) (s:ChangeSpec) (c:OpenClaim):Bool:=(c.lifted == P.liftsFinal)
theorem rtarski_j26:rtarski_J26 Tryz.prog 10 Tryz.f10 Rows.reachTarskiSpec Rows.reachTarskiRow=true:=by kernel_rfl
def rtarski_J27 (P:Program) (f:FuncId) (fn:Func) (s:ChangeSpec) (c:OpenClaim):Bool:=(P.make == some c.make)
theorem rtarski_j27:rtarski_J27 Tryz.prog 10 Tryz.f10 Rows.reachTarskiSpec Rows.reachTarskiRow=true:=by kernel_rfl
def rtarski_J28 (P:Program) (f:FuncId) (fn:Func) (s:ChangeSpec) (c:OpenClaim):Bool:=(c.kinds == (if c.domain.isEmpty then [] else fn.params.toList.map fun t=>match P.underlying t with | some (.int k)=>some k | _=>none))
theorem rtarski_j28:rtarski_J28 Tryz.prog 10 Tryz.f10 Rows.reachTarskiSpec Rows.reachTarskiRow=true:=by kernel_rfl
def rtarski_J29 (P:Program) (f:FuncId) (fn:Func) (s:ChangeSpec) (c:OpenClaim):Bool:=(c.pinned == c.pinnedBy)
theorem rtarski_j29:rtarski_J29 Tryz.prog 10 Tryz.f10 Rows.reachTarskiSpec Rows.reachTarskiRow=true:=by kernel_rfl
def rtarski_J30 (P:Program) (f:FuncId) (fn:Func) (s:ChangeSpec) (c:OpenClaim):Bool:=(c.veiled == (fn.params.toList ++ s.plain.varTypes P ++ fn.resultTypes.toList).any (P.veiledRec ·))
theorem rtarski_j30:rtarski_J30 Tryz.prog 10 Tryz.f10 Rows.reachTarskiSpec Rows.reachTarskiRow=true:=by kernel_rfl
def rtarski_J31 (P:Program) (f:FuncId) (fn:Func) (s:ChangeSpec) (c:OpenClaim):Bool:=c.veiledFits P fn.params.toList (fn.params.toList ++ s.plain.varTypes P ++ fn.resultTypes.toList)
theorem rtarski_j31:rtarski_J31 Tryz.prog 10 Tryz.f10 Rows.reachTarskiSpec Rows.reachTarskiRow=true:=by kernel_rfl
end Go.Proofs.YtpboiimemmfkiaaGreatDoor
