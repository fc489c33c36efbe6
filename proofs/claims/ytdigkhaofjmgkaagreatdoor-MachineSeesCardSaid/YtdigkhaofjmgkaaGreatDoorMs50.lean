/- Parts. -/
import Derived.Test.YtdigkhaofjmgkaaGreatDoorMs49
set_option linter.unusedSimpArgs false
set_option linter.unusedVariables false
open Go.Proofs.Tryz
namespace Go.Proofs.YtdigkhaofjmgkaaGreatDoor
open Go.Av Go.ChangeShapes Go.WideShapes Go.ChangeAt Go.RowKit
def Tp (P:Program) (f:FuncId) (fn:Func) (s:ChangeSpec) (c:OpenClaim):Bool:=c.wf (OpenSpec.ofChange s)
theorem agJ:Tp prog 4 Tryz.f4 Rows.machineSeesSpec Rows.machineSeesRow=true:=by kernel_rfl
def Tq (P:Program) (f:FuncId) (fn:Func) (s:ChangeSpec) (c:OpenClaim):Bool:=laidOutB P
theorem agK:Tq prog 4 Tryz.f4 Rows.machineSeesSpec Rows.machineSeesRow=true:=by kernel_rfl
def TB (P:Program) (f:FuncId) (fn:Func) (s:ChangeSpec) (c:OpenClaim):Bool:=mapsRowed P
theorem Ud:TB prog 4 Tryz.f4 Rows.machineSeesSpec Rows.machineSeesRow=true:=by kernel_rfl
def TM (P:Program) (f:FuncId) (fn:Func) (s:ChangeSpec) (c:OpenClaim):Bool:=fn.params.all (P.readableRec ·)
theorem Uo:TM prog 4 Tryz.f4 Rows.machineSeesSpec Rows.machineSeesRow=true:=by kernel_rfl
def TP (P:Program) (f:FuncId) (fn:Func) (s:ChangeSpec) (c:OpenClaim):Bool:=namedTie P c.named s.vars
theorem Ur:TP prog 4 Tryz.f4 Rows.machineSeesSpec Rows.machineSeesRow=true:=by kernel_rfl
def TQ (P:Program) (f:FuncId) (fn:Func) (s:ChangeSpec) (c:OpenClaim):Bool:=(c.stops == [])
theorem Us:TQ prog 4 Tryz.f4 Rows.machineSeesSpec Rows.machineSeesRow=true:=by kernel_rfl
def TR (P:Program) (f:FuncId) (fn:Func) (s:ChangeSpec) (c:OpenClaim):Bool:=(P.stops == [])
theorem Ut:TR prog 4 Tryz.f4 Rows.machineSeesSpec Rows.machineSeesRow=true:=by kernel_rfl
def TS (P:Program) (f:FuncId) (fn:Func) (s:ChangeSpec) (c:OpenClaim):Bool:=(c.knobs == [])
theorem Uu:TS prog 4 Tryz.f4 Rows.machineSeesSpec Rows.machineSeesRow=true:=by kernel_rfl
def TT (P:Program) (f:FuncId) (fn:Func) (s:ChangeSpec) (c:OpenClaim):Bool:=(P.stopKnobs == [])
theorem Uv:TT prog 4 Tryz.f4 Rows.machineSeesSpec Rows.machineSeesRow=true:=by kernel_rfl
def TU (P:Program) (f:FuncId) (fn:Func) (s:ChangeSpec) (c:OpenClaim):Bool:=(c.inPlace == P.inPlace f)
theorem Uw:TU prog 4 Tryz.f4 Rows.machineSeesSpec Rows.machineSeesRow=true:=by kernel_rfl
def Tr (P:Program) (f:FuncId) (fn:Func) (s:ChangeSpec) (c:OpenClaim):Bool:=(c.unfollowed == P.unfollowed f)
theorem T3:Tr prog 4 Tryz.f4 Rows.machineSeesSpec Rows.machineSeesRow=true:=by kernel_rfl
def Ts (P:Program) (f:FuncId) (fn:Func) (s:ChangeSpec) (c:OpenClaim):Bool:=(c.recurses == P.recurses f)
theorem T4:Ts prog 4 Tryz.f4 Rows.machineSeesSpec Rows.machineSeesRow=true:=by kernel_rfl
def Tt (P:Program) (f:FuncId) (fn:Func) (s:ChangeSpec) (c:OpenClaim):Bool:=(c.named == P.varsNamed f)
theorem T5:Tt prog 4 Tryz.f4 Rows.machineSeesSpec Rows.machineSeesRow=true:=by kernel_rfl
def Tu (P:Program) (f:FuncId) (fn:Func) (s:ChangeSpec) (c:OpenClaim):Bool:=(c.maps == (fn.params.toList ++ s.plain.varTypes P).any (P.mapsRec ·))
theorem T6:Tu prog 4 Tryz.f4 Rows.machineSeesSpec Rows.machineSeesRow=true:=by kernel_rfl
def Tv (P:Program) (f:FuncId) (fn:Func) (s:ChangeSpec) (c:OpenClaim):Bool:=(c.ifaces == (fn.params.toList ++ s.plain.varTypes P).any (P.ifacesRec ·))
theorem T7:Tv prog 4 Tryz.f4 Rows.machineSeesSpec Rows.machineSeesRow=true:=by kernel_rfl
def Tw (P:Program) (f:FuncId) (fn:Func) (s:ChangeSpec) (c:OpenClaim):Bool:=(c.mapsOut == P.mapsAmong fn.resultTypes.toList)
theorem T8:Tw prog 4 Tryz.f4 Rows.machineSeesSpec Rows.machineSeesRow=true:=by kernel_rfl
def agF (P:Program) (f:FuncId) (fn:Func) (s:ChangeSpec) (c:OpenClaim):Bool:=(c.loops == (fn.params.toList ++ s.plain.varTypes P).any (P.loopsFrom ·))
theorem T9:agF prog 4 Tryz.f4 Rows.machineSeesSpec Rows.machineSeesRow=true:=by kernel_rfl
def agG (P:Program) (f:FuncId) (fn:Func) (s:ChangeSpec) (c:OpenClaim):Bool:=(c.wideKeys == (fn.params.toList ++ s.plain.varTypes P ++ fn.resultTypes.toList).any (P.wideKeysFrom ·))
theorem Ua:agG prog 4 Tryz.f4 Rows.machineSeesSpec Rows.machineSeesRow=true:=by kernel_rfl
def Tz (P:Program) (f:FuncId) (fn:Func) (s:ChangeSpec) (c:OpenClaim):Bool:=s.vars.all (P.varReadable ·)
theorem Ub:Tz prog 4 Tryz.f4 Rows.machineSeesSpec Rows.machineSeesRow=true:=by kernel_rfl
def TA (P:Program) (f:FuncId) (fn:Func) (s:ChangeSpec) (c:OpenClaim):Bool:=fn.resultTypes.all (fun t=>P.readableRec t && decide (t < P.types.size))
theorem Uc:TA prog 4 Tryz.f4 Rows.machineSeesSpec Rows.machineSeesRow=true:=by kernel_rfl
def agH (P:Program) (f:FuncId) (fn:Func) (s:ChangeSpec) (c:OpenClaim):Bool:=(c.ifacesOut == fn.resultTypes.toList.any (P.ifacesRec ·))
theorem Ue:agH prog 4 Tryz.f4 Rows.machineSeesSpec Rows.machineSeesRow=true:=by kernel_rfl
def TD (P:Program) (f:FuncId) (fn:Func) (s:ChangeSpec) (c:OpenClaim):Bool:=(c.loopsOut == fn.resultTypes.toList.any (P.loopsFrom ·))
theorem Uf:TD prog 4 Tryz.f4 Rows.machineSeesSpec Rows.machineSeesRow=true:=by kernel_rfl
def TE (P:Program) (f:FuncId) (fn:Func) (s:ChangeSpec) (c:OpenClaim):Bool:=(c.plainKeys == P.plainKeys)
theorem Ug:TE prog 4 Tryz.f4 Rows.machineSeesSpec Rows.machineSeesRow=true:=by kernel_rfl
def TF (P:Program) (f:FuncId) (fn:Func) (s:ChangeSpec) (c:OpenClaim):Bool:=c.shortTexts.isNone
theorem Uh:TF prog 4 Tryz.f4 Rows.machineSeesSpec Rows.machineSeesRow=true:=by kernel_rfl
def TG (P:Program) (f:FuncId) (fn:Func) (s:ChangeSpec) (c:OpenClaim):Bool:=P.stopsHeard
theorem Ui:TG prog 4 Tryz.f4 Rows.machineSeesSpec Rows.machineSeesRow=true:=by kernel_rfl
def TH (P:Program) (f:FuncId) (fn:Func) (s:ChangeSpec) (c:OpenClaim):Bool:=P.mayEnter
theorem Uj:TH prog 4 Tryz.f4 Rows.machineSeesSpec Rows.machineSeesRow=true:=by kernel_rfl
def agI (P:Program) (f:FuncId) (fn:Func) (s:ChangeSpec) (c:OpenClaim):Bool:=(c.lifted == P.liftsFinal)
theorem Uk:agI prog 4 Tryz.f4 Rows.machineSeesSpec Rows.machineSeesRow=true:=by kernel_rfl
def TJ (P:Program) (f:FuncId) (fn:Func) (s:ChangeSpec) (c:OpenClaim):Bool:=(P.make == some c.make)
theorem Ul:TJ prog 4 Tryz.f4 Rows.machineSeesSpec Rows.machineSeesRow=true:=by kernel_rfl
def TK (P:Program) (f:FuncId) (fn:Func) (s:ChangeSpec) (c:OpenClaim):Bool:=(c.kinds == (if c.domain.isEmpty then [] else fn.params.toList.map fun t=>match P.underlying t with | some (.int k)=>some k | _=>none))
theorem Um:TK prog 4 Tryz.f4 Rows.machineSeesSpec Rows.machineSeesRow=true:=by kernel_rfl
def TL (P:Program) (f:FuncId) (fn:Func) (s:ChangeSpec) (c:OpenClaim):Bool:=(c.pinned == c.pinnedBy)
theorem Un:TL prog 4 Tryz.f4 Rows.machineSeesSpec Rows.machineSeesRow=true:=by kernel_rfl
def TN (P:Program) (f:FuncId) (fn:Func) (s:ChangeSpec) (c:OpenClaim):Bool:=(c.veiled == (fn.params.toList ++ s.plain.varTypes P ++ fn.resultTypes.toList).any (P.veiledRec ·))
theorem Up:TN prog 4 Tryz.f4 Rows.machineSeesSpec Rows.machineSeesRow=true:=by kernel_rfl
def TO (P:Program) (f:FuncId) (fn:Func) (s:ChangeSpec) (c:OpenClaim):Bool:=c.veiledFits P fn.params.toList (fn.params.toList ++ s.plain.varTypes P ++ fn.resultTypes.toList)
theorem Uq:TO prog 4 Tryz.f4 Rows.machineSeesSpec Rows.machineSeesRow=true:=by kernel_rfl
