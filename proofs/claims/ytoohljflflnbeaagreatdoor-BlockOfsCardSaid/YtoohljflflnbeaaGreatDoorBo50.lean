/- Parts. -/
import Derived.Test.YtoohljflflnbeaaGreatDoorBo49
set_option linter.unusedSimpArgs false
set_option linter.unusedVariables false
open Go.Proofs.Tryz
namespace Go.Proofs.YtoohljflflnbeaaGreatDoor
open Go.Av Go.ChangeShapes Go.WideShapes Go.ChangeAt Go.RowKit
def TU (P:Program) (f:FuncId) (fn:Func) (s:ChangeSpec) (c:OpenClaim):Bool:=c.wf (OpenSpec.ofChange s)
theorem Uy:TU prog 7 Tryz.f7 Rows.blockOfsSpec Rows.blockOfsRow=true:=ah
def TV (P:Program) (f:FuncId) (fn:Func) (s:ChangeSpec) (c:OpenClaim):Bool:=laidOutB P
theorem Uz:TV prog 7 Tryz.f7 Rows.blockOfsSpec Rows.blockOfsRow=true:=ah
def T8 (P:Program) (f:FuncId) (fn:Func) (s:ChangeSpec) (c:OpenClaim):Bool:=mapsRowed P
theorem UK:T8 prog 7 Tryz.f7 Rows.blockOfsSpec Rows.blockOfsRow=true:=ah
def Uj (P:Program) (f:FuncId) (fn:Func) (s:ChangeSpec) (c:OpenClaim):Bool:=fn.params.all (P.readableRec ·)
theorem UW:Uj prog 7 Tryz.f7 Rows.blockOfsSpec Rows.blockOfsRow=true:=ah
def Um (P:Program) (f:FuncId) (fn:Func) (s:ChangeSpec) (c:OpenClaim):Bool:=namedTie P c.named s.vars
theorem UZ:Um prog 7 Tryz.f7 Rows.blockOfsSpec Rows.blockOfsRow=true:=ah
def Un (P:Program) (f:FuncId) (fn:Func) (s:ChangeSpec) (c:OpenClaim):Bool:=(c.stops == [])
theorem U0:Un prog 7 Tryz.f7 Rows.blockOfsSpec Rows.blockOfsRow=true:=ah
def Uo (P:Program) (f:FuncId) (fn:Func) (s:ChangeSpec) (c:OpenClaim):Bool:=(P.stops == [])
theorem U1:Uo prog 7 Tryz.f7 Rows.blockOfsSpec Rows.blockOfsRow=true:=ah
def Up (P:Program) (f:FuncId) (fn:Func) (s:ChangeSpec) (c:OpenClaim):Bool:=(c.knobs == [])
theorem U2:Up prog 7 Tryz.f7 Rows.blockOfsSpec Rows.blockOfsRow=true:=ah
def Uq (P:Program) (f:FuncId) (fn:Func) (s:ChangeSpec) (c:OpenClaim):Bool:=(P.stopKnobs == [])
theorem U3:Uq prog 7 Tryz.f7 Rows.blockOfsSpec Rows.blockOfsRow=true:=ah
def Ur (P:Program) (f:FuncId) (fn:Func) (s:ChangeSpec) (c:OpenClaim):Bool:=(c.inPlace == P.inPlace f)
theorem U4:Ur prog 7 Tryz.f7 Rows.blockOfsSpec Rows.blockOfsRow=true:=ah
def TW (P:Program) (f:FuncId) (fn:Func) (s:ChangeSpec) (c:OpenClaim):Bool:=(c.unfollowed == P.unfollowed f)
theorem UA:TW prog 7 Tryz.f7 Rows.blockOfsSpec Rows.blockOfsRow=true:=ah
def TY (P:Program) (f:FuncId) (fn:Func) (s:ChangeSpec) (c:OpenClaim):Bool:=(c.recurses == P.recurses f)
theorem UB:TY prog 7 Tryz.f7 Rows.blockOfsSpec Rows.blockOfsRow=true:=ah
def TZ (P:Program) (f:FuncId) (fn:Func) (s:ChangeSpec) (c:OpenClaim):Bool:=(c.named == P.varsNamed f)
theorem UC:TZ prog 7 Tryz.f7 Rows.blockOfsSpec Rows.blockOfsRow=true:=ah
def T0 (P:Program) (f:FuncId) (fn:Func) (s:ChangeSpec) (c:OpenClaim):Bool:=(c.maps == (fn.params.toList ++ s.plain.varTypes P).any (P.mapsRec ·))
theorem UD:T0 prog 7 Tryz.f7 Rows.blockOfsSpec Rows.blockOfsRow=true:=ah
def T1 (P:Program) (f:FuncId) (fn:Func) (s:ChangeSpec) (c:OpenClaim):Bool:=(c.ifaces == (fn.params.toList ++ s.plain.varTypes P).any (P.ifacesRec ·))
theorem UE:T1 prog 7 Tryz.f7 Rows.blockOfsSpec Rows.blockOfsRow=true:=ah
def T3 (P:Program) (f:FuncId) (fn:Func) (s:ChangeSpec) (c:OpenClaim):Bool:=(c.mapsOut == P.mapsAmong fn.resultTypes.toList)
theorem UF:T3 prog 7 Tryz.f7 Rows.blockOfsSpec Rows.blockOfsRow=true:=ah
def T4 (P:Program) (f:FuncId) (fn:Func) (s:ChangeSpec) (c:OpenClaim):Bool:=(c.loops == (fn.params.toList ++ s.plain.varTypes P).any (P.loopsFrom ·))
theorem UG:T4 prog 7 Tryz.f7 Rows.blockOfsSpec Rows.blockOfsRow=true:=ah
def T5 (P:Program) (f:FuncId) (fn:Func) (s:ChangeSpec) (c:OpenClaim):Bool:=(c.wideKeys == (fn.params.toList ++ s.plain.varTypes P ++ fn.resultTypes.toList).any (P.wideKeysFrom ·))
theorem UH:T5 prog 7 Tryz.f7 Rows.blockOfsSpec Rows.blockOfsRow=true:=ah
def T6 (P:Program) (f:FuncId) (fn:Func) (s:ChangeSpec) (c:OpenClaim):Bool:=s.vars.all (P.varReadable ·)
theorem UI:T6 prog 7 Tryz.f7 Rows.blockOfsSpec Rows.blockOfsRow=true:=ah
def T7 (P:Program) (f:FuncId) (fn:Func) (s:ChangeSpec) (c:OpenClaim):Bool:=fn.resultTypes.all (fun t=>P.readableRec t && decide (t < P.types.size))
theorem UJ:T7 prog 7 Tryz.f7 Rows.blockOfsSpec Rows.blockOfsRow=true:=ah
def T9 (P:Program) (f:FuncId) (fn:Func) (s:ChangeSpec) (c:OpenClaim):Bool:=(c.ifacesOut == fn.resultTypes.toList.any (P.ifacesRec ·))
theorem UL:T9 prog 7 Tryz.f7 Rows.blockOfsSpec Rows.blockOfsRow=true:=ah
def Ua (P:Program) (f:FuncId) (fn:Func) (s:ChangeSpec) (c:OpenClaim):Bool:=(c.loopsOut == fn.resultTypes.toList.any (P.loopsFrom ·))
theorem UM:Ua prog 7 Tryz.f7 Rows.blockOfsSpec Rows.blockOfsRow=true:=ah
def Ub (P:Program) (f:FuncId) (fn:Func) (s:ChangeSpec) (c:OpenClaim):Bool:=(c.plainKeys == P.plainKeys)
theorem UN:Ub prog 7 Tryz.f7 Rows.blockOfsSpec Rows.blockOfsRow=true:=ah
def Uc (P:Program) (f:FuncId) (fn:Func) (s:ChangeSpec) (c:OpenClaim):Bool:=c.shortTexts.isNone
theorem UO:Uc prog 7 Tryz.f7 Rows.blockOfsSpec Rows.blockOfsRow=true:=ah
def Ud (P:Program) (f:FuncId) (fn:Func) (s:ChangeSpec) (c:OpenClaim):Bool:=P.stopsHeard
theorem UP:Ud prog 7 Tryz.f7 Rows.blockOfsSpec Rows.blockOfsRow=true:=ah
def Ue (P:Program) (f:FuncId) (fn:Func) (s:ChangeSpec) (c:OpenClaim):Bool:=P.mayEnter
theorem UQ:Ue prog 7 Tryz.f7 Rows.blockOfsSpec Rows.blockOfsRow=true:=ah
def Uf (P:Program) (f:FuncId) (fn:Func) (s:ChangeSpec) (c:OpenClaim):Bool:=(c.lifted == P.liftsFinal)
theorem UR:Uf prog 7 Tryz.f7 Rows.blockOfsSpec Rows.blockOfsRow=true:=ah
def Ug (P:Program) (f:FuncId) (fn:Func) (s:ChangeSpec) (c:OpenClaim):Bool:=(P.make == some c.make)
theorem US:Ug prog 7 Tryz.f7 Rows.blockOfsSpec Rows.blockOfsRow=true:=ah
def Uh (P:Program) (f:FuncId) (fn:Func) (s:ChangeSpec) (c:OpenClaim):Bool:=(c.kinds == (if c.domain.isEmpty then [] else fn.params.toList.map fun t=>match P.underlying t with | some (.int k)=>some k | _=>none))
theorem UT:Uh prog 7 Tryz.f7 Rows.blockOfsSpec Rows.blockOfsRow=true:=ah
def Ui (P:Program) (f:FuncId) (fn:Func) (s:ChangeSpec) (c:OpenClaim):Bool:=(c.pinned == c.pinnedBy)
theorem UU:Ui prog 7 Tryz.f7 Rows.blockOfsSpec Rows.blockOfsRow=true:=ah
def Uk (P:Program) (f:FuncId) (fn:Func) (s:ChangeSpec) (c:OpenClaim):Bool:=(c.veiled == (fn.params.toList ++ s.plain.varTypes P ++ fn.resultTypes.toList).any (P.veiledRec ·))
theorem UX:Uk prog 7 Tryz.f7 Rows.blockOfsSpec Rows.blockOfsRow=true:=ah
def Ul (P:Program) (f:FuncId) (fn:Func) (s:ChangeSpec) (c:OpenClaim):Bool:=c.veiledFits P fn.params.toList (fn.params.toList ++ s.plain.varTypes P ++ fn.resultTypes.toList)
theorem UY:Ul prog 7 Tryz.f7 Rows.blockOfsSpec Rows.blockOfsRow=true:=ah
