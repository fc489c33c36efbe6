/- Parts. -/
import Derived.Test.YtdigkhaofjmgkaaGreatDoorFx49
set_option linter.unusedSimpArgs false
set_option linter.unusedVariables false
open Go.Proofs.Tryz
namespace Go.Proofs.YtdigkhaofjmgkaaGreatDoor
open Go.Av Go.ChangeShapes Go.WideShapes Go.ChangeAt Go.RowKit
def Wy (P:Program) (f:FuncId) (fn:Func) (s:ChangeSpec) (c:OpenClaim):Bool:=c.wf (OpenSpec.ofChange s)
theorem Xc:Wy prog 5 Tryz.f5 Rows.reachFixedSpec Rows.reachFixedRow=true:=by kernel_rfl
def Wz (P:Program) (f:FuncId) (fn:Func) (s:ChangeSpec) (c:OpenClaim):Bool:=laidOutB P
theorem Xd:Wz prog 5 Tryz.f5 Rows.reachFixedSpec Rows.reachFixedRow=true:=by kernel_rfl
def WL (P:Program) (f:FuncId) (fn:Func) (s:ChangeSpec) (c:OpenClaim):Bool:=mapsRowed P
theorem Xo:WL prog 5 Tryz.f5 Rows.reachFixedSpec Rows.reachFixedRow=true:=by kernel_rfl
def WX (P:Program) (f:FuncId) (fn:Func) (s:ChangeSpec) (c:OpenClaim):Bool:=fn.params.all (P.readableRec ·)
theorem Xz:WX prog 5 Tryz.f5 Rows.reachFixedSpec Rows.reachFixedRow=true:=by kernel_rfl
def W0 (P:Program) (f:FuncId) (fn:Func) (s:ChangeSpec) (c:OpenClaim):Bool:=namedTie P c.named s.vars
theorem XC:W0 prog 5 Tryz.f5 Rows.reachFixedSpec Rows.reachFixedRow=true:=by kernel_rfl
def ah0 (P:Program) (f:FuncId) (fn:Func) (s:ChangeSpec) (c:OpenClaim):Bool:=(c.stops == [])
theorem ah3:ah0 prog 5 Tryz.f5 Rows.reachFixedSpec Rows.reachFixedRow=true:=by kernel_rfl
def ah1 (P:Program) (f:FuncId) (fn:Func) (s:ChangeSpec) (c:OpenClaim):Bool:=(P.stops == [])
theorem XE:ah1 prog 5 Tryz.f5 Rows.reachFixedSpec Rows.reachFixedRow=true:=by kernel_rfl
def ah2 (P:Program) (f:FuncId) (fn:Func) (s:ChangeSpec) (c:OpenClaim):Bool:=(c.knobs == [])
theorem XF:ah2 prog 5 Tryz.f5 Rows.reachFixedSpec Rows.reachFixedRow=true:=by kernel_rfl
def W4 (P:Program) (f:FuncId) (fn:Func) (s:ChangeSpec) (c:OpenClaim):Bool:=(P.stopKnobs == [])
theorem XG:W4 prog 5 Tryz.f5 Rows.reachFixedSpec Rows.reachFixedRow=true:=by kernel_rfl
def W5 (P:Program) (f:FuncId) (fn:Func) (s:ChangeSpec) (c:OpenClaim):Bool:=(c.inPlace == P.inPlace f)
theorem XH:W5 prog 5 Tryz.f5 Rows.reachFixedSpec Rows.reachFixedRow=true:=by kernel_rfl
def WA (P:Program) (f:FuncId) (fn:Func) (s:ChangeSpec) (c:OpenClaim):Bool:=(c.unfollowed == P.unfollowed f)
theorem Xe:WA prog 5 Tryz.f5 Rows.reachFixedSpec Rows.reachFixedRow=true:=by kernel_rfl
def WB (P:Program) (f:FuncId) (fn:Func) (s:ChangeSpec) (c:OpenClaim):Bool:=(c.recurses == P.recurses f)
theorem Xf:WB prog 5 Tryz.f5 Rows.reachFixedSpec Rows.reachFixedRow=true:=by kernel_rfl
def WC (P:Program) (f:FuncId) (fn:Func) (s:ChangeSpec) (c:OpenClaim):Bool:=(c.named == P.varsNamed f)
theorem Xg:WC prog 5 Tryz.f5 Rows.reachFixedSpec Rows.reachFixedRow=true:=by kernel_rfl
def WD (P:Program) (f:FuncId) (fn:Func) (s:ChangeSpec) (c:OpenClaim):Bool:=(c.maps == (fn.params.toList ++ s.plain.varTypes P).any (P.mapsRec ·))
theorem Xh:WD prog 5 Tryz.f5 Rows.reachFixedSpec Rows.reachFixedRow=true:=by kernel_rfl
def WE (P:Program) (f:FuncId) (fn:Func) (s:ChangeSpec) (c:OpenClaim):Bool:=(c.ifaces == (fn.params.toList ++ s.plain.varTypes P).any (P.ifacesRec ·))
theorem Xi:WE prog 5 Tryz.f5 Rows.reachFixedSpec Rows.reachFixedRow=true:=by kernel_rfl
def WG (P:Program) (f:FuncId) (fn:Func) (s:ChangeSpec) (c:OpenClaim):Bool:=(c.mapsOut == P.mapsAmong fn.resultTypes.toList)
theorem Xj:WG prog 5 Tryz.f5 Rows.reachFixedSpec Rows.reachFixedRow=true:=by kernel_rfl
def WH (P:Program) (f:FuncId) (fn:Func) (s:ChangeSpec) (c:OpenClaim):Bool:=(c.loops == (fn.params.toList ++ s.plain.varTypes P).any (P.loopsFrom ·))
theorem Xk:WH prog 5 Tryz.f5 Rows.reachFixedSpec Rows.reachFixedRow=true:=by kernel_rfl
def WI (P:Program) (f:FuncId) (fn:Func) (s:ChangeSpec) (c:OpenClaim):Bool:=(c.wideKeys == (fn.params.toList ++ s.plain.varTypes P ++ fn.resultTypes.toList).any (P.wideKeysFrom ·))
theorem Xl:WI prog 5 Tryz.f5 Rows.reachFixedSpec Rows.reachFixedRow=true:=by kernel_rfl
def WJ (P:Program) (f:FuncId) (fn:Func) (s:ChangeSpec) (c:OpenClaim):Bool:=s.vars.all (P.varReadable ·)
theorem Xm:WJ prog 5 Tryz.f5 Rows.reachFixedSpec Rows.reachFixedRow=true:=by kernel_rfl
def WK (P:Program) (f:FuncId) (fn:Func) (s:ChangeSpec) (c:OpenClaim):Bool:=fn.resultTypes.all (fun t=>P.readableRec t && decide (t < P.types.size))
theorem Xn:WK prog 5 Tryz.f5 Rows.reachFixedSpec Rows.reachFixedRow=true:=by kernel_rfl
def WM (P:Program) (f:FuncId) (fn:Func) (s:ChangeSpec) (c:OpenClaim):Bool:=(c.ifacesOut == fn.resultTypes.toList.any (P.ifacesRec ·))
theorem Xp:WM prog 5 Tryz.f5 Rows.reachFixedSpec Rows.reachFixedRow=true:=by kernel_rfl
def WN (P:Program) (f:FuncId) (fn:Func) (s:ChangeSpec) (c:OpenClaim):Bool:=(c.loopsOut == fn.resultTypes.toList.any (P.loopsFrom ·))
theorem Xq:WN prog 5 Tryz.f5 Rows.reachFixedSpec Rows.reachFixedRow=true:=by kernel_rfl
def WO (P:Program) (f:FuncId) (fn:Func) (s:ChangeSpec) (c:OpenClaim):Bool:=(c.plainKeys == P.plainKeys)
theorem Xr:WO prog 5 Tryz.f5 Rows.reachFixedSpec Rows.reachFixedRow=true:=by kernel_rfl
def WQ (P:Program) (f:FuncId) (fn:Func) (s:ChangeSpec) (c:OpenClaim):Bool:=c.shortTexts.isNone
theorem Xs:WQ prog 5 Tryz.f5 Rows.reachFixedSpec Rows.reachFixedRow=true:=by kernel_rfl
def WR (P:Program) (f:FuncId) (fn:Func) (s:ChangeSpec) (c:OpenClaim):Bool:=P.stopsHeard
theorem Xt:WR prog 5 Tryz.f5 Rows.reachFixedSpec Rows.reachFixedRow=true:=by kernel_rfl
def WS (P:Program) (f:FuncId) (fn:Func) (s:ChangeSpec) (c:OpenClaim):Bool:=P.mayEnter
theorem Xu:WS prog 5 Tryz.f5 Rows.reachFixedSpec Rows.reachFixedRow=true:=by kernel_rfl
def WT (P:Program) (f:FuncId) (fn:Func) (s:ChangeSpec) (c:OpenClaim):Bool:=(c.lifted == P.liftsFinal)
theorem Xv:WT prog 5 Tryz.f5 Rows.reachFixedSpec Rows.reachFixedRow=true:=by kernel_rfl
def WU (P:Program) (f:FuncId) (fn:Func) (s:ChangeSpec) (c:OpenClaim):Bool:=(P.make == some c.make)
theorem Xw:WU prog 5 Tryz.f5 Rows.reachFixedSpec Rows.reachFixedRow=true:=by kernel_rfl
def WV (P:Program) (f:FuncId) (fn:Func) (s:ChangeSpec) (c:OpenClaim):Bool:=(c.kinds == (if c.domain.isEmpty then [] else fn.params.toList.map fun t=>match P.underlying t with | some (.int k)=>some k | _=>none))
theorem Xx:WV prog 5 Tryz.f5 Rows.reachFixedSpec Rows.reachFixedRow=true:=by kernel_rfl
def WW (P:Program) (f:FuncId) (fn:Func) (s:ChangeSpec) (c:OpenClaim):Bool:=(c.pinned == c.pinnedBy)
theorem Xy:WW prog 5 Tryz.f5 Rows.reachFixedSpec Rows.reachFixedRow=true:=by kernel_rfl
def WY (P:Program) (f:FuncId) (fn:Func) (s:ChangeSpec) (c:OpenClaim):Bool:=(c.veiled == (fn.params.toList ++ s.plain.varTypes P ++ fn.resultTypes.toList).any (P.veiledRec ·))
theorem XA:WY prog 5 Tryz.f5 Rows.reachFixedSpec Rows.reachFixedRow=true:=by kernel_rfl
def WZ (P:Program) (f:FuncId) (fn:Func) (s:ChangeSpec) (c:OpenClaim):Bool:=c.veiledFits P fn.params.toList (fn.params.toList ++ s.plain.varTypes P ++ fn.resultTypes.toList)
theorem XB:WZ prog 5 Tryz.f5 Rows.reachFixedSpec Rows.reachFixedRow=true:=by kernel_rfl
