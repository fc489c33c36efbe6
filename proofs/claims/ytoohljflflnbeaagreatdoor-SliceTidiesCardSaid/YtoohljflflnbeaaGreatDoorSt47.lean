/- Parts. -/
import Derived.Test.YtoohljflflnbeaaGreatDoorSt46
set_option linter.unusedSimpArgs false
set_option linter.unusedVariables false
open Go.Proofs.Tryz
namespace Go.Proofs.YtoohljflflnbeaaGreatDoor
open Go.Av Go.ChangeShapes Go.WideShapes Go.ChangeAt Go.RowKit
def W7 (P:Program) (f:FuncId) (fn:Func) (s:ChangeSpec) (c:OpenClaim):Bool:=c.wf (OpenSpec.ofChange s)
theorem XL:W7 prog 8 Tryz.f8 Rows.sliceTidiesSpec Rows.sliceTidiesRow=true:=ag
def W8 (P:Program) (f:FuncId) (fn:Func) (s:ChangeSpec) (c:OpenClaim):Bool:=laidOutB P
theorem XM:W8 prog 8 Tryz.f8 Rows.sliceTidiesSpec Rows.sliceTidiesRow=true:=ag
def Xj (P:Program) (f:FuncId) (fn:Func) (s:ChangeSpec) (c:OpenClaim):Bool:=mapsRowed P
theorem XY:Xj prog 8 Tryz.f8 Rows.sliceTidiesSpec Rows.sliceTidiesRow=true:=ag
def Xu (P:Program) (f:FuncId) (fn:Func) (s:ChangeSpec) (c:OpenClaim):Bool:=fn.params.all (P.readableRec ·)
theorem X9:Xu prog 8 Tryz.f8 Rows.sliceTidiesSpec Rows.sliceTidiesRow=true:=ag
def Xx (P:Program) (f:FuncId) (fn:Func) (s:ChangeSpec) (c:OpenClaim):Bool:=namedTie P c.named s.vars
theorem Yc:Xx prog 8 Tryz.f8 Rows.sliceTidiesSpec Rows.sliceTidiesRow=true:=ag
def Xy (P:Program) (f:FuncId) (fn:Func) (s:ChangeSpec) (c:OpenClaim):Bool:=(c.stops == [])
theorem Yd:Xy prog 8 Tryz.f8 Rows.sliceTidiesSpec Rows.sliceTidiesRow=true:=ag
def Xz (P:Program) (f:FuncId) (fn:Func) (s:ChangeSpec) (c:OpenClaim):Bool:=(P.stops == [])
theorem Ye:Xz prog 8 Tryz.f8 Rows.sliceTidiesSpec Rows.sliceTidiesRow=true:=ag
def XA (P:Program) (f:FuncId) (fn:Func) (s:ChangeSpec) (c:OpenClaim):Bool:=(c.knobs == [])
theorem Yf:XA prog 8 Tryz.f8 Rows.sliceTidiesSpec Rows.sliceTidiesRow=true:=ag
def XB (P:Program) (f:FuncId) (fn:Func) (s:ChangeSpec) (c:OpenClaim):Bool:=(P.stopKnobs == [])
theorem Yg:XB prog 8 Tryz.f8 Rows.sliceTidiesSpec Rows.sliceTidiesRow=true:=ag
def XC (P:Program) (f:FuncId) (fn:Func) (s:ChangeSpec) (c:OpenClaim):Bool:=(c.inPlace == P.inPlace f)
theorem Yh:XC prog 8 Tryz.f8 Rows.sliceTidiesSpec Rows.sliceTidiesRow=true:=ag
def W9 (P:Program) (f:FuncId) (fn:Func) (s:ChangeSpec) (c:OpenClaim):Bool:=(c.unfollowed == P.unfollowed f)
theorem XN:W9 prog 8 Tryz.f8 Rows.sliceTidiesSpec Rows.sliceTidiesRow=true:=ag
def Xa (P:Program) (f:FuncId) (fn:Func) (s:ChangeSpec) (c:OpenClaim):Bool:=(c.recurses == P.recurses f)
theorem XO:Xa prog 8 Tryz.f8 Rows.sliceTidiesSpec Rows.sliceTidiesRow=true:=ag
def Xb (P:Program) (f:FuncId) (fn:Func) (s:ChangeSpec) (c:OpenClaim):Bool:=(c.named == P.varsNamed f)
theorem XP:Xb prog 8 Tryz.f8 Rows.sliceTidiesSpec Rows.sliceTidiesRow=true:=ag
def Xc (P:Program) (f:FuncId) (fn:Func) (s:ChangeSpec) (c:OpenClaim):Bool:=(c.maps == (fn.params.toList ++ s.plain.varTypes P).any (P.mapsRec ·))
theorem XQ:Xc prog 8 Tryz.f8 Rows.sliceTidiesSpec Rows.sliceTidiesRow=true:=ag
def Xd (P:Program) (f:FuncId) (fn:Func) (s:ChangeSpec) (c:OpenClaim):Bool:=(c.ifaces == (fn.params.toList ++ s.plain.varTypes P).any (P.ifacesRec ·))
theorem XR:Xd prog 8 Tryz.f8 Rows.sliceTidiesSpec Rows.sliceTidiesRow=true:=ag
def Xe (P:Program) (f:FuncId) (fn:Func) (s:ChangeSpec) (c:OpenClaim):Bool:=(c.mapsOut == P.mapsAmong fn.resultTypes.toList)
theorem XS:Xe prog 8 Tryz.f8 Rows.sliceTidiesSpec Rows.sliceTidiesRow=true:=ag
def Xf (P:Program) (f:FuncId) (fn:Func) (s:ChangeSpec) (c:OpenClaim):Bool:=(c.loops == (fn.params.toList ++ s.plain.varTypes P).any (P.loopsFrom ·))
theorem XT:Xf prog 8 Tryz.f8 Rows.sliceTidiesSpec Rows.sliceTidiesRow=true:=ag
def Xg (P:Program) (f:FuncId) (fn:Func) (s:ChangeSpec) (c:OpenClaim):Bool:=(c.wideKeys == (fn.params.toList ++ s.plain.varTypes P ++ fn.resultTypes.toList).any (P.wideKeysFrom ·))
theorem XU:Xg prog 8 Tryz.f8 Rows.sliceTidiesSpec Rows.sliceTidiesRow=true:=ag
def Xh (P:Program) (f:FuncId) (fn:Func) (s:ChangeSpec) (c:OpenClaim):Bool:=s.vars.all (P.varReadable ·)
theorem XV:Xh prog 8 Tryz.f8 Rows.sliceTidiesSpec Rows.sliceTidiesRow=true:=ag
def Xi (P:Program) (f:FuncId) (fn:Func) (s:ChangeSpec) (c:OpenClaim):Bool:=fn.resultTypes.all (fun t=>P.readableRec t && decide (t < P.types.size))
theorem XW:Xi prog 8 Tryz.f8 Rows.sliceTidiesSpec Rows.sliceTidiesRow=true:=ag
def Xk (P:Program) (f:FuncId) (fn:Func) (s:ChangeSpec) (c:OpenClaim):Bool:=(c.ifacesOut == fn.resultTypes.toList.any (P.ifacesRec ·))
theorem XZ:Xk prog 8 Tryz.f8 Rows.sliceTidiesSpec Rows.sliceTidiesRow=true:=ag
def Xl (P:Program) (f:FuncId) (fn:Func) (s:ChangeSpec) (c:OpenClaim):Bool:=(c.loopsOut == fn.resultTypes.toList.any (P.loopsFrom ·))
theorem X0:Xl prog 8 Tryz.f8 Rows.sliceTidiesSpec Rows.sliceTidiesRow=true:=ag
def Xm (P:Program) (f:FuncId) (fn:Func) (s:ChangeSpec) (c:OpenClaim):Bool:=(c.plainKeys == P.plainKeys)
theorem X1:Xm prog 8 Tryz.f8 Rows.sliceTidiesSpec Rows.sliceTidiesRow=true:=ag
def Xn (P:Program) (f:FuncId) (fn:Func) (s:ChangeSpec) (c:OpenClaim):Bool:=c.shortTexts.isNone
theorem X2:Xn prog 8 Tryz.f8 Rows.sliceTidiesSpec Rows.sliceTidiesRow=true:=ag
def Xo (P:Program) (f:FuncId) (fn:Func) (s:ChangeSpec) (c:OpenClaim):Bool:=P.stopsHeard
theorem X3:Xo prog 8 Tryz.f8 Rows.sliceTidiesSpec Rows.sliceTidiesRow=true:=ag
def Xp (P:Program) (f:FuncId) (fn:Func) (s:ChangeSpec) (c:OpenClaim):Bool:=P.mayEnter
theorem X4:Xp prog 8 Tryz.f8 Rows.sliceTidiesSpec Rows.sliceTidiesRow=true:=ag
def Xq (P:Program) (f:FuncId) (fn:Func) (s:ChangeSpec) (c:OpenClaim):Bool:=(c.lifted == P.liftsFinal)
theorem X5:Xq prog 8 Tryz.f8 Rows.sliceTidiesSpec Rows.sliceTidiesRow=true:=ag
def Xr (P:Program) (f:FuncId) (fn:Func) (s:ChangeSpec) (c:OpenClaim):Bool:=(P.make == some c.make)
theorem X6:Xr prog 8 Tryz.f8 Rows.sliceTidiesSpec Rows.sliceTidiesRow=true:=ag
def Xs (P:Program) (f:FuncId) (fn:Func) (s:ChangeSpec) (c:OpenClaim):Bool:=(c.kinds == (if c.domain.isEmpty then [] else fn.params.toList.map fun t=>match P.underlying t with | some (.int k)=>some k | _=>none))
theorem X7:Xs prog 8 Tryz.f8 Rows.sliceTidiesSpec Rows.sliceTidiesRow=true:=ag
def Xt (P:Program) (f:FuncId) (fn:Func) (s:ChangeSpec) (c:OpenClaim):Bool:=(c.pinned == c.pinnedBy)
theorem X8:Xt prog 8 Tryz.f8 Rows.sliceTidiesSpec Rows.sliceTidiesRow=true:=ag
def Xv (P:Program) (f:FuncId) (fn:Func) (s:ChangeSpec) (c:OpenClaim):Bool:=(c.veiled == (fn.params.toList ++ s.plain.varTypes P ++ fn.resultTypes.toList).any (P.veiledRec ·))
theorem Ya:Xv prog 8 Tryz.f8 Rows.sliceTidiesSpec Rows.sliceTidiesRow=true:=ag
def Xw (P:Program) (f:FuncId) (fn:Func) (s:ChangeSpec) (c:OpenClaim):Bool:=c.veiledFits P fn.params.toList (fn.params.toList ++ s.plain.varTypes P ++ fn.resultTypes.toList)
theorem Yb:Xw prog 8 Tryz.f8 Rows.sliceTidiesSpec Rows.sliceTidiesRow=true:=ag
