/- Parts. -/
import Derived.Test.YtobejfcgcfdpfaaGreatDoorPc50
set_option linter.unusedSimpArgs false
set_option linter.unusedVariables false
open Go.Proofs.Tryz
namespace Go.Proofs.YtobejfcgcfdpfaaGreatDoor
open Go.Av Go.ChangeShapes Go.WideShapes Go.ChangeAt Go.RowKit
def afQ (P:Program) (f:FuncId) (fn:Func) (s:ChangeSpec) (c:OpenClaim):Bool:=c.wf (OpenSpec.ofChange s)
theorem agt:afQ prog 3 Tryz.f3 Rows.propChecksSpec Rows.propChecksRow=true:=ah
def afR (P:Program) (f:FuncId) (fn:Func) (s:ChangeSpec) (c:OpenClaim):Bool:=laidOutB P
theorem agu:afR prog 3 Tryz.f3 Rows.propChecksSpec Rows.propChecksRow=true:=ah
def af2 (P:Program) (f:FuncId) (fn:Func) (s:ChangeSpec) (c:OpenClaim):Bool:=mapsRowed P
theorem agF:af2 prog 3 Tryz.f3 Rows.propChecksSpec Rows.propChecksRow=true:=ah
def agd (P:Program) (f:FuncId) (fn:Func) (s:ChangeSpec) (c:OpenClaim):Bool:=fn.params.all (P.readableRec ·)
theorem agQ:agd prog 3 Tryz.f3 Rows.propChecksSpec Rows.propChecksRow=true:=ah
def agh (P:Program) (f:FuncId) (fn:Func) (s:ChangeSpec) (c:OpenClaim):Bool:=namedTie P c.named s.vars
theorem agT:agh prog 3 Tryz.f3 Rows.propChecksSpec Rows.propChecksRow=true:=ah
def agi (P:Program) (f:FuncId) (fn:Func) (s:ChangeSpec) (c:OpenClaim):Bool:=(c.stops == [])
theorem agU:agi prog 3 Tryz.f3 Rows.propChecksSpec Rows.propChecksRow=true:=ah
def agj (P:Program) (f:FuncId) (fn:Func) (s:ChangeSpec) (c:OpenClaim):Bool:=(P.stops == [])
theorem agV:agj prog 3 Tryz.f3 Rows.propChecksSpec Rows.propChecksRow=true:=ah
def agk (P:Program) (f:FuncId) (fn:Func) (s:ChangeSpec) (c:OpenClaim):Bool:=(c.knobs == [])
theorem agW:agk prog 3 Tryz.f3 Rows.propChecksSpec Rows.propChecksRow=true:=ah
def agl (P:Program) (f:FuncId) (fn:Func) (s:ChangeSpec) (c:OpenClaim):Bool:=(P.stopKnobs == [])
theorem agX:agl prog 3 Tryz.f3 Rows.propChecksSpec Rows.propChecksRow=true:=ah
def agm (P:Program) (f:FuncId) (fn:Func) (s:ChangeSpec) (c:OpenClaim):Bool:=(c.inPlace == P.inPlace f)
theorem agY:agm prog 3 Tryz.f3 Rows.propChecksSpec Rows.propChecksRow=true:=ah
def afS (P:Program) (f:FuncId) (fn:Func) (s:ChangeSpec) (c:OpenClaim):Bool:=(c.unfollowed == P.unfollowed f)
theorem agv:afS prog 3 Tryz.f3 Rows.propChecksSpec Rows.propChecksRow=true:=ah
def afT (P:Program) (f:FuncId) (fn:Func) (s:ChangeSpec) (c:OpenClaim):Bool:=(c.recurses == P.recurses f)
theorem agw:afT prog 3 Tryz.f3 Rows.propChecksSpec Rows.propChecksRow=true:=ah
def afU (P:Program) (f:FuncId) (fn:Func) (s:ChangeSpec) (c:OpenClaim):Bool:=(c.named == P.varsNamed f)
theorem agx:afU prog 3 Tryz.f3 Rows.propChecksSpec Rows.propChecksRow=true:=ah
def afV (P:Program) (f:FuncId) (fn:Func) (s:ChangeSpec) (c:OpenClaim):Bool:=(c.maps == (fn.params.toList ++ s.plain.varTypes P).any (P.mapsRec ·))
theorem agy:afV prog 3 Tryz.f3 Rows.propChecksSpec Rows.propChecksRow=true:=ah
def afW (P:Program) (f:FuncId) (fn:Func) (s:ChangeSpec) (c:OpenClaim):Bool:=(c.ifaces == (fn.params.toList ++ s.plain.varTypes P).any (P.ifacesRec ·))
theorem agz:afW prog 3 Tryz.f3 Rows.propChecksSpec Rows.propChecksRow=true:=ah
def afX (P:Program) (f:FuncId) (fn:Func) (s:ChangeSpec) (c:OpenClaim):Bool:=(c.mapsOut == P.mapsAmong fn.resultTypes.toList)
theorem agA:afX prog 3 Tryz.f3 Rows.propChecksSpec Rows.propChecksRow=true:=ah
def afY (P:Program) (f:FuncId) (fn:Func) (s:ChangeSpec) (c:OpenClaim):Bool:=(c.loops == (fn.params.toList ++ s.plain.varTypes P).any (P.loopsFrom ·))
theorem agB:afY prog 3 Tryz.f3 Rows.propChecksSpec Rows.propChecksRow=true:=ah
def afZ (P:Program) (f:FuncId) (fn:Func) (s:ChangeSpec) (c:OpenClaim):Bool:=(c.wideKeys == (fn.params.toList ++ s.plain.varTypes P ++ fn.resultTypes.toList).any (P.wideKeysFrom ·))
theorem agC:afZ prog 3 Tryz.f3 Rows.propChecksSpec Rows.propChecksRow=true:=ah
def af0 (P:Program) (f:FuncId) (fn:Func) (s:ChangeSpec) (c:OpenClaim):Bool:=s.vars.all (P.varReadable ·)
theorem agD:af0 prog 3 Tryz.f3 Rows.propChecksSpec Rows.propChecksRow=true:=ah
def af1 (P:Program) (f:FuncId) (fn:Func) (s:ChangeSpec) (c:OpenClaim):Bool:=fn.resultTypes.all (fun t=>P.readableRec t && decide (t < P.types.size))
theorem agE:af1 prog 3 Tryz.f3 Rows.propChecksSpec Rows.propChecksRow=true:=ah
def af3 (P:Program) (f:FuncId) (fn:Func) (s:ChangeSpec) (c:OpenClaim):Bool:=(c.ifacesOut == fn.resultTypes.toList.any (P.ifacesRec ·))
theorem agG:af3 prog 3 Tryz.f3 Rows.propChecksSpec Rows.propChecksRow=true:=ah
def af4 (P:Program) (f:FuncId) (fn:Func) (s:ChangeSpec) (c:OpenClaim):Bool:=(c.loopsOut == fn.resultTypes.toList.any (P.loopsFrom ·))
theorem agH:af4 prog 3 Tryz.f3 Rows.propChecksSpec Rows.propChecksRow=true:=ah
def af5 (P:Program) (f:FuncId) (fn:Func) (s:ChangeSpec) (c:OpenClaim):Bool:=(c.plainKeys == P.plainKeys)
theorem agI:af5 prog 3 Tryz.f3 Rows.propChecksSpec Rows.propChecksRow=true:=ah
def af6 (P:Program) (f:FuncId) (fn:Func) (s:ChangeSpec) (c:OpenClaim):Bool:=c.shortTexts.isNone
theorem agJ:af6 prog 3 Tryz.f3 Rows.propChecksSpec Rows.propChecksRow=true:=ah
def af7 (P:Program) (f:FuncId) (fn:Func) (s:ChangeSpec) (c:OpenClaim):Bool:=P.stopsHeard
theorem agK:af7 prog 3 Tryz.f3 Rows.propChecksSpec Rows.propChecksRow=true:=ah
def af8 (P:Program) (f:FuncId) (fn:Func) (s:ChangeSpec) (c:OpenClaim):Bool:=P.mayEnter
theorem agL:af8 prog 3 Tryz.f3 Rows.propChecksSpec Rows.propChecksRow=true:=ah
def af9 (P:Program) (f:FuncId) (fn:Func) (s:ChangeSpec) (c:OpenClaim):Bool:=(c.lifted == P.liftsFinal)
theorem agM:af9 prog 3 Tryz.f3 Rows.propChecksSpec Rows.propChecksRow=true:=ah
def aga (P:Program) (f:FuncId) (fn:Func) (s:ChangeSpec) (c:OpenClaim):Bool:=(P.make == some c.make)
theorem agN:aga prog 3 Tryz.f3 Rows.propChecksSpec Rows.propChecksRow=true:=ah
def agb (P:Program) (f:FuncId) (fn:Func) (s:ChangeSpec) (c:OpenClaim):Bool:=(c.kinds == (if c.domain.isEmpty then [] else fn.params.toList.map fun t=>match P.underlying t with | some (.int k)=>some k | _=>none))
theorem agO:agb prog 3 Tryz.f3 Rows.propChecksSpec Rows.propChecksRow=true:=ah
def agc (P:Program) (f:FuncId) (fn:Func) (s:ChangeSpec) (c:OpenClaim):Bool:=(c.pinned == c.pinnedBy)
theorem agP:agc prog 3 Tryz.f3 Rows.propChecksSpec Rows.propChecksRow=true:=ah
def age (P:Program) (f:FuncId) (fn:Func) (s:ChangeSpec) (c:OpenClaim):Bool:=(c.veiled == (fn.params.toList ++ s.plain.varTypes P ++ fn.resultTypes.toList).any (P.veiledRec ·))
theorem agR:age prog 3 Tryz.f3 Rows.propChecksSpec Rows.propChecksRow=true:=ah
def agf (P:Program) (f:FuncId) (fn:Func) (s:ChangeSpec) (c:OpenClaim):Bool:=c.veiledFits P fn.params.toList (fn.params.toList ++ s.plain.varTypes P ++ fn.resultTypes.toList)
theorem agS:agf prog 3 Tryz.f3 Rows.propChecksSpec Rows.propChecksRow=true:=ah
