/- Parts. -/
import Derived.Test.YtoohljflflnbeaaGreatDoorFr49
set_option linter.unusedSimpArgs false
set_option linter.unusedVariables false
open Go.Proofs.Tryz
namespace Go.Proofs.YtoohljflflnbeaaGreatDoor
open Go.Av Go.ChangeShapes Go.WideShapes Go.ChangeAt Go.RowKit
def aeB (P:Program) (f:FuncId) (fn:Func) (s:ChangeSpec) (c:OpenClaim):Bool:=c.wf (OpenSpec.ofChange s)
theorem afd:aeB prog 10 Tryz.f10 Rows.reachFarsSpec Rows.reachFarsRow=true:=ah
def aeC (P:Program) (f:FuncId) (fn:Func) (s:ChangeSpec) (c:OpenClaim):Bool:=laidOutB P
theorem afe:aeC prog 10 Tryz.f10 Rows.reachFarsSpec Rows.reachFarsRow=true:=ah
def aeN (P:Program) (f:FuncId) (fn:Func) (s:ChangeSpec) (c:OpenClaim):Bool:=mapsRowed P
theorem afp:aeN prog 10 Tryz.f10 Rows.reachFarsSpec Rows.reachFarsRow=true:=ah
def aeY (P:Program) (f:FuncId) (fn:Func) (s:ChangeSpec) (c:OpenClaim):Bool:=fn.params.all (P.readableRec ·)
theorem afA:aeY prog 10 Tryz.f10 Rows.reachFarsSpec Rows.reachFarsRow=true:=ah
def ae1 (P:Program) (f:FuncId) (fn:Func) (s:ChangeSpec) (c:OpenClaim):Bool:=namedTie P c.named s.vars
theorem afD:ae1 prog 10 Tryz.f10 Rows.reachFarsSpec Rows.reachFarsRow=true:=ah
def ae2 (P:Program) (f:FuncId) (fn:Func) (s:ChangeSpec) (c:OpenClaim):Bool:=(c.stops == [])
theorem afE:ae2 prog 10 Tryz.f10 Rows.reachFarsSpec Rows.reachFarsRow=true:=ah
def ae3 (P:Program) (f:FuncId) (fn:Func) (s:ChangeSpec) (c:OpenClaim):Bool:=(P.stops == [])
theorem afF:ae3 prog 10 Tryz.f10 Rows.reachFarsSpec Rows.reachFarsRow=true:=ah
def ae4 (P:Program) (f:FuncId) (fn:Func) (s:ChangeSpec) (c:OpenClaim):Bool:=(c.knobs == [])
theorem afG:ae4 prog 10 Tryz.f10 Rows.reachFarsSpec Rows.reachFarsRow=true:=ah
def ae5 (P:Program) (f:FuncId) (fn:Func) (s:ChangeSpec) (c:OpenClaim):Bool:=(P.stopKnobs == [])
theorem afH:ae5 prog 10 Tryz.f10 Rows.reachFarsSpec Rows.reachFarsRow=true:=ah
def ae6 (P:Program) (f:FuncId) (fn:Func) (s:ChangeSpec) (c:OpenClaim):Bool:=(c.inPlace == P.inPlace f)
theorem afI:ae6 prog 10 Tryz.f10 Rows.reachFarsSpec Rows.reachFarsRow=true:=ah
def aeD (P:Program) (f:FuncId) (fn:Func) (s:ChangeSpec) (c:OpenClaim):Bool:=(c.unfollowed == P.unfollowed f)
theorem aff:aeD prog 10 Tryz.f10 Rows.reachFarsSpec Rows.reachFarsRow=true:=ah
def aeE (P:Program) (f:FuncId) (fn:Func) (s:ChangeSpec) (c:OpenClaim):Bool:=(c.recurses == P.recurses f)
theorem afg:aeE prog 10 Tryz.f10 Rows.reachFarsSpec Rows.reachFarsRow=true:=ah
def aeF (P:Program) (f:FuncId) (fn:Func) (s:ChangeSpec) (c:OpenClaim):Bool:=(c.named == P.varsNamed f)
theorem afh:aeF prog 10 Tryz.f10 Rows.reachFarsSpec Rows.reachFarsRow=true:=ah
def aeG (P:Program) (f:FuncId) (fn:Func) (s:ChangeSpec) (c:OpenClaim):Bool:=(c.maps == (fn.params.toList ++ s.plain.varTypes P).any (P.mapsRec ·))
theorem afi:aeG prog 10 Tryz.f10 Rows.reachFarsSpec Rows.reachFarsRow=true:=ah
def aeH (P:Program) (f:FuncId) (fn:Func) (s:ChangeSpec) (c:OpenClaim):Bool:=(c.ifaces == (fn.params.toList ++ s.plain.varTypes P).any (P.ifacesRec ·))
theorem afj:aeH prog 10 Tryz.f10 Rows.reachFarsSpec Rows.reachFarsRow=true:=ah
def aeI (P:Program) (f:FuncId) (fn:Func) (s:ChangeSpec) (c:OpenClaim):Bool:=(c.mapsOut == P.mapsAmong fn.resultTypes.toList)
theorem afk:aeI prog 10 Tryz.f10 Rows.reachFarsSpec Rows.reachFarsRow=true:=ah
def aeJ (P:Program) (f:FuncId) (fn:Func) (s:ChangeSpec) (c:OpenClaim):Bool:=(c.loops == (fn.params.toList ++ s.plain.varTypes P).any (P.loopsFrom ·))
theorem afl:aeJ prog 10 Tryz.f10 Rows.reachFarsSpec Rows.reachFarsRow=true:=ah
def aeK (P:Program) (f:FuncId) (fn:Func) (s:ChangeSpec) (c:OpenClaim):Bool:=(c.wideKeys == (fn.params.toList ++ s.plain.varTypes P ++ fn.resultTypes.toList).any (P.wideKeysFrom ·))
theorem afm:aeK prog 10 Tryz.f10 Rows.reachFarsSpec Rows.reachFarsRow=true:=ah
def aeL (P:Program) (f:FuncId) (fn:Func) (s:ChangeSpec) (c:OpenClaim):Bool:=s.vars.all (P.varReadable ·)
theorem afn:aeL prog 10 Tryz.f10 Rows.reachFarsSpec Rows.reachFarsRow=true:=ah
def aeM (P:Program) (f:FuncId) (fn:Func) (s:ChangeSpec) (c:OpenClaim):Bool:=fn.resultTypes.all (fun t=>P.readableRec t && decide (t < P.types.size))
theorem afo:aeM prog 10 Tryz.f10 Rows.reachFarsSpec Rows.reachFarsRow=true:=ah
def aeO (P:Program) (f:FuncId) (fn:Func) (s:ChangeSpec) (c:OpenClaim):Bool:=(c.ifacesOut == fn.resultTypes.toList.any (P.ifacesRec ·))
theorem afq:aeO prog 10 Tryz.f10 Rows.reachFarsSpec Rows.reachFarsRow=true:=ah
def aeP (P:Program) (f:FuncId) (fn:Func) (s:ChangeSpec) (c:OpenClaim):Bool:=(c.loopsOut == fn.resultTypes.toList.any (P.loopsFrom ·))
theorem afr:aeP prog 10 Tryz.f10 Rows.reachFarsSpec Rows.reachFarsRow=true:=ah
def aeQ (P:Program) (f:FuncId) (fn:Func) (s:ChangeSpec) (c:OpenClaim):Bool:=(c.plainKeys == P.plainKeys)
theorem afs:aeQ prog 10 Tryz.f10 Rows.reachFarsSpec Rows.reachFarsRow=true:=ah
def aeR (P:Program) (f:FuncId) (fn:Func) (s:ChangeSpec) (c:OpenClaim):Bool:=c.shortTexts.isNone
theorem aft:aeR prog 10 Tryz.f10 Rows.reachFarsSpec Rows.reachFarsRow=true:=ah
def aeS (P:Program) (f:FuncId) (fn:Func) (s:ChangeSpec) (c:OpenClaim):Bool:=P.stopsHeard
theorem afu:aeS prog 10 Tryz.f10 Rows.reachFarsSpec Rows.reachFarsRow=true:=ah
def aeT (P:Program) (f:FuncId) (fn:Func) (s:ChangeSpec) (c:OpenClaim):Bool:=P.mayEnter
theorem afv:aeT prog 10 Tryz.f10 Rows.reachFarsSpec Rows.reachFarsRow=true:=ah
def aeU (P:Program) (f:FuncId) (fn:Func) (s:ChangeSpec) (c:OpenClaim):Bool:=(c.lifted == P.liftsFinal)
theorem afw:aeU prog 10 Tryz.f10 Rows.reachFarsSpec Rows.reachFarsRow=true:=ah
def aeV (P:Program) (f:FuncId) (fn:Func) (s:ChangeSpec) (c:OpenClaim):Bool:=(P.make == some c.make)
theorem afx:aeV prog 10 Tryz.f10 Rows.reachFarsSpec Rows.reachFarsRow=true:=ah
def aeW (P:Program) (f:FuncId) (fn:Func) (s:ChangeSpec) (c:OpenClaim):Bool:=(c.kinds == (if c.domain.isEmpty then [] else fn.params.toList.map fun t=>match P.underlying t with | some (.int k)=>some k | _=>none))
theorem afy:aeW prog 10 Tryz.f10 Rows.reachFarsSpec Rows.reachFarsRow=true:=ah
def aeX (P:Program) (f:FuncId) (fn:Func) (s:ChangeSpec) (c:OpenClaim):Bool:=(c.pinned == c.pinnedBy)
theorem afz:aeX prog 10 Tryz.f10 Rows.reachFarsSpec Rows.reachFarsRow=true:=ah
def aeZ (P:Program) (f:FuncId) (fn:Func) (s:ChangeSpec) (c:OpenClaim):Bool:=(c.veiled == (fn.params.toList ++ s.plain.varTypes P ++ fn.resultTypes.toList).any (P.veiledRec ·))
theorem afB:aeZ prog 10 Tryz.f10 Rows.reachFarsSpec Rows.reachFarsRow=true:=ah
def ae0 (P:Program) (f:FuncId) (fn:Func) (s:ChangeSpec) (c:OpenClaim):Bool:=c.veiledFits P fn.params.toList (fn.params.toList ++ s.plain.varTypes P ++ fn.resultTypes.toList)
theorem afC:ae0 prog 10 Tryz.f10 Rows.reachFarsSpec Rows.reachFarsRow=true:=ah
