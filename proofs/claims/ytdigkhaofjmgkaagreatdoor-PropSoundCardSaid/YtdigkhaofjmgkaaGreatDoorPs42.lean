/- Parts. -/
import Derived.Test.YtdigkhaofjmgkaaGreatDoorPs41
set_option linter.unusedSimpArgs false
set_option linter.unusedVariables false
open Go.Proofs.Tryz
namespace Go.Proofs.YtdigkhaofjmgkaaGreatDoor
open Go.Av Go.ChangeShapes Go.WideShapes Go.ChangeAt Go.RowKit
def SS (P:Program) (f:FuncId) (fn:Func) (s:ChangeSpec) (c:OpenClaim):Bool:=c.wf (OpenSpec.ofChange s)
theorem Tu:SS prog 9 Tryz.f9 Rows.propSoundSpec Rows.propSoundRow=true:=by kernel_rfl
def SU (P:Program) (f:FuncId) (fn:Func) (s:ChangeSpec) (c:OpenClaim):Bool:=laidOutB P
theorem Tv:SU prog 9 Tryz.f9 Rows.propSoundSpec Rows.propSoundRow=true:=by kernel_rfl
def S5 (P:Program) (f:FuncId) (fn:Func) (s:ChangeSpec) (c:OpenClaim):Bool:=mapsRowed P
theorem TG:S5 prog 9 Tryz.f9 Rows.propSoundSpec Rows.propSoundRow=true:=by kernel_rfl
def Tg (P:Program) (f:FuncId) (fn:Func) (s:ChangeSpec) (c:OpenClaim):Bool:=fn.params.all (P.readableRec ·)
theorem TS:Tg prog 9 Tryz.f9 Rows.propSoundSpec Rows.propSoundRow=true:=by kernel_rfl
def Tj (P:Program) (f:FuncId) (fn:Func) (s:ChangeSpec) (c:OpenClaim):Bool:=namedTie P c.named s.vars
theorem TV:Tj prog 9 Tryz.f9 Rows.propSoundSpec Rows.propSoundRow=true:=by kernel_rfl
def Tk (P:Program) (f:FuncId) (fn:Func) (s:ChangeSpec) (c:OpenClaim):Bool:=(c.stops == [])
theorem TW:Tk prog 9 Tryz.f9 Rows.propSoundSpec Rows.propSoundRow=true:=by kernel_rfl
def Tl (P:Program) (f:FuncId) (fn:Func) (s:ChangeSpec) (c:OpenClaim):Bool:=(P.stops == [])
theorem TX:Tl prog 9 Tryz.f9 Rows.propSoundSpec Rows.propSoundRow=true:=by kernel_rfl
def Tm (P:Program) (f:FuncId) (fn:Func) (s:ChangeSpec) (c:OpenClaim):Bool:=(c.knobs == [])
theorem TY:Tm prog 9 Tryz.f9 Rows.propSoundSpec Rows.propSoundRow=true:=by kernel_rfl
def Tn (P:Program) (f:FuncId) (fn:Func) (s:ChangeSpec) (c:OpenClaim):Bool:=(P.stopKnobs == [])
theorem TZ:Tn prog 9 Tryz.f9 Rows.propSoundSpec Rows.propSoundRow=true:=by kernel_rfl
def To (P:Program) (f:FuncId) (fn:Func) (s:ChangeSpec) (c:OpenClaim):Bool:=(c.inPlace == P.inPlace f)
theorem T0:To prog 9 Tryz.f9 Rows.propSoundSpec Rows.propSoundRow=true:=by kernel_rfl
def SV (P:Program) (f:FuncId) (fn:Func) (s:ChangeSpec) (c:OpenClaim):Bool:=(c.unfollowed == P.unfollowed f)
theorem Tw:SV prog 9 Tryz.f9 Rows.propSoundSpec Rows.propSoundRow=true:=by kernel_rfl
def SW (P:Program) (f:FuncId) (fn:Func) (s:ChangeSpec) (c:OpenClaim):Bool:=(c.recurses == P.recurses f)
theorem aed:SW prog 9 Tryz.f9 Rows.propSoundSpec Rows.propSoundRow=true:=by kernel_rfl
def SX (P:Program) (f:FuncId) (fn:Func) (s:ChangeSpec) (c:OpenClaim):Bool:=(c.named == P.varsNamed f)
theorem aee:SX prog 9 Tryz.f9 Rows.propSoundSpec Rows.propSoundRow=true:=by kernel_rfl
def SY (P:Program) (f:FuncId) (fn:Func) (s:ChangeSpec) (c:OpenClaim):Bool:=(c.maps == (fn.params.toList ++ s.plain.varTypes P).any (P.mapsRec ·))
theorem Tz:SY prog 9 Tryz.f9 Rows.propSoundSpec Rows.propSoundRow=true:=by kernel_rfl
def SZ (P:Program) (f:FuncId) (fn:Func) (s:ChangeSpec) (c:OpenClaim):Bool:=(c.ifaces == (fn.params.toList ++ s.plain.varTypes P).any (P.ifacesRec ·))
theorem TA:SZ prog 9 Tryz.f9 Rows.propSoundSpec Rows.propSoundRow=true:=by kernel_rfl
def S0 (P:Program) (f:FuncId) (fn:Func) (s:ChangeSpec) (c:OpenClaim):Bool:=(c.mapsOut == P.mapsAmong fn.resultTypes.toList)
theorem TB:S0 prog 9 Tryz.f9 Rows.propSoundSpec Rows.propSoundRow=true:=by kernel_rfl
def aeb (P:Program) (f:FuncId) (fn:Func) (s:ChangeSpec) (c:OpenClaim):Bool:=(c.loops == (fn.params.toList ++ s.plain.varTypes P).any (P.loopsFrom ·))
theorem aef:aeb prog 9 Tryz.f9 Rows.propSoundSpec Rows.propSoundRow=true:=by kernel_rfl
def aec (P:Program) (f:FuncId) (fn:Func) (s:ChangeSpec) (c:OpenClaim):Bool:=(c.wideKeys == (fn.params.toList ++ s.plain.varTypes P ++ fn.resultTypes.toList).any (P.wideKeysFrom ·))
theorem TD:aec prog 9 Tryz.f9 Rows.propSoundSpec Rows.propSoundRow=true:=by kernel_rfl
def S3 (P:Program) (f:FuncId) (fn:Func) (s:ChangeSpec) (c:OpenClaim):Bool:=s.vars.all (P.varReadable ·)
theorem TE:S3 prog 9 Tryz.f9 Rows.propSoundSpec Rows.propSoundRow=true:=by kernel_rfl
def S4 (P:Program) (f:FuncId) (fn:Func) (s:ChangeSpec) (c:OpenClaim):Bool:=fn.resultTypes.all (fun t=>P.readableRec t && decide (t < P.types.size))
theorem TF:S4 prog 9 Tryz.f9 Rows.propSoundSpec Rows.propSoundRow=true:=by kernel_rfl
def S6 (P:Program) (f:FuncId) (fn:Func) (s:ChangeSpec) (c:OpenClaim):Bool:=(c.ifacesOut == fn.resultTypes.toList.any (P.ifacesRec ·))
theorem TH:S6 prog 9 Tryz.f9 Rows.propSoundSpec Rows.propSoundRow=true:=by kernel_rfl
def S7 (P:Program) (f:FuncId) (fn:Func) (s:ChangeSpec) (c:OpenClaim):Bool:=(c.loopsOut == fn.resultTypes.toList.any (P.loopsFrom ·))
theorem aeg:S7 prog 9 Tryz.f9 Rows.propSoundSpec Rows.propSoundRow=true:=by kernel_rfl
def S8 (P:Program) (f:FuncId) (fn:Func) (s:ChangeSpec) (c:OpenClaim):Bool:=(c.plainKeys == P.plainKeys)
theorem TJ:S8 prog 9 Tryz.f9 Rows.propSoundSpec Rows.propSoundRow=true:=by kernel_rfl
def S9 (P:Program) (f:FuncId) (fn:Func) (s:ChangeSpec) (c:OpenClaim):Bool:=c.shortTexts.isNone
theorem TK:S9 prog 9 Tryz.f9 Rows.propSoundSpec Rows.propSoundRow=true:=by kernel_rfl
def Ta (P:Program) (f:FuncId) (fn:Func) (s:ChangeSpec) (c:OpenClaim):Bool:=P.stopsHeard
theorem TL:Ta prog 9 Tryz.f9 Rows.propSoundSpec Rows.propSoundRow=true:=by kernel_rfl
def Tb (P:Program) (f:FuncId) (fn:Func) (s:ChangeSpec) (c:OpenClaim):Bool:=P.mayEnter
theorem TM:Tb prog 9 Tryz.f9 Rows.propSoundSpec Rows.propSoundRow=true:=by kernel_rfl
def Tc (P:Program) (f:FuncId) (fn:Func) (s:ChangeSpec) (c:OpenClaim):Bool:=(c.lifted == P.liftsFinal)
theorem TO:Tc prog 9 Tryz.f9 Rows.propSoundSpec Rows.propSoundRow=true:=by kernel_rfl
def Td (P:Program) (f:FuncId) (fn:Func) (s:ChangeSpec) (c:OpenClaim):Bool:=(P.make == some c.make)
theorem TP:Td prog 9 Tryz.f9 Rows.propSoundSpec Rows.propSoundRow=true:=by kernel_rfl
def Te (P:Program) (f:FuncId) (fn:Func) (s:ChangeSpec) (c:OpenClaim):Bool:=(c.kinds == (if c.domain.isEmpty then [] else fn.params.toList.map fun t=>match P.underlying t with | some (.int k)=>some k | _=>none))
theorem TQ:Te prog 9 Tryz.f9 Rows.propSoundSpec Rows.propSoundRow=true:=by kernel_rfl
def Tf (P:Program) (f:FuncId) (fn:Func) (s:ChangeSpec) (c:OpenClaim):Bool:=(c.pinned == c.pinnedBy)
theorem TR:Tf prog 9 Tryz.f9 Rows.propSoundSpec Rows.propSoundRow=true:=by kernel_rfl
def Th (P:Program) (f:FuncId) (fn:Func) (s:ChangeSpec) (c:OpenClaim):Bool:=(c.veiled == (fn.params.toList ++ s.plain.varTypes P ++ fn.resultTypes.toList).any (P.veiledRec ·))
theorem TT:Th prog 9 Tryz.f9 Rows.propSoundSpec Rows.propSoundRow=true:=by kernel_rfl
def Ti (P:Program) (f:FuncId) (fn:Func) (s:ChangeSpec) (c:OpenClaim):Bool:=c.veiledFits P fn.params.toList (fn.params.toList ++ s.plain.varTypes P ++ fn.resultTypes.toList)
theorem TU:Ti prog 9 Tryz.f9 Rows.propSoundSpec Rows.propSoundRow=true:=by kernel_rfl
