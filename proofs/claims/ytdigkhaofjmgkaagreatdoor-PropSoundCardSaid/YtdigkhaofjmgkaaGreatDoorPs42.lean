/-
  Texts that belong together,in one file: L40f.
-/
import Derived.Test.YtdigkhaofjmgkaaGreatDoorPs41
set_option linter.unusedSimpArgs false
set_option linter.unusedVariables false
namespace Go.Proofs.YtdigkhaofjmgkaaGreatDoor
open Go.Av Go.ChangeShapes Go.WideShapes Go.ChangeAt Go.RowKit
def SU (P:Program) (f:FuncId) (fn:Func) (s:ChangeSpec) (c:OpenClaim):Bool:=c.wf (OpenSpec.ofChange s)
theorem Tv:SU Tryz.prog 9 Tryz.f9 Rows.propSoundSpec Rows.propSoundRow=true:=by kernel_rfl
def SV (P:Program) (f:FuncId) (fn:Func) (s:ChangeSpec) (c:OpenClaim):Bool:=laidOutB P
theorem Tw:SV Tryz.prog 9 Tryz.f9 Rows.propSoundSpec Rows.propSoundRow=true:=by kernel_rfl
def S6 (P:Program) (f:FuncId) (fn:Func) (s:ChangeSpec) (c:OpenClaim):Bool:=mapsRowed P
theorem TH:S6 Tryz.prog 9 Tryz.f9 Rows.propSoundSpec Rows.propSoundRow=true:=by kernel_rfl
def Th (P:Program) (f:FuncId) (fn:Func) (s:ChangeSpec) (c:OpenClaim):Bool:=fn.params.all (P.readableRec ·)
theorem TT:Th Tryz.prog 9 Tryz.f9 Rows.propSoundSpec Rows.propSoundRow=true:=by kernel_rfl
def Tk (P:Program) (f:FuncId) (fn:Func) (s:ChangeSpec) (c:OpenClaim):Bool:=namedTie P c.named s.vars
theorem TW:Tk Tryz.prog 9 Tryz.f9 Rows.propSoundSpec Rows.propSoundRow=true:=by kernel_rfl
def Tl (P:Program) (f:FuncId) (fn:Func) (s:ChangeSpec) (c:OpenClaim):Bool:=(c.stops == [])
theorem TX:Tl Tryz.prog 9 Tryz.f9 Rows.propSoundSpec Rows.propSoundRow=true:=by kernel_rfl
def Tm (P:Program) (f:FuncId) (fn:Func) (s:ChangeSpec) (c:OpenClaim):Bool:=(P.stops == [])
theorem TY:Tm Tryz.prog 9 Tryz.f9 Rows.propSoundSpec Rows.propSoundRow=true:=by kernel_rfl
def Tn (P:Program) (f:FuncId) (fn:Func) (s:ChangeSpec) (c:OpenClaim):Bool:=(c.knobs == [])
theorem TZ:Tn Tryz.prog 9 Tryz.f9 Rows.propSoundSpec Rows.propSoundRow=true:=by kernel_rfl
def To (P:Program) (f:FuncId) (fn:Func) (s:ChangeSpec) (c:OpenClaim):Bool:=(P.stopKnobs == [])
theorem T0:To Tryz.prog 9 Tryz.f9 Rows.propSoundSpec Rows.propSoundRow=true:=by kernel_rfl
def Tp (P:Program) (f:FuncId) (fn:Func) (s:ChangeSpec) (c:OpenClaim):Bool:=(c.inPlace == P.inPlace f)
theorem aei:Tp Tryz.prog 9 Tryz.f9 Rows.propSoundSpec Rows.propSoundRow=true:=by kernel_rfl
def SW (P:Program) (f:FuncId) (fn:Func) (s:ChangeSpec) (c:OpenClaim):Bool:=(c.unfollowed == P.unfollowed f)
theorem aee:SW Tryz.prog 9 Tryz.f9 Rows.propSoundSpec Rows.propSoundRow=true:=by kernel_rfl
def SX (P:Program) (f:FuncId) (fn:Func) (s:ChangeSpec) (c:OpenClaim):Bool:=(c.recurses == P.recurses f)
theorem aef:SX Tryz.prog 9 Tryz.f9 Rows.propSoundSpec Rows.propSoundRow=true:=by kernel_rfl
def SY (P:Program) (f:FuncId) (fn:Func) (s:ChangeSpec) (c:OpenClaim):Bool:=(c.named == P.varsNamed f)
theorem Tz:SY Tryz.prog 9 Tryz.f9 Rows.propSoundSpec Rows.propSoundRow=true:=by kernel_rfl
def SZ (P:Program) (f:FuncId) (fn:Func) (s:ChangeSpec) (c:OpenClaim):Bool:=(c.maps == (fn.params.toList ++ s.plain.varTypes P).any (P.mapsRec ·))
theorem TA:SZ Tryz.prog 9 Tryz.f9 Rows.propSoundSpec Rows.propSoundRow=true:=by kernel_rfl
def S0 (P:Program) (f:FuncId) (fn:Func) (s:ChangeSpec) (c:OpenClaim):Bool:=(c.ifaces == (fn.params.toList ++ s.plain.varTypes P).any (P.ifacesRec ·))
theorem TB:S0 Tryz.prog 9 Tryz.f9 Rows.propSoundSpec Rows.propSoundRow=true:=by kernel_rfl
def aec (P:Program) (f:FuncId) (fn:Func) (s:ChangeSpec) (c:OpenClaim):Bool:=(c.mapsOut == P.mapsAmong fn.resultTypes.toList)
theorem aeg:aec Tryz.prog 9 Tryz.f9 Rows.propSoundSpec Rows.propSoundRow=true:=by kernel_rfl
def aed (P:Program) (f:FuncId) (fn:Func) (s:ChangeSpec) (c:OpenClaim):Bool:=(c.loops == (fn.params.toList ++ s.plain.varTypes P).any (P.loopsFrom ·))
theorem TD:aed Tryz.prog 9 Tryz.f9 Rows.propSoundSpec Rows.propSoundRow=true:=by kernel_rfl
def S3 (P:Program) (f:FuncId) (fn:Func) (s:ChangeSpec) (c:OpenClaim):Bool:=(c.wideKeys == (fn.params.toList ++ s.plain.varTypes P ++ fn.resultTypes.toList).any (P.wideKeysFrom ·))
theorem TE:S3 Tryz.prog 9 Tryz.f9 Rows.propSoundSpec Rows.propSoundRow=true:=by kernel_rfl
def S4 (P:Program) (f:FuncId) (fn:Func) (s:ChangeSpec) (c:OpenClaim):Bool:=s.vars.all (P.varReadable ·)
theorem TF:S4 Tryz.prog 9 Tryz.f9 Rows.propSoundSpec Rows.propSoundRow=true:=by kernel_rfl
def S5 (P:Program) (f:FuncId) (fn:Func) (s:ChangeSpec) (c:OpenClaim):Bool:=fn.resultTypes.all (fun t=>P.readableRec t && decide (t < P.types.size))
theorem TG:S5 Tryz.prog 9 Tryz.f9 Rows.propSoundSpec Rows.propSoundRow=true:=by kernel_rfl
def S7 (P:Program) (f:FuncId) (fn:Func) (s:ChangeSpec) (c:OpenClaim):Bool:=(c.ifacesOut == fn.resultTypes.toList.any (P.ifacesRec ·))
theorem aeh:S7 Tryz.prog 9 Tryz.f9 Rows.propSoundSpec Rows.propSoundRow=true:=by kernel_rfl
def S8 (P:Program) (f:FuncId) (fn:Func) (s:ChangeSpec) (c:OpenClaim):Bool:=(c.loopsOut == fn.resultTypes.toList.any (P.loopsFrom ·))
theorem TJ:S8 Tryz.prog 9 Tryz.f9 Rows.propSoundSpec Rows.propSoundRow=true:=by kernel_rfl
def S9 (P:Program) (f:FuncId) (fn:Func) (s:ChangeSpec) (c:OpenClaim):Bool:=(c.plainKeys == P.plainKeys)
theorem TK:S9 Tryz.prog 9 Tryz.f9 Rows.propSoundSpec Rows.propSoundRow=true:=by kernel_rfl
def Ta (P:Program) (f:FuncId) (fn:Func) (s:ChangeSpec) (c:OpenClaim):Bool:=c.shortTexts.isNone
theorem TL:Ta Tryz.prog 9 Tryz.f9 Rows.propSoundSpec Rows.propSoundRow=true:=by kernel_rfl
def Tb (P:Program) (f:FuncId) (fn:Func) (s:ChangeSpec) (c:OpenClaim):Bool:=P.stopsHeard
theorem TM:Tb Tryz.prog 9 Tryz.f9 Rows.propSoundSpec Rows.propSoundRow=true:=by kernel_rfl
def Tc (P:Program) (f:FuncId) (fn:Func) (s:ChangeSpec) (c:OpenClaim):Bool:=P.mayEnter
theorem TO:Tc Tryz.prog 9 Tryz.f9 Rows.propSoundSpec Rows.propSoundRow=true:=by kernel_rfl
def Td (P:Program) (f:FuncId) (fn:Func) (s:ChangeSpec) (c:OpenClaim):Bool:=(c.lifted == P.liftsFinal)
theorem TP:Td Tryz.prog 9 Tryz.f9 Rows.propSoundSpec Rows.propSoundRow=true:=by kernel_rfl
def Te (P:Program) (f:FuncId) (fn:Func) (s:ChangeSpec) (c:OpenClaim):Bool:=(P.make == some c.make)
theorem TQ:Te Tryz.prog 9 Tryz.f9 Rows.propSoundSpec Rows.propSoundRow=true:=by kernel_rfl
def Tf (P:Program) (f:FuncId) (fn:Func) (s:ChangeSpec) (c:OpenClaim):Bool:=(c.kinds == (if c.domain.isEmpty then [] else fn.params.toList.map fun t=>match P.underlying t with | some (.int k)=>some k | _=>none))
theorem TR:Tf Tryz.prog 9 Tryz.f9 Rows.propSoundSpec Rows.propSoundRow=true:=by kernel_rfl
def Tg (P:Program) (f:FuncId) (fn:Func) (s:ChangeSpec) (c:OpenClaim):Bool:=(c.pinned == c.pinnedBy)
theorem TS:Tg Tryz.prog 9 Tryz.f9 Rows.propSoundSpec Rows.propSoundRow=true:=by kernel_rfl
def Ti (P:Program) (f:FuncId) (fn:Func) (s:ChangeSpec) (c:OpenClaim):Bool:=(c.veiled == (fn.params.toList ++ s.plain.varTypes P ++ fn.resultTypes.toList).any (P.veiledRec ·))
theorem TU:Ti Tryz.prog 9 Tryz.f9 Rows.propSoundSpec Rows.propSoundRow=true:=by kernel_rfl
def Tj (P:Program) (f:FuncId) (fn:Func) (s:ChangeSpec) (c:OpenClaim):Bool:=c.veiledFits P fn.params.toList (fn.params.toList ++ s.plain.varTypes P ++ fn.resultTypes.toList)
theorem TV:Tj Tryz.prog 9 Tryz.f9 Rows.propSoundSpec Rows.propSoundRow=true:=by kernel_rfl
end Go.Proofs.YtdigkhaofjmgkaaGreatDoor
