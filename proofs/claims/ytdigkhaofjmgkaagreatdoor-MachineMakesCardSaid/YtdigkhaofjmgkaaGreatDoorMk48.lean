/-
  Texts that belong together,in one file: L37f.
-/
import Derived.Test.YtdigkhaofjmgkaaGreatDoorMk47
set_option linter.unusedSimpArgs false
set_option linter.unusedVariables false
namespace Go.Proofs.YtdigkhaofjmgkaaGreatDoor
open Go.Av Go.ChangeShapes Go.WideShapes Go.ChangeAt Go.RowKit
def SK (P:Program) (f:FuncId) (fn:Func) (s:ChangeSpec) (c:OpenClaim):Bool:=c.wf (OpenSpec.ofChange s)
theorem Tn:SK Tryz.prog 3 Tryz.f3 Rows.machineMakesSpec Rows.machineMakesRow=true:=by kernel_rfl
def SL (P:Program) (f:FuncId) (fn:Func) (s:ChangeSpec) (c:OpenClaim):Bool:=laidOutB P
theorem To:SL Tryz.prog 3 Tryz.f3 Rows.machineMakesSpec Rows.machineMakesRow=true:=by kernel_rfl
def SX (P:Program) (f:FuncId) (fn:Func) (s:ChangeSpec) (c:OpenClaim):Bool:=mapsRowed P
theorem Tz:SX Tryz.prog 3 Tryz.f3 Rows.machineMakesSpec Rows.machineMakesRow=true:=by kernel_rfl
def S8 (P:Program) (f:FuncId) (fn:Func) (s:ChangeSpec) (c:OpenClaim):Bool:=fn.params.all (P.readableRec ·)
theorem TK:S8 Tryz.prog 3 Tryz.f3 Rows.machineMakesSpec Rows.machineMakesRow=true:=by kernel_rfl
def Tb (P:Program) (f:FuncId) (fn:Func) (s:ChangeSpec) (c:OpenClaim):Bool:=namedTie P c.named s.vars
theorem TN:Tb Tryz.prog 3 Tryz.f3 Rows.machineMakesSpec Rows.machineMakesRow=true:=by kernel_rfl
def Tc (P:Program) (f:FuncId) (fn:Func) (s:ChangeSpec) (c:OpenClaim):Bool:=(c.stops == [])
theorem TO:Tc Tryz.prog 3 Tryz.f3 Rows.machineMakesSpec Rows.machineMakesRow=true:=by kernel_rfl
def Td (P:Program) (f:FuncId) (fn:Func) (s:ChangeSpec) (c:OpenClaim):Bool:=(P.stops == [])
theorem TP:Td Tryz.prog 3 Tryz.f3 Rows.machineMakesSpec Rows.machineMakesRow=true:=by kernel_rfl
def Te (P:Program) (f:FuncId) (fn:Func) (s:ChangeSpec) (c:OpenClaim):Bool:=(c.knobs == [])
theorem TQ:Te Tryz.prog 3 Tryz.f3 Rows.machineMakesSpec Rows.machineMakesRow=true:=by kernel_rfl
def Tf (P:Program) (f:FuncId) (fn:Func) (s:ChangeSpec) (c:OpenClaim):Bool:=(P.stopKnobs == [])
theorem TR:Tf Tryz.prog 3 Tryz.f3 Rows.machineMakesSpec Rows.machineMakesRow=true:=by kernel_rfl
def Tg (P:Program) (f:FuncId) (fn:Func) (s:ChangeSpec) (c:OpenClaim):Bool:=(c.inPlace == P.inPlace f)
theorem TS:Tg Tryz.prog 3 Tryz.f3 Rows.machineMakesSpec Rows.machineMakesRow=true:=by kernel_rfl
def SM (P:Program) (f:FuncId) (fn:Func) (s:ChangeSpec) (c:OpenClaim):Bool:=(c.unfollowed == P.unfollowed f)
theorem Tp:SM Tryz.prog 3 Tryz.f3 Rows.machineMakesSpec Rows.machineMakesRow=true:=by kernel_rfl
def SN (P:Program) (f:FuncId) (fn:Func) (s:ChangeSpec) (c:OpenClaim):Bool:=(c.recurses == P.recurses f)
theorem Tq:SN Tryz.prog 3 Tryz.f3 Rows.machineMakesSpec Rows.machineMakesRow=true:=by kernel_rfl
def SO (P:Program) (f:FuncId) (fn:Func) (s:ChangeSpec) (c:OpenClaim):Bool:=(c.named == P.varsNamed f)
theorem Tr:SO Tryz.prog 3 Tryz.f3 Rows.machineMakesSpec Rows.machineMakesRow=true:=by kernel_rfl
def SP (P:Program) (f:FuncId) (fn:Func) (s:ChangeSpec) (c:OpenClaim):Bool:=(c.maps == (fn.params.toList ++ s.plain.varTypes P).any (P.mapsRec ·))
theorem Ts:SP Tryz.prog 3 Tryz.f3 Rows.machineMakesSpec Rows.machineMakesRow=true:=by kernel_rfl
def SQ (P:Program) (f:FuncId) (fn:Func) (s:ChangeSpec) (c:OpenClaim):Bool:=(c.ifaces == (fn.params.toList ++ s.plain.varTypes P).any (P.ifacesRec ·))
theorem Tt:SQ Tryz.prog 3 Tryz.f3 Rows.machineMakesSpec Rows.machineMakesRow=true:=by kernel_rfl
def SR (P:Program) (f:FuncId) (fn:Func) (s:ChangeSpec) (c:OpenClaim):Bool:=(c.mapsOut == P.mapsAmong fn.resultTypes.toList)
theorem Tu:SR Tryz.prog 3 Tryz.f3 Rows.machineMakesSpec Rows.machineMakesRow=true:=by kernel_rfl
def SS (P:Program) (f:FuncId) (fn:Func) (s:ChangeSpec) (c:OpenClaim):Bool:=(c.loops == (fn.params.toList ++ s.plain.varTypes P).any (P.loopsFrom ·))
theorem Tv:SS Tryz.prog 3 Tryz.f3 Rows.machineMakesSpec Rows.machineMakesRow=true:=by kernel_rfl
def SU (P:Program) (f:FuncId) (fn:Func) (s:ChangeSpec) (c:OpenClaim):Bool:=(c.wideKeys == (fn.params.toList ++ s.plain.varTypes P ++ fn.resultTypes.toList).any (P.wideKeysFrom ·))
theorem Tw:SU Tryz.prog 3 Tryz.f3 Rows.machineMakesSpec Rows.machineMakesRow=true:=by kernel_rfl
def SV (P:Program) (f:FuncId) (fn:Func) (s:ChangeSpec) (c:OpenClaim):Bool:=s.vars.all (P.varReadable ·)
theorem afY:SV Tryz.prog 3 Tryz.f3 Rows.machineMakesSpec Rows.machineMakesRow=true:=by kernel_rfl
def SW (P:Program) (f:FuncId) (fn:Func) (s:ChangeSpec) (c:OpenClaim):Bool:=fn.resultTypes.all (fun t=>P.readableRec t && decide (t < P.types.size))
theorem afZ:SW Tryz.prog 3 Tryz.f3 Rows.machineMakesSpec Rows.machineMakesRow=true:=by kernel_rfl
def SY (P:Program) (f:FuncId) (fn:Func) (s:ChangeSpec) (c:OpenClaim):Bool:=(c.ifacesOut == fn.resultTypes.toList.any (P.ifacesRec ·))
theorem TA:SY Tryz.prog 3 Tryz.f3 Rows.machineMakesSpec Rows.machineMakesRow=true:=by kernel_rfl
def SZ (P:Program) (f:FuncId) (fn:Func) (s:ChangeSpec) (c:OpenClaim):Bool:=(c.loopsOut == fn.resultTypes.toList.any (P.loopsFrom ·))
theorem TB:SZ Tryz.prog 3 Tryz.f3 Rows.machineMakesSpec Rows.machineMakesRow=true:=by kernel_rfl
def S0 (P:Program) (f:FuncId) (fn:Func) (s:ChangeSpec) (c:OpenClaim):Bool:=(c.plainKeys == P.plainKeys)
theorem af0:S0 Tryz.prog 3 Tryz.f3 Rows.machineMakesSpec Rows.machineMakesRow=true:=by kernel_rfl
def afW (P:Program) (f:FuncId) (fn:Func) (s:ChangeSpec) (c:OpenClaim):Bool:=c.shortTexts.isNone
theorem TD:afW Tryz.prog 3 Tryz.f3 Rows.machineMakesSpec Rows.machineMakesRow=true:=by kernel_rfl
def afX (P:Program) (f:FuncId) (fn:Func) (s:ChangeSpec) (c:OpenClaim):Bool:=P.stopsHeard
theorem TE:afX Tryz.prog 3 Tryz.f3 Rows.machineMakesSpec Rows.machineMakesRow=true:=by kernel_rfl
def S3 (P:Program) (f:FuncId) (fn:Func) (s:ChangeSpec) (c:OpenClaim):Bool:=P.mayEnter
theorem TF:S3 Tryz.prog 3 Tryz.f3 Rows.machineMakesSpec Rows.machineMakesRow=true:=by kernel_rfl
def S4 (P:Program) (f:FuncId) (fn:Func) (s:ChangeSpec) (c:OpenClaim):Bool:=(c.lifted == P.liftsFinal)
theorem TG:S4 Tryz.prog 3 Tryz.f3 Rows.machineMakesSpec Rows.machineMakesRow=true:=by kernel_rfl
def S5 (P:Program) (f:FuncId) (fn:Func) (s:ChangeSpec) (c:OpenClaim):Bool:=(P.make == some c.make)
theorem TH:S5 Tryz.prog 3 Tryz.f3 Rows.machineMakesSpec Rows.machineMakesRow=true:=by kernel_rfl
def S6 (P:Program) (f:FuncId) (fn:Func) (s:ChangeSpec) (c:OpenClaim):Bool:=(c.kinds == (if c.domain.isEmpty then [] else fn.params.toList.map fun t=>match P.underlying t with | some (.int k)=>some k | _=>none))
theorem af1:S6 Tryz.prog 3 Tryz.f3 Rows.machineMakesSpec Rows.machineMakesRow=true:=by kernel_rfl
def S7 (P:Program) (f:FuncId) (fn:Func) (s:ChangeSpec) (c:OpenClaim):Bool:=(c.pinned == c.pinnedBy)
theorem TJ:S7 Tryz.prog 3 Tryz.f3 Rows.machineMakesSpec Rows.machineMakesRow=true:=by kernel_rfl
def S9 (P:Program) (f:FuncId) (fn:Func) (s:ChangeSpec) (c:OpenClaim):Bool:=(c.veiled == (fn.params.toList ++ s.plain.varTypes P ++ fn.resultTypes.toList).any (P.veiledRec ·))
theorem TL:S9 Tryz.prog 3 Tryz.f3 Rows.machineMakesSpec Rows.machineMakesRow=true:=by kernel_rfl
def Ta (P:Program) (f:FuncId) (fn:Func) (s:ChangeSpec) (c:OpenClaim):Bool:=c.veiledFits P fn.params.toList (fn.params.toList ++ s.plain.varTypes P ++ fn.resultTypes.toList)
theorem TM:Ta Tryz.prog 3 Tryz.f3 Rows.machineMakesSpec Rows.machineMakesRow=true:=by kernel_rfl
end Go.Proofs.YtdigkhaofjmgkaaGreatDoor
