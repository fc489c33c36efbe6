/- Parts. -/
import Derived.Test.YtdigkhaofjmgkaaGreatDoorIs41
set_option linter.unusedSimpArgs false
set_option linter.unusedVariables false
open Go.Proofs.Tryz
namespace Go.Proofs.YtdigkhaofjmgkaaGreatDoor
open Go.Av Go.ChangeShapes Go.WideShapes Go.ChangeAt Go.RowKit
def Q1 (P:Program) (f:FuncId) (fn:Func) (s:ChangeSpec) (c:OpenClaim):Bool:=c.wf (OpenSpec.ofChange s)
theorem aej:Q1 prog 10 Tryz.f10 Rows.inductSoundSpec Rows.inductSoundRow=true:=by kernel_rfl
def aeg (P:Program) (f:FuncId) (fn:Func) (s:ChangeSpec) (c:OpenClaim):Bool:=laidOutB P
theorem RE:aeg prog 10 Tryz.f10 Rows.inductSoundSpec Rows.inductSoundRow=true:=by kernel_rfl
def Re (P:Program) (f:FuncId) (fn:Func) (s:ChangeSpec) (c:OpenClaim):Bool:=mapsRowed P
theorem RQ:Re prog 10 Tryz.f10 Rows.inductSoundSpec Rows.inductSoundRow=true:=by kernel_rfl
def Rp (P:Program) (f:FuncId) (fn:Func) (s:ChangeSpec) (c:OpenClaim):Bool:=fn.params.all (P.readableRec ·)
theorem aeo:Rp prog 10 Tryz.f10 Rows.inductSoundSpec Rows.inductSoundRow=true:=by kernel_rfl
def aeh (P:Program) (f:FuncId) (fn:Func) (s:ChangeSpec) (c:OpenClaim):Bool:=namedTie P c.named s.vars
theorem R4:aeh prog 10 Tryz.f10 Rows.inductSoundSpec Rows.inductSoundRow=true:=by kernel_rfl
def Rt (P:Program) (f:FuncId) (fn:Func) (s:ChangeSpec) (c:OpenClaim):Bool:=(c.stops == [])
theorem R5:Rt prog 10 Tryz.f10 Rows.inductSoundSpec Rows.inductSoundRow=true:=by kernel_rfl
def Ru (P:Program) (f:FuncId) (fn:Func) (s:ChangeSpec) (c:OpenClaim):Bool:=(P.stops == [])
theorem R6:Ru prog 10 Tryz.f10 Rows.inductSoundSpec Rows.inductSoundRow=true:=by kernel_rfl
def Rv (P:Program) (f:FuncId) (fn:Func) (s:ChangeSpec) (c:OpenClaim):Bool:=(c.knobs == [])
theorem R7:Rv prog 10 Tryz.f10 Rows.inductSoundSpec Rows.inductSoundRow=true:=by kernel_rfl
def Rw (P:Program) (f:FuncId) (fn:Func) (s:ChangeSpec) (c:OpenClaim):Bool:=(P.stopKnobs == [])
theorem R8:Rw prog 10 Tryz.f10 Rows.inductSoundSpec Rows.inductSoundRow=true:=by kernel_rfl
def Rx (P:Program) (f:FuncId) (fn:Func) (s:ChangeSpec) (c:OpenClaim):Bool:=(c.inPlace == P.inPlace f)
theorem R9:Rx prog 10 Tryz.f10 Rows.inductSoundSpec Rows.inductSoundRow=true:=by kernel_rfl
def Q3 (P:Program) (f:FuncId) (fn:Func) (s:ChangeSpec) (c:OpenClaim):Bool:=(c.unfollowed == P.unfollowed f)
theorem RF:Q3 prog 10 Tryz.f10 Rows.inductSoundSpec Rows.inductSoundRow=true:=by kernel_rfl
def Q4 (P:Program) (f:FuncId) (fn:Func) (s:ChangeSpec) (c:OpenClaim):Bool:=(c.recurses == P.recurses f)
theorem RG:Q4 prog 10 Tryz.f10 Rows.inductSoundSpec Rows.inductSoundRow=true:=by kernel_rfl
def Q5 (P:Program) (f:FuncId) (fn:Func) (s:ChangeSpec) (c:OpenClaim):Bool:=(c.named == P.varsNamed f)
theorem RH:Q5 prog 10 Tryz.f10 Rows.inductSoundSpec Rows.inductSoundRow=true:=by kernel_rfl
def Q6 (P:Program) (f:FuncId) (fn:Func) (s:ChangeSpec) (c:OpenClaim):Bool:=(c.maps == (fn.params.toList ++ s.plain.varTypes P).any (P.mapsRec ·))
theorem aek:Q6 prog 10 Tryz.f10 Rows.inductSoundSpec Rows.inductSoundRow=true:=by kernel_rfl
def Q7 (P:Program) (f:FuncId) (fn:Func) (s:ChangeSpec) (c:OpenClaim):Bool:=(c.ifaces == (fn.params.toList ++ s.plain.varTypes P).any (P.ifacesRec ·))
theorem RJ:Q7 prog 10 Tryz.f10 Rows.inductSoundSpec Rows.inductSoundRow=true:=by kernel_rfl
def Q8 (P:Program) (f:FuncId) (fn:Func) (s:ChangeSpec) (c:OpenClaim):Bool:=(c.mapsOut == P.mapsAmong fn.resultTypes.toList)
theorem RL:Q8 prog 10 Tryz.f10 Rows.inductSoundSpec Rows.inductSoundRow=true:=by kernel_rfl
def Q9 (P:Program) (f:FuncId) (fn:Func) (s:ChangeSpec) (c:OpenClaim):Bool:=(c.loops == (fn.params.toList ++ s.plain.varTypes P).any (P.loopsFrom ·))
theorem RM:Q9 prog 10 Tryz.f10 Rows.inductSoundSpec Rows.inductSoundRow=true:=by kernel_rfl
def Ra (P:Program) (f:FuncId) (fn:Func) (s:ChangeSpec) (c:OpenClaim):Bool:=(c.wideKeys == (fn.params.toList ++ s.plain.varTypes P ++ fn.resultTypes.toList).any (P.wideKeysFrom ·))
theorem RN:Ra prog 10 Tryz.f10 Rows.inductSoundSpec Rows.inductSoundRow=true:=by kernel_rfl
def Rb (P:Program) (f:FuncId) (fn:Func) (s:ChangeSpec) (c:OpenClaim):Bool:=s.vars.all (P.varReadable ·)
theorem RO:Rb prog 10 Tryz.f10 Rows.inductSoundSpec Rows.inductSoundRow=true:=by kernel_rfl
def Rc (P:Program) (f:FuncId) (fn:Func) (s:ChangeSpec) (c:OpenClaim):Bool:=fn.resultTypes.all (fun t=>P.readableRec t && decide (t < P.types.size))
theorem RP:Rc prog 10 Tryz.f10 Rows.inductSoundSpec Rows.inductSoundRow=true:=by kernel_rfl
def Rf (P:Program) (f:FuncId) (fn:Func) (s:ChangeSpec) (c:OpenClaim):Bool:=(c.ifacesOut == fn.resultTypes.toList.any (P.ifacesRec ·))
theorem ael:Rf prog 10 Tryz.f10 Rows.inductSoundSpec Rows.inductSoundRow=true:=by kernel_rfl
def Rg (P:Program) (f:FuncId) (fn:Func) (s:ChangeSpec) (c:OpenClaim):Bool:=(c.loopsOut == fn.resultTypes.toList.any (P.loopsFrom ·))
theorem aem:Rg prog 10 Tryz.f10 Rows.inductSoundSpec Rows.inductSoundRow=true:=by kernel_rfl
def Rh (P:Program) (f:FuncId) (fn:Func) (s:ChangeSpec) (c:OpenClaim):Bool:=(c.plainKeys == P.plainKeys)
theorem RT:Rh prog 10 Tryz.f10 Rows.inductSoundSpec Rows.inductSoundRow=true:=by kernel_rfl
def Ri (P:Program) (f:FuncId) (fn:Func) (s:ChangeSpec) (c:OpenClaim):Bool:=c.shortTexts.isNone
theorem RU:Ri prog 10 Tryz.f10 Rows.inductSoundSpec Rows.inductSoundRow=true:=by kernel_rfl
def Rj (P:Program) (f:FuncId) (fn:Func) (s:ChangeSpec) (c:OpenClaim):Bool:=P.stopsHeard
theorem aen:Rj prog 10 Tryz.f10 Rows.inductSoundSpec Rows.inductSoundRow=true:=by kernel_rfl
def Rk (P:Program) (f:FuncId) (fn:Func) (s:ChangeSpec) (c:OpenClaim):Bool:=P.mayEnter
theorem RW:Rk prog 10 Tryz.f10 Rows.inductSoundSpec Rows.inductSoundRow=true:=by kernel_rfl
def Rl (P:Program) (f:FuncId) (fn:Func) (s:ChangeSpec) (c:OpenClaim):Bool:=(c.lifted == P.liftsFinal)
theorem RX:Rl prog 10 Tryz.f10 Rows.inductSoundSpec Rows.inductSoundRow=true:=by kernel_rfl
def Rm (P:Program) (f:FuncId) (fn:Func) (s:ChangeSpec) (c:OpenClaim):Bool:=(P.make == some c.make)
theorem RY:Rm prog 10 Tryz.f10 Rows.inductSoundSpec Rows.inductSoundRow=true:=by kernel_rfl
def Rn (P:Program) (f:FuncId) (fn:Func) (s:ChangeSpec) (c:OpenClaim):Bool:=(c.kinds == (if c.domain.isEmpty then [] else fn.params.toList.map fun t=>match P.underlying t with | some (.int k)=>some k | _=>none))
theorem RZ:Rn prog 10 Tryz.f10 Rows.inductSoundSpec Rows.inductSoundRow=true:=by kernel_rfl
def Ro (P:Program) (f:FuncId) (fn:Func) (s:ChangeSpec) (c:OpenClaim):Bool:=(c.pinned == c.pinnedBy)
theorem R0:Ro prog 10 Tryz.f10 Rows.inductSoundSpec Rows.inductSoundRow=true:=by kernel_rfl
def Rq (P:Program) (f:FuncId) (fn:Func) (s:ChangeSpec) (c:OpenClaim):Bool:=(c.veiled == (fn.params.toList ++ s.plain.varTypes P ++ fn.resultTypes.toList).any (P.veiledRec ·))
theorem aep:Rq prog 10 Tryz.f10 Rows.inductSoundSpec Rows.inductSoundRow=true:=by kernel_rfl
def Rr (P:Program) (f:FuncId) (fn:Func) (s:ChangeSpec) (c:OpenClaim):Bool:=c.veiledFits P fn.params.toList (fn.params.toList ++ s.plain.varTypes P ++ fn.resultTypes.toList)
theorem R3:Rr prog 10 Tryz.f10 Rows.inductSoundSpec Rows.inductSoundRow=true:=by kernel_rfl
