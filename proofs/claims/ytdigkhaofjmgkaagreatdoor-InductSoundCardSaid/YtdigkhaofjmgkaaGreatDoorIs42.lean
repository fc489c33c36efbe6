/-
  Texts that belong together,in one file: L41f.
-/
import Derived.Test.YtdigkhaofjmgkaaGreatDoorIs41
set_option linter.unusedSimpArgs false
set_option linter.unusedVariables false
namespace Go.Proofs.YtdigkhaofjmgkaaGreatDoor
open Go.Av Go.ChangeShapes Go.WideShapes Go.ChangeAt Go.RowKit
def aeh (P:Program) (f:FuncId) (fn:Func) (s:ChangeSpec) (c:OpenClaim):Bool:=c.wf (OpenSpec.ofChange s)
theorem RE:aeh Tryz.prog 10 Tryz.f10 Rows.inductSoundSpec Rows.inductSoundRow=true:=by kernel_rfl
def Q3 (P:Program) (f:FuncId) (fn:Func) (s:ChangeSpec) (c:OpenClaim):Bool:=laidOutB P
theorem RF:Q3 Tryz.prog 10 Tryz.f10 Rows.inductSoundSpec Rows.inductSoundRow=true:=by kernel_rfl
def Rf (P:Program) (f:FuncId) (fn:Func) (s:ChangeSpec) (c:OpenClaim):Bool:=mapsRowed P
theorem aem:Rf Tryz.prog 10 Tryz.f10 Rows.inductSoundSpec Rows.inductSoundRow=true:=by kernel_rfl
def Rq (P:Program) (f:FuncId) (fn:Func) (s:ChangeSpec) (c:OpenClaim):Bool:=fn.params.all (P.readableRec ·)
theorem aeq:Rq Tryz.prog 10 Tryz.f10 Rows.inductSoundSpec Rows.inductSoundRow=true:=by kernel_rfl
def Rt (P:Program) (f:FuncId) (fn:Func) (s:ChangeSpec) (c:OpenClaim):Bool:=namedTie P c.named s.vars
theorem R5:Rt Tryz.prog 10 Tryz.f10 Rows.inductSoundSpec Rows.inductSoundRow=true:=by kernel_rfl
def Ru (P:Program) (f:FuncId) (fn:Func) (s:ChangeSpec) (c:OpenClaim):Bool:=(c.stops == [])
theorem R6:Ru Tryz.prog 10 Tryz.f10 Rows.inductSoundSpec Rows.inductSoundRow=true:=by kernel_rfl
def Rv (P:Program) (f:FuncId) (fn:Func) (s:ChangeSpec) (c:OpenClaim):Bool:=(P.stops == [])
theorem R7:Rv Tryz.prog 10 Tryz.f10 Rows.inductSoundSpec Rows.inductSoundRow=true:=by kernel_rfl
def Rw (P:Program) (f:FuncId) (fn:Func) (s:ChangeSpec) (c:OpenClaim):Bool:=(c.knobs == [])
theorem R8:Rw Tryz.prog 10 Tryz.f10 Rows.inductSoundSpec Rows.inductSoundRow=true:=by kernel_rfl
def Rx (P:Program) (f:FuncId) (fn:Func) (s:ChangeSpec) (c:OpenClaim):Bool:=(P.stopKnobs == [])
theorem R9:Rx Tryz.prog 10 Tryz.f10 Rows.inductSoundSpec Rows.inductSoundRow=true:=by kernel_rfl
def Ry (P:Program) (f:FuncId) (fn:Func) (s:ChangeSpec) (c:OpenClaim):Bool:=(c.inPlace == P.inPlace f)
theorem Sa:Ry Tryz.prog 10 Tryz.f10 Rows.inductSoundSpec Rows.inductSoundRow=true:=by kernel_rfl
def Q4 (P:Program) (f:FuncId) (fn:Func) (s:ChangeSpec) (c:OpenClaim):Bool:=(c.unfollowed == P.unfollowed f)
theorem RG:Q4 Tryz.prog 10 Tryz.f10 Rows.inductSoundSpec Rows.inductSoundRow=true:=by kernel_rfl
def Q5 (P:Program) (f:FuncId) (fn:Func) (s:ChangeSpec) (c:OpenClaim):Bool:=(c.recurses == P.recurses f)
theorem RH:Q5 Tryz.prog 10 Tryz.f10 Rows.inductSoundSpec Rows.inductSoundRow=true:=by kernel_rfl
def Q6 (P:Program) (f:FuncId) (fn:Func) (s:ChangeSpec) (c:OpenClaim):Bool:=(c.named == P.varsNamed f)
theorem ael:Q6 Tryz.prog 10 Tryz.f10 Rows.inductSoundSpec Rows.inductSoundRow=true:=by kernel_rfl
def Q7 (P:Program) (f:FuncId) (fn:Func) (s:ChangeSpec) (c:OpenClaim):Bool:=(c.maps == (fn.params.toList ++ s.plain.varTypes P).any (P.mapsRec ·))
theorem RJ:Q7 Tryz.prog 10 Tryz.f10 Rows.inductSoundSpec Rows.inductSoundRow=true:=by kernel_rfl
def Q8 (P:Program) (f:FuncId) (fn:Func) (s:ChangeSpec) (c:OpenClaim):Bool:=(c.ifaces == (fn.params.toList ++ s.plain.varTypes P).any (P.ifacesRec ·))
theorem RL:Q8 Tryz.prog 10 Tryz.f10 Rows.inductSoundSpec Rows.inductSoundRow=true:=by kernel_rfl
def Q9 (P:Program) (f:FuncId) (fn:Func) (s:ChangeSpec) (c:OpenClaim):Bool:=(c.mapsOut == P.mapsAmong fn.resultTypes.toList)
theorem RM:Q9 Tryz.prog 10 Tryz.f10 Rows.inductSoundSpec Rows.inductSoundRow=true:=by kernel_rfl
def Ra (P:Program) (f:FuncId) (fn:Func) (s:ChangeSpec) (c:OpenClaim):Bool:=(c.loops == (fn.params.toList ++ s.plain.varTypes P).any (P.loopsFrom ·))
theorem RN:Ra Tryz.prog 10 Tryz.f10 Rows.inductSoundSpec Rows.inductSoundRow=true:=by kernel_rfl
def Rb (P:Program) (f:FuncId) (fn:Func) (s:ChangeSpec) (c:OpenClaim):Bool:=(c.wideKeys == (fn.params.toList ++ s.plain.varTypes P ++ fn.resultTypes.toList).any (P.wideKeysFrom ·))
theorem RO:Rb Tryz.prog 10 Tryz.f10 Rows.inductSoundSpec Rows.inductSoundRow=true:=by kernel_rfl
def Rc (P:Program) (f:FuncId) (fn:Func) (s:ChangeSpec) (c:OpenClaim):Bool:=s.vars.all (P.varReadable ·)
theorem RP:Rc Tryz.prog 10 Tryz.f10 Rows.inductSoundSpec Rows.inductSoundRow=true:=by kernel_rfl
def Re (P:Program) (f:FuncId) (fn:Func) (s:ChangeSpec) (c:OpenClaim):Bool:=fn.resultTypes.all (fun t=>P.readableRec t && decide (t < P.types.size))
theorem RQ:Re Tryz.prog 10 Tryz.f10 Rows.inductSoundSpec Rows.inductSoundRow=true:=by kernel_rfl
def Rg (P:Program) (f:FuncId) (fn:Func) (s:ChangeSpec) (c:OpenClaim):Bool:=(c.ifacesOut == fn.resultTypes.toList.any (P.ifacesRec ·))
theorem aen:Rg Tryz.prog 10 Tryz.f10 Rows.inductSoundSpec Rows.inductSoundRow=true:=by kernel_rfl
def Rh (P:Program) (f:FuncId) (fn:Func) (s:ChangeSpec) (c:OpenClaim):Bool:=(c.loopsOut == fn.resultTypes.toList.any (P.loopsFrom ·))
theorem RT:Rh Tryz.prog 10 Tryz.f10 Rows.inductSoundSpec Rows.inductSoundRow=true:=by kernel_rfl
def Ri (P:Program) (f:FuncId) (fn:Func) (s:ChangeSpec) (c:OpenClaim):Bool:=(c.plainKeys == P.plainKeys)
theorem RU:Ri Tryz.prog 10 Tryz.f10 Rows.inductSoundSpec Rows.inductSoundRow=true:=by kernel_rfl
def Rj (P:Program) (f:FuncId) (fn:Func) (s:ChangeSpec) (c:OpenClaim):Bool:=c.shortTexts.isNone
theorem aeo:Rj Tryz.prog 10 Tryz.f10 Rows.inductSoundSpec Rows.inductSoundRow=true:=by kernel_rfl
def Rk (P:Program) (f:FuncId) (fn:Func) (s:ChangeSpec) (c:OpenClaim):Bool:=P.stopsHeard
theorem RW:Rk Tryz.prog 10 Tryz.f10 Rows.inductSoundSpec Rows.inductSoundRow=true:=by kernel_rfl
def Rl (P:Program) (f:FuncId) (fn:Func) (s:ChangeSpec) (c:OpenClaim):Bool:=P.mayEnter
theorem RX:Rl Tryz.prog 10 Tryz.f10 Rows.inductSoundSpec Rows.inductSoundRow=true:=by kernel_rfl
def Rm (P:Program) (f:FuncId) (fn:Func) (s:ChangeSpec) (c:OpenClaim):Bool:=(c.lifted == P.liftsFinal)
theorem RY:Rm Tryz.prog 10 Tryz.f10 Rows.inductSoundSpec Rows.inductSoundRow=true:=by kernel_rfl
def Rn (P:Program) (f:FuncId) (fn:Func) (s:ChangeSpec) (c:OpenClaim):Bool:=(P.make == some c.make)
theorem RZ:Rn Tryz.prog 10 Tryz.f10 Rows.inductSoundSpec Rows.inductSoundRow=true:=by kernel_rfl
def Ro (P:Program) (f:FuncId) (fn:Func) (s:ChangeSpec) (c:OpenClaim):Bool:=(c.kinds == (if c.domain.isEmpty then [] else fn.params.toList.map fun t=>match P.underlying t with | some (.int k)=>some k | _=>none))
theorem R0:Ro Tryz.prog 10 Tryz.f10 Rows.inductSoundSpec Rows.inductSoundRow=true:=by kernel_rfl
def Rp (P:Program) (f:FuncId) (fn:Func) (s:ChangeSpec) (c:OpenClaim):Bool:=(c.pinned == c.pinnedBy)
theorem aep:Rp Tryz.prog 10 Tryz.f10 Rows.inductSoundSpec Rows.inductSoundRow=true:=by kernel_rfl
def Rr (P:Program) (f:FuncId) (fn:Func) (s:ChangeSpec) (c:OpenClaim):Bool:=(c.veiled == (fn.params.toList ++ s.plain.varTypes P ++ fn.resultTypes.toList).any (P.veiledRec ·))
theorem R3:Rr Tryz.prog 10 Tryz.f10 Rows.inductSoundSpec Rows.inductSoundRow=true:=by kernel_rfl
def aei (P:Program) (f:FuncId) (fn:Func) (s:ChangeSpec) (c:OpenClaim):Bool:=c.veiledFits P fn.params.toList (fn.params.toList ++ s.plain.varTypes P ++ fn.resultTypes.toList)
theorem R4:aei Tryz.prog 10 Tryz.f10 Rows.inductSoundSpec Rows.inductSoundRow=true:=by kernel_rfl
end Go.Proofs.YtdigkhaofjmgkaaGreatDoor
