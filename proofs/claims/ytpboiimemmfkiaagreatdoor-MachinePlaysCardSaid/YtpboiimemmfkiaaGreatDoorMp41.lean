/-
  Texts that belong together, in one file: L34f.
-/
import Derived.Test.YtpboiimemmfkiaaGreatDoorMp40
import Derived.Test.YtpboiimemmfkiaaGreatDoorCards
import Derived.Test.YtpboiimemmfkiaaGreatDoorTie
import Derived.ChangeSame
import Derived.ChangeVars
import Derived.ChangeMaps5
import Derived.JoinedOf
import Derived.LaidMore
import Derived.LaidLaws
import Derived.LaidHandle
import Derived.Lay
set_option linter.unusedSimpArgs false
set_option linter.unusedVariables false
namespace Go.Proofs.YtpboiimemmfkiaaGreatDoor
open Go.Av Go.ChangeShapes Go.WideShapes Go.ChangeAt Go.RowKit
def mplays_J0 (P : Program) (f : FuncId) (fn : Func) (s : ChangeSpec) (c : OpenClaim) : Bool := c.wf (OpenSpec.ofChange s)
theorem mplays_j0 : mplays_J0 Tryz.prog 4 Tryz.f4 Rows.machinePlaysSpec Rows.machinePlaysRow = true := by kernel_rfl
def mplays_J1 (P : Program) (f : FuncId) (fn : Func) (s : ChangeSpec) (c : OpenClaim) : Bool := laidOutB P
theorem mplays_j1 : mplays_J1 Tryz.prog 4 Tryz.f4 Rows.machinePlaysSpec Rows.machinePlaysRow = true := by kernel_rfl
def mplays_J2 (P : Program) (f : FuncId) (fn : Func) (s : ChangeSpec) (c : OpenClaim) : Bool := mapsRowed P
theorem mplays_j2 : mplays_J2 Tryz.prog 4 Tryz.f4 Rows.machinePlaysSpec Rows.machinePlaysRow = true := by kernel_rfl
def mplays_J3 (P : Program) (f : FuncId) (fn : Func) (s : ChangeSpec) (c : OpenClaim) : Bool := fn.params.all (P.readableRec ·)
theorem mplays_j3 : mplays_J3 Tryz.prog 4 Tryz.f4 Rows.machinePlaysSpec Rows.machinePlaysRow = true := by kernel_rfl
def mplays_J4 (P : Program) (f : FuncId) (fn : Func) (s : ChangeSpec) (c : OpenClaim) : Bool := namedTie P c.named s.vars
theorem mplays_j4 : mplays_J4 Tryz.prog 4 Tryz.f4 Rows.machinePlaysSpec Rows.machinePlaysRow = true := by kernel_rfl
def mplays_J5 (P : Program) (f : FuncId) (fn : Func) (s : ChangeSpec) (c : OpenClaim) : Bool := (c.stops == [])
theorem mplays_j5 : mplays_J5 Tryz.prog 4 Tryz.f4 Rows.machinePlaysSpec Rows.machinePlaysRow = true := by kernel_rfl
def mplays_J6 (P : Program) (f : FuncId) (fn : Func) (s : ChangeSpec) (c : OpenClaim) : Bool := (P.stops == [])
theorem mplays_j6 : mplays_J6 Tryz.prog 4 Tryz.f4 Rows.machinePlaysSpec Rows.machinePlaysRow = true := by kernel_rfl
def mplays_J7 (P : Program) (f : FuncId) (fn : Func) (s : ChangeSpec) (c : OpenClaim) : Bool := (c.knobs == [])
theorem mplays_j7 : mplays_J7 Tryz.prog 4 Tryz.f4 Rows.machinePlaysSpec Rows.machinePlaysRow = true := by kernel_rfl
def mplays_J8 (P : Program) (f : FuncId) (fn : Func) (s : ChangeSpec) (c : OpenClaim) : Bool := (P.stopKnobs == [])
theorem mplays_j8 : mplays_J8 Tryz.prog 4 Tryz.f4 Rows.machinePlaysSpec Rows.machinePlaysRow = true := by kernel_rfl
def mplays_J9 (P : Program) (f : FuncId) (fn : Func) (s : ChangeSpec) (c : OpenClaim) : Bool := (c.inPlace == P.inPlace f)
theorem mplays_j9 : mplays_J9 Tryz.prog 4 Tryz.f4 Rows.machinePlaysSpec Rows.machinePlaysRow = true := by kernel_rfl
def mplays_J10 (P : Program) (f : FuncId) (fn : Func) (s : ChangeSpec) (c : OpenClaim) : Bool := (c.unfollowed == P.unfollowed f)
theorem mplays_j10 : mplays_J10 Tryz.prog 4 Tryz.f4 Rows.machinePlaysSpec Rows.machinePlaysRow = true := by kernel_rfl
def mplays_J11 (P : Program) (f : FuncId) (fn : Func) (s : ChangeSpec) (c : OpenClaim) : Bool := (c.recurses == P.recurses f)
theorem mplays_j11 : mplays_J11 Tryz.prog 4 Tryz.f4 Rows.machinePlaysSpec Rows.machinePlaysRow = true := by kernel_rfl
def mplays_J12 (P : Program) (f : FuncId) (fn : Func) (s : ChangeSpec) (c : OpenClaim) : Bool := (c.named == P.varsNamed f)
theorem mplays_j12 : mplays_J12 Tryz.prog 4 Tryz.f4 Rows.machinePlaysSpec Rows.machinePlaysRow = true := by kernel_rfl
def mplays_J13 (P : Program) (f : FuncId) (fn : Func) (s : ChangeSpec) (c : OpenClaim) : Bool := (c.maps == (fn.params.toList ++ s.plain.varTypes P).any (P.mapsRec ·))
theorem mplays_j13 : mplays_J13 Tryz.prog 4 Tryz.f4 Rows.machinePlaysSpec Rows.machinePlaysRow = true := by kernel_rfl
def mplays_J14 (P : Program) (f : FuncId) (fn : Func) (s : ChangeSpec) (c : OpenClaim) : Bool := (c.ifaces == (fn.params.toList ++ s.plain.varTypes P).any (P.ifacesRec ·))
theorem mplays_j14 : mplays_J14 Tryz.prog 4 Tryz.f4 Rows.machinePlaysSpec Rows.machinePlaysRow = true := by kernel_rfl
def mplays_J15 (P : Program) (f : FuncId) (fn : Func) (s : ChangeSpec) (c : OpenClaim) : Bool := (c.mapsOut == P.mapsAmong fn.resultTypes.toList)
theorem mplays_j15 : mplays_J15 Tryz.prog 4 Tryz.f4 Rows.machinePlaysSpec Rows.machinePlaysRow = true := by kernel_rfl
def mplays_J16 (P : Program) (f : FuncId) (fn : Func) (s : ChangeSpec) (c : OpenClaim) : Bool := (c.loops == (fn.params.toList ++ s.plain.varTypes P).any (P.loopsFrom ·))
theorem mplays_j16 : mplays_J16 Tryz.prog 4 Tryz.f4 Rows.machinePlaysSpec Rows.machinePlaysRow = true := by kernel_rfl
def mplays_J17 (P : Program) (f : FuncId) (fn : Func) (s : ChangeSpec) (c : OpenClaim) : Bool := (c.wideKeys == (fn.params.toList ++ s.plain.varTypes P ++ fn.resultTypes.toList).any (P.wideKeysFrom ·))
theorem mplays_j17 : mplays_J17 Tryz.prog 4 Tryz.f4 Rows.machinePlaysSpec Rows.machinePlaysRow = true := by kernel_rfl
def mplays_J18 (P : Program) (f : FuncId) (fn : Func) (s : ChangeSpec) (c : OpenClaim) : Bool := s.vars.all (P.varReadable ·)
theorem mplays_j18 : mplays_J18 Tryz.prog 4 Tryz.f4 Rows.machinePlaysSpec Rows.machinePlaysRow = true := by kernel_rfl
def mplays_J19 (P : Program) (f : FuncId) (fn : Func) (s : ChangeSpec) (c : OpenClaim) : Bool := fn.resultTypes.all (fun t => P.readableRec t && decide (t < P.types.size))
theorem mplays_j19 : mplays_J19 Tryz.prog 4 Tryz.f4 Rows.machinePlaysSpec Rows.machinePlaysRow = true := by kernel_rfl
def mplays_J20 (P : Program) (f : FuncId) (fn : Func) (s : ChangeSpec) (c : OpenClaim) : Bool := (c.ifacesOut == fn.resultTypes.toList.any (P.ifacesRec ·))
theorem mplays_j20 : mplays_J20 Tryz.prog 4 Tryz.f4 Rows.machinePlaysSpec Rows.machinePlaysRow = true := by kernel_rfl
def mplays_J21 (P : Program) (f : FuncId) (fn : Func) (s : ChangeSpec) (c : OpenClaim) : Bool := (c.loopsOut == fn.resultTypes.toList.any (P.loopsFrom ·))
theorem mplays_j21 : mplays_J21 Tryz.prog 4 Tryz.f4 Rows.machinePlaysSpec Rows.machinePlaysRow = true := by kernel_rfl
def mplays_J22 (P : Program) (f : FuncId) (fn : Func) (s : ChangeSpec) (c : OpenClaim) : Bool := (c.plainKeys == P.plainKeys)
theorem mplays_j22 : mplays_J22 Tryz.prog 4 Tryz.f4 Rows.machinePlaysSpec Rows.machinePlaysRow = true := by kernel_rfl
def mplays_J23 (P : Program) (f : FuncId) (fn : Func) (s : ChangeSpec) (c : OpenClaim) : Bool := c.shortTexts.isNone
theorem mplays_j23 : mplays_J23 Tryz.prog 4 Tryz.f4 Rows.machinePlaysSpec Rows.machinePlaysRow = true := by kernel_rfl
def mplays_J24 (P : Program) (f : FuncId) (fn : Func) (s : ChangeSpec) (c : OpenClaim) : Bool := P.stopsHeard
theorem mplays_j24 : mplays_J24 Tryz.prog 4 Tryz.f4 Rows.machinePlaysSpec Rows.machinePlaysRow = true := by kernel_rfl
def mplays_J25 (P : Program) (f : FuncId) (fn : Func) (s : ChangeSpec) (c : OpenClaim) : Bool := P.mayEnter
theorem mplays_j25 : mplays_J25 Tryz.prog 4 Tryz.f4 Rows.machinePlaysSpec Rows.machinePlaysRow = true := by kernel_rfl
def mplays_J26 (P : Program) (f : FuncId) (fn : Func) (s : ChangeSpec) (c : OpenClaim) : Bool := (c.lifted == P.liftsFinal)
theorem mplays_j26 : mplays_J26 Tryz.prog 4 Tryz.f4 Rows.machinePlaysSpec Rows.machinePlaysRow = true := by kernel_rfl
def mplays_J27 (P : Program) (f : FuncId) (fn : Func) (s : ChangeSpec) (c : OpenClaim) : Bool := (P.make == some c.make)
theorem mplays_j27 : mplays_J27 Tryz.prog 4 Tryz.f4 Rows.machinePlaysSpec Rows.machinePlaysRow = true := by kernel_rfl
def mplays_J28 (P : Program) (f : FuncId) (fn : Func) (s : ChangeSpec) (c : OpenClaim) : Bool := (c.kinds == (if c.domain.isEmpty then [] else fn.params.toList.map fun t => match P.underlying t with | some (.int k) => some k | _ => none))
theorem mplays_j28 : mplays_J28 Tryz.prog 4 Tryz.f4 Rows.machinePlaysSpec Rows.machinePlaysRow = true := by kernel_rfl
def mplays_J29 (P : Program) (f : FuncId) (fn : Func) (s : ChangeSpec) (c : OpenClaim) : Bool := (c.pinned == c.pinnedBy)
theorem mplays_j29 : mplays_J29 Tryz.prog 4 Tryz.f4 Rows.machinePlaysSpec Rows.machinePlaysRow = true := by kernel_rfl
def mplays_J30 (P : Program) (f : FuncId) (fn : Func) (s : ChangeSpec) (c : OpenClaim) : Bool := (c.veiled == (fn.params.toList ++ s.plain.varTypes P ++ fn.resultTypes.toList).any (P.veiledRec ·))
theorem mplays_j30 : mplays_J30 Tryz.prog 4 Tryz.f4 Rows.machinePlaysSpec Rows.machinePlaysRow = true := by kernel_rfl
def mplays_J31 (P : Program) (f : FuncId) (fn : Func) (s : ChangeSpec) (c : OpenClaim) : Bool := c.veiledFits P fn.params.toList (fn.params.toList ++ s.plain.varTypes P ++ fn.resultTypes.toList)
theorem mplays_j31 : mplays_J31 Tryz.prog 4 Tryz.f4 Rows.machinePlaysSpec Rows.machinePlaysRow = true := by kernel_rfl
end Go.Proofs.YtpboiimemmfkiaaGreatDoor
