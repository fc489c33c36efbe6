/-
  Texts that belong together, in one file: L30f.
-/
import Derived.Test.YthnjfeielmbfkaaGreatDoorLp46
import Derived.Test.YthnjfeielmbfkaaGreatDoorCards
import Derived.Test.YthnjfeielmbfkaaGreatDoorTie
import Derived.ChangeSame
import Derived.ChangeVars
import Derived.ChangeMaps5
import Derived.JoinedOf
import Derived.LaidMore
import Derived.LaidLaws
import Derived.LaidHandle
import Derived.Lay
set_option linter.unusedSimpArgs false
set_option linter.unusedVariables false
namespace Go.Proofs.YthnjfeielmbfkaaGreatDoor
open Go.Av Go.ChangeShapes Go.WideShapes Go.ChangeAt Go.RowKit
def ldparses_J0 (P : Program) (f : FuncId) (fn : Func) (s : ChangeSpec) (c : OpenClaim) : Bool := c.wf (OpenSpec.ofChange s)
theorem ldparses_j0 : ldparses_J0 Tryz.prog 8 Tryz.f8 Rows.ladderParsesSpec Rows.ladderParsesRow = true := by kernel_rfl
def ldparses_J1 (P : Program) (f : FuncId) (fn : Func) (s : ChangeSpec) (c : OpenClaim) : Bool := laidOutB P
theorem ldparses_j1 : ldparses_J1 Tryz.prog 8 Tryz.f8 Rows.ladderParsesSpec Rows.ladderParsesRow = true := by kernel_rfl
def ldparses_J2 (P : Program) (f : FuncId) (fn : Func) (s : ChangeSpec) (c : OpenClaim) : Bool := mapsRowed P
theorem ldparses_j2 : ldparses_J2 Tryz.prog 8 Tryz.f8 Rows.ladderParsesSpec Rows.ladderParsesRow = true := by kernel_rfl
def ldparses_J3 (P : Program) (f : FuncId) (fn : Func) (s : ChangeSpec) (c : OpenClaim) : Bool := fn.params.all (P.readableRec ·)
theorem ldparses_j3 : ldparses_J3 Tryz.prog 8 Tryz.f8 Rows.ladderParsesSpec Rows.ladderParsesRow = true := by kernel_rfl
def ldparses_J4 (P : Program) (f : FuncId) (fn : Func) (s : ChangeSpec) (c : OpenClaim) : Bool := namedTie P c.named s.vars
theorem ldparses_j4 : ldparses_J4 Tryz.prog 8 Tryz.f8 Rows.ladderParsesSpec Rows.ladderParsesRow = true := by kernel_rfl
def ldparses_J5 (P : Program) (f : FuncId) (fn : Func) (s : ChangeSpec) (c : OpenClaim) : Bool := (c.stops == [])
theorem ldparses_j5 : ldparses_J5 Tryz.prog 8 Tryz.f8 Rows.ladderParsesSpec Rows.ladderParsesRow = true := by kernel_rfl
def ldparses_J6 (P : Program) (f : FuncId) (fn : Func) (s : ChangeSpec) (c : OpenClaim) : Bool := (P.stops == [])
theorem ldparses_j6 : ldparses_J6 Tryz.prog 8 Tryz.f8 Rows.ladderParsesSpec Rows.ladderParsesRow = true := by kernel_rfl
def ldparses_J7 (P : Program) (f : FuncId) (fn : Func) (s : ChangeSpec) (c : OpenClaim) : Bool := (c.knobs == [])
theorem ldparses_j7 : ldparses_J7 Tryz.prog 8 Tryz.f8 Rows.ladderParsesSpec Rows.ladderParsesRow = true := by kernel_rfl
def ldparses_J8 (P : Program) (f : FuncId) (fn : Func) (s : ChangeSpec) (c : OpenClaim) : Bool := (P.stopKnobs == [])
theorem ldparses_j8 : ldparses_J8 Tryz.prog 8 Tryz.f8 Rows.ladderParsesSpec Rows.ladderParsesRow = true := by kernel_rfl
def ldparses_J9 (P : Program) (f : FuncId) (fn : Func) (s : ChangeSpec) (c : OpenClaim) : Bool := (c.inPlace == P.inPlace f)
theorem ldparses_j9 : ldparses_J9 Tryz.prog 8 Tryz.f8 Rows.ladderParsesSpec Rows.ladderParsesRow = true := by kernel_rfl
def ldparses_J10 (P : Program) (f : FuncId) (fn : Func) (s : ChangeSpec) (c : OpenClaim) : Bool := (c.unfollowed == P.unfollowed f)
theorem ldparses_j10 : ldparses_J10 Tryz.prog 8 Tryz.f8 Rows.ladderParsesSpec Rows.ladderParsesRow = true := by kernel_rfl
def ldparses_J11 (P : Program) (f : FuncId) (fn : Func) (s : ChangeSpec) (c : OpenClaim) : Bool := (c.recurses == P.recurses f)
theorem ldparses_j11 : ldparses_J11 Tryz.prog 8 Tryz.f8 Rows.ladderParsesSpec Rows.ladderParsesRow = true := by kernel_rfl
def ldparses_J12 (P : Program) (f : FuncId) (fn : Func) (s : ChangeSpec) (c : OpenClaim) : Bool := (c.named == P.varsNamed f)
theorem ldparses_j12 : ldparses_J12 Tryz.prog 8 Tryz.f8 Rows.ladderParsesSpec Rows.ladderParsesRow = true := by kernel_rfl
def ldparses_J13 (P : Program) (f : FuncId) (fn : Func) (s : ChangeSpec) (c : OpenClaim) : Bool := (c.maps == (fn.params.toList ++ s.plain.varTypes P).any (P.mapsRec ·))
theorem ldparses_j13 : ldparses_J13 Tryz.prog 8 Tryz.f8 Rows.ladderParsesSpec Rows.ladderParsesRow = true := by kernel_rfl
def ldparses_J14 (P : Program) (f : FuncId) (fn : Func) (s : ChangeSpec) (c : OpenClaim) : Bool := (c.ifaces == (fn.params.toList ++ s.plain.varTypes P).any (P.ifacesRec ·))
theorem ldparses_j14 : ldparses_J14 Tryz.prog 8 Tryz.f8 Rows.ladderParsesSpec Rows.ladderParsesRow = true := by kernel_rfl
def ldparses_J15 (P : Program) (f : FuncId) (fn : Func) (s : ChangeSpec) (c : OpenClaim) : Bool := (c.mapsOut == P.mapsAmong fn.resultTypes.toList)
theorem ldparses_j15 : ldparses_J15 Tryz.prog 8 Tryz.f8 Rows.ladderParsesSpec Rows.ladderParsesRow = true := by kernel_rfl
def ldparses_J16 (P : Program) (f : FuncId) (fn : Func) (s : ChangeSpec) (c : OpenClaim) : Bool := (c.loops == (fn.params.toList ++ s.plain.varTypes P).any (P.loopsFrom ·))
theorem ldparses_j16 : ldparses_J16 Tryz.prog 8 Tryz.f8 Rows.ladderParsesSpec Rows.ladderParsesRow = true := by kernel_rfl
def ldparses_J17 (P : Program) (f : FuncId) (fn : Func) (s : ChangeSpec) (c : OpenClaim) : Bool := (c.wideKeys == (fn.params.toList ++ s.plain.varTypes P ++ fn.resultTypes.toList).any (P.wideKeysFrom ·))
theorem ldparses_j17 : ldparses_J17 Tryz.prog 8 Tryz.f8 Rows.ladderParsesSpec Rows.ladderParsesRow = true := by kernel_rfl
def ldparses_J18 (P : Program) (f : FuncId) (fn : Func) (s : ChangeSpec) (c : OpenClaim) : Bool := s.vars.all (P.varReadable ·)
theorem ldparses_j18 : ldparses_J18 Tryz.prog 8 Tryz.f8 Rows.ladderParsesSpec Rows.ladderParsesRow = true := by kernel_rfl
def ldparses_J19 (P : Program) (f : FuncId) (fn : Func) (s : ChangeSpec) (c : OpenClaim) : Bool := fn.resultTypes.all (fun t => P.readableRec t && decide (t < P.types.size))
theorem ldparses_j19 : ldparses_J19 Tryz.prog 8 Tryz.f8 Rows.ladderParsesSpec Rows.ladderParsesRow = true := by kernel_rfl
def ldparses_J20 (P : Program) (f : FuncId) (fn : Func) (s : ChangeSpec) (c : OpenClaim) : Bool := (c.ifacesOut == fn.resultTypes.toList.any (P.ifacesRec ·))
theorem ldparses_j20 : ldparses_J20 Tryz.prog 8 Tryz.f8 Rows.ladderParsesSpec Rows.ladderParsesRow = true := by kernel_rfl
def ldparses_J21 (P : Program) (f : FuncId) (fn : Func) (s : ChangeSpec) (c : OpenClaim) : Bool := (c.loopsOut == fn.resultTypes.toList.any (P.loopsFrom ·))
theorem ldparses_j21 : ldparses_J21 Tryz.prog 8 Tryz.f8 Rows.ladderParsesSpec Rows.ladderParsesRow = true := by kernel_rfl
def ldparses_J22 (P : Program) (f : FuncId) (fn : Func) (s : ChangeSpec) (c : OpenClaim) : Bool := (c.plainKeys == P.plainKeys)
theorem ldparses_j22 : ldparses_J22 Tryz.prog 8 Tryz.f8 Rows.ladderParsesSpec Rows.ladderParsesRow = true := by kernel_rfl
def ldparses_J23 (P : Program) (f : FuncId) (fn : Func) (s : ChangeSpec) (c : OpenClaim) : Bool := c.shortTexts.isNone
theorem ldparses_j23 : ldparses_J23 Tryz.prog 8 Tryz.f8 Rows.ladderParsesSpec Rows.ladderParsesRow = true := by kernel_rfl
def ldparses_J24 (P : Program) (f : FuncId) (fn : Func) (s : ChangeSpec) (c : OpenClaim) : Bool := P.stopsHeard
theorem ldparses_j24 : ldparses_J24 Tryz.prog 8 Tryz.f8 Rows.ladderParsesSpec Rows.ladderParsesRow = true := by kernel_rfl
def ldparses_J25 (P : Program) (f : FuncId) (fn : Func) (s : ChangeSpec) (c : OpenClaim) : Bool := P.mayEnter
theorem ldparses_j25 : ldparses_J25 Tryz.prog 8 Tryz.f8 Rows.ladderParsesSpec Rows.ladderParsesRow = true := by kernel_rfl
def ldparses_J26 (P : Program) (f : FuncId) (fn : Func) (s : ChangeSpec) (c : OpenClaim) : Bool := (c.lifted == P.liftsFinal)
theorem ldparses_j26 : ldparses_J26 Tryz.prog 8 Tryz.f8 Rows.ladderParsesSpec Rows.ladderParsesRow = true := by kernel_rfl
def ldparses_J27 (P : Program) (f : FuncId) (fn : Func) (s : ChangeSpec) (c : OpenClaim) : Bool := (P.make == some c.make)
theorem ldparses_j27 : ldparses_J27 Tryz.prog 8 Tryz.f8 Rows.ladderParsesSpec Rows.ladderParsesRow = true := by kernel_rfl
def ldparses_J28 (P : Program) (f : FuncId) (fn : Func) (s : ChangeSpec) (c : OpenClaim) : Bool := (c.kinds == (if c.domain.isEmpty then [] else fn.params.toList.map fun t => match P.underlying t with | some (.int k) => some k | _ => none))
theorem ldparses_j28 : ldparses_J28 Tryz.prog 8 Tryz.f8 Rows.ladderParsesSpec Rows.ladderParsesRow = true := by kernel_rfl
def ldparses_J29 (P : Program) (f : FuncId) (fn : Func) (s : ChangeSpec) (c : OpenClaim) : Bool := (c.pinned == c.pinnedBy)
theorem ldparses_j29 : ldparses_J29 Tryz.prog 8 Tryz.f8 Rows.ladderParsesSpec Rows.ladderParsesRow = true := by kernel_rfl
def ldparses_J30 (P : Program) (f : FuncId) (fn : Func) (s : ChangeSpec) (c : OpenClaim) : Bool := (c.veiled == (fn.params.toList ++ s.plain.varTypes P ++ fn.resultTypes.toList).any (P.veiledRec ·))
theorem ldparses_j30 : ldparses_J30 Tryz.prog 8 Tryz.f8 Rows.ladderParsesSpec Rows.ladderParsesRow = true := by kernel_rfl
def ldparses_J31 (P : Program) (f : FuncId) (fn : Func) (s : ChangeSpec) (c : OpenClaim) : Bool := c.veiledFits P fn.params.toList (fn.params.toList ++ s.plain.varTypes P ++ fn.resultTypes.toList)
theorem ldparses_j31 : ldparses_J31 Tryz.prog 8 Tryz.f8 Rows.ladderParsesSpec Rows.ladderParsesRow = true := by kernel_rfl
end Go.Proofs.YthnjfeielmbfkaaGreatDoor
