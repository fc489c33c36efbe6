/-
  Texts that belong together, in one file: L31f.
-/
import Derived.Test.YthnjfeielmbfkaaGreatDoorSb38
import Derived.Test.YthnjfeielmbfkaaGreatDoorCards
import Derived.Test.YthnjfeielmbfkaaGreatDoorTie
import Derived.ChangeSame
import Derived.ChangeVars
import Derived.ChangeMaps5
import Derived.JoinedOf
import Derived.LaidMore
import Derived.LaidLaws
import Derived.LaidHandle
import Derived.Lay
set_option linter.unusedSimpArgs false
set_option linter.unusedVariables false
namespace Go.Proofs.YthnjfeielmbfkaaGreatDoor
open Go.Av Go.ChangeShapes Go.WideShapes Go.ChangeAt Go.RowKit
def sbounds_J0 (P : Program) (f : FuncId) (fn : Func) (s : ChangeSpec) (c : OpenClaim) : Bool := c.wf (OpenSpec.ofChange s)
theorem sbounds_j0 : sbounds_J0 Tryz.prog 6 Tryz.f6 Rows.scanBoundsSpec Rows.scanBoundsRow = true := by kernel_rfl
def sbounds_J1 (P : Program) (f : FuncId) (fn : Func) (s : ChangeSpec) (c : OpenClaim) : Bool := laidOutB P
theorem sbounds_j1 : sbounds_J1 Tryz.prog 6 Tryz.f6 Rows.scanBoundsSpec Rows.scanBoundsRow = true := by kernel_rfl
def sbounds_J2 (P : Program) (f : FuncId) (fn : Func) (s : ChangeSpec) (c : OpenClaim) : Bool := mapsRowed P
theorem sbounds_j2 : sbounds_J2 Tryz.prog 6 Tryz.f6 Rows.scanBoundsSpec Rows.scanBoundsRow = true := by kernel_rfl
def sbounds_J3 (P : Program) (f : FuncId) (fn : Func) (s : ChangeSpec) (c : OpenClaim) : Bool := fn.params.all (P.readableRec ·)
theorem sbounds_j3 : sbounds_J3 Tryz.prog 6 Tryz.f6 Rows.scanBoundsSpec Rows.scanBoundsRow = true := by kernel_rfl
def sbounds_J4 (P : Program) (f : FuncId) (fn : Func) (s : ChangeSpec) (c : OpenClaim) : Bool := namedTie P c.named s.vars
theorem sbounds_j4 : sbounds_J4 Tryz.prog 6 Tryz.f6 Rows.scanBoundsSpec Rows.scanBoundsRow = true := by kernel_rfl
def sbounds_J5 (P : Program) (f : FuncId) (fn : Func) (s : ChangeSpec) (c : OpenClaim) : Bool := (c.stops == [])
theorem sbounds_j5 : sbounds_J5 Tryz.prog 6 Tryz.f6 Rows.scanBoundsSpec Rows.scanBoundsRow = true := by kernel_rfl
def sbounds_J6 (P : Program) (f : FuncId) (fn : Func) (s : ChangeSpec) (c : OpenClaim) : Bool := (P.stops == [])
theorem sbounds_j6 : sbounds_J6 Tryz.prog 6 Tryz.f6 Rows.scanBoundsSpec Rows.scanBoundsRow = true := by kernel_rfl
def sbounds_J7 (P : Program) (f : FuncId) (fn : Func) (s : ChangeSpec) (c : OpenClaim) : Bool := (c.knobs == [])
theorem sbounds_j7 : sbounds_J7 Tryz.prog 6 Tryz.f6 Rows.scanBoundsSpec Rows.scanBoundsRow = true := by kernel_rfl
def sbounds_J8 (P : Program) (f : FuncId) (fn : Func) (s : ChangeSpec) (c : OpenClaim) : Bool := (P.stopKnobs == [])
theorem sbounds_j8 : sbounds_J8 Tryz.prog 6 Tryz.f6 Rows.scanBoundsSpec Rows.scanBoundsRow = true := by kernel_rfl
def sbounds_J9 (P : Program) (f : FuncId) (fn : Func) (s : ChangeSpec) (c : OpenClaim) : Bool := (c.inPlace == P.inPlace f)
theorem sbounds_j9 : sbounds_J9 Tryz.prog 6 Tryz.f6 Rows.scanBoundsSpec Rows.scanBoundsRow = true := by kernel_rfl
def sbounds_J10 (P : Program) (f : FuncId) (fn : Func) (s : ChangeSpec) (c : OpenClaim) : Bool := (c.unfollowed == P.unfollowed f)
theorem sbounds_j10 : sbounds_J10 Tryz.prog 6 Tryz.f6 Rows.scanBoundsSpec Rows.scanBoundsRow = true := by kernel_rfl
def sbounds_J11 (P : Program) (f : FuncId) (fn : Func) (s : ChangeSpec) (c : OpenClaim) : Bool := (c.recurses == P.recurses f)
theorem sbounds_j11 : sbounds_J11 Tryz.prog 6 Tryz.f6 Rows.scanBoundsSpec Rows.scanBoundsRow = true := by kernel_rfl
def sbounds_J12 (P : Program) (f : FuncId) (fn : Func) (s : ChangeSpec) (c : OpenClaim) : Bool := (c.named == P.varsNamed f)
theorem sbounds_j12 : sbounds_J12 Tryz.prog 6 Tryz.f6 Rows.scanBoundsSpec Rows.scanBoundsRow = true := by kernel_rfl
def sbounds_J13 (P : Program) (f : FuncId) (fn : Func) (s : ChangeSpec) (c : OpenClaim) : Bool := (c.maps == (fn.params.toList ++ s.plain.varTypes P).any (P.mapsRec ·))
theorem sbounds_j13 : sbounds_J13 Tryz.prog 6 Tryz.f6 Rows.scanBoundsSpec Rows.scanBoundsRow = true := by kernel_rfl
def sbounds_J14 (P : Program) (f : FuncId) (fn : Func) (s : ChangeSpec) (c : OpenClaim) : Bool := (c.ifaces == (fn.params.toList ++ s.plain.varTypes P).any (P.ifacesRec ·))
theorem sbounds_j14 : sbounds_J14 Tryz.prog 6 Tryz.f6 Rows.scanBoundsSpec Rows.scanBoundsRow = true := by kernel_rfl
def sbounds_J15 (P : Program) (f : FuncId) (fn : Func) (s : ChangeSpec) (c : OpenClaim) : Bool := (c.mapsOut == P.mapsAmong fn.resultTypes.toList)
theorem sbounds_j15 : sbounds_J15 Tryz.prog 6 Tryz.f6 Rows.scanBoundsSpec Rows.scanBoundsRow = true := by kernel_rfl
def sbounds_J16 (P : Program) (f : FuncId) (fn : Func) (s : ChangeSpec) (c : OpenClaim) : Bool := (c.loops == (fn.params.toList ++ s.plain.varTypes P).any (P.loopsFrom ·))
theorem sbounds_j16 : sbounds_J16 Tryz.prog 6 Tryz.f6 Rows.scanBoundsSpec Rows.scanBoundsRow = true := by kernel_rfl
def sbounds_J17 (P : Program) (f : FuncId) (fn : Func) (s : ChangeSpec) (c : OpenClaim) : Bool := (c.wideKeys == (fn.params.toList ++ s.plain.varTypes P ++ fn.resultTypes.toList).any (P.wideKeysFrom ·))
theorem sbounds_j17 : sbounds_J17 Tryz.prog 6 Tryz.f6 Rows.scanBoundsSpec Rows.scanBoundsRow = true := by kernel_rfl
def sbounds_J18 (P : Program) (f : FuncId) (fn : Func) (s : ChangeSpec) (c : OpenClaim) : Bool := s.vars.all (P.varReadable ·)
theorem sbounds_j18 : sbounds_J18 Tryz.prog 6 Tryz.f6 Rows.scanBoundsSpec Rows.scanBoundsRow = true := by kernel_rfl
def sbounds_J19 (P : Program) (f : FuncId) (fn : Func) (s : ChangeSpec) (c : OpenClaim) : Bool := fn.resultTypes.all (fun t => P.readableRec t && decide (t < P.types.size))
theorem sbounds_j19 : sbounds_J19 Tryz.prog 6 Tryz.f6 Rows.scanBoundsSpec Rows.scanBoundsRow = true := by kernel_rfl
def sbounds_J20 (P : Program) (f : FuncId) (fn : Func) (s : ChangeSpec) (c : OpenClaim) : Bool := (c.ifacesOut == fn.resultTypes.toList.any (P.ifacesRec ·))
theorem sbounds_j20 : sbounds_J20 Tryz.prog 6 Tryz.f6 Rows.scanBoundsSpec Rows.scanBoundsRow = true := by kernel_rfl
def sbounds_J21 (P : Program) (f : FuncId) (fn : Func) (s : ChangeSpec) (c : OpenClaim) : Bool := (c.loopsOut == fn.resultTypes.toList.any (P.loopsFrom ·))
theorem sbounds_j21 : sbounds_J21 Tryz.prog 6 Tryz.f6 Rows.scanBoundsSpec Rows.scanBoundsRow = true := by kernel_rfl
def sbounds_J22 (P : Program) (f : FuncId) (fn : Func) (s : ChangeSpec) (c : OpenClaim) : Bool := (c.plainKeys == P.plainKeys)
theorem sbounds_j22 : sbounds_J22 Tryz.prog 6 Tryz.f6 Rows.scanBoundsSpec Rows.scanBoundsRow = true := by kernel_rfl
def sbounds_J23 (P : Program) (f : FuncId) (fn : Func) (s : ChangeSpec) (c : OpenClaim) : Bool := c.shortTexts.isNone
theorem sbounds_j23 : sbounds_J23 Tryz.prog 6 Tryz.f6 Rows.scanBoundsSpec Rows.scanBoundsRow = true := by kernel_rfl
def sbounds_J24 (P : Program) (f : FuncId) (fn : Func) (s : ChangeSpec) (c : OpenClaim) : Bool := P.stopsHeard
theorem sbounds_j24 : sbounds_J24 Tryz.prog 6 Tryz.f6 Rows.scanBoundsSpec Rows.scanBoundsRow = true := by kernel_rfl
def sbounds_J25 (P : Program) (f : FuncId) (fn : Func) (s : ChangeSpec) (c : OpenClaim) : Bool := P.mayEnter
theorem sbounds_j25 : sbounds_J25 Tryz.prog 6 Tryz.f6 Rows.scanBoundsSpec Rows.scanBoundsRow = true := by kernel_rfl
def sbounds_J26 (P : Program) (f : FuncId) (fn : Func) (s : ChangeSpec) (c : OpenClaim) : Bool := (c.lifted == P.liftsFinal)
theorem sbounds_j26 : sbounds_J26 Tryz.prog 6 Tryz.f6 Rows.scanBoundsSpec Rows.scanBoundsRow = true := by kernel_rfl
def sbounds_J27 (P : Program) (f : FuncId) (fn : Func) (s : ChangeSpec) (c : OpenClaim) : Bool := (P.make == some c.make)
theorem sbounds_j27 : sbounds_J27 Tryz.prog 6 Tryz.f6 Rows.scanBoundsSpec Rows.scanBoundsRow = true := by kernel_rfl
def sbounds_J28 (P : Program) (f : FuncId) (fn : Func) (s : ChangeSpec) (c : OpenClaim) : Bool := (c.kinds == (if c.domain.isEmpty then [] else fn.params.toList.map fun t => match P.underlying t with | some (.int k) => some k | _ => none))
theorem sbounds_j28 : sbounds_J28 Tryz.prog 6 Tryz.f6 Rows.scanBoundsSpec Rows.scanBoundsRow = true := by kernel_rfl
def sbounds_J29 (P : Program) (f : FuncId) (fn : Func) (s : ChangeSpec) (c : OpenClaim) : Bool := (c.pinned == c.pinnedBy)
theorem sbounds_j29 : sbounds_J29 Tryz.prog 6 Tryz.f6 Rows.scanBoundsSpec Rows.scanBoundsRow = true := by kernel_rfl
def sbounds_J30 (P : Program) (f : FuncId) (fn : Func) (s : ChangeSpec) (c : OpenClaim) : Bool := (c.veiled == (fn.params.toList ++ s.plain.varTypes P ++ fn.resultTypes.toList).any (P.veiledRec ·))
theorem sbounds_j30 : sbounds_J30 Tryz.prog 6 Tryz.f6 Rows.scanBoundsSpec Rows.scanBoundsRow = true := by kernel_rfl
def sbounds_J31 (P : Program) (f : FuncId) (fn : Func) (s : ChangeSpec) (c : OpenClaim) : Bool := c.veiledFits P fn.params.toList (fn.params.toList ++ s.plain.varTypes P ++ fn.resultTypes.toList)
theorem sbounds_j31 : sbounds_J31 Tryz.prog 6 Tryz.f6 Rows.scanBoundsSpec Rows.scanBoundsRow = true := by kernel_rfl
end Go.Proofs.YthnjfeielmbfkaaGreatDoor
