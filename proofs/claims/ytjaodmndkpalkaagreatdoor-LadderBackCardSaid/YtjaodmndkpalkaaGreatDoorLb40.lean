/-
  Texts that belong together, in one file: L29f.
-/
import Derived.Test.YtjaodmndkpalkaaGreatDoorLb39
import Derived.Test.YtjaodmndkpalkaaGreatDoorCards
import Derived.Test.YtjaodmndkpalkaaGreatDoorTie
import Derived.ChangeSame
import Derived.ChangeVars
import Derived.ChangeMaps5
import Derived.JoinedOf
import Derived.LaidMore
import Derived.LaidLaws
import Derived.LaidHandle
import Derived.Lay
set_option linter.unusedSimpArgs false
set_option linter.unusedVariables false
namespace Go.Proofs.YtjaodmndkpalkaaGreatDoor
open Go.Av Go.ChangeShapes Go.WideShapes Go.ChangeAt Go.RowKit
def ldback_J0 (P : Program) (f : FuncId) (fn : Func) (s : ChangeSpec) (c : OpenClaim) : Bool := c.wf (OpenSpec.ofChange s)
theorem ldback_j0 : ldback_J0 Tryz.prog 8 Tryz.f8 Rows.ladderBackSpec Rows.ladderBackRow = true := by kernel_rfl
def ldback_J1 (P : Program) (f : FuncId) (fn : Func) (s : ChangeSpec) (c : OpenClaim) : Bool := laidOutB P
theorem ldback_j1 : ldback_J1 Tryz.prog 8 Tryz.f8 Rows.ladderBackSpec Rows.ladderBackRow = true := by kernel_rfl
def ldback_J2 (P : Program) (f : FuncId) (fn : Func) (s : ChangeSpec) (c : OpenClaim) : Bool := mapsRowed P
theorem ldback_j2 : ldback_J2 Tryz.prog 8 Tryz.f8 Rows.ladderBackSpec Rows.ladderBackRow = true := by kernel_rfl
def ldback_J3 (P : Program) (f : FuncId) (fn : Func) (s : ChangeSpec) (c : OpenClaim) : Bool := fn.params.all (P.readableRec ·)
theorem ldback_j3 : ldback_J3 Tryz.prog 8 Tryz.f8 Rows.ladderBackSpec Rows.ladderBackRow = true := by kernel_rfl
def ldback_J4 (P : Program) (f : FuncId) (fn : Func) (s : ChangeSpec) (c : OpenClaim) : Bool := namedTie P c.named s.vars
theorem ldback_j4 : ldback_J4 Tryz.prog 8 Tryz.f8 Rows.ladderBackSpec Rows.ladderBackRow = true := by kernel_rfl
def ldback_J5 (P : Program) (f : FuncId) (fn : Func) (s : ChangeSpec) (c : OpenClaim) : Bool := (c.stops == [])
theorem ldback_j5 : ldback_J5 Tryz.prog 8 Tryz.f8 Rows.ladderBackSpec Rows.ladderBackRow = true := by kernel_rfl
def ldback_J6 (P : Program) (f : FuncId) (fn : Func) (s : ChangeSpec) (c : OpenClaim) : Bool := (P.stops == [])
theorem ldback_j6 : ldback_J6 Tryz.prog 8 Tryz.f8 Rows.ladderBackSpec Rows.ladderBackRow = true := by kernel_rfl
def ldback_J7 (P : Program) (f : FuncId) (fn : Func) (s : ChangeSpec) (c : OpenClaim) : Bool := (c.knobs == [])
theorem ldback_j7 : ldback_J7 Tryz.prog 8 Tryz.f8 Rows.ladderBackSpec Rows.ladderBackRow = true := by kernel_rfl
def ldback_J8 (P : Program) (f : FuncId) (fn : Func) (s : ChangeSpec) (c : OpenClaim) : Bool := (P.stopKnobs == [])
theorem ldback_j8 : ldback_J8 Tryz.prog 8 Tryz.f8 Rows.ladderBackSpec Rows.ladderBackRow = true := by kernel_rfl
def ldback_J9 (P : Program) (f : FuncId) (fn : Func) (s : ChangeSpec) (c : OpenClaim) : Bool := (c.inPlace == P.inPlace f)
theorem ldback_j9 : ldback_J9 Tryz.prog 8 Tryz.f8 Rows.ladderBackSpec Rows.ladderBackRow = true := by kernel_rfl
def ldback_J10 (P : Program) (f : FuncId) (fn : Func) (s : ChangeSpec) (c : OpenClaim) : Bool := (c.unfollowed == P.unfollowed f)
theorem ldback_j10 : ldback_J10 Tryz.prog 8 Tryz.f8 Rows.ladderBackSpec Rows.ladderBackRow = true := by kernel_rfl
def ldback_J11 (P : Program) (f : FuncId) (fn : Func) (s : ChangeSpec) (c : OpenClaim) : Bool := (c.recurses == P.recurses f)
theorem ldback_j11 : ldback_J11 Tryz.prog 8 Tryz.f8 Rows.ladderBackSpec Rows.ladderBackRow = true := by kernel_rfl
def ldback_J12 (P : Program) (f : FuncId) (fn : Func) (s : ChangeSpec) (c : OpenClaim) : Bool := (c.named == P.varsNamed f)
theorem ldback_j12 : ldback_J12 Tryz.prog 8 Tryz.f8 Rows.ladderBackSpec Rows.ladderBackRow = true := by kernel_rfl
def ldback_J13 (P : Program) (f : FuncId) (fn : Func) (s : ChangeSpec) (c : OpenClaim) : Bool := (c.maps == (fn.params.toList ++ s.plain.varTypes P).any (P.mapsRec ·))
theorem ldback_j13 : ldback_J13 Tryz.prog 8 Tryz.f8 Rows.ladderBackSpec Rows.ladderBackRow = true := by kernel_rfl
def ldback_J14 (P : Program) (f : FuncId) (fn : Func) (s : ChangeSpec) (c : OpenClaim) : Bool := (c.ifaces == (fn.params.toList ++ s.plain.varTypes P).any (P.ifacesRec ·))
theorem ldback_j14 : ldback_J14 Tryz.prog 8 Tryz.f8 Rows.ladderBackSpec Rows.ladderBackRow = true := by kernel_rfl
def ldback_J15 (P : Program) (f : FuncId) (fn : Func) (s : ChangeSpec) (c : OpenClaim) : Bool := (c.mapsOut == P.mapsAmong fn.resultTypes.toList)
theorem ldback_j15 : ldback_J15 Tryz.prog 8 Tryz.f8 Rows.ladderBackSpec Rows.ladderBackRow = true := by kernel_rfl
def ldback_J16 (P : Program) (f : FuncId) (fn : Func) (s : ChangeSpec) (c : OpenClaim) : Bool := (c.loops == (fn.params.toList ++ s.plain.varTypes P).any (P.loopsFrom ·))
theorem ldback_j16 : ldback_J16 Tryz.prog 8 Tryz.f8 Rows.ladderBackSpec Rows.ladderBackRow = true := by kernel_rfl
def ldback_J17 (P : Program) (f : FuncId) (fn : Func) (s : ChangeSpec) (c : OpenClaim) : Bool := (c.wideKeys == (fn.params.toList ++ s.plain.varTypes P ++ fn.resultTypes.toList).any (P.wideKeysFrom ·))
theorem ldback_j17 : ldback_J17 Tryz.prog 8 Tryz.f8 Rows.ladderBackSpec Rows.ladderBackRow = true := by kernel_rfl
def ldback_J18 (P : Program) (f : FuncId) (fn : Func) (s : ChangeSpec) (c : OpenClaim) : Bool := s.vars.all (P.varReadable ·)
theorem ldback_j18 : ldback_J18 Tryz.prog 8 Tryz.f8 Rows.ladderBackSpec Rows.ladderBackRow = true := by kernel_rfl
def ldback_J19 (P : Program) (f : FuncId) (fn : Func) (s : ChangeSpec) (c : OpenClaim) : Bool := fn.resultTypes.all (fun t => P.readableRec t && decide (t < P.types.size))
theorem ldback_j19 : ldback_J19 Tryz.prog 8 Tryz.f8 Rows.ladderBackSpec Rows.ladderBackRow = true := by kernel_rfl
def ldback_J20 (P : Program) (f : FuncId) (fn : Func) (s : ChangeSpec) (c : OpenClaim) : Bool := (c.ifacesOut == fn.resultTypes.toList.any (P.ifacesRec ·))
theorem ldback_j20 : ldback_J20 Tryz.prog 8 Tryz.f8 Rows.ladderBackSpec Rows.ladderBackRow = true := by kernel_rfl
def ldback_J21 (P : Program) (f : FuncId) (fn : Func) (s : ChangeSpec) (c : OpenClaim) : Bool := (c.loopsOut == fn.resultTypes.toList.any (P.loopsFrom ·))
theorem ldback_j21 : ldback_J21 Tryz.prog 8 Tryz.f8 Rows.ladderBackSpec Rows.ladderBackRow = true := by kernel_rfl
def ldback_J22 (P : Program) (f : FuncId) (fn : Func) (s : ChangeSpec) (c : OpenClaim) : Bool := (c.plainKeys == P.plainKeys)
theorem ldback_j22 : ldback_J22 Tryz.prog 8 Tryz.f8 Rows.ladderBackSpec Rows.ladderBackRow = true := by kernel_rfl
def ldback_J23 (P : Program) (f : FuncId) (fn : Func) (s : ChangeSpec) (c : OpenClaim) : Bool := c.shortTexts.isNone
theorem ldback_j23 : ldback_J23 Tryz.prog 8 Tryz.f8 Rows.ladderBackSpec Rows.ladderBackRow = true := by kernel_rfl
def ldback_J24 (P : Program) (f : FuncId) (fn : Func) (s : ChangeSpec) (c : OpenClaim) : Bool := P.stopsHeard
theorem ldback_j24 : ldback_J24 Tryz.prog 8 Tryz.f8 Rows.ladderBackSpec Rows.ladderBackRow = true := by kernel_rfl
def ldback_J25 (P : Program) (f : FuncId) (fn : Func) (s : ChangeSpec) (c : OpenClaim) : Bool := P.mayEnter
theorem ldback_j25 : ldback_J25 Tryz.prog 8 Tryz.f8 Rows.ladderBackSpec Rows.ladderBackRow = true := by kernel_rfl
def ldback_J26 (P : Program) (f : FuncId) (fn : Func) (s : ChangeSpec) (c : OpenClaim) : Bool := (c.lifted == P.liftsFinal)
theorem ldback_j26 : ldback_J26 Tryz.prog 8 Tryz.f8 Rows.ladderBackSpec Rows.ladderBackRow = true := by kernel_rfl
def ldback_J27 (P : Program) (f : FuncId) (fn : Func) (s : ChangeSpec) (c : OpenClaim) : Bool := (P.make == some c.make)
theorem ldback_j27 : ldback_J27 Tryz.prog 8 Tryz.f8 Rows.ladderBackSpec Rows.ladderBackRow = true := by kernel_rfl
def ldback_J28 (P : Program) (f : FuncId) (fn : Func) (s : ChangeSpec) (c : OpenClaim) : Bool := (c.kinds == (if c.domain.isEmpty then [] else fn.params.toList.map fun t => match P.underlying t with | some (.int k) => some k | _ => none))
theorem ldback_j28 : ldback_J28 Tryz.prog 8 Tryz.f8 Rows.ladderBackSpec Rows.ladderBackRow = true := by kernel_rfl
def ldback_J29 (P : Program) (f : FuncId) (fn : Func) (s : ChangeSpec) (c : OpenClaim) : Bool := (c.pinned == c.pinnedBy)
theorem ldback_j29 : ldback_J29 Tryz.prog 8 Tryz.f8 Rows.ladderBackSpec Rows.ladderBackRow = true := by kernel_rfl
def ldback_J30 (P : Program) (f : FuncId) (fn : Func) (s : ChangeSpec) (c : OpenClaim) : Bool := (c.veiled == (fn.params.toList ++ s.plain.varTypes P ++ fn.resultTypes.toList).any (P.veiledRec ·))
theorem ldback_j30 : ldback_J30 Tryz.prog 8 Tryz.f8 Rows.ladderBackSpec Rows.ladderBackRow = true := by kernel_rfl
def ldback_J31 (P : Program) (f : FuncId) (fn : Func) (s : ChangeSpec) (c : OpenClaim) : Bool := c.veiledFits P fn.params.toList (fn.params.toList ++ s.plain.varTypes P ++ fn.resultTypes.toList)
theorem ldback_j31 : ldback_J31 Tryz.prog 8 Tryz.f8 Rows.ladderBackSpec Rows.ladderBackRow = true := by kernel_rfl
end Go.Proofs.YtjaodmndkpalkaaGreatDoor
