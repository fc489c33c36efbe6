/-
  Texts that belong together, in one file: L28f.
-/
import Derived.Test.YtjaodmndkpalkaaGreatDoorLc34
import Derived.Test.YtjaodmndkpalkaaGreatDoorCards
import Derived.Test.YtjaodmndkpalkaaGreatDoorTie
import Derived.ChangeSame
import Derived.ChangeVars
import Derived.ChangeMaps5
import Derived.JoinedOf
import Derived.LaidMore
import Derived.LaidLaws
import Derived.LaidHandle
import Derived.Lay
set_option linter.unusedSimpArgs false
set_option linter.unusedVariables false
namespace Go.Proofs.YtjaodmndkpalkaaGreatDoor
open Go.Av Go.ChangeShapes Go.WideShapes Go.ChangeAt Go.RowKit
def ldchecks_J0 (P : Program) (f : FuncId) (fn : Func) (s : ChangeSpec) (c : OpenClaim) : Bool := c.wf (OpenSpec.ofChange s)
theorem ldchecks_j0 : ldchecks_J0 Tryz.prog 5 Tryz.f5 Rows.ladderChecksSpec Rows.ladderChecksRow = true := by kernel_rfl
def ldchecks_J1 (P : Program) (f : FuncId) (fn : Func) (s : ChangeSpec) (c : OpenClaim) : Bool := laidOutB P
theorem ldchecks_j1 : ldchecks_J1 Tryz.prog 5 Tryz.f5 Rows.ladderChecksSpec Rows.ladderChecksRow = true := by kernel_rfl
def ldchecks_J2 (P : Program) (f : FuncId) (fn : Func) (s : ChangeSpec) (c : OpenClaim) : Bool := mapsRowed P
theorem ldchecks_j2 : ldchecks_J2 Tryz.prog 5 Tryz.f5 Rows.ladderChecksSpec Rows.ladderChecksRow = true := by kernel_rfl
def ldchecks_J3 (P : Program) (f : FuncId) (fn : Func) (s : ChangeSpec) (c : OpenClaim) : Bool := fn.params.all (P.readableRec ·)
theorem ldchecks_j3 : ldchecks_J3 Tryz.prog 5 Tryz.f5 Rows.ladderChecksSpec Rows.ladderChecksRow = true := by kernel_rfl
def ldchecks_J4 (P : Program) (f : FuncId) (fn : Func) (s : ChangeSpec) (c : OpenClaim) : Bool := namedTie P c.named s.vars
theorem ldchecks_j4 : ldchecks_J4 Tryz.prog 5 Tryz.f5 Rows.ladderChecksSpec Rows.ladderChecksRow = true := by kernel_rfl
def ldchecks_J5 (P : Program) (f : FuncId) (fn : Func) (s : ChangeSpec) (c : OpenClaim) : Bool := (c.stops == [])
theorem ldchecks_j5 : ldchecks_J5 Tryz.prog 5 Tryz.f5 Rows.ladderChecksSpec Rows.ladderChecksRow = true := by kernel_rfl
def ldchecks_J6 (P : Program) (f : FuncId) (fn : Func) (s : ChangeSpec) (c : OpenClaim) : Bool := (P.stops == [])
theorem ldchecks_j6 : ldchecks_J6 Tryz.prog 5 Tryz.f5 Rows.ladderChecksSpec Rows.ladderChecksRow = true := by kernel_rfl
def ldchecks_J7 (P : Program) (f : FuncId) (fn : Func) (s : ChangeSpec) (c : OpenClaim) : Bool := (c.knobs == [])
theorem ldchecks_j7 : ldchecks_J7 Tryz.prog 5 Tryz.f5 Rows.ladderChecksSpec Rows.ladderChecksRow = true := by kernel_rfl
def ldchecks_J8 (P : Program) (f : FuncId) (fn : Func) (s : ChangeSpec) (c : OpenClaim) : Bool := (P.stopKnobs == [])
theorem ldchecks_j8 : ldchecks_J8 Tryz.prog 5 Tryz.f5 Rows.ladderChecksSpec Rows.ladderChecksRow = true := by kernel_rfl
def ldchecks_J9 (P : Program) (f : FuncId) (fn : Func) (s : ChangeSpec) (c : OpenClaim) : Bool := (c.inPlace == P.inPlace f)
theorem ldchecks_j9 : ldchecks_J9 Tryz.prog 5 Tryz.f5 Rows.ladderChecksSpec Rows.ladderChecksRow = true := by kernel_rfl
def ldchecks_J10 (P : Program) (f : FuncId) (fn : Func) (s : ChangeSpec) (c : OpenClaim) : Bool := (c.unfollowed == P.unfollowed f)
theorem ldchecks_j10 : ldchecks_J10 Tryz.prog 5 Tryz.f5 Rows.ladderChecksSpec Rows.ladderChecksRow = true := by kernel_rfl
def ldchecks_J11 (P : Program) (f : FuncId) (fn : Func) (s : ChangeSpec) (c : OpenClaim) : Bool := (c.recurses == P.recurses f)
theorem ldchecks_j11 : ldchecks_J11 Tryz.prog 5 Tryz.f5 Rows.ladderChecksSpec Rows.ladderChecksRow = true := by kernel_rfl
def ldchecks_J12 (P : Program) (f : FuncId) (fn : Func) (s : ChangeSpec) (c : OpenClaim) : Bool := (c.named == P.varsNamed f)
theorem ldchecks_j12 : ldchecks_J12 Tryz.prog 5 Tryz.f5 Rows.ladderChecksSpec Rows.ladderChecksRow = true := by kernel_rfl
def ldchecks_J13 (P : Program) (f : FuncId) (fn : Func) (s : ChangeSpec) (c : OpenClaim) : Bool := (c.maps == (fn.params.toList ++ s.plain.varTypes P).any (P.mapsRec ·))
theorem ldchecks_j13 : ldchecks_J13 Tryz.prog 5 Tryz.f5 Rows.ladderChecksSpec Rows.ladderChecksRow = true := by kernel_rfl
def ldchecks_J14 (P : Program) (f : FuncId) (fn : Func) (s : ChangeSpec) (c : OpenClaim) : Bool := (c.ifaces == (fn.params.toList ++ s.plain.varTypes P).any (P.ifacesRec ·))
theorem ldchecks_j14 : ldchecks_J14 Tryz.prog 5 Tryz.f5 Rows.ladderChecksSpec Rows.ladderChecksRow = true := by kernel_rfl
def ldchecks_J15 (P : Program) (f : FuncId) (fn : Func) (s : ChangeSpec) (c : OpenClaim) : Bool := (c.mapsOut == P.mapsAmong fn.resultTypes.toList)
theorem ldchecks_j15 : ldchecks_J15 Tryz.prog 5 Tryz.f5 Rows.ladderChecksSpec Rows.ladderChecksRow = true := by kernel_rfl
def ldchecks_J16 (P : Program) (f : FuncId) (fn : Func) (s : ChangeSpec) (c : OpenClaim) : Bool := (c.loops == (fn.params.toList ++ s.plain.varTypes P).any (P.loopsFrom ·))
theorem ldchecks_j16 : ldchecks_J16 Tryz.prog 5 Tryz.f5 Rows.ladderChecksSpec Rows.ladderChecksRow = true := by kernel_rfl
def ldchecks_J17 (P : Program) (f : FuncId) (fn : Func) (s : ChangeSpec) (c : OpenClaim) : Bool := (c.wideKeys == (fn.params.toList ++ s.plain.varTypes P ++ fn.resultTypes.toList).any (P.wideKeysFrom ·))
theorem ldchecks_j17 : ldchecks_J17 Tryz.prog 5 Tryz.f5 Rows.ladderChecksSpec Rows.ladderChecksRow = true := by kernel_rfl
def ldchecks_J18 (P : Program) (f : FuncId) (fn : Func) (s : ChangeSpec) (c : OpenClaim) : Bool := s.vars.all (P.varReadable ·)
theorem ldchecks_j18 : ldchecks_J18 Tryz.prog 5 Tryz.f5 Rows.ladderChecksSpec Rows.ladderChecksRow = true := by kernel_rfl
def ldchecks_J19 (P : Program) (f : FuncId) (fn : Func) (s : ChangeSpec) (c : OpenClaim) : Bool := fn.resultTypes.all (fun t => P.readableRec t && decide (t < P.types.size))
theorem ldchecks_j19 : ldchecks_J19 Tryz.prog 5 Tryz.f5 Rows.ladderChecksSpec Rows.ladderChecksRow = true := by kernel_rfl
def ldchecks_J20 (P : Program) (f : FuncId) (fn : Func) (s : ChangeSpec) (c : OpenClaim) : Bool := (c.ifacesOut == fn.resultTypes.toList.any (P.ifacesRec ·))
theorem ldchecks_j20 : ldchecks_J20 Tryz.prog 5 Tryz.f5 Rows.ladderChecksSpec Rows.ladderChecksRow = true := by kernel_rfl
def ldchecks_J21 (P : Program) (f : FuncId) (fn : Func) (s : ChangeSpec) (c : OpenClaim) : Bool := (c.loopsOut == fn.resultTypes.toList.any (P.loopsFrom ·))
theorem ldchecks_j21 : ldchecks_J21 Tryz.prog 5 Tryz.f5 Rows.ladderChecksSpec Rows.ladderChecksRow = true := by kernel_rfl
def ldchecks_J22 (P : Program) (f : FuncId) (fn : Func) (s : ChangeSpec) (c : OpenClaim) : Bool := (c.plainKeys == P.plainKeys)
theorem ldchecks_j22 : ldchecks_J22 Tryz.prog 5 Tryz.f5 Rows.ladderChecksSpec Rows.ladderChecksRow = true := by kernel_rfl
def ldchecks_J23 (P : Program) (f : FuncId) (fn : Func) (s : ChangeSpec) (c : OpenClaim) : Bool := c.shortTexts.isNone
theorem ldchecks_j23 : ldchecks_J23 Tryz.prog 5 Tryz.f5 Rows.ladderChecksSpec Rows.ladderChecksRow = true := by kernel_rfl
def ldchecks_J24 (P : Program) (f : FuncId) (fn : Func) (s : ChangeSpec) (c : OpenClaim) : Bool := P.stopsHeard
theorem ldchecks_j24 : ldchecks_J24 Tryz.prog 5 Tryz.f5 Rows.ladderChecksSpec Rows.ladderChecksRow = true := by kernel_rfl
def ldchecks_J25 (P : Program) (f : FuncId) (fn : Func) (s : ChangeSpec) (c : OpenClaim) : Bool := P.mayEnter
theorem ldchecks_j25 : ldchecks_J25 Tryz.prog 5 Tryz.f5 Rows.ladderChecksSpec Rows.ladderChecksRow = true := by kernel_rfl
def ldchecks_J26 (P : Program) (f : FuncId) (fn : Func) (s : ChangeSpec) (c : OpenClaim) : Bool := (c.lifted == P.liftsFinal)
theorem ldchecks_j26 : ldchecks_J26 Tryz.prog 5 Tryz.f5 Rows.ladderChecksSpec Rows.ladderChecksRow = true := by kernel_rfl
def ldchecks_J27 (P : Program) (f : FuncId) (fn : Func) (s : ChangeSpec) (c : OpenClaim) : Bool := (P.make == some c.make)
theorem ldchecks_j27 : ldchecks_J27 Tryz.prog 5 Tryz.f5 Rows.ladderChecksSpec Rows.ladderChecksRow = true := by kernel_rfl
def ldchecks_J28 (P : Program) (f : FuncId) (fn : Func) (s : ChangeSpec) (c : OpenClaim) : Bool := (c.kinds == (if c.domain.isEmpty then [] else fn.params.toList.map fun t => match P.underlying t with | some (.int k) => some k | _ => none))
theorem ldchecks_j28 : ldchecks_J28 Tryz.prog 5 Tryz.f5 Rows.ladderChecksSpec Rows.ladderChecksRow = true := by kernel_rfl
def ldchecks_J29 (P : Program) (f : FuncId) (fn : Func) (s : ChangeSpec) (c : OpenClaim) : Bool := (c.pinned == c.pinnedBy)
theorem ldchecks_j29 : ldchecks_J29 Tryz.prog 5 Tryz.f5 Rows.ladderChecksSpec Rows.ladderChecksRow = true := by kernel_rfl
def ldchecks_J30 (P : Program) (f : FuncId) (fn : Func) (s : ChangeSpec) (c : OpenClaim) : Bool := (c.veiled == (fn.params.toList ++ s.plain.varTypes P ++ fn.resultTypes.toList).any (P.veiledRec ·))
theorem ldchecks_j30 : ldchecks_J30 Tryz.prog 5 Tryz.f5 Rows.ladderChecksSpec Rows.ladderChecksRow = true := by kernel_rfl
def ldchecks_J31 (P : Program) (f : FuncId) (fn : Func) (s : ChangeSpec) (c : OpenClaim) : Bool := c.veiledFits P fn.params.toList (fn.params.toList ++ s.plain.varTypes P ++ fn.resultTypes.toList)
theorem ldchecks_j31 : ldchecks_J31 Tryz.prog 5 Tryz.f5 Rows.ladderChecksSpec Rows.ladderChecksRow = true := by kernel_rfl
end Go.Proofs.YtjaodmndkpalkaaGreatDoor
