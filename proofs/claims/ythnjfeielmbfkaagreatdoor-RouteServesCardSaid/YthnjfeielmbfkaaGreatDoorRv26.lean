/-
  Texts that belong together, in one file: L32f.
-/
import Derived.Test.YthnjfeielmbfkaaGreatDoorRv25
import Derived.Test.YthnjfeielmbfkaaGreatDoorCards
import Derived.Test.YthnjfeielmbfkaaGreatDoorTie
import Derived.ChangeSame
import Derived.ChangeVars
import Derived.ChangeMaps5
import Derived.JoinedOf
import Derived.LaidMore
import Derived.LaidLaws
import Derived.LaidHandle
import Derived.Lay
set_option linter.unusedSimpArgs false
set_option linter.unusedVariables false
namespace Go.Proofs.YthnjfeielmbfkaaGreatDoor
open Go.Av Go.ChangeShapes Go.WideShapes Go.ChangeAt Go.RowKit
def rserves_J0 (P : Program) (f : FuncId) (fn : Func) (s : ChangeSpec) (c : OpenClaim) : Bool := c.wf (OpenSpec.ofChange s)
theorem rserves_j0 : rserves_J0 Tryz.prog 3 Tryz.f3 Rows.routeServesSpec Rows.routeServesRow = true := by kernel_rfl
def rserves_J1 (P : Program) (f : FuncId) (fn : Func) (s : ChangeSpec) (c : OpenClaim) : Bool := laidOutB P
theorem rserves_j1 : rserves_J1 Tryz.prog 3 Tryz.f3 Rows.routeServesSpec Rows.routeServesRow = true := by kernel_rfl
def rserves_J2 (P : Program) (f : FuncId) (fn : Func) (s : ChangeSpec) (c : OpenClaim) : Bool := mapsRowed P
theorem rserves_j2 : rserves_J2 Tryz.prog 3 Tryz.f3 Rows.routeServesSpec Rows.routeServesRow = true := by kernel_rfl
def rserves_J3 (P : Program) (f : FuncId) (fn : Func) (s : ChangeSpec) (c : OpenClaim) : Bool := fn.params.all (P.readableRec ·)
theorem rserves_j3 : rserves_J3 Tryz.prog 3 Tryz.f3 Rows.routeServesSpec Rows.routeServesRow = true := by kernel_rfl
def rserves_J4 (P : Program) (f : FuncId) (fn : Func) (s : ChangeSpec) (c : OpenClaim) : Bool := namedTie P c.named s.vars
theorem rserves_j4 : rserves_J4 Tryz.prog 3 Tryz.f3 Rows.routeServesSpec Rows.routeServesRow = true := by kernel_rfl
def rserves_J5 (P : Program) (f : FuncId) (fn : Func) (s : ChangeSpec) (c : OpenClaim) : Bool := (c.stops == [])
theorem rserves_j5 : rserves_J5 Tryz.prog 3 Tryz.f3 Rows.routeServesSpec Rows.routeServesRow = true := by kernel_rfl
def rserves_J6 (P : Program) (f : FuncId) (fn : Func) (s : ChangeSpec) (c : OpenClaim) : Bool := (P.stops == [])
theorem rserves_j6 : rserves_J6 Tryz.prog 3 Tryz.f3 Rows.routeServesSpec Rows.routeServesRow = true := by kernel_rfl
def rserves_J7 (P : Program) (f : FuncId) (fn : Func) (s : ChangeSpec) (c : OpenClaim) : Bool := (c.knobs == [])
theorem rserves_j7 : rserves_J7 Tryz.prog 3 Tryz.f3 Rows.routeServesSpec Rows.routeServesRow = true := by kernel_rfl
def rserves_J8 (P : Program) (f : FuncId) (fn : Func) (s : ChangeSpec) (c : OpenClaim) : Bool := (P.stopKnobs == [])
theorem rserves_j8 : rserves_J8 Tryz.prog 3 Tryz.f3 Rows.routeServesSpec Rows.routeServesRow = true := by kernel_rfl
def rserves_J9 (P : Program) (f : FuncId) (fn : Func) (s : ChangeSpec) (c : OpenClaim) : Bool := (c.inPlace == P.inPlace f)
theorem rserves_j9 : rserves_J9 Tryz.prog 3 Tryz.f3 Rows.routeServesSpec Rows.routeServesRow = true := by kernel_rfl
def rserves_J10 (P : Program) (f : FuncId) (fn : Func) (s : ChangeSpec) (c : OpenClaim) : Bool := (c.unfollowed == P.unfollowed f)
theorem rserves_j10 : rserves_J10 Tryz.prog 3 Tryz.f3 Rows.routeServesSpec Rows.routeServesRow = true := by kernel_rfl
def rserves_J11 (P : Program) (f : FuncId) (fn : Func) (s : ChangeSpec) (c : OpenClaim) : Bool := (c.recurses == P.recurses f)
theorem rserves_j11 : rserves_J11 Tryz.prog 3 Tryz.f3 Rows.routeServesSpec Rows.routeServesRow = true := by kernel_rfl
def rserves_J12 (P : Program) (f : FuncId) (fn : Func) (s : ChangeSpec) (c : OpenClaim) : Bool := (c.named == P.varsNamed f)
theorem rserves_j12 : rserves_J12 Tryz.prog 3 Tryz.f3 Rows.routeServesSpec Rows.routeServesRow = true := by kernel_rfl
def rserves_J13 (P : Program) (f : FuncId) (fn : Func) (s : ChangeSpec) (c : OpenClaim) : Bool := (c.maps == (fn.params.toList ++ s.plain.varTypes P).any (P.mapsRec ·))
theorem rserves_j13 : rserves_J13 Tryz.prog 3 Tryz.f3 Rows.routeServesSpec Rows.routeServesRow = true := by kernel_rfl
def rserves_J14 (P : Program) (f : FuncId) (fn : Func) (s : ChangeSpec) (c : OpenClaim) : Bool := (c.ifaces == (fn.params.toList ++ s.plain.varTypes P).any (P.ifacesRec ·))
theorem rserves_j14 : rserves_J14 Tryz.prog 3 Tryz.f3 Rows.routeServesSpec Rows.routeServesRow = true := by kernel_rfl
def rserves_J15 (P : Program) (f : FuncId) (fn : Func) (s : ChangeSpec) (c : OpenClaim) : Bool := (c.mapsOut == P.mapsAmong fn.resultTypes.toList)
theorem rserves_j15 : rserves_J15 Tryz.prog 3 Tryz.f3 Rows.routeServesSpec Rows.routeServesRow = true := by kernel_rfl
def rserves_J16 (P : Program) (f : FuncId) (fn : Func) (s : ChangeSpec) (c : OpenClaim) : Bool := (c.loops == (fn.params.toList ++ s.plain.varTypes P).any (P.loopsFrom ·))
theorem rserves_j16 : rserves_J16 Tryz.prog 3 Tryz.f3 Rows.routeServesSpec Rows.routeServesRow = true := by kernel_rfl
def rserves_J17 (P : Program) (f : FuncId) (fn : Func) (s : ChangeSpec) (c : OpenClaim) : Bool := (c.wideKeys == (fn.params.toList ++ s.plain.varTypes P ++ fn.resultTypes.toList).any (P.wideKeysFrom ·))
theorem rserves_j17 : rserves_J17 Tryz.prog 3 Tryz.f3 Rows.routeServesSpec Rows.routeServesRow = true := by kernel_rfl
def rserves_J18 (P : Program) (f : FuncId) (fn : Func) (s : ChangeSpec) (c : OpenClaim) : Bool := s.vars.all (P.varReadable ·)
theorem rserves_j18 : rserves_J18 Tryz.prog 3 Tryz.f3 Rows.routeServesSpec Rows.routeServesRow = true := by kernel_rfl
def rserves_J19 (P : Program) (f : FuncId) (fn : Func) (s : ChangeSpec) (c : OpenClaim) : Bool := fn.resultTypes.all (fun t => P.readableRec t && decide (t < P.types.size))
theorem rserves_j19 : rserves_J19 Tryz.prog 3 Tryz.f3 Rows.routeServesSpec Rows.routeServesRow = true := by kernel_rfl
def rserves_J20 (P : Program) (f : FuncId) (fn : Func) (s : ChangeSpec) (c : OpenClaim) : Bool := (c.ifacesOut == fn.resultTypes.toList.any (P.ifacesRec ·))
theorem rserves_j20 : rserves_J20 Tryz.prog 3 Tryz.f3 Rows.routeServesSpec Rows.routeServesRow = true := by kernel_rfl
def rserves_J21 (P : Program) (f : FuncId) (fn : Func) (s : ChangeSpec) (c : OpenClaim) : Bool := (c.loopsOut == fn.resultTypes.toList.any (P.loopsFrom ·))
theorem rserves_j21 : rserves_J21 Tryz.prog 3 Tryz.f3 Rows.routeServesSpec Rows.routeServesRow = true := by kernel_rfl
def rserves_J22 (P : Program) (f : FuncId) (fn : Func) (s : ChangeSpec) (c : OpenClaim) : Bool := (c.plainKeys == P.plainKeys)
theorem rserves_j22 : rserves_J22 Tryz.prog 3 Tryz.f3 Rows.routeServesSpec Rows.routeServesRow = true := by kernel_rfl
def rserves_J23 (P : Program) (f : FuncId) (fn : Func) (s : ChangeSpec) (c : OpenClaim) : Bool := c.shortTexts.isNone
theorem rserves_j23 : rserves_J23 Tryz.prog 3 Tryz.f3 Rows.routeServesSpec Rows.routeServesRow = true := by kernel_rfl
def rserves_J24 (P : Program) (f : FuncId) (fn : Func) (s : ChangeSpec) (c : OpenClaim) : Bool := P.stopsHeard
theorem rserves_j24 : rserves_J24 Tryz.prog 3 Tryz.f3 Rows.routeServesSpec Rows.routeServesRow = true := by kernel_rfl
def rserves_J25 (P : Program) (f : FuncId) (fn : Func) (s : ChangeSpec) (c : OpenClaim) : Bool := P.mayEnter
theorem rserves_j25 : rserves_J25 Tryz.prog 3 Tryz.f3 Rows.routeServesSpec Rows.routeServesRow = true := by kernel_rfl
def rserves_J26 (P : Program) (f : FuncId) (fn : Func) (s : ChangeSpec) (c : OpenClaim) : Bool := (c.lifted == P.liftsFinal)
theorem rserves_j26 : rserves_J26 Tryz.prog 3 Tryz.f3 Rows.routeServesSpec Rows.routeServesRow = true := by kernel_rfl
def rserves_J27 (P : Program) (f : FuncId) (fn : Func) (s : ChangeSpec) (c : OpenClaim) : Bool := (P.make == some c.make)
theorem rserves_j27 : rserves_J27 Tryz.prog 3 Tryz.f3 Rows.routeServesSpec Rows.routeServesRow = true := by kernel_rfl
def rserves_J28 (P : Program) (f : FuncId) (fn : Func) (s : ChangeSpec) (c : OpenClaim) : Bool := (c.kinds == (if c.domain.isEmpty then [] else fn.params.toList.map fun t => match P.underlying t with | some (.int k) => some k | _ => none))
theorem rserves_j28 : rserves_J28 Tryz.prog 3 Tryz.f3 Rows.routeServesSpec Rows.routeServesRow = true := by kernel_rfl
def rserves_J29 (P : Program) (f : FuncId) (fn : Func) (s : ChangeSpec) (c : OpenClaim) : Bool := (c.pinned == c.pinnedBy)
theorem rserves_j29 : rserves_J29 Tryz.prog 3 Tryz.f3 Rows.routeServesSpec Rows.routeServesRow = true := by kernel_rfl
def rserves_J30 (P : Program) (f : FuncId) (fn : Func) (s : ChangeSpec) (c : OpenClaim) : Bool := (c.veiled == (fn.params.toList ++ s.plain.varTypes P ++ fn.resultTypes.toList).any (P.veiledRec ·))
theorem rserves_j30 : rserves_J30 Tryz.prog 3 Tryz.f3 Rows.routeServesSpec Rows.routeServesRow = true := by kernel_rfl
def rserves_J31 (P : Program) (f : FuncId) (fn : Func) (s : ChangeSpec) (c : OpenClaim) : Bool := c.veiledFits P fn.params.toList (fn.params.toList ++ s.plain.varTypes P ++ fn.resultTypes.toList)
theorem rserves_j31 : rserves_J31 Tryz.prog 3 Tryz.f3 Rows.routeServesSpec Rows.routeServesRow = true := by kernel_rfl
end Go.Proofs.YthnjfeielmbfkaaGreatDoor
