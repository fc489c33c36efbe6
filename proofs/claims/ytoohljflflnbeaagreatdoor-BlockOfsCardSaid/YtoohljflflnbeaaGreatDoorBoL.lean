/-
  Proved: for every argument whatever, BlockOfs answers true and leaves its arguments as they were, where the package-level variables that the card names are laid as the program's own text lays them (the card's tie). No other condition.
-/
import Derived.Test.YtoohljflflnbeaaGreatDoorBo52
import Derived.Test.YtoohljflflnbeaaGreatDoorCards
import Derived.Test.YtoohljflflnbeaaGreatDoorTie
import Derived.ChangeSame
import Derived.ChangeVars
import Derived.ChangeMaps5
import Derived.JoinedOf
import Derived.LaidMore
import Derived.LaidLaws
import Derived.LaidHandle
import Derived.Lay
namespace Go.Proofs.YtoohljflflnbeaaGreatDoor
set_option linter.unusedSimpArgs false
set_option linter.unusedVariables false
open Go.Av Go.ChangeShapes Go.WideShapes Go.ChangeAt Go.RowKit

theorem bofs_card : Rows.BlockOfsCardSaid :=
  Claim7.holds_tied_plain_at .later [] [.data, .data, .data, .data, .handle, .sentinel, .sentinel, .data, .widerDeep, .widerDeep, .pinned] true Rows.blockOfsCard.stood.harness true
    Ux (fun _ h => by cases h) Vn (fun _ h => by cases h) blockOfs_row_tie rfl ⟨rfl, rfl⟩ Ve rfl
    (fun f fn hf HQ => by
      obtain rfl : f = 7 := Option.some.inj (Vg.symm.trans hf) |>.symm
      obtain rfl : fn = Tryz.f7 := (Option.some.inj (Tryz.func7.symm.trans HQ)).symm
      exact ⟨Vd, fun j t ht => by
        rw [Tryz.params7] at ht
        have hm : t ∈ [9, 58] := by simpa using Array.mem_of_getElem? ht
        have dy : ([9, 58].all fun u => !Tryz.prog.wantsStandIn u) = true := Vl
        exact (show Tryz.prog.wantsStandIn t = false by simpa using List.all_eq_true.1 dy t hm)⟩)
    Uv
#print axioms bofs_card
end Go.Proofs.YtoohljflflnbeaaGreatDoor
