/-
  Proved: for every argument whatever, SliceTidies answers true and leaves its arguments as they were, where the package-level variables that the card names are laid as the program's own text lays them (the card's tie). No other condition.
-/
import Derived.Test.YtoohljflflnbeaaGreatDoorSt49
import Derived.Test.YtoohljflflnbeaaGreatDoorCards
import Derived.Test.YtoohljflflnbeaaGreatDoorTie
import Derived.ChangeSame
import Derived.ChangeVars
import Derived.ChangeMaps5
import Derived.JoinedOf
import Derived.LaidMore
import Derived.LaidLaws
import Derived.LaidHandle
import Derived.Lay
namespace Go.Proofs.YtoohljflflnbeaaGreatDoor
set_option linter.unusedSimpArgs false
set_option linter.unusedVariables false
open Go.Av Go.ChangeShapes Go.WideShapes Go.ChangeAt Go.RowKit

theorem stidies_card : Rows.SliceTidiesCardSaid :=
  Claim7.holds_tied_plain_at .later [] [.data, .data, .data, .data, .handle, .sentinel, .sentinel, .data, .data, .widerDeep, .widerDeep, .pinned] true Rows.sliceTidiesCard.stood.harness true
    XK (fun _ h => by cases h) YB (fun _ h => by cases h) sliceTidies_row_tie rfl ⟨rfl, rfl⟩ Ys rfl
    (fun f fn hf EG => by
      obtain rfl : f = 8 := Option.some.inj (Yu.symm.trans hf) |>.symm
      obtain rfl : fn = Tryz.f8 := (Option.some.inj (Tryz.func8.symm.trans EG)).symm
      exact ⟨Yr, fun j t ht => by
        rw [Tryz.params8] at ht
        have hm : t ∈ [9] := by simpa using Array.mem_of_getElem? ht
        have dk : ([9].all fun u => !Tryz.prog.wantsStandIn u) = true := Yz
        exact (show Tryz.prog.wantsStandIn t = false by simpa using List.all_eq_true.1 dk t hm)⟩)
    XH
#print axioms stidies_card
end Go.Proofs.YtoohljflflnbeaaGreatDoor
