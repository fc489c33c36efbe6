/-
  Proved: for every argument whatever, ReachFars answers true and leaves its arguments as they were, where the package-level variables that the card names are laid as the program's own text lays them (the card's tie). No other condition.
-/
import Derived.Test.YtoohljflflnbeaaGreatDoorFr52
import Derived.Test.YtoohljflflnbeaaGreatDoorCards
import Derived.Test.YtoohljflflnbeaaGreatDoorTie
import Derived.ChangeSame
import Derived.ChangeVars
import Derived.ChangeMaps5
import Derived.JoinedOf
import Derived.LaidMore
import Derived.LaidLaws
import Derived.LaidHandle
import Derived.Lay
namespace Go.Proofs.YtoohljflflnbeaaGreatDoor
set_option linter.unusedSimpArgs false
set_option linter.unusedVariables false
open Go.Av Go.ChangeShapes Go.WideShapes Go.ChangeAt Go.RowKit

theorem rfars_card : Rows.ReachFarsCardSaid :=
  Claim7.holds_tied_plain_at .later [] [.data, .data, .data, .data, .handle, .sentinel, .sentinel, .data, .widerDeep, .widerDeep, .pinned] true Rows.reachFarsCard.stood.harness true
    afc (fun _ h => by cases h) af1 (fun _ h => by cases h) reachFars_row_tie rfl ⟨rfl, rfl⟩ afS rfl
    (fun f fn hf x4 => by
      obtain rfl : f = 10 := Option.some.inj (afU.symm.trans hf) |>.symm
      obtain rfl : fn = Tryz.f10 := (Option.some.inj (Tryz.func10.symm.trans x4)).symm
      exact ⟨afR, fun j t ht => by
        rw [Tryz.params10] at ht
        have hm : t ∈ [9, 3] := by simpa using Array.mem_of_getElem? ht
        have dA : ([9, 3].all fun u => !Tryz.prog.wantsStandIn u) = true := afZ
        exact (show Tryz.prog.wantsStandIn t = false by simpa using List.all_eq_true.1 dA t hm)⟩)
    afa
#print axioms rfars_card
end Go.Proofs.YtoohljflflnbeaaGreatDoor
