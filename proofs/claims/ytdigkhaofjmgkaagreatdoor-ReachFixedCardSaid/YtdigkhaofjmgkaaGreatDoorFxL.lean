/-
  Proved: for every argument whatever, ReachFixed answers true and leaves its arguments as they were, where the package-level variables that the card names are laid as the program's own text lays them (the card's tie). No other condition.
-/
import Derived.Test.YtdigkhaofjmgkaaGreatDoorFx52
import Derived.Test.YtdigkhaofjmgkaaGreatDoorCards
import Derived.Test.YtdigkhaofjmgkaaGreatDoorTie
import Derived.ChangeSame
import Derived.ChangeVars
import Derived.ChangeMaps5
import Derived.JoinedOf
import Derived.LaidMore
import Derived.LaidLaws
import Derived.LaidHandle
import Derived.Lay
namespace Go.Proofs.YtdigkhaofjmgkaaGreatDoor
set_option linter.unusedSimpArgs false
set_option linter.unusedVariables false
open Go.Av Go.ChangeShapes Go.WideShapes Go.ChangeAt Go.RowKit

theorem rfixed_card : Rows.ReachFixedCardSaid :=
  Claim7.holds_tied_plain_at .later [] [.data, .data, .data, .data, .handle, .sentinel, .sentinel, .data, .widerDeep, .widerDeep, .pinned] true Rows.reachFixedCard.stood.harness true
    Xb (fun _ h => by cases h) X0 (fun _ h => by cases h) reachFixed_row_tie rfl ⟨rfl, rfl⟩ XR rfl
    (fun f fn hf Dx => by
      obtain rfl : f = 5 := Option.some.inj (XT.symm.trans hf) |>.symm
      obtain rfl : fn = Tryz.f5 := (Option.some.inj (Tryz.func5.symm.trans Dx)).symm
      exact ⟨XQ, fun j t ht => by
        rw [Tryz.params5] at ht
        have hm : t ∈ [9, 55] := by simpa using Array.mem_of_getElem? ht
        have bC : ([9, 55].all fun u => !Tryz.prog.wantsStandIn u) = true := XY
        exact (show Tryz.prog.wantsStandIn t = false by simpa using List.all_eq_true.1 bC t hm)⟩)
    W9
#print axioms rfixed_card
end Go.Proofs.YtdigkhaofjmgkaaGreatDoor
