/-
  Proved: for every argument whatever, MachineMakes answers true and leaves its arguments as they were, where the package-level variables that the card names are laid as the program's own text lays them (the card's tie). No other condition.
-/
import Derived.Test.YtdigkhaofjmgkaaGreatDoorMk50
import Derived.Test.YtdigkhaofjmgkaaGreatDoorCards
import Derived.Test.YtdigkhaofjmgkaaGreatDoorTie
import Derived.ChangeSame
import Derived.ChangeVars
import Derived.ChangeMaps5
import Derived.JoinedOf
import Derived.LaidMore
import Derived.LaidLaws
import Derived.LaidHandle
import Derived.Lay
namespace Go.Proofs.YtdigkhaofjmgkaaGreatDoor
set_option linter.unusedSimpArgs false
set_option linter.unusedVariables false
open Go.Av Go.ChangeShapes Go.WideShapes Go.ChangeAt Go.RowKit

theorem mmakes_card : Rows.MachineMakesCardSaid :=
  Claim7.holds_tied_plain_at .later [] [.data, .data, .data, .data, .handle, .sentinel, .sentinel, .data, .widerDeep, .widerDeep, .pinned] true Rows.machineMakesCard.stood.harness true
    Tm (fun _ h => by cases h) Ub (fun _ h => by cases h) machineMakes_row_tie rfl ⟨rfl, rfl⟩ T2 rfl
    (fun f fn hf Cq => by
      obtain rfl : f = 3 := Option.some.inj (T4.symm.trans hf) |>.symm
      obtain rfl : fn = Tryz.f3 := (Option.some.inj (Tryz.func3.symm.trans Cq)).symm
      exact ⟨T1, fun j t ht => by
        rw [Tryz.params3] at ht
        have hm : t ∈ [9] := by simpa using Array.mem_of_getElem? ht
        have bx : ([9].all fun u => !Tryz.prog.wantsStandIn u) = true := T9
        exact (show Tryz.prog.wantsStandIn t = false by simpa using List.all_eq_true.1 bx t hm)⟩)
    Tk
#print axioms mmakes_card
end Go.Proofs.YtdigkhaofjmgkaaGreatDoor
