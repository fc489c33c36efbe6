/-
  Proved: for every argument whatever, ScanPlays answers true and leaves its arguments as they were, where the package-level variables that the card names are laid as the program's own text lays them (the card's tie). No other condition.
-/
import Derived.Test.YthnjfeielmbfkaaGreatDoorSy51
import Derived.Test.YthnjfeielmbfkaaGreatDoorCards
import Derived.Test.YthnjfeielmbfkaaGreatDoorTie
import Derived.ChangeSame
import Derived.ChangeVars
import Derived.ChangeMaps5
import Derived.JoinedOf
import Derived.LaidMore
import Derived.LaidLaws
import Derived.LaidHandle
import Derived.Lay
namespace Go.Proofs.YthnjfeielmbfkaaGreatDoor
set_option linter.unusedSimpArgs false
set_option linter.unusedVariables false
open Go.Av Go.ChangeShapes Go.WideShapes Go.ChangeAt Go.RowKit

theorem splays_card : Rows.ScanPlaysCardSaid :=
  Claim7.holds_tied_plain_at .later [] [.data, .data, .data, .data, .handle, .sentinel, .sentinel, .data, .widerDeep, .widerDeep, .pinned] true Rows.scanPlaysCard.stood.harness true
    splays_holds (fun _ h => by cases h) splays_w (fun _ h => by cases h) scanPlays_row_tie rfl ⟨rfl, rfl⟩ splays_main rfl
    (fun f fn hf hfn => by
      obtain rfl : f = 7 := Option.some.inj (splays_named.symm.trans hf) |>.symm
      obtain rfl : fn = Tryz.f7 := (Option.some.inj (Tryz.func7.symm.trans hfn)).symm
      exact ⟨splays_looks, fun j t ht => by
        rw [Tryz.params7] at ht
        have hm : t ∈ [9, 25, 4] := by simpa using Array.mem_of_getElem? ht
        have hall : ([9, 25, 4].all fun u => !Tryz.prog.wantsStandIn u) = true := splays_stand
        exact (show Tryz.prog.wantsStandIn t = false by simpa using List.all_eq_true.1 hall t hm)⟩)
    splays_goes
#print axioms splays_card
end Go.Proofs.YthnjfeielmbfkaaGreatDoor
