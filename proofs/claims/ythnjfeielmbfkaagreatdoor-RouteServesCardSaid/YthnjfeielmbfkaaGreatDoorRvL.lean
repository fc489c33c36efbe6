/-
  Proved: for every argument whatever, RouteServes answers true and leaves its arguments as they were, where the package-level variables that the card names are laid as the program's own text lays them (the card's tie). No other condition.
-/
import Derived.Test.YthnjfeielmbfkaaGreatDoorRv28
import Derived.Test.YthnjfeielmbfkaaGreatDoorCards
import Derived.Test.YthnjfeielmbfkaaGreatDoorTie
import Derived.ChangeSame
import Derived.ChangeVars
import Derived.ChangeMaps5
import Derived.JoinedOf
import Derived.LaidMore
import Derived.LaidLaws
import Derived.LaidHandle
import Derived.Lay
namespace Go.Proofs.YthnjfeielmbfkaaGreatDoor
set_option linter.unusedSimpArgs false
set_option linter.unusedVariables false
open Go.Av Go.ChangeShapes Go.WideShapes Go.ChangeAt Go.RowKit

theorem rserves_card : Rows.RouteServesCardSaid :=
  Claim7.holds_tied_plain_at .later [] [.data, .data, .data, .data, .pinned] true Rows.routeServesCard.stood.harness true
    rserves_holds (fun _ h => by cases h) rserves_w (fun _ h => by cases h) routeServes_row_tie rfl ⟨rfl, rfl⟩ rserves_main rfl
    (fun f fn hf hfn => by
      obtain rfl : f = 3 := Option.some.inj (rserves_named.symm.trans hf) |>.symm
      obtain rfl : fn = Tryz.f3 := (Option.some.inj (Tryz.func3.symm.trans hfn)).symm
      exact ⟨rserves_looks, fun j t ht => by
        rw [Tryz.params3] at ht
        have hm : t ∈ [24, 3, 25] := by simpa using Array.mem_of_getElem? ht
        have hall : ([24, 3, 25].all fun u => !Tryz.prog.wantsStandIn u) = true := rserves_stand
        exact (show Tryz.prog.wantsStandIn t = false by simpa using List.all_eq_true.1 hall t hm)⟩)
    rserves_goes
#print axioms rserves_card
end Go.Proofs.YthnjfeielmbfkaaGreatDoor
