/-
  Proved: for every argument whatever, ScanBounds answers true and leaves its arguments as they were, where the package-level variables that the card names are laid as the program's own text lays them (the card's tie). No other condition.
-/
import Derived.Test.YthnjfeielmbfkaaGreatDoorSb41
import Derived.Test.YthnjfeielmbfkaaGreatDoorCards
import Derived.Test.YthnjfeielmbfkaaGreatDoorTie
import Derived.ChangeSame
import Derived.ChangeVars
import Derived.ChangeMaps5
import Derived.JoinedOf
import Derived.LaidMore
import Derived.LaidLaws
import Derived.LaidHandle
import Derived.Lay
namespace Go.Proofs.YthnjfeielmbfkaaGreatDoor
set_option linter.unusedSimpArgs false
set_option linter.unusedVariables false
open Go.Av Go.ChangeShapes Go.WideShapes Go.ChangeAt Go.RowKit

theorem sbounds_card : Rows.ScanBoundsCardSaid :=
  Claim7.holds_tied_plain_at .later [] [.data, .data, .data, .data, .handle, .sentinel, .sentinel, .pinned] true Rows.scanBoundsCard.stood.harness true
    sbounds_holds (fun _ h => by cases h) sbounds_w (fun _ h => by cases h) scanBounds_row_tie rfl ⟨rfl, rfl⟩ sbounds_main rfl
    (fun f fn hf hfn => by
      obtain rfl : f = 6 := Option.some.inj (sbounds_named.symm.trans hf) |>.symm
      obtain rfl : fn = Tryz.f6 := (Option.some.inj (Tryz.func6.symm.trans hfn)).symm
      exact ⟨sbounds_looks, fun j t ht => by
        rw [Tryz.params6] at ht
        have hm : t ∈ [9, 25] := by simpa using Array.mem_of_getElem? ht
        have hall : ([9, 25].all fun u => !Tryz.prog.wantsStandIn u) = true := sbounds_stand
        exact (show Tryz.prog.wantsStandIn t = false by simpa using List.all_eq_true.1 hall t hm)⟩)
    sbounds_goes
#print axioms sbounds_card
end Go.Proofs.YthnjfeielmbfkaaGreatDoor
