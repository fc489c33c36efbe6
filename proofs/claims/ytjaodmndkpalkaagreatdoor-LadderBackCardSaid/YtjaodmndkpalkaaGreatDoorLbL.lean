/-
  Proved: for every argument whatever, LadderBack answers true and leaves its arguments as they were, where the package-level variables that the card names are laid as the program's own text lays them (the card's tie). No other condition.
-/
import Derived.Test.YtjaodmndkpalkaaGreatDoorLb42
import Derived.Test.YtjaodmndkpalkaaGreatDoorCards
import Derived.Test.YtjaodmndkpalkaaGreatDoorTie
import Derived.ChangeSame
import Derived.ChangeVars
import Derived.ChangeMaps5
import Derived.JoinedOf
import Derived.LaidMore
import Derived.LaidLaws
import Derived.LaidHandle
import Derived.Lay
namespace Go.Proofs.YtjaodmndkpalkaaGreatDoor
set_option linter.unusedSimpArgs false
set_option linter.unusedVariables false
open Go.Av Go.ChangeShapes Go.WideShapes Go.ChangeAt Go.RowKit

theorem ldback_card : Rows.LadderBackCardSaid :=
  Claim7.holds_tied_plain_at .later [] [.data, .data, .data, .data, .handle, .sentinel, .sentinel, .data, .pinned] true Rows.ladderBackCard.stood.harness true
    ldback_holds (fun _ h => by cases h) ldback_w (fun _ h => by cases h) ladderBack_row_tie rfl ⟨rfl, rfl⟩ ldback_main rfl
    (fun f fn hf hfn => by
      obtain rfl : f = 8 := Option.some.inj (ldback_named.symm.trans hf) |>.symm
      obtain rfl : fn = Tryz.f8 := (Option.some.inj (Tryz.func8.symm.trans hfn)).symm
      exact ⟨ldback_looks, fun j t ht => by
        rw [Tryz.params8] at ht
        have hm : t ∈ [9] := by simpa using Array.mem_of_getElem? ht
        have hall : ([9].all fun u => !Tryz.prog.wantsStandIn u) = true := ldback_stand
        exact (show Tryz.prog.wantsStandIn t = false by simpa using List.all_eq_true.1 hall t hm)⟩)
    ldback_goes
#print axioms ldback_card
end Go.Proofs.YtjaodmndkpalkaaGreatDoor
