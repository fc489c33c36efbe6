/-
  Proved: for every argument whatever, LadderChecks answers true and leaves its arguments as they were, where the package-level variables that the card names are laid as the program's own text lays them (the card's tie). No other condition.
-/
import Derived.Test.YtjaodmndkpalkaaGreatDoorLc37
import Derived.Test.YtjaodmndkpalkaaGreatDoorCards
import Derived.Test.YtjaodmndkpalkaaGreatDoorTie
import Derived.ChangeSame
import Derived.ChangeVars
import Derived.ChangeMaps5
import Derived.JoinedOf
import Derived.LaidMore
import Derived.LaidLaws
import Derived.LaidHandle
import Derived.Lay
namespace Go.Proofs.YtjaodmndkpalkaaGreatDoor
set_option linter.unusedSimpArgs false
set_option linter.unusedVariables false
open Go.Av Go.ChangeShapes Go.WideShapes Go.ChangeAt Go.RowKit

theorem ldchecks_card : Rows.LadderChecksCardSaid :=
  Claim7.holds_tied_plain_at .later [] [.data, .data, .data, .data, .handle, .data, .data, .widerDeep, .widerDeep, .pinned] true Rows.ladderChecksCard.stood.harness true
    ldchecks_holds (fun _ h => by cases h) ldchecks_w (fun _ h => by cases h) ladderChecks_row_tie rfl ⟨rfl, rfl⟩ ldchecks_main rfl
    (fun f fn hf hfn => by
      obtain rfl : f = 5 := Option.some.inj (ldchecks_named.symm.trans hf) |>.symm
      obtain rfl : fn = Tryz.f5 := (Option.some.inj (Tryz.func5.symm.trans hfn)).symm
      exact ⟨ldchecks_looks, fun j t ht => by
        rw [Tryz.params5] at ht
        have hm : t ∈ [59] := by simpa using Array.mem_of_getElem? ht
        have hall : ([59].all fun u => !Tryz.prog.wantsStandIn u) = true := ldchecks_stand
        exact (show Tryz.prog.wantsStandIn t = false by simpa using List.all_eq_true.1 hall t hm)⟩)
    ldchecks_goes
#print axioms ldchecks_card
end Go.Proofs.YtjaodmndkpalkaaGreatDoor
