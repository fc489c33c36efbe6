/-
  Proved: for every argument whatever, PropChecks answers true and leaves its arguments as they were, where the package-level variables that the card names are laid as the program's own text lays them (the card's tie). No other condition.
-/
import Derived.Test.YtobejfcgcfdpfaaGreatDoorPc53
import Derived.Test.YtobejfcgcfdpfaaGreatDoorCards
import Derived.Test.YtobejfcgcfdpfaaGreatDoorTie
import Derived.ChangeSame
import Derived.ChangeVars
import Derived.ChangeMaps5
import Derived.JoinedOf
import Derived.LaidMore
import Derived.LaidLaws
import Derived.LaidHandle
import Derived.Lay
namespace Go.Proofs.YtobejfcgcfdpfaaGreatDoor
set_option linter.unusedSimpArgs false
set_option linter.unusedVariables false
open Go.Av Go.ChangeShapes Go.WideShapes Go.ChangeAt Go.RowKit

theorem pchecks_card : Rows.PropChecksCardSaid :=
  Claim7.holds_tied_plain_at .later [] [.data, .data, .data, .data, .handle, .sentinel, .sentinel, .data, .widerDeep, .widerDeep, .pinned] true Rows.propChecksCard.stood.harness true
    ags (fun _ h => by cases h) ahh (fun _ h => by cases h) propChecks_row_tie rfl ⟨rfl, rfl⟩ ag8 rfl
    (fun f fn hf v8 => by
      obtain rfl : f = 3 := Option.some.inj (aha.symm.trans hf) |>.symm
      obtain rfl : fn = Tryz.f3 := (Option.some.inj (Tryz.func3.symm.trans v8)).symm
      exact ⟨ag7, fun j t ht => by
        rw [Tryz.params3] at ht
        have hm : t ∈ [9, 9] := by simpa using Array.mem_of_getElem? ht
        have dY : ([9, 9].all fun u => !Tryz.prog.wantsStandIn u) = true := ahf
        exact (show Tryz.prog.wantsStandIn t = false by simpa using List.all_eq_true.1 dY t hm)⟩)
    agq
#print axioms pchecks_card
end Go.Proofs.YtobejfcgcfdpfaaGreatDoor
