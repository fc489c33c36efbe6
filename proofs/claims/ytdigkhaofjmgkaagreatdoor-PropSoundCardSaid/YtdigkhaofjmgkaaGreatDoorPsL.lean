/-
  Proved: for every argument whatever, PropSound answers true and leaves its arguments as they were, where the package-level variables that the card names are laid as the program's own text lays them (the card's tie). No other condition.
-/
import Derived.Test.YtdigkhaofjmgkaaGreatDoorPs44
import Derived.Test.YtdigkhaofjmgkaaGreatDoorCards
import Derived.Test.YtdigkhaofjmgkaaGreatDoorTie
import Derived.ChangeSame
import Derived.ChangeVars
import Derived.ChangeMaps5
import Derived.JoinedOf
import Derived.LaidMore
import Derived.LaidLaws
import Derived.LaidHandle
import Derived.Lay
namespace Go.Proofs.YtdigkhaofjmgkaaGreatDoor
set_option linter.unusedSimpArgs false
set_option linter.unusedVariables false
open Go.Av Go.ChangeShapes Go.WideShapes Go.ChangeAt Go.RowKit

theorem psound_card : Rows.PropSoundCardSaid :=
  Claim7.holds_tied_plain_at .later [] [.data, .data, .data, .data, .handle, .sentinel, .sentinel, .pinned] true Rows.propSoundCard.stood.harness true
    Tt (fun _ h => by cases h) Ue (fun _ h => by cases h) propSound_row_tie rfl ⟨rfl, rfl⟩ T7 rfl
    (fun f fn hf hfn => by
      obtain rfl : f = 9 := Option.some.inj (T9.symm.trans hf) |>.symm
      obtain rfl : fn = Tryz.f9 := (Option.some.inj (Tryz.func9.symm.trans hfn)).symm
      exact ⟨T6, fun j t ht => by
        rw [Tryz.params9] at ht
        have hm : t ∈ [9, 9, 46] := by simpa using Array.mem_of_getElem? ht
        have bu : ([9, 9, 46].all fun u => !Tryz.prog.wantsStandIn u) = true := Uc
        exact (show Tryz.prog.wantsStandIn t = false by simpa using List.all_eq_true.1 bu t hm)⟩)
    Tr
#print axioms psound_card
end Go.Proofs.YtdigkhaofjmgkaaGreatDoor
