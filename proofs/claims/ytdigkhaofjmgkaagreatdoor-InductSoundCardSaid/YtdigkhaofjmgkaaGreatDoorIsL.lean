/-
  Proved: for every argument whatever, InductSound answers true and leaves its arguments as they were, where the package-level variables that the card names are laid as the program's own text lays them (the card's tie). No other condition.
-/
import Derived.Test.YtdigkhaofjmgkaaGreatDoorIs44
import Derived.Test.YtdigkhaofjmgkaaGreatDoorCards
import Derived.Test.YtdigkhaofjmgkaaGreatDoorTie
import Derived.ChangeSame
import Derived.ChangeVars
import Derived.ChangeMaps5
import Derived.JoinedOf
import Derived.LaidMore
import Derived.LaidLaws
import Derived.LaidHandle
import Derived.Lay
namespace Go.Proofs.YtdigkhaofjmgkaaGreatDoor
set_option linter.unusedSimpArgs false
set_option linter.unusedVariables false
open Go.Av Go.ChangeShapes Go.WideShapes Go.ChangeAt Go.RowKit

theorem isound_card : Rows.InductSoundCardSaid :=
  Claim7.holds_tied_plain_at .later [] [.data, .data, .data, .data, .handle, .sentinel, .sentinel, .pinned] true Rows.inductSoundCard.stood.harness true
    RC (fun _ h => by cases h) Sn (fun _ h => by cases h) inductSound_row_tie rfl ⟨rfl, rfl⟩ Sg rfl
    (fun f fn hf nu => by
      obtain rfl : f = 10 := Option.some.inj (Si.symm.trans hf) |>.symm
      obtain rfl : fn = Tryz.f10 := (Option.some.inj (Tryz.func10.symm.trans nu)).symm
      exact ⟨Sf, fun j t ht => by
        rw [Tryz.params10] at ht
        have hm : t ∈ [9, 9, 3] := by simpa using Array.mem_of_getElem? ht
        have bw : ([9, 9, 3].all fun u => !Tryz.prog.wantsStandIn u) = true := Sl
        exact (show Tryz.prog.wantsStandIn t = false by simpa using List.all_eq_true.1 bw t hm)⟩)
    aei
#print axioms isound_card
end Go.Proofs.YtdigkhaofjmgkaaGreatDoor
