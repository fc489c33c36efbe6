/-
  Proved: for every argument whatever, MachinePlays answers true and leaves its arguments as they were, where the package-level variables that the card names are laid as the program's own text lays them (the card's tie). No other condition.
-/
import Derived.Test.YtpboiimemmfkiaaGreatDoorMp43
import Derived.Test.YtpboiimemmfkiaaGreatDoorCards
import Derived.Test.YtpboiimemmfkiaaGreatDoorTie
import Derived.ChangeSame
import Derived.ChangeVars
import Derived.ChangeMaps5
import Derived.JoinedOf
import Derived.LaidMore
import Derived.LaidLaws
import Derived.LaidHandle
import Derived.Lay
namespace Go.Proofs.YtpboiimemmfkiaaGreatDoor
set_option linter.unusedSimpArgs false
set_option linter.unusedVariables false
open Go.Av Go.ChangeShapes Go.WideShapes Go.ChangeAt Go.RowKit

theorem mplays_card : Rows.MachinePlaysCardSaid :=
  Claim7.holds_tied_plain_at .later [] [.data, .data, .data, .data, .handle, .sentinel, .sentinel, .pinned] true Rows.machinePlaysCard.stood.harness true
    mplays_holds (fun _ h => by cases h) mplays_w (fun _ h => by cases h) machinePlays_row_tie rfl ⟨rfl, rfl⟩ mplays_main rfl
    (fun f fn hf hfn => by
      obtain rfl : f = 4 := Option.some.inj (mplays_named.symm.trans hf) |>.symm
      obtain rfl : fn = Tryz.f4 := (Option.some.inj (Tryz.func4.symm.trans hfn)).symm
      exact ⟨mplays_looks, fun j t ht => by
        rw [Tryz.params4] at ht
        have hm : t ∈ [9, 51] := by simpa using Array.mem_of_getElem? ht
        have hall : ([9, 51].all fun u => !Tryz.prog.wantsStandIn u) = true := mplays_stand
        exact (show Tryz.prog.wantsStandIn t = false by simpa using List.all_eq_true.1 hall t hm)⟩)
    mplays_goes
#print axioms mplays_card
end Go.Proofs.YtpboiimemmfkiaaGreatDoor
