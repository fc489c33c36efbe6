/-
  Proved: for every argument whatever, ReachTarski answers true and leaves its arguments as they were, where the package-level variables that the card names are laid as the program's own text lays them (the card's tie). No other condition.
-/
import Derived.Test.YtpboiimemmfkiaaGreatDoorRt44
import Derived.Test.YtpboiimemmfkiaaGreatDoorCards
import Derived.Test.YtpboiimemmfkiaaGreatDoorTie
import Derived.ChangeSame
import Derived.ChangeVars
import Derived.ChangeMaps5
import Derived.JoinedOf
import Derived.LaidMore
import Derived.LaidLaws
import Derived.LaidHandle
import Derived.Lay
namespace Go.Proofs.YtpboiimemmfkiaaGreatDoor
set_option linter.unusedSimpArgs false
set_option linter.unusedVariables false
open Go.Av Go.ChangeShapes Go.WideShapes Go.ChangeAt Go.RowKit

theorem rtarski_card : Rows.ReachTarskiCardSaid :=
  Claim7.holds_tied_plain_at .later [] [.data, .data, .data, .data, .handle, .sentinel, .sentinel, .pinned] true Rows.reachTarskiCard.stood.harness true
    rtarski_holds (fun _ h => by cases h) rtarski_w (fun _ h => by cases h) reachTarski_row_tie rfl ⟨rfl, rfl⟩ rtarski_main rfl
    (fun f fn hf hfn => by
      obtain rfl : f = 10 := Option.some.inj (rtarski_named.symm.trans hf) |>.symm
      obtain rfl : fn = Tryz.f10 := (Option.some.inj (Tryz.func10.symm.trans hfn)).symm
      exact ⟨rtarski_looks, fun j t ht => by
        rw [Tryz.params10] at ht
        have hm : t ∈ [9, 67] := by simpa using Array.mem_of_getElem? ht
        have hall : ([9, 67].all fun u => !Tryz.prog.wantsStandIn u) = true := rtarski_stand
        exact (show Tryz.prog.wantsStandIn t = false by simpa using List.all_eq_true.1 hall t hm)⟩)
    rtarski_goes
#print axioms rtarski_card
end Go.Proofs.YtpboiimemmfkiaaGreatDoor
