/-
  Proved: for every argument whatever, MachineSees answers true and leaves its arguments as they were, where the package-level variables that the card names are laid as the program's own text lays them (the card's tie). No other condition.
-/
import Derived.Test.YtdigkhaofjmgkaaGreatDoorMs52
import Derived.Test.YtdigkhaofjmgkaaGreatDoorCards
import Derived.Test.YtdigkhaofjmgkaaGreatDoorTie
import Derived.ChangeSame
import Derived.ChangeVars
import Derived.ChangeMaps5
import Derived.JoinedOf
import Derived.LaidMore
import Derived.LaidLaws
import Derived.LaidHandle
import Derived.Lay
namespace Go.Proofs.YtdigkhaofjmgkaaGreatDoor
set_option linter.unusedSimpArgs false
set_option linter.unusedVariables false
open Go.Av Go.ChangeShapes Go.WideShapes Go.ChangeAt Go.RowKit

theorem msees_card : Rows.MachineSeesCardSaid :=
  Claim7.holds_tied_plain_at .later [] [.data, .data, .data, .data, .handle, .sentinel, .sentinel, .data, .widerDeep, .widerDeep, .pinned] true Rows.machineSeesCard.stood.harness true
    T0 (fun _ h => by cases h) UP (fun _ h => by cases h) machineSees_row_tie rfl ⟨rfl, rfl⟩ UG rfl
    (fun f fn hf Cy => by
      obtain rfl : f = 4 := Option.some.inj (UI.symm.trans hf) |>.symm
      obtain rfl : fn = Tryz.f4 := (Option.some.inj (Tryz.func4.symm.trans Cy)).symm
      exact ⟨UF, fun j t ht => by
        rw [Tryz.params4] at ht
        have hm : t ∈ [9, 3, 3] := by simpa using Array.mem_of_getElem? ht
        have bB : ([9, 3, 3].all fun u => !Tryz.prog.wantsStandIn u) = true := UN
        exact (show Tryz.prog.wantsStandIn t = false by simpa using List.all_eq_true.1 bB t hm)⟩)
    TY
#print axioms msees_card
end Go.Proofs.YtdigkhaofjmgkaaGreatDoor
