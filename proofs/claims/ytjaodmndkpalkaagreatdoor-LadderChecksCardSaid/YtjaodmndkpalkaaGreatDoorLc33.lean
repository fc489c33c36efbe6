/-
  Texts that belong together, in one file: RG.
-/
import Derived.Test.YtjaodmndkpalkaaGreatDoorLc32
import Derived.Lib.LaidTab
set_option linter.unusedSimpArgs false
set_option linter.unusedVariables false
namespace Go.Proofs.YtjaodmndkpalkaaGreatDoor
open Go.Av Go.ChangeShapes Go.WideShapes Go.ChangeAt Go.RowKit
def globL (l : List (Nat × D)) : Glob := fun g => l.lookup g
theorem globL_ok {W : World} : ∀ {l : List (Nat × D)}, (∀ p ∈ l, RD W (fun _ => False) (.pointer (some ⟨p.1, 0, none⟩)) p.2) → ∀ g x, globL l g = some x → RD W (fun _ => False) (.pointer (some ⟨g, 0, none⟩)) x
 | [], _, g, x, hx => by simp [globL] at hx
 | (a, y) :: l, h, g, x, hx => by
  unfold globL at hx; rw [List.lookup_cons] at hx
  split at hx
  ·rename_i hg
   obtain rfl := Option.some.inj hx
   obtain rfl : g = a := by simpa using hg
   exact h (g, y) (by simp)
  ·exact globL_ok (fun p hp => h p (by simp [hp])) g x hx
theorem rd_err {W : World} (h : handlesMet Tryz.prog laidE W) : RD W (fun _ => False) (.pointer (some ⟨4, 0, none⟩)) (.ip [.v errType]) := RD.cell1 (by simp) (handle_of_met h)
theorem rd_max {W : World} {m : Int} (h : W.cell? ⟨5, 0, none⟩ = some (.int .i64 m)) : RD W (fun _ => False) (.pointer (some ⟨5, 0, none⟩)) (.ip [dNum m]) := RD.cell1 (by simp) h
theorem rd_fine {W : World} (h : laidMet Tryz.prog laidF W) : RD W (fun _ => False) (.pointer (some ⟨0, 0, none⟩)) (.ip [dNum 0, dNum (-1)]) := by
 obtain ⟨f0, f1⟩ := fine_of_met h
 exact RD.cells2 (by simp) f0 f1
theorem rd_heads {W : World} (h : laidMet Tryz.prog laidHd W) : RD W (fun _ => False) (.pointer (some ⟨1, 0, none⟩)) (.ip heads7) := array_of_met (ws := hdL) rfl laid_hd laid_hdT h
theorem rd_nw {W : World} (h : laidMet Tryz.prog laidNW W) : RD W (fun _ => False) (.pointer (some ⟨2, 0, none⟩)) (.ip [.sl none (nwL.map fun s => [.v (.string (bs s))])]) := slice_of_met (ws := nwL) (by simp [nwL]) laid_nw laid_nwT h
theorem rd_rw {W : World} (h : laidMet Tryz.prog laidRW W) : RD W (fun _ => False) (.pointer (some ⟨3, 0, none⟩)) (.ip [.sl none (rwL.map fun s => [.v (.string (bs s))])]) := slice_of_met (ws := rwL) (by simp [rwL]) laid_rw laid_rwT h
end Go.Proofs.YtjaodmndkpalkaaGreatDoor
