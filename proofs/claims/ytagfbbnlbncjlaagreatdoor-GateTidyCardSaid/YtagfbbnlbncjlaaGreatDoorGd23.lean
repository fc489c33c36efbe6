/-
  Texts that belong together, in one file: Q1, RS, RY.
-/
import Derived.Test.YtagfbbnlbncjlaaGreatDoorGd22
import Derived.Test.YtagfbbnlbncjlaaGreatDoorRows
import Derived.LaidLaws
import Derived.LaidHandle
import Derived.LaidSub
import Derived.Stop.Joined
import Derived.Lay
set_option linter.unusedSimpArgs false
set_option linter.unusedVariables false
namespace Go.Proofs.YtagfbbnlbncjlaaGreatDoor
open Go.Av Go.ChangeShapes Go.WideShapes Go.ChangeAt Go.RowKit
theorem laid_et : Tryz.prog.globalNamed "errors.errorType" = some 1 := by kernel_rfl
theorem laid_rt : (Tryz.prog.cutTypes.find? (·.1 == "internal/reflectlite.rtype")).map (·.2) = some 173 := by kernel_rfl
theorem laid_oneRow : ((List.range (369 - 100)).filter fun t => Tryz.prog.rowNamed t [101, 114, 114, 111, 114]) = [29] := by kernel_rfl
theorem laid_size : Tryz.prog.types.size = 369 - 100 := by kernel_rfl
def laidE : List (String × DataW Unit) := [("errors.errorType", Rows.laid_errors_errorType)]
theorem handle_of_met {W : World} (h : handlesMet Tryz.prog laidE W) : W.cell? ⟨1, 0, none⟩ = some errType := by
 obtain ⟨name, u, ty, e1, e2, e3, e4, e5⟩ := h _ (List.mem_singleton.2 rfl)
 have en : name = [101, 114, 114, 111, 114] := (Option.some.inj e1).symm
 subst en
 obtain rfl := Option.some.inj (laid_rt.symm.trans e2)
 have hm : ty ∈ (List.range (369 - 100)).filter fun t => Tryz.prog.rowNamed t [101, 114, 114, 111, 114] := List.mem_filter.2 ⟨List.mem_range.2 (by rw [← laid_size]; exact e3), e4⟩
 rw [laid_oneRow] at hm
 obtain rfl := List.mem_singleton.1 hm
 have hh : typeHandle Tryz.prog 29 = .pointer (some ⟨5, 29, none⟩) := by kernel_rfl
 rw [hh] at e5; simpa [errType] using World.var?_cell laid_et e5 0
end Go.Proofs.YtagfbbnlbncjlaaGreatDoor
namespace Go.Proofs.YtagfbbnlbncjlaaGreatDoor
open Go.Av Go.ChangeShapes Go.WideShapes Go.ChangeAt Go.RowKit
section
variable {H : Type} {enc : TypeId × Value → H} {w : World} {base : Nat} {spare : Nat → Bool} {held : Bool} {X : Nat → Prop}
theorem reads_text : ReadsAs enc Tryz.prog w base spare held X 9 (fun _ : List UInt8 => True) (fun s => [dS s]) := by
 intro fuel cs x h
 obtain ⟨s, rfl, rfl, _⟩ := DataW.trod_string Tryz.underlying9 h
 refine ⟨s.data.toList, trivial, .one ?_⟩; unfold dS
 have : bs s.data.toList = s := by cases s; simp [bs]
 rw [this]; exact .v _
theorem cells_text : Tryz.prog.cellsOf 9 = 1 := by kernel_rfl
def dTexts (l : List (List UInt8)) : D := .sl none (l.map fun s => [dS s])
theorem reads_texts (hX : ∀ b, ¬ X b) : ReadsAs enc Tryz.prog w base spare held X 34 (fun _ : List (List UInt8) => True) (fun l => [dTexts l]) := by
 intro fuel cs x h
 obtain ⟨l, _, hr⟩ := reads_slice Tryz.underlying34 cells_text (by omega) hX reads_text fuel cs x h
 exact ⟨l, trivial, hr⟩
end
end Go.Proofs.YtagfbbnlbncjlaaGreatDoor
namespace Go.Proofs.YtagfbbnlbncjlaaGreatDoor
open Go.Av Go.ChangeShapes Go.WideShapes Go.ChangeAt Go.RowKit
def globE : Glob := fun g => if g = 1 then some (.ip [.v errType]) else none
theorem globE_err : HasErr globE := rfl
theorem globE_ok {W : World} (h : handlesMet Tryz.prog laidE W) : ∀ g x, globE g = some x → RD W (fun _ => False) (.pointer (some ⟨g, 0, none⟩)) x := fun g x hx => by
 unfold globE at hx
 split at hx
 ·rename_i hg
  subst hg
  obtain rfl := Option.some.inj hx
  exact RD.cell1 (by simp) (handle_of_met h)
 ·cases hx
end Go.Proofs.YtagfbbnlbncjlaaGreatDoor
