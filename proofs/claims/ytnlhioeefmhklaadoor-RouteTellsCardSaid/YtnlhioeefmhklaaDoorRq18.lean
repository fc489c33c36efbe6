/-
  Texts that belong together, in one file: Q1.
-/
import Derived.Test.YtnlhioeefmhklaaDoorRq17
import Derived.Test.YtnlhioeefmhklaaDoorRows
import Derived.LaidLaws
import Derived.LaidHandle
import Derived.LaidSub
import Derived.Stop.Joined
import Derived.Lay
/-
  Package-level variables that are laid: errors.errorType, and the reference's Fine.
-/
namespace Go.Proofs.YtnlhioeefmhklaaDoor
set_option linter.unusedSimpArgs false
set_option linter.unusedVariables false
open Go.Av Go.ChangeShapes Go.WideShapes Go.ChangeAt Go.RowKit

theorem laid_et : Tryd.prog.globalNamed "errors.errorType" = some 1 := by kernel_rfl
theorem laid_rt : (Tryd.prog.cutTypes.find? (·.1 == "internal/reflectlite.rtype")).map (·.2) = some 113 := by kernel_rfl
theorem laid_oneRow : ((List.range (261 - 100)).filter fun t => Tryd.prog.rowNamed t [101, 114, 114, 111, 114]) = [36] := by kernel_rfl
theorem laid_size : Tryd.prog.types.size = 261 - 100 := by kernel_rfl
theorem laid_fi : Tryd.prog.globalNamed "signalcabin/signalcabinref.Fine" = some 0 := by kernel_rfl
theorem laid_fiT : (Tryd.prog.globals[0]?).map (·.type) = some 32 := by kernel_rfl
theorem cells_errno : Tryd.prog.cellsOf 30 = 1 := by kernel_rfl
def laidE : List (String × DataW Unit) := [("errors.errorType", Rows.laid_errors_errorType)]
def laidF : List (String × DataW Unit) := [("signalcabin/signalcabinref.Fine", Rows.laid_signalcabin_signalcabinref_Fine)]
def laidEF : List (String × DataW Unit) := [("errors.errorType", Rows.laid_errors_errorType), ("signalcabin/signalcabinref.Fine", Rows.laid_signalcabin_signalcabinref_Fine)]

theorem handle_of_met {W : World} (h : handlesMet Tryd.prog laidE W) : W.cell? ⟨1, 0, none⟩ = some errType := by
  obtain ⟨name, u, ty, e1, e2, e3, e4, e5⟩ := h _ (List.mem_singleton.2 rfl)
  have en : name = [101, 114, 114, 111, 114] := (Option.some.inj e1).symm
  subst en
  obtain rfl := Option.some.inj (laid_rt.symm.trans e2)
  have hm : ty ∈ (List.range (261 - 100)).filter fun t => Tryd.prog.rowNamed t [101, 114, 114, 111, 114] := List.mem_filter.2 ⟨List.mem_range.2 (by rw [← laid_size]; exact e3), e4⟩
  rw [laid_oneRow] at hm
  obtain rfl := List.mem_singleton.1 hm
  have hh : typeHandle Tryd.prog 36 = .pointer (some ⟨6, 36, none⟩) := by kernel_rfl
  rw [hh] at e5
  simpa [errType] using World.var?_cell laid_et e5 0

theorem trod_errno {W : World} {fuel : Nat} {cs : List Value} {y : DataW Unit × List MemPlace} (h : DataW.trod (fun _ => ()) Tryd.prog W 0 (fun _ => true) false fuel 30 cs = some y) : ∃ n, cs = [.int .i64 n] ∧ y = (.lit (.int .i64 n), []) := by
  obtain ⟨n, a, b, _⟩ := DataW.trod_int Tryd.underlying30 h
  exact ⟨n, a, b⟩
theorem trod_int3 {W : World} {fuel : Nat} {cs : List Value} {y : DataW Unit × List MemPlace} (h : DataW.trod (fun _ => ()) Tryd.prog W 0 (fun _ => true) false fuel 3 cs = some y) : ∃ n, cs = [.int .i64 n] ∧ y = (.lit (.int .i64 n), []) := by
  obtain ⟨n, a, b, _⟩ := DataW.trod_int Tryd.underlying3 h
  exact ⟨n, a, b⟩
theorem fine_of_met {W : World} (h : laidMet Tryd.prog laidF W) : W.cell? ⟨0, 0, none⟩ = some (.int .i64 0) ∧ W.cell? ⟨0, 1, none⟩ = some (.int .i64 (-1)) := by
  obtain ⟨ps, hv, _, _⟩ := h
  obtain ⟨g, t, cs, fuel, p, q, hg, ht, hcs, htr, _, _⟩ := hv
  obtain rfl := Option.some.inj (laid_fi.symm.trans hg)
  obtain rfl := Option.some.inj (laid_fiT.symm.trans ht)
  obtain ⟨y0, y1, n, hx, hl, t0, t1⟩ := trod_struct2 Tryd.underlying32 htr
  refine Exists.elim (trod_errno t0) fun n0 q0 => Exists.elim (trod_int3 t1) fun n1 q1 => ?_
  have e0 := q0.1
  have e1 := q1.1
  rw [q0.2, q1.2] at hx
  have hd : (DataW.agg [.lit (.int .i64 0), .lit (.int .i64 (-1))] : DataW Unit) = (DataW.agg [.lit (.int .i64 n0), .lit (.int .i64 n1)] : DataW Unit) := congrArg (·.1) hx
  simp only [DataW.agg.injEq, List.cons.injEq, DataW.lit.injEq, Lit.int.injEq, true_and, and_true] at hd
  have h0 : n0 = 0 := hd.1.symm
  have h1 : n1 = -1 := hd.2.symm
  subst h0 h1
  have c0 : cs[0]? = some (.int .i64 0) := by
    rw [cells_errno] at e0
    have := congrArg (fun l => l[0]?) e0
    simpa using this
  have c1 : cs[1]? = some (.int .i64 (-1)) := by
    rw [cells_int] at e1
    have := congrArg (fun l => l[0]?) e1
    simpa using this
  exact ⟨by rw [World.var?_cell laid_fi hcs 0]; exact c0, by rw [World.var?_cell laid_fi hcs 1]; exact c1⟩

theorem parts_of_EF {W : World} (h : laidMetH Tryd.prog laidEF W) : laidMet Tryd.prog laidF W ∧ handlesMet Tryd.prog laidE W := h

def globEF : Glob := fun g => if g = 1 then some (.ip [.v errType]) else if g = 0 then some (.ip [dNum 0, dNum (-1)]) else none
theorem globEF_err : HasErr globEF := rfl
theorem globEF_fine : HasFine globEF := rfl
theorem RD.cells2 {W : World} {X : Nat → Prop} {g : Nat} {u v : Value} (hX : ∀ b, ¬ X b) (h0 : W.cell? ⟨g, 0, none⟩ = some u) (h1 : W.cell? ⟨g, 1, none⟩ = some v) : RD W X (.pointer (some ⟨g, 0, none⟩)) (.ip [.v u, .v v]) := by
  refine .ip (f := fun j => if j = 0 then u else v) (hX _) (cell_lt h0) (fun j hj => ?_) fun j c hc => ?_
  · match j, hj with
    | 0, _ => simpa using h0
    | 1, _ => simpa using h1
  · match j, hc with
    | 0, hc => simp at hc; subst hc; exact .v _
    | 1, hc => simp at hc; subst hc; exact .v _
    | j + 2, hc => simp at hc
theorem globEF_ok {W : World} (h : laidMetH Tryd.prog laidEF W) : ∀ g x, globEF g = some x → RD W (fun _ => False) (.pointer (some ⟨g, 0, none⟩)) x := fun g x hx => by
  obtain ⟨hf, he⟩ := parts_of_EF h
  obtain ⟨f0, f1⟩ := fine_of_met hf
  unfold globEF at hx
  split at hx
  · rename_i hg
    subst hg
    obtain rfl := Option.some.inj hx
    exact RD.cell1 (by simp) (handle_of_met he)
  · split at hx
    · rename_i hg
      subst hg
      obtain rfl := Option.some.inj hx
      exact RD.cells2 (by simp) f0 f1
    · cases hx
end Go.Proofs.YtnlhioeefmhklaaDoor
