/-
  Texts that belong together, in one file: Av20, Av21, Av22.
-/
import Derived.Test.YtnlhioeefmhklaaGreatDoorRc12
import Derived.ProofKit
import Derived.OpenShut
import Derived.Carry
import Derived.Deep.Slices
/-
  Laws: what is read as data is immutable data; what a call that only yields data leaves behind.
-/
namespace Go.Av
set_option linter.unusedSimpArgs false
set_option linter.unusedVariables false
set_option linter.unusedSectionVars false
open Go.ChangeShapes Go.WideShapes Go.RowKit

section
variable {H : Type} {enc : TypeId × Value → H} {P : Program} {w : World} {base : Nat} {spare : Nat → Bool} {held : Bool} {X : Nat → Prop}

/-- Cells stand for this data, one by one. -/
def CellsRD (w : World) (X : Nat → Prop) (cs : List Value) (ds : List D) : Prop := cs.length = ds.length ∧ ∀ (j : Nat) (u : Value) (c : D), cs[j]? = some u → ds[j]? = some c → RD w X u c

theorem CellsRD.one {u : Value} {c : D} (h : RD w X u c) : CellsRD w X [u] [c] := ⟨rfl, fun j u' c' hu hc => by
  cases j with
  | zero => simp at hu hc; subst hu hc; exact h
  | succ j => simp at hu⟩
theorem CellsRD.inv {u : Value} {c : D} (h : CellsRD w X [u] [c]) : RD w X u c := h.2 0 u c rfl rfl

/-- What is read of type t is some a, as f lays it out. -/
def ReadsAs (enc : TypeId × Value → H) (P : Program) (w : World) (base : Nat) (spare : Nat → Bool) (held : Bool) (X : Nat → Prop) (t : TypeId) {α : Type} (p : α → Prop) (f : α → List D) : Prop :=
  ∀ fuel cs x, DataW.trod enc P w base spare held fuel t cs = some x → ∃ a, p a ∧ CellsRD w X cs (f a)

theorem reads_int {t : TypeId} (ht : P.underlying t = some (.int .i64)) : ReadsAs enc P w base spare held X t (fun n : Int => -9223372036854775808 ≤ n ∧ n ≤ 9223372036854775807) (fun n => [.v (.int .i64 n)]) := by
  intro fuel cs x h
  obtain ⟨n, rfl, _, hw⟩ := DataW.trod_int ht h
  refine ⟨n, ?_, .one (.v _)⟩
  simp only [Lit.wf, Bool.and_eq_true, decide_eq_true_eq] at hw
  have e1 : IntKind.i64.min = -9223372036854775808 := by decide
  have e2 : IntKind.i64.max = 9223372036854775807 := by decide
  rw [e1, e2] at hw
  exact hw

theorem reads_struct2 {t : TypeId} {f0 f1 : Field} {α β : Type} {p : α → Prop} {q : β → Prop} {f : α → List D} {g : β → List D} (ht : P.underlying t = some (.struct #[f0, f1])) (hn : P.cellsOf t = P.cellsOf f0.type + P.cellsOf f1.type) (h0 : f0.offset = 0) (h1 : f1.offset = P.cellsOf f0.type)
    (hf : ReadsAs enc P w base spare held X f0.type p f) (hg : ReadsAs enc P w base spare held X f1.type q g) : ReadsAs enc P w base spare held X t (fun s : α × β => p s.1 ∧ q s.2) (fun s => f s.1 ++ g s.2) := by
  intro fuel cs x h
  obtain ⟨y0, y1, n, _, hl, t0, t1⟩ := trod_struct2 ht h
  obtain ⟨a, pa, ca⟩ := hf _ _ _ t0
  obtain ⟨b, pb, cb⟩ := hg _ _ _ t1
  refine ⟨(a, b), ⟨pa, pb⟩, ?_⟩
  have e0 : cs = (cs.drop f0.offset).take (P.cellsOf f0.type) ++ (cs.drop f1.offset).take (P.cellsOf f1.type) := by
    rw [h0, h1, List.drop_zero, List.take_of_length_le (l := List.drop _ _) (by simp; omega), List.take_append_drop]
  rw [e0]
  obtain ⟨la, ra⟩ := ca
  obtain ⟨lb, rb⟩ := cb
  refine ⟨by rw [List.length_append, List.length_append, la, lb], fun j u c hu hc => ?_⟩
  rcases Nat.lt_or_ge j (f a).length with hj | hj
  · rw [List.getElem?_append_left (by omega)] at hu hc
    exact ra j u c hu hc
  · rw [List.getElem?_append_right (by omega)] at hu hc
    rw [la] at hu
    exact rb _ u c hu hc

/-- A value of a struct's type. -/
theorem RD.of_cells {u : Value} {ds : List D} (ha : ∃ arr, u = .agg arr) (h : CellsRD w X u.cells.toList ds) : RD w X u (.agg ds) := by
  obtain ⟨arr, rfl⟩ := ha
  refine .agg (by have := h.1; simpa [Value.cells] using this) fun j u c hu hc => h.2 j u c (by simpa [Value.cells] using hu) hc
end

/-- All arguments read as they did. -/
theorem trodAll_below {H : Type} {enc : TypeId × Value → H} {P : Program} (hl : laidOutB P = true) {W W' : World} (hb : Below W.heap.size W W') : ∀ {ts : List TypeId} {vs : List Value} {ds : List (DataW H)} {ps : List MemPlace},
    (∀ t ∈ ts, P.readableRec t = true ∧ t < P.types.size) → DataW.TrodAll enc P W 0 (fun _ => true) true ts vs ds ps → (∀ x ∈ ps, x.block < W.heap.size) → DataW.TrodAll enc P W' 0 (fun b => decide (b < W.heap.size)) true ts vs ds ps
  | [], vs, ds, ps, _, h, _ => by
    obtain ⟨rfl, rfl, rfl⟩ := trodAll_nil h
    exact rfl
  | t :: ts, vs, ds, ps, ht, h, hp => by
    obtain ⟨v, vs1, d, ds1, a, b, rfl, rfl, rfl, h1, h2⟩ := trodAll_cons h
    exact ⟨a, b, Below.trod hl (ht t (by simp)).1 (ht t (by simp)).2 h1 hb (fun x hx => hp x (by simp [hx])), trodAll_below hl hb (fun t h => ht t (by simp [h])) h2 (fun x hx => hp x (by simp [hx])), rfl⟩
end Go.Av

/-
  Contracts on the model's own 'Calls' become contracts of this logic.
-/
namespace Go.Av
set_option linter.unusedSimpArgs false
set_option linter.unusedVariables false
set_option linter.unusedSectionVars false

theorem PureC.of_calls {P : Program} {G : Glob} {g : FuncId} {ds : List D} {y : D} (hf : Fun P g)
    (h : ∀ (X : Nat → Prop) (w : World) (vs : Array Value), vs.size = ds.length → (∀ (i : Nat) (u : Value) (x : D), vs[i]? = some u → ds[i]? = some x → RD w X u x) → (∀ g x, G g = some x → RD w X (.pointer (some ⟨g, 0, none⟩)) x) →
      Calls P g vs w fun e w' => ∃ v, e = .returned v ∧ Grew w w' ∧ RD w' X v y) : PureC P G g ds y := by
  refine ⟨hf, fun X w μ vs hs hgl hsz hv => ?_⟩
  have hμ : μ = fun _ => none := by
    funext r
    cases hr : μ r with
    | none => rfl
    | some m => obtain ⟨row, hrow⟩ := hs.dom r m hr; cases hrow
  subst hμ
  refine (h X w vs (by simpa using hsz) (fun i u x hu hx => ?_) (fun g x hx => (hgl g x hx).sub fun b hb => XX_none.2 hb)).mono fun e w' ⟨v, he, hg, hr⟩ => ?_
  · exact (hv i u (.d x) hu (by rw [List.getElem?_map, hx]; rfl)).data.sub fun b hb => XX_none.2 hb
  · refine ⟨v, .d y, hno, fun _ => none, he, ⟨rfl, rfl⟩, .d (hr.sub fun b hb => XX_none.1 hb), Sim.none fun b hb => Nat.lt_of_lt_of_le (hs.fits b hb) hg.size, hg.size, hg.os, hg.tape, hg.output, fun b hb _ => ⟨hg.same b hb, fun ⟨_, _, hh, _⟩ => by cases hh⟩, fun r m hr => by cases hr⟩
end Go.Av

/-
  Laws over programs whose package-level variables are known.
-/
namespace Go.Av
set_option linter.unusedSimpArgs false
set_option linter.unusedVariables false
set_option linter.unusedSectionVars false
open Go.ChangeShapes Go.WideShapes Go.RowKit

theorem law_callsG {P : Program} {G : Glob} {g : FuncId} {xs : List D} {b : Bool} (hc : PureC P G g xs (.v (.bool b))) {W : World} {args : Array Value} (hgl : ∀ g x, G g = some x → RD W (fun _ => False) (.pointer (some ⟨g, 0, none⟩)) x) (hsz : args.size = xs.length)
    (hrd : ∀ (i : Nat) (u : Value) (x : D), args[i]? = some u → xs[i]? = some x → RD W (fun _ => False) u x) : Calls P g args W fun e W' => e = .returned (.bool b) ∧ Below W.heap.size W W' := by
  refine (hc.2 (fun _ => False) W (fun _ => none) args (Sim.none (by simp)) (fun g x hx => (hgl g x hx).sub fun b hb => XX_none.1 hb) (by simpa using hsz) fun i u x hu hx => ?_).mono fun e W' ⟨v, x, H', μ', he, ⟨hx, _⟩, hr, _, ev⟩ => ?_
  · rw [List.getElem?_map] at hx
    obtain ⟨d, hd, rfl⟩ := Option.map_eq_some_iff.1 hx
    exact .d ((hrd i u d hu hd).sub fun b hb => XX_none.1 hb)
  · subst hx
    have := hr.scalar
    subst this
    have hg := Ev.grew ev
    exact ⟨he, hg.os, hg.tape, hg.output, hg.size, hg.same⟩

theorem RD.at2 {W : World} {X : Nat → Prop} {x y : Value} {a b : D} (h0 : RD W X x a) (h1 : RD W X y b) : ∀ (i : Nat) (u : Value) (c : D), #[x, y][i]? = some u → [a, b][i]? = some c → RD W X u c := fun i u c hu hc => by
  match i, hu, hc with
  | 0, hu, hc => simp at hu hc; subst hu hc; exact h0
  | 1, hu, hc => simp at hu hc; subst hu hc; exact h1
  | i + 2, hu, hc => simp at hu
end Go.Av
