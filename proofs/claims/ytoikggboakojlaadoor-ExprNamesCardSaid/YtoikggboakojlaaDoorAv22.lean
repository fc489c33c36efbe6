/-
  Laws over programs whose package-level variables are known.
-/
import Derived.Test.YtoikggboakojlaaDoorAv21
namespace Go.Av
open Go.ChangeShapes Go.WideShapes Go.RowKit

theorem law_callsG {P : Program} {G : Glob} {g : FuncId} {xs : List D} {b : Bool} (hc : PureC P G g xs (.v (.bool b))) {W : World} {args : Array Value} (hgl : ∀ g x, G g = some x → RD W (fun _ => False) (.pointer (some ⟨g, 0, none⟩)) x) (hsz : args.size = xs.length)
    (hrd : ∀ (i : Nat) (u : Value) (x : D), args[i]? = some u → xs[i]? = some x → RD W (fun _ => False) u x) : Calls P g args W fun e W' => e = .returned (.bool b) ∧ Below W.heap.size W W' := by
  refine (hc.2 (fun _ => False) W (fun _ => none) args (Sim.none (by simp)) (fun g x hx => (hgl g x hx).sub fun b hb => XX_none.1 hb) (by simpa using hsz) fun i u x hu hx => ?_).mono fun e W' ⟨v, x, H', μ', he, ⟨hx, _⟩, hr, _, ev⟩ => ?_
  · rw [List.getElem?_map] at hx
    obtain ⟨d, hd, rfl⟩ := Option.map_eq_some_iff.1 hx
    exact .d ((hrd i u d hu hd).sub fun b hb => XX_none.1 hb)
  · subst hx
    have := hr.scalar
    subst this
    have hg := Ev.grew ev
    exact ⟨he, hg.os, hg.tape, hg.output, hg.size, hg.same⟩

theorem RD.cell1 {W : World} {X : Nat → Prop} {g : Nat} {v : Value} (hX : ∀ b, ¬ X b) (h : W.cell? ⟨g, 0, none⟩ = some v) : RD W X (.pointer (some ⟨g, 0, none⟩)) (.ip [.v v]) :=
  .ip (f := fun _ => v) (hX g) (cell_lt h) (fun j hj => by
    have : j = 0 := by simpa using hj
    subst this
    exact h) (fun j c hc => by
    have hj : j = 0 := by
      have := (List.getElem?_eq_some_iff.1 hc).1
      simpa using this
    subst hj
    simp at hc
    subst hc
    exact .v v)
theorem RD.at2 {W : World} {X : Nat → Prop} {x y : Value} {a b : D} (h0 : RD W X x a) (h1 : RD W X y b) : ∀ (i : Nat) (u : Value) (c : D), #[x, y][i]? = some u → [a, b][i]? = some c → RD W X u c := fun i u c hu hc => by
  match i, hu, hc with
  | 0, hu, hc => simp at hu hc; subst hu hc; exact h0
  | 1, hu, hc => simp at hu hc; subst hu hc; exact h1
  | i + 2, hu, hc => simp at hu
theorem RD.at1 {W : World} {X : Nat → Prop} {x : Value} {a : D} (h0 : RD W X x a) : ∀ (i : Nat) (u : Value) (c : D), #[x][i]? = some u → [a][i]? = some c → RD W X u c := fun i u c hu hc => by
  match i, hu, hc with
  | 0, hu, hc => simp at hu hc; subst hu hc; exact h0
  | i + 1, hu, hc => simp at hu
theorem RD.at4 {W : World} {X : Nat → Prop} {x y z v : Value} {a b e f : D} (h0 : RD W X x a) (h1 : RD W X y b) (h2 : RD W X z e) (h3 : RD W X v f) : ∀ (i : Nat) (u : Value) (c : D), #[x, y, z, v][i]? = some u → [a, b, e, f][i]? = some c → RD W X u c := fun i u c hu hc => by
  match i, hu, hc with
  | 0, hu, hc => simp at hu hc; subst hu hc; exact h0
  | 1, hu, hc => simp at hu hc; subst hu hc; exact h1
  | 2, hu, hc => simp at hu hc; subst hu hc; exact h2
  | 3, hu, hc => simp at hu hc; subst hu hc; exact h3
  | i + 4, hu, hc => simp at hu
end Go.Av
