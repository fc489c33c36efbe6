/-
  Contracts on the model's own 'Calls' become contracts of this logic.
-/
import Derived.Test.YtoikggboakojlaaDoorAv20
namespace Go.Av

theorem PureC.of_calls {P : Program} {G : Glob} {g : FuncId} {ds : List D} {y : D} (hf : Fun P g)
    (h : ∀ (X : Nat → Prop) (w : World) (vs : Array Value), vs.size = ds.length → (∀ (i : Nat) (u : Value) (x : D), vs[i]? = some u → ds[i]? = some x → RD w X u x) → (∀ g x, G g = some x → RD w X (.pointer (some ⟨g, 0, none⟩)) x) →
      Calls P g vs w fun e w' => ∃ v, e = .returned v ∧ Grew w w' ∧ RD w' X v y) : PureC P G g ds y := by
  refine ⟨hf, fun X w μ vs hs hgl hsz hv => ?_⟩
  have hμ : μ = fun _ => none := by
    funext r
    cases hr : μ r with
    | none => rfl
    | some m => obtain ⟨row, hrow⟩ := hs.dom r m hr; cases hrow
  subst hμ
  refine (h X w vs (by simpa using hsz) (fun i u x hu hx => ?_) (fun g x hx => (hgl g x hx).sub fun b hb => XX_none.2 hb)).mono fun e w' ⟨v, he, hg, hr⟩ => ?_
  · exact (hv i u (.d x) hu (by rw [List.getElem?_map, hx]; rfl)).data.sub fun b hb => XX_none.2 hb
  · refine ⟨v, .d y, hno, fun _ => none, he, ⟨rfl, rfl⟩, .d (hr.sub fun b hb => XX_none.1 hb), Sim.none fun b hb => Nat.lt_of_lt_of_le (hs.fits b hb) hg.size, hg.size, hg.os, hg.tape, hg.output, fun b hb _ => ⟨hg.same b hb, fun ⟨_, _, hh, _⟩ => by cases hh⟩, fun r m hr => by cases hr⟩
end Go.Av
