/-
  A nil slice in a box becomes a row of its own; drawn regions in an order of one's own, operation by operation.
-/
import Derived.Test.YtoikggboakojlaaDoorAv18
namespace Go.Av
theorem trH_hlst (k : Nat → Bool) (o f : Nat → Nat → Nat → AV) (l : List (Nat × Row)) : trH k o f (hlst l) = hlst (l.filterMap fun p => if k p.1 = true then some (p.1, p.2.tr o f) else none) := by
  funext i
  unfold trH hlst
  induction l with
  | nil => simp
  | cons p l ih =>
    obtain ⟨j, r⟩ := p
    simp only [List.lookup_cons, List.filterMap_cons]
    by_cases hij : i = j
    · subst hij
      cases hk : k i
      · simp [hk] at ih ⊢
        exact ih
      · simp
    · have hb : (i == j) = false := by simpa using hij
      rw [hb]
      cases hk : k j
      · simpa using ih
      · simp only [if_true, List.lookup_cons, hb]
        exact ih

section
variable {P : Program} {Mv X : Nat → Prop} {G : Glob} {N : Nat} {w w' : World} {μ : Mu} {a : Act} {σ : St}

theorem sxl_nextO {T : Ty} {ops : Array Oper} {la : List (Nat × Nat × Nat)} {av : List (Nat × List Nat)} {K : St → Prop} {i : Nat} {l : List Nat} {o : Oper} (ho : ops[i]? = some o) (h : ∀ K' : St → Prop, (∀ τ, sxl P T Mv G N la av K (inOrder ops l) τ → K' τ) → stepL P T Mv G N la av i o σ K') : sxl P T Mv G N la av K (inOrder ops (i :: l)) σ := by
  have : inOrder ops (i :: l) = (i, o) :: inOrder ops l := by simp [inOrder, ho]
  rw [this]
  exact h _ fun _ h => h
theorem sxl_nilO {T : Ty} {ops : Array Oper} {la : List (Nat × Nat × Nat)} {av : List (Nat × List Nat)} {K : St → Prop} (h : K σ) : sxl P T Mv G N la av K (inOrder ops []) σ := h

theorem Imp.adoptCell (b j r ty sz : Nat) {e : Env} {H : Heap} {tb : TypeId} {cells : List AV} (hb : H b = some (.box tb cells)) (hr : H r = none) (hc : cells[j]? = some (.d (.sl (some false) []))) :
    Imp Mv X G N ⟨e, H⟩ ⟨e, hup (hup H r (.sl ty sz [])) b (.box tb (cells.set j (.own r 0 0)))⟩ := fun w μ a hi => by
  obtain ⟨hin, ev⟩ := hi.alloc (Mv := Mv) (w' := w) (m := ⟨none, sz, 0⟩) hr (Grew.refl w) (by simp) (row := .sl ty sz []) fun _ => .nil rfl rfl
  have hrb : b ≠ r := fun h => by subst h; rw [hr] at hb; cases hb
  refine ⟨mup μ r ⟨none, sz, 0⟩, ⟨⟨fun q row hq => ?_, fun q m hm => ?_, hin.sim.inj, hin.sim.frame, hin.sim.fits⟩, hin.env, hin.glob⟩, ev⟩
  · by_cases hqb : q = b
    · subst hqb
      simp only [hup, if_true, Option.some.injEq] at hq
      subst hq
      obtain ⟨m, hm, ok⟩ := hin.sim.rows q (.box tb cells) (by simp [hup, hrb, hb])
      refine ⟨m, hm, ?_⟩
      cases ok with
      | box hb' hs hcap hh hn hrv =>
        refine .box hb' (by simpa using hs) hcap hh (by simpa using hn) fun i u c hu hci => ?_
        rw [List.getElem?_set] at hci
        split at hci
        · rename_i hij
          subst hij
          split at hci
          · obtain rfl := Option.some.inj hci
            have h1 := hrv j u _ hu hc
            refine .own (m := ⟨none, sz, 0⟩) (by simp [mup]) (.inl ⟨rfl, ?_, rfl, rfl⟩)
            rcases h1.data.sl_inv with ⟨rfl, _⟩ | ⟨_, _, _, hk, _⟩
            · rfl
            · exact absurd rfl hk
          · cases hci
        · exact hrv i u c hu hci
    · exact hin.sim.rows q row (by simpa [hup, hqb] using hq)
  · by_cases hqb : q = b
    · exact ⟨.box tb (cells.set j (.own r 0 0)), by subst hqb; simp [hup]⟩
    · obtain ⟨row, hrow⟩ := hin.sim.dom q m hm
      exact ⟨row, by simpa [hup, hqb] using hrow⟩
end
end Go.Av
