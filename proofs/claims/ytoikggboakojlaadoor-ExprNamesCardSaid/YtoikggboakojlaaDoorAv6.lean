/-
  Memory that is owned: new rows and boxes, stores, rows that move; said of abstract states.
-/
import Derived.Test.YtoikggboakojlaaDoorAv5
namespace Go.Av

def mup (μ : Mu) (r : Nat) (m : MRow) : Mu := fun q => if q = r then some m else μ q
def killE (r : Nat) (e : Env) : Env := fun i => (e i).map (AV.kill r)
def killH (r : Nat) (H : Heap) : Heap := fun q => (H q).map (Row.kill r)

theorem RowOk.same {w w' : World} {Mv X : Nat → Prop} {μ μ' : Mu} (h : Ev Mv w μ w' μ') (hμ : ∀ q m, μ q = some m → μ' q = some m) {m : MRow} (hb : ∀ b, m.blk = some b → w'.heap[b]? = w.heap[b]?) {row : Row} (ok : RowOk w X μ m row) : RowOk w' X μ' m row := by
  cases ok with
  | nil h1 h2 => exact .nil h1 h2
  | sl h1 h2 h3 h4 h5 h6 h7 h8 h9 =>
    exact .sl h1 h2 ((hb _ h1).trans h3) h4 h5 h6 h7 h8 fun i j el c he hc => let ⟨u, hu, hr⟩ := h9 i j el c he hc; ⟨u, hu, hr.ev h⟩
  | box h1 h2 h3 h4 h5 h6 => exact .box h1 h2 h3 ((hb _ h1).trans h4) h5 fun j u c hu hc => (h6 j u c hu hc).same h hμ

theorem RowOk.keep {w w' : World} {Mv X : Nat → Prop} {μ μ' : Mu} (h : Ev Mv w μ w' μ') {r : Nat} (hμ : ∀ q, q ≠ r → μ' q = μ q) {m : MRow} (hb : ∀ b, m.blk = some b → w'.heap[b]? = w.heap[b]?) {row : Row} (ok : RowOk w X μ m row) : RowOk w' X μ' m (row.kill r) := by
  cases ok with
  | nil h1 h2 => exact .nil h1 h2
  | sl h1 h2 h3 h4 h5 h6 h7 h8 h9 =>
    exact .sl h1 h2 ((hb _ h1).trans h3) h4 h5 h6 h7 h8 fun i j el c he hc => let ⟨u, hu, hr⟩ := h9 i j el c he hc; ⟨u, hu, hr.ev h⟩
  | box h1 h2 h3 h4 h5 h6 =>
    refine .box h1 (by simpa using h2) h3 ((hb _ h1).trans h4) (by simpa using h5) fun j u c hu hc => ?_
    rw [List.getElem?_map] at hc
    obtain ⟨c', hc', rfl⟩ := Option.map_eq_some_iff.1 hc
    exact (h6 j u c' hu hc').keep h hμ

section
variable {Mv X : Nat → Prop} {G : Glob} {N : Nat} {w w' : World} {μ : Mu} {a : Act} {σ : St}

theorem RowOk.blk_lt {m : MRow} {row : Row} {b : Nat} (ok : RowOk w X μ m row) (hb : m.blk = some b) : b < w.heap.size := by
  cases ok with
  | nil hb' _ => rw [hb'] at hb; cases hb
  | sl hb' _ hh => rw [hb'] at hb; obtain rfl := Option.some.inj hb; exact (Array.getElem?_eq_some_iff.1 hh).1
  | box hb' _ _ hh => rw [hb'] at hb; obtain rfl := Option.some.inj hb; exact (Array.getElem?_eq_some_iff.1 hh).1

theorem Sim.none_of {H : Heap} (h : Sim w X μ H) {r : Nat} (hr : H r = none) : μ r = none := by
  cases hm : μ r with
  | none => rfl
  | some m => obtain ⟨row, hr'⟩ := h.dom r m hm; rw [hr] at hr'; cases hr'

/-- A world with more blocks, nothing else turned. -/
structure Grew (w w' : World) : Prop where
  size : w.heap.size ≤ w'.heap.size
  os : w'.os = w.os
  tape : w'.tape = w.tape
  output : w'.output = w.output
  same : ∀ b, b < w.heap.size → w'.heap[b]? = w.heap[b]?

theorem Grew.refl (w : World) : Grew w w := ⟨Nat.le_refl _, rfl, rfl, rfl, fun _ _ => rfl⟩
theorem Grew.alloc (w : World) (o : Obj) : Grew w (w.alloc o) := ⟨by simp, rfl, rfl, rfl, fun b hb => by rw [← World.alloc_eq]; simp [Array.getElem?_push, Nat.ne_of_lt hb]⟩
theorem Grew.drew (w : World) : Grew w w.drew := ⟨Nat.le_refl _, rfl, rfl, rfl, fun _ _ => rfl⟩

/-- The world grows; nothing owned is turned. -/
theorem In.grew (hi : In w X G μ N a σ) (hg : Grew w w') : In w' X G μ N a σ ∧ Ev Mv w μ w' μ := by
  have ev : Ev Mv w μ w' μ := ⟨hg.size, hg.os, hg.tape, hg.output, fun b hb hr => ⟨hg.same b hb, hr⟩, fun _ _ h _ => h⟩
  refine ⟨⟨⟨fun r row hr => ?_, hi.sim.dom, hi.sim.inj, hi.sim.frame, fun b hb => Nat.lt_of_lt_of_le (hi.sim.fits b hb) hg.size⟩, ⟨hi.env.defers, hi.env.size, fun i x hx => ?_⟩, fun g x hx => (hi.glob g x hx).ev ev⟩, ev⟩
  · obtain ⟨m, hm, ok⟩ := hi.sim.rows r row hr
    exact ⟨m, hm, ok.same ev (fun _ _ h => h) fun b hb => hg.same b (ok.blk_lt hb)⟩
  · obtain ⟨u, hu, hr⟩ := hi.env.slot i x hx
    exact ⟨u, hu, hr.same ev fun _ _ h => h⟩

/-- A new row. -/
theorem In.alloc (hi : In w X G μ N a σ) {d : Nat} (hd : σ.H d = none) (hg : Grew w w') {m : MRow} (hm : ∀ b, m.blk = some b → w.heap.size ≤ b) {row : Row}
    (ok : Ev Mv w μ w' (mup μ d m) → RowOk w' X (mup μ d m) m row) : In w' X G (mup μ d m) N a ⟨σ.env, hup σ.H d row⟩ ∧ Ev Mv w μ w' (mup μ d m) := by
  have hnone := hi.sim.none_of hd
  have hμ : ∀ q m', μ q = some m' → mup μ d m q = some m' := by
    intro q m' hq
    unfold mup
    split
    · rename_i e; subst e; rw [hnone] at hq; cases hq
    · exact hq
  have ev : Ev Mv w μ w' (mup μ d m) := by
    refine ⟨hg.size, hg.os, hg.tape, hg.output, fun b hb hr => ⟨hg.same b hb, ?_⟩, fun _ _ h _ => hμ _ _ h⟩
    rintro ⟨q, m', hq, hb'⟩
    unfold mup at hq
    split at hq
    · obtain rfl := Option.some.inj hq
      have := hm b hb'
      omega
    · exact hr ⟨q, m', hq, hb'⟩
  have ok := ok ev
  refine ⟨⟨⟨fun r row' hr => ?_, fun r m' hr => ?_, fun r r' m1 m2 b h1 h2 hb1 hb2 => ?_, fun r m' b hr hb => ?_, fun b hb => Nat.lt_of_lt_of_le (hi.sim.fits b hb) hg.size⟩, ⟨hi.env.defers, hi.env.size, fun i x hx => ?_⟩, fun g x hx => (hi.glob g x hx).ev ev⟩, ev⟩
  · dsimp only [hup] at hr
    split at hr
    · rename_i e
      subst e
      obtain rfl := Option.some.inj hr
      exact ⟨m, by simp [mup], ok⟩
    · rename_i e
      obtain ⟨m', hm', ok'⟩ := hi.sim.rows r row' hr
      exact ⟨m', hμ r m' hm', ok'.same ev hμ fun b hb => hg.same b (ok'.blk_lt hb)⟩
  · unfold mup at hr
    split at hr
    · rename_i e; exact ⟨row, by simp [hup, e]⟩
    · rename_i e
      obtain ⟨row', hr'⟩ := hi.sim.dom r m' hr
      exact ⟨row', by simp [hup, e, hr']⟩
  · have lt : ∀ q m', μ q = some m' → m'.blk = some b → b < w.heap.size := fun q m' hq hb => hi.sim.blk_lt ⟨q, m', hq, hb⟩
    unfold mup at h1 h2
    split at h1 <;> split at h2
    · rename_i e1 e2; rw [e1, e2]
    · obtain rfl := Option.some.inj h1
      have := hm b hb1
      have := lt r' m2 h2 hb2
      omega
    · obtain rfl := Option.some.inj h2
      have := hm b hb2
      have := lt r m1 h1 hb1
      omega
    · exact hi.sim.inj r r' m1 m2 b h1 h2 hb1 hb2
  · unfold mup at hr
    split at hr
    · obtain rfl := Option.some.inj hr
      intro hX
      have := hm b hb
      have := hi.sim.fits b hX
      omega
    · exact hi.sim.frame r m' b hr hb
  · obtain ⟨u, hu, hr⟩ := hi.env.slot i x hx
    exact ⟨u, hu, hr.same ev hμ⟩

/-- A row is written, where it lies. -/
theorem In.write (hi : In w X G μ N a σ) {r b : Nat} {m : MRow} (hm : μ r = some m) (hb : m.blk = some b) (hs : w'.heap.size = w.heap.size) (ho : w'.os = w.os) (ht : w'.tape = w.tape) (hout : w'.output = w.output)
    (hsame : ∀ k, k ≠ b → w'.heap[k]? = w.heap[k]?) {row : Row} (ok : Ev Mv w μ w' μ → RowOk w' X μ m row) : In w' X G μ N a ⟨σ.env, hup σ.H r row⟩ ∧ Ev Mv w μ w' μ := by
  have ev : Ev Mv w μ w' μ := ⟨by omega, ho, ht, hout, fun k hk hr => ⟨hsame k fun e => hr ⟨r, m, hm, e ▸ hb⟩, hr⟩, fun _ _ h _ => h⟩
  have ok := ok ev
  refine ⟨⟨⟨fun q row' hq => ?_, fun q m' hq => ?_, hi.sim.inj, hi.sim.frame, fun b hb => by have := hi.sim.fits b hb; omega⟩, ⟨hi.env.defers, hi.env.size, fun i x hx => ?_⟩, fun g x hx => (hi.glob g x hx).ev ev⟩, ev⟩
  · dsimp only [hup] at hq
    split at hq
    · rename_i e
      subst e
      obtain rfl := Option.some.inj hq
      exact ⟨m, hm, ok⟩
    · rename_i e
      obtain ⟨m', hm', ok'⟩ := hi.sim.rows q row' hq
      exact ⟨m', hm', ok'.same ev (fun _ _ h => h) fun k hk => hsame k fun e' => e (hi.sim.inj q r m' m k hm' hm hk (e' ▸ hb))⟩
  · by_cases e : q = r
    · exact ⟨row, by simp [hup, e]⟩
    · obtain ⟨row', hr'⟩ := hi.sim.dom q m' hq
      exact ⟨row', by simp [hup, e, hr']⟩
  · obtain ⟨u, hu, hr⟩ := hi.env.slot i x hx
    exact ⟨u, hu, hr.same ev fun _ _ h => h⟩

/-- A row moves (or is written): handles on it are forgotten. -/
theorem In.move (hi : In w X G μ N a σ) {r : Nat} {m m' : MRow} (hm : μ r = some m) (hmv : Mv r) (hs : w.heap.size ≤ w'.heap.size) (ho : w'.os = w.os) (ht : w'.tape = w.tape) (hout : w'.output = w.output)
    (hsame : ∀ k, k < w.heap.size → m.blk ≠ some k → w'.heap[k]? = w.heap[k]?) (hnew : ∀ b, m'.blk = some b → w.heap.size ≤ b ∨ m.blk = some b) {row : Row}
    (ok : Ev Mv w μ w' (mup μ r m') → RowOk w' X (mup μ r m') m' row) : In w' X G (mup μ r m') N a ⟨killE r σ.env, hup (killH r σ.H) r row⟩ ∧ Ev Mv w μ w' (mup μ r m') := by
  have hμ : ∀ q, q ≠ r → mup μ r m' q = μ q := fun q hq => by simp [mup, hq]
  have ev : Ev Mv w μ w' (mup μ r m') := by
    refine ⟨hs, ho, ht, hout, fun b hb hr => ⟨hsame b hb fun e => hr ⟨r, m, hm, e⟩, ?_⟩, fun q mq hq hn => ?_⟩
    · rintro ⟨q, mq, hq, hbq⟩
      unfold mup at hq
      split at hq
      · obtain rfl := Option.some.inj hq
        rcases hnew b hbq with h | h
        · omega
        · exact hr ⟨r, m, hm, h⟩
      · exact hr ⟨q, mq, hq, hbq⟩
    · have : q ≠ r := fun e => hn (e ▸ hmv)
      rw [hμ q this]; exact hq
  have ok := ok ev
  refine ⟨⟨⟨fun q row' hq => ?_, fun q mq hq => ?_, fun q q' m1 m2 b h1 h2 hb1 hb2 => ?_, fun q mq b hq hb => ?_, fun b hb => Nat.lt_of_lt_of_le (hi.sim.fits b hb) hs⟩, ⟨hi.env.defers, hi.env.size, fun i x hx => ?_⟩, fun g x hx => (hi.glob g x hx).ev ev⟩, ev⟩
  · dsimp only [hup] at hq
    split at hq
    · rename_i e
      subst e
      obtain rfl := Option.some.inj hq
      exact ⟨m', by simp [mup], ok⟩
    · rename_i e
      unfold killH at hq
      obtain ⟨row0, h0, rfl⟩ := Option.map_eq_some_iff.1 hq
      obtain ⟨mq, hmq, ok'⟩ := hi.sim.rows q row0 h0
      exact ⟨mq, (hμ q e).trans hmq, ok'.keep ev hμ fun k hk => hsame k (ok'.blk_lt hk) fun e' => e (hi.sim.inj q r mq m k hmq hm hk e')⟩
  · by_cases e : q = r
    · exact ⟨row, by simp [hup, e]⟩
    · rw [hμ q e] at hq
      obtain ⟨row', hr'⟩ := hi.sim.dom q mq hq
      exact ⟨row'.kill r, by simp [hup, e, killH, hr']⟩
  · have lt : ∀ q mq, μ q = some mq → mq.blk = some b → b < w.heap.size := fun q mq hq hb => hi.sim.blk_lt ⟨q, mq, hq, hb⟩
    by_cases e1 : q = r <;> by_cases e2 : q' = r
    · rw [e1, e2]
    · rw [hμ q' e2] at h2
      simp only [mup, e1, if_true, Option.some.injEq] at h1
      subst h1
      rcases hnew b hb1 with h | h
      · have := lt q' m2 h2 hb2; omega
      · exact absurd (hi.sim.inj q' r m2 m b h2 hm hb2 h) e2
    · rw [hμ q e1] at h1
      simp only [mup, e2, if_true, Option.some.injEq] at h2
      subst h2
      rcases hnew b hb2 with h | h
      · have := lt q m1 h1 hb1; omega
      · exact absurd (hi.sim.inj q r m1 m b h1 hm hb1 h) e1
    · rw [hμ q e1] at h1
      rw [hμ q' e2] at h2
      exact hi.sim.inj q q' m1 m2 b h1 h2 hb1 hb2
  · by_cases e : q = r
    · simp only [mup, e, if_true, Option.some.injEq] at hq
      subst hq
      rcases hnew b hb with h | h
      · intro hX; have := hi.sim.fits b hX; omega
      · exact hi.sim.frame r m b hm h
    · rw [hμ q e] at hq
      exact hi.sim.frame q mq b hq hb
  · unfold killE at hx
    obtain ⟨x0, h0, rfl⟩ := Option.map_eq_some_iff.1 hx
    obtain ⟨u, hu, hr⟩ := hi.env.slot i x0 h0
    exact ⟨u, hu, hr.keep ev hμ⟩

/-- What is not wanted any more is forgotten: rows whose names nobody bears; what they were is data from then on, if one wants. -/
theorem Imp_drop {r : Nat} {m : MRow} (hm : μ r = some m) (hi : In w X G μ N a σ) (hmv : Mv r) :
    In w X G (fun q => if q = r then none else μ q) N a ⟨killE r σ.env, fun q => if q = r then none else killH r σ.H q⟩ ∧ Ev Mv w μ w (fun q => if q = r then none else μ q) := by
  have hμ : ∀ q, q ≠ r → (fun q => if q = r then none else μ q) q = μ q := fun q hq => by simp [hq]
  have ev : Ev Mv w μ w (fun q => if q = r then none else μ q) := by
    refine ⟨Nat.le_refl _, rfl, rfl, rfl, fun b hb hr => ⟨rfl, ?_⟩, fun q mq hq hn => ?_⟩
    · rintro ⟨q, mq, hq, hbq⟩
      dsimp only at hq
      split at hq
      · cases hq
      · exact hr ⟨q, mq, hq, hbq⟩
    · have : q ≠ r := fun e => hn (e ▸ hmv)
      simp [this, hq]
  refine ⟨⟨⟨fun q row' hq => ?_, fun q mq hq => ?_, fun q q' m1 m2 b h1 h2 hb1 hb2 => ?_, fun q mq b hq hb => ?_, hi.sim.fits⟩, ⟨hi.env.defers, hi.env.size, fun i x hx => ?_⟩, fun g x hx => (hi.glob g x hx).ev ev⟩, ev⟩
  · dsimp only at hq
    split at hq
    · cases hq
    · rename_i e
      obtain ⟨row0, h0, rfl⟩ := Option.map_eq_some_iff.1 hq
      obtain ⟨mq, hmq, ok'⟩ := hi.sim.rows q row0 h0
      exact ⟨mq, by simp [e, hmq], ok'.keep ev hμ fun k hk => rfl⟩
  · by_cases e : q = r
    · simp [e] at hq
    · simp only [e, if_false] at hq
      obtain ⟨row', hr'⟩ := hi.sim.dom q mq hq
      exact ⟨row'.kill r, by simp [e, killH, hr']⟩
  · by_cases e1 : q = r
    · simp [e1] at h1
    · by_cases e2 : q' = r
      · simp [e2] at h2
      · simp only [e1, e2, if_false] at h1 h2
        exact hi.sim.inj q q' m1 m2 b h1 h2 hb1 hb2
  · by_cases e : q = r
    · simp [e] at hq
    · simp only [e, if_false] at hq
      exact hi.sim.frame q mq b hq hb
  · unfold killE at hx
    obtain ⟨x0, h0, rfl⟩ := Option.map_eq_some_iff.1 hx
    obtain ⟨u, hu, hr⟩ := hi.env.slot i x0 h0
    exact ⟨u, hu, hr.keep ev hμ⟩

/-- What is owned reads as data, in a frame that does not bear it. -/
theorem own_reads (hs : Sim w X μ σ.H) {r off n ty sz : Nat} {els : List (List D)} (hH : σ.H r = some (.sl ty sz els)) (hle : off + n ≤ els.length) {u : Value} (hu : RV w X μ u (.own r off n)) :
    ∃ k, RD w (XX X (fun q => if q = r then none else μ q)) u (.sl k ((els.drop off).take n)) ∧ (0 < n → k = some true) ∧ k ≠ some false := by
  obtain ⟨m, hm, hh⟩ := hu.own_inv
  obtain ⟨m', hm', ok⟩ := hs.rows r _ hH
  rw [hm] at hm'
  obtain rfl := Option.some.inj hm'
  have hX : ∀ b, m.blk = some b → ¬ XX X (fun q => if q = r then none else μ q) b := by
    rintro b hb (h | ⟨q, mq, hq, hbq⟩)
    · exact hs.frame r m b hm hb h
    · dsimp only at hq
      split at hq
      · cases hq
      · rename_i e; exact e (hs.inj q r mq m b hq hm hbq hb)
  rcases hh with ⟨hb, rfl, rfl, rfl⟩ | ⟨b, hb, rfl, hcap⟩
  · exact ⟨none, by simpa using .nil (by simp), by omega, by simp⟩
  · cases ok with
    | nil hb' _ => rw [hb'] at hb; cases hb
    | sl hb' hsz hh hcs hn hmx hl hz hr =>
      rename_i b' cur
      rw [hb] at hb'
      obtain rfl := Option.some.inj hb'
      subst hsz
      by_cases h0 : n = 0
      · subst h0
        exact ⟨some true, by rw [List.take_zero]; exact .empty (by simp) (by unfold maxLen at *; omega), by omega, by simp⟩
      · refine ⟨some true, .sl (sz := m.sz) (f := fun i j => cur.getD ((off + i) * m.sz + j) undef) (by simp) (by simp; omega) (by omega) (by unfold maxLen at *; omega) (hX b hb) (fun el hel => hl el (List.mem_of_mem_drop (List.mem_of_mem_take hel))) hz (by omega) ?_ ?_, by simp, by simp⟩
        · intro i j hi hj
          have hlt : (off + i) * m.sz + j < cur.size := by
            rw [hcs]
            have : (off + i + 1) * m.sz ≤ m.cap * m.sz := Nat.mul_le_mul_right _ (by omega)
            rw [Nat.add_mul] at this
            omega
          have e1 : off * m.sz + (i * m.sz + j) = (off + i) * m.sz + j := by rw [Nat.add_mul]; omega
          rw [e1, cell_of_row w b _ cur ty (0, 0) hh]
          simp [Array.getD_eq_getD_getElem?, hlt]
        · intro i j el c hel hc
          rw [List.getElem?_take] at hel
          split at hel
          · rw [List.getElem?_drop] at hel
            obtain ⟨u', hu', hrd⟩ := hr (off + i) j el c hel hc
            rw [Array.getD_eq_getD_getElem?, hu']
            refine hrd.mono (Nat.le_refl _) fun b hb hXX => ⟨rfl, ?_⟩
            rintro (h | ⟨q, mq, hq, hbq⟩)
            · exact hXX (.inl h)
            · dsimp only at hq
              split at hq
              · cases hq
              · exact hXX (.inr ⟨q, mq, hq, hbq⟩)
          · cases hel
end
end Go.Av
