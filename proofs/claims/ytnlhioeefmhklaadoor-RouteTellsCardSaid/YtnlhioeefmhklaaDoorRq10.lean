/-
  Texts that belong together, in one file: Av33, Av34, RP1.
-/
import Derived.Test.YtnlhioeefmhklaaDoorRq9
import Derived.RangeFuncSeq
/-
  Functions that range over a function: the loops' marks stand among what is put off; the rule of the loop, over what the iterator tells.
-/
namespace Go.Av
set_option linter.unusedSimpArgs false
set_option linter.unusedVariables false
set_option linter.unusedSectionVars false

def mark (d : Nat) : Deferred := { target := .collected d, args := #[] }
/-- The blocks that the marks name: new since s, open, each once. -/
structure Marks (s : Nat) (w : World) (ds : List Nat) : Prop where
  nodup : ds.Nodup
  new : ∀ d ∈ ds, s ≤ d
  opn : ∀ d ∈ ds, w.heap[d]? = some (.deferred (some []))
def XD (X : Nat → Prop) (ds : List Nat) (b : Nat) : Prop := X b ∨ b ∈ ds

/-- As 'Ev', but for one block of the frame. -/
structure EvL (l : Nat) (Mv : Nat → Prop) (w : World) (μ : Mu) (w' : World) (μ' : Mu) : Prop where
  size : w.heap.size ≤ w'.heap.size
  os : w'.os = w.os
  tape : w'.tape = w.tape
  output : w'.output = w.output
  same : ∀ b, b < w.heap.size → b ≠ l → ¬ ran μ b → w'.heap[b]? = w.heap[b]? ∧ ¬ ran μ' b
  kept : ∀ r m, μ r = some m → ¬ Mv r → μ' r = some m
theorem EvL.trans {l : Nat} {Mv : Nat → Prop} {w w1 w2 : World} {μ μ1 μ2 : Mu} (h : EvL l Mv w μ w1 μ1) (h' : EvL l Mv w1 μ1 w2 μ2) : EvL l Mv w μ w2 μ2 :=
  ⟨Nat.le_trans h.size h'.size, h'.os.trans h.os, h'.tape.trans h.tape, h'.output.trans h.output, fun b hb hl hr =>
    have h1 := h.same b hb hl hr
    have h2 := h'.same b (Nat.lt_of_lt_of_le hb h.size) hl h1.2
    ⟨h2.1.trans h1.1, h2.2⟩, fun r m hm hn => h'.kept r m (h.kept r m hm hn) hn⟩
theorem EvL.put (Mv : Nat → Prop) (w : World) (μ : Mu) (l : Nat) (o : Obj) : EvL l Mv w μ (w.putObj l o) μ :=
  ⟨by simp, rfl, rfl, rfl, fun b _ hl hr => ⟨World.putObj_heap_other hl, hr⟩, fun _ _ h _ => h⟩
/-- The block was not there when it began. -/
theorem EvL.ev {l : Nat} {Mv : Nat → Prop} {w w' : World} {μ μ' : Mu} (h : EvL l Mv w μ w' μ') (hl : w.heap.size ≤ l) : Ev Mv w μ w' μ' :=
  ⟨h.size, h.os, h.tape, h.output, fun b hb hr => h.same b hb (by omega) hr, h.kept⟩

section
variable {P : Program} {T : Ty} {Mv X : Nat → Prop} {G : Glob} {N : Fr} {w w' : World} {μ : Mu} {a : Act} {σ : St}

theorem Marks.ev {s : Nat} {ds : List Nat} {H : Heap} {μ' : Mu} (hm : Marks s w ds) (hs : Sim w (XD X ds) μ H) (ev : Ev Mv w μ w' μ') : Marks s w' ds :=
  ⟨hm.nodup, hm.new, fun d hd => (ev.same d (Array.getElem?_eq_some_iff.1 (hm.opn d hd)).1 fun ⟨r, m, hr, hb⟩ => hs.frame r m d hr hb (.inr hd)).1.trans (hm.opn d hd)⟩

/-! ### Bodies with marks -/
def After0 (Mv X : Nat → Prop) (G : Glob) (n s : Nat) (w : World) (μ : Mu) (Q : Exit → St → Prop) (e : Exit) (a' : Act) (w' : World) : Prop :=
  ∃ ds μ' σ', Q e σ' ∧ Marks s w' ds ∧ In w' (XD X ds) G μ' ⟨n, ds.map mark, none⟩ a' σ' ∧ Ev Mv w μ w' μ'
/-- As 'AW', of a code that may range over functions. -/
def AW0 (P : Program) (Mv X : Nat → Prop) (G : Glob) (n s : Nat) (c : Code) (Q : Exit → St → Prop) (σ : St) : Prop :=
  ∀ ds w μ a, s ≤ w.heap.size → Marks s w ds → In w (XD X ds) G μ ⟨n, ds.map mark, none⟩ a σ → c.wpIn (wd none) 0 P (After0 Mv X G n s w μ Q) a w

theorem AW0.mono {n s : Nat} {c : Code} {Q Q' : Exit → St → Prop} (h : AW0 P Mv X G n s c Q σ) (hq : ∀ e σ, Q e σ → Q' e σ) : AW0 P Mv X G n s c Q' σ := fun ds w μ a hs hm hi =>
  wpIn_mono (h ds w μ a hs hm hi) fun _ _ _ ⟨ds', μ', σ', q, r⟩ => ⟨ds', μ', σ', hq _ _ q, r⟩
theorem AW0.imp {n s : Nat} {c : Code} {Q : Exit → St → Prop} {τ : St} (hi : ∀ X' ds, Imp Mv X' G ⟨n, ds, none⟩ σ τ) (h : AW0 P Mv X G n s c Q τ) : AW0 P Mv X G n s c Q σ := fun ds w μ a hs hm hin => by
  obtain ⟨μ1, h1, e1⟩ := hi (XD X ds) _ w μ a hin
  exact wpIn_mono (h ds w μ1 a hs hm h1) fun e a' w' ⟨ds', μ', σ', q, m, i, ev⟩ => ⟨ds', μ', σ', q, m, i, e1.trans ev⟩
/-! ### The iterator -/
structure Kept (B : Nat → Prop) (w w' : World) : Prop where
  size : w.heap.size ≤ w'.heap.size
  same : ∀ b, B b → w'.heap[b]? = w.heap[b]?
def notL (it : List Nat) (q : Nat) : Bool := !it.contains q
def notO (it : List Nat) (q off n : Nat) : AV := if it.contains q then .dead else .own q off n
def notF (it : List Nat) (q e j : Nat) : AV := if it.contains q then .dead else .ref q e j

/-- What is not the iterator's, by itself; the iterator's blocks are the frame's. -/
theorem In.rest {e0 : Env} {H0 : Heap} (it : List Nat) (hi : In w X G μ N a ⟨e0, H0⟩) : In w (XX X (mfilt it.contains μ)) G (mfilt (notL it) μ) N a ⟨fun i => (e0 i).map (AV.tr (notO it) (notF it)), trH (notL it) (notO it) (notF it) H0⟩ := by
  have hXX : ∀ b, XX (XX X (mfilt it.contains μ)) (mfilt (notL it) μ) b → XX X μ b := fun b hb => hb.elim (fun hb => hb.elim .inl fun h => .inr (ran_mfilt h)) fun h => .inr (ran_mfilt h)
  have hD : ∀ u d, RD w (XX X μ) u d → RD w (XX (XX X (mfilt it.contains μ)) (mfilt (notL it) μ)) u d := fun u d h => h.sub hXX
  have hm : ∀ q m, it.contains q = false → μ q = some m → mfilt (notL it) μ q = some m := fun q m hk h => by simp only [mfilt, notL, hk, Bool.not_false, if_true]; exact h
  have hV : ∀ u x, RV w X μ u x → RV w (XX X (mfilt it.contains μ)) (mfilt (notL it) μ) u (x.tr (notO it) (notF it)) := fun u x => RV.tr3 hD (fun u r off n h => by
      unfold notO
      split
      · exact .dead u
      · rename_i hk
        obtain ⟨m, h1, h2⟩ := h.own_inv
        exact .own (hm r m (by simpa using hk) h1) h2) (fun u r e j h => by
      unfold notF
      split
      · exact .dead u
      · rename_i hk
        obtain ⟨m, b, h1, h2, rfl⟩ := h.ref_inv
        exact .ref (hm r m (by simpa using hk) h1) h2)
  refine ⟨⟨fun r row hr => ?_, fun r m hr => ?_, fun q q' m1 m2 b h1 h2 hb1 hb2 => hi.sim.inj q q' m1 m2 b (mfilt_some h1).2 (mfilt_some h2).2 hb1 hb2, fun q m b hq hb hX => ?_, fun b hb => hb.elim (hi.sim.fits b) fun h => hi.sim.blk_lt (ran_mfilt h)⟩, ⟨hi.env.defers, hi.env.size, fun i x hx => ?_⟩, fun g x hx => hD _ _ (hi.glob g x hx)⟩
  · dsimp only [trH] at hr
    split at hr
    · rename_i hk
      obtain ⟨row0, h0, rfl⟩ := Option.map_eq_some_iff.1 hr
      obtain ⟨m, h1, ok⟩ := hi.sim.rows r row0 h0
      exact ⟨m, hm r m (by simpa [notL] using hk) h1, ok.tr3 (fun _ _ => rfl) hD hV⟩
    · cases hr
  · obtain ⟨hk, h1⟩ := mfilt_some hr
    obtain ⟨row, h0⟩ := hi.sim.dom r m h1
    exact ⟨row.tr (notO it) (notF it), by dsimp only [trH]; rw [if_pos hk]; dsimp only at h0; rw [h0]; rfl⟩
  · obtain ⟨hk, h1⟩ := mfilt_some hq
    rcases hX with h | ⟨q', m', hq', hb'⟩
    · exact hi.sim.frame q m b h1 hb h
    · obtain ⟨hk', h1'⟩ := mfilt_some hq'
      obtain rfl := hi.sim.inj q q' m m' b h1 h1' hb hb'
      simp only [notL, hk', Bool.not_true, Bool.false_eq_true] at hk
  · obtain ⟨y, hy, rfl⟩ := Option.map_eq_some_iff.1 hx
    obtain ⟨u, hu, hr⟩ := hi.env.slot i y hy
    exact ⟨u, hu, hV u y hr⟩

end
end Go.Av

/-
  Drawn regions of which one operation comes behind all others: the rest in such orders as the draw gives, then that one.
-/
namespace Go.Av
set_option linter.unusedSimpArgs false
set_option linter.unusedVariables false
set_option linter.unusedSectionVars false

section
variable {P : Program} {T : Ty} {Mv X : Nat → Prop} {G : Glob} {N : Fr} {ops : Array Oper} {F : Fence} {n : Nat}

/-- No guards; what each waits for stands ahead; the last waits for all. -/
def okLast (ops : Array Oper) : Bool :=
  ((List.range ops.size).all fun j => match ops[j]? with
    | some oj => oj.guard.isNone && oj.after.all fun e => !Region.binds .any e || e.on < j
    | none => true) && decide (0 < ops.size) && (List.range (ops.size - 1)).all fun q => ((tb ops).getD (ops.size - 1) 0).testBit q

theorem wanted_free {o : Oper} (h : o.guard = none) (f : Nat → Option Bool) : Region.wanted o f = true := by unfold Region.wanted; rw [h]

theorem any_last {m : Nat} {om : Oper} (hm : ops[m]? = some om) (hsz : ops.size = m + 1) (hgu : ∀ (j : Nat) (oj : Oper), ops[j]? = some oj → oj.guard = none) (hlt : ∀ (j : Nat) (oj : Oper), ops[j]? = some oj → ∀ e ∈ oj.after, Region.binds .any e = true → e.on < j)
    (hall : ∀ q, q < m → ((tb ops).getD m 0).testBit q = true) {Q Q1 : Exit → Act → World → Prop} (hQ1 : ∀ a w, Q1 .normal a w → wpOpsIn F n P ops Q [m] a w) (hQe : ∀ e a w, e ≠ .normal → Q1 e a w → Q e a w) :
    ∀ (fuel : Nat) (listed : Array Bool) (a : Act) (w : World), listed.size = m → (∀ j oj, ops[j]? = some oj → (listed.push false).getD j false = true → ∀ e ∈ oj.after, Region.binds .any e = true → (listed.push false).getD e.on false = true) →
      wpAnyIn F n P .any ops.pop Q1 fuel listed a w → wpAnyIn F n P .any ops Q (fuel + 1) (listed.push false) a w := by
  have hpop : ∀ j, j < m → ops.pop[j]? = ops[j]? := fun j hj => by rw [Array.getElem?_pop, if_pos (by omega)]
  have hpopn : ∀ j, ¬ j < m → ops.pop[j]? = none := fun j hj => by rw [Array.getElem?_pop, if_neg (by omega)]
  have hget : ∀ (listed : Array Bool) (j : Nat) (b : Bool), listed.size = m → j < m → (listed.push false).getD j b = listed.getD j b := fun listed j b hl hj => by
    simp [Array.getD_eq_getD_getElem?, Array.getElem?_push, hl, Nat.ne_of_lt hj]
  have hgetm : ∀ (listed : Array Bool) (b : Bool), listed.size = m → (listed.push false).getD m b = false := fun listed b hl => by
    have h : (listed.push false)[m]? = some false := by rw [← hl]; simp
    simp only [Array.getD_eq_getD_getElem?, h, Option.getD_some]
  -- who may come up
  have hrdy : ∀ (listed : Array Bool) (i : Nat), listed.size = m → i < m → (i ∈ Region.ready .any ops (listed.push false) ↔ i ∈ Region.ready .any ops.pop listed) := fun listed i hl hi => by
    rw [mem_ready, mem_ready, hget listed i true hl hi, hpop i hi]
    refine and_congr_right fun _ => ⟨fun ⟨o, ho, h⟩ => ⟨o, ho, fun e he hb => ?_⟩, fun ⟨o, ho, h⟩ => ⟨o, ho, fun e he hb => ?_⟩⟩
    · have := h e he hb
      rwa [hget listed _ false hl (by have := hlt i o ho e he hb; omega)] at this
    · rw [hget listed _ false hl (by have := hlt i o ho e he hb; omega)]
      exact h e he hb
  -- somebody may
  have hsome : ∀ (listed : Array Bool), listed.size = m → (∀ j, j < m → listed.getD j true = true) ∨ ∃ i, i < m ∧ i ∈ Region.ready .any ops.pop listed := fun listed hl => by
    by_cases h : ∀ j, j < m → listed.getD j true = true
    · exact .inl h
    · refine .inr ?_
      have hex : ∃ j, j < m ∧ listed.getD j true = false := Classical.byContradiction fun hn => h fun j hj => by
        cases hb : listed.getD j true with
        | true => rfl
        | false => exact absurd ⟨j, hj, hb⟩ hn
      obtain ⟨j, ⟨hj, hb⟩, hmin⟩ : ∃ j, (j < m ∧ listed.getD j true = false) ∧ ∀ k, k < j → ¬ (k < m ∧ listed.getD k true = false) := by
        have key : ∀ N j, j ≤ N → (j < m ∧ listed.getD j true = false) → ∃ j, (j < m ∧ listed.getD j true = false) ∧ ∀ k, k < j → ¬ (k < m ∧ listed.getD k true = false) := by
          intro N
          induction N with
          | zero => intro j hj h; exact ⟨j, h, fun k hk => by omega⟩
          | succ N ih =>
            intro j hj h
            by_cases hh : ∃ k, k < j ∧ (k < m ∧ listed.getD k true = false)
            · obtain ⟨k, hk, h2⟩ := hh
              exact ih k (by omega) h2
            · exact ⟨j, h, fun k hk h2 => hh ⟨k, hk, h2⟩⟩
        obtain ⟨j, h⟩ := hex
        exact key j j (Nat.le_refl _) h
      refine ⟨j, hj, mem_ready.2 ⟨hb, ops[j]'(by omega), by rw [hpop j hj]; simp [show j < ops.size by omega], fun e he hbi => ?_⟩⟩
      have h1 := hlt j (ops[j]'(by omega)) (by simp [show j < ops.size by omega]) e he hbi
      have h2 := hmin e.on h1
      have hes : e.on < listed.size := by omega
      have h3 : ¬ listed.getD e.on true = false := fun h => h2 ⟨by omega, h⟩
      simp [Array.getD_eq_getD_getElem?, hes] at h3 ⊢
      exact h3
  have hmin : ∀ (listed : Array Bool), listed.size = m → (∀ j, j < m → listed.getD j true = true) → m ∈ Region.ready .any ops (listed.push false) := fun listed hl hL => mem_ready.2 ⟨hgetm listed true hl, om, hm, fun e he hb => by
    have h1 := hlt m om hm e he hb
    rw [hget listed _ false hl h1]
    have := hL e.on h1
    have hes : e.on < listed.size := by omega
    simp [Array.getD_eq_getD_getElem?, hes] at this ⊢
    exact this⟩
  have hlast : ∀ (listed : Array Bool), listed.size = m → (∀ j oj, ops[j]? = some oj → (listed.push false).getD j false = true → ∀ e ∈ oj.after, Region.binds .any e = true → (listed.push false).getD e.on false = true) → m ∈ Region.ready .any ops (listed.push false) → ∀ j, j < m → listed.getD j true = true := fun listed hl hdn hr j hj => by
    obtain ⟨_, o, ho, h⟩ := mem_ready.1 hr
    have := behindL hlt hdn m m o (Nat.le_refl _) ho h j (hall j hj)
    rw [hget listed j false hl hj] at this
    have hjs : j < listed.size := by omega
    simp [Array.getD_eq_getD_getElem?, hjs] at this ⊢
    exact this
  -- the last one
  have hend : ∀ (fuel : Nat) (listed : Array Bool) (a : Act) (w : World), listed.size = m → (∀ j, j < m → listed.getD j true = true) → Q1 .normal a w → wpOpIn F n P ops Q m (wpAnyIn F n P .any ops Q fuel ((listed.push false).setIfInBounds m true)) a w := fun fuel listed a w hl hL h => by
    have h1 := hQ1 a w h
    rw [wpOpsIn_cons] at h1
    refine wpOpIn_mono (fun a w h => ?_) h1
    have hnil : Region.ready .any ops ((listed.push false).setIfInBounds m true) = [] := by
      apply List.eq_nil_iff_forall_not_mem.2
      intro j hj
      obtain ⟨h1, o, ho, _⟩ := mem_ready.1 hj
      have hjs := (Array.getElem?_eq_some_iff.1 ho).1
      by_cases hjm : j = m
      · subst hjm
        simp [Array.getD_eq_getD_getElem?, hl] at h1
      · have h2 := hL j (by omega)
        have hjl : j < listed.size := by omega
        simp [Array.getD_eq_getD_getElem?, Array.getElem?_setIfInBounds, Array.getElem?_push, Ne.symm hjm, Nat.ne_of_lt hjl, hjl] at h1 h2
        rw [h1] at h2; cases h2
    cases fuel with
    | zero => exact ⟨hnil, h⟩
    | succ fuel => exact ⟨fun _ => h, fun i hi => by rw [hnil] at hi; cases hi⟩
  intro fuel
  induction fuel with
  | zero =>
    intro listed a w hl hdn h
    have hL : ∀ j, j < m → listed.getD j true = true := by
      rcases hsome listed hl with h2 | ⟨i, _, hi⟩
      · exact h2
      · rw [h.1] at hi; cases hi
    refine ⟨fun hr => ?_, fun i hi => ?_⟩
    · have := hmin listed hl hL; rw [hr] at this; cases this
    · have hi2 := hi
      obtain ⟨h1, o, ho, _⟩ := mem_ready.1 hi
      have his := (Array.getElem?_eq_some_iff.1 ho).1
      by_cases him : i = m
      · subst him; exact hend 0 listed a w hl hL h.2
      · have := (hrdy listed i hl (by omega)).1 hi2
        rw [h.1] at this; cases this
  | succ fuel ih =>
    intro listed a w hl hdn h
    refine ⟨fun hr => ?_, fun i hi => ?_⟩
    · rcases hsome listed hl with h2 | ⟨i, him, hi⟩
      · have := hmin listed hl h2; rw [hr] at this; cases this
      · have := (hrdy listed i hl him).2 hi; rw [hr] at this; cases this
    · have hi2 := hi
      obtain ⟨h1, o, ho, hafter⟩ := mem_ready.1 hi
      have his := (Array.getElem?_eq_some_iff.1 ho).1
      by_cases him : i = m
      · subst him
        have hL := hlast listed hl hdn hi2
        refine hend (fuel + 1) listed a w hl hL (h.1 ?_)
        apply List.eq_nil_iff_forall_not_mem.2
        intro j hj
        obtain ⟨h3, o3, ho3, _⟩ := mem_ready.1 hj
        by_cases hji : j < i
        · rw [hL j hji] at h3; cases h3
        · rw [hpopn j hji] at ho3; cases ho3
      · have hilt : i < m := by omega
        have h2 := h.2 i ((hrdy listed i hl hilt).1 hi2)
        have e : (listed.push false).setIfInBounds i true = (listed.setIfInBounds i true).push false := by
          apply Array.ext_getElem?
          intro k
          simp only [Array.getElem?_setIfInBounds, Array.getElem?_push, Array.size_push, Array.size_setIfInBounds]
          by_cases hk : i = k
          · subst hk; simp [hl, hilt, Nat.ne_of_lt hilt, Nat.lt_succ_of_lt hilt]
          · simp [hk]
        rw [e]
        unfold wpOpIn at h2 ⊢
        rw [hpop i hilt, ho] at h2
        rw [ho]
        dsimp only at h2 ⊢
        rw [wanted_free (hgu i o ho), if_pos rfl] at h2 ⊢
        have hK : ∀ a w, wpAnyIn F n P .any ops.pop Q1 fuel (listed.setIfInBounds i true) a w → wpAnyIn F n P .any ops Q (fuel + 1) ((listed.setIfInBounds i true).push false) a w := fun a w h => by
          refine ih _ a w (by simpa using hl) (fun j oj hoj hlj e' he' hb => ?_) h
          rw [← e] at hlj ⊢
          by_cases hji : j = i
          · subst hji
            rw [hoj] at ho
            obtain rfl := Option.some.inj ho
            exact getD_set_true (hafter e' he' hb)
          · rw [getD_set_ne false (Ne.symm hji)] at hlj
            exact getD_set_true (hdn j oj hoj hlj e' he' hb)
        refine ⟨h2.1, ?_⟩
        have h3 := h2.2
        revert h3
        generalize (o.semAt F.round a.eval).run P w = r
        have hlet : LetsOut Q1 → LetsOut Q := fun ⟨a, w, h⟩ => ⟨a, w, hQe _ _ _ (by simp) h⟩
        intro h3
        cases r with
        | ok x w' =>
          cases x <;> simp only [Oper.uponIn] at h3 ⊢ <;>
            first
              | exact hK _ _ h3
              | exact ⟨h3.1, CallsIn.mono h3.2 (fun e w'' he => by cases e <;> first | exact hK _ _ he | exact hQe _ _ _ (by simp) he | exact hlet he)⟩
              | exact ⟨h3.1, RowsIn.mono h3.2 (fun _ _ he => hK _ _ he)⟩
              | exact ⟨h3.1, RoundIn.mono h3.2 (fun e w'' he => by cases e <;> first | exact hK _ _ he | exact hQe _ _ _ (by simp) he | exact hlet he)⟩
              | exact h3
        | halt x w' => cases x <;> simp only [Oper.uponIn] at h3 ⊢ <;> first | exact hQe _ _ _ (by simp) h3 | exact h3

/-- A REGION THAT DRAWS ITS ORDER, some of it in whatever order, then its last operation. -/
theorem AW_regionPL (hg : Good P T) (hm : P.follows .mixedOrders = true) (fp : List (Nat × Nat)) (cn : List Nat) (cl : List (Nat × AV)) (pre S post : List Nat) {id : Nat} (hokL : okLast ops = true) (hok : okDrawP fp cn pre S post ops.pop = true) {om : Oper} (hom : ops[ops.size - 1]? = some om) {Q : Exit → St → Prop} {σ : St}
    (h : sxp P T Mv G N ops.pop fp cn cl (fun τ => ∀ π, π.Perm S → sxp P T Mv G N ops.pop fp cn cl (sxp P T Mv G N ops.pop fp cn cl (fun σ' => sxf P T Mv X G N ops (fun σ2 => Q .normal σ2) [om] σ') post) π τ) pre σ) : AW P Mv X G N (.region id ops true) Q σ := fun w μ a hi => by
  unfold okLast at hokL
  simp only [Bool.and_eq_true] at hokL
  obtain ⟨⟨k1, k2⟩, k3⟩ := hokL
  have k2 : 0 < ops.size := of_decide_eq_true k2
  have hat : ∀ j oj, ops[j]? = some oj → oj.guard = none ∧ ∀ e ∈ oj.after, Region.binds .any e = true → e.on < j := fun j oj hoj => by
    have := List.all_eq_true.1 k1 j (List.mem_range.2 (Array.getElem?_eq_some_iff.1 hoj).1)
    simp only [hoj, Bool.and_eq_true] at this
    refine ⟨by simpa using this.1, fun e he hb => ?_⟩
    have := Array.all_eq_true_iff_forall_mem.1 this.2 e he
    simpa [hb] using this
  unfold okDrawP at hok
  simp only [Bool.and_eq_true] at hok
  obtain ⟨⟨⟨⟨⟨h5, h1⟩, h2⟩, h3⟩, h4⟩, h6⟩ := hok
  have hpop : ∀ j oj, ops.pop[j]? = some oj → ops[j]? = some oj := fun j oj h => by
    rw [Array.getElem?_pop] at h
    split at h
    · exact h
    · cases h
  have hnd : (pre ++ S ++ post).Nodup := of_decide_eq_true h4
  let Q1 : Exit → St → Prop := fun e σ' => match e with
    | .normal => sxf P T Mv X G N ops (fun σ2 => Q .normal σ2) [om] σ'
    | _ => False
  have hrun : ∀ π, π.Perm S → ∃ σn, Q1 .normal σn ∧ runP P T Mv G N ops.pop fp cn cl (pre ++ π ++ post) σ σn := fun π hπ =>
    sxp_run _ _ (sxp_append _ _ _ (sxp_append _ _ _ (sxp_mono (fun τ hτ => hτ π hπ) _ _ h)))
  refine wpIn_region_any hm ?_
  obtain ⟨hin, hev⟩ := hi.grew (Mv := Mv) (Grew.drew w)
  have hnd2 := hnd
  rw [List.append_assoc, List.nodup_append] at hnd2
  obtain ⟨_, n2, n3⟩ := hnd2
  rw [List.nodup_append] at n2
  have hI := anyP_ok (Mv := Mv) (X := X) (G := G) (N := N) (fp := fp) (cn := cn) (cl := cl) (ops := ops.pop) hg S (fun j oj hoj => (hat j oj (hpop j oj hoj)).2) (Q := Q1) ops.pop.size pre S post (Array.replicate ops.pop.size false) w.drew μ a σ (by simpa using h1) hnd (fun j => ?_) (by simp) (pairsP_of h6) (fun j hj hjS => n3 j hj j (by simp [hjS]) rfl) (fun j hj hjS => n2.2.2 j hjS j hj rfl) (fun _ hj => hj) ?_ hrun hin hev
  · have hm2 : ops.size = ops.pop.size + 1 := by simp; omega
    have hrep : Array.replicate ops.size false = (Array.replicate ops.pop.size false).push false := by
      rw [hm2]; exact Array.replicate_succ
    have hps : ops.pop.size = ops.size - 1 := by simp
    have := any_last (F := wd N.ro) (n := 0) (P := P) (ops := ops) (m := ops.pop.size) (om := om) (by rw [hps]; exact hom) hm2 (fun j oj hoj => (hat j oj hoj).1) (fun j oj hoj => (hat j oj hoj).2) (fun q hq => by rw [hps] at hq ⊢; exact List.all_eq_true.1 k3 q (List.mem_range.2 hq))
      (Q := After Mv X G N w μ Q) (Q1 := After Mv X G N w μ Q1) (fun a w2 ⟨μ2, σ2, q2, i2, ev2⟩ => by
        have := sxf_ok hg (ops := ops) (Q := Q) [om] ops.pop.size w2 μ2 a σ2 (fun j => ?_) q2 i2 ev2
        · simpa [List.range'] using this
        · cases j with
          | zero => rw [Nat.add_zero, hps]; exact hom.symm
          | succ j => rw [Array.getElem?_eq_none (by omega)]; simp) (fun e a w2 hne ⟨μ2, σ2, q2, _⟩ => by
        cases e <;> first | exact absurd rfl hne | exact q2.elim) ops.pop.size (Array.replicate ops.pop.size false) a w.drew (by simp) (fun j oj hoj hlj => by
        exfalso
        rw [← hrep] at hlj
        have hj := (Array.getElem?_eq_some_iff.1 hoj).1
        simp [Array.getD_eq_getD_getElem?, hj] at hlj) hI
    rw [← hrep, ← hm2] at this
    exact this
  · constructor
    · intro hj
      have := List.all_eq_true.1 h2 j hj
      have hj' : j < ops.pop.size := of_decide_eq_true this
      have hj2 : j < ops.size - 1 := by simpa using hj'
      simp [Array.getD_eq_getD_getElem?, hj2]
    · intro hj
      have := List.all_eq_true.1 h3 j (List.mem_range.2 hj.1)
      simpa using this
  · intro j oj hoj hlj
    have hj := (Array.getElem?_eq_some_iff.1 hoj).1
    have hj2 : j < ops.size - 1 := by simpa using hj
    simp [Array.getD_eq_getD_getElem?, hj2] at hlj
theorem AW_rpl (hg : Good P T) (hm : P.follows .mixedOrders = true) (fp : List (Nat × Nat)) (cn : List Nat) (cl : List (Nat × AV)) (pre S post : List Nat) (hokL : okLast ops = true) (hok : okDrawP fp cn pre S post ops.pop = true) {om : Oper} (hom : ops[ops.size - 1]? = some om) {id : Nat} {Q : Exit → St → Prop} {σ : St}
    (h : ∀ K : St → Prop, (∀ τ : St, Q .normal τ → K τ) → sxp P T Mv G N ops.pop fp cn cl (fun τ => ∀ π, π.Perm S → sxp P T Mv G N ops.pop fp cn cl (sxp P T Mv G N ops.pop fp cn cl (fun σ' => sxf P T Mv X G N ops K [om] σ') post) π τ) pre σ) : AW P Mv X G N (.region id ops true) Q σ :=
  AW_regionPL hg hm fp cn cl pre S post hokL hok hom (h _ fun _ h => h)
end
end Go.Av

/-
  Plain: tables of routes; the checks and the clash of both sides.
-/
namespace Go.Proofs.YtnlhioeefmhklaaDoor
set_option linter.unusedSimpArgs false
set_option linter.unusedVariables false

/-- A route: its sections, its points (number, over). -/
abbrev Rt := List Int × List (Int × Bool)
def clashF (a b : Rt) : Bool := (a.1.any fun s => b.1.contains s) || a.2.any fun p => b.2.contains (p.1, !p.2)
theorem clashF_iff (a b : Rt) : clashF a b = true ↔ (∃ s, s ∈ a.1 ∧ s ∈ b.1) ∨ ∃ p ∈ a.2, (p.1, !p.2) ∈ b.2 := by
  unfold clashF
  rw [Bool.or_eq_true, List.any_eq_true, List.any_eq_true]
  simp only [List.contains_iff_mem]
/-! ### The document's points: a number from 1 on, less than nought where it lies back -/
def convP (p : Int × Bool) : Int := if p.2 then (if p.1 < 0 ∨ 1000 < p.1 then 1000 else p.1) + 1 else -((if p.1 < 0 ∨ 1000 < p.1 then 1000 else p.1) + 1)
def absI (n : Int) : Int := if -n > n then -n else n
theorem absI_conv (p : Int × Bool) : absI (convP p) = (if p.1 < 0 ∨ 1000 < p.1 then 1000 else p.1) + 1 := by
  obtain ⟨n, o⟩ := p
  unfold absI convP
  cases o <;> simp only [if_true, if_false, Bool.false_eq_true] <;> (repeat' split) <;> omega
theorem conv_range {P : Int} (hP : P ≤ 2) (p : Int × Bool) : (1 ≤ absI (convP p) ∧ absI (convP p) ≤ P) ↔ (0 ≤ p.1 ∧ p.1 < P) := by
  rw [absI_conv]
  split <;> omega
theorem conv_same {P : Int} (hP : P ≤ 2) {p q : Int × Bool} (hp : 0 ≤ p.1 ∧ p.1 < P) (hq : 0 ≤ q.1 ∧ q.1 < P) : absI (convP p) = absI (convP q) ↔ p.1 = q.1 := by
  rw [absI_conv, absI_conv, if_neg (by omega), if_neg (by omega)]
  omega
theorem conv_neg {P : Int} (hP : P ≤ 2) {p q : Int × Bool} (hp : 0 ≤ p.1 ∧ p.1 < P) (hq : 0 ≤ q.1 ∧ q.1 < P) : convP p = -convP q ↔ q = (p.1, !p.2) := by
  obtain ⟨n, o⟩ := p
  obtain ⟨m, u⟩ := q
  dsimp only at hp hq
  have e1 : ¬ (n < 0 ∨ 1000 < n) := by omega
  have e2 : ¬ (m < 0 ∨ 1000 < m) := by omega
  unfold convP
  dsimp only
  rw [if_neg e1, if_neg e2]
  cases o <;> cases u <;> simp <;> omega
theorem convP_nn {P : Int} (hP : P ≤ 2) {p : Int × Bool} (hp : 0 ≤ p.1 ∧ p.1 < P) : decide (convP p < 0) = !p.2 := by
  obtain ⟨n, o⟩ := p
  dsimp only at hp
  have e1 : ¬ (n < 0 ∨ 1000 < n) := by omega
  unfold convP
  dsimp only
  rw [if_neg e1]
  cases o <;> simp <;> omega

/-! ### The checks -/
/-- Does a list hold one like an earlier one? -/
def twiceL {α : Type} (same : α → α → Bool) : List α → List α → Bool
  | _, [] => false
  | seen, x :: l => seen.any (same x) || twiceL same (seen ++ [x]) l
def twiceF (r : Rt) : Bool := twiceL (fun a b => a == b) [] r.1 || twiceL (fun a b => a.1 == b.1) [] r.2
/-- What is wrong of a route: 0, or the error's number (none, range, twice, as given). -/
def badR (eN eR eT : Int) (S P : Int) (r : Rt) : Int :=
  if r.1 = [] then eN else if (r.1.any fun s => decide (s < 0) || decide (s ≥ S)) || (r.2.any fun p => decide (p.1 < 0) || decide (p.1 ≥ P)) then eR else if twiceF r then eT else 0
/-- The document's way. -/
def badW (eN eR eT : Int) (S P : Int) (r : List Int × List Int) : Int :=
  if r.1 = [] then eN else if r.1.any fun s => !(decide (0 ≤ s) && decide (s ≤ S - 1)) then eR else if r.2.any fun p => !(decide (1 ≤ absI p) && decide (absI p ≤ P)) then eR
    else if twiceL (fun a b => a == b) [] r.1 then eT else if twiceL (fun a b => absI a == absI b) [] r.2 then eT else 0
theorem twiceL_congr {α β : Type} {f : α → α → Bool} {g : β → β → Bool} {c : α → β} {Q : α → Prop} (h : ∀ a b, Q a → Q b → g (c a) (c b) = f a b) : ∀ (seen l : List α), (∀ a ∈ seen, Q a) → (∀ a ∈ l, Q a) →
    twiceL g (seen.map c) (l.map c) = twiceL f seen l
  | _, [], _, _ => rfl
  | seen, x :: l, hs, hl => by
    have hx := hl x (by simp)
    rw [List.map_cons, twiceL, twiceL]
    have e1 : (seen.map c).any (g (c x)) = seen.any (f x) := by
      rw [List.any_map]
      refine Bool.eq_iff_iff.2 ?_
      rw [List.any_eq_true, List.any_eq_true]
      constructor
      · rintro ⟨a, ha, hh⟩; exact ⟨a, ha, by rw [← h x a hx (hs a ha)]; exact hh⟩
      · rintro ⟨a, ha, hh⟩; exact ⟨a, ha, by show g (c x) (c a) = true; rw [h x a hx (hs a ha)]; exact hh⟩
    have e2 : seen.map c ++ [c x] = (seen ++ [x]).map c := by simp
    rw [e1, e2, twiceL_congr h (seen ++ [x]) l (fun a ha => by
      rcases List.mem_append.1 ha with h | h
      · exact hs a h
      · rw [List.mem_singleton.1 h]; exact hx) (fun a ha => hl a (by simp [ha]))]
/-- Both checks of a route say the same. -/
theorem bad_same (eN eR eT S P : Int) (hP : P ≤ 2) (r : Rt) : badW eN eR eT S P (r.1, r.2.map convP) = badR eN eR eT S P r := by
  obtain ⟨ss, ps⟩ := r
  unfold badW badR twiceF
  dsimp only
  by_cases h0 : ss = []
  · rw [if_pos h0, if_pos h0]
  rw [if_neg h0, if_neg h0]
  have es : (ss.any fun s => !(decide (0 ≤ s) && decide (s ≤ S - 1))) = ss.any fun s => decide (s < 0) || decide (s ≥ S) := by
    congr 1
    funext s
    by_cases h1 : 0 ≤ s <;> by_cases h2 : s ≤ S - 1 <;> simp [h1, h2] <;> omega
  have ep : ((ps.map convP).any fun p => !(decide (1 ≤ absI p) && decide (absI p ≤ P))) = ps.any fun p => decide (p.1 < 0) || decide (p.1 ≥ P) := by
    rw [List.any_map]
    congr 1
    funext p
    have h := conv_range hP p
    simp only [Function.comp]
    by_cases h1 : 0 ≤ p.1 ∧ p.1 < P
    · obtain ⟨h2, h3⟩ := h.2 h1
      simp [h2, h3]
      omega
    · have h2 := mt h.1 h1
      have e1 : (decide (1 ≤ absI (convP p)) && decide (absI (convP p) ≤ P)) = false := by
        rw [← Bool.decide_and]; simpa using h2
      rw [e1]
      simp
      omega
  rw [es, ep]
  cases hs : (ss.any fun s => decide (s < 0) || decide (s ≥ S)) with
  | true => simp
  | false =>
    cases hp : (ps.any fun p => decide (p.1 < 0) || decide (p.1 ≥ P)) with
    | true => simp
    | false =>
      have hin : ∀ p ∈ ps, 0 ≤ p.1 ∧ p.1 < P := fun p hm => by
        have := List.any_eq_false.1 hp p hm
        simp at this
        omega
      have e := twiceL_congr (f := fun a b : Int × Bool => a.1 == b.1) (g := fun a b : Int => absI a == absI b) (c := convP) (Q := fun p => 0 ≤ p.1 ∧ p.1 < P) (fun a b ha hb => by
        have := conv_same hP ha hb
        by_cases h : a.1 = b.1
        · simp [h, this.2 h]
        · simp [h, mt this.1 h]) [] ps (by simp) hin
      rw [List.map_nil] at e
      rw [e]
      cases twiceL (fun a b => a == b) [] ss <;> simp
/-- The clash of both sides, in range. -/
def clashW (a b : List Int × List Int) : Bool := (a.1.any fun s => b.1.any fun u => s == u) || a.2.any fun p => b.2.any fun q => p == -q
theorem clash_same {P : Int} (hP : P ≤ 2) {a b : Rt} (ha : ∀ p ∈ a.2, 0 ≤ p.1 ∧ p.1 < P) (hb : ∀ p ∈ b.2, 0 ≤ p.1 ∧ p.1 < P) : clashW (a.1, a.2.map convP) (b.1, b.2.map convP) = clashF a b := by
  refine Bool.eq_iff_iff.2 ?_
  rw [clashF_iff]
  unfold clashW
  rw [Bool.or_eq_true, List.any_eq_true, List.any_eq_true]
  refine or_congr ?_ ?_
  · constructor
    · rintro ⟨s, h1, h2⟩
      obtain ⟨u, h3, h4⟩ := List.any_eq_true.1 h2
      have : s = u := by simpa using h4
      subst this
      exact ⟨s, h1, h3⟩
    · rintro ⟨s, h1, h2⟩; exact ⟨s, h1, List.any_eq_true.2 ⟨s, h2, by simp⟩⟩
  · constructor
    · rintro ⟨p, h1, h2⟩
      obtain ⟨p', k1, rfl⟩ := List.mem_map.1 h1
      obtain ⟨q, h3, h4⟩ := List.any_eq_true.1 h2
      obtain ⟨q', k3, rfl⟩ := List.mem_map.1 h3
      have := (conv_neg hP (ha p' k1) (hb q' k3)).1 (by simpa using h4)
      exact ⟨p', k1, this ▸ k3⟩
    · rintro ⟨p, h1, h2⟩
      exact ⟨convP p, List.mem_map.2 ⟨p, h1, rfl⟩, List.any_eq_true.2 ⟨convP (p.1, !p.2), List.mem_map.2 ⟨_, h2, rfl⟩, by simpa using (conv_neg hP (ha p h1) (hb _ h2)).2 rfl⟩⟩
end Go.Proofs.YtnlhioeefmhklaaDoor
