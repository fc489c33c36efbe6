/-
  Texts that belong together, in one file: Av33.
-/
import Derived.Test.YthnjfeielmbfkaaGreatDoorRv21
import Derived.RangeFuncSeq
set_option linter.unusedSectionVars false
set_option linter.unusedSimpArgs false
set_option linter.unusedVariables false
namespace Go.Av
def mark (d : Nat) : Deferred := { target := .collected d, args := #[] }
structure Marks (s : Nat) (w : World) (ds : List Nat) : Prop where
 nodup : ds.Nodup
 new : ∀ d ∈ ds, s ≤ d
 opn : ∀ d ∈ ds, w.heap[d]? = some (.deferred (some []))
def XD (X : Nat → Prop) (ds : List Nat) (b : Nat) : Prop := X b ∨ b ∈ ds
structure EvL (l : Nat) (Mv : Nat → Prop) (w : World) (μ : Mu) (w' : World) (μ' : Mu) : Prop where
 size : w.heap.size ≤ w'.heap.size
 os : w'.os = w.os
 tape : w'.tape = w.tape
 output : w'.output = w.output
 same : ∀ b, b < w.heap.size → b ≠ l → ¬ ran μ b → w'.heap[b]? = w.heap[b]? ∧ ¬ ran μ' b
 kept : ∀ r m, μ r = some m → ¬ Mv r → μ' r = some m
theorem EvL.trans {l : Nat} {Mv : Nat → Prop} {w w1 w2 : World} {μ μ1 μ2 : Mu} (h : EvL l Mv w μ w1 μ1) (h' : EvL l Mv w1 μ1 w2 μ2) : EvL l Mv w μ w2 μ2 :=
 ⟨Nat.le_trans h.size h'.size, h'.os.trans h.os, h'.tape.trans h.tape, h'.output.trans h.output, fun b hb hl hr =>
  have h1 := h.same b hb hl hr
  have h2 := h'.same b (Nat.lt_of_lt_of_le hb h.size) hl h1.2
  ⟨h2.1.trans h1.1, h2.2⟩, fun r m hm hn => h'.kept r m (h.kept r m hm hn) hn⟩
theorem EvL.put (Mv : Nat → Prop) (w : World) (μ : Mu) (l : Nat) (o : Obj) : EvL l Mv w μ (w.putObj l o) μ :=
 ⟨by simp, rfl, rfl, rfl, fun b _ hl hr => ⟨World.putObj_heap_other hl, hr⟩, fun _ _ h _ => h⟩
theorem EvL.ev {l : Nat} {Mv : Nat → Prop} {w w' : World} {μ μ' : Mu} (h : EvL l Mv w μ w' μ') (hl : w.heap.size ≤ l) : Ev Mv w μ w' μ' :=
 ⟨h.size, h.os, h.tape, h.output, fun b hb hr => h.same b hb (by omega) hr, h.kept⟩
section
variable {P : Program} {T : Ty} {Mv X : Nat → Prop} {G : Glob} {N : Fr} {w w' : World} {μ : Mu} {a : Act} {σ : St}
theorem Marks.ev {s : Nat} {ds : List Nat} {H : Heap} {μ' : Mu} (hm : Marks s w ds) (hs : Sim w (XD X ds) μ H) (ev : Ev Mv w μ w' μ') : Marks s w' ds :=
 ⟨hm.nodup, hm.new, fun d hd => (ev.same d (Array.getElem?_eq_some_iff.1 (hm.opn d hd)).1 fun ⟨r, m, hr, hb⟩ => hs.frame r m d hr hb (.inr hd)).1.trans (hm.opn d hd)⟩
def After0 (Mv X : Nat → Prop) (G : Glob) (n s : Nat) (w : World) (μ : Mu) (Q : Exit → St → Prop) (e : Exit) (a' : Act) (w' : World) : Prop :=
 ∃ ds μ' σ', Q e σ' ∧ Marks s w' ds ∧ In w' (XD X ds) G μ' ⟨n, ds.map mark, none⟩ a' σ' ∧ Ev Mv w μ w' μ'
def AW0 (P : Program) (Mv X : Nat → Prop) (G : Glob) (n s : Nat) (c : Code) (Q : Exit → St → Prop) (σ : St) : Prop :=
 ∀ ds w μ a, s ≤ w.heap.size → Marks s w ds → In w (XD X ds) G μ ⟨n, ds.map mark, none⟩ a σ → c.wpIn (wd none) 0 P (After0 Mv X G n s w μ Q) a w
theorem AW0.mono {n s : Nat} {c : Code} {Q Q' : Exit → St → Prop} (h : AW0 P Mv X G n s c Q σ) (hq : ∀ e σ, Q e σ → Q' e σ) : AW0 P Mv X G n s c Q' σ := fun ds w μ a hs hm hi =>
 wpIn_mono (h ds w μ a hs hm hi) fun _ _ _ ⟨ds', μ', σ', q, r⟩ => ⟨ds', μ', σ', hq _ _ q, r⟩
theorem AW0.imp {n s : Nat} {c : Code} {Q : Exit → St → Prop} {τ : St} (hi : ∀ X' ds, Imp Mv X' G ⟨n, ds, none⟩ σ τ) (h : AW0 P Mv X G n s c Q τ) : AW0 P Mv X G n s c Q σ := fun ds w μ a hs hm hin => by
 obtain ⟨μ1, h1, e1⟩ := hi (XD X ds) _ w μ a hin
 exact wpIn_mono (h ds w μ1 a hs hm h1) fun e a' w' ⟨ds', μ', σ', q, m, i, ev⟩ => ⟨ds', μ', σ', q, m, i, e1.trans ev⟩
structure Kept (B : Nat → Prop) (w w' : World) : Prop where
 size : w.heap.size ≤ w'.heap.size
 same : ∀ b, B b → w'.heap[b]? = w.heap[b]?
def notL (it : List Nat) (q : Nat) : Bool := !it.contains q
def notO (it : List Nat) (q off n : Nat) : AV := if it.contains q then .dead else .own q off n
def notF (it : List Nat) (q e j : Nat) : AV := if it.contains q then .dead else .ref q e j
theorem In.rest {e0 : Env} {H0 : Heap} (it : List Nat) (hi : In w X G μ N a ⟨e0, H0⟩) : In w (XX X (mfilt it.contains μ)) G (mfilt (notL it) μ) N a ⟨fun i => (e0 i).map (AV.tr (notO it) (notF it)), trH (notL it) (notO it) (notF it) H0⟩ := by
 have hXX : ∀ b, XX (XX X (mfilt it.contains μ)) (mfilt (notL it) μ) b → XX X μ b := fun b hb => hb.elim (fun hb => hb.elim .inl fun h => .inr (ran_mfilt h)) fun h => .inr (ran_mfilt h)
 have hD : ∀ u d, RD w (XX X μ) u d → RD w (XX (XX X (mfilt it.contains μ)) (mfilt (notL it) μ)) u d := fun u d h => h.sub hXX
 have hm : ∀ q m, it.contains q = false → μ q = some m → mfilt (notL it) μ q = some m := fun q m hk h => by simp only [mfilt, notL, hk, Bool.not_false, if_true]; exact h
 have hV : ∀ u x, RV w X μ u x → RV w (XX X (mfilt it.contains μ)) (mfilt (notL it) μ) u (x.tr (notO it) (notF it)) := fun u x => RV.tr3 hD (fun u r off n h => by
   unfold notO
   split
   ·exact .dead u
   ·rename_i hk
    obtain ⟨m, h1, h2⟩ := h.own_inv
    exact .own (hm r m (by simpa using hk) h1) h2) (fun u r e j h => by
   unfold notF
   split
   ·exact .dead u
   ·rename_i hk
    obtain ⟨m, b, h1, h2, rfl⟩ := h.ref_inv
    exact .ref (hm r m (by simpa using hk) h1) h2)
 refine ⟨⟨fun r row hr => ?_, fun r m hr => ?_, fun q q' m1 m2 b h1 h2 hb1 hb2 => hi.sim.inj q q' m1 m2 b (mfilt_some h1).2 (mfilt_some h2).2 hb1 hb2, fun q m b hq hb hX => ?_, fun b hb => hb.elim (hi.sim.fits b) fun h => hi.sim.blk_lt (ran_mfilt h)⟩, ⟨hi.env.defers, hi.env.size, fun i x hx => ?_⟩, fun g x hx => hD _ _ (hi.glob g x hx)⟩
 ·dsimp only [trH] at hr
  split at hr
  ·rename_i hk
   obtain ⟨row0, h0, rfl⟩ := Option.map_eq_some_iff.1 hr
   obtain ⟨m, h1, ok⟩ := hi.sim.rows r row0 h0
   exact ⟨m, hm r m (by simpa [notL] using hk) h1, ok.tr3 (fun _ _ => rfl) hD hV⟩
  ·cases hr
 ·obtain ⟨hk, h1⟩ := mfilt_some hr
  obtain ⟨row, h0⟩ := hi.sim.dom r m h1
  exact ⟨row.tr (notO it) (notF it), by dsimp only [trH]; rw [if_pos hk]; dsimp only at h0; rw [h0]; rfl⟩
 ·obtain ⟨hk, h1⟩ := mfilt_some hq
  rcases hX with h | ⟨q', m', hq', hb'⟩
  ·exact hi.sim.frame q m b h1 hb h
  ·obtain ⟨hk', h1'⟩ := mfilt_some hq'
   obtain rfl := hi.sim.inj q q' m m' b h1 h1' hb hb'
   simp only [notL, hk', Bool.not_true, Bool.false_eq_true] at hk
 ·obtain ⟨y, hy, rfl⟩ := Option.map_eq_some_iff.1 hx
  obtain ⟨u, hu, hr⟩ := hi.env.slot i y hy
  exact ⟨u, hu, hV u y hr⟩
end
end Go.Av
