/-
  Texts that belong together, in one file: Av33, RT3, IT, RT7, SB, SB2, SB3, SB4, RT8, LT0, LE1, JR0.
-/
import Derived.Test.YthnjfeielmbfkaaGreatDoorLp37
import Derived.RangeFuncSeq
import Derived.Shelf.Strconv.Itoa3
import Derived.Shelf.Strings.OnBuilder
set_option linter.unusedSectionVars false
set_option linter.unusedSimpArgs false
set_option linter.unusedVariables false
namespace Go.Av
def mark (d : Nat) : Deferred := { target := .collected d, args := #[] }
structure Marks (s : Nat) (w : World) (ds : List Nat) : Prop where
 nodup : ds.Nodup
 new : ∀ d ∈ ds, s ≤ d
 opn : ∀ d ∈ ds, w.heap[d]? = some (.deferred (some []))
def XD (X : Nat → Prop) (ds : List Nat) (b : Nat) : Prop := X b ∨ b ∈ ds
structure EvL (l : Nat) (Mv : Nat → Prop) (w : World) (μ : Mu) (w' : World) (μ' : Mu) : Prop where
 size : w.heap.size ≤ w'.heap.size
 os : w'.os = w.os
 tape : w'.tape = w.tape
 output : w'.output = w.output
 same : ∀ b, b < w.heap.size → b ≠ l → ¬ ran μ b → w'.heap[b]? = w.heap[b]? ∧ ¬ ran μ' b
 kept : ∀ r m, μ r = some m → ¬ Mv r → μ' r = some m
theorem Ev.but {Mv : Nat → Prop} {w w' : World} {μ μ' : Mu} (h : Ev Mv w μ w' μ') (l : Nat) : EvL l Mv w μ w' μ' := ⟨h.size, h.os, h.tape, h.output, fun b hb _ hr => h.same b hb hr, h.kept⟩
theorem EvL.trans {l : Nat} {Mv : Nat → Prop} {w w1 w2 : World} {μ μ1 μ2 : Mu} (h : EvL l Mv w μ w1 μ1) (h' : EvL l Mv w1 μ1 w2 μ2) : EvL l Mv w μ w2 μ2 :=
 ⟨Nat.le_trans h.size h'.size, h'.os.trans h.os, h'.tape.trans h.tape, h'.output.trans h.output, fun b hb hl hr =>
  have h1 := h.same b hb hl hr
  have h2 := h'.same b (Nat.lt_of_lt_of_le hb h.size) hl h1.2
  ⟨h2.1.trans h1.1, h2.2⟩, fun r m hm hn => h'.kept r m (h.kept r m hm hn) hn⟩
theorem EvL.put (Mv : Nat → Prop) (w : World) (μ : Mu) (l : Nat) (o : Obj) : EvL l Mv w μ (w.putObj l o) μ :=
 ⟨by simp, rfl, rfl, rfl, fun b _ hl hr => ⟨World.putObj_heap_other hl, hr⟩, fun _ _ h _ => h⟩
theorem EvL.ev {l : Nat} {Mv : Nat → Prop} {w w' : World} {μ μ' : Mu} (h : EvL l Mv w μ w' μ') (hl : w.heap.size ≤ l) : Ev Mv w μ w' μ' :=
 ⟨h.size, h.os, h.tape, h.output, fun b hb hr => h.same b hb (by omega) hr, h.kept⟩
section
variable {P : Program} {T : Ty} {Mv X : Nat → Prop} {G : Glob} {N : Fr} {w w' : World} {μ : Mu} {a : Act} {σ : St}
theorem In.turn {N' : Fr} {X' : Nat → Prop} {a' : Act} (hi : In w X G μ N a σ) (hX : ∀ b, X' b → X b ∨ (w.heap.size ≤ b ∧ b < w'.heap.size)) (hsame : ∀ b, b < w.heap.size → ¬ X b → w'.heap[b]? = w.heap[b]?) (hsz : w.heap.size ≤ w'.heap.size)
  (hd : a'.defers = N'.ds) (hn : N'.n = N.n) (ht : a'.tmps = a.tmps) : In w' X' G μ N' a' σ := by
 have hD : ∀ u d, RD w (XX X μ) u d → RD w' (XX X' μ) u d := fun u d h => h.mono hsz fun b hb hb' =>
  ⟨hsame b hb fun e => hb' (.inl e), fun e => hb' (e.elim (fun e => (hX b e).elim .inl fun ⟨h, _⟩ => absurd hb (Nat.not_lt.2 h)) .inr)⟩
 refine ⟨⟨fun r row hr => ?_, hi.sim.dom, hi.sim.inj, fun r m b hr hb hx => ?_, fun b hb => ?_⟩, ⟨hd, by rw [ht, hn]; exact hi.env.size, fun i x hx => ?_⟩, fun g x hx => hD _ _ (hi.glob g x hx)⟩
 ·obtain ⟨m, hm, ok⟩ := hi.sim.rows r row hr
  exact ⟨m, hm, ok.lift (fun b hb => hsame b (ok.blk_lt hb) (hi.sim.frame r m b hm hb)) hD fun _ _ h => h⟩
 ·have hlt := hi.sim.blk_lt ⟨r, m, hr, hb⟩
  exact (hX b hx).elim (hi.sim.frame r m b hr hb) fun ⟨h, _⟩ => absurd hlt (Nat.not_lt.2 h)
 ·exact (hX b hb).elim (fun h => Nat.lt_of_lt_of_le (hi.sim.fits b h) hsz) (·.2)
 ·obtain ⟨u, hu, hr⟩ := hi.env.slot i x hx
  exact ⟨u, by rw [ht]; exact hu, hr.lift hD fun _ _ h => h⟩
theorem Marks.ev {s : Nat} {ds : List Nat} {H : Heap} {μ' : Mu} (hm : Marks s w ds) (hs : Sim w (XD X ds) μ H) (ev : Ev Mv w μ w' μ') : Marks s w' ds :=
 ⟨hm.nodup, hm.new, fun d hd => (ev.same d (Array.getElem?_eq_some_iff.1 (hm.opn d hd)).1 fun ⟨r, m, hr, hb⟩ => hs.frame r m d hr hb (.inr hd)).1.trans (hm.opn d hd)⟩
def After0 (Mv X : Nat → Prop) (G : Glob) (n s : Nat) (w : World) (μ : Mu) (Q : Exit → St → Prop) (e : Exit) (a' : Act) (w' : World) : Prop :=
 ∃ ds μ' σ', Q e σ' ∧ Marks s w' ds ∧ In w' (XD X ds) G μ' ⟨n, ds.map mark, none⟩ a' σ' ∧ Ev Mv w μ w' μ'
def AW0 (P : Program) (Mv X : Nat → Prop) (G : Glob) (n s : Nat) (c : Code) (Q : Exit → St → Prop) (σ : St) : Prop :=
 ∀ ds w μ a, s ≤ w.heap.size → Marks s w ds → In w (XD X ds) G μ ⟨n, ds.map mark, none⟩ a σ → c.wpIn (wd none) 0 P (After0 Mv X G n s w μ Q) a w
theorem AW0_of {n s : Nat} {c : Code} {Q : Exit → St → Prop} (h : ∀ X' ds, AW P Mv X' G ⟨n, ds, none⟩ c Q σ) : AW0 P Mv X G n s c Q σ := fun ds w μ a hs hm hi =>
 wpIn_mono (h (XD X ds) _ w μ a hi) fun e a' w' ⟨μ', σ', q, i, ev⟩ => ⟨ds, μ', σ', q, hm.ev hi.sim ev, i, ev⟩
theorem AW0.mono {n s : Nat} {c : Code} {Q Q' : Exit → St → Prop} (h : AW0 P Mv X G n s c Q σ) (hq : ∀ e σ, Q e σ → Q' e σ) : AW0 P Mv X G n s c Q' σ := fun ds w μ a hs hm hi =>
 wpIn_mono (h ds w μ a hs hm hi) fun _ _ _ ⟨ds', μ', σ', q, r⟩ => ⟨ds', μ', σ', hq _ _ q, r⟩
theorem AW0.imp {n s : Nat} {c : Code} {Q : Exit → St → Prop} {τ : St} (hi : ∀ X' ds, Imp Mv X' G ⟨n, ds, none⟩ σ τ) (h : AW0 P Mv X G n s c Q τ) : AW0 P Mv X G n s c Q σ := fun ds w μ a hs hm hin => by
 obtain ⟨μ1, h1, e1⟩ := hi (XD X ds) _ w μ a hin
 exact wpIn_mono (h ds w μ1 a hs hm h1) fun e a' w' ⟨ds', μ', σ', q, m, i, ev⟩ => ⟨ds', μ', σ', q, m, i, e1.trans ev⟩
theorem AW0_seq {n s : Nat} {x y : Code} {Q : Exit → St → Prop} (h : AW0 P Mv X G n s x (thn (AW0 P Mv X G n s y Q) Q) σ) : AW0 P Mv X G n s (.seq x y) Q σ := fun ds w μ a hs hm hi =>
 wpIn_seq (wpIn_mono (h ds w μ a hs hm hi) fun e a' w' ⟨ds', μ', σ', q, m, i, ev⟩ => by
  cases e with
  | normal => exact wpIn_mono (q ds' w' μ' a' (Nat.le_trans hs ev.size) m i) fun e2 a2 w2 ⟨ds2, μ2, σ2, q2, m2, i2, ev2⟩ => ⟨ds2, μ2, σ2, q2, m2, i2, ev.trans ev2⟩
  | _ => exact ⟨ds', μ', σ', q, m, i, ev⟩)
theorem AW0_block {n s id : Nat} {c : Code} {Q : Exit → St → Prop} (h : AW0 P Mv X G n s c (inb id Q) σ) : AW0 P Mv X G n s (.block id c) Q σ := fun ds w μ a hs hm hi =>
 wpIn_block (wpIn_mono (h ds w μ a hs hm hi) fun e a' w' ⟨ds', μ', σ', q, m, i, ev⟩ => by
  cases e with
  | exit id' =>
   simp only [inb] at q; simp only [Exit.inBlock]
   split
   ·rename_i he; rw [if_pos he] at q; exact ⟨ds', μ', σ', q, m, i, ev⟩
   ·rename_i he; rw [if_neg he] at q; exact ⟨ds', μ', σ', q, m, i, ev⟩
  | _ => exact ⟨ds', μ', σ', q, m, i, ev⟩)
theorem leaves_marks {fn : Func} {tmps : Array Value} {R : Ending → World → Prop} : ∀ (ds : List Nat) (w : World), ds.Nodup → (∀ d ∈ ds, w.heap[d]? = some (.deferred (some []))) →
  (∀ w', w'.heap.size = w.heap.size → w'.os = w.os → w'.tape = w.tape → w'.output = w.output → (∀ b, b ∉ ds → w'.heap[b]? = w.heap[b]?) → ∃ v, (results fn tmps).run P w' = .ok v w' ∧ R (.returned v) w') →
  LeavesInM (wd none) 0 P fn tmps R (ds.map mark) .returning w := by
 intro ds
 induction ds with
 | nil =>
  intro w _ _ h
  obtain ⟨v, hv, hR⟩ := h w rfl rfl rfl rfl fun _ _ => rfl
  show LeavesIn (wd none) 0 P fn tmps R [] .returning w
  exact ⟨v, hv, hR⟩
 | cons d ds ih =>
  intro w hn ho h
  obtain ⟨hd, hn⟩ := List.nodup_cons.1 hn
  refine ⟨by simp, .inl ⟨d, w.putObj d (.deferred none), rfl, run_takeDeferred (ho d (by simp)), ih _ hn (fun e he => ?_) fun w' h1 h2 h3 h4 h5 => ?_⟩⟩
  ·rw [World.putObj_heap_other (fun e' : e = d => hd (by rw [← e']; exact he))]; exact ho e (by simp [he])
  ·refine h w' (by simpa using h1) h2 h3 h4 fun b hb => ?_; rw [h5 b (fun e => hb (by simp [e])), World.putObj_heap_other (fun e => hb (by simp [e]))]
theorem In.shut {n : Nat} {ds : List Nat} (hi : In w (XD X ds) G μ ⟨n, ds.map mark, none⟩ a σ) (h1 : w'.heap.size = w.heap.size) (h5 : ∀ b, b ∉ ds → w'.heap[b]? = w.heap[b]?) : In w' X G μ ⟨n, [], none⟩ { a with defers := [] } σ :=
 hi.turn (fun b hb => .inl (.inl hb)) (fun b _ hb => h5 b fun e => hb (.inr e)) (by omega) rfl rfl rfl
theorem Ev.shut {s : Nat} {w0 : World} {μ0 : Mu} {ds : List Nat} (h : Ev Mv w0 μ0 w μ) (hm : Marks s w ds) (hs : w0.heap.size ≤ s) (h1 : w'.heap.size = w.heap.size) (h2 : w'.os = w.os) (h3 : w'.tape = w.tape) (h4 : w'.output = w.output) (h5 : ∀ b, b ∉ ds → w'.heap[b]? = w.heap[b]?) : Ev Mv w0 μ0 w' μ :=
 ⟨by have := h.size; omega, h2.trans h.os, h3.trans h.tape, h4.trans h.output, fun b hb hr => by
  have h6 := h.same b hb hr
  exact ⟨(h5 b fun e => by have := hm.new b e; omega).trans h6.1, h6.2⟩, h.kept⟩
theorem PureC.of_body0 (hg : Good P T) {g : FuncId} {fn : Func} {c : Code} {rs : List ResultVar} {ds : List D} {y : D} (hf : P.funcs[g]? = some fn) (hb : fn.body = some c) (hn : (fn.name == "runtime.NumGoroutine") = false) (hrs : fn.results = rs.toArray)
  (hN : ds.length ≤ fn.ntmps) (h : ∀ X s, AW0 P (fun _ => True) X G fn.ntmps s c (atEndD T rs y) ⟨args (ds.map .d), hno⟩) : PureC P G g ds y := by
 refine ⟨Fun.of hf hb hn, fun X w μ vs hs hgl hsz hv => ?_⟩
 refine (callsIn_wide (n := 0)).1 (callsIn_of_wp_marks hf hb trivial (wpIn_mono (h X w.heap.size [] w μ _ (Nat.le_refl _) ⟨List.nodup_nil, by simp, by simp⟩
  (In.turn (X := X) (N := ⟨fn.ntmps, [], none⟩) (a := { tmps := vs ++ Array.replicate (fn.ntmps - vs.size) undef, defers := [] }) ⟨hs, ⟨rfl, by simp; simp at hsz; omega, fun i x hx => ?_⟩, hgl⟩ (fun b hb => .inl (hb.elim id (by simp))) (fun _ _ _ => rfl) (Nat.le_refl _) rfl rfl rfl)) fun e a' w' ⟨ds', μ', σ', q, hm, i, ev⟩ => ?_))
 ·simp only [args] at hx
  have hi : i < (ds.map AV.d).length := (List.getElem?_eq_some_iff.1 hx).1
  have hvi : vs[i]? = some vs[i] := by rw [Array.getElem?_eq_getElem]
  exact ⟨vs[i], by rw [Array.getElem?_append_left (by omega), hvi], hv i _ x hvi hx⟩
 ·have fin : endD T rs y σ' → LeavesInM (wd none) 0 P fn a'.tmps (fun e w' => ∃ v x H' μ', e = .returned v ∧ (x = .d y ∧ H' = hno) ∧ RV w' X μ' v x ∧ Sim w' X μ' H' ∧ Ev (fun _ => True) w μ w' μ') a'.defers .returning w' := fun he => by
   rw [i.env.defers]; refine leaves_marks ds' w' hm.nodup hm.opn fun w2 h1 h2 h3 h4 h5 => ?_
   have hi := i.shut h1 h5
   have hev := ev.shut hm (Nat.le_refl _) h1 h2 h3 h4 h5
   unfold endD at he
   split at he
   ·rename_i c xs hx
    obtain ⟨hc, he⟩ := he
    split at he
    ·rename_i y' hy
     obtain ⟨v, hv, hr⟩ := results_ok (P := P) hg hi hrs hx hc
     have hrd := (asD_ok hi.sim 6 hy hr).le he
     refine ⟨v, hv, v, .d y, hno, fun _ => none, rfl, ⟨rfl, rfl⟩, .d (hrd.sub fun b => XX_none.1), Sim.none hi.sim.fits, hev.size, hev.os, hev.tape, hev.output, fun b hb hr => ⟨(hev.same b hb hr).1, fun ⟨_, _, h, _⟩ => by cases h⟩, fun r m _ hn => absurd trivial hn⟩
    ·exact he.elim
   ·exact he.elim
  cases e with
  | normal => exact fin q
  | ret => exact fin q
  | _ => exact q.elim
structure Grown (B : Nat → Prop) (w w' : World) : Prop where
 size : w.heap.size ≤ w'.heap.size
 os : w'.os = w.os
 tape : w'.tape = w.tape
 output : w'.output = w.output
 same : ∀ b, b < w.heap.size → ¬ B b → w'.heap[b]? = w.heap[b]?
structure Kept (B : Nat → Prop) (w w' : World) : Prop where
 size : w.heap.size ≤ w'.heap.size
 same : ∀ b, B b → w'.heap[b]? = w.heap[b]?
def GB (G : Glob) (b : Nat) : Prop := ∃ x, G b = some x ∧ ((∃ l, x = .ip l) ∨ ∃ cs, x = .tab cs)
theorem GB_of {G : Glob} {w : World} {X : Nat → Prop} (hgl : ∀ g x, G g = some x → RD w X (.pointer (some ⟨g, 0, none⟩)) x) {b : Nat} (h : GB G b) : ¬ X b ∧ b < w.heap.size := by
 obtain ⟨x, hx, h | h⟩ := h
 ·obtain ⟨l, rfl⟩ := h
  have h1 := hgl _ _ hx
  generalize hy : D.ip l = y at h1; generalize hv : Value.pointer (some ⟨b, 0, none⟩) = v at h1
  cases h1 <;> cases hy
  rename_i hX hb _ _
  injection hv with hv
  injection hv with hv
  injection hv with hv
  subst hv; exact ⟨hX, hb⟩
 ·obtain ⟨cs, rfl⟩ := h
  have h1 := hgl _ _ hx
  generalize hy : D.tab cs = y at h1; generalize hv : Value.pointer (some ⟨b, 0, none⟩) = v at h1
  cases h1 <;> cases hy
  rename_i hX hb
  injection hv with hv
  injection hv with hv
  injection hv with hv
  subst hv; exact ⟨hX, (Array.getElem?_eq_some_iff.1 hb).1⟩
def IterB (P : Program) (gf : FuncId) (lb : Array Value) (B C : Nat → Prop) (xs : List Value) (w0 : World) : Prop :=
 ∀ (l : Nat) (J : Nat → World → Prop) (Jx : World → Prop), (∀ k W W', J k W → Grown B W W' → J k W') → (∀ W W', Jx W → Grown B W W' → Jx W') →
  (∀ k (hk : k < xs.length) W, J k W → YieldAt (wd none) 0 P l #[xs[k]] W fun e W' => (e = .returned (.bool true) ∧ J (k + 1) W' ∧ Kept C W W') ∨ (e = .returned (.bool false) ∧ Jx W')) →
  ∀ w1, Kept C w0 w1 → J 0 w1 → Calls P gf (#[.func (.yield l) #[] #[]] ++ lb) w1 fun e W' => (∃ v, e = .returned v) ∧ (J xs.length W' ∨ Jx W')
def notL (it : List Nat) (q : Nat) : Bool := !it.contains q
def notO (it : List Nat) (q off n : Nat) : AV := if it.contains q then .dead else .own q off n
def notF (it : List Nat) (q e j : Nat) : AV := if it.contains q then .dead else .ref q e j
theorem In.rest {e0 : Env} {H0 : Heap} (it : List Nat) (hi : In w X G μ N a ⟨e0, H0⟩) : In w (XX X (mfilt it.contains μ)) G (mfilt (notL it) μ) N a ⟨fun i => (e0 i).map (AV.tr (notO it) (notF it)), trH (notL it) (notO it) (notF it) H0⟩ := by
 have hXX : ∀ b, XX (XX X (mfilt it.contains μ)) (mfilt (notL it) μ) b → XX X μ b := fun b hb => hb.elim (fun hb => hb.elim .inl fun h => .inr (ran_mfilt h)) fun h => .inr (ran_mfilt h)
 have hD : ∀ u d, RD w (XX X μ) u d → RD w (XX (XX X (mfilt it.contains μ)) (mfilt (notL it) μ)) u d := fun u d h => h.sub hXX
 have hm : ∀ q m, it.contains q = false → μ q = some m → mfilt (notL it) μ q = some m := fun q m hk h => by simp only [mfilt, notL, hk, Bool.not_false, if_true]; exact h
 have hV : ∀ u x, RV w X μ u x → RV w (XX X (mfilt it.contains μ)) (mfilt (notL it) μ) u (x.tr (notO it) (notF it)) := fun u x => RV.tr3 hD (fun u r off n h => by
   unfold notO
   split
   ·exact .dead u
   ·rename_i hk
    obtain ⟨m, h1, h2⟩ := h.own_inv
    exact .own (hm r m (by simpa using hk) h1) h2) (fun u r e j h => by
   unfold notF
   split
   ·exact .dead u
   ·rename_i hk
    obtain ⟨m, b, h1, h2, rfl⟩ := h.ref_inv
    exact .ref (hm r m (by simpa using hk) h1) h2)
 refine ⟨⟨fun r row hr => ?_, fun r m hr => ?_, fun q q' m1 m2 b h1 h2 hb1 hb2 => hi.sim.inj q q' m1 m2 b (mfilt_some h1).2 (mfilt_some h2).2 hb1 hb2, fun q m b hq hb hX => ?_, fun b hb => hb.elim (hi.sim.fits b) fun h => hi.sim.blk_lt (ran_mfilt h)⟩, ⟨hi.env.defers, hi.env.size, fun i x hx => ?_⟩, fun g x hx => hD _ _ (hi.glob g x hx)⟩
 ·dsimp only [trH] at hr
  split at hr
  ·rename_i hk
   obtain ⟨row0, h0, rfl⟩ := Option.map_eq_some_iff.1 hr
   obtain ⟨m, h1, ok⟩ := hi.sim.rows r row0 h0
   exact ⟨m, hm r m (by simpa [notL] using hk) h1, ok.tr3 (fun _ _ => rfl) hD hV⟩
  ·cases hr
 ·obtain ⟨hk, h1⟩ := mfilt_some hr
  obtain ⟨row, h0⟩ := hi.sim.dom r m h1
  exact ⟨row.tr (notO it) (notF it), by dsimp only [trH]; rw [if_pos hk]; dsimp only at h0; rw [h0]; rfl⟩
 ·obtain ⟨hk, h1⟩ := mfilt_some hq
  rcases hX with h | ⟨q', m', hq', hb'⟩
  ·exact hi.sim.frame q m b h1 hb h
  ·obtain ⟨hk', h1'⟩ := mfilt_some hq'
   obtain rfl := hi.sim.inj q q' m m' b h1 h1' hb hb'
   simp only [notL, hk', Bool.not_true, Bool.false_eq_true] at hk
 ·obtain ⟨y, hy, rfl⟩ := Option.map_eq_some_iff.1 hx
  obtain ⟨u, hu, hr⟩ := hi.env.slot i y hy
  exact ⟨u, hu, hV u y hr⟩
def stab (fx : List Nat) : AV → Prop
 | .d _ => True
 | .ref r _ _ => fx.contains r = true
 | _ => False
def roundQ (P : Program) (X : Nat → Prop) (G : Glob) (N : Fr) (fx : List Nat) (Q : Exit → St → Prop) (e1 : Env) (next : Heap) (nx : Prop) : Exit → St → Prop
 | .normal, σ => nx ∧ Imp (notIn fx) X G N σ ⟨fun _ => none, next⟩
 | .ret, σ => ∃ H, Imp (notIn fx) X G N σ ⟨fun _ => none, H⟩ ∧ Q .ret ⟨e1, H⟩
 | .exit id, σ => ∃ H, Imp (notIn fx) X G N σ ⟨fun _ => none, H⟩ ∧ Q (.exit id) ⟨e1, H⟩
 | _, _ => False
theorem RV.stab {X X' : Nat → Prop} {l : Nat} {μ μ' : Mu} {fx : List Nat} {u : Value} {x : AV} (hs : stab fx x) (ev : EvL l (notIn fx) w μ w' μ') (hl : X l) (hX : ∀ b, X' b → X b) (hr : RV w X μ u x) : RV w' X' μ' u x := by
 cases x with
 | d x => exact .d (hr.data.mono ev.size fun b hb hb' => by
   have h := ev.same b hb (fun e => hb' (.inl (e ▸ hl))) fun e => hb' (.inr e)
   exact ⟨h.1, fun e => e.elim (fun e => hb' (.inl (hX b e))) h.2⟩)
 | ref r e j =>
  obtain ⟨m, b, hm, hb, rfl⟩ := hr.ref_inv
  exact .ref (ev.kept r m hm (by unfold notIn; unfold Av.stab at hs; rw [hs]; simp)) hb
 | _ => exact hs.elim
set_option maxHeartbeats 1000000 in
theorem AW0_rangeFunc {n s : Nat} {g : Operand} {p : Tmp} {assign body : Code} {Q : Exit → St → Prop} {e0 : Env} {H0 : Heap} {gf : FuncId} {caps : List AV} (xs : List Value) (it fx : List Nat) (e1 : Env) (inv : Nat → Heap) (ok : Nat → Prop) (hok0 : ok 0)
  (hg : aeval G e0 g = some (.fn (.func gf) caps)) (hF : Fun P gf) (hp : p < n)
  (hIt : ∀ (w : World) (X : Nat → Prop) (μ : Mu) (lb : Array Value), Sim w X μ (trH it.contains (onlyO it) (onlyF it) H0) → (∀ g x, G g = some x → RD w (XX X μ) (.pointer (some ⟨g, 0, none⟩)) x) → lb.size = caps.length → (∀ (i : Nat) (u : Value) (x : AV), lb[i]? = some u → caps[i]? = some x → RV w X μ u (x.tr (onlyO it) (onlyF it))) → IterB P gf lb (ran μ) (fun b => ran μ b ∨ GB G b) xs w)
  (he1 : ∀ i x, e1 i = some x → stab fx x ∧ ∃ y, e0 i = some y ∧ y.tr (notO it) (notF it) = x) (hH : trH (notL it) (notO it) (notF it) H0 = inv 0) (hMv : ∀ q, notIn fx q → Mv q) (hfx : ∀ q, fx.contains q = true → it.contains q = false)
  (hround : ∀ X' l k (hk : k < xs.length), ok k → AW P (notIn fx) X' G ⟨n, [], some l⟩ assign (thn (AW P (notIn fx) X' G ⟨n, [], some l⟩ body (roundQ P X' G ⟨n, [], some l⟩ fx Q e1 (inv (k + 1)) (ok (k + 1)))) (fun _ _ => False)) ⟨upd e1 p (.d (.v xs[k])), inv k⟩)
  (hdone : ok xs.length → Q .normal ⟨e1, inv xs.length⟩) : AW0 P Mv X G n s (.rangeFunc g #[p] assign body) Q ⟨e0, H0⟩ := by
 intro ds w μ a hsw hm hi
 obtain ⟨lb, hgv, hlb, hlr⟩ : ∃ lb : Array Value, a.eval g = .func (.func gf) #[] lb ∧ lb.size = caps.length ∧ ∀ (i : Nat) (u : Value) (x : AV), lb[i]? = some u → caps[i]? = some x → RV w (XD X ds) μ u x := by
  have h := hi.eval hg
  generalize a.eval g = v at h ⊢
  cases h with
  | fn hn hr => exact ⟨_, rfl, hn, hr⟩
 have hrest := hi.rest it
 obtain ⟨hpart, hpv⟩ := hi.sim.part it
 have hit := hIt w _ _ lb hpart (fun g x hx => (hi.glob g x hx).sub fun b => XX_part.1) hlb fun i u x hu hx => hpv (hlr i u x hu hx)
 generalize hB : mfilt it.contains μ = μi at hrest hpart hit
 have hBran : ∀ b, ran μi b → ran μ b := fun b h => ran_mfilt (hB ▸ h)
 have hBlt : ∀ b, ran μi b → b < w.heap.size := fun b h => hi.sim.blk_lt (hBran b h)
 rw [hH] at hrest
 have hi1 : In w (XX (XD X ds) μi) G (mfilt (notL it) μ) ⟨n, ds.map mark, none⟩ a ⟨e1, inv 0⟩ := ⟨hrest.sim, ⟨hrest.env.defers, hrest.env.size, fun i x hx => by
  obtain ⟨_, y, hy, rfl⟩ := he1 i x hx
  exact hrest.env.slot i _ (by dsimp only; rw [hy]; rfl)⟩, hrest.glob⟩
 clear hrest hpv hpart; refine wpIn_rangeFunc fun fn _ => ?_; generalize hD : w.heap.size = d at *
 obtain ⟨rec, hrec⟩ : ∃ rec : LoopState → Option Code → Loop, rec = fun st pe => { state := st, pending := pe, fn, tmps := a.tmps, params := #[p], assign, body, defers := d } := ⟨_, rfl⟩
 obtain ⟨W1, hW1⟩ : ∃ W1, (w.alloc (.deferred (some []))).alloc (.loop (rec .ready none)) = W1 := ⟨_, rfl⟩
 have hz1 : W1.heap.size = d + 2 := by rw [← hW1]; simp; omega
 have hg1 : Grew w W1 := by
  rw [← hW1]
  have h1 := Grew.alloc w (.deferred (some []))
  have h2 := Grew.alloc (w.alloc (.deferred (some []))) (.loop (rec .ready none))
  exact ⟨Nat.le_trans h1.size h2.size, h2.os.trans h1.os, h2.tape.trans h1.tape, h2.output.trans h1.output, fun b hb => (h2.same b (Nat.lt_of_lt_of_le hb h1.size)).trans (h1.same b hb)⟩
 have hL1 : W1.heap[d + 1]? = some (.loop (rec .ready none)) := by
  rw [← hW1]; have := World.alloc_heap_new (w.alloc (.deferred (some []))) (.loop (rec .ready none)); rwa [World.size_alloc, hD] at this
 have hK1 : W1.heap[d]? = some (.deferred (some [])) := by
  rw [← hW1, (Grew.alloc (w.alloc (.deferred (some []))) (.loop (rec .ready none))).same d (by simp; omega), ← hD]; exact World.alloc_heap_new w _
 let X' : Nat → Prop := fun b => XX (XD X ds) μi b ∨ b = d ∨ b = d + 1
 have hX'lt : ∀ b, XX (XD X ds) μi b → b < d := fun b hb => by have := hi1.sim.fits b hb; omega
 have hi2 : In W1 X' G (mfilt (notL it) μ) ⟨n, ds.map mark, none⟩ a ⟨e1, inv 0⟩ := hi1.turn (fun b hb => hb.elim .inl fun hb => .inr (by omega)) (fun b hb _ => hg1.same b hb) hg1.size hi1.env.defers rfl rfl
 have hev1 : Ev (notIn fx) w μ W1 (mfilt (notL it) μ) := ⟨hg1.size, hg1.os, hg1.tape, hg1.output, fun b hb hr => ⟨hg1.same b hb, fun h => hr (ran_mfilt h)⟩, fun q m hq hn => by
  have hfq : fx.contains q = true := by
   cases h : fx.contains q with
   | true => rfl
   | false => exact absurd h hn
  simp only [mfilt, notL, hfx q hfq, Bool.not_false, if_true]; exact hq⟩
 let At (st : LoopState) (pe : Option Code) (H : Heap) (W : World) : Prop := (∃ μ', In W X' G μ' ⟨n, ds.map mark, none⟩ a ⟨e1, H⟩ ∧ Ev (notIn fx) w μ W μ') ∧ W.heap[d + 1]? = some (.loop (rec st pe)) ∧ W.heap[d]? = some (.deferred (some []))
 have hAtG : ∀ st pe H W W', At st pe H W → Grown (ran μi) W W' → At st pe H W' := by
  rintro st pe H W W' ⟨⟨μ', hin, hev⟩, hl, hk⟩ hgr
  have hlt : d + 1 < W.heap.size := (Array.getElem?_eq_some_iff.1 hl).1
  have hnB : ∀ b, d ≤ b → ¬ ran μi b := fun b hb h => by have := hBlt b h; omega
  refine ⟨⟨μ', hin.turn (fun b hb => .inl hb) (fun b hb hx => hgr.same b hb fun h => hx (.inl (.inr h))) hgr.size hin.env.defers rfl rfl, ⟨Nat.le_trans hev.size hgr.size, hgr.os.trans hev.os, hgr.tape.trans hev.tape, hgr.output.trans hev.output, fun b hb hr => ?_, hev.kept⟩⟩, (hgr.same _ hlt (hnB _ (by omega))).trans hl, (hgr.same _ (by omega) (hnB _ (Nat.le_refl _))).trans hk⟩
  have h := hev.same b hb hr
  exact ⟨(hgr.same b (Nat.lt_of_lt_of_le hb hev.size) fun hh => hr (hBran b hh)).trans h.1, h.2⟩
 let Jx : World → Prop := fun W => ∃ (c : Code) (H : Heap), ((c = Code.ret ∧ Q .ret ⟨e1, H⟩) ∨ ∃ id, c = Code.exit id ∧ Q (.exit id) ⟨e1, H⟩) ∧ At .done (some c) H W
 have hround' : ∀ k (hk : k < xs.length) W, ok k ∧ At .ready none (inv k) W → YieldAt (wd none) 0 P (d + 1) #[xs[k]] W fun e W' =>
   (e = .returned (.bool true) ∧ (ok (k + 1) ∧ At .ready none (inv (k + 1)) W') ∧ Kept (fun b => ran μi b ∨ GB G b) W W') ∨ (e = .returned (.bool false) ∧ Jx W') := by
  rintro k hk W ⟨hokk, ⟨μ', hin, hev⟩, hl, hkD⟩
  have hlt : d + 1 < W.heap.size := (Array.getElem?_eq_some_iff.1 hl).1
  have hy := run_yield (P := P) (args := #[xs[k]]) hl (by rw [hrec]; rfl)
  rw [hrec] at hy; refine ⟨fn, _, assign, body, hy, roundIn_of_wpIn (F := wd none) trivial ?_⟩; clear hy
  have hfold : (((#[p] : Array Tmp).zip #[xs[k]]).foldl (fun tmps (t, a) => tmps.setIfInBounds t a) a.tmps) = a.tmps.setIfInBounds p xs[k] := by simp
  show assign.wpIn (wd (some (d + 1))) 0 P _ { tmps := (((#[p] : Array Tmp).zip #[xs[k]]).foldl (fun tmps (t, a) => tmps.setIfInBounds t a) a.tmps), defers := [] } W
  rw [hfold]
  have hsz := hin.env.size
  have hinr : In W X' G μ' ⟨n, [], some (d + 1)⟩ { tmps := a.tmps.setIfInBounds p xs[k], defers := [] } ⟨upd e1 p (.d (.v xs[k])), inv k⟩ := ⟨hin.sim, ⟨rfl, by simpa using hsz, fun i x hx => by
   simp only [upd] at hx
   split at hx
   ·rename_i e
    obtain rfl := Option.some.inj hx
    have : p < a.tmps.size := by rw [hsz]; exact hp
    exact ⟨xs[k], by rw [e]; simp [this], .d (.v _)⟩
   ·rename_i e
    obtain ⟨u, hu, hr⟩ := hin.env.slot i x hx
    exact ⟨u, by simp [Array.getElem?_setIfInBounds, Ne.symm e, hu], hr⟩⟩, hin.glob⟩
  refine wpIn_mono (hround X' (d + 1) k hk hokk W μ' _ hinr) fun e a1 w1 ⟨μ1, σ1, q1, in1, ev1⟩ => ?_
  cases e with
  | normal =>
   have hXl : X' (d + 1) := .inr (.inr rfl)
   have hXd : X' d := .inr (.inl rfl)
   have hnr : ∀ {W : World} {μ : Mu} {H : Heap} {b : Nat}, Sim W X' μ H → X' b → ¬ ran μ b := fun hs hx ⟨r, m, h1, h2⟩ => hs.frame r m _ h1 h2 hx
   have hl1 := (ev1.same _ hlt (hnr hin.sim hXl)).1.trans hl
   have hk1 := (ev1.same d (by omega) (hnr hin.sim hXd)).1.trans hkD
   have hlt1 : d + 1 < w1.heap.size := (Array.getElem?_eq_some_iff.1 hl1).1
   refine ⟨_, run_beginRound hl1 (by rw [hrec]), ?_⟩
   have in2 : In (w1.putObj (d + 1) (.loop { rec .ready none with state := .busy })) X' G μ1 ⟨n, [], some (d + 1)⟩ a1 σ1 := in1.turn (fun b hb => .inl hb) (fun b hb hx => World.putObj_heap_other fun e => hx (e ▸ hXl)) (by simp) in1.env.defers rfl rfl
   have evb : EvL (d + 1) (notIn fx) W μ' (w1.putObj (d + 1) (.loop { rec .ready none with state := .busy })) μ1 := (ev1.but _).trans (.put _ _ _ _ _)
   refine wpIn_mono (q1 _ μ1 a1 in2) fun e a3 w3 ⟨μ3, σ3, q3, in3, ev3⟩ => ?_
   have hl3 : w3.heap[d + 1]? = some (.loop { rec .ready none with state := .busy }) := (ev3.same (d + 1) (by simpa using hlt1) (hnr in2.sim hXl)).1.trans (World.putObj_heap_same hlt1)
   have hk3 : w3.heap[d]? = some (.deferred (some [])) := (ev3.same d (by simp; omega) (hnr in2.sim hXd)).1.trans ((World.putObj_heap_other (by omega)).trans hk1)
   have evc := evb.trans (ev3.but (d + 1))
   have hlt3 : d + 1 < w3.heap.size := (Array.getElem?_eq_some_iff.1 hl3).1
   have fin : ∀ (jump : Option Code) (H : Heap), Imp (notIn fx) X' G ⟨n, [], some (d + 1)⟩ σ3 ⟨fun _ => none, H⟩ → ∃ w4, (Instr.endRound (d + 1) jump).run P w3 = .ok (.bool jump.isNone) w4 ∧ At (if jump.isNone then .ready else .done) jump H w4 ∧ Kept (fun b => ran μi b ∨ GB G b) W w4 := fun jump H himp => by
    obtain ⟨μ4, in4, ev4⟩ := himp w3 μ3 a3 in3
    have evd := (evc.trans (ev4.but (d + 1))).trans (.put (notIn fx) w3 μ4 (d + 1) (.loop (rec (if jump.isNone then .ready else .done) jump)))
    refine ⟨w3.putObj (d + 1) (.loop (rec (if jump.isNone then .ready else .done) jump)), ?_, ⟨⟨μ4, ?_, ?_⟩, World.putObj_heap_same hlt3, (World.putObj_heap_other (by omega)).trans hk3⟩, evd.size, fun b hb => ?_⟩
    ·have := run_endRound (P := P) jump hl3
     rw [hrec] at this ⊢; exact this
    ·have hsim := (in4.turn (N' := ⟨n, [], some (d + 1)⟩) (X' := X') (w' := w3.putObj (d + 1) (.loop (rec (if jump.isNone then .ready else .done) jump))) (fun b hb => .inl hb) (fun b hb hx => World.putObj_heap_other fun e => hx (e ▸ hXl)) (by simp) in4.env.defers rfl rfl)
     exact ⟨hsim.sim, ⟨hin.env.defers, hin.env.size, fun i x hx => by
      obtain ⟨u, hu, hr⟩ := hin.env.slot i x hx
      exact ⟨u, hu, hr.stab (he1 i x hx).1 evd hXl fun b hb => hb⟩⟩, hsim.glob⟩
    ·exact ((hev.but (d + 1)).trans evd).ev (by omega)
    ·rcases hb with hb | hb
     ·exact (evd.same b (by have := hBlt b hb; omega) (fun e => by have := hBlt b hb; omega) (hnr hin.sim (.inl (.inr hb)))).1
     ·obtain ⟨h1, h2⟩ := GB_of hin.glob hb
      exact (evd.same b h2 (fun e => h1 (.inl (e ▸ hXl))) fun hr => h1 (.inr hr)).1
   cases e with
   | normal =>
    obtain ⟨hnx, q3⟩ := q3
    obtain ⟨w4, h1, h2, h3⟩ := fin none _ q3
    exact ⟨_, w4, h1, .inl ⟨rfl, ⟨hnx, h2⟩, h3⟩⟩
   | ret =>
    obtain ⟨H, himp, hq⟩ := q3
    obtain ⟨w4, h1, h2, _⟩ := fin (some .ret) H himp
    exact ⟨_, w4, h1, .inr ⟨rfl, .ret, H, .inl ⟨rfl, hq⟩, h2⟩⟩
   | exit id =>
    obtain ⟨H, himp, hq⟩ := q3
    obtain ⟨w4, h1, h2, _⟩ := fin (some (.exit id)) H himp
    exact ⟨_, w4, h1, .inr ⟨rfl, .exit id, H, .inr ⟨id, rfl, hq⟩, h2⟩⟩
   | _ => exact q3.elim
  | _ => exact q1.elim
 refine ⟨d + 1, [mark d], W1, { target := .fn (.func gf) lb, args := #[.func (.yield (d + 1)) #[] #[]] }, W1, gf, #[.func (.yield (d + 1)) #[] #[]] ++ lb, W1, ?_, ?_, fun _ _ => trivial, ?_, fun e => (by cases e), wd_calls (Calls.mono
  (hit (d + 1) (fun k W => ok k ∧ At .ready none (inv k) W) Jx
   (fun k W W' h hgr => ⟨h.1, hAtG _ _ _ W W' h.2 hgr⟩) (fun W W' ⟨c, H, hq, h⟩ hgr => ⟨c, H, hq, hAtG _ _ _ W W' h hgr⟩) hround' W1 ⟨hg1.size, fun b hb => hg1.same b (hb.elim (fun h => by have := hBlt b h; omega) fun h => by have := (GB_of hi.glob h).2; omega)⟩ ⟨hok0, ⟨_, hi2, hev1⟩, hL1, hK1⟩) ?_)⟩
 ·rw [← hW1, hrec]
  have := run_enterLoop_outer (P := P) (w := w) fn a.tmps #[p] assign body
  rw [hD] at this; exact this
 ·simp only [resolve, hgv]; simp [go_sem]
 ·have := hF
  simp [invoke, go_sem, hF _ W1]
 ·rintro e W2 ⟨⟨v, rfl⟩, hJ⟩
  have out : ∀ st pe H, st ≠ .busy → At st pe H W2 → ∃ w4, (Instr.endLoop (d + 1)).run P W2 = .ok pe w4 ∧ ∀ q : Exit, Q q ⟨e1, H⟩ → After0 Mv X G n s w μ Q q { a with defers := [mark d] ++ a.defers } w4 := by
   rintro st pe H hst ⟨⟨μ', hin, hev⟩, hl, hk⟩
   have hlt : d + 1 < W2.heap.size := (Array.getElem?_eq_some_iff.1 hl).1
   refine ⟨W2.putObj (d + 1) (.loop { rec st pe with state := .exhausted }), ?_, fun q hq => ⟨d :: ds, μ', ⟨e1, H⟩, hq, ⟨?_, ?_, ?_⟩, ?_, ?_⟩⟩
   ·have := run_endLoop (P := P) hl (by rw [hrec]; exact hst)
    rw [hrec] at this ⊢; exact this
   ·exact List.nodup_cons.2 ⟨fun h => by have := (Array.getElem?_eq_some_iff.1 (hm.opn d h)).1; omega, hm.nodup⟩
   ·intro x hx
    rcases List.mem_cons.1 hx with rfl | hx
    ·omega
    ·exact hm.new x hx
   ·intro x hx
    rcases List.mem_cons.1 hx with rfl | hx
    ·exact (World.putObj_heap_other (by omega)).trans hk
    ·have h0 := (Array.getElem?_eq_some_iff.1 (hm.opn x hx)).1
     have h1 := hev.same x h0 fun ⟨r, m, h1, h2⟩ => hi.sim.frame r m x h1 h2 (.inr hx)
     exact (World.putObj_heap_other (by omega)).trans (h1.1.trans (hm.opn x hx))
   ·refine hin.turn (fun b hb => .inl ?_) (fun b hb hx => World.putObj_heap_other fun e => hx (.inr (.inr e))) (by simp) ?_ rfl rfl
    ·rcases hb with hb | hb
     ·exact .inl (.inl (.inl hb))
     ·rcases List.mem_cons.1 hb with rfl | hb
      ·exact .inr (.inl rfl)
      ·exact .inl (.inl (.inr hb))
    ·show [mark d] ++ a.defers = (d :: ds).map mark
     rw [hin.env.defers]; rfl
   ·refine (((hev.but (d + 1)).trans (.put _ _ _ _ _)).ev (by omega)).weaken fun q m _ hq => hMv q hq
  rcases hJ with ⟨hokE, hJ⟩ | ⟨c, H, hq, hJ⟩
  ·obtain ⟨w4, h1, h2⟩ := out _ _ _ (by simp) hJ
   exact ⟨none, w4, h1, h2 .normal (hdone hokE)⟩
  ·obtain ⟨w4, h1, h2⟩ := out _ _ _ (by simp) hJ
   refine ⟨some c, w4, h1, ?_⟩
   rcases hq with ⟨rfl, hq⟩ | ⟨id, rfl, hq⟩
   ·exact wpIn_ret (h2 .ret hq)
   ·exact wpIn_exit (h2 (.exit id) hq)
end
end Go.Av
namespace Go.Proofs.YthnjfeielmbfkaaGreatDoor
open Go.Av
def limT (S P : Int) (n : Nat) : Prop := S < 1 ∨ 3 < S ∨ P < 0 ∨ 2 < P ∨ n < 1 ∨ 3 < n
instance (S P : Int) (n : Nat) : Decidable (limT S P n) := inferInstanceAs (Decidable (_ ∨ _))
end Go.Proofs.YthnjfeielmbfkaaGreatDoor
namespace Go.Proofs.YthnjfeielmbfkaaGreatDoor
open Go.Av Go.Shelf
theorem itoa_small (G : Glob) (i : Nat) (hi : i < 100) : PureC Tryz.prog G 53 [dNum i] (dS (Lib.decDigits i)) := by
 refine PureC.of_calls (Fun.of Tryz.func53 rfl rfl) fun X w vs hsz hrd hgl => ?_
 obtain ⟨u, rfl⟩ : ∃ u, vs = #[u] := by
  match vs, hsz with
  | ⟨[u]⟩, _ => exact ⟨u, rfl⟩
 have hu := (hrd 0 u _ rfl rfl).scalar
 subst hu
 have hL : Lays.n171 Tryz.prog Tryz.lays171_ren := { Tryz.lays171 with }
 refine (Any.strconv_Itoa_small hL i hi w).mono fun e w' ⟨he, hw⟩ => ⟨_, he, by rw [hw]; exact Grew.refl _, ?_⟩; exact .v _
end Go.Proofs.YthnjfeielmbfkaaGreatDoor
namespace Go.Proofs.YthnjfeielmbfkaaGreatDoor
open Go.Av
theorem binS_add (a b : List UInt8) : binS .add (bs a) (bs b) = some (a.length + b.length ≤ 9223372036854775807, .string (bs (a ++ b))) := by
 unfold binS; simp only [bs_size, bs_append]
abbrev dig (n : Nat) : List UInt8 := Lib.decDigits n
theorem dig_len {n : Nat} (h : n < 100) : (dig n).length ≤ 2 := by
 have : ∀ k : Fin 100, (Lib.decDigits k.val).length ≤ 2 := by decide +kernel
 exact this ⟨n, h⟩
theorem lx32 : (⟨#[32]⟩ : ByteArray) = bs [32] := rfl
theorem lx10 : (⟨#[10]⟩ : ByteArray) = bs [10] := rfl
theorem itoaI_spec (G : Glob) (i : Int) (h : 0 ≤ i ∧ i < 100) : PureC Tryz.prog G 53 [.v (.int .i64 i)] (.v (.string (bs (dig i.toNat)))) := by
 have := itoa_small G i.toNat (by omega)
 rwa [dNum, Int.toNat_of_nonneg h.1] at this
set_option maxHeartbeats 2000000 in
theorem told_spec (G : Glob) (n : Int) (h : 0 ≤ n ∧ n < 100) : PureC Tryz.prog G 73 [.sl none [[.v (.int .i64 n)]]] (.v (.string (bs (dig n.toNat)))) := by
 have hI := itoaI_spec G n h
 have hd := dig_len (n := n.toNat) (by omega)
 have hj := join_spec G [dig n.toNat] [32] (by simp [Lib.join_one]; omega) (by simp)
 rw [Lib.join_one] at hj; simp only [List.map_cons, List.map_nil, dS] at hj; generalize dig n.toNat = tx at hI hd hj; refine PureC.of_body (tyOf_good _) Tryz.func73 rfl rfl (rs := [.tmp 2]) Tryz.results73 (by simp [Tryz.ntmps73]) fun X => ?_; simp only [Tryz.ntmps73, List.map]; refine rg0 [0] [] ?_; refine rg0 [0,3] [] ?_; refine AW_then fun K1 hK1 => ?_; refine rg0 [3,6,7,8] [] ?_; refine AW_for (S := Nat) (fun i => i ≤ 1) (fun i => ⟨lst [(3, .own 300 0 i), (6, .d (.sl none [[.v (.int .i64 n)]])), (7, int 1), (8, int i)], hlst [(300, .sl 9 1 (List.take i [[.v (.string (bs tx))]]))]⟩) (fun i => 1 - i) 0 ?_ (by simp) ?_
 ·refine (Imp.adopt 3 300 9 1 rfl rfl).trans ?_; refine Imp.to' (fun _ _ => trivial) (by simp) (by simp)
 ·intro i hi
  refine rg0 [3,6,7,8,9] [300] ?_; refine AW_then fun K2 hK2 => ?_; refine AW_cond' (b := i < 1) (by simp; omega) (fun hc => ?_) (fun hc => ?_)
  ·obtain rfl : i = 0 := by omega
   refine AW_skip (hK2 _ ?_); refine AW_then fun K3 hK3 => ?_; refine AW_block ?_; refine rg0 [3,5,6,7,8] [300] ?_; refine AW_re (tyOf_good _) fun K' hK' => ?_; (repeat (refine sxn fun K2 hK2 => ?_; simp; (repeat (refine ⟨by omega, ?_⟩)); refine hK2 _ ?_; clear hK2 K2)); refine sxn fun K2 hK2 => ?_; simp; refine callK.data (hI) (by simp; rfl) (by first | exact D.leGo_refl _ | simp [takeMap, List.map_map, Function.comp_def, D.le, D.le.go, D.le_refl, D.leGo_refl]) ?_; refine hK2 _ ?_; clear hK2 K2; simp only [putd, upd_lst]; (repeat (refine sxn fun K2 hK2 => ?_; simp; (repeat (refine ⟨by omega, ?_⟩)); refine hK2 _ ?_; clear hK2 K2)); refine sxz (hK' _ ?_); clear hK' K'; refine hK3 _ (AW.norm [3, 6, 7, 8] [300] (fun _ _ => trivial) (AW.st (by simp; rfl) ?_)); refine AW_re (tyOf_good _) fun K' hK' => ?_; (repeat (refine sxn fun K2 hK2 => ?_; simp; (repeat (refine ⟨by omega, ?_⟩)); refine hK2 _ ?_; clear hK2 K2)); refine sxz (hK' _ ?_); clear hK' K'; (try simp only [thn, inb]); refine Again.mk 1 (by omega) (by omega) ?_; refine Imp.to' (fun _ _ => trivial) (by simp) (by simp)
  ·obtain rfl : i = 1 := by omega
   refine AW_exit (hK1 _ ?_); refine AW.imp (Imp.freeze 300 trivial) ?_; refine AW.st (by simp; rfl) ?_
   have qf := @lx32
   refine rgcv hj [2] [] ?_; refine AW_ret ?_; simp [D.le, D.le.go, takeMap]
end Go.Proofs.YthnjfeielmbfkaaGreatDoor
namespace Go.Proofs.YthnjfeielmbfkaaGreatDoor
open Go.Av
def sbB (a : AV) (l : List UInt8) : List (Nat × Row) := [(500, .box 158 [a, .own 501 0 l.length]), (501, .sl 5 1 (l.map fun b => [.v (.int .u8 b.toNat)]))]
def SbA (a : AV) : Prop := a = .d (.v (.pointer none)) ∨ a = .ref 500 0 0
section
variable {X Mv : Nat → Prop} {w w' : World} {μ : Mu} {H : Heap}
theorem sim_write (hs : Sim w X μ H) {r b : Nat} {m : MRow} (hm : μ r = some m) (hb : m.blk = some b) (hz : w'.heap.size = w.heap.size) (ho : w'.os = w.os) (ht : w'.tape = w.tape) (hout : w'.output = w.output)
  (hsame : ∀ k, k ≠ b → w'.heap[k]? = w.heap[k]?) {row : Row} (ok : Ev Mv w μ w' μ → RowOk w' X μ m row) : Sim w' X μ (hup H r row) ∧ Ev Mv w μ w' μ := by
 have ev : Ev Mv w μ w' μ := ⟨by omega, ho, ht, hout, fun k hk hr => ⟨hsame k fun e => hr ⟨r, m, hm, e ▸ hb⟩, hr⟩, fun _ _ h _ => h⟩
 have ok := ok ev
 refine ⟨⟨fun q row' hq => ?_, fun q m' hq => ?_, hs.inj, hs.frame, fun b hb => by have := hs.fits b hb; omega⟩, ev⟩
 ·dsimp only [hup] at hq
  split at hq
  ·rename_i e
   subst e
   obtain rfl := Option.some.inj hq
   exact ⟨m, hm, ok⟩
  ·rename_i e
   obtain ⟨m', hm', ok'⟩ := hs.rows q row' hq
   exact ⟨m', hm', ok'.same ev (fun _ _ h => h) fun k hk => hsame k fun e' => e (hs.inj q r m' m k hm' hm hk (e' ▸ hb))⟩
 ·by_cases e : q = r
  ·exact ⟨row, by simp [hup, e]⟩
  ·obtain ⟨row', hr'⟩ := hs.dom q m' hq
   exact ⟨row', by simp [hup, e, hr']⟩
end
theorem copyCheck_mc (G : Glob) (a : AV) (ha : SbA a) (l : List UInt8) : MC Tryz.prog G [500, 501] 127 [.ref 500 0 0] (hlst (sbB a l)) (.d (.tup [])) (hlst (sbB (.ref 500 0 0) l)) := by
 refine ⟨Fun.of Tryz.func127 rfl rfl, fun X w μ vs hs hgl hsz hv => ?_⟩
 obtain ⟨v, rfl⟩ : ∃ v, vs = #[v] := by
  match vs, hsz with
  | ⟨[v]⟩, _ => exact ⟨v, rfl⟩
 obtain ⟨m, b, hm, hb, rfl⟩ := (hv 0 v _ rfl rfl).ref_inv
 rw [Nat.zero_mul, Nat.zero_add]
 have hL : Lays.n240 Tryz.prog Tryz.lays156_ren := { Tryz.lays156 with }
 obtain ⟨m', hm', ok⟩ := hs.rows 500 (.box 158 [a, .own 501 0 l.length]) rfl
 rw [hm] at hm'
 obtain rfl := Option.some.inj hm'
 cases ok with
 | box hb' hs9 hcap hh hn hr hx =>
  rename_i b' cur
  rw [hb] at hb'
  obtain rfl := Option.some.inj hb'
  have hcs : cur.size = 2 := (hx rfl).symm
  obtain ⟨x0, x1, rfl⟩ : ∃ x0 x1, cur = #[x0, x1] := by
   match cur, hcs with
   | ⟨[x0, x1]⟩, _ => exact ⟨x0, x1, rfl⟩
  have h0 := hr 0 x0 a rfl rfl
  have hbl : b < w.heap.size := hs.blk_lt ⟨500, m, hm, hb⟩
  rcases ha with rfl | rfl
  ·have hc0 : x0 = .pointer none := h0.scalar
   subst hc0; refine (Any.Builder_copyCheck_fresh hL Tryz.Builder_Extra_156.toX72 b w (by rw [Lib.cell_of_heap hh]; rfl) (by simp [World.shape?, hh]; rfl) (Lib.frozen_of_heap hh 0)).mono fun e w' ⟨he, hw⟩ => ?_; subst hw
   have hh' : (w.setCell ⟨b, 0, none⟩ (.pointer (some ⟨b, 0, none⟩))).heap[b]? = some (.cells #[.pointer (some ⟨b, 0, none⟩), x1] 158 (0, 0)) := by
    simp [World.setCell, Array.getElem?_modify, hh]
   obtain ⟨h1, h2⟩ := sim_write (Mv := notIn [500, 501]) (w' := w.setCell ⟨b, 0, none⟩ (.pointer (some ⟨b, 0, none⟩))) hs hm hb (by simp [World.setCell]) rfl rfl rfl (fun k hk => by simp [World.setCell, Array.getElem?_modify, Ne.symm hk]) (row := .box 158 [.ref 500 0 0, .own 501 0 l.length]) fun ev =>
    .box hb rfl hcap hh' (by simp) (hx := fun _ => rfl) fun j u c hu hc => by
     match j, hu, hc with
     | 0, hu, hc =>
      simp at hu hc; subst hu hc
      have := RV.ref (w := w.setCell ⟨b, 0, none⟩ (.pointer (some ⟨b, 0, none⟩))) (X := X) (e := 0) (j := 0) hm hb
      simpa using this
     | 1, hu, hc => exact (hr 1 u c (by simpa using hu) hc).same ev fun _ _ h => h
     | j + 2, hu, hc => simp at hc
   have hH : hup (hlst (sbB (.d (.v (.pointer none))) l)) 500 (.box 158 [.ref 500 0 0, .own 501 0 l.length]) = hlst (sbB (.ref 500 0 0) l) := by
    funext q
    by_cases h : q = 500
    ·subst h; rfl
    ·have hq : (q == 500) = false := by simpa using h
     simp only [hup, if_neg h, sbB, hlst, List.lookup, hq]
   rw [hH] at h1; exact ⟨_, _, _, μ, he, ⟨rfl, rfl⟩, .d (.tup rfl fun j u c hu hc => by simp at hu), h1, h2⟩
  ·obtain ⟨m2, b2, hm2, hb2, hc0⟩ := h0.ref_inv
   rw [hm] at hm2
   obtain rfl := Option.some.inj hm2
   rw [hb] at hb2
   obtain rfl := Option.some.inj hb2
   rw [Nat.zero_mul, Nat.zero_add] at hc0; subst hc0; refine (Any.Builder_copyCheck_used hL Tryz.Builder_Extra_156.toX72 b w (by rw [Lib.cell_of_heap hh]; rfl)).mono fun e w' ⟨he, hw⟩ => ?_; subst hw; exact ⟨_, _, _, μ, he, ⟨rfl, rfl⟩, .d (.tup rfl fun j u c hu hc => by simp at hu), hs, .refl _ _ _⟩
end Go.Proofs.YthnjfeielmbfkaaGreatDoor
namespace Go.Proofs.YthnjfeielmbfkaaGreatDoor
open Go.Av
theorem byteEls_bs (s : List UInt8) : byteEls (bs s) = s.map fun b => [D.v (.int .u8 b.toNat)] := rfl
set_option maxHeartbeats 4000000 in
theorem wstr_mc (G : Glob) (a : AV) (ha : SbA a) (l s : List UInt8) (hn : l.length + s.length ≤ 2^40) : MC Tryz.prog G [500] 69 [.ref 500 0 0, .d (dS s)] (hlst (sbB a l)) (.d (.tup [dNum s.length, .v .nilIface])) (hlst (sbB (.ref 500 0 0) (l ++ s))) := by
 have hcc := copyCheck_mc G a ha l
 simp only [sbB] at hcc ⊢
 have htk : List.take l.length (l.map fun b => [D.v (.int .u8 b.toNat)]) = l.map fun b => [D.v (.int .u8 b.toNat)] := List.take_of_length_le (by simp)
 rcases ha with rfl | rfl
 ·refine MC.of_body (tyOf_good _) Tryz.func69 rfl rfl (rs := [.tmp 4, .tmp 5]) Tryz.results69 (by simp [Tryz.ntmps69]) rfl fun X => ?_; simp only [Tryz.ntmps69]
  have fw := (Aq @dNum.eq_1 @dS.eq_1)
  refine rgq fw [0,1] [500,501] ?_; refine rgm fw hcc [0,1] [500,501] ?_
  have qf := (Aq fw (Aq @byteEls_bs (Aq @bs_size @htk)))
  refine rgqv [1] [500,501] ?_
  have qf := (Aq fw @bs_size)
  refine rgqv [4,5] [500,501] ?_; refine AW_ret ?_; simp [D.le, D.le.go, takeMap, dNum, dS, dNum, D.le_refl]
 ·refine MC.of_body (tyOf_good _) Tryz.func69 rfl rfl (rs := [.tmp 4, .tmp 5]) Tryz.results69 (by simp [Tryz.ntmps69]) rfl fun X => ?_; simp only [Tryz.ntmps69]
  have fw := (Aq @dNum.eq_1 @dS.eq_1)
  refine rgq fw [0,1] [500,501] ?_; refine rgm fw hcc [0,1] [500,501] ?_
  have qf := (Aq fw (Aq @byteEls_bs (Aq @bs_size @htk)))
  refine rgqv [1] [500,501] ?_
  have qf := (Aq fw @bs_size)
  refine rgqv [4,5] [500,501] ?_; refine AW_ret ?_; simp [D.le, D.le.go, takeMap, dNum, dS, dNum, D.le_refl]
end Go.Proofs.YthnjfeielmbfkaaGreatDoor
namespace Go.Proofs.YthnjfeielmbfkaaGreatDoor
open Go.Av Go.Shelf Go.RowKit
section
variable {P : Program} {ρ : Ren}
set_option maxHeartbeats 2000000 in
set_option maxRecDepth 100000 in
theorem str_some (L : Lays.n169 P ρ) (E : Builder.Extra P ρ) (b g cap : Nat) (p : Value) (cur : Array Value) (l : List UInt8) (h0 : l ≠ []) (w : World)
  (hbk : w.heap[b]? = some (.cells #[p, .slice (some ⟨g, 0, none⟩) l.length cap] (ρ.t 72) (0, 0))) (hg : w.heap[g]? = some (.cells cur (ρ.t 5) (0, 0))) (hn : l.length ≤ cap) (hcm : cap ≤ maxLen) (hcs : cur.size = cap)
  (hcell : ∀ (j : Nat) x, l[j]? = some x → cur[j]? = some (.int .u8 x.toNat)) :
  Calls P (ρ.f 169) #[.pointer (some ⟨b, 0, none⟩)] w fun e w' => e = .returned (.string ⟨l.toArray⟩) ∧ w' = w.drew.freeze ⟨g, 0, none⟩ l.length := by
 have hg' : w.drew.heap[g]? = some (.cells cur (ρ.t 5) (0, 0)) := hg
 have c1 : w.drew.cell? ⟨b, 1, none⟩ = some (.slice (some ⟨g, 0, none⟩) l.length cap) := by
  have : w.drew.heap[b]? = some (.cells #[p, .slice (some ⟨g, 0, none⟩) l.length cap] (ρ.t 72) (0, 0)) := hbk
  rw [Lib.cell_of_heap this]; rfl
 have hlp := List.length_pos_iff.2 h0
 have hSD : (Builtin.unsafeSliceData_ #[(ρ.t 37)] (ρ.t 127) #[.slice (some ⟨g, 0, none⟩) l.length cap]).run P w.drew = .ok (.pointer (some ⟨g, 0, none⟩)) w.drew :=
  Lib.run_unsafeSliceData_row _ _ _ _ _ _ (by omega)
 have hUS : (Builtin.unsafeString_ #[(ρ.t 127), (ρ.t 3)] (ρ.t 9) #[.pointer (some ⟨g, 0, none⟩), .int .i64 l.length]).run P w.drew = .ok (.string ⟨l.toArray⟩) (w.drew.freeze ⟨g, 0, none⟩ l.length) := by
  refine Lib.run_unsafeString_row w.drew (ρ.t 127) (ρ.t 3) (ρ.t 9) (ρ.t 5) L.t127 E.cellsByte g cur.size (by simp [World.shape?, hg']) l h0 (by omega) (by unfold maxLen at hcm; omega) fun j x hx => ?_; rw [addr_add, cell_of_row w.drew g _ cur (ρ.t 5) (0, 0) hg']; simpa using hcell j x hx
 have mixed := L.mixed
 have t72 := L.t72; have a72 := L.a72; have z72 := L.z72; have v72 := L.v72; have u72 := run_underlying L.t72
 have t70 := L.t70; have a70 := L.a70; have z70 := L.z70; have v70 := L.v70; have u70 := run_underlying L.t70
 have t37 := L.t37; have a37 := L.a37; have z37 := L.z37; have v37 := L.v37; have u37 := run_underlying L.t37
 have t127 := L.t127; have a127 := L.a127; have z127 := L.z127; have v127 := L.v127; have u127 := run_underlying L.t127
 have t3 := L.t3; have a3 := L.a3; have z3 := L.z3; have v3 := L.v3; have u3 := run_underlying L.t3
 have t9 := L.t9; have a9 := L.a9; have z9 := L.z9; have v9 := L.v9; have u9 := run_underlying L.t9
 have t5 := E.t5; have a5 := E.a5; have z5 := E.z5; have v5 := E.v5; have u5 := run_underlying E.t5
 go_enter L.f169, Body.n169_ntmps ρ
 go_wp2
 go_region_o
 all_goals (go_wp2; go_ret; exact ⟨rfl, rfl⟩)
end
theorem string_mc (G : Glob) (a : AV) (l : List UInt8) : MC Tryz.prog G [] 71 [.ref 500 0 0] (hlst (sbB a l)) (.d (dS l)) hno := by
 refine ⟨Fun.of Tryz.func71 rfl rfl, fun X w μ vs hs hgl hsz hv => ?_⟩
 obtain ⟨v, rfl⟩ : ∃ v, vs = #[v] := by
  match vs, hsz with
  | ⟨[v]⟩, _ => exact ⟨v, rfl⟩
 obtain ⟨m, b, hm, hb, rfl⟩ := (hv 0 v _ rfl rfl).ref_inv
 rw [Nat.zero_mul, Nat.zero_add]
 have hL : Lays.n169 Tryz.prog Tryz.lays156_ren := { Tryz.lays156 with }
 have fin : ∀ w' : World, w.heap.size ≤ w'.heap.size → w'.os = w.os → w'.tape = w.tape → w'.output = w.output → (∀ k, k < w.heap.size → ¬ ran μ k → w'.heap[k]? = w.heap[k]?) →
   Sim w' X (fun _ => none) hno ∧ Ev (notIn []) w μ w' (fun _ => none) := fun w' h1 ho ht hout hk =>
  ⟨Sim.none fun b hb => Nat.lt_of_lt_of_le (hs.fits b hb) h1, ⟨h1, ho, ht, hout, fun k hk' hr => ⟨hk k hk' hr, fun ⟨_, _, h, _⟩ => by cases h⟩, fun q m _ hn => absurd rfl hn⟩⟩
 obtain ⟨m', hm', ok⟩ := hs.rows 500 (.box 158 [a, .own 501 0 l.length]) rfl
 rw [hm] at hm'
 obtain rfl := Option.some.inj hm'
 cases ok with
 | box hb' hs9 hcap hh hn hr hx =>
  rename_i b' cur
  rw [hb] at hb'
  obtain rfl := Option.some.inj hb'
  have hcs : cur.size = 2 := (hx rfl).symm
  obtain ⟨x0, x1, rfl⟩ : ∃ x0 x1, cur = #[x0, x1] := by
   match cur, hcs with
   | ⟨[x0, x1]⟩, _ => exact ⟨x0, x1, rfl⟩
  obtain ⟨m5, hm5, hown⟩ := (hr 1 x1 (.own 501 0 l.length) rfl rfl).own_inv
  obtain ⟨m6, hm6, ok5⟩ := hs.rows 501 (.sl 5 1 (l.map fun b => [.v (.int .u8 b.toNat)])) rfl
  rw [hm5] at hm6
  obtain rfl := Option.some.inj hm6
  rcases hown with ⟨hbk, rfl, _, hl0⟩ | ⟨g, hbk, rfl, hl1⟩
  ·have hl : l = [] := List.eq_nil_of_length_eq_zero hl0
   subst hl; refine (Any.Builder_String_nil hL Tryz.Builder_Extra_156 w.heap.size b x0 w hh).mono fun e w' ⟨he, hbl⟩ => ?_
   obtain ⟨h1, h2⟩ := fin w' hbl.size hbl.os hbl.tape hbl.output fun k hk _ => hbl.block k hk
   exact ⟨_, _, _, _, he, ⟨rfl, rfl⟩, .d (.v _), h1, h2⟩
  ·generalize hels : (l.map fun b => [D.v (.int .u8 b.toNat)]) = els at ok5
   cases ok5 with
   | nil h _ => rw [h] at hbk; cases hbk
   | sl hb5 hs5 hh5 hc5 hn5 hm5' hl5 hz5 hr5 =>
    rename_i g' cur5
    rw [hbk] at hb5
    obtain rfl := Option.some.inj hb5
    rw [hs5, Nat.zero_mul, Nat.sub_zero] at hh
    by_cases h0 : l = []
    ·subst h0
     by_cases hc0 : m5.cap = 0
     ·rw [hc0] at hh; refine (Any.Builder_String_noroom hL Tryz.Builder_Extra_156 w.heap.size b g x0 cur5 w (Nat.le_refl _) hh hh5).mono fun e w' ⟨he, hbl⟩ => ?_
      obtain ⟨h1, h2⟩ := fin w' hbl.size hbl.os hbl.tape hbl.output fun k hk _ => hbl.block k hk
      exact ⟨_, _, _, _, he, ⟨rfl, rfl⟩, .d (.v _), h1, h2⟩
     ·refine (Any.Builder_String_room hL Tryz.Builder_Extra_156 w.heap.size b g m5.cap x0 w hc0 hh).mono fun e w' ⟨he, hbl⟩ => ?_
      obtain ⟨h1, h2⟩ := fin w' hbl.size hbl.os hbl.tape hbl.output fun k hk _ => hbl.block k hk
      exact ⟨_, _, _, _, he, ⟨rfl, rfl⟩, .d (.v _), h1, h2⟩
    ·refine (str_some hL Tryz.Builder_Extra_156 b g m5.cap x0 cur5 l h0 w hh hh5 (by omega) hm5' (by omega) fun j x hx => ?_).mono fun e w' ⟨he, hw⟩ => ?_
     ·obtain ⟨u, hu, hrd⟩ := hr5 j 0 [.v (.int .u8 x.toNat)] _ (by rw [← hels, List.getElem?_map, hx]; rfl) rfl
      rw [Nat.mul_one, Nat.add_zero] at hu; rw [hu, hrd.scalar]
     ·subst hw
      have hsz9 : (w.drew.freeze ⟨g, 0, none⟩ l.length).heap.size = w.drew.heap.size := by simp [World.freeze, h0]
      have hos9 : (w.drew.freeze ⟨g, 0, none⟩ l.length).os = w.os ∧ (w.drew.freeze ⟨g, 0, none⟩ l.length).tape = w.tape ∧ (w.drew.freeze ⟨g, 0, none⟩ l.length).output = w.output := by
       simp only [World.freeze, List.length_eq_zero_iff, h0, if_false]; exact ⟨rfl, rfl, rfl⟩
      obtain ⟨h1, h2⟩ := fin (w.drew.freeze ⟨g, 0, none⟩ l.length) (Nat.le_of_eq hsz9.symm) hos9.1 hos9.2.1 hos9.2.2 fun k hk hr => by
       have hne : k ≠ g := fun e => hr ⟨501, m5, hm5, e ▸ hbk⟩
       have e : (w.drew.freeze ⟨g, 0, none⟩ l.length).heap[k]? = w.drew.heap[k]? := by simp [World.freeze, h0, Array.getElem?_modify, Ne.symm hne]
       exact e
      exact ⟨_, _, _, _, he, ⟨rfl, rfl⟩, .d (.v _), h1, h2⟩
end Go.Proofs.YthnjfeielmbfkaaGreatDoor
namespace Go.Proofs.YthnjfeielmbfkaaGreatDoor
open Go.Av
set_option maxHeartbeats 4000000 in
theorem wbyte_mc (G : Glob) (a : AV) (ha : SbA a) (l : List UInt8) (c : UInt8) (hn : l.length + 1 ≤ 2^40) : MC Tryz.prog G [500] 70 [.ref 500 0 0, .d (.v (.int .u8 c.toNat))] (hlst (sbB a l)) (.d (.v .nilIface)) (hlst (sbB (.ref 500 0 0) (l ++ [c]))) := by
 have hcc := copyCheck_mc G a ha l
 simp only [sbB] at hcc ⊢
 have htk : List.take l.length (l.map fun b => [D.v (.int .u8 b.toNat)]) = l.map fun b => [D.v (.int .u8 b.toNat)] := List.take_of_length_le (by simp)
 rcases ha with rfl | rfl
 ·refine MC.of_body (tyOf_good _) Tryz.func70 rfl rfl (rs := [.tmp 4]) Tryz.results70 (by simp [Tryz.ntmps70]) rfl fun X => ?_; simp only [Tryz.ntmps70]
  have fw := (Aq @dNum.eq_1 @dS.eq_1)
  refine rgq fw [0,1] [500,501] ?_; refine rgm fw hcc [0,1] [500,501] ?_
  have qf := (Aq fw @htk)
  refine rgqv [] [500,501] ?_; refine rgq fw [4] [500,501] ?_; refine AW_ret ?_; simp [D.le, D.le.go, takeMap, dNum, dS, D.le_refl]
 ·refine MC.of_body (tyOf_good _) Tryz.func70 rfl rfl (rs := [.tmp 4]) Tryz.results70 (by simp [Tryz.ntmps70]) rfl fun X => ?_; simp only [Tryz.ntmps70]
  have fw := (Aq @dNum.eq_1 @dS.eq_1)
  refine rgq fw [0,1] [500,501] ?_; refine rgm fw hcc [0,1] [500,501] ?_
  have qf := (Aq fw @htk)
  refine rgqv [] [500,501] ?_; refine rgq fw [4] [500,501] ?_; refine AW_ret ?_; simp [D.le, D.le.go, takeMap, dNum, dS, D.le_refl]
end Go.Proofs.YthnjfeielmbfkaaGreatDoor
namespace Go.Proofs.YthnjfeielmbfkaaGreatDoor
open Go.Av
def txB (l : List UInt8) : List (List D) := l.map fun b => [.v (.int .u8 b.toNat)]
theorem txB_nil : txB [] = [] := rfl
theorem wS (G : Glob) (c s c' : List UInt8) (h : c' = c ++ s) (hn : c.length + s.length ≤ 2^40) : MC Tryz.prog G [500] 69 [.ref 500 0 0, .d (.v (.string (bs s)))] (hlst [(500, .box 158 [.ref 500 0 0, .own 501 0 (c).length]), (501, .sl 5 1 (txB (c)))]) (.d (.tup [dNum s.length, .v .nilIface])) (hlst [(500, .box 158 [.ref 500 0 0, .own 501 0 (c').length]), (501, .sl 5 1 (txB (c')))]) := by
 subst h; exact wstr_mc G (.ref 500 0 0) (.inr rfl) c s hn
theorem wS0 (G : Glob) (s : List UInt8) (hn : s.length ≤ 2^40) : MC Tryz.prog G [500] 69 [.ref 500 0 0, .d (.v (.string (bs s)))] (hlst [(500, .box 158 [.d (.v (.pointer none)), .own 501 0 0]), (501, .sl 5 1 [])]) (.d (.tup [dNum s.length, .v .nilIface])) (hlst [(500, .box 158 [.ref 500 0 0, .own 501 0 (s).length]), (501, .sl 5 1 (txB (s)))]) :=
 wstr_mc G (.d (.v (.pointer none))) (.inl rfl) [] s (by simpa using hn)
theorem wB (G : Glob) (c : List UInt8) (b : UInt8) (c' : List UInt8) (h : c' = c ++ [b]) (hn : c.length + 1 ≤ 2^40) : MC Tryz.prog G [500] 70 [.ref 500 0 0, .d (.v (.int .u8 b.toNat))] (hlst [(500, .box 158 [.ref 500 0 0, .own 501 0 (c).length]), (501, .sl 5 1 (txB (c)))]) (.d (.v .nilIface)) (hlst [(500, .box 158 [.ref 500 0 0, .own 501 0 (c').length]), (501, .sl 5 1 (txB (c')))]) := by
 subst h; exact wbyte_mc G (.ref 500 0 0) (.inr rfl) c b hn
theorem ub10 : (10 : UInt8).toNat = 10 := rfl
end Go.Proofs.YthnjfeielmbfkaaGreatDoor
namespace Go.Proofs.YthnjfeielmbfkaaGreatDoor
open Go.Av
def headN (k : Int) : List UInt8 := if k = 1 then [105, 110, 112, 117, 116, 32] else if k = 2 then [99, 111, 105, 108, 32] else if k = 3 then [116, 105, 109, 101, 114, 32] else [99, 111, 117, 110, 116, 101, 114, 32]
def cntT (n : NmP) : List UInt8 := if 3 ≤ n.kind then 32 :: dig n.count.toNat else []
def nameT (n : NmP) : List UInt8 := headN n.kind ++ n.name ++ cntT n ++ [10]
def namesTx (l : List NmP) : List UInt8 := l.flatMap nameT
def headG (k : Int) : List UInt8 := if k = 1 then [] else if k = 2 then [115, 101, 116, 32] else if k = 3 then [114, 101, 115, 101, 116, 32] else if k = 4 then [114, 117, 110, 32] else if k = 5 then [99, 111, 117, 110, 116, 32] else [122, 101, 114, 111, 32]
def condT (c : Option Ex) : List UInt8 := match c with
 | none => []
 | some e => wrE e 0
def rungT (r : RgP) : List UInt8 := headG r.kind ++ r.name ++ [32, 61, 32] ++ condT r.cond ++ [10]
def rungsTx (l : List RgP) : List UInt8 := l.flatMap rungT
def progT (p : PgP) : List UInt8 := namesTx p.names ++ rungsTx p.rungs
structure TxP (p : PgP) : Prop where
 nm : ∀ n ∈ p.names, (1 ≤ n.kind ∧ n.kind ≤ 4) ∧ (0 ≤ n.count ∧ n.count < 100) ∧ n.name.length ≤ 2^10
 rg : ∀ r ∈ p.rungs, (1 ≤ r.kind ∧ r.kind ≤ 6) ∧ r.name.length ≤ 2^10 ∧ ∃ e, r.cond = some e ∧ bE e ≤ 2^28 ∧ WfE e
 nl : p.names.length ≤ 100
 rl : p.rungs.length ≤ 100
 ne : p.names = [] → p.rungs = []
theorem headN_len (k : Int) : 1 ≤ (headN k).length ∧ (headN k).length ≤ 8 := by
 unfold headN; repeat' split
 all_goals simp
theorem headG_len (k : Int) : (headG k).length ≤ 6 := by
 unfold headG; repeat' split
 all_goals simp
theorem nameT_len {n : NmP} (h : (0 ≤ n.count ∧ n.count < 100) ∧ n.name.length ≤ 2^10) : 1 ≤ (nameT n).length ∧ (nameT n).length ≤ 2^11 := by
 have h1 := headN_len n.kind
 have h2 := dig_len (n := n.count.toNat) (by omega)
 have h3 : (cntT n).length ≤ 3 := by unfold cntT; split <;> simp; omega
 simp only [nameT, List.length_append, List.length_cons, List.length_nil]
 omega
theorem wr0_bd (e : Ex) : (wrE e 0).length ≤ bE e := Nat.le_trans (wr_two e 0).1 (wr_len e)
theorem rungT_len {r : RgP} (h : r.name.length ≤ 2^10 ∧ ∃ e, r.cond = some e ∧ bE e ≤ 2^28 ∧ WfE e) : (rungT r).length ≤ 2^29 := by
 obtain ⟨h1, e, he, hb, _⟩ := h
 have h2 := headG_len r.kind
 have h3 := wr0_bd e
 simp only [rungT, List.length_append, List.length_cons, List.length_nil, he, condT]
 omega
theorem flatT_len {α : Type} {f : α → List UInt8} {m : Nat} : ∀ {l : List α}, (∀ a ∈ l, (f a).length ≤ m) → (l.flatMap f).length ≤ m * l.length
 | [], _ => by simp
 | a :: l, h => by
  have := flatT_len fun a ha => h a (List.mem_cons_of_mem _ ha)
  have := h a (by simp)
  rw [List.flatMap_cons, List.length_append, List.length_cons, Nat.mul_add]; omega
theorem flatT_succ {α : Type} {f : α → List UInt8} {l : List α} {i : Nat} (h : i < l.length) : (l.take (i + 1)).flatMap f = (l.take i).flatMap f ++ f l[i] := by
 rw [List.take_succ_eq_append_getElem h, List.flatMap_append]; simp
theorem take_in {α : Type} {l : List α} {i : Nat} {a : α} (h : a ∈ l.take i) : a ∈ l := List.mem_of_mem_take h
theorem namesTx_len {p : PgP} (h : TxP p) (i : Nat) : (namesTx (p.names.take i)).length ≤ 2^20 := by
 have := flatT_len (f := nameT) (m := 2^11) (l := p.names.take i) fun a ha => (nameT_len (h.nm a (take_in ha)).2).2
 have h2 := h.nl
 rw [List.length_take] at this
 have h3 : 2^11 * min i p.names.length ≤ 2^11 * 100 := Nat.mul_le_mul_left _ (by omega)
 unfold namesTx; omega
theorem rungsTx_len {p : PgP} (h : TxP p) (i : Nat) : (rungsTx (p.rungs.take i)).length ≤ 2^36 := by
 have := flatT_len (f := rungT) (m := 2^29) (l := p.rungs.take i) fun a ha => rungT_len (h.rg a (take_in ha)).2
 have h2 := h.rl
 rw [List.length_take] at this
 have h3 : 2^29 * min i p.rungs.length ≤ 2^29 * 100 := Nat.mul_le_mul_left _ (by omega)
 unfold rungsTx; omega
def heads7 : List D := [.v (.string (bs [])), .v (.string (bs [])), .v (.string (bs [115, 101, 116, 32])), .v (.string (bs [114, 101, 115, 101, 116, 32])), .v (.string (bs [114, 117, 110, 32])), .v (.string (bs [99, 111, 117, 110, 116, 32])), .v (.string (bs [122, 101, 114, 111, 32]))]
def HasHeads (G : Glob) : Prop := G 1 = some (.ip heads7)
def adB (c : List UInt8) : AV := if c = [] then .d (.v (.pointer none)) else .ref 500 0 0
theorem adB_nil : adB [] = .d (.v (.pointer none)) := rfl
theorem adB_ne {c : List UInt8} (h : c ≠ []) : adB c = .ref 500 0 0 := if_neg h
theorem adB_tr (c : List UInt8) (ns : List Nat) (h : ns.contains 500 = true) : AV.tr (onlyO ns) (onlyF ns) (adB c) = adB c := by
 unfold adB; split <;> simp [AV.tr, onlyO, onlyF]; simpa using h
theorem names_ne {p : PgP} (h : TxP p) (hr : p.rungs ≠ []) : namesTx p.names ≠ [] := fun e => by
 cases hn : p.names with
 | nil => exact hr (h.ne hn)
 | cons n l =>
  have h1 := (nameT_len (h.nm n (by rw [hn]; simp)).2).1
  rw [hn, namesTx, List.flatMap_cons] at e
  have := congrArg List.length e
  simp only [List.length_append, List.length_nil] at this
  omega
theorem namesTx_zero : namesTx [] = [] := rfl
theorem rungsTx_zero : rungsTx [] = [] := rfl
theorem aS (G : Glob) (c : List UInt8) : MC Tryz.prog G [] 71 [.ref 500 0 0] (hlst [(500, .box 158 [adB c, .own 501 0 (c).length]), (501, .sl 5 1 (txB (c)))]) (.d (.v (.string (bs c)))) (hlst []) := string_mc G (adB c) c
end Go.Proofs.YthnjfeielmbfkaaGreatDoor
namespace Go.Proofs.YthnjfeielmbfkaaGreatDoor
open Go.Av
set_option maxHeartbeats 1000000 in
theorem ldw_ix (G : Glob) (k0 : Option Bool) (t : List (List UInt8)) (s : List UInt8) (hs : s ≠ []) (ht : t.length < 2^60) : PureC Tryz.prog G 86 [.sl k0 (t.map fun x => [dS x]), dS s] (dNum (idx (fun x => x == s) t)) := by
 have hs0 : s.isEmpty = false := by rw [List.isEmpty_eq_false_iff]; exact hs
 refine PureC.of_body (tyOf_good _) Tryz.func86 rfl rfl (rs := [.tmp 4]) Tryz.results86 (by simp [Tryz.ntmps86]) fun X => ?_; simp only [Tryz.ntmps86, List.map]
 have fw := @dNum.eq_1
 refine rgq fw [0,1] [] ?_; refine AW_then fun K1 hK1 => ?_; refine rgq fw [1,7,8,9] [] ?_; refine AW_for (S := Nat) (fun n => n ≤ t.length ∧ ∀ i (hi : i < t.length), i < n → (t[i] == s) = false) (fun n => ⟨lst [(1, .d (dS s)), (7, .d (.sl k0 (t.map fun x => [dS x]))), (8, int t.length), (9, int n)], hlst []⟩) (fun n => t.length - n) 0 ?_ (by simp) ?_
 ·refine Imp.to' (fun _ _ => trivial) (by simp [dNum]) (by simp [dNum])
 ·rintro n ⟨hn, hp⟩
  refine rgq fw [1,7,8,9,10] [] ?_; refine AW_then fun K2 hK2 => ?_; refine AW_cond' (b := n < t.length) (by simp [D.le, D.le.go, takeMap, dNum]) (fun hc => ?_) (fun hc => ?_)
  ·have hnt : n < t.length := hc
   refine AW_skip (hK2 _ ?_); refine AW_then fun K3 hK3 => ?_; refine AW_block ?_
   have qf := (Aq fw @hnt)
   refine rgqv [1,5,6,7,8,9] [] ?_
   cases he : (t[n] == s) with
   | true =>
    have he2 : t[n] = s := by simpa using he
    refine rg [1, 5, 7, 8, 9, 20] [] (fun _ _ => trivial) fun K' hK' => ?_; (repeat (refine sxn fun K2 hK2 => ?_; simp [dNum, dS, he2, binS, bs_nil, bs_list, hs, hs0]; (repeat (refine ⟨by omega, ?_⟩)); refine hK2 _ ?_; clear hK2 K2)); refine sxz (hK' _ (AW.st (by simp [dNum, dS, he2, binS, bs_nil, bs_list, hs, hs0]; rfl) ?_)); clear hK' K'; refine AW_tt rfl ?_; refine rgq fw [4] [] ?_; refine AW_ret ?_; simp [D.le, D.le.go, takeMap, dNum]; exact (idx_hit hnt he fun i hi => hp i (by omega) hi).symm
   | false =>
    have he2 : ¬ t[n] = s := by simpa using he
    refine rg [1, 5, 7, 8, 9, 20] [] (fun _ _ => trivial) fun K' hK' => ?_; (repeat (refine sxn fun K2 hK2 => ?_; simp [dNum, dS, he, he2, binS, bs_nil, bs_list]; (repeat (refine ⟨by omega, ?_⟩)); refine hK2 _ ?_; clear hK2 K2)); refine sxz (hK' _ (AW.st (by simp [dNum, dS, he, he2, binS, bs_nil, bs_list]; rfl) ?_)); clear hK' K'; refine AW_ff rfl ?_; refine AW_skip ?_; refine hK3 _ (AW.norm [1, 7, 8, 9] [] (fun _ _ => trivial) (AW.st (by simp [dNum]; rfl) ?_)); refine AW_re (tyOf_good _) fun K' hK' => ?_; (repeat (refine sxn fun K2 hK2 => ?_; simp [dNum]; (repeat (refine ⟨by omega, ?_⟩)); refine hK2 _ ?_; clear hK2 K2)); refine sxz (hK' _ ?_); clear hK' K'; (try simp only [thn, inb]); refine Again.mk (n + 1) ⟨by omega, fun i hi hin => ?_⟩ (by omega) ?_
    ·by_cases h : i = n
     ·subst h; exact he
     ·exact hp i hi (by omega)
    refine Imp.to' (fun _ _ => trivial) (by simp [dNum, dS]) (by simp [dNum, dS])
  ·refine AW_exit (hK1 _ ?_); refine rgq fw [4] [] ?_; refine AW_ret ?_; simp [D.le, D.le.go, takeMap, dNum]; exact (idx_miss fun i hi => hp i hi (by omega)).symm
end Go.Proofs.YthnjfeielmbfkaaGreatDoor
namespace Go.Proofs.YthnjfeielmbfkaaGreatDoor
open Go.Av
theorem wlx32 : (⟨#[32]⟩ : ByteArray) = bs [32] := rfl
theorem wlx0 : (⟨#[]⟩ : ByteArray) = bs [] := rfl
def fullW (l : List Tx) : List (List D) := (l.filter fun w => decide (w ≠ [])).map fun s => [dS s]
theorem fullW_nil : fullW [] = [] := rfl
theorem fullW_take (l : List Tx) (n : Nat) (h : n < l.length) : fullW (l.take (n + 1)) = if l[n] = [] then fullW (l.take n) else fullW (l.take n) ++ [[dS l[n]]] := by
 unfold fullW; rw [List.take_succ_eq_append_getElem h, List.filter_append, List.map_append]
 by_cases h0 : l[n] = []
 ·simp [h0]
 ·simp [h0]
set_option maxHeartbeats 4000000 in
theorem words_spec (G : Glob) (hM : HasMax G) (t : Tx) (ht : t.length < 2^30) : PureC Tryz.prog G 84 [dS t] (.sl none ((wordsT t).map fun s => [dS s])) := by
 have hsp := split1_spec G hM t 32 ht
 have hwt : (wordsT t).map (fun s => [dS s]) = fullW (cutT 32 t) := by
  unfold fullW wordsT cutT; rw [← wordsGo_cut]
 rw [hwt]
 have hll := cutT_len 32 t
 simp only [dS] at hsp; generalize cutT 32 t = l at *; refine PureC.of_body (tyOf_good _) Tryz.func84 rfl rfl (rs := [.tmp 2]) Tryz.results84 (by simp [Tryz.ntmps84]) fun X => ?_; simp only [Tryz.ntmps84, List.map]
 have fw := @dNum.eq_1
 refine rgq fw [0] [] ?_; refine rgq fw [0,3] [] ?_; refine AW_then fun K1 hK1 => ?_
 have qf := (Aq fw @wlx32)
 refine rgcv hsp [3,7,8,9] [] ?_; refine AW.imp (Imp.adopt 3 300 9 1 rfl rfl) ?_; refine AW_for (S := Nat) (fun n => n ≤ l.length) (fun n => ⟨lst [(3, .own 300 0 (fullW (l.take n)).length), (7, .d (.sl (some true) (l.map fun s => [dS s]))), (8, int l.length), (9, int n)], hlst [(300, .sl 9 1 (fullW (l.take n)))]⟩) (fun n => l.length - n) 0 ?_ (by omega) ?_
 ·refine Imp.to' (fun _ _ => trivial) (by simp [dNum, fullW_nil, dS]) (by simp [dNum, fullW_nil, dS])
 ·intro n hn
  refine rgq fw [3,7,8,9,10] [300] ?_; refine AW_then fun K2 hK2 => ?_
  by_cases hlt : n < l.length
  ·refine AW_cond true (by simp; omega) (fun _ => ?_) (fun h => by cases h)
   have hs := fullW_take l n hlt
   generalize hW2 : fullW (l.take (n + 1)) = W2 at hs; generalize hW : fullW (l.take n) = W at *
   have hWl : W.length ≤ 2^40 := by
    rw [← hW]; unfold fullW; rw [List.length_map]
    have h1 := List.length_filter_le (fun w => decide (w ≠ [])) (l.take n)
    have h2 := List.length_take_le n l
    omega
   refine AW_skip (hK2 _ ?_); refine AW_then fun K3 hK3 => ?_; refine AW_block ?_; simp only [dS] at hs
   have qf := (Aq fw (Aq @hlt @dS.eq_1))
   refine rgqv [3,5,7,8,9] [300] ?_
   by_cases hx : l[n] = []
   ·rw [if_pos hx] at hs; refine rg [3, 5, 7, 8, 9, 14] [300] (fun _ _ => trivial) fun K' hK' => ?_; (repeat (refine sxn fun K2 hK2 => ?_; simp [dNum, wlx0, binS, bs_list, hx]; (repeat (refine ⟨by omega, ?_⟩)); refine hK2 _ ?_; clear hK2 K2)); refine sxz (hK' _ (AW.st (by simp [dNum, wlx0, binS, bs_list, hx]; rfl) ?_)); clear hK' K'; refine AW_cond false (by simp [hx]) (fun h => by cases h) (fun _ => ?_); refine AW_skip (hK3 _ ?_); refine AW_re (tyOf_good _) fun K' hK' => ?_; (repeat (refine sxn fun K2 hK2 => ?_; simp [dNum]; (repeat (refine ⟨by omega, ?_⟩)); refine hK2 _ ?_; clear hK2 K2)); refine sxz (hK' _ ?_); clear hK' K'; (try simp only [thn, inb]); refine Again.mk (n + 1) (by omega) (by omega) ?_; refine Imp.to' (fun _ _ => trivial) (by simp [dNum, hW2, hs, dS]) (by simp [dNum, hW2, hs, dS])
   ·rw [if_neg hx] at hs
    have hx2 : l[n].isEmpty = false := by rw [List.isEmpty_eq_false_iff]; exact hx
    refine rg [3, 5, 7, 8, 9, 14] [300] (fun _ _ => trivial) fun K' hK' => ?_; (repeat (refine sxn fun K2 hK2 => ?_; simp [dNum, wlx0, binS, bs_list, hx]; (repeat (refine ⟨by omega, ?_⟩)); refine hK2 _ ?_; clear hK2 K2)); refine sxz (hK' _ (AW.st (by simp [dNum, wlx0, binS, bs_list, hx]; rfl) ?_)); clear hK' K'; refine AW_cond true (by simp [hx]) (fun _ => ?_) (fun h => by cases h); refine AW_re (tyOf_good _) fun K' hK' => ?_; (repeat (refine sxn fun K2 hK2 => ?_; simp [dNum, List.take_of_length_le]; (repeat (refine ⟨by omega, ?_⟩)); refine hK2 _ ?_; clear hK2 K2)); refine sxz (hK' _ ?_); clear hK' K'; refine hK3 _ (AW.norm [3, 7, 8, 9] [300] (fun _ _ => trivial) (AW.st (by simp [dNum, List.take_of_length_le]; rfl) ?_)); refine AW_re (tyOf_good _) fun K' hK' => ?_; (repeat (refine sxn fun K2 hK2 => ?_; simp [dNum]; (repeat (refine ⟨by omega, ?_⟩)); refine hK2 _ ?_; clear hK2 K2)); refine sxz (hK' _ ?_); clear hK' K'; (try simp only [thn, inb]); refine Again.mk (n + 1) (by omega) (by omega) ?_; refine Imp.to' (fun _ _ => trivial) (by simp [dNum, hW2, hs, dS]) (by simp [dNum, hW2, hs, dS])
  ·obtain rfl : n = l.length := by omega
   refine AW_cond false (by simp) (fun h => by cases h) (fun _ => ?_); rw [List.take_length]; refine AW_exit (hK1 _ ?_); refine AW.imp (Imp.freeze 300 trivial) ?_; refine AW.st (by simp [dNum]; rfl) ?_; refine rgq fw [2] [] ?_; refine AW_ret ?_; simp [D.le, D.le.go, takeMap, dNum, D.le_refl, D.leGo_refl]
def dNr : Option Int → D
 | some v => .tup [.v (.int .i64 v), .v (.bool true)]
 | none => .tup [.v (.int .i64 0), .v (.bool false)]
set_option maxHeartbeats 4000000 in
theorem rnumber_spec (G : Glob) (hP : HasP10 G) {es er : Value} (hE : HasNE G es er) (s : Tx) (hs : s.length < 2^40) : PureC Tryz.prog G 88 [dS s] (dNr (numF s)) := by
 have hpi := parseInt_spec G hE s hs
 have hnum : numF s = match Lib.atoiAll s with
  | .ok v => if Lib.itoa v = s then some v else none
  | _ => none := rfl
 unfold dNumEnd at hpi; refine PureC.of_body (tyOf_good _) Tryz.func88 rfl rfl (rs := [.tmp 2, .tmp 3]) Tryz.results88 (by simp [Tryz.ntmps88]) fun X => ?_; simp only [Tryz.ntmps88, List.map]
 have fw := @dS.eq_1
 refine rgq fw [0] [] ?_
 cases hn : Lib.atoiAll s with
 | ok v =>
  rw [hn] at hpi hnum
  dsimp only at hpi hnum
  obtain ⟨v0, v1⟩ := Lib.atoiAll_bounds hn
  have hit := formatInt_spec G hP v v0 v1
  simp only [dS] at hit; generalize Lib.itoa v = iv at hit hnum; refine rgc fw hpi [0,4,5] [] ?_; refine AW_then fun K1 hK1 => ?_
  by_cases hc : iv = s
  ·rw [if_pos hc] at hnum; subst hc; refine rg [4, 18] [] (fun _ _ => trivial) fun K' hK' => ?_; (repeat (refine sxn fun K2 hK2 => ?_; simp [dS, binS, bs_list]; (repeat (refine ⟨by omega, ?_⟩)); refine hK2 _ ?_; clear hK2 K2)); refine sxn fun K2 hK2 => ?_; simp [dS, binS, bs_list]; refine callK.data (hit) (by simp; rfl) (by first | exact D.leGo_refl _ | simp [takeMap, List.map_map, Function.comp_def, D.le, D.le.go, D.le_refl, D.leGo_refl, dS, binS, bs_list]) ?_; refine hK2 _ ?_; clear hK2 K2; simp only [putd, upd_lst]; (repeat (refine sxn fun K2 hK2 => ?_; simp [dS, binS, bs_list]; (repeat (refine ⟨by omega, ?_⟩)); refine hK2 _ ?_; clear hK2 K2)); refine sxz (hK' _ (AW.st (by simp [dS, binS, bs_list]; rfl) ?_)); clear hK' K'; refine AW_ff rfl ?_; refine AW_skip (hK1 _ ?_); refine rgq fw [2,3] [] ?_; refine AW_ret ?_; simp [D.le, D.le.go, takeMap, dS, hnum, dNr]
  ·rw [if_neg hc] at hnum; refine rg [4, 18] [] (fun _ _ => trivial) fun K' hK' => ?_; (repeat (refine sxn fun K2 hK2 => ?_; simp [dS, binS, bs_list, hc]; (repeat (refine ⟨by omega, ?_⟩)); refine hK2 _ ?_; clear hK2 K2)); refine sxn fun K2 hK2 => ?_; simp [dS, binS, bs_list, hc]; refine callK.data (hit) (by simp; rfl) (by first | exact D.leGo_refl _ | simp [takeMap, List.map_map, Function.comp_def, D.le, D.le.go, D.le_refl, D.leGo_refl, dS, binS, bs_list, hc]) ?_; refine hK2 _ ?_; clear hK2 K2; simp only [putd, upd_lst]; (repeat (refine sxn fun K2 hK2 => ?_; simp [dS, binS, bs_list, hc]; (repeat (refine ⟨by omega, ?_⟩)); refine hK2 _ ?_; clear hK2 K2)); refine sxz (hK' _ (AW.st (by simp [dS, binS, bs_list, hc]; rfl) ?_)); clear hK' K'; refine AW_cond true (by simp [hc]) (fun _ => ?_) (fun h => by cases h); refine rgq fw [2,3] [] ?_; refine AW_ret ?_; simp [D.le, D.le.go, takeMap, dS, hnum, dNr]
 | range =>
  rw [hn] at hpi hnum
  dsimp only [dNumErr] at hpi hnum
  refine rgc fw hpi [0,4,5] [] ?_; refine AW_then fun K1 hK1 => ?_; refine rgq fw [4,18] [] ?_; refine AW_tt rfl ?_; refine rgq fw [2,3] [] ?_; refine AW_ret ?_; simp [D.le, D.le.go, takeMap, dS, hnum, dNr]
 | _ =>
  rw [hn] at hpi hnum
  dsimp only [dNumErr] at hpi hnum
  refine rgc fw hpi [0,4,5] [] ?_; refine AW_then fun K1 hK1 => ?_; refine rgq fw [4,18] [] ?_; refine AW_tt rfl ?_; refine rgq fw [2,3] [] ?_; refine AW_ret ?_; simp [D.le, D.le.go, takeMap, dS, hnum, dNr]
end Go.Proofs.YthnjfeielmbfkaaGreatDoor
