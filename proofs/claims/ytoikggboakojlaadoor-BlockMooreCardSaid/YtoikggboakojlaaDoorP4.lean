/-
  Plain facts of tables: what is told of inputs; the inputs that part two states.
-/
import Derived.Test.YtoikggboakojlaaDoorF9
namespace Go.Proofs.YtoikggboakojlaaDoor

/-- What is told of inputs. -/
def tellF (t : Tab) : Nat → List Nat → List Int
  | _, [] => []
  | s, i :: l => te t s i :: tellF t (nx t s i) l
/-- Where they lead. -/
def goF (t : Tab) : Nat → List Nat → Nat
  | s, [] => s
  | s, i :: l => goF t (nx t s i) l

theorem tellF_len (t : Tab) : ∀ (l : List Nat) (s : Nat), (tellF t s l).length = l.length
  | [], _ => rfl
  | i :: l, s => by simp [tellF, tellF_len t l]
theorem tellF_snoc (t : Tab) (i : Nat) : ∀ (l : List Nat) (s : Nat), tellF t s (l ++ [i]) = tellF t s l ++ [te t (goF t s l) i]
  | [], s => rfl
  | j :: l, s => by simp [tellF, goF, tellF_snoc t i l]
theorem goF_snoc (t : Tab) (i : Nat) : ∀ (l : List Nat) (s : Nat), goF t s (l ++ [i]) = nx t (goF t s l) i
  | [], s => rfl
  | j :: l, s => by simp [goF, goF_snoc t i l]
theorem goF_lt {t : Tab} (ok : Ok t) : ∀ (l : List Nat) (s : Nat), s < t.n → (∀ c ∈ l, c < wd t) → goF t s l < t.n
  | [], s, hs, _ => hs
  | i :: l, s, hs, h => goF_lt ok l _ (ok.nx_lt hs (h i (by simp))) fun c hc => h c (by simp [hc])

/-- States that are alike tell the same. -/
theorem tell_alike {t : Tab} (ok : Ok t) {k : Nat} (h : nextF t (iter t k) = iter t k) : ∀ (l : List Nat) (a b : Nat), a < t.n → b < t.n → Al t k a b → (∀ c ∈ l, c < wd t) → tellF t a l = tellF t b l
  | [], _, _, _, _, _, _ => rfl
  | i :: l, a, b, ha, hb, hab, hl => by
    have hi := hl i (by simp)
    obtain ⟨h1, h2⟩ := al_fix ok h ha hb hab i hi
    simp only [tellF, h1]
    rw [tell_alike ok h l _ _ (ok.nx_lt ha hi) (ok.nx_lt hb hi) h2 fun c hc => hl c (by simp [hc])]
/-- The table of blocks tells what its states do. -/
theorem tell_least {t u : Tab} (ok : Ok t) {k : Nat} (h : nextF t (iter t k) = iter t k) (hu : LeastIs t (iter t k) u) : ∀ (l : List Nat) (a q : Nat), a < t.n → q < u.n → (iter t k).getD a 0 = (q : Int) → (∀ c ∈ l, c < wd t) → tellF t a l = tellF u q l
  | [], _, _, _, _, _, _ => rfl
  | i :: l, a, q, ha, hq, he, hl => by
    have hi := hl i (by simp)
    obtain ⟨s, hs, e1, f⟩ := hu.rep q hq
    obtain ⟨h1, h2⟩ := al_fix ok h ha hs (by unfold Al; rw [he, e1]) i hi
    simp only [tellF, h1, (f i hi).1]
    have h3 := (f i hi).2
    unfold Al at h2
    rw [tell_least ok h hu l (nx t a i) (nx u q i) (ok.nx_lt ha hi) (hu.ok.nx_lt hq (by rw [hu.wide]; exact hi)) (by rw [h2, h3]) fun c hc => hl c (by simp [hc])]

theorem not_al {t : Tab} (ok : Ok t) {d a b : Nat} (ha : a < t.n) (hb : b < t.n) (h1 : Al t d a b) (h2 : ¬ Al t (d + 1) a b) : ∃ c, c < wd t ∧ hitF t (d + 1) a b c = true := by
  apply Classical.byContradiction
  intro hc
  apply h2
  refine (al_succ ok ha hb).2 ⟨h1, fun c hcw => ?_⟩
  have hno : ¬ hitF t (d + 1) a b c = true := fun e => hc ⟨c, hcw, e⟩
  unfold hitF at hno
  cases d with
  | zero =>
    simp at hno
    exact ⟨hno, al_zero (ok.nx_lt ha hcw) (ok.nx_lt hb hcw)⟩
  | succ d =>
    rw [if_neg (by omega)] at hno
    simp only [Nat.add_sub_cancel, bne_iff_ne, ne_eq, Classical.not_not] at hno
    exact ⟨(((al_succ ok ha hb).1 h1).2 c hcw).1, hno⟩

/-- The first one that fits. -/
theorem first_below {p : Nat → Bool} : ∀ {n : Nat}, (∃ c, c < n ∧ p c = true) → ∃ i, i < n ∧ p i = true ∧ ∀ j, j < i → p j = false
  | 0, ⟨c, hc, _⟩ => by omega
  | n + 1, h => by
    by_cases hx : ∃ c, c < n ∧ p c = true
    · obtain ⟨i, hi, r⟩ := first_below hx
      exact ⟨i, by omega, r⟩
    · obtain ⟨c, hc, hp⟩ := h
      have hcn : c = n := by
        apply Classical.byContradiction
        intro hne
        exact hx ⟨c, by omega, hp⟩
      subst hcn
      exact ⟨c, by omega, hp, fun j hj => by
        cases hpj : p j with
        | false => rfl
        | true => exact absurd ⟨j, hj, hpj⟩ hx⟩

/-- The inputs that are told part two states, at the last one alone. -/
theorem part_tells {t : Tab} (ok : Ok t) : ∀ (d a b : Nat), a < t.n → b < t.n → Al t d a b → ¬ Al t (d + 1) a b →
    ∃ L : List Nat, partF t (d + 1) a b = L.map (fun (c : Nat) => (c : Int)) ∧ L.length = d + 1 ∧ (∀ c ∈ L, c < wd t) ∧ ∃ pre x y, tellF t a L = pre ++ [x] ∧ tellF t b L = pre ++ [y] ∧ x ≠ y ∧ pre.length = d
  | 0, a, b, ha, hb, h1, h2 => by
    obtain ⟨i, hi, hp, hn⟩ := first_below (not_al ok ha hb h1 h2)
    refine ⟨[i], by rw [partF_hit hi hp hn]; rfl, rfl, by simpa using hi, [], te t a i, te t b i, rfl, rfl, ?_, rfl⟩
    simpa [hitF] using hp
  | d + 1, a, b, ha, hb, h1, h2 => by
    obtain ⟨i, hi, hp, hn⟩ := first_below (not_al ok ha hb h1 h2)
    have hh := ((al_succ ok ha hb).1 h1).2 i hi
    have hna : ¬ Al t (d + 1) (nx t a i) (nx t b i) := by
      unfold hitF at hp
      rw [if_neg (by omega)] at hp
      simp only [Nat.add_sub_cancel, bne_iff_ne, ne_eq] at hp
      exact hp
    obtain ⟨L, e1, e2, e3, pre, x, y, e4, e5, e6, e7⟩ := part_tells ok d _ _ (ok.nx_lt ha hi) (ok.nx_lt hb hi) hh.2 hna
    refine ⟨i :: L, by rw [partF_hit hi hp hn, e1]; rfl, by simp [e2], ?_, te t a i :: pre, x, y, by simp [tellF, e4], by simp [tellF, e5, hh.1], e6, by simp [e7]⟩
    intro c hc
    rcases List.mem_cons.1 hc with rfl | hc
    · exact hi
    · exact e3 c hc

theorem apart_iff {t : Tab} {a b m : Nat} : apartF a b (iter t m) = true ↔ ¬ Al t m a b := by simp [apartF, Al]

theorem idx_same {t : Tab} (ok : Ok t) {k a b : Nat} (ha : a < t.n) (hb : b < t.n) (h : Al t k a b) : idx (apartF a b) (rndF t k) < 0 := by
  rw [idx_miss]
  · omega
  · intro i hi
    rw [rndF_get]
    rw [rndF_len] at hi
    cases he : apartF a b (iter t i) with
    | false => rfl
    | true => exact absurd (al_down ok ha hb (k - i) (by rwa [show i + (k - i) = k by omega])) (apart_iff.1 he)
theorem idx_apart {t : Tab} {k a b : Nat} (ok : Ok t) (ha : a < t.n) (hb : b < t.n) (h : ¬ Al t k a b) : ∃ d, d + 1 ≤ k ∧ idx (apartF a b) (rndF t k) = ((d + 1 : Nat) : Int) ∧ Al t d a b ∧ ¬ Al t (d + 1) a b := by
  obtain ⟨d, hd, h1, h2⟩ := first_such (fun m => ¬ Al t m a b) k ⟨k, Nat.le_refl _, h⟩
  cases d with
  | zero => exact absurd (al_zero ha hb) h1
  | succ d =>
    refine ⟨d, hd, ?_, Classical.not_not.1 (h2 d (by omega)), h1⟩
    have hlen := rndF_len t k
    refine idx_hit (by omega) ?_ ?_
    · rw [rndF_get]
      exact apart_iff.2 h1
    · intro i hi
      rw [rndF_get]
      cases he : apartF a b (iter t i) with
      | false => rfl
      | true => exact absurd (apart_iff.1 he) (h2 i hi)
end Go.Proofs.YtoikggboakojlaaDoor
