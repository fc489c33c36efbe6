/-
  Plain facts of tables: the rounds come to an end; which states are alike.
-/
import Derived.Test.YtoikggboakojlaaDoorP1
namespace Go.Proofs.YtoikggboakojlaaDoor

def nx (t : Tab) (s c : Nat) : Nat := ((t.next.getD s []).getD c 0).toNat
def te (t : Tab) (s c : Nat) : Int := (t.tells.getD s []).getD c 0
def wd (t : Tab) : Nat := (t.next.getD 0 []).length
/-- After so many rounds two states have the same number. -/
def Al (t : Tab) (k i j : Nat) : Prop := (iter t k).getD i 0 = (iter t k).getD j 0

theorem Ok.nx_lt {t : Tab} (ok : Ok t) {s c : Nat} (hs : s < t.n) (hc : c < wd t) : nx t s c < t.n := by
  have hl := ok.nextLen s hs
  have hc : c < (t.next.getD 0 []).length := hc
  rw [← hl] at hc
  have hth := ok.there s hs
  unfold nx
  generalize t.next.getD s [] = r at hc hth
  have hm : r.getD c 0 ∈ r := by
    rw [List.getD_eq_getElem?_getD, List.getElem?_eq_getElem hc]
    exact List.getElem_mem hc
  have := hth _ hm
  omega

theorem sigN_same (t : Tab) (now : List Int) (s s' : Nat) : ∀ i, sigN t now s i = sigN t now s' i ↔ now.getD s 0 = now.getD s' 0 ∧ ∀ c, c < i → te t s c = te t s' c ∧ now.getD (nx t s c) 0 = now.getD (nx t s' c) 0
  | 0 => by simp [sigN]
  | i + 1 => by
    rw [sigN_succ, sigN_succ]
    constructor
    · intro h
      obtain ⟨h1, h2⟩ := List.append_inj' h rfl
      obtain ⟨h3, h4⟩ := (sigN_same t now s s' i).1 h1
      refine ⟨h3, fun c hc => ?_⟩
      rcases Nat.lt_or_ge c i with h' | h'
      · exact h4 c h'
      · have : c = i := by omega
        subst this
        simp only [List.cons.injEq, and_true] at h2
        exact h2
    · rintro ⟨h3, h4⟩
      rw [(sigN_same t now s s' i).2 ⟨h3, fun c hc => h4 c (by omega)⟩]
      obtain ⟨h5, h6⟩ := h4 i (by omega)
      unfold te at h5
      unfold nx at h6
      rw [h5, h6]

theorem sig_same {t : Tab} (ok : Ok t) (now : List Int) {s s' : Nat} (hs : s < t.n) (hs' : s' < t.n) :
    sig t now s = sig t now s' ↔ now.getD s 0 = now.getD s' 0 ∧ ∀ c, c < wd t → te t s c = te t s' c ∧ now.getD (nx t s c) 0 = now.getD (nx t s' c) 0 := by
  unfold sig
  rw [ok.nextLen s hs, ok.nextLen s' hs']
  exact sigN_same t now s s' _

theorem getD_sigs (t : Tab) (now : List Int) {s : Nat} (hs : s < t.n) : ((List.range t.n).map (sig t now)).getD s [] = sig t now s := by
  rw [List.getD_eq_getElem?_getD]
  simp [hs]

theorem al_succ {t : Tab} (ok : Ok t) {k i j : Nat} (hi : i < t.n) (hj : j < t.n) : Al t (k + 1) i j ↔ Al t k i j ∧ ∀ c, c < wd t → te t i c = te t j c ∧ Al t k (nx t i c) (nx t j c) := by
  unfold Al
  rw [iter, nextF, number_same (by simpa using hi) (by simpa using hj), getD_sigs t _ hi, getD_sigs t _ hj, sig_same ok _ hi hj]
theorem al_zero {t : Tab} {i j : Nat} (hi : i < t.n) (hj : j < t.n) : Al t 0 i j := by
  simp [Al, iter, List.getD_eq_getElem?_getD, hi, hj]
theorem al_down {t : Tab} (ok : Ok t) {i j : Nat} (hi : i < t.n) (hj : j < t.n) {k : Nat} : ∀ d, Al t (k + d) i j → Al t k i j
  | 0, h => h
  | d + 1, h => al_down ok hi hj d ((al_succ ok hi hj).1 h).1

/-- Rounds that part no more stay. -/
theorem iter_stay {t : Tab} {k : Nat} (h : nextF t (iter t k) = iter t k) : ∀ d, iter t (k + d) = iter t k
  | 0 => rfl
  | d + 1 => by rw [← Nat.add_assoc, iter, iter_stay h d, h]

theorem stable {t : Tab} (ok : Ok t) {k : Nat} (h : ∀ i j, i < t.n → j < t.n → Al t k i j → Al t (k + 1) i j) : nextF t (iter t k) = iter t k := by
  have hiff : ∀ i j, i < t.n → j < t.n → (Al t (k + 1) i j ↔ Al t k i j) := fun i j hi hj => ⟨al_down ok hi hj 1, h i j hi hj⟩
  have hs : ∀ m i j, i < t.n → j < t.n → (((List.range t.n).map (sig t (iter t m))).getD i [] = ((List.range t.n).map (sig t (iter t m))).getD j [] ↔ Al t (m + 1) i j) := by
    intro m i j hi hj
    unfold Al
    rw [iter, nextF, number_same (by simpa using hi) (by simpa using hj)]
  cases k with
  | zero =>
    apply List.ext_getElem
    · simp [nextF, numberF_len, iter]
    · intro i h1 h2
      have hi : i < t.n := by simpa [iter] using h2
      have h0 : 0 < t.n := by omega
      have e : Al t 1 i 0 := (hiff i 0 hi h0).2 (al_zero hi h0)
      have e0 : (iter t 1).getD 0 0 = 0 := by
        have := (number_new (L := (List.range t.n).map (sig t (iter t 0))) (n := 0) (by simpa using h0) (fun i hi => by omega)).2
        simpa [iter, nextF, dn, numSt] using this
      have h1' : i < (iter t 1).length := h1
      unfold Al at e
      rw [e0, List.getD_eq_getElem?_getD] at e
      have e' : (iter t 1)[i] = 0 := by simpa [h1'] using e
      have e2 : (iter t 0)[i] = 0 := by simp [iter]
      rw [e2, ← e']
      rfl
  | succ k =>
    show numberF _ = numberF _
    refine number_congr (by simp) fun i j hi hj => ?_
    have hi : i < t.n := by simpa using hi
    have hj : j < t.n := by simpa using hj
    rw [hs _ i j hi hj, hs _ i j hi hj]
    exact hiff i j hi hj

theorem countP_eq {α : Type} {p q : α → Bool} : ∀ {l : List α}, (∀ x ∈ l, p x = true → q x = true) → l.countP q ≤ l.countP p → ∀ x ∈ l, q x = true → p x = true
  | [], _, _, x, hx, _ => by simp at hx
  | y :: l, h, hc, x, hx, hq => by
    have hm : l.countP p ≤ l.countP q := List.countP_mono_left fun x hx => h x (by simp [hx])
    have hy := h y (by simp)
    simp only [List.countP_cons] at hc
    have h2 : l.countP q ≤ l.countP p ∧ (q y = true → p y = true) := by
      cases hpy : p y <;> cases hqy : q y <;> simp_all <;> omega
    rcases List.mem_cons.1 hx with rfl | hx
    · exact h2.2 hq
    · exact countP_eq (fun x hx => h x (by simp [hx])) h2.1 x hx hq

def pairs (n : Nat) : List (Nat × Nat) := (List.range n).flatMap fun i => (List.range n).map fun j => (i, j)
theorem mem_pairs {n : Nat} {p : Nat × Nat} : p ∈ pairs n ↔ p.1 < n ∧ p.2 < n := by
  unfold pairs
  simp only [List.mem_flatMap, List.mem_range, List.mem_map]
  constructor
  · rintro ⟨i, hi, j, hj, rfl⟩; exact ⟨hi, hj⟩
  · rintro ⟨h1, h2⟩; exact ⟨p.1, h1, p.2, h2, rfl⟩
theorem flat_len {α β : Type} (f : α → List β) (n : Nat) : ∀ (l : List α), (∀ x ∈ l, (f x).length = n) → (l.flatMap f).length = l.length * n
  | [], _ => by simp
  | x :: l, h => by
    rw [List.flatMap_cons, List.length_append, h x (by simp), flat_len f n l (fun y hy => h y (by simp [hy])), List.length_cons, Nat.add_mul, Nat.one_mul, Nat.add_comm]
theorem pairs_len (n : Nat) : (pairs n).length = n * n := by
  unfold pairs
  rw [flat_len _ n _ (by simp)]
  simp

open Classical in
noncomputable def cnt (t : Tab) (k : Nat) : Nat := (pairs t.n).countP fun p => decide (Al t k p.1 p.2)

theorem cnt_lt {t : Tab} (ok : Ok t) {k : Nat} (h : nextF t (iter t k) ≠ iter t k) : cnt t (k + 1) < cnt t k := by
  classical
  apply Classical.byContradiction
  intro hc
  apply h
  refine stable ok fun i j hi hj ha => ?_
  unfold cnt at hc
  have := countP_eq (p := fun p => decide (Al t (k + 1) p.1 p.2)) (q := fun p => decide (Al t k p.1 p.2)) (l := pairs t.n) (fun p hp hx => by
    have hp := mem_pairs.1 hp
    simp only [decide_eq_true_eq] at hx ⊢
    exact al_down ok hp.1 hp.2 1 hx) (by omega) (i, j) (mem_pairs.2 ⟨hi, hj⟩) (by simpa using ha)
  simpa using this

theorem first_such (P : Nat → Prop) : ∀ N, (∃ k, k ≤ N ∧ P k) → ∃ k, k ≤ N ∧ P k ∧ ∀ j, j < k → ¬ P j
  | 0, ⟨k, hk, h⟩ => ⟨0, by omega, by rwa [show k = 0 by omega] at h, fun j hj => by omega⟩
  | N + 1, ⟨k, hk, h⟩ => by
    by_cases hx : ∃ k, k ≤ N ∧ P k
    · obtain ⟨k, hk, r⟩ := first_such P N hx
      exact ⟨k, by omega, r⟩
    · exact ⟨k, hk, h, fun j hj hp => hx ⟨j, by omega, hp⟩⟩

theorem stops_ex {t : Tab} (ok : Ok t) : ∃ k, k ≤ t.n * t.n ∧ Stops t k := by
  refine first_such (fun k => nextF t (iter t k) = iter t k) _ ?_
  apply Classical.byContradiction
  intro hc
  have hall : ∀ k, k ≤ t.n * t.n → nextF t (iter t k) ≠ iter t k := fun k hk e => hc ⟨k, hk, e⟩
  have key : ∀ k, k ≤ t.n * t.n + 1 → cnt t k + k ≤ t.n * t.n := by
    intro k
    induction k with
    | zero =>
      intro _
      have h1 : cnt t 0 ≤ (pairs t.n).length := List.countP_le_length
      rw [pairs_len] at h1
      omega
    | succ k ih =>
      intro hk
      have h1 := ih (by omega)
      have h2 := cnt_lt ok (hall k (by omega))
      omega
  have := key (t.n * t.n + 1) (Nat.le_refl _)
  omega
theorem stops_small {t : Tab} (ok : Ok t) : ∃ k, k < 2^20 ∧ Stops t k := by
  obtain ⟨k, hk, h⟩ := stops_ex ok
  refine ⟨k, ?_, h⟩
  have h1 := ok.most
  have : t.n * t.n ≤ 500 * 500 := Nat.mul_le_mul h1 h1
  omega
theorem stops_one {t : Tab} {k k' : Nat} (h : Stops t k) (h' : Stops t k') : k = k' := by
  rcases Nat.lt_trichotomy k k' with hlt | rfl | hlt
  · exact absurd h.1 (h'.2 k hlt)
  · rfl
  · exact absurd h'.1 (h.2 k' hlt)

/-- What the rounds come to: alike now, then they go on so. -/
theorem al_fix {t : Tab} (ok : Ok t) {k : Nat} (h : nextF t (iter t k) = iter t k) {i j : Nat} (hi : i < t.n) (hj : j < t.n) (ha : Al t k i j) : ∀ c, c < wd t → te t i c = te t j c ∧ Al t k (nx t i c) (nx t j c) := by
  have : Al t (k + 1) i j := by unfold Al; rw [iter, h]; exact ha
  exact ((al_succ ok hi hj).1 this).2
theorem al_all {t : Tab} (ok : Ok t) {k : Nat} (h : nextF t (iter t k) = iter t k) {i j : Nat} (hi : i < t.n) (hj : j < t.n) (ha : Al t k i j) (m : Nat) : Al t m i j := by
  rcases Nat.le_total m k with hm | hm
  · exact al_down ok hi hj (k - m) (by rwa [show m + (k - m) = k by omega])
  · unfold Al
    rw [show m = k + (m - k) by omega, iter_stay h]
    exact ha
end Go.Proofs.YtoikggboakojlaaDoor
