/-
  Plain facts of tables: numbers of lists, rounds, the table of blocks.
-/
import Derived.Test.YtoikggboakojlaaDoorF7
namespace Go.Proofs.YtoikggboakojlaaDoor

theorem idx_neg {α : Type} {p : α → Bool} {l : List α} (h : idx p l < 0) : ∀ x ∈ l, p x = false := by
  unfold idx at h
  split at h
  · omega
  · rename_i hn
    rw [List.findIdx?_eq_none_iff] at hn
    intro x hx
    simpa using hn x hx
theorem idx_pos {α : Type} {p : α → Bool} {l : List α} (h : ¬ idx p l < 0) : ∃ k, ∃ hk : k < l.length, idx p l = (k : Int) ∧ p l[k] = true := by
  unfold idx at h ⊢
  split
  · rename_i i hi
    rw [List.findIdx?_eq_some_iff_getElem] at hi
    obtain ⟨h1, h2, _⟩ := hi
    exact ⟨i, h1, rfl, h2⟩
  · rename_i hn
    simp [hn] at h

theorem getD_snoc {α : Type} (l : List α) (x d : α) (i : Nat) : (l ++ [x]).getD i d = if i < l.length then l.getD i d else if i = l.length then x else d := by
  simp only [List.getD_eq_getElem?_getD, List.getElem?_append]
  split
  · rfl
  · split
    · subst_vars; simp
    · rename_i h1 h2
      have : i - l.length = (i - l.length - 1) + 1 := by omega
      rw [this]; rfl

structure NumInv (L : List (List Int)) (n : Nat) (st : List (List Int) × List Int) : Prop where
  inj : ∀ k k', k < st.1.length → k' < st.1.length → st.1.getD k [] = st.1.getD k' [] → k = k'
  len : st.2.length = n
  hit : ∀ i, i < n → ∃ k, k < st.1.length ∧ st.2.getD i 0 = (k : Int) ∧ st.1.getD k [] = L.getD i []
  src : ∀ k, k < st.1.length → ∃ i, i < n ∧ st.1.getD k [] = L.getD i []

theorem num_inv {L : List (List Int)} : ∀ {n : Nat}, n ≤ L.length → NumInv L n (numSt L n)
  | 0, _ => ⟨by simp [numSt], by simp [numSt], fun i hi => by omega, by simp [numSt]⟩
  | n + 1, h => by
    have ih := num_inv (L := L) (n := n) (by omega)
    rw [numSt_succ (by omega)]
    generalize numSt L n = st at ih
    obtain ⟨seen, out⟩ := st
    obtain ⟨inj, len, hit, src⟩ := ih
    dsimp only at inj len hit src
    have hn : L.getD n [] = L[n] := by simp [List.getD_eq_getElem?_getD, show n < L.length by omega]
    unfold numStep
    dsimp only
    split
    · rename_i hneg
      have hnew : ∀ k, k < seen.length → seen.getD k [] ≠ L[n] := by
        intro k hk
        have := idx_neg hneg seen[k] (by simp)
        rw [List.getD_eq_getElem?_getD]
        simpa [hk] using this
      refine ⟨?_, by simp [len], ?_, ?_⟩
      · intro k k' hk hk' he
        simp only [List.length_append, List.length_cons, List.length_nil] at hk hk'
        simp only [getD_snoc] at he
        split at he <;> split at he <;> first | omega | skip
        · exact inj k k' (by assumption) (by assumption) he
        · split at he
          · exact absurd he (hnew k (by assumption))
          · omega
        · split at he
          · exact absurd he.symm (hnew k' (by assumption))
          · omega
      · intro i hi
        rcases Nat.lt_or_ge i n with h' | h'
        · obtain ⟨k, hk, h1, h2⟩ := hit i h'
          refine ⟨k, by simp; omega, ?_, ?_⟩
          · rw [getD_snoc, if_pos (by omega)]; exact h1
          · rw [getD_snoc, if_pos hk]; exact h2
        · have : i = n := by omega
          subst this
          refine ⟨seen.length, by simp, ?_, ?_⟩
          · rw [getD_snoc, if_neg (by omega), if_pos (by omega)]
          · rw [getD_snoc, if_neg (by omega), if_pos rfl, hn]
      · intro k hk
        simp only [List.length_append, List.length_cons, List.length_nil] at hk
        rcases Nat.lt_or_ge k seen.length with h' | h'
        · obtain ⟨i, hi, he⟩ := src k h'
          exact ⟨i, by omega, by rw [getD_snoc, if_pos h']; exact he⟩
        · exact ⟨n, by omega, by rw [getD_snoc, if_neg (by omega), if_pos (by omega), hn]⟩
    · rename_i hneg
      obtain ⟨q, hq, hqi, hqe⟩ := idx_pos hneg
      have hqe : seen[q] = L[n] := by simpa using hqe
      refine ⟨inj, by simp [len], ?_, ?_⟩
      · intro i hi
        rcases Nat.lt_or_ge i n with h' | h'
        · obtain ⟨k, hk, h1, h2⟩ := hit i h'
          exact ⟨k, hk, by dsimp only; rw [getD_snoc, if_pos (by omega)]; exact h1, h2⟩
        · have : i = n := by omega
          subst this
          refine ⟨q, hq, ?_, ?_⟩
          · dsimp only
            rw [getD_snoc, if_neg (by omega), if_pos (by omega)]; exact hqi
          · dsimp only
            rw [hn, ← hqe, List.getD_eq_getElem?_getD]; simp [hq]
      · intro k hk
        obtain ⟨i, hi, he⟩ := src k hk
        exact ⟨i, by omega, he⟩

/-- How many lists there are among the first ones. -/
def dn (L : List (List Int)) (n : Nat) : Nat := (numSt L n).1.length

theorem num_stay {L : List (List Int)} {n : Nat} : ∀ (d : Nat), n + d ≤ L.length → ∀ i, i < n → (numSt L (n + d)).2.getD i 0 = (numSt L n).2.getD i 0
  | 0, _, _, _ => rfl
  | d + 1, h, i, hi => by
    rw [← num_stay d (by omega) i hi, ← Nat.add_assoc, numSt_succ (by omega)]
    have hl := (num_inv (L := L) (n := n + d) (by omega)).len
    unfold numStep
    split <;> (dsimp only; rw [getD_snoc, if_pos (by omega)])
theorem numberF_at {L : List (List Int)} {n i : Nat} (h : n ≤ L.length) (hi : i < n) : (numberF L).getD i 0 = (numSt L n).2.getD i 0 := by
  have := num_stay (L := L) (n := n) (L.length - n) (by omega) i hi
  rw [show n + (L.length - n) = L.length by omega] at this
  exact this

theorem number_same {L : List (List Int)} {i j : Nat} (hi : i < L.length) (hj : j < L.length) : (numberF L).getD i 0 = (numberF L).getD j 0 ↔ L.getD i [] = L.getD j [] := by
  have h := num_inv (L := L) (n := L.length) (Nat.le_refl _)
  obtain ⟨k, hk, h1, h2⟩ := h.hit i hi
  obtain ⟨k', hk', h1', h2'⟩ := h.hit j hj
  unfold numberF
  rw [h1, h1', ← h2, ← h2']
  constructor
  · intro e
    have : k = k' := by omega
    rw [this]
  · intro e
    rw [h.inj k k' hk hk' e]

theorem number_new {L : List (List Int)} {n : Nat} (h : n < L.length) (hnew : ∀ i, i < n → L.getD i [] ≠ L.getD n []) : dn L (n + 1) = dn L n + 1 ∧ (numberF L).getD n 0 = (dn L n : Int) := by
  have hs := numSt_succ h
  have inv := num_inv (L := L) (n := n) (by omega)
  have hn : L.getD n [] = L[n] := by simp [List.getD_eq_getElem?_getD, h]
  have hidx : idx (fun x => x == L[n]) (numSt L n).1 < 0 := by
    apply Classical.byContradiction
    intro hc
    obtain ⟨q, hq, _, hqe⟩ := idx_pos hc
    obtain ⟨i, hi, he⟩ := inv.src q hq
    apply hnew i hi
    rw [hn, ← he, List.getD_eq_getElem?_getD]
    simpa [hq] using hqe
  have hl := inv.len
  unfold numStep at hs
  rw [if_pos hidx] at hs
  constructor
  · simp [dn, hs]
  · rw [numberF_at (n := n + 1) (by omega) (by omega), hs]
    dsimp only
    rw [getD_snoc, if_neg (by omega), if_pos (by omega)]
    rfl
theorem number_old {L : List (List Int)} {n i : Nat} (h : n < L.length) (hi : i < n) (he : L.getD i [] = L.getD n []) : dn L (n + 1) = dn L n ∧ ∃ k : Nat, (numberF L).getD n 0 = (k : Int) ∧ k < dn L n := by
  have hs := numSt_succ h
  have inv := num_inv (L := L) (n := n) (by omega)
  obtain ⟨k, hk, h1, h2⟩ := inv.hit i hi
  have hn : L.getD n [] = L[n] := by simp [List.getD_eq_getElem?_getD, h]
  have hidx : ¬ idx (fun x => x == L[n]) (numSt L n).1 < 0 := by
    intro hc
    have := idx_neg hc ((numSt L n).1[k]) (by simp)
    rw [he, hn, List.getD_eq_getElem?_getD] at h2
    simp [hk] at h2
    simp [h2] at this
  refine ⟨?_, k, ?_, hk⟩
  · unfold numStep at hs
    rw [if_neg hidx] at hs
    simp [dn, hs]
  · rw [← (number_same (L := L) (i := i) (j := n) (by omega) h).2 he, numberF_at (n := n) (by omega) hi, h1]

theorem number_le {L : List (List Int)} {n i : Nat} (hn : n ≤ L.length) (hi : i < n) : ∃ k : Nat, (numberF L).getD i 0 = (k : Int) ∧ k < dn L n := by
  obtain ⟨k, hk, h1, _⟩ := (num_inv hn).hit i hi
  exact ⟨k, by rw [numberF_at hn hi, h1], hk⟩
theorem dn_le {L : List (List Int)} {n : Nat} (hn : n ≤ L.length) : dn L n ≤ n := (numSt_len hn).1

theorem number_congr {L M : List (List Int)} (hl : L.length = M.length) (h : ∀ i j, i < L.length → j < L.length → (L.getD i [] = L.getD j [] ↔ M.getD i [] = M.getD j [])) : numberF L = numberF M := by
  have key : ∀ n, n ≤ L.length → dn L n = dn M n ∧ ∀ i, i < n → (numberF L).getD i 0 = (numberF M).getD i 0 := by
    intro n
    induction n with
    | zero => intro _; exact ⟨rfl, fun i hi => by omega⟩
    | succ n ih =>
      intro hn
      obtain ⟨h1, h2⟩ := ih (by omega)
      by_cases hnew : ∀ i, i < n → L.getD i [] ≠ L.getD n []
      · have hnew' : ∀ i, i < n → M.getD i [] ≠ M.getD n [] := fun i hi e => hnew i hi ((h i n (by omega) (by omega)).2 e)
        obtain ⟨a1, a2⟩ := number_new (by omega) hnew
        obtain ⟨b1, b2⟩ := number_new (by omega) hnew'
        refine ⟨by omega, fun i hi => ?_⟩
        rcases Nat.lt_or_ge i n with h' | h'
        · exact h2 i h'
        · have : i = n := by omega
          subst this
          rw [a2, b2, h1]
      · have ⟨i, hi⟩ := Classical.not_forall.1 hnew
        have ⟨hi, he⟩ := Classical.not_imp.1 hi
        have he := Classical.not_not.1 he
        have he' := (h i n (by omega) (by omega)).1 he
        have a1 := (number_old (by omega) hi he).1
        have b1 := (number_old (L := M) (by omega) hi he').1
        refine ⟨by omega, fun j hj => ?_⟩
        rcases Nat.lt_or_ge j n with h' | h'
        · exact h2 j h'
        · have : j = n := by omega
          subst this
          rw [← (number_same (L := L) (i := i) (j := j) (by omega) (by omega)).2 he, ← (number_same (L := M) (i := i) (j := j) (by omega) (by omega)).2 he']
          exact h2 i hi
  apply List.ext_getElem
  · rw [numberF_len, numberF_len, hl]
  · intro i h1 h2
    have := (key L.length (Nat.le_refl _)).2 i (by rw [numberF_len] at h1; exact h1)
    simpa [List.getD_eq_getElem?_getD, h1, h2] using this

/-- Lists that are all unlike are numbered 0, 1, 2, .. -/
theorem number_id {L : List (List Int)} (h : ∀ i j, i < L.length → j < L.length → L.getD i [] = L.getD j [] → i = j) : ∀ i, i < L.length → (numberF L).getD i 0 = (i : Int) := by
  have key : ∀ n, n ≤ L.length → dn L n = n := by
    intro n
    induction n with
    | zero => intro _; rfl
    | succ n ih =>
      intro hn
      rw [(number_new (L := L) (n := n) (by omega) (fun i hi e => by have := h i n (by omega) (by omega) e; omega)).1, ih (by omega)]
  intro i hi
  rw [(number_new (L := L) (n := i) hi (fun j hj e => by have := h j i (by omega) (by omega) e; omega)).2, key i (by omega)]
end Go.Proofs.YtoikggboakojlaaDoor
