/-
  Plain facts of tables: which tables may be; the table of blocks; its own blocks are its states.
-/
import Derived.Test.YtoikggboakojlaaDoorP2
namespace Go.Proofs.YtoikggboakojlaaDoor

theorem rowsF_none {t : Tab} : ∀ {n s : Nat}, rowsF t s n = none ↔ ∀ i, s ≤ i → i < s + n → rowF t i = none
  | 0, s => by simp only [rowsF, true_iff]; intro i h1 h2; omega
  | n + 1, s => by
    unfold rowsF
    constructor
    · intro h i h1 h2
      split at h
      · cases h
      · rename_i hn
        rcases Nat.lt_or_ge s i with h' | h'
        · exact rowsF_none.1 h i (by omega) (by omega)
        · rw [show i = s by omega]; exact hn
    · intro h
      rw [h s (by omega) (by omega)]
      exact rowsF_none.2 fun i h1 h2 => h i (by omega) (by omega)
theorem rowF_none {t : Tab} {s : Nat} : rowF t s = none ↔ (t.next.getD s []).length = (t.next.getD 0 []).length ∧ (t.tells.getD s []).length = (t.next.getD 0 []).length ∧ ∀ x ∈ t.next.getD s [], 0 ≤ x ∧ x < (t.n : Int) := by
  unfold rowF Tab.n
  split
  · rename_i h
    simp only [reduceCtorEq, false_iff]
    rintro ⟨h1, h2, _⟩
    rcases h with h | h
    · exact h h1
    · exact h h2
  · rename_i h
    have h1 : (t.next.getD s []).length = (t.next.getD 0 []).length := by
      apply Classical.byContradiction; intro e; exact h (.inl e)
    have h2 : (t.tells.getD s []).length = (t.next.getD 0 []).length := by
      apply Classical.byContradiction; intro e; exact h (.inr e)
    split
    · rename_i ha
      simp only [reduceCtorEq, false_iff]
      rintro ⟨_, _, h3⟩
      obtain ⟨x, hx, hb⟩ := List.any_eq_true.1 ha
      have := h3 x hx
      simp at hb
      omega
    · rename_i ha
      simp only [true_iff]
      refine ⟨h1, h2, fun x hx => ?_⟩
      have : ¬ ((decide (x < 0) || decide ((t.next.length : Int) ≤ x)) = true) := fun e => ha (List.any_eq_true.2 ⟨x, hx, e⟩)
      simp at this
      omega
theorem ok_iff {t : Tab} : checkF t = none ↔ Ok t := by
  unfold checkF
  constructor
  · intro h
    split at h
    · cases h
    · split at h
      · cases h
      · have hr := fun (i : Nat) (hi : i < t.n) => rowF_none.1 (rowsF_none.1 h i (by omega) (by unfold Tab.n at hi; omega))
        exact ⟨by unfold Tab.n; omega, by unfold Tab.n; omega, by omega, by unfold Tab.n; omega, fun s hs => (hr s hs).1, fun s hs => (hr s hs).2.1, fun s hs => (hr s hs).2.2⟩
  · intro ok
    have h1 := ok.pos
    have h2 := ok.most
    have h3 := ok.ins
    have h4 := ok.tells
    unfold Tab.n at h1 h2 h4
    rw [if_neg (by omega), if_neg (by omega)]
    exact rowsF_none.2 fun i h1 h2 => rowF_none.2 ⟨ok.nextLen i (by unfold Tab.n; omega), ok.tellsLen i (by unfold Tab.n; omega), ok.there i (by unfold Tab.n; omega)⟩

def leastStep (t : Tab) (l : List Int) (st : List (List Int) × List (List Int)) (s : Nat) : List (List Int) × List (List Int) :=
  if l.getD s 0 < (st.1.length : Int) then st else (st.1 ++ [(t.next.getD s []).map fun x => l.getD x.toNat 0], st.2 ++ [t.tells.getD s []])
def leastSt (t : Tab) (l : List Int) (n : Nat) : List (List Int) × List (List Int) := (List.range n).foldl (leastStep t l) ([], [])
def leastF (t : Tab) (l : List Int) : Tab := ⟨(leastSt t l t.n).1, (leastSt t l t.n).2⟩

theorem leastSt_succ (t : Tab) (l : List Int) (n : Nat) : leastSt t l (n + 1) = leastStep t l (leastSt t l n) n := by
  simp [leastSt, List.range_succ]

structure LeastInv (t : Tab) (l : List Int) (S : List (List Int)) (n : Nat) (st : List (List Int) × List (List Int)) : Prop where
  len : st.2.length = st.1.length
  cnt : st.1.length = dn S n
  row : ∀ q, q < st.1.length → ∃ s, s < n ∧ l.getD s 0 = (q : Int) ∧ st.1.getD q [] = (t.next.getD s []).map (fun x => l.getD x.toNat 0) ∧ st.2.getD q [] = t.tells.getD s []

theorem least_inv {t : Tab} {l : List Int} {S : List (List Int)} (hS : S.length = t.n) (hl : l = numberF S) : ∀ {n : Nat}, n ≤ t.n → LeastInv t l S n (leastSt t l n)
  | 0, _ => ⟨rfl, rfl, fun q hq => by simp [leastSt] at hq⟩
  | n + 1, h => by
    have ih := least_inv hS hl (n := n) (by omega)
    rw [leastSt_succ]
    generalize leastSt t l n = st at ih
    obtain ⟨N, T⟩ := st
    obtain ⟨len, cnt, row⟩ := ih
    dsimp only at len cnt row
    unfold leastStep
    dsimp only
    by_cases hnew : ∀ i, i < n → S.getD i [] ≠ S.getD n []
    · obtain ⟨a1, a2⟩ := number_new (by omega) hnew
      rw [← hl] at a2
      rw [if_neg (by omega)]
      refine ⟨by simp [len], by simp [cnt, a1], fun q hq => ?_⟩
      simp only [List.length_append, List.length_cons, List.length_nil] at hq
      by_cases hq' : q < N.length
      · obtain ⟨s, hs, r1, r2, r3⟩ := row q hq'
        refine ⟨s, by omega, r1, ?_, ?_⟩
        · rw [getD_snoc, if_pos hq']; exact r2
        · rw [getD_snoc, if_pos (by omega)]; exact r3
      · refine ⟨n, by omega, by omega, ?_, ?_⟩
        · rw [getD_snoc, if_neg hq', if_pos (by omega)]
        · rw [getD_snoc, if_neg (by omega), if_pos (by omega)]
    · have ⟨i, hi⟩ := Classical.not_forall.1 hnew
      have ⟨hi, he⟩ := Classical.not_imp.1 hi
      have he := Classical.not_not.1 he
      obtain ⟨a1, k, a2, a3⟩ := number_old (by omega) hi he
      rw [← hl] at a2
      rw [if_pos (by omega)]
      exact ⟨len, by rw [cnt, a1], fun q hq => by obtain ⟨s, hs, r⟩ := row q hq; exact ⟨s, by omega, r⟩⟩

/-- The table of blocks, of numbers that go on so. -/
structure LeastIs (t : Tab) (l : List Int) (u : Tab) : Prop where
  ok : Ok u
  le : u.n ≤ t.n
  wide : wd u = wd t
  rep : ∀ q, q < u.n → ∃ s, s < t.n ∧ l.getD s 0 = (q : Int) ∧ ∀ c, c < wd t → te u q c = te t s c ∧ ((nx u q c : Nat) : Int) = l.getD (nx t s c) 0
  blk : ∀ s, s < t.n → ∃ q, q < u.n ∧ l.getD s 0 = (q : Int)

theorem least_is {t : Tab} (ok : Ok t) {l : List Int} (h : nextF t l = l) : LeastIs t l (leastF t l) := by
  have hS : ((List.range t.n).map (sig t l)).length = t.n := by simp
  have hl : l = numberF ((List.range t.n).map (sig t l)) := h.symm
  have inv := least_inv hS hl (Nat.le_refl t.n)
  obtain ⟨len, cnt, row⟩ := inv
  generalize hSS : (List.range t.n).map (sig t l) = S at hS hl cnt
  have hu1 : (leastF t l).next = (leastSt t l t.n).1 := rfl
  have hu2 : (leastF t l).tells = (leastSt t l t.n).2 := rfl
  rw [← hu1, ← hu2] at len row
  rw [← hu1] at cnt
  have hn : (leastF t l).n = dn S t.n := cnt
  have blk : ∀ s, s < t.n → ∃ q, q < (leastF t l).n ∧ l.getD s 0 = (q : Int) := by
    intro s hs
    obtain ⟨k, h1, h2⟩ := number_le (L := S) (n := t.n) (i := s) (by omega) hs
    exact ⟨k, by omega, by rw [hl, h1]⟩
  have hpos := ok.pos
  have hpos' : 0 < (leastF t l).n := by obtain ⟨q, hq, _⟩ := blk 0 (by omega); omega
  have hlen : ∀ q, q < (leastF t l).n → ((leastF t l).next.getD q []).length = wd t ∧ ((leastF t l).tells.getD q []).length = wd t := by
    intro q hq
    obtain ⟨s, hs, _, h2, h3⟩ := row q hq
    rw [h2, h3]
    exact ⟨by rw [List.length_map]; exact ok.nextLen s hs, ok.tellsLen s hs⟩
  have hw : wd (leastF t l) = wd t := (hlen 0 hpos').1
  have hle : (leastF t l).n ≤ t.n := by rw [hn]; exact dn_le (by omega)
  have hmost := ok.most
  refine ⟨⟨hpos', by omega, by have := ok.ins; unfold wd at hw; omega, len, fun s hs => by rw [(hlen s hs).1]; exact hw.symm, fun s hs => by rw [(hlen s hs).2]; exact hw.symm, ?_⟩, hle, hw, ?_, blk⟩
  · intro q hq x hx
    obtain ⟨s, hs, _, h2, _⟩ := row q hq
    rw [h2] at hx
    obtain ⟨y, hy, rfl⟩ := List.mem_map.1 hx
    have := ok.there s hs y hy
    obtain ⟨q', h1, h2⟩ := blk y.toNat (by omega)
    omega
  · intro q hq
    obtain ⟨s, hs, h1, h2, h3⟩ := row q hq
    refine ⟨s, hs, h1, fun c hc => ⟨by unfold te; rw [h3], ?_⟩⟩
    have hcl : c < (t.next.getD s []).length := by rw [ok.nextLen s hs]; exact hc
    have hnx := ok.nx_lt hs hc
    obtain ⟨q', h4, h5⟩ := blk _ hnx
    have e : ((leastF t l).next.getD q []).getD c 0 = l.getD (nx t s c) 0 := by
      rw [h2]
      unfold nx
      generalize t.next.getD s [] = r at hcl
      rw [List.getD_eq_getElem?_getD, List.getElem?_map, List.getD_eq_getElem?_getD (l := r), List.getElem?_eq_getElem hcl]
      rfl
    unfold nx at e ⊢
    rw [e]
    unfold nx at h5
    omega

theorem least_apart {t u : Tab} (ok : Ok t) {k k' : Nat} (h : nextF t (iter t k) = iter t k) (hu : LeastIs t (iter t k) u) (h' : nextF u (iter u k') = iter u k') :
    ∀ (r s s' q q' : Nat), s < t.n → s' < t.n → (iter t k).getD s 0 = (q : Int) → (iter t k).getD s' 0 = (q' : Int) → q < u.n → q' < u.n → Al u k' q q' → Al t r s s'
  | 0, s, s', _, _, hs, hs', _, _, _, _, _ => al_zero hs hs'
  | r + 1, s, s', q, q', hs, hs', hq, hq', hqn, hqn', ha => by
    obtain ⟨s1, hs1, e1, f1⟩ := hu.rep q hqn
    obtain ⟨s2, hs2, e2, f2⟩ := hu.rep q' hqn'
    have a1 : Al t (r + 1) s s1 := al_all ok h hs hs1 (by unfold Al; rw [hq, e1]) (r + 1)
    have a2 : Al t (r + 1) s' s2 := al_all ok h hs' hs2 (by unfold Al; rw [hq', e2]) (r + 1)
    have a3 : Al t (r + 1) s1 s2 := by
      refine (al_succ ok hs1 hs2).2 ⟨least_apart ok h hu h' r s1 s2 q q' hs1 hs2 e1 e2 hqn hqn' ha, fun c hc => ?_⟩
      have hc' : c < wd u := by rw [hu.wide]; exact hc
      obtain ⟨g1, g2⟩ := al_fix hu.ok h' hqn hqn' ha c hc'
      refine ⟨by rw [← (f1 c hc).1, ← (f2 c hc).1, g1], ?_⟩
      exact least_apart ok h hu h' r _ _ _ _ (ok.nx_lt hs1 hc) (ok.nx_lt hs2 hc) (f1 c hc).2.symm (f2 c hc).2.symm (hu.ok.nx_lt hqn hc') (hu.ok.nx_lt hqn' hc') g2
    unfold Al at a1 a2 a3 ⊢
    rw [a1, a2, a3]

/-- The table of blocks has its own states as its blocks. -/
theorem least_id {t u : Tab} (ok : Ok t) {k k' : Nat} (h : nextF t (iter t k) = iter t k) (hu : LeastIs t (iter t k) u) (h' : nextF u (iter u k') = iter u k') : ∀ i, i < u.n → (iter u k').getD i 0 = (i : Int) := by
  have inj : ∀ i j, i < u.n → j < u.n → Al u k' i j → i = j := by
    intro i j hi hj ha
    obtain ⟨s, hs, e, _⟩ := hu.rep i hi
    obtain ⟨s', hs', e', _⟩ := hu.rep j hj
    have := least_apart ok h hu h' k s s' i j hs hs' e e' hi hj ha
    unfold Al at this
    rw [e, e'] at this
    omega
  intro i hi
  rw [← h']
  unfold nextF
  refine number_id (fun i j hi hj he => ?_) i (by simpa using hi)
  have hi' : i < u.n := by simpa using hi
  have hj' : j < u.n := by simpa using hj
  refine inj i j hi' hj' ?_
  unfold Al
  rw [← h']
  exact (number_same hi hj).2 he
end Go.Proofs.YtoikggboakojlaaDoor
