/-
  Texts that belong together, in one file: P8, P12, P13, Ty, F1, F2, F3, F4, F5, F6, E1, E2, Av20, Av21, E3, E4, G1, S1, S2.
-/
import Derived.Test.YtoikggboakojlaaDoorGs2
import Derived.Test.YtoikggboakojlaaDoorProg
import Derived.WalkKit
import Derived.LaidEql
import Derived.Stop.Asserts
import Derived.RowKitTokens
import Derived.ProofKit
import Derived.OpenShut
import Derived.Carry
import Derived.Deep.Slices
import Derived.RegionTactic
import Derived.ChangeAlike
/-
  Plain facts of what is worked out until nothing changes.
-/
namespace Go.Proofs.YtoikggboakojlaaDoor
set_option linter.unusedSimpArgs false
set_option linter.unusedVariables false

/-- Below, where st is at the bottom. -/
def Le (st a b : Bool) : Prop := a = st ∨ a = b
theorem Le.refl (st a : Bool) : Le st a a := .inr rfl
theorem Le.trans {st a b c : Bool} (h : Le st a b) (h' : Le st b c) : Le st a c := by
  rcases h with h | rfl
  · exact .inl h
  · exact h'
theorem Le.anti {st a b : Bool} (h : Le st a b) (h' : Le st b a) : a = b := by
  rcases h with rfl | rfl
  · rcases h' with rfl | rfl <;> rfl
  · rfl
theorem Le.ne {st a b : Bool} (h : Le st a b) (hne : a ≠ b) : a = st ∧ b ≠ st := by
  rcases h with rfl | h
  · exact ⟨rfl, fun e => hne e.symm⟩
  · exact absurd h hne

def MonoN (now : Nat → Bool → Bool) : Prop := ∀ i, now i false = true → now i true = true
theorem MonoN.le {now : Nat → Bool → Bool} (h : MonoN now) (st : Bool) {i : Nat} {a b : Bool} (hab : Le st a b) : Le st (now i a) (now i b) := by
  have hi := h i
  rcases hab with rfl | rfl
  · cases a <;> cases b <;> unfold Le <;> cases h1 : now i false <;> cases h2 : now i true <;> simp_all
  · exact .refl _ _

def iterN (now : Nat → Bool → Bool) (nx : Nat → Nat) (st : Bool) : Nat → Nat → Bool
  | 0, _ => st
  | k + 1, i => now i (iterN now nx st k (nx i))

theorem iterN_le {now : Nat → Bool → Bool} (h : MonoN now) (nx : Nat → Nat) (st : Bool) : ∀ k i, Le st (iterN now nx st k i) (iterN now nx st (k + 1) i)
  | 0, i => .inl rfl
  | k + 1, i => h.le st (iterN_le h nx st k (nx i))
theorem iterN_least {now : Nat → Bool → Bool} (h : MonoN now) {nx : Nat → Nat} {st : Bool} {n : Nat} (hn : ∀ i, i < n → nx i < n) {f : Nat → Bool} (hf : ∀ i, i < n → f i = now i (f (nx i))) : ∀ k i, i < n → Le st (iterN now nx st k i) (f i)
  | 0, i, _ => .inl rfl
  | k + 1, i, hi => by
    rw [hf i hi]
    exact h.le st (iterN_least h hn hf k _ (hn i hi))

def cntB (f : Nat → Bool) : Nat → Nat
  | 0 => 0
  | n + 1 => cntB f n + if f n then 1 else 0
theorem cntB_le (f : Nat → Bool) : ∀ n, cntB f n ≤ n
  | 0 => Nat.le_refl _
  | n + 1 => by
    have := cntB_le f n
    simp only [cntB]
    split <;> omega
theorem cntB_mono {f g : Nat → Bool} : ∀ n, (∀ i, i < n → f i = true → g i = true) → cntB f n ≤ cntB g n
  | 0, _ => Nat.le_refl _
  | n + 1, h => by
    have ih := cntB_mono n fun i hi => h i (by omega)
    have hn := h n (by omega)
    simp only [cntB]
    cases h1 : f n with
    | false => simp; omega
    | true => rw [hn h1]; simp; omega
theorem cntB_lt {f g : Nat → Bool} : ∀ n, (∀ i, i < n → f i = true → g i = true) → (∃ i, i < n ∧ f i = false ∧ g i = true) → cntB f n < cntB g n
  | 0, _, ⟨i, hi, _⟩ => by omega
  | n + 1, h, ⟨i, hi, h1, h2⟩ => by
    have hn := h n (by omega)
    simp only [cntB]
    by_cases hin : i = n
    · subst hin
      have := cntB_mono i fun j hj => h j (by omega)
      rw [h1, h2]
      simp; omega
    · have := cntB_lt n (fun j hj => h j (by omega)) ⟨i, by omega, h1, h2⟩
      cases h3 : f n with
      | false => simp; split <;> omega
      | true => rw [hn h3]; simp; omega

/-- How many are not at the bottom. -/
def up (st : Bool) (n : Nat) (f : Nat → Bool) : Nat := cntB (fun i => f i != st) n
theorem up_le (st : Bool) (n : Nat) (f : Nat → Bool) : up st n f ≤ n := cntB_le _ _
theorem up_mono {st : Bool} {n : Nat} {f g : Nat → Bool} (h : ∀ i, i < n → Le st (f i) (g i)) : up st n f ≤ up st n g := cntB_mono n fun i hi hf => by
  simp only [bne_iff_ne, ne_eq] at hf ⊢
  rcases h i hi with h | h
  · exact absurd h hf
  · rwa [← h]
theorem up_lt {st : Bool} {n : Nat} {f g : Nat → Bool} (h : ∀ i, i < n → Le st (f i) (g i)) (hx : ∃ i, i < n ∧ f i ≠ g i) : up st n f < up st n g := cntB_lt n (fun i hi hf => by
  simp only [bne_iff_ne, ne_eq] at hf ⊢
  rcases h i hi with h | h
  · exact absurd h hf
  · rwa [← h]) (by
  obtain ⟨i, hi, hne⟩ := hx
  obtain ⟨h1, h2⟩ := (h i hi).ne hne
  exact ⟨i, hi, by simp [h1], by simpa using h2⟩)

theorem iterN_stop {now : Nat → Bool → Bool} (h : MonoN now) {nx : Nat → Nat} {st : Bool} {n : Nat} (hn : ∀ i, i < n → nx i < n) : ∃ k, k ≤ n ∧ ∀ i, i < n → iterN now nx st k i = iterN now nx st (k + 1) i := by
  apply Classical.byContradiction
  intro hno
  have key : ∀ k, k ≤ n + 1 → k ≤ up st n (iterN now nx st k) := by
    intro k
    induction k with
    | zero => intro _; omega
    | succ k ih =>
      intro hk
      have h1 := ih (by omega)
      have hx : ∃ i, i < n ∧ iterN now nx st k i ≠ iterN now nx st (k + 1) i := by
        apply Classical.byContradiction
        intro hall
        exact hno ⟨k, by omega, fun i hi => Classical.byContradiction fun hne => hall ⟨i, hi, hne⟩⟩
      have := up_lt (fun i _ => iterN_le h nx st k i) hx
      omega
  have h1 := key (n + 1) (Nat.le_refl _)
  have h2 := up_le st n (iterN now nx st (n + 1))
  omega
theorem iterN_stay {now : Nat → Bool → Bool} {nx : Nat → Nat} {st : Bool} {n k : Nat} (hn : ∀ i, i < n → nx i < n) (hk : ∀ i, i < n → iterN now nx st k i = iterN now nx st (k + 1) i) : ∀ d i, i < n → iterN now nx st (k + d) i = iterN now nx st k i
  | 0, i, _ => rfl
  | d + 1, i, hi => by
    have ih := iterN_stay hn hk d _ (hn i hi)
    rw [hk i hi, ← Nat.add_assoc]
    simp only [iterN]
    rw [ih]
/-- From n on, all stays. -/
theorem iterN_all {now : Nat → Bool → Bool} (h : MonoN now) {nx : Nat → Nat} {st : Bool} {n : Nat} (hn : ∀ i, i < n → nx i < n) {m : Nat} (hm : n ≤ m) {i : Nat} (hi : i < n) : iterN now nx st m i = iterN now nx st n i := by
  obtain ⟨k, hk, he⟩ := iterN_stop h (st := st) hn
  have h1 := iterN_stay hn he (m - k) i hi
  have h2 := iterN_stay hn he (n - k) i hi
  rw [show k + (m - k) = m by omega] at h1
  rw [show k + (n - k) = n by omega] at h2
  rw [h1, h2]
theorem iterN_fix {now : Nat → Bool → Bool} (h : MonoN now) {nx : Nat → Nat} {st : Bool} {n : Nat} (hn : ∀ i, i < n → nx i < n) {i : Nat} (hi : i < n) : iterN now nx st n i = now i (iterN now nx st n (nx i)) :=
  (iterN_all h hn (Nat.le_succ n) hi).symm
/-- What lies between, and is so now as it is by what is next, is it. -/
theorem iterN_is {now : Nat → Bool → Bool} (h : MonoN now) {nx : Nat → Nat} {st : Bool} {n : Nat} (hn : ∀ i, i < n → nx i < n) {f : Nat → Bool} (hf : ∀ i, i < n → f i = now i (f (nx i))) (hle : ∀ i, i < n → Le st (f i) (iterN now nx st n i)) {i : Nat} (hi : i < n) : f i = iterN now nx st n i :=
  (hle i hi).anti (iterN_least h hn hf n i hi)

/-- One of them set. -/
def setB (f : Nat → Bool) (i : Nat) (x : Bool) : Nat → Bool := fun j => if j = i then x else f j
/-- What is kept all along. -/
structure Kept (now : Nat → Bool → Bool) (nx : Nat → Nat) (st : Bool) (n : Nat) (f : Nat → Bool) : Prop where
  le : ∀ i, i < n → Le st (f i) (iterN now nx st n i)
  grow : ∀ i, i < n → Le st (f i) (now i (f (nx i)))
theorem Kept.start (now : Nat → Bool → Bool) (nx : Nat → Nat) (st : Bool) (n : Nat) : Kept now nx st n fun _ => st := ⟨fun _ _ => .inl rfl, fun _ _ => .inl rfl⟩
theorem Kept.set {now : Nat → Bool → Bool} {nx : Nat → Nat} {st : Bool} {n : Nat} {f : Nat → Bool} (k : Kept now nx st n f) (h : MonoN now) (hn : ∀ i, i < n → nx i < n) {i : Nat} (hi : i < n) (hne : now i (f (nx i)) ≠ f i) :
    Kept now nx st n (setB f i (now i (f (nx i)))) ∧ up st n f < up st n (setB f i (now i (f (nx i)))) := by
  have hup : ∀ j, j < n → Le st (f j) (setB f i (now i (f (nx i))) j) := fun j hj => by
    unfold setB
    split
    · rename_i e; subst e; exact k.grow j hj
    · exact .refl _ _
  refine ⟨⟨fun j hj => ?_, fun j hj => ?_⟩, up_lt hup ⟨i, hi, by simp [setB, Ne.symm hne]⟩⟩
  · by_cases e : j = i
    · subst e
      rw [show setB f j (now j (f (nx j))) j = now j (f (nx j)) by simp [setB], iterN_fix h hn hj]
      exact h.le st (k.le _ (hn j hj))
    · rw [show setB f i (now i (f (nx i))) j = f j by simp [setB, e]]
      exact k.le j hj
  · have hb := h.le st (i := j) (hup (nx j) (hn j hj))
    by_cases e : j = i
    · subst e
      rw [show setB f j (now j (f (nx j))) j = now j (f (nx j)) by simp [setB]]
      exact hb
    · rw [show setB f i (now i (f (nx i))) j = f j by simp [setB, e]]
      exact (k.grow j hj).trans hb
end Go.Proofs.YtoikggboakojlaaDoor

/-
  Plain facts of trying values: what is set follows; the first values of which all clauses hold.
-/
namespace Go.Proofs.YtoikggboakojlaaDoor
set_option linter.unusedSimpArgs false
set_option linter.unusedVariables false

abbrev Cl := List (List Int)
/-- What is set: literals, in the order in which they were set. -/
structure GoodT (V : Nat) (tr : List Int) : Prop where
  pos : ∀ x ∈ tr, x ≠ 0 ∧ x ≤ V ∧ -V ≤ x
  one : ∀ x ∈ tr, -x ∉ tr
  nodup : tr.Nodup
def isT (tr : List Int) (x : Int) : Int := if x ∈ tr then 1 else if -x ∈ tr then -1 else 0
def stepC (tr : List Int) (s : Int × Nat × Bool) (x : Int) : Int × Nat × Bool :=
  if isT tr x = 1 then (s.1, s.2.1, true) else if isT tr x = 0 then (x, if x ≠ s.1 then s.2.1 + 1 else s.2.1, s.2.2) else s
def scanC (tr : List Int) (c : List Int) : Int × Nat × Bool := c.foldl (stepC tr) (0, 0, false)
/-- One pass over the clauses: whether none can't hold; what is set; whether something was. -/
def passF : Cl → List Int → Bool → Bool × List Int × Bool
  | [], tr, ag => (true, tr, ag)
  | c :: cs, tr, ag =>
    if (scanC tr c).2.2 = true ∨ 1 < (scanC tr c).2.1 then passF cs tr ag
    else if (scanC tr c).2.1 = 0 then (false, tr, ag)
    else passF cs (tr ++ [(scanC tr c).1]) true
def spreadF (cs : Cl) : Nat → List Int → Bool × List Int
  | 0, tr => (true, tr)
  | n + 1, tr => if (passF cs tr false).1 = false then (false, (passF cs tr false).2.1) else if (passF cs tr false).2.2 = true then spreadF cs n (passF cs tr false).2.1 else (true, (passF cs tr false).2.1)
/-- The first variable that is not set, of those from v on. -/
def freeF (tr : List Int) : Nat → Nat → Nat
  | _, 0 => 0
  | v, n + 1 => if isT tr v = 0 then v else freeF tr (v + 1) n
def searchF (cs : Cl) (V : Nat) : Nat → List Int → Nat → Bool × List Int × Nat
  | 0, tr, k => (false, tr, k)
  | n + 1, tr, k =>
    if (spreadF cs (V + 1) tr).1 = false then (false, tr, k + 1)
    else if freeF (spreadF cs (V + 1) tr).2 1 V = 0 then (true, (spreadF cs (V + 1) tr).2, k + 1)
    else
      let a := searchF cs V n ((spreadF cs (V + 1) tr).2 ++ [(freeF (spreadF cs (V + 1) tr).2 1 V : Int)]) (k + 1)
      if a.1 = true then a
      else
        let b := searchF cs V n ((spreadF cs (V + 1) tr).2 ++ [-(freeF (spreadF cs (V + 1) tr).2 1 V : Int)]) a.2.2
        if b.1 = true then b else (false, tr, b.2.2)

theorem GoodT.nil (V : Nat) : GoodT V [] := ⟨by simp, by simp, by simp⟩
theorem isT_zero {tr : List Int} {x : Int} : isT tr x = 0 ↔ x ∉ tr ∧ -x ∉ tr := by
  unfold isT
  by_cases h : x ∈ tr
  · simp [h]
  · by_cases h2 : -x ∈ tr <;> simp [h, h2]
theorem isT_one {tr : List Int} {x : Int} : isT tr x = 1 ↔ x ∈ tr := by
  unfold isT
  by_cases h : x ∈ tr
  · simp [h]
  · by_cases h2 : -x ∈ tr <;> simp [h, h2]
theorem isT_neg {V : Nat} {tr : List Int} (g : GoodT V tr) (x : Int) : isT tr (-x) = -isT tr x := by
  unfold isT
  rw [Int.neg_neg]
  by_cases h : x ∈ tr
  · have := g.one x h; simp [h, this]
  · by_cases h2 : -x ∈ tr <;> simp [h, h2]
theorem GoodT.snoc {V : Nat} {tr : List Int} (g : GoodT V tr) {x : Int} (h0 : x ≠ 0) (h1 : x ≤ V) (h2 : -V ≤ x) (hx : isT tr x = 0) : GoodT V (tr ++ [x]) := by
  rw [isT_zero] at hx
  refine ⟨fun y hy => ?_, fun y hy hn => ?_, ?_⟩
  · rcases List.mem_append.1 hy with hy | hy
    · exact g.pos y hy
    · rw [List.mem_singleton] at hy; subst hy; exact ⟨h0, h1, h2⟩
  · rcases List.mem_append.1 hy with hy | hy
    · rcases List.mem_append.1 hn with hn | hn
      · exact g.one y hy hn
      · rw [List.mem_singleton] at hn
        have : y = -x := by omega
        exact hx.2 (this ▸ hy)
    · rw [List.mem_singleton] at hy
      subst hy
      rcases List.mem_append.1 hn with hn | hn
      · exact hx.2 hn
      · rw [List.mem_singleton] at hn; omega
  · refine List.nodup_append.2 ⟨g.nodup, by simp, fun y hy z hz => ?_⟩
    rw [List.mem_singleton] at hz
    subst hz
    intro e
    exact hx.1 (e ▸ hy)
/-- How many are not set. -/
def leftT (V : Nat) (tr : List Int) : Nat := cntB (fun i => isT tr ((i : Int) + 1) == 0) V
theorem leftT_le (V : Nat) (tr : List Int) : leftT V tr ≤ V := cntB_le _ _
theorem isT_sub {tr ext : List Int} {x : Int} (h : isT (tr ++ ext) x = 0) : isT tr x = 0 := by
  rw [isT_zero] at h ⊢
  exact ⟨fun hx => h.1 (List.mem_append_left _ hx), fun hx => h.2 (List.mem_append_left _ hx)⟩
theorem leftT_mono (V : Nat) (tr ext : List Int) : leftT V (tr ++ ext) ≤ leftT V tr := cntB_mono V fun i _ h => by
  simp only [beq_iff_eq] at h ⊢
  exact isT_sub h
theorem leftT_lt {V : Nat} {tr : List Int} {x : Int} (h0 : x ≠ 0) (h1 : x ≤ V) (h2 : -V ≤ x) (hx : isT tr x = 0) (ext : List Int) : leftT V (tr ++ x :: ext) < leftT V tr := by
  refine cntB_lt V (fun i _ h => ?_) ⟨x.natAbs - 1, by omega, ?_, ?_⟩
  · simp only [beq_iff_eq] at h ⊢
    exact isT_sub h
  · rw [beq_eq_false_iff_ne, ne_eq, isT_zero]
    rintro ⟨a, b⟩
    rcases Int.lt_or_gt_of_ne h0 with h | h
    · apply b
      rw [show -(((x.natAbs - 1 : Nat) : Int) + 1) = x by omega]
      simp
    · apply a
      rw [show (((x.natAbs - 1 : Nat) : Int) + 1) = x by omega]
      simp
  · rw [beq_iff_eq, isT_zero]
    rw [isT_zero] at hx
    rcases Int.lt_or_gt_of_ne h0 with h | h
    · rw [show (((x.natAbs - 1 : Nat) : Int) + 1) = -x by omega, Int.neg_neg]
      exact ⟨hx.2, hx.1⟩
    · rw [show (((x.natAbs - 1 : Nat) : Int) + 1) = x by omega]
      exact hx

/-! ### What values do -/
def litB (β : Nat → Bool) (x : Int) : Bool := if 0 < x then β x.toNat else !β (-x).toNat
def Models (cs : Cl) (β : Nat → Bool) : Prop := ∀ c ∈ cs, ∃ x ∈ c, litB β x = true
def Agree (β : Nat → Bool) (tr : List Int) : Prop := ∀ x ∈ tr, litB β x = true
theorem litB_neg {β : Nat → Bool} {x : Int} (h : x ≠ 0) : litB β (-x) = !litB β x := by
  unfold litB
  by_cases h1 : 0 < x
  · rw [if_pos h1, if_neg (by omega), Int.neg_neg]
  · rw [if_neg h1, if_pos (by omega), Bool.not_not]
def OkC (V : Nat) (cs : Cl) : Prop := ∀ c ∈ cs, ∀ x ∈ c, x ≠ 0 ∧ x ≤ V ∧ -V ≤ x

theorem scan_inv (tr : List Int) : ∀ (c : List Int) (s : Int × Nat × Bool) (p : List Int),
    ((s.2.2 = true ↔ ∃ x ∈ p, x ∈ tr) ∧ (s.2.1 = 0 → ∀ x ∈ p, isT tr x ≠ 0) ∧ (s.2.1 = 1 → s.1 ∈ p ∧ isT tr s.1 = 0 ∧ ∀ x ∈ p, isT tr x = 0 → x = s.1) ∧ ((∀ x ∈ p, isT tr x ≠ 0) → s.2.1 = 0) ∧ (s.2.1 = 0 → s.1 = 0)) → (∀ x ∈ c, x ≠ 0) →
    (((c.foldl (stepC tr) s).2.2 = true ↔ ∃ x ∈ p ++ c, x ∈ tr) ∧ ((c.foldl (stepC tr) s).2.1 = 0 → ∀ x ∈ p ++ c, isT tr x ≠ 0) ∧
      ((c.foldl (stepC tr) s).2.1 = 1 → (c.foldl (stepC tr) s).1 ∈ p ++ c ∧ isT tr (c.foldl (stepC tr) s).1 = 0 ∧ ∀ x ∈ p ++ c, isT tr x = 0 → x = (c.foldl (stepC tr) s).1) ∧ ((∀ x ∈ p ++ c, isT tr x ≠ 0) → (c.foldl (stepC tr) s).2.1 = 0))
  | [], s, p, h, _ => by simpa using ⟨h.1, h.2.1, h.2.2.1, h.2.2.2.1⟩
  | x :: c, s, p, ⟨h1, h2, h3, h4, h5⟩, h0 => by
    have hx0 := h0 x (by simp)
    have ih := scan_inv tr c (stepC tr s x) (p ++ [x]) ?_ fun y hy => h0 y (by simp [hy])
    · simpa only [List.foldl_cons, List.append_assoc, List.singleton_append] using ih
    · unfold stepC
      by_cases e1 : isT tr x = 1
      · rw [if_pos e1]
        have e1' := isT_one.1 e1
        refine ⟨by simp [e1'], fun h y hy => ?_, fun h => ?_, fun h => h4 fun y hy => h y (by simp [hy]), h5⟩
        · rcases List.mem_append.1 hy with hy | hy
          · exact h2 h y hy
          · rw [List.mem_singleton] at hy; subst hy; rw [e1]; decide
        · obtain ⟨a1, a2, a3⟩ := h3 h
          refine ⟨by simp [a1], a2, fun y hy hy0 => ?_⟩
          rcases List.mem_append.1 hy with hy | hy
          · exact a3 y hy hy0
          · rw [List.mem_singleton] at hy; subst hy; rw [e1] at hy0; cases hy0
      · rw [if_neg e1]
        have e1' : x ∉ tr := fun h => e1 (isT_one.2 h)
        by_cases e0 : isT tr x = 0
        · rw [if_pos e0]
          dsimp only
          refine ⟨?_, fun h => ?_, fun h => ?_, fun h => absurd e0 (h x (by simp)), fun h => ?_⟩
          · rw [h1]; simp [e1']
          · split at h
            · omega
            · rename_i hne
              have : x = s.1 := Classical.not_not.1 hne
              have := h5 h
              omega
          · refine ⟨by simp, e0, fun y hy hy0 => ?_⟩
            rcases List.mem_append.1 hy with hy | hy
            · split at h
              · exact absurd hy0 (h2 (by omega) y hy)
              · rename_i hne
                have hxe : x = s.1 := Classical.not_not.1 hne
                rw [hxe]
                exact (h3 h).2.2 y hy hy0
            · simpa using hy
          · split at h
            · omega
            · rename_i hne
              have : x = s.1 := Classical.not_not.1 hne
              have := h5 h
              omega
        · rw [if_neg e0]
          refine ⟨by rw [h1]; simp [e1'], fun h y hy => ?_, fun h => ?_, fun h => h4 fun y hy => h y (by simp [hy]), h5⟩
          · rcases List.mem_append.1 hy with hy | hy
            · exact h2 h y hy
            · rw [List.mem_singleton] at hy; subst hy; exact e0
          · obtain ⟨a1, a2, a3⟩ := h3 h
            refine ⟨by simp [a1], a2, fun y hy hy0 => ?_⟩
            rcases List.mem_append.1 hy with hy | hy
            · exact a3 y hy hy0
            · rw [List.mem_singleton] at hy; subst hy; exact absurd hy0 e0
theorem scan_facts (tr : List Int) {c : List Int} (h0 : ∀ x ∈ c, x ≠ 0) :
    ((scanC tr c).2.2 = true ↔ ∃ x ∈ c, x ∈ tr) ∧ ((scanC tr c).2.1 = 0 → ∀ x ∈ c, isT tr x ≠ 0) ∧
      ((scanC tr c).2.1 = 1 → (scanC tr c).1 ∈ c ∧ isT tr (scanC tr c).1 = 0 ∧ ∀ x ∈ c, isT tr x = 0 → x = (scanC tr c).1) ∧ ((∀ x ∈ c, isT tr x ≠ 0) → (scanC tr c).2.1 = 0) := by
  have := scan_inv tr c (0, 0, false) [] (by simp) h0
  simp only [List.nil_append] at this
  exact this

/-- What a pass does. -/
theorem pass_facts {V : Nat} : ∀ (cs : Cl) (tr : List Int) (ag : Bool), OkC V cs → GoodT V tr →
    (∃ ext, (passF cs tr ag).2.1 = tr ++ ext ∧ ((passF cs tr ag).1 = true → (passF cs tr ag).2.2 = (ag || !ext.isEmpty))) ∧ GoodT V (passF cs tr ag).2.1 ∧
      ((passF cs tr ag).1 = true → ∀ β, Agree β tr → Models cs β → Agree β (passF cs tr ag).2.1) ∧ ((passF cs tr ag).1 = false → ∀ β, Agree β tr → ¬ Models cs β) ∧
      ((passF cs tr ag).1 = true → (passF cs tr ag).2.1 = tr → ∀ c ∈ cs, (scanC tr c).2.2 = true ∨ 1 < (scanC tr c).2.1)
  | [], tr, ag, _, g => ⟨⟨[], by simp [passF], by simp [passF]⟩, g, fun _ β h _ => h, fun h => by simp [passF] at h, fun _ _ c hc => by simp at hc⟩
  | c :: cs, tr, ag, ok, g => by
    have okc := ok c (by simp)
    have oks : OkC V cs := fun d hd => ok d (by simp [hd])
    obtain ⟨f1, f2, f3, _⟩ := scan_facts tr fun x hx => (okc x hx).1
    rw [passF]
    by_cases hh : (scanC tr c).2.2 = true ∨ 1 < (scanC tr c).2.1
    · rw [if_pos hh]
      obtain ⟨a1, a2, a3, a4, a5⟩ := pass_facts cs tr ag oks g
      refine ⟨a1, a2, fun h β hb hm => a3 h β hb fun d hd => hm d (by simp [hd]), fun h β hb hm => a4 h β hb fun d hd => hm d (by simp [hd]), fun h e d hd => ?_⟩
      rcases List.mem_cons.1 hd with rfl | hd
      · exact hh
      · exact a5 h e d hd
    · rw [if_neg hh]
      have hno : ∀ x ∈ c, x ∉ tr := fun x hx ht => hh (.inl (f1.2 ⟨x, hx, ht⟩))
      have hlit : ∀ β, Agree β tr → ∀ x ∈ c, litB β x = true → isT tr x = 0 := fun β hb x hx hl => by
        rw [isT_zero]
        refine ⟨hno x hx, fun hn => ?_⟩
        have := hb _ hn
        rw [litB_neg (okc x hx).1, hl] at this
        cases this
      by_cases h0 : (scanC tr c).2.1 = 0
      · rw [if_pos h0]
        refine ⟨⟨[], by simp, (fun h => by cases h)⟩, g, (fun h => by cases h), fun _ β hb hm => ?_, (fun h => by cases h)⟩
        obtain ⟨x, hx, hl⟩ := hm c (by simp)
        exact f2 h0 x hx (hlit β hb x hx hl)
      · rw [if_neg h0]
        have h1 : (scanC tr c).2.1 = 1 := by
          have : ¬ 1 < (scanC tr c).2.1 := fun h => hh (.inr h)
          omega
        obtain ⟨l1, l2, l3⟩ := f3 h1
        have g' := g.snoc (okc _ l1).1 (okc _ l1).2.1 (okc _ l1).2.2 l2
        obtain ⟨⟨ext, a1, a1'⟩, a2, a3, a4, a5⟩ := pass_facts cs (tr ++ [(scanC tr c).1]) true oks g'
        have hag : ∀ β, Agree β tr → Models (c :: cs) β → Agree β (tr ++ [(scanC tr c).1]) := fun β hb hm y hy => by
          rcases List.mem_append.1 hy with hy | hy
          · exact hb y hy
          · rw [List.mem_singleton] at hy
            subst hy
            obtain ⟨x, hx, hl⟩ := hm c (by simp)
            rw [← l3 x hx (hlit β hb x hx hl)]
            exact hl
        refine ⟨⟨(scanC tr c).1 :: ext, by rw [a1]; simp, fun h => by rw [a1' h]; simp⟩, a2, fun h β hb hm => a3 h β (hag β hb hm) fun d hd => hm d (by simp [hd]), fun h β hb hm => a4 h β (hag β hb hm) fun d hd => hm d (by simp [hd]), fun _ e => ?_⟩
        rw [a1] at e
        have := congrArg List.length e
        simp at this

/-- What spreading does. -/
theorem spread_facts {V : Nat} {cs : Cl} (ok : OkC V cs) : ∀ (n : Nat) (tr : List Int), GoodT V tr → leftT V tr < n →
    (∃ ext, (spreadF cs n tr).2 = tr ++ ext) ∧ GoodT V (spreadF cs n tr).2 ∧ ((spreadF cs n tr).1 = true → (∀ β, Agree β tr → Models cs β → Agree β (spreadF cs n tr).2) ∧ ∀ c ∈ cs, (scanC (spreadF cs n tr).2 c).2.2 = true ∨ 1 < (scanC (spreadF cs n tr).2 c).2.1) ∧
      ((spreadF cs n tr).1 = false → ∀ β, Agree β tr → ¬ Models cs β)
  | 0, tr, _, h => by omega
  | n + 1, tr, g, h => by
    obtain ⟨⟨ext, a1, a1'⟩, a2, a3, a4, a5⟩ := pass_facts cs tr false ok g
    rw [spreadF]
    by_cases hf : (passF cs tr false).1 = false
    · rw [if_pos hf]
      exact ⟨⟨ext, a1⟩, a2, (fun h => by cases h), fun _ => a4 hf⟩
    · have ht : (passF cs tr false).1 = true := by simpa using hf
      rw [if_neg hf]
      have hag := a1' ht
      by_cases he : (passF cs tr false).2.2 = true
      · rw [if_pos he]
        rw [hag] at he
        obtain ⟨x, ext', rfl⟩ : ∃ x e, ext = x :: e := by cases ext with | nil => simp at he | cons x e => exact ⟨x, e, rfl⟩
        have hx : isT tr x = 0 := by
          rw [isT_zero]
          rw [a1] at a2
          refine ⟨fun hx => ?_, fun hx => a2.one _ (List.mem_append_left _ hx) (by rw [Int.neg_neg]; simp)⟩
          have := (List.nodup_append.1 a2.nodup).2.2
          exact this x hx x (by simp) rfl
        have hp := a2.pos x (by rw [a1]; simp)
        have hlt := leftT_lt hp.1 hp.2.1 hp.2.2 hx ext'
        rw [← a1] at hlt
        obtain ⟨⟨e2, b1⟩, b2, b3, b4⟩ := spread_facts ok n _ a2 (by omega)
        refine ⟨⟨x :: ext' ++ e2, by rw [b1, a1]; simp⟩, b2, fun hs => ⟨fun β hb hm => (b3 hs).1 β (a3 ht β hb hm) hm, (b3 hs).2⟩, fun hs β hb hm => b4 hs β (a3 ht β hb hm) hm⟩
      · rw [if_neg he]
        have hx : ext = [] := by
          rw [hag] at he
          cases ext with | nil => rfl | cons x e => simp at he
        subst hx
        have e : (passF cs tr false).2.1 = tr := by rw [a1]; simp
        exact ⟨⟨[], a1⟩, a2, fun _ => ⟨a3 ht, by rw [e]; exact a5 ht e⟩, (fun h => by cases h)⟩

theorem free_facts (tr : List Int) : ∀ (n v : Nat), 0 < v → (freeF tr v n = 0 → ∀ w, v ≤ w → w < v + n → isT tr w ≠ 0) ∧ (freeF tr v n ≠ 0 → v ≤ freeF tr v n ∧ freeF tr v n < v + n ∧ isT tr (freeF tr v n) = 0 ∧ ∀ w, v ≤ w → w < freeF tr v n → isT tr w ≠ 0)
  | 0, v, h => ⟨fun _ w h1 h2 => by omega, fun h => absurd rfl h⟩
  | n + 1, v, h => by
    rw [freeF]
    by_cases h0 : isT tr v = 0
    · rw [if_pos h0]
      exact ⟨fun h => by omega, fun _ => ⟨by omega, by omega, h0, fun w h1 h2 => by omega⟩⟩
    · rw [if_neg h0]
      obtain ⟨a, b⟩ := free_facts tr n (v + 1) (by omega)
      refine ⟨fun hz w h1 h2 => ?_, fun hz => ?_⟩
      · rcases Nat.eq_or_lt_of_le h1 with rfl | h1
        · exact h0
        · exact a hz w (by omega) (by omega)
      · obtain ⟨b1, b2, b3, b4⟩ := b hz
        refine ⟨by omega, by omega, b3, fun w h1 h2 => ?_⟩
        rcases Nat.eq_or_lt_of_le h1 with rfl | h1
        · exact h0
        · exact b4 w (by omega) h2

/-- The values that are set. -/
def valT (tr : List Int) (v : Nat) : Bool := decide ((v : Int) ∈ tr)
/-- These values come ahead of those, or are the same. -/
def FirstB (V : Nat) (β γ : Nat → Bool) : Prop := ∀ v, 1 ≤ v → v ≤ V → (∀ w, 1 ≤ w → w < v → γ w = β w) → γ v = true → β v = true
theorem agree_val {V : Nat} {tr : List Int} (g : GoodT V tr) {β : Nat → Bool} (h : Agree β tr) {v : Nat} (hv : 1 ≤ v) (hs : isT tr v ≠ 0) : β v = valT tr v := by
  unfold valT
  by_cases h1 : (v : Int) ∈ tr
  · have := h _ h1
    unfold litB at this
    rw [if_pos (by omega)] at this
    simpa [h1] using this
  · have h2 : -(v : Int) ∈ tr := Classical.byContradiction fun h2 => hs (isT_zero.2 ⟨h1, h2⟩)
    have := h _ h2
    unfold litB at this
    rw [if_neg (by omega)] at this
    simp [h1]
    simpa using this
theorem val_agree {V : Nat} {tr : List Int} (g : GoodT V tr) : Agree (valT tr) tr := fun x hx => by
  unfold litB valT
  have := g.pos x hx
  split
  · rw [show ((x.toNat : Nat) : Int) = x by omega]; simp [hx]
  · rw [show (((-x).toNat : Nat) : Int) = -x by omega]
    have := g.one x hx
    simp [this]

/-- What searching does. -/
theorem search_facts {V : Nat} {cs : Cl} (ok : OkC V cs) : ∀ (n : Nat) (tr : List Int) (k : Nat), GoodT V tr → leftT V tr < n →
    ((searchF cs V n tr k).2.2 + 1 ≤ k + 2^n) ∧ ((searchF cs V n tr k).1 = true → (∃ ext, (searchF cs V n tr k).2.1 = tr ++ ext) ∧ GoodT V (searchF cs V n tr k).2.1 ∧ (∀ v, 1 ≤ v → v ≤ V → isT (searchF cs V n tr k).2.1 v ≠ 0) ∧
      Models cs (valT (searchF cs V n tr k).2.1) ∧ ∀ β, Agree β tr → Models cs β → FirstB V (valT (searchF cs V n tr k).2.1) β) ∧
      ((searchF cs V n tr k).1 = false → (searchF cs V n tr k).2.1 = tr ∧ ∀ β, Agree β tr → ¬ Models cs β)
  | 0, tr, k, _, h => by omega
  | n + 1, tr, k, g, h => by
    have hle := leftT_le V tr
    obtain ⟨⟨ext, a1⟩, a2, a3, a4⟩ := spread_facts ok (V + 1) tr g (by omega)
    have hp2 : 1 ≤ 2^n := Nat.one_le_two_pow
    have hps : 2^(n + 1) = 2^n + 2^n := by rw [Nat.pow_succ]; omega
    rw [searchF]
    generalize hsp : spreadF cs (V + 1) tr = sp at a1 a2 a3 a4
    obtain ⟨okb, tr1⟩ := sp
    dsimp only at a1 a2 a3 a4 ⊢
    by_cases hf : okb = false
    · rw [if_pos hf]
      exact ⟨by dsimp only; omega, (fun h => by cases h), fun _ => ⟨rfl, a4 hf⟩⟩
    rw [if_neg hf]
    have ht : okb = true := by simpa using hf
    obtain ⟨b1, b2⟩ := a3 ht
    obtain ⟨c1, c2⟩ := free_facts tr1 V 1 (by decide)
    generalize freeF tr1 1 V = v at c1 c2
    by_cases hv : v = 0
    · rw [if_pos hv]
      have hall : ∀ w, 1 ≤ w → w ≤ V → isT tr1 w ≠ 0 := fun w h1 h2 => c1 hv w h1 (by omega)
      have hset : ∀ x : Int, x ≠ 0 ∧ x ≤ V ∧ -V ≤ x → isT tr1 x ≠ 0 := fun x hx h0 => by
        rcases Int.lt_or_gt_of_ne hx.1 with hl | hl
        · have := hall x.natAbs (by omega) (by omega)
          rw [show ((x.natAbs : Nat) : Int) = -x by omega, isT_neg a2, h0] at this
          exact this rfl
        · have := hall x.natAbs (by omega) (by omega)
          rw [show ((x.natAbs : Nat) : Int) = x by omega] at this
          exact this h0
      refine ⟨by dsimp only; omega, fun _ => ⟨⟨ext, a1⟩, a2, hall, fun c hc => ?_, fun β hb hm v h1 h2 _ hv => ?_⟩, (fun h => by cases h)⟩
      · have okc := ok c hc
        obtain ⟨f1, _, _, f4⟩ := scan_facts tr1 fun x hx => (okc x hx).1
        have h0 := f4 fun x hx => hset x (okc x hx)
        rcases b2 c hc with hh | hh
        · obtain ⟨x, hx, hxt⟩ := f1.1 hh
          exact ⟨x, hx, val_agree a2 x hxt⟩
        · omega
      · rw [← agree_val a2 (b1 β hb hm) h1 (hall v h1 h2)]
        exact hv
    rw [if_neg hv]
    obtain ⟨d1, d2, d3, d4⟩ := c2 hv
    have d3' : isT tr1 (-(v : Int)) = 0 := by rw [isT_neg a2, d3]; rfl
    have g1 := a2.snoc (x := (v : Int)) (by omega) (by omega) (by omega) d3
    have g2 := a2.snoc (x := -(v : Int)) (by omega) (by omega) (by omega) d3'
    have hm1 : leftT V tr1 ≤ leftT V tr := by rw [a1]; exact leftT_mono V tr ext
    have l1 := leftT_lt (V := V) (x := (v : Int)) (by omega) (by omega) (by omega) d3 []
    have l2 := leftT_lt (V := V) (x := -(v : Int)) (by omega) (by omega) (by omega) d3' []
    obtain ⟨e1, e2, e3⟩ := search_facts ok n (tr1 ++ [(v : Int)]) (k + 1) g1 (by omega)
    generalize searchF cs V n (tr1 ++ [(v : Int)]) (k + 1) = A at e1 e2 e3
    have hvT : ∀ tr', (∃ e, tr' = tr1 ++ [(v : Int)] ++ e) → valT tr' v = true := fun tr' ⟨e, he⟩ => by simp [valT, he]
    have hfree : ∀ {tr'}, GoodT V tr' → (∃ e, tr' = tr1 ++ e) → ∀ β, Agree β tr1 → ∀ w, 1 ≤ w → w < v → valT tr' w = β w := fun g' ⟨e, he⟩ β hb w h1 h2 => by
      have hs := d4 w h1 h2
      rw [agree_val a2 hb h1 hs]
      have hb' : Agree (valT _) tr1 := fun x hx => val_agree g' x (by rw [he]; exact List.mem_append_left _ hx)
      exact agree_val a2 hb' h1 hs
    have hAg : ∀ {β : Nat → Bool} {x : Int}, Agree β tr1 → litB β x = true → Agree β (tr1 ++ [x]) := fun hb hx y hy => by
      rcases List.mem_append.1 hy with hy | hy
      · exact hb y hy
      · rw [List.mem_singleton] at hy; subst hy; exact hx
    have hlv : ∀ β : Nat → Bool, litB β (v : Int) = β v := fun β => by unfold litB; rw [if_pos (by omega)]; simp
    have hlv' : ∀ β : Nat → Bool, litB β (-(v : Int)) = !β v := fun β => by rw [litB_neg (by omega), hlv]
    by_cases hA : A.1 = true
    · rw [if_pos hA]
      obtain ⟨⟨x1, p1⟩, p2, p3, p4, p5⟩ := e2 hA
      refine ⟨by omega, fun _ => ⟨⟨ext ++ [(v : Int)] ++ x1, by rw [p1, a1]; simp⟩, p2, p3, p4, fun β hb hm w h1 h2 hag hw => ?_⟩, fun h => by rw [hA] at h; cases h⟩
      have hb1 := b1 β hb hm
      rcases Nat.lt_or_ge w v with hwv | hwv
      · rw [hfree p2 ⟨[(v : Int)] ++ x1, by rw [p1]; simp⟩ β hb1 w h1 hwv]; exact hw
      · rcases Nat.eq_or_lt_of_le hwv with rfl | hwv
        · exact hvT _ ⟨x1, p1⟩
        · have hbv : β v = true := by rw [hag v (by omega) hwv]; exact hvT _ ⟨x1, p1⟩
          exact p5 β (hAg hb1 (by rw [hlv]; exact hbv)) hm w h1 h2 hag hw
    rw [if_neg hA]
    have hA0 : A.1 = false := by simpa using hA
    obtain ⟨q1, q2⟩ := e3 hA0
    obtain ⟨s1, s2, s3⟩ := search_facts ok n (tr1 ++ [-(v : Int)]) A.2.2 g2 (by omega)
    generalize searchF cs V n (tr1 ++ [-(v : Int)]) A.2.2 = B at s1 s2 s3
    by_cases hB : B.1 = true
    · rw [if_pos hB]
      obtain ⟨⟨x1, p1⟩, p2, p3, p4, p5⟩ := s2 hB
      refine ⟨by omega, fun _ => ⟨⟨ext ++ [-(v : Int)] ++ x1, by rw [p1, a1]; simp⟩, p2, p3, p4, fun β hb hm w h1 h2 hag hw => ?_⟩, fun h => by rw [hB] at h; cases h⟩
      have hb1 := b1 β hb hm
      have hbv : β v = false := by
        cases hb2 : β v with
        | false => rfl
        | true => exact absurd hm (q2 β (hAg hb1 (by rw [hlv]; exact hb2)))
      exact p5 β (hAg hb1 (by rw [hlv', hbv]; rfl)) hm w h1 h2 hag hw
    · rw [if_neg hB]
      have hB0 : B.1 = false := by simpa using hB
      refine ⟨by dsimp only; omega, (fun h => by cases h), fun _ => ⟨rfl, fun β hb hm => ?_⟩⟩
      have hb1 := b1 β hb hm
      cases hb2 : β v with
      | true => exact q2 β (hAg hb1 (by rw [hlv]; exact hb2)) hm
      | false => exact (s3 hB0).2 β (hAg hb1 (by rw [hlv', hb2]; rfl)) hm
end Go.Proofs.YtoikggboakojlaaDoor

/-
  Plain facts of trying all values: the greatest number whose bits are values of which all clauses hold.
-/
namespace Go.Proofs.YtoikggboakojlaaDoor
set_option linter.unusedSimpArgs false
set_option linter.unusedVariables false

/-- The value of variable v in number k. -/
def bitK (V k v : Nat) : Bool := k.testBit (V - v)
theorem bits_of (β : Nat → Bool) : ∀ V, ∃ k, k < 2^V ∧ ∀ v, 1 ≤ v → v ≤ V → bitK V k v = β v
  | 0 => ⟨0, by simp, fun v h1 h2 => by omega⟩
  | V + 1 => by
    obtain ⟨k, hk, hb⟩ := bits_of β V
    refine ⟨2 * k + (β (V + 1)).toNat, ?_, fun v h1 h2 => ?_⟩
    · have := Bool.toNat_le (β (V + 1))
      rw [Nat.pow_succ]
      omega
    · unfold bitK
      have hd : (2 * k + (β (V + 1)).toNat) / 2 = k := by
        have := Bool.toNat_le (β (V + 1))
        omega
      by_cases e : v = V + 1
      · subst e
        rw [Nat.sub_self, Nat.testBit_zero]
        cases β (V + 1) <;> simp <;> omega
      · rw [show V + 1 - v = (V - v) + 1 by omega, Nat.testBit_succ, hd]
        exact hb v h1 (by omega)
theorem div_two (K q : Nat) : K / 2^q = 2 * (K / 2^(q + 1)) + (K.testBit q).toNat := by
  have h1 : K / 2^(q + 1) = K / 2^q / 2 := by rw [Nat.pow_succ, Nat.div_div_eq_div_mul]
  have h2 : K.testBit q = (K / 2^q).testBit 0 := by rw [Nat.testBit_div_two_pow]; simp
  rw [h1, h2, Nat.testBit_zero]
  by_cases h : K / 2^q % 2 = 1
  · simp [h]; omega
  · have : K / 2^q % 2 = 0 := by omega
    simp [this]; omega
theorem first_greatest {V K k : Nat} (hK : K < 2^V) (hk : k < 2^V) (hle : k ≤ K) (hf : FirstB V (bitK V k) (bitK V K)) : ∀ v, 1 ≤ v → v ≤ V → bitK V K v = bitK V k v := by
  intro v
  induction v using Nat.strongRecOn with
  | ind v ih =>
    intro h1 h2
    have hag : ∀ w, 1 ≤ w → w < v → bitK V K w = bitK V k w := fun w a b => ih w b a (by omega)
    cases hb : bitK V K v with
    | true => exact (hf v h1 h2 hag hb).symm
    | false =>
      cases hc : bitK V k v with
      | false => rfl
      | true =>
        have hup : K / 2^(V - v + 1) = k / 2^(V - v + 1) := by
          refine Nat.eq_of_testBit_eq fun i => ?_
          rw [Nat.testBit_div_two_pow, Nat.testBit_div_two_pow]
          rcases Nat.lt_or_ge (i + (V - v + 1)) V with h | h
          · have := hag (V - (i + (V - v + 1))) (by omega) (by omega)
            unfold bitK at this
            rw [show V - (V - (i + (V - v + 1))) = i + (V - v + 1) by omega] at this
            exact this
          · rw [Nat.testBit_lt_two_pow (Nat.lt_of_lt_of_le hK (Nat.pow_le_pow_right (by decide) h)), Nat.testBit_lt_two_pow (Nat.lt_of_lt_of_le hk (Nat.pow_le_pow_right (by decide) h))]
        have e1 := div_two K (V - v)
        have e2 := div_two k (V - v)
        unfold bitK at hb hc
        rw [hb, hup] at e1
        rw [hc] at e2
        have := Nat.div_le_div_right (c := 2^(V - v)) hle
        simp at e1 e2
        omega

theorem litB_congr {V : Nat} {β γ : Nat → Bool} (h : ∀ v, 1 ≤ v → v ≤ V → β v = γ v) {x : Int} (hx : x ≠ 0 ∧ x ≤ V ∧ -V ≤ x) : litB β x = litB γ x := by
  unfold litB
  split
  · exact h _ (by omega) (by omega)
  · rw [h _ (by omega) (by omega)]
theorem models_congr {V : Nat} {cs : Cl} (ok : OkC V cs) {β γ : Nat → Bool} (h : ∀ v, 1 ≤ v → v ≤ V → β v = γ v) (hm : Models cs β) : Models cs γ := fun c hc => by
  obtain ⟨x, hx, hl⟩ := hm c hc
  exact ⟨x, hx, by rw [← litB_congr h (ok c hc x hx)]; exact hl⟩

/-- What is found by trying all is what is found by searching. -/
theorem solve_law {V : Nat} {cs : Cl} (ok : OkC V cs) : ((searchF cs V (V + 1) [] 0).1 = true → ∃ K, K < 2^V ∧ Models cs (bitK V K) ∧ (∀ k, K < k → k < 2^V → ¬ Models cs (bitK V k)) ∧ ∀ v, 1 ≤ v → v ≤ V → valT (searchF cs V (V + 1) [] 0).2.1 v = bitK V K v) ∧
    ((searchF cs V (V + 1) [] 0).1 = false → ∀ k, ¬ Models cs (bitK V k)) := by
  have hl := leftT_le V []
  obtain ⟨_, h2, h3⟩ := search_facts ok (V + 1) [] 0 (GoodT.nil V) (by omega)
  refine ⟨fun h => ?_, fun h k => (h3 h).2 _ (by intro x hx; simp at hx)⟩
  obtain ⟨_, _, _, h5, h6⟩ := h2 h
  obtain ⟨k, hk, hb⟩ := bits_of (valT (searchF cs V (V + 1) [] 0).2.1) V
  have hmk : Models cs (bitK V k) := models_congr ok (fun v a b => (hb v a b).symm) h5
  obtain ⟨K, hK1, hK2, hK3⟩ : ∃ K, k ≤ K ∧ (K < 2^V ∧ Models cs (bitK V K)) ∧ ∀ j, K < j → j < 2^V → ¬ Models cs (bitK V j) := by
    have key : ∀ d k, 2^V - k ≤ d → k < 2^V → Models cs (bitK V k) → ∃ K, k ≤ K ∧ (K < 2^V ∧ Models cs (bitK V K)) ∧ ∀ j, K < j → j < 2^V → ¬ Models cs (bitK V j) := by
      intro d
      induction d with
      | zero => intro k h1 h2; omega
      | succ d ih =>
        intro k h1 h2 hm
        by_cases hex : ∃ j, k < j ∧ j < 2^V ∧ Models cs (bitK V j)
        · obtain ⟨j, j1, j2, j3⟩ := hex
          obtain ⟨K, a, b, c⟩ := ih j (by omega) j2 j3
          exact ⟨K, by omega, b, c⟩
        · exact ⟨k, Nat.le_refl _, ⟨h2, hm⟩, fun j a b c => hex ⟨j, a, b, c⟩⟩
    exact key _ k (Nat.le_refl _) hk hmk
  refine ⟨K, hK2.1, hK2.2, hK3, fun v h1 h2 => ?_⟩
  rw [← hb v h1 h2]
  refine (first_greatest hK2.1 hk hK1 (fun w a b hag hw => ?_) v h1 h2).symm
  rw [hb w a b]
  exact h6 (bitK V K) (by intro x hx; simp at hx) hK2.2 w a b (fun u c d => by rw [hag u c d, hb u c (by omega)]) hw
end Go.Proofs.YtoikggboakojlaaDoor

/-
  What the types of this seat's translation are: closed facts, by program (wip/tools/gen_ty.py).
-/
namespace Go.Proofs.YtoikggboakojlaaDoor
open Go.Av
@[simp] theorem ty0 : tyOf Tryd.prog 0 = some ⟨.tuple #[], 1, 0, .tuple #[]⟩ := by kernel_rfl
@[simp] theorem ty1 : tyOf Tryd.prog 1 = some ⟨.func #[] #[] false, 1, 8, .nilFunc⟩ := by kernel_rfl
@[simp] theorem ty2 : tyOf Tryd.prog 2 = some ⟨.int .i64, 1, 8, .int .i64 0⟩ := by kernel_rfl
@[simp] theorem ty3 : tyOf Tryd.prog 3 = some ⟨.int .i64, 1, 8, .int .i64 0⟩ := by kernel_rfl
@[simp] theorem ty4 : tyOf Tryd.prog 4 = some ⟨.bool, 1, 1, .bool false⟩ := by kernel_rfl
@[simp] theorem ty5 : tyOf Tryd.prog 5 = some ⟨.int .u8, 1, 1, .int .u8 0⟩ := by kernel_rfl
@[simp] theorem ty7 : tyOf Tryd.prog 7 = some ⟨.struct #[{ name := "x", type := 2, offset := 0, embedded := false, tag := "", pkgPath := "runtime", byteOffset := 0 }, { name := "y", type := 3, offset := 1, embedded := false, tag := "", pkgPath := "runtime", byteOffset := 8 }, { name := "signed", type := 4, offset := 2, embedded := false, tag := "", pkgPath := "runtime", byteOffset := 16 }, { name := "code", type := 6, offset := 3, embedded := false, tag := "", pkgPath := "runtime", byteOffset := 17 }], 4, 24, .agg #[.int .i64 0, .int .i64 0, .bool false, .int .u8 0]⟩ := by kernel_rfl
@[simp] theorem ty9 : tyOf Tryd.prog 9 = some ⟨.string, 1, 16, .string ⟨#[]⟩⟩ := by kernel_rfl
@[simp] theorem ty12 : tyOf Tryd.prog 12 = some ⟨.int .u64, 1, 8, .int .u64 0⟩ := by kernel_rfl
@[simp] theorem ty13 : tyOf Tryd.prog 13 = some ⟨.struct #[{ name := "msg", type := 9, offset := 0, embedded := false, tag := "", pkgPath := "runtime", byteOffset := 0 }, { name := "addr", type := 12, offset := 1, embedded := false, tag := "", pkgPath := "runtime", byteOffset := 16 }], 2, 24, .agg #[.string ⟨#[]⟩, .int .u64 0]⟩ := by kernel_rfl
@[simp] theorem ty15 : tyOf Tryd.prog 15 = some ⟨.pointer 206, 1, 8, .pointer none⟩ := by kernel_rfl
@[simp] theorem ty16 : tyOf Tryd.prog 16 = some ⟨.pointer 209, 1, 8, .pointer none⟩ := by kernel_rfl
@[simp] theorem ty17 : tyOf Tryd.prog 17 = some ⟨.pointer 218, 1, 8, .pointer none⟩ := by kernel_rfl
@[simp] theorem ty18 : tyOf Tryd.prog 18 = some ⟨.struct #[{ name := "typ", type := 17, offset := 0, embedded := false, tag := "", pkgPath := "internal/runtime/maps", byteOffset := 0 }], 1, 8, .agg #[.pointer none]⟩ := by kernel_rfl
@[simp] theorem ty20 : tyOf Tryd.prog 20 = some ⟨.interface #[], 1, 16, .nilIface⟩ := by kernel_rfl
@[simp] theorem ty21 : tyOf Tryd.prog 21 = some ⟨.int .i32, 1, 4, .int .i32 0⟩ := by kernel_rfl
@[simp] theorem ty22 : tyOf Tryd.prog 22 = some ⟨.func #[9] #[4] false, 1, 8, .nilFunc⟩ := by kernel_rfl
@[simp] theorem ty23 : tyOf Tryd.prog 23 = some ⟨.slice 32, 1, 24, .slice none 0 0⟩ := by kernel_rfl
@[simp] theorem ty24 : tyOf Tryd.prog 24 = some ⟨.struct #[{ name := "Next", type := 23, offset := 0, embedded := false, tag := "", pkgPath := "", byteOffset := 0 }, { name := "Tells", type := 23, offset := 1, embedded := false, tag := "", pkgPath := "", byteOffset := 24 }], 2, 48, .agg #[.slice none 0 0, .slice none 0 0]⟩ := by kernel_rfl
@[simp] theorem ty25 : tyOf Tryd.prog 25 = some ⟨.struct #[{ name := "Next", type := 23, offset := 0, embedded := false, tag := "", pkgPath := "", byteOffset := 0 }, { name := "Tells", type := 23, offset := 1, embedded := false, tag := "", pkgPath := "", byteOffset := 24 }], 2, 48, .agg #[.slice none 0 0, .slice none 0 0]⟩ := by kernel_rfl
@[simp] theorem ty26 : tyOf Tryd.prog 26 = some ⟨.struct #[{ name := "Next", type := 23, offset := 0, embedded := false, tag := "", pkgPath := "", byteOffset := 0 }, { name := "Tells", type := 23, offset := 1, embedded := false, tag := "", pkgPath := "", byteOffset := 24 }], 2, 48, .agg #[.slice none 0 0, .slice none 0 0]⟩ := by kernel_rfl
@[simp] theorem ty27 : tyOf Tryd.prog 27 = some ⟨.int .i64, 1, 8, .int .i64 0⟩ := by kernel_rfl
@[simp] theorem ty28 : tyOf Tryd.prog 28 = some ⟨.struct #[{ name := "Err", type := 27, offset := 0, embedded := false, tag := "", pkgPath := "", byteOffset := 0 }, { name := "Place", type := 3, offset := 1, embedded := false, tag := "", pkgPath := "", byteOffset := 8 }], 2, 16, .agg #[.int .i64 0, .int .i64 0]⟩ := by kernel_rfl
@[simp] theorem ty29 : tyOf Tryd.prog 29 = some ⟨.struct #[{ name := "Err", type := 27, offset := 0, embedded := false, tag := "", pkgPath := "", byteOffset := 0 }, { name := "Place", type := 3, offset := 1, embedded := false, tag := "", pkgPath := "", byteOffset := 8 }], 2, 16, .agg #[.int .i64 0, .int .i64 0]⟩ := by kernel_rfl
@[simp] theorem ty30 : tyOf Tryd.prog 30 = some ⟨.tuple #[26, 29, 4], 1, 0, .tuple #[.agg #[.slice none 0 0, .slice none 0 0], .agg #[.int .i64 0, .int .i64 0], .bool false]⟩ := by kernel_rfl
@[simp] theorem ty31 : tyOf Tryd.prog 31 = some ⟨.func #[25] #[26, 29, 4] false, 1, 8, .nilFunc⟩ := by kernel_rfl
@[simp] theorem ty32 : tyOf Tryd.prog 32 = some ⟨.slice 3, 1, 24, .slice none 0 0⟩ := by kernel_rfl
@[simp] theorem ty33 : tyOf Tryd.prog 33 = some ⟨.interface #[("Error", 100)], 1, 16, .nilIface⟩ := by kernel_rfl
@[simp] theorem ty34 : tyOf Tryd.prog 34 = some ⟨.interface #[("Error", 100)], 1, 16, .nilIface⟩ := by kernel_rfl
@[simp] theorem ty35 : tyOf Tryd.prog 35 = some ⟨.tuple #[32, 34], 1, 0, .tuple #[.slice none 0 0, .nilIface]⟩ := by kernel_rfl
@[simp] theorem ty36 : tyOf Tryd.prog 36 = some ⟨.func #[25] #[32, 34] false, 1, 8, .nilFunc⟩ := by kernel_rfl
@[simp] theorem ty37 : tyOf Tryd.prog 37 = some ⟨.tuple #[25, 34], 1, 0, .tuple #[.agg #[.slice none 0 0, .slice none 0 0], .nilIface]⟩ := by kernel_rfl
@[simp] theorem ty38 : tyOf Tryd.prog 38 = some ⟨.func #[25] #[25, 34] false, 1, 8, .nilFunc⟩ := by kernel_rfl
@[simp] theorem ty39 : tyOf Tryd.prog 39 = some ⟨.func #[34, 29] #[4] false, 1, 8, .nilFunc⟩ := by kernel_rfl
@[simp] theorem ty40 : tyOf Tryd.prog 40 = some ⟨.func #[25] #[34] false, 1, 8, .nilFunc⟩ := by kernel_rfl
@[simp] theorem ty41 : tyOf Tryd.prog 41 = some ⟨.func #[] #[26] false, 1, 8, .nilFunc⟩ := by kernel_rfl
@[simp] theorem ty42 : tyOf Tryd.prog 42 = some ⟨.func #[32, 32] #[4] false, 1, 8, .nilFunc⟩ := by kernel_rfl
@[simp] theorem ty43 : tyOf Tryd.prog 43 = some ⟨.func #[] #[32] false, 1, 8, .nilFunc⟩ := by kernel_rfl
@[simp] theorem ty44 : tyOf Tryd.prog 44 = some ⟨.func #[23, 23] #[4] false, 1, 8, .nilFunc⟩ := by kernel_rfl
@[simp] theorem ty45 : tyOf Tryd.prog 45 = some ⟨.func #[25] #[4] false, 1, 8, .nilFunc⟩ := by kernel_rfl
@[simp] theorem ty46 : tyOf Tryd.prog 46 = some ⟨.func #[25, 3, 3] #[32, 34] false, 1, 8, .nilFunc⟩ := by kernel_rfl
@[simp] theorem ty47 : tyOf Tryd.prog 47 = some ⟨.func #[25, 3, 32] #[32, 34] false, 1, 8, .nilFunc⟩ := by kernel_rfl
@[simp] theorem ty48 : tyOf Tryd.prog 48 = some ⟨.tuple #[32, 4], 1, 0, .tuple #[.slice none 0 0, .bool false]⟩ := by kernel_rfl
@[simp] theorem ty49 : tyOf Tryd.prog 49 = some ⟨.func #[3, 3] #[32, 4] false, 1, 8, .nilFunc⟩ := by kernel_rfl
@[simp] theorem ty50 : tyOf Tryd.prog 50 = some ⟨.func #[34, 27] #[4] false, 1, 8, .nilFunc⟩ := by kernel_rfl
@[simp] theorem ty51 : tyOf Tryd.prog 51 = some ⟨.func #[25, 3, 3, 32] #[4] false, 1, 8, .nilFunc⟩ := by kernel_rfl
@[simp] theorem ty52 : tyOf Tryd.prog 52 = some ⟨.func #[54] #[29] false, 1, 8, .nilFunc⟩ := by kernel_rfl
@[simp] theorem ty53 : tyOf Tryd.prog 53 = some ⟨.struct #[{ name := "Vars", type := 3, offset := 0, embedded := false, tag := "", pkgPath := "", byteOffset := 0 }, { name := "All", type := 23, offset := 1, embedded := false, tag := "", pkgPath := "", byteOffset := 8 }], 2, 32, .agg #[.int .i64 0, .slice none 0 0]⟩ := by kernel_rfl
@[simp] theorem ty54 : tyOf Tryd.prog 54 = some ⟨.struct #[{ name := "Vars", type := 3, offset := 0, embedded := false, tag := "", pkgPath := "", byteOffset := 0 }, { name := "All", type := 23, offset := 1, embedded := false, tag := "", pkgPath := "", byteOffset := 8 }], 2, 32, .agg #[.int .i64 0, .slice none 0 0]⟩ := by kernel_rfl
@[simp] theorem ty55 : tyOf Tryd.prog 55 = some ⟨.struct #[{ name := "Vars", type := 3, offset := 0, embedded := false, tag := "", pkgPath := "", byteOffset := 0 }, { name := "All", type := 23, offset := 1, embedded := false, tag := "", pkgPath := "", byteOffset := 8 }], 2, 32, .agg #[.int .i64 0, .slice none 0 0]⟩ := by kernel_rfl
@[simp] theorem ty56 : tyOf Tryd.prog 56 = some ⟨.slice 4, 1, 24, .slice none 0 0⟩ := by kernel_rfl
@[simp] theorem ty57 : tyOf Tryd.prog 57 = some ⟨.tuple #[56, 34], 1, 0, .tuple #[.slice none 0 0, .nilIface]⟩ := by kernel_rfl
@[simp] theorem ty58 : tyOf Tryd.prog 58 = some ⟨.func #[55] #[56, 34] false, 1, 8, .nilFunc⟩ := by kernel_rfl
@[simp] theorem ty59 : tyOf Tryd.prog 59 = some ⟨.func #[55] #[34] false, 1, 8, .nilFunc⟩ := by kernel_rfl
@[simp] theorem ty60 : tyOf Tryd.prog 60 = some ⟨.tuple #[56, 4], 1, 0, .tuple #[.slice none 0 0, .bool false]⟩ := by kernel_rfl
@[simp] theorem ty61 : tyOf Tryd.prog 61 = some ⟨.func #[54] #[56, 4] false, 1, 8, .nilFunc⟩ := by kernel_rfl
@[simp] theorem ty62 : tyOf Tryd.prog 62 = some ⟨.func #[56, 56] #[4] false, 1, 8, .nilFunc⟩ := by kernel_rfl
@[simp] theorem ty63 : tyOf Tryd.prog 63 = some ⟨.func #[3, 23] #[4] false, 1, 8, .nilFunc⟩ := by kernel_rfl
@[simp] theorem ty64 : tyOf Tryd.prog 64 = some ⟨.func #[25, 3] #[4] false, 1, 8, .nilFunc⟩ := by kernel_rfl
@[simp] theorem ty65 : tyOf Tryd.prog 65 = some ⟨.func #[] #[4] false, 1, 8, .nilFunc⟩ := by kernel_rfl
@[simp] theorem ty66 : tyOf Tryd.prog 66 = some ⟨.func #[3, 3] #[3] false, 1, 8, .nilFunc⟩ := by kernel_rfl
@[simp] theorem ty67 : tyOf Tryd.prog 67 = some ⟨.func #[34] #[27] false, 1, 8, .nilFunc⟩ := by kernel_rfl
@[simp] theorem ty68 : tyOf Tryd.prog 68 = some ⟨.slice 75, 1, 24, .slice none 0 0⟩ := by kernel_rfl
@[simp] theorem ty69 : tyOf Tryd.prog 69 = some ⟨.struct #[{ name := "Ahead", type := 68, offset := 0, embedded := false, tag := "", pkgPath := "", byteOffset := 0 }, { name := "Round", type := 68, offset := 1, embedded := false, tag := "", pkgPath := "", byteOffset := 24 }], 2, 48, .agg #[.slice none 0 0, .slice none 0 0]⟩ := by kernel_rfl
@[simp] theorem ty70 : tyOf Tryd.prog 70 = some ⟨.struct #[{ name := "Ahead", type := 68, offset := 0, embedded := false, tag := "", pkgPath := "", byteOffset := 0 }, { name := "Round", type := 68, offset := 1, embedded := false, tag := "", pkgPath := "", byteOffset := 24 }], 2, 48, .agg #[.slice none 0 0, .slice none 0 0]⟩ := by kernel_rfl
@[simp] theorem ty71 : tyOf Tryd.prog 71 = some ⟨.slice 126, 1, 24, .slice none 0 0⟩ := by kernel_rfl
@[simp] theorem ty72 : tyOf Tryd.prog 72 = some ⟨.pointer 79, 1, 8, .pointer none⟩ := by kernel_rfl
@[simp] theorem ty73 : tyOf Tryd.prog 73 = some ⟨.func #[71] #[72] false, 1, 8, .nilFunc⟩ := by kernel_rfl
@[simp] theorem ty74 : tyOf Tryd.prog 74 = some ⟨.func #[70, 72] #[56, 34] false, 1, 8, .nilFunc⟩ := by kernel_rfl
@[simp] theorem ty75 : tyOf Tryd.prog 75 = some ⟨.slice 9, 1, 24, .slice none 0 0⟩ := by kernel_rfl
@[simp] theorem ty76 : tyOf Tryd.prog 76 = some ⟨.func #[70, 71] #[4] false, 1, 8, .nilFunc⟩ := by kernel_rfl
@[simp] theorem ty77 : tyOf Tryd.prog 77 = some ⟨.slice 72, 1, 24, .slice none 0 0⟩ := by kernel_rfl
@[simp] theorem ty78 : tyOf Tryd.prog 78 = some ⟨.struct #[{ name := "Kind", type := 3, offset := 0, embedded := false, tag := "", pkgPath := "", byteOffset := 0 }, { name := "Name", type := 9, offset := 1, embedded := false, tag := "", pkgPath := "", byteOffset := 8 }, { name := "Of", type := 77, offset := 2, embedded := false, tag := "", pkgPath := "", byteOffset := 24 }], 3, 48, .agg #[.int .i64 0, .string ⟨#[]⟩, .slice none 0 0]⟩ := by kernel_rfl
@[simp] theorem ty79 : tyOf Tryd.prog 79 = some ⟨.struct #[{ name := "Kind", type := 3, offset := 0, embedded := false, tag := "", pkgPath := "", byteOffset := 0 }, { name := "Name", type := 9, offset := 1, embedded := false, tag := "", pkgPath := "", byteOffset := 8 }, { name := "Of", type := 77, offset := 2, embedded := false, tag := "", pkgPath := "", byteOffset := 24 }], 3, 48, .agg #[.int .i64 0, .string ⟨#[]⟩, .slice none 0 0]⟩ := by kernel_rfl
@[simp] theorem ty80 : tyOf Tryd.prog 80 = some ⟨.func #[3, 77] #[72] true, 1, 8, .nilFunc⟩ := by kernel_rfl
@[simp] theorem ty81 : tyOf Tryd.prog 81 = some ⟨.func #[72, 72] #[4] false, 1, 8, .nilFunc⟩ := by kernel_rfl
@[simp] theorem ty82 : tyOf Tryd.prog 82 = some ⟨.func #[72] #[34] false, 1, 8, .nilFunc⟩ := by kernel_rfl
@[simp] theorem ty83 : tyOf Tryd.prog 83 = some ⟨.func #[70] #[34] false, 1, 8, .nilFunc⟩ := by kernel_rfl
@[simp] theorem ty84 : tyOf Tryd.prog 84 = some ⟨.func #[70, 71, 71] #[4] false, 1, 8, .nilFunc⟩ := by kernel_rfl
@[simp] theorem ty85 : tyOf Tryd.prog 85 = some ⟨.int .u64, 1, 8, .int .u64 0⟩ := by kernel_rfl
@[simp] theorem ty86 : tyOf Tryd.prog 86 = some ⟨.map 3 3, 1, 8, .map none⟩ := by kernel_rfl
@[simp] theorem ty87 : tyOf Tryd.prog 87 = some ⟨.tuple #[3, 4], 1, 0, .tuple #[.int .i64 0, .bool false]⟩ := by kernel_rfl
@[simp] theorem ty88 : tyOf Tryd.prog 88 = some ⟨.func #[3, 9, 3, 3] #[4] false, 1, 8, .nilFunc⟩ := by kernel_rfl
@[simp] theorem ty89 : tyOf Tryd.prog 89 = some ⟨.tuple #[72, 34], 1, 0, .tuple #[.pointer none, .nilIface]⟩ := by kernel_rfl
@[simp] theorem ty90 : tyOf Tryd.prog 90 = some ⟨.func #[72] #[72, 34] false, 1, 8, .nilFunc⟩ := by kernel_rfl
@[simp] theorem ty91 : tyOf Tryd.prog 91 = some ⟨.func #[72] #[9] false, 1, 8, .nilFunc⟩ := by kernel_rfl
@[simp] theorem ty92 : tyOf Tryd.prog 92 = some ⟨.pointer 134, 1, 8, .pointer none⟩ := by kernel_rfl
@[simp] theorem ty93 : tyOf Tryd.prog 93 = some ⟨.tuple #[92, 3, 4], 1, 0, .tuple #[.pointer none, .int .i64 0, .bool false]⟩ := by kernel_rfl
@[simp] theorem ty94 : tyOf Tryd.prog 94 = some ⟨.func #[71] #[92, 3, 4] false, 1, 8, .nilFunc⟩ := by kernel_rfl
@[simp] theorem ty95 : tyOf Tryd.prog 95 = some ⟨.struct #[{ name := "Ahead", type := 68, offset := 0, embedded := false, tag := "", pkgPath := "", byteOffset := 0 }, { name := "Round", type := 68, offset := 1, embedded := false, tag := "", pkgPath := "", byteOffset := 24 }], 2, 48, .agg #[.slice none 0 0, .slice none 0 0]⟩ := by kernel_rfl
@[simp] theorem ty96 : tyOf Tryd.prog 96 = some ⟨.func #[95] #[27] false, 1, 8, .nilFunc⟩ := by kernel_rfl
@[simp] theorem ty97 : tyOf Tryd.prog 97 = some ⟨.func #[92] #[4] false, 1, 8, .nilFunc⟩ := by kernel_rfl
@[simp] theorem ty98 : tyOf Tryd.prog 98 = some ⟨.func #[95, 3] #[4] false, 1, 8, .nilFunc⟩ := by kernel_rfl
@[simp] theorem ty99 : tyOf Tryd.prog 99 = some ⟨.func #[4] #[92] false, 1, 8, .nilFunc⟩ := by kernel_rfl
@[simp] theorem ty100 : tyOf Tryd.prog 100 = some ⟨.func #[] #[9] false, 1, 8, .nilFunc⟩ := by kernel_rfl
@[simp] theorem ty101 : tyOf Tryd.prog 101 = some ⟨.func #[71] #[4] false, 1, 8, .nilFunc⟩ := by kernel_rfl
@[simp] theorem ty102 : tyOf Tryd.prog 102 = some ⟨.func #[9, 9] #[9] false, 1, 8, .nilFunc⟩ := by kernel_rfl
@[simp] theorem ty103 : tyOf Tryd.prog 103 = some ⟨.func #[75, 9] #[4] false, 1, 8, .nilFunc⟩ := by kernel_rfl
@[simp] theorem ty104 : tyOf Tryd.prog 104 = some ⟨.func #[26] #[29] false, 1, 8, .nilFunc⟩ := by kernel_rfl
@[simp] theorem ty105 : tyOf Tryd.prog 105 = some ⟨.func #[25] #[23] false, 1, 8, .nilFunc⟩ := by kernel_rfl
@[simp] theorem ty106 : tyOf Tryd.prog 106 = some ⟨.func #[32] #[32] false, 1, 8, .nilFunc⟩ := by kernel_rfl
@[simp] theorem ty107 : tyOf Tryd.prog 107 = some ⟨.tuple #[27, 3], 1, 0, .tuple #[.int .i64 0, .int .i64 0]⟩ := by kernel_rfl
@[simp] theorem ty108 : tyOf Tryd.prog 108 = some ⟨.func #[34] #[27, 3] false, 1, 8, .nilFunc⟩ := by kernel_rfl
@[simp] theorem ty109 : tyOf Tryd.prog 109 = some ⟨.pointer 110, 1, 8, .pointer none⟩ := by kernel_rfl
@[simp] theorem ty110 : tyOf Tryd.prog 110 = some ⟨.struct #[{ name := "Err", type := 27, offset := 0, embedded := false, tag := "", pkgPath := "", byteOffset := 0 }, { name := "Place", type := 3, offset := 1, embedded := false, tag := "", pkgPath := "", byteOffset := 8 }], 2, 16, .agg #[.int .i64 0, .int .i64 0]⟩ := by kernel_rfl
@[simp] theorem ty111 : tyOf Tryd.prog 111 = some ⟨.func #[32, 112] #[4] false, 1, 8, .nilFunc⟩ := by kernel_rfl
@[simp] theorem ty112 : tyOf Tryd.prog 112 = some ⟨.func #[3] #[4] false, 1, 8, .nilFunc⟩ := by kernel_rfl
@[simp] theorem ty113 : tyOf Tryd.prog 113 = some ⟨.func #[] #[23] false, 1, 8, .nilFunc⟩ := by kernel_rfl
@[simp] theorem ty114 : tyOf Tryd.prog 114 = some ⟨.func #[23, 115] #[3] false, 1, 8, .nilFunc⟩ := by kernel_rfl
@[simp] theorem ty115 : tyOf Tryd.prog 115 = some ⟨.func #[32] #[4] false, 1, 8, .nilFunc⟩ := by kernel_rfl
@[simp] theorem ty116 : tyOf Tryd.prog 116 = some ⟨.func #[27] #[29] false, 1, 8, .nilFunc⟩ := by kernel_rfl
@[simp] theorem ty117 : tyOf Tryd.prog 117 = some ⟨.func #[3, 3, 3] #[4] false, 1, 8, .nilFunc⟩ := by kernel_rfl
@[simp] theorem ty118 : tyOf Tryd.prog 118 = some ⟨.pointer 120, 1, 8, .pointer none⟩ := by kernel_rfl
@[simp] theorem ty119 : tyOf Tryd.prog 119 = some ⟨.struct #[{ name := "Clauses", type := 55, offset := 0, embedded := true, tag := "", pkgPath := "", byteOffset := 0 }, { name := "of", type := 32, offset := 2, embedded := false, tag := "", pkgPath := "signalcabin/gate", byteOffset := 32 }, { name := "trail", type := 32, offset := 3, embedded := false, tag := "", pkgPath := "signalcabin/gate", byteOffset := 56 }, { name := "steps", type := 3, offset := 4, embedded := false, tag := "", pkgPath := "signalcabin/gate", byteOffset := 80 }], 5, 88, .agg #[.int .i64 0, .slice none 0 0, .slice none 0 0, .slice none 0 0, .int .i64 0]⟩ := by kernel_rfl
@[simp] theorem ty120 : tyOf Tryd.prog 120 = some ⟨.struct #[{ name := "Clauses", type := 55, offset := 0, embedded := true, tag := "", pkgPath := "", byteOffset := 0 }, { name := "of", type := 32, offset := 2, embedded := false, tag := "", pkgPath := "signalcabin/gate", byteOffset := 32 }, { name := "trail", type := 32, offset := 3, embedded := false, tag := "", pkgPath := "signalcabin/gate", byteOffset := 56 }, { name := "steps", type := 3, offset := 4, embedded := false, tag := "", pkgPath := "signalcabin/gate", byteOffset := 80 }], 5, 88, .agg #[.int .i64 0, .slice none 0 0, .slice none 0 0, .slice none 0 0, .int .i64 0]⟩ := by kernel_rfl
@[simp] theorem ty121 : tyOf Tryd.prog 121 = some ⟨.tuple #[4, 34], 1, 0, .tuple #[.bool false, .nilIface]⟩ := by kernel_rfl
@[simp] theorem ty122 : tyOf Tryd.prog 122 = some ⟨.func #[] #[4, 34] false, 1, 8, .nilFunc⟩ := by kernel_rfl
@[simp] theorem ty123 : tyOf Tryd.prog 123 = some ⟨.func #[34, 20] #[4] false, 1, 8, .nilFunc⟩ := by kernel_rfl
@[simp] theorem ty124 : tyOf Tryd.prog 124 = some ⟨.pointer 27, 1, 8, .pointer none⟩ := by kernel_rfl
@[simp] theorem ty125 : tyOf Tryd.prog 125 = some ⟨.struct #[{ name := "Kind", type := 3, offset := 0, embedded := false, tag := "", pkgPath := "", byteOffset := 0 }, { name := "A", type := 3, offset := 1, embedded := false, tag := "", pkgPath := "", byteOffset := 8 }, { name := "B", type := 3, offset := 2, embedded := false, tag := "", pkgPath := "", byteOffset := 16 }, { name := "Name", type := 9, offset := 3, embedded := false, tag := "", pkgPath := "", byteOffset := 24 }], 4, 40, .agg #[.int .i64 0, .int .i64 0, .int .i64 0, .string ⟨#[]⟩]⟩ := by kernel_rfl
@[simp] theorem ty126 : tyOf Tryd.prog 126 = some ⟨.struct #[{ name := "Kind", type := 3, offset := 0, embedded := false, tag := "", pkgPath := "", byteOffset := 0 }, { name := "A", type := 3, offset := 1, embedded := false, tag := "", pkgPath := "", byteOffset := 8 }, { name := "B", type := 3, offset := 2, embedded := false, tag := "", pkgPath := "", byteOffset := 16 }, { name := "Name", type := 9, offset := 3, embedded := false, tag := "", pkgPath := "", byteOffset := 24 }], 4, 40, .agg #[.int .i64 0, .int .i64 0, .int .i64 0, .string ⟨#[]⟩]⟩ := by kernel_rfl
@[simp] theorem ty127 : tyOf Tryd.prog 127 = some ⟨.func #[70, 72] #[56] false, 1, 8, .nilFunc⟩ := by kernel_rfl
@[simp] theorem ty128 : tyOf Tryd.prog 128 = some ⟨.tuple #[3, 27], 1, 0, .tuple #[.int .i64 0, .int .i64 0]⟩ := by kernel_rfl
@[simp] theorem ty129 : tyOf Tryd.prog 129 = some ⟨.func #[72, 3] #[3, 27] false, 1, 8, .nilFunc⟩ := by kernel_rfl
@[simp] theorem ty130 : tyOf Tryd.prog 130 = some ⟨.slice 68, 1, 24, .slice none 0 0⟩ := by kernel_rfl
@[simp] theorem ty131 : tyOf Tryd.prog 131 = some ⟨.func #[72, 4] #[72] false, 1, 8, .nilFunc⟩ := by kernel_rfl
@[simp] theorem ty132 : tyOf Tryd.prog 132 = some ⟨.slice 92, 1, 24, .slice none 0 0⟩ := by kernel_rfl
@[simp] theorem ty133 : tyOf Tryd.prog 133 = some ⟨.struct #[{ name := "Kind", type := 3, offset := 0, embedded := false, tag := "", pkgPath := "", byteOffset := 0 }, { name := "Name", type := 9, offset := 1, embedded := false, tag := "", pkgPath := "", byteOffset := 8 }, { name := "Of", type := 132, offset := 2, embedded := false, tag := "", pkgPath := "", byteOffset := 24 }], 3, 48, .agg #[.int .i64 0, .string ⟨#[]⟩, .slice none 0 0]⟩ := by kernel_rfl
@[simp] theorem ty134 : tyOf Tryd.prog 134 = some ⟨.struct #[{ name := "Kind", type := 3, offset := 0, embedded := false, tag := "", pkgPath := "", byteOffset := 0 }, { name := "Name", type := 9, offset := 1, embedded := false, tag := "", pkgPath := "", byteOffset := 8 }, { name := "Of", type := 132, offset := 2, embedded := false, tag := "", pkgPath := "", byteOffset := 24 }], 3, 48, .agg #[.int .i64 0, .string ⟨#[]⟩, .slice none 0 0]⟩ := by kernel_rfl
@[simp] theorem ty135 : tyOf Tryd.prog 135 = some ⟨.func #[3] #[3] false, 1, 8, .nilFunc⟩ := by kernel_rfl
@[simp] theorem ty136 : tyOf Tryd.prog 136 = some ⟨.func #[75, 9] #[3] false, 1, 8, .nilFunc⟩ := by kernel_rfl
@[simp] theorem ty137 : tyOf Tryd.prog 137 = some ⟨.func #[92] #[92] false, 1, 8, .nilFunc⟩ := by kernel_rfl
@[simp] theorem ty138 : tyOf Tryd.prog 138 = some ⟨.func #[3, 132] #[92] true, 1, 8, .nilFunc⟩ := by kernel_rfl
@[simp] theorem ty139 : tyOf Tryd.prog 139 = some ⟨.map 3 9, 1, 8, .map none⟩ := by kernel_rfl
@[simp] theorem ty140 : tyOf Tryd.prog 140 = some ⟨.func #[9, 5] #[9] false, 1, 8, .nilFunc⟩ := by kernel_rfl
@[simp] theorem ty143 : tyOf Tryd.prog 143 = some ⟨.tuple #[142, 4], 1, 0, .tuple #[.agg #[.bool false, .bool false, .bool false, .bool false, .bool false, .bool false, .bool false, .bool false, .bool false, .bool false, .bool false, .bool false, .bool false, .bool false, .bool false, .bool false, .bool false, .bool false, .bool false, .bool false, .bool false, .bool false, .bool false, .bool false, .bool false, .bool false, .bool false, .bool false, .bool false, .bool false, .bool false, .bool false, .bool false, .bool false, .bool false, .bool false, .bool false, .bool false, .bool false, .bool false, .bool false, .bool false, .bool false, .bool false, .bool false, .bool false, .bool false, .bool false, .bool false, .bool false, .bool false, .bool false, .bool false, .bool false, .bool false, .bool false, .bool false, .bool false, .bool false, .bool false, .bool false, .bool false, .bool false, .bool false, .bool false, .bool false, .bool false, .bool false, .bool false, .bool false, .bool false, .bool false, .bool false, .bool false, .bool false, .bool false, .bool false, .bool false, .bool false, .bool false, .bool false, .bool false, .bool false, .bool false, .bool false, .bool false, .bool false, .bool false, .bool false, .bool false, .bool false, .bool false, .bool false, .bool false, .bool false, .bool false, .bool false, .bool false, .bool false, .bool false, .bool false, .bool false, .bool false, .bool false, .bool false, .bool false, .bool false, .bool false, .bool false, .bool false, .bool false, .bool false, .bool false, .bool false, .bool false, .bool false, .bool false, .bool false, .bool false, .bool false, .bool false, .bool false, .bool false, .bool false, .bool false, .bool false, .bool false, .bool false, .bool false, .bool false, .bool false, .bool false, .bool false, .bool false, .bool false, .bool false, .bool false, .bool false, .bool false, .bool false, .bool false, .bool false, .bool false, .bool false, .bool false, .bool false, .bool false, .bool false, .bool false, .bool false, .bool false, .bool false, .bool false, .bool false, .bool false, .bool false, .bool false, .bool false, .bool false, .bool false, .bool false, .bool false, .bool false, .bool false, .bool false, .bool false, .bool false, .bool false, .bool false, .bool false, .bool false, .bool false, .bool false, .bool false, .bool false, .bool false, .bool false, .bool false, .bool false, .bool false, .bool false, .bool false, .bool false, .bool false, .bool false, .bool false, .bool false, .bool false, .bool false, .bool false, .bool false, .bool false, .bool false, .bool false, .bool false, .bool false, .bool false, .bool false, .bool false, .bool false, .bool false, .bool false, .bool false, .bool false, .bool false, .bool false, .bool false, .bool false, .bool false, .bool false, .bool false, .bool false, .bool false, .bool false, .bool false, .bool false, .bool false, .bool false, .bool false, .bool false, .bool false, .bool false, .bool false, .bool false, .bool false, .bool false, .bool false, .bool false, .bool false, .bool false, .bool false, .bool false, .bool false, .bool false, .bool false, .bool false, .bool false, .bool false, .bool false, .bool false, .bool false, .bool false, .bool false, .bool false, .bool false, .bool false, .bool false, .bool false, .bool false, .bool false, .bool false, .bool false, .bool false, .bool false, .bool false, .bool false], .bool false]⟩ := by kernel_rfl
@[simp] theorem ty144 : tyOf Tryd.prog 144 = some ⟨.func #[9] #[142, 4] false, 1, 8, .nilFunc⟩ := by kernel_rfl
@[simp] theorem ty145 : tyOf Tryd.prog 145 = some ⟨.func #[9, 146] #[9] false, 1, 8, .nilFunc⟩ := by kernel_rfl
@[simp] theorem ty146 : tyOf Tryd.prog 146 = some ⟨.pointer 142, 1, 8, .pointer none⟩ := by kernel_rfl
@[simp] theorem ty147 : tyOf Tryd.prog 147 = some ⟨.func #[23] #[32] false, 1, 8, .nilFunc⟩ := by kernel_rfl
@[simp] theorem ty148 : tyOf Tryd.prog 148 = some ⟨.tuple #[109, 4], 1, 0, .tuple #[.pointer none, .bool false]⟩ := by kernel_rfl
@[simp] theorem ty149 : tyOf Tryd.prog 149 = some ⟨.interface #[("Unwrap", 151)], 1, 16, .nilIface⟩ := by kernel_rfl
@[simp] theorem ty150 : tyOf Tryd.prog 150 = some ⟨.tuple #[149, 4], 1, 0, .tuple #[.nilIface, .bool false]⟩ := by kernel_rfl
@[simp] theorem ty151 : tyOf Tryd.prog 151 = some ⟨.func #[] #[34] false, 1, 8, .nilFunc⟩ := by kernel_rfl
@[simp] theorem ty152 : tyOf Tryd.prog 152 = some ⟨.func #[32, 112] #[3] false, 1, 8, .nilFunc⟩ := by kernel_rfl
@[simp] theorem ty153 : tyOf Tryd.prog 153 = some ⟨.func #[3] #[] false, 1, 8, .nilFunc⟩ := by kernel_rfl
@[simp] theorem ty154 : tyOf Tryd.prog 154 = some ⟨.func #[32, 3] #[3] false, 1, 8, .nilFunc⟩ := by kernel_rfl
@[simp] theorem ty157 : tyOf Tryd.prog 157 = some ⟨.struct #[{ name := "typ_", type := 17, offset := 0, embedded := false, tag := "", pkgPath := "internal/reflectlite", byteOffset := 0 }, { name := "ptr", type := 155, offset := 1, embedded := false, tag := "", pkgPath := "internal/reflectlite", byteOffset := 8 }, { name := "flag", type := 156, offset := 2, embedded := true, tag := "", pkgPath := "internal/reflectlite", byteOffset := 16 }], 3, 24, .agg #[.pointer none, .pointer none, .int .u64 0]⟩ := by kernel_rfl
@[simp] theorem ty159 : tyOf Tryd.prog 159 = some ⟨.func #[20] #[158] false, 1, 8, .nilFunc⟩ := by kernel_rfl
@[simp] theorem ty160 : tyOf Tryd.prog 160 = some ⟨.interface #[("AssignableTo", 165), ("Comparable", 65), ("Elem", 162), ("Implements", 165), ("Kind", 164), ("Name", 100), ("PkgPath", 100), ("Size", 219), ("String", 100), ("internal/reflectlite.common", 211), ("internal/reflectlite.uncommon", 220)], 1, 16, .nilIface⟩ := by kernel_rfl
@[simp] theorem ty162 : tyOf Tryd.prog 162 = some ⟨.func #[] #[161] false, 1, 8, .nilFunc⟩ := by kernel_rfl
@[simp] theorem ty164 : tyOf Tryd.prog 164 = some ⟨.func #[] #[163] false, 1, 8, .nilFunc⟩ := by kernel_rfl
@[simp] theorem ty165 : tyOf Tryd.prog 165 = some ⟨.func #[161] #[4] false, 1, 8, .nilFunc⟩ := by kernel_rfl
@[simp] theorem ty166 : tyOf Tryd.prog 166 = some ⟨.func #[34, 20, 158, 161] #[4] false, 1, 8, .nilFunc⟩ := by kernel_rfl
@[simp] theorem ty167 : tyOf Tryd.prog 167 = some ⟨.slice 56, 1, 24, .slice none 0 0⟩ := by kernel_rfl
@[simp] theorem ty168 : tyOf Tryd.prog 168 = some ⟨.func #[3, 4] #[4] false, 1, 8, .nilFunc⟩ := by kernel_rfl
@[simp] theorem ty169 : tyOf Tryd.prog 169 = some ⟨.func #[4, 168] #[] false, 1, 8, .nilFunc⟩ := by kernel_rfl
@[simp] theorem ty170 : tyOf Tryd.prog 170 = some ⟨.array 11 3, 11, 88, .agg #[.int .i64 0, .int .i64 0, .int .i64 0, .int .i64 0, .int .i64 0, .int .i64 0, .int .i64 0, .int .i64 0, .int .i64 0, .int .i64 0, .int .i64 0]⟩ := by kernel_rfl
@[simp] theorem ty171 : tyOf Tryd.prog 171 = some ⟨.func #[75, 9] #[9] false, 1, 8, .nilFunc⟩ := by kernel_rfl
@[simp] theorem ty172 : tyOf Tryd.prog 172 = some ⟨.func #[5] #[4] false, 1, 8, .nilFunc⟩ := by kernel_rfl
@[simp] theorem ty173 : tyOf Tryd.prog 173 = some ⟨.tuple #[21, 3], 1, 0, .tuple #[.int .i32 0, .int .i64 0]⟩ := by kernel_rfl
@[simp] theorem ty174 : tyOf Tryd.prog 174 = some ⟨.func #[9] #[21, 3] false, 1, 8, .nilFunc⟩ := by kernel_rfl
@[simp] theorem ty175 : tyOf Tryd.prog 175 = some ⟨.func #[9, 21] #[4] false, 1, 8, .nilFunc⟩ := by kernel_rfl
@[simp] theorem ty176 : tyOf Tryd.prog 176 = some ⟨.struct #[{ name := "Type", type := 17, offset := 0, embedded := true, tag := "", pkgPath := "", byteOffset := 0 }], 1, 8, .agg #[.pointer none]⟩ := by kernel_rfl
@[simp] theorem ty178 : tyOf Tryd.prog 178 = some ⟨.pointer 222, 1, 8, .pointer none⟩ := by kernel_rfl
@[simp] theorem ty179 : tyOf Tryd.prog 179 = some ⟨.func #[20] #[161] false, 1, 8, .nilFunc⟩ := by kernel_rfl
@[simp] theorem ty180 : tyOf Tryd.prog 180 = some ⟨.func #[] #[158] false, 1, 8, .nilFunc⟩ := by kernel_rfl
@[simp] theorem ty181 : tyOf Tryd.prog 181 = some ⟨.func #[158] #[] false, 1, 8, .nilFunc⟩ := by kernel_rfl
@[simp] theorem ty182 : tyOf Tryd.prog 182 = some ⟨.interface #[("As", 184)], 1, 16, .nilIface⟩ := by kernel_rfl
@[simp] theorem ty183 : tyOf Tryd.prog 183 = some ⟨.tuple #[182, 4], 1, 0, .tuple #[.nilIface, .bool false]⟩ := by kernel_rfl
@[simp] theorem ty184 : tyOf Tryd.prog 184 = some ⟨.func #[20] #[4] false, 1, 8, .nilFunc⟩ := by kernel_rfl
@[simp] theorem ty185 : tyOf Tryd.prog 185 = some ⟨.interface #[("Unwrap", 187)], 1, 16, .nilIface⟩ := by kernel_rfl
@[simp] theorem ty186 : tyOf Tryd.prog 186 = some ⟨.slice 34, 1, 24, .slice none 0 0⟩ := by kernel_rfl
@[simp] theorem ty187 : tyOf Tryd.prog 187 = some ⟨.func #[] #[186] false, 1, 8, .nilFunc⟩ := by kernel_rfl
@[simp] theorem ty188 : tyOf Tryd.prog 188 = some ⟨.pointer 191, 1, 8, .pointer none⟩ := by kernel_rfl
@[simp] theorem ty189 : tyOf Tryd.prog 189 = some ⟨.slice 5, 1, 24, .slice none 0 0⟩ := by kernel_rfl
@[simp] theorem ty190 : tyOf Tryd.prog 190 = some ⟨.struct #[{ name := "addr", type := 188, offset := 0, embedded := false, tag := "", pkgPath := "strings", byteOffset := 0 }, { name := "buf", type := 189, offset := 1, embedded := false, tag := "", pkgPath := "strings", byteOffset := 8 }], 2, 32, .agg #[.pointer none, .slice none 0 0]⟩ := by kernel_rfl
@[simp] theorem ty191 : tyOf Tryd.prog 191 = some ⟨.struct #[{ name := "addr", type := 188, offset := 0, embedded := false, tag := "", pkgPath := "strings", byteOffset := 0 }, { name := "buf", type := 189, offset := 1, embedded := false, tag := "", pkgPath := "strings", byteOffset := 8 }], 2, 32, .agg #[.pointer none, .slice none 0 0]⟩ := by kernel_rfl
@[simp] theorem ty192 : tyOf Tryd.prog 192 = some ⟨.tuple #[3, 34], 1, 0, .tuple #[.int .i64 0, .nilIface]⟩ := by kernel_rfl
@[simp] theorem ty193 : tyOf Tryd.prog 193 = some ⟨.func #[9] #[3, 34] false, 1, 8, .nilFunc⟩ := by kernel_rfl
@[simp] theorem ty194 : tyOf Tryd.prog 194 = some ⟨.func #[9, 21] #[3] false, 1, 8, .nilFunc⟩ := by kernel_rfl
@[simp] theorem ty195 : tyOf Tryd.prog 195 = some ⟨.pointer 5, 1, 8, .pointer none⟩ := by kernel_rfl
@[simp] theorem ty197 : tyOf Tryd.prog 197 = some ⟨.struct #[{ name := "lo", type := 5, offset := 0, embedded := false, tag := "", pkgPath := "unicode/utf8", byteOffset := 0 }, { name := "hi", type := 5, offset := 1, embedded := false, tag := "", pkgPath := "unicode/utf8", byteOffset := 1 }], 2, 2, .agg #[.int .u8 0, .int .u8 0]⟩ := by kernel_rfl
@[simp] theorem ty198 : tyOf Tryd.prog 198 = some ⟨.struct #[{ name := "lo", type := 5, offset := 0, embedded := false, tag := "", pkgPath := "unicode/utf8", byteOffset := 0 }, { name := "hi", type := 5, offset := 1, embedded := false, tag := "", pkgPath := "unicode/utf8", byteOffset := 1 }], 2, 2, .agg #[.int .u8 0, .int .u8 0]⟩ := by kernel_rfl
@[simp] theorem ty199 : tyOf Tryd.prog 199 = some ⟨.array 16 198, 32, 32, .agg #[.int .u8 0, .int .u8 0, .int .u8 0, .int .u8 0, .int .u8 0, .int .u8 0, .int .u8 0, .int .u8 0, .int .u8 0, .int .u8 0, .int .u8 0, .int .u8 0, .int .u8 0, .int .u8 0, .int .u8 0, .int .u8 0, .int .u8 0, .int .u8 0, .int .u8 0, .int .u8 0, .int .u8 0, .int .u8 0, .int .u8 0, .int .u8 0, .int .u8 0, .int .u8 0, .int .u8 0, .int .u8 0, .int .u8 0, .int .u8 0, .int .u8 0, .int .u8 0]⟩ := by kernel_rfl
@[simp] theorem ty200 : tyOf Tryd.prog 200 = some ⟨.func #[9, 5] #[3] false, 1, 8, .nilFunc⟩ := by kernel_rfl
@[simp] theorem ty201 : tyOf Tryd.prog 201 = some ⟨.func #[21] #[4] false, 1, 8, .nilFunc⟩ := by kernel_rfl
@[simp] theorem ty202 : tyOf Tryd.prog 202 = some ⟨.func #[9, 9] #[3] false, 1, 8, .nilFunc⟩ := by kernel_rfl
@[simp] theorem ty203 : tyOf Tryd.prog 203 = some ⟨.func #[155] #[155] false, 1, 8, .nilFunc⟩ := by kernel_rfl
@[simp] theorem ty204 : tyOf Tryd.prog 204 = some ⟨.func #[3] #[189] false, 1, 8, .nilFunc⟩ := by kernel_rfl
@[simp] theorem ty205 : tyOf Tryd.prog 205 = some ⟨.struct #[{ name := "_interface", type := 17, offset := 0, embedded := false, tag := "", pkgPath := "runtime", byteOffset := 0 }, { name := "concrete", type := 17, offset := 1, embedded := false, tag := "", pkgPath := "runtime", byteOffset := 8 }, { name := "asserted", type := 17, offset := 2, embedded := false, tag := "", pkgPath := "runtime", byteOffset := 16 }, { name := "missingMethod", type := 9, offset := 3, embedded := false, tag := "", pkgPath := "runtime", byteOffset := 24 }], 4, 40, .agg #[.pointer none, .pointer none, .pointer none, .string ⟨#[]⟩]⟩ := by kernel_rfl
@[simp] theorem ty207 : tyOf Tryd.prog 207 = some ⟨.array 0 16, 0, 0, .agg #[]⟩ := by kernel_rfl
@[simp] theorem ty208 : tyOf Tryd.prog 208 = some ⟨.struct #[{ name := "_", type := 207, offset := 0, embedded := false, tag := "", pkgPath := "runtime", byteOffset := 0 }], 0, 0, .agg #[]⟩ := by kernel_rfl
@[simp] theorem ty210 : tyOf Tryd.prog 210 = some ⟨.func #[] #[3] false, 1, 8, .nilFunc⟩ := by kernel_rfl
@[simp] theorem ty211 : tyOf Tryd.prog 211 = some ⟨.func #[] #[17] false, 1, 8, .nilFunc⟩ := by kernel_rfl
@[simp] theorem ty212 : tyOf Tryd.prog 212 = some ⟨.int .u32, 1, 4, .int .u32 0⟩ := by kernel_rfl
@[simp] theorem ty214 : tyOf Tryd.prog 214 = some ⟨.func #[155, 155] #[4] false, 1, 8, .nilFunc⟩ := by kernel_rfl
@[simp] theorem ty217 : tyOf Tryd.prog 217 = some ⟨.struct #[{ name := "Size_", type := 12, offset := 0, embedded := false, tag := "", pkgPath := "", byteOffset := 0 }, { name := "PtrBytes", type := 12, offset := 1, embedded := false, tag := "", pkgPath := "", byteOffset := 8 }, { name := "Hash", type := 212, offset := 2, embedded := false, tag := "", pkgPath := "", byteOffset := 16 }, { name := "TFlag", type := 213, offset := 3, embedded := false, tag := "", pkgPath := "", byteOffset := 20 }, { name := "Align_", type := 5, offset := 4, embedded := false, tag := "", pkgPath := "", byteOffset := 21 }, { name := "FieldAlign_", type := 5, offset := 5, embedded := false, tag := "", pkgPath := "", byteOffset := 22 }, { name := "Kind_", type := 163, offset := 6, embedded := false, tag := "", pkgPath := "", byteOffset := 23 }, { name := "Equal", type := 214, offset := 7, embedded := false, tag := "", pkgPath := "", byteOffset := 24 }, { name := "GCData", type := 195, offset := 8, embedded := false, tag := "", pkgPath := "", byteOffset := 32 }, { name := "Str", type := 215, offset := 9, embedded := false, tag := "", pkgPath := "", byteOffset := 40 }, { name := "PtrToThis", type := 216, offset := 10, embedded := false, tag := "", pkgPath := "", byteOffset := 44 }], 11, 48, .agg #[.int .u64 0, .int .u64 0, .int .u32 0, .int .u8 0, .int .u8 0, .int .u8 0, .int .u8 0, .nilFunc, .pointer none, .int .i32 0, .int .i32 0]⟩ := by kernel_rfl
@[simp] theorem ty219 : tyOf Tryd.prog 219 = some ⟨.func #[] #[12] false, 1, 8, .nilFunc⟩ := by kernel_rfl
@[simp] theorem ty220 : tyOf Tryd.prog 220 = some ⟨.func #[] #[223] false, 1, 8, .nilFunc⟩ := by kernel_rfl
@[simp] theorem ty221 : tyOf Tryd.prog 221 = some ⟨.struct #[{ name := "Method", type := 9, offset := 0, embedded := false, tag := "", pkgPath := "", byteOffset := 0 }, { name := "Kind", type := 163, offset := 1, embedded := false, tag := "", pkgPath := "", byteOffset := 16 }], 2, 24, .agg #[.string ⟨#[]⟩, .int .u8 0]⟩ := by kernel_rfl
@[simp] theorem ty223 : tyOf Tryd.prog 223 = some ⟨.pointer 227, 1, 8, .pointer none⟩ := by kernel_rfl
@[simp] theorem ty224 : tyOf Tryd.prog 224 = some ⟨.func #[] #[228] false, 1, 8, .nilFunc⟩ := by kernel_rfl
@[simp] theorem ty225 : tyOf Tryd.prog 225 = some ⟨.int .u16, 1, 2, .int .u16 0⟩ := by kernel_rfl
@[simp] theorem ty226 : tyOf Tryd.prog 226 = some ⟨.struct #[{ name := "PkgPath", type := 215, offset := 0, embedded := false, tag := "", pkgPath := "", byteOffset := 0 }, { name := "Mcount", type := 225, offset := 1, embedded := false, tag := "", pkgPath := "", byteOffset := 4 }, { name := "Xcount", type := 225, offset := 2, embedded := false, tag := "", pkgPath := "", byteOffset := 6 }, { name := "Moff", type := 212, offset := 3, embedded := false, tag := "", pkgPath := "", byteOffset := 8 }, { name := "_", type := 212, offset := 4, embedded := false, tag := "", pkgPath := "internal/abi", byteOffset := 12 }], 5, 16, .agg #[.int .i32 0, .int .u16 0, .int .u16 0, .int .u32 0, .int .u32 0]⟩ := by kernel_rfl
@[simp] theorem ty228 : tyOf Tryd.prog 228 = some ⟨.slice 231, 1, 24, .slice none 0 0⟩ := by kernel_rfl
@[simp] theorem ty230 : tyOf Tryd.prog 230 = some ⟨.struct #[{ name := "Name", type := 215, offset := 0, embedded := false, tag := "", pkgPath := "", byteOffset := 0 }, { name := "Mtyp", type := 216, offset := 1, embedded := false, tag := "", pkgPath := "", byteOffset := 4 }, { name := "Ifn", type := 229, offset := 2, embedded := false, tag := "", pkgPath := "", byteOffset := 8 }, { name := "Tfn", type := 229, offset := 3, embedded := false, tag := "", pkgPath := "", byteOffset := 12 }], 4, 16, .agg #[.int .i32 0, .int .i32 0, .int .i32 0, .int .i32 0]⟩ := by kernel_rfl
@[simp] theorem ty232 : tyOf Tryd.prog 232 = some ⟨.pointer 34, 1, 8, .pointer none⟩ := by kernel_rfl
end Go.Proofs.YtoikggboakojlaaDoor

/-
  Lists of numbers that are told apart.
-/
namespace Go.Proofs.YtoikggboakojlaaDoor
set_option linter.unusedSimpArgs false
set_option linter.unusedVariables false
open Go.Av

def dInts (k : Option Bool) (l : List Int) : D := .sl k (l.map fun n => [.v (.int .i64 n)])

theorem take_eq_all {l l' : List Int} (hl : l.length = l'.length) (h : l.take l.length = l'.take l.length) : l = l' := by
  rw [List.take_length, hl, List.take_length] at h; exact h
theorem take_step {l l' : List Int} {k : Nat} (h : l.take k = l'.take k) (hk : k < l.length) (hk' : k < l'.length) (he : l[k] = l'[k]) : l.take (k + 1) = l'.take (k + 1) := by
  rw [List.take_succ_eq_append_getElem hk, List.take_succ_eq_append_getElem hk', h, he]

set_option maxHeartbeats 1000000 in
theorem equal_spec (G : Glob) (k k' : Option Bool) (l l' : List Int) (h : l.length < 2^63) : PureC Tryd.prog G 91 [dInts k l, dInts k' l'] (.v (.bool (l == l'))) := by
  refine PureC.of_body (tyOf_good _) Tryd.func91 rfl rfl (rs := [.tmp 4]) Tryd.results91 (by simp [Tryd.ntmps91]) fun X => ?_
  simp only [Tryd.ntmps91, List.map]
  refine AW_rg (tyOf_good _) [0, 1] [] (fun _ _ => trivial) fun K' hK' => ?_
  repeat (refine sxf_next fun K2 hK2 => ?_; simp; (repeat (refine ⟨by omega, ?_⟩)); refine hK2 _ ?_; clear hK2 K2)
  refine sxf_nil (hK' _ ?_)
  refine AW.st (by simp; rfl) ?_
  clear hK' K'
  refine AW_then fun K1 hK1 => ?_
  refine AW_rg (tyOf_good _) [0, 1, 10] [] (fun _ _ => trivial) fun K' hK' => ?_
  repeat (refine sxf_next fun K2 hK2 => ?_; simp [dInts]; (repeat (refine ⟨by omega, ?_⟩)); refine hK2 _ ?_; clear hK2 K2)
  refine sxf_nil (hK' _ ?_)
  refine AW.st (by simp [dInts]; rfl) ?_
  clear hK' K'
  refine AW_cond' (b := l.length ≠ l'.length) (by simp [D.le, D.le.go, takeMap]) (fun hc => ?_) (fun hc => ?_)
  · refine AW_rg (tyOf_good _) [4] [] (fun _ _ => trivial) fun K' hK' => ?_
    repeat (refine sxf_next fun K2 hK2 => ?_; simp; (repeat (refine ⟨by omega, ?_⟩)); refine hK2 _ ?_; clear hK2 K2)
    refine sxf_nil (hK' _ ?_)
    refine AW.st (by simp; rfl) ?_
    clear hK' K'
    refine AW_ret ?_
    simp [D.le, D.le.go, takeMap]
    intro e; subst e; simp at hc
  · refine AW_skip (hK1 _ ?_)
    have hl : l.length = l'.length := by simpa using hc
    refine AW_then fun K2 hK2 => ?_
    refine AW_rg (tyOf_good _) [0, 1, 12, 13] [] (fun _ _ => trivial) fun K' hK' => ?_
    repeat (refine sxf_next fun K2 hK2 => ?_; simp [dInts]; (repeat (refine ⟨by omega, ?_⟩)); refine hK2 _ ?_; clear hK2 K2)
    refine sxf_nil (hK' _ ?_)
    refine AW.st (by simp [dInts]; rfl) ?_
    clear hK' K'
    refine AW_for (S := Nat) (fun n => n ≤ l.length ∧ l.take n = l'.take n) (fun n => ⟨lst [(0, .d (dInts k l)), (1, .d (dInts k' l')), (12, int l.length), (13, int n)], hlst []⟩) (fun n => l.length - n) 0 ?_ (by simp) ?_
    · refine Imp.to' (fun _ _ => trivial) (by simp [dInts]) (by simp [dInts])
    · rintro n ⟨hn, ht⟩
      refine AW_rg (tyOf_good _) [0, 1, 12, 13, 14] [] (fun _ _ => trivial) fun K' hK' => ?_
      repeat (refine sxf_next fun K2 hK2 => ?_; simp; (repeat (refine ⟨by omega, ?_⟩)); refine hK2 _ ?_; clear hK2 K2)
      refine sxf_nil (hK' _ ?_)
      refine AW.st (by simp; rfl) ?_
      clear hK' K'
      refine AW_then fun K3 hK3 => ?_
      refine AW_cond' (b := n < l.length) (by simp [D.le, D.le.go, takeMap]) (fun hc => ?_) (fun hc => ?_)
      · refine AW_skip (hK3 _ ?_)
        refine AW_then fun K4 hK4 => ?_
        refine AW_block ?_
        refine AW_rg (tyOf_good _) [0, 1, 5, 12, 13] [] (fun _ _ => trivial) fun K' hK' => ?_
        repeat (refine sxf_next fun K2 hK2 => ?_; simp; (repeat (refine ⟨by omega, ?_⟩)); refine hK2 _ ?_; clear hK2 K2)
        refine sxf_nil (hK' _ ?_)
        refine AW.st (by simp; rfl) ?_
        clear hK' K'
        have hn' : n < l'.length := by omega
        refine AW_rd (tyOf_good _) (by kernel_rfl) [0, 1, 12, 13, 24] [] (fun _ _ => trivial) (by kernel_rfl) fun K' hK' => ?_
        repeat (refine sxd_next fun K2 hK2 => ?_; simp [dInts, hc, hn']; (repeat (refine ⟨by omega, ?_⟩)); refine hK2 _ ?_; clear hK2 K2)
        refine sxd_nil (hK' _ ?_)
        refine AW.st (by simp [dInts, hc, hn']; rfl) ?_
        clear hK' K'
        refine AW_cond' (b := ¬ l[n] = l'[n]) (by simp [D.le, D.le.go, takeMap]) (fun hc => ?_) (fun hc => ?_)
        · refine AW_rg (tyOf_good _) [4] [] (fun _ _ => trivial) fun K' hK' => ?_
          repeat (refine sxf_next fun K2 hK2 => ?_; simp; (repeat (refine ⟨by omega, ?_⟩)); refine hK2 _ ?_; clear hK2 K2)
          refine sxf_nil (hK' _ ?_)
          refine AW.st (by simp; rfl) ?_
          clear hK' K'
          refine AW_ret ?_
          simp [D.le, D.le.go, takeMap]
          intro e; subst e; simp at hc
        · refine AW_skip (hK4 _ ?_)
          refine AW_re (tyOf_good _) fun K' hK' => ?_
          repeat (refine sxf_next fun K2 hK2 => ?_; simp; (repeat (refine ⟨by omega, ?_⟩)); refine hK2 _ ?_; clear hK2 K2)
          refine sxf_nil (hK' _ ?_)
          clear hK' K'
          try simp only [thn, inb]
          have he : l[n] = l'[n] := by simpa using hc
          refine Again.mk (n + 1) ⟨by omega, take_step ht (by omega) hn' he⟩ (by omega) ?_
          refine Imp.to' (fun _ _ => trivial) (by simp [dInts]) (by simp [dInts])
      · refine AW_exit (hK2 _ ?_)
        refine AW_rg (tyOf_good _) [4] [] (fun _ _ => trivial) fun K' hK' => ?_
        repeat (refine sxf_next fun K2 hK2 => ?_; simp; (repeat (refine ⟨by omega, ?_⟩)); refine hK2 _ ?_; clear hK2 K2)
        refine sxf_nil (hK' _ ?_)
        refine AW.st (by simp; rfl) ?_
        clear hK' K'
        refine AW_ret ?_
        simp [D.le, D.le.go, takeMap]
        have hnn : n = l.length := by omega
        subst hnn
        exact take_eq_all hl ht

set_option maxHeartbeats 1000000 in
theorem sameInts_spec (G : Glob) (k k' : Option Bool) (l l' : List Int) (h : l.length < 2^63) : PureC Tryd.prog G 37 [dInts k l, dInts k' l'] (.v (.bool (l == l'))) := by
  refine PureC.of_body (tyOf_good _) Tryd.func37 rfl rfl (rs := [.tmp 4]) Tryd.results37 (by simp [Tryd.ntmps37]) fun X => ?_
  simp only [Tryd.ntmps37, List.map]
  refine AW_rg (tyOf_good _) [0, 1] [] (fun _ _ => trivial) fun K' hK' => ?_
  repeat (refine sxf_next fun K2 hK2 => ?_; simp; (repeat (refine ⟨by omega, ?_⟩)); refine hK2 _ ?_; clear hK2 K2)
  refine sxf_nil (hK' _ ?_)
  refine AW.st (by simp; rfl) ?_
  clear hK' K'
  refine AW_then fun K1 hK1 => ?_
  refine AW_rg (tyOf_good _) [0, 1, 10] [] (fun _ _ => trivial) fun K' hK' => ?_
  repeat (refine sxf_next fun K2 hK2 => ?_; simp [dInts]; (repeat (refine ⟨by omega, ?_⟩)); refine hK2 _ ?_; clear hK2 K2)
  refine sxf_nil (hK' _ ?_)
  refine AW.st (by simp [dInts]; rfl) ?_
  clear hK' K'
  refine AW_cond' (b := l.length ≠ l'.length) (by simp [D.le, D.le.go, takeMap]) (fun hc => ?_) (fun hc => ?_)
  · refine AW_rg (tyOf_good _) [4] [] (fun _ _ => trivial) fun K' hK' => ?_
    repeat (refine sxf_next fun K2 hK2 => ?_; simp; (repeat (refine ⟨by omega, ?_⟩)); refine hK2 _ ?_; clear hK2 K2)
    refine sxf_nil (hK' _ ?_)
    refine AW.st (by simp; rfl) ?_
    clear hK' K'
    refine AW_ret ?_
    simp [D.le, D.le.go, takeMap]
    intro e; subst e; simp at hc
  · refine AW_skip (hK1 _ ?_)
    have hl : l.length = l'.length := by simpa using hc
    refine AW_then fun K2 hK2 => ?_
    refine AW_rg (tyOf_good _) [0, 1, 5] [] (fun _ _ => trivial) fun K' hK' => ?_
    repeat (refine sxf_next fun K2 hK2 => ?_; simp [dInts]; (repeat (refine ⟨by omega, ?_⟩)); refine hK2 _ ?_; clear hK2 K2)
    refine sxf_nil (hK' _ ?_)
    refine AW.st (by simp [dInts]; rfl) ?_
    clear hK' K'
    refine AW_for (S := Nat) (fun n => n ≤ l.length ∧ l.take n = l'.take n) (fun n => ⟨lst [(0, .d (dInts k l)), (1, .d (dInts k' l')), (5, int n)], hlst []⟩) (fun n => l.length - n) 0 ?_ (by simp) ?_
    · refine Imp.to' (fun _ _ => trivial) (by simp [dInts]) (by simp [dInts])
    · rintro n ⟨hn, ht⟩
      refine AW_then fun K3 hK3 => ?_
      refine AW_rg (tyOf_good _) [0, 1, 5, 14] [] (fun _ _ => trivial) fun K' hK' => ?_
      repeat (refine sxf_next fun K2 hK2 => ?_; simp [dInts]; (repeat (refine ⟨by omega, ?_⟩)); refine hK2 _ ?_; clear hK2 K2)
      refine sxf_nil (hK' _ ?_)
      refine AW.st (by simp [dInts]; rfl) ?_
      clear hK' K'
      refine AW_cond' (b := n < l.length) (by simp [D.le, D.le.go, takeMap]) (fun hc => ?_) (fun hc => ?_)
      · refine AW_skip (hK3 _ ?_)
        refine AW_then fun K4 hK4 => ?_
        refine AW_block ?_
        have hn' : n < l'.length := by omega
        refine AW_rd (tyOf_good _) (by kernel_rfl) [0, 1, 5, 25] [] (fun _ _ => trivial) (by kernel_rfl) fun K' hK' => ?_
        repeat (refine sxd_next fun K2 hK2 => ?_; simp [dInts, hc, hn']; (repeat (refine ⟨by omega, ?_⟩)); refine hK2 _ ?_; clear hK2 K2)
        refine sxd_nil (hK' _ ?_)
        refine AW.st (by simp [dInts, hc, hn']; rfl) ?_
        clear hK' K'
        refine AW_cond' (b := ¬ l[n] = l'[n]) (by simp [D.le, D.le.go, takeMap]) (fun hc => ?_) (fun hc => ?_)
        · refine AW_rg (tyOf_good _) [4] [] (fun _ _ => trivial) fun K' hK' => ?_
          repeat (refine sxf_next fun K2 hK2 => ?_; simp; (repeat (refine ⟨by omega, ?_⟩)); refine hK2 _ ?_; clear hK2 K2)
          refine sxf_nil (hK' _ ?_)
          refine AW.st (by simp; rfl) ?_
          clear hK' K'
          refine AW_ret ?_
          simp [D.le, D.le.go, takeMap]
          intro e; subst e; simp at hc
        · refine AW_skip (hK4 _ ?_)
          refine AW_re (tyOf_good _) fun K' hK' => ?_
          repeat (refine sxf_next fun K2 hK2 => ?_; simp; (repeat (refine ⟨by omega, ?_⟩)); refine hK2 _ ?_; clear hK2 K2)
          refine sxf_nil (hK' _ ?_)
          clear hK' K'
          try simp only [thn, inb]
          have he : l[n] = l'[n] := by simpa using hc
          refine Again.mk (n + 1) ⟨by omega, take_step ht (by omega) hn' he⟩ (by omega) ?_
          refine Imp.to' (fun _ _ => trivial) (by simp [dInts]) (by simp [dInts])
      · refine AW_exit (hK2 _ ?_)
        refine AW_rg (tyOf_good _) [4] [] (fun _ _ => trivial) fun K' hK' => ?_
        repeat (refine sxf_next fun K2 hK2 => ?_; simp; (repeat (refine ⟨by omega, ?_⟩)); refine hK2 _ ?_; clear hK2 K2)
        refine sxf_nil (hK' _ ?_)
        refine AW.st (by simp; rfl) ?_
        clear hK' K'
        refine AW_ret ?_
        simp [D.le, D.le.go, takeMap]
        have hnn : n = l.length := by omega
        subst hnn
        exact take_eq_all hl ht
#print axioms equal_spec
#print axioms sameInts_spec
end Go.Proofs.YtoikggboakojlaaDoor

/-
  Searching by a function.
-/
namespace Go.Proofs.YtoikggboakojlaaDoor
set_option linter.unusedSimpArgs false
set_option linter.unusedVariables false
open Go.Av

/-- Where the first one is that fits, or -1. -/
def idx {α : Type} (p : α → Bool) (l : List α) : Int := match l.findIdx? p with
  | some i => i
  | none => -1

theorem idx_hit {α : Type} {p : α → Bool} {l : List α} {n : Nat} (hn : n < l.length) (h : p l[n] = true) (hb : ∀ i (hi : i < n), p (l[i]'(by omega)) = false) : idx p l = n := by
  unfold idx
  have : l.findIdx? p = some n := by
    rw [List.findIdx?_eq_some_iff_getElem]
    exact ⟨hn, h, fun j hj => by simpa using hb j hj⟩
  rw [this]
theorem idx_miss {α : Type} {p : α → Bool} {l : List α} (hb : ∀ i (hi : i < l.length), p l[i] = false) : idx p l = -1 := by
  unfold idx
  have : l.findIdx? p = none := by
    rw [List.findIdx?_eq_none_iff]
    intro x hx
    obtain ⟨i, hi, rfl⟩ := List.mem_iff_getElem.1 hx
    exact hb i hi
  rw [this]

/-- A function that answers as p does, of some data. -/
def Answers {α : Type} (G : Glob) (g : FuncId) (caps : List D) (enc : α → D) (p : α → Bool) (xs : List α) : Prop := ∀ x ∈ xs, PureC Tryd.prog G g (enc x :: caps) (.v (.bool (p x)))

set_option maxHeartbeats 1000000 in
theorem indexInt_spec {α : Type} (G : Glob) (k : Option Bool) (enc : α → D) (xs : List α) (g : FuncId) (caps : List D) (p : α → Bool) (hl : xs.length < 2^63) (ha : Answers G g caps enc p xs) :
    PureC Tryd.prog G 92 [.sl k (xs.map fun x => [enc x]), .fn (.func g) caps] (.v (.int .i64 (idx p xs))) := by
  refine PureC.of_body (tyOf_good _) Tryd.func92 rfl rfl (rs := [.tmp 4]) Tryd.results92 (by simp [Tryd.ntmps92]) fun X => ?_
  simp only [Tryd.ntmps92, List.map]
  refine AW_rg (tyOf_good _) [0, 1] [] (fun _ _ => trivial) fun K' hK' => ?_
  repeat (refine sxf_next fun K2 hK2 => ?_; simp; (repeat (refine ⟨by omega, ?_⟩)); refine hK2 _ ?_; clear hK2 K2)
  refine sxf_nil (hK' _ ?_)
  refine AW.st (by simp; rfl) ?_
  clear hK' K'
  refine AW_then fun K1 hK1 => ?_
  refine AW_rg (tyOf_good _) [0, 1, 7, 8] [] (fun _ _ => trivial) fun K' hK' => ?_
  repeat (refine sxf_next fun K2 hK2 => ?_; simp; (repeat (refine ⟨by omega, ?_⟩)); refine hK2 _ ?_; clear hK2 K2)
  refine sxf_nil (hK' _ ?_)
  refine AW.st (by simp; rfl) ?_
  clear hK' K'
  refine AW_for (S := Nat) (fun n => n ≤ xs.length ∧ ∀ i (hi : i < xs.length), i < n → p xs[i] = false) (fun n => ⟨lst [(0, .d (.sl k (xs.map fun x => [enc x]))), (1, .d (.fn (.func g) caps)), (7, int xs.length), (8, int n)], hlst []⟩) (fun n => xs.length - n) 0 ?_ (by simp) ?_
  · refine Imp.to' (fun _ _ => trivial) (by simp) (by simp)
  · rintro n ⟨hn, hp⟩
    refine AW_rg (tyOf_good _) [0, 1, 7, 8, 9] [] (fun _ _ => trivial) fun K' hK' => ?_
    repeat (refine sxf_next fun K2 hK2 => ?_; simp; (repeat (refine ⟨by omega, ?_⟩)); refine hK2 _ ?_; clear hK2 K2)
    refine sxf_nil (hK' _ ?_)
    refine AW.st (by simp; rfl) ?_
    clear hK' K'
    refine AW_then fun K2 hK2 => ?_
    refine AW_cond' (b := n < xs.length) (by simp [D.le, D.le.go, takeMap]) (fun hc => ?_) (fun hc => ?_)
    · refine AW_skip (hK2 _ ?_)
      refine AW_then fun K3 hK3 => ?_
      refine AW_block ?_
      refine AW_rg (tyOf_good _) [0, 1, 5, 7, 8] [] (fun _ _ => trivial) fun K' hK' => ?_
      repeat (refine sxf_next fun K2 hK2 => ?_; simp; (repeat (refine ⟨by omega, ?_⟩)); refine hK2 _ ?_; clear hK2 K2)
      refine sxf_nil (hK' _ ?_)
      refine AW.st (by simp; rfl) ?_
      clear hK' K'
      refine AW_rg (tyOf_good _) [0, 1, 5, 7, 8, 16] [] (fun _ _ => trivial) fun K' hK' => ?_
      repeat (refine sxf_next fun K2 hK2 => ?_; simp [hc]; (repeat (refine ⟨by omega, ?_⟩)); refine hK2 _ ?_; clear hK2 K2)
      refine sxf_next fun K2 hK2 => ?_
      simp [hc]
      refine callK.data (ha xs[n] (by simp)) (by simp; rfl) (by first | exact D.leGo_refl _ | simp [takeMap, List.map_map, Function.comp_def, D.le, D.le.go, D.le_refl, D.leGo_refl, hc]) ?_
      refine hK2 _ ?_
      clear hK2 K2
      simp only [putd, upd_lst]
      repeat (refine sxf_next fun K2 hK2 => ?_; simp [hc]; (repeat (refine ⟨by omega, ?_⟩)); refine hK2 _ ?_; clear hK2 K2)
      refine sxf_nil (hK' _ ?_)
      refine AW.st (by simp [hc]; rfl) ?_
      clear hK' K'
      refine AW_cond _ rfl (fun hp2 => ?_) (fun hp2 => ?_)
      · refine AW_rg (tyOf_good _) [4] [] (fun _ _ => trivial) fun K' hK' => ?_
        repeat (refine sxf_next fun K2 hK2 => ?_; simp; (repeat (refine ⟨by omega, ?_⟩)); refine hK2 _ ?_; clear hK2 K2)
        refine sxf_nil (hK' _ ?_)
        refine AW.st (by simp; rfl) ?_
        clear hK' K'
        refine AW_ret ?_
        simp [D.le, D.le.go, takeMap]
        exact (idx_hit hc hp2 fun i hi => hp i (by omega) hi).symm
      · refine AW_skip (hK3 _ ?_)
        refine AW_re (tyOf_good _) fun K' hK' => ?_
        repeat (refine sxf_next fun K2 hK2 => ?_; simp; (repeat (refine ⟨by omega, ?_⟩)); refine hK2 _ ?_; clear hK2 K2)
        refine sxf_nil (hK' _ ?_)
        clear hK' K'
        try simp only [thn, inb]
        refine Again.mk (n + 1) ⟨by omega, fun i hi hin => ?_⟩ (by omega) ?_
        · by_cases h : i = n
          · subst h; exact hp2
          · exact hp i hi (by omega)
        refine Imp.to' (fun _ _ => trivial) (by simp) (by simp)
    · refine AW_exit (hK1 _ ?_)
      refine AW_rg (tyOf_good _) [4] [] (fun _ _ => trivial) fun K' hK' => ?_
      repeat (refine sxf_next fun K2 hK2 => ?_; simp; (repeat (refine ⟨by omega, ?_⟩)); refine hK2 _ ?_; clear hK2 K2)
      refine sxf_nil (hK' _ ?_)
      refine AW.st (by simp; rfl) ?_
      clear hK' K'
      refine AW_ret ?_
      simp [D.le, D.le.go, takeMap]
      exact (idx_miss fun i hi => hp i hi (by omega)).symm

set_option maxHeartbeats 1000000 in
theorem indexInts_spec {α : Type} (G : Glob) (k : Option Bool) (enc : α → D) (xs : List α) (g : FuncId) (caps : List D) (p : α → Bool) (hl : xs.length < 2^63) (ha : Answers G g caps enc p xs) :
    PureC Tryd.prog G 64 [.sl k (xs.map fun x => [enc x]), .fn (.func g) caps] (.v (.int .i64 (idx p xs))) := by
  refine PureC.of_body (tyOf_good _) Tryd.func64 rfl rfl (rs := [.tmp 4]) Tryd.results64 (by simp [Tryd.ntmps64]) fun X => ?_
  simp only [Tryd.ntmps64, List.map]
  refine AW_rg (tyOf_good _) [0, 1] [] (fun _ _ => trivial) fun K' hK' => ?_
  repeat (refine sxf_next fun K2 hK2 => ?_; simp; (repeat (refine ⟨by omega, ?_⟩)); refine hK2 _ ?_; clear hK2 K2)
  refine sxf_nil (hK' _ ?_)
  refine AW.st (by simp; rfl) ?_
  clear hK' K'
  refine AW_then fun K1 hK1 => ?_
  refine AW_rg (tyOf_good _) [0, 1, 7, 8] [] (fun _ _ => trivial) fun K' hK' => ?_
  repeat (refine sxf_next fun K2 hK2 => ?_; simp; (repeat (refine ⟨by omega, ?_⟩)); refine hK2 _ ?_; clear hK2 K2)
  refine sxf_nil (hK' _ ?_)
  refine AW.st (by simp; rfl) ?_
  clear hK' K'
  refine AW_for (S := Nat) (fun n => n ≤ xs.length ∧ ∀ i (hi : i < xs.length), i < n → p xs[i] = false) (fun n => ⟨lst [(0, .d (.sl k (xs.map fun x => [enc x]))), (1, .d (.fn (.func g) caps)), (7, int xs.length), (8, int n)], hlst []⟩) (fun n => xs.length - n) 0 ?_ (by simp) ?_
  · refine Imp.to' (fun _ _ => trivial) (by simp) (by simp)
  · rintro n ⟨hn, hp⟩
    refine AW_rg (tyOf_good _) [0, 1, 7, 8, 9] [] (fun _ _ => trivial) fun K' hK' => ?_
    repeat (refine sxf_next fun K2 hK2 => ?_; simp; (repeat (refine ⟨by omega, ?_⟩)); refine hK2 _ ?_; clear hK2 K2)
    refine sxf_nil (hK' _ ?_)
    refine AW.st (by simp; rfl) ?_
    clear hK' K'
    refine AW_then fun K2 hK2 => ?_
    refine AW_cond' (b := n < xs.length) (by simp [D.le, D.le.go, takeMap]) (fun hc => ?_) (fun hc => ?_)
    · refine AW_skip (hK2 _ ?_)
      refine AW_then fun K3 hK3 => ?_
      refine AW_block ?_
      refine AW_rg (tyOf_good _) [0, 1, 5, 7, 8] [] (fun _ _ => trivial) fun K' hK' => ?_
      repeat (refine sxf_next fun K2 hK2 => ?_; simp; (repeat (refine ⟨by omega, ?_⟩)); refine hK2 _ ?_; clear hK2 K2)
      refine sxf_nil (hK' _ ?_)
      refine AW.st (by simp; rfl) ?_
      clear hK' K'
      refine AW_rg (tyOf_good _) [0, 1, 5, 7, 8, 16] [] (fun _ _ => trivial) fun K' hK' => ?_
      repeat (refine sxf_next fun K2 hK2 => ?_; simp [hc]; (repeat (refine ⟨by omega, ?_⟩)); refine hK2 _ ?_; clear hK2 K2)
      refine sxf_next fun K2 hK2 => ?_
      simp [hc]
      refine callK.data (ha xs[n] (by simp)) (by simp; rfl) (by first | exact D.leGo_refl _ | simp [takeMap, List.map_map, Function.comp_def, D.le, D.le.go, D.le_refl, D.leGo_refl, hc]) ?_
      refine hK2 _ ?_
      clear hK2 K2
      simp only [putd, upd_lst]
      repeat (refine sxf_next fun K2 hK2 => ?_; simp [hc]; (repeat (refine ⟨by omega, ?_⟩)); refine hK2 _ ?_; clear hK2 K2)
      refine sxf_nil (hK' _ ?_)
      refine AW.st (by simp [hc]; rfl) ?_
      clear hK' K'
      refine AW_cond _ rfl (fun hp2 => ?_) (fun hp2 => ?_)
      · refine AW_rg (tyOf_good _) [4] [] (fun _ _ => trivial) fun K' hK' => ?_
        repeat (refine sxf_next fun K2 hK2 => ?_; simp; (repeat (refine ⟨by omega, ?_⟩)); refine hK2 _ ?_; clear hK2 K2)
        refine sxf_nil (hK' _ ?_)
        refine AW.st (by simp; rfl) ?_
        clear hK' K'
        refine AW_ret ?_
        simp [D.le, D.le.go, takeMap]
        exact (idx_hit hc hp2 fun i hi => hp i (by omega) hi).symm
      · refine AW_skip (hK3 _ ?_)
        refine AW_re (tyOf_good _) fun K' hK' => ?_
        repeat (refine sxf_next fun K2 hK2 => ?_; simp; (repeat (refine ⟨by omega, ?_⟩)); refine hK2 _ ?_; clear hK2 K2)
        refine sxf_nil (hK' _ ?_)
        clear hK' K'
        try simp only [thn, inb]
        refine Again.mk (n + 1) ⟨by omega, fun i hi hin => ?_⟩ (by omega) ?_
        · by_cases h : i = n
          · subst h; exact hp2
          · exact hp i hi (by omega)
        refine Imp.to' (fun _ _ => trivial) (by simp) (by simp)
    · refine AW_exit (hK1 _ ?_)
      refine AW_rg (tyOf_good _) [4] [] (fun _ _ => trivial) fun K' hK' => ?_
      repeat (refine sxf_next fun K2 hK2 => ?_; simp; (repeat (refine ⟨by omega, ?_⟩)); refine hK2 _ ?_; clear hK2 K2)
      refine sxf_nil (hK' _ ?_)
      refine AW.st (by simp; rfl) ?_
      clear hK' K'
      refine AW_ret ?_
      simp [D.le, D.le.go, takeMap]
      exact (idx_miss fun i hi => hp i hi (by omega)).symm

theorem idx_any {α : Type} (p : α → Bool) (l : List α) : decide (0 ≤ idx p l) = l.any p := by
  unfold idx
  split
  · rename_i i hi
    rw [List.findIdx?_eq_some_iff_getElem] at hi
    obtain ⟨h1, h2, _⟩ := hi
    have : l.any p = true := List.any_eq_true.2 ⟨_, List.getElem_mem h1, h2⟩
    rw [this]; simp
  · rename_i h
    rw [List.findIdx?_eq_none_iff] at h
    have : l.any p = false := by
      rw [List.any_eq_false]
      intro x hx
      simpa using h x hx
    rw [this]; simp

set_option maxHeartbeats 1000000 in
theorem containsInt_spec {α : Type} (G : Glob) (k : Option Bool) (enc : α → D) (xs : List α) (g : FuncId) (caps : List D) (p : α → Bool) (hl : xs.length < 2^63) (ha : Answers G g caps enc p xs) :
    PureC Tryd.prog G 61 [.sl k (xs.map fun x => [enc x]), .fn (.func g) caps] (.v (.bool (xs.any p))) := by
  refine PureC.of_body (tyOf_good _) Tryd.func61 rfl rfl (rs := [.tmp 4]) Tryd.results61 (by simp [Tryd.ntmps61]) fun X => ?_
  simp only [Tryd.ntmps61, List.map]
  refine AW_rg (tyOf_good _) [0, 1] [] (fun _ _ => trivial) fun K' hK' => ?_
  repeat (refine sxf_next fun K2 hK2 => ?_; simp; (repeat (refine ⟨by omega, ?_⟩)); refine hK2 _ ?_; clear hK2 K2)
  refine sxf_nil (hK' _ ?_)
  refine AW.st (by simp; rfl) ?_
  clear hK' K'
  refine AW_rg (tyOf_good _) [4] [] (fun _ _ => trivial) fun K' hK' => ?_
  repeat (refine sxf_next fun K2 hK2 => ?_; simp; (repeat (refine ⟨by omega, ?_⟩)); refine hK2 _ ?_; clear hK2 K2)
  refine sxf_next fun K2 hK2 => ?_
  simp
  refine callK.data (indexInt_spec G k enc xs g caps p hl ha) (by simp; rfl) (by first | exact D.leGo_refl _ | simp [takeMap, List.map_map, Function.comp_def, D.le, D.le.go, D.le_refl, D.leGo_refl]) ?_
  refine hK2 _ ?_
  clear hK2 K2
  simp only [putd, upd_lst]
  repeat (refine sxf_next fun K2 hK2 => ?_; simp; (repeat (refine ⟨by omega, ?_⟩)); refine hK2 _ ?_; clear hK2 K2)
  refine sxf_nil (hK' _ ?_)
  refine AW.st (by simp; rfl) ?_
  clear hK' K'
  refine AW_ret ?_
  simp [D.le, D.le.go, takeMap]
  exact idx_any p xs
#print axioms indexInt_spec
#print axioms indexInts_spec
#print axioms containsInt_spec
end Go.Proofs.YtoikggboakojlaaDoor

/-
  The closures; slices that are copied; lists that are numbered as they come.
-/
namespace Go.Proofs.YtoikggboakojlaaDoor
set_option linter.unusedSimpArgs false
set_option linter.unusedVariables false
open Go.Av

def dNum (n : Int) : D := .v (.int .i64 n)
def dRow (r : List Int) : D := dInts none r
def dRows (l : List (List Int)) : D := .sl none (l.map fun r => [dRow r])

theorem check1_spec (G : Glob) (x n : Int) : PureC Tryd.prog G 62 [dNum x, .ip [dNum n]] (.v (.bool (x < 0 || n ≤ x))) := by
  refine PureC.of_body (tyOf_good _) Tryd.func62 rfl rfl (rs := [.tmp 3]) Tryd.results62 (by simp [Tryd.ntmps62]) fun X => ?_
  simp only [Tryd.ntmps62, List.map]
  refine AW_rg (tyOf_good _) [0, 1] [] (fun _ _ => trivial) fun K' hK' => ?_
  repeat (refine sxf_next fun K2 hK2 => ?_; simp [dNum]; (repeat (refine ⟨by omega, ?_⟩)); refine hK2 _ ?_; clear hK2 K2)
  refine sxf_nil (hK' _ ?_)
  refine AW.st (by simp [dNum]; rfl) ?_
  clear hK' K'
  by_cases h : x < 0
  · refine AW_rg (tyOf_good _) [3] [] (fun _ _ => trivial) fun K' hK' => ?_
    repeat (refine sxf_next fun K2 hK2 => ?_; simp [dNum, h]; (repeat (refine ⟨by omega, ?_⟩)); refine hK2 _ ?_; clear hK2 K2)
    refine sxf_nil (hK' _ ?_)
    refine AW.st (by simp [dNum, h]; rfl) ?_
    clear hK' K'
    refine AW_ret ?_
    simp [D.le, D.le.go, takeMap]
    simp [h]
  · refine AW_rg (tyOf_good _) [3] [] (fun _ _ => trivial) fun K' hK' => ?_
    repeat (refine sxf_next fun K2 hK2 => ?_; simp [dNum, h]; (repeat (refine ⟨by omega, ?_⟩)); refine hK2 _ ?_; clear hK2 K2)
    refine sxf_nil (hK' _ ?_)
    refine AW.st (by simp [dNum, h]; rfl) ?_
    clear hK' K'
    refine AW_ret ?_
    simp [D.le, D.le.go, takeMap]
    simp [h]

theorem number1_spec (G : Glob) (l l' : List Int) (h : l.length < 2^63) : PureC Tryd.prog G 112 [dRow l, .ip [dRow l']] (.v (.bool (l == l'))) := by
  refine PureC.of_body (tyOf_good _) Tryd.func112 rfl rfl (rs := [.tmp 3]) Tryd.results112 (by simp [Tryd.ntmps112]) fun X => ?_
  simp only [Tryd.ntmps112, List.map]
  refine AW_rg (tyOf_good _) [0, 1] [] (fun _ _ => trivial) fun K' hK' => ?_
  repeat (refine sxf_next fun K2 hK2 => ?_; simp; (repeat (refine ⟨by omega, ?_⟩)); refine hK2 _ ?_; clear hK2 K2)
  refine sxf_nil (hK' _ ?_)
  refine AW.st (by simp; rfl) ?_
  clear hK' K'
  refine AW_rg (tyOf_good _) [3] [] (fun _ _ => trivial) fun K' hK' => ?_
  repeat (refine sxf_next fun K2 hK2 => ?_; simp; (repeat (refine ⟨by omega, ?_⟩)); refine hK2 _ ?_; clear hK2 K2)
  refine sxf_next fun K2 hK2 => ?_
  simp
  refine callK.data (equal_spec G none none l l' h) (by simp; rfl) (by first | exact D.leGo_refl _ | simp [takeMap, List.map_map, Function.comp_def, D.le, D.le.go, D.le_refl, D.leGo_refl]) ?_
  refine hK2 _ ?_
  clear hK2 K2
  simp only [putd, upd_lst]
  repeat (refine sxf_next fun K2 hK2 => ?_; simp; (repeat (refine ⟨by omega, ?_⟩)); refine hK2 _ ?_; clear hK2 K2)
  refine sxf_nil (hK' _ ?_)
  refine AW.st (by simp; rfl) ?_
  clear hK' K'
  refine AW_ret ?_
  simp [D.le, D.le.go, takeMap]

theorem part1_spec (G : Glob) (l : List Int) (a b : Nat) (ha : a < l.length) (hb : b < l.length) : PureC Tryd.prog G 65 [dRow l, .ip [dNum a], .ip [dNum b]] (.v (.bool (l[a] != l[b]))) := by
  refine PureC.of_body (tyOf_good _) Tryd.func65 rfl rfl (rs := [.tmp 4]) Tryd.results65 (by simp [Tryd.ntmps65]) fun X => ?_
  simp only [Tryd.ntmps65, List.map]
  refine AW_rg (tyOf_good _) [0, 1, 2] [] (fun _ _ => trivial) fun K' hK' => ?_
  repeat (refine sxf_next fun K2 hK2 => ?_; simp; (repeat (refine ⟨by omega, ?_⟩)); refine hK2 _ ?_; clear hK2 K2)
  refine sxf_nil (hK' _ ?_)
  refine AW.st (by simp; rfl) ?_
  clear hK' K'
  refine AW_rd (tyOf_good _) (by kernel_rfl) [4] [] (fun _ _ => trivial) (by kernel_rfl) fun K' hK' => ?_
  repeat (refine sxd_next fun K2 hK2 => ?_; simp [dNum, dRow, dInts, ha, hb]; (repeat (refine ⟨by omega, ?_⟩)); refine hK2 _ ?_; clear hK2 K2)
  refine sxd_nil (hK' _ ?_)
  refine AW.st (by simp [dNum, dRow, dInts, ha, hb]; rfl) ?_
  clear hK' K'
  refine AW_ret ?_
  simp [D.le, D.le.go, takeMap]

theorem clone_spec (G : Glob) (l : List Int) (h : l.length < 2^40) : PureC Tryd.prog G 59 [dRow l] (dRow l) := by
  refine PureC.of_body (tyOf_good _) Tryd.func59 rfl rfl (rs := [.tmp 2]) Tryd.results59 (by simp [Tryd.ntmps59]) fun X => ?_
  simp only [Tryd.ntmps59, List.map]
  refine AW.nilCase 0 rfl ?_ fun hl => ?_
  · refine AW_rg (tyOf_good _) [0] [] (fun _ _ => trivial) fun K' hK' => ?_
    repeat (refine sxf_next fun K2 hK2 => ?_; simp; (repeat (refine ⟨by omega, ?_⟩)); refine hK2 _ ?_; clear hK2 K2)
    refine sxf_nil (hK' _ ?_)
    refine AW.st (by simp; rfl) ?_
    clear hK' K'
    refine AW_then fun K1 hK1 => ?_
    refine AW_rg (tyOf_good _) [0, 4] [] (fun _ _ => trivial) fun K' hK' => ?_
    repeat (refine sxf_next fun K2 hK2 => ?_; simp [dRow, dInts]; (repeat (refine ⟨by omega, ?_⟩)); refine hK2 _ ?_; clear hK2 K2)
    refine sxf_nil (hK' _ ?_)
    refine AW.st (by simp [dRow, dInts]; rfl) ?_
    clear hK' K'
    refine AW_cond false rfl (fun hc => ?_) (fun hc => ?_)
    · cases hc
    refine AW_skip (hK1 _ ?_)
    refine AW_rg (tyOf_good _) [2] [5, 7] (fun _ _ => trivial) fun K' hK' => ?_
    repeat (refine sxf_next fun K2 hK2 => ?_; simp [dRow, dInts]; (repeat (refine ⟨by omega, ?_⟩)); refine hK2 _ ?_; clear hK2 K2)
    refine sxf_nil (hK' _ ?_)
    refine AW.st (by simp [dRow, dInts]; rfl) ?_
    clear hK' K'
    refine AW_ret ?_
    simp [D.le, D.le.go, takeMap, dRow, dInts]
  · refine AW_rg (tyOf_good _) [0] [] (fun _ _ => trivial) fun K' hK' => ?_
    repeat (refine sxf_next fun K2 hK2 => ?_; simp; (repeat (refine ⟨by omega, ?_⟩)); refine hK2 _ ?_; clear hK2 K2)
    refine sxf_nil (hK' _ ?_)
    refine AW.st (by simp; rfl) ?_
    clear hK' K'
    refine AW_then fun K1 hK1 => ?_
    refine AW_rg (tyOf_good _) [0, 4] [] (fun _ _ => trivial) fun K' hK' => ?_
    repeat (refine sxf_next fun K2 hK2 => ?_; simp [dRow, dInts]; (repeat (refine ⟨by omega, ?_⟩)); refine hK2 _ ?_; clear hK2 K2)
    refine sxf_nil (hK' _ ?_)
    refine AW.st (by simp [dRow, dInts]; rfl) ?_
    clear hK' K'
    refine AW_cond true rfl (fun hc => ?_) (fun hc => ?_)
    · refine AW_rg (tyOf_good _) [2] [] (fun _ _ => trivial) fun K' hK' => ?_
      repeat (refine sxf_next fun K2 hK2 => ?_; simp; (repeat (refine ⟨by omega, ?_⟩)); refine hK2 _ ?_; clear hK2 K2)
      refine sxf_nil (hK' _ ?_)
      refine AW.st (by simp; rfl) ?_
      clear hK' K'
      refine AW_ret ?_
      simp [D.le, D.le.go, takeMap, dRow, dInts]
      simpa using hl
    · cases hc
#print axioms check1_spec
#print axioms number1_spec
#print axioms part1_spec
#print axioms clone_spec
end Go.Proofs.YtoikggboakojlaaDoor

/-
  Lists are numbered as they come.
-/
namespace Go.Proofs.YtoikggboakojlaaDoor
set_option linter.unusedSimpArgs false
set_option linter.unusedVariables false
open Go.Av

def numStep (st : List (List Int) × List Int) (l : List Int) : List (List Int) × List Int :=
  if idx (fun x => x == l) st.1 < 0 then (st.1 ++ [l], st.2 ++ [(st.1.length : Int)]) else (st.1, st.2 ++ [idx (fun x => x == l) st.1])
def numSt (L : List (List Int)) (n : Nat) : List (List Int) × List Int := (L.take n).foldl numStep ([], [])
def numberF (L : List (List Int)) : List Int := (numSt L L.length).2

theorem numSt_succ {L : List (List Int)} {n : Nat} (hn : n < L.length) : numSt L (n + 1) = numStep (numSt L n) L[n] := by
  unfold numSt
  rw [List.take_succ_eq_append_getElem hn, List.foldl_append]
  rfl
theorem numStep_len (st : List (List Int) × List Int) (l : List Int) : (numStep st l).1.length ≤ st.1.length + 1 ∧ (numStep st l).2.length = st.2.length + 1 := by
  unfold numStep
  split <;> simp
theorem numSt_len {L : List (List Int)} : ∀ {n : Nat}, n ≤ L.length → (numSt L n).1.length ≤ n ∧ (numSt L n).2.length = n
  | 0, _ => by simp [numSt]
  | n + 1, h => by
    have ih := numSt_len (L := L) (n := n) (by omega)
    have := numStep_len (numSt L n) L[n]
    rw [numSt_succ (by omega)]
    omega
theorem numStep_mem {st : List (List Int) × List Int} {l : List Int} {P : List Int → Prop} (h : ∀ r ∈ st.1, P r) (hl : P l) : ∀ r ∈ (numStep st l).1, P r := by
  intro r hr
  unfold numStep at hr
  split at hr
  · simp at hr
    rcases hr with hr | rfl
    · exact h r hr
    · exact hl
  · exact h r hr
theorem numSt_mem {L : List (List Int)} {P : List Int → Prop} (h : ∀ r ∈ L, P r) : ∀ {n : Nat}, n ≤ L.length → ∀ r ∈ (numSt L n).1, P r
  | 0, _ => by simp [numSt]
  | n + 1, hn => by
    rw [numSt_succ (by omega)]
    exact numStep_mem (numSt_mem h (by omega)) (h _ (by simp))

set_option maxHeartbeats 1000000 in
theorem number_spec (G : Glob) (L : List (List Int)) (h : L.length < 2^40) (hr : ∀ r ∈ L, r.length < 2^40) : PureC Tryd.prog G 90 [dRows L] (dRow (numberF L)) := by
  refine PureC.of_body (tyOf_good _) Tryd.func90 rfl rfl (rs := [.tmp 2]) Tryd.results90 (by simp [Tryd.ntmps90]) fun X => ?_
  simp only [Tryd.ntmps90, List.map]
  refine AW_rg (tyOf_good _) [0] [] (fun _ _ => trivial) fun K' hK' => ?_
  repeat (refine sxf_next fun K2 hK2 => ?_; simp; (repeat (refine ⟨by omega, ?_⟩)); refine hK2 _ ?_; clear hK2 K2)
  refine sxf_nil (hK' _ ?_)
  refine AW.st (by simp; rfl) ?_
  clear hK' K'
  refine AW_rg (tyOf_good _) [0, 3] [] (fun _ _ => trivial) fun K' hK' => ?_
  repeat (refine sxf_next fun K2 hK2 => ?_; simp; (repeat (refine ⟨by omega, ?_⟩)); refine hK2 _ ?_; clear hK2 K2)
  refine sxf_nil (hK' _ ?_)
  refine AW.st (by simp; rfl) ?_
  clear hK' K'
  refine AW_rg (tyOf_good _) [0, 3, 4] [] (fun _ _ => trivial) fun K' hK' => ?_
  repeat (refine sxf_next fun K2 hK2 => ?_; simp; (repeat (refine ⟨by omega, ?_⟩)); refine hK2 _ ?_; clear hK2 K2)
  refine sxf_nil (hK' _ ?_)
  refine AW.st (by simp; rfl) ?_
  clear hK' K'
  refine AW_then fun K1 hK1 => ?_
  refine AW_rg (tyOf_good _) [3, 4, 8, 9, 10] [] (fun _ _ => trivial) fun K' hK' => ?_
  repeat (refine sxf_next fun K2 hK2 => ?_; simp [dRows]; (repeat (refine ⟨by omega, ?_⟩)); refine hK2 _ ?_; clear hK2 K2)
  refine sxf_nil (hK' _ ?_)
  refine AW.st (by simp [dRows]; rfl) ?_
  clear hK' K'
  refine AW_for (S := Nat) (fun n => n ≤ L.length) (fun n => ⟨lst [(3, .own 24 0 (numSt L n).1.length), (4, .own 28 0 (numSt L n).2.length), (8, .d (dRows L)), (9, int L.length), (10, int n)],
    hlst [(24, .sl 32 1 ((numSt L n).1.map fun r => [dRow r])), (28, .sl 3 1 ((numSt L n).2.map fun n => [dNum n]))]⟩) (fun n => L.length - n) 0 ?_ (by simp) ?_
  · refine (Imp.adopt 3 24 32 1 rfl rfl).trans ((Imp.adopt 4 28 3 1 rfl rfl).trans ?_)
    refine Imp.to' (fun _ _ => trivial) (by simp [dRows, numSt]) (by simp [dRows, numSt])
  · intro n hn
    obtain ⟨hl1, hl2⟩ := numSt_len hn
    have hmem := numSt_mem hr hn
    have hnext : ∀ h : n < L.length, numSt L (n + 1) = numStep (numSt L n) (L[n]'h) := numSt_succ
    generalize hst : numSt L n = st at hl1 hl2 hmem hnext
    obtain ⟨seen, out⟩ := st
    dsimp only at hl1 hl2 hmem
    refine AW_rg (tyOf_good _) [3, 4, 8, 9, 10, 11] [24, 28] (fun _ _ => trivial) fun K' hK' => ?_
    repeat (refine sxf_next fun K2 hK2 => ?_; simp; (repeat (refine ⟨by omega, ?_⟩)); refine hK2 _ ?_; clear hK2 K2)
    refine sxf_nil (hK' _ ?_)
    refine AW.st (by simp; rfl) ?_
    clear hK' K'
    refine AW_then fun K2 hK2 => ?_
    refine AW_cond' (b := n < L.length) (by simp [D.le, D.le.go, takeMap]) (fun hc => ?_) (fun hc => ?_)
    · refine AW_skip (hK2 _ ?_)
      have hL := hr L[n] (by simp)
      refine AW_then fun K3 hK3 => ?_
      refine AW_block ?_
      refine AW_rg (tyOf_good _) [3, 4, 6, 8, 9, 10] [6, 24, 28] (fun _ _ => trivial) fun K' hK' => ?_
      repeat (refine sxf_next fun K2 hK2 => ?_; simp [dRows, dRow, dInts, hc]; (repeat (refine ⟨by omega, ?_⟩)); refine hK2 _ ?_; clear hK2 K2)
      refine sxf_nil (hK' _ ?_)
      refine AW.st (by simp [dRows, dRow, dInts, hc]; rfl) ?_
      clear hK' K'
      refine AW_rg (tyOf_good _) [3, 4, 6, 7, 8, 9, 10] [6, 24, 28] (fun _ _ => trivial) fun K' hK' => ?_
      repeat (refine sxf_next fun K2 hK2 => ?_; simp [dRow, dInts]; (repeat (refine ⟨by omega, ?_⟩)); refine hK2 _ ?_; clear hK2 K2)
      refine sxf_next fun K2 hK2 => ?_
      simp [dRow, dInts]
      refine callK.lend (indexInts_spec G none dRow seen 112 [.ip [dRow L[n]]] (fun x => x == L[n]) (by omega) (fun x hx => number1_spec G x L[n] (by have := hmem x hx; omega))) (by simp; rfl) (by first | exact D.leGo_refl _ | simp [takeMap, List.map_map, Function.comp_def, D.le, D.le.go, D.le_refl, D.leGo_refl, dRow, dInts]) (by simp [D.scalar]) ?_
      refine hK2 _ ?_
      clear hK2 K2
      simp only [putd, upd_lst]
      repeat (refine sxf_next fun K2 hK2 => ?_; simp [dRow, dInts]; (repeat (refine ⟨by omega, ?_⟩)); refine hK2 _ ?_; clear hK2 K2)
      refine sxf_nil (hK' _ ?_)
      refine AW.st (by simp [dRow, dInts]; rfl) ?_
      clear hK' K'
      have hnx := hnext hc
      generalize hk : idx (fun x => x == L[n]) seen = k
      simp only [numStep, hk] at hnx
      refine AW_then fun K4 hK4 => ?_
      refine AW_rg (tyOf_good _) [3, 4, 6, 7, 8, 9, 10, 18] [6, 24, 28] (fun _ _ => trivial) fun K' hK' => ?_
      repeat (refine sxf_next fun K2 hK2 => ?_; simp; (repeat (refine ⟨by omega, ?_⟩)); refine hK2 _ ?_; clear hK2 K2)
      refine sxf_nil (hK' _ ?_)
      refine AW.st (by simp; rfl) ?_
      clear hK' K'
      refine AW_cond' (b := k < 0) (by simp [D.le, D.le.go, takeMap]) (fun hc => ?_) (fun hc => ?_)
      · rw [if_pos hc] at hnx
        refine AW_rg (tyOf_good _) [3, 4, 6, 7, 8, 9, 10] [6, 24, 28] (fun _ _ => trivial) fun K' hK' => ?_
        repeat (refine sxf_next fun K2 hK2 => ?_; simp; (repeat (refine ⟨by omega, ?_⟩)); refine hK2 _ ?_; clear hK2 K2)
        refine sxf_nil (hK' _ ?_)
        refine AW.st (by simp; rfl) ?_
        clear hK' K'
        refine AW_re (tyOf_good _) fun K' hK' => ?_
        repeat (refine sxf_next fun K2 hK2 => ?_; simp [takeMap]; (repeat (refine ⟨by omega, ?_⟩)); refine hK2 _ ?_; clear hK2 K2)
        refine sxf_nil (hK' _ ?_)
        clear hK' K'
        refine hK4 _ (AW.norm [3, 4, 7, 8, 9, 10] [24, 28] (fun _ _ => trivial) (AW.st (by simp [takeMap]; rfl) ?_))
        refine AW_re (tyOf_good _) fun K' hK' => ?_
        repeat (refine sxf_next fun K2 hK2 => ?_; simp [takeMap]; (repeat (refine ⟨by omega, ?_⟩)); refine hK2 _ ?_; clear hK2 K2)
        refine sxf_nil (hK' _ ?_)
        clear hK' K'
        refine hK3 _ (AW.norm [3, 4, 8, 9, 10] [24, 28] (fun _ _ => trivial) (AW.st (by simp [takeMap]; rfl) ?_))
        refine AW_re (tyOf_good _) fun K' hK' => ?_
        repeat (refine sxf_next fun K2 hK2 => ?_; simp; (repeat (refine ⟨by omega, ?_⟩)); refine hK2 _ ?_; clear hK2 K2)
        refine sxf_nil (hK' _ ?_)
        clear hK' K'
        try simp only [thn, inb]
        refine Again.mk (n + 1) (by omega) (by omega) ?_
        rw [hnx]
        refine Imp.to' (fun _ _ => trivial) (by simp [dRow, dInts, dNum, dRows]) (by simp [dRow, dInts, dNum, dRows])
      · rw [if_neg hc] at hnx
        refine AW_skip (hK4 _ ?_)
        refine AW_re (tyOf_good _) fun K' hK' => ?_
        repeat (refine sxf_next fun K2 hK2 => ?_; simp [takeMap]; (repeat (refine ⟨by omega, ?_⟩)); refine hK2 _ ?_; clear hK2 K2)
        refine sxf_nil (hK' _ ?_)
        clear hK' K'
        refine hK3 _ (AW.norm [3, 4, 8, 9, 10] [24, 28] (fun _ _ => trivial) (AW.st (by simp [takeMap]; rfl) ?_))
        refine AW_re (tyOf_good _) fun K' hK' => ?_
        repeat (refine sxf_next fun K2 hK2 => ?_; simp; (repeat (refine ⟨by omega, ?_⟩)); refine hK2 _ ?_; clear hK2 K2)
        refine sxf_nil (hK' _ ?_)
        clear hK' K'
        try simp only [thn, inb]
        refine Again.mk (n + 1) (by omega) (by omega) ?_
        rw [hnx]
        refine Imp.to' (fun _ _ => trivial) (by simp [dRow, dInts, dNum, dRows]) (by simp [dRow, dInts, dNum, dRows])
    · refine AW_exit (hK1 _ ?_)
      refine AW_rg (tyOf_good _) [2] [28] (fun _ _ => trivial) fun K' hK' => ?_
      repeat (refine sxf_next fun K2 hK2 => ?_; simp; (repeat (refine ⟨by omega, ?_⟩)); refine hK2 _ ?_; clear hK2 K2)
      refine sxf_nil (hK' _ ?_)
      refine AW.st (by simp; rfl) ?_
      clear hK' K'
      refine AW_ret ?_
      simp [D.le, D.le.go, takeMap, dRow, dInts, dNum]
      have hnn : n = L.length := by omega
      subst hnn
      simp [numberF, hst]
#print axioms number_spec
end Go.Proofs.YtoikggboakojlaaDoor

/-
  Tables: few states; which tables may be.
-/
namespace Go.Proofs.YtoikggboakojlaaDoor
set_option linter.unusedSimpArgs false
set_option linter.unusedVariables false
open Go.Av

structure Tab where
  next : List (List Int)
  tells : List (List Int)

def dTab (t : Tab) : D := .agg [dRows t.next, dRows t.tells]

def fewF (t : Tab) (most : Int) : Bool := decide ((t.next.length : Int) ≤ most) && (decide ((t.tells.length : Int) ≤ 500) && (decide (t.next.length = 0) || decide (((t.next.getD 0 []).length : Int) ≤ 16)))

theorem few_spec (G : Glob) (t : Tab) (most : Int) : PureC Tryd.prog G 34 [dTab t, dNum most] (.v (.bool (fewF t most))) := by
  obtain ⟨next, tells⟩ := t
  refine PureC.of_body (tyOf_good _) Tryd.func34 rfl rfl (rs := [.tmp 4]) Tryd.results34 (by simp [Tryd.ntmps34]) fun X => ?_
  simp only [Tryd.ntmps34, List.map]
  refine AW_rg (tyOf_good _) [1, 2] [2] (fun _ _ => trivial) fun K' hK' => ?_
  repeat (refine sxf_next fun K2 hK2 => ?_; simp [dTab, dNum]; (repeat (refine ⟨by omega, ?_⟩)); refine hK2 _ ?_; clear hK2 K2)
  refine sxf_nil (hK' _ ?_)
  refine AW.st (by simp [dTab, dNum]; rfl) ?_
  clear hK' K'
  by_cases h1 : (next.length : Int) ≤ most
  · by_cases h2 : (tells.length : Int) ≤ 500
    · cases next with
      | nil =>
        simp only [List.length_nil, Int.natCast_zero, Int.ofNat_eq_natCast, Int.cast_ofNat_Int] at h1
        refine AW_rg (tyOf_good _) [4] [2] (fun _ _ => trivial) fun K' hK' => ?_
        repeat (refine sxf_next fun K2 hK2 => ?_; simp [dRows, dRow, dInts, h1, h2]; (repeat (refine ⟨by omega, ?_⟩)); refine hK2 _ ?_; clear hK2 K2)
        refine sxf_nil (hK' _ ?_)
        refine AW.st (by simp [dRows, dRow, dInts, h1, h2]; rfl) ?_
        clear hK' K'
        refine AW_ret ?_
        simp [D.le, D.le.go, takeMap]
        simp [fewF, h1, h2]
      | cons r next =>
        simp only [List.length_cons, Int.natCast_add, Int.cast_ofNat_Int] at h1
        have hz : ¬ ((next.length : Int) + 1 = 0) := by omega
        by_cases h3 : (r.length : Int) ≤ 16
        · refine AW_rg (tyOf_good _) [4] [2] (fun _ _ => trivial) fun K' hK' => ?_
          repeat (refine sxf_next fun K2 hK2 => ?_; simp [dRows, dRow, dInts, h1, h2, h3, hz]; (repeat (refine ⟨by omega, ?_⟩)); refine hK2 _ ?_; clear hK2 K2)
          refine sxf_nil (hK' _ ?_)
          refine AW.st (by simp [dRows, dRow, dInts, h1, h2, h3, hz]; rfl) ?_
          clear hK' K'
          refine AW_ret ?_
          simp [D.le, D.le.go, takeMap]
          simp [fewF, h1, h2, h3]
        · refine AW_rg (tyOf_good _) [4] [2] (fun _ _ => trivial) fun K' hK' => ?_
          repeat (refine sxf_next fun K2 hK2 => ?_; simp [dRows, dRow, dInts, h1, h2, h3, hz]; (repeat (refine ⟨by omega, ?_⟩)); refine hK2 _ ?_; clear hK2 K2)
          refine sxf_nil (hK' _ ?_)
          refine AW.st (by simp [dRows, dRow, dInts, h1, h2, h3, hz]; rfl) ?_
          clear hK' K'
          refine AW_ret ?_
          simp [D.le, D.le.go, takeMap]
          simp [fewF, h1, h2, h3]
    · refine AW_rg (tyOf_good _) [4] [2] (fun _ _ => trivial) fun K' hK' => ?_
      repeat (refine sxf_next fun K2 hK2 => ?_; simp [dRows, dRow, dInts, h1, h2]; (repeat (refine ⟨by omega, ?_⟩)); refine hK2 _ ?_; clear hK2 K2)
      refine sxf_nil (hK' _ ?_)
      refine AW.st (by simp [dRows, dRow, dInts, h1, h2]; rfl) ?_
      clear hK' K'
      refine AW_ret ?_
      simp [D.le, D.le.go, takeMap]
      simp [fewF, h1, h2]
  · refine AW_rg (tyOf_good _) [4] [2] (fun _ _ => trivial) fun K' hK' => ?_
    repeat (refine sxf_next fun K2 hK2 => ?_; simp [dRows, dRow, dInts, h1]; (repeat (refine ⟨by omega, ?_⟩)); refine hK2 _ ?_; clear hK2 K2)
    refine sxf_nil (hK' _ ?_)
    refine AW.st (by simp [dRows, dRow, dInts, h1]; rfl) ?_
    clear hK' K'
    refine AW_ret ?_
    simp [D.le, D.le.go, takeMap]
    simp [fewF, h1]
#print axioms few_spec
end Go.Proofs.YtoikggboakojlaaDoor

/-
  Which tables may be.
-/
namespace Go.Proofs.YtoikggboakojlaaDoor
set_option linter.unusedSimpArgs false
set_option linter.unusedVariables false
open Go.Av

/-- Whether an error is told, which one, and where. -/
def dErr : Option (Int × Option Nat) → D
  | none => .v .nilIface
  | some (c, none) => .ifc 27 (.v (.int .i64 c))
  | some (c, some s) => .ifc 109 (.ip [.v (.int .i64 c), .v (.int .i64 s)])

def rowF (t : Tab) (s : Nat) : Option Int :=
  if (t.next.getD s []).length ≠ (t.next.getD 0 []).length ∨ (t.tells.getD s []).length ≠ (t.next.getD 0 []).length then some 3
  else if (t.next.getD s []).any fun x => decide (x < 0) || decide ((t.next.length : Int) ≤ x) then some 2 else none
def rowsF (t : Tab) : Nat → Nat → Option (Int × Option Nat)
  | _, 0 => none
  | s, n + 1 => match rowF t s with
    | some c => some (c, some s)
    | none => rowsF t (s + 1) n
def checkF (t : Tab) : Option (Int × Option Nat) :=
  if t.next.length < 1 ∨ 500 < t.next.length ∨ 64 < (t.next.getD 0 []).length then some (4, none)
  else if t.tells.length ≠ t.next.length then some (3, none)
  else rowsF t 0 t.next.length

set_option maxHeartbeats 4000000 in
theorem check_spec (G : Glob) (t : Tab) : PureC Tryd.prog G 20 [dTab t] (dErr (checkF t)) := by
  obtain ⟨next, tells⟩ := t
  have hr2 : checkF ⟨next, tells⟩ = (if (next.length < 1 ∨ 500 < next.length ∨ 64 < (next.getD 0 []).length) then some (4, none)
      else if tells.length ≠ next.length then some (3, none) else rowsF ⟨next, tells⟩ 0 next.length) := rfl
  generalize hres : checkF ⟨next, tells⟩ = res
  rw [hr2] at hres
  refine PureC.of_body (tyOf_good _) Tryd.func20 rfl rfl (rs := [.tmp 2]) Tryd.results20 (by simp [Tryd.ntmps20]) fun X => ?_
  simp only [Tryd.ntmps20, List.map]
  refine AW_rg (tyOf_good _) [1] [1] (fun _ _ => trivial) fun K' hK' => ?_
  repeat (refine sxf_next fun K2 hK2 => ?_; simp [dTab]; (repeat (refine ⟨by omega, ?_⟩)); refine hK2 _ ?_; clear hK2 K2)
  refine sxf_nil (hK' _ ?_)
  refine AW.st (by simp [dTab]; rfl) ?_
  clear hK' K'
  refine AW_rg (tyOf_good _) [1, 3] [1, 3] (fun _ _ => trivial) fun K' hK' => ?_
  repeat (refine sxf_next fun K2 hK2 => ?_; simp [dRows]; (repeat (refine ⟨by omega, ?_⟩)); refine hK2 _ ?_; clear hK2 K2)
  refine sxf_nil (hK' _ ?_)
  refine AW.st (by simp [dRows]; rfl) ?_
  clear hK' K'
  refine AW_then fun K1 hK1 => ?_
  by_cases h1 : (next.length : Int) < 1
  · rw [if_pos (.inl (by omega))] at hres
    refine AW_rg (tyOf_good _) [1, 3, 21] [1, 3] (fun _ _ => trivial) fun K' hK' => ?_
    repeat (refine sxf_next fun K2 hK2 => ?_; simp [h1]; (repeat (refine ⟨by omega, ?_⟩)); refine hK2 _ ?_; clear hK2 K2)
    refine sxf_nil (hK' _ ?_)
    refine AW.st (by simp [h1]; rfl) ?_
    clear hK' K'
    refine AW_cond true rfl (fun _ => ?_) (fun h => by cases h)
    refine AW_rg (tyOf_good _) [2] [] (fun _ _ => trivial) fun K' hK' => ?_
    repeat (refine sxf_next fun K2 hK2 => ?_; simp; (repeat (refine ⟨by omega, ?_⟩)); refine hK2 _ ?_; clear hK2 K2)
    refine sxf_nil (hK' _ ?_)
    refine AW.st (by simp; rfl) ?_
    clear hK' K'
    refine AW_ret ?_
    simp [D.le, D.le.go, takeMap]
    simp [← hres, dErr, D.le]
  by_cases h2 : 500 < (next.length : Int)
  · rw [if_pos (.inr (.inl (by omega)))] at hres
    refine AW_rg (tyOf_good _) [1, 3, 21] [1, 3] (fun _ _ => trivial) fun K' hK' => ?_
    repeat (refine sxf_next fun K2 hK2 => ?_; simp [h1, h2]; (repeat (refine ⟨by omega, ?_⟩)); refine hK2 _ ?_; clear hK2 K2)
    refine sxf_nil (hK' _ ?_)
    refine AW.st (by simp [h1, h2]; rfl) ?_
    clear hK' K'
    refine AW_cond true rfl (fun _ => ?_) (fun h => by cases h)
    refine AW_rg (tyOf_good _) [2] [] (fun _ _ => trivial) fun K' hK' => ?_
    repeat (refine sxf_next fun K2 hK2 => ?_; simp; (repeat (refine ⟨by omega, ?_⟩)); refine hK2 _ ?_; clear hK2 K2)
    refine sxf_nil (hK' _ ?_)
    refine AW.st (by simp; rfl) ?_
    clear hK' K'
    refine AW_ret ?_
    simp [D.le, D.le.go, takeMap]
    simp [← hres, dErr, D.le]
  obtain ⟨r0, next', hnx⟩ : ∃ r0 next', next = r0 :: next' := by
    cases next with
    | nil => simp at h1
    | cons a b => exact ⟨a, b, rfl⟩
  have hg0 : next.getD 0 [] = r0 := by rw [hnx]; rfl
  have hgd : (next.map fun r => [dRow r]).getD 0 [] = [dRow r0] := by rw [hnx]; rfl
  have hpos : 0 < next.length := by omega
  simp only [hg0] at hres
  have hgq : next[0] = r0 := by subst hnx; rfl
  by_cases h3 : 64 < (r0.length : Int)
  · rw [if_pos (.inr (.inr (by omega)))] at hres
    refine AW_rg (tyOf_good _) [1, 3, 21] [1, 3] (fun _ _ => trivial) fun K' hK' => ?_
    repeat (refine sxf_next fun K2 hK2 => ?_; simp [h1, h2, h3, hgd, hpos, hgq, dRow, dInts]; (repeat (refine ⟨by omega, ?_⟩)); refine hK2 _ ?_; clear hK2 K2)
    refine sxf_nil (hK' _ ?_)
    refine AW.st (by simp [h1, h2, h3, hgd, hpos, hgq, dRow, dInts]; rfl) ?_
    clear hK' K'
    refine AW_cond true rfl (fun _ => ?_) (fun h => by cases h)
    refine AW_rg (tyOf_good _) [2] [] (fun _ _ => trivial) fun K' hK' => ?_
    repeat (refine sxf_next fun K2 hK2 => ?_; simp; (repeat (refine ⟨by omega, ?_⟩)); refine hK2 _ ?_; clear hK2 K2)
    refine sxf_nil (hK' _ ?_)
    refine AW.st (by simp; rfl) ?_
    clear hK' K'
    refine AW_ret ?_
    simp [D.le, D.le.go, takeMap]
    simp [← hres, dErr, D.le]
  rw [if_neg (by omega)] at hres
  refine AW_rg (tyOf_good _) [1, 3, 21] [1, 3] (fun _ _ => trivial) fun K' hK' => ?_
  repeat (refine sxf_next fun K2 hK2 => ?_; simp [h1, h2, h3, hgd, hpos, hgq, dRow, dInts]; (repeat (refine ⟨by omega, ?_⟩)); refine hK2 _ ?_; clear hK2 K2)
  refine sxf_nil (hK' _ ?_)
  refine AW.st (by simp [h1, h2, h3, hgd, hpos, hgq, dRow, dInts]; rfl) ?_
  clear hK' K'
  refine AW_cond false rfl (fun h => by cases h) (fun _ => ?_)
  refine AW_skip (hK1 _ ?_)
  refine AW_then fun K2 hK2 => ?_
  refine AW_rg (tyOf_good _) [1, 3, 27] [1, 3] (fun _ _ => trivial) fun K' hK' => ?_
  repeat (refine sxf_next fun K2 hK2 => ?_; simp [dRow, dInts]; (repeat (refine ⟨by omega, ?_⟩)); refine hK2 _ ?_; clear hK2 K2)
  refine sxf_nil (hK' _ ?_)
  refine AW.st (by simp [dRow, dInts]; rfl) ?_
  clear hK' K'
  refine AW_cond' (b := ¬ tells.length = next.length) (by simp [D.le, D.le.go, takeMap]) (fun hc => ?_) (fun hc => ?_)
  · rw [if_pos hc] at hres
    refine AW_rg (tyOf_good _) [2] [] (fun _ _ => trivial) fun K' hK' => ?_
    repeat (refine sxf_next fun K2 hK2 => ?_; simp; (repeat (refine ⟨by omega, ?_⟩)); refine hK2 _ ?_; clear hK2 K2)
    refine sxf_nil (hK' _ ?_)
    refine AW.st (by simp; rfl) ?_
    clear hK' K'
    refine AW_ret ?_
    simp [D.le, D.le.go, takeMap]
    simp [← hres, dErr, D.le]
  rw [if_neg hc] at hres
  have htl : tells.length = next.length := by omega
  refine AW_skip (hK2 _ ?_)
  refine AW_then fun K3 hK3 => ?_
  refine AW_rg (tyOf_good _) [1, 3, 31, 32] [1, 3] (fun _ _ => trivial) fun K' hK' => ?_
  repeat (refine sxf_next fun K2 hK2 => ?_; simp [dRow, dInts]; (repeat (refine ⟨by omega, ?_⟩)); refine hK2 _ ?_; clear hK2 K2)
  refine sxf_nil (hK' _ ?_)
  refine AW.st (by simp [dRow, dInts]; rfl) ?_
  clear hK' K'
  refine AW_for (S := Nat) (fun n => n ≤ next.length ∧ rowsF ⟨next, tells⟩ n (next.length - n) = rowsF ⟨next, tells⟩ 0 next.length) (fun n => ⟨lst [(1, .ref 1 0 0), (3, .ref 3 0 0), (31, int next.length), (32, int n)],
    hlst [(1, .box 25 [.d (dRows next), .d (dRows tells)]), (3, .box 3 [int next.length])]⟩) (fun n => next.length - n) 0 ?_ (by simp) ?_
  · refine Imp.to' (fun _ _ => trivial) (by simp [dRows, dRow, dInts]) (by simp [dRows, dRow, dInts])
  · rintro n ⟨hn, hrs⟩
    refine AW_rg (tyOf_good _) [1, 3, 31, 32, 33] [1, 3] (fun _ _ => trivial) fun K' hK' => ?_
    repeat (refine sxf_next fun K2 hK2 => ?_; simp; (repeat (refine ⟨by omega, ?_⟩)); refine hK2 _ ?_; clear hK2 K2)
    refine sxf_nil (hK' _ ?_)
    refine AW.st (by simp; rfl) ?_
    clear hK' K'
    refine AW_then fun K4 hK4 => ?_
    refine AW_cond' (b := n < next.length) (by simp [D.le, D.le.go, takeMap]) (fun hc => ?_) (fun hc => ?_)
    · refine AW_skip (hK4 _ ?_)
      refine AW_then fun K5 hK5 => ?_
      refine AW_block ?_
      refine AW_rg (tyOf_good _) [1, 3, 4, 31, 32] [1, 3] (fun _ _ => trivial) fun K' hK' => ?_
      repeat (refine sxf_next fun K2 hK2 => ?_; simp; (repeat (refine ⟨by omega, ?_⟩)); refine hK2 _ ?_; clear hK2 K2)
      refine sxf_nil (hK' _ ?_)
      refine AW.st (by simp; rfl) ?_
      clear hK' K'
      refine AW_then fun K6 hK6 => ?_
      have hstep : rowsF ⟨next, tells⟩ n (next.length - n) = match rowF ⟨next, tells⟩ n with
          | some c => some (c, some n)
          | none => rowsF ⟨next, tells⟩ (n + 1) (next.length - (n + 1)) := by
        have : next.length - n = (next.length - (n + 1)) + 1 := by omega
        rw [this]
        rfl
      rw [hstep] at hrs
      have htn : n < tells.length := by omega
      have hrow : rowF ⟨next, tells⟩ n = if next[n].length ≠ r0.length ∨ tells[n].length ≠ r0.length then some 3 else if next[n].any fun x => decide (x < 0) || decide ((next.length : Int) ≤ x) then some 2 else none := by
        simp [rowF, hc, htn, hpos, hgq]
      by_cases h4 : next[n].length = r0.length
      · by_cases h5 : tells[n].length = r0.length
        · rw [if_neg (by simp [h4, h5])] at hrow
          refine AW_rd (tyOf_good _) (by kernel_rfl) [1, 3, 4, 31, 32, 60] [1, 3] (fun _ _ => trivial) (by kernel_rfl) fun K' hK' => ?_
          repeat (refine sxd_next fun K2 hK2 => ?_; simp [dRows, h4, h5, hgd, hpos, hgq, hc, htn, dRow, dInts]; (repeat (refine ⟨by omega, ?_⟩)); refine hK2 _ ?_; clear hK2 K2)
          refine sxd_nil (hK' _ ?_)
          refine AW.st (by simp [dRows, h4, h5, hgd, hpos, hgq, hc, htn, dRow, dInts]; rfl) ?_
          clear hK' K'
          refine AW_cond false rfl (fun h => by cases h) (fun _ => ?_)
          refine AW_skip (hK6 _ ?_)
          refine AW_rg (tyOf_good _) [1, 3, 4, 31, 32, 71] [1, 3] (fun _ _ => trivial) fun K' hK' => ?_
          repeat (refine sxf_next fun K2 hK2 => ?_; simp [dRows, dRow, dInts, hc]; (repeat (refine ⟨by omega, ?_⟩)); refine hK2 _ ?_; clear hK2 K2)
          refine sxf_next fun K2 hK2 => ?_
          simp [dRows, dRow, dInts, hc]
          refine callK.lend (containsInt_spec G none dNum next[n] 62 [.ip [dNum next.length]] (fun x => decide (x < 0) || decide ((next.length : Int) ≤ x)) (by omega) (fun x _ => check1_spec G x next.length)) (by simp; rfl) (by first | exact D.leGo_refl _ | simp [takeMap, List.map_map, Function.comp_def, D.le, D.le.go, D.le_refl, D.leGo_refl, dRows, dRow, dInts, hc]) (by simp [D.scalar]) ?_
          refine hK2 _ ?_
          clear hK2 K2
          simp only [putd, upd_lst]
          repeat (refine sxf_next fun K2 hK2 => ?_; simp [dRows, dRow, dInts, hc]; (repeat (refine ⟨by omega, ?_⟩)); refine hK2 _ ?_; clear hK2 K2)
          refine sxf_nil (hK' _ ?_)
          refine AW.st (by simp [dRows, dRow, dInts, hc]; rfl) ?_
          clear hK' K'
          refine AW_cond _ rfl (fun hb => ?_) (fun hb => ?_)
          · rw [if_pos hb] at hrow
            refine AW_rg (tyOf_good _) [2] [74] (fun _ _ => trivial) fun K' hK' => ?_
            repeat (refine sxf_next fun K2 hK2 => ?_; simp; (repeat (refine ⟨by omega, ?_⟩)); refine hK2 _ ?_; clear hK2 K2)
            refine sxf_nil (hK' _ ?_)
            refine AW.st (by simp; rfl) ?_
            clear hK' K'
            refine AW_ret ?_
            simp [D.le, D.le.go, takeMap]
            rw [hrow] at hrs
            simp [← hres, ← hrs, dErr, D.le, D.le.go]
          · rw [if_neg (by simp [hb])] at hrow
            rw [hrow] at hrs
            refine AW_skip (hK5 _ ?_)
            refine AW_re (tyOf_good _) fun K' hK' => ?_
            repeat (refine sxf_next fun K2 hK2 => ?_; simp; (repeat (refine ⟨by omega, ?_⟩)); refine hK2 _ ?_; clear hK2 K2)
            refine sxf_nil (hK' _ ?_)
            clear hK' K'
            try simp only [thn, inb]
            refine Again.mk (n + 1) ⟨by omega, hrs⟩ (by omega) ?_
            refine Imp.to' (fun _ _ => trivial) (by simp [dRows, dRow, dInts]) (by simp [dRows, dRow, dInts])
        · rw [if_pos (.inr h5)] at hrow
          refine AW_rd (tyOf_good _) (by kernel_rfl) [1, 3, 4, 31, 32, 60] [1, 3] (fun _ _ => trivial) (by kernel_rfl) fun K' hK' => ?_
          repeat (refine sxd_next fun K2 hK2 => ?_; simp [dRows, h4, h5, hgd, hpos, hgq, hc, htn, dRow, dInts]; (repeat (refine ⟨by omega, ?_⟩)); refine hK2 _ ?_; clear hK2 K2)
          refine sxd_nil (hK' _ ?_)
          refine AW.st (by simp [dRows, h4, h5, hgd, hpos, hgq, hc, htn, dRow, dInts]; rfl) ?_
          clear hK' K'
          refine AW_cond true rfl (fun _ => ?_) (fun h => by cases h)
          refine AW_rg (tyOf_good _) [2] [63] (fun _ _ => trivial) fun K' hK' => ?_
          repeat (refine sxf_next fun K2 hK2 => ?_; simp; (repeat (refine ⟨by omega, ?_⟩)); refine hK2 _ ?_; clear hK2 K2)
          refine sxf_nil (hK' _ ?_)
          refine AW.st (by simp; rfl) ?_
          clear hK' K'
          refine AW_ret ?_
          simp [D.le, D.le.go, takeMap]
          rw [hrow] at hrs
          simp [← hres, ← hrs, dErr, D.le, D.le.go]
      · rw [if_pos (.inl h4)] at hrow
        refine AW_rd (tyOf_good _) (by kernel_rfl) [1, 3, 4, 31, 32, 60] [1, 3] (fun _ _ => trivial) (by kernel_rfl) fun K' hK' => ?_
        repeat (refine sxd_next fun K2 hK2 => ?_; simp [dRows, h4, hgd, hpos, hgq, hc, htn, dRow, dInts]; (repeat (refine ⟨by omega, ?_⟩)); refine hK2 _ ?_; clear hK2 K2)
        refine sxd_nil (hK' _ ?_)
        refine AW.st (by simp [dRows, h4, hgd, hpos, hgq, hc, htn, dRow, dInts]; rfl) ?_
        clear hK' K'
        refine AW_cond true rfl (fun _ => ?_) (fun h => by cases h)
        refine AW_rg (tyOf_good _) [2] [63] (fun _ _ => trivial) fun K' hK' => ?_
        repeat (refine sxf_next fun K2 hK2 => ?_; simp; (repeat (refine ⟨by omega, ?_⟩)); refine hK2 _ ?_; clear hK2 K2)
        refine sxf_nil (hK' _ ?_)
        refine AW.st (by simp; rfl) ?_
        clear hK' K'
        refine AW_ret ?_
        simp [D.le, D.le.go, takeMap]
        rw [hrow] at hrs
        simp [← hres, ← hrs, dErr, D.le, D.le.go]
    · refine AW_exit (hK3 _ ?_)
      refine AW_rg (tyOf_good _) [2] [] (fun _ _ => trivial) fun K' hK' => ?_
      repeat (refine sxf_next fun K2 hK2 => ?_; simp; (repeat (refine ⟨by omega, ?_⟩)); refine hK2 _ ?_; clear hK2 K2)
      refine sxf_nil (hK' _ ?_)
      refine AW.st (by simp; rfl) ?_
      clear hK' K'
      refine AW_ret ?_
      simp [D.le, D.le.go, takeMap]
      have hnn : n = next.length := by omega
      subst hnn
      simp [rowsF] at hrs
      rw [← hrs] at hres
      simp [← hres, dErr]
#print axioms check_spec
end Go.Proofs.YtoikggboakojlaaDoor

/-
  errors.As at a target of the type *api.Errno: Go's own text of errors.As and errors.as, walked (after the kit's worked example Toyas).
-/
namespace Go.Proofs.YtoikggboakojlaaDoor
set_option linter.unusedSimpArgs false
set_option linter.unusedVariables false
open Go.RowKit Go.Extern.Stop Go.Stop Go.Extern
set_option linter.unusedSimpArgs false
set_option linter.unusedVariables false

/-! ### Closed facts on the model's entries for internal/reflectlite -/
theorem rl_valueOfP (t : Addr) (w : World) : (ReflectliteValue.unpack (.iface 124 (.pointer (some t)))).run Tryd.prog w
    = .ok (.agg #[.pointer (some ⟨6, 124, none⟩), .pointer (some ⟨w.heap.size, 0, none⟩), .int .u64 150]) (w.alloc (.cells #[.pointer (some t)] 124)) := by kernel_rfl
theorem rl_typeP (a : Addr) (w : World) : (ReflectliteValue.methodAny (ReflectliteValue.valueError "reflectlite.Value.Type" 0) (fun t _ _ _ => ReflectliteType.toType t) #[.agg #[.pointer (some ⟨6, 124, none⟩), .pointer (some a), .int .u64 150]]).run Tryd.prog w
    = .ok (.iface 177 (.agg #[.pointer (some ⟨6, 124, none⟩)])) w := by kernel_rfl
theorem rl_methodKind (h : Value) (w : World) : (Go.method 333 177 (.agg #[h]) "Kind").run Tryd.prog w = .ok (147, h) w := by kernel_rfl
theorem rl_kindP (w : World) : ((ReflectliteType.abiMethod fun t => (fun a : Nat => Value.int IntKind.u8 (a : Int)) <$> Rtype.kind t) #[.pointer (some ⟨6, 124, none⟩)]).run Tryd.prog w = .ok (.int .u8 22) w := by kernel_rfl
theorem rl_kindE (w : World) : ((ReflectliteType.abiMethod fun t => (fun a : Nat => Value.int IntKind.u8 (a : Int)) <$> Rtype.kind t) #[.pointer (some ⟨6, 27, none⟩)]).run Tryd.prog w = .ok (.int .u8 2) w := by kernel_rfl

theorem rlm (z : Sem Value) (f : TypeId → Addr → Nat → Nat → Sem Value) (v : Value) :
    ReflectliteValue.method z f #[v] = (do match ← ReflectliteValue.parts v with | none => z | some (t, a, fl) => f t a fl (fl % 32)) := rfl
theorem rl_partsP (a : Addr) (w : World) : (ReflectliteValue.parts (.agg #[.pointer (some ⟨6, 124, none⟩), .pointer (some a), .int .u64 150])).run Tryd.prog w = .ok (some (124, a, 150)) w := by kernel_rfl
theorem rl_isNilP (a p : Addr) (W : World) (ha : W.cell? a = some (.pointer (some p))) :
    (ReflectliteValue.method (ReflectliteValue.valueError "reflectlite.Value.IsNil" 0) ReflectliteValue.isNil #[.agg #[.pointer (some ⟨6, 124, none⟩), .pointer (some a), .int .u64 150]]).run Tryd.prog W = .ok (.bool false) W := by
  rw [rlm]
  simp only [Sem.run_bind, rl_partsP, Result.andThen]
  simp [ReflectliteValue.isNil, loadVar, isAgg, underlying, Tryd.underlying124, ha, Result.andThen]

theorem rl_methodElem (h : Value) (w : World) : (Go.method 333 177 (.agg #[h]) "Elem").run Tryd.prog w = .ok (159, .agg #[h]) w := by kernel_rfl
theorem rl_methodImplements (h : Value) (w : World) : (Go.method 333 177 (.agg #[h]) "Implements").run Tryd.prog w = .ok (160, .agg #[h]) w := by kernel_rfl
theorem rl_methodAssignableTo (h : Value) (w : World) : (Go.method 333 177 (.agg #[h]) "AssignableTo").run Tryd.prog w = .ok (157, .agg #[h]) w := by kernel_rfl
theorem rl_elemP (w : World) : (ReflectliteType.method ReflectliteType.elem #[.agg #[.pointer (some ⟨6, 124, none⟩)]]).run Tryd.prog w = .ok (.iface 177 (.agg #[.pointer (some ⟨6, 27, none⟩)])) w := by kernel_rfl
theorem rl_implementsE (w : World) : (ReflectliteType.relation "Implements" ReflectliteType.implements_ #[.agg #[.pointer (some ⟨6, 27, none⟩)], .iface 177 (.agg #[.pointer (some ⟨6, 34, none⟩)])]).run Tryd.prog w = .ok (.bool true) w := by kernel_rfl
theorem rl_typeOfE (v : Value) (w : World) : (ReflectliteType.typeOf #[.iface 27 v]).run Tryd.prog w = .ok (.iface 177 (.agg #[.pointer (some ⟨6, 27, none⟩)])) w := by kernel_rfl
theorem rl_typeOfA (v : Value) (w : World) : (ReflectliteType.typeOf #[.iface 109 v]).run Tryd.prog w = .ok (.iface 177 (.agg #[.pointer (some ⟨6, 109, none⟩)])) w := by kernel_rfl
theorem rl_assignableE (w : World) : (ReflectliteType.relation "AssignableTo" ReflectliteType.assignableTo #[.agg #[.pointer (some ⟨6, 27, none⟩)], .iface 177 (.agg #[.pointer (some ⟨6, 27, none⟩)])]).run Tryd.prog w = .ok (.bool true) w := by kernel_rfl
theorem rl_assignableA (w : World) : (ReflectliteType.relation "AssignableTo" ReflectliteType.assignableTo #[.agg #[.pointer (some ⟨6, 109, none⟩)], .iface 177 (.agg #[.pointer (some ⟨6, 27, none⟩)])]).run Tryd.prog w = .ok (.bool false) w := by kernel_rfl
theorem rl_valueOfE (n : Int) (w : World) : (ReflectliteValue.unpack (.iface 27 (.int .i64 n))).run Tryd.prog w
    = .ok (.agg #[.pointer (some ⟨6, 27, none⟩), .pointer (some ⟨w.heap.size, 0, none⟩), .int .u64 130]) (w.alloc (.cells #[.int .i64 n] 27)) := by kernel_rfl
theorem rl_elemOfP (w : World) : (Rtype.elem? 124).run Tryd.prog w = .ok (some 27) w := by kernel_rfl
theorem rl_mkE (p : Addr) (w : World) : (ReflectliteValue.mk 27 p ReflectliteValue.flagAddr).run Tryd.prog w = .ok (.agg #[.pointer (some ⟨6, 27, none⟩), .pointer (some p), .int .u64 386]) w := by kernel_rfl
theorem rl_elemVP (a p : Addr) (W : World) (ha : W.cell? a = some (.pointer (some p))) :
    (ReflectliteValue.method (ReflectliteValue.valueError "reflectlite.Value.Elem" 0) ReflectliteValue.elem #[.agg #[.pointer (some ⟨6, 124, none⟩), .pointer (some a), .int .u64 150]]).run Tryd.prog W
      = .ok (.agg #[.pointer (some ⟨6, 27, none⟩), .pointer (some p), .int .u64 386]) W := by
  rw [rlm]
  simp only [Sem.run_bind, rl_partsP, Result.andThen]
  simp [ReflectliteValue.elem, loadVar, isAgg, underlying, Tryd.underlying124, ha, Result.andThen, rl_elemOfP, rl_mkE]
theorem rls (v x : Value) : ReflectliteValue.set #[v, x] = (do
    let (some (dst, a, fl), some (src, b, _)) := (← ReflectliteValue.parts v, ← ReflectliteValue.parts x)
      | unsupported (.noEntry "extern/(internal/reflectlite.Value).Set.zeroValue")
    if fl / ReflectliteValue.flagAddr % 2 == 0 then unsupported (.noEntry "extern/(internal/reflectlite.Value).Set.unaddressable")
    let val ← loadVar src b
    if ← Rtype.directlyAssignable dst src then storeVar dst a val
    else if ← Rtype.implements dst src then
      if (← Rtype.kind src) == 20 then
        match val with
        | .nilIface => unsupported (.noEntry "extern/reflectlite: a nil value of one interface type handed on as a value of another")
        | _ => storeVar dst a val
      else storeVar dst a (.iface src val)
    else panicString ("reflectlite.Set: value of type " ++ (← Rtype.spelt src) ++ " is not assignable to type " ++ (← Rtype.spelt dst))
    pure (.tuple #[])) := rfl
theorem rl_partsEa (a : Addr) (w : World) : (ReflectliteValue.parts (.agg #[.pointer (some ⟨6, 27, none⟩), .pointer (some a), .int .u64 386])).run Tryd.prog w = .ok (some (27, a, 386)) w := by kernel_rfl
theorem rl_partsE (a : Addr) (w : World) : (ReflectliteValue.parts (.agg #[.pointer (some ⟨6, 27, none⟩), .pointer (some a), .int .u64 130])).run Tryd.prog w = .ok (some (27, a, 130)) w := by kernel_rfl
theorem rl_directE (w : World) : (Rtype.directlyAssignable 27 27).run Tryd.prog w = .ok true w := by kernel_rfl
theorem rl_setE (ta b : Addr) (n : Int) (old : Value) (W : World) (hb : W.cell? b = some (.int .i64 n)) (ht : W.cell? ta = some old) (hf : W.frozen? ta = false) :
    (ReflectliteValue.set #[.agg #[.pointer (some ⟨6, 27, none⟩), .pointer (some ta), .int .u64 386], .agg #[.pointer (some ⟨6, 27, none⟩), .pointer (some b), .int .u64 130]]).run Tryd.prog W
      = .ok (.tuple #[]) (W.setCell ta (.int .i64 n)) := by
  rw [rls]
  simp only [Sem.run_bind, rl_partsEa, rl_partsE, Result.andThen]
  simp [ReflectliteValue.flagAddr, loadVar, isAgg, underlying, Tryd.underlying27, hb, Result.andThen, rl_directE, storeVar, Value.cells, storeCells, Addr.add]
  rw [run_store Tryd.prog W ta _ _ (by rfl)]
  simp [ht, hf]

theorem as_nil (t : Value) (w : World) : Calls Tryd.prog 72 #[.nilIface, t] w fun e w' => e = .returned (.bool false) ∧ w' = w := by
  go_enter Tryd.func72, Tryd.ntmps72
  go_wp2
  go_ret
  exact ⟨rfl, rfl⟩

def asWorld (t : Addr) (n : Int) (w : World) : World := ((((w.alloc (.cells #[.pointer (some t)] 124)).alloc (.cells #[.pointer (some ⟨6, 124, none⟩), .pointer (some ⟨w.heap.size, 0, none⟩), .int .u64 150] 158)).alloc (.cells #[.pointer (some ⟨6, 124, none⟩), .pointer (some ⟨w.heap.size, 0, none⟩), .int .u64 150] 158)).alloc (.cells #[.int .i64 n] 27)).setCell t (.int .i64 n)

set_option maxHeartbeats 4000000 in
theorem as_errno (n : Int) (t : Addr) (old : Value) (w : World) (hg : w.cell? ⟨1, 0, none⟩ = some (.iface 177 (.agg #[.pointer (some ⟨6, 34, none⟩)]))) (ht0 : w.cell? t = some old) (hf0 : w.frozen? t = false) :
    Calls Tryd.prog 72 #[.iface 27 (.int .i64 n), .iface 124 (.pointer (some t))] w fun ev w' => ev = .returned (.bool true) ∧ w' = asWorld t n w := by
  have h6 := @run_callFunc_extern Tryd.prog 97 _ (fun args => ReflectliteValue.unpack (args.getD 0 (.tuple #[]))) Tryd.func97 (by kernel_rfl) (by kernel_rfl) (by kernel_rfl) (by kernel_rfl)
  have h7 := @run_callFunc_extern Tryd.prog 98 _ (ReflectliteValue.methodAny (ReflectliteValue.valueError "reflectlite.Value.Type" 0) (fun t _ _ _ => ReflectliteType.toType t)) Tryd.func98 (by kernel_rfl) (by kernel_rfl) (by kernel_rfl) (by kernel_rfl)
  have h8 := @run_callFunc_extern Tryd.prog 99 _ (ReflectliteValue.method (ReflectliteValue.valueError "reflectlite.Value.IsNil" 0) ReflectliteValue.isNil) Tryd.func99 (by kernel_rfl) (by kernel_rfl) (by kernel_rfl) (by kernel_rfl)
  have h27 := @run_callFunc_extern Tryd.prog 147 _ (ReflectliteType.abiMethod fun t => do pure (.int .u8 (← Rtype.kind t))) Tryd.func147 (by kernel_rfl) (by kernel_rfl) (by kernel_rfl) (by kernel_rfl)
  have h37 := @run_callFunc_extern Tryd.prog 159 _ (ReflectliteType.method ReflectliteType.elem) Tryd.func159 (by kernel_rfl) (by kernel_rfl) (by kernel_rfl) (by kernel_rfl)
  have h38 := @run_callFunc_extern Tryd.prog 160 _ (ReflectliteType.relation "Implements" ReflectliteType.implements_) Tryd.func160 (by kernel_rfl) (by kernel_rfl) (by kernel_rfl) (by kernel_rfl)
  have h10 := @run_callFunc_extern Tryd.prog 114 _ ReflectliteType.typeOf Tryd.func114 (by kernel_rfl) (by kernel_rfl) (by kernel_rfl) (by kernel_rfl)
  have h35 := @run_callFunc_extern Tryd.prog 157 _ (ReflectliteType.relation "AssignableTo" ReflectliteType.assignableTo) Tryd.func157 (by kernel_rfl) (by kernel_rfl) (by kernel_rfl) (by kernel_rfl)
  have h11 := @run_callFunc_extern Tryd.prog 115 _ (ReflectliteValue.method (ReflectliteValue.valueError "reflectlite.Value.Elem" 0) ReflectliteValue.elem) Tryd.func115 (by kernel_rfl) (by kernel_rfl) (by kernel_rfl) (by kernel_rfl)
  have h12 := @run_callFunc_extern Tryd.prog 116 _ ReflectliteValue.set Tryd.func116 (by kernel_rfl) (by kernel_rfl) (by kernel_rfl) (by kernel_rfl)
  have mA := rl_methodAssignableTo
  have aE := rl_assignableE
  have vE := rl_valueOfE
  have tE := rl_typeOfE
  have f6 := rl_valueOfP
  have f7 := rl_typeP
  have mK := rl_methodKind
  have mE := rl_methodElem
  have mI := rl_methodImplements
  have kP := rl_kindP
  have kE := rl_kindE
  have eP := rl_elemP
  have iE := rl_implementsE
  have n8 := rl_isNilP ⟨w.heap.size, 0, none⟩ t ((w.alloc (.cells #[.pointer (some t)] 124)).alloc (.cells #[.pointer (some ⟨6, 124, none⟩), .pointer (some ⟨w.heap.size, 0, none⟩), .int .u64 150] 158)) (by simp)
  have hlt : 1 < w.heap.size := by
    rcases Nat.lt_or_ge 1 w.heap.size with h | h
    · exact h
    · simp [World.cell?, Array.getElem?_eq_none h] at hg
  have hg2 : ((w.alloc (.cells #[.pointer (some t)] 124)).alloc (.cells #[.pointer (some ⟨6, 124, none⟩), .pointer (some ⟨w.heap.size, 0, none⟩), .int .u64 150] 158)).cell? ⟨1, 0, none⟩ = some (.iface 177 (.agg #[.pointer (some ⟨6, 34, none⟩)])) := by
    rw [World.cell?_alloc_lt _ _ ⟨1, 0, none⟩ (by simp; omega), World.cell?_alloc_lt _ _ ⟨1, 0, none⟩ hlt]; exact hg
  have htl : t.block < w.heap.size := by
    rcases Nat.lt_or_ge t.block w.heap.size with h | h
    · exact h
    · simp [World.cell?, Array.getElem?_eq_none h] at ht0
  have el := rl_elemVP ⟨w.heap.size, 0, none⟩ t (((w.alloc (.cells #[.pointer (some t)] 124)).alloc (.cells #[.pointer (some ⟨6, 124, none⟩), .pointer (some ⟨w.heap.size, 0, none⟩), .int .u64 150] 158)).alloc (.cells #[.pointer (some ⟨6, 124, none⟩), .pointer (some ⟨w.heap.size, 0, none⟩), .int .u64 150] 158)) (by rw [World.cell?_alloc_lt _ _ ⟨w.heap.size, 0, none⟩ (by simp; omega)]; simp)
  have st := rl_setE t ⟨w.heap.size + 1 + 1 + 1, 0, none⟩ n old ((((w.alloc (.cells #[.pointer (some t)] 124)).alloc (.cells #[.pointer (some ⟨6, 124, none⟩), .pointer (some ⟨w.heap.size, 0, none⟩), .int .u64 150] 158)).alloc (.cells #[.pointer (some ⟨6, 124, none⟩), .pointer (some ⟨w.heap.size, 0, none⟩), .int .u64 150] 158)).alloc (.cells #[.int .i64 n] 27))
    (by rw [World.cell?_alloc_at _ _ _ _ (by simp)]; rfl)
    (by rw [World.cell?_alloc_lt _ _ t (by simp; omega), World.cell?_alloc_lt _ _ t (by simp; omega), World.cell?_alloc_lt _ _ t (by simp; omega), World.cell?_alloc_lt _ _ t htl]; exact ht0)
    (by rw [World.frozen?_alloc_old _ _ t (by simp; omega), World.frozen?_alloc_old _ _ t (by simp; omega), World.frozen?_alloc_old _ _ t (by simp; omega), World.frozen?_alloc_old _ _ t (Nat.ne_of_lt htl)]; exact hf0)
  go_enter Tryd.func72, Tryd.ntmps72
  go_wp2
  refine wp_loop_rounds 1 ?_
  rw [rounds_succ]
  go_wp2
  go_ret
  exact ⟨rfl, rfl⟩

theorem unwrap_at (a : Addr) (n : Int) (w : World) (ha : w.cell? a = some (.int .i64 n)) : Calls Tryd.prog 152 #[.pointer (some a)] w fun e w' => e = .returned (.iface 27 (.int .i64 n)) ∧ w' = w := by
  go_enter Tryd.func152, Tryd.ntmps152
  go_wp2
  go_ret
  exact ⟨rfl, rfl⟩
theorem rl_methodUnwrap (h : Value) (w : World) : (Go.method 333 109 h "Unwrap").run Tryd.prog w = .ok (152, h) w := by kernel_rfl
theorem rl_noAs (v : Value) (xT : TypeId) (w : World) : (Instr.typeAssert (.iface 109 v) xT 182 true).run Tryd.prog w = .ok (.tuple #[.nilIface, .bool false]) w := run_typeAssert_lacksB Tryd.underlying182 (by kernel_rfl) (by kernel_rfl) v xT w
theorem rl_unwraps (v : Value) (xT : TypeId) (w : World) : (Instr.typeAssert (.iface 109 v) xT 149 true).run Tryd.prog w = .ok (.tuple #[.iface 109 v, .bool true]) w := run_typeAssert_hasB Tryd.underlying149 (by kernel_rfl) v xT w

#print axioms as_errno
#print axioms unwrap_at
end Go.Proofs.YtoikggboakojlaaDoor

/-
  errors.As at an error with a place; what api.Tell and plain.Place tell.
-/
namespace Go.Proofs.YtoikggboakojlaaDoor
set_option linter.unusedSimpArgs false
set_option linter.unusedVariables false
open Go.RowKit Go.Extern.Stop Go.Stop Go.Extern
set_option linter.unusedSimpArgs false
set_option linter.unusedVariables false

set_option maxHeartbeats 8000000 in
theorem as_at (n : Int) (a t : Addr) (old : Value) (w : World) (hg : w.cell? ⟨1, 0, none⟩ = some (.iface 177 (.agg #[.pointer (some ⟨6, 34, none⟩)]))) (ha : w.cell? a = some (.int .i64 n)) (ht0 : w.cell? t = some old) (hf0 : w.frozen? t = false) :
    Calls Tryd.prog 72 #[.iface 109 (.pointer (some a)), .iface 124 (.pointer (some t))] w fun ev w' => ev = .returned (.bool true) ∧ w' = asWorld t n w := by
  have h6 := @run_callFunc_extern Tryd.prog 97 _ (fun args => ReflectliteValue.unpack (args.getD 0 (.tuple #[]))) Tryd.func97 (by kernel_rfl) (by kernel_rfl) (by kernel_rfl) (by kernel_rfl)
  have h7 := @run_callFunc_extern Tryd.prog 98 _ (ReflectliteValue.methodAny (ReflectliteValue.valueError "reflectlite.Value.Type" 0) (fun t _ _ _ => ReflectliteType.toType t)) Tryd.func98 (by kernel_rfl) (by kernel_rfl) (by kernel_rfl) (by kernel_rfl)
  have h8 := @run_callFunc_extern Tryd.prog 99 _ (ReflectliteValue.method (ReflectliteValue.valueError "reflectlite.Value.IsNil" 0) ReflectliteValue.isNil) Tryd.func99 (by kernel_rfl) (by kernel_rfl) (by kernel_rfl) (by kernel_rfl)
  have h27 := @run_callFunc_extern Tryd.prog 147 _ (ReflectliteType.abiMethod fun t => do pure (.int .u8 (← Rtype.kind t))) Tryd.func147 (by kernel_rfl) (by kernel_rfl) (by kernel_rfl) (by kernel_rfl)
  have h37 := @run_callFunc_extern Tryd.prog 159 _ (ReflectliteType.method ReflectliteType.elem) Tryd.func159 (by kernel_rfl) (by kernel_rfl) (by kernel_rfl) (by kernel_rfl)
  have h38 := @run_callFunc_extern Tryd.prog 160 _ (ReflectliteType.relation "Implements" ReflectliteType.implements_) Tryd.func160 (by kernel_rfl) (by kernel_rfl) (by kernel_rfl) (by kernel_rfl)
  have h10 := @run_callFunc_extern Tryd.prog 114 _ ReflectliteType.typeOf Tryd.func114 (by kernel_rfl) (by kernel_rfl) (by kernel_rfl) (by kernel_rfl)
  have h35 := @run_callFunc_extern Tryd.prog 157 _ (ReflectliteType.relation "AssignableTo" ReflectliteType.assignableTo) Tryd.func157 (by kernel_rfl) (by kernel_rfl) (by kernel_rfl) (by kernel_rfl)
  have h11 := @run_callFunc_extern Tryd.prog 115 _ (ReflectliteValue.method (ReflectliteValue.valueError "reflectlite.Value.Elem" 0) ReflectliteValue.elem) Tryd.func115 (by kernel_rfl) (by kernel_rfl) (by kernel_rfl) (by kernel_rfl)
  have h12 := @run_callFunc_extern Tryd.prog 116 _ ReflectliteValue.set Tryd.func116 (by kernel_rfl) (by kernel_rfl) (by kernel_rfl) (by kernel_rfl)
  have mA := rl_methodAssignableTo
  have aE := rl_assignableE
  have vE := rl_valueOfE
  have tE := rl_typeOfE
  have f6 := rl_valueOfP
  have f7 := rl_typeP
  have mK := rl_methodKind
  have mE := rl_methodElem
  have mI := rl_methodImplements
  have kP := rl_kindP
  have kE := rl_kindE
  have eP := rl_elemP
  have iE := rl_implementsE
  have n8 := rl_isNilP ⟨w.heap.size, 0, none⟩ t ((w.alloc (.cells #[.pointer (some t)] 124)).alloc (.cells #[.pointer (some ⟨6, 124, none⟩), .pointer (some ⟨w.heap.size, 0, none⟩), .int .u64 150] 158)) (by simp)
  have hlt : 1 < w.heap.size := by
    rcases Nat.lt_or_ge 1 w.heap.size with h | h
    · exact h
    · simp [World.cell?, Array.getElem?_eq_none h] at hg
  have hg2 : ((w.alloc (.cells #[.pointer (some t)] 124)).alloc (.cells #[.pointer (some ⟨6, 124, none⟩), .pointer (some ⟨w.heap.size, 0, none⟩), .int .u64 150] 158)).cell? ⟨1, 0, none⟩ = some (.iface 177 (.agg #[.pointer (some ⟨6, 34, none⟩)])) := by
    rw [World.cell?_alloc_lt _ _ ⟨1, 0, none⟩ (by simp; omega), World.cell?_alloc_lt _ _ ⟨1, 0, none⟩ hlt]; exact hg
  have htl : t.block < w.heap.size := by
    rcases Nat.lt_or_ge t.block w.heap.size with h | h
    · exact h
    · simp [World.cell?, Array.getElem?_eq_none h] at ht0
  have el := rl_elemVP ⟨w.heap.size, 0, none⟩ t (((w.alloc (.cells #[.pointer (some t)] 124)).alloc (.cells #[.pointer (some ⟨6, 124, none⟩), .pointer (some ⟨w.heap.size, 0, none⟩), .int .u64 150] 158)).alloc (.cells #[.pointer (some ⟨6, 124, none⟩), .pointer (some ⟨w.heap.size, 0, none⟩), .int .u64 150] 158)) (by rw [World.cell?_alloc_lt _ _ ⟨w.heap.size, 0, none⟩ (by simp; omega)]; simp)
  have st := rl_setE t ⟨w.heap.size + 1 + 1 + 1, 0, none⟩ n old ((((w.alloc (.cells #[.pointer (some t)] 124)).alloc (.cells #[.pointer (some ⟨6, 124, none⟩), .pointer (some ⟨w.heap.size, 0, none⟩), .int .u64 150] 158)).alloc (.cells #[.pointer (some ⟨6, 124, none⟩), .pointer (some ⟨w.heap.size, 0, none⟩), .int .u64 150] 158)).alloc (.cells #[.int .i64 n] 27))
    (by rw [World.cell?_alloc_at _ _ _ _ (by simp)]; rfl)
    (by rw [World.cell?_alloc_lt _ _ t (by simp; omega), World.cell?_alloc_lt _ _ t (by simp; omega), World.cell?_alloc_lt _ _ t (by simp; omega), World.cell?_alloc_lt _ _ t htl]; exact ht0)
    (by rw [World.frozen?_alloc_old _ _ t (by simp; omega), World.frozen?_alloc_old _ _ t (by simp; omega), World.frozen?_alloc_old _ _ t (by simp; omega), World.frozen?_alloc_old _ _ t (Nat.ne_of_lt htl)]; exact hf0)
  have tA := rl_typeOfA
  have aA := rl_assignableA
  have nA := rl_noAs
  have uA := rl_unwraps
  have mU := rl_methodUnwrap
  have hal : a.block < w.heap.size := by
    rcases Nat.lt_or_ge a.block w.heap.size with h | h
    · exact h
    · simp [World.cell?, Array.getElem?_eq_none h] at ha
  have ha3 : (((w.alloc (.cells #[.pointer (some t)] 124)).alloc (.cells #[.pointer (some ⟨6, 124, none⟩), .pointer (some ⟨w.heap.size, 0, none⟩), .int .u64 150] 158)).alloc (.cells #[.pointer (some ⟨6, 124, none⟩), .pointer (some ⟨w.heap.size, 0, none⟩), .int .u64 150] 158)).cell? a = some (.int .i64 n) := by
    rw [World.cell?_alloc_lt _ _ a (by simp; omega), World.cell?_alloc_lt _ _ a (by simp; omega), World.cell?_alloc_lt _ _ a hal]; exact ha
  go_enter Tryd.func72, Tryd.ntmps72
  go_wp2
  refine wp_loop_rounds 2 ?_
  rw [rounds_succ]
  go_wp2_with (go_at_call 152; refine (unwrap_at a n _ ha3).mono ?_; rintro e w' ⟨rfl, rfl⟩)
  rw [rounds_succ]
  go_wp2
  go_ret
  exact ⟨rfl, rfl⟩

#print axioms as_at
end Go.Proofs.YtoikggboakojlaaDoor

/-
  Laws: what is read as data is immutable data; what a call that only yields data leaves behind.
-/
namespace Go.Av
set_option linter.unusedSimpArgs false
set_option linter.unusedVariables false
set_option linter.unusedSectionVars false
open Go.ChangeShapes Go.WideShapes Go.RowKit

theorem law_calls {P : Program} {g : FuncId} {xs : List D} {b : Bool} (hc : PureC P (fun _ => none) g xs (.v (.bool b))) {W : World} {args : Array Value} (hsz : args.size = xs.length)
    (hrd : ∀ (i : Nat) (u : Value) (x : D), args[i]? = some u → xs[i]? = some x → RD W (fun _ => False) u x) : Calls P g args W fun e W' => e = .returned (.bool b) ∧ Below W.heap.size W W' := by
  refine (hc.2 (fun _ => False) W (fun _ => none) args (Sim.none (by simp)) (by simp) (by simpa using hsz) fun i u x hu hx => ?_).mono fun e W' ⟨v, x, H', μ', he, ⟨hx, _⟩, hr, _, ev⟩ => ?_
  · rw [List.getElem?_map] at hx
    obtain ⟨d, hd, rfl⟩ := Option.map_eq_some_iff.1 hx
    exact .d ((hrd i u d hu hd).sub fun b hb => XX_none.1 hb)
  · subst hx
    have := hr.scalar
    subst this
    have hg := Ev.grew ev
    exact ⟨he, hg.os, hg.tape, hg.output, hg.size, hg.same⟩

section
variable {H : Type} {enc : TypeId × Value → H} {P : Program} {w : World} {base : Nat} {spare : Nat → Bool} {held : Bool} {X : Nat → Prop}

/-- Cells stand for this data, one by one. -/
def CellsRD (w : World) (X : Nat → Prop) (cs : List Value) (ds : List D) : Prop := cs.length = ds.length ∧ ∀ (j : Nat) (u : Value) (c : D), cs[j]? = some u → ds[j]? = some c → RD w X u c

theorem CellsRD.one {u : Value} {c : D} (h : RD w X u c) : CellsRD w X [u] [c] := ⟨rfl, fun j u' c' hu hc => by
  cases j with
  | zero => simp at hu hc; subst hu hc; exact h
  | succ j => simp at hu⟩
theorem CellsRD.inv {u : Value} {c : D} (h : CellsRD w X [u] [c]) : RD w X u c := h.2 0 u c rfl rfl

/-- What is read of type t is some a, as f lays it out. -/
def ReadsAs (enc : TypeId × Value → H) (P : Program) (w : World) (base : Nat) (spare : Nat → Bool) (held : Bool) (X : Nat → Prop) (t : TypeId) {α : Type} (p : α → Prop) (f : α → List D) : Prop :=
  ∀ fuel cs x, DataW.trod enc P w base spare held fuel t cs = some x → ∃ a, p a ∧ CellsRD w X cs (f a)

theorem reads_int {t : TypeId} (ht : P.underlying t = some (.int .i64)) : ReadsAs enc P w base spare held X t (fun n : Int => -9223372036854775808 ≤ n ∧ n ≤ 9223372036854775807) (fun n => [.v (.int .i64 n)]) := by
  intro fuel cs x h
  obtain ⟨n, rfl, _, hw⟩ := DataW.trod_int ht h
  refine ⟨n, ?_, .one (.v _)⟩
  simp only [Lit.wf, Bool.and_eq_true, decide_eq_true_eq] at hw
  have e1 : IntKind.i64.min = -9223372036854775808 := by decide
  have e2 : IntKind.i64.max = 9223372036854775807 := by decide
  rw [e1, e2] at hw
  exact hw

theorem reads_slice {t e : TypeId} {α : Type} {p : α → Prop} {f : α → List D} {sz : Nat} (ht : P.underlying t = some (.slice e)) (hc : P.cellsOf e = sz) (hz : 0 < sz) (hX : ∀ b, ¬ X b) (he : ReadsAs enc P w base spare held X e p f) :
    ReadsAs enc P w base spare held X t (fun l : List α => (∀ a ∈ l, p a) ∧ l.length ≤ maxLen) (fun l => [.sl none (l.map f)]) := by
  intro fuel cs x h
  rcases Deep.open_slice ht h with ⟨rfl, _⟩ | ⟨a, len, cap, m, n, _, _, rfl, hb, hl, hm, hmm, _, hx⟩
  · exact ⟨[], ⟨by simp, by simp⟩, .one (.nil (by simp))⟩
  · have hle : len ≤ m := by rw [hmm]; split <;> omega
    rcases Nat.eq_zero_or_pos len with rfl | hpos
    · exact ⟨[], ⟨by simp, by simp⟩, .one (.empty (by simp) hm)⟩
    · have hel : ∀ i, i < len → ∃ x, p x ∧ ∃ cs', w.cells? base (a.add (i * P.cellsOf e)) (P.cellsOf e) = some cs' ∧ CellsRD w X cs' (f x) := fun i hi => by
        obtain ⟨cs', h1, h2⟩ := hx i (by omega)
        obtain ⟨x, hp, hr⟩ := he _ _ _ h2
        exact ⟨x, hp, cs', h1, hr⟩
      have : Inhabited α := ⟨(hel 0 hpos).choose⟩
      obtain ⟨g, hg⟩ := Deep.choose_lt hel
      refine ⟨(List.range len).map g, ⟨fun y hy => ?_, by simp; omega⟩, .one ?_⟩
      · obtain ⟨i, hi, rfl⟩ := List.mem_map.1 hy
        exact (hg i (List.mem_range.1 hi)).1
      rw [hc] at hg
      have hcell : ∀ i j, i < len → j < sz → ∃ u, w.cell? ((a.add (i * sz)).add j) = some u ∧ (∀ c, (f (g i))[j]? = some c → RD w X u c) ∧ (f (g i)).length = sz := fun i j hi hj => by
        obtain ⟨_, cs', h1, h2, h3⟩ := hg i hi
        obtain ⟨_, hlen, hcs⟩ := World.cells?_some h1
        refine ⟨cs'[j], by rw [hcs j hj]; simp [hlen, hj], fun c hcc => h3 j _ c (by simp [hlen, hj]) hcc, by omega⟩
      have hspot : a.spot = none := by
        obtain ⟨u, hu, _⟩ := hcell 0 0 hpos hz
        simp only [Nat.zero_mul, Addr.add, if_true] at hu
        exact World.cell?_spot hu
      obtain ⟨b, off, spot⟩ := a
      dsimp only at hspot
      subst hspot
      have hcell : ∀ i j, i < len → j < sz → ∃ u, w.cell? ⟨b, off + (i * sz + j), none⟩ = some u ∧ (∀ c, (f (g i))[j]? = some c → RD w X u c) ∧ (f (g i)).length = sz := fun i j hi hj => by
        have := hcell i j hi hj
        rwa [addr_add, addr_add, Nat.add_assoc] at this
      refine .sl (f := fun i j => (w.cell? ⟨b, off + (i * sz + j), none⟩).getD undef) (by simp) (by simp) hl hm (hX b) (fun el hel => ?_) hz hpos (fun i j hi hj => ?_) (fun i j el c h1 h2 => ?_)
      · obtain ⟨y, hy, rfl⟩ := List.mem_map.1 hel
        obtain ⟨i, hi, rfl⟩ := List.mem_map.1 hy
        exact (hcell i 0 (List.mem_range.1 hi) hz).choose_spec.2.2
      · obtain ⟨u, hu, _⟩ := hcell i j hi hj
        rw [hu]; rfl
      · rw [List.getElem?_map, List.getElem?_map] at h1
        obtain ⟨y, hy, rfl⟩ := Option.map_eq_some_iff.1 h1
        obtain ⟨i', hi', rfl⟩ := Option.map_eq_some_iff.1 hy
        obtain ⟨hlt, rfl⟩ := List.getElem?_eq_some_iff.1 hi'
        rw [List.getElem_range] at h2
        simp only [List.length_range] at hlt
        have hj : j < sz := by
          obtain ⟨_, _, _, h3⟩ := hcell i 0 hlt hz
          rw [← h3]
          exact (List.getElem?_eq_some_iff.1 h2).1
        obtain ⟨u, hu, hr, _⟩ := hcell i j hlt hj
        rw [hu]
        exact hr c h2

theorem reads_struct2 {t : TypeId} {f0 f1 : Field} {α β : Type} {p : α → Prop} {q : β → Prop} {f : α → List D} {g : β → List D} (ht : P.underlying t = some (.struct #[f0, f1])) (hn : P.cellsOf t = P.cellsOf f0.type + P.cellsOf f1.type) (h0 : f0.offset = 0) (h1 : f1.offset = P.cellsOf f0.type)
    (hf : ReadsAs enc P w base spare held X f0.type p f) (hg : ReadsAs enc P w base spare held X f1.type q g) : ReadsAs enc P w base spare held X t (fun s : α × β => p s.1 ∧ q s.2) (fun s => f s.1 ++ g s.2) := by
  intro fuel cs x h
  obtain ⟨y0, y1, n, _, hl, t0, t1⟩ := trod_struct2 ht h
  obtain ⟨a, pa, ca⟩ := hf _ _ _ t0
  obtain ⟨b, pb, cb⟩ := hg _ _ _ t1
  refine ⟨(a, b), ⟨pa, pb⟩, ?_⟩
  have e0 : cs = (cs.drop f0.offset).take (P.cellsOf f0.type) ++ (cs.drop f1.offset).take (P.cellsOf f1.type) := by
    rw [h0, h1, List.drop_zero, List.take_of_length_le (l := List.drop _ _) (by simp; omega), List.take_append_drop]
  rw [e0]
  obtain ⟨la, ra⟩ := ca
  obtain ⟨lb, rb⟩ := cb
  refine ⟨by rw [List.length_append, List.length_append, la, lb], fun j u c hu hc => ?_⟩
  rcases Nat.lt_or_ge j (f a).length with hj | hj
  · rw [List.getElem?_append_left (by omega)] at hu hc
    exact ra j u c hu hc
  · rw [List.getElem?_append_right (by omega)] at hu hc
    rw [la] at hu
    exact rb _ u c hu hc

/-- A value of a struct's type. -/
theorem RD.of_cells {u : Value} {ds : List D} (ha : ∃ arr, u = .agg arr) (h : CellsRD w X u.cells.toList ds) : RD w X u (.agg ds) := by
  obtain ⟨arr, rfl⟩ := ha
  refine .agg (by have := h.1; simpa [Value.cells] using this) fun j u c hu hc => h.2 j u c (by simpa [Value.cells] using hu) hc
theorem RD.of_cell {u : Value} {d : D} (ha : ∀ arr, u ≠ .agg arr) (h : CellsRD w X u.cells.toList [d]) : RD w X u d := by
  have : u.cells = #[u] := by
    cases u <;> first | rfl | exact absurd rfl (ha _)
  rw [this] at h
  exact h.inv
end

/-- All arguments read as they did. -/
theorem trodAll_below {H : Type} {enc : TypeId × Value → H} {P : Program} (hl : laidOutB P = true) {W W' : World} (hb : Below W.heap.size W W') : ∀ {ts : List TypeId} {vs : List Value} {ds : List (DataW H)} {ps : List MemPlace},
    (∀ t ∈ ts, P.readableRec t = true ∧ t < P.types.size) → DataW.TrodAll enc P W 0 (fun _ => true) true ts vs ds ps → (∀ x ∈ ps, x.block < W.heap.size) → DataW.TrodAll enc P W' 0 (fun b => decide (b < W.heap.size)) true ts vs ds ps
  | [], vs, ds, ps, _, h, _ => by
    obtain ⟨rfl, rfl, rfl⟩ := trodAll_nil h
    exact rfl
  | t :: ts, vs, ds, ps, ht, h, hp => by
    obtain ⟨v, vs1, d, ds1, a, b, rfl, rfl, rfl, h1, h2⟩ := trodAll_cons h
    exact ⟨a, b, Below.trod hl (ht t (by simp)).1 (ht t (by simp)).2 h1 hb (fun x hx => hp x (by simp [hx])), trodAll_below hl hb (fun t h => ht t (by simp [h])) h2 (fun x hx => hp x (by simp [hx])), rfl⟩
end Go.Av

/-
  Contracts on the model's own 'Calls' become contracts of this logic.
-/
namespace Go.Av
set_option linter.unusedSimpArgs false
set_option linter.unusedVariables false
set_option linter.unusedSectionVars false

theorem PureC.of_calls {P : Program} {G : Glob} {g : FuncId} {ds : List D} {y : D} (hf : Fun P g)
    (h : ∀ (X : Nat → Prop) (w : World) (vs : Array Value), vs.size = ds.length → (∀ (i : Nat) (u : Value) (x : D), vs[i]? = some u → ds[i]? = some x → RD w X u x) → (∀ g x, G g = some x → RD w X (.pointer (some ⟨g, 0, none⟩)) x) →
      Calls P g vs w fun e w' => ∃ v, e = .returned v ∧ Grew w w' ∧ RD w' X v y) : PureC P G g ds y := by
  refine ⟨hf, fun X w μ vs hs hgl hsz hv => ?_⟩
  have hμ : μ = fun _ => none := by
    funext r
    cases hr : μ r with
    | none => rfl
    | some m => obtain ⟨row, hrow⟩ := hs.dom r m hr; cases hrow
  subst hμ
  refine (h X w vs (by simpa using hsz) (fun i u x hu hx => ?_) (fun g x hx => (hgl g x hx).sub fun b hb => XX_none.2 hb)).mono fun e w' ⟨v, he, hg, hr⟩ => ?_
  · exact (hv i u (.d x) hu (by rw [List.getElem?_map, hx]; rfl)).data.sub fun b hb => XX_none.2 hb
  · refine ⟨v, .d y, hno, fun _ => none, he, ⟨rfl, rfl⟩, .d (hr.sub fun b hb => XX_none.1 hb), Sim.none fun b hb => Nat.lt_of_lt_of_le (hs.fits b hb) hg.size, hg.size, hg.os, hg.tape, hg.output, fun b hb _ => ⟨hg.same b hb, fun ⟨_, _, hh, _⟩ => by cases hh⟩, fun r m hr => by cases hr⟩
end Go.Av

/-
  What api.Tell and plain.Place tell of an error.
-/
namespace Go.Proofs.YtoikggboakojlaaDoor
set_option linter.unusedSimpArgs false
set_option linter.unusedVariables false
open Go.RowKit Go.Extern.Stop Go.Stop Go.Extern
open Go.Av

def errType : Value := .iface 177 (.agg #[.pointer (some ⟨6, 34, none⟩)])

theorem asWorld_grew (n : Int) (w : World) : Grew w (asWorld ⟨w.heap.size, 0, none⟩ n (w.alloc (.cells #[.int .i64 0] 27))) := by
  unfold asWorld
  refine ⟨by simp <;> omega, rfl, rfl, rfl, fun b hb => ?_⟩
  rw [Below.heap_setCell _ _ _ _ (by simp; omega)]
  repeat rw [Below.heap_alloc _ _ _ (by simp; omega)]
  exact Below.heap_alloc _ _ _ hb
theorem asWorld_cell (n : Int) (w : World) : (asWorld ⟨w.heap.size, 0, none⟩ n (w.alloc (.cells #[.int .i64 0] 27))).cell? ⟨w.heap.size, 0, none⟩ = some (.int .i64 n) := by
  unfold asWorld
  have hm : ((((w.alloc (.cells #[.int .i64 0] 27)).alloc (.cells #[.pointer (some ⟨w.heap.size, 0, none⟩)] 124)).alloc (.cells #[.pointer (some ⟨6, 124, none⟩), .pointer (some ⟨(w.alloc (.cells #[.int .i64 0] 27)).heap.size, 0, none⟩), .int .u64 150] 158)).alloc (.cells #[.pointer (some ⟨6, 124, none⟩), .pointer (some ⟨(w.alloc (.cells #[.int .i64 0] 27)).heap.size, 0, none⟩), .int .u64 150] 158) |>.alloc (.cells #[.int .i64 n] 27)).cell? ⟨w.heap.size, 0, none⟩ = some (.int .i64 0) := by
    rw [World.cell?_alloc_lt _ _ _ (by simp; omega), World.cell?_alloc_lt _ _ _ (by simp; omega), World.cell?_alloc_lt _ _ _ (by simp; omega), World.cell?_alloc_lt _ _ _ (by simp)]
    simp
  exact World.cell?_setCell_same _ _ _ hm

theorem tell_nil (w : World) : Calls Tryd.prog 38 #[.nilIface] w fun e w' => e = .returned (.int .i64 0) ∧ w' = w := by
  go_enter Tryd.func38, Tryd.ntmps38
  go_wp2
  go_ret
  exact ⟨rfl, rfl⟩

set_option maxHeartbeats 1000000 in
theorem tell_errno (n : Int) (w : World) (hg : w.cell? ⟨1, 0, none⟩ = some errType) : Calls Tryd.prog 38 #[.iface 27 (.int .i64 n)] w fun e w' => e = .returned (.int .i64 n) ∧ Grew w w' := by
  have hlt : 1 < w.heap.size := by
    rcases Nat.lt_or_ge 1 w.heap.size with h | h
    · exact h
    · simp [World.cell?, Array.getElem?_eq_none h] at hg
  have hgA : (w.alloc (.cells #[.int .i64 0] 27)).cell? ⟨1, 0, none⟩ = some errType := by rw [World.cell?_alloc_lt _ _ ⟨1, 0, none⟩ hlt]; exact hg
  have htA : (w.alloc (.cells #[.int .i64 0] 27)).cell? ⟨w.heap.size, 0, none⟩ = some (.int .i64 0) := by simp
  have hfA : (w.alloc (.cells #[.int .i64 0] 27)).frozen? ⟨w.heap.size, 0, none⟩ = false := by simp
  have hc := asWorld_cell n w
  have hgr := asWorld_grew n w
  go_enter Tryd.func38, Tryd.ntmps38
  go_wp2_with (go_at_call 72; refine (as_errno n _ (.int .i64 0) _ hgA htA hfA).mono ?_; rintro e w' ⟨rfl, rfl⟩)
  go_ret
  exact ⟨rfl, hgr⟩

set_option maxHeartbeats 1000000 in
theorem tell_at (n : Int) (a : Addr) (w : World) (hg : w.cell? ⟨1, 0, none⟩ = some errType) (ha : w.cell? a = some (.int .i64 n)) : Calls Tryd.prog 38 #[.iface 109 (.pointer (some a))] w fun e w' => e = .returned (.int .i64 n) ∧ Grew w w' := by
  have hlt : 1 < w.heap.size := by
    rcases Nat.lt_or_ge 1 w.heap.size with h | h
    · exact h
    · simp [World.cell?, Array.getElem?_eq_none h] at hg
  have hal : a.block < w.heap.size := cell_lt ha
  have hgA : (w.alloc (.cells #[.int .i64 0] 27)).cell? ⟨1, 0, none⟩ = some errType := by rw [World.cell?_alloc_lt _ _ ⟨1, 0, none⟩ hlt]; exact hg
  have haA : (w.alloc (.cells #[.int .i64 0] 27)).cell? a = some (.int .i64 n) := by rw [World.cell?_alloc_lt _ _ a hal]; exact ha
  have htA : (w.alloc (.cells #[.int .i64 0] 27)).cell? ⟨w.heap.size, 0, none⟩ = some (.int .i64 0) := by simp
  have hfA : (w.alloc (.cells #[.int .i64 0] 27)).frozen? ⟨w.heap.size, 0, none⟩ = false := by simp
  have hc := asWorld_cell n w
  have hgr := asWorld_grew n w
  go_enter Tryd.func38, Tryd.ntmps38
  go_wp2_with (go_at_call 72; refine (as_at n a _ (.int .i64 0) _ hgA haA htA hfA).mono ?_; rintro e w' ⟨rfl, rfl⟩)
  go_ret
  exact ⟨rfl, hgr⟩

/-- The code in an error, its place. -/
def codeF : Option (Int × Option Nat) → Int
  | none => 0
  | some (c, _) => c
def placeF : Option (Int × Option Nat) → Int
  | some (_, some s) => s
  | _ => -1

def HasErr (G : Glob) : Prop := G 1 = some (.ip [.v errType])
theorem HasErr.cell {G : Glob} (h : HasErr G) {w : World} {X : Nat → Prop} (hg : ∀ g x, G g = some x → RD w X (.pointer (some ⟨g, 0, none⟩)) x) : w.cell? ⟨1, 0, none⟩ = some errType := by
  have := hg _ _ h
  obtain ⟨b, off, f, hb, _, _, hc, hr⟩ := this.ip_inv
  simp only [Value.pointer.injEq, Option.some.injEq, Addr.mk.injEq, and_true] at hb
  obtain ⟨rfl, rfl⟩ := hb
  have h1 := hc 0 (by simp)
  have h2 := (hr 0 _ rfl).scalar
  rw [h2] at h1
  exact h1

theorem tell_spec (G : Glob) (hG : HasErr G) (e : Option (Int × Option Nat)) : PureC Tryd.prog G 38 [dErr e] (.v (.int .i64 (codeF e))) := by
  refine PureC.of_calls (Fun.of Tryd.func38 rfl rfl) fun X w vs hsz hrd hgl => ?_
  have hg := hG.cell hgl
  obtain ⟨v, rfl⟩ : ∃ v, vs = #[v] := Array.size_eq_one_iff.1 hsz
  have hv := hrd 0 v _ rfl rfl
  match e, hv with
  | none, hv =>
    have := hv.scalar
    subst this
    exact (tell_nil w).mono fun e w' ⟨he, hw⟩ => ⟨_, he, by rw [hw]; exact Grew.refl w, .v _⟩
  | some (c, none), hv =>
    obtain ⟨u, rfl, hu⟩ := hv.ifc_inv
    have := hu.scalar
    subst this
    exact (tell_errno c w hg).mono fun e w' ⟨he, hw⟩ => ⟨_, he, hw, .v _⟩
  | some (c, some s), hv =>
    obtain ⟨u, rfl, hu⟩ := hv.ifc_inv
    obtain ⟨b, off, f, rfl, _, _, hc, hr⟩ := hu.ip_inv
    have h1 := hc 0 (by simp)
    have h2 := (hr 0 _ rfl).scalar
    rw [h2] at h1
    exact (tell_at c ⟨b, off, none⟩ w hg h1).mono fun e w' ⟨he, hw⟩ => ⟨_, he, hw, .v _⟩
#print axioms tell_spec
end Go.Proofs.YtoikggboakojlaaDoor

/-
  What plain.Place tells of an error.
-/
namespace Go.Proofs.YtoikggboakojlaaDoor
set_option linter.unusedSimpArgs false
set_option linter.unusedVariables false
open Go.RowKit Go.Extern.Stop Go.Stop Go.Extern
open Go.Av

theorem ta_E (v : Value) (xT : TypeId) (w : World) : (Instr.typeAssert (.iface 27 v) xT 109 true).run Tryd.prog w = .ok (.tuple #[.pointer none, .bool false]) w := by kernel_rfl
theorem ta_A (v : Value) (xT : TypeId) (w : World) : (Instr.typeAssert (.iface 109 v) xT 109 true).run Tryd.prog w = .ok (.tuple #[v, .bool true]) w := by kernel_rfl
theorem ta_noUnwrap (v : Value) (xT : TypeId) (w : World) : (Instr.typeAssert (.iface 27 v) xT 149 true).run Tryd.prog w = .ok (.tuple #[.nilIface, .bool false]) w := run_typeAssert_lacksB Tryd.underlying149 (by kernel_rfl) (by kernel_rfl) v xT w

set_option maxHeartbeats 1000000 in
theorem place_nil (w : World) : Calls Tryd.prog 60 #[.nilIface] w fun e w' => e = .returned (.tuple #[.int .i64 0, .int .i64 (-1)]) ∧ Grew w w' := by
  go_enter Tryd.func60, Tryd.ntmps60
  go_wp2_with (go_at_call 38; refine (tell_nil _).mono ?_; rintro e w' ⟨rfl, rfl⟩)
  refine wp_loop_rounds 1 ?_
  rw [rounds_succ]
  go_wp2
  go_ret2
  exact ⟨rfl, Grew.refl _⟩

set_option maxHeartbeats 1000000 in
theorem place_errno (n : Int) (w : World) (hg : w.cell? ⟨1, 0, none⟩ = some errType) : Calls Tryd.prog 60 #[.iface 27 (.int .i64 n)] w fun e w' => e = .returned (.tuple #[.int .i64 n, .int .i64 (-1)]) ∧ Grew w w' := by
  have t1 := ta_E
  have t2 := ta_noUnwrap
  go_enter Tryd.func60, Tryd.ntmps60
  go_wp2_with (go_at_call 38; refine (tell_errno n _ hg).mono ?_; rintro e w' ⟨rfl, hgr⟩)
  refine wp_loop_rounds 1 ?_
  rw [rounds_succ]
  go_wp2
  go_ret2
  exact ⟨rfl, hgr⟩

set_option maxHeartbeats 1000000 in
theorem place_at (n s : Int) (b o : Nat) (w : World) (hg : w.cell? ⟨1, 0, none⟩ = some errType) (ha : w.cell? ⟨b, o, none⟩ = some (.int .i64 n)) (hs : w.cell? ⟨b, o + 1, none⟩ = some (.int .i64 s)) :
    Calls Tryd.prog 60 #[.iface 109 (.pointer (some ⟨b, o, none⟩))] w fun e w' => e = .returned (.tuple #[.int .i64 n, .int .i64 s]) ∧ Grew w w' := by
  have t1 := ta_A
  go_enter Tryd.func60, Tryd.ntmps60
  go_wp2_with (go_at_call 38; refine (tell_at n _ _ hg ha).mono ?_; rintro e w' ⟨rfl, hgr⟩)
  have hs' : w'.cell? ⟨b, o + 1, none⟩ = some (.int .i64 s) := by rw [World.cell?_of_block (w := w) (hgr.same b (cell_lt hs))]; exact hs
  refine wp_loop_rounds 1 ?_
  rw [rounds_succ]
  go_wp2
  go_region
  all_goals (go_wp2; go_ret2; exact ⟨rfl, hgr.size, hgr.os, hgr.tape, hgr.output, hgr.same⟩)

theorem place_spec (G : Glob) (hG : HasErr G) (e : Option (Int × Option Nat)) : PureC Tryd.prog G 60 [dErr e] (.tup [.v (.int .i64 (codeF e)), .v (.int .i64 (placeF e))]) := by
  refine PureC.of_calls (Fun.of Tryd.func60 rfl rfl) fun X w vs hsz hrd hgl => ?_
  have hg := hG.cell hgl
  obtain ⟨v, rfl⟩ : ∃ v, vs = #[v] := Array.size_eq_one_iff.1 hsz
  have hv := hrd 0 v _ rfl rfl
  have two : ∀ (w' : World) (a b : Int), RD w' X (.tuple #[.int .i64 a, .int .i64 b]) (.tup [.v (.int .i64 a), .v (.int .i64 b)]) := fun w' a b => .tup rfl fun j u c hu hc => by
    match j, hu, hc with
    | 0, hu, hc => simp at hu hc; subst hu hc; exact .v _
    | 1, hu, hc => simp at hu hc; subst hu hc; exact .v _
    | j + 2, hu, hc => simp at hu
  match e, hv with
  | none, hv =>
    have := hv.scalar
    subst this
    exact (place_nil w).mono fun e w' ⟨he, hw⟩ => ⟨_, he, hw, two _ _ _⟩
  | some (c, none), hv =>
    obtain ⟨u, rfl, hu⟩ := hv.ifc_inv
    have := hu.scalar
    subst this
    exact (place_errno c w hg).mono fun e w' ⟨he, hw⟩ => ⟨_, he, hw, two _ _ _⟩
  | some (c, some s), hv =>
    obtain ⟨u, rfl, hu⟩ := hv.ifc_inv
    obtain ⟨b, off, f, rfl, _, _, hc, hr⟩ := hu.ip_inv
    have h1 := hc 0 (by simp)
    have h2 := (hr 0 _ rfl).scalar
    rw [h2] at h1
    have h3 := hc 1 (by simp)
    have h4 := (hr 1 _ rfl).scalar
    rw [h4] at h3
    exact (place_at c s b off w hg h1 h3).mono fun e w' ⟨he, hw⟩ => ⟨_, he, hw, two _ _ _⟩
#print axioms place_spec
end Go.Proofs.YtoikggboakojlaaDoor

/-
  What the statements hold answers with: like lists, errors and their places.
-/
namespace Go.Proofs.YtoikggboakojlaaDoor
set_option linter.unusedSimpArgs false
set_option linter.unusedVariables false
open Go.Av

def dFault (e : Option (Int × Option Nat)) : D := .agg [dNum (codeF e), dNum (placeF e)]
def HasFine (G : Glob) : Prop := G 0 = some (.ip [dNum 0, dNum (-1)])

theorem bare0_spec (G : Glob) (c : Int) : PureC Tryd.prog G 67 [dNum c] (.agg [dNum c, dNum (-1)]) := by
  refine PureC.of_body (tyOf_good _) Tryd.func67 rfl rfl (rs := [.cell 2 29]) Tryd.results67 (by simp [Tryd.ntmps67]) fun X => ?_
  simp only [Tryd.ntmps67, List.map]
  refine AW_rg (tyOf_good _) [0, 2] [2] (fun _ _ => trivial) fun K' hK' => ?_
  repeat (refine sxf_next fun K2 hK2 => ?_; simp [dNum]; (repeat (refine ⟨by omega, ?_⟩)); refine hK2 _ ?_; clear hK2 K2)
  refine sxf_nil (hK' _ ?_)
  refine AW.st (by simp [dNum]; rfl) ?_
  clear hK' K'
  refine AW_rg (tyOf_good _) [2] [2] (fun _ _ => trivial) fun K' hK' => ?_
  repeat (refine sxf_next fun K2 hK2 => ?_; simp [dNum]; (repeat (refine ⟨by omega, ?_⟩)); refine hK2 _ ?_; clear hK2 K2)
  refine sxf_nil (hK' _ ?_)
  refine AW.st (by simp [dNum]; rfl) ?_
  clear hK' K'
  refine AW_ret ?_
  simp [D.le, D.le.go, takeMap, dNum]

theorem within_spec (G : Glob) (n lo hi : Int) : PureC Tryd.prog G 68 [dNum n, dNum lo, dNum hi] (.v (.bool (decide (lo ≤ n) && decide (n ≤ hi)))) := by
  refine PureC.of_body (tyOf_good _) Tryd.func68 rfl rfl (rs := [.tmp 6]) Tryd.results68 (by simp [Tryd.ntmps68]) fun X => ?_
  simp only [Tryd.ntmps68, List.map]
  refine AW_rg (tyOf_good _) [0, 1, 2] [] (fun _ _ => trivial) fun K' hK' => ?_
  repeat (refine sxf_next fun K2 hK2 => ?_; simp [dNum]; (repeat (refine ⟨by omega, ?_⟩)); refine hK2 _ ?_; clear hK2 K2)
  refine sxf_nil (hK' _ ?_)
  refine AW.st (by simp [dNum]; rfl) ?_
  clear hK' K'
  by_cases h1 : lo ≤ n
  · refine AW_rg (tyOf_good _) [6] [] (fun _ _ => trivial) fun K' hK' => ?_
    repeat (refine sxf_next fun K2 hK2 => ?_; simp [h1]; (repeat (refine ⟨by omega, ?_⟩)); refine hK2 _ ?_; clear hK2 K2)
    refine sxf_nil (hK' _ ?_)
    refine AW.st (by simp [h1]; rfl) ?_
    clear hK' K'
    refine AW_ret ?_
    simp [D.le, D.le.go, takeMap, h1]
  · refine AW_rg (tyOf_good _) [6] [] (fun _ _ => trivial) fun K' hK' => ?_
    repeat (refine sxf_next fun K2 hK2 => ?_; simp [h1]; (repeat (refine ⟨by omega, ?_⟩)); refine hK2 _ ?_; clear hK2 K2)
    refine sxf_nil (hK' _ ?_)
    refine AW.st (by simp [h1]; rfl) ?_
    clear hK' K'
    refine AW_ret ?_
    simp [D.le, D.le.go, takeMap, h1]
theorem within_yes (G : Glob) (n lo hi : Int) (h1 : lo ≤ n) (h2 : n ≤ hi) : PureC Tryd.prog G 68 [dNum n, dNum lo, dNum hi] (.v (.bool true)) := by
  have := within_spec G n lo hi
  rwa [decide_eq_true h1, decide_eq_true h2] at this
theorem within_no (G : Glob) (n lo hi : Int) (h : n < lo ∨ hi < n) : PureC Tryd.prog G 68 [dNum n, dNum lo, dNum hi] (.v (.bool false)) := by
  have := within_spec G n lo hi
  have e : (decide (lo ≤ n) && decide (n ≤ hi)) = false := by
    rcases h with h | h
    · rw [decide_eq_false (by omega), Bool.false_and]
    · rw [decide_eq_false (p := n ≤ hi) (by omega), Bool.and_false]
  rwa [e] at this

set_option maxHeartbeats 1000000 in
theorem lsameInts_spec (G : Glob) (k k' : Option Bool) (l l' : List Int) (h : l.length < 2^63) : PureC Tryd.prog G 22 [dInts k l, dInts k' l'] (.v (.bool (l == l'))) := by
  refine PureC.of_body (tyOf_good _) Tryd.func22 rfl rfl (rs := [.tmp 4]) Tryd.results22 (by simp [Tryd.ntmps22]) fun X => ?_
  simp only [Tryd.ntmps22, List.map]
  refine AW_rg (tyOf_good _) [0, 1] [] (fun _ _ => trivial) fun K' hK' => ?_
  repeat (refine sxf_next fun K2 hK2 => ?_; simp; (repeat (refine ⟨by omega, ?_⟩)); refine hK2 _ ?_; clear hK2 K2)
  refine sxf_nil (hK' _ ?_)
  refine AW.st (by simp; rfl) ?_
  clear hK' K'
  refine AW_then fun K1 hK1 => ?_
  refine AW_rg (tyOf_good _) [0, 1, 10] [] (fun _ _ => trivial) fun K' hK' => ?_
  repeat (refine sxf_next fun K2 hK2 => ?_; simp [dInts]; (repeat (refine ⟨by omega, ?_⟩)); refine hK2 _ ?_; clear hK2 K2)
  refine sxf_nil (hK' _ ?_)
  refine AW.st (by simp [dInts]; rfl) ?_
  clear hK' K'
  refine AW_cond' (b := l.length ≠ l'.length) (by simp [D.le, D.le.go, takeMap]) (fun hc => ?_) (fun hc => ?_)
  · refine AW_rg (tyOf_good _) [4] [] (fun _ _ => trivial) fun K' hK' => ?_
    repeat (refine sxf_next fun K2 hK2 => ?_; simp; (repeat (refine ⟨by omega, ?_⟩)); refine hK2 _ ?_; clear hK2 K2)
    refine sxf_nil (hK' _ ?_)
    refine AW.st (by simp; rfl) ?_
    clear hK' K'
    refine AW_ret ?_
    simp [D.le, D.le.go, takeMap]
    intro e; subst e; simp at hc
  · refine AW_skip (hK1 _ ?_)
    have hl : l.length = l'.length := by simpa using hc
    refine AW_then fun K2 hK2 => ?_
    refine AW_rg (tyOf_good _) [0, 1, 5] [] (fun _ _ => trivial) fun K' hK' => ?_
    repeat (refine sxf_next fun K2 hK2 => ?_; simp [dInts]; (repeat (refine ⟨by omega, ?_⟩)); refine hK2 _ ?_; clear hK2 K2)
    refine sxf_nil (hK' _ ?_)
    refine AW.st (by simp [dInts]; rfl) ?_
    clear hK' K'
    refine AW_for (S := Nat) (fun n => n ≤ l.length ∧ l.take n = l'.take n) (fun n => ⟨lst [(0, .d (dInts k l)), (1, .d (dInts k' l')), (5, int n)], hlst []⟩) (fun n => l.length - n) 0 ?_ (by simp) ?_
    · refine Imp.to' (fun _ _ => trivial) (by simp [dInts]) (by simp [dInts])
    · rintro n ⟨hn, ht⟩
      refine AW_then fun K3 hK3 => ?_
      refine AW_rg (tyOf_good _) [0, 1, 5, 14] [] (fun _ _ => trivial) fun K' hK' => ?_
      repeat (refine sxf_next fun K2 hK2 => ?_; simp [dInts]; (repeat (refine ⟨by omega, ?_⟩)); refine hK2 _ ?_; clear hK2 K2)
      refine sxf_nil (hK' _ ?_)
      refine AW.st (by simp [dInts]; rfl) ?_
      clear hK' K'
      refine AW_cond' (b := n < l.length) (by simp [D.le, D.le.go, takeMap]) (fun hc => ?_) (fun hc => ?_)
      · refine AW_skip (hK3 _ ?_)
        refine AW_then fun K4 hK4 => ?_
        refine AW_block ?_
        have hn' : n < l'.length := by omega
        refine AW_rd (tyOf_good _) (by kernel_rfl) [0, 1, 5, 25] [] (fun _ _ => trivial) (by kernel_rfl) fun K' hK' => ?_
        repeat (refine sxd_next fun K2 hK2 => ?_; simp [dInts, hc, hn']; (repeat (refine ⟨by omega, ?_⟩)); refine hK2 _ ?_; clear hK2 K2)
        refine sxd_nil (hK' _ ?_)
        refine AW.st (by simp [dInts, hc, hn']; rfl) ?_
        clear hK' K'
        refine AW_cond' (b := ¬ l[n] = l'[n]) (by simp [D.le, D.le.go, takeMap]) (fun hc => ?_) (fun hc => ?_)
        · refine AW_rg (tyOf_good _) [4] [] (fun _ _ => trivial) fun K' hK' => ?_
          repeat (refine sxf_next fun K2 hK2 => ?_; simp; (repeat (refine ⟨by omega, ?_⟩)); refine hK2 _ ?_; clear hK2 K2)
          refine sxf_nil (hK' _ ?_)
          refine AW.st (by simp; rfl) ?_
          clear hK' K'
          refine AW_ret ?_
          simp [D.le, D.le.go, takeMap]
          intro e; subst e; simp at hc
        · refine AW_skip (hK4 _ ?_)
          refine AW_re (tyOf_good _) fun K' hK' => ?_
          repeat (refine sxf_next fun K2 hK2 => ?_; simp; (repeat (refine ⟨by omega, ?_⟩)); refine hK2 _ ?_; clear hK2 K2)
          refine sxf_nil (hK' _ ?_)
          clear hK' K'
          try simp only [thn, inb]
          have he : l[n] = l'[n] := by simpa using hc
          refine Again.mk (n + 1) ⟨by omega, take_step ht (by omega) hn' he⟩ (by omega) ?_
          refine Imp.to' (fun _ _ => trivial) (by simp [dInts]) (by simp [dInts])
      · refine AW_exit (hK2 _ ?_)
        refine AW_rg (tyOf_good _) [4] [] (fun _ _ => trivial) fun K' hK' => ?_
        repeat (refine sxf_next fun K2 hK2 => ?_; simp; (repeat (refine ⟨by omega, ?_⟩)); refine hK2 _ ?_; clear hK2 K2)
        refine sxf_nil (hK' _ ?_)
        refine AW.st (by simp; rfl) ?_
        clear hK' K'
        refine AW_ret ?_
        simp [D.le, D.le.go, takeMap]
        have hnn : n = l.length := by omega
        subst hnn
        exact take_eq_all hl ht

set_option maxHeartbeats 1000000 in
theorem lsameLists_spec (G : Glob) (l l' : List (List Int)) (h : l.length < 2^63) (hr : ∀ r ∈ l, r.length < 2^63) : PureC Tryd.prog G 24 [dRows l, dRows l'] (.v (.bool (l == l'))) := by
  refine PureC.of_body (tyOf_good _) Tryd.func24 rfl rfl (rs := [.tmp 4]) Tryd.results24 (by simp [Tryd.ntmps24]) fun X => ?_
  simp only [Tryd.ntmps24, List.map]
  refine AW_rg (tyOf_good _) [0, 1] [] (fun _ _ => trivial) fun K' hK' => ?_
  repeat (refine sxf_next fun K2 hK2 => ?_; simp; (repeat (refine ⟨by omega, ?_⟩)); refine hK2 _ ?_; clear hK2 K2)
  refine sxf_nil (hK' _ ?_)
  refine AW.st (by simp; rfl) ?_
  clear hK' K'
  refine AW_then fun K1 hK1 => ?_
  refine AW_rg (tyOf_good _) [0, 1, 10] [] (fun _ _ => trivial) fun K' hK' => ?_
  repeat (refine sxf_next fun K2 hK2 => ?_; simp [dRows]; (repeat (refine ⟨by omega, ?_⟩)); refine hK2 _ ?_; clear hK2 K2)
  refine sxf_nil (hK' _ ?_)
  refine AW.st (by simp [dRows]; rfl) ?_
  clear hK' K'
  refine AW_cond' (b := l.length ≠ l'.length) (by simp [D.le, D.le.go, takeMap]) (fun hc => ?_) (fun hc => ?_)
  · refine AW_rg (tyOf_good _) [4] [] (fun _ _ => trivial) fun K' hK' => ?_
    repeat (refine sxf_next fun K2 hK2 => ?_; simp; (repeat (refine ⟨by omega, ?_⟩)); refine hK2 _ ?_; clear hK2 K2)
    refine sxf_nil (hK' _ ?_)
    refine AW.st (by simp; rfl) ?_
    clear hK' K'
    refine AW_ret ?_
    simp [D.le, D.le.go, takeMap]
    intro e; subst e; simp at hc
  · refine AW_skip (hK1 _ ?_)
    have hl : l.length = l'.length := by simpa using hc
    refine AW_then fun K2 hK2 => ?_
    refine AW_rg (tyOf_good _) [0, 1, 5] [] (fun _ _ => trivial) fun K' hK' => ?_
    repeat (refine sxf_next fun K2 hK2 => ?_; simp [dRows]; (repeat (refine ⟨by omega, ?_⟩)); refine hK2 _ ?_; clear hK2 K2)
    refine sxf_nil (hK' _ ?_)
    refine AW.st (by simp [dRows]; rfl) ?_
    clear hK' K'
    refine AW_for (S := Nat) (fun n => n ≤ l.length ∧ l.take n = l'.take n) (fun n => ⟨lst [(0, .d (dRows l)), (1, .d (dRows l')), (5, int n)], hlst []⟩) (fun n => l.length - n) 0 ?_ (by simp) ?_
    · refine Imp.to' (fun _ _ => trivial) (by simp [dRows]) (by simp [dRows])
    · rintro n ⟨hn, ht⟩
      refine AW_then fun K3 hK3 => ?_
      refine AW_rg (tyOf_good _) [0, 1, 5, 14] [] (fun _ _ => trivial) fun K' hK' => ?_
      repeat (refine sxf_next fun K2 hK2 => ?_; simp [dRows]; (repeat (refine ⟨by omega, ?_⟩)); refine hK2 _ ?_; clear hK2 K2)
      refine sxf_nil (hK' _ ?_)
      refine AW.st (by simp [dRows]; rfl) ?_
      clear hK' K'
      refine AW_cond' (b := n < l.length) (by simp [D.le, D.le.go, takeMap]) (fun hc => ?_) (fun hc => ?_)
      · refine AW_skip (hK3 _ ?_)
        refine AW_then fun K4 hK4 => ?_
        refine AW_block ?_
        have hn' : n < l'.length := by omega
        refine AW_rd (tyOf_good _) (by kernel_rfl) [0, 1, 5, 26] [] (fun _ _ => trivial) (by kernel_rfl) fun K' hK' => ?_
        repeat (refine sxd_next fun K2 hK2 => ?_; simp [dRows, hc, hn']; (repeat (refine ⟨by omega, ?_⟩)); refine hK2 _ ?_; clear hK2 K2)
        refine sxd_next fun K2 hK2 => ?_
        simp [dRows, hc, hn']
        refine callQ.data (lsameInts_spec G none none l[n] l'[n] (hr _ (List.getElem_mem hc))) (by simp; rfl) (by simp; rfl) (by first | exact D.leGo_refl _ | simp [takeMap, List.map_map, Function.comp_def, D.le, D.le.go, D.le_refl, D.leGo_refl, dRows, hc, hn']) ?_
        refine hK2 _ ?_
        clear hK2 K2
        simp only [putd, upd_lst]
        repeat (refine sxd_next fun K2 hK2 => ?_; simp [dRows, hc, hn']; (repeat (refine ⟨by omega, ?_⟩)); refine hK2 _ ?_; clear hK2 K2)
        refine sxd_nil (hK' _ ?_)
        refine AW.st (by simp [dRows, hc, hn']; rfl) ?_
        clear hK' K'
        by_cases he : l[n] = l'[n]
        · refine AW_cond false (by simp [he]) (fun h => by cases h) (fun _ => ?_)
          refine AW_skip (hK4 _ ?_)
          refine AW_re (tyOf_good _) fun K' hK' => ?_
          repeat (refine sxf_next fun K2 hK2 => ?_; simp; (repeat (refine ⟨by omega, ?_⟩)); refine hK2 _ ?_; clear hK2 K2)
          refine sxf_nil (hK' _ ?_)
          clear hK' K'
          try simp only [thn, inb]
          refine Again.mk (n + 1) ⟨by omega, ?_⟩ (by omega) ?_
          · rw [List.take_succ_eq_append_getElem hc, List.take_succ_eq_append_getElem hn', ht, he]
          refine Imp.to' (fun _ _ => trivial) (by simp [dRows]) (by simp [dRows])
        · refine AW_cond true (by simp [he]) (fun _ => ?_) (fun h => by cases h)
          refine AW_rg (tyOf_good _) [4] [] (fun _ _ => trivial) fun K' hK' => ?_
          repeat (refine sxf_next fun K2 hK2 => ?_; simp; (repeat (refine ⟨by omega, ?_⟩)); refine hK2 _ ?_; clear hK2 K2)
          refine sxf_nil (hK' _ ?_)
          refine AW.st (by simp; rfl) ?_
          clear hK' K'
          refine AW_ret ?_
          simp [D.le, D.le.go, takeMap]
          intro e; subst e; exact he rfl
      · refine AW_exit (hK2 _ ?_)
        refine AW_rg (tyOf_good _) [4] [] (fun _ _ => trivial) fun K' hK' => ?_
        repeat (refine sxf_next fun K2 hK2 => ?_; simp; (repeat (refine ⟨by omega, ?_⟩)); refine hK2 _ ?_; clear hK2 K2)
        refine sxf_nil (hK' _ ?_)
        refine AW.st (by simp; rfl) ?_
        clear hK' K'
        refine AW_ret ?_
        simp [D.le, D.le.go, takeMap]
        have hnn : n = l.length := by omega
        subst hnn
        rw [List.take_length] at ht
        rw [ht]; exact (List.take_of_length_le (by omega))

theorem at_spec (G : Glob) (hG : HasErr G) (e e' : Option (Int × Option Nat)) : PureC Tryd.prog G 19 [dErr e, dFault e'] (.v (.bool (decide (codeF e = codeF e') && decide (placeF e = placeF e')))) := by
  have hp := place_spec G hG e
  refine PureC.of_body (tyOf_good _) Tryd.func19 rfl rfl (rs := [.tmp 4]) Tryd.results19 (by simp [Tryd.ntmps19]) fun X => ?_
  simp only [Tryd.ntmps19, List.map]
  refine AW_rg (tyOf_good _) [0, 3] [3] (fun _ _ => trivial) fun K' hK' => ?_
  repeat (refine sxf_next fun K2 hK2 => ?_; simp [dFault]; (repeat (refine ⟨by omega, ?_⟩)); refine hK2 _ ?_; clear hK2 K2)
  refine sxf_nil (hK' _ ?_)
  refine AW.st (by simp [dFault]; rfl) ?_
  clear hK' K'
  refine AW_rg (tyOf_good _) [3, 5, 6] [3] (fun _ _ => trivial) fun K' hK' => ?_
  repeat (refine sxf_next fun K2 hK2 => ?_; simp; (repeat (refine ⟨by omega, ?_⟩)); refine hK2 _ ?_; clear hK2 K2)
  refine sxf_next fun K2 hK2 => ?_
  simp
  refine callK.data (hp) (by simp; rfl) (by first | exact D.leGo_refl _ | simp [takeMap, List.map_map, Function.comp_def, D.le, D.le.go, D.le_refl, D.leGo_refl]) ?_
  refine hK2 _ ?_
  clear hK2 K2
  simp only [putd, upd_lst]
  repeat (refine sxf_next fun K2 hK2 => ?_; simp; (repeat (refine ⟨by omega, ?_⟩)); refine hK2 _ ?_; clear hK2 K2)
  refine sxf_nil (hK' _ ?_)
  refine AW.st (by simp; rfl) ?_
  clear hK' K'
  by_cases h1 : codeF e = codeF e'
  · refine AW_rg (tyOf_good _) [4] [3] (fun _ _ => trivial) fun K' hK' => ?_
    repeat (refine sxf_next fun K2 hK2 => ?_; simp [dNum, h1]; (repeat (refine ⟨by omega, ?_⟩)); refine hK2 _ ?_; clear hK2 K2)
    refine sxf_nil (hK' _ ?_)
    refine AW.st (by simp [dNum, h1]; rfl) ?_
    clear hK' K'
    refine AW_ret ?_
    simp [D.le, D.le.go, takeMap, h1]
    try exact fun _ => h1
  · refine AW_rg (tyOf_good _) [4] [3] (fun _ _ => trivial) fun K' hK' => ?_
    repeat (refine sxf_next fun K2 hK2 => ?_; simp [dNum, h1]; (repeat (refine ⟨by omega, ?_⟩)); refine hK2 _ ?_; clear hK2 K2)
    refine sxf_nil (hK' _ ?_)
    refine AW.st (by simp [dNum, h1]; rfl) ?_
    clear hK' K'
    refine AW_ret ?_
    simp [D.le, D.le.go, takeMap, h1]
    try exact fun h => absurd h h1
theorem at_same (G : Glob) (hG : HasErr G) (e : Option (Int × Option Nat)) : PureC Tryd.prog G 19 [dErr e, dFault e] (.v (.bool true)) := by
  have := at_spec G hG e e
  simpa using this
/-- An error without a place. -/
def errOf (c : Int) : Option (Int × Option Nat) := if c = 0 then none else some (c, none)
theorem errOf_code (c : Int) : codeF (errOf c) = c := by unfold errOf; split <;> simp_all [codeF]
theorem errOf_place (c : Int) : placeF (errOf c) = -1 := by unfold errOf; split <;> simp [placeF]
theorem bare_spec (G : Glob) (hG : HasErr G) (c : Int) : PureC Tryd.prog G 28 [dErr (errOf c), dNum c] (.v (.bool true)) := by
  have h := at_same G hG (errOf c)
  rw [show dFault (errOf c) = .agg [dNum c, dNum (-1)] by rw [dFault, errOf_code, errOf_place]] at h
  refine PureC.of_body (tyOf_good _) Tryd.func28 rfl rfl (rs := [.tmp 4]) Tryd.results28 (by simp [Tryd.ntmps28]) fun X => ?_
  simp only [Tryd.ntmps28, List.map]
  refine AW_rg (tyOf_good _) [0, 1] [] (fun _ _ => trivial) fun K' hK' => ?_
  repeat (refine sxf_next fun K2 hK2 => ?_; simp; (repeat (refine ⟨by omega, ?_⟩)); refine hK2 _ ?_; clear hK2 K2)
  refine sxf_nil (hK' _ ?_)
  refine AW.st (by simp; rfl) ?_
  clear hK' K'
  refine AW_rg (tyOf_good _) [4] [] (fun _ _ => trivial) fun K' hK' => ?_
  repeat (refine sxf_next fun K2 hK2 => ?_; simp [dNum]; (repeat (refine ⟨by omega, ?_⟩)); refine hK2 _ ?_; clear hK2 K2)
  refine sxf_next fun K2 hK2 => ?_
  simp [dNum]
  refine callK.data (bare0_spec G c) (by simp; rfl) (by first | exact D.leGo_refl _ | simp [takeMap, List.map_map, Function.comp_def, D.le, D.le.go, D.le_refl, D.leGo_refl, dNum]) ?_
  refine hK2 _ ?_
  clear hK2 K2
  simp only [putd, upd_lst]
  repeat (refine sxf_next fun K2 hK2 => ?_; simp [dNum]; (repeat (refine ⟨by omega, ?_⟩)); refine hK2 _ ?_; clear hK2 K2)
  refine sxf_next fun K2 hK2 => ?_
  simp [dNum]
  refine callK.data (h) (by simp; rfl) (by first | exact D.leGo_refl _ | simp [takeMap, List.map_map, Function.comp_def, D.le, D.le.go, D.le_refl, D.leGo_refl, dNum]) ?_
  refine hK2 _ ?_
  clear hK2 K2
  simp only [putd, upd_lst]
  repeat (refine sxf_next fun K2 hK2 => ?_; simp [dNum]; (repeat (refine ⟨by omega, ?_⟩)); refine hK2 _ ?_; clear hK2 K2)
  refine sxf_nil (hK' _ ?_)
  refine AW.st (by simp [dNum]; rfl) ?_
  clear hK' K'
  refine AW_ret ?_
  simp [D.le, D.le.go, takeMap]

#print axioms bare_spec
end Go.Proofs.YtoikggboakojlaaDoor

/-
  Clauses: which may be; values that are set, and set back.
-/
namespace Go.Proofs.YtoikggboakojlaaDoor
set_option linter.unusedSimpArgs false
set_option linter.unusedVariables false
open Go.Av

def badL (V x : Int) : Bool := decide (x = 0) || (decide (V < x) || decide (x < -V))
def gbad (V : Int) : Cl → Nat → Option (Int × Option Nat)
  | [], _ => none
  | c :: cs, i => if c.any (badL V) then some (2, some i) else gbad V cs (i + 1)
/-- What is wrong with clauses. -/
def gateE (V : Int) (cs : Cl) : Option (Int × Option Nat) := if V < 0 ∨ 1000 < V ∨ 3000 < cs.length then some (4, none) else gbad V cs 0
def dCl (V : Int) (cs : Cl) : D := .agg [dNum V, dRows cs]

theorem gcheck1_spec (G : Glob) (V x : Int) (cs : D) (h0 : 0 ≤ V) (h1 : V ≤ 1000) : PureC Tryd.prog G 70 [dNum x, .ip [dNum V, cs]] (.v (.bool (badL V x))) := by
  unfold badL
  by_cases hx : x = 0
  · refine PureC.of_body (tyOf_good _) Tryd.func70 rfl rfl (rs := [.tmp 3]) Tryd.results70 (by simp [Tryd.ntmps70]) fun X => ?_
    simp only [Tryd.ntmps70, List.map]
    refine AW_rg (tyOf_good _) [0, 1] [] (fun _ _ => trivial) fun K' hK' => ?_
    repeat (refine sxf_next fun K2 hK2 => ?_; simp [dNum]; (repeat (refine ⟨by omega, ?_⟩)); refine hK2 _ ?_; clear hK2 K2)
    refine sxf_nil (hK' _ ?_)
    refine AW.st (by simp [dNum]; rfl) ?_
    clear hK' K'
    refine AW_rg (tyOf_good _) [3] [] (fun _ _ => trivial) fun K' hK' => ?_
    repeat (refine sxf_next fun K2 hK2 => ?_; simp [dNum, hx]; (repeat (refine ⟨by omega, ?_⟩)); refine hK2 _ ?_; clear hK2 K2)
    refine sxf_nil (hK' _ ?_)
    refine AW.st (by simp [dNum, hx]; rfl) ?_
    clear hK' K'
    refine AW_ret ?_
    simp [D.le, D.le.go, takeMap, dNum, hx]
  · by_cases h2 : V < x
    · refine PureC.of_body (tyOf_good _) Tryd.func70 rfl rfl (rs := [.tmp 3]) Tryd.results70 (by simp [Tryd.ntmps70]) fun X => ?_
      simp only [Tryd.ntmps70, List.map]
      refine AW_rg (tyOf_good _) [0, 1] [] (fun _ _ => trivial) fun K' hK' => ?_
      repeat (refine sxf_next fun K2 hK2 => ?_; simp [dNum]; (repeat (refine ⟨by omega, ?_⟩)); refine hK2 _ ?_; clear hK2 K2)
      refine sxf_nil (hK' _ ?_)
      refine AW.st (by simp [dNum]; rfl) ?_
      clear hK' K'
      refine AW_rg (tyOf_good _) [3] [] (fun _ _ => trivial) fun K' hK' => ?_
      repeat (refine sxf_next fun K2 hK2 => ?_; simp [dNum, hx, h2]; (repeat (refine ⟨by omega, ?_⟩)); refine hK2 _ ?_; clear hK2 K2)
      refine sxf_nil (hK' _ ?_)
      refine AW.st (by simp [dNum, hx, h2]; rfl) ?_
      clear hK' K'
      refine AW_ret ?_
      simp [D.le, D.le.go, takeMap, dNum, hx, h2]
    · by_cases h3 : x < -V
      · refine PureC.of_body (tyOf_good _) Tryd.func70 rfl rfl (rs := [.tmp 3]) Tryd.results70 (by simp [Tryd.ntmps70]) fun X => ?_
        simp only [Tryd.ntmps70, List.map]
        refine AW_rg (tyOf_good _) [0, 1] [] (fun _ _ => trivial) fun K' hK' => ?_
        repeat (refine sxf_next fun K2 hK2 => ?_; simp [dNum]; (repeat (refine ⟨by omega, ?_⟩)); refine hK2 _ ?_; clear hK2 K2)
        refine sxf_nil (hK' _ ?_)
        refine AW.st (by simp [dNum]; rfl) ?_
        clear hK' K'
        refine AW_rg (tyOf_good _) [3] [] (fun _ _ => trivial) fun K' hK' => ?_
        repeat (refine sxf_next fun K2 hK2 => ?_; simp [dNum, hx, h2, h3]; (repeat (refine ⟨by omega, ?_⟩)); refine hK2 _ ?_; clear hK2 K2)
        refine sxf_nil (hK' _ ?_)
        refine AW.st (by simp [dNum, hx, h2, h3]; rfl) ?_
        clear hK' K'
        refine AW_ret ?_
        simp [D.le, D.le.go, takeMap, dNum, hx, h2, h3]
      · refine PureC.of_body (tyOf_good _) Tryd.func70 rfl rfl (rs := [.tmp 3]) Tryd.results70 (by simp [Tryd.ntmps70]) fun X => ?_
        simp only [Tryd.ntmps70, List.map]
        refine AW_rg (tyOf_good _) [0, 1] [] (fun _ _ => trivial) fun K' hK' => ?_
        repeat (refine sxf_next fun K2 hK2 => ?_; simp [dNum]; (repeat (refine ⟨by omega, ?_⟩)); refine hK2 _ ?_; clear hK2 K2)
        refine sxf_nil (hK' _ ?_)
        refine AW.st (by simp [dNum]; rfl) ?_
        clear hK' K'
        refine AW_rg (tyOf_good _) [3] [] (fun _ _ => trivial) fun K' hK' => ?_
        repeat (refine sxf_next fun K2 hK2 => ?_; simp [dNum, hx, h2, h3]; (repeat (refine ⟨by omega, ?_⟩)); refine hK2 _ ?_; clear hK2 K2)
        refine sxf_nil (hK' _ ?_)
        refine AW.st (by simp [dNum, hx, h2, h3]; rfl) ?_
        clear hK' K'
        refine AW_ret ?_
        simp [D.le, D.le.go, takeMap, dNum, hx, h2, h3]

set_option maxHeartbeats 4000000 in
theorem gcheck_spec (G : Glob) (V : Int) (cs : Cl) (hl : cs.length < 2^60) (hr : ∀ c ∈ cs, c.length < 2^60) : PureC Tryd.prog G 31 [dCl V cs] (dErr (gateE V cs)) := by
  by_cases h1 : V < 0
  · rw [show gateE V cs = some (4, none) by unfold gateE; rw [if_pos (.inl h1)]]
    refine PureC.of_body (tyOf_good _) Tryd.func31 rfl rfl (rs := [.tmp 2]) Tryd.results31 (by simp [Tryd.ntmps31]) fun X => ?_
    simp only [Tryd.ntmps31, List.map]
    refine AW_rg (tyOf_good _) [1] [1] (fun _ _ => trivial) fun K' hK' => ?_
    repeat (refine sxf_next fun K2 hK2 => ?_; simp [dNum, dCl]; (repeat (refine ⟨by omega, ?_⟩)); refine hK2 _ ?_; clear hK2 K2)
    refine sxf_nil (hK' _ ?_)
    refine AW.st (by simp [dNum, dCl]; rfl) ?_
    clear hK' K'
    refine AW_then fun K1 hK1 => ?_
    refine AW_rg (tyOf_good _) [1, 18] [1] (fun _ _ => trivial) fun K' hK' => ?_
    repeat (refine sxf_next fun K2 hK2 => ?_; simp [dNum, h1]; (repeat (refine ⟨by omega, ?_⟩)); refine hK2 _ ?_; clear hK2 K2)
    refine sxf_nil (hK' _ ?_)
    refine AW.st (by simp [dNum, h1]; rfl) ?_
    clear hK' K'
    refine AW_cond true rfl (fun _ => ?_) (fun h => by cases h)
    refine AW_rg (tyOf_good _) [2] [] (fun _ _ => trivial) fun K' hK' => ?_
    repeat (refine sxf_next fun K2 hK2 => ?_; simp [dNum]; (repeat (refine ⟨by omega, ?_⟩)); refine hK2 _ ?_; clear hK2 K2)
    refine sxf_nil (hK' _ ?_)
    refine AW.st (by simp [dNum]; rfl) ?_
    clear hK' K'
    refine AW_ret ?_
    simp [D.le, D.le.go, takeMap, dNum, dErr]
  by_cases h2 : 1000 < V
  · rw [show gateE V cs = some (4, none) by unfold gateE; rw [if_pos (.inr (.inl h2))]]
    refine PureC.of_body (tyOf_good _) Tryd.func31 rfl rfl (rs := [.tmp 2]) Tryd.results31 (by simp [Tryd.ntmps31]) fun X => ?_
    simp only [Tryd.ntmps31, List.map]
    refine AW_rg (tyOf_good _) [1] [1] (fun _ _ => trivial) fun K' hK' => ?_
    repeat (refine sxf_next fun K2 hK2 => ?_; simp [dNum, dCl]; (repeat (refine ⟨by omega, ?_⟩)); refine hK2 _ ?_; clear hK2 K2)
    refine sxf_nil (hK' _ ?_)
    refine AW.st (by simp [dNum, dCl]; rfl) ?_
    clear hK' K'
    refine AW_then fun K1 hK1 => ?_
    refine AW_rg (tyOf_good _) [1, 18] [1] (fun _ _ => trivial) fun K' hK' => ?_
    repeat (refine sxf_next fun K2 hK2 => ?_; simp [dNum, h1, h2]; (repeat (refine ⟨by omega, ?_⟩)); refine hK2 _ ?_; clear hK2 K2)
    refine sxf_nil (hK' _ ?_)
    refine AW.st (by simp [dNum, h1, h2]; rfl) ?_
    clear hK' K'
    refine AW_cond true rfl (fun _ => ?_) (fun h => by cases h)
    refine AW_rg (tyOf_good _) [2] [] (fun _ _ => trivial) fun K' hK' => ?_
    repeat (refine sxf_next fun K2 hK2 => ?_; simp [dNum]; (repeat (refine ⟨by omega, ?_⟩)); refine hK2 _ ?_; clear hK2 K2)
    refine sxf_nil (hK' _ ?_)
    refine AW.st (by simp [dNum]; rfl) ?_
    clear hK' K'
    refine AW_ret ?_
    simp [D.le, D.le.go, takeMap, dNum, dErr]
  by_cases h3 : (3000 : Int) < cs.length
  · rw [show gateE V cs = some (4, none) by unfold gateE; rw [if_pos (.inr (.inr (by omega)))]]
    refine PureC.of_body (tyOf_good _) Tryd.func31 rfl rfl (rs := [.tmp 2]) Tryd.results31 (by simp [Tryd.ntmps31]) fun X => ?_
    simp only [Tryd.ntmps31, List.map]
    refine AW_rg (tyOf_good _) [1] [1] (fun _ _ => trivial) fun K' hK' => ?_
    repeat (refine sxf_next fun K2 hK2 => ?_; simp [dNum, dCl]; (repeat (refine ⟨by omega, ?_⟩)); refine hK2 _ ?_; clear hK2 K2)
    refine sxf_nil (hK' _ ?_)
    refine AW.st (by simp [dNum, dCl]; rfl) ?_
    clear hK' K'
    refine AW_then fun K1 hK1 => ?_
    refine AW_rg (tyOf_good _) [1, 18] [1] (fun _ _ => trivial) fun K' hK' => ?_
    repeat (refine sxf_next fun K2 hK2 => ?_; simp [dNum, h1, h2, dRows, h3]; (repeat (refine ⟨by omega, ?_⟩)); refine hK2 _ ?_; clear hK2 K2)
    refine sxf_nil (hK' _ ?_)
    refine AW.st (by simp [dNum, h1, h2, dRows, h3]; rfl) ?_
    clear hK' K'
    refine AW_cond true rfl (fun _ => ?_) (fun h => by cases h)
    refine AW_rg (tyOf_good _) [2] [] (fun _ _ => trivial) fun K' hK' => ?_
    repeat (refine sxf_next fun K2 hK2 => ?_; simp [dNum]; (repeat (refine ⟨by omega, ?_⟩)); refine hK2 _ ?_; clear hK2 K2)
    refine sxf_nil (hK' _ ?_)
    refine AW.st (by simp [dNum]; rfl) ?_
    clear hK' K'
    refine AW_ret ?_
    simp [D.le, D.le.go, takeMap, dNum, dErr]
  rw [show gateE V cs = gbad V cs 0 by unfold gateE; rw [if_neg (by omega)]]
  refine PureC.of_body (tyOf_good _) Tryd.func31 rfl rfl (rs := [.tmp 2]) Tryd.results31 (by simp [Tryd.ntmps31]) fun X => ?_
  simp only [Tryd.ntmps31, List.map]
  refine AW_rg (tyOf_good _) [1] [1] (fun _ _ => trivial) fun K' hK' => ?_
  repeat (refine sxf_next fun K2 hK2 => ?_; simp [dNum, dCl]; (repeat (refine ⟨by omega, ?_⟩)); refine hK2 _ ?_; clear hK2 K2)
  refine sxf_nil (hK' _ ?_)
  refine AW.st (by simp [dNum, dCl]; rfl) ?_
  clear hK' K'
  refine AW_then fun K1 hK1 => ?_
  refine AW_rg (tyOf_good _) [1, 18] [1] (fun _ _ => trivial) fun K' hK' => ?_
  repeat (refine sxf_next fun K2 hK2 => ?_; simp [dNum, h1, h2, dRows, h3]; (repeat (refine ⟨by omega, ?_⟩)); refine hK2 _ ?_; clear hK2 K2)
  refine sxf_nil (hK' _ ?_)
  refine AW.st (by simp [dNum, h1, h2, dRows, h3]; rfl) ?_
  clear hK' K'
  refine AW_cond false rfl (fun h => by cases h) (fun _ => ?_)
  refine AW_skip (hK1 _ ?_)
  refine AW.imp (Imp.freezeB 1 trivial) ?_
  refine AW.st (by simp [dNum]; rfl) ?_
  refine AW_then fun K2 hK2 => ?_
  refine AW_rg (tyOf_good _) [1, 21, 22, 23] [] (fun _ _ => trivial) fun K' hK' => ?_
  repeat (refine sxf_next fun K2 hK2 => ?_; simp [dNum, dRows]; (repeat (refine ⟨by omega, ?_⟩)); refine hK2 _ ?_; clear hK2 K2)
  refine sxf_nil (hK' _ ?_)
  refine AW.st (by simp [dNum, dRows]; rfl) ?_
  clear hK' K'
  refine AW_for (S := Nat) (fun i => i ≤ cs.length ∧ gbad V (cs.drop i) i = gbad V cs 0) (fun i => ⟨lst [(1, .d (.ip [dNum V, dRows cs])), (21, .d (dRows cs)), (22, int cs.length), (23, int i)], hlst []⟩) (fun i => cs.length - i) 0 ?_ (by simp) ?_
  · refine Imp.to' (fun _ _ => trivial) (by simp [dNum, dRows]) (by simp [dNum, dRows])
  · rintro i ⟨hi, hb⟩
    refine AW_rg (tyOf_good _) [1, 21, 22, 23, 24] [] (fun _ _ => trivial) fun K' hK' => ?_
    repeat (refine sxf_next fun K2 hK2 => ?_; simp [dNum]; (repeat (refine ⟨by omega, ?_⟩)); refine hK2 _ ?_; clear hK2 K2)
    refine sxf_nil (hK' _ ?_)
    refine AW.st (by simp [dNum]; rfl) ?_
    clear hK' K'
    refine AW_then fun K3 hK3 => ?_
    refine AW_cond' (b := i < cs.length) (by simp [D.le, D.le.go, takeMap, dNum]) (fun hc => ?_) (fun hc => ?_)
    · have hil : i < cs.length := hc
      have hrl := hr _ (List.getElem_mem hil)
      rw [List.drop_eq_getElem_cons hil, gbad] at hb
      have hany := containsInt_spec G none dNum cs[i] 70 [.ip [dNum V, dRows cs]] (badL V) (by omega) (fun x _ => gcheck1_spec G V x (dRows cs) (by omega) (by omega))
      refine AW_skip (hK3 _ ?_)
      refine AW_then fun K4 hK4 => ?_
      refine AW_block ?_
      refine AW_rg (tyOf_good _) [1, 3, 4, 21, 22, 23] [] (fun _ _ => trivial) fun K' hK' => ?_
      repeat (refine sxf_next fun K2 hK2 => ?_; simp [dNum, dRows, dRow, dInts, hil]; (repeat (refine ⟨by omega, ?_⟩)); refine hK2 _ ?_; clear hK2 K2)
      refine sxf_nil (hK' _ ?_)
      refine AW.st (by simp [dNum, dRows, dRow, dInts, hil]; rfl) ?_
      clear hK' K'
      cases ha : cs[i].any (badL V) with
      | true =>
        rw [ha] at hany
        rw [ha, if_pos rfl] at hb
        refine AW_rg (tyOf_good _) [1, 3, 21, 22, 23, 30] [] (fun _ _ => trivial) fun K' hK' => ?_
        repeat (refine sxf_next fun K2 hK2 => ?_; simp [dNum, dRows, dRow, dInts]; (repeat (refine ⟨by omega, ?_⟩)); refine hK2 _ ?_; clear hK2 K2)
        refine sxf_next fun K2 hK2 => ?_
        simp [dNum, dRows, dRow, dInts]
        refine callK.data (hany) (by simp; rfl) (by first | exact D.leGo_refl _ | simp [takeMap, List.map_map, Function.comp_def, D.le, D.le.go, D.le_refl, D.leGo_refl, dNum, dRows, dRow, dInts]) ?_
        refine hK2 _ ?_
        clear hK2 K2
        simp only [putd, upd_lst]
        repeat (refine sxf_next fun K2 hK2 => ?_; simp [dNum, dRows, dRow, dInts]; (repeat (refine ⟨by omega, ?_⟩)); refine hK2 _ ?_; clear hK2 K2)
        refine sxf_nil (hK' _ ?_)
        refine AW.st (by simp [dNum, dRows, dRow, dInts]; rfl) ?_
        clear hK' K'
        refine AW_cond true rfl (fun _ => ?_) (fun h => by cases h)
        refine AW_rg (tyOf_good _) [2] [33] (fun _ _ => trivial) fun K' hK' => ?_
        repeat (refine sxf_next fun K2 hK2 => ?_; simp [dNum]; (repeat (refine ⟨by omega, ?_⟩)); refine hK2 _ ?_; clear hK2 K2)
        refine sxf_nil (hK' _ ?_)
        refine AW.st (by simp [dNum]; rfl) ?_
        clear hK' K'
        rw [← hb]
        refine AW_ret ?_
        simp [D.le, D.le.go, takeMap, dNum, dErr]
      | false =>
        rw [ha] at hany
        rw [ha, if_neg (by decide)] at hb
        refine AW_rg (tyOf_good _) [1, 3, 21, 22, 23, 30] [] (fun _ _ => trivial) fun K' hK' => ?_
        repeat (refine sxf_next fun K2 hK2 => ?_; simp [dNum, dRows, dRow, dInts]; (repeat (refine ⟨by omega, ?_⟩)); refine hK2 _ ?_; clear hK2 K2)
        refine sxf_next fun K2 hK2 => ?_
        simp [dNum, dRows, dRow, dInts]
        refine callK.data (hany) (by simp; rfl) (by first | exact D.leGo_refl _ | simp [takeMap, List.map_map, Function.comp_def, D.le, D.le.go, D.le_refl, D.leGo_refl, dNum, dRows, dRow, dInts]) ?_
        refine hK2 _ ?_
        clear hK2 K2
        simp only [putd, upd_lst]
        repeat (refine sxf_next fun K2 hK2 => ?_; simp [dNum, dRows, dRow, dInts]; (repeat (refine ⟨by omega, ?_⟩)); refine hK2 _ ?_; clear hK2 K2)
        refine sxf_nil (hK' _ ?_)
        refine AW.st (by simp [dNum, dRows, dRow, dInts]; rfl) ?_
        clear hK' K'
        refine AW_cond false rfl (fun h => by cases h) (fun _ => ?_)
        refine AW_skip ?_
        refine hK4 _ (AW.norm [1, 21, 22, 23] [] (fun _ _ => trivial) (AW.st (by simp [dNum]; rfl) ?_))
        refine AW_re (tyOf_good _) fun K' hK' => ?_
        repeat (refine sxf_next fun K2 hK2 => ?_; simp [dNum]; (repeat (refine ⟨by omega, ?_⟩)); refine hK2 _ ?_; clear hK2 K2)
        refine sxf_nil (hK' _ ?_)
        clear hK' K'
        try simp only [thn, inb]
        refine Again.mk (i + 1) ⟨by omega, hb⟩ (by omega) ?_
        refine Imp.to' (fun _ _ => trivial) (by simp [dNum, dRows, dRow, dInts]) (by simp [dNum, dRows, dRow, dInts])
    · obtain rfl : i = cs.length := by omega
      rw [List.drop_length, gbad] at hb
      refine AW_exit (hK2 _ ?_)
      refine AW_rg (tyOf_good _) [2] [] (fun _ _ => trivial) fun K' hK' => ?_
      repeat (refine sxf_next fun K2 hK2 => ?_; simp [dNum]; (repeat (refine ⟨by omega, ?_⟩)); refine hK2 _ ?_; clear hK2 K2)
      refine sxf_nil (hK' _ ?_)
      refine AW.st (by simp [dNum]; rfl) ?_
      clear hK' K'
      rw [← hb]
      refine AW_ret ?_
      simp [D.le, D.le.go, takeMap, dNum, dErr]
#print axioms gcheck_spec

/-! ### Values -/
def ofL (V : Nat) (tr : List Int) : List (List D) := (List.range (V + 1)).map fun (v : Nat) => [dNum (isT tr (v : Int))]
def trL (tr : List Int) : List (List D) := tr.map fun x => [dNum x.natAbs]
def solR (V : Nat) (cs : Cl) (tr : List Int) (k : Nat) : List (Nat × Row) := [(22, .box 120 [.d (dNum V), .d (dRows cs), .own 20 0 (V + 1), .own 502 0 tr.length, .d (dNum k)]), (20, .sl 3 1 (ofL V tr)), (502, .sl 3 1 (trL tr))]
theorem ofL_len (V : Nat) (tr : List Int) : (ofL V tr).length = V + 1 := by simp [ofL]
theorem ofL_get {V v : Nat} (tr : List Int) (h : v < V + 1) : (ofL V tr)[v]? = some [dNum (isT tr v)] := by simp [ofL, h]
theorem ofL_at {V v : Nat} (tr : List Int) (h : v < (ofL V tr).length) : (ofL V tr)[v]'h = [dNum (isT tr (v : Int))] := by simp [ofL]
theorem isT_bd (tr : List Int) (x : Int) : -1 ≤ isT tr x ∧ isT tr x ≤ 1 := by
  unfold isT
  repeat' split
  all_goals decide
theorem isT_snoc {tr : List Int} {x y : Int} (h1 : x ≠ y) (h2 : x ≠ -y) : isT (tr ++ [x]) y = isT tr y := by
  unfold isT
  have e1 : y ∈ tr ++ [x] ↔ y ∈ tr := by simp [Ne.symm h1]
  have e2 : -y ∈ tr ++ [x] ↔ -y ∈ tr := by simp [Ne.symm h2]
  simp only [e1, e2]
theorem ofL_set {V v : Nat} {tr : List Int} {x s : Int} (hs : (x = v ∧ s = 1) ∨ (x = -v ∧ s = -1)) (hv : 1 ≤ v) (hx : isT tr x = 0) : (ofL V tr).set v [dNum s] = ofL V (tr ++ [x]) := by
  apply List.ext_getElem
  · simp [ofL]
  · intro j h1 h2
    rw [List.getElem_set]
    simp only [ofL, List.getElem_map, List.getElem_range]
    rw [isT_zero] at hx
    split
    · rename_i e
      subst e
      rcases hs with ⟨rfl, rfl⟩ | ⟨rfl, rfl⟩
      · rw [isT_one.2 (by simp)]
      · have : isT (tr ++ [-(v : Int)]) v = -1 := by
          unfold isT
          rw [if_neg (by simp at hx ⊢; exact ⟨hx.2, by omega⟩), if_pos (by simp)]
        rw [this]
    · rename_i e
      rw [isT_snoc (by omega) (by omega)]

theorem is_spec (G : Glob) (V : Nat) (hV : V < 2^20) (tr : List Int) (g : GoodT V tr) (cs tl k : D) (x : Int) (h0 : x ≠ 0) (h1 : x ≤ V) (h2 : -V ≤ x) :
    PureC Tryd.prog G 113 [.ip [dNum V, cs, .sl none (ofL V tr), tl, k], dNum x] (dNum (isT tr x)) := by
  have hlen := ofL_len V tr
  have hget := fun v h => ofL_get (V := V) (v := v) tr h
  generalize ofL V tr = O at hlen hget
  by_cases hx : x < 0
  · obtain ⟨v, rfl⟩ : ∃ v : Nat, x = -v := ⟨x.natAbs, by omega⟩
    have hv : v < V + 1 := by omega
    have hv1 : 0 < v := by omega
    have hvI : (v : Int) < (V : Int) + 1 := by omega
    have e := isT_neg g (v : Int)
    have hb := isT_bd tr (v : Int)
    have hgv : ∀ h : v < O.length, O[v]'h = [dNum (isT tr (v : Int))] := fun h => by have h' := hget v hv; rw [List.getElem?_eq_getElem h] at h'; exact Option.some.inj h'
    rw [e]
    generalize isT tr (v : Int) = s at hb hgv
    refine PureC.of_body (tyOf_good _) Tryd.func113 rfl rfl (rs := [.tmp 4]) Tryd.results113 (by simp [Tryd.ntmps113]) fun X => ?_
    simp only [Tryd.ntmps113, List.map]
    refine AW_rg (tyOf_good _) [0, 1] [] (fun _ _ => trivial) fun K' hK' => ?_
    repeat (refine sxf_next fun K2 hK2 => ?_; simp [dNum]; (repeat (refine ⟨by omega, ?_⟩)); refine hK2 _ ?_; clear hK2 K2)
    refine sxf_nil (hK' _ ?_)
    refine AW.st (by simp [dNum]; rfl) ?_
    clear hK' K'
    refine AW_then fun K1 hK1 => ?_
    refine AW_rg (tyOf_good _) [0, 1, 6] [] (fun _ _ => trivial) fun K' hK' => ?_
    repeat (refine sxf_next fun K2 hK2 => ?_; simp [dNum, hv1]; (repeat (refine ⟨by omega, ?_⟩)); refine hK2 _ ?_; clear hK2 K2)
    refine sxf_nil (hK' _ ?_)
    refine AW.st (by simp [dNum, hv1]; rfl) ?_
    clear hK' K'
    refine AW_cond true rfl (fun _ => ?_) (fun h => by cases h)
    refine AW_rg (tyOf_good _) [4] [] (fun _ _ => trivial) fun K' hK' => ?_
    repeat (refine sxf_next fun K2 hK2 => ?_; simp [dNum, hlen, hv, hvI, hgv]; (repeat (refine ⟨by omega, ?_⟩)); refine hK2 _ ?_; clear hK2 K2)
    refine sxf_nil (hK' _ ?_)
    refine AW.st (by simp [dNum, hlen, hv, hvI, hgv]; rfl) ?_
    clear hK' K'
    refine AW_ret ?_
    simp [D.le, D.le.go, takeMap, dNum]
  · obtain ⟨v, rfl⟩ : ∃ v : Nat, x = v := ⟨x.natAbs, by omega⟩
    have hv : v < V + 1 := by omega
    have hvI : (v : Int) < (V : Int) + 1 := by omega
    have hgv : ∀ h : v < O.length, O[v]'h = [dNum (isT tr (v : Int))] := fun h => by have h' := hget v hv; rw [List.getElem?_eq_getElem h] at h'; exact Option.some.inj h'
    generalize isT tr (v : Int) = s at hgv
    refine PureC.of_body (tyOf_good _) Tryd.func113 rfl rfl (rs := [.tmp 4]) Tryd.results113 (by simp [Tryd.ntmps113]) fun X => ?_
    simp only [Tryd.ntmps113, List.map]
    refine AW_rg (tyOf_good _) [0, 1] [] (fun _ _ => trivial) fun K' hK' => ?_
    repeat (refine sxf_next fun K2 hK2 => ?_; simp [dNum]; (repeat (refine ⟨by omega, ?_⟩)); refine hK2 _ ?_; clear hK2 K2)
    refine sxf_nil (hK' _ ?_)
    refine AW.st (by simp [dNum]; rfl) ?_
    clear hK' K'
    refine AW_then fun K1 hK1 => ?_
    refine AW_rg (tyOf_good _) [0, 1, 6] [] (fun _ _ => trivial) fun K' hK' => ?_
    repeat (refine sxf_next fun K2 hK2 => ?_; simp [dNum]; (repeat (refine ⟨by omega, ?_⟩)); refine hK2 _ ?_; clear hK2 K2)
    refine sxf_nil (hK' _ ?_)
    refine AW.st (by simp [dNum]; rfl) ?_
    clear hK' K'
    refine AW_cond false rfl (fun h => by cases h) (fun _ => ?_)
    refine AW_skip (hK1 _ ?_)
    refine AW_rg (tyOf_good _) [4] [] (fun _ _ => trivial) fun K' hK' => ?_
    repeat (refine sxf_next fun K2 hK2 => ?_; simp [dNum, hlen, hv, hvI, hgv]; (repeat (refine ⟨by omega, ?_⟩)); refine hK2 _ ?_; clear hK2 K2)
    refine sxf_nil (hK' _ ?_)
    refine AW.st (by simp [dNum, hlen, hv, hvI, hgv]; rfl) ?_
    clear hK' K'
    refine AW_ret ?_
    simp [D.le, D.le.go, takeMap, dNum]

set_option maxHeartbeats 4000000 in
theorem set_spec (G : Glob) (V : Nat) (hV : V < 2^20) (cs : Cl) (tr : List Int) (k : Nat) (htl : tr.length < 2^20) (x : Int) (h0 : x ≠ 0) (h1 : x ≤ V) (h2 : -V ≤ x) (hx : isT tr x = 0) :
    MC Tryd.prog G [22, 20] 96 [.ref 22 0 0, .d (dNum x)] (hlst (solR V cs tr k)) (.d (.tup [])) (hlst (solR V cs (tr ++ [x]) k)) := by
  have hlen := ofL_len V tr
  have htk : ∀ g : Int → List D, List.take tr.length (tr.map g) = tr.map g := fun g => List.take_of_length_le (by simp)
  by_cases hn : x < 0
  · obtain ⟨v, rfl⟩ : ∃ v : Nat, x = -v := ⟨x.natAbs, by omega⟩
    have hv : v < V + 1 := by omega
    have hv1 : 0 < v := by omega
    have hvI : (v : Int) < (V : Int) + 1 := by omega
    have hset := ofL_set (V := V) (v := v) (tr := tr) (.inr ⟨rfl, rfl⟩) hv1 hx
    have hmx : (if -(v : Int) < v then (v : Int) else -(v : Int)) = v := if_pos (by omega)
    refine MC.of_body (tyOf_good _) Tryd.func96 rfl rfl (rs := []) Tryd.results96 (by simp [Tryd.ntmps96]) rfl fun X => ?_
    simp only [Tryd.ntmps96]
    simp only [solR]
    refine AW_then fun K1 hK1 => ?_
    refine AW_rg (tyOf_good _) [0, 1, 5] [22, 20, 502] (notIn_ok rfl) fun K' hK' => ?_
    repeat (refine sxf_next fun K2 hK2 => ?_; simp [dNum, hv1]; (repeat (refine ⟨by omega, ?_⟩)); refine hK2 _ ?_; clear hK2 K2)
    refine sxf_nil (hK' _ ?_)
    refine AW.st (by simp [dNum, hv1]; rfl) ?_
    clear hK' K'
    refine AW_cond true rfl (fun _ => ?_) (fun h => by cases h)
    refine AW_re (tyOf_good _) fun K' hK' => ?_
    repeat (refine sxf_next fun K2 hK2 => ?_; simp [dNum, hlen, hv, hvI]; (repeat (refine ⟨by omega, ?_⟩)); refine hK2 _ ?_; clear hK2 K2)
    refine sxf_nil (hK' _ ?_)
    clear hK' K'
    refine hK1 _ (AW.norm [0, 1] [22, 20, 502] (notIn_ok rfl) (AW.st (by simp [dNum, hlen, hv, hvI]; rfl) ?_))
    refine AW_re (tyOf_good _) fun K' hK' => ?_
    repeat (refine sxf_next fun K2 hK2 => ?_; simp [dNum, hmx, trL]; (repeat (refine ⟨by omega, ?_⟩)); refine hK2 _ ?_; clear hK2 K2)
    refine sxf_nil (hK' _ ?_)
    clear hK' K'
    try simp only [thn, inb]
    simp [trL, htk, ← hset, dNum, ofL_at, D.le, D.le.go]
  · obtain ⟨v, rfl⟩ : ∃ v : Nat, x = v := ⟨x.natAbs, by omega⟩
    have hv : v < V + 1 := by omega
    have hv1 : 0 < v := by omega
    have hvI : (v : Int) < (V : Int) + 1 := by omega
    have hset := ofL_set (V := V) (v := v) (tr := tr) (.inl ⟨rfl, rfl⟩) hv1 hx
    have hmx : (if (v : Int) < -(v : Int) then -(v : Int) else (v : Int)) = v := if_neg (by omega)
    refine MC.of_body (tyOf_good _) Tryd.func96 rfl rfl (rs := []) Tryd.results96 (by simp [Tryd.ntmps96]) rfl fun X => ?_
    simp only [Tryd.ntmps96]
    simp only [solR]
    refine AW_then fun K1 hK1 => ?_
    refine AW_rg (tyOf_good _) [0, 1, 5] [22, 20, 502] (notIn_ok rfl) fun K' hK' => ?_
    repeat (refine sxf_next fun K2 hK2 => ?_; simp [dNum]; (repeat (refine ⟨by omega, ?_⟩)); refine hK2 _ ?_; clear hK2 K2)
    refine sxf_nil (hK' _ ?_)
    refine AW.st (by simp [dNum]; rfl) ?_
    clear hK' K'
    refine AW_cond false rfl (fun h => by cases h) (fun _ => ?_)
    refine AW_re (tyOf_good _) fun K' hK' => ?_
    repeat (refine sxf_next fun K2 hK2 => ?_; simp [dNum, hlen, hv, hvI]; (repeat (refine ⟨by omega, ?_⟩)); refine hK2 _ ?_; clear hK2 K2)
    refine sxf_nil (hK' _ ?_)
    clear hK' K'
    refine hK1 _ (AW.norm [0, 1] [22, 20, 502] (notIn_ok rfl) (AW.st (by simp [dNum, hlen, hv, hvI]; rfl) ?_))
    refine AW_re (tyOf_good _) fun K' hK' => ?_
    repeat (refine sxf_next fun K2 hK2 => ?_; simp [dNum, hmx, trL]; (repeat (refine ⟨by omega, ?_⟩)); refine hK2 _ ?_; clear hK2 K2)
    refine sxf_nil (hK' _ ?_)
    clear hK' K'
    try simp only [thn, inb]
    simp [trL, htk, ← hset, dNum, ofL_at, D.le, D.le.go]
#print axioms set_spec
end Go.Proofs.YtoikggboakojlaaDoor

/-
  Values that are set back; what follows is set.
-/
namespace Go.Proofs.YtoikggboakojlaaDoor
set_option linter.unusedSimpArgs false
set_option linter.unusedVariables false
open Go.Av

def bkL (V : Nat) (tr : List Int) (n m : Nat) : List (List D) := (List.range (V + 1)).map fun (v : Nat) => [dNum (if ((tr.drop n).take m).any (fun x => x.natAbs == v) then 0 else isT tr (v : Int))]
theorem bkL_len (V : Nat) (tr : List Int) (n m : Nat) : (bkL V tr n m).length = V + 1 := by simp [bkL]
theorem bkL_tail {V v : Nat} (tr : List Int) (n m : Nat) (h : v < (bkL V tr n m).length) : ((bkL V tr n m)[v]'h).tail = [] := by simp [bkL]
theorem bk_zero (V : Nat) (tr : List Int) (n : Nat) : bkL V tr n 0 = ofL V tr := by simp [bkL, ofL]
theorem bk_step {V : Nat} {tr : List Int} {n m : Nat} (h : n + m < tr.length) : (bkL V tr n m).set tr[n + m].natAbs [dNum 0] = bkL V tr n (m + 1) := by
  have ht : (tr.drop n).take (m + 1) = (tr.drop n).take m ++ [tr[n + m]] := by
    rw [List.take_succ_eq_append_getElem (by rw [List.length_drop]; omega), List.getElem_drop]
  apply List.ext_getElem
  · simp [bkL]
  · intro j h1 h2
    rw [List.getElem_set]
    simp only [bkL, List.getElem_map, List.getElem_range, ht, List.any_append]
    split
    · rename_i e; simp [e]
    · rename_i e
      have : ([tr[n + m]].any fun x => x.natAbs == j) = false := by simp [e]
      rw [this, Bool.or_false]
theorem bk_all {V : Nat} {tr : List Int} (g : GoodT V tr) (n : Nat) : bkL V tr n (tr.length - n) = ofL V (tr.take n) := by
  unfold bkL ofL
  refine List.map_congr_left fun v _ => ?_
  have hd : (tr.drop n).take (tr.length - n) = tr.drop n := List.take_of_length_le (by simp)
  rw [hd]
  have hsp : ∀ y, y ∈ tr ↔ y ∈ tr.take n ∨ y ∈ tr.drop n := fun y => by rw [← List.mem_append, List.take_append_drop]
  have hnd : ∀ y ∈ tr.take n, ∀ z ∈ tr.drop n, y ≠ z := by
    have := g.nodup
    rw [← List.take_append_drop n tr] at this
    exact (List.nodup_append.1 this).2.2
  by_cases ha : ((tr.drop n).any fun x => x.natAbs == v) = true
  · rw [if_pos ha]
    obtain ⟨x, hx, hxv⟩ := List.any_eq_true.1 ha
    have hxv : x.natAbs = v := by simpa using hxv
    have hxt := (hsp x).2 (.inr hx)
    have : isT (tr.take n) (v : Int) = 0 := by
      rw [isT_zero]
      refine ⟨fun h => ?_, fun h => ?_⟩
      · by_cases e : x = v
        · exact hnd _ h x hx e.symm
        · have e2 : -x = (v : Int) := by omega
          exact g.one x hxt (by rw [e2]; exact (hsp _).2 (.inl h))
      · by_cases e : x = v
        · exact g.one x hxt (by rw [e]; exact (hsp _).2 (.inl h))
        · have e2 : x = -(v : Int) := by omega
          exact hnd _ h x hx e2.symm
    rw [this]
  · rw [if_neg ha]
    have hno : ∀ y ∈ tr.drop n, y.natAbs ≠ v := fun y hy e => ha (List.any_eq_true.2 ⟨y, hy, by simp [e]⟩)
    have e1 : (v : Int) ∈ tr ↔ (v : Int) ∈ tr.take n := by
      rw [hsp]
      exact ⟨fun h => h.elim id fun h => absurd (by simp) (hno _ h), .inl⟩
    have e2 : -(v : Int) ∈ tr ↔ -(v : Int) ∈ tr.take n := by
      rw [hsp]
      exact ⟨fun h => h.elim id fun h => absurd (by simp) (hno _ h), .inl⟩
    unfold isT
    simp only [e1, e2]
theorem GoodT.take {V : Nat} {tr : List Int} (g : GoodT V tr) (n : Nat) : GoodT V (tr.take n) := ⟨fun x hx => g.pos x (List.mem_of_mem_take hx), fun x hx h => g.one x (List.mem_of_mem_take hx) (List.mem_of_mem_take h), List.Pairwise.sublist (List.take_sublist _ _) g.nodup⟩

set_option maxHeartbeats 4000000 in
theorem back_spec (G : Glob) (V : Nat) (hV : V < 2^20) (cs : Cl) (tr : List Int) (g : GoodT V tr) (k : Nat) (htl : tr.length < 2^20) (n : Nat) (hn : n ≤ tr.length) :
    MC Tryd.prog G [22, 20] 94 [.ref 22 0 0, .d (dNum n)] (hlst (solR V cs tr k)) (.d (.tup [])) (hlst (solR V cs (tr.take n) k)) := by
  have hmin : min n tr.length = n := by omega
  by_cases hne : n = tr.length
  · subst hne
    have htk : tr.take tr.length = tr := List.take_length
    rw [htk]
    by_cases hz : tr.length = 0
    · refine MC.of_body (tyOf_good _) Tryd.func94 rfl rfl (rs := []) Tryd.results94 (by simp [Tryd.ntmps94]) rfl fun X => ?_
      simp only [Tryd.ntmps94]
      simp only [solR]
      refine AW_then fun K1 hK1 => ?_
      refine AW_rg (tyOf_good _) [0, 1, 11, 12, 13] [22, 20, 502] (notIn_ok rfl) fun K' hK' => ?_
      repeat (refine sxf_next fun K2 hK2 => ?_; simp [dNum, hz]; (repeat (refine ⟨by omega, ?_⟩)); refine hK2 _ ?_; clear hK2 K2)
      refine sxf_nil (hK' _ ?_)
      refine AW.st (by simp [dNum, hz]; rfl) ?_
      clear hK' K'
      refine AW_for (S := Unit) (fun _ => True) (fun _ => ⟨lst [(0, .ref 22 0 0), (1, int tr.length), (12, int 0), (13, int 0)], hlst (solR V cs tr k)⟩) (fun _ => 0) () ?_ trivial ?_
      · simp only [solR]
        refine Imp.to' (notIn_ok rfl) (by simp [dNum, hz]) (by simp [dNum, hz])
      · intro _ _
        simp only [solR]
        refine AW_rg (tyOf_good _) [0, 1, 12, 13, 14] [22, 20, 502] (notIn_ok rfl) fun K' hK' => ?_
        repeat (refine sxf_next fun K2 hK2 => ?_; simp [dNum]; (repeat (refine ⟨by omega, ?_⟩)); refine hK2 _ ?_; clear hK2 K2)
        refine sxf_nil (hK' _ ?_)
        refine AW.st (by simp [dNum]; rfl) ?_
        clear hK' K'
        refine AW_then fun K2 hK2 => ?_
        refine AW_cond false rfl (fun h => by cases h) (fun _ => ?_)
        refine AW_exit (hK1 _ ?_)
        refine AW_re (tyOf_good _) fun K' hK' => ?_
        repeat (refine sxf_next fun K2 hK2 => ?_; simp [dNum, hz]; (repeat (refine ⟨by omega, ?_⟩)); refine hK2 _ ?_; clear hK2 K2)
        refine sxf_nil (hK' _ ?_)
        clear hK' K'
        try simp only [thn, inb]
        simp [solR, dNum, hz, D.le, D.le.go]
    · refine MC.of_body (tyOf_good _) Tryd.func94 rfl rfl (rs := []) Tryd.results94 (by simp [Tryd.ntmps94]) rfl fun X => ?_
      simp only [Tryd.ntmps94]
      simp only [solR]
      refine AW_then fun K1 hK1 => ?_
      refine AW_rg (tyOf_good _) [0, 1, 11, 12, 13] [22, 20, 502] (notIn_ok rfl) fun K' hK' => ?_
      repeat (refine sxf_next fun K2 hK2 => ?_; simp [dNum, hz]; (repeat (refine ⟨by omega, ?_⟩)); refine hK2 _ ?_; clear hK2 K2)
      refine sxf_nil (hK' _ ?_)
      refine AW.st (by simp [dNum, hz]; rfl) ?_
      clear hK' K'
      refine AW_for (S := Unit) (fun _ => True) (fun _ => ⟨lst [(0, .ref 22 0 0), (1, int tr.length), (12, int 0), (13, int 0)], hlst (solR V cs tr k)⟩) (fun _ => 0) () ?_ trivial ?_
      · simp only [solR]
        refine Imp.to' (notIn_ok rfl) (by simp [dNum]) (by simp [dNum])
      · intro _ _
        simp only [solR]
        refine AW_rg (tyOf_good _) [0, 1, 12, 13, 14] [22, 20, 502] (notIn_ok rfl) fun K' hK' => ?_
        repeat (refine sxf_next fun K2 hK2 => ?_; simp [dNum]; (repeat (refine ⟨by omega, ?_⟩)); refine hK2 _ ?_; clear hK2 K2)
        refine sxf_nil (hK' _ ?_)
        refine AW.st (by simp [dNum]; rfl) ?_
        clear hK' K'
        refine AW_then fun K2 hK2 => ?_
        refine AW_cond false rfl (fun h => by cases h) (fun _ => ?_)
        refine AW_exit (hK1 _ ?_)
        refine AW_re (tyOf_good _) fun K' hK' => ?_
        repeat (refine sxf_next fun K2 hK2 => ?_; simp [dNum]; (repeat (refine ⟨by omega, ?_⟩)); refine hK2 _ ?_; clear hK2 K2)
        refine sxf_nil (hK' _ ?_)
        clear hK' K'
        try simp only [thn, inb]
        simp [solR, dNum, D.le, D.le.go]
  · have hlt : n < tr.length := by omega
    obtain ⟨d, hd⟩ : ∃ d, tr.length - n = d := ⟨_, rfl⟩
    have hba := bk_all g n
    rw [hd] at hba
    have hbz := bk_zero V tr n
    refine MC.of_body (tyOf_good _) Tryd.func94 rfl rfl (rs := []) Tryd.results94 (by simp [Tryd.ntmps94]) rfl fun X => ?_
    simp only [Tryd.ntmps94]
    simp only [solR]
    refine AW_then fun K1 hK1 => ?_
    refine AW_rg (tyOf_good _) [0, 1, 11, 12, 13] [22, 20, 502] (notIn_ok rfl) fun K' hK' => ?_
    repeat (refine sxf_next fun K2 hK2 => ?_; simp [dNum, hne, hn, hd]; (repeat (refine ⟨by omega, ?_⟩)); refine hK2 _ ?_; clear hK2 K2)
    refine sxf_nil (hK' _ ?_)
    refine AW.st (by simp [dNum, hne, hn, hd]; rfl) ?_
    clear hK' K'
    refine AW_for (S := Nat) (fun m => m ≤ d) (fun m => ⟨lst [(0, .ref 22 0 0), (1, int n), (11, .own 502 n d), (12, int d), (13, int m)], hlst [(22, .box 120 [.d (dNum V), .d (dRows cs), .own 20 0 (V + 1), .own 502 0 tr.length, .d (dNum k)]), (20, .sl 3 1 (bkL V tr n m)), (502, .sl 3 1 (trL tr))]⟩) (fun m => d - m) 0 ?_ (by omega) ?_
    · refine Imp.to' (notIn_ok rfl) (by simp [dNum, hbz]) (by simp [dNum, hbz])
    · intro m hm
      refine AW_rg (tyOf_good _) [0, 1, 11, 12, 13, 14] [22, 20, 502] (notIn_ok rfl) fun K' hK' => ?_
      repeat (refine sxf_next fun K2 hK2 => ?_; simp [dNum]; (repeat (refine ⟨by omega, ?_⟩)); refine hK2 _ ?_; clear hK2 K2)
      refine sxf_nil (hK' _ ?_)
      refine AW.st (by simp [dNum]; rfl) ?_
      clear hK' K'
      refine AW_then fun K2 hK2 => ?_
      refine AW_cond' (b := m < d) (by simp [D.le, D.le.go, takeMap, dNum]) (fun hc => ?_) (fun hc => ?_)
      · have hmd : m < d := hc
        have hnm : n + m < tr.length := by omega
        have hgt : ∀ h : n + m < (trL tr).length, (trL tr)[n + m]'h = [dNum (tr[n + m].natAbs)] := fun h => by simp [trL]
        have hp := g.pos _ (List.getElem_mem hnm)
        have hst := bk_step (V := V) hnm
        obtain ⟨v, hv⟩ : ∃ v, tr[n + m].natAbs = v := ⟨_, rfl⟩
        rw [hv] at hgt hst
        have hvV : v < V + 1 := by omega
        have hvI : (v : Int) < (V : Int) + 1 := by omega
        have hlen := bkL_len V tr n m
        have htl2 : (trL tr).length = tr.length := by simp [trL]
        refine AW_skip (hK2 _ ?_)
        refine AW_then fun K3 hK3 => ?_
        refine AW_block ?_
        refine AW_rg (tyOf_good _) [0, 1, 5, 11, 12, 13] [22, 20, 502] (notIn_ok rfl) fun K' hK' => ?_
        repeat (refine sxf_next fun K2 hK2 => ?_; simp [dNum, hmd, hgt, hnm, htl2]; (repeat (refine ⟨by omega, ?_⟩)); refine hK2 _ ?_; clear hK2 K2)
        refine sxf_nil (hK' _ ?_)
        refine AW.st (by simp [dNum, hmd, hgt, hnm, htl2]; rfl) ?_
        clear hK' K'
        refine AW_re (tyOf_good _) fun K' hK' => ?_
        repeat (refine sxf_next fun K2 hK2 => ?_; simp [dNum, hlen, hvV, hvI]; (repeat (refine ⟨by omega, ?_⟩)); refine hK2 _ ?_; clear hK2 K2)
        refine sxf_nil (hK' _ ?_)
        clear hK' K'
        refine hK3 _ (AW.norm [0, 1, 11, 12, 13] [22, 20, 502] (notIn_ok rfl) (AW.st (by simp [dNum, hlen, hvV, hvI]; rfl) ?_))
        refine AW_re (tyOf_good _) fun K' hK' => ?_
        repeat (refine sxf_next fun K2 hK2 => ?_; simp [dNum]; (repeat (refine ⟨by omega, ?_⟩)); refine hK2 _ ?_; clear hK2 K2)
        refine sxf_nil (hK' _ ?_)
        clear hK' K'
        try simp only [thn, inb]
        refine Again.mk (m + 1) (by omega) (by omega) ?_
        refine Imp.to' (notIn_ok rfl) (by simp [dNum, ← hst, bkL_tail]) (by simp [dNum, ← hst, bkL_tail])
      · obtain rfl : m = d := by omega
        refine AW_exit (hK1 _ ?_)
        rw [hba]
        refine AW.imp (Imp.trunc 502 n (by first | rfl | (simp [dNum]; rfl))) ?_
        refine AW.st (by simp [dNum]; rfl) ?_
        refine AW_re (tyOf_good _) fun K' hK' => ?_
        repeat (refine sxf_next fun K2 hK2 => ?_; simp [dNum, hn]; (repeat (refine ⟨by omega, ?_⟩)); refine hK2 _ ?_; clear hK2 K2)
        refine sxf_nil (hK' _ ?_)
        clear hK' K'
        try simp only [thn, inb]
        simp [solR, dNum, hmin, trL, List.map_take, D.le, D.le.go]
#print axioms back_spec
end Go.Proofs.YtoikggboakojlaaDoor
