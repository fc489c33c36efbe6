/-
  Texts that belong together, in one file: Sh8, IT, P8, B1, F7, P2, F10, B2, B4, B6, P10.
-/
import Derived.Test.YtnlhioeefmhklaaDoorRq15
import Derived.Test.YtnlhioeefmhklaaDoorProg
import Derived.Ground.NamesProg
import Derived.Shelf.Strconv.Itoa3
/-
  DERIVED: THE SHELF's CONTRACTS AT THIS DUMP, IN PLAIN WORDS (tools/lay-plain.mjs out of 'YtnlhioeefmhklaaDoorSh8s.lean', which tools/lay-shelf.mjs wrote): THE SAME DECLARATIONS UNDER THE SAME NAMES: 'import', 'namespace', 'open', 'def', 'theorem' AND NOTHING ELSE: no command of the shelf's: FOR A HAND-IN. Each laying: the table of numbers ('.._ren') and one theorem, a field a fact of the dump's own or the kernel's comparison; each contract: ONE APPLICATION.
-/
namespace Go.Proofs
open Go.Shelf
def Tryd.lays171_ren : Go.Shelf.Ren := ⟨fun | 171 => 26 | 243 => 37 | 246 => 41 | 283 => 47 | 284 => 48 | 285 => 49 | 286 => 50 | 129 => 56 | 317 => 55 | 318 => 57 | 319 => 58 | 320 => 59 | 337 => 61 | 338 => 62 | n => n, fun | 3 => 3 | 9 => 9 | 2 => 2 | 4 => 4 | 171 => 106 | 0 => 0 | 53 => 107 | 37 => 66 | 5 => 5 | 173 => 110 | 212 => 125 | 51 => 126 | 20 => 20 | 213 => 127 | 46 => 128 | 232 => 132 | 233 => 133 | n => n, fun | 17 => 2 | 18 => 4 | 19 => 5 | n => n⟩
theorem Tryd.lays171 : Go.Proofs.Lays.n171 Tryd.prog Tryd.lays171_ren := {
  mixed := by kernel_rfl
  f129 := Tryd.func56.trans (congrArg some (by kernel_rfl))
  f171 := Tryd.func26.trans (congrArg some (by kernel_rfl))
  f243 := Tryd.func37.trans (congrArg some (by kernel_rfl))
  f246 := Tryd.func41.trans (congrArg some (by kernel_rfl))
  f283 := Tryd.func47.trans (congrArg some (by kernel_rfl))
  f284 := Tryd.func48.trans (congrArg some (by kernel_rfl))
  f285 := Tryd.func49.trans (congrArg some (by kernel_rfl))
  f286 := Tryd.func50.trans (congrArg some (by kernel_rfl))
  f317 := Tryd.func55.trans (congrArg some (by kernel_rfl))
  f318 := Tryd.func57.trans (congrArg some (by kernel_rfl))
  f319 := Tryd.func58.trans (congrArg some (by kernel_rfl))
  f320 := Tryd.func59.trans (congrArg some (by kernel_rfl))
  f337 := Tryd.func61.trans (congrArg some (by kernel_rfl))
  f338 := Tryd.func62.trans (congrArg some (by kernel_rfl))
  t0 := Tryd.underlying0
  a0 := Tryd.isAgg0
  z0 := Tryd.sizeOf0
  v0 := Tryd.zeroValue0
  t2 := Tryd.underlying2
  a2 := Tryd.isAgg2
  z2 := Tryd.sizeOf2
  v2 := Tryd.zeroValue2
  t3 := Tryd.underlying3
  a3 := Tryd.isAgg3
  z3 := Tryd.sizeOf3
  v3 := Tryd.zeroValue3
  t4 := Tryd.underlying4
  a4 := Tryd.isAgg4
  z4 := Tryd.sizeOf4
  v4 := Tryd.zeroValue4
  t5 := Tryd.underlying5
  a5 := Tryd.isAgg5
  z5 := Tryd.sizeOf5
  v5 := Tryd.zeroValue5
  t9 := Tryd.underlying9
  a9 := Tryd.isAgg9
  z9 := Tryd.sizeOf9
  v9 := Tryd.zeroValue9
  t20 := Tryd.underlying20
  a20 := Tryd.isAgg20
  z20 := Tryd.sizeOf20
  v20 := Tryd.zeroValue20
  t37 := Tryd.underlying66
  a37 := Tryd.isAgg66
  z37 := Tryd.sizeOf66
  v37 := Tryd.zeroValue66
  t46 := Tryd.underlying128
  a46 := Tryd.isAgg128
  z46 := Tryd.sizeOf128
  v46 := Tryd.zeroValue128
  t51 := Tryd.underlying126
  a51 := Tryd.isAgg126
  z51 := Tryd.sizeOf126
  v51 := Tryd.zeroValue126
  t53 := Tryd.underlying107
  a53 := Tryd.isAgg107
  z53 := Tryd.sizeOf107
  v53 := Tryd.zeroValue107
  t171 := Tryd.underlying106
  a171 := Tryd.isAgg106
  z171 := Tryd.sizeOf106
  v171 := Tryd.zeroValue106
  t173 := Tryd.underlying110
  a173 := Tryd.isAgg110
  z173 := Tryd.sizeOf110
  v173 := Tryd.zeroValue110
  t212 := Tryd.underlying125
  a212 := Tryd.isAgg125
  z212 := Tryd.sizeOf125
  v212 := Tryd.zeroValue125
  t213 := Tryd.underlying127
  a213 := Tryd.isAgg127
  z213 := Tryd.sizeOf127
  t232 := Tryd.underlying132
  a232 := Tryd.isAgg132
  z232 := Tryd.sizeOf132
  v232 := Tryd.zeroValue132
  t233 := Tryd.underlying133
  a233 := Tryd.isAgg133
  z233 := Tryd.sizeOf133
  v233 := Tryd.zeroValue133
  g17 := by kernel_rfl
  g18 := by kernel_rfl
  g19 := by kernel_rfl }
end Go.Proofs

/-
  strconv.Itoa below 100.
-/
namespace Go.Proofs.YtnlhioeefmhklaaDoor
set_option linter.unusedSimpArgs false
set_option linter.unusedVariables false
open Go.Av Go.Shelf

theorem itoa_small (G : Glob) (i : Nat) (hi : i < 100) : PureC Tryd.prog G 26 [dNum i] (dS (Lib.decDigits i)) := by
  refine PureC.of_calls (Fun.of Tryd.func26 rfl rfl) fun X w vs hsz hrd hgl => ?_
  obtain ⟨u, rfl⟩ : ∃ u, vs = #[u] := by
    match vs, hsz with
    | ⟨[u]⟩, _ => exact ⟨u, rfl⟩
  have hu := (hrd 0 u _ rfl rfl).scalar
  subst hu
  have hL : Lays.n171 Tryd.prog Tryd.lays171_ren := { Tryd.lays171 with }
  refine (Any.strconv_Itoa_small hL i hi w).mono fun e w' ⟨he, hw⟩ => ⟨_, he, by rw [hw]; exact Grew.refl _, ?_⟩
  exact .v _
end Go.Proofs.YtnlhioeefmhklaaDoor

/-
  Plain facts of what is worked out until nothing changes.
-/
namespace Go.Proofs.YtnlhioeefmhklaaDoor
set_option linter.unusedSimpArgs false
set_option linter.unusedVariables false

/-- Below, where st is at the bottom. -/
def Le (st a b : Bool) : Prop := a = st ∨ a = b
theorem Le.refl (st a : Bool) : Le st a a := .inr rfl
theorem Le.trans {st a b c : Bool} (h : Le st a b) (h' : Le st b c) : Le st a c := by
  rcases h with h | rfl
  · exact .inl h
  · exact h'
theorem Le.ne {st a b : Bool} (h : Le st a b) (hne : a ≠ b) : a = st ∧ b ≠ st := by
  rcases h with rfl | h
  · exact ⟨rfl, fun e => hne e.symm⟩
  · exact absurd h hne

def MonoN (now : Nat → Bool → Bool) : Prop := ∀ i, now i false = true → now i true = true
theorem MonoN.le {now : Nat → Bool → Bool} (h : MonoN now) (st : Bool) {i : Nat} {a b : Bool} (hab : Le st a b) : Le st (now i a) (now i b) := by
  have hi := h i
  rcases hab with rfl | rfl
  · cases a <;> cases b <;> unfold Le <;> cases h1 : now i false <;> cases h2 : now i true <;> simp_all
  · exact .refl _ _

def iterN (now : Nat → Bool → Bool) (nx : Nat → Nat) (st : Bool) : Nat → Nat → Bool
  | 0, _ => st
  | k + 1, i => now i (iterN now nx st k (nx i))

theorem iterN_le {now : Nat → Bool → Bool} (h : MonoN now) (nx : Nat → Nat) (st : Bool) : ∀ k i, Le st (iterN now nx st k i) (iterN now nx st (k + 1) i)
  | 0, i => .inl rfl
  | k + 1, i => h.le st (iterN_le h nx st k (nx i))
def cntB (f : Nat → Bool) : Nat → Nat
  | 0 => 0
  | n + 1 => cntB f n + if f n then 1 else 0
theorem cntB_le (f : Nat → Bool) : ∀ n, cntB f n ≤ n
  | 0 => Nat.le_refl _
  | n + 1 => by
    have := cntB_le f n
    simp only [cntB]
    split <;> omega
theorem cntB_mono {f g : Nat → Bool} : ∀ n, (∀ i, i < n → f i = true → g i = true) → cntB f n ≤ cntB g n
  | 0, _ => Nat.le_refl _
  | n + 1, h => by
    have ih := cntB_mono n fun i hi => h i (by omega)
    have hn := h n (by omega)
    simp only [cntB]
    cases h1 : f n with
    | false => simp; omega
    | true => rw [hn h1]; simp; omega
theorem cntB_lt {f g : Nat → Bool} : ∀ n, (∀ i, i < n → f i = true → g i = true) → (∃ i, i < n ∧ f i = false ∧ g i = true) → cntB f n < cntB g n
  | 0, _, ⟨i, hi, _⟩ => by omega
  | n + 1, h, ⟨i, hi, h1, h2⟩ => by
    have hn := h n (by omega)
    simp only [cntB]
    by_cases hin : i = n
    · subst hin
      have := cntB_mono i fun j hj => h j (by omega)
      rw [h1, h2]
      simp; omega
    · have := cntB_lt n (fun j hj => h j (by omega)) ⟨i, by omega, h1, h2⟩
      cases h3 : f n with
      | false => simp; split <;> omega
      | true => rw [hn h3]; simp; omega

/-- How many are not at the bottom. -/
def up (st : Bool) (n : Nat) (f : Nat → Bool) : Nat := cntB (fun i => f i != st) n
theorem up_le (st : Bool) (n : Nat) (f : Nat → Bool) : up st n f ≤ n := cntB_le _ _
theorem up_lt {st : Bool} {n : Nat} {f g : Nat → Bool} (h : ∀ i, i < n → Le st (f i) (g i)) (hx : ∃ i, i < n ∧ f i ≠ g i) : up st n f < up st n g := cntB_lt n (fun i hi hf => by
  simp only [bne_iff_ne, ne_eq] at hf ⊢
  rcases h i hi with h | h
  · exact absurd h hf
  · rwa [← h]) (by
  obtain ⟨i, hi, hne⟩ := hx
  obtain ⟨h1, h2⟩ := (h i hi).ne hne
  exact ⟨i, hi, by simp [h1], by simpa using h2⟩)

theorem iterN_stop {now : Nat → Bool → Bool} (h : MonoN now) {nx : Nat → Nat} {st : Bool} {n : Nat} (hn : ∀ i, i < n → nx i < n) : ∃ k, k ≤ n ∧ ∀ i, i < n → iterN now nx st k i = iterN now nx st (k + 1) i := by
  apply Classical.byContradiction
  intro hno
  have key : ∀ k, k ≤ n + 1 → k ≤ up st n (iterN now nx st k) := by
    intro k
    induction k with
    | zero => intro _; omega
    | succ k ih =>
      intro hk
      have h1 := ih (by omega)
      have hx : ∃ i, i < n ∧ iterN now nx st k i ≠ iterN now nx st (k + 1) i := by
        apply Classical.byContradiction
        intro hall
        exact hno ⟨k, by omega, fun i hi => Classical.byContradiction fun hne => hall ⟨i, hi, hne⟩⟩
      have := up_lt (fun i _ => iterN_le h nx st k i) hx
      omega
  have h1 := key (n + 1) (Nat.le_refl _)
  have h2 := up_le st n (iterN now nx st (n + 1))
  omega
theorem iterN_stay {now : Nat → Bool → Bool} {nx : Nat → Nat} {st : Bool} {n k : Nat} (hn : ∀ i, i < n → nx i < n) (hk : ∀ i, i < n → iterN now nx st k i = iterN now nx st (k + 1) i) : ∀ d i, i < n → iterN now nx st (k + d) i = iterN now nx st k i
  | 0, i, _ => rfl
  | d + 1, i, hi => by
    have ih := iterN_stay hn hk d _ (hn i hi)
    rw [hk i hi, ← Nat.add_assoc]
    simp only [iterN]
    rw [ih]
/-- From n on, all stays. -/
theorem iterN_all {now : Nat → Bool → Bool} (h : MonoN now) {nx : Nat → Nat} {st : Bool} {n : Nat} (hn : ∀ i, i < n → nx i < n) {m : Nat} (hm : n ≤ m) {i : Nat} (hi : i < n) : iterN now nx st m i = iterN now nx st n i := by
  obtain ⟨k, hk, he⟩ := iterN_stop h (st := st) hn
  have h1 := iterN_stay hn he (m - k) i hi
  have h2 := iterN_stay hn he (n - k) i hi
  rw [show k + (m - k) = m by omega] at h1
  rw [show k + (n - k) = n by omega] at h2
  rw [h1, h2]
theorem iterN_fix {now : Nat → Bool → Bool} (h : MonoN now) {nx : Nat → Nat} {st : Bool} {n : Nat} (hn : ∀ i, i < n → nx i < n) {i : Nat} (hi : i < n) : iterN now nx st n i = now i (iterN now nx st n (nx i)) :=
  (iterN_all h hn (Nat.le_succ n) hi).symm
/-- One of them set. -/
def setB (f : Nat → Bool) (i : Nat) (x : Bool) : Nat → Bool := fun j => if j = i then x else f j
/-- What is kept all along. -/
structure Kept (now : Nat → Bool → Bool) (nx : Nat → Nat) (st : Bool) (n : Nat) (f : Nat → Bool) : Prop where
  le : ∀ i, i < n → Le st (f i) (iterN now nx st n i)
  grow : ∀ i, i < n → Le st (f i) (now i (f (nx i)))
theorem Kept.set {now : Nat → Bool → Bool} {nx : Nat → Nat} {st : Bool} {n : Nat} {f : Nat → Bool} (k : Kept now nx st n f) (h : MonoN now) (hn : ∀ i, i < n → nx i < n) {i : Nat} (hi : i < n) (hne : now i (f (nx i)) ≠ f i) :
    Kept now nx st n (setB f i (now i (f (nx i)))) ∧ up st n f < up st n (setB f i (now i (f (nx i)))) := by
  have hup : ∀ j, j < n → Le st (f j) (setB f i (now i (f (nx i))) j) := fun j hj => by
    unfold setB
    split
    · rename_i e; subst e; exact k.grow j hj
    · exact .refl _ _
  refine ⟨⟨fun j hj => ?_, fun j hj => ?_⟩, up_lt hup ⟨i, hi, by simp [setB, Ne.symm hne]⟩⟩
  · by_cases e : j = i
    · subst e
      rw [show setB f j (now j (f (nx j))) j = now j (f (nx j)) by simp [setB], iterN_fix h hn hj]
      exact h.le st (k.le _ (hn j hj))
    · rw [show setB f i (now i (f (nx i))) j = f j by simp [setB, e]]
      exact k.le j hj
  · have hb := h.le st (i := j) (hup (nx j) (hn j hj))
    by_cases e : j = i
    · subst e
      rw [show setB f j (now j (f (nx j))) j = now j (f (nx j)) by simp [setB]]
      exact hb
    · rw [show setB f i (now i (f (nx i))) j = f j by simp [setB, e]]
      exact (k.grow j hj).trans hb
end Go.Proofs.YtnlhioeefmhklaaDoor

/-
  Formulas: which may be.
-/
namespace Go.Proofs.YtnlhioeefmhklaaDoor
set_option linter.unusedSimpArgs false
set_option linter.unusedVariables false
open Go.Av

/-- A formula, as the program's pointers make it; nil: none. -/
inductive Fm where
  | nil
  | mk (kind : Int) (name : List UInt8) (of : List Fm)

def ofK {α : Type} (l : List α) : Option Bool := match l with
  | [] => some false
  | _ => none

mutual
def dF : Fm → D
  | .nil => .v (.pointer none)
  | .mk k s l => .ip [dNum k, dS s, .sl (ofK l) (dFs l)]
def dFs : List Fm → List (List D)
  | [] => []
  | f :: l => [dF f] :: dFs l
end

end Go.Proofs.YtnlhioeefmhklaaDoor

/-
  The rounds of blocks.
-/
namespace Go.Proofs.YtnlhioeefmhklaaDoor
set_option linter.unusedSimpArgs false
set_option linter.unusedVariables false
open Go.Av

def Tab.n (t : Tab) : Nat := t.next.length
end Go.Proofs.YtnlhioeefmhklaaDoor

/-
  Plain facts of tables: the rounds come to an end; which states are alike.
-/
namespace Go.Proofs.YtnlhioeefmhklaaDoor
set_option linter.unusedSimpArgs false
set_option linter.unusedVariables false

def nx (t : Tab) (s c : Nat) : Nat := ((t.next.getD s []).getD c 0).toNat
def te (t : Tab) (s c : Nat) : Int := (t.tells.getD s []).getD c 0
def wd (t : Tab) : Nat := (t.next.getD 0 []).length
end Go.Proofs.YtnlhioeefmhklaaDoor

/-
  The table of blocks.
-/
namespace Go.Proofs.YtnlhioeefmhklaaDoor
set_option linter.unusedSimpArgs false
set_option linter.unusedVariables false
open Go.Av

def pre (l row : List Int) (i : Nat) : List Int := (row.take i).map fun x => l.getD x.toNat 0
end Go.Proofs.YtnlhioeefmhklaaDoor

/-
  Formulas whose kinds, names or parts may not be: the statement's walk.
-/
namespace Go.Proofs.YtnlhioeefmhklaaDoor
set_option linter.unusedSimpArgs false
set_option linter.unusedVariables false
open Go.Av

def tr : Fm := .mk 2 [] []
end Go.Proofs.YtnlhioeefmhklaaDoor

/-
  Formulas made of steps: plain.At, plain.Formula.
-/
namespace Go.Proofs.YtnlhioeefmhklaaDoor
set_option linter.unusedSimpArgs false
set_option linter.unusedVariables false
open Go.Av

/-- A place in a list of so many. -/
def atF (n : Int) (many : Nat) : Nat := ((n % 18446744073709551616) % many).toNat
structure Stp where
  kind : Int
  a : Int
  b : Int
  name : List UInt8
/-- What a step makes of those ahead. -/
def stepF (all : List Fm) (x : Stp) : Fm :=
  if x.kind = 2 then .mk 2 [] []
  else if x.kind = 3 ∨ x.kind = 6 ∨ x.kind = 9 ∨ x.kind = 10 then .mk x.kind [] [all.getD (atF x.a all.length) .nil]
  else if x.kind = 4 ∨ x.kind = 5 ∨ x.kind = 7 ∨ x.kind = 8 then .mk x.kind [] [all.getD (atF x.a all.length) .nil, all.getD (atF x.b all.length) .nil]
  else .mk 1 x.name []
/-- It is one. -/
def IsMk (f : Fm) : Prop := ∃ k s l, f = .mk k s l
theorem IsMk.ip {f : Fm} (h : IsMk f) : ∃ c, dF f = .ip c := by
  obtain ⟨k, s, l, rfl⟩ := h
  exact ⟨_, rfl⟩
end Go.Proofs.YtnlhioeefmhklaaDoor

/-
  At which times of a word a formula holds: lasso.holds.
-/
namespace Go.Proofs.YtnlhioeefmhklaaDoor
set_option linter.unusedSimpArgs false
set_option linter.unusedVariables false
open Go.Av

abbrev Times := List (List (List UInt8))
end Go.Proofs.YtnlhioeefmhklaaDoor

/-
  Plain facts of what holds now, and at the next time.
-/
namespace Go.Proofs.YtnlhioeefmhklaaDoor
set_option linter.unusedSimpArgs false
set_option linter.unusedVariables false

section
variable (f g : Fm)
def notF : Fm := .mk 3 [] [f]
end

section
variable (a r : Times) (hr : 0 < r.length) (f g : Fm)
include hr
end
end Go.Proofs.YtnlhioeefmhklaaDoor
