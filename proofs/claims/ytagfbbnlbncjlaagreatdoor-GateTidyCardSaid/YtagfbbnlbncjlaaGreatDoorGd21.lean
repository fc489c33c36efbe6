/-
  Texts that belong together, in one file: P12, PG, PG2, PG3, PG4, S1, S2, S3, S4, S5, GA1, GA2, C2.
-/
import Derived.Test.YtagfbbnlbncjlaaGreatDoorGd20
set_option linter.unusedSimpArgs false
set_option linter.unusedVariables false
namespace Go.Proofs.YtagfbbnlbncjlaaGreatDoor
abbrev Cl := List (List Int)
structure GoodT (V : Nat) (tr : List Int) : Prop where
 pos : ∀ x ∈ tr, x ≠ 0 ∧ x ≤ V ∧ -V ≤ x
 one : ∀ x ∈ tr, -x ∉ tr
 nodup : tr.Nodup
def isT (tr : List Int) (x : Int) : Int := if x ∈ tr then 1 else if -x ∈ tr then -1 else 0
def stepC (tr : List Int) (s : Int × Nat × Bool) (x : Int) : Int × Nat × Bool :=
 if isT tr x = 1 then (s.1, s.2.1, true) else if isT tr x = 0 then (x, if x ≠ s.1 then s.2.1 + 1 else s.2.1, s.2.2) else s
def scanC (tr : List Int) (c : List Int) : Int × Nat × Bool := c.foldl (stepC tr) (0, 0, false)
def passF : Cl → List Int → Bool → Bool × List Int × Bool
 | [], tr, ag => (true, tr, ag)
 | c :: cs, tr, ag =>
  if (scanC tr c).2.2 = true ∨ 1 < (scanC tr c).2.1 then passF cs tr ag
  else if (scanC tr c).2.1 = 0 then (false, tr, ag)
  else passF cs (tr ++ [(scanC tr c).1]) true
def spreadF (cs : Cl) : Nat → List Int → Bool × List Int
 | 0, tr => (true, tr)
 | n + 1, tr => if (passF cs tr false).1 = false then (false, (passF cs tr false).2.1) else if (passF cs tr false).2.2 = true then spreadF cs n (passF cs tr false).2.1 else (true, (passF cs tr false).2.1)
def freeF (tr : List Int) : Nat → Nat → Nat
 | _, 0 => 0
 | v, n + 1 => if isT tr v = 0 then v else freeF tr (v + 1) n
def searchF (cs : Cl) (V : Nat) : Nat → List Int → Nat → Bool × List Int × Nat
 | 0, tr, k => (false, tr, k)
 | n + 1, tr, k =>
  if (spreadF cs (V + 1) tr).1 = false then (false, tr, k + 1)
  else if freeF (spreadF cs (V + 1) tr).2 1 V = 0 then (true, (spreadF cs (V + 1) tr).2, k + 1)
  else
   let a := searchF cs V n ((spreadF cs (V + 1) tr).2 ++ [(freeF (spreadF cs (V + 1) tr).2 1 V : Int)]) (k + 1)
   if a.1 = true then a
   else
    let b := searchF cs V n ((spreadF cs (V + 1) tr).2 ++ [-(freeF (spreadF cs (V + 1) tr).2 1 V : Int)]) a.2.2
    if b.1 = true then b else (false, tr, b.2.2)
theorem GoodT.nil (V : Nat) : GoodT V [] := ⟨by simp, by simp, by simp⟩
theorem isT_zero {tr : List Int} {x : Int} : isT tr x = 0 ↔ x ∉ tr ∧ -x ∉ tr := by
 unfold isT
 by_cases h : x ∈ tr
 ·simp [h]
 ·by_cases h2 : -x ∈ tr <;> simp [h, h2]
theorem isT_one {tr : List Int} {x : Int} : isT tr x = 1 ↔ x ∈ tr := by
 unfold isT
 by_cases h : x ∈ tr
 ·simp [h]
 ·by_cases h2 : -x ∈ tr <;> simp [h, h2]
theorem isT_neg {V : Nat} {tr : List Int} (g : GoodT V tr) (x : Int) : isT tr (-x) = -isT tr x := by
 unfold isT; rw [Int.neg_neg]
 by_cases h : x ∈ tr
 ·have := g.one x h; simp [h, this]
 ·by_cases h2 : -x ∈ tr <;> simp [h, h2]
theorem GoodT.snoc {V : Nat} {tr : List Int} (g : GoodT V tr) {x : Int} (h0 : x ≠ 0) (h1 : x ≤ V) (h2 : -V ≤ x) (hx : isT tr x = 0) : GoodT V (tr ++ [x]) := by
 rw [isT_zero] at hx; refine ⟨fun y hy => ?_, fun y hy hn => ?_, ?_⟩
 ·rcases List.mem_append.1 hy with hy | hy
  ·exact g.pos y hy
  ·rw [List.mem_singleton] at hy; subst hy; exact ⟨h0, h1, h2⟩
 ·rcases List.mem_append.1 hy with hy | hy
  ·rcases List.mem_append.1 hn with hn | hn
   ·exact g.one y hy hn
   ·rw [List.mem_singleton] at hn
    have : y = -x := by omega
    exact hx.2 (this ▸ hy)
  ·rw [List.mem_singleton] at hy; subst hy
   rcases List.mem_append.1 hn with hn | hn
   ·exact hx.2 hn
   ·rw [List.mem_singleton] at hn; omega
 ·refine List.nodup_append.2 ⟨g.nodup, by simp, fun y hy z hz => ?_⟩; rw [List.mem_singleton] at hz; subst hz
  intro e
  exact hx.1 (e ▸ hy)
def leftT (V : Nat) (tr : List Int) : Nat := cntB (fun i => isT tr ((i : Int) + 1) == 0) V
theorem leftT_le (V : Nat) (tr : List Int) : leftT V tr ≤ V := cntB_le _ _
theorem isT_sub {tr ext : List Int} {x : Int} (h : isT (tr ++ ext) x = 0) : isT tr x = 0 := by
 rw [isT_zero] at h ⊢; exact ⟨fun hx => h.1 (List.mem_append_left _ hx), fun hx => h.2 (List.mem_append_left _ hx)⟩
theorem leftT_mono (V : Nat) (tr ext : List Int) : leftT V (tr ++ ext) ≤ leftT V tr := cntB_mono V fun i _ h => by
 simp only [beq_iff_eq] at h ⊢; exact isT_sub h
theorem leftT_lt {V : Nat} {tr : List Int} {x : Int} (h0 : x ≠ 0) (h1 : x ≤ V) (h2 : -V ≤ x) (hx : isT tr x = 0) (ext : List Int) : leftT V (tr ++ x :: ext) < leftT V tr := by
 refine cntB_lt V (fun i _ h => ?_) ⟨x.natAbs - 1, by omega, ?_, ?_⟩
 ·simp only [beq_iff_eq] at h ⊢; exact isT_sub h
 ·rw [beq_eq_false_iff_ne, ne_eq, isT_zero]
  rintro ⟨a, b⟩
  rcases Int.lt_or_gt_of_ne h0 with h | h
  ·apply b
   rw [show -(((x.natAbs - 1 : Nat) : Int) + 1) = x by omega]; simp
  ·apply a
   rw [show (((x.natAbs - 1 : Nat) : Int) + 1) = x by omega]; simp
 ·rw [beq_iff_eq, isT_zero]; rw [isT_zero] at hx
  rcases Int.lt_or_gt_of_ne h0 with h | h
  ·rw [show (((x.natAbs - 1 : Nat) : Int) + 1) = -x by omega, Int.neg_neg]; exact ⟨hx.2, hx.1⟩
  ·rw [show (((x.natAbs - 1 : Nat) : Int) + 1) = x by omega]; exact hx
def litB (β : Nat → Bool) (x : Int) : Bool := if 0 < x then β x.toNat else !β (-x).toNat
def Models (cs : Cl) (β : Nat → Bool) : Prop := ∀ c ∈ cs, ∃ x ∈ c, litB β x = true
def Agree (β : Nat → Bool) (tr : List Int) : Prop := ∀ x ∈ tr, litB β x = true
theorem litB_neg {β : Nat → Bool} {x : Int} (h : x ≠ 0) : litB β (-x) = !litB β x := by
 unfold litB
 by_cases h1 : 0 < x
 ·rw [if_pos h1, if_neg (by omega), Int.neg_neg]
 ·rw [if_neg h1, if_pos (by omega), Bool.not_not]
def OkC (V : Nat) (cs : Cl) : Prop := ∀ c ∈ cs, ∀ x ∈ c, x ≠ 0 ∧ x ≤ V ∧ -V ≤ x
theorem scan_inv (tr : List Int) : ∀ (c : List Int) (s : Int × Nat × Bool) (p : List Int),
  ((s.2.2 = true ↔ ∃ x ∈ p, x ∈ tr) ∧ (s.2.1 = 0 → ∀ x ∈ p, isT tr x ≠ 0) ∧ (s.2.1 = 1 → s.1 ∈ p ∧ isT tr s.1 = 0 ∧ ∀ x ∈ p, isT tr x = 0 → x = s.1) ∧ ((∀ x ∈ p, isT tr x ≠ 0) → s.2.1 = 0) ∧ (s.2.1 = 0 → s.1 = 0)) → (∀ x ∈ c, x ≠ 0) →
  (((c.foldl (stepC tr) s).2.2 = true ↔ ∃ x ∈ p ++ c, x ∈ tr) ∧ ((c.foldl (stepC tr) s).2.1 = 0 → ∀ x ∈ p ++ c, isT tr x ≠ 0) ∧
   ((c.foldl (stepC tr) s).2.1 = 1 → (c.foldl (stepC tr) s).1 ∈ p ++ c ∧ isT tr (c.foldl (stepC tr) s).1 = 0 ∧ ∀ x ∈ p ++ c, isT tr x = 0 → x = (c.foldl (stepC tr) s).1) ∧ ((∀ x ∈ p ++ c, isT tr x ≠ 0) → (c.foldl (stepC tr) s).2.1 = 0))
 | [], s, p, h, _ => by simpa using ⟨h.1, h.2.1, h.2.2.1, h.2.2.2.1⟩
 | x :: c, s, p, ⟨h1, h2, h3, h4, h5⟩, h0 => by
  have hx0 := h0 x (by simp)
  have ih := scan_inv tr c (stepC tr s x) (p ++ [x]) ?_ fun y hy => h0 y (by simp [hy])
  ·simpa only [List.foldl_cons, List.append_assoc, List.singleton_append] using ih
  ·unfold stepC
   by_cases e1 : isT tr x = 1
   ·rw [if_pos e1]
    have e1' := isT_one.1 e1
    refine ⟨by simp [e1'], fun h y hy => ?_, fun h => ?_, fun h => h4 fun y hy => h y (by simp [hy]), h5⟩
    ·rcases List.mem_append.1 hy with hy | hy
     ·exact h2 h y hy
     ·rw [List.mem_singleton] at hy; subst hy; rw [e1]; decide
    ·obtain ⟨a1, a2, a3⟩ := h3 h
     refine ⟨by simp [a1], a2, fun y hy hy0 => ?_⟩
     rcases List.mem_append.1 hy with hy | hy
     ·exact a3 y hy hy0
     ·rw [List.mem_singleton] at hy; subst hy; rw [e1] at hy0; cases hy0
   ·rw [if_neg e1]
    have e1' : x ∉ tr := fun h => e1 (isT_one.2 h)
    by_cases e0 : isT tr x = 0
    ·rw [if_pos e0]
     dsimp only
     refine ⟨?_, fun h => ?_, fun h => ?_, fun h => absurd e0 (h x (by simp)), fun h => ?_⟩
     ·rw [h1]; simp [e1']
     ·split at h
      ·omega
      ·rename_i hne
       have : x = s.1 := Classical.not_not.1 hne
       have := h5 h
       omega
     ·refine ⟨by simp, e0, fun y hy hy0 => ?_⟩
      rcases List.mem_append.1 hy with hy | hy
      ·split at h
       ·exact absurd hy0 (h2 (by omega) y hy)
       ·rename_i hne
        have hxe : x = s.1 := Classical.not_not.1 hne
        rw [hxe]; exact (h3 h).2.2 y hy hy0
      ·simpa using hy
     ·split at h
      ·omega
      ·rename_i hne
       have : x = s.1 := Classical.not_not.1 hne
       have := h5 h
       omega
    ·rw [if_neg e0]; refine ⟨by rw [h1]; simp [e1'], fun h y hy => ?_, fun h => ?_, fun h => h4 fun y hy => h y (by simp [hy]), h5⟩
     ·rcases List.mem_append.1 hy with hy | hy
      ·exact h2 h y hy
      ·rw [List.mem_singleton] at hy; subst hy; exact e0
     ·obtain ⟨a1, a2, a3⟩ := h3 h
      refine ⟨by simp [a1], a2, fun y hy hy0 => ?_⟩
      rcases List.mem_append.1 hy with hy | hy
      ·exact a3 y hy hy0
      ·rw [List.mem_singleton] at hy; subst hy; exact absurd hy0 e0
theorem scan_facts (tr : List Int) {c : List Int} (h0 : ∀ x ∈ c, x ≠ 0) :
  ((scanC tr c).2.2 = true ↔ ∃ x ∈ c, x ∈ tr) ∧ ((scanC tr c).2.1 = 0 → ∀ x ∈ c, isT tr x ≠ 0) ∧
   ((scanC tr c).2.1 = 1 → (scanC tr c).1 ∈ c ∧ isT tr (scanC tr c).1 = 0 ∧ ∀ x ∈ c, isT tr x = 0 → x = (scanC tr c).1) ∧ ((∀ x ∈ c, isT tr x ≠ 0) → (scanC tr c).2.1 = 0) := by
 have := scan_inv tr c (0, 0, false) [] (by simp) h0
 simp only [List.nil_append] at this; exact this
theorem pass_facts {V : Nat} : ∀ (cs : Cl) (tr : List Int) (ag : Bool), OkC V cs → GoodT V tr →
  (∃ ext, (passF cs tr ag).2.1 = tr ++ ext ∧ ((passF cs tr ag).1 = true → (passF cs tr ag).2.2 = (ag || !ext.isEmpty))) ∧ GoodT V (passF cs tr ag).2.1 ∧
   ((passF cs tr ag).1 = true → ∀ β, Agree β tr → Models cs β → Agree β (passF cs tr ag).2.1) ∧ ((passF cs tr ag).1 = false → ∀ β, Agree β tr → ¬ Models cs β) ∧
   ((passF cs tr ag).1 = true → (passF cs tr ag).2.1 = tr → ∀ c ∈ cs, (scanC tr c).2.2 = true ∨ 1 < (scanC tr c).2.1)
 | [], tr, ag, _, g => ⟨⟨[], by simp [passF], by simp [passF]⟩, g, fun _ β h _ => h, fun h => by simp [passF] at h, fun _ _ c hc => by simp at hc⟩
 | c :: cs, tr, ag, ok, g => by
  have okc := ok c (by simp)
  have oks : OkC V cs := fun d hd => ok d (by simp [hd])
  obtain ⟨f1, f2, f3, _⟩ := scan_facts tr fun x hx => (okc x hx).1
  rw [passF]
  by_cases hh : (scanC tr c).2.2 = true ∨ 1 < (scanC tr c).2.1
  ·rw [if_pos hh]
   obtain ⟨a1, a2, a3, a4, a5⟩ := pass_facts cs tr ag oks g
   refine ⟨a1, a2, fun h β hb hm => a3 h β hb fun d hd => hm d (by simp [hd]), fun h β hb hm => a4 h β hb fun d hd => hm d (by simp [hd]), fun h e d hd => ?_⟩
   rcases List.mem_cons.1 hd with rfl | hd
   ·exact hh
   ·exact a5 h e d hd
  ·rw [if_neg hh]
   have hno : ∀ x ∈ c, x ∉ tr := fun x hx ht => hh (.inl (f1.2 ⟨x, hx, ht⟩))
   have hlit : ∀ β, Agree β tr → ∀ x ∈ c, litB β x = true → isT tr x = 0 := fun β hb x hx hl => by
    rw [isT_zero]; refine ⟨hno x hx, fun hn => ?_⟩
    have := hb _ hn
    rw [litB_neg (okc x hx).1, hl] at this
    cases this
   by_cases h0 : (scanC tr c).2.1 = 0
   ·rw [if_pos h0]; refine ⟨⟨[], by simp, (fun h => by cases h)⟩, g, (fun h => by cases h), fun _ β hb hm => ?_, (fun h => by cases h)⟩
    obtain ⟨x, hx, hl⟩ := hm c (by simp)
    exact f2 h0 x hx (hlit β hb x hx hl)
   ·rw [if_neg h0]
    have h1 : (scanC tr c).2.1 = 1 := by
     have : ¬ 1 < (scanC tr c).2.1 := fun h => hh (.inr h)
     omega
    obtain ⟨l1, l2, l3⟩ := f3 h1
    have g' := g.snoc (okc _ l1).1 (okc _ l1).2.1 (okc _ l1).2.2 l2
    obtain ⟨⟨ext, a1, a1'⟩, a2, a3, a4, a5⟩ := pass_facts cs (tr ++ [(scanC tr c).1]) true oks g'
    have hag : ∀ β, Agree β tr → Models (c :: cs) β → Agree β (tr ++ [(scanC tr c).1]) := fun β hb hm y hy => by
     rcases List.mem_append.1 hy with hy | hy
     ·exact hb y hy
     ·rw [List.mem_singleton] at hy; subst hy
      obtain ⟨x, hx, hl⟩ := hm c (by simp)
      rw [← l3 x hx (hlit β hb x hx hl)]; exact hl
    refine ⟨⟨(scanC tr c).1 :: ext, by rw [a1]; simp, fun h => by rw [a1' h]; simp⟩, a2, fun h β hb hm => a3 h β (hag β hb hm) fun d hd => hm d (by simp [hd]), fun h β hb hm => a4 h β (hag β hb hm) fun d hd => hm d (by simp [hd]), fun _ e => ?_⟩; rw [a1] at e
    have := congrArg List.length e
    simp at this
theorem spread_facts {V : Nat} {cs : Cl} (ok : OkC V cs) : ∀ (n : Nat) (tr : List Int), GoodT V tr → leftT V tr < n →
  (∃ ext, (spreadF cs n tr).2 = tr ++ ext) ∧ GoodT V (spreadF cs n tr).2 ∧ ((spreadF cs n tr).1 = true → (∀ β, Agree β tr → Models cs β → Agree β (spreadF cs n tr).2) ∧ ∀ c ∈ cs, (scanC (spreadF cs n tr).2 c).2.2 = true ∨ 1 < (scanC (spreadF cs n tr).2 c).2.1) ∧
   ((spreadF cs n tr).1 = false → ∀ β, Agree β tr → ¬ Models cs β)
 | 0, tr, _, h => by omega
 | n + 1, tr, g, h => by
  obtain ⟨⟨ext, a1, a1'⟩, a2, a3, a4, a5⟩ := pass_facts cs tr false ok g
  rw [spreadF]
  by_cases hf : (passF cs tr false).1 = false
  ·rw [if_pos hf]; exact ⟨⟨ext, a1⟩, a2, (fun h => by cases h), fun _ => a4 hf⟩
  ·have ht : (passF cs tr false).1 = true := by simpa using hf
   rw [if_neg hf]
   have hag := a1' ht
   by_cases he : (passF cs tr false).2.2 = true
   ·rw [if_pos he]; rw [hag] at he
    obtain ⟨x, ext', rfl⟩ : ∃ x e, ext = x :: e := by cases ext with | nil => simp at he | cons x e => exact ⟨x, e, rfl⟩
    have hx : isT tr x = 0 := by
     rw [isT_zero]; rw [a1] at a2; refine ⟨fun hx => ?_, fun hx => a2.one _ (List.mem_append_left _ hx) (by rw [Int.neg_neg]; simp)⟩
     have := (List.nodup_append.1 a2.nodup).2.2
     exact this x hx x (by simp) rfl
    have hp := a2.pos x (by rw [a1]; simp)
    have hlt := leftT_lt hp.1 hp.2.1 hp.2.2 hx ext'
    rw [← a1] at hlt
    obtain ⟨⟨e2, b1⟩, b2, b3, b4⟩ := spread_facts ok n _ a2 (by omega)
    refine ⟨⟨x :: ext' ++ e2, by rw [b1, a1]; simp⟩, b2, fun hs => ⟨fun β hb hm => (b3 hs).1 β (a3 ht β hb hm) hm, (b3 hs).2⟩, fun hs β hb hm => b4 hs β (a3 ht β hb hm) hm⟩
   ·rw [if_neg he]
    have hx : ext = [] := by
     rw [hag] at he
     cases ext with | nil => rfl | cons x e => simp at he
    subst hx
    have e : (passF cs tr false).2.1 = tr := by rw [a1]; simp
    exact ⟨⟨[], a1⟩, a2, fun _ => ⟨a3 ht, by rw [e]; exact a5 ht e⟩, (fun h => by cases h)⟩
theorem free_facts (tr : List Int) : ∀ (n v : Nat), 0 < v → (freeF tr v n = 0 → ∀ w, v ≤ w → w < v + n → isT tr w ≠ 0) ∧ (freeF tr v n ≠ 0 → v ≤ freeF tr v n ∧ freeF tr v n < v + n ∧ isT tr (freeF tr v n) = 0 ∧ ∀ w, v ≤ w → w < freeF tr v n → isT tr w ≠ 0)
 | 0, v, h => ⟨fun _ w h1 h2 => by omega, fun h => absurd rfl h⟩
 | n + 1, v, h => by
  rw [freeF]
  by_cases h0 : isT tr v = 0
  ·rw [if_pos h0]; exact ⟨fun h => by omega, fun _ => ⟨by omega, by omega, h0, fun w h1 h2 => by omega⟩⟩
  ·rw [if_neg h0]
   obtain ⟨a, b⟩ := free_facts tr n (v + 1) (by omega)
   refine ⟨fun hz w h1 h2 => ?_, fun hz => ?_⟩
   ·rcases Nat.eq_or_lt_of_le h1 with rfl | h1
    ·exact h0
    ·exact a hz w (by omega) (by omega)
   ·obtain ⟨b1, b2, b3, b4⟩ := b hz
    refine ⟨by omega, by omega, b3, fun w h1 h2 => ?_⟩
    rcases Nat.eq_or_lt_of_le h1 with rfl | h1
    ·exact h0
    ·exact b4 w (by omega) h2
def valT (tr : List Int) (v : Nat) : Bool := decide ((v : Int) ∈ tr)
def FirstB (V : Nat) (β γ : Nat → Bool) : Prop := ∀ v, 1 ≤ v → v ≤ V → (∀ w, 1 ≤ w → w < v → γ w = β w) → γ v = true → β v = true
theorem agree_val {V : Nat} {tr : List Int} (g : GoodT V tr) {β : Nat → Bool} (h : Agree β tr) {v : Nat} (hv : 1 ≤ v) (hs : isT tr v ≠ 0) : β v = valT tr v := by
 unfold valT
 by_cases h1 : (v : Int) ∈ tr
 ·have := h _ h1
  unfold litB at this; rw [if_pos (by omega)] at this; simpa [h1] using this
 ·have h2 : -(v : Int) ∈ tr := Classical.byContradiction fun h2 => hs (isT_zero.2 ⟨h1, h2⟩)
  have := h _ h2
  unfold litB at this; rw [if_neg (by omega)] at this; simp [h1]; simpa using this
theorem val_agree {V : Nat} {tr : List Int} (g : GoodT V tr) : Agree (valT tr) tr := fun x hx => by
 unfold litB valT
 have := g.pos x hx
 split
 ·rw [show ((x.toNat : Nat) : Int) = x by omega]; simp [hx]
 ·rw [show (((-x).toNat : Nat) : Int) = -x by omega]
  have := g.one x hx
  simp [this]
theorem search_factsM {V : Nat} {cs : Cl} (ok : OkC V cs) (M : List Int → Nat)
  (hM : ∀ tr, GoodT V tr → (spreadF cs (V + 1) tr).1 = true → freeF (spreadF cs (V + 1) tr).2 1 V ≠ 0 →
   M ((spreadF cs (V + 1) tr).2 ++ [(freeF (spreadF cs (V + 1) tr).2 1 V : Int)]) < M tr ∧ M ((spreadF cs (V + 1) tr).2 ++ [-(freeF (spreadF cs (V + 1) tr).2 1 V : Int)]) < M tr) :
  ∀ (n : Nat) (tr : List Int) (k : Nat), GoodT V tr → M tr < n →
  ((searchF cs V n tr k).2.2 + 1 ≤ k + 2^n) ∧ ((searchF cs V n tr k).1 = true → (∃ ext, (searchF cs V n tr k).2.1 = tr ++ ext) ∧ GoodT V (searchF cs V n tr k).2.1 ∧ (∀ v, 1 ≤ v → v ≤ V → isT (searchF cs V n tr k).2.1 v ≠ 0) ∧
   Models cs (valT (searchF cs V n tr k).2.1) ∧ ∀ β, Agree β tr → Models cs β → FirstB V (valT (searchF cs V n tr k).2.1) β) ∧
   ((searchF cs V n tr k).1 = false → (searchF cs V n tr k).2.1 = tr ∧ ∀ β, Agree β tr → ¬ Models cs β)
 | 0, tr, k, _, h => by omega
 | n + 1, tr, k, g, h => by
  have hle := leftT_le V tr
  obtain ⟨⟨ext, a1⟩, a2, a3, a4⟩ := spread_facts ok (V + 1) tr g (by omega)
  have hp2 : 1 ≤ 2^n := Nat.one_le_two_pow
  have hps : 2^(n + 1) = 2^n + 2^n := by rw [Nat.pow_succ]; omega
  have hMM := hM tr g
  rw [searchF]; generalize hsp : spreadF cs (V + 1) tr = sp at a1 a2 a3 a4 hMM
  obtain ⟨okb, tr1⟩ := sp
  dsimp only at a1 a2 a3 a4 hMM ⊢
  by_cases hf : okb = false
  ·rw [if_pos hf]; exact ⟨by dsimp only; omega, (fun h => by cases h), fun _ => ⟨rfl, a4 hf⟩⟩
  rw [if_neg hf]
  have ht : okb = true := by simpa using hf
  obtain ⟨b1, b2⟩ := a3 ht
  obtain ⟨c1, c2⟩ := free_facts tr1 V 1 (by decide)
  generalize freeF tr1 1 V = v at c1 c2 hMM
  by_cases hv : v = 0
  ·rw [if_pos hv]
   have hall : ∀ w, 1 ≤ w → w ≤ V → isT tr1 w ≠ 0 := fun w h1 h2 => c1 hv w h1 (by omega)
   have hset : ∀ x : Int, x ≠ 0 ∧ x ≤ V ∧ -V ≤ x → isT tr1 x ≠ 0 := fun x hx h0 => by
    rcases Int.lt_or_gt_of_ne hx.1 with hl | hl
    ·have := hall x.natAbs (by omega) (by omega)
     rw [show ((x.natAbs : Nat) : Int) = -x by omega, isT_neg a2, h0] at this; exact this rfl
    ·have := hall x.natAbs (by omega) (by omega)
     rw [show ((x.natAbs : Nat) : Int) = x by omega] at this; exact this h0
   refine ⟨by dsimp only; omega, fun _ => ⟨⟨ext, a1⟩, a2, hall, fun c hc => ?_, fun β hb hm v h1 h2 _ hv => ?_⟩, (fun h => by cases h)⟩
   ·have okc := ok c hc
    obtain ⟨f1, _, _, f4⟩ := scan_facts tr1 fun x hx => (okc x hx).1
    have h0 := f4 fun x hx => hset x (okc x hx)
    rcases b2 c hc with hh | hh
    ·obtain ⟨x, hx, hxt⟩ := f1.1 hh
     exact ⟨x, hx, val_agree a2 x hxt⟩
    ·omega
   ·rw [← agree_val a2 (b1 β hb hm) h1 (hall v h1 h2)]; exact hv
  rw [if_neg hv]
  obtain ⟨d1, d2, d3, d4⟩ := c2 hv
  have d3' : isT tr1 (-(v : Int)) = 0 := by rw [isT_neg a2, d3]; rfl
  have g1 := a2.snoc (x := (v : Int)) (by omega) (by omega) (by omega) d3
  have g2 := a2.snoc (x := -(v : Int)) (by omega) (by omega) (by omega) d3'
  obtain ⟨l1, l2⟩ := hMM ht hv
  obtain ⟨e1, e2, e3⟩ := search_factsM ok M hM n (tr1 ++ [(v : Int)]) (k + 1) g1 (by omega)
  generalize searchF cs V n (tr1 ++ [(v : Int)]) (k + 1) = A at e1 e2 e3
  have hvT : ∀ tr', (∃ e, tr' = tr1 ++ [(v : Int)] ++ e) → valT tr' v = true := fun tr' ⟨e, he⟩ => by simp [valT, he]
  have hfree : ∀ {tr'}, GoodT V tr' → (∃ e, tr' = tr1 ++ e) → ∀ β, Agree β tr1 → ∀ w, 1 ≤ w → w < v → valT tr' w = β w := fun g' ⟨e, he⟩ β hb w h1 h2 => by
   have hs := d4 w h1 h2
   rw [agree_val a2 hb h1 hs]
   have hb' : Agree (valT _) tr1 := fun x hx => val_agree g' x (by rw [he]; exact List.mem_append_left _ hx)
   exact agree_val a2 hb' h1 hs
  have hAg : ∀ {β : Nat → Bool} {x : Int}, Agree β tr1 → litB β x = true → Agree β (tr1 ++ [x]) := fun hb hx y hy => by
   rcases List.mem_append.1 hy with hy | hy
   ·exact hb y hy
   ·rw [List.mem_singleton] at hy; subst hy; exact hx
  have hlv : ∀ β : Nat → Bool, litB β (v : Int) = β v := fun β => by unfold litB; rw [if_pos (by omega)]; simp
  have hlv' : ∀ β : Nat → Bool, litB β (-(v : Int)) = !β v := fun β => by rw [litB_neg (by omega), hlv]
  by_cases hA : A.1 = true
  ·rw [if_pos hA]
   obtain ⟨⟨x1, p1⟩, p2, p3, p4, p5⟩ := e2 hA
   refine ⟨by omega, fun _ => ⟨⟨ext ++ [(v : Int)] ++ x1, by rw [p1, a1]; simp⟩, p2, p3, p4, fun β hb hm w h1 h2 hag hw => ?_⟩, fun h => by rw [hA] at h; cases h⟩
   have hb1 := b1 β hb hm
   rcases Nat.lt_or_ge w v with hwv | hwv
   ·rw [hfree p2 ⟨[(v : Int)] ++ x1, by rw [p1]; simp⟩ β hb1 w h1 hwv]; exact hw
   ·rcases Nat.eq_or_lt_of_le hwv with rfl | hwv
    ·exact hvT _ ⟨x1, p1⟩
    ·have hbv : β v = true := by rw [hag v (by omega) hwv]; exact hvT _ ⟨x1, p1⟩
     exact p5 β (hAg hb1 (by rw [hlv]; exact hbv)) hm w h1 h2 hag hw
  rw [if_neg hA]
  have hA0 : A.1 = false := by simpa using hA
  obtain ⟨q1, q2⟩ := e3 hA0
  obtain ⟨s1, s2, s3⟩ := search_factsM ok M hM n (tr1 ++ [-(v : Int)]) A.2.2 g2 (by omega)
  generalize searchF cs V n (tr1 ++ [-(v : Int)]) A.2.2 = B at s1 s2 s3
  by_cases hB : B.1 = true
  ·rw [if_pos hB]
   obtain ⟨⟨x1, p1⟩, p2, p3, p4, p5⟩ := s2 hB
   refine ⟨by omega, fun _ => ⟨⟨ext ++ [-(v : Int)] ++ x1, by rw [p1, a1]; simp⟩, p2, p3, p4, fun β hb hm w h1 h2 hag hw => ?_⟩, fun h => by rw [hB] at h; cases h⟩
   have hb1 := b1 β hb hm
   have hbv : β v = false := by
    cases hb2 : β v with
    | false => rfl
    | true => exact absurd hm (q2 β (hAg hb1 (by rw [hlv]; exact hb2)))
   exact p5 β (hAg hb1 (by rw [hlv', hbv]; rfl)) hm w h1 h2 hag hw
  ·rw [if_neg hB]
   have hB0 : B.1 = false := by simpa using hB
   refine ⟨by dsimp only; omega, (fun h => by cases h), fun _ => ⟨rfl, fun β hb hm => ?_⟩⟩
   have hb1 := b1 β hb hm
   cases hb2 : β v with
   | true => exact q2 β (hAg hb1 (by rw [hlv]; exact hb2)) hm
   | false => exact (s3 hB0).2 β (hAg hb1 (by rw [hlv', hb2]; rfl)) hm
end Go.Proofs.YtagfbbnlbncjlaaGreatDoor
namespace Go.Proofs.YtagfbbnlbncjlaaGreatDoor
open Go.Av
abbrev Cs := Nat × Cl
def mkAnd (l : List Int) (c : Cs) : Int × Cs := ((c.1 : Int) + 1, (c.1 + 1, c.2 ++ (l.map fun x => [-((c.1 : Int) + 1), x]) ++ [((c.1 : Int) + 1) :: l.map fun x => -x]))
mutual
def litG (ns es : List Tx) : Ex → Cs → Int × Cs
 | .bit s, c => ((ixT ns s : Int) + 1, c)
 | .rise s, c => mkAnd [(ixT ns s : Int) + 1, -((ns.length : Int) + ixT es s + 1)] c
 | .fall s, c => mkAnd [-((ixT ns s : Int) + 1), (ns.length : Int) + ixT es s + 1] c
 | .not e, c => (-(litG ns es e c).1, (litG ns es e c).2)
 | .and l, c => mkAnd (litsG ns es l c).1 (litsG ns es l c).2
 | .or l, c => (-(mkAnd ((litsG ns es l c).1.map fun x => -x) (litsG ns es l c).2).1, (mkAnd ((litsG ns es l c).1.map fun x => -x) (litsG ns es l c).2).2)
 | .cst b, c => ((c.1 : Int) + 1, (c.1 + 1, c.2 ++ [[if b then (c.1 : Int) + 1 else -((c.1 : Int) + 1)]]))
def litsG (ns es : List Tx) : List Ex → Cs → List Int × Cs
 | [], c => ([], c)
 | e :: l, c => ((litG ns es e c).1 :: (litsG ns es l (litG ns es e c).2).1, (litsG ns es l (litG ns es e c).2).2)
end
def isTs (ns : List Tx) (β : Nat → Bool) (s : Tx) : Bool := β (ixT ns s + 1)
def wasTs (ns es : List Tx) (β : Nat → Bool) (s : Tx) : Bool := β (ns.length + ixT es s + 1)
def OkL (V : Nat) (x : Int) : Prop := x ≠ 0 ∧ x ≤ V ∧ -V ≤ x
theorem OkL.neg {V : Nat} {x : Int} (h : OkL V x) : OkL V (-x) := ⟨by have := h.1; omega, by have := h.2.2; omega, by have := h.2.1; omega⟩
theorem OkL.mono {V W : Nat} {x : Int} (h : OkL V x) (hw : V ≤ W) : OkL W x := ⟨h.1, by have := h.2.1; omega, by have := h.2.2; omega⟩
theorem litB_same {V : Nat} {β γ : Nat → Bool} (h : ∀ v, v ≤ V → γ v = β v) {x : Int} (hx : OkL V x) : litB γ x = litB β x := by
 unfold litB
 obtain ⟨_, h2, h3⟩ := hx
 by_cases h1 : 0 < x
 ·rw [if_pos h1, if_pos h1, h _ (by omega)]
 ·rw [if_neg h1, if_neg h1, h _ (by omega)]
theorem models_app {a b : Cl} {β : Nat → Bool} : Models (a ++ b) β ↔ Models a β ∧ Models b β := by
 unfold Models
 constructor
 ·intro h
  exact ⟨fun c hc => h c (List.mem_append_left _ hc), fun c hc => h c (List.mem_append_right _ hc)⟩
 ·rintro ⟨h1, h2⟩ c hc
  rcases List.mem_append.1 hc with h | h
  ·exact h1 c h
  ·exact h2 c h
theorem models_same {V : Nat} {cs : Cl} (ok : OkC V cs) {β γ : Nat → Bool} (h : ∀ v, v ≤ V → γ v = β v) (hm : Models cs β) : Models cs γ := by
 intro c hc
 obtain ⟨x, hx, hb⟩ := hm c hc
 exact ⟨x, hx, by rw [litB_same h (ok c hc x hx)]; exact hb⟩
structure Grows (c d : Cs) : Prop where
 vars : c.1 ≤ d.1
 ext : ∃ e, d.2 = c.2 ++ e
 ok : OkC c.1 c.2 → OkC d.1 d.2
 can : OkC c.1 c.2 → ∀ β, Models c.2 β → ∃ γ, (∀ v, v ≤ c.1 → γ v = β v) ∧ Models d.2 γ
theorem Grows.refl (c : Cs) : Grows c c := ⟨Nat.le_refl _, ⟨[], by simp⟩, id, fun _ β h => ⟨β, fun _ _ => rfl, h⟩⟩
theorem Grows.trans {a b c : Cs} (h1 : Grows a b) (h2 : Grows b c) : Grows a c := by
 obtain ⟨e1, he1⟩ := h1.ext
 obtain ⟨e2, he2⟩ := h2.ext
 refine ⟨Nat.le_trans h1.vars h2.vars, ⟨e1 ++ e2, by rw [he2, he1, List.append_assoc]⟩, fun h => h2.ok (h1.ok h), fun ok β hm => ?_⟩
 obtain ⟨γ, hg1, hg2⟩ := h1.can ok β hm
 obtain ⟨δ, hd1, hd2⟩ := h2.can (h1.ok ok) γ hg2
 exact ⟨δ, fun v hv => by rw [hd1 v (Nat.le_trans hv h1.vars), hg1 v hv], hd2⟩
theorem Grows.models {c d : Cs} (h : Grows c d) {β : Nat → Bool} (hm : Models d.2 β) : Models c.2 β := by
 obtain ⟨e, he⟩ := h.ext
 rw [he] at hm; exact (models_app.1 hm).1
theorem litB_new {β : Nat → Bool} {n : Nat} : litB β ((n : Int) + 1) = β (n + 1) := by
 unfold litB; rw [if_pos (by omega)]
 congr 1
theorem mkAnd_tells {l : List Int} {c : Cs} {β : Nat → Bool} (hl : ∀ x ∈ l, x ≠ 0) (hm : Models (mkAnd l c).2.2 β) : litB β (mkAnd l c).1 = l.all (litB β) := by
 unfold mkAnd at hm ⊢
 dsimp only at hm ⊢
 obtain ⟨h1, h2⟩ := models_app.1 hm
 obtain ⟨_, h1⟩ := models_app.1 h1
 have hn : litB β (-((c.1 : Int) + 1)) = !litB β ((c.1 : Int) + 1) := litB_neg (by omega)
 cases hv : litB β ((c.1 : Int) + 1) with
 | true =>
  symm
  rw [List.all_eq_true]
  intro x hx
  obtain ⟨y, hy, hb⟩ := h1 [-((c.1 : Int) + 1), x] (List.mem_map.2 ⟨x, hx, rfl⟩)
  simp only [List.mem_cons, List.not_mem_nil, or_false] at hy
  rcases hy with rfl | rfl
  ·rw [hn, hv] at hb; cases hb
  ·exact hb
 | false =>
  symm
  obtain ⟨y, hy, hb⟩ := h2 _ (List.mem_singleton.2 rfl)
  rcases List.mem_cons.1 hy with rfl | hy
  ·rw [hv] at hb; cases hb
  ·obtain ⟨x, hx, rfl⟩ := List.mem_map.1 hy
   rw [litB_neg (hl x hx)] at hb; rw [List.all_eq_false]; exact ⟨x, hx, by simpa using hb⟩
theorem mkAnd_grows {l : List Int} {c : Cs} (hl : ∀ x ∈ l, OkL c.1 x) : Grows c (mkAnd l c).2 := by
 unfold mkAnd
 dsimp only
 refine ⟨by simp, ⟨_, List.append_assoc ..⟩, fun ok => ?_, fun ok β hm => ?_⟩
 ·intro d hd x hx
  show OkL (c.1 + 1) x
  rcases List.mem_append.1 hd with hd | hd
  ·rcases List.mem_append.1 hd with hd | hd
   ·exact OkL.mono (ok d hd x hx) (by omega)
   ·obtain ⟨y, hy, rfl⟩ := List.mem_map.1 hd
    simp only [List.mem_cons, List.not_mem_nil, or_false] at hx
    rcases hx with rfl | rfl
    ·exact ⟨by omega, by omega, by simp⟩
    ·exact (hl _ hy).mono (by omega)
  ·rw [List.mem_singleton] at hd; subst hd
   rcases List.mem_cons.1 hx with rfl | hx
   ·exact ⟨by omega, by simp, by omega⟩
   ·obtain ⟨y, hy, rfl⟩ := List.mem_map.1 hx
    exact ((hl _ hy).mono (by omega)).neg
 ·obtain ⟨γ, hg, hnew⟩ : ∃ γ : Nat → Bool, (∀ v, v ≤ c.1 → γ v = β v) ∧ litB γ ((c.1 : Int) + 1) = l.all (litB β) :=
   ⟨fun v => if v = c.1 + 1 then l.all (litB β) else β v, fun v hv => by dsimp only; rw [if_neg (by omega)], by rw [litB_new]; simp⟩
  refine ⟨γ, hg, ?_⟩
  have hold : ∀ x ∈ l, litB γ x = litB β x := fun x hx => litB_same hg (hl x hx)
  refine models_app.2 ⟨models_app.2 ⟨models_same ok hg hm, ?_⟩, ?_⟩
  ·intro d hd
   obtain ⟨x, hx, rfl⟩ := List.mem_map.1 hd
   cases ha : l.all (litB β) with
   | true => exact ⟨x, by simp, by rw [hold x hx]; exact List.all_eq_true.1 ha x hx⟩
   | false => exact ⟨-((c.1 : Int) + 1), by simp, by rw [litB_neg (by omega), hnew, ha]; rfl⟩
  ·intro d hd
   rw [List.mem_singleton] at hd; subst hd
   cases ha : l.all (litB β) with
   | true => exact ⟨(c.1 : Int) + 1, by simp, by rw [hnew]; exact ha⟩
   | false =>
    obtain ⟨x, hx, hb⟩ := List.all_eq_false.1 ha
    exact ⟨-x, List.mem_cons_of_mem _ (List.mem_map.2 ⟨x, hx, rfl⟩), by rw [litB_neg (hl x hx).1, hold x hx]; simpa using hb⟩
theorem mkAnd_lit {l : List Int} {c : Cs} : OkL (mkAnd l c).2.1 (mkAnd l c).1 := by
 unfold mkAnd OkL
 dsimp only
 exact ⟨by omega, by omega, by omega⟩
def Tells1 (ns es : List Tx) (e : Ex) (c : Cs) : Prop :=
 Grows c (litG ns es e c).2 ∧ OkL (litG ns es e c).2.1 (litG ns es e c).1 ∧ ∀ β, Models (litG ns es e c).2.2 β → litB β (litG ns es e c).1 = evE (isTs ns β) (wasTs ns es β) e
def TellsL (ns es : List Tx) (l : List Ex) (c : Cs) : Prop :=
 Grows c (litsG ns es l c).2 ∧ (∀ x ∈ (litsG ns es l c).1, OkL (litsG ns es l c).2.1 x) ∧ (litsG ns es l c).1.length = l.length ∧
  ∀ β, Models (litsG ns es l c).2.2 β → (litsG ns es l c).1.map (litB β) = l.map (evE (isTs ns β) (wasTs ns es β))
theorem tells_all {f : Ex → Bool} {β : Nat → Bool} : ∀ {xs : List Int} {l : List Ex}, xs.map (litB β) = l.map f → xs.all (litB β) = l.all f
 | xs, l, h => by
  have := congrArg (fun l : List Bool => l.all id) h
  simpa [List.all_map] using this
theorem evA_all (is was : Tx → Bool) : ∀ l : List Ex, evA is was l = l.all (evE is was)
 | [] => rfl
 | e :: l => by rw [evA, evA_all is was l]; rfl
theorem evO_all (is was : Tx → Bool) : ∀ l : List Ex, evO is was l = !l.all fun e => !evE is was e
 | [] => rfl
 | e :: l => by rw [evO, evO_all is was l]; simp
theorem lit_tells (ns es : List Tx) : ∀ (n : Nat) (e : Ex), SizeOf.sizeOf e ≤ n → (∀ s ∈ nmsE true e, s ∈ ns) → (∀ s ∈ nmsE false e, s ∈ es) → WfE e → ∀ c : Cs, ns.length + es.length ≤ c.1 → Tells1 ns es e c
 | 0, e, hn, _, _, _, _, _ => by cases e <;> simp at hn
 | n + 1, e, hn, hN, hE, hw, c, hc => by
  have many : ∀ l : List Ex, (∀ x ∈ l, SizeOf.sizeOf x ≤ n) → (∀ s ∈ nmsL true l, s ∈ ns) → (∀ s ∈ nmsL false l, s ∈ es) → (∀ x ∈ l, WfE x) → ∀ c : Cs, ns.length + es.length ≤ c.1 → TellsL ns es l c := by
   intro l
   induction l with
   | nil => intro _ _ _ _ c _; exact ⟨Grows.refl c, by simp [litsG], rfl, fun β _ => rfl⟩
   | cons x l ih =>
    intro hs h1 h2 h3 c hc
    simp only [nmsL, List.mem_append] at h1 h2
    obtain ⟨a1, a2, a3⟩ := lit_tells ns es n x (hs x (by simp)) (fun s h => h1 s (.inl h)) (fun s h => h2 s (.inl h)) (h3 x (by simp)) c hc
    obtain ⟨b1, b2, b3, b4⟩ := ih (fun y hy => hs y (by simp [hy])) (fun s h => h1 s (.inr h)) (fun s h => h2 s (.inr h)) (fun y hy => h3 y (by simp [hy])) (litG ns es x c).2 (Nat.le_trans hc a1.vars)
    refine ⟨a1.trans b1, ?_, ?_, ?_⟩
    ·simp only [litsG]
     intro y hy
     rcases List.mem_cons.1 hy with rfl | hy
     ·exact a2.mono b1.vars
     ·exact b2 y hy
    ·simp only [litsG, List.length_cons, b3]
    ·intro β hm
     simp only [litsG] at hm ⊢; rw [List.map_cons, List.map_cons, b4 β hm, a3 β (b1.models hm)]
  have hpos : ∀ (k : Nat) (β : Nat → Bool), litB β ((k : Int) + 1) = β (k + 1) := fun k β => litB_new
  cases e with
  | bit s =>
   have hs : s ∈ ns := hN s (by
    have : s ≠ [] := by
     intro h; subst h
     rw [WfE] at hw; simp [nameF] at hw
    simp [nmsE, nmE, one1, this])
   have hlt := ixT_lt hs
   refine ⟨Grows.refl c, ?_, fun β _ => ?_⟩
   ·simp only [litG]; exact ⟨by omega, by omega, by omega⟩
   ·simp only [litG, evE, isTs]; exact litB_new
  | rise s =>
   have hne : s ≠ [] := by
    intro h; subst h
    rw [WfE] at hw; simp [nameF] at hw
   have hs : s ∈ ns := hN s (by simp [nmsE, nmE, one1, hne])
   have he : s ∈ es := hE s (by simp [nmsE, nmE, one1, hne])
   have hlt := ixT_lt hs
   have hlt2 := ixT_lt he
   have hl : ∀ x ∈ [(ixT ns s : Int) + 1, -((ns.length : Int) + ixT es s + 1)], OkL c.1 x := by
    intro x hx
    simp only [List.mem_cons, List.not_mem_nil, or_false] at hx
    rcases hx with rfl | rfl <;> exact ⟨by omega, by omega, by omega⟩
   refine ⟨mkAnd_grows hl, mkAnd_lit, fun β hm => ?_⟩; simp only [litG] at hm ⊢; rw [mkAnd_tells (fun x hx => (hl x hx).1) hm]
   have h1 : litB β ((ixT ns s : Int) + 1) = isTs ns β s := litB_new
   have h2 : litB β (-((ns.length : Int) + ixT es s + 1)) = !wasTs ns es β s := by
    rw [litB_neg (by omega)]
    have : ((ns.length : Int) + ixT es s + 1) = ((ns.length + ixT es s : Nat) : Int) + 1 := by omega
    rw [this, litB_new]
    rfl
   simp [h1, h2, evE]
  | fall s =>
   have hne : s ≠ [] := by
    intro h; subst h
    rw [WfE] at hw; simp [nameF] at hw
   have hs : s ∈ ns := hN s (by simp [nmsE, nmE, one1, hne])
   have he : s ∈ es := hE s (by simp [nmsE, nmE, one1, hne])
   have hlt := ixT_lt hs
   have hlt2 := ixT_lt he
   have hl : ∀ x ∈ [-((ixT ns s : Int) + 1), (ns.length : Int) + ixT es s + 1], OkL c.1 x := by
    intro x hx
    simp only [List.mem_cons, List.not_mem_nil, or_false] at hx
    rcases hx with rfl | rfl <;> exact ⟨by omega, by omega, by omega⟩
   refine ⟨mkAnd_grows hl, mkAnd_lit, fun β hm => ?_⟩; simp only [litG] at hm ⊢; rw [mkAnd_tells (fun x hx => (hl x hx).1) hm]
   have h1 : litB β (-((ixT ns s : Int) + 1)) = !isTs ns β s := by rw [litB_neg (by omega), litB_new]; rfl
   have h2 : litB β ((ns.length : Int) + ixT es s + 1) = wasTs ns es β s := by
    have : ((ns.length : Int) + ixT es s + 1) = ((ns.length + ixT es s : Nat) : Int) + 1 := by omega
    rw [this, litB_new]
    rfl
   simp [h1, h2, evE]
  | not x =>
   obtain ⟨a1, a2, a3⟩ := lit_tells ns es n x (by simp at hn; omega) hN hE (by simpa [WfE] using hw) c hc
   refine ⟨a1, a2.neg, fun β hm => ?_⟩; simp only [litG, evE] at hm ⊢; rw [litB_neg a2.1, a3 β hm]
  | and l =>
   obtain ⟨a1, a2, a3, a4⟩ := many l (fun x hx => by have := List.sizeOf_lt_of_mem hx; simp only [Ex.and.sizeOf_spec] at hn; omega) hN hE ((WfEs_iff _).1 hw.2) c hc
   refine ⟨a1.trans (mkAnd_grows a2), mkAnd_lit, fun β hm => ?_⟩; simp only [litG] at hm ⊢; rw [mkAnd_tells (fun x hx => (a2 x hx).1) hm, evE, evA_all]; exact tells_all (a4 β ((mkAnd_grows a2).models hm))
  | or l =>
   obtain ⟨a1, a2, a3, a4⟩ := many l (fun x hx => by have := List.sizeOf_lt_of_mem hx; simp only [Ex.or.sizeOf_spec] at hn; omega) hN hE ((WfEs_iff _).1 hw.2) c hc
   have a2' : ∀ x ∈ (litsG ns es l c).1.map fun x => -x, OkL (litsG ns es l c).2.1 x := by
    intro x hx
    obtain ⟨y, hy, rfl⟩ := List.mem_map.1 hx
    exact (a2 y hy).neg
   refine ⟨a1.trans (mkAnd_grows a2'), mkAnd_lit.neg, fun β hm => ?_⟩; simp only [litG] at hm ⊢; rw [litB_neg mkAnd_lit.1, mkAnd_tells (fun x hx => (a2' x hx).1) hm, evE, evO_all]
   congr 1
   have h4 := a4 β ((mkAnd_grows a2').models hm)
   refine tells_all ?_; rw [List.map_map]
   have h5 : (litsG ns es l c).1.map (litB β ∘ fun x => -x) = ((litsG ns es l c).1.map (litB β)).map (!·) := by
    rw [List.map_map]; exact List.map_congr_left fun x hx => litB_neg (a2 x hx).1
   rw [h5, h4, List.map_map]
   rfl
  | cst b =>
   have hok : ∀ x ∈ [if b then (c.1 : Int) + 1 else -((c.1 : Int) + 1)], OkL (c.1 + 1) x := by
    intro x hx
    rw [List.mem_singleton] at hx; subst hx
    cases b with
    | true => rw [if_pos rfl]; exact ⟨by omega, by omega, by omega⟩
    | false => rw [if_neg (by simp)]; exact ⟨by omega, by omega, by omega⟩
   refine ⟨⟨by simp [litG], ⟨_, rfl⟩, fun ok => ?_, fun ok β hm => ?_⟩, ?_, fun β hm => ?_⟩
   ·intro d hd x hx
    show OkL (c.1 + 1) x
    rcases List.mem_append.1 hd with hd | hd
    ·exact OkL.mono (ok d hd x hx) (by omega)
    ·rw [List.mem_singleton] at hd; subst hd; exact hok x hx
   ·refine ⟨fun v => if v = c.1 + 1 then b else β v, fun v hv => by dsimp only; rw [if_neg (by omega)], models_app.2 ⟨models_same ok (fun v hv => if_neg (by omega)) hm, ?_⟩⟩
    intro d hd
    rw [List.mem_singleton] at hd; subst hd; refine ⟨_, List.mem_singleton.2 rfl, ?_⟩
    cases b with
    | true => rw [if_pos rfl, litB_new]; simp
    | false => rw [if_neg (by simp), litB_neg (by omega), litB_new]; simp
   ·simp only [litG]; exact ⟨by omega, by omega, by omega⟩
   ·simp only [litG, evE] at hm ⊢
    obtain ⟨x, hx, hb⟩ := (models_app.1 hm).2 _ (List.mem_singleton.2 rfl)
    rw [List.mem_singleton] at hx; subst hx
    cases b with
    | true => simpa using hb
    | false =>
     rw [if_neg (by simp), litB_neg (by omega)] at hb; simpa using hb
end Go.Proofs.YtagfbbnlbncjlaaGreatDoor
namespace Go.Proofs.YtagfbbnlbncjlaaGreatDoor
open Go.Av
def Fixd (cs : Cl) (tr : List Int) : Prop := ∀ c ∈ cs, (scanC tr c).2.2 = true ∨ 1 < (scanC tr c).2.1
theorem Fixd.app {a b : Cl} {tr : List Int} (h : Fixd (a ++ b) tr) : Fixd a tr ∧ Fixd b tr := ⟨fun c hc => h c (List.mem_append_left _ hc), fun c hc => h c (List.mem_append_right _ hc)⟩
theorem scan_one {tr : List Int} {y : Int} : ∀ (c : List Int) (s : Int × Nat × Bool), (∀ x ∈ c, isT tr x = 0 → x = y) → (s.2.1 = 0 ∨ s.2.1 = 1 ∧ s.1 = y) → ((c.foldl (stepC tr) s).2.1 = 0 ∨ (c.foldl (stepC tr) s).2.1 = 1 ∧ (c.foldl (stepC tr) s).1 = y)
 | [], s, _, h => h
 | x :: c, s, hc, h => by
  rw [List.foldl_cons]; refine scan_one c _ (fun z hz => hc z (by simp [hz])) ?_; unfold stepC
  by_cases h1 : isT tr x = 1
  ·rw [if_pos h1]; exact h
  ·rw [if_neg h1]
   by_cases h0 : isT tr x = 0
   ·have hx := hc x (by simp) h0
    rw [if_pos h0]; subst hx
    rcases h with h | ⟨h, hs⟩
    ·dsimp only
     by_cases hs : x ≠ s.1
     ·rw [if_pos hs, h]; exact .inr ⟨rfl, rfl⟩
     ·rw [if_neg hs]; exact .inl h
    ·dsimp only
     rw [if_neg (by rw [hs]; simp), h]; exact .inr ⟨rfl, rfl⟩
   ·rw [if_neg h0]; exact h
theorem fixd_not {cs : Cl} {tr : List Int} (h : Fixd cs tr) {c : List Int} (hc : c ∈ cs) (h0 : ∀ x ∈ c, x ≠ 0) (hn : ∀ x ∈ c, x ∉ tr) {y : Int} (hy : ∀ x ∈ c, isT tr x = 0 → x = y) : False := by
 obtain ⟨f1, _, _, _⟩ := scan_facts tr h0
 rcases h c hc with hh | hh
 ·obtain ⟨x, hx, hxt⟩ := f1.1 hh
  exact hn x hx hxt
 ·have := scan_one (tr := tr) (y := y) c (0, 0, false) hy (.inl rfl)
  unfold scanC at hh
  omega
theorem isT_abs {V : Nat} {tr : List Int} (g : GoodT V tr) {x : Int} (h : isT tr (x.natAbs : Int) ≠ 0) : isT tr x ≠ 0 := by
 intro h0
 rcases Int.natAbs_eq x with e | e
 ·rw [← e] at h; exact h h0
 ·apply h
  have e2 : (x.natAbs : Int) = -x := by omega
  rw [e2, isT_neg g, h0]
  rfl
theorem mkAnd_sets {V : Nat} {l : List Int} {c : Cs} {tr : List Int} (g : GoodT V tr) (hl : ∀ x ∈ l, OkL c.1 x) (hs : ∀ v : Nat, 1 ≤ v → v ≤ c.1 → isT tr v ≠ 0) (hf : Fixd (mkAnd l c).2.2 tr) : isT tr ((c.1 : Int) + 1) ≠ 0 := by
 intro h0
 unfold mkAnd at hf
 dsimp only at hf
 obtain ⟨h1, h2⟩ := hf.app
 obtain ⟨_, h1⟩ := h1.app
 have hz := isT_zero.1 h0
 have hset : ∀ x ∈ l, isT tr x ≠ 0 := fun x hx => isT_abs g (by
  obtain ⟨a, b, d⟩ := hl x hx
  exact hs x.natAbs (by omega) (by omega))
 by_cases hall : ∀ x ∈ l, x ∈ tr
 ·-- all hold: the last clause
  refine fixd_not h2 (List.mem_singleton.2 rfl) (fun x hx => ?_) (fun x hx => ?_) (y := (c.1 : Int) + 1) (fun x hx hx0 => ?_)
  ·rcases List.mem_cons.1 hx with rfl | hx
   ·omega
   ·obtain ⟨y, hy, rfl⟩ := List.mem_map.1 hx
    have := (hl y hy).1
    omega
  ·rcases List.mem_cons.1 hx with rfl | hx
   ·exact hz.1
   ·obtain ⟨y, hy, rfl⟩ := List.mem_map.1 hx
    exact g.one y (hall y hy)
  ·rcases List.mem_cons.1 hx with rfl | hx
   ·rfl
   ·obtain ⟨y, hy, rfl⟩ := List.mem_map.1 hx
    rw [isT_neg g] at hx0; exact absurd (by omega : isT tr y = 0) (hset y hy)
 ·-- one doesn't: its clause
  obtain ⟨x, hx⟩ := Classical.not_forall.1 hall
  obtain ⟨hx, hxt⟩ := Classical.not_imp.1 hx
  refine fixd_not h1 (List.mem_map.2 ⟨x, hx, rfl⟩) (fun z hz => ?_) (fun z hz' => ?_) (y := -((c.1 : Int) + 1)) (fun z hz' hz0 => ?_)
  ·simp only [List.mem_cons, List.not_mem_nil, or_false] at hz
   rcases hz with rfl | rfl
   ·omega
   ·exact (hl _ hx).1
  ·simp only [List.mem_cons, List.not_mem_nil, or_false] at hz'
   rcases hz' with rfl | rfl
   ·exact hz.2
   ·exact hxt
  ·simp only [List.mem_cons, List.not_mem_nil, or_false] at hz'
   rcases hz' with rfl | rfl
   ·rfl
   ·exact absurd hz0 (hset _ hx)
theorem lit_sets {V : Nat} {tr : List Int} (g : GoodT V tr) (ns es : List Tx) : ∀ (n : Nat) (e : Ex), SizeOf.sizeOf e ≤ n → (∀ s ∈ nmsE true e, s ∈ ns) → (∀ s ∈ nmsE false e, s ∈ es) → WfE e → ∀ c : Cs, ns.length + es.length ≤ c.1 →
  Fixd (litG ns es e c).2.2 tr → (∀ v : Nat, 1 ≤ v → v ≤ c.1 → isT tr v ≠ 0) → ∀ v : Nat, 1 ≤ v → v ≤ (litG ns es e c).2.1 → isT tr v ≠ 0
 | 0, e, hn, _, _, _, _, _ => by cases e <;> simp at hn
 | n + 1, e, hn, hN, hE, hw, c, hc => by
  have many : ∀ l : List Ex, (∀ x ∈ l, SizeOf.sizeOf x ≤ n) → (∀ s ∈ nmsL true l, s ∈ ns) → (∀ s ∈ nmsL false l, s ∈ es) → (∀ x ∈ l, WfE x) → ∀ c : Cs, ns.length + es.length ≤ c.1 →
    (Grows c (litsG ns es l c).2 ∧ ∀ x ∈ (litsG ns es l c).1, OkL (litsG ns es l c).2.1 x) ∧ (Fixd (litsG ns es l c).2.2 tr → (∀ v : Nat, 1 ≤ v → v ≤ c.1 → isT tr v ≠ 0) → ∀ v : Nat, 1 ≤ v → v ≤ (litsG ns es l c).2.1 → isT tr v ≠ 0) := by
   intro l
   induction l with
   | nil => intro _ _ _ _ c _; exact ⟨⟨Grows.refl c, by simp [litsG]⟩, fun _ h => h⟩
   | cons x l ih =>
    intro hs h1 h2 h3 c hc
    simp only [nmsL, List.mem_append] at h1 h2
    obtain ⟨a1, a2, _⟩ := lit_tells ns es n x (hs x (by simp)) (fun s h => h1 s (.inl h)) (fun s h => h2 s (.inl h)) (h3 x (by simp)) c hc
    have a4 := lit_sets g ns es n x (hs x (by simp)) (fun s h => h1 s (.inl h)) (fun s h => h2 s (.inl h)) (h3 x (by simp)) c hc
    obtain ⟨⟨b1, b2⟩, b3⟩ := ih (fun y hy => hs y (by simp [hy])) (fun s h => h1 s (.inr h)) (fun s h => h2 s (.inr h)) (fun y hy => h3 y (by simp [hy])) (litG ns es x c).2 (Nat.le_trans hc a1.vars)
    refine ⟨⟨a1.trans b1, ?_⟩, fun hf hset => ?_⟩
    ·simp only [litsG]
     intro y hy
     rcases List.mem_cons.1 hy with rfl | hy
     ·exact a2.mono b1.vars
     ·exact b2 y hy
    ·simp only [litsG] at hf ⊢
     obtain ⟨ex, he⟩ := b1.ext
     have hf1 : Fixd (litG ns es x c).2.2 tr := by rw [he] at hf; exact hf.app.1
     exact b3 hf (a4 hf1 hset)
  have new : ∀ {l : List Int} {d : Cs}, (∀ x ∈ l, OkL d.1 x) → (∀ v : Nat, 1 ≤ v → v ≤ d.1 → isT tr v ≠ 0) → Fixd (mkAnd l d).2.2 tr → ∀ v : Nat, 1 ≤ v → v ≤ (mkAnd l d).2.1 → isT tr v ≠ 0 := by
   intro l d hl hs hf v h1 h2
   have h3 : v ≤ d.1 + 1 := h2
   by_cases hv : v ≤ d.1
   ·exact hs v h1 hv
   ·obtain rfl : v = d.1 + 1 := by omega
    exact mkAnd_sets g hl hs hf
  have keep : ∀ {l : List Int} {d : Cs}, (∀ x ∈ l, OkL d.1 x) → Fixd (mkAnd l d).2.2 tr → Fixd d.2 tr := by
   intro l d hl hf
   obtain ⟨ex, he⟩ := (mkAnd_grows hl).ext
   rw [he] at hf; exact hf.app.1
  have hnm : ∀ {s : Tx}, nameF s = true → s ≠ [] := by
   intro s h e
   subst e; simp [nameF] at h
  cases e with
  | bit s => intro hf hs v h1 h2; exact hs v h1 h2
  | rise s =>
   rw [WfE] at hw
   have hne := hnm hw
   have hlt := ixT_lt (hN s (by simp [nmsE, nmE, one1, hne]))
   have hlt2 := ixT_lt (hE s (by simp [nmsE, nmE, one1, hne]))
   intro hf hs
   refine new (fun x hx => ?_) hs hf; simp only [List.mem_cons, List.not_mem_nil, or_false] at hx
   rcases hx with rfl | rfl <;> exact ⟨by omega, by omega, by omega⟩
  | fall s =>
   rw [WfE] at hw
   have hne := hnm hw
   have hlt := ixT_lt (hN s (by simp [nmsE, nmE, one1, hne]))
   have hlt2 := ixT_lt (hE s (by simp [nmsE, nmE, one1, hne]))
   intro hf hs
   refine new (fun x hx => ?_) hs hf; simp only [List.mem_cons, List.not_mem_nil, or_false] at hx
   rcases hx with rfl | rfl <;> exact ⟨by omega, by omega, by omega⟩
  | not x => exact lit_sets g ns es n x (by simp at hn; omega) hN hE (by simpa [WfE] using hw) c hc
  | and l =>
   obtain ⟨⟨a1, a2⟩, a3⟩ := many l (fun x hx => by have := List.sizeOf_lt_of_mem hx; simp only [Ex.and.sizeOf_spec] at hn; omega) hN hE ((WfEs_iff _).1 hw.2) c hc
   intro hf hs
   exact new a2 (a3 (keep a2 hf) hs) hf
  | or l =>
   obtain ⟨⟨a1, a2⟩, a3⟩ := many l (fun x hx => by have := List.sizeOf_lt_of_mem hx; simp only [Ex.or.sizeOf_spec] at hn; omega) hN hE ((WfEs_iff _).1 hw.2) c hc
   have a2' : ∀ x ∈ (litsG ns es l c).1.map fun x => -x, OkL (litsG ns es l c).2.1 x := by
    intro x hx
    obtain ⟨y, hy, rfl⟩ := List.mem_map.1 hx
    exact (a2 y hy).neg
   intro hf hs
   exact new a2' (a3 (keep a2' hf) hs) hf
  | cst b =>
   intro hf hs v h1 h2
   have h3 : v ≤ c.1 + 1 := h2
   by_cases hv : v ≤ c.1
   ·exact hs v h1 hv
   ·obtain rfl : v = c.1 + 1 := by omega
    intro h0
    have hz := isT_zero.1 h0
    obtain ⟨_, hf2⟩ := Fixd.app hf
    refine fixd_not hf2 (List.mem_singleton.2 rfl) (y := if b then (c.1 : Int) + 1 else -((c.1 : Int) + 1)) (fun x hx => ?_) (fun x hx => ?_) (fun x hx _ => List.mem_singleton.1 hx)
    ·rw [List.mem_singleton] at hx; subst hx
     cases b with
     | true => rw [if_pos rfl]; omega
     | false => rw [if_neg (by simp)]; omega
    ·rw [List.mem_singleton] at hx; subst hx
     cases b with
     | true => rw [if_pos rfl]; exact hz.1
     | false => rw [if_neg (by simp)]; exact hz.2
end Go.Proofs.YtagfbbnlbncjlaaGreatDoor
namespace Go.Proofs.YtagfbbnlbncjlaaGreatDoor
open Go.Av
def tsC (ns es : List Tx) (e : Ex) : Int × Cs := litG ns es e (ns.length + es.length, [])
def tsAll (ns es : List Tx) (e : Ex) : Cl := (tsC ns es e).2.2 ++ [[(tsC ns es e).1]]
section
variable {ns es : List Tx} {e : Ex} (hN : ∀ s ∈ nmsE true e, s ∈ ns) (hE : ∀ s ∈ nmsE false e, s ∈ es) (hw : WfE e)
include hN hE hw
theorem ts_tells : Tells1 ns es e (ns.length + es.length, []) := lit_tells ns es _ e (Nat.le_refl _) hN hE hw _ (Nat.le_refl _)
theorem ts_ok : OkC (tsC ns es e).2.1 (tsAll ns es e) := by
 obtain ⟨a1, a2, _⟩ := ts_tells hN hE hw
 intro c hc x hx
 rcases List.mem_append.1 hc with h | h
 ·exact a1.ok (fun c hc => by simp at hc) c h x hx
 ·rw [List.mem_singleton] at h; subst h; rw [List.mem_singleton] at hx; subst hx; exact a2
theorem ts_falls (tr : List Int) (g : GoodT (tsC ns es e).2.1 tr) (hs : (spreadF (tsAll ns es e) ((tsC ns es e).2.1 + 1) tr).1 = true) (hv : freeF (spreadF (tsAll ns es e) ((tsC ns es e).2.1 + 1) tr).2 1 (tsC ns es e).2.1 ≠ 0) :
  leftT (ns.length + es.length) ((spreadF (tsAll ns es e) ((tsC ns es e).2.1 + 1) tr).2 ++ [(freeF (spreadF (tsAll ns es e) ((tsC ns es e).2.1 + 1) tr).2 1 (tsC ns es e).2.1 : Int)]) < leftT (ns.length + es.length) tr ∧
   leftT (ns.length + es.length) ((spreadF (tsAll ns es e) ((tsC ns es e).2.1 + 1) tr).2 ++ [-(freeF (spreadF (tsAll ns es e) ((tsC ns es e).2.1 + 1) tr).2 1 (tsC ns es e).2.1 : Int)]) < leftT (ns.length + es.length) tr := by
 have ok := ts_ok hN hE hw
 have hsets : ∀ {tr1 : List Int}, GoodT (tsC ns es e).2.1 tr1 → Fixd (tsAll ns es e) tr1 → (∀ v : Nat, 1 ≤ v → v ≤ ns.length + es.length → isT tr1 v ≠ 0) → ∀ v : Nat, 1 ≤ v → v ≤ (tsC ns es e).2.1 → isT tr1 v ≠ 0 := fun g1 hf h0 =>
  lit_sets g1 ns es _ e (Nat.le_refl _) hN hE hw (ns.length + es.length, []) (Nat.le_refl _) hf.app.1 h0
 generalize tsAll ns es e = cs at ok hs hv hsets ⊢; generalize (tsC ns es e).2.1 = V at ok g hs hv hsets ⊢
 obtain ⟨⟨ext, a1⟩, a2, a3, _⟩ := spread_facts ok (V + 1) tr g (by have := leftT_le V tr; omega)
 have hfix : Fixd cs (spreadF cs (V + 1) tr).2 := (a3 hs).2
 generalize (spreadF cs (V + 1) tr).2 = tr1 at a1 a2 hfix hv ⊢
 obtain ⟨_, c2⟩ := free_facts tr1 V 1 (by decide)
 generalize freeF tr1 1 V = v at c2 hv ⊢
 obtain ⟨d1, d2, d3, d4⟩ := c2 hv
 have hm : v ≤ ns.length + es.length := by
  apply Classical.byContradiction
  intro hn
  exact hsets a2 hfix (fun w h1 h2 => d4 w h1 (by omega)) v d1 (by omega) d3
 have d3' : isT tr1 (-(v : Int)) = 0 := by rw [isT_neg a2, d3]; rfl
 have hm1 : leftT (ns.length + es.length) tr1 ≤ leftT (ns.length + es.length) tr := by rw [a1]; exact leftT_mono _ tr ext
 have l1 := leftT_lt (V := ns.length + es.length) (x := (v : Int)) (by omega) (by omega) (by omega) d3 []
 have l2 := leftT_lt (V := ns.length + es.length) (x := -(v : Int)) (by omega) (by omega) (by omega) d3' []
 exact ⟨by omega, by omega⟩
theorem ts_search :
  (searchF (tsAll ns es e) (tsC ns es e).2.1 (ns.length + es.length + 1) [] 0).2.2 + 1 ≤ 2^(ns.length + es.length + 1) ∧
   ((searchF (tsAll ns es e) (tsC ns es e).2.1 (ns.length + es.length + 1) [] 0).1 = true →
    evE (isTs ns (valT (searchF (tsAll ns es e) (tsC ns es e).2.1 (ns.length + es.length + 1) [] 0).2.1)) (wasTs ns es (valT (searchF (tsAll ns es e) (tsC ns es e).2.1 (ns.length + es.length + 1) [] 0).2.1)) e = true) ∧
   ((searchF (tsAll ns es e) (tsC ns es e).2.1 (ns.length + es.length + 1) [] 0).1 = false → ∀ is was : Tx → Bool, evE is was e = false) := by
 have ok := ts_ok hN hE hw
 obtain ⟨a1, a2, a3⟩ := ts_tells hN hE hw
 obtain ⟨s1, s2, s3⟩ := search_factsM ok (leftT (ns.length + es.length)) (fun tr g h1 h2 => ts_falls hN hE hw tr g h1 h2) (ns.length + es.length + 1) [] 0 (GoodT.nil _) (by have := leftT_le (ns.length + es.length) []; omega)
 refine ⟨by omega, fun h => ?_, fun h is was => ?_⟩
 ·obtain ⟨_, _, _, hm, _⟩ := s2 h
  obtain ⟨m1, m2⟩ := models_app.1 hm
  have h3 := a3 _ m1
  obtain ⟨x, hx, hb⟩ := m2 _ (List.mem_singleton.2 rfl)
  rw [List.mem_singleton] at hx; subst hx; rw [← h3]; exact hb
 ·obtain ⟨_, hno⟩ := s3 h
  cases hv : evE is was e with
  | false => rfl
  | true =>
   exfalso
   let β : Nat → Bool := fun v => if v ≤ ns.length then is (ns.getD (v - 1) []) else was (es.getD (v - 1 - ns.length) [])
   obtain ⟨γ, hg1, hg2⟩ := a1.can (fun c hc => by simp at hc) β (fun c hc => by simp at hc)
   have h3 := a3 γ hg2
   have hi : ∀ s ∈ nmsE true e, isTs ns γ s = is s := fun s hs => by
    have hsn := hN s hs
    have hlt := ixT_lt hsn
    unfold isTs; rw [hg1 _ (by show ixT ns s + 1 ≤ ns.length + es.length; omega)]
    show (if ixT ns s + 1 ≤ ns.length then is (ns.getD (ixT ns s + 1 - 1) []) else _) = is s
    rw [if_pos (by omega)]
    congr 1
    have := ixT_get hsn
    simp [hlt, this]
   have hwas : ∀ s ∈ nmsE false e, wasTs ns es γ s = was s := fun s hs => by
    have hsn := hE s hs
    have hlt := ixT_lt hsn
    unfold wasTs; rw [hg1 _ (by show ns.length + ixT es s + 1 ≤ ns.length + es.length; omega)]
    show (if ns.length + ixT es s + 1 ≤ ns.length then _ else was (es.getD (ns.length + ixT es s + 1 - 1 - ns.length) [])) = was s
    rw [if_neg (by omega)]
    congr 1
    have := ixT_get hsn
    have e1 : ns.length + ixT es s + 1 - 1 - ns.length = ixT es s := by omega
    rw [e1]; simp [hlt, this]
   rw [ev_names _ _ is was _ e (Nat.le_refl _) hw hi hwas, hv] at h3; refine hno γ (fun x hx => by cases hx) (models_app.2 ⟨hg2, fun c hc => ?_⟩); rw [List.mem_singleton] at hc; subst hc; exact ⟨_, List.mem_singleton.2 rfl, h3⟩
end
end Go.Proofs.YtagfbbnlbncjlaaGreatDoor
namespace Go.Proofs.YtagfbbnlbncjlaaGreatDoor
open Go.Av
theorem mkAnd_size (l : List Int) (c : Cs) : (mkAnd l c).2.1 = c.1 + 1 ∧ (mkAnd l c).2.2.length = c.2.length + l.length + 1 := by
 unfold mkAnd; refine ⟨rfl, ?_⟩; simp
 omega
theorem lit_size (ns es : List Tx) : ∀ (n : Nat) (e : Ex), SizeOf.sizeOf e ≤ n → ∀ c : Cs, (litG ns es e c).2.1 ≤ c.1 + szN e ∧ (litG ns es e c).2.2.length + 1 ≤ c.2.length + 4 * szN e
 | 0, e, hn, _ => by cases e <;> simp at hn
 | n + 1, e, hn, c => by
  have many : ∀ l : List Ex, (∀ x ∈ l, SizeOf.sizeOf x ≤ n) → ∀ c : Cs, (litsG ns es l c).2.1 ≤ c.1 + szNs l ∧ (litsG ns es l c).2.2.length + l.length ≤ c.2.length + 4 * szNs l ∧ (litsG ns es l c).1.length = l.length := by
   intro l
   induction l with
   | nil => intro _ c; exact ⟨by simp [litsG], by simp [litsG], rfl⟩
   | cons x l ih =>
    intro hs c
    obtain ⟨a1, a2⟩ := lit_size ns es n x (hs x (by simp)) c
    obtain ⟨b1, b2, b3⟩ := ih (fun y hy => hs y (by simp [hy])) (litG ns es x c).2
    simp only [litsG, szNs, List.length_cons, b3]; exact ⟨by omega, by omega, trivial⟩
  cases e with
  | cst b => simp only [litG, szN, List.length_append, List.length_singleton]; exact ⟨by omega, by omega⟩
  | bit s => simp only [litG, szN]; exact ⟨by omega, by omega⟩
  | rise s =>
   have h := mkAnd_size [(ixT ns s : Int) + 1, -((ns.length : Int) + ixT es s + 1)] c
   simp only [litG, szN]; rw [h.1, h.2]; simp only [List.length_cons, List.length_nil]; exact ⟨by omega, by omega⟩
  | fall s =>
   have h := mkAnd_size [-((ixT ns s : Int) + 1), (ns.length : Int) + ixT es s + 1] c
   simp only [litG, szN]; rw [h.1, h.2]; simp only [List.length_cons, List.length_nil]; exact ⟨by omega, by omega⟩
  | not x =>
   obtain ⟨a1, a2⟩ := lit_size ns es n x (by simp at hn; omega) c
   simp only [litG, szN]; exact ⟨by omega, by omega⟩
  | and l =>
   obtain ⟨a1, a2, a3⟩ := many l (fun x hx => by have := List.sizeOf_lt_of_mem hx; simp only [Ex.and.sizeOf_spec] at hn; omega) c
   have h := mkAnd_size (litsG ns es l c).1 (litsG ns es l c).2
   simp only [litG, szN]; rw [h.1, h.2, a3]; exact ⟨by omega, by omega⟩
  | or l =>
   obtain ⟨a1, a2, a3⟩ := many l (fun x hx => by have := List.sizeOf_lt_of_mem hx; simp only [Ex.or.sizeOf_spec] at hn; omega) c
   have h := mkAnd_size ((litsG ns es l c).1.map fun x => -x) (litsG ns es l c).2
   simp only [litG, szN]; rw [h.1, h.2, List.length_map, a3]; exact ⟨by omega, by omega⟩
end Go.Proofs.YtagfbbnlbncjlaaGreatDoor
namespace Go.Proofs.YtagfbbnlbncjlaaGreatDoor
open Go.Av
def badL (V x : Int) : Bool := decide (x = 0) || (decide (V < x) || decide (x < -V))
def gbad (V : Int) : Cl → Nat → Option (Int × Option Nat)
 | [], _ => none
 | c :: cs, i => if c.any (badL V) then some (2, some i) else gbad V cs (i + 1)
def gateE (V : Int) (cs : Cl) : Option (Int × Option Nat) := if V < 0 ∨ 1000 < V ∨ 3000 < cs.length then some (4, none) else gbad V cs 0
def dCl (V : Int) (cs : Cl) : D := .agg [dNum V, dRows cs]
theorem gcheck1_spec (G : Glob) (V x : Int) (cs : D) (h0 : 0 ≤ V) (h1 : V ≤ 1000) : PureC Tryz.prog G 84 [dNum x, .ip [dNum V, cs]] (.v (.bool (badL V x))) := by
 unfold badL
 by_cases hx : x = 0
 ·refine PureC.of_body (tyOf_good _) Tryz.func84 rfl rfl (rs := [.tmp 3]) Tryz.results84 (by simp [Tryz.ntmps84]) fun X => ?_; simp only [Tryz.ntmps84, List.map]; refine rg [0, 1] [] (fun _ _ => trivial) fun K' hK' => ?_; (repeat (refine sxn fun K2 hK2 => ?_; simp [dNum]; (repeat (refine ⟨by omega, ?_⟩)); refine hK2 _ ?_; clear hK2 K2)); refine sxz (hK' _ (AW.st (by simp [dNum]; rfl) ?_)); clear hK' K'; refine rg [3] [] (fun _ _ => trivial) fun K' hK' => ?_; (repeat (refine sxn fun K2 hK2 => ?_; simp [dNum, hx]; (repeat (refine ⟨by omega, ?_⟩)); refine hK2 _ ?_; clear hK2 K2)); refine sxz (hK' _ (AW.st (by simp [dNum, hx]; rfl) ?_)); clear hK' K'; refine AW_ret ?_; simp [D.le, D.le.go, takeMap, dNum, hx]
 ·by_cases h2 : V < x
  ·refine PureC.of_body (tyOf_good _) Tryz.func84 rfl rfl (rs := [.tmp 3]) Tryz.results84 (by simp [Tryz.ntmps84]) fun X => ?_; simp only [Tryz.ntmps84, List.map]; refine rg [0, 1] [] (fun _ _ => trivial) fun K' hK' => ?_; (repeat (refine sxn fun K2 hK2 => ?_; simp [dNum]; (repeat (refine ⟨by omega, ?_⟩)); refine hK2 _ ?_; clear hK2 K2)); refine sxz (hK' _ (AW.st (by simp [dNum]; rfl) ?_)); clear hK' K'; refine rg [3] [] (fun _ _ => trivial) fun K' hK' => ?_; (repeat (refine sxn fun K2 hK2 => ?_; simp [dNum, hx, h2]; (repeat (refine ⟨by omega, ?_⟩)); refine hK2 _ ?_; clear hK2 K2)); refine sxz (hK' _ (AW.st (by simp [dNum, hx, h2]; rfl) ?_)); clear hK' K'; refine AW_ret ?_; simp [D.le, D.le.go, takeMap, dNum, hx, h2]
  ·by_cases h3 : x < -V
   ·refine PureC.of_body (tyOf_good _) Tryz.func84 rfl rfl (rs := [.tmp 3]) Tryz.results84 (by simp [Tryz.ntmps84]) fun X => ?_; simp only [Tryz.ntmps84, List.map]; refine rg [0, 1] [] (fun _ _ => trivial) fun K' hK' => ?_; (repeat (refine sxn fun K2 hK2 => ?_; simp [dNum]; (repeat (refine ⟨by omega, ?_⟩)); refine hK2 _ ?_; clear hK2 K2)); refine sxz (hK' _ (AW.st (by simp [dNum]; rfl) ?_)); clear hK' K'; refine rg [3] [] (fun _ _ => trivial) fun K' hK' => ?_; (repeat (refine sxn fun K2 hK2 => ?_; simp [dNum, hx, h2, h3]; (repeat (refine ⟨by omega, ?_⟩)); refine hK2 _ ?_; clear hK2 K2)); refine sxz (hK' _ (AW.st (by simp [dNum, hx, h2, h3]; rfl) ?_)); clear hK' K'; refine AW_ret ?_; simp [D.le, D.le.go, takeMap, dNum, hx, h2, h3]
   ·refine PureC.of_body (tyOf_good _) Tryz.func84 rfl rfl (rs := [.tmp 3]) Tryz.results84 (by simp [Tryz.ntmps84]) fun X => ?_; simp only [Tryz.ntmps84, List.map]; refine rg [0, 1] [] (fun _ _ => trivial) fun K' hK' => ?_; (repeat (refine sxn fun K2 hK2 => ?_; simp [dNum]; (repeat (refine ⟨by omega, ?_⟩)); refine hK2 _ ?_; clear hK2 K2)); refine sxz (hK' _ (AW.st (by simp [dNum]; rfl) ?_)); clear hK' K'; refine rg [3] [] (fun _ _ => trivial) fun K' hK' => ?_; (repeat (refine sxn fun K2 hK2 => ?_; simp [dNum, hx, h2, h3]; (repeat (refine ⟨by omega, ?_⟩)); refine hK2 _ ?_; clear hK2 K2)); refine sxz (hK' _ (AW.st (by simp [dNum, hx, h2, h3]; rfl) ?_)); clear hK' K'; refine AW_ret ?_; simp [D.le, D.le.go, takeMap, dNum, hx, h2, h3]
set_option maxHeartbeats 4000000 in
theorem gcheck_spec (G : Glob) (V : Int) (cs : Cl) (hl : cs.length < 2^60) (hr : ∀ c ∈ cs, c.length < 2^60) : PureC Tryz.prog G 53 [dCl V cs] (dErr (gateE V cs)) := by
 by_cases h1 : V < 0
 ·rw [show gateE V cs = some (4, none) by unfold gateE; rw [if_pos (.inl h1)]]; refine PureC.of_body (tyOf_good _) Tryz.func53 rfl rfl (rs := [.tmp 2]) Tryz.results53 (by simp [Tryz.ntmps53]) fun X => ?_; simp only [Tryz.ntmps53, List.map]; refine rg [1] [1] (fun _ _ => trivial) fun K' hK' => ?_; (repeat (refine sxn fun K2 hK2 => ?_; simp [dNum, dCl]; (repeat (refine ⟨by omega, ?_⟩)); refine hK2 _ ?_; clear hK2 K2)); refine sxz (hK' _ (AW.st (by simp [dNum, dCl]; rfl) ?_)); clear hK' K'; refine AW_then fun K1 hK1 => ?_; refine rg [1, 18] [1] (fun _ _ => trivial) fun K' hK' => ?_; (repeat (refine sxn fun K2 hK2 => ?_; simp [dNum, h1]; (repeat (refine ⟨by omega, ?_⟩)); refine hK2 _ ?_; clear hK2 K2)); refine sxz (hK' _ (AW.st (by simp [dNum, h1]; rfl) ?_)); clear hK' K'; refine AW_tt rfl ?_; refine rg [2] [] (fun _ _ => trivial) fun K' hK' => ?_; (repeat (refine sxn fun K2 hK2 => ?_; simp [dNum]; (repeat (refine ⟨by omega, ?_⟩)); refine hK2 _ ?_; clear hK2 K2)); refine sxz (hK' _ (AW.st (by simp [dNum]; rfl) ?_)); clear hK' K'; refine AW_ret ?_; simp [D.le, D.le.go, takeMap, dNum, dErr]
 by_cases h2 : 1000 < V
 ·rw [show gateE V cs = some (4, none) by unfold gateE; rw [if_pos (.inr (.inl h2))]]; refine PureC.of_body (tyOf_good _) Tryz.func53 rfl rfl (rs := [.tmp 2]) Tryz.results53 (by simp [Tryz.ntmps53]) fun X => ?_; simp only [Tryz.ntmps53, List.map]; refine rg [1] [1] (fun _ _ => trivial) fun K' hK' => ?_; (repeat (refine sxn fun K2 hK2 => ?_; simp [dNum, dCl]; (repeat (refine ⟨by omega, ?_⟩)); refine hK2 _ ?_; clear hK2 K2)); refine sxz (hK' _ (AW.st (by simp [dNum, dCl]; rfl) ?_)); clear hK' K'; refine AW_then fun K1 hK1 => ?_; refine rg [1, 18] [1] (fun _ _ => trivial) fun K' hK' => ?_; (repeat (refine sxn fun K2 hK2 => ?_; simp [dNum, h1, h2]; (repeat (refine ⟨by omega, ?_⟩)); refine hK2 _ ?_; clear hK2 K2)); refine sxz (hK' _ (AW.st (by simp [dNum, h1, h2]; rfl) ?_)); clear hK' K'; refine AW_tt rfl ?_; refine rg [2] [] (fun _ _ => trivial) fun K' hK' => ?_; (repeat (refine sxn fun K2 hK2 => ?_; simp [dNum]; (repeat (refine ⟨by omega, ?_⟩)); refine hK2 _ ?_; clear hK2 K2)); refine sxz (hK' _ (AW.st (by simp [dNum]; rfl) ?_)); clear hK' K'; refine AW_ret ?_; simp [D.le, D.le.go, takeMap, dNum, dErr]
 by_cases h3 : (3000 : Int) < cs.length
 ·rw [show gateE V cs = some (4, none) by unfold gateE; rw [if_pos (.inr (.inr (by omega)))]]; refine PureC.of_body (tyOf_good _) Tryz.func53 rfl rfl (rs := [.tmp 2]) Tryz.results53 (by simp [Tryz.ntmps53]) fun X => ?_; simp only [Tryz.ntmps53, List.map]; refine rg [1] [1] (fun _ _ => trivial) fun K' hK' => ?_; (repeat (refine sxn fun K2 hK2 => ?_; simp [dNum, dCl]; (repeat (refine ⟨by omega, ?_⟩)); refine hK2 _ ?_; clear hK2 K2)); refine sxz (hK' _ (AW.st (by simp [dNum, dCl]; rfl) ?_)); clear hK' K'; refine AW_then fun K1 hK1 => ?_; refine rg [1, 18] [1] (fun _ _ => trivial) fun K' hK' => ?_; (repeat (refine sxn fun K2 hK2 => ?_; simp [dNum, h1, h2, dRows, h3]; (repeat (refine ⟨by omega, ?_⟩)); refine hK2 _ ?_; clear hK2 K2)); refine sxz (hK' _ (AW.st (by simp [dNum, h1, h2, dRows, h3]; rfl) ?_)); clear hK' K'; refine AW_tt rfl ?_; refine rg [2] [] (fun _ _ => trivial) fun K' hK' => ?_; (repeat (refine sxn fun K2 hK2 => ?_; simp [dNum]; (repeat (refine ⟨by omega, ?_⟩)); refine hK2 _ ?_; clear hK2 K2)); refine sxz (hK' _ (AW.st (by simp [dNum]; rfl) ?_)); clear hK' K'; refine AW_ret ?_; simp [D.le, D.le.go, takeMap, dNum, dErr]
 rw [show gateE V cs = gbad V cs 0 by unfold gateE; rw [if_neg (by omega)]]; refine PureC.of_body (tyOf_good _) Tryz.func53 rfl rfl (rs := [.tmp 2]) Tryz.results53 (by simp [Tryz.ntmps53]) fun X => ?_; simp only [Tryz.ntmps53, List.map]; refine rg [1] [1] (fun _ _ => trivial) fun K' hK' => ?_; (repeat (refine sxn fun K2 hK2 => ?_; simp [dNum, dCl]; (repeat (refine ⟨by omega, ?_⟩)); refine hK2 _ ?_; clear hK2 K2)); refine sxz (hK' _ (AW.st (by simp [dNum, dCl]; rfl) ?_)); clear hK' K'; refine AW_then fun K1 hK1 => ?_; refine rg [1, 18] [1] (fun _ _ => trivial) fun K' hK' => ?_; (repeat (refine sxn fun K2 hK2 => ?_; simp [dNum, h1, h2, dRows, h3]; (repeat (refine ⟨by omega, ?_⟩)); refine hK2 _ ?_; clear hK2 K2)); refine sxz (hK' _ (AW.st (by simp [dNum, h1, h2, dRows, h3]; rfl) ?_)); clear hK' K'; refine AW_ff rfl ?_; refine AW_skip (hK1 _ ?_); refine AW.imp (Imp.freezeB 1 trivial) ?_; refine AW.st (by simp [dNum]; rfl) ?_; refine AW_then fun K2 hK2 => ?_; refine rg [1, 21, 22, 23] [] (fun _ _ => trivial) fun K' hK' => ?_; (repeat (refine sxn fun K2 hK2 => ?_; simp [dNum, dRows]; (repeat (refine ⟨by omega, ?_⟩)); refine hK2 _ ?_; clear hK2 K2)); refine sxz (hK' _ (AW.st (by simp [dNum, dRows]; rfl) ?_)); clear hK' K'; refine AW_for (S := Nat) (fun i => i ≤ cs.length ∧ gbad V (cs.drop i) i = gbad V cs 0) (fun i => ⟨lst [(1, .d (.ip [dNum V, dRows cs])), (21, .d (dRows cs)), (22, int cs.length), (23, int i)], hlst []⟩) (fun i => cs.length - i) 0 ?_ (by simp) ?_
 ·refine Imp.to' (fun _ _ => trivial) (by simp [dNum, dRows]) (by simp [dNum, dRows])
 ·rintro i ⟨hi, hb⟩
  refine rg [1, 21, 22, 23, 24] [] (fun _ _ => trivial) fun K' hK' => ?_; (repeat (refine sxn fun K2 hK2 => ?_; simp [dNum]; (repeat (refine ⟨by omega, ?_⟩)); refine hK2 _ ?_; clear hK2 K2)); refine sxz (hK' _ (AW.st (by simp [dNum]; rfl) ?_)); clear hK' K'; refine AW_then fun K3 hK3 => ?_; refine AW_cond' (b := i < cs.length) (by simp [D.le, D.le.go, takeMap, dNum]) (fun hc => ?_) (fun hc => ?_)
  ·have hil : i < cs.length := hc
   have hrl := hr _ (List.getElem_mem hil)
   rw [List.drop_eq_getElem_cons hil, gbad] at hb
   have hany := containsInt_spec G none dNum cs[i] 84 [.ip [dNum V, dRows cs]] (badL V) (by omega) (fun x _ => gcheck1_spec G V x (dRows cs) (by omega) (by omega))
   refine AW_skip (hK3 _ ?_); refine AW_then fun K4 hK4 => ?_; refine AW_block ?_; refine rg [1, 3, 4, 21, 22, 23] [] (fun _ _ => trivial) fun K' hK' => ?_; (repeat (refine sxn fun K2 hK2 => ?_; simp [dNum, dRows, dRow, dInts, hil]; (repeat (refine ⟨by omega, ?_⟩)); refine hK2 _ ?_; clear hK2 K2)); refine sxz (hK' _ (AW.st (by simp [dNum, dRows, dRow, dInts, hil]; rfl) ?_)); clear hK' K'
   cases ha : cs[i].any (badL V) with
   | true =>
    rw [ha] at hany; rw [ha, if_pos rfl] at hb; refine rg [1, 3, 21, 22, 23, 30] [] (fun _ _ => trivial) fun K' hK' => ?_; (repeat (refine sxn fun K2 hK2 => ?_; simp [dNum, dRows, dRow, dInts]; (repeat (refine ⟨by omega, ?_⟩)); refine hK2 _ ?_; clear hK2 K2)); refine sxn fun K2 hK2 => ?_; simp [dNum, dRows, dRow, dInts]; refine callK.data (hany) (by simp; rfl) (by first | exact D.leGo_refl _ | simp [takeMap, List.map_map, Function.comp_def, D.le, D.le.go, D.le_refl, D.leGo_refl, dNum, dRows, dRow, dInts]) ?_; refine hK2 _ ?_; clear hK2 K2; simp only [putd, upd_lst]; (repeat (refine sxn fun K2 hK2 => ?_; simp [dNum, dRows, dRow, dInts]; (repeat (refine ⟨by omega, ?_⟩)); refine hK2 _ ?_; clear hK2 K2)); refine sxz (hK' _ (AW.st (by simp [dNum, dRows, dRow, dInts]; rfl) ?_)); clear hK' K'; refine AW_tt rfl ?_; refine rg [2] [33] (fun _ _ => trivial) fun K' hK' => ?_; (repeat (refine sxn fun K2 hK2 => ?_; simp [dNum]; (repeat (refine ⟨by omega, ?_⟩)); refine hK2 _ ?_; clear hK2 K2)); refine sxz (hK' _ (AW.st (by simp [dNum]; rfl) ?_)); clear hK' K'; rw [← hb]; refine AW_ret ?_; simp [D.le, D.le.go, takeMap, dNum, dErr]
   | false =>
    rw [ha] at hany; rw [ha, if_neg (by decide)] at hb; refine rg [1, 3, 21, 22, 23, 30] [] (fun _ _ => trivial) fun K' hK' => ?_; (repeat (refine sxn fun K2 hK2 => ?_; simp [dNum, dRows, dRow, dInts]; (repeat (refine ⟨by omega, ?_⟩)); refine hK2 _ ?_; clear hK2 K2)); refine sxn fun K2 hK2 => ?_; simp [dNum, dRows, dRow, dInts]; refine callK.data (hany) (by simp; rfl) (by first | exact D.leGo_refl _ | simp [takeMap, List.map_map, Function.comp_def, D.le, D.le.go, D.le_refl, D.leGo_refl, dNum, dRows, dRow, dInts]) ?_; refine hK2 _ ?_; clear hK2 K2; simp only [putd, upd_lst]; (repeat (refine sxn fun K2 hK2 => ?_; simp [dNum, dRows, dRow, dInts]; (repeat (refine ⟨by omega, ?_⟩)); refine hK2 _ ?_; clear hK2 K2)); refine sxz (hK' _ (AW.st (by simp [dNum, dRows, dRow, dInts]; rfl) ?_)); clear hK' K'; refine AW_ff rfl ?_; refine AW_skip ?_; refine hK4 _ (AW.norm [1, 21, 22, 23] [] (fun _ _ => trivial) (AW.st (by simp [dNum]; rfl) ?_)); refine AW_re (tyOf_good _) fun K' hK' => ?_; (repeat (refine sxn fun K2 hK2 => ?_; simp [dNum]; (repeat (refine ⟨by omega, ?_⟩)); refine hK2 _ ?_; clear hK2 K2)); refine sxz (hK' _ ?_); clear hK' K'; (try simp only [thn, inb]); refine Again.mk (i + 1) ⟨by omega, hb⟩ (by omega) ?_; refine Imp.to' (fun _ _ => trivial) (by simp [dNum, dRows, dRow, dInts]) (by simp [dNum, dRows, dRow, dInts])
  ·obtain rfl : i = cs.length := by omega
   rw [List.drop_length, gbad] at hb; refine AW_exit (hK2 _ ?_); refine rg [2] [] (fun _ _ => trivial) fun K' hK' => ?_; (repeat (refine sxn fun K2 hK2 => ?_; simp [dNum]; (repeat (refine ⟨by omega, ?_⟩)); refine hK2 _ ?_; clear hK2 K2)); refine sxz (hK' _ (AW.st (by simp [dNum]; rfl) ?_)); clear hK' K'; rw [← hb]; refine AW_ret ?_; simp [D.le, D.le.go, takeMap, dNum, dErr]
def ofL (V : Nat) (tr : List Int) : List (List D) := (List.range (V + 1)).map fun (v : Nat) => [dNum (isT tr (v : Int))]
def trL (tr : List Int) : List (List D) := tr.map fun x => [dNum x.natAbs]
def solR (V : Nat) (cs : Cl) (tr : List Int) (k : Nat) : List (Nat × Row) := [(22, .box 107 [.d (dNum V), .d (dRows cs), .own 20 0 (V + 1), .own 502 0 tr.length, .d (dNum k)]), (20, .sl 3 1 (ofL V tr)), (502, .sl 3 1 (trL tr))]
theorem ofL_len (V : Nat) (tr : List Int) : (ofL V tr).length = V + 1 := by simp [ofL]
theorem ofL_get {V v : Nat} (tr : List Int) (h : v < V + 1) : (ofL V tr)[v]? = some [dNum (isT tr v)] := by simp [ofL, h]
theorem ofL_at {V v : Nat} (tr : List Int) (h : v < (ofL V tr).length) : (ofL V tr)[v]'h = [dNum (isT tr (v : Int))] := by simp [ofL]
theorem isT_bd (tr : List Int) (x : Int) : -1 ≤ isT tr x ∧ isT tr x ≤ 1 := by
 unfold isT; repeat' split
 all_goals decide
theorem isT_snoc {tr : List Int} {x y : Int} (h1 : x ≠ y) (h2 : x ≠ -y) : isT (tr ++ [x]) y = isT tr y := by
 unfold isT
 have e1 : y ∈ tr ++ [x] ↔ y ∈ tr := by simp [Ne.symm h1]
 have e2 : -y ∈ tr ++ [x] ↔ -y ∈ tr := by simp [Ne.symm h2]
 simp only [e1, e2]
theorem ofL_set {V v : Nat} {tr : List Int} {x s : Int} (hs : (x = v ∧ s = 1) ∨ (x = -v ∧ s = -1)) (hv : 1 ≤ v) (hx : isT tr x = 0) : (ofL V tr).set v [dNum s] = ofL V (tr ++ [x]) := by
 apply List.ext_getElem
 ·simp [ofL]
 ·intro j h1 h2
  rw [List.getElem_set]; simp only [ofL, List.getElem_map, List.getElem_range]; rw [isT_zero] at hx
  split
  ·rename_i e
   subst e
   rcases hs with ⟨rfl, rfl⟩ | ⟨rfl, rfl⟩
   ·rw [isT_one.2 (by simp)]
   ·have : isT (tr ++ [-(v : Int)]) v = -1 := by
     unfold isT; rw [if_neg (by simp at hx ⊢; exact ⟨hx.2, by omega⟩), if_pos (by simp)]
    rw [this]
  ·rename_i e
   rw [isT_snoc (by omega) (by omega)]
theorem is_spec (G : Glob) (V : Nat) (hV : V < 2^20) (tr : List Int) (g : GoodT V tr) (cs tl k : D) (x : Int) (h0 : x ≠ 0) (h1 : x ≤ V) (h2 : -V ≤ x) :
  PureC Tryz.prog G 110 [.ip [dNum V, cs, .sl none (ofL V tr), tl, k], dNum x] (dNum (isT tr x)) := by
 have hlen := ofL_len V tr
 have hget := fun v h => ofL_get (V := V) (v := v) tr h
 generalize ofL V tr = O at hlen hget
 by_cases hx : x < 0
 ·obtain ⟨v, rfl⟩ : ∃ v : Nat, x = -v := ⟨x.natAbs, by omega⟩
  have hv : v < V + 1 := by omega
  have hv1 : 0 < v := by omega
  have hvI : (v : Int) < (V : Int) + 1 := by omega
  have e := isT_neg g (v : Int)
  have hb := isT_bd tr (v : Int)
  have hgv : ∀ h : v < O.length, O[v]'h = [dNum (isT tr (v : Int))] := fun h => by have h' := hget v hv; rw [List.getElem?_eq_getElem h] at h'; exact Option.some.inj h'
  rw [e]; generalize isT tr (v : Int) = s at hb hgv; refine PureC.of_body (tyOf_good _) Tryz.func110 rfl rfl (rs := [.tmp 4]) Tryz.results110 (by simp [Tryz.ntmps110]) fun X => ?_; simp only [Tryz.ntmps110, List.map]; refine rg [0, 1] [] (fun _ _ => trivial) fun K' hK' => ?_; (repeat (refine sxn fun K2 hK2 => ?_; simp [dNum]; (repeat (refine ⟨by omega, ?_⟩)); refine hK2 _ ?_; clear hK2 K2)); refine sxz (hK' _ (AW.st (by simp [dNum]; rfl) ?_)); clear hK' K'; refine AW_then fun K1 hK1 => ?_; refine rg [0, 1, 6] [] (fun _ _ => trivial) fun K' hK' => ?_; (repeat (refine sxn fun K2 hK2 => ?_; simp [dNum, hv1]; (repeat (refine ⟨by omega, ?_⟩)); refine hK2 _ ?_; clear hK2 K2)); refine sxz (hK' _ (AW.st (by simp [dNum, hv1]; rfl) ?_)); clear hK' K'; refine AW_tt rfl ?_; refine rg [4] [] (fun _ _ => trivial) fun K' hK' => ?_; (repeat (refine sxn fun K2 hK2 => ?_; simp [dNum, hlen, hv, hvI, hgv]; (repeat (refine ⟨by omega, ?_⟩)); refine hK2 _ ?_; clear hK2 K2)); refine sxz (hK' _ (AW.st (by simp [dNum, hlen, hv, hvI, hgv]; rfl) ?_)); clear hK' K'; refine AW_ret ?_; simp [D.le, D.le.go, takeMap, dNum]
 ·obtain ⟨v, rfl⟩ : ∃ v : Nat, x = v := ⟨x.natAbs, by omega⟩
  have hv : v < V + 1 := by omega
  have hvI : (v : Int) < (V : Int) + 1 := by omega
  have hgv : ∀ h : v < O.length, O[v]'h = [dNum (isT tr (v : Int))] := fun h => by have h' := hget v hv; rw [List.getElem?_eq_getElem h] at h'; exact Option.some.inj h'
  generalize isT tr (v : Int) = s at hgv; refine PureC.of_body (tyOf_good _) Tryz.func110 rfl rfl (rs := [.tmp 4]) Tryz.results110 (by simp [Tryz.ntmps110]) fun X => ?_; simp only [Tryz.ntmps110, List.map]; refine rg [0, 1] [] (fun _ _ => trivial) fun K' hK' => ?_; (repeat (refine sxn fun K2 hK2 => ?_; simp [dNum]; (repeat (refine ⟨by omega, ?_⟩)); refine hK2 _ ?_; clear hK2 K2)); refine sxz (hK' _ (AW.st (by simp [dNum]; rfl) ?_)); clear hK' K'; refine AW_then fun K1 hK1 => ?_; refine rg [0, 1, 6] [] (fun _ _ => trivial) fun K' hK' => ?_; (repeat (refine sxn fun K2 hK2 => ?_; simp [dNum]; (repeat (refine ⟨by omega, ?_⟩)); refine hK2 _ ?_; clear hK2 K2)); refine sxz (hK' _ (AW.st (by simp [dNum]; rfl) ?_)); clear hK' K'; refine AW_ff rfl ?_; refine AW_skip (hK1 _ ?_); refine rg [4] [] (fun _ _ => trivial) fun K' hK' => ?_; (repeat (refine sxn fun K2 hK2 => ?_; simp [dNum, hlen, hv, hvI, hgv]; (repeat (refine ⟨by omega, ?_⟩)); refine hK2 _ ?_; clear hK2 K2)); refine sxz (hK' _ (AW.st (by simp [dNum, hlen, hv, hvI, hgv]; rfl) ?_)); clear hK' K'; refine AW_ret ?_; simp [D.le, D.le.go, takeMap, dNum]
set_option maxHeartbeats 4000000 in
theorem set_spec (G : Glob) (V : Nat) (hV : V < 2^20) (cs : Cl) (tr : List Int) (k : Nat) (htl : tr.length < 2^20) (x : Int) (h0 : x ≠ 0) (h1 : x ≤ V) (h2 : -V ≤ x) (hx : isT tr x = 0) :
  MC Tryz.prog G [22, 20] 88 [.ref 22 0 0, .d (dNum x)] (hlst (solR V cs tr k)) (.d (.tup [])) (hlst (solR V cs (tr ++ [x]) k)) := by
 have hlen := ofL_len V tr
 have htk : ∀ g : Int → List D, List.take tr.length (tr.map g) = tr.map g := fun g => List.take_of_length_le (by simp)
 by_cases hn : x < 0
 ·obtain ⟨v, rfl⟩ : ∃ v : Nat, x = -v := ⟨x.natAbs, by omega⟩
  have hv : v < V + 1 := by omega
  have hv1 : 0 < v := by omega
  have hvI : (v : Int) < (V : Int) + 1 := by omega
  have hset := ofL_set (V := V) (v := v) (tr := tr) (.inr ⟨rfl, rfl⟩) hv1 hx
  have hmx : (if -(v : Int) < v then (v : Int) else -(v : Int)) = v := if_pos (by omega)
  refine MC.of_body (tyOf_good _) Tryz.func88 rfl rfl (rs := []) Tryz.results88 (by simp [Tryz.ntmps88]) rfl fun X => ?_; simp only [Tryz.ntmps88]; simp only [solR]; refine AW_then fun K1 hK1 => ?_; refine rg [0, 1, 5] [22, 20, 502] (notIn_ok rfl) fun K' hK' => ?_; (repeat (refine sxn fun K2 hK2 => ?_; simp [dNum, hv1]; (repeat (refine ⟨by omega, ?_⟩)); refine hK2 _ ?_; clear hK2 K2)); refine sxz (hK' _ (AW.st (by simp [dNum, hv1]; rfl) ?_)); clear hK' K'; refine AW_tt rfl ?_; refine AW_re (tyOf_good _) fun K' hK' => ?_; (repeat (refine sxn fun K2 hK2 => ?_; simp [dNum, hlen, hv, hvI]; (repeat (refine ⟨by omega, ?_⟩)); refine hK2 _ ?_; clear hK2 K2)); refine sxz (hK' _ ?_); clear hK' K'; refine hK1 _ (AW.norm [0, 1] [22, 20, 502] (notIn_ok rfl) (AW.st (by simp [dNum, hlen, hv, hvI]; rfl) ?_)); refine AW_re (tyOf_good _) fun K' hK' => ?_; (repeat (refine sxn fun K2 hK2 => ?_; simp [dNum, hmx, trL]; (repeat (refine ⟨by omega, ?_⟩)); refine hK2 _ ?_; clear hK2 K2)); refine sxz (hK' _ ?_); clear hK' K'; (try simp only [thn, inb]); simp [trL, htk, ← hset, dNum, ofL_at, D.le, D.le.go]
 ·obtain ⟨v, rfl⟩ : ∃ v : Nat, x = v := ⟨x.natAbs, by omega⟩
  have hv : v < V + 1 := by omega
  have hv1 : 0 < v := by omega
  have hvI : (v : Int) < (V : Int) + 1 := by omega
  have hset := ofL_set (V := V) (v := v) (tr := tr) (.inl ⟨rfl, rfl⟩) hv1 hx
  have hmx : (if (v : Int) < -(v : Int) then -(v : Int) else (v : Int)) = v := if_neg (by omega)
  refine MC.of_body (tyOf_good _) Tryz.func88 rfl rfl (rs := []) Tryz.results88 (by simp [Tryz.ntmps88]) rfl fun X => ?_; simp only [Tryz.ntmps88]; simp only [solR]; refine AW_then fun K1 hK1 => ?_; refine rg [0, 1, 5] [22, 20, 502] (notIn_ok rfl) fun K' hK' => ?_; (repeat (refine sxn fun K2 hK2 => ?_; simp [dNum]; (repeat (refine ⟨by omega, ?_⟩)); refine hK2 _ ?_; clear hK2 K2)); refine sxz (hK' _ (AW.st (by simp [dNum]; rfl) ?_)); clear hK' K'; refine AW_ff rfl ?_; refine AW_re (tyOf_good _) fun K' hK' => ?_; (repeat (refine sxn fun K2 hK2 => ?_; simp [dNum, hlen, hv, hvI]; (repeat (refine ⟨by omega, ?_⟩)); refine hK2 _ ?_; clear hK2 K2)); refine sxz (hK' _ ?_); clear hK' K'; refine hK1 _ (AW.norm [0, 1] [22, 20, 502] (notIn_ok rfl) (AW.st (by simp [dNum, hlen, hv, hvI]; rfl) ?_)); refine AW_re (tyOf_good _) fun K' hK' => ?_; (repeat (refine sxn fun K2 hK2 => ?_; simp [dNum, hmx, trL]; (repeat (refine ⟨by omega, ?_⟩)); refine hK2 _ ?_; clear hK2 K2)); refine sxz (hK' _ ?_); clear hK' K'; (try simp only [thn, inb]); simp [trL, htk, ← hset, dNum, ofL_at, D.le, D.le.go]
end Go.Proofs.YtagfbbnlbncjlaaGreatDoor
namespace Go.Proofs.YtagfbbnlbncjlaaGreatDoor
open Go.Av
def bkL (V : Nat) (tr : List Int) (n m : Nat) : List (List D) := (List.range (V + 1)).map fun (v : Nat) => [dNum (if ((tr.drop n).take m).any (fun x => x.natAbs == v) then 0 else isT tr (v : Int))]
theorem bkL_len (V : Nat) (tr : List Int) (n m : Nat) : (bkL V tr n m).length = V + 1 := by simp [bkL]
theorem bkL_tail {V v : Nat} (tr : List Int) (n m : Nat) (h : v < (bkL V tr n m).length) : ((bkL V tr n m)[v]'h).tail = [] := by simp [bkL]
theorem bk_zero (V : Nat) (tr : List Int) (n : Nat) : bkL V tr n 0 = ofL V tr := by simp [bkL, ofL]
theorem bk_step {V : Nat} {tr : List Int} {n m : Nat} (h : n + m < tr.length) : (bkL V tr n m).set tr[n + m].natAbs [dNum 0] = bkL V tr n (m + 1) := by
 have ht : (tr.drop n).take (m + 1) = (tr.drop n).take m ++ [tr[n + m]] := by
  rw [List.take_succ_eq_append_getElem (by rw [List.length_drop]; omega), List.getElem_drop]
 apply List.ext_getElem
 ·simp [bkL]
 ·intro j h1 h2
  rw [List.getElem_set]; simp only [bkL, List.getElem_map, List.getElem_range, ht, List.any_append]
  split
  ·rename_i e; simp [e]
  ·rename_i e
   have : ([tr[n + m]].any fun x => x.natAbs == j) = false := by simp [e]
   rw [this, Bool.or_false]
theorem bk_all {V : Nat} {tr : List Int} (g : GoodT V tr) (n : Nat) : bkL V tr n (tr.length - n) = ofL V (tr.take n) := by
 unfold bkL ofL; refine List.map_congr_left fun v _ => ?_
 have hd : (tr.drop n).take (tr.length - n) = tr.drop n := List.take_of_length_le (by simp)
 rw [hd]
 have hsp : ∀ y, y ∈ tr ↔ y ∈ tr.take n ∨ y ∈ tr.drop n := fun y => by rw [← List.mem_append, List.take_append_drop]
 have hnd : ∀ y ∈ tr.take n, ∀ z ∈ tr.drop n, y ≠ z := by
  have := g.nodup
  rw [← List.take_append_drop n tr] at this; exact (List.nodup_append.1 this).2.2
 by_cases ha : ((tr.drop n).any fun x => x.natAbs == v) = true
 ·rw [if_pos ha]
  obtain ⟨x, hx, hxv⟩ := List.any_eq_true.1 ha
  have hxv : x.natAbs = v := by simpa using hxv
  have hxt := (hsp x).2 (.inr hx)
  have : isT (tr.take n) (v : Int) = 0 := by
   rw [isT_zero]; refine ⟨fun h => ?_, fun h => ?_⟩
   ·by_cases e : x = v
    ·exact hnd _ h x hx e.symm
    ·have e2 : -x = (v : Int) := by omega
     exact g.one x hxt (by rw [e2]; exact (hsp _).2 (.inl h))
   ·by_cases e : x = v
    ·exact g.one x hxt (by rw [e]; exact (hsp _).2 (.inl h))
    ·have e2 : x = -(v : Int) := by omega
     exact hnd _ h x hx e2.symm
  rw [this]
 ·rw [if_neg ha]
  have hno : ∀ y ∈ tr.drop n, y.natAbs ≠ v := fun y hy e => ha (List.any_eq_true.2 ⟨y, hy, by simp [e]⟩)
  have e1 : (v : Int) ∈ tr ↔ (v : Int) ∈ tr.take n := by
   rw [hsp]; exact ⟨fun h => h.elim id fun h => absurd (by simp) (hno _ h), .inl⟩
  have e2 : -(v : Int) ∈ tr ↔ -(v : Int) ∈ tr.take n := by
   rw [hsp]; exact ⟨fun h => h.elim id fun h => absurd (by simp) (hno _ h), .inl⟩
  unfold isT; simp only [e1, e2]
theorem GoodT.take {V : Nat} {tr : List Int} (g : GoodT V tr) (n : Nat) : GoodT V (tr.take n) := ⟨fun x hx => g.pos x (List.mem_of_mem_take hx), fun x hx h => g.one x (List.mem_of_mem_take hx) (List.mem_of_mem_take h), List.Pairwise.sublist (List.take_sublist _ _) g.nodup⟩
set_option maxHeartbeats 4000000 in
theorem back_spec (G : Glob) (V : Nat) (hV : V < 2^20) (cs : Cl) (tr : List Int) (g : GoodT V tr) (k : Nat) (htl : tr.length < 2^20) (n : Nat) (hn : n ≤ tr.length) :
  MC Tryz.prog G [22, 20] 86 [.ref 22 0 0, .d (dNum n)] (hlst (solR V cs tr k)) (.d (.tup [])) (hlst (solR V cs (tr.take n) k)) := by
 have hmin : min n tr.length = n := by omega
 by_cases hne : n = tr.length
 ·subst hne
  have htk : tr.take tr.length = tr := List.take_length
  rw [htk]
  by_cases hz : tr.length = 0
  ·refine MC.of_body (tyOf_good _) Tryz.func86 rfl rfl (rs := []) Tryz.results86 (by simp [Tryz.ntmps86]) rfl fun X => ?_; simp only [Tryz.ntmps86]; simp only [solR]; refine AW_then fun K1 hK1 => ?_; refine rg [0, 1, 11, 12, 13] [22, 20, 502] (notIn_ok rfl) fun K' hK' => ?_; (repeat (refine sxn fun K2 hK2 => ?_; simp [dNum, hz]; (repeat (refine ⟨by omega, ?_⟩)); refine hK2 _ ?_; clear hK2 K2)); refine sxz (hK' _ (AW.st (by simp [dNum, hz]; rfl) ?_)); clear hK' K'; refine AW_for (S := Unit) (fun _ => True) (fun _ => ⟨lst [(0, .ref 22 0 0), (1, int tr.length), (12, int 0), (13, int 0)], hlst (solR V cs tr k)⟩) (fun _ => 0) () ?_ trivial ?_
   ·simp only [solR]; refine Imp.to' (notIn_ok rfl) (by simp [dNum, hz]) (by simp [dNum, hz])
   ·intro _ _
    simp only [solR]; refine rg [0, 1, 12, 13, 14] [22, 20, 502] (notIn_ok rfl) fun K' hK' => ?_; (repeat (refine sxn fun K2 hK2 => ?_; simp [dNum]; (repeat (refine ⟨by omega, ?_⟩)); refine hK2 _ ?_; clear hK2 K2)); refine sxz (hK' _ (AW.st (by simp [dNum]; rfl) ?_)); clear hK' K'; refine AW_then fun K2 hK2 => ?_; refine AW_ff rfl ?_; refine AW_exit (hK1 _ ?_); refine AW_re (tyOf_good _) fun K' hK' => ?_; (repeat (refine sxn fun K2 hK2 => ?_; simp [dNum, hz]; (repeat (refine ⟨by omega, ?_⟩)); refine hK2 _ ?_; clear hK2 K2)); refine sxz (hK' _ ?_); clear hK' K'; (try simp only [thn, inb]); simp [solR, dNum, hz, D.le, D.le.go]
  ·refine MC.of_body (tyOf_good _) Tryz.func86 rfl rfl (rs := []) Tryz.results86 (by simp [Tryz.ntmps86]) rfl fun X => ?_; simp only [Tryz.ntmps86]; simp only [solR]; refine AW_then fun K1 hK1 => ?_; refine rg [0, 1, 11, 12, 13] [22, 20, 502] (notIn_ok rfl) fun K' hK' => ?_; (repeat (refine sxn fun K2 hK2 => ?_; simp [dNum, hz]; (repeat (refine ⟨by omega, ?_⟩)); refine hK2 _ ?_; clear hK2 K2)); refine sxz (hK' _ (AW.st (by simp [dNum, hz]; rfl) ?_)); clear hK' K'; refine AW_for (S := Unit) (fun _ => True) (fun _ => ⟨lst [(0, .ref 22 0 0), (1, int tr.length), (12, int 0), (13, int 0)], hlst (solR V cs tr k)⟩) (fun _ => 0) () ?_ trivial ?_
   ·simp only [solR]; refine Imp.to' (notIn_ok rfl) (by simp [dNum]) (by simp [dNum])
   ·intro _ _
    simp only [solR]; refine rg [0, 1, 12, 13, 14] [22, 20, 502] (notIn_ok rfl) fun K' hK' => ?_; (repeat (refine sxn fun K2 hK2 => ?_; simp [dNum]; (repeat (refine ⟨by omega, ?_⟩)); refine hK2 _ ?_; clear hK2 K2)); refine sxz (hK' _ (AW.st (by simp [dNum]; rfl) ?_)); clear hK' K'; refine AW_then fun K2 hK2 => ?_; refine AW_ff rfl ?_; refine AW_exit (hK1 _ ?_); refine AW_re (tyOf_good _) fun K' hK' => ?_; (repeat (refine sxn fun K2 hK2 => ?_; simp [dNum]; (repeat (refine ⟨by omega, ?_⟩)); refine hK2 _ ?_; clear hK2 K2)); refine sxz (hK' _ ?_); clear hK' K'; (try simp only [thn, inb]); simp [solR, dNum, D.le, D.le.go]
 ·have hlt : n < tr.length := by omega
  obtain ⟨d, hd⟩ : ∃ d, tr.length - n = d := ⟨_, rfl⟩
  have hba := bk_all g n
  rw [hd] at hba
  have hbz := bk_zero V tr n
  refine MC.of_body (tyOf_good _) Tryz.func86 rfl rfl (rs := []) Tryz.results86 (by simp [Tryz.ntmps86]) rfl fun X => ?_; simp only [Tryz.ntmps86]; simp only [solR]; refine AW_then fun K1 hK1 => ?_; refine rg [0, 1, 11, 12, 13] [22, 20, 502] (notIn_ok rfl) fun K' hK' => ?_; (repeat (refine sxn fun K2 hK2 => ?_; simp [dNum, hne, hn, hd]; (repeat (refine ⟨by omega, ?_⟩)); refine hK2 _ ?_; clear hK2 K2)); refine sxz (hK' _ (AW.st (by simp [dNum, hne, hn, hd]; rfl) ?_)); clear hK' K'; refine AW_for (S := Nat) (fun m => m ≤ d) (fun m => ⟨lst [(0, .ref 22 0 0), (1, int n), (11, .own 502 n d), (12, int d), (13, int m)], hlst [(22, .box 107 [.d (dNum V), .d (dRows cs), .own 20 0 (V + 1), .own 502 0 tr.length, .d (dNum k)]), (20, .sl 3 1 (bkL V tr n m)), (502, .sl 3 1 (trL tr))]⟩) (fun m => d - m) 0 ?_ (by omega) ?_
  ·refine Imp.to' (notIn_ok rfl) (by simp [dNum, hbz]) (by simp [dNum, hbz])
  ·intro m hm
   refine rg [0, 1, 11, 12, 13, 14] [22, 20, 502] (notIn_ok rfl) fun K' hK' => ?_; (repeat (refine sxn fun K2 hK2 => ?_; simp [dNum]; (repeat (refine ⟨by omega, ?_⟩)); refine hK2 _ ?_; clear hK2 K2)); refine sxz (hK' _ (AW.st (by simp [dNum]; rfl) ?_)); clear hK' K'; refine AW_then fun K2 hK2 => ?_; refine AW_cond' (b := m < d) (by simp [D.le, D.le.go, takeMap, dNum]) (fun hc => ?_) (fun hc => ?_)
   ·have hmd : m < d := hc
    have hnm : n + m < tr.length := by omega
    have hgt : ∀ h : n + m < (trL tr).length, (trL tr)[n + m]'h = [dNum (tr[n + m].natAbs)] := fun h => by simp [trL]
    have hp := g.pos _ (List.getElem_mem hnm)
    have hst := bk_step (V := V) hnm
    obtain ⟨v, hv⟩ : ∃ v, tr[n + m].natAbs = v := ⟨_, rfl⟩
    rw [hv] at hgt hst
    have hvV : v < V + 1 := by omega
    have hvI : (v : Int) < (V : Int) + 1 := by omega
    have hlen := bkL_len V tr n m
    have htl2 : (trL tr).length = tr.length := by simp [trL]
    refine AW_skip (hK2 _ ?_); refine AW_then fun K3 hK3 => ?_; refine AW_block ?_; refine rg [0, 1, 5, 11, 12, 13] [22, 20, 502] (notIn_ok rfl) fun K' hK' => ?_; (repeat (refine sxn fun K2 hK2 => ?_; simp [dNum, hmd, hgt, hnm, htl2]; (repeat (refine ⟨by omega, ?_⟩)); refine hK2 _ ?_; clear hK2 K2)); refine sxz (hK' _ (AW.st (by simp [dNum, hmd, hgt, hnm, htl2]; rfl) ?_)); clear hK' K'; refine AW_re (tyOf_good _) fun K' hK' => ?_; (repeat (refine sxn fun K2 hK2 => ?_; simp [dNum, hlen, hvV, hvI]; (repeat (refine ⟨by omega, ?_⟩)); refine hK2 _ ?_; clear hK2 K2)); refine sxz (hK' _ ?_); clear hK' K'; refine hK3 _ (AW.norm [0, 1, 11, 12, 13] [22, 20, 502] (notIn_ok rfl) (AW.st (by simp [dNum, hlen, hvV, hvI]; rfl) ?_)); refine AW_re (tyOf_good _) fun K' hK' => ?_; (repeat (refine sxn fun K2 hK2 => ?_; simp [dNum]; (repeat (refine ⟨by omega, ?_⟩)); refine hK2 _ ?_; clear hK2 K2)); refine sxz (hK' _ ?_); clear hK' K'; (try simp only [thn, inb]); refine Again.mk (m + 1) (by omega) (by omega) ?_; refine Imp.to' (notIn_ok rfl) (by simp [dNum, ← hst, bkL_tail]) (by simp [dNum, ← hst, bkL_tail])
   ·obtain rfl : m = d := by omega
    refine AW_exit (hK1 _ ?_); rw [hba]; refine AW.imp (Imp.trunc 502 n (by first | rfl | (simp [dNum]; rfl))) ?_; refine AW.st (by simp [dNum]; rfl) ?_; refine AW_re (tyOf_good _) fun K' hK' => ?_; (repeat (refine sxn fun K2 hK2 => ?_; simp [dNum, hn]; (repeat (refine ⟨by omega, ?_⟩)); refine hK2 _ ?_; clear hK2 K2)); refine sxz (hK' _ ?_); clear hK' K'; (try simp only [thn, inb]); simp [solR, dNum, hmin, trL, List.map_take, D.le, D.le.go]
end Go.Proofs.YtagfbbnlbncjlaaGreatDoor
namespace Go.Proofs.YtagfbbnlbncjlaaGreatDoor
open Go.Av
theorem pass_less {V : Nat} {cs : Cl} {cur c2 : List Int} (ok : OkC V cs) (g : GoodT V cur) (h : passF cs cur false = (true, c2, true)) : leftT V c2 < leftT V cur := by
 obtain ⟨⟨ext, a1, a1'⟩, a2, _⟩ := pass_facts cs cur false ok g
 rw [h] at a1 a1' a2
 have hag := a1' rfl
 dsimp only at a1 a2 hag
 obtain ⟨x, ext', rfl⟩ : ∃ x e, ext = x :: e := by cases ext with | nil => simp at hag | cons x e => exact ⟨x, e, rfl⟩
 have hx : isT cur x = 0 := by
  rw [isT_zero]; rw [a1] at a2; refine ⟨fun hx => ?_, fun hx => a2.one _ (List.mem_append_left _ hx) (by rw [Int.neg_neg]; simp)⟩; exact (List.nodup_append.1 a2.nodup).2.2 x hx x (by simp) rfl
 have hp := a2.pos x (by rw [a1]; simp)
 have hlt := leftT_lt hp.1 hp.2.1 hp.2.2 hx ext'
 rwa [← a1] at hlt
def scanT (tr : List Int) (c : List Int) (j : Nat) : Int × Nat × Bool := (c.take j).foldl (stepC tr) (0, 0, false)
theorem scanT_succ (tr : List Int) {c : List Int} {j : Nat} (h : j < c.length) : scanT tr c (j + 1) = stepC tr (scanT tr c j) c[j] := by
 unfold scanT; rw [List.take_succ_eq_append_getElem h, List.foldl_append]
 rfl
theorem scanT_all (tr : List Int) (c : List Int) : scanT tr c c.length = scanC tr c := by unfold scanT scanC; rw [List.take_length]
theorem scanT_many (tr : List Int) (c : List Int) : ∀ j, j ≤ c.length → (scanT tr c j).2.1 ≤ j
 | 0, _ => by simp [scanT]
 | j + 1, h => by
  have ih := scanT_many tr c j (by omega)
  rw [scanT_succ tr (show j < c.length by omega)]; unfold stepC; repeat' split
  all_goals first | omega | (dsimp only; omega)
theorem good_len {V : Nat} : ∀ {tr : List Int}, GoodT V tr → tr.length + leftT V tr ≤ V := by
 have key : ∀ (ext tr : List Int), GoodT V (tr ++ ext) → leftT V (tr ++ ext) + ext.length ≤ leftT V tr := by
  intro ext
  induction ext with
  | nil => intro tr _; simp
  | cons x ext ih =>
   intro tr g
   have g' : GoodT V (tr ++ [x] ++ ext) := by simpa using g
   have h1 := ih (tr ++ [x]) g'
   have hx : isT tr x = 0 := by
    rw [isT_zero]; refine ⟨fun hx => ?_, fun hx => g.one _ (List.mem_append_left _ hx) (by rw [Int.neg_neg]; simp)⟩; exact (List.nodup_append.1 g.nodup).2.2 x hx x (by simp) rfl
   have hp := g.pos x (by simp)
   have h2 := leftT_lt hp.1 hp.2.1 hp.2.2 hx []
   have e : tr ++ [x] ++ ext = tr ++ x :: ext := by simp
   rw [e] at h1; simp only [List.length_cons]
   omega
 intro tr g
 have := key tr [] (by simpa using g)
 have h0 := leftT_le V []
 simp only [List.nil_append] at this
 omega
set_option maxHeartbeats 8000000 in
theorem spread_spec (G : Glob) (V : Nat) (hV : V < 2^19) (cs : Cl) (hcs : cs.length < 2^60) (hcl : ∀ c ∈ cs, c.length < 2^60) (ok : OkC V cs) (tr : List Int) (g : GoodT V tr) (k n : Nat) (hn : leftT V tr < n) :
  MC Tryz.prog G [22, 20] 85 [.ref 22 0 0] (hlst (solR V cs tr k)) (.d (.v (.bool (spreadF cs n tr).1))) (hlst (solR V cs (spreadF cs n tr).2 k)) := by
 refine MC.of_body (tyOf_good _) Tryz.func85 rfl rfl (rs := [.tmp 2]) Tryz.results85 (by simp [Tryz.ntmps85]) rfl fun X => ?_; simp only [Tryz.ntmps85]; simp only [solR]; refine rg [0] [22, 20, 502] (notIn_ok rfl) fun K' hK' => ?_; (repeat (refine sxn fun K2 hK2 => ?_; simp [dNum]; (repeat (refine ⟨by omega, ?_⟩)); refine hK2 _ ?_; clear hK2 K2)); refine sxz (hK' _ (AW.st (by simp [dNum]; rfl) ?_)); clear hK' K'; refine AW_then fun K1 hK1 => ?_; refine rg [0, 3] [22, 20, 502] (notIn_ok rfl) fun K' hK' => ?_; (repeat (refine sxn fun K2 hK2 => ?_; simp [dNum]; (repeat (refine ⟨by omega, ?_⟩)); refine hK2 _ ?_; clear hK2 K2)); refine sxz (hK' _ (AW.st (by simp [dNum]; rfl) ?_)); clear hK' K'; refine AW_for (S := Nat × List Int × Bool) (fun s => GoodT V s.2.1 ∧ (s.2.2 = true → leftT V s.2.1 < s.1 ∧ spreadF cs s.1 s.2.1 = spreadF cs n tr) ∧ (s.2.2 = false → spreadF cs n tr = (true, s.2.1))) (fun s => ⟨lst [(0, .ref 22 0 0), (3, .d (.v (.bool s.2.2)))], hlst (solR V cs s.2.1 k)⟩) (fun s => s.1) (n, tr, true) ?_ ⟨g, fun _ => ⟨hn, rfl⟩, fun h => by cases h⟩ ?_
 ·simp only [solR]; refine Imp.to' (notIn_ok rfl) (by simp [dNum]) (by simp [dNum])
 ·rintro ⟨m, cur, again⟩ ⟨gc, hag, hno⟩
  dsimp only at gc hag hno ⊢
  simp only [solR]; refine AW_then fun K2 hK2 => ?_; refine rg [0, 11] [22, 20, 502] (notIn_ok rfl) fun K' hK' => ?_; (repeat (refine sxn fun K2 hK2 => ?_; simp [dNum]; (repeat (refine ⟨by omega, ?_⟩)); refine hK2 _ ?_; clear hK2 K2)); refine sxz (hK' _ (AW.st (by simp [dNum]; rfl) ?_)); clear hK' K'
  cases again with
  | false =>
   refine AW_ff rfl ?_; refine AW_exit (hK1 _ ?_); rw [hno rfl]; refine rg [2] [22, 20, 502] (notIn_ok rfl) fun K' hK' => ?_; (repeat (refine sxn fun K2 hK2 => ?_; simp [dNum]; (repeat (refine ⟨by omega, ?_⟩)); refine hK2 _ ?_; clear hK2 K2)); refine sxz (hK' _ (AW.st (by simp [dNum]; rfl) ?_)); clear hK' K'; refine AW_ret ?_; simp [solR, dNum, D.le]
  | true =>
   obtain ⟨hlt, hsp⟩ := hag rfl
   obtain ⟨m, rfl⟩ : ∃ m', m = m' + 1 := ⟨m - 1, by omega⟩
   rw [spreadF] at hsp; refine AW_tt rfl ?_; refine AW_skip (hK2 _ ?_); refine AW_block ?_; refine rg [0, 3] [22, 20, 502] (notIn_ok rfl) fun K' hK' => ?_; (repeat (refine sxn fun K2 hK2 => ?_; simp [dNum]; (repeat (refine ⟨by omega, ?_⟩)); refine hK2 _ ?_; clear hK2 K2)); refine sxz (hK' _ (AW.st (by simp [dNum]; rfl) ?_)); clear hK' K'; refine rg [0, 3, 16, 17, 18] [22, 20, 502] (notIn_ok rfl) fun K' hK' => ?_; (repeat (refine sxn fun K2 hK2 => ?_; simp [dNum, dRows]; (repeat (refine ⟨by omega, ?_⟩)); refine hK2 _ ?_; clear hK2 K2)); refine sxz (hK' _ (AW.st (by simp [dNum, dRows]; rfl) ?_)); clear hK' K'; refine AW_for (S := Nat × List Int × Bool) (fun s => s.1 ≤ cs.length ∧ GoodT V s.2.1 ∧ passF (cs.drop s.1) s.2.1 s.2.2 = passF cs cur false) (fun s => ⟨lst [(0, .ref 22 0 0), (3, .d (.v (.bool s.2.2))), (16, .d (dRows cs)), (17, int cs.length), (18, int s.1)], hlst (solR V cs s.2.1 k)⟩) (fun s => cs.length - s.1) (0, cur, false) ?_ ⟨by simp, gc, by simp⟩ ?_
   ·simp only [solR]; refine Imp.to' (notIn_ok rfl) (by simp [dNum, dRows]) (by simp [dNum, dRows])
   ·rintro ⟨i, c2, ag⟩ ⟨hi, g2, hps⟩
    dsimp only at hi g2 hps ⊢
    simp only [solR]; refine rg [0, 3, 16, 17, 18, 19] [22, 20, 502] (notIn_ok rfl) fun K' hK' => ?_; (repeat (refine sxn fun K2 hK2 => ?_; simp [dNum]; (repeat (refine ⟨by omega, ?_⟩)); refine hK2 _ ?_; clear hK2 K2)); refine sxz (hK' _ (AW.st (by simp [dNum]; rfl) ?_)); clear hK' K'; refine AW_then fun K3 hK3 => ?_; refine AW_cond' (b := i < cs.length) (by simp [D.le, D.le.go, takeMap, dNum]) (fun hc => ?_) (fun hc => ?_)
    ·have hil : i < cs.length := hc
     have hgl := good_len g2
     have hol1 := ofL_len V c2
     have hol2 : List.take (V + 1) (ofL V c2) = ofL V c2 := List.take_of_length_le (by omega)
     have htl1 : (trL c2).length = c2.length := by simp [trL]
     have htl2 : List.take c2.length (trL c2) = trL c2 := List.take_of_length_le (by omega)
     obtain ⟨c, hce⟩ : ∃ c, cs[i] = c := ⟨_, rfl⟩
     have hcm : c ∈ cs := hce ▸ List.getElem_mem hil
     have hc60 := hcl c hcm
     have okc := ok c hcm
     rw [List.drop_eq_getElem_cons hil, passF, hce] at hps; refine AW_skip (hK3 _ ?_); refine AW_then fun K4 hK4 => ?_; refine AW_block ?_; refine rg [0, 3, 5, 16, 17, 18] [22, 20, 502] (notIn_ok rfl) fun K' hK' => ?_; (repeat (refine sxn fun K2 hK2 => ?_; simp [dNum, dRows, hil, hce, dRow, dInts]; (repeat (refine ⟨by omega, ?_⟩)); refine hK2 _ ?_; clear hK2 K2)); refine sxz (hK' _ (AW.st (by simp [dNum, dRows, hil, hce, dRow, dInts]; rfl) ?_)); clear hK' K'; refine rg [0, 3, 5, 6, 7, 8, 16, 17, 18] [22, 20, 502] (notIn_ok rfl) fun K' hK' => ?_; (repeat (refine sxn fun K2 hK2 => ?_; simp [dNum]; (repeat (refine ⟨by omega, ?_⟩)); refine hK2 _ ?_; clear hK2 K2)); refine sxz (hK' _ (AW.st (by simp [dNum]; rfl) ?_)); clear hK' K'; refine AW_then fun K5 hK5 => ?_; refine rg [0, 3, 6, 7, 8, 16, 17, 18, 22, 23, 24] [22, 20, 502] (notIn_ok rfl) fun K' hK' => ?_; (repeat (refine sxn fun K2 hK2 => ?_; simp [dNum]; (repeat (refine ⟨by omega, ?_⟩)); refine hK2 _ ?_; clear hK2 K2)); refine sxz (hK' _ (AW.st (by simp [dNum]; rfl) ?_)); clear hK' K'; refine AW_for (S := Nat) (fun j => j ≤ c.length) (fun j => ⟨lst [(0, .ref 22 0 0), (3, .d (.v (.bool ag))), (6, int (scanT c2 c j).1), (7, int (scanT c2 c j).2.1), (8, .d (.v (.bool (scanT c2 c j).2.2))), (16, .d (dRows cs)), (17, int cs.length), (18, int i), (22, .d (dRow c)), (23, int c.length), (24, int j)], hlst (solR V cs c2 k)⟩) (fun j => c.length - j) 0 ?_ (by simp) ?_
     ·simp only [solR]; refine Imp.to' (notIn_ok rfl) (by simp [dNum, dRows, dRow, dInts, scanT]) (by simp [dNum, dRows, dRow, dInts, scanT])
     ·intro j hj
      have hmany := scanT_many c2 c j hj
      simp only [solR]; refine rg [0, 3, 6, 7, 8, 16, 17, 18, 22, 23, 24, 25] [22, 20, 502] (notIn_ok rfl) fun K' hK' => ?_; (repeat (refine sxn fun K2 hK2 => ?_; simp [dNum]; (repeat (refine ⟨by omega, ?_⟩)); refine hK2 _ ?_; clear hK2 K2)); refine sxz (hK' _ (AW.st (by simp [dNum]; rfl) ?_)); clear hK' K'; refine AW_then fun K6 hK6 => ?_; refine AW_cond' (b := j < c.length) (by simp [D.le, D.le.go, takeMap, dNum]) (fun hc => ?_) (fun hc => ?_)
      ·have hjl : j < c.length := hc
       have hss := scanT_succ c2 hjl
       obtain ⟨x, hxe⟩ : ∃ x, c[j] = x := ⟨_, rfl⟩
       rw [hxe] at hss
       obtain ⟨x0, x1, x2⟩ := okc x (hxe ▸ List.getElem_mem hjl)
       have his := is_spec G V (by omega) c2 g2 (dRows cs) (.sl none (trL c2)) (dNum k) x x0 x1 x2
       have hbd := isT_bd c2 x
       obtain ⟨s1, hs1⟩ : ∃ s1, scanT c2 c (j + 1) = s1 := ⟨_, rfl⟩
       rw [hs1] at hss; generalize scanT c2 c j = s at hmany hss
       obtain ⟨sl, sm, sh⟩ := s
       dsimp only at hmany
       unfold stepC at hss; refine AW_skip (hK6 _ ?_); refine AW_then fun K7 hK7 => ?_; refine AW_block ?_; refine rg [0, 3, 6, 7, 8, 10, 16, 17, 18, 22, 23, 24] [22, 20, 502] (notIn_ok rfl) fun K' hK' => ?_; (repeat (refine sxn fun K2 hK2 => ?_; simp [dNum, dRow, dInts, hjl, hxe]; (repeat (refine ⟨by omega, ?_⟩)); refine hK2 _ ?_; clear hK2 K2)); refine sxz (hK' _ (AW.st (by simp [dNum, dRow, dInts, hjl, hxe]; rfl) ?_)); clear hK' K'; refine rg [0, 3, 6, 7, 8, 10, 16, 17, 18, 22, 23, 24, 30] [22, 20, 502] (notIn_ok rfl) fun K' hK' => ?_; (repeat (refine sxn fun K2 hK2 => ?_; simp [dNum, hol1, hol2, htl1, htl2]; (repeat (refine ⟨by omega, ?_⟩)); refine hK2 _ ?_; clear hK2 K2)); refine sxn fun K2 hK2 => ?_; simp [dNum, hol1, hol2, htl1, htl2]; refine callK.lend (his) (by simp [dNum, hol1, hol2, htl1, htl2]; rfl) (by first | exact D.leGo_refl _ | simp [takeMap, List.map_map, Function.comp_def, D.le, D.le.go, D.le_refl, D.leGo_refl, dNum, hol1, hol2, htl1, htl2]) (by simp [D.scalar, dNum, hol1, hol2, htl1, htl2]) ?_; refine hK2 _ ?_; clear hK2 K2; simp only [putd, upd_lst]; (repeat (refine sxn fun K2 hK2 => ?_; simp [dNum, hol1, hol2, htl1, htl2]; (repeat (refine ⟨by omega, ?_⟩)); refine hK2 _ ?_; clear hK2 K2)); refine sxz (hK' _ (AW.st (by simp [dNum, hol1, hol2, htl1, htl2]; rfl) ?_)); clear hK' K'; refine AW_block ?_
       by_cases e1 : isT c2 x = 1
       ·rw [if_pos e1] at hss; refine rg [0, 3, 6, 7, 8, 10, 16, 17, 18, 22, 23, 24, 30, 31] [22, 20, 502] (notIn_ok rfl) fun K' hK' => ?_; (repeat (refine sxn fun K2 hK2 => ?_; simp [dNum, e1]; (repeat (refine ⟨by omega, ?_⟩)); refine hK2 _ ?_; clear hK2 K2)); refine sxz (hK' _ (AW.st (by simp [dNum, e1]; rfl) ?_)); clear hK' K'; refine AW_tt rfl ?_; refine AW_re (tyOf_good _) fun K' hK' => ?_; (repeat (refine sxn fun K2 hK2 => ?_; simp [dNum]; (repeat (refine ⟨by omega, ?_⟩)); refine hK2 _ ?_; clear hK2 K2)); refine sxz (hK' _ ?_); clear hK' K'; refine hK7 _ (AW.norm [0, 3, 6, 7, 8, 16, 17, 18, 22, 23, 24] [22, 20, 502] (notIn_ok rfl) (AW.st (by simp [dNum]; rfl) ?_)); refine AW_re (tyOf_good _) fun K' hK' => ?_; (repeat (refine sxn fun K2 hK2 => ?_; simp [dNum]; (repeat (refine ⟨by omega, ?_⟩)); refine hK2 _ ?_; clear hK2 K2)); refine sxz (hK' _ ?_); clear hK' K'; (try simp only [thn, inb]); refine Again.mk (j + 1) (by omega) (by omega) ?_; (try simp only [solR]); refine Imp.to' (notIn_ok rfl) (by simp [dNum, dRows, dRow, dInts, hs1, hss]) (by simp [dNum, dRows, dRow, dInts, hs1, hss])
       ·rw [if_neg e1] at hss; refine rg [0, 3, 6, 7, 8, 10, 16, 17, 18, 22, 23, 24, 30, 31] [22, 20, 502] (notIn_ok rfl) fun K' hK' => ?_; (repeat (refine sxn fun K2 hK2 => ?_; simp [dNum, e1]; (repeat (refine ⟨by omega, ?_⟩)); refine hK2 _ ?_; clear hK2 K2)); refine sxz (hK' _ (AW.st (by simp [dNum, e1]; rfl) ?_)); clear hK' K'; refine AW_ff rfl ?_
        by_cases e0 : isT c2 x = 0
        ·rw [if_pos e0] at hss; refine rg [0, 3, 6, 7, 8, 10, 16, 17, 18, 22, 23, 24, 33] [22, 20, 502] (notIn_ok rfl) fun K' hK' => ?_; (repeat (refine sxn fun K2 hK2 => ?_; simp [dNum, e0]; (repeat (refine ⟨by omega, ?_⟩)); refine hK2 _ ?_; clear hK2 K2)); refine sxz (hK' _ (AW.st (by simp [dNum, e0]; rfl) ?_)); clear hK' K'; refine AW_tt rfl ?_; refine AW_then fun K8 hK8 => ?_
         by_cases el : x = sl
         ·have hss : s1 = (x, sm, sh) := by rw [hss]; simp [el]
          refine rg [0, 3, 7, 8, 10, 16, 17, 18, 22, 23, 24, 37] [22, 20, 502] (notIn_ok rfl) fun K' hK' => ?_; (repeat (refine sxn fun K2 hK2 => ?_; simp [dNum, eq_true el]; (repeat (refine ⟨by omega, ?_⟩)); refine hK2 _ ?_; clear hK2 K2)); refine sxz (hK' _ (AW.st (by simp [dNum, eq_true el]; rfl) ?_)); clear hK' K'; refine AW_ff rfl ?_; refine AW_skip (hK8 _ ?_); refine AW_re (tyOf_good _) fun K' hK' => ?_; (repeat (refine sxn fun K2 hK2 => ?_; simp [dNum]; (repeat (refine ⟨by omega, ?_⟩)); refine hK2 _ ?_; clear hK2 K2)); refine sxz (hK' _ ?_); clear hK' K'; refine hK7 _ (AW.norm [0, 3, 6, 7, 8, 16, 17, 18, 22, 23, 24] [22, 20, 502] (notIn_ok rfl) (AW.st (by simp [dNum]; rfl) ?_)); refine AW_re (tyOf_good _) fun K' hK' => ?_; (repeat (refine sxn fun K2 hK2 => ?_; simp [dNum]; (repeat (refine ⟨by omega, ?_⟩)); refine hK2 _ ?_; clear hK2 K2)); refine sxz (hK' _ ?_); clear hK' K'; (try simp only [thn, inb]); refine Again.mk (j + 1) (by omega) (by omega) ?_; (try simp only [solR]); refine Imp.to' (notIn_ok rfl) (by simp [dNum, dRows, dRow, dInts, hs1, hss]) (by simp [dNum, dRows, dRow, dInts, hs1, hss])
         ·have hss : s1 = (x, sm + 1, sh) := by rw [hss]; simp [el]
          refine rg [0, 3, 7, 8, 10, 16, 17, 18, 22, 23, 24, 37] [22, 20, 502] (notIn_ok rfl) fun K' hK' => ?_; (repeat (refine sxn fun K2 hK2 => ?_; simp [dNum, el]; (repeat (refine ⟨by omega, ?_⟩)); refine hK2 _ ?_; clear hK2 K2)); refine sxz (hK' _ (AW.st (by simp [dNum, el]; rfl) ?_)); clear hK' K'; refine AW_tt rfl ?_; refine AW_re (tyOf_good _) fun K' hK' => ?_; (repeat (refine sxn fun K2 hK2 => ?_; simp [dNum]; (repeat (refine ⟨by omega, ?_⟩)); refine hK2 _ ?_; clear hK2 K2)); refine sxz (hK' _ ?_); clear hK' K'; refine hK8 _ (AW.norm [0, 3, 7, 8, 10, 16, 17, 18, 22, 23, 24] [22, 20, 502] (notIn_ok rfl) (AW.st (by simp [dNum]; rfl) ?_)); refine AW_re (tyOf_good _) fun K' hK' => ?_; (repeat (refine sxn fun K2 hK2 => ?_; simp [dNum]; (repeat (refine ⟨by omega, ?_⟩)); refine hK2 _ ?_; clear hK2 K2)); refine sxz (hK' _ ?_); clear hK' K'; refine hK7 _ (AW.norm [0, 3, 6, 7, 8, 16, 17, 18, 22, 23, 24] [22, 20, 502] (notIn_ok rfl) (AW.st (by simp [dNum]; rfl) ?_)); refine AW_re (tyOf_good _) fun K' hK' => ?_; (repeat (refine sxn fun K2 hK2 => ?_; simp [dNum]; (repeat (refine ⟨by omega, ?_⟩)); refine hK2 _ ?_; clear hK2 K2)); refine sxz (hK' _ ?_); clear hK' K'; (try simp only [thn, inb]); refine Again.mk (j + 1) (by omega) (by omega) ?_; (try simp only [solR]); refine Imp.to' (notIn_ok rfl) (by simp [dNum, dRows, dRow, dInts, hs1, hss]) (by simp [dNum, dRows, dRow, dInts, hs1, hss])
        ·rw [if_neg e0] at hss; refine rg [0, 3, 6, 7, 8, 10, 16, 17, 18, 22, 23, 24, 33] [22, 20, 502] (notIn_ok rfl) fun K' hK' => ?_; (repeat (refine sxn fun K2 hK2 => ?_; simp [dNum, e0]; (repeat (refine ⟨by omega, ?_⟩)); refine hK2 _ ?_; clear hK2 K2)); refine sxz (hK' _ (AW.st (by simp [dNum, e0]; rfl) ?_)); clear hK' K'; refine AW_ff rfl ?_; refine AW_skip (hK7 _ ?_); refine AW_re (tyOf_good _) fun K' hK' => ?_; (repeat (refine sxn fun K2 hK2 => ?_; simp [dNum]; (repeat (refine ⟨by omega, ?_⟩)); refine hK2 _ ?_; clear hK2 K2)); refine sxz (hK' _ ?_); clear hK' K'; (try simp only [thn, inb]); refine Again.mk (j + 1) (by omega) (by omega) ?_; (try simp only [solR]); refine Imp.to' (notIn_ok rfl) (by simp [dNum, dRows, dRow, dInts, hs1, hss]) (by simp [dNum, dRows, dRow, dInts, hs1, hss])
      ·obtain rfl : j = c.length := by omega
       refine AW_exit (hK5 _ ?_); rw [scanT_all] at hmany ⊢
       obtain ⟨f1, _, f3, _⟩ := scan_facts c2 (c := c) fun x hx => (okc x hx).1
       generalize scanC c2 c = s at hmany hps f3
       obtain ⟨sl, sm, sh⟩ := s
       dsimp only at hmany hps f3 ⊢
       refine AW_block ?_
       by_cases hh : sh = true ∨ 1 < sm
       ·rw [if_pos hh] at hps; refine (fun hcont => ?_) (fun (σ : St) himp => hK4 σ (AW.imp (τ := ⟨lst [(0, .ref 22 0 0), (3, .d (.v (.bool ag))), (16, .d (dRows cs)), (17, int cs.length), (18, int i)], hlst (solR V cs c2 k)⟩) himp ?_))
        ·cases sh with
         | true =>
          refine rg [0, 3, 6, 7, 16, 17, 18, 45] [22, 20, 502] (notIn_ok rfl) fun K' hK' => ?_; (repeat (refine sxn fun K2 hK2 => ?_; simp [dNum]; (repeat (refine ⟨by omega, ?_⟩)); refine hK2 _ ?_; clear hK2 K2)); refine sxz (hK' _ (AW.st (by simp [dNum]; rfl) ?_)); clear hK' K'; refine AW_tt rfl ?_; refine AW_skip (hcont _ ?_); simp only [solR]; refine Imp.to' (notIn_ok rfl) (by simp [dNum, dRows, dRow, dInts]) (by simp [dNum, dRows, dRow, dInts])
         | false =>
          have h1 : (1 : Int) < sm := by have : 1 < sm := by simpa using hh
                                         omega
          refine rg [0, 3, 6, 7, 16, 17, 18, 45] [22, 20, 502] (notIn_ok rfl) fun K' hK' => ?_; (repeat (refine sxn fun K2 hK2 => ?_; simp [dNum, h1]; (repeat (refine ⟨by omega, ?_⟩)); refine hK2 _ ?_; clear hK2 K2)); refine sxz (hK' _ (AW.st (by simp [dNum, h1]; rfl) ?_)); clear hK' K'; refine AW_tt rfl ?_; refine AW_skip (hcont _ ?_); simp only [solR]; refine Imp.to' (notIn_ok rfl) (by simp [dNum, dRows, dRow, dInts]) (by simp [dNum, dRows, dRow, dInts])
        ·simp only [solR]; refine AW_re (tyOf_good _) fun K' hK' => ?_; (repeat (refine sxn fun K2 hK2 => ?_; simp [dNum]; (repeat (refine ⟨by omega, ?_⟩)); refine hK2 _ ?_; clear hK2 K2)); refine sxz (hK' _ ?_); clear hK' K'; (try simp only [thn, inb]); refine Again.mk (i + 1, c2, ag) ⟨by dsimp only; omega, g2, hps⟩ (by dsimp only; omega) ?_; (try simp only [solR]); refine Imp.to' (notIn_ok rfl) (by simp [dNum, dRows, dRow, dInts]) (by simp [dNum, dRows, dRow, dInts])
       ·rw [if_neg hh] at hps
        obtain ⟨rfl, h1⟩ : sh = false ∧ ¬ 1 < sm := ⟨by cases sh with | false => rfl | true => exact absurd (.inl rfl) hh, fun h => hh (.inr h)⟩
        have h1' : ¬ (1 : Int) < sm := by omega
        refine rg [0, 3, 6, 7, 16, 17, 18, 45] [22, 20, 502] (notIn_ok rfl) fun K' hK' => ?_; (repeat (refine sxn fun K2 hK2 => ?_; simp [dNum, h1']; (repeat (refine ⟨by omega, ?_⟩)); refine hK2 _ ?_; clear hK2 K2)); refine sxz (hK' _ (AW.st (by simp [dNum, h1']; rfl) ?_)); clear hK' K'; refine AW_ff rfl ?_
        by_cases h0 : sm = 0
        ·rw [if_pos h0] at hps; rw [← hps, if_pos rfl] at hsp; refine rg [0, 6, 16, 17, 18, 51] [22, 20, 502] (notIn_ok rfl) fun K' hK' => ?_; (repeat (refine sxn fun K2 hK2 => ?_; simp [dNum, h0]; (repeat (refine ⟨by omega, ?_⟩)); refine hK2 _ ?_; clear hK2 K2)); refine sxz (hK' _ (AW.st (by simp [dNum, h0]; rfl) ?_)); clear hK' K'; refine AW_tt rfl ?_; refine rg [2] [22, 20, 502] (notIn_ok rfl) fun K' hK' => ?_; (repeat (refine sxn fun K2 hK2 => ?_; simp [dNum]; (repeat (refine ⟨by omega, ?_⟩)); refine hK2 _ ?_; clear hK2 K2)); refine sxz (hK' _ (AW.st (by simp [dNum]; rfl) ?_)); clear hK' K'; rw [← hsp]; refine AW_ret ?_; simp [solR, dNum, D.le]
        ·rw [if_neg h0] at hps
         obtain ⟨l1, l2, _⟩ := f3 (by omega)
         obtain ⟨y0, y1, y2⟩ := okc _ l1
         have hset := set_spec G V (by omega) cs c2 k (by omega) sl y0 y1 y2 l2
         simp only [solR] at hset; refine rg [0, 6, 16, 17, 18, 51] [22, 20, 502] (notIn_ok rfl) fun K' hK' => ?_; (repeat (refine sxn fun K2 hK2 => ?_; simp [dNum, h0]; (repeat (refine ⟨by omega, ?_⟩)); refine hK2 _ ?_; clear hK2 K2)); refine sxz (hK' _ (AW.st (by simp [dNum, h0]; rfl) ?_)); clear hK' K'; refine AW_ff rfl ?_; refine rg [0, 16, 17, 18] [22, 20, 502] (notIn_ok rfl) fun K' hK' => ?_; (repeat (refine sxn fun K2 hK2 => ?_; simp [dNum]; (repeat (refine ⟨by omega, ?_⟩)); refine hK2 _ ?_; clear hK2 K2)); refine sxn fun K2 hK2 => ?_; simp [dNum]; refine callK.mc (hset) ?_ ?_ ?_ ?_ ?_ <;> simp [dNum]; refine hK2 _ ?_; clear hK2 K2; (repeat (refine sxn fun K2 hK2 => ?_; simp [dNum]; (repeat (refine ⟨by omega, ?_⟩)); refine hK2 _ ?_; clear hK2 K2)); refine sxz (hK' _ (AW.st (by simp [dNum]; rfl) ?_)); clear hK' K'; refine AW_re (tyOf_good _) fun K' hK' => ?_; (repeat (refine sxn fun K2 hK2 => ?_; simp [dNum]; (repeat (refine ⟨by omega, ?_⟩)); refine hK2 _ ?_; clear hK2 K2)); refine sxz (hK' _ ?_); clear hK' K'; refine hK4 _ (AW.norm [0, 3, 16, 17, 18] [22, 20, 502] (notIn_ok rfl) (AW.st (by simp [dNum]; rfl) ?_)); refine AW_re (tyOf_good _) fun K' hK' => ?_; (repeat (refine sxn fun K2 hK2 => ?_; simp [dNum]; (repeat (refine ⟨by omega, ?_⟩)); refine hK2 _ ?_; clear hK2 K2)); refine sxz (hK' _ ?_); clear hK' K'; (try simp only [thn, inb]); refine Again.mk (i + 1, c2 ++ [sl], true) ⟨by dsimp only; omega, g2.snoc y0 y1 y2 l2, hps⟩ (by dsimp only; omega) ?_; (try simp only [solR]); refine Imp.to' (notIn_ok rfl) (by simp [dNum, dRows, dRow, dInts]) (by simp [dNum, dRows, dRow, dInts])
    ·obtain rfl : i = cs.length := by omega
     rw [List.drop_length, passF] at hps; rw [← hps] at hsp; refine AW_exit ?_
     have hless := fun h : ag = true => pass_less ok gc (by rw [← hps, h])
     refine Again.mk (m, c2, ag) ⟨g2, fun h => ⟨by have := hless h; dsimp only; omega, ?_⟩, fun h => ?_⟩ (by dsimp only; omega) ?_
     ·dsimp only at h ⊢
      rw [← hsp]; subst h
      rfl
     ·dsimp only at h ⊢
      rw [← hsp]; subst h
      rfl
     ·simp only [solR]; refine Imp.to' (notIn_ok rfl) (by simp [dNum]) (by simp [dNum])
end Go.Proofs.YtagfbbnlbncjlaaGreatDoor
namespace Go.Proofs.YtagfbbnlbncjlaaGreatDoor
open Go.Av
set_option maxHeartbeats 1000000 in
theorem iindex_spec (G : Glob) (l : List Int) (y : Int) (hl : l.length < 2^60) : PureC Tryz.prog G 87 [.sl none (l.map fun x => [dNum x]), dNum y] (dNum (idx (fun x => y == x) l)) := by
 refine PureC.of_body (tyOf_good _) Tryz.func87 rfl rfl (rs := [.tmp 4]) Tryz.results87 (by simp [Tryz.ntmps87]) fun X => ?_; simp only [Tryz.ntmps87, List.map]; refine rg [0, 1] [] (fun _ _ => trivial) fun K' hK' => ?_; (repeat (refine sxn fun K2 hK2 => ?_; simp [dNum]; (repeat (refine ⟨by omega, ?_⟩)); refine hK2 _ ?_; clear hK2 K2)); refine sxz (hK' _ (AW.st (by simp [dNum]; rfl) ?_)); clear hK' K'; refine AW_then fun K1 hK1 => ?_; refine rg [0, 1, 7, 8] [] (fun _ _ => trivial) fun K' hK' => ?_; (repeat (refine sxn fun K2 hK2 => ?_; simp [dNum]; (repeat (refine ⟨by omega, ?_⟩)); refine hK2 _ ?_; clear hK2 K2)); refine sxz (hK' _ (AW.st (by simp [dNum]; rfl) ?_)); clear hK' K'; refine AW_for (S := Nat) (fun n => n ≤ l.length ∧ ∀ i (hi : i < l.length), i < n → (y == l[i]) = false) (fun n => ⟨lst [(0, .d (.sl none (l.map fun x => [dNum x]))), (1, .d (dNum y)), (7, int l.length), (8, int n)], hlst []⟩) (fun n => l.length - n) 0 ?_ (by simp) ?_
 ·refine Imp.to' (fun _ _ => trivial) (by simp [dNum]) (by simp [dNum])
 ·rintro n ⟨hn, hp⟩
  refine rg [0, 1, 7, 8, 9] [] (fun _ _ => trivial) fun K' hK' => ?_; (repeat (refine sxn fun K2 hK2 => ?_; simp [dNum]; (repeat (refine ⟨by omega, ?_⟩)); refine hK2 _ ?_; clear hK2 K2)); refine sxz (hK' _ (AW.st (by simp [dNum]; rfl) ?_)); clear hK' K'; refine AW_then fun K2 hK2 => ?_; refine AW_cond' (b := n < l.length) (by simp [D.le, D.le.go, takeMap, dNum]) (fun hc => ?_) (fun hc => ?_)
  ·have hnl : n < l.length := hc
   refine AW_skip (hK2 _ ?_); refine AW_then fun K3 hK3 => ?_; refine AW_block ?_; refine rg [0, 1, 5, 7, 8] [] (fun _ _ => trivial) fun K' hK' => ?_; (repeat (refine sxn fun K2 hK2 => ?_; simp [dNum]; (repeat (refine ⟨by omega, ?_⟩)); refine hK2 _ ?_; clear hK2 K2)); refine sxz (hK' _ (AW.st (by simp [dNum]; rfl) ?_)); clear hK' K'
   by_cases he : y = l[n]
   ·refine rg [0, 1, 5, 7, 8, 16] [] (fun _ _ => trivial) fun K' hK' => ?_; (repeat (refine sxn fun K2 hK2 => ?_; simp [dNum, hnl, eq_true he]; (repeat (refine ⟨by omega, ?_⟩)); refine hK2 _ ?_; clear hK2 K2)); refine sxz (hK' _ (AW.st (by simp [dNum, hnl, eq_true he]; rfl) ?_)); clear hK' K'; refine AW_tt rfl ?_; refine rg [4] [] (fun _ _ => trivial) fun K' hK' => ?_; (repeat (refine sxn fun K2 hK2 => ?_; simp [dNum]; (repeat (refine ⟨by omega, ?_⟩)); refine hK2 _ ?_; clear hK2 K2)); refine sxz (hK' _ (AW.st (by simp [dNum]; rfl) ?_)); clear hK' K'; refine AW_ret ?_; simp [D.le, D.le.go, takeMap, dNum]; exact (idx_hit (p := fun x => y == x) hnl (by simp [he]) fun i hi => hp i (by omega) hi).symm
   ·have he' : (y == l[n]) = false := by simpa using he
    refine rg [0, 1, 5, 7, 8, 16] [] (fun _ _ => trivial) fun K' hK' => ?_; (repeat (refine sxn fun K2 hK2 => ?_; simp [dNum, hnl, he]; (repeat (refine ⟨by omega, ?_⟩)); refine hK2 _ ?_; clear hK2 K2)); refine sxz (hK' _ (AW.st (by simp [dNum, hnl, he]; rfl) ?_)); clear hK' K'; refine AW_ff rfl ?_; refine AW_skip (hK3 _ ?_); refine AW_re (tyOf_good _) fun K' hK' => ?_; (repeat (refine sxn fun K2 hK2 => ?_; simp [dNum]; (repeat (refine ⟨by omega, ?_⟩)); refine hK2 _ ?_; clear hK2 K2)); refine sxz (hK' _ ?_); clear hK' K'; (try simp only [thn, inb]); refine Again.mk (n + 1) ⟨by omega, fun i hi hin => ?_⟩ (by omega) ?_
    ·by_cases h : i = n
     ·subst h; exact he'
     ·exact hp i hi (by omega)
    refine Imp.to' (fun _ _ => trivial) (by simp [dNum]) (by simp [dNum])
  ·refine AW_exit (hK1 _ ?_); refine rg [4] [] (fun _ _ => trivial) fun K' hK' => ?_; (repeat (refine sxn fun K2 hK2 => ?_; simp [dNum]; (repeat (refine ⟨by omega, ?_⟩)); refine hK2 _ ?_; clear hK2 K2)); refine sxz (hK' _ (AW.st (by simp [dNum]; rfl) ?_)); clear hK' K'; refine AW_ret ?_; simp [D.le, D.le.go, takeMap, dNum]; exact (idx_miss (p := fun x => y == x) fun i hi => hp i hi (by omega)).symm
theorem ofL_drop (V : Nat) (tr : List Int) : (ofL V tr).drop 1 = ((List.range' 1 V).map fun i => isT tr (i : Nat)).map fun x => [dNum x] := by
 unfold ofL; rw [List.range_eq_range', List.range'_succ]; simp
theorem free_idx (tr : List Int) : ∀ (n v : Nat), 0 < v → idx (fun x => (0 : Int) == x) ((List.range' v n).map fun i => isT tr (i : Nat)) = if freeF tr v n = 0 then -1 else (freeF tr v n : Int) - v
 | 0, v, _ => by simp [freeF, idx]
 | n + 1, v, h => by
  have ih := free_idx tr n (v + 1) (by omega)
  have hf := (free_facts tr n (v + 1) (by omega)).2
  rw [List.range'_succ, List.map_cons, freeF]
  by_cases h0 : isT tr v = 0
  ·rw [if_pos h0, if_neg (by omega)]; unfold idx; rw [List.findIdx?_cons, h0]; simp
  ·rw [if_neg h0]
   have e : ((0 : Int) == isT tr (v : Nat)) = false := by simpa using Ne.symm h0
   unfold idx at ih ⊢; rw [List.findIdx?_cons, e]
   cases hfi : List.findIdx? (fun x => (0 : Int) == x) ((List.range' (v + 1) n).map fun i => isT tr (i : Nat)) with
   | none =>
    rw [hfi] at ih
    dsimp only at ih
    by_cases hz : freeF tr (v + 1) n = 0
    ·simp [hz]
    ·rw [if_neg hz] at ih
     have := (hf hz).1
     omega
   | some i =>
    rw [hfi] at ih
    dsimp only at ih
    by_cases hz : freeF tr (v + 1) n = 0
    ·rw [if_pos hz] at ih; omega
    ·rw [if_neg hz] at ih; simp [hz]
     omega
structure LaterS (T : Prop) : Prop where
 out : T
theorem lateS {T U : Prop} (h : LaterS T → U) (t : T) : U := h ⟨t⟩
set_option maxHeartbeats 16000000 in
theorem search_specM (G : Glob) (V : Nat) (hV : V < 2^10) (cs : Cl) (hcs : cs.length < 2^60) (hcl : ∀ c ∈ cs, c.length < 2^60) (ok : OkC V cs) (M : List Int → Nat)
  (hM : ∀ tr, GoodT V tr → (spreadF cs (V + 1) tr).1 = true → freeF (spreadF cs (V + 1) tr).2 1 V ≠ 0 →
   M ((spreadF cs (V + 1) tr).2 ++ [(freeF (spreadF cs (V + 1) tr).2 1 V : Int)]) < M tr ∧ M ((spreadF cs (V + 1) tr).2 ++ [-(freeF (spreadF cs (V + 1) tr).2 1 V : Int)]) < M tr) :
  ∀ (n : Nat) (tr : List Int) (k : Nat), GoodT V tr → M tr < n → k + 2^n ≤ 20001 →
  MC Tryz.prog G [22, 20] 54 [.ref 22 0 0] (hlst (solR V cs tr k)) (.d (.tup [.v (.bool (searchF cs V n tr k).1), .v .nilIface])) (hlst (solR V cs (searchF cs V n tr k).2.1 (searchF cs V n tr k).2.2)) := by
 intro n
 induction n with
 | zero => intro tr k _ h; omega
 | succ n ih =>
  intro tr k g hlt hk
  have hps : 2^(n + 1) = 2^n + 2^n := by rw [Nat.pow_succ]; omega
  have hp1 : 1 ≤ 2^n := Nat.one_le_two_pow
  have hspec := spread_spec G V (by omega) cs hcs hcl ok tr g (k + 1) (V + 1) (by have := leftT_le V tr; omega)
  obtain ⟨⟨ext, a1⟩, a2, _, _⟩ := spread_facts ok (V + 1) tr g (by have := leftT_le V tr; omega)
  have hgl := good_len g
  have hMM := hM tr g
  have hR : searchF cs V (n + 1) tr k = _ := rfl
  generalize hRe : searchF cs V (n + 1) tr k = R at hR ⊢; rw [searchF] at hRe; clear hR; generalize spreadF cs (V + 1) tr = sp at hspec a1 a2 hRe hMM
  obtain ⟨okb, tr1⟩ := sp
  dsimp only at hspec a1 a2 hRe hMM
  have hgl1 := good_len a2
  have hbk := back_spec G V (by omega) cs tr1 a2 (k + 1) (by omega) tr.length (by rw [a1]; simp)
  have htk : tr1.take tr.length = tr := by rw [a1]; simp
  rw [htk] at hbk
  have hk1 : ¬ (20000 : Int) < (k : Int) + 1 := by omega
  simp only [solR] at hspec hbk; refine MC.of_body (tyOf_good _) Tryz.func54 rfl rfl (rs := [.tmp 2, .tmp 3]) Tryz.results54 (by simp [Tryz.ntmps54]) rfl fun X => ?_; simp only [Tryz.ntmps54]; simp only [solR]; refine rg [0] [22, 20, 502] (notIn_ok rfl) fun K' hK' => ?_; (repeat (refine sxn fun K2 hK2 => ?_; simp [dNum]; (repeat (refine ⟨by omega, ?_⟩)); refine hK2 _ ?_; clear hK2 K2)); refine sxz (hK' _ (AW.st (by simp [dNum]; rfl) ?_)); clear hK' K'; refine AW_then fun K1 hK1 => ?_; refine rg [0] [22, 20, 502] (notIn_ok rfl) fun K' hK' => ?_; (repeat (refine sxn fun K2 hK2 => ?_; simp [dNum]; (repeat (refine ⟨by omega, ?_⟩)); refine hK2 _ ?_; clear hK2 K2)); refine sxz (hK' _ (AW.st (by simp [dNum]; rfl) ?_)); clear hK' K'; refine rg [0, 22] [22, 20, 502] (notIn_ok rfl) fun K' hK' => ?_; (repeat (refine sxn fun K2 hK2 => ?_; simp [dNum, hk1]; (repeat (refine ⟨by omega, ?_⟩)); refine hK2 _ ?_; clear hK2 K2)); refine sxz (hK' _ (AW.st (by simp [dNum, hk1]; rfl) ?_)); clear hK' K'; refine AW_ff rfl ?_; refine AW_skip (hK1 _ ?_); refine rg [0, 4] [22, 20, 502] (notIn_ok rfl) fun K' hK' => ?_; (repeat (refine sxn fun K2 hK2 => ?_; simp [dNum]; (repeat (refine ⟨by omega, ?_⟩)); refine hK2 _ ?_; clear hK2 K2)); refine sxz (hK' _ (AW.st (by simp [dNum]; rfl) ?_)); clear hK' K'; refine AW_then fun K2 hK2 => ?_
  cases okb with
  | false =>
   rw [if_pos rfl] at hRe; refine rg [0, 4, 31] [22, 20, 502] (notIn_ok rfl) fun K' hK' => ?_; (repeat (refine sxn fun K2 hK2 => ?_; simp [dNum]; (repeat (refine ⟨by omega, ?_⟩)); refine hK2 _ ?_; clear hK2 K2)); refine sxn fun K2 hK2 => ?_; simp [dNum]; refine callK.mc (hspec) ?_ ?_ ?_ ?_ ?_ <;> simp [dNum]; refine hK2 _ ?_; clear hK2 K2; (repeat (refine sxn fun K2 hK2 => ?_; simp [dNum]; (repeat (refine ⟨by omega, ?_⟩)); refine hK2 _ ?_; clear hK2 K2)); refine sxz (hK' _ (AW.st (by simp [dNum]; rfl) ?_)); clear hK' K'; refine AW_tt rfl ?_; refine rg [] [22, 20, 502] (notIn_ok rfl) fun K' hK' => ?_; (repeat (refine sxn fun K2 hK2 => ?_; simp [dNum]; (repeat (refine ⟨by omega, ?_⟩)); refine hK2 _ ?_; clear hK2 K2)); refine sxn fun K2 hK2 => ?_; simp [dNum]; refine callK.mc (hbk) ?_ ?_ ?_ ?_ ?_ <;> simp [dNum]; refine hK2 _ ?_; clear hK2 K2; (repeat (refine sxn fun K2 hK2 => ?_; simp [dNum]; (repeat (refine ⟨by omega, ?_⟩)); refine hK2 _ ?_; clear hK2 K2)); refine sxz (hK' _ (AW.st (by simp [dNum]; rfl) ?_)); clear hK' K'; refine rg [2, 3] [22, 20, 502] (notIn_ok rfl) fun K' hK' => ?_; (repeat (refine sxn fun K2 hK2 => ?_; simp [dNum]; (repeat (refine ⟨by omega, ?_⟩)); refine hK2 _ ?_; clear hK2 K2)); refine sxz (hK' _ (AW.st (by simp [dNum]; rfl) ?_)); clear hK' K'; refine AW_ret ?_; simp [solR, ← hRe, dNum, D.le, D.le.go]
  | true =>
   rw [if_neg (by decide)] at hRe; refine rg [0, 4, 31] [22, 20, 502] (notIn_ok rfl) fun K' hK' => ?_; (repeat (refine sxn fun K2 hK2 => ?_; simp [dNum]; (repeat (refine ⟨by omega, ?_⟩)); refine hK2 _ ?_; clear hK2 K2)); refine sxn fun K2 hK2 => ?_; simp [dNum]; refine callK.mc (hspec) ?_ ?_ ?_ ?_ ?_ <;> simp [dNum]; refine hK2 _ ?_; clear hK2 K2; (repeat (refine sxn fun K2 hK2 => ?_; simp [dNum]; (repeat (refine ⟨by omega, ?_⟩)); refine hK2 _ ?_; clear hK2 K2)); refine sxz (hK' _ (AW.st (by simp [dNum]; rfl) ?_)); clear hK' K'; refine AW_ff rfl ?_; refine AW_skip (hK2 _ ?_)
   have hfi := free_idx tr1 V 1 (by decide)
   have hix := iindex_spec G ((List.range' 1 V).map fun i => isT tr1 (i : Nat)) 0 (by simp; omega)
   rw [hfi, ← ofL_drop] at hix
   have hdl : (List.drop 1 (ofL V tr1)).length = V := by simp [ofL_len]
   have htd : List.take V (List.drop 1 (ofL V tr1)) = List.drop 1 (ofL V tr1) := List.take_of_length_le (by omega)
   obtain ⟨c1, c2⟩ := free_facts tr1 V 1 (by decide)
   generalize freeF tr1 1 V = v at c1 c2 hRe hix hMM
   have hlen := ofL_len V tr1
   refine' lateS (fun hrest => ?_) ?_
   rotate_left
   ·by_cases hV0 : V = 0
    ·have hv0 : v = 0 := by
      apply Classical.byContradiction
      intro hv
      have := c2 hv
      omega
     rw [if_pos hv0, List.eq_nil_of_length_eq_zero (hdl.trans hV0)] at hix; refine rg [0, 4, 5] [22, 20, 502] (notIn_ok rfl) fun K' hK' => ?_; (repeat (refine sxn fun K2 hK2 => ?_; simp [dNum, hV0]; (repeat (refine ⟨by omega, ?_⟩)); refine hK2 _ ?_; clear hK2 K2)); refine sxn fun K2 hK2 => ?_; simp [dNum, hV0]; refine callK.data (hix) (by simp; rfl) (by first | exact D.leGo_refl _ | simp [takeMap, List.map_map, Function.comp_def, D.le, D.le.go, D.le_refl, D.leGo_refl, dNum, hV0]) ?_; refine hK2 _ ?_; clear hK2 K2; simp only [putd, upd_lst]; (repeat (refine sxn fun K2 hK2 => ?_; simp [dNum, hV0]; (repeat (refine ⟨by omega, ?_⟩)); refine hK2 _ ?_; clear hK2 K2)); refine sxz (hK' _ (AW.st (by simp [dNum, hV0]; rfl) ?_)); clear hK' K'; refine AW.imp (τ := ⟨lst [(0, .ref 22 0 0), (4, int tr.length), (5, int v)], hlst (solR V cs tr1 (k + 1))⟩) ?_ hrest.out; simp only [solR]; refine Imp.to' (notIn_ok rfl) (by simp [dNum, hV0, hv0]) (by simp [dNum, hV0, hv0])
    ·have hne1 : ¬ (1 : Int) = (V : Int) + 1 := by omega
     have hle1 : 1 + V ≤ V + 1 := by omega
     generalize hO : ofL V tr1 = O at hix htd hlen
     have htt : List.take V O.tail = O.tail := by rw [← List.drop_one]; exact htd
     by_cases hv : v = 0
     ·rw [if_pos hv] at hix; refine rg [0, 4, 5] [22, 20, 502] (notIn_ok rfl) fun K' hK' => ?_; (repeat (refine sxn fun K2 hK2 => ?_; simp [dNum, hO, hne1, hle1, hlen, htd, htt]; (repeat (refine ⟨by omega, ?_⟩)); refine hK2 _ ?_; clear hK2 K2)); refine sxn fun K2 hK2 => ?_; simp [dNum, hO, hne1, hle1, hlen, htd, htt]; refine callK.lend (hix) (by simp [dNum, hO, hne1, hle1, hlen, htd, htt]; rfl) (by first | exact D.leGo_refl _ | simp [takeMap, List.map_map, Function.comp_def, D.le, D.le.go, D.le_refl, D.leGo_refl, dNum, hO, hne1, hle1, hlen, htd, htt]) (by simp [D.scalar, dNum, hO, hne1, hle1, hlen, htd, htt]) ?_; refine hK2 _ ?_; clear hK2 K2; simp only [putd, upd_lst]; (repeat (refine sxn fun K2 hK2 => ?_; simp [dNum, hO, hne1, hle1, hlen, htd, htt]; (repeat (refine ⟨by omega, ?_⟩)); refine hK2 _ ?_; clear hK2 K2)); refine sxz (hK' _ (AW.st (by simp [dNum, hO, hne1, hle1, hlen, htd, htt]; rfl) ?_)); clear hK' K'; refine AW.imp (τ := ⟨lst [(0, .ref 22 0 0), (4, int tr.length), (5, int v)], hlst (solR V cs tr1 (k + 1))⟩) ?_ hrest.out; simp only [solR]; refine Imp.to' (notIn_ok rfl) (by simp [dNum, hO, hv]) (by simp [dNum, hO, hv])
     ·rw [if_neg hv] at hix
      have := c2 hv
      refine rg [0, 4, 5] [22, 20, 502] (notIn_ok rfl) fun K' hK' => ?_; (repeat (refine sxn fun K2 hK2 => ?_; simp [dNum, hO, hne1, hle1, hlen, htd, htt]; (repeat (refine ⟨by omega, ?_⟩)); refine hK2 _ ?_; clear hK2 K2)); refine sxn fun K2 hK2 => ?_; simp [dNum, hO, hne1, hle1, hlen, htd, htt]; refine callK.lend (hix) (by simp [dNum, hO, hne1, hle1, hlen, htd, htt]; rfl) (by first | exact D.leGo_refl _ | simp [takeMap, List.map_map, Function.comp_def, D.le, D.le.go, D.le_refl, D.leGo_refl, dNum, hO, hne1, hle1, hlen, htd, htt]) (by simp [D.scalar, dNum, hO, hne1, hle1, hlen, htd, htt]) ?_; refine hK2 _ ?_; clear hK2 K2; simp only [putd, upd_lst]; (repeat (refine sxn fun K2 hK2 => ?_; simp [dNum, hO, hne1, hle1, hlen, htd, htt]; (repeat (refine ⟨by omega, ?_⟩)); refine hK2 _ ?_; clear hK2 K2)); refine sxz (hK' _ (AW.st (by simp [dNum, hO, hne1, hle1, hlen, htd, htt]; rfl) ?_)); clear hK' K'; refine AW.imp (τ := ⟨lst [(0, .ref 22 0 0), (4, int tr.length), (5, int v)], hlst (solR V cs tr1 (k + 1))⟩) ?_ hrest.out; simp only [solR]; refine Imp.to' (notIn_ok rfl) (by simp [dNum, hO]) (by simp [dNum, hO])
   simp only [solR]; refine AW_then fun K3 hK3 => ?_
   by_cases hv : v = 0
   ·rw [if_pos hv] at hRe; refine rg [0, 4, 5, 43] [22, 20, 502] (notIn_ok rfl) fun K' hK' => ?_; (repeat (refine sxn fun K2 hK2 => ?_; simp [dNum, hv]; (repeat (refine ⟨by omega, ?_⟩)); refine hK2 _ ?_; clear hK2 K2)); refine sxz (hK' _ (AW.st (by simp [dNum, hv]; rfl) ?_)); clear hK' K'; refine AW_tt rfl ?_; refine rg [2, 3] [22, 20, 502] (notIn_ok rfl) fun K' hK' => ?_; (repeat (refine sxn fun K2 hK2 => ?_; simp [dNum]; (repeat (refine ⟨by omega, ?_⟩)); refine hK2 _ ?_; clear hK2 K2)); refine sxz (hK' _ (AW.st (by simp [dNum]; rfl) ?_)); clear hK' K'; refine AW_ret ?_; simp [solR, ← hRe, dNum, D.le, D.le.go]
   rw [if_neg hv] at hRe
   try dsimp only at hRe
   obtain ⟨d1, d2, d3, _⟩ := c2 hv
   have d3' : isT tr1 (-(v : Int)) = 0 := by rw [isT_neg a2, d3]; rfl
   have g1 := a2.snoc (x := (v : Int)) (by omega) (by omega) (by omega) d3
   have g2 := a2.snoc (x := -(v : Int)) (by omega) (by omega) (by omega) d3'
   obtain ⟨l1, l2⟩ := hMM rfl hv
   have hA := ih (tr1 ++ [(v : Int)]) (k + 1) g1 (by omega) (by omega)
   obtain ⟨e1, e2, e3⟩ := search_factsM ok M hM n (tr1 ++ [(v : Int)]) (k + 1) g1 (by omega)
   generalize searchF cs V n (tr1 ++ [(v : Int)]) (k + 1) = A at hA e1 e2 e3 hRe
   obtain ⟨Ab, Atr, Ak⟩ := A
   dsimp only at hA e1 e2 e3 hRe
   have hB := ih (tr1 ++ [-(v : Int)]) Ak g2 (by omega) (by omega)
   obtain ⟨q1, q2, q3⟩ := search_factsM ok M hM n (tr1 ++ [-(v : Int)]) Ak g2 (by omega)
   generalize searchF cs V n (tr1 ++ [-(v : Int)]) Ak = B at hB q1 q2 q3 hRe
   obtain ⟨Bb, Btr, Bk⟩ := B
   dsimp only at hB q1 q2 q3 hRe
   have hs1 := set_spec G V (by omega) cs tr1 (k + 1) (by omega) (v : Int) (by omega) (by omega) (by omega) d3
   have hs2 := set_spec G V (by omega) cs tr1 Ak (by omega) (-(v : Int)) (by omega) (by omega) (by omega) d3'
   have hb1 := back_spec G V (by omega) cs (tr1 ++ [(v : Int)]) g1 Ak (by simp; omega) tr1.length (by simp)
   have hb2 := back_spec G V (by omega) cs (tr1 ++ [-(v : Int)]) g2 Bk (by simp; omega) tr1.length (by simp)
   have hb3 := back_spec G V (by omega) cs tr1 a2 Bk (by omega) tr.length (by rw [a1]; simp)
   rw [show ∀ y : Int, (tr1 ++ [y]).take tr1.length = tr1 from fun y => by simp] at hb1 hb2; rw [htk] at hb3; simp only [solR] at hA hB hs1 hs2 hb1 hb2 hb3; refine rg [0, 4, 5, 43] [22, 20, 502] (notIn_ok rfl) fun K' hK' => ?_; (repeat (refine sxn fun K2 hK2 => ?_; simp [dNum, hv]; (repeat (refine ⟨by omega, ?_⟩)); refine hK2 _ ?_; clear hK2 K2)); refine sxz (hK' _ (AW.st (by simp [dNum, hv]; rfl) ?_)); clear hK' K'; refine AW_ff rfl ?_; refine AW_skip (hK3 _ ?_); refine AW_then fun K4 hK4 => ?_; refine rg [0, 4, 47, 48, 49] [22, 20, 502, 47] (notIn_ok rfl) fun K' hK' => ?_; (repeat (refine sxn fun K2 hK2 => ?_; simp [dNum]; (repeat (refine ⟨by omega, ?_⟩)); refine hK2 _ ?_; clear hK2 K2)); refine sxz (hK' _ (AW.st (by simp [dNum]; rfl) ?_)); clear hK' K'; refine AW.imp (Imp.freeze 47 (by decide)) ?_; refine AW.st (by simp [dNum]; rfl) ?_; refine AW_for (S := Nat × Nat) (fun s => (s.1 = 0 ∧ s.2 = k + 1) ∨ (s.1 = 1 ∧ Ab = false ∧ s.2 = Ak) ∨ (s.1 = 2 ∧ Ab = false ∧ Bb = false ∧ s.2 = Bk)) (fun s => ⟨lst [(0, .ref 22 0 0), (4, int tr.length), (47, .d (.sl none [[dNum v], [dNum (-(v : Int))]])), (48, int 2), (49, int s.1)], hlst (solR V cs tr1 s.2)⟩) (fun s => 3 - s.1) (0, k + 1) ?_ (.inl ⟨rfl, rfl⟩) ?_
   ·simp only [solR]; refine Imp.to' (notIn_ok rfl) (by simp [dNum]) (by simp [dNum])
   ·rintro ⟨i, kk⟩ hinv
    dsimp only at hinv ⊢
    simp only [solR]
    rcases hinv with ⟨rfl, rfl⟩ | ⟨rfl, hA0, rfl⟩ | ⟨rfl, hA0, hB0, rfl⟩
    ·refine rg [0, 4, 47, 48, 49, 50] [22, 20, 502] (notIn_ok rfl) fun K' hK' => ?_; (repeat (refine sxn fun K2 hK2 => ?_; simp [dNum]; (repeat (refine ⟨by omega, ?_⟩)); refine hK2 _ ?_; clear hK2 K2)); refine sxz (hK' _ (AW.st (by simp [dNum]; rfl) ?_)); clear hK' K'; refine AW_then fun K5 hK5 => ?_; refine AW_tt rfl ?_; refine AW_skip (hK5 _ ?_); refine AW_then fun K6 hK6 => ?_; refine AW_block ?_; refine rg [0, 4, 7, 47, 48, 49] [22, 20, 502] (notIn_ok rfl) fun K' hK' => ?_; (repeat (refine sxn fun K2 hK2 => ?_; simp [dNum]; (repeat (refine ⟨by omega, ?_⟩)); refine hK2 _ ?_; clear hK2 K2)); refine sxz (hK' _ (AW.st (by simp [dNum]; rfl) ?_)); clear hK' K'; refine rg [0, 4, 7, 8, 47, 48, 49] [22, 20, 502] (notIn_ok rfl) fun K' hK' => ?_; (repeat (refine sxn fun K2 hK2 => ?_; simp [dNum]; (repeat (refine ⟨by omega, ?_⟩)); refine hK2 _ ?_; clear hK2 K2)); refine sxz (hK' _ (AW.st (by simp [dNum]; rfl) ?_)); clear hK' K'; refine rg [0, 4, 8, 47, 48, 49] [22, 20, 502] (notIn_ok rfl) fun K' hK' => ?_; (repeat (refine sxn fun K2 hK2 => ?_; simp [dNum]; (repeat (refine ⟨by omega, ?_⟩)); refine hK2 _ ?_; clear hK2 K2)); refine sxn fun K2 hK2 => ?_; simp [dNum]; refine callK.mc (hs1) ?_ ?_ ?_ ?_ ?_ <;> simp [dNum]; refine hK2 _ ?_; clear hK2 K2; (repeat (refine sxn fun K2 hK2 => ?_; simp [dNum]; (repeat (refine ⟨by omega, ?_⟩)); refine hK2 _ ?_; clear hK2 K2)); refine sxz (hK' _ (AW.st (by simp [dNum]; rfl) ?_)); clear hK' K'; refine AW_then fun K7 hK7 => ?_; refine rg [0, 4, 8, 9, 10, 47, 48, 49] [22, 20, 502] (notIn_ok rfl) fun K' hK' => ?_; (repeat (refine sxn fun K2 hK2 => ?_; simp [dNum]; (repeat (refine ⟨by omega, ?_⟩)); refine hK2 _ ?_; clear hK2 K2)); refine sxn fun K2 hK2 => ?_; simp [dNum]; refine callK.mc (hA) ?_ ?_ ?_ ?_ ?_ <;> simp [dNum]; refine hK2 _ ?_; clear hK2 K2; (repeat (refine sxn fun K2 hK2 => ?_; simp [dNum]; (repeat (refine ⟨by omega, ?_⟩)); refine hK2 _ ?_; clear hK2 K2)); refine sxz (hK' _ (AW.st (by simp [dNum]; rfl) ?_)); clear hK' K'
     cases Ab with
     | true =>
      rw [if_pos rfl] at hRe; refine rg [0, 4, 8, 9, 10, 47, 48, 49, 70] [22, 20, 502] (notIn_ok rfl) fun K' hK' => ?_; (repeat (refine sxn fun K2 hK2 => ?_; simp [dNum]; (repeat (refine ⟨by omega, ?_⟩)); refine hK2 _ ?_; clear hK2 K2)); refine sxz (hK' _ (AW.st (by simp [dNum]; rfl) ?_)); clear hK' K'; refine AW_tt rfl ?_; refine rg [2, 3] [22, 20, 502] (notIn_ok rfl) fun K' hK' => ?_; (repeat (refine sxn fun K2 hK2 => ?_; simp [dNum]; (repeat (refine ⟨by omega, ?_⟩)); refine hK2 _ ?_; clear hK2 K2)); refine sxz (hK' _ (AW.st (by simp [dNum]; rfl) ?_)); clear hK' K'; refine AW_ret ?_; simp [solR, ← hRe, dNum, D.le, D.le.go]
     | false =>
      obtain ⟨rfl, _⟩ := e3 rfl
      refine rg [0, 4, 8, 9, 10, 47, 48, 49, 70] [22, 20, 502] (notIn_ok rfl) fun K' hK' => ?_; (repeat (refine sxn fun K2 hK2 => ?_; simp [dNum]; (repeat (refine ⟨by omega, ?_⟩)); refine hK2 _ ?_; clear hK2 K2)); refine sxz (hK' _ (AW.st (by simp [dNum]; rfl) ?_)); clear hK' K'; refine AW_ff rfl ?_; refine AW_skip (hK7 _ ?_); refine AW_re (tyOf_good _) fun K' hK' => ?_; (repeat (refine sxn fun K2 hK2 => ?_; simp [dNum]; (repeat (refine ⟨by omega, ?_⟩)); refine hK2 _ ?_; clear hK2 K2)); refine sxn fun K2 hK2 => ?_; simp [dNum]; refine callK.mc (hb1) ?_ ?_ ?_ ?_ ?_ <;> simp [dNum]; refine hK2 _ ?_; clear hK2 K2; (repeat (refine sxn fun K2 hK2 => ?_; simp [dNum]; (repeat (refine ⟨by omega, ?_⟩)); refine hK2 _ ?_; clear hK2 K2)); refine sxz (hK' _ ?_); clear hK' K'; refine hK6 _ (AW.norm [0, 4, 47, 48, 49] [22, 20, 502] (notIn_ok rfl) (AW.st (by simp [dNum]; rfl) ?_)); refine AW_re (tyOf_good _) fun K' hK' => ?_; (repeat (refine sxn fun K2 hK2 => ?_; simp [dNum]; (repeat (refine ⟨by omega, ?_⟩)); refine hK2 _ ?_; clear hK2 K2)); refine sxz (hK' _ ?_); clear hK' K'; (try simp only [thn, inb]); refine Again.mk (1, Ak) (by simp) (by dsimp only; omega) ?_; simp only [solR]; refine Imp.to' (notIn_ok rfl) (by simp [dNum]) (by simp [dNum])
    ·subst hA0; rw [if_neg (by decide)] at hRe; refine rg [0, 4, 47, 48, 49, 50] [22, 20, 502] (notIn_ok rfl) fun K' hK' => ?_; (repeat (refine sxn fun K2 hK2 => ?_; simp [dNum]; (repeat (refine ⟨by omega, ?_⟩)); refine hK2 _ ?_; clear hK2 K2)); refine sxz (hK' _ (AW.st (by simp [dNum]; rfl) ?_)); clear hK' K'; refine AW_then fun K5 hK5 => ?_; refine AW_tt rfl ?_; refine AW_skip (hK5 _ ?_); refine AW_then fun K6 hK6 => ?_; refine AW_block ?_; refine rg [0, 4, 7, 47, 48, 49] [22, 20, 502] (notIn_ok rfl) fun K' hK' => ?_; (repeat (refine sxn fun K2 hK2 => ?_; simp [dNum]; (repeat (refine ⟨by omega, ?_⟩)); refine hK2 _ ?_; clear hK2 K2)); refine sxz (hK' _ (AW.st (by simp [dNum]; rfl) ?_)); clear hK' K'; refine rg [0, 4, 7, 8, 47, 48, 49] [22, 20, 502] (notIn_ok rfl) fun K' hK' => ?_; (repeat (refine sxn fun K2 hK2 => ?_; simp [dNum]; (repeat (refine ⟨by omega, ?_⟩)); refine hK2 _ ?_; clear hK2 K2)); refine sxz (hK' _ (AW.st (by simp [dNum]; rfl) ?_)); clear hK' K'; refine rg [0, 4, 8, 47, 48, 49] [22, 20, 502] (notIn_ok rfl) fun K' hK' => ?_; (repeat (refine sxn fun K2 hK2 => ?_; simp [dNum]; (repeat (refine ⟨by omega, ?_⟩)); refine hK2 _ ?_; clear hK2 K2)); refine sxn fun K2 hK2 => ?_; simp [dNum]; refine callK.mc (hs2) ?_ ?_ ?_ ?_ ?_ <;> simp [dNum]; refine hK2 _ ?_; clear hK2 K2; (repeat (refine sxn fun K2 hK2 => ?_; simp [dNum]; (repeat (refine ⟨by omega, ?_⟩)); refine hK2 _ ?_; clear hK2 K2)); refine sxz (hK' _ (AW.st (by simp [dNum]; rfl) ?_)); clear hK' K'; refine AW_then fun K7 hK7 => ?_; refine rg [0, 4, 8, 9, 10, 47, 48, 49] [22, 20, 502] (notIn_ok rfl) fun K' hK' => ?_; (repeat (refine sxn fun K2 hK2 => ?_; simp [dNum]; (repeat (refine ⟨by omega, ?_⟩)); refine hK2 _ ?_; clear hK2 K2)); refine sxn fun K2 hK2 => ?_; simp [dNum]; refine callK.mc (hB) ?_ ?_ ?_ ?_ ?_ <;> simp [dNum]; refine hK2 _ ?_; clear hK2 K2; (repeat (refine sxn fun K2 hK2 => ?_; simp [dNum]; (repeat (refine ⟨by omega, ?_⟩)); refine hK2 _ ?_; clear hK2 K2)); refine sxz (hK' _ (AW.st (by simp [dNum]; rfl) ?_)); clear hK' K'
     cases Bb with
     | true =>
      rw [if_pos rfl] at hRe; refine rg [0, 4, 8, 9, 10, 47, 48, 49, 70] [22, 20, 502] (notIn_ok rfl) fun K' hK' => ?_; (repeat (refine sxn fun K2 hK2 => ?_; simp [dNum]; (repeat (refine ⟨by omega, ?_⟩)); refine hK2 _ ?_; clear hK2 K2)); refine sxz (hK' _ (AW.st (by simp [dNum]; rfl) ?_)); clear hK' K'; refine AW_tt rfl ?_; refine rg [2, 3] [22, 20, 502] (notIn_ok rfl) fun K' hK' => ?_; (repeat (refine sxn fun K2 hK2 => ?_; simp [dNum]; (repeat (refine ⟨by omega, ?_⟩)); refine hK2 _ ?_; clear hK2 K2)); refine sxz (hK' _ (AW.st (by simp [dNum]; rfl) ?_)); clear hK' K'; refine AW_ret ?_; simp [solR, ← hRe, dNum, D.le, D.le.go]
     | false =>
      obtain ⟨rfl, _⟩ := q3 rfl
      refine rg [0, 4, 8, 9, 10, 47, 48, 49, 70] [22, 20, 502] (notIn_ok rfl) fun K' hK' => ?_; (repeat (refine sxn fun K2 hK2 => ?_; simp [dNum]; (repeat (refine ⟨by omega, ?_⟩)); refine hK2 _ ?_; clear hK2 K2)); refine sxz (hK' _ (AW.st (by simp [dNum]; rfl) ?_)); clear hK' K'; refine AW_ff rfl ?_; refine AW_skip (hK7 _ ?_); refine AW_re (tyOf_good _) fun K' hK' => ?_; (repeat (refine sxn fun K2 hK2 => ?_; simp [dNum]; (repeat (refine ⟨by omega, ?_⟩)); refine hK2 _ ?_; clear hK2 K2)); refine sxn fun K2 hK2 => ?_; simp [dNum]; refine callK.mc (hb2) ?_ ?_ ?_ ?_ ?_ <;> simp [dNum]; refine hK2 _ ?_; clear hK2 K2; (repeat (refine sxn fun K2 hK2 => ?_; simp [dNum]; (repeat (refine ⟨by omega, ?_⟩)); refine hK2 _ ?_; clear hK2 K2)); refine sxz (hK' _ ?_); clear hK' K'; refine hK6 _ (AW.norm [0, 4, 47, 48, 49] [22, 20, 502] (notIn_ok rfl) (AW.st (by simp [dNum]; rfl) ?_)); refine AW_re (tyOf_good _) fun K' hK' => ?_; (repeat (refine sxn fun K2 hK2 => ?_; simp [dNum]; (repeat (refine ⟨by omega, ?_⟩)); refine hK2 _ ?_; clear hK2 K2)); refine sxz (hK' _ ?_); clear hK' K'; (try simp only [thn, inb]); refine Again.mk (2, Bk) (by simp) (by dsimp only; omega) ?_; simp only [solR]; refine Imp.to' (notIn_ok rfl) (by simp [dNum]) (by simp [dNum])
    ·subst hA0 hB0; rw [if_neg (by decide), if_neg (by decide)] at hRe; refine rg [0, 4, 47, 48, 49, 50] [22, 20, 502] (notIn_ok rfl) fun K' hK' => ?_; (repeat (refine sxn fun K2 hK2 => ?_; simp [dNum]; (repeat (refine ⟨by omega, ?_⟩)); refine hK2 _ ?_; clear hK2 K2)); refine sxz (hK' _ (AW.st (by simp [dNum]; rfl) ?_)); clear hK' K'; refine AW_then fun K5 hK5 => ?_; refine AW_ff rfl ?_; refine AW_exit (hK4 _ ?_); refine rg [] [22, 20, 502] (notIn_ok rfl) fun K' hK' => ?_; (repeat (refine sxn fun K2 hK2 => ?_; simp [dNum]; (repeat (refine ⟨by omega, ?_⟩)); refine hK2 _ ?_; clear hK2 K2)); refine sxn fun K2 hK2 => ?_; simp [dNum]; refine callK.mc (hb3) ?_ ?_ ?_ ?_ ?_ <;> simp [dNum]; refine hK2 _ ?_; clear hK2 K2; (repeat (refine sxn fun K2 hK2 => ?_; simp [dNum]; (repeat (refine ⟨by omega, ?_⟩)); refine hK2 _ ?_; clear hK2 K2)); refine sxz (hK' _ (AW.st (by simp [dNum]; rfl) ?_)); clear hK' K'; refine rg [2, 3] [22, 20, 502] (notIn_ok rfl) fun K' hK' => ?_; (repeat (refine sxn fun K2 hK2 => ?_; simp [dNum]; (repeat (refine ⟨by omega, ?_⟩)); refine hK2 _ ?_; clear hK2 K2)); refine sxz (hK' _ (AW.st (by simp [dNum]; rfl) ?_)); clear hK' K'; refine AW_ret ?_; simp [solR, ← hRe, dNum, D.le, D.le.go]
end Go.Proofs.YtagfbbnlbncjlaaGreatDoor
namespace Go.Proofs.YtagfbbnlbncjlaaGreatDoor
open Go.Av
def dVals (V : Nat) (f : Nat → Bool) : D := .sl none ((List.range V).map fun v => [.v (.bool (f (v + 1)))])
theorem ofL_nil (V : Nat) : ofL V [] = List.replicate (V + 1) [dNum 0] := by
 apply List.ext_getElem
 ·simp [ofL]
 ·intro i h1 h2
  simp [ofL, isT]
theorem val_isT {V : Nat} {tr : List Int} (v : Nat) : (isT tr (v : Int) == 1) = valT tr v := by
 unfold valT
 by_cases h : (v : Int) ∈ tr
 ·rw [isT_one.2 h]; simp [h]
 ·have : isT tr (v : Int) ≠ 1 := fun e => h (isT_one.1 e)
  simp [h, this]
set_option maxHeartbeats 8000000 in
theorem Solve_goodM (G : Glob) (V : Nat) (hV : V ≤ 1000) (cs : Cl) (hl : cs.length < 2^60) (hr : ∀ c ∈ cs, c.length < 2^60) (ok : OkC V cs) (he : gateE V cs = none) (M : List Int → Nat)
  (hM : ∀ tr, GoodT V tr → (spreadF cs (V + 1) tr).1 = true → freeF (spreadF cs (V + 1) tr).2 1 V ≠ 0 →
   M ((spreadF cs (V + 1) tr).2 ++ [(freeF (spreadF cs (V + 1) tr).2 1 V : Int)]) < M tr ∧ M ((spreadF cs (V + 1) tr).2 ++ [-(freeF (spreadF cs (V + 1) tr).2 1 V : Int)]) < M tr)
  (n : Nat) (h0 : M [] < n) (hn : 2^n ≤ 20001) :
  PureC Tryz.prog G 23 [dCl V cs] (if (searchF cs V n [] 0).1 = true then .tup [dVals V (valT (searchF cs V n [] 0).2.1), .v .nilIface] else .tup [.sl (some false) [], dErr (some (8, none))]) := by
 have hc := gcheck_spec G V cs hl hr
 rw [he] at hc
 have hs := search_specM G V (by omega) cs hl hr ok M hM n [] 0 (GoodT.nil V) h0 (by omega)
 have hof := ofL_nil V
 have hV9 : (V : Int) ≤ 1000 := by omega
 generalize hRe : searchF cs V n [] 0 = R at hs ⊢
 obtain ⟨Rb, Rtr, Rk⟩ := R
 dsimp only at hs ⊢
 simp only [solR] at hs; refine PureC.of_body (tyOf_good _) Tryz.func23 rfl rfl (rs := [.tmp 2, .tmp 3]) Tryz.results23 (by simp [Tryz.ntmps23]) fun X => ?_; simp only [Tryz.ntmps23, List.map]; refine rg [1] [1] (fun _ _ => trivial) fun K' hK' => ?_; (repeat (refine sxn fun K2 hK2 => ?_; simp [dNum, dCl]; (repeat (refine ⟨by omega, ?_⟩)); refine hK2 _ ?_; clear hK2 K2)); refine sxz (hK' _ (AW.st (by simp [dNum, dCl]; rfl) ?_)); clear hK' K'; refine AW_then fun K1 hK1 => ?_; refine rg [1, 4] [1] (fun _ _ => trivial) fun K' hK' => ?_; (repeat (refine sxn fun K2 hK2 => ?_; simp [dNum, dCl]; (repeat (refine ⟨by omega, ?_⟩)); refine hK2 _ ?_; clear hK2 K2)); refine sxn fun K2 hK2 => ?_; simp [dNum, dCl]; refine callK.data (hc) (by simp; rfl) (by first | exact D.leGo_refl _ | simp [takeMap, List.map_map, Function.comp_def, D.le, D.le.go, D.le_refl, D.leGo_refl, dNum, dCl]) ?_; refine hK2 _ ?_; clear hK2 K2; simp only [putd, upd_lst]; (repeat (refine sxn fun K2 hK2 => ?_; simp [dNum, dCl]; (repeat (refine ⟨by omega, ?_⟩)); refine hK2 _ ?_; clear hK2 K2)); refine sxz (hK' _ (AW.st (by simp [dNum, dCl]; rfl) ?_)); clear hK' K'; refine rg [1, 4, 14] [1] (fun _ _ => trivial) fun K' hK' => ?_; (repeat (refine sxn fun K2 hK2 => ?_; simp [dNum, dErr]; (repeat (refine ⟨by omega, ?_⟩)); refine hK2 _ ?_; clear hK2 K2)); refine sxz (hK' _ (AW.st (by simp [dNum, dErr]; rfl) ?_)); clear hK' K'; refine AW_ff rfl ?_; refine AW_skip (hK1 _ ?_); refine AW.imp (Imp.freezeB 1 trivial) ?_; refine AW.st (by simp [dNum]; rfl) ?_; refine AW_rl (tyOf_good _) (by kernel_rfl) ([]) ([]) ([0, 1, 2, 3, 4, 5, 6, 7]) [5] [20, 22] (fun _ _ => trivial) (by kernel_rfl) fun K' hK' => ?_; (repeat (refine sxl_nextO rfl fun K2 hK2 => ?_; simp [dNum, hV9]; (repeat (refine ⟨by omega, ?_⟩)); refine hK2 _ ?_; clear hK2 K2)); refine sxl_nilO (hK' _ ?_); refine AW.st (by simp [dNum, hV9]; rfl) ?_; clear hK' K'; refine AW.imp (τ := ⟨lst [(5, .ref 22 0 0)], hlst (solR V cs [] 0)⟩) ((Imp.adoptCell 22 3 502 3 1 rfl rfl rfl).trans ?_) ?_
 ·simp only [solR, hof]; refine Imp.to' (fun _ _ => trivial) (by simp [dNum, trL, List.replicate_succ]) (by simp [dNum, trL, List.replicate_succ])
 simp only [solR]; refine rg [5, 6, 7] [22, 20, 502] (fun _ _ => trivial) fun K' hK' => ?_; (repeat (refine sxn fun K2 hK2 => ?_; simp [dNum]; (repeat (refine ⟨by omega, ?_⟩)); refine hK2 _ ?_; clear hK2 K2)); refine sxn fun K2 hK2 => ?_; simp [dNum]; refine callK.mc (hs) ?_ ?_ ?_ ?_ ?_ <;> simp [dNum]; refine hK2 _ ?_; clear hK2 K2; (repeat (refine sxn fun K2 hK2 => ?_; simp [dNum]; (repeat (refine ⟨by omega, ?_⟩)); refine hK2 _ ?_; clear hK2 K2)); refine sxz (hK' _ (AW.st (by simp [dNum]; rfl) ?_)); clear hK' K'; refine AW_then fun K2 hK2 => ?_; refine AW_block ?_; refine rg [5, 6, 7, 28] [22, 20, 502] (fun _ _ => trivial) fun K' hK' => ?_; (repeat (refine sxn fun K2 hK2 => ?_; simp [dNum]; (repeat (refine ⟨by omega, ?_⟩)); refine hK2 _ ?_; clear hK2 K2)); refine sxz (hK' _ (AW.st (by simp [dNum]; rfl) ?_)); clear hK' K'; refine AW_ff rfl ?_
 cases Rb with
 | false =>
  refine rg [5, 32] [22, 20, 502] (fun _ _ => trivial) fun K' hK' => ?_; (repeat (refine sxn fun K2 hK2 => ?_; simp [dNum]; (repeat (refine ⟨by omega, ?_⟩)); refine hK2 _ ?_; clear hK2 K2)); refine sxz (hK' _ (AW.st (by simp [dNum]; rfl) ?_)); clear hK' K'; refine AW_tt rfl ?_; refine rg [2, 3] [] (fun _ _ => trivial) fun K' hK' => ?_; (repeat (refine sxn fun K2 hK2 => ?_; simp [dNum]; (repeat (refine ⟨by omega, ?_⟩)); refine hK2 _ ?_; clear hK2 K2)); refine sxz (hK' _ (AW.st (by simp [dNum]; rfl) ?_)); clear hK' K'; refine AW_ret ?_; simp [D.le, D.le.go, takeMap, dNum, dErr]
 | true =>
  refine rg [5, 32] [22, 20, 502] (fun _ _ => trivial) fun K' hK' => ?_; (repeat (refine sxn fun K2 hK2 => ?_; simp [dNum]; (repeat (refine ⟨by omega, ?_⟩)); refine hK2 _ ?_; clear hK2 K2)); refine sxz (hK' _ (AW.st (by simp [dNum]; rfl) ?_)); clear hK' K'; refine AW_ff rfl ?_; refine AW_skip (hK2 _ ?_)
  have hol := ofL_len V Rtr
  have hol2 : List.take (V + 1) (ofL V Rtr) = ofL V Rtr := List.take_of_length_le (by omega)
  have hod := ofL_drop V Rtr
  have hot : List.take V (ofL V Rtr).tail = (ofL V Rtr).tail := List.take_of_length_le (by simp [hol])
  have hoe : ∀ el ∈ ofL V Rtr, el.length = 1 := fun el hel => by
   obtain ⟨v, _, rfl⟩ := List.mem_map.1 hel
   rfl
  have htl : List.take Rtr.length (trL Rtr) = trL Rtr := List.take_of_length_le (by simp [trL])
  have htl2 : (trL Rtr).length = Rtr.length := by simp [trL]
  refine AW.imp (Imp.freeze 20 trivial) ?_; refine AW.st (by simp [dNum, hol]; rfl) ?_; refine AW.imp (Imp.freeze 502 trivial) ?_; refine AW.st (by simp [dNum, htl2]; rfl) ?_; refine AW.imp (Imp.freezeB 22 trivial) ?_; refine AW.st (by simp [dNum]; rfl) ?_; refine rg [5, 8] [] (fun _ _ => trivial) fun K' hK' => ?_; (repeat (refine sxn fun K2 hK2 => ?_; simp [dNum]; (repeat (refine ⟨by omega, ?_⟩)); refine hK2 _ ?_; clear hK2 K2)); refine sxz (hK' _ (AW.st (by simp [dNum]; rfl) ?_)); clear hK' K'; refine AW_then fun K3 hK3 => ?_; rw [List.drop_one] at hod; generalize ofL V Rtr = O at hol hol2 hot hoe hod
  obtain ⟨T, hT⟩ : ∃ T, O.tail = T := ⟨_, rfl⟩
  rw [hT] at hod hot
  have hTl : T.length = V := by rw [← hT]; simp [hol]
  refine rg [8, 40, 41, 42] [] (fun _ _ => trivial) fun K' hK' => ?_; (repeat (refine sxn fun K2 hK2 => ?_; simp [dNum, hol, hot, hT, eq_true hoe]; (repeat (refine ⟨by omega, ?_⟩)); refine hK2 _ ?_; clear hK2 K2)); refine sxz (hK' _ (AW.st (by simp [dNum, hol, hot, hT, eq_true hoe]; rfl) ?_)); clear hK' K'; refine AW_for (S := Nat) (fun i => i ≤ V) (fun i => ⟨lst [(8, .own 300 0 i), (40, .d (.sl none T)), (41, int V), (42, int i)], hlst [(300, .sl 4 1 ((List.range i).map fun v => [.v (.bool (valT Rtr (v + 1)))]))]⟩) (fun i => V - i) 0 ?_ (by omega) ?_
  ·refine (Imp.adopt 8 300 4 1 rfl rfl).trans ?_; refine Imp.to' (fun _ _ => trivial) (by simp [dNum, hTl]) (by simp [dNum, hTl])
  ·intro i hi
   refine rg [8, 40, 41, 42, 43] [300] (fun _ _ => trivial) fun K' hK' => ?_; (repeat (refine sxn fun K2 hK2 => ?_; simp [dNum]; (repeat (refine ⟨by omega, ?_⟩)); refine hK2 _ ?_; clear hK2 K2)); refine sxz (hK' _ (AW.st (by simp [dNum]; rfl) ?_)); clear hK' K'; refine AW_then fun K4 hK4 => ?_; refine AW_cond' (b := i < V) (by simp [D.le, D.le.go, takeMap, dNum]) (fun hc => ?_) (fun hc => ?_)
   ·have hiV : i < V := hc
    have hiT : i < T.length := by omega
    have hTi : T[i] = [dNum (isT Rtr ((i + 1 : Nat) : Int))] := by
     have h' : T[i]? = some [dNum (isT Rtr ((i + 1 : Nat) : Int))] := by
      rw [hod]; simp [hiV, Nat.add_comm]
     rw [List.getElem?_eq_getElem hiT] at h'; exact Option.some.inj h'
    have hvi := val_isT (V := V) (tr := Rtr) (i + 1)
    generalize isT Rtr ((i + 1 : Nat) : Int) = s at hTi hvi
    have hrs : ∀ g : Nat → List D, (List.range (i + 1)).map g = (List.range i).map g ++ [g i] := fun g => by rw [List.range_succ, List.map_append]; rfl
    have htr : ∀ g : Nat → List D, List.take i ((List.range i).map g) = (List.range i).map g := fun g => List.take_of_length_le (by simp)
    refine AW_skip (hK4 _ ?_); refine AW_then fun K5 hK5 => ?_; refine AW_block ?_; refine rg [8, 10, 40, 41, 42] [300] (fun _ _ => trivial) fun K' hK' => ?_; (repeat (refine sxn fun K2 hK2 => ?_; simp [dNum, hiT, hiV, hTi, hTl]; (repeat (refine ⟨by omega, ?_⟩)); refine hK2 _ ?_; clear hK2 K2)); refine sxz (hK' _ (AW.st (by simp [dNum, hiT, hiV, hTi, hTl]; rfl) ?_)); clear hK' K'; refine AW_re (tyOf_good _) fun K' hK' => ?_; (repeat (refine sxn fun K2 hK2 => ?_; simp [dNum]; (repeat (refine ⟨by omega, ?_⟩)); refine hK2 _ ?_; clear hK2 K2)); refine sxz (hK' _ ?_); clear hK' K'; refine hK5 _ (AW.norm [8, 40, 41, 42] [300] (fun _ _ => trivial) (AW.st (by simp [dNum]; rfl) ?_)); refine AW_re (tyOf_good _) fun K' hK' => ?_; (repeat (refine sxn fun K2 hK2 => ?_; simp [dNum]; (repeat (refine ⟨by omega, ?_⟩)); refine hK2 _ ?_; clear hK2 K2)); refine sxz (hK' _ ?_); clear hK' K'; (try simp only [thn, inb]); refine Again.mk (i + 1) (by omega) (by omega) ?_; refine Imp.to' (fun _ _ => trivial) (by simp [dNum, hrs, htr, ← hvi]) (by simp [dNum, hrs, htr, ← hvi])
   ·obtain rfl : i = V := by omega
    refine AW_exit (hK3 _ ?_); refine AW.imp (Imp.freeze 300 trivial) ?_; refine AW.st (by simp [dNum]; rfl) ?_; refine rg [2, 3] [] (fun _ _ => trivial) fun K' hK' => ?_; (repeat (refine sxn fun K2 hK2 => ?_; simp [dNum]; (repeat (refine ⟨by omega, ?_⟩)); refine hK2 _ ?_; clear hK2 K2)); refine sxz (hK' _ (AW.st (by simp [dNum]; rfl) ?_)); clear hK' K'; refine AW_ret ?_; simp [D.le, D.le.go, takeMap, dNum, dVals]
end Go.Proofs.YtagfbbnlbncjlaaGreatDoor
namespace Go.Proofs.YtagfbbnlbncjlaaGreatDoor
open Go.Av
def bRow (V : Nat) (cs : Cl) (ents : List (Value × D)) : List (Nat × Row) := [(501, .box 85 [.d (dNum V), .own 502 0 cs.length, .mp 503]), (502, .sl 58 1 (cs.map fun l => [dRow l])), (503, .mp 83 ents)]
set_option maxHeartbeats 4000000 in
theorem fresh_spec (G : Glob) (V : Nat) (hV : V < 2^40) (cs : Cl) (ents : List (Value × D)) : MC Tryz.prog G [501, 503] 41 [.ref 501 0 0] (hlst (bRow V cs ents)) (.d (dNum ((V : Int) + 1))) (hlst (bRow (V + 1) cs ents)) := by
 refine MC.of_body (tyOf_good _) Tryz.func41 rfl rfl (rs := [.tmp 2]) Tryz.results41 (by simp [Tryz.ntmps41]) rfl fun X => ?_; simp only [Tryz.ntmps41]; refine rg [0] [501, 502, 503] (notIn_ok rfl) fun K' hK' => ?_; (repeat (refine sxn fun K2 hK2 => ?_; simp [dNum, bRow]; (repeat (refine ⟨by omega, ?_⟩)); refine hK2 _ ?_; clear hK2 K2)); refine sxz (hK' _ (AW.st (by simp [dNum, bRow]; rfl) ?_)); clear hK' K'; refine rg [0] [501, 502, 503] (notIn_ok rfl) fun K' hK' => ?_; (repeat (refine sxn fun K2 hK2 => ?_; simp [dNum, bRow]; (repeat (refine ⟨by omega, ?_⟩)); refine hK2 _ ?_; clear hK2 K2)); refine sxz (hK' _ (AW.st (by simp [dNum, bRow]; rfl) ?_)); clear hK' K'; refine rg [2] [501, 502, 503] (notIn_ok rfl) fun K' hK' => ?_; (repeat (refine sxn fun K2 hK2 => ?_; simp [dNum, bRow]; (repeat (refine ⟨by omega, ?_⟩)); refine hK2 _ ?_; clear hK2 K2)); refine sxz (hK' _ (AW.st (by simp [dNum, bRow]; rfl) ?_)); clear hK' K'; refine AW_ret ?_; simp [D.le, D.le.go, takeMap, dNum, bRow, bRow, dNum, D.le_refl]
set_option maxHeartbeats 4000000 in
theorem add_spec2 (G : Glob) (V : Nat) (cs : Cl) (hcs : cs.length < 2^40) (ents : List (Value × D)) (l : List Int) : MC Tryz.prog G [501, 503] 73 [.ref 501 0 0, .d (dRow l)] (hlst (bRow V cs ents)) (.d (.tup [])) (hlst (bRow V (cs ++ [l]) ents)) := by
 refine MC.of_body (tyOf_good _) Tryz.func73 rfl rfl (rs := []) Tryz.results73 (by simp [Tryz.ntmps73]) rfl fun X => ?_; simp only [Tryz.ntmps73]; refine AW_re (tyOf_good _) fun K' hK' => ?_; (repeat (refine sxn fun K2 hK2 => ?_; simp [dNum, bRow, dRow, dInts, List.take_of_length_le]; (repeat (refine ⟨by omega, ?_⟩)); refine hK2 _ ?_; clear hK2 K2)); refine sxz (hK' _ ?_); clear hK' K'; (try simp only [thn, inb]); simp [D.le_refl, bRow, dRow, dInts, dNum]
end Go.Proofs.YtagfbbnlbncjlaaGreatDoor
namespace Go.Proofs.YtagfbbnlbncjlaaGreatDoor
open Go.Av
def inW (x : Int) : Prop := -2^40 < x ∧ x < 2^40
def andC (v : Int) (l : List Int) (cs : Cl) : Cl := cs ++ l.map fun x => [-v, x]
theorem andC_succ (v : Int) {l : List Int} (cs : Cl) {n : Nat} (h : n < l.length) : andC v (l.take (n + 1)) cs = andC v (l.take n) cs ++ [[-v, l[n]]] := by
 unfold andC; rw [List.take_succ_eq_append_getElem h, List.map_append, ← List.append_assoc]
 rfl
theorem take_neg {l : List Int} {n : Nat} (h : n < l.length) : List.take (n + 1) (l.map fun x => [(.v (.int .i64 (-x)) : D)]) = List.take n (l.map fun x => [(.v (.int .i64 (-x)) : D)]) ++ [[.v (.int .i64 (-l[n]))]] := by
 rw [List.take_succ_eq_append_getElem (by simpa using h)]; simp
set_option maxHeartbeats 8000000 in
theorem gand_spec (G : Glob) (V : Nat) (hV : V < 2^39) (cs : Cl) (hcs : cs.length < 2^38) (ents : List (Value × D)) (l : List Int) (hl : l.length < 2^38) (hx : ∀ x ∈ l, inW x) : MC Tryz.prog G [501, 503] 72 [.ref 501 0 0, .d (dRow l)] (hlst (bRow V cs ents)) (.d (dNum (mkAnd l (V, cs)).1)) (hlst (bRow (mkAnd l (V, cs)).2.1 (mkAnd l (V, cs)).2.2 ents)) := by
 refine MC.of_body (tyOf_good _) Tryz.func72 rfl rfl (rs := [.tmp 4]) Tryz.results72 (by simp [Tryz.ntmps72]) rfl fun X => ?_; simp only [Tryz.ntmps72]
 have hf := fresh_spec G V (by omega) cs ents
 refine rg [0, 1] [501, 502, 503] (notIn_ok rfl) fun K' hK' => ?_; (repeat (refine sxn fun K2 hK2 => ?_; simp [dNum, bRow, takeMap, Function.comp_def]; (repeat (refine ⟨by omega, ?_⟩)); refine hK2 _ ?_; clear hK2 K2)); refine sxz (hK' _ (AW.st (by simp [dNum, bRow, takeMap, Function.comp_def]; rfl) ?_)); clear hK' K'; refine rg [0, 1, 5] [501, 502, 503] (notIn_ok rfl) fun K' hK' => ?_; (repeat (refine sxn fun K2 hK2 => ?_; simp [dNum, bRow, takeMap, Function.comp_def]; (repeat (refine ⟨by omega, ?_⟩)); refine hK2 _ ?_; clear hK2 K2)); refine sxn fun K2 hK2 => ?_; simp [dNum, bRow, takeMap, Function.comp_def]; refine callK.mc (hf) ?_ ?_ ?_ ?_ ?_ <;> simp [dNum, bRow, takeMap, Function.comp_def]; refine hK2 _ ?_; clear hK2 K2; (repeat (refine sxn fun K2 hK2 => ?_; simp [dNum, bRow, takeMap, Function.comp_def]; (repeat (refine ⟨by omega, ?_⟩)); refine hK2 _ ?_; clear hK2 K2)); refine sxz (hK' _ (AW.st (by simp [dNum, bRow, takeMap, Function.comp_def]; rfl) ?_)); clear hK' K'; refine rg [0, 1, 5, 6] [501, 502, 503, 12] (notIn_ok rfl) fun K' hK' => ?_; (repeat (refine sxn fun K2 hK2 => ?_; simp [dNum, bRow, takeMap, Function.comp_def]; (repeat (refine ⟨by omega, ?_⟩)); refine hK2 _ ?_; clear hK2 K2)); refine sxz (hK' _ (AW.st (by simp [dNum, bRow, takeMap, Function.comp_def]; rfl) ?_)); clear hK' K'; refine AW_then fun K1 hK1 => ?_; refine rg [0, 5, 6, 13, 14, 15] [501, 502, 503, 12] (notIn_ok rfl) fun K' hK' => ?_; (repeat (refine sxn fun K2 hK2 => ?_; simp [dNum, bRow, takeMap, Function.comp_def, dRow, dInts]; (repeat (refine ⟨by omega, ?_⟩)); refine hK2 _ ?_; clear hK2 K2)); refine sxz (hK' _ (AW.st (by simp [dNum, bRow, takeMap, Function.comp_def, dRow, dInts]; rfl) ?_)); clear hK' K'; refine AW_for (S := Nat) (fun n => n ≤ l.length) (fun n => ⟨lst [(0, .ref 501 0 0), (5, int ((V : Int) + 1)), (6, .own 12 0 (n + 1)), (13, .d (dRow l)), (14, int l.length), (15, int n)], hlst (bRow (V + 1) (andC ((V : Int) + 1) (l.take n) cs) ents ++ [(12, .sl 3 1 ([dNum ((V : Int) + 1)] :: (l.take n).map fun x => [dNum (-x)]))])⟩) (fun n => l.length - n) 0 ?_ (by omega) ?_
 ·refine Imp.to' (notIn_ok rfl) (by simp [dNum, bRow, takeMap, Function.comp_def, andC, dRow, dInts]) (by simp [dNum, bRow, takeMap, Function.comp_def, andC, dRow, dInts])
 ·intro n hn
  refine rg [0, 5, 6, 13, 14, 15, 16] [501, 502, 503, 12] (notIn_ok rfl) fun K' hK' => ?_; (repeat (refine sxn fun K2 hK2 => ?_; simp [dNum, bRow, takeMap, Function.comp_def]; (repeat (refine ⟨by omega, ?_⟩)); refine hK2 _ ?_; clear hK2 K2)); refine sxz (hK' _ (AW.st (by simp [dNum, bRow, takeMap, Function.comp_def]; rfl) ?_)); clear hK' K'; refine AW_then fun K2 hK2 => ?_; refine AW_cond' (b := n < l.length) (by simp [D.le, D.le.go, takeMap, dNum, bRow, takeMap, Function.comp_def]) (fun hc => ?_) (fun hc => ?_)
  ·have hnl : n < l.length := hc
   have hxn := hx _ (List.getElem_mem hnl)
   have hlen : (andC ((V : Int) + 1) (l.take n) cs).length < 2^40 := by simp only [andC, List.length_append, List.length_map, List.length_take]; omega
   have ha := add_spec2 G (V + 1) (andC ((V : Int) + 1) (l.take n) cs) hlen ents [-((V : Int) + 1), l[n]]
   rw [← andC_succ _ _ hnl] at ha
   have htk := take_neg hnl
   have hmin : min n l.length = n := by omega
   unfold inW at hxn; refine AW_skip (hK2 _ ?_); refine AW_then fun K3 hK3 => ?_; refine AW_block ?_; refine rg [0, 5, 6, 8, 13, 14, 15] [501, 502, 503, 12] (notIn_ok rfl) fun K' hK' => ?_; (repeat (refine sxn fun K2 hK2 => ?_; simp [dNum, bRow, takeMap, Function.comp_def, dRow, dInts, hnl]; (repeat (refine ⟨by omega, ?_⟩)); refine hK2 _ ?_; clear hK2 K2)); refine sxz (hK' _ (AW.st (by simp [dNum, bRow, takeMap, Function.comp_def, dRow, dInts, hnl]; rfl) ?_)); clear hK' K'; refine rg [0, 5, 6, 8, 13, 14, 15] [501, 502, 503, 12] (notIn_ok rfl) fun K' hK' => ?_; (repeat (refine sxn fun K2 hK2 => ?_; simp [dNum, bRow, takeMap, Function.comp_def, dRow, dInts]; (repeat (refine ⟨by omega, ?_⟩)); refine hK2 _ ?_; clear hK2 K2)); refine sxn fun K2 hK2 => ?_; simp [dNum, bRow, takeMap, Function.comp_def, dRow, dInts]; refine callK.frz 23 (by first | rfl | (simp [dNum, bRow, takeMap, Function.comp_def, dRow, dInts]; rfl)) (by decide) ?_; simp [dNum, bRow, takeMap, Function.comp_def, dRow, dInts]; refine callK.mc (ha) ?_ ?_ ?_ ?_ ?_ <;> simp [dNum, bRow, takeMap, Function.comp_def, dRow, dInts]; refine hK2 _ ?_; clear hK2 K2; (repeat (refine sxn fun K2 hK2 => ?_; simp [dNum, bRow, takeMap, Function.comp_def, dRow, dInts]; (repeat (refine ⟨by omega, ?_⟩)); refine hK2 _ ?_; clear hK2 K2)); refine sxz (hK' _ (AW.st (by simp [dNum, bRow, takeMap, Function.comp_def, dRow, dInts]; rfl) ?_)); clear hK' K'; refine AW_re (tyOf_good _) fun K' hK' => ?_; (repeat (refine sxn fun K2 hK2 => ?_; simp [dNum, bRow, takeMap, Function.comp_def, hmin]; (repeat (refine ⟨by omega, ?_⟩)); refine hK2 _ ?_; clear hK2 K2)); refine sxz (hK' _ ?_); clear hK' K'; refine hK3 _ (AW.norm [0, 5, 6, 13, 14, 15] [501, 502, 503, 12] (notIn_ok rfl) (AW.st (by simp [dNum, bRow, takeMap, Function.comp_def, hmin]; rfl) ?_)); refine AW_re (tyOf_good _) fun K' hK' => ?_; (repeat (refine sxn fun K2 hK2 => ?_; simp [dNum, bRow, takeMap, Function.comp_def]; (repeat (refine ⟨by omega, ?_⟩)); refine hK2 _ ?_; clear hK2 K2)); refine sxz (hK' _ ?_); clear hK' K'; (try simp only [thn, inb]); refine Again.mk (n + 1) (by omega) (by omega) ?_; refine Imp.to' (notIn_ok rfl) (by simp [dNum, bRow, takeMap, Function.comp_def, htk, hmin, dRow, dInts, List.take_take]) (by simp [dNum, bRow, takeMap, Function.comp_def, htk, hmin, dRow, dInts, List.take_take])
  ·obtain rfl : n = l.length := by omega
   rw [List.take_length]
   have hlen : (andC ((V : Int) + 1) l cs).length < 2^40 := by simp only [andC, List.length_append, List.length_map]; omega
   have ha := add_spec2 G (V + 1) (andC ((V : Int) + 1) l cs) hlen ents (((V : Int) + 1) :: l.map fun x => -x)
   refine AW_exit (hK1 _ ?_); refine rg [5] [501, 502, 503] (notIn_ok rfl) fun K' hK' => ?_; (repeat (refine sxn fun K2 hK2 => ?_; simp [dNum, bRow, takeMap, Function.comp_def, dRow, dInts]; (repeat (refine ⟨by omega, ?_⟩)); refine hK2 _ ?_; clear hK2 K2)); refine sxn fun K2 hK2 => ?_; simp [dNum, bRow, takeMap, Function.comp_def, dRow, dInts]; refine callK.frz 12 (by first | rfl | (simp [dNum, bRow, takeMap, Function.comp_def, dRow, dInts]; rfl)) (by decide) ?_; simp [dNum, bRow, takeMap, Function.comp_def, dRow, dInts]; refine callK.mc (ha) ?_ ?_ ?_ ?_ ?_ <;> simp [dNum, bRow, takeMap, Function.comp_def, dRow, dInts]; refine hK2 _ ?_; clear hK2 K2; (repeat (refine sxn fun K2 hK2 => ?_; simp [dNum, bRow, takeMap, Function.comp_def, dRow, dInts]; (repeat (refine ⟨by omega, ?_⟩)); refine hK2 _ ?_; clear hK2 K2)); refine sxz (hK' _ (AW.st (by simp [dNum, bRow, takeMap, Function.comp_def, dRow, dInts]; rfl) ?_)); clear hK' K'; refine rg [4] [501, 502, 503] (notIn_ok rfl) fun K' hK' => ?_; (repeat (refine sxn fun K2 hK2 => ?_; simp [dNum, bRow, takeMap, Function.comp_def]; (repeat (refine ⟨by omega, ?_⟩)); refine hK2 _ ?_; clear hK2 K2)); refine sxz (hK' _ (AW.st (by simp [dNum, bRow, takeMap, Function.comp_def]; rfl) ?_)); clear hK' K'; refine AW_ret ?_; simp [mkAnd, andC, bRow, dNum, D.le, dRow, dInts, Function.comp_def, Nat.add_assoc]
end Go.Proofs.YtagfbbnlbncjlaaGreatDoor
namespace Go.Proofs.YtagfbbnlbncjlaaGreatDoor
open Go.Av
theorem nameF_nn {s : Tx} (h : nameF s = true) : s ≠ [] := (name_facts h).1
end Go.Proofs.YtagfbbnlbncjlaaGreatDoor
