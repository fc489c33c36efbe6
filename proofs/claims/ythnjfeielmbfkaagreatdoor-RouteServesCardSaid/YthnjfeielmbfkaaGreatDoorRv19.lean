/-
  Texts that belong together, in one file: X1, X4, Y1, Y2, Y3, X6, V7, A2, A3, W2, U2, V6, V8, C1, LP1, LC1.
-/
import Derived.Test.YthnjfeielmbfkaaGreatDoorRv18
import Derived.Lib.Join
set_option linter.unusedSimpArgs false
set_option linter.unusedVariables false
namespace Go.Proofs.YthnjfeielmbfkaaGreatDoor
inductive Ex where
 | cst (b : Bool)
 | bit (s : List UInt8)
 | rise (s : List UInt8)
 | fall (s : List UInt8)
 | not (e : Ex)
 | and (l : List Ex)
 | or (l : List Ex)
inductive Rs (α : Type) where
 | ok (x : α) (i : Nat)
 | err (c : Int) (p q : Nat)
def isSgn (c : UInt8) : Bool := [32, 38, 124, 33, 94, 126, 40, 41, 61].contains c
def Rs.map {α β : Type} (f : α → β) : Rs α → Rs β
 | .ok x i => .ok (f x) i
 | .err c p q => .err c p q
end Go.Proofs.YthnjfeielmbfkaaGreatDoor
namespace Go.Proofs.YthnjfeielmbfkaaGreatDoor
open Go.Av
mutual
def dE : Ex → D
 | .cst b => .ifc 128 (.v (.bool b))
 | .bit s => .ifc 108 (dS s)
 | .rise s => .ifc 125 (dS s)
 | .fall s => .ifc 127 (dS s)
 | .not e => .ifc 110 (.agg [dE e])
 | .and l => .ifc 123 (.sl none (dEs l))
 | .or l => .ifc 124 (.sl none (dEs l))
def dEs : List Ex → List (List D)
 | [] => []
 | e :: l => [dE e] :: dEs l
end
theorem dEs_map : ∀ l : List Ex, dEs l = l.map fun e => [dE e]
 | [] => rfl
 | e :: l => by rw [dEs, dEs_map l]; rfl
theorem dE_ifc (e : Ex) : ∃ t y, dE e = .ifc t y := by
 cases e <;> simp only [dE] <;> exact ⟨_, _, rfl⟩
end Go.Proofs.YthnjfeielmbfkaaGreatDoor
namespace Go.Proofs.YthnjfeielmbfkaaGreatDoor
def Has (t : List UInt8) (p : Nat) (w : List UInt8) : Prop := ∀ k, k < w.length → t[p + k]? = w[k]?
theorem Has.cons {t : List UInt8} {p : Nat} {c : UInt8} {w : List UInt8} (h : Has t p (c :: w)) : t[p]? = some c ∧ Has t (p + 1) w := by
 refine ⟨by simpa using h 0 (by simp), fun k hk => ?_⟩
 have := h (k + 1) (by simp; omega)
 rw [show p + 1 + k = p + (k + 1) by omega, this]
 rfl
theorem Has.app {t : List UInt8} {p : Nat} {u v : List UInt8} (h : Has t p (u ++ v)) : Has t p u ∧ Has t (p + u.length) v := by
 constructor
 ·intro k hk
  rw [h k (by simp; omega), List.getElem?_append_left hk]
 ·intro k hk
  rw [show p + u.length + k = p + (u.length + k) by omega, h (u.length + k) (by simp; omega), List.getElem?_append_right (by omega)]
  congr 1
  omega
theorem name_facts {s : List UInt8} (h : nameF s = true) : s ≠ [] ∧ s.length ≤ 8 ∧ (∀ c ∈ s, isSgn c = false) ∧ ∀ c, s[0]? = some c → isSgn c = false ∧ c ≠ 48 ∧ c ≠ 49 ∧ 97 ≤ c.toNat := by
 unfold nameF at h; simp only [Bool.and_eq_true, decide_eq_true_eq, trim_nil] at h
 obtain ⟨h1, h2, h3, h4, h5, -⟩ := h
 have hs : ∀ c : UInt8, cutL.contains c = true → isSgn c = false := by
  have h : ∀ n : Fin 256, cutL.contains (UInt8.ofNat n) = true → isSgn (UInt8.ofNat n) = false := by decide +kernel
  intro c
  have := h ⟨c.toNat, c.toNat_lt⟩
  simpa using this
 refine ⟨h1, h2, fun c hc => hs c (h5 c hc), fun c hc => ?_⟩
 have hm : c ∈ s := List.mem_of_getElem? hc
 have hg : s.getD 0 0 = c := by rw [List.getD_eq_getElem?_getD, hc]; rfl
 rw [hg] at h3; refine ⟨hs c (h5 c hm), ?_, ?_, h3⟩ <;> rintro rfl <;> revert h3 <;> decide
mutual
def WfE : Ex → Prop
 | .cst _ => True
 | .bit s => nameF s = true
 | .rise s => nameF s = true
 | .fall s => nameF s = true
 | .not e => WfE e
 | .and l => 2 ≤ l.length ∧ WfEs l
 | .or l => 2 ≤ l.length ∧ WfEs l
def WfEs : List Ex → Prop
 | [] => True
 | e :: l => WfE e ∧ WfEs l
end
theorem WfEs_iff : ∀ l : List Ex, WfEs l ↔ ∀ e ∈ l, WfE e
 | [] => by simp [WfEs]
 | e :: l => by simp [WfEs, WfEs_iff l]
mutual
def dpE : Ex → Nat
 | .cst _ => 1
 | .bit _ => 1
 | .rise _ => 1
 | .fall _ => 1
 | .not e => dpE e + 1
 | .and l => dpA l + 1
 | .or l => dpO l + 1
def dpA : List Ex → Nat
 | [] => 0
 | e :: l => max (dpE e) (dpA l)
def dpO : List Ex → Nat
 | [] => 0
 | e :: l => max (match e with | .and m => dpA m | e => dpE e) (dpO l)
end
def dpI : Ex → Nat
 | .and l => dpA l
 | .or l => dpO l
 | e => dpE e
def dpJ : Ex → Nat
 | .and l => dpA l
 | e => dpE e
theorem dpO_cons (e : Ex) (l : List Ex) : dpO (e :: l) = max (dpJ e) (dpO l) := by
 cases e <;> simp [dpO, dpJ]
end Go.Proofs.YthnjfeielmbfkaaGreatDoor
namespace Go.Proofs.YthnjfeielmbfkaaGreatDoor
mutual
def evE (is was : List UInt8 → Bool) : Ex → Bool
 | .cst b => b
 | .bit s => is s
 | .rise s => is s && !was s
 | .fall s => !is s && was s
 | .not e => !evE is was e
 | .and l => evA is was l
 | .or l => evO is was l
def evA (is was : List UInt8 → Bool) : List Ex → Bool
 | [] => true
 | e :: l => evE is was e && evA is was l
def evO (is was : List UInt8 → Bool) : List Ex → Bool
 | [] => false
 | e :: l => evE is was e || evO is was l
end
end Go.Proofs.YthnjfeielmbfkaaGreatDoor
namespace Go.Proofs.YthnjfeielmbfkaaGreatDoor
mutual
def bE : Ex → Nat
 | .cst _ => 4
 | .bit s => s.length + 3
 | .rise s => s.length + 4
 | .fall s => s.length + 4
 | .not e => bE e + 1
 | .and l => bEs l + 5
 | .or l => bEs l + 5
def bEs : List Ex → Nat
 | [] => 0
 | e :: l => bE e + bEs l
end
theorem bEs_app : ∀ (a b : List Ex), bEs (a ++ b) = bEs a + bEs b
 | [], b => by simp [bEs]
 | e :: a, b => by simp only [List.cons_append, bEs, bEs_app a b]; omega
theorem bE_pos : ∀ e : Ex, 3 ≤ bE e
 | .not e => by have := bE_pos e; simp only [bE]; omega
 | .cst _ => by simp [bE]
 | .bit _ => by simp [bE]
 | .rise _ => by simp only [bE]; omega
 | .fall _ => by simp only [bE]; omega
 | .and _ => by simp only [bE]; omega
 | .or _ => by simp only [bE]; omega
theorem bEs_mem {x : Ex} : ∀ {l : List Ex}, x ∈ l → bE x ≤ bEs l
 | y :: l, h => by
  rw [bEs]
  rcases List.mem_cons.1 h with rfl | h
  ·omega
  ·have := bEs_mem h; omega
theorem bEs_len : ∀ l : List Ex, 3 * l.length ≤ bEs l
 | [] => by simp
 | e :: l => by have := bEs_len l; have := bE_pos e; simp only [List.length_cons, bEs]; omega
end Go.Proofs.YthnjfeielmbfkaaGreatDoor
namespace Go.Proofs.YthnjfeielmbfkaaGreatDoor
open Go.Av
theorem renH_one {r r' : Nat} (h : r ≠ r') (row : Row) : renH r r' (hlst [(r, row)]) = hlst [(r', row.tr (renO r r') (renF r r'))] := by
 funext q
 unfold renH
 by_cases h1 : q = r'
 ·subst h1; simp [hlst, List.lookup]
 ·rw [if_neg h1]
  by_cases h2 : q = r
  ·subst h2; simp [hlst, List.lookup, h1, beq_eq_false_iff_ne.2 h1]
  ·simp [hlst, List.lookup, h2, beq_eq_false_iff_ne.2 h1, beq_eq_false_iff_ne.2 h2]
end Go.Proofs.YthnjfeielmbfkaaGreatDoor
namespace Go.Proofs.YthnjfeielmbfkaaGreatDoor
open Go.Av
theorem bEs_take {l : List Ex} {i : Nat} (hi : i < l.length) : bEs (l.take i) + bE l[i] ≤ bEs l := by
 have h1 := bEs_app (l.take i) [l[i]]
 rw [← List.take_succ_eq_append_getElem hi] at h1
 have h2 := bEs_app (l.take (i + 1)) (l.drop (i + 1))
 rw [List.take_append_drop] at h2; simp only [bEs] at h1
 omega
end Go.Proofs.YthnjfeielmbfkaaGreatDoor
namespace Go.Proofs.YthnjfeielmbfkaaGreatDoor
open Go.Av
def eR {α : Type} : Rs α → Int
 | .ok _ _ => 0
 | .err c _ _ => c
end Go.Proofs.YthnjfeielmbfkaaGreatDoor
namespace Go.Proofs.YthnjfeielmbfkaaGreatDoor
open Go.Av
theorem cells_one {y : D} (h : y.one = true) : valCells (.d y) = some [.d y] := by
 cases y <;> first | (simp [valCells, AV.one, D.one] at h ⊢; done) | (simp [D.one] at h; simp [valCells, AV.one, D.one, h])
end Go.Proofs.YthnjfeielmbfkaaGreatDoor
namespace Go.Proofs.YthnjfeielmbfkaaGreatDoor
open Go.Av
def nmE (all : Bool) : Ex → List UInt8
 | .bit s => if all then s else []
 | .rise s => s
 | .fall s => s
 | _ => []
def one1 (s : List UInt8) : List (List UInt8) := if s = [] then [] else [s]
mutual
def nmsE (all : Bool) : Ex → List (List UInt8)
 | .not e => nmsE all e
 | .and l => nmsL all l
 | .or l => nmsL all l
 | e => one1 (nmE all e)
def nmsL (all : Bool) : List Ex → List (List UInt8)
 | [] => []
 | e :: l => nmsE all e ++ nmsL all l
end
theorem nmsL_app (all : Bool) : ∀ a b : List Ex, nmsL all (a ++ b) = nmsL all a ++ nmsL all b
 | [], b => rfl
 | e :: a, b => by simp [nmsL, nmsL_app all a b]
theorem nmsL_take (all : Bool) {l : List Ex} {i : Nat} (hi : i < l.length) : nmsL all (l.take (i + 1)) = nmsL all (l.take i) ++ nmsE all l[i] := by
 rw [List.take_succ_eq_append_getElem hi, nmsL_app]; simp [nmsL]
theorem nms_b (all : Bool) : ∀ (n : Nat) (e : Ex), SizeOf.sizeOf e ≤ n → (nmsE all e).length ≤ bE e
 | 0, e, hn => by cases e <;> simp at hn
 | n + 1, e, hn => by
  have many : ∀ l : List Ex, (∀ x ∈ l, SizeOf.sizeOf x ≤ n) → (nmsL all l).length ≤ bEs l := by
   intro l
   induction l with
   | nil => intro _; simp [nmsL]
   | cons x l ih =>
    intro h
    have a := ih fun y hy => h y (by simp [hy])
    have b := nms_b all n x (h x (by simp))
    simp only [nmsL, bEs, List.length_append]
    omega
  have hone : ∀ s, (one1 s).length ≤ 1 := fun s => by unfold one1; split <;> simp
  have hp := bE_pos e
  cases e with
  | not x => have := nms_b all n x (by simp at hn; omega); simp only [nmsE, bE]; omega
  | and l =>
   have := many l fun x hx => by have := List.sizeOf_lt_of_mem hx; simp only [Ex.and.sizeOf_spec] at hn; omega
   simp only [nmsE, bE]; omega
  | or l =>
   have := many l fun x hx => by have := List.sizeOf_lt_of_mem hx; simp only [Ex.or.sizeOf_spec] at hn; omega
   simp only [nmsE, bE]; omega
  | cst b => have := hone (nmE all (.cst b)); simp only [nmsE]; omega
  | bit s => have := hone (nmE all (.bit s)); simp only [nmsE]; omega
  | rise s => have := hone (nmE all (.rise s)); simp only [nmsE]; omega
  | fall s => have := hone (nmE all (.fall s)); simp only [nmsE]; omega
theorem nms_len (all : Bool) (e : Ex) : (nmsE all e).length ≤ bE e := nms_b all _ e (Nat.le_refl _)
theorem nmsL_len (all : Bool) : ∀ l : List Ex, (nmsL all l).length ≤ bEs l
 | [] => by simp [nmsL]
 | e :: l => by have := nms_len all e; have := nmsL_len all l; simp only [nmsL, bEs, List.length_append]; omega
def nRow (l : List (List UInt8)) : List (Nat × Row) := [(502, .box 169 [.own 503 0 l.length]), (503, .sl 9 1 (l.map fun s => [dS s]))]
def fnOf (all : Bool) : FuncId := if all then 170 else 162
set_option maxHeartbeats 8000000 in
theorem names1_spec (G : Glob) (e : Ex) : PureC Tryz.prog G 170 [dE e] (dS (nmE true e)) := by
 by_cases h1 : ∃ s, e = .bit s
 ·obtain ⟨s, rfl⟩ := h1
  rw [dE]; refine PureC.of_body (tyOf_good _) Tryz.func170 rfl rfl (rs := [.tmp 2]) Tryz.results170 (by simp [Tryz.ntmps170]) fun X => ?_; simp only [Tryz.ntmps170, List.map]
  have fw := (Aq @dNum.eq_1 (Aq @dS.eq_1 (Aq @pairA.eq_1 (Aq @pairA.eq_2 @assertA.eq_1))))
  refine rgq fw [0] [] ?_; refine AW_then fun K1 hK1 => ?_; refine rgq fw [6] [] ?_; refine AW_block ?_; refine rgq fw [6,8,9] [] ?_; refine AW_tt rfl ?_; refine rgq fw [3] [] ?_; refine rgq fw [2] [] ?_; refine AW_ret ?_; simp [D.le, D.le.go, takeMap, dNum, dS, pairA, assertA, nmE, dS, D.le_refl]
 by_cases h2 : ∃ s, e = .rise s
 ·obtain ⟨s, rfl⟩ := h2
  rw [dE]; refine PureC.of_body (tyOf_good _) Tryz.func170 rfl rfl (rs := [.tmp 2]) Tryz.results170 (by simp [Tryz.ntmps170]) fun X => ?_; simp only [Tryz.ntmps170, List.map]
  have fw := (Aq @dNum.eq_1 (Aq @dS.eq_1 (Aq @pairA.eq_1 (Aq @pairA.eq_2 @assertA.eq_1))))
  refine rgq fw [0] [] ?_; refine AW_then fun K1 hK1 => ?_; refine rgq fw [6] [] ?_; refine AW_block ?_; refine rgq fw [6,8,9] [] ?_; refine AW_ff rfl ?_; refine rgq fw [6,12,13] [] ?_; refine AW_tt rfl ?_; refine rgq fw [4] [] ?_; refine rgq fw [2] [] ?_; refine AW_ret ?_; simp [D.le, D.le.go, takeMap, dNum, dS, pairA, assertA, nmE, dS, D.le_refl]
 by_cases h3 : ∃ s, e = .fall s
 ·obtain ⟨s, rfl⟩ := h3
  rw [dE]; refine PureC.of_body (tyOf_good _) Tryz.func170 rfl rfl (rs := [.tmp 2]) Tryz.results170 (by simp [Tryz.ntmps170]) fun X => ?_; simp only [Tryz.ntmps170, List.map]
  have fw := (Aq @dNum.eq_1 (Aq @dS.eq_1 (Aq @pairA.eq_1 (Aq @pairA.eq_2 @assertA.eq_1))))
  refine rgq fw [0] [] ?_; refine AW_then fun K1 hK1 => ?_; refine rgq fw [6] [] ?_; refine AW_block ?_; refine rgq fw [6,8,9] [] ?_; refine AW_ff rfl ?_; refine rgq fw [6,12,13] [] ?_; refine AW_ff rfl ?_; refine rgq fw [16,17] [] ?_; refine AW_tt rfl ?_; refine rgq fw [5] [] ?_; refine rgq fw [2] [] ?_; refine AW_ret ?_; simp [D.le, D.le.go, takeMap, dNum, dS, pairA, assertA, nmE, dS, D.le_refl]
 have hk : ∃ t c, dE e = .ifc t c ∧ ¬ t = 108 ∧ ¬ t = 125 ∧ ¬ t = 127 ∧ nmE true e = [] := by
  cases e with
  | bit s => exact absurd ⟨s, rfl⟩ h1
  | rise s => exact absurd ⟨s, rfl⟩ h2
  | fall s => exact absurd ⟨s, rfl⟩ h3
  | cst b => exact ⟨_, _, by rw [dE], by decide, by decide, by decide, rfl⟩
  | not b => exact ⟨_, _, by rw [dE], by decide, by decide, by decide, rfl⟩
  | and b => exact ⟨_, _, by rw [dE], by decide, by decide, by decide, rfl⟩
  | or b => exact ⟨_, _, by rw [dE], by decide, by decide, by decide, rfl⟩
 obtain ⟨t, c, hy, a1, a2, a3, a4⟩ := hk
 rw [a4, hy]; refine PureC.of_body (tyOf_good _) Tryz.func170 rfl rfl (rs := [.tmp 2]) Tryz.results170 (by simp [Tryz.ntmps170]) fun X => ?_; simp only [Tryz.ntmps170, List.map]
 have fw := (Aq @dNum.eq_1 (Aq @dS.eq_1 (Aq @pairA.eq_1 (Aq @pairA.eq_2 @assertA.eq_1))))
 refine rgq fw [0] [] ?_; refine AW_then fun K1 hK1 => ?_; refine rgq fw [6] [] ?_; refine AW_block ?_
 have qf := (Aq fw @a1)
 refine rgqv [6,8,9] [] ?_; refine AW_ff rfl ?_
 have qf := (Aq fw @a2)
 refine rgqv [6,12,13] [] ?_; refine AW_ff rfl ?_
 have qf := (Aq fw @a3)
 refine rgqv [16,17] [] ?_; refine AW_ff rfl ?_; refine AW_skip (hK1 _ ?_); refine rgq fw [2] [] ?_; refine AW_ret ?_; simp [D.le, D.le.go, takeMap, dNum, dS, pairA, assertA, dS, bs_nil, D.le_refl]
set_option maxHeartbeats 8000000 in
theorem edges1_spec (G : Glob) (e : Ex) : PureC Tryz.prog G 162 [dE e] (dS (nmE false e)) := by
 by_cases h2 : ∃ s, e = .rise s
 ·obtain ⟨s, rfl⟩ := h2
  rw [dE]; refine PureC.of_body (tyOf_good _) Tryz.func162 rfl rfl (rs := [.tmp 2]) Tryz.results162 (by simp [Tryz.ntmps162]) fun X => ?_; simp only [Tryz.ntmps162, List.map]
  have fw := (Aq @dNum.eq_1 (Aq @dS.eq_1 (Aq @pairA.eq_1 (Aq @pairA.eq_2 @assertA.eq_1))))
  refine rgq fw [0] [] ?_; refine AW_then fun K1 hK1 => ?_; refine rgq fw [5] [] ?_; refine AW_block ?_; refine rgq fw [5,7,8] [] ?_; refine AW_tt rfl ?_; refine rgq fw [3] [] ?_; refine rgq fw [2] [] ?_; refine AW_ret ?_; simp [D.le, D.le.go, takeMap, dNum, dS, pairA, assertA, nmE, dS, D.le_refl]
 by_cases h3 : ∃ s, e = .fall s
 ·obtain ⟨s, rfl⟩ := h3
  rw [dE]; refine PureC.of_body (tyOf_good _) Tryz.func162 rfl rfl (rs := [.tmp 2]) Tryz.results162 (by simp [Tryz.ntmps162]) fun X => ?_; simp only [Tryz.ntmps162, List.map]
  have fw := (Aq @dNum.eq_1 (Aq @dS.eq_1 (Aq @pairA.eq_1 (Aq @pairA.eq_2 @assertA.eq_1))))
  refine rgq fw [0] [] ?_; refine AW_then fun K1 hK1 => ?_; refine rgq fw [5] [] ?_; refine AW_block ?_; refine rgq fw [5,7,8] [] ?_; refine AW_ff rfl ?_; refine rgq fw [11,12] [] ?_; refine AW_tt rfl ?_; refine rgq fw [4] [] ?_; refine rgq fw [2] [] ?_; refine AW_ret ?_; simp [D.le, D.le.go, takeMap, dNum, dS, pairA, assertA, nmE, dS, D.le_refl]
 have hk : ∃ t c, dE e = .ifc t c ∧ ¬ t = 125 ∧ ¬ t = 127 ∧ nmE false e = [] := by
  cases e with
  | rise s => exact absurd ⟨s, rfl⟩ h2
  | fall s => exact absurd ⟨s, rfl⟩ h3
  | cst b => exact ⟨_, _, by rw [dE], by decide, by decide, rfl⟩
  | bit b => exact ⟨_, _, by rw [dE], by decide, by decide, rfl⟩
  | not b => exact ⟨_, _, by rw [dE], by decide, by decide, rfl⟩
  | and b => exact ⟨_, _, by rw [dE], by decide, by decide, rfl⟩
  | or b => exact ⟨_, _, by rw [dE], by decide, by decide, rfl⟩
 obtain ⟨t, c, hy, a2, a3, a4⟩ := hk
 rw [a4, hy]; refine PureC.of_body (tyOf_good _) Tryz.func162 rfl rfl (rs := [.tmp 2]) Tryz.results162 (by simp [Tryz.ntmps162]) fun X => ?_; simp only [Tryz.ntmps162, List.map]
 have fw := (Aq @dNum.eq_1 (Aq @dS.eq_1 (Aq @pairA.eq_1 (Aq @pairA.eq_2 @assertA.eq_1))))
 refine rgq fw [0] [] ?_; refine AW_then fun K1 hK1 => ?_; refine rgq fw [5] [] ?_; refine AW_block ?_
 have qf := (Aq fw @a2)
 refine rgqv [5,7,8] [] ?_; refine AW_ff rfl ?_
 have qf := (Aq fw @a3)
 refine rgqv [11,12] [] ?_; refine AW_ff rfl ?_; refine AW_skip (hK1 _ ?_); refine rgq fw [2] [] ?_; refine AW_ret ?_; simp [D.le, D.le.go, takeMap, dNum, dS, pairA, assertA, dS, bs_nil, D.le_refl]
theorem name1_spec (G : Glob) (all : Bool) (e : Ex) : PureC Tryz.prog G (fnOf all) [dE e] (dS (nmE all e)) := by
 cases all with
 | true => exact names1_spec G e
 | false => exact edges1_spec G e
set_option maxHeartbeats 8000000 in
theorem gather_spec (G : Glob) (all : Bool) (l : List (List UInt8)) (e : Ex) (hl : l.length < 2^40) : MC Tryz.prog G [502] 203 ([.d (dE e)] ++ [.d (.ip [.fn (.func (fnOf all)) []]), .ref 502 0 0]) (hlst (nRow l)) (.d (.tup [])) (hlst (nRow (l ++ one1 (nmE all e)))) := by
 have hn := name1_spec G all e
 obtain ⟨t, c, hx⟩ := dE_ifc e
 rw [hx] at hn ⊢; generalize fnOf all = g at hn ⊢; generalize nmE all e = s at hn ⊢
 by_cases hs : s = []
 ·subst hs
  have he : l ++ one1 [] = l := by simp [one1]
  rw [he]; refine MC.of_body (tyOf_good _) Tryz.func203 rfl rfl (rs := []) Tryz.results203 (by simp [Tryz.ntmps203]) rfl fun X => ?_; simp only [Tryz.ntmps203]
  have fw := (Aq @dNum.eq_1 (Aq @dS.eq_1 @nRow.eq_1))
  refine rgc fw hn [2,4] [502,503] ?_; refine rg [2, 4, 9] [502, 503] (notIn_ok rfl) fun K' hK' => ?_; (repeat (refine sxn fun K2 hK2 => ?_; simp [dNum, dS, nRow, binS, bs_list, bs_nil]; (repeat (refine ⟨by omega, ?_⟩)); refine hK2 _ ?_; clear hK2 K2)); refine sxz (hK' _ (AW.st (by simp [dNum, dS, nRow, binS, bs_list, bs_nil]; rfl) ?_)); clear hK' K'; refine AW_ff rfl ?_; refine AW_skip ?_; simp [D.le_refl, nRow, dS]
 ·have he : one1 s = [s] := by unfold one1; rw [if_neg hs]
  have hse : s.isEmpty = false := by rw [List.isEmpty_eq_false_iff]; exact hs
  have hsb : (s == []) = false := by simpa using hs
  rw [he]; refine MC.of_body (tyOf_good _) Tryz.func203 rfl rfl (rs := []) Tryz.results203 (by simp [Tryz.ntmps203]) rfl fun X => ?_; simp only [Tryz.ntmps203]
  have fw := (Aq @dNum.eq_1 (Aq @dS.eq_1 @nRow.eq_1))
  refine rgc fw hn [2,4] [502,503] ?_; refine rg [2, 4, 9] [502, 503] (notIn_ok rfl) fun K' hK' => ?_; (repeat (refine sxn fun K2 hK2 => ?_; simp [dNum, dS, nRow, binS, bs_list, bs_nil, hs, hse, hsb]; (repeat (refine ⟨by omega, ?_⟩)); refine hK2 _ ?_; clear hK2 K2)); refine sxz (hK' _ (AW.st (by simp [dNum, dS, nRow, binS, bs_list, bs_nil, hs, hse, hsb]; rfl) ?_)); clear hK' K'; refine AW_tt rfl ?_; refine AW_re (tyOf_good _) fun K' hK' => ?_; (repeat (refine sxn fun K2 hK2 => ?_; simp [dNum, dS, nRow, List.take_of_length_le]; (repeat (refine ⟨by omega, ?_⟩)); refine hK2 _ ?_; clear hK2 K2)); refine sxz (hK' _ ?_); clear hK' K'; (try simp only [thn, inb]); simp [D.le_refl, nRow, dS]
set_option maxHeartbeats 16000000 in
theorem walkN_at (G : Glob) (all : Bool) : ∀ (m : Nat) (e : Ex), SizeOf.sizeOf e ≤ m → ∀ l0 : List (List UInt8), l0.length + bE e ≤ 2^39 → MC Tryz.prog G [502] 202 [.d (dE e), .fn (.func 203) [.d (.ip [.fn (.func (fnOf all)) []]), .ref 502 0 0]] (hlst (nRow l0)) (.d (.tup [])) (hlst (nRow (l0 ++ nmsE all e))) := by
 intro m
 induction m with
 | zero => intro e hsz; cases e <;> simp at hsz
 | succ m ih =>
  intro e hsz l0 hb
  have hbp := bE_pos e
  by_cases hN : ∃ x, e = .not x
  ·obtain ⟨x, rfl⟩ := hN
   simp only [bE] at hb
   obtain ⟨tx, cx, hx⟩ := dE_ifc x
   have hs1 := gather_spec G all l0 (.not x) (by omega)
   have hnil : one1 (nmE all (.not x)) = [] := rfl
   rw [hnil, List.append_nil, List.singleton_append] at hs1
   have hc := ih x (by simp at hsz; omega) l0 (by omega)
   rw [nmsE]; rw [dE, hx]; rw [dE, hx] at hs1; rw [hx] at hc; generalize l0 ++ nmsE all x = l1 at hc ⊢; generalize fnOf all = g at hc hs1 ⊢; refine MC.of_body (tyOf_good _) Tryz.func202 rfl rfl (rs := []) Tryz.results202 (by simp [Tryz.ntmps202]) rfl fun X => ?_; simp only [Tryz.ntmps202]
   have fw := (Aq @dNum.eq_1 (Aq @dS.eq_1 (Aq @nRow.eq_1 (Aq @pairA.eq_1 (Aq @pairA.eq_2 @assertA.eq_1)))))
   refine rgm fw hs1 [0,1] [502,503] ?_; refine rgq fw [1,14] [502,503] ?_; refine AW_block ?_; refine rgq fw [1,14,16,17] [502,503] ?_; refine AW_tt rfl ?_; refine rgq fw [1,4] [4,502,503] ?_; refine AW_re (tyOf_good _) fun K' hK' => ?_; (repeat (refine sxn fun K2 hK2 => ?_; simp [dNum, dS, nRow, pairA, assertA]; (repeat (refine ⟨by omega, ?_⟩)); refine hK2 _ ?_; clear hK2 K2)); refine sxn fun K2 hK2 => ?_; simp [dNum, dS, nRow, pairA, assertA]; refine callK.mc (hc) ?_ ?_ ?_ ?_ ?_ <;> simp [dNum, dS, nRow, pairA, assertA]; refine hK2 _ ?_; clear hK2 K2; (repeat (refine sxn fun K2 hK2 => ?_; simp [dNum, dS, nRow, pairA, assertA]; (repeat (refine ⟨by omega, ?_⟩)); refine hK2 _ ?_; clear hK2 K2)); refine sxz (hK' _ ?_); clear hK' K'; (try simp only [thn, inb]); simp [D.le_refl, nRow, dS]
  by_cases hand : ∃ l, e = .and l
  ·obtain ⟨l, rfl⟩ := hand
   simp only [bE] at hb
   have hs1 := gather_spec G all l0 (.and l) (by omega)
   have hnil : one1 (nmE all (.and l)) = [] := rfl
   rw [hnil, List.append_nil, List.singleton_append] at hs1
   have hch := fun (x : Ex) (hx : x ∈ l) => ih x (by have := List.sizeOf_lt_of_mem hx; simp only [Ex.and.sizeOf_spec] at hsz; omega)
   have hln := bEs_len l
   rw [nmsE]; rw [dE, dEs_map]; rw [dE, dEs_map] at hs1; clear ih; generalize hg : fnOf all = g at hch hs1 ⊢; refine MC.of_body (tyOf_good _) Tryz.func202 rfl rfl (rs := []) Tryz.results202 (by simp [Tryz.ntmps202]) rfl fun X => ?_; simp only [Tryz.ntmps202]
   have fw := (Aq @dNum.eq_1 (Aq @dS.eq_1 (Aq @nRow.eq_1 (Aq @pairA.eq_1 (Aq @pairA.eq_2 @assertA.eq_1)))))
   refine rgm fw hs1 [0,1] [502,503] ?_; refine rgq fw [1,14] [502,503] ?_; refine AW_block ?_; refine rgq fw [1,14,16,17] [502,503] ?_; refine AW_ff rfl ?_; refine rgq fw [1,14,23,24] [502,503] ?_; refine AW_tt rfl ?_; refine rgq fw [1,5] [502,503] ?_; refine rgq fw [1,25,26,27] [502,503] ?_; refine AW_for (S := Nat) (fun i => i ≤ l.length) (fun i => ⟨lst [(1, .fn (.func 203) [.d (.ip [.fn (.func g) []]), .ref 502 0 0]), (25, .d (.sl none (l.map fun e => [dE e]))), (26, int l.length), (27, int i)], hlst (nRow (l0 ++ nmsL all (l.take i)))⟩) (fun i => l.length - i) 0 ?_ (by omega) ?_
   ·refine Imp.to' (notIn_ok rfl) (by simp [dNum, dS, nRow, pairA, assertA, nmsL]) (by simp [dNum, dS, nRow, pairA, assertA, nmsL])
   ·intro i hi
    refine rgq fw [1,25,26,27,28] [502,503] ?_; refine AW_then fun K1 hK1 => ?_; refine AW_cond' (b := i < l.length) (by simp [D.le, D.le.go, takeMap, dNum, dS, nRow, pairA, assertA]) (fun hc => ?_) (fun hc => ?_)
    ·have hil : i < l.length := hc
     have h1 := nmsL_take all hil
     have h2 := nmsL_len all (l.take i)
     have h3 := bEs_take hil
     have hcc := hch _ (List.getElem_mem hil) (l0 ++ nmsL all (l.take i)) (by rw [List.length_append]; omega)
     rw [List.append_assoc, ← h1] at hcc
     obtain ⟨tx, cx, hx⟩ := dE_ifc l[i]
     rw [hx] at hcc; refine AW_skip (hK1 _ ?_); refine AW_then fun K2 hK2 => ?_; refine AW_block ?_
     have qf := (Aq fw (Aq @hil @hx))
     refine rgqv [1,7,25,26,27] [502,503] ?_; refine AW_re (tyOf_good _) fun K' hK' => ?_; (repeat (refine sxn fun K2 hK2 => ?_; simp [dNum, dS, nRow, pairA, assertA]; (repeat (refine ⟨by omega, ?_⟩)); refine hK2 _ ?_; clear hK2 K2)); refine sxn fun K2 hK2 => ?_; simp [dNum, dS, nRow, pairA, assertA]; refine callK.mc (hcc) ?_ ?_ ?_ ?_ ?_ <;> simp [dNum, dS, nRow, pairA, assertA]; refine hK2 _ ?_; clear hK2 K2; (repeat (refine sxn fun K2 hK2 => ?_; simp [dNum, dS, nRow, pairA, assertA]; (repeat (refine ⟨by omega, ?_⟩)); refine hK2 _ ?_; clear hK2 K2)); refine sxz (hK' _ ?_); clear hK' K'; refine hK2 _ (AW.norm [1, 25, 26, 27] [502, 503] (notIn_ok rfl) (AW.st (by simp [dNum, dS, nRow, pairA, assertA]; rfl) ?_)); refine AW_re (tyOf_good _) fun K' hK' => ?_; (repeat (refine sxn fun K2 hK2 => ?_; simp [dNum, dS, nRow, pairA, assertA]; (repeat (refine ⟨by omega, ?_⟩)); refine hK2 _ ?_; clear hK2 K2)); refine sxz (hK' _ ?_); clear hK' K'; (try simp only [thn, inb]); refine Again.mk (i + 1) (by omega) (by omega) ?_; refine Imp.to' (notIn_ok rfl) (by simp [dNum, dS, nRow, pairA, assertA]) (by simp [dNum, dS, nRow, pairA, assertA])
    ·obtain rfl : i = l.length := by omega
     refine AW_exit ?_; simp [D.le_refl, List.take_length, nRow, dS]
  by_cases hor : ∃ l, e = .or l
  ·obtain ⟨l, rfl⟩ := hor
   simp only [bE] at hb
   have hs1 := gather_spec G all l0 (.or l) (by omega)
   have hnil : one1 (nmE all (.or l)) = [] := rfl
   rw [hnil, List.append_nil, List.singleton_append] at hs1
   have hch := fun (x : Ex) (hx : x ∈ l) => ih x (by have := List.sizeOf_lt_of_mem hx; simp only [Ex.or.sizeOf_spec] at hsz; omega)
   have hln := bEs_len l
   rw [nmsE]; rw [dE, dEs_map]; rw [dE, dEs_map] at hs1; clear ih; generalize hg : fnOf all = g at hch hs1 ⊢; refine MC.of_body (tyOf_good _) Tryz.func202 rfl rfl (rs := []) Tryz.results202 (by simp [Tryz.ntmps202]) rfl fun X => ?_; simp only [Tryz.ntmps202]
   have fw := (Aq @dNum.eq_1 (Aq @dS.eq_1 (Aq @nRow.eq_1 (Aq @pairA.eq_1 (Aq @pairA.eq_2 @assertA.eq_1)))))
   refine rgm fw hs1 [0,1] [502,503] ?_; refine rgq fw [1,14] [502,503] ?_; refine AW_block ?_; refine rgq fw [1,14,16,17] [502,503] ?_; refine AW_ff rfl ?_; refine rgq fw [1,14,23,24] [502,503] ?_; refine AW_ff rfl ?_; refine rgq fw [1,36,37] [502,503] ?_; refine AW_tt rfl ?_; refine rgq fw [1,8] [502,503] ?_; refine rgq fw [1,38,39,40] [502,503] ?_; refine AW_for (S := Nat) (fun i => i ≤ l.length) (fun i => ⟨lst [(1, .fn (.func 203) [.d (.ip [.fn (.func g) []]), .ref 502 0 0]), (38, .d (.sl none (l.map fun e => [dE e]))), (39, int l.length), (40, int i)], hlst (nRow (l0 ++ nmsL all (l.take i)))⟩) (fun i => l.length - i) 0 ?_ (by omega) ?_
   ·refine Imp.to' (notIn_ok rfl) (by simp [dNum, dS, nRow, pairA, assertA, nmsL]) (by simp [dNum, dS, nRow, pairA, assertA, nmsL])
   ·intro i hi
    refine rgq fw [1,38,39,40,41] [502,503] ?_; refine AW_then fun K1 hK1 => ?_; refine AW_cond' (b := i < l.length) (by simp [D.le, D.le.go, takeMap, dNum, dS, nRow, pairA, assertA]) (fun hc => ?_) (fun hc => ?_)
    ·have hil : i < l.length := hc
     have h1 := nmsL_take all hil
     have h2 := nmsL_len all (l.take i)
     have h3 := bEs_take hil
     have hcc := hch _ (List.getElem_mem hil) (l0 ++ nmsL all (l.take i)) (by rw [List.length_append]; omega)
     rw [List.append_assoc, ← h1] at hcc
     obtain ⟨tx, cx, hx⟩ := dE_ifc l[i]
     rw [hx] at hcc; refine AW_skip (hK1 _ ?_); refine AW_then fun K2 hK2 => ?_; refine AW_block ?_
     have qf := (Aq fw (Aq @hil @hx))
     refine rgqv [1,10,38,39,40] [502,503] ?_; refine AW_re (tyOf_good _) fun K' hK' => ?_; (repeat (refine sxn fun K2 hK2 => ?_; simp [dNum, dS, nRow, pairA, assertA]; (repeat (refine ⟨by omega, ?_⟩)); refine hK2 _ ?_; clear hK2 K2)); refine sxn fun K2 hK2 => ?_; simp [dNum, dS, nRow, pairA, assertA]; refine callK.mc (hcc) ?_ ?_ ?_ ?_ ?_ <;> simp [dNum, dS, nRow, pairA, assertA]; refine hK2 _ ?_; clear hK2 K2; (repeat (refine sxn fun K2 hK2 => ?_; simp [dNum, dS, nRow, pairA, assertA]; (repeat (refine ⟨by omega, ?_⟩)); refine hK2 _ ?_; clear hK2 K2)); refine sxz (hK' _ ?_); clear hK' K'; refine hK2 _ (AW.norm [1, 38, 39, 40] [502, 503] (notIn_ok rfl) (AW.st (by simp [dNum, dS, nRow, pairA, assertA]; rfl) ?_)); refine AW_re (tyOf_good _) fun K' hK' => ?_; (repeat (refine sxn fun K2 hK2 => ?_; simp [dNum, dS, nRow, pairA, assertA]; (repeat (refine ⟨by omega, ?_⟩)); refine hK2 _ ?_; clear hK2 K2)); refine sxz (hK' _ ?_); clear hK' K'; (try simp only [thn, inb]); refine Again.mk (i + 1) (by omega) (by omega) ?_; refine Imp.to' (notIn_ok rfl) (by simp [dNum, dS, nRow, pairA, assertA]) (by simp [dNum, dS, nRow, pairA, assertA])
    ·obtain rfl : i = l.length := by omega
     refine AW_exit ?_; simp [D.le_refl, List.take_length, nRow, dS]
  have hk : ∃ t c, dE e = .ifc t c ∧ ¬ t = 110 ∧ ¬ t = 123 ∧ ¬ t = 124 ∧ nmsE all e = one1 (nmE all e) := by
   cases e with
   | not z => exact absurd ⟨z, rfl⟩ hN
   | and l => exact absurd ⟨l, rfl⟩ hand
   | or l => exact absurd ⟨l, rfl⟩ hor
   | cst b => exact ⟨_, _, by rw [dE], by decide, by decide, by decide, rfl⟩
   | bit s => exact ⟨_, _, by rw [dE], by decide, by decide, by decide, rfl⟩
   | rise s => exact ⟨_, _, by rw [dE], by decide, by decide, by decide, rfl⟩
   | fall s => exact ⟨_, _, by rw [dE], by decide, by decide, by decide, rfl⟩
  obtain ⟨t, c, hy, h1, h2, h3, h4⟩ := hk
  have hs1 := gather_spec G all l0 e (by omega)
  rw [List.singleton_append] at hs1; rw [h4, hy]; rw [hy] at hs1; generalize l0 ++ one1 (nmE all e) = l1 at hs1 ⊢; generalize fnOf all = g at hs1 ⊢; refine MC.of_body (tyOf_good _) Tryz.func202 rfl rfl (rs := []) Tryz.results202 (by simp [Tryz.ntmps202]) rfl fun X => ?_; simp only [Tryz.ntmps202]
  have fw := (Aq @dNum.eq_1 (Aq @dS.eq_1 (Aq @nRow.eq_1 (Aq @pairA.eq_1 (Aq @pairA.eq_2 @assertA.eq_1)))))
  refine rgm fw hs1 [0,1] [502,503] ?_; refine rgq fw [1,14] [502,503] ?_; refine AW_block ?_
  have qf := (Aq fw @h1)
  refine rgqv [1,14,16,17] [502,503] ?_; refine AW_ff rfl ?_
  have qf := (Aq fw @h2)
  refine rgqv [1,14,23,24] [502,503] ?_; refine AW_ff rfl ?_
  have qf := (Aq fw @h3)
  refine rgqv [1,36,37] [502,503] ?_; refine AW_ff rfl ?_; refine AW_skip ?_; simp [D.le_refl, nRow, dS]
def namesE (all : Bool) (e : Ex) : List (List UInt8) := Lib.compact (sortT (nmsE all e))
set_option maxHeartbeats 8000000 in
theorem sorted_spec (G : Glob) (all : Bool) (e : Ex) (hb : bE e ≤ 2^28) : PureC Tryz.prog G 161 [dE e, .fn (.func (fnOf all)) []] (.sl none ((namesE all e).map fun s => [dS s])) := by
 have hlen := nms_len all e
 have hw := walkN_at G all _ e (Nat.le_refl _) [] (by simp; omega)
 rw [List.nil_append] at hw
 have hso := sort_mc G 503 9 (nmsE all e) (by omega)
 have hco := compact_mc G 503 9 (sortT (nmsE all e)) (by rw [sortT_len]; omega)
 rw [sortT_len] at hco
 have hcl := Lib.compact_length_le (sortT (nmsE all e))
 rw [sortT_len] at hcl; unfold namesE
 obtain ⟨tx, cx, hx⟩ := dE_ifc e
 rw [hx] at hw ⊢; generalize fnOf all = g at hw ⊢; generalize nmsE all e = l at hw hso hco hcl hlen ⊢; generalize sortT l = z at hso hco hcl ⊢
 have htk : List.take (Lib.compact z).length ((Lib.compact z ++ List.replicate (l.length - (Lib.compact z).length) []).map fun s => [dS s]) = (Lib.compact z).map fun s => [dS s] := by
  rw [List.map_append, List.take_append_of_le_length (by simp), List.take_of_length_le (by simp)]
 have hyl : (Lib.compact z ++ List.replicate (l.length - (Lib.compact z).length) []).length = l.length := by simp; omega
 generalize Lib.compact z ++ List.replicate (l.length - (Lib.compact z).length) [] = y at hco htk hyl; generalize Lib.compact z = c at hco hcl htk ⊢; refine PureC.of_body (tyOf_good _) Tryz.func161 rfl rfl (rs := [.tmp 4]) Tryz.results161 (by simp [Tryz.ntmps161]) fun X => ?_; simp only [Tryz.ntmps161, List.map]
 have fw := (Aq @dNum.eq_1 (Aq @dS.eq_1 (Aq @nRow.eq_1 (Aq @pairA.eq_1 (Aq @pairA.eq_2 @assertA.eq_1)))))
 refine rgq fw [0,3] [3] ?_; refine AW.imp (Imp.freezeB 3 trivial) ?_; refine AW.st (by simp [dNum, dS, nRow, pairA, assertA]; rfl) ?_; refine rgq fw [0,3,5] [5] ?_; refine AW.imp (Imp.ren (r := 5) (r' := 502) trivial (by simp)) ?_; refine AW.st (by simp [renO, renF, Go.Av.ren, renH_one]; rfl) ?_; refine AW.imp (Imp.adoptCell 502 0 503 9 1 rfl rfl rfl) ?_; refine AW.imp (τ := ⟨lst [(0, .d (.ifc tx cx)), (3, .d (.ip [.fn (.func g) []])), (5, .ref 502 0 0)], hlst (nRow [])⟩) ?_ ?_
 ·refine Imp.to' (fun _ _ => trivial) (by simp [dNum, dS, nRow, pairA, assertA, nRow]) (by simp [dNum, dS, nRow, pairA, assertA, nRow])
 refine rgm fw hw [5] [502,503] ?_; refine rgm fw hso [5] [502,503] ?_; refine rgm fw hco [4] [502,503] ?_
 have hle : c.length ≤ y.length := by omega
 by_cases hcy : c.length = y.length
 ·have htk2 : (y.map fun s => [dS s]) = c.map fun s => [dS s] := by rw [← htk, hcy, List.take_of_length_le (by simp)]
  simp only [dS] at htk2; refine AW.imp (Imp.freeze 503 trivial) ?_; refine AW.st (by simp [dNum, dS, nRow, pairA, assertA, hcy, hle, htk2]; rfl) ?_; refine AW_ret ?_; simp [D.le, D.le.go, takeMap, dNum, dS, nRow, pairA, assertA, D.le_refl, D.leGo_refl, hcy, htk2]
 ·simp only [dS] at htk; refine AW.imp (Imp.freeze 503 trivial) ?_; refine AW.st (by simp [dNum, dS, nRow, pairA, assertA, hcy, hle, htk]; rfl) ?_; refine AW_ret ?_; simp [D.le, D.le.go, takeMap, dNum, dS, nRow, pairA, assertA, D.le_refl, D.leGo_refl, htk]
theorem namesE_spec (G : Glob) (e : Ex) (hb : bE e ≤ 2^28) : PureC Tryz.prog G 117 [dE e] (.sl none ((namesE true e).map fun s => [dS s])) := by
 have hs := sorted_spec G true e hb
 obtain ⟨tx, cx, hx⟩ := dE_ifc e
 rw [hx] at hs ⊢; generalize namesE true e = l at hs ⊢; simp only [fnOf, if_true, if_false, Bool.false_eq_true] at hs; refine PureC.of_body (tyOf_good _) Tryz.func117 rfl rfl (rs := [.tmp 2]) Tryz.results117 (by simp [Tryz.ntmps117]) fun X => ?_; simp only [Tryz.ntmps117, List.map]
 have fw := (Aq @dNum.eq_1 (Aq @dS.eq_1 (Aq @nRow.eq_1 (Aq @pairA.eq_1 (Aq @pairA.eq_2 @assertA.eq_1)))))
 refine rgq fw [0] [] ?_; refine rgc fw hs [2] [] ?_; refine AW_ret ?_; simp [D.le, D.le.go, takeMap, dNum, dS, nRow, pairA, assertA, D.le_refl, D.leGo_refl]
end Go.Proofs.YthnjfeielmbfkaaGreatDoor
namespace Go.Proofs.YthnjfeielmbfkaaGreatDoor
open Go.Av
abbrev Tx := List UInt8
theorem mem_upTo (d : Array Tx) : ∀ (m : Nat), m ≤ d.size → ∀ j, j < m → d[j]! ∈ Lib.compactUpTo d m
 | 0, _, j, h => by omega
 | m + 1, hm, j, hj => by
  rw [Lib.compactUpTo_succ]
  by_cases hjm : j < m
  ·exact List.mem_append_left _ (mem_upTo d m (by omega) j hjm)
  ·obtain rfl : j = m := by omega
   by_cases hk : Lib.keeps d j = true
   ·exact List.mem_append_right _ (by simp [hk])
   ·have hj0 : j ≠ 0 := by rintro rfl; exact hk (Lib.keeps_lt_one d 0 (by omega))
    have he : d[j]! = d[j - 1]! := by
     unfold Lib.keeps at hk; simp [hj0] at hk
     first | exact hk | exact hk.symm
    rw [he]; exact List.mem_append_left _ (mem_upTo d j (by omega) (j - 1) (by omega))
theorem upTo_mem (d : Array Tx) : ∀ (m : Nat), m ≤ d.size → ∀ x ∈ Lib.compactUpTo d m, ∃ j, j < m ∧ x = d[j]!
 | 0, _, x, h => by simp [Lib.compactUpTo] at h
 | m + 1, hm, x, h => by
  rw [Lib.compactUpTo_succ] at h
  rcases List.mem_append.1 h with h | h
  ·obtain ⟨j, hj, e⟩ := upTo_mem d m (by omega) x h
   exact ⟨j, by omega, e⟩
  ·split at h
   ·simp at h; exact ⟨m, by omega, h⟩
   ·simp at h
theorem namesE_mem {all : Bool} {e : Ex} {s : Tx} : s ∈ namesE all e ↔ s ∈ nmsE all e := by
 unfold namesE
 have h0 : ∀ l : List Tx, s ∈ Lib.compact l ↔ s ∈ l := by
  intro l
  unfold Lib.compact
  constructor
  ·intro h
   obtain ⟨j, hj, rfl⟩ := upTo_mem l.toArray l.length (by simp) s h
   rw [getElem!_pos l.toArray j (by simpa using hj)]; simp
  ·intro h
   obtain ⟨j, hj, rfl⟩ := List.mem_iff_getElem.1 h
   have := mem_upTo l.toArray l.length (by simp) j hj
   rw [getElem!_pos l.toArray j (by simpa using hj)] at this; simpa using this
 rw [h0]; unfold sortT; exact List.mem_mergeSort
end Go.Proofs.YthnjfeielmbfkaaGreatDoor
namespace Go.Proofs.YthnjfeielmbfkaaGreatDoor
open Go.Av
theorem idx_some {α : Type} (p : α → Bool) (l : List α) : decide (0 ≤ idx p l) = l.any p := by
 unfold idx
 cases h : l.findIdx? p with
 | none =>
  rw [List.findIdx?_eq_none_iff] at h
  have : l.any p = false := by rw [List.any_eq_false]; intro x hx; simp [h x hx]
  rw [this]; simp
 | some i =>
  rw [List.findIdx?_eq_some_iff_getElem] at h
  obtain ⟨hi, hp, _⟩ := h
  have : l.any p = true := List.any_eq_true.2 ⟨_, List.getElem_mem hi, hp⟩
  rw [this]; simp
theorem evA_any (is was : List UInt8 → Bool) : ∀ l : List Ex, evA is was l = !(l.any fun e => !evE is was e)
 | [] => rfl
 | e :: l => by rw [evA, evA_any is was l]; simp
theorem evO_any (is was : List UInt8 → Bool) : ∀ l : List Ex, evO is was l = l.any fun e => evE is was e
 | [] => rfl
 | e :: l => by rw [evO, evO_any is was l]; simp
set_option maxHeartbeats 1000000 in
theorem indexAnd_spec (G : Glob) (k : Option Bool) (xs : List Ex) (g : FuncId) (caps : List D) (p : Ex → Bool) (hl : xs.length < 2^63) (ha : ∀ x ∈ xs, PureC Tryz.prog G g (dE x :: caps) (.v (.bool (p x)))) :
  PureC Tryz.prog G 217 [.sl k (xs.map fun x => [dE x]), .fn (.func g) caps] (.v (.int .i64 (idx p xs))) := by
 refine PureC.of_body (tyOf_good _) Tryz.func217 rfl rfl (rs := [.tmp 4]) Tryz.results217 (by simp [Tryz.ntmps217]) fun X => ?_; simp only [Tryz.ntmps217, List.map]; refine rg0 [0,1] [] ?_; refine AW_then fun K1 hK1 => ?_; refine rg0 [0,1,7,8] [] ?_; refine AW_for (S := Nat) (fun n => n ≤ xs.length ∧ ∀ i (hi : i < xs.length), i < n → p xs[i] = false) (fun n => ⟨lst [(0, .d (.sl k (xs.map fun x => [dE x]))), (1, .d (.fn (.func g) caps)), (7, int xs.length), (8, int n)], hlst []⟩) (fun n => xs.length - n) 0 ?_ (by simp) ?_
 ·refine Imp.to' (fun _ _ => trivial) (by simp) (by simp)
 ·rintro n ⟨hn, hp⟩
  refine rg0 [0,1,7,8,9] [] ?_; refine AW_then fun K2 hK2 => ?_; refine AW_cond' (b := n < xs.length) (by simp [D.le, D.le.go, takeMap]) (fun hc => ?_) (fun hc => ?_)
  ·have hax := ha xs[n] (by simp)
   refine AW_skip (hK2 _ ?_); refine AW_then fun K3 hK3 => ?_; refine AW_block ?_; refine rg0 [0,1,5,7,8] [] ?_
   have qf := @hc
   refine rgcv hax [0,1,5,7,8,16] [] ?_; refine AW_cond _ rfl (fun hp2 => ?_) (fun hp2 => ?_)
   ·refine rg0 [4] [] ?_; refine AW_ret ?_; simp [D.le, D.le.go, takeMap]; exact (idx_hit hc hp2 fun i hi => hp i (by omega) hi).symm
   ·refine AW_skip (hK3 _ ?_); refine AW_re (tyOf_good _) fun K' hK' => ?_; (repeat (refine sxn fun K2 hK2 => ?_; simp; (repeat (refine ⟨by omega, ?_⟩)); refine hK2 _ ?_; clear hK2 K2)); refine sxz (hK' _ ?_); clear hK' K'; (try simp only [thn, inb]); refine Again.mk (n + 1) ⟨by omega, fun i hi hin => ?_⟩ (by omega) ?_
    ·by_cases h : i = n
     ·subst h; exact hp2
     ·exact hp i hi (by omega)
    refine Imp.to' (fun _ _ => trivial) (by simp) (by simp)
  ·refine AW_exit (hK1 _ ?_); refine rg0 [4] [] ?_; refine AW_ret ?_; simp [D.le, D.le.go, takeMap]; exact (idx_miss fun i hi => hp i hi (by omega)).symm
theorem containsAnd_spec (G : Glob) (k : Option Bool) (xs : List Ex) (g : FuncId) (caps : List D) (p : Ex → Bool) (hl : xs.length < 2^63) (ha : ∀ x ∈ xs, PureC Tryz.prog G g (dE x :: caps) (.v (.bool (p x)))) :
  PureC Tryz.prog G 165 [.sl k (xs.map fun x => [dE x]), .fn (.func g) caps] (.v (.bool (xs.any p))) := by
 have hi := indexAnd_spec G k xs g caps p hl ha
 have hd := idx_some p xs
 generalize idx p xs = r at hi hd; rw [← hd]; refine PureC.of_body (tyOf_good _) Tryz.func165 rfl rfl (rs := [.tmp 4]) Tryz.results165 (by simp [Tryz.ntmps165]) fun X => ?_; simp only [Tryz.ntmps165, List.map]; refine rg0 [0,1] [] ?_; refine rgc trivial hi [4] [] ?_; refine AW_ret ?_; simp [D.le, D.le.go, takeMap]
set_option maxHeartbeats 1000000 in
theorem indexOr_spec (G : Glob) (k : Option Bool) (xs : List Ex) (g : FuncId) (caps : List D) (p : Ex → Bool) (hl : xs.length < 2^63) (ha : ∀ x ∈ xs, PureC Tryz.prog G g (dE x :: caps) (.v (.bool (p x)))) :
  PureC Tryz.prog G 218 [.sl k (xs.map fun x => [dE x]), .fn (.func g) caps] (.v (.int .i64 (idx p xs))) := by
 refine PureC.of_body (tyOf_good _) Tryz.func218 rfl rfl (rs := [.tmp 4]) Tryz.results218 (by simp [Tryz.ntmps218]) fun X => ?_; simp only [Tryz.ntmps218, List.map]; refine rg0 [0,1] [] ?_; refine AW_then fun K1 hK1 => ?_; refine rg0 [0,1,7,8] [] ?_; refine AW_for (S := Nat) (fun n => n ≤ xs.length ∧ ∀ i (hi : i < xs.length), i < n → p xs[i] = false) (fun n => ⟨lst [(0, .d (.sl k (xs.map fun x => [dE x]))), (1, .d (.fn (.func g) caps)), (7, int xs.length), (8, int n)], hlst []⟩) (fun n => xs.length - n) 0 ?_ (by simp) ?_
 ·refine Imp.to' (fun _ _ => trivial) (by simp) (by simp)
 ·rintro n ⟨hn, hp⟩
  refine rg0 [0,1,7,8,9] [] ?_; refine AW_then fun K2 hK2 => ?_; refine AW_cond' (b := n < xs.length) (by simp [D.le, D.le.go, takeMap]) (fun hc => ?_) (fun hc => ?_)
  ·have hax := ha xs[n] (by simp)
   refine AW_skip (hK2 _ ?_); refine AW_then fun K3 hK3 => ?_; refine AW_block ?_; refine rg0 [0,1,5,7,8] [] ?_
   have qf := @hc
   refine rgcv hax [0,1,5,7,8,16] [] ?_; refine AW_cond _ rfl (fun hp2 => ?_) (fun hp2 => ?_)
   ·refine rg0 [4] [] ?_; refine AW_ret ?_; simp [D.le, D.le.go, takeMap]; exact (idx_hit hc hp2 fun i hi => hp i (by omega) hi).symm
   ·refine AW_skip (hK3 _ ?_); refine AW_re (tyOf_good _) fun K' hK' => ?_; (repeat (refine sxn fun K2 hK2 => ?_; simp; (repeat (refine ⟨by omega, ?_⟩)); refine hK2 _ ?_; clear hK2 K2)); refine sxz (hK' _ ?_); clear hK' K'; (try simp only [thn, inb]); refine Again.mk (n + 1) ⟨by omega, fun i hi hin => ?_⟩ (by omega) ?_
    ·by_cases h : i = n
     ·subst h; exact hp2
     ·exact hp i hi (by omega)
    refine Imp.to' (fun _ _ => trivial) (by simp) (by simp)
  ·refine AW_exit (hK1 _ ?_); refine rg0 [4] [] ?_; refine AW_ret ?_; simp [D.le, D.le.go, takeMap]; exact (idx_miss fun i hi => hp i hi (by omega)).symm
theorem containsOr_spec (G : Glob) (k : Option Bool) (xs : List Ex) (g : FuncId) (caps : List D) (p : Ex → Bool) (hl : xs.length < 2^63) (ha : ∀ x ∈ xs, PureC Tryz.prog G g (dE x :: caps) (.v (.bool (p x)))) :
  PureC Tryz.prog G 167 [.sl k (xs.map fun x => [dE x]), .fn (.func g) caps] (.v (.bool (xs.any p))) := by
 have hi := indexOr_spec G k xs g caps p hl ha
 have hd := idx_some p xs
 generalize idx p xs = r at hi hd; rw [← hd]; refine PureC.of_body (tyOf_good _) Tryz.func167 rfl rfl (rs := [.tmp 4]) Tryz.results167 (by simp [Tryz.ntmps167]) fun X => ?_; simp only [Tryz.ntmps167, List.map]; refine rg0 [0,1] [] ?_; refine rgc trivial hi [4] [] ?_; refine AW_ret ?_; simp [D.le, D.le.go, takeMap]
mutual
def AskE (S1 S2 : List UInt8 → Prop) : Ex → Prop
 | .cst _ => True
 | .bit s => S1 s
 | .rise s => S1 s ∧ S2 s
 | .fall s => S1 s ∧ S2 s
 | .not e => AskE S1 S2 e
 | .and l => AskL S1 S2 l
 | .or l => AskL S1 S2 l
def AskL (S1 S2 : List UInt8 → Prop) : List Ex → Prop
 | [] => True
 | e :: l => AskE S1 S2 e ∧ AskL S1 S2 l
end
theorem AskL_iff {S1 S2 : List UInt8 → Prop} : ∀ {l : List Ex}, AskL S1 S2 l ↔ ∀ x ∈ l, AskE S1 S2 x
 | [] => by simp [AskL]
 | e :: l => by rw [AskL, AskL_iff]; simp
def TellsOn (S : List UInt8 → Prop) (G : Glob) (g : FuncId) (caps : List D) (p : List UInt8 → Bool) : Prop := ∀ s, S s → PureC Tryz.prog G g (dS s :: caps) (.v (.bool (p s)))
set_option maxHeartbeats 32000000 in
theorem eval_at (G : Glob) (g1 g2 : FuncId) (c1 c2 : List D) (is was : List UInt8 → Bool) (S1 S2 : List UInt8 → Prop) (h1 : TellsOn S1 G g1 c1 is) (h2 : TellsOn S2 G g2 c2 was) : ∀ (n : Nat) (e : Ex), SizeOf.sizeOf e ≤ n → AskE S1 S2 e → bE e ≤ 2^28 → PureC Tryz.prog G 114 [dE e, .fn (.func g1) c1, .fn (.func g2) c2] (.v (.bool (evE is was e))) := by
 intro n
 induction n with
 | zero => intro e hsz; cases e <;> simp at hsz
 | succ n ih =>
  intro e hsz hask hb
  have fw := (Aq @dNum.eq_1 (Aq @dS.eq_1 (Aq @pairA.eq_1 (Aq @pairA.eq_2 @assertA.eq_1))))
  cases e with
  | cst b =>
   rw [dE]; refine PureC.of_body (tyOf_good _) Tryz.func114 rfl rfl (rs := [.tmp 6]) Tryz.results114 (by simp [Tryz.ntmps114]) fun X => ?_; simp only [Tryz.ntmps114, List.map]; refine rgq fw [0,4,5] [4,5] ?_; refine AW.imp (Imp.freezeB 4 trivial) ?_; refine AW.st (by simp [dNum, dS, pairA, assertA]; rfl) ?_; refine AW.imp (Imp.freezeB 5 trivial) ?_; refine AW.st (by simp [dNum, dS, pairA, assertA]; rfl) ?_; refine AW_then fun K1 hK1 => ?_; refine rgq fw [4,5,14] [] ?_; refine AW_block ?_; refine rgq fw [4,5,14,16,17] [] ?_; refine AW_tt rfl ?_; refine rgq fw [7] [] ?_; refine rgq fw [6] [] ?_; refine AW_ret ?_; simp [D.le, D.le.go, takeMap, dNum, dS, pairA, assertA, evE]
  | bit s =>
   rw [AskE] at hask
   have hi := h1 s hask
   rw [dE, evE]; refine PureC.of_body (tyOf_good _) Tryz.func114 rfl rfl (rs := [.tmp 6]) Tryz.results114 (by simp [Tryz.ntmps114]) fun X => ?_; simp only [Tryz.ntmps114, List.map]; refine rgq fw [0,4,5] [4,5] ?_; refine AW.imp (Imp.freezeB 4 trivial) ?_; refine AW.st (by simp [dNum, dS, pairA, assertA]; rfl) ?_; refine AW.imp (Imp.freezeB 5 trivial) ?_; refine AW.st (by simp [dNum, dS, pairA, assertA]; rfl) ?_; refine AW_then fun K1 hK1 => ?_; refine rgq fw [4,5,14] [] ?_; refine AW_block ?_; refine rgq fw [4,5,14,16,17] [] ?_; refine AW_ff rfl ?_; refine rgq fw [4,5,14,20,21] [] ?_; refine AW_tt rfl ?_; refine rgq fw [4,8] [] ?_; refine rgc fw hi [6] [] ?_; refine AW_ret ?_; simp [D.le, D.le.go, takeMap, dNum, dS, pairA, assertA]
  | rise s =>
   rw [AskE] at hask
   have hi := h1 s hask.1
   have hw := h2 s hask.2
   rw [dE, evE]
   cases hs : is s with
   | false =>
    rw [hs] at hi; refine PureC.of_body (tyOf_good _) Tryz.func114 rfl rfl (rs := [.tmp 6]) Tryz.results114 (by simp [Tryz.ntmps114]) fun X => ?_; simp only [Tryz.ntmps114, List.map]; refine rgq fw [0,4,5] [4,5] ?_; refine AW.imp (Imp.freezeB 4 trivial) ?_; refine AW.st (by simp [dNum, dS, pairA, assertA]; rfl) ?_; refine AW.imp (Imp.freezeB 5 trivial) ?_; refine AW.st (by simp [dNum, dS, pairA, assertA]; rfl) ?_; refine AW_then fun K1 hK1 => ?_; refine rgq fw [4,5,14] [] ?_; refine AW_block ?_; refine rgq fw [4,5,14,16,17] [] ?_; refine AW_ff rfl ?_; refine rgq fw [4,5,14,20,21] [] ?_; refine AW_ff rfl ?_; refine rgq fw [4,5,14,26,27] [] ?_; refine AW_tt rfl ?_; refine rgq fw [4,5,9] [] ?_; refine rgc fw hi [6] [] ?_; refine AW_ret ?_; simp [D.le, D.le.go, takeMap, dNum, dS, pairA, assertA]
   | true =>
    rw [hs] at hi; refine PureC.of_body (tyOf_good _) Tryz.func114 rfl rfl (rs := [.tmp 6]) Tryz.results114 (by simp [Tryz.ntmps114]) fun X => ?_; simp only [Tryz.ntmps114, List.map]; refine rgq fw [0,4,5] [4,5] ?_; refine AW.imp (Imp.freezeB 4 trivial) ?_; refine AW.st (by simp [dNum, dS, pairA, assertA]; rfl) ?_; refine AW.imp (Imp.freezeB 5 trivial) ?_; refine AW.st (by simp [dNum, dS, pairA, assertA]; rfl) ?_; refine AW_then fun K1 hK1 => ?_; refine rgq fw [4,5,14] [] ?_; refine AW_block ?_; refine rgq fw [4,5,14,16,17] [] ?_; refine AW_ff rfl ?_; refine rgq fw [4,5,14,20,21] [] ?_; refine AW_ff rfl ?_; refine rgq fw [4,5,14,26,27] [] ?_; refine AW_tt rfl ?_; refine rgq fw [4,5,9] [] ?_; refine rg [6] [] (fun _ _ => trivial) fun K' hK' => ?_; (repeat (refine sxn fun K2 hK2 => ?_; simp [dNum, dS, pairA, assertA]; (repeat (refine ⟨by omega, ?_⟩)); refine hK2 _ ?_; clear hK2 K2)); refine sxn fun K2 hK2 => ?_; simp [dNum, dS, pairA, assertA]; refine callK.data (hi) (by simp; rfl) (by first | exact D.leGo_refl _ | simp [takeMap, List.map_map, Function.comp_def, D.le, D.le.go, D.le_refl, D.leGo_refl, dNum, dS, pairA, assertA]) ?_; refine hK2 _ ?_; clear hK2 K2; simp only [putd, upd_lst]; (repeat (refine sxn fun K2 hK2 => ?_; simp [dNum, dS, pairA, assertA]; (repeat (refine ⟨by omega, ?_⟩)); refine hK2 _ ?_; clear hK2 K2)); refine sxn fun K2 hK2 => ?_; simp [dNum, dS, pairA, assertA]; refine callK.data (hw) (by simp; rfl) (by first | exact D.leGo_refl _ | simp [takeMap, List.map_map, Function.comp_def, D.le, D.le.go, D.le_refl, D.leGo_refl, dNum, dS, pairA, assertA]) ?_; refine hK2 _ ?_; clear hK2 K2; simp only [putd, upd_lst]; (repeat (refine sxn fun K2 hK2 => ?_; simp [dNum, dS, pairA, assertA]; (repeat (refine ⟨by omega, ?_⟩)); refine hK2 _ ?_; clear hK2 K2)); refine sxz (hK' _ (AW.st (by simp [dNum, dS, pairA, assertA]; rfl) ?_)); clear hK' K'; refine AW_ret ?_; simp [D.le, D.le.go, takeMap, dNum, dS, pairA, assertA]
  | fall s =>
   rw [AskE] at hask
   have hi := h1 s hask.1
   have hw := h2 s hask.2
   rw [dE, evE]
   cases hs : is s with
   | true =>
    rw [hs] at hi; refine PureC.of_body (tyOf_good _) Tryz.func114 rfl rfl (rs := [.tmp 6]) Tryz.results114 (by simp [Tryz.ntmps114]) fun X => ?_; simp only [Tryz.ntmps114, List.map]; refine rgq fw [0,4,5] [4,5] ?_; refine AW.imp (Imp.freezeB 4 trivial) ?_; refine AW.st (by simp [dNum, dS, pairA, assertA]; rfl) ?_; refine AW.imp (Imp.freezeB 5 trivial) ?_; refine AW.st (by simp [dNum, dS, pairA, assertA]; rfl) ?_; refine AW_then fun K1 hK1 => ?_; refine rgq fw [4,5,14] [] ?_; refine AW_block ?_; refine rgq fw [4,5,14,16,17] [] ?_; refine AW_ff rfl ?_; refine rgq fw [4,5,14,20,21] [] ?_; refine AW_ff rfl ?_; refine rgq fw [4,5,14,26,27] [] ?_; refine AW_ff rfl ?_; refine rgq fw [4,5,14,38,39] [] ?_; refine AW_tt rfl ?_; refine rgq fw [4,5,10] [] ?_; refine rgc fw hi [6] [] ?_; refine AW_ret ?_; simp [D.le, D.le.go, takeMap, dNum, dS, pairA, assertA]
   | false =>
    rw [hs] at hi; refine PureC.of_body (tyOf_good _) Tryz.func114 rfl rfl (rs := [.tmp 6]) Tryz.results114 (by simp [Tryz.ntmps114]) fun X => ?_; simp only [Tryz.ntmps114, List.map]; refine rgq fw [0,4,5] [4,5] ?_; refine AW.imp (Imp.freezeB 4 trivial) ?_; refine AW.st (by simp [dNum, dS, pairA, assertA]; rfl) ?_; refine AW.imp (Imp.freezeB 5 trivial) ?_; refine AW.st (by simp [dNum, dS, pairA, assertA]; rfl) ?_; refine AW_then fun K1 hK1 => ?_; refine rgq fw [4,5,14] [] ?_; refine AW_block ?_; refine rgq fw [4,5,14,16,17] [] ?_; refine AW_ff rfl ?_; refine rgq fw [4,5,14,20,21] [] ?_; refine AW_ff rfl ?_; refine rgq fw [4,5,14,26,27] [] ?_; refine AW_ff rfl ?_; refine rgq fw [4,5,14,38,39] [] ?_; refine AW_tt rfl ?_; refine rgq fw [4,5,10] [] ?_; refine rg [6] [] (fun _ _ => trivial) fun K' hK' => ?_; (repeat (refine sxn fun K2 hK2 => ?_; simp [dNum, dS, pairA, assertA]; (repeat (refine ⟨by omega, ?_⟩)); refine hK2 _ ?_; clear hK2 K2)); refine sxn fun K2 hK2 => ?_; simp [dNum, dS, pairA, assertA]; refine callK.data (hi) (by simp; rfl) (by first | exact D.leGo_refl _ | simp [takeMap, List.map_map, Function.comp_def, D.le, D.le.go, D.le_refl, D.leGo_refl, dNum, dS, pairA, assertA]) ?_; refine hK2 _ ?_; clear hK2 K2; simp only [putd, upd_lst]; (repeat (refine sxn fun K2 hK2 => ?_; simp [dNum, dS, pairA, assertA]; (repeat (refine ⟨by omega, ?_⟩)); refine hK2 _ ?_; clear hK2 K2)); refine sxn fun K2 hK2 => ?_; simp [dNum, dS, pairA, assertA]; refine callK.data (hw) (by simp; rfl) (by first | exact D.leGo_refl _ | simp [takeMap, List.map_map, Function.comp_def, D.le, D.le.go, D.le_refl, D.leGo_refl, dNum, dS, pairA, assertA]) ?_; refine hK2 _ ?_; clear hK2 K2; simp only [putd, upd_lst]; (repeat (refine sxn fun K2 hK2 => ?_; simp [dNum, dS, pairA, assertA]; (repeat (refine ⟨by omega, ?_⟩)); refine hK2 _ ?_; clear hK2 K2)); refine sxz (hK' _ (AW.st (by simp [dNum, dS, pairA, assertA]; rfl) ?_)); clear hK' K'; refine AW_ret ?_; simp [D.le, D.le.go, takeMap, dNum, dS, pairA, assertA]
  | not x =>
   have hc := ih x (by simp at hsz; omega) (by rwa [AskE] at hask) (by simp only [bE] at hb; omega)
   obtain ⟨tx, cx, hx⟩ := dE_ifc x
   rw [dE, evE, hx]; rw [hx] at hc; generalize evE is was x = r at hc ⊢; refine PureC.of_body (tyOf_good _) Tryz.func114 rfl rfl (rs := [.tmp 6]) Tryz.results114 (by simp [Tryz.ntmps114]) fun X => ?_; simp only [Tryz.ntmps114, List.map]; refine rgq fw [0,4,5] [4,5] ?_; refine AW.imp (Imp.freezeB 4 trivial) ?_; refine AW.st (by simp [dNum, dS, pairA, assertA]; rfl) ?_; refine AW.imp (Imp.freezeB 5 trivial) ?_; refine AW.st (by simp [dNum, dS, pairA, assertA]; rfl) ?_; refine AW_then fun K1 hK1 => ?_; refine rgq fw [4,5,14] [] ?_; refine AW_block ?_; refine rgq fw [4,5,14,16,17] [] ?_; refine AW_ff rfl ?_; refine rgq fw [4,5,14,20,21] [] ?_; refine AW_ff rfl ?_; refine rgq fw [4,5,14,26,27] [] ?_; refine AW_ff rfl ?_; refine rgq fw [4,5,14,38,39] [] ?_; refine AW_ff rfl ?_; refine rgq fw [4,5,14,50,51] [] ?_; refine AW_tt rfl ?_; refine rgq fw [4,5,11] [11] ?_; refine rgc fw hc [6] [11] ?_; refine AW_ret ?_; simp [D.le, D.le.go, takeMap, dNum, dS, pairA, assertA]
  | and l =>
   have hch : ∀ x ∈ l, PureC Tryz.prog G 166 [dE x, .ip [.fn (.func g1) c1], .ip [.fn (.func g2) c2]] (.v (.bool (!evE is was x))) := fun x hx => by
    have hc := ih x (by have := List.sizeOf_lt_of_mem hx; simp only [Ex.and.sizeOf_spec] at hsz; omega) (by rw [AskE, AskL_iff] at hask; exact hask x hx) (by have := bEs_mem hx; simp only [bE] at hb; omega)
    obtain ⟨tx, cx, hxx⟩ := dE_ifc x
    rw [hxx] at hc ⊢; generalize evE is was x = r at hc ⊢; refine PureC.of_body (tyOf_good _) Tryz.func166 rfl rfl (rs := [.tmp 4]) Tryz.results166 (by simp [Tryz.ntmps166]) fun X => ?_; simp only [Tryz.ntmps166, List.map]; refine rgq fw [0,1,2] [] ?_; refine rgc fw hc [4] [] ?_; refine AW_ret ?_; simp [D.le, D.le.go, takeMap, dNum, dS, pairA, assertA]
   have hln := bEs_len l
   have hcf := containsAnd_spec G none l 166 [.ip [.fn (.func g1) c1], .ip [.fn (.func g2) c2]] (fun x => !evE is was x) (by simp only [bE] at hb; omega) hch
   rw [dE, dEs_map, evE, evA_any]; generalize l.any (fun x => !evE is was x) = r at hcf ⊢; refine PureC.of_body (tyOf_good _) Tryz.func114 rfl rfl (rs := [.tmp 6]) Tryz.results114 (by simp [Tryz.ntmps114]) fun X => ?_; simp only [Tryz.ntmps114, List.map]; refine rgq fw [0,4,5] [4,5] ?_; refine AW.imp (Imp.freezeB 4 trivial) ?_; refine AW.st (by simp [dNum, dS, pairA, assertA]; rfl) ?_; refine AW.imp (Imp.freezeB 5 trivial) ?_; refine AW.st (by simp [dNum, dS, pairA, assertA]; rfl) ?_; refine AW_then fun K1 hK1 => ?_; refine rgq fw [4,5,14] [] ?_; refine AW_block ?_; refine rgq fw [4,5,14,16,17] [] ?_; refine AW_ff rfl ?_; refine rgq fw [4,5,14,20,21] [] ?_; refine AW_ff rfl ?_; refine rgq fw [4,5,14,26,27] [] ?_; refine AW_ff rfl ?_; refine rgq fw [4,5,14,38,39] [] ?_; refine AW_ff rfl ?_; refine rgq fw [4,5,14,50,51] [] ?_; refine AW_ff rfl ?_; refine rgq fw [4,5,14,59,60] [] ?_; refine AW_tt rfl ?_; refine rgq fw [4,5,12] [] ?_; refine rgc fw hcf [6] [] ?_; refine AW_ret ?_; simp [D.le, D.le.go, takeMap, dNum, dS, pairA, assertA]
  | or l =>
   have hch : ∀ x ∈ l, PureC Tryz.prog G 168 [dE x, .ip [.fn (.func g1) c1], .ip [.fn (.func g2) c2]] (.v (.bool (evE is was x))) := fun x hx => by
    have hc := ih x (by have := List.sizeOf_lt_of_mem hx; simp only [Ex.or.sizeOf_spec] at hsz; omega) (by rw [AskE, AskL_iff] at hask; exact hask x hx) (by have := bEs_mem hx; simp only [bE] at hb; omega)
    obtain ⟨tx, cx, hxx⟩ := dE_ifc x
    rw [hxx] at hc ⊢; generalize evE is was x = r at hc ⊢; refine PureC.of_body (tyOf_good _) Tryz.func168 rfl rfl (rs := [.tmp 4]) Tryz.results168 (by simp [Tryz.ntmps168]) fun X => ?_; simp only [Tryz.ntmps168, List.map]; refine rgq fw [0,1,2] [] ?_; refine rgc fw hc [4] [] ?_; refine AW_ret ?_; simp [D.le, D.le.go, takeMap, dNum, dS, pairA, assertA]
   have hln := bEs_len l
   have hcf := containsOr_spec G none l 168 [.ip [.fn (.func g1) c1], .ip [.fn (.func g2) c2]] (fun x => evE is was x) (by simp only [bE] at hb; omega) hch
   rw [dE, dEs_map, evE, evO_any]; generalize l.any (fun x => evE is was x) = r at hcf ⊢; refine PureC.of_body (tyOf_good _) Tryz.func114 rfl rfl (rs := [.tmp 6]) Tryz.results114 (by simp [Tryz.ntmps114]) fun X => ?_; simp only [Tryz.ntmps114, List.map]; refine rgq fw [0,4,5] [4,5] ?_; refine AW.imp (Imp.freezeB 4 trivial) ?_; refine AW.st (by simp [dNum, dS, pairA, assertA]; rfl) ?_; refine AW.imp (Imp.freezeB 5 trivial) ?_; refine AW.st (by simp [dNum, dS, pairA, assertA]; rfl) ?_; refine AW_then fun K1 hK1 => ?_; refine rgq fw [4,5,14] [] ?_; refine AW_block ?_; refine rgq fw [4,5,14,16,17] [] ?_; refine AW_ff rfl ?_; refine rgq fw [4,5,14,20,21] [] ?_; refine AW_ff rfl ?_; refine rgq fw [4,5,14,26,27] [] ?_; refine AW_ff rfl ?_; refine rgq fw [4,5,14,38,39] [] ?_; refine AW_ff rfl ?_; refine rgq fw [4,5,14,50,51] [] ?_; refine AW_ff rfl ?_; refine rgq fw [4,5,14,59,60] [] ?_; refine AW_ff rfl ?_; refine rgq fw [4,5,66,67] [] ?_; refine AW_tt rfl ?_; refine rgq fw [4,5,13] [] ?_; refine rgc fw hcf [6] [] ?_; refine AW_ret ?_; simp [D.le, D.le.go, takeMap, dNum, dS, pairA, assertA]
theorem eval_on (G : Glob) (g1 g2 : FuncId) (c1 c2 : List D) (is was : List UInt8 → Bool) (S1 S2 : List UInt8 → Prop) (h1 : TellsOn S1 G g1 c1 is) (h2 : TellsOn S2 G g2 c2 was) (e : Ex) (ha : AskE S1 S2 e) (hb : bE e ≤ 2^28) : PureC Tryz.prog G 114 [dE e, .fn (.func g1) c1, .fn (.func g2) c2] (.v (.bool (evE is was e))) :=
 eval_at G g1 g2 c1 c2 is was S1 S2 h1 h2 _ e (Nat.le_refl _) ha hb
end Go.Proofs.YthnjfeielmbfkaaGreatDoor
namespace Go.Proofs.YthnjfeielmbfkaaGreatDoor
open Go.Av
theorem la : (⟨#[97]⟩ : ByteArray) = bs [97] := rfl
theorem lb : (⟨#[98]⟩ : ByteArray) = bs [98] := rfl
end Go.Proofs.YthnjfeielmbfkaaGreatDoor
namespace Go.Proofs.YthnjfeielmbfkaaGreatDoor
open Go.Av
theorem u_wrap (x : Nat) (h : x < 2^64) : IntKind.u64.wrap (x : Int) = (x : Int) := by
 rw [IntKind.wrap_u64]
 have : (2:Nat)^64 = 18446744073709551616 := by decide
 omega
end Go.Proofs.YthnjfeielmbfkaaGreatDoor
namespace Go.Proofs.YthnjfeielmbfkaaGreatDoor
open Go.Av
structure NmP where
 name : Tx
 kind : Int
 count : Int
structure RgP where
 kind : Int
 name : Tx
 cond : Option Ex
structure PgP where
 names : List NmP
 rungs : List RgP
def numP (p : PgP) (s : Tx) : Int := idx (fun n : NmP => n.name == s) p.names
theorem numP_le (p : PgP) {i : Nat} (hi : i < p.names.length) : 0 ≤ numP p p.names[i].name ∧ numP p p.names[i].name ≤ i := by
 have hne : ¬ numP p p.names[i].name < 0 := fun h => by
  have := idx_neg h _ (List.getElem_mem hi)
  simp at this
 obtain ⟨k, hk, he, _⟩ := idx_pos hne
 refine ⟨by omega, ?_⟩
 apply Classical.byContradiction
 intro hlt
 have hik : i < k := by unfold numP at hlt; omega
 unfold idx at he
 cases hf : p.names.findIdx? (fun n : NmP => n.name == p.names[i].name) with
 | none => rw [hf] at he; simp at he
 | some k' =>
  rw [hf] at he; simp only [Int.ofNat.injEq, Int.natCast_inj] at he
  have hkk : k' = k := by simpa using he
  subst hkk
  have := (List.findIdx?_eq_some_iff_getElem.1 hf).2.2 i hik
  simp at this
def firstBad {α : Type} (f : Nat → α → Int) : List α → Nat → Option (Int × Nat)
 | [], _ => none
 | x :: l, i => if f i x = 0 then firstBad f l (i + 1) else some (f i x, i)
theorem firstBad_none {α : Type} {f : Nat → α → Int} : ∀ {l : List α} {i : Nat}, firstBad f l i = none → ∀ k (hk : k < l.length), f (i + k) l[k] = 0
 | x :: l, i, h, k, hk => by
  rw [firstBad] at h
  split at h
  ·rename_i h0
   cases k with
   | zero => simpa using h0
   | succ k =>
    have := firstBad_none h k (by simpa using hk)
    simpa [Nat.add_assoc, Nat.add_comm 1 k] using this
  ·cases h
def countsP (n : NmP) : Bool := decide (n.kind = 3) || decide (n.kind = 4)
def badN (p : PgP) (i : Nat) (n : NmP) : Int :=
 if !nameF n.name then 5 else if decide (n.kind < 1) || decide (n.kind > 4) then 1 else if (countsP n && (decide (n.count < 1) || decide (n.count > 7))) || (!countsP n && decide (n.count ≠ 0)) then 2 else if numP p n.name < i then 9 else 0
def wantP (k : Int) : Int := if k ≤ 3 then 2 else if k = 4 then 3 else 4
def badG (p : PgP) (r : RgP) : Int := match r.cond with
 | none => 1
 | some e => if decide (r.kind < 1) || decide (r.kind > 6) then 1 else if numP p r.name < 0 then 7
  else if wantP r.kind ≠ (p.names.getD (numP p r.name).toNat ⟨[], 0, 0⟩).kind then 1 else if (namesE true e).any fun s => decide (numP p s < 0) then 7 else 0
def checkP (p : PgP) : Option (Int × Option Nat) :=
 if p.names.length > 12 ∨ p.rungs.length > 40 then some (4, none) else match firstBad (badN p) p.names 0 with
  | some (e, i) => some (e, some i)
  | none => match firstBad (fun _ r => badG p r) p.rungs 0 with
   | some (e, i) => some (e, some (p.names.length + i))
   | none => none
structure GoodP (p : PgP) : Prop where
 names : p.names.length ≤ 12
 rungs : p.rungs.length ≤ 40
 name : ∀ n ∈ p.names, nameF n.name = true ∧ 1 ≤ n.kind ∧ n.kind ≤ 4
 count : ∀ n ∈ p.names, (n.kind < 3 ∧ n.count = 0) ∨ (3 ≤ n.kind ∧ 1 ≤ n.count ∧ n.count ≤ 7)
 num : ∀ i (hi : i < p.names.length), numP p p.names[i].name = i
theorem checkP_good {p : PgP} (h : checkP p = none) : GoodP p := by
 unfold checkP at h
 split at h
 ·cases h
 ·rename_i hl
  split at h
  ·cases h
  ·rename_i hN
   have hall := fun i hi => firstBad_none hN i hi
   have one : ∀ i (hi : i < p.names.length), nameF p.names[i].name = true ∧ 1 ≤ p.names[i].kind ∧ p.names[i].kind ≤ 4 ∧ ((p.names[i].kind < 3 ∧ p.names[i].count = 0) ∨ (3 ≤ p.names[i].kind ∧ 1 ≤ p.names[i].count ∧ p.names[i].count ≤ 7)) ∧ numP p p.names[i].name = i := fun i hi => by
    have hb := hall i hi
    have hle := numP_le p hi
    rw [Nat.zero_add] at hb; generalize p.names[i] = n at hb hle ⊢; unfold badN countsP at hb
    split at hb
    ·omega
    ·rename_i h1
     split at hb
     ·omega
     ·rename_i h2
      split at hb
      ·omega
      ·rename_i h3
       split at hb
       ·omega
       ·rename_i h4
        simp at h1 h2 h3; refine ⟨h1, by omega, by omega, ?_, by omega⟩
        by_cases hk : n.kind = 3 ∨ n.kind = 4
        ·exact .inr ⟨by omega, by have := h3.1 hk; omega, by have := h3.1 hk; omega⟩
        ·have := h3.2 (by omega) (by omega)
         exact .inl ⟨by omega, by omega⟩
   refine ⟨by omega, by omega, fun n hn => ?_, fun n hn => ?_, fun i hi => (one i hi).2.2.2.2⟩
   ·obtain ⟨i, hi, rfl⟩ := List.mem_iff_getElem.1 hn
    exact ⟨(one i hi).1, (one i hi).2.1, (one i hi).2.2.1⟩
   ·obtain ⟨i, hi, rfl⟩ := List.mem_iff_getElem.1 hn
    exact (one i hi).2.2.2.1
end Go.Proofs.YthnjfeielmbfkaaGreatDoor
namespace Go.Proofs.YthnjfeielmbfkaaGreatDoor
open Go.Av
def cNm (n : NmP) : List D := [dS n.name, .v (.int .i64 n.kind), .v (.int .i64 n.count)]
def dNm (n : NmP) : D := .agg (cNm n)
def dNms (l : List NmP) : D := .sl none (l.map cNm)
def dC (c : Option Ex) : D := match c with
 | none => .v .nilIface
 | some e => dE e
def cRg (r : RgP) : List D := [.v (.int .i64 r.kind), dS r.name, dC r.cond]
def dRg (r : RgP) : D := .agg (cRg r)
def dRgs (l : List RgP) : D := .sl none (l.map cRg)
def cPg (p : PgP) : List D := [dNms p.names, dRgs p.rungs]
def dPg (p : PgP) : D := .agg (cPg p)
set_option maxHeartbeats 1000000 in
theorem indexNm_spec (G : Glob) (k : Option Bool) (xs : List NmP) (g : FuncId) (caps : List D) (p : NmP → Bool) (hl : xs.length < 2^62) (ha : Answers G g caps dNm p xs) :
  PureC Tryz.prog G 51 [.sl k (xs.map cNm), .fn (.func g) caps] (.v (.int .i64 (idx p xs))) := by
 refine PureC.of_body (tyOf_good _) Tryz.func51 rfl rfl (rs := [.tmp 4]) Tryz.results51 (by simp [Tryz.ntmps51]) fun X => ?_; simp only [Tryz.ntmps51, List.map]; refine rg0 [0,1] [] ?_; refine AW_then fun K1 hK1 => ?_; refine rg0 [0,1,7,8] [] ?_; refine AW_for (S := Nat) (fun n => n ≤ xs.length ∧ ∀ i (hi : i < xs.length), i < n → p xs[i] = false) (fun n => ⟨lst [(0, .d (.sl k (xs.map cNm))), (1, .d (.fn (.func g) caps)), (7, int xs.length), (8, int n)], hlst []⟩) (fun n => xs.length - n) 0 ?_ (by simp) ?_
 ·refine Imp.to' (fun _ _ => trivial) (by simp) (by simp)
 ·rintro n ⟨hn, hp⟩
  refine rg0 [0,1,7,8,9] [] ?_; refine AW_then fun K2 hK2 => ?_; refine AW_cond' (b := n < xs.length) (by simp [D.le, D.le.go, takeMap]) (fun hc => ?_) (fun hc => ?_)
  ·refine AW_skip (hK2 _ ?_); refine AW_then fun K3 hK3 => ?_; refine AW_block ?_; refine rg0 [0,1,5,7,8] [] ?_
   have hax := ha xs[n] (by simp)
   simp only [dNm, cNm] at hax
   have qf := (Aq @hc @cNm.eq_1)
   refine rgcv hax [0,1,5,7,8,16] [] ?_; refine AW_cond _ rfl (fun hp2 => ?_) (fun hp2 => ?_)
   ·refine rg0 [4] [] ?_; refine AW_ret ?_; simp [D.le, D.le.go, takeMap]; exact (idx_hit hc hp2 fun i hi => hp i (by omega) hi).symm
   ·refine AW_skip (hK3 _ ?_); refine AW_re (tyOf_good _) fun K' hK' => ?_; (repeat (refine sxn fun K2 hK2 => ?_; simp; (repeat (refine ⟨by omega, ?_⟩)); refine hK2 _ ?_; clear hK2 K2)); refine sxz (hK' _ ?_); clear hK' K'; (try simp only [thn, inb]); refine Again.mk (n + 1) ⟨by omega, fun i hi hin => ?_⟩ (by omega) ?_
    ·by_cases h : i = n
     ·subst h; exact hp2
     ·exact hp i hi (by omega)
    refine Imp.to' (fun _ _ => trivial) (by simp) (by simp)
  ·refine AW_exit (hK1 _ ?_); refine rg0 [4] [] ?_; refine AW_ret ?_; simp [D.le, D.le.go, takeMap]; exact (idx_miss fun i hi => hp i hi (by omega)).symm
set_option maxHeartbeats 1000000 in
theorem indexTx_spec (G : Glob) (k : Option Bool) (xs : List (List UInt8)) (g : FuncId) (caps : List D) (p : (List UInt8) → Bool) (hl : xs.length < 2^62) (ha : Answers G g caps dS p xs) :
  PureC Tryz.prog G 169 [.sl k (xs.map (fun s => [dS s])), .fn (.func g) caps] (.v (.int .i64 (idx p xs))) := by
 refine PureC.of_body (tyOf_good _) Tryz.func169 rfl rfl (rs := [.tmp 4]) Tryz.results169 (by simp [Tryz.ntmps169]) fun X => ?_; simp only [Tryz.ntmps169, List.map]; refine rg0 [0,1] [] ?_; refine AW_then fun K1 hK1 => ?_; refine rg0 [0,1,7,8] [] ?_; refine AW_for (S := Nat) (fun n => n ≤ xs.length ∧ ∀ i (hi : i < xs.length), i < n → p xs[i] = false) (fun n => ⟨lst [(0, .d (.sl k (xs.map (fun s => [dS s])))), (1, .d (.fn (.func g) caps)), (7, int xs.length), (8, int n)], hlst []⟩) (fun n => xs.length - n) 0 ?_ (by simp) ?_
 ·refine Imp.to' (fun _ _ => trivial) (by simp [dS]) (by simp [dS])
 ·rintro n ⟨hn, hp⟩
  refine rg0 [0,1,7,8,9] [] ?_; refine AW_then fun K2 hK2 => ?_; refine AW_cond' (b := n < xs.length) (by simp [D.le, D.le.go, takeMap]) (fun hc => ?_) (fun hc => ?_)
  ·refine AW_skip (hK2 _ ?_); refine AW_then fun K3 hK3 => ?_; refine AW_block ?_; refine rg0 [0,1,5,7,8] [] ?_
   have hax := ha xs[n] (by simp)
   simp only [dS] at hax
   have qf := (Aq @hc @dS.eq_1)
   refine rgcv hax [0,1,5,7,8,16] [] ?_; refine AW_cond _ rfl (fun hp2 => ?_) (fun hp2 => ?_)
   ·refine rg0 [4] [] ?_; refine AW_ret ?_; simp [D.le, D.le.go, takeMap]; exact (idx_hit hc hp2 fun i hi => hp i (by omega) hi).symm
   ·refine AW_skip (hK3 _ ?_); refine AW_re (tyOf_good _) fun K' hK' => ?_; (repeat (refine sxn fun K2 hK2 => ?_; simp; (repeat (refine ⟨by omega, ?_⟩)); refine hK2 _ ?_; clear hK2 K2)); refine sxz (hK' _ ?_); clear hK' K'; (try simp only [thn, inb]); refine Again.mk (n + 1) ⟨by omega, fun i hi hin => ?_⟩ (by omega) ?_
    ·by_cases h : i = n
     ·subst h; exact hp2
     ·exact hp i hi (by omega)
    refine Imp.to' (fun _ _ => trivial) (by simp [dS]) (by simp [dS])
  ·refine AW_exit (hK1 _ ?_); refine rg0 [4] [] ?_; refine AW_ret ?_; simp [D.le, D.le.go, takeMap]; exact (idx_miss fun i hi => hp i hi (by omega)).symm
set_option maxHeartbeats 1000000 in
theorem containsTx_spec (G : Glob) (k : Option Bool) (xs : List (List UInt8)) (g : FuncId) (caps : List D) (p : List UInt8 → Bool) (hl : xs.length < 2^62) (ha : Answers G g caps dS p xs) :
  PureC Tryz.prog G 116 [.sl k (xs.map fun s => [dS s]), .fn (.func g) caps] (.v (.bool (xs.any p))) := by
 refine PureC.of_body (tyOf_good _) Tryz.func116 rfl rfl (rs := [.tmp 4]) Tryz.results116 (by simp [Tryz.ntmps116]) fun X => ?_; simp only [Tryz.ntmps116, List.map]; refine rg0 [0,1] [] ?_; refine rgc trivial (indexTx_spec G k xs g caps p hl ha) [4] [] ?_; refine AW_ret ?_; simp [D.le, D.le.go, takeMap]; exact idx_any p xs
set_option maxHeartbeats 1000000 in
theorem lc_num1 (G : Glob) (n : NmP) (s : List UInt8) : PureC Tryz.prog G 52 [dNm n, .ip [dS s]] (.v (.bool (n.name == s))) := by
 simp only [dNm, cNm, dS]; refine PureC.of_body (tyOf_good _) Tryz.func52 rfl rfl (rs := [.tmp 3]) Tryz.results52 (by simp [Tryz.ntmps52]) fun X => ?_; simp only [Tryz.ntmps52, List.map]; refine rg0 [1,2] [2] ?_; refine rg [3] [2] (fun _ _ => trivial) fun K' hK' => ?_; (repeat (refine sxn fun K2 hK2 => ?_; simp [binS, bs_list]; (repeat (refine ⟨by omega, ?_⟩)); refine hK2 _ ?_; clear hK2 K2)); refine sxz (hK' _ (AW.st (by simp [binS, bs_list]; rfl) ?_)); clear hK' K'; refine AW_ret ?_; simp [D.le, D.le.go, takeMap]
set_option maxHeartbeats 1000000 in
theorem lc_num (G : Glob) (p : PgP) (hp : p.names.length < 2^62) (s : List UInt8) : PureC Tryz.prog G 15 [dPg p, dS s] (.v (.int .i64 (numP p s))) := by
 have hi := indexNm_spec G none p.names 52 [.ip [dS s]] (fun n => n.name == s) hp fun n _ => lc_num1 G n s
 unfold numP; simp only [dPg, cPg, dNms, dS] at hi ⊢; generalize dRgs p.rungs = R at *; generalize idx (fun n : NmP => n.name == s) p.names = z at hi ⊢; refine PureC.of_body (tyOf_good _) Tryz.func15 rfl rfl (rs := [.tmp 4]) Tryz.results15 (by simp [Tryz.ntmps15]) fun X => ?_; simp only [Tryz.ntmps15, List.map]; refine rgq @dRgs.eq_1 [2,3] [2,3] ?_; refine AW.imp (Imp.freezeB 3 trivial) ?_; refine AW.st (by simp; rfl) ?_; refine rgc trivial hi [4] [2] ?_; refine AW_ret ?_; simp [D.le, D.le.go, takeMap]
set_option maxHeartbeats 1000000 in
theorem lc_chk1 (G : Glob) (p : PgP) (hp : p.names.length < 2^62) (s : List UInt8) : PureC Tryz.prog G 159 [dS s, .ip (cPg p)] (.v (.bool (decide (numP p s < 0)))) := by
 have hi := lc_num G p hp s
 simp only [dPg, cPg, dNms, dRgs, dS] at hi ⊢; refine PureC.of_body (tyOf_good _) Tryz.func159 rfl rfl (rs := [.tmp 3]) Tryz.results159 (by simp [Tryz.ntmps159]) fun X => ?_; simp only [Tryz.ntmps159, List.map]; refine rg0 [0,1] [] ?_; refine rgc trivial hi [3] [] ?_; refine AW_ret ?_; simp [D.le, D.le.go, takeMap]
structure LaterG (T : Prop) : Prop where
 out : T
theorem lateG {T U : Prop} (h : LaterG T → U) (t : T) : U := h ⟨t⟩
theorem numP_pos {p : PgP} {s : List UInt8} (h : ¬ numP p s < 0) : ∃ k : Nat, ∃ hk : k < p.names.length, numP p s = k := by
 obtain ⟨k, hk, he, _⟩ := idx_pos h
 exact ⟨k, hk, he⟩
set_option maxHeartbeats 8000000 in
theorem lc_chk (G : Glob) (p : PgP) (hp : p.names.length < 2^62) (r : RgP) (hb : ∀ e, r.cond = some e → bE e ≤ 2^28 ∧ (namesE true e).length < 2^62) : PureC Tryz.prog G 105 [dPg p, dRg r] (.v (.int .i64 (badG p r))) := by
 obtain ⟨kind, name, cond⟩ := r
 dsimp only at hb
 have hnum := lc_num G p hp name
 have hck := fun s => lc_chk1 G p hp s
 simp only [dPg, cPg, dNms, dRgs, dRg, cRg, dS] at hnum hck ⊢
 cases cond with
 | none =>
  have hres0 : badG p ⟨kind, name, none⟩ = 1 := rfl
  generalize badG p ⟨kind, name, none⟩ = res at hres0; refine PureC.of_body (tyOf_good _) Tryz.func105 rfl rfl (rs := [.tmp 4]) Tryz.results105 (by simp [Tryz.ntmps105]) fun X => ?_; simp only [Tryz.ntmps105, List.map]
  have fw := (Aq @dC.eq_1 @dC.eq_2)
  refine rgq fw [2,3] [2,3] ?_; refine AW_then fun K1 hK1 => ?_
  by_cases h1 : kind < 1
  ·have qf := (Aq fw @h1)
   refine rgqv [2,3,19] [2,3] ?_; refine AW_tt rfl ?_; refine rgq fw [4] [] ?_; refine AW_ret ?_; simp [D.le, D.le.go, takeMap, dC, hres0]
  ·by_cases h2 : kind > 6
   ·have qf := (Aq fw (Aq @h1 @h2))
    refine rgqv [2,3,19] [2,3] ?_; refine AW_tt rfl ?_; refine rgq fw [4] [] ?_; refine AW_ret ?_; simp [D.le, D.le.go, takeMap, dC, hres0]
   ·have qf := (Aq fw (Aq @h1 @h2))
    refine rgqv [2,3,19] [2,3] ?_; refine AW_tt rfl ?_; refine rgq fw [4] [] ?_; refine AW_ret ?_; simp [D.le, D.le.go, takeMap, dC, hres0]
 | some e =>
  have hres0 : badG p ⟨kind, name, some e⟩ = if decide (kind < 1) || decide (kind > 6) then 1 else if numP p name < 0 then 7
   else if wantP kind ≠ (p.names.getD (numP p name).toNat ⟨[], 0, 0⟩).kind then 1 else if (namesE true e).any fun s => decide (numP p s < 0) then 7 else 0 := rfl
  generalize badG p ⟨kind, name, some e⟩ = res at hres0
  obtain ⟨hbe, hnl⟩ := hb e rfl
  have hns := namesE_spec G e hbe
  have hany := containsTx_spec G none (namesE true e) 159 [.ip (cPg p)] (fun s => decide (numP p s < 0)) hnl fun s _ => lc_chk1 G p hp s
  have hdc : dC (some e) = dE e := rfl
  rw [hdc]
  obtain ⟨tx, cx, hx⟩ := dE_ifc e
  rw [hx] at hns ⊢; simp only [cPg, dNms, dRgs, dS] at hns hany; generalize ((namesE true e).any fun s => decide (numP p s < 0)) = an at hres0 hany; generalize namesE true e = nm at hns hany; refine PureC.of_body (tyOf_good _) Tryz.func105 rfl rfl (rs := [.tmp 4]) Tryz.results105 (by simp [Tryz.ntmps105]) fun X => ?_; simp only [Tryz.ntmps105, List.map]
  have fw := (Aq @dC.eq_1 @dC.eq_2)
  refine rgq fw [2,3] [2,3] ?_; refine AW.imp (Imp.freezeB 2 trivial) ?_; refine AW.st (by simp [dC]; rfl) ?_; refine AW.imp (Imp.freezeB 3 trivial) ?_; refine AW.st (by simp [dC]; rfl) ?_; refine AW_then fun K1 hK1 => ?_
  by_cases h1 : kind < 1
  ·rw [if_pos (by simp [h1])] at hres0
   have qf := (Aq fw @h1)
   refine rgqv [2,3,19] [] ?_; refine AW_tt rfl ?_; refine rgq fw [4] [] ?_; refine AW_ret ?_; simp [D.le, D.le.go, takeMap, dC, hres0]
  by_cases h2 : kind > 6
  ·rw [if_pos (by simp [h2])] at hres0
   have qf := (Aq fw (Aq @h1 @h2))
   refine rgqv [2,3,19] [] ?_; refine AW_tt rfl ?_; refine rgq fw [4] [] ?_; refine AW_ret ?_; simp [D.le, D.le.go, takeMap, dC, hres0]
  rw [if_neg (by simp [h1, h2])] at hres0
  have qf := (Aq fw (Aq @h1 @h2))
  refine rgqv [2,3,19] [] ?_; refine AW_ff rfl ?_; refine AW_skip (hK1 _ ?_); refine rgc fw hnum [2,3,5] [] ?_; refine AW_then fun K2 hK2 => ?_; refine rgq fw [2,3,5,25] [] ?_
  by_cases h3 : numP p name < 0
  ·rw [if_pos h3] at hres0; refine AW_cond true (by simp [h3]) (fun _ => ?_) (fun h => by cases h); refine rgq fw [4] [] ?_; refine AW_ret ?_; simp [D.le, D.le.go, takeMap, dC, hres0]
  rw [if_neg h3] at hres0
  obtain ⟨k, hk, hke⟩ := numP_pos h3
  have hgd : p.names.getD (numP p name).toNat ⟨[], 0, 0⟩ = p.names[k] := by
   rw [hke, Int.toNat_natCast, List.getD_eq_getElem?_getD, List.getElem?_eq_getElem hk]; rfl
  rw [hgd] at hres0; refine AW_cond false (by simp [h3]) (fun h => by cases h) (fun _ => ?_); refine AW_skip (hK2 _ ?_); refine AW_then fun K3 hK3 => ?_
  have hcells : cNm p.names[k] = [dS p.names[k].name, .v (.int .i64 p.names[k].kind), .v (.int .i64 p.names[k].count)] := rfl
  generalize hkk : p.names[k].kind = kk at hres0 hcells; refine' lateG (fun hrest => ?_) ?_
  rotate_left
  ·have hk0 := h1
   by_cases hk1 : kind = 1
   ·have qf := (Aq fw @hk1)
    refine rgqv [2,3,5,6] [] ?_; refine AW.st (show _ = (⟨lst [(2, .d (.ip [.sl none (p.names.map cNm), .sl none (p.rungs.map cRg)])), (3, .d (.ip [.v (.int .i64 kind), .v (.string (bs name)), .ifc tx cx])), (5, int (numP p name)), (6, int (wantP kind))], hlst []⟩ : St) by rw [hk1] <;> rfl) ?_; exact hrest.out
   by_cases hk1 : kind = 2
   ·have qf := (Aq fw @hk1)
    refine rgqv [2,3,5,6] [] ?_; refine AW.st (show _ = (⟨lst [(2, .d (.ip [.sl none (p.names.map cNm), .sl none (p.rungs.map cRg)])), (3, .d (.ip [.v (.int .i64 kind), .v (.string (bs name)), .ifc tx cx])), (5, int (numP p name)), (6, int (wantP kind))], hlst []⟩ : St) by rw [hk1] <;> rfl) ?_; exact hrest.out
   by_cases hk1 : kind = 3
   ·have qf := (Aq fw @hk1)
    refine rgqv [2,3,5,6] [] ?_; refine AW.st (show _ = (⟨lst [(2, .d (.ip [.sl none (p.names.map cNm), .sl none (p.rungs.map cRg)])), (3, .d (.ip [.v (.int .i64 kind), .v (.string (bs name)), .ifc tx cx])), (5, int (numP p name)), (6, int (wantP kind))], hlst []⟩ : St) by rw [hk1] <;> rfl) ?_; exact hrest.out
   by_cases hk1 : kind = 4
   ·have qf := (Aq fw @hk1)
    refine rgqv [2,3,5,6] [] ?_; refine AW.st (show _ = (⟨lst [(2, .d (.ip [.sl none (p.names.map cNm), .sl none (p.rungs.map cRg)])), (3, .d (.ip [.v (.int .i64 kind), .v (.string (bs name)), .ifc tx cx])), (5, int (numP p name)), (6, int (wantP kind))], hlst []⟩ : St) by rw [hk1] <;> rfl) ?_; exact hrest.out
   by_cases hk1 : kind = 5
   ·have qf := (Aq fw @hk1)
    refine rgqv [2,3,5,6] [] ?_; refine AW.st (show _ = (⟨lst [(2, .d (.ip [.sl none (p.names.map cNm), .sl none (p.rungs.map cRg)])), (3, .d (.ip [.v (.int .i64 kind), .v (.string (bs name)), .ifc tx cx])), (5, int (numP p name)), (6, int (wantP kind))], hlst []⟩ : St) by rw [hk1] <;> rfl) ?_; exact hrest.out
   have hk1 : kind = 6 := by omega
   have qf := (Aq fw @hk1)
   refine rgqv [2,3,5,6] [] ?_; refine AW.st (show _ = (⟨lst [(2, .d (.ip [.sl none (p.names.map cNm), .sl none (p.rungs.map cRg)])), (3, .d (.ip [.v (.int .i64 kind), .v (.string (bs name)), .ifc tx cx])), (5, int (numP p name)), (6, int (wantP kind))], hlst []⟩ : St) by rw [hk1] <;> rfl) ?_; exact hrest.out
  ·rw [hke]
   have qf := (Aq fw (Aq @hk @hcells))
   refine rgqv [2,3,37] [] ?_
   by_cases h4 : kk = wantP kind
   ·rw [if_neg (by simp [h4])] at hres0; refine AW_cond false (by simp [h4]) (fun h => by cases h) (fun _ => ?_); refine AW_skip (hK3 _ ?_); refine AW_then fun K4 hK4 => ?_; refine rg [42] [] (fun _ _ => trivial) fun K' hK' => ?_; (repeat (refine sxn fun K2 hK2 => ?_; simp [dC]; (repeat (refine ⟨by omega, ?_⟩)); refine hK2 _ ?_; clear hK2 K2)); refine sxn fun K2 hK2 => ?_; simp [dC]; refine callK.data (hns) (by simp; rfl) (by first | exact D.leGo_refl _ | simp [takeMap, List.map_map, Function.comp_def, D.le, D.le.go, D.le_refl, D.leGo_refl, dC]) ?_; refine hK2 _ ?_; clear hK2 K2; simp only [putd, upd_lst]; (repeat (refine sxn fun K2 hK2 => ?_; simp [dC]; (repeat (refine ⟨by omega, ?_⟩)); refine hK2 _ ?_; clear hK2 K2)); refine sxn fun K2 hK2 => ?_; simp [dC]; refine callK.data (hany) (by simp; rfl) (by first | exact D.leGo_refl _ | simp [takeMap, List.map_map, Function.comp_def, D.le, D.le.go, D.le_refl, D.leGo_refl, dC]) ?_; refine hK2 _ ?_; clear hK2 K2; simp only [putd, upd_lst]; (repeat (refine sxn fun K2 hK2 => ?_; simp [dC]; (repeat (refine ⟨by omega, ?_⟩)); refine hK2 _ ?_; clear hK2 K2)); refine sxz (hK' _ (AW.st (by simp [dC]; rfl) ?_)); clear hK' K'
    cases an with
    | true =>
     rw [if_pos rfl] at hres0; refine AW_tt rfl ?_; refine rgq fw [4] [] ?_; refine AW_ret ?_; simp [D.le, D.le.go, takeMap, dC, hres0]
    | false =>
     rw [if_neg (by decide)] at hres0; refine AW_ff rfl ?_; refine AW_skip (hK4 _ ?_); refine rgq fw [4] [] ?_; refine AW_ret ?_; simp [D.le, D.le.go, takeMap, dC, hres0]
   ·rw [if_pos (fun h => h4 h.symm)] at hres0; refine AW_cond true (by simp [h4]) (fun _ => ?_) (fun h => by cases h); refine rgq fw [4] [] ?_; refine AW_ret ?_; simp [D.le, D.le.go, takeMap, dC, hres0]
end Go.Proofs.YthnjfeielmbfkaaGreatDoor
