/-
  Texts that belong together, in one file: X1, X4, Y1, Y3, X6, V7, A2, A3, W2, U2, V8, LP1, LC1.
-/
import Derived.Test.YtnlhioeefmhklaaGreatDoorRc17
import Derived.Lib.Join
/-
  Expressions, and how texts are read as such: plain.
-/
namespace Go.Proofs.YtnlhioeefmhklaaGreatDoor
set_option linter.unusedSimpArgs false
set_option linter.unusedVariables false

inductive Ex where
  | cst (b : Bool)
  | bit (s : List UInt8)
  | rise (s : List UInt8)
  | fall (s : List UInt8)
  | not (e : Ex)
  | and (l : List Ex)
  | or (l : List Ex)

/-- What is read: it, and where one is; or what is wrong, where, and what comes with it. -/
inductive Rs (α : Type) where
  | ok (x : α) (i : Nat)
  | err (c : Int) (p q : Nat)

def Rs.map {α β : Type} (f : α → β) : Rs α → Rs β
  | .ok x i => .ok (f x) i
  | .err c p q => .err c p q

/-! ### How they are written -/
end Go.Proofs.YtnlhioeefmhklaaGreatDoor

/-
  The reader of expressions: several, and, or, one; Parse.
-/
namespace Go.Proofs.YtnlhioeefmhklaaGreatDoor
set_option linter.unusedSimpArgs false
set_option linter.unusedVariables false
open Go.Av

/-! ### Expressions as data -/
mutual
def dE : Ex → D
  | .cst b => .ifc 263 (.v (.bool b))
  | .bit s => .ifc 143 (dS s)
  | .rise s => .ifc 177 (dS s)
  | .fall s => .ifc 178 (dS s)
  | .not e => .ifc 145 (.agg [dE e])
  | .and l => .ifc 198 (.sl none (dEs l))
  | .or l => .ifc 199 (.sl none (dEs l))
def dEs : List Ex → List (List D)
  | [] => []
  | e :: l => [dE e] :: dEs l
end
theorem dEs_map : ∀ l : List Ex, dEs l = l.map fun e => [dE e]
  | [] => rfl
  | e :: l => by rw [dEs, dEs_map l]; rfl
theorem dE_ifc (e : Ex) : ∃ t y, dE e = .ifc t y := by
  cases e <;> simp only [dE] <;> exact ⟨_, _, rfl⟩
end Go.Proofs.YtnlhioeefmhklaaGreatDoor

/-
  What is written is read as what it was: plain.
-/
namespace Go.Proofs.YtnlhioeefmhklaaGreatDoor
set_option linter.unusedSimpArgs false
set_option linter.unusedVariables false

/-! ### A text has another one at a place -/
def Has (t : List UInt8) (p : Nat) (w : List UInt8) : Prop := ∀ k, k < w.length → t[p + k]? = w[k]?
theorem Has.cons {t : List UInt8} {p : Nat} {c : UInt8} {w : List UInt8} (h : Has t p (c :: w)) : t[p]? = some c ∧ Has t (p + 1) w := by
  refine ⟨by simpa using h 0 (by simp), fun k hk => ?_⟩
  have := h (k + 1) (by simp; omega)
  rw [show p + 1 + k = p + (k + 1) by omega, this]
  rfl
theorem Has.app {t : List UInt8} {p : Nat} {u v : List UInt8} (h : Has t p (u ++ v)) : Has t p u ∧ Has t (p + u.length) v := by
  constructor
  · intro k hk
    rw [h k (by simp; omega), List.getElem?_append_left hk]
  · intro k hk
    rw [show p + u.length + k = p + (u.length + k) by omega, h (u.length + k) (by simp; omega), List.getElem?_append_right (by omega)]
    congr 1
    omega
/-! ### Names -/
/-! ### Of the right form -/
/-! ### Read again -/
/-! ### What is read is of the right form -/
end Go.Proofs.YtnlhioeefmhklaaGreatDoor

/-
  Expressions made tidy: how great they and their texts are; the parts as they are gathered: plain.
-/
namespace Go.Proofs.YtnlhioeefmhklaaGreatDoor
set_option linter.unusedSimpArgs false
set_option linter.unusedVariables false

/-! ### A measure above texts and counts -/
mutual
def bE : Ex → Nat
  | .cst _ => 4
  | .bit s => s.length + 3
  | .rise s => s.length + 4
  | .fall s => s.length + 4
  | .not e => bE e + 1
  | .and l => bEs l + 5
  | .or l => bEs l + 5
def bEs : List Ex → Nat
  | [] => 0
  | e :: l => bE e + bEs l
end
theorem bEs_app : ∀ (a b : List Ex), bEs (a ++ b) = bEs a + bEs b
  | [], b => by simp [bEs]
  | e :: a, b => by simp only [List.cons_append, bEs, bEs_app a b]; omega
theorem bE_pos : ∀ e : Ex, 3 ≤ bE e
  | .not e => by have := bE_pos e; simp only [bE]; omega
  | .cst _ => by simp [bE]
  | .bit _ => by simp [bE]
  | .rise _ => by simp only [bE]; omega
  | .fall _ => by simp only [bE]; omega
  | .and _ => by simp only [bE]; omega
  | .or _ => by simp only [bE]; omega
theorem bEs_len : ∀ l : List Ex, 3 * l.length ≤ bEs l
  | [] => by simp
  | e :: l => by have := bEs_len l; have := bE_pos e; simp only [List.length_cons, bEs]; omega
/-! ### What is parsed is small -/
/-! ### Gathered one by one -/
end Go.Proofs.YtnlhioeefmhklaaGreatDoor

/-
  Parse.
-/
namespace Go.Proofs.YtnlhioeefmhklaaGreatDoor
set_option linter.unusedSimpArgs false
set_option linter.unusedVariables false
open Go.Av

theorem renH_one {r r' : Nat} (h : r ≠ r') (row : Row) : renH r r' (hlst [(r, row)]) = hlst [(r', row.tr (renO r r') (renF r r'))] := by
  funext q
  unfold renH
  by_cases h1 : q = r'
  · subst h1
    simp [hlst, List.lookup]
  · rw [if_neg h1]
    by_cases h2 : q = r
    · subst h2
      simp [hlst, List.lookup, h1, beq_eq_false_iff_ne.2 h1]
    · simp [hlst, List.lookup, h2, beq_eq_false_iff_ne.2 h1, beq_eq_false_iff_ne.2 h2]
end Go.Proofs.YtnlhioeefmhklaaGreatDoor

/-
  How great an expression is: walk, Size.
-/
namespace Go.Proofs.YtnlhioeefmhklaaGreatDoor
set_option linter.unusedSimpArgs false
set_option linter.unusedVariables false
open Go.Av

theorem bEs_take {l : List Ex} {i : Nat} (hi : i < l.length) : bEs (l.take i) + bE l[i] ≤ bEs l := by
  have h1 := bEs_app (l.take i) [l[i]]
  rw [← List.take_succ_eq_append_getElem hi] at h1
  have h2 := bEs_app (l.take (i + 1)) (l.drop (i + 1))
  rw [List.take_append_drop] at h2
  simp only [bEs] at h1
  omega

end Go.Proofs.YtnlhioeefmhklaaGreatDoor

/-
  The document's reader of expressions: a name.
-/
namespace Go.Proofs.YtnlhioeefmhklaaGreatDoor
set_option linter.unusedSimpArgs false
set_option linter.unusedVariables false
open Go.Av

def eR {α : Type} : Rs α → Int
  | .ok _ _ => 0
  | .err c _ _ => c
end Go.Proofs.YtnlhioeefmhklaaGreatDoor

/-
  The document's reader of expressions: rows of parts.
-/
namespace Go.Proofs.YtnlhioeefmhklaaGreatDoor
set_option linter.unusedSimpArgs false
set_option linter.unusedVariables false
open Go.Av

/-! ### Expressions as data, as the document keeps them -/
theorem cells_one {y : D} (h : y.one = true) : valCells (.d y) = some [.d y] := by
  cases y <;> first | (simp [valCells, AV.one, D.one] at h ⊢; done) | (simp [D.one] at h; simp [valCells, AV.one, D.one, h])

/-! ### What comes of reading -/
/-! ### Where a row of parts ends, if it fails -/
end Go.Proofs.YtnlhioeefmhklaaGreatDoor

/-
  The names of an expression: walk, sorted, Names, Edges.
-/
namespace Go.Proofs.YtnlhioeefmhklaaGreatDoor
set_option linter.unusedSimpArgs false
set_option linter.unusedVariables false
open Go.Av

/-- What a contact names; all: bits, too. -/
def nmE (all : Bool) : Ex → List UInt8
  | .bit s => if all then s else []
  | .rise s => s
  | .fall s => s
  | _ => []
def one1 (s : List UInt8) : List (List UInt8) := if s = [] then [] else [s]
mutual
def nmsE (all : Bool) : Ex → List (List UInt8)
  | .not e => nmsE all e
  | .and l => nmsL all l
  | .or l => nmsL all l
  | e => one1 (nmE all e)
def nmsL (all : Bool) : List Ex → List (List UInt8)
  | [] => []
  | e :: l => nmsE all e ++ nmsL all l
end
theorem nmsL_app (all : Bool) : ∀ a b : List Ex, nmsL all (a ++ b) = nmsL all a ++ nmsL all b
  | [], b => rfl
  | e :: a, b => by simp [nmsL, nmsL_app all a b]
theorem nmsL_take (all : Bool) {l : List Ex} {i : Nat} (hi : i < l.length) : nmsL all (l.take (i + 1)) = nmsL all (l.take i) ++ nmsE all l[i] := by
  rw [List.take_succ_eq_append_getElem hi, nmsL_app]
  simp [nmsL]
theorem nms_b (all : Bool) : ∀ (n : Nat) (e : Ex), SizeOf.sizeOf e ≤ n → (nmsE all e).length ≤ bE e
  | 0, e, hn => by cases e <;> simp at hn
  | n + 1, e, hn => by
    have many : ∀ l : List Ex, (∀ x ∈ l, SizeOf.sizeOf x ≤ n) → (nmsL all l).length ≤ bEs l := by
      intro l
      induction l with
      | nil => intro _; simp [nmsL]
      | cons x l ih =>
        intro h
        have a := ih fun y hy => h y (by simp [hy])
        have b := nms_b all n x (h x (by simp))
        simp only [nmsL, bEs, List.length_append]
        omega
    have hone : ∀ s, (one1 s).length ≤ 1 := fun s => by unfold one1; split <;> simp
    have hp := bE_pos e
    cases e with
    | not x => have := nms_b all n x (by simp at hn; omega); simp only [nmsE, bE]; omega
    | and l =>
      have := many l fun x hx => by have := List.sizeOf_lt_of_mem hx; simp only [Ex.and.sizeOf_spec] at hn; omega
      simp only [nmsE, bE]; omega
    | or l =>
      have := many l fun x hx => by have := List.sizeOf_lt_of_mem hx; simp only [Ex.or.sizeOf_spec] at hn; omega
      simp only [nmsE, bE]; omega
    | cst b => have := hone (nmE all (.cst b)); simp only [nmsE]; omega
    | bit s => have := hone (nmE all (.bit s)); simp only [nmsE]; omega
    | rise s => have := hone (nmE all (.rise s)); simp only [nmsE]; omega
    | fall s => have := hone (nmE all (.fall s)); simp only [nmsE]; omega
theorem nms_len (all : Bool) (e : Ex) : (nmsE all e).length ≤ bE e := nms_b all _ e (Nat.le_refl _)
theorem nmsL_len (all : Bool) : ∀ l : List Ex, (nmsL all l).length ≤ bEs l
  | [] => by simp [nmsL]
  | e :: l => by have := nms_len all e; have := nmsL_len all l; simp only [nmsL, bEs, List.length_append]; omega

/-- What is gathered. -/
def nRow (l : List (List UInt8)) : List (Nat × Row) := [(502, .box 101 [.own 503 0 l.length]), (503, .sl 9 1 (l.map fun s => [dS s]))]
def fnOf (all : Bool) : FuncId := if all then 121 else 90
set_option maxHeartbeats 8000000 in
theorem names1_spec (G : Glob) (e : Ex) : PureC Tryz.prog G 121 [dE e] (dS (nmE true e)) := by
  by_cases h1 : ∃ s, e = .bit s
  · obtain ⟨s, rfl⟩ := h1
    rw [dE]
    refine PureC.of_body (tyOf_good _) Tryz.func121 rfl rfl (rs := [.tmp 2]) Tryz.results121 (by simp [Tryz.ntmps121]) fun X => ?_
    simp only [Tryz.ntmps121, List.map]
    refine AW_rg (tyOf_good _) [0] [] (fun _ _ => trivial) fun K' hK' => ?_
    repeat (refine sxf_next fun K2 hK2 => ?_; simp [dNum, dS, pairA, assertA]; (repeat (refine ⟨by omega, ?_⟩)); refine hK2 _ ?_; clear hK2 K2)
    refine sxf_nil (hK' _ ?_)
    refine AW.st (by simp [dNum, dS, pairA, assertA]; rfl) ?_
    clear hK' K'
    refine AW_then fun K1 hK1 => ?_
    refine AW_rg (tyOf_good _) [6] [] (fun _ _ => trivial) fun K' hK' => ?_
    repeat (refine sxf_next fun K2 hK2 => ?_; simp [dNum, dS, pairA, assertA]; (repeat (refine ⟨by omega, ?_⟩)); refine hK2 _ ?_; clear hK2 K2)
    refine sxf_nil (hK' _ ?_)
    refine AW.st (by simp [dNum, dS, pairA, assertA]; rfl) ?_
    clear hK' K'
    refine AW_block ?_
    refine AW_rg (tyOf_good _) [6, 8, 9] [] (fun _ _ => trivial) fun K' hK' => ?_
    repeat (refine sxf_next fun K2 hK2 => ?_; simp [dNum, dS, pairA, assertA]; (repeat (refine ⟨by omega, ?_⟩)); refine hK2 _ ?_; clear hK2 K2)
    refine sxf_nil (hK' _ ?_)
    refine AW.st (by simp [dNum, dS, pairA, assertA]; rfl) ?_
    clear hK' K'
    refine AW_cond true rfl (fun _ => ?_) (fun h => by cases h)
    refine AW_rg (tyOf_good _) [3] [] (fun _ _ => trivial) fun K' hK' => ?_
    repeat (refine sxf_next fun K2 hK2 => ?_; simp [dNum, dS, pairA, assertA]; (repeat (refine ⟨by omega, ?_⟩)); refine hK2 _ ?_; clear hK2 K2)
    refine sxf_nil (hK' _ ?_)
    refine AW.st (by simp [dNum, dS, pairA, assertA]; rfl) ?_
    clear hK' K'
    refine AW_rg (tyOf_good _) [2] [] (fun _ _ => trivial) fun K' hK' => ?_
    repeat (refine sxf_next fun K2 hK2 => ?_; simp [dNum, dS, pairA, assertA]; (repeat (refine ⟨by omega, ?_⟩)); refine hK2 _ ?_; clear hK2 K2)
    refine sxf_nil (hK' _ ?_)
    refine AW.st (by simp [dNum, dS, pairA, assertA]; rfl) ?_
    clear hK' K'
    refine AW_ret ?_
    simp [D.le, D.le.go, takeMap, dNum, dS, pairA, assertA, nmE, dS, D.le_refl]
  by_cases h2 : ∃ s, e = .rise s
  · obtain ⟨s, rfl⟩ := h2
    rw [dE]
    refine PureC.of_body (tyOf_good _) Tryz.func121 rfl rfl (rs := [.tmp 2]) Tryz.results121 (by simp [Tryz.ntmps121]) fun X => ?_
    simp only [Tryz.ntmps121, List.map]
    refine AW_rg (tyOf_good _) [0] [] (fun _ _ => trivial) fun K' hK' => ?_
    repeat (refine sxf_next fun K2 hK2 => ?_; simp [dNum, dS, pairA, assertA]; (repeat (refine ⟨by omega, ?_⟩)); refine hK2 _ ?_; clear hK2 K2)
    refine sxf_nil (hK' _ ?_)
    refine AW.st (by simp [dNum, dS, pairA, assertA]; rfl) ?_
    clear hK' K'
    refine AW_then fun K1 hK1 => ?_
    refine AW_rg (tyOf_good _) [6] [] (fun _ _ => trivial) fun K' hK' => ?_
    repeat (refine sxf_next fun K2 hK2 => ?_; simp [dNum, dS, pairA, assertA]; (repeat (refine ⟨by omega, ?_⟩)); refine hK2 _ ?_; clear hK2 K2)
    refine sxf_nil (hK' _ ?_)
    refine AW.st (by simp [dNum, dS, pairA, assertA]; rfl) ?_
    clear hK' K'
    refine AW_block ?_
    refine AW_rg (tyOf_good _) [6, 8, 9] [] (fun _ _ => trivial) fun K' hK' => ?_
    repeat (refine sxf_next fun K2 hK2 => ?_; simp [dNum, dS, pairA, assertA]; (repeat (refine ⟨by omega, ?_⟩)); refine hK2 _ ?_; clear hK2 K2)
    refine sxf_nil (hK' _ ?_)
    refine AW.st (by simp [dNum, dS, pairA, assertA]; rfl) ?_
    clear hK' K'
    refine AW_cond false rfl (fun h => by cases h) (fun _ => ?_)
    refine AW_rg (tyOf_good _) [6, 12, 13] [] (fun _ _ => trivial) fun K' hK' => ?_
    repeat (refine sxf_next fun K2 hK2 => ?_; simp [dNum, dS, pairA, assertA]; (repeat (refine ⟨by omega, ?_⟩)); refine hK2 _ ?_; clear hK2 K2)
    refine sxf_nil (hK' _ ?_)
    refine AW.st (by simp [dNum, dS, pairA, assertA]; rfl) ?_
    clear hK' K'
    refine AW_cond true rfl (fun _ => ?_) (fun h => by cases h)
    refine AW_rg (tyOf_good _) [4] [] (fun _ _ => trivial) fun K' hK' => ?_
    repeat (refine sxf_next fun K2 hK2 => ?_; simp [dNum, dS, pairA, assertA]; (repeat (refine ⟨by omega, ?_⟩)); refine hK2 _ ?_; clear hK2 K2)
    refine sxf_nil (hK' _ ?_)
    refine AW.st (by simp [dNum, dS, pairA, assertA]; rfl) ?_
    clear hK' K'
    refine AW_rg (tyOf_good _) [2] [] (fun _ _ => trivial) fun K' hK' => ?_
    repeat (refine sxf_next fun K2 hK2 => ?_; simp [dNum, dS, pairA, assertA]; (repeat (refine ⟨by omega, ?_⟩)); refine hK2 _ ?_; clear hK2 K2)
    refine sxf_nil (hK' _ ?_)
    refine AW.st (by simp [dNum, dS, pairA, assertA]; rfl) ?_
    clear hK' K'
    refine AW_ret ?_
    simp [D.le, D.le.go, takeMap, dNum, dS, pairA, assertA, nmE, dS, D.le_refl]
  by_cases h3 : ∃ s, e = .fall s
  · obtain ⟨s, rfl⟩ := h3
    rw [dE]
    refine PureC.of_body (tyOf_good _) Tryz.func121 rfl rfl (rs := [.tmp 2]) Tryz.results121 (by simp [Tryz.ntmps121]) fun X => ?_
    simp only [Tryz.ntmps121, List.map]
    refine AW_rg (tyOf_good _) [0] [] (fun _ _ => trivial) fun K' hK' => ?_
    repeat (refine sxf_next fun K2 hK2 => ?_; simp [dNum, dS, pairA, assertA]; (repeat (refine ⟨by omega, ?_⟩)); refine hK2 _ ?_; clear hK2 K2)
    refine sxf_nil (hK' _ ?_)
    refine AW.st (by simp [dNum, dS, pairA, assertA]; rfl) ?_
    clear hK' K'
    refine AW_then fun K1 hK1 => ?_
    refine AW_rg (tyOf_good _) [6] [] (fun _ _ => trivial) fun K' hK' => ?_
    repeat (refine sxf_next fun K2 hK2 => ?_; simp [dNum, dS, pairA, assertA]; (repeat (refine ⟨by omega, ?_⟩)); refine hK2 _ ?_; clear hK2 K2)
    refine sxf_nil (hK' _ ?_)
    refine AW.st (by simp [dNum, dS, pairA, assertA]; rfl) ?_
    clear hK' K'
    refine AW_block ?_
    refine AW_rg (tyOf_good _) [6, 8, 9] [] (fun _ _ => trivial) fun K' hK' => ?_
    repeat (refine sxf_next fun K2 hK2 => ?_; simp [dNum, dS, pairA, assertA]; (repeat (refine ⟨by omega, ?_⟩)); refine hK2 _ ?_; clear hK2 K2)
    refine sxf_nil (hK' _ ?_)
    refine AW.st (by simp [dNum, dS, pairA, assertA]; rfl) ?_
    clear hK' K'
    refine AW_cond false rfl (fun h => by cases h) (fun _ => ?_)
    refine AW_rg (tyOf_good _) [6, 12, 13] [] (fun _ _ => trivial) fun K' hK' => ?_
    repeat (refine sxf_next fun K2 hK2 => ?_; simp [dNum, dS, pairA, assertA]; (repeat (refine ⟨by omega, ?_⟩)); refine hK2 _ ?_; clear hK2 K2)
    refine sxf_nil (hK' _ ?_)
    refine AW.st (by simp [dNum, dS, pairA, assertA]; rfl) ?_
    clear hK' K'
    refine AW_cond false rfl (fun h => by cases h) (fun _ => ?_)
    refine AW_rg (tyOf_good _) [16, 17] [] (fun _ _ => trivial) fun K' hK' => ?_
    repeat (refine sxf_next fun K2 hK2 => ?_; simp [dNum, dS, pairA, assertA]; (repeat (refine ⟨by omega, ?_⟩)); refine hK2 _ ?_; clear hK2 K2)
    refine sxf_nil (hK' _ ?_)
    refine AW.st (by simp [dNum, dS, pairA, assertA]; rfl) ?_
    clear hK' K'
    refine AW_cond true rfl (fun _ => ?_) (fun h => by cases h)
    refine AW_rg (tyOf_good _) [5] [] (fun _ _ => trivial) fun K' hK' => ?_
    repeat (refine sxf_next fun K2 hK2 => ?_; simp [dNum, dS, pairA, assertA]; (repeat (refine ⟨by omega, ?_⟩)); refine hK2 _ ?_; clear hK2 K2)
    refine sxf_nil (hK' _ ?_)
    refine AW.st (by simp [dNum, dS, pairA, assertA]; rfl) ?_
    clear hK' K'
    refine AW_rg (tyOf_good _) [2] [] (fun _ _ => trivial) fun K' hK' => ?_
    repeat (refine sxf_next fun K2 hK2 => ?_; simp [dNum, dS, pairA, assertA]; (repeat (refine ⟨by omega, ?_⟩)); refine hK2 _ ?_; clear hK2 K2)
    refine sxf_nil (hK' _ ?_)
    refine AW.st (by simp [dNum, dS, pairA, assertA]; rfl) ?_
    clear hK' K'
    refine AW_ret ?_
    simp [D.le, D.le.go, takeMap, dNum, dS, pairA, assertA, nmE, dS, D.le_refl]
  have hk : ∃ t c, dE e = .ifc t c ∧ ¬ t = 143 ∧ ¬ t = 177 ∧ ¬ t = 178 ∧ nmE true e = [] := by
    cases e with
    | bit s => exact absurd ⟨s, rfl⟩ h1
    | rise s => exact absurd ⟨s, rfl⟩ h2
    | fall s => exact absurd ⟨s, rfl⟩ h3
    | cst b => exact ⟨_, _, by rw [dE], by decide, by decide, by decide, rfl⟩
    | not b => exact ⟨_, _, by rw [dE], by decide, by decide, by decide, rfl⟩
    | and b => exact ⟨_, _, by rw [dE], by decide, by decide, by decide, rfl⟩
    | or b => exact ⟨_, _, by rw [dE], by decide, by decide, by decide, rfl⟩
  obtain ⟨t, c, hy, a1, a2, a3, a4⟩ := hk
  rw [a4, hy]
  refine PureC.of_body (tyOf_good _) Tryz.func121 rfl rfl (rs := [.tmp 2]) Tryz.results121 (by simp [Tryz.ntmps121]) fun X => ?_
  simp only [Tryz.ntmps121, List.map]
  refine AW_rg (tyOf_good _) [0] [] (fun _ _ => trivial) fun K' hK' => ?_
  repeat (refine sxf_next fun K2 hK2 => ?_; simp [dNum, dS, pairA, assertA]; (repeat (refine ⟨by omega, ?_⟩)); refine hK2 _ ?_; clear hK2 K2)
  refine sxf_nil (hK' _ ?_)
  refine AW.st (by simp [dNum, dS, pairA, assertA]; rfl) ?_
  clear hK' K'
  refine AW_then fun K1 hK1 => ?_
  refine AW_rg (tyOf_good _) [6] [] (fun _ _ => trivial) fun K' hK' => ?_
  repeat (refine sxf_next fun K2 hK2 => ?_; simp [dNum, dS, pairA, assertA]; (repeat (refine ⟨by omega, ?_⟩)); refine hK2 _ ?_; clear hK2 K2)
  refine sxf_nil (hK' _ ?_)
  refine AW.st (by simp [dNum, dS, pairA, assertA]; rfl) ?_
  clear hK' K'
  refine AW_block ?_
  refine AW_rg (tyOf_good _) [6, 8, 9] [] (fun _ _ => trivial) fun K' hK' => ?_
  repeat (refine sxf_next fun K2 hK2 => ?_; simp [dNum, dS, pairA, assertA, a1]; (repeat (refine ⟨by omega, ?_⟩)); refine hK2 _ ?_; clear hK2 K2)
  refine sxf_nil (hK' _ ?_)
  refine AW.st (by simp [dNum, dS, pairA, assertA, a1]; rfl) ?_
  clear hK' K'
  refine AW_cond false rfl (fun h => by cases h) (fun _ => ?_)
  refine AW_rg (tyOf_good _) [6, 12, 13] [] (fun _ _ => trivial) fun K' hK' => ?_
  repeat (refine sxf_next fun K2 hK2 => ?_; simp [dNum, dS, pairA, assertA, a2]; (repeat (refine ⟨by omega, ?_⟩)); refine hK2 _ ?_; clear hK2 K2)
  refine sxf_nil (hK' _ ?_)
  refine AW.st (by simp [dNum, dS, pairA, assertA, a2]; rfl) ?_
  clear hK' K'
  refine AW_cond false rfl (fun h => by cases h) (fun _ => ?_)
  refine AW_rg (tyOf_good _) [16, 17] [] (fun _ _ => trivial) fun K' hK' => ?_
  repeat (refine sxf_next fun K2 hK2 => ?_; simp [dNum, dS, pairA, assertA, a3]; (repeat (refine ⟨by omega, ?_⟩)); refine hK2 _ ?_; clear hK2 K2)
  refine sxf_nil (hK' _ ?_)
  refine AW.st (by simp [dNum, dS, pairA, assertA, a3]; rfl) ?_
  clear hK' K'
  refine AW_cond false rfl (fun h => by cases h) (fun _ => ?_)
  refine AW_skip (hK1 _ ?_)
  refine AW_rg (tyOf_good _) [2] [] (fun _ _ => trivial) fun K' hK' => ?_
  repeat (refine sxf_next fun K2 hK2 => ?_; simp [dNum, dS, pairA, assertA]; (repeat (refine ⟨by omega, ?_⟩)); refine hK2 _ ?_; clear hK2 K2)
  refine sxf_nil (hK' _ ?_)
  refine AW.st (by simp [dNum, dS, pairA, assertA]; rfl) ?_
  clear hK' K'
  refine AW_ret ?_
  simp [D.le, D.le.go, takeMap, dNum, dS, pairA, assertA, dS, bs_nil, D.le_refl]
set_option maxHeartbeats 8000000 in
theorem edges1_spec (G : Glob) (e : Ex) : PureC Tryz.prog G 90 [dE e] (dS (nmE false e)) := by
  by_cases h2 : ∃ s, e = .rise s
  · obtain ⟨s, rfl⟩ := h2
    rw [dE]
    refine PureC.of_body (tyOf_good _) Tryz.func90 rfl rfl (rs := [.tmp 2]) Tryz.results90 (by simp [Tryz.ntmps90]) fun X => ?_
    simp only [Tryz.ntmps90, List.map]
    refine AW_rg (tyOf_good _) [0] [] (fun _ _ => trivial) fun K' hK' => ?_
    repeat (refine sxf_next fun K2 hK2 => ?_; simp [dNum, dS, pairA, assertA]; (repeat (refine ⟨by omega, ?_⟩)); refine hK2 _ ?_; clear hK2 K2)
    refine sxf_nil (hK' _ ?_)
    refine AW.st (by simp [dNum, dS, pairA, assertA]; rfl) ?_
    clear hK' K'
    refine AW_then fun K1 hK1 => ?_
    refine AW_rg (tyOf_good _) [5] [] (fun _ _ => trivial) fun K' hK' => ?_
    repeat (refine sxf_next fun K2 hK2 => ?_; simp [dNum, dS, pairA, assertA]; (repeat (refine ⟨by omega, ?_⟩)); refine hK2 _ ?_; clear hK2 K2)
    refine sxf_nil (hK' _ ?_)
    refine AW.st (by simp [dNum, dS, pairA, assertA]; rfl) ?_
    clear hK' K'
    refine AW_block ?_
    refine AW_rg (tyOf_good _) [5, 7, 8] [] (fun _ _ => trivial) fun K' hK' => ?_
    repeat (refine sxf_next fun K2 hK2 => ?_; simp [dNum, dS, pairA, assertA]; (repeat (refine ⟨by omega, ?_⟩)); refine hK2 _ ?_; clear hK2 K2)
    refine sxf_nil (hK' _ ?_)
    refine AW.st (by simp [dNum, dS, pairA, assertA]; rfl) ?_
    clear hK' K'
    refine AW_cond true rfl (fun _ => ?_) (fun h => by cases h)
    refine AW_rg (tyOf_good _) [3] [] (fun _ _ => trivial) fun K' hK' => ?_
    repeat (refine sxf_next fun K2 hK2 => ?_; simp [dNum, dS, pairA, assertA]; (repeat (refine ⟨by omega, ?_⟩)); refine hK2 _ ?_; clear hK2 K2)
    refine sxf_nil (hK' _ ?_)
    refine AW.st (by simp [dNum, dS, pairA, assertA]; rfl) ?_
    clear hK' K'
    refine AW_rg (tyOf_good _) [2] [] (fun _ _ => trivial) fun K' hK' => ?_
    repeat (refine sxf_next fun K2 hK2 => ?_; simp [dNum, dS, pairA, assertA]; (repeat (refine ⟨by omega, ?_⟩)); refine hK2 _ ?_; clear hK2 K2)
    refine sxf_nil (hK' _ ?_)
    refine AW.st (by simp [dNum, dS, pairA, assertA]; rfl) ?_
    clear hK' K'
    refine AW_ret ?_
    simp [D.le, D.le.go, takeMap, dNum, dS, pairA, assertA, nmE, dS, D.le_refl]
  by_cases h3 : ∃ s, e = .fall s
  · obtain ⟨s, rfl⟩ := h3
    rw [dE]
    refine PureC.of_body (tyOf_good _) Tryz.func90 rfl rfl (rs := [.tmp 2]) Tryz.results90 (by simp [Tryz.ntmps90]) fun X => ?_
    simp only [Tryz.ntmps90, List.map]
    refine AW_rg (tyOf_good _) [0] [] (fun _ _ => trivial) fun K' hK' => ?_
    repeat (refine sxf_next fun K2 hK2 => ?_; simp [dNum, dS, pairA, assertA]; (repeat (refine ⟨by omega, ?_⟩)); refine hK2 _ ?_; clear hK2 K2)
    refine sxf_nil (hK' _ ?_)
    refine AW.st (by simp [dNum, dS, pairA, assertA]; rfl) ?_
    clear hK' K'
    refine AW_then fun K1 hK1 => ?_
    refine AW_rg (tyOf_good _) [5] [] (fun _ _ => trivial) fun K' hK' => ?_
    repeat (refine sxf_next fun K2 hK2 => ?_; simp [dNum, dS, pairA, assertA]; (repeat (refine ⟨by omega, ?_⟩)); refine hK2 _ ?_; clear hK2 K2)
    refine sxf_nil (hK' _ ?_)
    refine AW.st (by simp [dNum, dS, pairA, assertA]; rfl) ?_
    clear hK' K'
    refine AW_block ?_
    refine AW_rg (tyOf_good _) [5, 7, 8] [] (fun _ _ => trivial) fun K' hK' => ?_
    repeat (refine sxf_next fun K2 hK2 => ?_; simp [dNum, dS, pairA, assertA]; (repeat (refine ⟨by omega, ?_⟩)); refine hK2 _ ?_; clear hK2 K2)
    refine sxf_nil (hK' _ ?_)
    refine AW.st (by simp [dNum, dS, pairA, assertA]; rfl) ?_
    clear hK' K'
    refine AW_cond false rfl (fun h => by cases h) (fun _ => ?_)
    refine AW_rg (tyOf_good _) [11, 12] [] (fun _ _ => trivial) fun K' hK' => ?_
    repeat (refine sxf_next fun K2 hK2 => ?_; simp [dNum, dS, pairA, assertA]; (repeat (refine ⟨by omega, ?_⟩)); refine hK2 _ ?_; clear hK2 K2)
    refine sxf_nil (hK' _ ?_)
    refine AW.st (by simp [dNum, dS, pairA, assertA]; rfl) ?_
    clear hK' K'
    refine AW_cond true rfl (fun _ => ?_) (fun h => by cases h)
    refine AW_rg (tyOf_good _) [4] [] (fun _ _ => trivial) fun K' hK' => ?_
    repeat (refine sxf_next fun K2 hK2 => ?_; simp [dNum, dS, pairA, assertA]; (repeat (refine ⟨by omega, ?_⟩)); refine hK2 _ ?_; clear hK2 K2)
    refine sxf_nil (hK' _ ?_)
    refine AW.st (by simp [dNum, dS, pairA, assertA]; rfl) ?_
    clear hK' K'
    refine AW_rg (tyOf_good _) [2] [] (fun _ _ => trivial) fun K' hK' => ?_
    repeat (refine sxf_next fun K2 hK2 => ?_; simp [dNum, dS, pairA, assertA]; (repeat (refine ⟨by omega, ?_⟩)); refine hK2 _ ?_; clear hK2 K2)
    refine sxf_nil (hK' _ ?_)
    refine AW.st (by simp [dNum, dS, pairA, assertA]; rfl) ?_
    clear hK' K'
    refine AW_ret ?_
    simp [D.le, D.le.go, takeMap, dNum, dS, pairA, assertA, nmE, dS, D.le_refl]
  have hk : ∃ t c, dE e = .ifc t c ∧ ¬ t = 177 ∧ ¬ t = 178 ∧ nmE false e = [] := by
    cases e with
    | rise s => exact absurd ⟨s, rfl⟩ h2
    | fall s => exact absurd ⟨s, rfl⟩ h3
    | cst b => exact ⟨_, _, by rw [dE], by decide, by decide, rfl⟩
    | bit b => exact ⟨_, _, by rw [dE], by decide, by decide, rfl⟩
    | not b => exact ⟨_, _, by rw [dE], by decide, by decide, rfl⟩
    | and b => exact ⟨_, _, by rw [dE], by decide, by decide, rfl⟩
    | or b => exact ⟨_, _, by rw [dE], by decide, by decide, rfl⟩
  obtain ⟨t, c, hy, a2, a3, a4⟩ := hk
  rw [a4, hy]
  refine PureC.of_body (tyOf_good _) Tryz.func90 rfl rfl (rs := [.tmp 2]) Tryz.results90 (by simp [Tryz.ntmps90]) fun X => ?_
  simp only [Tryz.ntmps90, List.map]
  refine AW_rg (tyOf_good _) [0] [] (fun _ _ => trivial) fun K' hK' => ?_
  repeat (refine sxf_next fun K2 hK2 => ?_; simp [dNum, dS, pairA, assertA]; (repeat (refine ⟨by omega, ?_⟩)); refine hK2 _ ?_; clear hK2 K2)
  refine sxf_nil (hK' _ ?_)
  refine AW.st (by simp [dNum, dS, pairA, assertA]; rfl) ?_
  clear hK' K'
  refine AW_then fun K1 hK1 => ?_
  refine AW_rg (tyOf_good _) [5] [] (fun _ _ => trivial) fun K' hK' => ?_
  repeat (refine sxf_next fun K2 hK2 => ?_; simp [dNum, dS, pairA, assertA]; (repeat (refine ⟨by omega, ?_⟩)); refine hK2 _ ?_; clear hK2 K2)
  refine sxf_nil (hK' _ ?_)
  refine AW.st (by simp [dNum, dS, pairA, assertA]; rfl) ?_
  clear hK' K'
  refine AW_block ?_
  refine AW_rg (tyOf_good _) [5, 7, 8] [] (fun _ _ => trivial) fun K' hK' => ?_
  repeat (refine sxf_next fun K2 hK2 => ?_; simp [dNum, dS, pairA, assertA, a2]; (repeat (refine ⟨by omega, ?_⟩)); refine hK2 _ ?_; clear hK2 K2)
  refine sxf_nil (hK' _ ?_)
  refine AW.st (by simp [dNum, dS, pairA, assertA, a2]; rfl) ?_
  clear hK' K'
  refine AW_cond false rfl (fun h => by cases h) (fun _ => ?_)
  refine AW_rg (tyOf_good _) [11, 12] [] (fun _ _ => trivial) fun K' hK' => ?_
  repeat (refine sxf_next fun K2 hK2 => ?_; simp [dNum, dS, pairA, assertA, a3]; (repeat (refine ⟨by omega, ?_⟩)); refine hK2 _ ?_; clear hK2 K2)
  refine sxf_nil (hK' _ ?_)
  refine AW.st (by simp [dNum, dS, pairA, assertA, a3]; rfl) ?_
  clear hK' K'
  refine AW_cond false rfl (fun h => by cases h) (fun _ => ?_)
  refine AW_skip (hK1 _ ?_)
  refine AW_rg (tyOf_good _) [2] [] (fun _ _ => trivial) fun K' hK' => ?_
  repeat (refine sxf_next fun K2 hK2 => ?_; simp [dNum, dS, pairA, assertA]; (repeat (refine ⟨by omega, ?_⟩)); refine hK2 _ ?_; clear hK2 K2)
  refine sxf_nil (hK' _ ?_)
  refine AW.st (by simp [dNum, dS, pairA, assertA]; rfl) ?_
  clear hK' K'
  refine AW_ret ?_
  simp [D.le, D.le.go, takeMap, dNum, dS, pairA, assertA, dS, bs_nil, D.le_refl]
theorem name1_spec (G : Glob) (all : Bool) (e : Ex) : PureC Tryz.prog G (fnOf all) [dE e] (dS (nmE all e)) := by
  cases all with
  | true => exact names1_spec G e
  | false => exact edges1_spec G e

set_option maxHeartbeats 8000000 in
theorem gather_spec (G : Glob) (all : Bool) (l : List (List UInt8)) (e : Ex) (hl : l.length < 2^40) : MC Tryz.prog G [502] 126 ([.d (dE e)] ++ [.d (.ip [.fn (.func (fnOf all)) []]), .ref 502 0 0]) (hlst (nRow l)) (.d (.tup [])) (hlst (nRow (l ++ one1 (nmE all e)))) := by
  have hn := name1_spec G all e
  obtain ⟨t, c, hx⟩ := dE_ifc e
  rw [hx] at hn ⊢
  generalize fnOf all = g at hn ⊢
  generalize nmE all e = s at hn ⊢
  by_cases hs : s = []
  · subst hs
    have he : l ++ one1 [] = l := by simp [one1]
    rw [he]
    refine MC.of_body (tyOf_good _) Tryz.func126 rfl rfl (rs := []) Tryz.results126 (by simp [Tryz.ntmps126]) rfl fun X => ?_
    simp only [Tryz.ntmps126]
    refine AW_rg (tyOf_good _) [2, 4] [502, 503] (notIn_ok rfl) fun K' hK' => ?_
    repeat (refine sxf_next fun K2 hK2 => ?_; simp [dNum, dS, nRow]; (repeat (refine ⟨by omega, ?_⟩)); refine hK2 _ ?_; clear hK2 K2)
    refine sxf_next fun K2 hK2 => ?_
    simp [dNum, dS, nRow]
    refine callK.data (hn) (by simp; rfl) (by first | exact D.leGo_refl _ | simp [takeMap, List.map_map, Function.comp_def, D.le, D.le.go, D.le_refl, D.leGo_refl, dNum, dS, nRow]) ?_
    refine hK2 _ ?_
    clear hK2 K2
    simp only [putd, upd_lst]
    repeat (refine sxf_next fun K2 hK2 => ?_; simp [dNum, dS, nRow]; (repeat (refine ⟨by omega, ?_⟩)); refine hK2 _ ?_; clear hK2 K2)
    refine sxf_nil (hK' _ ?_)
    refine AW.st (by simp [dNum, dS, nRow]; rfl) ?_
    clear hK' K'
    refine AW_rg (tyOf_good _) [2, 4, 9] [502, 503] (notIn_ok rfl) fun K' hK' => ?_
    repeat (refine sxf_next fun K2 hK2 => ?_; simp [dNum, dS, nRow, binS, bs_list, bs_nil]; (repeat (refine ⟨by omega, ?_⟩)); refine hK2 _ ?_; clear hK2 K2)
    refine sxf_nil (hK' _ ?_)
    refine AW.st (by simp [dNum, dS, nRow, binS, bs_list, bs_nil]; rfl) ?_
    clear hK' K'
    refine AW_cond false rfl (fun h => by cases h) (fun _ => ?_)
    refine AW_skip ?_
    simp [D.le_refl, nRow, dS]
  · have he : one1 s = [s] := by unfold one1; rw [if_neg hs]
    have hse : s.isEmpty = false := by rw [List.isEmpty_eq_false_iff]; exact hs
    have hsb : (s == []) = false := by simpa using hs
    rw [he]
    refine MC.of_body (tyOf_good _) Tryz.func126 rfl rfl (rs := []) Tryz.results126 (by simp [Tryz.ntmps126]) rfl fun X => ?_
    simp only [Tryz.ntmps126]
    refine AW_rg (tyOf_good _) [2, 4] [502, 503] (notIn_ok rfl) fun K' hK' => ?_
    repeat (refine sxf_next fun K2 hK2 => ?_; simp [dNum, dS, nRow]; (repeat (refine ⟨by omega, ?_⟩)); refine hK2 _ ?_; clear hK2 K2)
    refine sxf_next fun K2 hK2 => ?_
    simp [dNum, dS, nRow]
    refine callK.data (hn) (by simp; rfl) (by first | exact D.leGo_refl _ | simp [takeMap, List.map_map, Function.comp_def, D.le, D.le.go, D.le_refl, D.leGo_refl, dNum, dS, nRow]) ?_
    refine hK2 _ ?_
    clear hK2 K2
    simp only [putd, upd_lst]
    repeat (refine sxf_next fun K2 hK2 => ?_; simp [dNum, dS, nRow]; (repeat (refine ⟨by omega, ?_⟩)); refine hK2 _ ?_; clear hK2 K2)
    refine sxf_nil (hK' _ ?_)
    refine AW.st (by simp [dNum, dS, nRow]; rfl) ?_
    clear hK' K'
    refine AW_rg (tyOf_good _) [2, 4, 9] [502, 503] (notIn_ok rfl) fun K' hK' => ?_
    repeat (refine sxf_next fun K2 hK2 => ?_; simp [dNum, dS, nRow, binS, bs_list, bs_nil, hs, hse, hsb]; (repeat (refine ⟨by omega, ?_⟩)); refine hK2 _ ?_; clear hK2 K2)
    refine sxf_nil (hK' _ ?_)
    refine AW.st (by simp [dNum, dS, nRow, binS, bs_list, bs_nil, hs, hse, hsb]; rfl) ?_
    clear hK' K'
    refine AW_cond true rfl (fun _ => ?_) (fun h => by cases h)
    refine AW_re (tyOf_good _) fun K' hK' => ?_
    repeat (refine sxf_next fun K2 hK2 => ?_; simp [dNum, dS, nRow, List.take_of_length_le]; (repeat (refine ⟨by omega, ?_⟩)); refine hK2 _ ?_; clear hK2 K2)
    refine sxf_nil (hK' _ ?_)
    clear hK' K'
    try simp only [thn, inb]
    simp [D.le_refl, nRow, dS]

set_option maxHeartbeats 16000000 in
theorem walkN_at (G : Glob) (all : Bool) : ∀ (m : Nat) (e : Ex), SizeOf.sizeOf e ≤ m → ∀ l0 : List (List UInt8), l0.length + bE e ≤ 2^39 → MC Tryz.prog G [502] 125 [.d (dE e), .fn (.func 126) [.d (.ip [.fn (.func (fnOf all)) []]), .ref 502 0 0]] (hlst (nRow l0)) (.d (.tup [])) (hlst (nRow (l0 ++ nmsE all e))) := by
  intro m
  induction m with
  | zero => intro e hsz; cases e <;> simp at hsz
  | succ m ih =>
    intro e hsz l0 hb
    have hbp := bE_pos e
    by_cases hN : ∃ x, e = .not x
    · obtain ⟨x, rfl⟩ := hN
      simp only [bE] at hb
      obtain ⟨tx, cx, hx⟩ := dE_ifc x
      have hs1 := gather_spec G all l0 (.not x) (by omega)
      have hnil : one1 (nmE all (.not x)) = [] := rfl
      rw [hnil, List.append_nil, List.singleton_append] at hs1
      have hc := ih x (by simp at hsz; omega) l0 (by omega)
      rw [nmsE]
      rw [dE, hx]
      rw [dE, hx] at hs1
      rw [hx] at hc
      generalize l0 ++ nmsE all x = l1 at hc ⊢
      generalize fnOf all = g at hc hs1 ⊢
      refine MC.of_body (tyOf_good _) Tryz.func125 rfl rfl (rs := []) Tryz.results125 (by simp [Tryz.ntmps125]) rfl fun X => ?_
      simp only [Tryz.ntmps125]
      refine AW_rg (tyOf_good _) [0, 1] [502, 503] (notIn_ok rfl) fun K' hK' => ?_
      repeat (refine sxf_next fun K2 hK2 => ?_; simp [dNum, dS, nRow, pairA, assertA]; (repeat (refine ⟨by omega, ?_⟩)); refine hK2 _ ?_; clear hK2 K2)
      refine sxf_next fun K2 hK2 => ?_
      simp [dNum, dS, nRow, pairA, assertA]
      refine callK.mc (hs1) (by simp [dNum, dS, nRow, pairA, assertA]) (by simp [dNum, dS, nRow, pairA, assertA]) (by simp [dNum, dS, nRow, pairA, assertA]) (by simp [dNum, dS, nRow, pairA, assertA]) ?_
      simp [dNum, dS, nRow, pairA, assertA]
      refine hK2 _ ?_
      clear hK2 K2
      repeat (refine sxf_next fun K2 hK2 => ?_; simp [dNum, dS, nRow, pairA, assertA]; (repeat (refine ⟨by omega, ?_⟩)); refine hK2 _ ?_; clear hK2 K2)
      refine sxf_nil (hK' _ ?_)
      refine AW.st (by simp [dNum, dS, nRow, pairA, assertA]; rfl) ?_
      clear hK' K'
      refine AW_rg (tyOf_good _) [1, 14] [502, 503] (notIn_ok rfl) fun K' hK' => ?_
      repeat (refine sxf_next fun K2 hK2 => ?_; simp [dNum, dS, nRow, pairA, assertA]; (repeat (refine ⟨by omega, ?_⟩)); refine hK2 _ ?_; clear hK2 K2)
      refine sxf_nil (hK' _ ?_)
      refine AW.st (by simp [dNum, dS, nRow, pairA, assertA]; rfl) ?_
      clear hK' K'
      refine AW_block ?_
      refine AW_rg (tyOf_good _) [1, 14, 16, 17] [502, 503] (notIn_ok rfl) fun K' hK' => ?_
      repeat (refine sxf_next fun K2 hK2 => ?_; simp [dNum, dS, nRow, pairA, assertA]; (repeat (refine ⟨by omega, ?_⟩)); refine hK2 _ ?_; clear hK2 K2)
      refine sxf_nil (hK' _ ?_)
      refine AW.st (by simp [dNum, dS, nRow, pairA, assertA]; rfl) ?_
      clear hK' K'
      refine AW_cond true rfl (fun _ => ?_) (fun h => by cases h)
      refine AW_rg (tyOf_good _) [1, 4] [4, 502, 503] (notIn_ok rfl) fun K' hK' => ?_
      repeat (refine sxf_next fun K2 hK2 => ?_; simp [dNum, dS, nRow, pairA, assertA]; (repeat (refine ⟨by omega, ?_⟩)); refine hK2 _ ?_; clear hK2 K2)
      refine sxf_nil (hK' _ ?_)
      refine AW.st (by simp [dNum, dS, nRow, pairA, assertA]; rfl) ?_
      clear hK' K'
      refine AW_re (tyOf_good _) fun K' hK' => ?_
      repeat (refine sxf_next fun K2 hK2 => ?_; simp [dNum, dS, nRow, pairA, assertA]; (repeat (refine ⟨by omega, ?_⟩)); refine hK2 _ ?_; clear hK2 K2)
      refine sxf_next fun K2 hK2 => ?_
      simp [dNum, dS, nRow, pairA, assertA]
      refine callK.mc (hc) (by simp [dNum, dS, nRow, pairA, assertA]) (by simp [dNum, dS, nRow, pairA, assertA]) (by simp [dNum, dS, nRow, pairA, assertA]) (by simp [dNum, dS, nRow, pairA, assertA]) ?_
      simp [dNum, dS, nRow, pairA, assertA]
      refine hK2 _ ?_
      clear hK2 K2
      repeat (refine sxf_next fun K2 hK2 => ?_; simp [dNum, dS, nRow, pairA, assertA]; (repeat (refine ⟨by omega, ?_⟩)); refine hK2 _ ?_; clear hK2 K2)
      refine sxf_nil (hK' _ ?_)
      clear hK' K'
      try simp only [thn, inb]
      simp [D.le_refl, nRow, dS]
    by_cases hand : ∃ l, e = .and l
    · obtain ⟨l, rfl⟩ := hand
      simp only [bE] at hb
      have hs1 := gather_spec G all l0 (.and l) (by omega)
      have hnil : one1 (nmE all (.and l)) = [] := rfl
      rw [hnil, List.append_nil, List.singleton_append] at hs1
      have hch := fun (x : Ex) (hx : x ∈ l) => ih x (by have := List.sizeOf_lt_of_mem hx; simp only [Ex.and.sizeOf_spec] at hsz; omega)
      have hln := bEs_len l
      rw [nmsE]
      rw [dE, dEs_map]
      rw [dE, dEs_map] at hs1
      clear ih
      generalize hg : fnOf all = g at hch hs1 ⊢
      refine MC.of_body (tyOf_good _) Tryz.func125 rfl rfl (rs := []) Tryz.results125 (by simp [Tryz.ntmps125]) rfl fun X => ?_
      simp only [Tryz.ntmps125]
      refine AW_rg (tyOf_good _) [0, 1] [502, 503] (notIn_ok rfl) fun K' hK' => ?_
      repeat (refine sxf_next fun K2 hK2 => ?_; simp [dNum, dS, nRow, pairA, assertA]; (repeat (refine ⟨by omega, ?_⟩)); refine hK2 _ ?_; clear hK2 K2)
      refine sxf_next fun K2 hK2 => ?_
      simp [dNum, dS, nRow, pairA, assertA]
      refine callK.mc (hs1) (by simp [dNum, dS, nRow, pairA, assertA]) (by simp [dNum, dS, nRow, pairA, assertA]) (by simp [dNum, dS, nRow, pairA, assertA]) (by simp [dNum, dS, nRow, pairA, assertA]) ?_
      simp [dNum, dS, nRow, pairA, assertA]
      refine hK2 _ ?_
      clear hK2 K2
      repeat (refine sxf_next fun K2 hK2 => ?_; simp [dNum, dS, nRow, pairA, assertA]; (repeat (refine ⟨by omega, ?_⟩)); refine hK2 _ ?_; clear hK2 K2)
      refine sxf_nil (hK' _ ?_)
      refine AW.st (by simp [dNum, dS, nRow, pairA, assertA]; rfl) ?_
      clear hK' K'
      refine AW_rg (tyOf_good _) [1, 14] [502, 503] (notIn_ok rfl) fun K' hK' => ?_
      repeat (refine sxf_next fun K2 hK2 => ?_; simp [dNum, dS, nRow, pairA, assertA]; (repeat (refine ⟨by omega, ?_⟩)); refine hK2 _ ?_; clear hK2 K2)
      refine sxf_nil (hK' _ ?_)
      refine AW.st (by simp [dNum, dS, nRow, pairA, assertA]; rfl) ?_
      clear hK' K'
      refine AW_block ?_
      refine AW_rg (tyOf_good _) [1, 14, 16, 17] [502, 503] (notIn_ok rfl) fun K' hK' => ?_
      repeat (refine sxf_next fun K2 hK2 => ?_; simp [dNum, dS, nRow, pairA, assertA]; (repeat (refine ⟨by omega, ?_⟩)); refine hK2 _ ?_; clear hK2 K2)
      refine sxf_nil (hK' _ ?_)
      refine AW.st (by simp [dNum, dS, nRow, pairA, assertA]; rfl) ?_
      clear hK' K'
      refine AW_cond false rfl (fun h => by cases h) (fun _ => ?_)
      refine AW_rg (tyOf_good _) [1, 14, 23, 24] [502, 503] (notIn_ok rfl) fun K' hK' => ?_
      repeat (refine sxf_next fun K2 hK2 => ?_; simp [dNum, dS, nRow, pairA, assertA]; (repeat (refine ⟨by omega, ?_⟩)); refine hK2 _ ?_; clear hK2 K2)
      refine sxf_nil (hK' _ ?_)
      refine AW.st (by simp [dNum, dS, nRow, pairA, assertA]; rfl) ?_
      clear hK' K'
      refine AW_cond true rfl (fun _ => ?_) (fun h => by cases h)
      refine AW_rg (tyOf_good _) [1, 5] [502, 503] (notIn_ok rfl) fun K' hK' => ?_
      repeat (refine sxf_next fun K2 hK2 => ?_; simp [dNum, dS, nRow, pairA, assertA]; (repeat (refine ⟨by omega, ?_⟩)); refine hK2 _ ?_; clear hK2 K2)
      refine sxf_nil (hK' _ ?_)
      refine AW.st (by simp [dNum, dS, nRow, pairA, assertA]; rfl) ?_
      clear hK' K'
      refine AW_rg (tyOf_good _) [1, 25, 26, 27] [502, 503] (notIn_ok rfl) fun K' hK' => ?_
      repeat (refine sxf_next fun K2 hK2 => ?_; simp [dNum, dS, nRow, pairA, assertA]; (repeat (refine ⟨by omega, ?_⟩)); refine hK2 _ ?_; clear hK2 K2)
      refine sxf_nil (hK' _ ?_)
      refine AW.st (by simp [dNum, dS, nRow, pairA, assertA]; rfl) ?_
      clear hK' K'
      refine AW_for (S := Nat) (fun i => i ≤ l.length) (fun i => ⟨lst [(1, .fn (.func 126) [.d (.ip [.fn (.func g) []]), .ref 502 0 0]), (25, .d (.sl none (l.map fun e => [dE e]))), (26, int l.length), (27, int i)], hlst (nRow (l0 ++ nmsL all (l.take i)))⟩) (fun i => l.length - i) 0 ?_ (by omega) ?_
      · refine Imp.to' (notIn_ok rfl) (by simp [dNum, dS, nRow, pairA, assertA, nmsL]) (by simp [dNum, dS, nRow, pairA, assertA, nmsL])
      · intro i hi
        refine AW_rg (tyOf_good _) [1, 25, 26, 27, 28] [502, 503] (notIn_ok rfl) fun K' hK' => ?_
        repeat (refine sxf_next fun K2 hK2 => ?_; simp [dNum, dS, nRow, pairA, assertA]; (repeat (refine ⟨by omega, ?_⟩)); refine hK2 _ ?_; clear hK2 K2)
        refine sxf_nil (hK' _ ?_)
        refine AW.st (by simp [dNum, dS, nRow, pairA, assertA]; rfl) ?_
        clear hK' K'
        refine AW_then fun K1 hK1 => ?_
        refine AW_cond' (b := i < l.length) (by simp [D.le, D.le.go, takeMap, dNum, dS, nRow, pairA, assertA]) (fun hc => ?_) (fun hc => ?_)
        · have hil : i < l.length := hc
          have h1 := nmsL_take all hil
          have h2 := nmsL_len all (l.take i)
          have h3 := bEs_take hil
          have hcc := hch _ (List.getElem_mem hil) (l0 ++ nmsL all (l.take i)) (by rw [List.length_append]; omega)
          rw [List.append_assoc, ← h1] at hcc
          obtain ⟨tx, cx, hx⟩ := dE_ifc l[i]
          rw [hx] at hcc
          refine AW_skip (hK1 _ ?_)
          refine AW_then fun K2 hK2 => ?_
          refine AW_block ?_
          refine AW_rg (tyOf_good _) [1, 7, 25, 26, 27] [502, 503] (notIn_ok rfl) fun K' hK' => ?_
          repeat (refine sxf_next fun K2 hK2 => ?_; simp [dNum, dS, nRow, pairA, assertA, hil, hx]; (repeat (refine ⟨by omega, ?_⟩)); refine hK2 _ ?_; clear hK2 K2)
          refine sxf_nil (hK' _ ?_)
          refine AW.st (by simp [dNum, dS, nRow, pairA, assertA, hil, hx]; rfl) ?_
          clear hK' K'
          refine AW_re (tyOf_good _) fun K' hK' => ?_
          repeat (refine sxf_next fun K2 hK2 => ?_; simp [dNum, dS, nRow, pairA, assertA]; (repeat (refine ⟨by omega, ?_⟩)); refine hK2 _ ?_; clear hK2 K2)
          refine sxf_next fun K2 hK2 => ?_
          simp [dNum, dS, nRow, pairA, assertA]
          refine callK.mc (hcc) (by simp [dNum, dS, nRow, pairA, assertA]) (by simp [dNum, dS, nRow, pairA, assertA]) (by simp [dNum, dS, nRow, pairA, assertA]) (by simp [dNum, dS, nRow, pairA, assertA]) ?_
          simp [dNum, dS, nRow, pairA, assertA]
          refine hK2 _ ?_
          clear hK2 K2
          repeat (refine sxf_next fun K2 hK2 => ?_; simp [dNum, dS, nRow, pairA, assertA]; (repeat (refine ⟨by omega, ?_⟩)); refine hK2 _ ?_; clear hK2 K2)
          refine sxf_nil (hK' _ ?_)
          clear hK' K'
          refine hK2 _ (AW.norm [1, 25, 26, 27] [502, 503] (notIn_ok rfl) (AW.st (by simp [dNum, dS, nRow, pairA, assertA]; rfl) ?_))
          refine AW_re (tyOf_good _) fun K' hK' => ?_
          repeat (refine sxf_next fun K2 hK2 => ?_; simp [dNum, dS, nRow, pairA, assertA]; (repeat (refine ⟨by omega, ?_⟩)); refine hK2 _ ?_; clear hK2 K2)
          refine sxf_nil (hK' _ ?_)
          clear hK' K'
          try simp only [thn, inb]
          refine Again.mk (i + 1) (by omega) (by omega) ?_
          refine Imp.to' (notIn_ok rfl) (by simp [dNum, dS, nRow, pairA, assertA]) (by simp [dNum, dS, nRow, pairA, assertA])
        · obtain rfl : i = l.length := by omega
          refine AW_exit ?_
          simp [D.le_refl, List.take_length, nRow, dS]
    by_cases hor : ∃ l, e = .or l
    · obtain ⟨l, rfl⟩ := hor
      simp only [bE] at hb
      have hs1 := gather_spec G all l0 (.or l) (by omega)
      have hnil : one1 (nmE all (.or l)) = [] := rfl
      rw [hnil, List.append_nil, List.singleton_append] at hs1
      have hch := fun (x : Ex) (hx : x ∈ l) => ih x (by have := List.sizeOf_lt_of_mem hx; simp only [Ex.or.sizeOf_spec] at hsz; omega)
      have hln := bEs_len l
      rw [nmsE]
      rw [dE, dEs_map]
      rw [dE, dEs_map] at hs1
      clear ih
      generalize hg : fnOf all = g at hch hs1 ⊢
      refine MC.of_body (tyOf_good _) Tryz.func125 rfl rfl (rs := []) Tryz.results125 (by simp [Tryz.ntmps125]) rfl fun X => ?_
      simp only [Tryz.ntmps125]
      refine AW_rg (tyOf_good _) [0, 1] [502, 503] (notIn_ok rfl) fun K' hK' => ?_
      repeat (refine sxf_next fun K2 hK2 => ?_; simp [dNum, dS, nRow, pairA, assertA]; (repeat (refine ⟨by omega, ?_⟩)); refine hK2 _ ?_; clear hK2 K2)
      refine sxf_next fun K2 hK2 => ?_
      simp [dNum, dS, nRow, pairA, assertA]
      refine callK.mc (hs1) (by simp [dNum, dS, nRow, pairA, assertA]) (by simp [dNum, dS, nRow, pairA, assertA]) (by simp [dNum, dS, nRow, pairA, assertA]) (by simp [dNum, dS, nRow, pairA, assertA]) ?_
      simp [dNum, dS, nRow, pairA, assertA]
      refine hK2 _ ?_
      clear hK2 K2
      repeat (refine sxf_next fun K2 hK2 => ?_; simp [dNum, dS, nRow, pairA, assertA]; (repeat (refine ⟨by omega, ?_⟩)); refine hK2 _ ?_; clear hK2 K2)
      refine sxf_nil (hK' _ ?_)
      refine AW.st (by simp [dNum, dS, nRow, pairA, assertA]; rfl) ?_
      clear hK' K'
      refine AW_rg (tyOf_good _) [1, 14] [502, 503] (notIn_ok rfl) fun K' hK' => ?_
      repeat (refine sxf_next fun K2 hK2 => ?_; simp [dNum, dS, nRow, pairA, assertA]; (repeat (refine ⟨by omega, ?_⟩)); refine hK2 _ ?_; clear hK2 K2)
      refine sxf_nil (hK' _ ?_)
      refine AW.st (by simp [dNum, dS, nRow, pairA, assertA]; rfl) ?_
      clear hK' K'
      refine AW_block ?_
      refine AW_rg (tyOf_good _) [1, 14, 16, 17] [502, 503] (notIn_ok rfl) fun K' hK' => ?_
      repeat (refine sxf_next fun K2 hK2 => ?_; simp [dNum, dS, nRow, pairA, assertA]; (repeat (refine ⟨by omega, ?_⟩)); refine hK2 _ ?_; clear hK2 K2)
      refine sxf_nil (hK' _ ?_)
      refine AW.st (by simp [dNum, dS, nRow, pairA, assertA]; rfl) ?_
      clear hK' K'
      refine AW_cond false rfl (fun h => by cases h) (fun _ => ?_)
      refine AW_rg (tyOf_good _) [1, 14, 23, 24] [502, 503] (notIn_ok rfl) fun K' hK' => ?_
      repeat (refine sxf_next fun K2 hK2 => ?_; simp [dNum, dS, nRow, pairA, assertA]; (repeat (refine ⟨by omega, ?_⟩)); refine hK2 _ ?_; clear hK2 K2)
      refine sxf_nil (hK' _ ?_)
      refine AW.st (by simp [dNum, dS, nRow, pairA, assertA]; rfl) ?_
      clear hK' K'
      refine AW_cond false rfl (fun h => by cases h) (fun _ => ?_)
      refine AW_rg (tyOf_good _) [1, 36, 37] [502, 503] (notIn_ok rfl) fun K' hK' => ?_
      repeat (refine sxf_next fun K2 hK2 => ?_; simp [dNum, dS, nRow, pairA, assertA]; (repeat (refine ⟨by omega, ?_⟩)); refine hK2 _ ?_; clear hK2 K2)
      refine sxf_nil (hK' _ ?_)
      refine AW.st (by simp [dNum, dS, nRow, pairA, assertA]; rfl) ?_
      clear hK' K'
      refine AW_cond true rfl (fun _ => ?_) (fun h => by cases h)
      refine AW_rg (tyOf_good _) [1, 8] [502, 503] (notIn_ok rfl) fun K' hK' => ?_
      repeat (refine sxf_next fun K2 hK2 => ?_; simp [dNum, dS, nRow, pairA, assertA]; (repeat (refine ⟨by omega, ?_⟩)); refine hK2 _ ?_; clear hK2 K2)
      refine sxf_nil (hK' _ ?_)
      refine AW.st (by simp [dNum, dS, nRow, pairA, assertA]; rfl) ?_
      clear hK' K'
      refine AW_rg (tyOf_good _) [1, 38, 39, 40] [502, 503] (notIn_ok rfl) fun K' hK' => ?_
      repeat (refine sxf_next fun K2 hK2 => ?_; simp [dNum, dS, nRow, pairA, assertA]; (repeat (refine ⟨by omega, ?_⟩)); refine hK2 _ ?_; clear hK2 K2)
      refine sxf_nil (hK' _ ?_)
      refine AW.st (by simp [dNum, dS, nRow, pairA, assertA]; rfl) ?_
      clear hK' K'
      refine AW_for (S := Nat) (fun i => i ≤ l.length) (fun i => ⟨lst [(1, .fn (.func 126) [.d (.ip [.fn (.func g) []]), .ref 502 0 0]), (38, .d (.sl none (l.map fun e => [dE e]))), (39, int l.length), (40, int i)], hlst (nRow (l0 ++ nmsL all (l.take i)))⟩) (fun i => l.length - i) 0 ?_ (by omega) ?_
      · refine Imp.to' (notIn_ok rfl) (by simp [dNum, dS, nRow, pairA, assertA, nmsL]) (by simp [dNum, dS, nRow, pairA, assertA, nmsL])
      · intro i hi
        refine AW_rg (tyOf_good _) [1, 38, 39, 40, 41] [502, 503] (notIn_ok rfl) fun K' hK' => ?_
        repeat (refine sxf_next fun K2 hK2 => ?_; simp [dNum, dS, nRow, pairA, assertA]; (repeat (refine ⟨by omega, ?_⟩)); refine hK2 _ ?_; clear hK2 K2)
        refine sxf_nil (hK' _ ?_)
        refine AW.st (by simp [dNum, dS, nRow, pairA, assertA]; rfl) ?_
        clear hK' K'
        refine AW_then fun K1 hK1 => ?_
        refine AW_cond' (b := i < l.length) (by simp [D.le, D.le.go, takeMap, dNum, dS, nRow, pairA, assertA]) (fun hc => ?_) (fun hc => ?_)
        · have hil : i < l.length := hc
          have h1 := nmsL_take all hil
          have h2 := nmsL_len all (l.take i)
          have h3 := bEs_take hil
          have hcc := hch _ (List.getElem_mem hil) (l0 ++ nmsL all (l.take i)) (by rw [List.length_append]; omega)
          rw [List.append_assoc, ← h1] at hcc
          obtain ⟨tx, cx, hx⟩ := dE_ifc l[i]
          rw [hx] at hcc
          refine AW_skip (hK1 _ ?_)
          refine AW_then fun K2 hK2 => ?_
          refine AW_block ?_
          refine AW_rg (tyOf_good _) [1, 10, 38, 39, 40] [502, 503] (notIn_ok rfl) fun K' hK' => ?_
          repeat (refine sxf_next fun K2 hK2 => ?_; simp [dNum, dS, nRow, pairA, assertA, hil, hx]; (repeat (refine ⟨by omega, ?_⟩)); refine hK2 _ ?_; clear hK2 K2)
          refine sxf_nil (hK' _ ?_)
          refine AW.st (by simp [dNum, dS, nRow, pairA, assertA, hil, hx]; rfl) ?_
          clear hK' K'
          refine AW_re (tyOf_good _) fun K' hK' => ?_
          repeat (refine sxf_next fun K2 hK2 => ?_; simp [dNum, dS, nRow, pairA, assertA]; (repeat (refine ⟨by omega, ?_⟩)); refine hK2 _ ?_; clear hK2 K2)
          refine sxf_next fun K2 hK2 => ?_
          simp [dNum, dS, nRow, pairA, assertA]
          refine callK.mc (hcc) (by simp [dNum, dS, nRow, pairA, assertA]) (by simp [dNum, dS, nRow, pairA, assertA]) (by simp [dNum, dS, nRow, pairA, assertA]) (by simp [dNum, dS, nRow, pairA, assertA]) ?_
          simp [dNum, dS, nRow, pairA, assertA]
          refine hK2 _ ?_
          clear hK2 K2
          repeat (refine sxf_next fun K2 hK2 => ?_; simp [dNum, dS, nRow, pairA, assertA]; (repeat (refine ⟨by omega, ?_⟩)); refine hK2 _ ?_; clear hK2 K2)
          refine sxf_nil (hK' _ ?_)
          clear hK' K'
          refine hK2 _ (AW.norm [1, 38, 39, 40] [502, 503] (notIn_ok rfl) (AW.st (by simp [dNum, dS, nRow, pairA, assertA]; rfl) ?_))
          refine AW_re (tyOf_good _) fun K' hK' => ?_
          repeat (refine sxf_next fun K2 hK2 => ?_; simp [dNum, dS, nRow, pairA, assertA]; (repeat (refine ⟨by omega, ?_⟩)); refine hK2 _ ?_; clear hK2 K2)
          refine sxf_nil (hK' _ ?_)
          clear hK' K'
          try simp only [thn, inb]
          refine Again.mk (i + 1) (by omega) (by omega) ?_
          refine Imp.to' (notIn_ok rfl) (by simp [dNum, dS, nRow, pairA, assertA]) (by simp [dNum, dS, nRow, pairA, assertA])
        · obtain rfl : i = l.length := by omega
          refine AW_exit ?_
          simp [D.le_refl, List.take_length, nRow, dS]
    have hk : ∃ t c, dE e = .ifc t c ∧ ¬ t = 145 ∧ ¬ t = 198 ∧ ¬ t = 199 ∧ nmsE all e = one1 (nmE all e) := by
      cases e with
      | not z => exact absurd ⟨z, rfl⟩ hN
      | and l => exact absurd ⟨l, rfl⟩ hand
      | or l => exact absurd ⟨l, rfl⟩ hor
      | cst b => exact ⟨_, _, by rw [dE], by decide, by decide, by decide, rfl⟩
      | bit s => exact ⟨_, _, by rw [dE], by decide, by decide, by decide, rfl⟩
      | rise s => exact ⟨_, _, by rw [dE], by decide, by decide, by decide, rfl⟩
      | fall s => exact ⟨_, _, by rw [dE], by decide, by decide, by decide, rfl⟩
    obtain ⟨t, c, hy, h1, h2, h3, h4⟩ := hk
    have hs1 := gather_spec G all l0 e (by omega)
    rw [List.singleton_append] at hs1
    rw [h4, hy]
    rw [hy] at hs1
    generalize l0 ++ one1 (nmE all e) = l1 at hs1 ⊢
    generalize fnOf all = g at hs1 ⊢
    refine MC.of_body (tyOf_good _) Tryz.func125 rfl rfl (rs := []) Tryz.results125 (by simp [Tryz.ntmps125]) rfl fun X => ?_
    simp only [Tryz.ntmps125]
    refine AW_rg (tyOf_good _) [0, 1] [502, 503] (notIn_ok rfl) fun K' hK' => ?_
    repeat (refine sxf_next fun K2 hK2 => ?_; simp [dNum, dS, nRow, pairA, assertA]; (repeat (refine ⟨by omega, ?_⟩)); refine hK2 _ ?_; clear hK2 K2)
    refine sxf_next fun K2 hK2 => ?_
    simp [dNum, dS, nRow, pairA, assertA]
    refine callK.mc (hs1) (by simp [dNum, dS, nRow, pairA, assertA]) (by simp [dNum, dS, nRow, pairA, assertA]) (by simp [dNum, dS, nRow, pairA, assertA]) (by simp [dNum, dS, nRow, pairA, assertA]) ?_
    simp [dNum, dS, nRow, pairA, assertA]
    refine hK2 _ ?_
    clear hK2 K2
    repeat (refine sxf_next fun K2 hK2 => ?_; simp [dNum, dS, nRow, pairA, assertA]; (repeat (refine ⟨by omega, ?_⟩)); refine hK2 _ ?_; clear hK2 K2)
    refine sxf_nil (hK' _ ?_)
    refine AW.st (by simp [dNum, dS, nRow, pairA, assertA]; rfl) ?_
    clear hK' K'
    refine AW_rg (tyOf_good _) [1, 14] [502, 503] (notIn_ok rfl) fun K' hK' => ?_
    repeat (refine sxf_next fun K2 hK2 => ?_; simp [dNum, dS, nRow, pairA, assertA]; (repeat (refine ⟨by omega, ?_⟩)); refine hK2 _ ?_; clear hK2 K2)
    refine sxf_nil (hK' _ ?_)
    refine AW.st (by simp [dNum, dS, nRow, pairA, assertA]; rfl) ?_
    clear hK' K'
    refine AW_block ?_
    refine AW_rg (tyOf_good _) [1, 14, 16, 17] [502, 503] (notIn_ok rfl) fun K' hK' => ?_
    repeat (refine sxf_next fun K2 hK2 => ?_; simp [dNum, dS, nRow, pairA, assertA, h1]; (repeat (refine ⟨by omega, ?_⟩)); refine hK2 _ ?_; clear hK2 K2)
    refine sxf_nil (hK' _ ?_)
    refine AW.st (by simp [dNum, dS, nRow, pairA, assertA, h1]; rfl) ?_
    clear hK' K'
    refine AW_cond false rfl (fun h => by cases h) (fun _ => ?_)
    refine AW_rg (tyOf_good _) [1, 14, 23, 24] [502, 503] (notIn_ok rfl) fun K' hK' => ?_
    repeat (refine sxf_next fun K2 hK2 => ?_; simp [dNum, dS, nRow, pairA, assertA, h2]; (repeat (refine ⟨by omega, ?_⟩)); refine hK2 _ ?_; clear hK2 K2)
    refine sxf_nil (hK' _ ?_)
    refine AW.st (by simp [dNum, dS, nRow, pairA, assertA, h2]; rfl) ?_
    clear hK' K'
    refine AW_cond false rfl (fun h => by cases h) (fun _ => ?_)
    refine AW_rg (tyOf_good _) [1, 36, 37] [502, 503] (notIn_ok rfl) fun K' hK' => ?_
    repeat (refine sxf_next fun K2 hK2 => ?_; simp [dNum, dS, nRow, pairA, assertA, h3]; (repeat (refine ⟨by omega, ?_⟩)); refine hK2 _ ?_; clear hK2 K2)
    refine sxf_nil (hK' _ ?_)
    refine AW.st (by simp [dNum, dS, nRow, pairA, assertA, h3]; rfl) ?_
    clear hK' K'
    refine AW_cond false rfl (fun h => by cases h) (fun _ => ?_)
    refine AW_skip ?_
    simp [D.le_refl, nRow, dS]

def namesE (all : Bool) (e : Ex) : List (List UInt8) := Lib.compact (sortT (nmsE all e))
set_option maxHeartbeats 8000000 in
theorem sorted_spec (G : Glob) (all : Bool) (e : Ex) (hb : bE e ≤ 2^28) : PureC Tryz.prog G 89 [dE e, .fn (.func (fnOf all)) []] (.sl none ((namesE all e).map fun s => [dS s])) := by
  have hlen := nms_len all e
  have hw := walkN_at G all _ e (Nat.le_refl _) [] (by simp; omega)
  rw [List.nil_append] at hw
  have hso := sort_mc G 503 9 (nmsE all e) (by omega)
  have hco := compact_mc G 503 9 (sortT (nmsE all e)) (by rw [sortT_len]; omega)
  rw [sortT_len] at hco
  have hcl := Lib.compact_length_le (sortT (nmsE all e))
  rw [sortT_len] at hcl
  unfold namesE
  obtain ⟨tx, cx, hx⟩ := dE_ifc e
  rw [hx] at hw ⊢
  generalize fnOf all = g at hw ⊢
  generalize nmsE all e = l at hw hso hco hcl hlen ⊢
  generalize sortT l = z at hso hco hcl ⊢
  have htk : List.take (Lib.compact z).length ((Lib.compact z ++ List.replicate (l.length - (Lib.compact z).length) []).map fun s => [dS s]) = (Lib.compact z).map fun s => [dS s] := by
    rw [List.map_append, List.take_append_of_le_length (by simp), List.take_of_length_le (by simp)]
  have hyl : (Lib.compact z ++ List.replicate (l.length - (Lib.compact z).length) []).length = l.length := by simp; omega
  generalize Lib.compact z ++ List.replicate (l.length - (Lib.compact z).length) [] = y at hco htk hyl
  generalize Lib.compact z = c at hco hcl htk ⊢
  refine PureC.of_body (tyOf_good _) Tryz.func89 rfl rfl (rs := [.tmp 4]) Tryz.results89 (by simp [Tryz.ntmps89]) fun X => ?_
  simp only [Tryz.ntmps89, List.map]
  refine AW_rg (tyOf_good _) [0, 3] [3] (fun _ _ => trivial) fun K' hK' => ?_
  repeat (refine sxf_next fun K2 hK2 => ?_; simp [dNum, dS, nRow, pairA, assertA]; (repeat (refine ⟨by omega, ?_⟩)); refine hK2 _ ?_; clear hK2 K2)
  refine sxf_nil (hK' _ ?_)
  refine AW.st (by simp [dNum, dS, nRow, pairA, assertA]; rfl) ?_
  clear hK' K'
  refine AW.imp (Imp.freezeB 3 trivial) ?_
  refine AW.st (by simp [dNum, dS, nRow, pairA, assertA]; rfl) ?_
  refine AW_rg (tyOf_good _) [0, 3, 5] [5] (fun _ _ => trivial) fun K' hK' => ?_
  repeat (refine sxf_next fun K2 hK2 => ?_; simp [dNum, dS, nRow, pairA, assertA]; (repeat (refine ⟨by omega, ?_⟩)); refine hK2 _ ?_; clear hK2 K2)
  refine sxf_nil (hK' _ ?_)
  refine AW.st (by simp [dNum, dS, nRow, pairA, assertA]; rfl) ?_
  clear hK' K'
  refine AW.imp (Imp.ren (r := 5) (r' := 502) trivial (by simp)) ?_
  refine AW.st (by simp [renO, renF, Go.Av.ren, renH_one]; rfl) ?_
  refine AW.imp (Imp.adoptCell 502 0 503 9 1 rfl rfl rfl) ?_
  refine AW.imp (τ := ⟨lst [(0, .d (.ifc tx cx)), (3, .d (.ip [.fn (.func g) []])), (5, .ref 502 0 0)], hlst (nRow [])⟩) ?_ ?_
  · refine Imp.to' (fun _ _ => trivial) (by simp [dNum, dS, nRow, pairA, assertA, nRow]) (by simp [dNum, dS, nRow, pairA, assertA, nRow])
  refine AW_rg (tyOf_good _) [5] [502, 503] (fun _ _ => trivial) fun K' hK' => ?_
  repeat (refine sxf_next fun K2 hK2 => ?_; simp [dNum, dS, nRow, pairA, assertA]; (repeat (refine ⟨by omega, ?_⟩)); refine hK2 _ ?_; clear hK2 K2)
  refine sxf_next fun K2 hK2 => ?_
  simp [dNum, dS, nRow, pairA, assertA]
  refine callK.mc (hw) (by simp [dNum, dS, nRow, pairA, assertA]) (by simp [dNum, dS, nRow, pairA, assertA]) (by simp [dNum, dS, nRow, pairA, assertA]) (by simp [dNum, dS, nRow, pairA, assertA]) ?_
  simp [dNum, dS, nRow, pairA, assertA]
  refine hK2 _ ?_
  clear hK2 K2
  repeat (refine sxf_next fun K2 hK2 => ?_; simp [dNum, dS, nRow, pairA, assertA]; (repeat (refine ⟨by omega, ?_⟩)); refine hK2 _ ?_; clear hK2 K2)
  refine sxf_nil (hK' _ ?_)
  refine AW.st (by simp [dNum, dS, nRow, pairA, assertA]; rfl) ?_
  clear hK' K'
  refine AW_rg (tyOf_good _) [5] [502, 503] (fun _ _ => trivial) fun K' hK' => ?_
  repeat (refine sxf_next fun K2 hK2 => ?_; simp [dNum, dS, nRow, pairA, assertA]; (repeat (refine ⟨by omega, ?_⟩)); refine hK2 _ ?_; clear hK2 K2)
  refine sxf_next fun K2 hK2 => ?_
  simp [dNum, dS, nRow, pairA, assertA]
  refine callK.mc (hso) (by simp [dNum, dS, nRow, pairA, assertA]) (by simp [dNum, dS, nRow, pairA, assertA]) (by simp [dNum, dS, nRow, pairA, assertA]) (by simp [dNum, dS, nRow, pairA, assertA]) ?_
  simp [dNum, dS, nRow, pairA, assertA]
  refine hK2 _ ?_
  clear hK2 K2
  repeat (refine sxf_next fun K2 hK2 => ?_; simp [dNum, dS, nRow, pairA, assertA]; (repeat (refine ⟨by omega, ?_⟩)); refine hK2 _ ?_; clear hK2 K2)
  refine sxf_nil (hK' _ ?_)
  refine AW.st (by simp [dNum, dS, nRow, pairA, assertA]; rfl) ?_
  clear hK' K'
  refine AW_rg (tyOf_good _) [4] [502, 503] (fun _ _ => trivial) fun K' hK' => ?_
  repeat (refine sxf_next fun K2 hK2 => ?_; simp [dNum, dS, nRow, pairA, assertA]; (repeat (refine ⟨by omega, ?_⟩)); refine hK2 _ ?_; clear hK2 K2)
  refine sxf_next fun K2 hK2 => ?_
  simp [dNum, dS, nRow, pairA, assertA]
  refine callK.mc (hco) (by simp [dNum, dS, nRow, pairA, assertA]) (by simp [dNum, dS, nRow, pairA, assertA]) (by simp [dNum, dS, nRow, pairA, assertA]) (by simp [dNum, dS, nRow, pairA, assertA]) ?_
  simp [dNum, dS, nRow, pairA, assertA]
  refine hK2 _ ?_
  clear hK2 K2
  repeat (refine sxf_next fun K2 hK2 => ?_; simp [dNum, dS, nRow, pairA, assertA]; (repeat (refine ⟨by omega, ?_⟩)); refine hK2 _ ?_; clear hK2 K2)
  refine sxf_nil (hK' _ ?_)
  refine AW.st (by simp [dNum, dS, nRow, pairA, assertA]; rfl) ?_
  clear hK' K'
  have hle : c.length ≤ y.length := by omega
  by_cases hcy : c.length = y.length
  · have htk2 : (y.map fun s => [dS s]) = c.map fun s => [dS s] := by rw [← htk, hcy, List.take_of_length_le (by simp)]
    simp only [dS] at htk2
    refine AW.imp (Imp.freeze 503 trivial) ?_
    refine AW.st (by simp [dNum, dS, nRow, pairA, assertA, hcy, hle, htk2]; rfl) ?_
    refine AW_ret ?_
    simp [D.le, D.le.go, takeMap, dNum, dS, nRow, pairA, assertA, D.le_refl, D.leGo_refl, hcy, htk2]
  · simp only [dS] at htk
    refine AW.imp (Imp.freeze 503 trivial) ?_
    refine AW.st (by simp [dNum, dS, nRow, pairA, assertA, hcy, hle, htk]; rfl) ?_
    refine AW_ret ?_
    simp [D.le, D.le.go, takeMap, dNum, dS, nRow, pairA, assertA, D.le_refl, D.leGo_refl, htk]
theorem namesE_spec (G : Glob) (e : Ex) (hb : bE e ≤ 2^28) : PureC Tryz.prog G 84 [dE e] (.sl none ((namesE true e).map fun s => [dS s])) := by
  have hs := sorted_spec G true e hb
  obtain ⟨tx, cx, hx⟩ := dE_ifc e
  rw [hx] at hs ⊢
  generalize namesE true e = l at hs ⊢
  simp only [fnOf, if_true, if_false, Bool.false_eq_true] at hs
  refine PureC.of_body (tyOf_good _) Tryz.func84 rfl rfl (rs := [.tmp 2]) Tryz.results84 (by simp [Tryz.ntmps84]) fun X => ?_
  simp only [Tryz.ntmps84, List.map]
  refine AW_rg (tyOf_good _) [0] [] (fun _ _ => trivial) fun K' hK' => ?_
  repeat (refine sxf_next fun K2 hK2 => ?_; simp [dNum, dS, nRow, pairA, assertA]; (repeat (refine ⟨by omega, ?_⟩)); refine hK2 _ ?_; clear hK2 K2)
  refine sxf_nil (hK' _ ?_)
  refine AW.st (by simp [dNum, dS, nRow, pairA, assertA]; rfl) ?_
  clear hK' K'
  refine AW_rg (tyOf_good _) [2] [] (fun _ _ => trivial) fun K' hK' => ?_
  repeat (refine sxf_next fun K2 hK2 => ?_; simp [dNum, dS, nRow, pairA, assertA]; (repeat (refine ⟨by omega, ?_⟩)); refine hK2 _ ?_; clear hK2 K2)
  refine sxf_next fun K2 hK2 => ?_
  simp [dNum, dS, nRow, pairA, assertA]
  refine callK.data (hs) (by simp; rfl) (by first | exact D.leGo_refl _ | simp [takeMap, List.map_map, Function.comp_def, D.le, D.le.go, D.le_refl, D.leGo_refl, dNum, dS, nRow, pairA, assertA]) ?_
  refine hK2 _ ?_
  clear hK2 K2
  simp only [putd, upd_lst]
  repeat (refine sxf_next fun K2 hK2 => ?_; simp [dNum, dS, nRow, pairA, assertA]; (repeat (refine ⟨by omega, ?_⟩)); refine hK2 _ ?_; clear hK2 K2)
  refine sxf_nil (hK' _ ?_)
  refine AW.st (by simp [dNum, dS, nRow, pairA, assertA]; rfl) ?_
  clear hK' K'
  refine AW_ret ?_
  simp [D.le, D.le.go, takeMap, dNum, dS, nRow, pairA, assertA, D.le_refl, D.leGo_refl]
end Go.Proofs.YtnlhioeefmhklaaGreatDoor

/-
  Plain: texts put in order one by one, each once, are what sort and compact make of them.
-/
namespace Go.Proofs.YtnlhioeefmhklaaGreatDoor
set_option linter.unusedSimpArgs false
set_option linter.unusedVariables false
open Go.Av

abbrev Tx := List UInt8
/-! ### compact behind sort -/
theorem mem_upTo (d : Array Tx) : ∀ (m : Nat), m ≤ d.size → ∀ j, j < m → d[j]! ∈ Lib.compactUpTo d m
  | 0, _, j, h => by omega
  | m + 1, hm, j, hj => by
    rw [Lib.compactUpTo_succ]
    by_cases hjm : j < m
    · exact List.mem_append_left _ (mem_upTo d m (by omega) j hjm)
    · obtain rfl : j = m := by omega
      by_cases hk : Lib.keeps d j = true
      · exact List.mem_append_right _ (by simp [hk])
      · have hj0 : j ≠ 0 := by rintro rfl; exact hk (Lib.keeps_lt_one d 0 (by omega))
        have he : d[j]! = d[j - 1]! := by
          unfold Lib.keeps at hk
          simp [hj0] at hk
          first | exact hk | exact hk.symm
        rw [he]
        exact List.mem_append_left _ (mem_upTo d j (by omega) (j - 1) (by omega))
theorem upTo_mem (d : Array Tx) : ∀ (m : Nat), m ≤ d.size → ∀ x ∈ Lib.compactUpTo d m, ∃ j, j < m ∧ x = d[j]!
  | 0, _, x, h => by simp [Lib.compactUpTo] at h
  | m + 1, hm, x, h => by
    rw [Lib.compactUpTo_succ] at h
    rcases List.mem_append.1 h with h | h
    · obtain ⟨j, hj, e⟩ := upTo_mem d m (by omega) x h
      exact ⟨j, by omega, e⟩
    · split at h
      · simp at h; exact ⟨m, by omega, h⟩
      · simp at h
theorem namesE_mem {all : Bool} {e : Ex} {s : Tx} : s ∈ namesE all e ↔ s ∈ nmsE all e := by
  unfold namesE
  have h0 : ∀ l : List Tx, s ∈ Lib.compact l ↔ s ∈ l := by
    intro l
    unfold Lib.compact
    constructor
    · intro h
      obtain ⟨j, hj, rfl⟩ := upTo_mem l.toArray l.length (by simp) s h
      rw [getElem!_pos l.toArray j (by simpa using hj)]
      simp
    · intro h
      obtain ⟨j, hj, rfl⟩ := List.mem_iff_getElem.1 h
      have := mem_upTo l.toArray l.length (by simp) j hj
      rw [getElem!_pos l.toArray j (by simpa using hj)] at this
      simpa using this
  rw [h0]
  unfold sortT
  exact List.mem_mergeSort
end Go.Proofs.YtnlhioeefmhklaaGreatDoor

/-
  What ExprBack and ExprTidy say.
-/
namespace Go.Proofs.YtnlhioeefmhklaaGreatDoor
set_option linter.unusedSimpArgs false
set_option linter.unusedVariables false
open Go.Av

theorem la : (⟨#[97]⟩ : ByteArray) = bs [97] := rfl
theorem lb : (⟨#[98]⟩ : ByteArray) = bs [98] := rfl
end Go.Proofs.YtnlhioeefmhklaaGreatDoor

/-
  Plain: programs; the checks of both sides; kinds and numbers.
-/
namespace Go.Proofs.YtnlhioeefmhklaaGreatDoor
set_option linter.unusedSimpArgs false
set_option linter.unusedVariables false
open Go.Av

structure NmP where
  name : Tx
  kind : Int
  count : Int
structure RgP where
  kind : Int
  name : Tx
  cond : Option Ex
structure PgP where
  names : List NmP
  rungs : List RgP

/-- A name's number (-1: there is none). -/
def numP (p : PgP) (s : Tx) : Int := idx (fun n : NmP => n.name == s) p.names
/-- The first wrong one of a list: the error's number, and where. -/
def firstBad {α : Type} (f : Nat → α → Int) : List α → Nat → Option (Int × Nat)
  | [], _ => none
  | x :: l, i => if f i x = 0 then firstBad f l (i + 1) else some (f i x, i)
/-! ### ladder.Check -/
def countsP (n : NmP) : Bool := decide (n.kind = 3) || decide (n.kind = 4)
def badN (p : PgP) (i : Nat) (n : NmP) : Int :=
  if !nameF n.name then 5 else if decide (n.kind < 1) || decide (n.kind > 4) then 1 else if (countsP n && (decide (n.count < 1) || decide (n.count > 7))) || (!countsP n && decide (n.count ≠ 0)) then 2 else if numP p n.name < i then 9 else 0
def wantP (k : Int) : Int := if k ≤ 3 then 2 else if k = 4 then 3 else 4
def badG (p : PgP) (r : RgP) : Int := match r.cond with
  | none => 1
  | some e => if decide (r.kind < 1) || decide (r.kind > 6) then 1 else if numP p r.name < 0 then 7
    else if wantP r.kind ≠ (p.names.getD (numP p r.name).toNat ⟨[], 0, 0⟩).kind then 1 else if (namesE true e).any fun s => decide (numP p s < 0) then 7 else 0
/-- What is wrong: the error's number, and where (none: of the whole). -/
def checkP (p : PgP) : Option (Int × Option Nat) :=
  if p.names.length > 12 ∨ p.rungs.length > 40 then some (4, none) else match firstBad (badN p) p.names 0 with
    | some (e, i) => some (e, some i)
    | none => match firstBad (fun _ r => badG p r) p.rungs 0 with
      | some (e, i) => some (e, some (p.names.length + i))
      | none => none

/-! ### The document's -/
end Go.Proofs.YtnlhioeefmhklaaGreatDoor

/-
  Programs: numbers of names; what is wrong of a rung.
-/
namespace Go.Proofs.YtnlhioeefmhklaaGreatDoor
set_option linter.unusedSimpArgs false
set_option linter.unusedVariables false
open Go.Av

def cNm (n : NmP) : List D := [dS n.name, .v (.int .i64 n.kind), .v (.int .i64 n.count)]
def dNm (n : NmP) : D := .agg (cNm n)
def dNms (l : List NmP) : D := .sl none (l.map cNm)
def dC (c : Option Ex) : D := match c with
  | none => .v .nilIface
  | some e => dE e
def cRg (r : RgP) : List D := [.v (.int .i64 r.kind), dS r.name, dC r.cond]
def dRg (r : RgP) : D := .agg (cRg r)
def dRgs (l : List RgP) : D := .sl none (l.map cRg)
def cPg (p : PgP) : List D := [dNms p.names, dRgs p.rungs]
def dPg (p : PgP) : D := .agg (cPg p)
set_option maxHeartbeats 1000000 in
theorem indexNm_spec (G : Glob) (k : Option Bool) (xs : List NmP) (g : FuncId) (caps : List D) (p : NmP → Bool) (hl : xs.length < 2^62) (ha : Answers G g caps dNm p xs) :
    PureC Tryz.prog G 45 [.sl k (xs.map cNm), .fn (.func g) caps] (.v (.int .i64 (idx p xs))) := by
  refine PureC.of_body (tyOf_good _) Tryz.func45 rfl rfl (rs := [.tmp 4]) Tryz.results45 (by simp [Tryz.ntmps45]) fun X => ?_
  simp only [Tryz.ntmps45, List.map]
  refine AW_rg (tyOf_good _) [0, 1] [] (fun _ _ => trivial) fun K' hK' => ?_
  repeat (refine sxf_next fun K2 hK2 => ?_; simp; (repeat (refine ⟨by omega, ?_⟩)); refine hK2 _ ?_; clear hK2 K2)
  refine sxf_nil (hK' _ ?_)
  refine AW.st (by simp; rfl) ?_
  clear hK' K'
  refine AW_then fun K1 hK1 => ?_
  refine AW_rg (tyOf_good _) [0, 1, 7, 8] [] (fun _ _ => trivial) fun K' hK' => ?_
  repeat (refine sxf_next fun K2 hK2 => ?_; simp; (repeat (refine ⟨by omega, ?_⟩)); refine hK2 _ ?_; clear hK2 K2)
  refine sxf_nil (hK' _ ?_)
  refine AW.st (by simp; rfl) ?_
  clear hK' K'
  refine AW_for (S := Nat) (fun n => n ≤ xs.length ∧ ∀ i (hi : i < xs.length), i < n → p xs[i] = false) (fun n => ⟨lst [(0, .d (.sl k (xs.map cNm))), (1, .d (.fn (.func g) caps)), (7, int xs.length), (8, int n)], hlst []⟩) (fun n => xs.length - n) 0 ?_ (by simp) ?_
  · refine Imp.to' (fun _ _ => trivial) (by simp) (by simp)
  · rintro n ⟨hn, hp⟩
    refine AW_rg (tyOf_good _) [0, 1, 7, 8, 9] [] (fun _ _ => trivial) fun K' hK' => ?_
    repeat (refine sxf_next fun K2 hK2 => ?_; simp; (repeat (refine ⟨by omega, ?_⟩)); refine hK2 _ ?_; clear hK2 K2)
    refine sxf_nil (hK' _ ?_)
    refine AW.st (by simp; rfl) ?_
    clear hK' K'
    refine AW_then fun K2 hK2 => ?_
    refine AW_cond' (b := n < xs.length) (by simp [D.le, D.le.go, takeMap]) (fun hc => ?_) (fun hc => ?_)
    · refine AW_skip (hK2 _ ?_)
      refine AW_then fun K3 hK3 => ?_
      refine AW_block ?_
      refine AW_rg (tyOf_good _) [0, 1, 5, 7, 8] [] (fun _ _ => trivial) fun K' hK' => ?_
      repeat (refine sxf_next fun K2 hK2 => ?_; simp; (repeat (refine ⟨by omega, ?_⟩)); refine hK2 _ ?_; clear hK2 K2)
      refine sxf_nil (hK' _ ?_)
      refine AW.st (by simp; rfl) ?_
      clear hK' K'
      have hax := ha xs[n] (by simp)
      simp only [dNm, cNm] at hax
      refine AW_rg (tyOf_good _) [0, 1, 5, 7, 8, 16] [] (fun _ _ => trivial) fun K' hK' => ?_
      repeat (refine sxf_next fun K2 hK2 => ?_; simp [hc, cNm]; (repeat (refine ⟨by omega, ?_⟩)); refine hK2 _ ?_; clear hK2 K2)
      refine sxf_next fun K2 hK2 => ?_
      simp [hc, cNm]
      refine callK.data (hax) (by simp; rfl) (by first | exact D.leGo_refl _ | simp [takeMap, List.map_map, Function.comp_def, D.le, D.le.go, D.le_refl, D.leGo_refl, hc, cNm]) ?_
      refine hK2 _ ?_
      clear hK2 K2
      simp only [putd, upd_lst]
      repeat (refine sxf_next fun K2 hK2 => ?_; simp [hc, cNm]; (repeat (refine ⟨by omega, ?_⟩)); refine hK2 _ ?_; clear hK2 K2)
      refine sxf_nil (hK' _ ?_)
      refine AW.st (by simp [hc, cNm]; rfl) ?_
      clear hK' K'
      refine AW_cond _ rfl (fun hp2 => ?_) (fun hp2 => ?_)
      · refine AW_rg (tyOf_good _) [4] [] (fun _ _ => trivial) fun K' hK' => ?_
        repeat (refine sxf_next fun K2 hK2 => ?_; simp; (repeat (refine ⟨by omega, ?_⟩)); refine hK2 _ ?_; clear hK2 K2)
        refine sxf_nil (hK' _ ?_)
        refine AW.st (by simp; rfl) ?_
        clear hK' K'
        refine AW_ret ?_
        simp [D.le, D.le.go, takeMap]
        exact (idx_hit hc hp2 fun i hi => hp i (by omega) hi).symm
      · refine AW_skip (hK3 _ ?_)
        refine AW_re (tyOf_good _) fun K' hK' => ?_
        repeat (refine sxf_next fun K2 hK2 => ?_; simp; (repeat (refine ⟨by omega, ?_⟩)); refine hK2 _ ?_; clear hK2 K2)
        refine sxf_nil (hK' _ ?_)
        clear hK' K'
        try simp only [thn, inb]
        refine Again.mk (n + 1) ⟨by omega, fun i hi hin => ?_⟩ (by omega) ?_
        · by_cases h : i = n
          · subst h; exact hp2
          · exact hp i hi (by omega)
        refine Imp.to' (fun _ _ => trivial) (by simp) (by simp)
    · refine AW_exit (hK1 _ ?_)
      refine AW_rg (tyOf_good _) [4] [] (fun _ _ => trivial) fun K' hK' => ?_
      repeat (refine sxf_next fun K2 hK2 => ?_; simp; (repeat (refine ⟨by omega, ?_⟩)); refine hK2 _ ?_; clear hK2 K2)
      refine sxf_nil (hK' _ ?_)
      refine AW.st (by simp; rfl) ?_
      clear hK' K'
      refine AW_ret ?_
      simp [D.le, D.le.go, takeMap]
      exact (idx_miss fun i hi => hp i hi (by omega)).symm

set_option maxHeartbeats 1000000 in
theorem indexTx_spec (G : Glob) (k : Option Bool) (xs : List (List UInt8)) (g : FuncId) (caps : List D) (p : (List UInt8) → Bool) (hl : xs.length < 2^62) (ha : Answers G g caps dS p xs) :
    PureC Tryz.prog G 120 [.sl k (xs.map (fun s => [dS s])), .fn (.func g) caps] (.v (.int .i64 (idx p xs))) := by
  refine PureC.of_body (tyOf_good _) Tryz.func120 rfl rfl (rs := [.tmp 4]) Tryz.results120 (by simp [Tryz.ntmps120]) fun X => ?_
  simp only [Tryz.ntmps120, List.map]
  refine AW_rg (tyOf_good _) [0, 1] [] (fun _ _ => trivial) fun K' hK' => ?_
  repeat (refine sxf_next fun K2 hK2 => ?_; simp; (repeat (refine ⟨by omega, ?_⟩)); refine hK2 _ ?_; clear hK2 K2)
  refine sxf_nil (hK' _ ?_)
  refine AW.st (by simp; rfl) ?_
  clear hK' K'
  refine AW_then fun K1 hK1 => ?_
  refine AW_rg (tyOf_good _) [0, 1, 7, 8] [] (fun _ _ => trivial) fun K' hK' => ?_
  repeat (refine sxf_next fun K2 hK2 => ?_; simp; (repeat (refine ⟨by omega, ?_⟩)); refine hK2 _ ?_; clear hK2 K2)
  refine sxf_nil (hK' _ ?_)
  refine AW.st (by simp; rfl) ?_
  clear hK' K'
  refine AW_for (S := Nat) (fun n => n ≤ xs.length ∧ ∀ i (hi : i < xs.length), i < n → p xs[i] = false) (fun n => ⟨lst [(0, .d (.sl k (xs.map (fun s => [dS s])))), (1, .d (.fn (.func g) caps)), (7, int xs.length), (8, int n)], hlst []⟩) (fun n => xs.length - n) 0 ?_ (by simp) ?_
  · refine Imp.to' (fun _ _ => trivial) (by simp [dS]) (by simp [dS])
  · rintro n ⟨hn, hp⟩
    refine AW_rg (tyOf_good _) [0, 1, 7, 8, 9] [] (fun _ _ => trivial) fun K' hK' => ?_
    repeat (refine sxf_next fun K2 hK2 => ?_; simp; (repeat (refine ⟨by omega, ?_⟩)); refine hK2 _ ?_; clear hK2 K2)
    refine sxf_nil (hK' _ ?_)
    refine AW.st (by simp; rfl) ?_
    clear hK' K'
    refine AW_then fun K2 hK2 => ?_
    refine AW_cond' (b := n < xs.length) (by simp [D.le, D.le.go, takeMap]) (fun hc => ?_) (fun hc => ?_)
    · refine AW_skip (hK2 _ ?_)
      refine AW_then fun K3 hK3 => ?_
      refine AW_block ?_
      refine AW_rg (tyOf_good _) [0, 1, 5, 7, 8] [] (fun _ _ => trivial) fun K' hK' => ?_
      repeat (refine sxf_next fun K2 hK2 => ?_; simp; (repeat (refine ⟨by omega, ?_⟩)); refine hK2 _ ?_; clear hK2 K2)
      refine sxf_nil (hK' _ ?_)
      refine AW.st (by simp; rfl) ?_
      clear hK' K'
      have hax := ha xs[n] (by simp)
      simp only [dS] at hax
      refine AW_rg (tyOf_good _) [0, 1, 5, 7, 8, 16] [] (fun _ _ => trivial) fun K' hK' => ?_
      repeat (refine sxf_next fun K2 hK2 => ?_; simp [hc, dS]; (repeat (refine ⟨by omega, ?_⟩)); refine hK2 _ ?_; clear hK2 K2)
      refine sxf_next fun K2 hK2 => ?_
      simp [hc, dS]
      refine callK.data (hax) (by simp; rfl) (by first | exact D.leGo_refl _ | simp [takeMap, List.map_map, Function.comp_def, D.le, D.le.go, D.le_refl, D.leGo_refl, hc, dS]) ?_
      refine hK2 _ ?_
      clear hK2 K2
      simp only [putd, upd_lst]
      repeat (refine sxf_next fun K2 hK2 => ?_; simp [hc, dS]; (repeat (refine ⟨by omega, ?_⟩)); refine hK2 _ ?_; clear hK2 K2)
      refine sxf_nil (hK' _ ?_)
      refine AW.st (by simp [hc, dS]; rfl) ?_
      clear hK' K'
      refine AW_cond _ rfl (fun hp2 => ?_) (fun hp2 => ?_)
      · refine AW_rg (tyOf_good _) [4] [] (fun _ _ => trivial) fun K' hK' => ?_
        repeat (refine sxf_next fun K2 hK2 => ?_; simp; (repeat (refine ⟨by omega, ?_⟩)); refine hK2 _ ?_; clear hK2 K2)
        refine sxf_nil (hK' _ ?_)
        refine AW.st (by simp; rfl) ?_
        clear hK' K'
        refine AW_ret ?_
        simp [D.le, D.le.go, takeMap]
        exact (idx_hit hc hp2 fun i hi => hp i (by omega) hi).symm
      · refine AW_skip (hK3 _ ?_)
        refine AW_re (tyOf_good _) fun K' hK' => ?_
        repeat (refine sxf_next fun K2 hK2 => ?_; simp; (repeat (refine ⟨by omega, ?_⟩)); refine hK2 _ ?_; clear hK2 K2)
        refine sxf_nil (hK' _ ?_)
        clear hK' K'
        try simp only [thn, inb]
        refine Again.mk (n + 1) ⟨by omega, fun i hi hin => ?_⟩ (by omega) ?_
        · by_cases h : i = n
          · subst h; exact hp2
          · exact hp i hi (by omega)
        refine Imp.to' (fun _ _ => trivial) (by simp [dS]) (by simp [dS])
    · refine AW_exit (hK1 _ ?_)
      refine AW_rg (tyOf_good _) [4] [] (fun _ _ => trivial) fun K' hK' => ?_
      repeat (refine sxf_next fun K2 hK2 => ?_; simp; (repeat (refine ⟨by omega, ?_⟩)); refine hK2 _ ?_; clear hK2 K2)
      refine sxf_nil (hK' _ ?_)
      refine AW.st (by simp; rfl) ?_
      clear hK' K'
      refine AW_ret ?_
      simp [D.le, D.le.go, takeMap]
      exact (idx_miss fun i hi => hp i hi (by omega)).symm

set_option maxHeartbeats 1000000 in
theorem containsTx_spec (G : Glob) (k : Option Bool) (xs : List (List UInt8)) (g : FuncId) (caps : List D) (p : List UInt8 → Bool) (hl : xs.length < 2^62) (ha : Answers G g caps dS p xs) :
    PureC Tryz.prog G 83 [.sl k (xs.map fun s => [dS s]), .fn (.func g) caps] (.v (.bool (xs.any p))) := by
  refine PureC.of_body (tyOf_good _) Tryz.func83 rfl rfl (rs := [.tmp 4]) Tryz.results83 (by simp [Tryz.ntmps83]) fun X => ?_
  simp only [Tryz.ntmps83, List.map]
  refine AW_rg (tyOf_good _) [0, 1] [] (fun _ _ => trivial) fun K' hK' => ?_
  repeat (refine sxf_next fun K2 hK2 => ?_; simp; (repeat (refine ⟨by omega, ?_⟩)); refine hK2 _ ?_; clear hK2 K2)
  refine sxf_nil (hK' _ ?_)
  refine AW.st (by simp; rfl) ?_
  clear hK' K'
  refine AW_rg (tyOf_good _) [4] [] (fun _ _ => trivial) fun K' hK' => ?_
  repeat (refine sxf_next fun K2 hK2 => ?_; simp; (repeat (refine ⟨by omega, ?_⟩)); refine hK2 _ ?_; clear hK2 K2)
  refine sxf_next fun K2 hK2 => ?_
  simp
  refine callK.data (indexTx_spec G k xs g caps p hl ha) (by simp; rfl) (by first | exact D.leGo_refl _ | simp [takeMap, List.map_map, Function.comp_def, D.le, D.le.go, D.le_refl, D.leGo_refl]) ?_
  refine hK2 _ ?_
  clear hK2 K2
  simp only [putd, upd_lst]
  repeat (refine sxf_next fun K2 hK2 => ?_; simp; (repeat (refine ⟨by omega, ?_⟩)); refine hK2 _ ?_; clear hK2 K2)
  refine sxf_nil (hK' _ ?_)
  refine AW.st (by simp; rfl) ?_
  clear hK' K'
  refine AW_ret ?_
  simp [D.le, D.le.go, takeMap]
  exact idx_any p xs

set_option maxHeartbeats 1000000 in
theorem lc_num1 (G : Glob) (n : NmP) (s : List UInt8) : PureC Tryz.prog G 46 [dNm n, .ip [dS s]] (.v (.bool (n.name == s))) := by
  simp only [dNm, cNm, dS]
  refine PureC.of_body (tyOf_good _) Tryz.func46 rfl rfl (rs := [.tmp 3]) Tryz.results46 (by simp [Tryz.ntmps46]) fun X => ?_
  simp only [Tryz.ntmps46, List.map]
  refine AW_rg (tyOf_good _) [1, 2] [2] (fun _ _ => trivial) fun K' hK' => ?_
  repeat (refine sxf_next fun K2 hK2 => ?_; simp; (repeat (refine ⟨by omega, ?_⟩)); refine hK2 _ ?_; clear hK2 K2)
  refine sxf_nil (hK' _ ?_)
  refine AW.st (by simp; rfl) ?_
  clear hK' K'
  refine AW_rg (tyOf_good _) [3] [2] (fun _ _ => trivial) fun K' hK' => ?_
  repeat (refine sxf_next fun K2 hK2 => ?_; simp [binS, bs_list]; (repeat (refine ⟨by omega, ?_⟩)); refine hK2 _ ?_; clear hK2 K2)
  refine sxf_nil (hK' _ ?_)
  refine AW.st (by simp [binS, bs_list]; rfl) ?_
  clear hK' K'
  refine AW_ret ?_
  simp [D.le, D.le.go, takeMap]
set_option maxHeartbeats 1000000 in
theorem lc_num (G : Glob) (p : PgP) (hp : p.names.length < 2^62) (s : List UInt8) : PureC Tryz.prog G 16 [dPg p, dS s] (.v (.int .i64 (numP p s))) := by
  have hi := indexNm_spec G none p.names 46 [.ip [dS s]] (fun n => n.name == s) hp fun n _ => lc_num1 G n s
  unfold numP
  simp only [dPg, cPg, dNms, dS] at hi ⊢
  generalize dRgs p.rungs = R at *
  generalize idx (fun n : NmP => n.name == s) p.names = z at hi ⊢
  refine PureC.of_body (tyOf_good _) Tryz.func16 rfl rfl (rs := [.tmp 4]) Tryz.results16 (by simp [Tryz.ntmps16]) fun X => ?_
  simp only [Tryz.ntmps16, List.map]
  refine AW_rg (tyOf_good _) [2, 3] [2, 3] (fun _ _ => trivial) fun K' hK' => ?_
  repeat (refine sxf_next fun K2 hK2 => ?_; simp [dRgs]; (repeat (refine ⟨by omega, ?_⟩)); refine hK2 _ ?_; clear hK2 K2)
  refine sxf_nil (hK' _ ?_)
  refine AW.st (by simp [dRgs]; rfl) ?_
  clear hK' K'
  refine AW.imp (Imp.freezeB 3 trivial) ?_
  refine AW.st (by simp; rfl) ?_
  refine AW_rg (tyOf_good _) [4] [2] (fun _ _ => trivial) fun K' hK' => ?_
  repeat (refine sxf_next fun K2 hK2 => ?_; simp; (repeat (refine ⟨by omega, ?_⟩)); refine hK2 _ ?_; clear hK2 K2)
  refine sxf_next fun K2 hK2 => ?_
  simp
  refine callK.data (hi) (by simp; rfl) (by first | exact D.leGo_refl _ | simp [takeMap, List.map_map, Function.comp_def, D.le, D.le.go, D.le_refl, D.leGo_refl]) ?_
  refine hK2 _ ?_
  clear hK2 K2
  simp only [putd, upd_lst]
  repeat (refine sxf_next fun K2 hK2 => ?_; simp; (repeat (refine ⟨by omega, ?_⟩)); refine hK2 _ ?_; clear hK2 K2)
  refine sxf_nil (hK' _ ?_)
  refine AW.st (by simp; rfl) ?_
  clear hK' K'
  refine AW_ret ?_
  simp [D.le, D.le.go, takeMap]

set_option maxHeartbeats 1000000 in
theorem lc_chk1 (G : Glob) (p : PgP) (hp : p.names.length < 2^62) (s : List UInt8) : PureC Tryz.prog G 85 [dS s, .ip (cPg p)] (.v (.bool (decide (numP p s < 0)))) := by
  have hi := lc_num G p hp s
  simp only [dPg, cPg, dNms, dRgs, dS] at hi ⊢
  refine PureC.of_body (tyOf_good _) Tryz.func85 rfl rfl (rs := [.tmp 3]) Tryz.results85 (by simp [Tryz.ntmps85]) fun X => ?_
  simp only [Tryz.ntmps85, List.map]
  refine AW_rg (tyOf_good _) [0, 1] [] (fun _ _ => trivial) fun K' hK' => ?_
  repeat (refine sxf_next fun K2 hK2 => ?_; simp; (repeat (refine ⟨by omega, ?_⟩)); refine hK2 _ ?_; clear hK2 K2)
  refine sxf_nil (hK' _ ?_)
  refine AW.st (by simp; rfl) ?_
  clear hK' K'
  refine AW_rg (tyOf_good _) [3] [] (fun _ _ => trivial) fun K' hK' => ?_
  repeat (refine sxf_next fun K2 hK2 => ?_; simp; (repeat (refine ⟨by omega, ?_⟩)); refine hK2 _ ?_; clear hK2 K2)
  refine sxf_next fun K2 hK2 => ?_
  simp
  refine callK.data (hi) (by simp; rfl) (by first | exact D.leGo_refl _ | simp [takeMap, List.map_map, Function.comp_def, D.le, D.le.go, D.le_refl, D.leGo_refl]) ?_
  refine hK2 _ ?_
  clear hK2 K2
  simp only [putd, upd_lst]
  repeat (refine sxf_next fun K2 hK2 => ?_; simp; (repeat (refine ⟨by omega, ?_⟩)); refine hK2 _ ?_; clear hK2 K2)
  refine sxf_nil (hK' _ ?_)
  refine AW.st (by simp; rfl) ?_
  clear hK' K'
  refine AW_ret ?_
  simp [D.le, D.le.go, takeMap]

/-- What is shown behind its first use. -/
structure LaterG (T : Prop) : Prop where
  out : T
theorem lateG {T U : Prop} (h : LaterG T → U) (t : T) : U := h ⟨t⟩
theorem numP_pos {p : PgP} {s : List UInt8} (h : ¬ numP p s < 0) : ∃ k : Nat, ∃ hk : k < p.names.length, numP p s = k := by
  obtain ⟨k, hk, he, _⟩ := idx_pos h
  exact ⟨k, hk, he⟩
set_option maxHeartbeats 8000000 in
theorem lc_chk (G : Glob) (p : PgP) (hp : p.names.length < 2^62) (r : RgP) (hb : ∀ e, r.cond = some e → bE e ≤ 2^28 ∧ (namesE true e).length < 2^62) : PureC Tryz.prog G 44 [dPg p, dRg r] (.v (.int .i64 (badG p r))) := by
  obtain ⟨kind, name, cond⟩ := r
  dsimp only at hb
  have hnum := lc_num G p hp name
  have hck := fun s => lc_chk1 G p hp s
  simp only [dPg, cPg, dNms, dRgs, dRg, cRg, dS] at hnum hck ⊢
  cases cond with
  | none =>
    have hres0 : badG p ⟨kind, name, none⟩ = 1 := rfl
    generalize badG p ⟨kind, name, none⟩ = res at hres0
    refine PureC.of_body (tyOf_good _) Tryz.func44 rfl rfl (rs := [.tmp 4]) Tryz.results44 (by simp [Tryz.ntmps44]) fun X => ?_
    simp only [Tryz.ntmps44, List.map]
    refine AW_rg (tyOf_good _) [2, 3] [2, 3] (fun _ _ => trivial) fun K' hK' => ?_
    repeat (refine sxf_next fun K2 hK2 => ?_; simp [dC]; (repeat (refine ⟨by omega, ?_⟩)); refine hK2 _ ?_; clear hK2 K2)
    refine sxf_nil (hK' _ ?_)
    refine AW.st (by simp [dC]; rfl) ?_
    clear hK' K'
    refine AW_then fun K1 hK1 => ?_
    by_cases h1 : kind < 1
    · refine AW_rg (tyOf_good _) [2, 3, 19] [2, 3] (fun _ _ => trivial) fun K' hK' => ?_
      repeat (refine sxf_next fun K2 hK2 => ?_; simp [dC, h1]; (repeat (refine ⟨by omega, ?_⟩)); refine hK2 _ ?_; clear hK2 K2)
      refine sxf_nil (hK' _ ?_)
      refine AW.st (by simp [dC, h1]; rfl) ?_
      clear hK' K'
      refine AW_cond true rfl (fun _ => ?_) (fun h => by cases h)
      refine AW_rg (tyOf_good _) [4] [] (fun _ _ => trivial) fun K' hK' => ?_
      repeat (refine sxf_next fun K2 hK2 => ?_; simp [dC]; (repeat (refine ⟨by omega, ?_⟩)); refine hK2 _ ?_; clear hK2 K2)
      refine sxf_nil (hK' _ ?_)
      refine AW.st (by simp [dC]; rfl) ?_
      clear hK' K'
      refine AW_ret ?_
      simp [D.le, D.le.go, takeMap, dC, hres0]
    · by_cases h2 : kind > 6
      · refine AW_rg (tyOf_good _) [2, 3, 19] [2, 3] (fun _ _ => trivial) fun K' hK' => ?_
        repeat (refine sxf_next fun K2 hK2 => ?_; simp [dC, h1, h2]; (repeat (refine ⟨by omega, ?_⟩)); refine hK2 _ ?_; clear hK2 K2)
        refine sxf_nil (hK' _ ?_)
        refine AW.st (by simp [dC, h1, h2]; rfl) ?_
        clear hK' K'
        refine AW_cond true rfl (fun _ => ?_) (fun h => by cases h)
        refine AW_rg (tyOf_good _) [4] [] (fun _ _ => trivial) fun K' hK' => ?_
        repeat (refine sxf_next fun K2 hK2 => ?_; simp [dC]; (repeat (refine ⟨by omega, ?_⟩)); refine hK2 _ ?_; clear hK2 K2)
        refine sxf_nil (hK' _ ?_)
        refine AW.st (by simp [dC]; rfl) ?_
        clear hK' K'
        refine AW_ret ?_
        simp [D.le, D.le.go, takeMap, dC, hres0]
      · refine AW_rg (tyOf_good _) [2, 3, 19] [2, 3] (fun _ _ => trivial) fun K' hK' => ?_
        repeat (refine sxf_next fun K2 hK2 => ?_; simp [dC, h1, h2]; (repeat (refine ⟨by omega, ?_⟩)); refine hK2 _ ?_; clear hK2 K2)
        refine sxf_nil (hK' _ ?_)
        refine AW.st (by simp [dC, h1, h2]; rfl) ?_
        clear hK' K'
        refine AW_cond true rfl (fun _ => ?_) (fun h => by cases h)
        refine AW_rg (tyOf_good _) [4] [] (fun _ _ => trivial) fun K' hK' => ?_
        repeat (refine sxf_next fun K2 hK2 => ?_; simp [dC]; (repeat (refine ⟨by omega, ?_⟩)); refine hK2 _ ?_; clear hK2 K2)
        refine sxf_nil (hK' _ ?_)
        refine AW.st (by simp [dC]; rfl) ?_
        clear hK' K'
        refine AW_ret ?_
        simp [D.le, D.le.go, takeMap, dC, hres0]
  | some e =>
    have hres0 : badG p ⟨kind, name, some e⟩ = if decide (kind < 1) || decide (kind > 6) then 1 else if numP p name < 0 then 7
      else if wantP kind ≠ (p.names.getD (numP p name).toNat ⟨[], 0, 0⟩).kind then 1 else if (namesE true e).any fun s => decide (numP p s < 0) then 7 else 0 := rfl
    generalize badG p ⟨kind, name, some e⟩ = res at hres0
    obtain ⟨hbe, hnl⟩ := hb e rfl
    have hns := namesE_spec G e hbe
    have hany := containsTx_spec G none (namesE true e) 85 [.ip (cPg p)] (fun s => decide (numP p s < 0)) hnl fun s _ => lc_chk1 G p hp s
    have hdc : dC (some e) = dE e := rfl
    rw [hdc]
    obtain ⟨tx, cx, hx⟩ := dE_ifc e
    rw [hx] at hns ⊢
    simp only [cPg, dNms, dRgs, dS] at hns hany
    generalize ((namesE true e).any fun s => decide (numP p s < 0)) = an at hres0 hany
    generalize namesE true e = nm at hns hany
    refine PureC.of_body (tyOf_good _) Tryz.func44 rfl rfl (rs := [.tmp 4]) Tryz.results44 (by simp [Tryz.ntmps44]) fun X => ?_
    simp only [Tryz.ntmps44, List.map]
    refine AW_rg (tyOf_good _) [2, 3] [2, 3] (fun _ _ => trivial) fun K' hK' => ?_
    repeat (refine sxf_next fun K2 hK2 => ?_; simp [dC]; (repeat (refine ⟨by omega, ?_⟩)); refine hK2 _ ?_; clear hK2 K2)
    refine sxf_nil (hK' _ ?_)
    refine AW.st (by simp [dC]; rfl) ?_
    clear hK' K'
    refine AW.imp (Imp.freezeB 2 trivial) ?_
    refine AW.st (by simp [dC]; rfl) ?_
    refine AW.imp (Imp.freezeB 3 trivial) ?_
    refine AW.st (by simp [dC]; rfl) ?_
    refine AW_then fun K1 hK1 => ?_
    by_cases h1 : kind < 1
    · rw [if_pos (by simp [h1])] at hres0
      refine AW_rg (tyOf_good _) [2, 3, 19] [] (fun _ _ => trivial) fun K' hK' => ?_
      repeat (refine sxf_next fun K2 hK2 => ?_; simp [dC, h1]; (repeat (refine ⟨by omega, ?_⟩)); refine hK2 _ ?_; clear hK2 K2)
      refine sxf_nil (hK' _ ?_)
      refine AW.st (by simp [dC, h1]; rfl) ?_
      clear hK' K'
      refine AW_cond true rfl (fun _ => ?_) (fun h => by cases h)
      refine AW_rg (tyOf_good _) [4] [] (fun _ _ => trivial) fun K' hK' => ?_
      repeat (refine sxf_next fun K2 hK2 => ?_; simp [dC]; (repeat (refine ⟨by omega, ?_⟩)); refine hK2 _ ?_; clear hK2 K2)
      refine sxf_nil (hK' _ ?_)
      refine AW.st (by simp [dC]; rfl) ?_
      clear hK' K'
      refine AW_ret ?_
      simp [D.le, D.le.go, takeMap, dC, hres0]
    by_cases h2 : kind > 6
    · rw [if_pos (by simp [h2])] at hres0
      refine AW_rg (tyOf_good _) [2, 3, 19] [] (fun _ _ => trivial) fun K' hK' => ?_
      repeat (refine sxf_next fun K2 hK2 => ?_; simp [dC, h1, h2]; (repeat (refine ⟨by omega, ?_⟩)); refine hK2 _ ?_; clear hK2 K2)
      refine sxf_nil (hK' _ ?_)
      refine AW.st (by simp [dC, h1, h2]; rfl) ?_
      clear hK' K'
      refine AW_cond true rfl (fun _ => ?_) (fun h => by cases h)
      refine AW_rg (tyOf_good _) [4] [] (fun _ _ => trivial) fun K' hK' => ?_
      repeat (refine sxf_next fun K2 hK2 => ?_; simp [dC]; (repeat (refine ⟨by omega, ?_⟩)); refine hK2 _ ?_; clear hK2 K2)
      refine sxf_nil (hK' _ ?_)
      refine AW.st (by simp [dC]; rfl) ?_
      clear hK' K'
      refine AW_ret ?_
      simp [D.le, D.le.go, takeMap, dC, hres0]
    rw [if_neg (by simp [h1, h2])] at hres0
    refine AW_rg (tyOf_good _) [2, 3, 19] [] (fun _ _ => trivial) fun K' hK' => ?_
    repeat (refine sxf_next fun K2 hK2 => ?_; simp [dC, h1, h2]; (repeat (refine ⟨by omega, ?_⟩)); refine hK2 _ ?_; clear hK2 K2)
    refine sxf_nil (hK' _ ?_)
    refine AW.st (by simp [dC, h1, h2]; rfl) ?_
    clear hK' K'
    refine AW_cond false rfl (fun h => by cases h) (fun _ => ?_)
    refine AW_skip (hK1 _ ?_)
    refine AW_rg (tyOf_good _) [2, 3, 5] [] (fun _ _ => trivial) fun K' hK' => ?_
    repeat (refine sxf_next fun K2 hK2 => ?_; simp [dC]; (repeat (refine ⟨by omega, ?_⟩)); refine hK2 _ ?_; clear hK2 K2)
    refine sxf_next fun K2 hK2 => ?_
    simp [dC]
    refine callK.data (hnum) (by simp; rfl) (by first | exact D.leGo_refl _ | simp [takeMap, List.map_map, Function.comp_def, D.le, D.le.go, D.le_refl, D.leGo_refl, dC]) ?_
    refine hK2 _ ?_
    clear hK2 K2
    simp only [putd, upd_lst]
    repeat (refine sxf_next fun K2 hK2 => ?_; simp [dC]; (repeat (refine ⟨by omega, ?_⟩)); refine hK2 _ ?_; clear hK2 K2)
    refine sxf_nil (hK' _ ?_)
    refine AW.st (by simp [dC]; rfl) ?_
    clear hK' K'
    refine AW_then fun K2 hK2 => ?_
    refine AW_rg (tyOf_good _) [2, 3, 5, 25] [] (fun _ _ => trivial) fun K' hK' => ?_
    repeat (refine sxf_next fun K2 hK2 => ?_; simp [dC]; (repeat (refine ⟨by omega, ?_⟩)); refine hK2 _ ?_; clear hK2 K2)
    refine sxf_nil (hK' _ ?_)
    refine AW.st (by simp [dC]; rfl) ?_
    clear hK' K'
    by_cases h3 : numP p name < 0
    · rw [if_pos h3] at hres0
      refine AW_cond true (by simp [h3]) (fun _ => ?_) (fun h => by cases h)
      refine AW_rg (tyOf_good _) [4] [] (fun _ _ => trivial) fun K' hK' => ?_
      repeat (refine sxf_next fun K2 hK2 => ?_; simp [dC]; (repeat (refine ⟨by omega, ?_⟩)); refine hK2 _ ?_; clear hK2 K2)
      refine sxf_nil (hK' _ ?_)
      refine AW.st (by simp [dC]; rfl) ?_
      clear hK' K'
      refine AW_ret ?_
      simp [D.le, D.le.go, takeMap, dC, hres0]
    rw [if_neg h3] at hres0
    obtain ⟨k, hk, hke⟩ := numP_pos h3
    have hgd : p.names.getD (numP p name).toNat ⟨[], 0, 0⟩ = p.names[k] := by
      rw [hke, Int.toNat_natCast, List.getD_eq_getElem?_getD, List.getElem?_eq_getElem hk]; rfl
    rw [hgd] at hres0
    refine AW_cond false (by simp [h3]) (fun h => by cases h) (fun _ => ?_)
    refine AW_skip (hK2 _ ?_)
    refine AW_then fun K3 hK3 => ?_
    have hcells : cNm p.names[k] = [dS p.names[k].name, .v (.int .i64 p.names[k].kind), .v (.int .i64 p.names[k].count)] := rfl
    generalize hkk : p.names[k].kind = kk at hres0 hcells
    refine' lateG (fun hrest => ?_) ?_
    rotate_left
    · have hk0 := h1
      by_cases hk1 : kind = 1
      · refine AW_rg (tyOf_good _) [2, 3, 5, 6] [] (fun _ _ => trivial) fun K' hK' => ?_
        repeat (refine sxf_next fun K2 hK2 => ?_; simp [dC, hk1]; (repeat (refine ⟨by omega, ?_⟩)); refine hK2 _ ?_; clear hK2 K2)
        refine sxf_nil (hK' _ ?_)
        refine AW.st (by simp [dC, hk1]; rfl) ?_
        clear hK' K'
        refine AW.st (show _ = (⟨lst [(2, .d (.ip [.sl none (p.names.map cNm), .sl none (p.rungs.map cRg)])), (3, .d (.ip [.v (.int .i64 kind), .v (.string (bs name)), .ifc tx cx])), (5, int (numP p name)), (6, int (wantP kind))], hlst []⟩ : St) by rw [hk1] <;> rfl) ?_
        exact hrest.out
      by_cases hk1 : kind = 2
      · refine AW_rg (tyOf_good _) [2, 3, 5, 6] [] (fun _ _ => trivial) fun K' hK' => ?_
        repeat (refine sxf_next fun K2 hK2 => ?_; simp [dC, hk1]; (repeat (refine ⟨by omega, ?_⟩)); refine hK2 _ ?_; clear hK2 K2)
        refine sxf_nil (hK' _ ?_)
        refine AW.st (by simp [dC, hk1]; rfl) ?_
        clear hK' K'
        refine AW.st (show _ = (⟨lst [(2, .d (.ip [.sl none (p.names.map cNm), .sl none (p.rungs.map cRg)])), (3, .d (.ip [.v (.int .i64 kind), .v (.string (bs name)), .ifc tx cx])), (5, int (numP p name)), (6, int (wantP kind))], hlst []⟩ : St) by rw [hk1] <;> rfl) ?_
        exact hrest.out
      by_cases hk1 : kind = 3
      · refine AW_rg (tyOf_good _) [2, 3, 5, 6] [] (fun _ _ => trivial) fun K' hK' => ?_
        repeat (refine sxf_next fun K2 hK2 => ?_; simp [dC, hk1]; (repeat (refine ⟨by omega, ?_⟩)); refine hK2 _ ?_; clear hK2 K2)
        refine sxf_nil (hK' _ ?_)
        refine AW.st (by simp [dC, hk1]; rfl) ?_
        clear hK' K'
        refine AW.st (show _ = (⟨lst [(2, .d (.ip [.sl none (p.names.map cNm), .sl none (p.rungs.map cRg)])), (3, .d (.ip [.v (.int .i64 kind), .v (.string (bs name)), .ifc tx cx])), (5, int (numP p name)), (6, int (wantP kind))], hlst []⟩ : St) by rw [hk1] <;> rfl) ?_
        exact hrest.out
      by_cases hk1 : kind = 4
      · refine AW_rg (tyOf_good _) [2, 3, 5, 6] [] (fun _ _ => trivial) fun K' hK' => ?_
        repeat (refine sxf_next fun K2 hK2 => ?_; simp [dC, hk1]; (repeat (refine ⟨by omega, ?_⟩)); refine hK2 _ ?_; clear hK2 K2)
        refine sxf_nil (hK' _ ?_)
        refine AW.st (by simp [dC, hk1]; rfl) ?_
        clear hK' K'
        refine AW.st (show _ = (⟨lst [(2, .d (.ip [.sl none (p.names.map cNm), .sl none (p.rungs.map cRg)])), (3, .d (.ip [.v (.int .i64 kind), .v (.string (bs name)), .ifc tx cx])), (5, int (numP p name)), (6, int (wantP kind))], hlst []⟩ : St) by rw [hk1] <;> rfl) ?_
        exact hrest.out
      by_cases hk1 : kind = 5
      · refine AW_rg (tyOf_good _) [2, 3, 5, 6] [] (fun _ _ => trivial) fun K' hK' => ?_
        repeat (refine sxf_next fun K2 hK2 => ?_; simp [dC, hk1]; (repeat (refine ⟨by omega, ?_⟩)); refine hK2 _ ?_; clear hK2 K2)
        refine sxf_nil (hK' _ ?_)
        refine AW.st (by simp [dC, hk1]; rfl) ?_
        clear hK' K'
        refine AW.st (show _ = (⟨lst [(2, .d (.ip [.sl none (p.names.map cNm), .sl none (p.rungs.map cRg)])), (3, .d (.ip [.v (.int .i64 kind), .v (.string (bs name)), .ifc tx cx])), (5, int (numP p name)), (6, int (wantP kind))], hlst []⟩ : St) by rw [hk1] <;> rfl) ?_
        exact hrest.out
      have hk1 : kind = 6 := by omega
      refine AW_rg (tyOf_good _) [2, 3, 5, 6] [] (fun _ _ => trivial) fun K' hK' => ?_
      repeat (refine sxf_next fun K2 hK2 => ?_; simp [dC, hk1]; (repeat (refine ⟨by omega, ?_⟩)); refine hK2 _ ?_; clear hK2 K2)
      refine sxf_nil (hK' _ ?_)
      refine AW.st (by simp [dC, hk1]; rfl) ?_
      clear hK' K'
      refine AW.st (show _ = (⟨lst [(2, .d (.ip [.sl none (p.names.map cNm), .sl none (p.rungs.map cRg)])), (3, .d (.ip [.v (.int .i64 kind), .v (.string (bs name)), .ifc tx cx])), (5, int (numP p name)), (6, int (wantP kind))], hlst []⟩ : St) by rw [hk1] <;> rfl) ?_
      exact hrest.out
    · rw [hke]
      refine AW_rg (tyOf_good _) [2, 3, 37] [] (fun _ _ => trivial) fun K' hK' => ?_
      repeat (refine sxf_next fun K2 hK2 => ?_; simp [dC, hk, hcells]; (repeat (refine ⟨by omega, ?_⟩)); refine hK2 _ ?_; clear hK2 K2)
      refine sxf_nil (hK' _ ?_)
      refine AW.st (by simp [dC, hk, hcells]; rfl) ?_
      clear hK' K'
      by_cases h4 : kk = wantP kind
      · rw [if_neg (by simp [h4])] at hres0
        refine AW_cond false (by simp [h4]) (fun h => by cases h) (fun _ => ?_)
        refine AW_skip (hK3 _ ?_)
        refine AW_then fun K4 hK4 => ?_
        refine AW_rg (tyOf_good _) [42] [] (fun _ _ => trivial) fun K' hK' => ?_
        repeat (refine sxf_next fun K2 hK2 => ?_; simp [dC]; (repeat (refine ⟨by omega, ?_⟩)); refine hK2 _ ?_; clear hK2 K2)
        refine sxf_next fun K2 hK2 => ?_
        simp [dC]
        refine callK.data (hns) (by simp; rfl) (by first | exact D.leGo_refl _ | simp [takeMap, List.map_map, Function.comp_def, D.le, D.le.go, D.le_refl, D.leGo_refl, dC]) ?_
        refine hK2 _ ?_
        clear hK2 K2
        simp only [putd, upd_lst]
        repeat (refine sxf_next fun K2 hK2 => ?_; simp [dC]; (repeat (refine ⟨by omega, ?_⟩)); refine hK2 _ ?_; clear hK2 K2)
        refine sxf_next fun K2 hK2 => ?_
        simp [dC]
        refine callK.data (hany) (by simp; rfl) (by first | exact D.leGo_refl _ | simp [takeMap, List.map_map, Function.comp_def, D.le, D.le.go, D.le_refl, D.leGo_refl, dC]) ?_
        refine hK2 _ ?_
        clear hK2 K2
        simp only [putd, upd_lst]
        repeat (refine sxf_next fun K2 hK2 => ?_; simp [dC]; (repeat (refine ⟨by omega, ?_⟩)); refine hK2 _ ?_; clear hK2 K2)
        refine sxf_nil (hK' _ ?_)
        refine AW.st (by simp [dC]; rfl) ?_
        clear hK' K'
        cases an with
        | true =>
          rw [if_pos rfl] at hres0
          refine AW_cond true rfl (fun _ => ?_) (fun h => by cases h)
          refine AW_rg (tyOf_good _) [4] [] (fun _ _ => trivial) fun K' hK' => ?_
          repeat (refine sxf_next fun K2 hK2 => ?_; simp [dC]; (repeat (refine ⟨by omega, ?_⟩)); refine hK2 _ ?_; clear hK2 K2)
          refine sxf_nil (hK' _ ?_)
          refine AW.st (by simp [dC]; rfl) ?_
          clear hK' K'
          refine AW_ret ?_
          simp [D.le, D.le.go, takeMap, dC, hres0]
        | false =>
          rw [if_neg (by decide)] at hres0
          refine AW_cond false rfl (fun h => by cases h) (fun _ => ?_)
          refine AW_skip (hK4 _ ?_)
          refine AW_rg (tyOf_good _) [4] [] (fun _ _ => trivial) fun K' hK' => ?_
          repeat (refine sxf_next fun K2 hK2 => ?_; simp [dC]; (repeat (refine ⟨by omega, ?_⟩)); refine hK2 _ ?_; clear hK2 K2)
          refine sxf_nil (hK' _ ?_)
          refine AW.st (by simp [dC]; rfl) ?_
          clear hK' K'
          refine AW_ret ?_
          simp [D.le, D.le.go, takeMap, dC, hres0]
      · rw [if_pos (fun h => h4 h.symm)] at hres0
        refine AW_cond true (by simp [h4]) (fun _ => ?_) (fun h => by cases h)
        refine AW_rg (tyOf_good _) [4] [] (fun _ _ => trivial) fun K' hK' => ?_
        repeat (refine sxf_next fun K2 hK2 => ?_; simp [dC]; (repeat (refine ⟨by omega, ?_⟩)); refine hK2 _ ?_; clear hK2 K2)
        refine sxf_nil (hK' _ ?_)
        refine AW.st (by simp [dC]; rfl) ?_
        clear hK' K'
        refine AW_ret ?_
        simp [D.le, D.le.go, takeMap, dC, hres0]
end Go.Proofs.YtnlhioeefmhklaaGreatDoor
