/-
  Texts that belong together, in one file: W2, U2, A7, V6, V8, W3, C1, C2, C3, C6, C7, R1.
-/
import Derived.Test.YtagfbbnlbncjlaaDoorEs17
/-
  The names of an expression: walk, sorted, Names, Edges.
-/
namespace Go.Proofs.YtagfbbnlbncjlaaDoor
set_option linter.unusedSimpArgs false
set_option linter.unusedVariables false
open Go.Av

/-- What a contact names; all: bits, too. -/
def nmE (all : Bool) : Ex → List UInt8
  | .bit s => if all then s else []
  | .rise s => s
  | .fall s => s
  | _ => []
def one1 (s : List UInt8) : List (List UInt8) := if s = [] then [] else [s]
mutual
def nmsE (all : Bool) : Ex → List (List UInt8)
  | .not e => nmsE all e
  | .and l => nmsL all l
  | .or l => nmsL all l
  | e => one1 (nmE all e)
def nmsL (all : Bool) : List Ex → List (List UInt8)
  | [] => []
  | e :: l => nmsE all e ++ nmsL all l
end
theorem nmsL_app (all : Bool) : ∀ a b : List Ex, nmsL all (a ++ b) = nmsL all a ++ nmsL all b
  | [], b => rfl
  | e :: a, b => by simp [nmsL, nmsL_app all a b]
theorem nmsL_take (all : Bool) {l : List Ex} {i : Nat} (hi : i < l.length) : nmsL all (l.take (i + 1)) = nmsL all (l.take i) ++ nmsE all l[i] := by
  rw [List.take_succ_eq_append_getElem hi, nmsL_app]
  simp [nmsL]
theorem nms_b (all : Bool) : ∀ (n : Nat) (e : Ex), SizeOf.sizeOf e ≤ n → (nmsE all e).length ≤ bE e
  | 0, e, hn => by cases e <;> simp at hn
  | n + 1, e, hn => by
    have many : ∀ l : List Ex, (∀ x ∈ l, SizeOf.sizeOf x ≤ n) → (nmsL all l).length ≤ bEs l := by
      intro l
      induction l with
      | nil => intro _; simp [nmsL]
      | cons x l ih =>
        intro h
        have a := ih fun y hy => h y (by simp [hy])
        have b := nms_b all n x (h x (by simp))
        simp only [nmsL, bEs, List.length_append]
        omega
    have hone : ∀ s, (one1 s).length ≤ 1 := fun s => by unfold one1; split <;> simp
    have hp := bE_pos e
    cases e with
    | not x => have := nms_b all n x (by simp at hn; omega); simp only [nmsE, bE]; omega
    | and l =>
      have := many l fun x hx => by have := List.sizeOf_lt_of_mem hx; simp only [Ex.and.sizeOf_spec] at hn; omega
      simp only [nmsE, bE]; omega
    | or l =>
      have := many l fun x hx => by have := List.sizeOf_lt_of_mem hx; simp only [Ex.or.sizeOf_spec] at hn; omega
      simp only [nmsE, bE]; omega
    | cst b => have := hone (nmE all (.cst b)); simp only [nmsE]; omega
    | bit s => have := hone (nmE all (.bit s)); simp only [nmsE]; omega
    | rise s => have := hone (nmE all (.rise s)); simp only [nmsE]; omega
    | fall s => have := hone (nmE all (.fall s)); simp only [nmsE]; omega
theorem nms_len (all : Bool) (e : Ex) : (nmsE all e).length ≤ bE e := nms_b all _ e (Nat.le_refl _)
theorem nmsL_len (all : Bool) : ∀ l : List Ex, (nmsL all l).length ≤ bEs l
  | [] => by simp [nmsL]
  | e :: l => by have := nms_len all e; have := nmsL_len all l; simp only [nmsL, bEs, List.length_append]; omega

/-- What is gathered. -/
def nRow (l : List (List UInt8)) : List (Nat × Row) := [(502, .box 33 [.own 503 0 l.length]), (503, .sl 9 1 (l.map fun s => [dS s]))]
def fnOf (all : Bool) : FuncId := if all then 20 else 28
set_option maxHeartbeats 8000000 in
theorem names1_spec (G : Glob) (e : Ex) : PureC Tryd.prog G 20 [dE e] (dS (nmE true e)) := by
  by_cases h1 : ∃ s, e = .bit s
  · obtain ⟨s, rfl⟩ := h1
    rw [dE]
    refine PureC.of_body (tyOf_good _) Tryd.func20 rfl rfl (rs := [.tmp 2]) Tryd.results20 (by simp [Tryd.ntmps20]) fun X => ?_
    simp only [Tryd.ntmps20, List.map]
    refine AW_rg (tyOf_good _) [0] [] (fun _ _ => trivial) fun K' hK' => ?_
    repeat (refine sxf_next fun K2 hK2 => ?_; simp [dNum, dS, pairA, assertA]; (repeat (refine ⟨by omega, ?_⟩)); refine hK2 _ ?_; clear hK2 K2)
    refine sxf_nil (hK' _ ?_)
    refine AW.st (by simp [dNum, dS, pairA, assertA]; rfl) ?_
    clear hK' K'
    refine AW_then fun K1 hK1 => ?_
    refine AW_rg (tyOf_good _) [6] [] (fun _ _ => trivial) fun K' hK' => ?_
    repeat (refine sxf_next fun K2 hK2 => ?_; simp [dNum, dS, pairA, assertA]; (repeat (refine ⟨by omega, ?_⟩)); refine hK2 _ ?_; clear hK2 K2)
    refine sxf_nil (hK' _ ?_)
    refine AW.st (by simp [dNum, dS, pairA, assertA]; rfl) ?_
    clear hK' K'
    refine AW_block ?_
    refine AW_rg (tyOf_good _) [6, 8, 9] [] (fun _ _ => trivial) fun K' hK' => ?_
    repeat (refine sxf_next fun K2 hK2 => ?_; simp [dNum, dS, pairA, assertA]; (repeat (refine ⟨by omega, ?_⟩)); refine hK2 _ ?_; clear hK2 K2)
    refine sxf_nil (hK' _ ?_)
    refine AW.st (by simp [dNum, dS, pairA, assertA]; rfl) ?_
    clear hK' K'
    refine AW_cond true rfl (fun _ => ?_) (fun h => by cases h)
    refine AW_rg (tyOf_good _) [3] [] (fun _ _ => trivial) fun K' hK' => ?_
    repeat (refine sxf_next fun K2 hK2 => ?_; simp [dNum, dS, pairA, assertA]; (repeat (refine ⟨by omega, ?_⟩)); refine hK2 _ ?_; clear hK2 K2)
    refine sxf_nil (hK' _ ?_)
    refine AW.st (by simp [dNum, dS, pairA, assertA]; rfl) ?_
    clear hK' K'
    refine AW_rg (tyOf_good _) [2] [] (fun _ _ => trivial) fun K' hK' => ?_
    repeat (refine sxf_next fun K2 hK2 => ?_; simp [dNum, dS, pairA, assertA]; (repeat (refine ⟨by omega, ?_⟩)); refine hK2 _ ?_; clear hK2 K2)
    refine sxf_nil (hK' _ ?_)
    refine AW.st (by simp [dNum, dS, pairA, assertA]; rfl) ?_
    clear hK' K'
    refine AW_ret ?_
    simp [D.le, D.le.go, takeMap, dNum, dS, pairA, assertA, nmE, dS, D.le_refl]
  by_cases h2 : ∃ s, e = .rise s
  · obtain ⟨s, rfl⟩ := h2
    rw [dE]
    refine PureC.of_body (tyOf_good _) Tryd.func20 rfl rfl (rs := [.tmp 2]) Tryd.results20 (by simp [Tryd.ntmps20]) fun X => ?_
    simp only [Tryd.ntmps20, List.map]
    refine AW_rg (tyOf_good _) [0] [] (fun _ _ => trivial) fun K' hK' => ?_
    repeat (refine sxf_next fun K2 hK2 => ?_; simp [dNum, dS, pairA, assertA]; (repeat (refine ⟨by omega, ?_⟩)); refine hK2 _ ?_; clear hK2 K2)
    refine sxf_nil (hK' _ ?_)
    refine AW.st (by simp [dNum, dS, pairA, assertA]; rfl) ?_
    clear hK' K'
    refine AW_then fun K1 hK1 => ?_
    refine AW_rg (tyOf_good _) [6] [] (fun _ _ => trivial) fun K' hK' => ?_
    repeat (refine sxf_next fun K2 hK2 => ?_; simp [dNum, dS, pairA, assertA]; (repeat (refine ⟨by omega, ?_⟩)); refine hK2 _ ?_; clear hK2 K2)
    refine sxf_nil (hK' _ ?_)
    refine AW.st (by simp [dNum, dS, pairA, assertA]; rfl) ?_
    clear hK' K'
    refine AW_block ?_
    refine AW_rg (tyOf_good _) [6, 8, 9] [] (fun _ _ => trivial) fun K' hK' => ?_
    repeat (refine sxf_next fun K2 hK2 => ?_; simp [dNum, dS, pairA, assertA]; (repeat (refine ⟨by omega, ?_⟩)); refine hK2 _ ?_; clear hK2 K2)
    refine sxf_nil (hK' _ ?_)
    refine AW.st (by simp [dNum, dS, pairA, assertA]; rfl) ?_
    clear hK' K'
    refine AW_cond false rfl (fun h => by cases h) (fun _ => ?_)
    refine AW_rg (tyOf_good _) [6, 12, 13] [] (fun _ _ => trivial) fun K' hK' => ?_
    repeat (refine sxf_next fun K2 hK2 => ?_; simp [dNum, dS, pairA, assertA]; (repeat (refine ⟨by omega, ?_⟩)); refine hK2 _ ?_; clear hK2 K2)
    refine sxf_nil (hK' _ ?_)
    refine AW.st (by simp [dNum, dS, pairA, assertA]; rfl) ?_
    clear hK' K'
    refine AW_cond true rfl (fun _ => ?_) (fun h => by cases h)
    refine AW_rg (tyOf_good _) [4] [] (fun _ _ => trivial) fun K' hK' => ?_
    repeat (refine sxf_next fun K2 hK2 => ?_; simp [dNum, dS, pairA, assertA]; (repeat (refine ⟨by omega, ?_⟩)); refine hK2 _ ?_; clear hK2 K2)
    refine sxf_nil (hK' _ ?_)
    refine AW.st (by simp [dNum, dS, pairA, assertA]; rfl) ?_
    clear hK' K'
    refine AW_rg (tyOf_good _) [2] [] (fun _ _ => trivial) fun K' hK' => ?_
    repeat (refine sxf_next fun K2 hK2 => ?_; simp [dNum, dS, pairA, assertA]; (repeat (refine ⟨by omega, ?_⟩)); refine hK2 _ ?_; clear hK2 K2)
    refine sxf_nil (hK' _ ?_)
    refine AW.st (by simp [dNum, dS, pairA, assertA]; rfl) ?_
    clear hK' K'
    refine AW_ret ?_
    simp [D.le, D.le.go, takeMap, dNum, dS, pairA, assertA, nmE, dS, D.le_refl]
  by_cases h3 : ∃ s, e = .fall s
  · obtain ⟨s, rfl⟩ := h3
    rw [dE]
    refine PureC.of_body (tyOf_good _) Tryd.func20 rfl rfl (rs := [.tmp 2]) Tryd.results20 (by simp [Tryd.ntmps20]) fun X => ?_
    simp only [Tryd.ntmps20, List.map]
    refine AW_rg (tyOf_good _) [0] [] (fun _ _ => trivial) fun K' hK' => ?_
    repeat (refine sxf_next fun K2 hK2 => ?_; simp [dNum, dS, pairA, assertA]; (repeat (refine ⟨by omega, ?_⟩)); refine hK2 _ ?_; clear hK2 K2)
    refine sxf_nil (hK' _ ?_)
    refine AW.st (by simp [dNum, dS, pairA, assertA]; rfl) ?_
    clear hK' K'
    refine AW_then fun K1 hK1 => ?_
    refine AW_rg (tyOf_good _) [6] [] (fun _ _ => trivial) fun K' hK' => ?_
    repeat (refine sxf_next fun K2 hK2 => ?_; simp [dNum, dS, pairA, assertA]; (repeat (refine ⟨by omega, ?_⟩)); refine hK2 _ ?_; clear hK2 K2)
    refine sxf_nil (hK' _ ?_)
    refine AW.st (by simp [dNum, dS, pairA, assertA]; rfl) ?_
    clear hK' K'
    refine AW_block ?_
    refine AW_rg (tyOf_good _) [6, 8, 9] [] (fun _ _ => trivial) fun K' hK' => ?_
    repeat (refine sxf_next fun K2 hK2 => ?_; simp [dNum, dS, pairA, assertA]; (repeat (refine ⟨by omega, ?_⟩)); refine hK2 _ ?_; clear hK2 K2)
    refine sxf_nil (hK' _ ?_)
    refine AW.st (by simp [dNum, dS, pairA, assertA]; rfl) ?_
    clear hK' K'
    refine AW_cond false rfl (fun h => by cases h) (fun _ => ?_)
    refine AW_rg (tyOf_good _) [6, 12, 13] [] (fun _ _ => trivial) fun K' hK' => ?_
    repeat (refine sxf_next fun K2 hK2 => ?_; simp [dNum, dS, pairA, assertA]; (repeat (refine ⟨by omega, ?_⟩)); refine hK2 _ ?_; clear hK2 K2)
    refine sxf_nil (hK' _ ?_)
    refine AW.st (by simp [dNum, dS, pairA, assertA]; rfl) ?_
    clear hK' K'
    refine AW_cond false rfl (fun h => by cases h) (fun _ => ?_)
    refine AW_rg (tyOf_good _) [16, 17] [] (fun _ _ => trivial) fun K' hK' => ?_
    repeat (refine sxf_next fun K2 hK2 => ?_; simp [dNum, dS, pairA, assertA]; (repeat (refine ⟨by omega, ?_⟩)); refine hK2 _ ?_; clear hK2 K2)
    refine sxf_nil (hK' _ ?_)
    refine AW.st (by simp [dNum, dS, pairA, assertA]; rfl) ?_
    clear hK' K'
    refine AW_cond true rfl (fun _ => ?_) (fun h => by cases h)
    refine AW_rg (tyOf_good _) [5] [] (fun _ _ => trivial) fun K' hK' => ?_
    repeat (refine sxf_next fun K2 hK2 => ?_; simp [dNum, dS, pairA, assertA]; (repeat (refine ⟨by omega, ?_⟩)); refine hK2 _ ?_; clear hK2 K2)
    refine sxf_nil (hK' _ ?_)
    refine AW.st (by simp [dNum, dS, pairA, assertA]; rfl) ?_
    clear hK' K'
    refine AW_rg (tyOf_good _) [2] [] (fun _ _ => trivial) fun K' hK' => ?_
    repeat (refine sxf_next fun K2 hK2 => ?_; simp [dNum, dS, pairA, assertA]; (repeat (refine ⟨by omega, ?_⟩)); refine hK2 _ ?_; clear hK2 K2)
    refine sxf_nil (hK' _ ?_)
    refine AW.st (by simp [dNum, dS, pairA, assertA]; rfl) ?_
    clear hK' K'
    refine AW_ret ?_
    simp [D.le, D.le.go, takeMap, dNum, dS, pairA, assertA, nmE, dS, D.le_refl]
  have hk : ∃ t c, dE e = .ifc t c ∧ ¬ t = 51 ∧ ¬ t = 52 ∧ ¬ t = 53 ∧ nmE true e = [] := by
    cases e with
    | bit s => exact absurd ⟨s, rfl⟩ h1
    | rise s => exact absurd ⟨s, rfl⟩ h2
    | fall s => exact absurd ⟨s, rfl⟩ h3
    | cst b => exact ⟨_, _, by rw [dE], by decide, by decide, by decide, rfl⟩
    | not b => exact ⟨_, _, by rw [dE], by decide, by decide, by decide, rfl⟩
    | and b => exact ⟨_, _, by rw [dE], by decide, by decide, by decide, rfl⟩
    | or b => exact ⟨_, _, by rw [dE], by decide, by decide, by decide, rfl⟩
  obtain ⟨t, c, hy, a1, a2, a3, a4⟩ := hk
  rw [a4, hy]
  refine PureC.of_body (tyOf_good _) Tryd.func20 rfl rfl (rs := [.tmp 2]) Tryd.results20 (by simp [Tryd.ntmps20]) fun X => ?_
  simp only [Tryd.ntmps20, List.map]
  refine AW_rg (tyOf_good _) [0] [] (fun _ _ => trivial) fun K' hK' => ?_
  repeat (refine sxf_next fun K2 hK2 => ?_; simp [dNum, dS, pairA, assertA]; (repeat (refine ⟨by omega, ?_⟩)); refine hK2 _ ?_; clear hK2 K2)
  refine sxf_nil (hK' _ ?_)
  refine AW.st (by simp [dNum, dS, pairA, assertA]; rfl) ?_
  clear hK' K'
  refine AW_then fun K1 hK1 => ?_
  refine AW_rg (tyOf_good _) [6] [] (fun _ _ => trivial) fun K' hK' => ?_
  repeat (refine sxf_next fun K2 hK2 => ?_; simp [dNum, dS, pairA, assertA]; (repeat (refine ⟨by omega, ?_⟩)); refine hK2 _ ?_; clear hK2 K2)
  refine sxf_nil (hK' _ ?_)
  refine AW.st (by simp [dNum, dS, pairA, assertA]; rfl) ?_
  clear hK' K'
  refine AW_block ?_
  refine AW_rg (tyOf_good _) [6, 8, 9] [] (fun _ _ => trivial) fun K' hK' => ?_
  repeat (refine sxf_next fun K2 hK2 => ?_; simp [dNum, dS, pairA, assertA, a1]; (repeat (refine ⟨by omega, ?_⟩)); refine hK2 _ ?_; clear hK2 K2)
  refine sxf_nil (hK' _ ?_)
  refine AW.st (by simp [dNum, dS, pairA, assertA, a1]; rfl) ?_
  clear hK' K'
  refine AW_cond false rfl (fun h => by cases h) (fun _ => ?_)
  refine AW_rg (tyOf_good _) [6, 12, 13] [] (fun _ _ => trivial) fun K' hK' => ?_
  repeat (refine sxf_next fun K2 hK2 => ?_; simp [dNum, dS, pairA, assertA, a2]; (repeat (refine ⟨by omega, ?_⟩)); refine hK2 _ ?_; clear hK2 K2)
  refine sxf_nil (hK' _ ?_)
  refine AW.st (by simp [dNum, dS, pairA, assertA, a2]; rfl) ?_
  clear hK' K'
  refine AW_cond false rfl (fun h => by cases h) (fun _ => ?_)
  refine AW_rg (tyOf_good _) [16, 17] [] (fun _ _ => trivial) fun K' hK' => ?_
  repeat (refine sxf_next fun K2 hK2 => ?_; simp [dNum, dS, pairA, assertA, a3]; (repeat (refine ⟨by omega, ?_⟩)); refine hK2 _ ?_; clear hK2 K2)
  refine sxf_nil (hK' _ ?_)
  refine AW.st (by simp [dNum, dS, pairA, assertA, a3]; rfl) ?_
  clear hK' K'
  refine AW_cond false rfl (fun h => by cases h) (fun _ => ?_)
  refine AW_skip (hK1 _ ?_)
  refine AW_rg (tyOf_good _) [2] [] (fun _ _ => trivial) fun K' hK' => ?_
  repeat (refine sxf_next fun K2 hK2 => ?_; simp [dNum, dS, pairA, assertA]; (repeat (refine ⟨by omega, ?_⟩)); refine hK2 _ ?_; clear hK2 K2)
  refine sxf_nil (hK' _ ?_)
  refine AW.st (by simp [dNum, dS, pairA, assertA]; rfl) ?_
  clear hK' K'
  refine AW_ret ?_
  simp [D.le, D.le.go, takeMap, dNum, dS, pairA, assertA, dS, bs_nil, D.le_refl]
set_option maxHeartbeats 8000000 in
theorem edges1_spec (G : Glob) (e : Ex) : PureC Tryd.prog G 28 [dE e] (dS (nmE false e)) := by
  by_cases h2 : ∃ s, e = .rise s
  · obtain ⟨s, rfl⟩ := h2
    rw [dE]
    refine PureC.of_body (tyOf_good _) Tryd.func28 rfl rfl (rs := [.tmp 2]) Tryd.results28 (by simp [Tryd.ntmps28]) fun X => ?_
    simp only [Tryd.ntmps28, List.map]
    refine AW_rg (tyOf_good _) [0] [] (fun _ _ => trivial) fun K' hK' => ?_
    repeat (refine sxf_next fun K2 hK2 => ?_; simp [dNum, dS, pairA, assertA]; (repeat (refine ⟨by omega, ?_⟩)); refine hK2 _ ?_; clear hK2 K2)
    refine sxf_nil (hK' _ ?_)
    refine AW.st (by simp [dNum, dS, pairA, assertA]; rfl) ?_
    clear hK' K'
    refine AW_then fun K1 hK1 => ?_
    refine AW_rg (tyOf_good _) [5] [] (fun _ _ => trivial) fun K' hK' => ?_
    repeat (refine sxf_next fun K2 hK2 => ?_; simp [dNum, dS, pairA, assertA]; (repeat (refine ⟨by omega, ?_⟩)); refine hK2 _ ?_; clear hK2 K2)
    refine sxf_nil (hK' _ ?_)
    refine AW.st (by simp [dNum, dS, pairA, assertA]; rfl) ?_
    clear hK' K'
    refine AW_block ?_
    refine AW_rg (tyOf_good _) [5, 7, 8] [] (fun _ _ => trivial) fun K' hK' => ?_
    repeat (refine sxf_next fun K2 hK2 => ?_; simp [dNum, dS, pairA, assertA]; (repeat (refine ⟨by omega, ?_⟩)); refine hK2 _ ?_; clear hK2 K2)
    refine sxf_nil (hK' _ ?_)
    refine AW.st (by simp [dNum, dS, pairA, assertA]; rfl) ?_
    clear hK' K'
    refine AW_cond true rfl (fun _ => ?_) (fun h => by cases h)
    refine AW_rg (tyOf_good _) [3] [] (fun _ _ => trivial) fun K' hK' => ?_
    repeat (refine sxf_next fun K2 hK2 => ?_; simp [dNum, dS, pairA, assertA]; (repeat (refine ⟨by omega, ?_⟩)); refine hK2 _ ?_; clear hK2 K2)
    refine sxf_nil (hK' _ ?_)
    refine AW.st (by simp [dNum, dS, pairA, assertA]; rfl) ?_
    clear hK' K'
    refine AW_rg (tyOf_good _) [2] [] (fun _ _ => trivial) fun K' hK' => ?_
    repeat (refine sxf_next fun K2 hK2 => ?_; simp [dNum, dS, pairA, assertA]; (repeat (refine ⟨by omega, ?_⟩)); refine hK2 _ ?_; clear hK2 K2)
    refine sxf_nil (hK' _ ?_)
    refine AW.st (by simp [dNum, dS, pairA, assertA]; rfl) ?_
    clear hK' K'
    refine AW_ret ?_
    simp [D.le, D.le.go, takeMap, dNum, dS, pairA, assertA, nmE, dS, D.le_refl]
  by_cases h3 : ∃ s, e = .fall s
  · obtain ⟨s, rfl⟩ := h3
    rw [dE]
    refine PureC.of_body (tyOf_good _) Tryd.func28 rfl rfl (rs := [.tmp 2]) Tryd.results28 (by simp [Tryd.ntmps28]) fun X => ?_
    simp only [Tryd.ntmps28, List.map]
    refine AW_rg (tyOf_good _) [0] [] (fun _ _ => trivial) fun K' hK' => ?_
    repeat (refine sxf_next fun K2 hK2 => ?_; simp [dNum, dS, pairA, assertA]; (repeat (refine ⟨by omega, ?_⟩)); refine hK2 _ ?_; clear hK2 K2)
    refine sxf_nil (hK' _ ?_)
    refine AW.st (by simp [dNum, dS, pairA, assertA]; rfl) ?_
    clear hK' K'
    refine AW_then fun K1 hK1 => ?_
    refine AW_rg (tyOf_good _) [5] [] (fun _ _ => trivial) fun K' hK' => ?_
    repeat (refine sxf_next fun K2 hK2 => ?_; simp [dNum, dS, pairA, assertA]; (repeat (refine ⟨by omega, ?_⟩)); refine hK2 _ ?_; clear hK2 K2)
    refine sxf_nil (hK' _ ?_)
    refine AW.st (by simp [dNum, dS, pairA, assertA]; rfl) ?_
    clear hK' K'
    refine AW_block ?_
    refine AW_rg (tyOf_good _) [5, 7, 8] [] (fun _ _ => trivial) fun K' hK' => ?_
    repeat (refine sxf_next fun K2 hK2 => ?_; simp [dNum, dS, pairA, assertA]; (repeat (refine ⟨by omega, ?_⟩)); refine hK2 _ ?_; clear hK2 K2)
    refine sxf_nil (hK' _ ?_)
    refine AW.st (by simp [dNum, dS, pairA, assertA]; rfl) ?_
    clear hK' K'
    refine AW_cond false rfl (fun h => by cases h) (fun _ => ?_)
    refine AW_rg (tyOf_good _) [11, 12] [] (fun _ _ => trivial) fun K' hK' => ?_
    repeat (refine sxf_next fun K2 hK2 => ?_; simp [dNum, dS, pairA, assertA]; (repeat (refine ⟨by omega, ?_⟩)); refine hK2 _ ?_; clear hK2 K2)
    refine sxf_nil (hK' _ ?_)
    refine AW.st (by simp [dNum, dS, pairA, assertA]; rfl) ?_
    clear hK' K'
    refine AW_cond true rfl (fun _ => ?_) (fun h => by cases h)
    refine AW_rg (tyOf_good _) [4] [] (fun _ _ => trivial) fun K' hK' => ?_
    repeat (refine sxf_next fun K2 hK2 => ?_; simp [dNum, dS, pairA, assertA]; (repeat (refine ⟨by omega, ?_⟩)); refine hK2 _ ?_; clear hK2 K2)
    refine sxf_nil (hK' _ ?_)
    refine AW.st (by simp [dNum, dS, pairA, assertA]; rfl) ?_
    clear hK' K'
    refine AW_rg (tyOf_good _) [2] [] (fun _ _ => trivial) fun K' hK' => ?_
    repeat (refine sxf_next fun K2 hK2 => ?_; simp [dNum, dS, pairA, assertA]; (repeat (refine ⟨by omega, ?_⟩)); refine hK2 _ ?_; clear hK2 K2)
    refine sxf_nil (hK' _ ?_)
    refine AW.st (by simp [dNum, dS, pairA, assertA]; rfl) ?_
    clear hK' K'
    refine AW_ret ?_
    simp [D.le, D.le.go, takeMap, dNum, dS, pairA, assertA, nmE, dS, D.le_refl]
  have hk : ∃ t c, dE e = .ifc t c ∧ ¬ t = 52 ∧ ¬ t = 53 ∧ nmE false e = [] := by
    cases e with
    | rise s => exact absurd ⟨s, rfl⟩ h2
    | fall s => exact absurd ⟨s, rfl⟩ h3
    | cst b => exact ⟨_, _, by rw [dE], by decide, by decide, rfl⟩
    | bit b => exact ⟨_, _, by rw [dE], by decide, by decide, rfl⟩
    | not b => exact ⟨_, _, by rw [dE], by decide, by decide, rfl⟩
    | and b => exact ⟨_, _, by rw [dE], by decide, by decide, rfl⟩
    | or b => exact ⟨_, _, by rw [dE], by decide, by decide, rfl⟩
  obtain ⟨t, c, hy, a2, a3, a4⟩ := hk
  rw [a4, hy]
  refine PureC.of_body (tyOf_good _) Tryd.func28 rfl rfl (rs := [.tmp 2]) Tryd.results28 (by simp [Tryd.ntmps28]) fun X => ?_
  simp only [Tryd.ntmps28, List.map]
  refine AW_rg (tyOf_good _) [0] [] (fun _ _ => trivial) fun K' hK' => ?_
  repeat (refine sxf_next fun K2 hK2 => ?_; simp [dNum, dS, pairA, assertA]; (repeat (refine ⟨by omega, ?_⟩)); refine hK2 _ ?_; clear hK2 K2)
  refine sxf_nil (hK' _ ?_)
  refine AW.st (by simp [dNum, dS, pairA, assertA]; rfl) ?_
  clear hK' K'
  refine AW_then fun K1 hK1 => ?_
  refine AW_rg (tyOf_good _) [5] [] (fun _ _ => trivial) fun K' hK' => ?_
  repeat (refine sxf_next fun K2 hK2 => ?_; simp [dNum, dS, pairA, assertA]; (repeat (refine ⟨by omega, ?_⟩)); refine hK2 _ ?_; clear hK2 K2)
  refine sxf_nil (hK' _ ?_)
  refine AW.st (by simp [dNum, dS, pairA, assertA]; rfl) ?_
  clear hK' K'
  refine AW_block ?_
  refine AW_rg (tyOf_good _) [5, 7, 8] [] (fun _ _ => trivial) fun K' hK' => ?_
  repeat (refine sxf_next fun K2 hK2 => ?_; simp [dNum, dS, pairA, assertA, a2]; (repeat (refine ⟨by omega, ?_⟩)); refine hK2 _ ?_; clear hK2 K2)
  refine sxf_nil (hK' _ ?_)
  refine AW.st (by simp [dNum, dS, pairA, assertA, a2]; rfl) ?_
  clear hK' K'
  refine AW_cond false rfl (fun h => by cases h) (fun _ => ?_)
  refine AW_rg (tyOf_good _) [11, 12] [] (fun _ _ => trivial) fun K' hK' => ?_
  repeat (refine sxf_next fun K2 hK2 => ?_; simp [dNum, dS, pairA, assertA, a3]; (repeat (refine ⟨by omega, ?_⟩)); refine hK2 _ ?_; clear hK2 K2)
  refine sxf_nil (hK' _ ?_)
  refine AW.st (by simp [dNum, dS, pairA, assertA, a3]; rfl) ?_
  clear hK' K'
  refine AW_cond false rfl (fun h => by cases h) (fun _ => ?_)
  refine AW_skip (hK1 _ ?_)
  refine AW_rg (tyOf_good _) [2] [] (fun _ _ => trivial) fun K' hK' => ?_
  repeat (refine sxf_next fun K2 hK2 => ?_; simp [dNum, dS, pairA, assertA]; (repeat (refine ⟨by omega, ?_⟩)); refine hK2 _ ?_; clear hK2 K2)
  refine sxf_nil (hK' _ ?_)
  refine AW.st (by simp [dNum, dS, pairA, assertA]; rfl) ?_
  clear hK' K'
  refine AW_ret ?_
  simp [D.le, D.le.go, takeMap, dNum, dS, pairA, assertA, dS, bs_nil, D.le_refl]
theorem name1_spec (G : Glob) (all : Bool) (e : Ex) : PureC Tryd.prog G (fnOf all) [dE e] (dS (nmE all e)) := by
  cases all with
  | true => exact names1_spec G e
  | false => exact edges1_spec G e

set_option maxHeartbeats 8000000 in
theorem gather_spec (G : Glob) (all : Bool) (l : List (List UInt8)) (e : Ex) (hl : l.length < 2^40) : MC Tryd.prog G [502] 30 ([.d (dE e)] ++ [.d (.ip [.fn (.func (fnOf all)) []]), .ref 502 0 0]) (hlst (nRow l)) (.d (.tup [])) (hlst (nRow (l ++ one1 (nmE all e)))) := by
  have hn := name1_spec G all e
  obtain ⟨t, c, hx⟩ := dE_ifc e
  rw [hx] at hn ⊢
  generalize fnOf all = g at hn ⊢
  generalize nmE all e = s at hn ⊢
  by_cases hs : s = []
  · subst hs
    have he : l ++ one1 [] = l := by simp [one1]
    rw [he]
    refine MC.of_body (tyOf_good _) Tryd.func30 rfl rfl (rs := []) Tryd.results30 (by simp [Tryd.ntmps30]) rfl fun X => ?_
    simp only [Tryd.ntmps30]
    refine AW_rg (tyOf_good _) [2, 4] [502, 503] (notIn_ok rfl) fun K' hK' => ?_
    repeat (refine sxf_next fun K2 hK2 => ?_; simp [dNum, dS, nRow]; (repeat (refine ⟨by omega, ?_⟩)); refine hK2 _ ?_; clear hK2 K2)
    refine sxf_next fun K2 hK2 => ?_
    simp [dNum, dS, nRow]
    refine callK.data (hn) (by simp; rfl) (by first | exact D.leGo_refl _ | simp [takeMap, List.map_map, Function.comp_def, D.le, D.le.go, D.le_refl, D.leGo_refl, dNum, dS, nRow]) ?_
    refine hK2 _ ?_
    clear hK2 K2
    simp only [putd, upd_lst]
    repeat (refine sxf_next fun K2 hK2 => ?_; simp [dNum, dS, nRow]; (repeat (refine ⟨by omega, ?_⟩)); refine hK2 _ ?_; clear hK2 K2)
    refine sxf_nil (hK' _ ?_)
    refine AW.st (by simp [dNum, dS, nRow]; rfl) ?_
    clear hK' K'
    refine AW_rg (tyOf_good _) [2, 4, 9] [502, 503] (notIn_ok rfl) fun K' hK' => ?_
    repeat (refine sxf_next fun K2 hK2 => ?_; simp [dNum, dS, nRow, binS, bs_list, bs_nil]; (repeat (refine ⟨by omega, ?_⟩)); refine hK2 _ ?_; clear hK2 K2)
    refine sxf_nil (hK' _ ?_)
    refine AW.st (by simp [dNum, dS, nRow, binS, bs_list, bs_nil]; rfl) ?_
    clear hK' K'
    refine AW_cond false rfl (fun h => by cases h) (fun _ => ?_)
    refine AW_skip ?_
    simp [D.le_refl, nRow, dS]
  · have he : one1 s = [s] := by unfold one1; rw [if_neg hs]
    have hse : s.isEmpty = false := by rw [List.isEmpty_eq_false_iff]; exact hs
    have hsb : (s == []) = false := by simpa using hs
    rw [he]
    refine MC.of_body (tyOf_good _) Tryd.func30 rfl rfl (rs := []) Tryd.results30 (by simp [Tryd.ntmps30]) rfl fun X => ?_
    simp only [Tryd.ntmps30]
    refine AW_rg (tyOf_good _) [2, 4] [502, 503] (notIn_ok rfl) fun K' hK' => ?_
    repeat (refine sxf_next fun K2 hK2 => ?_; simp [dNum, dS, nRow]; (repeat (refine ⟨by omega, ?_⟩)); refine hK2 _ ?_; clear hK2 K2)
    refine sxf_next fun K2 hK2 => ?_
    simp [dNum, dS, nRow]
    refine callK.data (hn) (by simp; rfl) (by first | exact D.leGo_refl _ | simp [takeMap, List.map_map, Function.comp_def, D.le, D.le.go, D.le_refl, D.leGo_refl, dNum, dS, nRow]) ?_
    refine hK2 _ ?_
    clear hK2 K2
    simp only [putd, upd_lst]
    repeat (refine sxf_next fun K2 hK2 => ?_; simp [dNum, dS, nRow]; (repeat (refine ⟨by omega, ?_⟩)); refine hK2 _ ?_; clear hK2 K2)
    refine sxf_nil (hK' _ ?_)
    refine AW.st (by simp [dNum, dS, nRow]; rfl) ?_
    clear hK' K'
    refine AW_rg (tyOf_good _) [2, 4, 9] [502, 503] (notIn_ok rfl) fun K' hK' => ?_
    repeat (refine sxf_next fun K2 hK2 => ?_; simp [dNum, dS, nRow, binS, bs_list, bs_nil, hs, hse, hsb]; (repeat (refine ⟨by omega, ?_⟩)); refine hK2 _ ?_; clear hK2 K2)
    refine sxf_nil (hK' _ ?_)
    refine AW.st (by simp [dNum, dS, nRow, binS, bs_list, bs_nil, hs, hse, hsb]; rfl) ?_
    clear hK' K'
    refine AW_cond true rfl (fun _ => ?_) (fun h => by cases h)
    refine AW_re (tyOf_good _) fun K' hK' => ?_
    repeat (refine sxf_next fun K2 hK2 => ?_; simp [dNum, dS, nRow, List.take_of_length_le]; (repeat (refine ⟨by omega, ?_⟩)); refine hK2 _ ?_; clear hK2 K2)
    refine sxf_nil (hK' _ ?_)
    clear hK' K'
    try simp only [thn, inb]
    simp [D.le_refl, nRow, dS]

set_option maxHeartbeats 16000000 in
theorem walkN_at (G : Glob) (all : Bool) : ∀ (m : Nat) (e : Ex), SizeOf.sizeOf e ≤ m → ∀ l0 : List (List UInt8), l0.length + bE e ≤ 2^39 → MC Tryd.prog G [502] 29 [.d (dE e), .fn (.func 30) [.d (.ip [.fn (.func (fnOf all)) []]), .ref 502 0 0]] (hlst (nRow l0)) (.d (.tup [])) (hlst (nRow (l0 ++ nmsE all e))) := by
  intro m
  induction m with
  | zero => intro e hsz; cases e <;> simp at hsz
  | succ m ih =>
    intro e hsz l0 hb
    have hbp := bE_pos e
    by_cases hN : ∃ x, e = .not x
    · obtain ⟨x, rfl⟩ := hN
      simp only [bE] at hb
      obtain ⟨tx, cx, hx⟩ := dE_ifc x
      have hs1 := gather_spec G all l0 (.not x) (by omega)
      have hnil : one1 (nmE all (.not x)) = [] := rfl
      rw [hnil, List.append_nil, List.singleton_append] at hs1
      have hc := ih x (by simp at hsz; omega) l0 (by omega)
      rw [nmsE]
      rw [dE, hx]
      rw [dE, hx] at hs1
      rw [hx] at hc
      generalize l0 ++ nmsE all x = l1 at hc ⊢
      generalize fnOf all = g at hc hs1 ⊢
      refine MC.of_body (tyOf_good _) Tryd.func29 rfl rfl (rs := []) Tryd.results29 (by simp [Tryd.ntmps29]) rfl fun X => ?_
      simp only [Tryd.ntmps29]
      refine AW_rg (tyOf_good _) [0, 1] [502, 503] (notIn_ok rfl) fun K' hK' => ?_
      repeat (refine sxf_next fun K2 hK2 => ?_; simp [dNum, dS, nRow, pairA, assertA]; (repeat (refine ⟨by omega, ?_⟩)); refine hK2 _ ?_; clear hK2 K2)
      refine sxf_next fun K2 hK2 => ?_
      simp [dNum, dS, nRow, pairA, assertA]
      refine callK.mc (hs1) (by simp [dNum, dS, nRow, pairA, assertA]) (by simp [dNum, dS, nRow, pairA, assertA]) (by simp [dNum, dS, nRow, pairA, assertA]) (by simp [dNum, dS, nRow, pairA, assertA]) ?_
      simp [dNum, dS, nRow, pairA, assertA]
      refine hK2 _ ?_
      clear hK2 K2
      repeat (refine sxf_next fun K2 hK2 => ?_; simp [dNum, dS, nRow, pairA, assertA]; (repeat (refine ⟨by omega, ?_⟩)); refine hK2 _ ?_; clear hK2 K2)
      refine sxf_nil (hK' _ ?_)
      refine AW.st (by simp [dNum, dS, nRow, pairA, assertA]; rfl) ?_
      clear hK' K'
      refine AW_rg (tyOf_good _) [1, 14] [502, 503] (notIn_ok rfl) fun K' hK' => ?_
      repeat (refine sxf_next fun K2 hK2 => ?_; simp [dNum, dS, nRow, pairA, assertA]; (repeat (refine ⟨by omega, ?_⟩)); refine hK2 _ ?_; clear hK2 K2)
      refine sxf_nil (hK' _ ?_)
      refine AW.st (by simp [dNum, dS, nRow, pairA, assertA]; rfl) ?_
      clear hK' K'
      refine AW_block ?_
      refine AW_rg (tyOf_good _) [1, 14, 16, 17] [502, 503] (notIn_ok rfl) fun K' hK' => ?_
      repeat (refine sxf_next fun K2 hK2 => ?_; simp [dNum, dS, nRow, pairA, assertA]; (repeat (refine ⟨by omega, ?_⟩)); refine hK2 _ ?_; clear hK2 K2)
      refine sxf_nil (hK' _ ?_)
      refine AW.st (by simp [dNum, dS, nRow, pairA, assertA]; rfl) ?_
      clear hK' K'
      refine AW_cond true rfl (fun _ => ?_) (fun h => by cases h)
      refine AW_rg (tyOf_good _) [1, 4] [4, 502, 503] (notIn_ok rfl) fun K' hK' => ?_
      repeat (refine sxf_next fun K2 hK2 => ?_; simp [dNum, dS, nRow, pairA, assertA]; (repeat (refine ⟨by omega, ?_⟩)); refine hK2 _ ?_; clear hK2 K2)
      refine sxf_nil (hK' _ ?_)
      refine AW.st (by simp [dNum, dS, nRow, pairA, assertA]; rfl) ?_
      clear hK' K'
      refine AW_re (tyOf_good _) fun K' hK' => ?_
      repeat (refine sxf_next fun K2 hK2 => ?_; simp [dNum, dS, nRow, pairA, assertA]; (repeat (refine ⟨by omega, ?_⟩)); refine hK2 _ ?_; clear hK2 K2)
      refine sxf_next fun K2 hK2 => ?_
      simp [dNum, dS, nRow, pairA, assertA]
      refine callK.mc (hc) (by simp [dNum, dS, nRow, pairA, assertA]) (by simp [dNum, dS, nRow, pairA, assertA]) (by simp [dNum, dS, nRow, pairA, assertA]) (by simp [dNum, dS, nRow, pairA, assertA]) ?_
      simp [dNum, dS, nRow, pairA, assertA]
      refine hK2 _ ?_
      clear hK2 K2
      repeat (refine sxf_next fun K2 hK2 => ?_; simp [dNum, dS, nRow, pairA, assertA]; (repeat (refine ⟨by omega, ?_⟩)); refine hK2 _ ?_; clear hK2 K2)
      refine sxf_nil (hK' _ ?_)
      clear hK' K'
      try simp only [thn, inb]
      simp [D.le_refl, nRow, dS]
    by_cases hand : ∃ l, e = .and l
    · obtain ⟨l, rfl⟩ := hand
      simp only [bE] at hb
      have hs1 := gather_spec G all l0 (.and l) (by omega)
      have hnil : one1 (nmE all (.and l)) = [] := rfl
      rw [hnil, List.append_nil, List.singleton_append] at hs1
      have hch := fun (x : Ex) (hx : x ∈ l) => ih x (by have := List.sizeOf_lt_of_mem hx; simp only [Ex.and.sizeOf_spec] at hsz; omega)
      have hln := bEs_len l
      rw [nmsE]
      rw [dE, dEs_map]
      rw [dE, dEs_map] at hs1
      clear ih
      generalize hg : fnOf all = g at hch hs1 ⊢
      refine MC.of_body (tyOf_good _) Tryd.func29 rfl rfl (rs := []) Tryd.results29 (by simp [Tryd.ntmps29]) rfl fun X => ?_
      simp only [Tryd.ntmps29]
      refine AW_rg (tyOf_good _) [0, 1] [502, 503] (notIn_ok rfl) fun K' hK' => ?_
      repeat (refine sxf_next fun K2 hK2 => ?_; simp [dNum, dS, nRow, pairA, assertA]; (repeat (refine ⟨by omega, ?_⟩)); refine hK2 _ ?_; clear hK2 K2)
      refine sxf_next fun K2 hK2 => ?_
      simp [dNum, dS, nRow, pairA, assertA]
      refine callK.mc (hs1) (by simp [dNum, dS, nRow, pairA, assertA]) (by simp [dNum, dS, nRow, pairA, assertA]) (by simp [dNum, dS, nRow, pairA, assertA]) (by simp [dNum, dS, nRow, pairA, assertA]) ?_
      simp [dNum, dS, nRow, pairA, assertA]
      refine hK2 _ ?_
      clear hK2 K2
      repeat (refine sxf_next fun K2 hK2 => ?_; simp [dNum, dS, nRow, pairA, assertA]; (repeat (refine ⟨by omega, ?_⟩)); refine hK2 _ ?_; clear hK2 K2)
      refine sxf_nil (hK' _ ?_)
      refine AW.st (by simp [dNum, dS, nRow, pairA, assertA]; rfl) ?_
      clear hK' K'
      refine AW_rg (tyOf_good _) [1, 14] [502, 503] (notIn_ok rfl) fun K' hK' => ?_
      repeat (refine sxf_next fun K2 hK2 => ?_; simp [dNum, dS, nRow, pairA, assertA]; (repeat (refine ⟨by omega, ?_⟩)); refine hK2 _ ?_; clear hK2 K2)
      refine sxf_nil (hK' _ ?_)
      refine AW.st (by simp [dNum, dS, nRow, pairA, assertA]; rfl) ?_
      clear hK' K'
      refine AW_block ?_
      refine AW_rg (tyOf_good _) [1, 14, 16, 17] [502, 503] (notIn_ok rfl) fun K' hK' => ?_
      repeat (refine sxf_next fun K2 hK2 => ?_; simp [dNum, dS, nRow, pairA, assertA]; (repeat (refine ⟨by omega, ?_⟩)); refine hK2 _ ?_; clear hK2 K2)
      refine sxf_nil (hK' _ ?_)
      refine AW.st (by simp [dNum, dS, nRow, pairA, assertA]; rfl) ?_
      clear hK' K'
      refine AW_cond false rfl (fun h => by cases h) (fun _ => ?_)
      refine AW_rg (tyOf_good _) [1, 14, 23, 24] [502, 503] (notIn_ok rfl) fun K' hK' => ?_
      repeat (refine sxf_next fun K2 hK2 => ?_; simp [dNum, dS, nRow, pairA, assertA]; (repeat (refine ⟨by omega, ?_⟩)); refine hK2 _ ?_; clear hK2 K2)
      refine sxf_nil (hK' _ ?_)
      refine AW.st (by simp [dNum, dS, nRow, pairA, assertA]; rfl) ?_
      clear hK' K'
      refine AW_cond true rfl (fun _ => ?_) (fun h => by cases h)
      refine AW_rg (tyOf_good _) [1, 5] [502, 503] (notIn_ok rfl) fun K' hK' => ?_
      repeat (refine sxf_next fun K2 hK2 => ?_; simp [dNum, dS, nRow, pairA, assertA]; (repeat (refine ⟨by omega, ?_⟩)); refine hK2 _ ?_; clear hK2 K2)
      refine sxf_nil (hK' _ ?_)
      refine AW.st (by simp [dNum, dS, nRow, pairA, assertA]; rfl) ?_
      clear hK' K'
      refine AW_rg (tyOf_good _) [1, 25, 26, 27] [502, 503] (notIn_ok rfl) fun K' hK' => ?_
      repeat (refine sxf_next fun K2 hK2 => ?_; simp [dNum, dS, nRow, pairA, assertA]; (repeat (refine ⟨by omega, ?_⟩)); refine hK2 _ ?_; clear hK2 K2)
      refine sxf_nil (hK' _ ?_)
      refine AW.st (by simp [dNum, dS, nRow, pairA, assertA]; rfl) ?_
      clear hK' K'
      refine AW_for (S := Nat) (fun i => i ≤ l.length) (fun i => ⟨lst [(1, .fn (.func 30) [.d (.ip [.fn (.func g) []]), .ref 502 0 0]), (25, .d (.sl none (l.map fun e => [dE e]))), (26, int l.length), (27, int i)], hlst (nRow (l0 ++ nmsL all (l.take i)))⟩) (fun i => l.length - i) 0 ?_ (by omega) ?_
      · refine Imp.to' (notIn_ok rfl) (by simp [dNum, dS, nRow, pairA, assertA, nmsL]) (by simp [dNum, dS, nRow, pairA, assertA, nmsL])
      · intro i hi
        refine AW_rg (tyOf_good _) [1, 25, 26, 27, 28] [502, 503] (notIn_ok rfl) fun K' hK' => ?_
        repeat (refine sxf_next fun K2 hK2 => ?_; simp [dNum, dS, nRow, pairA, assertA]; (repeat (refine ⟨by omega, ?_⟩)); refine hK2 _ ?_; clear hK2 K2)
        refine sxf_nil (hK' _ ?_)
        refine AW.st (by simp [dNum, dS, nRow, pairA, assertA]; rfl) ?_
        clear hK' K'
        refine AW_then fun K1 hK1 => ?_
        refine AW_cond' (b := i < l.length) (by simp [D.le, D.le.go, takeMap, dNum, dS, nRow, pairA, assertA]) (fun hc => ?_) (fun hc => ?_)
        · have hil : i < l.length := hc
          have h1 := nmsL_take all hil
          have h2 := nmsL_len all (l.take i)
          have h3 := bEs_take hil
          have hcc := hch _ (List.getElem_mem hil) (l0 ++ nmsL all (l.take i)) (by rw [List.length_append]; omega)
          rw [List.append_assoc, ← h1] at hcc
          obtain ⟨tx, cx, hx⟩ := dE_ifc l[i]
          rw [hx] at hcc
          refine AW_skip (hK1 _ ?_)
          refine AW_then fun K2 hK2 => ?_
          refine AW_block ?_
          refine AW_rg (tyOf_good _) [1, 7, 25, 26, 27] [502, 503] (notIn_ok rfl) fun K' hK' => ?_
          repeat (refine sxf_next fun K2 hK2 => ?_; simp [dNum, dS, nRow, pairA, assertA, hil, hx]; (repeat (refine ⟨by omega, ?_⟩)); refine hK2 _ ?_; clear hK2 K2)
          refine sxf_nil (hK' _ ?_)
          refine AW.st (by simp [dNum, dS, nRow, pairA, assertA, hil, hx]; rfl) ?_
          clear hK' K'
          refine AW_re (tyOf_good _) fun K' hK' => ?_
          repeat (refine sxf_next fun K2 hK2 => ?_; simp [dNum, dS, nRow, pairA, assertA]; (repeat (refine ⟨by omega, ?_⟩)); refine hK2 _ ?_; clear hK2 K2)
          refine sxf_next fun K2 hK2 => ?_
          simp [dNum, dS, nRow, pairA, assertA]
          refine callK.mc (hcc) (by simp [dNum, dS, nRow, pairA, assertA]) (by simp [dNum, dS, nRow, pairA, assertA]) (by simp [dNum, dS, nRow, pairA, assertA]) (by simp [dNum, dS, nRow, pairA, assertA]) ?_
          simp [dNum, dS, nRow, pairA, assertA]
          refine hK2 _ ?_
          clear hK2 K2
          repeat (refine sxf_next fun K2 hK2 => ?_; simp [dNum, dS, nRow, pairA, assertA]; (repeat (refine ⟨by omega, ?_⟩)); refine hK2 _ ?_; clear hK2 K2)
          refine sxf_nil (hK' _ ?_)
          clear hK' K'
          refine hK2 _ (AW.norm [1, 25, 26, 27] [502, 503] (notIn_ok rfl) (AW.st (by simp [dNum, dS, nRow, pairA, assertA]; rfl) ?_))
          refine AW_re (tyOf_good _) fun K' hK' => ?_
          repeat (refine sxf_next fun K2 hK2 => ?_; simp [dNum, dS, nRow, pairA, assertA]; (repeat (refine ⟨by omega, ?_⟩)); refine hK2 _ ?_; clear hK2 K2)
          refine sxf_nil (hK' _ ?_)
          clear hK' K'
          try simp only [thn, inb]
          refine Again.mk (i + 1) (by omega) (by omega) ?_
          refine Imp.to' (notIn_ok rfl) (by simp [dNum, dS, nRow, pairA, assertA]) (by simp [dNum, dS, nRow, pairA, assertA])
        · obtain rfl : i = l.length := by omega
          refine AW_exit ?_
          simp [D.le_refl, List.take_length, nRow, dS]
    by_cases hor : ∃ l, e = .or l
    · obtain ⟨l, rfl⟩ := hor
      simp only [bE] at hb
      have hs1 := gather_spec G all l0 (.or l) (by omega)
      have hnil : one1 (nmE all (.or l)) = [] := rfl
      rw [hnil, List.append_nil, List.singleton_append] at hs1
      have hch := fun (x : Ex) (hx : x ∈ l) => ih x (by have := List.sizeOf_lt_of_mem hx; simp only [Ex.or.sizeOf_spec] at hsz; omega)
      have hln := bEs_len l
      rw [nmsE]
      rw [dE, dEs_map]
      rw [dE, dEs_map] at hs1
      clear ih
      generalize hg : fnOf all = g at hch hs1 ⊢
      refine MC.of_body (tyOf_good _) Tryd.func29 rfl rfl (rs := []) Tryd.results29 (by simp [Tryd.ntmps29]) rfl fun X => ?_
      simp only [Tryd.ntmps29]
      refine AW_rg (tyOf_good _) [0, 1] [502, 503] (notIn_ok rfl) fun K' hK' => ?_
      repeat (refine sxf_next fun K2 hK2 => ?_; simp [dNum, dS, nRow, pairA, assertA]; (repeat (refine ⟨by omega, ?_⟩)); refine hK2 _ ?_; clear hK2 K2)
      refine sxf_next fun K2 hK2 => ?_
      simp [dNum, dS, nRow, pairA, assertA]
      refine callK.mc (hs1) (by simp [dNum, dS, nRow, pairA, assertA]) (by simp [dNum, dS, nRow, pairA, assertA]) (by simp [dNum, dS, nRow, pairA, assertA]) (by simp [dNum, dS, nRow, pairA, assertA]) ?_
      simp [dNum, dS, nRow, pairA, assertA]
      refine hK2 _ ?_
      clear hK2 K2
      repeat (refine sxf_next fun K2 hK2 => ?_; simp [dNum, dS, nRow, pairA, assertA]; (repeat (refine ⟨by omega, ?_⟩)); refine hK2 _ ?_; clear hK2 K2)
      refine sxf_nil (hK' _ ?_)
      refine AW.st (by simp [dNum, dS, nRow, pairA, assertA]; rfl) ?_
      clear hK' K'
      refine AW_rg (tyOf_good _) [1, 14] [502, 503] (notIn_ok rfl) fun K' hK' => ?_
      repeat (refine sxf_next fun K2 hK2 => ?_; simp [dNum, dS, nRow, pairA, assertA]; (repeat (refine ⟨by omega, ?_⟩)); refine hK2 _ ?_; clear hK2 K2)
      refine sxf_nil (hK' _ ?_)
      refine AW.st (by simp [dNum, dS, nRow, pairA, assertA]; rfl) ?_
      clear hK' K'
      refine AW_block ?_
      refine AW_rg (tyOf_good _) [1, 14, 16, 17] [502, 503] (notIn_ok rfl) fun K' hK' => ?_
      repeat (refine sxf_next fun K2 hK2 => ?_; simp [dNum, dS, nRow, pairA, assertA]; (repeat (refine ⟨by omega, ?_⟩)); refine hK2 _ ?_; clear hK2 K2)
      refine sxf_nil (hK' _ ?_)
      refine AW.st (by simp [dNum, dS, nRow, pairA, assertA]; rfl) ?_
      clear hK' K'
      refine AW_cond false rfl (fun h => by cases h) (fun _ => ?_)
      refine AW_rg (tyOf_good _) [1, 14, 23, 24] [502, 503] (notIn_ok rfl) fun K' hK' => ?_
      repeat (refine sxf_next fun K2 hK2 => ?_; simp [dNum, dS, nRow, pairA, assertA]; (repeat (refine ⟨by omega, ?_⟩)); refine hK2 _ ?_; clear hK2 K2)
      refine sxf_nil (hK' _ ?_)
      refine AW.st (by simp [dNum, dS, nRow, pairA, assertA]; rfl) ?_
      clear hK' K'
      refine AW_cond false rfl (fun h => by cases h) (fun _ => ?_)
      refine AW_rg (tyOf_good _) [1, 36, 37] [502, 503] (notIn_ok rfl) fun K' hK' => ?_
      repeat (refine sxf_next fun K2 hK2 => ?_; simp [dNum, dS, nRow, pairA, assertA]; (repeat (refine ⟨by omega, ?_⟩)); refine hK2 _ ?_; clear hK2 K2)
      refine sxf_nil (hK' _ ?_)
      refine AW.st (by simp [dNum, dS, nRow, pairA, assertA]; rfl) ?_
      clear hK' K'
      refine AW_cond true rfl (fun _ => ?_) (fun h => by cases h)
      refine AW_rg (tyOf_good _) [1, 8] [502, 503] (notIn_ok rfl) fun K' hK' => ?_
      repeat (refine sxf_next fun K2 hK2 => ?_; simp [dNum, dS, nRow, pairA, assertA]; (repeat (refine ⟨by omega, ?_⟩)); refine hK2 _ ?_; clear hK2 K2)
      refine sxf_nil (hK' _ ?_)
      refine AW.st (by simp [dNum, dS, nRow, pairA, assertA]; rfl) ?_
      clear hK' K'
      refine AW_rg (tyOf_good _) [1, 38, 39, 40] [502, 503] (notIn_ok rfl) fun K' hK' => ?_
      repeat (refine sxf_next fun K2 hK2 => ?_; simp [dNum, dS, nRow, pairA, assertA]; (repeat (refine ⟨by omega, ?_⟩)); refine hK2 _ ?_; clear hK2 K2)
      refine sxf_nil (hK' _ ?_)
      refine AW.st (by simp [dNum, dS, nRow, pairA, assertA]; rfl) ?_
      clear hK' K'
      refine AW_for (S := Nat) (fun i => i ≤ l.length) (fun i => ⟨lst [(1, .fn (.func 30) [.d (.ip [.fn (.func g) []]), .ref 502 0 0]), (38, .d (.sl none (l.map fun e => [dE e]))), (39, int l.length), (40, int i)], hlst (nRow (l0 ++ nmsL all (l.take i)))⟩) (fun i => l.length - i) 0 ?_ (by omega) ?_
      · refine Imp.to' (notIn_ok rfl) (by simp [dNum, dS, nRow, pairA, assertA, nmsL]) (by simp [dNum, dS, nRow, pairA, assertA, nmsL])
      · intro i hi
        refine AW_rg (tyOf_good _) [1, 38, 39, 40, 41] [502, 503] (notIn_ok rfl) fun K' hK' => ?_
        repeat (refine sxf_next fun K2 hK2 => ?_; simp [dNum, dS, nRow, pairA, assertA]; (repeat (refine ⟨by omega, ?_⟩)); refine hK2 _ ?_; clear hK2 K2)
        refine sxf_nil (hK' _ ?_)
        refine AW.st (by simp [dNum, dS, nRow, pairA, assertA]; rfl) ?_
        clear hK' K'
        refine AW_then fun K1 hK1 => ?_
        refine AW_cond' (b := i < l.length) (by simp [D.le, D.le.go, takeMap, dNum, dS, nRow, pairA, assertA]) (fun hc => ?_) (fun hc => ?_)
        · have hil : i < l.length := hc
          have h1 := nmsL_take all hil
          have h2 := nmsL_len all (l.take i)
          have h3 := bEs_take hil
          have hcc := hch _ (List.getElem_mem hil) (l0 ++ nmsL all (l.take i)) (by rw [List.length_append]; omega)
          rw [List.append_assoc, ← h1] at hcc
          obtain ⟨tx, cx, hx⟩ := dE_ifc l[i]
          rw [hx] at hcc
          refine AW_skip (hK1 _ ?_)
          refine AW_then fun K2 hK2 => ?_
          refine AW_block ?_
          refine AW_rg (tyOf_good _) [1, 10, 38, 39, 40] [502, 503] (notIn_ok rfl) fun K' hK' => ?_
          repeat (refine sxf_next fun K2 hK2 => ?_; simp [dNum, dS, nRow, pairA, assertA, hil, hx]; (repeat (refine ⟨by omega, ?_⟩)); refine hK2 _ ?_; clear hK2 K2)
          refine sxf_nil (hK' _ ?_)
          refine AW.st (by simp [dNum, dS, nRow, pairA, assertA, hil, hx]; rfl) ?_
          clear hK' K'
          refine AW_re (tyOf_good _) fun K' hK' => ?_
          repeat (refine sxf_next fun K2 hK2 => ?_; simp [dNum, dS, nRow, pairA, assertA]; (repeat (refine ⟨by omega, ?_⟩)); refine hK2 _ ?_; clear hK2 K2)
          refine sxf_next fun K2 hK2 => ?_
          simp [dNum, dS, nRow, pairA, assertA]
          refine callK.mc (hcc) (by simp [dNum, dS, nRow, pairA, assertA]) (by simp [dNum, dS, nRow, pairA, assertA]) (by simp [dNum, dS, nRow, pairA, assertA]) (by simp [dNum, dS, nRow, pairA, assertA]) ?_
          simp [dNum, dS, nRow, pairA, assertA]
          refine hK2 _ ?_
          clear hK2 K2
          repeat (refine sxf_next fun K2 hK2 => ?_; simp [dNum, dS, nRow, pairA, assertA]; (repeat (refine ⟨by omega, ?_⟩)); refine hK2 _ ?_; clear hK2 K2)
          refine sxf_nil (hK' _ ?_)
          clear hK' K'
          refine hK2 _ (AW.norm [1, 38, 39, 40] [502, 503] (notIn_ok rfl) (AW.st (by simp [dNum, dS, nRow, pairA, assertA]; rfl) ?_))
          refine AW_re (tyOf_good _) fun K' hK' => ?_
          repeat (refine sxf_next fun K2 hK2 => ?_; simp [dNum, dS, nRow, pairA, assertA]; (repeat (refine ⟨by omega, ?_⟩)); refine hK2 _ ?_; clear hK2 K2)
          refine sxf_nil (hK' _ ?_)
          clear hK' K'
          try simp only [thn, inb]
          refine Again.mk (i + 1) (by omega) (by omega) ?_
          refine Imp.to' (notIn_ok rfl) (by simp [dNum, dS, nRow, pairA, assertA]) (by simp [dNum, dS, nRow, pairA, assertA])
        · obtain rfl : i = l.length := by omega
          refine AW_exit ?_
          simp [D.le_refl, List.take_length, nRow, dS]
    have hk : ∃ t c, dE e = .ifc t c ∧ ¬ t = 57 ∧ ¬ t = 59 ∧ ¬ t = 62 ∧ nmsE all e = one1 (nmE all e) := by
      cases e with
      | not z => exact absurd ⟨z, rfl⟩ hN
      | and l => exact absurd ⟨l, rfl⟩ hand
      | or l => exact absurd ⟨l, rfl⟩ hor
      | cst b => exact ⟨_, _, by rw [dE], by decide, by decide, by decide, rfl⟩
      | bit s => exact ⟨_, _, by rw [dE], by decide, by decide, by decide, rfl⟩
      | rise s => exact ⟨_, _, by rw [dE], by decide, by decide, by decide, rfl⟩
      | fall s => exact ⟨_, _, by rw [dE], by decide, by decide, by decide, rfl⟩
    obtain ⟨t, c, hy, h1, h2, h3, h4⟩ := hk
    have hs1 := gather_spec G all l0 e (by omega)
    rw [List.singleton_append] at hs1
    rw [h4, hy]
    rw [hy] at hs1
    generalize l0 ++ one1 (nmE all e) = l1 at hs1 ⊢
    generalize fnOf all = g at hs1 ⊢
    refine MC.of_body (tyOf_good _) Tryd.func29 rfl rfl (rs := []) Tryd.results29 (by simp [Tryd.ntmps29]) rfl fun X => ?_
    simp only [Tryd.ntmps29]
    refine AW_rg (tyOf_good _) [0, 1] [502, 503] (notIn_ok rfl) fun K' hK' => ?_
    repeat (refine sxf_next fun K2 hK2 => ?_; simp [dNum, dS, nRow, pairA, assertA]; (repeat (refine ⟨by omega, ?_⟩)); refine hK2 _ ?_; clear hK2 K2)
    refine sxf_next fun K2 hK2 => ?_
    simp [dNum, dS, nRow, pairA, assertA]
    refine callK.mc (hs1) (by simp [dNum, dS, nRow, pairA, assertA]) (by simp [dNum, dS, nRow, pairA, assertA]) (by simp [dNum, dS, nRow, pairA, assertA]) (by simp [dNum, dS, nRow, pairA, assertA]) ?_
    simp [dNum, dS, nRow, pairA, assertA]
    refine hK2 _ ?_
    clear hK2 K2
    repeat (refine sxf_next fun K2 hK2 => ?_; simp [dNum, dS, nRow, pairA, assertA]; (repeat (refine ⟨by omega, ?_⟩)); refine hK2 _ ?_; clear hK2 K2)
    refine sxf_nil (hK' _ ?_)
    refine AW.st (by simp [dNum, dS, nRow, pairA, assertA]; rfl) ?_
    clear hK' K'
    refine AW_rg (tyOf_good _) [1, 14] [502, 503] (notIn_ok rfl) fun K' hK' => ?_
    repeat (refine sxf_next fun K2 hK2 => ?_; simp [dNum, dS, nRow, pairA, assertA]; (repeat (refine ⟨by omega, ?_⟩)); refine hK2 _ ?_; clear hK2 K2)
    refine sxf_nil (hK' _ ?_)
    refine AW.st (by simp [dNum, dS, nRow, pairA, assertA]; rfl) ?_
    clear hK' K'
    refine AW_block ?_
    refine AW_rg (tyOf_good _) [1, 14, 16, 17] [502, 503] (notIn_ok rfl) fun K' hK' => ?_
    repeat (refine sxf_next fun K2 hK2 => ?_; simp [dNum, dS, nRow, pairA, assertA, h1]; (repeat (refine ⟨by omega, ?_⟩)); refine hK2 _ ?_; clear hK2 K2)
    refine sxf_nil (hK' _ ?_)
    refine AW.st (by simp [dNum, dS, nRow, pairA, assertA, h1]; rfl) ?_
    clear hK' K'
    refine AW_cond false rfl (fun h => by cases h) (fun _ => ?_)
    refine AW_rg (tyOf_good _) [1, 14, 23, 24] [502, 503] (notIn_ok rfl) fun K' hK' => ?_
    repeat (refine sxf_next fun K2 hK2 => ?_; simp [dNum, dS, nRow, pairA, assertA, h2]; (repeat (refine ⟨by omega, ?_⟩)); refine hK2 _ ?_; clear hK2 K2)
    refine sxf_nil (hK' _ ?_)
    refine AW.st (by simp [dNum, dS, nRow, pairA, assertA, h2]; rfl) ?_
    clear hK' K'
    refine AW_cond false rfl (fun h => by cases h) (fun _ => ?_)
    refine AW_rg (tyOf_good _) [1, 36, 37] [502, 503] (notIn_ok rfl) fun K' hK' => ?_
    repeat (refine sxf_next fun K2 hK2 => ?_; simp [dNum, dS, nRow, pairA, assertA, h3]; (repeat (refine ⟨by omega, ?_⟩)); refine hK2 _ ?_; clear hK2 K2)
    refine sxf_nil (hK' _ ?_)
    refine AW.st (by simp [dNum, dS, nRow, pairA, assertA, h3]; rfl) ?_
    clear hK' K'
    refine AW_cond false rfl (fun h => by cases h) (fun _ => ?_)
    refine AW_skip ?_
    simp [D.le_refl, nRow, dS]

def namesE (all : Bool) (e : Ex) : List (List UInt8) := Lib.compact (sortT (nmsE all e))
set_option maxHeartbeats 8000000 in
theorem sorted_spec (G : Glob) (all : Bool) (e : Ex) (hb : bE e ≤ 2^28) : PureC Tryd.prog G 19 [dE e, .fn (.func (fnOf all)) []] (.sl none ((namesE all e).map fun s => [dS s])) := by
  have hlen := nms_len all e
  have hw := walkN_at G all _ e (Nat.le_refl _) [] (by simp; omega)
  rw [List.nil_append] at hw
  have hso := sort_mc G 503 9 (nmsE all e) (by omega)
  have hco := compact_mc G 503 9 (sortT (nmsE all e)) (by rw [sortT_len]; omega)
  rw [sortT_len] at hco
  have hcl := Lib.compact_length_le (sortT (nmsE all e))
  rw [sortT_len] at hcl
  unfold namesE
  obtain ⟨tx, cx, hx⟩ := dE_ifc e
  rw [hx] at hw ⊢
  generalize fnOf all = g at hw ⊢
  generalize nmsE all e = l at hw hso hco hcl hlen ⊢
  generalize sortT l = z at hso hco hcl ⊢
  have htk : List.take (Lib.compact z).length ((Lib.compact z ++ List.replicate (l.length - (Lib.compact z).length) []).map fun s => [dS s]) = (Lib.compact z).map fun s => [dS s] := by
    rw [List.map_append, List.take_append_of_le_length (by simp), List.take_of_length_le (by simp)]
  have hyl : (Lib.compact z ++ List.replicate (l.length - (Lib.compact z).length) []).length = l.length := by simp; omega
  generalize Lib.compact z ++ List.replicate (l.length - (Lib.compact z).length) [] = y at hco htk hyl
  generalize Lib.compact z = c at hco hcl htk ⊢
  refine PureC.of_body (tyOf_good _) Tryd.func19 rfl rfl (rs := [.tmp 4]) Tryd.results19 (by simp [Tryd.ntmps19]) fun X => ?_
  simp only [Tryd.ntmps19, List.map]
  refine AW_rg (tyOf_good _) [0, 3] [3] (fun _ _ => trivial) fun K' hK' => ?_
  repeat (refine sxf_next fun K2 hK2 => ?_; simp [dNum, dS, nRow, pairA, assertA]; (repeat (refine ⟨by omega, ?_⟩)); refine hK2 _ ?_; clear hK2 K2)
  refine sxf_nil (hK' _ ?_)
  refine AW.st (by simp [dNum, dS, nRow, pairA, assertA]; rfl) ?_
  clear hK' K'
  refine AW.imp (Imp.freezeB 3 trivial) ?_
  refine AW.st (by simp [dNum, dS, nRow, pairA, assertA]; rfl) ?_
  refine AW_rg (tyOf_good _) [0, 3, 5] [5] (fun _ _ => trivial) fun K' hK' => ?_
  repeat (refine sxf_next fun K2 hK2 => ?_; simp [dNum, dS, nRow, pairA, assertA]; (repeat (refine ⟨by omega, ?_⟩)); refine hK2 _ ?_; clear hK2 K2)
  refine sxf_nil (hK' _ ?_)
  refine AW.st (by simp [dNum, dS, nRow, pairA, assertA]; rfl) ?_
  clear hK' K'
  refine AW.imp (Imp.ren (r := 5) (r' := 502) trivial (by simp)) ?_
  refine AW.st (by simp [renO, renF, Go.Av.ren, renH_one]; rfl) ?_
  refine AW.imp (Imp.adoptCell 502 0 503 9 1 rfl rfl rfl) ?_
  refine AW.imp (τ := ⟨lst [(0, .d (.ifc tx cx)), (3, .d (.ip [.fn (.func g) []])), (5, .ref 502 0 0)], hlst (nRow [])⟩) ?_ ?_
  · refine Imp.to' (fun _ _ => trivial) (by simp [dNum, dS, nRow, pairA, assertA, nRow]) (by simp [dNum, dS, nRow, pairA, assertA, nRow])
  refine AW_rg (tyOf_good _) [5] [502, 503] (fun _ _ => trivial) fun K' hK' => ?_
  repeat (refine sxf_next fun K2 hK2 => ?_; simp [dNum, dS, nRow, pairA, assertA]; (repeat (refine ⟨by omega, ?_⟩)); refine hK2 _ ?_; clear hK2 K2)
  refine sxf_next fun K2 hK2 => ?_
  simp [dNum, dS, nRow, pairA, assertA]
  refine callK.mc (hw) (by simp [dNum, dS, nRow, pairA, assertA]) (by simp [dNum, dS, nRow, pairA, assertA]) (by simp [dNum, dS, nRow, pairA, assertA]) (by simp [dNum, dS, nRow, pairA, assertA]) ?_
  simp [dNum, dS, nRow, pairA, assertA]
  refine hK2 _ ?_
  clear hK2 K2
  repeat (refine sxf_next fun K2 hK2 => ?_; simp [dNum, dS, nRow, pairA, assertA]; (repeat (refine ⟨by omega, ?_⟩)); refine hK2 _ ?_; clear hK2 K2)
  refine sxf_nil (hK' _ ?_)
  refine AW.st (by simp [dNum, dS, nRow, pairA, assertA]; rfl) ?_
  clear hK' K'
  refine AW_rg (tyOf_good _) [5] [502, 503] (fun _ _ => trivial) fun K' hK' => ?_
  repeat (refine sxf_next fun K2 hK2 => ?_; simp [dNum, dS, nRow, pairA, assertA]; (repeat (refine ⟨by omega, ?_⟩)); refine hK2 _ ?_; clear hK2 K2)
  refine sxf_next fun K2 hK2 => ?_
  simp [dNum, dS, nRow, pairA, assertA]
  refine callK.mc (hso) (by simp [dNum, dS, nRow, pairA, assertA]) (by simp [dNum, dS, nRow, pairA, assertA]) (by simp [dNum, dS, nRow, pairA, assertA]) (by simp [dNum, dS, nRow, pairA, assertA]) ?_
  simp [dNum, dS, nRow, pairA, assertA]
  refine hK2 _ ?_
  clear hK2 K2
  repeat (refine sxf_next fun K2 hK2 => ?_; simp [dNum, dS, nRow, pairA, assertA]; (repeat (refine ⟨by omega, ?_⟩)); refine hK2 _ ?_; clear hK2 K2)
  refine sxf_nil (hK' _ ?_)
  refine AW.st (by simp [dNum, dS, nRow, pairA, assertA]; rfl) ?_
  clear hK' K'
  refine AW_rg (tyOf_good _) [4] [502, 503] (fun _ _ => trivial) fun K' hK' => ?_
  repeat (refine sxf_next fun K2 hK2 => ?_; simp [dNum, dS, nRow, pairA, assertA]; (repeat (refine ⟨by omega, ?_⟩)); refine hK2 _ ?_; clear hK2 K2)
  refine sxf_next fun K2 hK2 => ?_
  simp [dNum, dS, nRow, pairA, assertA]
  refine callK.mc (hco) (by simp [dNum, dS, nRow, pairA, assertA]) (by simp [dNum, dS, nRow, pairA, assertA]) (by simp [dNum, dS, nRow, pairA, assertA]) (by simp [dNum, dS, nRow, pairA, assertA]) ?_
  simp [dNum, dS, nRow, pairA, assertA]
  refine hK2 _ ?_
  clear hK2 K2
  repeat (refine sxf_next fun K2 hK2 => ?_; simp [dNum, dS, nRow, pairA, assertA]; (repeat (refine ⟨by omega, ?_⟩)); refine hK2 _ ?_; clear hK2 K2)
  refine sxf_nil (hK' _ ?_)
  refine AW.st (by simp [dNum, dS, nRow, pairA, assertA]; rfl) ?_
  clear hK' K'
  have hle : c.length ≤ y.length := by omega
  by_cases hcy : c.length = y.length
  · have htk2 : (y.map fun s => [dS s]) = c.map fun s => [dS s] := by rw [← htk, hcy, List.take_of_length_le (by simp)]
    simp only [dS] at htk2
    refine AW.imp (Imp.freeze 503 trivial) ?_
    refine AW.st (by simp [dNum, dS, nRow, pairA, assertA, hcy, hle, htk2]; rfl) ?_
    refine AW_ret ?_
    simp [D.le, D.le.go, takeMap, dNum, dS, nRow, pairA, assertA, D.le_refl, D.leGo_refl, hcy, htk2]
  · simp only [dS] at htk
    refine AW.imp (Imp.freeze 503 trivial) ?_
    refine AW.st (by simp [dNum, dS, nRow, pairA, assertA, hcy, hle, htk]; rfl) ?_
    refine AW_ret ?_
    simp [D.le, D.le.go, takeMap, dNum, dS, nRow, pairA, assertA, D.le_refl, D.leGo_refl, htk]
theorem namesE_spec (G : Glob) (e : Ex) (hb : bE e ≤ 2^28) : PureC Tryd.prog G 7 [dE e] (.sl none ((namesE true e).map fun s => [dS s])) := by
  have hs := sorted_spec G true e hb
  obtain ⟨tx, cx, hx⟩ := dE_ifc e
  rw [hx] at hs ⊢
  generalize namesE true e = l at hs ⊢
  simp only [fnOf, if_true, if_false, Bool.false_eq_true] at hs
  refine PureC.of_body (tyOf_good _) Tryd.func7 rfl rfl (rs := [.tmp 2]) Tryd.results7 (by simp [Tryd.ntmps7]) fun X => ?_
  simp only [Tryd.ntmps7, List.map]
  refine AW_rg (tyOf_good _) [0] [] (fun _ _ => trivial) fun K' hK' => ?_
  repeat (refine sxf_next fun K2 hK2 => ?_; simp [dNum, dS, nRow, pairA, assertA]; (repeat (refine ⟨by omega, ?_⟩)); refine hK2 _ ?_; clear hK2 K2)
  refine sxf_nil (hK' _ ?_)
  refine AW.st (by simp [dNum, dS, nRow, pairA, assertA]; rfl) ?_
  clear hK' K'
  refine AW_rg (tyOf_good _) [2] [] (fun _ _ => trivial) fun K' hK' => ?_
  repeat (refine sxf_next fun K2 hK2 => ?_; simp [dNum, dS, nRow, pairA, assertA]; (repeat (refine ⟨by omega, ?_⟩)); refine hK2 _ ?_; clear hK2 K2)
  refine sxf_next fun K2 hK2 => ?_
  simp [dNum, dS, nRow, pairA, assertA]
  refine callK.data (hs) (by simp; rfl) (by first | exact D.leGo_refl _ | simp [takeMap, List.map_map, Function.comp_def, D.le, D.le.go, D.le_refl, D.leGo_refl, dNum, dS, nRow, pairA, assertA]) ?_
  refine hK2 _ ?_
  clear hK2 K2
  simp only [putd, upd_lst]
  repeat (refine sxf_next fun K2 hK2 => ?_; simp [dNum, dS, nRow, pairA, assertA]; (repeat (refine ⟨by omega, ?_⟩)); refine hK2 _ ?_; clear hK2 K2)
  refine sxf_nil (hK' _ ?_)
  refine AW.st (by simp [dNum, dS, nRow, pairA, assertA]; rfl) ?_
  clear hK' K'
  refine AW_ret ?_
  simp [D.le, D.le.go, takeMap, dNum, dS, nRow, pairA, assertA, D.le_refl, D.leGo_refl]
theorem edgesE_spec (G : Glob) (e : Ex) (hb : bE e ≤ 2^28) : PureC Tryd.prog G 15 [dE e] (.sl none ((namesE false e).map fun s => [dS s])) := by
  have hs := sorted_spec G false e hb
  obtain ⟨tx, cx, hx⟩ := dE_ifc e
  rw [hx] at hs ⊢
  generalize namesE false e = l at hs ⊢
  simp only [fnOf, if_true, if_false, Bool.false_eq_true] at hs
  refine PureC.of_body (tyOf_good _) Tryd.func15 rfl rfl (rs := [.tmp 2]) Tryd.results15 (by simp [Tryd.ntmps15]) fun X => ?_
  simp only [Tryd.ntmps15, List.map]
  refine AW_rg (tyOf_good _) [0] [] (fun _ _ => trivial) fun K' hK' => ?_
  repeat (refine sxf_next fun K2 hK2 => ?_; simp [dNum, dS, nRow, pairA, assertA]; (repeat (refine ⟨by omega, ?_⟩)); refine hK2 _ ?_; clear hK2 K2)
  refine sxf_nil (hK' _ ?_)
  refine AW.st (by simp [dNum, dS, nRow, pairA, assertA]; rfl) ?_
  clear hK' K'
  refine AW_rg (tyOf_good _) [2] [] (fun _ _ => trivial) fun K' hK' => ?_
  repeat (refine sxf_next fun K2 hK2 => ?_; simp [dNum, dS, nRow, pairA, assertA]; (repeat (refine ⟨by omega, ?_⟩)); refine hK2 _ ?_; clear hK2 K2)
  refine sxf_next fun K2 hK2 => ?_
  simp [dNum, dS, nRow, pairA, assertA]
  refine callK.data (hs) (by simp; rfl) (by first | exact D.leGo_refl _ | simp [takeMap, List.map_map, Function.comp_def, D.le, D.le.go, D.le_refl, D.leGo_refl, dNum, dS, nRow, pairA, assertA]) ?_
  refine hK2 _ ?_
  clear hK2 K2
  simp only [putd, upd_lst]
  repeat (refine sxf_next fun K2 hK2 => ?_; simp [dNum, dS, nRow, pairA, assertA]; (repeat (refine ⟨by omega, ?_⟩)); refine hK2 _ ?_; clear hK2 K2)
  refine sxf_nil (hK' _ ?_)
  refine AW.st (by simp [dNum, dS, nRow, pairA, assertA]; rfl) ?_
  clear hK' K'
  refine AW_ret ?_
  simp [D.le, D.le.go, takeMap, dNum, dS, nRow, pairA, assertA, D.le_refl, D.leGo_refl]
end Go.Proofs.YtagfbbnlbncjlaaDoor

/-
  Plain: texts put in order one by one, each once, are what sort and compact make of them.
-/
namespace Go.Proofs.YtagfbbnlbncjlaaDoor
set_option linter.unusedSimpArgs false
set_option linter.unusedVariables false
open Go.Av

abbrev Tx := List UInt8
theorem tx_irr (a : Tx) : ¬ a < a := List.lt_irrefl a
theorem tx_le {a b : Tx} : a ≤ b ↔ ¬ b < a := Iff.rfl
theorem tx_tri {a b : Tx} (h1 : ¬ a < b) (h2 : ¬ b < a) : a = b := List.le_antisymm (tx_le.2 h2) (tx_le.2 h1)

/-! ### compact behind sort -/
theorem mem_upTo (d : Array Tx) : ∀ (m : Nat), m ≤ d.size → ∀ j, j < m → d[j]! ∈ Lib.compactUpTo d m
  | 0, _, j, h => by omega
  | m + 1, hm, j, hj => by
    rw [Lib.compactUpTo_succ]
    by_cases hjm : j < m
    · exact List.mem_append_left _ (mem_upTo d m (by omega) j hjm)
    · obtain rfl : j = m := by omega
      by_cases hk : Lib.keeps d j = true
      · exact List.mem_append_right _ (by simp [hk])
      · have hj0 : j ≠ 0 := by rintro rfl; exact hk (Lib.keeps_lt_one d 0 (by omega))
        have he : d[j]! = d[j - 1]! := by
          unfold Lib.keeps at hk
          simp [hj0] at hk
          first | exact hk | exact hk.symm
        rw [he]
        exact List.mem_append_left _ (mem_upTo d j (by omega) (j - 1) (by omega))
theorem upTo_mem (d : Array Tx) : ∀ (m : Nat), m ≤ d.size → ∀ x ∈ Lib.compactUpTo d m, ∃ j, j < m ∧ x = d[j]!
  | 0, _, x, h => by simp [Lib.compactUpTo] at h
  | m + 1, hm, x, h => by
    rw [Lib.compactUpTo_succ] at h
    rcases List.mem_append.1 h with h | h
    · obtain ⟨j, hj, e⟩ := upTo_mem d m (by omega) x h
      exact ⟨j, by omega, e⟩
    · split at h
      · simp at h; exact ⟨m, by omega, h⟩
      · simp at h
theorem upTo_srt (d : Array Tx) (hs : ∀ i j, i ≤ j → j < d.size → d[i]! ≤ d[j]!) : ∀ (m : Nat), m ≤ d.size → (Lib.compactUpTo d m).Pairwise (· < ·)
  | 0, _ => by simp [Lib.compactUpTo]
  | m + 1, hm => by
    have ih := upTo_srt d hs m (by omega)
    rw [Lib.compactUpTo_succ]
    by_cases hk : Lib.keeps d m = true
    · rw [if_pos hk, List.pairwise_append]
      refine ⟨ih, by simp, fun a ha b hb => ?_⟩
      rw [List.mem_singleton] at hb
      subst hb
      obtain ⟨j, hj, rfl⟩ := upTo_mem d m (by omega) a ha
      have hne : d[m]! ≠ d[m - 1]! := by
        intro he
        rw [Lib.keeps_neg (by omega) he] at hk
        cases hk
      have h1 := hs j (m - 1) (by omega) (by omega)
      have h2 := hs (m - 1) m (by omega) (by omega)
      have h3 : d[m - 1]! < d[m]! := Classical.byContradiction fun hn => hne (tx_tri (tx_le.1 h2) hn)
      exact Classical.byContradiction fun hn => by
        have h4 : d[m]! ≤ d[j]! := tx_le.2 hn
        exact (tx_le.1 (List.le_trans h4 h1)) h3
    · rw [if_neg hk, List.append_nil]
      exact ih
theorem namesE_srt (all : Bool) (e : Ex) : (namesE all e).Pairwise (· < ·) := by
  unfold namesE Lib.compact
  refine upTo_srt _ (fun i j hij hj => ?_) _ (by simp)
  have hp : (sortT (nmsE all e)).Pairwise (· ≤ ·) := by
    unfold sortT
    have := List.pairwise_mergeSort (le := fun x y : Tx => decide (x ≤ y)) (by intro a b c h1 h2; simp only [decide_eq_true_eq] at *; exact List.le_trans h1 h2) (by intro a b; simp only [Bool.or_eq_true, decide_eq_true_eq]; exact List.le_total a b) (nmsE all e)
    exact this.imp fun h => by simpa using h
  generalize sortT (nmsE all e) = l at hp hj ⊢
  have hj' : j < l.length := by simpa using hj
  rw [getElem!_pos l.toArray i (by simpa using (by omega : i < l.length)), getElem!_pos l.toArray j (by simpa using hj')]
  simp only [List.getElem_toArray]
  by_cases he : i = j
  · subst he; exact List.le_refl _
  · exact (List.pairwise_iff_getElem.1 hp) i j (by omega) hj' (by omega)
theorem namesE_mem {all : Bool} {e : Ex} {s : Tx} : s ∈ namesE all e ↔ s ∈ nmsE all e := by
  unfold namesE
  have h0 : ∀ l : List Tx, s ∈ Lib.compact l ↔ s ∈ l := by
    intro l
    unfold Lib.compact
    constructor
    · intro h
      obtain ⟨j, hj, rfl⟩ := upTo_mem l.toArray l.length (by simp) s h
      rw [getElem!_pos l.toArray j (by simpa using hj)]
      simp
    · intro h
      obtain ⟨j, hj, rfl⟩ := List.mem_iff_getElem.1 h
      have := mem_upTo l.toArray l.length (by simp) j hj
      rw [getElem!_pos l.toArray j (by simpa using hj)] at this
      simpa using this
  rw [h0]
  unfold sortT
  exact List.mem_mergeSort
end Go.Proofs.YtagfbbnlbncjlaaDoor

/-
  ExprParse, and what ExprParses says.
-/
namespace Go.Proofs.YtagfbbnlbncjlaaDoor
set_option linter.unusedSimpArgs false
set_option linter.unusedVariables false
open Go.Av

theorem parse_none {t : List UInt8} {e : Int × Option Nat} (h : (parseM t).2 = some e) : (parseM t).1 = none := by
  unfold parseM at h ⊢
  split at h
  · rw [if_pos ‹_›]
  · rw [if_neg ‹_›]
    split at h
    · rfl
    · split at h
      · rw [if_pos ‹_›]
      · cases h
theorem parse_some {t : List UInt8} (h : (parseM t).2 = none) : ∃ x, (parseM t).1 = some x := by
  unfold parseM at h ⊢
  split at h
  · cases h
  · rw [if_neg ‹_›]
    split at h
    · cases h
    · split at h
      · cases h
      · rw [if_neg ‹_›]
        exact ⟨_, rfl⟩

end Go.Proofs.YtagfbbnlbncjlaaDoor

/-
  What an expression says: Eval; names among some.
-/
namespace Go.Proofs.YtagfbbnlbncjlaaDoor
set_option linter.unusedSimpArgs false
set_option linter.unusedVariables false
open Go.Av

theorem idx_some {α : Type} (p : α → Bool) (l : List α) : decide (0 ≤ idx p l) = l.any p := by
  unfold idx
  cases h : l.findIdx? p with
  | none =>
    rw [List.findIdx?_eq_none_iff] at h
    have : l.any p = false := by rw [List.any_eq_false]; intro x hx; simp [h x hx]
    rw [this]; simp
  | some i =>
    rw [List.findIdx?_eq_some_iff_getElem] at h
    obtain ⟨hi, hp, _⟩ := h
    have : l.any p = true := List.any_eq_true.2 ⟨_, List.getElem_mem hi, hp⟩
    rw [this]; simp
theorem evA_any (is was : List UInt8 → Bool) : ∀ l : List Ex, evA is was l = !(l.any fun e => !evE is was e)
  | [] => rfl
  | e :: l => by rw [evA, evA_any is was l]; simp
theorem evO_any (is was : List UInt8 → Bool) : ∀ l : List Ex, evO is was l = l.any fun e => evE is was e
  | [] => rfl
  | e :: l => by rw [evO, evO_any is was l]; simp

set_option maxHeartbeats 1000000 in
theorem indexAnd_spec (G : Glob) (k : Option Bool) (xs : List Ex) (g : FuncId) (caps : List D) (p : Ex → Bool) (hl : xs.length < 2^63) (ha : ∀ x ∈ xs, PureC Tryd.prog G g (dE x :: caps) (.v (.bool (p x)))) :
    PureC Tryd.prog G 33 [.sl k (xs.map fun x => [dE x]), .fn (.func g) caps] (.v (.int .i64 (idx p xs))) := by
  refine PureC.of_body (tyOf_good _) Tryd.func33 rfl rfl (rs := [.tmp 4]) Tryd.results33 (by simp [Tryd.ntmps33]) fun X => ?_
  simp only [Tryd.ntmps33, List.map]
  refine AW_rg (tyOf_good _) [0, 1] [] (fun _ _ => trivial) fun K' hK' => ?_
  repeat (refine sxf_next fun K2 hK2 => ?_; simp; (repeat (refine ⟨by omega, ?_⟩)); refine hK2 _ ?_; clear hK2 K2)
  refine sxf_nil (hK' _ ?_)
  refine AW.st (by simp; rfl) ?_
  clear hK' K'
  refine AW_then fun K1 hK1 => ?_
  refine AW_rg (tyOf_good _) [0, 1, 7, 8] [] (fun _ _ => trivial) fun K' hK' => ?_
  repeat (refine sxf_next fun K2 hK2 => ?_; simp; (repeat (refine ⟨by omega, ?_⟩)); refine hK2 _ ?_; clear hK2 K2)
  refine sxf_nil (hK' _ ?_)
  refine AW.st (by simp; rfl) ?_
  clear hK' K'
  refine AW_for (S := Nat) (fun n => n ≤ xs.length ∧ ∀ i (hi : i < xs.length), i < n → p xs[i] = false) (fun n => ⟨lst [(0, .d (.sl k (xs.map fun x => [dE x]))), (1, .d (.fn (.func g) caps)), (7, int xs.length), (8, int n)], hlst []⟩) (fun n => xs.length - n) 0 ?_ (by simp) ?_
  · refine Imp.to' (fun _ _ => trivial) (by simp) (by simp)
  · rintro n ⟨hn, hp⟩
    refine AW_rg (tyOf_good _) [0, 1, 7, 8, 9] [] (fun _ _ => trivial) fun K' hK' => ?_
    repeat (refine sxf_next fun K2 hK2 => ?_; simp; (repeat (refine ⟨by omega, ?_⟩)); refine hK2 _ ?_; clear hK2 K2)
    refine sxf_nil (hK' _ ?_)
    refine AW.st (by simp; rfl) ?_
    clear hK' K'
    refine AW_then fun K2 hK2 => ?_
    refine AW_cond' (b := n < xs.length) (by simp [D.le, D.le.go, takeMap]) (fun hc => ?_) (fun hc => ?_)
    · have hax := ha xs[n] (by simp)
      refine AW_skip (hK2 _ ?_)
      refine AW_then fun K3 hK3 => ?_
      refine AW_block ?_
      refine AW_rg (tyOf_good _) [0, 1, 5, 7, 8] [] (fun _ _ => trivial) fun K' hK' => ?_
      repeat (refine sxf_next fun K2 hK2 => ?_; simp; (repeat (refine ⟨by omega, ?_⟩)); refine hK2 _ ?_; clear hK2 K2)
      refine sxf_nil (hK' _ ?_)
      refine AW.st (by simp; rfl) ?_
      clear hK' K'
      refine AW_rg (tyOf_good _) [0, 1, 5, 7, 8, 16] [] (fun _ _ => trivial) fun K' hK' => ?_
      repeat (refine sxf_next fun K2 hK2 => ?_; simp [hc]; (repeat (refine ⟨by omega, ?_⟩)); refine hK2 _ ?_; clear hK2 K2)
      refine sxf_next fun K2 hK2 => ?_
      simp [hc]
      refine callK.data (hax) (by simp; rfl) (by first | exact D.leGo_refl _ | simp [takeMap, List.map_map, Function.comp_def, D.le, D.le.go, D.le_refl, D.leGo_refl, hc]) ?_
      refine hK2 _ ?_
      clear hK2 K2
      simp only [putd, upd_lst]
      repeat (refine sxf_next fun K2 hK2 => ?_; simp [hc]; (repeat (refine ⟨by omega, ?_⟩)); refine hK2 _ ?_; clear hK2 K2)
      refine sxf_nil (hK' _ ?_)
      refine AW.st (by simp [hc]; rfl) ?_
      clear hK' K'
      refine AW_cond _ rfl (fun hp2 => ?_) (fun hp2 => ?_)
      · refine AW_rg (tyOf_good _) [4] [] (fun _ _ => trivial) fun K' hK' => ?_
        repeat (refine sxf_next fun K2 hK2 => ?_; simp; (repeat (refine ⟨by omega, ?_⟩)); refine hK2 _ ?_; clear hK2 K2)
        refine sxf_nil (hK' _ ?_)
        refine AW.st (by simp; rfl) ?_
        clear hK' K'
        refine AW_ret ?_
        simp [D.le, D.le.go, takeMap]
        exact (idx_hit hc hp2 fun i hi => hp i (by omega) hi).symm
      · refine AW_skip (hK3 _ ?_)
        refine AW_re (tyOf_good _) fun K' hK' => ?_
        repeat (refine sxf_next fun K2 hK2 => ?_; simp; (repeat (refine ⟨by omega, ?_⟩)); refine hK2 _ ?_; clear hK2 K2)
        refine sxf_nil (hK' _ ?_)
        clear hK' K'
        try simp only [thn, inb]
        refine Again.mk (n + 1) ⟨by omega, fun i hi hin => ?_⟩ (by omega) ?_
        · by_cases h : i = n
          · subst h; exact hp2
          · exact hp i hi (by omega)
        refine Imp.to' (fun _ _ => trivial) (by simp) (by simp)
    · refine AW_exit (hK1 _ ?_)
      refine AW_rg (tyOf_good _) [4] [] (fun _ _ => trivial) fun K' hK' => ?_
      repeat (refine sxf_next fun K2 hK2 => ?_; simp; (repeat (refine ⟨by omega, ?_⟩)); refine hK2 _ ?_; clear hK2 K2)
      refine sxf_nil (hK' _ ?_)
      refine AW.st (by simp; rfl) ?_
      clear hK' K'
      refine AW_ret ?_
      simp [D.le, D.le.go, takeMap]
      exact (idx_miss fun i hi => hp i hi (by omega)).symm
theorem containsAnd_spec (G : Glob) (k : Option Bool) (xs : List Ex) (g : FuncId) (caps : List D) (p : Ex → Bool) (hl : xs.length < 2^63) (ha : ∀ x ∈ xs, PureC Tryd.prog G g (dE x :: caps) (.v (.bool (p x)))) :
    PureC Tryd.prog G 21 [.sl k (xs.map fun x => [dE x]), .fn (.func g) caps] (.v (.bool (xs.any p))) := by
  have hi := indexAnd_spec G k xs g caps p hl ha
  have hd := idx_some p xs
  generalize idx p xs = r at hi hd
  rw [← hd]
  refine PureC.of_body (tyOf_good _) Tryd.func21 rfl rfl (rs := [.tmp 4]) Tryd.results21 (by simp [Tryd.ntmps21]) fun X => ?_
  simp only [Tryd.ntmps21, List.map]
  refine AW_rg (tyOf_good _) [0, 1] [] (fun _ _ => trivial) fun K' hK' => ?_
  repeat (refine sxf_next fun K2 hK2 => ?_; simp; (repeat (refine ⟨by omega, ?_⟩)); refine hK2 _ ?_; clear hK2 K2)
  refine sxf_nil (hK' _ ?_)
  refine AW.st (by simp; rfl) ?_
  clear hK' K'
  refine AW_rg (tyOf_good _) [4] [] (fun _ _ => trivial) fun K' hK' => ?_
  repeat (refine sxf_next fun K2 hK2 => ?_; simp; (repeat (refine ⟨by omega, ?_⟩)); refine hK2 _ ?_; clear hK2 K2)
  refine sxf_next fun K2 hK2 => ?_
  simp
  refine callK.data (hi) (by simp; rfl) (by first | exact D.leGo_refl _ | simp [takeMap, List.map_map, Function.comp_def, D.le, D.le.go, D.le_refl, D.leGo_refl]) ?_
  refine hK2 _ ?_
  clear hK2 K2
  simp only [putd, upd_lst]
  repeat (refine sxf_next fun K2 hK2 => ?_; simp; (repeat (refine ⟨by omega, ?_⟩)); refine hK2 _ ?_; clear hK2 K2)
  refine sxf_nil (hK' _ ?_)
  refine AW.st (by simp; rfl) ?_
  clear hK' K'
  refine AW_ret ?_
  simp [D.le, D.le.go, takeMap]

set_option maxHeartbeats 1000000 in
theorem indexOr_spec (G : Glob) (k : Option Bool) (xs : List Ex) (g : FuncId) (caps : List D) (p : Ex → Bool) (hl : xs.length < 2^63) (ha : ∀ x ∈ xs, PureC Tryd.prog G g (dE x :: caps) (.v (.bool (p x)))) :
    PureC Tryd.prog G 34 [.sl k (xs.map fun x => [dE x]), .fn (.func g) caps] (.v (.int .i64 (idx p xs))) := by
  refine PureC.of_body (tyOf_good _) Tryd.func34 rfl rfl (rs := [.tmp 4]) Tryd.results34 (by simp [Tryd.ntmps34]) fun X => ?_
  simp only [Tryd.ntmps34, List.map]
  refine AW_rg (tyOf_good _) [0, 1] [] (fun _ _ => trivial) fun K' hK' => ?_
  repeat (refine sxf_next fun K2 hK2 => ?_; simp; (repeat (refine ⟨by omega, ?_⟩)); refine hK2 _ ?_; clear hK2 K2)
  refine sxf_nil (hK' _ ?_)
  refine AW.st (by simp; rfl) ?_
  clear hK' K'
  refine AW_then fun K1 hK1 => ?_
  refine AW_rg (tyOf_good _) [0, 1, 7, 8] [] (fun _ _ => trivial) fun K' hK' => ?_
  repeat (refine sxf_next fun K2 hK2 => ?_; simp; (repeat (refine ⟨by omega, ?_⟩)); refine hK2 _ ?_; clear hK2 K2)
  refine sxf_nil (hK' _ ?_)
  refine AW.st (by simp; rfl) ?_
  clear hK' K'
  refine AW_for (S := Nat) (fun n => n ≤ xs.length ∧ ∀ i (hi : i < xs.length), i < n → p xs[i] = false) (fun n => ⟨lst [(0, .d (.sl k (xs.map fun x => [dE x]))), (1, .d (.fn (.func g) caps)), (7, int xs.length), (8, int n)], hlst []⟩) (fun n => xs.length - n) 0 ?_ (by simp) ?_
  · refine Imp.to' (fun _ _ => trivial) (by simp) (by simp)
  · rintro n ⟨hn, hp⟩
    refine AW_rg (tyOf_good _) [0, 1, 7, 8, 9] [] (fun _ _ => trivial) fun K' hK' => ?_
    repeat (refine sxf_next fun K2 hK2 => ?_; simp; (repeat (refine ⟨by omega, ?_⟩)); refine hK2 _ ?_; clear hK2 K2)
    refine sxf_nil (hK' _ ?_)
    refine AW.st (by simp; rfl) ?_
    clear hK' K'
    refine AW_then fun K2 hK2 => ?_
    refine AW_cond' (b := n < xs.length) (by simp [D.le, D.le.go, takeMap]) (fun hc => ?_) (fun hc => ?_)
    · have hax := ha xs[n] (by simp)
      refine AW_skip (hK2 _ ?_)
      refine AW_then fun K3 hK3 => ?_
      refine AW_block ?_
      refine AW_rg (tyOf_good _) [0, 1, 5, 7, 8] [] (fun _ _ => trivial) fun K' hK' => ?_
      repeat (refine sxf_next fun K2 hK2 => ?_; simp; (repeat (refine ⟨by omega, ?_⟩)); refine hK2 _ ?_; clear hK2 K2)
      refine sxf_nil (hK' _ ?_)
      refine AW.st (by simp; rfl) ?_
      clear hK' K'
      refine AW_rg (tyOf_good _) [0, 1, 5, 7, 8, 16] [] (fun _ _ => trivial) fun K' hK' => ?_
      repeat (refine sxf_next fun K2 hK2 => ?_; simp [hc]; (repeat (refine ⟨by omega, ?_⟩)); refine hK2 _ ?_; clear hK2 K2)
      refine sxf_next fun K2 hK2 => ?_
      simp [hc]
      refine callK.data (hax) (by simp; rfl) (by first | exact D.leGo_refl _ | simp [takeMap, List.map_map, Function.comp_def, D.le, D.le.go, D.le_refl, D.leGo_refl, hc]) ?_
      refine hK2 _ ?_
      clear hK2 K2
      simp only [putd, upd_lst]
      repeat (refine sxf_next fun K2 hK2 => ?_; simp [hc]; (repeat (refine ⟨by omega, ?_⟩)); refine hK2 _ ?_; clear hK2 K2)
      refine sxf_nil (hK' _ ?_)
      refine AW.st (by simp [hc]; rfl) ?_
      clear hK' K'
      refine AW_cond _ rfl (fun hp2 => ?_) (fun hp2 => ?_)
      · refine AW_rg (tyOf_good _) [4] [] (fun _ _ => trivial) fun K' hK' => ?_
        repeat (refine sxf_next fun K2 hK2 => ?_; simp; (repeat (refine ⟨by omega, ?_⟩)); refine hK2 _ ?_; clear hK2 K2)
        refine sxf_nil (hK' _ ?_)
        refine AW.st (by simp; rfl) ?_
        clear hK' K'
        refine AW_ret ?_
        simp [D.le, D.le.go, takeMap]
        exact (idx_hit hc hp2 fun i hi => hp i (by omega) hi).symm
      · refine AW_skip (hK3 _ ?_)
        refine AW_re (tyOf_good _) fun K' hK' => ?_
        repeat (refine sxf_next fun K2 hK2 => ?_; simp; (repeat (refine ⟨by omega, ?_⟩)); refine hK2 _ ?_; clear hK2 K2)
        refine sxf_nil (hK' _ ?_)
        clear hK' K'
        try simp only [thn, inb]
        refine Again.mk (n + 1) ⟨by omega, fun i hi hin => ?_⟩ (by omega) ?_
        · by_cases h : i = n
          · subst h; exact hp2
          · exact hp i hi (by omega)
        refine Imp.to' (fun _ _ => trivial) (by simp) (by simp)
    · refine AW_exit (hK1 _ ?_)
      refine AW_rg (tyOf_good _) [4] [] (fun _ _ => trivial) fun K' hK' => ?_
      repeat (refine sxf_next fun K2 hK2 => ?_; simp; (repeat (refine ⟨by omega, ?_⟩)); refine hK2 _ ?_; clear hK2 K2)
      refine sxf_nil (hK' _ ?_)
      refine AW.st (by simp; rfl) ?_
      clear hK' K'
      refine AW_ret ?_
      simp [D.le, D.le.go, takeMap]
      exact (idx_miss fun i hi => hp i hi (by omega)).symm
theorem containsOr_spec (G : Glob) (k : Option Bool) (xs : List Ex) (g : FuncId) (caps : List D) (p : Ex → Bool) (hl : xs.length < 2^63) (ha : ∀ x ∈ xs, PureC Tryd.prog G g (dE x :: caps) (.v (.bool (p x)))) :
    PureC Tryd.prog G 23 [.sl k (xs.map fun x => [dE x]), .fn (.func g) caps] (.v (.bool (xs.any p))) := by
  have hi := indexOr_spec G k xs g caps p hl ha
  have hd := idx_some p xs
  generalize idx p xs = r at hi hd
  rw [← hd]
  refine PureC.of_body (tyOf_good _) Tryd.func23 rfl rfl (rs := [.tmp 4]) Tryd.results23 (by simp [Tryd.ntmps23]) fun X => ?_
  simp only [Tryd.ntmps23, List.map]
  refine AW_rg (tyOf_good _) [0, 1] [] (fun _ _ => trivial) fun K' hK' => ?_
  repeat (refine sxf_next fun K2 hK2 => ?_; simp; (repeat (refine ⟨by omega, ?_⟩)); refine hK2 _ ?_; clear hK2 K2)
  refine sxf_nil (hK' _ ?_)
  refine AW.st (by simp; rfl) ?_
  clear hK' K'
  refine AW_rg (tyOf_good _) [4] [] (fun _ _ => trivial) fun K' hK' => ?_
  repeat (refine sxf_next fun K2 hK2 => ?_; simp; (repeat (refine ⟨by omega, ?_⟩)); refine hK2 _ ?_; clear hK2 K2)
  refine sxf_next fun K2 hK2 => ?_
  simp
  refine callK.data (hi) (by simp; rfl) (by first | exact D.leGo_refl _ | simp [takeMap, List.map_map, Function.comp_def, D.le, D.le.go, D.le_refl, D.leGo_refl]) ?_
  refine hK2 _ ?_
  clear hK2 K2
  simp only [putd, upd_lst]
  repeat (refine sxf_next fun K2 hK2 => ?_; simp; (repeat (refine ⟨by omega, ?_⟩)); refine hK2 _ ?_; clear hK2 K2)
  refine sxf_nil (hK' _ ?_)
  refine AW.st (by simp; rfl) ?_
  clear hK' K'
  refine AW_ret ?_
  simp [D.le, D.le.go, takeMap]

/-! ### Names among some -/
set_option maxHeartbeats 2000000 in
theorem among1_spec (G : Glob) (k : Option Bool) (l : List (List UInt8)) (s : List UInt8) (hl : l.length < 2^60) : PureC Tryd.prog G 25 [dS s, .ip [.sl k (l.map fun x => [dS x])]] (.v (.bool (l.any fun x => x == s))) := by
  refine PureC.of_body (tyOf_good _) Tryd.func25 rfl rfl (rs := [.tmp 3]) Tryd.results25 (by simp [Tryd.ntmps25]) fun X => ?_
  simp only [Tryd.ntmps25, List.map]
  refine AW_rg (tyOf_good _) [0, 1] [] (fun _ _ => trivial) fun K' hK' => ?_
  repeat (refine sxf_next fun K2 hK2 => ?_; simp [dNum, dS]; (repeat (refine ⟨by omega, ?_⟩)); refine hK2 _ ?_; clear hK2 K2)
  refine sxf_nil (hK' _ ?_)
  refine AW.st (by simp [dNum, dS]; rfl) ?_
  clear hK' K'
  refine AW_then fun K1 hK1 => ?_
  refine AW_rg (tyOf_good _) [0, 1, 4] [] (fun _ _ => trivial) fun K' hK' => ?_
  repeat (refine sxf_next fun K2 hK2 => ?_; simp [dNum, dS]; (repeat (refine ⟨by omega, ?_⟩)); refine hK2 _ ?_; clear hK2 K2)
  refine sxf_nil (hK' _ ?_)
  refine AW.st (by simp [dNum, dS]; rfl) ?_
  clear hK' K'
  refine AW_for (S := Nat) (fun n => n ≤ l.length ∧ ∀ i (hi : i < l.length), i < n → (l[i] == s) = false) (fun n => ⟨lst [(0, .d (dS s)), (1, .d (.ip [.sl k (l.map fun x => [dS x])])), (4, int n)], hlst []⟩) (fun n => l.length - n) 0 ?_ (by simp) ?_
  · refine Imp.to' (fun _ _ => trivial) (by simp [dNum, dS]) (by simp [dNum, dS])
  · rintro n ⟨hn, hp⟩
    refine AW_then fun K2 hK2 => ?_
    refine AW_rg (tyOf_good _) [0, 1, 4, 8] [] (fun _ _ => trivial) fun K' hK' => ?_
    repeat (refine sxf_next fun K2 hK2 => ?_; simp [dNum, dS]; (repeat (refine ⟨by omega, ?_⟩)); refine hK2 _ ?_; clear hK2 K2)
    refine sxf_nil (hK' _ ?_)
    refine AW.st (by simp [dNum, dS]; rfl) ?_
    clear hK' K'
    refine AW_cond' (b := n < l.length) (by simp [D.le, D.le.go, takeMap, dNum, dS]) (fun hc => ?_) (fun hc => ?_)
    · have hnl : n < l.length := hc
      refine AW_skip (hK2 _ ?_)
      refine AW_then fun K3 hK3 => ?_
      refine AW_block ?_
      cases he : (l[n] == s) with
      | true =>
        have he2 : l[n] = s := by simpa using he
        refine AW_rg (tyOf_good _) [0, 1, 4, 16] [] (fun _ _ => trivial) fun K' hK' => ?_
        repeat (refine sxf_next fun K2 hK2 => ?_; simp [dNum, dS, hnl, he, he2, binS, bs_list]; (repeat (refine ⟨by omega, ?_⟩)); refine hK2 _ ?_; clear hK2 K2)
        refine sxf_nil (hK' _ ?_)
        refine AW.st (by simp [dNum, dS, hnl, he, he2, binS, bs_list]; rfl) ?_
        clear hK' K'
        refine AW_cond true rfl (fun _ => ?_) (fun h => by cases h)
        refine AW_rg (tyOf_good _) [3] [] (fun _ _ => trivial) fun K' hK' => ?_
        repeat (refine sxf_next fun K2 hK2 => ?_; simp [dNum, dS]; (repeat (refine ⟨by omega, ?_⟩)); refine hK2 _ ?_; clear hK2 K2)
        refine sxf_nil (hK' _ ?_)
        refine AW.st (by simp [dNum, dS]; rfl) ?_
        clear hK' K'
        have hany : (l.any fun x => x == s) = true := List.any_eq_true.2 ⟨_, List.getElem_mem hnl, he⟩
        refine AW_ret ?_
        simp [D.le, D.le.go, takeMap, dNum, dS, hany]
      | false =>
        have he2 : ¬ l[n] = s := by simpa using he
        refine AW_rg (tyOf_good _) [0, 1, 4, 16] [] (fun _ _ => trivial) fun K' hK' => ?_
        repeat (refine sxf_next fun K2 hK2 => ?_; simp [dNum, dS, hnl, he, he2, binS, bs_list]; (repeat (refine ⟨by omega, ?_⟩)); refine hK2 _ ?_; clear hK2 K2)
        refine sxf_nil (hK' _ ?_)
        refine AW.st (by simp [dNum, dS, hnl, he, he2, binS, bs_list]; rfl) ?_
        clear hK' K'
        refine AW_cond false rfl (fun h => by cases h) (fun _ => ?_)
        refine AW_skip (hK3 _ ?_)
        refine AW_re (tyOf_good _) fun K' hK' => ?_
        repeat (refine sxf_next fun K2 hK2 => ?_; simp [dNum, dS]; (repeat (refine ⟨by omega, ?_⟩)); refine hK2 _ ?_; clear hK2 K2)
        refine sxf_nil (hK' _ ?_)
        clear hK' K'
        try simp only [thn, inb]
        refine Again.mk (n + 1) ⟨by omega, fun i hi hin => ?_⟩ (by omega) ?_
        · by_cases h : i = n
          · subst h; exact he
          · exact hp i hi (by omega)
        refine Imp.to' (fun _ _ => trivial) (by simp [dNum, dS]) (by simp [dNum, dS])
    · refine AW_exit (hK1 _ ?_)
      have hany : (l.any fun x => x == s) = false := by
        rw [List.any_eq_false]
        intro x hx
        obtain ⟨i, hi, rfl⟩ := List.mem_iff_getElem.1 hx
        simp [hp i hi (by omega)]
      refine AW_rg (tyOf_good _) [3] [] (fun _ _ => trivial) fun K' hK' => ?_
      repeat (refine sxf_next fun K2 hK2 => ?_; simp [dNum, dS]; (repeat (refine ⟨by omega, ?_⟩)); refine hK2 _ ?_; clear hK2 K2)
      refine sxf_nil (hK' _ ?_)
      refine AW.st (by simp [dNum, dS]; rfl) ?_
      clear hK' K'
      refine AW_ret ?_
      simp [D.le, D.le.go, takeMap, dNum, dS, hany]
def dAm (k : Option Bool) (l : List (List UInt8)) : D := .fn (.func 25) [.ip [.sl k (l.map fun x => [dS x])]]
theorem among_spec (G : Glob) (k : Option Bool) (l : List (List UInt8)) : PureC Tryd.prog G 10 [.sl k (l.map fun x => [dS x])] (dAm k l) := by
  refine PureC.of_body (tyOf_good _) Tryd.func10 rfl rfl (rs := [.tmp 2]) Tryd.results10 (by simp [Tryd.ntmps10]) fun X => ?_
  simp only [Tryd.ntmps10, List.map]
  refine AW_rg (tyOf_good _) [1] [1] (fun _ _ => trivial) fun K' hK' => ?_
  repeat (refine sxf_next fun K2 hK2 => ?_; simp [dNum, dS]; (repeat (refine ⟨by omega, ?_⟩)); refine hK2 _ ?_; clear hK2 K2)
  refine sxf_nil (hK' _ ?_)
  refine AW.st (by simp [dNum, dS]; rfl) ?_
  clear hK' K'
  refine AW.imp (Imp.freezeB 1 trivial) ?_
  refine AW.st (by simp [dNum, dS]; rfl) ?_
  refine AW_rg (tyOf_good _) [2] [] (fun _ _ => trivial) fun K' hK' => ?_
  repeat (refine sxf_next fun K2 hK2 => ?_; simp [dNum, dS]; (repeat (refine ⟨by omega, ?_⟩)); refine hK2 _ ?_; clear hK2 K2)
  refine sxf_nil (hK' _ ?_)
  refine AW.st (by simp [dNum, dS]; rfl) ?_
  clear hK' K'
  refine AW_ret ?_
  simp [D.le, D.le.go, takeMap, dNum, dS, dAm, D.le_refl, D.leGo_refl]

/-! ### Eval -/
/-- A function that tells of names. -/
def Tells (G : Glob) (g : FuncId) (caps : List D) (p : List UInt8 → Bool) : Prop := ∀ s, PureC Tryd.prog G g (dS s :: caps) (.v (.bool (p s)))
theorem among_tells (G : Glob) (k : Option Bool) (l : List (List UInt8)) (hl : l.length < 2^60) : Tells G 25 [.ip [.sl k (l.map fun x => [dS x])]] (fun s => l.any fun x => x == s) := fun s => among1_spec G k l s hl

mutual
def AskE (S1 S2 : List UInt8 → Prop) : Ex → Prop
  | .cst _ => True
  | .bit s => S1 s
  | .rise s => S1 s ∧ S2 s
  | .fall s => S1 s ∧ S2 s
  | .not e => AskE S1 S2 e
  | .and l => AskL S1 S2 l
  | .or l => AskL S1 S2 l
def AskL (S1 S2 : List UInt8 → Prop) : List Ex → Prop
  | [] => True
  | e :: l => AskE S1 S2 e ∧ AskL S1 S2 l
end
theorem AskL_iff {S1 S2 : List UInt8 → Prop} : ∀ {l : List Ex}, AskL S1 S2 l ↔ ∀ x ∈ l, AskE S1 S2 x
  | [] => by simp [AskL]
  | e :: l => by rw [AskL, AskL_iff]; simp
theorem ask_all : ∀ (n : Nat) (e : Ex), SizeOf.sizeOf e ≤ n → AskE (fun _ => True) (fun _ => True) e := by
  intro n
  induction n with
  | zero => intro e hsz; cases e <;> simp at hsz
  | succ n ih =>
    intro e hsz
    cases e with
    | cst b => rw [AskE]; trivial
    | bit s => rw [AskE]; trivial
    | rise s => rw [AskE]; exact ⟨trivial, trivial⟩
    | fall s => rw [AskE]; exact ⟨trivial, trivial⟩
    | not e => rw [AskE]; exact ih e (by simp at hsz; omega)
    | and l => rw [AskE, AskL_iff]; exact fun x hx => ih x (by have := List.sizeOf_lt_of_mem hx; simp only [Ex.and.sizeOf_spec] at hsz; omega)
    | or l => rw [AskE, AskL_iff]; exact fun x hx => ih x (by have := List.sizeOf_lt_of_mem hx; simp only [Ex.or.sizeOf_spec] at hsz; omega)
/-- The same, of some names alone. -/
def TellsOn (S : List UInt8 → Prop) (G : Glob) (g : FuncId) (caps : List D) (p : List UInt8 → Bool) : Prop := ∀ s, S s → PureC Tryd.prog G g (dS s :: caps) (.v (.bool (p s)))

set_option maxHeartbeats 32000000 in
theorem eval_at (G : Glob) (g1 g2 : FuncId) (c1 c2 : List D) (is was : List UInt8 → Bool) (S1 S2 : List UInt8 → Prop) (h1 : TellsOn S1 G g1 c1 is) (h2 : TellsOn S2 G g2 c2 was) : ∀ (n : Nat) (e : Ex), SizeOf.sizeOf e ≤ n → AskE S1 S2 e → bE e ≤ 2^28 → PureC Tryd.prog G 9 [dE e, .fn (.func g1) c1, .fn (.func g2) c2] (.v (.bool (evE is was e))) := by
  intro n
  induction n with
  | zero => intro e hsz; cases e <;> simp at hsz
  | succ n ih =>
    intro e hsz hask hb
    cases e with
    | cst b =>
      rw [dE]
      refine PureC.of_body (tyOf_good _) Tryd.func9 rfl rfl (rs := [.tmp 6]) Tryd.results9 (by simp [Tryd.ntmps9]) fun X => ?_
      simp only [Tryd.ntmps9, List.map]
      refine AW_rg (tyOf_good _) [0, 4, 5] [4, 5] (fun _ _ => trivial) fun K' hK' => ?_
      repeat (refine sxf_next fun K2 hK2 => ?_; simp [dNum, dS, pairA, assertA]; (repeat (refine ⟨by omega, ?_⟩)); refine hK2 _ ?_; clear hK2 K2)
      refine sxf_nil (hK' _ ?_)
      refine AW.st (by simp [dNum, dS, pairA, assertA]; rfl) ?_
      clear hK' K'
      refine AW.imp (Imp.freezeB 4 trivial) ?_
      refine AW.st (by simp [dNum, dS, pairA, assertA]; rfl) ?_
      refine AW.imp (Imp.freezeB 5 trivial) ?_
      refine AW.st (by simp [dNum, dS, pairA, assertA]; rfl) ?_
      refine AW_then fun K1 hK1 => ?_
      refine AW_rg (tyOf_good _) [4, 5, 14] [] (fun _ _ => trivial) fun K' hK' => ?_
      repeat (refine sxf_next fun K2 hK2 => ?_; simp [dNum, dS, pairA, assertA]; (repeat (refine ⟨by omega, ?_⟩)); refine hK2 _ ?_; clear hK2 K2)
      refine sxf_nil (hK' _ ?_)
      refine AW.st (by simp [dNum, dS, pairA, assertA]; rfl) ?_
      clear hK' K'
      refine AW_block ?_
      refine AW_rg (tyOf_good _) [4, 5, 14, 16, 17] [] (fun _ _ => trivial) fun K' hK' => ?_
      repeat (refine sxf_next fun K2 hK2 => ?_; simp [dNum, dS, pairA, assertA]; (repeat (refine ⟨by omega, ?_⟩)); refine hK2 _ ?_; clear hK2 K2)
      refine sxf_nil (hK' _ ?_)
      refine AW.st (by simp [dNum, dS, pairA, assertA]; rfl) ?_
      clear hK' K'
      refine AW_cond true rfl (fun _ => ?_) (fun h => by cases h)
      refine AW_rg (tyOf_good _) [7] [] (fun _ _ => trivial) fun K' hK' => ?_
      repeat (refine sxf_next fun K2 hK2 => ?_; simp [dNum, dS, pairA, assertA]; (repeat (refine ⟨by omega, ?_⟩)); refine hK2 _ ?_; clear hK2 K2)
      refine sxf_nil (hK' _ ?_)
      refine AW.st (by simp [dNum, dS, pairA, assertA]; rfl) ?_
      clear hK' K'
      refine AW_rg (tyOf_good _) [6] [] (fun _ _ => trivial) fun K' hK' => ?_
      repeat (refine sxf_next fun K2 hK2 => ?_; simp [dNum, dS, pairA, assertA]; (repeat (refine ⟨by omega, ?_⟩)); refine hK2 _ ?_; clear hK2 K2)
      refine sxf_nil (hK' _ ?_)
      refine AW.st (by simp [dNum, dS, pairA, assertA]; rfl) ?_
      clear hK' K'
      refine AW_ret ?_
      simp [D.le, D.le.go, takeMap, dNum, dS, pairA, assertA, evE]
    | bit s =>
      rw [AskE] at hask
      have hi := h1 s hask
      rw [dE, evE]
      refine PureC.of_body (tyOf_good _) Tryd.func9 rfl rfl (rs := [.tmp 6]) Tryd.results9 (by simp [Tryd.ntmps9]) fun X => ?_
      simp only [Tryd.ntmps9, List.map]
      refine AW_rg (tyOf_good _) [0, 4, 5] [4, 5] (fun _ _ => trivial) fun K' hK' => ?_
      repeat (refine sxf_next fun K2 hK2 => ?_; simp [dNum, dS, pairA, assertA]; (repeat (refine ⟨by omega, ?_⟩)); refine hK2 _ ?_; clear hK2 K2)
      refine sxf_nil (hK' _ ?_)
      refine AW.st (by simp [dNum, dS, pairA, assertA]; rfl) ?_
      clear hK' K'
      refine AW.imp (Imp.freezeB 4 trivial) ?_
      refine AW.st (by simp [dNum, dS, pairA, assertA]; rfl) ?_
      refine AW.imp (Imp.freezeB 5 trivial) ?_
      refine AW.st (by simp [dNum, dS, pairA, assertA]; rfl) ?_
      refine AW_then fun K1 hK1 => ?_
      refine AW_rg (tyOf_good _) [4, 5, 14] [] (fun _ _ => trivial) fun K' hK' => ?_
      repeat (refine sxf_next fun K2 hK2 => ?_; simp [dNum, dS, pairA, assertA]; (repeat (refine ⟨by omega, ?_⟩)); refine hK2 _ ?_; clear hK2 K2)
      refine sxf_nil (hK' _ ?_)
      refine AW.st (by simp [dNum, dS, pairA, assertA]; rfl) ?_
      clear hK' K'
      refine AW_block ?_
      refine AW_rg (tyOf_good _) [4, 5, 14, 16, 17] [] (fun _ _ => trivial) fun K' hK' => ?_
      repeat (refine sxf_next fun K2 hK2 => ?_; simp [dNum, dS, pairA, assertA]; (repeat (refine ⟨by omega, ?_⟩)); refine hK2 _ ?_; clear hK2 K2)
      refine sxf_nil (hK' _ ?_)
      refine AW.st (by simp [dNum, dS, pairA, assertA]; rfl) ?_
      clear hK' K'
      refine AW_cond false rfl (fun h => by cases h) (fun _ => ?_)
      refine AW_rg (tyOf_good _) [4, 5, 14, 20, 21] [] (fun _ _ => trivial) fun K' hK' => ?_
      repeat (refine sxf_next fun K2 hK2 => ?_; simp [dNum, dS, pairA, assertA]; (repeat (refine ⟨by omega, ?_⟩)); refine hK2 _ ?_; clear hK2 K2)
      refine sxf_nil (hK' _ ?_)
      refine AW.st (by simp [dNum, dS, pairA, assertA]; rfl) ?_
      clear hK' K'
      refine AW_cond true rfl (fun _ => ?_) (fun h => by cases h)
      refine AW_rg (tyOf_good _) [4, 8] [] (fun _ _ => trivial) fun K' hK' => ?_
      repeat (refine sxf_next fun K2 hK2 => ?_; simp [dNum, dS, pairA, assertA]; (repeat (refine ⟨by omega, ?_⟩)); refine hK2 _ ?_; clear hK2 K2)
      refine sxf_nil (hK' _ ?_)
      refine AW.st (by simp [dNum, dS, pairA, assertA]; rfl) ?_
      clear hK' K'
      refine AW_rg (tyOf_good _) [6] [] (fun _ _ => trivial) fun K' hK' => ?_
      repeat (refine sxf_next fun K2 hK2 => ?_; simp [dNum, dS, pairA, assertA]; (repeat (refine ⟨by omega, ?_⟩)); refine hK2 _ ?_; clear hK2 K2)
      refine sxf_next fun K2 hK2 => ?_
      simp [dNum, dS, pairA, assertA]
      refine callK.data (hi) (by simp; rfl) (by first | exact D.leGo_refl _ | simp [takeMap, List.map_map, Function.comp_def, D.le, D.le.go, D.le_refl, D.leGo_refl, dNum, dS, pairA, assertA]) ?_
      refine hK2 _ ?_
      clear hK2 K2
      simp only [putd, upd_lst]
      repeat (refine sxf_next fun K2 hK2 => ?_; simp [dNum, dS, pairA, assertA]; (repeat (refine ⟨by omega, ?_⟩)); refine hK2 _ ?_; clear hK2 K2)
      refine sxf_nil (hK' _ ?_)
      refine AW.st (by simp [dNum, dS, pairA, assertA]; rfl) ?_
      clear hK' K'
      refine AW_ret ?_
      simp [D.le, D.le.go, takeMap, dNum, dS, pairA, assertA]
    | rise s =>
      rw [AskE] at hask
      have hi := h1 s hask.1
      have hw := h2 s hask.2
      rw [dE, evE]
      cases hs : is s with
      | false =>
        rw [hs] at hi
        refine PureC.of_body (tyOf_good _) Tryd.func9 rfl rfl (rs := [.tmp 6]) Tryd.results9 (by simp [Tryd.ntmps9]) fun X => ?_
        simp only [Tryd.ntmps9, List.map]
        refine AW_rg (tyOf_good _) [0, 4, 5] [4, 5] (fun _ _ => trivial) fun K' hK' => ?_
        repeat (refine sxf_next fun K2 hK2 => ?_; simp [dNum, dS, pairA, assertA]; (repeat (refine ⟨by omega, ?_⟩)); refine hK2 _ ?_; clear hK2 K2)
        refine sxf_nil (hK' _ ?_)
        refine AW.st (by simp [dNum, dS, pairA, assertA]; rfl) ?_
        clear hK' K'
        refine AW.imp (Imp.freezeB 4 trivial) ?_
        refine AW.st (by simp [dNum, dS, pairA, assertA]; rfl) ?_
        refine AW.imp (Imp.freezeB 5 trivial) ?_
        refine AW.st (by simp [dNum, dS, pairA, assertA]; rfl) ?_
        refine AW_then fun K1 hK1 => ?_
        refine AW_rg (tyOf_good _) [4, 5, 14] [] (fun _ _ => trivial) fun K' hK' => ?_
        repeat (refine sxf_next fun K2 hK2 => ?_; simp [dNum, dS, pairA, assertA]; (repeat (refine ⟨by omega, ?_⟩)); refine hK2 _ ?_; clear hK2 K2)
        refine sxf_nil (hK' _ ?_)
        refine AW.st (by simp [dNum, dS, pairA, assertA]; rfl) ?_
        clear hK' K'
        refine AW_block ?_
        refine AW_rg (tyOf_good _) [4, 5, 14, 16, 17] [] (fun _ _ => trivial) fun K' hK' => ?_
        repeat (refine sxf_next fun K2 hK2 => ?_; simp [dNum, dS, pairA, assertA]; (repeat (refine ⟨by omega, ?_⟩)); refine hK2 _ ?_; clear hK2 K2)
        refine sxf_nil (hK' _ ?_)
        refine AW.st (by simp [dNum, dS, pairA, assertA]; rfl) ?_
        clear hK' K'
        refine AW_cond false rfl (fun h => by cases h) (fun _ => ?_)
        refine AW_rg (tyOf_good _) [4, 5, 14, 20, 21] [] (fun _ _ => trivial) fun K' hK' => ?_
        repeat (refine sxf_next fun K2 hK2 => ?_; simp [dNum, dS, pairA, assertA]; (repeat (refine ⟨by omega, ?_⟩)); refine hK2 _ ?_; clear hK2 K2)
        refine sxf_nil (hK' _ ?_)
        refine AW.st (by simp [dNum, dS, pairA, assertA]; rfl) ?_
        clear hK' K'
        refine AW_cond false rfl (fun h => by cases h) (fun _ => ?_)
        refine AW_rg (tyOf_good _) [4, 5, 14, 26, 27] [] (fun _ _ => trivial) fun K' hK' => ?_
        repeat (refine sxf_next fun K2 hK2 => ?_; simp [dNum, dS, pairA, assertA]; (repeat (refine ⟨by omega, ?_⟩)); refine hK2 _ ?_; clear hK2 K2)
        refine sxf_nil (hK' _ ?_)
        refine AW.st (by simp [dNum, dS, pairA, assertA]; rfl) ?_
        clear hK' K'
        refine AW_cond true rfl (fun _ => ?_) (fun h => by cases h)
        refine AW_rg (tyOf_good _) [4, 5, 9] [] (fun _ _ => trivial) fun K' hK' => ?_
        repeat (refine sxf_next fun K2 hK2 => ?_; simp [dNum, dS, pairA, assertA]; (repeat (refine ⟨by omega, ?_⟩)); refine hK2 _ ?_; clear hK2 K2)
        refine sxf_nil (hK' _ ?_)
        refine AW.st (by simp [dNum, dS, pairA, assertA]; rfl) ?_
        clear hK' K'
        refine AW_rg (tyOf_good _) [6] [] (fun _ _ => trivial) fun K' hK' => ?_
        repeat (refine sxf_next fun K2 hK2 => ?_; simp [dNum, dS, pairA, assertA]; (repeat (refine ⟨by omega, ?_⟩)); refine hK2 _ ?_; clear hK2 K2)
        refine sxf_next fun K2 hK2 => ?_
        simp [dNum, dS, pairA, assertA]
        refine callK.data (hi) (by simp; rfl) (by first | exact D.leGo_refl _ | simp [takeMap, List.map_map, Function.comp_def, D.le, D.le.go, D.le_refl, D.leGo_refl, dNum, dS, pairA, assertA]) ?_
        refine hK2 _ ?_
        clear hK2 K2
        simp only [putd, upd_lst]
        repeat (refine sxf_next fun K2 hK2 => ?_; simp [dNum, dS, pairA, assertA]; (repeat (refine ⟨by omega, ?_⟩)); refine hK2 _ ?_; clear hK2 K2)
        refine sxf_nil (hK' _ ?_)
        refine AW.st (by simp [dNum, dS, pairA, assertA]; rfl) ?_
        clear hK' K'
        refine AW_ret ?_
        simp [D.le, D.le.go, takeMap, dNum, dS, pairA, assertA]
      | true =>
        rw [hs] at hi
        refine PureC.of_body (tyOf_good _) Tryd.func9 rfl rfl (rs := [.tmp 6]) Tryd.results9 (by simp [Tryd.ntmps9]) fun X => ?_
        simp only [Tryd.ntmps9, List.map]
        refine AW_rg (tyOf_good _) [0, 4, 5] [4, 5] (fun _ _ => trivial) fun K' hK' => ?_
        repeat (refine sxf_next fun K2 hK2 => ?_; simp [dNum, dS, pairA, assertA]; (repeat (refine ⟨by omega, ?_⟩)); refine hK2 _ ?_; clear hK2 K2)
        refine sxf_nil (hK' _ ?_)
        refine AW.st (by simp [dNum, dS, pairA, assertA]; rfl) ?_
        clear hK' K'
        refine AW.imp (Imp.freezeB 4 trivial) ?_
        refine AW.st (by simp [dNum, dS, pairA, assertA]; rfl) ?_
        refine AW.imp (Imp.freezeB 5 trivial) ?_
        refine AW.st (by simp [dNum, dS, pairA, assertA]; rfl) ?_
        refine AW_then fun K1 hK1 => ?_
        refine AW_rg (tyOf_good _) [4, 5, 14] [] (fun _ _ => trivial) fun K' hK' => ?_
        repeat (refine sxf_next fun K2 hK2 => ?_; simp [dNum, dS, pairA, assertA]; (repeat (refine ⟨by omega, ?_⟩)); refine hK2 _ ?_; clear hK2 K2)
        refine sxf_nil (hK' _ ?_)
        refine AW.st (by simp [dNum, dS, pairA, assertA]; rfl) ?_
        clear hK' K'
        refine AW_block ?_
        refine AW_rg (tyOf_good _) [4, 5, 14, 16, 17] [] (fun _ _ => trivial) fun K' hK' => ?_
        repeat (refine sxf_next fun K2 hK2 => ?_; simp [dNum, dS, pairA, assertA]; (repeat (refine ⟨by omega, ?_⟩)); refine hK2 _ ?_; clear hK2 K2)
        refine sxf_nil (hK' _ ?_)
        refine AW.st (by simp [dNum, dS, pairA, assertA]; rfl) ?_
        clear hK' K'
        refine AW_cond false rfl (fun h => by cases h) (fun _ => ?_)
        refine AW_rg (tyOf_good _) [4, 5, 14, 20, 21] [] (fun _ _ => trivial) fun K' hK' => ?_
        repeat (refine sxf_next fun K2 hK2 => ?_; simp [dNum, dS, pairA, assertA]; (repeat (refine ⟨by omega, ?_⟩)); refine hK2 _ ?_; clear hK2 K2)
        refine sxf_nil (hK' _ ?_)
        refine AW.st (by simp [dNum, dS, pairA, assertA]; rfl) ?_
        clear hK' K'
        refine AW_cond false rfl (fun h => by cases h) (fun _ => ?_)
        refine AW_rg (tyOf_good _) [4, 5, 14, 26, 27] [] (fun _ _ => trivial) fun K' hK' => ?_
        repeat (refine sxf_next fun K2 hK2 => ?_; simp [dNum, dS, pairA, assertA]; (repeat (refine ⟨by omega, ?_⟩)); refine hK2 _ ?_; clear hK2 K2)
        refine sxf_nil (hK' _ ?_)
        refine AW.st (by simp [dNum, dS, pairA, assertA]; rfl) ?_
        clear hK' K'
        refine AW_cond true rfl (fun _ => ?_) (fun h => by cases h)
        refine AW_rg (tyOf_good _) [4, 5, 9] [] (fun _ _ => trivial) fun K' hK' => ?_
        repeat (refine sxf_next fun K2 hK2 => ?_; simp [dNum, dS, pairA, assertA]; (repeat (refine ⟨by omega, ?_⟩)); refine hK2 _ ?_; clear hK2 K2)
        refine sxf_nil (hK' _ ?_)
        refine AW.st (by simp [dNum, dS, pairA, assertA]; rfl) ?_
        clear hK' K'
        refine AW_rg (tyOf_good _) [6] [] (fun _ _ => trivial) fun K' hK' => ?_
        repeat (refine sxf_next fun K2 hK2 => ?_; simp [dNum, dS, pairA, assertA]; (repeat (refine ⟨by omega, ?_⟩)); refine hK2 _ ?_; clear hK2 K2)
        refine sxf_next fun K2 hK2 => ?_
        simp [dNum, dS, pairA, assertA]
        refine callK.data (hi) (by simp; rfl) (by first | exact D.leGo_refl _ | simp [takeMap, List.map_map, Function.comp_def, D.le, D.le.go, D.le_refl, D.leGo_refl, dNum, dS, pairA, assertA]) ?_
        refine hK2 _ ?_
        clear hK2 K2
        simp only [putd, upd_lst]
        repeat (refine sxf_next fun K2 hK2 => ?_; simp [dNum, dS, pairA, assertA]; (repeat (refine ⟨by omega, ?_⟩)); refine hK2 _ ?_; clear hK2 K2)
        refine sxf_next fun K2 hK2 => ?_
        simp [dNum, dS, pairA, assertA]
        refine callK.data (hw) (by simp; rfl) (by first | exact D.leGo_refl _ | simp [takeMap, List.map_map, Function.comp_def, D.le, D.le.go, D.le_refl, D.leGo_refl, dNum, dS, pairA, assertA]) ?_
        refine hK2 _ ?_
        clear hK2 K2
        simp only [putd, upd_lst]
        repeat (refine sxf_next fun K2 hK2 => ?_; simp [dNum, dS, pairA, assertA]; (repeat (refine ⟨by omega, ?_⟩)); refine hK2 _ ?_; clear hK2 K2)
        refine sxf_nil (hK' _ ?_)
        refine AW.st (by simp [dNum, dS, pairA, assertA]; rfl) ?_
        clear hK' K'
        refine AW_ret ?_
        simp [D.le, D.le.go, takeMap, dNum, dS, pairA, assertA]
    | fall s =>
      rw [AskE] at hask
      have hi := h1 s hask.1
      have hw := h2 s hask.2
      rw [dE, evE]
      cases hs : is s with
      | true =>
        rw [hs] at hi
        refine PureC.of_body (tyOf_good _) Tryd.func9 rfl rfl (rs := [.tmp 6]) Tryd.results9 (by simp [Tryd.ntmps9]) fun X => ?_
        simp only [Tryd.ntmps9, List.map]
        refine AW_rg (tyOf_good _) [0, 4, 5] [4, 5] (fun _ _ => trivial) fun K' hK' => ?_
        repeat (refine sxf_next fun K2 hK2 => ?_; simp [dNum, dS, pairA, assertA]; (repeat (refine ⟨by omega, ?_⟩)); refine hK2 _ ?_; clear hK2 K2)
        refine sxf_nil (hK' _ ?_)
        refine AW.st (by simp [dNum, dS, pairA, assertA]; rfl) ?_
        clear hK' K'
        refine AW.imp (Imp.freezeB 4 trivial) ?_
        refine AW.st (by simp [dNum, dS, pairA, assertA]; rfl) ?_
        refine AW.imp (Imp.freezeB 5 trivial) ?_
        refine AW.st (by simp [dNum, dS, pairA, assertA]; rfl) ?_
        refine AW_then fun K1 hK1 => ?_
        refine AW_rg (tyOf_good _) [4, 5, 14] [] (fun _ _ => trivial) fun K' hK' => ?_
        repeat (refine sxf_next fun K2 hK2 => ?_; simp [dNum, dS, pairA, assertA]; (repeat (refine ⟨by omega, ?_⟩)); refine hK2 _ ?_; clear hK2 K2)
        refine sxf_nil (hK' _ ?_)
        refine AW.st (by simp [dNum, dS, pairA, assertA]; rfl) ?_
        clear hK' K'
        refine AW_block ?_
        refine AW_rg (tyOf_good _) [4, 5, 14, 16, 17] [] (fun _ _ => trivial) fun K' hK' => ?_
        repeat (refine sxf_next fun K2 hK2 => ?_; simp [dNum, dS, pairA, assertA]; (repeat (refine ⟨by omega, ?_⟩)); refine hK2 _ ?_; clear hK2 K2)
        refine sxf_nil (hK' _ ?_)
        refine AW.st (by simp [dNum, dS, pairA, assertA]; rfl) ?_
        clear hK' K'
        refine AW_cond false rfl (fun h => by cases h) (fun _ => ?_)
        refine AW_rg (tyOf_good _) [4, 5, 14, 20, 21] [] (fun _ _ => trivial) fun K' hK' => ?_
        repeat (refine sxf_next fun K2 hK2 => ?_; simp [dNum, dS, pairA, assertA]; (repeat (refine ⟨by omega, ?_⟩)); refine hK2 _ ?_; clear hK2 K2)
        refine sxf_nil (hK' _ ?_)
        refine AW.st (by simp [dNum, dS, pairA, assertA]; rfl) ?_
        clear hK' K'
        refine AW_cond false rfl (fun h => by cases h) (fun _ => ?_)
        refine AW_rg (tyOf_good _) [4, 5, 14, 26, 27] [] (fun _ _ => trivial) fun K' hK' => ?_
        repeat (refine sxf_next fun K2 hK2 => ?_; simp [dNum, dS, pairA, assertA]; (repeat (refine ⟨by omega, ?_⟩)); refine hK2 _ ?_; clear hK2 K2)
        refine sxf_nil (hK' _ ?_)
        refine AW.st (by simp [dNum, dS, pairA, assertA]; rfl) ?_
        clear hK' K'
        refine AW_cond false rfl (fun h => by cases h) (fun _ => ?_)
        refine AW_rg (tyOf_good _) [4, 5, 14, 38, 39] [] (fun _ _ => trivial) fun K' hK' => ?_
        repeat (refine sxf_next fun K2 hK2 => ?_; simp [dNum, dS, pairA, assertA]; (repeat (refine ⟨by omega, ?_⟩)); refine hK2 _ ?_; clear hK2 K2)
        refine sxf_nil (hK' _ ?_)
        refine AW.st (by simp [dNum, dS, pairA, assertA]; rfl) ?_
        clear hK' K'
        refine AW_cond true rfl (fun _ => ?_) (fun h => by cases h)
        refine AW_rg (tyOf_good _) [4, 5, 10] [] (fun _ _ => trivial) fun K' hK' => ?_
        repeat (refine sxf_next fun K2 hK2 => ?_; simp [dNum, dS, pairA, assertA]; (repeat (refine ⟨by omega, ?_⟩)); refine hK2 _ ?_; clear hK2 K2)
        refine sxf_nil (hK' _ ?_)
        refine AW.st (by simp [dNum, dS, pairA, assertA]; rfl) ?_
        clear hK' K'
        refine AW_rg (tyOf_good _) [6] [] (fun _ _ => trivial) fun K' hK' => ?_
        repeat (refine sxf_next fun K2 hK2 => ?_; simp [dNum, dS, pairA, assertA]; (repeat (refine ⟨by omega, ?_⟩)); refine hK2 _ ?_; clear hK2 K2)
        refine sxf_next fun K2 hK2 => ?_
        simp [dNum, dS, pairA, assertA]
        refine callK.data (hi) (by simp; rfl) (by first | exact D.leGo_refl _ | simp [takeMap, List.map_map, Function.comp_def, D.le, D.le.go, D.le_refl, D.leGo_refl, dNum, dS, pairA, assertA]) ?_
        refine hK2 _ ?_
        clear hK2 K2
        simp only [putd, upd_lst]
        repeat (refine sxf_next fun K2 hK2 => ?_; simp [dNum, dS, pairA, assertA]; (repeat (refine ⟨by omega, ?_⟩)); refine hK2 _ ?_; clear hK2 K2)
        refine sxf_nil (hK' _ ?_)
        refine AW.st (by simp [dNum, dS, pairA, assertA]; rfl) ?_
        clear hK' K'
        refine AW_ret ?_
        simp [D.le, D.le.go, takeMap, dNum, dS, pairA, assertA]
      | false =>
        rw [hs] at hi
        refine PureC.of_body (tyOf_good _) Tryd.func9 rfl rfl (rs := [.tmp 6]) Tryd.results9 (by simp [Tryd.ntmps9]) fun X => ?_
        simp only [Tryd.ntmps9, List.map]
        refine AW_rg (tyOf_good _) [0, 4, 5] [4, 5] (fun _ _ => trivial) fun K' hK' => ?_
        repeat (refine sxf_next fun K2 hK2 => ?_; simp [dNum, dS, pairA, assertA]; (repeat (refine ⟨by omega, ?_⟩)); refine hK2 _ ?_; clear hK2 K2)
        refine sxf_nil (hK' _ ?_)
        refine AW.st (by simp [dNum, dS, pairA, assertA]; rfl) ?_
        clear hK' K'
        refine AW.imp (Imp.freezeB 4 trivial) ?_
        refine AW.st (by simp [dNum, dS, pairA, assertA]; rfl) ?_
        refine AW.imp (Imp.freezeB 5 trivial) ?_
        refine AW.st (by simp [dNum, dS, pairA, assertA]; rfl) ?_
        refine AW_then fun K1 hK1 => ?_
        refine AW_rg (tyOf_good _) [4, 5, 14] [] (fun _ _ => trivial) fun K' hK' => ?_
        repeat (refine sxf_next fun K2 hK2 => ?_; simp [dNum, dS, pairA, assertA]; (repeat (refine ⟨by omega, ?_⟩)); refine hK2 _ ?_; clear hK2 K2)
        refine sxf_nil (hK' _ ?_)
        refine AW.st (by simp [dNum, dS, pairA, assertA]; rfl) ?_
        clear hK' K'
        refine AW_block ?_
        refine AW_rg (tyOf_good _) [4, 5, 14, 16, 17] [] (fun _ _ => trivial) fun K' hK' => ?_
        repeat (refine sxf_next fun K2 hK2 => ?_; simp [dNum, dS, pairA, assertA]; (repeat (refine ⟨by omega, ?_⟩)); refine hK2 _ ?_; clear hK2 K2)
        refine sxf_nil (hK' _ ?_)
        refine AW.st (by simp [dNum, dS, pairA, assertA]; rfl) ?_
        clear hK' K'
        refine AW_cond false rfl (fun h => by cases h) (fun _ => ?_)
        refine AW_rg (tyOf_good _) [4, 5, 14, 20, 21] [] (fun _ _ => trivial) fun K' hK' => ?_
        repeat (refine sxf_next fun K2 hK2 => ?_; simp [dNum, dS, pairA, assertA]; (repeat (refine ⟨by omega, ?_⟩)); refine hK2 _ ?_; clear hK2 K2)
        refine sxf_nil (hK' _ ?_)
        refine AW.st (by simp [dNum, dS, pairA, assertA]; rfl) ?_
        clear hK' K'
        refine AW_cond false rfl (fun h => by cases h) (fun _ => ?_)
        refine AW_rg (tyOf_good _) [4, 5, 14, 26, 27] [] (fun _ _ => trivial) fun K' hK' => ?_
        repeat (refine sxf_next fun K2 hK2 => ?_; simp [dNum, dS, pairA, assertA]; (repeat (refine ⟨by omega, ?_⟩)); refine hK2 _ ?_; clear hK2 K2)
        refine sxf_nil (hK' _ ?_)
        refine AW.st (by simp [dNum, dS, pairA, assertA]; rfl) ?_
        clear hK' K'
        refine AW_cond false rfl (fun h => by cases h) (fun _ => ?_)
        refine AW_rg (tyOf_good _) [4, 5, 14, 38, 39] [] (fun _ _ => trivial) fun K' hK' => ?_
        repeat (refine sxf_next fun K2 hK2 => ?_; simp [dNum, dS, pairA, assertA]; (repeat (refine ⟨by omega, ?_⟩)); refine hK2 _ ?_; clear hK2 K2)
        refine sxf_nil (hK' _ ?_)
        refine AW.st (by simp [dNum, dS, pairA, assertA]; rfl) ?_
        clear hK' K'
        refine AW_cond true rfl (fun _ => ?_) (fun h => by cases h)
        refine AW_rg (tyOf_good _) [4, 5, 10] [] (fun _ _ => trivial) fun K' hK' => ?_
        repeat (refine sxf_next fun K2 hK2 => ?_; simp [dNum, dS, pairA, assertA]; (repeat (refine ⟨by omega, ?_⟩)); refine hK2 _ ?_; clear hK2 K2)
        refine sxf_nil (hK' _ ?_)
        refine AW.st (by simp [dNum, dS, pairA, assertA]; rfl) ?_
        clear hK' K'
        refine AW_rg (tyOf_good _) [6] [] (fun _ _ => trivial) fun K' hK' => ?_
        repeat (refine sxf_next fun K2 hK2 => ?_; simp [dNum, dS, pairA, assertA]; (repeat (refine ⟨by omega, ?_⟩)); refine hK2 _ ?_; clear hK2 K2)
        refine sxf_next fun K2 hK2 => ?_
        simp [dNum, dS, pairA, assertA]
        refine callK.data (hi) (by simp; rfl) (by first | exact D.leGo_refl _ | simp [takeMap, List.map_map, Function.comp_def, D.le, D.le.go, D.le_refl, D.leGo_refl, dNum, dS, pairA, assertA]) ?_
        refine hK2 _ ?_
        clear hK2 K2
        simp only [putd, upd_lst]
        repeat (refine sxf_next fun K2 hK2 => ?_; simp [dNum, dS, pairA, assertA]; (repeat (refine ⟨by omega, ?_⟩)); refine hK2 _ ?_; clear hK2 K2)
        refine sxf_next fun K2 hK2 => ?_
        simp [dNum, dS, pairA, assertA]
        refine callK.data (hw) (by simp; rfl) (by first | exact D.leGo_refl _ | simp [takeMap, List.map_map, Function.comp_def, D.le, D.le.go, D.le_refl, D.leGo_refl, dNum, dS, pairA, assertA]) ?_
        refine hK2 _ ?_
        clear hK2 K2
        simp only [putd, upd_lst]
        repeat (refine sxf_next fun K2 hK2 => ?_; simp [dNum, dS, pairA, assertA]; (repeat (refine ⟨by omega, ?_⟩)); refine hK2 _ ?_; clear hK2 K2)
        refine sxf_nil (hK' _ ?_)
        refine AW.st (by simp [dNum, dS, pairA, assertA]; rfl) ?_
        clear hK' K'
        refine AW_ret ?_
        simp [D.le, D.le.go, takeMap, dNum, dS, pairA, assertA]
    | not x =>
      have hc := ih x (by simp at hsz; omega) (by rwa [AskE] at hask) (by simp only [bE] at hb; omega)
      obtain ⟨tx, cx, hx⟩ := dE_ifc x
      rw [dE, evE, hx]
      rw [hx] at hc
      generalize evE is was x = r at hc ⊢
      refine PureC.of_body (tyOf_good _) Tryd.func9 rfl rfl (rs := [.tmp 6]) Tryd.results9 (by simp [Tryd.ntmps9]) fun X => ?_
      simp only [Tryd.ntmps9, List.map]
      refine AW_rg (tyOf_good _) [0, 4, 5] [4, 5] (fun _ _ => trivial) fun K' hK' => ?_
      repeat (refine sxf_next fun K2 hK2 => ?_; simp [dNum, dS, pairA, assertA]; (repeat (refine ⟨by omega, ?_⟩)); refine hK2 _ ?_; clear hK2 K2)
      refine sxf_nil (hK' _ ?_)
      refine AW.st (by simp [dNum, dS, pairA, assertA]; rfl) ?_
      clear hK' K'
      refine AW.imp (Imp.freezeB 4 trivial) ?_
      refine AW.st (by simp [dNum, dS, pairA, assertA]; rfl) ?_
      refine AW.imp (Imp.freezeB 5 trivial) ?_
      refine AW.st (by simp [dNum, dS, pairA, assertA]; rfl) ?_
      refine AW_then fun K1 hK1 => ?_
      refine AW_rg (tyOf_good _) [4, 5, 14] [] (fun _ _ => trivial) fun K' hK' => ?_
      repeat (refine sxf_next fun K2 hK2 => ?_; simp [dNum, dS, pairA, assertA]; (repeat (refine ⟨by omega, ?_⟩)); refine hK2 _ ?_; clear hK2 K2)
      refine sxf_nil (hK' _ ?_)
      refine AW.st (by simp [dNum, dS, pairA, assertA]; rfl) ?_
      clear hK' K'
      refine AW_block ?_
      refine AW_rg (tyOf_good _) [4, 5, 14, 16, 17] [] (fun _ _ => trivial) fun K' hK' => ?_
      repeat (refine sxf_next fun K2 hK2 => ?_; simp [dNum, dS, pairA, assertA]; (repeat (refine ⟨by omega, ?_⟩)); refine hK2 _ ?_; clear hK2 K2)
      refine sxf_nil (hK' _ ?_)
      refine AW.st (by simp [dNum, dS, pairA, assertA]; rfl) ?_
      clear hK' K'
      refine AW_cond false rfl (fun h => by cases h) (fun _ => ?_)
      refine AW_rg (tyOf_good _) [4, 5, 14, 20, 21] [] (fun _ _ => trivial) fun K' hK' => ?_
      repeat (refine sxf_next fun K2 hK2 => ?_; simp [dNum, dS, pairA, assertA]; (repeat (refine ⟨by omega, ?_⟩)); refine hK2 _ ?_; clear hK2 K2)
      refine sxf_nil (hK' _ ?_)
      refine AW.st (by simp [dNum, dS, pairA, assertA]; rfl) ?_
      clear hK' K'
      refine AW_cond false rfl (fun h => by cases h) (fun _ => ?_)
      refine AW_rg (tyOf_good _) [4, 5, 14, 26, 27] [] (fun _ _ => trivial) fun K' hK' => ?_
      repeat (refine sxf_next fun K2 hK2 => ?_; simp [dNum, dS, pairA, assertA]; (repeat (refine ⟨by omega, ?_⟩)); refine hK2 _ ?_; clear hK2 K2)
      refine sxf_nil (hK' _ ?_)
      refine AW.st (by simp [dNum, dS, pairA, assertA]; rfl) ?_
      clear hK' K'
      refine AW_cond false rfl (fun h => by cases h) (fun _ => ?_)
      refine AW_rg (tyOf_good _) [4, 5, 14, 38, 39] [] (fun _ _ => trivial) fun K' hK' => ?_
      repeat (refine sxf_next fun K2 hK2 => ?_; simp [dNum, dS, pairA, assertA]; (repeat (refine ⟨by omega, ?_⟩)); refine hK2 _ ?_; clear hK2 K2)
      refine sxf_nil (hK' _ ?_)
      refine AW.st (by simp [dNum, dS, pairA, assertA]; rfl) ?_
      clear hK' K'
      refine AW_cond false rfl (fun h => by cases h) (fun _ => ?_)
      refine AW_rg (tyOf_good _) [4, 5, 14, 50, 51] [] (fun _ _ => trivial) fun K' hK' => ?_
      repeat (refine sxf_next fun K2 hK2 => ?_; simp [dNum, dS, pairA, assertA]; (repeat (refine ⟨by omega, ?_⟩)); refine hK2 _ ?_; clear hK2 K2)
      refine sxf_nil (hK' _ ?_)
      refine AW.st (by simp [dNum, dS, pairA, assertA]; rfl) ?_
      clear hK' K'
      refine AW_cond true rfl (fun _ => ?_) (fun h => by cases h)
      refine AW_rg (tyOf_good _) [4, 5, 11] [11] (fun _ _ => trivial) fun K' hK' => ?_
      repeat (refine sxf_next fun K2 hK2 => ?_; simp [dNum, dS, pairA, assertA]; (repeat (refine ⟨by omega, ?_⟩)); refine hK2 _ ?_; clear hK2 K2)
      refine sxf_nil (hK' _ ?_)
      refine AW.st (by simp [dNum, dS, pairA, assertA]; rfl) ?_
      clear hK' K'
      refine AW_rg (tyOf_good _) [6] [11] (fun _ _ => trivial) fun K' hK' => ?_
      repeat (refine sxf_next fun K2 hK2 => ?_; simp [dNum, dS, pairA, assertA]; (repeat (refine ⟨by omega, ?_⟩)); refine hK2 _ ?_; clear hK2 K2)
      refine sxf_next fun K2 hK2 => ?_
      simp [dNum, dS, pairA, assertA]
      refine callK.data (hc) (by simp; rfl) (by first | exact D.leGo_refl _ | simp [takeMap, List.map_map, Function.comp_def, D.le, D.le.go, D.le_refl, D.leGo_refl, dNum, dS, pairA, assertA]) ?_
      refine hK2 _ ?_
      clear hK2 K2
      simp only [putd, upd_lst]
      repeat (refine sxf_next fun K2 hK2 => ?_; simp [dNum, dS, pairA, assertA]; (repeat (refine ⟨by omega, ?_⟩)); refine hK2 _ ?_; clear hK2 K2)
      refine sxf_nil (hK' _ ?_)
      refine AW.st (by simp [dNum, dS, pairA, assertA]; rfl) ?_
      clear hK' K'
      refine AW_ret ?_
      simp [D.le, D.le.go, takeMap, dNum, dS, pairA, assertA]
    | and l =>
      have hch : ∀ x ∈ l, PureC Tryd.prog G 22 [dE x, .ip [.fn (.func g1) c1], .ip [.fn (.func g2) c2]] (.v (.bool (!evE is was x))) := fun x hx => by
        have hc := ih x (by have := List.sizeOf_lt_of_mem hx; simp only [Ex.and.sizeOf_spec] at hsz; omega) (by rw [AskE, AskL_iff] at hask; exact hask x hx) (by have := bEs_mem hx; simp only [bE] at hb; omega)
        obtain ⟨tx, cx, hxx⟩ := dE_ifc x
        rw [hxx] at hc ⊢
        generalize evE is was x = r at hc ⊢
        refine PureC.of_body (tyOf_good _) Tryd.func22 rfl rfl (rs := [.tmp 4]) Tryd.results22 (by simp [Tryd.ntmps22]) fun X => ?_
        simp only [Tryd.ntmps22, List.map]
        refine AW_rg (tyOf_good _) [0, 1, 2] [] (fun _ _ => trivial) fun K' hK' => ?_
        repeat (refine sxf_next fun K2 hK2 => ?_; simp [dNum, dS, pairA, assertA]; (repeat (refine ⟨by omega, ?_⟩)); refine hK2 _ ?_; clear hK2 K2)
        refine sxf_nil (hK' _ ?_)
        refine AW.st (by simp [dNum, dS, pairA, assertA]; rfl) ?_
        clear hK' K'
        refine AW_rg (tyOf_good _) [4] [] (fun _ _ => trivial) fun K' hK' => ?_
        repeat (refine sxf_next fun K2 hK2 => ?_; simp [dNum, dS, pairA, assertA]; (repeat (refine ⟨by omega, ?_⟩)); refine hK2 _ ?_; clear hK2 K2)
        refine sxf_next fun K2 hK2 => ?_
        simp [dNum, dS, pairA, assertA]
        refine callK.data (hc) (by simp; rfl) (by first | exact D.leGo_refl _ | simp [takeMap, List.map_map, Function.comp_def, D.le, D.le.go, D.le_refl, D.leGo_refl, dNum, dS, pairA, assertA]) ?_
        refine hK2 _ ?_
        clear hK2 K2
        simp only [putd, upd_lst]
        repeat (refine sxf_next fun K2 hK2 => ?_; simp [dNum, dS, pairA, assertA]; (repeat (refine ⟨by omega, ?_⟩)); refine hK2 _ ?_; clear hK2 K2)
        refine sxf_nil (hK' _ ?_)
        refine AW.st (by simp [dNum, dS, pairA, assertA]; rfl) ?_
        clear hK' K'
        refine AW_ret ?_
        simp [D.le, D.le.go, takeMap, dNum, dS, pairA, assertA]
      have hln := bEs_len l
      have hcf := containsAnd_spec G none l 22 [.ip [.fn (.func g1) c1], .ip [.fn (.func g2) c2]] (fun x => !evE is was x) (by simp only [bE] at hb; omega) hch
      rw [dE, dEs_map, evE, evA_any]
      generalize l.any (fun x => !evE is was x) = r at hcf ⊢
      refine PureC.of_body (tyOf_good _) Tryd.func9 rfl rfl (rs := [.tmp 6]) Tryd.results9 (by simp [Tryd.ntmps9]) fun X => ?_
      simp only [Tryd.ntmps9, List.map]
      refine AW_rg (tyOf_good _) [0, 4, 5] [4, 5] (fun _ _ => trivial) fun K' hK' => ?_
      repeat (refine sxf_next fun K2 hK2 => ?_; simp [dNum, dS, pairA, assertA]; (repeat (refine ⟨by omega, ?_⟩)); refine hK2 _ ?_; clear hK2 K2)
      refine sxf_nil (hK' _ ?_)
      refine AW.st (by simp [dNum, dS, pairA, assertA]; rfl) ?_
      clear hK' K'
      refine AW.imp (Imp.freezeB 4 trivial) ?_
      refine AW.st (by simp [dNum, dS, pairA, assertA]; rfl) ?_
      refine AW.imp (Imp.freezeB 5 trivial) ?_
      refine AW.st (by simp [dNum, dS, pairA, assertA]; rfl) ?_
      refine AW_then fun K1 hK1 => ?_
      refine AW_rg (tyOf_good _) [4, 5, 14] [] (fun _ _ => trivial) fun K' hK' => ?_
      repeat (refine sxf_next fun K2 hK2 => ?_; simp [dNum, dS, pairA, assertA]; (repeat (refine ⟨by omega, ?_⟩)); refine hK2 _ ?_; clear hK2 K2)
      refine sxf_nil (hK' _ ?_)
      refine AW.st (by simp [dNum, dS, pairA, assertA]; rfl) ?_
      clear hK' K'
      refine AW_block ?_
      refine AW_rg (tyOf_good _) [4, 5, 14, 16, 17] [] (fun _ _ => trivial) fun K' hK' => ?_
      repeat (refine sxf_next fun K2 hK2 => ?_; simp [dNum, dS, pairA, assertA]; (repeat (refine ⟨by omega, ?_⟩)); refine hK2 _ ?_; clear hK2 K2)
      refine sxf_nil (hK' _ ?_)
      refine AW.st (by simp [dNum, dS, pairA, assertA]; rfl) ?_
      clear hK' K'
      refine AW_cond false rfl (fun h => by cases h) (fun _ => ?_)
      refine AW_rg (tyOf_good _) [4, 5, 14, 20, 21] [] (fun _ _ => trivial) fun K' hK' => ?_
      repeat (refine sxf_next fun K2 hK2 => ?_; simp [dNum, dS, pairA, assertA]; (repeat (refine ⟨by omega, ?_⟩)); refine hK2 _ ?_; clear hK2 K2)
      refine sxf_nil (hK' _ ?_)
      refine AW.st (by simp [dNum, dS, pairA, assertA]; rfl) ?_
      clear hK' K'
      refine AW_cond false rfl (fun h => by cases h) (fun _ => ?_)
      refine AW_rg (tyOf_good _) [4, 5, 14, 26, 27] [] (fun _ _ => trivial) fun K' hK' => ?_
      repeat (refine sxf_next fun K2 hK2 => ?_; simp [dNum, dS, pairA, assertA]; (repeat (refine ⟨by omega, ?_⟩)); refine hK2 _ ?_; clear hK2 K2)
      refine sxf_nil (hK' _ ?_)
      refine AW.st (by simp [dNum, dS, pairA, assertA]; rfl) ?_
      clear hK' K'
      refine AW_cond false rfl (fun h => by cases h) (fun _ => ?_)
      refine AW_rg (tyOf_good _) [4, 5, 14, 38, 39] [] (fun _ _ => trivial) fun K' hK' => ?_
      repeat (refine sxf_next fun K2 hK2 => ?_; simp [dNum, dS, pairA, assertA]; (repeat (refine ⟨by omega, ?_⟩)); refine hK2 _ ?_; clear hK2 K2)
      refine sxf_nil (hK' _ ?_)
      refine AW.st (by simp [dNum, dS, pairA, assertA]; rfl) ?_
      clear hK' K'
      refine AW_cond false rfl (fun h => by cases h) (fun _ => ?_)
      refine AW_rg (tyOf_good _) [4, 5, 14, 50, 51] [] (fun _ _ => trivial) fun K' hK' => ?_
      repeat (refine sxf_next fun K2 hK2 => ?_; simp [dNum, dS, pairA, assertA]; (repeat (refine ⟨by omega, ?_⟩)); refine hK2 _ ?_; clear hK2 K2)
      refine sxf_nil (hK' _ ?_)
      refine AW.st (by simp [dNum, dS, pairA, assertA]; rfl) ?_
      clear hK' K'
      refine AW_cond false rfl (fun h => by cases h) (fun _ => ?_)
      refine AW_rg (tyOf_good _) [4, 5, 14, 59, 60] [] (fun _ _ => trivial) fun K' hK' => ?_
      repeat (refine sxf_next fun K2 hK2 => ?_; simp [dNum, dS, pairA, assertA]; (repeat (refine ⟨by omega, ?_⟩)); refine hK2 _ ?_; clear hK2 K2)
      refine sxf_nil (hK' _ ?_)
      refine AW.st (by simp [dNum, dS, pairA, assertA]; rfl) ?_
      clear hK' K'
      refine AW_cond true rfl (fun _ => ?_) (fun h => by cases h)
      refine AW_rg (tyOf_good _) [4, 5, 12] [] (fun _ _ => trivial) fun K' hK' => ?_
      repeat (refine sxf_next fun K2 hK2 => ?_; simp [dNum, dS, pairA, assertA]; (repeat (refine ⟨by omega, ?_⟩)); refine hK2 _ ?_; clear hK2 K2)
      refine sxf_nil (hK' _ ?_)
      refine AW.st (by simp [dNum, dS, pairA, assertA]; rfl) ?_
      clear hK' K'
      refine AW_rg (tyOf_good _) [6] [] (fun _ _ => trivial) fun K' hK' => ?_
      repeat (refine sxf_next fun K2 hK2 => ?_; simp [dNum, dS, pairA, assertA]; (repeat (refine ⟨by omega, ?_⟩)); refine hK2 _ ?_; clear hK2 K2)
      refine sxf_next fun K2 hK2 => ?_
      simp [dNum, dS, pairA, assertA]
      refine callK.data (hcf) (by simp; rfl) (by first | exact D.leGo_refl _ | simp [takeMap, List.map_map, Function.comp_def, D.le, D.le.go, D.le_refl, D.leGo_refl, dNum, dS, pairA, assertA]) ?_
      refine hK2 _ ?_
      clear hK2 K2
      simp only [putd, upd_lst]
      repeat (refine sxf_next fun K2 hK2 => ?_; simp [dNum, dS, pairA, assertA]; (repeat (refine ⟨by omega, ?_⟩)); refine hK2 _ ?_; clear hK2 K2)
      refine sxf_nil (hK' _ ?_)
      refine AW.st (by simp [dNum, dS, pairA, assertA]; rfl) ?_
      clear hK' K'
      refine AW_ret ?_
      simp [D.le, D.le.go, takeMap, dNum, dS, pairA, assertA]
    | or l =>
      have hch : ∀ x ∈ l, PureC Tryd.prog G 24 [dE x, .ip [.fn (.func g1) c1], .ip [.fn (.func g2) c2]] (.v (.bool (evE is was x))) := fun x hx => by
        have hc := ih x (by have := List.sizeOf_lt_of_mem hx; simp only [Ex.or.sizeOf_spec] at hsz; omega) (by rw [AskE, AskL_iff] at hask; exact hask x hx) (by have := bEs_mem hx; simp only [bE] at hb; omega)
        obtain ⟨tx, cx, hxx⟩ := dE_ifc x
        rw [hxx] at hc ⊢
        generalize evE is was x = r at hc ⊢
        refine PureC.of_body (tyOf_good _) Tryd.func24 rfl rfl (rs := [.tmp 4]) Tryd.results24 (by simp [Tryd.ntmps24]) fun X => ?_
        simp only [Tryd.ntmps24, List.map]
        refine AW_rg (tyOf_good _) [0, 1, 2] [] (fun _ _ => trivial) fun K' hK' => ?_
        repeat (refine sxf_next fun K2 hK2 => ?_; simp [dNum, dS, pairA, assertA]; (repeat (refine ⟨by omega, ?_⟩)); refine hK2 _ ?_; clear hK2 K2)
        refine sxf_nil (hK' _ ?_)
        refine AW.st (by simp [dNum, dS, pairA, assertA]; rfl) ?_
        clear hK' K'
        refine AW_rg (tyOf_good _) [4] [] (fun _ _ => trivial) fun K' hK' => ?_
        repeat (refine sxf_next fun K2 hK2 => ?_; simp [dNum, dS, pairA, assertA]; (repeat (refine ⟨by omega, ?_⟩)); refine hK2 _ ?_; clear hK2 K2)
        refine sxf_next fun K2 hK2 => ?_
        simp [dNum, dS, pairA, assertA]
        refine callK.data (hc) (by simp; rfl) (by first | exact D.leGo_refl _ | simp [takeMap, List.map_map, Function.comp_def, D.le, D.le.go, D.le_refl, D.leGo_refl, dNum, dS, pairA, assertA]) ?_
        refine hK2 _ ?_
        clear hK2 K2
        simp only [putd, upd_lst]
        repeat (refine sxf_next fun K2 hK2 => ?_; simp [dNum, dS, pairA, assertA]; (repeat (refine ⟨by omega, ?_⟩)); refine hK2 _ ?_; clear hK2 K2)
        refine sxf_nil (hK' _ ?_)
        refine AW.st (by simp [dNum, dS, pairA, assertA]; rfl) ?_
        clear hK' K'
        refine AW_ret ?_
        simp [D.le, D.le.go, takeMap, dNum, dS, pairA, assertA]
      have hln := bEs_len l
      have hcf := containsOr_spec G none l 24 [.ip [.fn (.func g1) c1], .ip [.fn (.func g2) c2]] (fun x => evE is was x) (by simp only [bE] at hb; omega) hch
      rw [dE, dEs_map, evE, evO_any]
      generalize l.any (fun x => evE is was x) = r at hcf ⊢
      refine PureC.of_body (tyOf_good _) Tryd.func9 rfl rfl (rs := [.tmp 6]) Tryd.results9 (by simp [Tryd.ntmps9]) fun X => ?_
      simp only [Tryd.ntmps9, List.map]
      refine AW_rg (tyOf_good _) [0, 4, 5] [4, 5] (fun _ _ => trivial) fun K' hK' => ?_
      repeat (refine sxf_next fun K2 hK2 => ?_; simp [dNum, dS, pairA, assertA]; (repeat (refine ⟨by omega, ?_⟩)); refine hK2 _ ?_; clear hK2 K2)
      refine sxf_nil (hK' _ ?_)
      refine AW.st (by simp [dNum, dS, pairA, assertA]; rfl) ?_
      clear hK' K'
      refine AW.imp (Imp.freezeB 4 trivial) ?_
      refine AW.st (by simp [dNum, dS, pairA, assertA]; rfl) ?_
      refine AW.imp (Imp.freezeB 5 trivial) ?_
      refine AW.st (by simp [dNum, dS, pairA, assertA]; rfl) ?_
      refine AW_then fun K1 hK1 => ?_
      refine AW_rg (tyOf_good _) [4, 5, 14] [] (fun _ _ => trivial) fun K' hK' => ?_
      repeat (refine sxf_next fun K2 hK2 => ?_; simp [dNum, dS, pairA, assertA]; (repeat (refine ⟨by omega, ?_⟩)); refine hK2 _ ?_; clear hK2 K2)
      refine sxf_nil (hK' _ ?_)
      refine AW.st (by simp [dNum, dS, pairA, assertA]; rfl) ?_
      clear hK' K'
      refine AW_block ?_
      refine AW_rg (tyOf_good _) [4, 5, 14, 16, 17] [] (fun _ _ => trivial) fun K' hK' => ?_
      repeat (refine sxf_next fun K2 hK2 => ?_; simp [dNum, dS, pairA, assertA]; (repeat (refine ⟨by omega, ?_⟩)); refine hK2 _ ?_; clear hK2 K2)
      refine sxf_nil (hK' _ ?_)
      refine AW.st (by simp [dNum, dS, pairA, assertA]; rfl) ?_
      clear hK' K'
      refine AW_cond false rfl (fun h => by cases h) (fun _ => ?_)
      refine AW_rg (tyOf_good _) [4, 5, 14, 20, 21] [] (fun _ _ => trivial) fun K' hK' => ?_
      repeat (refine sxf_next fun K2 hK2 => ?_; simp [dNum, dS, pairA, assertA]; (repeat (refine ⟨by omega, ?_⟩)); refine hK2 _ ?_; clear hK2 K2)
      refine sxf_nil (hK' _ ?_)
      refine AW.st (by simp [dNum, dS, pairA, assertA]; rfl) ?_
      clear hK' K'
      refine AW_cond false rfl (fun h => by cases h) (fun _ => ?_)
      refine AW_rg (tyOf_good _) [4, 5, 14, 26, 27] [] (fun _ _ => trivial) fun K' hK' => ?_
      repeat (refine sxf_next fun K2 hK2 => ?_; simp [dNum, dS, pairA, assertA]; (repeat (refine ⟨by omega, ?_⟩)); refine hK2 _ ?_; clear hK2 K2)
      refine sxf_nil (hK' _ ?_)
      refine AW.st (by simp [dNum, dS, pairA, assertA]; rfl) ?_
      clear hK' K'
      refine AW_cond false rfl (fun h => by cases h) (fun _ => ?_)
      refine AW_rg (tyOf_good _) [4, 5, 14, 38, 39] [] (fun _ _ => trivial) fun K' hK' => ?_
      repeat (refine sxf_next fun K2 hK2 => ?_; simp [dNum, dS, pairA, assertA]; (repeat (refine ⟨by omega, ?_⟩)); refine hK2 _ ?_; clear hK2 K2)
      refine sxf_nil (hK' _ ?_)
      refine AW.st (by simp [dNum, dS, pairA, assertA]; rfl) ?_
      clear hK' K'
      refine AW_cond false rfl (fun h => by cases h) (fun _ => ?_)
      refine AW_rg (tyOf_good _) [4, 5, 14, 50, 51] [] (fun _ _ => trivial) fun K' hK' => ?_
      repeat (refine sxf_next fun K2 hK2 => ?_; simp [dNum, dS, pairA, assertA]; (repeat (refine ⟨by omega, ?_⟩)); refine hK2 _ ?_; clear hK2 K2)
      refine sxf_nil (hK' _ ?_)
      refine AW.st (by simp [dNum, dS, pairA, assertA]; rfl) ?_
      clear hK' K'
      refine AW_cond false rfl (fun h => by cases h) (fun _ => ?_)
      refine AW_rg (tyOf_good _) [4, 5, 14, 59, 60] [] (fun _ _ => trivial) fun K' hK' => ?_
      repeat (refine sxf_next fun K2 hK2 => ?_; simp [dNum, dS, pairA, assertA]; (repeat (refine ⟨by omega, ?_⟩)); refine hK2 _ ?_; clear hK2 K2)
      refine sxf_nil (hK' _ ?_)
      refine AW.st (by simp [dNum, dS, pairA, assertA]; rfl) ?_
      clear hK' K'
      refine AW_cond false rfl (fun h => by cases h) (fun _ => ?_)
      refine AW_rg (tyOf_good _) [4, 5, 66, 67] [] (fun _ _ => trivial) fun K' hK' => ?_
      repeat (refine sxf_next fun K2 hK2 => ?_; simp [dNum, dS, pairA, assertA]; (repeat (refine ⟨by omega, ?_⟩)); refine hK2 _ ?_; clear hK2 K2)
      refine sxf_nil (hK' _ ?_)
      refine AW.st (by simp [dNum, dS, pairA, assertA]; rfl) ?_
      clear hK' K'
      refine AW_cond true rfl (fun _ => ?_) (fun h => by cases h)
      refine AW_rg (tyOf_good _) [4, 5, 13] [] (fun _ _ => trivial) fun K' hK' => ?_
      repeat (refine sxf_next fun K2 hK2 => ?_; simp [dNum, dS, pairA, assertA]; (repeat (refine ⟨by omega, ?_⟩)); refine hK2 _ ?_; clear hK2 K2)
      refine sxf_nil (hK' _ ?_)
      refine AW.st (by simp [dNum, dS, pairA, assertA]; rfl) ?_
      clear hK' K'
      refine AW_rg (tyOf_good _) [6] [] (fun _ _ => trivial) fun K' hK' => ?_
      repeat (refine sxf_next fun K2 hK2 => ?_; simp [dNum, dS, pairA, assertA]; (repeat (refine ⟨by omega, ?_⟩)); refine hK2 _ ?_; clear hK2 K2)
      refine sxf_next fun K2 hK2 => ?_
      simp [dNum, dS, pairA, assertA]
      refine callK.data (hcf) (by simp; rfl) (by first | exact D.leGo_refl _ | simp [takeMap, List.map_map, Function.comp_def, D.le, D.le.go, D.le_refl, D.leGo_refl, dNum, dS, pairA, assertA]) ?_
      refine hK2 _ ?_
      clear hK2 K2
      simp only [putd, upd_lst]
      repeat (refine sxf_next fun K2 hK2 => ?_; simp [dNum, dS, pairA, assertA]; (repeat (refine ⟨by omega, ?_⟩)); refine hK2 _ ?_; clear hK2 K2)
      refine sxf_nil (hK' _ ?_)
      refine AW.st (by simp [dNum, dS, pairA, assertA]; rfl) ?_
      clear hK' K'
      refine AW_ret ?_
      simp [D.le, D.le.go, takeMap, dNum, dS, pairA, assertA]
theorem eval_spec (G : Glob) (g1 g2 : FuncId) (c1 c2 : List D) (is was : List UInt8 → Bool) (h1 : Tells G g1 c1 is) (h2 : Tells G g2 c2 was) (e : Ex) (hb : bE e ≤ 2^28) : PureC Tryd.prog G 9 [dE e, .fn (.func g1) c1, .fn (.func g2) c2] (.v (.bool (evE is was e))) :=
  eval_at G g1 g2 c1 c2 is was (fun _ => True) (fun _ => True) (fun s _ => h1 s) (fun s _ => h2 s) _ e (Nat.le_refl _) (ask_all _ e (Nat.le_refl _)) hb
theorem eval_on (G : Glob) (g1 g2 : FuncId) (c1 c2 : List D) (is was : List UInt8 → Bool) (S1 S2 : List UInt8 → Prop) (h1 : TellsOn S1 G g1 c1 is) (h2 : TellsOn S2 G g2 c2 was) (e : Ex) (ha : AskE S1 S2 e) (hb : bE e ≤ 2^28) : PureC Tryd.prog G 9 [dE e, .fn (.func g1) c1, .fn (.func g2) c2] (.v (.bool (evE is was e))) :=
  eval_at G g1 g2 c1 c2 is was S1 S2 h1 h2 _ e (Nat.le_refl _) ha hb
end Go.Proofs.YtagfbbnlbncjlaaDoor

/-
  What ExprBack and ExprTidy say.
-/
namespace Go.Proofs.YtagfbbnlbncjlaaDoor
set_option linter.unusedSimpArgs false
set_option linter.unusedVariables false
open Go.Av

theorem la : (⟨#[97]⟩ : ByteArray) = bs [97] := rfl
end Go.Proofs.YtagfbbnlbncjlaaDoor

/-
  What ExprHangs says: an expression hangs on its names alone.
-/
namespace Go.Proofs.YtagfbbnlbncjlaaDoor
set_option linter.unusedSimpArgs false
set_option linter.unusedVariables false
open Go.Av

/-! ### Plain -/
theorem mem_one1 {s x : List UInt8} : x ∈ one1 s ↔ x = s ∧ s ≠ [] := by
  unfold one1
  split
  · rename_i h; simp [h]
  · rename_i h; simp [h]
theorem mem_nmsL {all : Bool} {s : List UInt8} : ∀ {l : List Ex}, s ∈ nmsL all l ↔ ∃ e ∈ l, s ∈ nmsE all e
  | [] => by simp [nmsL]
  | e :: l => by simp [nmsL, mem_nmsL (l := l)]
theorem edges_names : ∀ (n : Nat) (e : Ex), SizeOf.sizeOf e ≤ n → ∀ s, s ∈ nmsE false e → s ∈ nmsE true e
  | 0, e, hn => by cases e <;> simp at hn
  | n + 1, e, hn => by
    intro s hs
    cases e with
    | not x => exact edges_names n x (by simp at hn; omega) s hs
    | and l =>
      simp only [nmsE] at hs ⊢
      obtain ⟨x, hx, h⟩ := mem_nmsL.1 hs
      exact mem_nmsL.2 ⟨x, hx, edges_names n x (by have := List.sizeOf_lt_of_mem hx; simp only [Ex.and.sizeOf_spec] at hn; omega) s h⟩
    | or l =>
      simp only [nmsE] at hs ⊢
      obtain ⟨x, hx, h⟩ := mem_nmsL.1 hs
      exact mem_nmsL.2 ⟨x, hx, edges_names n x (by have := List.sizeOf_lt_of_mem hx; simp only [Ex.or.sizeOf_spec] at hn; omega) s h⟩
    | cst b => exact hs
    | bit s' => simp only [nmsE, nmE] at hs; simp [one1] at hs
    | rise s' => exact hs
    | fall s' => exact hs
theorem ev_names (is was is' was' : List UInt8 → Bool) : ∀ (n : Nat) (e : Ex), SizeOf.sizeOf e ≤ n → WfE e → (∀ s ∈ nmsE true e, is s = is' s) → (∀ s ∈ nmsE false e, was s = was' s) → evE is was e = evE is' was' e
  | 0, e, hn => by cases e <;> simp at hn
  | n + 1, e, hn => by
    intro hw h1 h2
    have many : ∀ l : List Ex, (∀ x ∈ l, SizeOf.sizeOf x ≤ n ∧ WfE x) → (∀ s ∈ nmsL true l, is s = is' s) → (∀ s ∈ nmsL false l, was s = was' s) → evA is was l = evA is' was' l ∧ evO is was l = evO is' was' l := by
      intro l
      induction l with
      | nil => intro _ _ _; exact ⟨rfl, rfl⟩
      | cons x l ih =>
        intro h a b
        have hx := ev_names is was is' was' n x (h x (by simp)).1 (h x (by simp)).2 (fun s hs => a s (by simp [nmsL, hs])) (fun s hs => b s (by simp [nmsL, hs]))
        obtain ⟨p, q⟩ := ih (fun y hy => h y (by simp [hy])) (fun s hs => a s (by simp [nmsL, hs])) (fun s hs => b s (by simp [nmsL, hs]))
        simp only [evA, evO, hx, p, q, and_self]
    have hne : ∀ s : List UInt8, nameF s = true → s ≠ [] := fun s h => (name_facts h).1
    cases e with
    | cst b => rfl
    | bit s => exact h1 s (by simp only [nmsE]; exact mem_one1.2 ⟨rfl, hne s hw⟩)
    | rise s =>
      have a := h1 s (by simp only [nmsE]; exact mem_one1.2 ⟨rfl, hne s hw⟩)
      have b := h2 s (by simp only [nmsE]; exact mem_one1.2 ⟨rfl, hne s hw⟩)
      simp only [evE, a, b]
    | fall s =>
      have a := h1 s (by simp only [nmsE]; exact mem_one1.2 ⟨rfl, hne s hw⟩)
      have b := h2 s (by simp only [nmsE]; exact mem_one1.2 ⟨rfl, hne s hw⟩)
      simp only [evE, a, b]
    | not x =>
      have := ev_names is was is' was' n x (by simp at hn; omega) hw h1 h2
      simp only [evE, this]
    | and l => exact (many l (fun x hx => ⟨by have := List.sizeOf_lt_of_mem hx; simp only [Ex.and.sizeOf_spec] at hn; omega, (WfEs_iff _).1 hw.2 x hx⟩) h1 h2).1
    | or l => exact (many l (fun x hx => ⟨by have := List.sizeOf_lt_of_mem hx; simp only [Ex.or.sizeOf_spec] at hn; omega, (WfEs_iff _).1 hw.2 x hx⟩) h1 h2).2
end Go.Proofs.YtagfbbnlbncjlaaDoor

/-
  Plain: unsigned words, and the least pairs in which one name alone decides.
-/
namespace Go.Proofs.YtagfbbnlbncjlaaDoor
set_option linter.unusedSimpArgs false
set_option linter.unusedVariables false
open Go.Av

/-! ### Unsigned words -/
theorem u_nat (x : Nat) (h : x < 2^64) : (BitVec.ofInt 64 (x : Int)).toNat = x := by
  rw [BitVec.toNat_ofInt]
  have : (2:Nat)^64 = 18446744073709551616 := by decide
  omega
theorem u_wrap (x : Nat) (h : x < 2^64) : IntKind.u64.wrap (x : Int) = (x : Int) := by
  rw [IntKind.wrap_u64]
  have : (2:Nat)^64 = 18446744073709551616 := by decide
  omega
theorem u_or (x y : Nat) (hx : x < 2^64) (hy : y < 2^64) : bitsI .or .u64 (x : Int) (y : Int) = ((x ||| y : Nat) : Int) := by
  unfold bitsI
  dsimp only
  have h3 : (BitVec.ofInt IntKind.u64.bits (x : Int) ||| BitVec.ofInt IntKind.u64.bits (y : Int)).toNat = x ||| y := by
    show (BitVec.ofInt 64 (x : Int) ||| BitVec.ofInt 64 (y : Int)).toNat = x ||| y
    rw [BitVec.toNat_or, u_nat x hx, u_nat y hy]
  rw [h3, u_wrap _ (Nat.or_lt_two_pow hx hy)]
theorem u_and (x y : Nat) (hx : x < 2^64) (hy : y < 2^64) : bitsI .and .u64 (x : Int) (y : Int) = ((x &&& y : Nat) : Int) := by
  unfold bitsI
  dsimp only
  have h3 : (BitVec.ofInt IntKind.u64.bits (x : Int) &&& BitVec.ofInt IntKind.u64.bits (y : Int)).toNat = x &&& y := by
    show (BitVec.ofInt 64 (x : Int) &&& BitVec.ofInt 64 (y : Int)).toNat = x &&& y
    rw [BitVec.toNat_and, u_nat x hx, u_nat y hy]
  rw [h3, u_wrap _ (Nat.lt_of_le_of_lt Nat.and_le_left hx)]
theorem u_and1 (x : Nat) (hx : x < 2^64) : bitsI .and .u64 (x : Int) 1 = ((x % 2 : Nat) : Int) := by
  have := u_and x 1 hx (by decide)
  rw [Nat.and_one_is_mod] at this
  exact this
/-- x without bit k. -/
def offB (x k : Nat) : Nat := x &&& (2^64 - 1 - 2^k)
theorem u_andnot (x k : Nat) (hx : x < 2^64) (hk : k < 64) : bitsI .andNot .u64 (x : Int) ((2^k : Nat) : Int) = ((offB x k : Nat) : Int) := by
  have hp : (2:Nat)^k < 2^64 := Nat.pow_lt_pow_right (by decide) hk
  unfold bitsI offB
  dsimp only
  have h3 : (BitVec.ofInt IntKind.u64.bits (x : Int) &&& ~~~BitVec.ofInt IntKind.u64.bits ((2^k : Nat) : Int)).toNat = x &&& (2^64 - 1 - 2^k) := by
    show (BitVec.ofInt 64 (x : Int) &&& ~~~BitVec.ofInt 64 ((2^k : Nat) : Int)).toNat = x &&& (2^64 - 1 - 2^k)
    rw [BitVec.toNat_and, BitVec.toNat_not, u_nat x hx, u_nat _ hp]
  rw [h3, u_wrap _ (Nat.lt_of_le_of_lt Nat.and_le_left hx)]
theorem u_shr (x k : Nat) (hk : k < 64) : (x : Int).fdiv (2 ^ (min k IntKind.u64.bits)) = ((x / 2^k : Nat) : Int) := by
  have e : min k IntKind.u64.bits = k := by
    have : IntKind.u64.bits = 64 := rfl
    rw [this]; omega
  rw [e, Int.fdiv_eq_ediv_of_nonneg _ (by exact Int.le_of_lt (Int.pow_pos (by decide)))]
  simp
theorem u_shl (k : Nat) (hk : k < 64) : IntKind.u64.wrap (1 * 2 ^ (min k IntKind.u64.bits)) = ((2^k : Nat) : Int) := by
  have e : min k IntKind.u64.bits = k := by
    have : IntKind.u64.bits = 64 := rfl
    rw [this]; omega
  have := u_wrap (2^k) (Nat.pow_lt_pow_right (by decide) hk)
  rw [e, Int.one_mul]
  rw [← this]
  simp
theorem u_bit (x k : Nat) : (((x / 2^k % 2 : Nat) : Int) == 1) = x.testBit k := by
  have h2 : x.testBit k = (x / 2^k).testBit 0 := by rw [Nat.testBit_div_two_pow]; simp
  rw [h2, Nat.testBit_zero]
  have : x / 2^k % 2 = 0 ∨ x / 2^k % 2 = 1 := by omega
  rcases this with h | h <;> rw [h] <;> decide
theorem offB_bit (x k j : Nat) (hk : k < 64) (hj : j < 64) : (offB x k).testBit j = (x.testBit j && !decide (j = k)) := by
  have hp : (2:Nat)^k < 2^64 := Nat.pow_lt_pow_right (by decide) hk
  unfold offB
  rw [Nat.testBit_and]
  have h := BitVec.getLsbD_not (x := BitVec.ofNat 64 (2^k)) (i := j)
  have h1 : (~~~BitVec.ofNat 64 (2^k)).toNat = 2^64 - 1 - 2^k := by rw [BitVec.toNat_not, BitVec.toNat_ofNat, Nat.mod_eq_of_lt hp]
  have h2 : (BitVec.ofNat 64 (2^k)).toNat = 2^k := by rw [BitVec.toNat_ofNat, Nat.mod_eq_of_lt hp]
  rw [← BitVec.testBit_toNat, ← BitVec.testBit_toNat, h1, h2] at h
  rw [h, Nat.testBit_two_pow]
  simp [hj]
  congr 2
  exact decide_eq_decide.2 ⟨fun h => h.symm, fun h => h.symm⟩
theorem orB_bit (x k j : Nat) : (x ||| 2^k).testBit j = (x.testBit j || decide (j = k)) := by
  rw [Nat.testBit_or, Nat.testBit_two_pow]
  congr 1
  exact decide_eq_decide.2 ⟨fun h => h.symm, fun h => h.symm⟩

/-! ### Where a name stands -/
def ixT (l : List Tx) (s : Tx) : Nat := l.findIdx (· == s)
theorem ixT_lt {l : List Tx} {s : Tx} (h : s ∈ l) : ixT l s < l.length := List.findIdx_lt_length_of_exists ⟨s, h, by simp⟩
theorem ixT_get {l : List Tx} {s : Tx} (h : s ∈ l) : l[ixT l s]'(ixT_lt h) = s := by
  have := List.findIdx_getElem (w := ixT_lt h) (p := (· == s))
  exact eq_of_beq this
/-- Which names are, as bits. -/
def isB (l : List Tx) (x : Nat) (s : Tx) : Bool := x.testBit (ixT l s)
def saysB (l : List Tx) (e : Ex) (x : Nat) : Bool := evE (isB l x) (isB l x) e

/-! ### Pairs -/
def offAt (f : Nat → Bool) (n k : Nat) : Option Nat := (List.range (2^n)).find? fun x => !x.testBit k && (f x != f (x ||| 2^k))
theorem offAt_some {f : Nat → Bool} {n k x : Nat} (h : offAt f n k = some x) : x < 2^n ∧ x.testBit k = false ∧ f x ≠ f (x ||| 2^k) := by
  have h1 := List.mem_of_find?_eq_some h
  have h2 := List.find?_some h
  simp at h1 h2
  exact ⟨h1, h2.1, h2.2⟩
theorem offAt_none {f : Nat → Bool} {n k : Nat} (h : offAt f n k = none) (x : Nat) (hx : x < 2^n) (hb : x.testBit k = false) : f x = f (x ||| 2^k) := by
  have h1 := List.find?_eq_none.1 h x (by simpa using hx)
  simpa [hb] using h1
def pairsF (l : List Tx) (f : Nat → Bool) : List (Tx × Nat) := (List.range l.length).filterMap fun k => (offAt f l.length k).map fun x => (l.getD k [], x)
theorem names_self {e : Ex} {s : Tx} {all : Bool} (h : s ∈ nmsE all e) : s ∈ nmsE true e := by
  cases all with
  | true => exact h
  | false => exact edges_names _ e (Nat.le_refl _) s h
/-- What is said hangs on the names' bits alone. -/
theorem saysB_congr {l : List Tx} {e : Ex} (hw : WfE e) (hn : ∀ s ∈ nmsE true e, s ∈ l) {x y : Nat} (h : ∀ j, j < l.length → x.testBit j = y.testBit j) : saysB l e x = saysB l e y := by
  unfold saysB
  refine ev_names _ _ _ _ _ e (Nat.le_refl _) hw (fun s hs => ?_) (fun s hs => ?_)
  · exact h _ (ixT_lt (hn s hs))
  · exact h _ (ixT_lt (hn s (names_self hs)))
/-- A name without a pair never makes a difference. -/
theorem shows_none {l : List Tx} {e : Ex} (hw : WfE e) (hn : ∀ s ∈ nmsE true e, s ∈ l) (hl : l.length ≤ 8) {k : Nat} (hk : k < l.length) (h : offAt (saysB l e) l.length k = none) (v : Nat) : saysB l e (offB v k) = saysB l e (v ||| 2^k) := by
  have h0 := offAt_none h (offB v k % 2^l.length) (Nat.mod_lt _ (Nat.two_pow_pos _)) (by rw [Nat.testBit_mod_two_pow, offB_bit _ _ _ (by omega) (by omega)]; simp)
  rw [saysB_congr hw hn (x := offB v k) (y := offB v k % 2^l.length) fun j hj => by rw [Nat.testBit_mod_two_pow]; simp [hj], h0]
  refine saysB_congr hw hn fun j hj => ?_
  rw [orB_bit, orB_bit, Nat.testBit_mod_two_pow, offB_bit _ _ _ (by omega) (by omega)]
  by_cases hjk : j = k
  · simp [hjk]
  · simp [hjk, hj]
theorem pairsF_mem {l : List Tx} {f : Nat → Bool} {s : Tx} {x : Nat} (h : (s, x) ∈ pairsF l f) : ∃ k, ∃ hk : k < l.length, l[k] = s ∧ offAt f l.length k = some x := by
  unfold pairsF at h
  obtain ⟨k, hk, hx⟩ := List.mem_filterMap.1 h
  obtain ⟨y, hy, he⟩ := Option.map_eq_some_iff.1 hx
  have hk' : k < l.length := by simpa using hk
  simp only [Prod.mk.injEq] at he
  obtain ⟨h1, h2⟩ := he
  subst h2
  refine ⟨k, hk', ?_, hy⟩
  rw [← h1]
  simp [hk']
end Go.Proofs.YtagfbbnlbncjlaaDoor

/-
  Plain: what is asked of names, where these are those that an expression names.
-/
namespace Go.Proofs.YtagfbbnlbncjlaaDoor
set_option linter.unusedSimpArgs false
set_option linter.unusedVariables false
open Go.Av

theorem nameF_nn {s : Tx} (h : nameF s = true) : s ≠ [] := (name_facts h).1
theorem ask_names {S1 S2 : Tx → Prop} : ∀ (n : Nat) (e : Ex), SizeOf.sizeOf e ≤ n → WfE e → (∀ s ∈ nmsE true e, S1 s) → (∀ s ∈ nmsE false e, S2 s) → AskE S1 S2 e
  | 0, e, hn, _, _, _ => by cases e <;> simp at hn
  | n + 1, e, hn, hw, h1, h2 => by
    have many : ∀ l : List Ex, (∀ x ∈ l, SizeOf.sizeOf x ≤ n) → (∀ s ∈ nmsL true l, S1 s) → (∀ s ∈ nmsL false l, S2 s) → (∀ x ∈ l, WfE x) → AskL S1 S2 l := by
      intro l
      induction l with
      | nil => intro _ _ _ _; rw [AskL]; trivial
      | cons x l ih =>
        intro hs h1 h2 h3
        simp only [nmsL, List.mem_append] at h1 h2
        rw [AskL]
        exact ⟨ask_names n x (hs x (by simp)) (h3 x (by simp)) (fun s h => h1 s (.inl h)) (fun s h => h2 s (.inl h)), ih (fun y hy => hs y (by simp [hy])) (fun s h => h1 s (.inr h)) (fun s h => h2 s (.inr h)) (fun y hy => h3 y (by simp [hy]))⟩
    cases e with
    | cst b => rw [AskE]; trivial
    | bit s =>
      rw [AskE]
      rw [WfE] at hw
      exact h1 s (by simp [nmsE, nmE, one1, nameF_nn hw])
    | rise s =>
      rw [AskE]
      rw [WfE] at hw
      exact ⟨h1 s (by simp [nmsE, nmE, one1, nameF_nn hw]), h2 s (by simp [nmsE, nmE, one1, nameF_nn hw])⟩
    | fall s =>
      rw [AskE]
      rw [WfE] at hw
      exact ⟨h1 s (by simp [nmsE, nmE, one1, nameF_nn hw]), h2 s (by simp [nmsE, nmE, one1, nameF_nn hw])⟩
    | not x =>
      rw [AskE]
      rw [WfE] at hw
      exact ask_names n x (by simp at hn; omega) hw (fun s h => h1 s (by rw [nmsE]; exact h)) (fun s h => h2 s (by rw [nmsE]; exact h))
    | and l =>
      rw [AskE]
      rw [WfE] at hw
      exact many l (fun x hx => by have := List.sizeOf_lt_of_mem hx; simp only [Ex.and.sizeOf_spec] at hn; omega) (fun s h => h1 s (by rw [nmsE]; exact h)) (fun s h => h2 s (by rw [nmsE]; exact h)) ((WfEs_iff l).1 hw.2)
    | or l =>
      rw [AskE]
      rw [WfE] at hw
      exact many l (fun x hx => by have := List.sizeOf_lt_of_mem hx; simp only [Ex.or.sizeOf_spec] at hn; omega) (fun s h => h1 s (by rw [nmsE]; exact h)) (fun s h => h2 s (by rw [nmsE]; exact h)) ((WfEs_iff l).1 hw.2)
theorem ask_in {S1 S2 : Tx → Prop} {e : Ex} (hw : WfE e) (h1 : ∀ s ∈ nmsE true e, S1 s) (h2 : ∀ s ∈ nmsE false e, S2 s) : AskE S1 S2 e := ask_names _ e (Nat.le_refl _) hw h1 h2
end Go.Proofs.YtagfbbnlbncjlaaDoor

/-
  cover.Pairs.
-/
namespace Go.Proofs.YtagfbbnlbncjlaaDoor
set_option linter.unusedSimpArgs false
set_option linter.unusedVariables false
open Go.Av

def dU (x : Nat) : D := .v (.int .u64 (x : Int))
theorem idx_ixT {l : List Tx} {s : Tx} (h : s ∈ l) : idx (fun x => s == x) l = (ixT l s : Int) := by
  refine idx_hit (ixT_lt h) (by simp [ixT_get h]) fun i hi => ?_
  have := List.not_of_lt_findIdx (p := (· == s)) hi
  rw [Bool.beq_comm]
  simpa using this
theorem wrap_bit (x k : Nat) (hx : x < 2^64) : bitsI .and .u64 ((x : Int) / 2^k) 1 = ((x / 2^k % 2 : Nat) : Int) := by
  have h := u_and1 (x / 2^k) (Nat.lt_of_le_of_lt (Nat.div_le_self _ _) hx)
  have e : ((x / 2^k : Nat) : Int) = (x : Int) / 2^k := by rw [Int.natCast_ediv, Int.natCast_pow]; rfl
  rw [← e]; exact h
theorem and_is1 (x k : Nat) (hx : x < 2^64) : decide (bitsI .and .u64 ((x : Int) / 2^k) 1 = 1) = x.testBit k := by
  rw [wrap_bit x k hx, ← u_bit x k]
  by_cases h : ((x / 2^k % 2 : Nat) : Int) = 1 <;> simp [h]
theorem and_is0 (x k : Nat) (hx : x < 2^64) : decide (bitsI .and .u64 ((x : Int) / 2^k) 1 = 0) = !x.testBit k := by
  rw [wrap_bit x k hx, ← u_bit x k]
  have : x / 2^k % 2 = 0 ∨ x / 2^k % 2 = 1 := by omega
  rcases this with h | h <;> rw [h] <;> rfl
theorem shl_is (k : Nat) (hk : k < 64) : IntKind.u64.wrap (2 ^ min k IntKind.u64.bits) = 2^k := by
  have h := u_shl k hk
  rw [Int.one_mul] at h
  rw [h]; simp
theorem shr_is (x k : Nat) (hk : k < 64) : (x : Int).fdiv (2 ^ min k IntKind.u64.bits) = (x : Int) / 2^k := by rw [u_shr x k hk]; simp
theorem or_is (x k : Nat) (hx : x < 2^64) (hk : k < 64) : bitsI .or .u64 (x : Int) (2^k) = ((x ||| 2^k : Nat) : Int) := by
  have h := u_or x (2^k) hx (Nat.pow_lt_pow_right (by decide) hk)
  simpa using h

set_option maxHeartbeats 4000000 in
theorem isb_spec (G : Glob) (k0 : Option Bool) (ns : List Tx) (hn : ns.length ≤ 60) (x : Nat) (hx : x < 2^64) (s : Tx) (hs : s ∈ ns) : PureC Tryd.prog G 17 [dS s, .ip [dU x], .ip [.sl k0 (ns.map fun s => [dS s])]] (.v (.bool (isB ns x s))) := by
  have hi := index_spec G k0 ns s (by omega)
  rw [idx_ixT hs] at hi
  have hlt := ixT_lt hs
  unfold isB
  generalize ixT ns s = j at hi hlt ⊢
  have hsh := shr_is x j (by omega)
  have hb := and_is1 x j hx
  refine PureC.of_body (tyOf_good _) Tryd.func17 rfl rfl (rs := [.tmp 4]) Tryd.results17 (by simp [Tryd.ntmps17]) fun X => ?_
  simp only [Tryd.ntmps17, List.map]
  refine AW_rg (tyOf_good _) [0, 1, 2] [] (fun _ _ => trivial) fun K' hK' => ?_
  repeat (refine sxf_next fun K2 hK2 => ?_; simp [dU, dS]; (repeat (refine ⟨by omega, ?_⟩)); refine hK2 _ ?_; clear hK2 K2)
  refine sxf_nil (hK' _ ?_)
  refine AW.st (by simp [dU, dS]; rfl) ?_
  clear hK' K'
  refine AW_rd (tyOf_good _) (by kernel_rfl) [4] [] (fun _ _ => trivial) (by kernel_rfl) fun K' hK' => ?_
  repeat (refine sxd_next fun K2 hK2 => ?_; simp [dU, dS, shI, hsh, hb]; (repeat (refine ⟨by omega, ?_⟩)); refine hK2 _ ?_; clear hK2 K2)
  refine sxd_next fun K2 hK2 => ?_
  simp [dU, dS, shI, hsh, hb]
  refine callQ.data (hi) (by simp; rfl) (by simp; rfl) (by first | exact D.leGo_refl _ | simp [takeMap, List.map_map, Function.comp_def, D.le, D.le.go, D.le_refl, D.leGo_refl, dU, dS, shI, hsh, hb]) ?_
  refine hK2 _ ?_
  clear hK2 K2
  simp only [putd, upd_lst]
  repeat (refine sxd_next fun K2 hK2 => ?_; simp [dU, dS, shI, hsh, hb]; (repeat (refine ⟨by omega, ?_⟩)); refine hK2 _ ?_; clear hK2 K2)
  refine sxd_nil (hK' _ ?_)
  refine AW.st (by simp [dU, dS, shI, hsh, hb]; rfl) ?_
  clear hK' K'
  refine AW_ret ?_
  simp [D.le, D.le.go, takeMap, dU, dS]
def dIsb (ns : List Tx) (x : Nat) : List D := [.ip [dU x], .ip [.sl none (ns.map fun s => [dS s])]]
set_option maxHeartbeats 4000000 in
theorem says1_spec (G : Glob) (ns : List Tx) (hn : ns.length ≤ 60) (e : Ex) (hw : WfE e) (hb : bE e ≤ 2^28) (hN : ∀ s ∈ nmsE true e, s ∈ ns) (x : Nat) (hx : x < 2^64) : PureC Tryd.prog G 16 [dU x, .ip [.sl none (ns.map fun s => [dS s])], .ip [dE e]] (.v (.bool (saysB ns e x))) := by
  have ht : TellsOn (fun s => s ∈ ns) G 17 (dIsb ns x) (isB ns x) := fun s hs => isb_spec G none ns hn x hx s hs
  have hev := eval_on G _ _ _ _ _ _ _ _ ht ht e (ask_in hw hN fun s hs => hN s (names_self hs)) hb
  have hr : evE (isB ns x) (isB ns x) e = saysB ns e x := rfl
  rw [hr] at hev
  generalize saysB ns e x = r at hev ⊢
  obtain ⟨t, c, hec⟩ := dE_ifc e
  rw [hec] at hev ⊢
  simp only [dIsb] at hev
  refine PureC.of_body (tyOf_good _) Tryd.func16 rfl rfl (rs := [.tmp 4]) Tryd.results16 (by simp [Tryd.ntmps16]) fun X => ?_
  simp only [Tryd.ntmps16, List.map]
  refine AW_rg (tyOf_good _) [1, 2, 3] [3] (fun _ _ => trivial) fun K' hK' => ?_
  repeat (refine sxf_next fun K2 hK2 => ?_; simp [dU, dS]; (repeat (refine ⟨by omega, ?_⟩)); refine hK2 _ ?_; clear hK2 K2)
  refine sxf_nil (hK' _ ?_)
  refine AW.st (by simp [dU, dS]; rfl) ?_
  clear hK' K'
  refine AW.imp (Imp.freezeB 3 trivial) ?_
  refine AW.st (by simp [dU, dS]; rfl) ?_
  refine AW_rg (tyOf_good _) [2, 5] [] (fun _ _ => trivial) fun K' hK' => ?_
  repeat (refine sxf_next fun K2 hK2 => ?_; simp [dU, dS]; (repeat (refine ⟨by omega, ?_⟩)); refine hK2 _ ?_; clear hK2 K2)
  refine sxf_nil (hK' _ ?_)
  refine AW.st (by simp [dU, dS]; rfl) ?_
  clear hK' K'
  refine AW_rg (tyOf_good _) [4] [] (fun _ _ => trivial) fun K' hK' => ?_
  repeat (refine sxf_next fun K2 hK2 => ?_; simp [dU, dS]; (repeat (refine ⟨by omega, ?_⟩)); refine hK2 _ ?_; clear hK2 K2)
  refine sxf_next fun K2 hK2 => ?_
  simp [dU, dS]
  refine callK.data (hev) (by simp; rfl) (by first | exact D.leGo_refl _ | simp [takeMap, List.map_map, Function.comp_def, D.le, D.le.go, D.le_refl, D.leGo_refl, dU, dS]) ?_
  refine hK2 _ ?_
  clear hK2 K2
  simp only [putd, upd_lst]
  repeat (refine sxf_next fun K2 hK2 => ?_; simp [dU, dS]; (repeat (refine ⟨by omega, ?_⟩)); refine hK2 _ ?_; clear hK2 K2)
  refine sxf_nil (hK' _ ?_)
  refine AW.st (by simp [dU, dS]; rfl) ?_
  clear hK' K'
  refine AW_ret ?_
  simp [D.le, D.le.go, takeMap, dU, dS]
def dPair (ns : List Tx) (p : Tx × Nat) : List D := [dS p.1, dU p.2, dU (p.2 ||| 2^(ixT ns p.1))]
def dPairs (ns : List Tx) (l : List (Tx × Nat)) : D := .sl none (l.map (dPair ns))
/-- The pairs of the first k names. -/
def pairsTo (l : List Tx) (f : Nat → Bool) (m : Nat) : List (Tx × Nat) := (List.range m).filterMap fun k => (offAt f l.length k).map fun x => (l.getD k [], x)
theorem pairsTo_succ (l : List Tx) (f : Nat → Bool) (m : Nat) : pairsTo l f (m + 1) = pairsTo l f m ++ (match offAt f l.length m with | some x => [(l.getD m [], x)] | none => []) := by
  unfold pairsTo
  rw [List.range_succ, List.filterMap_append]
  congr 1
  cases h : offAt f l.length m <;> simp [h]
theorem pairsTo_all (l : List Tx) (f : Nat → Bool) : pairsTo l f l.length = pairsF l f := rfl
theorem pairsTo_len (l : List Tx) (f : Nat → Bool) (m : Nat) : (pairsTo l f m).length ≤ m := by
  unfold pairsTo
  refine Nat.le_trans (List.length_filterMap_le _ _) (by simp)
/-- What is looked at stands not below x. -/
theorem offAt_hit {f : Nat → Bool} {n k x : Nat} (hx : x < 2^n) (hb : x.testBit k = false) (hf : f x ≠ f (x ||| 2^k)) (hlt : ∀ y, y < x → y.testBit k = false → f y = f (y ||| 2^k)) : offAt f n k = some x := by
  unfold offAt
  rw [List.find?_eq_some_iff_getElem]
  refine ⟨by simp [hb, hf], x, by simpa using hx, by simp, fun j hj => ?_⟩
  by_cases h : j.testBit k
  · simp [h]
  · simp [hlt j hj (by simpa using h)]
theorem offAt_miss {f : Nat → Bool} {n k : Nat} (hlt : ∀ y, y < 2^n → y.testBit k = false → f y = f (y ||| 2^k)) : offAt f n k = none := by
  unfold offAt
  rw [List.find?_eq_none]
  intro y hy
  by_cases h : y.testBit k
  · simp [h]
  · simp [hlt y (by simpa using hy) (by simpa using h)]

set_option maxHeartbeats 16000000 in
theorem pairs_spec (G : Glob) (e : Ex) (hw : WfE e) (hb : bE e ≤ 2^28) (hE : namesE false e = []) (hN8 : (namesE true e).length ≤ 8) : PureC Tryd.prog G 6 [dE e] (.tup [dPairs (namesE true e) (pairsF (namesE true e) (saysB (namesE true e) e)), .v .nilIface]) := by
  have hns := namesE_spec G e hb
  have hes := edgesE_spec G e hb
  rw [hE] at hes
  have hN : ∀ s ∈ nmsE true e, s ∈ namesE true e := fun s hs => namesE_mem.2 hs
  have hsr := namesE_srt true e
  generalize namesE true e = ns at hns hN8 hN hsr ⊢
  have hsay := fun x hx => says1_spec G ns (by omega) e hw hb hN x hx
  generalize saysB ns e = f at hsay ⊢
  rw [← pairsTo_all]
  have hixt : ∀ k (hk : k < ns.length), ixT ns ns[k] = k := fun k hk => by
    have h1 := ixT_get (List.getElem_mem hk)
    have hlt := ixT_lt (List.getElem_mem hk)
    rcases Nat.lt_trichotomy (ixT ns ns[k]) k with h | h | h
    · exact absurd (h1 ▸ List.pairwise_iff_getElem.1 hsr _ _ hlt hk h) (tx_irr _)
    · exact h
    · exact absurd (h1 ▸ List.pairwise_iff_getElem.1 hsr _ _ hk hlt h) (tx_irr _)
  obtain ⟨t, c, hec⟩ := dE_ifc e
  rw [hec] at hns hes hsay ⊢
  have h2 : (2 : Nat)^ns.length ≤ 2^8 := Nat.pow_le_pow_right (by decide) hN8
  have hshl := shl_is ns.length (by omega)
  obtain ⟨M, hM⟩ : ∃ M : Nat, 2^ns.length = M := ⟨_, rfl⟩
  have hMi : (2 : Int)^ns.length = (M : Int) := by rw [← hM, Int.natCast_pow]; rfl
  rw [hMi] at hshl
  rw [hM] at h2
  refine PureC.of_body (tyOf_good _) Tryd.func6 rfl rfl (rs := [.tmp 2, .tmp 3]) Tryd.results6 (by simp [Tryd.ntmps6]) fun X => ?_
  simp only [Tryd.ntmps6, List.map]
  refine AW_rg (tyOf_good _) [1] [1] (fun _ _ => trivial) fun K' hK' => ?_
  repeat (refine sxf_next fun K2 hK2 => ?_; simp [dU, dS]; (repeat (refine ⟨by omega, ?_⟩)); refine hK2 _ ?_; clear hK2 K2)
  refine sxf_nil (hK' _ ?_)
  refine AW.st (by simp [dU, dS]; rfl) ?_
  clear hK' K'
  refine AW_then fun K1 hK1 => ?_
  refine AW_rg (tyOf_good _) [1, 11] [1] (fun _ _ => trivial) fun K' hK' => ?_
  repeat (refine sxf_next fun K2 hK2 => ?_; simp [dU, dS]; (repeat (refine ⟨by omega, ?_⟩)); refine hK2 _ ?_; clear hK2 K2)
  refine sxf_nil (hK' _ ?_)
  refine AW.st (by simp [dU, dS]; rfl) ?_
  clear hK' K'
  refine AW_cond false rfl (fun h => by cases h) (fun _ => ?_)
  refine AW_skip (hK1 _ ?_)
  refine AW_then fun K2 hK2 => ?_
  refine AW_rg (tyOf_good _) [1, 16] [1] (fun _ _ => trivial) fun K' hK' => ?_
  repeat (refine sxf_next fun K2 hK2 => ?_; simp [dU, dS]; (repeat (refine ⟨by omega, ?_⟩)); refine hK2 _ ?_; clear hK2 K2)
  refine sxf_next fun K2 hK2 => ?_
  simp [dU, dS]
  refine callK.data (hes) (by simp; rfl) (by first | exact D.leGo_refl _ | simp [takeMap, List.map_map, Function.comp_def, D.le, D.le.go, D.le_refl, D.leGo_refl, dU, dS]) ?_
  refine hK2 _ ?_
  clear hK2 K2
  simp only [putd, upd_lst]
  repeat (refine sxf_next fun K2 hK2 => ?_; simp [dU, dS]; (repeat (refine ⟨by omega, ?_⟩)); refine hK2 _ ?_; clear hK2 K2)
  refine sxf_nil (hK' _ ?_)
  refine AW.st (by simp [dU, dS]; rfl) ?_
  clear hK' K'
  refine AW_cond false rfl (fun h => by cases h) (fun _ => ?_)
  refine AW_skip (hK2 _ ?_)
  refine AW_rg (tyOf_good _) [1, 4] [1, 4] (fun _ _ => trivial) fun K' hK' => ?_
  repeat (refine sxf_next fun K2 hK2 => ?_; simp [dU, dS]; (repeat (refine ⟨by omega, ?_⟩)); refine hK2 _ ?_; clear hK2 K2)
  refine sxf_next fun K2 hK2 => ?_
  simp [dU, dS]
  refine callK.data (hns) (by simp; rfl) (by first | exact D.leGo_refl _ | simp [takeMap, List.map_map, Function.comp_def, D.le, D.le.go, D.le_refl, D.leGo_refl, dU, dS]) ?_
  refine hK2 _ ?_
  clear hK2 K2
  simp only [putd, upd_lst]
  repeat (refine sxf_next fun K2 hK2 => ?_; simp [dU, dS]; (repeat (refine ⟨by omega, ?_⟩)); refine hK2 _ ?_; clear hK2 K2)
  refine sxf_nil (hK' _ ?_)
  refine AW.st (by simp [dU, dS]; rfl) ?_
  clear hK' K'
  refine AW.imp (Imp.freezeB 1 trivial) ?_
  refine AW.st (by simp [dU, dS]; rfl) ?_
  refine AW.imp (Imp.freezeB 4 trivial) ?_
  refine AW.st (by simp [dU, dS]; rfl) ?_
  refine AW_then fun K3 hK3 => ?_
  have h8 : ¬ (8 : Int) < (ns.length : Int) := by omega
  refine AW_rg (tyOf_good _) [1, 4, 22] [] (fun _ _ => trivial) fun K' hK' => ?_
  repeat (refine sxf_next fun K2 hK2 => ?_; simp [dU, dS, h8]; (repeat (refine ⟨by omega, ?_⟩)); refine hK2 _ ?_; clear hK2 K2)
  refine sxf_nil (hK' _ ?_)
  refine AW.st (by simp [dU, dS, h8]; rfl) ?_
  clear hK' K'
  refine AW_cond false rfl (fun h => by cases h) (fun _ => ?_)
  refine AW_skip (hK3 _ ?_)
  refine AW_rg (tyOf_good _) [4, 5] [] (fun _ _ => trivial) fun K' hK' => ?_
  repeat (refine sxf_next fun K2 hK2 => ?_; simp [dU, dS]; (repeat (refine ⟨by omega, ?_⟩)); refine hK2 _ ?_; clear hK2 K2)
  refine sxf_nil (hK' _ ?_)
  refine AW.st (by simp [dU, dS]; rfl) ?_
  clear hK' K'
  refine AW_rg (tyOf_good _) [4, 5, 6] [] (fun _ _ => trivial) fun K' hK' => ?_
  repeat (refine sxf_next fun K2 hK2 => ?_; simp [dU, dS]; (repeat (refine ⟨by omega, ?_⟩)); refine hK2 _ ?_; clear hK2 K2)
  refine sxf_nil (hK' _ ?_)
  refine AW.st (by simp [dU, dS]; rfl) ?_
  clear hK' K'
  refine AW_then fun K4 hK4 => ?_
  refine AW_rg (tyOf_good _) [4, 5, 6, 25, 26, 27] [] (fun _ _ => trivial) fun K' hK' => ?_
  repeat (refine sxf_next fun K2 hK2 => ?_; simp [dU, dS]; (repeat (refine ⟨by omega, ?_⟩)); refine hK2 _ ?_; clear hK2 K2)
  refine sxf_nil (hK' _ ?_)
  refine AW.st (by simp [dU, dS]; rfl) ?_
  clear hK' K'
  refine AW_for (S := Nat) (fun m => m ≤ ns.length) (fun m => ⟨lst [(4, .d (.ip [.sl none (ns.map fun s => [dS s])])), (5, .d (.fn (.func 16) [.ip [.sl none (ns.map fun s => [dS s])], .ip [.ifc t c]])), (6, .own 300 0 (pairsTo ns f m).length), (25, .d (.sl none (ns.map fun s => [dS s]))), (26, int ns.length), (27, int m)], hlst [(300, .sl 41 3 ((pairsTo ns f m).map (dPair ns)))]⟩) (fun m => ns.length - m) 0 ?_ (by omega) ?_
  · refine (Imp.adopt 6 300 41 3 rfl rfl).trans ?_
    refine Imp.to' (fun _ _ => trivial) (by simp [dU, dS, pairsTo]) (by simp [dU, dS, pairsTo])
  · intro m hm
    refine AW_rg (tyOf_good _) [4, 5, 6, 25, 26, 27, 28] [300] (fun _ _ => trivial) fun K' hK' => ?_
    repeat (refine sxf_next fun K2 hK2 => ?_; simp [dU, dS]; (repeat (refine ⟨by omega, ?_⟩)); refine hK2 _ ?_; clear hK2 K2)
    refine sxf_nil (hK' _ ?_)
    refine AW.st (by simp [dU, dS]; rfl) ?_
    clear hK' K'
    refine AW_then fun K5 hK5 => ?_
    refine AW_cond' (b := m < ns.length) (by simp [D.le, D.le.go, takeMap, dU, dS]) (fun hc => ?_) (fun hc => ?_)
    · have hml : m < ns.length := hc
      have hpl := pairsTo_len ns f m
      have hsuc := pairsTo_succ ns f m
      have hix := hixt m hml
      have hshm := shl_is m (by omega)
      refine AW_skip (hK5 _ ?_)
      refine AW_then fun K6 hK6 => ?_
      refine AW_block ?_
      refine AW_rg (tyOf_good _) [4, 5, 6, 7, 8, 25, 26, 27] [300] (fun _ _ => trivial) fun K' hK' => ?_
      repeat (refine sxf_next fun K2 hK2 => ?_; simp [dU, dS, hml]; (repeat (refine ⟨by omega, ?_⟩)); refine hK2 _ ?_; clear hK2 K2)
      refine sxf_nil (hK' _ ?_)
      refine AW.st (by simp [dU, dS, hml]; rfl) ?_
      clear hK' K'
      refine AW_rg (tyOf_good _) [4, 5, 6, 7, 8, 25, 26, 27, 34, 35] [300] (fun _ _ => trivial) fun K' hK' => ?_
      repeat (refine sxf_next fun K2 hK2 => ?_; simp [dU, dS, shI, hshl]; (repeat (refine ⟨by omega, ?_⟩)); refine hK2 _ ?_; clear hK2 K2)
      refine sxf_nil (hK' _ ?_)
      refine AW.st (by simp [dU, dS, shI, hshl]; rfl) ?_
      clear hK' K'
      refine AW_for (S := Nat) (fun x => x ≤ M ∧ ∀ y, y < x → y.testBit m = false → f y = f (y ||| 2^m)) (fun x => ⟨lst [(4, .d (.ip [.sl none (ns.map fun s => [dS s])])), (5, .d (.fn (.func 16) [.ip [.sl none (ns.map fun s => [dS s])], .ip [.ifc t c]])), (6, .own 300 0 (pairsTo ns f m).length), (7, int m), (8, .d (dS ns[m])), (25, .d (.sl none (ns.map fun s => [dS s]))), (26, int ns.length), (27, int m), (34, .d (dU M)), (35, .d (dU x))], hlst [(300, .sl 41 3 ((pairsTo ns f m).map (dPair ns)))]⟩) (fun x => M - x) 0 ?_ ⟨Nat.zero_le _, fun y hy => by omega⟩ ?_
      · refine Imp.to' (fun _ _ => trivial) (by simp [dU, dS]) (by simp [dU, dS])
      · rintro x ⟨hx, hall⟩
        refine AW_rg (tyOf_good _) [4, 5, 6, 7, 8, 25, 26, 27, 34, 35, 36] [300] (fun _ _ => trivial) fun K' hK' => ?_
        repeat (refine sxf_next fun K2 hK2 => ?_; simp [dU, dS]; (repeat (refine ⟨by omega, ?_⟩)); refine hK2 _ ?_; clear hK2 K2)
        refine sxf_nil (hK' _ ?_)
        refine AW.st (by simp [dU, dS]; rfl) ?_
        clear hK' K'
        refine AW_then fun K7 hK7 => ?_
        refine AW_cond' (b := x < M) (by simp [D.le, D.le.go, takeMap, dU, dS]) (fun hc => ?_) (fun hc => ?_)
        · have hxl : x < M := hc
          have hshr := shr_is x m (by omega)
          have hb0 := and_is0 x m (by omega)
          have horlt : x ||| 2^m < 2^8 := Nat.or_lt_two_pow (by omega) (Nat.pow_lt_pow_right (by decide) (by omega))
          have hor := or_is x m (by omega) (by omega)
          have hc1 := hsay x (by omega)
          have hc2 := hsay (x ||| 2^m) (by omega)
          refine AW_skip (hK7 _ ?_)
          refine AW_then fun K8 hK8 => ?_
          refine AW_block ?_
          refine AW_rg (tyOf_good _) [4, 5, 6, 7, 8, 9, 25, 26, 27, 34, 35] [300] (fun _ _ => trivial) fun K' hK' => ?_
          repeat (refine sxf_next fun K2 hK2 => ?_; simp [dU, dS]; (repeat (refine ⟨by omega, ?_⟩)); refine hK2 _ ?_; clear hK2 K2)
          refine sxf_nil (hK' _ ?_)
          refine AW.st (by simp [dU, dS]; rfl) ?_
          clear hK' K'
          have next : (x.testBit m = false → f x = f (x ||| 2^m)) → ∀ y, y < x + 1 → y.testBit m = false → f y = f (y ||| 2^m) := fun h y hy hyb => by
            by_cases hyx : y = x
            · subst hyx; exact h hyb
            · exact hall y (by omega) hyb
          have hx1 : IntKind.u64.wrap ((x : Int) + 1) = ((x + 1 : Nat) : Int) := by have := u_wrap (x + 1) (by omega); simpa using this
          cases hbt : x.testBit m with
          | true =>
            rw [hbt] at hb0
            have hnx := next (fun h => by rw [hbt] at h; cases h)
            refine AW_rd (tyOf_good _) (by kernel_rfl) [4, 5, 6, 7, 8, 9, 25, 26, 27, 34, 35, 54] [300] (fun _ _ => trivial) (by kernel_rfl) fun K' hK' => ?_
            repeat (refine sxd_next fun K2 hK2 => ?_; simp [dU, dS, shI, hshr, hb0]; (repeat (refine ⟨by omega, ?_⟩)); refine hK2 _ ?_; clear hK2 K2)
            refine sxd_nil (hK' _ ?_)
            refine AW.st (by simp [dU, dS, shI, hshr, hb0]; rfl) ?_
            clear hK' K'
            refine AW_cond false rfl (fun h => by cases h) (fun _ => ?_)
            refine AW_skip (hK8 _ ?_)
            refine AW_re (tyOf_good _) fun K' hK' => ?_
            repeat (refine sxf_next fun K2 hK2 => ?_; simp [dU, dS, hx1]; (repeat (refine ⟨by omega, ?_⟩)); refine hK2 _ ?_; clear hK2 K2)
            refine sxf_nil (hK' _ ?_)
            clear hK' K'
            try simp only [thn, inb]
            refine Again.mk (x + 1) ⟨by omega, hnx⟩ (by omega) ?_
            refine Imp.to' (fun _ _ => trivial) (by simp [dU, dS]) (by simp [dU, dS])
          | false =>
            rw [hbt] at hb0
            by_cases hff : f x = f (x ||| 2^m)
            · have hnx := next (fun _ => hff)
              rw [← hff] at hc2
              refine AW_rd (tyOf_good _) (by kernel_rfl) [4, 5, 6, 7, 8, 9, 25, 26, 27, 34, 35, 54] [300] (fun _ _ => trivial) (by kernel_rfl) fun K' hK' => ?_
              repeat (refine sxd_next fun K2 hK2 => ?_; simp [dU, dS, shI, hshr, hb0, hshm, hor]; (repeat (refine ⟨by omega, ?_⟩)); refine hK2 _ ?_; clear hK2 K2)
              refine sxd_next fun K2 hK2 => ?_
              simp [dU, dS, shI, hshr, hb0, hshm, hor]
              refine callQ.data (hc1) (by simp; rfl) (by simp; rfl) (by first | exact D.leGo_refl _ | simp [takeMap, List.map_map, Function.comp_def, D.le, D.le.go, D.le_refl, D.leGo_refl, dU, dS, shI, hshr, hb0, hshm, hor]) ?_
              refine hK2 _ ?_
              clear hK2 K2
              simp only [putd, upd_lst]
              repeat (refine sxd_next fun K2 hK2 => ?_; simp [dU, dS, shI, hshr, hb0, hshm, hor]; (repeat (refine ⟨by omega, ?_⟩)); refine hK2 _ ?_; clear hK2 K2)
              refine sxd_next fun K2 hK2 => ?_
              simp [dU, dS, shI, hshr, hb0, hshm, hor]
              refine callQ.data (hc2) (by simp; rfl) (by simp; rfl) (by first | exact D.leGo_refl _ | simp [takeMap, List.map_map, Function.comp_def, D.le, D.le.go, D.le_refl, D.leGo_refl, dU, dS, shI, hshr, hb0, hshm, hor]) ?_
              refine hK2 _ ?_
              clear hK2 K2
              simp only [putd, upd_lst]
              repeat (refine sxd_next fun K2 hK2 => ?_; simp [dU, dS, shI, hshr, hb0, hshm, hor]; (repeat (refine ⟨by omega, ?_⟩)); refine hK2 _ ?_; clear hK2 K2)
              refine sxd_nil (hK' _ ?_)
              refine AW.st (by simp [dU, dS, shI, hshr, hb0, hshm, hor]; rfl) ?_
              clear hK' K'
              refine AW_cond false (by simp) (fun h => by cases h) (fun _ => ?_)
              refine AW_skip (hK8 _ ?_)
              refine AW_re (tyOf_good _) fun K' hK' => ?_
              repeat (refine sxf_next fun K2 hK2 => ?_; simp [dU, dS, hx1]; (repeat (refine ⟨by omega, ?_⟩)); refine hK2 _ ?_; clear hK2 K2)
              refine sxf_nil (hK' _ ?_)
              clear hK' K'
              try simp only [thn, inb]
              refine Again.mk (x + 1) ⟨by omega, hnx⟩ (by omega) ?_
              refine Imp.to' (fun _ _ => trivial) (by simp [dU, dS]) (by simp [dU, dS])
            · have hhit := offAt_hit (n := ns.length) (by rw [hM]; exact hxl) hbt hff hall
              rw [hhit] at hsuc
              have hsl : (pairsTo ns f (m + 1)).length = (pairsTo ns f m).length + 1 := by rw [hsuc]; simp
              have hne : (f x != f (x ||| 2^m)) = true := by simpa using hff
              refine AW_rd (tyOf_good _) (by kernel_rfl) [4, 5, 6, 7, 8, 9, 25, 26, 27, 34, 35, 54] [300] (fun _ _ => trivial) (by kernel_rfl) fun K' hK' => ?_
              repeat (refine sxd_next fun K2 hK2 => ?_; simp [dU, dS, shI, hshr, hb0, hshm, hor]; (repeat (refine ⟨by omega, ?_⟩)); refine hK2 _ ?_; clear hK2 K2)
              refine sxd_next fun K2 hK2 => ?_
              simp [dU, dS, shI, hshr, hb0, hshm, hor]
              refine callQ.data (hc1) (by simp; rfl) (by simp; rfl) (by first | exact D.leGo_refl _ | simp [takeMap, List.map_map, Function.comp_def, D.le, D.le.go, D.le_refl, D.leGo_refl, dU, dS, shI, hshr, hb0, hshm, hor]) ?_
              refine hK2 _ ?_
              clear hK2 K2
              simp only [putd, upd_lst]
              repeat (refine sxd_next fun K2 hK2 => ?_; simp [dU, dS, shI, hshr, hb0, hshm, hor]; (repeat (refine ⟨by omega, ?_⟩)); refine hK2 _ ?_; clear hK2 K2)
              refine sxd_next fun K2 hK2 => ?_
              simp [dU, dS, shI, hshr, hb0, hshm, hor]
              refine callQ.data (hc2) (by simp; rfl) (by simp; rfl) (by first | exact D.leGo_refl _ | simp [takeMap, List.map_map, Function.comp_def, D.le, D.le.go, D.le_refl, D.leGo_refl, dU, dS, shI, hshr, hb0, hshm, hor]) ?_
              refine hK2 _ ?_
              clear hK2 K2
              simp only [putd, upd_lst]
              repeat (refine sxd_next fun K2 hK2 => ?_; simp [dU, dS, shI, hshr, hb0, hshm, hor]; (repeat (refine ⟨by omega, ?_⟩)); refine hK2 _ ?_; clear hK2 K2)
              refine sxd_nil (hK' _ ?_)
              refine AW.st (by simp [dU, dS, shI, hshr, hb0, hshm, hor]; rfl) ?_
              clear hK' K'
              refine AW_cond true (by simpa using hff) (fun _ => ?_) (fun h => by cases h)
              refine AW_rg (tyOf_good _) [4, 5, 6, 25, 26, 27] [300] (fun _ _ => trivial) fun K' hK' => ?_
              repeat (refine sxf_next fun K2 hK2 => ?_; simp [dU, dS, shI, hshm, hor, takeMap]; (repeat (refine ⟨by omega, ?_⟩)); refine hK2 _ ?_; clear hK2 K2)
              refine sxf_nil (hK' _ ?_)
              refine AW.st (by simp [dU, dS, shI, hshm, hor, takeMap]; rfl) ?_
              clear hK' K'
              refine AW_exit (hK6 _ ?_)
              refine AW_re (tyOf_good _) fun K' hK' => ?_
              repeat (refine sxf_next fun K2 hK2 => ?_; simp [dU, dS]; (repeat (refine ⟨by omega, ?_⟩)); refine hK2 _ ?_; clear hK2 K2)
              refine sxf_nil (hK' _ ?_)
              clear hK' K'
              try simp only [thn, inb]
              refine Again.mk (m + 1) (by omega) (by omega) ?_
              refine Imp.to' (fun _ _ => trivial) (by simp [dU, dS, hsl, hsuc, dPair, hix, hml, takeMap]) (by simp [dU, dS, hsl, hsuc, dPair, hix, hml, takeMap])
        · obtain rfl : x = M := by omega
          have hmiss : offAt f ns.length m = none := offAt_miss (by rw [hM]; exact hall)
          rw [hmiss] at hsuc
          simp only [List.append_nil] at hsuc
          refine AW_exit (hK6 _ ?_)
          refine AW_re (tyOf_good _) fun K' hK' => ?_
          repeat (refine sxf_next fun K2 hK2 => ?_; simp [dU, dS]; (repeat (refine ⟨by omega, ?_⟩)); refine hK2 _ ?_; clear hK2 K2)
          refine sxf_nil (hK' _ ?_)
          clear hK' K'
          try simp only [thn, inb]
          refine Again.mk (m + 1) (by omega) (by omega) ?_
          refine Imp.to' (fun _ _ => trivial) (by simp [dU, dS, hsuc]) (by simp [dU, dS, hsuc])
    · obtain rfl : m = ns.length := by omega
      refine AW_exit (hK4 _ ?_)
      refine AW.imp (Imp.freeze 300 trivial) ?_
      refine AW.st (by simp [dU, dS]; rfl) ?_
      refine AW_rg (tyOf_good _) [2, 3] [] (fun _ _ => trivial) fun K' hK' => ?_
      repeat (refine sxf_next fun K2 hK2 => ?_; simp [dU, dS]; (repeat (refine ⟨by omega, ?_⟩)); refine hK2 _ ?_; clear hK2 K2)
      refine sxf_nil (hK' _ ?_)
      refine AW.st (by simp [dU, dS]; rfl) ?_
      clear hK' K'
      refine AW_ret ?_
      simp [D.le, D.le.go, takeMap, dU, dS, dPairs]
set_option maxHeartbeats 4000000 in
theorem pairs_edge (G : Glob) (e : Ex) (hb : bE e ≤ 2^28) (hE : namesE false e ≠ []) : PureC Tryd.prog G 6 [dE e] (.tup [.sl (some false) [], dErr (some (1, none))]) := by
  have hes := edgesE_spec G e hb
  generalize namesE false e = es at hes hE
  have h0 : 0 < es.length := List.length_pos_iff.2 hE
  have h0' : (0 : Int) < (es.length : Int) := by omega
  obtain ⟨t, c, hec⟩ := dE_ifc e
  rw [hec] at hes ⊢
  refine PureC.of_body (tyOf_good _) Tryd.func6 rfl rfl (rs := [.tmp 2, .tmp 3]) Tryd.results6 (by simp [Tryd.ntmps6]) fun X => ?_
  simp only [Tryd.ntmps6, List.map]
  refine AW_rg (tyOf_good _) [1] [1] (fun _ _ => trivial) fun K' hK' => ?_
  repeat (refine sxf_next fun K2 hK2 => ?_; simp [dU, dS]; (repeat (refine ⟨by omega, ?_⟩)); refine hK2 _ ?_; clear hK2 K2)
  refine sxf_nil (hK' _ ?_)
  refine AW.st (by simp [dU, dS]; rfl) ?_
  clear hK' K'
  refine AW_then fun K1 hK1 => ?_
  refine AW_rg (tyOf_good _) [1, 11] [1] (fun _ _ => trivial) fun K' hK' => ?_
  repeat (refine sxf_next fun K2 hK2 => ?_; simp [dU, dS]; (repeat (refine ⟨by omega, ?_⟩)); refine hK2 _ ?_; clear hK2 K2)
  refine sxf_nil (hK' _ ?_)
  refine AW.st (by simp [dU, dS]; rfl) ?_
  clear hK' K'
  refine AW_cond false rfl (fun h => by cases h) (fun _ => ?_)
  refine AW_skip (hK1 _ ?_)
  refine AW_then fun K2 hK2 => ?_
  refine AW_rg (tyOf_good _) [1, 16] [1] (fun _ _ => trivial) fun K' hK' => ?_
  repeat (refine sxf_next fun K2 hK2 => ?_; simp [dU, dS, h0, h0']; (repeat (refine ⟨by omega, ?_⟩)); refine hK2 _ ?_; clear hK2 K2)
  refine sxf_next fun K2 hK2 => ?_
  simp [dU, dS, h0, h0']
  refine callK.data (hes) (by simp; rfl) (by first | exact D.leGo_refl _ | simp [takeMap, List.map_map, Function.comp_def, D.le, D.le.go, D.le_refl, D.leGo_refl, dU, dS, h0, h0']) ?_
  refine hK2 _ ?_
  clear hK2 K2
  simp only [putd, upd_lst]
  repeat (refine sxf_next fun K2 hK2 => ?_; simp [dU, dS, h0, h0']; (repeat (refine ⟨by omega, ?_⟩)); refine hK2 _ ?_; clear hK2 K2)
  refine sxf_nil (hK' _ ?_)
  refine AW.st (by simp [dU, dS, h0, h0']; rfl) ?_
  clear hK' K'
  refine AW_cond true (by simp [h0]) (fun _ => ?_) (fun h => by cases h)
  refine AW_rg (tyOf_good _) [2, 3] [] (fun _ _ => trivial) fun K' hK' => ?_
  repeat (refine sxf_next fun K2 hK2 => ?_; simp [dU, dS]; (repeat (refine ⟨by omega, ?_⟩)); refine hK2 _ ?_; clear hK2 K2)
  refine sxf_nil (hK' _ ?_)
  refine AW.st (by simp [dU, dS]; rfl) ?_
  clear hK' K'
  refine AW_ret ?_
  simp [D.le, D.le.go, takeMap, dU, dS, dErr]
set_option maxHeartbeats 4000000 in
theorem pairs_many (G : Glob) (e : Ex) (hb : bE e ≤ 2^28) (hE : namesE false e = []) (h8 : 8 < (namesE true e).length) : PureC Tryd.prog G 6 [dE e] (.tup [.sl (some false) [], dErr (some (4, none))]) := by
  have hns := namesE_spec G e hb
  have hes := edgesE_spec G e hb
  rw [hE] at hes
  generalize namesE true e = ns at hns h8
  have h8' : (8 : Int) < (ns.length : Int) := by omega
  obtain ⟨t, c, hec⟩ := dE_ifc e
  rw [hec] at hes hns ⊢
  refine PureC.of_body (tyOf_good _) Tryd.func6 rfl rfl (rs := [.tmp 2, .tmp 3]) Tryd.results6 (by simp [Tryd.ntmps6]) fun X => ?_
  simp only [Tryd.ntmps6, List.map]
  refine AW_rg (tyOf_good _) [1] [1] (fun _ _ => trivial) fun K' hK' => ?_
  repeat (refine sxf_next fun K2 hK2 => ?_; simp [dU, dS]; (repeat (refine ⟨by omega, ?_⟩)); refine hK2 _ ?_; clear hK2 K2)
  refine sxf_nil (hK' _ ?_)
  refine AW.st (by simp [dU, dS]; rfl) ?_
  clear hK' K'
  refine AW_then fun K1 hK1 => ?_
  refine AW_rg (tyOf_good _) [1, 11] [1] (fun _ _ => trivial) fun K' hK' => ?_
  repeat (refine sxf_next fun K2 hK2 => ?_; simp [dU, dS]; (repeat (refine ⟨by omega, ?_⟩)); refine hK2 _ ?_; clear hK2 K2)
  refine sxf_nil (hK' _ ?_)
  refine AW.st (by simp [dU, dS]; rfl) ?_
  clear hK' K'
  refine AW_cond false rfl (fun h => by cases h) (fun _ => ?_)
  refine AW_skip (hK1 _ ?_)
  refine AW_then fun K2 hK2 => ?_
  refine AW_rg (tyOf_good _) [1, 16] [1] (fun _ _ => trivial) fun K' hK' => ?_
  repeat (refine sxf_next fun K2 hK2 => ?_; simp [dU, dS]; (repeat (refine ⟨by omega, ?_⟩)); refine hK2 _ ?_; clear hK2 K2)
  refine sxf_next fun K2 hK2 => ?_
  simp [dU, dS]
  refine callK.data (hes) (by simp; rfl) (by first | exact D.leGo_refl _ | simp [takeMap, List.map_map, Function.comp_def, D.le, D.le.go, D.le_refl, D.leGo_refl, dU, dS]) ?_
  refine hK2 _ ?_
  clear hK2 K2
  simp only [putd, upd_lst]
  repeat (refine sxf_next fun K2 hK2 => ?_; simp [dU, dS]; (repeat (refine ⟨by omega, ?_⟩)); refine hK2 _ ?_; clear hK2 K2)
  refine sxf_nil (hK' _ ?_)
  refine AW.st (by simp [dU, dS]; rfl) ?_
  clear hK' K'
  refine AW_cond false rfl (fun h => by cases h) (fun _ => ?_)
  refine AW_skip (hK2 _ ?_)
  refine AW_rg (tyOf_good _) [1, 4] [1, 4] (fun _ _ => trivial) fun K' hK' => ?_
  repeat (refine sxf_next fun K2 hK2 => ?_; simp [dU, dS]; (repeat (refine ⟨by omega, ?_⟩)); refine hK2 _ ?_; clear hK2 K2)
  refine sxf_next fun K2 hK2 => ?_
  simp [dU, dS]
  refine callK.data (hns) (by simp; rfl) (by first | exact D.leGo_refl _ | simp [takeMap, List.map_map, Function.comp_def, D.le, D.le.go, D.le_refl, D.leGo_refl, dU, dS]) ?_
  refine hK2 _ ?_
  clear hK2 K2
  simp only [putd, upd_lst]
  repeat (refine sxf_next fun K2 hK2 => ?_; simp [dU, dS]; (repeat (refine ⟨by omega, ?_⟩)); refine hK2 _ ?_; clear hK2 K2)
  refine sxf_nil (hK' _ ?_)
  refine AW.st (by simp [dU, dS]; rfl) ?_
  clear hK' K'
  refine AW_then fun K3 hK3 => ?_
  refine AW_rg (tyOf_good _) [1, 4, 22] [1, 4] (fun _ _ => trivial) fun K' hK' => ?_
  repeat (refine sxf_next fun K2 hK2 => ?_; simp [dU, dS, h8, h8']; (repeat (refine ⟨by omega, ?_⟩)); refine hK2 _ ?_; clear hK2 K2)
  refine sxf_nil (hK' _ ?_)
  refine AW.st (by simp [dU, dS, h8, h8']; rfl) ?_
  clear hK' K'
  refine AW_cond true rfl (fun _ => ?_) (fun h => by cases h)
  refine AW_rg (tyOf_good _) [2, 3] [] (fun _ _ => trivial) fun K' hK' => ?_
  repeat (refine sxf_next fun K2 hK2 => ?_; simp [dU, dS]; (repeat (refine ⟨by omega, ?_⟩)); refine hK2 _ ?_; clear hK2 K2)
  refine sxf_nil (hK' _ ?_)
  refine AW.st (by simp [dU, dS]; rfl) ?_
  clear hK' K'
  refine AW_ret ?_
  simp [D.le, D.le.go, takeMap, dU, dS, dErr]
end Go.Proofs.YtagfbbnlbncjlaaDoor

/-
  What CoverShows asks: covered, and its closure.
-/
namespace Go.Proofs.YtagfbbnlbncjlaaDoor
set_option linter.unusedSimpArgs false
set_option linter.unusedVariables false
open Go.Av

/-- The names of which bits stand. -/
def onT (l : List Tx) (x : Nat) (m : Nat) : List Tx := (List.range m).filterMap fun i => if x.testBit i then some (l.getD i []) else none
theorem onT_succ (l : List Tx) (x : Nat) (m : Nat) : onT l x (m + 1) = onT l x m ++ (if x.testBit m then [l.getD m []] else []) := by
  unfold onT
  rw [List.range_succ, List.filterMap_append]
  congr 1
  cases h : x.testBit m <;> simp [h]
theorem onT_len (l : List Tx) (x : Nat) (m : Nat) : (onT l x m).length ≤ m := by
  unfold onT
  refine Nat.le_trans (List.length_filterMap_le _ _) (by simp)
theorem ixT_self {l : List Tx} (hs : l.Pairwise (· < ·)) {k : Nat} (hk : k < l.length) : ixT l l[k] = k := by
  have h1 := ixT_get (List.getElem_mem hk)
  have hlt := ixT_lt (List.getElem_mem hk)
  rcases Nat.lt_trichotomy (ixT l l[k]) k with h | h | h
  · exact absurd (h1 ▸ List.pairwise_iff_getElem.1 hs _ _ hlt hk h) (tx_irr _)
  · exact h
  · exact absurd (h1 ▸ List.pairwise_iff_getElem.1 hs _ _ hk hlt h) (tx_irr _)
theorem onT_any {l : List Tx} (hs : l.Pairwise (· < ·)) (x : Nat) {s : Tx} (h : s ∈ l) : ((onT l x l.length).any fun y => y == s) = isB l x s := by
  have hlt := ixT_lt h
  have hget := ixT_get h
  unfold isB
  cases hb : x.testBit (ixT l s) with
  | true =>
    refine List.any_eq_true.2 ⟨s, ?_, by simp⟩
    unfold onT
    refine List.mem_filterMap.2 ⟨ixT l s, by simpa using hlt, ?_⟩
    rw [if_pos hb]
    simp [hlt, hget]
  | false =>
    rw [List.any_eq_false]
    intro y hy hys
    have hys : y = s := by simpa using hys
    subst hys
    unfold onT at hy
    obtain ⟨i, hi, hy⟩ := List.mem_filterMap.1 hy
    have hi : i < l.length := by simpa using hi
    split at hy
    · rename_i hbi
      obtain hy := Option.some.inj hy
      simp [hi] at hy
      have := ixT_self hs hi
      rw [hy] at this
      rw [this, hbi] at hb
      cases hb
    · cases hy

set_option maxHeartbeats 8000000 in
theorem csays_spec (G : Glob) (ns : List Tx) (hs : ns.Pairwise (· < ·)) (hn : ns.length ≤ 60) (e : Ex) (hw : WfE e) (hb : bE e ≤ 2^28) (hN : ∀ s ∈ nmsE true e, s ∈ ns) (x : Nat) (hx : x < 2^64) : PureC Tryd.prog G 8 [dU x, .ip [.sl none (ns.map fun s => [dS s])], .ip [dE e]] (.v (.bool (saysB ns e x))) := by
  have ha := among_spec G none (onT ns x ns.length)
  have hpl := onT_len ns x ns.length
  have hev := eval_spec G _ _ _ _ _ _ (among_tells G none (onT ns x ns.length) (by omega)) (among_tells G none (onT ns x ns.length) (by omega)) e hb
  have hr : evE (fun s => (onT ns x ns.length).any fun y => y == s) (fun s => (onT ns x ns.length).any fun y => y == s) e = saysB ns e x := by
    unfold saysB
    refine ev_names _ _ _ _ _ e (Nat.le_refl _) hw (fun s hs' => ?_) (fun s hs' => ?_)
    · exact onT_any hs x (hN s hs')
    · exact onT_any hs x (hN s (names_self hs'))
  rw [hr] at hev
  generalize saysB ns e x = r at hev ⊢
  clear hr hpl
  obtain ⟨t, c, hec⟩ := dE_ifc e
  rw [hec] at hev ⊢
  refine PureC.of_body (tyOf_good _) Tryd.func8 rfl rfl (rs := [.tmp 4]) Tryd.results8 (by simp [Tryd.ntmps8]) fun X => ?_
  simp only [Tryd.ntmps8, List.map]
  refine AW_rg (tyOf_good _) [0, 1, 2] [] (fun _ _ => trivial) fun K' hK' => ?_
  repeat (refine sxf_next fun K2 hK2 => ?_; simp [dU, dS]; (repeat (refine ⟨by omega, ?_⟩)); refine hK2 _ ?_; clear hK2 K2)
  refine sxf_nil (hK' _ ?_)
  refine AW.st (by simp [dU, dS]; rfl) ?_
  clear hK' K'
  refine AW_rg (tyOf_good _) [0, 1, 2, 5] [] (fun _ _ => trivial) fun K' hK' => ?_
  repeat (refine sxf_next fun K2 hK2 => ?_; simp [dU, dS]; (repeat (refine ⟨by omega, ?_⟩)); refine hK2 _ ?_; clear hK2 K2)
  refine sxf_nil (hK' _ ?_)
  refine AW.st (by simp [dU, dS]; rfl) ?_
  clear hK' K'
  refine AW_then fun K1 hK1 => ?_
  refine AW_rg (tyOf_good _) [0, 1, 2, 5, 6] [] (fun _ _ => trivial) fun K' hK' => ?_
  repeat (refine sxf_next fun K2 hK2 => ?_; simp [dU, dS]; (repeat (refine ⟨by omega, ?_⟩)); refine hK2 _ ?_; clear hK2 K2)
  refine sxf_nil (hK' _ ?_)
  refine AW.st (by simp [dU, dS]; rfl) ?_
  clear hK' K'
  refine AW_for (S := Nat) (fun i => i ≤ ns.length) (fun i => ⟨lst [(0, .d (dU x)), (1, .d (.ip [.sl none (ns.map fun s => [dS s])])), (2, .d (.ip [.ifc t c])), (5, .own 300 0 (onT ns x i).length), (6, int i)], hlst [(300, .sl 9 1 ((onT ns x i).map fun s => [dS s]))]⟩) (fun i => ns.length - i) 0 ?_ (by omega) ?_
  · refine (Imp.adopt 5 300 9 1 rfl rfl).trans ?_
    refine Imp.to' (fun _ _ => trivial) (by simp [dU, dS, onT]) (by simp [dU, dS, onT])
  · intro i hi
    refine AW_then fun K2 hK2 => ?_
    refine AW_rg (tyOf_good _) [0, 1, 2, 5, 6, 10] [300] (fun _ _ => trivial) fun K' hK' => ?_
    repeat (refine sxf_next fun K2 hK2 => ?_; simp [dU, dS]; (repeat (refine ⟨by omega, ?_⟩)); refine hK2 _ ?_; clear hK2 K2)
    refine sxf_nil (hK' _ ?_)
    refine AW.st (by simp [dU, dS]; rfl) ?_
    clear hK' K'
    refine AW_cond' (b := i < ns.length) (by simp [D.le, D.le.go, takeMap, dU, dS]) (fun hc => ?_) (fun hc => ?_)
    · have hil : i < ns.length := hc
      have hsuc := onT_succ ns x i
      have hpl := onT_len ns x i
      have hsh := shr_is x i (by omega)
      have hbt := and_is1 x i hx
      refine AW_skip (hK2 _ ?_)
      refine AW_then fun K3 hK3 => ?_
      refine AW_block ?_
      cases hbi : x.testBit i with
      | true =>
        rw [hbi] at hsuc hbt
        have hsl : (onT ns x (i + 1)).length = (onT ns x i).length + 1 := by rw [hsuc]; simp
        refine AW_rg (tyOf_good _) [0, 1, 2, 5, 6, 17] [300] (fun _ _ => trivial) fun K' hK' => ?_
        repeat (refine sxf_next fun K2 hK2 => ?_; simp [dU, dS, shI, hsh, hbt]; (repeat (refine ⟨by omega, ?_⟩)); refine hK2 _ ?_; clear hK2 K2)
        refine sxf_nil (hK' _ ?_)
        refine AW.st (by simp [dU, dS, shI, hsh, hbt]; rfl) ?_
        clear hK' K'
        refine AW_cond true rfl (fun _ => ?_) (fun h => by cases h)
        refine AW_re (tyOf_good _) fun K' hK' => ?_
        repeat (refine sxf_next fun K2 hK2 => ?_; simp [dU, dS, hil, takeMap, dS]; (repeat (refine ⟨by omega, ?_⟩)); refine hK2 _ ?_; clear hK2 K2)
        refine sxf_nil (hK' _ ?_)
        clear hK' K'
        refine hK3 _ (AW.norm [0, 1, 2, 5, 6] [300] (fun _ _ => trivial) (AW.st (by simp [dU, dS, hil, takeMap, dS]; rfl) ?_))
        refine AW_re (tyOf_good _) fun K' hK' => ?_
        repeat (refine sxf_next fun K2 hK2 => ?_; simp [dU, dS]; (repeat (refine ⟨by omega, ?_⟩)); refine hK2 _ ?_; clear hK2 K2)
        refine sxf_nil (hK' _ ?_)
        clear hK' K'
        try simp only [thn, inb]
        refine Again.mk (i + 1) (by omega) (by omega) ?_
        refine Imp.to' (fun _ _ => trivial) (by simp [dU, dS, hsl, hsuc, hil, takeMap, dS]) (by simp [dU, dS, hsl, hsuc, hil, takeMap, dS])
      | false =>
        rw [hbi] at hsuc hbt
        simp only [Bool.false_eq_true, if_false, List.append_nil] at hsuc
        refine AW_rg (tyOf_good _) [0, 1, 2, 5, 6, 17] [300] (fun _ _ => trivial) fun K' hK' => ?_
        repeat (refine sxf_next fun K2 hK2 => ?_; simp [dU, dS, shI, hsh, hbt]; (repeat (refine ⟨by omega, ?_⟩)); refine hK2 _ ?_; clear hK2 K2)
        refine sxf_nil (hK' _ ?_)
        refine AW.st (by simp [dU, dS, shI, hsh, hbt]; rfl) ?_
        clear hK' K'
        refine AW_cond false rfl (fun h => by cases h) (fun _ => ?_)
        refine AW_skip (hK3 _ ?_)
        refine AW_re (tyOf_good _) fun K' hK' => ?_
        repeat (refine sxf_next fun K2 hK2 => ?_; simp [dU, dS]; (repeat (refine ⟨by omega, ?_⟩)); refine hK2 _ ?_; clear hK2 K2)
        refine sxf_nil (hK' _ ?_)
        clear hK' K'
        try simp only [thn, inb]
        refine Again.mk (i + 1) (by omega) (by omega) ?_
        refine Imp.to' (fun _ _ => trivial) (by simp [dU, dS, hsuc]) (by simp [dU, dS, hsuc])
    · obtain rfl : i = ns.length := by omega
      refine AW_exit (hK1 _ ?_)
      refine AW.imp (Imp.freeze 300 trivial) ?_
      refine AW.st (by simp [dU, dS]; rfl) ?_
      refine AW_rd (tyOf_good _) (by kernel_rfl) [4] [] (fun _ _ => trivial) (by kernel_rfl) fun K' hK' => ?_
      repeat (refine sxd_next fun K2 hK2 => ?_; simp [dU, dS, dAm]; (repeat (refine ⟨by omega, ?_⟩)); refine hK2 _ ?_; clear hK2 K2)
      refine sxd_next fun K2 hK2 => ?_
      simp [dU, dS, dAm]
      refine callQ.data (ha) (by simp; rfl) (by simp; rfl) (by first | exact D.leGo_refl _ | simp [takeMap, List.map_map, Function.comp_def, D.le, D.le.go, D.le_refl, D.leGo_refl, dU, dS, dAm]) ?_
      refine hK2 _ ?_
      clear hK2 K2
      simp only [putd, upd_lst]
      repeat (refine sxd_next fun K2 hK2 => ?_; simp [dU, dS, dAm]; (repeat (refine ⟨by omega, ?_⟩)); refine hK2 _ ?_; clear hK2 K2)
      refine sxd_next fun K2 hK2 => ?_
      simp [dU, dS, dAm]
      refine callQ.data (ha) (by simp; rfl) (by simp; rfl) (by first | exact D.leGo_refl _ | simp [takeMap, List.map_map, Function.comp_def, D.le, D.le.go, D.le_refl, D.leGo_refl, dU, dS, dAm]) ?_
      refine hK2 _ ?_
      clear hK2 K2
      simp only [putd, upd_lst]
      repeat (refine sxd_next fun K2 hK2 => ?_; simp [dU, dS, dAm]; (repeat (refine ⟨by omega, ?_⟩)); refine hK2 _ ?_; clear hK2 K2)
      refine sxd_next fun K2 hK2 => ?_
      simp [dU, dS, dAm]
      refine callQ.data (hev) (by simp; rfl) (by simp; rfl) (by first | exact D.leGo_refl _ | simp [takeMap, List.map_map, Function.comp_def, D.le, D.le.go, D.le_refl, D.leGo_refl, dU, dS, dAm]) ?_
      refine hK2 _ ?_
      clear hK2 K2
      simp only [putd, upd_lst]
      repeat (refine sxd_next fun K2 hK2 => ?_; simp [dU, dS, dAm]; (repeat (refine ⟨by omega, ?_⟩)); refine hK2 _ ?_; clear hK2 K2)
      refine sxd_nil (hK' _ ?_)
      refine AW.st (by simp [dU, dS, dAm]; rfl) ?_
      clear hK' K'
      refine AW_ret ?_
      simp [D.le, D.le.go, takeMap, dU, dS]
def exab : Ex := .and [.bit [97], .bit [98]]
theorem exab_wf : WfE exab := by
  simp only [exab, WfE, WfEs]
  exact ⟨by simp, by decide +kernel, by decide +kernel, trivial⟩
theorem exab_text : wrE exab 0 = [97, 32, 38, 32, 98] := by simp [exab, wrE, wrL, Lib.join, List.intercalate]
theorem exab_parse : parseM [97, 32, 38, 32, 98] = (some exab, none) := by
  have := parse_back exab_wf (by simp [exab, dpI, dpA, dpE]) (by rw [exab_text]; simp)
  rw [exab_text] at this
  exact this
theorem exab_names : namesE true exab = [[97], [98]] := by
  have h : nmsE true exab = [[97], [98]] := by simp [exab, nmsE, nmsL, nmE, one1]
  have h2 : sortT [[97], [98]] = [[97], [98]] := List.mergeSort_of_pairwise (by simp; decide)
  unfold namesE
  rw [h, h2]
  decide +kernel
theorem exab_edges : namesE false exab = [] := by
  have h : nmsE false exab = [] := by simp [exab, nmsE, nmsL, nmE, one1]
  have h2 : sortT [] = [] := by simp [sortT]
  unfold namesE
  rw [h, h2]
  rfl
theorem exab_says : saysB [[97], [98]] exab = fun x => x.testBit 0 && x.testBit 1 := by
  funext x
  have h0 : ixT [[97], [98]] [97] = 0 := by decide
  have h1 : ixT [[97], [98]] [98] = 1 := by decide
  simp [saysB, isB, exab, evE, evA, h0, h1]
theorem exab_pairs : pairsF [[97], [98]] (saysB [[97], [98]] exab) = [([97], 2), ([98], 1)] := by
  rw [exab_says]; decide +kernel
theorem lxa : (⟨#[97]⟩ : ByteArray) = bs [97] := rfl
theorem lxb : (⟨#[98]⟩ : ByteArray) = bs [98] := rfl
theorem lxab : (⟨#[97, 32, 38, 32, 98]⟩ : ByteArray) = bs [97, 32, 38, 32, 98] := rfl
theorem ix97 : ixT [[97], [98]] [97] = 0 := by decide
theorem ix98 : ixT [[97], [98]] [98] = 1 := by decide

set_option maxHeartbeats 8000000 in
theorem covered_spec (G : Glob) : PureC Tryd.prog G 5 [] (.v (.bool true)) := by
  have hp := parse_spec G [97, 32, 38, 32, 98] (by decide)
  rw [exab_parse] at hp
  have hbe : bE exab ≤ 2^28 := by simp [exab, bE, bEs]
  have hpc := pairs_spec G exab exab_wf hbe exab_edges (by rw [exab_names]; decide)
  rw [exab_names, exab_pairs] at hpc
  have e3 : (2 ||| 2^0 : Nat) = 3 := by decide
  have e4 : (1 ||| 2^1 : Nat) = 3 := by decide
  simp only [dPairs, dPair, List.map_cons, List.map_nil, ix97, ix98, e3, e4, dU] at hpc
  obtain ⟨t, c, hx⟩ := dE_ifc exab
  simp only [dOE] at hp
  rw [hx] at hp hpc
  refine PureC.of_body (tyOf_good _) Tryd.func5 rfl rfl (rs := [.tmp 0]) Tryd.results5 (by simp [Tryd.ntmps5]) fun X => ?_
  simp only [Tryd.ntmps5, List.map]
  refine AW_rg (tyOf_good _) [] [] (fun _ _ => trivial) fun K' hK' => ?_
  repeat (refine sxf_next fun K2 hK2 => ?_; simp [dS]; (repeat (refine ⟨by omega, ?_⟩)); refine hK2 _ ?_; clear hK2 K2)
  refine sxf_nil (hK' _ ?_)
  refine AW.st (by simp [dS]; rfl) ?_
  clear hK' K'
  refine AW_rg (tyOf_good _) [1, 2] [] (fun _ _ => trivial) fun K' hK' => ?_
  repeat (refine sxf_next fun K2 hK2 => ?_; simp [dS, dErr, lxab]; (repeat (refine ⟨by omega, ?_⟩)); refine hK2 _ ?_; clear hK2 K2)
  refine sxf_next fun K2 hK2 => ?_
  simp [dS, dErr, lxab]
  refine callK.data (hp) (by simp; rfl) (by first | exact D.leGo_refl _ | simp [takeMap, List.map_map, Function.comp_def, D.le, D.le.go, D.le_refl, D.leGo_refl, dS, dErr, lxab]) ?_
  refine hK2 _ ?_
  clear hK2 K2
  simp only [putd, upd_lst]
  repeat (refine sxf_next fun K2 hK2 => ?_; simp [dS, dErr, lxab]; (repeat (refine ⟨by omega, ?_⟩)); refine hK2 _ ?_; clear hK2 K2)
  refine sxf_nil (hK' _ ?_)
  refine AW.st (by simp [dS, dErr, lxab]; rfl) ?_
  clear hK' K'
  refine AW_then fun K1 hK1 => ?_
  refine AW_rg (tyOf_good _) [1, 9] [] (fun _ _ => trivial) fun K' hK' => ?_
  repeat (refine sxf_next fun K2 hK2 => ?_; simp [dS]; (repeat (refine ⟨by omega, ?_⟩)); refine hK2 _ ?_; clear hK2 K2)
  refine sxf_nil (hK' _ ?_)
  refine AW.st (by simp [dS]; rfl) ?_
  clear hK' K'
  refine AW_cond false rfl (fun h => by cases h) (fun _ => ?_)
  refine AW_skip (hK1 _ ?_)
  refine AW_rg (tyOf_good _) [2, 3] [] (fun _ _ => trivial) fun K' hK' => ?_
  repeat (refine sxf_next fun K2 hK2 => ?_; simp [dS]; (repeat (refine ⟨by omega, ?_⟩)); refine hK2 _ ?_; clear hK2 K2)
  refine sxf_next fun K2 hK2 => ?_
  simp [dS]
  refine callK.data (hpc) (by simp; rfl) (by first | exact D.leGo_refl _ | simp [takeMap, List.map_map, Function.comp_def, D.le, D.le.go, D.le_refl, D.leGo_refl, dS]) ?_
  refine hK2 _ ?_
  clear hK2 K2
  simp only [putd, upd_lst]
  repeat (refine sxf_next fun K2 hK2 => ?_; simp [dS]; (repeat (refine ⟨by omega, ?_⟩)); refine hK2 _ ?_; clear hK2 K2)
  refine sxf_nil (hK' _ ?_)
  refine AW.st (by simp [dS]; rfl) ?_
  clear hK' K'
  refine AW_rg (tyOf_good _) [0] [] (fun _ _ => trivial) fun K' hK' => ?_
  repeat (refine sxf_next fun K2 hK2 => ?_; simp [dS, lxa, lxb, eqFs, eqSc, eqv, bs_list]; (repeat (refine ⟨by omega, ?_⟩)); refine hK2 _ ?_; clear hK2 K2)
  refine sxf_nil (hK' _ ?_)
  refine AW.st (by simp [dS, lxa, lxb, eqFs, eqSc, eqv, bs_list]; rfl) ?_
  clear hK' K'
  refine AW_ret ?_
  simp [D.le, D.le.go, takeMap, dS]
end Go.Proofs.YtagfbbnlbncjlaaDoor

/-
  What CoverShows says.
-/
namespace Go.Proofs.YtagfbbnlbncjlaaDoor
set_option linter.unusedSimpArgs false
set_option linter.unusedVariables false
open Go.Av

/-- Is name r among the first pairs? -/
def hitT (ns : List Tx) (r : Nat) (L : List (Tx × Nat)) (i : Nat) : Bool := (L.take i).any fun p => ixT ns p.1 == r
theorem hitT_succ (ns : List Tx) (r : Nat) {L : List (Tx × Nat)} {i : Nat} (hi : i < L.length) : hitT ns r L (i + 1) = (hitT ns r L i || ixT ns L[i].1 == r) := by
  unfold hitT
  rw [List.take_succ_eq_append_getElem hi, List.any_append]
  simp
theorem pairsF_hit {l : List Tx} {f : Nat → Bool} {k y : Nat} (hk : k < l.length) (h : offAt f l.length k = some y) : (l[k], y) ∈ pairsF l f := by
  unfold pairsF
  exact List.mem_filterMap.2 ⟨k, by simpa using hk, by rw [h]; simp [hk]⟩
set_option maxHeartbeats 32000000 in
theorem covershows_spec (G : Glob) (t : List UInt8) (x : Nat) (hx : x < 2^64) (p : Int) : PureC Tryd.prog G 3 [dS t, dU x, dNum p] (.v (.bool true)) := by
  have hcov := covered_spec G
  by_cases h1 : 300 < t.length
  · have h1' : (300 : Int) < (t.length : Int) := by omega
    refine PureC.of_body (tyOf_good _) Tryd.func3 rfl rfl (rs := [.tmp 6]) Tryd.results3 (by simp [Tryd.ntmps3]) fun X => ?_
    simp only [Tryd.ntmps3, List.map]
    refine AW_rg (tyOf_good _) [0, 1, 2] [] (fun _ _ => trivial) fun K' hK' => ?_
    repeat (refine sxf_next fun K2 hK2 => ?_; simp [dU, dS, dNum]; (repeat (refine ⟨by omega, ?_⟩)); refine hK2 _ ?_; clear hK2 K2)
    refine sxf_nil (hK' _ ?_)
    refine AW.st (by simp [dU, dS, dNum]; rfl) ?_
    clear hK' K'
    refine AW_then fun K1 hK1 => ?_
    refine AW_rg (tyOf_good _) [0, 1, 2, 19] [] (fun _ _ => trivial) fun K' hK' => ?_
    repeat (refine sxf_next fun K2 hK2 => ?_; simp [dU, dS, dNum, bs_size, h1, h1']; (repeat (refine ⟨by omega, ?_⟩)); refine hK2 _ ?_; clear hK2 K2)
    refine sxf_nil (hK' _ ?_)
    refine AW.st (by simp [dU, dS, dNum, bs_size, h1, h1']; rfl) ?_
    clear hK' K'
    refine AW_cond true rfl (fun _ => ?_) (fun h => by cases h)
    refine AW_rg (tyOf_good _) [6] [] (fun _ _ => trivial) fun K' hK' => ?_
    repeat (refine sxf_next fun K2 hK2 => ?_; simp [dU, dS, dNum]; (repeat (refine ⟨by omega, ?_⟩)); refine hK2 _ ?_; clear hK2 K2)
    refine sxf_nil (hK' _ ?_)
    refine AW.st (by simp [dU, dS, dNum]; rfl) ?_
    clear hK' K'
    refine AW_ret ?_
    simp [D.le, D.le.go, takeMap, dU, dS, dNum]
  have h1' : ¬ (300 : Int) < (t.length : Int) := by omega
  have hp := parse_spec G t (by omega)
  cases hpm : parseM t with
  | mk ox oe =>
  rw [hpm] at hp
  cases oe with
  | some e =>
    obtain ⟨c, q⟩ := e
    have hn : ox = none := by
      have := parse_none (t := t) (e := (c, q)) (by rw [hpm])
      rw [hpm] at this
      exact this
    subst hn
    have hne : ∃ te ce, dErr (some (c, q)) = .ifc te ce := by cases q <;> exact ⟨_, _, rfl⟩
    obtain ⟨te, ce, hee⟩ := hne
    simp only [dOE] at hp
    rw [hee] at hp
    refine PureC.of_body (tyOf_good _) Tryd.func3 rfl rfl (rs := [.tmp 6]) Tryd.results3 (by simp [Tryd.ntmps3]) fun X => ?_
    simp only [Tryd.ntmps3, List.map]
    refine AW_rg (tyOf_good _) [0, 1, 2] [] (fun _ _ => trivial) fun K' hK' => ?_
    repeat (refine sxf_next fun K2 hK2 => ?_; simp [dU, dS, dNum]; (repeat (refine ⟨by omega, ?_⟩)); refine hK2 _ ?_; clear hK2 K2)
    refine sxf_nil (hK' _ ?_)
    refine AW.st (by simp [dU, dS, dNum]; rfl) ?_
    clear hK' K'
    refine AW_then fun K1 hK1 => ?_
    refine AW_rg (tyOf_good _) [0, 1, 2, 19] [] (fun _ _ => trivial) fun K' hK' => ?_
    repeat (refine sxf_next fun K2 hK2 => ?_; simp [dU, dS, dNum, bs_size, h1, h1']; (repeat (refine ⟨by omega, ?_⟩)); refine hK2 _ ?_; clear hK2 K2)
    refine sxf_nil (hK' _ ?_)
    refine AW.st (by simp [dU, dS, dNum, bs_size, h1, h1']; rfl) ?_
    clear hK' K'
    refine AW_cond false rfl (fun h => by cases h) (fun _ => ?_)
    refine AW_skip (hK1 _ ?_)
    refine AW_rg (tyOf_good _) [1, 2, 7, 8] [7] (fun _ _ => trivial) fun K' hK' => ?_
    repeat (refine sxf_next fun K2 hK2 => ?_; simp [dU, dS, dNum]; (repeat (refine ⟨by omega, ?_⟩)); refine hK2 _ ?_; clear hK2 K2)
    refine sxf_next fun K2 hK2 => ?_
    simp [dU, dS, dNum]
    refine callK.data (hp) (by simp; rfl) (by first | exact D.leGo_refl _ | simp [takeMap, List.map_map, Function.comp_def, D.le, D.le.go, D.le_refl, D.leGo_refl, dU, dS, dNum]) ?_
    refine hK2 _ ?_
    clear hK2 K2
    simp only [putd, upd_lst]
    repeat (refine sxf_next fun K2 hK2 => ?_; simp [dU, dS, dNum]; (repeat (refine ⟨by omega, ?_⟩)); refine hK2 _ ?_; clear hK2 K2)
    refine sxf_nil (hK' _ ?_)
    refine AW.st (by simp [dU, dS, dNum]; rfl) ?_
    clear hK' K'
    refine AW_then fun K2 hK2 => ?_
    refine AW_rg (tyOf_good _) [1, 2, 7, 30] [7] (fun _ _ => trivial) fun K' hK' => ?_
    repeat (refine sxf_next fun K2 hK2 => ?_; simp [dU, dS, dNum]; (repeat (refine ⟨by omega, ?_⟩)); refine hK2 _ ?_; clear hK2 K2)
    refine sxf_next fun K2 hK2 => ?_
    simp [dU, dS, dNum]
    refine callK.data (hcov) (by simp; rfl) (by first | exact D.leGo_refl _ | simp [takeMap, List.map_map, Function.comp_def, D.le, D.le.go, D.le_refl, D.leGo_refl, dU, dS, dNum]) ?_
    refine hK2 _ ?_
    clear hK2 K2
    simp only [putd, upd_lst]
    repeat (refine sxf_next fun K2 hK2 => ?_; simp [dU, dS, dNum]; (repeat (refine ⟨by omega, ?_⟩)); refine hK2 _ ?_; clear hK2 K2)
    refine sxf_nil (hK' _ ?_)
    refine AW.st (by simp [dU, dS, dNum]; rfl) ?_
    clear hK' K'
    refine AW_cond true rfl (fun _ => ?_) (fun h => by cases h)
    refine AW_rg (tyOf_good _) [6] [7] (fun _ _ => trivial) fun K' hK' => ?_
    repeat (refine sxf_next fun K2 hK2 => ?_; simp [dU, dS, dNum]; (repeat (refine ⟨by omega, ?_⟩)); refine hK2 _ ?_; clear hK2 K2)
    refine sxf_next fun K2 hK2 => ?_
    simp [dU, dS, dNum]
    refine callK.data (hcov) (by simp; rfl) (by first | exact D.leGo_refl _ | simp [takeMap, List.map_map, Function.comp_def, D.le, D.le.go, D.le_refl, D.leGo_refl, dU, dS, dNum]) ?_
    refine hK2 _ ?_
    clear hK2 K2
    simp only [putd, upd_lst]
    repeat (refine sxf_next fun K2 hK2 => ?_; simp [dU, dS, dNum]; (repeat (refine ⟨by omega, ?_⟩)); refine hK2 _ ?_; clear hK2 K2)
    refine sxf_nil (hK' _ ?_)
    refine AW.st (by simp [dU, dS, dNum]; rfl) ?_
    clear hK' K'
    refine AW_ret ?_
    simp [D.le, D.le.go, takeMap, dU, dS, dNum]
  | none =>
    obtain ⟨e, hpe⟩ := parse_some (t := t) (by rw [hpm])
    have hbe := parse_b hpe
    obtain ⟨hwf, _⟩ := parse_wf hpe
    rw [hpm] at hpe
    dsimp only at hpe
    subst hpe
    have hns := namesE_spec G e (by omega)
    obtain ⟨te, ce, hec⟩ := dE_ifc e
    simp only [dOE, dErr] at hp
    by_cases hE : namesE false e = []
    · by_cases h8 : 8 < (namesE true e).length
      · have hpc := pairs_many G e (by omega) hE h8
        generalize namesE true e = ns at hns h8
        rw [hec] at hp hns hpc
        simp only [dErr] at hpc
        refine PureC.of_body (tyOf_good _) Tryd.func3 rfl rfl (rs := [.tmp 6]) Tryd.results3 (by simp [Tryd.ntmps3]) fun X => ?_
        simp only [Tryd.ntmps3, List.map]
        refine AW_rg (tyOf_good _) [0, 1, 2] [] (fun _ _ => trivial) fun K' hK' => ?_
        repeat (refine sxf_next fun K2 hK2 => ?_; simp [dU, dS, dNum]; (repeat (refine ⟨by omega, ?_⟩)); refine hK2 _ ?_; clear hK2 K2)
        refine sxf_nil (hK' _ ?_)
        refine AW.st (by simp [dU, dS, dNum]; rfl) ?_
        clear hK' K'
        refine AW_then fun K1 hK1 => ?_
        refine AW_rg (tyOf_good _) [0, 1, 2, 19] [] (fun _ _ => trivial) fun K' hK' => ?_
        repeat (refine sxf_next fun K2 hK2 => ?_; simp [dU, dS, dNum, bs_size, h1, h1']; (repeat (refine ⟨by omega, ?_⟩)); refine hK2 _ ?_; clear hK2 K2)
        refine sxf_nil (hK' _ ?_)
        refine AW.st (by simp [dU, dS, dNum, bs_size, h1, h1']; rfl) ?_
        clear hK' K'
        refine AW_cond false rfl (fun h => by cases h) (fun _ => ?_)
        refine AW_skip (hK1 _ ?_)
        refine AW_rg (tyOf_good _) [1, 2, 7, 8] [7] (fun _ _ => trivial) fun K' hK' => ?_
        repeat (refine sxf_next fun K2 hK2 => ?_; simp [dU, dS, dNum]; (repeat (refine ⟨by omega, ?_⟩)); refine hK2 _ ?_; clear hK2 K2)
        refine sxf_next fun K2 hK2 => ?_
        simp [dU, dS, dNum]
        refine callK.data (hp) (by simp; rfl) (by first | exact D.leGo_refl _ | simp [takeMap, List.map_map, Function.comp_def, D.le, D.le.go, D.le_refl, D.leGo_refl, dU, dS, dNum]) ?_
        refine hK2 _ ?_
        clear hK2 K2
        simp only [putd, upd_lst]
        repeat (refine sxf_next fun K2 hK2 => ?_; simp [dU, dS, dNum]; (repeat (refine ⟨by omega, ?_⟩)); refine hK2 _ ?_; clear hK2 K2)
        refine sxf_nil (hK' _ ?_)
        refine AW.st (by simp [dU, dS, dNum]; rfl) ?_
        clear hK' K'
        refine AW.imp (Imp.freezeB 7 trivial) ?_
        refine AW.st (by simp [dU, dS, dNum]; rfl) ?_
        refine AW_then fun K2 hK2 => ?_
        refine AW_rg (tyOf_good _) [1, 2, 7, 30] [] (fun _ _ => trivial) fun K' hK' => ?_
        repeat (refine sxf_next fun K2 hK2 => ?_; simp [dU, dS, dNum]; (repeat (refine ⟨by omega, ?_⟩)); refine hK2 _ ?_; clear hK2 K2)
        refine sxf_next fun K2 hK2 => ?_
        simp [dU, dS, dNum]
        refine callK.data (hcov) (by simp; rfl) (by first | exact D.leGo_refl _ | simp [takeMap, List.map_map, Function.comp_def, D.le, D.le.go, D.le_refl, D.leGo_refl, dU, dS, dNum]) ?_
        refine hK2 _ ?_
        clear hK2 K2
        simp only [putd, upd_lst]
        repeat (refine sxf_next fun K2 hK2 => ?_; simp [dU, dS, dNum]; (repeat (refine ⟨by omega, ?_⟩)); refine hK2 _ ?_; clear hK2 K2)
        refine sxf_nil (hK' _ ?_)
        refine AW.st (by simp [dU, dS, dNum]; rfl) ?_
        clear hK' K'
        refine AW_cond false rfl (fun h => by cases h) (fun _ => ?_)
        refine AW_skip (hK2 _ ?_)
        refine AW_rg (tyOf_good _) [1, 2, 7, 8, 9] [] (fun _ _ => trivial) fun K' hK' => ?_
        repeat (refine sxf_next fun K2 hK2 => ?_; simp [dU, dS, dNum]; (repeat (refine ⟨by omega, ?_⟩)); refine hK2 _ ?_; clear hK2 K2)
        refine sxf_next fun K2 hK2 => ?_
        simp [dU, dS, dNum]
        refine callK.data (hpc) (by simp; rfl) (by first | exact D.leGo_refl _ | simp [takeMap, List.map_map, Function.comp_def, D.le, D.le.go, D.le_refl, D.leGo_refl, dU, dS, dNum]) ?_
        refine hK2 _ ?_
        clear hK2 K2
        simp only [putd, upd_lst]
        repeat (refine sxf_next fun K2 hK2 => ?_; simp [dU, dS, dNum]; (repeat (refine ⟨by omega, ?_⟩)); refine hK2 _ ?_; clear hK2 K2)
        refine sxf_nil (hK' _ ?_)
        refine AW.st (by simp [dU, dS, dNum]; rfl) ?_
        clear hK' K'
        refine AW_rg (tyOf_good _) [1, 2, 7, 8, 9, 10] [10] (fun _ _ => trivial) fun K' hK' => ?_
        repeat (refine sxf_next fun K2 hK2 => ?_; simp [dU, dS, dNum]; (repeat (refine ⟨by omega, ?_⟩)); refine hK2 _ ?_; clear hK2 K2)
        refine sxf_next fun K2 hK2 => ?_
        simp [dU, dS, dNum]
        refine callK.data (hns) (by simp; rfl) (by first | exact D.leGo_refl _ | simp [takeMap, List.map_map, Function.comp_def, D.le, D.le.go, D.le_refl, D.leGo_refl, dU, dS, dNum]) ?_
        refine hK2 _ ?_
        clear hK2 K2
        simp only [putd, upd_lst]
        repeat (refine sxf_next fun K2 hK2 => ?_; simp [dU, dS, dNum]; (repeat (refine ⟨by omega, ?_⟩)); refine hK2 _ ?_; clear hK2 K2)
        refine sxf_nil (hK' _ ?_)
        refine AW.st (by simp [dU, dS, dNum]; rfl) ?_
        clear hK' K'
        refine AW.imp (Imp.freezeB 10 trivial) ?_
        refine AW.st (by simp [dU, dS, dNum]; rfl) ?_
        refine AW_then fun K3 hK3 => ?_
        refine AW_rg (tyOf_good _) [1, 2, 7, 9, 10, 45] [] (fun _ _ => trivial) fun K' hK' => ?_
        repeat (refine sxf_next fun K2 hK2 => ?_; simp [dU, dS, dNum]; (repeat (refine ⟨by omega, ?_⟩)); refine hK2 _ ?_; clear hK2 K2)
        refine sxf_nil (hK' _ ?_)
        refine AW.st (by simp [dU, dS, dNum]; rfl) ?_
        clear hK' K'
        refine AW_cond true rfl (fun _ => ?_) (fun h => by cases h)
        refine AW_rg (tyOf_good _) [6] [] (fun _ _ => trivial) fun K' hK' => ?_
        repeat (refine sxf_next fun K2 hK2 => ?_; simp [dU, dS, dNum]; (repeat (refine ⟨by omega, ?_⟩)); refine hK2 _ ?_; clear hK2 K2)
        refine sxf_nil (hK' _ ?_)
        refine AW.st (by simp [dU, dS, dNum]; rfl) ?_
        clear hK' K'
        refine AW_ret ?_
        simp [D.le, D.le.go, takeMap, dU, dS, dNum]
      · have hpc := pairs_spec G e hwf (by omega) hE (by omega)
        have hN : ∀ s ∈ nmsE true e, s ∈ namesE true e := fun s hs => namesE_mem.2 hs
        have hsr := namesE_srt true e
        have hL8 : (pairsF (namesE true e) (saysB (namesE true e) e)).length ≤ (namesE true e).length := by
          rw [← pairsTo_all]; exact pairsTo_len _ _ _
        have hsay := fun y hy => csays_spec G (namesE true e) hsr (by omega) e hwf (by omega) hN y hy
        have hmem : ∀ q ∈ pairsF (namesE true e) (saysB (namesE true e) e), ∃ k, ∃ hk : k < (namesE true e).length, (namesE true e)[k] = q.1 ∧ offAt (saysB (namesE true e) e) (namesE true e).length k = some q.2 := fun q hq => pairsF_mem hq
        have hsh : ∀ k, k < (namesE true e).length → offAt (saysB (namesE true e) e) (namesE true e).length k = none → saysB (namesE true e) e (offB x k) = saysB (namesE true e) e (x ||| 2^k) := fun k hk h => shows_none hwf hN (by omega) hk h x
        have hall : ∀ k (hk : k < (namesE true e).length) y, offAt (saysB (namesE true e) e) (namesE true e).length k = some y → ((namesE true e)[k], y) ∈ pairsF (namesE true e) (saysB (namesE true e) e) := fun k hk y h => pairsF_hit hk h
        generalize namesE true e = ns at *
        generalize saysB ns e = f at *
        generalize pairsF ns f = L at *
        rw [hec] at hp hns hpc
        simp only [hec] at hsay
        simp only [dPairs] at hpc
        by_cases h0 : ns.length = 0
        · have hL0 : L = [] := List.length_eq_zero_iff.1 (by omega)
          have hn0 : ns = [] := List.length_eq_zero_iff.1 h0
          subst hL0
          subst hn0
          refine PureC.of_body (tyOf_good _) Tryd.func3 rfl rfl (rs := [.tmp 6]) Tryd.results3 (by simp [Tryd.ntmps3]) fun X => ?_
          simp only [Tryd.ntmps3, List.map]
          refine AW_rg (tyOf_good _) [0, 1, 2] [] (fun _ _ => trivial) fun K' hK' => ?_
          repeat (refine sxf_next fun K2 hK2 => ?_; simp [dU, dS, dNum]; (repeat (refine ⟨by omega, ?_⟩)); refine hK2 _ ?_; clear hK2 K2)
          refine sxf_nil (hK' _ ?_)
          refine AW.st (by simp [dU, dS, dNum]; rfl) ?_
          clear hK' K'
          refine AW_then fun K1 hK1 => ?_
          refine AW_rg (tyOf_good _) [0, 1, 2, 19] [] (fun _ _ => trivial) fun K' hK' => ?_
          repeat (refine sxf_next fun K2 hK2 => ?_; simp [dU, dS, dNum, bs_size, h1, h1']; (repeat (refine ⟨by omega, ?_⟩)); refine hK2 _ ?_; clear hK2 K2)
          refine sxf_nil (hK' _ ?_)
          refine AW.st (by simp [dU, dS, dNum, bs_size, h1, h1']; rfl) ?_
          clear hK' K'
          refine AW_cond false rfl (fun h => by cases h) (fun _ => ?_)
          refine AW_skip (hK1 _ ?_)
          refine AW_rg (tyOf_good _) [1, 2, 7, 8] [7] (fun _ _ => trivial) fun K' hK' => ?_
          repeat (refine sxf_next fun K2 hK2 => ?_; simp [dU, dS, dNum]; (repeat (refine ⟨by omega, ?_⟩)); refine hK2 _ ?_; clear hK2 K2)
          refine sxf_next fun K2 hK2 => ?_
          simp [dU, dS, dNum]
          refine callK.data (hp) (by simp; rfl) (by first | exact D.leGo_refl _ | simp [takeMap, List.map_map, Function.comp_def, D.le, D.le.go, D.le_refl, D.leGo_refl, dU, dS, dNum]) ?_
          refine hK2 _ ?_
          clear hK2 K2
          simp only [putd, upd_lst]
          repeat (refine sxf_next fun K2 hK2 => ?_; simp [dU, dS, dNum]; (repeat (refine ⟨by omega, ?_⟩)); refine hK2 _ ?_; clear hK2 K2)
          refine sxf_nil (hK' _ ?_)
          refine AW.st (by simp [dU, dS, dNum]; rfl) ?_
          clear hK' K'
          refine AW.imp (Imp.freezeB 7 trivial) ?_
          refine AW.st (by simp [dU, dS, dNum]; rfl) ?_
          refine AW_then fun K2 hK2 => ?_
          refine AW_rg (tyOf_good _) [1, 2, 7, 30] [] (fun _ _ => trivial) fun K' hK' => ?_
          repeat (refine sxf_next fun K2 hK2 => ?_; simp [dU, dS, dNum]; (repeat (refine ⟨by omega, ?_⟩)); refine hK2 _ ?_; clear hK2 K2)
          refine sxf_next fun K2 hK2 => ?_
          simp [dU, dS, dNum]
          refine callK.data (hcov) (by simp; rfl) (by first | exact D.leGo_refl _ | simp [takeMap, List.map_map, Function.comp_def, D.le, D.le.go, D.le_refl, D.leGo_refl, dU, dS, dNum]) ?_
          refine hK2 _ ?_
          clear hK2 K2
          simp only [putd, upd_lst]
          repeat (refine sxf_next fun K2 hK2 => ?_; simp [dU, dS, dNum]; (repeat (refine ⟨by omega, ?_⟩)); refine hK2 _ ?_; clear hK2 K2)
          refine sxf_nil (hK' _ ?_)
          refine AW.st (by simp [dU, dS, dNum]; rfl) ?_
          clear hK' K'
          refine AW_cond false rfl (fun h => by cases h) (fun _ => ?_)
          refine AW_skip (hK2 _ ?_)
          refine AW_rg (tyOf_good _) [1, 2, 7, 8, 9] [] (fun _ _ => trivial) fun K' hK' => ?_
          repeat (refine sxf_next fun K2 hK2 => ?_; simp [dU, dS, dNum]; (repeat (refine ⟨by omega, ?_⟩)); refine hK2 _ ?_; clear hK2 K2)
          refine sxf_next fun K2 hK2 => ?_
          simp [dU, dS, dNum]
          refine callK.data (hpc) (by simp; rfl) (by first | exact D.leGo_refl _ | simp [takeMap, List.map_map, Function.comp_def, D.le, D.le.go, D.le_refl, D.leGo_refl, dU, dS, dNum]) ?_
          refine hK2 _ ?_
          clear hK2 K2
          simp only [putd, upd_lst]
          repeat (refine sxf_next fun K2 hK2 => ?_; simp [dU, dS, dNum]; (repeat (refine ⟨by omega, ?_⟩)); refine hK2 _ ?_; clear hK2 K2)
          refine sxf_nil (hK' _ ?_)
          refine AW.st (by simp [dU, dS, dNum]; rfl) ?_
          clear hK' K'
          refine AW_rg (tyOf_good _) [1, 2, 7, 8, 9, 10] [10] (fun _ _ => trivial) fun K' hK' => ?_
          repeat (refine sxf_next fun K2 hK2 => ?_; simp [dU, dS, dNum]; (repeat (refine ⟨by omega, ?_⟩)); refine hK2 _ ?_; clear hK2 K2)
          refine sxf_next fun K2 hK2 => ?_
          simp [dU, dS, dNum]
          refine callK.data (hns) (by simp; rfl) (by first | exact D.leGo_refl _ | simp [takeMap, List.map_map, Function.comp_def, D.le, D.le.go, D.le_refl, D.leGo_refl, dU, dS, dNum]) ?_
          refine hK2 _ ?_
          clear hK2 K2
          simp only [putd, upd_lst]
          repeat (refine sxf_next fun K2 hK2 => ?_; simp [dU, dS, dNum]; (repeat (refine ⟨by omega, ?_⟩)); refine hK2 _ ?_; clear hK2 K2)
          refine sxf_nil (hK' _ ?_)
          refine AW.st (by simp [dU, dS, dNum]; rfl) ?_
          clear hK' K'
          refine AW.imp (Imp.freezeB 10 trivial) ?_
          refine AW.st (by simp [dU, dS, dNum]; rfl) ?_
          refine AW_then fun K3 hK3 => ?_
          refine AW_rg (tyOf_good _) [1, 2, 7, 9, 10, 45] [] (fun _ _ => trivial) fun K' hK' => ?_
          repeat (refine sxf_next fun K2 hK2 => ?_; simp [dU, dS, dNum]; (repeat (refine ⟨by omega, ?_⟩)); refine hK2 _ ?_; clear hK2 K2)
          refine sxf_nil (hK' _ ?_)
          refine AW.st (by simp [dU, dS, dNum]; rfl) ?_
          clear hK' K'
          refine AW_cond true rfl (fun _ => ?_) (fun h => by cases h)
          refine AW_rg (tyOf_good _) [6] [] (fun _ _ => trivial) fun K' hK' => ?_
          repeat (refine sxf_next fun K2 hK2 => ?_; simp [dU, dS, dNum]; (repeat (refine ⟨by omega, ?_⟩)); refine hK2 _ ?_; clear hK2 K2)
          refine sxf_nil (hK' _ ?_)
          refine AW.st (by simp [dU, dS, dNum]; rfl) ?_
          clear hK' K'
          refine AW_ret ?_
          simp [D.le, D.le.go, takeMap, dU, dS, dNum]
        · obtain ⟨r, hr, hpk⟩ := pick_spec G p ns.length (by omega) (by omega)
          have h0' : ¬ (ns.length : Int) = 0 := by omega
          refine PureC.of_body (tyOf_good _) Tryd.func3 rfl rfl (rs := [.tmp 6]) Tryd.results3 (by simp [Tryd.ntmps3]) fun X => ?_
          simp only [Tryd.ntmps3, List.map]
          refine AW_rg (tyOf_good _) [0, 1, 2] [] (fun _ _ => trivial) fun K' hK' => ?_
          repeat (refine sxf_next fun K2 hK2 => ?_; simp [dU, dS, dNum]; (repeat (refine ⟨by omega, ?_⟩)); refine hK2 _ ?_; clear hK2 K2)
          refine sxf_nil (hK' _ ?_)
          refine AW.st (by simp [dU, dS, dNum]; rfl) ?_
          clear hK' K'
          refine AW_then fun K1 hK1 => ?_
          refine AW_rg (tyOf_good _) [0, 1, 2, 19] [] (fun _ _ => trivial) fun K' hK' => ?_
          repeat (refine sxf_next fun K2 hK2 => ?_; simp [dU, dS, dNum, bs_size, h1, h1']; (repeat (refine ⟨by omega, ?_⟩)); refine hK2 _ ?_; clear hK2 K2)
          refine sxf_nil (hK' _ ?_)
          refine AW.st (by simp [dU, dS, dNum, bs_size, h1, h1']; rfl) ?_
          clear hK' K'
          refine AW_cond false rfl (fun h => by cases h) (fun _ => ?_)
          refine AW_skip (hK1 _ ?_)
          refine AW_rg (tyOf_good _) [1, 2, 7, 8] [7] (fun _ _ => trivial) fun K' hK' => ?_
          repeat (refine sxf_next fun K2 hK2 => ?_; simp [dU, dS, dNum]; (repeat (refine ⟨by omega, ?_⟩)); refine hK2 _ ?_; clear hK2 K2)
          refine sxf_next fun K2 hK2 => ?_
          simp [dU, dS, dNum]
          refine callK.data (hp) (by simp; rfl) (by first | exact D.leGo_refl _ | simp [takeMap, List.map_map, Function.comp_def, D.le, D.le.go, D.le_refl, D.leGo_refl, dU, dS, dNum]) ?_
          refine hK2 _ ?_
          clear hK2 K2
          simp only [putd, upd_lst]
          repeat (refine sxf_next fun K2 hK2 => ?_; simp [dU, dS, dNum]; (repeat (refine ⟨by omega, ?_⟩)); refine hK2 _ ?_; clear hK2 K2)
          refine sxf_nil (hK' _ ?_)
          refine AW.st (by simp [dU, dS, dNum]; rfl) ?_
          clear hK' K'
          refine AW.imp (Imp.freezeB 7 trivial) ?_
          refine AW.st (by simp [dU, dS, dNum]; rfl) ?_
          refine AW_then fun K2 hK2 => ?_
          refine AW_rg (tyOf_good _) [1, 2, 7, 30] [] (fun _ _ => trivial) fun K' hK' => ?_
          repeat (refine sxf_next fun K2 hK2 => ?_; simp [dU, dS, dNum]; (repeat (refine ⟨by omega, ?_⟩)); refine hK2 _ ?_; clear hK2 K2)
          refine sxf_next fun K2 hK2 => ?_
          simp [dU, dS, dNum]
          refine callK.data (hcov) (by simp; rfl) (by first | exact D.leGo_refl _ | simp [takeMap, List.map_map, Function.comp_def, D.le, D.le.go, D.le_refl, D.leGo_refl, dU, dS, dNum]) ?_
          refine hK2 _ ?_
          clear hK2 K2
          simp only [putd, upd_lst]
          repeat (refine sxf_next fun K2 hK2 => ?_; simp [dU, dS, dNum]; (repeat (refine ⟨by omega, ?_⟩)); refine hK2 _ ?_; clear hK2 K2)
          refine sxf_nil (hK' _ ?_)
          refine AW.st (by simp [dU, dS, dNum]; rfl) ?_
          clear hK' K'
          refine AW_cond false rfl (fun h => by cases h) (fun _ => ?_)
          refine AW_skip (hK2 _ ?_)
          refine AW_rg (tyOf_good _) [1, 2, 7, 8, 9] [] (fun _ _ => trivial) fun K' hK' => ?_
          repeat (refine sxf_next fun K2 hK2 => ?_; simp [dU, dS, dNum]; (repeat (refine ⟨by omega, ?_⟩)); refine hK2 _ ?_; clear hK2 K2)
          refine sxf_next fun K2 hK2 => ?_
          simp [dU, dS, dNum]
          refine callK.data (hpc) (by simp; rfl) (by first | exact D.leGo_refl _ | simp [takeMap, List.map_map, Function.comp_def, D.le, D.le.go, D.le_refl, D.leGo_refl, dU, dS, dNum]) ?_
          refine hK2 _ ?_
          clear hK2 K2
          simp only [putd, upd_lst]
          repeat (refine sxf_next fun K2 hK2 => ?_; simp [dU, dS, dNum]; (repeat (refine ⟨by omega, ?_⟩)); refine hK2 _ ?_; clear hK2 K2)
          refine sxf_nil (hK' _ ?_)
          refine AW.st (by simp [dU, dS, dNum]; rfl) ?_
          clear hK' K'
          refine AW_rg (tyOf_good _) [1, 2, 7, 8, 9, 10] [10] (fun _ _ => trivial) fun K' hK' => ?_
          repeat (refine sxf_next fun K2 hK2 => ?_; simp [dU, dS, dNum]; (repeat (refine ⟨by omega, ?_⟩)); refine hK2 _ ?_; clear hK2 K2)
          refine sxf_next fun K2 hK2 => ?_
          simp [dU, dS, dNum]
          refine callK.data (hns) (by simp; rfl) (by first | exact D.leGo_refl _ | simp [takeMap, List.map_map, Function.comp_def, D.le, D.le.go, D.le_refl, D.leGo_refl, dU, dS, dNum]) ?_
          refine hK2 _ ?_
          clear hK2 K2
          simp only [putd, upd_lst]
          repeat (refine sxf_next fun K2 hK2 => ?_; simp [dU, dS, dNum]; (repeat (refine ⟨by omega, ?_⟩)); refine hK2 _ ?_; clear hK2 K2)
          refine sxf_nil (hK' _ ?_)
          refine AW.st (by simp [dU, dS, dNum]; rfl) ?_
          clear hK' K'
          refine AW.imp (Imp.freezeB 10 trivial) ?_
          refine AW.st (by simp [dU, dS, dNum]; rfl) ?_
          refine AW_then fun K3 hK3 => ?_
          refine AW_rg (tyOf_good _) [1, 2, 7, 9, 10, 45] [] (fun _ _ => trivial) fun K' hK' => ?_
          repeat (refine sxf_next fun K2 hK2 => ?_; simp [dU, dS, dNum, h0, h0']; (repeat (refine ⟨by omega, ?_⟩)); refine hK2 _ ?_; clear hK2 K2)
          refine sxf_nil (hK' _ ?_)
          refine AW.st (by simp [dU, dS, dNum, h0, h0']; rfl) ?_
          clear hK' K'
          refine AW_cond false (by simp [h0, h0']) (fun h => by cases h) (fun _ => ?_)
          refine AW_skip (hK3 _ ?_)
          refine AW_rg (tyOf_good _) [1, 2, 9, 10, 11] [] (fun _ _ => trivial) fun K' hK' => ?_
          repeat (refine sxf_next fun K2 hK2 => ?_; simp [dU, dS, dNum]; (repeat (refine ⟨by omega, ?_⟩)); refine hK2 _ ?_; clear hK2 K2)
          refine sxf_nil (hK' _ ?_)
          refine AW.st (by simp [dU, dS, dNum]; rfl) ?_
          clear hK' K'
          refine AW_rg (tyOf_good _) [1, 9, 10, 11, 12] [] (fun _ _ => trivial) fun K' hK' => ?_
          repeat (refine sxf_next fun K2 hK2 => ?_; simp [dU, dS, dNum]; (repeat (refine ⟨by omega, ?_⟩)); refine hK2 _ ?_; clear hK2 K2)
          refine sxf_next fun K2 hK2 => ?_
          simp [dU, dS, dNum]
          refine callK.data (hpk) (by simp; rfl) (by first | exact D.leGo_refl _ | simp [takeMap, List.map_map, Function.comp_def, D.le, D.le.go, D.le_refl, D.leGo_refl, dU, dS, dNum]) ?_
          refine hK2 _ ?_
          clear hK2 K2
          simp only [putd, upd_lst]
          repeat (refine sxf_next fun K2 hK2 => ?_; simp [dU, dS, dNum]; (repeat (refine ⟨by omega, ?_⟩)); refine hK2 _ ?_; clear hK2 K2)
          refine sxf_nil (hK' _ ?_)
          refine AW.st (by simp [dU, dS, dNum]; rfl) ?_
          clear hK' K'
          refine AW_rg (tyOf_good _) [1, 9, 10, 11, 12, 13] [] (fun _ _ => trivial) fun K' hK' => ?_
          repeat (refine sxf_next fun K2 hK2 => ?_; simp [dU, dS, dNum]; (repeat (refine ⟨by omega, ?_⟩)); refine hK2 _ ?_; clear hK2 K2)
          refine sxf_nil (hK' _ ?_)
          refine AW.st (by simp [dU, dS, dNum]; rfl) ?_
          clear hK' K'
          refine AW_then fun K4 hK4 => ?_
          refine AW_rg (tyOf_good _) [1, 9, 10, 11, 12, 13, 14] [] (fun _ _ => trivial) fun K' hK' => ?_
          repeat (refine sxf_next fun K2 hK2 => ?_; simp [dU, dS, dNum]; (repeat (refine ⟨by omega, ?_⟩)); refine hK2 _ ?_; clear hK2 K2)
          refine sxf_nil (hK' _ ?_)
          refine AW.st (by simp [dU, dS, dNum]; rfl) ?_
          clear hK' K'
          refine AW_for (S := Nat) (fun i => i ≤ L.length) (fun i => ⟨lst [(1, .d (dU x)), (9, .d (.sl none (L.map (dPair ns)))), (10, .d (.ip [.sl none (ns.map fun s => [dS s])])), (11, .d (.fn (.func 8) [.ip [.sl none (ns.map fun s => [dS s])], .ip [.ifc te ce]])), (12, int r), (13, .d (.v (.bool (hitT ns r L i)))), (14, int i)], hlst []⟩) (fun i => L.length - i) 0 ?_ (by omega) ?_
          · refine Imp.to' (fun _ _ => trivial) (by simp [dU, dS, dNum, hitT]) (by simp [dU, dS, dNum, hitT])
          · intro i hi
            refine AW_then fun K5 hK5 => ?_
            refine AW_rg (tyOf_good _) [1, 9, 10, 11, 12, 13, 14, 57] [] (fun _ _ => trivial) fun K' hK' => ?_
            repeat (refine sxf_next fun K2 hK2 => ?_; simp [dU, dS, dNum]; (repeat (refine ⟨by omega, ?_⟩)); refine hK2 _ ?_; clear hK2 K2)
            refine sxf_nil (hK' _ ?_)
            refine AW.st (by simp [dU, dS, dNum]; rfl) ?_
            clear hK' K'
            refine AW_cond' (b := i < L.length) (by simp [D.le, D.le.go, takeMap, dU, dS, dNum]) (fun hc => ?_) (fun hc => ?_)
            · have hil : i < L.length := hc
              have hsuc := hitT_succ ns r hil
              obtain ⟨k, hk, hks, hof⟩ := hmem L[i] (List.getElem_mem hil)
              obtain ⟨⟨s, o⟩, hpr⟩ : ∃ q, L[i] = q := ⟨_, rfl⟩
              rw [hpr] at hks hof hsuc
              dsimp only at hks hof hsuc
              have hix : ixT ns s = k := by rw [← hks]; exact ixT_self hsr hk
              rw [hix] at hsuc
              obtain ⟨ho1, ho2, ho3⟩ := offAt_some hof
              have h28 : (2:Nat)^ns.length ≤ 2^8 := Nat.pow_le_pow_right (by decide) (by omega)
              have horlt : o ||| 2^k < 2^8 := Nat.or_lt_two_pow (by omega) (Nat.pow_lt_pow_right (by decide) (by omega))
              have hc1 := hsay o (by omega)
              have hc2 := hsay (o ||| 2^k) (by omega)
              have hneg : f (o ||| 2^k) = !f o := by
                cases h1 : f o <;> cases h2 : f (o ||| 2^k) <;> simp [h1, h2] at ho3 ⊢
              rw [hneg] at hc2
              have hshm := shl_is k (by omega)
              have hor := or_is o k (by omega) (by omega)
              have hshr := shr_is o k (by omega)
              have hbt := and_is1 o k (by omega)
              rw [ho2] at hbt
              have hkn : ¬ k = ns.length := by omega
              have hkn' : ¬ (k : Int) = (ns.length : Int) := by omega
              refine AW_skip (hK5 _ ?_)
              refine AW_then fun K6 hK6 => ?_
              refine AW_block ?_
              refine AW_rg (tyOf_good _) [1, 9, 10, 11, 12, 13, 14, 15] [15] (fun _ _ => trivial) fun K' hK' => ?_
              repeat (refine sxf_next fun K2 hK2 => ?_; simp [dU, dS, dNum, hil, hpr, dPair, hix]; (repeat (refine ⟨by omega, ?_⟩)); refine hK2 _ ?_; clear hK2 K2)
              refine sxf_nil (hK' _ ?_)
              refine AW.st (by simp [dU, dS, dNum, hil, hpr, dPair, hix]; rfl) ?_
              clear hK' K'
              refine AW_rg (tyOf_good _) [1, 9, 10, 11, 12, 13, 14, 15, 16] [15] (fun _ _ => trivial) fun K' hK' => ?_
              repeat (refine sxf_next fun K2 hK2 => ?_; simp [dU, dS, dNum]; (repeat (refine ⟨by omega, ?_⟩)); refine hK2 _ ?_; clear hK2 K2)
              refine sxf_nil (hK' _ ?_)
              refine AW.st (by simp [dU, dS, dNum]; rfl) ?_
              clear hK' K'
              refine AW_then fun K7 hK7 => ?_
              refine AW_for (S := Nat) (fun j => j ≤ k) (fun j => ⟨lst [(1, .d (dU x)), (9, .d (.sl none (L.map (dPair ns)))), (10, .d (.ip [.sl none (ns.map fun s => [dS s])])), (11, .d (.fn (.func 8) [.ip [.sl none (ns.map fun s => [dS s])], .ip [.ifc te ce]])), (12, int r), (13, .d (.v (.bool (hitT ns r L i)))), (14, int i), (15, .ref 15 0 0), (16, int j)], hlst [(15, .box 41 [.d (dS s), .d (dU o), .d (dU (o ||| 2^k))])]⟩) (fun j => k - j) 0 ?_ (by omega) ?_
              · refine Imp.to' (fun _ _ => trivial) (by simp [dU, dS, dNum]) (by simp [dU, dS, dNum])
              · intro j hj
                have hjn : j < ns.length := by omega
                refine AW_then fun K8 hK8 => ?_
                by_cases hjk : j = k
                · subst hjk
                  refine AW_rd (tyOf_good _) (by kernel_rfl) [1, 9, 10, 11, 12, 13, 14, 15, 16, 76] [15] (fun _ _ => trivial) (by kernel_rfl) fun K' hK' => ?_
                  repeat (refine sxd_next fun K2 hK2 => ?_; simp [dU, dS, dNum, hjn, hks, binS, bs_list]; (repeat (refine ⟨by omega, ?_⟩)); refine hK2 _ ?_; clear hK2 K2)
                  refine sxd_nil (hK' _ ?_)
                  refine AW.st (by simp [dU, dS, dNum, hjn, hks, binS, bs_list]; rfl) ?_
                  clear hK' K'
                  refine AW_cond false (by simp) (fun h => by cases h) (fun _ => ?_)
                  refine AW_exit (hK7 _ ?_)
                  refine AW_then fun K9 hK9 => ?_
                  refine AW_rd (tyOf_good _) (by kernel_rfl) [1, 9, 10, 11, 12, 13, 14, 16, 111] [15] (fun _ _ => trivial) (by kernel_rfl) fun K' hK' => ?_
                  repeat (refine sxd_next fun K2 hK2 => ?_; simp [dU, dS, dNum, hkn, hkn', shI, hshm, hor, hshr, hbt]; (repeat (refine ⟨by omega, ?_⟩)); refine hK2 _ ?_; clear hK2 K2)
                  refine sxd_next fun K2 hK2 => ?_
                  simp [dU, dS, dNum, hkn, hkn', shI, hshm, hor, hshr, hbt]
                  refine callQ.data (hc2) (by simp; rfl) (by simp; rfl) (by first | exact D.leGo_refl _ | simp [takeMap, List.map_map, Function.comp_def, D.le, D.le.go, D.le_refl, D.leGo_refl, dU, dS, dNum, hkn, hkn', shI, hshm, hor, hshr, hbt]) ?_
                  refine hK2 _ ?_
                  clear hK2 K2
                  simp only [putd, upd_lst]
                  repeat (refine sxd_next fun K2 hK2 => ?_; simp [dU, dS, dNum, hkn, hkn', shI, hshm, hor, hshr, hbt]; (repeat (refine ⟨by omega, ?_⟩)); refine hK2 _ ?_; clear hK2 K2)
                  refine sxd_next fun K2 hK2 => ?_
                  simp [dU, dS, dNum, hkn, hkn', shI, hshm, hor, hshr, hbt]
                  refine callQ.data (hc1) (by simp; rfl) (by simp; rfl) (by first | exact D.leGo_refl _ | simp [takeMap, List.map_map, Function.comp_def, D.le, D.le.go, D.le_refl, D.leGo_refl, dU, dS, dNum, hkn, hkn', shI, hshm, hor, hshr, hbt]) ?_
                  refine hK2 _ ?_
                  clear hK2 K2
                  simp only [putd, upd_lst]
                  repeat (refine sxd_next fun K2 hK2 => ?_; simp [dU, dS, dNum, hkn, hkn', shI, hshm, hor, hshr, hbt]; (repeat (refine ⟨by omega, ?_⟩)); refine hK2 _ ?_; clear hK2 K2)
                  refine sxd_nil (hK' _ ?_)
                  refine AW.st (by simp [dU, dS, dNum, hkn, hkn', shI, hshm, hor, hshr, hbt]; rfl) ?_
                  clear hK' K'
                  refine AW_cond false (by simp) (fun h => by cases h) (fun _ => ?_)
                  refine AW_skip (hK9 _ ?_)
                  cases hh : hitT ns r L i with
                  | true =>
                    rw [hh] at hsuc
                    refine AW_re (tyOf_good _) fun K' hK' => ?_
                    repeat (refine sxf_next fun K2 hK2 => ?_; simp [dU, dS, dNum]; (repeat (refine ⟨by omega, ?_⟩)); refine hK2 _ ?_; clear hK2 K2)
                    refine sxf_nil (hK' _ ?_)
                    clear hK' K'
                    refine hK6 _ (AW.norm [1, 9, 10, 11, 12, 13, 14] [] (fun _ _ => trivial) (AW.st (by simp [dU, dS, dNum]; rfl) ?_))
                    refine AW_re (tyOf_good _) fun K' hK' => ?_
                    repeat (refine sxf_next fun K2 hK2 => ?_; simp [dU, dS, dNum]; (repeat (refine ⟨by omega, ?_⟩)); refine hK2 _ ?_; clear hK2 K2)
                    refine sxf_nil (hK' _ ?_)
                    clear hK' K'
                    try simp only [thn, inb]
                    refine Again.mk (i + 1) (by omega) (by omega) ?_
                    refine Imp.to' (fun _ _ => trivial) (by simp [dU, dS, dNum, hsuc]) (by simp [dU, dS, dNum, hsuc])
                  | false =>
                    have hbd : (j == r) = decide (j = r) := by by_cases h : j = r <;> simp [h]
                    rw [hh, hbd] at hsuc
                    have hrk : decide ((j : Int) = (r : Int)) = decide (j = r) := by
                      by_cases h : j = r <;> simp [h] <;> omega
                    refine AW_re (tyOf_good _) fun K' hK' => ?_
                    repeat (refine sxf_next fun K2 hK2 => ?_; simp [dU, dS, dNum, hrk]; (repeat (refine ⟨by omega, ?_⟩)); refine hK2 _ ?_; clear hK2 K2)
                    refine sxf_nil (hK' _ ?_)
                    clear hK' K'
                    refine hK6 _ (AW.norm [1, 9, 10, 11, 12, 13, 14] [] (fun _ _ => trivial) (AW.st (by simp [dU, dS, dNum, hrk]; rfl) ?_))
                    refine AW_re (tyOf_good _) fun K' hK' => ?_
                    repeat (refine sxf_next fun K2 hK2 => ?_; simp [dU, dS, dNum]; (repeat (refine ⟨by omega, ?_⟩)); refine hK2 _ ?_; clear hK2 K2)
                    refine sxf_nil (hK' _ ?_)
                    clear hK' K'
                    try simp only [thn, inb]
                    refine Again.mk (i + 1) (by omega) (by omega) ?_
                    refine Imp.to' (fun _ _ => trivial) (by simp [dU, dS, dNum, hsuc]) (by simp [dU, dS, dNum, hsuc])
                · have hne : ns[j] ≠ s := fun h => by
                    have := ixT_self hsr hjn
                    rw [h, hix] at this
                    exact hjk this.symm
                  refine AW_rd (tyOf_good _) (by kernel_rfl) [1, 9, 10, 11, 12, 13, 14, 15, 16, 76] [15] (fun _ _ => trivial) (by kernel_rfl) fun K' hK' => ?_
                  repeat (refine sxd_next fun K2 hK2 => ?_; simp [dU, dS, dNum, hjn, binS, bs_list, hne]; (repeat (refine ⟨by omega, ?_⟩)); refine hK2 _ ?_; clear hK2 K2)
                  refine sxd_nil (hK' _ ?_)
                  refine AW.st (by simp [dU, dS, dNum, hjn, binS, bs_list, hne]; rfl) ?_
                  clear hK' K'
                  refine AW_cond true (by simp [hne]) (fun _ => ?_) (fun h => by cases h)
                  refine AW_skip (hK8 _ ?_)
                  refine AW_block ?_
                  refine AW_re (tyOf_good _) fun K' hK' => ?_
                  repeat (refine sxf_next fun K2 hK2 => ?_; simp [dU, dS, dNum]; (repeat (refine ⟨by omega, ?_⟩)); refine hK2 _ ?_; clear hK2 K2)
                  refine sxf_nil (hK' _ ?_)
                  clear hK' K'
                  try simp only [thn, inb]
                  refine Again.mk (j + 1) (by omega) (by omega) ?_
                  refine Imp.to' (fun _ _ => trivial) (by simp [dU, dS, dNum]) (by simp [dU, dS, dNum])
            · obtain rfl : i = L.length := by omega
              refine AW_exit (hK4 _ ?_)
              cases hh : hitT ns r L L.length with
              | true =>
                refine AW_rd (tyOf_good _) (by kernel_rfl) [6] [] (fun _ _ => trivial) (by kernel_rfl) fun K' hK' => ?_
                repeat (refine sxd_next fun K2 hK2 => ?_; simp [dU, dS, dNum]; (repeat (refine ⟨by omega, ?_⟩)); refine hK2 _ ?_; clear hK2 K2)
                refine sxd_nil (hK' _ ?_)
                refine AW.st (by simp [dU, dS, dNum]; rfl) ?_
                clear hK' K'
                refine AW_ret ?_
                simp [D.le, D.le.go, takeMap, dU, dS, dNum]
              | false =>
                have hno : offAt f ns.length r = none := by
                  cases hq : offAt f ns.length r with
                  | none => rfl
                  | some y =>
                    have hm := hall r hr y hq
                    unfold hitT at hh
                    rw [List.take_length, List.any_eq_false] at hh
                    exact absurd (by simp [ixT_self hsr hr]) (hh _ hm)
                have heq := hsh r hr hno
                have hd1 := hsay (offB x r) (Nat.lt_of_le_of_lt Nat.and_le_left hx)
                have hd2 := hsay (x ||| 2^r) (Nat.or_lt_two_pow hx (Nat.pow_lt_pow_right (by decide) (by omega)))
                rw [← heq] at hd2
                have hshr := shl_is r (by omega)
                have hor := or_is x r hx (by omega)
                have han : bitsI .andNot .u64 (x : Int) (2^r) = ((offB x r : Nat) : Int) := by
                  have := u_andnot x r hx (by omega)
                  simpa using this
                refine AW_rd (tyOf_good _) (by kernel_rfl) [6] [] (fun _ _ => trivial) (by kernel_rfl) fun K' hK' => ?_
                repeat (refine sxd_next fun K2 hK2 => ?_; simp [dU, dS, dNum, shI, hshr, hor, han]; (repeat (refine ⟨by omega, ?_⟩)); refine hK2 _ ?_; clear hK2 K2)
                refine sxd_next fun K2 hK2 => ?_
                simp [dU, dS, dNum, shI, hshr, hor, han]
                refine callQ.data (hd1) (by simp; rfl) (by simp; rfl) (by first | exact D.leGo_refl _ | simp [takeMap, List.map_map, Function.comp_def, D.le, D.le.go, D.le_refl, D.leGo_refl, dU, dS, dNum, shI, hshr, hor, han]) ?_
                refine hK2 _ ?_
                clear hK2 K2
                simp only [putd, upd_lst]
                repeat (refine sxd_next fun K2 hK2 => ?_; simp [dU, dS, dNum, shI, hshr, hor, han]; (repeat (refine ⟨by omega, ?_⟩)); refine hK2 _ ?_; clear hK2 K2)
                refine sxd_next fun K2 hK2 => ?_
                simp [dU, dS, dNum, shI, hshr, hor, han]
                refine callQ.data (hd2) (by simp; rfl) (by simp; rfl) (by first | exact D.leGo_refl _ | simp [takeMap, List.map_map, Function.comp_def, D.le, D.le.go, D.le_refl, D.leGo_refl, dU, dS, dNum, shI, hshr, hor, han]) ?_
                refine hK2 _ ?_
                clear hK2 K2
                simp only [putd, upd_lst]
                repeat (refine sxd_next fun K2 hK2 => ?_; simp [dU, dS, dNum, shI, hshr, hor, han]; (repeat (refine ⟨by omega, ?_⟩)); refine hK2 _ ?_; clear hK2 K2)
                refine sxd_nil (hK' _ ?_)
                refine AW.st (by simp [dU, dS, dNum, shI, hshr, hor, han]; rfl) ?_
                clear hK' K'
                refine AW_ret ?_
                simp [D.le, D.le.go, takeMap, dU, dS, dNum]
    · have hpc := pairs_edge G e (by omega) hE
      generalize namesE true e = ns at hns
      rw [hec] at hp hns hpc
      simp only [dErr] at hpc
      refine PureC.of_body (tyOf_good _) Tryd.func3 rfl rfl (rs := [.tmp 6]) Tryd.results3 (by simp [Tryd.ntmps3]) fun X => ?_
      simp only [Tryd.ntmps3, List.map]
      refine AW_rg (tyOf_good _) [0, 1, 2] [] (fun _ _ => trivial) fun K' hK' => ?_
      repeat (refine sxf_next fun K2 hK2 => ?_; simp [dU, dS, dNum]; (repeat (refine ⟨by omega, ?_⟩)); refine hK2 _ ?_; clear hK2 K2)
      refine sxf_nil (hK' _ ?_)
      refine AW.st (by simp [dU, dS, dNum]; rfl) ?_
      clear hK' K'
      refine AW_then fun K1 hK1 => ?_
      refine AW_rg (tyOf_good _) [0, 1, 2, 19] [] (fun _ _ => trivial) fun K' hK' => ?_
      repeat (refine sxf_next fun K2 hK2 => ?_; simp [dU, dS, dNum, bs_size, h1, h1']; (repeat (refine ⟨by omega, ?_⟩)); refine hK2 _ ?_; clear hK2 K2)
      refine sxf_nil (hK' _ ?_)
      refine AW.st (by simp [dU, dS, dNum, bs_size, h1, h1']; rfl) ?_
      clear hK' K'
      refine AW_cond false rfl (fun h => by cases h) (fun _ => ?_)
      refine AW_skip (hK1 _ ?_)
      refine AW_rg (tyOf_good _) [1, 2, 7, 8] [7] (fun _ _ => trivial) fun K' hK' => ?_
      repeat (refine sxf_next fun K2 hK2 => ?_; simp [dU, dS, dNum]; (repeat (refine ⟨by omega, ?_⟩)); refine hK2 _ ?_; clear hK2 K2)
      refine sxf_next fun K2 hK2 => ?_
      simp [dU, dS, dNum]
      refine callK.data (hp) (by simp; rfl) (by first | exact D.leGo_refl _ | simp [takeMap, List.map_map, Function.comp_def, D.le, D.le.go, D.le_refl, D.leGo_refl, dU, dS, dNum]) ?_
      refine hK2 _ ?_
      clear hK2 K2
      simp only [putd, upd_lst]
      repeat (refine sxf_next fun K2 hK2 => ?_; simp [dU, dS, dNum]; (repeat (refine ⟨by omega, ?_⟩)); refine hK2 _ ?_; clear hK2 K2)
      refine sxf_nil (hK' _ ?_)
      refine AW.st (by simp [dU, dS, dNum]; rfl) ?_
      clear hK' K'
      refine AW.imp (Imp.freezeB 7 trivial) ?_
      refine AW.st (by simp [dU, dS, dNum]; rfl) ?_
      refine AW_then fun K2 hK2 => ?_
      refine AW_rg (tyOf_good _) [1, 2, 7, 30] [] (fun _ _ => trivial) fun K' hK' => ?_
      repeat (refine sxf_next fun K2 hK2 => ?_; simp [dU, dS, dNum]; (repeat (refine ⟨by omega, ?_⟩)); refine hK2 _ ?_; clear hK2 K2)
      refine sxf_next fun K2 hK2 => ?_
      simp [dU, dS, dNum]
      refine callK.data (hcov) (by simp; rfl) (by first | exact D.leGo_refl _ | simp [takeMap, List.map_map, Function.comp_def, D.le, D.le.go, D.le_refl, D.leGo_refl, dU, dS, dNum]) ?_
      refine hK2 _ ?_
      clear hK2 K2
      simp only [putd, upd_lst]
      repeat (refine sxf_next fun K2 hK2 => ?_; simp [dU, dS, dNum]; (repeat (refine ⟨by omega, ?_⟩)); refine hK2 _ ?_; clear hK2 K2)
      refine sxf_nil (hK' _ ?_)
      refine AW.st (by simp [dU, dS, dNum]; rfl) ?_
      clear hK' K'
      refine AW_cond false rfl (fun h => by cases h) (fun _ => ?_)
      refine AW_skip (hK2 _ ?_)
      refine AW_rg (tyOf_good _) [1, 2, 7, 8, 9] [] (fun _ _ => trivial) fun K' hK' => ?_
      repeat (refine sxf_next fun K2 hK2 => ?_; simp [dU, dS, dNum]; (repeat (refine ⟨by omega, ?_⟩)); refine hK2 _ ?_; clear hK2 K2)
      refine sxf_next fun K2 hK2 => ?_
      simp [dU, dS, dNum]
      refine callK.data (hpc) (by simp; rfl) (by first | exact D.leGo_refl _ | simp [takeMap, List.map_map, Function.comp_def, D.le, D.le.go, D.le_refl, D.leGo_refl, dU, dS, dNum]) ?_
      refine hK2 _ ?_
      clear hK2 K2
      simp only [putd, upd_lst]
      repeat (refine sxf_next fun K2 hK2 => ?_; simp [dU, dS, dNum]; (repeat (refine ⟨by omega, ?_⟩)); refine hK2 _ ?_; clear hK2 K2)
      refine sxf_nil (hK' _ ?_)
      refine AW.st (by simp [dU, dS, dNum]; rfl) ?_
      clear hK' K'
      refine AW_rg (tyOf_good _) [1, 2, 7, 8, 9, 10] [10] (fun _ _ => trivial) fun K' hK' => ?_
      repeat (refine sxf_next fun K2 hK2 => ?_; simp [dU, dS, dNum]; (repeat (refine ⟨by omega, ?_⟩)); refine hK2 _ ?_; clear hK2 K2)
      refine sxf_next fun K2 hK2 => ?_
      simp [dU, dS, dNum]
      refine callK.data (hns) (by simp; rfl) (by first | exact D.leGo_refl _ | simp [takeMap, List.map_map, Function.comp_def, D.le, D.le.go, D.le_refl, D.leGo_refl, dU, dS, dNum]) ?_
      refine hK2 _ ?_
      clear hK2 K2
      simp only [putd, upd_lst]
      repeat (refine sxf_next fun K2 hK2 => ?_; simp [dU, dS, dNum]; (repeat (refine ⟨by omega, ?_⟩)); refine hK2 _ ?_; clear hK2 K2)
      refine sxf_nil (hK' _ ?_)
      refine AW.st (by simp [dU, dS, dNum]; rfl) ?_
      clear hK' K'
      refine AW.imp (Imp.freezeB 10 trivial) ?_
      refine AW.st (by simp [dU, dS, dNum]; rfl) ?_
      refine AW_then fun K3 hK3 => ?_
      refine AW_rg (tyOf_good _) [1, 2, 7, 9, 10, 45] [] (fun _ _ => trivial) fun K' hK' => ?_
      repeat (refine sxf_next fun K2 hK2 => ?_; simp [dU, dS, dNum]; (repeat (refine ⟨by omega, ?_⟩)); refine hK2 _ ?_; clear hK2 K2)
      refine sxf_nil (hK' _ ?_)
      refine AW.st (by simp [dU, dS, dNum]; rfl) ?_
      clear hK' K'
      refine AW_cond true rfl (fun _ => ?_) (fun h => by cases h)
      refine AW_rg (tyOf_good _) [6] [] (fun _ _ => trivial) fun K' hK' => ?_
      repeat (refine sxf_next fun K2 hK2 => ?_; simp [dU, dS, dNum]; (repeat (refine ⟨by omega, ?_⟩)); refine hK2 _ ?_; clear hK2 K2)
      refine sxf_nil (hK' _ ?_)
      refine AW.st (by simp [dU, dS, dNum]; rfl) ?_
      clear hK' K'
      refine AW_ret ?_
      simp [D.le, D.le.go, takeMap, dU, dS, dNum]
end Go.Proofs.YtagfbbnlbncjlaaDoor

/-
  Tables, as they are read.
-/
namespace Go.Proofs.YtagfbbnlbncjlaaDoor
set_option linter.unusedSimpArgs false
set_option linter.unusedVariables false
open Go.Av Go.ChangeShapes Go.WideShapes Go.ChangeAt Go.RowKit

theorem law_own : ownKnob Tryd.prog.godebug = none := by kernel_rfl
theorem law_laidOut : laidOutB Tryd.prog = true := by kernel_rfl
section
variable {H : Type} {enc : TypeId × Value → H} {w : World} {base : Nat} {spare : Nat → Bool} {held : Bool} {X : Nat → Prop}

end

end Go.Proofs.YtagfbbnlbncjlaaDoor
