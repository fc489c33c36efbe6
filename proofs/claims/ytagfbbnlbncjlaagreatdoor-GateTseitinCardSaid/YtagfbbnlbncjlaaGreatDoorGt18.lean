/-
  Texts that belong together, in one file: W2, U2, A7, V6, V8, W3, C1, P12, PG, PG2, PG3, PG4, S1, S2.
-/
import Derived.Test.YtagfbbnlbncjlaaGreatDoorGt17
/-
  The names of an expression: walk, sorted, Names, Edges.
-/
namespace Go.Proofs.YtagfbbnlbncjlaaGreatDoor
set_option linter.unusedSimpArgs false
set_option linter.unusedVariables false
open Go.Av

/-- What a contact names; all: bits, too. -/
def nmE (all : Bool) : Ex → List UInt8
  | .bit s => if all then s else []
  | .rise s => s
  | .fall s => s
  | _ => []
def one1 (s : List UInt8) : List (List UInt8) := if s = [] then [] else [s]
mutual
def nmsE (all : Bool) : Ex → List (List UInt8)
  | .not e => nmsE all e
  | .and l => nmsL all l
  | .or l => nmsL all l
  | e => one1 (nmE all e)
def nmsL (all : Bool) : List Ex → List (List UInt8)
  | [] => []
  | e :: l => nmsE all e ++ nmsL all l
end
theorem nmsL_app (all : Bool) : ∀ a b : List Ex, nmsL all (a ++ b) = nmsL all a ++ nmsL all b
  | [], b => rfl
  | e :: a, b => by simp [nmsL, nmsL_app all a b]
theorem nmsL_take (all : Bool) {l : List Ex} {i : Nat} (hi : i < l.length) : nmsL all (l.take (i + 1)) = nmsL all (l.take i) ++ nmsE all l[i] := by
  rw [List.take_succ_eq_append_getElem hi, nmsL_app]
  simp [nmsL]
theorem nms_b (all : Bool) : ∀ (n : Nat) (e : Ex), SizeOf.sizeOf e ≤ n → (nmsE all e).length ≤ bE e
  | 0, e, hn => by cases e <;> simp at hn
  | n + 1, e, hn => by
    have many : ∀ l : List Ex, (∀ x ∈ l, SizeOf.sizeOf x ≤ n) → (nmsL all l).length ≤ bEs l := by
      intro l
      induction l with
      | nil => intro _; simp [nmsL]
      | cons x l ih =>
        intro h
        have a := ih fun y hy => h y (by simp [hy])
        have b := nms_b all n x (h x (by simp))
        simp only [nmsL, bEs, List.length_append]
        omega
    have hone : ∀ s, (one1 s).length ≤ 1 := fun s => by unfold one1; split <;> simp
    have hp := bE_pos e
    cases e with
    | not x => have := nms_b all n x (by simp at hn; omega); simp only [nmsE, bE]; omega
    | and l =>
      have := many l fun x hx => by have := List.sizeOf_lt_of_mem hx; simp only [Ex.and.sizeOf_spec] at hn; omega
      simp only [nmsE, bE]; omega
    | or l =>
      have := many l fun x hx => by have := List.sizeOf_lt_of_mem hx; simp only [Ex.or.sizeOf_spec] at hn; omega
      simp only [nmsE, bE]; omega
    | cst b => have := hone (nmE all (.cst b)); simp only [nmsE]; omega
    | bit s => have := hone (nmE all (.bit s)); simp only [nmsE]; omega
    | rise s => have := hone (nmE all (.rise s)); simp only [nmsE]; omega
    | fall s => have := hone (nmE all (.fall s)); simp only [nmsE]; omega
theorem nms_len (all : Bool) (e : Ex) : (nmsE all e).length ≤ bE e := nms_b all _ e (Nat.le_refl _)
theorem nmsL_len (all : Bool) : ∀ l : List Ex, (nmsL all l).length ≤ bEs l
  | [] => by simp [nmsL]
  | e :: l => by have := nms_len all e; have := nmsL_len all l; simp only [nmsL, bEs, List.length_append]; omega

/-- What is gathered. -/
def nRow (l : List (List UInt8)) : List (Nat × Row) := [(502, .box 34 [.own 503 0 l.length]), (503, .sl 9 1 (l.map fun s => [dS s]))]
def fnOf (all : Bool) : FuncId := if all then 50 else 51
set_option maxHeartbeats 8000000 in
theorem names1_spec (G : Glob) (e : Ex) : PureC Tryz.prog G 50 [dE e] (dS (nmE true e)) := by
  by_cases h1 : ∃ s, e = .bit s
  · obtain ⟨s, rfl⟩ := h1
    rw [dE]
    refine PureC.of_body (tyOf_good _) Tryz.func50 rfl rfl (rs := [.tmp 2]) Tryz.results50 (by simp [Tryz.ntmps50]) fun X => ?_
    simp only [Tryz.ntmps50, List.map]
    refine AW_rg (tyOf_good _) [0] [] (fun _ _ => trivial) fun K' hK' => ?_
    repeat (refine sxf_next fun K2 hK2 => ?_; simp [dNum, dS, pairA, assertA]; (repeat (refine ⟨by omega, ?_⟩)); refine hK2 _ ?_; clear hK2 K2)
    refine sxf_nil (hK' _ ?_)
    refine AW.st (by simp [dNum, dS, pairA, assertA]; rfl) ?_
    clear hK' K'
    refine AW_then fun K1 hK1 => ?_
    refine AW_rg (tyOf_good _) [6] [] (fun _ _ => trivial) fun K' hK' => ?_
    repeat (refine sxf_next fun K2 hK2 => ?_; simp [dNum, dS, pairA, assertA]; (repeat (refine ⟨by omega, ?_⟩)); refine hK2 _ ?_; clear hK2 K2)
    refine sxf_nil (hK' _ ?_)
    refine AW.st (by simp [dNum, dS, pairA, assertA]; rfl) ?_
    clear hK' K'
    refine AW_block ?_
    refine AW_rg (tyOf_good _) [6, 8, 9] [] (fun _ _ => trivial) fun K' hK' => ?_
    repeat (refine sxf_next fun K2 hK2 => ?_; simp [dNum, dS, pairA, assertA]; (repeat (refine ⟨by omega, ?_⟩)); refine hK2 _ ?_; clear hK2 K2)
    refine sxf_nil (hK' _ ?_)
    refine AW.st (by simp [dNum, dS, pairA, assertA]; rfl) ?_
    clear hK' K'
    refine AW_cond true rfl (fun _ => ?_) (fun h => by cases h)
    refine AW_rg (tyOf_good _) [3] [] (fun _ _ => trivial) fun K' hK' => ?_
    repeat (refine sxf_next fun K2 hK2 => ?_; simp [dNum, dS, pairA, assertA]; (repeat (refine ⟨by omega, ?_⟩)); refine hK2 _ ?_; clear hK2 K2)
    refine sxf_nil (hK' _ ?_)
    refine AW.st (by simp [dNum, dS, pairA, assertA]; rfl) ?_
    clear hK' K'
    refine AW_rg (tyOf_good _) [2] [] (fun _ _ => trivial) fun K' hK' => ?_
    repeat (refine sxf_next fun K2 hK2 => ?_; simp [dNum, dS, pairA, assertA]; (repeat (refine ⟨by omega, ?_⟩)); refine hK2 _ ?_; clear hK2 K2)
    refine sxf_nil (hK' _ ?_)
    refine AW.st (by simp [dNum, dS, pairA, assertA]; rfl) ?_
    clear hK' K'
    refine AW_ret ?_
    simp [D.le, D.le.go, takeMap, dNum, dS, pairA, assertA, nmE, dS, D.le_refl]
  by_cases h2 : ∃ s, e = .rise s
  · obtain ⟨s, rfl⟩ := h2
    rw [dE]
    refine PureC.of_body (tyOf_good _) Tryz.func50 rfl rfl (rs := [.tmp 2]) Tryz.results50 (by simp [Tryz.ntmps50]) fun X => ?_
    simp only [Tryz.ntmps50, List.map]
    refine AW_rg (tyOf_good _) [0] [] (fun _ _ => trivial) fun K' hK' => ?_
    repeat (refine sxf_next fun K2 hK2 => ?_; simp [dNum, dS, pairA, assertA]; (repeat (refine ⟨by omega, ?_⟩)); refine hK2 _ ?_; clear hK2 K2)
    refine sxf_nil (hK' _ ?_)
    refine AW.st (by simp [dNum, dS, pairA, assertA]; rfl) ?_
    clear hK' K'
    refine AW_then fun K1 hK1 => ?_
    refine AW_rg (tyOf_good _) [6] [] (fun _ _ => trivial) fun K' hK' => ?_
    repeat (refine sxf_next fun K2 hK2 => ?_; simp [dNum, dS, pairA, assertA]; (repeat (refine ⟨by omega, ?_⟩)); refine hK2 _ ?_; clear hK2 K2)
    refine sxf_nil (hK' _ ?_)
    refine AW.st (by simp [dNum, dS, pairA, assertA]; rfl) ?_
    clear hK' K'
    refine AW_block ?_
    refine AW_rg (tyOf_good _) [6, 8, 9] [] (fun _ _ => trivial) fun K' hK' => ?_
    repeat (refine sxf_next fun K2 hK2 => ?_; simp [dNum, dS, pairA, assertA]; (repeat (refine ⟨by omega, ?_⟩)); refine hK2 _ ?_; clear hK2 K2)
    refine sxf_nil (hK' _ ?_)
    refine AW.st (by simp [dNum, dS, pairA, assertA]; rfl) ?_
    clear hK' K'
    refine AW_cond false rfl (fun h => by cases h) (fun _ => ?_)
    refine AW_rg (tyOf_good _) [6, 12, 13] [] (fun _ _ => trivial) fun K' hK' => ?_
    repeat (refine sxf_next fun K2 hK2 => ?_; simp [dNum, dS, pairA, assertA]; (repeat (refine ⟨by omega, ?_⟩)); refine hK2 _ ?_; clear hK2 K2)
    refine sxf_nil (hK' _ ?_)
    refine AW.st (by simp [dNum, dS, pairA, assertA]; rfl) ?_
    clear hK' K'
    refine AW_cond true rfl (fun _ => ?_) (fun h => by cases h)
    refine AW_rg (tyOf_good _) [4] [] (fun _ _ => trivial) fun K' hK' => ?_
    repeat (refine sxf_next fun K2 hK2 => ?_; simp [dNum, dS, pairA, assertA]; (repeat (refine ⟨by omega, ?_⟩)); refine hK2 _ ?_; clear hK2 K2)
    refine sxf_nil (hK' _ ?_)
    refine AW.st (by simp [dNum, dS, pairA, assertA]; rfl) ?_
    clear hK' K'
    refine AW_rg (tyOf_good _) [2] [] (fun _ _ => trivial) fun K' hK' => ?_
    repeat (refine sxf_next fun K2 hK2 => ?_; simp [dNum, dS, pairA, assertA]; (repeat (refine ⟨by omega, ?_⟩)); refine hK2 _ ?_; clear hK2 K2)
    refine sxf_nil (hK' _ ?_)
    refine AW.st (by simp [dNum, dS, pairA, assertA]; rfl) ?_
    clear hK' K'
    refine AW_ret ?_
    simp [D.le, D.le.go, takeMap, dNum, dS, pairA, assertA, nmE, dS, D.le_refl]
  by_cases h3 : ∃ s, e = .fall s
  · obtain ⟨s, rfl⟩ := h3
    rw [dE]
    refine PureC.of_body (tyOf_good _) Tryz.func50 rfl rfl (rs := [.tmp 2]) Tryz.results50 (by simp [Tryz.ntmps50]) fun X => ?_
    simp only [Tryz.ntmps50, List.map]
    refine AW_rg (tyOf_good _) [0] [] (fun _ _ => trivial) fun K' hK' => ?_
    repeat (refine sxf_next fun K2 hK2 => ?_; simp [dNum, dS, pairA, assertA]; (repeat (refine ⟨by omega, ?_⟩)); refine hK2 _ ?_; clear hK2 K2)
    refine sxf_nil (hK' _ ?_)
    refine AW.st (by simp [dNum, dS, pairA, assertA]; rfl) ?_
    clear hK' K'
    refine AW_then fun K1 hK1 => ?_
    refine AW_rg (tyOf_good _) [6] [] (fun _ _ => trivial) fun K' hK' => ?_
    repeat (refine sxf_next fun K2 hK2 => ?_; simp [dNum, dS, pairA, assertA]; (repeat (refine ⟨by omega, ?_⟩)); refine hK2 _ ?_; clear hK2 K2)
    refine sxf_nil (hK' _ ?_)
    refine AW.st (by simp [dNum, dS, pairA, assertA]; rfl) ?_
    clear hK' K'
    refine AW_block ?_
    refine AW_rg (tyOf_good _) [6, 8, 9] [] (fun _ _ => trivial) fun K' hK' => ?_
    repeat (refine sxf_next fun K2 hK2 => ?_; simp [dNum, dS, pairA, assertA]; (repeat (refine ⟨by omega, ?_⟩)); refine hK2 _ ?_; clear hK2 K2)
    refine sxf_nil (hK' _ ?_)
    refine AW.st (by simp [dNum, dS, pairA, assertA]; rfl) ?_
    clear hK' K'
    refine AW_cond false rfl (fun h => by cases h) (fun _ => ?_)
    refine AW_rg (tyOf_good _) [6, 12, 13] [] (fun _ _ => trivial) fun K' hK' => ?_
    repeat (refine sxf_next fun K2 hK2 => ?_; simp [dNum, dS, pairA, assertA]; (repeat (refine ⟨by omega, ?_⟩)); refine hK2 _ ?_; clear hK2 K2)
    refine sxf_nil (hK' _ ?_)
    refine AW.st (by simp [dNum, dS, pairA, assertA]; rfl) ?_
    clear hK' K'
    refine AW_cond false rfl (fun h => by cases h) (fun _ => ?_)
    refine AW_rg (tyOf_good _) [16, 17] [] (fun _ _ => trivial) fun K' hK' => ?_
    repeat (refine sxf_next fun K2 hK2 => ?_; simp [dNum, dS, pairA, assertA]; (repeat (refine ⟨by omega, ?_⟩)); refine hK2 _ ?_; clear hK2 K2)
    refine sxf_nil (hK' _ ?_)
    refine AW.st (by simp [dNum, dS, pairA, assertA]; rfl) ?_
    clear hK' K'
    refine AW_cond true rfl (fun _ => ?_) (fun h => by cases h)
    refine AW_rg (tyOf_good _) [5] [] (fun _ _ => trivial) fun K' hK' => ?_
    repeat (refine sxf_next fun K2 hK2 => ?_; simp [dNum, dS, pairA, assertA]; (repeat (refine ⟨by omega, ?_⟩)); refine hK2 _ ?_; clear hK2 K2)
    refine sxf_nil (hK' _ ?_)
    refine AW.st (by simp [dNum, dS, pairA, assertA]; rfl) ?_
    clear hK' K'
    refine AW_rg (tyOf_good _) [2] [] (fun _ _ => trivial) fun K' hK' => ?_
    repeat (refine sxf_next fun K2 hK2 => ?_; simp [dNum, dS, pairA, assertA]; (repeat (refine ⟨by omega, ?_⟩)); refine hK2 _ ?_; clear hK2 K2)
    refine sxf_nil (hK' _ ?_)
    refine AW.st (by simp [dNum, dS, pairA, assertA]; rfl) ?_
    clear hK' K'
    refine AW_ret ?_
    simp [D.le, D.le.go, takeMap, dNum, dS, pairA, assertA, nmE, dS, D.le_refl]
  have hk : ∃ t c, dE e = .ifc t c ∧ ¬ t = 98 ∧ ¬ t = 99 ∧ ¬ t = 100 ∧ nmE true e = [] := by
    cases e with
    | bit s => exact absurd ⟨s, rfl⟩ h1
    | rise s => exact absurd ⟨s, rfl⟩ h2
    | fall s => exact absurd ⟨s, rfl⟩ h3
    | cst b => exact ⟨_, _, by rw [dE], by decide, by decide, by decide, rfl⟩
    | not b => exact ⟨_, _, by rw [dE], by decide, by decide, by decide, rfl⟩
    | and b => exact ⟨_, _, by rw [dE], by decide, by decide, by decide, rfl⟩
    | or b => exact ⟨_, _, by rw [dE], by decide, by decide, by decide, rfl⟩
  obtain ⟨t, c, hy, a1, a2, a3, a4⟩ := hk
  rw [a4, hy]
  refine PureC.of_body (tyOf_good _) Tryz.func50 rfl rfl (rs := [.tmp 2]) Tryz.results50 (by simp [Tryz.ntmps50]) fun X => ?_
  simp only [Tryz.ntmps50, List.map]
  refine AW_rg (tyOf_good _) [0] [] (fun _ _ => trivial) fun K' hK' => ?_
  repeat (refine sxf_next fun K2 hK2 => ?_; simp [dNum, dS, pairA, assertA]; (repeat (refine ⟨by omega, ?_⟩)); refine hK2 _ ?_; clear hK2 K2)
  refine sxf_nil (hK' _ ?_)
  refine AW.st (by simp [dNum, dS, pairA, assertA]; rfl) ?_
  clear hK' K'
  refine AW_then fun K1 hK1 => ?_
  refine AW_rg (tyOf_good _) [6] [] (fun _ _ => trivial) fun K' hK' => ?_
  repeat (refine sxf_next fun K2 hK2 => ?_; simp [dNum, dS, pairA, assertA]; (repeat (refine ⟨by omega, ?_⟩)); refine hK2 _ ?_; clear hK2 K2)
  refine sxf_nil (hK' _ ?_)
  refine AW.st (by simp [dNum, dS, pairA, assertA]; rfl) ?_
  clear hK' K'
  refine AW_block ?_
  refine AW_rg (tyOf_good _) [6, 8, 9] [] (fun _ _ => trivial) fun K' hK' => ?_
  repeat (refine sxf_next fun K2 hK2 => ?_; simp [dNum, dS, pairA, assertA, a1]; (repeat (refine ⟨by omega, ?_⟩)); refine hK2 _ ?_; clear hK2 K2)
  refine sxf_nil (hK' _ ?_)
  refine AW.st (by simp [dNum, dS, pairA, assertA, a1]; rfl) ?_
  clear hK' K'
  refine AW_cond false rfl (fun h => by cases h) (fun _ => ?_)
  refine AW_rg (tyOf_good _) [6, 12, 13] [] (fun _ _ => trivial) fun K' hK' => ?_
  repeat (refine sxf_next fun K2 hK2 => ?_; simp [dNum, dS, pairA, assertA, a2]; (repeat (refine ⟨by omega, ?_⟩)); refine hK2 _ ?_; clear hK2 K2)
  refine sxf_nil (hK' _ ?_)
  refine AW.st (by simp [dNum, dS, pairA, assertA, a2]; rfl) ?_
  clear hK' K'
  refine AW_cond false rfl (fun h => by cases h) (fun _ => ?_)
  refine AW_rg (tyOf_good _) [16, 17] [] (fun _ _ => trivial) fun K' hK' => ?_
  repeat (refine sxf_next fun K2 hK2 => ?_; simp [dNum, dS, pairA, assertA, a3]; (repeat (refine ⟨by omega, ?_⟩)); refine hK2 _ ?_; clear hK2 K2)
  refine sxf_nil (hK' _ ?_)
  refine AW.st (by simp [dNum, dS, pairA, assertA, a3]; rfl) ?_
  clear hK' K'
  refine AW_cond false rfl (fun h => by cases h) (fun _ => ?_)
  refine AW_skip (hK1 _ ?_)
  refine AW_rg (tyOf_good _) [2] [] (fun _ _ => trivial) fun K' hK' => ?_
  repeat (refine sxf_next fun K2 hK2 => ?_; simp [dNum, dS, pairA, assertA]; (repeat (refine ⟨by omega, ?_⟩)); refine hK2 _ ?_; clear hK2 K2)
  refine sxf_nil (hK' _ ?_)
  refine AW.st (by simp [dNum, dS, pairA, assertA]; rfl) ?_
  clear hK' K'
  refine AW_ret ?_
  simp [D.le, D.le.go, takeMap, dNum, dS, pairA, assertA, dS, bs_nil, D.le_refl]
set_option maxHeartbeats 8000000 in
theorem edges1_spec (G : Glob) (e : Ex) : PureC Tryz.prog G 51 [dE e] (dS (nmE false e)) := by
  by_cases h2 : ∃ s, e = .rise s
  · obtain ⟨s, rfl⟩ := h2
    rw [dE]
    refine PureC.of_body (tyOf_good _) Tryz.func51 rfl rfl (rs := [.tmp 2]) Tryz.results51 (by simp [Tryz.ntmps51]) fun X => ?_
    simp only [Tryz.ntmps51, List.map]
    refine AW_rg (tyOf_good _) [0] [] (fun _ _ => trivial) fun K' hK' => ?_
    repeat (refine sxf_next fun K2 hK2 => ?_; simp [dNum, dS, pairA, assertA]; (repeat (refine ⟨by omega, ?_⟩)); refine hK2 _ ?_; clear hK2 K2)
    refine sxf_nil (hK' _ ?_)
    refine AW.st (by simp [dNum, dS, pairA, assertA]; rfl) ?_
    clear hK' K'
    refine AW_then fun K1 hK1 => ?_
    refine AW_rg (tyOf_good _) [5] [] (fun _ _ => trivial) fun K' hK' => ?_
    repeat (refine sxf_next fun K2 hK2 => ?_; simp [dNum, dS, pairA, assertA]; (repeat (refine ⟨by omega, ?_⟩)); refine hK2 _ ?_; clear hK2 K2)
    refine sxf_nil (hK' _ ?_)
    refine AW.st (by simp [dNum, dS, pairA, assertA]; rfl) ?_
    clear hK' K'
    refine AW_block ?_
    refine AW_rg (tyOf_good _) [5, 7, 8] [] (fun _ _ => trivial) fun K' hK' => ?_
    repeat (refine sxf_next fun K2 hK2 => ?_; simp [dNum, dS, pairA, assertA]; (repeat (refine ⟨by omega, ?_⟩)); refine hK2 _ ?_; clear hK2 K2)
    refine sxf_nil (hK' _ ?_)
    refine AW.st (by simp [dNum, dS, pairA, assertA]; rfl) ?_
    clear hK' K'
    refine AW_cond true rfl (fun _ => ?_) (fun h => by cases h)
    refine AW_rg (tyOf_good _) [3] [] (fun _ _ => trivial) fun K' hK' => ?_
    repeat (refine sxf_next fun K2 hK2 => ?_; simp [dNum, dS, pairA, assertA]; (repeat (refine ⟨by omega, ?_⟩)); refine hK2 _ ?_; clear hK2 K2)
    refine sxf_nil (hK' _ ?_)
    refine AW.st (by simp [dNum, dS, pairA, assertA]; rfl) ?_
    clear hK' K'
    refine AW_rg (tyOf_good _) [2] [] (fun _ _ => trivial) fun K' hK' => ?_
    repeat (refine sxf_next fun K2 hK2 => ?_; simp [dNum, dS, pairA, assertA]; (repeat (refine ⟨by omega, ?_⟩)); refine hK2 _ ?_; clear hK2 K2)
    refine sxf_nil (hK' _ ?_)
    refine AW.st (by simp [dNum, dS, pairA, assertA]; rfl) ?_
    clear hK' K'
    refine AW_ret ?_
    simp [D.le, D.le.go, takeMap, dNum, dS, pairA, assertA, nmE, dS, D.le_refl]
  by_cases h3 : ∃ s, e = .fall s
  · obtain ⟨s, rfl⟩ := h3
    rw [dE]
    refine PureC.of_body (tyOf_good _) Tryz.func51 rfl rfl (rs := [.tmp 2]) Tryz.results51 (by simp [Tryz.ntmps51]) fun X => ?_
    simp only [Tryz.ntmps51, List.map]
    refine AW_rg (tyOf_good _) [0] [] (fun _ _ => trivial) fun K' hK' => ?_
    repeat (refine sxf_next fun K2 hK2 => ?_; simp [dNum, dS, pairA, assertA]; (repeat (refine ⟨by omega, ?_⟩)); refine hK2 _ ?_; clear hK2 K2)
    refine sxf_nil (hK' _ ?_)
    refine AW.st (by simp [dNum, dS, pairA, assertA]; rfl) ?_
    clear hK' K'
    refine AW_then fun K1 hK1 => ?_
    refine AW_rg (tyOf_good _) [5] [] (fun _ _ => trivial) fun K' hK' => ?_
    repeat (refine sxf_next fun K2 hK2 => ?_; simp [dNum, dS, pairA, assertA]; (repeat (refine ⟨by omega, ?_⟩)); refine hK2 _ ?_; clear hK2 K2)
    refine sxf_nil (hK' _ ?_)
    refine AW.st (by simp [dNum, dS, pairA, assertA]; rfl) ?_
    clear hK' K'
    refine AW_block ?_
    refine AW_rg (tyOf_good _) [5, 7, 8] [] (fun _ _ => trivial) fun K' hK' => ?_
    repeat (refine sxf_next fun K2 hK2 => ?_; simp [dNum, dS, pairA, assertA]; (repeat (refine ⟨by omega, ?_⟩)); refine hK2 _ ?_; clear hK2 K2)
    refine sxf_nil (hK' _ ?_)
    refine AW.st (by simp [dNum, dS, pairA, assertA]; rfl) ?_
    clear hK' K'
    refine AW_cond false rfl (fun h => by cases h) (fun _ => ?_)
    refine AW_rg (tyOf_good _) [11, 12] [] (fun _ _ => trivial) fun K' hK' => ?_
    repeat (refine sxf_next fun K2 hK2 => ?_; simp [dNum, dS, pairA, assertA]; (repeat (refine ⟨by omega, ?_⟩)); refine hK2 _ ?_; clear hK2 K2)
    refine sxf_nil (hK' _ ?_)
    refine AW.st (by simp [dNum, dS, pairA, assertA]; rfl) ?_
    clear hK' K'
    refine AW_cond true rfl (fun _ => ?_) (fun h => by cases h)
    refine AW_rg (tyOf_good _) [4] [] (fun _ _ => trivial) fun K' hK' => ?_
    repeat (refine sxf_next fun K2 hK2 => ?_; simp [dNum, dS, pairA, assertA]; (repeat (refine ⟨by omega, ?_⟩)); refine hK2 _ ?_; clear hK2 K2)
    refine sxf_nil (hK' _ ?_)
    refine AW.st (by simp [dNum, dS, pairA, assertA]; rfl) ?_
    clear hK' K'
    refine AW_rg (tyOf_good _) [2] [] (fun _ _ => trivial) fun K' hK' => ?_
    repeat (refine sxf_next fun K2 hK2 => ?_; simp [dNum, dS, pairA, assertA]; (repeat (refine ⟨by omega, ?_⟩)); refine hK2 _ ?_; clear hK2 K2)
    refine sxf_nil (hK' _ ?_)
    refine AW.st (by simp [dNum, dS, pairA, assertA]; rfl) ?_
    clear hK' K'
    refine AW_ret ?_
    simp [D.le, D.le.go, takeMap, dNum, dS, pairA, assertA, nmE, dS, D.le_refl]
  have hk : ∃ t c, dE e = .ifc t c ∧ ¬ t = 99 ∧ ¬ t = 100 ∧ nmE false e = [] := by
    cases e with
    | rise s => exact absurd ⟨s, rfl⟩ h2
    | fall s => exact absurd ⟨s, rfl⟩ h3
    | cst b => exact ⟨_, _, by rw [dE], by decide, by decide, rfl⟩
    | bit b => exact ⟨_, _, by rw [dE], by decide, by decide, rfl⟩
    | not b => exact ⟨_, _, by rw [dE], by decide, by decide, rfl⟩
    | and b => exact ⟨_, _, by rw [dE], by decide, by decide, rfl⟩
    | or b => exact ⟨_, _, by rw [dE], by decide, by decide, rfl⟩
  obtain ⟨t, c, hy, a2, a3, a4⟩ := hk
  rw [a4, hy]
  refine PureC.of_body (tyOf_good _) Tryz.func51 rfl rfl (rs := [.tmp 2]) Tryz.results51 (by simp [Tryz.ntmps51]) fun X => ?_
  simp only [Tryz.ntmps51, List.map]
  refine AW_rg (tyOf_good _) [0] [] (fun _ _ => trivial) fun K' hK' => ?_
  repeat (refine sxf_next fun K2 hK2 => ?_; simp [dNum, dS, pairA, assertA]; (repeat (refine ⟨by omega, ?_⟩)); refine hK2 _ ?_; clear hK2 K2)
  refine sxf_nil (hK' _ ?_)
  refine AW.st (by simp [dNum, dS, pairA, assertA]; rfl) ?_
  clear hK' K'
  refine AW_then fun K1 hK1 => ?_
  refine AW_rg (tyOf_good _) [5] [] (fun _ _ => trivial) fun K' hK' => ?_
  repeat (refine sxf_next fun K2 hK2 => ?_; simp [dNum, dS, pairA, assertA]; (repeat (refine ⟨by omega, ?_⟩)); refine hK2 _ ?_; clear hK2 K2)
  refine sxf_nil (hK' _ ?_)
  refine AW.st (by simp [dNum, dS, pairA, assertA]; rfl) ?_
  clear hK' K'
  refine AW_block ?_
  refine AW_rg (tyOf_good _) [5, 7, 8] [] (fun _ _ => trivial) fun K' hK' => ?_
  repeat (refine sxf_next fun K2 hK2 => ?_; simp [dNum, dS, pairA, assertA, a2]; (repeat (refine ⟨by omega, ?_⟩)); refine hK2 _ ?_; clear hK2 K2)
  refine sxf_nil (hK' _ ?_)
  refine AW.st (by simp [dNum, dS, pairA, assertA, a2]; rfl) ?_
  clear hK' K'
  refine AW_cond false rfl (fun h => by cases h) (fun _ => ?_)
  refine AW_rg (tyOf_good _) [11, 12] [] (fun _ _ => trivial) fun K' hK' => ?_
  repeat (refine sxf_next fun K2 hK2 => ?_; simp [dNum, dS, pairA, assertA, a3]; (repeat (refine ⟨by omega, ?_⟩)); refine hK2 _ ?_; clear hK2 K2)
  refine sxf_nil (hK' _ ?_)
  refine AW.st (by simp [dNum, dS, pairA, assertA, a3]; rfl) ?_
  clear hK' K'
  refine AW_cond false rfl (fun h => by cases h) (fun _ => ?_)
  refine AW_skip (hK1 _ ?_)
  refine AW_rg (tyOf_good _) [2] [] (fun _ _ => trivial) fun K' hK' => ?_
  repeat (refine sxf_next fun K2 hK2 => ?_; simp [dNum, dS, pairA, assertA]; (repeat (refine ⟨by omega, ?_⟩)); refine hK2 _ ?_; clear hK2 K2)
  refine sxf_nil (hK' _ ?_)
  refine AW.st (by simp [dNum, dS, pairA, assertA]; rfl) ?_
  clear hK' K'
  refine AW_ret ?_
  simp [D.le, D.le.go, takeMap, dNum, dS, pairA, assertA, dS, bs_nil, D.le_refl]
theorem name1_spec (G : Glob) (all : Bool) (e : Ex) : PureC Tryz.prog G (fnOf all) [dE e] (dS (nmE all e)) := by
  cases all with
  | true => exact names1_spec G e
  | false => exact edges1_spec G e

set_option maxHeartbeats 8000000 in
theorem gather_spec (G : Glob) (all : Bool) (l : List (List UInt8)) (e : Ex) (hl : l.length < 2^40) : MC Tryz.prog G [502] 76 ([.d (dE e)] ++ [.d (.ip [.fn (.func (fnOf all)) []]), .ref 502 0 0]) (hlst (nRow l)) (.d (.tup [])) (hlst (nRow (l ++ one1 (nmE all e)))) := by
  have hn := name1_spec G all e
  obtain ⟨t, c, hx⟩ := dE_ifc e
  rw [hx] at hn ⊢
  generalize fnOf all = g at hn ⊢
  generalize nmE all e = s at hn ⊢
  by_cases hs : s = []
  · subst hs
    have he : l ++ one1 [] = l := by simp [one1]
    rw [he]
    refine MC.of_body (tyOf_good _) Tryz.func76 rfl rfl (rs := []) Tryz.results76 (by simp [Tryz.ntmps76]) rfl fun X => ?_
    simp only [Tryz.ntmps76]
    refine AW_rg (tyOf_good _) [2, 4] [502, 503] (notIn_ok rfl) fun K' hK' => ?_
    repeat (refine sxf_next fun K2 hK2 => ?_; simp [dNum, dS, nRow]; (repeat (refine ⟨by omega, ?_⟩)); refine hK2 _ ?_; clear hK2 K2)
    refine sxf_next fun K2 hK2 => ?_
    simp [dNum, dS, nRow]
    refine callK.data (hn) (by simp; rfl) (by first | exact D.leGo_refl _ | simp [takeMap, List.map_map, Function.comp_def, D.le, D.le.go, D.le_refl, D.leGo_refl, dNum, dS, nRow]) ?_
    refine hK2 _ ?_
    clear hK2 K2
    simp only [putd, upd_lst]
    repeat (refine sxf_next fun K2 hK2 => ?_; simp [dNum, dS, nRow]; (repeat (refine ⟨by omega, ?_⟩)); refine hK2 _ ?_; clear hK2 K2)
    refine sxf_nil (hK' _ ?_)
    refine AW.st (by simp [dNum, dS, nRow]; rfl) ?_
    clear hK' K'
    refine AW_rg (tyOf_good _) [2, 4, 9] [502, 503] (notIn_ok rfl) fun K' hK' => ?_
    repeat (refine sxf_next fun K2 hK2 => ?_; simp [dNum, dS, nRow, binS, bs_list, bs_nil]; (repeat (refine ⟨by omega, ?_⟩)); refine hK2 _ ?_; clear hK2 K2)
    refine sxf_nil (hK' _ ?_)
    refine AW.st (by simp [dNum, dS, nRow, binS, bs_list, bs_nil]; rfl) ?_
    clear hK' K'
    refine AW_cond false rfl (fun h => by cases h) (fun _ => ?_)
    refine AW_skip ?_
    simp [D.le_refl, nRow, dS]
  · have he : one1 s = [s] := by unfold one1; rw [if_neg hs]
    have hse : s.isEmpty = false := by rw [List.isEmpty_eq_false_iff]; exact hs
    have hsb : (s == []) = false := by simpa using hs
    rw [he]
    refine MC.of_body (tyOf_good _) Tryz.func76 rfl rfl (rs := []) Tryz.results76 (by simp [Tryz.ntmps76]) rfl fun X => ?_
    simp only [Tryz.ntmps76]
    refine AW_rg (tyOf_good _) [2, 4] [502, 503] (notIn_ok rfl) fun K' hK' => ?_
    repeat (refine sxf_next fun K2 hK2 => ?_; simp [dNum, dS, nRow]; (repeat (refine ⟨by omega, ?_⟩)); refine hK2 _ ?_; clear hK2 K2)
    refine sxf_next fun K2 hK2 => ?_
    simp [dNum, dS, nRow]
    refine callK.data (hn) (by simp; rfl) (by first | exact D.leGo_refl _ | simp [takeMap, List.map_map, Function.comp_def, D.le, D.le.go, D.le_refl, D.leGo_refl, dNum, dS, nRow]) ?_
    refine hK2 _ ?_
    clear hK2 K2
    simp only [putd, upd_lst]
    repeat (refine sxf_next fun K2 hK2 => ?_; simp [dNum, dS, nRow]; (repeat (refine ⟨by omega, ?_⟩)); refine hK2 _ ?_; clear hK2 K2)
    refine sxf_nil (hK' _ ?_)
    refine AW.st (by simp [dNum, dS, nRow]; rfl) ?_
    clear hK' K'
    refine AW_rg (tyOf_good _) [2, 4, 9] [502, 503] (notIn_ok rfl) fun K' hK' => ?_
    repeat (refine sxf_next fun K2 hK2 => ?_; simp [dNum, dS, nRow, binS, bs_list, bs_nil, hs, hse, hsb]; (repeat (refine ⟨by omega, ?_⟩)); refine hK2 _ ?_; clear hK2 K2)
    refine sxf_nil (hK' _ ?_)
    refine AW.st (by simp [dNum, dS, nRow, binS, bs_list, bs_nil, hs, hse, hsb]; rfl) ?_
    clear hK' K'
    refine AW_cond true rfl (fun _ => ?_) (fun h => by cases h)
    refine AW_re (tyOf_good _) fun K' hK' => ?_
    repeat (refine sxf_next fun K2 hK2 => ?_; simp [dNum, dS, nRow, List.take_of_length_le]; (repeat (refine ⟨by omega, ?_⟩)); refine hK2 _ ?_; clear hK2 K2)
    refine sxf_nil (hK' _ ?_)
    clear hK' K'
    try simp only [thn, inb]
    simp [D.le_refl, nRow, dS]

set_option maxHeartbeats 16000000 in
theorem walkN_at (G : Glob) (all : Bool) : ∀ (m : Nat) (e : Ex), SizeOf.sizeOf e ≤ m → ∀ l0 : List (List UInt8), l0.length + bE e ≤ 2^39 → MC Tryz.prog G [502] 63 [.d (dE e), .fn (.func 76) [.d (.ip [.fn (.func (fnOf all)) []]), .ref 502 0 0]] (hlst (nRow l0)) (.d (.tup [])) (hlst (nRow (l0 ++ nmsE all e))) := by
  intro m
  induction m with
  | zero => intro e hsz; cases e <;> simp at hsz
  | succ m ih =>
    intro e hsz l0 hb
    have hbp := bE_pos e
    by_cases hN : ∃ x, e = .not x
    · obtain ⟨x, rfl⟩ := hN
      simp only [bE] at hb
      obtain ⟨tx, cx, hx⟩ := dE_ifc x
      have hs1 := gather_spec G all l0 (.not x) (by omega)
      have hnil : one1 (nmE all (.not x)) = [] := rfl
      rw [hnil, List.append_nil, List.singleton_append] at hs1
      have hc := ih x (by simp at hsz; omega) l0 (by omega)
      rw [nmsE]
      rw [dE, hx]
      rw [dE, hx] at hs1
      rw [hx] at hc
      generalize l0 ++ nmsE all x = l1 at hc ⊢
      generalize fnOf all = g at hc hs1 ⊢
      refine MC.of_body (tyOf_good _) Tryz.func63 rfl rfl (rs := []) Tryz.results63 (by simp [Tryz.ntmps63]) rfl fun X => ?_
      simp only [Tryz.ntmps63]
      refine AW_rg (tyOf_good _) [0, 1] [502, 503] (notIn_ok rfl) fun K' hK' => ?_
      repeat (refine sxf_next fun K2 hK2 => ?_; simp [dNum, dS, nRow, pairA, assertA]; (repeat (refine ⟨by omega, ?_⟩)); refine hK2 _ ?_; clear hK2 K2)
      refine sxf_next fun K2 hK2 => ?_
      simp [dNum, dS, nRow, pairA, assertA]
      refine callK.mc (hs1) (by simp [dNum, dS, nRow, pairA, assertA]) (by simp [dNum, dS, nRow, pairA, assertA]) (by simp [dNum, dS, nRow, pairA, assertA]) (by simp [dNum, dS, nRow, pairA, assertA]) ?_
      simp [dNum, dS, nRow, pairA, assertA]
      refine hK2 _ ?_
      clear hK2 K2
      repeat (refine sxf_next fun K2 hK2 => ?_; simp [dNum, dS, nRow, pairA, assertA]; (repeat (refine ⟨by omega, ?_⟩)); refine hK2 _ ?_; clear hK2 K2)
      refine sxf_nil (hK' _ ?_)
      refine AW.st (by simp [dNum, dS, nRow, pairA, assertA]; rfl) ?_
      clear hK' K'
      refine AW_rg (tyOf_good _) [1, 14] [502, 503] (notIn_ok rfl) fun K' hK' => ?_
      repeat (refine sxf_next fun K2 hK2 => ?_; simp [dNum, dS, nRow, pairA, assertA]; (repeat (refine ⟨by omega, ?_⟩)); refine hK2 _ ?_; clear hK2 K2)
      refine sxf_nil (hK' _ ?_)
      refine AW.st (by simp [dNum, dS, nRow, pairA, assertA]; rfl) ?_
      clear hK' K'
      refine AW_block ?_
      refine AW_rg (tyOf_good _) [1, 14, 16, 17] [502, 503] (notIn_ok rfl) fun K' hK' => ?_
      repeat (refine sxf_next fun K2 hK2 => ?_; simp [dNum, dS, nRow, pairA, assertA]; (repeat (refine ⟨by omega, ?_⟩)); refine hK2 _ ?_; clear hK2 K2)
      refine sxf_nil (hK' _ ?_)
      refine AW.st (by simp [dNum, dS, nRow, pairA, assertA]; rfl) ?_
      clear hK' K'
      refine AW_cond true rfl (fun _ => ?_) (fun h => by cases h)
      refine AW_rg (tyOf_good _) [1, 4] [4, 502, 503] (notIn_ok rfl) fun K' hK' => ?_
      repeat (refine sxf_next fun K2 hK2 => ?_; simp [dNum, dS, nRow, pairA, assertA]; (repeat (refine ⟨by omega, ?_⟩)); refine hK2 _ ?_; clear hK2 K2)
      refine sxf_nil (hK' _ ?_)
      refine AW.st (by simp [dNum, dS, nRow, pairA, assertA]; rfl) ?_
      clear hK' K'
      refine AW_re (tyOf_good _) fun K' hK' => ?_
      repeat (refine sxf_next fun K2 hK2 => ?_; simp [dNum, dS, nRow, pairA, assertA]; (repeat (refine ⟨by omega, ?_⟩)); refine hK2 _ ?_; clear hK2 K2)
      refine sxf_next fun K2 hK2 => ?_
      simp [dNum, dS, nRow, pairA, assertA]
      refine callK.mc (hc) (by simp [dNum, dS, nRow, pairA, assertA]) (by simp [dNum, dS, nRow, pairA, assertA]) (by simp [dNum, dS, nRow, pairA, assertA]) (by simp [dNum, dS, nRow, pairA, assertA]) ?_
      simp [dNum, dS, nRow, pairA, assertA]
      refine hK2 _ ?_
      clear hK2 K2
      repeat (refine sxf_next fun K2 hK2 => ?_; simp [dNum, dS, nRow, pairA, assertA]; (repeat (refine ⟨by omega, ?_⟩)); refine hK2 _ ?_; clear hK2 K2)
      refine sxf_nil (hK' _ ?_)
      clear hK' K'
      try simp only [thn, inb]
      simp [D.le_refl, nRow, dS]
    by_cases hand : ∃ l, e = .and l
    · obtain ⟨l, rfl⟩ := hand
      simp only [bE] at hb
      have hs1 := gather_spec G all l0 (.and l) (by omega)
      have hnil : one1 (nmE all (.and l)) = [] := rfl
      rw [hnil, List.append_nil, List.singleton_append] at hs1
      have hch := fun (x : Ex) (hx : x ∈ l) => ih x (by have := List.sizeOf_lt_of_mem hx; simp only [Ex.and.sizeOf_spec] at hsz; omega)
      have hln := bEs_len l
      rw [nmsE]
      rw [dE, dEs_map]
      rw [dE, dEs_map] at hs1
      clear ih
      generalize hg : fnOf all = g at hch hs1 ⊢
      refine MC.of_body (tyOf_good _) Tryz.func63 rfl rfl (rs := []) Tryz.results63 (by simp [Tryz.ntmps63]) rfl fun X => ?_
      simp only [Tryz.ntmps63]
      refine AW_rg (tyOf_good _) [0, 1] [502, 503] (notIn_ok rfl) fun K' hK' => ?_
      repeat (refine sxf_next fun K2 hK2 => ?_; simp [dNum, dS, nRow, pairA, assertA]; (repeat (refine ⟨by omega, ?_⟩)); refine hK2 _ ?_; clear hK2 K2)
      refine sxf_next fun K2 hK2 => ?_
      simp [dNum, dS, nRow, pairA, assertA]
      refine callK.mc (hs1) (by simp [dNum, dS, nRow, pairA, assertA]) (by simp [dNum, dS, nRow, pairA, assertA]) (by simp [dNum, dS, nRow, pairA, assertA]) (by simp [dNum, dS, nRow, pairA, assertA]) ?_
      simp [dNum, dS, nRow, pairA, assertA]
      refine hK2 _ ?_
      clear hK2 K2
      repeat (refine sxf_next fun K2 hK2 => ?_; simp [dNum, dS, nRow, pairA, assertA]; (repeat (refine ⟨by omega, ?_⟩)); refine hK2 _ ?_; clear hK2 K2)
      refine sxf_nil (hK' _ ?_)
      refine AW.st (by simp [dNum, dS, nRow, pairA, assertA]; rfl) ?_
      clear hK' K'
      refine AW_rg (tyOf_good _) [1, 14] [502, 503] (notIn_ok rfl) fun K' hK' => ?_
      repeat (refine sxf_next fun K2 hK2 => ?_; simp [dNum, dS, nRow, pairA, assertA]; (repeat (refine ⟨by omega, ?_⟩)); refine hK2 _ ?_; clear hK2 K2)
      refine sxf_nil (hK' _ ?_)
      refine AW.st (by simp [dNum, dS, nRow, pairA, assertA]; rfl) ?_
      clear hK' K'
      refine AW_block ?_
      refine AW_rg (tyOf_good _) [1, 14, 16, 17] [502, 503] (notIn_ok rfl) fun K' hK' => ?_
      repeat (refine sxf_next fun K2 hK2 => ?_; simp [dNum, dS, nRow, pairA, assertA]; (repeat (refine ⟨by omega, ?_⟩)); refine hK2 _ ?_; clear hK2 K2)
      refine sxf_nil (hK' _ ?_)
      refine AW.st (by simp [dNum, dS, nRow, pairA, assertA]; rfl) ?_
      clear hK' K'
      refine AW_cond false rfl (fun h => by cases h) (fun _ => ?_)
      refine AW_rg (tyOf_good _) [1, 14, 23, 24] [502, 503] (notIn_ok rfl) fun K' hK' => ?_
      repeat (refine sxf_next fun K2 hK2 => ?_; simp [dNum, dS, nRow, pairA, assertA]; (repeat (refine ⟨by omega, ?_⟩)); refine hK2 _ ?_; clear hK2 K2)
      refine sxf_nil (hK' _ ?_)
      refine AW.st (by simp [dNum, dS, nRow, pairA, assertA]; rfl) ?_
      clear hK' K'
      refine AW_cond true rfl (fun _ => ?_) (fun h => by cases h)
      refine AW_rg (tyOf_good _) [1, 5] [502, 503] (notIn_ok rfl) fun K' hK' => ?_
      repeat (refine sxf_next fun K2 hK2 => ?_; simp [dNum, dS, nRow, pairA, assertA]; (repeat (refine ⟨by omega, ?_⟩)); refine hK2 _ ?_; clear hK2 K2)
      refine sxf_nil (hK' _ ?_)
      refine AW.st (by simp [dNum, dS, nRow, pairA, assertA]; rfl) ?_
      clear hK' K'
      refine AW_rg (tyOf_good _) [1, 25, 26, 27] [502, 503] (notIn_ok rfl) fun K' hK' => ?_
      repeat (refine sxf_next fun K2 hK2 => ?_; simp [dNum, dS, nRow, pairA, assertA]; (repeat (refine ⟨by omega, ?_⟩)); refine hK2 _ ?_; clear hK2 K2)
      refine sxf_nil (hK' _ ?_)
      refine AW.st (by simp [dNum, dS, nRow, pairA, assertA]; rfl) ?_
      clear hK' K'
      refine AW_for (S := Nat) (fun i => i ≤ l.length) (fun i => ⟨lst [(1, .fn (.func 76) [.d (.ip [.fn (.func g) []]), .ref 502 0 0]), (25, .d (.sl none (l.map fun e => [dE e]))), (26, int l.length), (27, int i)], hlst (nRow (l0 ++ nmsL all (l.take i)))⟩) (fun i => l.length - i) 0 ?_ (by omega) ?_
      · refine Imp.to' (notIn_ok rfl) (by simp [dNum, dS, nRow, pairA, assertA, nmsL]) (by simp [dNum, dS, nRow, pairA, assertA, nmsL])
      · intro i hi
        refine AW_rg (tyOf_good _) [1, 25, 26, 27, 28] [502, 503] (notIn_ok rfl) fun K' hK' => ?_
        repeat (refine sxf_next fun K2 hK2 => ?_; simp [dNum, dS, nRow, pairA, assertA]; (repeat (refine ⟨by omega, ?_⟩)); refine hK2 _ ?_; clear hK2 K2)
        refine sxf_nil (hK' _ ?_)
        refine AW.st (by simp [dNum, dS, nRow, pairA, assertA]; rfl) ?_
        clear hK' K'
        refine AW_then fun K1 hK1 => ?_
        refine AW_cond' (b := i < l.length) (by simp [D.le, D.le.go, takeMap, dNum, dS, nRow, pairA, assertA]) (fun hc => ?_) (fun hc => ?_)
        · have hil : i < l.length := hc
          have h1 := nmsL_take all hil
          have h2 := nmsL_len all (l.take i)
          have h3 := bEs_take hil
          have hcc := hch _ (List.getElem_mem hil) (l0 ++ nmsL all (l.take i)) (by rw [List.length_append]; omega)
          rw [List.append_assoc, ← h1] at hcc
          obtain ⟨tx, cx, hx⟩ := dE_ifc l[i]
          rw [hx] at hcc
          refine AW_skip (hK1 _ ?_)
          refine AW_then fun K2 hK2 => ?_
          refine AW_block ?_
          refine AW_rg (tyOf_good _) [1, 7, 25, 26, 27] [502, 503] (notIn_ok rfl) fun K' hK' => ?_
          repeat (refine sxf_next fun K2 hK2 => ?_; simp [dNum, dS, nRow, pairA, assertA, hil, hx]; (repeat (refine ⟨by omega, ?_⟩)); refine hK2 _ ?_; clear hK2 K2)
          refine sxf_nil (hK' _ ?_)
          refine AW.st (by simp [dNum, dS, nRow, pairA, assertA, hil, hx]; rfl) ?_
          clear hK' K'
          refine AW_re (tyOf_good _) fun K' hK' => ?_
          repeat (refine sxf_next fun K2 hK2 => ?_; simp [dNum, dS, nRow, pairA, assertA]; (repeat (refine ⟨by omega, ?_⟩)); refine hK2 _ ?_; clear hK2 K2)
          refine sxf_next fun K2 hK2 => ?_
          simp [dNum, dS, nRow, pairA, assertA]
          refine callK.mc (hcc) (by simp [dNum, dS, nRow, pairA, assertA]) (by simp [dNum, dS, nRow, pairA, assertA]) (by simp [dNum, dS, nRow, pairA, assertA]) (by simp [dNum, dS, nRow, pairA, assertA]) ?_
          simp [dNum, dS, nRow, pairA, assertA]
          refine hK2 _ ?_
          clear hK2 K2
          repeat (refine sxf_next fun K2 hK2 => ?_; simp [dNum, dS, nRow, pairA, assertA]; (repeat (refine ⟨by omega, ?_⟩)); refine hK2 _ ?_; clear hK2 K2)
          refine sxf_nil (hK' _ ?_)
          clear hK' K'
          refine hK2 _ (AW.norm [1, 25, 26, 27] [502, 503] (notIn_ok rfl) (AW.st (by simp [dNum, dS, nRow, pairA, assertA]; rfl) ?_))
          refine AW_re (tyOf_good _) fun K' hK' => ?_
          repeat (refine sxf_next fun K2 hK2 => ?_; simp [dNum, dS, nRow, pairA, assertA]; (repeat (refine ⟨by omega, ?_⟩)); refine hK2 _ ?_; clear hK2 K2)
          refine sxf_nil (hK' _ ?_)
          clear hK' K'
          try simp only [thn, inb]
          refine Again.mk (i + 1) (by omega) (by omega) ?_
          refine Imp.to' (notIn_ok rfl) (by simp [dNum, dS, nRow, pairA, assertA]) (by simp [dNum, dS, nRow, pairA, assertA])
        · obtain rfl : i = l.length := by omega
          refine AW_exit ?_
          simp [D.le_refl, List.take_length, nRow, dS]
    by_cases hor : ∃ l, e = .or l
    · obtain ⟨l, rfl⟩ := hor
      simp only [bE] at hb
      have hs1 := gather_spec G all l0 (.or l) (by omega)
      have hnil : one1 (nmE all (.or l)) = [] := rfl
      rw [hnil, List.append_nil, List.singleton_append] at hs1
      have hch := fun (x : Ex) (hx : x ∈ l) => ih x (by have := List.sizeOf_lt_of_mem hx; simp only [Ex.or.sizeOf_spec] at hsz; omega)
      have hln := bEs_len l
      rw [nmsE]
      rw [dE, dEs_map]
      rw [dE, dEs_map] at hs1
      clear ih
      generalize hg : fnOf all = g at hch hs1 ⊢
      refine MC.of_body (tyOf_good _) Tryz.func63 rfl rfl (rs := []) Tryz.results63 (by simp [Tryz.ntmps63]) rfl fun X => ?_
      simp only [Tryz.ntmps63]
      refine AW_rg (tyOf_good _) [0, 1] [502, 503] (notIn_ok rfl) fun K' hK' => ?_
      repeat (refine sxf_next fun K2 hK2 => ?_; simp [dNum, dS, nRow, pairA, assertA]; (repeat (refine ⟨by omega, ?_⟩)); refine hK2 _ ?_; clear hK2 K2)
      refine sxf_next fun K2 hK2 => ?_
      simp [dNum, dS, nRow, pairA, assertA]
      refine callK.mc (hs1) (by simp [dNum, dS, nRow, pairA, assertA]) (by simp [dNum, dS, nRow, pairA, assertA]) (by simp [dNum, dS, nRow, pairA, assertA]) (by simp [dNum, dS, nRow, pairA, assertA]) ?_
      simp [dNum, dS, nRow, pairA, assertA]
      refine hK2 _ ?_
      clear hK2 K2
      repeat (refine sxf_next fun K2 hK2 => ?_; simp [dNum, dS, nRow, pairA, assertA]; (repeat (refine ⟨by omega, ?_⟩)); refine hK2 _ ?_; clear hK2 K2)
      refine sxf_nil (hK' _ ?_)
      refine AW.st (by simp [dNum, dS, nRow, pairA, assertA]; rfl) ?_
      clear hK' K'
      refine AW_rg (tyOf_good _) [1, 14] [502, 503] (notIn_ok rfl) fun K' hK' => ?_
      repeat (refine sxf_next fun K2 hK2 => ?_; simp [dNum, dS, nRow, pairA, assertA]; (repeat (refine ⟨by omega, ?_⟩)); refine hK2 _ ?_; clear hK2 K2)
      refine sxf_nil (hK' _ ?_)
      refine AW.st (by simp [dNum, dS, nRow, pairA, assertA]; rfl) ?_
      clear hK' K'
      refine AW_block ?_
      refine AW_rg (tyOf_good _) [1, 14, 16, 17] [502, 503] (notIn_ok rfl) fun K' hK' => ?_
      repeat (refine sxf_next fun K2 hK2 => ?_; simp [dNum, dS, nRow, pairA, assertA]; (repeat (refine ⟨by omega, ?_⟩)); refine hK2 _ ?_; clear hK2 K2)
      refine sxf_nil (hK' _ ?_)
      refine AW.st (by simp [dNum, dS, nRow, pairA, assertA]; rfl) ?_
      clear hK' K'
      refine AW_cond false rfl (fun h => by cases h) (fun _ => ?_)
      refine AW_rg (tyOf_good _) [1, 14, 23, 24] [502, 503] (notIn_ok rfl) fun K' hK' => ?_
      repeat (refine sxf_next fun K2 hK2 => ?_; simp [dNum, dS, nRow, pairA, assertA]; (repeat (refine ⟨by omega, ?_⟩)); refine hK2 _ ?_; clear hK2 K2)
      refine sxf_nil (hK' _ ?_)
      refine AW.st (by simp [dNum, dS, nRow, pairA, assertA]; rfl) ?_
      clear hK' K'
      refine AW_cond false rfl (fun h => by cases h) (fun _ => ?_)
      refine AW_rg (tyOf_good _) [1, 36, 37] [502, 503] (notIn_ok rfl) fun K' hK' => ?_
      repeat (refine sxf_next fun K2 hK2 => ?_; simp [dNum, dS, nRow, pairA, assertA]; (repeat (refine ⟨by omega, ?_⟩)); refine hK2 _ ?_; clear hK2 K2)
      refine sxf_nil (hK' _ ?_)
      refine AW.st (by simp [dNum, dS, nRow, pairA, assertA]; rfl) ?_
      clear hK' K'
      refine AW_cond true rfl (fun _ => ?_) (fun h => by cases h)
      refine AW_rg (tyOf_good _) [1, 8] [502, 503] (notIn_ok rfl) fun K' hK' => ?_
      repeat (refine sxf_next fun K2 hK2 => ?_; simp [dNum, dS, nRow, pairA, assertA]; (repeat (refine ⟨by omega, ?_⟩)); refine hK2 _ ?_; clear hK2 K2)
      refine sxf_nil (hK' _ ?_)
      refine AW.st (by simp [dNum, dS, nRow, pairA, assertA]; rfl) ?_
      clear hK' K'
      refine AW_rg (tyOf_good _) [1, 38, 39, 40] [502, 503] (notIn_ok rfl) fun K' hK' => ?_
      repeat (refine sxf_next fun K2 hK2 => ?_; simp [dNum, dS, nRow, pairA, assertA]; (repeat (refine ⟨by omega, ?_⟩)); refine hK2 _ ?_; clear hK2 K2)
      refine sxf_nil (hK' _ ?_)
      refine AW.st (by simp [dNum, dS, nRow, pairA, assertA]; rfl) ?_
      clear hK' K'
      refine AW_for (S := Nat) (fun i => i ≤ l.length) (fun i => ⟨lst [(1, .fn (.func 76) [.d (.ip [.fn (.func g) []]), .ref 502 0 0]), (38, .d (.sl none (l.map fun e => [dE e]))), (39, int l.length), (40, int i)], hlst (nRow (l0 ++ nmsL all (l.take i)))⟩) (fun i => l.length - i) 0 ?_ (by omega) ?_
      · refine Imp.to' (notIn_ok rfl) (by simp [dNum, dS, nRow, pairA, assertA, nmsL]) (by simp [dNum, dS, nRow, pairA, assertA, nmsL])
      · intro i hi
        refine AW_rg (tyOf_good _) [1, 38, 39, 40, 41] [502, 503] (notIn_ok rfl) fun K' hK' => ?_
        repeat (refine sxf_next fun K2 hK2 => ?_; simp [dNum, dS, nRow, pairA, assertA]; (repeat (refine ⟨by omega, ?_⟩)); refine hK2 _ ?_; clear hK2 K2)
        refine sxf_nil (hK' _ ?_)
        refine AW.st (by simp [dNum, dS, nRow, pairA, assertA]; rfl) ?_
        clear hK' K'
        refine AW_then fun K1 hK1 => ?_
        refine AW_cond' (b := i < l.length) (by simp [D.le, D.le.go, takeMap, dNum, dS, nRow, pairA, assertA]) (fun hc => ?_) (fun hc => ?_)
        · have hil : i < l.length := hc
          have h1 := nmsL_take all hil
          have h2 := nmsL_len all (l.take i)
          have h3 := bEs_take hil
          have hcc := hch _ (List.getElem_mem hil) (l0 ++ nmsL all (l.take i)) (by rw [List.length_append]; omega)
          rw [List.append_assoc, ← h1] at hcc
          obtain ⟨tx, cx, hx⟩ := dE_ifc l[i]
          rw [hx] at hcc
          refine AW_skip (hK1 _ ?_)
          refine AW_then fun K2 hK2 => ?_
          refine AW_block ?_
          refine AW_rg (tyOf_good _) [1, 10, 38, 39, 40] [502, 503] (notIn_ok rfl) fun K' hK' => ?_
          repeat (refine sxf_next fun K2 hK2 => ?_; simp [dNum, dS, nRow, pairA, assertA, hil, hx]; (repeat (refine ⟨by omega, ?_⟩)); refine hK2 _ ?_; clear hK2 K2)
          refine sxf_nil (hK' _ ?_)
          refine AW.st (by simp [dNum, dS, nRow, pairA, assertA, hil, hx]; rfl) ?_
          clear hK' K'
          refine AW_re (tyOf_good _) fun K' hK' => ?_
          repeat (refine sxf_next fun K2 hK2 => ?_; simp [dNum, dS, nRow, pairA, assertA]; (repeat (refine ⟨by omega, ?_⟩)); refine hK2 _ ?_; clear hK2 K2)
          refine sxf_next fun K2 hK2 => ?_
          simp [dNum, dS, nRow, pairA, assertA]
          refine callK.mc (hcc) (by simp [dNum, dS, nRow, pairA, assertA]) (by simp [dNum, dS, nRow, pairA, assertA]) (by simp [dNum, dS, nRow, pairA, assertA]) (by simp [dNum, dS, nRow, pairA, assertA]) ?_
          simp [dNum, dS, nRow, pairA, assertA]
          refine hK2 _ ?_
          clear hK2 K2
          repeat (refine sxf_next fun K2 hK2 => ?_; simp [dNum, dS, nRow, pairA, assertA]; (repeat (refine ⟨by omega, ?_⟩)); refine hK2 _ ?_; clear hK2 K2)
          refine sxf_nil (hK' _ ?_)
          clear hK' K'
          refine hK2 _ (AW.norm [1, 38, 39, 40] [502, 503] (notIn_ok rfl) (AW.st (by simp [dNum, dS, nRow, pairA, assertA]; rfl) ?_))
          refine AW_re (tyOf_good _) fun K' hK' => ?_
          repeat (refine sxf_next fun K2 hK2 => ?_; simp [dNum, dS, nRow, pairA, assertA]; (repeat (refine ⟨by omega, ?_⟩)); refine hK2 _ ?_; clear hK2 K2)
          refine sxf_nil (hK' _ ?_)
          clear hK' K'
          try simp only [thn, inb]
          refine Again.mk (i + 1) (by omega) (by omega) ?_
          refine Imp.to' (notIn_ok rfl) (by simp [dNum, dS, nRow, pairA, assertA]) (by simp [dNum, dS, nRow, pairA, assertA])
        · obtain rfl : i = l.length := by omega
          refine AW_exit ?_
          simp [D.le_refl, List.take_length, nRow, dS]
    have hk : ∃ t c, dE e = .ifc t c ∧ ¬ t = 111 ∧ ¬ t = 113 ∧ ¬ t = 116 ∧ nmsE all e = one1 (nmE all e) := by
      cases e with
      | not z => exact absurd ⟨z, rfl⟩ hN
      | and l => exact absurd ⟨l, rfl⟩ hand
      | or l => exact absurd ⟨l, rfl⟩ hor
      | cst b => exact ⟨_, _, by rw [dE], by decide, by decide, by decide, rfl⟩
      | bit s => exact ⟨_, _, by rw [dE], by decide, by decide, by decide, rfl⟩
      | rise s => exact ⟨_, _, by rw [dE], by decide, by decide, by decide, rfl⟩
      | fall s => exact ⟨_, _, by rw [dE], by decide, by decide, by decide, rfl⟩
    obtain ⟨t, c, hy, h1, h2, h3, h4⟩ := hk
    have hs1 := gather_spec G all l0 e (by omega)
    rw [List.singleton_append] at hs1
    rw [h4, hy]
    rw [hy] at hs1
    generalize l0 ++ one1 (nmE all e) = l1 at hs1 ⊢
    generalize fnOf all = g at hs1 ⊢
    refine MC.of_body (tyOf_good _) Tryz.func63 rfl rfl (rs := []) Tryz.results63 (by simp [Tryz.ntmps63]) rfl fun X => ?_
    simp only [Tryz.ntmps63]
    refine AW_rg (tyOf_good _) [0, 1] [502, 503] (notIn_ok rfl) fun K' hK' => ?_
    repeat (refine sxf_next fun K2 hK2 => ?_; simp [dNum, dS, nRow, pairA, assertA]; (repeat (refine ⟨by omega, ?_⟩)); refine hK2 _ ?_; clear hK2 K2)
    refine sxf_next fun K2 hK2 => ?_
    simp [dNum, dS, nRow, pairA, assertA]
    refine callK.mc (hs1) (by simp [dNum, dS, nRow, pairA, assertA]) (by simp [dNum, dS, nRow, pairA, assertA]) (by simp [dNum, dS, nRow, pairA, assertA]) (by simp [dNum, dS, nRow, pairA, assertA]) ?_
    simp [dNum, dS, nRow, pairA, assertA]
    refine hK2 _ ?_
    clear hK2 K2
    repeat (refine sxf_next fun K2 hK2 => ?_; simp [dNum, dS, nRow, pairA, assertA]; (repeat (refine ⟨by omega, ?_⟩)); refine hK2 _ ?_; clear hK2 K2)
    refine sxf_nil (hK' _ ?_)
    refine AW.st (by simp [dNum, dS, nRow, pairA, assertA]; rfl) ?_
    clear hK' K'
    refine AW_rg (tyOf_good _) [1, 14] [502, 503] (notIn_ok rfl) fun K' hK' => ?_
    repeat (refine sxf_next fun K2 hK2 => ?_; simp [dNum, dS, nRow, pairA, assertA]; (repeat (refine ⟨by omega, ?_⟩)); refine hK2 _ ?_; clear hK2 K2)
    refine sxf_nil (hK' _ ?_)
    refine AW.st (by simp [dNum, dS, nRow, pairA, assertA]; rfl) ?_
    clear hK' K'
    refine AW_block ?_
    refine AW_rg (tyOf_good _) [1, 14, 16, 17] [502, 503] (notIn_ok rfl) fun K' hK' => ?_
    repeat (refine sxf_next fun K2 hK2 => ?_; simp [dNum, dS, nRow, pairA, assertA, h1]; (repeat (refine ⟨by omega, ?_⟩)); refine hK2 _ ?_; clear hK2 K2)
    refine sxf_nil (hK' _ ?_)
    refine AW.st (by simp [dNum, dS, nRow, pairA, assertA, h1]; rfl) ?_
    clear hK' K'
    refine AW_cond false rfl (fun h => by cases h) (fun _ => ?_)
    refine AW_rg (tyOf_good _) [1, 14, 23, 24] [502, 503] (notIn_ok rfl) fun K' hK' => ?_
    repeat (refine sxf_next fun K2 hK2 => ?_; simp [dNum, dS, nRow, pairA, assertA, h2]; (repeat (refine ⟨by omega, ?_⟩)); refine hK2 _ ?_; clear hK2 K2)
    refine sxf_nil (hK' _ ?_)
    refine AW.st (by simp [dNum, dS, nRow, pairA, assertA, h2]; rfl) ?_
    clear hK' K'
    refine AW_cond false rfl (fun h => by cases h) (fun _ => ?_)
    refine AW_rg (tyOf_good _) [1, 36, 37] [502, 503] (notIn_ok rfl) fun K' hK' => ?_
    repeat (refine sxf_next fun K2 hK2 => ?_; simp [dNum, dS, nRow, pairA, assertA, h3]; (repeat (refine ⟨by omega, ?_⟩)); refine hK2 _ ?_; clear hK2 K2)
    refine sxf_nil (hK' _ ?_)
    refine AW.st (by simp [dNum, dS, nRow, pairA, assertA, h3]; rfl) ?_
    clear hK' K'
    refine AW_cond false rfl (fun h => by cases h) (fun _ => ?_)
    refine AW_skip ?_
    simp [D.le_refl, nRow, dS]

def namesE (all : Bool) (e : Ex) : List (List UInt8) := Lib.compact (sortT (nmsE all e))
set_option maxHeartbeats 8000000 in
theorem sorted_spec (G : Glob) (all : Bool) (e : Ex) (hb : bE e ≤ 2^28) : PureC Tryz.prog G 49 [dE e, .fn (.func (fnOf all)) []] (.sl none ((namesE all e).map fun s => [dS s])) := by
  have hlen := nms_len all e
  have hw := walkN_at G all _ e (Nat.le_refl _) [] (by simp; omega)
  rw [List.nil_append] at hw
  have hso := sort_mc G 503 9 (nmsE all e) (by omega)
  have hco := compact_mc G 503 9 (sortT (nmsE all e)) (by rw [sortT_len]; omega)
  rw [sortT_len] at hco
  have hcl := Lib.compact_length_le (sortT (nmsE all e))
  rw [sortT_len] at hcl
  unfold namesE
  obtain ⟨tx, cx, hx⟩ := dE_ifc e
  rw [hx] at hw ⊢
  generalize fnOf all = g at hw ⊢
  generalize nmsE all e = l at hw hso hco hcl hlen ⊢
  generalize sortT l = z at hso hco hcl ⊢
  have htk : List.take (Lib.compact z).length ((Lib.compact z ++ List.replicate (l.length - (Lib.compact z).length) []).map fun s => [dS s]) = (Lib.compact z).map fun s => [dS s] := by
    rw [List.map_append, List.take_append_of_le_length (by simp), List.take_of_length_le (by simp)]
  have hyl : (Lib.compact z ++ List.replicate (l.length - (Lib.compact z).length) []).length = l.length := by simp; omega
  generalize Lib.compact z ++ List.replicate (l.length - (Lib.compact z).length) [] = y at hco htk hyl
  generalize Lib.compact z = c at hco hcl htk ⊢
  refine PureC.of_body (tyOf_good _) Tryz.func49 rfl rfl (rs := [.tmp 4]) Tryz.results49 (by simp [Tryz.ntmps49]) fun X => ?_
  simp only [Tryz.ntmps49, List.map]
  refine AW_rg (tyOf_good _) [0, 3] [3] (fun _ _ => trivial) fun K' hK' => ?_
  repeat (refine sxf_next fun K2 hK2 => ?_; simp [dNum, dS, nRow, pairA, assertA]; (repeat (refine ⟨by omega, ?_⟩)); refine hK2 _ ?_; clear hK2 K2)
  refine sxf_nil (hK' _ ?_)
  refine AW.st (by simp [dNum, dS, nRow, pairA, assertA]; rfl) ?_
  clear hK' K'
  refine AW.imp (Imp.freezeB 3 trivial) ?_
  refine AW.st (by simp [dNum, dS, nRow, pairA, assertA]; rfl) ?_
  refine AW_rg (tyOf_good _) [0, 3, 5] [5] (fun _ _ => trivial) fun K' hK' => ?_
  repeat (refine sxf_next fun K2 hK2 => ?_; simp [dNum, dS, nRow, pairA, assertA]; (repeat (refine ⟨by omega, ?_⟩)); refine hK2 _ ?_; clear hK2 K2)
  refine sxf_nil (hK' _ ?_)
  refine AW.st (by simp [dNum, dS, nRow, pairA, assertA]; rfl) ?_
  clear hK' K'
  refine AW.imp (Imp.ren (r := 5) (r' := 502) trivial (by simp)) ?_
  refine AW.st (by simp [renO, renF, Go.Av.ren, renH_one]; rfl) ?_
  refine AW.imp (Imp.adoptCell 502 0 503 9 1 rfl rfl rfl) ?_
  refine AW.imp (τ := ⟨lst [(0, .d (.ifc tx cx)), (3, .d (.ip [.fn (.func g) []])), (5, .ref 502 0 0)], hlst (nRow [])⟩) ?_ ?_
  · refine Imp.to' (fun _ _ => trivial) (by simp [dNum, dS, nRow, pairA, assertA, nRow]) (by simp [dNum, dS, nRow, pairA, assertA, nRow])
  refine AW_rg (tyOf_good _) [5] [502, 503] (fun _ _ => trivial) fun K' hK' => ?_
  repeat (refine sxf_next fun K2 hK2 => ?_; simp [dNum, dS, nRow, pairA, assertA]; (repeat (refine ⟨by omega, ?_⟩)); refine hK2 _ ?_; clear hK2 K2)
  refine sxf_next fun K2 hK2 => ?_
  simp [dNum, dS, nRow, pairA, assertA]
  refine callK.mc (hw) (by simp [dNum, dS, nRow, pairA, assertA]) (by simp [dNum, dS, nRow, pairA, assertA]) (by simp [dNum, dS, nRow, pairA, assertA]) (by simp [dNum, dS, nRow, pairA, assertA]) ?_
  simp [dNum, dS, nRow, pairA, assertA]
  refine hK2 _ ?_
  clear hK2 K2
  repeat (refine sxf_next fun K2 hK2 => ?_; simp [dNum, dS, nRow, pairA, assertA]; (repeat (refine ⟨by omega, ?_⟩)); refine hK2 _ ?_; clear hK2 K2)
  refine sxf_nil (hK' _ ?_)
  refine AW.st (by simp [dNum, dS, nRow, pairA, assertA]; rfl) ?_
  clear hK' K'
  refine AW_rg (tyOf_good _) [5] [502, 503] (fun _ _ => trivial) fun K' hK' => ?_
  repeat (refine sxf_next fun K2 hK2 => ?_; simp [dNum, dS, nRow, pairA, assertA]; (repeat (refine ⟨by omega, ?_⟩)); refine hK2 _ ?_; clear hK2 K2)
  refine sxf_next fun K2 hK2 => ?_
  simp [dNum, dS, nRow, pairA, assertA]
  refine callK.mc (hso) (by simp [dNum, dS, nRow, pairA, assertA]) (by simp [dNum, dS, nRow, pairA, assertA]) (by simp [dNum, dS, nRow, pairA, assertA]) (by simp [dNum, dS, nRow, pairA, assertA]) ?_
  simp [dNum, dS, nRow, pairA, assertA]
  refine hK2 _ ?_
  clear hK2 K2
  repeat (refine sxf_next fun K2 hK2 => ?_; simp [dNum, dS, nRow, pairA, assertA]; (repeat (refine ⟨by omega, ?_⟩)); refine hK2 _ ?_; clear hK2 K2)
  refine sxf_nil (hK' _ ?_)
  refine AW.st (by simp [dNum, dS, nRow, pairA, assertA]; rfl) ?_
  clear hK' K'
  refine AW_rg (tyOf_good _) [4] [502, 503] (fun _ _ => trivial) fun K' hK' => ?_
  repeat (refine sxf_next fun K2 hK2 => ?_; simp [dNum, dS, nRow, pairA, assertA]; (repeat (refine ⟨by omega, ?_⟩)); refine hK2 _ ?_; clear hK2 K2)
  refine sxf_next fun K2 hK2 => ?_
  simp [dNum, dS, nRow, pairA, assertA]
  refine callK.mc (hco) (by simp [dNum, dS, nRow, pairA, assertA]) (by simp [dNum, dS, nRow, pairA, assertA]) (by simp [dNum, dS, nRow, pairA, assertA]) (by simp [dNum, dS, nRow, pairA, assertA]) ?_
  simp [dNum, dS, nRow, pairA, assertA]
  refine hK2 _ ?_
  clear hK2 K2
  repeat (refine sxf_next fun K2 hK2 => ?_; simp [dNum, dS, nRow, pairA, assertA]; (repeat (refine ⟨by omega, ?_⟩)); refine hK2 _ ?_; clear hK2 K2)
  refine sxf_nil (hK' _ ?_)
  refine AW.st (by simp [dNum, dS, nRow, pairA, assertA]; rfl) ?_
  clear hK' K'
  have hle : c.length ≤ y.length := by omega
  by_cases hcy : c.length = y.length
  · have htk2 : (y.map fun s => [dS s]) = c.map fun s => [dS s] := by rw [← htk, hcy, List.take_of_length_le (by simp)]
    simp only [dS] at htk2
    refine AW.imp (Imp.freeze 503 trivial) ?_
    refine AW.st (by simp [dNum, dS, nRow, pairA, assertA, hcy, hle, htk2]; rfl) ?_
    refine AW_ret ?_
    simp [D.le, D.le.go, takeMap, dNum, dS, nRow, pairA, assertA, D.le_refl, D.leGo_refl, hcy, htk2]
  · simp only [dS] at htk
    refine AW.imp (Imp.freeze 503 trivial) ?_
    refine AW.st (by simp [dNum, dS, nRow, pairA, assertA, hcy, hle, htk]; rfl) ?_
    refine AW_ret ?_
    simp [D.le, D.le.go, takeMap, dNum, dS, nRow, pairA, assertA, D.le_refl, D.leGo_refl, htk]
theorem namesE_spec (G : Glob) (e : Ex) (hb : bE e ≤ 2^28) : PureC Tryz.prog G 20 [dE e] (.sl none ((namesE true e).map fun s => [dS s])) := by
  have hs := sorted_spec G true e hb
  obtain ⟨tx, cx, hx⟩ := dE_ifc e
  rw [hx] at hs ⊢
  generalize namesE true e = l at hs ⊢
  simp only [fnOf, if_true, if_false, Bool.false_eq_true] at hs
  refine PureC.of_body (tyOf_good _) Tryz.func20 rfl rfl (rs := [.tmp 2]) Tryz.results20 (by simp [Tryz.ntmps20]) fun X => ?_
  simp only [Tryz.ntmps20, List.map]
  refine AW_rg (tyOf_good _) [0] [] (fun _ _ => trivial) fun K' hK' => ?_
  repeat (refine sxf_next fun K2 hK2 => ?_; simp [dNum, dS, nRow, pairA, assertA]; (repeat (refine ⟨by omega, ?_⟩)); refine hK2 _ ?_; clear hK2 K2)
  refine sxf_nil (hK' _ ?_)
  refine AW.st (by simp [dNum, dS, nRow, pairA, assertA]; rfl) ?_
  clear hK' K'
  refine AW_rg (tyOf_good _) [2] [] (fun _ _ => trivial) fun K' hK' => ?_
  repeat (refine sxf_next fun K2 hK2 => ?_; simp [dNum, dS, nRow, pairA, assertA]; (repeat (refine ⟨by omega, ?_⟩)); refine hK2 _ ?_; clear hK2 K2)
  refine sxf_next fun K2 hK2 => ?_
  simp [dNum, dS, nRow, pairA, assertA]
  refine callK.data (hs) (by simp; rfl) (by first | exact D.leGo_refl _ | simp [takeMap, List.map_map, Function.comp_def, D.le, D.le.go, D.le_refl, D.leGo_refl, dNum, dS, nRow, pairA, assertA]) ?_
  refine hK2 _ ?_
  clear hK2 K2
  simp only [putd, upd_lst]
  repeat (refine sxf_next fun K2 hK2 => ?_; simp [dNum, dS, nRow, pairA, assertA]; (repeat (refine ⟨by omega, ?_⟩)); refine hK2 _ ?_; clear hK2 K2)
  refine sxf_nil (hK' _ ?_)
  refine AW.st (by simp [dNum, dS, nRow, pairA, assertA]; rfl) ?_
  clear hK' K'
  refine AW_ret ?_
  simp [D.le, D.le.go, takeMap, dNum, dS, nRow, pairA, assertA, D.le_refl, D.leGo_refl]
theorem edgesE_spec (G : Glob) (e : Ex) (hb : bE e ≤ 2^28) : PureC Tryz.prog G 21 [dE e] (.sl none ((namesE false e).map fun s => [dS s])) := by
  have hs := sorted_spec G false e hb
  obtain ⟨tx, cx, hx⟩ := dE_ifc e
  rw [hx] at hs ⊢
  generalize namesE false e = l at hs ⊢
  simp only [fnOf, if_true, if_false, Bool.false_eq_true] at hs
  refine PureC.of_body (tyOf_good _) Tryz.func21 rfl rfl (rs := [.tmp 2]) Tryz.results21 (by simp [Tryz.ntmps21]) fun X => ?_
  simp only [Tryz.ntmps21, List.map]
  refine AW_rg (tyOf_good _) [0] [] (fun _ _ => trivial) fun K' hK' => ?_
  repeat (refine sxf_next fun K2 hK2 => ?_; simp [dNum, dS, nRow, pairA, assertA]; (repeat (refine ⟨by omega, ?_⟩)); refine hK2 _ ?_; clear hK2 K2)
  refine sxf_nil (hK' _ ?_)
  refine AW.st (by simp [dNum, dS, nRow, pairA, assertA]; rfl) ?_
  clear hK' K'
  refine AW_rg (tyOf_good _) [2] [] (fun _ _ => trivial) fun K' hK' => ?_
  repeat (refine sxf_next fun K2 hK2 => ?_; simp [dNum, dS, nRow, pairA, assertA]; (repeat (refine ⟨by omega, ?_⟩)); refine hK2 _ ?_; clear hK2 K2)
  refine sxf_next fun K2 hK2 => ?_
  simp [dNum, dS, nRow, pairA, assertA]
  refine callK.data (hs) (by simp; rfl) (by first | exact D.leGo_refl _ | simp [takeMap, List.map_map, Function.comp_def, D.le, D.le.go, D.le_refl, D.leGo_refl, dNum, dS, nRow, pairA, assertA]) ?_
  refine hK2 _ ?_
  clear hK2 K2
  simp only [putd, upd_lst]
  repeat (refine sxf_next fun K2 hK2 => ?_; simp [dNum, dS, nRow, pairA, assertA]; (repeat (refine ⟨by omega, ?_⟩)); refine hK2 _ ?_; clear hK2 K2)
  refine sxf_nil (hK' _ ?_)
  refine AW.st (by simp [dNum, dS, nRow, pairA, assertA]; rfl) ?_
  clear hK' K'
  refine AW_ret ?_
  simp [D.le, D.le.go, takeMap, dNum, dS, nRow, pairA, assertA, D.le_refl, D.leGo_refl]
end Go.Proofs.YtagfbbnlbncjlaaGreatDoor

/-
  Plain: texts put in order one by one, each once, are what sort and compact make of them.
-/
namespace Go.Proofs.YtagfbbnlbncjlaaGreatDoor
set_option linter.unusedSimpArgs false
set_option linter.unusedVariables false
open Go.Av

abbrev Tx := List UInt8
theorem tx_irr (a : Tx) : ¬ a < a := List.lt_irrefl a
theorem tx_trans {a b c : Tx} (h1 : a < b) (h2 : b < c) : a < c := List.lt_trans h1 h2
theorem tx_le {a b : Tx} : a ≤ b ↔ ¬ b < a := Iff.rfl
theorem tx_tri {a b : Tx} (h1 : ¬ a < b) (h2 : ¬ b < a) : a = b := List.le_antisymm (tx_le.2 h2) (tx_le.2 h1)

def insT (s : Tx) : List Tx → List Tx
  | [] => [s]
  | y :: l => if y < s then y :: insT s l else if y = s then y :: l else s :: y :: l
theorem insT_mem {s x : Tx} : ∀ {l : List Tx}, x ∈ insT s l ↔ x = s ∨ x ∈ l
  | [] => by simp [insT]
  | y :: l => by
    rw [insT]
    by_cases h1 : y < s
    · rw [if_pos h1, List.mem_cons, insT_mem, List.mem_cons]
      constructor
      · rintro (h | h | h) <;> simp [h]
      · rintro (h | h | h) <;> simp [h]
    · rw [if_neg h1]
      by_cases h2 : y = s
      · rw [if_pos h2]; subst h2; simp
      · rw [if_neg h2]; simp
theorem insT_srt (s : Tx) : ∀ {l : List Tx}, l.Pairwise (· < ·) → (insT s l).Pairwise (· < ·)
  | [], _ => by simp [insT]
  | y :: l, h => by
    obtain ⟨ha, hb⟩ := List.pairwise_cons.1 h
    rw [insT]
    by_cases h1 : y < s
    · rw [if_pos h1]
      refine List.pairwise_cons.2 ⟨fun x hx => ?_, insT_srt s hb⟩
      rcases insT_mem.1 hx with rfl | hx
      · exact h1
      · exact ha x hx
    · rw [if_neg h1]
      by_cases h2 : y = s
      · rw [if_pos h2]; exact h
      · rw [if_neg h2]
        have h3 : s < y := Classical.byContradiction fun hn => h2 (tx_tri h1 hn)
        refine List.pairwise_cons.2 ⟨fun x hx => ?_, h⟩
        rcases List.mem_cons.1 hx with rfl | hx
        · exact h3
        · exact tx_trans h3 (ha x hx)
theorem insT_len (s : Tx) : ∀ l : List Tx, (insT s l).length ≤ l.length + 1
  | [] => by simp [insT]
  | y :: l => by
    have := insT_len s l
    rw [insT]
    split
    · simp; omega
    · split <;> simp
def insL (l ss : List Tx) : List Tx := ss.foldl (fun l s => insT s l) l
theorem insL_len : ∀ (ss l : List Tx), (insL l ss).length ≤ l.length + ss.length
  | [], l => by simp [insL]
  | s :: ss, l => by
    have h1 := insL_len ss (insT s l)
    have h2 := insT_len s l
    have h3 : insL l (s :: ss) = insL (insT s l) ss := rfl
    rw [h3, List.length_cons]
    omega
theorem insL_mem {x : Tx} : ∀ (ss l : List Tx), x ∈ insL l ss ↔ x ∈ l ∨ x ∈ ss
  | [], l => by simp [insL]
  | s :: ss, l => by
    have h3 : insL l (s :: ss) = insL (insT s l) ss := rfl
    rw [h3, insL_mem ss, insT_mem, List.mem_cons]
    constructor
    · rintro ((h | h) | h) <;> simp [h]
    · rintro (h | h | h) <;> simp [h]
theorem insL_srt : ∀ (ss l : List Tx), l.Pairwise (· < ·) → (insL l ss).Pairwise (· < ·)
  | [], l, h => h
  | s :: ss, l, h => insL_srt ss _ (insT_srt s h)
/-- In order, each once: the members tell the list. -/
theorem srt_eq : ∀ {a b : List Tx}, a.Pairwise (· < ·) → b.Pairwise (· < ·) → (∀ x, x ∈ a ↔ x ∈ b) → a = b
  | [], [], _, _, _ => rfl
  | [], y :: b, _, _, h => absurd ((h y).2 (by simp)) (by simp)
  | x :: a, [], _, _, h => absurd ((h x).1 (by simp)) (by simp)
  | x :: a, y :: b, ha, hb, h => by
    obtain ⟨ha1, ha2⟩ := List.pairwise_cons.1 ha
    obtain ⟨hb1, hb2⟩ := List.pairwise_cons.1 hb
    have hxy : x = y := by
      rcases List.mem_cons.1 ((h x).1 (by simp)) with e | hx
      · exact e
      · rcases List.mem_cons.1 ((h y).2 (by simp)) with e | hy
        · exact e.symm
        · exact absurd (tx_trans (hb1 x hx) (ha1 y hy)) (tx_irr _)
    subst hxy
    rw [srt_eq ha2 hb2 fun z => ?_]
    constructor
    · intro hz
      rcases List.mem_cons.1 ((h z).1 (by simp [hz])) with e | e
      · subst e; exact absurd (ha1 z hz) (tx_irr _)
      · exact e
    · intro hz
      rcases List.mem_cons.1 ((h z).2 (by simp [hz])) with e | e
      · subst e; exact absurd (hb1 z hz) (tx_irr _)
      · exact e
/-! ### compact behind sort -/
theorem mem_upTo (d : Array Tx) : ∀ (m : Nat), m ≤ d.size → ∀ j, j < m → d[j]! ∈ Lib.compactUpTo d m
  | 0, _, j, h => by omega
  | m + 1, hm, j, hj => by
    rw [Lib.compactUpTo_succ]
    by_cases hjm : j < m
    · exact List.mem_append_left _ (mem_upTo d m (by omega) j hjm)
    · obtain rfl : j = m := by omega
      by_cases hk : Lib.keeps d j = true
      · exact List.mem_append_right _ (by simp [hk])
      · have hj0 : j ≠ 0 := by rintro rfl; exact hk (Lib.keeps_lt_one d 0 (by omega))
        have he : d[j]! = d[j - 1]! := by
          unfold Lib.keeps at hk
          simp [hj0] at hk
          first | exact hk | exact hk.symm
        rw [he]
        exact List.mem_append_left _ (mem_upTo d j (by omega) (j - 1) (by omega))
theorem upTo_mem (d : Array Tx) : ∀ (m : Nat), m ≤ d.size → ∀ x ∈ Lib.compactUpTo d m, ∃ j, j < m ∧ x = d[j]!
  | 0, _, x, h => by simp [Lib.compactUpTo] at h
  | m + 1, hm, x, h => by
    rw [Lib.compactUpTo_succ] at h
    rcases List.mem_append.1 h with h | h
    · obtain ⟨j, hj, e⟩ := upTo_mem d m (by omega) x h
      exact ⟨j, by omega, e⟩
    · split at h
      · simp at h; exact ⟨m, by omega, h⟩
      · simp at h
theorem upTo_srt (d : Array Tx) (hs : ∀ i j, i ≤ j → j < d.size → d[i]! ≤ d[j]!) : ∀ (m : Nat), m ≤ d.size → (Lib.compactUpTo d m).Pairwise (· < ·)
  | 0, _ => by simp [Lib.compactUpTo]
  | m + 1, hm => by
    have ih := upTo_srt d hs m (by omega)
    rw [Lib.compactUpTo_succ]
    by_cases hk : Lib.keeps d m = true
    · rw [if_pos hk, List.pairwise_append]
      refine ⟨ih, by simp, fun a ha b hb => ?_⟩
      rw [List.mem_singleton] at hb
      subst hb
      obtain ⟨j, hj, rfl⟩ := upTo_mem d m (by omega) a ha
      have hne : d[m]! ≠ d[m - 1]! := by
        intro he
        rw [Lib.keeps_neg (by omega) he] at hk
        cases hk
      have h1 := hs j (m - 1) (by omega) (by omega)
      have h2 := hs (m - 1) m (by omega) (by omega)
      have h3 : d[m - 1]! < d[m]! := Classical.byContradiction fun hn => hne (tx_tri (tx_le.1 h2) hn)
      exact Classical.byContradiction fun hn => by
        have h4 : d[m]! ≤ d[j]! := tx_le.2 hn
        exact (tx_le.1 (List.le_trans h4 h1)) h3
    · rw [if_neg hk, List.append_nil]
      exact ih
theorem namesE_srt (all : Bool) (e : Ex) : (namesE all e).Pairwise (· < ·) := by
  unfold namesE Lib.compact
  refine upTo_srt _ (fun i j hij hj => ?_) _ (by simp)
  have hp : (sortT (nmsE all e)).Pairwise (· ≤ ·) := by
    unfold sortT
    have := List.pairwise_mergeSort (le := fun x y : Tx => decide (x ≤ y)) (by intro a b c h1 h2; simp only [decide_eq_true_eq] at *; exact List.le_trans h1 h2) (by intro a b; simp only [Bool.or_eq_true, decide_eq_true_eq]; exact List.le_total a b) (nmsE all e)
    exact this.imp fun h => by simpa using h
  generalize sortT (nmsE all e) = l at hp hj ⊢
  have hj' : j < l.length := by simpa using hj
  rw [getElem!_pos l.toArray i (by simpa using (by omega : i < l.length)), getElem!_pos l.toArray j (by simpa using hj')]
  simp only [List.getElem_toArray]
  by_cases he : i = j
  · subst he; exact List.le_refl _
  · exact (List.pairwise_iff_getElem.1 hp) i j (by omega) hj' (by omega)
theorem namesE_mem {all : Bool} {e : Ex} {s : Tx} : s ∈ namesE all e ↔ s ∈ nmsE all e := by
  unfold namesE
  have h0 : ∀ l : List Tx, s ∈ Lib.compact l ↔ s ∈ l := by
    intro l
    unfold Lib.compact
    constructor
    · intro h
      obtain ⟨j, hj, rfl⟩ := upTo_mem l.toArray l.length (by simp) s h
      rw [getElem!_pos l.toArray j (by simpa using hj)]
      simp
    · intro h
      obtain ⟨j, hj, rfl⟩ := List.mem_iff_getElem.1 h
      have := mem_upTo l.toArray l.length (by simp) j hj
      rw [getElem!_pos l.toArray j (by simpa using hj)] at this
      simpa using this
  rw [h0]
  unfold sortT
  exact List.mem_mergeSort
/-- What is put in order one by one is what sort and compact make. -/
theorem insL_names (all : Bool) (e : Ex) : insL [] (nmsE all e) = namesE all e := by
  refine srt_eq (insL_srt _ _ (by simp)) (namesE_srt all e) fun x => ?_
  rw [insL_mem, namesE_mem]
  simp
end Go.Proofs.YtagfbbnlbncjlaaGreatDoor

/-
  ExprParse, and what ExprParses says.
-/
namespace Go.Proofs.YtagfbbnlbncjlaaGreatDoor
set_option linter.unusedSimpArgs false
set_option linter.unusedVariables false
open Go.Av

theorem parse_none {t : List UInt8} {e : Int × Option Nat} (h : (parseM t).2 = some e) : (parseM t).1 = none := by
  unfold parseM at h ⊢
  split at h
  · rw [if_pos ‹_›]
  · rw [if_neg ‹_›]
    split at h
    · rfl
    · split at h
      · rw [if_pos ‹_›]
      · cases h
theorem parse_some {t : List UInt8} (h : (parseM t).2 = none) : ∃ x, (parseM t).1 = some x := by
  unfold parseM at h ⊢
  split at h
  · cases h
  · rw [if_neg ‹_›]
    split at h
    · cases h
    · split at h
      · cases h
      · rw [if_neg ‹_›]
        exact ⟨_, rfl⟩

end Go.Proofs.YtagfbbnlbncjlaaGreatDoor

/-
  What an expression says: Eval; names among some.
-/
namespace Go.Proofs.YtagfbbnlbncjlaaGreatDoor
set_option linter.unusedSimpArgs false
set_option linter.unusedVariables false
open Go.Av

theorem idx_some {α : Type} (p : α → Bool) (l : List α) : decide (0 ≤ idx p l) = l.any p := by
  unfold idx
  cases h : l.findIdx? p with
  | none =>
    rw [List.findIdx?_eq_none_iff] at h
    have : l.any p = false := by rw [List.any_eq_false]; intro x hx; simp [h x hx]
    rw [this]; simp
  | some i =>
    rw [List.findIdx?_eq_some_iff_getElem] at h
    obtain ⟨hi, hp, _⟩ := h
    have : l.any p = true := List.any_eq_true.2 ⟨_, List.getElem_mem hi, hp⟩
    rw [this]; simp
theorem evA_any (is was : List UInt8 → Bool) : ∀ l : List Ex, evA is was l = !(l.any fun e => !evE is was e)
  | [] => rfl
  | e :: l => by rw [evA, evA_any is was l]; simp
theorem evO_any (is was : List UInt8 → Bool) : ∀ l : List Ex, evO is was l = l.any fun e => evE is was e
  | [] => rfl
  | e :: l => by rw [evO, evO_any is was l]; simp

set_option maxHeartbeats 1000000 in
theorem indexAnd_spec (G : Glob) (k : Option Bool) (xs : List Ex) (g : FuncId) (caps : List D) (p : Ex → Bool) (hl : xs.length < 2^63) (ha : ∀ x ∈ xs, PureC Tryz.prog G g (dE x :: caps) (.v (.bool (p x)))) :
    PureC Tryz.prog G 89 [.sl k (xs.map fun x => [dE x]), .fn (.func g) caps] (.v (.int .i64 (idx p xs))) := by
  refine PureC.of_body (tyOf_good _) Tryz.func89 rfl rfl (rs := [.tmp 4]) Tryz.results89 (by simp [Tryz.ntmps89]) fun X => ?_
  simp only [Tryz.ntmps89, List.map]
  refine AW_rg (tyOf_good _) [0, 1] [] (fun _ _ => trivial) fun K' hK' => ?_
  repeat (refine sxf_next fun K2 hK2 => ?_; simp; (repeat (refine ⟨by omega, ?_⟩)); refine hK2 _ ?_; clear hK2 K2)
  refine sxf_nil (hK' _ ?_)
  refine AW.st (by simp; rfl) ?_
  clear hK' K'
  refine AW_then fun K1 hK1 => ?_
  refine AW_rg (tyOf_good _) [0, 1, 7, 8] [] (fun _ _ => trivial) fun K' hK' => ?_
  repeat (refine sxf_next fun K2 hK2 => ?_; simp; (repeat (refine ⟨by omega, ?_⟩)); refine hK2 _ ?_; clear hK2 K2)
  refine sxf_nil (hK' _ ?_)
  refine AW.st (by simp; rfl) ?_
  clear hK' K'
  refine AW_for (S := Nat) (fun n => n ≤ xs.length ∧ ∀ i (hi : i < xs.length), i < n → p xs[i] = false) (fun n => ⟨lst [(0, .d (.sl k (xs.map fun x => [dE x]))), (1, .d (.fn (.func g) caps)), (7, int xs.length), (8, int n)], hlst []⟩) (fun n => xs.length - n) 0 ?_ (by simp) ?_
  · refine Imp.to' (fun _ _ => trivial) (by simp) (by simp)
  · rintro n ⟨hn, hp⟩
    refine AW_rg (tyOf_good _) [0, 1, 7, 8, 9] [] (fun _ _ => trivial) fun K' hK' => ?_
    repeat (refine sxf_next fun K2 hK2 => ?_; simp; (repeat (refine ⟨by omega, ?_⟩)); refine hK2 _ ?_; clear hK2 K2)
    refine sxf_nil (hK' _ ?_)
    refine AW.st (by simp; rfl) ?_
    clear hK' K'
    refine AW_then fun K2 hK2 => ?_
    refine AW_cond' (b := n < xs.length) (by simp [D.le, D.le.go, takeMap]) (fun hc => ?_) (fun hc => ?_)
    · have hax := ha xs[n] (by simp)
      refine AW_skip (hK2 _ ?_)
      refine AW_then fun K3 hK3 => ?_
      refine AW_block ?_
      refine AW_rg (tyOf_good _) [0, 1, 5, 7, 8] [] (fun _ _ => trivial) fun K' hK' => ?_
      repeat (refine sxf_next fun K2 hK2 => ?_; simp; (repeat (refine ⟨by omega, ?_⟩)); refine hK2 _ ?_; clear hK2 K2)
      refine sxf_nil (hK' _ ?_)
      refine AW.st (by simp; rfl) ?_
      clear hK' K'
      refine AW_rg (tyOf_good _) [0, 1, 5, 7, 8, 16] [] (fun _ _ => trivial) fun K' hK' => ?_
      repeat (refine sxf_next fun K2 hK2 => ?_; simp [hc]; (repeat (refine ⟨by omega, ?_⟩)); refine hK2 _ ?_; clear hK2 K2)
      refine sxf_next fun K2 hK2 => ?_
      simp [hc]
      refine callK.data (hax) (by simp; rfl) (by first | exact D.leGo_refl _ | simp [takeMap, List.map_map, Function.comp_def, D.le, D.le.go, D.le_refl, D.leGo_refl, hc]) ?_
      refine hK2 _ ?_
      clear hK2 K2
      simp only [putd, upd_lst]
      repeat (refine sxf_next fun K2 hK2 => ?_; simp [hc]; (repeat (refine ⟨by omega, ?_⟩)); refine hK2 _ ?_; clear hK2 K2)
      refine sxf_nil (hK' _ ?_)
      refine AW.st (by simp [hc]; rfl) ?_
      clear hK' K'
      refine AW_cond _ rfl (fun hp2 => ?_) (fun hp2 => ?_)
      · refine AW_rg (tyOf_good _) [4] [] (fun _ _ => trivial) fun K' hK' => ?_
        repeat (refine sxf_next fun K2 hK2 => ?_; simp; (repeat (refine ⟨by omega, ?_⟩)); refine hK2 _ ?_; clear hK2 K2)
        refine sxf_nil (hK' _ ?_)
        refine AW.st (by simp; rfl) ?_
        clear hK' K'
        refine AW_ret ?_
        simp [D.le, D.le.go, takeMap]
        exact (idx_hit hc hp2 fun i hi => hp i (by omega) hi).symm
      · refine AW_skip (hK3 _ ?_)
        refine AW_re (tyOf_good _) fun K' hK' => ?_
        repeat (refine sxf_next fun K2 hK2 => ?_; simp; (repeat (refine ⟨by omega, ?_⟩)); refine hK2 _ ?_; clear hK2 K2)
        refine sxf_nil (hK' _ ?_)
        clear hK' K'
        try simp only [thn, inb]
        refine Again.mk (n + 1) ⟨by omega, fun i hi hin => ?_⟩ (by omega) ?_
        · by_cases h : i = n
          · subst h; exact hp2
          · exact hp i hi (by omega)
        refine Imp.to' (fun _ _ => trivial) (by simp) (by simp)
    · refine AW_exit (hK1 _ ?_)
      refine AW_rg (tyOf_good _) [4] [] (fun _ _ => trivial) fun K' hK' => ?_
      repeat (refine sxf_next fun K2 hK2 => ?_; simp; (repeat (refine ⟨by omega, ?_⟩)); refine hK2 _ ?_; clear hK2 K2)
      refine sxf_nil (hK' _ ?_)
      refine AW.st (by simp; rfl) ?_
      clear hK' K'
      refine AW_ret ?_
      simp [D.le, D.le.go, takeMap]
      exact (idx_miss fun i hi => hp i hi (by omega)).symm
theorem containsAnd_spec (G : Glob) (k : Option Bool) (xs : List Ex) (g : FuncId) (caps : List D) (p : Ex → Bool) (hl : xs.length < 2^63) (ha : ∀ x ∈ xs, PureC Tryz.prog G g (dE x :: caps) (.v (.bool (p x)))) :
    PureC Tryz.prog G 55 [.sl k (xs.map fun x => [dE x]), .fn (.func g) caps] (.v (.bool (xs.any p))) := by
  have hi := indexAnd_spec G k xs g caps p hl ha
  have hd := idx_some p xs
  generalize idx p xs = r at hi hd
  rw [← hd]
  refine PureC.of_body (tyOf_good _) Tryz.func55 rfl rfl (rs := [.tmp 4]) Tryz.results55 (by simp [Tryz.ntmps55]) fun X => ?_
  simp only [Tryz.ntmps55, List.map]
  refine AW_rg (tyOf_good _) [0, 1] [] (fun _ _ => trivial) fun K' hK' => ?_
  repeat (refine sxf_next fun K2 hK2 => ?_; simp; (repeat (refine ⟨by omega, ?_⟩)); refine hK2 _ ?_; clear hK2 K2)
  refine sxf_nil (hK' _ ?_)
  refine AW.st (by simp; rfl) ?_
  clear hK' K'
  refine AW_rg (tyOf_good _) [4] [] (fun _ _ => trivial) fun K' hK' => ?_
  repeat (refine sxf_next fun K2 hK2 => ?_; simp; (repeat (refine ⟨by omega, ?_⟩)); refine hK2 _ ?_; clear hK2 K2)
  refine sxf_next fun K2 hK2 => ?_
  simp
  refine callK.data (hi) (by simp; rfl) (by first | exact D.leGo_refl _ | simp [takeMap, List.map_map, Function.comp_def, D.le, D.le.go, D.le_refl, D.leGo_refl]) ?_
  refine hK2 _ ?_
  clear hK2 K2
  simp only [putd, upd_lst]
  repeat (refine sxf_next fun K2 hK2 => ?_; simp; (repeat (refine ⟨by omega, ?_⟩)); refine hK2 _ ?_; clear hK2 K2)
  refine sxf_nil (hK' _ ?_)
  refine AW.st (by simp; rfl) ?_
  clear hK' K'
  refine AW_ret ?_
  simp [D.le, D.le.go, takeMap]

set_option maxHeartbeats 1000000 in
theorem indexOr_spec (G : Glob) (k : Option Bool) (xs : List Ex) (g : FuncId) (caps : List D) (p : Ex → Bool) (hl : xs.length < 2^63) (ha : ∀ x ∈ xs, PureC Tryz.prog G g (dE x :: caps) (.v (.bool (p x)))) :
    PureC Tryz.prog G 90 [.sl k (xs.map fun x => [dE x]), .fn (.func g) caps] (.v (.int .i64 (idx p xs))) := by
  refine PureC.of_body (tyOf_good _) Tryz.func90 rfl rfl (rs := [.tmp 4]) Tryz.results90 (by simp [Tryz.ntmps90]) fun X => ?_
  simp only [Tryz.ntmps90, List.map]
  refine AW_rg (tyOf_good _) [0, 1] [] (fun _ _ => trivial) fun K' hK' => ?_
  repeat (refine sxf_next fun K2 hK2 => ?_; simp; (repeat (refine ⟨by omega, ?_⟩)); refine hK2 _ ?_; clear hK2 K2)
  refine sxf_nil (hK' _ ?_)
  refine AW.st (by simp; rfl) ?_
  clear hK' K'
  refine AW_then fun K1 hK1 => ?_
  refine AW_rg (tyOf_good _) [0, 1, 7, 8] [] (fun _ _ => trivial) fun K' hK' => ?_
  repeat (refine sxf_next fun K2 hK2 => ?_; simp; (repeat (refine ⟨by omega, ?_⟩)); refine hK2 _ ?_; clear hK2 K2)
  refine sxf_nil (hK' _ ?_)
  refine AW.st (by simp; rfl) ?_
  clear hK' K'
  refine AW_for (S := Nat) (fun n => n ≤ xs.length ∧ ∀ i (hi : i < xs.length), i < n → p xs[i] = false) (fun n => ⟨lst [(0, .d (.sl k (xs.map fun x => [dE x]))), (1, .d (.fn (.func g) caps)), (7, int xs.length), (8, int n)], hlst []⟩) (fun n => xs.length - n) 0 ?_ (by simp) ?_
  · refine Imp.to' (fun _ _ => trivial) (by simp) (by simp)
  · rintro n ⟨hn, hp⟩
    refine AW_rg (tyOf_good _) [0, 1, 7, 8, 9] [] (fun _ _ => trivial) fun K' hK' => ?_
    repeat (refine sxf_next fun K2 hK2 => ?_; simp; (repeat (refine ⟨by omega, ?_⟩)); refine hK2 _ ?_; clear hK2 K2)
    refine sxf_nil (hK' _ ?_)
    refine AW.st (by simp; rfl) ?_
    clear hK' K'
    refine AW_then fun K2 hK2 => ?_
    refine AW_cond' (b := n < xs.length) (by simp [D.le, D.le.go, takeMap]) (fun hc => ?_) (fun hc => ?_)
    · have hax := ha xs[n] (by simp)
      refine AW_skip (hK2 _ ?_)
      refine AW_then fun K3 hK3 => ?_
      refine AW_block ?_
      refine AW_rg (tyOf_good _) [0, 1, 5, 7, 8] [] (fun _ _ => trivial) fun K' hK' => ?_
      repeat (refine sxf_next fun K2 hK2 => ?_; simp; (repeat (refine ⟨by omega, ?_⟩)); refine hK2 _ ?_; clear hK2 K2)
      refine sxf_nil (hK' _ ?_)
      refine AW.st (by simp; rfl) ?_
      clear hK' K'
      refine AW_rg (tyOf_good _) [0, 1, 5, 7, 8, 16] [] (fun _ _ => trivial) fun K' hK' => ?_
      repeat (refine sxf_next fun K2 hK2 => ?_; simp [hc]; (repeat (refine ⟨by omega, ?_⟩)); refine hK2 _ ?_; clear hK2 K2)
      refine sxf_next fun K2 hK2 => ?_
      simp [hc]
      refine callK.data (hax) (by simp; rfl) (by first | exact D.leGo_refl _ | simp [takeMap, List.map_map, Function.comp_def, D.le, D.le.go, D.le_refl, D.leGo_refl, hc]) ?_
      refine hK2 _ ?_
      clear hK2 K2
      simp only [putd, upd_lst]
      repeat (refine sxf_next fun K2 hK2 => ?_; simp [hc]; (repeat (refine ⟨by omega, ?_⟩)); refine hK2 _ ?_; clear hK2 K2)
      refine sxf_nil (hK' _ ?_)
      refine AW.st (by simp [hc]; rfl) ?_
      clear hK' K'
      refine AW_cond _ rfl (fun hp2 => ?_) (fun hp2 => ?_)
      · refine AW_rg (tyOf_good _) [4] [] (fun _ _ => trivial) fun K' hK' => ?_
        repeat (refine sxf_next fun K2 hK2 => ?_; simp; (repeat (refine ⟨by omega, ?_⟩)); refine hK2 _ ?_; clear hK2 K2)
        refine sxf_nil (hK' _ ?_)
        refine AW.st (by simp; rfl) ?_
        clear hK' K'
        refine AW_ret ?_
        simp [D.le, D.le.go, takeMap]
        exact (idx_hit hc hp2 fun i hi => hp i (by omega) hi).symm
      · refine AW_skip (hK3 _ ?_)
        refine AW_re (tyOf_good _) fun K' hK' => ?_
        repeat (refine sxf_next fun K2 hK2 => ?_; simp; (repeat (refine ⟨by omega, ?_⟩)); refine hK2 _ ?_; clear hK2 K2)
        refine sxf_nil (hK' _ ?_)
        clear hK' K'
        try simp only [thn, inb]
        refine Again.mk (n + 1) ⟨by omega, fun i hi hin => ?_⟩ (by omega) ?_
        · by_cases h : i = n
          · subst h; exact hp2
          · exact hp i hi (by omega)
        refine Imp.to' (fun _ _ => trivial) (by simp) (by simp)
    · refine AW_exit (hK1 _ ?_)
      refine AW_rg (tyOf_good _) [4] [] (fun _ _ => trivial) fun K' hK' => ?_
      repeat (refine sxf_next fun K2 hK2 => ?_; simp; (repeat (refine ⟨by omega, ?_⟩)); refine hK2 _ ?_; clear hK2 K2)
      refine sxf_nil (hK' _ ?_)
      refine AW.st (by simp; rfl) ?_
      clear hK' K'
      refine AW_ret ?_
      simp [D.le, D.le.go, takeMap]
      exact (idx_miss fun i hi => hp i hi (by omega)).symm
theorem containsOr_spec (G : Glob) (k : Option Bool) (xs : List Ex) (g : FuncId) (caps : List D) (p : Ex → Bool) (hl : xs.length < 2^63) (ha : ∀ x ∈ xs, PureC Tryz.prog G g (dE x :: caps) (.v (.bool (p x)))) :
    PureC Tryz.prog G 57 [.sl k (xs.map fun x => [dE x]), .fn (.func g) caps] (.v (.bool (xs.any p))) := by
  have hi := indexOr_spec G k xs g caps p hl ha
  have hd := idx_some p xs
  generalize idx p xs = r at hi hd
  rw [← hd]
  refine PureC.of_body (tyOf_good _) Tryz.func57 rfl rfl (rs := [.tmp 4]) Tryz.results57 (by simp [Tryz.ntmps57]) fun X => ?_
  simp only [Tryz.ntmps57, List.map]
  refine AW_rg (tyOf_good _) [0, 1] [] (fun _ _ => trivial) fun K' hK' => ?_
  repeat (refine sxf_next fun K2 hK2 => ?_; simp; (repeat (refine ⟨by omega, ?_⟩)); refine hK2 _ ?_; clear hK2 K2)
  refine sxf_nil (hK' _ ?_)
  refine AW.st (by simp; rfl) ?_
  clear hK' K'
  refine AW_rg (tyOf_good _) [4] [] (fun _ _ => trivial) fun K' hK' => ?_
  repeat (refine sxf_next fun K2 hK2 => ?_; simp; (repeat (refine ⟨by omega, ?_⟩)); refine hK2 _ ?_; clear hK2 K2)
  refine sxf_next fun K2 hK2 => ?_
  simp
  refine callK.data (hi) (by simp; rfl) (by first | exact D.leGo_refl _ | simp [takeMap, List.map_map, Function.comp_def, D.le, D.le.go, D.le_refl, D.leGo_refl]) ?_
  refine hK2 _ ?_
  clear hK2 K2
  simp only [putd, upd_lst]
  repeat (refine sxf_next fun K2 hK2 => ?_; simp; (repeat (refine ⟨by omega, ?_⟩)); refine hK2 _ ?_; clear hK2 K2)
  refine sxf_nil (hK' _ ?_)
  refine AW.st (by simp; rfl) ?_
  clear hK' K'
  refine AW_ret ?_
  simp [D.le, D.le.go, takeMap]

/-! ### Names among some -/
set_option maxHeartbeats 2000000 in
theorem among1_spec (G : Glob) (k : Option Bool) (l : List (List UInt8)) (s : List UInt8) (hl : l.length < 2^60) : PureC Tryz.prog G 59 [dS s, .ip [.sl k (l.map fun x => [dS x])]] (.v (.bool (l.any fun x => x == s))) := by
  refine PureC.of_body (tyOf_good _) Tryz.func59 rfl rfl (rs := [.tmp 3]) Tryz.results59 (by simp [Tryz.ntmps59]) fun X => ?_
  simp only [Tryz.ntmps59, List.map]
  refine AW_rg (tyOf_good _) [0, 1] [] (fun _ _ => trivial) fun K' hK' => ?_
  repeat (refine sxf_next fun K2 hK2 => ?_; simp [dNum, dS]; (repeat (refine ⟨by omega, ?_⟩)); refine hK2 _ ?_; clear hK2 K2)
  refine sxf_nil (hK' _ ?_)
  refine AW.st (by simp [dNum, dS]; rfl) ?_
  clear hK' K'
  refine AW_then fun K1 hK1 => ?_
  refine AW_rg (tyOf_good _) [0, 1, 4] [] (fun _ _ => trivial) fun K' hK' => ?_
  repeat (refine sxf_next fun K2 hK2 => ?_; simp [dNum, dS]; (repeat (refine ⟨by omega, ?_⟩)); refine hK2 _ ?_; clear hK2 K2)
  refine sxf_nil (hK' _ ?_)
  refine AW.st (by simp [dNum, dS]; rfl) ?_
  clear hK' K'
  refine AW_for (S := Nat) (fun n => n ≤ l.length ∧ ∀ i (hi : i < l.length), i < n → (l[i] == s) = false) (fun n => ⟨lst [(0, .d (dS s)), (1, .d (.ip [.sl k (l.map fun x => [dS x])])), (4, int n)], hlst []⟩) (fun n => l.length - n) 0 ?_ (by simp) ?_
  · refine Imp.to' (fun _ _ => trivial) (by simp [dNum, dS]) (by simp [dNum, dS])
  · rintro n ⟨hn, hp⟩
    refine AW_then fun K2 hK2 => ?_
    refine AW_rg (tyOf_good _) [0, 1, 4, 8] [] (fun _ _ => trivial) fun K' hK' => ?_
    repeat (refine sxf_next fun K2 hK2 => ?_; simp [dNum, dS]; (repeat (refine ⟨by omega, ?_⟩)); refine hK2 _ ?_; clear hK2 K2)
    refine sxf_nil (hK' _ ?_)
    refine AW.st (by simp [dNum, dS]; rfl) ?_
    clear hK' K'
    refine AW_cond' (b := n < l.length) (by simp [D.le, D.le.go, takeMap, dNum, dS]) (fun hc => ?_) (fun hc => ?_)
    · have hnl : n < l.length := hc
      refine AW_skip (hK2 _ ?_)
      refine AW_then fun K3 hK3 => ?_
      refine AW_block ?_
      cases he : (l[n] == s) with
      | true =>
        have he2 : l[n] = s := by simpa using he
        refine AW_rg (tyOf_good _) [0, 1, 4, 16] [] (fun _ _ => trivial) fun K' hK' => ?_
        repeat (refine sxf_next fun K2 hK2 => ?_; simp [dNum, dS, hnl, he, he2, binS, bs_list]; (repeat (refine ⟨by omega, ?_⟩)); refine hK2 _ ?_; clear hK2 K2)
        refine sxf_nil (hK' _ ?_)
        refine AW.st (by simp [dNum, dS, hnl, he, he2, binS, bs_list]; rfl) ?_
        clear hK' K'
        refine AW_cond true rfl (fun _ => ?_) (fun h => by cases h)
        refine AW_rg (tyOf_good _) [3] [] (fun _ _ => trivial) fun K' hK' => ?_
        repeat (refine sxf_next fun K2 hK2 => ?_; simp [dNum, dS]; (repeat (refine ⟨by omega, ?_⟩)); refine hK2 _ ?_; clear hK2 K2)
        refine sxf_nil (hK' _ ?_)
        refine AW.st (by simp [dNum, dS]; rfl) ?_
        clear hK' K'
        have hany : (l.any fun x => x == s) = true := List.any_eq_true.2 ⟨_, List.getElem_mem hnl, he⟩
        refine AW_ret ?_
        simp [D.le, D.le.go, takeMap, dNum, dS, hany]
      | false =>
        have he2 : ¬ l[n] = s := by simpa using he
        refine AW_rg (tyOf_good _) [0, 1, 4, 16] [] (fun _ _ => trivial) fun K' hK' => ?_
        repeat (refine sxf_next fun K2 hK2 => ?_; simp [dNum, dS, hnl, he, he2, binS, bs_list]; (repeat (refine ⟨by omega, ?_⟩)); refine hK2 _ ?_; clear hK2 K2)
        refine sxf_nil (hK' _ ?_)
        refine AW.st (by simp [dNum, dS, hnl, he, he2, binS, bs_list]; rfl) ?_
        clear hK' K'
        refine AW_cond false rfl (fun h => by cases h) (fun _ => ?_)
        refine AW_skip (hK3 _ ?_)
        refine AW_re (tyOf_good _) fun K' hK' => ?_
        repeat (refine sxf_next fun K2 hK2 => ?_; simp [dNum, dS]; (repeat (refine ⟨by omega, ?_⟩)); refine hK2 _ ?_; clear hK2 K2)
        refine sxf_nil (hK' _ ?_)
        clear hK' K'
        try simp only [thn, inb]
        refine Again.mk (n + 1) ⟨by omega, fun i hi hin => ?_⟩ (by omega) ?_
        · by_cases h : i = n
          · subst h; exact he
          · exact hp i hi (by omega)
        refine Imp.to' (fun _ _ => trivial) (by simp [dNum, dS]) (by simp [dNum, dS])
    · refine AW_exit (hK1 _ ?_)
      have hany : (l.any fun x => x == s) = false := by
        rw [List.any_eq_false]
        intro x hx
        obtain ⟨i, hi, rfl⟩ := List.mem_iff_getElem.1 hx
        simp [hp i hi (by omega)]
      refine AW_rg (tyOf_good _) [3] [] (fun _ _ => trivial) fun K' hK' => ?_
      repeat (refine sxf_next fun K2 hK2 => ?_; simp [dNum, dS]; (repeat (refine ⟨by omega, ?_⟩)); refine hK2 _ ?_; clear hK2 K2)
      refine sxf_nil (hK' _ ?_)
      refine AW.st (by simp [dNum, dS]; rfl) ?_
      clear hK' K'
      refine AW_ret ?_
      simp [D.le, D.le.go, takeMap, dNum, dS, hany]
def dAm (k : Option Bool) (l : List (List UInt8)) : D := .fn (.func 59) [.ip [.sl k (l.map fun x => [dS x])]]
theorem among_spec (G : Glob) (k : Option Bool) (l : List (List UInt8)) : PureC Tryz.prog G 25 [.sl k (l.map fun x => [dS x])] (dAm k l) := by
  refine PureC.of_body (tyOf_good _) Tryz.func25 rfl rfl (rs := [.tmp 2]) Tryz.results25 (by simp [Tryz.ntmps25]) fun X => ?_
  simp only [Tryz.ntmps25, List.map]
  refine AW_rg (tyOf_good _) [1] [1] (fun _ _ => trivial) fun K' hK' => ?_
  repeat (refine sxf_next fun K2 hK2 => ?_; simp [dNum, dS]; (repeat (refine ⟨by omega, ?_⟩)); refine hK2 _ ?_; clear hK2 K2)
  refine sxf_nil (hK' _ ?_)
  refine AW.st (by simp [dNum, dS]; rfl) ?_
  clear hK' K'
  refine AW.imp (Imp.freezeB 1 trivial) ?_
  refine AW.st (by simp [dNum, dS]; rfl) ?_
  refine AW_rg (tyOf_good _) [2] [] (fun _ _ => trivial) fun K' hK' => ?_
  repeat (refine sxf_next fun K2 hK2 => ?_; simp [dNum, dS]; (repeat (refine ⟨by omega, ?_⟩)); refine hK2 _ ?_; clear hK2 K2)
  refine sxf_nil (hK' _ ?_)
  refine AW.st (by simp [dNum, dS]; rfl) ?_
  clear hK' K'
  refine AW_ret ?_
  simp [D.le, D.le.go, takeMap, dNum, dS, dAm, D.le_refl, D.leGo_refl]

/-! ### Eval -/
/-- A function that tells of names. -/
def Tells (G : Glob) (g : FuncId) (caps : List D) (p : List UInt8 → Bool) : Prop := ∀ s, PureC Tryz.prog G g (dS s :: caps) (.v (.bool (p s)))
theorem among_tells (G : Glob) (k : Option Bool) (l : List (List UInt8)) (hl : l.length < 2^60) : Tells G 59 [.ip [.sl k (l.map fun x => [dS x])]] (fun s => l.any fun x => x == s) := fun s => among1_spec G k l s hl

mutual
def AskE (S1 S2 : List UInt8 → Prop) : Ex → Prop
  | .cst _ => True
  | .bit s => S1 s
  | .rise s => S1 s ∧ S2 s
  | .fall s => S1 s ∧ S2 s
  | .not e => AskE S1 S2 e
  | .and l => AskL S1 S2 l
  | .or l => AskL S1 S2 l
def AskL (S1 S2 : List UInt8 → Prop) : List Ex → Prop
  | [] => True
  | e :: l => AskE S1 S2 e ∧ AskL S1 S2 l
end
theorem AskL_iff {S1 S2 : List UInt8 → Prop} : ∀ {l : List Ex}, AskL S1 S2 l ↔ ∀ x ∈ l, AskE S1 S2 x
  | [] => by simp [AskL]
  | e :: l => by rw [AskL, AskL_iff]; simp
theorem ask_all : ∀ (n : Nat) (e : Ex), SizeOf.sizeOf e ≤ n → AskE (fun _ => True) (fun _ => True) e := by
  intro n
  induction n with
  | zero => intro e hsz; cases e <;> simp at hsz
  | succ n ih =>
    intro e hsz
    cases e with
    | cst b => rw [AskE]; trivial
    | bit s => rw [AskE]; trivial
    | rise s => rw [AskE]; exact ⟨trivial, trivial⟩
    | fall s => rw [AskE]; exact ⟨trivial, trivial⟩
    | not e => rw [AskE]; exact ih e (by simp at hsz; omega)
    | and l => rw [AskE, AskL_iff]; exact fun x hx => ih x (by have := List.sizeOf_lt_of_mem hx; simp only [Ex.and.sizeOf_spec] at hsz; omega)
    | or l => rw [AskE, AskL_iff]; exact fun x hx => ih x (by have := List.sizeOf_lt_of_mem hx; simp only [Ex.or.sizeOf_spec] at hsz; omega)
/-- The same, of some names alone. -/
def TellsOn (S : List UInt8 → Prop) (G : Glob) (g : FuncId) (caps : List D) (p : List UInt8 → Bool) : Prop := ∀ s, S s → PureC Tryz.prog G g (dS s :: caps) (.v (.bool (p s)))

set_option maxHeartbeats 32000000 in
theorem eval_at (G : Glob) (g1 g2 : FuncId) (c1 c2 : List D) (is was : List UInt8 → Bool) (S1 S2 : List UInt8 → Prop) (h1 : TellsOn S1 G g1 c1 is) (h2 : TellsOn S2 G g2 c2 was) : ∀ (n : Nat) (e : Ex), SizeOf.sizeOf e ≤ n → AskE S1 S2 e → bE e ≤ 2^28 → PureC Tryz.prog G 24 [dE e, .fn (.func g1) c1, .fn (.func g2) c2] (.v (.bool (evE is was e))) := by
  intro n
  induction n with
  | zero => intro e hsz; cases e <;> simp at hsz
  | succ n ih =>
    intro e hsz hask hb
    cases e with
    | cst b =>
      rw [dE]
      refine PureC.of_body (tyOf_good _) Tryz.func24 rfl rfl (rs := [.tmp 6]) Tryz.results24 (by simp [Tryz.ntmps24]) fun X => ?_
      simp only [Tryz.ntmps24, List.map]
      refine AW_rg (tyOf_good _) [0, 4, 5] [4, 5] (fun _ _ => trivial) fun K' hK' => ?_
      repeat (refine sxf_next fun K2 hK2 => ?_; simp [dNum, dS, pairA, assertA]; (repeat (refine ⟨by omega, ?_⟩)); refine hK2 _ ?_; clear hK2 K2)
      refine sxf_nil (hK' _ ?_)
      refine AW.st (by simp [dNum, dS, pairA, assertA]; rfl) ?_
      clear hK' K'
      refine AW.imp (Imp.freezeB 4 trivial) ?_
      refine AW.st (by simp [dNum, dS, pairA, assertA]; rfl) ?_
      refine AW.imp (Imp.freezeB 5 trivial) ?_
      refine AW.st (by simp [dNum, dS, pairA, assertA]; rfl) ?_
      refine AW_then fun K1 hK1 => ?_
      refine AW_rg (tyOf_good _) [4, 5, 14] [] (fun _ _ => trivial) fun K' hK' => ?_
      repeat (refine sxf_next fun K2 hK2 => ?_; simp [dNum, dS, pairA, assertA]; (repeat (refine ⟨by omega, ?_⟩)); refine hK2 _ ?_; clear hK2 K2)
      refine sxf_nil (hK' _ ?_)
      refine AW.st (by simp [dNum, dS, pairA, assertA]; rfl) ?_
      clear hK' K'
      refine AW_block ?_
      refine AW_rg (tyOf_good _) [4, 5, 14, 16, 17] [] (fun _ _ => trivial) fun K' hK' => ?_
      repeat (refine sxf_next fun K2 hK2 => ?_; simp [dNum, dS, pairA, assertA]; (repeat (refine ⟨by omega, ?_⟩)); refine hK2 _ ?_; clear hK2 K2)
      refine sxf_nil (hK' _ ?_)
      refine AW.st (by simp [dNum, dS, pairA, assertA]; rfl) ?_
      clear hK' K'
      refine AW_cond true rfl (fun _ => ?_) (fun h => by cases h)
      refine AW_rg (tyOf_good _) [7] [] (fun _ _ => trivial) fun K' hK' => ?_
      repeat (refine sxf_next fun K2 hK2 => ?_; simp [dNum, dS, pairA, assertA]; (repeat (refine ⟨by omega, ?_⟩)); refine hK2 _ ?_; clear hK2 K2)
      refine sxf_nil (hK' _ ?_)
      refine AW.st (by simp [dNum, dS, pairA, assertA]; rfl) ?_
      clear hK' K'
      refine AW_rg (tyOf_good _) [6] [] (fun _ _ => trivial) fun K' hK' => ?_
      repeat (refine sxf_next fun K2 hK2 => ?_; simp [dNum, dS, pairA, assertA]; (repeat (refine ⟨by omega, ?_⟩)); refine hK2 _ ?_; clear hK2 K2)
      refine sxf_nil (hK' _ ?_)
      refine AW.st (by simp [dNum, dS, pairA, assertA]; rfl) ?_
      clear hK' K'
      refine AW_ret ?_
      simp [D.le, D.le.go, takeMap, dNum, dS, pairA, assertA, evE]
    | bit s =>
      rw [AskE] at hask
      have hi := h1 s hask
      rw [dE, evE]
      refine PureC.of_body (tyOf_good _) Tryz.func24 rfl rfl (rs := [.tmp 6]) Tryz.results24 (by simp [Tryz.ntmps24]) fun X => ?_
      simp only [Tryz.ntmps24, List.map]
      refine AW_rg (tyOf_good _) [0, 4, 5] [4, 5] (fun _ _ => trivial) fun K' hK' => ?_
      repeat (refine sxf_next fun K2 hK2 => ?_; simp [dNum, dS, pairA, assertA]; (repeat (refine ⟨by omega, ?_⟩)); refine hK2 _ ?_; clear hK2 K2)
      refine sxf_nil (hK' _ ?_)
      refine AW.st (by simp [dNum, dS, pairA, assertA]; rfl) ?_
      clear hK' K'
      refine AW.imp (Imp.freezeB 4 trivial) ?_
      refine AW.st (by simp [dNum, dS, pairA, assertA]; rfl) ?_
      refine AW.imp (Imp.freezeB 5 trivial) ?_
      refine AW.st (by simp [dNum, dS, pairA, assertA]; rfl) ?_
      refine AW_then fun K1 hK1 => ?_
      refine AW_rg (tyOf_good _) [4, 5, 14] [] (fun _ _ => trivial) fun K' hK' => ?_
      repeat (refine sxf_next fun K2 hK2 => ?_; simp [dNum, dS, pairA, assertA]; (repeat (refine ⟨by omega, ?_⟩)); refine hK2 _ ?_; clear hK2 K2)
      refine sxf_nil (hK' _ ?_)
      refine AW.st (by simp [dNum, dS, pairA, assertA]; rfl) ?_
      clear hK' K'
      refine AW_block ?_
      refine AW_rg (tyOf_good _) [4, 5, 14, 16, 17] [] (fun _ _ => trivial) fun K' hK' => ?_
      repeat (refine sxf_next fun K2 hK2 => ?_; simp [dNum, dS, pairA, assertA]; (repeat (refine ⟨by omega, ?_⟩)); refine hK2 _ ?_; clear hK2 K2)
      refine sxf_nil (hK' _ ?_)
      refine AW.st (by simp [dNum, dS, pairA, assertA]; rfl) ?_
      clear hK' K'
      refine AW_cond false rfl (fun h => by cases h) (fun _ => ?_)
      refine AW_rg (tyOf_good _) [4, 5, 14, 20, 21] [] (fun _ _ => trivial) fun K' hK' => ?_
      repeat (refine sxf_next fun K2 hK2 => ?_; simp [dNum, dS, pairA, assertA]; (repeat (refine ⟨by omega, ?_⟩)); refine hK2 _ ?_; clear hK2 K2)
      refine sxf_nil (hK' _ ?_)
      refine AW.st (by simp [dNum, dS, pairA, assertA]; rfl) ?_
      clear hK' K'
      refine AW_cond true rfl (fun _ => ?_) (fun h => by cases h)
      refine AW_rg (tyOf_good _) [4, 8] [] (fun _ _ => trivial) fun K' hK' => ?_
      repeat (refine sxf_next fun K2 hK2 => ?_; simp [dNum, dS, pairA, assertA]; (repeat (refine ⟨by omega, ?_⟩)); refine hK2 _ ?_; clear hK2 K2)
      refine sxf_nil (hK' _ ?_)
      refine AW.st (by simp [dNum, dS, pairA, assertA]; rfl) ?_
      clear hK' K'
      refine AW_rg (tyOf_good _) [6] [] (fun _ _ => trivial) fun K' hK' => ?_
      repeat (refine sxf_next fun K2 hK2 => ?_; simp [dNum, dS, pairA, assertA]; (repeat (refine ⟨by omega, ?_⟩)); refine hK2 _ ?_; clear hK2 K2)
      refine sxf_next fun K2 hK2 => ?_
      simp [dNum, dS, pairA, assertA]
      refine callK.data (hi) (by simp; rfl) (by first | exact D.leGo_refl _ | simp [takeMap, List.map_map, Function.comp_def, D.le, D.le.go, D.le_refl, D.leGo_refl, dNum, dS, pairA, assertA]) ?_
      refine hK2 _ ?_
      clear hK2 K2
      simp only [putd, upd_lst]
      repeat (refine sxf_next fun K2 hK2 => ?_; simp [dNum, dS, pairA, assertA]; (repeat (refine ⟨by omega, ?_⟩)); refine hK2 _ ?_; clear hK2 K2)
      refine sxf_nil (hK' _ ?_)
      refine AW.st (by simp [dNum, dS, pairA, assertA]; rfl) ?_
      clear hK' K'
      refine AW_ret ?_
      simp [D.le, D.le.go, takeMap, dNum, dS, pairA, assertA]
    | rise s =>
      rw [AskE] at hask
      have hi := h1 s hask.1
      have hw := h2 s hask.2
      rw [dE, evE]
      cases hs : is s with
      | false =>
        rw [hs] at hi
        refine PureC.of_body (tyOf_good _) Tryz.func24 rfl rfl (rs := [.tmp 6]) Tryz.results24 (by simp [Tryz.ntmps24]) fun X => ?_
        simp only [Tryz.ntmps24, List.map]
        refine AW_rg (tyOf_good _) [0, 4, 5] [4, 5] (fun _ _ => trivial) fun K' hK' => ?_
        repeat (refine sxf_next fun K2 hK2 => ?_; simp [dNum, dS, pairA, assertA]; (repeat (refine ⟨by omega, ?_⟩)); refine hK2 _ ?_; clear hK2 K2)
        refine sxf_nil (hK' _ ?_)
        refine AW.st (by simp [dNum, dS, pairA, assertA]; rfl) ?_
        clear hK' K'
        refine AW.imp (Imp.freezeB 4 trivial) ?_
        refine AW.st (by simp [dNum, dS, pairA, assertA]; rfl) ?_
        refine AW.imp (Imp.freezeB 5 trivial) ?_
        refine AW.st (by simp [dNum, dS, pairA, assertA]; rfl) ?_
        refine AW_then fun K1 hK1 => ?_
        refine AW_rg (tyOf_good _) [4, 5, 14] [] (fun _ _ => trivial) fun K' hK' => ?_
        repeat (refine sxf_next fun K2 hK2 => ?_; simp [dNum, dS, pairA, assertA]; (repeat (refine ⟨by omega, ?_⟩)); refine hK2 _ ?_; clear hK2 K2)
        refine sxf_nil (hK' _ ?_)
        refine AW.st (by simp [dNum, dS, pairA, assertA]; rfl) ?_
        clear hK' K'
        refine AW_block ?_
        refine AW_rg (tyOf_good _) [4, 5, 14, 16, 17] [] (fun _ _ => trivial) fun K' hK' => ?_
        repeat (refine sxf_next fun K2 hK2 => ?_; simp [dNum, dS, pairA, assertA]; (repeat (refine ⟨by omega, ?_⟩)); refine hK2 _ ?_; clear hK2 K2)
        refine sxf_nil (hK' _ ?_)
        refine AW.st (by simp [dNum, dS, pairA, assertA]; rfl) ?_
        clear hK' K'
        refine AW_cond false rfl (fun h => by cases h) (fun _ => ?_)
        refine AW_rg (tyOf_good _) [4, 5, 14, 20, 21] [] (fun _ _ => trivial) fun K' hK' => ?_
        repeat (refine sxf_next fun K2 hK2 => ?_; simp [dNum, dS, pairA, assertA]; (repeat (refine ⟨by omega, ?_⟩)); refine hK2 _ ?_; clear hK2 K2)
        refine sxf_nil (hK' _ ?_)
        refine AW.st (by simp [dNum, dS, pairA, assertA]; rfl) ?_
        clear hK' K'
        refine AW_cond false rfl (fun h => by cases h) (fun _ => ?_)
        refine AW_rg (tyOf_good _) [4, 5, 14, 26, 27] [] (fun _ _ => trivial) fun K' hK' => ?_
        repeat (refine sxf_next fun K2 hK2 => ?_; simp [dNum, dS, pairA, assertA]; (repeat (refine ⟨by omega, ?_⟩)); refine hK2 _ ?_; clear hK2 K2)
        refine sxf_nil (hK' _ ?_)
        refine AW.st (by simp [dNum, dS, pairA, assertA]; rfl) ?_
        clear hK' K'
        refine AW_cond true rfl (fun _ => ?_) (fun h => by cases h)
        refine AW_rg (tyOf_good _) [4, 5, 9] [] (fun _ _ => trivial) fun K' hK' => ?_
        repeat (refine sxf_next fun K2 hK2 => ?_; simp [dNum, dS, pairA, assertA]; (repeat (refine ⟨by omega, ?_⟩)); refine hK2 _ ?_; clear hK2 K2)
        refine sxf_nil (hK' _ ?_)
        refine AW.st (by simp [dNum, dS, pairA, assertA]; rfl) ?_
        clear hK' K'
        refine AW_rg (tyOf_good _) [6] [] (fun _ _ => trivial) fun K' hK' => ?_
        repeat (refine sxf_next fun K2 hK2 => ?_; simp [dNum, dS, pairA, assertA]; (repeat (refine ⟨by omega, ?_⟩)); refine hK2 _ ?_; clear hK2 K2)
        refine sxf_next fun K2 hK2 => ?_
        simp [dNum, dS, pairA, assertA]
        refine callK.data (hi) (by simp; rfl) (by first | exact D.leGo_refl _ | simp [takeMap, List.map_map, Function.comp_def, D.le, D.le.go, D.le_refl, D.leGo_refl, dNum, dS, pairA, assertA]) ?_
        refine hK2 _ ?_
        clear hK2 K2
        simp only [putd, upd_lst]
        repeat (refine sxf_next fun K2 hK2 => ?_; simp [dNum, dS, pairA, assertA]; (repeat (refine ⟨by omega, ?_⟩)); refine hK2 _ ?_; clear hK2 K2)
        refine sxf_nil (hK' _ ?_)
        refine AW.st (by simp [dNum, dS, pairA, assertA]; rfl) ?_
        clear hK' K'
        refine AW_ret ?_
        simp [D.le, D.le.go, takeMap, dNum, dS, pairA, assertA]
      | true =>
        rw [hs] at hi
        refine PureC.of_body (tyOf_good _) Tryz.func24 rfl rfl (rs := [.tmp 6]) Tryz.results24 (by simp [Tryz.ntmps24]) fun X => ?_
        simp only [Tryz.ntmps24, List.map]
        refine AW_rg (tyOf_good _) [0, 4, 5] [4, 5] (fun _ _ => trivial) fun K' hK' => ?_
        repeat (refine sxf_next fun K2 hK2 => ?_; simp [dNum, dS, pairA, assertA]; (repeat (refine ⟨by omega, ?_⟩)); refine hK2 _ ?_; clear hK2 K2)
        refine sxf_nil (hK' _ ?_)
        refine AW.st (by simp [dNum, dS, pairA, assertA]; rfl) ?_
        clear hK' K'
        refine AW.imp (Imp.freezeB 4 trivial) ?_
        refine AW.st (by simp [dNum, dS, pairA, assertA]; rfl) ?_
        refine AW.imp (Imp.freezeB 5 trivial) ?_
        refine AW.st (by simp [dNum, dS, pairA, assertA]; rfl) ?_
        refine AW_then fun K1 hK1 => ?_
        refine AW_rg (tyOf_good _) [4, 5, 14] [] (fun _ _ => trivial) fun K' hK' => ?_
        repeat (refine sxf_next fun K2 hK2 => ?_; simp [dNum, dS, pairA, assertA]; (repeat (refine ⟨by omega, ?_⟩)); refine hK2 _ ?_; clear hK2 K2)
        refine sxf_nil (hK' _ ?_)
        refine AW.st (by simp [dNum, dS, pairA, assertA]; rfl) ?_
        clear hK' K'
        refine AW_block ?_
        refine AW_rg (tyOf_good _) [4, 5, 14, 16, 17] [] (fun _ _ => trivial) fun K' hK' => ?_
        repeat (refine sxf_next fun K2 hK2 => ?_; simp [dNum, dS, pairA, assertA]; (repeat (refine ⟨by omega, ?_⟩)); refine hK2 _ ?_; clear hK2 K2)
        refine sxf_nil (hK' _ ?_)
        refine AW.st (by simp [dNum, dS, pairA, assertA]; rfl) ?_
        clear hK' K'
        refine AW_cond false rfl (fun h => by cases h) (fun _ => ?_)
        refine AW_rg (tyOf_good _) [4, 5, 14, 20, 21] [] (fun _ _ => trivial) fun K' hK' => ?_
        repeat (refine sxf_next fun K2 hK2 => ?_; simp [dNum, dS, pairA, assertA]; (repeat (refine ⟨by omega, ?_⟩)); refine hK2 _ ?_; clear hK2 K2)
        refine sxf_nil (hK' _ ?_)
        refine AW.st (by simp [dNum, dS, pairA, assertA]; rfl) ?_
        clear hK' K'
        refine AW_cond false rfl (fun h => by cases h) (fun _ => ?_)
        refine AW_rg (tyOf_good _) [4, 5, 14, 26, 27] [] (fun _ _ => trivial) fun K' hK' => ?_
        repeat (refine sxf_next fun K2 hK2 => ?_; simp [dNum, dS, pairA, assertA]; (repeat (refine ⟨by omega, ?_⟩)); refine hK2 _ ?_; clear hK2 K2)
        refine sxf_nil (hK' _ ?_)
        refine AW.st (by simp [dNum, dS, pairA, assertA]; rfl) ?_
        clear hK' K'
        refine AW_cond true rfl (fun _ => ?_) (fun h => by cases h)
        refine AW_rg (tyOf_good _) [4, 5, 9] [] (fun _ _ => trivial) fun K' hK' => ?_
        repeat (refine sxf_next fun K2 hK2 => ?_; simp [dNum, dS, pairA, assertA]; (repeat (refine ⟨by omega, ?_⟩)); refine hK2 _ ?_; clear hK2 K2)
        refine sxf_nil (hK' _ ?_)
        refine AW.st (by simp [dNum, dS, pairA, assertA]; rfl) ?_
        clear hK' K'
        refine AW_rg (tyOf_good _) [6] [] (fun _ _ => trivial) fun K' hK' => ?_
        repeat (refine sxf_next fun K2 hK2 => ?_; simp [dNum, dS, pairA, assertA]; (repeat (refine ⟨by omega, ?_⟩)); refine hK2 _ ?_; clear hK2 K2)
        refine sxf_next fun K2 hK2 => ?_
        simp [dNum, dS, pairA, assertA]
        refine callK.data (hi) (by simp; rfl) (by first | exact D.leGo_refl _ | simp [takeMap, List.map_map, Function.comp_def, D.le, D.le.go, D.le_refl, D.leGo_refl, dNum, dS, pairA, assertA]) ?_
        refine hK2 _ ?_
        clear hK2 K2
        simp only [putd, upd_lst]
        repeat (refine sxf_next fun K2 hK2 => ?_; simp [dNum, dS, pairA, assertA]; (repeat (refine ⟨by omega, ?_⟩)); refine hK2 _ ?_; clear hK2 K2)
        refine sxf_next fun K2 hK2 => ?_
        simp [dNum, dS, pairA, assertA]
        refine callK.data (hw) (by simp; rfl) (by first | exact D.leGo_refl _ | simp [takeMap, List.map_map, Function.comp_def, D.le, D.le.go, D.le_refl, D.leGo_refl, dNum, dS, pairA, assertA]) ?_
        refine hK2 _ ?_
        clear hK2 K2
        simp only [putd, upd_lst]
        repeat (refine sxf_next fun K2 hK2 => ?_; simp [dNum, dS, pairA, assertA]; (repeat (refine ⟨by omega, ?_⟩)); refine hK2 _ ?_; clear hK2 K2)
        refine sxf_nil (hK' _ ?_)
        refine AW.st (by simp [dNum, dS, pairA, assertA]; rfl) ?_
        clear hK' K'
        refine AW_ret ?_
        simp [D.le, D.le.go, takeMap, dNum, dS, pairA, assertA]
    | fall s =>
      rw [AskE] at hask
      have hi := h1 s hask.1
      have hw := h2 s hask.2
      rw [dE, evE]
      cases hs : is s with
      | true =>
        rw [hs] at hi
        refine PureC.of_body (tyOf_good _) Tryz.func24 rfl rfl (rs := [.tmp 6]) Tryz.results24 (by simp [Tryz.ntmps24]) fun X => ?_
        simp only [Tryz.ntmps24, List.map]
        refine AW_rg (tyOf_good _) [0, 4, 5] [4, 5] (fun _ _ => trivial) fun K' hK' => ?_
        repeat (refine sxf_next fun K2 hK2 => ?_; simp [dNum, dS, pairA, assertA]; (repeat (refine ⟨by omega, ?_⟩)); refine hK2 _ ?_; clear hK2 K2)
        refine sxf_nil (hK' _ ?_)
        refine AW.st (by simp [dNum, dS, pairA, assertA]; rfl) ?_
        clear hK' K'
        refine AW.imp (Imp.freezeB 4 trivial) ?_
        refine AW.st (by simp [dNum, dS, pairA, assertA]; rfl) ?_
        refine AW.imp (Imp.freezeB 5 trivial) ?_
        refine AW.st (by simp [dNum, dS, pairA, assertA]; rfl) ?_
        refine AW_then fun K1 hK1 => ?_
        refine AW_rg (tyOf_good _) [4, 5, 14] [] (fun _ _ => trivial) fun K' hK' => ?_
        repeat (refine sxf_next fun K2 hK2 => ?_; simp [dNum, dS, pairA, assertA]; (repeat (refine ⟨by omega, ?_⟩)); refine hK2 _ ?_; clear hK2 K2)
        refine sxf_nil (hK' _ ?_)
        refine AW.st (by simp [dNum, dS, pairA, assertA]; rfl) ?_
        clear hK' K'
        refine AW_block ?_
        refine AW_rg (tyOf_good _) [4, 5, 14, 16, 17] [] (fun _ _ => trivial) fun K' hK' => ?_
        repeat (refine sxf_next fun K2 hK2 => ?_; simp [dNum, dS, pairA, assertA]; (repeat (refine ⟨by omega, ?_⟩)); refine hK2 _ ?_; clear hK2 K2)
        refine sxf_nil (hK' _ ?_)
        refine AW.st (by simp [dNum, dS, pairA, assertA]; rfl) ?_
        clear hK' K'
        refine AW_cond false rfl (fun h => by cases h) (fun _ => ?_)
        refine AW_rg (tyOf_good _) [4, 5, 14, 20, 21] [] (fun _ _ => trivial) fun K' hK' => ?_
        repeat (refine sxf_next fun K2 hK2 => ?_; simp [dNum, dS, pairA, assertA]; (repeat (refine ⟨by omega, ?_⟩)); refine hK2 _ ?_; clear hK2 K2)
        refine sxf_nil (hK' _ ?_)
        refine AW.st (by simp [dNum, dS, pairA, assertA]; rfl) ?_
        clear hK' K'
        refine AW_cond false rfl (fun h => by cases h) (fun _ => ?_)
        refine AW_rg (tyOf_good _) [4, 5, 14, 26, 27] [] (fun _ _ => trivial) fun K' hK' => ?_
        repeat (refine sxf_next fun K2 hK2 => ?_; simp [dNum, dS, pairA, assertA]; (repeat (refine ⟨by omega, ?_⟩)); refine hK2 _ ?_; clear hK2 K2)
        refine sxf_nil (hK' _ ?_)
        refine AW.st (by simp [dNum, dS, pairA, assertA]; rfl) ?_
        clear hK' K'
        refine AW_cond false rfl (fun h => by cases h) (fun _ => ?_)
        refine AW_rg (tyOf_good _) [4, 5, 14, 38, 39] [] (fun _ _ => trivial) fun K' hK' => ?_
        repeat (refine sxf_next fun K2 hK2 => ?_; simp [dNum, dS, pairA, assertA]; (repeat (refine ⟨by omega, ?_⟩)); refine hK2 _ ?_; clear hK2 K2)
        refine sxf_nil (hK' _ ?_)
        refine AW.st (by simp [dNum, dS, pairA, assertA]; rfl) ?_
        clear hK' K'
        refine AW_cond true rfl (fun _ => ?_) (fun h => by cases h)
        refine AW_rg (tyOf_good _) [4, 5, 10] [] (fun _ _ => trivial) fun K' hK' => ?_
        repeat (refine sxf_next fun K2 hK2 => ?_; simp [dNum, dS, pairA, assertA]; (repeat (refine ⟨by omega, ?_⟩)); refine hK2 _ ?_; clear hK2 K2)
        refine sxf_nil (hK' _ ?_)
        refine AW.st (by simp [dNum, dS, pairA, assertA]; rfl) ?_
        clear hK' K'
        refine AW_rg (tyOf_good _) [6] [] (fun _ _ => trivial) fun K' hK' => ?_
        repeat (refine sxf_next fun K2 hK2 => ?_; simp [dNum, dS, pairA, assertA]; (repeat (refine ⟨by omega, ?_⟩)); refine hK2 _ ?_; clear hK2 K2)
        refine sxf_next fun K2 hK2 => ?_
        simp [dNum, dS, pairA, assertA]
        refine callK.data (hi) (by simp; rfl) (by first | exact D.leGo_refl _ | simp [takeMap, List.map_map, Function.comp_def, D.le, D.le.go, D.le_refl, D.leGo_refl, dNum, dS, pairA, assertA]) ?_
        refine hK2 _ ?_
        clear hK2 K2
        simp only [putd, upd_lst]
        repeat (refine sxf_next fun K2 hK2 => ?_; simp [dNum, dS, pairA, assertA]; (repeat (refine ⟨by omega, ?_⟩)); refine hK2 _ ?_; clear hK2 K2)
        refine sxf_nil (hK' _ ?_)
        refine AW.st (by simp [dNum, dS, pairA, assertA]; rfl) ?_
        clear hK' K'
        refine AW_ret ?_
        simp [D.le, D.le.go, takeMap, dNum, dS, pairA, assertA]
      | false =>
        rw [hs] at hi
        refine PureC.of_body (tyOf_good _) Tryz.func24 rfl rfl (rs := [.tmp 6]) Tryz.results24 (by simp [Tryz.ntmps24]) fun X => ?_
        simp only [Tryz.ntmps24, List.map]
        refine AW_rg (tyOf_good _) [0, 4, 5] [4, 5] (fun _ _ => trivial) fun K' hK' => ?_
        repeat (refine sxf_next fun K2 hK2 => ?_; simp [dNum, dS, pairA, assertA]; (repeat (refine ⟨by omega, ?_⟩)); refine hK2 _ ?_; clear hK2 K2)
        refine sxf_nil (hK' _ ?_)
        refine AW.st (by simp [dNum, dS, pairA, assertA]; rfl) ?_
        clear hK' K'
        refine AW.imp (Imp.freezeB 4 trivial) ?_
        refine AW.st (by simp [dNum, dS, pairA, assertA]; rfl) ?_
        refine AW.imp (Imp.freezeB 5 trivial) ?_
        refine AW.st (by simp [dNum, dS, pairA, assertA]; rfl) ?_
        refine AW_then fun K1 hK1 => ?_
        refine AW_rg (tyOf_good _) [4, 5, 14] [] (fun _ _ => trivial) fun K' hK' => ?_
        repeat (refine sxf_next fun K2 hK2 => ?_; simp [dNum, dS, pairA, assertA]; (repeat (refine ⟨by omega, ?_⟩)); refine hK2 _ ?_; clear hK2 K2)
        refine sxf_nil (hK' _ ?_)
        refine AW.st (by simp [dNum, dS, pairA, assertA]; rfl) ?_
        clear hK' K'
        refine AW_block ?_
        refine AW_rg (tyOf_good _) [4, 5, 14, 16, 17] [] (fun _ _ => trivial) fun K' hK' => ?_
        repeat (refine sxf_next fun K2 hK2 => ?_; simp [dNum, dS, pairA, assertA]; (repeat (refine ⟨by omega, ?_⟩)); refine hK2 _ ?_; clear hK2 K2)
        refine sxf_nil (hK' _ ?_)
        refine AW.st (by simp [dNum, dS, pairA, assertA]; rfl) ?_
        clear hK' K'
        refine AW_cond false rfl (fun h => by cases h) (fun _ => ?_)
        refine AW_rg (tyOf_good _) [4, 5, 14, 20, 21] [] (fun _ _ => trivial) fun K' hK' => ?_
        repeat (refine sxf_next fun K2 hK2 => ?_; simp [dNum, dS, pairA, assertA]; (repeat (refine ⟨by omega, ?_⟩)); refine hK2 _ ?_; clear hK2 K2)
        refine sxf_nil (hK' _ ?_)
        refine AW.st (by simp [dNum, dS, pairA, assertA]; rfl) ?_
        clear hK' K'
        refine AW_cond false rfl (fun h => by cases h) (fun _ => ?_)
        refine AW_rg (tyOf_good _) [4, 5, 14, 26, 27] [] (fun _ _ => trivial) fun K' hK' => ?_
        repeat (refine sxf_next fun K2 hK2 => ?_; simp [dNum, dS, pairA, assertA]; (repeat (refine ⟨by omega, ?_⟩)); refine hK2 _ ?_; clear hK2 K2)
        refine sxf_nil (hK' _ ?_)
        refine AW.st (by simp [dNum, dS, pairA, assertA]; rfl) ?_
        clear hK' K'
        refine AW_cond false rfl (fun h => by cases h) (fun _ => ?_)
        refine AW_rg (tyOf_good _) [4, 5, 14, 38, 39] [] (fun _ _ => trivial) fun K' hK' => ?_
        repeat (refine sxf_next fun K2 hK2 => ?_; simp [dNum, dS, pairA, assertA]; (repeat (refine ⟨by omega, ?_⟩)); refine hK2 _ ?_; clear hK2 K2)
        refine sxf_nil (hK' _ ?_)
        refine AW.st (by simp [dNum, dS, pairA, assertA]; rfl) ?_
        clear hK' K'
        refine AW_cond true rfl (fun _ => ?_) (fun h => by cases h)
        refine AW_rg (tyOf_good _) [4, 5, 10] [] (fun _ _ => trivial) fun K' hK' => ?_
        repeat (refine sxf_next fun K2 hK2 => ?_; simp [dNum, dS, pairA, assertA]; (repeat (refine ⟨by omega, ?_⟩)); refine hK2 _ ?_; clear hK2 K2)
        refine sxf_nil (hK' _ ?_)
        refine AW.st (by simp [dNum, dS, pairA, assertA]; rfl) ?_
        clear hK' K'
        refine AW_rg (tyOf_good _) [6] [] (fun _ _ => trivial) fun K' hK' => ?_
        repeat (refine sxf_next fun K2 hK2 => ?_; simp [dNum, dS, pairA, assertA]; (repeat (refine ⟨by omega, ?_⟩)); refine hK2 _ ?_; clear hK2 K2)
        refine sxf_next fun K2 hK2 => ?_
        simp [dNum, dS, pairA, assertA]
        refine callK.data (hi) (by simp; rfl) (by first | exact D.leGo_refl _ | simp [takeMap, List.map_map, Function.comp_def, D.le, D.le.go, D.le_refl, D.leGo_refl, dNum, dS, pairA, assertA]) ?_
        refine hK2 _ ?_
        clear hK2 K2
        simp only [putd, upd_lst]
        repeat (refine sxf_next fun K2 hK2 => ?_; simp [dNum, dS, pairA, assertA]; (repeat (refine ⟨by omega, ?_⟩)); refine hK2 _ ?_; clear hK2 K2)
        refine sxf_next fun K2 hK2 => ?_
        simp [dNum, dS, pairA, assertA]
        refine callK.data (hw) (by simp; rfl) (by first | exact D.leGo_refl _ | simp [takeMap, List.map_map, Function.comp_def, D.le, D.le.go, D.le_refl, D.leGo_refl, dNum, dS, pairA, assertA]) ?_
        refine hK2 _ ?_
        clear hK2 K2
        simp only [putd, upd_lst]
        repeat (refine sxf_next fun K2 hK2 => ?_; simp [dNum, dS, pairA, assertA]; (repeat (refine ⟨by omega, ?_⟩)); refine hK2 _ ?_; clear hK2 K2)
        refine sxf_nil (hK' _ ?_)
        refine AW.st (by simp [dNum, dS, pairA, assertA]; rfl) ?_
        clear hK' K'
        refine AW_ret ?_
        simp [D.le, D.le.go, takeMap, dNum, dS, pairA, assertA]
    | not x =>
      have hc := ih x (by simp at hsz; omega) (by rwa [AskE] at hask) (by simp only [bE] at hb; omega)
      obtain ⟨tx, cx, hx⟩ := dE_ifc x
      rw [dE, evE, hx]
      rw [hx] at hc
      generalize evE is was x = r at hc ⊢
      refine PureC.of_body (tyOf_good _) Tryz.func24 rfl rfl (rs := [.tmp 6]) Tryz.results24 (by simp [Tryz.ntmps24]) fun X => ?_
      simp only [Tryz.ntmps24, List.map]
      refine AW_rg (tyOf_good _) [0, 4, 5] [4, 5] (fun _ _ => trivial) fun K' hK' => ?_
      repeat (refine sxf_next fun K2 hK2 => ?_; simp [dNum, dS, pairA, assertA]; (repeat (refine ⟨by omega, ?_⟩)); refine hK2 _ ?_; clear hK2 K2)
      refine sxf_nil (hK' _ ?_)
      refine AW.st (by simp [dNum, dS, pairA, assertA]; rfl) ?_
      clear hK' K'
      refine AW.imp (Imp.freezeB 4 trivial) ?_
      refine AW.st (by simp [dNum, dS, pairA, assertA]; rfl) ?_
      refine AW.imp (Imp.freezeB 5 trivial) ?_
      refine AW.st (by simp [dNum, dS, pairA, assertA]; rfl) ?_
      refine AW_then fun K1 hK1 => ?_
      refine AW_rg (tyOf_good _) [4, 5, 14] [] (fun _ _ => trivial) fun K' hK' => ?_
      repeat (refine sxf_next fun K2 hK2 => ?_; simp [dNum, dS, pairA, assertA]; (repeat (refine ⟨by omega, ?_⟩)); refine hK2 _ ?_; clear hK2 K2)
      refine sxf_nil (hK' _ ?_)
      refine AW.st (by simp [dNum, dS, pairA, assertA]; rfl) ?_
      clear hK' K'
      refine AW_block ?_
      refine AW_rg (tyOf_good _) [4, 5, 14, 16, 17] [] (fun _ _ => trivial) fun K' hK' => ?_
      repeat (refine sxf_next fun K2 hK2 => ?_; simp [dNum, dS, pairA, assertA]; (repeat (refine ⟨by omega, ?_⟩)); refine hK2 _ ?_; clear hK2 K2)
      refine sxf_nil (hK' _ ?_)
      refine AW.st (by simp [dNum, dS, pairA, assertA]; rfl) ?_
      clear hK' K'
      refine AW_cond false rfl (fun h => by cases h) (fun _ => ?_)
      refine AW_rg (tyOf_good _) [4, 5, 14, 20, 21] [] (fun _ _ => trivial) fun K' hK' => ?_
      repeat (refine sxf_next fun K2 hK2 => ?_; simp [dNum, dS, pairA, assertA]; (repeat (refine ⟨by omega, ?_⟩)); refine hK2 _ ?_; clear hK2 K2)
      refine sxf_nil (hK' _ ?_)
      refine AW.st (by simp [dNum, dS, pairA, assertA]; rfl) ?_
      clear hK' K'
      refine AW_cond false rfl (fun h => by cases h) (fun _ => ?_)
      refine AW_rg (tyOf_good _) [4, 5, 14, 26, 27] [] (fun _ _ => trivial) fun K' hK' => ?_
      repeat (refine sxf_next fun K2 hK2 => ?_; simp [dNum, dS, pairA, assertA]; (repeat (refine ⟨by omega, ?_⟩)); refine hK2 _ ?_; clear hK2 K2)
      refine sxf_nil (hK' _ ?_)
      refine AW.st (by simp [dNum, dS, pairA, assertA]; rfl) ?_
      clear hK' K'
      refine AW_cond false rfl (fun h => by cases h) (fun _ => ?_)
      refine AW_rg (tyOf_good _) [4, 5, 14, 38, 39] [] (fun _ _ => trivial) fun K' hK' => ?_
      repeat (refine sxf_next fun K2 hK2 => ?_; simp [dNum, dS, pairA, assertA]; (repeat (refine ⟨by omega, ?_⟩)); refine hK2 _ ?_; clear hK2 K2)
      refine sxf_nil (hK' _ ?_)
      refine AW.st (by simp [dNum, dS, pairA, assertA]; rfl) ?_
      clear hK' K'
      refine AW_cond false rfl (fun h => by cases h) (fun _ => ?_)
      refine AW_rg (tyOf_good _) [4, 5, 14, 50, 51] [] (fun _ _ => trivial) fun K' hK' => ?_
      repeat (refine sxf_next fun K2 hK2 => ?_; simp [dNum, dS, pairA, assertA]; (repeat (refine ⟨by omega, ?_⟩)); refine hK2 _ ?_; clear hK2 K2)
      refine sxf_nil (hK' _ ?_)
      refine AW.st (by simp [dNum, dS, pairA, assertA]; rfl) ?_
      clear hK' K'
      refine AW_cond true rfl (fun _ => ?_) (fun h => by cases h)
      refine AW_rg (tyOf_good _) [4, 5, 11] [11] (fun _ _ => trivial) fun K' hK' => ?_
      repeat (refine sxf_next fun K2 hK2 => ?_; simp [dNum, dS, pairA, assertA]; (repeat (refine ⟨by omega, ?_⟩)); refine hK2 _ ?_; clear hK2 K2)
      refine sxf_nil (hK' _ ?_)
      refine AW.st (by simp [dNum, dS, pairA, assertA]; rfl) ?_
      clear hK' K'
      refine AW_rg (tyOf_good _) [6] [11] (fun _ _ => trivial) fun K' hK' => ?_
      repeat (refine sxf_next fun K2 hK2 => ?_; simp [dNum, dS, pairA, assertA]; (repeat (refine ⟨by omega, ?_⟩)); refine hK2 _ ?_; clear hK2 K2)
      refine sxf_next fun K2 hK2 => ?_
      simp [dNum, dS, pairA, assertA]
      refine callK.data (hc) (by simp; rfl) (by first | exact D.leGo_refl _ | simp [takeMap, List.map_map, Function.comp_def, D.le, D.le.go, D.le_refl, D.leGo_refl, dNum, dS, pairA, assertA]) ?_
      refine hK2 _ ?_
      clear hK2 K2
      simp only [putd, upd_lst]
      repeat (refine sxf_next fun K2 hK2 => ?_; simp [dNum, dS, pairA, assertA]; (repeat (refine ⟨by omega, ?_⟩)); refine hK2 _ ?_; clear hK2 K2)
      refine sxf_nil (hK' _ ?_)
      refine AW.st (by simp [dNum, dS, pairA, assertA]; rfl) ?_
      clear hK' K'
      refine AW_ret ?_
      simp [D.le, D.le.go, takeMap, dNum, dS, pairA, assertA]
    | and l =>
      have hch : ∀ x ∈ l, PureC Tryz.prog G 56 [dE x, .ip [.fn (.func g1) c1], .ip [.fn (.func g2) c2]] (.v (.bool (!evE is was x))) := fun x hx => by
        have hc := ih x (by have := List.sizeOf_lt_of_mem hx; simp only [Ex.and.sizeOf_spec] at hsz; omega) (by rw [AskE, AskL_iff] at hask; exact hask x hx) (by have := bEs_mem hx; simp only [bE] at hb; omega)
        obtain ⟨tx, cx, hxx⟩ := dE_ifc x
        rw [hxx] at hc ⊢
        generalize evE is was x = r at hc ⊢
        refine PureC.of_body (tyOf_good _) Tryz.func56 rfl rfl (rs := [.tmp 4]) Tryz.results56 (by simp [Tryz.ntmps56]) fun X => ?_
        simp only [Tryz.ntmps56, List.map]
        refine AW_rg (tyOf_good _) [0, 1, 2] [] (fun _ _ => trivial) fun K' hK' => ?_
        repeat (refine sxf_next fun K2 hK2 => ?_; simp [dNum, dS, pairA, assertA]; (repeat (refine ⟨by omega, ?_⟩)); refine hK2 _ ?_; clear hK2 K2)
        refine sxf_nil (hK' _ ?_)
        refine AW.st (by simp [dNum, dS, pairA, assertA]; rfl) ?_
        clear hK' K'
        refine AW_rg (tyOf_good _) [4] [] (fun _ _ => trivial) fun K' hK' => ?_
        repeat (refine sxf_next fun K2 hK2 => ?_; simp [dNum, dS, pairA, assertA]; (repeat (refine ⟨by omega, ?_⟩)); refine hK2 _ ?_; clear hK2 K2)
        refine sxf_next fun K2 hK2 => ?_
        simp [dNum, dS, pairA, assertA]
        refine callK.data (hc) (by simp; rfl) (by first | exact D.leGo_refl _ | simp [takeMap, List.map_map, Function.comp_def, D.le, D.le.go, D.le_refl, D.leGo_refl, dNum, dS, pairA, assertA]) ?_
        refine hK2 _ ?_
        clear hK2 K2
        simp only [putd, upd_lst]
        repeat (refine sxf_next fun K2 hK2 => ?_; simp [dNum, dS, pairA, assertA]; (repeat (refine ⟨by omega, ?_⟩)); refine hK2 _ ?_; clear hK2 K2)
        refine sxf_nil (hK' _ ?_)
        refine AW.st (by simp [dNum, dS, pairA, assertA]; rfl) ?_
        clear hK' K'
        refine AW_ret ?_
        simp [D.le, D.le.go, takeMap, dNum, dS, pairA, assertA]
      have hln := bEs_len l
      have hcf := containsAnd_spec G none l 56 [.ip [.fn (.func g1) c1], .ip [.fn (.func g2) c2]] (fun x => !evE is was x) (by simp only [bE] at hb; omega) hch
      rw [dE, dEs_map, evE, evA_any]
      generalize l.any (fun x => !evE is was x) = r at hcf ⊢
      refine PureC.of_body (tyOf_good _) Tryz.func24 rfl rfl (rs := [.tmp 6]) Tryz.results24 (by simp [Tryz.ntmps24]) fun X => ?_
      simp only [Tryz.ntmps24, List.map]
      refine AW_rg (tyOf_good _) [0, 4, 5] [4, 5] (fun _ _ => trivial) fun K' hK' => ?_
      repeat (refine sxf_next fun K2 hK2 => ?_; simp [dNum, dS, pairA, assertA]; (repeat (refine ⟨by omega, ?_⟩)); refine hK2 _ ?_; clear hK2 K2)
      refine sxf_nil (hK' _ ?_)
      refine AW.st (by simp [dNum, dS, pairA, assertA]; rfl) ?_
      clear hK' K'
      refine AW.imp (Imp.freezeB 4 trivial) ?_
      refine AW.st (by simp [dNum, dS, pairA, assertA]; rfl) ?_
      refine AW.imp (Imp.freezeB 5 trivial) ?_
      refine AW.st (by simp [dNum, dS, pairA, assertA]; rfl) ?_
      refine AW_then fun K1 hK1 => ?_
      refine AW_rg (tyOf_good _) [4, 5, 14] [] (fun _ _ => trivial) fun K' hK' => ?_
      repeat (refine sxf_next fun K2 hK2 => ?_; simp [dNum, dS, pairA, assertA]; (repeat (refine ⟨by omega, ?_⟩)); refine hK2 _ ?_; clear hK2 K2)
      refine sxf_nil (hK' _ ?_)
      refine AW.st (by simp [dNum, dS, pairA, assertA]; rfl) ?_
      clear hK' K'
      refine AW_block ?_
      refine AW_rg (tyOf_good _) [4, 5, 14, 16, 17] [] (fun _ _ => trivial) fun K' hK' => ?_
      repeat (refine sxf_next fun K2 hK2 => ?_; simp [dNum, dS, pairA, assertA]; (repeat (refine ⟨by omega, ?_⟩)); refine hK2 _ ?_; clear hK2 K2)
      refine sxf_nil (hK' _ ?_)
      refine AW.st (by simp [dNum, dS, pairA, assertA]; rfl) ?_
      clear hK' K'
      refine AW_cond false rfl (fun h => by cases h) (fun _ => ?_)
      refine AW_rg (tyOf_good _) [4, 5, 14, 20, 21] [] (fun _ _ => trivial) fun K' hK' => ?_
      repeat (refine sxf_next fun K2 hK2 => ?_; simp [dNum, dS, pairA, assertA]; (repeat (refine ⟨by omega, ?_⟩)); refine hK2 _ ?_; clear hK2 K2)
      refine sxf_nil (hK' _ ?_)
      refine AW.st (by simp [dNum, dS, pairA, assertA]; rfl) ?_
      clear hK' K'
      refine AW_cond false rfl (fun h => by cases h) (fun _ => ?_)
      refine AW_rg (tyOf_good _) [4, 5, 14, 26, 27] [] (fun _ _ => trivial) fun K' hK' => ?_
      repeat (refine sxf_next fun K2 hK2 => ?_; simp [dNum, dS, pairA, assertA]; (repeat (refine ⟨by omega, ?_⟩)); refine hK2 _ ?_; clear hK2 K2)
      refine sxf_nil (hK' _ ?_)
      refine AW.st (by simp [dNum, dS, pairA, assertA]; rfl) ?_
      clear hK' K'
      refine AW_cond false rfl (fun h => by cases h) (fun _ => ?_)
      refine AW_rg (tyOf_good _) [4, 5, 14, 38, 39] [] (fun _ _ => trivial) fun K' hK' => ?_
      repeat (refine sxf_next fun K2 hK2 => ?_; simp [dNum, dS, pairA, assertA]; (repeat (refine ⟨by omega, ?_⟩)); refine hK2 _ ?_; clear hK2 K2)
      refine sxf_nil (hK' _ ?_)
      refine AW.st (by simp [dNum, dS, pairA, assertA]; rfl) ?_
      clear hK' K'
      refine AW_cond false rfl (fun h => by cases h) (fun _ => ?_)
      refine AW_rg (tyOf_good _) [4, 5, 14, 50, 51] [] (fun _ _ => trivial) fun K' hK' => ?_
      repeat (refine sxf_next fun K2 hK2 => ?_; simp [dNum, dS, pairA, assertA]; (repeat (refine ⟨by omega, ?_⟩)); refine hK2 _ ?_; clear hK2 K2)
      refine sxf_nil (hK' _ ?_)
      refine AW.st (by simp [dNum, dS, pairA, assertA]; rfl) ?_
      clear hK' K'
      refine AW_cond false rfl (fun h => by cases h) (fun _ => ?_)
      refine AW_rg (tyOf_good _) [4, 5, 14, 59, 60] [] (fun _ _ => trivial) fun K' hK' => ?_
      repeat (refine sxf_next fun K2 hK2 => ?_; simp [dNum, dS, pairA, assertA]; (repeat (refine ⟨by omega, ?_⟩)); refine hK2 _ ?_; clear hK2 K2)
      refine sxf_nil (hK' _ ?_)
      refine AW.st (by simp [dNum, dS, pairA, assertA]; rfl) ?_
      clear hK' K'
      refine AW_cond true rfl (fun _ => ?_) (fun h => by cases h)
      refine AW_rg (tyOf_good _) [4, 5, 12] [] (fun _ _ => trivial) fun K' hK' => ?_
      repeat (refine sxf_next fun K2 hK2 => ?_; simp [dNum, dS, pairA, assertA]; (repeat (refine ⟨by omega, ?_⟩)); refine hK2 _ ?_; clear hK2 K2)
      refine sxf_nil (hK' _ ?_)
      refine AW.st (by simp [dNum, dS, pairA, assertA]; rfl) ?_
      clear hK' K'
      refine AW_rg (tyOf_good _) [6] [] (fun _ _ => trivial) fun K' hK' => ?_
      repeat (refine sxf_next fun K2 hK2 => ?_; simp [dNum, dS, pairA, assertA]; (repeat (refine ⟨by omega, ?_⟩)); refine hK2 _ ?_; clear hK2 K2)
      refine sxf_next fun K2 hK2 => ?_
      simp [dNum, dS, pairA, assertA]
      refine callK.data (hcf) (by simp; rfl) (by first | exact D.leGo_refl _ | simp [takeMap, List.map_map, Function.comp_def, D.le, D.le.go, D.le_refl, D.leGo_refl, dNum, dS, pairA, assertA]) ?_
      refine hK2 _ ?_
      clear hK2 K2
      simp only [putd, upd_lst]
      repeat (refine sxf_next fun K2 hK2 => ?_; simp [dNum, dS, pairA, assertA]; (repeat (refine ⟨by omega, ?_⟩)); refine hK2 _ ?_; clear hK2 K2)
      refine sxf_nil (hK' _ ?_)
      refine AW.st (by simp [dNum, dS, pairA, assertA]; rfl) ?_
      clear hK' K'
      refine AW_ret ?_
      simp [D.le, D.le.go, takeMap, dNum, dS, pairA, assertA]
    | or l =>
      have hch : ∀ x ∈ l, PureC Tryz.prog G 58 [dE x, .ip [.fn (.func g1) c1], .ip [.fn (.func g2) c2]] (.v (.bool (evE is was x))) := fun x hx => by
        have hc := ih x (by have := List.sizeOf_lt_of_mem hx; simp only [Ex.or.sizeOf_spec] at hsz; omega) (by rw [AskE, AskL_iff] at hask; exact hask x hx) (by have := bEs_mem hx; simp only [bE] at hb; omega)
        obtain ⟨tx, cx, hxx⟩ := dE_ifc x
        rw [hxx] at hc ⊢
        generalize evE is was x = r at hc ⊢
        refine PureC.of_body (tyOf_good _) Tryz.func58 rfl rfl (rs := [.tmp 4]) Tryz.results58 (by simp [Tryz.ntmps58]) fun X => ?_
        simp only [Tryz.ntmps58, List.map]
        refine AW_rg (tyOf_good _) [0, 1, 2] [] (fun _ _ => trivial) fun K' hK' => ?_
        repeat (refine sxf_next fun K2 hK2 => ?_; simp [dNum, dS, pairA, assertA]; (repeat (refine ⟨by omega, ?_⟩)); refine hK2 _ ?_; clear hK2 K2)
        refine sxf_nil (hK' _ ?_)
        refine AW.st (by simp [dNum, dS, pairA, assertA]; rfl) ?_
        clear hK' K'
        refine AW_rg (tyOf_good _) [4] [] (fun _ _ => trivial) fun K' hK' => ?_
        repeat (refine sxf_next fun K2 hK2 => ?_; simp [dNum, dS, pairA, assertA]; (repeat (refine ⟨by omega, ?_⟩)); refine hK2 _ ?_; clear hK2 K2)
        refine sxf_next fun K2 hK2 => ?_
        simp [dNum, dS, pairA, assertA]
        refine callK.data (hc) (by simp; rfl) (by first | exact D.leGo_refl _ | simp [takeMap, List.map_map, Function.comp_def, D.le, D.le.go, D.le_refl, D.leGo_refl, dNum, dS, pairA, assertA]) ?_
        refine hK2 _ ?_
        clear hK2 K2
        simp only [putd, upd_lst]
        repeat (refine sxf_next fun K2 hK2 => ?_; simp [dNum, dS, pairA, assertA]; (repeat (refine ⟨by omega, ?_⟩)); refine hK2 _ ?_; clear hK2 K2)
        refine sxf_nil (hK' _ ?_)
        refine AW.st (by simp [dNum, dS, pairA, assertA]; rfl) ?_
        clear hK' K'
        refine AW_ret ?_
        simp [D.le, D.le.go, takeMap, dNum, dS, pairA, assertA]
      have hln := bEs_len l
      have hcf := containsOr_spec G none l 58 [.ip [.fn (.func g1) c1], .ip [.fn (.func g2) c2]] (fun x => evE is was x) (by simp only [bE] at hb; omega) hch
      rw [dE, dEs_map, evE, evO_any]
      generalize l.any (fun x => evE is was x) = r at hcf ⊢
      refine PureC.of_body (tyOf_good _) Tryz.func24 rfl rfl (rs := [.tmp 6]) Tryz.results24 (by simp [Tryz.ntmps24]) fun X => ?_
      simp only [Tryz.ntmps24, List.map]
      refine AW_rg (tyOf_good _) [0, 4, 5] [4, 5] (fun _ _ => trivial) fun K' hK' => ?_
      repeat (refine sxf_next fun K2 hK2 => ?_; simp [dNum, dS, pairA, assertA]; (repeat (refine ⟨by omega, ?_⟩)); refine hK2 _ ?_; clear hK2 K2)
      refine sxf_nil (hK' _ ?_)
      refine AW.st (by simp [dNum, dS, pairA, assertA]; rfl) ?_
      clear hK' K'
      refine AW.imp (Imp.freezeB 4 trivial) ?_
      refine AW.st (by simp [dNum, dS, pairA, assertA]; rfl) ?_
      refine AW.imp (Imp.freezeB 5 trivial) ?_
      refine AW.st (by simp [dNum, dS, pairA, assertA]; rfl) ?_
      refine AW_then fun K1 hK1 => ?_
      refine AW_rg (tyOf_good _) [4, 5, 14] [] (fun _ _ => trivial) fun K' hK' => ?_
      repeat (refine sxf_next fun K2 hK2 => ?_; simp [dNum, dS, pairA, assertA]; (repeat (refine ⟨by omega, ?_⟩)); refine hK2 _ ?_; clear hK2 K2)
      refine sxf_nil (hK' _ ?_)
      refine AW.st (by simp [dNum, dS, pairA, assertA]; rfl) ?_
      clear hK' K'
      refine AW_block ?_
      refine AW_rg (tyOf_good _) [4, 5, 14, 16, 17] [] (fun _ _ => trivial) fun K' hK' => ?_
      repeat (refine sxf_next fun K2 hK2 => ?_; simp [dNum, dS, pairA, assertA]; (repeat (refine ⟨by omega, ?_⟩)); refine hK2 _ ?_; clear hK2 K2)
      refine sxf_nil (hK' _ ?_)
      refine AW.st (by simp [dNum, dS, pairA, assertA]; rfl) ?_
      clear hK' K'
      refine AW_cond false rfl (fun h => by cases h) (fun _ => ?_)
      refine AW_rg (tyOf_good _) [4, 5, 14, 20, 21] [] (fun _ _ => trivial) fun K' hK' => ?_
      repeat (refine sxf_next fun K2 hK2 => ?_; simp [dNum, dS, pairA, assertA]; (repeat (refine ⟨by omega, ?_⟩)); refine hK2 _ ?_; clear hK2 K2)
      refine sxf_nil (hK' _ ?_)
      refine AW.st (by simp [dNum, dS, pairA, assertA]; rfl) ?_
      clear hK' K'
      refine AW_cond false rfl (fun h => by cases h) (fun _ => ?_)
      refine AW_rg (tyOf_good _) [4, 5, 14, 26, 27] [] (fun _ _ => trivial) fun K' hK' => ?_
      repeat (refine sxf_next fun K2 hK2 => ?_; simp [dNum, dS, pairA, assertA]; (repeat (refine ⟨by omega, ?_⟩)); refine hK2 _ ?_; clear hK2 K2)
      refine sxf_nil (hK' _ ?_)
      refine AW.st (by simp [dNum, dS, pairA, assertA]; rfl) ?_
      clear hK' K'
      refine AW_cond false rfl (fun h => by cases h) (fun _ => ?_)
      refine AW_rg (tyOf_good _) [4, 5, 14, 38, 39] [] (fun _ _ => trivial) fun K' hK' => ?_
      repeat (refine sxf_next fun K2 hK2 => ?_; simp [dNum, dS, pairA, assertA]; (repeat (refine ⟨by omega, ?_⟩)); refine hK2 _ ?_; clear hK2 K2)
      refine sxf_nil (hK' _ ?_)
      refine AW.st (by simp [dNum, dS, pairA, assertA]; rfl) ?_
      clear hK' K'
      refine AW_cond false rfl (fun h => by cases h) (fun _ => ?_)
      refine AW_rg (tyOf_good _) [4, 5, 14, 50, 51] [] (fun _ _ => trivial) fun K' hK' => ?_
      repeat (refine sxf_next fun K2 hK2 => ?_; simp [dNum, dS, pairA, assertA]; (repeat (refine ⟨by omega, ?_⟩)); refine hK2 _ ?_; clear hK2 K2)
      refine sxf_nil (hK' _ ?_)
      refine AW.st (by simp [dNum, dS, pairA, assertA]; rfl) ?_
      clear hK' K'
      refine AW_cond false rfl (fun h => by cases h) (fun _ => ?_)
      refine AW_rg (tyOf_good _) [4, 5, 14, 59, 60] [] (fun _ _ => trivial) fun K' hK' => ?_
      repeat (refine sxf_next fun K2 hK2 => ?_; simp [dNum, dS, pairA, assertA]; (repeat (refine ⟨by omega, ?_⟩)); refine hK2 _ ?_; clear hK2 K2)
      refine sxf_nil (hK' _ ?_)
      refine AW.st (by simp [dNum, dS, pairA, assertA]; rfl) ?_
      clear hK' K'
      refine AW_cond false rfl (fun h => by cases h) (fun _ => ?_)
      refine AW_rg (tyOf_good _) [4, 5, 66, 67] [] (fun _ _ => trivial) fun K' hK' => ?_
      repeat (refine sxf_next fun K2 hK2 => ?_; simp [dNum, dS, pairA, assertA]; (repeat (refine ⟨by omega, ?_⟩)); refine hK2 _ ?_; clear hK2 K2)
      refine sxf_nil (hK' _ ?_)
      refine AW.st (by simp [dNum, dS, pairA, assertA]; rfl) ?_
      clear hK' K'
      refine AW_cond true rfl (fun _ => ?_) (fun h => by cases h)
      refine AW_rg (tyOf_good _) [4, 5, 13] [] (fun _ _ => trivial) fun K' hK' => ?_
      repeat (refine sxf_next fun K2 hK2 => ?_; simp [dNum, dS, pairA, assertA]; (repeat (refine ⟨by omega, ?_⟩)); refine hK2 _ ?_; clear hK2 K2)
      refine sxf_nil (hK' _ ?_)
      refine AW.st (by simp [dNum, dS, pairA, assertA]; rfl) ?_
      clear hK' K'
      refine AW_rg (tyOf_good _) [6] [] (fun _ _ => trivial) fun K' hK' => ?_
      repeat (refine sxf_next fun K2 hK2 => ?_; simp [dNum, dS, pairA, assertA]; (repeat (refine ⟨by omega, ?_⟩)); refine hK2 _ ?_; clear hK2 K2)
      refine sxf_next fun K2 hK2 => ?_
      simp [dNum, dS, pairA, assertA]
      refine callK.data (hcf) (by simp; rfl) (by first | exact D.leGo_refl _ | simp [takeMap, List.map_map, Function.comp_def, D.le, D.le.go, D.le_refl, D.leGo_refl, dNum, dS, pairA, assertA]) ?_
      refine hK2 _ ?_
      clear hK2 K2
      simp only [putd, upd_lst]
      repeat (refine sxf_next fun K2 hK2 => ?_; simp [dNum, dS, pairA, assertA]; (repeat (refine ⟨by omega, ?_⟩)); refine hK2 _ ?_; clear hK2 K2)
      refine sxf_nil (hK' _ ?_)
      refine AW.st (by simp [dNum, dS, pairA, assertA]; rfl) ?_
      clear hK' K'
      refine AW_ret ?_
      simp [D.le, D.le.go, takeMap, dNum, dS, pairA, assertA]
theorem eval_spec (G : Glob) (g1 g2 : FuncId) (c1 c2 : List D) (is was : List UInt8 → Bool) (h1 : Tells G g1 c1 is) (h2 : Tells G g2 c2 was) (e : Ex) (hb : bE e ≤ 2^28) : PureC Tryz.prog G 24 [dE e, .fn (.func g1) c1, .fn (.func g2) c2] (.v (.bool (evE is was e))) :=
  eval_at G g1 g2 c1 c2 is was (fun _ => True) (fun _ => True) (fun s _ => h1 s) (fun s _ => h2 s) _ e (Nat.le_refl _) (ask_all _ e (Nat.le_refl _)) hb
end Go.Proofs.YtagfbbnlbncjlaaGreatDoor

/-
  What ExprBack and ExprTidy say.
-/
namespace Go.Proofs.YtagfbbnlbncjlaaGreatDoor
set_option linter.unusedSimpArgs false
set_option linter.unusedVariables false
open Go.Av

theorem la : (⟨#[97]⟩ : ByteArray) = bs [97] := rfl
theorem tells2 (G : Glob) (is was : List (List UInt8)) (h1 : is.length ≤ 20) (h2 : was.length ≤ 20) (e : Ex) (hb : bE e ≤ 2^28) : PureC Tryz.prog G 24 [dE e, dAm none is, dAm none was] (.v (.bool (evE (fun s => is.any fun x => x == s) (fun s => was.any fun x => x == s) e))) :=
  eval_spec G _ _ _ _ _ _ (among_tells G none is (by omega)) (among_tells G none was (by omega)) e hb

end Go.Proofs.YtagfbbnlbncjlaaGreatDoor

/-
  What ExprHangs says: an expression hangs on its names alone.
-/
namespace Go.Proofs.YtagfbbnlbncjlaaGreatDoor
set_option linter.unusedSimpArgs false
set_option linter.unusedVariables false
open Go.Av

/-! ### Plain -/
theorem mem_one1 {s x : List UInt8} : x ∈ one1 s ↔ x = s ∧ s ≠ [] := by
  unfold one1
  split
  · rename_i h; simp [h]
  · rename_i h; simp [h]
theorem ev_names (is was is' was' : List UInt8 → Bool) : ∀ (n : Nat) (e : Ex), SizeOf.sizeOf e ≤ n → WfE e → (∀ s ∈ nmsE true e, is s = is' s) → (∀ s ∈ nmsE false e, was s = was' s) → evE is was e = evE is' was' e
  | 0, e, hn => by cases e <;> simp at hn
  | n + 1, e, hn => by
    intro hw h1 h2
    have many : ∀ l : List Ex, (∀ x ∈ l, SizeOf.sizeOf x ≤ n ∧ WfE x) → (∀ s ∈ nmsL true l, is s = is' s) → (∀ s ∈ nmsL false l, was s = was' s) → evA is was l = evA is' was' l ∧ evO is was l = evO is' was' l := by
      intro l
      induction l with
      | nil => intro _ _ _; exact ⟨rfl, rfl⟩
      | cons x l ih =>
        intro h a b
        have hx := ev_names is was is' was' n x (h x (by simp)).1 (h x (by simp)).2 (fun s hs => a s (by simp [nmsL, hs])) (fun s hs => b s (by simp [nmsL, hs]))
        obtain ⟨p, q⟩ := ih (fun y hy => h y (by simp [hy])) (fun s hs => a s (by simp [nmsL, hs])) (fun s hs => b s (by simp [nmsL, hs]))
        simp only [evA, evO, hx, p, q, and_self]
    have hne : ∀ s : List UInt8, nameF s = true → s ≠ [] := fun s h => (name_facts h).1
    cases e with
    | cst b => rfl
    | bit s => exact h1 s (by simp only [nmsE]; exact mem_one1.2 ⟨rfl, hne s hw⟩)
    | rise s =>
      have a := h1 s (by simp only [nmsE]; exact mem_one1.2 ⟨rfl, hne s hw⟩)
      have b := h2 s (by simp only [nmsE]; exact mem_one1.2 ⟨rfl, hne s hw⟩)
      simp only [evE, a, b]
    | fall s =>
      have a := h1 s (by simp only [nmsE]; exact mem_one1.2 ⟨rfl, hne s hw⟩)
      have b := h2 s (by simp only [nmsE]; exact mem_one1.2 ⟨rfl, hne s hw⟩)
      simp only [evE, a, b]
    | not x =>
      have := ev_names is was is' was' n x (by simp at hn; omega) hw h1 h2
      simp only [evE, this]
    | and l => exact (many l (fun x hx => ⟨by have := List.sizeOf_lt_of_mem hx; simp only [Ex.and.sizeOf_spec] at hn; omega, (WfEs_iff _).1 hw.2 x hx⟩) h1 h2).1
    | or l => exact (many l (fun x hx => ⟨by have := List.sizeOf_lt_of_mem hx; simp only [Ex.or.sizeOf_spec] at hn; omega, (WfEs_iff _).1 hw.2 x hx⟩) h1 h2).2
end Go.Proofs.YtagfbbnlbncjlaaGreatDoor

/-
  Plain: unsigned words, and the least pairs in which one name alone decides.
-/
namespace Go.Proofs.YtagfbbnlbncjlaaGreatDoor
set_option linter.unusedSimpArgs false
set_option linter.unusedVariables false
open Go.Av

/-! ### Unsigned words -/
/-! ### Where a name stands -/
def ixT (l : List Tx) (s : Tx) : Nat := l.findIdx (· == s)
theorem ixT_lt {l : List Tx} {s : Tx} (h : s ∈ l) : ixT l s < l.length := List.findIdx_lt_length_of_exists ⟨s, h, by simp⟩
theorem ixT_get {l : List Tx} {s : Tx} (h : s ∈ l) : l[ixT l s]'(ixT_lt h) = s := by
  have := List.findIdx_getElem (w := ixT_lt h) (p := (· == s))
  exact eq_of_beq this
/-! ### Pairs -/
end Go.Proofs.YtagfbbnlbncjlaaGreatDoor

/-
  Plain facts of trying values: what is set follows; the first values of which all clauses hold.
-/
namespace Go.Proofs.YtagfbbnlbncjlaaGreatDoor
set_option linter.unusedSimpArgs false
set_option linter.unusedVariables false

abbrev Cl := List (List Int)
/-- What is set: literals, in the order in which they were set. -/
structure GoodT (V : Nat) (tr : List Int) : Prop where
  pos : ∀ x ∈ tr, x ≠ 0 ∧ x ≤ V ∧ -V ≤ x
  one : ∀ x ∈ tr, -x ∉ tr
  nodup : tr.Nodup
def isT (tr : List Int) (x : Int) : Int := if x ∈ tr then 1 else if -x ∈ tr then -1 else 0
def stepC (tr : List Int) (s : Int × Nat × Bool) (x : Int) : Int × Nat × Bool :=
  if isT tr x = 1 then (s.1, s.2.1, true) else if isT tr x = 0 then (x, if x ≠ s.1 then s.2.1 + 1 else s.2.1, s.2.2) else s
def scanC (tr : List Int) (c : List Int) : Int × Nat × Bool := c.foldl (stepC tr) (0, 0, false)
/-- One pass over the clauses: whether none can't hold; what is set; whether something was. -/
def passF : Cl → List Int → Bool → Bool × List Int × Bool
  | [], tr, ag => (true, tr, ag)
  | c :: cs, tr, ag =>
    if (scanC tr c).2.2 = true ∨ 1 < (scanC tr c).2.1 then passF cs tr ag
    else if (scanC tr c).2.1 = 0 then (false, tr, ag)
    else passF cs (tr ++ [(scanC tr c).1]) true
def spreadF (cs : Cl) : Nat → List Int → Bool × List Int
  | 0, tr => (true, tr)
  | n + 1, tr => if (passF cs tr false).1 = false then (false, (passF cs tr false).2.1) else if (passF cs tr false).2.2 = true then spreadF cs n (passF cs tr false).2.1 else (true, (passF cs tr false).2.1)
/-- The first variable that is not set, of those from v on. -/
def freeF (tr : List Int) : Nat → Nat → Nat
  | _, 0 => 0
  | v, n + 1 => if isT tr v = 0 then v else freeF tr (v + 1) n
def searchF (cs : Cl) (V : Nat) : Nat → List Int → Nat → Bool × List Int × Nat
  | 0, tr, k => (false, tr, k)
  | n + 1, tr, k =>
    if (spreadF cs (V + 1) tr).1 = false then (false, tr, k + 1)
    else if freeF (spreadF cs (V + 1) tr).2 1 V = 0 then (true, (spreadF cs (V + 1) tr).2, k + 1)
    else
      let a := searchF cs V n ((spreadF cs (V + 1) tr).2 ++ [(freeF (spreadF cs (V + 1) tr).2 1 V : Int)]) (k + 1)
      if a.1 = true then a
      else
        let b := searchF cs V n ((spreadF cs (V + 1) tr).2 ++ [-(freeF (spreadF cs (V + 1) tr).2 1 V : Int)]) a.2.2
        if b.1 = true then b else (false, tr, b.2.2)

theorem GoodT.nil (V : Nat) : GoodT V [] := ⟨by simp, by simp, by simp⟩
theorem isT_zero {tr : List Int} {x : Int} : isT tr x = 0 ↔ x ∉ tr ∧ -x ∉ tr := by
  unfold isT
  by_cases h : x ∈ tr
  · simp [h]
  · by_cases h2 : -x ∈ tr <;> simp [h, h2]
theorem isT_one {tr : List Int} {x : Int} : isT tr x = 1 ↔ x ∈ tr := by
  unfold isT
  by_cases h : x ∈ tr
  · simp [h]
  · by_cases h2 : -x ∈ tr <;> simp [h, h2]
theorem isT_neg {V : Nat} {tr : List Int} (g : GoodT V tr) (x : Int) : isT tr (-x) = -isT tr x := by
  unfold isT
  rw [Int.neg_neg]
  by_cases h : x ∈ tr
  · have := g.one x h; simp [h, this]
  · by_cases h2 : -x ∈ tr <;> simp [h, h2]
theorem GoodT.snoc {V : Nat} {tr : List Int} (g : GoodT V tr) {x : Int} (h0 : x ≠ 0) (h1 : x ≤ V) (h2 : -V ≤ x) (hx : isT tr x = 0) : GoodT V (tr ++ [x]) := by
  rw [isT_zero] at hx
  refine ⟨fun y hy => ?_, fun y hy hn => ?_, ?_⟩
  · rcases List.mem_append.1 hy with hy | hy
    · exact g.pos y hy
    · rw [List.mem_singleton] at hy; subst hy; exact ⟨h0, h1, h2⟩
  · rcases List.mem_append.1 hy with hy | hy
    · rcases List.mem_append.1 hn with hn | hn
      · exact g.one y hy hn
      · rw [List.mem_singleton] at hn
        have : y = -x := by omega
        exact hx.2 (this ▸ hy)
    · rw [List.mem_singleton] at hy
      subst hy
      rcases List.mem_append.1 hn with hn | hn
      · exact hx.2 hn
      · rw [List.mem_singleton] at hn; omega
  · refine List.nodup_append.2 ⟨g.nodup, by simp, fun y hy z hz => ?_⟩
    rw [List.mem_singleton] at hz
    subst hz
    intro e
    exact hx.1 (e ▸ hy)
/-- How many are not set. -/
def leftT (V : Nat) (tr : List Int) : Nat := cntB (fun i => isT tr ((i : Int) + 1) == 0) V
theorem leftT_le (V : Nat) (tr : List Int) : leftT V tr ≤ V := cntB_le _ _
theorem isT_sub {tr ext : List Int} {x : Int} (h : isT (tr ++ ext) x = 0) : isT tr x = 0 := by
  rw [isT_zero] at h ⊢
  exact ⟨fun hx => h.1 (List.mem_append_left _ hx), fun hx => h.2 (List.mem_append_left _ hx)⟩
theorem leftT_mono (V : Nat) (tr ext : List Int) : leftT V (tr ++ ext) ≤ leftT V tr := cntB_mono V fun i _ h => by
  simp only [beq_iff_eq] at h ⊢
  exact isT_sub h
theorem leftT_lt {V : Nat} {tr : List Int} {x : Int} (h0 : x ≠ 0) (h1 : x ≤ V) (h2 : -V ≤ x) (hx : isT tr x = 0) (ext : List Int) : leftT V (tr ++ x :: ext) < leftT V tr := by
  refine cntB_lt V (fun i _ h => ?_) ⟨x.natAbs - 1, by omega, ?_, ?_⟩
  · simp only [beq_iff_eq] at h ⊢
    exact isT_sub h
  · rw [beq_eq_false_iff_ne, ne_eq, isT_zero]
    rintro ⟨a, b⟩
    rcases Int.lt_or_gt_of_ne h0 with h | h
    · apply b
      rw [show -(((x.natAbs - 1 : Nat) : Int) + 1) = x by omega]
      simp
    · apply a
      rw [show (((x.natAbs - 1 : Nat) : Int) + 1) = x by omega]
      simp
  · rw [beq_iff_eq, isT_zero]
    rw [isT_zero] at hx
    rcases Int.lt_or_gt_of_ne h0 with h | h
    · rw [show (((x.natAbs - 1 : Nat) : Int) + 1) = -x by omega, Int.neg_neg]
      exact ⟨hx.2, hx.1⟩
    · rw [show (((x.natAbs - 1 : Nat) : Int) + 1) = x by omega]
      exact hx

/-! ### What values do -/
def litB (β : Nat → Bool) (x : Int) : Bool := if 0 < x then β x.toNat else !β (-x).toNat
def Models (cs : Cl) (β : Nat → Bool) : Prop := ∀ c ∈ cs, ∃ x ∈ c, litB β x = true
def Agree (β : Nat → Bool) (tr : List Int) : Prop := ∀ x ∈ tr, litB β x = true
theorem litB_neg {β : Nat → Bool} {x : Int} (h : x ≠ 0) : litB β (-x) = !litB β x := by
  unfold litB
  by_cases h1 : 0 < x
  · rw [if_pos h1, if_neg (by omega), Int.neg_neg]
  · rw [if_neg h1, if_pos (by omega), Bool.not_not]
def OkC (V : Nat) (cs : Cl) : Prop := ∀ c ∈ cs, ∀ x ∈ c, x ≠ 0 ∧ x ≤ V ∧ -V ≤ x

theorem scan_inv (tr : List Int) : ∀ (c : List Int) (s : Int × Nat × Bool) (p : List Int),
    ((s.2.2 = true ↔ ∃ x ∈ p, x ∈ tr) ∧ (s.2.1 = 0 → ∀ x ∈ p, isT tr x ≠ 0) ∧ (s.2.1 = 1 → s.1 ∈ p ∧ isT tr s.1 = 0 ∧ ∀ x ∈ p, isT tr x = 0 → x = s.1) ∧ ((∀ x ∈ p, isT tr x ≠ 0) → s.2.1 = 0) ∧ (s.2.1 = 0 → s.1 = 0)) → (∀ x ∈ c, x ≠ 0) →
    (((c.foldl (stepC tr) s).2.2 = true ↔ ∃ x ∈ p ++ c, x ∈ tr) ∧ ((c.foldl (stepC tr) s).2.1 = 0 → ∀ x ∈ p ++ c, isT tr x ≠ 0) ∧
      ((c.foldl (stepC tr) s).2.1 = 1 → (c.foldl (stepC tr) s).1 ∈ p ++ c ∧ isT tr (c.foldl (stepC tr) s).1 = 0 ∧ ∀ x ∈ p ++ c, isT tr x = 0 → x = (c.foldl (stepC tr) s).1) ∧ ((∀ x ∈ p ++ c, isT tr x ≠ 0) → (c.foldl (stepC tr) s).2.1 = 0))
  | [], s, p, h, _ => by simpa using ⟨h.1, h.2.1, h.2.2.1, h.2.2.2.1⟩
  | x :: c, s, p, ⟨h1, h2, h3, h4, h5⟩, h0 => by
    have hx0 := h0 x (by simp)
    have ih := scan_inv tr c (stepC tr s x) (p ++ [x]) ?_ fun y hy => h0 y (by simp [hy])
    · simpa only [List.foldl_cons, List.append_assoc, List.singleton_append] using ih
    · unfold stepC
      by_cases e1 : isT tr x = 1
      · rw [if_pos e1]
        have e1' := isT_one.1 e1
        refine ⟨by simp [e1'], fun h y hy => ?_, fun h => ?_, fun h => h4 fun y hy => h y (by simp [hy]), h5⟩
        · rcases List.mem_append.1 hy with hy | hy
          · exact h2 h y hy
          · rw [List.mem_singleton] at hy; subst hy; rw [e1]; decide
        · obtain ⟨a1, a2, a3⟩ := h3 h
          refine ⟨by simp [a1], a2, fun y hy hy0 => ?_⟩
          rcases List.mem_append.1 hy with hy | hy
          · exact a3 y hy hy0
          · rw [List.mem_singleton] at hy; subst hy; rw [e1] at hy0; cases hy0
      · rw [if_neg e1]
        have e1' : x ∉ tr := fun h => e1 (isT_one.2 h)
        by_cases e0 : isT tr x = 0
        · rw [if_pos e0]
          dsimp only
          refine ⟨?_, fun h => ?_, fun h => ?_, fun h => absurd e0 (h x (by simp)), fun h => ?_⟩
          · rw [h1]; simp [e1']
          · split at h
            · omega
            · rename_i hne
              have : x = s.1 := Classical.not_not.1 hne
              have := h5 h
              omega
          · refine ⟨by simp, e0, fun y hy hy0 => ?_⟩
            rcases List.mem_append.1 hy with hy | hy
            · split at h
              · exact absurd hy0 (h2 (by omega) y hy)
              · rename_i hne
                have hxe : x = s.1 := Classical.not_not.1 hne
                rw [hxe]
                exact (h3 h).2.2 y hy hy0
            · simpa using hy
          · split at h
            · omega
            · rename_i hne
              have : x = s.1 := Classical.not_not.1 hne
              have := h5 h
              omega
        · rw [if_neg e0]
          refine ⟨by rw [h1]; simp [e1'], fun h y hy => ?_, fun h => ?_, fun h => h4 fun y hy => h y (by simp [hy]), h5⟩
          · rcases List.mem_append.1 hy with hy | hy
            · exact h2 h y hy
            · rw [List.mem_singleton] at hy; subst hy; exact e0
          · obtain ⟨a1, a2, a3⟩ := h3 h
            refine ⟨by simp [a1], a2, fun y hy hy0 => ?_⟩
            rcases List.mem_append.1 hy with hy | hy
            · exact a3 y hy hy0
            · rw [List.mem_singleton] at hy; subst hy; exact absurd hy0 e0
theorem scan_facts (tr : List Int) {c : List Int} (h0 : ∀ x ∈ c, x ≠ 0) :
    ((scanC tr c).2.2 = true ↔ ∃ x ∈ c, x ∈ tr) ∧ ((scanC tr c).2.1 = 0 → ∀ x ∈ c, isT tr x ≠ 0) ∧
      ((scanC tr c).2.1 = 1 → (scanC tr c).1 ∈ c ∧ isT tr (scanC tr c).1 = 0 ∧ ∀ x ∈ c, isT tr x = 0 → x = (scanC tr c).1) ∧ ((∀ x ∈ c, isT tr x ≠ 0) → (scanC tr c).2.1 = 0) := by
  have := scan_inv tr c (0, 0, false) [] (by simp) h0
  simp only [List.nil_append] at this
  exact this

/-- What a pass does. -/
theorem pass_facts {V : Nat} : ∀ (cs : Cl) (tr : List Int) (ag : Bool), OkC V cs → GoodT V tr →
    (∃ ext, (passF cs tr ag).2.1 = tr ++ ext ∧ ((passF cs tr ag).1 = true → (passF cs tr ag).2.2 = (ag || !ext.isEmpty))) ∧ GoodT V (passF cs tr ag).2.1 ∧
      ((passF cs tr ag).1 = true → ∀ β, Agree β tr → Models cs β → Agree β (passF cs tr ag).2.1) ∧ ((passF cs tr ag).1 = false → ∀ β, Agree β tr → ¬ Models cs β) ∧
      ((passF cs tr ag).1 = true → (passF cs tr ag).2.1 = tr → ∀ c ∈ cs, (scanC tr c).2.2 = true ∨ 1 < (scanC tr c).2.1)
  | [], tr, ag, _, g => ⟨⟨[], by simp [passF], by simp [passF]⟩, g, fun _ β h _ => h, fun h => by simp [passF] at h, fun _ _ c hc => by simp at hc⟩
  | c :: cs, tr, ag, ok, g => by
    have okc := ok c (by simp)
    have oks : OkC V cs := fun d hd => ok d (by simp [hd])
    obtain ⟨f1, f2, f3, _⟩ := scan_facts tr fun x hx => (okc x hx).1
    rw [passF]
    by_cases hh : (scanC tr c).2.2 = true ∨ 1 < (scanC tr c).2.1
    · rw [if_pos hh]
      obtain ⟨a1, a2, a3, a4, a5⟩ := pass_facts cs tr ag oks g
      refine ⟨a1, a2, fun h β hb hm => a3 h β hb fun d hd => hm d (by simp [hd]), fun h β hb hm => a4 h β hb fun d hd => hm d (by simp [hd]), fun h e d hd => ?_⟩
      rcases List.mem_cons.1 hd with rfl | hd
      · exact hh
      · exact a5 h e d hd
    · rw [if_neg hh]
      have hno : ∀ x ∈ c, x ∉ tr := fun x hx ht => hh (.inl (f1.2 ⟨x, hx, ht⟩))
      have hlit : ∀ β, Agree β tr → ∀ x ∈ c, litB β x = true → isT tr x = 0 := fun β hb x hx hl => by
        rw [isT_zero]
        refine ⟨hno x hx, fun hn => ?_⟩
        have := hb _ hn
        rw [litB_neg (okc x hx).1, hl] at this
        cases this
      by_cases h0 : (scanC tr c).2.1 = 0
      · rw [if_pos h0]
        refine ⟨⟨[], by simp, (fun h => by cases h)⟩, g, (fun h => by cases h), fun _ β hb hm => ?_, (fun h => by cases h)⟩
        obtain ⟨x, hx, hl⟩ := hm c (by simp)
        exact f2 h0 x hx (hlit β hb x hx hl)
      · rw [if_neg h0]
        have h1 : (scanC tr c).2.1 = 1 := by
          have : ¬ 1 < (scanC tr c).2.1 := fun h => hh (.inr h)
          omega
        obtain ⟨l1, l2, l3⟩ := f3 h1
        have g' := g.snoc (okc _ l1).1 (okc _ l1).2.1 (okc _ l1).2.2 l2
        obtain ⟨⟨ext, a1, a1'⟩, a2, a3, a4, a5⟩ := pass_facts cs (tr ++ [(scanC tr c).1]) true oks g'
        have hag : ∀ β, Agree β tr → Models (c :: cs) β → Agree β (tr ++ [(scanC tr c).1]) := fun β hb hm y hy => by
          rcases List.mem_append.1 hy with hy | hy
          · exact hb y hy
          · rw [List.mem_singleton] at hy
            subst hy
            obtain ⟨x, hx, hl⟩ := hm c (by simp)
            rw [← l3 x hx (hlit β hb x hx hl)]
            exact hl
        refine ⟨⟨(scanC tr c).1 :: ext, by rw [a1]; simp, fun h => by rw [a1' h]; simp⟩, a2, fun h β hb hm => a3 h β (hag β hb hm) fun d hd => hm d (by simp [hd]), fun h β hb hm => a4 h β (hag β hb hm) fun d hd => hm d (by simp [hd]), fun _ e => ?_⟩
        rw [a1] at e
        have := congrArg List.length e
        simp at this

/-- What spreading does. -/
theorem spread_facts {V : Nat} {cs : Cl} (ok : OkC V cs) : ∀ (n : Nat) (tr : List Int), GoodT V tr → leftT V tr < n →
    (∃ ext, (spreadF cs n tr).2 = tr ++ ext) ∧ GoodT V (spreadF cs n tr).2 ∧ ((spreadF cs n tr).1 = true → (∀ β, Agree β tr → Models cs β → Agree β (spreadF cs n tr).2) ∧ ∀ c ∈ cs, (scanC (spreadF cs n tr).2 c).2.2 = true ∨ 1 < (scanC (spreadF cs n tr).2 c).2.1) ∧
      ((spreadF cs n tr).1 = false → ∀ β, Agree β tr → ¬ Models cs β)
  | 0, tr, _, h => by omega
  | n + 1, tr, g, h => by
    obtain ⟨⟨ext, a1, a1'⟩, a2, a3, a4, a5⟩ := pass_facts cs tr false ok g
    rw [spreadF]
    by_cases hf : (passF cs tr false).1 = false
    · rw [if_pos hf]
      exact ⟨⟨ext, a1⟩, a2, (fun h => by cases h), fun _ => a4 hf⟩
    · have ht : (passF cs tr false).1 = true := by simpa using hf
      rw [if_neg hf]
      have hag := a1' ht
      by_cases he : (passF cs tr false).2.2 = true
      · rw [if_pos he]
        rw [hag] at he
        obtain ⟨x, ext', rfl⟩ : ∃ x e, ext = x :: e := by cases ext with | nil => simp at he | cons x e => exact ⟨x, e, rfl⟩
        have hx : isT tr x = 0 := by
          rw [isT_zero]
          rw [a1] at a2
          refine ⟨fun hx => ?_, fun hx => a2.one _ (List.mem_append_left _ hx) (by rw [Int.neg_neg]; simp)⟩
          have := (List.nodup_append.1 a2.nodup).2.2
          exact this x hx x (by simp) rfl
        have hp := a2.pos x (by rw [a1]; simp)
        have hlt := leftT_lt hp.1 hp.2.1 hp.2.2 hx ext'
        rw [← a1] at hlt
        obtain ⟨⟨e2, b1⟩, b2, b3, b4⟩ := spread_facts ok n _ a2 (by omega)
        refine ⟨⟨x :: ext' ++ e2, by rw [b1, a1]; simp⟩, b2, fun hs => ⟨fun β hb hm => (b3 hs).1 β (a3 ht β hb hm) hm, (b3 hs).2⟩, fun hs β hb hm => b4 hs β (a3 ht β hb hm) hm⟩
      · rw [if_neg he]
        have hx : ext = [] := by
          rw [hag] at he
          cases ext with | nil => rfl | cons x e => simp at he
        subst hx
        have e : (passF cs tr false).2.1 = tr := by rw [a1]; simp
        exact ⟨⟨[], a1⟩, a2, fun _ => ⟨a3 ht, by rw [e]; exact a5 ht e⟩, (fun h => by cases h)⟩

theorem free_facts (tr : List Int) : ∀ (n v : Nat), 0 < v → (freeF tr v n = 0 → ∀ w, v ≤ w → w < v + n → isT tr w ≠ 0) ∧ (freeF tr v n ≠ 0 → v ≤ freeF tr v n ∧ freeF tr v n < v + n ∧ isT tr (freeF tr v n) = 0 ∧ ∀ w, v ≤ w → w < freeF tr v n → isT tr w ≠ 0)
  | 0, v, h => ⟨fun _ w h1 h2 => by omega, fun h => absurd rfl h⟩
  | n + 1, v, h => by
    rw [freeF]
    by_cases h0 : isT tr v = 0
    · rw [if_pos h0]
      exact ⟨fun h => by omega, fun _ => ⟨by omega, by omega, h0, fun w h1 h2 => by omega⟩⟩
    · rw [if_neg h0]
      obtain ⟨a, b⟩ := free_facts tr n (v + 1) (by omega)
      refine ⟨fun hz w h1 h2 => ?_, fun hz => ?_⟩
      · rcases Nat.eq_or_lt_of_le h1 with rfl | h1
        · exact h0
        · exact a hz w (by omega) (by omega)
      · obtain ⟨b1, b2, b3, b4⟩ := b hz
        refine ⟨by omega, by omega, b3, fun w h1 h2 => ?_⟩
        rcases Nat.eq_or_lt_of_le h1 with rfl | h1
        · exact h0
        · exact b4 w (by omega) h2

/-- The values that are set. -/
def valT (tr : List Int) (v : Nat) : Bool := decide ((v : Int) ∈ tr)
/-- These values come ahead of those, or are the same. -/
def FirstB (V : Nat) (β γ : Nat → Bool) : Prop := ∀ v, 1 ≤ v → v ≤ V → (∀ w, 1 ≤ w → w < v → γ w = β w) → γ v = true → β v = true
theorem agree_val {V : Nat} {tr : List Int} (g : GoodT V tr) {β : Nat → Bool} (h : Agree β tr) {v : Nat} (hv : 1 ≤ v) (hs : isT tr v ≠ 0) : β v = valT tr v := by
  unfold valT
  by_cases h1 : (v : Int) ∈ tr
  · have := h _ h1
    unfold litB at this
    rw [if_pos (by omega)] at this
    simpa [h1] using this
  · have h2 : -(v : Int) ∈ tr := Classical.byContradiction fun h2 => hs (isT_zero.2 ⟨h1, h2⟩)
    have := h _ h2
    unfold litB at this
    rw [if_neg (by omega)] at this
    simp [h1]
    simpa using this
theorem val_agree {V : Nat} {tr : List Int} (g : GoodT V tr) : Agree (valT tr) tr := fun x hx => by
  unfold litB valT
  have := g.pos x hx
  split
  · rw [show ((x.toNat : Nat) : Int) = x by omega]; simp [hx]
  · rw [show (((-x).toNat : Nat) : Int) = -x by omega]
    have := g.one x hx
    simp [this]

/-- What searching does. -/
theorem search_factsM {V : Nat} {cs : Cl} (ok : OkC V cs) (M : List Int → Nat)
    (hM : ∀ tr, GoodT V tr → (spreadF cs (V + 1) tr).1 = true → freeF (spreadF cs (V + 1) tr).2 1 V ≠ 0 →
      M ((spreadF cs (V + 1) tr).2 ++ [(freeF (spreadF cs (V + 1) tr).2 1 V : Int)]) < M tr ∧ M ((spreadF cs (V + 1) tr).2 ++ [-(freeF (spreadF cs (V + 1) tr).2 1 V : Int)]) < M tr) :
    ∀ (n : Nat) (tr : List Int) (k : Nat), GoodT V tr → M tr < n →
    ((searchF cs V n tr k).2.2 + 1 ≤ k + 2^n) ∧ ((searchF cs V n tr k).1 = true → (∃ ext, (searchF cs V n tr k).2.1 = tr ++ ext) ∧ GoodT V (searchF cs V n tr k).2.1 ∧ (∀ v, 1 ≤ v → v ≤ V → isT (searchF cs V n tr k).2.1 v ≠ 0) ∧
      Models cs (valT (searchF cs V n tr k).2.1) ∧ ∀ β, Agree β tr → Models cs β → FirstB V (valT (searchF cs V n tr k).2.1) β) ∧
      ((searchF cs V n tr k).1 = false → (searchF cs V n tr k).2.1 = tr ∧ ∀ β, Agree β tr → ¬ Models cs β)
  | 0, tr, k, _, h => by omega
  | n + 1, tr, k, g, h => by
    have hle := leftT_le V tr
    obtain ⟨⟨ext, a1⟩, a2, a3, a4⟩ := spread_facts ok (V + 1) tr g (by omega)
    have hp2 : 1 ≤ 2^n := Nat.one_le_two_pow
    have hps : 2^(n + 1) = 2^n + 2^n := by rw [Nat.pow_succ]; omega
    have hMM := hM tr g
    rw [searchF]
    generalize hsp : spreadF cs (V + 1) tr = sp at a1 a2 a3 a4 hMM
    obtain ⟨okb, tr1⟩ := sp
    dsimp only at a1 a2 a3 a4 hMM ⊢
    by_cases hf : okb = false
    · rw [if_pos hf]
      exact ⟨by dsimp only; omega, (fun h => by cases h), fun _ => ⟨rfl, a4 hf⟩⟩
    rw [if_neg hf]
    have ht : okb = true := by simpa using hf
    obtain ⟨b1, b2⟩ := a3 ht
    obtain ⟨c1, c2⟩ := free_facts tr1 V 1 (by decide)
    generalize freeF tr1 1 V = v at c1 c2 hMM
    by_cases hv : v = 0
    · rw [if_pos hv]
      have hall : ∀ w, 1 ≤ w → w ≤ V → isT tr1 w ≠ 0 := fun w h1 h2 => c1 hv w h1 (by omega)
      have hset : ∀ x : Int, x ≠ 0 ∧ x ≤ V ∧ -V ≤ x → isT tr1 x ≠ 0 := fun x hx h0 => by
        rcases Int.lt_or_gt_of_ne hx.1 with hl | hl
        · have := hall x.natAbs (by omega) (by omega)
          rw [show ((x.natAbs : Nat) : Int) = -x by omega, isT_neg a2, h0] at this
          exact this rfl
        · have := hall x.natAbs (by omega) (by omega)
          rw [show ((x.natAbs : Nat) : Int) = x by omega] at this
          exact this h0
      refine ⟨by dsimp only; omega, fun _ => ⟨⟨ext, a1⟩, a2, hall, fun c hc => ?_, fun β hb hm v h1 h2 _ hv => ?_⟩, (fun h => by cases h)⟩
      · have okc := ok c hc
        obtain ⟨f1, _, _, f4⟩ := scan_facts tr1 fun x hx => (okc x hx).1
        have h0 := f4 fun x hx => hset x (okc x hx)
        rcases b2 c hc with hh | hh
        · obtain ⟨x, hx, hxt⟩ := f1.1 hh
          exact ⟨x, hx, val_agree a2 x hxt⟩
        · omega
      · rw [← agree_val a2 (b1 β hb hm) h1 (hall v h1 h2)]
        exact hv
    rw [if_neg hv]
    obtain ⟨d1, d2, d3, d4⟩ := c2 hv
    have d3' : isT tr1 (-(v : Int)) = 0 := by rw [isT_neg a2, d3]; rfl
    have g1 := a2.snoc (x := (v : Int)) (by omega) (by omega) (by omega) d3
    have g2 := a2.snoc (x := -(v : Int)) (by omega) (by omega) (by omega) d3'
    obtain ⟨l1, l2⟩ := hMM ht hv
    obtain ⟨e1, e2, e3⟩ := search_factsM ok M hM n (tr1 ++ [(v : Int)]) (k + 1) g1 (by omega)
    generalize searchF cs V n (tr1 ++ [(v : Int)]) (k + 1) = A at e1 e2 e3
    have hvT : ∀ tr', (∃ e, tr' = tr1 ++ [(v : Int)] ++ e) → valT tr' v = true := fun tr' ⟨e, he⟩ => by simp [valT, he]
    have hfree : ∀ {tr'}, GoodT V tr' → (∃ e, tr' = tr1 ++ e) → ∀ β, Agree β tr1 → ∀ w, 1 ≤ w → w < v → valT tr' w = β w := fun g' ⟨e, he⟩ β hb w h1 h2 => by
      have hs := d4 w h1 h2
      rw [agree_val a2 hb h1 hs]
      have hb' : Agree (valT _) tr1 := fun x hx => val_agree g' x (by rw [he]; exact List.mem_append_left _ hx)
      exact agree_val a2 hb' h1 hs
    have hAg : ∀ {β : Nat → Bool} {x : Int}, Agree β tr1 → litB β x = true → Agree β (tr1 ++ [x]) := fun hb hx y hy => by
      rcases List.mem_append.1 hy with hy | hy
      · exact hb y hy
      · rw [List.mem_singleton] at hy; subst hy; exact hx
    have hlv : ∀ β : Nat → Bool, litB β (v : Int) = β v := fun β => by unfold litB; rw [if_pos (by omega)]; simp
    have hlv' : ∀ β : Nat → Bool, litB β (-(v : Int)) = !β v := fun β => by rw [litB_neg (by omega), hlv]
    by_cases hA : A.1 = true
    · rw [if_pos hA]
      obtain ⟨⟨x1, p1⟩, p2, p3, p4, p5⟩ := e2 hA
      refine ⟨by omega, fun _ => ⟨⟨ext ++ [(v : Int)] ++ x1, by rw [p1, a1]; simp⟩, p2, p3, p4, fun β hb hm w h1 h2 hag hw => ?_⟩, fun h => by rw [hA] at h; cases h⟩
      have hb1 := b1 β hb hm
      rcases Nat.lt_or_ge w v with hwv | hwv
      · rw [hfree p2 ⟨[(v : Int)] ++ x1, by rw [p1]; simp⟩ β hb1 w h1 hwv]; exact hw
      · rcases Nat.eq_or_lt_of_le hwv with rfl | hwv
        · exact hvT _ ⟨x1, p1⟩
        · have hbv : β v = true := by rw [hag v (by omega) hwv]; exact hvT _ ⟨x1, p1⟩
          exact p5 β (hAg hb1 (by rw [hlv]; exact hbv)) hm w h1 h2 hag hw
    rw [if_neg hA]
    have hA0 : A.1 = false := by simpa using hA
    obtain ⟨q1, q2⟩ := e3 hA0
    obtain ⟨s1, s2, s3⟩ := search_factsM ok M hM n (tr1 ++ [-(v : Int)]) A.2.2 g2 (by omega)
    generalize searchF cs V n (tr1 ++ [-(v : Int)]) A.2.2 = B at s1 s2 s3
    by_cases hB : B.1 = true
    · rw [if_pos hB]
      obtain ⟨⟨x1, p1⟩, p2, p3, p4, p5⟩ := s2 hB
      refine ⟨by omega, fun _ => ⟨⟨ext ++ [-(v : Int)] ++ x1, by rw [p1, a1]; simp⟩, p2, p3, p4, fun β hb hm w h1 h2 hag hw => ?_⟩, fun h => by rw [hB] at h; cases h⟩
      have hb1 := b1 β hb hm
      have hbv : β v = false := by
        cases hb2 : β v with
        | false => rfl
        | true => exact absurd hm (q2 β (hAg hb1 (by rw [hlv]; exact hb2)))
      exact p5 β (hAg hb1 (by rw [hlv', hbv]; rfl)) hm w h1 h2 hag hw
    · rw [if_neg hB]
      have hB0 : B.1 = false := by simpa using hB
      refine ⟨by dsimp only; omega, (fun h => by cases h), fun _ => ⟨rfl, fun β hb hm => ?_⟩⟩
      have hb1 := b1 β hb hm
      cases hb2 : β v with
      | true => exact q2 β (hAg hb1 (by rw [hlv]; exact hb2)) hm
      | false => exact (s3 hB0).2 β (hAg hb1 (by rw [hlv', hb2]; rfl)) hm
end Go.Proofs.YtagfbbnlbncjlaaGreatDoor

/-
  Plain: an expression's clauses, and its literal (Tseitin).
-/
namespace Go.Proofs.YtagfbbnlbncjlaaGreatDoor
set_option linter.unusedSimpArgs false
set_option linter.unusedVariables false
open Go.Av

abbrev Cs := Nat × Cl
def mkAnd (l : List Int) (c : Cs) : Int × Cs := ((c.1 : Int) + 1, (c.1 + 1, c.2 ++ (l.map fun x => [-((c.1 : Int) + 1), x]) ++ [((c.1 : Int) + 1) :: l.map fun x => -x]))
mutual
def litG (ns es : List Tx) : Ex → Cs → Int × Cs
  | .bit s, c => ((ixT ns s : Int) + 1, c)
  | .rise s, c => mkAnd [(ixT ns s : Int) + 1, -((ns.length : Int) + ixT es s + 1)] c
  | .fall s, c => mkAnd [-((ixT ns s : Int) + 1), (ns.length : Int) + ixT es s + 1] c
  | .not e, c => (-(litG ns es e c).1, (litG ns es e c).2)
  | .and l, c => mkAnd (litsG ns es l c).1 (litsG ns es l c).2
  | .or l, c => (-(mkAnd ((litsG ns es l c).1.map fun x => -x) (litsG ns es l c).2).1, (mkAnd ((litsG ns es l c).1.map fun x => -x) (litsG ns es l c).2).2)
  | .cst b, c => ((c.1 : Int) + 1, (c.1 + 1, c.2 ++ [[if b then (c.1 : Int) + 1 else -((c.1 : Int) + 1)]]))
def litsG (ns es : List Tx) : List Ex → Cs → List Int × Cs
  | [], c => ([], c)
  | e :: l, c => ((litG ns es e c).1 :: (litsG ns es l (litG ns es e c).2).1, (litsG ns es l (litG ns es e c).2).2)
end
def isTs (ns : List Tx) (β : Nat → Bool) (s : Tx) : Bool := β (ixT ns s + 1)
def wasTs (ns es : List Tx) (β : Nat → Bool) (s : Tx) : Bool := β (ns.length + ixT es s + 1)

/-- A literal of the first V variables. -/
def OkL (V : Nat) (x : Int) : Prop := x ≠ 0 ∧ x ≤ V ∧ -V ≤ x
theorem OkL.neg {V : Nat} {x : Int} (h : OkL V x) : OkL V (-x) := ⟨by have := h.1; omega, by have := h.2.2; omega, by have := h.2.1; omega⟩
theorem OkL.mono {V W : Nat} {x : Int} (h : OkL V x) (hw : V ≤ W) : OkL W x := ⟨h.1, by have := h.2.1; omega, by have := h.2.2; omega⟩
theorem litB_same {V : Nat} {β γ : Nat → Bool} (h : ∀ v, v ≤ V → γ v = β v) {x : Int} (hx : OkL V x) : litB γ x = litB β x := by
  unfold litB
  obtain ⟨_, h2, h3⟩ := hx
  by_cases h1 : 0 < x
  · rw [if_pos h1, if_pos h1, h _ (by omega)]
  · rw [if_neg h1, if_neg h1, h _ (by omega)]
theorem models_app {a b : Cl} {β : Nat → Bool} : Models (a ++ b) β ↔ Models a β ∧ Models b β := by
  unfold Models
  constructor
  · intro h
    exact ⟨fun c hc => h c (List.mem_append_left _ hc), fun c hc => h c (List.mem_append_right _ hc)⟩
  · rintro ⟨h1, h2⟩ c hc
    rcases List.mem_append.1 hc with h | h
    · exact h1 c h
    · exact h2 c h
theorem models_same {V : Nat} {cs : Cl} (ok : OkC V cs) {β γ : Nat → Bool} (h : ∀ v, v ≤ V → γ v = β v) (hm : Models cs β) : Models cs γ := by
  intro c hc
  obtain ⟨x, hx, hb⟩ := hm c hc
  exact ⟨x, hx, by rw [litB_same h (ok c hc x hx)]; exact hb⟩

/-- What holds between clauses before and behind: nothing is lost, all is of the variables, what held may be made to hold. -/
structure Grows (c d : Cs) : Prop where
  vars : c.1 ≤ d.1
  ext : ∃ e, d.2 = c.2 ++ e
  ok : OkC c.1 c.2 → OkC d.1 d.2
  can : OkC c.1 c.2 → ∀ β, Models c.2 β → ∃ γ, (∀ v, v ≤ c.1 → γ v = β v) ∧ Models d.2 γ
theorem Grows.refl (c : Cs) : Grows c c := ⟨Nat.le_refl _, ⟨[], by simp⟩, id, fun _ β h => ⟨β, fun _ _ => rfl, h⟩⟩
theorem Grows.trans {a b c : Cs} (h1 : Grows a b) (h2 : Grows b c) : Grows a c := by
  obtain ⟨e1, he1⟩ := h1.ext
  obtain ⟨e2, he2⟩ := h2.ext
  refine ⟨Nat.le_trans h1.vars h2.vars, ⟨e1 ++ e2, by rw [he2, he1, List.append_assoc]⟩, fun h => h2.ok (h1.ok h), fun ok β hm => ?_⟩
  obtain ⟨γ, hg1, hg2⟩ := h1.can ok β hm
  obtain ⟨δ, hd1, hd2⟩ := h2.can (h1.ok ok) γ hg2
  exact ⟨δ, fun v hv => by rw [hd1 v (Nat.le_trans hv h1.vars), hg1 v hv], hd2⟩
theorem Grows.models {c d : Cs} (h : Grows c d) {β : Nat → Bool} (hm : Models d.2 β) : Models c.2 β := by
  obtain ⟨e, he⟩ := h.ext
  rw [he] at hm
  exact (models_app.1 hm).1

theorem litB_new {β : Nat → Bool} {n : Nat} : litB β ((n : Int) + 1) = β (n + 1) := by
  unfold litB
  rw [if_pos (by omega)]
  congr 1
theorem mkAnd_tells {l : List Int} {c : Cs} {β : Nat → Bool} (hl : ∀ x ∈ l, x ≠ 0) (hm : Models (mkAnd l c).2.2 β) : litB β (mkAnd l c).1 = l.all (litB β) := by
  unfold mkAnd at hm ⊢
  dsimp only at hm ⊢
  obtain ⟨h1, h2⟩ := models_app.1 hm
  obtain ⟨_, h1⟩ := models_app.1 h1
  have hn : litB β (-((c.1 : Int) + 1)) = !litB β ((c.1 : Int) + 1) := litB_neg (by omega)
  cases hv : litB β ((c.1 : Int) + 1) with
  | true =>
    symm
    rw [List.all_eq_true]
    intro x hx
    obtain ⟨y, hy, hb⟩ := h1 [-((c.1 : Int) + 1), x] (List.mem_map.2 ⟨x, hx, rfl⟩)
    simp only [List.mem_cons, List.not_mem_nil, or_false] at hy
    rcases hy with rfl | rfl
    · rw [hn, hv] at hb; cases hb
    · exact hb
  | false =>
    symm
    obtain ⟨y, hy, hb⟩ := h2 _ (List.mem_singleton.2 rfl)
    rcases List.mem_cons.1 hy with rfl | hy
    · rw [hv] at hb; cases hb
    · obtain ⟨x, hx, rfl⟩ := List.mem_map.1 hy
      rw [litB_neg (hl x hx)] at hb
      rw [List.all_eq_false]
      exact ⟨x, hx, by simpa using hb⟩
theorem mkAnd_grows {l : List Int} {c : Cs} (hl : ∀ x ∈ l, OkL c.1 x) : Grows c (mkAnd l c).2 := by
  unfold mkAnd
  dsimp only
  refine ⟨by simp, ⟨_, List.append_assoc ..⟩, fun ok => ?_, fun ok β hm => ?_⟩
  · intro d hd x hx
    show OkL (c.1 + 1) x
    rcases List.mem_append.1 hd with hd | hd
    · rcases List.mem_append.1 hd with hd | hd
      · exact OkL.mono (ok d hd x hx) (by omega)
      · obtain ⟨y, hy, rfl⟩ := List.mem_map.1 hd
        simp only [List.mem_cons, List.not_mem_nil, or_false] at hx
        rcases hx with rfl | rfl
        · exact ⟨by omega, by omega, by simp⟩
        · exact (hl _ hy).mono (by omega)
    · rw [List.mem_singleton] at hd
      subst hd
      rcases List.mem_cons.1 hx with rfl | hx
      · exact ⟨by omega, by simp, by omega⟩
      · obtain ⟨y, hy, rfl⟩ := List.mem_map.1 hx
        exact ((hl _ hy).mono (by omega)).neg
  · obtain ⟨γ, hg, hnew⟩ : ∃ γ : Nat → Bool, (∀ v, v ≤ c.1 → γ v = β v) ∧ litB γ ((c.1 : Int) + 1) = l.all (litB β) :=
      ⟨fun v => if v = c.1 + 1 then l.all (litB β) else β v, fun v hv => by dsimp only; rw [if_neg (by omega)], by rw [litB_new]; simp⟩
    refine ⟨γ, hg, ?_⟩
    have hold : ∀ x ∈ l, litB γ x = litB β x := fun x hx => litB_same hg (hl x hx)
    refine models_app.2 ⟨models_app.2 ⟨models_same ok hg hm, ?_⟩, ?_⟩
    · intro d hd
      obtain ⟨x, hx, rfl⟩ := List.mem_map.1 hd
      cases ha : l.all (litB β) with
      | true => exact ⟨x, by simp, by rw [hold x hx]; exact List.all_eq_true.1 ha x hx⟩
      | false => exact ⟨-((c.1 : Int) + 1), by simp, by rw [litB_neg (by omega), hnew, ha]; rfl⟩
    · intro d hd
      rw [List.mem_singleton] at hd
      subst hd
      cases ha : l.all (litB β) with
      | true => exact ⟨(c.1 : Int) + 1, by simp, by rw [hnew]; exact ha⟩
      | false =>
        obtain ⟨x, hx, hb⟩ := List.all_eq_false.1 ha
        exact ⟨-x, List.mem_cons_of_mem _ (List.mem_map.2 ⟨x, hx, rfl⟩), by rw [litB_neg (hl x hx).1, hold x hx]; simpa using hb⟩
theorem mkAnd_lit {l : List Int} {c : Cs} : OkL (mkAnd l c).2.1 (mkAnd l c).1 := by
  unfold mkAnd OkL
  dsimp only
  exact ⟨by omega, by omega, by omega⟩

/-- What the literal of an expression is. -/
def Tells1 (ns es : List Tx) (e : Ex) (c : Cs) : Prop :=
  Grows c (litG ns es e c).2 ∧ OkL (litG ns es e c).2.1 (litG ns es e c).1 ∧ ∀ β, Models (litG ns es e c).2.2 β → litB β (litG ns es e c).1 = evE (isTs ns β) (wasTs ns es β) e
def TellsL (ns es : List Tx) (l : List Ex) (c : Cs) : Prop :=
  Grows c (litsG ns es l c).2 ∧ (∀ x ∈ (litsG ns es l c).1, OkL (litsG ns es l c).2.1 x) ∧ (litsG ns es l c).1.length = l.length ∧
    ∀ β, Models (litsG ns es l c).2.2 β → (litsG ns es l c).1.map (litB β) = l.map (evE (isTs ns β) (wasTs ns es β))
theorem tells_all {f : Ex → Bool} {β : Nat → Bool} : ∀ {xs : List Int} {l : List Ex}, xs.map (litB β) = l.map f → xs.all (litB β) = l.all f
  | xs, l, h => by
    have := congrArg (fun l : List Bool => l.all id) h
    simpa [List.all_map] using this
theorem evA_all (is was : Tx → Bool) : ∀ l : List Ex, evA is was l = l.all (evE is was)
  | [] => rfl
  | e :: l => by rw [evA, evA_all is was l]; rfl
theorem evO_all (is was : Tx → Bool) : ∀ l : List Ex, evO is was l = !l.all fun e => !evE is was e
  | [] => rfl
  | e :: l => by rw [evO, evO_all is was l]; simp
theorem lit_tells (ns es : List Tx) : ∀ (n : Nat) (e : Ex), SizeOf.sizeOf e ≤ n → (∀ s ∈ nmsE true e, s ∈ ns) → (∀ s ∈ nmsE false e, s ∈ es) → WfE e → ∀ c : Cs, ns.length + es.length ≤ c.1 → Tells1 ns es e c
  | 0, e, hn, _, _, _, _, _ => by cases e <;> simp at hn
  | n + 1, e, hn, hN, hE, hw, c, hc => by
    have many : ∀ l : List Ex, (∀ x ∈ l, SizeOf.sizeOf x ≤ n) → (∀ s ∈ nmsL true l, s ∈ ns) → (∀ s ∈ nmsL false l, s ∈ es) → (∀ x ∈ l, WfE x) → ∀ c : Cs, ns.length + es.length ≤ c.1 → TellsL ns es l c := by
      intro l
      induction l with
      | nil => intro _ _ _ _ c _; exact ⟨Grows.refl c, by simp [litsG], rfl, fun β _ => rfl⟩
      | cons x l ih =>
        intro hs h1 h2 h3 c hc
        simp only [nmsL, List.mem_append] at h1 h2
        obtain ⟨a1, a2, a3⟩ := lit_tells ns es n x (hs x (by simp)) (fun s h => h1 s (.inl h)) (fun s h => h2 s (.inl h)) (h3 x (by simp)) c hc
        obtain ⟨b1, b2, b3, b4⟩ := ih (fun y hy => hs y (by simp [hy])) (fun s h => h1 s (.inr h)) (fun s h => h2 s (.inr h)) (fun y hy => h3 y (by simp [hy])) (litG ns es x c).2 (Nat.le_trans hc a1.vars)
        refine ⟨a1.trans b1, ?_, ?_, ?_⟩
        · simp only [litsG]
          intro y hy
          rcases List.mem_cons.1 hy with rfl | hy
          · exact a2.mono b1.vars
          · exact b2 y hy
        · simp only [litsG, List.length_cons, b3]
        · intro β hm
          simp only [litsG] at hm ⊢
          rw [List.map_cons, List.map_cons, b4 β hm, a3 β (b1.models hm)]
    have hpos : ∀ (k : Nat) (β : Nat → Bool), litB β ((k : Int) + 1) = β (k + 1) := fun k β => litB_new
    cases e with
    | bit s =>
      have hs : s ∈ ns := hN s (by
        have : s ≠ [] := by
          intro h; subst h
          rw [WfE] at hw
          simp [nameF] at hw
        simp [nmsE, nmE, one1, this])
      have hlt := ixT_lt hs
      refine ⟨Grows.refl c, ?_, fun β _ => ?_⟩
      · simp only [litG]
        exact ⟨by omega, by omega, by omega⟩
      · simp only [litG, evE, isTs]
        exact litB_new
    | rise s =>
      have hne : s ≠ [] := by
        intro h; subst h
        rw [WfE] at hw
        simp [nameF] at hw
      have hs : s ∈ ns := hN s (by simp [nmsE, nmE, one1, hne])
      have he : s ∈ es := hE s (by simp [nmsE, nmE, one1, hne])
      have hlt := ixT_lt hs
      have hlt2 := ixT_lt he
      have hl : ∀ x ∈ [(ixT ns s : Int) + 1, -((ns.length : Int) + ixT es s + 1)], OkL c.1 x := by
        intro x hx
        simp only [List.mem_cons, List.not_mem_nil, or_false] at hx
        rcases hx with rfl | rfl <;> exact ⟨by omega, by omega, by omega⟩
      refine ⟨mkAnd_grows hl, mkAnd_lit, fun β hm => ?_⟩
      simp only [litG] at hm ⊢
      rw [mkAnd_tells (fun x hx => (hl x hx).1) hm]
      have h1 : litB β ((ixT ns s : Int) + 1) = isTs ns β s := litB_new
      have h2 : litB β (-((ns.length : Int) + ixT es s + 1)) = !wasTs ns es β s := by
        rw [litB_neg (by omega)]
        have : ((ns.length : Int) + ixT es s + 1) = ((ns.length + ixT es s : Nat) : Int) + 1 := by omega
        rw [this, litB_new]
        rfl
      simp [h1, h2, evE]
    | fall s =>
      have hne : s ≠ [] := by
        intro h; subst h
        rw [WfE] at hw
        simp [nameF] at hw
      have hs : s ∈ ns := hN s (by simp [nmsE, nmE, one1, hne])
      have he : s ∈ es := hE s (by simp [nmsE, nmE, one1, hne])
      have hlt := ixT_lt hs
      have hlt2 := ixT_lt he
      have hl : ∀ x ∈ [-((ixT ns s : Int) + 1), (ns.length : Int) + ixT es s + 1], OkL c.1 x := by
        intro x hx
        simp only [List.mem_cons, List.not_mem_nil, or_false] at hx
        rcases hx with rfl | rfl <;> exact ⟨by omega, by omega, by omega⟩
      refine ⟨mkAnd_grows hl, mkAnd_lit, fun β hm => ?_⟩
      simp only [litG] at hm ⊢
      rw [mkAnd_tells (fun x hx => (hl x hx).1) hm]
      have h1 : litB β (-((ixT ns s : Int) + 1)) = !isTs ns β s := by rw [litB_neg (by omega), litB_new]; rfl
      have h2 : litB β ((ns.length : Int) + ixT es s + 1) = wasTs ns es β s := by
        have : ((ns.length : Int) + ixT es s + 1) = ((ns.length + ixT es s : Nat) : Int) + 1 := by omega
        rw [this, litB_new]
        rfl
      simp [h1, h2, evE]
    | not x =>
      obtain ⟨a1, a2, a3⟩ := lit_tells ns es n x (by simp at hn; omega) hN hE (by simpa [WfE] using hw) c hc
      refine ⟨a1, a2.neg, fun β hm => ?_⟩
      simp only [litG, evE] at hm ⊢
      rw [litB_neg a2.1, a3 β hm]
    | and l =>
      obtain ⟨a1, a2, a3, a4⟩ := many l (fun x hx => by have := List.sizeOf_lt_of_mem hx; simp only [Ex.and.sizeOf_spec] at hn; omega) hN hE ((WfEs_iff _).1 hw.2) c hc
      refine ⟨a1.trans (mkAnd_grows a2), mkAnd_lit, fun β hm => ?_⟩
      simp only [litG] at hm ⊢
      rw [mkAnd_tells (fun x hx => (a2 x hx).1) hm, evE, evA_all]
      exact tells_all (a4 β ((mkAnd_grows a2).models hm))
    | or l =>
      obtain ⟨a1, a2, a3, a4⟩ := many l (fun x hx => by have := List.sizeOf_lt_of_mem hx; simp only [Ex.or.sizeOf_spec] at hn; omega) hN hE ((WfEs_iff _).1 hw.2) c hc
      have a2' : ∀ x ∈ (litsG ns es l c).1.map fun x => -x, OkL (litsG ns es l c).2.1 x := by
        intro x hx
        obtain ⟨y, hy, rfl⟩ := List.mem_map.1 hx
        exact (a2 y hy).neg
      refine ⟨a1.trans (mkAnd_grows a2'), mkAnd_lit.neg, fun β hm => ?_⟩
      simp only [litG] at hm ⊢
      rw [litB_neg mkAnd_lit.1, mkAnd_tells (fun x hx => (a2' x hx).1) hm, evE, evO_all]
      congr 1
      have h4 := a4 β ((mkAnd_grows a2').models hm)
      refine tells_all ?_
      rw [List.map_map]
      have h5 : (litsG ns es l c).1.map (litB β ∘ fun x => -x) = ((litsG ns es l c).1.map (litB β)).map (!·) := by
        rw [List.map_map]
        exact List.map_congr_left fun x hx => litB_neg (a2 x hx).1
      rw [h5, h4, List.map_map]
      rfl
    | cst b =>
      have hok : ∀ x ∈ [if b then (c.1 : Int) + 1 else -((c.1 : Int) + 1)], OkL (c.1 + 1) x := by
        intro x hx
        rw [List.mem_singleton] at hx
        subst hx
        cases b with
        | true => rw [if_pos rfl]; exact ⟨by omega, by omega, by omega⟩
        | false => rw [if_neg (by simp)]; exact ⟨by omega, by omega, by omega⟩
      refine ⟨⟨by simp [litG], ⟨_, rfl⟩, fun ok => ?_, fun ok β hm => ?_⟩, ?_, fun β hm => ?_⟩
      · intro d hd x hx
        show OkL (c.1 + 1) x
        rcases List.mem_append.1 hd with hd | hd
        · exact OkL.mono (ok d hd x hx) (by omega)
        · rw [List.mem_singleton] at hd
          subst hd
          exact hok x hx
      · refine ⟨fun v => if v = c.1 + 1 then b else β v, fun v hv => by dsimp only; rw [if_neg (by omega)], models_app.2 ⟨models_same ok (fun v hv => if_neg (by omega)) hm, ?_⟩⟩
        intro d hd
        rw [List.mem_singleton] at hd
        subst hd
        refine ⟨_, List.mem_singleton.2 rfl, ?_⟩
        cases b with
        | true => rw [if_pos rfl, litB_new]; simp
        | false => rw [if_neg (by simp), litB_neg (by omega), litB_new]; simp
      · simp only [litG]; exact ⟨by omega, by omega, by omega⟩
      · simp only [litG, evE] at hm ⊢
        obtain ⟨x, hx, hb⟩ := (models_app.1 hm).2 _ (List.mem_singleton.2 rfl)
        rw [List.mem_singleton] at hx
        subst hx
        cases b with
        | true => simpa using hb
        | false =>
          rw [if_neg (by simp), litB_neg (by omega)] at hb
          simpa using hb
end Go.Proofs.YtagfbbnlbncjlaaGreatDoor

/-
  Plain: behind the names all else follows (Tseitin's clauses, spread).
-/
namespace Go.Proofs.YtagfbbnlbncjlaaGreatDoor
set_option linter.unusedSimpArgs false
set_option linter.unusedVariables false
open Go.Av

/-- What spread leaves: each clause holds, or more than one of its literals is free. -/
def Fixd (cs : Cl) (tr : List Int) : Prop := ∀ c ∈ cs, (scanC tr c).2.2 = true ∨ 1 < (scanC tr c).2.1
theorem Fixd.app {a b : Cl} {tr : List Int} (h : Fixd (a ++ b) tr) : Fixd a tr ∧ Fixd b tr := ⟨fun c hc => h c (List.mem_append_left _ hc), fun c hc => h c (List.mem_append_right _ hc)⟩
/-- Where no literal but one is free, no more than one is counted. -/
theorem scan_one {tr : List Int} {y : Int} : ∀ (c : List Int) (s : Int × Nat × Bool), (∀ x ∈ c, isT tr x = 0 → x = y) → (s.2.1 = 0 ∨ s.2.1 = 1 ∧ s.1 = y) → ((c.foldl (stepC tr) s).2.1 = 0 ∨ (c.foldl (stepC tr) s).2.1 = 1 ∧ (c.foldl (stepC tr) s).1 = y)
  | [], s, _, h => h
  | x :: c, s, hc, h => by
    rw [List.foldl_cons]
    refine scan_one c _ (fun z hz => hc z (by simp [hz])) ?_
    unfold stepC
    by_cases h1 : isT tr x = 1
    · rw [if_pos h1]; exact h
    · rw [if_neg h1]
      by_cases h0 : isT tr x = 0
      · have hx := hc x (by simp) h0
        rw [if_pos h0]
        subst hx
        rcases h with h | ⟨h, hs⟩
        · dsimp only
          by_cases hs : x ≠ s.1
          · rw [if_pos hs, h]; exact .inr ⟨rfl, rfl⟩
          · rw [if_neg hs]; exact .inl h
        · dsimp only
          rw [if_neg (by rw [hs]; simp), h]
          exact .inr ⟨rfl, rfl⟩
      · rw [if_neg h0]; exact h
/-- A clause that does not hold, and has at most one free literal, is none that spread leaves. -/
theorem fixd_not {cs : Cl} {tr : List Int} (h : Fixd cs tr) {c : List Int} (hc : c ∈ cs) (h0 : ∀ x ∈ c, x ≠ 0) (hn : ∀ x ∈ c, x ∉ tr) {y : Int} (hy : ∀ x ∈ c, isT tr x = 0 → x = y) : False := by
  obtain ⟨f1, _, _, _⟩ := scan_facts tr h0
  rcases h c hc with hh | hh
  · obtain ⟨x, hx, hxt⟩ := f1.1 hh
    exact hn x hx hxt
  · have := scan_one (tr := tr) (y := y) c (0, 0, false) hy (.inl rfl)
    unfold scanC at hh
    omega
theorem isT_abs {V : Nat} {tr : List Int} (g : GoodT V tr) {x : Int} (h : isT tr (x.natAbs : Int) ≠ 0) : isT tr x ≠ 0 := by
  intro h0
  rcases Int.natAbs_eq x with e | e
  · rw [← e] at h; exact h h0
  · apply h
    have e2 : (x.natAbs : Int) = -x := by omega
    rw [e2, isT_neg g, h0]
    rfl
/-- The new variable follows. -/
theorem mkAnd_sets {V : Nat} {l : List Int} {c : Cs} {tr : List Int} (g : GoodT V tr) (hl : ∀ x ∈ l, OkL c.1 x) (hs : ∀ v : Nat, 1 ≤ v → v ≤ c.1 → isT tr v ≠ 0) (hf : Fixd (mkAnd l c).2.2 tr) : isT tr ((c.1 : Int) + 1) ≠ 0 := by
  intro h0
  unfold mkAnd at hf
  dsimp only at hf
  obtain ⟨h1, h2⟩ := hf.app
  obtain ⟨_, h1⟩ := h1.app
  have hz := isT_zero.1 h0
  have hset : ∀ x ∈ l, isT tr x ≠ 0 := fun x hx => isT_abs g (by
    obtain ⟨a, b, d⟩ := hl x hx
    exact hs x.natAbs (by omega) (by omega))
  by_cases hall : ∀ x ∈ l, x ∈ tr
  · -- all hold: the last clause
    refine fixd_not h2 (List.mem_singleton.2 rfl) (fun x hx => ?_) (fun x hx => ?_) (y := (c.1 : Int) + 1) (fun x hx hx0 => ?_)
    · rcases List.mem_cons.1 hx with rfl | hx
      · omega
      · obtain ⟨y, hy, rfl⟩ := List.mem_map.1 hx
        have := (hl y hy).1
        omega
    · rcases List.mem_cons.1 hx with rfl | hx
      · exact hz.1
      · obtain ⟨y, hy, rfl⟩ := List.mem_map.1 hx
        exact g.one y (hall y hy)
    · rcases List.mem_cons.1 hx with rfl | hx
      · rfl
      · obtain ⟨y, hy, rfl⟩ := List.mem_map.1 hx
        rw [isT_neg g] at hx0
        exact absurd (by omega : isT tr y = 0) (hset y hy)
  · -- one doesn't: its clause
    obtain ⟨x, hx⟩ := Classical.not_forall.1 hall
    obtain ⟨hx, hxt⟩ := Classical.not_imp.1 hx
    refine fixd_not h1 (List.mem_map.2 ⟨x, hx, rfl⟩) (fun z hz => ?_) (fun z hz' => ?_) (y := -((c.1 : Int) + 1)) (fun z hz' hz0 => ?_)
    · simp only [List.mem_cons, List.not_mem_nil, or_false] at hz
      rcases hz with rfl | rfl
      · omega
      · exact (hl _ hx).1
    · simp only [List.mem_cons, List.not_mem_nil, or_false] at hz'
      rcases hz' with rfl | rfl
      · exact hz.2
      · exact hxt
    · simp only [List.mem_cons, List.not_mem_nil, or_false] at hz'
      rcases hz' with rfl | rfl
      · rfl
      · exact absurd hz0 (hset _ hx)
/-- Behind the names all follows. -/
theorem lit_sets {V : Nat} {tr : List Int} (g : GoodT V tr) (ns es : List Tx) : ∀ (n : Nat) (e : Ex), SizeOf.sizeOf e ≤ n → (∀ s ∈ nmsE true e, s ∈ ns) → (∀ s ∈ nmsE false e, s ∈ es) → WfE e → ∀ c : Cs, ns.length + es.length ≤ c.1 →
    Fixd (litG ns es e c).2.2 tr → (∀ v : Nat, 1 ≤ v → v ≤ c.1 → isT tr v ≠ 0) → ∀ v : Nat, 1 ≤ v → v ≤ (litG ns es e c).2.1 → isT tr v ≠ 0
  | 0, e, hn, _, _, _, _, _ => by cases e <;> simp at hn
  | n + 1, e, hn, hN, hE, hw, c, hc => by
    have many : ∀ l : List Ex, (∀ x ∈ l, SizeOf.sizeOf x ≤ n) → (∀ s ∈ nmsL true l, s ∈ ns) → (∀ s ∈ nmsL false l, s ∈ es) → (∀ x ∈ l, WfE x) → ∀ c : Cs, ns.length + es.length ≤ c.1 →
        (Grows c (litsG ns es l c).2 ∧ ∀ x ∈ (litsG ns es l c).1, OkL (litsG ns es l c).2.1 x) ∧ (Fixd (litsG ns es l c).2.2 tr → (∀ v : Nat, 1 ≤ v → v ≤ c.1 → isT tr v ≠ 0) → ∀ v : Nat, 1 ≤ v → v ≤ (litsG ns es l c).2.1 → isT tr v ≠ 0) := by
      intro l
      induction l with
      | nil => intro _ _ _ _ c _; exact ⟨⟨Grows.refl c, by simp [litsG]⟩, fun _ h => h⟩
      | cons x l ih =>
        intro hs h1 h2 h3 c hc
        simp only [nmsL, List.mem_append] at h1 h2
        obtain ⟨a1, a2, _⟩ := lit_tells ns es n x (hs x (by simp)) (fun s h => h1 s (.inl h)) (fun s h => h2 s (.inl h)) (h3 x (by simp)) c hc
        have a4 := lit_sets g ns es n x (hs x (by simp)) (fun s h => h1 s (.inl h)) (fun s h => h2 s (.inl h)) (h3 x (by simp)) c hc
        obtain ⟨⟨b1, b2⟩, b3⟩ := ih (fun y hy => hs y (by simp [hy])) (fun s h => h1 s (.inr h)) (fun s h => h2 s (.inr h)) (fun y hy => h3 y (by simp [hy])) (litG ns es x c).2 (Nat.le_trans hc a1.vars)
        refine ⟨⟨a1.trans b1, ?_⟩, fun hf hset => ?_⟩
        · simp only [litsG]
          intro y hy
          rcases List.mem_cons.1 hy with rfl | hy
          · exact a2.mono b1.vars
          · exact b2 y hy
        · simp only [litsG] at hf ⊢
          obtain ⟨ex, he⟩ := b1.ext
          have hf1 : Fixd (litG ns es x c).2.2 tr := by rw [he] at hf; exact hf.app.1
          exact b3 hf (a4 hf1 hset)
    have new : ∀ {l : List Int} {d : Cs}, (∀ x ∈ l, OkL d.1 x) → (∀ v : Nat, 1 ≤ v → v ≤ d.1 → isT tr v ≠ 0) → Fixd (mkAnd l d).2.2 tr → ∀ v : Nat, 1 ≤ v → v ≤ (mkAnd l d).2.1 → isT tr v ≠ 0 := by
      intro l d hl hs hf v h1 h2
      have h3 : v ≤ d.1 + 1 := h2
      by_cases hv : v ≤ d.1
      · exact hs v h1 hv
      · obtain rfl : v = d.1 + 1 := by omega
        exact mkAnd_sets g hl hs hf
    have keep : ∀ {l : List Int} {d : Cs}, (∀ x ∈ l, OkL d.1 x) → Fixd (mkAnd l d).2.2 tr → Fixd d.2 tr := by
      intro l d hl hf
      obtain ⟨ex, he⟩ := (mkAnd_grows hl).ext
      rw [he] at hf
      exact hf.app.1
    have hnm : ∀ {s : Tx}, nameF s = true → s ≠ [] := by
      intro s h e
      subst e
      simp [nameF] at h
    cases e with
    | bit s => intro hf hs v h1 h2; exact hs v h1 h2
    | rise s =>
      rw [WfE] at hw
      have hne := hnm hw
      have hlt := ixT_lt (hN s (by simp [nmsE, nmE, one1, hne]))
      have hlt2 := ixT_lt (hE s (by simp [nmsE, nmE, one1, hne]))
      intro hf hs
      refine new (fun x hx => ?_) hs hf
      simp only [List.mem_cons, List.not_mem_nil, or_false] at hx
      rcases hx with rfl | rfl <;> exact ⟨by omega, by omega, by omega⟩
    | fall s =>
      rw [WfE] at hw
      have hne := hnm hw
      have hlt := ixT_lt (hN s (by simp [nmsE, nmE, one1, hne]))
      have hlt2 := ixT_lt (hE s (by simp [nmsE, nmE, one1, hne]))
      intro hf hs
      refine new (fun x hx => ?_) hs hf
      simp only [List.mem_cons, List.not_mem_nil, or_false] at hx
      rcases hx with rfl | rfl <;> exact ⟨by omega, by omega, by omega⟩
    | not x => exact lit_sets g ns es n x (by simp at hn; omega) hN hE (by simpa [WfE] using hw) c hc
    | and l =>
      obtain ⟨⟨a1, a2⟩, a3⟩ := many l (fun x hx => by have := List.sizeOf_lt_of_mem hx; simp only [Ex.and.sizeOf_spec] at hn; omega) hN hE ((WfEs_iff _).1 hw.2) c hc
      intro hf hs
      exact new a2 (a3 (keep a2 hf) hs) hf
    | or l =>
      obtain ⟨⟨a1, a2⟩, a3⟩ := many l (fun x hx => by have := List.sizeOf_lt_of_mem hx; simp only [Ex.or.sizeOf_spec] at hn; omega) hN hE ((WfEs_iff _).1 hw.2) c hc
      have a2' : ∀ x ∈ (litsG ns es l c).1.map fun x => -x, OkL (litsG ns es l c).2.1 x := by
        intro x hx
        obtain ⟨y, hy, rfl⟩ := List.mem_map.1 hx
        exact (a2 y hy).neg
      intro hf hs
      exact new a2' (a3 (keep a2' hf) hs) hf
    | cst b =>
      intro hf hs v h1 h2
      have h3 : v ≤ c.1 + 1 := h2
      by_cases hv : v ≤ c.1
      · exact hs v h1 hv
      · obtain rfl : v = c.1 + 1 := by omega
        intro h0
        have hz := isT_zero.1 h0
        obtain ⟨_, hf2⟩ := Fixd.app hf
        refine fixd_not hf2 (List.mem_singleton.2 rfl) (y := if b then (c.1 : Int) + 1 else -((c.1 : Int) + 1)) (fun x hx => ?_) (fun x hx => ?_) (fun x hx _ => List.mem_singleton.1 hx)
        · rw [List.mem_singleton] at hx
          subst hx
          cases b with
          | true => rw [if_pos rfl]; omega
          | false => rw [if_neg (by simp)]; omega
        · rw [List.mem_singleton] at hx
          subst hx
          cases b with
          | true => rw [if_pos rfl]; exact hz.1
          | false => rw [if_neg (by simp)]; exact hz.2
end Go.Proofs.YtagfbbnlbncjlaaGreatDoor

/-
  Plain: Tseitin's clauses, searched: the law.
-/
namespace Go.Proofs.YtagfbbnlbncjlaaGreatDoor
set_option linter.unusedSimpArgs false
set_option linter.unusedVariables false
open Go.Av

/-- An expression's clauses, with its literal. -/
def tsC (ns es : List Tx) (e : Ex) : Int × Cs := litG ns es e (ns.length + es.length, [])
def tsAll (ns es : List Tx) (e : Ex) : Cl := (tsC ns es e).2.2 ++ [[(tsC ns es e).1]]
section
variable {ns es : List Tx} {e : Ex} (hN : ∀ s ∈ nmsE true e, s ∈ ns) (hE : ∀ s ∈ nmsE false e, s ∈ es) (hw : WfE e)
include hN hE hw

theorem ts_tells : Tells1 ns es e (ns.length + es.length, []) := lit_tells ns es _ e (Nat.le_refl _) hN hE hw _ (Nat.le_refl _)
theorem ts_ok : OkC (tsC ns es e).2.1 (tsAll ns es e) := by
  obtain ⟨a1, a2, _⟩ := ts_tells hN hE hw
  intro c hc x hx
  rcases List.mem_append.1 hc with h | h
  · exact a1.ok (fun c hc => by simp at hc) c h x hx
  · rw [List.mem_singleton] at h
    subst h
    rw [List.mem_singleton] at hx
    subst hx
    exact a2
/-- Each step decides a name. -/
theorem ts_falls (tr : List Int) (g : GoodT (tsC ns es e).2.1 tr) (hs : (spreadF (tsAll ns es e) ((tsC ns es e).2.1 + 1) tr).1 = true) (hv : freeF (spreadF (tsAll ns es e) ((tsC ns es e).2.1 + 1) tr).2 1 (tsC ns es e).2.1 ≠ 0) :
    leftT (ns.length + es.length) ((spreadF (tsAll ns es e) ((tsC ns es e).2.1 + 1) tr).2 ++ [(freeF (spreadF (tsAll ns es e) ((tsC ns es e).2.1 + 1) tr).2 1 (tsC ns es e).2.1 : Int)]) < leftT (ns.length + es.length) tr ∧
      leftT (ns.length + es.length) ((spreadF (tsAll ns es e) ((tsC ns es e).2.1 + 1) tr).2 ++ [-(freeF (spreadF (tsAll ns es e) ((tsC ns es e).2.1 + 1) tr).2 1 (tsC ns es e).2.1 : Int)]) < leftT (ns.length + es.length) tr := by
  have ok := ts_ok hN hE hw
  have hsets : ∀ {tr1 : List Int}, GoodT (tsC ns es e).2.1 tr1 → Fixd (tsAll ns es e) tr1 → (∀ v : Nat, 1 ≤ v → v ≤ ns.length + es.length → isT tr1 v ≠ 0) → ∀ v : Nat, 1 ≤ v → v ≤ (tsC ns es e).2.1 → isT tr1 v ≠ 0 := fun g1 hf h0 =>
    lit_sets g1 ns es _ e (Nat.le_refl _) hN hE hw (ns.length + es.length, []) (Nat.le_refl _) hf.app.1 h0
  generalize tsAll ns es e = cs at ok hs hv hsets ⊢
  generalize (tsC ns es e).2.1 = V at ok g hs hv hsets ⊢
  obtain ⟨⟨ext, a1⟩, a2, a3, _⟩ := spread_facts ok (V + 1) tr g (by have := leftT_le V tr; omega)
  have hfix : Fixd cs (spreadF cs (V + 1) tr).2 := (a3 hs).2
  generalize (spreadF cs (V + 1) tr).2 = tr1 at a1 a2 hfix hv ⊢
  obtain ⟨_, c2⟩ := free_facts tr1 V 1 (by decide)
  generalize freeF tr1 1 V = v at c2 hv ⊢
  obtain ⟨d1, d2, d3, d4⟩ := c2 hv
  have hm : v ≤ ns.length + es.length := by
    apply Classical.byContradiction
    intro hn
    exact hsets a2 hfix (fun w h1 h2 => d4 w h1 (by omega)) v d1 (by omega) d3
  have d3' : isT tr1 (-(v : Int)) = 0 := by rw [isT_neg a2, d3]; rfl
  have hm1 : leftT (ns.length + es.length) tr1 ≤ leftT (ns.length + es.length) tr := by rw [a1]; exact leftT_mono _ tr ext
  have l1 := leftT_lt (V := ns.length + es.length) (x := (v : Int)) (by omega) (by omega) (by omega) d3 []
  have l2 := leftT_lt (V := ns.length + es.length) (x := -(v : Int)) (by omega) (by omega) (by omega) d3' []
  exact ⟨by omega, by omega⟩
/-- What the search of the clauses says. -/
theorem ts_search :
    (searchF (tsAll ns es e) (tsC ns es e).2.1 (ns.length + es.length + 1) [] 0).2.2 + 1 ≤ 2^(ns.length + es.length + 1) ∧
      ((searchF (tsAll ns es e) (tsC ns es e).2.1 (ns.length + es.length + 1) [] 0).1 = true →
        evE (isTs ns (valT (searchF (tsAll ns es e) (tsC ns es e).2.1 (ns.length + es.length + 1) [] 0).2.1)) (wasTs ns es (valT (searchF (tsAll ns es e) (tsC ns es e).2.1 (ns.length + es.length + 1) [] 0).2.1)) e = true) ∧
      ((searchF (tsAll ns es e) (tsC ns es e).2.1 (ns.length + es.length + 1) [] 0).1 = false → ∀ is was : Tx → Bool, evE is was e = false) := by
  have ok := ts_ok hN hE hw
  obtain ⟨a1, a2, a3⟩ := ts_tells hN hE hw
  obtain ⟨s1, s2, s3⟩ := search_factsM ok (leftT (ns.length + es.length)) (fun tr g h1 h2 => ts_falls hN hE hw tr g h1 h2) (ns.length + es.length + 1) [] 0 (GoodT.nil _) (by have := leftT_le (ns.length + es.length) []; omega)
  refine ⟨by omega, fun h => ?_, fun h is was => ?_⟩
  · obtain ⟨_, _, _, hm, _⟩ := s2 h
    obtain ⟨m1, m2⟩ := models_app.1 hm
    have h3 := a3 _ m1
    obtain ⟨x, hx, hb⟩ := m2 _ (List.mem_singleton.2 rfl)
    rw [List.mem_singleton] at hx
    subst hx
    rw [← h3]
    exact hb
  · obtain ⟨_, hno⟩ := s3 h
    cases hv : evE is was e with
    | false => rfl
    | true =>
      exfalso
      -- values of the names
      let β : Nat → Bool := fun v => if v ≤ ns.length then is (ns.getD (v - 1) []) else was (es.getD (v - 1 - ns.length) [])
      obtain ⟨γ, hg1, hg2⟩ := a1.can (fun c hc => by simp at hc) β (fun c hc => by simp at hc)
      have h3 := a3 γ hg2
      have hi : ∀ s ∈ nmsE true e, isTs ns γ s = is s := fun s hs => by
        have hsn := hN s hs
        have hlt := ixT_lt hsn
        unfold isTs
        rw [hg1 _ (by show ixT ns s + 1 ≤ ns.length + es.length; omega)]
        show (if ixT ns s + 1 ≤ ns.length then is (ns.getD (ixT ns s + 1 - 1) []) else _) = is s
        rw [if_pos (by omega)]
        congr 1
        have := ixT_get hsn
        simp [hlt, this]
      have hwas : ∀ s ∈ nmsE false e, wasTs ns es γ s = was s := fun s hs => by
        have hsn := hE s hs
        have hlt := ixT_lt hsn
        unfold wasTs
        rw [hg1 _ (by show ns.length + ixT es s + 1 ≤ ns.length + es.length; omega)]
        show (if ns.length + ixT es s + 1 ≤ ns.length then _ else was (es.getD (ns.length + ixT es s + 1 - 1 - ns.length) [])) = was s
        rw [if_neg (by omega)]
        congr 1
        have := ixT_get hsn
        have e1 : ns.length + ixT es s + 1 - 1 - ns.length = ixT es s := by omega
        rw [e1]
        simp [hlt, this]
      rw [ev_names _ _ is was _ e (Nat.le_refl _) hw hi hwas, hv] at h3
      refine hno γ (fun x hx => by cases hx) (models_app.2 ⟨hg2, fun c hc => ?_⟩)
      rw [List.mem_singleton] at hc
      subst hc
      exact ⟨_, List.mem_singleton.2 rfl, h3⟩
end
end Go.Proofs.YtagfbbnlbncjlaaGreatDoor

/-
  Plain: how many variables and clauses an expression gives.
-/
namespace Go.Proofs.YtagfbbnlbncjlaaGreatDoor
set_option linter.unusedSimpArgs false
set_option linter.unusedVariables false
open Go.Av

theorem mkAnd_size (l : List Int) (c : Cs) : (mkAnd l c).2.1 = c.1 + 1 ∧ (mkAnd l c).2.2.length = c.2.length + l.length + 1 := by
  unfold mkAnd
  refine ⟨rfl, ?_⟩
  simp
  omega
theorem lit_size (ns es : List Tx) : ∀ (n : Nat) (e : Ex), SizeOf.sizeOf e ≤ n → ∀ c : Cs, (litG ns es e c).2.1 ≤ c.1 + szN e ∧ (litG ns es e c).2.2.length + 1 ≤ c.2.length + 4 * szN e
  | 0, e, hn, _ => by cases e <;> simp at hn
  | n + 1, e, hn, c => by
    have many : ∀ l : List Ex, (∀ x ∈ l, SizeOf.sizeOf x ≤ n) → ∀ c : Cs, (litsG ns es l c).2.1 ≤ c.1 + szNs l ∧ (litsG ns es l c).2.2.length + l.length ≤ c.2.length + 4 * szNs l ∧ (litsG ns es l c).1.length = l.length := by
      intro l
      induction l with
      | nil => intro _ c; exact ⟨by simp [litsG], by simp [litsG], rfl⟩
      | cons x l ih =>
        intro hs c
        obtain ⟨a1, a2⟩ := lit_size ns es n x (hs x (by simp)) c
        obtain ⟨b1, b2, b3⟩ := ih (fun y hy => hs y (by simp [hy])) (litG ns es x c).2
        simp only [litsG, szNs, List.length_cons, b3]
        exact ⟨by omega, by omega, trivial⟩
    cases e with
    | cst b => simp only [litG, szN, List.length_append, List.length_singleton]; exact ⟨by omega, by omega⟩
    | bit s => simp only [litG, szN]; exact ⟨by omega, by omega⟩
    | rise s =>
      have h := mkAnd_size [(ixT ns s : Int) + 1, -((ns.length : Int) + ixT es s + 1)] c
      simp only [litG, szN]
      rw [h.1, h.2]
      simp only [List.length_cons, List.length_nil]
      exact ⟨by omega, by omega⟩
    | fall s =>
      have h := mkAnd_size [-((ixT ns s : Int) + 1), (ns.length : Int) + ixT es s + 1] c
      simp only [litG, szN]
      rw [h.1, h.2]
      simp only [List.length_cons, List.length_nil]
      exact ⟨by omega, by omega⟩
    | not x =>
      obtain ⟨a1, a2⟩ := lit_size ns es n x (by simp at hn; omega) c
      simp only [litG, szN]
      exact ⟨by omega, by omega⟩
    | and l =>
      obtain ⟨a1, a2, a3⟩ := many l (fun x hx => by have := List.sizeOf_lt_of_mem hx; simp only [Ex.and.sizeOf_spec] at hn; omega) c
      have h := mkAnd_size (litsG ns es l c).1 (litsG ns es l c).2
      simp only [litG, szN]
      rw [h.1, h.2, a3]
      exact ⟨by omega, by omega⟩
    | or l =>
      obtain ⟨a1, a2, a3⟩ := many l (fun x hx => by have := List.sizeOf_lt_of_mem hx; simp only [Ex.or.sizeOf_spec] at hn; omega) c
      have h := mkAnd_size ((litsG ns es l c).1.map fun x => -x) (litsG ns es l c).2
      simp only [litG, szN]
      rw [h.1, h.2, List.length_map, a3]
      exact ⟨by omega, by omega⟩
end Go.Proofs.YtagfbbnlbncjlaaGreatDoor

/-
  Clauses: which may be; values that are set, and set back.
-/
namespace Go.Proofs.YtagfbbnlbncjlaaGreatDoor
set_option linter.unusedSimpArgs false
set_option linter.unusedVariables false
open Go.Av

def badL (V x : Int) : Bool := decide (x = 0) || (decide (V < x) || decide (x < -V))
def gbad (V : Int) : Cl → Nat → Option (Int × Option Nat)
  | [], _ => none
  | c :: cs, i => if c.any (badL V) then some (2, some i) else gbad V cs (i + 1)
/-- What is wrong with clauses. -/
def gateE (V : Int) (cs : Cl) : Option (Int × Option Nat) := if V < 0 ∨ 1000 < V ∨ 3000 < cs.length then some (4, none) else gbad V cs 0
def dCl (V : Int) (cs : Cl) : D := .agg [dNum V, dRows cs]

theorem gcheck1_spec (G : Glob) (V x : Int) (cs : D) (h0 : 0 ≤ V) (h1 : V ≤ 1000) : PureC Tryz.prog G 84 [dNum x, .ip [dNum V, cs]] (.v (.bool (badL V x))) := by
  unfold badL
  by_cases hx : x = 0
  · refine PureC.of_body (tyOf_good _) Tryz.func84 rfl rfl (rs := [.tmp 3]) Tryz.results84 (by simp [Tryz.ntmps84]) fun X => ?_
    simp only [Tryz.ntmps84, List.map]
    refine AW_rg (tyOf_good _) [0, 1] [] (fun _ _ => trivial) fun K' hK' => ?_
    repeat (refine sxf_next fun K2 hK2 => ?_; simp [dNum]; (repeat (refine ⟨by omega, ?_⟩)); refine hK2 _ ?_; clear hK2 K2)
    refine sxf_nil (hK' _ ?_)
    refine AW.st (by simp [dNum]; rfl) ?_
    clear hK' K'
    refine AW_rg (tyOf_good _) [3] [] (fun _ _ => trivial) fun K' hK' => ?_
    repeat (refine sxf_next fun K2 hK2 => ?_; simp [dNum, hx]; (repeat (refine ⟨by omega, ?_⟩)); refine hK2 _ ?_; clear hK2 K2)
    refine sxf_nil (hK' _ ?_)
    refine AW.st (by simp [dNum, hx]; rfl) ?_
    clear hK' K'
    refine AW_ret ?_
    simp [D.le, D.le.go, takeMap, dNum, hx]
  · by_cases h2 : V < x
    · refine PureC.of_body (tyOf_good _) Tryz.func84 rfl rfl (rs := [.tmp 3]) Tryz.results84 (by simp [Tryz.ntmps84]) fun X => ?_
      simp only [Tryz.ntmps84, List.map]
      refine AW_rg (tyOf_good _) [0, 1] [] (fun _ _ => trivial) fun K' hK' => ?_
      repeat (refine sxf_next fun K2 hK2 => ?_; simp [dNum]; (repeat (refine ⟨by omega, ?_⟩)); refine hK2 _ ?_; clear hK2 K2)
      refine sxf_nil (hK' _ ?_)
      refine AW.st (by simp [dNum]; rfl) ?_
      clear hK' K'
      refine AW_rg (tyOf_good _) [3] [] (fun _ _ => trivial) fun K' hK' => ?_
      repeat (refine sxf_next fun K2 hK2 => ?_; simp [dNum, hx, h2]; (repeat (refine ⟨by omega, ?_⟩)); refine hK2 _ ?_; clear hK2 K2)
      refine sxf_nil (hK' _ ?_)
      refine AW.st (by simp [dNum, hx, h2]; rfl) ?_
      clear hK' K'
      refine AW_ret ?_
      simp [D.le, D.le.go, takeMap, dNum, hx, h2]
    · by_cases h3 : x < -V
      · refine PureC.of_body (tyOf_good _) Tryz.func84 rfl rfl (rs := [.tmp 3]) Tryz.results84 (by simp [Tryz.ntmps84]) fun X => ?_
        simp only [Tryz.ntmps84, List.map]
        refine AW_rg (tyOf_good _) [0, 1] [] (fun _ _ => trivial) fun K' hK' => ?_
        repeat (refine sxf_next fun K2 hK2 => ?_; simp [dNum]; (repeat (refine ⟨by omega, ?_⟩)); refine hK2 _ ?_; clear hK2 K2)
        refine sxf_nil (hK' _ ?_)
        refine AW.st (by simp [dNum]; rfl) ?_
        clear hK' K'
        refine AW_rg (tyOf_good _) [3] [] (fun _ _ => trivial) fun K' hK' => ?_
        repeat (refine sxf_next fun K2 hK2 => ?_; simp [dNum, hx, h2, h3]; (repeat (refine ⟨by omega, ?_⟩)); refine hK2 _ ?_; clear hK2 K2)
        refine sxf_nil (hK' _ ?_)
        refine AW.st (by simp [dNum, hx, h2, h3]; rfl) ?_
        clear hK' K'
        refine AW_ret ?_
        simp [D.le, D.le.go, takeMap, dNum, hx, h2, h3]
      · refine PureC.of_body (tyOf_good _) Tryz.func84 rfl rfl (rs := [.tmp 3]) Tryz.results84 (by simp [Tryz.ntmps84]) fun X => ?_
        simp only [Tryz.ntmps84, List.map]
        refine AW_rg (tyOf_good _) [0, 1] [] (fun _ _ => trivial) fun K' hK' => ?_
        repeat (refine sxf_next fun K2 hK2 => ?_; simp [dNum]; (repeat (refine ⟨by omega, ?_⟩)); refine hK2 _ ?_; clear hK2 K2)
        refine sxf_nil (hK' _ ?_)
        refine AW.st (by simp [dNum]; rfl) ?_
        clear hK' K'
        refine AW_rg (tyOf_good _) [3] [] (fun _ _ => trivial) fun K' hK' => ?_
        repeat (refine sxf_next fun K2 hK2 => ?_; simp [dNum, hx, h2, h3]; (repeat (refine ⟨by omega, ?_⟩)); refine hK2 _ ?_; clear hK2 K2)
        refine sxf_nil (hK' _ ?_)
        refine AW.st (by simp [dNum, hx, h2, h3]; rfl) ?_
        clear hK' K'
        refine AW_ret ?_
        simp [D.le, D.le.go, takeMap, dNum, hx, h2, h3]

set_option maxHeartbeats 4000000 in
theorem gcheck_spec (G : Glob) (V : Int) (cs : Cl) (hl : cs.length < 2^60) (hr : ∀ c ∈ cs, c.length < 2^60) : PureC Tryz.prog G 53 [dCl V cs] (dErr (gateE V cs)) := by
  by_cases h1 : V < 0
  · rw [show gateE V cs = some (4, none) by unfold gateE; rw [if_pos (.inl h1)]]
    refine PureC.of_body (tyOf_good _) Tryz.func53 rfl rfl (rs := [.tmp 2]) Tryz.results53 (by simp [Tryz.ntmps53]) fun X => ?_
    simp only [Tryz.ntmps53, List.map]
    refine AW_rg (tyOf_good _) [1] [1] (fun _ _ => trivial) fun K' hK' => ?_
    repeat (refine sxf_next fun K2 hK2 => ?_; simp [dNum, dCl]; (repeat (refine ⟨by omega, ?_⟩)); refine hK2 _ ?_; clear hK2 K2)
    refine sxf_nil (hK' _ ?_)
    refine AW.st (by simp [dNum, dCl]; rfl) ?_
    clear hK' K'
    refine AW_then fun K1 hK1 => ?_
    refine AW_rg (tyOf_good _) [1, 18] [1] (fun _ _ => trivial) fun K' hK' => ?_
    repeat (refine sxf_next fun K2 hK2 => ?_; simp [dNum, h1]; (repeat (refine ⟨by omega, ?_⟩)); refine hK2 _ ?_; clear hK2 K2)
    refine sxf_nil (hK' _ ?_)
    refine AW.st (by simp [dNum, h1]; rfl) ?_
    clear hK' K'
    refine AW_cond true rfl (fun _ => ?_) (fun h => by cases h)
    refine AW_rg (tyOf_good _) [2] [] (fun _ _ => trivial) fun K' hK' => ?_
    repeat (refine sxf_next fun K2 hK2 => ?_; simp [dNum]; (repeat (refine ⟨by omega, ?_⟩)); refine hK2 _ ?_; clear hK2 K2)
    refine sxf_nil (hK' _ ?_)
    refine AW.st (by simp [dNum]; rfl) ?_
    clear hK' K'
    refine AW_ret ?_
    simp [D.le, D.le.go, takeMap, dNum, dErr]
  by_cases h2 : 1000 < V
  · rw [show gateE V cs = some (4, none) by unfold gateE; rw [if_pos (.inr (.inl h2))]]
    refine PureC.of_body (tyOf_good _) Tryz.func53 rfl rfl (rs := [.tmp 2]) Tryz.results53 (by simp [Tryz.ntmps53]) fun X => ?_
    simp only [Tryz.ntmps53, List.map]
    refine AW_rg (tyOf_good _) [1] [1] (fun _ _ => trivial) fun K' hK' => ?_
    repeat (refine sxf_next fun K2 hK2 => ?_; simp [dNum, dCl]; (repeat (refine ⟨by omega, ?_⟩)); refine hK2 _ ?_; clear hK2 K2)
    refine sxf_nil (hK' _ ?_)
    refine AW.st (by simp [dNum, dCl]; rfl) ?_
    clear hK' K'
    refine AW_then fun K1 hK1 => ?_
    refine AW_rg (tyOf_good _) [1, 18] [1] (fun _ _ => trivial) fun K' hK' => ?_
    repeat (refine sxf_next fun K2 hK2 => ?_; simp [dNum, h1, h2]; (repeat (refine ⟨by omega, ?_⟩)); refine hK2 _ ?_; clear hK2 K2)
    refine sxf_nil (hK' _ ?_)
    refine AW.st (by simp [dNum, h1, h2]; rfl) ?_
    clear hK' K'
    refine AW_cond true rfl (fun _ => ?_) (fun h => by cases h)
    refine AW_rg (tyOf_good _) [2] [] (fun _ _ => trivial) fun K' hK' => ?_
    repeat (refine sxf_next fun K2 hK2 => ?_; simp [dNum]; (repeat (refine ⟨by omega, ?_⟩)); refine hK2 _ ?_; clear hK2 K2)
    refine sxf_nil (hK' _ ?_)
    refine AW.st (by simp [dNum]; rfl) ?_
    clear hK' K'
    refine AW_ret ?_
    simp [D.le, D.le.go, takeMap, dNum, dErr]
  by_cases h3 : (3000 : Int) < cs.length
  · rw [show gateE V cs = some (4, none) by unfold gateE; rw [if_pos (.inr (.inr (by omega)))]]
    refine PureC.of_body (tyOf_good _) Tryz.func53 rfl rfl (rs := [.tmp 2]) Tryz.results53 (by simp [Tryz.ntmps53]) fun X => ?_
    simp only [Tryz.ntmps53, List.map]
    refine AW_rg (tyOf_good _) [1] [1] (fun _ _ => trivial) fun K' hK' => ?_
    repeat (refine sxf_next fun K2 hK2 => ?_; simp [dNum, dCl]; (repeat (refine ⟨by omega, ?_⟩)); refine hK2 _ ?_; clear hK2 K2)
    refine sxf_nil (hK' _ ?_)
    refine AW.st (by simp [dNum, dCl]; rfl) ?_
    clear hK' K'
    refine AW_then fun K1 hK1 => ?_
    refine AW_rg (tyOf_good _) [1, 18] [1] (fun _ _ => trivial) fun K' hK' => ?_
    repeat (refine sxf_next fun K2 hK2 => ?_; simp [dNum, h1, h2, dRows, h3]; (repeat (refine ⟨by omega, ?_⟩)); refine hK2 _ ?_; clear hK2 K2)
    refine sxf_nil (hK' _ ?_)
    refine AW.st (by simp [dNum, h1, h2, dRows, h3]; rfl) ?_
    clear hK' K'
    refine AW_cond true rfl (fun _ => ?_) (fun h => by cases h)
    refine AW_rg (tyOf_good _) [2] [] (fun _ _ => trivial) fun K' hK' => ?_
    repeat (refine sxf_next fun K2 hK2 => ?_; simp [dNum]; (repeat (refine ⟨by omega, ?_⟩)); refine hK2 _ ?_; clear hK2 K2)
    refine sxf_nil (hK' _ ?_)
    refine AW.st (by simp [dNum]; rfl) ?_
    clear hK' K'
    refine AW_ret ?_
    simp [D.le, D.le.go, takeMap, dNum, dErr]
  rw [show gateE V cs = gbad V cs 0 by unfold gateE; rw [if_neg (by omega)]]
  refine PureC.of_body (tyOf_good _) Tryz.func53 rfl rfl (rs := [.tmp 2]) Tryz.results53 (by simp [Tryz.ntmps53]) fun X => ?_
  simp only [Tryz.ntmps53, List.map]
  refine AW_rg (tyOf_good _) [1] [1] (fun _ _ => trivial) fun K' hK' => ?_
  repeat (refine sxf_next fun K2 hK2 => ?_; simp [dNum, dCl]; (repeat (refine ⟨by omega, ?_⟩)); refine hK2 _ ?_; clear hK2 K2)
  refine sxf_nil (hK' _ ?_)
  refine AW.st (by simp [dNum, dCl]; rfl) ?_
  clear hK' K'
  refine AW_then fun K1 hK1 => ?_
  refine AW_rg (tyOf_good _) [1, 18] [1] (fun _ _ => trivial) fun K' hK' => ?_
  repeat (refine sxf_next fun K2 hK2 => ?_; simp [dNum, h1, h2, dRows, h3]; (repeat (refine ⟨by omega, ?_⟩)); refine hK2 _ ?_; clear hK2 K2)
  refine sxf_nil (hK' _ ?_)
  refine AW.st (by simp [dNum, h1, h2, dRows, h3]; rfl) ?_
  clear hK' K'
  refine AW_cond false rfl (fun h => by cases h) (fun _ => ?_)
  refine AW_skip (hK1 _ ?_)
  refine AW.imp (Imp.freezeB 1 trivial) ?_
  refine AW.st (by simp [dNum]; rfl) ?_
  refine AW_then fun K2 hK2 => ?_
  refine AW_rg (tyOf_good _) [1, 21, 22, 23] [] (fun _ _ => trivial) fun K' hK' => ?_
  repeat (refine sxf_next fun K2 hK2 => ?_; simp [dNum, dRows]; (repeat (refine ⟨by omega, ?_⟩)); refine hK2 _ ?_; clear hK2 K2)
  refine sxf_nil (hK' _ ?_)
  refine AW.st (by simp [dNum, dRows]; rfl) ?_
  clear hK' K'
  refine AW_for (S := Nat) (fun i => i ≤ cs.length ∧ gbad V (cs.drop i) i = gbad V cs 0) (fun i => ⟨lst [(1, .d (.ip [dNum V, dRows cs])), (21, .d (dRows cs)), (22, int cs.length), (23, int i)], hlst []⟩) (fun i => cs.length - i) 0 ?_ (by simp) ?_
  · refine Imp.to' (fun _ _ => trivial) (by simp [dNum, dRows]) (by simp [dNum, dRows])
  · rintro i ⟨hi, hb⟩
    refine AW_rg (tyOf_good _) [1, 21, 22, 23, 24] [] (fun _ _ => trivial) fun K' hK' => ?_
    repeat (refine sxf_next fun K2 hK2 => ?_; simp [dNum]; (repeat (refine ⟨by omega, ?_⟩)); refine hK2 _ ?_; clear hK2 K2)
    refine sxf_nil (hK' _ ?_)
    refine AW.st (by simp [dNum]; rfl) ?_
    clear hK' K'
    refine AW_then fun K3 hK3 => ?_
    refine AW_cond' (b := i < cs.length) (by simp [D.le, D.le.go, takeMap, dNum]) (fun hc => ?_) (fun hc => ?_)
    · have hil : i < cs.length := hc
      have hrl := hr _ (List.getElem_mem hil)
      rw [List.drop_eq_getElem_cons hil, gbad] at hb
      have hany := containsInt_spec G none dNum cs[i] 84 [.ip [dNum V, dRows cs]] (badL V) (by omega) (fun x _ => gcheck1_spec G V x (dRows cs) (by omega) (by omega))
      refine AW_skip (hK3 _ ?_)
      refine AW_then fun K4 hK4 => ?_
      refine AW_block ?_
      refine AW_rg (tyOf_good _) [1, 3, 4, 21, 22, 23] [] (fun _ _ => trivial) fun K' hK' => ?_
      repeat (refine sxf_next fun K2 hK2 => ?_; simp [dNum, dRows, dRow, dInts, hil]; (repeat (refine ⟨by omega, ?_⟩)); refine hK2 _ ?_; clear hK2 K2)
      refine sxf_nil (hK' _ ?_)
      refine AW.st (by simp [dNum, dRows, dRow, dInts, hil]; rfl) ?_
      clear hK' K'
      cases ha : cs[i].any (badL V) with
      | true =>
        rw [ha] at hany
        rw [ha, if_pos rfl] at hb
        refine AW_rg (tyOf_good _) [1, 3, 21, 22, 23, 30] [] (fun _ _ => trivial) fun K' hK' => ?_
        repeat (refine sxf_next fun K2 hK2 => ?_; simp [dNum, dRows, dRow, dInts]; (repeat (refine ⟨by omega, ?_⟩)); refine hK2 _ ?_; clear hK2 K2)
        refine sxf_next fun K2 hK2 => ?_
        simp [dNum, dRows, dRow, dInts]
        refine callK.data (hany) (by simp; rfl) (by first | exact D.leGo_refl _ | simp [takeMap, List.map_map, Function.comp_def, D.le, D.le.go, D.le_refl, D.leGo_refl, dNum, dRows, dRow, dInts]) ?_
        refine hK2 _ ?_
        clear hK2 K2
        simp only [putd, upd_lst]
        repeat (refine sxf_next fun K2 hK2 => ?_; simp [dNum, dRows, dRow, dInts]; (repeat (refine ⟨by omega, ?_⟩)); refine hK2 _ ?_; clear hK2 K2)
        refine sxf_nil (hK' _ ?_)
        refine AW.st (by simp [dNum, dRows, dRow, dInts]; rfl) ?_
        clear hK' K'
        refine AW_cond true rfl (fun _ => ?_) (fun h => by cases h)
        refine AW_rg (tyOf_good _) [2] [33] (fun _ _ => trivial) fun K' hK' => ?_
        repeat (refine sxf_next fun K2 hK2 => ?_; simp [dNum]; (repeat (refine ⟨by omega, ?_⟩)); refine hK2 _ ?_; clear hK2 K2)
        refine sxf_nil (hK' _ ?_)
        refine AW.st (by simp [dNum]; rfl) ?_
        clear hK' K'
        rw [← hb]
        refine AW_ret ?_
        simp [D.le, D.le.go, takeMap, dNum, dErr]
      | false =>
        rw [ha] at hany
        rw [ha, if_neg (by decide)] at hb
        refine AW_rg (tyOf_good _) [1, 3, 21, 22, 23, 30] [] (fun _ _ => trivial) fun K' hK' => ?_
        repeat (refine sxf_next fun K2 hK2 => ?_; simp [dNum, dRows, dRow, dInts]; (repeat (refine ⟨by omega, ?_⟩)); refine hK2 _ ?_; clear hK2 K2)
        refine sxf_next fun K2 hK2 => ?_
        simp [dNum, dRows, dRow, dInts]
        refine callK.data (hany) (by simp; rfl) (by first | exact D.leGo_refl _ | simp [takeMap, List.map_map, Function.comp_def, D.le, D.le.go, D.le_refl, D.leGo_refl, dNum, dRows, dRow, dInts]) ?_
        refine hK2 _ ?_
        clear hK2 K2
        simp only [putd, upd_lst]
        repeat (refine sxf_next fun K2 hK2 => ?_; simp [dNum, dRows, dRow, dInts]; (repeat (refine ⟨by omega, ?_⟩)); refine hK2 _ ?_; clear hK2 K2)
        refine sxf_nil (hK' _ ?_)
        refine AW.st (by simp [dNum, dRows, dRow, dInts]; rfl) ?_
        clear hK' K'
        refine AW_cond false rfl (fun h => by cases h) (fun _ => ?_)
        refine AW_skip ?_
        refine hK4 _ (AW.norm [1, 21, 22, 23] [] (fun _ _ => trivial) (AW.st (by simp [dNum]; rfl) ?_))
        refine AW_re (tyOf_good _) fun K' hK' => ?_
        repeat (refine sxf_next fun K2 hK2 => ?_; simp [dNum]; (repeat (refine ⟨by omega, ?_⟩)); refine hK2 _ ?_; clear hK2 K2)
        refine sxf_nil (hK' _ ?_)
        clear hK' K'
        try simp only [thn, inb]
        refine Again.mk (i + 1) ⟨by omega, hb⟩ (by omega) ?_
        refine Imp.to' (fun _ _ => trivial) (by simp [dNum, dRows, dRow, dInts]) (by simp [dNum, dRows, dRow, dInts])
    · obtain rfl : i = cs.length := by omega
      rw [List.drop_length, gbad] at hb
      refine AW_exit (hK2 _ ?_)
      refine AW_rg (tyOf_good _) [2] [] (fun _ _ => trivial) fun K' hK' => ?_
      repeat (refine sxf_next fun K2 hK2 => ?_; simp [dNum]; (repeat (refine ⟨by omega, ?_⟩)); refine hK2 _ ?_; clear hK2 K2)
      refine sxf_nil (hK' _ ?_)
      refine AW.st (by simp [dNum]; rfl) ?_
      clear hK' K'
      rw [← hb]
      refine AW_ret ?_
      simp [D.le, D.le.go, takeMap, dNum, dErr]
/-! ### Values -/
def ofL (V : Nat) (tr : List Int) : List (List D) := (List.range (V + 1)).map fun (v : Nat) => [dNum (isT tr (v : Int))]
def trL (tr : List Int) : List (List D) := tr.map fun x => [dNum x.natAbs]
def solR (V : Nat) (cs : Cl) (tr : List Int) (k : Nat) : List (Nat × Row) := [(22, .box 107 [.d (dNum V), .d (dRows cs), .own 20 0 (V + 1), .own 502 0 tr.length, .d (dNum k)]), (20, .sl 3 1 (ofL V tr)), (502, .sl 3 1 (trL tr))]
theorem ofL_len (V : Nat) (tr : List Int) : (ofL V tr).length = V + 1 := by simp [ofL]
theorem ofL_get {V v : Nat} (tr : List Int) (h : v < V + 1) : (ofL V tr)[v]? = some [dNum (isT tr v)] := by simp [ofL, h]
theorem ofL_at {V v : Nat} (tr : List Int) (h : v < (ofL V tr).length) : (ofL V tr)[v]'h = [dNum (isT tr (v : Int))] := by simp [ofL]
theorem isT_bd (tr : List Int) (x : Int) : -1 ≤ isT tr x ∧ isT tr x ≤ 1 := by
  unfold isT
  repeat' split
  all_goals decide
theorem isT_snoc {tr : List Int} {x y : Int} (h1 : x ≠ y) (h2 : x ≠ -y) : isT (tr ++ [x]) y = isT tr y := by
  unfold isT
  have e1 : y ∈ tr ++ [x] ↔ y ∈ tr := by simp [Ne.symm h1]
  have e2 : -y ∈ tr ++ [x] ↔ -y ∈ tr := by simp [Ne.symm h2]
  simp only [e1, e2]
theorem ofL_set {V v : Nat} {tr : List Int} {x s : Int} (hs : (x = v ∧ s = 1) ∨ (x = -v ∧ s = -1)) (hv : 1 ≤ v) (hx : isT tr x = 0) : (ofL V tr).set v [dNum s] = ofL V (tr ++ [x]) := by
  apply List.ext_getElem
  · simp [ofL]
  · intro j h1 h2
    rw [List.getElem_set]
    simp only [ofL, List.getElem_map, List.getElem_range]
    rw [isT_zero] at hx
    split
    · rename_i e
      subst e
      rcases hs with ⟨rfl, rfl⟩ | ⟨rfl, rfl⟩
      · rw [isT_one.2 (by simp)]
      · have : isT (tr ++ [-(v : Int)]) v = -1 := by
          unfold isT
          rw [if_neg (by simp at hx ⊢; exact ⟨hx.2, by omega⟩), if_pos (by simp)]
        rw [this]
    · rename_i e
      rw [isT_snoc (by omega) (by omega)]

theorem is_spec (G : Glob) (V : Nat) (hV : V < 2^20) (tr : List Int) (g : GoodT V tr) (cs tl k : D) (x : Int) (h0 : x ≠ 0) (h1 : x ≤ V) (h2 : -V ≤ x) :
    PureC Tryz.prog G 110 [.ip [dNum V, cs, .sl none (ofL V tr), tl, k], dNum x] (dNum (isT tr x)) := by
  have hlen := ofL_len V tr
  have hget := fun v h => ofL_get (V := V) (v := v) tr h
  generalize ofL V tr = O at hlen hget
  by_cases hx : x < 0
  · obtain ⟨v, rfl⟩ : ∃ v : Nat, x = -v := ⟨x.natAbs, by omega⟩
    have hv : v < V + 1 := by omega
    have hv1 : 0 < v := by omega
    have hvI : (v : Int) < (V : Int) + 1 := by omega
    have e := isT_neg g (v : Int)
    have hb := isT_bd tr (v : Int)
    have hgv : ∀ h : v < O.length, O[v]'h = [dNum (isT tr (v : Int))] := fun h => by have h' := hget v hv; rw [List.getElem?_eq_getElem h] at h'; exact Option.some.inj h'
    rw [e]
    generalize isT tr (v : Int) = s at hb hgv
    refine PureC.of_body (tyOf_good _) Tryz.func110 rfl rfl (rs := [.tmp 4]) Tryz.results110 (by simp [Tryz.ntmps110]) fun X => ?_
    simp only [Tryz.ntmps110, List.map]
    refine AW_rg (tyOf_good _) [0, 1] [] (fun _ _ => trivial) fun K' hK' => ?_
    repeat (refine sxf_next fun K2 hK2 => ?_; simp [dNum]; (repeat (refine ⟨by omega, ?_⟩)); refine hK2 _ ?_; clear hK2 K2)
    refine sxf_nil (hK' _ ?_)
    refine AW.st (by simp [dNum]; rfl) ?_
    clear hK' K'
    refine AW_then fun K1 hK1 => ?_
    refine AW_rg (tyOf_good _) [0, 1, 6] [] (fun _ _ => trivial) fun K' hK' => ?_
    repeat (refine sxf_next fun K2 hK2 => ?_; simp [dNum, hv1]; (repeat (refine ⟨by omega, ?_⟩)); refine hK2 _ ?_; clear hK2 K2)
    refine sxf_nil (hK' _ ?_)
    refine AW.st (by simp [dNum, hv1]; rfl) ?_
    clear hK' K'
    refine AW_cond true rfl (fun _ => ?_) (fun h => by cases h)
    refine AW_rg (tyOf_good _) [4] [] (fun _ _ => trivial) fun K' hK' => ?_
    repeat (refine sxf_next fun K2 hK2 => ?_; simp [dNum, hlen, hv, hvI, hgv]; (repeat (refine ⟨by omega, ?_⟩)); refine hK2 _ ?_; clear hK2 K2)
    refine sxf_nil (hK' _ ?_)
    refine AW.st (by simp [dNum, hlen, hv, hvI, hgv]; rfl) ?_
    clear hK' K'
    refine AW_ret ?_
    simp [D.le, D.le.go, takeMap, dNum]
  · obtain ⟨v, rfl⟩ : ∃ v : Nat, x = v := ⟨x.natAbs, by omega⟩
    have hv : v < V + 1 := by omega
    have hvI : (v : Int) < (V : Int) + 1 := by omega
    have hgv : ∀ h : v < O.length, O[v]'h = [dNum (isT tr (v : Int))] := fun h => by have h' := hget v hv; rw [List.getElem?_eq_getElem h] at h'; exact Option.some.inj h'
    generalize isT tr (v : Int) = s at hgv
    refine PureC.of_body (tyOf_good _) Tryz.func110 rfl rfl (rs := [.tmp 4]) Tryz.results110 (by simp [Tryz.ntmps110]) fun X => ?_
    simp only [Tryz.ntmps110, List.map]
    refine AW_rg (tyOf_good _) [0, 1] [] (fun _ _ => trivial) fun K' hK' => ?_
    repeat (refine sxf_next fun K2 hK2 => ?_; simp [dNum]; (repeat (refine ⟨by omega, ?_⟩)); refine hK2 _ ?_; clear hK2 K2)
    refine sxf_nil (hK' _ ?_)
    refine AW.st (by simp [dNum]; rfl) ?_
    clear hK' K'
    refine AW_then fun K1 hK1 => ?_
    refine AW_rg (tyOf_good _) [0, 1, 6] [] (fun _ _ => trivial) fun K' hK' => ?_
    repeat (refine sxf_next fun K2 hK2 => ?_; simp [dNum]; (repeat (refine ⟨by omega, ?_⟩)); refine hK2 _ ?_; clear hK2 K2)
    refine sxf_nil (hK' _ ?_)
    refine AW.st (by simp [dNum]; rfl) ?_
    clear hK' K'
    refine AW_cond false rfl (fun h => by cases h) (fun _ => ?_)
    refine AW_skip (hK1 _ ?_)
    refine AW_rg (tyOf_good _) [4] [] (fun _ _ => trivial) fun K' hK' => ?_
    repeat (refine sxf_next fun K2 hK2 => ?_; simp [dNum, hlen, hv, hvI, hgv]; (repeat (refine ⟨by omega, ?_⟩)); refine hK2 _ ?_; clear hK2 K2)
    refine sxf_nil (hK' _ ?_)
    refine AW.st (by simp [dNum, hlen, hv, hvI, hgv]; rfl) ?_
    clear hK' K'
    refine AW_ret ?_
    simp [D.le, D.le.go, takeMap, dNum]

set_option maxHeartbeats 4000000 in
theorem set_spec (G : Glob) (V : Nat) (hV : V < 2^20) (cs : Cl) (tr : List Int) (k : Nat) (htl : tr.length < 2^20) (x : Int) (h0 : x ≠ 0) (h1 : x ≤ V) (h2 : -V ≤ x) (hx : isT tr x = 0) :
    MC Tryz.prog G [22, 20] 88 [.ref 22 0 0, .d (dNum x)] (hlst (solR V cs tr k)) (.d (.tup [])) (hlst (solR V cs (tr ++ [x]) k)) := by
  have hlen := ofL_len V tr
  have htk : ∀ g : Int → List D, List.take tr.length (tr.map g) = tr.map g := fun g => List.take_of_length_le (by simp)
  by_cases hn : x < 0
  · obtain ⟨v, rfl⟩ : ∃ v : Nat, x = -v := ⟨x.natAbs, by omega⟩
    have hv : v < V + 1 := by omega
    have hv1 : 0 < v := by omega
    have hvI : (v : Int) < (V : Int) + 1 := by omega
    have hset := ofL_set (V := V) (v := v) (tr := tr) (.inr ⟨rfl, rfl⟩) hv1 hx
    have hmx : (if -(v : Int) < v then (v : Int) else -(v : Int)) = v := if_pos (by omega)
    refine MC.of_body (tyOf_good _) Tryz.func88 rfl rfl (rs := []) Tryz.results88 (by simp [Tryz.ntmps88]) rfl fun X => ?_
    simp only [Tryz.ntmps88]
    simp only [solR]
    refine AW_then fun K1 hK1 => ?_
    refine AW_rg (tyOf_good _) [0, 1, 5] [22, 20, 502] (notIn_ok rfl) fun K' hK' => ?_
    repeat (refine sxf_next fun K2 hK2 => ?_; simp [dNum, hv1]; (repeat (refine ⟨by omega, ?_⟩)); refine hK2 _ ?_; clear hK2 K2)
    refine sxf_nil (hK' _ ?_)
    refine AW.st (by simp [dNum, hv1]; rfl) ?_
    clear hK' K'
    refine AW_cond true rfl (fun _ => ?_) (fun h => by cases h)
    refine AW_re (tyOf_good _) fun K' hK' => ?_
    repeat (refine sxf_next fun K2 hK2 => ?_; simp [dNum, hlen, hv, hvI]; (repeat (refine ⟨by omega, ?_⟩)); refine hK2 _ ?_; clear hK2 K2)
    refine sxf_nil (hK' _ ?_)
    clear hK' K'
    refine hK1 _ (AW.norm [0, 1] [22, 20, 502] (notIn_ok rfl) (AW.st (by simp [dNum, hlen, hv, hvI]; rfl) ?_))
    refine AW_re (tyOf_good _) fun K' hK' => ?_
    repeat (refine sxf_next fun K2 hK2 => ?_; simp [dNum, hmx, trL]; (repeat (refine ⟨by omega, ?_⟩)); refine hK2 _ ?_; clear hK2 K2)
    refine sxf_nil (hK' _ ?_)
    clear hK' K'
    try simp only [thn, inb]
    simp [trL, htk, ← hset, dNum, ofL_at, D.le, D.le.go]
  · obtain ⟨v, rfl⟩ : ∃ v : Nat, x = v := ⟨x.natAbs, by omega⟩
    have hv : v < V + 1 := by omega
    have hv1 : 0 < v := by omega
    have hvI : (v : Int) < (V : Int) + 1 := by omega
    have hset := ofL_set (V := V) (v := v) (tr := tr) (.inl ⟨rfl, rfl⟩) hv1 hx
    have hmx : (if (v : Int) < -(v : Int) then -(v : Int) else (v : Int)) = v := if_neg (by omega)
    refine MC.of_body (tyOf_good _) Tryz.func88 rfl rfl (rs := []) Tryz.results88 (by simp [Tryz.ntmps88]) rfl fun X => ?_
    simp only [Tryz.ntmps88]
    simp only [solR]
    refine AW_then fun K1 hK1 => ?_
    refine AW_rg (tyOf_good _) [0, 1, 5] [22, 20, 502] (notIn_ok rfl) fun K' hK' => ?_
    repeat (refine sxf_next fun K2 hK2 => ?_; simp [dNum]; (repeat (refine ⟨by omega, ?_⟩)); refine hK2 _ ?_; clear hK2 K2)
    refine sxf_nil (hK' _ ?_)
    refine AW.st (by simp [dNum]; rfl) ?_
    clear hK' K'
    refine AW_cond false rfl (fun h => by cases h) (fun _ => ?_)
    refine AW_re (tyOf_good _) fun K' hK' => ?_
    repeat (refine sxf_next fun K2 hK2 => ?_; simp [dNum, hlen, hv, hvI]; (repeat (refine ⟨by omega, ?_⟩)); refine hK2 _ ?_; clear hK2 K2)
    refine sxf_nil (hK' _ ?_)
    clear hK' K'
    refine hK1 _ (AW.norm [0, 1] [22, 20, 502] (notIn_ok rfl) (AW.st (by simp [dNum, hlen, hv, hvI]; rfl) ?_))
    refine AW_re (tyOf_good _) fun K' hK' => ?_
    repeat (refine sxf_next fun K2 hK2 => ?_; simp [dNum, hmx, trL]; (repeat (refine ⟨by omega, ?_⟩)); refine hK2 _ ?_; clear hK2 K2)
    refine sxf_nil (hK' _ ?_)
    clear hK' K'
    try simp only [thn, inb]
    simp [trL, htk, ← hset, dNum, ofL_at, D.le, D.le.go]
end Go.Proofs.YtagfbbnlbncjlaaGreatDoor

/-
  Values that are set back; what follows is set.
-/
namespace Go.Proofs.YtagfbbnlbncjlaaGreatDoor
set_option linter.unusedSimpArgs false
set_option linter.unusedVariables false
open Go.Av

def bkL (V : Nat) (tr : List Int) (n m : Nat) : List (List D) := (List.range (V + 1)).map fun (v : Nat) => [dNum (if ((tr.drop n).take m).any (fun x => x.natAbs == v) then 0 else isT tr (v : Int))]
theorem bkL_len (V : Nat) (tr : List Int) (n m : Nat) : (bkL V tr n m).length = V + 1 := by simp [bkL]
theorem bkL_tail {V v : Nat} (tr : List Int) (n m : Nat) (h : v < (bkL V tr n m).length) : ((bkL V tr n m)[v]'h).tail = [] := by simp [bkL]
theorem bk_zero (V : Nat) (tr : List Int) (n : Nat) : bkL V tr n 0 = ofL V tr := by simp [bkL, ofL]
theorem bk_step {V : Nat} {tr : List Int} {n m : Nat} (h : n + m < tr.length) : (bkL V tr n m).set tr[n + m].natAbs [dNum 0] = bkL V tr n (m + 1) := by
  have ht : (tr.drop n).take (m + 1) = (tr.drop n).take m ++ [tr[n + m]] := by
    rw [List.take_succ_eq_append_getElem (by rw [List.length_drop]; omega), List.getElem_drop]
  apply List.ext_getElem
  · simp [bkL]
  · intro j h1 h2
    rw [List.getElem_set]
    simp only [bkL, List.getElem_map, List.getElem_range, ht, List.any_append]
    split
    · rename_i e; simp [e]
    · rename_i e
      have : ([tr[n + m]].any fun x => x.natAbs == j) = false := by simp [e]
      rw [this, Bool.or_false]
theorem bk_all {V : Nat} {tr : List Int} (g : GoodT V tr) (n : Nat) : bkL V tr n (tr.length - n) = ofL V (tr.take n) := by
  unfold bkL ofL
  refine List.map_congr_left fun v _ => ?_
  have hd : (tr.drop n).take (tr.length - n) = tr.drop n := List.take_of_length_le (by simp)
  rw [hd]
  have hsp : ∀ y, y ∈ tr ↔ y ∈ tr.take n ∨ y ∈ tr.drop n := fun y => by rw [← List.mem_append, List.take_append_drop]
  have hnd : ∀ y ∈ tr.take n, ∀ z ∈ tr.drop n, y ≠ z := by
    have := g.nodup
    rw [← List.take_append_drop n tr] at this
    exact (List.nodup_append.1 this).2.2
  by_cases ha : ((tr.drop n).any fun x => x.natAbs == v) = true
  · rw [if_pos ha]
    obtain ⟨x, hx, hxv⟩ := List.any_eq_true.1 ha
    have hxv : x.natAbs = v := by simpa using hxv
    have hxt := (hsp x).2 (.inr hx)
    have : isT (tr.take n) (v : Int) = 0 := by
      rw [isT_zero]
      refine ⟨fun h => ?_, fun h => ?_⟩
      · by_cases e : x = v
        · exact hnd _ h x hx e.symm
        · have e2 : -x = (v : Int) := by omega
          exact g.one x hxt (by rw [e2]; exact (hsp _).2 (.inl h))
      · by_cases e : x = v
        · exact g.one x hxt (by rw [e]; exact (hsp _).2 (.inl h))
        · have e2 : x = -(v : Int) := by omega
          exact hnd _ h x hx e2.symm
    rw [this]
  · rw [if_neg ha]
    have hno : ∀ y ∈ tr.drop n, y.natAbs ≠ v := fun y hy e => ha (List.any_eq_true.2 ⟨y, hy, by simp [e]⟩)
    have e1 : (v : Int) ∈ tr ↔ (v : Int) ∈ tr.take n := by
      rw [hsp]
      exact ⟨fun h => h.elim id fun h => absurd (by simp) (hno _ h), .inl⟩
    have e2 : -(v : Int) ∈ tr ↔ -(v : Int) ∈ tr.take n := by
      rw [hsp]
      exact ⟨fun h => h.elim id fun h => absurd (by simp) (hno _ h), .inl⟩
    unfold isT
    simp only [e1, e2]
theorem GoodT.take {V : Nat} {tr : List Int} (g : GoodT V tr) (n : Nat) : GoodT V (tr.take n) := ⟨fun x hx => g.pos x (List.mem_of_mem_take hx), fun x hx h => g.one x (List.mem_of_mem_take hx) (List.mem_of_mem_take h), List.Pairwise.sublist (List.take_sublist _ _) g.nodup⟩

set_option maxHeartbeats 4000000 in
theorem back_spec (G : Glob) (V : Nat) (hV : V < 2^20) (cs : Cl) (tr : List Int) (g : GoodT V tr) (k : Nat) (htl : tr.length < 2^20) (n : Nat) (hn : n ≤ tr.length) :
    MC Tryz.prog G [22, 20] 86 [.ref 22 0 0, .d (dNum n)] (hlst (solR V cs tr k)) (.d (.tup [])) (hlst (solR V cs (tr.take n) k)) := by
  have hmin : min n tr.length = n := by omega
  by_cases hne : n = tr.length
  · subst hne
    have htk : tr.take tr.length = tr := List.take_length
    rw [htk]
    by_cases hz : tr.length = 0
    · refine MC.of_body (tyOf_good _) Tryz.func86 rfl rfl (rs := []) Tryz.results86 (by simp [Tryz.ntmps86]) rfl fun X => ?_
      simp only [Tryz.ntmps86]
      simp only [solR]
      refine AW_then fun K1 hK1 => ?_
      refine AW_rg (tyOf_good _) [0, 1, 11, 12, 13] [22, 20, 502] (notIn_ok rfl) fun K' hK' => ?_
      repeat (refine sxf_next fun K2 hK2 => ?_; simp [dNum, hz]; (repeat (refine ⟨by omega, ?_⟩)); refine hK2 _ ?_; clear hK2 K2)
      refine sxf_nil (hK' _ ?_)
      refine AW.st (by simp [dNum, hz]; rfl) ?_
      clear hK' K'
      refine AW_for (S := Unit) (fun _ => True) (fun _ => ⟨lst [(0, .ref 22 0 0), (1, int tr.length), (12, int 0), (13, int 0)], hlst (solR V cs tr k)⟩) (fun _ => 0) () ?_ trivial ?_
      · simp only [solR]
        refine Imp.to' (notIn_ok rfl) (by simp [dNum, hz]) (by simp [dNum, hz])
      · intro _ _
        simp only [solR]
        refine AW_rg (tyOf_good _) [0, 1, 12, 13, 14] [22, 20, 502] (notIn_ok rfl) fun K' hK' => ?_
        repeat (refine sxf_next fun K2 hK2 => ?_; simp [dNum]; (repeat (refine ⟨by omega, ?_⟩)); refine hK2 _ ?_; clear hK2 K2)
        refine sxf_nil (hK' _ ?_)
        refine AW.st (by simp [dNum]; rfl) ?_
        clear hK' K'
        refine AW_then fun K2 hK2 => ?_
        refine AW_cond false rfl (fun h => by cases h) (fun _ => ?_)
        refine AW_exit (hK1 _ ?_)
        refine AW_re (tyOf_good _) fun K' hK' => ?_
        repeat (refine sxf_next fun K2 hK2 => ?_; simp [dNum, hz]; (repeat (refine ⟨by omega, ?_⟩)); refine hK2 _ ?_; clear hK2 K2)
        refine sxf_nil (hK' _ ?_)
        clear hK' K'
        try simp only [thn, inb]
        simp [solR, dNum, hz, D.le, D.le.go]
    · refine MC.of_body (tyOf_good _) Tryz.func86 rfl rfl (rs := []) Tryz.results86 (by simp [Tryz.ntmps86]) rfl fun X => ?_
      simp only [Tryz.ntmps86]
      simp only [solR]
      refine AW_then fun K1 hK1 => ?_
      refine AW_rg (tyOf_good _) [0, 1, 11, 12, 13] [22, 20, 502] (notIn_ok rfl) fun K' hK' => ?_
      repeat (refine sxf_next fun K2 hK2 => ?_; simp [dNum, hz]; (repeat (refine ⟨by omega, ?_⟩)); refine hK2 _ ?_; clear hK2 K2)
      refine sxf_nil (hK' _ ?_)
      refine AW.st (by simp [dNum, hz]; rfl) ?_
      clear hK' K'
      refine AW_for (S := Unit) (fun _ => True) (fun _ => ⟨lst [(0, .ref 22 0 0), (1, int tr.length), (12, int 0), (13, int 0)], hlst (solR V cs tr k)⟩) (fun _ => 0) () ?_ trivial ?_
      · simp only [solR]
        refine Imp.to' (notIn_ok rfl) (by simp [dNum]) (by simp [dNum])
      · intro _ _
        simp only [solR]
        refine AW_rg (tyOf_good _) [0, 1, 12, 13, 14] [22, 20, 502] (notIn_ok rfl) fun K' hK' => ?_
        repeat (refine sxf_next fun K2 hK2 => ?_; simp [dNum]; (repeat (refine ⟨by omega, ?_⟩)); refine hK2 _ ?_; clear hK2 K2)
        refine sxf_nil (hK' _ ?_)
        refine AW.st (by simp [dNum]; rfl) ?_
        clear hK' K'
        refine AW_then fun K2 hK2 => ?_
        refine AW_cond false rfl (fun h => by cases h) (fun _ => ?_)
        refine AW_exit (hK1 _ ?_)
        refine AW_re (tyOf_good _) fun K' hK' => ?_
        repeat (refine sxf_next fun K2 hK2 => ?_; simp [dNum]; (repeat (refine ⟨by omega, ?_⟩)); refine hK2 _ ?_; clear hK2 K2)
        refine sxf_nil (hK' _ ?_)
        clear hK' K'
        try simp only [thn, inb]
        simp [solR, dNum, D.le, D.le.go]
  · have hlt : n < tr.length := by omega
    obtain ⟨d, hd⟩ : ∃ d, tr.length - n = d := ⟨_, rfl⟩
    have hba := bk_all g n
    rw [hd] at hba
    have hbz := bk_zero V tr n
    refine MC.of_body (tyOf_good _) Tryz.func86 rfl rfl (rs := []) Tryz.results86 (by simp [Tryz.ntmps86]) rfl fun X => ?_
    simp only [Tryz.ntmps86]
    simp only [solR]
    refine AW_then fun K1 hK1 => ?_
    refine AW_rg (tyOf_good _) [0, 1, 11, 12, 13] [22, 20, 502] (notIn_ok rfl) fun K' hK' => ?_
    repeat (refine sxf_next fun K2 hK2 => ?_; simp [dNum, hne, hn, hd]; (repeat (refine ⟨by omega, ?_⟩)); refine hK2 _ ?_; clear hK2 K2)
    refine sxf_nil (hK' _ ?_)
    refine AW.st (by simp [dNum, hne, hn, hd]; rfl) ?_
    clear hK' K'
    refine AW_for (S := Nat) (fun m => m ≤ d) (fun m => ⟨lst [(0, .ref 22 0 0), (1, int n), (11, .own 502 n d), (12, int d), (13, int m)], hlst [(22, .box 107 [.d (dNum V), .d (dRows cs), .own 20 0 (V + 1), .own 502 0 tr.length, .d (dNum k)]), (20, .sl 3 1 (bkL V tr n m)), (502, .sl 3 1 (trL tr))]⟩) (fun m => d - m) 0 ?_ (by omega) ?_
    · refine Imp.to' (notIn_ok rfl) (by simp [dNum, hbz]) (by simp [dNum, hbz])
    · intro m hm
      refine AW_rg (tyOf_good _) [0, 1, 11, 12, 13, 14] [22, 20, 502] (notIn_ok rfl) fun K' hK' => ?_
      repeat (refine sxf_next fun K2 hK2 => ?_; simp [dNum]; (repeat (refine ⟨by omega, ?_⟩)); refine hK2 _ ?_; clear hK2 K2)
      refine sxf_nil (hK' _ ?_)
      refine AW.st (by simp [dNum]; rfl) ?_
      clear hK' K'
      refine AW_then fun K2 hK2 => ?_
      refine AW_cond' (b := m < d) (by simp [D.le, D.le.go, takeMap, dNum]) (fun hc => ?_) (fun hc => ?_)
      · have hmd : m < d := hc
        have hnm : n + m < tr.length := by omega
        have hgt : ∀ h : n + m < (trL tr).length, (trL tr)[n + m]'h = [dNum (tr[n + m].natAbs)] := fun h => by simp [trL]
        have hp := g.pos _ (List.getElem_mem hnm)
        have hst := bk_step (V := V) hnm
        obtain ⟨v, hv⟩ : ∃ v, tr[n + m].natAbs = v := ⟨_, rfl⟩
        rw [hv] at hgt hst
        have hvV : v < V + 1 := by omega
        have hvI : (v : Int) < (V : Int) + 1 := by omega
        have hlen := bkL_len V tr n m
        have htl2 : (trL tr).length = tr.length := by simp [trL]
        refine AW_skip (hK2 _ ?_)
        refine AW_then fun K3 hK3 => ?_
        refine AW_block ?_
        refine AW_rg (tyOf_good _) [0, 1, 5, 11, 12, 13] [22, 20, 502] (notIn_ok rfl) fun K' hK' => ?_
        repeat (refine sxf_next fun K2 hK2 => ?_; simp [dNum, hmd, hgt, hnm, htl2]; (repeat (refine ⟨by omega, ?_⟩)); refine hK2 _ ?_; clear hK2 K2)
        refine sxf_nil (hK' _ ?_)
        refine AW.st (by simp [dNum, hmd, hgt, hnm, htl2]; rfl) ?_
        clear hK' K'
        refine AW_re (tyOf_good _) fun K' hK' => ?_
        repeat (refine sxf_next fun K2 hK2 => ?_; simp [dNum, hlen, hvV, hvI]; (repeat (refine ⟨by omega, ?_⟩)); refine hK2 _ ?_; clear hK2 K2)
        refine sxf_nil (hK' _ ?_)
        clear hK' K'
        refine hK3 _ (AW.norm [0, 1, 11, 12, 13] [22, 20, 502] (notIn_ok rfl) (AW.st (by simp [dNum, hlen, hvV, hvI]; rfl) ?_))
        refine AW_re (tyOf_good _) fun K' hK' => ?_
        repeat (refine sxf_next fun K2 hK2 => ?_; simp [dNum]; (repeat (refine ⟨by omega, ?_⟩)); refine hK2 _ ?_; clear hK2 K2)
        refine sxf_nil (hK' _ ?_)
        clear hK' K'
        try simp only [thn, inb]
        refine Again.mk (m + 1) (by omega) (by omega) ?_
        refine Imp.to' (notIn_ok rfl) (by simp [dNum, ← hst, bkL_tail]) (by simp [dNum, ← hst, bkL_tail])
      · obtain rfl : m = d := by omega
        refine AW_exit (hK1 _ ?_)
        rw [hba]
        refine AW.imp (Imp.trunc 502 n (by first | rfl | (simp [dNum]; rfl))) ?_
        refine AW.st (by simp [dNum]; rfl) ?_
        refine AW_re (tyOf_good _) fun K' hK' => ?_
        repeat (refine sxf_next fun K2 hK2 => ?_; simp [dNum, hn]; (repeat (refine ⟨by omega, ?_⟩)); refine hK2 _ ?_; clear hK2 K2)
        refine sxf_nil (hK' _ ?_)
        clear hK' K'
        try simp only [thn, inb]
        simp [solR, dNum, hmin, trL, List.map_take, D.le, D.le.go]
end Go.Proofs.YtagfbbnlbncjlaaGreatDoor
