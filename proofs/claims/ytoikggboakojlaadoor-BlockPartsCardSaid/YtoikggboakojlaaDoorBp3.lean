/-
  Texts that belong together, in one file: F4, F5, F6, F7, P1, P2, P3, F8, P6, M1, F10, F9, P4, P7, E1, E2, Av20, Av21, E3, E4.
-/
import Derived.Test.YtoikggboakojlaaDoorBp2
import Derived.Test.YtoikggboakojlaaDoorProg
import Derived.WalkKit
import Derived.LaidEql
import Derived.Stop.Asserts
import Derived.RowKitTokens
import Derived.ProofKit
import Derived.OpenShut
import Derived.Carry
import Derived.Deep.Slices
import Derived.RegionTactic
import Derived.ChangeAlike
/-
  Lists are numbered as they come.
-/
namespace Go.Proofs.YtoikggboakojlaaDoor
open Go.Av
set_option linter.unusedSimpArgs false
set_option linter.unusedVariables false

def numStep (st : List (List Int) × List Int) (l : List Int) : List (List Int) × List Int :=
  if idx (fun x => x == l) st.1 < 0 then (st.1 ++ [l], st.2 ++ [(st.1.length : Int)]) else (st.1, st.2 ++ [idx (fun x => x == l) st.1])
def numSt (L : List (List Int)) (n : Nat) : List (List Int) × List Int := (L.take n).foldl numStep ([], [])
def numberF (L : List (List Int)) : List Int := (numSt L L.length).2

theorem numSt_succ {L : List (List Int)} {n : Nat} (hn : n < L.length) : numSt L (n + 1) = numStep (numSt L n) L[n] := by
  unfold numSt
  rw [List.take_succ_eq_append_getElem hn, List.foldl_append]
  rfl
theorem numStep_len (st : List (List Int) × List Int) (l : List Int) : (numStep st l).1.length ≤ st.1.length + 1 ∧ (numStep st l).2.length = st.2.length + 1 := by
  unfold numStep
  split <;> simp
theorem numSt_len {L : List (List Int)} : ∀ {n : Nat}, n ≤ L.length → (numSt L n).1.length ≤ n ∧ (numSt L n).2.length = n
  | 0, _ => by simp [numSt]
  | n + 1, h => by
    have ih := numSt_len (L := L) (n := n) (by omega)
    have := numStep_len (numSt L n) L[n]
    rw [numSt_succ (by omega)]
    omega
theorem numStep_mem {st : List (List Int) × List Int} {l : List Int} {P : List Int → Prop} (h : ∀ r ∈ st.1, P r) (hl : P l) : ∀ r ∈ (numStep st l).1, P r := by
  intro r hr
  unfold numStep at hr
  split at hr
  · simp at hr
    rcases hr with hr | rfl
    · exact h r hr
    · exact hl
  · exact h r hr
theorem numSt_mem {L : List (List Int)} {P : List Int → Prop} (h : ∀ r ∈ L, P r) : ∀ {n : Nat}, n ≤ L.length → ∀ r ∈ (numSt L n).1, P r
  | 0, _ => by simp [numSt]
  | n + 1, hn => by
    rw [numSt_succ (by omega)]
    exact numStep_mem (numSt_mem h (by omega)) (h _ (by simp))

set_option maxHeartbeats 1000000 in
theorem number_spec (G : Glob) (L : List (List Int)) (h : L.length < 2^40) (hr : ∀ r ∈ L, r.length < 2^40) : PureC Tryd.prog G 90 [dRows L] (dRow (numberF L)) := by
  refine PureC.of_body (tyOf_good _) Tryd.func90 rfl rfl (rs := [.tmp 2]) Tryd.results90 (by simp [Tryd.ntmps90]) fun X => ?_
  simp only [Tryd.ntmps90, List.map]
  refine AW_rg (tyOf_good _) (fun _ => trivial) [0] [] fun K' hK' => ?_
  repeat (refine sxf_next fun K2 hK2 => ?_; simp; (repeat (refine ⟨by omega, ?_⟩)); refine hK2 _ ?_; clear hK2 K2)
  first | refine sxf_nil (hK' _ ?_) | (refine sxf_next fun K2 hK2 => ?_; clear hK2 hK'; simp; fail "STUCK")
  refine AW.st (by simp; rfl) ?_
  clear hK' K'
  refine AW_rg (tyOf_good _) (fun _ => trivial) [0, 3] [] fun K' hK' => ?_
  repeat (refine sxf_next fun K2 hK2 => ?_; simp; (repeat (refine ⟨by omega, ?_⟩)); refine hK2 _ ?_; clear hK2 K2)
  first | refine sxf_nil (hK' _ ?_) | (refine sxf_next fun K2 hK2 => ?_; clear hK2 hK'; simp; fail "STUCK")
  refine AW.st (by simp; rfl) ?_
  clear hK' K'
  refine AW_rg (tyOf_good _) (fun _ => trivial) [0, 3, 4] [] fun K' hK' => ?_
  repeat (refine sxf_next fun K2 hK2 => ?_; simp; (repeat (refine ⟨by omega, ?_⟩)); refine hK2 _ ?_; clear hK2 K2)
  first | refine sxf_nil (hK' _ ?_) | (refine sxf_next fun K2 hK2 => ?_; clear hK2 hK'; simp; fail "STUCK")
  refine AW.st (by simp; rfl) ?_
  clear hK' K'
  refine AW_then fun K1 hK1 => ?_
  refine AW_rg (tyOf_good _) (fun _ => trivial) [3, 4, 8, 9, 10] [] fun K' hK' => ?_
  repeat (refine sxf_next fun K2 hK2 => ?_; simp [dRows]; (repeat (refine ⟨by omega, ?_⟩)); refine hK2 _ ?_; clear hK2 K2)
  first | refine sxf_nil (hK' _ ?_) | (refine sxf_next fun K2 hK2 => ?_; clear hK2 hK'; simp [dRows]; fail "STUCK")
  refine AW.st (by simp [dRows]; rfl) ?_
  clear hK' K'
  refine AW_for (S := Nat) (fun n => n ≤ L.length) (fun n => ⟨lst [(3, .own 24 0 (numSt L n).1.length), (4, .own 28 0 (numSt L n).2.length), (8, .d (dRows L)), (9, int L.length), (10, int n)],
    hlst [(24, .sl 32 1 ((numSt L n).1.map fun r => [dRow r])), (28, .sl 3 1 ((numSt L n).2.map fun n => [dNum n]))]⟩) (fun n => L.length - n) 0 ?_ (by simp) ?_
  · refine (Imp.adopt 3 24 32 1 rfl rfl).trans ((Imp.adopt 4 28 3 1 rfl rfl).trans ?_)
    refine Imp.to' (fun _ => trivial) (by simp [dRows, numSt]) (by simp [dRows, numSt])
  · intro n hn
    obtain ⟨hl1, hl2⟩ := numSt_len hn
    have hmem := numSt_mem hr hn
    have hnext : ∀ h : n < L.length, numSt L (n + 1) = numStep (numSt L n) (L[n]'h) := numSt_succ
    generalize hst : numSt L n = st at hl1 hl2 hmem hnext
    obtain ⟨seen, out⟩ := st
    dsimp only at hl1 hl2 hmem
    refine AW_rg (tyOf_good _) (fun _ => trivial) [3, 4, 8, 9, 10, 11] [24, 28] fun K' hK' => ?_
    repeat (refine sxf_next fun K2 hK2 => ?_; simp; (repeat (refine ⟨by omega, ?_⟩)); refine hK2 _ ?_; clear hK2 K2)
    first | refine sxf_nil (hK' _ ?_) | (refine sxf_next fun K2 hK2 => ?_; clear hK2 hK'; simp; fail "STUCK")
    refine AW.st (by simp; rfl) ?_
    clear hK' K'
    refine AW_then fun K2 hK2 => ?_
    refine AW_cond' (b := n < L.length) (by simp [D.le, D.le.go, takeMap]) (fun hc => ?_) (fun hc => ?_)
    · refine AW_skip (hK2 _ ?_)
      have hL := hr L[n] (by simp)
      refine AW_then fun K3 hK3 => ?_
      refine AW_block ?_
      refine AW_rg (tyOf_good _) (fun _ => trivial) [3, 4, 6, 8, 9, 10] [6, 24, 28] fun K' hK' => ?_
      repeat (refine sxf_next fun K2 hK2 => ?_; simp [dRows, dRow, dInts, hc]; (repeat (refine ⟨by omega, ?_⟩)); refine hK2 _ ?_; clear hK2 K2)
      first | refine sxf_nil (hK' _ ?_) | (refine sxf_next fun K2 hK2 => ?_; clear hK2 hK'; simp [dRows, dRow, dInts, hc]; fail "STUCK")
      refine AW.st (by simp [dRows, dRow, dInts, hc]; rfl) ?_
      clear hK' K'
      refine AW_rg (tyOf_good _) (fun _ => trivial) [3, 4, 6, 7, 8, 9, 10] [6, 24, 28] fun K' hK' => ?_
      repeat (refine sxf_next fun K2 hK2 => ?_; simp [dRow, dInts]; (repeat (refine ⟨by omega, ?_⟩)); refine hK2 _ ?_; clear hK2 K2)
      refine sxf_next fun K2 hK2 => ?_
      simp [dRow, dInts]
      refine callK.lend (indexInts_spec G none dRow seen 112 [.ip [dRow L[n]]] (fun x => x == L[n]) (by omega) (fun x hx => number1_spec G x L[n] (by have := hmem x hx; omega))) (by simp; rfl) (by first | exact D.leGo_refl _ | simp [takeMap, List.map_map, Function.comp_def, D.le, D.le.go, D.le_refl, D.leGo_refl, dRow, dInts]) (by simp [D.scalar]) ?_
      refine hK2 _ ?_
      clear hK2 K2
      simp only [putd, upd_lst]
      repeat (refine sxf_next fun K2 hK2 => ?_; simp [dRow, dInts]; (repeat (refine ⟨by omega, ?_⟩)); refine hK2 _ ?_; clear hK2 K2)
      first | refine sxf_nil (hK' _ ?_) | (refine sxf_next fun K2 hK2 => ?_; clear hK2 hK'; simp [dRow, dInts]; fail "STUCK")
      refine AW.st (by simp [dRow, dInts]; rfl) ?_
      clear hK' K'
      have hnx := hnext hc
      generalize hk : idx (fun x => x == L[n]) seen = k
      simp only [numStep, hk] at hnx
      refine AW_then fun K4 hK4 => ?_
      refine AW_rg (tyOf_good _) (fun _ => trivial) [3, 4, 6, 7, 8, 9, 10, 18] [6, 24, 28] fun K' hK' => ?_
      repeat (refine sxf_next fun K2 hK2 => ?_; simp; (repeat (refine ⟨by omega, ?_⟩)); refine hK2 _ ?_; clear hK2 K2)
      first | refine sxf_nil (hK' _ ?_) | (refine sxf_next fun K2 hK2 => ?_; clear hK2 hK'; simp; fail "STUCK")
      refine AW.st (by simp; rfl) ?_
      clear hK' K'
      refine AW_cond' (b := k < 0) (by simp [D.le, D.le.go, takeMap]) (fun hc => ?_) (fun hc => ?_)
      · rw [if_pos hc] at hnx
        refine AW_rg (tyOf_good _) (fun _ => trivial) [3, 4, 6, 7, 8, 9, 10] [6, 24, 28] fun K' hK' => ?_
        repeat (refine sxf_next fun K2 hK2 => ?_; simp; (repeat (refine ⟨by omega, ?_⟩)); refine hK2 _ ?_; clear hK2 K2)
        first | refine sxf_nil (hK' _ ?_) | (refine sxf_next fun K2 hK2 => ?_; clear hK2 hK'; simp; fail "STUCK")
        refine AW.st (by simp; rfl) ?_
        clear hK' K'
        refine AW_re (tyOf_good _) (fun _ => trivial) fun K' hK' => ?_
        repeat (refine sxf_next fun K2 hK2 => ?_; simp [takeMap]; (repeat (refine ⟨by omega, ?_⟩)); refine hK2 _ ?_; clear hK2 K2)
        first | refine sxf_nil (hK' _ ?_) | (refine sxf_next fun K2 hK2 => ?_; clear hK2 hK'; simp [takeMap]; fail "STUCK")
        clear hK' K'
        refine hK4 _ (AW.norm (fun _ => trivial) [3, 4, 7, 8, 9, 10] [24, 28] (AW.st (by simp [takeMap]; rfl) ?_))
        refine AW_re (tyOf_good _) (fun _ => trivial) fun K' hK' => ?_
        repeat (refine sxf_next fun K2 hK2 => ?_; simp [takeMap]; (repeat (refine ⟨by omega, ?_⟩)); refine hK2 _ ?_; clear hK2 K2)
        first | refine sxf_nil (hK' _ ?_) | (refine sxf_next fun K2 hK2 => ?_; clear hK2 hK'; simp [takeMap]; fail "STUCK")
        clear hK' K'
        refine hK3 _ (AW.norm (fun _ => trivial) [3, 4, 8, 9, 10] [24, 28] (AW.st (by simp [takeMap]; rfl) ?_))
        refine AW_re (tyOf_good _) (fun _ => trivial) fun K' hK' => ?_
        repeat (refine sxf_next fun K2 hK2 => ?_; simp; (repeat (refine ⟨by omega, ?_⟩)); refine hK2 _ ?_; clear hK2 K2)
        first | refine sxf_nil (hK' _ ?_) | (refine sxf_next fun K2 hK2 => ?_; clear hK2 hK'; simp; fail "STUCK")
        clear hK' K'
        try simp only [thn, inb]
        refine Again.mk (n + 1) (by omega) (by omega) ?_
        rw [hnx]
        refine Imp.to' (fun _ => trivial) (by simp [dRow, dInts, dNum, dRows]) (by simp [dRow, dInts, dNum, dRows])
      · rw [if_neg hc] at hnx
        refine AW_skip (hK4 _ ?_)
        refine AW_re (tyOf_good _) (fun _ => trivial) fun K' hK' => ?_
        repeat (refine sxf_next fun K2 hK2 => ?_; simp [takeMap]; (repeat (refine ⟨by omega, ?_⟩)); refine hK2 _ ?_; clear hK2 K2)
        first | refine sxf_nil (hK' _ ?_) | (refine sxf_next fun K2 hK2 => ?_; clear hK2 hK'; simp [takeMap]; fail "STUCK")
        clear hK' K'
        refine hK3 _ (AW.norm (fun _ => trivial) [3, 4, 8, 9, 10] [24, 28] (AW.st (by simp [takeMap]; rfl) ?_))
        refine AW_re (tyOf_good _) (fun _ => trivial) fun K' hK' => ?_
        repeat (refine sxf_next fun K2 hK2 => ?_; simp; (repeat (refine ⟨by omega, ?_⟩)); refine hK2 _ ?_; clear hK2 K2)
        first | refine sxf_nil (hK' _ ?_) | (refine sxf_next fun K2 hK2 => ?_; clear hK2 hK'; simp; fail "STUCK")
        clear hK' K'
        try simp only [thn, inb]
        refine Again.mk (n + 1) (by omega) (by omega) ?_
        rw [hnx]
        refine Imp.to' (fun _ => trivial) (by simp [dRow, dInts, dNum, dRows]) (by simp [dRow, dInts, dNum, dRows])
    · refine AW_exit (hK1 _ ?_)
      refine AW_rg (tyOf_good _) (fun _ => trivial) [2] [28] fun K' hK' => ?_
      repeat (refine sxf_next fun K2 hK2 => ?_; simp; (repeat (refine ⟨by omega, ?_⟩)); refine hK2 _ ?_; clear hK2 K2)
      first | refine sxf_nil (hK' _ ?_) | (refine sxf_next fun K2 hK2 => ?_; clear hK2 hK'; simp; fail "STUCK")
      refine AW.st (by simp; rfl) ?_
      clear hK' K'
      refine AW_ret ?_
      simp [D.le, D.le.go, takeMap, dRow, dInts, dNum]
      have hnn : n = L.length := by omega
      subst hnn
      simp [numberF, hst]
#print axioms number_spec
end Go.Proofs.YtoikggboakojlaaDoor

/-
  Tables: few states; which tables may be.
-/
namespace Go.Proofs.YtoikggboakojlaaDoor
open Go.Av
set_option linter.unusedSimpArgs false
set_option linter.unusedVariables false

structure Tab where
  next : List (List Int)
  tells : List (List Int)

def dTab (t : Tab) : D := .agg [dRows t.next, dRows t.tells]

def fewF (t : Tab) (most : Int) : Bool := decide ((t.next.length : Int) ≤ most) && (decide ((t.tells.length : Int) ≤ 500) && (decide (t.next.length = 0) || decide (((t.next.getD 0 []).length : Int) ≤ 16)))

theorem few_spec (G : Glob) (t : Tab) (most : Int) : PureC Tryd.prog G 34 [dTab t, dNum most] (.v (.bool (fewF t most))) := by
  obtain ⟨next, tells⟩ := t
  refine PureC.of_body (tyOf_good _) Tryd.func34 rfl rfl (rs := [.tmp 4]) Tryd.results34 (by simp [Tryd.ntmps34]) fun X => ?_
  simp only [Tryd.ntmps34, List.map]
  refine AW_rg (tyOf_good _) (fun _ => trivial) [1, 2] [2] fun K' hK' => ?_
  repeat (refine sxf_next fun K2 hK2 => ?_; simp [dTab, dNum]; (repeat (refine ⟨by omega, ?_⟩)); refine hK2 _ ?_; clear hK2 K2)
  first | refine sxf_nil (hK' _ ?_) | (refine sxf_next fun K2 hK2 => ?_; clear hK2 hK'; simp [dTab, dNum]; fail "STUCK")
  refine AW.st (by simp [dTab, dNum]; rfl) ?_
  clear hK' K'
  by_cases h1 : (next.length : Int) ≤ most
  · by_cases h2 : (tells.length : Int) ≤ 500
    · cases next with
      | nil =>
        simp only [List.length_nil, Int.natCast_zero, Int.ofNat_eq_natCast, Int.cast_ofNat_Int] at h1
        refine AW_rg (tyOf_good _) (fun _ => trivial) [4] [2] fun K' hK' => ?_
        repeat (refine sxf_next fun K2 hK2 => ?_; simp [dRows, dRow, dInts, h1, h2]; (repeat (refine ⟨by omega, ?_⟩)); refine hK2 _ ?_; clear hK2 K2)
        first | refine sxf_nil (hK' _ ?_) | (refine sxf_next fun K2 hK2 => ?_; clear hK2 hK'; simp [dRows, dRow, dInts, h1, h2]; fail "STUCK")
        refine AW.st (by simp [dRows, dRow, dInts, h1, h2]; rfl) ?_
        clear hK' K'
        refine AW_ret ?_
        simp [D.le, D.le.go, takeMap]
        simp [fewF, h1, h2]
      | cons r next =>
        simp only [List.length_cons, Int.natCast_add, Int.cast_ofNat_Int] at h1
        have hz : ¬ ((next.length : Int) + 1 = 0) := by omega
        by_cases h3 : (r.length : Int) ≤ 16
        · refine AW_rg (tyOf_good _) (fun _ => trivial) [4] [2] fun K' hK' => ?_
          repeat (refine sxf_next fun K2 hK2 => ?_; simp [dRows, dRow, dInts, h1, h2, h3, hz]; (repeat (refine ⟨by omega, ?_⟩)); refine hK2 _ ?_; clear hK2 K2)
          first | refine sxf_nil (hK' _ ?_) | (refine sxf_next fun K2 hK2 => ?_; clear hK2 hK'; simp [dRows, dRow, dInts, h1, h2, h3, hz]; fail "STUCK")
          refine AW.st (by simp [dRows, dRow, dInts, h1, h2, h3, hz]; rfl) ?_
          clear hK' K'
          refine AW_ret ?_
          simp [D.le, D.le.go, takeMap]
          simp [fewF, h1, h2, h3]
        · refine AW_rg (tyOf_good _) (fun _ => trivial) [4] [2] fun K' hK' => ?_
          repeat (refine sxf_next fun K2 hK2 => ?_; simp [dRows, dRow, dInts, h1, h2, h3, hz]; (repeat (refine ⟨by omega, ?_⟩)); refine hK2 _ ?_; clear hK2 K2)
          first | refine sxf_nil (hK' _ ?_) | (refine sxf_next fun K2 hK2 => ?_; clear hK2 hK'; simp [dRows, dRow, dInts, h1, h2, h3, hz]; fail "STUCK")
          refine AW.st (by simp [dRows, dRow, dInts, h1, h2, h3, hz]; rfl) ?_
          clear hK' K'
          refine AW_ret ?_
          simp [D.le, D.le.go, takeMap]
          simp [fewF, h1, h2, h3]
    · refine AW_rg (tyOf_good _) (fun _ => trivial) [4] [2] fun K' hK' => ?_
      repeat (refine sxf_next fun K2 hK2 => ?_; simp [dRows, dRow, dInts, h1, h2]; (repeat (refine ⟨by omega, ?_⟩)); refine hK2 _ ?_; clear hK2 K2)
      first | refine sxf_nil (hK' _ ?_) | (refine sxf_next fun K2 hK2 => ?_; clear hK2 hK'; simp [dRows, dRow, dInts, h1, h2]; fail "STUCK")
      refine AW.st (by simp [dRows, dRow, dInts, h1, h2]; rfl) ?_
      clear hK' K'
      refine AW_ret ?_
      simp [D.le, D.le.go, takeMap]
      simp [fewF, h1, h2]
  · refine AW_rg (tyOf_good _) (fun _ => trivial) [4] [2] fun K' hK' => ?_
    repeat (refine sxf_next fun K2 hK2 => ?_; simp [dRows, dRow, dInts, h1]; (repeat (refine ⟨by omega, ?_⟩)); refine hK2 _ ?_; clear hK2 K2)
    first | refine sxf_nil (hK' _ ?_) | (refine sxf_next fun K2 hK2 => ?_; clear hK2 hK'; simp [dRows, dRow, dInts, h1]; fail "STUCK")
    refine AW.st (by simp [dRows, dRow, dInts, h1]; rfl) ?_
    clear hK' K'
    refine AW_ret ?_
    simp [D.le, D.le.go, takeMap]
    simp [fewF, h1]
#print axioms few_spec
end Go.Proofs.YtoikggboakojlaaDoor

/-
  Which tables may be.
-/
namespace Go.Proofs.YtoikggboakojlaaDoor
open Go.Av
set_option linter.unusedSimpArgs false
set_option linter.unusedVariables false

/-- Whether an error is told, which one, and where. -/
def dErr : Option (Int × Option Nat) → D
  | none => .v .nilIface
  | some (c, none) => .ifc 27 (.v (.int .i64 c))
  | some (c, some s) => .ifc 109 (.ip [.v (.int .i64 c), .v (.int .i64 s)])

def rowF (t : Tab) (s : Nat) : Option Int :=
  if (t.next.getD s []).length ≠ (t.next.getD 0 []).length ∨ (t.tells.getD s []).length ≠ (t.next.getD 0 []).length then some 3
  else if (t.next.getD s []).any fun x => decide (x < 0) || decide ((t.next.length : Int) ≤ x) then some 2 else none
def rowsF (t : Tab) : Nat → Nat → Option (Int × Option Nat)
  | _, 0 => none
  | s, n + 1 => match rowF t s with
    | some c => some (c, some s)
    | none => rowsF t (s + 1) n
def checkF (t : Tab) : Option (Int × Option Nat) :=
  if t.next.length < 1 ∨ 500 < t.next.length ∨ 64 < (t.next.getD 0 []).length then some (4, none)
  else if t.tells.length ≠ t.next.length then some (3, none)
  else rowsF t 0 t.next.length

set_option maxHeartbeats 4000000 in
theorem check_spec (G : Glob) (t : Tab) : PureC Tryd.prog G 20 [dTab t] (dErr (checkF t)) := by
  obtain ⟨next, tells⟩ := t
  have hr2 : checkF ⟨next, tells⟩ = (if (next.length < 1 ∨ 500 < next.length ∨ 64 < (next.getD 0 []).length) then some (4, none)
      else if tells.length ≠ next.length then some (3, none) else rowsF ⟨next, tells⟩ 0 next.length) := rfl
  generalize hres : checkF ⟨next, tells⟩ = res
  rw [hr2] at hres
  refine PureC.of_body (tyOf_good _) Tryd.func20 rfl rfl (rs := [.tmp 2]) Tryd.results20 (by simp [Tryd.ntmps20]) fun X => ?_
  simp only [Tryd.ntmps20, List.map]
  refine AW_rg (tyOf_good _) (fun _ => trivial) [1] [1] fun K' hK' => ?_
  repeat (refine sxf_next fun K2 hK2 => ?_; simp [dTab]; (repeat (refine ⟨by omega, ?_⟩)); refine hK2 _ ?_; clear hK2 K2)
  first | refine sxf_nil (hK' _ ?_) | (refine sxf_next fun K2 hK2 => ?_; clear hK2 hK'; simp [dTab]; fail "STUCK")
  refine AW.st (by simp [dTab]; rfl) ?_
  clear hK' K'
  refine AW_rg (tyOf_good _) (fun _ => trivial) [1, 3] [1, 3] fun K' hK' => ?_
  repeat (refine sxf_next fun K2 hK2 => ?_; simp [dRows]; (repeat (refine ⟨by omega, ?_⟩)); refine hK2 _ ?_; clear hK2 K2)
  first | refine sxf_nil (hK' _ ?_) | (refine sxf_next fun K2 hK2 => ?_; clear hK2 hK'; simp [dRows]; fail "STUCK")
  refine AW.st (by simp [dRows]; rfl) ?_
  clear hK' K'
  refine AW_then fun K1 hK1 => ?_
  by_cases h1 : (next.length : Int) < 1
  · rw [if_pos (.inl (by omega))] at hres
    refine AW_rg (tyOf_good _) (fun _ => trivial) [1, 3, 21] [1, 3] fun K' hK' => ?_
    repeat (refine sxf_next fun K2 hK2 => ?_; simp [h1]; (repeat (refine ⟨by omega, ?_⟩)); refine hK2 _ ?_; clear hK2 K2)
    first | refine sxf_nil (hK' _ ?_) | (refine sxf_next fun K2 hK2 => ?_; clear hK2 hK'; simp [h1]; fail "STUCK")
    refine AW.st (by simp [h1]; rfl) ?_
    clear hK' K'
    refine AW_cond true rfl (fun _ => ?_) (fun h => by cases h)
    refine AW_rg (tyOf_good _) (fun _ => trivial) [2] [] fun K' hK' => ?_
    repeat (refine sxf_next fun K2 hK2 => ?_; simp; (repeat (refine ⟨by omega, ?_⟩)); refine hK2 _ ?_; clear hK2 K2)
    first | refine sxf_nil (hK' _ ?_) | (refine sxf_next fun K2 hK2 => ?_; clear hK2 hK'; simp; fail "STUCK")
    refine AW.st (by simp; rfl) ?_
    clear hK' K'
    refine AW_ret ?_
    simp [D.le, D.le.go, takeMap]
    simp [← hres, dErr, D.le]
  by_cases h2 : 500 < (next.length : Int)
  · rw [if_pos (.inr (.inl (by omega)))] at hres
    refine AW_rg (tyOf_good _) (fun _ => trivial) [1, 3, 21] [1, 3] fun K' hK' => ?_
    repeat (refine sxf_next fun K2 hK2 => ?_; simp [h1, h2]; (repeat (refine ⟨by omega, ?_⟩)); refine hK2 _ ?_; clear hK2 K2)
    first | refine sxf_nil (hK' _ ?_) | (refine sxf_next fun K2 hK2 => ?_; clear hK2 hK'; simp [h1, h2]; fail "STUCK")
    refine AW.st (by simp [h1, h2]; rfl) ?_
    clear hK' K'
    refine AW_cond true rfl (fun _ => ?_) (fun h => by cases h)
    refine AW_rg (tyOf_good _) (fun _ => trivial) [2] [] fun K' hK' => ?_
    repeat (refine sxf_next fun K2 hK2 => ?_; simp; (repeat (refine ⟨by omega, ?_⟩)); refine hK2 _ ?_; clear hK2 K2)
    first | refine sxf_nil (hK' _ ?_) | (refine sxf_next fun K2 hK2 => ?_; clear hK2 hK'; simp; fail "STUCK")
    refine AW.st (by simp; rfl) ?_
    clear hK' K'
    refine AW_ret ?_
    simp [D.le, D.le.go, takeMap]
    simp [← hres, dErr, D.le]
  obtain ⟨r0, next', hnx⟩ : ∃ r0 next', next = r0 :: next' := by
    cases next with
    | nil => simp at h1
    | cons a b => exact ⟨a, b, rfl⟩
  have hg0 : next.getD 0 [] = r0 := by rw [hnx]; rfl
  have hgd : (next.map fun r => [dRow r]).getD 0 [] = [dRow r0] := by rw [hnx]; rfl
  have hpos : 0 < next.length := by omega
  simp only [hg0] at hres
  have hgq : next[0] = r0 := by subst hnx; rfl
  by_cases h3 : 64 < (r0.length : Int)
  · rw [if_pos (.inr (.inr (by omega)))] at hres
    refine AW_rg (tyOf_good _) (fun _ => trivial) [1, 3, 21] [1, 3] fun K' hK' => ?_
    repeat (refine sxf_next fun K2 hK2 => ?_; simp [h1, h2, h3, hgd, hpos, hgq, dRow, dInts]; (repeat (refine ⟨by omega, ?_⟩)); refine hK2 _ ?_; clear hK2 K2)
    first | refine sxf_nil (hK' _ ?_) | (refine sxf_next fun K2 hK2 => ?_; clear hK2 hK'; simp [h1, h2, h3, hgd, hpos, hgq, dRow, dInts]; fail "STUCK")
    refine AW.st (by simp [h1, h2, h3, hgd, hpos, hgq, dRow, dInts]; rfl) ?_
    clear hK' K'
    refine AW_cond true rfl (fun _ => ?_) (fun h => by cases h)
    refine AW_rg (tyOf_good _) (fun _ => trivial) [2] [] fun K' hK' => ?_
    repeat (refine sxf_next fun K2 hK2 => ?_; simp; (repeat (refine ⟨by omega, ?_⟩)); refine hK2 _ ?_; clear hK2 K2)
    first | refine sxf_nil (hK' _ ?_) | (refine sxf_next fun K2 hK2 => ?_; clear hK2 hK'; simp; fail "STUCK")
    refine AW.st (by simp; rfl) ?_
    clear hK' K'
    refine AW_ret ?_
    simp [D.le, D.le.go, takeMap]
    simp [← hres, dErr, D.le]
  rw [if_neg (by omega)] at hres
  refine AW_rg (tyOf_good _) (fun _ => trivial) [1, 3, 21] [1, 3] fun K' hK' => ?_
  repeat (refine sxf_next fun K2 hK2 => ?_; simp [h1, h2, h3, hgd, hpos, hgq, dRow, dInts]; (repeat (refine ⟨by omega, ?_⟩)); refine hK2 _ ?_; clear hK2 K2)
  first | refine sxf_nil (hK' _ ?_) | (refine sxf_next fun K2 hK2 => ?_; clear hK2 hK'; simp [h1, h2, h3, hgd, hpos, hgq, dRow, dInts]; fail "STUCK")
  refine AW.st (by simp [h1, h2, h3, hgd, hpos, hgq, dRow, dInts]; rfl) ?_
  clear hK' K'
  refine AW_cond false rfl (fun h => by cases h) (fun _ => ?_)
  refine AW_skip (hK1 _ ?_)
  refine AW_then fun K2 hK2 => ?_
  refine AW_rg (tyOf_good _) (fun _ => trivial) [1, 3, 27] [1, 3] fun K' hK' => ?_
  repeat (refine sxf_next fun K2 hK2 => ?_; simp [dRow, dInts]; (repeat (refine ⟨by omega, ?_⟩)); refine hK2 _ ?_; clear hK2 K2)
  first | refine sxf_nil (hK' _ ?_) | (refine sxf_next fun K2 hK2 => ?_; clear hK2 hK'; simp [dRow, dInts]; fail "STUCK")
  refine AW.st (by simp [dRow, dInts]; rfl) ?_
  clear hK' K'
  refine AW_cond' (b := ¬ tells.length = next.length) (by simp [D.le, D.le.go, takeMap]) (fun hc => ?_) (fun hc => ?_)
  · rw [if_pos hc] at hres
    refine AW_rg (tyOf_good _) (fun _ => trivial) [2] [] fun K' hK' => ?_
    repeat (refine sxf_next fun K2 hK2 => ?_; simp; (repeat (refine ⟨by omega, ?_⟩)); refine hK2 _ ?_; clear hK2 K2)
    first | refine sxf_nil (hK' _ ?_) | (refine sxf_next fun K2 hK2 => ?_; clear hK2 hK'; simp; fail "STUCK")
    refine AW.st (by simp; rfl) ?_
    clear hK' K'
    refine AW_ret ?_
    simp [D.le, D.le.go, takeMap]
    simp [← hres, dErr, D.le]
  rw [if_neg hc] at hres
  have htl : tells.length = next.length := by omega
  refine AW_skip (hK2 _ ?_)
  refine AW_then fun K3 hK3 => ?_
  refine AW_rg (tyOf_good _) (fun _ => trivial) [1, 3, 31, 32] [1, 3] fun K' hK' => ?_
  repeat (refine sxf_next fun K2 hK2 => ?_; simp [dRow, dInts]; (repeat (refine ⟨by omega, ?_⟩)); refine hK2 _ ?_; clear hK2 K2)
  first | refine sxf_nil (hK' _ ?_) | (refine sxf_next fun K2 hK2 => ?_; clear hK2 hK'; simp [dRow, dInts]; fail "STUCK")
  refine AW.st (by simp [dRow, dInts]; rfl) ?_
  clear hK' K'
  refine AW_for (S := Nat) (fun n => n ≤ next.length ∧ rowsF ⟨next, tells⟩ n (next.length - n) = rowsF ⟨next, tells⟩ 0 next.length) (fun n => ⟨lst [(1, .ref 1 0 0), (3, .ref 3 0 0), (31, int next.length), (32, int n)],
    hlst [(1, .box 25 [.d (dRows next), .d (dRows tells)]), (3, .box 3 [int next.length])]⟩) (fun n => next.length - n) 0 ?_ (by simp) ?_
  · refine Imp.to' (fun _ => trivial) (by simp [dRows, dRow, dInts]) (by simp [dRows, dRow, dInts])
  · rintro n ⟨hn, hrs⟩
    refine AW_rg (tyOf_good _) (fun _ => trivial) [1, 3, 31, 32, 33] [1, 3] fun K' hK' => ?_
    repeat (refine sxf_next fun K2 hK2 => ?_; simp; (repeat (refine ⟨by omega, ?_⟩)); refine hK2 _ ?_; clear hK2 K2)
    first | refine sxf_nil (hK' _ ?_) | (refine sxf_next fun K2 hK2 => ?_; clear hK2 hK'; simp; fail "STUCK")
    refine AW.st (by simp; rfl) ?_
    clear hK' K'
    refine AW_then fun K4 hK4 => ?_
    refine AW_cond' (b := n < next.length) (by simp [D.le, D.le.go, takeMap]) (fun hc => ?_) (fun hc => ?_)
    · refine AW_skip (hK4 _ ?_)
      refine AW_then fun K5 hK5 => ?_
      refine AW_block ?_
      refine AW_rg (tyOf_good _) (fun _ => trivial) [1, 3, 4, 31, 32] [1, 3] fun K' hK' => ?_
      repeat (refine sxf_next fun K2 hK2 => ?_; simp; (repeat (refine ⟨by omega, ?_⟩)); refine hK2 _ ?_; clear hK2 K2)
      first | refine sxf_nil (hK' _ ?_) | (refine sxf_next fun K2 hK2 => ?_; clear hK2 hK'; simp; fail "STUCK")
      refine AW.st (by simp; rfl) ?_
      clear hK' K'
      refine AW_then fun K6 hK6 => ?_
      have hstep : rowsF ⟨next, tells⟩ n (next.length - n) = match rowF ⟨next, tells⟩ n with
          | some c => some (c, some n)
          | none => rowsF ⟨next, tells⟩ (n + 1) (next.length - (n + 1)) := by
        have : next.length - n = (next.length - (n + 1)) + 1 := by omega
        rw [this]
        rfl
      rw [hstep] at hrs
      have htn : n < tells.length := by omega
      have hrow : rowF ⟨next, tells⟩ n = if next[n].length ≠ r0.length ∨ tells[n].length ≠ r0.length then some 3 else if next[n].any fun x => decide (x < 0) || decide ((next.length : Int) ≤ x) then some 2 else none := by
        simp [rowF, hc, htn, hpos, hgq]
      by_cases h4 : next[n].length = r0.length
      · by_cases h5 : tells[n].length = r0.length
        · rw [if_neg (by simp [h4, h5])] at hrow
          refine AW_rd (tyOf_good _) (fun _ => trivial) (by kernel_rfl) [1, 3, 4, 31, 32, 60] [1, 3] (by kernel_rfl) fun K' hK' => ?_
          repeat (refine sxd_next fun K2 hK2 => ?_; simp [dRows, h4, h5, hgd, hpos, hgq, hc, htn, dRow, dInts]; (repeat (refine ⟨by omega, ?_⟩)); refine hK2 _ ?_; clear hK2 K2)
          first | refine sxd_nil (hK' _ ?_) | (refine sxd_next fun K2 hK2 => ?_; clear hK2 hK'; simp [dRows, h4, h5, hgd, hpos, hgq, hc, htn, dRow, dInts]; fail "STUCK")
          refine AW.st (by simp [dRows, h4, h5, hgd, hpos, hgq, hc, htn, dRow, dInts]; rfl) ?_
          clear hK' K'
          refine AW_cond false rfl (fun h => by cases h) (fun _ => ?_)
          refine AW_skip (hK6 _ ?_)
          refine AW_rg (tyOf_good _) (fun _ => trivial) [1, 3, 4, 31, 32, 71] [1, 3] fun K' hK' => ?_
          repeat (refine sxf_next fun K2 hK2 => ?_; simp [dRows, dRow, dInts, hc]; (repeat (refine ⟨by omega, ?_⟩)); refine hK2 _ ?_; clear hK2 K2)
          refine sxf_next fun K2 hK2 => ?_
          simp [dRows, dRow, dInts, hc]
          refine callK.lend (containsInt_spec G none dNum next[n] 62 [.ip [dNum next.length]] (fun x => decide (x < 0) || decide ((next.length : Int) ≤ x)) (by omega) (fun x _ => check1_spec G x next.length)) (by simp; rfl) (by first | exact D.leGo_refl _ | simp [takeMap, List.map_map, Function.comp_def, D.le, D.le.go, D.le_refl, D.leGo_refl, dRows, dRow, dInts, hc]) (by simp [D.scalar]) ?_
          refine hK2 _ ?_
          clear hK2 K2
          simp only [putd, upd_lst]
          repeat (refine sxf_next fun K2 hK2 => ?_; simp [dRows, dRow, dInts, hc]; (repeat (refine ⟨by omega, ?_⟩)); refine hK2 _ ?_; clear hK2 K2)
          first | refine sxf_nil (hK' _ ?_) | (refine sxf_next fun K2 hK2 => ?_; clear hK2 hK'; simp [dRows, dRow, dInts, hc]; fail "STUCK")
          refine AW.st (by simp [dRows, dRow, dInts, hc]; rfl) ?_
          clear hK' K'
          refine AW_cond _ rfl (fun hb => ?_) (fun hb => ?_)
          · rw [if_pos hb] at hrow
            refine AW_rg (tyOf_good _) (fun _ => trivial) [2] [74] fun K' hK' => ?_
            repeat (refine sxf_next fun K2 hK2 => ?_; simp; (repeat (refine ⟨by omega, ?_⟩)); refine hK2 _ ?_; clear hK2 K2)
            first | refine sxf_nil (hK' _ ?_) | (refine sxf_next fun K2 hK2 => ?_; clear hK2 hK'; simp; fail "STUCK")
            refine AW.st (by simp; rfl) ?_
            clear hK' K'
            refine AW_ret ?_
            simp [D.le, D.le.go, takeMap]
            rw [hrow] at hrs
            simp [← hres, ← hrs, dErr, D.le, D.le.go]
          · rw [if_neg (by simp [hb])] at hrow
            rw [hrow] at hrs
            refine AW_skip (hK5 _ ?_)
            refine AW_re (tyOf_good _) (fun _ => trivial) fun K' hK' => ?_
            repeat (refine sxf_next fun K2 hK2 => ?_; simp; (repeat (refine ⟨by omega, ?_⟩)); refine hK2 _ ?_; clear hK2 K2)
            first | refine sxf_nil (hK' _ ?_) | (refine sxf_next fun K2 hK2 => ?_; clear hK2 hK'; simp; fail "STUCK")
            clear hK' K'
            try simp only [thn, inb]
            refine Again.mk (n + 1) ⟨by omega, hrs⟩ (by omega) ?_
            refine Imp.to' (fun _ => trivial) (by simp [dRows, dRow, dInts]) (by simp [dRows, dRow, dInts])
        · rw [if_pos (.inr h5)] at hrow
          refine AW_rd (tyOf_good _) (fun _ => trivial) (by kernel_rfl) [1, 3, 4, 31, 32, 60] [1, 3] (by kernel_rfl) fun K' hK' => ?_
          repeat (refine sxd_next fun K2 hK2 => ?_; simp [dRows, h4, h5, hgd, hpos, hgq, hc, htn, dRow, dInts]; (repeat (refine ⟨by omega, ?_⟩)); refine hK2 _ ?_; clear hK2 K2)
          first | refine sxd_nil (hK' _ ?_) | (refine sxd_next fun K2 hK2 => ?_; clear hK2 hK'; simp [dRows, h4, h5, hgd, hpos, hgq, hc, htn, dRow, dInts]; fail "STUCK")
          refine AW.st (by simp [dRows, h4, h5, hgd, hpos, hgq, hc, htn, dRow, dInts]; rfl) ?_
          clear hK' K'
          refine AW_cond true rfl (fun _ => ?_) (fun h => by cases h)
          refine AW_rg (tyOf_good _) (fun _ => trivial) [2] [63] fun K' hK' => ?_
          repeat (refine sxf_next fun K2 hK2 => ?_; simp; (repeat (refine ⟨by omega, ?_⟩)); refine hK2 _ ?_; clear hK2 K2)
          first | refine sxf_nil (hK' _ ?_) | (refine sxf_next fun K2 hK2 => ?_; clear hK2 hK'; simp; fail "STUCK")
          refine AW.st (by simp; rfl) ?_
          clear hK' K'
          refine AW_ret ?_
          simp [D.le, D.le.go, takeMap]
          rw [hrow] at hrs
          simp [← hres, ← hrs, dErr, D.le, D.le.go]
      · rw [if_pos (.inl h4)] at hrow
        refine AW_rd (tyOf_good _) (fun _ => trivial) (by kernel_rfl) [1, 3, 4, 31, 32, 60] [1, 3] (by kernel_rfl) fun K' hK' => ?_
        repeat (refine sxd_next fun K2 hK2 => ?_; simp [dRows, h4, hgd, hpos, hgq, hc, htn, dRow, dInts]; (repeat (refine ⟨by omega, ?_⟩)); refine hK2 _ ?_; clear hK2 K2)
        first | refine sxd_nil (hK' _ ?_) | (refine sxd_next fun K2 hK2 => ?_; clear hK2 hK'; simp [dRows, h4, hgd, hpos, hgq, hc, htn, dRow, dInts]; fail "STUCK")
        refine AW.st (by simp [dRows, h4, hgd, hpos, hgq, hc, htn, dRow, dInts]; rfl) ?_
        clear hK' K'
        refine AW_cond true rfl (fun _ => ?_) (fun h => by cases h)
        refine AW_rg (tyOf_good _) (fun _ => trivial) [2] [63] fun K' hK' => ?_
        repeat (refine sxf_next fun K2 hK2 => ?_; simp; (repeat (refine ⟨by omega, ?_⟩)); refine hK2 _ ?_; clear hK2 K2)
        first | refine sxf_nil (hK' _ ?_) | (refine sxf_next fun K2 hK2 => ?_; clear hK2 hK'; simp; fail "STUCK")
        refine AW.st (by simp; rfl) ?_
        clear hK' K'
        refine AW_ret ?_
        simp [D.le, D.le.go, takeMap]
        rw [hrow] at hrs
        simp [← hres, ← hrs, dErr, D.le, D.le.go]
    · refine AW_exit (hK3 _ ?_)
      refine AW_rg (tyOf_good _) (fun _ => trivial) [2] [] fun K' hK' => ?_
      repeat (refine sxf_next fun K2 hK2 => ?_; simp; (repeat (refine ⟨by omega, ?_⟩)); refine hK2 _ ?_; clear hK2 K2)
      first | refine sxf_nil (hK' _ ?_) | (refine sxf_next fun K2 hK2 => ?_; clear hK2 hK'; simp; fail "STUCK")
      refine AW.st (by simp; rfl) ?_
      clear hK' K'
      refine AW_ret ?_
      simp [D.le, D.le.go, takeMap]
      have hnn : n = next.length := by omega
      subst hnn
      simp [rowsF] at hrs
      rw [← hrs] at hres
      simp [← hres, dErr]
#print axioms check_spec
end Go.Proofs.YtoikggboakojlaaDoor

/-
  The rounds of blocks.
-/
namespace Go.Proofs.YtoikggboakojlaaDoor
open Go.Av
set_option linter.unusedSimpArgs false
set_option linter.unusedVariables false

def Tab.n (t : Tab) : Nat := t.next.length
/-- What part of a state's sign is there after i inputs. -/
def sigN (t : Tab) (now : List Int) (s i : Nat) : List Int := now.getD s 0 :: (List.range i).flatMap fun i => [(t.tells.getD s []).getD i 0, now.getD ((t.next.getD s []).getD i 0).toNat 0]
def sig (t : Tab) (now : List Int) (s : Nat) : List Int := sigN t now s (t.next.getD s []).length
def nextF (t : Tab) (now : List Int) : List Int := numberF ((List.range t.n).map (sig t now))
def iter (t : Tab) : Nat → List Int
  | 0 => List.replicate t.n 0
  | k + 1 => nextF t (iter t k)

theorem numberF_len (L : List (List Int)) : (numberF L).length = L.length := (numSt_len (Nat.le_refl _)).2
theorem iter_len (t : Tab) : ∀ k, (iter t k).length = t.n
  | 0 => by simp [iter]
  | k + 1 => by simp [iter, nextF, numberF_len]
theorem sigN_succ (t : Tab) (now : List Int) (s i : Nat) : sigN t now s (i + 1) = sigN t now s i ++ [(t.tells.getD s []).getD i 0, now.getD ((t.next.getD s []).getD i 0).toNat 0] := by
  simp [sigN, List.range_succ]
theorem sigN_len (t : Tab) (now : List Int) (s i : Nat) : (sigN t now s i).length = 1 + 2 * i := by
  induction i with
  | zero => simp [sigN]
  | succ i ih => rw [sigN_succ]; simp [ih]; omega

/-- What Check sees to. -/
structure Ok (t : Tab) : Prop where
  pos : 1 ≤ t.n
  most : t.n ≤ 500
  ins : (t.next.getD 0 []).length ≤ 64
  tells : t.tells.length = t.n
  nextLen : ∀ s, s < t.n → (t.next.getD s []).length = (t.next.getD 0 []).length
  tellsLen : ∀ s, s < t.n → (t.tells.getD s []).length = (t.next.getD 0 []).length
  there : ∀ s, s < t.n → ∀ x ∈ t.next.getD s [], 0 ≤ x ∧ x < t.n

theorem takeR {α : Type} (f : Nat → α) (n : Nat) : List.take n (List.map f (List.range n)) = List.map f (List.range n) := List.take_of_length_le (by simp)

def rowI (l : List Int) : Row := .sl 3 1 (l.map fun x => [dNum x])
def rowR (l : List (List Int)) : Row := .sl 32 1 (l.map fun r => [dRow r])
def boxT (t : Tab) : Row := .box 25 [.d (dRows t.next), .d (dRows t.tells)]

/-- The rounds are these, up to one that is its own next one. -/
def Stops (t : Tab) (k : Nat) : Prop := nextF t (iter t k) = iter t k ∧ ∀ j, j < k → nextF t (iter t j) ≠ iter t j

set_option maxHeartbeats 4000000 in
theorem rounds_spec (G : Glob) (t : Tab) (ok : Ok t) (k : Nat) (hk : k < 2^20) (hs : Stops t k) : PureC Tryd.prog G 58 [dTab t] (dRows ((List.range (k + 1)).map (iter t))) := by
  have hn500 : t.next.length ≤ 500 := ok.most
  refine PureC.of_body (tyOf_good _) Tryd.func58 rfl rfl (rs := [.tmp 2]) Tryd.results58 (by simp [Tryd.ntmps58]) fun X => ?_
  simp only [Tryd.ntmps58, List.map]
  refine AW_rg (tyOf_good _) (fun _ => trivial) [1] [1] fun K' hK' => ?_
  repeat (refine sxf_next fun K2 hK2 => ?_; simp [dTab]; (repeat (refine ⟨by omega, ?_⟩)); refine hK2 _ ?_; clear hK2 K2)
  first | refine sxf_nil (hK' _ ?_) | (refine sxf_next fun K2 hK2 => ?_; clear hK2 hK'; simp [dTab]; fail "STUCK")
  refine AW.st (by simp [dTab]; rfl) ?_
  clear hK' K'
  refine AW_rg (tyOf_good _) (fun _ => trivial) [1, 3] [1] fun K' hK' => ?_
  repeat (refine sxf_next fun K2 hK2 => ?_; simp [dRows]; (repeat (refine ⟨by omega, ?_⟩)); refine hK2 _ ?_; clear hK2 K2)
  first | refine sxf_nil (hK' _ ?_) | (refine sxf_next fun K2 hK2 => ?_; clear hK2 hK'; simp [dRows]; fail "STUCK")
  refine AW.st (by simp [dRows]; rfl) ?_
  clear hK' K'
  refine AW_rg (tyOf_good _) (fun _ => trivial) [1, 3, 4] [1, 17] fun K' hK' => ?_
  repeat (refine sxf_next fun K2 hK2 => ?_; simp; (repeat (refine ⟨by omega, ?_⟩)); refine hK2 _ ?_; clear hK2 K2)
  first | refine sxf_nil (hK' _ ?_) | (refine sxf_next fun K2 hK2 => ?_; clear hK2 hK'; simp; fail "STUCK")
  refine AW.st (by simp; rfl) ?_
  clear hK' K'
  refine AW_for (S := Nat) (fun m => m ≤ k) (fun m => ⟨lst [(1, .ref 1 0 0), (3, int t.next.length), (4, .own 17 0 (m + 1))], hlst [(1, boxT t), (17, rowR ((List.range (m + 1)).map (iter t)))]⟩) (fun m => k - m) 0 ?_ (by simp) ?_
  · refine Imp.to' (fun _ => trivial) (by simp [boxT, rowR, iter, dRow, dInts, dRows, Tab.n, dNum]) (by simp [boxT, rowR, iter, dRow, dInts, dRows, Tab.n, dNum])
  · intro m hm
    have hlen : (iter t m).length = t.next.length := iter_len t m
    refine AW_block ?_
    refine AW_rg (tyOf_good _) (fun _ => trivial) [1, 3, 4, 5] [1, 17] fun K' hK' => ?_
    repeat (refine sxf_next fun K2 hK2 => ?_; simp [rowR, boxT]; (repeat (refine ⟨by omega, ?_⟩)); refine hK2 _ ?_; clear hK2 K2)
    first | refine sxf_nil (hK' _ ?_) | (refine sxf_next fun K2 hK2 => ?_; clear hK2 hK'; simp [rowR, boxT]; fail "STUCK")
    refine AW.st (by simp [rowR, boxT]; rfl) ?_
    clear hK' K'
    refine AW_rg (tyOf_good _) (fun _ => trivial) [1, 3, 4, 5, 6] [1, 17] fun K' hK' => ?_
    repeat (refine sxf_next fun K2 hK2 => ?_; simp; (repeat (refine ⟨by omega, ?_⟩)); refine hK2 _ ?_; clear hK2 K2)
    first | refine sxf_nil (hK' _ ?_) | (refine sxf_next fun K2 hK2 => ?_; clear hK2 hK'; simp; fail "STUCK")
    refine AW.st (by simp; rfl) ?_
    clear hK' K'
    refine AW_then fun K1 hK1 => ?_
    refine AW_rg (tyOf_good _) (fun _ => trivial) [1, 3, 4, 5, 6, 24, 25] [1, 17] fun K' hK' => ?_
    repeat (refine sxf_next fun K2 hK2 => ?_; simp; (repeat (refine ⟨by omega, ?_⟩)); refine hK2 _ ?_; clear hK2 K2)
    first | refine sxf_nil (hK' _ ?_) | (refine sxf_next fun K2 hK2 => ?_; clear hK2 hK'; simp; fail "STUCK")
    refine AW.st (by simp; rfl) ?_
    clear hK' K'
    refine AW_for (S := Nat) (fun s => s ≤ t.next.length) (fun s => ⟨lst [(1, .ref 1 0 0), (3, int t.next.length), (4, .own 17 0 (m + 1)), (5, .d (dRow (iter t m))), (6, .own 63 0 s), (24, int t.next.length), (25, int s)],
      hlst [(1, boxT t), (17, rowR ((List.range (m + 1)).map (iter t))), (63, rowR ((List.range s).map (sig t (iter t m))))]⟩) (fun s => t.next.length - s) 0 ?_ (by simp) ?_
    · refine (Imp.adopt 6 63 32 1 rfl rfl).trans ?_
      refine Imp.to' (fun _ => trivial) (by simp [boxT, rowR]) (by simp [boxT, rowR])
    · intro s hsn
      refine AW_rg (tyOf_good _) (fun _ => trivial) [1, 3, 4, 5, 6, 24, 25, 26] [1, 17, 63] fun K' hK' => ?_
      repeat (refine sxf_next fun K2 hK2 => ?_; simp [boxT, rowR]; (repeat (refine ⟨by omega, ?_⟩)); refine hK2 _ ?_; clear hK2 K2)
      first | refine sxf_nil (hK' _ ?_) | (refine sxf_next fun K2 hK2 => ?_; clear hK2 hK'; simp [boxT, rowR]; fail "STUCK")
      refine AW.st (by simp [boxT, rowR]; rfl) ?_
      clear hK' K'
      refine AW_then fun K2 hK2 => ?_
      refine AW_cond' (b := s < t.next.length) (by simp [D.le, D.le.go, takeMap]) (fun hc => ?_) (fun hc => ?_)
      · refine AW_skip (hK2 _ ?_)
        have hT : s < t.tells.length := by have := ok.tells; simp only [Tab.n] at this; omega
        have hsl : s < (iter t m).length := by omega
        have hsl' : s < t.n := hc
        have hsl'' : s < t.next.length := hc
        have hgn : t.next.getD s [] = t.next[s] := by simp [hsl'']
        have hgt : t.tells.getD s [] = t.tells[s] := by simp [hT]
        refine AW_then fun K3 hK3 => ?_
        refine AW_block ?_
        refine AW_rg (tyOf_good _) (fun _ => trivial) [1, 3, 4, 5, 6, 7, 24, 25] [1, 17, 63] fun K' hK' => ?_
        repeat (refine sxf_next fun K2 hK2 => ?_; simp; (repeat (refine ⟨by omega, ?_⟩)); refine hK2 _ ?_; clear hK2 K2)
        first | refine sxf_nil (hK' _ ?_) | (refine sxf_next fun K2 hK2 => ?_; clear hK2 hK'; simp; fail "STUCK")
        refine AW.st (by simp; rfl) ?_
        clear hK' K'
        refine AW_rg (tyOf_good _) (fun _ => trivial) [1, 3, 4, 5, 6, 7, 8, 24, 25] [1, 17, 32, 63] fun K' hK' => ?_
        repeat (refine sxf_next fun K2 hK2 => ?_; simp [dRow, dInts, hsl]; (repeat (refine ⟨by omega, ?_⟩)); refine hK2 _ ?_; clear hK2 K2)
        first | refine sxf_nil (hK' _ ?_) | (refine sxf_next fun K2 hK2 => ?_; clear hK2 hK'; simp [dRow, dInts, hsl]; fail "STUCK")
        refine AW.st (by simp [dRow, dInts, hsl]; rfl) ?_
        clear hK' K'
        refine AW_then fun K4 hK4 => ?_
        refine AW_rg (tyOf_good _) (fun _ => trivial) [1, 3, 4, 5, 6, 7, 8, 24, 25, 37, 38, 39] [1, 17, 32, 63] fun K' hK' => ?_
        repeat (refine sxf_next fun K2 hK2 => ?_; simp [dRows, dRow, dInts, hc]; (repeat (refine ⟨by omega, ?_⟩)); refine hK2 _ ?_; clear hK2 K2)
        first | refine sxf_nil (hK' _ ?_) | (refine sxf_next fun K2 hK2 => ?_; clear hK2 hK'; simp [dRows, dRow, dInts, hc]; fail "STUCK")
        refine AW.st (by simp [dRows, dRow, dInts, hc]; rfl) ?_
        clear hK' K'
        refine AW_for (S := Nat) (fun i => i ≤ t.next[s].length) (fun i => ⟨lst [(1, .ref 1 0 0), (3, int t.next.length), (4, .own 17 0 (m + 1)), (5, .d (dRow (iter t m))), (6, .own 63 0 s), (7, int s), (8, .own 32 0 (sigN t (iter t m) s i).length), (24, int t.next.length), (25, int s), (37, .d (dRow t.next[s])), (38, int t.next[s].length), (39, int i)],
          hlst [(1, boxT t), (17, rowR ((List.range (m + 1)).map (iter t))), (32, rowI (sigN t (iter t m) s i)), (63, rowR ((List.range s).map (sig t (iter t m))))]⟩) (fun i => t.next[s].length - i) 0 ?_ (by simp) ?_
        · refine Imp.to' (fun _ => trivial) (by simp [boxT, rowR, rowI, dRow, dInts, dRows, dNum, sigN, hsl]) (by simp [boxT, rowR, rowI, dRow, dInts, dRows, dNum, sigN, hsl])
        · intro i hi
          refine AW_rg (tyOf_good _) (fun _ => trivial) [1, 3, 4, 5, 6, 7, 8, 24, 25, 37, 38, 39, 40] [1, 17, 32, 63] fun K' hK' => ?_
          repeat (refine sxf_next fun K2 hK2 => ?_; simp [boxT, rowR, rowI]; (repeat (refine ⟨by omega, ?_⟩)); refine hK2 _ ?_; clear hK2 K2)
          first | refine sxf_nil (hK' _ ?_) | (refine sxf_next fun K2 hK2 => ?_; clear hK2 hK'; simp [boxT, rowR, rowI]; fail "STUCK")
          refine AW.st (by simp [boxT, rowR, rowI]; rfl) ?_
          clear hK' K'
          refine AW_then fun K5 hK5 => ?_
          refine AW_cond' (b := i < t.next[s].length) (by simp [D.le, D.le.go, takeMap]) (fun hc => ?_) (fun hc => ?_)
          · have hil : i < t.next[s].length := hc
            have hn1 := ok.nextLen s hsl'
            have hn2 := ok.tellsLen s hsl'
            rw [hgn] at hn1
            rw [hgt] at hn2
            have hti : i < t.tells[s].length := by omega
            obtain ⟨hx0, hx1⟩ := ok.there s hsl' t.next[s][i] (by simp [hsl''])
            have hx2 : t.next[s][i] < (iter t m).length := by rw [hlen]; exact hx1
            have hx3 : t.next[s][i].toNat < (iter t m).length := by omega
            have hsg := sigN_succ t (iter t m) s i
            have hsgl := sigN_len t (iter t m) s i
            have hin := ok.ins
            have hi64 : t.next[s].length ≤ 64 := by omega
            refine AW_skip (hK5 _ ?_)
            refine AW_then fun K6 hK6 => ?_
            refine AW_block ?_
            refine AW_rg (tyOf_good _) (fun _ => trivial) [1, 3, 4, 5, 6, 7, 8, 9, 10, 24, 25, 37, 38, 39] [1, 17, 32, 63] fun K' hK' => ?_
            repeat (refine sxf_next fun K2 hK2 => ?_; simp [dRow, dInts, hil]; (repeat (refine ⟨by omega, ?_⟩)); refine hK2 _ ?_; clear hK2 K2)
            first | refine sxf_nil (hK' _ ?_) | (refine sxf_next fun K2 hK2 => ?_; clear hK2 hK'; simp [dRow, dInts, hil]; fail "STUCK")
            refine AW.st (by simp [dRow, dInts, hil]; rfl) ?_
            clear hK' K'
            refine AW_rde (tyOf_good _) (by kernel_rfl) (by kernel_rfl) fun K' hK' => ?_
            repeat (refine sxd_next fun K2 hK2 => ?_; simp [dRows, dRow, dInts, hT, hti, hx0, hx2, hx3, takeMap]; (repeat (refine ⟨by omega, ?_⟩)); refine hK2 _ ?_; clear hK2 K2)
            first | refine sxd_nil (hK' _ ?_) | (refine sxd_next fun K2 hK2 => ?_; clear hK2 hK'; simp [dRows, dRow, dInts, hT, hti, hx0, hx2, hx3, takeMap]; fail "STUCK")
            clear hK' K'
            refine hK6 _ (AW.norm (fun _ => trivial) [1, 3, 4, 5, 6, 7, 8, 24, 25, 37, 38, 39] [1, 17, 32, 63] (AW.st (by simp [dRows, dRow, dInts, hT, hti, hx0, hx2, hx3, takeMap]; rfl) ?_))
            refine AW_re (tyOf_good _) (fun _ => trivial) fun K' hK' => ?_
            repeat (refine sxf_next fun K2 hK2 => ?_; simp; (repeat (refine ⟨by omega, ?_⟩)); refine hK2 _ ?_; clear hK2 K2)
            first | refine sxf_nil (hK' _ ?_) | (refine sxf_next fun K2 hK2 => ?_; clear hK2 hK'; simp; fail "STUCK")
            clear hK' K'
            try simp only [thn, inb]
            refine Again.mk (i + 1) (by omega) (by omega) ?_
            refine Imp.to' (fun _ => trivial) (by simp [boxT, rowR, rowI, dRow, dInts, dRows, dNum, hsg, hT, hti, hx3, hil, hsl'', takeMap]) (by simp [boxT, rowR, rowI, dRow, dInts, dRows, dNum, hsg, hT, hti, hx3, hil, hsl'', takeMap])
          · have hil : i = t.next[s].length := by omega
            subst hil
            have hsig : sig t (iter t m) s = sigN t (iter t m) s t.next[s].length := by unfold sig; rw [hgn]
            have hsgl := sigN_len t (iter t m) s t.next[s].length
            refine AW_exit (hK4 _ ?_)
            refine AW_re (tyOf_good _) (fun _ => trivial) fun K' hK' => ?_
            repeat (refine sxf_next fun K2 hK2 => ?_; simp [rowI, rowR, takeMap, takeR]; (repeat (refine ⟨by omega, ?_⟩)); refine hK2 _ ?_; clear hK2 K2)
            first | refine sxf_nil (hK' _ ?_) | (refine sxf_next fun K2 hK2 => ?_; clear hK2 hK'; simp [rowI, rowR, takeMap, takeR]; fail "STUCK")
            clear hK' K'
            refine hK3 _ (AW.norm (fun _ => trivial) [1, 3, 4, 5, 6, 24, 25] [1, 17, 63] (AW.st (by simp [rowI, rowR, takeMap, takeR]; rfl) ?_))
            refine AW_re (tyOf_good _) (fun _ => trivial) fun K' hK' => ?_
            repeat (refine sxf_next fun K2 hK2 => ?_; simp; (repeat (refine ⟨by omega, ?_⟩)); refine hK2 _ ?_; clear hK2 K2)
            first | refine sxf_nil (hK' _ ?_) | (refine sxf_next fun K2 hK2 => ?_; clear hK2 hK'; simp; fail "STUCK")
            clear hK' K'
            try simp only [thn, inb]
            refine Again.mk (s + 1) (by omega) (by omega) ?_
            refine Imp.to' (fun _ => trivial) (by simp [boxT, rowR, rowI, dRow, dInts, dRows, dNum, List.range_succ, hsig, takeR]) (by simp [boxT, rowR, rowI, dRow, dInts, dRows, dNum, List.range_succ, hsig, takeR])
      · refine AW_exit (hK1 _ ?_)
        have hsn' : s = t.next.length := by omega
        subst hsn'
        refine AW.imp (Imp.freeze 63 (fun _ => trivial)) ?_
        refine AW.st (by simp [rowR, boxT, takeR]; rfl) ?_
        have hin := ok.ins
        have hsl : ∀ r ∈ (List.range t.n).map (sig t (iter t m)), r.length < 2^40 := by
          intro r hr
          obtain ⟨s, hs, rfl⟩ := List.mem_map.1 hr
          have hs := List.mem_range.1 hs
          have h1 := ok.nextLen s hs
          have h2 := sigN_len t (iter t m) s (t.next.getD s []).length
          unfold sig
          omega
        have hnl : (nextF t (iter t m)).length = t.next.length := by unfold nextF; rw [numberF_len]; simp [Tab.n]
        refine AW_rg (tyOf_good _) (fun _ => trivial) [1, 3, 4, 5, 11] [1, 17] fun K' hK' => ?_
        repeat (refine sxf_next fun K2 hK2 => ?_; simp [rowR, boxT, dRows, Tab.n]; (repeat (refine ⟨by omega, ?_⟩)); refine hK2 _ ?_; clear hK2 K2)
        refine sxf_next fun K2 hK2 => ?_
        simp [rowR, boxT, dRows, Tab.n]
        refine callK.data (number_spec G ((List.range t.n).map (sig t (iter t m))) (by simp [Tab.n]; omega) hsl) (by simp; rfl) (by first | exact D.leGo_refl _ | simp [takeMap, List.map_map, Function.comp_def, D.le, D.le.go, D.le_refl, D.leGo_refl, rowR, boxT, dRows, Tab.n]) ?_
        refine hK2 _ ?_
        clear hK2 K2
        simp only [putd, upd_lst]
        repeat (refine sxf_next fun K2 hK2 => ?_; simp [rowR, boxT, dRows, Tab.n]; (repeat (refine ⟨by omega, ?_⟩)); refine hK2 _ ?_; clear hK2 K2)
        first | refine sxf_nil (hK' _ ?_) | (refine sxf_next fun K2 hK2 => ?_; clear hK2 hK'; simp [rowR, boxT, dRows, Tab.n]; fail "STUCK")
        refine AW.st (by simp [rowR, boxT, dRows, Tab.n]; rfl) ?_
        clear hK' K'
        refine AW_then fun K7 hK7 => ?_
        refine AW_rg (tyOf_good _) (fun _ => trivial) [1, 3, 4, 11, 69] [1, 17] fun K' hK' => ?_
        repeat (refine sxf_next fun K2 hK2 => ?_; simp [boxT]; (repeat (refine ⟨by omega, ?_⟩)); refine hK2 _ ?_; clear hK2 K2)
        refine sxf_next fun K2 hK2 => ?_
        simp [boxT]
        refine callK.data (equal_spec G none none (nextF t (iter t m)) (iter t m) (by omega)) (by simp; rfl) (by first | exact D.leGo_refl _ | simp [takeMap, List.map_map, Function.comp_def, D.le, D.le.go, D.le_refl, D.leGo_refl, boxT]) ?_
        refine hK2 _ ?_
        clear hK2 K2
        simp only [putd, upd_lst]
        repeat (refine sxf_next fun K2 hK2 => ?_; simp [boxT]; (repeat (refine ⟨by omega, ?_⟩)); refine hK2 _ ?_; clear hK2 K2)
        first | refine sxf_nil (hK' _ ?_) | (refine sxf_next fun K2 hK2 => ?_; clear hK2 hK'; simp [boxT]; fail "STUCK")
        refine AW.st (by simp [boxT]; rfl) ?_
        clear hK' K'
        refine AW_cond _ rfl (fun hb => ?_) (fun hb => ?_)
        · have he : nextF t (iter t m) = iter t m := by simpa using hb
          have hmk : m = k := by
            rcases Nat.lt_or_ge m k with h | h
            · exact absurd he (hs.2 m h)
            · omega
          subst hmk
          refine AW_rg (tyOf_good _) (fun _ => trivial) [2] [1, 17] fun K' hK' => ?_
          repeat (refine sxf_next fun K2 hK2 => ?_; simp [boxT]; (repeat (refine ⟨by omega, ?_⟩)); refine hK2 _ ?_; clear hK2 K2)
          first | refine sxf_nil (hK' _ ?_) | (refine sxf_next fun K2 hK2 => ?_; clear hK2 hK'; simp [boxT]; fail "STUCK")
          refine AW.st (by simp [boxT]; rfl) ?_
          clear hK' K'
          refine AW_ret ?_
          simp [D.le, D.le.go, takeMap, dRows, dRow, dInts, takeR]
        · have hne : nextF t (iter t m) ≠ iter t m := by simpa using hb
          have hmk : m < k := by
            rcases Nat.lt_or_ge m k with h | h
            · exact h
            · have : m = k := by omega
              subst this
              exact absurd hs.1 hne
          refine AW_skip (hK7 _ ?_)
          refine AW_re (tyOf_good _) (fun _ => trivial) fun K' hK' => ?_
          repeat (refine sxf_next fun K2 hK2 => ?_; simp [dRow, dInts]; (repeat (refine ⟨by omega, ?_⟩)); refine hK2 _ ?_; clear hK2 K2)
          first | refine sxf_nil (hK' _ ?_) | (refine sxf_next fun K2 hK2 => ?_; clear hK2 hK'; simp [dRow, dInts]; fail "STUCK")
          clear hK' K'
          try simp only [thn, inb]
          refine Again.mk (m + 1) (by omega) (by omega) ?_
          refine Imp.to' (fun _ => trivial) (by simp [boxT, rowR, rowI, dRow, dInts, dRows, dNum, List.range_succ, List.take_of_length_le, iter, nextF, Tab.n]) (by simp [boxT, rowR, rowI, dRow, dInts, dRows, dNum, List.range_succ, List.take_of_length_le, iter, nextF, Tab.n])
#print axioms rounds_spec
end Go.Proofs.YtoikggboakojlaaDoor

/-
  Plain facts of tables: numbers of lists, rounds, the table of blocks.
-/
namespace Go.Proofs.YtoikggboakojlaaDoor

theorem idx_neg {α : Type} {p : α → Bool} {l : List α} (h : idx p l < 0) : ∀ x ∈ l, p x = false := by
  unfold idx at h
  split at h
  · omega
  · rename_i hn
    rw [List.findIdx?_eq_none_iff] at hn
    intro x hx
    simpa using hn x hx
theorem idx_pos {α : Type} {p : α → Bool} {l : List α} (h : ¬ idx p l < 0) : ∃ k, ∃ hk : k < l.length, idx p l = (k : Int) ∧ p l[k] = true := by
  unfold idx at h ⊢
  split
  · rename_i i hi
    rw [List.findIdx?_eq_some_iff_getElem] at hi
    obtain ⟨h1, h2, _⟩ := hi
    exact ⟨i, h1, rfl, h2⟩
  · rename_i hn
    simp [hn] at h

theorem getD_snoc {α : Type} (l : List α) (x d : α) (i : Nat) : (l ++ [x]).getD i d = if i < l.length then l.getD i d else if i = l.length then x else d := by
  simp only [List.getD_eq_getElem?_getD, List.getElem?_append]
  split
  · rfl
  · split
    · subst_vars; simp
    · rename_i h1 h2
      have : i - l.length = (i - l.length - 1) + 1 := by omega
      rw [this]; rfl

structure NumInv (L : List (List Int)) (n : Nat) (st : List (List Int) × List Int) : Prop where
  inj : ∀ k k', k < st.1.length → k' < st.1.length → st.1.getD k [] = st.1.getD k' [] → k = k'
  len : st.2.length = n
  hit : ∀ i, i < n → ∃ k, k < st.1.length ∧ st.2.getD i 0 = (k : Int) ∧ st.1.getD k [] = L.getD i []
  src : ∀ k, k < st.1.length → ∃ i, i < n ∧ st.1.getD k [] = L.getD i []

theorem num_inv {L : List (List Int)} : ∀ {n : Nat}, n ≤ L.length → NumInv L n (numSt L n)
  | 0, _ => ⟨by simp [numSt], by simp [numSt], fun i hi => by omega, by simp [numSt]⟩
  | n + 1, h => by
    have ih := num_inv (L := L) (n := n) (by omega)
    rw [numSt_succ (by omega)]
    generalize numSt L n = st at ih
    obtain ⟨seen, out⟩ := st
    obtain ⟨inj, len, hit, src⟩ := ih
    dsimp only at inj len hit src
    have hn : L.getD n [] = L[n] := by simp [List.getD_eq_getElem?_getD, show n < L.length by omega]
    unfold numStep
    dsimp only
    split
    · rename_i hneg
      have hnew : ∀ k, k < seen.length → seen.getD k [] ≠ L[n] := by
        intro k hk
        have := idx_neg hneg seen[k] (by simp)
        rw [List.getD_eq_getElem?_getD]
        simpa [hk] using this
      refine ⟨?_, by simp [len], ?_, ?_⟩
      · intro k k' hk hk' he
        simp only [List.length_append, List.length_cons, List.length_nil] at hk hk'
        simp only [getD_snoc] at he
        split at he <;> split at he <;> first | omega | skip
        · exact inj k k' (by assumption) (by assumption) he
        · split at he
          · exact absurd he (hnew k (by assumption))
          · omega
        · split at he
          · exact absurd he.symm (hnew k' (by assumption))
          · omega
      · intro i hi
        rcases Nat.lt_or_ge i n with h' | h'
        · obtain ⟨k, hk, h1, h2⟩ := hit i h'
          refine ⟨k, by simp; omega, ?_, ?_⟩
          · rw [getD_snoc, if_pos (by omega)]; exact h1
          · rw [getD_snoc, if_pos hk]; exact h2
        · have : i = n := by omega
          subst this
          refine ⟨seen.length, by simp, ?_, ?_⟩
          · rw [getD_snoc, if_neg (by omega), if_pos (by omega)]
          · rw [getD_snoc, if_neg (by omega), if_pos rfl, hn]
      · intro k hk
        simp only [List.length_append, List.length_cons, List.length_nil] at hk
        rcases Nat.lt_or_ge k seen.length with h' | h'
        · obtain ⟨i, hi, he⟩ := src k h'
          exact ⟨i, by omega, by rw [getD_snoc, if_pos h']; exact he⟩
        · exact ⟨n, by omega, by rw [getD_snoc, if_neg (by omega), if_pos (by omega), hn]⟩
    · rename_i hneg
      obtain ⟨q, hq, hqi, hqe⟩ := idx_pos hneg
      have hqe : seen[q] = L[n] := by simpa using hqe
      refine ⟨inj, by simp [len], ?_, ?_⟩
      · intro i hi
        rcases Nat.lt_or_ge i n with h' | h'
        · obtain ⟨k, hk, h1, h2⟩ := hit i h'
          exact ⟨k, hk, by dsimp only; rw [getD_snoc, if_pos (by omega)]; exact h1, h2⟩
        · have : i = n := by omega
          subst this
          refine ⟨q, hq, ?_, ?_⟩
          · dsimp only
            rw [getD_snoc, if_neg (by omega), if_pos (by omega)]; exact hqi
          · dsimp only
            rw [hn, ← hqe, List.getD_eq_getElem?_getD]; simp [hq]
      · intro k hk
        obtain ⟨i, hi, he⟩ := src k hk
        exact ⟨i, by omega, he⟩

/-- How many lists there are among the first ones. -/
def dn (L : List (List Int)) (n : Nat) : Nat := (numSt L n).1.length

theorem num_stay {L : List (List Int)} {n : Nat} : ∀ (d : Nat), n + d ≤ L.length → ∀ i, i < n → (numSt L (n + d)).2.getD i 0 = (numSt L n).2.getD i 0
  | 0, _, _, _ => rfl
  | d + 1, h, i, hi => by
    rw [← num_stay d (by omega) i hi, ← Nat.add_assoc, numSt_succ (by omega)]
    have hl := (num_inv (L := L) (n := n + d) (by omega)).len
    unfold numStep
    split <;> (dsimp only; rw [getD_snoc, if_pos (by omega)])
theorem numberF_at {L : List (List Int)} {n i : Nat} (h : n ≤ L.length) (hi : i < n) : (numberF L).getD i 0 = (numSt L n).2.getD i 0 := by
  have := num_stay (L := L) (n := n) (L.length - n) (by omega) i hi
  rw [show n + (L.length - n) = L.length by omega] at this
  exact this

theorem number_same {L : List (List Int)} {i j : Nat} (hi : i < L.length) (hj : j < L.length) : (numberF L).getD i 0 = (numberF L).getD j 0 ↔ L.getD i [] = L.getD j [] := by
  have h := num_inv (L := L) (n := L.length) (Nat.le_refl _)
  obtain ⟨k, hk, h1, h2⟩ := h.hit i hi
  obtain ⟨k', hk', h1', h2'⟩ := h.hit j hj
  unfold numberF
  rw [h1, h1', ← h2, ← h2']
  constructor
  · intro e
    have : k = k' := by omega
    rw [this]
  · intro e
    rw [h.inj k k' hk hk' e]

theorem number_new {L : List (List Int)} {n : Nat} (h : n < L.length) (hnew : ∀ i, i < n → L.getD i [] ≠ L.getD n []) : dn L (n + 1) = dn L n + 1 ∧ (numberF L).getD n 0 = (dn L n : Int) := by
  have hs := numSt_succ h
  have inv := num_inv (L := L) (n := n) (by omega)
  have hn : L.getD n [] = L[n] := by simp [List.getD_eq_getElem?_getD, h]
  have hidx : idx (fun x => x == L[n]) (numSt L n).1 < 0 := by
    apply Classical.byContradiction
    intro hc
    obtain ⟨q, hq, _, hqe⟩ := idx_pos hc
    obtain ⟨i, hi, he⟩ := inv.src q hq
    apply hnew i hi
    rw [hn, ← he, List.getD_eq_getElem?_getD]
    simpa [hq] using hqe
  have hl := inv.len
  unfold numStep at hs
  rw [if_pos hidx] at hs
  constructor
  · simp [dn, hs]
  · rw [numberF_at (n := n + 1) (by omega) (by omega), hs]
    dsimp only
    rw [getD_snoc, if_neg (by omega), if_pos (by omega)]
    rfl
theorem number_old {L : List (List Int)} {n i : Nat} (h : n < L.length) (hi : i < n) (he : L.getD i [] = L.getD n []) : dn L (n + 1) = dn L n ∧ ∃ k : Nat, (numberF L).getD n 0 = (k : Int) ∧ k < dn L n := by
  have hs := numSt_succ h
  have inv := num_inv (L := L) (n := n) (by omega)
  obtain ⟨k, hk, h1, h2⟩ := inv.hit i hi
  have hn : L.getD n [] = L[n] := by simp [List.getD_eq_getElem?_getD, h]
  have hidx : ¬ idx (fun x => x == L[n]) (numSt L n).1 < 0 := by
    intro hc
    have := idx_neg hc ((numSt L n).1[k]) (by simp)
    rw [he, hn, List.getD_eq_getElem?_getD] at h2
    simp [hk] at h2
    simp [h2] at this
  refine ⟨?_, k, ?_, hk⟩
  · unfold numStep at hs
    rw [if_neg hidx] at hs
    simp [dn, hs]
  · rw [← (number_same (L := L) (i := i) (j := n) (by omega) h).2 he, numberF_at (n := n) (by omega) hi, h1]

theorem number_le {L : List (List Int)} {n i : Nat} (hn : n ≤ L.length) (hi : i < n) : ∃ k : Nat, (numberF L).getD i 0 = (k : Int) ∧ k < dn L n := by
  obtain ⟨k, hk, h1, _⟩ := (num_inv hn).hit i hi
  exact ⟨k, by rw [numberF_at hn hi, h1], hk⟩
theorem dn_le {L : List (List Int)} {n : Nat} (hn : n ≤ L.length) : dn L n ≤ n := (numSt_len hn).1

theorem number_congr {L M : List (List Int)} (hl : L.length = M.length) (h : ∀ i j, i < L.length → j < L.length → (L.getD i [] = L.getD j [] ↔ M.getD i [] = M.getD j [])) : numberF L = numberF M := by
  have key : ∀ n, n ≤ L.length → dn L n = dn M n ∧ ∀ i, i < n → (numberF L).getD i 0 = (numberF M).getD i 0 := by
    intro n
    induction n with
    | zero => intro _; exact ⟨rfl, fun i hi => by omega⟩
    | succ n ih =>
      intro hn
      obtain ⟨h1, h2⟩ := ih (by omega)
      by_cases hnew : ∀ i, i < n → L.getD i [] ≠ L.getD n []
      · have hnew' : ∀ i, i < n → M.getD i [] ≠ M.getD n [] := fun i hi e => hnew i hi ((h i n (by omega) (by omega)).2 e)
        obtain ⟨a1, a2⟩ := number_new (by omega) hnew
        obtain ⟨b1, b2⟩ := number_new (by omega) hnew'
        refine ⟨by omega, fun i hi => ?_⟩
        rcases Nat.lt_or_ge i n with h' | h'
        · exact h2 i h'
        · have : i = n := by omega
          subst this
          rw [a2, b2, h1]
      · have ⟨i, hi⟩ := Classical.not_forall.1 hnew
        have ⟨hi, he⟩ := Classical.not_imp.1 hi
        have he := Classical.not_not.1 he
        have he' := (h i n (by omega) (by omega)).1 he
        have a1 := (number_old (by omega) hi he).1
        have b1 := (number_old (L := M) (by omega) hi he').1
        refine ⟨by omega, fun j hj => ?_⟩
        rcases Nat.lt_or_ge j n with h' | h'
        · exact h2 j h'
        · have : j = n := by omega
          subst this
          rw [← (number_same (L := L) (i := i) (j := j) (by omega) (by omega)).2 he, ← (number_same (L := M) (i := i) (j := j) (by omega) (by omega)).2 he']
          exact h2 i hi
  apply List.ext_getElem
  · rw [numberF_len, numberF_len, hl]
  · intro i h1 h2
    have := (key L.length (Nat.le_refl _)).2 i (by rw [numberF_len] at h1; exact h1)
    simpa [List.getD_eq_getElem?_getD, h1, h2] using this

/-- Lists that are all unlike are numbered 0, 1, 2, .. -/
theorem number_id {L : List (List Int)} (h : ∀ i j, i < L.length → j < L.length → L.getD i [] = L.getD j [] → i = j) : ∀ i, i < L.length → (numberF L).getD i 0 = (i : Int) := by
  have key : ∀ n, n ≤ L.length → dn L n = n := by
    intro n
    induction n with
    | zero => intro _; rfl
    | succ n ih =>
      intro hn
      rw [(number_new (L := L) (n := n) (by omega) (fun i hi e => by have := h i n (by omega) (by omega) e; omega)).1, ih (by omega)]
  intro i hi
  rw [(number_new (L := L) (n := i) hi (fun j hj e => by have := h j i (by omega) (by omega) e; omega)).2, key i (by omega)]
end Go.Proofs.YtoikggboakojlaaDoor

/-
  Plain facts of tables: the rounds come to an end; which states are alike.
-/
namespace Go.Proofs.YtoikggboakojlaaDoor

def nx (t : Tab) (s c : Nat) : Nat := ((t.next.getD s []).getD c 0).toNat
def te (t : Tab) (s c : Nat) : Int := (t.tells.getD s []).getD c 0
def wd (t : Tab) : Nat := (t.next.getD 0 []).length
/-- After so many rounds two states have the same number. -/
def Al (t : Tab) (k i j : Nat) : Prop := (iter t k).getD i 0 = (iter t k).getD j 0

theorem Ok.nx_lt {t : Tab} (ok : Ok t) {s c : Nat} (hs : s < t.n) (hc : c < wd t) : nx t s c < t.n := by
  have hl := ok.nextLen s hs
  have hc : c < (t.next.getD 0 []).length := hc
  rw [← hl] at hc
  have hth := ok.there s hs
  unfold nx
  generalize t.next.getD s [] = r at hc hth
  have hm : r.getD c 0 ∈ r := by
    rw [List.getD_eq_getElem?_getD, List.getElem?_eq_getElem hc]
    exact List.getElem_mem hc
  have := hth _ hm
  omega

theorem sigN_same (t : Tab) (now : List Int) (s s' : Nat) : ∀ i, sigN t now s i = sigN t now s' i ↔ now.getD s 0 = now.getD s' 0 ∧ ∀ c, c < i → te t s c = te t s' c ∧ now.getD (nx t s c) 0 = now.getD (nx t s' c) 0
  | 0 => by simp [sigN]
  | i + 1 => by
    rw [sigN_succ, sigN_succ]
    constructor
    · intro h
      obtain ⟨h1, h2⟩ := List.append_inj' h rfl
      obtain ⟨h3, h4⟩ := (sigN_same t now s s' i).1 h1
      refine ⟨h3, fun c hc => ?_⟩
      rcases Nat.lt_or_ge c i with h' | h'
      · exact h4 c h'
      · have : c = i := by omega
        subst this
        simp only [List.cons.injEq, and_true] at h2
        exact h2
    · rintro ⟨h3, h4⟩
      rw [(sigN_same t now s s' i).2 ⟨h3, fun c hc => h4 c (by omega)⟩]
      obtain ⟨h5, h6⟩ := h4 i (by omega)
      unfold te at h5
      unfold nx at h6
      rw [h5, h6]

theorem sig_same {t : Tab} (ok : Ok t) (now : List Int) {s s' : Nat} (hs : s < t.n) (hs' : s' < t.n) :
    sig t now s = sig t now s' ↔ now.getD s 0 = now.getD s' 0 ∧ ∀ c, c < wd t → te t s c = te t s' c ∧ now.getD (nx t s c) 0 = now.getD (nx t s' c) 0 := by
  unfold sig
  rw [ok.nextLen s hs, ok.nextLen s' hs']
  exact sigN_same t now s s' _

theorem getD_sigs (t : Tab) (now : List Int) {s : Nat} (hs : s < t.n) : ((List.range t.n).map (sig t now)).getD s [] = sig t now s := by
  rw [List.getD_eq_getElem?_getD]
  simp [hs]

theorem al_succ {t : Tab} (ok : Ok t) {k i j : Nat} (hi : i < t.n) (hj : j < t.n) : Al t (k + 1) i j ↔ Al t k i j ∧ ∀ c, c < wd t → te t i c = te t j c ∧ Al t k (nx t i c) (nx t j c) := by
  unfold Al
  rw [iter, nextF, number_same (by simpa using hi) (by simpa using hj), getD_sigs t _ hi, getD_sigs t _ hj, sig_same ok _ hi hj]
theorem al_zero {t : Tab} {i j : Nat} (hi : i < t.n) (hj : j < t.n) : Al t 0 i j := by
  simp [Al, iter, List.getD_eq_getElem?_getD, hi, hj]
theorem al_down {t : Tab} (ok : Ok t) {i j : Nat} (hi : i < t.n) (hj : j < t.n) {k : Nat} : ∀ d, Al t (k + d) i j → Al t k i j
  | 0, h => h
  | d + 1, h => al_down ok hi hj d ((al_succ ok hi hj).1 h).1

/-- Rounds that part no more stay. -/
theorem iter_stay {t : Tab} {k : Nat} (h : nextF t (iter t k) = iter t k) : ∀ d, iter t (k + d) = iter t k
  | 0 => rfl
  | d + 1 => by rw [← Nat.add_assoc, iter, iter_stay h d, h]

theorem stable {t : Tab} (ok : Ok t) {k : Nat} (h : ∀ i j, i < t.n → j < t.n → Al t k i j → Al t (k + 1) i j) : nextF t (iter t k) = iter t k := by
  have hiff : ∀ i j, i < t.n → j < t.n → (Al t (k + 1) i j ↔ Al t k i j) := fun i j hi hj => ⟨al_down ok hi hj 1, h i j hi hj⟩
  have hs : ∀ m i j, i < t.n → j < t.n → (((List.range t.n).map (sig t (iter t m))).getD i [] = ((List.range t.n).map (sig t (iter t m))).getD j [] ↔ Al t (m + 1) i j) := by
    intro m i j hi hj
    unfold Al
    rw [iter, nextF, number_same (by simpa using hi) (by simpa using hj)]
  cases k with
  | zero =>
    apply List.ext_getElem
    · simp [nextF, numberF_len, iter]
    · intro i h1 h2
      have hi : i < t.n := by simpa [iter] using h2
      have h0 : 0 < t.n := by omega
      have e : Al t 1 i 0 := (hiff i 0 hi h0).2 (al_zero hi h0)
      have e0 : (iter t 1).getD 0 0 = 0 := by
        have := (number_new (L := (List.range t.n).map (sig t (iter t 0))) (n := 0) (by simpa using h0) (fun i hi => by omega)).2
        simpa [iter, nextF, dn, numSt] using this
      have h1' : i < (iter t 1).length := h1
      unfold Al at e
      rw [e0, List.getD_eq_getElem?_getD] at e
      have e' : (iter t 1)[i] = 0 := by simpa [h1'] using e
      have e2 : (iter t 0)[i] = 0 := by simp [iter]
      rw [e2, ← e']
      rfl
  | succ k =>
    show numberF _ = numberF _
    refine number_congr (by simp) fun i j hi hj => ?_
    have hi : i < t.n := by simpa using hi
    have hj : j < t.n := by simpa using hj
    rw [hs _ i j hi hj, hs _ i j hi hj]
    exact hiff i j hi hj

theorem countP_eq {α : Type} {p q : α → Bool} : ∀ {l : List α}, (∀ x ∈ l, p x = true → q x = true) → l.countP q ≤ l.countP p → ∀ x ∈ l, q x = true → p x = true
  | [], _, _, x, hx, _ => by simp at hx
  | y :: l, h, hc, x, hx, hq => by
    have hm : l.countP p ≤ l.countP q := List.countP_mono_left fun x hx => h x (by simp [hx])
    have hy := h y (by simp)
    simp only [List.countP_cons] at hc
    have h2 : l.countP q ≤ l.countP p ∧ (q y = true → p y = true) := by
      cases hpy : p y <;> cases hqy : q y <;> simp_all <;> omega
    rcases List.mem_cons.1 hx with rfl | hx
    · exact h2.2 hq
    · exact countP_eq (fun x hx => h x (by simp [hx])) h2.1 x hx hq

def pairs (n : Nat) : List (Nat × Nat) := (List.range n).flatMap fun i => (List.range n).map fun j => (i, j)
theorem mem_pairs {n : Nat} {p : Nat × Nat} : p ∈ pairs n ↔ p.1 < n ∧ p.2 < n := by
  unfold pairs
  simp only [List.mem_flatMap, List.mem_range, List.mem_map]
  constructor
  · rintro ⟨i, hi, j, hj, rfl⟩; exact ⟨hi, hj⟩
  · rintro ⟨h1, h2⟩; exact ⟨p.1, h1, p.2, h2, rfl⟩
theorem flat_len {α β : Type} (f : α → List β) (n : Nat) : ∀ (l : List α), (∀ x ∈ l, (f x).length = n) → (l.flatMap f).length = l.length * n
  | [], _ => by simp
  | x :: l, h => by
    rw [List.flatMap_cons, List.length_append, h x (by simp), flat_len f n l (fun y hy => h y (by simp [hy])), List.length_cons, Nat.add_mul, Nat.one_mul, Nat.add_comm]
theorem pairs_len (n : Nat) : (pairs n).length = n * n := by
  unfold pairs
  rw [flat_len _ n _ (by simp)]
  simp

open Classical in
noncomputable def cnt (t : Tab) (k : Nat) : Nat := (pairs t.n).countP fun p => decide (Al t k p.1 p.2)

theorem cnt_lt {t : Tab} (ok : Ok t) {k : Nat} (h : nextF t (iter t k) ≠ iter t k) : cnt t (k + 1) < cnt t k := by
  classical
  apply Classical.byContradiction
  intro hc
  apply h
  refine stable ok fun i j hi hj ha => ?_
  unfold cnt at hc
  have := countP_eq (p := fun p => decide (Al t (k + 1) p.1 p.2)) (q := fun p => decide (Al t k p.1 p.2)) (l := pairs t.n) (fun p hp hx => by
    have hp := mem_pairs.1 hp
    simp only [decide_eq_true_eq] at hx ⊢
    exact al_down ok hp.1 hp.2 1 hx) (by omega) (i, j) (mem_pairs.2 ⟨hi, hj⟩) (by simpa using ha)
  simpa using this

theorem first_such (P : Nat → Prop) : ∀ N, (∃ k, k ≤ N ∧ P k) → ∃ k, k ≤ N ∧ P k ∧ ∀ j, j < k → ¬ P j
  | 0, ⟨k, hk, h⟩ => ⟨0, by omega, by rwa [show k = 0 by omega] at h, fun j hj => by omega⟩
  | N + 1, ⟨k, hk, h⟩ => by
    by_cases hx : ∃ k, k ≤ N ∧ P k
    · obtain ⟨k, hk, r⟩ := first_such P N hx
      exact ⟨k, by omega, r⟩
    · exact ⟨k, hk, h, fun j hj hp => hx ⟨j, by omega, hp⟩⟩

theorem stops_ex {t : Tab} (ok : Ok t) : ∃ k, k ≤ t.n * t.n ∧ Stops t k := by
  refine first_such (fun k => nextF t (iter t k) = iter t k) _ ?_
  apply Classical.byContradiction
  intro hc
  have hall : ∀ k, k ≤ t.n * t.n → nextF t (iter t k) ≠ iter t k := fun k hk e => hc ⟨k, hk, e⟩
  have key : ∀ k, k ≤ t.n * t.n + 1 → cnt t k + k ≤ t.n * t.n := by
    intro k
    induction k with
    | zero =>
      intro _
      have h1 : cnt t 0 ≤ (pairs t.n).length := List.countP_le_length
      rw [pairs_len] at h1
      omega
    | succ k ih =>
      intro hk
      have h1 := ih (by omega)
      have h2 := cnt_lt ok (hall k (by omega))
      omega
  have := key (t.n * t.n + 1) (Nat.le_refl _)
  omega
theorem stops_small {t : Tab} (ok : Ok t) : ∃ k, k < 2^20 ∧ Stops t k := by
  obtain ⟨k, hk, h⟩ := stops_ex ok
  refine ⟨k, ?_, h⟩
  have h1 := ok.most
  have : t.n * t.n ≤ 500 * 500 := Nat.mul_le_mul h1 h1
  omega
theorem stops_one {t : Tab} {k k' : Nat} (h : Stops t k) (h' : Stops t k') : k = k' := by
  rcases Nat.lt_trichotomy k k' with hlt | rfl | hlt
  · exact absurd h.1 (h'.2 k hlt)
  · rfl
  · exact absurd h'.1 (h.2 k' hlt)

/-- What the rounds come to: alike now, then they go on so. -/
theorem al_fix {t : Tab} (ok : Ok t) {k : Nat} (h : nextF t (iter t k) = iter t k) {i j : Nat} (hi : i < t.n) (hj : j < t.n) (ha : Al t k i j) : ∀ c, c < wd t → te t i c = te t j c ∧ Al t k (nx t i c) (nx t j c) := by
  have : Al t (k + 1) i j := by unfold Al; rw [iter, h]; exact ha
  exact ((al_succ ok hi hj).1 this).2
theorem al_all {t : Tab} (ok : Ok t) {k : Nat} (h : nextF t (iter t k) = iter t k) {i j : Nat} (hi : i < t.n) (hj : j < t.n) (ha : Al t k i j) (m : Nat) : Al t m i j := by
  rcases Nat.le_total m k with hm | hm
  · exact al_down ok hi hj (k - m) (by rwa [show m + (k - m) = k by omega])
  · unfold Al
    rw [show m = k + (m - k) by omega, iter_stay h]
    exact ha
end Go.Proofs.YtoikggboakojlaaDoor

/-
  Plain facts of tables: which tables may be; the table of blocks; its own blocks are its states.
-/
namespace Go.Proofs.YtoikggboakojlaaDoor

theorem rowsF_none {t : Tab} : ∀ {n s : Nat}, rowsF t s n = none ↔ ∀ i, s ≤ i → i < s + n → rowF t i = none
  | 0, s => by simp only [rowsF, true_iff]; intro i h1 h2; omega
  | n + 1, s => by
    unfold rowsF
    constructor
    · intro h i h1 h2
      split at h
      · cases h
      · rename_i hn
        rcases Nat.lt_or_ge s i with h' | h'
        · exact rowsF_none.1 h i (by omega) (by omega)
        · rw [show i = s by omega]; exact hn
    · intro h
      rw [h s (by omega) (by omega)]
      exact rowsF_none.2 fun i h1 h2 => h i (by omega) (by omega)
theorem rowF_none {t : Tab} {s : Nat} : rowF t s = none ↔ (t.next.getD s []).length = (t.next.getD 0 []).length ∧ (t.tells.getD s []).length = (t.next.getD 0 []).length ∧ ∀ x ∈ t.next.getD s [], 0 ≤ x ∧ x < (t.n : Int) := by
  unfold rowF Tab.n
  split
  · rename_i h
    simp only [reduceCtorEq, false_iff]
    rintro ⟨h1, h2, _⟩
    rcases h with h | h
    · exact h h1
    · exact h h2
  · rename_i h
    have h1 : (t.next.getD s []).length = (t.next.getD 0 []).length := by
      apply Classical.byContradiction; intro e; exact h (.inl e)
    have h2 : (t.tells.getD s []).length = (t.next.getD 0 []).length := by
      apply Classical.byContradiction; intro e; exact h (.inr e)
    split
    · rename_i ha
      simp only [reduceCtorEq, false_iff]
      rintro ⟨_, _, h3⟩
      obtain ⟨x, hx, hb⟩ := List.any_eq_true.1 ha
      have := h3 x hx
      simp at hb
      omega
    · rename_i ha
      simp only [true_iff]
      refine ⟨h1, h2, fun x hx => ?_⟩
      have : ¬ ((decide (x < 0) || decide ((t.next.length : Int) ≤ x)) = true) := fun e => ha (List.any_eq_true.2 ⟨x, hx, e⟩)
      simp at this
      omega
theorem ok_iff {t : Tab} : checkF t = none ↔ Ok t := by
  unfold checkF
  constructor
  · intro h
    split at h
    · cases h
    · split at h
      · cases h
      · have hr := fun (i : Nat) (hi : i < t.n) => rowF_none.1 (rowsF_none.1 h i (by omega) (by unfold Tab.n at hi; omega))
        exact ⟨by unfold Tab.n; omega, by unfold Tab.n; omega, by omega, by unfold Tab.n; omega, fun s hs => (hr s hs).1, fun s hs => (hr s hs).2.1, fun s hs => (hr s hs).2.2⟩
  · intro ok
    have h1 := ok.pos
    have h2 := ok.most
    have h3 := ok.ins
    have h4 := ok.tells
    unfold Tab.n at h1 h2 h4
    rw [if_neg (by omega), if_neg (by omega)]
    exact rowsF_none.2 fun i h1 h2 => rowF_none.2 ⟨ok.nextLen i (by unfold Tab.n; omega), ok.tellsLen i (by unfold Tab.n; omega), ok.there i (by unfold Tab.n; omega)⟩

def leastStep (t : Tab) (l : List Int) (st : List (List Int) × List (List Int)) (s : Nat) : List (List Int) × List (List Int) :=
  if l.getD s 0 < (st.1.length : Int) then st else (st.1 ++ [(t.next.getD s []).map fun x => l.getD x.toNat 0], st.2 ++ [t.tells.getD s []])
def leastSt (t : Tab) (l : List Int) (n : Nat) : List (List Int) × List (List Int) := (List.range n).foldl (leastStep t l) ([], [])
def leastF (t : Tab) (l : List Int) : Tab := ⟨(leastSt t l t.n).1, (leastSt t l t.n).2⟩

theorem leastSt_succ (t : Tab) (l : List Int) (n : Nat) : leastSt t l (n + 1) = leastStep t l (leastSt t l n) n := by
  simp [leastSt, List.range_succ]

structure LeastInv (t : Tab) (l : List Int) (S : List (List Int)) (n : Nat) (st : List (List Int) × List (List Int)) : Prop where
  len : st.2.length = st.1.length
  cnt : st.1.length = dn S n
  row : ∀ q, q < st.1.length → ∃ s, s < n ∧ l.getD s 0 = (q : Int) ∧ st.1.getD q [] = (t.next.getD s []).map (fun x => l.getD x.toNat 0) ∧ st.2.getD q [] = t.tells.getD s []

theorem least_inv {t : Tab} {l : List Int} {S : List (List Int)} (hS : S.length = t.n) (hl : l = numberF S) : ∀ {n : Nat}, n ≤ t.n → LeastInv t l S n (leastSt t l n)
  | 0, _ => ⟨rfl, rfl, fun q hq => by simp [leastSt] at hq⟩
  | n + 1, h => by
    have ih := least_inv hS hl (n := n) (by omega)
    rw [leastSt_succ]
    generalize leastSt t l n = st at ih
    obtain ⟨N, T⟩ := st
    obtain ⟨len, cnt, row⟩ := ih
    dsimp only at len cnt row
    unfold leastStep
    dsimp only
    by_cases hnew : ∀ i, i < n → S.getD i [] ≠ S.getD n []
    · obtain ⟨a1, a2⟩ := number_new (by omega) hnew
      rw [← hl] at a2
      rw [if_neg (by omega)]
      refine ⟨by simp [len], by simp [cnt, a1], fun q hq => ?_⟩
      simp only [List.length_append, List.length_cons, List.length_nil] at hq
      by_cases hq' : q < N.length
      · obtain ⟨s, hs, r1, r2, r3⟩ := row q hq'
        refine ⟨s, by omega, r1, ?_, ?_⟩
        · rw [getD_snoc, if_pos hq']; exact r2
        · rw [getD_snoc, if_pos (by omega)]; exact r3
      · refine ⟨n, by omega, by omega, ?_, ?_⟩
        · rw [getD_snoc, if_neg hq', if_pos (by omega)]
        · rw [getD_snoc, if_neg (by omega), if_pos (by omega)]
    · have ⟨i, hi⟩ := Classical.not_forall.1 hnew
      have ⟨hi, he⟩ := Classical.not_imp.1 hi
      have he := Classical.not_not.1 he
      obtain ⟨a1, k, a2, a3⟩ := number_old (by omega) hi he
      rw [← hl] at a2
      rw [if_pos (by omega)]
      exact ⟨len, by rw [cnt, a1], fun q hq => by obtain ⟨s, hs, r⟩ := row q hq; exact ⟨s, by omega, r⟩⟩

/-- The table of blocks, of numbers that go on so. -/
structure LeastIs (t : Tab) (l : List Int) (u : Tab) : Prop where
  ok : Ok u
  le : u.n ≤ t.n
  wide : wd u = wd t
  rep : ∀ q, q < u.n → ∃ s, s < t.n ∧ l.getD s 0 = (q : Int) ∧ ∀ c, c < wd t → te u q c = te t s c ∧ ((nx u q c : Nat) : Int) = l.getD (nx t s c) 0
  blk : ∀ s, s < t.n → ∃ q, q < u.n ∧ l.getD s 0 = (q : Int)

theorem least_is {t : Tab} (ok : Ok t) {l : List Int} (h : nextF t l = l) : LeastIs t l (leastF t l) := by
  have hS : ((List.range t.n).map (sig t l)).length = t.n := by simp
  have hl : l = numberF ((List.range t.n).map (sig t l)) := h.symm
  have inv := least_inv hS hl (Nat.le_refl t.n)
  obtain ⟨len, cnt, row⟩ := inv
  generalize hSS : (List.range t.n).map (sig t l) = S at hS hl cnt
  have hu1 : (leastF t l).next = (leastSt t l t.n).1 := rfl
  have hu2 : (leastF t l).tells = (leastSt t l t.n).2 := rfl
  rw [← hu1, ← hu2] at len row
  rw [← hu1] at cnt
  have hn : (leastF t l).n = dn S t.n := cnt
  have blk : ∀ s, s < t.n → ∃ q, q < (leastF t l).n ∧ l.getD s 0 = (q : Int) := by
    intro s hs
    obtain ⟨k, h1, h2⟩ := number_le (L := S) (n := t.n) (i := s) (by omega) hs
    exact ⟨k, by omega, by rw [hl, h1]⟩
  have hpos := ok.pos
  have hpos' : 0 < (leastF t l).n := by obtain ⟨q, hq, _⟩ := blk 0 (by omega); omega
  have hlen : ∀ q, q < (leastF t l).n → ((leastF t l).next.getD q []).length = wd t ∧ ((leastF t l).tells.getD q []).length = wd t := by
    intro q hq
    obtain ⟨s, hs, _, h2, h3⟩ := row q hq
    rw [h2, h3]
    exact ⟨by rw [List.length_map]; exact ok.nextLen s hs, ok.tellsLen s hs⟩
  have hw : wd (leastF t l) = wd t := (hlen 0 hpos').1
  have hle : (leastF t l).n ≤ t.n := by rw [hn]; exact dn_le (by omega)
  have hmost := ok.most
  refine ⟨⟨hpos', by omega, by have := ok.ins; unfold wd at hw; omega, len, fun s hs => by rw [(hlen s hs).1]; exact hw.symm, fun s hs => by rw [(hlen s hs).2]; exact hw.symm, ?_⟩, hle, hw, ?_, blk⟩
  · intro q hq x hx
    obtain ⟨s, hs, _, h2, _⟩ := row q hq
    rw [h2] at hx
    obtain ⟨y, hy, rfl⟩ := List.mem_map.1 hx
    have := ok.there s hs y hy
    obtain ⟨q', h1, h2⟩ := blk y.toNat (by omega)
    omega
  · intro q hq
    obtain ⟨s, hs, h1, h2, h3⟩ := row q hq
    refine ⟨s, hs, h1, fun c hc => ⟨by unfold te; rw [h3], ?_⟩⟩
    have hcl : c < (t.next.getD s []).length := by rw [ok.nextLen s hs]; exact hc
    have hnx := ok.nx_lt hs hc
    obtain ⟨q', h4, h5⟩ := blk _ hnx
    have e : ((leastF t l).next.getD q []).getD c 0 = l.getD (nx t s c) 0 := by
      rw [h2]
      unfold nx
      generalize t.next.getD s [] = r at hcl
      rw [List.getD_eq_getElem?_getD, List.getElem?_map, List.getD_eq_getElem?_getD (l := r), List.getElem?_eq_getElem hcl]
      rfl
    unfold nx at e ⊢
    rw [e]
    unfold nx at h5
    omega

theorem least_apart {t u : Tab} (ok : Ok t) {k k' : Nat} (h : nextF t (iter t k) = iter t k) (hu : LeastIs t (iter t k) u) (h' : nextF u (iter u k') = iter u k') :
    ∀ (r s s' q q' : Nat), s < t.n → s' < t.n → (iter t k).getD s 0 = (q : Int) → (iter t k).getD s' 0 = (q' : Int) → q < u.n → q' < u.n → Al u k' q q' → Al t r s s'
  | 0, s, s', _, _, hs, hs', _, _, _, _, _ => al_zero hs hs'
  | r + 1, s, s', q, q', hs, hs', hq, hq', hqn, hqn', ha => by
    obtain ⟨s1, hs1, e1, f1⟩ := hu.rep q hqn
    obtain ⟨s2, hs2, e2, f2⟩ := hu.rep q' hqn'
    have a1 : Al t (r + 1) s s1 := al_all ok h hs hs1 (by unfold Al; rw [hq, e1]) (r + 1)
    have a2 : Al t (r + 1) s' s2 := al_all ok h hs' hs2 (by unfold Al; rw [hq', e2]) (r + 1)
    have a3 : Al t (r + 1) s1 s2 := by
      refine (al_succ ok hs1 hs2).2 ⟨least_apart ok h hu h' r s1 s2 q q' hs1 hs2 e1 e2 hqn hqn' ha, fun c hc => ?_⟩
      have hc' : c < wd u := by rw [hu.wide]; exact hc
      obtain ⟨g1, g2⟩ := al_fix hu.ok h' hqn hqn' ha c hc'
      refine ⟨by rw [← (f1 c hc).1, ← (f2 c hc).1, g1], ?_⟩
      exact least_apart ok h hu h' r _ _ _ _ (ok.nx_lt hs1 hc) (ok.nx_lt hs2 hc) (f1 c hc).2.symm (f2 c hc).2.symm (hu.ok.nx_lt hqn hc') (hu.ok.nx_lt hqn' hc') g2
    unfold Al at a1 a2 a3 ⊢
    rw [a1, a2, a3]

/-- The table of blocks has its own states as its blocks. -/
theorem least_id {t u : Tab} (ok : Ok t) {k k' : Nat} (h : nextF t (iter t k) = iter t k) (hu : LeastIs t (iter t k) u) (h' : nextF u (iter u k') = iter u k') : ∀ i, i < u.n → (iter u k').getD i 0 = (i : Int) := by
  have inj : ∀ i j, i < u.n → j < u.n → Al u k' i j → i = j := by
    intro i j hi hj ha
    obtain ⟨s, hs, e, _⟩ := hu.rep i hi
    obtain ⟨s', hs', e', _⟩ := hu.rep j hj
    have := least_apart ok h hu h' k s s' i j hs hs' e e' hi hj ha
    unfold Al at this
    rw [e, e'] at this
    omega
  intro i hi
  rw [← h']
  unfold nextF
  refine number_id (fun i j hi hj he => ?_) i (by simpa using hi)
  have hi' : i < u.n := by simpa using hi
  have hj' : j < u.n := by simpa using hj
  refine inj i j hi' hj' ?_
  unfold Al
  rw [← h']
  exact (number_same hi hj).2 he
end Go.Proofs.YtoikggboakojlaaDoor

/-
  The blocks of a table.
-/
namespace Go.Proofs.YtoikggboakojlaaDoor
open Go.Av
set_option linter.unusedSimpArgs false
set_option linter.unusedVariables false

set_option maxHeartbeats 1000000 in
theorem blocks_bad (G : Glob) (t : Tab) (e : Int × Option Nat) (h : checkF t = some e) : PureC Tryd.prog G 17 [dTab t] (.tup [.sl (some false) [], dErr (some e)]) := by
  refine PureC.of_body (tyOf_good _) Tryd.func17 rfl rfl (rs := [.tmp 2, .tmp 3]) Tryd.results17 (by simp [Tryd.ntmps17]) fun X => ?_
  simp only [Tryd.ntmps17, List.map]
  refine AW_rg (tyOf_good _) (fun _ => trivial) [1] [1] fun K' hK' => ?_
  repeat (refine sxf_next fun K2 hK2 => ?_; simp [dTab]; (repeat (refine ⟨by omega, ?_⟩)); refine hK2 _ ?_; clear hK2 K2)
  first | refine sxf_nil (hK' _ ?_) | (refine sxf_next fun K2 hK2 => ?_; clear hK2 hK'; simp [dTab]; fail "STUCK")
  refine AW.st (by simp [dTab]; rfl) ?_
  clear hK' K'
  refine AW_then fun K1 hK1 => ?_
  refine AW_rg (tyOf_good _) (fun _ => trivial) [1, 4] [1] fun K' hK' => ?_
  repeat (refine sxf_next fun K2 hK2 => ?_; simp; (repeat (refine ⟨by omega, ?_⟩)); refine hK2 _ ?_; clear hK2 K2)
  refine sxf_next fun K2 hK2 => ?_
  simp
  refine callK.data (check_spec G t) (by simp; rfl) (by first | exact D.leGo_refl _ | simp [takeMap, List.map_map, Function.comp_def, D.le, D.le.go, D.le_refl, D.leGo_refl]) ?_
  refine hK2 _ ?_
  clear hK2 K2
  simp only [putd, upd_lst]
  repeat (refine sxf_next fun K2 hK2 => ?_; simp; (repeat (refine ⟨by omega, ?_⟩)); refine hK2 _ ?_; clear hK2 K2)
  first | refine sxf_nil (hK' _ ?_) | (refine sxf_next fun K2 hK2 => ?_; clear hK2 hK'; simp; fail "STUCK")
  refine AW.st (by simp; rfl) ?_
  clear hK' K'
  rw [h]
  obtain ⟨c, s⟩ := e
  cases s
  · refine AW_rg (tyOf_good _) (fun _ => trivial) [1, 4, 9] [1] fun K' hK' => ?_
    repeat (refine sxf_next fun K2 hK2 => ?_; simp [dErr]; (repeat (refine ⟨by omega, ?_⟩)); refine hK2 _ ?_; clear hK2 K2)
    first | refine sxf_nil (hK' _ ?_) | (refine sxf_next fun K2 hK2 => ?_; clear hK2 hK'; simp [dErr]; fail "STUCK")
    refine AW.st (by simp [dErr]; rfl) ?_
    clear hK' K'
    refine AW_cond true rfl (fun _ => ?_) (fun h => by cases h)
    refine AW_rg (tyOf_good _) (fun _ => trivial) [2, 3] [1] fun K' hK' => ?_
    repeat (refine sxf_next fun K2 hK2 => ?_; simp; (repeat (refine ⟨by omega, ?_⟩)); refine hK2 _ ?_; clear hK2 K2)
    first | refine sxf_nil (hK' _ ?_) | (refine sxf_next fun K2 hK2 => ?_; clear hK2 hK'; simp; fail "STUCK")
    refine AW.st (by simp; rfl) ?_
    clear hK' K'
    refine AW_ret ?_
    simp [D.le, D.le.go, takeMap, dErr]
  · refine AW_rg (tyOf_good _) (fun _ => trivial) [1, 4, 9] [1] fun K' hK' => ?_
    repeat (refine sxf_next fun K2 hK2 => ?_; simp [dErr]; (repeat (refine ⟨by omega, ?_⟩)); refine hK2 _ ?_; clear hK2 K2)
    first | refine sxf_nil (hK' _ ?_) | (refine sxf_next fun K2 hK2 => ?_; clear hK2 hK'; simp [dErr]; fail "STUCK")
    refine AW.st (by simp [dErr]; rfl) ?_
    clear hK' K'
    refine AW_cond true rfl (fun _ => ?_) (fun h => by cases h)
    refine AW_rg (tyOf_good _) (fun _ => trivial) [2, 3] [1] fun K' hK' => ?_
    repeat (refine sxf_next fun K2 hK2 => ?_; simp; (repeat (refine ⟨by omega, ?_⟩)); refine hK2 _ ?_; clear hK2 K2)
    first | refine sxf_nil (hK' _ ?_) | (refine sxf_next fun K2 hK2 => ?_; clear hK2 hK'; simp; fail "STUCK")
    refine AW.st (by simp; rfl) ?_
    clear hK' K'
    refine AW_ret ?_
    simp [D.le, D.le.go, takeMap, dErr]

set_option maxHeartbeats 1000000 in
theorem blocks_good (G : Glob) (t : Tab) (ok : Ok t) (k : Nat) (hk : k < 2^20) (hs : Stops t k) : PureC Tryd.prog G 17 [dTab t] (.tup [dRow (iter t k), .v .nilIface]) := by
  have h : checkF t = none := ok_iff.2 ok
  refine PureC.of_body (tyOf_good _) Tryd.func17 rfl rfl (rs := [.tmp 2, .tmp 3]) Tryd.results17 (by simp [Tryd.ntmps17]) fun X => ?_
  simp only [Tryd.ntmps17, List.map]
  refine AW_rg (tyOf_good _) (fun _ => trivial) [1] [1] fun K' hK' => ?_
  repeat (refine sxf_next fun K2 hK2 => ?_; simp [dTab]; (repeat (refine ⟨by omega, ?_⟩)); refine hK2 _ ?_; clear hK2 K2)
  first | refine sxf_nil (hK' _ ?_) | (refine sxf_next fun K2 hK2 => ?_; clear hK2 hK'; simp [dTab]; fail "STUCK")
  refine AW.st (by simp [dTab]; rfl) ?_
  clear hK' K'
  refine AW_then fun K1 hK1 => ?_
  refine AW_rg (tyOf_good _) (fun _ => trivial) [1, 4] [1] fun K' hK' => ?_
  repeat (refine sxf_next fun K2 hK2 => ?_; simp; (repeat (refine ⟨by omega, ?_⟩)); refine hK2 _ ?_; clear hK2 K2)
  refine sxf_next fun K2 hK2 => ?_
  simp
  refine callK.data (check_spec G t) (by simp; rfl) (by first | exact D.leGo_refl _ | simp [takeMap, List.map_map, Function.comp_def, D.le, D.le.go, D.le_refl, D.leGo_refl]) ?_
  refine hK2 _ ?_
  clear hK2 K2
  simp only [putd, upd_lst]
  repeat (refine sxf_next fun K2 hK2 => ?_; simp; (repeat (refine ⟨by omega, ?_⟩)); refine hK2 _ ?_; clear hK2 K2)
  first | refine sxf_nil (hK' _ ?_) | (refine sxf_next fun K2 hK2 => ?_; clear hK2 hK'; simp; fail "STUCK")
  refine AW.st (by simp; rfl) ?_
  clear hK' K'
  rw [h]
  refine AW_rg (tyOf_good _) (fun _ => trivial) [1, 4, 9] [1] fun K' hK' => ?_
  repeat (refine sxf_next fun K2 hK2 => ?_; simp [dErr]; (repeat (refine ⟨by omega, ?_⟩)); refine hK2 _ ?_; clear hK2 K2)
  first | refine sxf_nil (hK' _ ?_) | (refine sxf_next fun K2 hK2 => ?_; clear hK2 hK'; simp [dErr]; fail "STUCK")
  refine AW.st (by simp [dErr]; rfl) ?_
  clear hK' K'
  refine AW_cond false rfl (fun h => by cases h) (fun _ => ?_)
  refine AW_skip (hK1 _ ?_)
  refine AW_rg (tyOf_good _) (fun _ => trivial) [5] [1] fun K' hK' => ?_
  repeat (refine sxf_next fun K2 hK2 => ?_; simp; (repeat (refine ⟨by omega, ?_⟩)); refine hK2 _ ?_; clear hK2 K2)
  refine sxf_next fun K2 hK2 => ?_
  simp
  refine callK.data (rounds_spec G t ok k hk hs) (by simp; rfl) (by first | exact D.leGo_refl _ | simp [takeMap, List.map_map, Function.comp_def, D.le, D.le.go, D.le_refl, D.leGo_refl]) ?_
  refine hK2 _ ?_
  clear hK2 K2
  simp only [putd, upd_lst]
  repeat (refine sxf_next fun K2 hK2 => ?_; simp; (repeat (refine ⟨by omega, ?_⟩)); refine hK2 _ ?_; clear hK2 K2)
  first | refine sxf_nil (hK' _ ?_) | (refine sxf_next fun K2 hK2 => ?_; clear hK2 hK'; simp; fail "STUCK")
  refine AW.st (by simp; rfl) ?_
  clear hK' K'
  refine AW_rg (tyOf_good _) (fun _ => trivial) [2, 3] [1] fun K' hK' => ?_
  repeat (refine sxf_next fun K2 hK2 => ?_; simp [dRows]; (repeat (refine ⟨by omega, ?_⟩)); refine hK2 _ ?_; clear hK2 K2)
  first | refine sxf_nil (hK' _ ?_) | (refine sxf_next fun K2 hK2 => ?_; clear hK2 hK'; simp [dRows]; fail "STUCK")
  refine AW.st (by simp [dRows]; rfl) ?_
  clear hK' K'
  refine AW_ret ?_
  simp [D.le, D.le.go, takeMap, D.le_refl]
#print axioms blocks_bad
#print axioms blocks_good
end Go.Proofs.YtoikggboakojlaaDoor

/-
  Plain facts of pairs marked round by round.
-/
namespace Go.Proofs.YtoikggboakojlaaDoor

def hitM (t : Tab) (d : Nat) (m : Nat → Nat → Nat) (a b i : Nat) : Bool := if d = 1 then te t a i != te t b i else m (nx t a i) (nx t b i) == d - 1
def mkM (t : Tab) (d : Nat) (m : Nat → Nat → Nat) (a b : Nat) : Nat := if m a b = 0 then (if (List.range (wd t)).any (hitM t d m a b) then d else 0) else m a b
def apM (t : Tab) : Nat → Nat → Nat → Nat
  | 0, _, _ => 0
  | d + 1, a, b => mkM t (d + 1) (apM t d) a b

theorem al_le {t : Tab} (ok : Ok t) {i j : Nat} (hi : i < t.n) (hj : j < t.n) {k e : Nat} (h : k ≤ e) (ha : Al t e i j) : Al t k i j := by
  obtain ⟨d, rfl⟩ := Nat.le.dest h
  exact al_down ok hi hj d ha

theorem apM_spec {t : Tab} (ok : Ok t) : ∀ d a b, a < t.n → b < t.n → (apM t d a b = 0 ↔ Al t d a b) ∧ (0 < apM t d a b → apM t d a b ≤ d ∧ Al t (apM t d a b - 1) a b ∧ ¬ Al t (apM t d a b) a b) := by
  intro d
  induction d with
  | zero => intro a b ha hb; exact ⟨by simp [apM, al_zero ha hb], by simp [apM]⟩
  | succ d ih =>
    intro a b ha hb
    obtain ⟨h1, h2⟩ := ih a b ha hb
    show (mkM t (d + 1) (apM t d) a b = 0 ↔ _) ∧ (0 < mkM t (d + 1) (apM t d) a b → mkM t (d + 1) (apM t d) a b ≤ d + 1 ∧ Al t (mkM t (d + 1) (apM t d) a b - 1) a b ∧ ¬ Al t (mkM t (d + 1) (apM t d) a b) a b)
    unfold mkM
    by_cases h0 : apM t d a b = 0
    · rw [if_pos h0]
      have hal := h1.1 h0
      by_cases hany : (List.range (wd t)).any (hitM t (d + 1) (apM t d) a b) = true
      · rw [if_pos hany]
        have hno : ¬ Al t (d + 1) a b := fun h => by
          obtain ⟨i, hi, hh⟩ := List.any_eq_true.1 hany
          have hi := List.mem_range.1 hi
          obtain ⟨_, hc⟩ := (al_succ ok ha hb).1 h
          obtain ⟨hc1, hc2⟩ := hc i hi
          unfold hitM at hh
          split at hh
          · simp [hc1] at hh
          · rename_i hd
            have hh : apM t d (nx t a i) (nx t b i) = d := by simpa using hh
            have hpos : 0 < apM t d (nx t a i) (nx t b i) := by omega
            have := ((ih _ _ (ok.nx_lt ha hi) (ok.nx_lt hb hi)).2 hpos).2.2
            rw [hh] at this
            exact this hc2
        exact ⟨⟨fun h => by omega, fun h => absurd h hno⟩, fun _ => ⟨Nat.le_refl _, by simpa using hal, hno⟩⟩
      · rw [if_neg hany]
        refine ⟨⟨fun _ => (al_succ ok ha hb).2 ⟨hal, fun c hc => ?_⟩, fun _ => rfl⟩, fun h => by omega⟩
        have hm : hitM t (d + 1) (apM t d) a b c = false := by
          simp only [Bool.not_eq_true] at hany
          exact List.any_eq_false.1 hany c (List.mem_range.2 hc) |> (by simpa using ·)
        unfold hitM at hm
        cases d with
        | zero =>
          rw [if_pos rfl] at hm
          exact ⟨by simpa using hm, al_zero (ok.nx_lt ha hc) (ok.nx_lt hb hc)⟩
        | succ d =>
          rw [if_neg (by omega)] at hm
          have hm : apM t (d + 1) (nx t a c) (nx t b c) ≠ d + 1 := by simpa using hm
          obtain ⟨hte, hal'⟩ := ((al_succ ok ha hb).1 hal).2 c hc
          refine ⟨hte, ?_⟩
          obtain ⟨g1, g2⟩ := ih (nx t a c) (nx t b c) (ok.nx_lt ha hc) (ok.nx_lt hb hc)
          refine g1.1 (Nat.eq_zero_of_not_pos fun hpos => ?_)
          obtain ⟨g3, _, g5⟩ := g2 hpos
          exact g5 (al_le ok (ok.nx_lt ha hc) (ok.nx_lt hb hc) (by omega) hal')
    · rw [if_neg h0]
      obtain ⟨g3, g4, g5⟩ := h2 (by omega)
      exact ⟨⟨fun h => absurd h h0, fun h => absurd (al_le ok ha hb (by omega) h) g5⟩, fun _ => ⟨by omega, g4, g5⟩⟩

/-- The matrix in the midst of a round: what lies ahead of (a, b) is done. -/
def mid (t : Tab) (d a b x y : Nat) : Nat := if x < a ∨ (x = a ∧ y < b) then apM t d x y else apM t (d - 1) x y

theorem mid_zero (t : Tab) (d : Nat) : mid t d 0 0 = apM t (d - 1) := by
  funext x y; unfold mid; rw [if_neg (by omega)]
theorem mid_here (t : Tab) (d a b : Nat) : mid t d a b a b = apM t (d - 1) a b := by
  unfold mid; rw [if_neg (by omega)]
theorem mid_end (t : Tab) (d a : Nat) {x : Nat} (h : x < a) (y : Nat) : mid t d a 0 x y = apM t d x y := by
  unfold mid; rw [if_pos (by omega)]
theorem mid_row (t : Tab) (d a n : Nat) {x y : Nat} (h : y < n) : mid t d a n x y = mid t d (a + 1) 0 x y := by
  unfold mid
  by_cases h1 : x < a ∨ (x = a ∧ y < n)
  · rw [if_pos h1, if_pos (by omega)]
  · rw [if_neg h1, if_neg (by omega)]
theorem mid_step (t : Tab) (d a b x y : Nat) : mid t d a (b + 1) x y = if x = a ∧ y = b then apM t d x y else mid t d a b x y := by
  unfold mid
  by_cases h : x = a ∧ y = b
  · rw [if_pos h, if_pos (by omega)]
  · rw [if_neg h]
    by_cases h1 : x < a ∨ (x = a ∧ y < b)
    · rw [if_pos h1, if_pos (by omega)]
    · rw [if_neg h1, if_neg (by omega)]
theorem apM_step (t : Tab) {d : Nat} (hd : 1 ≤ d) (x y : Nat) : apM t d x y = mkM t d (apM t (d - 1)) x y := by
  obtain ⟨e, rfl⟩ : ∃ e, d = e + 1 := ⟨d - 1, by omega⟩
  rfl
theorem mid_read (t : Tab) {d : Nat} (hd : 2 ≤ d) (a b x y : Nat) : mid t d a b x y = d - 1 ↔ apM t (d - 1) x y = d - 1 := by
  unfold mid
  split
  · rw [apM_step t (by omega)]
    unfold mkM
    by_cases h0 : apM t (d - 1) x y = 0
    · rw [if_pos h0]
      split <;> omega
    · rw [if_neg h0]
  · exact Iff.rfl
/-- A pair that is marked stays; one without a hit stays; one with a hit is marked. -/
theorem apM_marked (t : Tab) {d : Nat} (hd : 1 ≤ d) {a b : Nat} (h : apM t (d - 1) a b ≠ 0) : apM t d a b = apM t (d - 1) a b := by
  rw [apM_step t hd, mkM, if_neg h]
theorem apM_miss (t : Tab) {d : Nat} (hd : 1 ≤ d) {a b : Nat} (h : ∀ i, i < wd t → hitM t d (apM t (d - 1)) a b i = false) : apM t d a b = apM t (d - 1) a b := by
  rw [apM_step t hd, mkM]
  by_cases h0 : apM t (d - 1) a b = 0
  · rw [if_pos h0, if_neg, h0]
    simp only [Bool.not_eq_true]
    rw [List.any_eq_false]
    intro i hi
    simp [h i (List.mem_range.1 hi)]
  · rw [if_neg h0]
theorem apM_hit (t : Tab) {d : Nat} (hd : 1 ≤ d) {a b i : Nat} (h0 : apM t (d - 1) a b = 0) (hi : i < wd t) (h : hitM t d (apM t (d - 1)) a b i = true) : apM t d a b = d := by
  rw [apM_step t hd, mkM, if_pos h0, if_pos]
  exact List.any_eq_true.2 ⟨i, List.mem_range.2 hi, h⟩

/-- Something ahead of (a, b) was marked in this round. -/
def Chg (t : Tab) (d a b : Nat) : Prop := ∃ x y, x < t.n ∧ y < t.n ∧ (x < a ∨ (x = a ∧ y < b)) ∧ apM t d x y ≠ apM t (d - 1) x y

theorem chg_zero (t : Tab) (d : Nat) : ¬ Chg t d 0 0 := fun ⟨_, _, _, _, h, _⟩ => by omega
theorem chg_row (t : Tab) (d a : Nat) : Chg t d a t.n ↔ Chg t d (a + 1) 0 :=
  ⟨fun ⟨x, y, h1, h2, h3, h4⟩ => ⟨x, y, h1, h2, by omega, h4⟩, fun ⟨x, y, h1, h2, h3, h4⟩ => ⟨x, y, h1, h2, by omega, h4⟩⟩
theorem chg_same (t : Tab) (d a b : Nat) (h : apM t d a b = apM t (d - 1) a b) : Chg t d a (b + 1) ↔ Chg t d a b :=
  ⟨fun ⟨x, y, h1, h2, h3, h4⟩ => by
    by_cases hx : x = a ∧ y = b
    · obtain ⟨rfl, rfl⟩ := hx; exact absurd h h4
    · exact ⟨x, y, h1, h2, by omega, h4⟩, fun ⟨x, y, h1, h2, h3, h4⟩ => ⟨x, y, h1, h2, by omega, h4⟩⟩
theorem chg_new (t : Tab) {d a b : Nat} (ha : a < t.n) (hb : b < t.n) (h : apM t d a b ≠ apM t (d - 1) a b) : Chg t d a (b + 1) := ⟨a, b, ha, hb, by omega, h⟩

/-- A round that marks nothing: the rounds have come to their end. -/
theorem chg_none {t : Tab} (ok : Ok t) {d k : Nat} (hd : 1 ≤ d) (hs : Stops t k) (hk : d ≤ k + 1) (h : ¬ Chg t d t.n 0) : d = k + 1 := by
  refine Nat.le_antisymm hk (Nat.le_of_not_lt fun hlt => ?_)
  refine hs.2 (d - 1) (by omega) (stable ok fun i j hi hj hal => ?_)
  have hsame : apM t d i j = apM t (d - 1) i j := Classical.byContradiction fun hne => h ⟨i, j, hi, hj, by omega, hne⟩
  have h1 := (apM_spec ok (d - 1) i j hi hj).1.2 hal
  rw [show d - 1 + 1 = d by omega]
  exact (apM_spec ok d i j hi hj).1.1 (hsame.trans h1)
theorem chg_some {t : Tab} (ok : Ok t) {d k : Nat} (hd : 1 ≤ d) (hs : Stops t k) (hk : d ≤ k + 1) (h : Chg t d t.n 0) : d ≤ k := by
  refine Nat.le_of_not_lt fun hlt => ?_
  obtain rfl : d = k + 1 := by omega
  obtain ⟨x, y, hx, hy, _, hne⟩ := h
  refine hne ?_
  rw [Nat.add_sub_cancel] at hne ⊢
  by_cases h0 : apM t k x y = 0
  · have := al_all ok hs.1 hx hy ((apM_spec ok k x y hx hy).1.1 h0) (k + 1)
    rw [h0]
    exact (apM_spec ok (k + 1) x y hx hy).1.2 this
  · exact apM_marked t (d := k + 1) (by omega) h0
end Go.Proofs.YtoikggboakojlaaDoor

/-
  Pairs of states, marked round by round: the walk.
-/
namespace Go.Proofs.YtoikggboakojlaaDoor
open Go.Av
set_option linter.unusedSimpArgs false
set_option linter.unusedVariables false

def boxA (t : Tab) : Row := .box 26 [.d (dRows t.next), .d (dRows t.tells)]
def rowM (n : Nat) (f : Nat → Nat) : List (List D) := (List.range n).map fun y => [.v (.int .i64 (f y))]
def dMat (n : Nat) (m : Nat → Nat → Nat) : D := .sl none ((List.range n).map fun x => [.sl none (rowM n (m x))])
def cellsA (n c : Nat) : List AV := (List.range n).map fun i => if i < c then .own (i + 1000) 0 n else .d (.sl (some false) [])

theorem rowM_len (n : Nat) (f : Nat → Nat) : (rowM n f).length = n := by simp [rowM]
theorem rowM_get {n b : Nat} {f : Nat → Nat} (h : b < n) : (rowM n f)[b]? = some [.v (.int .i64 (f b))] := by simp [rowM, h]
theorem rowM_at {n b : Nat} {f : Nat → Nat} (h : b < (rowM n f).length) : (rowM n f)[b] = [.v (.int .i64 (f b))] := by simp [rowM]
theorem rowM_congr {n : Nat} {f g : Nat → Nat} (h : ∀ y, y < n → f y = g y) : rowM n f = rowM n g := by
  unfold rowM
  refine List.map_congr_left fun y hy => ?_
  rw [h y (List.mem_range.1 hy)]
theorem rowM_zero (n : Nat) : List.replicate n [D.v (.int .i64 0)] = rowM n fun _ => 0 := by
  unfold rowM
  refine List.ext_getElem (by simp) fun i h1 h2 => ?_
  simp
theorem rowM_set {n b v : Nat} {f : Nat → Nat} (h : b < n) : (rowM n f).set b [.v (.int .i64 v)] = rowM n fun y => if y = b then v else f y := by
  refine List.ext_getElem (by simp [rowM]) fun i h1 h2 => ?_
  rw [List.getElem_set]
  simp only [rowM, List.getElem_map, List.getElem_range]
  by_cases hi : b = i
  · subst hi; simp
  · rw [if_neg hi, if_neg (Ne.symm hi)]
theorem cellsA_len (n c : Nat) : (cellsA n c).length = n := by simp [cellsA]
theorem cellsA_zero (n : Nat) : List.replicate n (AV.d (.sl (some false) [])) = cellsA n 0 := by
  refine List.ext_getElem (by simp [cellsA]) fun i h1 h2 => ?_
  simp [cellsA]
theorem cellsA_all (n : Nat) : cellsA n n = (List.range n).map fun a => .own (a + 1000) 0 n := by
  unfold cellsA
  refine List.map_congr_left fun y hy => ?_
  rw [if_pos (List.mem_range.1 hy)]
theorem cellsA_kill {n c r : Nat} (hr : r < 1000) : (cellsA n c).map (AV.kill r) = cellsA n c := by
  unfold cellsA
  rw [List.map_map]
  refine List.map_congr_left fun y _ => ?_
  simp only [Function.comp]
  split
  · simp only [AV.kill]; rw [if_neg (by omega)]
  · rfl
theorem cellsA_get {n c x : Nat} (hx : x < n) (hc : x < c) : (cellsA n c)[x]? = some (.own (x + 1000) 0 n) := by simp [cellsA, hx, hc]
theorem cellsA_new {n c : Nat} (hc : c < n) : ((cellsA n c).take c ++ AV.own 26 0 n :: (cellsA n c).drop (c + 1)).map (AV.tr (renO 26 (c + 1000)) (renF 26 (c + 1000))) = cellsA n (c + 1) := by
  refine List.ext_getElem? fun i => ?_
  rw [List.getElem?_map, List.getElem?_append, List.length_take, cellsA_len, Nat.min_eq_left (by omega)]
  by_cases h1 : i < c
  · rw [if_pos h1, List.getElem?_take, if_pos h1, cellsA_get (by omega) h1, cellsA_get (by omega) (by omega)]
    simp [AV.tr, renO, ren]
  · rw [if_neg h1]
    by_cases h2 : i = c
    · subst h2
      rw [Nat.sub_self, cellsA_get hc (by omega)]
      simp [AV.tr, renO, ren]
    · obtain ⟨e, rfl⟩ : ∃ e, i = c + 1 + e := ⟨i - (c + 1), by omega⟩
      rw [show c + 1 + e - c = e + 1 by omega, List.getElem?_cons_succ, List.getElem?_drop]
      unfold cellsA
      simp only [List.getElem?_map, List.getElem?_range]
      by_cases h3 : c + 1 + e < n
      · simp [h3, AV.tr, show ¬ c + 1 + e < c by omega]
      · simp [h3]
theorem hup_snd {a b : Nat} {x y z : Row} (h : a ≠ b) : hup (hlst [(a, x), (b, y)]) b z = hlst [(a, x), (b, z)] := by
  funext q
  unfold hup
  by_cases hq : q = b
  · subst hq
    rw [if_pos rfl]
    have : (q == a) = false := by simpa using Ne.symm h
    simp [hlst, List.lookup, this]
  · rw [if_neg hq]
    have : (q == b) = false := by simpa using hq
    simp only [hlst, List.lookup, this]
theorem hmat_out {ty k : Nat} {M : Nat → List (List D)} {h : Heap} {x : Nat} (hx : ¬ x < k) : hmat ty k M h (x + 1000) = h (x + 1000) := by
  unfold hmat; rw [if_neg (by omega)]
theorem hmat_congr {ty k : Nat} {M M' : Nat → List (List D)} {h : Heap} (hM : ∀ i, i < k → M i = M' i) : hmat ty k M h = hmat ty k M' h := by
  funext q
  unfold hmat
  by_cases hr : 1000 ≤ q ∧ q < 1000 + k
  · rw [if_pos hr, if_pos hr, hM _ (by omega)]
  · rw [if_neg hr, if_neg hr]
theorem mid_same {t : Tab} {d a b : Nat} (h : apM t d a b = apM t (d - 1) a b) : mid t d a (b + 1) = mid t d a b := by
  funext x y
  rw [mid_step]
  split
  · rename_i e; obtain ⟨rfl, rfl⟩ := e; rw [mid_here, h]
  · rfl

theorem next_at {t : Tab} (ok : Ok t) {a i : Nat} (ha : a < t.next.length) (hi : i < wd t) (hia : i < t.next[a].length) : 0 ≤ t.next[a][i] ∧ t.next[a][i] < (t.next.length : Int) ∧ nx t a i = t.next[a][i].toNat := by
  have h := ok.there a ha
  rw [List.getD_eq_getElem?_getD, List.getElem?_eq_getElem ha] at h
  have h2 := h _ (List.getElem_mem hia)
  exact ⟨h2.1, h2.2, by simp [nx, List.getD_eq_getElem?_getD, ha, hia]⟩
theorem tells_at {t : Tab} (ok : Ok t) {a i : Nat} (ha : a < t.next.length) (hi : i < wd t) : ∃ (hta : a < t.tells.length) (hia : i < t.tells[a].length), te t a i = t.tells[a][i] := by
  have htl := ok.tells
  have hl := ok.tellsLen a ha
  have hta : a < t.tells.length := by rw [htl]; exact ha
  rw [List.getD_eq_getElem?_getD, List.getElem?_eq_getElem hta] at hl
  have hia : i < t.tells[a].length := by
    have : t.tells[a].length = wd t := hl
    omega
  exact ⟨hta, hia, by simp [te, List.getD_eq_getElem?_getD, hta, hia]⟩

theorem mid_write {t : Tab} {n d a b : Nat} (hb : b < n) (h : apM t d a b = d) : (fun x => if x = a then (rowM n (mid t d a b a)).set b [.v (.int .i64 d)] else rowM n (mid t d a b x)) = fun x => rowM n (mid t d a (b + 1) x) := by
  funext x
  by_cases hx : x = a
  · subst hx
    rw [if_pos rfl, rowM_set hb]
    refine rowM_congr fun y hy => ?_
    rw [mid_step]
    by_cases hy : y = b
    · subst hy; rw [if_pos rfl, if_pos ⟨rfl, rfl⟩, h]
    · rw [if_neg hy, if_neg (fun e => hy e.2)]
  · rw [if_neg hx]
    refine rowM_congr fun y hy => ?_
    rw [mid_step, if_neg (fun e => hx e.1)]


set_option maxHeartbeats 4000000 in
theorem apart_spec (G : Glob) (t : Tab) (ok : Ok t) (k : Nat) (hk : k < 2^20) (hs : Stops t k) : PureC Tryd.prog G 63 [dTab t] (dMat t.next.length (apM t k)) := by
  have hn500 : t.next.length ≤ 500 := ok.most
  have hpos : 1 ≤ t.next.length := ok.pos
  refine PureC.of_body (tyOf_good _) Tryd.func63 rfl rfl (rs := [.tmp 2]) Tryd.results63 (by simp [Tryd.ntmps63]) fun X => ?_
  simp only [Tryd.ntmps63, List.map]
  refine AW_rg (tyOf_good _) (fun _ => trivial) [1] [1] fun K' hK' => ?_
  repeat (refine sxf_next fun K2 hK2 => ?_; simp [dTab]; (repeat (refine ⟨by omega, ?_⟩)); refine hK2 _ ?_; clear hK2 K2)
  first | refine sxf_nil (hK' _ ?_) | (refine sxf_next fun K2 hK2 => ?_; clear hK2 hK'; simp [dTab]; fail "STUCK")
  refine AW.st (by simp [dTab]; rfl) ?_
  clear hK' K'
  refine AW_rg (tyOf_good _) (fun _ => trivial) [1, 3] [1] fun K' hK' => ?_
  repeat (refine sxf_next fun K2 hK2 => ?_; simp [dRows]; (repeat (refine ⟨by omega, ?_⟩)); refine hK2 _ ?_; clear hK2 K2)
  first | refine sxf_nil (hK' _ ?_) | (refine sxf_next fun K2 hK2 => ?_; clear hK2 hK'; simp [dRows]; fail "STUCK")
  refine AW.st (by simp [dRows]; rfl) ?_
  clear hK' K'
  refine AW_rg (tyOf_good _) (fun _ => trivial) [1, 3, 4] [1, 17] fun K' hK' => ?_
  repeat (refine sxf_next fun K2 hK2 => ?_; simp; (repeat (refine ⟨by omega, ?_⟩)); refine hK2 _ ?_; clear hK2 K2)
  first | refine sxf_nil (hK' _ ?_) | (refine sxf_next fun K2 hK2 => ?_; clear hK2 hK'; simp; fail "STUCK")
  refine AW.st (by simp; rfl) ?_
  clear hK' K'
  refine AW.imp (Imp.toBox 17 rfl (by intro h; have : t.next = [] := by simpa using congrArg List.length h
                                      rw [this] at hpos; simp at hpos)) ?_
  rw [hup_snd (by decide), List.map_replicate]
  refine AW.st (τ := ⟨lst [(1, .ref 1 0 0), (3, int t.next.length), (4, .own 17 0 t.next.length)], hmat 3 0 (fun _ => rowM t.next.length fun _ => 0) (hlst [(1, boxA t), (17, .box 32 (cellsA t.next.length 0))])⟩) (by rw [← hmat_zero, ← cellsA_zero]; rfl) ?_
  refine AW_then fun K1 hK1 => ?_
  refine AW_rgE (tyOf_good _) (fun _ => trivial) [1, 3, 4, 19, 20] fun K' hK' => ?_
  repeat (refine sxf_next fun K2 hK2 => ?_; simp [hmat_lo]; (repeat (refine ⟨by omega, ?_⟩)); refine hK2 _ ?_; clear hK2 K2)
  first | refine sxf_nil (hK' _ ?_) | (refine sxf_next fun K2 hK2 => ?_; clear hK2 hK'; simp [hmat_lo]; fail "STUCK")
  refine AW.st (by simp only [St.normE, liveL, lst, List.lookup]; rfl) ?_
  clear hK' K'
  refine AW_for (S := Nat) (fun c => c ≤ t.next.length) (fun c => ⟨lst [(1, .ref 1 0 0), (3, int t.next.length), (4, .own 17 0 t.next.length), (19, int t.next.length), (20, int c)],
    hmat 3 c (fun _ => rowM t.next.length fun _ => 0) (hlst [(1, boxA t), (17, .box 32 (cellsA t.next.length c))])⟩) (fun c => t.next.length - c) 0 ?_ (by omega) ?_
  · refine Imp.toE (by simp) ?_
    rfl
  · intro c hcn
    refine AW_rgE (tyOf_good _) (fun _ => trivial) [1, 3, 4, 19, 20, 21] fun K' hK' => ?_
    repeat (refine sxf_next fun K2 hK2 => ?_; simp; (repeat (refine ⟨by omega, ?_⟩)); refine hK2 _ ?_; clear hK2 K2)
    first | refine sxf_nil (hK' _ ?_) | (refine sxf_next fun K2 hK2 => ?_; clear hK2 hK'; simp; fail "STUCK")
    refine AW.st (by simp only [St.normE, liveL, lst, List.lookup]; rfl) ?_
    clear hK' K'
    refine AW_then fun K2 hK2 => ?_
    refine AW_cond' (b := c < t.next.length) (by simp [D.le, D.le.go, takeMap]) (fun hc => ?_) (fun hc => ?_)
    · refine AW_skip (hK2 _ ?_)
      refine AW_then fun K3 hK3 => ?_
      refine AW_block ?_
      refine AW_rgE (tyOf_good _) (fun _ => trivial) [1, 3, 4, 5, 19, 20] fun K' hK' => ?_
      repeat (refine sxf_next fun K2 hK2 => ?_; simp; (repeat (refine ⟨by omega, ?_⟩)); refine hK2 _ ?_; clear hK2 K2)
      first | refine sxf_nil (hK' _ ?_) | (refine sxf_next fun K2 hK2 => ?_; clear hK2 hK'; simp; fail "STUCK")
      refine AW.st (by simp only [St.normE, liveL, lst, List.lookup]; rfl) ?_
      clear hK' K'
      refine AW_re (tyOf_good _) (fun _ => trivial) fun K' hK' => ?_
      repeat (refine sxf_next fun K2 hK2 => ?_; simp [hmat_lo, hup_hmat_lo, killH_hmat, cellsA_len, cellsA_kill, boxA, hc]; (repeat (refine ⟨by omega, ?_⟩)); refine hK2 _ ?_; clear hK2 K2)
      first | refine sxf_nil (hK' _ ?_) | (refine sxf_next fun K2 hK2 => ?_; clear hK2 hK'; simp [hmat_lo, hup_hmat_lo, killH_hmat, cellsA_len, cellsA_kill, boxA, hc]; fail "STUCK")
      clear hK' K'
      refine hK3 _ (AW.normE [1, 3, 4, 19, 20] (AW.st (by simp only [St.normE, liveL, lst, List.lookup]; rfl) ?_))
      refine AW_re (tyOf_good _) (fun _ => trivial) fun K' hK' => ?_
      repeat (refine sxf_next fun K2 hK2 => ?_; simp [hmat_lo]; (repeat (refine ⟨by omega, ?_⟩)); refine hK2 _ ?_; clear hK2 K2)
      first | refine sxf_nil (hK' _ ?_) | (refine sxf_next fun K2 hK2 => ?_; clear hK2 hK'; simp [hmat_lo]; fail "STUCK")
      clear hK' K'
      try simp only [thn, inb]
      refine Again.mk (c + 1) (by omega) (by omega) ?_
      refine (Imp.ren (fun _ => trivial) (r := 26) (r' := c + 1000) (by dsimp only; rw [hmat_out (by omega)]; simp [hlst, List.lookup])).trans ?_
      refine Imp.toE (by simp [trE_lst, lst, List.lookup, AV.tr, renO, renF, ren, int]) ?_
      dsimp only
      refine ren_hmat (k := c) (r := 26) (by omega) (fun _ _ => rfl) (by rw [← rowM_zero]; rfl) (fun q h1 h2 => ?_) rfl
      by_cases hq17 : q = 17
      · subst hq17
        exact congrArg (fun x => some (Row.box 32 x)) (cellsA_new hc)
      · by_cases hq1 : q = 1
        · subst hq1; rfl
        · have e17 : (q == 17) = false := by simpa using hq17
          have e1 : (q == 1) = false := by simpa using hq1
          have e26 : (q == 26) = false := by simpa using h1
          simp only [hlst, List.lookup, e17, e1, e26, Option.map_none]
    · obtain rfl : c = t.next.length := by omega
      refine AW_exit (hK1 _ ?_)
      refine AW_rgE (tyOf_good _) (fun _ => trivial) [1, 3, 4, 6] fun K' hK' => ?_
      repeat (refine sxf_next fun K2 hK2 => ?_; simp; (repeat (refine ⟨by omega, ?_⟩)); refine hK2 _ ?_; clear hK2 K2)
      first | refine sxf_nil (hK' _ ?_) | (refine sxf_next fun K2 hK2 => ?_; clear hK2 hK'; simp; fail "STUCK")
      refine AW.st (by simp only [St.normE, liveL, lst, List.lookup]; rfl) ?_
      clear hK' K'
      have hcell : cellsA t.next.length t.next.length = (List.range t.next.length).map fun a => .own (a + 1000) 0 t.next.length := cellsA_all _
      generalize hcA : cellsA t.next.length t.next.length = cA at hcell
      have hget : ∀ x, x < t.next.length → cA[x]? = some (.own (x + 1000) 0 t.next.length) := fun x hx => by rw [← hcA]; exact cellsA_get hx hx
      have hgetA : ∀ x (hx : x < cA.length), cA[x] = .own (x + 1000) 0 t.next.length := fun x hx => by
        have : x < t.next.length := by rw [← hcA, cellsA_len] at hx; exact hx
        exact Option.some.inj ((List.getElem?_eq_getElem hx).symm.trans (hget x this))
      have hlenA : cA.length = t.next.length := by rw [← hcA]; exact cellsA_len _ _
      refine AW_for (S := Nat) (fun d => 1 ≤ d ∧ d ≤ k + 1) (fun d => ⟨lst [(1, .ref 1 0 0), (3, int t.next.length), (4, .own 17 0 t.next.length), (6, int d)],
        hmat 3 t.next.length (fun x => rowM t.next.length (apM t (d - 1) x)) (hlst [(1, boxA t), (17, .box 32 cA)])⟩) (fun d => k + 2 - d) 1 ?_ (by omega) ?_
      · refine Imp.toE (by simp) ?_
        rfl
      · rintro d ⟨hd1, hdk⟩
        refine AW_then fun K4 hK4 => ?_
        refine AW_block ?_
        refine AW_rgE (tyOf_good _) (fun _ => trivial) [1, 3, 4, 6, 7] fun K' hK' => ?_
        repeat (refine sxf_next fun K2 hK2 => ?_; simp; (repeat (refine ⟨by omega, ?_⟩)); refine hK2 _ ?_; clear hK2 K2)
        first | refine sxf_nil (hK' _ ?_) | (refine sxf_next fun K2 hK2 => ?_; clear hK2 hK'; simp; fail "STUCK")
        refine AW.st (by simp only [St.normE, liveL, lst, List.lookup]; rfl) ?_
        clear hK' K'
        refine AW_then fun K5 hK5 => ?_
        refine AW_rgE (tyOf_good _) (fun _ => trivial) [1, 3, 4, 6, 7, 31, 32] fun K' hK' => ?_
        repeat (refine sxf_next fun K2 hK2 => ?_; simp; (repeat (refine ⟨by omega, ?_⟩)); refine hK2 _ ?_; clear hK2 K2)
        first | refine sxf_nil (hK' _ ?_) | (refine sxf_next fun K2 hK2 => ?_; clear hK2 hK'; simp; fail "STUCK")
        refine AW.st (by simp only [St.normE, liveL, lst, List.lookup]; rfl) ?_
        clear hK' K'
        refine AW_for (S := Nat × Bool) (fun s => s.1 ≤ t.next.length ∧ (s.2 = true ↔ Chg t d s.1 0)) (fun s => ⟨lst [(1, .ref 1 0 0), (3, int t.next.length), (4, .own 17 0 t.next.length), (6, int d), (7, Av.bool s.2), (31, int t.next.length), (32, int s.1)],
          hmat 3 t.next.length (fun x => rowM t.next.length (mid t d s.1 0 x)) (hlst [(1, boxA t), (17, .box 32 cA)])⟩) (fun s => t.next.length - s.1) (0, false) ?_ ⟨by simp, by simp [chg_zero]⟩ ?_
        · refine Imp.toE (by simp) ?_
          simp only [mid_zero]
        · rintro ⟨a, mb⟩ ⟨han, hmb⟩
          dsimp only at han hmb ⊢
          refine AW_rgE (tyOf_good _) (fun _ => trivial) [1, 3, 4, 6, 7, 31, 32, 33] fun K' hK' => ?_
          repeat (refine sxf_next fun K2 hK2 => ?_; simp; (repeat (refine ⟨by omega, ?_⟩)); refine hK2 _ ?_; clear hK2 K2)
          first | refine sxf_nil (hK' _ ?_) | (refine sxf_next fun K2 hK2 => ?_; clear hK2 hK'; simp; fail "STUCK")
          refine AW.st (by simp only [St.normE, liveL, lst, List.lookup]; rfl) ?_
          clear hK' K'
          refine AW_then fun K6 hK6 => ?_
          refine AW_cond' (b := a < t.next.length) (by simp [D.le, D.le.go, takeMap]) (fun hc => ?_) (fun hc => ?_)
          · have ha : a < t.next.length := hc
            refine AW_skip (hK6 _ ?_)
            refine AW_then fun K7 hK7 => ?_
            refine AW_block ?_
            refine AW_rgE (tyOf_good _) (fun _ => trivial) [1, 3, 4, 6, 7, 8, 31, 32] fun K' hK' => ?_
            repeat (refine sxf_next fun K2 hK2 => ?_; simp; (repeat (refine ⟨by omega, ?_⟩)); refine hK2 _ ?_; clear hK2 K2)
            first | refine sxf_nil (hK' _ ?_) | (refine sxf_next fun K2 hK2 => ?_; clear hK2 hK'; simp; fail "STUCK")
            refine AW.st (by simp only [St.normE, liveL, lst, List.lookup]; rfl) ?_
            clear hK' K'
            refine AW_rgE (tyOf_good _) (fun _ => trivial) [1, 3, 4, 6, 7, 8, 31, 32, 35, 36] fun K' hK' => ?_
            repeat (refine sxf_next fun K2 hK2 => ?_; simp; (repeat (refine ⟨by omega, ?_⟩)); refine hK2 _ ?_; clear hK2 K2)
            first | refine sxf_nil (hK' _ ?_) | (refine sxf_next fun K2 hK2 => ?_; clear hK2 hK'; simp; fail "STUCK")
            refine AW.st (by simp only [St.normE, liveL, lst, List.lookup]; rfl) ?_
            clear hK' K'
            refine AW_for (S := Nat × Bool) (fun s => s.1 ≤ t.next.length ∧ (s.2 = true ↔ Chg t d a s.1)) (fun s => ⟨lst [(1, .ref 1 0 0), (3, int t.next.length), (4, .own 17 0 t.next.length), (6, int d), (7, Av.bool s.2), (8, int a), (31, int t.next.length), (32, int a), (35, int t.next.length), (36, int s.1)],
              hmat 3 t.next.length (fun x => rowM t.next.length (mid t d a s.1 x)) (hlst [(1, boxA t), (17, .box 32 cA)])⟩) (fun s => t.next.length - s.1) (0, mb) ?_ ⟨by simp, hmb⟩ ?_
            · refine Imp.toE (by simp) ?_
              rfl
            · rintro ⟨b, mc⟩ ⟨hbn, hmc⟩
              dsimp only at hbn hmc ⊢
              refine AW_rgE (tyOf_good _) (fun _ => trivial) [1, 3, 4, 6, 7, 8, 31, 32, 35, 36, 37] fun K' hK' => ?_
              repeat (refine sxf_next fun K2 hK2 => ?_; simp; (repeat (refine ⟨by omega, ?_⟩)); refine hK2 _ ?_; clear hK2 K2)
              first | refine sxf_nil (hK' _ ?_) | (refine sxf_next fun K2 hK2 => ?_; clear hK2 hK'; simp; fail "STUCK")
              refine AW.st (by simp only [St.normE, liveL, lst, List.lookup]; rfl) ?_
              clear hK' K'
              refine AW_then fun K8 hK8 => ?_
              refine AW_cond' (b := b < t.next.length) (by simp [D.le, D.le.go, takeMap]) (fun hc => ?_) (fun hc => ?_)
              · have hb : b < t.next.length := hc
                refine AW_skip (hK8 _ ?_)
                refine AW_then fun K9 hK9 => ?_
                refine AW_block ?_
                refine AW_rgE (tyOf_good _) (fun _ => trivial) [1, 3, 4, 6, 7, 8, 9, 31, 32, 35, 36] fun K' hK' => ?_
                repeat (refine sxf_next fun K2 hK2 => ?_; simp; (repeat (refine ⟨by omega, ?_⟩)); refine hK2 _ ?_; clear hK2 K2)
                first | refine sxf_nil (hK' _ ?_) | (refine sxf_next fun K2 hK2 => ?_; clear hK2 hK'; simp; fail "STUCK")
                refine AW.st (by simp only [St.normE, liveL, lst, List.lookup]; rfl) ?_
                clear hK' K'
                refine AW_then fun K10 hK10 => ?_
                refine AW_rgE (tyOf_good _) (fun _ => trivial) [1, 3, 4, 6, 7, 8, 9, 31, 32, 35, 36, 46] fun K' hK' => ?_
                repeat (refine sxf_next fun K2 hK2 => ?_; simp [hmat_lo, hmat_hi, hup_hmat_lo, hup_hmat_hi, hget, hgetA, hlenA, rowM_len, rowM_get, rowM_at, ha, hb, mid_here]; (repeat (refine ⟨by omega, ?_⟩)); refine hK2 _ ?_; clear hK2 K2)
                first | refine sxf_nil (hK' _ ?_) | (refine sxf_next fun K2 hK2 => ?_; clear hK2 hK'; simp [hmat_lo, hmat_hi, hup_hmat_lo, hup_hmat_hi, hget, hgetA, hlenA, rowM_len, rowM_get, rowM_at, ha, hb, mid_here]; fail "STUCK")
                refine AW.st (by simp only [St.normE, liveL, lst, List.lookup]; rfl) ?_
                clear hK' K'
                refine AW_cond' (b := 0 < apM t (d - 1) a b) (by simp [D.le, D.le.go, takeMap]) (fun hc => ?_) (fun hc => ?_)
                · have hsame := apM_marked t hd1 (a := a) (b := b) (by omega)
                  refine AW_exit (hK9 _ ?_)
                  refine AW_re (tyOf_good _) (fun _ => trivial) fun K' hK' => ?_
                  repeat (refine sxf_next fun K2 hK2 => ?_; simp; (repeat (refine ⟨by omega, ?_⟩)); refine hK2 _ ?_; clear hK2 K2)
                  first | refine sxf_nil (hK' _ ?_) | (refine sxf_next fun K2 hK2 => ?_; clear hK2 hK'; simp; fail "STUCK")
                  clear hK' K'
                  try simp only [thn, inb]
                  refine Again.mk (b + 1, mc) ⟨hb, by show mc = true ↔ Chg t d a (b + 1); rw [chg_same _ _ _ _ hsame]; exact hmc⟩ (by dsimp only; omega) ?_
                  refine Imp.toE (by simp) ?_
                  rw [mid_same hsame]
                · have h0 : apM t (d - 1) a b = 0 := by omega
                  refine AW_skip (hK10 _ ?_)
                  have hwa : t.next[a].length = wd t := by have h1 := ok.nextLen a ha; rw [List.getD_eq_getElem?_getD, List.getElem?_eq_getElem ha] at h1; exact h1
                  have hwb : t.next[b].length = wd t := by have h1 := ok.nextLen b hb; rw [List.getD_eq_getElem?_getD, List.getElem?_eq_getElem hb] at h1; exact h1
                  have hw64 : wd t ≤ 64 := ok.ins
                  refine AW_rgE (tyOf_good _) (fun _ => trivial) [1, 3, 4, 6, 7, 8, 9, 31, 32, 35, 36, 52, 53] fun K' hK' => ?_
                  repeat (refine sxf_next fun K2 hK2 => ?_; simp [hmat_lo, boxA, dRows, dRow, dInts, ha, hwa]; (repeat (refine ⟨by omega, ?_⟩)); refine hK2 _ ?_; clear hK2 K2)
                  first | refine sxf_nil (hK' _ ?_) | (refine sxf_next fun K2 hK2 => ?_; clear hK2 hK'; simp [hmat_lo, boxA, dRows, dRow, dInts, ha, hwa]; fail "STUCK")
                  refine AW.st (by simp only [St.normE, liveL, lst, List.lookup]; rfl) ?_
                  clear hK' K'
                  refine AW_for (S := Nat) (fun i => i ≤ wd t ∧ ∀ j, j < i → hitM t d (apM t (d - 1)) a b j = false) (fun i => ⟨lst [(1, .ref 1 0 0), (3, int t.next.length), (4, .own 17 0 t.next.length), (6, int d), (7, Av.bool mc), (8, int a), (9, int b), (31, int t.next.length), (32, int a), (35, int t.next.length), (36, int b), (52, int (wd t)), (53, int i)],
                    hmat 3 t.next.length (fun x => rowM t.next.length (mid t d a b x)) (hlst [(1, boxA t), (17, .box 32 cA)])⟩) (fun i => wd t - i) 0 ?_ (by simp) ?_
                  · refine Imp.toE (by simp) ?_
                    rfl
                  · rintro i ⟨hi, hmiss⟩
                    refine AW_rgE (tyOf_good _) (fun _ => trivial) [1, 3, 4, 6, 7, 8, 9, 31, 32, 35, 36, 52, 53, 54] fun K' hK' => ?_
                    repeat (refine sxf_next fun K2 hK2 => ?_; simp; (repeat (refine ⟨by omega, ?_⟩)); refine hK2 _ ?_; clear hK2 K2)
                    first | refine sxf_nil (hK' _ ?_) | (refine sxf_next fun K2 hK2 => ?_; clear hK2 hK'; simp; fail "STUCK")
                    refine AW.st (by simp only [St.normE, liveL, lst, List.lookup]; rfl) ?_
                    clear hK' K'
                    refine AW_then fun K11 hK11 => ?_
                    refine AW_cond' (b := i < wd t) (by simp [D.le, D.le.go, takeMap]) (fun hc => ?_) (fun hc => ?_)
                    · have hiw : i < wd t := hc
                      refine AW_skip (hK11 _ ?_)
                      refine AW_then fun K12 hK12 => ?_
                      refine AW_block ?_
                      refine AW_rgE (tyOf_good _) (fun _ => trivial) [1, 3, 4, 6, 7, 8, 9, 10, 31, 32, 35, 36, 52, 53] fun K' hK' => ?_
                      repeat (refine sxf_next fun K2 hK2 => ?_; simp; (repeat (refine ⟨by omega, ?_⟩)); refine hK2 _ ?_; clear hK2 K2)
                      first | refine sxf_nil (hK' _ ?_) | (refine sxf_next fun K2 hK2 => ?_; clear hK2 hK'; simp; fail "STUCK")
                      refine AW.st (by simp only [St.normE, liveL, lst, List.lookup]; rfl) ?_
                      clear hK' K'
                      have hia : i < t.next[a].length := by omega
                      have hib : i < t.next[b].length := by omega
                      refine AW_rdE (tyOf_good _) (by kernel_rfl) [1, 3, 4, 6, 7, 8, 9, 10, 11, 12, 31, 32, 35, 36, 52, 53] (by kernel_rfl) fun K' hK' => ?_
                      repeat (refine sxd_next fun K2 hK2 => ?_; simp [hmat_lo, boxA, dRows, dRow, dInts, ha, hb, hia, hib]; (repeat (refine ⟨by omega, ?_⟩)); refine hK2 _ ?_; clear hK2 K2)
                      first | refine sxd_nil (hK' _ ?_) | (refine sxd_next fun K2 hK2 => ?_; clear hK2 hK'; simp [hmat_lo, boxA, dRows, dRow, dInts, ha, hb, hia, hib]; fail "STUCK")
                      refine AW.st (by simp only [St.normE, liveL, lst, List.lookup]; rfl) ?_
                      clear hK' K'
                      have hxp := next_at ok ha hiw hia
                      have hyp := next_at ok hb hiw hib
                      have hx0 := hxp.1
                      have hx2 := hxp.2.1
                      have hnxa := hxp.2.2
                      have hy0 := hyp.1
                      have hy2 := hyp.2.1
                      have hnxb := hyp.2.2
                      have hta := (tells_at ok ha hiw).choose
                      have htb := (tells_at ok hb hiw).choose
                      have hia2 := (tells_at ok ha hiw).choose_spec.choose
                      have hib2 := (tells_at ok hb hiw).choose_spec.choose
                      have htea : te t a i = t.tells[a][i] := (tells_at ok ha hiw).choose_spec.choose_spec
                      have hteb : te t b i = t.tells[b][i] := (tells_at ok hb hiw).choose_spec.choose_spec
                      have hxn : t.next[a][i].toNat < t.next.length := by omega
                      have hyn : t.next[b][i].toNat < t.next.length := by omega
                      by_cases hd : d = 1
                      · subst hd
                        by_cases ht : t.tells[a][i] = t.tells[b][i]
                        · refine AW_rdE (tyOf_good _) (by kernel_rfl) [1, 3, 4, 6, 7, 8, 9, 31, 32, 35, 36, 52, 53, 108] (by kernel_rfl) fun K' hK' => ?_
                          repeat (refine sxd_next fun K2 hK2 => ?_; simp [ht, dRows, dRow, dInts, boxA, hmat_lo, hta, htb, hia2, hib2]; (repeat (refine ⟨by omega, ?_⟩)); refine hK2 _ ?_; clear hK2 K2)
                          first | refine sxd_nil (hK' _ ?_) | (refine sxd_next fun K2 hK2 => ?_; clear hK2 hK'; simp [ht, dRows, dRow, dInts, boxA, hmat_lo, hta, htb, hia2, hib2]; fail "STUCK")
                          refine AW.st (by simp only [St.normE, liveL, lst, List.lookup]; rfl) ?_
                          clear hK' K'
                          refine AW_cond false rfl (fun h => by cases h) (fun _ => ?_)
                          refine AW_skip (hK12 _ ?_)
                          refine AW_re (tyOf_good _) (fun _ => trivial) fun K' hK' => ?_
                          repeat (refine sxf_next fun K2 hK2 => ?_; simp; (repeat (refine ⟨by omega, ?_⟩)); refine hK2 _ ?_; clear hK2 K2)
                          first | refine sxf_nil (hK' _ ?_) | (refine sxf_next fun K2 hK2 => ?_; clear hK2 hK'; simp; fail "STUCK")
                          clear hK' K'
                          try simp only [thn, inb]
                          refine Again.mk (i + 1) ⟨by omega, fun j hj => ?_⟩ (by omega) ?_
                          · rcases Nat.lt_or_ge j i with h | h
                            · exact hmiss j h
                            · rw [show j = i by omega]; exact by simp [hitM, htea, hteb, ht]
                          refine Imp.toE (by simp) ?_
                          rfl
                        · refine AW_rdE (tyOf_good _) (by kernel_rfl) [1, 3, 4, 6, 7, 8, 9, 31, 32, 35, 36, 52, 53, 108] (by kernel_rfl) fun K' hK' => ?_
                          repeat (refine sxd_next fun K2 hK2 => ?_; simp [ht, dRows, dRow, dInts, boxA, hmat_lo, hta, htb, hia2, hib2]; (repeat (refine ⟨by omega, ?_⟩)); refine hK2 _ ?_; clear hK2 K2)
                          first | refine sxd_nil (hK' _ ?_) | (refine sxd_next fun K2 hK2 => ?_; clear hK2 hK'; simp [ht, dRows, dRow, dInts, boxA, hmat_lo, hta, htb, hia2, hib2]; fail "STUCK")
                          refine AW.st (by simp only [St.normE, liveL, lst, List.lookup]; rfl) ?_
                          clear hK' K'
                          refine AW_cond true rfl (fun _ => ?_) (fun h => by cases h)
                          refine AW_rgE (tyOf_good _) (fun _ => trivial) [1, 3, 4, 6, 8, 31, 32, 35, 36] fun K' hK' => ?_
                          repeat (refine sxf_next fun K2 hK2 => ?_; simp [hmat_lo, hmat_hi, hup_hmat_lo, hup_hmat_hi, hget, hgetA, hlenA, rowM_len, rowM_get, rowM_at, ha, hb]; (repeat (refine ⟨by omega, ?_⟩)); refine hK2 _ ?_; clear hK2 K2)
                          first | refine sxf_nil (hK' _ ?_) | (refine sxf_next fun K2 hK2 => ?_; clear hK2 hK'; simp [hmat_lo, hmat_hi, hup_hmat_lo, hup_hmat_hi, hget, hgetA, hlenA, rowM_len, rowM_get, rowM_at, ha, hb]; fail "STUCK")
                          refine AW.st (by simp only [St.normE, liveL, lst, List.lookup]; rfl) ?_
                          clear hK' K'
                          refine AW_rgE (tyOf_good _) (fun _ => trivial) [1, 3, 4, 6, 7, 8, 31, 32, 35, 36] fun K' hK' => ?_
                          repeat (refine sxf_next fun K2 hK2 => ?_; simp; (repeat (refine ⟨by omega, ?_⟩)); refine hK2 _ ?_; clear hK2 K2)
                          first | refine sxf_nil (hK' _ ?_) | (refine sxf_next fun K2 hK2 => ?_; clear hK2 hK'; simp; fail "STUCK")
                          refine AW.st (by simp only [St.normE, liveL, lst, List.lookup]; rfl) ?_
                          clear hK' K'
                          refine AW_exit (hK9 _ ?_)
                          refine AW_re (tyOf_good _) (fun _ => trivial) fun K' hK' => ?_
                          repeat (refine sxf_next fun K2 hK2 => ?_; simp; (repeat (refine ⟨by omega, ?_⟩)); refine hK2 _ ?_; clear hK2 K2)
                          first | refine sxf_nil (hK' _ ?_) | (refine sxf_next fun K2 hK2 => ?_; clear hK2 hK'; simp; fail "STUCK")
                          clear hK' K'
                          try simp only [thn, inb]
                          have hnew : apM t 1 a b = 1 := apM_hit t hd1 h0 hiw (by simp [hitM, htea, hteb, ht])
                          refine Again.mk (b + 1, true) ⟨hb, iff_of_true rfl (chg_new t ha hb (by omega))⟩ (by dsimp only; omega) ?_
                          refine Imp.toE (by simp) ?_
                          exact congrArg (fun M => hmat 3 t.next.length M (hlst [(1, boxA t), (17, .box 32 cA)])) (mid_write hb hnew)
                      · have hd2 : (1 : Int) < (d : Int) := by omega
                        have hdi : ¬ (d : Int) = 1 := by omega
                        have hrd := mid_read t (d := d) (by omega) a b t.next[a][i].toNat t.next[b][i].toNat
                        by_cases hr : mid t d a b t.next[a][i].toNat t.next[b][i].toNat = d - 1
                        · have hri : ((mid t d a b t.next[a][i].toNat t.next[b][i].toNat : Nat) : Int) = (d : Int) - 1 := by omega
                          refine AW_rdE (tyOf_good _) (by kernel_rfl) [1, 3, 4, 6, 7, 8, 9, 31, 32, 35, 36, 52, 53, 108] (by kernel_rfl) fun K' hK' => ?_
                          repeat (refine sxd_next fun K2 hK2 => ?_; simp [hri, hd, hd2, hdi, hx0, hx2, hy0, hy2, hxn, hyn, hmat_lo, hmat_hi, hup_hmat_lo, hup_hmat_hi, hget, hgetA, hlenA, rowM_len, rowM_get, rowM_at, ha, hb]; (repeat (refine ⟨by omega, ?_⟩)); refine hK2 _ ?_; clear hK2 K2)
                          first | refine sxd_nil (hK' _ ?_) | (refine sxd_next fun K2 hK2 => ?_; clear hK2 hK'; simp [hri, hd, hd2, hdi, hx0, hx2, hy0, hy2, hxn, hyn, hmat_lo, hmat_hi, hup_hmat_lo, hup_hmat_hi, hget, hgetA, hlenA, rowM_len, rowM_get, rowM_at, ha, hb]; fail "STUCK")
                          refine AW.st (by simp only [St.normE, liveL, lst, List.lookup]; rfl) ?_
                          clear hK' K'
                          refine AW_cond true rfl (fun _ => ?_) (fun h => by cases h)
                          refine AW_rgE (tyOf_good _) (fun _ => trivial) [1, 3, 4, 6, 8, 31, 32, 35, 36] fun K' hK' => ?_
                          repeat (refine sxf_next fun K2 hK2 => ?_; simp [hmat_lo, hmat_hi, hup_hmat_lo, hup_hmat_hi, hget, hgetA, hlenA, rowM_len, rowM_get, rowM_at, ha, hb]; (repeat (refine ⟨by omega, ?_⟩)); refine hK2 _ ?_; clear hK2 K2)
                          first | refine sxf_nil (hK' _ ?_) | (refine sxf_next fun K2 hK2 => ?_; clear hK2 hK'; simp [hmat_lo, hmat_hi, hup_hmat_lo, hup_hmat_hi, hget, hgetA, hlenA, rowM_len, rowM_get, rowM_at, ha, hb]; fail "STUCK")
                          refine AW.st (by simp only [St.normE, liveL, lst, List.lookup]; rfl) ?_
                          clear hK' K'
                          refine AW_rgE (tyOf_good _) (fun _ => trivial) [1, 3, 4, 6, 7, 8, 31, 32, 35, 36] fun K' hK' => ?_
                          repeat (refine sxf_next fun K2 hK2 => ?_; simp; (repeat (refine ⟨by omega, ?_⟩)); refine hK2 _ ?_; clear hK2 K2)
                          first | refine sxf_nil (hK' _ ?_) | (refine sxf_next fun K2 hK2 => ?_; clear hK2 hK'; simp; fail "STUCK")
                          refine AW.st (by simp only [St.normE, liveL, lst, List.lookup]; rfl) ?_
                          clear hK' K'
                          refine AW_exit (hK9 _ ?_)
                          refine AW_re (tyOf_good _) (fun _ => trivial) fun K' hK' => ?_
                          repeat (refine sxf_next fun K2 hK2 => ?_; simp; (repeat (refine ⟨by omega, ?_⟩)); refine hK2 _ ?_; clear hK2 K2)
                          first | refine sxf_nil (hK' _ ?_) | (refine sxf_next fun K2 hK2 => ?_; clear hK2 hK'; simp; fail "STUCK")
                          clear hK' K'
                          try simp only [thn, inb]
                          have hnew : apM t d a b = d := apM_hit t hd1 h0 hiw (by simp [hitM, hd, hnxa, hnxb, hrd.1 hr])
                          refine Again.mk (b + 1, true) ⟨hb, iff_of_true rfl (chg_new t ha hb (by omega))⟩ (by dsimp only; omega) ?_
                          refine Imp.toE (by simp) ?_
                          exact congrArg (fun M => hmat 3 t.next.length M (hlst [(1, boxA t), (17, .box 32 cA)])) (mid_write hb hnew)
                        · have hri : ¬ ((mid t d a b t.next[a][i].toNat t.next[b][i].toNat : Nat) : Int) = (d : Int) - 1 := by omega
                          refine AW_rdE (tyOf_good _) (by kernel_rfl) [1, 3, 4, 6, 7, 8, 9, 31, 32, 35, 36, 52, 53, 108] (by kernel_rfl) fun K' hK' => ?_
                          repeat (refine sxd_next fun K2 hK2 => ?_; simp [hri, hd, hd2, hdi, hx0, hx2, hy0, hy2, hxn, hyn, hmat_lo, hmat_hi, hup_hmat_lo, hup_hmat_hi, hget, hgetA, hlenA, rowM_len, rowM_get, rowM_at, ha, hb]; (repeat (refine ⟨by omega, ?_⟩)); refine hK2 _ ?_; clear hK2 K2)
                          first | refine sxd_nil (hK' _ ?_) | (refine sxd_next fun K2 hK2 => ?_; clear hK2 hK'; simp [hri, hd, hd2, hdi, hx0, hx2, hy0, hy2, hxn, hyn, hmat_lo, hmat_hi, hup_hmat_lo, hup_hmat_hi, hget, hgetA, hlenA, rowM_len, rowM_get, rowM_at, ha, hb]; fail "STUCK")
                          refine AW.st (by simp only [St.normE, liveL, lst, List.lookup]; rfl) ?_
                          clear hK' K'
                          refine AW_cond false rfl (fun h => by cases h) (fun _ => ?_)
                          refine AW_skip (hK12 _ ?_)
                          refine AW_re (tyOf_good _) (fun _ => trivial) fun K' hK' => ?_
                          repeat (refine sxf_next fun K2 hK2 => ?_; simp; (repeat (refine ⟨by omega, ?_⟩)); refine hK2 _ ?_; clear hK2 K2)
                          first | refine sxf_nil (hK' _ ?_) | (refine sxf_next fun K2 hK2 => ?_; clear hK2 hK'; simp; fail "STUCK")
                          clear hK' K'
                          try simp only [thn, inb]
                          refine Again.mk (i + 1) ⟨by omega, fun j hj => ?_⟩ (by omega) ?_
                          · rcases Nat.lt_or_ge j i with h | h
                            · exact hmiss j h
                            · rw [show j = i by omega]; exact by simp [hitM, hd, hnxa, hnxb]; exact fun h => hr (hrd.2 h)
                          refine Imp.toE (by simp) ?_
                          rfl
                    · obtain rfl : i = wd t := by omega
                      have hsame := apM_miss t hd1 hmiss
                      refine AW_exit (hK9 _ ?_)
                      refine AW_re (tyOf_good _) (fun _ => trivial) fun K' hK' => ?_
                      repeat (refine sxf_next fun K2 hK2 => ?_; simp; (repeat (refine ⟨by omega, ?_⟩)); refine hK2 _ ?_; clear hK2 K2)
                      first | refine sxf_nil (hK' _ ?_) | (refine sxf_next fun K2 hK2 => ?_; clear hK2 hK'; simp; fail "STUCK")
                      clear hK' K'
                      try simp only [thn, inb]
                      refine Again.mk (b + 1, mc) ⟨hb, by show mc = true ↔ Chg t d a (b + 1); rw [chg_same _ _ _ _ hsame]; exact hmc⟩ (by dsimp only; omega) ?_
                      refine Imp.toE (by simp) ?_
                      rw [mid_same hsame]
              · obtain rfl : b = t.next.length := by omega
                refine AW_exit (hK7 _ ?_)
                refine AW_re (tyOf_good _) (fun _ => trivial) fun K' hK' => ?_
                repeat (refine sxf_next fun K2 hK2 => ?_; simp; (repeat (refine ⟨by omega, ?_⟩)); refine hK2 _ ?_; clear hK2 K2)
                first | refine sxf_nil (hK' _ ?_) | (refine sxf_next fun K2 hK2 => ?_; clear hK2 hK'; simp; fail "STUCK")
                clear hK' K'
                try simp only [thn, inb]
                refine Again.mk (a + 1, mc) ⟨ha, by show mc = true ↔ Chg t d (a + 1) 0; rw [← chg_row]; exact hmc⟩ (by dsimp only; omega) ?_
                refine Imp.toE (by simp) ?_
                exact hmat_congr fun x _ => rowM_congr fun y hy => mid_row t d a _ hy
          · obtain rfl : a = t.next.length := by omega
            refine AW_exit (hK5 _ ?_)
            cases mb with
            | false =>
              refine AW_rgE (tyOf_good _) (fun _ => trivial) [1, 3, 4, 6, 120] fun K' hK' => ?_
              repeat (refine sxf_next fun K2 hK2 => ?_; simp; (repeat (refine ⟨by omega, ?_⟩)); refine hK2 _ ?_; clear hK2 K2)
              first | refine sxf_nil (hK' _ ?_) | (refine sxf_next fun K2 hK2 => ?_; clear hK2 hK'; simp; fail "STUCK")
              refine AW.st (by simp only [St.normE, liveL, lst, List.lookup]; rfl) ?_
              clear hK' K'
              refine AW_cond true rfl (fun _ => ?_) (fun h => by cases h)
              have hch : ¬ Chg t d t.n 0 := fun h => by simpa using hmb.2 h
              have hdk' : d = k + 1 := chg_none ok hd1 hs hdk hch
              have hE : ∀ hl : Heap, hmat 3 t.next.length (fun x => rowM t.next.length (mid t d t.next.length 0 x)) hl = hmat 3 t.next.length (fun x => rowM t.next.length (apM t k x)) hl := fun hl => hmat_congr fun x hx => rowM_congr fun y hy => by
                rw [mid_end t d _ hx]
                have : apM t d x y = apM t (d - 1) x y := Classical.byContradiction fun hne => hch ⟨x, y, hx, hy, .inl hx, hne⟩
                rw [this, hdk', Nat.add_sub_cancel]
              rw [hE]
              refine AW.imp (Imp.freezeM (tyO := 32) (fun _ => trivial) 4 rfl (by decide) (by simp [hlst, List.lookup, hcell]) (fun x _ => rowM_len _ _)) ?_
              refine AW_rg (tyOf_good _) (fun _ => trivial) [2] [] fun K' hK' => ?_
              repeat (refine sxf_next fun K2 hK2 => ?_; simp; (repeat (refine ⟨by omega, ?_⟩)); refine hK2 _ ?_; clear hK2 K2)
              first | refine sxf_nil (hK' _ ?_) | (refine sxf_next fun K2 hK2 => ?_; clear hK2 hK'; simp; fail "STUCK")
              refine AW.st (by simp; rfl) ?_
              clear hK' K'
              refine AW_ret ?_
              simp [D.le, D.le.go, takeMap, dMat]
            | true =>
              refine AW_rgE (tyOf_good _) (fun _ => trivial) [1, 3, 4, 6, 120] fun K' hK' => ?_
              repeat (refine sxf_next fun K2 hK2 => ?_; simp; (repeat (refine ⟨by omega, ?_⟩)); refine hK2 _ ?_; clear hK2 K2)
              first | refine sxf_nil (hK' _ ?_) | (refine sxf_next fun K2 hK2 => ?_; clear hK2 hK'; simp; fail "STUCK")
              refine AW.st (by simp only [St.normE, liveL, lst, List.lookup]; rfl) ?_
              clear hK' K'
              refine AW_cond false rfl (fun h => by cases h) (fun _ => ?_)
              refine AW_skip (hK4 _ ?_)
              refine AW_re (tyOf_good _) (fun _ => trivial) fun K' hK' => ?_
              repeat (refine sxf_next fun K2 hK2 => ?_; simp; (repeat (refine ⟨by omega, ?_⟩)); refine hK2 _ ?_; clear hK2 K2)
              first | refine sxf_nil (hK' _ ?_) | (refine sxf_next fun K2 hK2 => ?_; clear hK2 hK'; simp; fail "STUCK")
              clear hK' K'
              try simp only [thn, inb]
              refine Again.mk (d + 1) ⟨by omega, by have := chg_some ok hd1 hs hdk (hmb.1 rfl); omega⟩ (by omega) ?_
              refine Imp.toE (by simp) ?_
              exact hmat_congr fun x hx => rowM_congr fun y hy => mid_end t d _ hx y
#print axioms apart_spec
end Go.Proofs.YtoikggboakojlaaDoor

/-
  The table of blocks.
-/
namespace Go.Proofs.YtoikggboakojlaaDoor
open Go.Av
set_option linter.unusedSimpArgs false
set_option linter.unusedVariables false

theorem leastSt_len (t : Tab) (l : List Int) : ∀ n, (leastSt t l n).1.length ≤ n ∧ (leastSt t l n).2.length = (leastSt t l n).1.length
  | 0 => by simp [leastSt]
  | n + 1 => by
    have ih := leastSt_len t l n
    rw [leastSt_succ]
    unfold leastStep
    split
    · omega
    · simp; omega

set_option maxHeartbeats 1000000 in
theorem least_bad (G : Glob) (t : Tab) (e : Int × Option Nat) (h : checkF t = some e) : PureC Tryd.prog G 18 [dTab t] (.tup [dTab ⟨[], []⟩, dErr (some e)]) := by
  refine PureC.of_body (tyOf_good _) Tryd.func18 rfl rfl (rs := [.cell 2 25, .tmp 3]) Tryd.results18 (by simp [Tryd.ntmps18]) fun X => ?_
  simp only [Tryd.ntmps18, List.map]
  refine AW_rg (tyOf_good _) (fun _ => trivial) [1, 2] [1, 2] fun K' hK' => ?_
  repeat (refine sxf_next fun K2 hK2 => ?_; simp [dTab]; (repeat (refine ⟨by omega, ?_⟩)); refine hK2 _ ?_; clear hK2 K2)
  first | refine sxf_nil (hK' _ ?_) | (refine sxf_next fun K2 hK2 => ?_; clear hK2 hK'; simp [dTab]; fail "STUCK")
  refine AW.st (by simp [dTab]; rfl) ?_
  clear hK' K'
  refine AW_rg (tyOf_good _) (fun _ => trivial) [1, 2, 4, 5] [1, 2] fun K' hK' => ?_
  repeat (refine sxf_next fun K2 hK2 => ?_; simp; (repeat (refine ⟨by omega, ?_⟩)); refine hK2 _ ?_; clear hK2 K2)
  refine sxf_next fun K2 hK2 => ?_
  simp
  refine callK.data (blocks_bad G t e h) (by simp; rfl) (by first | exact D.leGo_refl _ | simp [takeMap, List.map_map, Function.comp_def, D.le, D.le.go, D.le_refl, D.leGo_refl]) ?_
  refine hK2 _ ?_
  clear hK2 K2
  simp only [putd, upd_lst]
  repeat (refine sxf_next fun K2 hK2 => ?_; simp; (repeat (refine ⟨by omega, ?_⟩)); refine hK2 _ ?_; clear hK2 K2)
  first | refine sxf_nil (hK' _ ?_) | (refine sxf_next fun K2 hK2 => ?_; clear hK2 hK'; simp; fail "STUCK")
  refine AW.st (by simp; rfl) ?_
  clear hK' K'
  refine AW_then fun K1 hK1 => ?_
  obtain ⟨c, s⟩ := e
  cases s
  · refine AW_rg (tyOf_good _) (fun _ => trivial) [1, 2, 4, 5, 18] [1, 2] fun K' hK' => ?_
    repeat (refine sxf_next fun K2 hK2 => ?_; simp [dErr]; (repeat (refine ⟨by omega, ?_⟩)); refine hK2 _ ?_; clear hK2 K2)
    first | refine sxf_nil (hK' _ ?_) | (refine sxf_next fun K2 hK2 => ?_; clear hK2 hK'; simp [dErr]; fail "STUCK")
    refine AW.st (by simp [dErr]; rfl) ?_
    clear hK' K'
    refine AW_cond true rfl (fun _ => ?_) (fun h => by cases h)
    refine AW_rg (tyOf_good _) (fun _ => trivial) [2, 3] [1, 2] fun K' hK' => ?_
    repeat (refine sxf_next fun K2 hK2 => ?_; simp [dErr]; (repeat (refine ⟨by omega, ?_⟩)); refine hK2 _ ?_; clear hK2 K2)
    first | refine sxf_nil (hK' _ ?_) | (refine sxf_next fun K2 hK2 => ?_; clear hK2 hK'; simp [dErr]; fail "STUCK")
    refine AW.st (by simp [dErr]; rfl) ?_
    clear hK' K'
    refine AW_ret ?_
    simp [D.le, D.le.go, takeMap, dErr, dTab, dRows]
  · refine AW_rg (tyOf_good _) (fun _ => trivial) [1, 2, 4, 5, 18] [1, 2] fun K' hK' => ?_
    repeat (refine sxf_next fun K2 hK2 => ?_; simp [dErr]; (repeat (refine ⟨by omega, ?_⟩)); refine hK2 _ ?_; clear hK2 K2)
    first | refine sxf_nil (hK' _ ?_) | (refine sxf_next fun K2 hK2 => ?_; clear hK2 hK'; simp [dErr]; fail "STUCK")
    refine AW.st (by simp [dErr]; rfl) ?_
    clear hK' K'
    refine AW_cond true rfl (fun _ => ?_) (fun h => by cases h)
    refine AW_rg (tyOf_good _) (fun _ => trivial) [2, 3] [1, 2] fun K' hK' => ?_
    repeat (refine sxf_next fun K2 hK2 => ?_; simp [dErr]; (repeat (refine ⟨by omega, ?_⟩)); refine hK2 _ ?_; clear hK2 K2)
    first | refine sxf_nil (hK' _ ?_) | (refine sxf_next fun K2 hK2 => ?_; clear hK2 hK'; simp [dErr]; fail "STUCK")
    refine AW.st (by simp [dErr]; rfl) ?_
    clear hK' K'
    refine AW_ret ?_
    simp [D.le, D.le.go, takeMap, dErr, dTab, dRows]

def pre (l row : List Int) (i : Nat) : List Int := (row.take i).map fun x => l.getD x.toNat 0
theorem pre_zero (l row : List Int) : pre l row 0 = [] := by simp [pre]
theorem pre_succ (l : List Int) {row : List Int} {i : Nat} (h : i < row.length) : pre l row (i + 1) = pre l row i ++ [l.getD row[i].toNat 0] := by
  unfold pre
  rw [List.take_succ_eq_append_getElem h, List.map_append]
  rfl
theorem pre_all (l row : List Int) : pre l row row.length = row.map fun x => l.getD x.toNat 0 := by simp [pre]
theorem pre_len (l : List Int) {row : List Int} {i : Nat} (h : i ≤ row.length) : (pre l row i).length = i := by simp [pre]; omega

set_option maxHeartbeats 2000000 in
theorem least_good (G : Glob) (t : Tab) (ok : Ok t) (k : Nat) (hk : k < 2^20) (hs : Stops t k) : PureC Tryd.prog G 18 [dTab t] (.tup [dTab (leastF t (iter t k)), .v .nilIface]) := by
  have hblocks := blocks_good G t ok k hk hs
  have hlen : (iter t k).length = t.next.length := iter_len t k
  have is := least_is ok hs.1
  generalize iter t k = l at hblocks hlen is
  have hmost : t.next.length ≤ 500 := ok.most
  refine PureC.of_body (tyOf_good _) Tryd.func18 rfl rfl (rs := [.cell 2 25, .tmp 3]) Tryd.results18 (by simp [Tryd.ntmps18]) fun X => ?_
  simp only [Tryd.ntmps18, List.map]
  refine AW_rg (tyOf_good _) (fun _ => trivial) [1, 2] [1, 2] fun K' hK' => ?_
  repeat (refine sxf_next fun K2 hK2 => ?_; simp [dTab]; (repeat (refine ⟨by omega, ?_⟩)); refine hK2 _ ?_; clear hK2 K2)
  first | refine sxf_nil (hK' _ ?_) | (refine sxf_next fun K2 hK2 => ?_; clear hK2 hK'; simp [dTab]; fail "STUCK")
  refine AW.st (by simp [dTab]; rfl) ?_
  clear hK' K'
  refine AW_rg (tyOf_good _) (fun _ => trivial) [1, 2, 4, 5] [1, 2] fun K' hK' => ?_
  repeat (refine sxf_next fun K2 hK2 => ?_; simp; (repeat (refine ⟨by omega, ?_⟩)); refine hK2 _ ?_; clear hK2 K2)
  refine sxf_next fun K2 hK2 => ?_
  simp
  refine callK.data (hblocks) (by simp; rfl) (by first | exact D.leGo_refl _ | simp [takeMap, List.map_map, Function.comp_def, D.le, D.le.go, D.le_refl, D.leGo_refl]) ?_
  refine hK2 _ ?_
  clear hK2 K2
  simp only [putd, upd_lst]
  repeat (refine sxf_next fun K2 hK2 => ?_; simp; (repeat (refine ⟨by omega, ?_⟩)); refine hK2 _ ?_; clear hK2 K2)
  first | refine sxf_nil (hK' _ ?_) | (refine sxf_next fun K2 hK2 => ?_; clear hK2 hK'; simp; fail "STUCK")
  refine AW.st (by simp; rfl) ?_
  clear hK' K'
  refine AW_then fun K1 hK1 => ?_
  refine AW_rg (tyOf_good _) (fun _ => trivial) [1, 2, 4, 5, 18] [1, 2] fun K' hK' => ?_
  repeat (refine sxf_next fun K2 hK2 => ?_; simp; (repeat (refine ⟨by omega, ?_⟩)); refine hK2 _ ?_; clear hK2 K2)
  first | refine sxf_nil (hK' _ ?_) | (refine sxf_next fun K2 hK2 => ?_; clear hK2 hK'; simp; fail "STUCK")
  refine AW.st (by simp; rfl) ?_
  clear hK' K'
  refine AW_cond false rfl (fun h => by cases h) (fun _ => ?_)
  refine AW_skip (hK1 _ ?_)
  refine AW_rg (tyOf_good _) (fun _ => trivial) [1, 2, 4, 6] [1, 2, 6] fun K' hK' => ?_
  repeat (refine sxf_next fun K2 hK2 => ?_; simp; (repeat (refine ⟨by omega, ?_⟩)); refine hK2 _ ?_; clear hK2 K2)
  first | refine sxf_nil (hK' _ ?_) | (refine sxf_next fun K2 hK2 => ?_; clear hK2 hK'; simp; fail "STUCK")
  refine AW.st (by simp; rfl) ?_
  clear hK' K'
  refine AW_then fun K2 hK2 => ?_
  refine AW_rg (tyOf_good _) (fun _ => trivial) [1, 2, 4, 6, 21, 22, 23] [1, 2, 6] fun K' hK' => ?_
  repeat (refine sxf_next fun K2 hK2 => ?_; simp [dRow, dInts]; (repeat (refine ⟨by omega, ?_⟩)); refine hK2 _ ?_; clear hK2 K2)
  first | refine sxf_nil (hK' _ ?_) | (refine sxf_next fun K2 hK2 => ?_; clear hK2 hK'; simp [dRow, dInts]; fail "STUCK")
  refine AW.st (by simp [dRow, dInts]; rfl) ?_
  clear hK' K'
  refine AW_for (S := Nat) (fun n => n ≤ t.next.length) (fun n => ⟨lst [(1, .ref 1 0 0), (2, .ref 2 0 0), (4, .d (dRow l)), (6, .ref 6 0 0), (21, .d (dRow l)), (22, int t.next.length), (23, int n)],
    hlst [(1, boxT t), (2, .box 25 [.d (.sl (some false) []), .d (.sl (some false) [])]), (6, .box 25 [.own 55 0 (leastSt t l n).1.length, .own 65 0 (leastSt t l n).1.length]), (55, rowR (leastSt t l n).1), (65, rowR (leastSt t l n).2)]⟩) (fun n => t.next.length - n) 0 ?_ (by simp) ?_
  · refine (Imp.adoptCell 6 0 55 32 1 rfl rfl rfl).trans ((Imp.adoptCell 6 1 65 32 1 rfl rfl rfl).trans ?_)
    refine Imp.to' (fun _ => trivial) (by simp [boxT, rowR, dRow, dInts, dRows, leastSt, hlen]) (by simp [boxT, rowR, dRow, dInts, dRows, leastSt, hlen])
  · intro n hn
    obtain ⟨hN, hT⟩ := leastSt_len t l n
    have hnext := leastSt_succ t l n
    generalize hst : leastSt t l n = st at hN hT hnext
    obtain ⟨Ns, Ts⟩ := st
    dsimp only at hN hT hnext
    have htT : ∀ f : List Int → List D, List.take Ns.length (List.map f Ts) = List.map f Ts := fun f => List.take_of_length_le (by simp [hT])
    refine AW_rg (tyOf_good _) (fun _ => trivial) [1, 2, 4, 6, 21, 22, 23, 24] [1, 2, 6, 55, 65] fun K' hK' => ?_
    repeat (refine sxf_next fun K2 hK2 => ?_; simp [rowR, boxT]; (repeat (refine ⟨by omega, ?_⟩)); refine hK2 _ ?_; clear hK2 K2)
    first | refine sxf_nil (hK' _ ?_) | (refine sxf_next fun K2 hK2 => ?_; clear hK2 hK'; simp [rowR, boxT]; fail "STUCK")
    refine AW.st (by simp [rowR, boxT]; rfl) ?_
    clear hK' K'
    refine AW_then fun K3 hK3 => ?_
    refine AW_cond' (b := n < t.next.length) (by simp [D.le, D.le.go, takeMap]) (fun hc => ?_) (fun hc => ?_)
    · refine AW_skip (hK3 _ ?_)
      have hnl : n < l.length := by omega
      have hnt : n < t.n := hc
      have hgn : t.next.getD n [] = t.next[n] := by rw [List.getD_eq_getElem?_getD, List.getElem?_eq_getElem hc]; rfl
      have hln : l.getD n 0 = l[n] := by simp [hnl]
      have htl : n < t.tells.length := by have := ok.tells; unfold Tab.n at hnt this; omega
      have hgt : t.tells.getD n [] = t.tells[n] := by simp [htl]
      refine AW_then fun K4 hK4 => ?_
      refine AW_block ?_
      refine AW_rg (tyOf_good _) (fun _ => trivial) [1, 2, 4, 6, 7, 8, 21, 22, 23] [1, 2, 6, 55, 65] fun K' hK' => ?_
      repeat (refine sxf_next fun K2 hK2 => ?_; simp [dRow, dInts, hnl]; (repeat (refine ⟨by omega, ?_⟩)); refine hK2 _ ?_; clear hK2 K2)
      first | refine sxf_nil (hK' _ ?_) | (refine sxf_next fun K2 hK2 => ?_; clear hK2 hK'; simp [dRow, dInts, hnl]; fail "STUCK")
      refine AW.st (by simp [dRow, dInts, hnl]; rfl) ?_
      clear hK' K'
      refine AW_then fun K5 hK5 => ?_
      refine AW_rg (tyOf_good _) (fun _ => trivial) [1, 2, 4, 6, 7, 21, 22, 23, 32] [1, 2, 6, 55, 65] fun K' hK' => ?_
      repeat (refine sxf_next fun K2 hK2 => ?_; simp [rowR, boxT]; (repeat (refine ⟨by omega, ?_⟩)); refine hK2 _ ?_; clear hK2 K2)
      first | refine sxf_nil (hK' _ ?_) | (refine sxf_next fun K2 hK2 => ?_; clear hK2 hK'; simp [rowR, boxT]; fail "STUCK")
      refine AW.st (by simp [rowR, boxT]; rfl) ?_
      clear hK' K'
      unfold leastStep at hnext
      dsimp only at hnext
      rw [hln, hgn, hgt] at hnext
      refine AW_cond' (b := l[n] < (Ns.length : Int)) (by simp [D.le, D.le.go, takeMap]) (fun hc => ?_) (fun hc => ?_)
      · rw [if_pos hc] at hnext
        refine AW_exit (hK4 _ ?_)
        refine AW_re (tyOf_good _) (fun _ => trivial) fun K' hK' => ?_
        repeat (refine sxf_next fun K2 hK2 => ?_; simp; (repeat (refine ⟨by omega, ?_⟩)); refine hK2 _ ?_; clear hK2 K2)
        first | refine sxf_nil (hK' _ ?_) | (refine sxf_next fun K2 hK2 => ?_; clear hK2 hK'; simp; fail "STUCK")
        clear hK' K'
        try simp only [thn, inb]
        refine Again.mk (n + 1) (by omega) (by omega) ?_
        refine Imp.to' (fun _ => trivial) (by simp [boxT, rowR, dRow, dInts, hnext]) (by simp [boxT, rowR, dRow, dInts, hnext])
      · rw [if_neg hc] at hnext
        refine AW_skip (hK5 _ ?_)
        refine AW_rg (tyOf_good _) (fun _ => trivial) [1, 2, 4, 6, 7, 9, 21, 22, 23] [1, 2, 6, 55, 65] fun K' hK' => ?_
        repeat (refine sxf_next fun K2 hK2 => ?_; simp; (repeat (refine ⟨by omega, ?_⟩)); refine hK2 _ ?_; clear hK2 K2)
        first | refine sxf_nil (hK' _ ?_) | (refine sxf_next fun K2 hK2 => ?_; clear hK2 hK'; simp; fail "STUCK")
        refine AW.st (by simp; rfl) ?_
        clear hK' K'
        refine AW_then fun K6 hK6 => ?_
        rename_i hcn
        refine AW_rg (tyOf_good _) (fun _ => trivial) [1, 2, 4, 6, 7, 9, 21, 22, 23, 37, 38, 39] [1, 2, 6, 55, 65] fun K' hK' => ?_
        repeat (refine sxf_next fun K2 hK2 => ?_; simp [boxT, dRows, dRow, dInts, hcn]; (repeat (refine ⟨by omega, ?_⟩)); refine hK2 _ ?_; clear hK2 K2)
        first | refine sxf_nil (hK' _ ?_) | (refine sxf_next fun K2 hK2 => ?_; clear hK2 hK'; simp [boxT, dRows, dRow, dInts, hcn]; fail "STUCK")
        refine AW.st (by simp [boxT, dRows, dRow, dInts, hcn]; rfl) ?_
        clear hK' K'
        have hw := ok.nextLen n hnt
        have hw2 := ok.tellsLen n hnt
        have hin := ok.ins
        have hth := ok.there n hnt
        rw [hgn] at hw hth
        rw [hgt] at hw2
        generalize hr : t.next[n] = row at hw hth hnext
        refine AW_for (S := Nat) (fun i => i ≤ row.length) (fun i => ⟨lst [(1, .ref 1 0 0), (2, .ref 2 0 0), (4, .d (dRow l)), (6, .ref 6 0 0), (7, int n), (9, .own 70 0 i), (21, .d (dRow l)), (22, int t.next.length), (23, int n), (37, .d (dRow row)), (38, int row.length), (39, int i)],
          hlst [(1, boxT t), (2, .box 25 [.d (.sl (some false) []), .d (.sl (some false) [])]), (6, .box 25 [.own 55 0 Ns.length, .own 65 0 Ns.length]), (55, rowR Ns), (65, rowR Ts), (70, rowI (pre l row i))]⟩) (fun i => row.length - i) 0 ?_ (by simp) ?_
        · refine (Imp.adopt 9 70 3 1 rfl rfl).trans ?_
          refine Imp.to' (fun _ => trivial) (by simp [boxT, rowR, rowI, dRow, dInts, dRows, pre_zero]) (by simp [boxT, rowR, rowI, dRow, dInts, dRows, pre_zero])
        · intro i hi
          have hpl := pre_len l hi
          refine AW_rg (tyOf_good _) (fun _ => trivial) [1, 2, 4, 6, 7, 9, 21, 22, 23, 37, 38, 39, 40] [1, 2, 6, 55, 65, 70] fun K' hK' => ?_
          repeat (refine sxf_next fun K2 hK2 => ?_; simp [rowI, rowR, boxT]; (repeat (refine ⟨by omega, ?_⟩)); refine hK2 _ ?_; clear hK2 K2)
          first | refine sxf_nil (hK' _ ?_) | (refine sxf_next fun K2 hK2 => ?_; clear hK2 hK'; simp [rowI, rowR, boxT]; fail "STUCK")
          refine AW.st (by simp [rowI, rowR, boxT]; rfl) ?_
          clear hK' K'
          refine AW_then fun K7 hK7 => ?_
          refine AW_cond' (b := i < row.length) (by simp [D.le, D.le.go, takeMap]) (fun hc => ?_) (fun hc => ?_)
          · refine AW_skip (hK7 _ ?_)
            rename_i hil
            have hil : i < row.length := hc
            obtain ⟨hx0, hx1⟩ := hth row[i] (by simp)
            have hx2 : row[i] < (l.length : Int) := by rw [hlen]; exact hx1
            have hx3 : row[i].toNat < l.length := by omega
            have htk := pre_succ l hil
            have hpt : ∀ f : Int → List D, List.take i (List.map f (pre l row i)) = List.map f (pre l row i) := fun f => List.take_of_length_le (by simp [hpl])
            refine AW_then fun K8 hK8 => ?_
            refine AW_block ?_
            refine AW_rg (tyOf_good _) (fun _ => trivial) [1, 2, 4, 6, 7, 9, 11, 21, 22, 23, 37, 38, 39] [1, 2, 6, 55, 65, 70] fun K' hK' => ?_
            repeat (refine sxf_next fun K2 hK2 => ?_; simp [dRow, dInts, hil]; (repeat (refine ⟨by omega, ?_⟩)); refine hK2 _ ?_; clear hK2 K2)
            first | refine sxf_nil (hK' _ ?_) | (refine sxf_next fun K2 hK2 => ?_; clear hK2 hK'; simp [dRow, dInts, hil]; fail "STUCK")
            refine AW.st (by simp [dRow, dInts, hil]; rfl) ?_
            clear hK' K'
            refine AW_re (tyOf_good _) (fun _ => trivial) fun K' hK' => ?_
            repeat (refine sxf_next fun K2 hK2 => ?_; simp [dRow, dInts, hx0, hx2, hx3, takeMap]; (repeat (refine ⟨by omega, ?_⟩)); refine hK2 _ ?_; clear hK2 K2)
            first | refine sxf_nil (hK' _ ?_) | (refine sxf_next fun K2 hK2 => ?_; clear hK2 hK'; simp [dRow, dInts, hx0, hx2, hx3, takeMap]; fail "STUCK")
            clear hK' K'
            refine hK8 _ (AW.norm (fun _ => trivial) [1, 2, 4, 6, 7, 9, 21, 22, 23, 37, 38, 39] [1, 2, 6, 55, 65, 70] (AW.st (by simp [dRow, dInts, hx0, hx2, hx3, takeMap]; rfl) ?_))
            refine AW_re (tyOf_good _) (fun _ => trivial) fun K' hK' => ?_
            repeat (refine sxf_next fun K2 hK2 => ?_; simp; (repeat (refine ⟨by omega, ?_⟩)); refine hK2 _ ?_; clear hK2 K2)
            first | refine sxf_nil (hK' _ ?_) | (refine sxf_next fun K2 hK2 => ?_; clear hK2 hK'; simp; fail "STUCK")
            clear hK' K'
            try simp only [thn, inb]
            refine Again.mk (i + 1) (by omega) (by omega) ?_
            refine Imp.to' (fun _ => trivial) (by simp [boxT, rowR, rowI, dRow, dInts, dRows, dNum, htk, hil, hx3, hpt]) (by simp [boxT, rowR, rowI, dRow, dInts, dRows, dNum, htk, hil, hx3, hpt])
          · have hil : i = row.length := by omega
            subst hil
            refine AW_exit (hK6 _ ?_)
            have hpl := pre_len l (Nat.le_refl row.length)
            refine AW.imp (Imp.freeze 70 (fun _ => trivial)) ?_
            refine AW.st (by simp [rowI, rowR, boxT, hpl]; rfl) ?_
            refine AW_rle (tyOf_good _) (by kernel_rfl) ([(4, (55, 54)), (14, (65, 64))]) ([(5, [55]), (6, [55]), (7, [55]), (8, [55]), (9, [55]), (10, [55]), (11, [55]), (15, [65])]) ([0, 1, 2, 5, 6, 7, 8, 9, 10, 11, 3, 4, 12, 13, 15, 14, 16, 17, 18]) (by kernel_rfl) fun K' hK' => ?_
            repeat (refine sxl_nextO rfl fun K2 hK2 => ?_; simp [rowI, rowR, boxT, dRow, dInts, dRows, htl, takeMap]; (repeat (refine ⟨by omega, ?_⟩)); refine hK2 _ ?_; clear hK2 K2)
            refine sxl_nextO rfl fun K2 hK2 => ?_
            simp [rowI, rowR, boxT, dRow, dInts, dRows, htl, takeMap]
            refine callD.mk (clone_spec G t.tells[n] (by omega)) (by simp; rfl) (by simp; rfl) (by first | exact D.leGo_refl _ | simp [takeMap, List.map_map, Function.comp_def, D.le, D.le.go, D.le_refl, D.leGo_refl, rowI, rowR, boxT, dRow, dInts, dRows, htl, takeMap]) (by simp) ?_
            refine hK2 _ ?_
            clear hK2 K2
            simp only [putd, upd_lst]
            repeat (refine sxl_nextO rfl fun K2 hK2 => ?_; simp [rowI, rowR, boxT, dRow, dInts, dRows, htl, takeMap]; (repeat (refine ⟨by omega, ?_⟩)); refine hK2 _ ?_; clear hK2 K2)
            first | refine sxl_nilO (hK' _ ?_) | (refine sxl_nextO rfl fun K2 hK2 => ?_; clear hK2 hK'; simp [rowI, rowR, boxT, dRow, dInts, dRows, htl, takeMap]; fail "STUCK")
            clear hK' K'
            refine hK4 _ (AW.norm (fun _ => trivial) [1, 2, 4, 6, 21, 22, 23] [1, 2, 6, 55, 65] (AW.st (by simp [rowI, rowR, boxT, dRow, dInts, dRows, htl, takeMap]; rfl) ?_))
            refine AW_re (tyOf_good _) (fun _ => trivial) fun K' hK' => ?_
            repeat (refine sxf_next fun K2 hK2 => ?_; simp; (repeat (refine ⟨by omega, ?_⟩)); refine hK2 _ ?_; clear hK2 K2)
            first | refine sxf_nil (hK' _ ?_) | (refine sxf_next fun K2 hK2 => ?_; clear hK2 hK'; simp; fail "STUCK")
            clear hK' K'
            try simp only [thn, inb]
            refine Again.mk (n + 1) (by omega) (by omega) ?_
            refine Imp.to' (fun _ => trivial) (by simp [boxT, rowR, rowI, dRow, dInts, dRows, dNum, hnext, hT, hpl, pre_all, takeMap, htT]) (by simp [boxT, rowR, rowI, dRow, dInts, dRows, dNum, hnext, hT, hpl, pre_all, takeMap, htT])
    · refine AW_exit (hK2 _ ?_)
      have hnn : n = t.next.length := by omega
      subst hnn
      have hle : leastF t l = ⟨Ns, Ts⟩ := by unfold leastF Tab.n; rw [hst]
      refine AW_rg (tyOf_good _) (fun _ => trivial) [2, 3] [2, 55, 65] fun K' hK' => ?_
      repeat (refine sxf_next fun K2 hK2 => ?_; simp; (repeat (refine ⟨by omega, ?_⟩)); refine hK2 _ ?_; clear hK2 K2)
      first | refine sxf_nil (hK' _ ?_) | (refine sxf_next fun K2 hK2 => ?_; clear hK2 hK'; simp; fail "STUCK")
      refine AW.st (by simp; rfl) ?_
      clear hK' K'
      refine AW_ret ?_
      simp [D.le, D.le.go, takeMap, dTab, dRows, rowR, hle, hT, htT]
#print axioms least_bad
#print axioms least_good
end Go.Proofs.YtoikggboakojlaaDoor

/-
  The least inputs by which two states are told apart.
-/
namespace Go.Proofs.YtoikggboakojlaaDoor
open Go.Av
set_option linter.unusedSimpArgs false
set_option linter.unusedVariables false

/-- By input i two states are told apart, where k inputs are wanted. -/
def hitF (t : Tab) (k a b i : Nat) : Bool := if k = 1 then te t a i != te t b i else (iter t (k - 1)).getD (nx t a i) 0 != (iter t (k - 1)).getD (nx t b i) 0
def partF (t : Tab) : Nat → Nat → Nat → List Int
  | 0, _, _ => []
  | k + 1, a, b => match (List.range (wd t)).find? (hitF t (k + 1) a b) with
    | some i => (i : Int) :: partF t k (nx t a i) (nx t b i)
    | none => partF t k a b

/-- Two states have unlike numbers. -/
def apartF (a b : Nat) (l : List Int) : Bool := l.getD a 0 != l.getD b 0
def rndF (t : Tab) (k : Nat) : List (List Int) := (List.range (k + 1)).map (iter t)
theorem rndF_len (t : Tab) (k : Nat) : (rndF t k).length = k + 1 := by simp [rndF]
theorem rndF_get (t : Tab) (k q : Nat) (h : q < (rndF t k).length) : (rndF t k)[q] = iter t q := by simp [rndF]
theorem rndF_mem {t : Tab} {k : Nat} {x : List Int} (h : x ∈ rndF t k) : x.length = t.n := by
  obtain ⟨m, _, rfl⟩ := List.mem_map.1 h
  exact iter_len t m

theorem find_hit {p : Nat → Bool} {n i : Nat} (hi : i < n) (h : p i = true) (hb : ∀ j, j < i → p j = false) : (List.range n).find? p = some i := by
  rw [List.find?_range_eq_some]
  exact ⟨h, List.mem_range.2 hi, fun j hj => by simp [hb j hj]⟩
theorem find_miss {p : Nat → Bool} {n : Nat} (hb : ∀ j, j < n → p j = false) : (List.range n).find? p = none := by
  rw [List.find?_eq_none]
  intro x hx
  simp [hb x (List.mem_range.1 hx)]

theorem partF_hit {t : Tab} {k a b i : Nat} (hi : i < wd t) (h : hitF t (k + 1) a b i = true) (hb : ∀ j, j < i → hitF t (k + 1) a b j = false) : partF t (k + 1) a b = (i : Int) :: partF t k (nx t a i) (nx t b i) := by
  conv => lhs; unfold partF
  rw [find_hit hi h hb]
theorem partF_miss {t : Tab} {k a b : Nat} (hb : ∀ j, j < wd t → hitF t (k + 1) a b j = false) : partF t (k + 1) a b = partF t k a b := by
  conv => lhs; unfold partF
  rw [find_miss hb]

set_option maxHeartbeats 1000000 in
theorem part_bad (G : Glob) (t : Tab) (a b : Int) (e : Int × Option Nat) (h : checkF t = some e) : PureC Tryd.prog G 25 [dTab t, dNum a, dNum b] (.tup [.sl (some false) [], dErr (some e)]) := by
  refine PureC.of_body (tyOf_good _) Tryd.func25 rfl rfl (rs := [.tmp 6, .tmp 7]) Tryd.results25 (by simp [Tryd.ntmps25]) fun X => ?_
  simp only [Tryd.ntmps25, List.map]
  refine AW_rg (tyOf_good _) (fun _ => trivial) [3, 4, 5] [3, 4, 5] fun K' hK' => ?_
  repeat (refine sxf_next fun K2 hK2 => ?_; simp [dTab, dNum]; (repeat (refine ⟨by omega, ?_⟩)); refine hK2 _ ?_; clear hK2 K2)
  first | refine sxf_nil (hK' _ ?_) | (refine sxf_next fun K2 hK2 => ?_; clear hK2 hK'; simp [dTab, dNum]; fail "STUCK")
  refine AW.st (by simp [dTab, dNum]; rfl) ?_
  clear hK' K'
  refine AW_then fun K1 hK1 => ?_
  refine AW_rg (tyOf_good _) (fun _ => trivial) [3, 4, 5, 8] [3, 4, 5] fun K' hK' => ?_
  repeat (refine sxf_next fun K2 hK2 => ?_; simp; (repeat (refine ⟨by omega, ?_⟩)); refine hK2 _ ?_; clear hK2 K2)
  refine sxf_next fun K2 hK2 => ?_
  simp
  refine callK.data (check_spec G t) (by simp; rfl) (by first | exact D.leGo_refl _ | simp [takeMap, List.map_map, Function.comp_def, D.le, D.le.go, D.le_refl, D.leGo_refl]) ?_
  refine hK2 _ ?_
  clear hK2 K2
  simp only [putd, upd_lst]
  repeat (refine sxf_next fun K2 hK2 => ?_; simp; (repeat (refine ⟨by omega, ?_⟩)); refine hK2 _ ?_; clear hK2 K2)
  first | refine sxf_nil (hK' _ ?_) | (refine sxf_next fun K2 hK2 => ?_; clear hK2 hK'; simp; fail "STUCK")
  refine AW.st (by simp; rfl) ?_
  clear hK' K'
  rw [h]
  obtain ⟨c, s⟩ := e
  cases s
  · refine AW_rg (tyOf_good _) (fun _ => trivial) [3, 4, 5, 8, 18] [3, 4, 5] fun K' hK' => ?_
    repeat (refine sxf_next fun K2 hK2 => ?_; simp [dErr]; (repeat (refine ⟨by omega, ?_⟩)); refine hK2 _ ?_; clear hK2 K2)
    first | refine sxf_nil (hK' _ ?_) | (refine sxf_next fun K2 hK2 => ?_; clear hK2 hK'; simp [dErr]; fail "STUCK")
    refine AW.st (by simp [dErr]; rfl) ?_
    clear hK' K'
    refine AW_cond true rfl (fun _ => ?_) (fun h => by cases h)
    refine AW_rg (tyOf_good _) (fun _ => trivial) [6, 7] [3, 4, 5] fun K' hK' => ?_
    repeat (refine sxf_next fun K2 hK2 => ?_; simp; (repeat (refine ⟨by omega, ?_⟩)); refine hK2 _ ?_; clear hK2 K2)
    first | refine sxf_nil (hK' _ ?_) | (refine sxf_next fun K2 hK2 => ?_; clear hK2 hK'; simp; fail "STUCK")
    refine AW.st (by simp; rfl) ?_
    clear hK' K'
    refine AW_ret ?_
    simp [D.le, D.le.go, takeMap, dErr]
  · refine AW_rg (tyOf_good _) (fun _ => trivial) [3, 4, 5, 8, 18] [3, 4, 5] fun K' hK' => ?_
    repeat (refine sxf_next fun K2 hK2 => ?_; simp [dErr]; (repeat (refine ⟨by omega, ?_⟩)); refine hK2 _ ?_; clear hK2 K2)
    first | refine sxf_nil (hK' _ ?_) | (refine sxf_next fun K2 hK2 => ?_; clear hK2 hK'; simp [dErr]; fail "STUCK")
    refine AW.st (by simp [dErr]; rfl) ?_
    clear hK' K'
    refine AW_cond true rfl (fun _ => ?_) (fun h => by cases h)
    refine AW_rg (tyOf_good _) (fun _ => trivial) [6, 7] [3, 4, 5] fun K' hK' => ?_
    repeat (refine sxf_next fun K2 hK2 => ?_; simp; (repeat (refine ⟨by omega, ?_⟩)); refine hK2 _ ?_; clear hK2 K2)
    first | refine sxf_nil (hK' _ ?_) | (refine sxf_next fun K2 hK2 => ?_; clear hK2 hK'; simp; fail "STUCK")
    refine AW.st (by simp; rfl) ?_
    clear hK' K'
    refine AW_ret ?_
    simp [D.le, D.le.go, takeMap, dErr]

set_option maxHeartbeats 1000000 in
theorem part_range (G : Glob) (t : Tab) (a b : Int) (ok : Ok t) (h : a < 0 ∨ (t.n : Int) ≤ a ∨ b < 0 ∨ (t.n : Int) ≤ b) : PureC Tryd.prog G 25 [dTab t, dNum a, dNum b] (.tup [.sl (some false) [], dErr (some (2, none))]) := by
  have hch : checkF t = none := ok_iff.2 ok
  unfold Tab.n at h
  refine PureC.of_body (tyOf_good _) Tryd.func25 rfl rfl (rs := [.tmp 6, .tmp 7]) Tryd.results25 (by simp [Tryd.ntmps25]) fun X => ?_
  simp only [Tryd.ntmps25, List.map]
  refine AW_rg (tyOf_good _) (fun _ => trivial) [3, 4, 5] [3, 4, 5] fun K' hK' => ?_
  repeat (refine sxf_next fun K2 hK2 => ?_; simp [dTab, dNum]; (repeat (refine ⟨by omega, ?_⟩)); refine hK2 _ ?_; clear hK2 K2)
  first | refine sxf_nil (hK' _ ?_) | (refine sxf_next fun K2 hK2 => ?_; clear hK2 hK'; simp [dTab, dNum]; fail "STUCK")
  refine AW.st (by simp [dTab, dNum]; rfl) ?_
  clear hK' K'
  refine AW_then fun K1 hK1 => ?_
  refine AW_rg (tyOf_good _) (fun _ => trivial) [3, 4, 5, 8] [3, 4, 5] fun K' hK' => ?_
  repeat (refine sxf_next fun K2 hK2 => ?_; simp; (repeat (refine ⟨by omega, ?_⟩)); refine hK2 _ ?_; clear hK2 K2)
  refine sxf_next fun K2 hK2 => ?_
  simp
  refine callK.data (check_spec G t) (by simp; rfl) (by first | exact D.leGo_refl _ | simp [takeMap, List.map_map, Function.comp_def, D.le, D.le.go, D.le_refl, D.leGo_refl]) ?_
  refine hK2 _ ?_
  clear hK2 K2
  simp only [putd, upd_lst]
  repeat (refine sxf_next fun K2 hK2 => ?_; simp; (repeat (refine ⟨by omega, ?_⟩)); refine hK2 _ ?_; clear hK2 K2)
  first | refine sxf_nil (hK' _ ?_) | (refine sxf_next fun K2 hK2 => ?_; clear hK2 hK'; simp; fail "STUCK")
  refine AW.st (by simp; rfl) ?_
  clear hK' K'
  rw [hch]
  refine AW_rg (tyOf_good _) (fun _ => trivial) [3, 4, 5, 8, 18] [3, 4, 5] fun K' hK' => ?_
  repeat (refine sxf_next fun K2 hK2 => ?_; simp [dErr]; (repeat (refine ⟨by omega, ?_⟩)); refine hK2 _ ?_; clear hK2 K2)
  first | refine sxf_nil (hK' _ ?_) | (refine sxf_next fun K2 hK2 => ?_; clear hK2 hK'; simp [dErr]; fail "STUCK")
  refine AW.st (by simp [dErr]; rfl) ?_
  clear hK' K'
  refine AW_cond false rfl (fun h => by cases h) (fun _ => ?_)
  refine AW_skip (hK1 _ ?_)
  refine AW_then fun K2 hK2 => ?_
  by_cases h1 : a < 0
  · refine AW_rg (tyOf_good _) (fun _ => trivial) [3, 4, 5, 39] [3, 4, 5] fun K' hK' => ?_
    repeat (refine sxf_next fun K2 hK2 => ?_; simp [h1, dRows]; (repeat (refine ⟨by omega, ?_⟩)); refine hK2 _ ?_; clear hK2 K2)
    first | refine sxf_nil (hK' _ ?_) | (refine sxf_next fun K2 hK2 => ?_; clear hK2 hK'; simp [h1, dRows]; fail "STUCK")
    refine AW.st (by simp [h1, dRows]; rfl) ?_
    clear hK' K'
    refine AW_cond true rfl (fun _ => ?_) (fun h => by cases h)
    refine AW_rg (tyOf_good _) (fun _ => trivial) [6, 7] [3, 4, 5] fun K' hK' => ?_
    repeat (refine sxf_next fun K2 hK2 => ?_; simp; (repeat (refine ⟨by omega, ?_⟩)); refine hK2 _ ?_; clear hK2 K2)
    first | refine sxf_nil (hK' _ ?_) | (refine sxf_next fun K2 hK2 => ?_; clear hK2 hK'; simp; fail "STUCK")
    refine AW.st (by simp; rfl) ?_
    clear hK' K'
    refine AW_ret ?_
    simp [D.le, D.le.go, takeMap, dErr]
  by_cases h2 : (t.next.length : Int) ≤ a
  · refine AW_rg (tyOf_good _) (fun _ => trivial) [3, 4, 5, 39] [3, 4, 5] fun K' hK' => ?_
    repeat (refine sxf_next fun K2 hK2 => ?_; simp [h1, h2, dRows]; (repeat (refine ⟨by omega, ?_⟩)); refine hK2 _ ?_; clear hK2 K2)
    first | refine sxf_nil (hK' _ ?_) | (refine sxf_next fun K2 hK2 => ?_; clear hK2 hK'; simp [h1, h2, dRows]; fail "STUCK")
    refine AW.st (by simp [h1, h2, dRows]; rfl) ?_
    clear hK' K'
    refine AW_cond true rfl (fun _ => ?_) (fun h => by cases h)
    refine AW_rg (tyOf_good _) (fun _ => trivial) [6, 7] [3, 4, 5] fun K' hK' => ?_
    repeat (refine sxf_next fun K2 hK2 => ?_; simp; (repeat (refine ⟨by omega, ?_⟩)); refine hK2 _ ?_; clear hK2 K2)
    first | refine sxf_nil (hK' _ ?_) | (refine sxf_next fun K2 hK2 => ?_; clear hK2 hK'; simp; fail "STUCK")
    refine AW.st (by simp; rfl) ?_
    clear hK' K'
    refine AW_ret ?_
    simp [D.le, D.le.go, takeMap, dErr]
  by_cases h3 : b < 0
  · refine AW_rg (tyOf_good _) (fun _ => trivial) [3, 4, 5, 39] [3, 4, 5] fun K' hK' => ?_
    repeat (refine sxf_next fun K2 hK2 => ?_; simp [h1, h2, h3, dRows]; (repeat (refine ⟨by omega, ?_⟩)); refine hK2 _ ?_; clear hK2 K2)
    first | refine sxf_nil (hK' _ ?_) | (refine sxf_next fun K2 hK2 => ?_; clear hK2 hK'; simp [h1, h2, h3, dRows]; fail "STUCK")
    refine AW.st (by simp [h1, h2, h3, dRows]; rfl) ?_
    clear hK' K'
    refine AW_cond true rfl (fun _ => ?_) (fun h => by cases h)
    refine AW_rg (tyOf_good _) (fun _ => trivial) [6, 7] [3, 4, 5] fun K' hK' => ?_
    repeat (refine sxf_next fun K2 hK2 => ?_; simp; (repeat (refine ⟨by omega, ?_⟩)); refine hK2 _ ?_; clear hK2 K2)
    first | refine sxf_nil (hK' _ ?_) | (refine sxf_next fun K2 hK2 => ?_; clear hK2 hK'; simp; fail "STUCK")
    refine AW.st (by simp; rfl) ?_
    clear hK' K'
    refine AW_ret ?_
    simp [D.le, D.le.go, takeMap, dErr]
  have h4 : (t.next.length : Int) ≤ b := by omega
  refine AW_rg (tyOf_good _) (fun _ => trivial) [3, 4, 5, 39] [3, 4, 5] fun K' hK' => ?_
  repeat (refine sxf_next fun K2 hK2 => ?_; simp [h1, h2, h3, h4, dRows]; (repeat (refine ⟨by omega, ?_⟩)); refine hK2 _ ?_; clear hK2 K2)
  first | refine sxf_nil (hK' _ ?_) | (refine sxf_next fun K2 hK2 => ?_; clear hK2 hK'; simp [h1, h2, h3, h4, dRows]; fail "STUCK")
  refine AW.st (by simp [h1, h2, h3, h4, dRows]; rfl) ?_
  clear hK' K'
  refine AW_cond true rfl (fun _ => ?_) (fun h => by cases h)
  refine AW_rg (tyOf_good _) (fun _ => trivial) [6, 7] [3, 4, 5] fun K' hK' => ?_
  repeat (refine sxf_next fun K2 hK2 => ?_; simp; (repeat (refine ⟨by omega, ?_⟩)); refine hK2 _ ?_; clear hK2 K2)
  first | refine sxf_nil (hK' _ ?_) | (refine sxf_next fun K2 hK2 => ?_; clear hK2 hK'; simp; fail "STUCK")
  refine AW.st (by simp; rfl) ?_
  clear hK' K'
  refine AW_ret ?_
  simp [D.le, D.le.go, takeMap, dErr]
#print axioms part_bad
#print axioms part_range
end Go.Proofs.YtoikggboakojlaaDoor

/-
  Plain facts of tables: what is told of inputs; the inputs that part two states.
-/
namespace Go.Proofs.YtoikggboakojlaaDoor

/-- What is told of inputs. -/
def tellF (t : Tab) : Nat → List Nat → List Int
  | _, [] => []
  | s, i :: l => te t s i :: tellF t (nx t s i) l
/-- Where they lead. -/
def goF (t : Tab) : Nat → List Nat → Nat
  | s, [] => s
  | s, i :: l => goF t (nx t s i) l

theorem tellF_len (t : Tab) : ∀ (l : List Nat) (s : Nat), (tellF t s l).length = l.length
  | [], _ => rfl
  | i :: l, s => by simp [tellF, tellF_len t l]
theorem tellF_snoc (t : Tab) (i : Nat) : ∀ (l : List Nat) (s : Nat), tellF t s (l ++ [i]) = tellF t s l ++ [te t (goF t s l) i]
  | [], s => rfl
  | j :: l, s => by simp [tellF, goF, tellF_snoc t i l]
theorem goF_snoc (t : Tab) (i : Nat) : ∀ (l : List Nat) (s : Nat), goF t s (l ++ [i]) = nx t (goF t s l) i
  | [], s => rfl
  | j :: l, s => by simp [goF, goF_snoc t i l]
theorem goF_lt {t : Tab} (ok : Ok t) : ∀ (l : List Nat) (s : Nat), s < t.n → (∀ c ∈ l, c < wd t) → goF t s l < t.n
  | [], s, hs, _ => hs
  | i :: l, s, hs, h => goF_lt ok l _ (ok.nx_lt hs (h i (by simp))) fun c hc => h c (by simp [hc])

/-- States that are alike tell the same. -/
theorem tell_alike {t : Tab} (ok : Ok t) {k : Nat} (h : nextF t (iter t k) = iter t k) : ∀ (l : List Nat) (a b : Nat), a < t.n → b < t.n → Al t k a b → (∀ c ∈ l, c < wd t) → tellF t a l = tellF t b l
  | [], _, _, _, _, _, _ => rfl
  | i :: l, a, b, ha, hb, hab, hl => by
    have hi := hl i (by simp)
    obtain ⟨h1, h2⟩ := al_fix ok h ha hb hab i hi
    simp only [tellF, h1]
    rw [tell_alike ok h l _ _ (ok.nx_lt ha hi) (ok.nx_lt hb hi) h2 fun c hc => hl c (by simp [hc])]
/-- The table of blocks tells what its states do. -/
theorem tell_least {t u : Tab} (ok : Ok t) {k : Nat} (h : nextF t (iter t k) = iter t k) (hu : LeastIs t (iter t k) u) : ∀ (l : List Nat) (a q : Nat), a < t.n → q < u.n → (iter t k).getD a 0 = (q : Int) → (∀ c ∈ l, c < wd t) → tellF t a l = tellF u q l
  | [], _, _, _, _, _, _ => rfl
  | i :: l, a, q, ha, hq, he, hl => by
    have hi := hl i (by simp)
    obtain ⟨s, hs, e1, f⟩ := hu.rep q hq
    obtain ⟨h1, h2⟩ := al_fix ok h ha hs (by unfold Al; rw [he, e1]) i hi
    simp only [tellF, h1, (f i hi).1]
    have h3 := (f i hi).2
    unfold Al at h2
    rw [tell_least ok h hu l (nx t a i) (nx u q i) (ok.nx_lt ha hi) (hu.ok.nx_lt hq (by rw [hu.wide]; exact hi)) (by rw [h2, h3]) fun c hc => hl c (by simp [hc])]

theorem not_al {t : Tab} (ok : Ok t) {d a b : Nat} (ha : a < t.n) (hb : b < t.n) (h1 : Al t d a b) (h2 : ¬ Al t (d + 1) a b) : ∃ c, c < wd t ∧ hitF t (d + 1) a b c = true := by
  apply Classical.byContradiction
  intro hc
  apply h2
  refine (al_succ ok ha hb).2 ⟨h1, fun c hcw => ?_⟩
  have hno : ¬ hitF t (d + 1) a b c = true := fun e => hc ⟨c, hcw, e⟩
  unfold hitF at hno
  cases d with
  | zero =>
    simp at hno
    exact ⟨hno, al_zero (ok.nx_lt ha hcw) (ok.nx_lt hb hcw)⟩
  | succ d =>
    rw [if_neg (by omega)] at hno
    simp only [Nat.add_sub_cancel, bne_iff_ne, ne_eq, Classical.not_not] at hno
    exact ⟨(((al_succ ok ha hb).1 h1).2 c hcw).1, hno⟩

/-- The first one that fits. -/
theorem first_below {p : Nat → Bool} : ∀ {n : Nat}, (∃ c, c < n ∧ p c = true) → ∃ i, i < n ∧ p i = true ∧ ∀ j, j < i → p j = false
  | 0, ⟨c, hc, _⟩ => by omega
  | n + 1, h => by
    by_cases hx : ∃ c, c < n ∧ p c = true
    · obtain ⟨i, hi, r⟩ := first_below hx
      exact ⟨i, by omega, r⟩
    · obtain ⟨c, hc, hp⟩ := h
      have hcn : c = n := by
        apply Classical.byContradiction
        intro hne
        exact hx ⟨c, by omega, hp⟩
      subst hcn
      exact ⟨c, by omega, hp, fun j hj => by
        cases hpj : p j with
        | false => rfl
        | true => exact absurd ⟨j, hj, hpj⟩ hx⟩

/-- The inputs that are told part two states, at the last one alone. -/
theorem part_tells {t : Tab} (ok : Ok t) : ∀ (d a b : Nat), a < t.n → b < t.n → Al t d a b → ¬ Al t (d + 1) a b →
    ∃ L : List Nat, partF t (d + 1) a b = L.map (fun (c : Nat) => (c : Int)) ∧ L.length = d + 1 ∧ (∀ c ∈ L, c < wd t) ∧ ∃ pre x y, tellF t a L = pre ++ [x] ∧ tellF t b L = pre ++ [y] ∧ x ≠ y ∧ pre.length = d
  | 0, a, b, ha, hb, h1, h2 => by
    obtain ⟨i, hi, hp, hn⟩ := first_below (not_al ok ha hb h1 h2)
    refine ⟨[i], by rw [partF_hit hi hp hn]; rfl, rfl, by simpa using hi, [], te t a i, te t b i, rfl, rfl, ?_, rfl⟩
    simpa [hitF] using hp
  | d + 1, a, b, ha, hb, h1, h2 => by
    obtain ⟨i, hi, hp, hn⟩ := first_below (not_al ok ha hb h1 h2)
    have hh := ((al_succ ok ha hb).1 h1).2 i hi
    have hna : ¬ Al t (d + 1) (nx t a i) (nx t b i) := by
      unfold hitF at hp
      rw [if_neg (by omega)] at hp
      simp only [Nat.add_sub_cancel, bne_iff_ne, ne_eq] at hp
      exact hp
    obtain ⟨L, e1, e2, e3, pre, x, y, e4, e5, e6, e7⟩ := part_tells ok d _ _ (ok.nx_lt ha hi) (ok.nx_lt hb hi) hh.2 hna
    refine ⟨i :: L, by rw [partF_hit hi hp hn, e1]; rfl, by simp [e2], ?_, te t a i :: pre, x, y, by simp [tellF, e4], by simp [tellF, e5, hh.1], e6, by simp [e7]⟩
    intro c hc
    rcases List.mem_cons.1 hc with rfl | hc
    · exact hi
    · exact e3 c hc

theorem apart_iff {t : Tab} {a b m : Nat} : apartF a b (iter t m) = true ↔ ¬ Al t m a b := by simp [apartF, Al]

theorem idx_same {t : Tab} (ok : Ok t) {k a b : Nat} (ha : a < t.n) (hb : b < t.n) (h : Al t k a b) : idx (apartF a b) (rndF t k) < 0 := by
  rw [idx_miss]
  · omega
  · intro i hi
    rw [rndF_get]
    rw [rndF_len] at hi
    cases he : apartF a b (iter t i) with
    | false => rfl
    | true => exact absurd (al_down ok ha hb (k - i) (by rwa [show i + (k - i) = k by omega])) (apart_iff.1 he)
theorem idx_apart {t : Tab} {k a b : Nat} (ok : Ok t) (ha : a < t.n) (hb : b < t.n) (h : ¬ Al t k a b) : ∃ d, d + 1 ≤ k ∧ idx (apartF a b) (rndF t k) = ((d + 1 : Nat) : Int) ∧ Al t d a b ∧ ¬ Al t (d + 1) a b := by
  obtain ⟨d, hd, h1, h2⟩ := first_such (fun m => ¬ Al t m a b) k ⟨k, Nat.le_refl _, h⟩
  cases d with
  | zero => exact absurd (al_zero ha hb) h1
  | succ d =>
    refine ⟨d, hd, ?_, Classical.not_not.1 (h2 d (by omega)), h1⟩
    have hlen := rndF_len t k
    refine idx_hit (by omega) ?_ ?_
    · rw [rndF_get]
      exact apart_iff.2 h1
    · intro i hi
      rw [rndF_get]
      cases he : apartF a b (iter t i) with
      | false => rfl
      | true => exact absurd (apart_iff.1 he) (h2 i hi)
end Go.Proofs.YtoikggboakojlaaDoor

/-
  Plain facts: blocks, parts and the table of blocks, as pairs that are marked tell them.
-/
namespace Go.Proofs.YtoikggboakojlaaDoor

def sg (t : Tab) (k : Nat) : List (List Int) := (List.range t.n).map (sig t (iter t k))
theorem sg_len (t : Tab) (k : Nat) : (sg t k).length = t.n := by simp [sg]
theorem sg_num {t : Tab} {k : Nat} (hs : Stops t k) : numberF (sg t k) = iter t k := hs.1
theorem sg_same {t : Tab} {k : Nat} (hs : Stops t k) {i j : Nat} (hi : i < t.n) (hj : j < t.n) : (iter t k).getD i 0 = (iter t k).getD j 0 ↔ (sg t k).getD i [] = (sg t k).getD j [] := by
  have h := number_same (L := sg t k) (i := i) (j := j) (by rw [sg_len]; exact hi) (by rw [sg_len]; exact hj)
  rwa [sg_num hs] at h

/-- How many blocks the first states have. -/
def bn (t : Tab) (k s : Nat) : Nat := dn (sg t k) s
theorem bn_zero (t : Tab) (k : Nat) : bn t k 0 = 0 := by simp [bn, dn, numSt]
theorem bn_le {t : Tab} {k s : Nat} (h : s ≤ t.n) : bn t k s ≤ s := dn_le (by rw [sg_len]; exact h)
theorem blk_new {t : Tab} {k : Nat} (hs : Stops t k) {s : Nat} (h : s < t.n) (hnew : ∀ r, r < s → (iter t k).getD r 0 ≠ (iter t k).getD s 0) : bn t k (s + 1) = bn t k s + 1 ∧ (iter t k).getD s 0 = (bn t k s : Int) := by
  have h1 := number_new (L := sg t k) (n := s) (by rw [sg_len]; exact h) (fun i hi he => hnew i hi ((sg_same hs (by omega) h).2 he))
  rwa [sg_num hs] at h1
theorem blk_old {t : Tab} {k : Nat} (hs : Stops t k) {s r : Nat} (h : s < t.n) (hr : r < s) (he : (iter t k).getD r 0 = (iter t k).getD s 0) : bn t k (s + 1) = bn t k s ∧ 0 ≤ (iter t k).getD s 0 := by
  obtain ⟨h1, k', h2, _⟩ := number_old (L := sg t k) (n := s) (by rw [sg_len]; exact h) hr ((sg_same hs (by omega) h).1 he)
  rw [sg_num hs] at h2
  exact ⟨h1, by omega⟩
theorem blk_nat {t : Tab} {k : Nat} (hs : Stops t k) {s : Nat} (h : s < t.n) : 0 ≤ (iter t k).getD s 0 := by
  obtain ⟨q, h1, _⟩ := number_le (L := sg t k) (n := t.n) (i := s) (by rw [sg_len]; exact Nat.le_refl _) h
  rw [sg_num hs] at h1
  omega

/-- The number that is found among the states ahead: that of the state itself, or none. -/
def foundK (t : Tab) (k s r : Nat) : Int := if (List.range r).any (fun q => (iter t k).getD q 0 == (iter t k).getD s 0) then (iter t k).getD s 0 else -1
theorem foundK_zero (t : Tab) (k s : Nat) : foundK t k s 0 = -1 := by simp [foundK]
theorem foundK_hit {t : Tab} {k s r : Nat} (h : (iter t k).getD r 0 = (iter t k).getD s 0) : foundK t k s (r + 1) = (iter t k).getD s 0 := by
  unfold foundK
  rw [if_pos]
  exact List.any_eq_true.2 ⟨r, List.mem_range.2 (by omega), by simpa using h⟩
theorem foundK_miss {t : Tab} {k s r : Nat} (h : (iter t k).getD r 0 ≠ (iter t k).getD s 0) : foundK t k s (r + 1) = foundK t k s r := by
  unfold foundK
  rw [List.range_succ, List.any_append]
  have e : ((iter t k).getD r 0 == (iter t k).getD s 0) = false := by rw [beq_eq_false_iff_ne]; exact h
  rw [List.any_cons, List.any_nil, e, Bool.false_or, Bool.or_false]
theorem foundK_keep {t : Tab} {k : Nat} (hs : Stops t k) {s r : Nat} (hsn : s < t.n) (h : 0 ≤ foundK t k s r) : foundK t k s (r + 1) = foundK t k s r := by
  unfold foundK at h ⊢
  split at h
  · rename_i h1
    rw [if_pos h1, if_pos]
    rw [List.range_succ, List.any_append, h1, Bool.true_or]
  · omega
theorem foundK_neg {t : Tab} {k : Nat} (hs : Stops t k) {s r : Nat} (hsn : s < t.n) (h : foundK t k s r < 0) : ∀ q, q < r → (iter t k).getD q 0 ≠ (iter t k).getD s 0 := by
  intro q hq he
  have := blk_nat hs hsn
  unfold foundK at h
  rw [if_pos] at h
  · omega
  · exact List.any_eq_true.2 ⟨q, List.mem_range.2 hq, by simpa using he⟩
theorem foundK_pos {t : Tab} {k : Nat} {s r : Nat} (h : ¬ foundK t k s r < 0) : foundK t k s r = (iter t k).getD s 0 ∧ ∃ q, q < r ∧ (iter t k).getD q 0 = (iter t k).getD s 0 := by
  unfold foundK at h ⊢
  split at h
  · rename_i h1
    rw [if_pos h1]
    obtain ⟨q, hq, he⟩ := List.any_eq_true.1 h1
    exact ⟨rfl, q, List.mem_range.1 hq, by simpa using he⟩
  · omega

/-- The number of the last round ahead of which two states are alike. -/
theorem apM_val {t : Tab} (ok : Ok t) {k d a b : Nat} (ha : a < t.n) (hb : b < t.n) (hdk : d + 1 ≤ k) (h1 : Al t d a b) (h2 : ¬ Al t (d + 1) a b) : apM t k a b = d + 1 := by
  obtain ⟨g1, g2⟩ := apM_spec ok k a b ha hb
  have hpos : 0 < apM t k a b := Nat.pos_of_ne_zero fun h => h2 (al_le ok ha hb hdk (g1.1 h))
  obtain ⟨g3, g4, g5⟩ := g2 hpos
  exact Nat.le_antisymm (Nat.le_of_not_lt fun hlt => h2 (al_le ok ha hb (by omega) g4)) (Nat.le_of_not_lt fun hlt => g5 (al_le ok ha hb (by omega) h1))
theorem hit_ref {t : Tab} (ok : Ok t) {k m a b i : Nat} (ha : a < t.n) (hb : b < t.n) (hmk : m + 1 ≤ k) (hi : i < wd t) (h1 : Al t m a b) :
    hitF t (m + 1) a b i = if m = 0 then te t a i != te t b i else decide (apM t k (nx t a i) (nx t b i) = m) := by
  have hx := ok.nx_lt ha hi
  have hy := ok.nx_lt hb hi
  unfold hitF
  cases m with
  | zero => rw [if_pos rfl, if_pos rfl]
  | succ e =>
    rw [if_neg (by omega), if_neg (by omega)]
    have h2 := (((al_succ ok ha hb).1 h1).2 i hi).2
    by_cases h3 : Al t (e + 1) (nx t a i) (nx t b i)
    · have h4 : apM t k (nx t a i) (nx t b i) ≠ e + 1 := fun h => ((apM_spec ok k _ _ hx hy).2 (by omega)).2.2 (h ▸ h3)
      unfold Al at h3
      rw [decide_eq_false h4]
      simp only [Nat.add_sub_cancel, h3, bne_self_eq_false]
    · have h4 := apM_val ok (k := k) (d := e) hx hy (by omega) h2 h3
      unfold Al at h3
      rw [decide_eq_true h4]
      simpa using h3
/-- One input further: it is the first one that parts, and those that come of it are parted one input less late. -/
theorem part_step {t : Tab} (ok : Ok t) {m a b : Nat} (ha : a < t.n) (hb : b < t.n) (h1 : Al t m a b) (h2 : ¬ Al t (m + 1) a b) :
    ∃ i, i < wd t ∧ hitF t (m + 1) a b i = true ∧ (∀ j, j < i → hitF t (m + 1) a b j = false) ∧ (0 < m → Al t (m - 1) (nx t a i) (nx t b i) ∧ ¬ Al t m (nx t a i) (nx t b i)) := by
  obtain ⟨i, hi, hp, hn⟩ := first_below (not_al ok ha hb h1 h2)
  refine ⟨i, hi, hp, hn, fun hm => ?_⟩
  obtain ⟨e, rfl⟩ : ∃ e, m = e + 1 := ⟨m - 1, by omega⟩
  have hh := ((al_succ ok ha hb).1 h1).2 i hi
  refine ⟨hh.2, ?_⟩
  unfold hitF at hp
  rw [if_neg (by omega)] at hp
  simp only [Nat.add_sub_cancel, bne_iff_ne, ne_eq] at hp
  exact hp

/-- Whichever state of a block stands for it, its row is the same. -/
theorem least_row {t : Tab} (ok : Ok t) {k : Nat} (hs : Stops t k) {q s : Nat} (hq : q < (leastF t (iter t k)).n) (hsn : s < t.n) (he : (iter t k).getD s 0 = (q : Int)) :
    (leastF t (iter t k)).next.getD q [] = (t.next.getD s []).map (fun x => (iter t k).getD x.toNat 0) ∧ (leastF t (iter t k)).tells.getD q [] = t.tells.getD s [] := by
  have inv := least_inv (t := t) (l := iter t k) (S := sg t k) (sg_len t k) (sg_num hs).symm (Nat.le_refl t.n)
  obtain ⟨s', hs1, r1, r2, r3⟩ := inv.row q hq
  have hx := al_fix ok hs.1 hsn hs1 (show Al t k s s' by unfold Al; rw [he, r1])
  have l1 := ok.nextLen s hsn
  have l2 := ok.nextLen s' hs1
  have l3 := ok.tellsLen s hsn
  have l4 := ok.tellsLen s' hs1
  constructor
  · show (leastSt t (iter t k) t.n).1.getD q [] = _
    rw [r2]
    refine List.ext_getElem (by rw [List.length_map, List.length_map, l1, l2]) fun c h1 h2 => ?_
    have hc1 : c < (t.next.getD s' []).length := by simpa using h1
    have hc2 : c < (t.next.getD s []).length := by simpa using h2
    have hc : c < wd t := by unfold wd; omega
    have h := (hx c hc).2
    unfold Al nx at h
    rw [List.getD_eq_getElem?_getD (l := t.next.getD s []), List.getElem?_eq_getElem hc2, List.getD_eq_getElem?_getD (l := t.next.getD s' []), List.getElem?_eq_getElem hc1] at h
    simp only [List.getElem_map]
    exact h.symm
  · show (leastSt t (iter t k) t.n).2.getD q [] = _
    rw [r3]
    refine List.ext_getElem (by omega) fun c h1 h2 => ?_
    have hc : c < wd t := by unfold wd; omega
    have h := (hx c hc).1
    unfold te at h
    rw [List.getD_eq_getElem?_getD (l := t.tells.getD s []), List.getElem?_eq_getElem h2, List.getD_eq_getElem?_getD (l := t.tells.getD s' []), List.getElem?_eq_getElem h1] at h
    exact h.symm
theorem least_take {t : Tab} (ok : Ok t) {k : Nat} (hs : Stops t k) {q s : Nat} (hq : q < (leastF t (iter t k)).n) (hsn : s < t.n) (he : (iter t k).getD s 0 = (q : Int)) :
    (leastF t (iter t k)).next.take (q + 1) = (leastF t (iter t k)).next.take q ++ [(t.next.getD s []).map (fun x => (iter t k).getD x.toNat 0)] ∧ (leastF t (iter t k)).tells.take (q + 1) = (leastF t (iter t k)).tells.take q ++ [t.tells.getD s []] := by
  obtain ⟨h1, h2⟩ := least_row ok hs hq hsn he
  have hl : (leastF t (iter t k)).tells.length = (leastF t (iter t k)).next.length := (least_is ok hs.1).ok.tells
  have hq : q < (leastF t (iter t k)).next.length := hq
  rw [← h1, ← h2]
  constructor
  · rw [List.take_succ_eq_append_getElem hq, List.getD_eq_getElem?_getD, List.getElem?_eq_getElem hq]; rfl
  · rw [List.take_succ_eq_append_getElem (by omega), List.getD_eq_getElem?_getD, List.getElem?_eq_getElem (by omega)]; rfl
end Go.Proofs.YtoikggboakojlaaDoor

/-
  errors.As at a target of the type *api.Errno: Go's own text of errors.As and errors.as, walked (after the kit's worked example Toyas).
-/
namespace Go.Proofs.YtoikggboakojlaaDoor
open Go.RowKit Go.Extern.Stop Go.Stop Go.Extern
set_option linter.unusedSimpArgs false
set_option linter.unusedVariables false

/-! ### Closed facts on the model's entries for internal/reflectlite -/
theorem rl_valueOfP (t : Addr) (w : World) : (ReflectliteValue.unpack (.iface 124 (.pointer (some t)))).run Tryd.prog w
    = .ok (.agg #[.pointer (some ⟨6, 124, none⟩), .pointer (some ⟨w.heap.size, 0, none⟩), .int .u64 150]) (w.alloc (.cells #[.pointer (some t)] 124)) := by kernel_rfl
theorem rl_typeP (a : Addr) (w : World) : (ReflectliteValue.methodAny (ReflectliteValue.valueError "reflectlite.Value.Type" 0) (fun t _ _ _ => ReflectliteType.toType t) #[.agg #[.pointer (some ⟨6, 124, none⟩), .pointer (some a), .int .u64 150]]).run Tryd.prog w
    = .ok (.iface 177 (.agg #[.pointer (some ⟨6, 124, none⟩)])) w := by kernel_rfl
theorem rl_methodKind (h : Value) (w : World) : (Go.method 333 177 (.agg #[h]) "Kind").run Tryd.prog w = .ok (147, h) w := by kernel_rfl
theorem rl_kindP (w : World) : ((ReflectliteType.abiMethod fun t => (fun a : Nat => Value.int IntKind.u8 (a : Int)) <$> Rtype.kind t) #[.pointer (some ⟨6, 124, none⟩)]).run Tryd.prog w = .ok (.int .u8 22) w := by kernel_rfl
theorem rl_kindE (w : World) : ((ReflectliteType.abiMethod fun t => (fun a : Nat => Value.int IntKind.u8 (a : Int)) <$> Rtype.kind t) #[.pointer (some ⟨6, 27, none⟩)]).run Tryd.prog w = .ok (.int .u8 2) w := by kernel_rfl

theorem rlm (z : Sem Value) (f : TypeId → Addr → Nat → Nat → Sem Value) (v : Value) :
    ReflectliteValue.method z f #[v] = (do match ← ReflectliteValue.parts v with | none => z | some (t, a, fl) => f t a fl (fl % 32)) := rfl
theorem rl_partsP (a : Addr) (w : World) : (ReflectliteValue.parts (.agg #[.pointer (some ⟨6, 124, none⟩), .pointer (some a), .int .u64 150])).run Tryd.prog w = .ok (some (124, a, 150)) w := by kernel_rfl
theorem rl_isNilP (a p : Addr) (W : World) (ha : W.cell? a = some (.pointer (some p))) :
    (ReflectliteValue.method (ReflectliteValue.valueError "reflectlite.Value.IsNil" 0) ReflectliteValue.isNil #[.agg #[.pointer (some ⟨6, 124, none⟩), .pointer (some a), .int .u64 150]]).run Tryd.prog W = .ok (.bool false) W := by
  rw [rlm]
  simp only [Sem.run_bind, rl_partsP, Result.andThen]
  simp [ReflectliteValue.isNil, loadVar, isAgg, underlying, Tryd.underlying124, ha, Result.andThen]

theorem rl_methodElem (h : Value) (w : World) : (Go.method 333 177 (.agg #[h]) "Elem").run Tryd.prog w = .ok (159, .agg #[h]) w := by kernel_rfl
theorem rl_methodImplements (h : Value) (w : World) : (Go.method 333 177 (.agg #[h]) "Implements").run Tryd.prog w = .ok (160, .agg #[h]) w := by kernel_rfl
theorem rl_methodAssignableTo (h : Value) (w : World) : (Go.method 333 177 (.agg #[h]) "AssignableTo").run Tryd.prog w = .ok (157, .agg #[h]) w := by kernel_rfl
theorem rl_elemP (w : World) : (ReflectliteType.method ReflectliteType.elem #[.agg #[.pointer (some ⟨6, 124, none⟩)]]).run Tryd.prog w = .ok (.iface 177 (.agg #[.pointer (some ⟨6, 27, none⟩)])) w := by kernel_rfl
theorem rl_implementsE (w : World) : (ReflectliteType.relation "Implements" ReflectliteType.implements_ #[.agg #[.pointer (some ⟨6, 27, none⟩)], .iface 177 (.agg #[.pointer (some ⟨6, 34, none⟩)])]).run Tryd.prog w = .ok (.bool true) w := by kernel_rfl
theorem rl_typeOfE (v : Value) (w : World) : (ReflectliteType.typeOf #[.iface 27 v]).run Tryd.prog w = .ok (.iface 177 (.agg #[.pointer (some ⟨6, 27, none⟩)])) w := by kernel_rfl
theorem rl_typeOfA (v : Value) (w : World) : (ReflectliteType.typeOf #[.iface 109 v]).run Tryd.prog w = .ok (.iface 177 (.agg #[.pointer (some ⟨6, 109, none⟩)])) w := by kernel_rfl
theorem rl_assignableE (w : World) : (ReflectliteType.relation "AssignableTo" ReflectliteType.assignableTo #[.agg #[.pointer (some ⟨6, 27, none⟩)], .iface 177 (.agg #[.pointer (some ⟨6, 27, none⟩)])]).run Tryd.prog w = .ok (.bool true) w := by kernel_rfl
theorem rl_assignableA (w : World) : (ReflectliteType.relation "AssignableTo" ReflectliteType.assignableTo #[.agg #[.pointer (some ⟨6, 109, none⟩)], .iface 177 (.agg #[.pointer (some ⟨6, 27, none⟩)])]).run Tryd.prog w = .ok (.bool false) w := by kernel_rfl
theorem rl_valueOfE (n : Int) (w : World) : (ReflectliteValue.unpack (.iface 27 (.int .i64 n))).run Tryd.prog w
    = .ok (.agg #[.pointer (some ⟨6, 27, none⟩), .pointer (some ⟨w.heap.size, 0, none⟩), .int .u64 130]) (w.alloc (.cells #[.int .i64 n] 27)) := by kernel_rfl
theorem rl_elemOfP (w : World) : (Rtype.elem? 124).run Tryd.prog w = .ok (some 27) w := by kernel_rfl
theorem rl_mkE (p : Addr) (w : World) : (ReflectliteValue.mk 27 p ReflectliteValue.flagAddr).run Tryd.prog w = .ok (.agg #[.pointer (some ⟨6, 27, none⟩), .pointer (some p), .int .u64 386]) w := by kernel_rfl
theorem rl_elemVP (a p : Addr) (W : World) (ha : W.cell? a = some (.pointer (some p))) :
    (ReflectliteValue.method (ReflectliteValue.valueError "reflectlite.Value.Elem" 0) ReflectliteValue.elem #[.agg #[.pointer (some ⟨6, 124, none⟩), .pointer (some a), .int .u64 150]]).run Tryd.prog W
      = .ok (.agg #[.pointer (some ⟨6, 27, none⟩), .pointer (some p), .int .u64 386]) W := by
  rw [rlm]
  simp only [Sem.run_bind, rl_partsP, Result.andThen]
  simp [ReflectliteValue.elem, loadVar, isAgg, underlying, Tryd.underlying124, ha, Result.andThen, rl_elemOfP, rl_mkE]
theorem rls (v x : Value) : ReflectliteValue.set #[v, x] = (do
    let (some (dst, a, fl), some (src, b, _)) := (← ReflectliteValue.parts v, ← ReflectliteValue.parts x)
      | unsupported (.noEntry "extern/(internal/reflectlite.Value).Set.zeroValue")
    if fl / ReflectliteValue.flagAddr % 2 == 0 then unsupported (.noEntry "extern/(internal/reflectlite.Value).Set.unaddressable")
    let val ← loadVar src b
    if ← Rtype.directlyAssignable dst src then storeVar dst a val
    else if ← Rtype.implements dst src then
      if (← Rtype.kind src) == 20 then
        match val with
        | .nilIface => unsupported (.noEntry "extern/reflectlite: a nil value of one interface type handed on as a value of another")
        | _ => storeVar dst a val
      else storeVar dst a (.iface src val)
    else panicString ("reflectlite.Set: value of type " ++ (← Rtype.spelt src) ++ " is not assignable to type " ++ (← Rtype.spelt dst))
    pure (.tuple #[])) := rfl
theorem rl_partsEa (a : Addr) (w : World) : (ReflectliteValue.parts (.agg #[.pointer (some ⟨6, 27, none⟩), .pointer (some a), .int .u64 386])).run Tryd.prog w = .ok (some (27, a, 386)) w := by kernel_rfl
theorem rl_partsE (a : Addr) (w : World) : (ReflectliteValue.parts (.agg #[.pointer (some ⟨6, 27, none⟩), .pointer (some a), .int .u64 130])).run Tryd.prog w = .ok (some (27, a, 130)) w := by kernel_rfl
theorem rl_directE (w : World) : (Rtype.directlyAssignable 27 27).run Tryd.prog w = .ok true w := by kernel_rfl
theorem rl_setE (ta b : Addr) (n : Int) (old : Value) (W : World) (hb : W.cell? b = some (.int .i64 n)) (ht : W.cell? ta = some old) (hf : W.frozen? ta = false) :
    (ReflectliteValue.set #[.agg #[.pointer (some ⟨6, 27, none⟩), .pointer (some ta), .int .u64 386], .agg #[.pointer (some ⟨6, 27, none⟩), .pointer (some b), .int .u64 130]]).run Tryd.prog W
      = .ok (.tuple #[]) (W.setCell ta (.int .i64 n)) := by
  rw [rls]
  simp only [Sem.run_bind, rl_partsEa, rl_partsE, Result.andThen]
  simp [ReflectliteValue.flagAddr, loadVar, isAgg, underlying, Tryd.underlying27, hb, Result.andThen, rl_directE, storeVar, Value.cells, storeCells, Addr.add]
  rw [run_store Tryd.prog W ta _ _ (by rfl)]
  simp [ht, hf]

theorem as_nil (t : Value) (w : World) : Calls Tryd.prog 72 #[.nilIface, t] w fun e w' => e = .returned (.bool false) ∧ w' = w := by
  go_enter Tryd.func72, Tryd.ntmps72
  go_wp2
  go_ret
  exact ⟨rfl, rfl⟩

def asWorld (t : Addr) (n : Int) (w : World) : World := ((((w.alloc (.cells #[.pointer (some t)] 124)).alloc (.cells #[.pointer (some ⟨6, 124, none⟩), .pointer (some ⟨w.heap.size, 0, none⟩), .int .u64 150] 158)).alloc (.cells #[.pointer (some ⟨6, 124, none⟩), .pointer (some ⟨w.heap.size, 0, none⟩), .int .u64 150] 158)).alloc (.cells #[.int .i64 n] 27)).setCell t (.int .i64 n)

set_option maxHeartbeats 4000000 in
theorem as_errno (n : Int) (t : Addr) (old : Value) (w : World) (hg : w.cell? ⟨1, 0, none⟩ = some (.iface 177 (.agg #[.pointer (some ⟨6, 34, none⟩)]))) (ht0 : w.cell? t = some old) (hf0 : w.frozen? t = false) :
    Calls Tryd.prog 72 #[.iface 27 (.int .i64 n), .iface 124 (.pointer (some t))] w fun ev w' => ev = .returned (.bool true) ∧ w' = asWorld t n w := by
  have h6 := @run_callFunc_extern Tryd.prog 97 _ (fun args => ReflectliteValue.unpack (args.getD 0 (.tuple #[]))) Tryd.func97 (by kernel_rfl) (by kernel_rfl) (by kernel_rfl) (by kernel_rfl)
  have h7 := @run_callFunc_extern Tryd.prog 98 _ (ReflectliteValue.methodAny (ReflectliteValue.valueError "reflectlite.Value.Type" 0) (fun t _ _ _ => ReflectliteType.toType t)) Tryd.func98 (by kernel_rfl) (by kernel_rfl) (by kernel_rfl) (by kernel_rfl)
  have h8 := @run_callFunc_extern Tryd.prog 99 _ (ReflectliteValue.method (ReflectliteValue.valueError "reflectlite.Value.IsNil" 0) ReflectliteValue.isNil) Tryd.func99 (by kernel_rfl) (by kernel_rfl) (by kernel_rfl) (by kernel_rfl)
  have h27 := @run_callFunc_extern Tryd.prog 147 _ (ReflectliteType.abiMethod fun t => do pure (.int .u8 (← Rtype.kind t))) Tryd.func147 (by kernel_rfl) (by kernel_rfl) (by kernel_rfl) (by kernel_rfl)
  have h37 := @run_callFunc_extern Tryd.prog 159 _ (ReflectliteType.method ReflectliteType.elem) Tryd.func159 (by kernel_rfl) (by kernel_rfl) (by kernel_rfl) (by kernel_rfl)
  have h38 := @run_callFunc_extern Tryd.prog 160 _ (ReflectliteType.relation "Implements" ReflectliteType.implements_) Tryd.func160 (by kernel_rfl) (by kernel_rfl) (by kernel_rfl) (by kernel_rfl)
  have h10 := @run_callFunc_extern Tryd.prog 114 _ ReflectliteType.typeOf Tryd.func114 (by kernel_rfl) (by kernel_rfl) (by kernel_rfl) (by kernel_rfl)
  have h35 := @run_callFunc_extern Tryd.prog 157 _ (ReflectliteType.relation "AssignableTo" ReflectliteType.assignableTo) Tryd.func157 (by kernel_rfl) (by kernel_rfl) (by kernel_rfl) (by kernel_rfl)
  have h11 := @run_callFunc_extern Tryd.prog 115 _ (ReflectliteValue.method (ReflectliteValue.valueError "reflectlite.Value.Elem" 0) ReflectliteValue.elem) Tryd.func115 (by kernel_rfl) (by kernel_rfl) (by kernel_rfl) (by kernel_rfl)
  have h12 := @run_callFunc_extern Tryd.prog 116 _ ReflectliteValue.set Tryd.func116 (by kernel_rfl) (by kernel_rfl) (by kernel_rfl) (by kernel_rfl)
  have mA := rl_methodAssignableTo
  have aE := rl_assignableE
  have vE := rl_valueOfE
  have tE := rl_typeOfE
  have f6 := rl_valueOfP
  have f7 := rl_typeP
  have mK := rl_methodKind
  have mE := rl_methodElem
  have mI := rl_methodImplements
  have kP := rl_kindP
  have kE := rl_kindE
  have eP := rl_elemP
  have iE := rl_implementsE
  have n8 := rl_isNilP ⟨w.heap.size, 0, none⟩ t ((w.alloc (.cells #[.pointer (some t)] 124)).alloc (.cells #[.pointer (some ⟨6, 124, none⟩), .pointer (some ⟨w.heap.size, 0, none⟩), .int .u64 150] 158)) (by simp)
  have hlt : 1 < w.heap.size := by
    rcases Nat.lt_or_ge 1 w.heap.size with h | h
    · exact h
    · simp [World.cell?, Array.getElem?_eq_none h] at hg
  have hg2 : ((w.alloc (.cells #[.pointer (some t)] 124)).alloc (.cells #[.pointer (some ⟨6, 124, none⟩), .pointer (some ⟨w.heap.size, 0, none⟩), .int .u64 150] 158)).cell? ⟨1, 0, none⟩ = some (.iface 177 (.agg #[.pointer (some ⟨6, 34, none⟩)])) := by
    rw [World.cell?_alloc_lt _ _ ⟨1, 0, none⟩ (by simp; omega), World.cell?_alloc_lt _ _ ⟨1, 0, none⟩ hlt]; exact hg
  have htl : t.block < w.heap.size := by
    rcases Nat.lt_or_ge t.block w.heap.size with h | h
    · exact h
    · simp [World.cell?, Array.getElem?_eq_none h] at ht0
  have el := rl_elemVP ⟨w.heap.size, 0, none⟩ t (((w.alloc (.cells #[.pointer (some t)] 124)).alloc (.cells #[.pointer (some ⟨6, 124, none⟩), .pointer (some ⟨w.heap.size, 0, none⟩), .int .u64 150] 158)).alloc (.cells #[.pointer (some ⟨6, 124, none⟩), .pointer (some ⟨w.heap.size, 0, none⟩), .int .u64 150] 158)) (by rw [World.cell?_alloc_lt _ _ ⟨w.heap.size, 0, none⟩ (by simp; omega)]; simp)
  have st := rl_setE t ⟨w.heap.size + 1 + 1 + 1, 0, none⟩ n old ((((w.alloc (.cells #[.pointer (some t)] 124)).alloc (.cells #[.pointer (some ⟨6, 124, none⟩), .pointer (some ⟨w.heap.size, 0, none⟩), .int .u64 150] 158)).alloc (.cells #[.pointer (some ⟨6, 124, none⟩), .pointer (some ⟨w.heap.size, 0, none⟩), .int .u64 150] 158)).alloc (.cells #[.int .i64 n] 27))
    (by rw [World.cell?_alloc_at _ _ _ _ (by simp)]; rfl)
    (by rw [World.cell?_alloc_lt _ _ t (by simp; omega), World.cell?_alloc_lt _ _ t (by simp; omega), World.cell?_alloc_lt _ _ t (by simp; omega), World.cell?_alloc_lt _ _ t htl]; exact ht0)
    (by rw [World.frozen?_alloc_old _ _ t (by simp; omega), World.frozen?_alloc_old _ _ t (by simp; omega), World.frozen?_alloc_old _ _ t (by simp; omega), World.frozen?_alloc_old _ _ t (Nat.ne_of_lt htl)]; exact hf0)
  go_enter Tryd.func72, Tryd.ntmps72
  go_wp2
  refine wp_loop_rounds 1 ?_
  rw [rounds_succ]
  go_wp2
  go_ret
  exact ⟨rfl, rfl⟩

theorem unwrap_at (a : Addr) (n : Int) (w : World) (ha : w.cell? a = some (.int .i64 n)) : Calls Tryd.prog 152 #[.pointer (some a)] w fun e w' => e = .returned (.iface 27 (.int .i64 n)) ∧ w' = w := by
  go_enter Tryd.func152, Tryd.ntmps152
  go_wp2
  go_ret
  exact ⟨rfl, rfl⟩
theorem rl_methodUnwrap (h : Value) (w : World) : (Go.method 333 109 h "Unwrap").run Tryd.prog w = .ok (152, h) w := by kernel_rfl
theorem rl_noAs (v : Value) (xT : TypeId) (w : World) : (Instr.typeAssert (.iface 109 v) xT 182 true).run Tryd.prog w = .ok (.tuple #[.nilIface, .bool false]) w := run_typeAssert_lacksB Tryd.underlying182 (by kernel_rfl) (by kernel_rfl) v xT w
theorem rl_unwraps (v : Value) (xT : TypeId) (w : World) : (Instr.typeAssert (.iface 109 v) xT 149 true).run Tryd.prog w = .ok (.tuple #[.iface 109 v, .bool true]) w := run_typeAssert_hasB Tryd.underlying149 (by kernel_rfl) v xT w

#print axioms as_errno
#print axioms unwrap_at
end Go.Proofs.YtoikggboakojlaaDoor

/-
  errors.As at an error with a place; what api.Tell and plain.Place tell.
-/
namespace Go.Proofs.YtoikggboakojlaaDoor
open Go.RowKit Go.Extern.Stop Go.Stop Go.Extern
set_option linter.unusedSimpArgs false
set_option linter.unusedVariables false

set_option maxHeartbeats 8000000 in
theorem as_at (n : Int) (a t : Addr) (old : Value) (w : World) (hg : w.cell? ⟨1, 0, none⟩ = some (.iface 177 (.agg #[.pointer (some ⟨6, 34, none⟩)]))) (ha : w.cell? a = some (.int .i64 n)) (ht0 : w.cell? t = some old) (hf0 : w.frozen? t = false) :
    Calls Tryd.prog 72 #[.iface 109 (.pointer (some a)), .iface 124 (.pointer (some t))] w fun ev w' => ev = .returned (.bool true) ∧ w' = asWorld t n w := by
  have h6 := @run_callFunc_extern Tryd.prog 97 _ (fun args => ReflectliteValue.unpack (args.getD 0 (.tuple #[]))) Tryd.func97 (by kernel_rfl) (by kernel_rfl) (by kernel_rfl) (by kernel_rfl)
  have h7 := @run_callFunc_extern Tryd.prog 98 _ (ReflectliteValue.methodAny (ReflectliteValue.valueError "reflectlite.Value.Type" 0) (fun t _ _ _ => ReflectliteType.toType t)) Tryd.func98 (by kernel_rfl) (by kernel_rfl) (by kernel_rfl) (by kernel_rfl)
  have h8 := @run_callFunc_extern Tryd.prog 99 _ (ReflectliteValue.method (ReflectliteValue.valueError "reflectlite.Value.IsNil" 0) ReflectliteValue.isNil) Tryd.func99 (by kernel_rfl) (by kernel_rfl) (by kernel_rfl) (by kernel_rfl)
  have h27 := @run_callFunc_extern Tryd.prog 147 _ (ReflectliteType.abiMethod fun t => do pure (.int .u8 (← Rtype.kind t))) Tryd.func147 (by kernel_rfl) (by kernel_rfl) (by kernel_rfl) (by kernel_rfl)
  have h37 := @run_callFunc_extern Tryd.prog 159 _ (ReflectliteType.method ReflectliteType.elem) Tryd.func159 (by kernel_rfl) (by kernel_rfl) (by kernel_rfl) (by kernel_rfl)
  have h38 := @run_callFunc_extern Tryd.prog 160 _ (ReflectliteType.relation "Implements" ReflectliteType.implements_) Tryd.func160 (by kernel_rfl) (by kernel_rfl) (by kernel_rfl) (by kernel_rfl)
  have h10 := @run_callFunc_extern Tryd.prog 114 _ ReflectliteType.typeOf Tryd.func114 (by kernel_rfl) (by kernel_rfl) (by kernel_rfl) (by kernel_rfl)
  have h35 := @run_callFunc_extern Tryd.prog 157 _ (ReflectliteType.relation "AssignableTo" ReflectliteType.assignableTo) Tryd.func157 (by kernel_rfl) (by kernel_rfl) (by kernel_rfl) (by kernel_rfl)
  have h11 := @run_callFunc_extern Tryd.prog 115 _ (ReflectliteValue.method (ReflectliteValue.valueError "reflectlite.Value.Elem" 0) ReflectliteValue.elem) Tryd.func115 (by kernel_rfl) (by kernel_rfl) (by kernel_rfl) (by kernel_rfl)
  have h12 := @run_callFunc_extern Tryd.prog 116 _ ReflectliteValue.set Tryd.func116 (by kernel_rfl) (by kernel_rfl) (by kernel_rfl) (by kernel_rfl)
  have mA := rl_methodAssignableTo
  have aE := rl_assignableE
  have vE := rl_valueOfE
  have tE := rl_typeOfE
  have f6 := rl_valueOfP
  have f7 := rl_typeP
  have mK := rl_methodKind
  have mE := rl_methodElem
  have mI := rl_methodImplements
  have kP := rl_kindP
  have kE := rl_kindE
  have eP := rl_elemP
  have iE := rl_implementsE
  have n8 := rl_isNilP ⟨w.heap.size, 0, none⟩ t ((w.alloc (.cells #[.pointer (some t)] 124)).alloc (.cells #[.pointer (some ⟨6, 124, none⟩), .pointer (some ⟨w.heap.size, 0, none⟩), .int .u64 150] 158)) (by simp)
  have hlt : 1 < w.heap.size := by
    rcases Nat.lt_or_ge 1 w.heap.size with h | h
    · exact h
    · simp [World.cell?, Array.getElem?_eq_none h] at hg
  have hg2 : ((w.alloc (.cells #[.pointer (some t)] 124)).alloc (.cells #[.pointer (some ⟨6, 124, none⟩), .pointer (some ⟨w.heap.size, 0, none⟩), .int .u64 150] 158)).cell? ⟨1, 0, none⟩ = some (.iface 177 (.agg #[.pointer (some ⟨6, 34, none⟩)])) := by
    rw [World.cell?_alloc_lt _ _ ⟨1, 0, none⟩ (by simp; omega), World.cell?_alloc_lt _ _ ⟨1, 0, none⟩ hlt]; exact hg
  have htl : t.block < w.heap.size := by
    rcases Nat.lt_or_ge t.block w.heap.size with h | h
    · exact h
    · simp [World.cell?, Array.getElem?_eq_none h] at ht0
  have el := rl_elemVP ⟨w.heap.size, 0, none⟩ t (((w.alloc (.cells #[.pointer (some t)] 124)).alloc (.cells #[.pointer (some ⟨6, 124, none⟩), .pointer (some ⟨w.heap.size, 0, none⟩), .int .u64 150] 158)).alloc (.cells #[.pointer (some ⟨6, 124, none⟩), .pointer (some ⟨w.heap.size, 0, none⟩), .int .u64 150] 158)) (by rw [World.cell?_alloc_lt _ _ ⟨w.heap.size, 0, none⟩ (by simp; omega)]; simp)
  have st := rl_setE t ⟨w.heap.size + 1 + 1 + 1, 0, none⟩ n old ((((w.alloc (.cells #[.pointer (some t)] 124)).alloc (.cells #[.pointer (some ⟨6, 124, none⟩), .pointer (some ⟨w.heap.size, 0, none⟩), .int .u64 150] 158)).alloc (.cells #[.pointer (some ⟨6, 124, none⟩), .pointer (some ⟨w.heap.size, 0, none⟩), .int .u64 150] 158)).alloc (.cells #[.int .i64 n] 27))
    (by rw [World.cell?_alloc_at _ _ _ _ (by simp)]; rfl)
    (by rw [World.cell?_alloc_lt _ _ t (by simp; omega), World.cell?_alloc_lt _ _ t (by simp; omega), World.cell?_alloc_lt _ _ t (by simp; omega), World.cell?_alloc_lt _ _ t htl]; exact ht0)
    (by rw [World.frozen?_alloc_old _ _ t (by simp; omega), World.frozen?_alloc_old _ _ t (by simp; omega), World.frozen?_alloc_old _ _ t (by simp; omega), World.frozen?_alloc_old _ _ t (Nat.ne_of_lt htl)]; exact hf0)
  have tA := rl_typeOfA
  have aA := rl_assignableA
  have nA := rl_noAs
  have uA := rl_unwraps
  have mU := rl_methodUnwrap
  have hal : a.block < w.heap.size := by
    rcases Nat.lt_or_ge a.block w.heap.size with h | h
    · exact h
    · simp [World.cell?, Array.getElem?_eq_none h] at ha
  have ha3 : (((w.alloc (.cells #[.pointer (some t)] 124)).alloc (.cells #[.pointer (some ⟨6, 124, none⟩), .pointer (some ⟨w.heap.size, 0, none⟩), .int .u64 150] 158)).alloc (.cells #[.pointer (some ⟨6, 124, none⟩), .pointer (some ⟨w.heap.size, 0, none⟩), .int .u64 150] 158)).cell? a = some (.int .i64 n) := by
    rw [World.cell?_alloc_lt _ _ a (by simp; omega), World.cell?_alloc_lt _ _ a (by simp; omega), World.cell?_alloc_lt _ _ a hal]; exact ha
  go_enter Tryd.func72, Tryd.ntmps72
  go_wp2
  refine wp_loop_rounds 2 ?_
  rw [rounds_succ]
  go_wp2_with (go_at_call 152; refine (unwrap_at a n _ ha3).mono ?_; rintro e w' ⟨rfl, rfl⟩)
  rw [rounds_succ]
  go_wp2
  go_ret
  exact ⟨rfl, rfl⟩

#print axioms as_at
end Go.Proofs.YtoikggboakojlaaDoor

/-
  Laws: what is read as data is immutable data; what a call that only yields data leaves behind.
-/
namespace Go.Av
set_option linter.unusedSimpArgs false
set_option linter.unusedVariables false
set_option linter.unusedSectionVars false
open Go.ChangeShapes Go.WideShapes Go.RowKit

theorem law_calls {P : Program} {g : FuncId} {xs : List D} {b : Bool} (hc : PureC P (fun _ => none) g xs (.v (.bool b))) {W : World} {args : Array Value} (hsz : args.size = xs.length)
    (hrd : ∀ (i : Nat) (u : Value) (x : D), args[i]? = some u → xs[i]? = some x → RD W (fun _ => False) u x) : Calls P g args W fun e W' => e = .returned (.bool b) ∧ Below W.heap.size W W' := by
  refine (hc.2 (fun _ => False) W (fun _ => none) args (Sim.none (by simp)) (by simp) (by simpa using hsz) fun i u x hu hx => ?_).mono fun e W' ⟨v, x, H', μ', he, ⟨hx, _⟩, hr, _, ev⟩ => ?_
  · rw [List.getElem?_map] at hx
    obtain ⟨d, hd, rfl⟩ := Option.map_eq_some_iff.1 hx
    exact .d ((hrd i u d hu hd).sub fun b hb => XX_none.1 hb)
  · subst hx
    have := hr.scalar
    subst this
    have hg := Ev.grew ev
    exact ⟨he, hg.os, hg.tape, hg.output, hg.size, hg.same⟩

section
variable {H : Type} {enc : TypeId × Value → H} {P : Program} {w : World} {base : Nat} {spare : Nat → Bool} {held : Bool} {X : Nat → Prop}

/-- Cells stand for this data, one by one. -/
def CellsRD (w : World) (X : Nat → Prop) (cs : List Value) (ds : List D) : Prop := cs.length = ds.length ∧ ∀ (j : Nat) (u : Value) (c : D), cs[j]? = some u → ds[j]? = some c → RD w X u c

theorem CellsRD.one {u : Value} {c : D} (h : RD w X u c) : CellsRD w X [u] [c] := ⟨rfl, fun j u' c' hu hc => by
  cases j with
  | zero => simp at hu hc; subst hu hc; exact h
  | succ j => simp at hu⟩
theorem CellsRD.inv {u : Value} {c : D} (h : CellsRD w X [u] [c]) : RD w X u c := h.2 0 u c rfl rfl

/-- What is read of type t is some a, as f lays it out. -/
def ReadsAs (enc : TypeId × Value → H) (P : Program) (w : World) (base : Nat) (spare : Nat → Bool) (held : Bool) (X : Nat → Prop) (t : TypeId) {α : Type} (p : α → Prop) (f : α → List D) : Prop :=
  ∀ fuel cs x, DataW.trod enc P w base spare held fuel t cs = some x → ∃ a, p a ∧ CellsRD w X cs (f a)

theorem reads_int {t : TypeId} (ht : P.underlying t = some (.int .i64)) : ReadsAs enc P w base spare held X t (fun n : Int => -9223372036854775808 ≤ n ∧ n ≤ 9223372036854775807) (fun n => [.v (.int .i64 n)]) := by
  intro fuel cs x h
  obtain ⟨n, rfl, _, hw⟩ := DataW.trod_int ht h
  refine ⟨n, ?_, .one (.v _)⟩
  simp only [Lit.wf, Bool.and_eq_true, decide_eq_true_eq] at hw
  have e1 : IntKind.i64.min = -9223372036854775808 := by decide
  have e2 : IntKind.i64.max = 9223372036854775807 := by decide
  rw [e1, e2] at hw
  exact hw

theorem reads_slice {t e : TypeId} {α : Type} {p : α → Prop} {f : α → List D} {sz : Nat} (ht : P.underlying t = some (.slice e)) (hc : P.cellsOf e = sz) (hz : 0 < sz) (hX : ∀ b, ¬ X b) (he : ReadsAs enc P w base spare held X e p f) :
    ReadsAs enc P w base spare held X t (fun l : List α => (∀ a ∈ l, p a) ∧ l.length ≤ maxLen) (fun l => [.sl none (l.map f)]) := by
  intro fuel cs x h
  rcases Deep.open_slice ht h with ⟨rfl, _⟩ | ⟨a, len, cap, m, n, _, _, rfl, hb, hl, hm, hmm, _, hx⟩
  · exact ⟨[], ⟨by simp, by simp⟩, .one (.nil (by simp))⟩
  · have hle : len ≤ m := by rw [hmm]; split <;> omega
    rcases Nat.eq_zero_or_pos len with rfl | hpos
    · exact ⟨[], ⟨by simp, by simp⟩, .one (.empty (by simp) hm)⟩
    · have hel : ∀ i, i < len → ∃ x, p x ∧ ∃ cs', w.cells? base (a.add (i * P.cellsOf e)) (P.cellsOf e) = some cs' ∧ CellsRD w X cs' (f x) := fun i hi => by
        obtain ⟨cs', h1, h2⟩ := hx i (by omega)
        obtain ⟨x, hp, hr⟩ := he _ _ _ h2
        exact ⟨x, hp, cs', h1, hr⟩
      have : Inhabited α := ⟨(hel 0 hpos).choose⟩
      obtain ⟨g, hg⟩ := Deep.choose_lt hel
      refine ⟨(List.range len).map g, ⟨fun y hy => ?_, by simp; omega⟩, .one ?_⟩
      · obtain ⟨i, hi, rfl⟩ := List.mem_map.1 hy
        exact (hg i (List.mem_range.1 hi)).1
      rw [hc] at hg
      have hcell : ∀ i j, i < len → j < sz → ∃ u, w.cell? ((a.add (i * sz)).add j) = some u ∧ (∀ c, (f (g i))[j]? = some c → RD w X u c) ∧ (f (g i)).length = sz := fun i j hi hj => by
        obtain ⟨_, cs', h1, h2, h3⟩ := hg i hi
        obtain ⟨_, hlen, hcs⟩ := World.cells?_some h1
        refine ⟨cs'[j], by rw [hcs j hj]; simp [hlen, hj], fun c hcc => h3 j _ c (by simp [hlen, hj]) hcc, by omega⟩
      have hspot : a.spot = none := by
        obtain ⟨u, hu, _⟩ := hcell 0 0 hpos hz
        simp only [Nat.zero_mul, Addr.add, if_true] at hu
        exact World.cell?_spot hu
      obtain ⟨b, off, spot⟩ := a
      dsimp only at hspot
      subst hspot
      have hcell : ∀ i j, i < len → j < sz → ∃ u, w.cell? ⟨b, off + (i * sz + j), none⟩ = some u ∧ (∀ c, (f (g i))[j]? = some c → RD w X u c) ∧ (f (g i)).length = sz := fun i j hi hj => by
        have := hcell i j hi hj
        rwa [addr_add, addr_add, Nat.add_assoc] at this
      refine .sl (f := fun i j => (w.cell? ⟨b, off + (i * sz + j), none⟩).getD undef) (by simp) (by simp) hl hm (hX b) (fun el hel => ?_) hz hpos (fun i j hi hj => ?_) (fun i j el c h1 h2 => ?_)
      · obtain ⟨y, hy, rfl⟩ := List.mem_map.1 hel
        obtain ⟨i, hi, rfl⟩ := List.mem_map.1 hy
        exact (hcell i 0 (List.mem_range.1 hi) hz).choose_spec.2.2
      · obtain ⟨u, hu, _⟩ := hcell i j hi hj
        rw [hu]; rfl
      · rw [List.getElem?_map, List.getElem?_map] at h1
        obtain ⟨y, hy, rfl⟩ := Option.map_eq_some_iff.1 h1
        obtain ⟨i', hi', rfl⟩ := Option.map_eq_some_iff.1 hy
        obtain ⟨hlt, rfl⟩ := List.getElem?_eq_some_iff.1 hi'
        rw [List.getElem_range] at h2
        simp only [List.length_range] at hlt
        have hj : j < sz := by
          obtain ⟨_, _, _, h3⟩ := hcell i 0 hlt hz
          rw [← h3]
          exact (List.getElem?_eq_some_iff.1 h2).1
        obtain ⟨u, hu, hr, _⟩ := hcell i j hlt hj
        rw [hu]
        exact hr c h2

theorem reads_struct2 {t : TypeId} {f0 f1 : Field} {α β : Type} {p : α → Prop} {q : β → Prop} {f : α → List D} {g : β → List D} (ht : P.underlying t = some (.struct #[f0, f1])) (hn : P.cellsOf t = P.cellsOf f0.type + P.cellsOf f1.type) (h0 : f0.offset = 0) (h1 : f1.offset = P.cellsOf f0.type)
    (hf : ReadsAs enc P w base spare held X f0.type p f) (hg : ReadsAs enc P w base spare held X f1.type q g) : ReadsAs enc P w base spare held X t (fun s : α × β => p s.1 ∧ q s.2) (fun s => f s.1 ++ g s.2) := by
  intro fuel cs x h
  obtain ⟨y0, y1, n, _, hl, t0, t1⟩ := trod_struct2 ht h
  obtain ⟨a, pa, ca⟩ := hf _ _ _ t0
  obtain ⟨b, pb, cb⟩ := hg _ _ _ t1
  refine ⟨(a, b), ⟨pa, pb⟩, ?_⟩
  have e0 : cs = (cs.drop f0.offset).take (P.cellsOf f0.type) ++ (cs.drop f1.offset).take (P.cellsOf f1.type) := by
    rw [h0, h1, List.drop_zero, List.take_of_length_le (l := List.drop _ _) (by simp; omega), List.take_append_drop]
  rw [e0]
  obtain ⟨la, ra⟩ := ca
  obtain ⟨lb, rb⟩ := cb
  refine ⟨by rw [List.length_append, List.length_append, la, lb], fun j u c hu hc => ?_⟩
  rcases Nat.lt_or_ge j (f a).length with hj | hj
  · rw [List.getElem?_append_left (by omega)] at hu hc
    exact ra j u c hu hc
  · rw [List.getElem?_append_right (by omega)] at hu hc
    rw [la] at hu
    exact rb _ u c hu hc

/-- A value of a struct's type. -/
theorem RD.of_cells {u : Value} {ds : List D} (ha : ∃ arr, u = .agg arr) (h : CellsRD w X u.cells.toList ds) : RD w X u (.agg ds) := by
  obtain ⟨arr, rfl⟩ := ha
  refine .agg (by have := h.1; simpa [Value.cells] using this) fun j u c hu hc => h.2 j u c (by simpa [Value.cells] using hu) hc
theorem RD.of_cell {u : Value} {d : D} (ha : ∀ arr, u ≠ .agg arr) (h : CellsRD w X u.cells.toList [d]) : RD w X u d := by
  have : u.cells = #[u] := by
    cases u <;> first | rfl | exact absurd rfl (ha _)
  rw [this] at h
  exact h.inv
end

/-- All arguments read as they did. -/
theorem trodAll_below {H : Type} {enc : TypeId × Value → H} {P : Program} (hl : laidOutB P = true) {W W' : World} (hb : Below W.heap.size W W') : ∀ {ts : List TypeId} {vs : List Value} {ds : List (DataW H)} {ps : List MemPlace},
    (∀ t ∈ ts, P.readableRec t = true ∧ t < P.types.size) → DataW.TrodAll enc P W 0 (fun _ => true) true ts vs ds ps → (∀ x ∈ ps, x.block < W.heap.size) → DataW.TrodAll enc P W' 0 (fun b => decide (b < W.heap.size)) true ts vs ds ps
  | [], vs, ds, ps, _, h, _ => by
    obtain ⟨rfl, rfl, rfl⟩ := trodAll_nil h
    exact rfl
  | t :: ts, vs, ds, ps, ht, h, hp => by
    obtain ⟨v, vs1, d, ds1, a, b, rfl, rfl, rfl, h1, h2⟩ := trodAll_cons h
    exact ⟨a, b, Below.trod hl (ht t (by simp)).1 (ht t (by simp)).2 h1 hb (fun x hx => hp x (by simp [hx])), trodAll_below hl hb (fun t h => ht t (by simp [h])) h2 (fun x hx => hp x (by simp [hx])), rfl⟩
end Go.Av

/-
  Contracts on the model's own 'Calls' become contracts of this logic.
-/
namespace Go.Av
set_option linter.unusedSimpArgs false
set_option linter.unusedVariables false
set_option linter.unusedSectionVars false

theorem PureC.of_calls {P : Program} {G : Glob} {g : FuncId} {ds : List D} {y : D} (hf : Fun P g)
    (h : ∀ (X : Nat → Prop) (w : World) (vs : Array Value), vs.size = ds.length → (∀ (i : Nat) (u : Value) (x : D), vs[i]? = some u → ds[i]? = some x → RD w X u x) → (∀ g x, G g = some x → RD w X (.pointer (some ⟨g, 0, none⟩)) x) →
      Calls P g vs w fun e w' => ∃ v, e = .returned v ∧ Grew w w' ∧ RD w' X v y) : PureC P G g ds y := by
  refine ⟨hf, fun X w μ vs hs hgl hsz hv => ?_⟩
  have hμ : μ = fun _ => none := by
    funext r
    cases hr : μ r with
    | none => rfl
    | some m => obtain ⟨row, hrow⟩ := hs.dom r m hr; cases hrow
  subst hμ
  refine (h X w vs (by simpa using hsz) (fun i u x hu hx => ?_) (fun g x hx => (hgl g x hx).sub fun b hb => XX_none.2 hb)).mono fun e w' ⟨v, he, hg, hr⟩ => ?_
  · exact (hv i u (.d x) hu (by rw [List.getElem?_map, hx]; rfl)).data.sub fun b hb => XX_none.2 hb
  · refine ⟨v, .d y, hno, fun _ => none, he, ⟨rfl, rfl⟩, .d (hr.sub fun b hb => XX_none.1 hb), Sim.none fun b hb => Nat.lt_of_lt_of_le (hs.fits b hb) hg.size, hg.size, hg.os, hg.tape, hg.output, fun b hb _ => ⟨hg.same b hb, fun ⟨_, _, hh, _⟩ => by cases hh⟩, fun r m hr => by cases hr⟩
end Go.Av

/-
  What api.Tell and plain.Place tell of an error.
-/
namespace Go.Proofs.YtoikggboakojlaaDoor
open Go.RowKit Go.Extern.Stop Go.Stop Go.Extern
open Go.Av
set_option linter.unusedSimpArgs false
set_option linter.unusedVariables false

def errType : Value := .iface 177 (.agg #[.pointer (some ⟨6, 34, none⟩)])

theorem asWorld_grew (n : Int) (w : World) : Grew w (asWorld ⟨w.heap.size, 0, none⟩ n (w.alloc (.cells #[.int .i64 0] 27))) := by
  unfold asWorld
  refine ⟨by simp <;> omega, rfl, rfl, rfl, fun b hb => ?_⟩
  rw [Below.heap_setCell _ _ _ _ (by simp; omega)]
  repeat rw [Below.heap_alloc _ _ _ (by simp; omega)]
  exact Below.heap_alloc _ _ _ hb
theorem asWorld_cell (n : Int) (w : World) : (asWorld ⟨w.heap.size, 0, none⟩ n (w.alloc (.cells #[.int .i64 0] 27))).cell? ⟨w.heap.size, 0, none⟩ = some (.int .i64 n) := by
  unfold asWorld
  have hm : ((((w.alloc (.cells #[.int .i64 0] 27)).alloc (.cells #[.pointer (some ⟨w.heap.size, 0, none⟩)] 124)).alloc (.cells #[.pointer (some ⟨6, 124, none⟩), .pointer (some ⟨(w.alloc (.cells #[.int .i64 0] 27)).heap.size, 0, none⟩), .int .u64 150] 158)).alloc (.cells #[.pointer (some ⟨6, 124, none⟩), .pointer (some ⟨(w.alloc (.cells #[.int .i64 0] 27)).heap.size, 0, none⟩), .int .u64 150] 158) |>.alloc (.cells #[.int .i64 n] 27)).cell? ⟨w.heap.size, 0, none⟩ = some (.int .i64 0) := by
    rw [World.cell?_alloc_lt _ _ _ (by simp; omega), World.cell?_alloc_lt _ _ _ (by simp; omega), World.cell?_alloc_lt _ _ _ (by simp; omega), World.cell?_alloc_lt _ _ _ (by simp)]
    simp
  exact World.cell?_setCell_same _ _ _ hm

theorem tell_nil (w : World) : Calls Tryd.prog 38 #[.nilIface] w fun e w' => e = .returned (.int .i64 0) ∧ w' = w := by
  go_enter Tryd.func38, Tryd.ntmps38
  go_wp2
  go_ret
  exact ⟨rfl, rfl⟩

set_option maxHeartbeats 1000000 in
theorem tell_errno (n : Int) (w : World) (hg : w.cell? ⟨1, 0, none⟩ = some errType) : Calls Tryd.prog 38 #[.iface 27 (.int .i64 n)] w fun e w' => e = .returned (.int .i64 n) ∧ Grew w w' := by
  have hlt : 1 < w.heap.size := by
    rcases Nat.lt_or_ge 1 w.heap.size with h | h
    · exact h
    · simp [World.cell?, Array.getElem?_eq_none h] at hg
  have hgA : (w.alloc (.cells #[.int .i64 0] 27)).cell? ⟨1, 0, none⟩ = some errType := by rw [World.cell?_alloc_lt _ _ ⟨1, 0, none⟩ hlt]; exact hg
  have htA : (w.alloc (.cells #[.int .i64 0] 27)).cell? ⟨w.heap.size, 0, none⟩ = some (.int .i64 0) := by simp
  have hfA : (w.alloc (.cells #[.int .i64 0] 27)).frozen? ⟨w.heap.size, 0, none⟩ = false := by simp
  have hc := asWorld_cell n w
  have hgr := asWorld_grew n w
  go_enter Tryd.func38, Tryd.ntmps38
  go_wp2_with (go_at_call 72; refine (as_errno n _ (.int .i64 0) _ hgA htA hfA).mono ?_; rintro e w' ⟨rfl, rfl⟩)
  go_ret
  exact ⟨rfl, hgr⟩

set_option maxHeartbeats 1000000 in
theorem tell_at (n : Int) (a : Addr) (w : World) (hg : w.cell? ⟨1, 0, none⟩ = some errType) (ha : w.cell? a = some (.int .i64 n)) : Calls Tryd.prog 38 #[.iface 109 (.pointer (some a))] w fun e w' => e = .returned (.int .i64 n) ∧ Grew w w' := by
  have hlt : 1 < w.heap.size := by
    rcases Nat.lt_or_ge 1 w.heap.size with h | h
    · exact h
    · simp [World.cell?, Array.getElem?_eq_none h] at hg
  have hal : a.block < w.heap.size := cell_lt ha
  have hgA : (w.alloc (.cells #[.int .i64 0] 27)).cell? ⟨1, 0, none⟩ = some errType := by rw [World.cell?_alloc_lt _ _ ⟨1, 0, none⟩ hlt]; exact hg
  have haA : (w.alloc (.cells #[.int .i64 0] 27)).cell? a = some (.int .i64 n) := by rw [World.cell?_alloc_lt _ _ a hal]; exact ha
  have htA : (w.alloc (.cells #[.int .i64 0] 27)).cell? ⟨w.heap.size, 0, none⟩ = some (.int .i64 0) := by simp
  have hfA : (w.alloc (.cells #[.int .i64 0] 27)).frozen? ⟨w.heap.size, 0, none⟩ = false := by simp
  have hc := asWorld_cell n w
  have hgr := asWorld_grew n w
  go_enter Tryd.func38, Tryd.ntmps38
  go_wp2_with (go_at_call 72; refine (as_at n a _ (.int .i64 0) _ hgA haA htA hfA).mono ?_; rintro e w' ⟨rfl, rfl⟩)
  go_ret
  exact ⟨rfl, hgr⟩

/-- The code in an error, its place. -/
def codeF : Option (Int × Option Nat) → Int
  | none => 0
  | some (c, _) => c
def placeF : Option (Int × Option Nat) → Int
  | some (_, some s) => s
  | _ => -1

def HasErr (G : Glob) : Prop := G 1 = some (.ip [.v errType])
theorem HasErr.cell {G : Glob} (h : HasErr G) {w : World} {X : Nat → Prop} (hg : ∀ g x, G g = some x → RD w X (.pointer (some ⟨g, 0, none⟩)) x) : w.cell? ⟨1, 0, none⟩ = some errType := by
  have := hg _ _ h
  obtain ⟨b, off, f, hb, _, _, hc, hr⟩ := this.ip_inv
  simp only [Value.pointer.injEq, Option.some.injEq, Addr.mk.injEq, and_true] at hb
  obtain ⟨rfl, rfl⟩ := hb
  have h1 := hc 0 (by simp)
  have h2 := (hr 0 _ rfl).scalar
  rw [h2] at h1
  exact h1

theorem tell_spec (G : Glob) (hG : HasErr G) (e : Option (Int × Option Nat)) : PureC Tryd.prog G 38 [dErr e] (.v (.int .i64 (codeF e))) := by
  refine PureC.of_calls (Fun.of Tryd.func38 rfl rfl) fun X w vs hsz hrd hgl => ?_
  have hg := hG.cell hgl
  obtain ⟨v, rfl⟩ : ∃ v, vs = #[v] := Array.size_eq_one_iff.1 hsz
  have hv := hrd 0 v _ rfl rfl
  match e, hv with
  | none, hv =>
    have := hv.scalar
    subst this
    exact (tell_nil w).mono fun e w' ⟨he, hw⟩ => ⟨_, he, by rw [hw]; exact Grew.refl w, .v _⟩
  | some (c, none), hv =>
    obtain ⟨u, rfl, hu⟩ := hv.ifc_inv
    have := hu.scalar
    subst this
    exact (tell_errno c w hg).mono fun e w' ⟨he, hw⟩ => ⟨_, he, hw, .v _⟩
  | some (c, some s), hv =>
    obtain ⟨u, rfl, hu⟩ := hv.ifc_inv
    obtain ⟨b, off, f, rfl, _, _, hc, hr⟩ := hu.ip_inv
    have h1 := hc 0 (by simp)
    have h2 := (hr 0 _ rfl).scalar
    rw [h2] at h1
    exact (tell_at c ⟨b, off, none⟩ w hg h1).mono fun e w' ⟨he, hw⟩ => ⟨_, he, hw, .v _⟩
#print axioms tell_spec
end Go.Proofs.YtoikggboakojlaaDoor

/-
  What plain.Place tells of an error.
-/
namespace Go.Proofs.YtoikggboakojlaaDoor
open Go.RowKit Go.Extern.Stop Go.Stop Go.Extern
open Go.Av
set_option linter.unusedSimpArgs false
set_option linter.unusedVariables false

theorem ta_E (v : Value) (xT : TypeId) (w : World) : (Instr.typeAssert (.iface 27 v) xT 109 true).run Tryd.prog w = .ok (.tuple #[.pointer none, .bool false]) w := by kernel_rfl
theorem ta_A (v : Value) (xT : TypeId) (w : World) : (Instr.typeAssert (.iface 109 v) xT 109 true).run Tryd.prog w = .ok (.tuple #[v, .bool true]) w := by kernel_rfl
theorem ta_noUnwrap (v : Value) (xT : TypeId) (w : World) : (Instr.typeAssert (.iface 27 v) xT 149 true).run Tryd.prog w = .ok (.tuple #[.nilIface, .bool false]) w := run_typeAssert_lacksB Tryd.underlying149 (by kernel_rfl) (by kernel_rfl) v xT w

set_option maxHeartbeats 1000000 in
theorem place_nil (w : World) : Calls Tryd.prog 60 #[.nilIface] w fun e w' => e = .returned (.tuple #[.int .i64 0, .int .i64 (-1)]) ∧ Grew w w' := by
  go_enter Tryd.func60, Tryd.ntmps60
  go_wp2_with (go_at_call 38; refine (tell_nil _).mono ?_; rintro e w' ⟨rfl, rfl⟩)
  refine wp_loop_rounds 1 ?_
  rw [rounds_succ]
  go_wp2
  go_ret2
  exact ⟨rfl, Grew.refl _⟩

set_option maxHeartbeats 1000000 in
theorem place_errno (n : Int) (w : World) (hg : w.cell? ⟨1, 0, none⟩ = some errType) : Calls Tryd.prog 60 #[.iface 27 (.int .i64 n)] w fun e w' => e = .returned (.tuple #[.int .i64 n, .int .i64 (-1)]) ∧ Grew w w' := by
  have t1 := ta_E
  have t2 := ta_noUnwrap
  go_enter Tryd.func60, Tryd.ntmps60
  go_wp2_with (go_at_call 38; refine (tell_errno n _ hg).mono ?_; rintro e w' ⟨rfl, hgr⟩)
  refine wp_loop_rounds 1 ?_
  rw [rounds_succ]
  go_wp2
  go_ret2
  exact ⟨rfl, hgr⟩

set_option maxHeartbeats 1000000 in
theorem place_at (n s : Int) (b o : Nat) (w : World) (hg : w.cell? ⟨1, 0, none⟩ = some errType) (ha : w.cell? ⟨b, o, none⟩ = some (.int .i64 n)) (hs : w.cell? ⟨b, o + 1, none⟩ = some (.int .i64 s)) :
    Calls Tryd.prog 60 #[.iface 109 (.pointer (some ⟨b, o, none⟩))] w fun e w' => e = .returned (.tuple #[.int .i64 n, .int .i64 s]) ∧ Grew w w' := by
  have t1 := ta_A
  go_enter Tryd.func60, Tryd.ntmps60
  go_wp2_with (go_at_call 38; refine (tell_at n _ _ hg ha).mono ?_; rintro e w' ⟨rfl, hgr⟩)
  have hs' : w'.cell? ⟨b, o + 1, none⟩ = some (.int .i64 s) := by rw [World.cell?_of_block (w := w) (hgr.same b (cell_lt hs))]; exact hs
  refine wp_loop_rounds 1 ?_
  rw [rounds_succ]
  go_wp2
  go_region
  all_goals (go_wp2; go_ret2; exact ⟨rfl, hgr.size, hgr.os, hgr.tape, hgr.output, hgr.same⟩)

theorem place_spec (G : Glob) (hG : HasErr G) (e : Option (Int × Option Nat)) : PureC Tryd.prog G 60 [dErr e] (.tup [.v (.int .i64 (codeF e)), .v (.int .i64 (placeF e))]) := by
  refine PureC.of_calls (Fun.of Tryd.func60 rfl rfl) fun X w vs hsz hrd hgl => ?_
  have hg := hG.cell hgl
  obtain ⟨v, rfl⟩ : ∃ v, vs = #[v] := Array.size_eq_one_iff.1 hsz
  have hv := hrd 0 v _ rfl rfl
  have two : ∀ (w' : World) (a b : Int), RD w' X (.tuple #[.int .i64 a, .int .i64 b]) (.tup [.v (.int .i64 a), .v (.int .i64 b)]) := fun w' a b => .tup rfl fun j u c hu hc => by
    match j, hu, hc with
    | 0, hu, hc => simp at hu hc; subst hu hc; exact .v _
    | 1, hu, hc => simp at hu hc; subst hu hc; exact .v _
    | j + 2, hu, hc => simp at hu
  match e, hv with
  | none, hv =>
    have := hv.scalar
    subst this
    exact (place_nil w).mono fun e w' ⟨he, hw⟩ => ⟨_, he, hw, two _ _ _⟩
  | some (c, none), hv =>
    obtain ⟨u, rfl, hu⟩ := hv.ifc_inv
    have := hu.scalar
    subst this
    exact (place_errno c w hg).mono fun e w' ⟨he, hw⟩ => ⟨_, he, hw, two _ _ _⟩
  | some (c, some s), hv =>
    obtain ⟨u, rfl, hu⟩ := hv.ifc_inv
    obtain ⟨b, off, f, rfl, _, _, hc, hr⟩ := hu.ip_inv
    have h1 := hc 0 (by simp)
    have h2 := (hr 0 _ rfl).scalar
    rw [h2] at h1
    have h3 := hc 1 (by simp)
    have h4 := (hr 1 _ rfl).scalar
    rw [h4] at h3
    exact (place_at c s b off w hg h1 h3).mono fun e w' ⟨he, hw⟩ => ⟨_, he, hw, two _ _ _⟩
#print axioms place_spec
end Go.Proofs.YtoikggboakojlaaDoor
