/-
  Texts that belong together, in one file: B5, B6, B7, B8, P9, B9, R1, R2, R3, Q2.
-/
import Derived.Test.YtoikggboakojlaaDoorLt4
import Derived.SizedLaws
import Derived.Test.YtoikggboakojlaaDoorRows
import Derived.LaidLaws
import Derived.LaidHandle
import Derived.LaidSub
import Derived.Stop.Joined
import Derived.Lay
import Derived.OpenShut
/-
  What is worked out until nothing changes: lasso.holds's own functions.
-/
namespace Go.Proofs.YtoikggboakojlaaDoor
set_option linter.unusedSimpArgs false
set_option linter.unusedVariables false
open Go.Av

def dB (b : Bool) : D := .v (.bool b)
def dBs (l : List Bool) : D := .sl none (l.map fun b => [dB b])
def dOf (l : List (List Bool)) : D := .sl none (l.map fun x => [dBs x])
def dNames (l : List (List UInt8)) : D := .sl none (l.map fun s => [dS s])
def dTimes (l : List (List (List UInt8))) : D := .sl none (l.map fun t => [dNames t])
def nxF (ah n i : Nat) : Nat := if i + 1 = n then ah else i + 1

theorem next_spec (G : Glob) (a r : List (List (List UInt8))) (n i : Nat) (hi : i < 2^60) (hn : n < 2^60) : PureC Tryd.prog G 101 [dNum i, .ip [dNum n], .ip [dTimes a, dTimes r]] (dNum (nxF a.length n i)) := by
  unfold nxF
  refine PureC.of_body (tyOf_good _) Tryd.func101 rfl rfl (rs := [.tmp 4]) Tryd.results101 (by simp [Tryd.ntmps101]) fun X => ?_
  simp only [Tryd.ntmps101, List.map]
  refine AW_rg (tyOf_good _) [0, 1, 2] [] (fun _ _ => trivial) fun K' hK' => ?_
  repeat (refine sxf_next fun K2 hK2 => ?_; simp [dNum, dTimes]; (repeat (refine ⟨by omega, ?_⟩)); refine hK2 _ ?_; clear hK2 K2)
  refine sxf_nil (hK' _ ?_)
  refine AW.st (by simp [dNum, dTimes]; rfl) ?_
  clear hK' K'
  refine AW_then fun K1 hK1 => ?_
  by_cases h : i + 1 = n
  · have h' : (i : Int) + 1 = n := by omega
    refine AW_rg (tyOf_good _) [0, 2, 8] [] (fun _ _ => trivial) fun K' hK' => ?_
    repeat (refine sxf_next fun K2 hK2 => ?_; simp [dNum, dTimes, h']; (repeat (refine ⟨by omega, ?_⟩)); refine hK2 _ ?_; clear hK2 K2)
    refine sxf_nil (hK' _ ?_)
    refine AW.st (by simp [dNum, dTimes, h']; rfl) ?_
    clear hK' K'
    refine AW_cond true rfl (fun _ => ?_) (fun h => by cases h)
    refine AW_rg (tyOf_good _) [4] [] (fun _ _ => trivial) fun K' hK' => ?_
    repeat (refine sxf_next fun K2 hK2 => ?_; simp [dNum, dTimes]; (repeat (refine ⟨by omega, ?_⟩)); refine hK2 _ ?_; clear hK2 K2)
    refine sxf_nil (hK' _ ?_)
    refine AW.st (by simp [dNum, dTimes]; rfl) ?_
    clear hK' K'
    refine AW_ret ?_
    simp [D.le, D.le.go, takeMap, dNum, dTimes, h]
  · have h' : ¬ (i : Int) + 1 = n := by omega
    refine AW_rg (tyOf_good _) [0, 2, 8] [] (fun _ _ => trivial) fun K' hK' => ?_
    repeat (refine sxf_next fun K2 hK2 => ?_; simp [dNum, dTimes, h']; (repeat (refine ⟨by omega, ?_⟩)); refine hK2 _ ?_; clear hK2 K2)
    refine sxf_nil (hK' _ ?_)
    refine AW.st (by simp [dNum, dTimes, h']; rfl) ?_
    clear hK' K'
    refine AW_cond false rfl (fun h => by cases h) (fun _ => ?_)
    refine AW_skip (hK1 _ ?_)
    refine AW_rg (tyOf_good _) [4] [] (fun _ _ => trivial) fun K' hK' => ?_
    repeat (refine sxf_next fun K2 hK2 => ?_; simp [dNum, dTimes]; (repeat (refine ⟨by omega, ?_⟩)); refine hK2 _ ?_; clear hK2 K2)
    refine sxf_nil (hK' _ ?_)
    refine AW.st (by simp [dNum, dTimes]; rfl) ?_
    clear hK' K'
    refine AW_ret ?_
    simp [D.le, D.le.go, takeMap, dNum, dTimes, h]

theorem until_spec (G : Glob) (o0 o1 : List Bool) (i : Nat) (b : Bool) (h0 : i < o0.length) (h1 : i < o1.length) : PureC Tryd.prog G 103 [dNum i, dB b, .ip [dOf [o0, o1]]] (dB (o1[i] || (o0[i] && b))) := by
  cases hb1 : o1[i] with
  | true =>
    refine PureC.of_body (tyOf_good _) Tryd.func103 rfl rfl (rs := [.tmp 5]) Tryd.results103 (by simp [Tryd.ntmps103]) fun X => ?_
    simp only [Tryd.ntmps103, List.map]
    refine AW_rg (tyOf_good _) [0, 1, 2] [] (fun _ _ => trivial) fun K' hK' => ?_
    repeat (refine sxf_next fun K2 hK2 => ?_; simp [dNum, dB, dOf, dBs]; (repeat (refine ⟨by omega, ?_⟩)); refine hK2 _ ?_; clear hK2 K2)
    refine sxf_nil (hK' _ ?_)
    refine AW.st (by simp [dNum, dB, dOf, dBs]; rfl) ?_
    clear hK' K'
    refine AW_rg (tyOf_good _) [5] [] (fun _ _ => trivial) fun K' hK' => ?_
    repeat (refine sxf_next fun K2 hK2 => ?_; simp [dNum, dB, dOf, dBs, h0, h1, hb1]; (repeat (refine ⟨by omega, ?_⟩)); refine hK2 _ ?_; clear hK2 K2)
    refine sxf_nil (hK' _ ?_)
    refine AW.st (by simp [dNum, dB, dOf, dBs, h0, h1, hb1]; rfl) ?_
    clear hK' K'
    refine AW_ret ?_
    simp [D.le, D.le.go, takeMap, dNum, dB, dOf, dBs]
  | false =>
    cases hb0 : o0[i] with
    | true =>
      refine PureC.of_body (tyOf_good _) Tryd.func103 rfl rfl (rs := [.tmp 5]) Tryd.results103 (by simp [Tryd.ntmps103]) fun X => ?_
      simp only [Tryd.ntmps103, List.map]
      refine AW_rg (tyOf_good _) [0, 1, 2] [] (fun _ _ => trivial) fun K' hK' => ?_
      repeat (refine sxf_next fun K2 hK2 => ?_; simp [dNum, dB, dOf, dBs]; (repeat (refine ⟨by omega, ?_⟩)); refine hK2 _ ?_; clear hK2 K2)
      refine sxf_nil (hK' _ ?_)
      refine AW.st (by simp [dNum, dB, dOf, dBs]; rfl) ?_
      clear hK' K'
      refine AW_rg (tyOf_good _) [5] [] (fun _ _ => trivial) fun K' hK' => ?_
      repeat (refine sxf_next fun K2 hK2 => ?_; simp [dNum, dB, dOf, dBs, h0, h1, hb1, hb0]; (repeat (refine ⟨by omega, ?_⟩)); refine hK2 _ ?_; clear hK2 K2)
      refine sxf_nil (hK' _ ?_)
      refine AW.st (by simp [dNum, dB, dOf, dBs, h0, h1, hb1, hb0]; rfl) ?_
      clear hK' K'
      refine AW_ret ?_
      simp [D.le, D.le.go, takeMap, dNum, dB, dOf, dBs]
    | false =>
      refine PureC.of_body (tyOf_good _) Tryd.func103 rfl rfl (rs := [.tmp 5]) Tryd.results103 (by simp [Tryd.ntmps103]) fun X => ?_
      simp only [Tryd.ntmps103, List.map]
      refine AW_rg (tyOf_good _) [0, 1, 2] [] (fun _ _ => trivial) fun K' hK' => ?_
      repeat (refine sxf_next fun K2 hK2 => ?_; simp [dNum, dB, dOf, dBs]; (repeat (refine ⟨by omega, ?_⟩)); refine hK2 _ ?_; clear hK2 K2)
      refine sxf_nil (hK' _ ?_)
      refine AW.st (by simp [dNum, dB, dOf, dBs]; rfl) ?_
      clear hK' K'
      refine AW_rg (tyOf_good _) [5] [] (fun _ _ => trivial) fun K' hK' => ?_
      repeat (refine sxf_next fun K2 hK2 => ?_; simp [dNum, dB, dOf, dBs, h0, h1, hb1, hb0]; (repeat (refine ⟨by omega, ?_⟩)); refine hK2 _ ?_; clear hK2 K2)
      refine sxf_nil (hK' _ ?_)
      refine AW.st (by simp [dNum, dB, dOf, dBs, h0, h1, hb1, hb0]; rfl) ?_
      clear hK' K'
      refine AW_ret ?_
      simp [D.le, D.le.go, takeMap, dNum, dB, dOf, dBs]
theorem release_spec (G : Glob) (o0 o1 : List Bool) (i : Nat) (b : Bool) (h0 : i < o0.length) (h1 : i < o1.length) : PureC Tryd.prog G 104 [dNum i, dB b, .ip [dOf [o0, o1]]] (dB (o1[i] && (o0[i] || b))) := by
  cases hb1 : o1[i] with
  | false =>
    refine PureC.of_body (tyOf_good _) Tryd.func104 rfl rfl (rs := [.tmp 5]) Tryd.results104 (by simp [Tryd.ntmps104]) fun X => ?_
    simp only [Tryd.ntmps104, List.map]
    refine AW_rg (tyOf_good _) [0, 1, 2] [] (fun _ _ => trivial) fun K' hK' => ?_
    repeat (refine sxf_next fun K2 hK2 => ?_; simp [dNum, dB, dOf, dBs]; (repeat (refine ⟨by omega, ?_⟩)); refine hK2 _ ?_; clear hK2 K2)
    refine sxf_nil (hK' _ ?_)
    refine AW.st (by simp [dNum, dB, dOf, dBs]; rfl) ?_
    clear hK' K'
    refine AW_rg (tyOf_good _) [5] [] (fun _ _ => trivial) fun K' hK' => ?_
    repeat (refine sxf_next fun K2 hK2 => ?_; simp [dNum, dB, dOf, dBs, h0, h1, hb1]; (repeat (refine ⟨by omega, ?_⟩)); refine hK2 _ ?_; clear hK2 K2)
    refine sxf_nil (hK' _ ?_)
    refine AW.st (by simp [dNum, dB, dOf, dBs, h0, h1, hb1]; rfl) ?_
    clear hK' K'
    refine AW_ret ?_
    simp [D.le, D.le.go, takeMap, dNum, dB, dOf, dBs]
  | true =>
    cases hb0 : o0[i] with
    | true =>
      refine PureC.of_body (tyOf_good _) Tryd.func104 rfl rfl (rs := [.tmp 5]) Tryd.results104 (by simp [Tryd.ntmps104]) fun X => ?_
      simp only [Tryd.ntmps104, List.map]
      refine AW_rg (tyOf_good _) [0, 1, 2] [] (fun _ _ => trivial) fun K' hK' => ?_
      repeat (refine sxf_next fun K2 hK2 => ?_; simp [dNum, dB, dOf, dBs]; (repeat (refine ⟨by omega, ?_⟩)); refine hK2 _ ?_; clear hK2 K2)
      refine sxf_nil (hK' _ ?_)
      refine AW.st (by simp [dNum, dB, dOf, dBs]; rfl) ?_
      clear hK' K'
      refine AW_rg (tyOf_good _) [5] [] (fun _ _ => trivial) fun K' hK' => ?_
      repeat (refine sxf_next fun K2 hK2 => ?_; simp [dNum, dB, dOf, dBs, h0, h1, hb1, hb0]; (repeat (refine ⟨by omega, ?_⟩)); refine hK2 _ ?_; clear hK2 K2)
      refine sxf_nil (hK' _ ?_)
      refine AW.st (by simp [dNum, dB, dOf, dBs, h0, h1, hb1, hb0]; rfl) ?_
      clear hK' K'
      refine AW_ret ?_
      simp [D.le, D.le.go, takeMap, dNum, dB, dOf, dBs]
    | false =>
      refine PureC.of_body (tyOf_good _) Tryd.func104 rfl rfl (rs := [.tmp 5]) Tryd.results104 (by simp [Tryd.ntmps104]) fun X => ?_
      simp only [Tryd.ntmps104, List.map]
      refine AW_rg (tyOf_good _) [0, 1, 2] [] (fun _ _ => trivial) fun K' hK' => ?_
      repeat (refine sxf_next fun K2 hK2 => ?_; simp [dNum, dB, dOf, dBs]; (repeat (refine ⟨by omega, ?_⟩)); refine hK2 _ ?_; clear hK2 K2)
      refine sxf_nil (hK' _ ?_)
      refine AW.st (by simp [dNum, dB, dOf, dBs]; rfl) ?_
      clear hK' K'
      refine AW_rg (tyOf_good _) [5] [] (fun _ _ => trivial) fun K' hK' => ?_
      repeat (refine sxf_next fun K2 hK2 => ?_; simp [dNum, dB, dOf, dBs, h0, h1, hb1, hb0]; (repeat (refine ⟨by omega, ?_⟩)); refine hK2 _ ?_; clear hK2 K2)
      refine sxf_nil (hK' _ ?_)
      refine AW.st (by simp [dNum, dB, dOf, dBs, h0, h1, hb1, hb0]; rfl) ?_
      clear hK' K'
      refine AW_ret ?_
      simp [D.le, D.le.go, takeMap, dNum, dB, dOf, dBs]
theorem ever_spec (G : Glob) (o0 : List Bool) (i : Nat) (b : Bool) (h0 : i < o0.length) : PureC Tryd.prog G 105 [dNum i, dB b, .ip [dOf [o0]]] (dB (o0[i] || b)) := by
  cases hb0 : o0[i] with
  | true =>
    refine PureC.of_body (tyOf_good _) Tryd.func105 rfl rfl (rs := [.tmp 5]) Tryd.results105 (by simp [Tryd.ntmps105]) fun X => ?_
    simp only [Tryd.ntmps105, List.map]
    refine AW_rg (tyOf_good _) [0, 1, 2] [] (fun _ _ => trivial) fun K' hK' => ?_
    repeat (refine sxf_next fun K2 hK2 => ?_; simp [dNum, dB, dOf, dBs]; (repeat (refine ⟨by omega, ?_⟩)); refine hK2 _ ?_; clear hK2 K2)
    refine sxf_nil (hK' _ ?_)
    refine AW.st (by simp [dNum, dB, dOf, dBs]; rfl) ?_
    clear hK' K'
    refine AW_rg (tyOf_good _) [5] [] (fun _ _ => trivial) fun K' hK' => ?_
    repeat (refine sxf_next fun K2 hK2 => ?_; simp [dNum, dB, dOf, dBs, h0, hb0]; (repeat (refine ⟨by omega, ?_⟩)); refine hK2 _ ?_; clear hK2 K2)
    refine sxf_nil (hK' _ ?_)
    refine AW.st (by simp [dNum, dB, dOf, dBs, h0, hb0]; rfl) ?_
    clear hK' K'
    refine AW_ret ?_
    simp [D.le, D.le.go, takeMap, dNum, dB, dOf, dBs]
  | false =>
    refine PureC.of_body (tyOf_good _) Tryd.func105 rfl rfl (rs := [.tmp 5]) Tryd.results105 (by simp [Tryd.ntmps105]) fun X => ?_
    simp only [Tryd.ntmps105, List.map]
    refine AW_rg (tyOf_good _) [0, 1, 2] [] (fun _ _ => trivial) fun K' hK' => ?_
    repeat (refine sxf_next fun K2 hK2 => ?_; simp [dNum, dB, dOf, dBs]; (repeat (refine ⟨by omega, ?_⟩)); refine hK2 _ ?_; clear hK2 K2)
    refine sxf_nil (hK' _ ?_)
    refine AW.st (by simp [dNum, dB, dOf, dBs]; rfl) ?_
    clear hK' K'
    refine AW_rg (tyOf_good _) [5] [] (fun _ _ => trivial) fun K' hK' => ?_
    repeat (refine sxf_next fun K2 hK2 => ?_; simp [dNum, dB, dOf, dBs, h0, hb0]; (repeat (refine ⟨by omega, ?_⟩)); refine hK2 _ ?_; clear hK2 K2)
    refine sxf_nil (hK' _ ?_)
    refine AW.st (by simp [dNum, dB, dOf, dBs, h0, hb0]; rfl) ?_
    clear hK' K'
    refine AW_ret ?_
    simp [D.le, D.le.go, takeMap, dNum, dB, dOf, dBs]
theorem always_spec (G : Glob) (o0 : List Bool) (i : Nat) (b : Bool) (h0 : i < o0.length) : PureC Tryd.prog G 106 [dNum i, dB b, .ip [dOf [o0]]] (dB (o0[i] && b)) := by
  cases hb0 : o0[i] with
  | true =>
    refine PureC.of_body (tyOf_good _) Tryd.func106 rfl rfl (rs := [.tmp 5]) Tryd.results106 (by simp [Tryd.ntmps106]) fun X => ?_
    simp only [Tryd.ntmps106, List.map]
    refine AW_rg (tyOf_good _) [0, 1, 2] [] (fun _ _ => trivial) fun K' hK' => ?_
    repeat (refine sxf_next fun K2 hK2 => ?_; simp [dNum, dB, dOf, dBs]; (repeat (refine ⟨by omega, ?_⟩)); refine hK2 _ ?_; clear hK2 K2)
    refine sxf_nil (hK' _ ?_)
    refine AW.st (by simp [dNum, dB, dOf, dBs]; rfl) ?_
    clear hK' K'
    refine AW_rg (tyOf_good _) [5] [] (fun _ _ => trivial) fun K' hK' => ?_
    repeat (refine sxf_next fun K2 hK2 => ?_; simp [dNum, dB, dOf, dBs, h0, hb0]; (repeat (refine ⟨by omega, ?_⟩)); refine hK2 _ ?_; clear hK2 K2)
    refine sxf_nil (hK' _ ?_)
    refine AW.st (by simp [dNum, dB, dOf, dBs, h0, hb0]; rfl) ?_
    clear hK' K'
    refine AW_ret ?_
    simp [D.le, D.le.go, takeMap, dNum, dB, dOf, dBs]
  | false =>
    refine PureC.of_body (tyOf_good _) Tryd.func106 rfl rfl (rs := [.tmp 5]) Tryd.results106 (by simp [Tryd.ntmps106]) fun X => ?_
    simp only [Tryd.ntmps106, List.map]
    refine AW_rg (tyOf_good _) [0, 1, 2] [] (fun _ _ => trivial) fun K' hK' => ?_
    repeat (refine sxf_next fun K2 hK2 => ?_; simp [dNum, dB, dOf, dBs]; (repeat (refine ⟨by omega, ?_⟩)); refine hK2 _ ?_; clear hK2 K2)
    refine sxf_nil (hK' _ ?_)
    refine AW.st (by simp [dNum, dB, dOf, dBs]; rfl) ?_
    clear hK' K'
    refine AW_rg (tyOf_good _) [5] [] (fun _ _ => trivial) fun K' hK' => ?_
    repeat (refine sxf_next fun K2 hK2 => ?_; simp [dNum, dB, dOf, dBs, h0, hb0]; (repeat (refine ⟨by omega, ?_⟩)); refine hK2 _ ?_; clear hK2 K2)
    refine sxf_nil (hK' _ ?_)
    refine AW.st (by simp [dNum, dB, dOf, dBs, h0, hb0]; rfl) ?_
    clear hK' K'
    refine AW_ret ?_
    simp [D.le, D.le.go, takeMap, dNum, dB, dOf, dBs]
#print axioms until_spec

def rowB (n : Nat) (f : Nat → Bool) : Row := .sl 4 1 ((List.range n).map fun i => [dB (f i)])
theorem set_rowB (n : Nat) (f : Nat → Bool) (i : Nat) (x : Bool) : ((List.range n).map fun j => [D.v (.bool (f j))]).set i [D.v (.bool x)] = (List.range n).map fun j => [D.v (.bool (setB f i x j))] := by
  apply List.ext_getElem
  · simp
  · intro j h1 h2
    rw [List.getElem_set]
    by_cases e : i = j
    · subst e; simp [setB]
    · simp [setB, e, Ne.symm e]
theorem rowB_congr {n : Nat} {f g : Nat → Bool} (h : ∀ i, i < n → f i = g i) : rowB n f = rowB n g := by
  unfold rowB
  congr 1
  apply List.map_congr_left
  intro i hi
  rw [h i (List.mem_range.1 hi)]

set_option maxHeartbeats 8000000 in
theorem fix_spec (G : Glob) (now : Nat → Bool → Bool) (nx : Nat → Nat) (st : Bool) (n : Nat) (hn : n < 2^40) (hm : MonoN now) (hx : ∀ i, i < n → nx i < n) (g g2 : FuncId) (caps caps2 : List D)
    (hnow : ∀ i b, i < n → PureC Tryd.prog G g (dNum i :: dB b :: caps) (dB (now i b))) (hnext : ∀ i, i < n → PureC Tryd.prog G g2 (dNum i :: caps2) (dNum (nx i))) (f : Nat → Bool) :
    MC Tryd.prog G [6, 30] 102 [.d (dB st), .d (.fn (.func g) caps), .ref 6 0 0, .d (.ip [dNum n]), .d (.ip [.fn (.func g2) caps2])] (hlst [(6, .box 56 [.own 30 0 n]), (30, rowB n f)]) (.d (.tup [])) (hlst [(6, .box 56 [.own 30 0 n]), (30, rowB n (iterN now nx st n))]) := by
  refine MC.of_body (tyOf_good _) Tryd.func102 rfl rfl (rs := []) Tryd.results102 (by simp [Tryd.ntmps102]) rfl fun X => ?_
  simp only [Tryd.ntmps102]
  refine AW_then fun K1 hK1 => ?_
  refine AW_rg (tyOf_good _) [0, 1, 2, 3, 4, 12, 13] [6, 30] (notIn_ok rfl) fun K' hK' => ?_
  repeat (refine sxf_next fun K2 hK2 => ?_; simp [dNum, dB, rowB]; (repeat (refine ⟨by omega, ?_⟩)); refine hK2 _ ?_; clear hK2 K2)
  refine sxf_nil (hK' _ ?_)
  refine AW.st (by simp [dNum, dB, rowB]; rfl) ?_
  clear hK' K'
  refine AW_for (S := (Nat → Bool) × Nat) (fun s => s.2 ≤ n ∧ ∀ j, j < s.2 → s.1 j = st) (fun s => ⟨lst [(0, .d (dB st)), (1, .d (.fn (.func g) caps)), (2, .ref 6 0 0), (3, .d (.ip [dNum n])), (4, .d (.ip [.fn (.func g2) caps2])), (12, int n), (13, int s.2)], hlst [(6, .box 56 [.own 30 0 n]), (30, rowB n s.1)]⟩) (fun s => n - s.2) (f, 0) ?_ (by simp) ?_
  · refine Imp.to' (notIn_ok rfl) (by simp [dNum, dB, rowB]) (by simp [dNum, dB, rowB])
  · rintro ⟨f, i⟩ ⟨hi, hall⟩
    dsimp only at hi hall ⊢
    refine AW_rg (tyOf_good _) [0, 1, 2, 3, 4, 12, 13, 14] [6, 30] (notIn_ok rfl) fun K' hK' => ?_
    repeat (refine sxf_next fun K2 hK2 => ?_; simp [dNum, dB, rowB]; (repeat (refine ⟨by omega, ?_⟩)); refine hK2 _ ?_; clear hK2 K2)
    refine sxf_nil (hK' _ ?_)
    refine AW.st (by simp [dNum, dB, rowB]; rfl) ?_
    clear hK' K'
    refine AW_then fun K2 hK2 => ?_
    refine AW_cond' (b := i < n) (by simp [D.le, D.le.go, takeMap, dNum, dB, rowB]) (fun hc => ?_) (fun hc => ?_)
    · have hin : i < n := hc
      refine AW_skip (hK2 _ ?_)
      refine AW_then fun K3 hK3 => ?_
      refine AW_block ?_
      refine AW_rg (tyOf_good _) [0, 1, 2, 3, 4, 7, 12, 13] [6, 30] (notIn_ok rfl) fun K' hK' => ?_
      repeat (refine sxf_next fun K2 hK2 => ?_; simp [dNum, dB, rowB]; (repeat (refine ⟨by omega, ?_⟩)); refine hK2 _ ?_; clear hK2 K2)
      refine sxf_nil (hK' _ ?_)
      refine AW.st (by simp [dNum, dB, rowB]; rfl) ?_
      clear hK' K'
      refine AW_re (tyOf_good _) fun K' hK' => ?_
      repeat (refine sxf_next fun K2 hK2 => ?_; simp [dNum, dB, rowB, hin]; (repeat (refine ⟨by omega, ?_⟩)); refine hK2 _ ?_; clear hK2 K2)
      refine sxf_nil (hK' _ ?_)
      clear hK' K'
      refine hK3 _ (AW.norm [0, 1, 2, 3, 4, 12, 13] [6, 30] (notIn_ok rfl) (AW.st (by simp [dNum, dB, rowB, hin]; rfl) ?_))
      refine AW_re (tyOf_good _) fun K' hK' => ?_
      repeat (refine sxf_next fun K2 hK2 => ?_; simp [dNum, dB, rowB]; (repeat (refine ⟨by omega, ?_⟩)); refine hK2 _ ?_; clear hK2 K2)
      refine sxf_nil (hK' _ ?_)
      clear hK' K'
      try simp only [thn, inb]
      refine Again.mk (setB f i st, i + 1) ⟨by dsimp only; omega, fun j hj => ?_⟩ (by dsimp only; omega) ?_
      · dsimp only at hj ⊢
        unfold setB
        split
        · rfl
        · exact hall j (by omega)
      refine Imp.to' (notIn_ok rfl) (by simp [dNum, dB, rowB, set_rowB]) (by simp [dNum, dB, rowB, set_rowB])
    · obtain rfl : i = n := by omega
      refine AW_exit (hK1 _ ?_)
      refine AW_rg (tyOf_good _) [1, 2, 3, 4, 8] [6, 30] (notIn_ok rfl) fun K' hK' => ?_
      repeat (refine sxf_next fun K2 hK2 => ?_; simp [dNum, dB, rowB]; (repeat (refine ⟨by omega, ?_⟩)); refine hK2 _ ?_; clear hK2 K2)
      refine sxf_nil (hK' _ ?_)
      refine AW.st (by simp [dNum, dB, rowB]; rfl) ?_
      clear hK' K'
      have hk0 : Kept now nx st i f := ⟨fun j hj => .inl (hall j hj), fun j hj => .inl (hall j hj)⟩
      refine AW_for (S := (Nat → Bool) × Bool) (fun s => Kept now nx st i s.1 ∧ (s.2 = false → ∀ j, j < i → s.1 j = now j (s.1 (nx j)))) (fun s => ⟨lst [(1, .d (.fn (.func g) caps)), (2, .ref 6 0 0), (3, .d (.ip [dNum i])), (4, .d (.ip [.fn (.func g2) caps2])), (8, .d (dB s.2))], hlst [(6, .box 56 [.own 30 0 i]), (30, rowB i s.1)]⟩) (fun s => 2 * (i - up st i s.1) + (if s.2 then 1 else 0)) (f, true) ?_ ⟨hk0, fun h => by cases h⟩ ?_
      · refine Imp.to' (notIn_ok rfl) (by simp [dNum, dB, rowB]) (by simp [dNum, dB, rowB])
      · rintro ⟨f, again⟩ ⟨hk, hfix⟩
        dsimp only at hk hfix ⊢
        refine AW_then fun K4 hK4 => ?_
        refine AW_rg (tyOf_good _) [1, 2, 3, 4, 21] [6, 30] (notIn_ok rfl) fun K' hK' => ?_
        repeat (refine sxf_next fun K2 hK2 => ?_; simp [dNum, dB, rowB]; (repeat (refine ⟨by omega, ?_⟩)); refine hK2 _ ?_; clear hK2 K2)
        refine sxf_nil (hK' _ ?_)
        refine AW.st (by simp [dNum, dB, rowB]; rfl) ?_
        clear hK' K'
        cases again with
        | false =>
          refine AW_cond false rfl (fun h => by cases h) (fun _ => ?_)
          have hres : rowB i f = rowB i (iterN now nx st i) := rowB_congr fun j hj => iterN_is hm hx (hfix rfl) hk.le hj
          refine AW_exit ?_
          rw [← hres]
          simp [dNum, dB, rowB]
          exact D.le_refl _
        | true =>
          refine AW_cond true rfl (fun _ => ?_) (fun h => by cases h)
          refine AW_skip (hK4 _ ?_)
          refine AW_block ?_
          refine AW_rg (tyOf_good _) [1, 2, 3, 4, 8] [6, 30] (notIn_ok rfl) fun K' hK' => ?_
          repeat (refine sxf_next fun K2 hK2 => ?_; simp [dNum, dB, rowB]; (repeat (refine ⟨by omega, ?_⟩)); refine hK2 _ ?_; clear hK2 K2)
          refine sxf_nil (hK' _ ?_)
          refine AW.st (by simp [dNum, dB, rowB]; rfl) ?_
          clear hK' K'
          refine AW_rg (tyOf_good _) [1, 2, 3, 4, 8, 9] [6, 30] (notIn_ok rfl) fun K' hK' => ?_
          repeat (refine sxf_next fun K2 hK2 => ?_; simp [dNum, dB, rowB]; (repeat (refine ⟨by omega, ?_⟩)); refine hK2 _ ?_; clear hK2 K2)
          refine sxf_nil (hK' _ ?_)
          refine AW.st (by simp [dNum, dB, rowB]; rfl) ?_
          clear hK' K'
          refine AW_for (S := (Nat → Bool) × Bool × Nat) (fun s => s.2.2 ≤ i ∧ Kept now nx st i s.1 ∧ (s.2.1 = false → s.1 = f ∧ ∀ j, s.2.2 ≤ j → j < i → s.1 j = now j (s.1 (nx j))) ∧ (s.2.1 = true → up st i f < up st i s.1)) (fun s => ⟨lst [(1, .d (.fn (.func g) caps)), (2, .ref 6 0 0), (3, .d (.ip [dNum i])), (4, .d (.ip [.fn (.func g2) caps2])), (8, .d (dB s.2.1)), (9, int ((s.2.2 : Int) - 1))], hlst [(6, .box 56 [.own 30 0 i]), (30, rowB i s.1)]⟩) (fun s => s.2.2) (f, false, i) ?_ ⟨Nat.le_refl _, hk, fun _ => ⟨rfl, fun j h1 h2 => by dsimp only at h1; omega⟩, fun h => by cases h⟩ ?_
          · refine Imp.to' (notIn_ok rfl) (by simp [dNum, dB, rowB]) (by simp [dNum, dB, rowB])
          · rintro ⟨f', again, m⟩ ⟨hmi, hk', hf1, hf2⟩
            dsimp only at hmi hk' hf1 hf2 ⊢
            refine AW_then fun K5 hK5 => ?_
            cases m with
            | zero =>
              refine AW_rg (tyOf_good _) [1, 2, 3, 4, 8, 9, 25] [6, 30] (notIn_ok rfl) fun K' hK' => ?_
              repeat (refine sxf_next fun K2 hK2 => ?_; simp [dNum, dB, rowB]; (repeat (refine ⟨by omega, ?_⟩)); refine hK2 _ ?_; clear hK2 K2)
              refine sxf_nil (hK' _ ?_)
              refine AW.st (by simp [dNum, dB, rowB]; rfl) ?_
              clear hK' K'
              refine AW_cond false rfl (fun h => by cases h) (fun _ => ?_)
              refine AW_exit ?_
              refine Again.mk (f', again) ⟨hk', fun h => fun j hj => (hf1 h).2 j (Nat.zero_le _) hj⟩ ?_ ?_
              · dsimp only
                have h1 := up_le st i f'
                cases again with
                | false => rw [(hf1 rfl).1]; simp
                | true => have := hf2 rfl; simp; omega
              · refine Imp.to' (notIn_ok rfl) (by simp [dNum, dB, rowB]) (by simp [dNum, dB, rowB])
            | succ j =>
              have hji : j < i := by omega
              have hxj := hx j hji
              have hcall1 := hnext j hji
              have hcall2 := hnow j (f' (nx j)) hji
              refine AW_rg (tyOf_good _) [1, 2, 3, 4, 8, 9, 25] [6, 30] (notIn_ok rfl) fun K' hK' => ?_
              repeat (refine sxf_next fun K2 hK2 => ?_; simp [dNum, dB, rowB]; (repeat (refine ⟨by omega, ?_⟩)); refine hK2 _ ?_; clear hK2 K2)
              refine sxf_nil (hK' _ ?_)
              refine AW.st (by simp [dNum, dB, rowB]; rfl) ?_
              clear hK' K'
              refine AW_cond true rfl (fun _ => ?_) (fun h => by cases h)
              refine AW_skip (hK5 _ ?_)
              refine AW_then fun K6 hK6 => ?_
              refine AW_block ?_
              refine AW_rd (tyOf_good _) (by kernel_rfl) [1, 2, 3, 4, 8, 9, 10] [6, 30] (notIn_ok rfl) (by kernel_rfl) fun K' hK' => ?_
              repeat (refine sxd_next fun K2 hK2 => ?_; simp [dNum, dB, rowB, hxj, hji]; (repeat (refine ⟨by omega, ?_⟩)); refine hK2 _ ?_; clear hK2 K2)
              refine sxd_next fun K2 hK2 => ?_
              simp [dNum, dB, rowB, hxj, hji]
              refine callQ.data (hcall1) (by simp; rfl) (by simp; rfl) (by first | exact D.leGo_refl _ | simp [takeMap, List.map_map, Function.comp_def, D.le, D.le.go, D.le_refl, D.leGo_refl, dNum, dB, rowB, hxj, hji]) ?_
              refine hK2 _ ?_
              clear hK2 K2
              simp only [putd, upd_lst]
              repeat (refine sxd_next fun K2 hK2 => ?_; simp [dNum, dB, rowB, hxj, hji]; (repeat (refine ⟨by omega, ?_⟩)); refine hK2 _ ?_; clear hK2 K2)
              refine sxd_next fun K2 hK2 => ?_
              simp [dNum, dB, rowB, hxj, hji]
              refine callQ.data (hcall2) (by simp; rfl) (by simp; rfl) (by first | exact D.leGo_refl _ | simp [takeMap, List.map_map, Function.comp_def, D.le, D.le.go, D.le_refl, D.leGo_refl, dNum, dB, rowB, hxj, hji]) ?_
              refine hK2 _ ?_
              clear hK2 K2
              simp only [putd, upd_lst]
              repeat (refine sxd_next fun K2 hK2 => ?_; simp [dNum, dB, rowB, hxj, hji]; (repeat (refine ⟨by omega, ?_⟩)); refine hK2 _ ?_; clear hK2 K2)
              refine sxd_nil (hK' _ ?_)
              refine AW.st (by simp [dNum, dB, rowB, hxj, hji]; rfl) ?_
              clear hK' K'
              by_cases hne : now j (f' (nx j)) = f' j
              · refine AW_rg (tyOf_good _) [1, 2, 3, 4, 8, 9, 10, 42] [6, 30] (notIn_ok rfl) fun K' hK' => ?_
                repeat (refine sxf_next fun K2 hK2 => ?_; simp [dNum, dB, rowB, hne, hji]; (repeat (refine ⟨by omega, ?_⟩)); refine hK2 _ ?_; clear hK2 K2)
                refine sxf_nil (hK' _ ?_)
                refine AW.st (by simp [dNum, dB, rowB, hne, hji]; rfl) ?_
                clear hK' K'
                refine AW_cond false rfl (fun h => by cases h) (fun _ => ?_)
                refine AW_skip ?_
                refine hK6 _ (AW.norm [1, 2, 3, 4, 8, 9] [6, 30] (notIn_ok rfl) (AW.st (by simp [dNum, dB, rowB]; rfl) ?_))
                refine AW_re (tyOf_good _) fun K' hK' => ?_
                repeat (refine sxf_next fun K2 hK2 => ?_; simp [dNum, dB, rowB]; (repeat (refine ⟨by omega, ?_⟩)); refine hK2 _ ?_; clear hK2 K2)
                refine sxf_nil (hK' _ ?_)
                clear hK' K'
                try simp only [thn, inb]
                refine Again.mk (f', again, j) ⟨by dsimp only; omega, hk', fun h => ⟨(hf1 h).1, fun q h1 h2 => ?_⟩, hf2⟩ (by dsimp only; omega) ?_
                · dsimp only at h1
                  by_cases e : q = j
                  · subst e; exact hne.symm
                  · exact (hf1 h).2 q (by omega) h2
                refine Imp.to' (notIn_ok rfl) (by simp [dNum, dB, rowB]) (by simp [dNum, dB, rowB])
              · obtain ⟨hk2, hup⟩ := hk'.set hm hx hji hne
                generalize now j (f' (nx j)) = x at hne hk2 hup
                have hne2 : (x == f' j) = false := by simpa using hne
                refine AW_rg (tyOf_good _) [1, 2, 3, 4, 8, 9, 10, 42] [6, 30] (notIn_ok rfl) fun K' hK' => ?_
                repeat (refine sxf_next fun K2 hK2 => ?_; simp [dNum, dB, rowB, hne2, hji]; (repeat (refine ⟨by omega, ?_⟩)); refine hK2 _ ?_; clear hK2 K2)
                refine sxf_nil (hK' _ ?_)
                refine AW.st (by simp [dNum, dB, rowB, hne2, hji]; rfl) ?_
                clear hK' K'
                refine AW_cond true rfl (fun _ => ?_) (fun h => by cases h)
                refine AW_re (tyOf_good _) fun K' hK' => ?_
                repeat (refine sxf_next fun K2 hK2 => ?_; simp [dNum, dB, rowB, hji]; (repeat (refine ⟨by omega, ?_⟩)); refine hK2 _ ?_; clear hK2 K2)
                refine sxf_nil (hK' _ ?_)
                clear hK' K'
                refine hK6 _ (AW.norm [1, 2, 3, 4, 8, 9] [6, 30] (notIn_ok rfl) (AW.st (by simp [dNum, dB, rowB, hji]; rfl) ?_))
                refine AW_re (tyOf_good _) fun K' hK' => ?_
                repeat (refine sxf_next fun K2 hK2 => ?_; simp [dNum, dB, rowB]; (repeat (refine ⟨by omega, ?_⟩)); refine hK2 _ ?_; clear hK2 K2)
                refine sxf_nil (hK' _ ?_)
                clear hK' K'
                try simp only [thn, inb]
                refine Again.mk (setB f' j x, true, j) ⟨by dsimp only; omega, hk2, fun h => (by cases h), fun _ => ?_⟩ (by dsimp only; omega) ?_
                · dsimp only
                  cases again with
                  | false => rw [(hf1 rfl).1] at hup ⊢; exact hup
                  | true => have := hf2 rfl; omega
                refine Imp.to' (notIn_ok rfl) (by simp [dNum, dB, rowB, set_rowB]) (by simp [dNum, dB, rowB, set_rowB])
#print axioms fix_spec
end Go.Proofs.YtoikggboakojlaaDoor

/-
  At which times of a word a formula holds: lasso.holds.
-/
namespace Go.Proofs.YtoikggboakojlaaDoor
set_option linter.unusedSimpArgs false
set_option linter.unusedVariables false
open Go.Av

abbrev Times := List (List (List UInt8))
def dW (a r : Times) : D := .agg [dTimes a, dTimes r]
/-- What is so at time i, by what is so of the parts. -/
def valF (a r : Times) (k : Int) (s : List UInt8) (of : List (List Bool)) : Nat → Bool :=
  let n := a.length + r.length
  let o := fun (j i : Nat) => (of.getD j []).getD i false
  let nx := nxF a.length n
  if k = 1 then fun i => ((a ++ r).getD i []).any fun x => x == s
  else if k = 2 then fun _ => true
  else if k = 3 then fun i => !o 0 i
  else if k = 4 then fun i => o 0 i && o 1 i
  else if k = 5 then fun i => o 0 i || o 1 i
  else if k = 6 then fun i => o 0 (nx i)
  else if k = 7 then iterN (fun i b => o 1 i || (o 0 i && b)) nx false n
  else if k = 8 then iterN (fun i b => o 1 i && (o 0 i || b)) nx true n
  else if k = 9 then iterN (fun i b => o 0 i || b) nx false n
  else iterN (fun i b => o 0 i && b) nx true n
mutual
def holdsF (a r : Times) : Fm → List Bool
  | .nil => []
  | .mk k s l => (List.range (a.length + r.length)).map (valF a r k s (holdsL a r l))
def holdsL (a r : Times) : List Fm → List (List Bool)
  | [] => []
  | f :: l => holdsF a r f :: holdsL a r l
end
theorem holdsL_map (a r : Times) : ∀ l, holdsL a r l = l.map (holdsF a r)
  | [] => rfl
  | f :: l => by rw [holdsL, holdsL_map a r l]; rfl

theorem take_range_map (n : Nat) (g : Nat → List D) : List.take n ((List.range n).map g) = (List.range n).map g := List.take_of_length_le (by simp)
theorem setB_same (f : Nat → Bool) (i : Nat) (x : Bool) : setB f i x i = x := by simp [setB]
theorem setB_setB (f : Nat → Bool) (i : Nat) (x y : Bool) (j : Nat) : setB (setB f i x) i y j = setB f i y j := by unfold setB; split <;> rfl
theorem setB_id (f : Nat → Bool) {i : Nat} {x : Bool} (h : f i = x) (j : Nat) : setB f i x j = f j := by unfold setB; split <;> simp_all
theorem nxF_lt {a n i : Nat} (ha : a < n) (hi : i < n) : nxF a n i < n := by unfold nxF; split <;> omega
theorem right_at {d : Nat} : ∀ {l : List Fm} {n : Int}, (rightL d l n).2 = 0 → ∀ f ∈ l, (rightF d f).2 = 0
  | [], _, _, f, hf => by simp at hf
  | g :: l, n, h, f, hf => by
    rw [rightL] at h
    by_cases hg : (rightF d g).2 = 0
    · rw [if_neg (by simp [hg])] at h
      rcases List.mem_cons.1 hf with rfl | hf
      · exact hg
      · exact right_at h f hf
    · rw [if_pos hg] at h
      exact absurd h hg

set_option maxHeartbeats 16000000 in
theorem holds_spec (G : Glob) (a r : Times) (hr : 0 < r.length) (hn0 : a.length + r.length < 2^20) (hT : ∀ t ∈ a ++ r, t.length < 2^63) : ∀ (d : Nat) (f : Fm), (rightF d f).2 = 0 → namesOk f → PureC Tryd.prog G 74 [dW a r, dF f] (dBs (holdsF a r f)) := by
  intro d
  induction d with
  | zero =>
    intro f h _
    cases f <;> simp [rightF] at h
  | succ d ih =>
    intro f h hnm
    cases f with
    | nil => simp [rightF] at h
    | mk k s l =>
      have hb : badF k s l.length = 0 := by
        rw [rightF] at h
        by_cases hb : badF k s l.length = 0
        · exact hb
        · rw [if_pos hb] at h; exact absurd h hb
      rw [rightF, if_neg (by rw [hb]; decide)] at h
      have hch : ∀ g ∈ l, PureC Tryd.prog G 74 [dW a r, dF g] (dBs (holdsF a r g)) := fun g hg => ih g (right_at h g hg) (namesOkL_mem hnm.2 g hg)
      have hip : ∀ g ∈ l, ∃ c, dF g = .ip c := fun g hg => by
        have h1 := right_at h g hg
        cases g with
        | nil => cases d <;> simp [rightF] at h1
        | mk k s l => exact ⟨_, rfl⟩
      clear ih h
      have hk : 1 ≤ k ∧ k ≤ 10 ∧ (l.length : Int) = arityF k := by
        unfold badF at hb
        split at hb
        · cases hb
        · omega
      obtain ⟨hk1, hk10, hlen⟩ := hk
      have ha2 := arity_two hk1 hk10
      generalize hn : a.length + r.length = n at hn0
      have hnI : (a.length : Int) + r.length = n := by omega
      rw [holdsF, hn]
      refine PureC.of_body (tyOf_good _) Tryd.func74 rfl rfl (rs := [.tmp 4]) Tryd.results74 (by simp [Tryd.ntmps74]) fun X => ?_
      simp only [Tryd.ntmps74, List.map]
      refine AW_rg (tyOf_good _) [1, 2] [2] (fun _ _ => trivial) fun K' hK' => ?_
      repeat (refine sxf_next fun K2 hK2 => ?_; simp [dNum, dB, rowB, dW, dF, dFs_map]; (repeat (refine ⟨by omega, ?_⟩)); refine hK2 _ ?_; clear hK2 K2)
      refine sxf_nil (hK' _ ?_)
      refine AW.st (by simp [dNum, dB, rowB, dW, dF, dFs_map]; rfl) ?_
      clear hK' K'
      refine AW_rg (tyOf_good _) [1, 2, 5] [2, 5] (fun _ _ => trivial) fun K' hK' => ?_
      repeat (refine sxf_next fun K2 hK2 => ?_; simp [dNum, dB, rowB, dTimes, hnI]; (repeat (refine ⟨by omega, ?_⟩)); refine hK2 _ ?_; clear hK2 K2)
      refine sxf_nil (hK' _ ?_)
      refine AW.st (by simp [dNum, dB, rowB, dTimes, hnI]; rfl) ?_
      clear hK' K'
      refine AW_rg (tyOf_good _) [1, 2, 5, 6] [2, 5, 6, 30] (fun _ _ => trivial) fun K' hK' => ?_
      repeat (refine sxf_next fun K2 hK2 => ?_; simp [dNum, dB, rowB]; (repeat (refine ⟨by omega, ?_⟩)); refine hK2 _ ?_; clear hK2 K2)
      refine sxf_nil (hK' _ ?_)
      refine AW.st (by simp [dNum, dB, rowB]; rfl) ?_
      clear hK' K'
      refine AW.imp (Imp.freezeB 2 trivial) ?_
      refine AW.st (by simp [dNum, dB, rowB]; rfl) ?_
      refine AW.imp (Imp.freezeB 5 trivial) ?_
      refine AW.st (by simp [dNum, dB, rowB]; rfl) ?_
      refine AW_rg (tyOf_good _) [1, 2, 5, 6, 7] [6, 7, 30] (fun _ _ => trivial) fun K' hK' => ?_
      repeat (refine sxf_next fun K2 hK2 => ?_; simp [dNum, dB, rowB]; (repeat (refine ⟨by omega, ?_⟩)); refine hK2 _ ?_; clear hK2 K2)
      refine sxf_nil (hK' _ ?_)
      refine AW.st (by simp [dNum, dB, rowB]; rfl) ?_
      clear hK' K'
      refine AW.imp (Imp.freezeB 7 trivial) ?_
      refine AW.st (by simp [dNum, dB, rowB]; rfl) ?_
      refine AW_rg (tyOf_good _) [1, 2, 5, 6, 7, 8] [6, 8, 30] (fun _ _ => trivial) fun K' hK' => ?_
      repeat (refine sxf_next fun K2 hK2 => ?_; simp [dNum, dB, rowB]; (repeat (refine ⟨by omega, ?_⟩)); refine hK2 _ ?_; clear hK2 K2)
      refine sxf_nil (hK' _ ?_)
      refine AW.st (by simp [dNum, dB, rowB]; rfl) ?_
      clear hK' K'
      refine AW_then fun K1 hK1 => ?_
      refine AW_rg (tyOf_good _) [1, 2, 5, 6, 7, 8, 35, 36, 37] [6, 8, 30] (fun _ _ => trivial) fun K' hK' => ?_
      repeat (refine sxf_next fun K2 hK2 => ?_; simp [dNum, dB, rowB]; (repeat (refine ⟨by omega, ?_⟩)); refine hK2 _ ?_; clear hK2 K2)
      refine sxf_nil (hK' _ ?_)
      refine AW.st (by simp [dNum, dB, rowB]; rfl) ?_
      clear hK' K'
      refine AW_for (S := Nat) (fun i => i ≤ l.length) (fun i => ⟨lst [(1, .d (.ip [dNum k, dS s, .sl (ofK l) (l.map fun f => [dF f])])), (2, .d (.ip [dTimes a, dTimes r])), (5, .d (.ip [dNum n])), (6, .ref 6 0 0), (7, .d (.ip [.fn (.func 101) [.ip [dNum n], .ip [dTimes a, dTimes r]]])), (8, .ref 8 0 0), (35, .d (.sl (ofK l) (l.map fun f => [dF f]))), (36, int l.length), (37, int i)],
        hlst [(6, .box 56 [.own 30 0 n]), (8, .box 167 [.own 308 0 i]), (30, .sl 4 1 (List.replicate n [.v (.bool false)])), (308, .sl 56 1 (List.take i (l.map fun f => [dBs (holdsF a r f)])))]⟩) (fun i => l.length - i) 0 ?_ (by omega) ?_
      · refine (Imp.adoptCell 8 0 308 56 1 rfl rfl rfl).trans ?_
        refine Imp.to' (fun _ _ => trivial) (by simp [dNum, dB, rowB, dTimes]) (by simp [dNum, dB, rowB, dTimes])
      · intro i hi
        refine AW_rg (tyOf_good _) [1, 2, 5, 6, 7, 8, 35, 36, 37, 38] [6, 8, 30, 308] (fun _ _ => trivial) fun K' hK' => ?_
        repeat (refine sxf_next fun K2 hK2 => ?_; simp [dNum, dB, rowB]; (repeat (refine ⟨by omega, ?_⟩)); refine hK2 _ ?_; clear hK2 K2)
        refine sxf_nil (hK' _ ?_)
        refine AW.st (by simp [dNum, dB, rowB]; rfl) ?_
        clear hK' K'
        refine AW_then fun K2 hK2 => ?_
        refine AW_cond' (b := i < l.length) (by simp [D.le, D.le.go, takeMap, dNum, dB, rowB]) (fun hc => ?_) (fun hc => ?_)
        · have hil : i < l.length := hc
          obtain ⟨ci, hci⟩ := hip _ (List.getElem_mem hil)
          have hcc := hch _ (List.getElem_mem hil)
          rw [hci] at hcc
          have hlt1 : (List.take i (l.map fun f => [dBs (holdsF a r f)])).length = i := by simp; omega
          have htk : ∀ g : Fm → List D, List.take (i + 1) (List.map g l) = List.take i (List.map g l) ++ [g l[i]] := fun g => by
            rw [List.take_succ_eq_append_getElem (by simp; exact hil), List.getElem_map]
          refine AW_skip (hK2 _ ?_)
          refine AW_then fun K3 hK3 => ?_
          refine AW_block ?_
          refine AW_rg (tyOf_good _) [1, 2, 5, 6, 7, 8, 10, 35, 36, 37] [6, 8, 30, 308] (fun _ _ => trivial) fun K' hK' => ?_
          repeat (refine sxf_next fun K2 hK2 => ?_; simp [dNum, dB, rowB, hil, hci]; (repeat (refine ⟨by omega, ?_⟩)); refine hK2 _ ?_; clear hK2 K2)
          refine sxf_nil (hK' _ ?_)
          refine AW.st (by simp [dNum, dB, rowB, hil, hci]; rfl) ?_
          clear hK' K'
          refine AW_rle (tyOf_good _) (by kernel_rfl) ([(5, (308, 45))]) ([]) ([0, 1, 2, 3, 4, 5, 6]) (by kernel_rfl) fun K' hK' => ?_
          repeat (refine sxl_nextO rfl fun K2 hK2 => ?_; simp [dNum, dB, rowB, dTimes, dW, dBs, List.take_take]; (repeat (refine ⟨by omega, ?_⟩)); refine hK2 _ ?_; clear hK2 K2)
          refine sxl_nextO rfl fun K2 hK2 => ?_
          simp [dNum, dB, rowB, dTimes, dW, dBs, List.take_take]
          refine callD.mk (hcc) (by simp; rfl) (by simp; rfl) (by first | exact D.leGo_refl _ | simp [takeMap, List.map_map, Function.comp_def, D.le, D.le.go, D.le_refl, D.leGo_refl, dNum, dB, rowB, dTimes, dW, dBs, List.take_take]) (by simp) ?_
          refine hK2 _ ?_
          clear hK2 K2
          simp only [putd, upd_lst]
          repeat (refine sxl_nextO rfl fun K2 hK2 => ?_; simp [dNum, dB, rowB, dTimes, dW, dBs, List.take_take]; (repeat (refine ⟨by omega, ?_⟩)); refine hK2 _ ?_; clear hK2 K2)
          refine sxl_nilO (hK' _ ?_)
          clear hK' K'
          refine hK3 _ (AW.norm [1, 2, 5, 6, 7, 8, 35, 36, 37] [6, 8, 30, 308] (fun _ _ => trivial) (AW.st (by simp [dNum, dB, rowB, dTimes, dW, dBs, List.take_take]; rfl) ?_))
          refine AW_re (tyOf_good _) fun K' hK' => ?_
          repeat (refine sxf_next fun K2 hK2 => ?_; simp [dNum, dB, rowB]; (repeat (refine ⟨by omega, ?_⟩)); refine hK2 _ ?_; clear hK2 K2)
          refine sxf_nil (hK' _ ?_)
          clear hK' K'
          try simp only [thn, inb]
          refine Again.mk (i + 1) (by omega) (by omega) ?_
          refine Imp.to' (fun _ _ => trivial) (by simp [dNum, dB, rowB, dTimes, dBs, htk]) (by simp [dNum, dB, rowB, dTimes, dBs, htk])
        · obtain rfl : i = l.length := by omega
          refine AW_exit (hK1 _ ?_)
          refine AW.imp (Imp.freeze 308 trivial) ?_
          refine AW.st (by simp [dNum, dB, rowB]; rfl) ?_
          refine AW.imp (Imp.freezeB 8 trivial) ?_
          refine AW.st (by simp [dNum, dB, rowB]; rfl) ?_
          refine AW_rg (tyOf_good _) [1, 2, 6, 7, 8, 11] [6, 30] (fun _ _ => trivial) fun K' hK' => ?_
          repeat (refine sxf_next fun K2 hK2 => ?_; simp [dNum, dB, rowB]; (repeat (refine ⟨by omega, ?_⟩)); refine hK2 _ ?_; clear hK2 K2)
          refine sxf_nil (hK' _ ?_)
          refine AW.st (by simp [dNum, dB, rowB]; rfl) ?_
          clear hK' K'
          refine AW_then fun K4 hK4 => ?_
          refine AW_rg (tyOf_good _) [1, 2, 6, 7, 8, 11, 52] [6, 30] (fun _ _ => trivial) fun K' hK' => ?_
          repeat (refine sxf_next fun K2 hK2 => ?_; simp [dNum, dB, rowB]; (repeat (refine ⟨by omega, ?_⟩)); refine hK2 _ ?_; clear hK2 K2)
          refine sxf_nil (hK' _ ?_)
          refine AW.st (by simp [dNum, dB, rowB]; rfl) ?_
          clear hK' K'
          refine AW_block ?_
          have htkl : ∀ g : Fm → List D, List.take l.length (l.map g) = l.map g := fun g => List.take_of_length_le (by simp)
          have hof1 : (holdsL a r l).length = l.length := by rw [holdsL_map, List.length_map]
          have hof2 : ∀ x ∈ holdsL a r l, x.length = n := fun x hx => by
            rw [holdsL_map] at hx
            obtain ⟨g, hg, rfl⟩ := List.mem_map.1 hx
            obtain ⟨c, hc⟩ := hip g hg
            cases g with
            | nil => simp [dF] at hc
            | mk k' s' l' => rw [holdsF, List.length_map, List.length_range, hn]
          refine AW.st (show _ = (⟨lst [(1, .d (.ip [dNum k, dS s, .sl (ofK l) (l.map fun f => [dF f])])), (2, .d (.ip [dTimes a, dTimes r])), (6, .ref 6 0 0), (7, .d (.ip [.fn (.func 101) [.ip [dNum n], .ip [dTimes a, dTimes r]]])), (8, .d (.ip [dOf (holdsL a r l)])), (11, .fn (.func 102) [.ref 6 0 0, .d (.ip [dNum n]), .d (.ip [.fn (.func 101) [.ip [dNum n], .ip [dTimes a, dTimes r]]])]), (52, int k)], hlst [(6, .box 56 [.own 30 0 n]), (30, .sl 4 1 (List.replicate n [.v (.bool false)]))]⟩ : St) by simp [dOf, dBs, holdsL_map, dNum, List.map_map, Function.comp_def, htkl]) ?_
          obtain ⟨of, hofe⟩ : ∃ of, holdsL a r l = of := ⟨_, rfl⟩
          rw [hofe] at hof1 hof2 ⊢
          have hks : k = 1 ∨ k = 2 ∨ k = 3 ∨ k = 4 ∨ k = 5 ∨ k = 6 ∨ k = 7 ∨ k = 8 ∨ k = 9 ∨ k = 10 := by omega
          rcases hks with rfl | rfl | rfl | rfl | rfl | rfl | rfl | rfl | rfl | rfl
          · refine AW_rg (tyOf_good _) [1, 2, 6, 7, 8, 11, 52, 53] [6, 30] (fun _ _ => trivial) fun K' hK' => ?_
            repeat (refine sxf_next fun K2 hK2 => ?_; simp [dNum, dB, rowB]; (repeat (refine ⟨by omega, ?_⟩)); refine hK2 _ ?_; clear hK2 K2)
            refine sxf_nil (hK' _ ?_)
            refine AW.st (by simp [dNum, dB, rowB]; rfl) ?_
            clear hK' K'
            refine AW_cond true rfl (fun _ => ?_) (fun h => by cases h)
            have hv1 : ∀ i, valF a r 1 s of i = ((a ++ r).getD i []).any fun x => x == s := fun i => by simp [valF]
            refine AW_rg (tyOf_good _) [1, 2, 6, 56, 57] [6, 30] (fun _ _ => trivial) fun K' hK' => ?_
            repeat (refine sxf_next fun K2 hK2 => ?_; simp [dNum, dB, rowB]; (repeat (refine ⟨by omega, ?_⟩)); refine hK2 _ ?_; clear hK2 K2)
            refine sxf_nil (hK' _ ?_)
            refine AW.st (by simp [dNum, dB, rowB]; rfl) ?_
            clear hK' K'
            refine AW_for (S := (Nat → Bool) × Nat) (fun s' => s'.2 ≤ n ∧ (∀ j, j < s'.2 → s'.1 j = valF a r 1 s of j) ∧ ∀ j, s'.2 ≤ j → s'.1 j = false) (fun s' => ⟨lst [(1, .d (.ip [dNum 1, dS s, .sl (ofK l) (l.map fun f => [dF f])])), (2, .d (.ip [dTimes a, dTimes r])), (6, .ref 6 0 0), (56, int n), (57, int s'.2)], hlst [(6, .box 56 [.own 30 0 n]), (30, rowB n s'.1)]⟩) (fun s' => n - s'.2) (fun _ => false, 0) ?_ (by simp) ?_
            · refine Imp.to' (fun _ _ => trivial) (by simp [dNum, dB, rowB, List.map_const', dTimes]) (by simp [dNum, dB, rowB, List.map_const', dTimes])
            · rintro ⟨f, i⟩ ⟨hi, hall, hnone⟩
              dsimp only at hi hall hnone ⊢
              refine AW_rg (tyOf_good _) [1, 2, 6, 56, 57, 58] [6, 30] (fun _ _ => trivial) fun K' hK' => ?_
              repeat (refine sxf_next fun K2 hK2 => ?_; simp [dNum, dB, rowB]; (repeat (refine ⟨by omega, ?_⟩)); refine hK2 _ ?_; clear hK2 K2)
              refine sxf_nil (hK' _ ?_)
              refine AW.st (by simp [dNum, dB, rowB]; rfl) ?_
              clear hK' K'
              refine AW_then fun K5 hK5 => ?_
              refine AW_cond' (b := i < n) (by simp [D.le, D.le.go, takeMap, dNum, dB, rowB]) (fun hc => ?_) (fun hc => ?_)
              · have hin : i < n := hc
                have hfi := hnone i (Nat.le_refl i)
                obtain ⟨X, j, hj, htm, hcase⟩ : ∃ (X : Times) (j : Nat), ∃ hj : j < X.length, X[j] = (a ++ r).getD i [] ∧ ((i < a.length ∧ X = a ∧ j = i) ∨ (a.length ≤ i ∧ X = r ∧ (j : Int) = (i : Int) - a.length)) := by
                  by_cases h : i < a.length
                  · exact ⟨a, i, h, by simp [List.getD_eq_getElem?_getD, List.getElem?_append_left h, h], .inl ⟨h, rfl, rfl⟩⟩
                  · have h2 : i - a.length < r.length := by omega
                    exact ⟨r, i - a.length, h2, by simp [List.getD_eq_getElem?_getD, List.getElem?_append_right (Nat.le_of_not_lt h), h2], .inr ⟨by omega, rfl, by omega⟩⟩
                refine AW_skip (hK5 _ ?_)
                refine AW_then fun K6 hK6 => ?_
                refine AW_block ?_
                refine AW_rg (tyOf_good _) [1, 2, 6, 12, 56, 57] [6, 30] (fun _ _ => trivial) fun K' hK' => ?_
                repeat (refine sxf_next fun K2 hK2 => ?_; simp [dNum, dB, rowB]; (repeat (refine ⟨by omega, ?_⟩)); refine hK2 _ ?_; clear hK2 K2)
                refine sxf_nil (hK' _ ?_)
                refine AW.st (by simp [dNum, dB, rowB]; rfl) ?_
                clear hK' K'
                refine AW_rg (tyOf_good _) [1, 2, 6, 12, 13, 56, 57] [6, 30] (fun _ _ => trivial) fun K' hK' => ?_
                repeat (refine sxf_next fun K2 hK2 => ?_; simp [dNum, dB, rowB, dTimes]; (repeat (refine ⟨by omega, ?_⟩)); refine hK2 _ ?_; clear hK2 K2)
                refine sxf_nil (hK' _ ?_)
                refine AW.st (by simp [dNum, dB, rowB, dTimes]; rfl) ?_
                clear hK' K'
                refine AW_rg (tyOf_good _) [1, 2, 6, 12, 13, 14, 56, 57] [6, 30] (fun _ _ => trivial) fun K' hK' => ?_
                repeat (refine sxf_next fun K2 hK2 => ?_; simp [dNum, dB, rowB, dTimes]; (repeat (refine ⟨by omega, ?_⟩)); refine hK2 _ ?_; clear hK2 K2)
                refine sxf_nil (hK' _ ?_)
                refine AW.st (by simp [dNum, dB, rowB, dTimes]; rfl) ?_
                clear hK' K'
                refine AW_then fun K7 hK7 => ?_
                have hlneg : i < a.length → (i : Int) - a.length < 0 := fun h => by omega
                have hlpos : a.length ≤ i → ¬ (i : Int) - a.length < 0 := fun h => by omega
                have hlI : i < a.length → (i : Int) < a.length := fun h => by omega
                refine' late (fun hrest => ?_) ?_
                rotate_left
                · rcases hcase with ⟨h1, hX, h3⟩ | ⟨h1, hX, h3⟩
                  · have h2 := hlneg h1
                    have h4 := hlI h1
                    refine AW_rg (tyOf_good _) [1, 2, 6, 12, 13, 14, 56, 57, 68] [6, 30] (fun _ _ => trivial) fun K' hK' => ?_
                    repeat (refine sxf_next fun K2 hK2 => ?_; simp [dNum, dB, rowB, h2, h4]; (repeat (refine ⟨by omega, ?_⟩)); refine hK2 _ ?_; clear hK2 K2)
                    refine sxf_nil (hK' _ ?_)
                    refine AW.st (by simp [dNum, dB, rowB, h2, h4]; rfl) ?_
                    clear hK' K'
                    refine AW_cond true rfl (fun _ => ?_) (fun h => by cases h)
                    refine AW_re (tyOf_good _) fun K' hK' => ?_
                    repeat (refine sxf_next fun K2 hK2 => ?_; simp [dNum, dB, rowB, dTimes]; (repeat (refine ⟨by omega, ?_⟩)); refine hK2 _ ?_; clear hK2 K2)
                    refine sxf_nil (hK' _ ?_)
                    clear hK' K'
                    refine hK7 _ (AW.norm [1, 2, 6, 12, 13, 14, 56, 57] [6, 30] (fun _ _ => trivial) (AW.st (by simp [dNum, dB, rowB, dTimes]; rfl) ?_))
                    refine AW.st (show _ = (⟨lst [(1, .d (.ip [dNum 1, dS s, .sl (ofK l) (l.map fun f => [dF f])])), (2, .d (.ip [dTimes a, dTimes r])), (6, .ref 6 0 0), (12, int i), (13, .d (dTimes X)), (14, int j), (56, int n), (57, int i)], hlst [(6, .box 56 [.own 30 0 n]), (30, rowB n f)]⟩ : St) by simp [dTimes, rowB, dNum, dB, hX, h3]) ?_
                    exact hrest.out
                  · have h2 := hlpos h1
                    have h4 : ¬ (i : Int) < a.length := by omega
                    refine AW_rg (tyOf_good _) [1, 2, 6, 12, 13, 14, 56, 57, 68] [6, 30] (fun _ _ => trivial) fun K' hK' => ?_
                    repeat (refine sxf_next fun K2 hK2 => ?_; simp [dNum, dB, rowB, h2, h4]; (repeat (refine ⟨by omega, ?_⟩)); refine hK2 _ ?_; clear hK2 K2)
                    refine sxf_nil (hK' _ ?_)
                    refine AW.st (by simp [dNum, dB, rowB, h2, h4]; rfl) ?_
                    clear hK' K'
                    refine AW_cond false rfl (fun h => by cases h) (fun _ => ?_)
                    refine AW_skip ?_
                    refine hK7 _ (AW.norm [1, 2, 6, 12, 13, 14, 56, 57] [6, 30] (fun _ _ => trivial) (AW.st (by simp [dNum, dB, rowB]; rfl) ?_))
                    refine AW.st (show _ = (⟨lst [(1, .d (.ip [dNum 1, dS s, .sl (ofK l) (l.map fun f => [dF f])])), (2, .d (.ip [dTimes a, dTimes r])), (6, .ref 6 0 0), (12, int i), (13, .d (dTimes X)), (14, int j), (56, int n), (57, int i)], hlst [(6, .box 56 [.own 30 0 n]), (30, rowB n f)]⟩ : St) by simp [dTimes, rowB, dNum, dB, hX, h3]) ?_
                    exact hrest.out
                · have hv := hv1 i
                  rw [← htm] at hv
                  refine AW_rg (tyOf_good _) [1, 2, 6, 12, 56, 57, 75, 76, 77] [6, 30] (fun _ _ => trivial) fun K' hK' => ?_
                  repeat (refine sxf_next fun K2 hK2 => ?_; simp [dNum, dB, rowB, dTimes, dNames, hj]; (repeat (refine ⟨by omega, ?_⟩)); refine hK2 _ ?_; clear hK2 K2)
                  refine sxf_nil (hK' _ ?_)
                  refine AW.st (by simp [dNum, dB, rowB, dTimes, dNames, hj]; rfl) ?_
                  clear hK' K'
                  have htl : X[j].length < 2^63 := by
                    refine hT _ ?_
                    rcases hcase with ⟨h1, hX, h3⟩ | ⟨h1, hX, h3⟩
                    · subst hX; exact List.mem_append_left _ (List.getElem_mem hj)
                    · subst hX; exact List.mem_append_right _ (List.getElem_mem hj)
                  generalize X[j] = tm at hv htl
                  refine AW_for (S := Nat) (fun m => m ≤ tm.length) (fun m => ⟨lst [(1, .d (.ip [dNum 1, dS s, .sl (ofK l) (l.map fun f => [dF f])])), (2, .d (.ip [dTimes a, dTimes r])), (6, .ref 6 0 0), (12, int i), (56, int n), (57, int i), (75, .d (dNames tm)), (76, int tm.length), (77, int m)], hlst [(6, .box 56 [.own 30 0 n]), (30, rowB n (setB f i ((tm.take m).any fun x => x == s)))]⟩) (fun m => tm.length - m) 0 ?_ (by simp) ?_
                  · refine Imp.to' (fun _ _ => trivial) (by simp [dNum, dB, rowB, dTimes, dNames, setB_id f hfi]) (by simp [dNum, dB, rowB, dTimes, dNames, setB_id f hfi])
                  · intro m hm
                    refine AW_rg (tyOf_good _) [1, 2, 6, 12, 56, 57, 75, 76, 77, 78] [6, 30] (fun _ _ => trivial) fun K' hK' => ?_
                    repeat (refine sxf_next fun K2 hK2 => ?_; simp [dNum, dB, rowB, dNames]; (repeat (refine ⟨by omega, ?_⟩)); refine hK2 _ ?_; clear hK2 K2)
                    refine sxf_nil (hK' _ ?_)
                    refine AW.st (by simp [dNum, dB, rowB, dNames]; rfl) ?_
                    clear hK' K'
                    refine AW_then fun K8 hK8 => ?_
                    refine AW_cond' (b := m < tm.length) (by simp [D.le, D.le.go, takeMap, dNum, dB, rowB]) (fun hc => ?_) (fun hc => ?_)
                    · have hml : m < tm.length := hc
                      refine AW_skip (hK8 _ ?_)
                      refine AW_then fun K9 hK9 => ?_
                      refine AW_block ?_
                      refine AW_rg (tyOf_good _) [1, 2, 6, 12, 16, 56, 57, 75, 76, 77] [6, 30] (fun _ _ => trivial) fun K' hK' => ?_
                      repeat (refine sxf_next fun K2 hK2 => ?_; simp [dNum, dB, rowB, dNames, hml, dS]; (repeat (refine ⟨by omega, ?_⟩)); refine hK2 _ ?_; clear hK2 K2)
                      refine sxf_nil (hK' _ ?_)
                      refine AW.st (by simp [dNum, dB, rowB, dNames, hml, dS]; rfl) ?_
                      clear hK' K'
                      have hany : ((tm.take (m + 1)).any fun x => x == s) = (((tm.take m).any fun x => x == s) || tm[m] == s) := by
                        rw [List.take_succ_eq_append_getElem hml, List.any_append]; simp
                      generalize ((tm.take m).any fun x => x == s) = old at hany
                      cases old with
                      | true =>
                        refine AW_rdge (tyOf_good _) (by kernel_rfl) [(0, 6), (2, 6), (4, 30), (5, 30), (11, 999), (14, 30), (15, 30)] (by kernel_rfl) fun K' hK' => ?_
                        repeat (refine sxg_next fun K2 hK2 => ?_; simp [dNum, dB, rowB, hin, setB_same, dS]; (repeat (refine ⟨by omega, ?_⟩)); refine hK2 _ ?_; clear hK2 K2)
                        refine sxg_nil (hK' _ ?_)
                        clear hK' K'
                        refine hK9 _ (AW.norm [1, 2, 6, 12, 56, 57, 75, 76, 77] [6, 30] (fun _ _ => trivial) (AW.st (by simp [dNum, dB, rowB, hin, setB_same, dS]; rfl) ?_))
                        refine AW_re (tyOf_good _) fun K' hK' => ?_
                        repeat (refine sxf_next fun K2 hK2 => ?_; simp [dNum, dB, rowB]; (repeat (refine ⟨by omega, ?_⟩)); refine hK2 _ ?_; clear hK2 K2)
                        refine sxf_nil (hK' _ ?_)
                        clear hK' K'
                        try simp only [thn, inb]
                        refine Again.mk (m + 1) (by omega) (by omega) ?_
                        refine Imp.to' (fun _ _ => trivial) (by simp [dNum, dB, rowB, dTimes, dNames, dS, hany, set_rowB, setB_setB]) (by simp [dNum, dB, rowB, dTimes, dNames, dS, hany, set_rowB, setB_setB])
                      | false =>
                        cases hs : (tm[m] == s) with
                        | true =>
                          rw [hs] at hany
                          have hs1 : tm[m] = s := by simpa using hs
                          refine AW_rdge (tyOf_good _) (by kernel_rfl) [(0, 6), (2, 6), (4, 30), (5, 30), (11, 999), (14, 30), (15, 30)] (by kernel_rfl) fun K' hK' => ?_
                          repeat (refine sxg_next fun K2 hK2 => ?_; simp [dNum, dB, rowB, hin, setB_same, dS, hs1, binS]; (repeat (refine ⟨by omega, ?_⟩)); refine hK2 _ ?_; clear hK2 K2)
                          refine sxg_nil (hK' _ ?_)
                          clear hK' K'
                          refine hK9 _ (AW.norm [1, 2, 6, 12, 56, 57, 75, 76, 77] [6, 30] (fun _ _ => trivial) (AW.st (by simp [dNum, dB, rowB, hin, setB_same, dS, hs1, binS]; rfl) ?_))
                          refine AW_re (tyOf_good _) fun K' hK' => ?_
                          repeat (refine sxf_next fun K2 hK2 => ?_; simp [dNum, dB, rowB]; (repeat (refine ⟨by omega, ?_⟩)); refine hK2 _ ?_; clear hK2 K2)
                          refine sxf_nil (hK' _ ?_)
                          clear hK' K'
                          try simp only [thn, inb]
                          refine Again.mk (m + 1) (by omega) (by omega) ?_
                          refine Imp.to' (fun _ _ => trivial) (by simp [dNum, dB, rowB, dTimes, dNames, dS, hany, set_rowB, setB_setB]) (by simp [dNum, dB, rowB, dTimes, dNames, dS, hany, set_rowB, setB_setB])
                        | false =>
                          rw [hs] at hany
                          have hs1 : ¬ tm[m] = s := by simpa using hs
                          refine AW_rdge (tyOf_good _) (by kernel_rfl) [(0, 6), (2, 6), (4, 30), (5, 30), (11, 999), (14, 30), (15, 30)] (by kernel_rfl) fun K' hK' => ?_
                          repeat (refine sxg_next fun K2 hK2 => ?_; simp [dNum, dB, rowB, hin, setB_same, dS, bs_list, hs, hs1, binS]; (repeat (refine ⟨by omega, ?_⟩)); refine hK2 _ ?_; clear hK2 K2)
                          refine sxg_nil (hK' _ ?_)
                          clear hK' K'
                          refine hK9 _ (AW.norm [1, 2, 6, 12, 56, 57, 75, 76, 77] [6, 30] (fun _ _ => trivial) (AW.st (by simp [dNum, dB, rowB, hin, setB_same, dS, bs_list, hs, hs1, binS]; rfl) ?_))
                          refine AW_re (tyOf_good _) fun K' hK' => ?_
                          repeat (refine sxf_next fun K2 hK2 => ?_; simp [dNum, dB, rowB]; (repeat (refine ⟨by omega, ?_⟩)); refine hK2 _ ?_; clear hK2 K2)
                          refine sxf_nil (hK' _ ?_)
                          clear hK' K'
                          try simp only [thn, inb]
                          refine Again.mk (m + 1) (by omega) (by omega) ?_
                          refine Imp.to' (fun _ _ => trivial) (by simp [dNum, dB, rowB, dTimes, dNames, dS, hany, set_rowB, setB_setB]) (by simp [dNum, dB, rowB, dTimes, dNames, dS, hany, set_rowB, setB_setB])
                    · obtain rfl : m = tm.length := by omega
                      refine AW_exit (hK6 _ ?_)
                      rw [List.take_length, ← hv]
                      refine AW_re (tyOf_good _) fun K' hK' => ?_
                      repeat (refine sxf_next fun K2 hK2 => ?_; simp [dNum, dB, rowB]; (repeat (refine ⟨by omega, ?_⟩)); refine hK2 _ ?_; clear hK2 K2)
                      refine sxf_nil (hK' _ ?_)
                      clear hK' K'
                      try simp only [thn, inb]
                      refine Again.mk (setB f i (valF a r 1 s of i), i + 1) ⟨by dsimp only; omega, fun j hj => ?_, fun j hj => ?_⟩ (by dsimp only; omega) ?_
                      · dsimp only at hj ⊢
                        unfold setB
                        split
                        · rename_i e; subst e; rfl
                        · exact hall j (by omega)
                      · dsimp only at hj ⊢
                        unfold setB
                        rw [if_neg (by omega)]
                        exact hnone j (by omega)
                      refine Imp.to' (fun _ _ => trivial) (by simp [dNum, dB, rowB, dTimes]) (by simp [dNum, dB, rowB, dTimes])
              · obtain rfl : i = n := by omega
                refine AW_exit ?_
                refine hK4 _ (AW.norm [6] [6, 30] (fun _ _ => trivial) (AW.st (by simp [dNum, dB, rowB]; rfl) ?_))
                refine AW.st (show _ = (⟨lst [(6, .ref 6 0 0)], hlst [(6, .box 56 [.own 30 0 i]), (30, rowB i (valF a r 1 s of))]⟩ : St) by rw [← rowB_congr hall] <;> rfl) ?_
                refine AW_rg (tyOf_good _) [4] [30] (fun _ _ => trivial) fun K' hK' => ?_
                repeat (refine sxf_next fun K2 hK2 => ?_; simp [dNum, dB, rowB]; (repeat (refine ⟨by omega, ?_⟩)); refine hK2 _ ?_; clear hK2 K2)
                refine sxf_nil (hK' _ ?_)
                refine AW.st (by simp [dNum, dB, rowB]; rfl) ?_
                clear hK' K'
                refine AW_ret ?_
                simp [D.le, D.le.go, takeMap, dNum, dB, rowB, dBs, List.map_map, Function.comp_def, hofe, take_range_map]
          · refine AW_rg (tyOf_good _) [1, 2, 6, 7, 8, 11, 52, 53] [6, 30] (fun _ _ => trivial) fun K' hK' => ?_
            repeat (refine sxf_next fun K2 hK2 => ?_; simp [dNum, dB, rowB]; (repeat (refine ⟨by omega, ?_⟩)); refine hK2 _ ?_; clear hK2 K2)
            refine sxf_nil (hK' _ ?_)
            refine AW.st (by simp [dNum, dB, rowB]; rfl) ?_
            clear hK' K'
            refine AW_cond false rfl (fun h => by cases h) (fun _ => ?_)
            refine AW_rg (tyOf_good _) [6, 7, 8, 11, 52, 98] [6, 30] (fun _ _ => trivial) fun K' hK' => ?_
            repeat (refine sxf_next fun K2 hK2 => ?_; simp [dNum, dB, rowB]; (repeat (refine ⟨by omega, ?_⟩)); refine hK2 _ ?_; clear hK2 K2)
            refine sxf_nil (hK' _ ?_)
            refine AW.st (by simp [dNum, dB, rowB]; rfl) ?_
            clear hK' K'
            refine AW_cond true rfl (fun _ => ?_) (fun h => by cases h)
            refine AW_rg (tyOf_good _) [6, 101, 102] [6, 30] (fun _ _ => trivial) fun K' hK' => ?_
            repeat (refine sxf_next fun K2 hK2 => ?_; simp [dNum, dB, rowB]; (repeat (refine ⟨by omega, ?_⟩)); refine hK2 _ ?_; clear hK2 K2)
            refine sxf_nil (hK' _ ?_)
            refine AW.st (by simp [dNum, dB, rowB]; rfl) ?_
            clear hK' K'
            refine AW_for (S := (Nat → Bool) × Nat) (fun s' => s'.2 ≤ n ∧ ∀ j, j < s'.2 → s'.1 j = valF a r 2 s of j) (fun s' => ⟨lst [(6, .ref 6 0 0), (101, int n), (102, int s'.2)], hlst [(6, .box 56 [.own 30 0 n]), (30, rowB n s'.1)]⟩) (fun s' => n - s'.2) (fun _ => false, 0) ?_ (by simp) ?_
            · refine Imp.to' (fun _ _ => trivial) (by simp [dNum, dB, rowB, List.map_const', dOf, dBs]) (by simp [dNum, dB, rowB, List.map_const', dOf, dBs])
            · rintro ⟨f, i⟩ ⟨hi, hall⟩
              dsimp only at hi hall ⊢
              refine AW_rg (tyOf_good _) [6, 101, 102, 103] [6, 30] (fun _ _ => trivial) fun K' hK' => ?_
              repeat (refine sxf_next fun K2 hK2 => ?_; simp [dNum, dB, rowB]; (repeat (refine ⟨by omega, ?_⟩)); refine hK2 _ ?_; clear hK2 K2)
              refine sxf_nil (hK' _ ?_)
              refine AW.st (by simp [dNum, dB, rowB]; rfl) ?_
              clear hK' K'
              refine AW_then fun K12 hK12 => ?_
              refine AW_cond' (b := i < n) (by simp [D.le, D.le.go, takeMap, dNum, dB, rowB]) (fun hc => ?_) (fun hc => ?_)
              · have hin : i < n := hc
                refine AW_skip (hK12 _ ?_)
                refine AW_then fun K13 hK13 => ?_
                refine AW_block ?_
                refine AW_rg (tyOf_good _) [6, 17, 101, 102] [6, 30] (fun _ _ => trivial) fun K' hK' => ?_
                repeat (refine sxf_next fun K2 hK2 => ?_; simp [dNum, dB, rowB]; (repeat (refine ⟨by omega, ?_⟩)); refine hK2 _ ?_; clear hK2 K2)
                refine sxf_nil (hK' _ ?_)
                refine AW.st (by simp [dNum, dB, rowB]; rfl) ?_
                clear hK' K'
                refine AW_re (tyOf_good _) fun K' hK' => ?_
                repeat (refine sxf_next fun K2 hK2 => ?_; simp [dNum, dB, rowB, hin]; (repeat (refine ⟨by omega, ?_⟩)); refine hK2 _ ?_; clear hK2 K2)
                refine sxf_nil (hK' _ ?_)
                clear hK' K'
                refine hK13 _ (AW.norm [6, 101, 102] [6, 30] (fun _ _ => trivial) (AW.st (by simp [dNum, dB, rowB, hin]; rfl) ?_))
                refine AW_re (tyOf_good _) fun K' hK' => ?_
                repeat (refine sxf_next fun K2 hK2 => ?_; simp [dNum, dB, rowB]; (repeat (refine ⟨by omega, ?_⟩)); refine hK2 _ ?_; clear hK2 K2)
                refine sxf_nil (hK' _ ?_)
                clear hK' K'
                try simp only [thn, inb]
                refine Again.mk (setB f i (valF a r 2 s of i), i + 1) ⟨by dsimp only; omega, fun j hj => ?_⟩ (by dsimp only; omega) ?_
                · dsimp only at hj ⊢
                  unfold setB
                  split
                  · rename_i e; subst e; rfl
                  · exact hall j (by omega)
                refine Imp.to' (fun _ _ => trivial) (by simp [dNum, dB, rowB, set_rowB, dOf, dBs, valF]) (by simp [dNum, dB, rowB, set_rowB, dOf, dBs, valF])
              · obtain rfl : i = n := by omega
                refine AW_exit ?_
                refine hK4 _ (AW.norm [6] [6, 30] (fun _ _ => trivial) (AW.st (by simp [dNum, dB, rowB]; rfl) ?_))
                refine AW.st (show _ = (⟨lst [(6, .ref 6 0 0)], hlst [(6, .box 56 [.own 30 0 i]), (30, rowB i (valF a r 2 s of))]⟩ : St) by rw [← rowB_congr hall] <;> rfl) ?_
                refine AW_rg (tyOf_good _) [4] [30] (fun _ _ => trivial) fun K' hK' => ?_
                repeat (refine sxf_next fun K2 hK2 => ?_; simp [dNum, dB, rowB]; (repeat (refine ⟨by omega, ?_⟩)); refine hK2 _ ?_; clear hK2 K2)
                refine sxf_nil (hK' _ ?_)
                refine AW.st (by simp [dNum, dB, rowB]; rfl) ?_
                clear hK' K'
                refine AW_ret ?_
                simp [D.le, D.le.go, takeMap, dNum, dB, rowB, dBs, List.map_map, Function.comp_def, hofe, take_range_map]
          · have hol : of.length = 1 := by rw [hof1]; simp [arityF, arityL] at hlen; omega
            obtain ⟨o0, rfl⟩ := List.length_eq_one_iff.1 hol
            have ho0 := hof2 o0 (by simp)
            have hv3 : ∀ i, (h : i < n) → valF a r 3 s [o0] i = !(o0[i]'(by omega)) := fun i h => by simp [valF, show i < o0.length by omega]
            refine AW_rg (tyOf_good _) [1, 2, 6, 7, 8, 11, 52, 53] [6, 30] (fun _ _ => trivial) fun K' hK' => ?_
            repeat (refine sxf_next fun K2 hK2 => ?_; simp [dNum, dB, rowB]; (repeat (refine ⟨by omega, ?_⟩)); refine hK2 _ ?_; clear hK2 K2)
            refine sxf_nil (hK' _ ?_)
            refine AW.st (by simp [dNum, dB, rowB]; rfl) ?_
            clear hK' K'
            refine AW_cond false rfl (fun h => by cases h) (fun _ => ?_)
            refine AW_rg (tyOf_good _) [6, 7, 8, 11, 52, 98] [6, 30] (fun _ _ => trivial) fun K' hK' => ?_
            repeat (refine sxf_next fun K2 hK2 => ?_; simp [dNum, dB, rowB]; (repeat (refine ⟨by omega, ?_⟩)); refine hK2 _ ?_; clear hK2 K2)
            refine sxf_nil (hK' _ ?_)
            refine AW.st (by simp [dNum, dB, rowB]; rfl) ?_
            clear hK' K'
            refine AW_cond false rfl (fun h => by cases h) (fun _ => ?_)
            refine AW_rg (tyOf_good _) [6, 7, 8, 11, 52, 109] [6, 30] (fun _ _ => trivial) fun K' hK' => ?_
            repeat (refine sxf_next fun K2 hK2 => ?_; simp [dNum, dB, rowB]; (repeat (refine ⟨by omega, ?_⟩)); refine hK2 _ ?_; clear hK2 K2)
            refine sxf_nil (hK' _ ?_)
            refine AW.st (by simp [dNum, dB, rowB]; rfl) ?_
            clear hK' K'
            refine AW_cond true rfl (fun _ => ?_) (fun h => by cases h)
            refine AW_rg (tyOf_good _) [6, 8, 112, 113] [6, 30] (fun _ _ => trivial) fun K' hK' => ?_
            repeat (refine sxf_next fun K2 hK2 => ?_; simp [dNum, dB, rowB]; (repeat (refine ⟨by omega, ?_⟩)); refine hK2 _ ?_; clear hK2 K2)
            refine sxf_nil (hK' _ ?_)
            refine AW.st (by simp [dNum, dB, rowB]; rfl) ?_
            clear hK' K'
            refine AW_for (S := (Nat → Bool) × Nat) (fun s' => s'.2 ≤ n ∧ ∀ j, j < s'.2 → s'.1 j = valF a r 3 s [o0] j) (fun s' => ⟨lst [(6, .ref 6 0 0), (8, .d (.ip [dOf [o0]])), (112, int n), (113, int s'.2)], hlst [(6, .box 56 [.own 30 0 n]), (30, rowB n s'.1)]⟩) (fun s' => n - s'.2) (fun _ => false, 0) ?_ (by simp) ?_
            · refine Imp.to' (fun _ _ => trivial) (by simp [dNum, dB, rowB, List.map_const', dOf, dBs]) (by simp [dNum, dB, rowB, List.map_const', dOf, dBs])
            · rintro ⟨f, i⟩ ⟨hi, hall⟩
              dsimp only at hi hall ⊢
              refine AW_rg (tyOf_good _) [6, 8, 112, 113, 114] [6, 30] (fun _ _ => trivial) fun K' hK' => ?_
              repeat (refine sxf_next fun K2 hK2 => ?_; simp [dNum, dB, rowB]; (repeat (refine ⟨by omega, ?_⟩)); refine hK2 _ ?_; clear hK2 K2)
              refine sxf_nil (hK' _ ?_)
              refine AW.st (by simp [dNum, dB, rowB]; rfl) ?_
              clear hK' K'
              refine AW_then fun K12 hK12 => ?_
              refine AW_cond' (b := i < n) (by simp [D.le, D.le.go, takeMap, dNum, dB, rowB]) (fun hc => ?_) (fun hc => ?_)
              · have hin : i < n := hc
                refine AW_skip (hK12 _ ?_)
                refine AW_then fun K13 hK13 => ?_
                refine AW_block ?_
                refine AW_rg (tyOf_good _) [6, 8, 18, 112, 113] [6, 30] (fun _ _ => trivial) fun K' hK' => ?_
                repeat (refine sxf_next fun K2 hK2 => ?_; simp [dNum, dB, rowB]; (repeat (refine ⟨by omega, ?_⟩)); refine hK2 _ ?_; clear hK2 K2)
                refine sxf_nil (hK' _ ?_)
                refine AW.st (by simp [dNum, dB, rowB]; rfl) ?_
                clear hK' K'
                have hv := hv3 i hin
                have hin0 : i < o0.length := by omega
                refine AW_rdge (tyOf_good _) (by kernel_rfl) [(0, 6), (2, 999), (3, 999), (4, 999), (6, 999), (7, 999), (9, 30), (10, 30)] (by kernel_rfl) fun K' hK' => ?_
                repeat (refine sxg_next fun K2 hK2 => ?_; simp [dNum, dB, rowB, hin, hin0, dOf, dBs]; (repeat (refine ⟨by omega, ?_⟩)); refine hK2 _ ?_; clear hK2 K2)
                refine sxg_nil (hK' _ ?_)
                clear hK' K'
                refine hK13 _ (AW.norm [6, 8, 112, 113] [6, 30] (fun _ _ => trivial) (AW.st (by simp [dNum, dB, rowB, hin, hin0, dOf, dBs]; rfl) ?_))
                refine AW_re (tyOf_good _) fun K' hK' => ?_
                repeat (refine sxf_next fun K2 hK2 => ?_; simp [dNum, dB, rowB]; (repeat (refine ⟨by omega, ?_⟩)); refine hK2 _ ?_; clear hK2 K2)
                refine sxf_nil (hK' _ ?_)
                clear hK' K'
                try simp only [thn, inb]
                refine Again.mk (setB f i (valF a r 3 s [o0] i), i + 1) ⟨by dsimp only; omega, fun j hj => ?_⟩ (by dsimp only; omega) ?_
                · dsimp only at hj ⊢
                  unfold setB
                  split
                  · rename_i e; subst e; rfl
                  · exact hall j (by omega)
                refine Imp.to' (fun _ _ => trivial) (by simp [dNum, dB, rowB, set_rowB, dOf, dBs, hv]) (by simp [dNum, dB, rowB, set_rowB, dOf, dBs, hv])
              · obtain rfl : i = n := by omega
                refine AW_exit ?_
                refine hK4 _ (AW.norm [6] [6, 30] (fun _ _ => trivial) (AW.st (by simp [dNum, dB, rowB]; rfl) ?_))
                refine AW.st (show _ = (⟨lst [(6, .ref 6 0 0)], hlst [(6, .box 56 [.own 30 0 i]), (30, rowB i (valF a r 3 s [o0]))]⟩ : St) by rw [← rowB_congr hall] <;> rfl) ?_
                refine AW_rg (tyOf_good _) [4] [30] (fun _ _ => trivial) fun K' hK' => ?_
                repeat (refine sxf_next fun K2 hK2 => ?_; simp [dNum, dB, rowB]; (repeat (refine ⟨by omega, ?_⟩)); refine hK2 _ ?_; clear hK2 K2)
                refine sxf_nil (hK' _ ?_)
                refine AW.st (by simp [dNum, dB, rowB]; rfl) ?_
                clear hK' K'
                refine AW_ret ?_
                simp [D.le, D.le.go, takeMap, dNum, dB, rowB, dBs, List.map_map, Function.comp_def, hofe, take_range_map]
          · have hol : of.length = 2 := by rw [hof1]; simp [arityF, arityL] at hlen; omega
            obtain ⟨o0, o1, rfl⟩ : ∃ x y, of = [x, y] := by match of, hol with | [x, y], _ => exact ⟨x, y, rfl⟩
            have ho0 := hof2 o0 (by simp)
            have ho1 := hof2 o1 (by simp)
            have hv4 : ∀ i, (h : i < n) → valF a r 4 s [o0, o1] i = (o0[i]'(by omega) && o1[i]'(by omega)) := fun i h => by simp [valF, show i < o0.length by omega, show i < o1.length by omega]
            refine AW_rg (tyOf_good _) [1, 2, 6, 7, 8, 11, 52, 53] [6, 30] (fun _ _ => trivial) fun K' hK' => ?_
            repeat (refine sxf_next fun K2 hK2 => ?_; simp [dNum, dB, rowB]; (repeat (refine ⟨by omega, ?_⟩)); refine hK2 _ ?_; clear hK2 K2)
            refine sxf_nil (hK' _ ?_)
            refine AW.st (by simp [dNum, dB, rowB]; rfl) ?_
            clear hK' K'
            refine AW_cond false rfl (fun h => by cases h) (fun _ => ?_)
            refine AW_rg (tyOf_good _) [6, 7, 8, 11, 52, 98] [6, 30] (fun _ _ => trivial) fun K' hK' => ?_
            repeat (refine sxf_next fun K2 hK2 => ?_; simp [dNum, dB, rowB]; (repeat (refine ⟨by omega, ?_⟩)); refine hK2 _ ?_; clear hK2 K2)
            refine sxf_nil (hK' _ ?_)
            refine AW.st (by simp [dNum, dB, rowB]; rfl) ?_
            clear hK' K'
            refine AW_cond false rfl (fun h => by cases h) (fun _ => ?_)
            refine AW_rg (tyOf_good _) [6, 7, 8, 11, 52, 109] [6, 30] (fun _ _ => trivial) fun K' hK' => ?_
            repeat (refine sxf_next fun K2 hK2 => ?_; simp [dNum, dB, rowB]; (repeat (refine ⟨by omega, ?_⟩)); refine hK2 _ ?_; clear hK2 K2)
            refine sxf_nil (hK' _ ?_)
            refine AW.st (by simp [dNum, dB, rowB]; rfl) ?_
            clear hK' K'
            refine AW_cond false rfl (fun h => by cases h) (fun _ => ?_)
            refine AW_rg (tyOf_good _) [6, 7, 8, 11, 52, 127] [6, 30] (fun _ _ => trivial) fun K' hK' => ?_
            repeat (refine sxf_next fun K2 hK2 => ?_; simp [dNum, dB, rowB]; (repeat (refine ⟨by omega, ?_⟩)); refine hK2 _ ?_; clear hK2 K2)
            refine sxf_nil (hK' _ ?_)
            refine AW.st (by simp [dNum, dB, rowB]; rfl) ?_
            clear hK' K'
            refine AW_cond true rfl (fun _ => ?_) (fun h => by cases h)
            refine AW_rg (tyOf_good _) [6, 8, 130, 131] [6, 30] (fun _ _ => trivial) fun K' hK' => ?_
            repeat (refine sxf_next fun K2 hK2 => ?_; simp [dNum, dB, rowB]; (repeat (refine ⟨by omega, ?_⟩)); refine hK2 _ ?_; clear hK2 K2)
            refine sxf_nil (hK' _ ?_)
            refine AW.st (by simp [dNum, dB, rowB]; rfl) ?_
            clear hK' K'
            refine AW_for (S := (Nat → Bool) × Nat) (fun s' => s'.2 ≤ n ∧ ∀ j, j < s'.2 → s'.1 j = valF a r 4 s [o0, o1] j) (fun s' => ⟨lst [(6, .ref 6 0 0), (8, .d (.ip [dOf [o0, o1]])), (130, int n), (131, int s'.2)], hlst [(6, .box 56 [.own 30 0 n]), (30, rowB n s'.1)]⟩) (fun s' => n - s'.2) (fun _ => false, 0) ?_ (by simp) ?_
            · refine Imp.to' (fun _ _ => trivial) (by simp [dNum, dB, rowB, List.map_const', dOf, dBs]) (by simp [dNum, dB, rowB, List.map_const', dOf, dBs])
            · rintro ⟨f, i⟩ ⟨hi, hall⟩
              dsimp only at hi hall ⊢
              refine AW_rg (tyOf_good _) [6, 8, 130, 131, 132] [6, 30] (fun _ _ => trivial) fun K' hK' => ?_
              repeat (refine sxf_next fun K2 hK2 => ?_; simp [dNum, dB, rowB]; (repeat (refine ⟨by omega, ?_⟩)); refine hK2 _ ?_; clear hK2 K2)
              refine sxf_nil (hK' _ ?_)
              refine AW.st (by simp [dNum, dB, rowB]; rfl) ?_
              clear hK' K'
              refine AW_then fun K12 hK12 => ?_
              refine AW_cond' (b := i < n) (by simp [D.le, D.le.go, takeMap, dNum, dB, rowB]) (fun hc => ?_) (fun hc => ?_)
              · have hin : i < n := hc
                refine AW_skip (hK12 _ ?_)
                refine AW_then fun K13 hK13 => ?_
                refine AW_block ?_
                refine AW_rg (tyOf_good _) [6, 8, 19, 130, 131] [6, 30] (fun _ _ => trivial) fun K' hK' => ?_
                repeat (refine sxf_next fun K2 hK2 => ?_; simp [dNum, dB, rowB]; (repeat (refine ⟨by omega, ?_⟩)); refine hK2 _ ?_; clear hK2 K2)
                refine sxf_nil (hK' _ ?_)
                refine AW.st (by simp [dNum, dB, rowB]; rfl) ?_
                clear hK' K'
                have hv := hv4 i hin
                have hin0 : i < o0.length := by omega
                have hin1 : i < o1.length := by omega
                cases h0 : o0[i]'(by omega) with
                | true =>
                  rw [h0] at hv
                  refine AW_rdge (tyOf_good _) (by kernel_rfl) [(0, 6), (2, 999), (3, 999), (4, 999), (6, 999), (7, 999), (9, 999), (10, 999), (11, 999), (13, 999), (14, 999), (16, 30), (17, 30)] (by kernel_rfl) fun K' hK' => ?_
                  repeat (refine sxg_next fun K2 hK2 => ?_; simp [dNum, dB, rowB, hin, hin0, hin1, h0, dOf, dBs]; (repeat (refine ⟨by omega, ?_⟩)); refine hK2 _ ?_; clear hK2 K2)
                  refine sxg_nil (hK' _ ?_)
                  clear hK' K'
                  refine hK13 _ (AW.norm [6, 8, 130, 131] [6, 30] (fun _ _ => trivial) (AW.st (by simp [dNum, dB, rowB, hin, hin0, hin1, h0, dOf, dBs]; rfl) ?_))
                  refine AW_re (tyOf_good _) fun K' hK' => ?_
                  repeat (refine sxf_next fun K2 hK2 => ?_; simp [dNum, dB, rowB]; (repeat (refine ⟨by omega, ?_⟩)); refine hK2 _ ?_; clear hK2 K2)
                  refine sxf_nil (hK' _ ?_)
                  clear hK' K'
                  try simp only [thn, inb]
                  refine Again.mk (setB f i (valF a r 4 s [o0, o1] i), i + 1) ⟨by dsimp only; omega, fun j hj => ?_⟩ (by dsimp only; omega) ?_
                  · dsimp only at hj ⊢
                    unfold setB
                    split
                    · rename_i e; subst e; rfl
                    · exact hall j (by omega)
                  refine Imp.to' (fun _ _ => trivial) (by simp [dNum, dB, rowB, set_rowB, dOf, dBs, hv]) (by simp [dNum, dB, rowB, set_rowB, dOf, dBs, hv])
                | false =>
                  rw [h0] at hv
                  refine AW_rdge (tyOf_good _) (by kernel_rfl) [(0, 6), (2, 999), (3, 999), (4, 999), (6, 999), (7, 999), (9, 999), (10, 999), (11, 999), (13, 999), (14, 999), (16, 30), (17, 30)] (by kernel_rfl) fun K' hK' => ?_
                  repeat (refine sxg_next fun K2 hK2 => ?_; simp [dNum, dB, rowB, hin, hin0, hin1, h0, dOf, dBs]; (repeat (refine ⟨by omega, ?_⟩)); refine hK2 _ ?_; clear hK2 K2)
                  refine sxg_nil (hK' _ ?_)
                  clear hK' K'
                  refine hK13 _ (AW.norm [6, 8, 130, 131] [6, 30] (fun _ _ => trivial) (AW.st (by simp [dNum, dB, rowB, hin, hin0, hin1, h0, dOf, dBs]; rfl) ?_))
                  refine AW_re (tyOf_good _) fun K' hK' => ?_
                  repeat (refine sxf_next fun K2 hK2 => ?_; simp [dNum, dB, rowB]; (repeat (refine ⟨by omega, ?_⟩)); refine hK2 _ ?_; clear hK2 K2)
                  refine sxf_nil (hK' _ ?_)
                  clear hK' K'
                  try simp only [thn, inb]
                  refine Again.mk (setB f i (valF a r 4 s [o0, o1] i), i + 1) ⟨by dsimp only; omega, fun j hj => ?_⟩ (by dsimp only; omega) ?_
                  · dsimp only at hj ⊢
                    unfold setB
                    split
                    · rename_i e; subst e; rfl
                    · exact hall j (by omega)
                  refine Imp.to' (fun _ _ => trivial) (by simp [dNum, dB, rowB, set_rowB, dOf, dBs, hv]) (by simp [dNum, dB, rowB, set_rowB, dOf, dBs, hv])
              · obtain rfl : i = n := by omega
                refine AW_exit ?_
                refine hK4 _ (AW.norm [6] [6, 30] (fun _ _ => trivial) (AW.st (by simp [dNum, dB, rowB]; rfl) ?_))
                refine AW.st (show _ = (⟨lst [(6, .ref 6 0 0)], hlst [(6, .box 56 [.own 30 0 i]), (30, rowB i (valF a r 4 s [o0, o1]))]⟩ : St) by rw [← rowB_congr hall] <;> rfl) ?_
                refine AW_rg (tyOf_good _) [4] [30] (fun _ _ => trivial) fun K' hK' => ?_
                repeat (refine sxf_next fun K2 hK2 => ?_; simp [dNum, dB, rowB]; (repeat (refine ⟨by omega, ?_⟩)); refine hK2 _ ?_; clear hK2 K2)
                refine sxf_nil (hK' _ ?_)
                refine AW.st (by simp [dNum, dB, rowB]; rfl) ?_
                clear hK' K'
                refine AW_ret ?_
                simp [D.le, D.le.go, takeMap, dNum, dB, rowB, dBs, List.map_map, Function.comp_def, hofe, take_range_map]
          · have hol : of.length = 2 := by rw [hof1]; simp [arityF, arityL] at hlen; omega
            obtain ⟨o0, o1, rfl⟩ : ∃ x y, of = [x, y] := by match of, hol with | [x, y], _ => exact ⟨x, y, rfl⟩
            have ho0 := hof2 o0 (by simp)
            have ho1 := hof2 o1 (by simp)
            have hv5 : ∀ i, (h : i < n) → valF a r 5 s [o0, o1] i = (o0[i]'(by omega) || o1[i]'(by omega)) := fun i h => by simp [valF, show i < o0.length by omega, show i < o1.length by omega]
            refine AW_rg (tyOf_good _) [1, 2, 6, 7, 8, 11, 52, 53] [6, 30] (fun _ _ => trivial) fun K' hK' => ?_
            repeat (refine sxf_next fun K2 hK2 => ?_; simp [dNum, dB, rowB]; (repeat (refine ⟨by omega, ?_⟩)); refine hK2 _ ?_; clear hK2 K2)
            refine sxf_nil (hK' _ ?_)
            refine AW.st (by simp [dNum, dB, rowB]; rfl) ?_
            clear hK' K'
            refine AW_cond false rfl (fun h => by cases h) (fun _ => ?_)
            refine AW_rg (tyOf_good _) [6, 7, 8, 11, 52, 98] [6, 30] (fun _ _ => trivial) fun K' hK' => ?_
            repeat (refine sxf_next fun K2 hK2 => ?_; simp [dNum, dB, rowB]; (repeat (refine ⟨by omega, ?_⟩)); refine hK2 _ ?_; clear hK2 K2)
            refine sxf_nil (hK' _ ?_)
            refine AW.st (by simp [dNum, dB, rowB]; rfl) ?_
            clear hK' K'
            refine AW_cond false rfl (fun h => by cases h) (fun _ => ?_)
            refine AW_rg (tyOf_good _) [6, 7, 8, 11, 52, 109] [6, 30] (fun _ _ => trivial) fun K' hK' => ?_
            repeat (refine sxf_next fun K2 hK2 => ?_; simp [dNum, dB, rowB]; (repeat (refine ⟨by omega, ?_⟩)); refine hK2 _ ?_; clear hK2 K2)
            refine sxf_nil (hK' _ ?_)
            refine AW.st (by simp [dNum, dB, rowB]; rfl) ?_
            clear hK' K'
            refine AW_cond false rfl (fun h => by cases h) (fun _ => ?_)
            refine AW_rg (tyOf_good _) [6, 7, 8, 11, 52, 127] [6, 30] (fun _ _ => trivial) fun K' hK' => ?_
            repeat (refine sxf_next fun K2 hK2 => ?_; simp [dNum, dB, rowB]; (repeat (refine ⟨by omega, ?_⟩)); refine hK2 _ ?_; clear hK2 K2)
            refine sxf_nil (hK' _ ?_)
            refine AW.st (by simp [dNum, dB, rowB]; rfl) ?_
            clear hK' K'
            refine AW_cond false rfl (fun h => by cases h) (fun _ => ?_)
            refine AW_rg (tyOf_good _) [6, 7, 8, 11, 52, 152] [6, 30] (fun _ _ => trivial) fun K' hK' => ?_
            repeat (refine sxf_next fun K2 hK2 => ?_; simp [dNum, dB, rowB]; (repeat (refine ⟨by omega, ?_⟩)); refine hK2 _ ?_; clear hK2 K2)
            refine sxf_nil (hK' _ ?_)
            refine AW.st (by simp [dNum, dB, rowB]; rfl) ?_
            clear hK' K'
            refine AW_cond true rfl (fun _ => ?_) (fun h => by cases h)
            refine AW_rg (tyOf_good _) [6, 8, 155, 156] [6, 30] (fun _ _ => trivial) fun K' hK' => ?_
            repeat (refine sxf_next fun K2 hK2 => ?_; simp [dNum, dB, rowB]; (repeat (refine ⟨by omega, ?_⟩)); refine hK2 _ ?_; clear hK2 K2)
            refine sxf_nil (hK' _ ?_)
            refine AW.st (by simp [dNum, dB, rowB]; rfl) ?_
            clear hK' K'
            refine AW_for (S := (Nat → Bool) × Nat) (fun s' => s'.2 ≤ n ∧ ∀ j, j < s'.2 → s'.1 j = valF a r 5 s [o0, o1] j) (fun s' => ⟨lst [(6, .ref 6 0 0), (8, .d (.ip [dOf [o0, o1]])), (155, int n), (156, int s'.2)], hlst [(6, .box 56 [.own 30 0 n]), (30, rowB n s'.1)]⟩) (fun s' => n - s'.2) (fun _ => false, 0) ?_ (by simp) ?_
            · refine Imp.to' (fun _ _ => trivial) (by simp [dNum, dB, rowB, List.map_const', dOf, dBs]) (by simp [dNum, dB, rowB, List.map_const', dOf, dBs])
            · rintro ⟨f, i⟩ ⟨hi, hall⟩
              dsimp only at hi hall ⊢
              refine AW_rg (tyOf_good _) [6, 8, 155, 156, 157] [6, 30] (fun _ _ => trivial) fun K' hK' => ?_
              repeat (refine sxf_next fun K2 hK2 => ?_; simp [dNum, dB, rowB]; (repeat (refine ⟨by omega, ?_⟩)); refine hK2 _ ?_; clear hK2 K2)
              refine sxf_nil (hK' _ ?_)
              refine AW.st (by simp [dNum, dB, rowB]; rfl) ?_
              clear hK' K'
              refine AW_then fun K12 hK12 => ?_
              refine AW_cond' (b := i < n) (by simp [D.le, D.le.go, takeMap, dNum, dB, rowB]) (fun hc => ?_) (fun hc => ?_)
              · have hin : i < n := hc
                refine AW_skip (hK12 _ ?_)
                refine AW_then fun K13 hK13 => ?_
                refine AW_block ?_
                refine AW_rg (tyOf_good _) [6, 8, 20, 155, 156] [6, 30] (fun _ _ => trivial) fun K' hK' => ?_
                repeat (refine sxf_next fun K2 hK2 => ?_; simp [dNum, dB, rowB]; (repeat (refine ⟨by omega, ?_⟩)); refine hK2 _ ?_; clear hK2 K2)
                refine sxf_nil (hK' _ ?_)
                refine AW.st (by simp [dNum, dB, rowB]; rfl) ?_
                clear hK' K'
                have hv := hv5 i hin
                have hin0 : i < o0.length := by omega
                have hin1 : i < o1.length := by omega
                cases h0 : o0[i]'(by omega) with
                | true =>
                  rw [h0] at hv
                  refine AW_rdge (tyOf_good _) (by kernel_rfl) [(0, 6), (2, 999), (3, 999), (4, 999), (6, 999), (7, 999), (9, 999), (10, 999), (11, 999), (13, 999), (14, 999), (16, 30), (17, 30)] (by kernel_rfl) fun K' hK' => ?_
                  repeat (refine sxg_next fun K2 hK2 => ?_; simp [dNum, dB, rowB, hin, hin0, hin1, h0, dOf, dBs]; (repeat (refine ⟨by omega, ?_⟩)); refine hK2 _ ?_; clear hK2 K2)
                  refine sxg_nil (hK' _ ?_)
                  clear hK' K'
                  refine hK13 _ (AW.norm [6, 8, 155, 156] [6, 30] (fun _ _ => trivial) (AW.st (by simp [dNum, dB, rowB, hin, hin0, hin1, h0, dOf, dBs]; rfl) ?_))
                  refine AW_re (tyOf_good _) fun K' hK' => ?_
                  repeat (refine sxf_next fun K2 hK2 => ?_; simp [dNum, dB, rowB]; (repeat (refine ⟨by omega, ?_⟩)); refine hK2 _ ?_; clear hK2 K2)
                  refine sxf_nil (hK' _ ?_)
                  clear hK' K'
                  try simp only [thn, inb]
                  refine Again.mk (setB f i (valF a r 5 s [o0, o1] i), i + 1) ⟨by dsimp only; omega, fun j hj => ?_⟩ (by dsimp only; omega) ?_
                  · dsimp only at hj ⊢
                    unfold setB
                    split
                    · rename_i e; subst e; rfl
                    · exact hall j (by omega)
                  refine Imp.to' (fun _ _ => trivial) (by simp [dNum, dB, rowB, set_rowB, dOf, dBs, hv]) (by simp [dNum, dB, rowB, set_rowB, dOf, dBs, hv])
                | false =>
                  rw [h0] at hv
                  refine AW_rdge (tyOf_good _) (by kernel_rfl) [(0, 6), (2, 999), (3, 999), (4, 999), (6, 999), (7, 999), (9, 999), (10, 999), (11, 999), (13, 999), (14, 999), (16, 30), (17, 30)] (by kernel_rfl) fun K' hK' => ?_
                  repeat (refine sxg_next fun K2 hK2 => ?_; simp [dNum, dB, rowB, hin, hin0, hin1, h0, dOf, dBs]; (repeat (refine ⟨by omega, ?_⟩)); refine hK2 _ ?_; clear hK2 K2)
                  refine sxg_nil (hK' _ ?_)
                  clear hK' K'
                  refine hK13 _ (AW.norm [6, 8, 155, 156] [6, 30] (fun _ _ => trivial) (AW.st (by simp [dNum, dB, rowB, hin, hin0, hin1, h0, dOf, dBs]; rfl) ?_))
                  refine AW_re (tyOf_good _) fun K' hK' => ?_
                  repeat (refine sxf_next fun K2 hK2 => ?_; simp [dNum, dB, rowB]; (repeat (refine ⟨by omega, ?_⟩)); refine hK2 _ ?_; clear hK2 K2)
                  refine sxf_nil (hK' _ ?_)
                  clear hK' K'
                  try simp only [thn, inb]
                  refine Again.mk (setB f i (valF a r 5 s [o0, o1] i), i + 1) ⟨by dsimp only; omega, fun j hj => ?_⟩ (by dsimp only; omega) ?_
                  · dsimp only at hj ⊢
                    unfold setB
                    split
                    · rename_i e; subst e; rfl
                    · exact hall j (by omega)
                  refine Imp.to' (fun _ _ => trivial) (by simp [dNum, dB, rowB, set_rowB, dOf, dBs, hv]) (by simp [dNum, dB, rowB, set_rowB, dOf, dBs, hv])
              · obtain rfl : i = n := by omega
                refine AW_exit ?_
                refine hK4 _ (AW.norm [6] [6, 30] (fun _ _ => trivial) (AW.st (by simp [dNum, dB, rowB]; rfl) ?_))
                refine AW.st (show _ = (⟨lst [(6, .ref 6 0 0)], hlst [(6, .box 56 [.own 30 0 i]), (30, rowB i (valF a r 5 s [o0, o1]))]⟩ : St) by rw [← rowB_congr hall] <;> rfl) ?_
                refine AW_rg (tyOf_good _) [4] [30] (fun _ _ => trivial) fun K' hK' => ?_
                repeat (refine sxf_next fun K2 hK2 => ?_; simp [dNum, dB, rowB]; (repeat (refine ⟨by omega, ?_⟩)); refine hK2 _ ?_; clear hK2 K2)
                refine sxf_nil (hK' _ ?_)
                refine AW.st (by simp [dNum, dB, rowB]; rfl) ?_
                clear hK' K'
                refine AW_ret ?_
                simp [D.le, D.le.go, takeMap, dNum, dB, rowB, dBs, List.map_map, Function.comp_def, hofe, take_range_map]
          · have hol : of.length = 1 := by rw [hof1]; simp [arityF, arityL] at hlen; omega
            obtain ⟨o0, rfl⟩ := List.length_eq_one_iff.1 hol
            have ho0 := hof2 o0 (by simp)
            have hv6 : ∀ i, (h : i < n) → valF a r 6 s [o0] i = o0[nxF a.length n i]'(by have := nxF_lt (show a.length < n by omega) h; omega) := fun i h => by
              have := nxF_lt (show a.length < n by omega) h
              simp [valF, hn, show nxF a.length n i < o0.length by omega]
            refine AW_rg (tyOf_good _) [1, 2, 6, 7, 8, 11, 52, 53] [6, 30] (fun _ _ => trivial) fun K' hK' => ?_
            repeat (refine sxf_next fun K2 hK2 => ?_; simp [dNum, dB, rowB]; (repeat (refine ⟨by omega, ?_⟩)); refine hK2 _ ?_; clear hK2 K2)
            refine sxf_nil (hK' _ ?_)
            refine AW.st (by simp [dNum, dB, rowB]; rfl) ?_
            clear hK' K'
            refine AW_cond false rfl (fun h => by cases h) (fun _ => ?_)
            refine AW_rg (tyOf_good _) [6, 7, 8, 11, 52, 98] [6, 30] (fun _ _ => trivial) fun K' hK' => ?_
            repeat (refine sxf_next fun K2 hK2 => ?_; simp [dNum, dB, rowB]; (repeat (refine ⟨by omega, ?_⟩)); refine hK2 _ ?_; clear hK2 K2)
            refine sxf_nil (hK' _ ?_)
            refine AW.st (by simp [dNum, dB, rowB]; rfl) ?_
            clear hK' K'
            refine AW_cond false rfl (fun h => by cases h) (fun _ => ?_)
            refine AW_rg (tyOf_good _) [6, 7, 8, 11, 52, 109] [6, 30] (fun _ _ => trivial) fun K' hK' => ?_
            repeat (refine sxf_next fun K2 hK2 => ?_; simp [dNum, dB, rowB]; (repeat (refine ⟨by omega, ?_⟩)); refine hK2 _ ?_; clear hK2 K2)
            refine sxf_nil (hK' _ ?_)
            refine AW.st (by simp [dNum, dB, rowB]; rfl) ?_
            clear hK' K'
            refine AW_cond false rfl (fun h => by cases h) (fun _ => ?_)
            refine AW_rg (tyOf_good _) [6, 7, 8, 11, 52, 127] [6, 30] (fun _ _ => trivial) fun K' hK' => ?_
            repeat (refine sxf_next fun K2 hK2 => ?_; simp [dNum, dB, rowB]; (repeat (refine ⟨by omega, ?_⟩)); refine hK2 _ ?_; clear hK2 K2)
            refine sxf_nil (hK' _ ?_)
            refine AW.st (by simp [dNum, dB, rowB]; rfl) ?_
            clear hK' K'
            refine AW_cond false rfl (fun h => by cases h) (fun _ => ?_)
            refine AW_rg (tyOf_good _) [6, 7, 8, 11, 52, 152] [6, 30] (fun _ _ => trivial) fun K' hK' => ?_
            repeat (refine sxf_next fun K2 hK2 => ?_; simp [dNum, dB, rowB]; (repeat (refine ⟨by omega, ?_⟩)); refine hK2 _ ?_; clear hK2 K2)
            refine sxf_nil (hK' _ ?_)
            refine AW.st (by simp [dNum, dB, rowB]; rfl) ?_
            clear hK' K'
            refine AW_cond false rfl (fun h => by cases h) (fun _ => ?_)
            refine AW_rg (tyOf_good _) [6, 7, 8, 11, 52, 177] [6, 30] (fun _ _ => trivial) fun K' hK' => ?_
            repeat (refine sxf_next fun K2 hK2 => ?_; simp [dNum, dB, rowB]; (repeat (refine ⟨by omega, ?_⟩)); refine hK2 _ ?_; clear hK2 K2)
            refine sxf_nil (hK' _ ?_)
            refine AW.st (by simp [dNum, dB, rowB]; rfl) ?_
            clear hK' K'
            refine AW_cond true rfl (fun _ => ?_) (fun h => by cases h)
            refine AW_rg (tyOf_good _) [6, 7, 8, 180, 181] [6, 30] (fun _ _ => trivial) fun K' hK' => ?_
            repeat (refine sxf_next fun K2 hK2 => ?_; simp [dNum, dB, rowB]; (repeat (refine ⟨by omega, ?_⟩)); refine hK2 _ ?_; clear hK2 K2)
            refine sxf_nil (hK' _ ?_)
            refine AW.st (by simp [dNum, dB, rowB]; rfl) ?_
            clear hK' K'
            refine AW_for (S := (Nat → Bool) × Nat) (fun s' => s'.2 ≤ n ∧ ∀ j, j < s'.2 → s'.1 j = valF a r 6 s [o0] j) (fun s' => ⟨lst [(6, .ref 6 0 0), (7, .d (.ip [.fn (.func 101) [.ip [dNum n], .ip [dTimes a, dTimes r]]])), (8, .d (.ip [dOf [o0]])), (180, int n), (181, int s'.2)], hlst [(6, .box 56 [.own 30 0 n]), (30, rowB n s'.1)]⟩) (fun s' => n - s'.2) (fun _ => false, 0) ?_ (by simp) ?_
            · refine Imp.to' (fun _ _ => trivial) (by simp [dNum, dB, rowB, List.map_const', dOf, dBs]) (by simp [dNum, dB, rowB, List.map_const', dOf, dBs])
            · rintro ⟨f, i⟩ ⟨hi, hall⟩
              dsimp only at hi hall ⊢
              refine AW_rg (tyOf_good _) [6, 7, 8, 180, 181, 182] [6, 30] (fun _ _ => trivial) fun K' hK' => ?_
              repeat (refine sxf_next fun K2 hK2 => ?_; simp [dNum, dB, rowB]; (repeat (refine ⟨by omega, ?_⟩)); refine hK2 _ ?_; clear hK2 K2)
              refine sxf_nil (hK' _ ?_)
              refine AW.st (by simp [dNum, dB, rowB]; rfl) ?_
              clear hK' K'
              refine AW_then fun K12 hK12 => ?_
              refine AW_cond' (b := i < n) (by simp [D.le, D.le.go, takeMap, dNum, dB, rowB]) (fun hc => ?_) (fun hc => ?_)
              · have hin : i < n := hc
                refine AW_skip (hK12 _ ?_)
                refine AW_then fun K13 hK13 => ?_
                refine AW_block ?_
                refine AW_rg (tyOf_good _) [6, 7, 8, 21, 180, 181] [6, 30] (fun _ _ => trivial) fun K' hK' => ?_
                repeat (refine sxf_next fun K2 hK2 => ?_; simp [dNum, dB, rowB]; (repeat (refine ⟨by omega, ?_⟩)); refine hK2 _ ?_; clear hK2 K2)
                refine sxf_nil (hK' _ ?_)
                refine AW.st (by simp [dNum, dB, rowB]; rfl) ?_
                clear hK' K'
                have hv := hv6 i hin
                have hnl := nxF_lt (show a.length < n by omega) hin
                have hcn := next_spec G a r n i (by omega) (by omega)
                have hin2 : nxF a.length n i < o0.length := by omega
                refine AW_rdge (tyOf_good _) (by kernel_rfl) [(0, 6), (2, 999), (3, 999), (4, 999), (5, 999), (8, 999), (9, 999), (10, 30), (11, 30)] (by kernel_rfl) fun K' hK' => ?_
                repeat (refine sxg_next fun K2 hK2 => ?_; simp [dNum, dB, rowB, hin, hin2, dOf, dBs]; (repeat (refine ⟨by omega, ?_⟩)); refine hK2 _ ?_; clear hK2 K2)
                refine sxg_next fun K2 hK2 => ?_
                simp [dNum, dB, rowB, hin, hin2, dOf, dBs]
                refine callQ.data (hcn) (by simp; rfl) (by simp; rfl) (by first | exact D.leGo_refl _ | simp [takeMap, List.map_map, Function.comp_def, D.le, D.le.go, D.le_refl, D.leGo_refl, dNum, dB, rowB, hin, hin2, dOf, dBs]) ?_
                refine hK2 _ ?_
                clear hK2 K2
                simp only [putd, upd_lst]
                repeat (refine sxg_next fun K2 hK2 => ?_; simp [dNum, dB, rowB, hin, hin2, dOf, dBs]; (repeat (refine ⟨by omega, ?_⟩)); refine hK2 _ ?_; clear hK2 K2)
                refine sxg_nil (hK' _ ?_)
                clear hK' K'
                refine hK13 _ (AW.norm [6, 7, 8, 180, 181] [6, 30] (fun _ _ => trivial) (AW.st (by simp [dNum, dB, rowB, hin, hin2, dOf, dBs]; rfl) ?_))
                refine AW_re (tyOf_good _) fun K' hK' => ?_
                repeat (refine sxf_next fun K2 hK2 => ?_; simp [dNum, dB, rowB]; (repeat (refine ⟨by omega, ?_⟩)); refine hK2 _ ?_; clear hK2 K2)
                refine sxf_nil (hK' _ ?_)
                clear hK' K'
                try simp only [thn, inb]
                refine Again.mk (setB f i (valF a r 6 s [o0] i), i + 1) ⟨by dsimp only; omega, fun j hj => ?_⟩ (by dsimp only; omega) ?_
                · dsimp only at hj ⊢
                  unfold setB
                  split
                  · rename_i e; subst e; rfl
                  · exact hall j (by omega)
                refine Imp.to' (fun _ _ => trivial) (by simp [dNum, dB, rowB, set_rowB, dOf, dBs, hv]) (by simp [dNum, dB, rowB, set_rowB, dOf, dBs, hv])
              · obtain rfl : i = n := by omega
                refine AW_exit ?_
                refine hK4 _ (AW.norm [6] [6, 30] (fun _ _ => trivial) (AW.st (by simp [dNum, dB, rowB]; rfl) ?_))
                refine AW.st (show _ = (⟨lst [(6, .ref 6 0 0)], hlst [(6, .box 56 [.own 30 0 i]), (30, rowB i (valF a r 6 s [o0]))]⟩ : St) by rw [← rowB_congr hall] <;> rfl) ?_
                refine AW_rg (tyOf_good _) [4] [30] (fun _ _ => trivial) fun K' hK' => ?_
                repeat (refine sxf_next fun K2 hK2 => ?_; simp [dNum, dB, rowB]; (repeat (refine ⟨by omega, ?_⟩)); refine hK2 _ ?_; clear hK2 K2)
                refine sxf_nil (hK' _ ?_)
                refine AW.st (by simp [dNum, dB, rowB]; rfl) ?_
                clear hK' K'
                refine AW_ret ?_
                simp [D.le, D.le.go, takeMap, dNum, dB, rowB, dBs, List.map_map, Function.comp_def, hofe, take_range_map]
          · have hol : of.length = 2 := by rw [hof1]; simp [arityF, arityL] at hlen; omega
            obtain ⟨o0, o1, rfl⟩ : ∃ x y, of = [x, y] := by match of, hol with | [x, y], _ => exact ⟨x, y, rfl⟩
            have ho0 := hof2 o0 (by simp)
            have ho1 := hof2 o1 (by simp)
            have hnx : ∀ i, i < n → nxF a.length n i < n := fun i hi => nxF_lt (by omega) hi
            have hmo : MonoN (fun i b => (([o0, o1].getD 1 []).getD i false || (([o0, o1].getD 0 []).getD i false && b))) := fun i h => by revert h; dsimp only; cases ([o0, o1].getD 0 []).getD i false <;> cases ([o0, o1].getD 1 []).getD i false <;> simp
            have hnow : ∀ i b, i < n → PureC Tryd.prog G 103 (dNum i :: dB b :: [.ip [dOf [o0, o1]]]) (dB ((fun i b => (([o0, o1].getD 1 []).getD i false || (([o0, o1].getD 0 []).getD i false && b))) i b)) := fun i b hi => by
              have := until_spec G o0 o1 i b (by omega) (by omega)
              simpa [show i < o0.length by omega, show i < o1.length by omega] using this
            have hfx := fix_spec G (fun i b => (([o0, o1].getD 1 []).getD i false || (([o0, o1].getD 0 []).getD i false && b))) (nxF a.length n) false n (by omega) hmo hnx _ _ _ _ hnow (fun i hi => next_spec G a r n i (by omega) (by omega)) (fun _ => false)
            have hvf : valF a r 7 s [o0, o1] = iterN (fun i b => (([o0, o1].getD 1 []).getD i false || (([o0, o1].getD 0 []).getD i false && b))) (nxF a.length n) false n := by subst hn; rfl
            rw [← hvf] at hfx
            refine AW_rg (tyOf_good _) [1, 2, 6, 7, 8, 11, 52, 53] [6, 30] (fun _ _ => trivial) fun K' hK' => ?_
            repeat (refine sxf_next fun K2 hK2 => ?_; simp [dNum, dB, rowB]; (repeat (refine ⟨by omega, ?_⟩)); refine hK2 _ ?_; clear hK2 K2)
            refine sxf_nil (hK' _ ?_)
            refine AW.st (by simp [dNum, dB, rowB]; rfl) ?_
            clear hK' K'
            refine AW_cond false rfl (fun h => by cases h) (fun _ => ?_)
            refine AW_rg (tyOf_good _) [6, 7, 8, 11, 52, 98] [6, 30] (fun _ _ => trivial) fun K' hK' => ?_
            repeat (refine sxf_next fun K2 hK2 => ?_; simp [dNum, dB, rowB]; (repeat (refine ⟨by omega, ?_⟩)); refine hK2 _ ?_; clear hK2 K2)
            refine sxf_nil (hK' _ ?_)
            refine AW.st (by simp [dNum, dB, rowB]; rfl) ?_
            clear hK' K'
            refine AW_cond false rfl (fun h => by cases h) (fun _ => ?_)
            refine AW_rg (tyOf_good _) [6, 7, 8, 11, 52, 109] [6, 30] (fun _ _ => trivial) fun K' hK' => ?_
            repeat (refine sxf_next fun K2 hK2 => ?_; simp [dNum, dB, rowB]; (repeat (refine ⟨by omega, ?_⟩)); refine hK2 _ ?_; clear hK2 K2)
            refine sxf_nil (hK' _ ?_)
            refine AW.st (by simp [dNum, dB, rowB]; rfl) ?_
            clear hK' K'
            refine AW_cond false rfl (fun h => by cases h) (fun _ => ?_)
            refine AW_rg (tyOf_good _) [6, 7, 8, 11, 52, 127] [6, 30] (fun _ _ => trivial) fun K' hK' => ?_
            repeat (refine sxf_next fun K2 hK2 => ?_; simp [dNum, dB, rowB]; (repeat (refine ⟨by omega, ?_⟩)); refine hK2 _ ?_; clear hK2 K2)
            refine sxf_nil (hK' _ ?_)
            refine AW.st (by simp [dNum, dB, rowB]; rfl) ?_
            clear hK' K'
            refine AW_cond false rfl (fun h => by cases h) (fun _ => ?_)
            refine AW_rg (tyOf_good _) [6, 7, 8, 11, 52, 152] [6, 30] (fun _ _ => trivial) fun K' hK' => ?_
            repeat (refine sxf_next fun K2 hK2 => ?_; simp [dNum, dB, rowB]; (repeat (refine ⟨by omega, ?_⟩)); refine hK2 _ ?_; clear hK2 K2)
            refine sxf_nil (hK' _ ?_)
            refine AW.st (by simp [dNum, dB, rowB]; rfl) ?_
            clear hK' K'
            refine AW_cond false rfl (fun h => by cases h) (fun _ => ?_)
            refine AW_rg (tyOf_good _) [6, 7, 8, 11, 52, 177] [6, 30] (fun _ _ => trivial) fun K' hK' => ?_
            repeat (refine sxf_next fun K2 hK2 => ?_; simp [dNum, dB, rowB]; (repeat (refine ⟨by omega, ?_⟩)); refine hK2 _ ?_; clear hK2 K2)
            refine sxf_nil (hK' _ ?_)
            refine AW.st (by simp [dNum, dB, rowB]; rfl) ?_
            clear hK' K'
            refine AW_cond false rfl (fun h => by cases h) (fun _ => ?_)
            refine AW_rg (tyOf_good _) [6, 8, 11, 52, 196] [6, 30] (fun _ _ => trivial) fun K' hK' => ?_
            repeat (refine sxf_next fun K2 hK2 => ?_; simp [dNum, dB, rowB]; (repeat (refine ⟨by omega, ?_⟩)); refine hK2 _ ?_; clear hK2 K2)
            refine sxf_nil (hK' _ ?_)
            refine AW.st (by simp [dNum, dB, rowB]; rfl) ?_
            clear hK' K'
            refine AW_cond true rfl (fun _ => ?_) (fun h => by cases h)
            refine AW_re (tyOf_good _) fun K' hK' => ?_
            repeat (refine sxf_next fun K2 hK2 => ?_; simp [dNum, dB, rowB, rowB, List.map_const', dOf, dBs]; (repeat (refine ⟨by omega, ?_⟩)); refine hK2 _ ?_; clear hK2 K2)
            refine sxf_next fun K2 hK2 => ?_
            simp [dNum, dB, rowB, rowB, List.map_const', dOf, dBs]
            refine callK.mc (hfx) (by simp [dNum, dB, rowB, rowB, List.map_const', dOf, dBs]) (by simp [dNum, dB, rowB, rowB, List.map_const', dOf, dBs]) (by simp [dNum, dB, rowB, rowB, List.map_const', dOf, dBs]) (by simp [dNum, dB, rowB, rowB, List.map_const', dOf, dBs]) ?_
            simp [dNum, dB, rowB, rowB, List.map_const', dOf, dBs]
            refine hK2 _ ?_
            clear hK2 K2
            repeat (refine sxf_next fun K2 hK2 => ?_; simp [dNum, dB, rowB, rowB, List.map_const', dOf, dBs]; (repeat (refine ⟨by omega, ?_⟩)); refine hK2 _ ?_; clear hK2 K2)
            refine sxf_nil (hK' _ ?_)
            clear hK' K'
            refine hK4 _ (AW.norm [6] [6, 30] (fun _ _ => trivial) (AW.st (by simp [dNum, dB, rowB, rowB, List.map_const', dOf, dBs]; rfl) ?_))
            refine AW_rg (tyOf_good _) [4] [30] (fun _ _ => trivial) fun K' hK' => ?_
            repeat (refine sxf_next fun K2 hK2 => ?_; simp [dNum, dB, rowB]; (repeat (refine ⟨by omega, ?_⟩)); refine hK2 _ ?_; clear hK2 K2)
            refine sxf_nil (hK' _ ?_)
            refine AW.st (by simp [dNum, dB, rowB]; rfl) ?_
            clear hK' K'
            refine AW_ret ?_
            simp [D.le, D.le.go, takeMap, dNum, dB, rowB, dBs, List.map_map, Function.comp_def, hofe, take_range_map]
          · have hol : of.length = 2 := by rw [hof1]; simp [arityF, arityL] at hlen; omega
            obtain ⟨o0, o1, rfl⟩ : ∃ x y, of = [x, y] := by match of, hol with | [x, y], _ => exact ⟨x, y, rfl⟩
            have ho0 := hof2 o0 (by simp)
            have ho1 := hof2 o1 (by simp)
            have hnx : ∀ i, i < n → nxF a.length n i < n := fun i hi => nxF_lt (by omega) hi
            have hmo : MonoN (fun i b => (([o0, o1].getD 1 []).getD i false && (([o0, o1].getD 0 []).getD i false || b))) := fun i h => by revert h; dsimp only; cases ([o0, o1].getD 0 []).getD i false <;> cases ([o0, o1].getD 1 []).getD i false <;> simp
            have hnow : ∀ i b, i < n → PureC Tryd.prog G 104 (dNum i :: dB b :: [.ip [dOf [o0, o1]]]) (dB ((fun i b => (([o0, o1].getD 1 []).getD i false && (([o0, o1].getD 0 []).getD i false || b))) i b)) := fun i b hi => by
              have := release_spec G o0 o1 i b (by omega) (by omega)
              simpa [show i < o0.length by omega, show i < o1.length by omega] using this
            have hfx := fix_spec G (fun i b => (([o0, o1].getD 1 []).getD i false && (([o0, o1].getD 0 []).getD i false || b))) (nxF a.length n) true n (by omega) hmo hnx _ _ _ _ hnow (fun i hi => next_spec G a r n i (by omega) (by omega)) (fun _ => false)
            have hvf : valF a r 8 s [o0, o1] = iterN (fun i b => (([o0, o1].getD 1 []).getD i false && (([o0, o1].getD 0 []).getD i false || b))) (nxF a.length n) true n := by subst hn; rfl
            rw [← hvf] at hfx
            refine AW_rg (tyOf_good _) [1, 2, 6, 7, 8, 11, 52, 53] [6, 30] (fun _ _ => trivial) fun K' hK' => ?_
            repeat (refine sxf_next fun K2 hK2 => ?_; simp [dNum, dB, rowB]; (repeat (refine ⟨by omega, ?_⟩)); refine hK2 _ ?_; clear hK2 K2)
            refine sxf_nil (hK' _ ?_)
            refine AW.st (by simp [dNum, dB, rowB]; rfl) ?_
            clear hK' K'
            refine AW_cond false rfl (fun h => by cases h) (fun _ => ?_)
            refine AW_rg (tyOf_good _) [6, 7, 8, 11, 52, 98] [6, 30] (fun _ _ => trivial) fun K' hK' => ?_
            repeat (refine sxf_next fun K2 hK2 => ?_; simp [dNum, dB, rowB]; (repeat (refine ⟨by omega, ?_⟩)); refine hK2 _ ?_; clear hK2 K2)
            refine sxf_nil (hK' _ ?_)
            refine AW.st (by simp [dNum, dB, rowB]; rfl) ?_
            clear hK' K'
            refine AW_cond false rfl (fun h => by cases h) (fun _ => ?_)
            refine AW_rg (tyOf_good _) [6, 7, 8, 11, 52, 109] [6, 30] (fun _ _ => trivial) fun K' hK' => ?_
            repeat (refine sxf_next fun K2 hK2 => ?_; simp [dNum, dB, rowB]; (repeat (refine ⟨by omega, ?_⟩)); refine hK2 _ ?_; clear hK2 K2)
            refine sxf_nil (hK' _ ?_)
            refine AW.st (by simp [dNum, dB, rowB]; rfl) ?_
            clear hK' K'
            refine AW_cond false rfl (fun h => by cases h) (fun _ => ?_)
            refine AW_rg (tyOf_good _) [6, 7, 8, 11, 52, 127] [6, 30] (fun _ _ => trivial) fun K' hK' => ?_
            repeat (refine sxf_next fun K2 hK2 => ?_; simp [dNum, dB, rowB]; (repeat (refine ⟨by omega, ?_⟩)); refine hK2 _ ?_; clear hK2 K2)
            refine sxf_nil (hK' _ ?_)
            refine AW.st (by simp [dNum, dB, rowB]; rfl) ?_
            clear hK' K'
            refine AW_cond false rfl (fun h => by cases h) (fun _ => ?_)
            refine AW_rg (tyOf_good _) [6, 7, 8, 11, 52, 152] [6, 30] (fun _ _ => trivial) fun K' hK' => ?_
            repeat (refine sxf_next fun K2 hK2 => ?_; simp [dNum, dB, rowB]; (repeat (refine ⟨by omega, ?_⟩)); refine hK2 _ ?_; clear hK2 K2)
            refine sxf_nil (hK' _ ?_)
            refine AW.st (by simp [dNum, dB, rowB]; rfl) ?_
            clear hK' K'
            refine AW_cond false rfl (fun h => by cases h) (fun _ => ?_)
            refine AW_rg (tyOf_good _) [6, 7, 8, 11, 52, 177] [6, 30] (fun _ _ => trivial) fun K' hK' => ?_
            repeat (refine sxf_next fun K2 hK2 => ?_; simp [dNum, dB, rowB]; (repeat (refine ⟨by omega, ?_⟩)); refine hK2 _ ?_; clear hK2 K2)
            refine sxf_nil (hK' _ ?_)
            refine AW.st (by simp [dNum, dB, rowB]; rfl) ?_
            clear hK' K'
            refine AW_cond false rfl (fun h => by cases h) (fun _ => ?_)
            refine AW_rg (tyOf_good _) [6, 8, 11, 52, 196] [6, 30] (fun _ _ => trivial) fun K' hK' => ?_
            repeat (refine sxf_next fun K2 hK2 => ?_; simp [dNum, dB, rowB]; (repeat (refine ⟨by omega, ?_⟩)); refine hK2 _ ?_; clear hK2 K2)
            refine sxf_nil (hK' _ ?_)
            refine AW.st (by simp [dNum, dB, rowB]; rfl) ?_
            clear hK' K'
            refine AW_cond false rfl (fun h => by cases h) (fun _ => ?_)
            refine AW_rg (tyOf_good _) [6, 8, 11, 52, 201] [6, 30] (fun _ _ => trivial) fun K' hK' => ?_
            repeat (refine sxf_next fun K2 hK2 => ?_; simp [dNum, dB, rowB]; (repeat (refine ⟨by omega, ?_⟩)); refine hK2 _ ?_; clear hK2 K2)
            refine sxf_nil (hK' _ ?_)
            refine AW.st (by simp [dNum, dB, rowB]; rfl) ?_
            clear hK' K'
            refine AW_cond true rfl (fun _ => ?_) (fun h => by cases h)
            refine AW_re (tyOf_good _) fun K' hK' => ?_
            repeat (refine sxf_next fun K2 hK2 => ?_; simp [dNum, dB, rowB, rowB, List.map_const', dOf, dBs]; (repeat (refine ⟨by omega, ?_⟩)); refine hK2 _ ?_; clear hK2 K2)
            refine sxf_next fun K2 hK2 => ?_
            simp [dNum, dB, rowB, rowB, List.map_const', dOf, dBs]
            refine callK.mc (hfx) (by simp [dNum, dB, rowB, rowB, List.map_const', dOf, dBs]) (by simp [dNum, dB, rowB, rowB, List.map_const', dOf, dBs]) (by simp [dNum, dB, rowB, rowB, List.map_const', dOf, dBs]) (by simp [dNum, dB, rowB, rowB, List.map_const', dOf, dBs]) ?_
            simp [dNum, dB, rowB, rowB, List.map_const', dOf, dBs]
            refine hK2 _ ?_
            clear hK2 K2
            repeat (refine sxf_next fun K2 hK2 => ?_; simp [dNum, dB, rowB, rowB, List.map_const', dOf, dBs]; (repeat (refine ⟨by omega, ?_⟩)); refine hK2 _ ?_; clear hK2 K2)
            refine sxf_nil (hK' _ ?_)
            clear hK' K'
            refine hK4 _ (AW.norm [6] [6, 30] (fun _ _ => trivial) (AW.st (by simp [dNum, dB, rowB, rowB, List.map_const', dOf, dBs]; rfl) ?_))
            refine AW_rg (tyOf_good _) [4] [30] (fun _ _ => trivial) fun K' hK' => ?_
            repeat (refine sxf_next fun K2 hK2 => ?_; simp [dNum, dB, rowB]; (repeat (refine ⟨by omega, ?_⟩)); refine hK2 _ ?_; clear hK2 K2)
            refine sxf_nil (hK' _ ?_)
            refine AW.st (by simp [dNum, dB, rowB]; rfl) ?_
            clear hK' K'
            refine AW_ret ?_
            simp [D.le, D.le.go, takeMap, dNum, dB, rowB, dBs, List.map_map, Function.comp_def, hofe, take_range_map]
          · have hol : of.length = 1 := by rw [hof1]; simp [arityF, arityL] at hlen; omega
            obtain ⟨o0, rfl⟩ := List.length_eq_one_iff.1 hol
            have ho0 := hof2 o0 (by simp)
            have hnx : ∀ i, i < n → nxF a.length n i < n := fun i hi => nxF_lt (by omega) hi
            have hmo : MonoN (fun i b => (([o0].getD 0 []).getD i false || b)) := fun i h => by revert h; dsimp only; cases ([o0].getD 0 []).getD i false <;> simp
            have hnow : ∀ i b, i < n → PureC Tryd.prog G 105 (dNum i :: dB b :: [.ip [dOf [o0]]]) (dB ((fun i b => (([o0].getD 0 []).getD i false || b)) i b)) := fun i b hi => by
              have := ever_spec G o0 i b (by omega)
              simpa [show i < o0.length by omega] using this
            have hfx := fix_spec G (fun i b => (([o0].getD 0 []).getD i false || b)) (nxF a.length n) false n (by omega) hmo hnx _ _ _ _ hnow (fun i hi => next_spec G a r n i (by omega) (by omega)) (fun _ => false)
            have hvf : valF a r 9 s [o0] = iterN (fun i b => (([o0].getD 0 []).getD i false || b)) (nxF a.length n) false n := by subst hn; rfl
            rw [← hvf] at hfx
            refine AW_rg (tyOf_good _) [1, 2, 6, 7, 8, 11, 52, 53] [6, 30] (fun _ _ => trivial) fun K' hK' => ?_
            repeat (refine sxf_next fun K2 hK2 => ?_; simp [dNum, dB, rowB]; (repeat (refine ⟨by omega, ?_⟩)); refine hK2 _ ?_; clear hK2 K2)
            refine sxf_nil (hK' _ ?_)
            refine AW.st (by simp [dNum, dB, rowB]; rfl) ?_
            clear hK' K'
            refine AW_cond false rfl (fun h => by cases h) (fun _ => ?_)
            refine AW_rg (tyOf_good _) [6, 7, 8, 11, 52, 98] [6, 30] (fun _ _ => trivial) fun K' hK' => ?_
            repeat (refine sxf_next fun K2 hK2 => ?_; simp [dNum, dB, rowB]; (repeat (refine ⟨by omega, ?_⟩)); refine hK2 _ ?_; clear hK2 K2)
            refine sxf_nil (hK' _ ?_)
            refine AW.st (by simp [dNum, dB, rowB]; rfl) ?_
            clear hK' K'
            refine AW_cond false rfl (fun h => by cases h) (fun _ => ?_)
            refine AW_rg (tyOf_good _) [6, 7, 8, 11, 52, 109] [6, 30] (fun _ _ => trivial) fun K' hK' => ?_
            repeat (refine sxf_next fun K2 hK2 => ?_; simp [dNum, dB, rowB]; (repeat (refine ⟨by omega, ?_⟩)); refine hK2 _ ?_; clear hK2 K2)
            refine sxf_nil (hK' _ ?_)
            refine AW.st (by simp [dNum, dB, rowB]; rfl) ?_
            clear hK' K'
            refine AW_cond false rfl (fun h => by cases h) (fun _ => ?_)
            refine AW_rg (tyOf_good _) [6, 7, 8, 11, 52, 127] [6, 30] (fun _ _ => trivial) fun K' hK' => ?_
            repeat (refine sxf_next fun K2 hK2 => ?_; simp [dNum, dB, rowB]; (repeat (refine ⟨by omega, ?_⟩)); refine hK2 _ ?_; clear hK2 K2)
            refine sxf_nil (hK' _ ?_)
            refine AW.st (by simp [dNum, dB, rowB]; rfl) ?_
            clear hK' K'
            refine AW_cond false rfl (fun h => by cases h) (fun _ => ?_)
            refine AW_rg (tyOf_good _) [6, 7, 8, 11, 52, 152] [6, 30] (fun _ _ => trivial) fun K' hK' => ?_
            repeat (refine sxf_next fun K2 hK2 => ?_; simp [dNum, dB, rowB]; (repeat (refine ⟨by omega, ?_⟩)); refine hK2 _ ?_; clear hK2 K2)
            refine sxf_nil (hK' _ ?_)
            refine AW.st (by simp [dNum, dB, rowB]; rfl) ?_
            clear hK' K'
            refine AW_cond false rfl (fun h => by cases h) (fun _ => ?_)
            refine AW_rg (tyOf_good _) [6, 7, 8, 11, 52, 177] [6, 30] (fun _ _ => trivial) fun K' hK' => ?_
            repeat (refine sxf_next fun K2 hK2 => ?_; simp [dNum, dB, rowB]; (repeat (refine ⟨by omega, ?_⟩)); refine hK2 _ ?_; clear hK2 K2)
            refine sxf_nil (hK' _ ?_)
            refine AW.st (by simp [dNum, dB, rowB]; rfl) ?_
            clear hK' K'
            refine AW_cond false rfl (fun h => by cases h) (fun _ => ?_)
            refine AW_rg (tyOf_good _) [6, 8, 11, 52, 196] [6, 30] (fun _ _ => trivial) fun K' hK' => ?_
            repeat (refine sxf_next fun K2 hK2 => ?_; simp [dNum, dB, rowB]; (repeat (refine ⟨by omega, ?_⟩)); refine hK2 _ ?_; clear hK2 K2)
            refine sxf_nil (hK' _ ?_)
            refine AW.st (by simp [dNum, dB, rowB]; rfl) ?_
            clear hK' K'
            refine AW_cond false rfl (fun h => by cases h) (fun _ => ?_)
            refine AW_rg (tyOf_good _) [6, 8, 11, 52, 201] [6, 30] (fun _ _ => trivial) fun K' hK' => ?_
            repeat (refine sxf_next fun K2 hK2 => ?_; simp [dNum, dB, rowB]; (repeat (refine ⟨by omega, ?_⟩)); refine hK2 _ ?_; clear hK2 K2)
            refine sxf_nil (hK' _ ?_)
            refine AW.st (by simp [dNum, dB, rowB]; rfl) ?_
            clear hK' K'
            refine AW_cond false rfl (fun h => by cases h) (fun _ => ?_)
            refine AW_rg (tyOf_good _) [6, 8, 11, 52, 206] [6, 30] (fun _ _ => trivial) fun K' hK' => ?_
            repeat (refine sxf_next fun K2 hK2 => ?_; simp [dNum, dB, rowB]; (repeat (refine ⟨by omega, ?_⟩)); refine hK2 _ ?_; clear hK2 K2)
            refine sxf_nil (hK' _ ?_)
            refine AW.st (by simp [dNum, dB, rowB]; rfl) ?_
            clear hK' K'
            refine AW_cond true rfl (fun _ => ?_) (fun h => by cases h)
            refine AW_re (tyOf_good _) fun K' hK' => ?_
            repeat (refine sxf_next fun K2 hK2 => ?_; simp [dNum, dB, rowB, rowB, List.map_const', dOf, dBs]; (repeat (refine ⟨by omega, ?_⟩)); refine hK2 _ ?_; clear hK2 K2)
            refine sxf_next fun K2 hK2 => ?_
            simp [dNum, dB, rowB, rowB, List.map_const', dOf, dBs]
            refine callK.mc (hfx) (by simp [dNum, dB, rowB, rowB, List.map_const', dOf, dBs]) (by simp [dNum, dB, rowB, rowB, List.map_const', dOf, dBs]) (by simp [dNum, dB, rowB, rowB, List.map_const', dOf, dBs]) (by simp [dNum, dB, rowB, rowB, List.map_const', dOf, dBs]) ?_
            simp [dNum, dB, rowB, rowB, List.map_const', dOf, dBs]
            refine hK2 _ ?_
            clear hK2 K2
            repeat (refine sxf_next fun K2 hK2 => ?_; simp [dNum, dB, rowB, rowB, List.map_const', dOf, dBs]; (repeat (refine ⟨by omega, ?_⟩)); refine hK2 _ ?_; clear hK2 K2)
            refine sxf_nil (hK' _ ?_)
            clear hK' K'
            refine hK4 _ (AW.norm [6] [6, 30] (fun _ _ => trivial) (AW.st (by simp [dNum, dB, rowB, rowB, List.map_const', dOf, dBs]; rfl) ?_))
            refine AW_rg (tyOf_good _) [4] [30] (fun _ _ => trivial) fun K' hK' => ?_
            repeat (refine sxf_next fun K2 hK2 => ?_; simp [dNum, dB, rowB]; (repeat (refine ⟨by omega, ?_⟩)); refine hK2 _ ?_; clear hK2 K2)
            refine sxf_nil (hK' _ ?_)
            refine AW.st (by simp [dNum, dB, rowB]; rfl) ?_
            clear hK' K'
            refine AW_ret ?_
            simp [D.le, D.le.go, takeMap, dNum, dB, rowB, dBs, List.map_map, Function.comp_def, hofe, take_range_map]
          · have hol : of.length = 1 := by rw [hof1]; simp [arityF, arityL] at hlen; omega
            obtain ⟨o0, rfl⟩ := List.length_eq_one_iff.1 hol
            have ho0 := hof2 o0 (by simp)
            have hnx : ∀ i, i < n → nxF a.length n i < n := fun i hi => nxF_lt (by omega) hi
            have hmo : MonoN (fun i b => (([o0].getD 0 []).getD i false && b)) := fun i h => by revert h; dsimp only; cases ([o0].getD 0 []).getD i false <;> simp
            have hnow : ∀ i b, i < n → PureC Tryd.prog G 106 (dNum i :: dB b :: [.ip [dOf [o0]]]) (dB ((fun i b => (([o0].getD 0 []).getD i false && b)) i b)) := fun i b hi => by
              have := always_spec G o0 i b (by omega)
              simpa [show i < o0.length by omega] using this
            have hfx := fix_spec G (fun i b => (([o0].getD 0 []).getD i false && b)) (nxF a.length n) true n (by omega) hmo hnx _ _ _ _ hnow (fun i hi => next_spec G a r n i (by omega) (by omega)) (fun _ => false)
            have hvf : valF a r 10 s [o0] = iterN (fun i b => (([o0].getD 0 []).getD i false && b)) (nxF a.length n) true n := by subst hn; rfl
            rw [← hvf] at hfx
            refine AW_rg (tyOf_good _) [1, 2, 6, 7, 8, 11, 52, 53] [6, 30] (fun _ _ => trivial) fun K' hK' => ?_
            repeat (refine sxf_next fun K2 hK2 => ?_; simp [dNum, dB, rowB]; (repeat (refine ⟨by omega, ?_⟩)); refine hK2 _ ?_; clear hK2 K2)
            refine sxf_nil (hK' _ ?_)
            refine AW.st (by simp [dNum, dB, rowB]; rfl) ?_
            clear hK' K'
            refine AW_cond false rfl (fun h => by cases h) (fun _ => ?_)
            refine AW_rg (tyOf_good _) [6, 7, 8, 11, 52, 98] [6, 30] (fun _ _ => trivial) fun K' hK' => ?_
            repeat (refine sxf_next fun K2 hK2 => ?_; simp [dNum, dB, rowB]; (repeat (refine ⟨by omega, ?_⟩)); refine hK2 _ ?_; clear hK2 K2)
            refine sxf_nil (hK' _ ?_)
            refine AW.st (by simp [dNum, dB, rowB]; rfl) ?_
            clear hK' K'
            refine AW_cond false rfl (fun h => by cases h) (fun _ => ?_)
            refine AW_rg (tyOf_good _) [6, 7, 8, 11, 52, 109] [6, 30] (fun _ _ => trivial) fun K' hK' => ?_
            repeat (refine sxf_next fun K2 hK2 => ?_; simp [dNum, dB, rowB]; (repeat (refine ⟨by omega, ?_⟩)); refine hK2 _ ?_; clear hK2 K2)
            refine sxf_nil (hK' _ ?_)
            refine AW.st (by simp [dNum, dB, rowB]; rfl) ?_
            clear hK' K'
            refine AW_cond false rfl (fun h => by cases h) (fun _ => ?_)
            refine AW_rg (tyOf_good _) [6, 7, 8, 11, 52, 127] [6, 30] (fun _ _ => trivial) fun K' hK' => ?_
            repeat (refine sxf_next fun K2 hK2 => ?_; simp [dNum, dB, rowB]; (repeat (refine ⟨by omega, ?_⟩)); refine hK2 _ ?_; clear hK2 K2)
            refine sxf_nil (hK' _ ?_)
            refine AW.st (by simp [dNum, dB, rowB]; rfl) ?_
            clear hK' K'
            refine AW_cond false rfl (fun h => by cases h) (fun _ => ?_)
            refine AW_rg (tyOf_good _) [6, 7, 8, 11, 52, 152] [6, 30] (fun _ _ => trivial) fun K' hK' => ?_
            repeat (refine sxf_next fun K2 hK2 => ?_; simp [dNum, dB, rowB]; (repeat (refine ⟨by omega, ?_⟩)); refine hK2 _ ?_; clear hK2 K2)
            refine sxf_nil (hK' _ ?_)
            refine AW.st (by simp [dNum, dB, rowB]; rfl) ?_
            clear hK' K'
            refine AW_cond false rfl (fun h => by cases h) (fun _ => ?_)
            refine AW_rg (tyOf_good _) [6, 7, 8, 11, 52, 177] [6, 30] (fun _ _ => trivial) fun K' hK' => ?_
            repeat (refine sxf_next fun K2 hK2 => ?_; simp [dNum, dB, rowB]; (repeat (refine ⟨by omega, ?_⟩)); refine hK2 _ ?_; clear hK2 K2)
            refine sxf_nil (hK' _ ?_)
            refine AW.st (by simp [dNum, dB, rowB]; rfl) ?_
            clear hK' K'
            refine AW_cond false rfl (fun h => by cases h) (fun _ => ?_)
            refine AW_rg (tyOf_good _) [6, 8, 11, 52, 196] [6, 30] (fun _ _ => trivial) fun K' hK' => ?_
            repeat (refine sxf_next fun K2 hK2 => ?_; simp [dNum, dB, rowB]; (repeat (refine ⟨by omega, ?_⟩)); refine hK2 _ ?_; clear hK2 K2)
            refine sxf_nil (hK' _ ?_)
            refine AW.st (by simp [dNum, dB, rowB]; rfl) ?_
            clear hK' K'
            refine AW_cond false rfl (fun h => by cases h) (fun _ => ?_)
            refine AW_rg (tyOf_good _) [6, 8, 11, 52, 201] [6, 30] (fun _ _ => trivial) fun K' hK' => ?_
            repeat (refine sxf_next fun K2 hK2 => ?_; simp [dNum, dB, rowB]; (repeat (refine ⟨by omega, ?_⟩)); refine hK2 _ ?_; clear hK2 K2)
            refine sxf_nil (hK' _ ?_)
            refine AW.st (by simp [dNum, dB, rowB]; rfl) ?_
            clear hK' K'
            refine AW_cond false rfl (fun h => by cases h) (fun _ => ?_)
            refine AW_rg (tyOf_good _) [6, 8, 11, 52, 206] [6, 30] (fun _ _ => trivial) fun K' hK' => ?_
            repeat (refine sxf_next fun K2 hK2 => ?_; simp [dNum, dB, rowB]; (repeat (refine ⟨by omega, ?_⟩)); refine hK2 _ ?_; clear hK2 K2)
            refine sxf_nil (hK' _ ?_)
            refine AW.st (by simp [dNum, dB, rowB]; rfl) ?_
            clear hK' K'
            refine AW_cond false rfl (fun h => by cases h) (fun _ => ?_)
            refine AW_rg (tyOf_good _) [6, 8, 11, 211] [6, 30] (fun _ _ => trivial) fun K' hK' => ?_
            repeat (refine sxf_next fun K2 hK2 => ?_; simp [dNum, dB, rowB]; (repeat (refine ⟨by omega, ?_⟩)); refine hK2 _ ?_; clear hK2 K2)
            refine sxf_nil (hK' _ ?_)
            refine AW.st (by simp [dNum, dB, rowB]; rfl) ?_
            clear hK' K'
            refine AW_cond true rfl (fun _ => ?_) (fun h => by cases h)
            refine AW_re (tyOf_good _) fun K' hK' => ?_
            repeat (refine sxf_next fun K2 hK2 => ?_; simp [dNum, dB, rowB, rowB, List.map_const', dOf, dBs]; (repeat (refine ⟨by omega, ?_⟩)); refine hK2 _ ?_; clear hK2 K2)
            refine sxf_next fun K2 hK2 => ?_
            simp [dNum, dB, rowB, rowB, List.map_const', dOf, dBs]
            refine callK.mc (hfx) (by simp [dNum, dB, rowB, rowB, List.map_const', dOf, dBs]) (by simp [dNum, dB, rowB, rowB, List.map_const', dOf, dBs]) (by simp [dNum, dB, rowB, rowB, List.map_const', dOf, dBs]) (by simp [dNum, dB, rowB, rowB, List.map_const', dOf, dBs]) ?_
            simp [dNum, dB, rowB, rowB, List.map_const', dOf, dBs]
            refine hK2 _ ?_
            clear hK2 K2
            repeat (refine sxf_next fun K2 hK2 => ?_; simp [dNum, dB, rowB, rowB, List.map_const', dOf, dBs]; (repeat (refine ⟨by omega, ?_⟩)); refine hK2 _ ?_; clear hK2 K2)
            refine sxf_nil (hK' _ ?_)
            clear hK' K'
            refine hK4 _ (AW.norm [6] [6, 30] (fun _ _ => trivial) (AW.st (by simp [dNum, dB, rowB, rowB, List.map_const', dOf, dBs]; rfl) ?_))
            refine AW_rg (tyOf_good _) [4] [30] (fun _ _ => trivial) fun K' hK' => ?_
            repeat (refine sxf_next fun K2 hK2 => ?_; simp [dNum, dB, rowB]; (repeat (refine ⟨by omega, ?_⟩)); refine hK2 _ ?_; clear hK2 K2)
            refine sxf_nil (hK' _ ?_)
            refine AW.st (by simp [dNum, dB, rowB]; rfl) ?_
            clear hK' K'
            refine AW_ret ?_
            simp [D.le, D.le.go, takeMap, dNum, dB, rowB, dBs, List.map_map, Function.comp_def, hofe, take_range_map]
#print axioms holds_spec
end Go.Proofs.YtoikggboakojlaaDoor

/-
  Words that may be: lasso.Check; lasso.Holds.
-/
namespace Go.Proofs.YtoikggboakojlaaDoor
set_option linter.unusedSimpArgs false
set_option linter.unusedVariables false
open Go.Av

def okTimes (X : Times) : Bool := X.all fun t => t.all nameF
/-- What is wrong with a word. -/
def wordE (a r : Times) : Int := if r.length < 1 ∨ 60 < a.length + r.length then 4 else if okTimes a && okTimes r then 0 else 5
/-- No more than a program may reach. -/
structure Small (a r : Times) : Prop where
  len : a.length + r.length < 2^60
  times : ∀ t ∈ a ++ r, t.length < 2^60
  names : ∀ t ∈ a ++ r, ∀ s ∈ t, s.length < 2^60

theorem okTimes_bad {X : Times} {i m : Nat} (hi : i < X.length) (hm : m < X[i].length) (h : nameF X[i][m] = false) : okTimes X = false := by
  cases hk : okTimes X with
  | false => rfl
  | true =>
    unfold okTimes at hk
    have h1 := List.all_eq_true.1 (List.all_eq_true.1 hk _ (List.getElem_mem hi)) _ (List.getElem_mem hm)
    rw [h] at h1
    cases h1

set_option maxHeartbeats 8000000 in
theorem wcheck_spec (G : Glob) (a r : Times) (hs : Small a r) : PureC Tryd.prog G 46 [dW a r] (dErr (errOf (wordE a r))) := by
  have hsl := hs.len
  have hst := hs.times
  have hsn := hs.names
  by_cases h1 : (r.length : Int) < 1
  · have hw : wordE a r = 4 := by unfold wordE; rw [if_pos (.inl (by omega))]
    rw [hw]
    refine PureC.of_body (tyOf_good _) Tryd.func46 rfl rfl (rs := [.tmp 2]) Tryd.results46 (by simp [Tryd.ntmps46]) fun X => ?_
    simp only [Tryd.ntmps46, List.map]
    refine AW_rg (tyOf_good _) [1] [1] (fun _ _ => trivial) fun K' hK' => ?_
    repeat (refine sxf_next fun K2 hK2 => ?_; simp [dNum, dW]; (repeat (refine ⟨by omega, ?_⟩)); refine hK2 _ ?_; clear hK2 K2)
    refine sxf_nil (hK' _ ?_)
    refine AW.st (by simp [dNum, dW]; rfl) ?_
    clear hK' K'
    refine AW_then fun K1 hK1 => ?_
    refine AW_rg (tyOf_good _) [1, 22] [1] (fun _ _ => trivial) fun K' hK' => ?_
    repeat (refine sxf_next fun K2 hK2 => ?_; simp [dNum, dTimes, h1]; (repeat (refine ⟨by omega, ?_⟩)); refine hK2 _ ?_; clear hK2 K2)
    refine sxf_nil (hK' _ ?_)
    refine AW.st (by simp [dNum, dTimes, h1]; rfl) ?_
    clear hK' K'
    refine AW_cond true rfl (fun _ => ?_) (fun h => by cases h)
    refine AW_rg (tyOf_good _) [2] [] (fun _ _ => trivial) fun K' hK' => ?_
    repeat (refine sxf_next fun K2 hK2 => ?_; simp [dNum]; (repeat (refine ⟨by omega, ?_⟩)); refine hK2 _ ?_; clear hK2 K2)
    refine sxf_nil (hK' _ ?_)
    refine AW.st (by simp [dNum]; rfl) ?_
    clear hK' K'
    refine AW_ret ?_
    simp [D.le, D.le.go, takeMap, dNum, dErr, errOf]
  by_cases h2 : (60 : Int) < (a.length : Int) + r.length
  · have hw : wordE a r = 4 := by unfold wordE; rw [if_pos (.inr (by omega))]
    rw [hw]
    refine PureC.of_body (tyOf_good _) Tryd.func46 rfl rfl (rs := [.tmp 2]) Tryd.results46 (by simp [Tryd.ntmps46]) fun X => ?_
    simp only [Tryd.ntmps46, List.map]
    refine AW_rg (tyOf_good _) [1] [1] (fun _ _ => trivial) fun K' hK' => ?_
    repeat (refine sxf_next fun K2 hK2 => ?_; simp [dNum, dW]; (repeat (refine ⟨by omega, ?_⟩)); refine hK2 _ ?_; clear hK2 K2)
    refine sxf_nil (hK' _ ?_)
    refine AW.st (by simp [dNum, dW]; rfl) ?_
    clear hK' K'
    refine AW_then fun K1 hK1 => ?_
    refine AW_rg (tyOf_good _) [1, 22] [1] (fun _ _ => trivial) fun K' hK' => ?_
    repeat (refine sxf_next fun K2 hK2 => ?_; simp [dNum, dTimes, h1, h2]; (repeat (refine ⟨by omega, ?_⟩)); refine hK2 _ ?_; clear hK2 K2)
    refine sxf_nil (hK' _ ?_)
    refine AW.st (by simp [dNum, dTimes, h1, h2]; rfl) ?_
    clear hK' K'
    refine AW_cond true rfl (fun _ => ?_) (fun h => by cases h)
    refine AW_rg (tyOf_good _) [2] [] (fun _ _ => trivial) fun K' hK' => ?_
    repeat (refine sxf_next fun K2 hK2 => ?_; simp [dNum]; (repeat (refine ⟨by omega, ?_⟩)); refine hK2 _ ?_; clear hK2 K2)
    refine sxf_nil (hK' _ ?_)
    refine AW.st (by simp [dNum]; rfl) ?_
    clear hK' K'
    refine AW_ret ?_
    simp [D.le, D.le.go, takeMap, dNum, dErr, errOf]
  have hw : wordE a r = if okTimes a && okTimes r then 0 else 5 := by unfold wordE; rw [if_neg (by omega)]
  have hP : ∀ p (h : p < [a, r].length), ∀ t ∈ [a, r][p], t ∈ a ++ r := fun p h t ht => by
    match p, h with
    | 0, _ => exact List.mem_append_left _ ht
    | 1, _ => exact List.mem_append_right _ ht
  have hPl : ∀ p (h : p < [a, r].length), [a, r][p].length < 2^60 := fun p h => by
    match p, h with
    | 0, _ => show a.length < _; omega
    | 1, _ => show r.length < _; omega
  have hbad : ∀ p (h : p < [a, r].length), okTimes [a, r][p] = false → wordE a r = 5 := fun p h hb => by
    rw [hw]
    match p, h with
    | 0, _ => rw [show okTimes a = false from hb]; rfl
    | 1, _ => rw [show okTimes r = false from hb, Bool.and_false]; rfl
  have hgood : (∀ p (h : p < [a, r].length), okTimes [a, r][p] = true) → wordE a r = 0 := fun h => by
    rw [hw, show okTimes a = true from h 0 (by simp), show okTimes r = true from h 1 (by simp)]; rfl
  refine PureC.of_body (tyOf_good _) Tryd.func46 rfl rfl (rs := [.tmp 2]) Tryd.results46 (by simp [Tryd.ntmps46]) fun X => ?_
  simp only [Tryd.ntmps46, List.map]
  refine AW_rg (tyOf_good _) [1] [1] (fun _ _ => trivial) fun K' hK' => ?_
  repeat (refine sxf_next fun K2 hK2 => ?_; simp [dNum, dW]; (repeat (refine ⟨by omega, ?_⟩)); refine hK2 _ ?_; clear hK2 K2)
  refine sxf_nil (hK' _ ?_)
  refine AW.st (by simp [dNum, dW]; rfl) ?_
  clear hK' K'
  refine AW_then fun K1 hK1 => ?_
  refine AW_rg (tyOf_good _) [1, 22] [1] (fun _ _ => trivial) fun K' hK' => ?_
  repeat (refine sxf_next fun K2 hK2 => ?_; simp [dNum, dTimes, h1, h2]; (repeat (refine ⟨by omega, ?_⟩)); refine hK2 _ ?_; clear hK2 K2)
  refine sxf_nil (hK' _ ?_)
  refine AW.st (by simp [dNum, dTimes, h1, h2]; rfl) ?_
  clear hK' K'
  refine AW_cond false rfl (fun h => by cases h) (fun _ => ?_)
  refine AW_skip (hK1 _ ?_)
  refine AW_then fun K2 hK2 => ?_
  refine AW_rg (tyOf_good _) [28, 29, 30] [28] (fun _ _ => trivial) fun K' hK' => ?_
  repeat (refine sxf_next fun K2 hK2 => ?_; simp [dNum, dTimes]; (repeat (refine ⟨by omega, ?_⟩)); refine hK2 _ ?_; clear hK2 K2)
  refine sxf_nil (hK' _ ?_)
  refine AW.st (by simp [dNum, dTimes]; rfl) ?_
  clear hK' K'
  refine AW.imp (Imp.freeze 28 trivial) ?_
  refine AW.st (by simp [dNum]; rfl) ?_
  refine AW.st (show _ = (⟨lst [(28, .d (.sl none ([a, r].map fun X => [dTimes X]))), (29, int ([a, r].length : Nat)), (30, int (0 : Nat))], hlst []⟩ : St) by simp [dTimes]) ?_
  have hPn : [a, r].length ≤ 2 := by simp
  generalize [a, r] = Ps at hP hPl hbad hgood hPn
  refine AW_for (S := Nat) (fun p => p ≤ Ps.length ∧ ∀ q (h : q < Ps.length), q < p → okTimes Ps[q] = true) (fun p => ⟨lst [(28, .d (.sl none (Ps.map fun X => [dTimes X]))), (29, int Ps.length), (30, int p)], hlst []⟩) (fun p => Ps.length - p) 0 ?_ ⟨Nat.zero_le _, fun q h hq => by omega⟩ ?_
  · refine Imp.to' (fun _ _ => trivial) (by simp [dNum, dTimes]) (by simp [dNum, dTimes])
  · rintro p ⟨hp, hpo⟩
    refine AW_rg (tyOf_good _) [28, 29, 30, 31] [] (fun _ _ => trivial) fun K' hK' => ?_
    repeat (refine sxf_next fun K2 hK2 => ?_; simp [dNum]; (repeat (refine ⟨by omega, ?_⟩)); refine hK2 _ ?_; clear hK2 K2)
    refine sxf_nil (hK' _ ?_)
    refine AW.st (by simp [dNum]; rfl) ?_
    clear hK' K'
    refine AW_then fun K3 hK3 => ?_
    refine AW_cond' (b := p < Ps.length) (by simp [D.le, D.le.go, takeMap, dNum]) (fun hc => ?_) (fun hc => ?_)
    · have hpl : p < Ps.length := hc
      have hX := hP p hpl
      have hXl := hPl p hpl
      have hXb := hbad p hpl
      refine AW_skip (hK3 _ ?_)
      refine AW_then fun K4 hK4 => ?_
      refine AW_block ?_
      refine AW_rg (tyOf_good _) [4, 28, 29, 30] [] (fun _ _ => trivial) fun K' hK' => ?_
      repeat (refine sxf_next fun K2 hK2 => ?_; simp [dNum, dTimes, hpl]; (repeat (refine ⟨by omega, ?_⟩)); refine hK2 _ ?_; clear hK2 K2)
      refine sxf_nil (hK' _ ?_)
      refine AW.st (by simp [dNum, dTimes, hpl]; rfl) ?_
      clear hK' K'
      refine AW_rg (tyOf_good _) [28, 29, 30, 34, 35, 36] [] (fun _ _ => trivial) fun K' hK' => ?_
      repeat (refine sxf_next fun K2 hK2 => ?_; simp [dNum]; (repeat (refine ⟨by omega, ?_⟩)); refine hK2 _ ?_; clear hK2 K2)
      refine sxf_nil (hK' _ ?_)
      refine AW.st (by simp [dNum]; rfl) ?_
      clear hK' K'
      generalize hXe : Ps[p] = X at hX hXl hXb
      refine AW_for (S := Nat) (fun i => i ≤ X.length ∧ ∀ q (h : q < X.length), q < i → X[q].all nameF = true) (fun i => ⟨lst [(28, .d (.sl none (Ps.map fun X => [dTimes X]))), (29, int Ps.length), (30, int p), (34, .d (dTimes X)), (35, int X.length), (36, int i)], hlst []⟩) (fun i => X.length - i) 0 ?_ ⟨Nat.zero_le _, fun q h hq => by omega⟩ ?_
      · refine Imp.to' (fun _ _ => trivial) (by simp [dNum, dTimes]) (by simp [dNum, dTimes])
      · rintro i ⟨hi, hio⟩
        refine AW_rg (tyOf_good _) [28, 29, 30, 34, 35, 36, 37] [] (fun _ _ => trivial) fun K' hK' => ?_
        repeat (refine sxf_next fun K2 hK2 => ?_; simp [dNum, dTimes]; (repeat (refine ⟨by omega, ?_⟩)); refine hK2 _ ?_; clear hK2 K2)
        refine sxf_nil (hK' _ ?_)
        refine AW.st (by simp [dNum, dTimes]; rfl) ?_
        clear hK' K'
        refine AW_then fun K5 hK5 => ?_
        refine AW_cond' (b := i < X.length) (by simp [D.le, D.le.go, takeMap, dNum]) (fun hc => ?_) (fun hc => ?_)
        · have hil : i < X.length := hc
          have ht1 := hst _ (hX _ (List.getElem_mem hil))
          have ht2 := hsn _ (hX _ (List.getElem_mem hil))
          have ht3 : ∀ m (hm : m < X[i].length), nameF X[i][m] = false → wordE a r = 5 := fun m hm h => hXb (okTimes_bad hil hm h)
          refine AW_skip (hK5 _ ?_)
          refine AW_then fun K6 hK6 => ?_
          refine AW_block ?_
          refine AW_rg (tyOf_good _) [6, 28, 29, 30, 34, 35, 36] [] (fun _ _ => trivial) fun K' hK' => ?_
          repeat (refine sxf_next fun K2 hK2 => ?_; simp [dNum, dTimes, dNames, hil]; (repeat (refine ⟨by omega, ?_⟩)); refine hK2 _ ?_; clear hK2 K2)
          refine sxf_nil (hK' _ ?_)
          refine AW.st (by simp [dNum, dTimes, dNames, hil]; rfl) ?_
          clear hK' K'
          refine AW_rg (tyOf_good _) [28, 29, 30, 34, 35, 36, 40, 41, 42] [] (fun _ _ => trivial) fun K' hK' => ?_
          repeat (refine sxf_next fun K2 hK2 => ?_; simp [dNum]; (repeat (refine ⟨by omega, ?_⟩)); refine hK2 _ ?_; clear hK2 K2)
          refine sxf_nil (hK' _ ?_)
          refine AW.st (by simp [dNum]; rfl) ?_
          clear hK' K'
          generalize hte : X[i] = t at ht1 ht2 ht3
          refine AW_for (S := Nat) (fun m => m ≤ t.length ∧ ∀ q (h : q < t.length), q < m → nameF t[q] = true) (fun m => ⟨lst [(28, .d (.sl none (Ps.map fun X => [dTimes X]))), (29, int Ps.length), (30, int p), (34, .d (dTimes X)), (35, int X.length), (36, int i), (40, .d (dNames t)), (41, int t.length), (42, int m)], hlst []⟩) (fun m => t.length - m) 0 ?_ ⟨Nat.zero_le _, fun q h hq => by omega⟩ ?_
          · refine Imp.to' (fun _ _ => trivial) (by simp [dNum, dTimes, dNames]) (by simp [dNum, dTimes, dNames])
          · rintro m ⟨hm, hmo⟩
            refine AW_rg (tyOf_good _) [28, 29, 30, 34, 35, 36, 40, 41, 42, 43] [] (fun _ _ => trivial) fun K' hK' => ?_
            repeat (refine sxf_next fun K2 hK2 => ?_; simp [dNum, dNames]; (repeat (refine ⟨by omega, ?_⟩)); refine hK2 _ ?_; clear hK2 K2)
            refine sxf_nil (hK' _ ?_)
            refine AW.st (by simp [dNum, dNames]; rfl) ?_
            clear hK' K'
            refine AW_then fun K7 hK7 => ?_
            refine AW_cond' (b := m < t.length) (by simp [D.le, D.le.go, takeMap, dNum]) (fun hc => ?_) (fun hc => ?_)
            · have hml : m < t.length := hc
              have hname := name_spec G t[m] (ht2 _ (List.getElem_mem hml))
              have hnb := ht3 m hml
              refine AW_skip (hK7 _ ?_)
              refine AW_then fun K8 hK8 => ?_
              refine AW_block ?_
              refine AW_rg (tyOf_good _) [8, 28, 29, 30, 34, 35, 36, 40, 41, 42] [] (fun _ _ => trivial) fun K' hK' => ?_
              repeat (refine sxf_next fun K2 hK2 => ?_; simp [dNum, dNames, hml, dS]; (repeat (refine ⟨by omega, ?_⟩)); refine hK2 _ ?_; clear hK2 K2)
              refine sxf_nil (hK' _ ?_)
              refine AW.st (by simp [dNum, dNames, hml, dS]; rfl) ?_
              clear hK' K'
              cases hn : nameF t[m] with
              | false =>
                rw [hn] at hname
                refine AW_rg (tyOf_good _) [28, 29, 30, 34, 35, 36, 40, 41, 42, 48] [] (fun _ _ => trivial) fun K' hK' => ?_
                repeat (refine sxf_next fun K2 hK2 => ?_; simp [dNum, dS]; (repeat (refine ⟨by omega, ?_⟩)); refine hK2 _ ?_; clear hK2 K2)
                refine sxf_next fun K2 hK2 => ?_
                simp [dNum, dS]
                refine callK.data (hname) (by simp; rfl) (by first | exact D.leGo_refl _ | simp [takeMap, List.map_map, Function.comp_def, D.le, D.le.go, D.le_refl, D.leGo_refl, dNum, dS]) ?_
                refine hK2 _ ?_
                clear hK2 K2
                simp only [putd, upd_lst]
                repeat (refine sxf_next fun K2 hK2 => ?_; simp [dNum, dS]; (repeat (refine ⟨by omega, ?_⟩)); refine hK2 _ ?_; clear hK2 K2)
                refine sxf_nil (hK' _ ?_)
                refine AW.st (by simp [dNum, dS]; rfl) ?_
                clear hK' K'
                refine AW_cond true rfl (fun _ => ?_) (fun h => by cases h)
                refine AW_rg (tyOf_good _) [2] [] (fun _ _ => trivial) fun K' hK' => ?_
                repeat (refine sxf_next fun K2 hK2 => ?_; simp [dNum]; (repeat (refine ⟨by omega, ?_⟩)); refine hK2 _ ?_; clear hK2 K2)
                refine sxf_nil (hK' _ ?_)
                refine AW.st (by simp [dNum]; rfl) ?_
                clear hK' K'
                rw [hnb hn]
                refine AW_ret ?_
                simp [D.le, D.le.go, takeMap, dNum, dErr, errOf]
              | true =>
                rw [hn] at hname
                refine AW_rg (tyOf_good _) [28, 29, 30, 34, 35, 36, 40, 41, 42, 48] [] (fun _ _ => trivial) fun K' hK' => ?_
                repeat (refine sxf_next fun K2 hK2 => ?_; simp [dNum, dS]; (repeat (refine ⟨by omega, ?_⟩)); refine hK2 _ ?_; clear hK2 K2)
                refine sxf_next fun K2 hK2 => ?_
                simp [dNum, dS]
                refine callK.data (hname) (by simp; rfl) (by first | exact D.leGo_refl _ | simp [takeMap, List.map_map, Function.comp_def, D.le, D.le.go, D.le_refl, D.leGo_refl, dNum, dS]) ?_
                refine hK2 _ ?_
                clear hK2 K2
                simp only [putd, upd_lst]
                repeat (refine sxf_next fun K2 hK2 => ?_; simp [dNum, dS]; (repeat (refine ⟨by omega, ?_⟩)); refine hK2 _ ?_; clear hK2 K2)
                refine sxf_nil (hK' _ ?_)
                refine AW.st (by simp [dNum, dS]; rfl) ?_
                clear hK' K'
                refine AW_cond false rfl (fun h => by cases h) (fun _ => ?_)
                refine AW_skip ?_
                refine hK8 _ (AW.norm [28, 29, 30, 34, 35, 36, 40, 41, 42] [] (fun _ _ => trivial) (AW.st (by simp [dNum]; rfl) ?_))
                refine AW_re (tyOf_good _) fun K' hK' => ?_
                repeat (refine sxf_next fun K2 hK2 => ?_; simp [dNum]; (repeat (refine ⟨by omega, ?_⟩)); refine hK2 _ ?_; clear hK2 K2)
                refine sxf_nil (hK' _ ?_)
                clear hK' K'
                try simp only [thn, inb]
                refine Again.mk (m + 1) ⟨by omega, fun q h hq => ?_⟩ (by omega) ?_
                · by_cases e : q = m
                  · subst e; exact hn
                  · exact hmo q h (by omega)
                refine Imp.to' (fun _ _ => trivial) (by simp [dNum, dTimes, dNames, dS]) (by simp [dNum, dTimes, dNames, dS])
            · obtain rfl : m = t.length := by omega
              refine AW_exit (hK6 _ ?_)
              refine AW_re (tyOf_good _) fun K' hK' => ?_
              repeat (refine sxf_next fun K2 hK2 => ?_; simp [dNum]; (repeat (refine ⟨by omega, ?_⟩)); refine hK2 _ ?_; clear hK2 K2)
              refine sxf_nil (hK' _ ?_)
              clear hK' K'
              try simp only [thn, inb]
              refine Again.mk (i + 1) ⟨by omega, fun q h hq => ?_⟩ (by omega) ?_
              · by_cases e : q = i
                · subst e
                  rw [hte]
                  refine List.all_eq_true.2 fun x hx => ?_
                  obtain ⟨j, hj, rfl⟩ := List.getElem_of_mem hx
                  exact hmo j hj hj
                · exact hio q h (by omega)
              refine Imp.to' (fun _ _ => trivial) (by simp [dNum, dTimes, dNames]) (by simp [dNum, dTimes, dNames])
        · obtain rfl : i = X.length := by omega
          refine AW_exit (hK4 _ ?_)
          refine AW_re (tyOf_good _) fun K' hK' => ?_
          repeat (refine sxf_next fun K2 hK2 => ?_; simp [dNum]; (repeat (refine ⟨by omega, ?_⟩)); refine hK2 _ ?_; clear hK2 K2)
          refine sxf_nil (hK' _ ?_)
          clear hK' K'
          try simp only [thn, inb]
          refine Again.mk (p + 1) ⟨by omega, fun q h hq => ?_⟩ (by omega) ?_
          · by_cases e : q = p
            · subst e
              rw [hXe]
              refine List.all_eq_true.2 fun x hx => ?_
              obtain ⟨j, hj, rfl⟩ := List.getElem_of_mem hx
              exact hio j hj hj
            · exact hpo q h (by omega)
          refine Imp.to' (fun _ _ => trivial) (by simp [dNum, dTimes, dNames]) (by simp [dNum, dTimes, dNames])
    · obtain rfl : p = Ps.length := by omega
      refine AW_exit (hK2 _ ?_)
      refine AW_rg (tyOf_good _) [2] [] (fun _ _ => trivial) fun K' hK' => ?_
      repeat (refine sxf_next fun K2 hK2 => ?_; simp [dNum]; (repeat (refine ⟨by omega, ?_⟩)); refine hK2 _ ?_; clear hK2 K2)
      refine sxf_nil (hK' _ ?_)
      refine AW.st (by simp [dNum]; rfl) ?_
      clear hK' K'
      rw [hgood fun q h => hpo q h h]
      refine AW_ret ?_
      simp [D.le, D.le.go, takeMap, dNum, dErr, errOf]

/-- What Holds tells. -/
def holdsE (a r : Times) (f : Fm) : Int := if wordE a r ≠ 0 then wordE a r else rightE f
theorem rightE_ok {f : Fm} (h : rightE f = 0) : (rightF 20 f).2 = 0 := by
  unfold rightE at h
  split at h
  · rename_i h1; exact absurd h h1
  · rename_i h1; exact Classical.not_not.1 h1
theorem Holds_bad (G : Glob) (hA : HasArity G) (a r : Times) (hs : Small a r) (f : Fm) (hf : namesOk f) (h : holdsE a r f ≠ 0) : PureC Tryd.prog G 40 [dW a r, dF f] (.tup [.sl (some false) [], dErr (errOf (holdsE a r f))]) := by
  have hc := wcheck_spec G a r hs
  have hr := Right_spec G hA f hf
  unfold holdsE at h ⊢
  by_cases hw : wordE a r = 0
  · rw [if_neg (by simp [hw])] at h ⊢
    rw [hw] at hc
    have e1 : errOf (rightE f) = some (rightE f, none) := by unfold errOf; rw [if_neg h]
    have e0 : errOf 0 = none := rfl
    rw [e1] at hr ⊢
    rw [e0] at hc
    refine PureC.of_body (tyOf_good _) Tryd.func40 rfl rfl (rs := [.tmp 4, .tmp 5]) Tryd.results40 (by simp [Tryd.ntmps40]) fun X => ?_
    simp only [Tryd.ntmps40, List.map]
    refine AW_rg (tyOf_good _) [1, 2] [2] (fun _ _ => trivial) fun K' hK' => ?_
    repeat (refine sxf_next fun K2 hK2 => ?_; simp [dNum, dErr, dW]; (repeat (refine ⟨by omega, ?_⟩)); refine hK2 _ ?_; clear hK2 K2)
    refine sxf_nil (hK' _ ?_)
    refine AW.st (by simp [dNum, dErr, dW]; rfl) ?_
    clear hK' K'
    refine AW_then fun K1 hK1 => ?_
    refine AW_rg (tyOf_good _) [1, 2, 6] [2] (fun _ _ => trivial) fun K' hK' => ?_
    repeat (refine sxf_next fun K2 hK2 => ?_; simp [dNum, dErr, dW]; (repeat (refine ⟨by omega, ?_⟩)); refine hK2 _ ?_; clear hK2 K2)
    refine sxf_next fun K2 hK2 => ?_
    simp [dNum, dErr, dW]
    refine callK.data (hc) (by simp; rfl) (by first | exact D.leGo_refl _ | simp [takeMap, List.map_map, Function.comp_def, D.le, D.le.go, D.le_refl, D.leGo_refl, dNum, dErr, dW]) ?_
    refine hK2 _ ?_
    clear hK2 K2
    simp only [putd, upd_lst]
    repeat (refine sxf_next fun K2 hK2 => ?_; simp [dNum, dErr, dW]; (repeat (refine ⟨by omega, ?_⟩)); refine hK2 _ ?_; clear hK2 K2)
    refine sxf_nil (hK' _ ?_)
    refine AW.st (by simp [dNum, dErr, dW]; rfl) ?_
    clear hK' K'
    refine AW_rg (tyOf_good _) [1, 2, 6, 11] [2] (fun _ _ => trivial) fun K' hK' => ?_
    repeat (refine sxf_next fun K2 hK2 => ?_; simp [dNum, dErr]; (repeat (refine ⟨by omega, ?_⟩)); refine hK2 _ ?_; clear hK2 K2)
    refine sxf_nil (hK' _ ?_)
    refine AW.st (by simp [dNum, dErr]; rfl) ?_
    clear hK' K'
    refine AW_cond false rfl (fun h => by cases h) (fun _ => ?_)
    refine AW_skip (hK1 _ ?_)
    refine AW_then fun K2 hK2 => ?_
    refine AW_rg (tyOf_good _) [1, 2, 7] [2] (fun _ _ => trivial) fun K' hK' => ?_
    repeat (refine sxf_next fun K2 hK2 => ?_; simp [dNum, dErr, dW]; (repeat (refine ⟨by omega, ?_⟩)); refine hK2 _ ?_; clear hK2 K2)
    refine sxf_next fun K2 hK2 => ?_
    simp [dNum, dErr, dW]
    refine callK.data (hr) (by simp; rfl) (by first | exact D.leGo_refl _ | simp [takeMap, List.map_map, Function.comp_def, D.le, D.le.go, D.le_refl, D.leGo_refl, dNum, dErr, dW]) ?_
    refine hK2 _ ?_
    clear hK2 K2
    simp only [putd, upd_lst]
    repeat (refine sxf_next fun K2 hK2 => ?_; simp [dNum, dErr, dW]; (repeat (refine ⟨by omega, ?_⟩)); refine hK2 _ ?_; clear hK2 K2)
    refine sxf_nil (hK' _ ?_)
    refine AW.st (by simp [dNum, dErr, dW]; rfl) ?_
    clear hK' K'
    refine AW_rg (tyOf_good _) [1, 2, 7, 16] [2] (fun _ _ => trivial) fun K' hK' => ?_
    repeat (refine sxf_next fun K2 hK2 => ?_; simp [dNum, dErr]; (repeat (refine ⟨by omega, ?_⟩)); refine hK2 _ ?_; clear hK2 K2)
    refine sxf_nil (hK' _ ?_)
    refine AW.st (by simp [dNum, dErr]; rfl) ?_
    clear hK' K'
    refine AW_cond true rfl (fun _ => ?_) (fun h => by cases h)
    refine AW_rg (tyOf_good _) [4, 5] [] (fun _ _ => trivial) fun K' hK' => ?_
    repeat (refine sxf_next fun K2 hK2 => ?_; simp [dNum, dErr]; (repeat (refine ⟨by omega, ?_⟩)); refine hK2 _ ?_; clear hK2 K2)
    refine sxf_nil (hK' _ ?_)
    refine AW.st (by simp [dNum, dErr]; rfl) ?_
    clear hK' K'
    refine AW_ret ?_
    simp [D.le, D.le.go, takeMap, dNum, dErr]
  · rw [if_pos hw] at h ⊢
    have e1 : errOf (wordE a r) = some (wordE a r, none) := by unfold errOf; rw [if_neg hw]
    rw [e1] at hc ⊢
    refine PureC.of_body (tyOf_good _) Tryd.func40 rfl rfl (rs := [.tmp 4, .tmp 5]) Tryd.results40 (by simp [Tryd.ntmps40]) fun X => ?_
    simp only [Tryd.ntmps40, List.map]
    refine AW_rg (tyOf_good _) [1, 2] [2] (fun _ _ => trivial) fun K' hK' => ?_
    repeat (refine sxf_next fun K2 hK2 => ?_; simp [dNum, dErr, dW]; (repeat (refine ⟨by omega, ?_⟩)); refine hK2 _ ?_; clear hK2 K2)
    refine sxf_nil (hK' _ ?_)
    refine AW.st (by simp [dNum, dErr, dW]; rfl) ?_
    clear hK' K'
    refine AW_then fun K1 hK1 => ?_
    refine AW_rg (tyOf_good _) [1, 2, 6] [2] (fun _ _ => trivial) fun K' hK' => ?_
    repeat (refine sxf_next fun K2 hK2 => ?_; simp [dNum, dErr, dW]; (repeat (refine ⟨by omega, ?_⟩)); refine hK2 _ ?_; clear hK2 K2)
    refine sxf_next fun K2 hK2 => ?_
    simp [dNum, dErr, dW]
    refine callK.data (hc) (by simp; rfl) (by first | exact D.leGo_refl _ | simp [takeMap, List.map_map, Function.comp_def, D.le, D.le.go, D.le_refl, D.leGo_refl, dNum, dErr, dW]) ?_
    refine hK2 _ ?_
    clear hK2 K2
    simp only [putd, upd_lst]
    repeat (refine sxf_next fun K2 hK2 => ?_; simp [dNum, dErr, dW]; (repeat (refine ⟨by omega, ?_⟩)); refine hK2 _ ?_; clear hK2 K2)
    refine sxf_nil (hK' _ ?_)
    refine AW.st (by simp [dNum, dErr, dW]; rfl) ?_
    clear hK' K'
    refine AW_rg (tyOf_good _) [1, 2, 6, 11] [2] (fun _ _ => trivial) fun K' hK' => ?_
    repeat (refine sxf_next fun K2 hK2 => ?_; simp [dNum, dErr]; (repeat (refine ⟨by omega, ?_⟩)); refine hK2 _ ?_; clear hK2 K2)
    refine sxf_nil (hK' _ ?_)
    refine AW.st (by simp [dNum, dErr]; rfl) ?_
    clear hK' K'
    refine AW_cond true rfl (fun _ => ?_) (fun h => by cases h)
    refine AW_rg (tyOf_good _) [4, 5] [] (fun _ _ => trivial) fun K' hK' => ?_
    repeat (refine sxf_next fun K2 hK2 => ?_; simp [dNum, dErr]; (repeat (refine ⟨by omega, ?_⟩)); refine hK2 _ ?_; clear hK2 K2)
    refine sxf_nil (hK' _ ?_)
    refine AW.st (by simp [dNum, dErr]; rfl) ?_
    clear hK' K'
    refine AW_ret ?_
    simp [D.le, D.le.go, takeMap, dNum, dErr]
theorem Holds_good (G : Glob) (hA : HasArity G) (a r : Times) (hs : Small a r) (f : Fm) (hf : namesOk f) (h : holdsE a r f = 0) : PureC Tryd.prog G 40 [dW a r, dF f] (.tup [dBs (holdsF a r f), .v .nilIface]) := by
  have hc := wcheck_spec G a r hs
  have hr := Right_spec G hA f hf
  unfold holdsE at h
  have hw : wordE a r = 0 := by
    apply Classical.byContradiction
    intro hw
    rw [if_pos hw] at h
    exact hw h
  rw [if_neg (by simp [hw])] at h
  rw [hw] at hc
  rw [h] at hr
  have hlen : 0 < r.length ∧ a.length + r.length ≤ 60 := by
    unfold wordE at hw
    split at hw
    · cases hw
    · omega
  have hh := holds_spec G a r hlen.1 (by omega) (fun t ht => by have := hs.times t ht; omega) 20 f (rightE_ok h) hf
  have e0 : errOf 0 = none := rfl
  rw [e0] at hc hr
  refine PureC.of_body (tyOf_good _) Tryd.func40 rfl rfl (rs := [.tmp 4, .tmp 5]) Tryd.results40 (by simp [Tryd.ntmps40]) fun X => ?_
  simp only [Tryd.ntmps40, List.map]
  refine AW_rg (tyOf_good _) [1, 2] [2] (fun _ _ => trivial) fun K' hK' => ?_
  repeat (refine sxf_next fun K2 hK2 => ?_; simp [dNum, dErr, dW]; (repeat (refine ⟨by omega, ?_⟩)); refine hK2 _ ?_; clear hK2 K2)
  refine sxf_nil (hK' _ ?_)
  refine AW.st (by simp [dNum, dErr, dW]; rfl) ?_
  clear hK' K'
  refine AW_then fun K1 hK1 => ?_
  refine AW_rg (tyOf_good _) [1, 2, 6] [2] (fun _ _ => trivial) fun K' hK' => ?_
  repeat (refine sxf_next fun K2 hK2 => ?_; simp [dNum, dErr, dW]; (repeat (refine ⟨by omega, ?_⟩)); refine hK2 _ ?_; clear hK2 K2)
  refine sxf_next fun K2 hK2 => ?_
  simp [dNum, dErr, dW]
  refine callK.data (hc) (by simp; rfl) (by first | exact D.leGo_refl _ | simp [takeMap, List.map_map, Function.comp_def, D.le, D.le.go, D.le_refl, D.leGo_refl, dNum, dErr, dW]) ?_
  refine hK2 _ ?_
  clear hK2 K2
  simp only [putd, upd_lst]
  repeat (refine sxf_next fun K2 hK2 => ?_; simp [dNum, dErr, dW]; (repeat (refine ⟨by omega, ?_⟩)); refine hK2 _ ?_; clear hK2 K2)
  refine sxf_nil (hK' _ ?_)
  refine AW.st (by simp [dNum, dErr, dW]; rfl) ?_
  clear hK' K'
  refine AW_rg (tyOf_good _) [1, 2, 6, 11] [2] (fun _ _ => trivial) fun K' hK' => ?_
  repeat (refine sxf_next fun K2 hK2 => ?_; simp [dNum, dErr]; (repeat (refine ⟨by omega, ?_⟩)); refine hK2 _ ?_; clear hK2 K2)
  refine sxf_nil (hK' _ ?_)
  refine AW.st (by simp [dNum, dErr]; rfl) ?_
  clear hK' K'
  refine AW_cond false rfl (fun h => by cases h) (fun _ => ?_)
  refine AW_skip (hK1 _ ?_)
  refine AW_then fun K2 hK2 => ?_
  refine AW_rg (tyOf_good _) [1, 2, 7] [2] (fun _ _ => trivial) fun K' hK' => ?_
  repeat (refine sxf_next fun K2 hK2 => ?_; simp [dNum, dErr, dW]; (repeat (refine ⟨by omega, ?_⟩)); refine hK2 _ ?_; clear hK2 K2)
  refine sxf_next fun K2 hK2 => ?_
  simp [dNum, dErr, dW]
  refine callK.data (hr) (by simp; rfl) (by first | exact D.leGo_refl _ | simp [takeMap, List.map_map, Function.comp_def, D.le, D.le.go, D.le_refl, D.leGo_refl, dNum, dErr, dW]) ?_
  refine hK2 _ ?_
  clear hK2 K2
  simp only [putd, upd_lst]
  repeat (refine sxf_next fun K2 hK2 => ?_; simp [dNum, dErr, dW]; (repeat (refine ⟨by omega, ?_⟩)); refine hK2 _ ?_; clear hK2 K2)
  refine sxf_nil (hK' _ ?_)
  refine AW.st (by simp [dNum, dErr, dW]; rfl) ?_
  clear hK' K'
  refine AW_rg (tyOf_good _) [1, 2, 7, 16] [2] (fun _ _ => trivial) fun K' hK' => ?_
  repeat (refine sxf_next fun K2 hK2 => ?_; simp [dNum, dErr]; (repeat (refine ⟨by omega, ?_⟩)); refine hK2 _ ?_; clear hK2 K2)
  refine sxf_nil (hK' _ ?_)
  refine AW.st (by simp [dNum, dErr]; rfl) ?_
  clear hK' K'
  refine AW_cond false rfl (fun h => by cases h) (fun _ => ?_)
  refine AW_skip (hK2 _ ?_)
  refine AW_rg (tyOf_good _) [4, 5] [] (fun _ _ => trivial) fun K' hK' => ?_
  repeat (refine sxf_next fun K2 hK2 => ?_; simp [dNum, dErr, dW]; (repeat (refine ⟨by omega, ?_⟩)); refine hK2 _ ?_; clear hK2 K2)
  refine sxf_next fun K2 hK2 => ?_
  simp [dNum, dErr, dW]
  refine callK.data (hh) (by simp; rfl) (by first | exact D.leGo_refl _ | simp [takeMap, List.map_map, Function.comp_def, D.le, D.le.go, D.le_refl, D.leGo_refl, dNum, dErr, dW]) ?_
  refine hK2 _ ?_
  clear hK2 K2
  simp only [putd, upd_lst]
  repeat (refine sxf_next fun K2 hK2 => ?_; simp [dNum, dErr, dW]; (repeat (refine ⟨by omega, ?_⟩)); refine hK2 _ ?_; clear hK2 K2)
  refine sxf_nil (hK' _ ?_)
  refine AW.st (by simp [dNum, dErr, dW]; rfl) ?_
  clear hK' K'
  refine AW_ret ?_
  simp [D.le, D.le.go, takeMap, dNum, dErr, dBs]
#print axioms Holds_good
#print axioms wcheck_spec
end Go.Proofs.YtoikggboakojlaaDoor

/-
  signalcabinkeep's sameBools and lassoed.
-/
namespace Go.Proofs.YtoikggboakojlaaDoor
set_option linter.unusedSimpArgs false
set_option linter.unusedVariables false
open Go.Av

theorem takeB_step {l l' : List Bool} {n : Nat} (ht : l.take n = l'.take n) (h : n < l.length) (h' : n < l'.length) (he : l[n] = l'[n]) : l.take (n + 1) = l'.take (n + 1) := by
  rw [List.take_succ_eq_append_getElem h, List.take_succ_eq_append_getElem h', ht, he]
theorem takeB_all {l l' : List Bool} (hl : l.length = l'.length) (ht : l.take l.length = l'.take l.length) : l = l' := by
  rw [List.take_length, hl, List.take_length] at ht
  exact ht

set_option maxHeartbeats 1000000 in
theorem sameBools_spec (G : Glob) (l l' : List Bool) (h : l.length < 2^63) : PureC Tryd.prog G 44 [dBs l, dBs l'] (.v (.bool (l == l'))) := by
  refine PureC.of_body (tyOf_good _) Tryd.func44 rfl rfl (rs := [.tmp 4]) Tryd.results44 (by simp [Tryd.ntmps44]) fun X => ?_
  simp only [Tryd.ntmps44, List.map]
  refine AW_rg (tyOf_good _) [0, 1] [] (fun _ _ => trivial) fun K' hK' => ?_
  repeat (refine sxf_next fun K2 hK2 => ?_; simp [dB]; (repeat (refine ⟨by omega, ?_⟩)); refine hK2 _ ?_; clear hK2 K2)
  refine sxf_nil (hK' _ ?_)
  refine AW.st (by simp [dB]; rfl) ?_
  clear hK' K'
  refine AW_then fun K1 hK1 => ?_
  refine AW_rg (tyOf_good _) [0, 1, 10] [] (fun _ _ => trivial) fun K' hK' => ?_
  repeat (refine sxf_next fun K2 hK2 => ?_; simp [dB, dBs]; (repeat (refine ⟨by omega, ?_⟩)); refine hK2 _ ?_; clear hK2 K2)
  refine sxf_nil (hK' _ ?_)
  refine AW.st (by simp [dB, dBs]; rfl) ?_
  clear hK' K'
  refine AW_cond' (b := l.length ≠ l'.length) (by simp [D.le, D.le.go, takeMap, dB]) (fun hc => ?_) (fun hc => ?_)
  · refine AW_rg (tyOf_good _) [4] [] (fun _ _ => trivial) fun K' hK' => ?_
    repeat (refine sxf_next fun K2 hK2 => ?_; simp [dB]; (repeat (refine ⟨by omega, ?_⟩)); refine hK2 _ ?_; clear hK2 K2)
    refine sxf_nil (hK' _ ?_)
    refine AW.st (by simp [dB]; rfl) ?_
    clear hK' K'
    refine AW_ret ?_
    simp [D.le, D.le.go, takeMap, dB]
    intro e; subst e; simp at hc
  · refine AW_skip (hK1 _ ?_)
    have hl : l.length = l'.length := by simpa using hc
    refine AW_then fun K2 hK2 => ?_
    refine AW_rg (tyOf_good _) [0, 1, 5] [] (fun _ _ => trivial) fun K' hK' => ?_
    repeat (refine sxf_next fun K2 hK2 => ?_; simp [dB, dBs]; (repeat (refine ⟨by omega, ?_⟩)); refine hK2 _ ?_; clear hK2 K2)
    refine sxf_nil (hK' _ ?_)
    refine AW.st (by simp [dB, dBs]; rfl) ?_
    clear hK' K'
    refine AW_for (S := Nat) (fun n => n ≤ l.length ∧ l.take n = l'.take n) (fun n => ⟨lst [(0, .d (dBs l)), (1, .d (dBs l')), (5, int n)], hlst []⟩) (fun n => l.length - n) 0 ?_ (by simp) ?_
    · refine Imp.to' (fun _ _ => trivial) (by simp [dB, dBs]) (by simp [dB, dBs])
    · rintro n ⟨hn, ht⟩
      refine AW_then fun K3 hK3 => ?_
      refine AW_rg (tyOf_good _) [0, 1, 5, 14] [] (fun _ _ => trivial) fun K' hK' => ?_
      repeat (refine sxf_next fun K2 hK2 => ?_; simp [dB, dBs]; (repeat (refine ⟨by omega, ?_⟩)); refine hK2 _ ?_; clear hK2 K2)
      refine sxf_nil (hK' _ ?_)
      refine AW.st (by simp [dB, dBs]; rfl) ?_
      clear hK' K'
      refine AW_cond' (b := n < l.length) (by simp [D.le, D.le.go, takeMap, dB]) (fun hc => ?_) (fun hc => ?_)
      · refine AW_skip (hK3 _ ?_)
        refine AW_then fun K4 hK4 => ?_
        refine AW_block ?_
        have hnl : n < l.length := hc
        have hn' : n < l'.length := by omega
        cases he : (l[n] == l'[n]) with
        | false =>
          refine AW_rd (tyOf_good _) (by kernel_rfl) [0, 1, 5, 25] [] (fun _ _ => trivial) (by kernel_rfl) fun K' hK' => ?_
          repeat (refine sxd_next fun K2 hK2 => ?_; simp [dB, dBs, hnl, hn', he]; (repeat (refine ⟨by omega, ?_⟩)); refine hK2 _ ?_; clear hK2 K2)
          refine sxd_nil (hK' _ ?_)
          refine AW.st (by simp [dB, dBs, hnl, hn', he]; rfl) ?_
          clear hK' K'
          refine AW_cond true rfl (fun _ => ?_) (fun h => by cases h)
          refine AW_rg (tyOf_good _) [4] [] (fun _ _ => trivial) fun K' hK' => ?_
          repeat (refine sxf_next fun K2 hK2 => ?_; simp [dB]; (repeat (refine ⟨by omega, ?_⟩)); refine hK2 _ ?_; clear hK2 K2)
          refine sxf_nil (hK' _ ?_)
          refine AW.st (by simp [dB]; rfl) ?_
          clear hK' K'
          refine AW_ret ?_
          simp [D.le, D.le.go, takeMap, dB]
          intro e; subst e; simp at he
        | true =>
          have he2 : l[n] = l'[n] := by simpa using he
          refine AW_rd (tyOf_good _) (by kernel_rfl) [0, 1, 5, 25] [] (fun _ _ => trivial) (by kernel_rfl) fun K' hK' => ?_
          repeat (refine sxd_next fun K2 hK2 => ?_; simp [dB, dBs, hnl, hn', he2]; (repeat (refine ⟨by omega, ?_⟩)); refine hK2 _ ?_; clear hK2 K2)
          refine sxd_nil (hK' _ ?_)
          refine AW.st (by simp [dB, dBs, hnl, hn', he2]; rfl) ?_
          clear hK' K'
          refine AW_cond false rfl (fun h => by cases h) (fun _ => ?_)
          refine AW_skip ?_
          refine hK4 _ (AW.norm [0, 1, 5] [] (fun _ _ => trivial) (AW.st (by simp [dB]; rfl) ?_))
          refine AW_re (tyOf_good _) fun K' hK' => ?_
          repeat (refine sxf_next fun K2 hK2 => ?_; simp [dB]; (repeat (refine ⟨by omega, ?_⟩)); refine hK2 _ ?_; clear hK2 K2)
          refine sxf_nil (hK' _ ?_)
          clear hK' K'
          try simp only [thn, inb]
          refine Again.mk (n + 1) ⟨by omega, takeB_step ht hnl hn' he2⟩ (by omega) ?_
          refine Imp.to' (fun _ _ => trivial) (by simp [dB, dBs]) (by simp [dB, dBs])
      · refine AW_exit (hK2 _ ?_)
        refine AW_rg (tyOf_good _) [4] [] (fun _ _ => trivial) fun K' hK' => ?_
        repeat (refine sxf_next fun K2 hK2 => ?_; simp [dB]; (repeat (refine ⟨by omega, ?_⟩)); refine hK2 _ ?_; clear hK2 K2)
        refine sxf_nil (hK' _ ?_)
        refine AW.st (by simp [dB]; rfl) ?_
        clear hK' K'
        refine AW_ret ?_
        simp [D.le, D.le.go, takeMap, dB]
        have hnn : n = l.length := by omega
        subst hnn
        exact takeB_all hl ht

def wA : Times := [[[97]]]
def wR : Times := [[], [[98]]]
def fB : Fm := .mk 1 [98] []
def fAB : Fm := .mk 10 [] [.mk 9 [] [fB]]
theorem small_w : Small wA wR := ⟨by decide, by decide, by decide⟩

set_option maxHeartbeats 4000000 in
theorem lassoed_spec (G : Glob) (hA : HasArity G) : PureC Tryd.prog G 41 [] (.v (.bool true)) := by
  have h1 := Holds_good G hA wA wR small_w fAB (by simp [namesOk, namesOkL, fAB, fB]) (by rfl)
  have h2 := Holds_good G hA wA wR small_w fB (by simp [namesOk, namesOkL, fB]) (by rfl)
  rw [show holdsF wA wR fAB = [true, true, true] from rfl] at h1
  rw [show holdsF wA wR fB = [false, false, true] from rfl] at h2
  have hs1 := sameBools_spec G [true, true, true] [true, true, true] (by decide)
  have hs2 := sameBools_spec G [false, false, true] [false, false, true] (by decide)
  rw [beq_self_eq_true] at hs1 hs2
  have e1 : dW wA wR = .agg [.sl none [[.sl none [[.v (.string ⟨#[97]⟩)]]]], .sl none [[.sl none []], [.sl none [[.v (.string ⟨#[98]⟩)]]]]] := rfl
  have e2 : dF fB = .ip [dNum 1, .v (.string ⟨#[98]⟩), .sl (some false) []] := rfl
  have e3 : dF fAB = .ip [dNum 10, .v (.string ⟨#[]⟩), .sl none [[.ip [dNum 9, .v (.string ⟨#[]⟩), .sl none [[.ip [dNum 1, .v (.string ⟨#[98]⟩), .sl (some false) []]]]]]]] := rfl
  rw [e1, e3] at h1
  rw [e1, e2] at h2
  refine PureC.of_body (tyOf_good _) Tryd.func41 rfl rfl (rs := [.tmp 0]) Tryd.results41 (by simp [Tryd.ntmps41]) fun X => ?_
  simp only [Tryd.ntmps41, List.map]
  refine AW_rg (tyOf_good _) [] [] (fun _ _ => trivial) fun K' hK' => ?_
  repeat (refine sxf_next fun K2 hK2 => ?_; simp [dNum, dB, dBs]; (repeat (refine ⟨by omega, ?_⟩)); refine hK2 _ ?_; clear hK2 K2)
  refine sxf_nil (hK' _ ?_)
  refine AW.st (by simp [dNum, dB, dBs]; rfl) ?_
  clear hK' K'
  refine AW_rg (tyOf_good _) [1] [1, 9, 12] (fun _ _ => trivial) fun K' hK' => ?_
  repeat (refine sxf_next fun K2 hK2 => ?_; simp [dNum, dB, dBs]; (repeat (refine ⟨by omega, ?_⟩)); refine hK2 _ ?_; clear hK2 K2)
  refine sxf_nil (hK' _ ?_)
  refine AW.st (by simp [dNum, dB, dBs]; rfl) ?_
  clear hK' K'
  refine AW.imp (Imp.freeze 9 trivial) ?_
  refine AW.st (by simp [dNum, dB, dBs]; rfl) ?_
  refine AW.imp (Imp.freeze 12 trivial) ?_
  refine AW.st (by simp [dNum, dB, dBs]; rfl) ?_
  refine AW.imp (Imp.freezeB 1 trivial) ?_
  refine AW.st (by simp [dNum, dB, dBs]; rfl) ?_
  refine AW_rg (tyOf_good _) [1, 2] [15] (fun _ _ => trivial) fun K' hK' => ?_
  repeat (refine sxf_next fun K2 hK2 => ?_; simp [dNum, dB, dBs]; (repeat (refine ⟨by omega, ?_⟩)); refine hK2 _ ?_; clear hK2 K2)
  refine sxf_nil (hK' _ ?_)
  refine AW.st (by simp [dNum, dB, dBs]; rfl) ?_
  clear hK' K'
  refine AW.imp (Imp.freezeB 15 trivial) ?_
  refine AW.st (by simp [dNum, dB, dBs]; rfl) ?_
  refine AW_rg (tyOf_good _) [1, 2, 3] [17, 19, 20, 22] (fun _ _ => trivial) fun K' hK' => ?_
  repeat (refine sxf_next fun K2 hK2 => ?_; simp [dNum, dB, dBs]; (repeat (refine ⟨by omega, ?_⟩)); refine hK2 _ ?_; clear hK2 K2)
  refine sxf_nil (hK' _ ?_)
  refine AW.st (by simp [dNum, dB, dBs]; rfl) ?_
  clear hK' K'
  refine AW.imp (Imp.freeze 20 trivial) ?_
  refine AW.st (by simp [dNum, dB, dBs]; rfl) ?_
  refine AW.imp (Imp.freezeB 22 trivial) ?_
  refine AW.st (by simp [dNum, dB, dBs]; rfl) ?_
  refine AW_rg (tyOf_good _) [1, 2, 4, 5] [] (fun _ _ => trivial) fun K' hK' => ?_
  repeat (refine sxf_next fun K2 hK2 => ?_; simp [dNum, dB, dBs]; (repeat (refine ⟨by omega, ?_⟩)); refine hK2 _ ?_; clear hK2 K2)
  refine sxf_next fun K2 hK2 => ?_
  simp [dNum, dB, dBs]
  refine callK.data (h1) (by simp; rfl) (by first | exact D.leGo_refl _ | simp [takeMap, List.map_map, Function.comp_def, D.le, D.le.go, D.le_refl, D.leGo_refl, dNum, dB, dBs]) ?_
  refine hK2 _ ?_
  clear hK2 K2
  simp only [putd, upd_lst]
  repeat (refine sxf_next fun K2 hK2 => ?_; simp [dNum, dB, dBs]; (repeat (refine ⟨by omega, ?_⟩)); refine hK2 _ ?_; clear hK2 K2)
  refine sxf_nil (hK' _ ?_)
  refine AW.st (by simp [dNum, dB, dBs]; rfl) ?_
  clear hK' K'
  refine AW_rg (tyOf_good _) [4, 5, 6, 7] [] (fun _ _ => trivial) fun K' hK' => ?_
  repeat (refine sxf_next fun K2 hK2 => ?_; simp [dNum, dB, dBs]; (repeat (refine ⟨by omega, ?_⟩)); refine hK2 _ ?_; clear hK2 K2)
  refine sxf_next fun K2 hK2 => ?_
  simp [dNum, dB, dBs]
  refine callK.data (h2) (by simp; rfl) (by first | exact D.leGo_refl _ | simp [takeMap, List.map_map, Function.comp_def, D.le, D.le.go, D.le_refl, D.leGo_refl, dNum, dB, dBs]) ?_
  refine hK2 _ ?_
  clear hK2 K2
  simp only [putd, upd_lst]
  repeat (refine sxf_next fun K2 hK2 => ?_; simp [dNum, dB, dBs]; (repeat (refine ⟨by omega, ?_⟩)); refine hK2 _ ?_; clear hK2 K2)
  refine sxf_nil (hK' _ ?_)
  refine AW.st (by simp [dNum, dB, dBs]; rfl) ?_
  clear hK' K'
  refine AW_rg (tyOf_good _) [0] [] (fun _ _ => trivial) fun K' hK' => ?_
  repeat (refine sxf_next fun K2 hK2 => ?_; simp [dNum, dB, dBs]; (repeat (refine ⟨by omega, ?_⟩)); refine hK2 _ ?_; clear hK2 K2)
  refine sxf_next fun K2 hK2 => ?_
  simp [dNum, dB, dBs]
  refine callK.lend (hs1) (by simp; rfl) (by first | exact D.leGo_refl _ | simp [takeMap, List.map_map, Function.comp_def, D.le, D.le.go, D.le_refl, D.leGo_refl, dNum, dB, dBs]) (by simp [D.scalar]) ?_
  refine hK2 _ ?_
  clear hK2 K2
  simp only [putd, upd_lst]
  repeat (refine sxf_next fun K2 hK2 => ?_; simp [dNum, dB, dBs]; (repeat (refine ⟨by omega, ?_⟩)); refine hK2 _ ?_; clear hK2 K2)
  refine sxf_next fun K2 hK2 => ?_
  simp [dNum, dB, dBs]
  refine callK.lend (hs2) (by simp; rfl) (by first | exact D.leGo_refl _ | simp [takeMap, List.map_map, Function.comp_def, D.le, D.le.go, D.le_refl, D.leGo_refl, dNum, dB, dBs]) (by simp [D.scalar]) ?_
  refine hK2 _ ?_
  clear hK2 K2
  simp only [putd, upd_lst]
  repeat (refine sxf_next fun K2 hK2 => ?_; simp [dNum, dB, dBs]; (repeat (refine ⟨by omega, ?_⟩)); refine hK2 _ ?_; clear hK2 K2)
  refine sxf_nil (hK' _ ?_)
  refine AW.st (by simp [dNum, dB, dBs]; rfl) ?_
  clear hK' K'
  refine AW_ret ?_
  simp [D.le, D.le.go, takeMap, dNum, dB, dBs]
#print axioms lassoed_spec
end Go.Proofs.YtoikggboakojlaaDoor

/-
  Words of which one is laid upon another: what holds.
-/
namespace Go.Proofs.YtoikggboakojlaaDoor
set_option linter.unusedSimpArgs false
set_option linter.unusedVariables false

def atB (l : List Bool) (i : Nat) : Bool := l.getD i false
theorem iterN_sim {now now' : Nat → Bool → Bool} {nx nx' : Nat → Nat} {st : Bool} {n' : Nat} {φ : Nat → Nat} (hx : ∀ i, i < n' → nx' i < n') (h1 : ∀ i, i < n' → φ (nx' i) = nx (φ i)) (h2 : ∀ i b, i < n' → now' i b = now (φ i) b) :
    ∀ k i, i < n' → iterN now' nx' st k i = iterN now nx st k (φ i)
  | 0, i, _ => rfl
  | k + 1, i, hi => by
    simp only [iterN]
    rw [h2 i _ hi, iterN_sim hx h1 h2 k _ (hx i hi), h1 i hi]
theorem iterN_sim' {now now' : Nat → Bool → Bool} (hm : MonoN now) (hm' : MonoN now') {nx nx' : Nat → Nat} {st : Bool} {n n' : Nat} {φ : Nat → Nat} (hx : ∀ i, i < n → nx i < n) (hx' : ∀ i, i < n' → nx' i < n') (h0 : ∀ i, i < n' → φ i < n)
    (h1 : ∀ i, i < n' → φ (nx' i) = nx (φ i)) (h2 : ∀ i b, i < n' → now' i b = now (φ i) b) {i : Nat} (hi : i < n') : iterN now' nx' st n' i = iterN now nx st n (φ i) := by
  rw [← iterN_all hm' hx' (Nat.le_max_left n' n) hi, ← iterN_all hm hx (Nat.le_max_right n' n) (h0 i hi)]
  exact iterN_sim hx' h1 h2 _ _ hi

/-- The second word lies upon the first. -/
structure Upon (a r a' r' : Times) (φ : Nat → Nat) : Prop where
  r0 : 0 < r.length
  r0' : 0 < r'.length
  lt : ∀ i, i < a'.length + r'.length → φ i < a.length + r.length
  next : ∀ i, i < a'.length + r'.length → φ (nxF a'.length (a'.length + r'.length) i) = nxF a.length (a.length + r.length) (φ i)
  time : ∀ i, i < a'.length + r'.length → (a' ++ r').getD i [] = (a ++ r).getD (φ i) []

theorem atB_map {n i : Nat} (f : Nat → Bool) (h : i < n) : atB ((List.range n).map f) i = f i := by simp [atB, List.getD_eq_getElem?_getD, h]
theorem holdsL_at (a r : Times) (l : List Fm) (j : Nat) : (holdsL a r l).getD j [] = if h : j < l.length then holdsF a r l[j] else [] := by
  rw [holdsL_map]
  by_cases h : j < l.length
  · simp [List.getD_eq_getElem?_getD, h]
  · simp [List.getD_eq_getElem?_getD, h]
theorem mono_or (o1 : Nat → Bool) (o0 : Nat → Bool) : MonoN fun i b => o1 i || (o0 i && b) := fun i h => by revert h; dsimp only; cases o1 i <;> cases o0 i <;> simp
theorem mono_and (o1 : Nat → Bool) (o0 : Nat → Bool) : MonoN fun i b => o1 i && (o0 i || b) := fun i h => by revert h; dsimp only; cases o1 i <;> cases o0 i <;> simp
theorem mono_or1 (o0 : Nat → Bool) : MonoN fun i b => o0 i || b := fun i h => by revert h; dsimp only; cases o0 i <;> simp
theorem mono_and1 (o0 : Nat → Bool) : MonoN fun i b => o0 i && b := fun i h => by revert h; dsimp only; cases o0 i <;> simp

/-- What holds there, holds where it lies upon. -/
theorem holds_upon {a r a' r' : Times} {φ : Nat → Nat} (u : Upon a r a' r' φ) : ∀ f : Fm, ∀ i, i < a'.length + r'.length → atB (holdsF a' r' f) i = atB (holdsF a r f) (φ i)
  | .nil, i, _ => by simp [holdsF, atB]
  | .mk k s l, i, hi => by
    have hφ := u.lt i hi
    rw [holdsF, holdsF, atB_map _ hi, atB_map _ hφ]
    have ho : ∀ j i, i < a'.length + r'.length → ((holdsL a' r' l).getD j []).getD i false = ((holdsL a r l).getD j []).getD (φ i) false := fun j i hi => by
      rw [holdsL_at, holdsL_at]
      by_cases h : j < l.length
      · rw [dif_pos h, dif_pos h]
        exact holds_upon u l[j] i hi
      · rw [dif_neg h, dif_neg h]; rfl
    have hx : ∀ i, i < a.length + r.length → nxF a.length (a.length + r.length) i < a.length + r.length := fun i hi => nxF_lt (by have := u.r0; omega) hi
    have hx' : ∀ i, i < a'.length + r'.length → nxF a'.length (a'.length + r'.length) i < a'.length + r'.length := fun i hi => nxF_lt (by have := u.r0'; omega) hi
    unfold valF
    dsimp only
    by_cases h1 : k = 1
    · rw [if_pos h1, if_pos h1]
      rw [u.time i hi]
    rw [if_neg h1, if_neg h1]
    by_cases h2 : k = 2
    · rw [if_pos h2, if_pos h2]
    rw [if_neg h2, if_neg h2]
    by_cases h3 : k = 3
    · rw [if_pos h3, if_pos h3]
      rw [ho 0 i hi]
    rw [if_neg h3, if_neg h3]
    by_cases h4 : k = 4
    · rw [if_pos h4, if_pos h4]
      rw [ho 0 i hi, ho 1 i hi]
    rw [if_neg h4, if_neg h4]
    by_cases h5 : k = 5
    · rw [if_pos h5, if_pos h5]
      rw [ho 0 i hi, ho 1 i hi]
    rw [if_neg h5, if_neg h5]
    by_cases h6 : k = 6
    · rw [if_pos h6, if_pos h6]
      rw [ho 0 _ (hx' i hi), u.next i hi]
    rw [if_neg h6, if_neg h6]
    by_cases h7 : k = 7
    · rw [if_pos h7, if_pos h7]
      exact iterN_sim' (mono_or _ _) (mono_or _ _) hx hx' u.lt u.next (fun i b hi => by rw [ho 0 i hi, ho 1 i hi]) hi
    rw [if_neg h7, if_neg h7]
    by_cases h8 : k = 8
    · rw [if_pos h8, if_pos h8]
      exact iterN_sim' (mono_and _ _) (mono_and _ _) hx hx' u.lt u.next (fun i b hi => by rw [ho 0 i hi, ho 1 i hi]) hi
    rw [if_neg h8, if_neg h8]
    by_cases h9 : k = 9
    · rw [if_pos h9, if_pos h9]
      exact iterN_sim' (mono_or1 _) (mono_or1 _) hx hx' u.lt u.next (fun i b hi => by rw [ho 0 i hi]) hi
    rw [if_neg h9, if_neg h9]
    exact iterN_sim' (mono_and1 _) (mono_and1 _) hx hx' u.lt u.next (fun i b hi => by rw [ho 0 i hi]) hi
termination_by f => SizeOf.sizeOf f
decreasing_by
  have := List.sizeOf_lt_of_mem (List.getElem_mem h)
  simp only [Fm.mk.sizeOf_spec]
  omega

/-- A round, turned: its first time ahead, and at its end. -/
theorem upon_turn (a : Times) (x : List (List UInt8)) (r : Times) : Upon a (x :: r) (a ++ [x]) (r ++ [x]) fun i => if i < a.length + (r.length + 1) then i else a.length where
  r0 := by simp
  r0' := by simp
  lt i hi := by simp at hi ⊢; split <;> omega
  next i hi := by
    simp only [List.length_append, List.length_cons, List.length_nil] at hi ⊢
    unfold nxF
    repeat' split
    all_goals omega
  time i hi := by
    simp only [List.length_append, List.length_cons, List.length_nil] at hi
    split
    · rename_i h
      have : a ++ [x] ++ (r ++ [x]) = (a ++ x :: r) ++ [x] := by simp
      rw [this, List.getD_eq_getElem?_getD, List.getD_eq_getElem?_getD, List.getElem?_append_left (by simp; omega)]
    · have hi2 : i = a.length + (r.length + 1) := by omega
      subst hi2
      have : a ++ [x] ++ (r ++ [x]) = (a ++ x :: r) ++ [x] := by simp
      rw [this, List.getD_eq_getElem?_getD, List.getD_eq_getElem?_getD, List.getElem?_append_right (by simp)]
      simp
/-- A round, gone twice. -/
theorem upon_twice (a r : Times) (h : 0 < r.length) : Upon a r a (r ++ r) fun i => if i < a.length + r.length then i else i - r.length where
  r0 := h
  r0' := by simp; omega
  lt i hi := by simp at hi ⊢; split <;> omega
  next i hi := by
    simp only [List.length_append] at hi ⊢
    unfold nxF
    repeat' split
    all_goals omega
  time i hi := by
    simp only [List.length_append] at hi
    split
    · rename_i h
      rw [← List.append_assoc, List.getD_eq_getElem?_getD, List.getD_eq_getElem?_getD, List.getElem?_append_left (by simp; omega)]
    · rename_i h
      rw [← List.append_assoc, List.getD_eq_getElem?_getD, List.getD_eq_getElem?_getD, List.getElem?_append_right (by simp; omega), List.getElem?_append_right (by omega)]
      congr 2
      simp
      omega
end Go.Proofs.YtoikggboakojlaaDoor

/-
  LassoTurns: a round may be turned, and gone twice.
-/
namespace Go.Proofs.YtoikggboakojlaaDoor
set_option linter.unusedSimpArgs false
set_option linter.unusedVariables false
open Go.Av

theorem namesOkL_of : ∀ {l : List Fm}, (∀ f ∈ l, namesOk f) → namesOkL l
  | [], _ => trivial
  | f :: l, h => ⟨h f (by simp), namesOkL_of fun g hg => h g (by simp [hg])⟩
theorem names_step {all : List Fm} (ha : ∀ f ∈ all, namesOk f) {x : Stp} (hx : x.name.length < 2^60) : namesOk (stepF all x) := by
  have hg : ∀ i, namesOk (all.getD i .nil) := fun i => by
    rw [List.getD_eq_getElem?_getD]
    cases h : all[i]? with
    | none => trivial
    | some f => exact ha f (List.mem_of_getElem? h)
  unfold stepF
  repeat' split
  · exact ⟨by decide, trivial⟩
  · exact ⟨by simp, hg _, trivial⟩
  · exact ⟨by simp, hg _, hg _, trivial⟩
  · exact ⟨hx, trivial⟩
theorem names_all : ∀ (l : List Stp) (all : List Fm), (∀ x ∈ l, x.name.length < 2^60) → (∀ f ∈ all, namesOk f) → ∀ f ∈ allF l all, namesOk f
  | [], all, _, h => h
  | x :: l, all, hl, h => names_all l _ (fun y hy => hl y (by simp [hy])) fun f hf => by
    rcases List.mem_append.1 hf with hf | hf
    · exact h f hf
    · rw [List.mem_singleton] at hf; subst hf; exact names_step h (hl x (by simp))
theorem names_form (l : List Stp) (hl : ∀ x ∈ l, x.name.length < 2^60) : namesOk (formF l) := by
  unfold formF
  rw [List.getD_eq_getElem?_getD]
  cases h : (madeF l l.length)[l.length]? with
  | none => trivial
  | some f =>
    refine names_all _ _ (fun x hx => hl x (List.mem_of_mem_take hx)) (fun f hf => ?_) f (List.mem_of_getElem? h)
    rw [List.mem_singleton] at hf
    subst hf
    exact ⟨by decide, trivial⟩
theorem form_ip (l : List Stp) : ∃ c, dF (formF l) = .ip c := by
  have hlt : l.length < (madeF l l.length).length := by rw [madeF_len l (Nat.le_refl _)]; omega
  have : formF l = (madeF l l.length)[l.length]'hlt := by unfold formF; simp [hlt]
  rw [this]
  exact (madeF_mk l _ _ (List.getElem_mem _)).ip

theorem holdsF_len (a r : Times) {f : Fm} {c : List D} (h : dF f = .ip c) : (holdsF a r f).length = a.length + r.length := by
  cases f with
  | nil => simp [dF] at h
  | mk k s l => rw [holdsF, List.length_map, List.length_range]
theorem okTimes_append (x y : Times) : okTimes (x ++ y) = (okTimes x && okTimes y) := by unfold okTimes; rw [List.all_append]
theorem errOf_ne {c : Int} (h : c ≠ 0) : errOf c = some (c, none) := by unfold errOf; rw [if_neg h]

set_option maxHeartbeats 16000000 in
theorem turns_spec (G : Glob) (hA : HasArity G) (a r : Times) (hs : Small a r) (l : List Stp) (hl : l.length < 2^60) (hn : ∀ x ∈ l, x.name.length < 2^60) : PureC Tryd.prog G 8 [dW a r, dStps l] (.v (.bool true)) := by
  have hsl := hs.len
  by_cases h1 : (16 : Int) < l.length
  · refine PureC.of_body (tyOf_good _) Tryd.func8 rfl rfl (rs := [.tmp 4]) Tryd.results8 (by simp [Tryd.ntmps8]) fun X => ?_
    simp only [Tryd.ntmps8, List.map]
    refine AW_rg (tyOf_good _) [1, 2] [2] (fun _ _ => trivial) fun K' hK' => ?_
    repeat (refine sxf_next fun K2 hK2 => ?_; simp [dNum, dB, dW]; (repeat (refine ⟨by omega, ?_⟩)); refine hK2 _ ?_; clear hK2 K2)
    refine sxf_nil (hK' _ ?_)
    refine AW.st (by simp [dNum, dB, dW]; rfl) ?_
    clear hK' K'
    refine AW_then fun K1 hK1 => ?_
    refine AW_rg (tyOf_good _) [1, 2, 30] [2] (fun _ _ => trivial) fun K' hK' => ?_
    repeat (refine sxf_next fun K2 hK2 => ?_; simp [dNum, dB, dTimes, dStps, h1]; (repeat (refine ⟨by omega, ?_⟩)); refine hK2 _ ?_; clear hK2 K2)
    refine sxf_nil (hK' _ ?_)
    refine AW.st (by simp [dNum, dB, dTimes, dStps, h1]; rfl) ?_
    clear hK' K'
    refine AW_cond true rfl (fun _ => ?_) (fun h => by cases h)
    refine AW_rg (tyOf_good _) [4] [] (fun _ _ => trivial) fun K' hK' => ?_
    repeat (refine sxf_next fun K2 hK2 => ?_; simp [dNum, dB]; (repeat (refine ⟨by omega, ?_⟩)); refine hK2 _ ?_; clear hK2 K2)
    refine sxf_nil (hK' _ ?_)
    refine AW.st (by simp [dNum, dB]; rfl) ?_
    clear hK' K'
    refine AW_ret ?_
    simp [D.le, D.le.go, takeMap, dNum, dB]
  by_cases h2 : (40 : Int) < (a.length : Int) + 2 * (r.length : Int)
  · refine PureC.of_body (tyOf_good _) Tryd.func8 rfl rfl (rs := [.tmp 4]) Tryd.results8 (by simp [Tryd.ntmps8]) fun X => ?_
    simp only [Tryd.ntmps8, List.map]
    refine AW_rg (tyOf_good _) [1, 2] [2] (fun _ _ => trivial) fun K' hK' => ?_
    repeat (refine sxf_next fun K2 hK2 => ?_; simp [dNum, dB, dW]; (repeat (refine ⟨by omega, ?_⟩)); refine hK2 _ ?_; clear hK2 K2)
    refine sxf_nil (hK' _ ?_)
    refine AW.st (by simp [dNum, dB, dW]; rfl) ?_
    clear hK' K'
    refine AW_then fun K1 hK1 => ?_
    refine AW_rg (tyOf_good _) [1, 2, 30] [2] (fun _ _ => trivial) fun K' hK' => ?_
    repeat (refine sxf_next fun K2 hK2 => ?_; simp [dNum, dB, dTimes, dStps, h1, h2]; (repeat (refine ⟨by omega, ?_⟩)); refine hK2 _ ?_; clear hK2 K2)
    refine sxf_nil (hK' _ ?_)
    refine AW.st (by simp [dNum, dB, dTimes, dStps, h1, h2]; rfl) ?_
    clear hK' K'
    refine AW_cond true rfl (fun _ => ?_) (fun h => by cases h)
    refine AW_rg (tyOf_good _) [4] [] (fun _ _ => trivial) fun K' hK' => ?_
    repeat (refine sxf_next fun K2 hK2 => ?_; simp [dNum, dB]; (repeat (refine ⟨by omega, ?_⟩)); refine hK2 _ ?_; clear hK2 K2)
    refine sxf_nil (hK' _ ?_)
    refine AW.st (by simp [dNum, dB]; rfl) ?_
    clear hK' K'
    refine AW_ret ?_
    simp [D.le, D.le.go, takeMap, dNum, dB]
  have hform := formula_spec G l (by omega)
  have hnf := names_form l hn
  have hla := lassoed_spec G hA
  obtain ⟨cf, hcf⟩ := form_ip l
  generalize formF l = f at hform hnf hcf
  by_cases hE : holdsE a r f = 0
  · have hg := Holds_good G hA a r hs f hnf hE
    have hwr : wordE a r = 0 ∧ rightE f = 0 := by
      unfold holdsE at hE
      by_cases hw : wordE a r = 0
      · rw [if_neg (by simp [hw])] at hE; exact ⟨hw, hE⟩
      · rw [if_pos hw] at hE; exact absurd hE hw
    have hlen : 0 < r.length ∧ okTimes a = true ∧ okTimes r = true := by
      have hw := hwr.1
      unfold wordE at hw
      split at hw
      · cases hw
      · rename_i h
        refine ⟨by omega, ?_⟩
        have hb : (okTimes a && okTimes r) = true := by
          cases hb : (okTimes a && okTimes r) with
          | true => rfl
          | false => rw [hb] at hw; cases hw
        rwa [Bool.and_eq_true] at hb
    obtain ⟨hr0, hoa, hor⟩ := hlen
    obtain ⟨x, rt, rfl⟩ : ∃ x rt, r = x :: rt := by cases r with | nil => simp at hr0 | cons x rt => exact ⟨x, rt, rfl⟩
    have hox : okTimes [x] = true ∧ okTimes rt = true := by
      have : okTimes (x :: rt) = (okTimes [x] && okTimes rt) := okTimes_append [x] rt
      rw [hor] at this
      have := this.symm
      rwa [Bool.and_eq_true] at this
    have hE1 : holdsE (a ++ [x]) (rt ++ [x]) f = 0 := by
      unfold holdsE wordE
      rw [okTimes_append, okTimes_append, hoa, hox.1, hox.2]
      simp only [List.length_append, List.length_cons, List.length_nil] at h2 ⊢
      rw [if_neg (show ¬ (rt.length + (0 + 1) < 1 ∨ 60 < a.length + (0 + 1) + (rt.length + (0 + 1))) by omega)]
      simp [hwr.2]
    have hE2 : holdsE a (x :: rt ++ x :: rt) f = 0 := by
      unfold holdsE wordE
      rw [okTimes_append, hoa, hor]
      simp only [List.length_append, List.length_cons] at h2 ⊢
      rw [if_neg (show ¬ (rt.length + 1 + (rt.length + 1) < 1 ∨ 60 < a.length + (rt.length + 1 + (rt.length + 1))) by omega)]
      simp [hwr.2]
    have hs1 : Small (a ++ [x]) (rt ++ [x]) := ⟨by simp only [List.length_append, List.length_cons, List.length_nil] at h2 ⊢; omega, fun t ht => hs.times t (by simp at ht ⊢; rcases ht with h | h | h | h <;> simp_all), fun t ht => hs.names t (by simp at ht ⊢; rcases ht with h | h | h | h <;> simp_all)⟩
    have hs2 : Small a (x :: rt ++ x :: rt) := ⟨by simp only [List.length_append, List.length_cons] at h2 ⊢; omega, fun t ht => hs.times t (by simp at ht ⊢; rcases ht with h | h | h | h | h <;> simp_all), fun t ht => hs.names t (by simp at ht ⊢; rcases ht with h | h | h | h | h <;> simp_all)⟩
    have hg1 := Holds_good G hA _ _ hs1 f hnf hE1
    have hg2 := Holds_good G hA _ _ hs2 f hnf hE2
    have hAl := holdsF_len a (x :: rt) hcf
    have hBl := holdsF_len (a ++ [x]) (rt ++ [x]) hcf
    have hCl := holdsF_len a (x :: rt ++ x :: rt) hcf
    have hu1 := holds_upon (upon_turn a x rt) f
    have hu2 := holds_upon (upon_twice a (x :: rt) (by simp)) f
    generalize holdsF a (x :: rt) f = A at hg hAl hu1 hu2
    generalize holdsF (a ++ [x]) (rt ++ [x]) f = B at hg1 hBl hu1
    generalize holdsF a (x :: rt ++ x :: rt) f = C at hg2 hCl hu2
    simp only [List.length_append, List.length_cons, List.length_nil] at hAl hBl hCl hu1 hu2
    have hBl : B.length = a.length + (rt.length + 1) + 1 := by omega
    have hCl : C.length = a.length + 2 * (rt.length + 1) := by omega
    have hB1 : ∀ i (h : i < a.length + (rt.length + 1)), B[i]'(by omega) = A[i]'(by omega) := fun i h => by
      have := hu1 i (by omega)
      rw [if_pos h] at this
      simpa [atB, List.getD_eq_getElem?_getD, show i < B.length by omega, show i < A.length by omega] using this
    have hB2 : B[a.length + (rt.length + 1)]'(by omega) = A[a.length]'(by omega) := by
      have := hu1 (a.length + (rt.length + 1)) (by omega)
      rw [if_neg (by omega)] at this
      simpa [atB, List.getD_eq_getElem?_getD, show a.length + (rt.length + 1) < B.length by omega, show a.length < A.length by omega] using this
    have hC1 : ∀ i (h : i < a.length + (rt.length + 1)), C[i]'(by omega) = A[i]'(by omega) := fun i h => by
      have := hu2 i (by omega)
      rw [if_pos h] at this
      simpa [atB, List.getD_eq_getElem?_getD, show i < C.length by omega, show i < A.length by omega] using this
    have hC2 : ∀ i (h : i < a.length + (rt.length + 1)) (h2 : a.length ≤ i), C[i + (rt.length + 1)]'(by omega) = A[i]'(by omega) := fun i h h2 => by
      have := hu2 (i + (rt.length + 1)) (by omega)
      rw [if_neg (by omega), Nat.add_sub_cancel] at this
      simpa [atB, List.getD_eq_getElem?_getD, show i + (rt.length + 1) < C.length by omega, show i < A.length by omega] using this
    clear hu1 hu2 hE hE1 hE2 hwr
    rw [hcf] at hform hg hg1 hg2
    have htkr : ∀ g : List (List UInt8) → List D, List.take rt.length (rt.map g) = rt.map g := fun g => List.take_of_length_le (by simp)
    have htka : ∀ g : List (List UInt8) → List D, List.take a.length (a.map g) = a.map g := fun g => List.take_of_length_le (by simp)
    have hdbl : rt.length + 1 + (rt.length + 1) = rt.length + (rt.length + 1) + 1 := by omega
    have hrn : rt.length < 40 := by simp only [List.length_cons] at h2; omega
    have han : a.length ≤ 40 := by simp only [List.length_cons] at h2; omega
    refine PureC.of_body (tyOf_good _) Tryd.func8 rfl rfl (rs := [.tmp 4]) Tryd.results8 (by simp [Tryd.ntmps8]) fun X => ?_
    simp only [Tryd.ntmps8, List.map]
    refine AW_rg (tyOf_good _) [1, 2] [2] (fun _ _ => trivial) fun K' hK' => ?_
    repeat (refine sxf_next fun K2 hK2 => ?_; simp [dNum, dB, dW]; (repeat (refine ⟨by omega, ?_⟩)); refine hK2 _ ?_; clear hK2 K2)
    refine sxf_nil (hK' _ ?_)
    refine AW.st (by simp [dNum, dB, dW]; rfl) ?_
    clear hK' K'
    refine AW_then fun K1 hK1 => ?_
    simp only [List.length_cons, Int.natCast_add, Int.cast_ofNat_Int] at h2
    refine AW_rg (tyOf_good _) [1, 2, 30] [2] (fun _ _ => trivial) fun K' hK' => ?_
    repeat (refine sxf_next fun K2 hK2 => ?_; simp [dNum, dB, dTimes, dStps, h1, h2]; (repeat (refine ⟨by omega, ?_⟩)); refine hK2 _ ?_; clear hK2 K2)
    refine sxf_nil (hK' _ ?_)
    refine AW.st (by simp [dNum, dB, dTimes, dStps, h1, h2]; rfl) ?_
    clear hK' K'
    refine AW_cond false rfl (fun h => by cases h) (fun _ => ?_)
    refine AW_skip (hK1 _ ?_)
    refine AW_rg (tyOf_good _) [2, 5] [2] (fun _ _ => trivial) fun K' hK' => ?_
    repeat (refine sxf_next fun K2 hK2 => ?_; simp [dNum, dB, dStps, dTimes]; (repeat (refine ⟨by omega, ?_⟩)); refine hK2 _ ?_; clear hK2 K2)
    refine sxf_next fun K2 hK2 => ?_
    simp [dNum, dB, dStps, dTimes]
    refine callK.data (hform) (by simp; rfl) (by first | exact D.leGo_refl _ | simp [takeMap, List.map_map, Function.comp_def, D.le, D.le.go, D.le_refl, D.leGo_refl, dNum, dB, dStps, dTimes]) ?_
    refine hK2 _ ?_
    clear hK2 K2
    simp only [putd, upd_lst]
    repeat (refine sxf_next fun K2 hK2 => ?_; simp [dNum, dB, dStps, dTimes]; (repeat (refine ⟨by omega, ?_⟩)); refine hK2 _ ?_; clear hK2 K2)
    refine sxf_nil (hK' _ ?_)
    refine AW.st (by simp [dNum, dB, dStps, dTimes]; rfl) ?_
    clear hK' K'
    refine AW_rg (tyOf_good _) [2, 5, 6, 7] [2] (fun _ _ => trivial) fun K' hK' => ?_
    repeat (refine sxf_next fun K2 hK2 => ?_; simp [dNum, dB, dW, dTimes]; (repeat (refine ⟨by omega, ?_⟩)); refine hK2 _ ?_; clear hK2 K2)
    refine sxf_next fun K2 hK2 => ?_
    simp [dNum, dB, dW, dTimes]
    refine callK.data (hg) (by simp; rfl) (by first | exact D.leGo_refl _ | simp [takeMap, List.map_map, Function.comp_def, D.le, D.le.go, D.le_refl, D.leGo_refl, dNum, dB, dW, dTimes]) ?_
    refine hK2 _ ?_
    clear hK2 K2
    simp only [putd, upd_lst]
    repeat (refine sxf_next fun K2 hK2 => ?_; simp [dNum, dB, dW, dTimes]; (repeat (refine ⟨by omega, ?_⟩)); refine hK2 _ ?_; clear hK2 K2)
    refine sxf_nil (hK' _ ?_)
    refine AW.st (by simp [dNum, dB, dW, dTimes]; rfl) ?_
    clear hK' K'
    refine AW_then fun K2 hK2 => ?_
    refine AW_rg (tyOf_good _) [2, 5, 6, 44] [2] (fun _ _ => trivial) fun K' hK' => ?_
    repeat (refine sxf_next fun K2 hK2 => ?_; simp [dNum, dB]; (repeat (refine ⟨by omega, ?_⟩)); refine hK2 _ ?_; clear hK2 K2)
    refine sxf_next fun K2 hK2 => ?_
    simp [dNum, dB]
    refine callK.data (hla) (by simp; rfl) (by first | exact D.leGo_refl _ | simp [takeMap, List.map_map, Function.comp_def, D.le, D.le.go, D.le_refl, D.leGo_refl, dNum, dB]) ?_
    refine hK2 _ ?_
    clear hK2 K2
    simp only [putd, upd_lst]
    repeat (refine sxf_next fun K2 hK2 => ?_; simp [dNum, dB]; (repeat (refine ⟨by omega, ?_⟩)); refine hK2 _ ?_; clear hK2 K2)
    refine sxf_nil (hK' _ ?_)
    refine AW.st (by simp [dNum, dB]; rfl) ?_
    clear hK' K'
    refine AW_cond false rfl (fun h => by cases h) (fun _ => ?_)
    refine AW_skip (hK2 _ ?_)
    refine AW_rd (tyOf_good _) (by kernel_rfl) [2, 5, 6, 8, 9] [2] (fun _ _ => trivial) (by kernel_rfl) fun K' hK' => ?_
    repeat (refine sxd_next fun K2 hK2 => ?_; simp [dNum, dB, dTimes]; (repeat (refine ⟨by omega, ?_⟩)); refine hK2 _ ?_; clear hK2 K2)
    refine sxd_nil (hK' _ ?_)
    refine AW.st (by simp [dNum, dB, dTimes]; rfl) ?_
    clear hK' K'
    refine AW_rl (tyOf_good _) (by kernel_rfl) ([(3, (57, 999)), (9, (57, 65)), (14, (67, 999)), (20, (67, 76))]) ([(4, [57]), (5, [57]), (6, [57]), (7, [57]), (8, [57]), (10, [57]), (11, [57]), (12, [57]), (13, [57]), (15, [57, 67]), (16, [57, 67]), (17, [57, 67]), (18, [57, 67]), (19, [57, 67]), (22, [57, 67])]) ([1, 2, 4, 5, 6, 7, 11, 12, 13, 15, 16, 17, 18, 0, 8, 10, 19, 22, 3, 9, 14, 20, 21, 23]) [2, 5, 6, 8, 9, 10] [2, 10, 57, 67] (fun _ _ => trivial) (by kernel_rfl) fun K' hK' => ?_
    repeat (refine sxl_nextO rfl fun K2 hK2 => ?_; simp [dNum, dB, dTimes, dNames, htkr, htka]; (repeat (refine ⟨by omega, ?_⟩)); refine hK2 _ ?_; clear hK2 K2)
    refine sxl_nilO (hK' _ ?_)
    refine AW.st (by simp [dNum, dB, dTimes, dNames, htkr, htka]; rfl) ?_
    clear hK' K'
    refine AW.imp (Imp.freeze 57 trivial) ?_
    refine AW.st (by simp [dNum, dB, htka]; rfl) ?_
    refine AW.imp (Imp.freeze 67 trivial) ?_
    refine AW.st (by simp [dNum, dB, htkr]; rfl) ?_
    refine AW.imp (Imp.freezeB 10 trivial) ?_
    refine AW.st (by simp [dNum, dB]; rfl) ?_
    refine AW_rl (tyOf_good _) (by kernel_rfl) ([(5, (81, 999)), (8, (81, 999))]) ([(0, [81]), (1, [81]), (6, [81]), (7, [81]), (10, [81])]) ([0, 1, 3, 4, 6, 7, 2, 10, 5, 8, 9, 11]) [5, 6, 8, 9, 10, 11] [11, 81] (fun _ _ => trivial) (by kernel_rfl) fun K' hK' => ?_
    repeat (refine sxl_nextO rfl fun K2 hK2 => ?_; simp [dNum, dB, dTimes, dNames, htkr, htka]; (repeat (refine ⟨by omega, ?_⟩)); refine hK2 _ ?_; clear hK2 K2)
    refine sxl_nilO (hK' _ ?_)
    refine AW.st (by simp [dNum, dB, dTimes, dNames, htkr, htka]; rfl) ?_
    clear hK' K'
    refine AW.imp (Imp.freeze 81 trivial) ?_
    refine AW.st (by simp [dNum, dB, hdbl]; rfl) ?_
    refine AW.imp (Imp.freezeB 11 trivial) ?_
    refine AW.st (by simp [dNum, dB]; rfl) ?_
    refine AW_rg (tyOf_good _) [5, 6, 8, 9, 11, 12, 13] [] (fun _ _ => trivial) fun K' hK' => ?_
    repeat (refine sxf_next fun K2 hK2 => ?_; simp [dNum, dB, dW, dTimes, dNames]; (repeat (refine ⟨by omega, ?_⟩)); refine hK2 _ ?_; clear hK2 K2)
    refine sxf_next fun K2 hK2 => ?_
    simp [dNum, dB, dW, dTimes, dNames]
    refine callK.data (hg1) (by simp; rfl) (by first | exact D.leGo_refl _ | simp [takeMap, List.map_map, Function.comp_def, D.le, D.le.go, D.le_refl, D.leGo_refl, dNum, dB, dW, dTimes, dNames]) ?_
    refine hK2 _ ?_
    clear hK2 K2
    simp only [putd, upd_lst]
    repeat (refine sxf_next fun K2 hK2 => ?_; simp [dNum, dB, dW, dTimes, dNames]; (repeat (refine ⟨by omega, ?_⟩)); refine hK2 _ ?_; clear hK2 K2)
    refine sxf_nil (hK' _ ?_)
    refine AW.st (by simp [dNum, dB, dW, dTimes, dNames]; rfl) ?_
    clear hK' K'
    refine AW_rg (tyOf_good _) [6, 8, 9, 12, 13, 14, 15] [] (fun _ _ => trivial) fun K' hK' => ?_
    repeat (refine sxf_next fun K2 hK2 => ?_; simp [dNum, dB, dW, dTimes, dNames]; (repeat (refine ⟨by omega, ?_⟩)); refine hK2 _ ?_; clear hK2 K2)
    refine sxf_next fun K2 hK2 => ?_
    simp [dNum, dB, dW, dTimes, dNames]
    refine callK.data (hg2) (by simp; rfl) (by first | exact D.leGo_refl _ | simp [takeMap, List.map_map, Function.comp_def, D.le, D.le.go, D.le_refl, D.leGo_refl, dNum, dB, dW, dTimes, dNames]) ?_
    refine hK2 _ ?_
    clear hK2 K2
    simp only [putd, upd_lst]
    repeat (refine sxf_next fun K2 hK2 => ?_; simp [dNum, dB, dW, dTimes, dNames]; (repeat (refine ⟨by omega, ?_⟩)); refine hK2 _ ?_; clear hK2 K2)
    refine sxf_nil (hK' _ ?_)
    refine AW.st (by simp [dNum, dB, dW, dTimes, dNames]; rfl) ?_
    clear hK' K'
    refine AW_then fun K3 hK3 => ?_
    refine AW_rg (tyOf_good _) [6, 8, 9, 12, 14, 132] [] (fun _ _ => trivial) fun K' hK' => ?_
    repeat (refine sxf_next fun K2 hK2 => ?_; simp [dNum, dB, dBs, hAl, hBl, hCl]; (repeat (refine ⟨by omega, ?_⟩)); refine hK2 _ ?_; clear hK2 K2)
    refine sxf_nil (hK' _ ?_)
    refine AW.st (by simp [dNum, dB, dBs, hAl, hBl, hCl]; rfl) ?_
    clear hK' K'
    refine AW_cond false rfl (fun h => by cases h) (fun _ => ?_)
    refine AW_skip (hK3 _ ?_)
    refine AW_then fun K4 hK4 => ?_
    refine AW_rg (tyOf_good _) [6, 8, 9, 12, 14, 16] [] (fun _ _ => trivial) fun K' hK' => ?_
    repeat (refine sxf_next fun K2 hK2 => ?_; simp [dNum, dB]; (repeat (refine ⟨by omega, ?_⟩)); refine hK2 _ ?_; clear hK2 K2)
    refine sxf_nil (hK' _ ?_)
    refine AW.st (by simp [dNum, dB]; rfl) ?_
    clear hK' K'
    refine AW_for (S := Nat) (fun i => i ≤ a.length + (rt.length + 1)) (fun i => ⟨lst [(6, .d (dBs A)), (8, int a.length), (9, int (rt.length + 1)), (12, .d (dBs B)), (14, .d (dBs C)), (16, int i)], hlst []⟩) (fun i => a.length + (rt.length + 1) - i) 0 ?_ (by omega) ?_
    · refine Imp.to' (fun _ _ => trivial) (by simp [dNum, dB, dBs]) (by simp [dNum, dB, dBs])
    · intro i hi
      refine AW_then fun K5 hK5 => ?_
      refine AW_rg (tyOf_good _) [6, 8, 9, 12, 14, 16, 137] [] (fun _ _ => trivial) fun K' hK' => ?_
      repeat (refine sxf_next fun K2 hK2 => ?_; simp [dNum, dB]; (repeat (refine ⟨by omega, ?_⟩)); refine hK2 _ ?_; clear hK2 K2)
      refine sxf_nil (hK' _ ?_)
      refine AW.st (by simp [dNum, dB]; rfl) ?_
      clear hK' K'
      have hcI : ((i : Int) < (a.length : Int) + ((rt.length : Int) + 1)) = (i < a.length + (rt.length + 1)) := by apply propext; omega
      by_cases hin : i < a.length + (rt.length + 1)
      · have hinI : (i : Int) < (a.length : Int) + ((rt.length : Int) + 1) := by omega
        have hiA : i < A.length := by omega
        have hiB : i < B.length := by omega
        have hiC : i < C.length := by omega
        have hb := hB1 i hin
        have hcc := hC1 i hin
        refine AW_cond' (b := true) (by simp [hinI]) (fun _ => ?_) (fun h => absurd rfl h)
        refine AW_skip (hK5 _ ?_)
        refine AW_then fun K6 hK6 => ?_
        refine AW_block ?_
        by_cases hni : a.length ≤ i
        · have hiC2 : i + (rt.length + 1) < C.length := by omega
          have hc2 := hC2 i hin hni
          have htn : ((i : Int) + ((rt.length : Int) + 1)).toNat = i + (rt.length + 1) := by omega
          have h0 : (0 : Int) ≤ (i : Int) + ((rt.length : Int) + 1) := by omega
          have h0' : (i : Int) + ((rt.length : Int) + 1) < C.length := by omega
          refine AW_rd (tyOf_good _) (by kernel_rfl) [6, 8, 9, 12, 14, 16, 177] [] (fun _ _ => trivial) (by kernel_rfl) fun K' hK' => ?_
          repeat (refine sxd_next fun K2 hK2 => ?_; simp [dNum, dB, dBs, hiA, hiB, hiC, hb, hcc, hni, hiC2, hc2, htn, h0, h0']; (repeat (refine ⟨by omega, ?_⟩)); refine hK2 _ ?_; clear hK2 K2)
          refine sxd_nil (hK' _ ?_)
          refine AW.st (by simp [dNum, dB, dBs, hiA, hiB, hiC, hb, hcc, hni, hiC2, hc2, htn, h0, h0']; rfl) ?_
          clear hK' K'
          refine AW_cond false rfl (fun h => by cases h) (fun _ => ?_)
          refine AW_skip ?_
          refine hK6 _ (AW.norm [6, 8, 9, 12, 14, 16] [] (fun _ _ => trivial) (AW.st (by simp [dNum, dB]; rfl) ?_))
          refine AW_re (tyOf_good _) fun K' hK' => ?_
          repeat (refine sxf_next fun K2 hK2 => ?_; simp [dNum, dB]; (repeat (refine ⟨by omega, ?_⟩)); refine hK2 _ ?_; clear hK2 K2)
          refine sxf_nil (hK' _ ?_)
          clear hK' K'
          try simp only [thn, inb]
          refine Again.mk (i + 1) (by omega) (by omega) ?_
          refine Imp.to' (fun _ _ => trivial) (by simp [dNum, dB, dBs]) (by simp [dNum, dB, dBs])
        · refine AW_rd (tyOf_good _) (by kernel_rfl) [6, 8, 9, 12, 14, 16, 177] [] (fun _ _ => trivial) (by kernel_rfl) fun K' hK' => ?_
          repeat (refine sxd_next fun K2 hK2 => ?_; simp [dNum, dB, dBs, hiA, hiB, hiC, hb, hcc, hni]; (repeat (refine ⟨by omega, ?_⟩)); refine hK2 _ ?_; clear hK2 K2)
          refine sxd_nil (hK' _ ?_)
          refine AW.st (by simp [dNum, dB, dBs, hiA, hiB, hiC, hb, hcc, hni]; rfl) ?_
          clear hK' K'
          refine AW_cond false rfl (fun h => by cases h) (fun _ => ?_)
          refine AW_skip ?_
          refine hK6 _ (AW.norm [6, 8, 9, 12, 14, 16] [] (fun _ _ => trivial) (AW.st (by simp [dNum, dB]; rfl) ?_))
          refine AW_re (tyOf_good _) fun K' hK' => ?_
          repeat (refine sxf_next fun K2 hK2 => ?_; simp [dNum, dB]; (repeat (refine ⟨by omega, ?_⟩)); refine hK2 _ ?_; clear hK2 K2)
          refine sxf_nil (hK' _ ?_)
          clear hK' K'
          try simp only [thn, inb]
          refine Again.mk (i + 1) (by omega) (by omega) ?_
          refine Imp.to' (fun _ _ => trivial) (by simp [dNum, dB, dBs]) (by simp [dNum, dB, dBs])
      · have hinI : ¬ (i : Int) < (a.length : Int) + ((rt.length : Int) + 1) := by omega
        refine AW_cond' (b := false) (by simp [hinI]) (fun h => by cases h) (fun _ => ?_)
        refine AW_exit (hK4 _ ?_)
        have htn : ((a.length : Int) + ((rt.length : Int) + 1)).toNat = a.length + (rt.length + 1) := by omega
        have h0 : (0 : Int) ≤ (a.length : Int) + ((rt.length : Int) + 1) := by omega
        have h0' : (a.length : Int) + ((rt.length : Int) + 1) < B.length := by omega
        have h3 : a.length + (rt.length + 1) < B.length := by omega
        have h4 : a.length < A.length := by omega
        refine AW_rd (tyOf_good _) (by kernel_rfl) [4] [] (fun _ _ => trivial) (by kernel_rfl) fun K' hK' => ?_
        repeat (refine sxd_next fun K2 hK2 => ?_; simp [dNum, dB, dBs, htn, h0, h0', h3, h4, hB2]; (repeat (refine ⟨by omega, ?_⟩)); refine hK2 _ ?_; clear hK2 K2)
        refine sxd_nil (hK' _ ?_)
        refine AW.st (by simp [dNum, dB, dBs, htn, h0, h0', h3, h4, hB2]; rfl) ?_
        clear hK' K'
        refine AW_ret ?_
        simp [D.le, D.le.go, takeMap, dNum, dB]
  · have hbd := Holds_bad G hA a r hs f hnf hE
    rw [errOf_ne hE] at hbd
    rw [hcf] at hform hbd
    refine PureC.of_body (tyOf_good _) Tryd.func8 rfl rfl (rs := [.tmp 4]) Tryd.results8 (by simp [Tryd.ntmps8]) fun X => ?_
    simp only [Tryd.ntmps8, List.map]
    refine AW_rg (tyOf_good _) [1, 2] [2] (fun _ _ => trivial) fun K' hK' => ?_
    repeat (refine sxf_next fun K2 hK2 => ?_; simp [dNum, dB, dW]; (repeat (refine ⟨by omega, ?_⟩)); refine hK2 _ ?_; clear hK2 K2)
    refine sxf_nil (hK' _ ?_)
    refine AW.st (by simp [dNum, dB, dW]; rfl) ?_
    clear hK' K'
    refine AW_then fun K1 hK1 => ?_
    refine AW_rg (tyOf_good _) [1, 2, 30] [2] (fun _ _ => trivial) fun K' hK' => ?_
    repeat (refine sxf_next fun K2 hK2 => ?_; simp [dNum, dB, dTimes, dStps, h1, h2]; (repeat (refine ⟨by omega, ?_⟩)); refine hK2 _ ?_; clear hK2 K2)
    refine sxf_nil (hK' _ ?_)
    refine AW.st (by simp [dNum, dB, dTimes, dStps, h1, h2]; rfl) ?_
    clear hK' K'
    refine AW_cond false rfl (fun h => by cases h) (fun _ => ?_)
    refine AW_skip (hK1 _ ?_)
    refine AW_rg (tyOf_good _) [2, 5] [2] (fun _ _ => trivial) fun K' hK' => ?_
    repeat (refine sxf_next fun K2 hK2 => ?_; simp [dNum, dB, dStps, dTimes]; (repeat (refine ⟨by omega, ?_⟩)); refine hK2 _ ?_; clear hK2 K2)
    refine sxf_next fun K2 hK2 => ?_
    simp [dNum, dB, dStps, dTimes]
    refine callK.data (hform) (by simp; rfl) (by first | exact D.leGo_refl _ | simp [takeMap, List.map_map, Function.comp_def, D.le, D.le.go, D.le_refl, D.leGo_refl, dNum, dB, dStps, dTimes]) ?_
    refine hK2 _ ?_
    clear hK2 K2
    simp only [putd, upd_lst]
    repeat (refine sxf_next fun K2 hK2 => ?_; simp [dNum, dB, dStps, dTimes]; (repeat (refine ⟨by omega, ?_⟩)); refine hK2 _ ?_; clear hK2 K2)
    refine sxf_nil (hK' _ ?_)
    refine AW.st (by simp [dNum, dB, dStps, dTimes]; rfl) ?_
    clear hK' K'
    refine AW_rg (tyOf_good _) [2, 5, 6, 7] [2] (fun _ _ => trivial) fun K' hK' => ?_
    repeat (refine sxf_next fun K2 hK2 => ?_; simp [dNum, dB, dW, dTimes]; (repeat (refine ⟨by omega, ?_⟩)); refine hK2 _ ?_; clear hK2 K2)
    refine sxf_next fun K2 hK2 => ?_
    simp [dNum, dB, dW, dTimes]
    refine callK.data (hbd) (by simp; rfl) (by first | exact D.leGo_refl _ | simp [takeMap, List.map_map, Function.comp_def, D.le, D.le.go, D.le_refl, D.leGo_refl, dNum, dB, dW, dTimes]) ?_
    refine hK2 _ ?_
    clear hK2 K2
    simp only [putd, upd_lst]
    repeat (refine sxf_next fun K2 hK2 => ?_; simp [dNum, dB, dW, dTimes]; (repeat (refine ⟨by omega, ?_⟩)); refine hK2 _ ?_; clear hK2 K2)
    refine sxf_nil (hK' _ ?_)
    refine AW.st (by simp [dNum, dB, dW, dTimes]; rfl) ?_
    clear hK' K'
    refine AW_then fun K2 hK2 => ?_
    refine AW_rg (tyOf_good _) [2, 5, 6, 44] [2] (fun _ _ => trivial) fun K' hK' => ?_
    repeat (refine sxf_next fun K2 hK2 => ?_; simp [dNum, dB, dErr]; (repeat (refine ⟨by omega, ?_⟩)); refine hK2 _ ?_; clear hK2 K2)
    refine sxf_next fun K2 hK2 => ?_
    simp [dNum, dB, dErr]
    refine callK.data (hla) (by simp; rfl) (by first | exact D.leGo_refl _ | simp [takeMap, List.map_map, Function.comp_def, D.le, D.le.go, D.le_refl, D.leGo_refl, dNum, dB, dErr]) ?_
    refine hK2 _ ?_
    clear hK2 K2
    simp only [putd, upd_lst]
    repeat (refine sxf_next fun K2 hK2 => ?_; simp [dNum, dB, dErr]; (repeat (refine ⟨by omega, ?_⟩)); refine hK2 _ ?_; clear hK2 K2)
    refine sxf_nil (hK' _ ?_)
    refine AW.st (by simp [dNum, dB, dErr]; rfl) ?_
    clear hK' K'
    refine AW_cond true rfl (fun _ => ?_) (fun h => by cases h)
    refine AW_rg (tyOf_good _) [4] [] (fun _ _ => trivial) fun K' hK' => ?_
    repeat (refine sxf_next fun K2 hK2 => ?_; simp [dNum, dB]; (repeat (refine ⟨by omega, ?_⟩)); refine hK2 _ ?_; clear hK2 K2)
    refine sxf_next fun K2 hK2 => ?_
    simp [dNum, dB]
    refine callK.data (hla) (by simp; rfl) (by first | exact D.leGo_refl _ | simp [takeMap, List.map_map, Function.comp_def, D.le, D.le.go, D.le_refl, D.leGo_refl, dNum, dB]) ?_
    refine hK2 _ ?_
    clear hK2 K2
    simp only [putd, upd_lst]
    repeat (refine sxf_next fun K2 hK2 => ?_; simp [dNum, dB]; (repeat (refine ⟨by omega, ?_⟩)); refine hK2 _ ?_; clear hK2 K2)
    refine sxf_nil (hK' _ ?_)
    refine AW.st (by simp [dNum, dB]; rfl) ?_
    clear hK' K'
    refine AW_ret ?_
    simp [D.le, D.le.go, takeMap, dNum, dB]
#print axioms turns_spec
end Go.Proofs.YtoikggboakojlaaDoor

/-
  Tables, as they are read.
-/
namespace Go.Proofs.YtoikggboakojlaaDoor
set_option linter.unusedSimpArgs false
set_option linter.unusedVariables false
open Go.Av Go.ChangeShapes Go.WideShapes Go.ChangeAt Go.RowKit

theorem law_own : ownKnob Tryd.prog.godebug = none := by kernel_rfl
theorem law_laidOut : laidOutB Tryd.prog = true := by kernel_rfl
theorem cells_int : Tryd.prog.cellsOf 3 = 1 := by kernel_rfl
theorem cells_ints : Tryd.prog.cellsOf 32 = 1 := by kernel_rfl
theorem cells_rows : Tryd.prog.cellsOf 23 = 1 := by kernel_rfl
theorem cells_tab : Tryd.prog.cellsOf 25 = 2 := by kernel_rfl

section
variable {H : Type} {enc : TypeId × Value → H} {w : World} {base : Nat} {spare : Nat → Bool} {held : Bool} {X : Nat → Prop}

theorem reads_ints (hX : ∀ b, ¬ X b) : ReadsAs enc Tryd.prog w base spare held X 32 (fun _ : List Int => True) (fun l => [dRow l]) := by
  intro fuel cs x h
  obtain ⟨l, _, hr⟩ := reads_slice Tryd.underlying32 cells_int (by omega) hX (reads_int Tryd.underlying3) fuel cs x h
  exact ⟨l, trivial, hr⟩
theorem reads_rows (hX : ∀ b, ¬ X b) : ReadsAs enc Tryd.prog w base spare held X 23 (fun _ : List (List Int) => True) (fun l => [dRows l]) := by
  intro fuel cs x h
  obtain ⟨l, _, hr⟩ := reads_slice Tryd.underlying23 cells_ints (by omega) hX (reads_ints hX) fuel cs x h
  exact ⟨l, trivial, hr⟩
theorem reads_tab (hX : ∀ b, ¬ X b) : ReadsAs enc Tryd.prog w base spare held X 25 (fun _ : List (List Int) × List (List Int) => True) (fun s => [dRows s.1, dRows s.2]) := by
  intro fuel cs x h
  obtain ⟨l, _, hr⟩ := reads_struct2 Tryd.underlying25 (by rw [cells_tab]; simp only [cells_rows]) rfl (by simp only [cells_rows]) (reads_rows hX) (reads_rows hX) fuel cs x h
  exact ⟨l, trivial, hr⟩
end

end Go.Proofs.YtoikggboakojlaaDoor

/-
  What is read, and how great it is at most: by what the arguments weigh.
-/
namespace Go.Proofs.YtoikggboakojlaaDoor
set_option linter.unusedSimpArgs false
set_option linter.unusedVariables false
open Go.Av Go.ChangeShapes Go.WideShapes Go.ChangeAt Go.RowKit
section
variable {P : Program} {H : Type} {enc : TypeId × Value → H} {w : World} {base : Nat} {spare : Nat → Bool} {held : Bool} {X : Nat → Prop}
theorem weightsAll_in {e : TypeId} : ∀ {l : List (DataW H)} {d : DataW H}, d ∈ l → ∀ n ∈ d.weights P e, n ∈ DataW.weightsAll P e l
  | [], _, h, _, _ => by cases h
  | d :: l, d', h, n, hn => by
    simp only [DataW.weightsAll, List.mem_append]
    rcases List.mem_cons.1 h with rfl | h
    · exact .inl hn
    · exact .inr (weightsAll_in h n hn)
/-- What is read of type t, if it weighs no more than a program may reach. -/
def ReadsW (enc : TypeId × Value → H) (P : Program) (w : World) (base : Nat) (spare : Nat → Bool) (held : Bool) (X : Nat → Prop) (t : TypeId) {α : Type} (p : α → Prop) (f : α → List D) : Prop :=
  ∀ fuel cs x, DataW.trod enc P w base spare held fuel t cs = some x → (∀ n ∈ x.1.weights P t, n ≤ reachBytes) → ∃ a, p a ∧ CellsRD w X cs (f a)
theorem ReadsAs.weighed {t : TypeId} {α : Type} {p : α → Prop} {f : α → List D} (h : ReadsAs enc P w base spare held X t p f) : ReadsW enc P w base spare held X t p f := fun fuel cs x hx _ => h fuel cs x hx
theorem readsW_string {t : TypeId} (ht : P.underlying t = some .string) : ReadsW enc P w base spare held X t (fun s : List UInt8 => s.length ≤ reachBytes) (fun s => [.v (.string (bs s))]) := by
  intro fuel cs x h hwt
  obtain ⟨s, rfl, rfl, _⟩ := DataW.trod_string ht h
  refine ⟨s.data.toList, hwt _ (by simp [DataW.weights]), .one ?_⟩
  have : bs s.data.toList = s := by cases s; simp [bs]
  rw [this]
  exact .v _
theorem readsW_slice {t e : TypeId} {α : Type} {p : α → Prop} {f : α → List D} {sz : Nat} (ht : P.underlying t = some (.slice e)) (hc : P.cellsOf e = sz) (hz : 0 < sz) (hby : 0 < P.bytesOf e) (hX : ∀ b, ¬ X b) (he : ReadsW enc P w base spare held X e p f) :
    ReadsW enc P w base spare held X t (fun l : List α => (∀ a ∈ l, p a) ∧ l.length ≤ reachBytes) (fun l => [.sl none (l.map f)]) := by
  intro fuel cs x h hwt
  rcases Deep.open_slice ht h with ⟨rfl, _⟩ | ⟨a, len, cap, m, n, DD, PP, rfl, hb, hl, hm, hmm, rfl, hx⟩
  · exact ⟨[], ⟨by simp, by simp⟩, .one (.nil (by simp))⟩
  · have hle : len ≤ m := by rw [hmm]; split <;> omega
    simp only [DataW.weights, ht, List.mem_cons, List.mem_append, List.length_map, List.length_range] at hwt
    have hlr : len ≤ reachBytes := by
      have h1 := hwt _ (.inl rfl)
      have h2 : len * 1 ≤ (len + (m - len)) * P.bytesOf e := Nat.mul_le_mul (by omega) hby
      omega
    have hdw : ∀ i, i < len → ∀ n ∈ (DD i).weights P e, n ≤ reachBytes := fun i hi n hn => hwt n (.inr (.inl (weightsAll_in (List.mem_map.2 ⟨i, List.mem_range.2 hi, rfl⟩) n hn)))
    rcases Nat.eq_zero_or_pos len with rfl | hpos
    · exact ⟨[], ⟨by simp, by simp⟩, .one (.empty (by simp) hm)⟩
    · have hel : ∀ i, i < len → ∃ x, p x ∧ ∃ cs', w.cells? base (a.add (i * P.cellsOf e)) (P.cellsOf e) = some cs' ∧ CellsRD w X cs' (f x) := fun i hi => by
        obtain ⟨cs', h1, h2⟩ := hx i (by omega)
        obtain ⟨x, hp, hr⟩ := he _ _ _ h2 (hdw i hi)
        exact ⟨x, hp, cs', h1, hr⟩
      have : Inhabited α := ⟨(hel 0 hpos).choose⟩
      obtain ⟨g, hg⟩ := Deep.choose_lt hel
      refine ⟨(List.range len).map g, ⟨fun y hy => ?_, by simp; omega⟩, .one ?_⟩
      · obtain ⟨i, hi, rfl⟩ := List.mem_map.1 hy
        exact (hg i (List.mem_range.1 hi)).1
      rw [hc] at hg
      have hcell : ∀ i j, i < len → j < sz → ∃ u, w.cell? ((a.add (i * sz)).add j) = some u ∧ (∀ c, (f (g i))[j]? = some c → RD w X u c) ∧ (f (g i)).length = sz := fun i j hi hj => by
        obtain ⟨_, cs', h1, h2, h3⟩ := hg i hi
        obtain ⟨_, hlen, hcs⟩ := World.cells?_some h1
        refine ⟨cs'[j], by rw [hcs j hj]; simp [hlen, hj], fun c hcc => h3 j _ c (by simp [hlen, hj]) hcc, by omega⟩
      have hspot : a.spot = none := by
        obtain ⟨u, hu, _⟩ := hcell 0 0 hpos hz
        simp only [Nat.zero_mul, Addr.add, if_true] at hu
        exact World.cell?_spot hu
      obtain ⟨b, off, spot⟩ := a
      dsimp only at hspot
      subst hspot
      have hcell : ∀ i j, i < len → j < sz → ∃ u, w.cell? ⟨b, off + (i * sz + j), none⟩ = some u ∧ (∀ c, (f (g i))[j]? = some c → RD w X u c) ∧ (f (g i)).length = sz := fun i j hi hj => by
        have := hcell i j hi hj
        rwa [addr_add, addr_add, Nat.add_assoc] at this
      refine .sl (f := fun i j => (w.cell? ⟨b, off + (i * sz + j), none⟩).getD undef) (by simp) (by simp) hl hm (hX b) (fun el hel => ?_) hz hpos (fun i j hi hj => ?_) (fun i j el c h1 h2 => ?_)
      · obtain ⟨y, hy, rfl⟩ := List.mem_map.1 hel
        obtain ⟨i, hi, rfl⟩ := List.mem_map.1 hy
        exact (hcell i 0 (List.mem_range.1 hi) hz).choose_spec.2.2
      · obtain ⟨u, hu, _⟩ := hcell i j hi hj
        rw [hu]; rfl
      · rw [List.getElem?_map, List.getElem?_map] at h1
        obtain ⟨y, hy, rfl⟩ := Option.map_eq_some_iff.1 h1
        obtain ⟨i', hi', rfl⟩ := Option.map_eq_some_iff.1 hy
        obtain ⟨hlt, rfl⟩ := List.getElem?_eq_some_iff.1 hi'
        rw [List.getElem_range] at h2
        simp only [List.length_range] at hlt
        have hj : j < sz := by
          obtain ⟨_, _, _, h3⟩ := hcell i 0 hlt hz
          rw [← h3]
          exact (List.getElem?_eq_some_iff.1 h2).1
        obtain ⟨u, hu, hr, _⟩ := hcell i j hlt hj
        rw [hu]
        exact hr c h2

theorem readsW_struct2 {t : TypeId} {f0 f1 : Field} {α β : Type} {p : α → Prop} {q : β → Prop} {f : α → List D} {g : β → List D} (ht : P.underlying t = some (.struct #[f0, f1])) (hn : P.cellsOf t = P.cellsOf f0.type + P.cellsOf f1.type) (h0 : f0.offset = 0) (h1 : f1.offset = P.cellsOf f0.type)
    (hf : ReadsW enc P w base spare held X f0.type p f) (hg : ReadsW enc P w base spare held X f1.type q g) : ReadsW enc P w base spare held X t (fun s : α × β => p s.1 ∧ q s.2) (fun s => f s.1 ++ g s.2) := by
  intro fuel cs x h hwt
  obtain ⟨y0, y1, n, hx, hl, t0, t1⟩ := trod_struct2 ht h
  subst hx
  simp only [DataW.weights, ht, DataW.weightsEach, List.map_cons, List.map_nil, List.mem_append, List.append_nil] at hwt
  obtain ⟨a, pa, ca⟩ := hf _ _ _ t0 fun n hn => hwt n (.inl hn)
  obtain ⟨b, pb, cb⟩ := hg _ _ _ t1 fun n hn => hwt n (.inr hn)
  refine ⟨(a, b), ⟨pa, pb⟩, ?_⟩
  have e0 : cs = (cs.drop f0.offset).take (P.cellsOf f0.type) ++ (cs.drop f1.offset).take (P.cellsOf f1.type) := by
    rw [h0, h1, List.drop_zero, List.take_of_length_le (l := List.drop _ _) (by simp; omega), List.take_append_drop]
  rw [e0]
  obtain ⟨la, ra⟩ := ca
  obtain ⟨lb, rb⟩ := cb
  refine ⟨by rw [List.length_append, List.length_append, la, lb], fun j u c hu hc => ?_⟩
  rcases Nat.lt_or_ge j (f a).length with hj | hj
  · rw [List.getElem?_append_left (by omega)] at hu hc
    exact ra j u c hu hc
  · rw [List.getElem?_append_right (by omega)] at hu hc
    rw [la] at hu
    exact rb _ u c hu hc

end
end Go.Proofs.YtoikggboakojlaaDoor

/-
  Words and steps, as they are read, and how great they are at most.
-/
namespace Go.Proofs.YtoikggboakojlaaDoor
set_option linter.unusedSimpArgs false
set_option linter.unusedVariables false
open Go.Av Go.ChangeShapes Go.WideShapes Go.ChangeAt Go.RowKit

theorem cells_str : Tryd.prog.cellsOf 9 = 1 := by kernel_rfl
theorem cells_strs : Tryd.prog.cellsOf 75 = 1 := by kernel_rfl
theorem cells_times : Tryd.prog.cellsOf 68 = 1 := by kernel_rfl
theorem cells_word : Tryd.prog.cellsOf 70 = 2 := by kernel_rfl
theorem cells_step : Tryd.prog.cellsOf 126 = 4 := by kernel_rfl
theorem by_str : 0 < Tryd.prog.bytesOf 9 := by
  have h : Tryd.prog.bytesOf 9 = 16 := by kernel_rfl
  omega
theorem by_strs : 0 < Tryd.prog.bytesOf 75 := by
  have h : Tryd.prog.bytesOf 75 = 24 := by kernel_rfl
  omega
theorem list4 {α : Type} : ∀ {l : List α}, l.length = 4 → ∃ a b c d, l = [a, b, c, d]
  | [a, b, c, d], _ => ⟨a, b, c, d, rfl⟩
theorem by_step : 0 < Tryd.prog.bytesOf 126 := by
  have h : Tryd.prog.bytesOf 126 = 40 := by kernel_rfl
  omega
section
variable {H : Type} {enc : TypeId × Value → H} {w : World} {base : Nat} {spare : Nat → Bool} {held : Bool} {X : Nat → Prop}
theorem readsW_names (hX : ∀ b, ¬ X b) : ReadsW enc Tryd.prog w base spare held X 75 (fun l : List (List UInt8) => (∀ s ∈ l, s.length ≤ reachBytes) ∧ l.length ≤ reachBytes) (fun l => [dNames l]) := readsW_slice Tryd.underlying75 cells_str (by omega) by_str hX (readsW_string Tryd.underlying9)
theorem readsW_times (hX : ∀ b, ¬ X b) : ReadsW enc Tryd.prog w base spare held X 68 (fun l : Times => (∀ t ∈ l, (∀ s ∈ t, s.length ≤ reachBytes) ∧ t.length ≤ reachBytes) ∧ l.length ≤ reachBytes) (fun l => [dTimes l]) := readsW_slice Tryd.underlying68 cells_strs (by omega) by_strs hX (readsW_names hX)
theorem readsW_word (hX : ∀ b, ¬ X b) : ReadsW enc Tryd.prog w base spare held X 70 (fun s : Times × Times => Small s.1 s.2) (fun s => [dTimes s.1, dTimes s.2]) := by
  intro fuel cs x h hwt
  obtain ⟨s, ⟨⟨a1, a2⟩, b1, b2⟩, hr⟩ := readsW_struct2 Tryd.underlying70 (by rw [cells_word]; simp only [cells_times]) rfl (by simp only [cells_times]) (readsW_times hX) (readsW_times hX) fuel cs x h hwt
  have hb : reachBytes < 2^47 := by decide
  refine ⟨s, ⟨by omega, fun t ht => ?_, fun t ht q hq => ?_⟩, hr⟩
  · rcases List.mem_append.1 ht with ht | ht
    · have := (a1 t ht).2; omega
    · have := (b1 t ht).2; omega
  · rcases List.mem_append.1 ht with ht | ht
    · have := (a1 t ht).1 q hq; omega
    · have := (b1 t ht).1 q hq; omega
theorem trod_struct4 {P : Program} {t : TypeId} {f0 f1 f2 f3 : Field} {fuel : Nat} {cs : List Value} {x : DataW H × List MemPlace} (ht : P.underlying t = some (.struct #[f0, f1, f2, f3])) (h : DataW.trod enc P w base spare held fuel t cs = some x) :
    ∃ y0 y1 y2 y3 n, x.1 = .agg [y0.1, y1.1, y2.1, y3.1] ∧ cs.length = P.cellsOf t ∧ DataW.trod enc P w base spare held n f0.type ((cs.drop f0.offset).take (P.cellsOf f0.type)) = some y0 ∧ DataW.trod enc P w base spare held n f1.type ((cs.drop f1.offset).take (P.cellsOf f1.type)) = some y1 ∧
      DataW.trod enc P w base spare held n f2.type ((cs.drop f2.offset).take (P.cellsOf f2.type)) = some y2 ∧ DataW.trod enc P w base spare held n f3.type ((cs.drop f3.offset).take (P.cellsOf f3.type)) = some y3 := by
  obtain ⟨xs, n, _, rfl, hl, hlen, hf⟩ := DataW.trod_struct ht h
  obtain ⟨y0, y1, y2, y3, rfl⟩ := list4 hlen
  exact ⟨y0, y1, y2, y3, n, by simp, hl, by simpa using hf 0 f0 rfl, by simpa using hf 1 f1 rfl, by simpa using hf 2 f2 rfl, by simpa using hf 3 f3 rfl⟩
theorem readsW_step : ReadsW enc Tryd.prog w base spare held X 126 (fun x : Stp => x.name.length ≤ reachBytes) (fun x => [dNum x.kind, dNum x.a, dNum x.b, dS x.name]) := by
  intro fuel cs x h hwt
  obtain ⟨y0, y1, y2, y3, n, hx, hl, t0, t1, t2, t3⟩ := trod_struct4 Tryd.underlying126 h
  rw [cells_step] at hl
  obtain ⟨c0, c1, c2, c3, rfl⟩ := list4 hl
  rw [hx] at hwt
  · simp only [cells_int] at t0 t1 t2
    simp only [cells_str] at t3
    obtain ⟨n0, e0, _, _⟩ := DataW.trod_int Tryd.underlying3 (show DataW.trod enc Tryd.prog w base spare held n 3 [c0] = some y0 from t0)
    obtain ⟨n1, e1, _, _⟩ := DataW.trod_int Tryd.underlying3 (show DataW.trod enc Tryd.prog w base spare held n 3 [c1] = some y1 from t1)
    obtain ⟨n2, e2, _, _⟩ := DataW.trod_int Tryd.underlying3 (show DataW.trod enc Tryd.prog w base spare held n 3 [c2] = some y2 from t2)
    obtain ⟨s, e3, e4, _⟩ := DataW.trod_string Tryd.underlying9 (show DataW.trod enc Tryd.prog w base spare held n 9 [c3] = some y3 from t3)
    simp only [List.cons.injEq, and_true] at e0 e1 e2 e3
    subst e0 e1 e2 e3
    have hb : bs s.data.toList = s := by cases s; simp [bs]
    refine ⟨⟨n0, n1, n2, s.data.toList⟩, hwt _ ?_, rfl, fun j u c hu hc => ?_⟩
    · rw [e4]
      simp [DataW.weights, Tryd.underlying126, DataW.weightsEach]
    · match j, hu, hc with
      | 0, hu, hc => simp at hu hc; subst hu hc; exact .v _
      | 1, hu, hc => simp at hu hc; subst hu hc; exact .v _
      | 2, hu, hc => simp at hu hc; subst hu hc; exact .v _
      | 3, hu, hc => simp [dS, hb] at hu hc; subst hu hc; exact .v _
      | j + 4, hu, hc => simp at hu
theorem readsW_steps (hX : ∀ b, ¬ X b) : ReadsW enc Tryd.prog w base spare held X 71 (fun l : List Stp => (∀ x ∈ l, x.name.length ≤ reachBytes) ∧ l.length ≤ reachBytes) (fun l => [dStps l]) := readsW_slice Tryd.underlying71 cells_step (by omega) by_step hX readsW_step
end
end Go.Proofs.YtoikggboakojlaaDoor

/-
  Package-level variables that are laid: errors.errorType, and lasso's arity.
-/
namespace Go.Proofs.YtoikggboakojlaaDoor
set_option linter.unusedSimpArgs false
set_option linter.unusedVariables false
open Go.Av Go.ChangeShapes Go.WideShapes Go.ChangeAt Go.RowKit

theorem laid_et : Tryd.prog.globalNamed "errors.errorType" = some 1 := by kernel_rfl
theorem laid_rt : (Tryd.prog.cutTypes.find? (·.1 == "internal/reflectlite.rtype")).map (·.2) = some 177 := by kernel_rfl
theorem laid_oneRow : ((List.range (333 - 100)).filter fun t => Tryd.prog.rowNamed t [101, 114, 114, 111, 114]) = [34] := by kernel_rfl
theorem laid_size : Tryd.prog.types.size = 333 - 100 := by kernel_rfl
theorem laid_ar : Tryd.prog.globalNamed "signalcabin/lasso.arity" = some 2 := by kernel_rfl
theorem laid_arT : (Tryd.prog.globals[2]?).map (·.type) = some 170 := by kernel_rfl
theorem cells_ar : Tryd.prog.cellsOf 170 = 11 := by kernel_rfl

def laidE : List (String × DataW Unit) := [("errors.errorType", Rows.laid_errors_errorType)]
def laidA : List (String × DataW Unit) := [("signalcabin/lasso.arity", Rows.laid_signalcabin_lasso_arity)]

theorem handle_of_met {W : World} (h : handlesMet Tryd.prog laidE W) : W.cell? ⟨1, 0, none⟩ = some errType := by
  obtain ⟨name, u, ty, e1, e2, e3, e4, e5⟩ := h _ (List.mem_singleton.2 rfl)
  have en : name = [101, 114, 114, 111, 114] := (Option.some.inj e1).symm
  subst en
  obtain rfl := Option.some.inj (laid_rt.symm.trans e2)
  have hm : ty ∈ (List.range (333 - 100)).filter fun t => Tryd.prog.rowNamed t [101, 114, 114, 111, 114] := List.mem_filter.2 ⟨List.mem_range.2 (by rw [← laid_size]; exact e3), e4⟩
  rw [laid_oneRow] at hm
  obtain rfl := List.mem_singleton.1 hm
  have hh : typeHandle Tryd.prog 34 = .pointer (some ⟨6, 34, none⟩) := by kernel_rfl
  rw [hh] at e5
  simpa [errType] using World.var?_cell laid_et e5 0

theorem laid_ar_lits : (Rows.laid_signalcabin_lasso_arity : DataW Unit) = .agg (arityL.map fun n => .lit (.int .i64 n)) := rfl
theorem arity_of_met {W : World} (h : laidMet Tryd.prog laidA W) : ∀ i n, arityL[i]? = some n → W.cell? ⟨2, i, none⟩ = some (.int .i64 n) := by
  intro i n hin
  obtain ⟨ps, hv, _, _⟩ := h
  obtain ⟨g, t, cs, fuel, p, q, hg, ht, hcs, htr, _, _⟩ := hv
  obtain rfl := Option.some.inj (laid_ar.symm.trans hg)
  obtain rfl := Option.some.inj (laid_arT.symm.trans ht)
  obtain ⟨xs, m, _, hx, hl, hxl, hel⟩ := DataW.trod_array Tryd.underlying170 htr
  have hd : (Rows.laid_signalcabin_lasso_arity : DataW Unit) = .agg (xs.map (·.1)) := congrArg (·.1) hx
  rw [laid_ar_lits, DataW.agg.injEq] at hd
  have hi : i < 11 := (List.getElem?_eq_some_iff.1 hin).1
  have he := hel i hi
  rw [cells_int, Nat.mul_one] at he
  have hxi : i < xs.length := by omega
  rw [List.getElem?_eq_getElem hxi] at he
  obtain ⟨k, e1, e2, _⟩ := DataW.trod_int Tryd.underlying3 he
  have hk := congrArg (fun l => l[i]?) hd
  simp only [List.getElem?_map, hin, List.getElem?_eq_getElem hxi, Option.map_some, e2, Option.some.injEq, DataW.lit.injEq, Lit.int.injEq, true_and] at hk
  subst hk
  have c0 : cs[i]? = some (.int .i64 n) := by
    have h0 : ((cs.toList.drop i).take (Tryd.prog.cellsOf 3))[0]? = some (.int .i64 n) := by rw [cells_int, e1]; rfl
    rw [cells_int] at h0
    simpa using h0
  rw [World.var?_cell laid_ar hcs i]
  exact c0

theorem RD.ints {W : World} {X : Nat → Prop} {g : Nat} {l : List Int} (hX : ∀ b, ¬ X b) (hl : 0 < l.length) (h : ∀ i n, l[i]? = some n → W.cell? ⟨g, i, none⟩ = some (.int .i64 n)) : RD W X (.pointer (some ⟨g, 0, none⟩)) (.ip (l.map dNum)) := by
  refine .ip (f := fun j => .int .i64 (l.getD j 0)) (hX _) (cell_lt (h 0 l[0] (by simp [hl]))) (fun j hj => ?_) fun j c hc => ?_
  · rw [List.length_map] at hj
    have := h j l[j] (by simp [hj])
    simpa [hj] using this
  · rw [List.getElem?_map] at hc
    cases hj : l[j]? with
    | none => rw [hj] at hc; cases hc
    | some n =>
      rw [hj] at hc
      obtain rfl := Option.some.inj hc
      rw [List.getD_eq_getElem?_getD, hj]
      exact .v _
def globEA : Glob := fun g => if g = 1 then some (.ip [.v errType]) else if g = 2 then some (.ip (arityL.map dNum)) else none
theorem globEA_err : HasErr globEA := rfl
theorem globEA_arity : HasArity globEA := rfl
theorem globEA_ok {W : World} (ha : laidMet Tryd.prog laidA W) (he : handlesMet Tryd.prog laidE W) : ∀ g x, globEA g = some x → RD W (fun _ => False) (.pointer (some ⟨g, 0, none⟩)) x := fun g x hx => by
  unfold globEA at hx
  split at hx
  · rename_i hg
    subst hg
    obtain rfl := Option.some.inj hx
    exact RD.cell1 (by simp) (handle_of_met he)
  · split at hx
    · rename_i hg
      subst hg
      obtain rfl := Option.some.inj hx
      exact RD.ints (by simp) (by decide) (arity_of_met ha)
    · cases hx
end Go.Proofs.YtoikggboakojlaaDoor
