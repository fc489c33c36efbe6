/-
  Texts that belong together, in one file: B4, B5, B6, P9, B7, P10, P14.
-/
import Derived.Test.YtoikggboakojlaaDoorLh4
/-
  Formulas made of steps: plain.At, plain.Formula.
-/
namespace Go.Proofs.YtoikggboakojlaaDoor
set_option linter.unusedSimpArgs false
set_option linter.unusedVariables false
open Go.Av

/-- A place in a list of so many. -/
def atF (n : Int) (many : Nat) : Nat := ((n % 18446744073709551616) % many).toNat
theorem atF_lt (n : Int) {many : Nat} (h : 0 < many) : atF n many < many := by
  unfold atF
  have h1 : 0 ≤ (n % 18446744073709551616) % (many : Int) := Int.emod_nonneg _ (by omega)
  have h2 : (n % 18446744073709551616) % (many : Int) < many := Int.emod_lt_of_pos _ (by omega)
  omega
theorem at0_spec (G : Glob) (a : Int) (n : Nat) (hn : 0 < n) (hn2 : n < 2^62) : PureC Tryd.prog G 73 [dNum a, dNum n] (dNum (atF a n)) := by
  have hw : IntKind.u64.wrap (n : Int) = n := by rw [wrap_u64]; omega
  have hu : 0 ≤ IntKind.u64.wrap a := by rw [wrap_u64]; omega
  have hn0 : ¬ n = 0 := by omega
  have ht : (IntKind.u64.wrap a).tmod n = (IntKind.u64.wrap a) % n := Int.tmod_eq_emod_of_nonneg hu
  have h1 : 0 ≤ (IntKind.u64.wrap a) % (n : Int) := Int.emod_nonneg _ (by omega)
  have h2 : (IntKind.u64.wrap a) % (n : Int) < n := Int.emod_lt_of_pos _ (by omega)
  have hr : (IntKind.u64.wrap a).tmod n = (atF a n : Int) := by rw [ht]; unfold atF; rw [← wrap_u64]; omega
  rw [← ht] at h1 h2
  rw [← hr]
  refine PureC.of_body (tyOf_good _) Tryd.func73 rfl rfl (rs := [.tmp 4]) Tryd.results73 (by simp [Tryd.ntmps73]) fun X => ?_
  simp only [Tryd.ntmps73, List.map]
  refine AW_rg (tyOf_good _) [0, 1] [] (fun _ _ => trivial) fun K' hK' => ?_
  repeat (refine sxf_next fun K2 hK2 => ?_; simp [dNum]; (repeat (refine ⟨by omega, ?_⟩)); refine hK2 _ ?_; clear hK2 K2)
  refine sxf_nil (hK' _ ?_)
  refine AW.st (by simp [dNum]; rfl) ?_
  clear hK' K'
  refine AW_rg (tyOf_good _) [4] [] (fun _ _ => trivial) fun K' hK' => ?_
  repeat (refine sxf_next fun K2 hK2 => ?_; simp [hw, hn0]; (repeat (refine ⟨by omega, ?_⟩)); refine hK2 _ ?_; clear hK2 K2)
  refine sxf_nil (hK' _ ?_)
  refine AW.st (by simp [hw, hn0]; rfl) ?_
  clear hK' K'
  refine AW_ret ?_
  simp [D.le, D.le.go, takeMap, dNum]

structure Stp where
  kind : Int
  a : Int
  b : Int
  name : List UInt8
def dStp (x : Stp) : D := .agg [dNum x.kind, dNum x.a, dNum x.b, dS x.name]
def dStps (l : List Stp) : D := .sl none (l.map fun x => [dNum x.kind, dNum x.a, dNum x.b, dS x.name])

/-- What a step makes of those ahead. -/
def stepF (all : List Fm) (x : Stp) : Fm :=
  if x.kind = 2 then .mk 2 [] []
  else if x.kind = 3 ∨ x.kind = 6 ∨ x.kind = 9 ∨ x.kind = 10 then .mk x.kind [] [all.getD (atF x.a all.length) .nil]
  else if x.kind = 4 ∨ x.kind = 5 ∨ x.kind = 7 ∨ x.kind = 8 then .mk x.kind [] [all.getD (atF x.a all.length) .nil, all.getD (atF x.b all.length) .nil]
  else .mk 1 x.name []
def allF : List Stp → List Fm → List Fm
  | [], all => all
  | x :: l, all => allF l (all ++ [stepF all x])
/-- Those that the first steps make. -/
def madeF (l : List Stp) (i : Nat) : List Fm := allF (l.take i) [.mk 2 [] []]
theorem allF_snoc (x : Stp) : ∀ (l : List Stp) (all : List Fm), allF (l ++ [x]) all = allF l all ++ [stepF (allF l all) x]
  | [], all => rfl
  | y :: l, all => by simp only [List.cons_append, allF]; exact allF_snoc x l _
theorem allF_len : ∀ (l : List Stp) (all : List Fm), (allF l all).length = all.length + l.length
  | [], all => rfl
  | y :: l, all => by simp only [allF, allF_len l, List.length_append, List.length_cons, List.length_nil]; omega
theorem madeF_len (l : List Stp) {i : Nat} (h : i ≤ l.length) : (madeF l i).length = i + 1 := by
  unfold madeF
  rw [allF_len, List.length_take, List.length_singleton]
  omega
theorem madeF_succ {l : List Stp} {i : Nat} (h : i < l.length) : madeF l (i + 1) = madeF l i ++ [stepF (madeF l i) l[i]] := by
  unfold madeF
  rw [List.take_succ_eq_append_getElem h, allF_snoc]
/-- The last one. -/
def formF (l : List Stp) : Fm := (madeF l l.length).getD l.length .nil

/-- It is one. -/
def IsMk (f : Fm) : Prop := ∃ k s l, f = .mk k s l
theorem IsMk.ip {f : Fm} (h : IsMk f) : ∃ c, dF f = .ip c := by
  obtain ⟨k, s, l, rfl⟩ := h
  exact ⟨_, rfl⟩
theorem stepF_mk (all : List Fm) (x : Stp) : IsMk (stepF all x) := by
  unfold stepF
  repeat' split
  all_goals exact ⟨_, _, _, rfl⟩
theorem allF_mk : ∀ (l : List Stp) (all : List Fm), (∀ f ∈ all, IsMk f) → ∀ f ∈ allF l all, IsMk f
  | [], all, h => h
  | x :: l, all, h => allF_mk l _ fun f hf => by
    rcases List.mem_append.1 hf with hf | hf
    · exact h f hf
    · rw [List.mem_singleton] at hf; subst hf; exact stepF_mk all x
theorem madeF_mk (l : List Stp) (i : Nat) : ∀ f ∈ madeF l i, IsMk f := allF_mk _ _ fun f hf => by
  rw [List.mem_singleton] at hf; subst hf; exact ⟨_, _, _, rfl⟩

set_option maxHeartbeats 8000000 in
theorem formula_spec (G : Glob) (l : List Stp) (hl : l.length < 2^40) : PureC Tryd.prog G 39 [dStps l] (dF (formF l)) := by
  refine PureC.of_body (tyOf_good _) Tryd.func39 rfl rfl (rs := [.tmp 2]) Tryd.results39 (by simp [Tryd.ntmps39]) fun X => ?_
  simp only [Tryd.ntmps39, List.map]
  refine AW_rg (tyOf_good _) [0] [] (fun _ _ => trivial) fun K' hK' => ?_
  repeat (refine sxf_next fun K2 hK2 => ?_; simp [dNum]; (repeat (refine ⟨by omega, ?_⟩)); refine hK2 _ ?_; clear hK2 K2)
  refine sxf_nil (hK' _ ?_)
  refine AW.st (by simp [dNum]; rfl) ?_
  clear hK' K'
  refine AW_rg (tyOf_good _) [0, 3] [11] (fun _ _ => trivial) fun K' hK' => ?_
  repeat (refine sxf_next fun K2 hK2 => ?_; simp [dNum, dStps]; (repeat (refine ⟨by omega, ?_⟩)); refine hK2 _ ?_; clear hK2 K2)
  refine sxf_nil (hK' _ ?_)
  refine AW.st (by simp [dNum, dStps]; rfl) ?_
  clear hK' K'
  refine AW_then fun K1 hK1 => ?_
  refine AW_rg (tyOf_good _) [3, 12, 13, 14] [11] (fun _ _ => trivial) fun K' hK' => ?_
  repeat (refine sxf_next fun K2 hK2 => ?_; simp [dNum, dStps]; (repeat (refine ⟨by omega, ?_⟩)); refine hK2 _ ?_; clear hK2 K2)
  refine sxf_nil (hK' _ ?_)
  refine AW.st (by simp [dNum, dStps]; rfl) ?_
  clear hK' K'
  refine AW_for (S := Nat) (fun i => i ≤ l.length) (fun i => ⟨lst [(3, .own 11 0 (i + 1)), (12, .d (dStps l)), (13, int l.length), (14, int i)], hlst [(11, .sl 72 1 ((madeF l i).map fun f => [dF f]))]⟩) (fun i => l.length - i) 0 ?_ (by omega) ?_
  · refine Imp.to' (fun _ _ => trivial) (by simp [dNum, dStps, madeF, allF, dF, dFs, ofK, dS, bs_nil]) (by simp [dNum, dStps, madeF, allF, dF, dFs, ofK, dS, bs_nil])
  · intro i hi
    have hml := madeF_len l hi
    refine AW_rg (tyOf_good _) [3, 12, 13, 14, 15] [11] (fun _ _ => trivial) fun K' hK' => ?_
    repeat (refine sxf_next fun K2 hK2 => ?_; simp [dNum, dStps]; (repeat (refine ⟨by omega, ?_⟩)); refine hK2 _ ?_; clear hK2 K2)
    refine sxf_nil (hK' _ ?_)
    refine AW.st (by simp [dNum, dStps]; rfl) ?_
    clear hK' K'
    refine AW_then fun K2 hK2 => ?_
    refine AW_cond' (b := i < l.length) (by simp [D.le, D.le.go, takeMap, dNum]) (fun hc => ?_) (fun hc => ?_)
    · have hil : i < l.length := hc
      have hms := madeF_succ hil
      have hmk := madeF_mk l i
      refine AW_skip (hK2 _ ?_)
      refine AW_then fun K3 hK3 => ?_
      refine AW_block ?_
      refine AW_rg (tyOf_good _) [3, 5, 12, 13, 14] [5, 11] (fun _ _ => trivial) fun K' hK' => ?_
      repeat (refine sxf_next fun K2 hK2 => ?_; simp [dNum, dStps, hil, dS]; (repeat (refine ⟨by omega, ?_⟩)); refine hK2 _ ?_; clear hK2 K2)
      refine sxf_nil (hK' _ ?_)
      refine AW.st (by simp [dNum, dStps, hil, dS]; rfl) ?_
      clear hK' K'
      refine AW_rg (tyOf_good _) [3, 5, 6, 12, 13, 14] [5, 11, 21] (fun _ _ => trivial) fun K' hK' => ?_
      repeat (refine sxf_next fun K2 hK2 => ?_; simp [dNum]; (repeat (refine ⟨by omega, ?_⟩)); refine hK2 _ ?_; clear hK2 K2)
      refine sxf_nil (hK' _ ?_)
      refine AW.st (by simp [dNum]; rfl) ?_
      clear hK' K'
      obtain ⟨ja, hja, hea⟩ : ∃ ja, ja < i + 1 ∧ atF l[i].a (i + 1) = ja := ⟨_, atF_lt _ (by omega), rfl⟩
      obtain ⟨jb, hjb, heb⟩ : ∃ jb, jb < i + 1 ∧ atF l[i].b (i + 1) = jb := ⟨_, atF_lt _ (by omega), rfl⟩
      have hcalla := at0_spec G l[i].a (i + 1) (by omega) (by omega)
      have hcallb := at0_spec G l[i].b (i + 1) (by omega) (by omega)
      rw [hea] at hcalla
      rw [heb] at hcallb
      have hja2 : ja < (madeF l i).length := by omega
      have hjb2 : jb < (madeF l i).length := by omega
      have hsa : (madeF l i).getD (atF l[i].a (madeF l i).length) .nil = (madeF l i)[ja] := by
        rw [show atF l[i].a (madeF l i).length = ja by rw [hml]; exact hea]
        simp [List.getD_eq_getElem?_getD, hja2]
      have hsb : (madeF l i).getD (atF l[i].b (madeF l i).length) .nil = (madeF l i)[jb] := by
        rw [show atF l[i].b (madeF l i).length = jb by rw [hml]; exact heb]
        simp [List.getD_eq_getElem?_getD, hjb2]
      obtain ⟨ca, hca⟩ := (hmk _ (List.getElem_mem hja2)).ip
      obtain ⟨cb, hcb⟩ := (hmk _ (List.getElem_mem hjb2)).ip
      have hji : (ja : Int) < (i : Int) + 1 := by omega
      have hjj : (jb : Int) < (i : Int) + 1 := by omega
      refine AW_rd (tyOf_good _) (by kernel_rfl) [3, 5, 6, 7, 8, 12, 13, 14] [5, 11, 21] (fun _ _ => trivial) (by kernel_rfl) fun K' hK' => ?_
      repeat (refine sxd_next fun K2 hK2 => ?_; simp [dNum, hml, hja, hjb, hja2, hjb2, hji, hjj, hca, hcb]; (repeat (refine ⟨by omega, ?_⟩)); refine hK2 _ ?_; clear hK2 K2)
      refine sxd_next fun K2 hK2 => ?_
      simp [dNum, hml, hja, hjb, hja2, hjb2, hji, hjj, hca, hcb]
      refine callQ.data (hcalla) (by simp; rfl) (by simp; rfl) (by first | exact D.leGo_refl _ | simp [takeMap, List.map_map, Function.comp_def, D.le, D.le.go, D.le_refl, D.leGo_refl, dNum, hml, hja, hjb, hja2, hjb2, hji, hjj, hca, hcb]) ?_
      refine hK2 _ ?_
      clear hK2 K2
      simp only [putd, upd_lst]
      repeat (refine sxd_next fun K2 hK2 => ?_; simp [dNum, hml, hja, hjb, hja2, hjb2, hji, hjj, hca, hcb]; (repeat (refine ⟨by omega, ?_⟩)); refine hK2 _ ?_; clear hK2 K2)
      refine sxd_next fun K2 hK2 => ?_
      simp [dNum, hml, hja, hjb, hja2, hjb2, hji, hjj, hca, hcb]
      refine callQ.data (hcallb) (by simp; rfl) (by simp; rfl) (by first | exact D.leGo_refl _ | simp [takeMap, List.map_map, Function.comp_def, D.le, D.le.go, D.le_refl, D.leGo_refl, dNum, hml, hja, hjb, hja2, hjb2, hji, hjj, hca, hcb]) ?_
      refine hK2 _ ?_
      clear hK2 K2
      simp only [putd, upd_lst]
      repeat (refine sxd_next fun K2 hK2 => ?_; simp [dNum, hml, hja, hjb, hja2, hjb2, hji, hjj, hca, hcb]; (repeat (refine ⟨by omega, ?_⟩)); refine hK2 _ ?_; clear hK2 K2)
      refine sxd_nil (hK' _ ?_)
      refine AW.st (by simp [dNum, hml, hja, hjb, hja2, hjb2, hji, hjj, hca, hcb]; rfl) ?_
      clear hK' K'
      refine AW_then fun K4 hK4 => ?_
      refine AW_rg (tyOf_good _) [3, 5, 6, 7, 8, 12, 13, 14, 39] [5, 11, 21] (fun _ _ => trivial) fun K' hK' => ?_
      repeat (refine sxf_next fun K2 hK2 => ?_; simp [dNum]; (repeat (refine ⟨by omega, ?_⟩)); refine hK2 _ ?_; clear hK2 K2)
      refine sxf_nil (hK' _ ?_)
      refine AW.st (by simp [dNum]; rfl) ?_
      clear hK' K'
      refine AW_block ?_
      refine' late (fun hrest => ?_) ?_
      rotate_left
      · by_cases h2 : l[i].kind = 2
        · refine AW_rg (tyOf_good _) [3, 5, 6, 7, 8, 12, 13, 14, 39, 48] [5, 11, 21] (fun _ _ => trivial) fun K' hK' => ?_
          repeat (refine sxf_next fun K2 hK2 => ?_; simp [dNum, h2]; (repeat (refine ⟨by omega, ?_⟩)); refine hK2 _ ?_; clear hK2 K2)
          refine sxf_nil (hK' _ ?_)
          refine AW.st (by simp [dNum, h2]; rfl) ?_
          clear hK' K'
          refine AW_cond true rfl (fun _ => ?_) (fun h => by cases h)
          refine AW_skip ?_
          refine hK4 _ (AW.norm [3, 6, 12, 13, 14] [11, 21] (fun _ _ => trivial) (AW.st (by simp [dNum]; rfl) ?_))
          have hst : stepF (madeF l i) l[i] = .mk 2 [] [] := by
            unfold stepF
            rw [if_pos h2]
          refine AW.imp (Imp.freezeB 21 trivial) ?_
          refine AW.st (by simp [dNum]; rfl) ?_
          refine AW.st (show _ = (⟨lst [(3, .own 11 0 (i + 1)), (6, .d (dF (stepF (madeF l i) l[i]))), (12, .d (dStps l)), (13, int l.length), (14, int i)], hlst [(11, .sl 72 1 ((madeF l i).map fun f => [dF f]))]⟩ : St) by rw [hst]; simp [dF, dFs, ofK, dS, bs_nil, dStps, hca, hcb, dNum]) ?_
          exact hrest.out
        refine AW_rg (tyOf_good _) [3, 5, 6, 7, 8, 12, 13, 14, 39, 48] [5, 11, 21] (fun _ _ => trivial) fun K' hK' => ?_
        repeat (refine sxf_next fun K2 hK2 => ?_; simp [dNum, h2]; (repeat (refine ⟨by omega, ?_⟩)); refine hK2 _ ?_; clear hK2 K2)
        refine sxf_nil (hK' _ ?_)
        refine AW.st (by simp [dNum, h2]; rfl) ?_
        clear hK' K'
        refine AW_cond false rfl (fun h => by cases h) (fun _ => ?_)
        refine AW_then fun K5 hK5 => ?_
        by_cases h3 : l[i].kind = 3
        · refine AW_rg (tyOf_good _) [3, 5, 6, 7, 8, 12, 13, 14, 39, 50] [5, 11, 21] (fun _ _ => trivial) fun K' hK' => ?_
          repeat (refine sxf_next fun K2 hK2 => ?_; simp [dNum, h3]; (repeat (refine ⟨by omega, ?_⟩)); refine hK2 _ ?_; clear hK2 K2)
          refine sxf_nil (hK' _ ?_)
          refine AW.st (by simp [dNum, h3]; rfl) ?_
          clear hK' K'
          refine AW_cond true rfl (fun _ => ?_) (fun h => by cases h)
          refine AW_skip ?_
          refine hK5 _ (AW.norm [3, 5, 6, 7, 8, 12, 13, 14, 39, 50] [5, 11, 21] (fun _ _ => trivial) (AW.st (by simp [dNum]; rfl) ?_))
          refine AW_cond true rfl (fun _ => ?_) (fun h => by cases h)
          refine AW_re (tyOf_good _) fun K' hK' => ?_
          repeat (refine sxf_next fun K2 hK2 => ?_; simp [dNum, h3]; (repeat (refine ⟨by omega, ?_⟩)); refine hK2 _ ?_; clear hK2 K2)
          refine sxf_nil (hK' _ ?_)
          clear hK' K'
          refine hK4 _ (AW.norm [3, 6, 12, 13, 14] [11, 21, 57] (fun _ _ => trivial) (AW.st (by simp [dNum, h3]; rfl) ?_))
          have hst : stepF (madeF l i) l[i] = .mk 3 [] [(madeF l i)[ja]] := by
            unfold stepF
            rw [if_neg h2, if_pos (by omega), hsa, h3]
          refine AW.imp (Imp.freeze 57 trivial) ?_
          refine AW.st (by simp [dNum]; rfl) ?_
          refine AW.imp (Imp.freezeB 21 trivial) ?_
          refine AW.st (by simp [dNum]; rfl) ?_
          refine AW.st (show _ = (⟨lst [(3, .own 11 0 (i + 1)), (6, .d (dF (stepF (madeF l i) l[i]))), (12, .d (dStps l)), (13, int l.length), (14, int i)], hlst [(11, .sl 72 1 ((madeF l i).map fun f => [dF f]))]⟩ : St) by rw [hst]; simp [dF, dFs, ofK, dS, bs_nil, dStps, hca, hcb, dNum]) ?_
          exact hrest.out
        refine AW_rg (tyOf_good _) [3, 5, 6, 7, 8, 12, 13, 14, 39, 50] [5, 11, 21] (fun _ _ => trivial) fun K' hK' => ?_
        repeat (refine sxf_next fun K2 hK2 => ?_; simp [dNum, h3]; (repeat (refine ⟨by omega, ?_⟩)); refine hK2 _ ?_; clear hK2 K2)
        refine sxf_nil (hK' _ ?_)
        refine AW.st (by simp [dNum, h3]; rfl) ?_
        clear hK' K'
        refine AW_cond false rfl (fun h => by cases h) (fun _ => ?_)
        by_cases h6 : l[i].kind = 6
        · refine AW_rg (tyOf_good _) [3, 5, 6, 7, 8, 12, 13, 14, 39, 50] [5, 11, 21] (fun _ _ => trivial) fun K' hK' => ?_
          repeat (refine sxf_next fun K2 hK2 => ?_; simp [dNum, h6]; (repeat (refine ⟨by omega, ?_⟩)); refine hK2 _ ?_; clear hK2 K2)
          refine sxf_nil (hK' _ ?_)
          refine AW.st (by simp [dNum, h6]; rfl) ?_
          clear hK' K'
          refine AW_cond true rfl (fun _ => ?_) (fun h => by cases h)
          refine AW_skip ?_
          refine hK5 _ (AW.norm [3, 5, 6, 7, 8, 12, 13, 14, 39, 50] [5, 11, 21] (fun _ _ => trivial) (AW.st (by simp [dNum]; rfl) ?_))
          refine AW_cond true rfl (fun _ => ?_) (fun h => by cases h)
          refine AW_re (tyOf_good _) fun K' hK' => ?_
          repeat (refine sxf_next fun K2 hK2 => ?_; simp [dNum, h6]; (repeat (refine ⟨by omega, ?_⟩)); refine hK2 _ ?_; clear hK2 K2)
          refine sxf_nil (hK' _ ?_)
          clear hK' K'
          refine hK4 _ (AW.norm [3, 6, 12, 13, 14] [11, 21, 57] (fun _ _ => trivial) (AW.st (by simp [dNum, h6]; rfl) ?_))
          have hst : stepF (madeF l i) l[i] = .mk 6 [] [(madeF l i)[ja]] := by
            unfold stepF
            rw [if_neg h2, if_pos (by omega), hsa, h6]
          refine AW.imp (Imp.freeze 57 trivial) ?_
          refine AW.st (by simp [dNum]; rfl) ?_
          refine AW.imp (Imp.freezeB 21 trivial) ?_
          refine AW.st (by simp [dNum]; rfl) ?_
          refine AW.st (show _ = (⟨lst [(3, .own 11 0 (i + 1)), (6, .d (dF (stepF (madeF l i) l[i]))), (12, .d (dStps l)), (13, int l.length), (14, int i)], hlst [(11, .sl 72 1 ((madeF l i).map fun f => [dF f]))]⟩ : St) by rw [hst]; simp [dF, dFs, ofK, dS, bs_nil, dStps, hca, hcb, dNum]) ?_
          exact hrest.out
        refine AW_rg (tyOf_good _) [3, 5, 6, 7, 8, 12, 13, 14, 39, 50] [5, 11, 21] (fun _ _ => trivial) fun K' hK' => ?_
        repeat (refine sxf_next fun K2 hK2 => ?_; simp [dNum, h6]; (repeat (refine ⟨by omega, ?_⟩)); refine hK2 _ ?_; clear hK2 K2)
        refine sxf_nil (hK' _ ?_)
        refine AW.st (by simp [dNum, h6]; rfl) ?_
        clear hK' K'
        refine AW_cond false rfl (fun h => by cases h) (fun _ => ?_)
        by_cases h9 : l[i].kind = 9
        · refine AW_rg (tyOf_good _) [3, 5, 6, 7, 8, 12, 13, 14, 39, 50] [5, 11, 21] (fun _ _ => trivial) fun K' hK' => ?_
          repeat (refine sxf_next fun K2 hK2 => ?_; simp [dNum, h9]; (repeat (refine ⟨by omega, ?_⟩)); refine hK2 _ ?_; clear hK2 K2)
          refine sxf_nil (hK' _ ?_)
          refine AW.st (by simp [dNum, h9]; rfl) ?_
          clear hK' K'
          refine AW_cond true rfl (fun _ => ?_) (fun h => by cases h)
          refine AW_skip ?_
          refine hK5 _ (AW.norm [3, 5, 6, 7, 8, 12, 13, 14, 39, 50] [5, 11, 21] (fun _ _ => trivial) (AW.st (by simp [dNum]; rfl) ?_))
          refine AW_cond true rfl (fun _ => ?_) (fun h => by cases h)
          refine AW_re (tyOf_good _) fun K' hK' => ?_
          repeat (refine sxf_next fun K2 hK2 => ?_; simp [dNum, h9]; (repeat (refine ⟨by omega, ?_⟩)); refine hK2 _ ?_; clear hK2 K2)
          refine sxf_nil (hK' _ ?_)
          clear hK' K'
          refine hK4 _ (AW.norm [3, 6, 12, 13, 14] [11, 21, 57] (fun _ _ => trivial) (AW.st (by simp [dNum, h9]; rfl) ?_))
          have hst : stepF (madeF l i) l[i] = .mk 9 [] [(madeF l i)[ja]] := by
            unfold stepF
            rw [if_neg h2, if_pos (by omega), hsa, h9]
          refine AW.imp (Imp.freeze 57 trivial) ?_
          refine AW.st (by simp [dNum]; rfl) ?_
          refine AW.imp (Imp.freezeB 21 trivial) ?_
          refine AW.st (by simp [dNum]; rfl) ?_
          refine AW.st (show _ = (⟨lst [(3, .own 11 0 (i + 1)), (6, .d (dF (stepF (madeF l i) l[i]))), (12, .d (dStps l)), (13, int l.length), (14, int i)], hlst [(11, .sl 72 1 ((madeF l i).map fun f => [dF f]))]⟩ : St) by rw [hst]; simp [dF, dFs, ofK, dS, bs_nil, dStps, hca, hcb, dNum]) ?_
          exact hrest.out
        refine AW_rg (tyOf_good _) [3, 5, 6, 7, 8, 12, 13, 14, 39, 50] [5, 11, 21] (fun _ _ => trivial) fun K' hK' => ?_
        repeat (refine sxf_next fun K2 hK2 => ?_; simp [dNum, h9]; (repeat (refine ⟨by omega, ?_⟩)); refine hK2 _ ?_; clear hK2 K2)
        refine sxf_nil (hK' _ ?_)
        refine AW.st (by simp [dNum, h9]; rfl) ?_
        clear hK' K'
        refine AW_cond false rfl (fun h => by cases h) (fun _ => ?_)
        by_cases h10 : l[i].kind = 10
        · refine AW_re (tyOf_good _) fun K' hK' => ?_
          repeat (refine sxf_next fun K2 hK2 => ?_; simp [dNum, h10]; (repeat (refine ⟨by omega, ?_⟩)); refine hK2 _ ?_; clear hK2 K2)
          refine sxf_nil (hK' _ ?_)
          clear hK' K'
          refine hK5 _ (AW.norm [3, 5, 6, 7, 8, 12, 13, 14, 39, 50] [5, 11, 21] (fun _ _ => trivial) (AW.st (by simp [dNum, h10]; rfl) ?_))
          refine AW_cond true rfl (fun _ => ?_) (fun h => by cases h)
          refine AW_re (tyOf_good _) fun K' hK' => ?_
          repeat (refine sxf_next fun K2 hK2 => ?_; simp [dNum, h10]; (repeat (refine ⟨by omega, ?_⟩)); refine hK2 _ ?_; clear hK2 K2)
          refine sxf_nil (hK' _ ?_)
          clear hK' K'
          refine hK4 _ (AW.norm [3, 6, 12, 13, 14] [11, 21, 57] (fun _ _ => trivial) (AW.st (by simp [dNum, h10]; rfl) ?_))
          have hst : stepF (madeF l i) l[i] = .mk 10 [] [(madeF l i)[ja]] := by
            unfold stepF
            rw [if_neg h2, if_pos (by omega), hsa, h10]
          refine AW.imp (Imp.freeze 57 trivial) ?_
          refine AW.st (by simp [dNum]; rfl) ?_
          refine AW.imp (Imp.freezeB 21 trivial) ?_
          refine AW.st (by simp [dNum]; rfl) ?_
          refine AW.st (show _ = (⟨lst [(3, .own 11 0 (i + 1)), (6, .d (dF (stepF (madeF l i) l[i]))), (12, .d (dStps l)), (13, int l.length), (14, int i)], hlst [(11, .sl 72 1 ((madeF l i).map fun f => [dF f]))]⟩ : St) by rw [hst]; simp [dF, dFs, ofK, dS, bs_nil, dStps, hca, hcb, dNum]) ?_
          exact hrest.out
        refine AW_re (tyOf_good _) fun K' hK' => ?_
        repeat (refine sxf_next fun K2 hK2 => ?_; simp [dNum, h10]; (repeat (refine ⟨by omega, ?_⟩)); refine hK2 _ ?_; clear hK2 K2)
        refine sxf_nil (hK' _ ?_)
        clear hK' K'
        refine hK5 _ (AW.norm [3, 5, 6, 7, 8, 12, 13, 14, 39, 50] [5, 11, 21] (fun _ _ => trivial) (AW.st (by simp [dNum, h10]; rfl) ?_))
        refine AW_cond false rfl (fun h => by cases h) (fun _ => ?_)
        refine AW_then fun K6 hK6 => ?_
        by_cases h4 : l[i].kind = 4
        · refine AW_rg (tyOf_good _) [3, 5, 6, 7, 8, 12, 13, 14, 39, 60] [5, 11, 21] (fun _ _ => trivial) fun K' hK' => ?_
          repeat (refine sxf_next fun K2 hK2 => ?_; simp [dNum, h4]; (repeat (refine ⟨by omega, ?_⟩)); refine hK2 _ ?_; clear hK2 K2)
          refine sxf_nil (hK' _ ?_)
          refine AW.st (by simp [dNum, h4]; rfl) ?_
          clear hK' K'
          refine AW_cond true rfl (fun _ => ?_) (fun h => by cases h)
          refine AW_skip ?_
          refine hK6 _ (AW.norm [3, 5, 6, 7, 8, 12, 13, 14, 39, 60] [5, 11, 21] (fun _ _ => trivial) (AW.st (by simp [dNum]; rfl) ?_))
          refine AW_cond true rfl (fun _ => ?_) (fun h => by cases h)
          refine AW_re (tyOf_good _) fun K' hK' => ?_
          repeat (refine sxf_next fun K2 hK2 => ?_; simp [dNum, h4]; (repeat (refine ⟨by omega, ?_⟩)); refine hK2 _ ?_; clear hK2 K2)
          refine sxf_nil (hK' _ ?_)
          clear hK' K'
          refine hK4 _ (AW.norm [3, 6, 12, 13, 14] [11, 21, 68] (fun _ _ => trivial) (AW.st (by simp [dNum, h4]; rfl) ?_))
          have hst : stepF (madeF l i) l[i] = .mk 4 [] [(madeF l i)[ja], (madeF l i)[jb]] := by
            unfold stepF
            rw [if_neg h2, if_neg (by omega), if_pos (by omega), hsa, hsb, h4]
          refine AW.imp (Imp.freeze 68 trivial) ?_
          refine AW.st (by simp [dNum]; rfl) ?_
          refine AW.imp (Imp.freezeB 21 trivial) ?_
          refine AW.st (by simp [dNum]; rfl) ?_
          refine AW.st (show _ = (⟨lst [(3, .own 11 0 (i + 1)), (6, .d (dF (stepF (madeF l i) l[i]))), (12, .d (dStps l)), (13, int l.length), (14, int i)], hlst [(11, .sl 72 1 ((madeF l i).map fun f => [dF f]))]⟩ : St) by rw [hst]; simp [dF, dFs, ofK, dS, bs_nil, dStps, hca, hcb, dNum]) ?_
          exact hrest.out
        refine AW_rg (tyOf_good _) [3, 5, 6, 7, 8, 12, 13, 14, 39, 60] [5, 11, 21] (fun _ _ => trivial) fun K' hK' => ?_
        repeat (refine sxf_next fun K2 hK2 => ?_; simp [dNum, h4]; (repeat (refine ⟨by omega, ?_⟩)); refine hK2 _ ?_; clear hK2 K2)
        refine sxf_nil (hK' _ ?_)
        refine AW.st (by simp [dNum, h4]; rfl) ?_
        clear hK' K'
        refine AW_cond false rfl (fun h => by cases h) (fun _ => ?_)
        by_cases h5 : l[i].kind = 5
        · refine AW_rg (tyOf_good _) [3, 5, 6, 7, 8, 12, 13, 14, 39, 60] [5, 11, 21] (fun _ _ => trivial) fun K' hK' => ?_
          repeat (refine sxf_next fun K2 hK2 => ?_; simp [dNum, h5]; (repeat (refine ⟨by omega, ?_⟩)); refine hK2 _ ?_; clear hK2 K2)
          refine sxf_nil (hK' _ ?_)
          refine AW.st (by simp [dNum, h5]; rfl) ?_
          clear hK' K'
          refine AW_cond true rfl (fun _ => ?_) (fun h => by cases h)
          refine AW_skip ?_
          refine hK6 _ (AW.norm [3, 5, 6, 7, 8, 12, 13, 14, 39, 60] [5, 11, 21] (fun _ _ => trivial) (AW.st (by simp [dNum]; rfl) ?_))
          refine AW_cond true rfl (fun _ => ?_) (fun h => by cases h)
          refine AW_re (tyOf_good _) fun K' hK' => ?_
          repeat (refine sxf_next fun K2 hK2 => ?_; simp [dNum, h5]; (repeat (refine ⟨by omega, ?_⟩)); refine hK2 _ ?_; clear hK2 K2)
          refine sxf_nil (hK' _ ?_)
          clear hK' K'
          refine hK4 _ (AW.norm [3, 6, 12, 13, 14] [11, 21, 68] (fun _ _ => trivial) (AW.st (by simp [dNum, h5]; rfl) ?_))
          have hst : stepF (madeF l i) l[i] = .mk 5 [] [(madeF l i)[ja], (madeF l i)[jb]] := by
            unfold stepF
            rw [if_neg h2, if_neg (by omega), if_pos (by omega), hsa, hsb, h5]
          refine AW.imp (Imp.freeze 68 trivial) ?_
          refine AW.st (by simp [dNum]; rfl) ?_
          refine AW.imp (Imp.freezeB 21 trivial) ?_
          refine AW.st (by simp [dNum]; rfl) ?_
          refine AW.st (show _ = (⟨lst [(3, .own 11 0 (i + 1)), (6, .d (dF (stepF (madeF l i) l[i]))), (12, .d (dStps l)), (13, int l.length), (14, int i)], hlst [(11, .sl 72 1 ((madeF l i).map fun f => [dF f]))]⟩ : St) by rw [hst]; simp [dF, dFs, ofK, dS, bs_nil, dStps, hca, hcb, dNum]) ?_
          exact hrest.out
        refine AW_rg (tyOf_good _) [3, 5, 6, 7, 8, 12, 13, 14, 39, 60] [5, 11, 21] (fun _ _ => trivial) fun K' hK' => ?_
        repeat (refine sxf_next fun K2 hK2 => ?_; simp [dNum, h5]; (repeat (refine ⟨by omega, ?_⟩)); refine hK2 _ ?_; clear hK2 K2)
        refine sxf_nil (hK' _ ?_)
        refine AW.st (by simp [dNum, h5]; rfl) ?_
        clear hK' K'
        refine AW_cond false rfl (fun h => by cases h) (fun _ => ?_)
        by_cases h7 : l[i].kind = 7
        · refine AW_rg (tyOf_good _) [3, 5, 6, 7, 8, 12, 13, 14, 39, 60] [5, 11, 21] (fun _ _ => trivial) fun K' hK' => ?_
          repeat (refine sxf_next fun K2 hK2 => ?_; simp [dNum, h7]; (repeat (refine ⟨by omega, ?_⟩)); refine hK2 _ ?_; clear hK2 K2)
          refine sxf_nil (hK' _ ?_)
          refine AW.st (by simp [dNum, h7]; rfl) ?_
          clear hK' K'
          refine AW_cond true rfl (fun _ => ?_) (fun h => by cases h)
          refine AW_skip ?_
          refine hK6 _ (AW.norm [3, 5, 6, 7, 8, 12, 13, 14, 39, 60] [5, 11, 21] (fun _ _ => trivial) (AW.st (by simp [dNum]; rfl) ?_))
          refine AW_cond true rfl (fun _ => ?_) (fun h => by cases h)
          refine AW_re (tyOf_good _) fun K' hK' => ?_
          repeat (refine sxf_next fun K2 hK2 => ?_; simp [dNum, h7]; (repeat (refine ⟨by omega, ?_⟩)); refine hK2 _ ?_; clear hK2 K2)
          refine sxf_nil (hK' _ ?_)
          clear hK' K'
          refine hK4 _ (AW.norm [3, 6, 12, 13, 14] [11, 21, 68] (fun _ _ => trivial) (AW.st (by simp [dNum, h7]; rfl) ?_))
          have hst : stepF (madeF l i) l[i] = .mk 7 [] [(madeF l i)[ja], (madeF l i)[jb]] := by
            unfold stepF
            rw [if_neg h2, if_neg (by omega), if_pos (by omega), hsa, hsb, h7]
          refine AW.imp (Imp.freeze 68 trivial) ?_
          refine AW.st (by simp [dNum]; rfl) ?_
          refine AW.imp (Imp.freezeB 21 trivial) ?_
          refine AW.st (by simp [dNum]; rfl) ?_
          refine AW.st (show _ = (⟨lst [(3, .own 11 0 (i + 1)), (6, .d (dF (stepF (madeF l i) l[i]))), (12, .d (dStps l)), (13, int l.length), (14, int i)], hlst [(11, .sl 72 1 ((madeF l i).map fun f => [dF f]))]⟩ : St) by rw [hst]; simp [dF, dFs, ofK, dS, bs_nil, dStps, hca, hcb, dNum]) ?_
          exact hrest.out
        refine AW_rg (tyOf_good _) [3, 5, 6, 7, 8, 12, 13, 14, 39, 60] [5, 11, 21] (fun _ _ => trivial) fun K' hK' => ?_
        repeat (refine sxf_next fun K2 hK2 => ?_; simp [dNum, h7]; (repeat (refine ⟨by omega, ?_⟩)); refine hK2 _ ?_; clear hK2 K2)
        refine sxf_nil (hK' _ ?_)
        refine AW.st (by simp [dNum, h7]; rfl) ?_
        clear hK' K'
        refine AW_cond false rfl (fun h => by cases h) (fun _ => ?_)
        by_cases h8 : l[i].kind = 8
        · refine AW_re (tyOf_good _) fun K' hK' => ?_
          repeat (refine sxf_next fun K2 hK2 => ?_; simp [dNum, h8]; (repeat (refine ⟨by omega, ?_⟩)); refine hK2 _ ?_; clear hK2 K2)
          refine sxf_nil (hK' _ ?_)
          clear hK' K'
          refine hK6 _ (AW.norm [3, 5, 6, 7, 8, 12, 13, 14, 39, 60] [5, 11, 21] (fun _ _ => trivial) (AW.st (by simp [dNum, h8]; rfl) ?_))
          refine AW_cond true rfl (fun _ => ?_) (fun h => by cases h)
          refine AW_re (tyOf_good _) fun K' hK' => ?_
          repeat (refine sxf_next fun K2 hK2 => ?_; simp [dNum, h8]; (repeat (refine ⟨by omega, ?_⟩)); refine hK2 _ ?_; clear hK2 K2)
          refine sxf_nil (hK' _ ?_)
          clear hK' K'
          refine hK4 _ (AW.norm [3, 6, 12, 13, 14] [11, 21, 68] (fun _ _ => trivial) (AW.st (by simp [dNum, h8]; rfl) ?_))
          have hst : stepF (madeF l i) l[i] = .mk 8 [] [(madeF l i)[ja], (madeF l i)[jb]] := by
            unfold stepF
            rw [if_neg h2, if_neg (by omega), if_pos (by omega), hsa, hsb, h8]
          refine AW.imp (Imp.freeze 68 trivial) ?_
          refine AW.st (by simp [dNum]; rfl) ?_
          refine AW.imp (Imp.freezeB 21 trivial) ?_
          refine AW.st (by simp [dNum]; rfl) ?_
          refine AW.st (show _ = (⟨lst [(3, .own 11 0 (i + 1)), (6, .d (dF (stepF (madeF l i) l[i]))), (12, .d (dStps l)), (13, int l.length), (14, int i)], hlst [(11, .sl 72 1 ((madeF l i).map fun f => [dF f]))]⟩ : St) by rw [hst]; simp [dF, dFs, ofK, dS, bs_nil, dStps, hca, hcb, dNum]) ?_
          exact hrest.out
        refine AW_re (tyOf_good _) fun K' hK' => ?_
        repeat (refine sxf_next fun K2 hK2 => ?_; simp [dNum, h8]; (repeat (refine ⟨by omega, ?_⟩)); refine hK2 _ ?_; clear hK2 K2)
        refine sxf_nil (hK' _ ?_)
        clear hK' K'
        refine hK6 _ (AW.norm [3, 5, 6, 7, 8, 12, 13, 14, 39, 60] [5, 11, 21] (fun _ _ => trivial) (AW.st (by simp [dNum, h8]; rfl) ?_))
        refine AW_cond false rfl (fun h => by cases h) (fun _ => ?_)
        refine AW_rdge (tyOf_good _) (by kernel_rfl) [(3, 5), (6, 21), (9, 21)] (by kernel_rfl) fun K' hK' => ?_
        repeat (refine sxg_next fun K2 hK2 => ?_; simp [dNum]; (repeat (refine ⟨by omega, ?_⟩)); refine hK2 _ ?_; clear hK2 K2)
        refine sxg_nil (hK' _ ?_)
        clear hK' K'
        refine hK4 _ (AW.norm [3, 6, 12, 13, 14] [11, 21] (fun _ _ => trivial) (AW.st (by simp [dNum]; rfl) ?_))
        have hst : stepF (madeF l i) l[i] = .mk 1 l[i].name [] := by
          unfold stepF
          rw [if_neg h2, if_neg (by omega), if_neg (by omega)]
        refine AW.imp (Imp.freezeB 21 trivial) ?_
        refine AW.st (by simp [dNum]; rfl) ?_
        refine AW.st (show _ = (⟨lst [(3, .own 11 0 (i + 1)), (6, .d (dF (stepF (madeF l i) l[i]))), (12, .d (dStps l)), (13, int l.length), (14, int i)], hlst [(11, .sl 72 1 ((madeF l i).map fun f => [dF f]))]⟩ : St) by rw [hst]; simp [dF, dFs, ofK, dS, bs_nil, dStps, hca, hcb, dNum]) ?_
        exact hrest.out
      · obtain ⟨cg, hcg⟩ := (stepF_mk (madeF l i) l[i]).ip
        rw [hcg]
        have hpt : List.take (i + 1) (List.map (fun f => [dF f]) (madeF l i)) = List.map (fun f => [dF f]) (madeF l i) := List.take_of_length_le (by simp [hml])
        refine AW_re (tyOf_good _) fun K' hK' => ?_
        repeat (refine sxf_next fun K2 hK2 => ?_; simp [dNum, hml, hpt]; (repeat (refine ⟨by omega, ?_⟩)); refine hK2 _ ?_; clear hK2 K2)
        refine sxf_nil (hK' _ ?_)
        clear hK' K'
        refine hK3 _ (AW.norm [3, 12, 13, 14] [11] (fun _ _ => trivial) (AW.st (by simp [dNum, hml, hpt]; rfl) ?_))
        refine AW_re (tyOf_good _) fun K' hK' => ?_
        repeat (refine sxf_next fun K2 hK2 => ?_; simp [dNum]; (repeat (refine ⟨by omega, ?_⟩)); refine hK2 _ ?_; clear hK2 K2)
        refine sxf_nil (hK' _ ?_)
        clear hK' K'
        try simp only [thn, inb]
        refine Again.mk (i + 1) (by omega) (by omega) ?_
        refine Imp.to' (fun _ _ => trivial) (by simp [dNum, dStps, hms, hcg]) (by simp [dNum, dStps, hms, hcg])
    · obtain rfl : i = l.length := by omega
      have hlast : IsMk ((madeF l l.length)[l.length]'(by omega)) := madeF_mk l _ _ (List.getElem_mem _)
      obtain ⟨c, hc⟩ := hlast.ip
      have hlt : l.length < (madeF l l.length).length := by omega
      have hfo : formF l = (madeF l l.length)[l.length]'hlt := by unfold formF; simp [hlt]
      refine AW_exit (hK1 _ ?_)
      refine AW_rg (tyOf_good _) [2] [] (fun _ _ => trivial) fun K' hK' => ?_
      repeat (refine sxf_next fun K2 hK2 => ?_; simp [dNum, hml, hc, hlt]; (repeat (refine ⟨by omega, ?_⟩)); refine hK2 _ ?_; clear hK2 K2)
      refine sxf_nil (hK' _ ?_)
      refine AW.st (by simp [dNum, hml, hc, hlt]; rfl) ?_
      clear hK' K'
      refine AW_ret ?_
      simp [D.le, D.le.go, takeMap, dNum, hfo, hc]
      exact D.leGo_refl _
#print axioms formula_spec
end Go.Proofs.YtoikggboakojlaaDoor

/-
  What is worked out until nothing changes: lasso.holds's own functions.
-/
namespace Go.Proofs.YtoikggboakojlaaDoor
set_option linter.unusedSimpArgs false
set_option linter.unusedVariables false
open Go.Av

def dB (b : Bool) : D := .v (.bool b)
def dBs (l : List Bool) : D := .sl none (l.map fun b => [dB b])
def dOf (l : List (List Bool)) : D := .sl none (l.map fun x => [dBs x])
def dNames (l : List (List UInt8)) : D := .sl none (l.map fun s => [dS s])
def dTimes (l : List (List (List UInt8))) : D := .sl none (l.map fun t => [dNames t])
def nxF (ah n i : Nat) : Nat := if i + 1 = n then ah else i + 1

theorem next_spec (G : Glob) (a r : List (List (List UInt8))) (n i : Nat) (hi : i < 2^60) (hn : n < 2^60) : PureC Tryd.prog G 101 [dNum i, .ip [dNum n], .ip [dTimes a, dTimes r]] (dNum (nxF a.length n i)) := by
  unfold nxF
  refine PureC.of_body (tyOf_good _) Tryd.func101 rfl rfl (rs := [.tmp 4]) Tryd.results101 (by simp [Tryd.ntmps101]) fun X => ?_
  simp only [Tryd.ntmps101, List.map]
  refine AW_rg (tyOf_good _) [0, 1, 2] [] (fun _ _ => trivial) fun K' hK' => ?_
  repeat (refine sxf_next fun K2 hK2 => ?_; simp [dNum, dTimes]; (repeat (refine ⟨by omega, ?_⟩)); refine hK2 _ ?_; clear hK2 K2)
  refine sxf_nil (hK' _ ?_)
  refine AW.st (by simp [dNum, dTimes]; rfl) ?_
  clear hK' K'
  refine AW_then fun K1 hK1 => ?_
  by_cases h : i + 1 = n
  · have h' : (i : Int) + 1 = n := by omega
    refine AW_rg (tyOf_good _) [0, 2, 8] [] (fun _ _ => trivial) fun K' hK' => ?_
    repeat (refine sxf_next fun K2 hK2 => ?_; simp [dNum, dTimes, h']; (repeat (refine ⟨by omega, ?_⟩)); refine hK2 _ ?_; clear hK2 K2)
    refine sxf_nil (hK' _ ?_)
    refine AW.st (by simp [dNum, dTimes, h']; rfl) ?_
    clear hK' K'
    refine AW_cond true rfl (fun _ => ?_) (fun h => by cases h)
    refine AW_rg (tyOf_good _) [4] [] (fun _ _ => trivial) fun K' hK' => ?_
    repeat (refine sxf_next fun K2 hK2 => ?_; simp [dNum, dTimes]; (repeat (refine ⟨by omega, ?_⟩)); refine hK2 _ ?_; clear hK2 K2)
    refine sxf_nil (hK' _ ?_)
    refine AW.st (by simp [dNum, dTimes]; rfl) ?_
    clear hK' K'
    refine AW_ret ?_
    simp [D.le, D.le.go, takeMap, dNum, dTimes, h]
  · have h' : ¬ (i : Int) + 1 = n := by omega
    refine AW_rg (tyOf_good _) [0, 2, 8] [] (fun _ _ => trivial) fun K' hK' => ?_
    repeat (refine sxf_next fun K2 hK2 => ?_; simp [dNum, dTimes, h']; (repeat (refine ⟨by omega, ?_⟩)); refine hK2 _ ?_; clear hK2 K2)
    refine sxf_nil (hK' _ ?_)
    refine AW.st (by simp [dNum, dTimes, h']; rfl) ?_
    clear hK' K'
    refine AW_cond false rfl (fun h => by cases h) (fun _ => ?_)
    refine AW_skip (hK1 _ ?_)
    refine AW_rg (tyOf_good _) [4] [] (fun _ _ => trivial) fun K' hK' => ?_
    repeat (refine sxf_next fun K2 hK2 => ?_; simp [dNum, dTimes]; (repeat (refine ⟨by omega, ?_⟩)); refine hK2 _ ?_; clear hK2 K2)
    refine sxf_nil (hK' _ ?_)
    refine AW.st (by simp [dNum, dTimes]; rfl) ?_
    clear hK' K'
    refine AW_ret ?_
    simp [D.le, D.le.go, takeMap, dNum, dTimes, h]

theorem until_spec (G : Glob) (o0 o1 : List Bool) (i : Nat) (b : Bool) (h0 : i < o0.length) (h1 : i < o1.length) : PureC Tryd.prog G 103 [dNum i, dB b, .ip [dOf [o0, o1]]] (dB (o1[i] || (o0[i] && b))) := by
  cases hb1 : o1[i] with
  | true =>
    refine PureC.of_body (tyOf_good _) Tryd.func103 rfl rfl (rs := [.tmp 5]) Tryd.results103 (by simp [Tryd.ntmps103]) fun X => ?_
    simp only [Tryd.ntmps103, List.map]
    refine AW_rg (tyOf_good _) [0, 1, 2] [] (fun _ _ => trivial) fun K' hK' => ?_
    repeat (refine sxf_next fun K2 hK2 => ?_; simp [dNum, dB, dOf, dBs]; (repeat (refine ⟨by omega, ?_⟩)); refine hK2 _ ?_; clear hK2 K2)
    refine sxf_nil (hK' _ ?_)
    refine AW.st (by simp [dNum, dB, dOf, dBs]; rfl) ?_
    clear hK' K'
    refine AW_rg (tyOf_good _) [5] [] (fun _ _ => trivial) fun K' hK' => ?_
    repeat (refine sxf_next fun K2 hK2 => ?_; simp [dNum, dB, dOf, dBs, h0, h1, hb1]; (repeat (refine ⟨by omega, ?_⟩)); refine hK2 _ ?_; clear hK2 K2)
    refine sxf_nil (hK' _ ?_)
    refine AW.st (by simp [dNum, dB, dOf, dBs, h0, h1, hb1]; rfl) ?_
    clear hK' K'
    refine AW_ret ?_
    simp [D.le, D.le.go, takeMap, dNum, dB, dOf, dBs]
  | false =>
    cases hb0 : o0[i] with
    | true =>
      refine PureC.of_body (tyOf_good _) Tryd.func103 rfl rfl (rs := [.tmp 5]) Tryd.results103 (by simp [Tryd.ntmps103]) fun X => ?_
      simp only [Tryd.ntmps103, List.map]
      refine AW_rg (tyOf_good _) [0, 1, 2] [] (fun _ _ => trivial) fun K' hK' => ?_
      repeat (refine sxf_next fun K2 hK2 => ?_; simp [dNum, dB, dOf, dBs]; (repeat (refine ⟨by omega, ?_⟩)); refine hK2 _ ?_; clear hK2 K2)
      refine sxf_nil (hK' _ ?_)
      refine AW.st (by simp [dNum, dB, dOf, dBs]; rfl) ?_
      clear hK' K'
      refine AW_rg (tyOf_good _) [5] [] (fun _ _ => trivial) fun K' hK' => ?_
      repeat (refine sxf_next fun K2 hK2 => ?_; simp [dNum, dB, dOf, dBs, h0, h1, hb1, hb0]; (repeat (refine ⟨by omega, ?_⟩)); refine hK2 _ ?_; clear hK2 K2)
      refine sxf_nil (hK' _ ?_)
      refine AW.st (by simp [dNum, dB, dOf, dBs, h0, h1, hb1, hb0]; rfl) ?_
      clear hK' K'
      refine AW_ret ?_
      simp [D.le, D.le.go, takeMap, dNum, dB, dOf, dBs]
    | false =>
      refine PureC.of_body (tyOf_good _) Tryd.func103 rfl rfl (rs := [.tmp 5]) Tryd.results103 (by simp [Tryd.ntmps103]) fun X => ?_
      simp only [Tryd.ntmps103, List.map]
      refine AW_rg (tyOf_good _) [0, 1, 2] [] (fun _ _ => trivial) fun K' hK' => ?_
      repeat (refine sxf_next fun K2 hK2 => ?_; simp [dNum, dB, dOf, dBs]; (repeat (refine ⟨by omega, ?_⟩)); refine hK2 _ ?_; clear hK2 K2)
      refine sxf_nil (hK' _ ?_)
      refine AW.st (by simp [dNum, dB, dOf, dBs]; rfl) ?_
      clear hK' K'
      refine AW_rg (tyOf_good _) [5] [] (fun _ _ => trivial) fun K' hK' => ?_
      repeat (refine sxf_next fun K2 hK2 => ?_; simp [dNum, dB, dOf, dBs, h0, h1, hb1, hb0]; (repeat (refine ⟨by omega, ?_⟩)); refine hK2 _ ?_; clear hK2 K2)
      refine sxf_nil (hK' _ ?_)
      refine AW.st (by simp [dNum, dB, dOf, dBs, h0, h1, hb1, hb0]; rfl) ?_
      clear hK' K'
      refine AW_ret ?_
      simp [D.le, D.le.go, takeMap, dNum, dB, dOf, dBs]
theorem release_spec (G : Glob) (o0 o1 : List Bool) (i : Nat) (b : Bool) (h0 : i < o0.length) (h1 : i < o1.length) : PureC Tryd.prog G 104 [dNum i, dB b, .ip [dOf [o0, o1]]] (dB (o1[i] && (o0[i] || b))) := by
  cases hb1 : o1[i] with
  | false =>
    refine PureC.of_body (tyOf_good _) Tryd.func104 rfl rfl (rs := [.tmp 5]) Tryd.results104 (by simp [Tryd.ntmps104]) fun X => ?_
    simp only [Tryd.ntmps104, List.map]
    refine AW_rg (tyOf_good _) [0, 1, 2] [] (fun _ _ => trivial) fun K' hK' => ?_
    repeat (refine sxf_next fun K2 hK2 => ?_; simp [dNum, dB, dOf, dBs]; (repeat (refine ⟨by omega, ?_⟩)); refine hK2 _ ?_; clear hK2 K2)
    refine sxf_nil (hK' _ ?_)
    refine AW.st (by simp [dNum, dB, dOf, dBs]; rfl) ?_
    clear hK' K'
    refine AW_rg (tyOf_good _) [5] [] (fun _ _ => trivial) fun K' hK' => ?_
    repeat (refine sxf_next fun K2 hK2 => ?_; simp [dNum, dB, dOf, dBs, h0, h1, hb1]; (repeat (refine ⟨by omega, ?_⟩)); refine hK2 _ ?_; clear hK2 K2)
    refine sxf_nil (hK' _ ?_)
    refine AW.st (by simp [dNum, dB, dOf, dBs, h0, h1, hb1]; rfl) ?_
    clear hK' K'
    refine AW_ret ?_
    simp [D.le, D.le.go, takeMap, dNum, dB, dOf, dBs]
  | true =>
    cases hb0 : o0[i] with
    | true =>
      refine PureC.of_body (tyOf_good _) Tryd.func104 rfl rfl (rs := [.tmp 5]) Tryd.results104 (by simp [Tryd.ntmps104]) fun X => ?_
      simp only [Tryd.ntmps104, List.map]
      refine AW_rg (tyOf_good _) [0, 1, 2] [] (fun _ _ => trivial) fun K' hK' => ?_
      repeat (refine sxf_next fun K2 hK2 => ?_; simp [dNum, dB, dOf, dBs]; (repeat (refine ⟨by omega, ?_⟩)); refine hK2 _ ?_; clear hK2 K2)
      refine sxf_nil (hK' _ ?_)
      refine AW.st (by simp [dNum, dB, dOf, dBs]; rfl) ?_
      clear hK' K'
      refine AW_rg (tyOf_good _) [5] [] (fun _ _ => trivial) fun K' hK' => ?_
      repeat (refine sxf_next fun K2 hK2 => ?_; simp [dNum, dB, dOf, dBs, h0, h1, hb1, hb0]; (repeat (refine ⟨by omega, ?_⟩)); refine hK2 _ ?_; clear hK2 K2)
      refine sxf_nil (hK' _ ?_)
      refine AW.st (by simp [dNum, dB, dOf, dBs, h0, h1, hb1, hb0]; rfl) ?_
      clear hK' K'
      refine AW_ret ?_
      simp [D.le, D.le.go, takeMap, dNum, dB, dOf, dBs]
    | false =>
      refine PureC.of_body (tyOf_good _) Tryd.func104 rfl rfl (rs := [.tmp 5]) Tryd.results104 (by simp [Tryd.ntmps104]) fun X => ?_
      simp only [Tryd.ntmps104, List.map]
      refine AW_rg (tyOf_good _) [0, 1, 2] [] (fun _ _ => trivial) fun K' hK' => ?_
      repeat (refine sxf_next fun K2 hK2 => ?_; simp [dNum, dB, dOf, dBs]; (repeat (refine ⟨by omega, ?_⟩)); refine hK2 _ ?_; clear hK2 K2)
      refine sxf_nil (hK' _ ?_)
      refine AW.st (by simp [dNum, dB, dOf, dBs]; rfl) ?_
      clear hK' K'
      refine AW_rg (tyOf_good _) [5] [] (fun _ _ => trivial) fun K' hK' => ?_
      repeat (refine sxf_next fun K2 hK2 => ?_; simp [dNum, dB, dOf, dBs, h0, h1, hb1, hb0]; (repeat (refine ⟨by omega, ?_⟩)); refine hK2 _ ?_; clear hK2 K2)
      refine sxf_nil (hK' _ ?_)
      refine AW.st (by simp [dNum, dB, dOf, dBs, h0, h1, hb1, hb0]; rfl) ?_
      clear hK' K'
      refine AW_ret ?_
      simp [D.le, D.le.go, takeMap, dNum, dB, dOf, dBs]
theorem ever_spec (G : Glob) (o0 : List Bool) (i : Nat) (b : Bool) (h0 : i < o0.length) : PureC Tryd.prog G 105 [dNum i, dB b, .ip [dOf [o0]]] (dB (o0[i] || b)) := by
  cases hb0 : o0[i] with
  | true =>
    refine PureC.of_body (tyOf_good _) Tryd.func105 rfl rfl (rs := [.tmp 5]) Tryd.results105 (by simp [Tryd.ntmps105]) fun X => ?_
    simp only [Tryd.ntmps105, List.map]
    refine AW_rg (tyOf_good _) [0, 1, 2] [] (fun _ _ => trivial) fun K' hK' => ?_
    repeat (refine sxf_next fun K2 hK2 => ?_; simp [dNum, dB, dOf, dBs]; (repeat (refine ⟨by omega, ?_⟩)); refine hK2 _ ?_; clear hK2 K2)
    refine sxf_nil (hK' _ ?_)
    refine AW.st (by simp [dNum, dB, dOf, dBs]; rfl) ?_
    clear hK' K'
    refine AW_rg (tyOf_good _) [5] [] (fun _ _ => trivial) fun K' hK' => ?_
    repeat (refine sxf_next fun K2 hK2 => ?_; simp [dNum, dB, dOf, dBs, h0, hb0]; (repeat (refine ⟨by omega, ?_⟩)); refine hK2 _ ?_; clear hK2 K2)
    refine sxf_nil (hK' _ ?_)
    refine AW.st (by simp [dNum, dB, dOf, dBs, h0, hb0]; rfl) ?_
    clear hK' K'
    refine AW_ret ?_
    simp [D.le, D.le.go, takeMap, dNum, dB, dOf, dBs]
  | false =>
    refine PureC.of_body (tyOf_good _) Tryd.func105 rfl rfl (rs := [.tmp 5]) Tryd.results105 (by simp [Tryd.ntmps105]) fun X => ?_
    simp only [Tryd.ntmps105, List.map]
    refine AW_rg (tyOf_good _) [0, 1, 2] [] (fun _ _ => trivial) fun K' hK' => ?_
    repeat (refine sxf_next fun K2 hK2 => ?_; simp [dNum, dB, dOf, dBs]; (repeat (refine ⟨by omega, ?_⟩)); refine hK2 _ ?_; clear hK2 K2)
    refine sxf_nil (hK' _ ?_)
    refine AW.st (by simp [dNum, dB, dOf, dBs]; rfl) ?_
    clear hK' K'
    refine AW_rg (tyOf_good _) [5] [] (fun _ _ => trivial) fun K' hK' => ?_
    repeat (refine sxf_next fun K2 hK2 => ?_; simp [dNum, dB, dOf, dBs, h0, hb0]; (repeat (refine ⟨by omega, ?_⟩)); refine hK2 _ ?_; clear hK2 K2)
    refine sxf_nil (hK' _ ?_)
    refine AW.st (by simp [dNum, dB, dOf, dBs, h0, hb0]; rfl) ?_
    clear hK' K'
    refine AW_ret ?_
    simp [D.le, D.le.go, takeMap, dNum, dB, dOf, dBs]
theorem always_spec (G : Glob) (o0 : List Bool) (i : Nat) (b : Bool) (h0 : i < o0.length) : PureC Tryd.prog G 106 [dNum i, dB b, .ip [dOf [o0]]] (dB (o0[i] && b)) := by
  cases hb0 : o0[i] with
  | true =>
    refine PureC.of_body (tyOf_good _) Tryd.func106 rfl rfl (rs := [.tmp 5]) Tryd.results106 (by simp [Tryd.ntmps106]) fun X => ?_
    simp only [Tryd.ntmps106, List.map]
    refine AW_rg (tyOf_good _) [0, 1, 2] [] (fun _ _ => trivial) fun K' hK' => ?_
    repeat (refine sxf_next fun K2 hK2 => ?_; simp [dNum, dB, dOf, dBs]; (repeat (refine ⟨by omega, ?_⟩)); refine hK2 _ ?_; clear hK2 K2)
    refine sxf_nil (hK' _ ?_)
    refine AW.st (by simp [dNum, dB, dOf, dBs]; rfl) ?_
    clear hK' K'
    refine AW_rg (tyOf_good _) [5] [] (fun _ _ => trivial) fun K' hK' => ?_
    repeat (refine sxf_next fun K2 hK2 => ?_; simp [dNum, dB, dOf, dBs, h0, hb0]; (repeat (refine ⟨by omega, ?_⟩)); refine hK2 _ ?_; clear hK2 K2)
    refine sxf_nil (hK' _ ?_)
    refine AW.st (by simp [dNum, dB, dOf, dBs, h0, hb0]; rfl) ?_
    clear hK' K'
    refine AW_ret ?_
    simp [D.le, D.le.go, takeMap, dNum, dB, dOf, dBs]
  | false =>
    refine PureC.of_body (tyOf_good _) Tryd.func106 rfl rfl (rs := [.tmp 5]) Tryd.results106 (by simp [Tryd.ntmps106]) fun X => ?_
    simp only [Tryd.ntmps106, List.map]
    refine AW_rg (tyOf_good _) [0, 1, 2] [] (fun _ _ => trivial) fun K' hK' => ?_
    repeat (refine sxf_next fun K2 hK2 => ?_; simp [dNum, dB, dOf, dBs]; (repeat (refine ⟨by omega, ?_⟩)); refine hK2 _ ?_; clear hK2 K2)
    refine sxf_nil (hK' _ ?_)
    refine AW.st (by simp [dNum, dB, dOf, dBs]; rfl) ?_
    clear hK' K'
    refine AW_rg (tyOf_good _) [5] [] (fun _ _ => trivial) fun K' hK' => ?_
    repeat (refine sxf_next fun K2 hK2 => ?_; simp [dNum, dB, dOf, dBs, h0, hb0]; (repeat (refine ⟨by omega, ?_⟩)); refine hK2 _ ?_; clear hK2 K2)
    refine sxf_nil (hK' _ ?_)
    refine AW.st (by simp [dNum, dB, dOf, dBs, h0, hb0]; rfl) ?_
    clear hK' K'
    refine AW_ret ?_
    simp [D.le, D.le.go, takeMap, dNum, dB, dOf, dBs]
#print axioms until_spec

def rowB (n : Nat) (f : Nat → Bool) : Row := .sl 4 1 ((List.range n).map fun i => [dB (f i)])
theorem set_rowB (n : Nat) (f : Nat → Bool) (i : Nat) (x : Bool) : ((List.range n).map fun j => [D.v (.bool (f j))]).set i [D.v (.bool x)] = (List.range n).map fun j => [D.v (.bool (setB f i x j))] := by
  apply List.ext_getElem
  · simp
  · intro j h1 h2
    rw [List.getElem_set]
    by_cases e : i = j
    · subst e; simp [setB]
    · simp [setB, e, Ne.symm e]
theorem rowB_congr {n : Nat} {f g : Nat → Bool} (h : ∀ i, i < n → f i = g i) : rowB n f = rowB n g := by
  unfold rowB
  congr 1
  apply List.map_congr_left
  intro i hi
  rw [h i (List.mem_range.1 hi)]

set_option maxHeartbeats 8000000 in
theorem fix_spec (G : Glob) (now : Nat → Bool → Bool) (nx : Nat → Nat) (st : Bool) (n : Nat) (hn : n < 2^40) (hm : MonoN now) (hx : ∀ i, i < n → nx i < n) (g g2 : FuncId) (caps caps2 : List D)
    (hnow : ∀ i b, i < n → PureC Tryd.prog G g (dNum i :: dB b :: caps) (dB (now i b))) (hnext : ∀ i, i < n → PureC Tryd.prog G g2 (dNum i :: caps2) (dNum (nx i))) (f : Nat → Bool) :
    MC Tryd.prog G [6, 30] 102 [.d (dB st), .d (.fn (.func g) caps), .ref 6 0 0, .d (.ip [dNum n]), .d (.ip [.fn (.func g2) caps2])] (hlst [(6, .box 56 [.own 30 0 n]), (30, rowB n f)]) (.d (.tup [])) (hlst [(6, .box 56 [.own 30 0 n]), (30, rowB n (iterN now nx st n))]) := by
  refine MC.of_body (tyOf_good _) Tryd.func102 rfl rfl (rs := []) Tryd.results102 (by simp [Tryd.ntmps102]) rfl fun X => ?_
  simp only [Tryd.ntmps102]
  refine AW_then fun K1 hK1 => ?_
  refine AW_rg (tyOf_good _) [0, 1, 2, 3, 4, 12, 13] [6, 30] (notIn_ok rfl) fun K' hK' => ?_
  repeat (refine sxf_next fun K2 hK2 => ?_; simp [dNum, dB, rowB]; (repeat (refine ⟨by omega, ?_⟩)); refine hK2 _ ?_; clear hK2 K2)
  refine sxf_nil (hK' _ ?_)
  refine AW.st (by simp [dNum, dB, rowB]; rfl) ?_
  clear hK' K'
  refine AW_for (S := (Nat → Bool) × Nat) (fun s => s.2 ≤ n ∧ ∀ j, j < s.2 → s.1 j = st) (fun s => ⟨lst [(0, .d (dB st)), (1, .d (.fn (.func g) caps)), (2, .ref 6 0 0), (3, .d (.ip [dNum n])), (4, .d (.ip [.fn (.func g2) caps2])), (12, int n), (13, int s.2)], hlst [(6, .box 56 [.own 30 0 n]), (30, rowB n s.1)]⟩) (fun s => n - s.2) (f, 0) ?_ (by simp) ?_
  · refine Imp.to' (notIn_ok rfl) (by simp [dNum, dB, rowB]) (by simp [dNum, dB, rowB])
  · rintro ⟨f, i⟩ ⟨hi, hall⟩
    dsimp only at hi hall ⊢
    refine AW_rg (tyOf_good _) [0, 1, 2, 3, 4, 12, 13, 14] [6, 30] (notIn_ok rfl) fun K' hK' => ?_
    repeat (refine sxf_next fun K2 hK2 => ?_; simp [dNum, dB, rowB]; (repeat (refine ⟨by omega, ?_⟩)); refine hK2 _ ?_; clear hK2 K2)
    refine sxf_nil (hK' _ ?_)
    refine AW.st (by simp [dNum, dB, rowB]; rfl) ?_
    clear hK' K'
    refine AW_then fun K2 hK2 => ?_
    refine AW_cond' (b := i < n) (by simp [D.le, D.le.go, takeMap, dNum, dB, rowB]) (fun hc => ?_) (fun hc => ?_)
    · have hin : i < n := hc
      refine AW_skip (hK2 _ ?_)
      refine AW_then fun K3 hK3 => ?_
      refine AW_block ?_
      refine AW_rg (tyOf_good _) [0, 1, 2, 3, 4, 7, 12, 13] [6, 30] (notIn_ok rfl) fun K' hK' => ?_
      repeat (refine sxf_next fun K2 hK2 => ?_; simp [dNum, dB, rowB]; (repeat (refine ⟨by omega, ?_⟩)); refine hK2 _ ?_; clear hK2 K2)
      refine sxf_nil (hK' _ ?_)
      refine AW.st (by simp [dNum, dB, rowB]; rfl) ?_
      clear hK' K'
      refine AW_re (tyOf_good _) fun K' hK' => ?_
      repeat (refine sxf_next fun K2 hK2 => ?_; simp [dNum, dB, rowB, hin]; (repeat (refine ⟨by omega, ?_⟩)); refine hK2 _ ?_; clear hK2 K2)
      refine sxf_nil (hK' _ ?_)
      clear hK' K'
      refine hK3 _ (AW.norm [0, 1, 2, 3, 4, 12, 13] [6, 30] (notIn_ok rfl) (AW.st (by simp [dNum, dB, rowB, hin]; rfl) ?_))
      refine AW_re (tyOf_good _) fun K' hK' => ?_
      repeat (refine sxf_next fun K2 hK2 => ?_; simp [dNum, dB, rowB]; (repeat (refine ⟨by omega, ?_⟩)); refine hK2 _ ?_; clear hK2 K2)
      refine sxf_nil (hK' _ ?_)
      clear hK' K'
      try simp only [thn, inb]
      refine Again.mk (setB f i st, i + 1) ⟨by dsimp only; omega, fun j hj => ?_⟩ (by dsimp only; omega) ?_
      · dsimp only at hj ⊢
        unfold setB
        split
        · rfl
        · exact hall j (by omega)
      refine Imp.to' (notIn_ok rfl) (by simp [dNum, dB, rowB, set_rowB]) (by simp [dNum, dB, rowB, set_rowB])
    · obtain rfl : i = n := by omega
      refine AW_exit (hK1 _ ?_)
      refine AW_rg (tyOf_good _) [1, 2, 3, 4, 8] [6, 30] (notIn_ok rfl) fun K' hK' => ?_
      repeat (refine sxf_next fun K2 hK2 => ?_; simp [dNum, dB, rowB]; (repeat (refine ⟨by omega, ?_⟩)); refine hK2 _ ?_; clear hK2 K2)
      refine sxf_nil (hK' _ ?_)
      refine AW.st (by simp [dNum, dB, rowB]; rfl) ?_
      clear hK' K'
      have hk0 : Kept now nx st i f := ⟨fun j hj => .inl (hall j hj), fun j hj => .inl (hall j hj)⟩
      refine AW_for (S := (Nat → Bool) × Bool) (fun s => Kept now nx st i s.1 ∧ (s.2 = false → ∀ j, j < i → s.1 j = now j (s.1 (nx j)))) (fun s => ⟨lst [(1, .d (.fn (.func g) caps)), (2, .ref 6 0 0), (3, .d (.ip [dNum i])), (4, .d (.ip [.fn (.func g2) caps2])), (8, .d (dB s.2))], hlst [(6, .box 56 [.own 30 0 i]), (30, rowB i s.1)]⟩) (fun s => 2 * (i - up st i s.1) + (if s.2 then 1 else 0)) (f, true) ?_ ⟨hk0, fun h => by cases h⟩ ?_
      · refine Imp.to' (notIn_ok rfl) (by simp [dNum, dB, rowB]) (by simp [dNum, dB, rowB])
      · rintro ⟨f, again⟩ ⟨hk, hfix⟩
        dsimp only at hk hfix ⊢
        refine AW_then fun K4 hK4 => ?_
        refine AW_rg (tyOf_good _) [1, 2, 3, 4, 21] [6, 30] (notIn_ok rfl) fun K' hK' => ?_
        repeat (refine sxf_next fun K2 hK2 => ?_; simp [dNum, dB, rowB]; (repeat (refine ⟨by omega, ?_⟩)); refine hK2 _ ?_; clear hK2 K2)
        refine sxf_nil (hK' _ ?_)
        refine AW.st (by simp [dNum, dB, rowB]; rfl) ?_
        clear hK' K'
        cases again with
        | false =>
          refine AW_cond false rfl (fun h => by cases h) (fun _ => ?_)
          have hres : rowB i f = rowB i (iterN now nx st i) := rowB_congr fun j hj => iterN_is hm hx (hfix rfl) hk.le hj
          refine AW_exit ?_
          rw [← hres]
          simp [dNum, dB, rowB]
          exact D.le_refl _
        | true =>
          refine AW_cond true rfl (fun _ => ?_) (fun h => by cases h)
          refine AW_skip (hK4 _ ?_)
          refine AW_block ?_
          refine AW_rg (tyOf_good _) [1, 2, 3, 4, 8] [6, 30] (notIn_ok rfl) fun K' hK' => ?_
          repeat (refine sxf_next fun K2 hK2 => ?_; simp [dNum, dB, rowB]; (repeat (refine ⟨by omega, ?_⟩)); refine hK2 _ ?_; clear hK2 K2)
          refine sxf_nil (hK' _ ?_)
          refine AW.st (by simp [dNum, dB, rowB]; rfl) ?_
          clear hK' K'
          refine AW_rg (tyOf_good _) [1, 2, 3, 4, 8, 9] [6, 30] (notIn_ok rfl) fun K' hK' => ?_
          repeat (refine sxf_next fun K2 hK2 => ?_; simp [dNum, dB, rowB]; (repeat (refine ⟨by omega, ?_⟩)); refine hK2 _ ?_; clear hK2 K2)
          refine sxf_nil (hK' _ ?_)
          refine AW.st (by simp [dNum, dB, rowB]; rfl) ?_
          clear hK' K'
          refine AW_for (S := (Nat → Bool) × Bool × Nat) (fun s => s.2.2 ≤ i ∧ Kept now nx st i s.1 ∧ (s.2.1 = false → s.1 = f ∧ ∀ j, s.2.2 ≤ j → j < i → s.1 j = now j (s.1 (nx j))) ∧ (s.2.1 = true → up st i f < up st i s.1)) (fun s => ⟨lst [(1, .d (.fn (.func g) caps)), (2, .ref 6 0 0), (3, .d (.ip [dNum i])), (4, .d (.ip [.fn (.func g2) caps2])), (8, .d (dB s.2.1)), (9, int ((s.2.2 : Int) - 1))], hlst [(6, .box 56 [.own 30 0 i]), (30, rowB i s.1)]⟩) (fun s => s.2.2) (f, false, i) ?_ ⟨Nat.le_refl _, hk, fun _ => ⟨rfl, fun j h1 h2 => by dsimp only at h1; omega⟩, fun h => by cases h⟩ ?_
          · refine Imp.to' (notIn_ok rfl) (by simp [dNum, dB, rowB]) (by simp [dNum, dB, rowB])
          · rintro ⟨f', again, m⟩ ⟨hmi, hk', hf1, hf2⟩
            dsimp only at hmi hk' hf1 hf2 ⊢
            refine AW_then fun K5 hK5 => ?_
            cases m with
            | zero =>
              refine AW_rg (tyOf_good _) [1, 2, 3, 4, 8, 9, 25] [6, 30] (notIn_ok rfl) fun K' hK' => ?_
              repeat (refine sxf_next fun K2 hK2 => ?_; simp [dNum, dB, rowB]; (repeat (refine ⟨by omega, ?_⟩)); refine hK2 _ ?_; clear hK2 K2)
              refine sxf_nil (hK' _ ?_)
              refine AW.st (by simp [dNum, dB, rowB]; rfl) ?_
              clear hK' K'
              refine AW_cond false rfl (fun h => by cases h) (fun _ => ?_)
              refine AW_exit ?_
              refine Again.mk (f', again) ⟨hk', fun h => fun j hj => (hf1 h).2 j (Nat.zero_le _) hj⟩ ?_ ?_
              · dsimp only
                have h1 := up_le st i f'
                cases again with
                | false => rw [(hf1 rfl).1]; simp
                | true => have := hf2 rfl; simp; omega
              · refine Imp.to' (notIn_ok rfl) (by simp [dNum, dB, rowB]) (by simp [dNum, dB, rowB])
            | succ j =>
              have hji : j < i := by omega
              have hxj := hx j hji
              have hcall1 := hnext j hji
              have hcall2 := hnow j (f' (nx j)) hji
              refine AW_rg (tyOf_good _) [1, 2, 3, 4, 8, 9, 25] [6, 30] (notIn_ok rfl) fun K' hK' => ?_
              repeat (refine sxf_next fun K2 hK2 => ?_; simp [dNum, dB, rowB]; (repeat (refine ⟨by omega, ?_⟩)); refine hK2 _ ?_; clear hK2 K2)
              refine sxf_nil (hK' _ ?_)
              refine AW.st (by simp [dNum, dB, rowB]; rfl) ?_
              clear hK' K'
              refine AW_cond true rfl (fun _ => ?_) (fun h => by cases h)
              refine AW_skip (hK5 _ ?_)
              refine AW_then fun K6 hK6 => ?_
              refine AW_block ?_
              refine AW_rd (tyOf_good _) (by kernel_rfl) [1, 2, 3, 4, 8, 9, 10] [6, 30] (notIn_ok rfl) (by kernel_rfl) fun K' hK' => ?_
              repeat (refine sxd_next fun K2 hK2 => ?_; simp [dNum, dB, rowB, hxj, hji]; (repeat (refine ⟨by omega, ?_⟩)); refine hK2 _ ?_; clear hK2 K2)
              refine sxd_next fun K2 hK2 => ?_
              simp [dNum, dB, rowB, hxj, hji]
              refine callQ.data (hcall1) (by simp; rfl) (by simp; rfl) (by first | exact D.leGo_refl _ | simp [takeMap, List.map_map, Function.comp_def, D.le, D.le.go, D.le_refl, D.leGo_refl, dNum, dB, rowB, hxj, hji]) ?_
              refine hK2 _ ?_
              clear hK2 K2
              simp only [putd, upd_lst]
              repeat (refine sxd_next fun K2 hK2 => ?_; simp [dNum, dB, rowB, hxj, hji]; (repeat (refine ⟨by omega, ?_⟩)); refine hK2 _ ?_; clear hK2 K2)
              refine sxd_next fun K2 hK2 => ?_
              simp [dNum, dB, rowB, hxj, hji]
              refine callQ.data (hcall2) (by simp; rfl) (by simp; rfl) (by first | exact D.leGo_refl _ | simp [takeMap, List.map_map, Function.comp_def, D.le, D.le.go, D.le_refl, D.leGo_refl, dNum, dB, rowB, hxj, hji]) ?_
              refine hK2 _ ?_
              clear hK2 K2
              simp only [putd, upd_lst]
              repeat (refine sxd_next fun K2 hK2 => ?_; simp [dNum, dB, rowB, hxj, hji]; (repeat (refine ⟨by omega, ?_⟩)); refine hK2 _ ?_; clear hK2 K2)
              refine sxd_nil (hK' _ ?_)
              refine AW.st (by simp [dNum, dB, rowB, hxj, hji]; rfl) ?_
              clear hK' K'
              by_cases hne : now j (f' (nx j)) = f' j
              · refine AW_rg (tyOf_good _) [1, 2, 3, 4, 8, 9, 10, 42] [6, 30] (notIn_ok rfl) fun K' hK' => ?_
                repeat (refine sxf_next fun K2 hK2 => ?_; simp [dNum, dB, rowB, hne, hji]; (repeat (refine ⟨by omega, ?_⟩)); refine hK2 _ ?_; clear hK2 K2)
                refine sxf_nil (hK' _ ?_)
                refine AW.st (by simp [dNum, dB, rowB, hne, hji]; rfl) ?_
                clear hK' K'
                refine AW_cond false rfl (fun h => by cases h) (fun _ => ?_)
                refine AW_skip ?_
                refine hK6 _ (AW.norm [1, 2, 3, 4, 8, 9] [6, 30] (notIn_ok rfl) (AW.st (by simp [dNum, dB, rowB]; rfl) ?_))
                refine AW_re (tyOf_good _) fun K' hK' => ?_
                repeat (refine sxf_next fun K2 hK2 => ?_; simp [dNum, dB, rowB]; (repeat (refine ⟨by omega, ?_⟩)); refine hK2 _ ?_; clear hK2 K2)
                refine sxf_nil (hK' _ ?_)
                clear hK' K'
                try simp only [thn, inb]
                refine Again.mk (f', again, j) ⟨by dsimp only; omega, hk', fun h => ⟨(hf1 h).1, fun q h1 h2 => ?_⟩, hf2⟩ (by dsimp only; omega) ?_
                · dsimp only at h1
                  by_cases e : q = j
                  · subst e; exact hne.symm
                  · exact (hf1 h).2 q (by omega) h2
                refine Imp.to' (notIn_ok rfl) (by simp [dNum, dB, rowB]) (by simp [dNum, dB, rowB])
              · obtain ⟨hk2, hup⟩ := hk'.set hm hx hji hne
                generalize now j (f' (nx j)) = x at hne hk2 hup
                have hne2 : (x == f' j) = false := by simpa using hne
                refine AW_rg (tyOf_good _) [1, 2, 3, 4, 8, 9, 10, 42] [6, 30] (notIn_ok rfl) fun K' hK' => ?_
                repeat (refine sxf_next fun K2 hK2 => ?_; simp [dNum, dB, rowB, hne2, hji]; (repeat (refine ⟨by omega, ?_⟩)); refine hK2 _ ?_; clear hK2 K2)
                refine sxf_nil (hK' _ ?_)
                refine AW.st (by simp [dNum, dB, rowB, hne2, hji]; rfl) ?_
                clear hK' K'
                refine AW_cond true rfl (fun _ => ?_) (fun h => by cases h)
                refine AW_re (tyOf_good _) fun K' hK' => ?_
                repeat (refine sxf_next fun K2 hK2 => ?_; simp [dNum, dB, rowB, hji]; (repeat (refine ⟨by omega, ?_⟩)); refine hK2 _ ?_; clear hK2 K2)
                refine sxf_nil (hK' _ ?_)
                clear hK' K'
                refine hK6 _ (AW.norm [1, 2, 3, 4, 8, 9] [6, 30] (notIn_ok rfl) (AW.st (by simp [dNum, dB, rowB, hji]; rfl) ?_))
                refine AW_re (tyOf_good _) fun K' hK' => ?_
                repeat (refine sxf_next fun K2 hK2 => ?_; simp [dNum, dB, rowB]; (repeat (refine ⟨by omega, ?_⟩)); refine hK2 _ ?_; clear hK2 K2)
                refine sxf_nil (hK' _ ?_)
                clear hK' K'
                try simp only [thn, inb]
                refine Again.mk (setB f' j x, true, j) ⟨by dsimp only; omega, hk2, fun h => (by cases h), fun _ => ?_⟩ (by dsimp only; omega) ?_
                · dsimp only
                  cases again with
                  | false => rw [(hf1 rfl).1] at hup ⊢; exact hup
                  | true => have := hf2 rfl; omega
                refine Imp.to' (notIn_ok rfl) (by simp [dNum, dB, rowB, set_rowB]) (by simp [dNum, dB, rowB, set_rowB])
#print axioms fix_spec
end Go.Proofs.YtoikggboakojlaaDoor

/-
  At which times of a word a formula holds: lasso.holds.
-/
namespace Go.Proofs.YtoikggboakojlaaDoor
set_option linter.unusedSimpArgs false
set_option linter.unusedVariables false
open Go.Av

abbrev Times := List (List (List UInt8))
def dW (a r : Times) : D := .agg [dTimes a, dTimes r]
/-- What is so at time i, by what is so of the parts. -/
def valF (a r : Times) (k : Int) (s : List UInt8) (of : List (List Bool)) : Nat → Bool :=
  let n := a.length + r.length
  let o := fun (j i : Nat) => (of.getD j []).getD i false
  let nx := nxF a.length n
  if k = 1 then fun i => ((a ++ r).getD i []).any fun x => x == s
  else if k = 2 then fun _ => true
  else if k = 3 then fun i => !o 0 i
  else if k = 4 then fun i => o 0 i && o 1 i
  else if k = 5 then fun i => o 0 i || o 1 i
  else if k = 6 then fun i => o 0 (nx i)
  else if k = 7 then iterN (fun i b => o 1 i || (o 0 i && b)) nx false n
  else if k = 8 then iterN (fun i b => o 1 i && (o 0 i || b)) nx true n
  else if k = 9 then iterN (fun i b => o 0 i || b) nx false n
  else iterN (fun i b => o 0 i && b) nx true n
mutual
def holdsF (a r : Times) : Fm → List Bool
  | .nil => []
  | .mk k s l => (List.range (a.length + r.length)).map (valF a r k s (holdsL a r l))
def holdsL (a r : Times) : List Fm → List (List Bool)
  | [] => []
  | f :: l => holdsF a r f :: holdsL a r l
end
theorem holdsL_map (a r : Times) : ∀ l, holdsL a r l = l.map (holdsF a r)
  | [] => rfl
  | f :: l => by rw [holdsL, holdsL_map a r l]; rfl

theorem take_range_map (n : Nat) (g : Nat → List D) : List.take n ((List.range n).map g) = (List.range n).map g := List.take_of_length_le (by simp)
theorem setB_same (f : Nat → Bool) (i : Nat) (x : Bool) : setB f i x i = x := by simp [setB]
theorem setB_setB (f : Nat → Bool) (i : Nat) (x y : Bool) (j : Nat) : setB (setB f i x) i y j = setB f i y j := by unfold setB; split <;> rfl
theorem setB_id (f : Nat → Bool) {i : Nat} {x : Bool} (h : f i = x) (j : Nat) : setB f i x j = f j := by unfold setB; split <;> simp_all
theorem nxF_lt {a n i : Nat} (ha : a < n) (hi : i < n) : nxF a n i < n := by unfold nxF; split <;> omega
theorem right_at {d : Nat} : ∀ {l : List Fm} {n : Int}, (rightL d l n).2 = 0 → ∀ f ∈ l, (rightF d f).2 = 0
  | [], _, _, f, hf => by simp at hf
  | g :: l, n, h, f, hf => by
    rw [rightL] at h
    by_cases hg : (rightF d g).2 = 0
    · rw [if_neg (by simp [hg])] at h
      rcases List.mem_cons.1 hf with rfl | hf
      · exact hg
      · exact right_at h f hf
    · rw [if_pos hg] at h
      exact absurd h hg

set_option maxHeartbeats 16000000 in
theorem holds_spec (G : Glob) (a r : Times) (hr : 0 < r.length) (hn0 : a.length + r.length < 2^20) (hT : ∀ t ∈ a ++ r, t.length < 2^63) : ∀ (d : Nat) (f : Fm), (rightF d f).2 = 0 → namesOk f → PureC Tryd.prog G 74 [dW a r, dF f] (dBs (holdsF a r f)) := by
  intro d
  induction d with
  | zero =>
    intro f h _
    cases f <;> simp [rightF] at h
  | succ d ih =>
    intro f h hnm
    cases f with
    | nil => simp [rightF] at h
    | mk k s l =>
      have hb : badF k s l.length = 0 := by
        rw [rightF] at h
        by_cases hb : badF k s l.length = 0
        · exact hb
        · rw [if_pos hb] at h; exact absurd h hb
      rw [rightF, if_neg (by rw [hb]; decide)] at h
      have hch : ∀ g ∈ l, PureC Tryd.prog G 74 [dW a r, dF g] (dBs (holdsF a r g)) := fun g hg => ih g (right_at h g hg) (namesOkL_mem hnm.2 g hg)
      have hip : ∀ g ∈ l, ∃ c, dF g = .ip c := fun g hg => by
        have h1 := right_at h g hg
        cases g with
        | nil => cases d <;> simp [rightF] at h1
        | mk k s l => exact ⟨_, rfl⟩
      clear ih h
      have hk : 1 ≤ k ∧ k ≤ 10 ∧ (l.length : Int) = arityF k := by
        unfold badF at hb
        split at hb
        · cases hb
        · omega
      obtain ⟨hk1, hk10, hlen⟩ := hk
      have ha2 := arity_two hk1 hk10
      generalize hn : a.length + r.length = n at hn0
      have hnI : (a.length : Int) + r.length = n := by omega
      rw [holdsF, hn]
      refine PureC.of_body (tyOf_good _) Tryd.func74 rfl rfl (rs := [.tmp 4]) Tryd.results74 (by simp [Tryd.ntmps74]) fun X => ?_
      simp only [Tryd.ntmps74, List.map]
      refine AW_rg (tyOf_good _) [1, 2] [2] (fun _ _ => trivial) fun K' hK' => ?_
      repeat (refine sxf_next fun K2 hK2 => ?_; simp [dNum, dB, rowB, dW, dF, dFs_map]; (repeat (refine ⟨by omega, ?_⟩)); refine hK2 _ ?_; clear hK2 K2)
      refine sxf_nil (hK' _ ?_)
      refine AW.st (by simp [dNum, dB, rowB, dW, dF, dFs_map]; rfl) ?_
      clear hK' K'
      refine AW_rg (tyOf_good _) [1, 2, 5] [2, 5] (fun _ _ => trivial) fun K' hK' => ?_
      repeat (refine sxf_next fun K2 hK2 => ?_; simp [dNum, dB, rowB, dTimes, hnI]; (repeat (refine ⟨by omega, ?_⟩)); refine hK2 _ ?_; clear hK2 K2)
      refine sxf_nil (hK' _ ?_)
      refine AW.st (by simp [dNum, dB, rowB, dTimes, hnI]; rfl) ?_
      clear hK' K'
      refine AW_rg (tyOf_good _) [1, 2, 5, 6] [2, 5, 6, 30] (fun _ _ => trivial) fun K' hK' => ?_
      repeat (refine sxf_next fun K2 hK2 => ?_; simp [dNum, dB, rowB]; (repeat (refine ⟨by omega, ?_⟩)); refine hK2 _ ?_; clear hK2 K2)
      refine sxf_nil (hK' _ ?_)
      refine AW.st (by simp [dNum, dB, rowB]; rfl) ?_
      clear hK' K'
      refine AW.imp (Imp.freezeB 2 trivial) ?_
      refine AW.st (by simp [dNum, dB, rowB]; rfl) ?_
      refine AW.imp (Imp.freezeB 5 trivial) ?_
      refine AW.st (by simp [dNum, dB, rowB]; rfl) ?_
      refine AW_rg (tyOf_good _) [1, 2, 5, 6, 7] [6, 7, 30] (fun _ _ => trivial) fun K' hK' => ?_
      repeat (refine sxf_next fun K2 hK2 => ?_; simp [dNum, dB, rowB]; (repeat (refine ⟨by omega, ?_⟩)); refine hK2 _ ?_; clear hK2 K2)
      refine sxf_nil (hK' _ ?_)
      refine AW.st (by simp [dNum, dB, rowB]; rfl) ?_
      clear hK' K'
      refine AW.imp (Imp.freezeB 7 trivial) ?_
      refine AW.st (by simp [dNum, dB, rowB]; rfl) ?_
      refine AW_rg (tyOf_good _) [1, 2, 5, 6, 7, 8] [6, 8, 30] (fun _ _ => trivial) fun K' hK' => ?_
      repeat (refine sxf_next fun K2 hK2 => ?_; simp [dNum, dB, rowB]; (repeat (refine ⟨by omega, ?_⟩)); refine hK2 _ ?_; clear hK2 K2)
      refine sxf_nil (hK' _ ?_)
      refine AW.st (by simp [dNum, dB, rowB]; rfl) ?_
      clear hK' K'
      refine AW_then fun K1 hK1 => ?_
      refine AW_rg (tyOf_good _) [1, 2, 5, 6, 7, 8, 35, 36, 37] [6, 8, 30] (fun _ _ => trivial) fun K' hK' => ?_
      repeat (refine sxf_next fun K2 hK2 => ?_; simp [dNum, dB, rowB]; (repeat (refine ⟨by omega, ?_⟩)); refine hK2 _ ?_; clear hK2 K2)
      refine sxf_nil (hK' _ ?_)
      refine AW.st (by simp [dNum, dB, rowB]; rfl) ?_
      clear hK' K'
      refine AW_for (S := Nat) (fun i => i ≤ l.length) (fun i => ⟨lst [(1, .d (.ip [dNum k, dS s, .sl (ofK l) (l.map fun f => [dF f])])), (2, .d (.ip [dTimes a, dTimes r])), (5, .d (.ip [dNum n])), (6, .ref 6 0 0), (7, .d (.ip [.fn (.func 101) [.ip [dNum n], .ip [dTimes a, dTimes r]]])), (8, .ref 8 0 0), (35, .d (.sl (ofK l) (l.map fun f => [dF f]))), (36, int l.length), (37, int i)],
        hlst [(6, .box 56 [.own 30 0 n]), (8, .box 167 [.own 308 0 i]), (30, .sl 4 1 (List.replicate n [.v (.bool false)])), (308, .sl 56 1 (List.take i (l.map fun f => [dBs (holdsF a r f)])))]⟩) (fun i => l.length - i) 0 ?_ (by omega) ?_
      · refine (Imp.adoptCell 8 0 308 56 1 rfl rfl rfl).trans ?_
        refine Imp.to' (fun _ _ => trivial) (by simp [dNum, dB, rowB, dTimes]) (by simp [dNum, dB, rowB, dTimes])
      · intro i hi
        refine AW_rg (tyOf_good _) [1, 2, 5, 6, 7, 8, 35, 36, 37, 38] [6, 8, 30, 308] (fun _ _ => trivial) fun K' hK' => ?_
        repeat (refine sxf_next fun K2 hK2 => ?_; simp [dNum, dB, rowB]; (repeat (refine ⟨by omega, ?_⟩)); refine hK2 _ ?_; clear hK2 K2)
        refine sxf_nil (hK' _ ?_)
        refine AW.st (by simp [dNum, dB, rowB]; rfl) ?_
        clear hK' K'
        refine AW_then fun K2 hK2 => ?_
        refine AW_cond' (b := i < l.length) (by simp [D.le, D.le.go, takeMap, dNum, dB, rowB]) (fun hc => ?_) (fun hc => ?_)
        · have hil : i < l.length := hc
          obtain ⟨ci, hci⟩ := hip _ (List.getElem_mem hil)
          have hcc := hch _ (List.getElem_mem hil)
          rw [hci] at hcc
          have hlt1 : (List.take i (l.map fun f => [dBs (holdsF a r f)])).length = i := by simp; omega
          have htk : ∀ g : Fm → List D, List.take (i + 1) (List.map g l) = List.take i (List.map g l) ++ [g l[i]] := fun g => by
            rw [List.take_succ_eq_append_getElem (by simp; exact hil), List.getElem_map]
          refine AW_skip (hK2 _ ?_)
          refine AW_then fun K3 hK3 => ?_
          refine AW_block ?_
          refine AW_rg (tyOf_good _) [1, 2, 5, 6, 7, 8, 10, 35, 36, 37] [6, 8, 30, 308] (fun _ _ => trivial) fun K' hK' => ?_
          repeat (refine sxf_next fun K2 hK2 => ?_; simp [dNum, dB, rowB, hil, hci]; (repeat (refine ⟨by omega, ?_⟩)); refine hK2 _ ?_; clear hK2 K2)
          refine sxf_nil (hK' _ ?_)
          refine AW.st (by simp [dNum, dB, rowB, hil, hci]; rfl) ?_
          clear hK' K'
          refine AW_rle (tyOf_good _) (by kernel_rfl) ([(5, (308, 45))]) ([]) ([0, 1, 2, 3, 4, 5, 6]) (by kernel_rfl) fun K' hK' => ?_
          repeat (refine sxl_nextO rfl fun K2 hK2 => ?_; simp [dNum, dB, rowB, dTimes, dW, dBs, List.take_take]; (repeat (refine ⟨by omega, ?_⟩)); refine hK2 _ ?_; clear hK2 K2)
          refine sxl_nextO rfl fun K2 hK2 => ?_
          simp [dNum, dB, rowB, dTimes, dW, dBs, List.take_take]
          refine callD.mk (hcc) (by simp; rfl) (by simp; rfl) (by first | exact D.leGo_refl _ | simp [takeMap, List.map_map, Function.comp_def, D.le, D.le.go, D.le_refl, D.leGo_refl, dNum, dB, rowB, dTimes, dW, dBs, List.take_take]) (by simp) ?_
          refine hK2 _ ?_
          clear hK2 K2
          simp only [putd, upd_lst]
          repeat (refine sxl_nextO rfl fun K2 hK2 => ?_; simp [dNum, dB, rowB, dTimes, dW, dBs, List.take_take]; (repeat (refine ⟨by omega, ?_⟩)); refine hK2 _ ?_; clear hK2 K2)
          refine sxl_nilO (hK' _ ?_)
          clear hK' K'
          refine hK3 _ (AW.norm [1, 2, 5, 6, 7, 8, 35, 36, 37] [6, 8, 30, 308] (fun _ _ => trivial) (AW.st (by simp [dNum, dB, rowB, dTimes, dW, dBs, List.take_take]; rfl) ?_))
          refine AW_re (tyOf_good _) fun K' hK' => ?_
          repeat (refine sxf_next fun K2 hK2 => ?_; simp [dNum, dB, rowB]; (repeat (refine ⟨by omega, ?_⟩)); refine hK2 _ ?_; clear hK2 K2)
          refine sxf_nil (hK' _ ?_)
          clear hK' K'
          try simp only [thn, inb]
          refine Again.mk (i + 1) (by omega) (by omega) ?_
          refine Imp.to' (fun _ _ => trivial) (by simp [dNum, dB, rowB, dTimes, dBs, htk]) (by simp [dNum, dB, rowB, dTimes, dBs, htk])
        · obtain rfl : i = l.length := by omega
          refine AW_exit (hK1 _ ?_)
          refine AW.imp (Imp.freeze 308 trivial) ?_
          refine AW.st (by simp [dNum, dB, rowB]; rfl) ?_
          refine AW.imp (Imp.freezeB 8 trivial) ?_
          refine AW.st (by simp [dNum, dB, rowB]; rfl) ?_
          refine AW_rg (tyOf_good _) [1, 2, 6, 7, 8, 11] [6, 30] (fun _ _ => trivial) fun K' hK' => ?_
          repeat (refine sxf_next fun K2 hK2 => ?_; simp [dNum, dB, rowB]; (repeat (refine ⟨by omega, ?_⟩)); refine hK2 _ ?_; clear hK2 K2)
          refine sxf_nil (hK' _ ?_)
          refine AW.st (by simp [dNum, dB, rowB]; rfl) ?_
          clear hK' K'
          refine AW_then fun K4 hK4 => ?_
          refine AW_rg (tyOf_good _) [1, 2, 6, 7, 8, 11, 52] [6, 30] (fun _ _ => trivial) fun K' hK' => ?_
          repeat (refine sxf_next fun K2 hK2 => ?_; simp [dNum, dB, rowB]; (repeat (refine ⟨by omega, ?_⟩)); refine hK2 _ ?_; clear hK2 K2)
          refine sxf_nil (hK' _ ?_)
          refine AW.st (by simp [dNum, dB, rowB]; rfl) ?_
          clear hK' K'
          refine AW_block ?_
          have htkl : ∀ g : Fm → List D, List.take l.length (l.map g) = l.map g := fun g => List.take_of_length_le (by simp)
          have hof1 : (holdsL a r l).length = l.length := by rw [holdsL_map, List.length_map]
          have hof2 : ∀ x ∈ holdsL a r l, x.length = n := fun x hx => by
            rw [holdsL_map] at hx
            obtain ⟨g, hg, rfl⟩ := List.mem_map.1 hx
            obtain ⟨c, hc⟩ := hip g hg
            cases g with
            | nil => simp [dF] at hc
            | mk k' s' l' => rw [holdsF, List.length_map, List.length_range, hn]
          refine AW.st (show _ = (⟨lst [(1, .d (.ip [dNum k, dS s, .sl (ofK l) (l.map fun f => [dF f])])), (2, .d (.ip [dTimes a, dTimes r])), (6, .ref 6 0 0), (7, .d (.ip [.fn (.func 101) [.ip [dNum n], .ip [dTimes a, dTimes r]]])), (8, .d (.ip [dOf (holdsL a r l)])), (11, .fn (.func 102) [.ref 6 0 0, .d (.ip [dNum n]), .d (.ip [.fn (.func 101) [.ip [dNum n], .ip [dTimes a, dTimes r]]])]), (52, int k)], hlst [(6, .box 56 [.own 30 0 n]), (30, .sl 4 1 (List.replicate n [.v (.bool false)]))]⟩ : St) by simp [dOf, dBs, holdsL_map, dNum, List.map_map, Function.comp_def, htkl]) ?_
          obtain ⟨of, hofe⟩ : ∃ of, holdsL a r l = of := ⟨_, rfl⟩
          rw [hofe] at hof1 hof2 ⊢
          have hks : k = 1 ∨ k = 2 ∨ k = 3 ∨ k = 4 ∨ k = 5 ∨ k = 6 ∨ k = 7 ∨ k = 8 ∨ k = 9 ∨ k = 10 := by omega
          rcases hks with rfl | rfl | rfl | rfl | rfl | rfl | rfl | rfl | rfl | rfl
          · refine AW_rg (tyOf_good _) [1, 2, 6, 7, 8, 11, 52, 53] [6, 30] (fun _ _ => trivial) fun K' hK' => ?_
            repeat (refine sxf_next fun K2 hK2 => ?_; simp [dNum, dB, rowB]; (repeat (refine ⟨by omega, ?_⟩)); refine hK2 _ ?_; clear hK2 K2)
            refine sxf_nil (hK' _ ?_)
            refine AW.st (by simp [dNum, dB, rowB]; rfl) ?_
            clear hK' K'
            refine AW_cond true rfl (fun _ => ?_) (fun h => by cases h)
            have hv1 : ∀ i, valF a r 1 s of i = ((a ++ r).getD i []).any fun x => x == s := fun i => by simp [valF]
            refine AW_rg (tyOf_good _) [1, 2, 6, 56, 57] [6, 30] (fun _ _ => trivial) fun K' hK' => ?_
            repeat (refine sxf_next fun K2 hK2 => ?_; simp [dNum, dB, rowB]; (repeat (refine ⟨by omega, ?_⟩)); refine hK2 _ ?_; clear hK2 K2)
            refine sxf_nil (hK' _ ?_)
            refine AW.st (by simp [dNum, dB, rowB]; rfl) ?_
            clear hK' K'
            refine AW_for (S := (Nat → Bool) × Nat) (fun s' => s'.2 ≤ n ∧ (∀ j, j < s'.2 → s'.1 j = valF a r 1 s of j) ∧ ∀ j, s'.2 ≤ j → s'.1 j = false) (fun s' => ⟨lst [(1, .d (.ip [dNum 1, dS s, .sl (ofK l) (l.map fun f => [dF f])])), (2, .d (.ip [dTimes a, dTimes r])), (6, .ref 6 0 0), (56, int n), (57, int s'.2)], hlst [(6, .box 56 [.own 30 0 n]), (30, rowB n s'.1)]⟩) (fun s' => n - s'.2) (fun _ => false, 0) ?_ (by simp) ?_
            · refine Imp.to' (fun _ _ => trivial) (by simp [dNum, dB, rowB, List.map_const', dTimes]) (by simp [dNum, dB, rowB, List.map_const', dTimes])
            · rintro ⟨f, i⟩ ⟨hi, hall, hnone⟩
              dsimp only at hi hall hnone ⊢
              refine AW_rg (tyOf_good _) [1, 2, 6, 56, 57, 58] [6, 30] (fun _ _ => trivial) fun K' hK' => ?_
              repeat (refine sxf_next fun K2 hK2 => ?_; simp [dNum, dB, rowB]; (repeat (refine ⟨by omega, ?_⟩)); refine hK2 _ ?_; clear hK2 K2)
              refine sxf_nil (hK' _ ?_)
              refine AW.st (by simp [dNum, dB, rowB]; rfl) ?_
              clear hK' K'
              refine AW_then fun K5 hK5 => ?_
              refine AW_cond' (b := i < n) (by simp [D.le, D.le.go, takeMap, dNum, dB, rowB]) (fun hc => ?_) (fun hc => ?_)
              · have hin : i < n := hc
                have hfi := hnone i (Nat.le_refl i)
                obtain ⟨X, j, hj, htm, hcase⟩ : ∃ (X : Times) (j : Nat), ∃ hj : j < X.length, X[j] = (a ++ r).getD i [] ∧ ((i < a.length ∧ X = a ∧ j = i) ∨ (a.length ≤ i ∧ X = r ∧ (j : Int) = (i : Int) - a.length)) := by
                  by_cases h : i < a.length
                  · exact ⟨a, i, h, by simp [List.getD_eq_getElem?_getD, List.getElem?_append_left h, h], .inl ⟨h, rfl, rfl⟩⟩
                  · have h2 : i - a.length < r.length := by omega
                    exact ⟨r, i - a.length, h2, by simp [List.getD_eq_getElem?_getD, List.getElem?_append_right (Nat.le_of_not_lt h), h2], .inr ⟨by omega, rfl, by omega⟩⟩
                refine AW_skip (hK5 _ ?_)
                refine AW_then fun K6 hK6 => ?_
                refine AW_block ?_
                refine AW_rg (tyOf_good _) [1, 2, 6, 12, 56, 57] [6, 30] (fun _ _ => trivial) fun K' hK' => ?_
                repeat (refine sxf_next fun K2 hK2 => ?_; simp [dNum, dB, rowB]; (repeat (refine ⟨by omega, ?_⟩)); refine hK2 _ ?_; clear hK2 K2)
                refine sxf_nil (hK' _ ?_)
                refine AW.st (by simp [dNum, dB, rowB]; rfl) ?_
                clear hK' K'
                refine AW_rg (tyOf_good _) [1, 2, 6, 12, 13, 56, 57] [6, 30] (fun _ _ => trivial) fun K' hK' => ?_
                repeat (refine sxf_next fun K2 hK2 => ?_; simp [dNum, dB, rowB, dTimes]; (repeat (refine ⟨by omega, ?_⟩)); refine hK2 _ ?_; clear hK2 K2)
                refine sxf_nil (hK' _ ?_)
                refine AW.st (by simp [dNum, dB, rowB, dTimes]; rfl) ?_
                clear hK' K'
                refine AW_rg (tyOf_good _) [1, 2, 6, 12, 13, 14, 56, 57] [6, 30] (fun _ _ => trivial) fun K' hK' => ?_
                repeat (refine sxf_next fun K2 hK2 => ?_; simp [dNum, dB, rowB, dTimes]; (repeat (refine ⟨by omega, ?_⟩)); refine hK2 _ ?_; clear hK2 K2)
                refine sxf_nil (hK' _ ?_)
                refine AW.st (by simp [dNum, dB, rowB, dTimes]; rfl) ?_
                clear hK' K'
                refine AW_then fun K7 hK7 => ?_
                have hlneg : i < a.length → (i : Int) - a.length < 0 := fun h => by omega
                have hlpos : a.length ≤ i → ¬ (i : Int) - a.length < 0 := fun h => by omega
                have hlI : i < a.length → (i : Int) < a.length := fun h => by omega
                refine' late (fun hrest => ?_) ?_
                rotate_left
                · rcases hcase with ⟨h1, hX, h3⟩ | ⟨h1, hX, h3⟩
                  · have h2 := hlneg h1
                    have h4 := hlI h1
                    refine AW_rg (tyOf_good _) [1, 2, 6, 12, 13, 14, 56, 57, 68] [6, 30] (fun _ _ => trivial) fun K' hK' => ?_
                    repeat (refine sxf_next fun K2 hK2 => ?_; simp [dNum, dB, rowB, h2, h4]; (repeat (refine ⟨by omega, ?_⟩)); refine hK2 _ ?_; clear hK2 K2)
                    refine sxf_nil (hK' _ ?_)
                    refine AW.st (by simp [dNum, dB, rowB, h2, h4]; rfl) ?_
                    clear hK' K'
                    refine AW_cond true rfl (fun _ => ?_) (fun h => by cases h)
                    refine AW_re (tyOf_good _) fun K' hK' => ?_
                    repeat (refine sxf_next fun K2 hK2 => ?_; simp [dNum, dB, rowB, dTimes]; (repeat (refine ⟨by omega, ?_⟩)); refine hK2 _ ?_; clear hK2 K2)
                    refine sxf_nil (hK' _ ?_)
                    clear hK' K'
                    refine hK7 _ (AW.norm [1, 2, 6, 12, 13, 14, 56, 57] [6, 30] (fun _ _ => trivial) (AW.st (by simp [dNum, dB, rowB, dTimes]; rfl) ?_))
                    refine AW.st (show _ = (⟨lst [(1, .d (.ip [dNum 1, dS s, .sl (ofK l) (l.map fun f => [dF f])])), (2, .d (.ip [dTimes a, dTimes r])), (6, .ref 6 0 0), (12, int i), (13, .d (dTimes X)), (14, int j), (56, int n), (57, int i)], hlst [(6, .box 56 [.own 30 0 n]), (30, rowB n f)]⟩ : St) by simp [dTimes, rowB, dNum, dB, hX, h3]) ?_
                    exact hrest.out
                  · have h2 := hlpos h1
                    have h4 : ¬ (i : Int) < a.length := by omega
                    refine AW_rg (tyOf_good _) [1, 2, 6, 12, 13, 14, 56, 57, 68] [6, 30] (fun _ _ => trivial) fun K' hK' => ?_
                    repeat (refine sxf_next fun K2 hK2 => ?_; simp [dNum, dB, rowB, h2, h4]; (repeat (refine ⟨by omega, ?_⟩)); refine hK2 _ ?_; clear hK2 K2)
                    refine sxf_nil (hK' _ ?_)
                    refine AW.st (by simp [dNum, dB, rowB, h2, h4]; rfl) ?_
                    clear hK' K'
                    refine AW_cond false rfl (fun h => by cases h) (fun _ => ?_)
                    refine AW_skip ?_
                    refine hK7 _ (AW.norm [1, 2, 6, 12, 13, 14, 56, 57] [6, 30] (fun _ _ => trivial) (AW.st (by simp [dNum, dB, rowB]; rfl) ?_))
                    refine AW.st (show _ = (⟨lst [(1, .d (.ip [dNum 1, dS s, .sl (ofK l) (l.map fun f => [dF f])])), (2, .d (.ip [dTimes a, dTimes r])), (6, .ref 6 0 0), (12, int i), (13, .d (dTimes X)), (14, int j), (56, int n), (57, int i)], hlst [(6, .box 56 [.own 30 0 n]), (30, rowB n f)]⟩ : St) by simp [dTimes, rowB, dNum, dB, hX, h3]) ?_
                    exact hrest.out
                · have hv := hv1 i
                  rw [← htm] at hv
                  refine AW_rg (tyOf_good _) [1, 2, 6, 12, 56, 57, 75, 76, 77] [6, 30] (fun _ _ => trivial) fun K' hK' => ?_
                  repeat (refine sxf_next fun K2 hK2 => ?_; simp [dNum, dB, rowB, dTimes, dNames, hj]; (repeat (refine ⟨by omega, ?_⟩)); refine hK2 _ ?_; clear hK2 K2)
                  refine sxf_nil (hK' _ ?_)
                  refine AW.st (by simp [dNum, dB, rowB, dTimes, dNames, hj]; rfl) ?_
                  clear hK' K'
                  have htl : X[j].length < 2^63 := by
                    refine hT _ ?_
                    rcases hcase with ⟨h1, hX, h3⟩ | ⟨h1, hX, h3⟩
                    · subst hX; exact List.mem_append_left _ (List.getElem_mem hj)
                    · subst hX; exact List.mem_append_right _ (List.getElem_mem hj)
                  generalize X[j] = tm at hv htl
                  refine AW_for (S := Nat) (fun m => m ≤ tm.length) (fun m => ⟨lst [(1, .d (.ip [dNum 1, dS s, .sl (ofK l) (l.map fun f => [dF f])])), (2, .d (.ip [dTimes a, dTimes r])), (6, .ref 6 0 0), (12, int i), (56, int n), (57, int i), (75, .d (dNames tm)), (76, int tm.length), (77, int m)], hlst [(6, .box 56 [.own 30 0 n]), (30, rowB n (setB f i ((tm.take m).any fun x => x == s)))]⟩) (fun m => tm.length - m) 0 ?_ (by simp) ?_
                  · refine Imp.to' (fun _ _ => trivial) (by simp [dNum, dB, rowB, dTimes, dNames, setB_id f hfi]) (by simp [dNum, dB, rowB, dTimes, dNames, setB_id f hfi])
                  · intro m hm
                    refine AW_rg (tyOf_good _) [1, 2, 6, 12, 56, 57, 75, 76, 77, 78] [6, 30] (fun _ _ => trivial) fun K' hK' => ?_
                    repeat (refine sxf_next fun K2 hK2 => ?_; simp [dNum, dB, rowB, dNames]; (repeat (refine ⟨by omega, ?_⟩)); refine hK2 _ ?_; clear hK2 K2)
                    refine sxf_nil (hK' _ ?_)
                    refine AW.st (by simp [dNum, dB, rowB, dNames]; rfl) ?_
                    clear hK' K'
                    refine AW_then fun K8 hK8 => ?_
                    refine AW_cond' (b := m < tm.length) (by simp [D.le, D.le.go, takeMap, dNum, dB, rowB]) (fun hc => ?_) (fun hc => ?_)
                    · have hml : m < tm.length := hc
                      refine AW_skip (hK8 _ ?_)
                      refine AW_then fun K9 hK9 => ?_
                      refine AW_block ?_
                      refine AW_rg (tyOf_good _) [1, 2, 6, 12, 16, 56, 57, 75, 76, 77] [6, 30] (fun _ _ => trivial) fun K' hK' => ?_
                      repeat (refine sxf_next fun K2 hK2 => ?_; simp [dNum, dB, rowB, dNames, hml, dS]; (repeat (refine ⟨by omega, ?_⟩)); refine hK2 _ ?_; clear hK2 K2)
                      refine sxf_nil (hK' _ ?_)
                      refine AW.st (by simp [dNum, dB, rowB, dNames, hml, dS]; rfl) ?_
                      clear hK' K'
                      have hany : ((tm.take (m + 1)).any fun x => x == s) = (((tm.take m).any fun x => x == s) || tm[m] == s) := by
                        rw [List.take_succ_eq_append_getElem hml, List.any_append]; simp
                      generalize ((tm.take m).any fun x => x == s) = old at hany
                      cases old with
                      | true =>
                        refine AW_rdge (tyOf_good _) (by kernel_rfl) [(0, 6), (2, 6), (4, 30), (5, 30), (11, 999), (14, 30), (15, 30)] (by kernel_rfl) fun K' hK' => ?_
                        repeat (refine sxg_next fun K2 hK2 => ?_; simp [dNum, dB, rowB, hin, setB_same, dS]; (repeat (refine ⟨by omega, ?_⟩)); refine hK2 _ ?_; clear hK2 K2)
                        refine sxg_nil (hK' _ ?_)
                        clear hK' K'
                        refine hK9 _ (AW.norm [1, 2, 6, 12, 56, 57, 75, 76, 77] [6, 30] (fun _ _ => trivial) (AW.st (by simp [dNum, dB, rowB, hin, setB_same, dS]; rfl) ?_))
                        refine AW_re (tyOf_good _) fun K' hK' => ?_
                        repeat (refine sxf_next fun K2 hK2 => ?_; simp [dNum, dB, rowB]; (repeat (refine ⟨by omega, ?_⟩)); refine hK2 _ ?_; clear hK2 K2)
                        refine sxf_nil (hK' _ ?_)
                        clear hK' K'
                        try simp only [thn, inb]
                        refine Again.mk (m + 1) (by omega) (by omega) ?_
                        refine Imp.to' (fun _ _ => trivial) (by simp [dNum, dB, rowB, dTimes, dNames, dS, hany, set_rowB, setB_setB]) (by simp [dNum, dB, rowB, dTimes, dNames, dS, hany, set_rowB, setB_setB])
                      | false =>
                        cases hs : (tm[m] == s) with
                        | true =>
                          rw [hs] at hany
                          have hs1 : tm[m] = s := by simpa using hs
                          refine AW_rdge (tyOf_good _) (by kernel_rfl) [(0, 6), (2, 6), (4, 30), (5, 30), (11, 999), (14, 30), (15, 30)] (by kernel_rfl) fun K' hK' => ?_
                          repeat (refine sxg_next fun K2 hK2 => ?_; simp [dNum, dB, rowB, hin, setB_same, dS, hs1, binS]; (repeat (refine ⟨by omega, ?_⟩)); refine hK2 _ ?_; clear hK2 K2)
                          refine sxg_nil (hK' _ ?_)
                          clear hK' K'
                          refine hK9 _ (AW.norm [1, 2, 6, 12, 56, 57, 75, 76, 77] [6, 30] (fun _ _ => trivial) (AW.st (by simp [dNum, dB, rowB, hin, setB_same, dS, hs1, binS]; rfl) ?_))
                          refine AW_re (tyOf_good _) fun K' hK' => ?_
                          repeat (refine sxf_next fun K2 hK2 => ?_; simp [dNum, dB, rowB]; (repeat (refine ⟨by omega, ?_⟩)); refine hK2 _ ?_; clear hK2 K2)
                          refine sxf_nil (hK' _ ?_)
                          clear hK' K'
                          try simp only [thn, inb]
                          refine Again.mk (m + 1) (by omega) (by omega) ?_
                          refine Imp.to' (fun _ _ => trivial) (by simp [dNum, dB, rowB, dTimes, dNames, dS, hany, set_rowB, setB_setB]) (by simp [dNum, dB, rowB, dTimes, dNames, dS, hany, set_rowB, setB_setB])
                        | false =>
                          rw [hs] at hany
                          have hs1 : ¬ tm[m] = s := by simpa using hs
                          refine AW_rdge (tyOf_good _) (by kernel_rfl) [(0, 6), (2, 6), (4, 30), (5, 30), (11, 999), (14, 30), (15, 30)] (by kernel_rfl) fun K' hK' => ?_
                          repeat (refine sxg_next fun K2 hK2 => ?_; simp [dNum, dB, rowB, hin, setB_same, dS, bs_list, hs, hs1, binS]; (repeat (refine ⟨by omega, ?_⟩)); refine hK2 _ ?_; clear hK2 K2)
                          refine sxg_nil (hK' _ ?_)
                          clear hK' K'
                          refine hK9 _ (AW.norm [1, 2, 6, 12, 56, 57, 75, 76, 77] [6, 30] (fun _ _ => trivial) (AW.st (by simp [dNum, dB, rowB, hin, setB_same, dS, bs_list, hs, hs1, binS]; rfl) ?_))
                          refine AW_re (tyOf_good _) fun K' hK' => ?_
                          repeat (refine sxf_next fun K2 hK2 => ?_; simp [dNum, dB, rowB]; (repeat (refine ⟨by omega, ?_⟩)); refine hK2 _ ?_; clear hK2 K2)
                          refine sxf_nil (hK' _ ?_)
                          clear hK' K'
                          try simp only [thn, inb]
                          refine Again.mk (m + 1) (by omega) (by omega) ?_
                          refine Imp.to' (fun _ _ => trivial) (by simp [dNum, dB, rowB, dTimes, dNames, dS, hany, set_rowB, setB_setB]) (by simp [dNum, dB, rowB, dTimes, dNames, dS, hany, set_rowB, setB_setB])
                    · obtain rfl : m = tm.length := by omega
                      refine AW_exit (hK6 _ ?_)
                      rw [List.take_length, ← hv]
                      refine AW_re (tyOf_good _) fun K' hK' => ?_
                      repeat (refine sxf_next fun K2 hK2 => ?_; simp [dNum, dB, rowB]; (repeat (refine ⟨by omega, ?_⟩)); refine hK2 _ ?_; clear hK2 K2)
                      refine sxf_nil (hK' _ ?_)
                      clear hK' K'
                      try simp only [thn, inb]
                      refine Again.mk (setB f i (valF a r 1 s of i), i + 1) ⟨by dsimp only; omega, fun j hj => ?_, fun j hj => ?_⟩ (by dsimp only; omega) ?_
                      · dsimp only at hj ⊢
                        unfold setB
                        split
                        · rename_i e; subst e; rfl
                        · exact hall j (by omega)
                      · dsimp only at hj ⊢
                        unfold setB
                        rw [if_neg (by omega)]
                        exact hnone j (by omega)
                      refine Imp.to' (fun _ _ => trivial) (by simp [dNum, dB, rowB, dTimes]) (by simp [dNum, dB, rowB, dTimes])
              · obtain rfl : i = n := by omega
                refine AW_exit ?_
                refine hK4 _ (AW.norm [6] [6, 30] (fun _ _ => trivial) (AW.st (by simp [dNum, dB, rowB]; rfl) ?_))
                refine AW.st (show _ = (⟨lst [(6, .ref 6 0 0)], hlst [(6, .box 56 [.own 30 0 i]), (30, rowB i (valF a r 1 s of))]⟩ : St) by rw [← rowB_congr hall] <;> rfl) ?_
                refine AW_rg (tyOf_good _) [4] [30] (fun _ _ => trivial) fun K' hK' => ?_
                repeat (refine sxf_next fun K2 hK2 => ?_; simp [dNum, dB, rowB]; (repeat (refine ⟨by omega, ?_⟩)); refine hK2 _ ?_; clear hK2 K2)
                refine sxf_nil (hK' _ ?_)
                refine AW.st (by simp [dNum, dB, rowB]; rfl) ?_
                clear hK' K'
                refine AW_ret ?_
                simp [D.le, D.le.go, takeMap, dNum, dB, rowB, dBs, List.map_map, Function.comp_def, hofe, take_range_map]
          · refine AW_rg (tyOf_good _) [1, 2, 6, 7, 8, 11, 52, 53] [6, 30] (fun _ _ => trivial) fun K' hK' => ?_
            repeat (refine sxf_next fun K2 hK2 => ?_; simp [dNum, dB, rowB]; (repeat (refine ⟨by omega, ?_⟩)); refine hK2 _ ?_; clear hK2 K2)
            refine sxf_nil (hK' _ ?_)
            refine AW.st (by simp [dNum, dB, rowB]; rfl) ?_
            clear hK' K'
            refine AW_cond false rfl (fun h => by cases h) (fun _ => ?_)
            refine AW_rg (tyOf_good _) [6, 7, 8, 11, 52, 98] [6, 30] (fun _ _ => trivial) fun K' hK' => ?_
            repeat (refine sxf_next fun K2 hK2 => ?_; simp [dNum, dB, rowB]; (repeat (refine ⟨by omega, ?_⟩)); refine hK2 _ ?_; clear hK2 K2)
            refine sxf_nil (hK' _ ?_)
            refine AW.st (by simp [dNum, dB, rowB]; rfl) ?_
            clear hK' K'
            refine AW_cond true rfl (fun _ => ?_) (fun h => by cases h)
            refine AW_rg (tyOf_good _) [6, 101, 102] [6, 30] (fun _ _ => trivial) fun K' hK' => ?_
            repeat (refine sxf_next fun K2 hK2 => ?_; simp [dNum, dB, rowB]; (repeat (refine ⟨by omega, ?_⟩)); refine hK2 _ ?_; clear hK2 K2)
            refine sxf_nil (hK' _ ?_)
            refine AW.st (by simp [dNum, dB, rowB]; rfl) ?_
            clear hK' K'
            refine AW_for (S := (Nat → Bool) × Nat) (fun s' => s'.2 ≤ n ∧ ∀ j, j < s'.2 → s'.1 j = valF a r 2 s of j) (fun s' => ⟨lst [(6, .ref 6 0 0), (101, int n), (102, int s'.2)], hlst [(6, .box 56 [.own 30 0 n]), (30, rowB n s'.1)]⟩) (fun s' => n - s'.2) (fun _ => false, 0) ?_ (by simp) ?_
            · refine Imp.to' (fun _ _ => trivial) (by simp [dNum, dB, rowB, List.map_const', dOf, dBs]) (by simp [dNum, dB, rowB, List.map_const', dOf, dBs])
            · rintro ⟨f, i⟩ ⟨hi, hall⟩
              dsimp only at hi hall ⊢
              refine AW_rg (tyOf_good _) [6, 101, 102, 103] [6, 30] (fun _ _ => trivial) fun K' hK' => ?_
              repeat (refine sxf_next fun K2 hK2 => ?_; simp [dNum, dB, rowB]; (repeat (refine ⟨by omega, ?_⟩)); refine hK2 _ ?_; clear hK2 K2)
              refine sxf_nil (hK' _ ?_)
              refine AW.st (by simp [dNum, dB, rowB]; rfl) ?_
              clear hK' K'
              refine AW_then fun K12 hK12 => ?_
              refine AW_cond' (b := i < n) (by simp [D.le, D.le.go, takeMap, dNum, dB, rowB]) (fun hc => ?_) (fun hc => ?_)
              · have hin : i < n := hc
                refine AW_skip (hK12 _ ?_)
                refine AW_then fun K13 hK13 => ?_
                refine AW_block ?_
                refine AW_rg (tyOf_good _) [6, 17, 101, 102] [6, 30] (fun _ _ => trivial) fun K' hK' => ?_
                repeat (refine sxf_next fun K2 hK2 => ?_; simp [dNum, dB, rowB]; (repeat (refine ⟨by omega, ?_⟩)); refine hK2 _ ?_; clear hK2 K2)
                refine sxf_nil (hK' _ ?_)
                refine AW.st (by simp [dNum, dB, rowB]; rfl) ?_
                clear hK' K'
                refine AW_re (tyOf_good _) fun K' hK' => ?_
                repeat (refine sxf_next fun K2 hK2 => ?_; simp [dNum, dB, rowB, hin]; (repeat (refine ⟨by omega, ?_⟩)); refine hK2 _ ?_; clear hK2 K2)
                refine sxf_nil (hK' _ ?_)
                clear hK' K'
                refine hK13 _ (AW.norm [6, 101, 102] [6, 30] (fun _ _ => trivial) (AW.st (by simp [dNum, dB, rowB, hin]; rfl) ?_))
                refine AW_re (tyOf_good _) fun K' hK' => ?_
                repeat (refine sxf_next fun K2 hK2 => ?_; simp [dNum, dB, rowB]; (repeat (refine ⟨by omega, ?_⟩)); refine hK2 _ ?_; clear hK2 K2)
                refine sxf_nil (hK' _ ?_)
                clear hK' K'
                try simp only [thn, inb]
                refine Again.mk (setB f i (valF a r 2 s of i), i + 1) ⟨by dsimp only; omega, fun j hj => ?_⟩ (by dsimp only; omega) ?_
                · dsimp only at hj ⊢
                  unfold setB
                  split
                  · rename_i e; subst e; rfl
                  · exact hall j (by omega)
                refine Imp.to' (fun _ _ => trivial) (by simp [dNum, dB, rowB, set_rowB, dOf, dBs, valF]) (by simp [dNum, dB, rowB, set_rowB, dOf, dBs, valF])
              · obtain rfl : i = n := by omega
                refine AW_exit ?_
                refine hK4 _ (AW.norm [6] [6, 30] (fun _ _ => trivial) (AW.st (by simp [dNum, dB, rowB]; rfl) ?_))
                refine AW.st (show _ = (⟨lst [(6, .ref 6 0 0)], hlst [(6, .box 56 [.own 30 0 i]), (30, rowB i (valF a r 2 s of))]⟩ : St) by rw [← rowB_congr hall] <;> rfl) ?_
                refine AW_rg (tyOf_good _) [4] [30] (fun _ _ => trivial) fun K' hK' => ?_
                repeat (refine sxf_next fun K2 hK2 => ?_; simp [dNum, dB, rowB]; (repeat (refine ⟨by omega, ?_⟩)); refine hK2 _ ?_; clear hK2 K2)
                refine sxf_nil (hK' _ ?_)
                refine AW.st (by simp [dNum, dB, rowB]; rfl) ?_
                clear hK' K'
                refine AW_ret ?_
                simp [D.le, D.le.go, takeMap, dNum, dB, rowB, dBs, List.map_map, Function.comp_def, hofe, take_range_map]
          · have hol : of.length = 1 := by rw [hof1]; simp [arityF, arityL] at hlen; omega
            obtain ⟨o0, rfl⟩ := List.length_eq_one_iff.1 hol
            have ho0 := hof2 o0 (by simp)
            have hv3 : ∀ i, (h : i < n) → valF a r 3 s [o0] i = !(o0[i]'(by omega)) := fun i h => by simp [valF, show i < o0.length by omega]
            refine AW_rg (tyOf_good _) [1, 2, 6, 7, 8, 11, 52, 53] [6, 30] (fun _ _ => trivial) fun K' hK' => ?_
            repeat (refine sxf_next fun K2 hK2 => ?_; simp [dNum, dB, rowB]; (repeat (refine ⟨by omega, ?_⟩)); refine hK2 _ ?_; clear hK2 K2)
            refine sxf_nil (hK' _ ?_)
            refine AW.st (by simp [dNum, dB, rowB]; rfl) ?_
            clear hK' K'
            refine AW_cond false rfl (fun h => by cases h) (fun _ => ?_)
            refine AW_rg (tyOf_good _) [6, 7, 8, 11, 52, 98] [6, 30] (fun _ _ => trivial) fun K' hK' => ?_
            repeat (refine sxf_next fun K2 hK2 => ?_; simp [dNum, dB, rowB]; (repeat (refine ⟨by omega, ?_⟩)); refine hK2 _ ?_; clear hK2 K2)
            refine sxf_nil (hK' _ ?_)
            refine AW.st (by simp [dNum, dB, rowB]; rfl) ?_
            clear hK' K'
            refine AW_cond false rfl (fun h => by cases h) (fun _ => ?_)
            refine AW_rg (tyOf_good _) [6, 7, 8, 11, 52, 109] [6, 30] (fun _ _ => trivial) fun K' hK' => ?_
            repeat (refine sxf_next fun K2 hK2 => ?_; simp [dNum, dB, rowB]; (repeat (refine ⟨by omega, ?_⟩)); refine hK2 _ ?_; clear hK2 K2)
            refine sxf_nil (hK' _ ?_)
            refine AW.st (by simp [dNum, dB, rowB]; rfl) ?_
            clear hK' K'
            refine AW_cond true rfl (fun _ => ?_) (fun h => by cases h)
            refine AW_rg (tyOf_good _) [6, 8, 112, 113] [6, 30] (fun _ _ => trivial) fun K' hK' => ?_
            repeat (refine sxf_next fun K2 hK2 => ?_; simp [dNum, dB, rowB]; (repeat (refine ⟨by omega, ?_⟩)); refine hK2 _ ?_; clear hK2 K2)
            refine sxf_nil (hK' _ ?_)
            refine AW.st (by simp [dNum, dB, rowB]; rfl) ?_
            clear hK' K'
            refine AW_for (S := (Nat → Bool) × Nat) (fun s' => s'.2 ≤ n ∧ ∀ j, j < s'.2 → s'.1 j = valF a r 3 s [o0] j) (fun s' => ⟨lst [(6, .ref 6 0 0), (8, .d (.ip [dOf [o0]])), (112, int n), (113, int s'.2)], hlst [(6, .box 56 [.own 30 0 n]), (30, rowB n s'.1)]⟩) (fun s' => n - s'.2) (fun _ => false, 0) ?_ (by simp) ?_
            · refine Imp.to' (fun _ _ => trivial) (by simp [dNum, dB, rowB, List.map_const', dOf, dBs]) (by simp [dNum, dB, rowB, List.map_const', dOf, dBs])
            · rintro ⟨f, i⟩ ⟨hi, hall⟩
              dsimp only at hi hall ⊢
              refine AW_rg (tyOf_good _) [6, 8, 112, 113, 114] [6, 30] (fun _ _ => trivial) fun K' hK' => ?_
              repeat (refine sxf_next fun K2 hK2 => ?_; simp [dNum, dB, rowB]; (repeat (refine ⟨by omega, ?_⟩)); refine hK2 _ ?_; clear hK2 K2)
              refine sxf_nil (hK' _ ?_)
              refine AW.st (by simp [dNum, dB, rowB]; rfl) ?_
              clear hK' K'
              refine AW_then fun K12 hK12 => ?_
              refine AW_cond' (b := i < n) (by simp [D.le, D.le.go, takeMap, dNum, dB, rowB]) (fun hc => ?_) (fun hc => ?_)
              · have hin : i < n := hc
                refine AW_skip (hK12 _ ?_)
                refine AW_then fun K13 hK13 => ?_
                refine AW_block ?_
                refine AW_rg (tyOf_good _) [6, 8, 18, 112, 113] [6, 30] (fun _ _ => trivial) fun K' hK' => ?_
                repeat (refine sxf_next fun K2 hK2 => ?_; simp [dNum, dB, rowB]; (repeat (refine ⟨by omega, ?_⟩)); refine hK2 _ ?_; clear hK2 K2)
                refine sxf_nil (hK' _ ?_)
                refine AW.st (by simp [dNum, dB, rowB]; rfl) ?_
                clear hK' K'
                have hv := hv3 i hin
                have hin0 : i < o0.length := by omega
                refine AW_rdge (tyOf_good _) (by kernel_rfl) [(0, 6), (2, 999), (3, 999), (4, 999), (6, 999), (7, 999), (9, 30), (10, 30)] (by kernel_rfl) fun K' hK' => ?_
                repeat (refine sxg_next fun K2 hK2 => ?_; simp [dNum, dB, rowB, hin, hin0, dOf, dBs]; (repeat (refine ⟨by omega, ?_⟩)); refine hK2 _ ?_; clear hK2 K2)
                refine sxg_nil (hK' _ ?_)
                clear hK' K'
                refine hK13 _ (AW.norm [6, 8, 112, 113] [6, 30] (fun _ _ => trivial) (AW.st (by simp [dNum, dB, rowB, hin, hin0, dOf, dBs]; rfl) ?_))
                refine AW_re (tyOf_good _) fun K' hK' => ?_
                repeat (refine sxf_next fun K2 hK2 => ?_; simp [dNum, dB, rowB]; (repeat (refine ⟨by omega, ?_⟩)); refine hK2 _ ?_; clear hK2 K2)
                refine sxf_nil (hK' _ ?_)
                clear hK' K'
                try simp only [thn, inb]
                refine Again.mk (setB f i (valF a r 3 s [o0] i), i + 1) ⟨by dsimp only; omega, fun j hj => ?_⟩ (by dsimp only; omega) ?_
                · dsimp only at hj ⊢
                  unfold setB
                  split
                  · rename_i e; subst e; rfl
                  · exact hall j (by omega)
                refine Imp.to' (fun _ _ => trivial) (by simp [dNum, dB, rowB, set_rowB, dOf, dBs, hv]) (by simp [dNum, dB, rowB, set_rowB, dOf, dBs, hv])
              · obtain rfl : i = n := by omega
                refine AW_exit ?_
                refine hK4 _ (AW.norm [6] [6, 30] (fun _ _ => trivial) (AW.st (by simp [dNum, dB, rowB]; rfl) ?_))
                refine AW.st (show _ = (⟨lst [(6, .ref 6 0 0)], hlst [(6, .box 56 [.own 30 0 i]), (30, rowB i (valF a r 3 s [o0]))]⟩ : St) by rw [← rowB_congr hall] <;> rfl) ?_
                refine AW_rg (tyOf_good _) [4] [30] (fun _ _ => trivial) fun K' hK' => ?_
                repeat (refine sxf_next fun K2 hK2 => ?_; simp [dNum, dB, rowB]; (repeat (refine ⟨by omega, ?_⟩)); refine hK2 _ ?_; clear hK2 K2)
                refine sxf_nil (hK' _ ?_)
                refine AW.st (by simp [dNum, dB, rowB]; rfl) ?_
                clear hK' K'
                refine AW_ret ?_
                simp [D.le, D.le.go, takeMap, dNum, dB, rowB, dBs, List.map_map, Function.comp_def, hofe, take_range_map]
          · have hol : of.length = 2 := by rw [hof1]; simp [arityF, arityL] at hlen; omega
            obtain ⟨o0, o1, rfl⟩ : ∃ x y, of = [x, y] := by match of, hol with | [x, y], _ => exact ⟨x, y, rfl⟩
            have ho0 := hof2 o0 (by simp)
            have ho1 := hof2 o1 (by simp)
            have hv4 : ∀ i, (h : i < n) → valF a r 4 s [o0, o1] i = (o0[i]'(by omega) && o1[i]'(by omega)) := fun i h => by simp [valF, show i < o0.length by omega, show i < o1.length by omega]
            refine AW_rg (tyOf_good _) [1, 2, 6, 7, 8, 11, 52, 53] [6, 30] (fun _ _ => trivial) fun K' hK' => ?_
            repeat (refine sxf_next fun K2 hK2 => ?_; simp [dNum, dB, rowB]; (repeat (refine ⟨by omega, ?_⟩)); refine hK2 _ ?_; clear hK2 K2)
            refine sxf_nil (hK' _ ?_)
            refine AW.st (by simp [dNum, dB, rowB]; rfl) ?_
            clear hK' K'
            refine AW_cond false rfl (fun h => by cases h) (fun _ => ?_)
            refine AW_rg (tyOf_good _) [6, 7, 8, 11, 52, 98] [6, 30] (fun _ _ => trivial) fun K' hK' => ?_
            repeat (refine sxf_next fun K2 hK2 => ?_; simp [dNum, dB, rowB]; (repeat (refine ⟨by omega, ?_⟩)); refine hK2 _ ?_; clear hK2 K2)
            refine sxf_nil (hK' _ ?_)
            refine AW.st (by simp [dNum, dB, rowB]; rfl) ?_
            clear hK' K'
            refine AW_cond false rfl (fun h => by cases h) (fun _ => ?_)
            refine AW_rg (tyOf_good _) [6, 7, 8, 11, 52, 109] [6, 30] (fun _ _ => trivial) fun K' hK' => ?_
            repeat (refine sxf_next fun K2 hK2 => ?_; simp [dNum, dB, rowB]; (repeat (refine ⟨by omega, ?_⟩)); refine hK2 _ ?_; clear hK2 K2)
            refine sxf_nil (hK' _ ?_)
            refine AW.st (by simp [dNum, dB, rowB]; rfl) ?_
            clear hK' K'
            refine AW_cond false rfl (fun h => by cases h) (fun _ => ?_)
            refine AW_rg (tyOf_good _) [6, 7, 8, 11, 52, 127] [6, 30] (fun _ _ => trivial) fun K' hK' => ?_
            repeat (refine sxf_next fun K2 hK2 => ?_; simp [dNum, dB, rowB]; (repeat (refine ⟨by omega, ?_⟩)); refine hK2 _ ?_; clear hK2 K2)
            refine sxf_nil (hK' _ ?_)
            refine AW.st (by simp [dNum, dB, rowB]; rfl) ?_
            clear hK' K'
            refine AW_cond true rfl (fun _ => ?_) (fun h => by cases h)
            refine AW_rg (tyOf_good _) [6, 8, 130, 131] [6, 30] (fun _ _ => trivial) fun K' hK' => ?_
            repeat (refine sxf_next fun K2 hK2 => ?_; simp [dNum, dB, rowB]; (repeat (refine ⟨by omega, ?_⟩)); refine hK2 _ ?_; clear hK2 K2)
            refine sxf_nil (hK' _ ?_)
            refine AW.st (by simp [dNum, dB, rowB]; rfl) ?_
            clear hK' K'
            refine AW_for (S := (Nat → Bool) × Nat) (fun s' => s'.2 ≤ n ∧ ∀ j, j < s'.2 → s'.1 j = valF a r 4 s [o0, o1] j) (fun s' => ⟨lst [(6, .ref 6 0 0), (8, .d (.ip [dOf [o0, o1]])), (130, int n), (131, int s'.2)], hlst [(6, .box 56 [.own 30 0 n]), (30, rowB n s'.1)]⟩) (fun s' => n - s'.2) (fun _ => false, 0) ?_ (by simp) ?_
            · refine Imp.to' (fun _ _ => trivial) (by simp [dNum, dB, rowB, List.map_const', dOf, dBs]) (by simp [dNum, dB, rowB, List.map_const', dOf, dBs])
            · rintro ⟨f, i⟩ ⟨hi, hall⟩
              dsimp only at hi hall ⊢
              refine AW_rg (tyOf_good _) [6, 8, 130, 131, 132] [6, 30] (fun _ _ => trivial) fun K' hK' => ?_
              repeat (refine sxf_next fun K2 hK2 => ?_; simp [dNum, dB, rowB]; (repeat (refine ⟨by omega, ?_⟩)); refine hK2 _ ?_; clear hK2 K2)
              refine sxf_nil (hK' _ ?_)
              refine AW.st (by simp [dNum, dB, rowB]; rfl) ?_
              clear hK' K'
              refine AW_then fun K12 hK12 => ?_
              refine AW_cond' (b := i < n) (by simp [D.le, D.le.go, takeMap, dNum, dB, rowB]) (fun hc => ?_) (fun hc => ?_)
              · have hin : i < n := hc
                refine AW_skip (hK12 _ ?_)
                refine AW_then fun K13 hK13 => ?_
                refine AW_block ?_
                refine AW_rg (tyOf_good _) [6, 8, 19, 130, 131] [6, 30] (fun _ _ => trivial) fun K' hK' => ?_
                repeat (refine sxf_next fun K2 hK2 => ?_; simp [dNum, dB, rowB]; (repeat (refine ⟨by omega, ?_⟩)); refine hK2 _ ?_; clear hK2 K2)
                refine sxf_nil (hK' _ ?_)
                refine AW.st (by simp [dNum, dB, rowB]; rfl) ?_
                clear hK' K'
                have hv := hv4 i hin
                have hin0 : i < o0.length := by omega
                have hin1 : i < o1.length := by omega
                cases h0 : o0[i]'(by omega) with
                | true =>
                  rw [h0] at hv
                  refine AW_rdge (tyOf_good _) (by kernel_rfl) [(0, 6), (2, 999), (3, 999), (4, 999), (6, 999), (7, 999), (9, 999), (10, 999), (11, 999), (13, 999), (14, 999), (16, 30), (17, 30)] (by kernel_rfl) fun K' hK' => ?_
                  repeat (refine sxg_next fun K2 hK2 => ?_; simp [dNum, dB, rowB, hin, hin0, hin1, h0, dOf, dBs]; (repeat (refine ⟨by omega, ?_⟩)); refine hK2 _ ?_; clear hK2 K2)
                  refine sxg_nil (hK' _ ?_)
                  clear hK' K'
                  refine hK13 _ (AW.norm [6, 8, 130, 131] [6, 30] (fun _ _ => trivial) (AW.st (by simp [dNum, dB, rowB, hin, hin0, hin1, h0, dOf, dBs]; rfl) ?_))
                  refine AW_re (tyOf_good _) fun K' hK' => ?_
                  repeat (refine sxf_next fun K2 hK2 => ?_; simp [dNum, dB, rowB]; (repeat (refine ⟨by omega, ?_⟩)); refine hK2 _ ?_; clear hK2 K2)
                  refine sxf_nil (hK' _ ?_)
                  clear hK' K'
                  try simp only [thn, inb]
                  refine Again.mk (setB f i (valF a r 4 s [o0, o1] i), i + 1) ⟨by dsimp only; omega, fun j hj => ?_⟩ (by dsimp only; omega) ?_
                  · dsimp only at hj ⊢
                    unfold setB
                    split
                    · rename_i e; subst e; rfl
                    · exact hall j (by omega)
                  refine Imp.to' (fun _ _ => trivial) (by simp [dNum, dB, rowB, set_rowB, dOf, dBs, hv]) (by simp [dNum, dB, rowB, set_rowB, dOf, dBs, hv])
                | false =>
                  rw [h0] at hv
                  refine AW_rdge (tyOf_good _) (by kernel_rfl) [(0, 6), (2, 999), (3, 999), (4, 999), (6, 999), (7, 999), (9, 999), (10, 999), (11, 999), (13, 999), (14, 999), (16, 30), (17, 30)] (by kernel_rfl) fun K' hK' => ?_
                  repeat (refine sxg_next fun K2 hK2 => ?_; simp [dNum, dB, rowB, hin, hin0, hin1, h0, dOf, dBs]; (repeat (refine ⟨by omega, ?_⟩)); refine hK2 _ ?_; clear hK2 K2)
                  refine sxg_nil (hK' _ ?_)
                  clear hK' K'
                  refine hK13 _ (AW.norm [6, 8, 130, 131] [6, 30] (fun _ _ => trivial) (AW.st (by simp [dNum, dB, rowB, hin, hin0, hin1, h0, dOf, dBs]; rfl) ?_))
                  refine AW_re (tyOf_good _) fun K' hK' => ?_
                  repeat (refine sxf_next fun K2 hK2 => ?_; simp [dNum, dB, rowB]; (repeat (refine ⟨by omega, ?_⟩)); refine hK2 _ ?_; clear hK2 K2)
                  refine sxf_nil (hK' _ ?_)
                  clear hK' K'
                  try simp only [thn, inb]
                  refine Again.mk (setB f i (valF a r 4 s [o0, o1] i), i + 1) ⟨by dsimp only; omega, fun j hj => ?_⟩ (by dsimp only; omega) ?_
                  · dsimp only at hj ⊢
                    unfold setB
                    split
                    · rename_i e; subst e; rfl
                    · exact hall j (by omega)
                  refine Imp.to' (fun _ _ => trivial) (by simp [dNum, dB, rowB, set_rowB, dOf, dBs, hv]) (by simp [dNum, dB, rowB, set_rowB, dOf, dBs, hv])
              · obtain rfl : i = n := by omega
                refine AW_exit ?_
                refine hK4 _ (AW.norm [6] [6, 30] (fun _ _ => trivial) (AW.st (by simp [dNum, dB, rowB]; rfl) ?_))
                refine AW.st (show _ = (⟨lst [(6, .ref 6 0 0)], hlst [(6, .box 56 [.own 30 0 i]), (30, rowB i (valF a r 4 s [o0, o1]))]⟩ : St) by rw [← rowB_congr hall] <;> rfl) ?_
                refine AW_rg (tyOf_good _) [4] [30] (fun _ _ => trivial) fun K' hK' => ?_
                repeat (refine sxf_next fun K2 hK2 => ?_; simp [dNum, dB, rowB]; (repeat (refine ⟨by omega, ?_⟩)); refine hK2 _ ?_; clear hK2 K2)
                refine sxf_nil (hK' _ ?_)
                refine AW.st (by simp [dNum, dB, rowB]; rfl) ?_
                clear hK' K'
                refine AW_ret ?_
                simp [D.le, D.le.go, takeMap, dNum, dB, rowB, dBs, List.map_map, Function.comp_def, hofe, take_range_map]
          · have hol : of.length = 2 := by rw [hof1]; simp [arityF, arityL] at hlen; omega
            obtain ⟨o0, o1, rfl⟩ : ∃ x y, of = [x, y] := by match of, hol with | [x, y], _ => exact ⟨x, y, rfl⟩
            have ho0 := hof2 o0 (by simp)
            have ho1 := hof2 o1 (by simp)
            have hv5 : ∀ i, (h : i < n) → valF a r 5 s [o0, o1] i = (o0[i]'(by omega) || o1[i]'(by omega)) := fun i h => by simp [valF, show i < o0.length by omega, show i < o1.length by omega]
            refine AW_rg (tyOf_good _) [1, 2, 6, 7, 8, 11, 52, 53] [6, 30] (fun _ _ => trivial) fun K' hK' => ?_
            repeat (refine sxf_next fun K2 hK2 => ?_; simp [dNum, dB, rowB]; (repeat (refine ⟨by omega, ?_⟩)); refine hK2 _ ?_; clear hK2 K2)
            refine sxf_nil (hK' _ ?_)
            refine AW.st (by simp [dNum, dB, rowB]; rfl) ?_
            clear hK' K'
            refine AW_cond false rfl (fun h => by cases h) (fun _ => ?_)
            refine AW_rg (tyOf_good _) [6, 7, 8, 11, 52, 98] [6, 30] (fun _ _ => trivial) fun K' hK' => ?_
            repeat (refine sxf_next fun K2 hK2 => ?_; simp [dNum, dB, rowB]; (repeat (refine ⟨by omega, ?_⟩)); refine hK2 _ ?_; clear hK2 K2)
            refine sxf_nil (hK' _ ?_)
            refine AW.st (by simp [dNum, dB, rowB]; rfl) ?_
            clear hK' K'
            refine AW_cond false rfl (fun h => by cases h) (fun _ => ?_)
            refine AW_rg (tyOf_good _) [6, 7, 8, 11, 52, 109] [6, 30] (fun _ _ => trivial) fun K' hK' => ?_
            repeat (refine sxf_next fun K2 hK2 => ?_; simp [dNum, dB, rowB]; (repeat (refine ⟨by omega, ?_⟩)); refine hK2 _ ?_; clear hK2 K2)
            refine sxf_nil (hK' _ ?_)
            refine AW.st (by simp [dNum, dB, rowB]; rfl) ?_
            clear hK' K'
            refine AW_cond false rfl (fun h => by cases h) (fun _ => ?_)
            refine AW_rg (tyOf_good _) [6, 7, 8, 11, 52, 127] [6, 30] (fun _ _ => trivial) fun K' hK' => ?_
            repeat (refine sxf_next fun K2 hK2 => ?_; simp [dNum, dB, rowB]; (repeat (refine ⟨by omega, ?_⟩)); refine hK2 _ ?_; clear hK2 K2)
            refine sxf_nil (hK' _ ?_)
            refine AW.st (by simp [dNum, dB, rowB]; rfl) ?_
            clear hK' K'
            refine AW_cond false rfl (fun h => by cases h) (fun _ => ?_)
            refine AW_rg (tyOf_good _) [6, 7, 8, 11, 52, 152] [6, 30] (fun _ _ => trivial) fun K' hK' => ?_
            repeat (refine sxf_next fun K2 hK2 => ?_; simp [dNum, dB, rowB]; (repeat (refine ⟨by omega, ?_⟩)); refine hK2 _ ?_; clear hK2 K2)
            refine sxf_nil (hK' _ ?_)
            refine AW.st (by simp [dNum, dB, rowB]; rfl) ?_
            clear hK' K'
            refine AW_cond true rfl (fun _ => ?_) (fun h => by cases h)
            refine AW_rg (tyOf_good _) [6, 8, 155, 156] [6, 30] (fun _ _ => trivial) fun K' hK' => ?_
            repeat (refine sxf_next fun K2 hK2 => ?_; simp [dNum, dB, rowB]; (repeat (refine ⟨by omega, ?_⟩)); refine hK2 _ ?_; clear hK2 K2)
            refine sxf_nil (hK' _ ?_)
            refine AW.st (by simp [dNum, dB, rowB]; rfl) ?_
            clear hK' K'
            refine AW_for (S := (Nat → Bool) × Nat) (fun s' => s'.2 ≤ n ∧ ∀ j, j < s'.2 → s'.1 j = valF a r 5 s [o0, o1] j) (fun s' => ⟨lst [(6, .ref 6 0 0), (8, .d (.ip [dOf [o0, o1]])), (155, int n), (156, int s'.2)], hlst [(6, .box 56 [.own 30 0 n]), (30, rowB n s'.1)]⟩) (fun s' => n - s'.2) (fun _ => false, 0) ?_ (by simp) ?_
            · refine Imp.to' (fun _ _ => trivial) (by simp [dNum, dB, rowB, List.map_const', dOf, dBs]) (by simp [dNum, dB, rowB, List.map_const', dOf, dBs])
            · rintro ⟨f, i⟩ ⟨hi, hall⟩
              dsimp only at hi hall ⊢
              refine AW_rg (tyOf_good _) [6, 8, 155, 156, 157] [6, 30] (fun _ _ => trivial) fun K' hK' => ?_
              repeat (refine sxf_next fun K2 hK2 => ?_; simp [dNum, dB, rowB]; (repeat (refine ⟨by omega, ?_⟩)); refine hK2 _ ?_; clear hK2 K2)
              refine sxf_nil (hK' _ ?_)
              refine AW.st (by simp [dNum, dB, rowB]; rfl) ?_
              clear hK' K'
              refine AW_then fun K12 hK12 => ?_
              refine AW_cond' (b := i < n) (by simp [D.le, D.le.go, takeMap, dNum, dB, rowB]) (fun hc => ?_) (fun hc => ?_)
              · have hin : i < n := hc
                refine AW_skip (hK12 _ ?_)
                refine AW_then fun K13 hK13 => ?_
                refine AW_block ?_
                refine AW_rg (tyOf_good _) [6, 8, 20, 155, 156] [6, 30] (fun _ _ => trivial) fun K' hK' => ?_
                repeat (refine sxf_next fun K2 hK2 => ?_; simp [dNum, dB, rowB]; (repeat (refine ⟨by omega, ?_⟩)); refine hK2 _ ?_; clear hK2 K2)
                refine sxf_nil (hK' _ ?_)
                refine AW.st (by simp [dNum, dB, rowB]; rfl) ?_
                clear hK' K'
                have hv := hv5 i hin
                have hin0 : i < o0.length := by omega
                have hin1 : i < o1.length := by omega
                cases h0 : o0[i]'(by omega) with
                | true =>
                  rw [h0] at hv
                  refine AW_rdge (tyOf_good _) (by kernel_rfl) [(0, 6), (2, 999), (3, 999), (4, 999), (6, 999), (7, 999), (9, 999), (10, 999), (11, 999), (13, 999), (14, 999), (16, 30), (17, 30)] (by kernel_rfl) fun K' hK' => ?_
                  repeat (refine sxg_next fun K2 hK2 => ?_; simp [dNum, dB, rowB, hin, hin0, hin1, h0, dOf, dBs]; (repeat (refine ⟨by omega, ?_⟩)); refine hK2 _ ?_; clear hK2 K2)
                  refine sxg_nil (hK' _ ?_)
                  clear hK' K'
                  refine hK13 _ (AW.norm [6, 8, 155, 156] [6, 30] (fun _ _ => trivial) (AW.st (by simp [dNum, dB, rowB, hin, hin0, hin1, h0, dOf, dBs]; rfl) ?_))
                  refine AW_re (tyOf_good _) fun K' hK' => ?_
                  repeat (refine sxf_next fun K2 hK2 => ?_; simp [dNum, dB, rowB]; (repeat (refine ⟨by omega, ?_⟩)); refine hK2 _ ?_; clear hK2 K2)
                  refine sxf_nil (hK' _ ?_)
                  clear hK' K'
                  try simp only [thn, inb]
                  refine Again.mk (setB f i (valF a r 5 s [o0, o1] i), i + 1) ⟨by dsimp only; omega, fun j hj => ?_⟩ (by dsimp only; omega) ?_
                  · dsimp only at hj ⊢
                    unfold setB
                    split
                    · rename_i e; subst e; rfl
                    · exact hall j (by omega)
                  refine Imp.to' (fun _ _ => trivial) (by simp [dNum, dB, rowB, set_rowB, dOf, dBs, hv]) (by simp [dNum, dB, rowB, set_rowB, dOf, dBs, hv])
                | false =>
                  rw [h0] at hv
                  refine AW_rdge (tyOf_good _) (by kernel_rfl) [(0, 6), (2, 999), (3, 999), (4, 999), (6, 999), (7, 999), (9, 999), (10, 999), (11, 999), (13, 999), (14, 999), (16, 30), (17, 30)] (by kernel_rfl) fun K' hK' => ?_
                  repeat (refine sxg_next fun K2 hK2 => ?_; simp [dNum, dB, rowB, hin, hin0, hin1, h0, dOf, dBs]; (repeat (refine ⟨by omega, ?_⟩)); refine hK2 _ ?_; clear hK2 K2)
                  refine sxg_nil (hK' _ ?_)
                  clear hK' K'
                  refine hK13 _ (AW.norm [6, 8, 155, 156] [6, 30] (fun _ _ => trivial) (AW.st (by simp [dNum, dB, rowB, hin, hin0, hin1, h0, dOf, dBs]; rfl) ?_))
                  refine AW_re (tyOf_good _) fun K' hK' => ?_
                  repeat (refine sxf_next fun K2 hK2 => ?_; simp [dNum, dB, rowB]; (repeat (refine ⟨by omega, ?_⟩)); refine hK2 _ ?_; clear hK2 K2)
                  refine sxf_nil (hK' _ ?_)
                  clear hK' K'
                  try simp only [thn, inb]
                  refine Again.mk (setB f i (valF a r 5 s [o0, o1] i), i + 1) ⟨by dsimp only; omega, fun j hj => ?_⟩ (by dsimp only; omega) ?_
                  · dsimp only at hj ⊢
                    unfold setB
                    split
                    · rename_i e; subst e; rfl
                    · exact hall j (by omega)
                  refine Imp.to' (fun _ _ => trivial) (by simp [dNum, dB, rowB, set_rowB, dOf, dBs, hv]) (by simp [dNum, dB, rowB, set_rowB, dOf, dBs, hv])
              · obtain rfl : i = n := by omega
                refine AW_exit ?_
                refine hK4 _ (AW.norm [6] [6, 30] (fun _ _ => trivial) (AW.st (by simp [dNum, dB, rowB]; rfl) ?_))
                refine AW.st (show _ = (⟨lst [(6, .ref 6 0 0)], hlst [(6, .box 56 [.own 30 0 i]), (30, rowB i (valF a r 5 s [o0, o1]))]⟩ : St) by rw [← rowB_congr hall] <;> rfl) ?_
                refine AW_rg (tyOf_good _) [4] [30] (fun _ _ => trivial) fun K' hK' => ?_
                repeat (refine sxf_next fun K2 hK2 => ?_; simp [dNum, dB, rowB]; (repeat (refine ⟨by omega, ?_⟩)); refine hK2 _ ?_; clear hK2 K2)
                refine sxf_nil (hK' _ ?_)
                refine AW.st (by simp [dNum, dB, rowB]; rfl) ?_
                clear hK' K'
                refine AW_ret ?_
                simp [D.le, D.le.go, takeMap, dNum, dB, rowB, dBs, List.map_map, Function.comp_def, hofe, take_range_map]
          · have hol : of.length = 1 := by rw [hof1]; simp [arityF, arityL] at hlen; omega
            obtain ⟨o0, rfl⟩ := List.length_eq_one_iff.1 hol
            have ho0 := hof2 o0 (by simp)
            have hv6 : ∀ i, (h : i < n) → valF a r 6 s [o0] i = o0[nxF a.length n i]'(by have := nxF_lt (show a.length < n by omega) h; omega) := fun i h => by
              have := nxF_lt (show a.length < n by omega) h
              simp [valF, hn, show nxF a.length n i < o0.length by omega]
            refine AW_rg (tyOf_good _) [1, 2, 6, 7, 8, 11, 52, 53] [6, 30] (fun _ _ => trivial) fun K' hK' => ?_
            repeat (refine sxf_next fun K2 hK2 => ?_; simp [dNum, dB, rowB]; (repeat (refine ⟨by omega, ?_⟩)); refine hK2 _ ?_; clear hK2 K2)
            refine sxf_nil (hK' _ ?_)
            refine AW.st (by simp [dNum, dB, rowB]; rfl) ?_
            clear hK' K'
            refine AW_cond false rfl (fun h => by cases h) (fun _ => ?_)
            refine AW_rg (tyOf_good _) [6, 7, 8, 11, 52, 98] [6, 30] (fun _ _ => trivial) fun K' hK' => ?_
            repeat (refine sxf_next fun K2 hK2 => ?_; simp [dNum, dB, rowB]; (repeat (refine ⟨by omega, ?_⟩)); refine hK2 _ ?_; clear hK2 K2)
            refine sxf_nil (hK' _ ?_)
            refine AW.st (by simp [dNum, dB, rowB]; rfl) ?_
            clear hK' K'
            refine AW_cond false rfl (fun h => by cases h) (fun _ => ?_)
            refine AW_rg (tyOf_good _) [6, 7, 8, 11, 52, 109] [6, 30] (fun _ _ => trivial) fun K' hK' => ?_
            repeat (refine sxf_next fun K2 hK2 => ?_; simp [dNum, dB, rowB]; (repeat (refine ⟨by omega, ?_⟩)); refine hK2 _ ?_; clear hK2 K2)
            refine sxf_nil (hK' _ ?_)
            refine AW.st (by simp [dNum, dB, rowB]; rfl) ?_
            clear hK' K'
            refine AW_cond false rfl (fun h => by cases h) (fun _ => ?_)
            refine AW_rg (tyOf_good _) [6, 7, 8, 11, 52, 127] [6, 30] (fun _ _ => trivial) fun K' hK' => ?_
            repeat (refine sxf_next fun K2 hK2 => ?_; simp [dNum, dB, rowB]; (repeat (refine ⟨by omega, ?_⟩)); refine hK2 _ ?_; clear hK2 K2)
            refine sxf_nil (hK' _ ?_)
            refine AW.st (by simp [dNum, dB, rowB]; rfl) ?_
            clear hK' K'
            refine AW_cond false rfl (fun h => by cases h) (fun _ => ?_)
            refine AW_rg (tyOf_good _) [6, 7, 8, 11, 52, 152] [6, 30] (fun _ _ => trivial) fun K' hK' => ?_
            repeat (refine sxf_next fun K2 hK2 => ?_; simp [dNum, dB, rowB]; (repeat (refine ⟨by omega, ?_⟩)); refine hK2 _ ?_; clear hK2 K2)
            refine sxf_nil (hK' _ ?_)
            refine AW.st (by simp [dNum, dB, rowB]; rfl) ?_
            clear hK' K'
            refine AW_cond false rfl (fun h => by cases h) (fun _ => ?_)
            refine AW_rg (tyOf_good _) [6, 7, 8, 11, 52, 177] [6, 30] (fun _ _ => trivial) fun K' hK' => ?_
            repeat (refine sxf_next fun K2 hK2 => ?_; simp [dNum, dB, rowB]; (repeat (refine ⟨by omega, ?_⟩)); refine hK2 _ ?_; clear hK2 K2)
            refine sxf_nil (hK' _ ?_)
            refine AW.st (by simp [dNum, dB, rowB]; rfl) ?_
            clear hK' K'
            refine AW_cond true rfl (fun _ => ?_) (fun h => by cases h)
            refine AW_rg (tyOf_good _) [6, 7, 8, 180, 181] [6, 30] (fun _ _ => trivial) fun K' hK' => ?_
            repeat (refine sxf_next fun K2 hK2 => ?_; simp [dNum, dB, rowB]; (repeat (refine ⟨by omega, ?_⟩)); refine hK2 _ ?_; clear hK2 K2)
            refine sxf_nil (hK' _ ?_)
            refine AW.st (by simp [dNum, dB, rowB]; rfl) ?_
            clear hK' K'
            refine AW_for (S := (Nat → Bool) × Nat) (fun s' => s'.2 ≤ n ∧ ∀ j, j < s'.2 → s'.1 j = valF a r 6 s [o0] j) (fun s' => ⟨lst [(6, .ref 6 0 0), (7, .d (.ip [.fn (.func 101) [.ip [dNum n], .ip [dTimes a, dTimes r]]])), (8, .d (.ip [dOf [o0]])), (180, int n), (181, int s'.2)], hlst [(6, .box 56 [.own 30 0 n]), (30, rowB n s'.1)]⟩) (fun s' => n - s'.2) (fun _ => false, 0) ?_ (by simp) ?_
            · refine Imp.to' (fun _ _ => trivial) (by simp [dNum, dB, rowB, List.map_const', dOf, dBs]) (by simp [dNum, dB, rowB, List.map_const', dOf, dBs])
            · rintro ⟨f, i⟩ ⟨hi, hall⟩
              dsimp only at hi hall ⊢
              refine AW_rg (tyOf_good _) [6, 7, 8, 180, 181, 182] [6, 30] (fun _ _ => trivial) fun K' hK' => ?_
              repeat (refine sxf_next fun K2 hK2 => ?_; simp [dNum, dB, rowB]; (repeat (refine ⟨by omega, ?_⟩)); refine hK2 _ ?_; clear hK2 K2)
              refine sxf_nil (hK' _ ?_)
              refine AW.st (by simp [dNum, dB, rowB]; rfl) ?_
              clear hK' K'
              refine AW_then fun K12 hK12 => ?_
              refine AW_cond' (b := i < n) (by simp [D.le, D.le.go, takeMap, dNum, dB, rowB]) (fun hc => ?_) (fun hc => ?_)
              · have hin : i < n := hc
                refine AW_skip (hK12 _ ?_)
                refine AW_then fun K13 hK13 => ?_
                refine AW_block ?_
                refine AW_rg (tyOf_good _) [6, 7, 8, 21, 180, 181] [6, 30] (fun _ _ => trivial) fun K' hK' => ?_
                repeat (refine sxf_next fun K2 hK2 => ?_; simp [dNum, dB, rowB]; (repeat (refine ⟨by omega, ?_⟩)); refine hK2 _ ?_; clear hK2 K2)
                refine sxf_nil (hK' _ ?_)
                refine AW.st (by simp [dNum, dB, rowB]; rfl) ?_
                clear hK' K'
                have hv := hv6 i hin
                have hnl := nxF_lt (show a.length < n by omega) hin
                have hcn := next_spec G a r n i (by omega) (by omega)
                have hin2 : nxF a.length n i < o0.length := by omega
                refine AW_rdge (tyOf_good _) (by kernel_rfl) [(0, 6), (2, 999), (3, 999), (4, 999), (5, 999), (8, 999), (9, 999), (10, 30), (11, 30)] (by kernel_rfl) fun K' hK' => ?_
                repeat (refine sxg_next fun K2 hK2 => ?_; simp [dNum, dB, rowB, hin, hin2, dOf, dBs]; (repeat (refine ⟨by omega, ?_⟩)); refine hK2 _ ?_; clear hK2 K2)
                refine sxg_next fun K2 hK2 => ?_
                simp [dNum, dB, rowB, hin, hin2, dOf, dBs]
                refine callQ.data (hcn) (by simp; rfl) (by simp; rfl) (by first | exact D.leGo_refl _ | simp [takeMap, List.map_map, Function.comp_def, D.le, D.le.go, D.le_refl, D.leGo_refl, dNum, dB, rowB, hin, hin2, dOf, dBs]) ?_
                refine hK2 _ ?_
                clear hK2 K2
                simp only [putd, upd_lst]
                repeat (refine sxg_next fun K2 hK2 => ?_; simp [dNum, dB, rowB, hin, hin2, dOf, dBs]; (repeat (refine ⟨by omega, ?_⟩)); refine hK2 _ ?_; clear hK2 K2)
                refine sxg_nil (hK' _ ?_)
                clear hK' K'
                refine hK13 _ (AW.norm [6, 7, 8, 180, 181] [6, 30] (fun _ _ => trivial) (AW.st (by simp [dNum, dB, rowB, hin, hin2, dOf, dBs]; rfl) ?_))
                refine AW_re (tyOf_good _) fun K' hK' => ?_
                repeat (refine sxf_next fun K2 hK2 => ?_; simp [dNum, dB, rowB]; (repeat (refine ⟨by omega, ?_⟩)); refine hK2 _ ?_; clear hK2 K2)
                refine sxf_nil (hK' _ ?_)
                clear hK' K'
                try simp only [thn, inb]
                refine Again.mk (setB f i (valF a r 6 s [o0] i), i + 1) ⟨by dsimp only; omega, fun j hj => ?_⟩ (by dsimp only; omega) ?_
                · dsimp only at hj ⊢
                  unfold setB
                  split
                  · rename_i e; subst e; rfl
                  · exact hall j (by omega)
                refine Imp.to' (fun _ _ => trivial) (by simp [dNum, dB, rowB, set_rowB, dOf, dBs, hv]) (by simp [dNum, dB, rowB, set_rowB, dOf, dBs, hv])
              · obtain rfl : i = n := by omega
                refine AW_exit ?_
                refine hK4 _ (AW.norm [6] [6, 30] (fun _ _ => trivial) (AW.st (by simp [dNum, dB, rowB]; rfl) ?_))
                refine AW.st (show _ = (⟨lst [(6, .ref 6 0 0)], hlst [(6, .box 56 [.own 30 0 i]), (30, rowB i (valF a r 6 s [o0]))]⟩ : St) by rw [← rowB_congr hall] <;> rfl) ?_
                refine AW_rg (tyOf_good _) [4] [30] (fun _ _ => trivial) fun K' hK' => ?_
                repeat (refine sxf_next fun K2 hK2 => ?_; simp [dNum, dB, rowB]; (repeat (refine ⟨by omega, ?_⟩)); refine hK2 _ ?_; clear hK2 K2)
                refine sxf_nil (hK' _ ?_)
                refine AW.st (by simp [dNum, dB, rowB]; rfl) ?_
                clear hK' K'
                refine AW_ret ?_
                simp [D.le, D.le.go, takeMap, dNum, dB, rowB, dBs, List.map_map, Function.comp_def, hofe, take_range_map]
          · have hol : of.length = 2 := by rw [hof1]; simp [arityF, arityL] at hlen; omega
            obtain ⟨o0, o1, rfl⟩ : ∃ x y, of = [x, y] := by match of, hol with | [x, y], _ => exact ⟨x, y, rfl⟩
            have ho0 := hof2 o0 (by simp)
            have ho1 := hof2 o1 (by simp)
            have hnx : ∀ i, i < n → nxF a.length n i < n := fun i hi => nxF_lt (by omega) hi
            have hmo : MonoN (fun i b => (([o0, o1].getD 1 []).getD i false || (([o0, o1].getD 0 []).getD i false && b))) := fun i h => by revert h; dsimp only; cases ([o0, o1].getD 0 []).getD i false <;> cases ([o0, o1].getD 1 []).getD i false <;> simp
            have hnow : ∀ i b, i < n → PureC Tryd.prog G 103 (dNum i :: dB b :: [.ip [dOf [o0, o1]]]) (dB ((fun i b => (([o0, o1].getD 1 []).getD i false || (([o0, o1].getD 0 []).getD i false && b))) i b)) := fun i b hi => by
              have := until_spec G o0 o1 i b (by omega) (by omega)
              simpa [show i < o0.length by omega, show i < o1.length by omega] using this
            have hfx := fix_spec G (fun i b => (([o0, o1].getD 1 []).getD i false || (([o0, o1].getD 0 []).getD i false && b))) (nxF a.length n) false n (by omega) hmo hnx _ _ _ _ hnow (fun i hi => next_spec G a r n i (by omega) (by omega)) (fun _ => false)
            have hvf : valF a r 7 s [o0, o1] = iterN (fun i b => (([o0, o1].getD 1 []).getD i false || (([o0, o1].getD 0 []).getD i false && b))) (nxF a.length n) false n := by subst hn; rfl
            rw [← hvf] at hfx
            refine AW_rg (tyOf_good _) [1, 2, 6, 7, 8, 11, 52, 53] [6, 30] (fun _ _ => trivial) fun K' hK' => ?_
            repeat (refine sxf_next fun K2 hK2 => ?_; simp [dNum, dB, rowB]; (repeat (refine ⟨by omega, ?_⟩)); refine hK2 _ ?_; clear hK2 K2)
            refine sxf_nil (hK' _ ?_)
            refine AW.st (by simp [dNum, dB, rowB]; rfl) ?_
            clear hK' K'
            refine AW_cond false rfl (fun h => by cases h) (fun _ => ?_)
            refine AW_rg (tyOf_good _) [6, 7, 8, 11, 52, 98] [6, 30] (fun _ _ => trivial) fun K' hK' => ?_
            repeat (refine sxf_next fun K2 hK2 => ?_; simp [dNum, dB, rowB]; (repeat (refine ⟨by omega, ?_⟩)); refine hK2 _ ?_; clear hK2 K2)
            refine sxf_nil (hK' _ ?_)
            refine AW.st (by simp [dNum, dB, rowB]; rfl) ?_
            clear hK' K'
            refine AW_cond false rfl (fun h => by cases h) (fun _ => ?_)
            refine AW_rg (tyOf_good _) [6, 7, 8, 11, 52, 109] [6, 30] (fun _ _ => trivial) fun K' hK' => ?_
            repeat (refine sxf_next fun K2 hK2 => ?_; simp [dNum, dB, rowB]; (repeat (refine ⟨by omega, ?_⟩)); refine hK2 _ ?_; clear hK2 K2)
            refine sxf_nil (hK' _ ?_)
            refine AW.st (by simp [dNum, dB, rowB]; rfl) ?_
            clear hK' K'
            refine AW_cond false rfl (fun h => by cases h) (fun _ => ?_)
            refine AW_rg (tyOf_good _) [6, 7, 8, 11, 52, 127] [6, 30] (fun _ _ => trivial) fun K' hK' => ?_
            repeat (refine sxf_next fun K2 hK2 => ?_; simp [dNum, dB, rowB]; (repeat (refine ⟨by omega, ?_⟩)); refine hK2 _ ?_; clear hK2 K2)
            refine sxf_nil (hK' _ ?_)
            refine AW.st (by simp [dNum, dB, rowB]; rfl) ?_
            clear hK' K'
            refine AW_cond false rfl (fun h => by cases h) (fun _ => ?_)
            refine AW_rg (tyOf_good _) [6, 7, 8, 11, 52, 152] [6, 30] (fun _ _ => trivial) fun K' hK' => ?_
            repeat (refine sxf_next fun K2 hK2 => ?_; simp [dNum, dB, rowB]; (repeat (refine ⟨by omega, ?_⟩)); refine hK2 _ ?_; clear hK2 K2)
            refine sxf_nil (hK' _ ?_)
            refine AW.st (by simp [dNum, dB, rowB]; rfl) ?_
            clear hK' K'
            refine AW_cond false rfl (fun h => by cases h) (fun _ => ?_)
            refine AW_rg (tyOf_good _) [6, 7, 8, 11, 52, 177] [6, 30] (fun _ _ => trivial) fun K' hK' => ?_
            repeat (refine sxf_next fun K2 hK2 => ?_; simp [dNum, dB, rowB]; (repeat (refine ⟨by omega, ?_⟩)); refine hK2 _ ?_; clear hK2 K2)
            refine sxf_nil (hK' _ ?_)
            refine AW.st (by simp [dNum, dB, rowB]; rfl) ?_
            clear hK' K'
            refine AW_cond false rfl (fun h => by cases h) (fun _ => ?_)
            refine AW_rg (tyOf_good _) [6, 8, 11, 52, 196] [6, 30] (fun _ _ => trivial) fun K' hK' => ?_
            repeat (refine sxf_next fun K2 hK2 => ?_; simp [dNum, dB, rowB]; (repeat (refine ⟨by omega, ?_⟩)); refine hK2 _ ?_; clear hK2 K2)
            refine sxf_nil (hK' _ ?_)
            refine AW.st (by simp [dNum, dB, rowB]; rfl) ?_
            clear hK' K'
            refine AW_cond true rfl (fun _ => ?_) (fun h => by cases h)
            refine AW_re (tyOf_good _) fun K' hK' => ?_
            repeat (refine sxf_next fun K2 hK2 => ?_; simp [dNum, dB, rowB, rowB, List.map_const', dOf, dBs]; (repeat (refine ⟨by omega, ?_⟩)); refine hK2 _ ?_; clear hK2 K2)
            refine sxf_next fun K2 hK2 => ?_
            simp [dNum, dB, rowB, rowB, List.map_const', dOf, dBs]
            refine callK.mc (hfx) (by simp [dNum, dB, rowB, rowB, List.map_const', dOf, dBs]) (by simp [dNum, dB, rowB, rowB, List.map_const', dOf, dBs]) (by simp [dNum, dB, rowB, rowB, List.map_const', dOf, dBs]) (by simp [dNum, dB, rowB, rowB, List.map_const', dOf, dBs]) ?_
            simp [dNum, dB, rowB, rowB, List.map_const', dOf, dBs]
            refine hK2 _ ?_
            clear hK2 K2
            repeat (refine sxf_next fun K2 hK2 => ?_; simp [dNum, dB, rowB, rowB, List.map_const', dOf, dBs]; (repeat (refine ⟨by omega, ?_⟩)); refine hK2 _ ?_; clear hK2 K2)
            refine sxf_nil (hK' _ ?_)
            clear hK' K'
            refine hK4 _ (AW.norm [6] [6, 30] (fun _ _ => trivial) (AW.st (by simp [dNum, dB, rowB, rowB, List.map_const', dOf, dBs]; rfl) ?_))
            refine AW_rg (tyOf_good _) [4] [30] (fun _ _ => trivial) fun K' hK' => ?_
            repeat (refine sxf_next fun K2 hK2 => ?_; simp [dNum, dB, rowB]; (repeat (refine ⟨by omega, ?_⟩)); refine hK2 _ ?_; clear hK2 K2)
            refine sxf_nil (hK' _ ?_)
            refine AW.st (by simp [dNum, dB, rowB]; rfl) ?_
            clear hK' K'
            refine AW_ret ?_
            simp [D.le, D.le.go, takeMap, dNum, dB, rowB, dBs, List.map_map, Function.comp_def, hofe, take_range_map]
          · have hol : of.length = 2 := by rw [hof1]; simp [arityF, arityL] at hlen; omega
            obtain ⟨o0, o1, rfl⟩ : ∃ x y, of = [x, y] := by match of, hol with | [x, y], _ => exact ⟨x, y, rfl⟩
            have ho0 := hof2 o0 (by simp)
            have ho1 := hof2 o1 (by simp)
            have hnx : ∀ i, i < n → nxF a.length n i < n := fun i hi => nxF_lt (by omega) hi
            have hmo : MonoN (fun i b => (([o0, o1].getD 1 []).getD i false && (([o0, o1].getD 0 []).getD i false || b))) := fun i h => by revert h; dsimp only; cases ([o0, o1].getD 0 []).getD i false <;> cases ([o0, o1].getD 1 []).getD i false <;> simp
            have hnow : ∀ i b, i < n → PureC Tryd.prog G 104 (dNum i :: dB b :: [.ip [dOf [o0, o1]]]) (dB ((fun i b => (([o0, o1].getD 1 []).getD i false && (([o0, o1].getD 0 []).getD i false || b))) i b)) := fun i b hi => by
              have := release_spec G o0 o1 i b (by omega) (by omega)
              simpa [show i < o0.length by omega, show i < o1.length by omega] using this
            have hfx := fix_spec G (fun i b => (([o0, o1].getD 1 []).getD i false && (([o0, o1].getD 0 []).getD i false || b))) (nxF a.length n) true n (by omega) hmo hnx _ _ _ _ hnow (fun i hi => next_spec G a r n i (by omega) (by omega)) (fun _ => false)
            have hvf : valF a r 8 s [o0, o1] = iterN (fun i b => (([o0, o1].getD 1 []).getD i false && (([o0, o1].getD 0 []).getD i false || b))) (nxF a.length n) true n := by subst hn; rfl
            rw [← hvf] at hfx
            refine AW_rg (tyOf_good _) [1, 2, 6, 7, 8, 11, 52, 53] [6, 30] (fun _ _ => trivial) fun K' hK' => ?_
            repeat (refine sxf_next fun K2 hK2 => ?_; simp [dNum, dB, rowB]; (repeat (refine ⟨by omega, ?_⟩)); refine hK2 _ ?_; clear hK2 K2)
            refine sxf_nil (hK' _ ?_)
            refine AW.st (by simp [dNum, dB, rowB]; rfl) ?_
            clear hK' K'
            refine AW_cond false rfl (fun h => by cases h) (fun _ => ?_)
            refine AW_rg (tyOf_good _) [6, 7, 8, 11, 52, 98] [6, 30] (fun _ _ => trivial) fun K' hK' => ?_
            repeat (refine sxf_next fun K2 hK2 => ?_; simp [dNum, dB, rowB]; (repeat (refine ⟨by omega, ?_⟩)); refine hK2 _ ?_; clear hK2 K2)
            refine sxf_nil (hK' _ ?_)
            refine AW.st (by simp [dNum, dB, rowB]; rfl) ?_
            clear hK' K'
            refine AW_cond false rfl (fun h => by cases h) (fun _ => ?_)
            refine AW_rg (tyOf_good _) [6, 7, 8, 11, 52, 109] [6, 30] (fun _ _ => trivial) fun K' hK' => ?_
            repeat (refine sxf_next fun K2 hK2 => ?_; simp [dNum, dB, rowB]; (repeat (refine ⟨by omega, ?_⟩)); refine hK2 _ ?_; clear hK2 K2)
            refine sxf_nil (hK' _ ?_)
            refine AW.st (by simp [dNum, dB, rowB]; rfl) ?_
            clear hK' K'
            refine AW_cond false rfl (fun h => by cases h) (fun _ => ?_)
            refine AW_rg (tyOf_good _) [6, 7, 8, 11, 52, 127] [6, 30] (fun _ _ => trivial) fun K' hK' => ?_
            repeat (refine sxf_next fun K2 hK2 => ?_; simp [dNum, dB, rowB]; (repeat (refine ⟨by omega, ?_⟩)); refine hK2 _ ?_; clear hK2 K2)
            refine sxf_nil (hK' _ ?_)
            refine AW.st (by simp [dNum, dB, rowB]; rfl) ?_
            clear hK' K'
            refine AW_cond false rfl (fun h => by cases h) (fun _ => ?_)
            refine AW_rg (tyOf_good _) [6, 7, 8, 11, 52, 152] [6, 30] (fun _ _ => trivial) fun K' hK' => ?_
            repeat (refine sxf_next fun K2 hK2 => ?_; simp [dNum, dB, rowB]; (repeat (refine ⟨by omega, ?_⟩)); refine hK2 _ ?_; clear hK2 K2)
            refine sxf_nil (hK' _ ?_)
            refine AW.st (by simp [dNum, dB, rowB]; rfl) ?_
            clear hK' K'
            refine AW_cond false rfl (fun h => by cases h) (fun _ => ?_)
            refine AW_rg (tyOf_good _) [6, 7, 8, 11, 52, 177] [6, 30] (fun _ _ => trivial) fun K' hK' => ?_
            repeat (refine sxf_next fun K2 hK2 => ?_; simp [dNum, dB, rowB]; (repeat (refine ⟨by omega, ?_⟩)); refine hK2 _ ?_; clear hK2 K2)
            refine sxf_nil (hK' _ ?_)
            refine AW.st (by simp [dNum, dB, rowB]; rfl) ?_
            clear hK' K'
            refine AW_cond false rfl (fun h => by cases h) (fun _ => ?_)
            refine AW_rg (tyOf_good _) [6, 8, 11, 52, 196] [6, 30] (fun _ _ => trivial) fun K' hK' => ?_
            repeat (refine sxf_next fun K2 hK2 => ?_; simp [dNum, dB, rowB]; (repeat (refine ⟨by omega, ?_⟩)); refine hK2 _ ?_; clear hK2 K2)
            refine sxf_nil (hK' _ ?_)
            refine AW.st (by simp [dNum, dB, rowB]; rfl) ?_
            clear hK' K'
            refine AW_cond false rfl (fun h => by cases h) (fun _ => ?_)
            refine AW_rg (tyOf_good _) [6, 8, 11, 52, 201] [6, 30] (fun _ _ => trivial) fun K' hK' => ?_
            repeat (refine sxf_next fun K2 hK2 => ?_; simp [dNum, dB, rowB]; (repeat (refine ⟨by omega, ?_⟩)); refine hK2 _ ?_; clear hK2 K2)
            refine sxf_nil (hK' _ ?_)
            refine AW.st (by simp [dNum, dB, rowB]; rfl) ?_
            clear hK' K'
            refine AW_cond true rfl (fun _ => ?_) (fun h => by cases h)
            refine AW_re (tyOf_good _) fun K' hK' => ?_
            repeat (refine sxf_next fun K2 hK2 => ?_; simp [dNum, dB, rowB, rowB, List.map_const', dOf, dBs]; (repeat (refine ⟨by omega, ?_⟩)); refine hK2 _ ?_; clear hK2 K2)
            refine sxf_next fun K2 hK2 => ?_
            simp [dNum, dB, rowB, rowB, List.map_const', dOf, dBs]
            refine callK.mc (hfx) (by simp [dNum, dB, rowB, rowB, List.map_const', dOf, dBs]) (by simp [dNum, dB, rowB, rowB, List.map_const', dOf, dBs]) (by simp [dNum, dB, rowB, rowB, List.map_const', dOf, dBs]) (by simp [dNum, dB, rowB, rowB, List.map_const', dOf, dBs]) ?_
            simp [dNum, dB, rowB, rowB, List.map_const', dOf, dBs]
            refine hK2 _ ?_
            clear hK2 K2
            repeat (refine sxf_next fun K2 hK2 => ?_; simp [dNum, dB, rowB, rowB, List.map_const', dOf, dBs]; (repeat (refine ⟨by omega, ?_⟩)); refine hK2 _ ?_; clear hK2 K2)
            refine sxf_nil (hK' _ ?_)
            clear hK' K'
            refine hK4 _ (AW.norm [6] [6, 30] (fun _ _ => trivial) (AW.st (by simp [dNum, dB, rowB, rowB, List.map_const', dOf, dBs]; rfl) ?_))
            refine AW_rg (tyOf_good _) [4] [30] (fun _ _ => trivial) fun K' hK' => ?_
            repeat (refine sxf_next fun K2 hK2 => ?_; simp [dNum, dB, rowB]; (repeat (refine ⟨by omega, ?_⟩)); refine hK2 _ ?_; clear hK2 K2)
            refine sxf_nil (hK' _ ?_)
            refine AW.st (by simp [dNum, dB, rowB]; rfl) ?_
            clear hK' K'
            refine AW_ret ?_
            simp [D.le, D.le.go, takeMap, dNum, dB, rowB, dBs, List.map_map, Function.comp_def, hofe, take_range_map]
          · have hol : of.length = 1 := by rw [hof1]; simp [arityF, arityL] at hlen; omega
            obtain ⟨o0, rfl⟩ := List.length_eq_one_iff.1 hol
            have ho0 := hof2 o0 (by simp)
            have hnx : ∀ i, i < n → nxF a.length n i < n := fun i hi => nxF_lt (by omega) hi
            have hmo : MonoN (fun i b => (([o0].getD 0 []).getD i false || b)) := fun i h => by revert h; dsimp only; cases ([o0].getD 0 []).getD i false <;> simp
            have hnow : ∀ i b, i < n → PureC Tryd.prog G 105 (dNum i :: dB b :: [.ip [dOf [o0]]]) (dB ((fun i b => (([o0].getD 0 []).getD i false || b)) i b)) := fun i b hi => by
              have := ever_spec G o0 i b (by omega)
              simpa [show i < o0.length by omega] using this
            have hfx := fix_spec G (fun i b => (([o0].getD 0 []).getD i false || b)) (nxF a.length n) false n (by omega) hmo hnx _ _ _ _ hnow (fun i hi => next_spec G a r n i (by omega) (by omega)) (fun _ => false)
            have hvf : valF a r 9 s [o0] = iterN (fun i b => (([o0].getD 0 []).getD i false || b)) (nxF a.length n) false n := by subst hn; rfl
            rw [← hvf] at hfx
            refine AW_rg (tyOf_good _) [1, 2, 6, 7, 8, 11, 52, 53] [6, 30] (fun _ _ => trivial) fun K' hK' => ?_
            repeat (refine sxf_next fun K2 hK2 => ?_; simp [dNum, dB, rowB]; (repeat (refine ⟨by omega, ?_⟩)); refine hK2 _ ?_; clear hK2 K2)
            refine sxf_nil (hK' _ ?_)
            refine AW.st (by simp [dNum, dB, rowB]; rfl) ?_
            clear hK' K'
            refine AW_cond false rfl (fun h => by cases h) (fun _ => ?_)
            refine AW_rg (tyOf_good _) [6, 7, 8, 11, 52, 98] [6, 30] (fun _ _ => trivial) fun K' hK' => ?_
            repeat (refine sxf_next fun K2 hK2 => ?_; simp [dNum, dB, rowB]; (repeat (refine ⟨by omega, ?_⟩)); refine hK2 _ ?_; clear hK2 K2)
            refine sxf_nil (hK' _ ?_)
            refine AW.st (by simp [dNum, dB, rowB]; rfl) ?_
            clear hK' K'
            refine AW_cond false rfl (fun h => by cases h) (fun _ => ?_)
            refine AW_rg (tyOf_good _) [6, 7, 8, 11, 52, 109] [6, 30] (fun _ _ => trivial) fun K' hK' => ?_
            repeat (refine sxf_next fun K2 hK2 => ?_; simp [dNum, dB, rowB]; (repeat (refine ⟨by omega, ?_⟩)); refine hK2 _ ?_; clear hK2 K2)
            refine sxf_nil (hK' _ ?_)
            refine AW.st (by simp [dNum, dB, rowB]; rfl) ?_
            clear hK' K'
            refine AW_cond false rfl (fun h => by cases h) (fun _ => ?_)
            refine AW_rg (tyOf_good _) [6, 7, 8, 11, 52, 127] [6, 30] (fun _ _ => trivial) fun K' hK' => ?_
            repeat (refine sxf_next fun K2 hK2 => ?_; simp [dNum, dB, rowB]; (repeat (refine ⟨by omega, ?_⟩)); refine hK2 _ ?_; clear hK2 K2)
            refine sxf_nil (hK' _ ?_)
            refine AW.st (by simp [dNum, dB, rowB]; rfl) ?_
            clear hK' K'
            refine AW_cond false rfl (fun h => by cases h) (fun _ => ?_)
            refine AW_rg (tyOf_good _) [6, 7, 8, 11, 52, 152] [6, 30] (fun _ _ => trivial) fun K' hK' => ?_
            repeat (refine sxf_next fun K2 hK2 => ?_; simp [dNum, dB, rowB]; (repeat (refine ⟨by omega, ?_⟩)); refine hK2 _ ?_; clear hK2 K2)
            refine sxf_nil (hK' _ ?_)
            refine AW.st (by simp [dNum, dB, rowB]; rfl) ?_
            clear hK' K'
            refine AW_cond false rfl (fun h => by cases h) (fun _ => ?_)
            refine AW_rg (tyOf_good _) [6, 7, 8, 11, 52, 177] [6, 30] (fun _ _ => trivial) fun K' hK' => ?_
            repeat (refine sxf_next fun K2 hK2 => ?_; simp [dNum, dB, rowB]; (repeat (refine ⟨by omega, ?_⟩)); refine hK2 _ ?_; clear hK2 K2)
            refine sxf_nil (hK' _ ?_)
            refine AW.st (by simp [dNum, dB, rowB]; rfl) ?_
            clear hK' K'
            refine AW_cond false rfl (fun h => by cases h) (fun _ => ?_)
            refine AW_rg (tyOf_good _) [6, 8, 11, 52, 196] [6, 30] (fun _ _ => trivial) fun K' hK' => ?_
            repeat (refine sxf_next fun K2 hK2 => ?_; simp [dNum, dB, rowB]; (repeat (refine ⟨by omega, ?_⟩)); refine hK2 _ ?_; clear hK2 K2)
            refine sxf_nil (hK' _ ?_)
            refine AW.st (by simp [dNum, dB, rowB]; rfl) ?_
            clear hK' K'
            refine AW_cond false rfl (fun h => by cases h) (fun _ => ?_)
            refine AW_rg (tyOf_good _) [6, 8, 11, 52, 201] [6, 30] (fun _ _ => trivial) fun K' hK' => ?_
            repeat (refine sxf_next fun K2 hK2 => ?_; simp [dNum, dB, rowB]; (repeat (refine ⟨by omega, ?_⟩)); refine hK2 _ ?_; clear hK2 K2)
            refine sxf_nil (hK' _ ?_)
            refine AW.st (by simp [dNum, dB, rowB]; rfl) ?_
            clear hK' K'
            refine AW_cond false rfl (fun h => by cases h) (fun _ => ?_)
            refine AW_rg (tyOf_good _) [6, 8, 11, 52, 206] [6, 30] (fun _ _ => trivial) fun K' hK' => ?_
            repeat (refine sxf_next fun K2 hK2 => ?_; simp [dNum, dB, rowB]; (repeat (refine ⟨by omega, ?_⟩)); refine hK2 _ ?_; clear hK2 K2)
            refine sxf_nil (hK' _ ?_)
            refine AW.st (by simp [dNum, dB, rowB]; rfl) ?_
            clear hK' K'
            refine AW_cond true rfl (fun _ => ?_) (fun h => by cases h)
            refine AW_re (tyOf_good _) fun K' hK' => ?_
            repeat (refine sxf_next fun K2 hK2 => ?_; simp [dNum, dB, rowB, rowB, List.map_const', dOf, dBs]; (repeat (refine ⟨by omega, ?_⟩)); refine hK2 _ ?_; clear hK2 K2)
            refine sxf_next fun K2 hK2 => ?_
            simp [dNum, dB, rowB, rowB, List.map_const', dOf, dBs]
            refine callK.mc (hfx) (by simp [dNum, dB, rowB, rowB, List.map_const', dOf, dBs]) (by simp [dNum, dB, rowB, rowB, List.map_const', dOf, dBs]) (by simp [dNum, dB, rowB, rowB, List.map_const', dOf, dBs]) (by simp [dNum, dB, rowB, rowB, List.map_const', dOf, dBs]) ?_
            simp [dNum, dB, rowB, rowB, List.map_const', dOf, dBs]
            refine hK2 _ ?_
            clear hK2 K2
            repeat (refine sxf_next fun K2 hK2 => ?_; simp [dNum, dB, rowB, rowB, List.map_const', dOf, dBs]; (repeat (refine ⟨by omega, ?_⟩)); refine hK2 _ ?_; clear hK2 K2)
            refine sxf_nil (hK' _ ?_)
            clear hK' K'
            refine hK4 _ (AW.norm [6] [6, 30] (fun _ _ => trivial) (AW.st (by simp [dNum, dB, rowB, rowB, List.map_const', dOf, dBs]; rfl) ?_))
            refine AW_rg (tyOf_good _) [4] [30] (fun _ _ => trivial) fun K' hK' => ?_
            repeat (refine sxf_next fun K2 hK2 => ?_; simp [dNum, dB, rowB]; (repeat (refine ⟨by omega, ?_⟩)); refine hK2 _ ?_; clear hK2 K2)
            refine sxf_nil (hK' _ ?_)
            refine AW.st (by simp [dNum, dB, rowB]; rfl) ?_
            clear hK' K'
            refine AW_ret ?_
            simp [D.le, D.le.go, takeMap, dNum, dB, rowB, dBs, List.map_map, Function.comp_def, hofe, take_range_map]
          · have hol : of.length = 1 := by rw [hof1]; simp [arityF, arityL] at hlen; omega
            obtain ⟨o0, rfl⟩ := List.length_eq_one_iff.1 hol
            have ho0 := hof2 o0 (by simp)
            have hnx : ∀ i, i < n → nxF a.length n i < n := fun i hi => nxF_lt (by omega) hi
            have hmo : MonoN (fun i b => (([o0].getD 0 []).getD i false && b)) := fun i h => by revert h; dsimp only; cases ([o0].getD 0 []).getD i false <;> simp
            have hnow : ∀ i b, i < n → PureC Tryd.prog G 106 (dNum i :: dB b :: [.ip [dOf [o0]]]) (dB ((fun i b => (([o0].getD 0 []).getD i false && b)) i b)) := fun i b hi => by
              have := always_spec G o0 i b (by omega)
              simpa [show i < o0.length by omega] using this
            have hfx := fix_spec G (fun i b => (([o0].getD 0 []).getD i false && b)) (nxF a.length n) true n (by omega) hmo hnx _ _ _ _ hnow (fun i hi => next_spec G a r n i (by omega) (by omega)) (fun _ => false)
            have hvf : valF a r 10 s [o0] = iterN (fun i b => (([o0].getD 0 []).getD i false && b)) (nxF a.length n) true n := by subst hn; rfl
            rw [← hvf] at hfx
            refine AW_rg (tyOf_good _) [1, 2, 6, 7, 8, 11, 52, 53] [6, 30] (fun _ _ => trivial) fun K' hK' => ?_
            repeat (refine sxf_next fun K2 hK2 => ?_; simp [dNum, dB, rowB]; (repeat (refine ⟨by omega, ?_⟩)); refine hK2 _ ?_; clear hK2 K2)
            refine sxf_nil (hK' _ ?_)
            refine AW.st (by simp [dNum, dB, rowB]; rfl) ?_
            clear hK' K'
            refine AW_cond false rfl (fun h => by cases h) (fun _ => ?_)
            refine AW_rg (tyOf_good _) [6, 7, 8, 11, 52, 98] [6, 30] (fun _ _ => trivial) fun K' hK' => ?_
            repeat (refine sxf_next fun K2 hK2 => ?_; simp [dNum, dB, rowB]; (repeat (refine ⟨by omega, ?_⟩)); refine hK2 _ ?_; clear hK2 K2)
            refine sxf_nil (hK' _ ?_)
            refine AW.st (by simp [dNum, dB, rowB]; rfl) ?_
            clear hK' K'
            refine AW_cond false rfl (fun h => by cases h) (fun _ => ?_)
            refine AW_rg (tyOf_good _) [6, 7, 8, 11, 52, 109] [6, 30] (fun _ _ => trivial) fun K' hK' => ?_
            repeat (refine sxf_next fun K2 hK2 => ?_; simp [dNum, dB, rowB]; (repeat (refine ⟨by omega, ?_⟩)); refine hK2 _ ?_; clear hK2 K2)
            refine sxf_nil (hK' _ ?_)
            refine AW.st (by simp [dNum, dB, rowB]; rfl) ?_
            clear hK' K'
            refine AW_cond false rfl (fun h => by cases h) (fun _ => ?_)
            refine AW_rg (tyOf_good _) [6, 7, 8, 11, 52, 127] [6, 30] (fun _ _ => trivial) fun K' hK' => ?_
            repeat (refine sxf_next fun K2 hK2 => ?_; simp [dNum, dB, rowB]; (repeat (refine ⟨by omega, ?_⟩)); refine hK2 _ ?_; clear hK2 K2)
            refine sxf_nil (hK' _ ?_)
            refine AW.st (by simp [dNum, dB, rowB]; rfl) ?_
            clear hK' K'
            refine AW_cond false rfl (fun h => by cases h) (fun _ => ?_)
            refine AW_rg (tyOf_good _) [6, 7, 8, 11, 52, 152] [6, 30] (fun _ _ => trivial) fun K' hK' => ?_
            repeat (refine sxf_next fun K2 hK2 => ?_; simp [dNum, dB, rowB]; (repeat (refine ⟨by omega, ?_⟩)); refine hK2 _ ?_; clear hK2 K2)
            refine sxf_nil (hK' _ ?_)
            refine AW.st (by simp [dNum, dB, rowB]; rfl) ?_
            clear hK' K'
            refine AW_cond false rfl (fun h => by cases h) (fun _ => ?_)
            refine AW_rg (tyOf_good _) [6, 7, 8, 11, 52, 177] [6, 30] (fun _ _ => trivial) fun K' hK' => ?_
            repeat (refine sxf_next fun K2 hK2 => ?_; simp [dNum, dB, rowB]; (repeat (refine ⟨by omega, ?_⟩)); refine hK2 _ ?_; clear hK2 K2)
            refine sxf_nil (hK' _ ?_)
            refine AW.st (by simp [dNum, dB, rowB]; rfl) ?_
            clear hK' K'
            refine AW_cond false rfl (fun h => by cases h) (fun _ => ?_)
            refine AW_rg (tyOf_good _) [6, 8, 11, 52, 196] [6, 30] (fun _ _ => trivial) fun K' hK' => ?_
            repeat (refine sxf_next fun K2 hK2 => ?_; simp [dNum, dB, rowB]; (repeat (refine ⟨by omega, ?_⟩)); refine hK2 _ ?_; clear hK2 K2)
            refine sxf_nil (hK' _ ?_)
            refine AW.st (by simp [dNum, dB, rowB]; rfl) ?_
            clear hK' K'
            refine AW_cond false rfl (fun h => by cases h) (fun _ => ?_)
            refine AW_rg (tyOf_good _) [6, 8, 11, 52, 201] [6, 30] (fun _ _ => trivial) fun K' hK' => ?_
            repeat (refine sxf_next fun K2 hK2 => ?_; simp [dNum, dB, rowB]; (repeat (refine ⟨by omega, ?_⟩)); refine hK2 _ ?_; clear hK2 K2)
            refine sxf_nil (hK' _ ?_)
            refine AW.st (by simp [dNum, dB, rowB]; rfl) ?_
            clear hK' K'
            refine AW_cond false rfl (fun h => by cases h) (fun _ => ?_)
            refine AW_rg (tyOf_good _) [6, 8, 11, 52, 206] [6, 30] (fun _ _ => trivial) fun K' hK' => ?_
            repeat (refine sxf_next fun K2 hK2 => ?_; simp [dNum, dB, rowB]; (repeat (refine ⟨by omega, ?_⟩)); refine hK2 _ ?_; clear hK2 K2)
            refine sxf_nil (hK' _ ?_)
            refine AW.st (by simp [dNum, dB, rowB]; rfl) ?_
            clear hK' K'
            refine AW_cond false rfl (fun h => by cases h) (fun _ => ?_)
            refine AW_rg (tyOf_good _) [6, 8, 11, 211] [6, 30] (fun _ _ => trivial) fun K' hK' => ?_
            repeat (refine sxf_next fun K2 hK2 => ?_; simp [dNum, dB, rowB]; (repeat (refine ⟨by omega, ?_⟩)); refine hK2 _ ?_; clear hK2 K2)
            refine sxf_nil (hK' _ ?_)
            refine AW.st (by simp [dNum, dB, rowB]; rfl) ?_
            clear hK' K'
            refine AW_cond true rfl (fun _ => ?_) (fun h => by cases h)
            refine AW_re (tyOf_good _) fun K' hK' => ?_
            repeat (refine sxf_next fun K2 hK2 => ?_; simp [dNum, dB, rowB, rowB, List.map_const', dOf, dBs]; (repeat (refine ⟨by omega, ?_⟩)); refine hK2 _ ?_; clear hK2 K2)
            refine sxf_next fun K2 hK2 => ?_
            simp [dNum, dB, rowB, rowB, List.map_const', dOf, dBs]
            refine callK.mc (hfx) (by simp [dNum, dB, rowB, rowB, List.map_const', dOf, dBs]) (by simp [dNum, dB, rowB, rowB, List.map_const', dOf, dBs]) (by simp [dNum, dB, rowB, rowB, List.map_const', dOf, dBs]) (by simp [dNum, dB, rowB, rowB, List.map_const', dOf, dBs]) ?_
            simp [dNum, dB, rowB, rowB, List.map_const', dOf, dBs]
            refine hK2 _ ?_
            clear hK2 K2
            repeat (refine sxf_next fun K2 hK2 => ?_; simp [dNum, dB, rowB, rowB, List.map_const', dOf, dBs]; (repeat (refine ⟨by omega, ?_⟩)); refine hK2 _ ?_; clear hK2 K2)
            refine sxf_nil (hK' _ ?_)
            clear hK' K'
            refine hK4 _ (AW.norm [6] [6, 30] (fun _ _ => trivial) (AW.st (by simp [dNum, dB, rowB, rowB, List.map_const', dOf, dBs]; rfl) ?_))
            refine AW_rg (tyOf_good _) [4] [30] (fun _ _ => trivial) fun K' hK' => ?_
            repeat (refine sxf_next fun K2 hK2 => ?_; simp [dNum, dB, rowB]; (repeat (refine ⟨by omega, ?_⟩)); refine hK2 _ ?_; clear hK2 K2)
            refine sxf_nil (hK' _ ?_)
            refine AW.st (by simp [dNum, dB, rowB]; rfl) ?_
            clear hK' K'
            refine AW_ret ?_
            simp [D.le, D.le.go, takeMap, dNum, dB, rowB, dBs, List.map_map, Function.comp_def, hofe, take_range_map]
#print axioms holds_spec
end Go.Proofs.YtoikggboakojlaaDoor

/-
  Words of which one is laid upon another: what holds.
-/
namespace Go.Proofs.YtoikggboakojlaaDoor
set_option linter.unusedSimpArgs false
set_option linter.unusedVariables false

def atB (l : List Bool) (i : Nat) : Bool := l.getD i false
theorem iterN_sim {now now' : Nat → Bool → Bool} {nx nx' : Nat → Nat} {st : Bool} {n' : Nat} {φ : Nat → Nat} (hx : ∀ i, i < n' → nx' i < n') (h1 : ∀ i, i < n' → φ (nx' i) = nx (φ i)) (h2 : ∀ i b, i < n' → now' i b = now (φ i) b) :
    ∀ k i, i < n' → iterN now' nx' st k i = iterN now nx st k (φ i)
  | 0, i, _ => rfl
  | k + 1, i, hi => by
    simp only [iterN]
    rw [h2 i _ hi, iterN_sim hx h1 h2 k _ (hx i hi), h1 i hi]
theorem iterN_sim' {now now' : Nat → Bool → Bool} (hm : MonoN now) (hm' : MonoN now') {nx nx' : Nat → Nat} {st : Bool} {n n' : Nat} {φ : Nat → Nat} (hx : ∀ i, i < n → nx i < n) (hx' : ∀ i, i < n' → nx' i < n') (h0 : ∀ i, i < n' → φ i < n)
    (h1 : ∀ i, i < n' → φ (nx' i) = nx (φ i)) (h2 : ∀ i b, i < n' → now' i b = now (φ i) b) {i : Nat} (hi : i < n') : iterN now' nx' st n' i = iterN now nx st n (φ i) := by
  rw [← iterN_all hm' hx' (Nat.le_max_left n' n) hi, ← iterN_all hm hx (Nat.le_max_right n' n) (h0 i hi)]
  exact iterN_sim hx' h1 h2 _ _ hi

/-- The second word lies upon the first. -/
structure Upon (a r a' r' : Times) (φ : Nat → Nat) : Prop where
  r0 : 0 < r.length
  r0' : 0 < r'.length
  lt : ∀ i, i < a'.length + r'.length → φ i < a.length + r.length
  next : ∀ i, i < a'.length + r'.length → φ (nxF a'.length (a'.length + r'.length) i) = nxF a.length (a.length + r.length) (φ i)
  time : ∀ i, i < a'.length + r'.length → (a' ++ r').getD i [] = (a ++ r).getD (φ i) []

theorem atB_map {n i : Nat} (f : Nat → Bool) (h : i < n) : atB ((List.range n).map f) i = f i := by simp [atB, List.getD_eq_getElem?_getD, h]
theorem holdsL_at (a r : Times) (l : List Fm) (j : Nat) : (holdsL a r l).getD j [] = if h : j < l.length then holdsF a r l[j] else [] := by
  rw [holdsL_map]
  by_cases h : j < l.length
  · simp [List.getD_eq_getElem?_getD, h]
  · simp [List.getD_eq_getElem?_getD, h]
theorem mono_or (o1 : Nat → Bool) (o0 : Nat → Bool) : MonoN fun i b => o1 i || (o0 i && b) := fun i h => by revert h; dsimp only; cases o1 i <;> cases o0 i <;> simp
theorem mono_and (o1 : Nat → Bool) (o0 : Nat → Bool) : MonoN fun i b => o1 i && (o0 i || b) := fun i h => by revert h; dsimp only; cases o1 i <;> cases o0 i <;> simp
theorem mono_or1 (o0 : Nat → Bool) : MonoN fun i b => o0 i || b := fun i h => by revert h; dsimp only; cases o0 i <;> simp
theorem mono_and1 (o0 : Nat → Bool) : MonoN fun i b => o0 i && b := fun i h => by revert h; dsimp only; cases o0 i <;> simp

/-- What holds there, holds where it lies upon. -/
theorem holds_upon {a r a' r' : Times} {φ : Nat → Nat} (u : Upon a r a' r' φ) : ∀ f : Fm, ∀ i, i < a'.length + r'.length → atB (holdsF a' r' f) i = atB (holdsF a r f) (φ i)
  | .nil, i, _ => by simp [holdsF, atB]
  | .mk k s l, i, hi => by
    have hφ := u.lt i hi
    rw [holdsF, holdsF, atB_map _ hi, atB_map _ hφ]
    have ho : ∀ j i, i < a'.length + r'.length → ((holdsL a' r' l).getD j []).getD i false = ((holdsL a r l).getD j []).getD (φ i) false := fun j i hi => by
      rw [holdsL_at, holdsL_at]
      by_cases h : j < l.length
      · rw [dif_pos h, dif_pos h]
        exact holds_upon u l[j] i hi
      · rw [dif_neg h, dif_neg h]; rfl
    have hx : ∀ i, i < a.length + r.length → nxF a.length (a.length + r.length) i < a.length + r.length := fun i hi => nxF_lt (by have := u.r0; omega) hi
    have hx' : ∀ i, i < a'.length + r'.length → nxF a'.length (a'.length + r'.length) i < a'.length + r'.length := fun i hi => nxF_lt (by have := u.r0'; omega) hi
    unfold valF
    dsimp only
    by_cases h1 : k = 1
    · rw [if_pos h1, if_pos h1]
      rw [u.time i hi]
    rw [if_neg h1, if_neg h1]
    by_cases h2 : k = 2
    · rw [if_pos h2, if_pos h2]
    rw [if_neg h2, if_neg h2]
    by_cases h3 : k = 3
    · rw [if_pos h3, if_pos h3]
      rw [ho 0 i hi]
    rw [if_neg h3, if_neg h3]
    by_cases h4 : k = 4
    · rw [if_pos h4, if_pos h4]
      rw [ho 0 i hi, ho 1 i hi]
    rw [if_neg h4, if_neg h4]
    by_cases h5 : k = 5
    · rw [if_pos h5, if_pos h5]
      rw [ho 0 i hi, ho 1 i hi]
    rw [if_neg h5, if_neg h5]
    by_cases h6 : k = 6
    · rw [if_pos h6, if_pos h6]
      rw [ho 0 _ (hx' i hi), u.next i hi]
    rw [if_neg h6, if_neg h6]
    by_cases h7 : k = 7
    · rw [if_pos h7, if_pos h7]
      exact iterN_sim' (mono_or _ _) (mono_or _ _) hx hx' u.lt u.next (fun i b hi => by rw [ho 0 i hi, ho 1 i hi]) hi
    rw [if_neg h7, if_neg h7]
    by_cases h8 : k = 8
    · rw [if_pos h8, if_pos h8]
      exact iterN_sim' (mono_and _ _) (mono_and _ _) hx hx' u.lt u.next (fun i b hi => by rw [ho 0 i hi, ho 1 i hi]) hi
    rw [if_neg h8, if_neg h8]
    by_cases h9 : k = 9
    · rw [if_pos h9, if_pos h9]
      exact iterN_sim' (mono_or1 _) (mono_or1 _) hx hx' u.lt u.next (fun i b hi => by rw [ho 0 i hi]) hi
    rw [if_neg h9, if_neg h9]
    exact iterN_sim' (mono_and1 _) (mono_and1 _) hx hx' u.lt u.next (fun i b hi => by rw [ho 0 i hi]) hi
termination_by f => SizeOf.sizeOf f
decreasing_by
  have := List.sizeOf_lt_of_mem (List.getElem_mem h)
  simp only [Fm.mk.sizeOf_spec]
  omega

/-- A round, turned: its first time ahead, and at its end. -/
theorem upon_turn (a : Times) (x : List (List UInt8)) (r : Times) : Upon a (x :: r) (a ++ [x]) (r ++ [x]) fun i => if i < a.length + (r.length + 1) then i else a.length where
  r0 := by simp
  r0' := by simp
  lt i hi := by simp at hi ⊢; split <;> omega
  next i hi := by
    simp only [List.length_append, List.length_cons, List.length_nil] at hi ⊢
    unfold nxF
    repeat' split
    all_goals omega
  time i hi := by
    simp only [List.length_append, List.length_cons, List.length_nil] at hi
    split
    · rename_i h
      have : a ++ [x] ++ (r ++ [x]) = (a ++ x :: r) ++ [x] := by simp
      rw [this, List.getD_eq_getElem?_getD, List.getD_eq_getElem?_getD, List.getElem?_append_left (by simp; omega)]
    · have hi2 : i = a.length + (r.length + 1) := by omega
      subst hi2
      have : a ++ [x] ++ (r ++ [x]) = (a ++ x :: r) ++ [x] := by simp
      rw [this, List.getD_eq_getElem?_getD, List.getD_eq_getElem?_getD, List.getElem?_append_right (by simp)]
      simp
/-- A round, gone twice. -/
theorem upon_twice (a r : Times) (h : 0 < r.length) : Upon a r a (r ++ r) fun i => if i < a.length + r.length then i else i - r.length where
  r0 := h
  r0' := by simp; omega
  lt i hi := by simp at hi ⊢; split <;> omega
  next i hi := by
    simp only [List.length_append] at hi ⊢
    unfold nxF
    repeat' split
    all_goals omega
  time i hi := by
    simp only [List.length_append] at hi
    split
    · rename_i h
      rw [← List.append_assoc, List.getD_eq_getElem?_getD, List.getD_eq_getElem?_getD, List.getElem?_append_left (by simp; omega)]
    · rename_i h
      rw [← List.append_assoc, List.getD_eq_getElem?_getD, List.getD_eq_getElem?_getD, List.getElem?_append_right (by simp; omega), List.getElem?_append_right (by omega)]
      congr 2
      simp
      omega
end Go.Proofs.YtoikggboakojlaaDoor

/-
  Words that may be: lasso.Check; lasso.Holds.
-/
namespace Go.Proofs.YtoikggboakojlaaDoor
set_option linter.unusedSimpArgs false
set_option linter.unusedVariables false
open Go.Av

def okTimes (X : Times) : Bool := X.all fun t => t.all nameF
/-- What is wrong with a word. -/
def wordE (a r : Times) : Int := if r.length < 1 ∨ 60 < a.length + r.length then 4 else if okTimes a && okTimes r then 0 else 5
/-- No more than a program may reach. -/
structure Small (a r : Times) : Prop where
  len : a.length + r.length < 2^60
  times : ∀ t ∈ a ++ r, t.length < 2^60
  names : ∀ t ∈ a ++ r, ∀ s ∈ t, s.length < 2^60

theorem okTimes_bad {X : Times} {i m : Nat} (hi : i < X.length) (hm : m < X[i].length) (h : nameF X[i][m] = false) : okTimes X = false := by
  cases hk : okTimes X with
  | false => rfl
  | true =>
    unfold okTimes at hk
    have h1 := List.all_eq_true.1 (List.all_eq_true.1 hk _ (List.getElem_mem hi)) _ (List.getElem_mem hm)
    rw [h] at h1
    cases h1

set_option maxHeartbeats 8000000 in
theorem wcheck_spec (G : Glob) (a r : Times) (hs : Small a r) : PureC Tryd.prog G 46 [dW a r] (dErr (errOf (wordE a r))) := by
  have hsl := hs.len
  have hst := hs.times
  have hsn := hs.names
  by_cases h1 : (r.length : Int) < 1
  · have hw : wordE a r = 4 := by unfold wordE; rw [if_pos (.inl (by omega))]
    rw [hw]
    refine PureC.of_body (tyOf_good _) Tryd.func46 rfl rfl (rs := [.tmp 2]) Tryd.results46 (by simp [Tryd.ntmps46]) fun X => ?_
    simp only [Tryd.ntmps46, List.map]
    refine AW_rg (tyOf_good _) [1] [1] (fun _ _ => trivial) fun K' hK' => ?_
    repeat (refine sxf_next fun K2 hK2 => ?_; simp [dNum, dW]; (repeat (refine ⟨by omega, ?_⟩)); refine hK2 _ ?_; clear hK2 K2)
    refine sxf_nil (hK' _ ?_)
    refine AW.st (by simp [dNum, dW]; rfl) ?_
    clear hK' K'
    refine AW_then fun K1 hK1 => ?_
    refine AW_rg (tyOf_good _) [1, 22] [1] (fun _ _ => trivial) fun K' hK' => ?_
    repeat (refine sxf_next fun K2 hK2 => ?_; simp [dNum, dTimes, h1]; (repeat (refine ⟨by omega, ?_⟩)); refine hK2 _ ?_; clear hK2 K2)
    refine sxf_nil (hK' _ ?_)
    refine AW.st (by simp [dNum, dTimes, h1]; rfl) ?_
    clear hK' K'
    refine AW_cond true rfl (fun _ => ?_) (fun h => by cases h)
    refine AW_rg (tyOf_good _) [2] [] (fun _ _ => trivial) fun K' hK' => ?_
    repeat (refine sxf_next fun K2 hK2 => ?_; simp [dNum]; (repeat (refine ⟨by omega, ?_⟩)); refine hK2 _ ?_; clear hK2 K2)
    refine sxf_nil (hK' _ ?_)
    refine AW.st (by simp [dNum]; rfl) ?_
    clear hK' K'
    refine AW_ret ?_
    simp [D.le, D.le.go, takeMap, dNum, dErr, errOf]
  by_cases h2 : (60 : Int) < (a.length : Int) + r.length
  · have hw : wordE a r = 4 := by unfold wordE; rw [if_pos (.inr (by omega))]
    rw [hw]
    refine PureC.of_body (tyOf_good _) Tryd.func46 rfl rfl (rs := [.tmp 2]) Tryd.results46 (by simp [Tryd.ntmps46]) fun X => ?_
    simp only [Tryd.ntmps46, List.map]
    refine AW_rg (tyOf_good _) [1] [1] (fun _ _ => trivial) fun K' hK' => ?_
    repeat (refine sxf_next fun K2 hK2 => ?_; simp [dNum, dW]; (repeat (refine ⟨by omega, ?_⟩)); refine hK2 _ ?_; clear hK2 K2)
    refine sxf_nil (hK' _ ?_)
    refine AW.st (by simp [dNum, dW]; rfl) ?_
    clear hK' K'
    refine AW_then fun K1 hK1 => ?_
    refine AW_rg (tyOf_good _) [1, 22] [1] (fun _ _ => trivial) fun K' hK' => ?_
    repeat (refine sxf_next fun K2 hK2 => ?_; simp [dNum, dTimes, h1, h2]; (repeat (refine ⟨by omega, ?_⟩)); refine hK2 _ ?_; clear hK2 K2)
    refine sxf_nil (hK' _ ?_)
    refine AW.st (by simp [dNum, dTimes, h1, h2]; rfl) ?_
    clear hK' K'
    refine AW_cond true rfl (fun _ => ?_) (fun h => by cases h)
    refine AW_rg (tyOf_good _) [2] [] (fun _ _ => trivial) fun K' hK' => ?_
    repeat (refine sxf_next fun K2 hK2 => ?_; simp [dNum]; (repeat (refine ⟨by omega, ?_⟩)); refine hK2 _ ?_; clear hK2 K2)
    refine sxf_nil (hK' _ ?_)
    refine AW.st (by simp [dNum]; rfl) ?_
    clear hK' K'
    refine AW_ret ?_
    simp [D.le, D.le.go, takeMap, dNum, dErr, errOf]
  have hw : wordE a r = if okTimes a && okTimes r then 0 else 5 := by unfold wordE; rw [if_neg (by omega)]
  have hP : ∀ p (h : p < [a, r].length), ∀ t ∈ [a, r][p], t ∈ a ++ r := fun p h t ht => by
    match p, h with
    | 0, _ => exact List.mem_append_left _ ht
    | 1, _ => exact List.mem_append_right _ ht
  have hPl : ∀ p (h : p < [a, r].length), [a, r][p].length < 2^60 := fun p h => by
    match p, h with
    | 0, _ => show a.length < _; omega
    | 1, _ => show r.length < _; omega
  have hbad : ∀ p (h : p < [a, r].length), okTimes [a, r][p] = false → wordE a r = 5 := fun p h hb => by
    rw [hw]
    match p, h with
    | 0, _ => rw [show okTimes a = false from hb]; rfl
    | 1, _ => rw [show okTimes r = false from hb, Bool.and_false]; rfl
  have hgood : (∀ p (h : p < [a, r].length), okTimes [a, r][p] = true) → wordE a r = 0 := fun h => by
    rw [hw, show okTimes a = true from h 0 (by simp), show okTimes r = true from h 1 (by simp)]; rfl
  refine PureC.of_body (tyOf_good _) Tryd.func46 rfl rfl (rs := [.tmp 2]) Tryd.results46 (by simp [Tryd.ntmps46]) fun X => ?_
  simp only [Tryd.ntmps46, List.map]
  refine AW_rg (tyOf_good _) [1] [1] (fun _ _ => trivial) fun K' hK' => ?_
  repeat (refine sxf_next fun K2 hK2 => ?_; simp [dNum, dW]; (repeat (refine ⟨by omega, ?_⟩)); refine hK2 _ ?_; clear hK2 K2)
  refine sxf_nil (hK' _ ?_)
  refine AW.st (by simp [dNum, dW]; rfl) ?_
  clear hK' K'
  refine AW_then fun K1 hK1 => ?_
  refine AW_rg (tyOf_good _) [1, 22] [1] (fun _ _ => trivial) fun K' hK' => ?_
  repeat (refine sxf_next fun K2 hK2 => ?_; simp [dNum, dTimes, h1, h2]; (repeat (refine ⟨by omega, ?_⟩)); refine hK2 _ ?_; clear hK2 K2)
  refine sxf_nil (hK' _ ?_)
  refine AW.st (by simp [dNum, dTimes, h1, h2]; rfl) ?_
  clear hK' K'
  refine AW_cond false rfl (fun h => by cases h) (fun _ => ?_)
  refine AW_skip (hK1 _ ?_)
  refine AW_then fun K2 hK2 => ?_
  refine AW_rg (tyOf_good _) [28, 29, 30] [28] (fun _ _ => trivial) fun K' hK' => ?_
  repeat (refine sxf_next fun K2 hK2 => ?_; simp [dNum, dTimes]; (repeat (refine ⟨by omega, ?_⟩)); refine hK2 _ ?_; clear hK2 K2)
  refine sxf_nil (hK' _ ?_)
  refine AW.st (by simp [dNum, dTimes]; rfl) ?_
  clear hK' K'
  refine AW.imp (Imp.freeze 28 trivial) ?_
  refine AW.st (by simp [dNum]; rfl) ?_
  refine AW.st (show _ = (⟨lst [(28, .d (.sl none ([a, r].map fun X => [dTimes X]))), (29, int ([a, r].length : Nat)), (30, int (0 : Nat))], hlst []⟩ : St) by simp [dTimes]) ?_
  have hPn : [a, r].length ≤ 2 := by simp
  generalize [a, r] = Ps at hP hPl hbad hgood hPn
  refine AW_for (S := Nat) (fun p => p ≤ Ps.length ∧ ∀ q (h : q < Ps.length), q < p → okTimes Ps[q] = true) (fun p => ⟨lst [(28, .d (.sl none (Ps.map fun X => [dTimes X]))), (29, int Ps.length), (30, int p)], hlst []⟩) (fun p => Ps.length - p) 0 ?_ ⟨Nat.zero_le _, fun q h hq => by omega⟩ ?_
  · refine Imp.to' (fun _ _ => trivial) (by simp [dNum, dTimes]) (by simp [dNum, dTimes])
  · rintro p ⟨hp, hpo⟩
    refine AW_rg (tyOf_good _) [28, 29, 30, 31] [] (fun _ _ => trivial) fun K' hK' => ?_
    repeat (refine sxf_next fun K2 hK2 => ?_; simp [dNum]; (repeat (refine ⟨by omega, ?_⟩)); refine hK2 _ ?_; clear hK2 K2)
    refine sxf_nil (hK' _ ?_)
    refine AW.st (by simp [dNum]; rfl) ?_
    clear hK' K'
    refine AW_then fun K3 hK3 => ?_
    refine AW_cond' (b := p < Ps.length) (by simp [D.le, D.le.go, takeMap, dNum]) (fun hc => ?_) (fun hc => ?_)
    · have hpl : p < Ps.length := hc
      have hX := hP p hpl
      have hXl := hPl p hpl
      have hXb := hbad p hpl
      refine AW_skip (hK3 _ ?_)
      refine AW_then fun K4 hK4 => ?_
      refine AW_block ?_
      refine AW_rg (tyOf_good _) [4, 28, 29, 30] [] (fun _ _ => trivial) fun K' hK' => ?_
      repeat (refine sxf_next fun K2 hK2 => ?_; simp [dNum, dTimes, hpl]; (repeat (refine ⟨by omega, ?_⟩)); refine hK2 _ ?_; clear hK2 K2)
      refine sxf_nil (hK' _ ?_)
      refine AW.st (by simp [dNum, dTimes, hpl]; rfl) ?_
      clear hK' K'
      refine AW_rg (tyOf_good _) [28, 29, 30, 34, 35, 36] [] (fun _ _ => trivial) fun K' hK' => ?_
      repeat (refine sxf_next fun K2 hK2 => ?_; simp [dNum]; (repeat (refine ⟨by omega, ?_⟩)); refine hK2 _ ?_; clear hK2 K2)
      refine sxf_nil (hK' _ ?_)
      refine AW.st (by simp [dNum]; rfl) ?_
      clear hK' K'
      generalize hXe : Ps[p] = X at hX hXl hXb
      refine AW_for (S := Nat) (fun i => i ≤ X.length ∧ ∀ q (h : q < X.length), q < i → X[q].all nameF = true) (fun i => ⟨lst [(28, .d (.sl none (Ps.map fun X => [dTimes X]))), (29, int Ps.length), (30, int p), (34, .d (dTimes X)), (35, int X.length), (36, int i)], hlst []⟩) (fun i => X.length - i) 0 ?_ ⟨Nat.zero_le _, fun q h hq => by omega⟩ ?_
      · refine Imp.to' (fun _ _ => trivial) (by simp [dNum, dTimes]) (by simp [dNum, dTimes])
      · rintro i ⟨hi, hio⟩
        refine AW_rg (tyOf_good _) [28, 29, 30, 34, 35, 36, 37] [] (fun _ _ => trivial) fun K' hK' => ?_
        repeat (refine sxf_next fun K2 hK2 => ?_; simp [dNum, dTimes]; (repeat (refine ⟨by omega, ?_⟩)); refine hK2 _ ?_; clear hK2 K2)
        refine sxf_nil (hK' _ ?_)
        refine AW.st (by simp [dNum, dTimes]; rfl) ?_
        clear hK' K'
        refine AW_then fun K5 hK5 => ?_
        refine AW_cond' (b := i < X.length) (by simp [D.le, D.le.go, takeMap, dNum]) (fun hc => ?_) (fun hc => ?_)
        · have hil : i < X.length := hc
          have ht1 := hst _ (hX _ (List.getElem_mem hil))
          have ht2 := hsn _ (hX _ (List.getElem_mem hil))
          have ht3 : ∀ m (hm : m < X[i].length), nameF X[i][m] = false → wordE a r = 5 := fun m hm h => hXb (okTimes_bad hil hm h)
          refine AW_skip (hK5 _ ?_)
          refine AW_then fun K6 hK6 => ?_
          refine AW_block ?_
          refine AW_rg (tyOf_good _) [6, 28, 29, 30, 34, 35, 36] [] (fun _ _ => trivial) fun K' hK' => ?_
          repeat (refine sxf_next fun K2 hK2 => ?_; simp [dNum, dTimes, dNames, hil]; (repeat (refine ⟨by omega, ?_⟩)); refine hK2 _ ?_; clear hK2 K2)
          refine sxf_nil (hK' _ ?_)
          refine AW.st (by simp [dNum, dTimes, dNames, hil]; rfl) ?_
          clear hK' K'
          refine AW_rg (tyOf_good _) [28, 29, 30, 34, 35, 36, 40, 41, 42] [] (fun _ _ => trivial) fun K' hK' => ?_
          repeat (refine sxf_next fun K2 hK2 => ?_; simp [dNum]; (repeat (refine ⟨by omega, ?_⟩)); refine hK2 _ ?_; clear hK2 K2)
          refine sxf_nil (hK' _ ?_)
          refine AW.st (by simp [dNum]; rfl) ?_
          clear hK' K'
          generalize hte : X[i] = t at ht1 ht2 ht3
          refine AW_for (S := Nat) (fun m => m ≤ t.length ∧ ∀ q (h : q < t.length), q < m → nameF t[q] = true) (fun m => ⟨lst [(28, .d (.sl none (Ps.map fun X => [dTimes X]))), (29, int Ps.length), (30, int p), (34, .d (dTimes X)), (35, int X.length), (36, int i), (40, .d (dNames t)), (41, int t.length), (42, int m)], hlst []⟩) (fun m => t.length - m) 0 ?_ ⟨Nat.zero_le _, fun q h hq => by omega⟩ ?_
          · refine Imp.to' (fun _ _ => trivial) (by simp [dNum, dTimes, dNames]) (by simp [dNum, dTimes, dNames])
          · rintro m ⟨hm, hmo⟩
            refine AW_rg (tyOf_good _) [28, 29, 30, 34, 35, 36, 40, 41, 42, 43] [] (fun _ _ => trivial) fun K' hK' => ?_
            repeat (refine sxf_next fun K2 hK2 => ?_; simp [dNum, dNames]; (repeat (refine ⟨by omega, ?_⟩)); refine hK2 _ ?_; clear hK2 K2)
            refine sxf_nil (hK' _ ?_)
            refine AW.st (by simp [dNum, dNames]; rfl) ?_
            clear hK' K'
            refine AW_then fun K7 hK7 => ?_
            refine AW_cond' (b := m < t.length) (by simp [D.le, D.le.go, takeMap, dNum]) (fun hc => ?_) (fun hc => ?_)
            · have hml : m < t.length := hc
              have hname := name_spec G t[m] (ht2 _ (List.getElem_mem hml))
              have hnb := ht3 m hml
              refine AW_skip (hK7 _ ?_)
              refine AW_then fun K8 hK8 => ?_
              refine AW_block ?_
              refine AW_rg (tyOf_good _) [8, 28, 29, 30, 34, 35, 36, 40, 41, 42] [] (fun _ _ => trivial) fun K' hK' => ?_
              repeat (refine sxf_next fun K2 hK2 => ?_; simp [dNum, dNames, hml, dS]; (repeat (refine ⟨by omega, ?_⟩)); refine hK2 _ ?_; clear hK2 K2)
              refine sxf_nil (hK' _ ?_)
              refine AW.st (by simp [dNum, dNames, hml, dS]; rfl) ?_
              clear hK' K'
              cases hn : nameF t[m] with
              | false =>
                rw [hn] at hname
                refine AW_rg (tyOf_good _) [28, 29, 30, 34, 35, 36, 40, 41, 42, 48] [] (fun _ _ => trivial) fun K' hK' => ?_
                repeat (refine sxf_next fun K2 hK2 => ?_; simp [dNum, dS]; (repeat (refine ⟨by omega, ?_⟩)); refine hK2 _ ?_; clear hK2 K2)
                refine sxf_next fun K2 hK2 => ?_
                simp [dNum, dS]
                refine callK.data (hname) (by simp; rfl) (by first | exact D.leGo_refl _ | simp [takeMap, List.map_map, Function.comp_def, D.le, D.le.go, D.le_refl, D.leGo_refl, dNum, dS]) ?_
                refine hK2 _ ?_
                clear hK2 K2
                simp only [putd, upd_lst]
                repeat (refine sxf_next fun K2 hK2 => ?_; simp [dNum, dS]; (repeat (refine ⟨by omega, ?_⟩)); refine hK2 _ ?_; clear hK2 K2)
                refine sxf_nil (hK' _ ?_)
                refine AW.st (by simp [dNum, dS]; rfl) ?_
                clear hK' K'
                refine AW_cond true rfl (fun _ => ?_) (fun h => by cases h)
                refine AW_rg (tyOf_good _) [2] [] (fun _ _ => trivial) fun K' hK' => ?_
                repeat (refine sxf_next fun K2 hK2 => ?_; simp [dNum]; (repeat (refine ⟨by omega, ?_⟩)); refine hK2 _ ?_; clear hK2 K2)
                refine sxf_nil (hK' _ ?_)
                refine AW.st (by simp [dNum]; rfl) ?_
                clear hK' K'
                rw [hnb hn]
                refine AW_ret ?_
                simp [D.le, D.le.go, takeMap, dNum, dErr, errOf]
              | true =>
                rw [hn] at hname
                refine AW_rg (tyOf_good _) [28, 29, 30, 34, 35, 36, 40, 41, 42, 48] [] (fun _ _ => trivial) fun K' hK' => ?_
                repeat (refine sxf_next fun K2 hK2 => ?_; simp [dNum, dS]; (repeat (refine ⟨by omega, ?_⟩)); refine hK2 _ ?_; clear hK2 K2)
                refine sxf_next fun K2 hK2 => ?_
                simp [dNum, dS]
                refine callK.data (hname) (by simp; rfl) (by first | exact D.leGo_refl _ | simp [takeMap, List.map_map, Function.comp_def, D.le, D.le.go, D.le_refl, D.leGo_refl, dNum, dS]) ?_
                refine hK2 _ ?_
                clear hK2 K2
                simp only [putd, upd_lst]
                repeat (refine sxf_next fun K2 hK2 => ?_; simp [dNum, dS]; (repeat (refine ⟨by omega, ?_⟩)); refine hK2 _ ?_; clear hK2 K2)
                refine sxf_nil (hK' _ ?_)
                refine AW.st (by simp [dNum, dS]; rfl) ?_
                clear hK' K'
                refine AW_cond false rfl (fun h => by cases h) (fun _ => ?_)
                refine AW_skip ?_
                refine hK8 _ (AW.norm [28, 29, 30, 34, 35, 36, 40, 41, 42] [] (fun _ _ => trivial) (AW.st (by simp [dNum]; rfl) ?_))
                refine AW_re (tyOf_good _) fun K' hK' => ?_
                repeat (refine sxf_next fun K2 hK2 => ?_; simp [dNum]; (repeat (refine ⟨by omega, ?_⟩)); refine hK2 _ ?_; clear hK2 K2)
                refine sxf_nil (hK' _ ?_)
                clear hK' K'
                try simp only [thn, inb]
                refine Again.mk (m + 1) ⟨by omega, fun q h hq => ?_⟩ (by omega) ?_
                · by_cases e : q = m
                  · subst e; exact hn
                  · exact hmo q h (by omega)
                refine Imp.to' (fun _ _ => trivial) (by simp [dNum, dTimes, dNames, dS]) (by simp [dNum, dTimes, dNames, dS])
            · obtain rfl : m = t.length := by omega
              refine AW_exit (hK6 _ ?_)
              refine AW_re (tyOf_good _) fun K' hK' => ?_
              repeat (refine sxf_next fun K2 hK2 => ?_; simp [dNum]; (repeat (refine ⟨by omega, ?_⟩)); refine hK2 _ ?_; clear hK2 K2)
              refine sxf_nil (hK' _ ?_)
              clear hK' K'
              try simp only [thn, inb]
              refine Again.mk (i + 1) ⟨by omega, fun q h hq => ?_⟩ (by omega) ?_
              · by_cases e : q = i
                · subst e
                  rw [hte]
                  refine List.all_eq_true.2 fun x hx => ?_
                  obtain ⟨j, hj, rfl⟩ := List.getElem_of_mem hx
                  exact hmo j hj hj
                · exact hio q h (by omega)
              refine Imp.to' (fun _ _ => trivial) (by simp [dNum, dTimes, dNames]) (by simp [dNum, dTimes, dNames])
        · obtain rfl : i = X.length := by omega
          refine AW_exit (hK4 _ ?_)
          refine AW_re (tyOf_good _) fun K' hK' => ?_
          repeat (refine sxf_next fun K2 hK2 => ?_; simp [dNum]; (repeat (refine ⟨by omega, ?_⟩)); refine hK2 _ ?_; clear hK2 K2)
          refine sxf_nil (hK' _ ?_)
          clear hK' K'
          try simp only [thn, inb]
          refine Again.mk (p + 1) ⟨by omega, fun q h hq => ?_⟩ (by omega) ?_
          · by_cases e : q = p
            · subst e
              rw [hXe]
              refine List.all_eq_true.2 fun x hx => ?_
              obtain ⟨j, hj, rfl⟩ := List.getElem_of_mem hx
              exact hio j hj hj
            · exact hpo q h (by omega)
          refine Imp.to' (fun _ _ => trivial) (by simp [dNum, dTimes, dNames]) (by simp [dNum, dTimes, dNames])
    · obtain rfl : p = Ps.length := by omega
      refine AW_exit (hK2 _ ?_)
      refine AW_rg (tyOf_good _) [2] [] (fun _ _ => trivial) fun K' hK' => ?_
      repeat (refine sxf_next fun K2 hK2 => ?_; simp [dNum]; (repeat (refine ⟨by omega, ?_⟩)); refine hK2 _ ?_; clear hK2 K2)
      refine sxf_nil (hK' _ ?_)
      refine AW.st (by simp [dNum]; rfl) ?_
      clear hK' K'
      rw [hgood fun q h => hpo q h h]
      refine AW_ret ?_
      simp [D.le, D.le.go, takeMap, dNum, dErr, errOf]

/-- What Holds tells. -/
def holdsE (a r : Times) (f : Fm) : Int := if wordE a r ≠ 0 then wordE a r else rightE f
theorem rightE_ok {f : Fm} (h : rightE f = 0) : (rightF 20 f).2 = 0 := by
  unfold rightE at h
  split at h
  · rename_i h1; exact absurd h h1
  · rename_i h1; exact Classical.not_not.1 h1
theorem Holds_bad (G : Glob) (hA : HasArity G) (a r : Times) (hs : Small a r) (f : Fm) (hf : namesOk f) (h : holdsE a r f ≠ 0) : PureC Tryd.prog G 40 [dW a r, dF f] (.tup [.sl (some false) [], dErr (errOf (holdsE a r f))]) := by
  have hc := wcheck_spec G a r hs
  have hr := Right_spec G hA f hf
  unfold holdsE at h ⊢
  by_cases hw : wordE a r = 0
  · rw [if_neg (by simp [hw])] at h ⊢
    rw [hw] at hc
    have e1 : errOf (rightE f) = some (rightE f, none) := by unfold errOf; rw [if_neg h]
    have e0 : errOf 0 = none := rfl
    rw [e1] at hr ⊢
    rw [e0] at hc
    refine PureC.of_body (tyOf_good _) Tryd.func40 rfl rfl (rs := [.tmp 4, .tmp 5]) Tryd.results40 (by simp [Tryd.ntmps40]) fun X => ?_
    simp only [Tryd.ntmps40, List.map]
    refine AW_rg (tyOf_good _) [1, 2] [2] (fun _ _ => trivial) fun K' hK' => ?_
    repeat (refine sxf_next fun K2 hK2 => ?_; simp [dNum, dErr, dW]; (repeat (refine ⟨by omega, ?_⟩)); refine hK2 _ ?_; clear hK2 K2)
    refine sxf_nil (hK' _ ?_)
    refine AW.st (by simp [dNum, dErr, dW]; rfl) ?_
    clear hK' K'
    refine AW_then fun K1 hK1 => ?_
    refine AW_rg (tyOf_good _) [1, 2, 6] [2] (fun _ _ => trivial) fun K' hK' => ?_
    repeat (refine sxf_next fun K2 hK2 => ?_; simp [dNum, dErr, dW]; (repeat (refine ⟨by omega, ?_⟩)); refine hK2 _ ?_; clear hK2 K2)
    refine sxf_next fun K2 hK2 => ?_
    simp [dNum, dErr, dW]
    refine callK.data (hc) (by simp; rfl) (by first | exact D.leGo_refl _ | simp [takeMap, List.map_map, Function.comp_def, D.le, D.le.go, D.le_refl, D.leGo_refl, dNum, dErr, dW]) ?_
    refine hK2 _ ?_
    clear hK2 K2
    simp only [putd, upd_lst]
    repeat (refine sxf_next fun K2 hK2 => ?_; simp [dNum, dErr, dW]; (repeat (refine ⟨by omega, ?_⟩)); refine hK2 _ ?_; clear hK2 K2)
    refine sxf_nil (hK' _ ?_)
    refine AW.st (by simp [dNum, dErr, dW]; rfl) ?_
    clear hK' K'
    refine AW_rg (tyOf_good _) [1, 2, 6, 11] [2] (fun _ _ => trivial) fun K' hK' => ?_
    repeat (refine sxf_next fun K2 hK2 => ?_; simp [dNum, dErr]; (repeat (refine ⟨by omega, ?_⟩)); refine hK2 _ ?_; clear hK2 K2)
    refine sxf_nil (hK' _ ?_)
    refine AW.st (by simp [dNum, dErr]; rfl) ?_
    clear hK' K'
    refine AW_cond false rfl (fun h => by cases h) (fun _ => ?_)
    refine AW_skip (hK1 _ ?_)
    refine AW_then fun K2 hK2 => ?_
    refine AW_rg (tyOf_good _) [1, 2, 7] [2] (fun _ _ => trivial) fun K' hK' => ?_
    repeat (refine sxf_next fun K2 hK2 => ?_; simp [dNum, dErr, dW]; (repeat (refine ⟨by omega, ?_⟩)); refine hK2 _ ?_; clear hK2 K2)
    refine sxf_next fun K2 hK2 => ?_
    simp [dNum, dErr, dW]
    refine callK.data (hr) (by simp; rfl) (by first | exact D.leGo_refl _ | simp [takeMap, List.map_map, Function.comp_def, D.le, D.le.go, D.le_refl, D.leGo_refl, dNum, dErr, dW]) ?_
    refine hK2 _ ?_
    clear hK2 K2
    simp only [putd, upd_lst]
    repeat (refine sxf_next fun K2 hK2 => ?_; simp [dNum, dErr, dW]; (repeat (refine ⟨by omega, ?_⟩)); refine hK2 _ ?_; clear hK2 K2)
    refine sxf_nil (hK' _ ?_)
    refine AW.st (by simp [dNum, dErr, dW]; rfl) ?_
    clear hK' K'
    refine AW_rg (tyOf_good _) [1, 2, 7, 16] [2] (fun _ _ => trivial) fun K' hK' => ?_
    repeat (refine sxf_next fun K2 hK2 => ?_; simp [dNum, dErr]; (repeat (refine ⟨by omega, ?_⟩)); refine hK2 _ ?_; clear hK2 K2)
    refine sxf_nil (hK' _ ?_)
    refine AW.st (by simp [dNum, dErr]; rfl) ?_
    clear hK' K'
    refine AW_cond true rfl (fun _ => ?_) (fun h => by cases h)
    refine AW_rg (tyOf_good _) [4, 5] [] (fun _ _ => trivial) fun K' hK' => ?_
    repeat (refine sxf_next fun K2 hK2 => ?_; simp [dNum, dErr]; (repeat (refine ⟨by omega, ?_⟩)); refine hK2 _ ?_; clear hK2 K2)
    refine sxf_nil (hK' _ ?_)
    refine AW.st (by simp [dNum, dErr]; rfl) ?_
    clear hK' K'
    refine AW_ret ?_
    simp [D.le, D.le.go, takeMap, dNum, dErr]
  · rw [if_pos hw] at h ⊢
    have e1 : errOf (wordE a r) = some (wordE a r, none) := by unfold errOf; rw [if_neg hw]
    rw [e1] at hc ⊢
    refine PureC.of_body (tyOf_good _) Tryd.func40 rfl rfl (rs := [.tmp 4, .tmp 5]) Tryd.results40 (by simp [Tryd.ntmps40]) fun X => ?_
    simp only [Tryd.ntmps40, List.map]
    refine AW_rg (tyOf_good _) [1, 2] [2] (fun _ _ => trivial) fun K' hK' => ?_
    repeat (refine sxf_next fun K2 hK2 => ?_; simp [dNum, dErr, dW]; (repeat (refine ⟨by omega, ?_⟩)); refine hK2 _ ?_; clear hK2 K2)
    refine sxf_nil (hK' _ ?_)
    refine AW.st (by simp [dNum, dErr, dW]; rfl) ?_
    clear hK' K'
    refine AW_then fun K1 hK1 => ?_
    refine AW_rg (tyOf_good _) [1, 2, 6] [2] (fun _ _ => trivial) fun K' hK' => ?_
    repeat (refine sxf_next fun K2 hK2 => ?_; simp [dNum, dErr, dW]; (repeat (refine ⟨by omega, ?_⟩)); refine hK2 _ ?_; clear hK2 K2)
    refine sxf_next fun K2 hK2 => ?_
    simp [dNum, dErr, dW]
    refine callK.data (hc) (by simp; rfl) (by first | exact D.leGo_refl _ | simp [takeMap, List.map_map, Function.comp_def, D.le, D.le.go, D.le_refl, D.leGo_refl, dNum, dErr, dW]) ?_
    refine hK2 _ ?_
    clear hK2 K2
    simp only [putd, upd_lst]
    repeat (refine sxf_next fun K2 hK2 => ?_; simp [dNum, dErr, dW]; (repeat (refine ⟨by omega, ?_⟩)); refine hK2 _ ?_; clear hK2 K2)
    refine sxf_nil (hK' _ ?_)
    refine AW.st (by simp [dNum, dErr, dW]; rfl) ?_
    clear hK' K'
    refine AW_rg (tyOf_good _) [1, 2, 6, 11] [2] (fun _ _ => trivial) fun K' hK' => ?_
    repeat (refine sxf_next fun K2 hK2 => ?_; simp [dNum, dErr]; (repeat (refine ⟨by omega, ?_⟩)); refine hK2 _ ?_; clear hK2 K2)
    refine sxf_nil (hK' _ ?_)
    refine AW.st (by simp [dNum, dErr]; rfl) ?_
    clear hK' K'
    refine AW_cond true rfl (fun _ => ?_) (fun h => by cases h)
    refine AW_rg (tyOf_good _) [4, 5] [] (fun _ _ => trivial) fun K' hK' => ?_
    repeat (refine sxf_next fun K2 hK2 => ?_; simp [dNum, dErr]; (repeat (refine ⟨by omega, ?_⟩)); refine hK2 _ ?_; clear hK2 K2)
    refine sxf_nil (hK' _ ?_)
    refine AW.st (by simp [dNum, dErr]; rfl) ?_
    clear hK' K'
    refine AW_ret ?_
    simp [D.le, D.le.go, takeMap, dNum, dErr]
theorem Holds_good (G : Glob) (hA : HasArity G) (a r : Times) (hs : Small a r) (f : Fm) (hf : namesOk f) (h : holdsE a r f = 0) : PureC Tryd.prog G 40 [dW a r, dF f] (.tup [dBs (holdsF a r f), .v .nilIface]) := by
  have hc := wcheck_spec G a r hs
  have hr := Right_spec G hA f hf
  unfold holdsE at h
  have hw : wordE a r = 0 := by
    apply Classical.byContradiction
    intro hw
    rw [if_pos hw] at h
    exact hw h
  rw [if_neg (by simp [hw])] at h
  rw [hw] at hc
  rw [h] at hr
  have hlen : 0 < r.length ∧ a.length + r.length ≤ 60 := by
    unfold wordE at hw
    split at hw
    · cases hw
    · omega
  have hh := holds_spec G a r hlen.1 (by omega) (fun t ht => by have := hs.times t ht; omega) 20 f (rightE_ok h) hf
  have e0 : errOf 0 = none := rfl
  rw [e0] at hc hr
  refine PureC.of_body (tyOf_good _) Tryd.func40 rfl rfl (rs := [.tmp 4, .tmp 5]) Tryd.results40 (by simp [Tryd.ntmps40]) fun X => ?_
  simp only [Tryd.ntmps40, List.map]
  refine AW_rg (tyOf_good _) [1, 2] [2] (fun _ _ => trivial) fun K' hK' => ?_
  repeat (refine sxf_next fun K2 hK2 => ?_; simp [dNum, dErr, dW]; (repeat (refine ⟨by omega, ?_⟩)); refine hK2 _ ?_; clear hK2 K2)
  refine sxf_nil (hK' _ ?_)
  refine AW.st (by simp [dNum, dErr, dW]; rfl) ?_
  clear hK' K'
  refine AW_then fun K1 hK1 => ?_
  refine AW_rg (tyOf_good _) [1, 2, 6] [2] (fun _ _ => trivial) fun K' hK' => ?_
  repeat (refine sxf_next fun K2 hK2 => ?_; simp [dNum, dErr, dW]; (repeat (refine ⟨by omega, ?_⟩)); refine hK2 _ ?_; clear hK2 K2)
  refine sxf_next fun K2 hK2 => ?_
  simp [dNum, dErr, dW]
  refine callK.data (hc) (by simp; rfl) (by first | exact D.leGo_refl _ | simp [takeMap, List.map_map, Function.comp_def, D.le, D.le.go, D.le_refl, D.leGo_refl, dNum, dErr, dW]) ?_
  refine hK2 _ ?_
  clear hK2 K2
  simp only [putd, upd_lst]
  repeat (refine sxf_next fun K2 hK2 => ?_; simp [dNum, dErr, dW]; (repeat (refine ⟨by omega, ?_⟩)); refine hK2 _ ?_; clear hK2 K2)
  refine sxf_nil (hK' _ ?_)
  refine AW.st (by simp [dNum, dErr, dW]; rfl) ?_
  clear hK' K'
  refine AW_rg (tyOf_good _) [1, 2, 6, 11] [2] (fun _ _ => trivial) fun K' hK' => ?_
  repeat (refine sxf_next fun K2 hK2 => ?_; simp [dNum, dErr]; (repeat (refine ⟨by omega, ?_⟩)); refine hK2 _ ?_; clear hK2 K2)
  refine sxf_nil (hK' _ ?_)
  refine AW.st (by simp [dNum, dErr]; rfl) ?_
  clear hK' K'
  refine AW_cond false rfl (fun h => by cases h) (fun _ => ?_)
  refine AW_skip (hK1 _ ?_)
  refine AW_then fun K2 hK2 => ?_
  refine AW_rg (tyOf_good _) [1, 2, 7] [2] (fun _ _ => trivial) fun K' hK' => ?_
  repeat (refine sxf_next fun K2 hK2 => ?_; simp [dNum, dErr, dW]; (repeat (refine ⟨by omega, ?_⟩)); refine hK2 _ ?_; clear hK2 K2)
  refine sxf_next fun K2 hK2 => ?_
  simp [dNum, dErr, dW]
  refine callK.data (hr) (by simp; rfl) (by first | exact D.leGo_refl _ | simp [takeMap, List.map_map, Function.comp_def, D.le, D.le.go, D.le_refl, D.leGo_refl, dNum, dErr, dW]) ?_
  refine hK2 _ ?_
  clear hK2 K2
  simp only [putd, upd_lst]
  repeat (refine sxf_next fun K2 hK2 => ?_; simp [dNum, dErr, dW]; (repeat (refine ⟨by omega, ?_⟩)); refine hK2 _ ?_; clear hK2 K2)
  refine sxf_nil (hK' _ ?_)
  refine AW.st (by simp [dNum, dErr, dW]; rfl) ?_
  clear hK' K'
  refine AW_rg (tyOf_good _) [1, 2, 7, 16] [2] (fun _ _ => trivial) fun K' hK' => ?_
  repeat (refine sxf_next fun K2 hK2 => ?_; simp [dNum, dErr]; (repeat (refine ⟨by omega, ?_⟩)); refine hK2 _ ?_; clear hK2 K2)
  refine sxf_nil (hK' _ ?_)
  refine AW.st (by simp [dNum, dErr]; rfl) ?_
  clear hK' K'
  refine AW_cond false rfl (fun h => by cases h) (fun _ => ?_)
  refine AW_skip (hK2 _ ?_)
  refine AW_rg (tyOf_good _) [4, 5] [] (fun _ _ => trivial) fun K' hK' => ?_
  repeat (refine sxf_next fun K2 hK2 => ?_; simp [dNum, dErr, dW]; (repeat (refine ⟨by omega, ?_⟩)); refine hK2 _ ?_; clear hK2 K2)
  refine sxf_next fun K2 hK2 => ?_
  simp [dNum, dErr, dW]
  refine callK.data (hh) (by simp; rfl) (by first | exact D.leGo_refl _ | simp [takeMap, List.map_map, Function.comp_def, D.le, D.le.go, D.le_refl, D.leGo_refl, dNum, dErr, dW]) ?_
  refine hK2 _ ?_
  clear hK2 K2
  simp only [putd, upd_lst]
  repeat (refine sxf_next fun K2 hK2 => ?_; simp [dNum, dErr, dW]; (repeat (refine ⟨by omega, ?_⟩)); refine hK2 _ ?_; clear hK2 K2)
  refine sxf_nil (hK' _ ?_)
  refine AW.st (by simp [dNum, dErr, dW]; rfl) ?_
  clear hK' K'
  refine AW_ret ?_
  simp [D.le, D.le.go, takeMap, dNum, dErr, dBs]
#print axioms Holds_good
#print axioms wcheck_spec
end Go.Proofs.YtoikggboakojlaaDoor

/-
  Plain facts of what holds now, and at the next time.
-/
namespace Go.Proofs.YtoikggboakojlaaDoor
set_option linter.unusedSimpArgs false
set_option linter.unusedVariables false

theorem right_up : ∀ (d : Nat) (f : Fm), (rightF d f).2 = 0 → rightF (d + 1) f = rightF d f
  | d, .nil, h => by cases d <;> simp [rightF] at h
  | 0, .mk k s l, h => by simp [rightF] at h
  | d + 1, .mk k s l, h => by
    have key : ∀ (l : List Fm) (n : Int), (rightL d l n).2 = 0 → rightL (d + 1) l n = rightL d l n := by
      intro l
      induction l with
      | nil => intro n _; simp [rightL]
      | cons f l ih =>
        intro n h
        rw [rightL] at h
        by_cases hf : (rightF d f).2 = 0
        · rw [if_neg (by simp [hf])] at h
          have h1 := right_up d f hf
          rw [rightL, rightL, h1, if_neg (by simp [hf]), if_neg (by simp [hf])]
          exact ih _ h
        · rw [if_pos hf] at h
          exact absurd h hf
    rw [rightF] at h
    by_cases hb : badF k s l.length = 0
    · rw [if_neg (by simp [hb])] at h
      rw [rightF, rightF, if_neg (by simp [hb]), if_neg (by simp [hb])]
      exact key l 1 h
    · rw [if_pos hb] at h
      exact absurd h hb
theorem right_mono {d : Nat} {f : Fm} (h : (rightF d f).2 = 0) : ∀ e, rightF (d + e) f = rightF d f
  | 0 => rfl
  | e + 1 => by
    have ih := right_mono h e
    rw [← Nat.add_assoc, right_up _ _ (by rw [ih]; exact h), ih]

theorem right_two {d : Nat} {k : Int} {f g : Fm} {n m : Int} (hb : badF k [] 2 = 0) (hf : rightF d f = (n, 0)) (hg : rightF d g = (m, 0)) : rightF (d + 1) (.mk k [] [f, g]) = (1 + n + m, 0) := by
  rw [rightF, if_neg (by simp [hb]), rightL, hf, if_neg (by simp), rightL, hg, if_neg (by simp), rightL]
theorem right_one {d : Nat} {k : Int} {f : Fm} {n : Int} (hb : badF k [] 1 = 0) (hf : rightF d f = (n, 0)) : rightF (d + 1) (.mk k [] [f]) = (1 + n, 0) := by
  rw [rightF, if_neg (by simp [hb]), rightL, hf, if_neg (by simp), rightL]
theorem right_two_inv {d : Nat} {k : Int} {f g : Fm} (h : (rightF (d + 1) (.mk k [] [f, g])).2 = 0) : (rightF d f).2 = 0 ∧ (rightF d g).2 = 0 := by
  rw [rightF] at h
  by_cases hb : badF k [] [f, g].length = 0
  · rw [if_neg (fun h' => h' hb)] at h
    exact ⟨right_at h f (by simp), right_at h g (by simp)⟩
  · rw [if_pos hb] at h
    exact absurd h hb
theorem right_one_inv {d : Nat} {k : Int} {f : Fm} (h : (rightF (d + 1) (.mk k [] [f])).2 = 0) : (rightF d f).2 = 0 := by
  rw [rightF] at h
  by_cases hb : badF k [] [f].length = 0
  · rw [if_neg (fun h' => h' hb)] at h
    exact right_at h f (by simp)
  · rw [if_pos hb] at h
    exact absurd h hb
theorem rightE_of {f : Fm} {n : Int} (h : rightF 20 f = (n, 0)) (hn : n ≤ 100) : rightE f = 0 := by
  unfold rightE
  rw [h]
  simp only [ne_eq, not_true_eq_false, if_false]
  rw [if_neg (by omega)]

section
variable (f g : Fm)
def uF : Fm := .mk 7 [] [f, g]
def rF : Fm := .mk 8 [] [f, g]
def eF : Fm := .mk 9 [] [f]
def alF : Fm := .mk 10 [] [f]
def nxt : Fm := .mk 6 [] [f]
def notF : Fm := .mk 3 [] [f]
def bigF : Fm := .mk 5 [] [g, .mk 4 [] [f, nxt (uF f g)]]
def relF : Fm := .mk 4 [] [g, .mk 5 [] [f, nxt (rF f g)]]
def evF : Fm := .mk 5 [] [f, nxt (eF f)]
def awF : Fm := .mk 4 [] [f, nxt (alF f)]
def neF : Fm := notF (eF (notF f))
end

/-- Where the greatest may be, all may be. -/
theorem grows_right {f g : Fm} (h : rightE (bigF f g) = 0) : rightE (uF f g) = 0 ∧ rightE (rF f g) = 0 ∧ rightE (relF f g) = 0 ∧ rightE (eF f) = 0 ∧ rightE (evF f) = 0 ∧ rightE (alF f) = 0 ∧ rightE (awF f) = 0 ∧ rightE (neF f) = 0 := by
  have h0 := rightE_ok h
  have h1 : (rightF 16 f).2 = 0 ∧ (rightF 16 g).2 = 0 := right_two_inv (right_one_inv (right_two_inv (right_two_inv h0).2).2)
  have hf := fun e => right_mono h1.1 e
  have hg := fun e => right_mono h1.2 e
  have hfp := right_bound 16 (by decide) f
  have hgp := right_bound 16 (by decide) g
  obtain ⟨n, hn⟩ : ∃ n, rightF 16 f = (n, 0) := ⟨(rightF 16 f).1, by rw [← h1.1]⟩
  obtain ⟨m, hm⟩ : ∃ m, rightF 16 g = (m, 0) := ⟨(rightF 16 g).1, by rw [← h1.2]⟩
  rw [hn] at hf hfp
  rw [hm] at hg hgp
  have hb : rightF 20 (bigF f g) = (1 + m + (1 + n + (1 + (1 + n + m))), 0) := right_two rfl (hg 3) (right_two rfl (hf 2) (right_one rfl (right_two rfl (hf 0) (hg 0))))
  have hlen : 4 + 2 * n + 2 * m ≤ 100 := by
    unfold rightE at h
    rw [hb] at h
    simp only [ne_eq, not_true_eq_false, if_false] at h
    split at h
    · cases h
    · omega
  dsimp only at hfp hgp
  refine ⟨rightE_of (right_two rfl (hf 3) (hg 3)) ?_, rightE_of (right_two rfl (hf 3) (hg 3)) ?_, rightE_of (right_two rfl (hg 3) (right_two rfl (hf 2) (right_one rfl (right_two rfl (hf 0) (hg 0))))) ?_,
    rightE_of (right_one rfl (hf 3)) ?_, rightE_of (right_two rfl (hf 3) (right_one rfl (right_one rfl (hf 1)))) ?_, rightE_of (right_one rfl (hf 3)) ?_, rightE_of (right_two rfl (hf 3) (right_one rfl (right_one rfl (hf 1)))) ?_, rightE_of (right_one rfl (right_one rfl (right_one rfl (hf 1)))) ?_⟩ <;> omega

section
variable (a r : Times) (hr : 0 < r.length) (f g : Fm)
theorem holds_get (k : Int) (s : List UInt8) (l : List Fm) {i : Nat} (hi : i < a.length + r.length) : (holdsF a r (.mk k s l)).getD i false = valF a r k s (holdsL a r l) i := by
  rw [holdsF]
  simp [List.getD_eq_getElem?_getD, hi]
theorem holds_same {k k' : Int} {l l' : List Fm} (h : ∀ i, i < a.length + r.length → valF a r k [] (holdsL a r l) i = valF a r k' [] (holdsL a r l') i) : holdsF a r (.mk k [] l) = holdsF a r (.mk k' [] l') := by
  rw [holdsF, holdsF]
  refine List.map_congr_left fun i hi => h i (List.mem_range.1 hi)
include hr
theorem nx_ok (i : Nat) (hi : i < a.length + r.length) : nxF a.length (a.length + r.length) i < a.length + r.length := nxF_lt (by omega) hi
theorem grows_until : holdsF a r (uF f g) = holdsF a r (bigF f g) := by
  refine holds_same a r fun i hi => ?_
  have hn := nx_ok a r hr i hi
  have e1 : valF a r 7 [] (holdsL a r [f, g]) i = ((holdsF a r g).getD i false || ((holdsF a r f).getD i false && valF a r 7 [] (holdsL a r [f, g]) (nxF a.length (a.length + r.length) i))) := by
    exact iterN_fix (now := fun i b => ([holdsF a r f, holdsF a r g].getD 1 []).getD i false || (([holdsF a r f, holdsF a r g].getD 0 []).getD i false && b)) (mono_or _ _) (nx_ok a r hr) hi
  have e2 : valF a r 5 [] (holdsL a r [g, .mk 4 [] [f, nxt (uF f g)]]) i = ((holdsF a r g).getD i false || (holdsF a r (.mk 4 [] [f, nxt (uF f g)])).getD i false) := rfl
  have e3 : valF a r 4 [] (holdsL a r [f, nxt (uF f g)]) i = ((holdsF a r f).getD i false && (holdsF a r (nxt (uF f g))).getD i false) := rfl
  have e4 : valF a r 6 [] (holdsL a r [uF f g]) i = (holdsF a r (uF f g)).getD (nxF a.length (a.length + r.length) i) false := rfl
  rw [e1, e2, holds_get a r _ _ _ hi, e3]
  unfold nxt
  rw [holds_get a r _ _ _ hi, e4]
  unfold uF
  rw [holds_get a r _ _ _ hn]
theorem grows_release : holdsF a r (rF f g) = holdsF a r (relF f g) := by
  refine holds_same a r fun i hi => ?_
  have hn := nx_ok a r hr i hi
  have e1 : valF a r 8 [] (holdsL a r [f, g]) i = ((holdsF a r g).getD i false && ((holdsF a r f).getD i false || valF a r 8 [] (holdsL a r [f, g]) (nxF a.length (a.length + r.length) i))) := by
    exact iterN_fix (now := fun i b => ([holdsF a r f, holdsF a r g].getD 1 []).getD i false && (([holdsF a r f, holdsF a r g].getD 0 []).getD i false || b)) (mono_and _ _) (nx_ok a r hr) hi
  have e2 : valF a r 4 [] (holdsL a r [g, .mk 5 [] [f, nxt (rF f g)]]) i = ((holdsF a r g).getD i false && (holdsF a r (.mk 5 [] [f, nxt (rF f g)])).getD i false) := rfl
  have e3 : valF a r 5 [] (holdsL a r [f, nxt (rF f g)]) i = ((holdsF a r f).getD i false || (holdsF a r (nxt (rF f g))).getD i false) := rfl
  have e4 : valF a r 6 [] (holdsL a r [rF f g]) i = (holdsF a r (rF f g)).getD (nxF a.length (a.length + r.length) i) false := rfl
  rw [e1, e2, holds_get a r _ _ _ hi, e3]
  unfold nxt
  rw [holds_get a r _ _ _ hi, e4]
  unfold rF
  rw [holds_get a r _ _ _ hn]
theorem grows_ever : holdsF a r (eF f) = holdsF a r (evF f) := by
  refine holds_same a r fun i hi => ?_
  have hn := nx_ok a r hr i hi
  have e1 : valF a r 9 [] (holdsL a r [f]) i = ((holdsF a r f).getD i false || valF a r 9 [] (holdsL a r [f]) (nxF a.length (a.length + r.length) i)) := by
    exact iterN_fix (now := fun i b => ([holdsF a r f].getD 0 []).getD i false || b) (mono_or1 _) (nx_ok a r hr) hi
  have e2 : valF a r 5 [] (holdsL a r [f, nxt (eF f)]) i = ((holdsF a r f).getD i false || (holdsF a r (nxt (eF f))).getD i false) := rfl
  have e4 : valF a r 6 [] (holdsL a r [eF f]) i = (holdsF a r (eF f)).getD (nxF a.length (a.length + r.length) i) false := rfl
  rw [e1, e2]
  unfold nxt
  rw [holds_get a r _ _ _ hi, e4]
  unfold eF
  rw [holds_get a r _ _ _ hn]
theorem grows_always : holdsF a r (alF f) = holdsF a r (awF f) := by
  refine holds_same a r fun i hi => ?_
  have hn := nx_ok a r hr i hi
  have e1 : valF a r 10 [] (holdsL a r [f]) i = ((holdsF a r f).getD i false && valF a r 10 [] (holdsL a r [f]) (nxF a.length (a.length + r.length) i)) := by
    exact iterN_fix (now := fun i b => ([holdsF a r f].getD 0 []).getD i false && b) (mono_and1 _) (nx_ok a r hr) hi
  have e2 : valF a r 4 [] (holdsL a r [f, nxt (alF f)]) i = ((holdsF a r f).getD i false && (holdsF a r (nxt (alF f))).getD i false) := rfl
  have e4 : valF a r 6 [] (holdsL a r [alF f]) i = (holdsF a r (alF f)).getD (nxF a.length (a.length + r.length) i) false := rfl
  rw [e1, e2]
  unfold nxt
  rw [holds_get a r _ _ _ hi, e4]
  unfold alF
  rw [holds_get a r _ _ _ hn]
theorem grows_never : holdsF a r (alF f) = holdsF a r (neF f) := by
  refine holds_same a r fun i hi => ?_
  have e1 : valF a r 10 [] (holdsL a r [f]) i = iterN (fun i b => (holdsF a r f).getD i false && b) (nxF a.length (a.length + r.length)) true (a.length + r.length) i := rfl
  have e2 : valF a r 3 [] (holdsL a r [eF (notF f)]) i = !(holdsF a r (eF (notF f))).getD i false := rfl
  have e3 : valF a r 9 [] (holdsL a r [notF f]) i = iterN (fun i b => (holdsF a r (notF f)).getD i false || b) (nxF a.length (a.length + r.length)) false (a.length + r.length) i := rfl
  rw [e1, e2]
  unfold eF
  rw [holds_get a r _ _ _ hi, e3]
  have key : ∀ k i, i < a.length + r.length → iterN (fun i b => (holdsF a r f).getD i false && b) (nxF a.length (a.length + r.length)) true k i = !iterN (fun i b => (holdsF a r (notF f)).getD i false || b) (nxF a.length (a.length + r.length)) false k i := by
    intro k
    induction k with
    | zero => intro i _; rfl
    | succ k ih =>
      intro i hi
      simp only [iterN]
      have e4 : valF a r 3 [] (holdsL a r [f]) i = !(holdsF a r f).getD i false := rfl
      rw [ih _ (nx_ok a r hr i hi), Bool.not_or]
      unfold notF
      rw [holds_get a r _ _ _ hi, e4, Bool.not_not]
  exact key _ i hi
end
end Go.Proofs.YtoikggboakojlaaDoor

/-
  Formulas that steps make: how many parts they have, how deep they are, which of them may be.
-/
namespace Go.Proofs.YtoikggboakojlaaDoor
set_option linter.unusedSimpArgs false
set_option linter.unusedVariables false

theorem nameF_len {s : List UInt8} (h : nameF s = true) : s.length ≤ 8 := by
  unfold nameF at h
  simp only [Bool.and_eq_true, decide_eq_true_eq] at h
  exact h.2.1
theorem nameF_ne {s : List UInt8} (h : nameF s = true) : s ≠ [] := by
  unfold nameF at h
  simp only [Bool.and_eq_true, decide_eq_true_eq] at h
  exact h.1

mutual
def szF : Fm → Nat
  | .nil => 0
  | .mk _ _ l => 1 + szL l
def szL : List Fm → Nat
  | [] => 0
  | f :: l => szF f + szL l
end
mutual
def dpF : Fm → Nat
  | .nil => 0
  | .mk _ _ l => 1 + dpL l
def dpL : List Fm → Nat
  | [] => 0
  | f :: l => max (dpF f) (dpL l)
end
mutual
def nmF : Fm → Bool
  | .nil => true
  | .mk k s l => !(k == 1 && !nameF s) && nmL l
def nmL : List Fm → Bool
  | [] => true
  | f :: l => nmF f && nmL l
end
mutual
def WfF : Fm → Prop
  | .nil => False
  | .mk k s l => (1 ≤ k ∧ k ≤ 10 ∧ (l.length : Int) = arityF k ∧ (k ≠ 1 → s = [])) ∧ WfL l
def WfL : List Fm → Prop
  | [] => True
  | f :: l => WfF f ∧ WfL l
end
theorem WfL_mem : ∀ {l : List Fm}, WfL l → ∀ f ∈ l, WfF f
  | [], _, f, hf => by simp at hf
  | g :: l, h, f, hf => by
    simp only [WfL] at h
    rcases List.mem_cons.1 hf with rfl | hf
    · exact h.1
    · exact WfL_mem h.2 f hf
theorem dpL_mem : ∀ {l : List Fm} {f : Fm}, f ∈ l → dpF f ≤ dpL l
  | [], f, hf => by simp at hf
  | g :: l, f, hf => by
    simp only [dpL]
    rcases List.mem_cons.1 hf with rfl | hf
    · omega
    · have := dpL_mem hf; omega
theorem nmL_mem : ∀ {l : List Fm}, nmL l = true → ∀ f ∈ l, nmF f = true
  | [], _, f, hf => by simp at hf
  | g :: l, h, f, hf => by
    simp only [nmL, Bool.and_eq_true] at h
    rcases List.mem_cons.1 hf with rfl | hf
    · exact h.1
    · exact nmL_mem h.2 f hf

/-- Which of them may be, and how many parts are counted. -/
theorem wf_right : ∀ (f : Fm), WfF f → ∀ d, dpF f ≤ d → (nmF f = true → rightF d f = ((szF f : Int), 0)) ∧ (nmF f = false → (rightF d f).2 = 5)
  | .nil, h, _, _ => h.elim
  | .mk k s l, h, 0, hd => by simp only [dpF] at hd; omega
  | .mk k s l, h, d + 1, hd => by
    obtain ⟨⟨h1, h2, h3, h4⟩, hl⟩ := h
    have hdl : dpL l ≤ d := by simp only [dpF] at hd; omega
    have hb : badF k s l.length = if k = 1 ∧ nameF s = false then 5 else 0 := by
      unfold badF
      rw [if_neg (by rintro (h | h | h | ⟨h, h'⟩) <;> first | omega | exact h h3 | exact h' (h4 h))]
    have key : ∀ (l' : List Fm) (n : Int), (∀ f ∈ l', f ∈ l) → (nmL l' = true → rightL d l' n = (n + szL l', 0)) ∧ (nmL l' = false → (rightL d l' n).2 = 5) := by
      intro l'
      induction l' with
      | nil => intro n _; exact ⟨fun _ => by simp [rightL, szL], fun h => by simp [nmL] at h⟩
      | cons f l' ihl =>
        intro n hm
        have hf := hm f (by simp)
        have ih := wf_right f (WfL_mem hl f hf) d (Nat.le_trans (dpL_mem hf) hdl)
        simp only [nmL, szL]
        cases hn : nmF f with
        | false =>
          have := ih.2 hn
          refine ⟨fun h => by simp at h, fun _ => ?_⟩
          rw [rightL, this, if_pos (by decide)]
        | true =>
          have := ih.1 hn
          have il := ihl (n + (szF f : Int)) fun g hg => hm g (by simp [hg])
          rw [rightL, this, if_neg (by simp)]
          refine ⟨fun h => ?_, fun h => il.2 (by simpa using h)⟩
          rw [il.1 (by simpa using h)]
          congr 1
          simp only [Int.natCast_add]
          omega
    have kl := key l 1 fun f hf => hf
    rw [rightF, hb]
    simp only [nmF, szF]
    by_cases hk : k = 1 ∧ nameF s = false
    · obtain ⟨hk1, hk2⟩ := hk
      simp [hk1, hk2]
    · have e : (!(k == 1 && !nameF s)) = true := by
        by_cases e1 : k = 1
        · have : nameF s = true := by
            cases e2 : nameF s with
            | true => rfl
            | false => exact absurd ⟨e1, e2⟩ hk
          simp [this]
        · simp [e1]
      rw [if_neg hk, if_neg (by decide), e, Bool.true_and]
      refine ⟨fun h => ?_, kl.2⟩
      rw [kl.1 h]
      simp only [Int.natCast_add, Int.cast_ofNat_Int]
termination_by f => SizeOf.sizeOf f
decreasing_by
  have := List.sizeOf_lt_of_mem hf
  simp only [Fm.mk.sizeOf_spec]
  omega

theorem wf_names : ∀ (f : Fm), nmF f = true → WfF f → namesOk f
  | .nil, _, h => h.elim
  | .mk k s l, hn, h => by
    simp only [nmF, Bool.and_eq_true] at hn
    have hs : s.length < 2^60 := by
      by_cases hk : k = 1
      · have : nameF s = true := by
          have := hn.1
          rw [hk] at this
          simpa using this
        have := nameF_len this
        omega
      · rw [h.1.2.2.2 hk]; decide
    refine ⟨hs, ?_⟩
    have hl := h.2
    have hm := hn.2
    have key : ∀ l' : List Fm, (∀ f ∈ l', f ∈ l) → namesOkL l' := by
      intro l'
      induction l' with
      | nil => intro _; trivial
      | cons f l' ih =>
        intro hh
        have hf := hh f (by simp)
        exact ⟨wf_names f (nmL_mem hm f hf) (WfL_mem hl f hf), ih fun g hg => hh g (by simp [hg])⟩
    exact key l fun f hf => hf
termination_by f => SizeOf.sizeOf f
decreasing_by
  have := List.sizeOf_lt_of_mem hf
  simp only [Fm.mk.sizeOf_spec]
  omega

/-! ### Those that steps make -/
theorem getD_mem {all : List Fm} {i : Nat} (h : i < all.length) : all.getD i .nil ∈ all := by
  rw [List.getD_eq_getElem?_getD, List.getElem?_eq_getElem h]
  exact List.getElem_mem h
theorem step_wf {all : List Fm} (hp : 0 < all.length) (h : ∀ f ∈ all, WfF f) (x : Stp) : WfF (stepF all x) := by
  have ha := h _ (getD_mem (atF_lt x.a hp))
  have hb := h _ (getD_mem (atF_lt x.b hp))
  unfold stepF
  split
  · exact ⟨⟨by decide, by decide, rfl, fun _ => rfl⟩, trivial⟩
  · split
    · rename_i hk
      refine ⟨⟨by omega, by omega, ?_, fun _ => rfl⟩, ha, trivial⟩
      rcases hk with hk | hk | hk | hk <;> rw [hk] <;> rfl
    · split
      · rename_i hk
        refine ⟨⟨by omega, by omega, ?_, fun _ => rfl⟩, ha, hb, trivial⟩
        rcases hk with hk | hk | hk | hk <;> rw [hk] <;> rfl
      · exact ⟨⟨by decide, by decide, rfl, fun h => absurd rfl h⟩, trivial⟩
theorem step_dp {all : List Fm} (hp : 0 < all.length) {n : Nat} (h : ∀ f ∈ all, dpF f ≤ n) (x : Stp) : dpF (stepF all x) ≤ n + 1 := by
  have ha := h _ (getD_mem (atF_lt x.a hp))
  have hb := h _ (getD_mem (atF_lt x.b hp))
  unfold stepF
  repeat' split
  all_goals simp only [dpF, dpL]; omega
theorem all_wf : ∀ (l : List Stp) (all : List Fm), 0 < all.length → (∀ f ∈ all, WfF f) → ∀ f ∈ allF l all, WfF f
  | [], _, _, h => h
  | x :: l, all, hp, h => all_wf l _ (by simp) fun f hf => by
    rcases List.mem_append.1 hf with hf | hf
    · exact h f hf
    · rw [List.mem_singleton] at hf; subst hf; exact step_wf hp h x
theorem all_dp : ∀ (l : List Stp) (all : List Fm) (n : Nat), 0 < all.length → (∀ f ∈ all, dpF f ≤ n) → ∀ f ∈ allF l all, dpF f ≤ n + l.length
  | [], _, _, _, h => h
  | x :: l, all, n, hp, h => fun f hf => by
    have := all_dp l _ (n + 1) (by simp) (fun g hg => by
      rcases List.mem_append.1 hg with hg | hg
      · have := h g hg; omega
      · rw [List.mem_singleton] at hg; subst hg; exact step_dp hp h x) f hf
    simp only [List.length_cons]
    omega
theorem made_wf (l : List Stp) (i : Nat) : ∀ f ∈ madeF l i, WfF f := all_wf _ _ (by simp) fun f hf => by
  rw [List.mem_singleton] at hf
  subst hf
  exact ⟨⟨by decide, by decide, rfl, fun _ => rfl⟩, trivial⟩
theorem made_dp (l : List Stp) (i : Nat) : ∀ f ∈ madeF l i, dpF f ≤ 1 + i := fun f hf => by
  have := all_dp _ _ 1 (by simp) (fun g hg => by
    rw [List.mem_singleton] at hg
    subst hg
    simp [dpF, dpL]) f hf
  rw [List.length_take] at this
  omega
theorem form_mem (l : List Stp) : formF l ∈ madeF l l.length := getD_mem (by rw [madeF_len l (Nat.le_refl _)]; omega)
theorem form_wf (l : List Stp) : WfF (formF l) := made_wf l _ _ (form_mem l)
/-- What is wrong with a formula that steps make. -/
theorem form_right (l : List Stp) (hd : dpF (formF l) ≤ 20) : rightE (formF l) = if nmF (formF l) = false then 5 else if 100 < szF (formF l) then 4 else 0 := by
  have h := wf_right (formF l) (form_wf l) 20 hd
  unfold rightE
  cases hn : nmF (formF l) with
  | false => rw [if_pos (by rw [h.2 hn]; decide), h.2 hn]; rfl
  | true =>
    rw [h.1 hn]
    simp only [ne_eq, not_true_eq_false, if_false, Bool.true_eq_false]
    by_cases h100 : 100 < szF (formF l)
    · rw [if_pos (by omega), if_pos h100]
    · rw [if_neg (by omega), if_neg h100]

/-- How many parts a step counts: bounds ahead. -/
def preS (all : List Fm) (x : Stp) : Nat :=
  if x.kind = 2 then 1
  else if x.kind = 3 ∨ x.kind = 6 ∨ x.kind = 9 ∨ x.kind = 10 then 1 + min (szF (all.getD (atF x.a all.length) .nil)) 1000000
  else if x.kind = 4 ∨ x.kind = 5 ∨ x.kind = 7 ∨ x.kind = 8 then 1 + min (szF (all.getD (atF x.a all.length) .nil)) 1000000 + min (szF (all.getD (atF x.b all.length) .nil)) 1000000
  else 1
theorem preS_min (all : List Fm) (x : Stp) : min (preS all x) 1000000 = min (szF (stepF all x)) 1000000 := by
  unfold preS stepF
  repeat' split
  all_goals simp only [szF, szL]
  all_goals try omega
theorem preS_le (all : List Fm) (x : Stp) : preS all x ≤ 2000001 := by
  unfold preS
  repeat' split
  all_goals omega
end Go.Proofs.YtoikggboakojlaaDoor
