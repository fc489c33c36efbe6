/-
  Texts that belong together, in one file: B9, B10, R1, R2, R3, Q2.
-/
import Derived.Test.YtoikggboakojlaaDoorLg5
import Derived.SizedLaws
import Derived.Test.YtoikggboakojlaaDoorRows
import Derived.LaidLaws
import Derived.LaidHandle
import Derived.LaidSub
import Derived.Stop.Joined
import Derived.Lay
import Derived.OpenShut
/-
  LassoTurns: a round may be turned, and gone twice.
-/
namespace Go.Proofs.YtoikggboakojlaaDoor
set_option linter.unusedSimpArgs false
set_option linter.unusedVariables false
open Go.Av

theorem namesOkL_of : ∀ {l : List Fm}, (∀ f ∈ l, namesOk f) → namesOkL l
  | [], _ => trivial
  | f :: l, h => ⟨h f (by simp), namesOkL_of fun g hg => h g (by simp [hg])⟩
theorem names_step {all : List Fm} (ha : ∀ f ∈ all, namesOk f) {x : Stp} (hx : x.name.length < 2^60) : namesOk (stepF all x) := by
  have hg : ∀ i, namesOk (all.getD i .nil) := fun i => by
    rw [List.getD_eq_getElem?_getD]
    cases h : all[i]? with
    | none => trivial
    | some f => exact ha f (List.mem_of_getElem? h)
  unfold stepF
  repeat' split
  · exact ⟨by decide, trivial⟩
  · exact ⟨by simp, hg _, trivial⟩
  · exact ⟨by simp, hg _, hg _, trivial⟩
  · exact ⟨hx, trivial⟩
theorem names_all : ∀ (l : List Stp) (all : List Fm), (∀ x ∈ l, x.name.length < 2^60) → (∀ f ∈ all, namesOk f) → ∀ f ∈ allF l all, namesOk f
  | [], all, _, h => h
  | x :: l, all, hl, h => names_all l _ (fun y hy => hl y (by simp [hy])) fun f hf => by
    rcases List.mem_append.1 hf with hf | hf
    · exact h f hf
    · rw [List.mem_singleton] at hf; subst hf; exact names_step h (hl x (by simp))
theorem names_form (l : List Stp) (hl : ∀ x ∈ l, x.name.length < 2^60) : namesOk (formF l) := by
  unfold formF
  rw [List.getD_eq_getElem?_getD]
  cases h : (madeF l l.length)[l.length]? with
  | none => trivial
  | some f =>
    refine names_all _ _ (fun x hx => hl x (List.mem_of_mem_take hx)) (fun f hf => ?_) f (List.mem_of_getElem? h)
    rw [List.mem_singleton] at hf
    subst hf
    exact ⟨by decide, trivial⟩
theorem form_ip (l : List Stp) : ∃ c, dF (formF l) = .ip c := by
  have hlt : l.length < (madeF l l.length).length := by rw [madeF_len l (Nat.le_refl _)]; omega
  have : formF l = (madeF l l.length)[l.length]'hlt := by unfold formF; simp [hlt]
  rw [this]
  exact (madeF_mk l _ _ (List.getElem_mem _)).ip

theorem holdsF_len (a r : Times) {f : Fm} {c : List D} (h : dF f = .ip c) : (holdsF a r f).length = a.length + r.length := by
  cases f with
  | nil => simp [dF] at h
  | mk k s l => rw [holdsF, List.length_map, List.length_range]
theorem okTimes_append (x y : Times) : okTimes (x ++ y) = (okTimes x && okTimes y) := by unfold okTimes; rw [List.all_append]
theorem errOf_ne {c : Int} (h : c ≠ 0) : errOf c = some (c, none) := by unfold errOf; rw [if_neg h]

set_option maxHeartbeats 16000000 in
theorem turns_spec (G : Glob) (hA : HasArity G) (a r : Times) (hs : Small a r) (l : List Stp) (hl : l.length < 2^60) (hn : ∀ x ∈ l, x.name.length < 2^60) : PureC Tryd.prog G 8 [dW a r, dStps l] (.v (.bool true)) := by
  have hsl := hs.len
  by_cases h1 : (16 : Int) < l.length
  · refine PureC.of_body (tyOf_good _) Tryd.func8 rfl rfl (rs := [.tmp 4]) Tryd.results8 (by simp [Tryd.ntmps8]) fun X => ?_
    simp only [Tryd.ntmps8, List.map]
    refine AW_rg (tyOf_good _) [1, 2] [2] (fun _ _ => trivial) fun K' hK' => ?_
    repeat (refine sxf_next fun K2 hK2 => ?_; simp [dNum, dB, dW]; (repeat (refine ⟨by omega, ?_⟩)); refine hK2 _ ?_; clear hK2 K2)
    refine sxf_nil (hK' _ ?_)
    refine AW.st (by simp [dNum, dB, dW]; rfl) ?_
    clear hK' K'
    refine AW_then fun K1 hK1 => ?_
    refine AW_rg (tyOf_good _) [1, 2, 30] [2] (fun _ _ => trivial) fun K' hK' => ?_
    repeat (refine sxf_next fun K2 hK2 => ?_; simp [dNum, dB, dTimes, dStps, h1]; (repeat (refine ⟨by omega, ?_⟩)); refine hK2 _ ?_; clear hK2 K2)
    refine sxf_nil (hK' _ ?_)
    refine AW.st (by simp [dNum, dB, dTimes, dStps, h1]; rfl) ?_
    clear hK' K'
    refine AW_cond true rfl (fun _ => ?_) (fun h => by cases h)
    refine AW_rg (tyOf_good _) [4] [] (fun _ _ => trivial) fun K' hK' => ?_
    repeat (refine sxf_next fun K2 hK2 => ?_; simp [dNum, dB]; (repeat (refine ⟨by omega, ?_⟩)); refine hK2 _ ?_; clear hK2 K2)
    refine sxf_nil (hK' _ ?_)
    refine AW.st (by simp [dNum, dB]; rfl) ?_
    clear hK' K'
    refine AW_ret ?_
    simp [D.le, D.le.go, takeMap, dNum, dB]
  by_cases h2 : (40 : Int) < (a.length : Int) + 2 * (r.length : Int)
  · refine PureC.of_body (tyOf_good _) Tryd.func8 rfl rfl (rs := [.tmp 4]) Tryd.results8 (by simp [Tryd.ntmps8]) fun X => ?_
    simp only [Tryd.ntmps8, List.map]
    refine AW_rg (tyOf_good _) [1, 2] [2] (fun _ _ => trivial) fun K' hK' => ?_
    repeat (refine sxf_next fun K2 hK2 => ?_; simp [dNum, dB, dW]; (repeat (refine ⟨by omega, ?_⟩)); refine hK2 _ ?_; clear hK2 K2)
    refine sxf_nil (hK' _ ?_)
    refine AW.st (by simp [dNum, dB, dW]; rfl) ?_
    clear hK' K'
    refine AW_then fun K1 hK1 => ?_
    refine AW_rg (tyOf_good _) [1, 2, 30] [2] (fun _ _ => trivial) fun K' hK' => ?_
    repeat (refine sxf_next fun K2 hK2 => ?_; simp [dNum, dB, dTimes, dStps, h1, h2]; (repeat (refine ⟨by omega, ?_⟩)); refine hK2 _ ?_; clear hK2 K2)
    refine sxf_nil (hK' _ ?_)
    refine AW.st (by simp [dNum, dB, dTimes, dStps, h1, h2]; rfl) ?_
    clear hK' K'
    refine AW_cond true rfl (fun _ => ?_) (fun h => by cases h)
    refine AW_rg (tyOf_good _) [4] [] (fun _ _ => trivial) fun K' hK' => ?_
    repeat (refine sxf_next fun K2 hK2 => ?_; simp [dNum, dB]; (repeat (refine ⟨by omega, ?_⟩)); refine hK2 _ ?_; clear hK2 K2)
    refine sxf_nil (hK' _ ?_)
    refine AW.st (by simp [dNum, dB]; rfl) ?_
    clear hK' K'
    refine AW_ret ?_
    simp [D.le, D.le.go, takeMap, dNum, dB]
  have hform := formula_spec G l (by omega)
  have hnf := names_form l hn
  have hla := lassoed_spec G hA
  obtain ⟨cf, hcf⟩ := form_ip l
  generalize formF l = f at hform hnf hcf
  by_cases hE : holdsE a r f = 0
  · have hg := Holds_good G hA a r hs f hnf hE
    have hwr : wordE a r = 0 ∧ rightE f = 0 := by
      unfold holdsE at hE
      by_cases hw : wordE a r = 0
      · rw [if_neg (by simp [hw])] at hE; exact ⟨hw, hE⟩
      · rw [if_pos hw] at hE; exact absurd hE hw
    have hlen : 0 < r.length ∧ okTimes a = true ∧ okTimes r = true := by
      have hw := hwr.1
      unfold wordE at hw
      split at hw
      · cases hw
      · rename_i h
        refine ⟨by omega, ?_⟩
        have hb : (okTimes a && okTimes r) = true := by
          cases hb : (okTimes a && okTimes r) with
          | true => rfl
          | false => rw [hb] at hw; cases hw
        rwa [Bool.and_eq_true] at hb
    obtain ⟨hr0, hoa, hor⟩ := hlen
    obtain ⟨x, rt, rfl⟩ : ∃ x rt, r = x :: rt := by cases r with | nil => simp at hr0 | cons x rt => exact ⟨x, rt, rfl⟩
    have hox : okTimes [x] = true ∧ okTimes rt = true := by
      have : okTimes (x :: rt) = (okTimes [x] && okTimes rt) := okTimes_append [x] rt
      rw [hor] at this
      have := this.symm
      rwa [Bool.and_eq_true] at this
    have hE1 : holdsE (a ++ [x]) (rt ++ [x]) f = 0 := by
      unfold holdsE wordE
      rw [okTimes_append, okTimes_append, hoa, hox.1, hox.2]
      simp only [List.length_append, List.length_cons, List.length_nil] at h2 ⊢
      rw [if_neg (show ¬ (rt.length + (0 + 1) < 1 ∨ 60 < a.length + (0 + 1) + (rt.length + (0 + 1))) by omega)]
      simp [hwr.2]
    have hE2 : holdsE a (x :: rt ++ x :: rt) f = 0 := by
      unfold holdsE wordE
      rw [okTimes_append, hoa, hor]
      simp only [List.length_append, List.length_cons] at h2 ⊢
      rw [if_neg (show ¬ (rt.length + 1 + (rt.length + 1) < 1 ∨ 60 < a.length + (rt.length + 1 + (rt.length + 1))) by omega)]
      simp [hwr.2]
    have hs1 : Small (a ++ [x]) (rt ++ [x]) := ⟨by simp only [List.length_append, List.length_cons, List.length_nil] at h2 ⊢; omega, fun t ht => hs.times t (by simp at ht ⊢; rcases ht with h | h | h | h <;> simp_all), fun t ht => hs.names t (by simp at ht ⊢; rcases ht with h | h | h | h <;> simp_all)⟩
    have hs2 : Small a (x :: rt ++ x :: rt) := ⟨by simp only [List.length_append, List.length_cons] at h2 ⊢; omega, fun t ht => hs.times t (by simp at ht ⊢; rcases ht with h | h | h | h | h <;> simp_all), fun t ht => hs.names t (by simp at ht ⊢; rcases ht with h | h | h | h | h <;> simp_all)⟩
    have hg1 := Holds_good G hA _ _ hs1 f hnf hE1
    have hg2 := Holds_good G hA _ _ hs2 f hnf hE2
    have hAl := holdsF_len a (x :: rt) hcf
    have hBl := holdsF_len (a ++ [x]) (rt ++ [x]) hcf
    have hCl := holdsF_len a (x :: rt ++ x :: rt) hcf
    have hu1 := holds_upon (upon_turn a x rt) f
    have hu2 := holds_upon (upon_twice a (x :: rt) (by simp)) f
    generalize holdsF a (x :: rt) f = A at hg hAl hu1 hu2
    generalize holdsF (a ++ [x]) (rt ++ [x]) f = B at hg1 hBl hu1
    generalize holdsF a (x :: rt ++ x :: rt) f = C at hg2 hCl hu2
    simp only [List.length_append, List.length_cons, List.length_nil] at hAl hBl hCl hu1 hu2
    have hBl : B.length = a.length + (rt.length + 1) + 1 := by omega
    have hCl : C.length = a.length + 2 * (rt.length + 1) := by omega
    have hB1 : ∀ i (h : i < a.length + (rt.length + 1)), B[i]'(by omega) = A[i]'(by omega) := fun i h => by
      have := hu1 i (by omega)
      rw [if_pos h] at this
      simpa [atB, List.getD_eq_getElem?_getD, show i < B.length by omega, show i < A.length by omega] using this
    have hB2 : B[a.length + (rt.length + 1)]'(by omega) = A[a.length]'(by omega) := by
      have := hu1 (a.length + (rt.length + 1)) (by omega)
      rw [if_neg (by omega)] at this
      simpa [atB, List.getD_eq_getElem?_getD, show a.length + (rt.length + 1) < B.length by omega, show a.length < A.length by omega] using this
    have hC1 : ∀ i (h : i < a.length + (rt.length + 1)), C[i]'(by omega) = A[i]'(by omega) := fun i h => by
      have := hu2 i (by omega)
      rw [if_pos h] at this
      simpa [atB, List.getD_eq_getElem?_getD, show i < C.length by omega, show i < A.length by omega] using this
    have hC2 : ∀ i (h : i < a.length + (rt.length + 1)) (h2 : a.length ≤ i), C[i + (rt.length + 1)]'(by omega) = A[i]'(by omega) := fun i h h2 => by
      have := hu2 (i + (rt.length + 1)) (by omega)
      rw [if_neg (by omega), Nat.add_sub_cancel] at this
      simpa [atB, List.getD_eq_getElem?_getD, show i + (rt.length + 1) < C.length by omega, show i < A.length by omega] using this
    clear hu1 hu2 hE hE1 hE2 hwr
    rw [hcf] at hform hg hg1 hg2
    have htkr : ∀ g : List (List UInt8) → List D, List.take rt.length (rt.map g) = rt.map g := fun g => List.take_of_length_le (by simp)
    have htka : ∀ g : List (List UInt8) → List D, List.take a.length (a.map g) = a.map g := fun g => List.take_of_length_le (by simp)
    have hdbl : rt.length + 1 + (rt.length + 1) = rt.length + (rt.length + 1) + 1 := by omega
    have hrn : rt.length < 40 := by simp only [List.length_cons] at h2; omega
    have han : a.length ≤ 40 := by simp only [List.length_cons] at h2; omega
    refine PureC.of_body (tyOf_good _) Tryd.func8 rfl rfl (rs := [.tmp 4]) Tryd.results8 (by simp [Tryd.ntmps8]) fun X => ?_
    simp only [Tryd.ntmps8, List.map]
    refine AW_rg (tyOf_good _) [1, 2] [2] (fun _ _ => trivial) fun K' hK' => ?_
    repeat (refine sxf_next fun K2 hK2 => ?_; simp [dNum, dB, dW]; (repeat (refine ⟨by omega, ?_⟩)); refine hK2 _ ?_; clear hK2 K2)
    refine sxf_nil (hK' _ ?_)
    refine AW.st (by simp [dNum, dB, dW]; rfl) ?_
    clear hK' K'
    refine AW_then fun K1 hK1 => ?_
    simp only [List.length_cons, Int.natCast_add, Int.cast_ofNat_Int] at h2
    refine AW_rg (tyOf_good _) [1, 2, 30] [2] (fun _ _ => trivial) fun K' hK' => ?_
    repeat (refine sxf_next fun K2 hK2 => ?_; simp [dNum, dB, dTimes, dStps, h1, h2]; (repeat (refine ⟨by omega, ?_⟩)); refine hK2 _ ?_; clear hK2 K2)
    refine sxf_nil (hK' _ ?_)
    refine AW.st (by simp [dNum, dB, dTimes, dStps, h1, h2]; rfl) ?_
    clear hK' K'
    refine AW_cond false rfl (fun h => by cases h) (fun _ => ?_)
    refine AW_skip (hK1 _ ?_)
    refine AW_rg (tyOf_good _) [2, 5] [2] (fun _ _ => trivial) fun K' hK' => ?_
    repeat (refine sxf_next fun K2 hK2 => ?_; simp [dNum, dB, dStps, dTimes]; (repeat (refine ⟨by omega, ?_⟩)); refine hK2 _ ?_; clear hK2 K2)
    refine sxf_next fun K2 hK2 => ?_
    simp [dNum, dB, dStps, dTimes]
    refine callK.data (hform) (by simp; rfl) (by first | exact D.leGo_refl _ | simp [takeMap, List.map_map, Function.comp_def, D.le, D.le.go, D.le_refl, D.leGo_refl, dNum, dB, dStps, dTimes]) ?_
    refine hK2 _ ?_
    clear hK2 K2
    simp only [putd, upd_lst]
    repeat (refine sxf_next fun K2 hK2 => ?_; simp [dNum, dB, dStps, dTimes]; (repeat (refine ⟨by omega, ?_⟩)); refine hK2 _ ?_; clear hK2 K2)
    refine sxf_nil (hK' _ ?_)
    refine AW.st (by simp [dNum, dB, dStps, dTimes]; rfl) ?_
    clear hK' K'
    refine AW_rg (tyOf_good _) [2, 5, 6, 7] [2] (fun _ _ => trivial) fun K' hK' => ?_
    repeat (refine sxf_next fun K2 hK2 => ?_; simp [dNum, dB, dW, dTimes]; (repeat (refine ⟨by omega, ?_⟩)); refine hK2 _ ?_; clear hK2 K2)
    refine sxf_next fun K2 hK2 => ?_
    simp [dNum, dB, dW, dTimes]
    refine callK.data (hg) (by simp; rfl) (by first | exact D.leGo_refl _ | simp [takeMap, List.map_map, Function.comp_def, D.le, D.le.go, D.le_refl, D.leGo_refl, dNum, dB, dW, dTimes]) ?_
    refine hK2 _ ?_
    clear hK2 K2
    simp only [putd, upd_lst]
    repeat (refine sxf_next fun K2 hK2 => ?_; simp [dNum, dB, dW, dTimes]; (repeat (refine ⟨by omega, ?_⟩)); refine hK2 _ ?_; clear hK2 K2)
    refine sxf_nil (hK' _ ?_)
    refine AW.st (by simp [dNum, dB, dW, dTimes]; rfl) ?_
    clear hK' K'
    refine AW_then fun K2 hK2 => ?_
    refine AW_rg (tyOf_good _) [2, 5, 6, 44] [2] (fun _ _ => trivial) fun K' hK' => ?_
    repeat (refine sxf_next fun K2 hK2 => ?_; simp [dNum, dB]; (repeat (refine ⟨by omega, ?_⟩)); refine hK2 _ ?_; clear hK2 K2)
    refine sxf_next fun K2 hK2 => ?_
    simp [dNum, dB]
    refine callK.data (hla) (by simp; rfl) (by first | exact D.leGo_refl _ | simp [takeMap, List.map_map, Function.comp_def, D.le, D.le.go, D.le_refl, D.leGo_refl, dNum, dB]) ?_
    refine hK2 _ ?_
    clear hK2 K2
    simp only [putd, upd_lst]
    repeat (refine sxf_next fun K2 hK2 => ?_; simp [dNum, dB]; (repeat (refine ⟨by omega, ?_⟩)); refine hK2 _ ?_; clear hK2 K2)
    refine sxf_nil (hK' _ ?_)
    refine AW.st (by simp [dNum, dB]; rfl) ?_
    clear hK' K'
    refine AW_cond false rfl (fun h => by cases h) (fun _ => ?_)
    refine AW_skip (hK2 _ ?_)
    refine AW_rd (tyOf_good _) (by kernel_rfl) [2, 5, 6, 8, 9] [2] (fun _ _ => trivial) (by kernel_rfl) fun K' hK' => ?_
    repeat (refine sxd_next fun K2 hK2 => ?_; simp [dNum, dB, dTimes]; (repeat (refine ⟨by omega, ?_⟩)); refine hK2 _ ?_; clear hK2 K2)
    refine sxd_nil (hK' _ ?_)
    refine AW.st (by simp [dNum, dB, dTimes]; rfl) ?_
    clear hK' K'
    refine AW_rl (tyOf_good _) (by kernel_rfl) ([(3, (57, 999)), (9, (57, 65)), (14, (67, 999)), (20, (67, 76))]) ([(4, [57]), (5, [57]), (6, [57]), (7, [57]), (8, [57]), (10, [57]), (11, [57]), (12, [57]), (13, [57]), (15, [57, 67]), (16, [57, 67]), (17, [57, 67]), (18, [57, 67]), (19, [57, 67]), (22, [57, 67])]) ([1, 2, 4, 5, 6, 7, 11, 12, 13, 15, 16, 17, 18, 0, 8, 10, 19, 22, 3, 9, 14, 20, 21, 23]) [2, 5, 6, 8, 9, 10] [2, 10, 57, 67] (fun _ _ => trivial) (by kernel_rfl) fun K' hK' => ?_
    repeat (refine sxl_nextO rfl fun K2 hK2 => ?_; simp [dNum, dB, dTimes, dNames, htkr, htka]; (repeat (refine ⟨by omega, ?_⟩)); refine hK2 _ ?_; clear hK2 K2)
    refine sxl_nilO (hK' _ ?_)
    refine AW.st (by simp [dNum, dB, dTimes, dNames, htkr, htka]; rfl) ?_
    clear hK' K'
    refine AW.imp (Imp.freeze 57 trivial) ?_
    refine AW.st (by simp [dNum, dB, htka]; rfl) ?_
    refine AW.imp (Imp.freeze 67 trivial) ?_
    refine AW.st (by simp [dNum, dB, htkr]; rfl) ?_
    refine AW.imp (Imp.freezeB 10 trivial) ?_
    refine AW.st (by simp [dNum, dB]; rfl) ?_
    refine AW_rl (tyOf_good _) (by kernel_rfl) ([(5, (81, 999)), (8, (81, 999))]) ([(0, [81]), (1, [81]), (6, [81]), (7, [81]), (10, [81])]) ([0, 1, 3, 4, 6, 7, 2, 10, 5, 8, 9, 11]) [5, 6, 8, 9, 10, 11] [11, 81] (fun _ _ => trivial) (by kernel_rfl) fun K' hK' => ?_
    repeat (refine sxl_nextO rfl fun K2 hK2 => ?_; simp [dNum, dB, dTimes, dNames, htkr, htka]; (repeat (refine ⟨by omega, ?_⟩)); refine hK2 _ ?_; clear hK2 K2)
    refine sxl_nilO (hK' _ ?_)
    refine AW.st (by simp [dNum, dB, dTimes, dNames, htkr, htka]; rfl) ?_
    clear hK' K'
    refine AW.imp (Imp.freeze 81 trivial) ?_
    refine AW.st (by simp [dNum, dB, hdbl]; rfl) ?_
    refine AW.imp (Imp.freezeB 11 trivial) ?_
    refine AW.st (by simp [dNum, dB]; rfl) ?_
    refine AW_rg (tyOf_good _) [5, 6, 8, 9, 11, 12, 13] [] (fun _ _ => trivial) fun K' hK' => ?_
    repeat (refine sxf_next fun K2 hK2 => ?_; simp [dNum, dB, dW, dTimes, dNames]; (repeat (refine ⟨by omega, ?_⟩)); refine hK2 _ ?_; clear hK2 K2)
    refine sxf_next fun K2 hK2 => ?_
    simp [dNum, dB, dW, dTimes, dNames]
    refine callK.data (hg1) (by simp; rfl) (by first | exact D.leGo_refl _ | simp [takeMap, List.map_map, Function.comp_def, D.le, D.le.go, D.le_refl, D.leGo_refl, dNum, dB, dW, dTimes, dNames]) ?_
    refine hK2 _ ?_
    clear hK2 K2
    simp only [putd, upd_lst]
    repeat (refine sxf_next fun K2 hK2 => ?_; simp [dNum, dB, dW, dTimes, dNames]; (repeat (refine ⟨by omega, ?_⟩)); refine hK2 _ ?_; clear hK2 K2)
    refine sxf_nil (hK' _ ?_)
    refine AW.st (by simp [dNum, dB, dW, dTimes, dNames]; rfl) ?_
    clear hK' K'
    refine AW_rg (tyOf_good _) [6, 8, 9, 12, 13, 14, 15] [] (fun _ _ => trivial) fun K' hK' => ?_
    repeat (refine sxf_next fun K2 hK2 => ?_; simp [dNum, dB, dW, dTimes, dNames]; (repeat (refine ⟨by omega, ?_⟩)); refine hK2 _ ?_; clear hK2 K2)
    refine sxf_next fun K2 hK2 => ?_
    simp [dNum, dB, dW, dTimes, dNames]
    refine callK.data (hg2) (by simp; rfl) (by first | exact D.leGo_refl _ | simp [takeMap, List.map_map, Function.comp_def, D.le, D.le.go, D.le_refl, D.leGo_refl, dNum, dB, dW, dTimes, dNames]) ?_
    refine hK2 _ ?_
    clear hK2 K2
    simp only [putd, upd_lst]
    repeat (refine sxf_next fun K2 hK2 => ?_; simp [dNum, dB, dW, dTimes, dNames]; (repeat (refine ⟨by omega, ?_⟩)); refine hK2 _ ?_; clear hK2 K2)
    refine sxf_nil (hK' _ ?_)
    refine AW.st (by simp [dNum, dB, dW, dTimes, dNames]; rfl) ?_
    clear hK' K'
    refine AW_then fun K3 hK3 => ?_
    refine AW_rg (tyOf_good _) [6, 8, 9, 12, 14, 132] [] (fun _ _ => trivial) fun K' hK' => ?_
    repeat (refine sxf_next fun K2 hK2 => ?_; simp [dNum, dB, dBs, hAl, hBl, hCl]; (repeat (refine ⟨by omega, ?_⟩)); refine hK2 _ ?_; clear hK2 K2)
    refine sxf_nil (hK' _ ?_)
    refine AW.st (by simp [dNum, dB, dBs, hAl, hBl, hCl]; rfl) ?_
    clear hK' K'
    refine AW_cond false rfl (fun h => by cases h) (fun _ => ?_)
    refine AW_skip (hK3 _ ?_)
    refine AW_then fun K4 hK4 => ?_
    refine AW_rg (tyOf_good _) [6, 8, 9, 12, 14, 16] [] (fun _ _ => trivial) fun K' hK' => ?_
    repeat (refine sxf_next fun K2 hK2 => ?_; simp [dNum, dB]; (repeat (refine ⟨by omega, ?_⟩)); refine hK2 _ ?_; clear hK2 K2)
    refine sxf_nil (hK' _ ?_)
    refine AW.st (by simp [dNum, dB]; rfl) ?_
    clear hK' K'
    refine AW_for (S := Nat) (fun i => i ≤ a.length + (rt.length + 1)) (fun i => ⟨lst [(6, .d (dBs A)), (8, int a.length), (9, int (rt.length + 1)), (12, .d (dBs B)), (14, .d (dBs C)), (16, int i)], hlst []⟩) (fun i => a.length + (rt.length + 1) - i) 0 ?_ (by omega) ?_
    · refine Imp.to' (fun _ _ => trivial) (by simp [dNum, dB, dBs]) (by simp [dNum, dB, dBs])
    · intro i hi
      refine AW_then fun K5 hK5 => ?_
      refine AW_rg (tyOf_good _) [6, 8, 9, 12, 14, 16, 137] [] (fun _ _ => trivial) fun K' hK' => ?_
      repeat (refine sxf_next fun K2 hK2 => ?_; simp [dNum, dB]; (repeat (refine ⟨by omega, ?_⟩)); refine hK2 _ ?_; clear hK2 K2)
      refine sxf_nil (hK' _ ?_)
      refine AW.st (by simp [dNum, dB]; rfl) ?_
      clear hK' K'
      have hcI : ((i : Int) < (a.length : Int) + ((rt.length : Int) + 1)) = (i < a.length + (rt.length + 1)) := by apply propext; omega
      by_cases hin : i < a.length + (rt.length + 1)
      · have hinI : (i : Int) < (a.length : Int) + ((rt.length : Int) + 1) := by omega
        have hiA : i < A.length := by omega
        have hiB : i < B.length := by omega
        have hiC : i < C.length := by omega
        have hb := hB1 i hin
        have hcc := hC1 i hin
        refine AW_cond' (b := true) (by simp [hinI]) (fun _ => ?_) (fun h => absurd rfl h)
        refine AW_skip (hK5 _ ?_)
        refine AW_then fun K6 hK6 => ?_
        refine AW_block ?_
        by_cases hni : a.length ≤ i
        · have hiC2 : i + (rt.length + 1) < C.length := by omega
          have hc2 := hC2 i hin hni
          have htn : ((i : Int) + ((rt.length : Int) + 1)).toNat = i + (rt.length + 1) := by omega
          have h0 : (0 : Int) ≤ (i : Int) + ((rt.length : Int) + 1) := by omega
          have h0' : (i : Int) + ((rt.length : Int) + 1) < C.length := by omega
          refine AW_rd (tyOf_good _) (by kernel_rfl) [6, 8, 9, 12, 14, 16, 177] [] (fun _ _ => trivial) (by kernel_rfl) fun K' hK' => ?_
          repeat (refine sxd_next fun K2 hK2 => ?_; simp [dNum, dB, dBs, hiA, hiB, hiC, hb, hcc, hni, hiC2, hc2, htn, h0, h0']; (repeat (refine ⟨by omega, ?_⟩)); refine hK2 _ ?_; clear hK2 K2)
          refine sxd_nil (hK' _ ?_)
          refine AW.st (by simp [dNum, dB, dBs, hiA, hiB, hiC, hb, hcc, hni, hiC2, hc2, htn, h0, h0']; rfl) ?_
          clear hK' K'
          refine AW_cond false rfl (fun h => by cases h) (fun _ => ?_)
          refine AW_skip ?_
          refine hK6 _ (AW.norm [6, 8, 9, 12, 14, 16] [] (fun _ _ => trivial) (AW.st (by simp [dNum, dB]; rfl) ?_))
          refine AW_re (tyOf_good _) fun K' hK' => ?_
          repeat (refine sxf_next fun K2 hK2 => ?_; simp [dNum, dB]; (repeat (refine ⟨by omega, ?_⟩)); refine hK2 _ ?_; clear hK2 K2)
          refine sxf_nil (hK' _ ?_)
          clear hK' K'
          try simp only [thn, inb]
          refine Again.mk (i + 1) (by omega) (by omega) ?_
          refine Imp.to' (fun _ _ => trivial) (by simp [dNum, dB, dBs]) (by simp [dNum, dB, dBs])
        · refine AW_rd (tyOf_good _) (by kernel_rfl) [6, 8, 9, 12, 14, 16, 177] [] (fun _ _ => trivial) (by kernel_rfl) fun K' hK' => ?_
          repeat (refine sxd_next fun K2 hK2 => ?_; simp [dNum, dB, dBs, hiA, hiB, hiC, hb, hcc, hni]; (repeat (refine ⟨by omega, ?_⟩)); refine hK2 _ ?_; clear hK2 K2)
          refine sxd_nil (hK' _ ?_)
          refine AW.st (by simp [dNum, dB, dBs, hiA, hiB, hiC, hb, hcc, hni]; rfl) ?_
          clear hK' K'
          refine AW_cond false rfl (fun h => by cases h) (fun _ => ?_)
          refine AW_skip ?_
          refine hK6 _ (AW.norm [6, 8, 9, 12, 14, 16] [] (fun _ _ => trivial) (AW.st (by simp [dNum, dB]; rfl) ?_))
          refine AW_re (tyOf_good _) fun K' hK' => ?_
          repeat (refine sxf_next fun K2 hK2 => ?_; simp [dNum, dB]; (repeat (refine ⟨by omega, ?_⟩)); refine hK2 _ ?_; clear hK2 K2)
          refine sxf_nil (hK' _ ?_)
          clear hK' K'
          try simp only [thn, inb]
          refine Again.mk (i + 1) (by omega) (by omega) ?_
          refine Imp.to' (fun _ _ => trivial) (by simp [dNum, dB, dBs]) (by simp [dNum, dB, dBs])
      · have hinI : ¬ (i : Int) < (a.length : Int) + ((rt.length : Int) + 1) := by omega
        refine AW_cond' (b := false) (by simp [hinI]) (fun h => by cases h) (fun _ => ?_)
        refine AW_exit (hK4 _ ?_)
        have htn : ((a.length : Int) + ((rt.length : Int) + 1)).toNat = a.length + (rt.length + 1) := by omega
        have h0 : (0 : Int) ≤ (a.length : Int) + ((rt.length : Int) + 1) := by omega
        have h0' : (a.length : Int) + ((rt.length : Int) + 1) < B.length := by omega
        have h3 : a.length + (rt.length + 1) < B.length := by omega
        have h4 : a.length < A.length := by omega
        refine AW_rd (tyOf_good _) (by kernel_rfl) [4] [] (fun _ _ => trivial) (by kernel_rfl) fun K' hK' => ?_
        repeat (refine sxd_next fun K2 hK2 => ?_; simp [dNum, dB, dBs, htn, h0, h0', h3, h4, hB2]; (repeat (refine ⟨by omega, ?_⟩)); refine hK2 _ ?_; clear hK2 K2)
        refine sxd_nil (hK' _ ?_)
        refine AW.st (by simp [dNum, dB, dBs, htn, h0, h0', h3, h4, hB2]; rfl) ?_
        clear hK' K'
        refine AW_ret ?_
        simp [D.le, D.le.go, takeMap, dNum, dB]
  · have hbd := Holds_bad G hA a r hs f hnf hE
    rw [errOf_ne hE] at hbd
    rw [hcf] at hform hbd
    refine PureC.of_body (tyOf_good _) Tryd.func8 rfl rfl (rs := [.tmp 4]) Tryd.results8 (by simp [Tryd.ntmps8]) fun X => ?_
    simp only [Tryd.ntmps8, List.map]
    refine AW_rg (tyOf_good _) [1, 2] [2] (fun _ _ => trivial) fun K' hK' => ?_
    repeat (refine sxf_next fun K2 hK2 => ?_; simp [dNum, dB, dW]; (repeat (refine ⟨by omega, ?_⟩)); refine hK2 _ ?_; clear hK2 K2)
    refine sxf_nil (hK' _ ?_)
    refine AW.st (by simp [dNum, dB, dW]; rfl) ?_
    clear hK' K'
    refine AW_then fun K1 hK1 => ?_
    refine AW_rg (tyOf_good _) [1, 2, 30] [2] (fun _ _ => trivial) fun K' hK' => ?_
    repeat (refine sxf_next fun K2 hK2 => ?_; simp [dNum, dB, dTimes, dStps, h1, h2]; (repeat (refine ⟨by omega, ?_⟩)); refine hK2 _ ?_; clear hK2 K2)
    refine sxf_nil (hK' _ ?_)
    refine AW.st (by simp [dNum, dB, dTimes, dStps, h1, h2]; rfl) ?_
    clear hK' K'
    refine AW_cond false rfl (fun h => by cases h) (fun _ => ?_)
    refine AW_skip (hK1 _ ?_)
    refine AW_rg (tyOf_good _) [2, 5] [2] (fun _ _ => trivial) fun K' hK' => ?_
    repeat (refine sxf_next fun K2 hK2 => ?_; simp [dNum, dB, dStps, dTimes]; (repeat (refine ⟨by omega, ?_⟩)); refine hK2 _ ?_; clear hK2 K2)
    refine sxf_next fun K2 hK2 => ?_
    simp [dNum, dB, dStps, dTimes]
    refine callK.data (hform) (by simp; rfl) (by first | exact D.leGo_refl _ | simp [takeMap, List.map_map, Function.comp_def, D.le, D.le.go, D.le_refl, D.leGo_refl, dNum, dB, dStps, dTimes]) ?_
    refine hK2 _ ?_
    clear hK2 K2
    simp only [putd, upd_lst]
    repeat (refine sxf_next fun K2 hK2 => ?_; simp [dNum, dB, dStps, dTimes]; (repeat (refine ⟨by omega, ?_⟩)); refine hK2 _ ?_; clear hK2 K2)
    refine sxf_nil (hK' _ ?_)
    refine AW.st (by simp [dNum, dB, dStps, dTimes]; rfl) ?_
    clear hK' K'
    refine AW_rg (tyOf_good _) [2, 5, 6, 7] [2] (fun _ _ => trivial) fun K' hK' => ?_
    repeat (refine sxf_next fun K2 hK2 => ?_; simp [dNum, dB, dW, dTimes]; (repeat (refine ⟨by omega, ?_⟩)); refine hK2 _ ?_; clear hK2 K2)
    refine sxf_next fun K2 hK2 => ?_
    simp [dNum, dB, dW, dTimes]
    refine callK.data (hbd) (by simp; rfl) (by first | exact D.leGo_refl _ | simp [takeMap, List.map_map, Function.comp_def, D.le, D.le.go, D.le_refl, D.leGo_refl, dNum, dB, dW, dTimes]) ?_
    refine hK2 _ ?_
    clear hK2 K2
    simp only [putd, upd_lst]
    repeat (refine sxf_next fun K2 hK2 => ?_; simp [dNum, dB, dW, dTimes]; (repeat (refine ⟨by omega, ?_⟩)); refine hK2 _ ?_; clear hK2 K2)
    refine sxf_nil (hK' _ ?_)
    refine AW.st (by simp [dNum, dB, dW, dTimes]; rfl) ?_
    clear hK' K'
    refine AW_then fun K2 hK2 => ?_
    refine AW_rg (tyOf_good _) [2, 5, 6, 44] [2] (fun _ _ => trivial) fun K' hK' => ?_
    repeat (refine sxf_next fun K2 hK2 => ?_; simp [dNum, dB, dErr]; (repeat (refine ⟨by omega, ?_⟩)); refine hK2 _ ?_; clear hK2 K2)
    refine sxf_next fun K2 hK2 => ?_
    simp [dNum, dB, dErr]
    refine callK.data (hla) (by simp; rfl) (by first | exact D.leGo_refl _ | simp [takeMap, List.map_map, Function.comp_def, D.le, D.le.go, D.le_refl, D.leGo_refl, dNum, dB, dErr]) ?_
    refine hK2 _ ?_
    clear hK2 K2
    simp only [putd, upd_lst]
    repeat (refine sxf_next fun K2 hK2 => ?_; simp [dNum, dB, dErr]; (repeat (refine ⟨by omega, ?_⟩)); refine hK2 _ ?_; clear hK2 K2)
    refine sxf_nil (hK' _ ?_)
    refine AW.st (by simp [dNum, dB, dErr]; rfl) ?_
    clear hK' K'
    refine AW_cond true rfl (fun _ => ?_) (fun h => by cases h)
    refine AW_rg (tyOf_good _) [4] [] (fun _ _ => trivial) fun K' hK' => ?_
    repeat (refine sxf_next fun K2 hK2 => ?_; simp [dNum, dB]; (repeat (refine ⟨by omega, ?_⟩)); refine hK2 _ ?_; clear hK2 K2)
    refine sxf_next fun K2 hK2 => ?_
    simp [dNum, dB]
    refine callK.data (hla) (by simp; rfl) (by first | exact D.leGo_refl _ | simp [takeMap, List.map_map, Function.comp_def, D.le, D.le.go, D.le_refl, D.leGo_refl, dNum, dB]) ?_
    refine hK2 _ ?_
    clear hK2 K2
    simp only [putd, upd_lst]
    repeat (refine sxf_next fun K2 hK2 => ?_; simp [dNum, dB]; (repeat (refine ⟨by omega, ?_⟩)); refine hK2 _ ?_; clear hK2 K2)
    refine sxf_nil (hK' _ ?_)
    refine AW.st (by simp [dNum, dB]; rfl) ?_
    clear hK' K'
    refine AW_ret ?_
    simp [D.le, D.le.go, takeMap, dNum, dB]
#print axioms turns_spec
end Go.Proofs.YtoikggboakojlaaDoor

/-
  LassoGrows: what holds is told by what holds now, and at the next time.
-/
namespace Go.Proofs.YtoikggboakojlaaDoor
set_option linter.unusedSimpArgs false
set_option linter.unusedVariables false
open Go.Av

theorem node1_spec (G : Glob) (k : Int) (f : Fm) : PureC Tryd.prog G 42 [dNum k, .sl none [[dF f]]] (dF (.mk k [] [f])) := by
  refine PureC.of_body (tyOf_good _) Tryd.func42 rfl rfl (rs := [.tmp 4]) Tryd.results42 (by simp [Tryd.ntmps42]) fun X => ?_
  simp only [Tryd.ntmps42, List.map]
  refine AW_rg (tyOf_good _) [0, 1] [] (fun _ _ => trivial) fun K' hK' => ?_
  repeat (refine sxf_next fun K2 hK2 => ?_; simp [dNum]; (repeat (refine ⟨by omega, ?_⟩)); refine hK2 _ ?_; clear hK2 K2)
  refine sxf_nil (hK' _ ?_)
  refine AW.st (by simp [dNum]; rfl) ?_
  clear hK' K'
  refine AW_rg (tyOf_good _) [4] [8] (fun _ _ => trivial) fun K' hK' => ?_
  repeat (refine sxf_next fun K2 hK2 => ?_; simp [dNum]; (repeat (refine ⟨by omega, ?_⟩)); refine hK2 _ ?_; clear hK2 K2)
  refine sxf_nil (hK' _ ?_)
  refine AW.st (by simp [dNum]; rfl) ?_
  clear hK' K'
  refine AW_ret ?_
  simp [D.le, D.le.go, takeMap, dNum, dF, dFs, ofK, dS, bs_nil]
theorem node2_spec (G : Glob) (k : Int) (f g : Fm) : PureC Tryd.prog G 42 [dNum k, .sl none [[dF f], [dF g]]] (dF (.mk k [] [f, g])) := by
  refine PureC.of_body (tyOf_good _) Tryd.func42 rfl rfl (rs := [.tmp 4]) Tryd.results42 (by simp [Tryd.ntmps42]) fun X => ?_
  simp only [Tryd.ntmps42, List.map]
  refine AW_rg (tyOf_good _) [0, 1] [] (fun _ _ => trivial) fun K' hK' => ?_
  repeat (refine sxf_next fun K2 hK2 => ?_; simp [dNum]; (repeat (refine ⟨by omega, ?_⟩)); refine hK2 _ ?_; clear hK2 K2)
  refine sxf_nil (hK' _ ?_)
  refine AW.st (by simp [dNum]; rfl) ?_
  clear hK' K'
  refine AW_rg (tyOf_good _) [4] [8] (fun _ _ => trivial) fun K' hK' => ?_
  repeat (refine sxf_next fun K2 hK2 => ?_; simp [dNum]; (repeat (refine ⟨by omega, ?_⟩)); refine hK2 _ ?_; clear hK2 K2)
  refine sxf_nil (hK' _ ?_)
  refine AW.st (by simp [dNum]; rfl) ?_
  clear hK' K'
  refine AW_ret ?_
  simp [D.le, D.le.go, takeMap, dNum, dF, dFs, ofK, dS, bs_nil]

theorem holdsE_zero {a r : Times} {f : Fm} (hw : wordE a r = 0) (h : rightE f = 0) : holdsE a r f = 0 := by
  unfold holdsE
  rw [if_neg (by simp [hw]), h]

theorem same_spec (G : Glob) (hA : HasArity G) (a r : Times) (hs : Small a r) (hw : wordE a r = 0) {x y : Fm} (hx : rightE x = 0) (hy : rightE y = 0) (nx : namesOk x) (ny : namesOk y) (hxy : holdsF a r x = holdsF a r y) :
    PureC Tryd.prog G 43 [dF x, dF y, .ip [dTimes a, dTimes r]] (.v (.bool true)) := by
  have h1 := Holds_good G hA a r hs x nx (holdsE_zero hw hx)
  have h2 := Holds_good G hA a r hs y ny (holdsE_zero hw hy)
  have hl : (holdsF a r y).length < 2^63 := by
    have := hs.len
    cases y with
    | nil => simp [holdsF]
    | mk k s l => rw [holdsF, List.length_map, List.length_range]; omega
  rw [hxy] at h1
  generalize holdsF a r y = L at h1 h2 hl
  have h3 := sameBools_spec G L L hl
  rw [beq_self_eq_true] at h3
  refine PureC.of_body (tyOf_good _) Tryd.func43 rfl rfl (rs := [.tmp 5]) Tryd.results43 (by simp [Tryd.ntmps43]) fun X => ?_
  simp only [Tryd.ntmps43, List.map]
  refine AW_rg (tyOf_good _) [0, 1, 2] [] (fun _ _ => trivial) fun K' hK' => ?_
  repeat (refine sxf_next fun K2 hK2 => ?_; simp [dNum]; (repeat (refine ⟨by omega, ?_⟩)); refine hK2 _ ?_; clear hK2 K2)
  refine sxf_nil (hK' _ ?_)
  refine AW.st (by simp [dNum]; rfl) ?_
  clear hK' K'
  refine AW_rg (tyOf_good _) [1, 2, 6, 7] [] (fun _ _ => trivial) fun K' hK' => ?_
  repeat (refine sxf_next fun K2 hK2 => ?_; simp [dNum, dW]; (repeat (refine ⟨by omega, ?_⟩)); refine hK2 _ ?_; clear hK2 K2)
  refine sxf_next fun K2 hK2 => ?_
  simp [dNum, dW]
  refine callK.data (h1) (by simp; rfl) (by first | exact D.leGo_refl _ | simp [takeMap, List.map_map, Function.comp_def, D.le, D.le.go, D.le_refl, D.leGo_refl, dNum, dW]) ?_
  refine hK2 _ ?_
  clear hK2 K2
  simp only [putd, upd_lst]
  repeat (refine sxf_next fun K2 hK2 => ?_; simp [dNum, dW]; (repeat (refine ⟨by omega, ?_⟩)); refine hK2 _ ?_; clear hK2 K2)
  refine sxf_nil (hK' _ ?_)
  refine AW.st (by simp [dNum, dW]; rfl) ?_
  clear hK' K'
  refine AW_rg (tyOf_good _) [6, 7, 8, 9] [] (fun _ _ => trivial) fun K' hK' => ?_
  repeat (refine sxf_next fun K2 hK2 => ?_; simp [dNum, dW]; (repeat (refine ⟨by omega, ?_⟩)); refine hK2 _ ?_; clear hK2 K2)
  refine sxf_next fun K2 hK2 => ?_
  simp [dNum, dW]
  refine callK.data (h2) (by simp; rfl) (by first | exact D.leGo_refl _ | simp [takeMap, List.map_map, Function.comp_def, D.le, D.le.go, D.le_refl, D.leGo_refl, dNum, dW]) ?_
  refine hK2 _ ?_
  clear hK2 K2
  simp only [putd, upd_lst]
  repeat (refine sxf_next fun K2 hK2 => ?_; simp [dNum, dW]; (repeat (refine ⟨by omega, ?_⟩)); refine hK2 _ ?_; clear hK2 K2)
  refine sxf_nil (hK' _ ?_)
  refine AW.st (by simp [dNum, dW]; rfl) ?_
  clear hK' K'
  refine AW_rd (tyOf_good _) (by kernel_rfl) [5] [] (fun _ _ => trivial) (by kernel_rfl) fun K' hK' => ?_
  repeat (refine sxd_next fun K2 hK2 => ?_; simp [dNum]; (repeat (refine ⟨by omega, ?_⟩)); refine hK2 _ ?_; clear hK2 K2)
  refine sxd_next fun K2 hK2 => ?_
  simp [dNum]
  refine callQ.data (h3) (by simp; rfl) (by simp; rfl) (by first | exact D.leGo_refl _ | simp [takeMap, List.map_map, Function.comp_def, D.le, D.le.go, D.le_refl, D.leGo_refl, dNum]) ?_
  refine hK2 _ ?_
  clear hK2 K2
  simp only [putd, upd_lst]
  repeat (refine sxd_next fun K2 hK2 => ?_; simp [dNum]; (repeat (refine ⟨by omega, ?_⟩)); refine hK2 _ ?_; clear hK2 K2)
  refine sxd_nil (hK' _ ?_)
  refine AW.st (by simp [dNum]; rfl) ?_
  clear hK' K'
  refine AW_ret ?_
  simp [D.le, D.le.go, takeMap, dNum]

set_option maxHeartbeats 16000000 in
theorem grows_spec (G : Glob) (hA : HasArity G) (a r : Times) (hs : Small a r) (l m : List Stp) (hl : l.length < 2^60) (hm : m.length < 2^60) (hn : ∀ x ∈ l, x.name.length < 2^60) (hn2 : ∀ x ∈ m, x.name.length < 2^60) :
    PureC Tryd.prog G 9 [dW a r, dStps l, dStps m] (.v (.bool true)) := by
  have hsl := hs.len
  by_cases h1 : (8 : Int) < l.length
  · refine PureC.of_body (tyOf_good _) Tryd.func9 rfl rfl (rs := [.tmp 6]) Tryd.results9 (by simp [Tryd.ntmps9]) fun X => ?_
    simp only [Tryd.ntmps9, List.map]
    refine AW_rg (tyOf_good _) [1, 2, 3] [3] (fun _ _ => trivial) fun K' hK' => ?_
    repeat (refine sxf_next fun K2 hK2 => ?_; simp [dNum, dB, dW]; (repeat (refine ⟨by omega, ?_⟩)); refine hK2 _ ?_; clear hK2 K2)
    refine sxf_nil (hK' _ ?_)
    refine AW.st (by simp [dNum, dB, dW]; rfl) ?_
    clear hK' K'
    refine AW_then fun K1 hK1 => ?_
    refine AW_rg (tyOf_good _) [1, 2, 3, 33] [3] (fun _ _ => trivial) fun K' hK' => ?_
    repeat (refine sxf_next fun K2 hK2 => ?_; simp [dNum, dB, dTimes, dStps, h1]; (repeat (refine ⟨by omega, ?_⟩)); refine hK2 _ ?_; clear hK2 K2)
    refine sxf_nil (hK' _ ?_)
    refine AW.st (by simp [dNum, dB, dTimes, dStps, h1]; rfl) ?_
    clear hK' K'
    refine AW_cond true rfl (fun _ => ?_) (fun h => by cases h)
    refine AW_rg (tyOf_good _) [6] [3] (fun _ _ => trivial) fun K' hK' => ?_
    repeat (refine sxf_next fun K2 hK2 => ?_; simp [dNum, dB]; (repeat (refine ⟨by omega, ?_⟩)); refine hK2 _ ?_; clear hK2 K2)
    refine sxf_nil (hK' _ ?_)
    refine AW.st (by simp [dNum, dB]; rfl) ?_
    clear hK' K'
    refine AW_ret ?_
    simp [D.le, D.le.go, takeMap, dNum, dB]
  by_cases h2 : (8 : Int) < m.length
  · refine PureC.of_body (tyOf_good _) Tryd.func9 rfl rfl (rs := [.tmp 6]) Tryd.results9 (by simp [Tryd.ntmps9]) fun X => ?_
    simp only [Tryd.ntmps9, List.map]
    refine AW_rg (tyOf_good _) [1, 2, 3] [3] (fun _ _ => trivial) fun K' hK' => ?_
    repeat (refine sxf_next fun K2 hK2 => ?_; simp [dNum, dB, dW]; (repeat (refine ⟨by omega, ?_⟩)); refine hK2 _ ?_; clear hK2 K2)
    refine sxf_nil (hK' _ ?_)
    refine AW.st (by simp [dNum, dB, dW]; rfl) ?_
    clear hK' K'
    refine AW_then fun K1 hK1 => ?_
    refine AW_rg (tyOf_good _) [1, 2, 3, 33] [3] (fun _ _ => trivial) fun K' hK' => ?_
    repeat (refine sxf_next fun K2 hK2 => ?_; simp [dNum, dB, dTimes, dStps, h1, h2]; (repeat (refine ⟨by omega, ?_⟩)); refine hK2 _ ?_; clear hK2 K2)
    refine sxf_nil (hK' _ ?_)
    refine AW.st (by simp [dNum, dB, dTimes, dStps, h1, h2]; rfl) ?_
    clear hK' K'
    refine AW_cond true rfl (fun _ => ?_) (fun h => by cases h)
    refine AW_rg (tyOf_good _) [6] [3] (fun _ _ => trivial) fun K' hK' => ?_
    repeat (refine sxf_next fun K2 hK2 => ?_; simp [dNum, dB]; (repeat (refine ⟨by omega, ?_⟩)); refine hK2 _ ?_; clear hK2 K2)
    refine sxf_nil (hK' _ ?_)
    refine AW.st (by simp [dNum, dB]; rfl) ?_
    clear hK' K'
    refine AW_ret ?_
    simp [D.le, D.le.go, takeMap, dNum, dB]
  by_cases h3 : (30 : Int) < (a.length : Int) + (r.length : Int)
  · refine PureC.of_body (tyOf_good _) Tryd.func9 rfl rfl (rs := [.tmp 6]) Tryd.results9 (by simp [Tryd.ntmps9]) fun X => ?_
    simp only [Tryd.ntmps9, List.map]
    refine AW_rg (tyOf_good _) [1, 2, 3] [3] (fun _ _ => trivial) fun K' hK' => ?_
    repeat (refine sxf_next fun K2 hK2 => ?_; simp [dNum, dB, dW]; (repeat (refine ⟨by omega, ?_⟩)); refine hK2 _ ?_; clear hK2 K2)
    refine sxf_nil (hK' _ ?_)
    refine AW.st (by simp [dNum, dB, dW]; rfl) ?_
    clear hK' K'
    refine AW_then fun K1 hK1 => ?_
    refine AW_rg (tyOf_good _) [1, 2, 3, 33] [3] (fun _ _ => trivial) fun K' hK' => ?_
    repeat (refine sxf_next fun K2 hK2 => ?_; simp [dNum, dB, dTimes, dStps, h1, h2, h3]; (repeat (refine ⟨by omega, ?_⟩)); refine hK2 _ ?_; clear hK2 K2)
    refine sxf_nil (hK' _ ?_)
    refine AW.st (by simp [dNum, dB, dTimes, dStps, h1, h2, h3]; rfl) ?_
    clear hK' K'
    refine AW_cond true rfl (fun _ => ?_) (fun h => by cases h)
    refine AW_rg (tyOf_good _) [6] [3] (fun _ _ => trivial) fun K' hK' => ?_
    repeat (refine sxf_next fun K2 hK2 => ?_; simp [dNum, dB]; (repeat (refine ⟨by omega, ?_⟩)); refine hK2 _ ?_; clear hK2 K2)
    refine sxf_nil (hK' _ ?_)
    refine AW.st (by simp [dNum, dB]; rfl) ?_
    clear hK' K'
    refine AW_ret ?_
    simp [D.le, D.le.go, takeMap, dNum, dB]
  have hform := formula_spec G l (by omega)
  have hform2 := formula_spec G m (by omega)
  have hnf := names_form l hn
  have hng := names_form m hn2
  have hla := lassoed_spec G hA
  obtain ⟨cf, hcf⟩ := form_ip l
  obtain ⟨cg, hcg⟩ := form_ip m
  generalize formF l = f at hform hnf hcf
  generalize formF m = g at hform2 hng hcg
  have nk : ∀ k, namesOk (.mk k [] [f]) := fun k => by simp [namesOk, namesOkL, hnf]
  have nbig : namesOk (bigF f g) := by simp [bigF, nxt, uF, namesOk, namesOkL, hnf, hng]
  have hR := Right_spec G hA (bigF f g) nbig
  have hC := wcheck_spec G a r hs
  have hn7 : PureC Tryd.prog G 42 [dNum 7, .sl none [[dF (f)], [dF (g)]]] (dF (uF f g)) := node2_spec G 7 (f) (g)
  have hn8 : PureC Tryd.prog G 42 [dNum 8, .sl none [[dF (f)], [dF (g)]]] (dF (rF f g)) := node2_spec G 8 (f) (g)
  have hn9 : PureC Tryd.prog G 42 [dNum 9, .sl none [[dF (f)]]] (dF (eF f)) := node1_spec G 9 (f)
  have hn10 : PureC Tryd.prog G 42 [dNum 10, .sl none [[dF (f)]]] (dF (alF f)) := node1_spec G 10 (f)
  have hb6 : PureC Tryd.prog G 42 [dNum 6, .sl none [[dF (uF f g)]]] (dF (nxt (uF f g))) := node1_spec G 6 (uF f g)
  have hb4 : PureC Tryd.prog G 42 [dNum 4, .sl none [[dF (f)], [dF (nxt (uF f g))]]] (dF (.mk 4 [] [f, nxt (uF f g)])) := node2_spec G 4 (f) (nxt (uF f g))
  have hb5 : PureC Tryd.prog G 42 [dNum 5, .sl none [[dF (g)], [dF (.mk 4 [] [f, nxt (uF f g)])]]] (dF (bigF f g)) := node2_spec G 5 (g) (.mk 4 [] [f, nxt (uF f g)])
  have c1 : PureC Tryd.prog G 42 [dNum 6, .sl none [[dF (rF f g)]]] (dF (nxt (rF f g))) := node1_spec G 6 (rF f g)
  have c2 : PureC Tryd.prog G 42 [dNum 5, .sl none [[dF (f)], [dF (nxt (rF f g))]]] (dF (.mk 5 [] [f, nxt (rF f g)])) := node2_spec G 5 (f) (nxt (rF f g))
  have c3 : PureC Tryd.prog G 42 [dNum 4, .sl none [[dF (g)], [dF (.mk 5 [] [f, nxt (rF f g)])]]] (dF (relF f g)) := node2_spec G 4 (g) (.mk 5 [] [f, nxt (rF f g)])
  have c4 : PureC Tryd.prog G 42 [dNum 6, .sl none [[dF (eF f)]]] (dF (nxt (eF f))) := node1_spec G 6 (eF f)
  have c5 : PureC Tryd.prog G 42 [dNum 5, .sl none [[dF (f)], [dF (nxt (eF f))]]] (dF (evF f)) := node2_spec G 5 (f) (nxt (eF f))
  have c6 : PureC Tryd.prog G 42 [dNum 6, .sl none [[dF (alF f)]]] (dF (nxt (alF f))) := node1_spec G 6 (alF f)
  have c7 : PureC Tryd.prog G 42 [dNum 4, .sl none [[dF (f)], [dF (nxt (alF f))]]] (dF (awF f)) := node2_spec G 4 (f) (nxt (alF f))
  have c8 : PureC Tryd.prog G 42 [dNum 3, .sl none [[dF (f)]]] (dF (notF f)) := node1_spec G 3 (f)
  have c9 : PureC Tryd.prog G 42 [dNum 9, .sl none [[dF (notF f)]]] (dF (eF (notF f))) := node1_spec G 9 (notF f)
  have c10 : PureC Tryd.prog G 42 [dNum 3, .sl none [[dF (eF (notF f))]]] (dF (neF f)) := node1_spec G 3 (eF (notF f))
  obtain ⟨d0, k0⟩ : ∃ c, dF (uF f g) = .ip c := ⟨_, rfl⟩
  obtain ⟨d1, k1⟩ : ∃ c, dF (rF f g) = .ip c := ⟨_, rfl⟩
  obtain ⟨d2, k2⟩ : ∃ c, dF (eF f) = .ip c := ⟨_, rfl⟩
  obtain ⟨d3, k3⟩ : ∃ c, dF (alF f) = .ip c := ⟨_, rfl⟩
  obtain ⟨d4, k4⟩ : ∃ c, dF (nxt (uF f g)) = .ip c := ⟨_, rfl⟩
  obtain ⟨d5, k5⟩ : ∃ c, dF (.mk 4 [] [f, nxt (uF f g)]) = .ip c := ⟨_, rfl⟩
  obtain ⟨d6, k6⟩ : ∃ c, dF (bigF f g) = .ip c := ⟨_, rfl⟩
  obtain ⟨d7, k7⟩ : ∃ c, dF (nxt (rF f g)) = .ip c := ⟨_, rfl⟩
  obtain ⟨d8, k8⟩ : ∃ c, dF (.mk 5 [] [f, nxt (rF f g)]) = .ip c := ⟨_, rfl⟩
  obtain ⟨d9, k9⟩ : ∃ c, dF (relF f g) = .ip c := ⟨_, rfl⟩
  obtain ⟨d10, k10⟩ : ∃ c, dF (nxt (eF f)) = .ip c := ⟨_, rfl⟩
  obtain ⟨d11, k11⟩ : ∃ c, dF (evF f) = .ip c := ⟨_, rfl⟩
  obtain ⟨d12, k12⟩ : ∃ c, dF (nxt (alF f)) = .ip c := ⟨_, rfl⟩
  obtain ⟨d13, k13⟩ : ∃ c, dF (awF f) = .ip c := ⟨_, rfl⟩
  obtain ⟨d14, k14⟩ : ∃ c, dF (notF f) = .ip c := ⟨_, rfl⟩
  obtain ⟨d15, k15⟩ : ∃ c, dF (eF (notF f)) = .ip c := ⟨_, rfl⟩
  obtain ⟨d16, k16⟩ : ∃ c, dF (neF f) = .ip c := ⟨_, rfl⟩
  simp only [hcf, hcg, k0, k1, k2, k3, k4, k5, k6, k7, k8, k9, k10, k11, k12, k13, k14, k15, k16] at hform hform2 hR hn7 hn8 hn9 hn10 hb6 hb4 hb5 c1 c2 c3 c4 c5 c6 c7 c8 c9 c10
  refine PureC.of_body (tyOf_good _) Tryd.func9 rfl rfl (rs := [.tmp 6]) Tryd.results9 (by simp [Tryd.ntmps9]) fun X => ?_
  simp only [Tryd.ntmps9, List.map]
  refine AW_rg (tyOf_good _) [1, 2, 3] [3] (fun _ _ => trivial) fun K' hK' => ?_
  repeat (refine sxf_next fun K2 hK2 => ?_; simp [dNum, dB, dW]; (repeat (refine ⟨by omega, ?_⟩)); refine hK2 _ ?_; clear hK2 K2)
  refine sxf_nil (hK' _ ?_)
  refine AW.st (by simp [dNum, dB, dW]; rfl) ?_
  clear hK' K'
  refine AW_then fun K1 hK1 => ?_
  refine AW_rg (tyOf_good _) [1, 2, 3, 33] [3] (fun _ _ => trivial) fun K' hK' => ?_
  repeat (refine sxf_next fun K2 hK2 => ?_; simp [dNum, dB, dTimes, dStps, h1, h2, h3]; (repeat (refine ⟨by omega, ?_⟩)); refine hK2 _ ?_; clear hK2 K2)
  refine sxf_nil (hK' _ ?_)
  refine AW.st (by simp [dNum, dB, dTimes, dStps, h1, h2, h3]; rfl) ?_
  clear hK' K'
  refine AW_cond false rfl (fun h => by cases h) (fun _ => ?_)
  refine AW_skip (hK1 _ ?_)
  refine AW.imp (Imp.freezeB 3 trivial) ?_
  refine AW.st (by simp [dNum, dB]; rfl) ?_
  refine AW_rg (tyOf_good _) [3, 7, 8] [] (fun _ _ => trivial) fun K' hK' => ?_
  repeat (refine sxf_next fun K2 hK2 => ?_; simp [dNum, dB, dStps, dTimes]; (repeat (refine ⟨by omega, ?_⟩)); refine hK2 _ ?_; clear hK2 K2)
  refine sxf_next fun K2 hK2 => ?_
  simp [dNum, dB, dStps, dTimes]
  refine callK.data (hform) (by simp; rfl) (by first | exact D.leGo_refl _ | simp [takeMap, List.map_map, Function.comp_def, D.le, D.le.go, D.le_refl, D.leGo_refl, dNum, dB, dStps, dTimes]) ?_
  refine hK2 _ ?_
  clear hK2 K2
  simp only [putd, upd_lst]
  repeat (refine sxf_next fun K2 hK2 => ?_; simp [dNum, dB, dStps, dTimes]; (repeat (refine ⟨by omega, ?_⟩)); refine hK2 _ ?_; clear hK2 K2)
  refine sxf_next fun K2 hK2 => ?_
  simp [dNum, dB, dStps, dTimes]
  refine callK.data (hform2) (by simp; rfl) (by first | exact D.leGo_refl _ | simp [takeMap, List.map_map, Function.comp_def, D.le, D.le.go, D.le_refl, D.leGo_refl, dNum, dB, dStps, dTimes]) ?_
  refine hK2 _ ?_
  clear hK2 K2
  simp only [putd, upd_lst]
  repeat (refine sxf_next fun K2 hK2 => ?_; simp [dNum, dB, dStps, dTimes]; (repeat (refine ⟨by omega, ?_⟩)); refine hK2 _ ?_; clear hK2 K2)
  refine sxf_nil (hK' _ ?_)
  refine AW.st (by simp [dNum, dB, dStps, dTimes]; rfl) ?_
  clear hK' K'
  refine AW_rg (tyOf_good _) [3, 7, 8, 9] [] (fun _ _ => trivial) fun K' hK' => ?_
  repeat (refine sxf_next fun K2 hK2 => ?_; simp [dNum, dB]; (repeat (refine ⟨by omega, ?_⟩)); refine hK2 _ ?_; clear hK2 K2)
  refine sxf_nil (hK' _ ?_)
  refine AW.st (by simp [dNum, dB]; rfl) ?_
  clear hK' K'
  refine AW_rg (tyOf_good _) [3, 7, 8, 9, 10] [] (fun _ _ => trivial) fun K' hK' => ?_
  repeat (refine sxf_next fun K2 hK2 => ?_; simp [dNum, dB]; (repeat (refine ⟨by omega, ?_⟩)); refine hK2 _ ?_; clear hK2 K2)
  refine sxf_nil (hK' _ ?_)
  refine AW.st (by simp [dNum, dB]; rfl) ?_
  clear hK' K'
  refine AW_rg (tyOf_good _) [3, 7, 8, 9, 10, 11, 12] [] (fun _ _ => trivial) fun K' hK' => ?_
  repeat (refine sxf_next fun K2 hK2 => ?_; simp [dNum, dB]; (repeat (refine ⟨by omega, ?_⟩)); refine hK2 _ ?_; clear hK2 K2)
  refine sxf_next fun K2 hK2 => ?_
  simp [dNum, dB]
  refine callK.frz 42 (by first | rfl | (simp [dNum, dB]; rfl)) trivial ?_
  simp [dNum, dB]
  refine callK.data (hn7) (by simp; rfl) (by first | exact D.leGo_refl _ | simp [takeMap, List.map_map, Function.comp_def, D.le, D.le.go, D.le_refl, D.leGo_refl, dNum, dB]) ?_
  refine hK2 _ ?_
  clear hK2 K2
  simp only [putd, upd_lst]
  repeat (refine sxf_next fun K2 hK2 => ?_; simp [dNum, dB]; (repeat (refine ⟨by omega, ?_⟩)); refine hK2 _ ?_; clear hK2 K2)
  refine sxf_next fun K2 hK2 => ?_
  simp [dNum, dB]
  refine callK.frz 47 (by first | rfl | (simp [dNum, dB]; rfl)) trivial ?_
  simp [dNum, dB]
  refine callK.data (hn8) (by simp; rfl) (by first | exact D.leGo_refl _ | simp [takeMap, List.map_map, Function.comp_def, D.le, D.le.go, D.le_refl, D.leGo_refl, dNum, dB]) ?_
  refine hK2 _ ?_
  clear hK2 K2
  simp only [putd, upd_lst]
  repeat (refine sxf_next fun K2 hK2 => ?_; simp [dNum, dB]; (repeat (refine ⟨by omega, ?_⟩)); refine hK2 _ ?_; clear hK2 K2)
  refine sxf_nil (hK' _ ?_)
  refine AW.st (by simp [dNum, dB]; rfl) ?_
  clear hK' K'
  refine AW_rg (tyOf_good _) [3, 7, 8, 9, 10, 11, 12, 13, 14] [] (fun _ _ => trivial) fun K' hK' => ?_
  repeat (refine sxf_next fun K2 hK2 => ?_; simp [dNum, dB]; (repeat (refine ⟨by omega, ?_⟩)); refine hK2 _ ?_; clear hK2 K2)
  refine sxf_next fun K2 hK2 => ?_
  simp [dNum, dB]
  refine callK.frz 51 (by first | rfl | (simp [dNum, dB]; rfl)) trivial ?_
  simp [dNum, dB]
  refine callK.data (hn9) (by simp; rfl) (by first | exact D.leGo_refl _ | simp [takeMap, List.map_map, Function.comp_def, D.le, D.le.go, D.le_refl, D.leGo_refl, dNum, dB]) ?_
  refine hK2 _ ?_
  clear hK2 K2
  simp only [putd, upd_lst]
  repeat (refine sxf_next fun K2 hK2 => ?_; simp [dNum, dB]; (repeat (refine ⟨by omega, ?_⟩)); refine hK2 _ ?_; clear hK2 K2)
  refine sxf_next fun K2 hK2 => ?_
  simp [dNum, dB]
  refine callK.frz 55 (by first | rfl | (simp [dNum, dB]; rfl)) trivial ?_
  simp [dNum, dB]
  refine callK.data (hn10) (by simp; rfl) (by first | exact D.leGo_refl _ | simp [takeMap, List.map_map, Function.comp_def, D.le, D.le.go, D.le_refl, D.leGo_refl, dNum, dB]) ?_
  refine hK2 _ ?_
  clear hK2 K2
  simp only [putd, upd_lst]
  repeat (refine sxf_next fun K2 hK2 => ?_; simp [dNum, dB]; (repeat (refine ⟨by omega, ?_⟩)); refine hK2 _ ?_; clear hK2 K2)
  refine sxf_nil (hK' _ ?_)
  refine AW.st (by simp [dNum, dB]; rfl) ?_
  clear hK' K'
  refine AW_then fun K2 hK2 => ?_
  refine AW_rg (tyOf_good _) [3, 7, 8, 9, 10, 11, 12, 13, 14, 58] [] (fun _ _ => trivial) fun K' hK' => ?_
  repeat (refine sxf_next fun K2 hK2 => ?_; simp [dNum, dB]; (repeat (refine ⟨by omega, ?_⟩)); refine hK2 _ ?_; clear hK2 K2)
  refine sxf_next fun K2 hK2 => ?_
  simp [dNum, dB]
  refine callK.data (hla) (by simp; rfl) (by first | exact D.leGo_refl _ | simp [takeMap, List.map_map, Function.comp_def, D.le, D.le.go, D.le_refl, D.leGo_refl, dNum, dB]) ?_
  refine hK2 _ ?_
  clear hK2 K2
  simp only [putd, upd_lst]
  repeat (refine sxf_next fun K2 hK2 => ?_; simp [dNum, dB]; (repeat (refine ⟨by omega, ?_⟩)); refine hK2 _ ?_; clear hK2 K2)
  refine sxf_nil (hK' _ ?_)
  refine AW.st (by simp [dNum, dB]; rfl) ?_
  clear hK' K'
  refine AW_cond false rfl (fun h => by cases h) (fun _ => ?_)
  refine AW_skip (hK2 _ ?_)
  refine AW_rg (tyOf_good _) [3, 7, 8, 9, 10, 11, 12, 13, 14, 15] [] (fun _ _ => trivial) fun K' hK' => ?_
  repeat (refine sxf_next fun K2 hK2 => ?_; simp [dNum, dB]; (repeat (refine ⟨by omega, ?_⟩)); refine hK2 _ ?_; clear hK2 K2)
  refine sxf_next fun K2 hK2 => ?_
  simp [dNum, dB]
  refine callK.frz 65 (by first | rfl | (simp [dNum, dB]; rfl)) trivial ?_
  simp [dNum, dB]
  refine callK.data (hb6) (by simp; rfl) (by first | exact D.leGo_refl _ | simp [takeMap, List.map_map, Function.comp_def, D.le, D.le.go, D.le_refl, D.leGo_refl, dNum, dB]) ?_
  refine hK2 _ ?_
  clear hK2 K2
  simp only [putd, upd_lst]
  repeat (refine sxf_next fun K2 hK2 => ?_; simp [dNum, dB]; (repeat (refine ⟨by omega, ?_⟩)); refine hK2 _ ?_; clear hK2 K2)
  refine sxf_next fun K2 hK2 => ?_
  simp [dNum, dB]
  refine callK.frz 67 (by first | rfl | (simp [dNum, dB]; rfl)) trivial ?_
  simp [dNum, dB]
  refine callK.data (hb4) (by simp; rfl) (by first | exact D.leGo_refl _ | simp [takeMap, List.map_map, Function.comp_def, D.le, D.le.go, D.le_refl, D.leGo_refl, dNum, dB]) ?_
  refine hK2 _ ?_
  clear hK2 K2
  simp only [putd, upd_lst]
  repeat (refine sxf_next fun K2 hK2 => ?_; simp [dNum, dB]; (repeat (refine ⟨by omega, ?_⟩)); refine hK2 _ ?_; clear hK2 K2)
  refine sxf_next fun K2 hK2 => ?_
  simp [dNum, dB]
  refine callK.frz 69 (by first | rfl | (simp [dNum, dB]; rfl)) trivial ?_
  simp [dNum, dB]
  refine callK.data (hb5) (by simp; rfl) (by first | exact D.leGo_refl _ | simp [takeMap, List.map_map, Function.comp_def, D.le, D.le.go, D.le_refl, D.leGo_refl, dNum, dB]) ?_
  refine hK2 _ ?_
  clear hK2 K2
  simp only [putd, upd_lst]
  repeat (refine sxf_next fun K2 hK2 => ?_; simp [dNum, dB]; (repeat (refine ⟨by omega, ?_⟩)); refine hK2 _ ?_; clear hK2 K2)
  refine sxf_nil (hK' _ ?_)
  refine AW.st (by simp [dNum, dB]; rfl) ?_
  clear hK' K'
  refine AW_then fun K3 hK3 => ?_
  by_cases hR0 : rightE (bigF f g) = 0
  · by_cases hw : wordE a r = 0
    · obtain ⟨r1, r2, r3, r4, r5, r6, r7, r8⟩ := grows_right hR0
      have hr0 : 0 < r.length := by
        unfold wordE at hw
        split at hw
        · cases hw
        · omega
      have e0 : errOf 0 = none := rfl
      rw [hR0, e0] at hR
      rw [hw, e0] at hC
      have s1 := same_spec G hA a r hs hw r1 hR0 (by simp [uF, namesOk, namesOkL, hnf, hng]) nbig (grows_until a r hr0 f g)
      have s2 := same_spec G hA a r hs hw r2 r3 (by simp [rF, namesOk, namesOkL, hnf, hng]) (by simp [relF, nxt, rF, namesOk, namesOkL, hnf, hng]) (grows_release a r hr0 f g)
      have s3 := same_spec G hA a r hs hw r4 r5 (by simp [eF, namesOk, namesOkL, hnf]) (by simp [evF, nxt, eF, namesOk, namesOkL, hnf]) (grows_ever a r hr0 f)
      have s4 := same_spec G hA a r hs hw r6 r7 (by simp [alF, namesOk, namesOkL, hnf]) (by simp [awF, nxt, alF, namesOk, namesOkL, hnf]) (grows_always a r hr0 f)
      have s5 := same_spec G hA a r hs hw r6 r8 (by simp [alF, namesOk, namesOkL, hnf]) (by simp [neF, notF, eF, namesOk, namesOkL, hnf]) (grows_never a r hr0 f)
      simp only [k0, k1, k2, k3, k4, k5, k6, k7, k8, k9, k10, k11, k12, k13, k14, k15, k16] at s1 s2 s3 s4 s5
      refine AW_rg (tyOf_good _) [3, 7, 8, 9, 10, 11, 12, 13, 14, 15, 78] [] (fun _ _ => trivial) fun K' hK' => ?_
      repeat (refine sxf_next fun K2 hK2 => ?_; simp [dNum, dB, dW, dErr]; (repeat (refine ⟨by omega, ?_⟩)); refine hK2 _ ?_; clear hK2 K2)
      refine sxf_next fun K2 hK2 => ?_
      simp [dNum, dB, dW, dErr]
      refine callK.data (hR) (by simp; rfl) (by first | exact D.leGo_refl _ | simp [takeMap, List.map_map, Function.comp_def, D.le, D.le.go, D.le_refl, D.leGo_refl, dNum, dB, dW, dErr]) ?_
      refine hK2 _ ?_
      clear hK2 K2
      simp only [putd, upd_lst]
      repeat (refine sxf_next fun K2 hK2 => ?_; simp [dNum, dB, dW, dErr]; (repeat (refine ⟨by omega, ?_⟩)); refine hK2 _ ?_; clear hK2 K2)
      refine sxf_next fun K2 hK2 => ?_
      simp [dNum, dB, dW, dErr]
      refine callK.data (hC) (by simp; rfl) (by first | exact D.leGo_refl _ | simp [takeMap, List.map_map, Function.comp_def, D.le, D.le.go, D.le_refl, D.leGo_refl, dNum, dB, dW, dErr]) ?_
      refine hK2 _ ?_
      clear hK2 K2
      simp only [putd, upd_lst]
      repeat (refine sxf_next fun K2 hK2 => ?_; simp [dNum, dB, dW, dErr]; (repeat (refine ⟨by omega, ?_⟩)); refine hK2 _ ?_; clear hK2 K2)
      refine sxf_nil (hK' _ ?_)
      refine AW.st (by simp [dNum, dB, dW, dErr]; rfl) ?_
      clear hK' K'
      refine AW_cond false rfl (fun h => by cases h) (fun _ => ?_)
      refine AW_skip (hK3 _ ?_)
      refine AW_rg (tyOf_good _) [6] [] (fun _ _ => trivial) fun K' hK' => ?_
      repeat (refine sxf_next fun K2 hK2 => ?_; simp [dNum, dB]; (repeat (refine ⟨by omega, ?_⟩)); refine hK2 _ ?_; clear hK2 K2)
      refine sxf_next fun K2 hK2 => ?_
      simp [dNum, dB]
      refine callK.data (s1) (by simp; rfl) (by first | exact D.leGo_refl _ | simp [takeMap, List.map_map, Function.comp_def, D.le, D.le.go, D.le_refl, D.leGo_refl, dNum, dB]) ?_
      refine hK2 _ ?_
      clear hK2 K2
      simp only [putd, upd_lst]
      repeat (refine sxf_next fun K2 hK2 => ?_; simp [dNum, dB]; (repeat (refine ⟨by omega, ?_⟩)); refine hK2 _ ?_; clear hK2 K2)
      refine sxf_next fun K2 hK2 => ?_
      simp [dNum, dB]
      refine callK.frz 92 (by first | rfl | (simp [dNum, dB]; rfl)) trivial ?_
      simp [dNum, dB]
      refine callK.data (c1) (by simp; rfl) (by first | exact D.leGo_refl _ | simp [takeMap, List.map_map, Function.comp_def, D.le, D.le.go, D.le_refl, D.leGo_refl, dNum, dB]) ?_
      refine hK2 _ ?_
      clear hK2 K2
      simp only [putd, upd_lst]
      repeat (refine sxf_next fun K2 hK2 => ?_; simp [dNum, dB]; (repeat (refine ⟨by omega, ?_⟩)); refine hK2 _ ?_; clear hK2 K2)
      refine sxf_next fun K2 hK2 => ?_
      simp [dNum, dB]
      refine callK.frz 94 (by first | rfl | (simp [dNum, dB]; rfl)) trivial ?_
      simp [dNum, dB]
      refine callK.data (c2) (by simp; rfl) (by first | exact D.leGo_refl _ | simp [takeMap, List.map_map, Function.comp_def, D.le, D.le.go, D.le_refl, D.leGo_refl, dNum, dB]) ?_
      refine hK2 _ ?_
      clear hK2 K2
      simp only [putd, upd_lst]
      repeat (refine sxf_next fun K2 hK2 => ?_; simp [dNum, dB]; (repeat (refine ⟨by omega, ?_⟩)); refine hK2 _ ?_; clear hK2 K2)
      refine sxf_next fun K2 hK2 => ?_
      simp [dNum, dB]
      refine callK.frz 96 (by first | rfl | (simp [dNum, dB]; rfl)) trivial ?_
      simp [dNum, dB]
      refine callK.data (c3) (by simp; rfl) (by first | exact D.leGo_refl _ | simp [takeMap, List.map_map, Function.comp_def, D.le, D.le.go, D.le_refl, D.leGo_refl, dNum, dB]) ?_
      refine hK2 _ ?_
      clear hK2 K2
      simp only [putd, upd_lst]
      repeat (refine sxf_next fun K2 hK2 => ?_; simp [dNum, dB]; (repeat (refine ⟨by omega, ?_⟩)); refine hK2 _ ?_; clear hK2 K2)
      refine sxf_next fun K2 hK2 => ?_
      simp [dNum, dB]
      refine callK.data (s2) (by simp; rfl) (by first | exact D.leGo_refl _ | simp [takeMap, List.map_map, Function.comp_def, D.le, D.le.go, D.le_refl, D.leGo_refl, dNum, dB]) ?_
      refine hK2 _ ?_
      clear hK2 K2
      simp only [putd, upd_lst]
      repeat (refine sxf_next fun K2 hK2 => ?_; simp [dNum, dB]; (repeat (refine ⟨by omega, ?_⟩)); refine hK2 _ ?_; clear hK2 K2)
      refine sxf_next fun K2 hK2 => ?_
      simp [dNum, dB]
      refine callK.frz 107 (by first | rfl | (simp [dNum, dB]; rfl)) trivial ?_
      simp [dNum, dB]
      refine callK.data (c4) (by simp; rfl) (by first | exact D.leGo_refl _ | simp [takeMap, List.map_map, Function.comp_def, D.le, D.le.go, D.le_refl, D.leGo_refl, dNum, dB]) ?_
      refine hK2 _ ?_
      clear hK2 K2
      simp only [putd, upd_lst]
      repeat (refine sxf_next fun K2 hK2 => ?_; simp [dNum, dB]; (repeat (refine ⟨by omega, ?_⟩)); refine hK2 _ ?_; clear hK2 K2)
      refine sxf_next fun K2 hK2 => ?_
      simp [dNum, dB]
      refine callK.frz 109 (by first | rfl | (simp [dNum, dB]; rfl)) trivial ?_
      simp [dNum, dB]
      refine callK.data (c5) (by simp; rfl) (by first | exact D.leGo_refl _ | simp [takeMap, List.map_map, Function.comp_def, D.le, D.le.go, D.le_refl, D.leGo_refl, dNum, dB]) ?_
      refine hK2 _ ?_
      clear hK2 K2
      simp only [putd, upd_lst]
      repeat (refine sxf_next fun K2 hK2 => ?_; simp [dNum, dB]; (repeat (refine ⟨by omega, ?_⟩)); refine hK2 _ ?_; clear hK2 K2)
      refine sxf_next fun K2 hK2 => ?_
      simp [dNum, dB]
      refine callK.data (s3) (by simp; rfl) (by first | exact D.leGo_refl _ | simp [takeMap, List.map_map, Function.comp_def, D.le, D.le.go, D.le_refl, D.leGo_refl, dNum, dB]) ?_
      refine hK2 _ ?_
      clear hK2 K2
      simp only [putd, upd_lst]
      repeat (refine sxf_next fun K2 hK2 => ?_; simp [dNum, dB]; (repeat (refine ⟨by omega, ?_⟩)); refine hK2 _ ?_; clear hK2 K2)
      refine sxf_next fun K2 hK2 => ?_
      simp [dNum, dB]
      refine callK.frz 120 (by first | rfl | (simp [dNum, dB]; rfl)) trivial ?_
      simp [dNum, dB]
      refine callK.data (c6) (by simp; rfl) (by first | exact D.leGo_refl _ | simp [takeMap, List.map_map, Function.comp_def, D.le, D.le.go, D.le_refl, D.leGo_refl, dNum, dB]) ?_
      refine hK2 _ ?_
      clear hK2 K2
      simp only [putd, upd_lst]
      repeat (refine sxf_next fun K2 hK2 => ?_; simp [dNum, dB]; (repeat (refine ⟨by omega, ?_⟩)); refine hK2 _ ?_; clear hK2 K2)
      refine sxf_next fun K2 hK2 => ?_
      simp [dNum, dB]
      refine callK.frz 122 (by first | rfl | (simp [dNum, dB]; rfl)) trivial ?_
      simp [dNum, dB]
      refine callK.data (c7) (by simp; rfl) (by first | exact D.leGo_refl _ | simp [takeMap, List.map_map, Function.comp_def, D.le, D.le.go, D.le_refl, D.leGo_refl, dNum, dB]) ?_
      refine hK2 _ ?_
      clear hK2 K2
      simp only [putd, upd_lst]
      repeat (refine sxf_next fun K2 hK2 => ?_; simp [dNum, dB]; (repeat (refine ⟨by omega, ?_⟩)); refine hK2 _ ?_; clear hK2 K2)
      refine sxf_next fun K2 hK2 => ?_
      simp [dNum, dB]
      refine callK.data (s4) (by simp; rfl) (by first | exact D.leGo_refl _ | simp [takeMap, List.map_map, Function.comp_def, D.le, D.le.go, D.le_refl, D.leGo_refl, dNum, dB]) ?_
      refine hK2 _ ?_
      clear hK2 K2
      simp only [putd, upd_lst]
      repeat (refine sxf_next fun K2 hK2 => ?_; simp [dNum, dB]; (repeat (refine ⟨by omega, ?_⟩)); refine hK2 _ ?_; clear hK2 K2)
      refine sxf_next fun K2 hK2 => ?_
      simp [dNum, dB]
      refine callK.frz 133 (by first | rfl | (simp [dNum, dB]; rfl)) trivial ?_
      simp [dNum, dB]
      refine callK.data (c8) (by simp; rfl) (by first | exact D.leGo_refl _ | simp [takeMap, List.map_map, Function.comp_def, D.le, D.le.go, D.le_refl, D.leGo_refl, dNum, dB]) ?_
      refine hK2 _ ?_
      clear hK2 K2
      simp only [putd, upd_lst]
      repeat (refine sxf_next fun K2 hK2 => ?_; simp [dNum, dB]; (repeat (refine ⟨by omega, ?_⟩)); refine hK2 _ ?_; clear hK2 K2)
      refine sxf_next fun K2 hK2 => ?_
      simp [dNum, dB]
      refine callK.frz 135 (by first | rfl | (simp [dNum, dB]; rfl)) trivial ?_
      simp [dNum, dB]
      refine callK.data (c9) (by simp; rfl) (by first | exact D.leGo_refl _ | simp [takeMap, List.map_map, Function.comp_def, D.le, D.le.go, D.le_refl, D.leGo_refl, dNum, dB]) ?_
      refine hK2 _ ?_
      clear hK2 K2
      simp only [putd, upd_lst]
      repeat (refine sxf_next fun K2 hK2 => ?_; simp [dNum, dB]; (repeat (refine ⟨by omega, ?_⟩)); refine hK2 _ ?_; clear hK2 K2)
      refine sxf_next fun K2 hK2 => ?_
      simp [dNum, dB]
      refine callK.frz 137 (by first | rfl | (simp [dNum, dB]; rfl)) trivial ?_
      simp [dNum, dB]
      refine callK.data (c10) (by simp; rfl) (by first | exact D.leGo_refl _ | simp [takeMap, List.map_map, Function.comp_def, D.le, D.le.go, D.le_refl, D.leGo_refl, dNum, dB]) ?_
      refine hK2 _ ?_
      clear hK2 K2
      simp only [putd, upd_lst]
      repeat (refine sxf_next fun K2 hK2 => ?_; simp [dNum, dB]; (repeat (refine ⟨by omega, ?_⟩)); refine hK2 _ ?_; clear hK2 K2)
      refine sxf_next fun K2 hK2 => ?_
      simp [dNum, dB]
      refine callK.data (s5) (by simp; rfl) (by first | exact D.leGo_refl _ | simp [takeMap, List.map_map, Function.comp_def, D.le, D.le.go, D.le_refl, D.leGo_refl, dNum, dB]) ?_
      refine hK2 _ ?_
      clear hK2 K2
      simp only [putd, upd_lst]
      repeat (refine sxf_next fun K2 hK2 => ?_; simp [dNum, dB]; (repeat (refine ⟨by omega, ?_⟩)); refine hK2 _ ?_; clear hK2 K2)
      refine sxf_nil (hK' _ ?_)
      refine AW.st (by simp [dNum, dB]; rfl) ?_
      clear hK' K'
      refine AW_ret ?_
      simp [D.le, D.le.go, takeMap, dNum, dB]
    · rw [show errOf (rightE (bigF f g)) = none by rw [hR0]; rfl] at hR
      rw [errOf_ne hw] at hC
      refine AW_rg (tyOf_good _) [3, 7, 8, 9, 10, 11, 12, 13, 14, 15, 78] [] (fun _ _ => trivial) fun K' hK' => ?_
      repeat (refine sxf_next fun K2 hK2 => ?_; simp [dNum, dB, dW, dErr]; (repeat (refine ⟨by omega, ?_⟩)); refine hK2 _ ?_; clear hK2 K2)
      refine sxf_next fun K2 hK2 => ?_
      simp [dNum, dB, dW, dErr]
      refine callK.data (hR) (by simp; rfl) (by first | exact D.leGo_refl _ | simp [takeMap, List.map_map, Function.comp_def, D.le, D.le.go, D.le_refl, D.leGo_refl, dNum, dB, dW, dErr]) ?_
      refine hK2 _ ?_
      clear hK2 K2
      simp only [putd, upd_lst]
      repeat (refine sxf_next fun K2 hK2 => ?_; simp [dNum, dB, dW, dErr]; (repeat (refine ⟨by omega, ?_⟩)); refine hK2 _ ?_; clear hK2 K2)
      refine sxf_next fun K2 hK2 => ?_
      simp [dNum, dB, dW, dErr]
      refine callK.data (hC) (by simp; rfl) (by first | exact D.leGo_refl _ | simp [takeMap, List.map_map, Function.comp_def, D.le, D.le.go, D.le_refl, D.leGo_refl, dNum, dB, dW, dErr]) ?_
      refine hK2 _ ?_
      clear hK2 K2
      simp only [putd, upd_lst]
      repeat (refine sxf_next fun K2 hK2 => ?_; simp [dNum, dB, dW, dErr]; (repeat (refine ⟨by omega, ?_⟩)); refine hK2 _ ?_; clear hK2 K2)
      refine sxf_nil (hK' _ ?_)
      refine AW.st (by simp [dNum, dB, dW, dErr]; rfl) ?_
      clear hK' K'
      refine AW_cond true rfl (fun _ => ?_) (fun h => by cases h)
      refine AW_rg (tyOf_good _) [6] [] (fun _ _ => trivial) fun K' hK' => ?_
      repeat (refine sxf_next fun K2 hK2 => ?_; simp [dNum, dB]; (repeat (refine ⟨by omega, ?_⟩)); refine hK2 _ ?_; clear hK2 K2)
      refine sxf_nil (hK' _ ?_)
      refine AW.st (by simp [dNum, dB]; rfl) ?_
      clear hK' K'
      refine AW_ret ?_
      simp [D.le, D.le.go, takeMap, dNum, dB]
  · rw [errOf_ne hR0] at hR
    refine AW_rg (tyOf_good _) [3, 7, 8, 9, 10, 11, 12, 13, 14, 15, 78] [] (fun _ _ => trivial) fun K' hK' => ?_
    repeat (refine sxf_next fun K2 hK2 => ?_; simp [dNum, dB, dW, dErr]; (repeat (refine ⟨by omega, ?_⟩)); refine hK2 _ ?_; clear hK2 K2)
    refine sxf_next fun K2 hK2 => ?_
    simp [dNum, dB, dW, dErr]
    refine callK.data (hR) (by simp; rfl) (by first | exact D.leGo_refl _ | simp [takeMap, List.map_map, Function.comp_def, D.le, D.le.go, D.le_refl, D.leGo_refl, dNum, dB, dW, dErr]) ?_
    refine hK2 _ ?_
    clear hK2 K2
    simp only [putd, upd_lst]
    repeat (refine sxf_next fun K2 hK2 => ?_; simp [dNum, dB, dW, dErr]; (repeat (refine ⟨by omega, ?_⟩)); refine hK2 _ ?_; clear hK2 K2)
    refine sxf_nil (hK' _ ?_)
    refine AW.st (by simp [dNum, dB, dW, dErr]; rfl) ?_
    clear hK' K'
    refine AW_cond true rfl (fun _ => ?_) (fun h => by cases h)
    refine AW_rg (tyOf_good _) [6] [] (fun _ _ => trivial) fun K' hK' => ?_
    repeat (refine sxf_next fun K2 hK2 => ?_; simp [dNum, dB]; (repeat (refine ⟨by omega, ?_⟩)); refine hK2 _ ?_; clear hK2 K2)
    refine sxf_nil (hK' _ ?_)
    refine AW.st (by simp [dNum, dB]; rfl) ?_
    clear hK' K'
    refine AW_ret ?_
    simp [D.le, D.le.go, takeMap, dNum, dB]
#print axioms grows_spec
end Go.Proofs.YtoikggboakojlaaDoor

/-
  Tables, as they are read.
-/
namespace Go.Proofs.YtoikggboakojlaaDoor
set_option linter.unusedSimpArgs false
set_option linter.unusedVariables false
open Go.Av Go.ChangeShapes Go.WideShapes Go.ChangeAt Go.RowKit

theorem law_own : ownKnob Tryd.prog.godebug = none := by kernel_rfl
theorem law_laidOut : laidOutB Tryd.prog = true := by kernel_rfl
theorem cells_int : Tryd.prog.cellsOf 3 = 1 := by kernel_rfl
theorem cells_ints : Tryd.prog.cellsOf 32 = 1 := by kernel_rfl
theorem cells_rows : Tryd.prog.cellsOf 23 = 1 := by kernel_rfl
theorem cells_tab : Tryd.prog.cellsOf 25 = 2 := by kernel_rfl

section
variable {H : Type} {enc : TypeId × Value → H} {w : World} {base : Nat} {spare : Nat → Bool} {held : Bool} {X : Nat → Prop}

theorem reads_ints (hX : ∀ b, ¬ X b) : ReadsAs enc Tryd.prog w base spare held X 32 (fun _ : List Int => True) (fun l => [dRow l]) := by
  intro fuel cs x h
  obtain ⟨l, _, hr⟩ := reads_slice Tryd.underlying32 cells_int (by omega) hX (reads_int Tryd.underlying3) fuel cs x h
  exact ⟨l, trivial, hr⟩
theorem reads_rows (hX : ∀ b, ¬ X b) : ReadsAs enc Tryd.prog w base spare held X 23 (fun _ : List (List Int) => True) (fun l => [dRows l]) := by
  intro fuel cs x h
  obtain ⟨l, _, hr⟩ := reads_slice Tryd.underlying23 cells_ints (by omega) hX (reads_ints hX) fuel cs x h
  exact ⟨l, trivial, hr⟩
theorem reads_tab (hX : ∀ b, ¬ X b) : ReadsAs enc Tryd.prog w base spare held X 25 (fun _ : List (List Int) × List (List Int) => True) (fun s => [dRows s.1, dRows s.2]) := by
  intro fuel cs x h
  obtain ⟨l, _, hr⟩ := reads_struct2 Tryd.underlying25 (by rw [cells_tab]; simp only [cells_rows]) rfl (by simp only [cells_rows]) (reads_rows hX) (reads_rows hX) fuel cs x h
  exact ⟨l, trivial, hr⟩
end

end Go.Proofs.YtoikggboakojlaaDoor

/-
  What is read, and how great it is at most: by what the arguments weigh.
-/
namespace Go.Proofs.YtoikggboakojlaaDoor
set_option linter.unusedSimpArgs false
set_option linter.unusedVariables false
open Go.Av Go.ChangeShapes Go.WideShapes Go.ChangeAt Go.RowKit
section
variable {P : Program} {H : Type} {enc : TypeId × Value → H} {w : World} {base : Nat} {spare : Nat → Bool} {held : Bool} {X : Nat → Prop}
theorem weightsAll_in {e : TypeId} : ∀ {l : List (DataW H)} {d : DataW H}, d ∈ l → ∀ n ∈ d.weights P e, n ∈ DataW.weightsAll P e l
  | [], _, h, _, _ => by cases h
  | d :: l, d', h, n, hn => by
    simp only [DataW.weightsAll, List.mem_append]
    rcases List.mem_cons.1 h with rfl | h
    · exact .inl hn
    · exact .inr (weightsAll_in h n hn)
/-- What is read of type t, if it weighs no more than a program may reach. -/
def ReadsW (enc : TypeId × Value → H) (P : Program) (w : World) (base : Nat) (spare : Nat → Bool) (held : Bool) (X : Nat → Prop) (t : TypeId) {α : Type} (p : α → Prop) (f : α → List D) : Prop :=
  ∀ fuel cs x, DataW.trod enc P w base spare held fuel t cs = some x → (∀ n ∈ x.1.weights P t, n ≤ reachBytes) → ∃ a, p a ∧ CellsRD w X cs (f a)
theorem ReadsAs.weighed {t : TypeId} {α : Type} {p : α → Prop} {f : α → List D} (h : ReadsAs enc P w base spare held X t p f) : ReadsW enc P w base spare held X t p f := fun fuel cs x hx _ => h fuel cs x hx
theorem readsW_string {t : TypeId} (ht : P.underlying t = some .string) : ReadsW enc P w base spare held X t (fun s : List UInt8 => s.length ≤ reachBytes) (fun s => [.v (.string (bs s))]) := by
  intro fuel cs x h hwt
  obtain ⟨s, rfl, rfl, _⟩ := DataW.trod_string ht h
  refine ⟨s.data.toList, hwt _ (by simp [DataW.weights]), .one ?_⟩
  have : bs s.data.toList = s := by cases s; simp [bs]
  rw [this]
  exact .v _
theorem readsW_slice {t e : TypeId} {α : Type} {p : α → Prop} {f : α → List D} {sz : Nat} (ht : P.underlying t = some (.slice e)) (hc : P.cellsOf e = sz) (hz : 0 < sz) (hby : 0 < P.bytesOf e) (hX : ∀ b, ¬ X b) (he : ReadsW enc P w base spare held X e p f) :
    ReadsW enc P w base spare held X t (fun l : List α => (∀ a ∈ l, p a) ∧ l.length ≤ reachBytes) (fun l => [.sl none (l.map f)]) := by
  intro fuel cs x h hwt
  rcases Deep.open_slice ht h with ⟨rfl, _⟩ | ⟨a, len, cap, m, n, DD, PP, rfl, hb, hl, hm, hmm, rfl, hx⟩
  · exact ⟨[], ⟨by simp, by simp⟩, .one (.nil (by simp))⟩
  · have hle : len ≤ m := by rw [hmm]; split <;> omega
    simp only [DataW.weights, ht, List.mem_cons, List.mem_append, List.length_map, List.length_range] at hwt
    have hlr : len ≤ reachBytes := by
      have h1 := hwt _ (.inl rfl)
      have h2 : len * 1 ≤ (len + (m - len)) * P.bytesOf e := Nat.mul_le_mul (by omega) hby
      omega
    have hdw : ∀ i, i < len → ∀ n ∈ (DD i).weights P e, n ≤ reachBytes := fun i hi n hn => hwt n (.inr (.inl (weightsAll_in (List.mem_map.2 ⟨i, List.mem_range.2 hi, rfl⟩) n hn)))
    rcases Nat.eq_zero_or_pos len with rfl | hpos
    · exact ⟨[], ⟨by simp, by simp⟩, .one (.empty (by simp) hm)⟩
    · have hel : ∀ i, i < len → ∃ x, p x ∧ ∃ cs', w.cells? base (a.add (i * P.cellsOf e)) (P.cellsOf e) = some cs' ∧ CellsRD w X cs' (f x) := fun i hi => by
        obtain ⟨cs', h1, h2⟩ := hx i (by omega)
        obtain ⟨x, hp, hr⟩ := he _ _ _ h2 (hdw i hi)
        exact ⟨x, hp, cs', h1, hr⟩
      have : Inhabited α := ⟨(hel 0 hpos).choose⟩
      obtain ⟨g, hg⟩ := Deep.choose_lt hel
      refine ⟨(List.range len).map g, ⟨fun y hy => ?_, by simp; omega⟩, .one ?_⟩
      · obtain ⟨i, hi, rfl⟩ := List.mem_map.1 hy
        exact (hg i (List.mem_range.1 hi)).1
      rw [hc] at hg
      have hcell : ∀ i j, i < len → j < sz → ∃ u, w.cell? ((a.add (i * sz)).add j) = some u ∧ (∀ c, (f (g i))[j]? = some c → RD w X u c) ∧ (f (g i)).length = sz := fun i j hi hj => by
        obtain ⟨_, cs', h1, h2, h3⟩ := hg i hi
        obtain ⟨_, hlen, hcs⟩ := World.cells?_some h1
        refine ⟨cs'[j], by rw [hcs j hj]; simp [hlen, hj], fun c hcc => h3 j _ c (by simp [hlen, hj]) hcc, by omega⟩
      have hspot : a.spot = none := by
        obtain ⟨u, hu, _⟩ := hcell 0 0 hpos hz
        simp only [Nat.zero_mul, Addr.add, if_true] at hu
        exact World.cell?_spot hu
      obtain ⟨b, off, spot⟩ := a
      dsimp only at hspot
      subst hspot
      have hcell : ∀ i j, i < len → j < sz → ∃ u, w.cell? ⟨b, off + (i * sz + j), none⟩ = some u ∧ (∀ c, (f (g i))[j]? = some c → RD w X u c) ∧ (f (g i)).length = sz := fun i j hi hj => by
        have := hcell i j hi hj
        rwa [addr_add, addr_add, Nat.add_assoc] at this
      refine .sl (f := fun i j => (w.cell? ⟨b, off + (i * sz + j), none⟩).getD undef) (by simp) (by simp) hl hm (hX b) (fun el hel => ?_) hz hpos (fun i j hi hj => ?_) (fun i j el c h1 h2 => ?_)
      · obtain ⟨y, hy, rfl⟩ := List.mem_map.1 hel
        obtain ⟨i, hi, rfl⟩ := List.mem_map.1 hy
        exact (hcell i 0 (List.mem_range.1 hi) hz).choose_spec.2.2
      · obtain ⟨u, hu, _⟩ := hcell i j hi hj
        rw [hu]; rfl
      · rw [List.getElem?_map, List.getElem?_map] at h1
        obtain ⟨y, hy, rfl⟩ := Option.map_eq_some_iff.1 h1
        obtain ⟨i', hi', rfl⟩ := Option.map_eq_some_iff.1 hy
        obtain ⟨hlt, rfl⟩ := List.getElem?_eq_some_iff.1 hi'
        rw [List.getElem_range] at h2
        simp only [List.length_range] at hlt
        have hj : j < sz := by
          obtain ⟨_, _, _, h3⟩ := hcell i 0 hlt hz
          rw [← h3]
          exact (List.getElem?_eq_some_iff.1 h2).1
        obtain ⟨u, hu, hr, _⟩ := hcell i j hlt hj
        rw [hu]
        exact hr c h2

theorem readsW_struct2 {t : TypeId} {f0 f1 : Field} {α β : Type} {p : α → Prop} {q : β → Prop} {f : α → List D} {g : β → List D} (ht : P.underlying t = some (.struct #[f0, f1])) (hn : P.cellsOf t = P.cellsOf f0.type + P.cellsOf f1.type) (h0 : f0.offset = 0) (h1 : f1.offset = P.cellsOf f0.type)
    (hf : ReadsW enc P w base spare held X f0.type p f) (hg : ReadsW enc P w base spare held X f1.type q g) : ReadsW enc P w base spare held X t (fun s : α × β => p s.1 ∧ q s.2) (fun s => f s.1 ++ g s.2) := by
  intro fuel cs x h hwt
  obtain ⟨y0, y1, n, hx, hl, t0, t1⟩ := trod_struct2 ht h
  subst hx
  simp only [DataW.weights, ht, DataW.weightsEach, List.map_cons, List.map_nil, List.mem_append, List.append_nil] at hwt
  obtain ⟨a, pa, ca⟩ := hf _ _ _ t0 fun n hn => hwt n (.inl hn)
  obtain ⟨b, pb, cb⟩ := hg _ _ _ t1 fun n hn => hwt n (.inr hn)
  refine ⟨(a, b), ⟨pa, pb⟩, ?_⟩
  have e0 : cs = (cs.drop f0.offset).take (P.cellsOf f0.type) ++ (cs.drop f1.offset).take (P.cellsOf f1.type) := by
    rw [h0, h1, List.drop_zero, List.take_of_length_le (l := List.drop _ _) (by simp; omega), List.take_append_drop]
  rw [e0]
  obtain ⟨la, ra⟩ := ca
  obtain ⟨lb, rb⟩ := cb
  refine ⟨by rw [List.length_append, List.length_append, la, lb], fun j u c hu hc => ?_⟩
  rcases Nat.lt_or_ge j (f a).length with hj | hj
  · rw [List.getElem?_append_left (by omega)] at hu hc
    exact ra j u c hu hc
  · rw [List.getElem?_append_right (by omega)] at hu hc
    rw [la] at hu
    exact rb _ u c hu hc

end
end Go.Proofs.YtoikggboakojlaaDoor

/-
  Words and steps, as they are read, and how great they are at most.
-/
namespace Go.Proofs.YtoikggboakojlaaDoor
set_option linter.unusedSimpArgs false
set_option linter.unusedVariables false
open Go.Av Go.ChangeShapes Go.WideShapes Go.ChangeAt Go.RowKit

theorem cells_str : Tryd.prog.cellsOf 9 = 1 := by kernel_rfl
theorem cells_strs : Tryd.prog.cellsOf 75 = 1 := by kernel_rfl
theorem cells_times : Tryd.prog.cellsOf 68 = 1 := by kernel_rfl
theorem cells_word : Tryd.prog.cellsOf 70 = 2 := by kernel_rfl
theorem cells_step : Tryd.prog.cellsOf 126 = 4 := by kernel_rfl
theorem by_str : 0 < Tryd.prog.bytesOf 9 := by
  have h : Tryd.prog.bytesOf 9 = 16 := by kernel_rfl
  omega
theorem by_strs : 0 < Tryd.prog.bytesOf 75 := by
  have h : Tryd.prog.bytesOf 75 = 24 := by kernel_rfl
  omega
theorem list4 {α : Type} : ∀ {l : List α}, l.length = 4 → ∃ a b c d, l = [a, b, c, d]
  | [a, b, c, d], _ => ⟨a, b, c, d, rfl⟩
theorem by_step : 0 < Tryd.prog.bytesOf 126 := by
  have h : Tryd.prog.bytesOf 126 = 40 := by kernel_rfl
  omega
section
variable {H : Type} {enc : TypeId × Value → H} {w : World} {base : Nat} {spare : Nat → Bool} {held : Bool} {X : Nat → Prop}
theorem readsW_names (hX : ∀ b, ¬ X b) : ReadsW enc Tryd.prog w base spare held X 75 (fun l : List (List UInt8) => (∀ s ∈ l, s.length ≤ reachBytes) ∧ l.length ≤ reachBytes) (fun l => [dNames l]) := readsW_slice Tryd.underlying75 cells_str (by omega) by_str hX (readsW_string Tryd.underlying9)
theorem readsW_times (hX : ∀ b, ¬ X b) : ReadsW enc Tryd.prog w base spare held X 68 (fun l : Times => (∀ t ∈ l, (∀ s ∈ t, s.length ≤ reachBytes) ∧ t.length ≤ reachBytes) ∧ l.length ≤ reachBytes) (fun l => [dTimes l]) := readsW_slice Tryd.underlying68 cells_strs (by omega) by_strs hX (readsW_names hX)
theorem readsW_word (hX : ∀ b, ¬ X b) : ReadsW enc Tryd.prog w base spare held X 70 (fun s : Times × Times => Small s.1 s.2) (fun s => [dTimes s.1, dTimes s.2]) := by
  intro fuel cs x h hwt
  obtain ⟨s, ⟨⟨a1, a2⟩, b1, b2⟩, hr⟩ := readsW_struct2 Tryd.underlying70 (by rw [cells_word]; simp only [cells_times]) rfl (by simp only [cells_times]) (readsW_times hX) (readsW_times hX) fuel cs x h hwt
  have hb : reachBytes < 2^47 := by decide
  refine ⟨s, ⟨by omega, fun t ht => ?_, fun t ht q hq => ?_⟩, hr⟩
  · rcases List.mem_append.1 ht with ht | ht
    · have := (a1 t ht).2; omega
    · have := (b1 t ht).2; omega
  · rcases List.mem_append.1 ht with ht | ht
    · have := (a1 t ht).1 q hq; omega
    · have := (b1 t ht).1 q hq; omega
theorem trod_struct4 {P : Program} {t : TypeId} {f0 f1 f2 f3 : Field} {fuel : Nat} {cs : List Value} {x : DataW H × List MemPlace} (ht : P.underlying t = some (.struct #[f0, f1, f2, f3])) (h : DataW.trod enc P w base spare held fuel t cs = some x) :
    ∃ y0 y1 y2 y3 n, x.1 = .agg [y0.1, y1.1, y2.1, y3.1] ∧ cs.length = P.cellsOf t ∧ DataW.trod enc P w base spare held n f0.type ((cs.drop f0.offset).take (P.cellsOf f0.type)) = some y0 ∧ DataW.trod enc P w base spare held n f1.type ((cs.drop f1.offset).take (P.cellsOf f1.type)) = some y1 ∧
      DataW.trod enc P w base spare held n f2.type ((cs.drop f2.offset).take (P.cellsOf f2.type)) = some y2 ∧ DataW.trod enc P w base spare held n f3.type ((cs.drop f3.offset).take (P.cellsOf f3.type)) = some y3 := by
  obtain ⟨xs, n, _, rfl, hl, hlen, hf⟩ := DataW.trod_struct ht h
  obtain ⟨y0, y1, y2, y3, rfl⟩ := list4 hlen
  exact ⟨y0, y1, y2, y3, n, by simp, hl, by simpa using hf 0 f0 rfl, by simpa using hf 1 f1 rfl, by simpa using hf 2 f2 rfl, by simpa using hf 3 f3 rfl⟩
theorem readsW_step : ReadsW enc Tryd.prog w base spare held X 126 (fun x : Stp => x.name.length ≤ reachBytes) (fun x => [dNum x.kind, dNum x.a, dNum x.b, dS x.name]) := by
  intro fuel cs x h hwt
  obtain ⟨y0, y1, y2, y3, n, hx, hl, t0, t1, t2, t3⟩ := trod_struct4 Tryd.underlying126 h
  rw [cells_step] at hl
  obtain ⟨c0, c1, c2, c3, rfl⟩ := list4 hl
  rw [hx] at hwt
  · simp only [cells_int] at t0 t1 t2
    simp only [cells_str] at t3
    obtain ⟨n0, e0, _, _⟩ := DataW.trod_int Tryd.underlying3 (show DataW.trod enc Tryd.prog w base spare held n 3 [c0] = some y0 from t0)
    obtain ⟨n1, e1, _, _⟩ := DataW.trod_int Tryd.underlying3 (show DataW.trod enc Tryd.prog w base spare held n 3 [c1] = some y1 from t1)
    obtain ⟨n2, e2, _, _⟩ := DataW.trod_int Tryd.underlying3 (show DataW.trod enc Tryd.prog w base spare held n 3 [c2] = some y2 from t2)
    obtain ⟨s, e3, e4, _⟩ := DataW.trod_string Tryd.underlying9 (show DataW.trod enc Tryd.prog w base spare held n 9 [c3] = some y3 from t3)
    simp only [List.cons.injEq, and_true] at e0 e1 e2 e3
    subst e0 e1 e2 e3
    have hb : bs s.data.toList = s := by cases s; simp [bs]
    refine ⟨⟨n0, n1, n2, s.data.toList⟩, hwt _ ?_, rfl, fun j u c hu hc => ?_⟩
    · rw [e4]
      simp [DataW.weights, Tryd.underlying126, DataW.weightsEach]
    · match j, hu, hc with
      | 0, hu, hc => simp at hu hc; subst hu hc; exact .v _
      | 1, hu, hc => simp at hu hc; subst hu hc; exact .v _
      | 2, hu, hc => simp at hu hc; subst hu hc; exact .v _
      | 3, hu, hc => simp [dS, hb] at hu hc; subst hu hc; exact .v _
      | j + 4, hu, hc => simp at hu
theorem readsW_steps (hX : ∀ b, ¬ X b) : ReadsW enc Tryd.prog w base spare held X 71 (fun l : List Stp => (∀ x ∈ l, x.name.length ≤ reachBytes) ∧ l.length ≤ reachBytes) (fun l => [dStps l]) := readsW_slice Tryd.underlying71 cells_step (by omega) by_step hX readsW_step
end
end Go.Proofs.YtoikggboakojlaaDoor

/-
  Package-level variables that are laid: errors.errorType, and lasso's arity.
-/
namespace Go.Proofs.YtoikggboakojlaaDoor
set_option linter.unusedSimpArgs false
set_option linter.unusedVariables false
open Go.Av Go.ChangeShapes Go.WideShapes Go.ChangeAt Go.RowKit

theorem laid_et : Tryd.prog.globalNamed "errors.errorType" = some 1 := by kernel_rfl
theorem laid_rt : (Tryd.prog.cutTypes.find? (·.1 == "internal/reflectlite.rtype")).map (·.2) = some 177 := by kernel_rfl
theorem laid_oneRow : ((List.range (333 - 100)).filter fun t => Tryd.prog.rowNamed t [101, 114, 114, 111, 114]) = [34] := by kernel_rfl
theorem laid_size : Tryd.prog.types.size = 333 - 100 := by kernel_rfl
theorem laid_ar : Tryd.prog.globalNamed "signalcabin/lasso.arity" = some 2 := by kernel_rfl
theorem laid_arT : (Tryd.prog.globals[2]?).map (·.type) = some 170 := by kernel_rfl
theorem cells_ar : Tryd.prog.cellsOf 170 = 11 := by kernel_rfl

def laidE : List (String × DataW Unit) := [("errors.errorType", Rows.laid_errors_errorType)]
def laidA : List (String × DataW Unit) := [("signalcabin/lasso.arity", Rows.laid_signalcabin_lasso_arity)]

theorem handle_of_met {W : World} (h : handlesMet Tryd.prog laidE W) : W.cell? ⟨1, 0, none⟩ = some errType := by
  obtain ⟨name, u, ty, e1, e2, e3, e4, e5⟩ := h _ (List.mem_singleton.2 rfl)
  have en : name = [101, 114, 114, 111, 114] := (Option.some.inj e1).symm
  subst en
  obtain rfl := Option.some.inj (laid_rt.symm.trans e2)
  have hm : ty ∈ (List.range (333 - 100)).filter fun t => Tryd.prog.rowNamed t [101, 114, 114, 111, 114] := List.mem_filter.2 ⟨List.mem_range.2 (by rw [← laid_size]; exact e3), e4⟩
  rw [laid_oneRow] at hm
  obtain rfl := List.mem_singleton.1 hm
  have hh : typeHandle Tryd.prog 34 = .pointer (some ⟨6, 34, none⟩) := by kernel_rfl
  rw [hh] at e5
  simpa [errType] using World.var?_cell laid_et e5 0

theorem laid_ar_lits : (Rows.laid_signalcabin_lasso_arity : DataW Unit) = .agg (arityL.map fun n => .lit (.int .i64 n)) := rfl
theorem arity_of_met {W : World} (h : laidMet Tryd.prog laidA W) : ∀ i n, arityL[i]? = some n → W.cell? ⟨2, i, none⟩ = some (.int .i64 n) := by
  intro i n hin
  obtain ⟨ps, hv, _, _⟩ := h
  obtain ⟨g, t, cs, fuel, p, q, hg, ht, hcs, htr, _, _⟩ := hv
  obtain rfl := Option.some.inj (laid_ar.symm.trans hg)
  obtain rfl := Option.some.inj (laid_arT.symm.trans ht)
  obtain ⟨xs, m, _, hx, hl, hxl, hel⟩ := DataW.trod_array Tryd.underlying170 htr
  have hd : (Rows.laid_signalcabin_lasso_arity : DataW Unit) = .agg (xs.map (·.1)) := congrArg (·.1) hx
  rw [laid_ar_lits, DataW.agg.injEq] at hd
  have hi : i < 11 := (List.getElem?_eq_some_iff.1 hin).1
  have he := hel i hi
  rw [cells_int, Nat.mul_one] at he
  have hxi : i < xs.length := by omega
  rw [List.getElem?_eq_getElem hxi] at he
  obtain ⟨k, e1, e2, _⟩ := DataW.trod_int Tryd.underlying3 he
  have hk := congrArg (fun l => l[i]?) hd
  simp only [List.getElem?_map, hin, List.getElem?_eq_getElem hxi, Option.map_some, e2, Option.some.injEq, DataW.lit.injEq, Lit.int.injEq, true_and] at hk
  subst hk
  have c0 : cs[i]? = some (.int .i64 n) := by
    have h0 : ((cs.toList.drop i).take (Tryd.prog.cellsOf 3))[0]? = some (.int .i64 n) := by rw [cells_int, e1]; rfl
    rw [cells_int] at h0
    simpa using h0
  rw [World.var?_cell laid_ar hcs i]
  exact c0

theorem RD.ints {W : World} {X : Nat → Prop} {g : Nat} {l : List Int} (hX : ∀ b, ¬ X b) (hl : 0 < l.length) (h : ∀ i n, l[i]? = some n → W.cell? ⟨g, i, none⟩ = some (.int .i64 n)) : RD W X (.pointer (some ⟨g, 0, none⟩)) (.ip (l.map dNum)) := by
  refine .ip (f := fun j => .int .i64 (l.getD j 0)) (hX _) (cell_lt (h 0 l[0] (by simp [hl]))) (fun j hj => ?_) fun j c hc => ?_
  · rw [List.length_map] at hj
    have := h j l[j] (by simp [hj])
    simpa [hj] using this
  · rw [List.getElem?_map] at hc
    cases hj : l[j]? with
    | none => rw [hj] at hc; cases hc
    | some n =>
      rw [hj] at hc
      obtain rfl := Option.some.inj hc
      rw [List.getD_eq_getElem?_getD, hj]
      exact .v _
def globEA : Glob := fun g => if g = 1 then some (.ip [.v errType]) else if g = 2 then some (.ip (arityL.map dNum)) else none
theorem globEA_err : HasErr globEA := rfl
theorem globEA_arity : HasArity globEA := rfl
theorem globEA_ok {W : World} (ha : laidMet Tryd.prog laidA W) (he : handlesMet Tryd.prog laidE W) : ∀ g x, globEA g = some x → RD W (fun _ => False) (.pointer (some ⟨g, 0, none⟩)) x := fun g x hx => by
  unfold globEA at hx
  split at hx
  · rename_i hg
    subst hg
    obtain rfl := Option.some.inj hx
    exact RD.cell1 (by simp) (handle_of_met he)
  · split at hx
    · rename_i hg
      subst hg
      obtain rfl := Option.some.inj hx
      exact RD.ints (by simp) (by decide) (arity_of_met ha)
    · cases hx
end Go.Proofs.YtoikggboakojlaaDoor
