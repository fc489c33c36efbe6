/-
  Texts that belong together, in one file: N2, B2, B4, B5, B6, P9, B7.
-/
import Derived.Test.YtblafkekblaibaaDoorLq3
/-
  Texts that may be names: the document's check; the law's walk.
-/
namespace Go.Proofs.YtblafkekblaibaaDoor
set_option linter.unusedSimpArgs false
set_option linter.unusedVariables false
open Go.Av

theorem okAll_succ {l : List UInt8} {i : Nat} (h : okAll l i = true) (hi : i < l.length) (hc : okC i l[i] = true) : okAll l (i + 1) = true := by
  unfold okAll at h ⊢
  rw [List.range_succ, List.all_append, h]
  simp only [List.all_cons, List.all_nil, Bool.and_true, Bool.true_and]
  rw [List.getD_eq_getElem?_getD, List.getElem?_eq_getElem hi]
  exact hc
theorem okAll_fail {l : List UInt8} {i : Nat} (hi : i < l.length) (hc : okC i l[i] = false) : checkNF l = false := by
  have : okAll l l.length = false := by
    unfold okAll
    rw [List.all_eq_false]
    refine ⟨i, List.mem_range.2 hi, ?_⟩
    rw [List.getD_eq_getElem?_getD, List.getElem?_eq_getElem hi]
    simp [hc]
  unfold checkNF
  rw [this]
  rfl
theorem word_fail {l : List UInt8} (h : (([] :: wordsL).any fun x => l == x) = true) : checkNF l = false := by
  unfold checkNF
  rw [h]
  simp
theorem word_pass {l : List UInt8} (h : okAll l l.length = true) (hw : (([] :: wordsL).any fun x => l == x) = false) : decide ((l.length : Int) ≤ 8) = checkNF l := by
  unfold checkNF
  rw [h, hw]
  simp only [Bool.not_false, Bool.true_and]
  by_cases h8 : l.length ≤ 8
  · simp [h8]; omega
  · simp [h8]; omega
theorem toW (l : List UInt8) : (⟨l.toArray⟩ : ByteArray) = bs l := rfl

set_option maxHeartbeats 8000000 in
theorem ncheck_spec (G : Glob) (l : List UInt8) (hl : l.length < 2^60) : PureC Tryd.prog G 52 [dS l] (.v (.bool (checkNF l))) := by
  refine PureC.of_body (tyOf_good _) Tryd.func52 rfl rfl (rs := [.tmp 2]) Tryd.results52 (by simp [Tryd.ntmps52]) fun X => ?_
  simp only [Tryd.ntmps52, List.map]
  refine AW_rg (tyOf_good _) [0] [] (fun _ _ => trivial) fun K' hK' => ?_
  repeat (refine sxf_next fun K2 hK2 => ?_; simp [dS]; (repeat (refine ⟨by omega, ?_⟩)); refine hK2 _ ?_; clear hK2 K2)
  refine sxf_nil (hK' _ ?_)
  refine AW.st (by simp [dS]; rfl) ?_
  clear hK' K'
  refine AW_then fun K1 hK1 => ?_
  refine AW_rg (tyOf_good _) [0, 7, 8] [] (fun _ _ => trivial) fun K' hK' => ?_
  repeat (refine sxf_next fun K2 hK2 => ?_; simp [bs_size]; (repeat (refine ⟨by omega, ?_⟩)); refine hK2 _ ?_; clear hK2 K2)
  refine sxf_nil (hK' _ ?_)
  refine AW.st (by simp [bs_size]; rfl) ?_
  clear hK' K'
  refine AW_for (S := Nat) (fun i => i ≤ l.length ∧ okAll l i = true) (fun i => ⟨lst [(0, .d (dS l)), (7, int l.length), (8, int i)], hlst []⟩) (fun i => l.length - i) 0 ?_ (by simp [okAll]) ?_
  · refine Imp.to' (fun _ _ => trivial) (by simp [dS]) (by simp [dS])
  · rintro i ⟨hi0, hok⟩
    refine AW_rg (tyOf_good _) [0, 7, 8, 9] [] (fun _ _ => trivial) fun K' hK' => ?_
    repeat (refine sxf_next fun K2 hK2 => ?_; simp [dS]; (repeat (refine ⟨by omega, ?_⟩)); refine hK2 _ ?_; clear hK2 K2)
    refine sxf_nil (hK' _ ?_)
    refine AW.st (by simp [dS]; rfl) ?_
    clear hK' K'
    refine AW_then fun K2 hK2 => ?_
    refine AW_cond' (b := i < l.length) (by simp [D.le, D.le.go, takeMap]) (fun hc => ?_) (fun hc => ?_)
    · have hi : i < l.length := hc
      refine AW_skip (hK2 _ ?_)
      refine AW_then fun K3 hK3 => ?_
      refine AW_block ?_
      refine AW_rg (tyOf_good _) [0, 3, 7, 8] [] (fun _ _ => trivial) fun K' hK' => ?_
      repeat (refine sxf_next fun K2 hK2 => ?_; simp; (repeat (refine ⟨by omega, ?_⟩)); refine hK2 _ ?_; clear hK2 K2)
      refine sxf_nil (hK' _ ?_)
      refine AW.st (by simp; rfl) ?_
      clear hK' K'
      refine AW_rg (tyOf_good _) [0, 3, 4, 7, 8] [] (fun _ _ => trivial) fun K' hK' => ?_
      repeat (refine sxf_next fun K2 hK2 => ?_; simp [bs_size, bs_data, hi]; (repeat (refine ⟨by omega, ?_⟩)); refine hK2 _ ?_; clear hK2 K2)
      refine sxf_nil (hK' _ ?_)
      refine AW.st (by simp [bs_size, bs_data, hi]; rfl) ?_
      clear hK' K'
      by_cases ha : (97 : Int) ≤ (l[i].toNat : Int)
      · by_cases hb : (l[i].toNat : Int) ≤ 122
        · refine AW_rg (tyOf_good _) [0, 3, 4, 5, 7, 8] [] (fun _ _ => trivial) fun K' hK' => ?_
          repeat (refine sxf_next fun K2 hK2 => ?_; simp [ha, hb]; (repeat (refine ⟨by omega, ?_⟩)); refine hK2 _ ?_; clear hK2 K2)
          refine sxf_nil (hK' _ ?_)
          refine AW.st (by simp [ha, hb]; rfl) ?_
          clear hK' K'
          refine AW_rg (tyOf_good _) [0, 7, 8, 38] [] (fun _ _ => trivial) fun K' hK' => ?_
          repeat (refine sxf_next fun K2 hK2 => ?_; simp [ha, hb]; (repeat (refine ⟨by omega, ?_⟩)); refine hK2 _ ?_; clear hK2 K2)
          refine sxf_nil (hK' _ ?_)
          refine AW.st (by simp [ha, hb]; rfl) ?_
          clear hK' K'
          refine AW_cond false rfl (fun h => by cases h) (fun _ => ?_)
          refine AW_skip (hK3 _ ?_)
          refine AW_re (tyOf_good _) fun K' hK' => ?_
          repeat (refine sxf_next fun K2 hK2 => ?_; simp; (repeat (refine ⟨by omega, ?_⟩)); refine hK2 _ ?_; clear hK2 K2)
          refine sxf_nil (hK' _ ?_)
          clear hK' K'
          try simp only [thn, inb]
          refine Again.mk (i + 1) ⟨by omega, okAll_succ hok hi (by simp only [okC, lowC, restC, Bool.or_eq_true, Bool.and_eq_true, decide_eq_true_eq]; omega)⟩ (by omega) ?_
          refine Imp.to' (fun _ _ => trivial) (by simp [dS]) (by simp [dS])
        · by_cases hz : (i : Int) = 0
          · have hz' : i = 0 := by omega
            subst hz'
            refine AW_rg (tyOf_good _) [0, 3, 4, 5, 7, 8] [] (fun _ _ => trivial) fun K' hK' => ?_
            repeat (refine sxf_next fun K2 hK2 => ?_; simp [ha, hb]; (repeat (refine ⟨by omega, ?_⟩)); refine hK2 _ ?_; clear hK2 K2)
            refine sxf_nil (hK' _ ?_)
            refine AW.st (by simp [ha, hb]; rfl) ?_
            clear hK' K'
            refine AW_rg (tyOf_good _) [0, 7, 8, 38] [] (fun _ _ => trivial) fun K' hK' => ?_
            repeat (refine sxf_next fun K2 hK2 => ?_; simp [ha, hb]; (repeat (refine ⟨by omega, ?_⟩)); refine hK2 _ ?_; clear hK2 K2)
            refine sxf_nil (hK' _ ?_)
            refine AW.st (by simp [ha, hb]; rfl) ?_
            clear hK' K'
            refine AW_cond true rfl (fun _ => ?_) (fun h => by cases h)
            refine AW_rg (tyOf_good _) [2] [] (fun _ _ => trivial) fun K' hK' => ?_
            repeat (refine sxf_next fun K2 hK2 => ?_; simp; (repeat (refine ⟨by omega, ?_⟩)); refine hK2 _ ?_; clear hK2 K2)
            refine sxf_nil (hK' _ ?_)
            refine AW.st (by simp; rfl) ?_
            clear hK' K'
            refine AW_ret ?_
            simp [D.le, D.le.go, takeMap]
            exact okAll_fail hi (by simp only [okC, lowC, restC, Bool.or_eq_false_iff, Bool.and_eq_false_iff, decide_eq_false_iff_not]; omega)
          · have hz' : ¬ i = 0 := by omega
            by_cases hd : (48 : Int) ≤ (l[i].toNat : Int)
            · by_cases he : (l[i].toNat : Int) ≤ 57
              · refine AW_rg (tyOf_good _) [0, 3, 4, 5, 7, 8] [] (fun _ _ => trivial) fun K' hK' => ?_
                repeat (refine sxf_next fun K2 hK2 => ?_; simp [ha, hb, hz, hz', hd, he]; (repeat (refine ⟨by omega, ?_⟩)); refine hK2 _ ?_; clear hK2 K2)
                refine sxf_nil (hK' _ ?_)
                refine AW.st (by simp [ha, hb, hz, hz', hd, he]; rfl) ?_
                clear hK' K'
                refine AW_rg (tyOf_good _) [0, 7, 8, 38] [] (fun _ _ => trivial) fun K' hK' => ?_
                repeat (refine sxf_next fun K2 hK2 => ?_; simp [ha, hb, hz, hz', hd, he]; (repeat (refine ⟨by omega, ?_⟩)); refine hK2 _ ?_; clear hK2 K2)
                refine sxf_nil (hK' _ ?_)
                refine AW.st (by simp [ha, hb, hz, hz', hd, he]; rfl) ?_
                clear hK' K'
                refine AW_cond false rfl (fun h => by cases h) (fun _ => ?_)
                refine AW_skip (hK3 _ ?_)
                refine AW_re (tyOf_good _) fun K' hK' => ?_
                repeat (refine sxf_next fun K2 hK2 => ?_; simp; (repeat (refine ⟨by omega, ?_⟩)); refine hK2 _ ?_; clear hK2 K2)
                refine sxf_nil (hK' _ ?_)
                clear hK' K'
                try simp only [thn, inb]
                refine Again.mk (i + 1) ⟨by omega, okAll_succ hok hi (by simp only [okC, lowC, restC, Bool.or_eq_true, Bool.and_eq_true, decide_eq_true_eq]; omega)⟩ (by omega) ?_
                refine Imp.to' (fun _ _ => trivial) (by simp [dS]) (by simp [dS])
              · by_cases hu : (l[i].toNat : Int) = 95
                · refine AW_rg (tyOf_good _) [0, 3, 4, 5, 7, 8] [] (fun _ _ => trivial) fun K' hK' => ?_
                  repeat (refine sxf_next fun K2 hK2 => ?_; simp [ha, hb, hz, hz', hd, he, hu]; (repeat (refine ⟨by omega, ?_⟩)); refine hK2 _ ?_; clear hK2 K2)
                  refine sxf_nil (hK' _ ?_)
                  refine AW.st (by simp [ha, hb, hz, hz', hd, he, hu]; rfl) ?_
                  clear hK' K'
                  refine AW_rg (tyOf_good _) [0, 7, 8, 38] [] (fun _ _ => trivial) fun K' hK' => ?_
                  repeat (refine sxf_next fun K2 hK2 => ?_; simp [ha, hb, hz, hz', hd, he, hu]; (repeat (refine ⟨by omega, ?_⟩)); refine hK2 _ ?_; clear hK2 K2)
                  refine sxf_nil (hK' _ ?_)
                  refine AW.st (by simp [ha, hb, hz, hz', hd, he, hu]; rfl) ?_
                  clear hK' K'
                  refine AW_cond false rfl (fun h => by cases h) (fun _ => ?_)
                  refine AW_skip (hK3 _ ?_)
                  refine AW_re (tyOf_good _) fun K' hK' => ?_
                  repeat (refine sxf_next fun K2 hK2 => ?_; simp; (repeat (refine ⟨by omega, ?_⟩)); refine hK2 _ ?_; clear hK2 K2)
                  refine sxf_nil (hK' _ ?_)
                  clear hK' K'
                  try simp only [thn, inb]
                  refine Again.mk (i + 1) ⟨by omega, okAll_succ hok hi (by simp only [okC, lowC, restC, Bool.or_eq_true, Bool.and_eq_true, decide_eq_true_eq]; omega)⟩ (by omega) ?_
                  refine Imp.to' (fun _ _ => trivial) (by simp [dS]) (by simp [dS])
                · refine AW_rg (tyOf_good _) [0, 3, 4, 5, 7, 8] [] (fun _ _ => trivial) fun K' hK' => ?_
                  repeat (refine sxf_next fun K2 hK2 => ?_; simp [ha, hb, hz, hz', hd, he, hu]; (repeat (refine ⟨by omega, ?_⟩)); refine hK2 _ ?_; clear hK2 K2)
                  refine sxf_nil (hK' _ ?_)
                  refine AW.st (by simp [ha, hb, hz, hz', hd, he, hu]; rfl) ?_
                  clear hK' K'
                  refine AW_rg (tyOf_good _) [0, 7, 8, 38] [] (fun _ _ => trivial) fun K' hK' => ?_
                  repeat (refine sxf_next fun K2 hK2 => ?_; simp [ha, hb, hz, hz', hd, he, hu]; (repeat (refine ⟨by omega, ?_⟩)); refine hK2 _ ?_; clear hK2 K2)
                  refine sxf_nil (hK' _ ?_)
                  refine AW.st (by simp [ha, hb, hz, hz', hd, he, hu]; rfl) ?_
                  clear hK' K'
                  refine AW_cond true rfl (fun _ => ?_) (fun h => by cases h)
                  refine AW_rg (tyOf_good _) [2] [] (fun _ _ => trivial) fun K' hK' => ?_
                  repeat (refine sxf_next fun K2 hK2 => ?_; simp; (repeat (refine ⟨by omega, ?_⟩)); refine hK2 _ ?_; clear hK2 K2)
                  refine sxf_nil (hK' _ ?_)
                  refine AW.st (by simp; rfl) ?_
                  clear hK' K'
                  refine AW_ret ?_
                  simp [D.le, D.le.go, takeMap]
                  exact okAll_fail hi (by simp only [okC, lowC, restC, Bool.or_eq_false_iff, Bool.and_eq_false_iff, decide_eq_false_iff_not]; omega)
            · have hu : ¬ (l[i].toNat : Int) = 95 := by omega
              refine AW_rg (tyOf_good _) [0, 3, 4, 5, 7, 8] [] (fun _ _ => trivial) fun K' hK' => ?_
              repeat (refine sxf_next fun K2 hK2 => ?_; simp [ha, hb, hz, hz', hd, hu]; (repeat (refine ⟨by omega, ?_⟩)); refine hK2 _ ?_; clear hK2 K2)
              refine sxf_nil (hK' _ ?_)
              refine AW.st (by simp [ha, hb, hz, hz', hd, hu]; rfl) ?_
              clear hK' K'
              refine AW_rg (tyOf_good _) [0, 7, 8, 38] [] (fun _ _ => trivial) fun K' hK' => ?_
              repeat (refine sxf_next fun K2 hK2 => ?_; simp [ha, hb, hz, hz', hd, hu]; (repeat (refine ⟨by omega, ?_⟩)); refine hK2 _ ?_; clear hK2 K2)
              refine sxf_nil (hK' _ ?_)
              refine AW.st (by simp [ha, hb, hz, hz', hd, hu]; rfl) ?_
              clear hK' K'
              refine AW_cond true rfl (fun _ => ?_) (fun h => by cases h)
              refine AW_rg (tyOf_good _) [2] [] (fun _ _ => trivial) fun K' hK' => ?_
              repeat (refine sxf_next fun K2 hK2 => ?_; simp; (repeat (refine ⟨by omega, ?_⟩)); refine hK2 _ ?_; clear hK2 K2)
              refine sxf_nil (hK' _ ?_)
              refine AW.st (by simp; rfl) ?_
              clear hK' K'
              refine AW_ret ?_
              simp [D.le, D.le.go, takeMap]
              exact okAll_fail hi (by simp only [okC, lowC, restC, Bool.or_eq_false_iff, Bool.and_eq_false_iff, decide_eq_false_iff_not]; omega)
      · by_cases hz : (i : Int) = 0
        · have hz' : i = 0 := by omega
          subst hz'
          refine AW_rg (tyOf_good _) [0, 3, 4, 5, 7, 8] [] (fun _ _ => trivial) fun K' hK' => ?_
          repeat (refine sxf_next fun K2 hK2 => ?_; simp [ha]; (repeat (refine ⟨by omega, ?_⟩)); refine hK2 _ ?_; clear hK2 K2)
          refine sxf_nil (hK' _ ?_)
          refine AW.st (by simp [ha]; rfl) ?_
          clear hK' K'
          refine AW_rg (tyOf_good _) [0, 7, 8, 38] [] (fun _ _ => trivial) fun K' hK' => ?_
          repeat (refine sxf_next fun K2 hK2 => ?_; simp [ha]; (repeat (refine ⟨by omega, ?_⟩)); refine hK2 _ ?_; clear hK2 K2)
          refine sxf_nil (hK' _ ?_)
          refine AW.st (by simp [ha]; rfl) ?_
          clear hK' K'
          refine AW_cond true rfl (fun _ => ?_) (fun h => by cases h)
          refine AW_rg (tyOf_good _) [2] [] (fun _ _ => trivial) fun K' hK' => ?_
          repeat (refine sxf_next fun K2 hK2 => ?_; simp; (repeat (refine ⟨by omega, ?_⟩)); refine hK2 _ ?_; clear hK2 K2)
          refine sxf_nil (hK' _ ?_)
          refine AW.st (by simp; rfl) ?_
          clear hK' K'
          refine AW_ret ?_
          simp [D.le, D.le.go, takeMap]
          exact okAll_fail hi (by simp only [okC, lowC, restC, Bool.or_eq_false_iff, Bool.and_eq_false_iff, decide_eq_false_iff_not]; omega)
        · have hz' : ¬ i = 0 := by omega
          by_cases hd : (48 : Int) ≤ (l[i].toNat : Int)
          · by_cases he : (l[i].toNat : Int) ≤ 57
            · refine AW_rg (tyOf_good _) [0, 3, 4, 5, 7, 8] [] (fun _ _ => trivial) fun K' hK' => ?_
              repeat (refine sxf_next fun K2 hK2 => ?_; simp [ha, hz, hz', hd, he]; (repeat (refine ⟨by omega, ?_⟩)); refine hK2 _ ?_; clear hK2 K2)
              refine sxf_nil (hK' _ ?_)
              refine AW.st (by simp [ha, hz, hz', hd, he]; rfl) ?_
              clear hK' K'
              refine AW_rg (tyOf_good _) [0, 7, 8, 38] [] (fun _ _ => trivial) fun K' hK' => ?_
              repeat (refine sxf_next fun K2 hK2 => ?_; simp [ha, hz, hz', hd, he]; (repeat (refine ⟨by omega, ?_⟩)); refine hK2 _ ?_; clear hK2 K2)
              refine sxf_nil (hK' _ ?_)
              refine AW.st (by simp [ha, hz, hz', hd, he]; rfl) ?_
              clear hK' K'
              refine AW_cond false rfl (fun h => by cases h) (fun _ => ?_)
              refine AW_skip (hK3 _ ?_)
              refine AW_re (tyOf_good _) fun K' hK' => ?_
              repeat (refine sxf_next fun K2 hK2 => ?_; simp; (repeat (refine ⟨by omega, ?_⟩)); refine hK2 _ ?_; clear hK2 K2)
              refine sxf_nil (hK' _ ?_)
              clear hK' K'
              try simp only [thn, inb]
              refine Again.mk (i + 1) ⟨by omega, okAll_succ hok hi (by simp only [okC, lowC, restC, Bool.or_eq_true, Bool.and_eq_true, decide_eq_true_eq]; omega)⟩ (by omega) ?_
              refine Imp.to' (fun _ _ => trivial) (by simp [dS]) (by simp [dS])
            · by_cases hu : (l[i].toNat : Int) = 95
              · refine AW_rg (tyOf_good _) [0, 3, 4, 5, 7, 8] [] (fun _ _ => trivial) fun K' hK' => ?_
                repeat (refine sxf_next fun K2 hK2 => ?_; simp [ha, hz, hz', hd, he, hu]; (repeat (refine ⟨by omega, ?_⟩)); refine hK2 _ ?_; clear hK2 K2)
                refine sxf_nil (hK' _ ?_)
                refine AW.st (by simp [ha, hz, hz', hd, he, hu]; rfl) ?_
                clear hK' K'
                refine AW_rg (tyOf_good _) [0, 7, 8, 38] [] (fun _ _ => trivial) fun K' hK' => ?_
                repeat (refine sxf_next fun K2 hK2 => ?_; simp [ha, hz, hz', hd, he, hu]; (repeat (refine ⟨by omega, ?_⟩)); refine hK2 _ ?_; clear hK2 K2)
                refine sxf_nil (hK' _ ?_)
                refine AW.st (by simp [ha, hz, hz', hd, he, hu]; rfl) ?_
                clear hK' K'
                refine AW_cond false rfl (fun h => by cases h) (fun _ => ?_)
                refine AW_skip (hK3 _ ?_)
                refine AW_re (tyOf_good _) fun K' hK' => ?_
                repeat (refine sxf_next fun K2 hK2 => ?_; simp; (repeat (refine ⟨by omega, ?_⟩)); refine hK2 _ ?_; clear hK2 K2)
                refine sxf_nil (hK' _ ?_)
                clear hK' K'
                try simp only [thn, inb]
                refine Again.mk (i + 1) ⟨by omega, okAll_succ hok hi (by simp only [okC, lowC, restC, Bool.or_eq_true, Bool.and_eq_true, decide_eq_true_eq]; omega)⟩ (by omega) ?_
                refine Imp.to' (fun _ _ => trivial) (by simp [dS]) (by simp [dS])
              · refine AW_rg (tyOf_good _) [0, 3, 4, 5, 7, 8] [] (fun _ _ => trivial) fun K' hK' => ?_
                repeat (refine sxf_next fun K2 hK2 => ?_; simp [ha, hz, hz', hd, he, hu]; (repeat (refine ⟨by omega, ?_⟩)); refine hK2 _ ?_; clear hK2 K2)
                refine sxf_nil (hK' _ ?_)
                refine AW.st (by simp [ha, hz, hz', hd, he, hu]; rfl) ?_
                clear hK' K'
                refine AW_rg (tyOf_good _) [0, 7, 8, 38] [] (fun _ _ => trivial) fun K' hK' => ?_
                repeat (refine sxf_next fun K2 hK2 => ?_; simp [ha, hz, hz', hd, he, hu]; (repeat (refine ⟨by omega, ?_⟩)); refine hK2 _ ?_; clear hK2 K2)
                refine sxf_nil (hK' _ ?_)
                refine AW.st (by simp [ha, hz, hz', hd, he, hu]; rfl) ?_
                clear hK' K'
                refine AW_cond true rfl (fun _ => ?_) (fun h => by cases h)
                refine AW_rg (tyOf_good _) [2] [] (fun _ _ => trivial) fun K' hK' => ?_
                repeat (refine sxf_next fun K2 hK2 => ?_; simp; (repeat (refine ⟨by omega, ?_⟩)); refine hK2 _ ?_; clear hK2 K2)
                refine sxf_nil (hK' _ ?_)
                refine AW.st (by simp; rfl) ?_
                clear hK' K'
                refine AW_ret ?_
                simp [D.le, D.le.go, takeMap]
                exact okAll_fail hi (by simp only [okC, lowC, restC, Bool.or_eq_false_iff, Bool.and_eq_false_iff, decide_eq_false_iff_not]; omega)
          · have hu : ¬ (l[i].toNat : Int) = 95 := by omega
            refine AW_rg (tyOf_good _) [0, 3, 4, 5, 7, 8] [] (fun _ _ => trivial) fun K' hK' => ?_
            repeat (refine sxf_next fun K2 hK2 => ?_; simp [ha, hz, hz', hd, hu]; (repeat (refine ⟨by omega, ?_⟩)); refine hK2 _ ?_; clear hK2 K2)
            refine sxf_nil (hK' _ ?_)
            refine AW.st (by simp [ha, hz, hz', hd, hu]; rfl) ?_
            clear hK' K'
            refine AW_rg (tyOf_good _) [0, 7, 8, 38] [] (fun _ _ => trivial) fun K' hK' => ?_
            repeat (refine sxf_next fun K2 hK2 => ?_; simp [ha, hz, hz', hd, hu]; (repeat (refine ⟨by omega, ?_⟩)); refine hK2 _ ?_; clear hK2 K2)
            refine sxf_nil (hK' _ ?_)
            refine AW.st (by simp [ha, hz, hz', hd, hu]; rfl) ?_
            clear hK' K'
            refine AW_cond true rfl (fun _ => ?_) (fun h => by cases h)
            refine AW_rg (tyOf_good _) [2] [] (fun _ _ => trivial) fun K' hK' => ?_
            repeat (refine sxf_next fun K2 hK2 => ?_; simp; (repeat (refine ⟨by omega, ?_⟩)); refine hK2 _ ?_; clear hK2 K2)
            refine sxf_nil (hK' _ ?_)
            refine AW.st (by simp; rfl) ?_
            clear hK' K'
            refine AW_ret ?_
            simp [D.le, D.le.go, takeMap]
            exact okAll_fail hi (by simp only [okC, lowC, restC, Bool.or_eq_false_iff, Bool.and_eq_false_iff, decide_eq_false_iff_not]; omega)
    · have hil : i = l.length := by omega
      subst hil
      refine AW_exit (hK1 _ ?_)
      refine AW_then fun K4 hK4 => ?_
      refine AW_rg (tyOf_good _) [0, 40] [] (fun _ _ => trivial) fun K' hK' => ?_
      repeat (refine sxf_next fun K2 hK2 => ?_; simp; (repeat (refine ⟨by omega, ?_⟩)); refine hK2 _ ?_; clear hK2 K2)
      refine sxf_nil (hK' _ ?_)
      refine AW.st (by simp; rfl) ?_
      clear hK' K'
      refine AW_block ?_
      refine AW_then fun K5 hK5 => ?_
      by_cases hw0 : l = []
      · refine AW_rg (tyOf_good _) [0, 40, 41] [] (fun _ _ => trivial) fun K' hK' => ?_
        repeat (refine sxf_next fun K2 hK2 => ?_; simp [bs_nil, bs_list, binS, dS, toW, hw0]; (repeat (refine ⟨by omega, ?_⟩)); refine hK2 _ ?_; clear hK2 K2)
        refine sxf_nil (hK' _ ?_)
        refine AW.st (by simp [bs_nil, bs_list, binS, dS, toW, hw0]; rfl) ?_
        clear hK' K'
        refine AW_cond true rfl (fun _ => ?_) (fun h => by cases h)
        refine AW_skip (hK5 _ ?_)
        refine AW_cond true rfl (fun _ => ?_) (fun h => by cases h)
        refine AW_rg (tyOf_good _) [2] [] (fun _ _ => trivial) fun K' hK' => ?_
        repeat (refine sxf_next fun K2 hK2 => ?_; simp; (repeat (refine ⟨by omega, ?_⟩)); refine hK2 _ ?_; clear hK2 K2)
        refine sxf_nil (hK' _ ?_)
        refine AW.st (by simp; rfl) ?_
        clear hK' K'
        refine AW_ret ?_
        simp [D.le, D.le.go, takeMap]
        exact word_fail (by simp [hw0, wordsL])
      have hx0 : l.isEmpty = false := by simpa using hw0
      refine AW_rg (tyOf_good _) [0, 40, 41] [] (fun _ _ => trivial) fun K' hK' => ?_
      repeat (refine sxf_next fun K2 hK2 => ?_; simp [bs_nil, bs_list, binS, dS, toW, hw0, hx0]; (repeat (refine ⟨by omega, ?_⟩)); refine hK2 _ ?_; clear hK2 K2)
      refine sxf_nil (hK' _ ?_)
      refine AW.st (by simp [bs_nil, bs_list, binS, dS, toW, hw0, hx0]; rfl) ?_
      clear hK' K'
      refine AW_cond false rfl (fun h => by cases h) (fun _ => ?_)
      by_cases hw1 : l = [105, 110, 112, 117, 116]
      · refine AW_rg (tyOf_good _) [0, 40, 41] [] (fun _ _ => trivial) fun K' hK' => ?_
        repeat (refine sxf_next fun K2 hK2 => ?_; simp [bs_nil, bs_list, binS, dS, toW, hw1]; (repeat (refine ⟨by omega, ?_⟩)); refine hK2 _ ?_; clear hK2 K2)
        refine sxf_nil (hK' _ ?_)
        refine AW.st (by simp [bs_nil, bs_list, binS, dS, toW, hw1]; rfl) ?_
        clear hK' K'
        refine AW_cond true rfl (fun _ => ?_) (fun h => by cases h)
        refine AW_skip (hK5 _ ?_)
        refine AW_cond true rfl (fun _ => ?_) (fun h => by cases h)
        refine AW_rg (tyOf_good _) [2] [] (fun _ _ => trivial) fun K' hK' => ?_
        repeat (refine sxf_next fun K2 hK2 => ?_; simp; (repeat (refine ⟨by omega, ?_⟩)); refine hK2 _ ?_; clear hK2 K2)
        refine sxf_nil (hK' _ ?_)
        refine AW.st (by simp; rfl) ?_
        clear hK' K'
        refine AW_ret ?_
        simp [D.le, D.le.go, takeMap]
        exact word_fail (by simp [hw1, wordsL])
      have hx1 : (l == [105, 110, 112, 117, 116]) = false := by simpa using hw1
      refine AW_rg (tyOf_good _) [0, 40, 41] [] (fun _ _ => trivial) fun K' hK' => ?_
      repeat (refine sxf_next fun K2 hK2 => ?_; simp [bs_nil, bs_list, binS, dS, toW, hw1, hx1]; (repeat (refine ⟨by omega, ?_⟩)); refine hK2 _ ?_; clear hK2 K2)
      refine sxf_nil (hK' _ ?_)
      refine AW.st (by simp [bs_nil, bs_list, binS, dS, toW, hw1, hx1]; rfl) ?_
      clear hK' K'
      refine AW_cond false rfl (fun h => by cases h) (fun _ => ?_)
      by_cases hw2 : l = [99, 111, 105, 108]
      · refine AW_rg (tyOf_good _) [0, 40, 41] [] (fun _ _ => trivial) fun K' hK' => ?_
        repeat (refine sxf_next fun K2 hK2 => ?_; simp [bs_nil, bs_list, binS, dS, toW, hw2]; (repeat (refine ⟨by omega, ?_⟩)); refine hK2 _ ?_; clear hK2 K2)
        refine sxf_nil (hK' _ ?_)
        refine AW.st (by simp [bs_nil, bs_list, binS, dS, toW, hw2]; rfl) ?_
        clear hK' K'
        refine AW_cond true rfl (fun _ => ?_) (fun h => by cases h)
        refine AW_skip (hK5 _ ?_)
        refine AW_cond true rfl (fun _ => ?_) (fun h => by cases h)
        refine AW_rg (tyOf_good _) [2] [] (fun _ _ => trivial) fun K' hK' => ?_
        repeat (refine sxf_next fun K2 hK2 => ?_; simp; (repeat (refine ⟨by omega, ?_⟩)); refine hK2 _ ?_; clear hK2 K2)
        refine sxf_nil (hK' _ ?_)
        refine AW.st (by simp; rfl) ?_
        clear hK' K'
        refine AW_ret ?_
        simp [D.le, D.le.go, takeMap]
        exact word_fail (by simp [hw2, wordsL])
      have hx2 : (l == [99, 111, 105, 108]) = false := by simpa using hw2
      refine AW_rg (tyOf_good _) [0, 40, 41] [] (fun _ _ => trivial) fun K' hK' => ?_
      repeat (refine sxf_next fun K2 hK2 => ?_; simp [bs_nil, bs_list, binS, dS, toW, hw2, hx2]; (repeat (refine ⟨by omega, ?_⟩)); refine hK2 _ ?_; clear hK2 K2)
      refine sxf_nil (hK' _ ?_)
      refine AW.st (by simp [bs_nil, bs_list, binS, dS, toW, hw2, hx2]; rfl) ?_
      clear hK' K'
      refine AW_cond false rfl (fun h => by cases h) (fun _ => ?_)
      by_cases hw3 : l = [116, 105, 109, 101, 114]
      · refine AW_rg (tyOf_good _) [0, 40, 41] [] (fun _ _ => trivial) fun K' hK' => ?_
        repeat (refine sxf_next fun K2 hK2 => ?_; simp [bs_nil, bs_list, binS, dS, toW, hw3]; (repeat (refine ⟨by omega, ?_⟩)); refine hK2 _ ?_; clear hK2 K2)
        refine sxf_nil (hK' _ ?_)
        refine AW.st (by simp [bs_nil, bs_list, binS, dS, toW, hw3]; rfl) ?_
        clear hK' K'
        refine AW_cond true rfl (fun _ => ?_) (fun h => by cases h)
        refine AW_skip (hK5 _ ?_)
        refine AW_cond true rfl (fun _ => ?_) (fun h => by cases h)
        refine AW_rg (tyOf_good _) [2] [] (fun _ _ => trivial) fun K' hK' => ?_
        repeat (refine sxf_next fun K2 hK2 => ?_; simp; (repeat (refine ⟨by omega, ?_⟩)); refine hK2 _ ?_; clear hK2 K2)
        refine sxf_nil (hK' _ ?_)
        refine AW.st (by simp; rfl) ?_
        clear hK' K'
        refine AW_ret ?_
        simp [D.le, D.le.go, takeMap]
        exact word_fail (by simp [hw3, wordsL])
      have hx3 : (l == [116, 105, 109, 101, 114]) = false := by simpa using hw3
      refine AW_rg (tyOf_good _) [0, 40, 41] [] (fun _ _ => trivial) fun K' hK' => ?_
      repeat (refine sxf_next fun K2 hK2 => ?_; simp [bs_nil, bs_list, binS, dS, toW, hw3, hx3]; (repeat (refine ⟨by omega, ?_⟩)); refine hK2 _ ?_; clear hK2 K2)
      refine sxf_nil (hK' _ ?_)
      refine AW.st (by simp [bs_nil, bs_list, binS, dS, toW, hw3, hx3]; rfl) ?_
      clear hK' K'
      refine AW_cond false rfl (fun h => by cases h) (fun _ => ?_)
      by_cases hw4 : l = [99, 111, 117, 110, 116, 101, 114]
      · refine AW_rg (tyOf_good _) [0, 40, 41] [] (fun _ _ => trivial) fun K' hK' => ?_
        repeat (refine sxf_next fun K2 hK2 => ?_; simp [bs_nil, bs_list, binS, dS, toW, hw4]; (repeat (refine ⟨by omega, ?_⟩)); refine hK2 _ ?_; clear hK2 K2)
        refine sxf_nil (hK' _ ?_)
        refine AW.st (by simp [bs_nil, bs_list, binS, dS, toW, hw4]; rfl) ?_
        clear hK' K'
        refine AW_cond true rfl (fun _ => ?_) (fun h => by cases h)
        refine AW_skip (hK5 _ ?_)
        refine AW_cond true rfl (fun _ => ?_) (fun h => by cases h)
        refine AW_rg (tyOf_good _) [2] [] (fun _ _ => trivial) fun K' hK' => ?_
        repeat (refine sxf_next fun K2 hK2 => ?_; simp; (repeat (refine ⟨by omega, ?_⟩)); refine hK2 _ ?_; clear hK2 K2)
        refine sxf_nil (hK' _ ?_)
        refine AW.st (by simp; rfl) ?_
        clear hK' K'
        refine AW_ret ?_
        simp [D.le, D.le.go, takeMap]
        exact word_fail (by simp [hw4, wordsL])
      have hx4 : (l == [99, 111, 117, 110, 116, 101, 114]) = false := by simpa using hw4
      refine AW_rg (tyOf_good _) [0, 40, 41] [] (fun _ _ => trivial) fun K' hK' => ?_
      repeat (refine sxf_next fun K2 hK2 => ?_; simp [bs_nil, bs_list, binS, dS, toW, hw4, hx4]; (repeat (refine ⟨by omega, ?_⟩)); refine hK2 _ ?_; clear hK2 K2)
      refine sxf_nil (hK' _ ?_)
      refine AW.st (by simp [bs_nil, bs_list, binS, dS, toW, hw4, hx4]; rfl) ?_
      clear hK' K'
      refine AW_cond false rfl (fun h => by cases h) (fun _ => ?_)
      by_cases hw5 : l = [115, 101, 116]
      · refine AW_rg (tyOf_good _) [0, 40, 41] [] (fun _ _ => trivial) fun K' hK' => ?_
        repeat (refine sxf_next fun K2 hK2 => ?_; simp [bs_nil, bs_list, binS, dS, toW, hw5]; (repeat (refine ⟨by omega, ?_⟩)); refine hK2 _ ?_; clear hK2 K2)
        refine sxf_nil (hK' _ ?_)
        refine AW.st (by simp [bs_nil, bs_list, binS, dS, toW, hw5]; rfl) ?_
        clear hK' K'
        refine AW_cond true rfl (fun _ => ?_) (fun h => by cases h)
        refine AW_skip (hK5 _ ?_)
        refine AW_cond true rfl (fun _ => ?_) (fun h => by cases h)
        refine AW_rg (tyOf_good _) [2] [] (fun _ _ => trivial) fun K' hK' => ?_
        repeat (refine sxf_next fun K2 hK2 => ?_; simp; (repeat (refine ⟨by omega, ?_⟩)); refine hK2 _ ?_; clear hK2 K2)
        refine sxf_nil (hK' _ ?_)
        refine AW.st (by simp; rfl) ?_
        clear hK' K'
        refine AW_ret ?_
        simp [D.le, D.le.go, takeMap]
        exact word_fail (by simp [hw5, wordsL])
      have hx5 : (l == [115, 101, 116]) = false := by simpa using hw5
      refine AW_rg (tyOf_good _) [0, 40, 41] [] (fun _ _ => trivial) fun K' hK' => ?_
      repeat (refine sxf_next fun K2 hK2 => ?_; simp [bs_nil, bs_list, binS, dS, toW, hw5, hx5]; (repeat (refine ⟨by omega, ?_⟩)); refine hK2 _ ?_; clear hK2 K2)
      refine sxf_nil (hK' _ ?_)
      refine AW.st (by simp [bs_nil, bs_list, binS, dS, toW, hw5, hx5]; rfl) ?_
      clear hK' K'
      refine AW_cond false rfl (fun h => by cases h) (fun _ => ?_)
      by_cases hw6 : l = [114, 101, 115, 101, 116]
      · refine AW_rg (tyOf_good _) [0, 40, 41] [] (fun _ _ => trivial) fun K' hK' => ?_
        repeat (refine sxf_next fun K2 hK2 => ?_; simp [bs_nil, bs_list, binS, dS, toW, hw6]; (repeat (refine ⟨by omega, ?_⟩)); refine hK2 _ ?_; clear hK2 K2)
        refine sxf_nil (hK' _ ?_)
        refine AW.st (by simp [bs_nil, bs_list, binS, dS, toW, hw6]; rfl) ?_
        clear hK' K'
        refine AW_cond true rfl (fun _ => ?_) (fun h => by cases h)
        refine AW_skip (hK5 _ ?_)
        refine AW_cond true rfl (fun _ => ?_) (fun h => by cases h)
        refine AW_rg (tyOf_good _) [2] [] (fun _ _ => trivial) fun K' hK' => ?_
        repeat (refine sxf_next fun K2 hK2 => ?_; simp; (repeat (refine ⟨by omega, ?_⟩)); refine hK2 _ ?_; clear hK2 K2)
        refine sxf_nil (hK' _ ?_)
        refine AW.st (by simp; rfl) ?_
        clear hK' K'
        refine AW_ret ?_
        simp [D.le, D.le.go, takeMap]
        exact word_fail (by simp [hw6, wordsL])
      have hx6 : (l == [114, 101, 115, 101, 116]) = false := by simpa using hw6
      refine AW_rg (tyOf_good _) [0, 40, 41] [] (fun _ _ => trivial) fun K' hK' => ?_
      repeat (refine sxf_next fun K2 hK2 => ?_; simp [bs_nil, bs_list, binS, dS, toW, hw6, hx6]; (repeat (refine ⟨by omega, ?_⟩)); refine hK2 _ ?_; clear hK2 K2)
      refine sxf_nil (hK' _ ?_)
      refine AW.st (by simp [bs_nil, bs_list, binS, dS, toW, hw6, hx6]; rfl) ?_
      clear hK' K'
      refine AW_cond false rfl (fun h => by cases h) (fun _ => ?_)
      by_cases hw7 : l = [114, 117, 110]
      · refine AW_rg (tyOf_good _) [0, 40, 41] [] (fun _ _ => trivial) fun K' hK' => ?_
        repeat (refine sxf_next fun K2 hK2 => ?_; simp [bs_nil, bs_list, binS, dS, toW, hw7]; (repeat (refine ⟨by omega, ?_⟩)); refine hK2 _ ?_; clear hK2 K2)
        refine sxf_nil (hK' _ ?_)
        refine AW.st (by simp [bs_nil, bs_list, binS, dS, toW, hw7]; rfl) ?_
        clear hK' K'
        refine AW_cond true rfl (fun _ => ?_) (fun h => by cases h)
        refine AW_skip (hK5 _ ?_)
        refine AW_cond true rfl (fun _ => ?_) (fun h => by cases h)
        refine AW_rg (tyOf_good _) [2] [] (fun _ _ => trivial) fun K' hK' => ?_
        repeat (refine sxf_next fun K2 hK2 => ?_; simp; (repeat (refine ⟨by omega, ?_⟩)); refine hK2 _ ?_; clear hK2 K2)
        refine sxf_nil (hK' _ ?_)
        refine AW.st (by simp; rfl) ?_
        clear hK' K'
        refine AW_ret ?_
        simp [D.le, D.le.go, takeMap]
        exact word_fail (by simp [hw7, wordsL])
      have hx7 : (l == [114, 117, 110]) = false := by simpa using hw7
      refine AW_rg (tyOf_good _) [0, 40, 41] [] (fun _ _ => trivial) fun K' hK' => ?_
      repeat (refine sxf_next fun K2 hK2 => ?_; simp [bs_nil, bs_list, binS, dS, toW, hw7, hx7]; (repeat (refine ⟨by omega, ?_⟩)); refine hK2 _ ?_; clear hK2 K2)
      refine sxf_nil (hK' _ ?_)
      refine AW.st (by simp [bs_nil, bs_list, binS, dS, toW, hw7, hx7]; rfl) ?_
      clear hK' K'
      refine AW_cond false rfl (fun h => by cases h) (fun _ => ?_)
      by_cases hw8 : l = [99, 111, 117, 110, 116]
      · refine AW_rg (tyOf_good _) [0, 40, 41] [] (fun _ _ => trivial) fun K' hK' => ?_
        repeat (refine sxf_next fun K2 hK2 => ?_; simp [bs_nil, bs_list, binS, dS, toW, hw8]; (repeat (refine ⟨by omega, ?_⟩)); refine hK2 _ ?_; clear hK2 K2)
        refine sxf_nil (hK' _ ?_)
        refine AW.st (by simp [bs_nil, bs_list, binS, dS, toW, hw8]; rfl) ?_
        clear hK' K'
        refine AW_cond true rfl (fun _ => ?_) (fun h => by cases h)
        refine AW_skip (hK5 _ ?_)
        refine AW_cond true rfl (fun _ => ?_) (fun h => by cases h)
        refine AW_rg (tyOf_good _) [2] [] (fun _ _ => trivial) fun K' hK' => ?_
        repeat (refine sxf_next fun K2 hK2 => ?_; simp; (repeat (refine ⟨by omega, ?_⟩)); refine hK2 _ ?_; clear hK2 K2)
        refine sxf_nil (hK' _ ?_)
        refine AW.st (by simp; rfl) ?_
        clear hK' K'
        refine AW_ret ?_
        simp [D.le, D.le.go, takeMap]
        exact word_fail (by simp [hw8, wordsL])
      have hx8 : (l == [99, 111, 117, 110, 116]) = false := by simpa using hw8
      refine AW_rg (tyOf_good _) [0, 40, 41] [] (fun _ _ => trivial) fun K' hK' => ?_
      repeat (refine sxf_next fun K2 hK2 => ?_; simp [bs_nil, bs_list, binS, dS, toW, hw8, hx8]; (repeat (refine ⟨by omega, ?_⟩)); refine hK2 _ ?_; clear hK2 K2)
      refine sxf_nil (hK' _ ?_)
      refine AW.st (by simp [bs_nil, bs_list, binS, dS, toW, hw8, hx8]; rfl) ?_
      clear hK' K'
      refine AW_cond false rfl (fun h => by cases h) (fun _ => ?_)
      by_cases hw9 : l = [122, 101, 114, 111]
      · refine AW_re (tyOf_good _) fun K' hK' => ?_
        repeat (refine sxf_next fun K2 hK2 => ?_; simp [bs_nil, bs_list, binS, dS, toW, hw9]; (repeat (refine ⟨by omega, ?_⟩)); refine hK2 _ ?_; clear hK2 K2)
        refine sxf_nil (hK' _ ?_)
        clear hK' K'
        refine hK5 _ (AW.norm [0, 41] [] (fun _ _ => trivial) (AW.st (by simp [bs_nil, bs_list, binS, dS, toW, hw9]; rfl) ?_))
        refine AW_cond true rfl (fun _ => ?_) (fun h => by cases h)
        refine AW_rg (tyOf_good _) [2] [] (fun _ _ => trivial) fun K' hK' => ?_
        repeat (refine sxf_next fun K2 hK2 => ?_; simp; (repeat (refine ⟨by omega, ?_⟩)); refine hK2 _ ?_; clear hK2 K2)
        refine sxf_nil (hK' _ ?_)
        refine AW.st (by simp; rfl) ?_
        clear hK' K'
        refine AW_ret ?_
        simp [D.le, D.le.go, takeMap]
        exact word_fail (by simp [hw9, wordsL])
      have hx9 : (l == [122, 101, 114, 111]) = false := by simpa using hw9
      refine AW_re (tyOf_good _) fun K' hK' => ?_
      repeat (refine sxf_next fun K2 hK2 => ?_; simp [bs_nil, bs_list, binS, dS, toW, hw9, hx9]; (repeat (refine ⟨by omega, ?_⟩)); refine hK2 _ ?_; clear hK2 K2)
      refine sxf_nil (hK' _ ?_)
      clear hK' K'
      refine hK5 _ (AW.norm [0, 41] [] (fun _ _ => trivial) (AW.st (by simp [bs_nil, bs_list, binS, dS, toW, hw9, hx9]; rfl) ?_))
      refine AW_cond false rfl (fun h => by cases h) (fun _ => ?_)
      refine AW_skip (hK4 _ ?_)
      refine AW_rg (tyOf_good _) [2] [] (fun _ _ => trivial) fun K' hK' => ?_
      repeat (refine sxf_next fun K2 hK2 => ?_; simp [dS, bs_size]; (repeat (refine ⟨by omega, ?_⟩)); refine hK2 _ ?_; clear hK2 K2)
      refine sxf_nil (hK' _ ?_)
      refine AW.st (by simp [dS, bs_size]; rfl) ?_
      clear hK' K'
      refine AW_ret ?_
      simp [D.le, D.le.go, takeMap]
      exact word_pass hok (by simp [wordsL, hw0, hw1, hw2, hw3, hw4, hw5, hw6, hw7, hw8, hw9])

end Go.Proofs.YtblafkekblaibaaDoor

/-
  Formulas whose kinds, names or parts may not be: the statement's walk.
-/
namespace Go.Proofs.YtblafkekblaibaaDoor
set_option linter.unusedSimpArgs false
set_option linter.unusedVariables false
open Go.Av

def tr : Fm := .mk 2 [] []
def wrapN (f : Fm) : Nat → Fm
  | 0 => f
  | i + 1 => .mk 3 [] [wrapN f i]
theorem wrap_deep (k : Int) (s : List UInt8) (l : List Fm) : ∀ i d, d ≤ i → (rightF d (wrapN (.mk k s l) i)).2 = 4
  | 0, 0, _ => rfl
  | i + 1, 0, _ => rfl
  | i + 1, d + 1, h => by
    have ih := wrap_deep k s l i d (by omega)
    rw [wrapN, rightF, if_neg (fun h => h rfl), rightL, if_pos (by rw [ih]; decide)]
    exact ih
theorem wrap_ok (f : Fm) : ∀ i d, (rightF (d + i) (wrapN f i)).2 = (rightF d f).2 ∧ ((rightF d f).2 = 0 → (rightF (d + i) (wrapN f i)).1 = (rightF d f).1 + i)
  | 0, d => by simp [wrapN]
  | i + 1, d => by
    obtain ⟨h1, h2⟩ := wrap_ok f i d
    rw [wrapN, ← Nat.add_assoc, rightF, if_neg (fun h => h rfl)]
    by_cases h : (rightF d f).2 = 0
    · rw [rightL, if_neg (by rw [h1]; simp [h]), rightL]
      refine ⟨h.symm, fun _ => ?_⟩
      have := h2 h
      simp only [Int.natCast_add, Int.cast_ofNat_Int]
      omega
    · rw [rightL, if_pos (by rw [h1]; exact h)]
      exact ⟨h1, fun h' => absurd h' h⟩
theorem trs_ok (d : Nat) : ∀ (n : Nat) (m : Int), rightL (d + 1) (List.replicate n tr) m = (m + n, 0)
  | 0, m => by simp [rightL]
  | n + 1, m => by
    have ht : rightF (d + 1) tr = (1, 0) := rfl
    rw [List.replicate_succ, rightL, ht, if_neg (by decide), trs_ok d n]
    simp only [Int.natCast_add, Int.cast_ofNat_Int]
    congr 1
    omega
/-- What the document tells of such a formula. -/
def tellE (k : Int) (s : List UInt8) (p d : Nat) : Int := if 20 < d + 1 ∨ (badF k s p = 0 ∧ 0 < p ∧ 20 < d + 2) then 4 else badF k s p
theorem rights_law (k : Int) (s : List UInt8) (p d : Nat) (hp : p < 4) (hd : d < 25) : rightE (wrapN (.mk k s (List.replicate p tr)) d) = tellE k s p d := by
  unfold rightE tellE
  by_cases h20 : 20 ≤ d
  · have h4 := wrap_deep k s (List.replicate p tr) d 20 h20
    have hc : 20 < d + 1 ∨ badF k s p = 0 ∧ 0 < p ∧ 20 < d + 2 := .inl (by omega)
    rw [if_pos hc, h4]
    rfl
  · obtain ⟨e, he⟩ : ∃ e, 20 = (e + 1) + d := ⟨19 - d, by omega⟩
    obtain ⟨h1, h2⟩ := wrap_ok (.mk k s (List.replicate p tr)) d (e + 1)
    rw [← he] at h1 h2
    have hf : rightF (e + 1) (.mk k s (List.replicate p tr)) = if badF k s p ≠ 0 then (0, badF k s p) else rightL e (List.replicate p tr) 1 := by rw [rightF, List.length_replicate]
    rw [h1]
    by_cases hb : badF k s p = 0
    · rw [if_neg (by simp [hb])] at hf
      by_cases hp0 : p = 0
      · subst hp0
        have hf : rightF (e + 1) (.mk k s (List.replicate 0 tr)) = (1, 0) := hf
        have h2 := h2 (by rw [hf])
        rw [hf] at h2 ⊢
        rw [if_neg (by simp), h2, if_neg (by simp only; omega), if_neg (by omega), hb]
      · cases e with
        | zero =>
          have hf : rightF (0 + 1) (.mk k s (List.replicate p tr)) = (0, 4) := by
            rw [hf]
            cases p with
            | zero => omega
            | succ p => rfl
          rw [hf, if_pos (by decide), if_pos (.inr ⟨hb, by omega, by omega⟩)]
        | succ e =>
          rw [trs_ok] at hf
          have h2 := h2 (by rw [hf])
          rw [hf] at h2 ⊢
          rw [if_neg (by simp), h2, if_neg (by simp only; omega), if_neg (by omega), hb]
    · rw [if_pos hb] at hf
      rw [hf, if_pos hb, if_neg (by rintro (h | h) <;> omega)]

theorem ofK_rep (p : Nat) (f : Fm) (h : 0 < p) : ofK (List.replicate p f) = none := by
  cases p with
  | zero => omega
  | succ p => rfl
def mapL : List (Value × D) := [(.int .i64 1, dNum 0), (.int .i64 2, dNum 0), (.int .i64 3, dNum 1), (.int .i64 4, dNum 2), (.int .i64 5, dNum 2), (.int .i64 6, dNum 1), (.int .i64 7, dNum 2), (.int .i64 8, dNum 2), (.int .i64 9, dNum 1), (.int .i64 10, dNum 1)]
theorem look_in {k : Int} (h1 : 1 ≤ k) (h2 : k ≤ 10) : entGet (.int .i64 k) mapL = some (dNum (arityF k)) := by
  have : k = 1 ∨ k = 2 ∨ k = 3 ∨ k = 4 ∨ k = 5 ∨ k = 6 ∨ k = 7 ∨ k = 8 ∨ k = 9 ∨ k = 10 := by omega
  rcases this with rfl | rfl | rfl | rfl | rfl | rfl | rfl | rfl | rfl | rfl <;> rfl
theorem look_out {k : Int} (h : k < 1 ∨ 10 < k) : entGet (.int .i64 k) mapL = none := by
  have hn : ∀ c : Int, 1 ≤ c → c ≤ 10 → (k == c) = false := fun c h1 h2 => by rw [beq_eq_false_iff_ne]; omega
  have hn2 : ∀ c : Int, 1 ≤ c → c ≤ 10 → k ≠ c := fun c h1 h2 => by omega
  simp [entGet, mapL, keyEq, hn2]

/-- What is shown behind its first use. -/
structure Later (T : Prop) : Prop where
  out : T
theorem late {T U : Prop} (h : Later T → U) (t : T) : U := h ⟨t⟩
theorem dF_tr : dF tr = .ip [.v (.int .i64 2), .v (.string ⟨#[]⟩), .sl (some false) []] := rfl
theorem names_rep : ∀ p : Nat, namesOkL (List.replicate p tr)
  | 0 => trivial
  | p + 1 => ⟨⟨by decide, trivial⟩, names_rep p⟩
theorem names_wrap (f : Fm) (h : namesOk f) : ∀ i : Nat, namesOk (wrapN f i)
  | 0 => h
  | i + 1 => ⟨by decide, names_wrap f h i, trivial⟩
theorem wrap_ip (k : Int) (s : List UInt8) (l : List Fm) (i : Nat) : ∃ c, dF (wrapN (.mk k s l) i) = .ip c := by cases i <;> exact ⟨_, rfl⟩
def boxF (k : Int) (s : List UInt8) (of : AV) : Row := .box 91 [.d (dNum k), .d (dS s), of]

end Go.Proofs.YtblafkekblaibaaDoor

/-
  Formulas made of steps: plain.At, plain.Formula.
-/
namespace Go.Proofs.YtblafkekblaibaaDoor
set_option linter.unusedSimpArgs false
set_option linter.unusedVariables false
open Go.Av

/-- A place in a list of so many. -/
def atF (n : Int) (many : Nat) : Nat := ((n % 18446744073709551616) % many).toNat
theorem atF_lt (n : Int) {many : Nat} (h : 0 < many) : atF n many < many := by
  unfold atF
  have h1 : 0 ≤ (n % 18446744073709551616) % (many : Int) := Int.emod_nonneg _ (by omega)
  have h2 : (n % 18446744073709551616) % (many : Int) < many := Int.emod_lt_of_pos _ (by omega)
  omega
theorem at0_spec (G : Glob) (a : Int) (n : Nat) (hn : 0 < n) (hn2 : n < 2^62) : PureC Tryd.prog G 43 [dNum a, dNum n] (dNum (atF a n)) := by
  have hw : IntKind.u64.wrap (n : Int) = n := by rw [wrap_u64]; omega
  have hu : 0 ≤ IntKind.u64.wrap a := by rw [wrap_u64]; omega
  have hn0 : ¬ n = 0 := by omega
  have ht : (IntKind.u64.wrap a).tmod n = (IntKind.u64.wrap a) % n := Int.tmod_eq_emod_of_nonneg hu
  have h1 : 0 ≤ (IntKind.u64.wrap a) % (n : Int) := Int.emod_nonneg _ (by omega)
  have h2 : (IntKind.u64.wrap a) % (n : Int) < n := Int.emod_lt_of_pos _ (by omega)
  have hr : (IntKind.u64.wrap a).tmod n = (atF a n : Int) := by rw [ht]; unfold atF; rw [← wrap_u64]; omega
  rw [← ht] at h1 h2
  rw [← hr]
  refine PureC.of_body (tyOf_good _) Tryd.func43 rfl rfl (rs := [.tmp 4]) Tryd.results43 (by simp [Tryd.ntmps43]) fun X => ?_
  simp only [Tryd.ntmps43, List.map]
  refine AW_rg (tyOf_good _) [0, 1] [] (fun _ _ => trivial) fun K' hK' => ?_
  repeat (refine sxf_next fun K2 hK2 => ?_; simp [dNum]; (repeat (refine ⟨by omega, ?_⟩)); refine hK2 _ ?_; clear hK2 K2)
  refine sxf_nil (hK' _ ?_)
  refine AW.st (by simp [dNum]; rfl) ?_
  clear hK' K'
  refine AW_rg (tyOf_good _) [4] [] (fun _ _ => trivial) fun K' hK' => ?_
  repeat (refine sxf_next fun K2 hK2 => ?_; simp [hw, hn0]; (repeat (refine ⟨by omega, ?_⟩)); refine hK2 _ ?_; clear hK2 K2)
  refine sxf_nil (hK' _ ?_)
  refine AW.st (by simp [hw, hn0]; rfl) ?_
  clear hK' K'
  refine AW_ret ?_
  simp [D.le, D.le.go, takeMap, dNum]

structure Stp where
  kind : Int
  a : Int
  b : Int
  name : List UInt8
def dStp (x : Stp) : D := .agg [dNum x.kind, dNum x.a, dNum x.b, dS x.name]
def dStps (l : List Stp) : D := .sl none (l.map fun x => [dNum x.kind, dNum x.a, dNum x.b, dS x.name])

/-- What a step makes of those ahead. -/
def stepF (all : List Fm) (x : Stp) : Fm :=
  if x.kind = 2 then .mk 2 [] []
  else if x.kind = 3 ∨ x.kind = 6 ∨ x.kind = 9 ∨ x.kind = 10 then .mk x.kind [] [all.getD (atF x.a all.length) .nil]
  else if x.kind = 4 ∨ x.kind = 5 ∨ x.kind = 7 ∨ x.kind = 8 then .mk x.kind [] [all.getD (atF x.a all.length) .nil, all.getD (atF x.b all.length) .nil]
  else .mk 1 x.name []
def allF : List Stp → List Fm → List Fm
  | [], all => all
  | x :: l, all => allF l (all ++ [stepF all x])
/-- Those that the first steps make. -/
def madeF (l : List Stp) (i : Nat) : List Fm := allF (l.take i) [.mk 2 [] []]
theorem allF_snoc (x : Stp) : ∀ (l : List Stp) (all : List Fm), allF (l ++ [x]) all = allF l all ++ [stepF (allF l all) x]
  | [], all => rfl
  | y :: l, all => by simp only [List.cons_append, allF]; exact allF_snoc x l _
theorem allF_len : ∀ (l : List Stp) (all : List Fm), (allF l all).length = all.length + l.length
  | [], all => rfl
  | y :: l, all => by simp only [allF, allF_len l, List.length_append, List.length_cons, List.length_nil]; omega
theorem madeF_len (l : List Stp) {i : Nat} (h : i ≤ l.length) : (madeF l i).length = i + 1 := by
  unfold madeF
  rw [allF_len, List.length_take, List.length_singleton]
  omega
theorem madeF_succ {l : List Stp} {i : Nat} (h : i < l.length) : madeF l (i + 1) = madeF l i ++ [stepF (madeF l i) l[i]] := by
  unfold madeF
  rw [List.take_succ_eq_append_getElem h, allF_snoc]
/-- The last one. -/
def formF (l : List Stp) : Fm := (madeF l l.length).getD l.length .nil

/-- It is one. -/
def IsMk (f : Fm) : Prop := ∃ k s l, f = .mk k s l
theorem IsMk.ip {f : Fm} (h : IsMk f) : ∃ c, dF f = .ip c := by
  obtain ⟨k, s, l, rfl⟩ := h
  exact ⟨_, rfl⟩
theorem stepF_mk (all : List Fm) (x : Stp) : IsMk (stepF all x) := by
  unfold stepF
  repeat' split
  all_goals exact ⟨_, _, _, rfl⟩
theorem allF_mk : ∀ (l : List Stp) (all : List Fm), (∀ f ∈ all, IsMk f) → ∀ f ∈ allF l all, IsMk f
  | [], all, h => h
  | x :: l, all, h => allF_mk l _ fun f hf => by
    rcases List.mem_append.1 hf with hf | hf
    · exact h f hf
    · rw [List.mem_singleton] at hf; subst hf; exact stepF_mk all x
theorem madeF_mk (l : List Stp) (i : Nat) : ∀ f ∈ madeF l i, IsMk f := allF_mk _ _ fun f hf => by
  rw [List.mem_singleton] at hf; subst hf; exact ⟨_, _, _, rfl⟩

set_option maxHeartbeats 8000000 in
theorem formula_spec (G : Glob) (l : List Stp) (hl : l.length < 2^40) : PureC Tryd.prog G 15 [dStps l] (dF (formF l)) := by
  refine PureC.of_body (tyOf_good _) Tryd.func15 rfl rfl (rs := [.tmp 2]) Tryd.results15 (by simp [Tryd.ntmps15]) fun X => ?_
  simp only [Tryd.ntmps15, List.map]
  refine AW_rg (tyOf_good _) [0] [] (fun _ _ => trivial) fun K' hK' => ?_
  repeat (refine sxf_next fun K2 hK2 => ?_; simp [dNum]; (repeat (refine ⟨by omega, ?_⟩)); refine hK2 _ ?_; clear hK2 K2)
  refine sxf_nil (hK' _ ?_)
  refine AW.st (by simp [dNum]; rfl) ?_
  clear hK' K'
  refine AW_rg (tyOf_good _) [0, 3] [11] (fun _ _ => trivial) fun K' hK' => ?_
  repeat (refine sxf_next fun K2 hK2 => ?_; simp [dNum, dStps]; (repeat (refine ⟨by omega, ?_⟩)); refine hK2 _ ?_; clear hK2 K2)
  refine sxf_nil (hK' _ ?_)
  refine AW.st (by simp [dNum, dStps]; rfl) ?_
  clear hK' K'
  refine AW_then fun K1 hK1 => ?_
  refine AW_rg (tyOf_good _) [3, 12, 13, 14] [11] (fun _ _ => trivial) fun K' hK' => ?_
  repeat (refine sxf_next fun K2 hK2 => ?_; simp [dNum, dStps]; (repeat (refine ⟨by omega, ?_⟩)); refine hK2 _ ?_; clear hK2 K2)
  refine sxf_nil (hK' _ ?_)
  refine AW.st (by simp [dNum, dStps]; rfl) ?_
  clear hK' K'
  refine AW_for (S := Nat) (fun i => i ≤ l.length) (fun i => ⟨lst [(3, .own 11 0 (i + 1)), (12, .d (dStps l)), (13, int l.length), (14, int i)], hlst [(11, .sl 40 1 ((madeF l i).map fun f => [dF f]))]⟩) (fun i => l.length - i) 0 ?_ (by omega) ?_
  · refine Imp.to' (fun _ _ => trivial) (by simp [dNum, dStps, madeF, allF, dF, dFs, ofK, dS, bs_nil]) (by simp [dNum, dStps, madeF, allF, dF, dFs, ofK, dS, bs_nil])
  · intro i hi
    have hml := madeF_len l hi
    refine AW_rg (tyOf_good _) [3, 12, 13, 14, 15] [11] (fun _ _ => trivial) fun K' hK' => ?_
    repeat (refine sxf_next fun K2 hK2 => ?_; simp [dNum, dStps]; (repeat (refine ⟨by omega, ?_⟩)); refine hK2 _ ?_; clear hK2 K2)
    refine sxf_nil (hK' _ ?_)
    refine AW.st (by simp [dNum, dStps]; rfl) ?_
    clear hK' K'
    refine AW_then fun K2 hK2 => ?_
    refine AW_cond' (b := i < l.length) (by simp [D.le, D.le.go, takeMap, dNum]) (fun hc => ?_) (fun hc => ?_)
    · have hil : i < l.length := hc
      have hms := madeF_succ hil
      have hmk := madeF_mk l i
      refine AW_skip (hK2 _ ?_)
      refine AW_then fun K3 hK3 => ?_
      refine AW_block ?_
      refine AW_rg (tyOf_good _) [3, 5, 12, 13, 14] [5, 11] (fun _ _ => trivial) fun K' hK' => ?_
      repeat (refine sxf_next fun K2 hK2 => ?_; simp [dNum, dStps, hil, dS]; (repeat (refine ⟨by omega, ?_⟩)); refine hK2 _ ?_; clear hK2 K2)
      refine sxf_nil (hK' _ ?_)
      refine AW.st (by simp [dNum, dStps, hil, dS]; rfl) ?_
      clear hK' K'
      refine AW_rg (tyOf_good _) [3, 5, 6, 12, 13, 14] [5, 11, 21] (fun _ _ => trivial) fun K' hK' => ?_
      repeat (refine sxf_next fun K2 hK2 => ?_; simp [dNum]; (repeat (refine ⟨by omega, ?_⟩)); refine hK2 _ ?_; clear hK2 K2)
      refine sxf_nil (hK' _ ?_)
      refine AW.st (by simp [dNum]; rfl) ?_
      clear hK' K'
      obtain ⟨ja, hja, hea⟩ : ∃ ja, ja < i + 1 ∧ atF l[i].a (i + 1) = ja := ⟨_, atF_lt _ (by omega), rfl⟩
      obtain ⟨jb, hjb, heb⟩ : ∃ jb, jb < i + 1 ∧ atF l[i].b (i + 1) = jb := ⟨_, atF_lt _ (by omega), rfl⟩
      have hcalla := at0_spec G l[i].a (i + 1) (by omega) (by omega)
      have hcallb := at0_spec G l[i].b (i + 1) (by omega) (by omega)
      rw [hea] at hcalla
      rw [heb] at hcallb
      have hja2 : ja < (madeF l i).length := by omega
      have hjb2 : jb < (madeF l i).length := by omega
      have hsa : (madeF l i).getD (atF l[i].a (madeF l i).length) .nil = (madeF l i)[ja] := by
        rw [show atF l[i].a (madeF l i).length = ja by rw [hml]; exact hea]
        simp [List.getD_eq_getElem?_getD, hja2]
      have hsb : (madeF l i).getD (atF l[i].b (madeF l i).length) .nil = (madeF l i)[jb] := by
        rw [show atF l[i].b (madeF l i).length = jb by rw [hml]; exact heb]
        simp [List.getD_eq_getElem?_getD, hjb2]
      obtain ⟨ca, hca⟩ := (hmk _ (List.getElem_mem hja2)).ip
      obtain ⟨cb, hcb⟩ := (hmk _ (List.getElem_mem hjb2)).ip
      have hji : (ja : Int) < (i : Int) + 1 := by omega
      have hjj : (jb : Int) < (i : Int) + 1 := by omega
      refine AW_rd (tyOf_good _) (by kernel_rfl) [3, 5, 6, 7, 8, 12, 13, 14] [5, 11, 21] (fun _ _ => trivial) (by kernel_rfl) fun K' hK' => ?_
      repeat (refine sxd_next fun K2 hK2 => ?_; simp [dNum, hml, hja, hjb, hja2, hjb2, hji, hjj, hca, hcb]; (repeat (refine ⟨by omega, ?_⟩)); refine hK2 _ ?_; clear hK2 K2)
      refine sxd_next fun K2 hK2 => ?_
      simp [dNum, hml, hja, hjb, hja2, hjb2, hji, hjj, hca, hcb]
      refine callQ.data (hcalla) (by simp; rfl) (by simp; rfl) (by first | exact D.leGo_refl _ | simp [takeMap, List.map_map, Function.comp_def, D.le, D.le.go, D.le_refl, D.leGo_refl, dNum, hml, hja, hjb, hja2, hjb2, hji, hjj, hca, hcb]) ?_
      refine hK2 _ ?_
      clear hK2 K2
      simp only [putd, upd_lst]
      repeat (refine sxd_next fun K2 hK2 => ?_; simp [dNum, hml, hja, hjb, hja2, hjb2, hji, hjj, hca, hcb]; (repeat (refine ⟨by omega, ?_⟩)); refine hK2 _ ?_; clear hK2 K2)
      refine sxd_next fun K2 hK2 => ?_
      simp [dNum, hml, hja, hjb, hja2, hjb2, hji, hjj, hca, hcb]
      refine callQ.data (hcallb) (by simp; rfl) (by simp; rfl) (by first | exact D.leGo_refl _ | simp [takeMap, List.map_map, Function.comp_def, D.le, D.le.go, D.le_refl, D.leGo_refl, dNum, hml, hja, hjb, hja2, hjb2, hji, hjj, hca, hcb]) ?_
      refine hK2 _ ?_
      clear hK2 K2
      simp only [putd, upd_lst]
      repeat (refine sxd_next fun K2 hK2 => ?_; simp [dNum, hml, hja, hjb, hja2, hjb2, hji, hjj, hca, hcb]; (repeat (refine ⟨by omega, ?_⟩)); refine hK2 _ ?_; clear hK2 K2)
      refine sxd_nil (hK' _ ?_)
      refine AW.st (by simp [dNum, hml, hja, hjb, hja2, hjb2, hji, hjj, hca, hcb]; rfl) ?_
      clear hK' K'
      refine AW_then fun K4 hK4 => ?_
      refine AW_rg (tyOf_good _) [3, 5, 6, 7, 8, 12, 13, 14, 39] [5, 11, 21] (fun _ _ => trivial) fun K' hK' => ?_
      repeat (refine sxf_next fun K2 hK2 => ?_; simp [dNum]; (repeat (refine ⟨by omega, ?_⟩)); refine hK2 _ ?_; clear hK2 K2)
      refine sxf_nil (hK' _ ?_)
      refine AW.st (by simp [dNum]; rfl) ?_
      clear hK' K'
      refine AW_block ?_
      refine' late (fun hrest => ?_) ?_
      rotate_left
      · by_cases h2 : l[i].kind = 2
        · refine AW_rg (tyOf_good _) [3, 5, 6, 7, 8, 12, 13, 14, 39, 48] [5, 11, 21] (fun _ _ => trivial) fun K' hK' => ?_
          repeat (refine sxf_next fun K2 hK2 => ?_; simp [dNum, h2]; (repeat (refine ⟨by omega, ?_⟩)); refine hK2 _ ?_; clear hK2 K2)
          refine sxf_nil (hK' _ ?_)
          refine AW.st (by simp [dNum, h2]; rfl) ?_
          clear hK' K'
          refine AW_cond true rfl (fun _ => ?_) (fun h => by cases h)
          refine AW_skip ?_
          refine hK4 _ (AW.norm [3, 6, 12, 13, 14] [11, 21] (fun _ _ => trivial) (AW.st (by simp [dNum]; rfl) ?_))
          have hst : stepF (madeF l i) l[i] = .mk 2 [] [] := by
            unfold stepF
            rw [if_pos h2]
          refine AW.imp (Imp.freezeB 21 trivial) ?_
          refine AW.st (by simp [dNum]; rfl) ?_
          refine AW.st (show _ = (⟨lst [(3, .own 11 0 (i + 1)), (6, .d (dF (stepF (madeF l i) l[i]))), (12, .d (dStps l)), (13, int l.length), (14, int i)], hlst [(11, .sl 40 1 ((madeF l i).map fun f => [dF f]))]⟩ : St) by rw [hst]; simp [dF, dFs, ofK, dS, bs_nil, dStps, hca, hcb, dNum]) ?_
          exact hrest.out
        refine AW_rg (tyOf_good _) [3, 5, 6, 7, 8, 12, 13, 14, 39, 48] [5, 11, 21] (fun _ _ => trivial) fun K' hK' => ?_
        repeat (refine sxf_next fun K2 hK2 => ?_; simp [dNum, h2]; (repeat (refine ⟨by omega, ?_⟩)); refine hK2 _ ?_; clear hK2 K2)
        refine sxf_nil (hK' _ ?_)
        refine AW.st (by simp [dNum, h2]; rfl) ?_
        clear hK' K'
        refine AW_cond false rfl (fun h => by cases h) (fun _ => ?_)
        refine AW_then fun K5 hK5 => ?_
        by_cases h3 : l[i].kind = 3
        · refine AW_rg (tyOf_good _) [3, 5, 6, 7, 8, 12, 13, 14, 39, 50] [5, 11, 21] (fun _ _ => trivial) fun K' hK' => ?_
          repeat (refine sxf_next fun K2 hK2 => ?_; simp [dNum, h3]; (repeat (refine ⟨by omega, ?_⟩)); refine hK2 _ ?_; clear hK2 K2)
          refine sxf_nil (hK' _ ?_)
          refine AW.st (by simp [dNum, h3]; rfl) ?_
          clear hK' K'
          refine AW_cond true rfl (fun _ => ?_) (fun h => by cases h)
          refine AW_skip ?_
          refine hK5 _ (AW.norm [3, 5, 6, 7, 8, 12, 13, 14, 39, 50] [5, 11, 21] (fun _ _ => trivial) (AW.st (by simp [dNum]; rfl) ?_))
          refine AW_cond true rfl (fun _ => ?_) (fun h => by cases h)
          refine AW_re (tyOf_good _) fun K' hK' => ?_
          repeat (refine sxf_next fun K2 hK2 => ?_; simp [dNum, h3]; (repeat (refine ⟨by omega, ?_⟩)); refine hK2 _ ?_; clear hK2 K2)
          refine sxf_nil (hK' _ ?_)
          clear hK' K'
          refine hK4 _ (AW.norm [3, 6, 12, 13, 14] [11, 21, 57] (fun _ _ => trivial) (AW.st (by simp [dNum, h3]; rfl) ?_))
          have hst : stepF (madeF l i) l[i] = .mk 3 [] [(madeF l i)[ja]] := by
            unfold stepF
            rw [if_neg h2, if_pos (by omega), hsa, h3]
          refine AW.imp (Imp.freeze 57 trivial) ?_
          refine AW.st (by simp [dNum]; rfl) ?_
          refine AW.imp (Imp.freezeB 21 trivial) ?_
          refine AW.st (by simp [dNum]; rfl) ?_
          refine AW.st (show _ = (⟨lst [(3, .own 11 0 (i + 1)), (6, .d (dF (stepF (madeF l i) l[i]))), (12, .d (dStps l)), (13, int l.length), (14, int i)], hlst [(11, .sl 40 1 ((madeF l i).map fun f => [dF f]))]⟩ : St) by rw [hst]; simp [dF, dFs, ofK, dS, bs_nil, dStps, hca, hcb, dNum]) ?_
          exact hrest.out
        refine AW_rg (tyOf_good _) [3, 5, 6, 7, 8, 12, 13, 14, 39, 50] [5, 11, 21] (fun _ _ => trivial) fun K' hK' => ?_
        repeat (refine sxf_next fun K2 hK2 => ?_; simp [dNum, h3]; (repeat (refine ⟨by omega, ?_⟩)); refine hK2 _ ?_; clear hK2 K2)
        refine sxf_nil (hK' _ ?_)
        refine AW.st (by simp [dNum, h3]; rfl) ?_
        clear hK' K'
        refine AW_cond false rfl (fun h => by cases h) (fun _ => ?_)
        by_cases h6 : l[i].kind = 6
        · refine AW_rg (tyOf_good _) [3, 5, 6, 7, 8, 12, 13, 14, 39, 50] [5, 11, 21] (fun _ _ => trivial) fun K' hK' => ?_
          repeat (refine sxf_next fun K2 hK2 => ?_; simp [dNum, h6]; (repeat (refine ⟨by omega, ?_⟩)); refine hK2 _ ?_; clear hK2 K2)
          refine sxf_nil (hK' _ ?_)
          refine AW.st (by simp [dNum, h6]; rfl) ?_
          clear hK' K'
          refine AW_cond true rfl (fun _ => ?_) (fun h => by cases h)
          refine AW_skip ?_
          refine hK5 _ (AW.norm [3, 5, 6, 7, 8, 12, 13, 14, 39, 50] [5, 11, 21] (fun _ _ => trivial) (AW.st (by simp [dNum]; rfl) ?_))
          refine AW_cond true rfl (fun _ => ?_) (fun h => by cases h)
          refine AW_re (tyOf_good _) fun K' hK' => ?_
          repeat (refine sxf_next fun K2 hK2 => ?_; simp [dNum, h6]; (repeat (refine ⟨by omega, ?_⟩)); refine hK2 _ ?_; clear hK2 K2)
          refine sxf_nil (hK' _ ?_)
          clear hK' K'
          refine hK4 _ (AW.norm [3, 6, 12, 13, 14] [11, 21, 57] (fun _ _ => trivial) (AW.st (by simp [dNum, h6]; rfl) ?_))
          have hst : stepF (madeF l i) l[i] = .mk 6 [] [(madeF l i)[ja]] := by
            unfold stepF
            rw [if_neg h2, if_pos (by omega), hsa, h6]
          refine AW.imp (Imp.freeze 57 trivial) ?_
          refine AW.st (by simp [dNum]; rfl) ?_
          refine AW.imp (Imp.freezeB 21 trivial) ?_
          refine AW.st (by simp [dNum]; rfl) ?_
          refine AW.st (show _ = (⟨lst [(3, .own 11 0 (i + 1)), (6, .d (dF (stepF (madeF l i) l[i]))), (12, .d (dStps l)), (13, int l.length), (14, int i)], hlst [(11, .sl 40 1 ((madeF l i).map fun f => [dF f]))]⟩ : St) by rw [hst]; simp [dF, dFs, ofK, dS, bs_nil, dStps, hca, hcb, dNum]) ?_
          exact hrest.out
        refine AW_rg (tyOf_good _) [3, 5, 6, 7, 8, 12, 13, 14, 39, 50] [5, 11, 21] (fun _ _ => trivial) fun K' hK' => ?_
        repeat (refine sxf_next fun K2 hK2 => ?_; simp [dNum, h6]; (repeat (refine ⟨by omega, ?_⟩)); refine hK2 _ ?_; clear hK2 K2)
        refine sxf_nil (hK' _ ?_)
        refine AW.st (by simp [dNum, h6]; rfl) ?_
        clear hK' K'
        refine AW_cond false rfl (fun h => by cases h) (fun _ => ?_)
        by_cases h9 : l[i].kind = 9
        · refine AW_rg (tyOf_good _) [3, 5, 6, 7, 8, 12, 13, 14, 39, 50] [5, 11, 21] (fun _ _ => trivial) fun K' hK' => ?_
          repeat (refine sxf_next fun K2 hK2 => ?_; simp [dNum, h9]; (repeat (refine ⟨by omega, ?_⟩)); refine hK2 _ ?_; clear hK2 K2)
          refine sxf_nil (hK' _ ?_)
          refine AW.st (by simp [dNum, h9]; rfl) ?_
          clear hK' K'
          refine AW_cond true rfl (fun _ => ?_) (fun h => by cases h)
          refine AW_skip ?_
          refine hK5 _ (AW.norm [3, 5, 6, 7, 8, 12, 13, 14, 39, 50] [5, 11, 21] (fun _ _ => trivial) (AW.st (by simp [dNum]; rfl) ?_))
          refine AW_cond true rfl (fun _ => ?_) (fun h => by cases h)
          refine AW_re (tyOf_good _) fun K' hK' => ?_
          repeat (refine sxf_next fun K2 hK2 => ?_; simp [dNum, h9]; (repeat (refine ⟨by omega, ?_⟩)); refine hK2 _ ?_; clear hK2 K2)
          refine sxf_nil (hK' _ ?_)
          clear hK' K'
          refine hK4 _ (AW.norm [3, 6, 12, 13, 14] [11, 21, 57] (fun _ _ => trivial) (AW.st (by simp [dNum, h9]; rfl) ?_))
          have hst : stepF (madeF l i) l[i] = .mk 9 [] [(madeF l i)[ja]] := by
            unfold stepF
            rw [if_neg h2, if_pos (by omega), hsa, h9]
          refine AW.imp (Imp.freeze 57 trivial) ?_
          refine AW.st (by simp [dNum]; rfl) ?_
          refine AW.imp (Imp.freezeB 21 trivial) ?_
          refine AW.st (by simp [dNum]; rfl) ?_
          refine AW.st (show _ = (⟨lst [(3, .own 11 0 (i + 1)), (6, .d (dF (stepF (madeF l i) l[i]))), (12, .d (dStps l)), (13, int l.length), (14, int i)], hlst [(11, .sl 40 1 ((madeF l i).map fun f => [dF f]))]⟩ : St) by rw [hst]; simp [dF, dFs, ofK, dS, bs_nil, dStps, hca, hcb, dNum]) ?_
          exact hrest.out
        refine AW_rg (tyOf_good _) [3, 5, 6, 7, 8, 12, 13, 14, 39, 50] [5, 11, 21] (fun _ _ => trivial) fun K' hK' => ?_
        repeat (refine sxf_next fun K2 hK2 => ?_; simp [dNum, h9]; (repeat (refine ⟨by omega, ?_⟩)); refine hK2 _ ?_; clear hK2 K2)
        refine sxf_nil (hK' _ ?_)
        refine AW.st (by simp [dNum, h9]; rfl) ?_
        clear hK' K'
        refine AW_cond false rfl (fun h => by cases h) (fun _ => ?_)
        by_cases h10 : l[i].kind = 10
        · refine AW_re (tyOf_good _) fun K' hK' => ?_
          repeat (refine sxf_next fun K2 hK2 => ?_; simp [dNum, h10]; (repeat (refine ⟨by omega, ?_⟩)); refine hK2 _ ?_; clear hK2 K2)
          refine sxf_nil (hK' _ ?_)
          clear hK' K'
          refine hK5 _ (AW.norm [3, 5, 6, 7, 8, 12, 13, 14, 39, 50] [5, 11, 21] (fun _ _ => trivial) (AW.st (by simp [dNum, h10]; rfl) ?_))
          refine AW_cond true rfl (fun _ => ?_) (fun h => by cases h)
          refine AW_re (tyOf_good _) fun K' hK' => ?_
          repeat (refine sxf_next fun K2 hK2 => ?_; simp [dNum, h10]; (repeat (refine ⟨by omega, ?_⟩)); refine hK2 _ ?_; clear hK2 K2)
          refine sxf_nil (hK' _ ?_)
          clear hK' K'
          refine hK4 _ (AW.norm [3, 6, 12, 13, 14] [11, 21, 57] (fun _ _ => trivial) (AW.st (by simp [dNum, h10]; rfl) ?_))
          have hst : stepF (madeF l i) l[i] = .mk 10 [] [(madeF l i)[ja]] := by
            unfold stepF
            rw [if_neg h2, if_pos (by omega), hsa, h10]
          refine AW.imp (Imp.freeze 57 trivial) ?_
          refine AW.st (by simp [dNum]; rfl) ?_
          refine AW.imp (Imp.freezeB 21 trivial) ?_
          refine AW.st (by simp [dNum]; rfl) ?_
          refine AW.st (show _ = (⟨lst [(3, .own 11 0 (i + 1)), (6, .d (dF (stepF (madeF l i) l[i]))), (12, .d (dStps l)), (13, int l.length), (14, int i)], hlst [(11, .sl 40 1 ((madeF l i).map fun f => [dF f]))]⟩ : St) by rw [hst]; simp [dF, dFs, ofK, dS, bs_nil, dStps, hca, hcb, dNum]) ?_
          exact hrest.out
        refine AW_re (tyOf_good _) fun K' hK' => ?_
        repeat (refine sxf_next fun K2 hK2 => ?_; simp [dNum, h10]; (repeat (refine ⟨by omega, ?_⟩)); refine hK2 _ ?_; clear hK2 K2)
        refine sxf_nil (hK' _ ?_)
        clear hK' K'
        refine hK5 _ (AW.norm [3, 5, 6, 7, 8, 12, 13, 14, 39, 50] [5, 11, 21] (fun _ _ => trivial) (AW.st (by simp [dNum, h10]; rfl) ?_))
        refine AW_cond false rfl (fun h => by cases h) (fun _ => ?_)
        refine AW_then fun K6 hK6 => ?_
        by_cases h4 : l[i].kind = 4
        · refine AW_rg (tyOf_good _) [3, 5, 6, 7, 8, 12, 13, 14, 39, 60] [5, 11, 21] (fun _ _ => trivial) fun K' hK' => ?_
          repeat (refine sxf_next fun K2 hK2 => ?_; simp [dNum, h4]; (repeat (refine ⟨by omega, ?_⟩)); refine hK2 _ ?_; clear hK2 K2)
          refine sxf_nil (hK' _ ?_)
          refine AW.st (by simp [dNum, h4]; rfl) ?_
          clear hK' K'
          refine AW_cond true rfl (fun _ => ?_) (fun h => by cases h)
          refine AW_skip ?_
          refine hK6 _ (AW.norm [3, 5, 6, 7, 8, 12, 13, 14, 39, 60] [5, 11, 21] (fun _ _ => trivial) (AW.st (by simp [dNum]; rfl) ?_))
          refine AW_cond true rfl (fun _ => ?_) (fun h => by cases h)
          refine AW_re (tyOf_good _) fun K' hK' => ?_
          repeat (refine sxf_next fun K2 hK2 => ?_; simp [dNum, h4]; (repeat (refine ⟨by omega, ?_⟩)); refine hK2 _ ?_; clear hK2 K2)
          refine sxf_nil (hK' _ ?_)
          clear hK' K'
          refine hK4 _ (AW.norm [3, 6, 12, 13, 14] [11, 21, 68] (fun _ _ => trivial) (AW.st (by simp [dNum, h4]; rfl) ?_))
          have hst : stepF (madeF l i) l[i] = .mk 4 [] [(madeF l i)[ja], (madeF l i)[jb]] := by
            unfold stepF
            rw [if_neg h2, if_neg (by omega), if_pos (by omega), hsa, hsb, h4]
          refine AW.imp (Imp.freeze 68 trivial) ?_
          refine AW.st (by simp [dNum]; rfl) ?_
          refine AW.imp (Imp.freezeB 21 trivial) ?_
          refine AW.st (by simp [dNum]; rfl) ?_
          refine AW.st (show _ = (⟨lst [(3, .own 11 0 (i + 1)), (6, .d (dF (stepF (madeF l i) l[i]))), (12, .d (dStps l)), (13, int l.length), (14, int i)], hlst [(11, .sl 40 1 ((madeF l i).map fun f => [dF f]))]⟩ : St) by rw [hst]; simp [dF, dFs, ofK, dS, bs_nil, dStps, hca, hcb, dNum]) ?_
          exact hrest.out
        refine AW_rg (tyOf_good _) [3, 5, 6, 7, 8, 12, 13, 14, 39, 60] [5, 11, 21] (fun _ _ => trivial) fun K' hK' => ?_
        repeat (refine sxf_next fun K2 hK2 => ?_; simp [dNum, h4]; (repeat (refine ⟨by omega, ?_⟩)); refine hK2 _ ?_; clear hK2 K2)
        refine sxf_nil (hK' _ ?_)
        refine AW.st (by simp [dNum, h4]; rfl) ?_
        clear hK' K'
        refine AW_cond false rfl (fun h => by cases h) (fun _ => ?_)
        by_cases h5 : l[i].kind = 5
        · refine AW_rg (tyOf_good _) [3, 5, 6, 7, 8, 12, 13, 14, 39, 60] [5, 11, 21] (fun _ _ => trivial) fun K' hK' => ?_
          repeat (refine sxf_next fun K2 hK2 => ?_; simp [dNum, h5]; (repeat (refine ⟨by omega, ?_⟩)); refine hK2 _ ?_; clear hK2 K2)
          refine sxf_nil (hK' _ ?_)
          refine AW.st (by simp [dNum, h5]; rfl) ?_
          clear hK' K'
          refine AW_cond true rfl (fun _ => ?_) (fun h => by cases h)
          refine AW_skip ?_
          refine hK6 _ (AW.norm [3, 5, 6, 7, 8, 12, 13, 14, 39, 60] [5, 11, 21] (fun _ _ => trivial) (AW.st (by simp [dNum]; rfl) ?_))
          refine AW_cond true rfl (fun _ => ?_) (fun h => by cases h)
          refine AW_re (tyOf_good _) fun K' hK' => ?_
          repeat (refine sxf_next fun K2 hK2 => ?_; simp [dNum, h5]; (repeat (refine ⟨by omega, ?_⟩)); refine hK2 _ ?_; clear hK2 K2)
          refine sxf_nil (hK' _ ?_)
          clear hK' K'
          refine hK4 _ (AW.norm [3, 6, 12, 13, 14] [11, 21, 68] (fun _ _ => trivial) (AW.st (by simp [dNum, h5]; rfl) ?_))
          have hst : stepF (madeF l i) l[i] = .mk 5 [] [(madeF l i)[ja], (madeF l i)[jb]] := by
            unfold stepF
            rw [if_neg h2, if_neg (by omega), if_pos (by omega), hsa, hsb, h5]
          refine AW.imp (Imp.freeze 68 trivial) ?_
          refine AW.st (by simp [dNum]; rfl) ?_
          refine AW.imp (Imp.freezeB 21 trivial) ?_
          refine AW.st (by simp [dNum]; rfl) ?_
          refine AW.st (show _ = (⟨lst [(3, .own 11 0 (i + 1)), (6, .d (dF (stepF (madeF l i) l[i]))), (12, .d (dStps l)), (13, int l.length), (14, int i)], hlst [(11, .sl 40 1 ((madeF l i).map fun f => [dF f]))]⟩ : St) by rw [hst]; simp [dF, dFs, ofK, dS, bs_nil, dStps, hca, hcb, dNum]) ?_
          exact hrest.out
        refine AW_rg (tyOf_good _) [3, 5, 6, 7, 8, 12, 13, 14, 39, 60] [5, 11, 21] (fun _ _ => trivial) fun K' hK' => ?_
        repeat (refine sxf_next fun K2 hK2 => ?_; simp [dNum, h5]; (repeat (refine ⟨by omega, ?_⟩)); refine hK2 _ ?_; clear hK2 K2)
        refine sxf_nil (hK' _ ?_)
        refine AW.st (by simp [dNum, h5]; rfl) ?_
        clear hK' K'
        refine AW_cond false rfl (fun h => by cases h) (fun _ => ?_)
        by_cases h7 : l[i].kind = 7
        · refine AW_rg (tyOf_good _) [3, 5, 6, 7, 8, 12, 13, 14, 39, 60] [5, 11, 21] (fun _ _ => trivial) fun K' hK' => ?_
          repeat (refine sxf_next fun K2 hK2 => ?_; simp [dNum, h7]; (repeat (refine ⟨by omega, ?_⟩)); refine hK2 _ ?_; clear hK2 K2)
          refine sxf_nil (hK' _ ?_)
          refine AW.st (by simp [dNum, h7]; rfl) ?_
          clear hK' K'
          refine AW_cond true rfl (fun _ => ?_) (fun h => by cases h)
          refine AW_skip ?_
          refine hK6 _ (AW.norm [3, 5, 6, 7, 8, 12, 13, 14, 39, 60] [5, 11, 21] (fun _ _ => trivial) (AW.st (by simp [dNum]; rfl) ?_))
          refine AW_cond true rfl (fun _ => ?_) (fun h => by cases h)
          refine AW_re (tyOf_good _) fun K' hK' => ?_
          repeat (refine sxf_next fun K2 hK2 => ?_; simp [dNum, h7]; (repeat (refine ⟨by omega, ?_⟩)); refine hK2 _ ?_; clear hK2 K2)
          refine sxf_nil (hK' _ ?_)
          clear hK' K'
          refine hK4 _ (AW.norm [3, 6, 12, 13, 14] [11, 21, 68] (fun _ _ => trivial) (AW.st (by simp [dNum, h7]; rfl) ?_))
          have hst : stepF (madeF l i) l[i] = .mk 7 [] [(madeF l i)[ja], (madeF l i)[jb]] := by
            unfold stepF
            rw [if_neg h2, if_neg (by omega), if_pos (by omega), hsa, hsb, h7]
          refine AW.imp (Imp.freeze 68 trivial) ?_
          refine AW.st (by simp [dNum]; rfl) ?_
          refine AW.imp (Imp.freezeB 21 trivial) ?_
          refine AW.st (by simp [dNum]; rfl) ?_
          refine AW.st (show _ = (⟨lst [(3, .own 11 0 (i + 1)), (6, .d (dF (stepF (madeF l i) l[i]))), (12, .d (dStps l)), (13, int l.length), (14, int i)], hlst [(11, .sl 40 1 ((madeF l i).map fun f => [dF f]))]⟩ : St) by rw [hst]; simp [dF, dFs, ofK, dS, bs_nil, dStps, hca, hcb, dNum]) ?_
          exact hrest.out
        refine AW_rg (tyOf_good _) [3, 5, 6, 7, 8, 12, 13, 14, 39, 60] [5, 11, 21] (fun _ _ => trivial) fun K' hK' => ?_
        repeat (refine sxf_next fun K2 hK2 => ?_; simp [dNum, h7]; (repeat (refine ⟨by omega, ?_⟩)); refine hK2 _ ?_; clear hK2 K2)
        refine sxf_nil (hK' _ ?_)
        refine AW.st (by simp [dNum, h7]; rfl) ?_
        clear hK' K'
        refine AW_cond false rfl (fun h => by cases h) (fun _ => ?_)
        by_cases h8 : l[i].kind = 8
        · refine AW_re (tyOf_good _) fun K' hK' => ?_
          repeat (refine sxf_next fun K2 hK2 => ?_; simp [dNum, h8]; (repeat (refine ⟨by omega, ?_⟩)); refine hK2 _ ?_; clear hK2 K2)
          refine sxf_nil (hK' _ ?_)
          clear hK' K'
          refine hK6 _ (AW.norm [3, 5, 6, 7, 8, 12, 13, 14, 39, 60] [5, 11, 21] (fun _ _ => trivial) (AW.st (by simp [dNum, h8]; rfl) ?_))
          refine AW_cond true rfl (fun _ => ?_) (fun h => by cases h)
          refine AW_re (tyOf_good _) fun K' hK' => ?_
          repeat (refine sxf_next fun K2 hK2 => ?_; simp [dNum, h8]; (repeat (refine ⟨by omega, ?_⟩)); refine hK2 _ ?_; clear hK2 K2)
          refine sxf_nil (hK' _ ?_)
          clear hK' K'
          refine hK4 _ (AW.norm [3, 6, 12, 13, 14] [11, 21, 68] (fun _ _ => trivial) (AW.st (by simp [dNum, h8]; rfl) ?_))
          have hst : stepF (madeF l i) l[i] = .mk 8 [] [(madeF l i)[ja], (madeF l i)[jb]] := by
            unfold stepF
            rw [if_neg h2, if_neg (by omega), if_pos (by omega), hsa, hsb, h8]
          refine AW.imp (Imp.freeze 68 trivial) ?_
          refine AW.st (by simp [dNum]; rfl) ?_
          refine AW.imp (Imp.freezeB 21 trivial) ?_
          refine AW.st (by simp [dNum]; rfl) ?_
          refine AW.st (show _ = (⟨lst [(3, .own 11 0 (i + 1)), (6, .d (dF (stepF (madeF l i) l[i]))), (12, .d (dStps l)), (13, int l.length), (14, int i)], hlst [(11, .sl 40 1 ((madeF l i).map fun f => [dF f]))]⟩ : St) by rw [hst]; simp [dF, dFs, ofK, dS, bs_nil, dStps, hca, hcb, dNum]) ?_
          exact hrest.out
        refine AW_re (tyOf_good _) fun K' hK' => ?_
        repeat (refine sxf_next fun K2 hK2 => ?_; simp [dNum, h8]; (repeat (refine ⟨by omega, ?_⟩)); refine hK2 _ ?_; clear hK2 K2)
        refine sxf_nil (hK' _ ?_)
        clear hK' K'
        refine hK6 _ (AW.norm [3, 5, 6, 7, 8, 12, 13, 14, 39, 60] [5, 11, 21] (fun _ _ => trivial) (AW.st (by simp [dNum, h8]; rfl) ?_))
        refine AW_cond false rfl (fun h => by cases h) (fun _ => ?_)
        refine AW_rdge (tyOf_good _) (by kernel_rfl) [(3, 5), (6, 21), (9, 21)] (by kernel_rfl) fun K' hK' => ?_
        repeat (refine sxg_next fun K2 hK2 => ?_; simp [dNum]; (repeat (refine ⟨by omega, ?_⟩)); refine hK2 _ ?_; clear hK2 K2)
        refine sxg_nil (hK' _ ?_)
        clear hK' K'
        refine hK4 _ (AW.norm [3, 6, 12, 13, 14] [11, 21] (fun _ _ => trivial) (AW.st (by simp [dNum]; rfl) ?_))
        have hst : stepF (madeF l i) l[i] = .mk 1 l[i].name [] := by
          unfold stepF
          rw [if_neg h2, if_neg (by omega), if_neg (by omega)]
        refine AW.imp (Imp.freezeB 21 trivial) ?_
        refine AW.st (by simp [dNum]; rfl) ?_
        refine AW.st (show _ = (⟨lst [(3, .own 11 0 (i + 1)), (6, .d (dF (stepF (madeF l i) l[i]))), (12, .d (dStps l)), (13, int l.length), (14, int i)], hlst [(11, .sl 40 1 ((madeF l i).map fun f => [dF f]))]⟩ : St) by rw [hst]; simp [dF, dFs, ofK, dS, bs_nil, dStps, hca, hcb, dNum]) ?_
        exact hrest.out
      · obtain ⟨cg, hcg⟩ := (stepF_mk (madeF l i) l[i]).ip
        rw [hcg]
        have hpt : List.take (i + 1) (List.map (fun f => [dF f]) (madeF l i)) = List.map (fun f => [dF f]) (madeF l i) := List.take_of_length_le (by simp [hml])
        refine AW_re (tyOf_good _) fun K' hK' => ?_
        repeat (refine sxf_next fun K2 hK2 => ?_; simp [dNum, hml, hpt]; (repeat (refine ⟨by omega, ?_⟩)); refine hK2 _ ?_; clear hK2 K2)
        refine sxf_nil (hK' _ ?_)
        clear hK' K'
        refine hK3 _ (AW.norm [3, 12, 13, 14] [11] (fun _ _ => trivial) (AW.st (by simp [dNum, hml, hpt]; rfl) ?_))
        refine AW_re (tyOf_good _) fun K' hK' => ?_
        repeat (refine sxf_next fun K2 hK2 => ?_; simp [dNum]; (repeat (refine ⟨by omega, ?_⟩)); refine hK2 _ ?_; clear hK2 K2)
        refine sxf_nil (hK' _ ?_)
        clear hK' K'
        try simp only [thn, inb]
        refine Again.mk (i + 1) (by omega) (by omega) ?_
        refine Imp.to' (fun _ _ => trivial) (by simp [dNum, dStps, hms, hcg]) (by simp [dNum, dStps, hms, hcg])
    · obtain rfl : i = l.length := by omega
      have hlast : IsMk ((madeF l l.length)[l.length]'(by omega)) := madeF_mk l _ _ (List.getElem_mem _)
      obtain ⟨c, hc⟩ := hlast.ip
      have hlt : l.length < (madeF l l.length).length := by omega
      have hfo : formF l = (madeF l l.length)[l.length]'hlt := by unfold formF; simp [hlt]
      refine AW_exit (hK1 _ ?_)
      refine AW_rg (tyOf_good _) [2] [] (fun _ _ => trivial) fun K' hK' => ?_
      repeat (refine sxf_next fun K2 hK2 => ?_; simp [dNum, hml, hc, hlt]; (repeat (refine ⟨by omega, ?_⟩)); refine hK2 _ ?_; clear hK2 K2)
      refine sxf_nil (hK' _ ?_)
      refine AW.st (by simp [dNum, hml, hc, hlt]; rfl) ?_
      clear hK' K'
      refine AW_ret ?_
      simp [D.le, D.le.go, takeMap, dNum, hfo, hc]
      exact D.leGo_refl _
#print axioms formula_spec
end Go.Proofs.YtblafkekblaibaaDoor

/-
  What is worked out until nothing changes: lasso.holds's own functions.
-/
namespace Go.Proofs.YtblafkekblaibaaDoor
set_option linter.unusedSimpArgs false
set_option linter.unusedVariables false
open Go.Av

def dB (b : Bool) : D := .v (.bool b)
def dBs (l : List Bool) : D := .sl none (l.map fun b => [dB b])
def dOf (l : List (List Bool)) : D := .sl none (l.map fun x => [dBs x])
def dNames (l : List (List UInt8)) : D := .sl none (l.map fun s => [dS s])
def dTimes (l : List (List (List UInt8))) : D := .sl none (l.map fun t => [dNames t])
def nxF (ah n i : Nat) : Nat := if i + 1 = n then ah else i + 1

theorem next_spec (G : Glob) (a r : List (List (List UInt8))) (n i : Nat) (hi : i < 2^60) (hn : n < 2^60) : PureC Tryd.prog G 65 [dNum i, .ip [dNum n], .ip [dTimes a, dTimes r]] (dNum (nxF a.length n i)) := by
  unfold nxF
  refine PureC.of_body (tyOf_good _) Tryd.func65 rfl rfl (rs := [.tmp 4]) Tryd.results65 (by simp [Tryd.ntmps65]) fun X => ?_
  simp only [Tryd.ntmps65, List.map]
  refine AW_rg (tyOf_good _) [0, 1, 2] [] (fun _ _ => trivial) fun K' hK' => ?_
  repeat (refine sxf_next fun K2 hK2 => ?_; simp [dNum, dTimes]; (repeat (refine ⟨by omega, ?_⟩)); refine hK2 _ ?_; clear hK2 K2)
  refine sxf_nil (hK' _ ?_)
  refine AW.st (by simp [dNum, dTimes]; rfl) ?_
  clear hK' K'
  refine AW_then fun K1 hK1 => ?_
  by_cases h : i + 1 = n
  · have h' : (i : Int) + 1 = n := by omega
    refine AW_rg (tyOf_good _) [0, 2, 8] [] (fun _ _ => trivial) fun K' hK' => ?_
    repeat (refine sxf_next fun K2 hK2 => ?_; simp [dNum, dTimes, h']; (repeat (refine ⟨by omega, ?_⟩)); refine hK2 _ ?_; clear hK2 K2)
    refine sxf_nil (hK' _ ?_)
    refine AW.st (by simp [dNum, dTimes, h']; rfl) ?_
    clear hK' K'
    refine AW_cond true rfl (fun _ => ?_) (fun h => by cases h)
    refine AW_rg (tyOf_good _) [4] [] (fun _ _ => trivial) fun K' hK' => ?_
    repeat (refine sxf_next fun K2 hK2 => ?_; simp [dNum, dTimes]; (repeat (refine ⟨by omega, ?_⟩)); refine hK2 _ ?_; clear hK2 K2)
    refine sxf_nil (hK' _ ?_)
    refine AW.st (by simp [dNum, dTimes]; rfl) ?_
    clear hK' K'
    refine AW_ret ?_
    simp [D.le, D.le.go, takeMap, dNum, dTimes, h]
  · have h' : ¬ (i : Int) + 1 = n := by omega
    refine AW_rg (tyOf_good _) [0, 2, 8] [] (fun _ _ => trivial) fun K' hK' => ?_
    repeat (refine sxf_next fun K2 hK2 => ?_; simp [dNum, dTimes, h']; (repeat (refine ⟨by omega, ?_⟩)); refine hK2 _ ?_; clear hK2 K2)
    refine sxf_nil (hK' _ ?_)
    refine AW.st (by simp [dNum, dTimes, h']; rfl) ?_
    clear hK' K'
    refine AW_cond false rfl (fun h => by cases h) (fun _ => ?_)
    refine AW_skip (hK1 _ ?_)
    refine AW_rg (tyOf_good _) [4] [] (fun _ _ => trivial) fun K' hK' => ?_
    repeat (refine sxf_next fun K2 hK2 => ?_; simp [dNum, dTimes]; (repeat (refine ⟨by omega, ?_⟩)); refine hK2 _ ?_; clear hK2 K2)
    refine sxf_nil (hK' _ ?_)
    refine AW.st (by simp [dNum, dTimes]; rfl) ?_
    clear hK' K'
    refine AW_ret ?_
    simp [D.le, D.le.go, takeMap, dNum, dTimes, h]

theorem until_spec (G : Glob) (o0 o1 : List Bool) (i : Nat) (b : Bool) (h0 : i < o0.length) (h1 : i < o1.length) : PureC Tryd.prog G 67 [dNum i, dB b, .ip [dOf [o0, o1]]] (dB (o1[i] || (o0[i] && b))) := by
  cases hb1 : o1[i] with
  | true =>
    refine PureC.of_body (tyOf_good _) Tryd.func67 rfl rfl (rs := [.tmp 5]) Tryd.results67 (by simp [Tryd.ntmps67]) fun X => ?_
    simp only [Tryd.ntmps67, List.map]
    refine AW_rg (tyOf_good _) [0, 1, 2] [] (fun _ _ => trivial) fun K' hK' => ?_
    repeat (refine sxf_next fun K2 hK2 => ?_; simp [dNum, dB, dOf, dBs]; (repeat (refine ⟨by omega, ?_⟩)); refine hK2 _ ?_; clear hK2 K2)
    refine sxf_nil (hK' _ ?_)
    refine AW.st (by simp [dNum, dB, dOf, dBs]; rfl) ?_
    clear hK' K'
    refine AW_rg (tyOf_good _) [5] [] (fun _ _ => trivial) fun K' hK' => ?_
    repeat (refine sxf_next fun K2 hK2 => ?_; simp [dNum, dB, dOf, dBs, h0, h1, hb1]; (repeat (refine ⟨by omega, ?_⟩)); refine hK2 _ ?_; clear hK2 K2)
    refine sxf_nil (hK' _ ?_)
    refine AW.st (by simp [dNum, dB, dOf, dBs, h0, h1, hb1]; rfl) ?_
    clear hK' K'
    refine AW_ret ?_
    simp [D.le, D.le.go, takeMap, dNum, dB, dOf, dBs]
  | false =>
    cases hb0 : o0[i] with
    | true =>
      refine PureC.of_body (tyOf_good _) Tryd.func67 rfl rfl (rs := [.tmp 5]) Tryd.results67 (by simp [Tryd.ntmps67]) fun X => ?_
      simp only [Tryd.ntmps67, List.map]
      refine AW_rg (tyOf_good _) [0, 1, 2] [] (fun _ _ => trivial) fun K' hK' => ?_
      repeat (refine sxf_next fun K2 hK2 => ?_; simp [dNum, dB, dOf, dBs]; (repeat (refine ⟨by omega, ?_⟩)); refine hK2 _ ?_; clear hK2 K2)
      refine sxf_nil (hK' _ ?_)
      refine AW.st (by simp [dNum, dB, dOf, dBs]; rfl) ?_
      clear hK' K'
      refine AW_rg (tyOf_good _) [5] [] (fun _ _ => trivial) fun K' hK' => ?_
      repeat (refine sxf_next fun K2 hK2 => ?_; simp [dNum, dB, dOf, dBs, h0, h1, hb1, hb0]; (repeat (refine ⟨by omega, ?_⟩)); refine hK2 _ ?_; clear hK2 K2)
      refine sxf_nil (hK' _ ?_)
      refine AW.st (by simp [dNum, dB, dOf, dBs, h0, h1, hb1, hb0]; rfl) ?_
      clear hK' K'
      refine AW_ret ?_
      simp [D.le, D.le.go, takeMap, dNum, dB, dOf, dBs]
    | false =>
      refine PureC.of_body (tyOf_good _) Tryd.func67 rfl rfl (rs := [.tmp 5]) Tryd.results67 (by simp [Tryd.ntmps67]) fun X => ?_
      simp only [Tryd.ntmps67, List.map]
      refine AW_rg (tyOf_good _) [0, 1, 2] [] (fun _ _ => trivial) fun K' hK' => ?_
      repeat (refine sxf_next fun K2 hK2 => ?_; simp [dNum, dB, dOf, dBs]; (repeat (refine ⟨by omega, ?_⟩)); refine hK2 _ ?_; clear hK2 K2)
      refine sxf_nil (hK' _ ?_)
      refine AW.st (by simp [dNum, dB, dOf, dBs]; rfl) ?_
      clear hK' K'
      refine AW_rg (tyOf_good _) [5] [] (fun _ _ => trivial) fun K' hK' => ?_
      repeat (refine sxf_next fun K2 hK2 => ?_; simp [dNum, dB, dOf, dBs, h0, h1, hb1, hb0]; (repeat (refine ⟨by omega, ?_⟩)); refine hK2 _ ?_; clear hK2 K2)
      refine sxf_nil (hK' _ ?_)
      refine AW.st (by simp [dNum, dB, dOf, dBs, h0, h1, hb1, hb0]; rfl) ?_
      clear hK' K'
      refine AW_ret ?_
      simp [D.le, D.le.go, takeMap, dNum, dB, dOf, dBs]
theorem release_spec (G : Glob) (o0 o1 : List Bool) (i : Nat) (b : Bool) (h0 : i < o0.length) (h1 : i < o1.length) : PureC Tryd.prog G 68 [dNum i, dB b, .ip [dOf [o0, o1]]] (dB (o1[i] && (o0[i] || b))) := by
  cases hb1 : o1[i] with
  | false =>
    refine PureC.of_body (tyOf_good _) Tryd.func68 rfl rfl (rs := [.tmp 5]) Tryd.results68 (by simp [Tryd.ntmps68]) fun X => ?_
    simp only [Tryd.ntmps68, List.map]
    refine AW_rg (tyOf_good _) [0, 1, 2] [] (fun _ _ => trivial) fun K' hK' => ?_
    repeat (refine sxf_next fun K2 hK2 => ?_; simp [dNum, dB, dOf, dBs]; (repeat (refine ⟨by omega, ?_⟩)); refine hK2 _ ?_; clear hK2 K2)
    refine sxf_nil (hK' _ ?_)
    refine AW.st (by simp [dNum, dB, dOf, dBs]; rfl) ?_
    clear hK' K'
    refine AW_rg (tyOf_good _) [5] [] (fun _ _ => trivial) fun K' hK' => ?_
    repeat (refine sxf_next fun K2 hK2 => ?_; simp [dNum, dB, dOf, dBs, h0, h1, hb1]; (repeat (refine ⟨by omega, ?_⟩)); refine hK2 _ ?_; clear hK2 K2)
    refine sxf_nil (hK' _ ?_)
    refine AW.st (by simp [dNum, dB, dOf, dBs, h0, h1, hb1]; rfl) ?_
    clear hK' K'
    refine AW_ret ?_
    simp [D.le, D.le.go, takeMap, dNum, dB, dOf, dBs]
  | true =>
    cases hb0 : o0[i] with
    | true =>
      refine PureC.of_body (tyOf_good _) Tryd.func68 rfl rfl (rs := [.tmp 5]) Tryd.results68 (by simp [Tryd.ntmps68]) fun X => ?_
      simp only [Tryd.ntmps68, List.map]
      refine AW_rg (tyOf_good _) [0, 1, 2] [] (fun _ _ => trivial) fun K' hK' => ?_
      repeat (refine sxf_next fun K2 hK2 => ?_; simp [dNum, dB, dOf, dBs]; (repeat (refine ⟨by omega, ?_⟩)); refine hK2 _ ?_; clear hK2 K2)
      refine sxf_nil (hK' _ ?_)
      refine AW.st (by simp [dNum, dB, dOf, dBs]; rfl) ?_
      clear hK' K'
      refine AW_rg (tyOf_good _) [5] [] (fun _ _ => trivial) fun K' hK' => ?_
      repeat (refine sxf_next fun K2 hK2 => ?_; simp [dNum, dB, dOf, dBs, h0, h1, hb1, hb0]; (repeat (refine ⟨by omega, ?_⟩)); refine hK2 _ ?_; clear hK2 K2)
      refine sxf_nil (hK' _ ?_)
      refine AW.st (by simp [dNum, dB, dOf, dBs, h0, h1, hb1, hb0]; rfl) ?_
      clear hK' K'
      refine AW_ret ?_
      simp [D.le, D.le.go, takeMap, dNum, dB, dOf, dBs]
    | false =>
      refine PureC.of_body (tyOf_good _) Tryd.func68 rfl rfl (rs := [.tmp 5]) Tryd.results68 (by simp [Tryd.ntmps68]) fun X => ?_
      simp only [Tryd.ntmps68, List.map]
      refine AW_rg (tyOf_good _) [0, 1, 2] [] (fun _ _ => trivial) fun K' hK' => ?_
      repeat (refine sxf_next fun K2 hK2 => ?_; simp [dNum, dB, dOf, dBs]; (repeat (refine ⟨by omega, ?_⟩)); refine hK2 _ ?_; clear hK2 K2)
      refine sxf_nil (hK' _ ?_)
      refine AW.st (by simp [dNum, dB, dOf, dBs]; rfl) ?_
      clear hK' K'
      refine AW_rg (tyOf_good _) [5] [] (fun _ _ => trivial) fun K' hK' => ?_
      repeat (refine sxf_next fun K2 hK2 => ?_; simp [dNum, dB, dOf, dBs, h0, h1, hb1, hb0]; (repeat (refine ⟨by omega, ?_⟩)); refine hK2 _ ?_; clear hK2 K2)
      refine sxf_nil (hK' _ ?_)
      refine AW.st (by simp [dNum, dB, dOf, dBs, h0, h1, hb1, hb0]; rfl) ?_
      clear hK' K'
      refine AW_ret ?_
      simp [D.le, D.le.go, takeMap, dNum, dB, dOf, dBs]
theorem ever_spec (G : Glob) (o0 : List Bool) (i : Nat) (b : Bool) (h0 : i < o0.length) : PureC Tryd.prog G 69 [dNum i, dB b, .ip [dOf [o0]]] (dB (o0[i] || b)) := by
  cases hb0 : o0[i] with
  | true =>
    refine PureC.of_body (tyOf_good _) Tryd.func69 rfl rfl (rs := [.tmp 5]) Tryd.results69 (by simp [Tryd.ntmps69]) fun X => ?_
    simp only [Tryd.ntmps69, List.map]
    refine AW_rg (tyOf_good _) [0, 1, 2] [] (fun _ _ => trivial) fun K' hK' => ?_
    repeat (refine sxf_next fun K2 hK2 => ?_; simp [dNum, dB, dOf, dBs]; (repeat (refine ⟨by omega, ?_⟩)); refine hK2 _ ?_; clear hK2 K2)
    refine sxf_nil (hK' _ ?_)
    refine AW.st (by simp [dNum, dB, dOf, dBs]; rfl) ?_
    clear hK' K'
    refine AW_rg (tyOf_good _) [5] [] (fun _ _ => trivial) fun K' hK' => ?_
    repeat (refine sxf_next fun K2 hK2 => ?_; simp [dNum, dB, dOf, dBs, h0, hb0]; (repeat (refine ⟨by omega, ?_⟩)); refine hK2 _ ?_; clear hK2 K2)
    refine sxf_nil (hK' _ ?_)
    refine AW.st (by simp [dNum, dB, dOf, dBs, h0, hb0]; rfl) ?_
    clear hK' K'
    refine AW_ret ?_
    simp [D.le, D.le.go, takeMap, dNum, dB, dOf, dBs]
  | false =>
    refine PureC.of_body (tyOf_good _) Tryd.func69 rfl rfl (rs := [.tmp 5]) Tryd.results69 (by simp [Tryd.ntmps69]) fun X => ?_
    simp only [Tryd.ntmps69, List.map]
    refine AW_rg (tyOf_good _) [0, 1, 2] [] (fun _ _ => trivial) fun K' hK' => ?_
    repeat (refine sxf_next fun K2 hK2 => ?_; simp [dNum, dB, dOf, dBs]; (repeat (refine ⟨by omega, ?_⟩)); refine hK2 _ ?_; clear hK2 K2)
    refine sxf_nil (hK' _ ?_)
    refine AW.st (by simp [dNum, dB, dOf, dBs]; rfl) ?_
    clear hK' K'
    refine AW_rg (tyOf_good _) [5] [] (fun _ _ => trivial) fun K' hK' => ?_
    repeat (refine sxf_next fun K2 hK2 => ?_; simp [dNum, dB, dOf, dBs, h0, hb0]; (repeat (refine ⟨by omega, ?_⟩)); refine hK2 _ ?_; clear hK2 K2)
    refine sxf_nil (hK' _ ?_)
    refine AW.st (by simp [dNum, dB, dOf, dBs, h0, hb0]; rfl) ?_
    clear hK' K'
    refine AW_ret ?_
    simp [D.le, D.le.go, takeMap, dNum, dB, dOf, dBs]
theorem always_spec (G : Glob) (o0 : List Bool) (i : Nat) (b : Bool) (h0 : i < o0.length) : PureC Tryd.prog G 70 [dNum i, dB b, .ip [dOf [o0]]] (dB (o0[i] && b)) := by
  cases hb0 : o0[i] with
  | true =>
    refine PureC.of_body (tyOf_good _) Tryd.func70 rfl rfl (rs := [.tmp 5]) Tryd.results70 (by simp [Tryd.ntmps70]) fun X => ?_
    simp only [Tryd.ntmps70, List.map]
    refine AW_rg (tyOf_good _) [0, 1, 2] [] (fun _ _ => trivial) fun K' hK' => ?_
    repeat (refine sxf_next fun K2 hK2 => ?_; simp [dNum, dB, dOf, dBs]; (repeat (refine ⟨by omega, ?_⟩)); refine hK2 _ ?_; clear hK2 K2)
    refine sxf_nil (hK' _ ?_)
    refine AW.st (by simp [dNum, dB, dOf, dBs]; rfl) ?_
    clear hK' K'
    refine AW_rg (tyOf_good _) [5] [] (fun _ _ => trivial) fun K' hK' => ?_
    repeat (refine sxf_next fun K2 hK2 => ?_; simp [dNum, dB, dOf, dBs, h0, hb0]; (repeat (refine ⟨by omega, ?_⟩)); refine hK2 _ ?_; clear hK2 K2)
    refine sxf_nil (hK' _ ?_)
    refine AW.st (by simp [dNum, dB, dOf, dBs, h0, hb0]; rfl) ?_
    clear hK' K'
    refine AW_ret ?_
    simp [D.le, D.le.go, takeMap, dNum, dB, dOf, dBs]
  | false =>
    refine PureC.of_body (tyOf_good _) Tryd.func70 rfl rfl (rs := [.tmp 5]) Tryd.results70 (by simp [Tryd.ntmps70]) fun X => ?_
    simp only [Tryd.ntmps70, List.map]
    refine AW_rg (tyOf_good _) [0, 1, 2] [] (fun _ _ => trivial) fun K' hK' => ?_
    repeat (refine sxf_next fun K2 hK2 => ?_; simp [dNum, dB, dOf, dBs]; (repeat (refine ⟨by omega, ?_⟩)); refine hK2 _ ?_; clear hK2 K2)
    refine sxf_nil (hK' _ ?_)
    refine AW.st (by simp [dNum, dB, dOf, dBs]; rfl) ?_
    clear hK' K'
    refine AW_rg (tyOf_good _) [5] [] (fun _ _ => trivial) fun K' hK' => ?_
    repeat (refine sxf_next fun K2 hK2 => ?_; simp [dNum, dB, dOf, dBs, h0, hb0]; (repeat (refine ⟨by omega, ?_⟩)); refine hK2 _ ?_; clear hK2 K2)
    refine sxf_nil (hK' _ ?_)
    refine AW.st (by simp [dNum, dB, dOf, dBs, h0, hb0]; rfl) ?_
    clear hK' K'
    refine AW_ret ?_
    simp [D.le, D.le.go, takeMap, dNum, dB, dOf, dBs]
#print axioms until_spec

def rowB (n : Nat) (f : Nat → Bool) : Row := .sl 4 1 ((List.range n).map fun i => [dB (f i)])
theorem set_rowB (n : Nat) (f : Nat → Bool) (i : Nat) (x : Bool) : ((List.range n).map fun j => [D.v (.bool (f j))]).set i [D.v (.bool x)] = (List.range n).map fun j => [D.v (.bool (setB f i x j))] := by
  apply List.ext_getElem
  · simp
  · intro j h1 h2
    rw [List.getElem_set]
    by_cases e : i = j
    · subst e; simp [setB]
    · simp [setB, e, Ne.symm e]
theorem rowB_congr {n : Nat} {f g : Nat → Bool} (h : ∀ i, i < n → f i = g i) : rowB n f = rowB n g := by
  unfold rowB
  congr 1
  apply List.map_congr_left
  intro i hi
  rw [h i (List.mem_range.1 hi)]

set_option maxHeartbeats 8000000 in
theorem fix_spec (G : Glob) (now : Nat → Bool → Bool) (nx : Nat → Nat) (st : Bool) (n : Nat) (hn : n < 2^40) (hm : MonoN now) (hx : ∀ i, i < n → nx i < n) (g g2 : FuncId) (caps caps2 : List D)
    (hnow : ∀ i b, i < n → PureC Tryd.prog G g (dNum i :: dB b :: caps) (dB (now i b))) (hnext : ∀ i, i < n → PureC Tryd.prog G g2 (dNum i :: caps2) (dNum (nx i))) (f : Nat → Bool) :
    MC Tryd.prog G [6, 30] 66 [.d (dB st), .d (.fn (.func g) caps), .ref 6 0 0, .d (.ip [dNum n]), .d (.ip [.fn (.func g2) caps2])] (hlst [(6, .box 45 [.own 30 0 n]), (30, rowB n f)]) (.d (.tup [])) (hlst [(6, .box 45 [.own 30 0 n]), (30, rowB n (iterN now nx st n))]) := by
  refine MC.of_body (tyOf_good _) Tryd.func66 rfl rfl (rs := []) Tryd.results66 (by simp [Tryd.ntmps66]) rfl fun X => ?_
  simp only [Tryd.ntmps66]
  refine AW_then fun K1 hK1 => ?_
  refine AW_rg (tyOf_good _) [0, 1, 2, 3, 4, 12, 13] [6, 30] (notIn_ok rfl) fun K' hK' => ?_
  repeat (refine sxf_next fun K2 hK2 => ?_; simp [dNum, dB, rowB]; (repeat (refine ⟨by omega, ?_⟩)); refine hK2 _ ?_; clear hK2 K2)
  refine sxf_nil (hK' _ ?_)
  refine AW.st (by simp [dNum, dB, rowB]; rfl) ?_
  clear hK' K'
  refine AW_for (S := (Nat → Bool) × Nat) (fun s => s.2 ≤ n ∧ ∀ j, j < s.2 → s.1 j = st) (fun s => ⟨lst [(0, .d (dB st)), (1, .d (.fn (.func g) caps)), (2, .ref 6 0 0), (3, .d (.ip [dNum n])), (4, .d (.ip [.fn (.func g2) caps2])), (12, int n), (13, int s.2)], hlst [(6, .box 45 [.own 30 0 n]), (30, rowB n s.1)]⟩) (fun s => n - s.2) (f, 0) ?_ (by simp) ?_
  · refine Imp.to' (notIn_ok rfl) (by simp [dNum, dB, rowB]) (by simp [dNum, dB, rowB])
  · rintro ⟨f, i⟩ ⟨hi, hall⟩
    dsimp only at hi hall ⊢
    refine AW_rg (tyOf_good _) [0, 1, 2, 3, 4, 12, 13, 14] [6, 30] (notIn_ok rfl) fun K' hK' => ?_
    repeat (refine sxf_next fun K2 hK2 => ?_; simp [dNum, dB, rowB]; (repeat (refine ⟨by omega, ?_⟩)); refine hK2 _ ?_; clear hK2 K2)
    refine sxf_nil (hK' _ ?_)
    refine AW.st (by simp [dNum, dB, rowB]; rfl) ?_
    clear hK' K'
    refine AW_then fun K2 hK2 => ?_
    refine AW_cond' (b := i < n) (by simp [D.le, D.le.go, takeMap, dNum, dB, rowB]) (fun hc => ?_) (fun hc => ?_)
    · have hin : i < n := hc
      refine AW_skip (hK2 _ ?_)
      refine AW_then fun K3 hK3 => ?_
      refine AW_block ?_
      refine AW_rg (tyOf_good _) [0, 1, 2, 3, 4, 7, 12, 13] [6, 30] (notIn_ok rfl) fun K' hK' => ?_
      repeat (refine sxf_next fun K2 hK2 => ?_; simp [dNum, dB, rowB]; (repeat (refine ⟨by omega, ?_⟩)); refine hK2 _ ?_; clear hK2 K2)
      refine sxf_nil (hK' _ ?_)
      refine AW.st (by simp [dNum, dB, rowB]; rfl) ?_
      clear hK' K'
      refine AW_re (tyOf_good _) fun K' hK' => ?_
      repeat (refine sxf_next fun K2 hK2 => ?_; simp [dNum, dB, rowB, hin]; (repeat (refine ⟨by omega, ?_⟩)); refine hK2 _ ?_; clear hK2 K2)
      refine sxf_nil (hK' _ ?_)
      clear hK' K'
      refine hK3 _ (AW.norm [0, 1, 2, 3, 4, 12, 13] [6, 30] (notIn_ok rfl) (AW.st (by simp [dNum, dB, rowB, hin]; rfl) ?_))
      refine AW_re (tyOf_good _) fun K' hK' => ?_
      repeat (refine sxf_next fun K2 hK2 => ?_; simp [dNum, dB, rowB]; (repeat (refine ⟨by omega, ?_⟩)); refine hK2 _ ?_; clear hK2 K2)
      refine sxf_nil (hK' _ ?_)
      clear hK' K'
      try simp only [thn, inb]
      refine Again.mk (setB f i st, i + 1) ⟨by dsimp only; omega, fun j hj => ?_⟩ (by dsimp only; omega) ?_
      · dsimp only at hj ⊢
        unfold setB
        split
        · rfl
        · exact hall j (by omega)
      refine Imp.to' (notIn_ok rfl) (by simp [dNum, dB, rowB, set_rowB]) (by simp [dNum, dB, rowB, set_rowB])
    · obtain rfl : i = n := by omega
      refine AW_exit (hK1 _ ?_)
      refine AW_rg (tyOf_good _) [1, 2, 3, 4, 8] [6, 30] (notIn_ok rfl) fun K' hK' => ?_
      repeat (refine sxf_next fun K2 hK2 => ?_; simp [dNum, dB, rowB]; (repeat (refine ⟨by omega, ?_⟩)); refine hK2 _ ?_; clear hK2 K2)
      refine sxf_nil (hK' _ ?_)
      refine AW.st (by simp [dNum, dB, rowB]; rfl) ?_
      clear hK' K'
      have hk0 : Kept now nx st i f := ⟨fun j hj => .inl (hall j hj), fun j hj => .inl (hall j hj)⟩
      refine AW_for (S := (Nat → Bool) × Bool) (fun s => Kept now nx st i s.1 ∧ (s.2 = false → ∀ j, j < i → s.1 j = now j (s.1 (nx j)))) (fun s => ⟨lst [(1, .d (.fn (.func g) caps)), (2, .ref 6 0 0), (3, .d (.ip [dNum i])), (4, .d (.ip [.fn (.func g2) caps2])), (8, .d (dB s.2))], hlst [(6, .box 45 [.own 30 0 i]), (30, rowB i s.1)]⟩) (fun s => 2 * (i - up st i s.1) + (if s.2 then 1 else 0)) (f, true) ?_ ⟨hk0, fun h => by cases h⟩ ?_
      · refine Imp.to' (notIn_ok rfl) (by simp [dNum, dB, rowB]) (by simp [dNum, dB, rowB])
      · rintro ⟨f, again⟩ ⟨hk, hfix⟩
        dsimp only at hk hfix ⊢
        refine AW_then fun K4 hK4 => ?_
        refine AW_rg (tyOf_good _) [1, 2, 3, 4, 21] [6, 30] (notIn_ok rfl) fun K' hK' => ?_
        repeat (refine sxf_next fun K2 hK2 => ?_; simp [dNum, dB, rowB]; (repeat (refine ⟨by omega, ?_⟩)); refine hK2 _ ?_; clear hK2 K2)
        refine sxf_nil (hK' _ ?_)
        refine AW.st (by simp [dNum, dB, rowB]; rfl) ?_
        clear hK' K'
        cases again with
        | false =>
          refine AW_cond false rfl (fun h => by cases h) (fun _ => ?_)
          have hres : rowB i f = rowB i (iterN now nx st i) := rowB_congr fun j hj => iterN_is hm hx (hfix rfl) hk.le hj
          refine AW_exit ?_
          rw [← hres]
          simp [dNum, dB, rowB]
          exact D.le_refl _
        | true =>
          refine AW_cond true rfl (fun _ => ?_) (fun h => by cases h)
          refine AW_skip (hK4 _ ?_)
          refine AW_block ?_
          refine AW_rg (tyOf_good _) [1, 2, 3, 4, 8] [6, 30] (notIn_ok rfl) fun K' hK' => ?_
          repeat (refine sxf_next fun K2 hK2 => ?_; simp [dNum, dB, rowB]; (repeat (refine ⟨by omega, ?_⟩)); refine hK2 _ ?_; clear hK2 K2)
          refine sxf_nil (hK' _ ?_)
          refine AW.st (by simp [dNum, dB, rowB]; rfl) ?_
          clear hK' K'
          refine AW_rg (tyOf_good _) [1, 2, 3, 4, 8, 9] [6, 30] (notIn_ok rfl) fun K' hK' => ?_
          repeat (refine sxf_next fun K2 hK2 => ?_; simp [dNum, dB, rowB]; (repeat (refine ⟨by omega, ?_⟩)); refine hK2 _ ?_; clear hK2 K2)
          refine sxf_nil (hK' _ ?_)
          refine AW.st (by simp [dNum, dB, rowB]; rfl) ?_
          clear hK' K'
          refine AW_for (S := (Nat → Bool) × Bool × Nat) (fun s => s.2.2 ≤ i ∧ Kept now nx st i s.1 ∧ (s.2.1 = false → s.1 = f ∧ ∀ j, s.2.2 ≤ j → j < i → s.1 j = now j (s.1 (nx j))) ∧ (s.2.1 = true → up st i f < up st i s.1)) (fun s => ⟨lst [(1, .d (.fn (.func g) caps)), (2, .ref 6 0 0), (3, .d (.ip [dNum i])), (4, .d (.ip [.fn (.func g2) caps2])), (8, .d (dB s.2.1)), (9, int ((s.2.2 : Int) - 1))], hlst [(6, .box 45 [.own 30 0 i]), (30, rowB i s.1)]⟩) (fun s => s.2.2) (f, false, i) ?_ ⟨Nat.le_refl _, hk, fun _ => ⟨rfl, fun j h1 h2 => by dsimp only at h1; omega⟩, fun h => by cases h⟩ ?_
          · refine Imp.to' (notIn_ok rfl) (by simp [dNum, dB, rowB]) (by simp [dNum, dB, rowB])
          · rintro ⟨f', again, m⟩ ⟨hmi, hk', hf1, hf2⟩
            dsimp only at hmi hk' hf1 hf2 ⊢
            refine AW_then fun K5 hK5 => ?_
            cases m with
            | zero =>
              refine AW_rg (tyOf_good _) [1, 2, 3, 4, 8, 9, 25] [6, 30] (notIn_ok rfl) fun K' hK' => ?_
              repeat (refine sxf_next fun K2 hK2 => ?_; simp [dNum, dB, rowB]; (repeat (refine ⟨by omega, ?_⟩)); refine hK2 _ ?_; clear hK2 K2)
              refine sxf_nil (hK' _ ?_)
              refine AW.st (by simp [dNum, dB, rowB]; rfl) ?_
              clear hK' K'
              refine AW_cond false rfl (fun h => by cases h) (fun _ => ?_)
              refine AW_exit ?_
              refine Again.mk (f', again) ⟨hk', fun h => fun j hj => (hf1 h).2 j (Nat.zero_le _) hj⟩ ?_ ?_
              · dsimp only
                have h1 := up_le st i f'
                cases again with
                | false => rw [(hf1 rfl).1]; simp
                | true => have := hf2 rfl; simp; omega
              · refine Imp.to' (notIn_ok rfl) (by simp [dNum, dB, rowB]) (by simp [dNum, dB, rowB])
            | succ j =>
              have hji : j < i := by omega
              have hxj := hx j hji
              have hcall1 := hnext j hji
              have hcall2 := hnow j (f' (nx j)) hji
              refine AW_rg (tyOf_good _) [1, 2, 3, 4, 8, 9, 25] [6, 30] (notIn_ok rfl) fun K' hK' => ?_
              repeat (refine sxf_next fun K2 hK2 => ?_; simp [dNum, dB, rowB]; (repeat (refine ⟨by omega, ?_⟩)); refine hK2 _ ?_; clear hK2 K2)
              refine sxf_nil (hK' _ ?_)
              refine AW.st (by simp [dNum, dB, rowB]; rfl) ?_
              clear hK' K'
              refine AW_cond true rfl (fun _ => ?_) (fun h => by cases h)
              refine AW_skip (hK5 _ ?_)
              refine AW_then fun K6 hK6 => ?_
              refine AW_block ?_
              refine AW_rd (tyOf_good _) (by kernel_rfl) [1, 2, 3, 4, 8, 9, 10] [6, 30] (notIn_ok rfl) (by kernel_rfl) fun K' hK' => ?_
              repeat (refine sxd_next fun K2 hK2 => ?_; simp [dNum, dB, rowB, hxj, hji]; (repeat (refine ⟨by omega, ?_⟩)); refine hK2 _ ?_; clear hK2 K2)
              refine sxd_next fun K2 hK2 => ?_
              simp [dNum, dB, rowB, hxj, hji]
              refine callQ.data (hcall1) (by simp; rfl) (by simp; rfl) (by first | exact D.leGo_refl _ | simp [takeMap, List.map_map, Function.comp_def, D.le, D.le.go, D.le_refl, D.leGo_refl, dNum, dB, rowB, hxj, hji]) ?_
              refine hK2 _ ?_
              clear hK2 K2
              simp only [putd, upd_lst]
              repeat (refine sxd_next fun K2 hK2 => ?_; simp [dNum, dB, rowB, hxj, hji]; (repeat (refine ⟨by omega, ?_⟩)); refine hK2 _ ?_; clear hK2 K2)
              refine sxd_next fun K2 hK2 => ?_
              simp [dNum, dB, rowB, hxj, hji]
              refine callQ.data (hcall2) (by simp; rfl) (by simp; rfl) (by first | exact D.leGo_refl _ | simp [takeMap, List.map_map, Function.comp_def, D.le, D.le.go, D.le_refl, D.leGo_refl, dNum, dB, rowB, hxj, hji]) ?_
              refine hK2 _ ?_
              clear hK2 K2
              simp only [putd, upd_lst]
              repeat (refine sxd_next fun K2 hK2 => ?_; simp [dNum, dB, rowB, hxj, hji]; (repeat (refine ⟨by omega, ?_⟩)); refine hK2 _ ?_; clear hK2 K2)
              refine sxd_nil (hK' _ ?_)
              refine AW.st (by simp [dNum, dB, rowB, hxj, hji]; rfl) ?_
              clear hK' K'
              by_cases hne : now j (f' (nx j)) = f' j
              · refine AW_rg (tyOf_good _) [1, 2, 3, 4, 8, 9, 10, 42] [6, 30] (notIn_ok rfl) fun K' hK' => ?_
                repeat (refine sxf_next fun K2 hK2 => ?_; simp [dNum, dB, rowB, hne, hji]; (repeat (refine ⟨by omega, ?_⟩)); refine hK2 _ ?_; clear hK2 K2)
                refine sxf_nil (hK' _ ?_)
                refine AW.st (by simp [dNum, dB, rowB, hne, hji]; rfl) ?_
                clear hK' K'
                refine AW_cond false rfl (fun h => by cases h) (fun _ => ?_)
                refine AW_skip ?_
                refine hK6 _ (AW.norm [1, 2, 3, 4, 8, 9] [6, 30] (notIn_ok rfl) (AW.st (by simp [dNum, dB, rowB]; rfl) ?_))
                refine AW_re (tyOf_good _) fun K' hK' => ?_
                repeat (refine sxf_next fun K2 hK2 => ?_; simp [dNum, dB, rowB]; (repeat (refine ⟨by omega, ?_⟩)); refine hK2 _ ?_; clear hK2 K2)
                refine sxf_nil (hK' _ ?_)
                clear hK' K'
                try simp only [thn, inb]
                refine Again.mk (f', again, j) ⟨by dsimp only; omega, hk', fun h => ⟨(hf1 h).1, fun q h1 h2 => ?_⟩, hf2⟩ (by dsimp only; omega) ?_
                · dsimp only at h1
                  by_cases e : q = j
                  · subst e; exact hne.symm
                  · exact (hf1 h).2 q (by omega) h2
                refine Imp.to' (notIn_ok rfl) (by simp [dNum, dB, rowB]) (by simp [dNum, dB, rowB])
              · obtain ⟨hk2, hup⟩ := hk'.set hm hx hji hne
                generalize now j (f' (nx j)) = x at hne hk2 hup
                have hne2 : (x == f' j) = false := by simpa using hne
                refine AW_rg (tyOf_good _) [1, 2, 3, 4, 8, 9, 10, 42] [6, 30] (notIn_ok rfl) fun K' hK' => ?_
                repeat (refine sxf_next fun K2 hK2 => ?_; simp [dNum, dB, rowB, hne2, hji]; (repeat (refine ⟨by omega, ?_⟩)); refine hK2 _ ?_; clear hK2 K2)
                refine sxf_nil (hK' _ ?_)
                refine AW.st (by simp [dNum, dB, rowB, hne2, hji]; rfl) ?_
                clear hK' K'
                refine AW_cond true rfl (fun _ => ?_) (fun h => by cases h)
                refine AW_re (tyOf_good _) fun K' hK' => ?_
                repeat (refine sxf_next fun K2 hK2 => ?_; simp [dNum, dB, rowB, hji]; (repeat (refine ⟨by omega, ?_⟩)); refine hK2 _ ?_; clear hK2 K2)
                refine sxf_nil (hK' _ ?_)
                clear hK' K'
                refine hK6 _ (AW.norm [1, 2, 3, 4, 8, 9] [6, 30] (notIn_ok rfl) (AW.st (by simp [dNum, dB, rowB, hji]; rfl) ?_))
                refine AW_re (tyOf_good _) fun K' hK' => ?_
                repeat (refine sxf_next fun K2 hK2 => ?_; simp [dNum, dB, rowB]; (repeat (refine ⟨by omega, ?_⟩)); refine hK2 _ ?_; clear hK2 K2)
                refine sxf_nil (hK' _ ?_)
                clear hK' K'
                try simp only [thn, inb]
                refine Again.mk (setB f' j x, true, j) ⟨by dsimp only; omega, hk2, fun h => (by cases h), fun _ => ?_⟩ (by dsimp only; omega) ?_
                · dsimp only
                  cases again with
                  | false => rw [(hf1 rfl).1] at hup ⊢; exact hup
                  | true => have := hf2 rfl; omega
                refine Imp.to' (notIn_ok rfl) (by simp [dNum, dB, rowB, set_rowB]) (by simp [dNum, dB, rowB, set_rowB])
#print axioms fix_spec
end Go.Proofs.YtblafkekblaibaaDoor

/-
  At which times of a word a formula holds: lasso.holds.
-/
namespace Go.Proofs.YtblafkekblaibaaDoor
set_option linter.unusedSimpArgs false
set_option linter.unusedVariables false
open Go.Av

abbrev Times := List (List (List UInt8))
def dW (a r : Times) : D := .agg [dTimes a, dTimes r]
/-- What is so at time i, by what is so of the parts. -/
def valF (a r : Times) (k : Int) (s : List UInt8) (of : List (List Bool)) : Nat → Bool :=
  let n := a.length + r.length
  let o := fun (j i : Nat) => (of.getD j []).getD i false
  let nx := nxF a.length n
  if k = 1 then fun i => ((a ++ r).getD i []).any fun x => x == s
  else if k = 2 then fun _ => true
  else if k = 3 then fun i => !o 0 i
  else if k = 4 then fun i => o 0 i && o 1 i
  else if k = 5 then fun i => o 0 i || o 1 i
  else if k = 6 then fun i => o 0 (nx i)
  else if k = 7 then iterN (fun i b => o 1 i || (o 0 i && b)) nx false n
  else if k = 8 then iterN (fun i b => o 1 i && (o 0 i || b)) nx true n
  else if k = 9 then iterN (fun i b => o 0 i || b) nx false n
  else iterN (fun i b => o 0 i && b) nx true n
mutual
def holdsF (a r : Times) : Fm → List Bool
  | .nil => []
  | .mk k s l => (List.range (a.length + r.length)).map (valF a r k s (holdsL a r l))
def holdsL (a r : Times) : List Fm → List (List Bool)
  | [] => []
  | f :: l => holdsF a r f :: holdsL a r l
end
theorem holdsL_map (a r : Times) : ∀ l, holdsL a r l = l.map (holdsF a r)
  | [] => rfl
  | f :: l => by rw [holdsL, holdsL_map a r l]; rfl

theorem take_range_map (n : Nat) (g : Nat → List D) : List.take n ((List.range n).map g) = (List.range n).map g := List.take_of_length_le (by simp)
theorem setB_same (f : Nat → Bool) (i : Nat) (x : Bool) : setB f i x i = x := by simp [setB]
theorem setB_setB (f : Nat → Bool) (i : Nat) (x y : Bool) (j : Nat) : setB (setB f i x) i y j = setB f i y j := by unfold setB; split <;> rfl
theorem setB_id (f : Nat → Bool) {i : Nat} {x : Bool} (h : f i = x) (j : Nat) : setB f i x j = f j := by unfold setB; split <;> simp_all
theorem nxF_lt {a n i : Nat} (ha : a < n) (hi : i < n) : nxF a n i < n := by unfold nxF; split <;> omega
theorem right_at {d : Nat} : ∀ {l : List Fm} {n : Int}, (rightL d l n).2 = 0 → ∀ f ∈ l, (rightF d f).2 = 0
  | [], _, _, f, hf => by simp at hf
  | g :: l, n, h, f, hf => by
    rw [rightL] at h
    by_cases hg : (rightF d g).2 = 0
    · rw [if_neg (by simp [hg])] at h
      rcases List.mem_cons.1 hf with rfl | hf
      · exact hg
      · exact right_at h f hf
    · rw [if_pos hg] at h
      exact absurd h hg

set_option maxHeartbeats 16000000 in
theorem holds_spec (G : Glob) (a r : Times) (hr : 0 < r.length) (hn0 : a.length + r.length < 2^20) (hT : ∀ t ∈ a ++ r, t.length < 2^63) : ∀ (d : Nat) (f : Fm), (rightF d f).2 = 0 → namesOk f → PureC Tryd.prog G 47 [dW a r, dF f] (dBs (holdsF a r f)) := by
  intro d
  induction d with
  | zero =>
    intro f h _
    cases f <;> simp [rightF] at h
  | succ d ih =>
    intro f h hnm
    cases f with
    | nil => simp [rightF] at h
    | mk k s l =>
      have hb : badF k s l.length = 0 := by
        rw [rightF] at h
        by_cases hb : badF k s l.length = 0
        · exact hb
        · rw [if_pos hb] at h; exact absurd h hb
      rw [rightF, if_neg (by rw [hb]; decide)] at h
      have hch : ∀ g ∈ l, PureC Tryd.prog G 47 [dW a r, dF g] (dBs (holdsF a r g)) := fun g hg => ih g (right_at h g hg) (namesOkL_mem hnm.2 g hg)
      have hip : ∀ g ∈ l, ∃ c, dF g = .ip c := fun g hg => by
        have h1 := right_at h g hg
        cases g with
        | nil => cases d <;> simp [rightF] at h1
        | mk k s l => exact ⟨_, rfl⟩
      clear ih h
      have hk : 1 ≤ k ∧ k ≤ 10 ∧ (l.length : Int) = arityF k := by
        unfold badF at hb
        split at hb
        · cases hb
        · omega
      obtain ⟨hk1, hk10, hlen⟩ := hk
      have ha2 := arity_two hk1 hk10
      generalize hn : a.length + r.length = n at hn0
      have hnI : (a.length : Int) + r.length = n := by omega
      rw [holdsF, hn]
      refine PureC.of_body (tyOf_good _) Tryd.func47 rfl rfl (rs := [.tmp 4]) Tryd.results47 (by simp [Tryd.ntmps47]) fun X => ?_
      simp only [Tryd.ntmps47, List.map]
      refine AW_rg (tyOf_good _) [1, 2] [2] (fun _ _ => trivial) fun K' hK' => ?_
      repeat (refine sxf_next fun K2 hK2 => ?_; simp [dNum, dB, rowB, dW, dF, dFs_map]; (repeat (refine ⟨by omega, ?_⟩)); refine hK2 _ ?_; clear hK2 K2)
      refine sxf_nil (hK' _ ?_)
      refine AW.st (by simp [dNum, dB, rowB, dW, dF, dFs_map]; rfl) ?_
      clear hK' K'
      refine AW_rg (tyOf_good _) [1, 2, 5] [2, 5] (fun _ _ => trivial) fun K' hK' => ?_
      repeat (refine sxf_next fun K2 hK2 => ?_; simp [dNum, dB, rowB, dTimes, hnI]; (repeat (refine ⟨by omega, ?_⟩)); refine hK2 _ ?_; clear hK2 K2)
      refine sxf_nil (hK' _ ?_)
      refine AW.st (by simp [dNum, dB, rowB, dTimes, hnI]; rfl) ?_
      clear hK' K'
      refine AW_rg (tyOf_good _) [1, 2, 5, 6] [2, 5, 6, 30] (fun _ _ => trivial) fun K' hK' => ?_
      repeat (refine sxf_next fun K2 hK2 => ?_; simp [dNum, dB, rowB]; (repeat (refine ⟨by omega, ?_⟩)); refine hK2 _ ?_; clear hK2 K2)
      refine sxf_nil (hK' _ ?_)
      refine AW.st (by simp [dNum, dB, rowB]; rfl) ?_
      clear hK' K'
      refine AW.imp (Imp.freezeB 2 trivial) ?_
      refine AW.st (by simp [dNum, dB, rowB]; rfl) ?_
      refine AW.imp (Imp.freezeB 5 trivial) ?_
      refine AW.st (by simp [dNum, dB, rowB]; rfl) ?_
      refine AW_rg (tyOf_good _) [1, 2, 5, 6, 7] [6, 7, 30] (fun _ _ => trivial) fun K' hK' => ?_
      repeat (refine sxf_next fun K2 hK2 => ?_; simp [dNum, dB, rowB]; (repeat (refine ⟨by omega, ?_⟩)); refine hK2 _ ?_; clear hK2 K2)
      refine sxf_nil (hK' _ ?_)
      refine AW.st (by simp [dNum, dB, rowB]; rfl) ?_
      clear hK' K'
      refine AW.imp (Imp.freezeB 7 trivial) ?_
      refine AW.st (by simp [dNum, dB, rowB]; rfl) ?_
      refine AW_rg (tyOf_good _) [1, 2, 5, 6, 7, 8] [6, 8, 30] (fun _ _ => trivial) fun K' hK' => ?_
      repeat (refine sxf_next fun K2 hK2 => ?_; simp [dNum, dB, rowB]; (repeat (refine ⟨by omega, ?_⟩)); refine hK2 _ ?_; clear hK2 K2)
      refine sxf_nil (hK' _ ?_)
      refine AW.st (by simp [dNum, dB, rowB]; rfl) ?_
      clear hK' K'
      refine AW_then fun K1 hK1 => ?_
      refine AW_rg (tyOf_good _) [1, 2, 5, 6, 7, 8, 35, 36, 37] [6, 8, 30] (fun _ _ => trivial) fun K' hK' => ?_
      repeat (refine sxf_next fun K2 hK2 => ?_; simp [dNum, dB, rowB]; (repeat (refine ⟨by omega, ?_⟩)); refine hK2 _ ?_; clear hK2 K2)
      refine sxf_nil (hK' _ ?_)
      refine AW.st (by simp [dNum, dB, rowB]; rfl) ?_
      clear hK' K'
      refine AW_for (S := Nat) (fun i => i ≤ l.length) (fun i => ⟨lst [(1, .d (.ip [dNum k, dS s, .sl (ofK l) (l.map fun f => [dF f])])), (2, .d (.ip [dTimes a, dTimes r])), (5, .d (.ip [dNum n])), (6, .ref 6 0 0), (7, .d (.ip [.fn (.func 65) [.ip [dNum n], .ip [dTimes a, dTimes r]]])), (8, .ref 8 0 0), (35, .d (.sl (ofK l) (l.map fun f => [dF f]))), (36, int l.length), (37, int i)],
        hlst [(6, .box 45 [.own 30 0 n]), (8, .box 133 [.own 308 0 i]), (30, .sl 4 1 (List.replicate n [.v (.bool false)])), (308, .sl 45 1 (List.take i (l.map fun f => [dBs (holdsF a r f)])))]⟩) (fun i => l.length - i) 0 ?_ (by omega) ?_
      · refine (Imp.adoptCell 8 0 308 45 1 rfl rfl rfl).trans ?_
        refine Imp.to' (fun _ _ => trivial) (by simp [dNum, dB, rowB, dTimes]) (by simp [dNum, dB, rowB, dTimes])
      · intro i hi
        refine AW_rg (tyOf_good _) [1, 2, 5, 6, 7, 8, 35, 36, 37, 38] [6, 8, 30, 308] (fun _ _ => trivial) fun K' hK' => ?_
        repeat (refine sxf_next fun K2 hK2 => ?_; simp [dNum, dB, rowB]; (repeat (refine ⟨by omega, ?_⟩)); refine hK2 _ ?_; clear hK2 K2)
        refine sxf_nil (hK' _ ?_)
        refine AW.st (by simp [dNum, dB, rowB]; rfl) ?_
        clear hK' K'
        refine AW_then fun K2 hK2 => ?_
        refine AW_cond' (b := i < l.length) (by simp [D.le, D.le.go, takeMap, dNum, dB, rowB]) (fun hc => ?_) (fun hc => ?_)
        · have hil : i < l.length := hc
          obtain ⟨ci, hci⟩ := hip _ (List.getElem_mem hil)
          have hcc := hch _ (List.getElem_mem hil)
          rw [hci] at hcc
          have hlt1 : (List.take i (l.map fun f => [dBs (holdsF a r f)])).length = i := by simp; omega
          have htk : ∀ g : Fm → List D, List.take (i + 1) (List.map g l) = List.take i (List.map g l) ++ [g l[i]] := fun g => by
            rw [List.take_succ_eq_append_getElem (by simp; exact hil), List.getElem_map]
          refine AW_skip (hK2 _ ?_)
          refine AW_then fun K3 hK3 => ?_
          refine AW_block ?_
          refine AW_rg (tyOf_good _) [1, 2, 5, 6, 7, 8, 10, 35, 36, 37] [6, 8, 30, 308] (fun _ _ => trivial) fun K' hK' => ?_
          repeat (refine sxf_next fun K2 hK2 => ?_; simp [dNum, dB, rowB, hil, hci]; (repeat (refine ⟨by omega, ?_⟩)); refine hK2 _ ?_; clear hK2 K2)
          refine sxf_nil (hK' _ ?_)
          refine AW.st (by simp [dNum, dB, rowB, hil, hci]; rfl) ?_
          clear hK' K'
          refine AW_rle (tyOf_good _) (by kernel_rfl) ([(5, (308, 45))]) ([]) ([0, 1, 2, 3, 4, 5, 6]) (by kernel_rfl) fun K' hK' => ?_
          repeat (refine sxl_nextO rfl fun K2 hK2 => ?_; simp [dNum, dB, rowB, dTimes, dW, dBs, List.take_take]; (repeat (refine ⟨by omega, ?_⟩)); refine hK2 _ ?_; clear hK2 K2)
          refine sxl_nextO rfl fun K2 hK2 => ?_
          simp [dNum, dB, rowB, dTimes, dW, dBs, List.take_take]
          refine callD.mk (hcc) (by simp; rfl) (by simp; rfl) (by first | exact D.leGo_refl _ | simp [takeMap, List.map_map, Function.comp_def, D.le, D.le.go, D.le_refl, D.leGo_refl, dNum, dB, rowB, dTimes, dW, dBs, List.take_take]) (by simp) ?_
          refine hK2 _ ?_
          clear hK2 K2
          simp only [putd, upd_lst]
          repeat (refine sxl_nextO rfl fun K2 hK2 => ?_; simp [dNum, dB, rowB, dTimes, dW, dBs, List.take_take]; (repeat (refine ⟨by omega, ?_⟩)); refine hK2 _ ?_; clear hK2 K2)
          refine sxl_nilO (hK' _ ?_)
          clear hK' K'
          refine hK3 _ (AW.norm [1, 2, 5, 6, 7, 8, 35, 36, 37] [6, 8, 30, 308] (fun _ _ => trivial) (AW.st (by simp [dNum, dB, rowB, dTimes, dW, dBs, List.take_take]; rfl) ?_))
          refine AW_re (tyOf_good _) fun K' hK' => ?_
          repeat (refine sxf_next fun K2 hK2 => ?_; simp [dNum, dB, rowB]; (repeat (refine ⟨by omega, ?_⟩)); refine hK2 _ ?_; clear hK2 K2)
          refine sxf_nil (hK' _ ?_)
          clear hK' K'
          try simp only [thn, inb]
          refine Again.mk (i + 1) (by omega) (by omega) ?_
          refine Imp.to' (fun _ _ => trivial) (by simp [dNum, dB, rowB, dTimes, dBs, htk]) (by simp [dNum, dB, rowB, dTimes, dBs, htk])
        · obtain rfl : i = l.length := by omega
          refine AW_exit (hK1 _ ?_)
          refine AW.imp (Imp.freeze 308 trivial) ?_
          refine AW.st (by simp [dNum, dB, rowB]; rfl) ?_
          refine AW.imp (Imp.freezeB 8 trivial) ?_
          refine AW.st (by simp [dNum, dB, rowB]; rfl) ?_
          refine AW_rg (tyOf_good _) [1, 2, 6, 7, 8, 11] [6, 30] (fun _ _ => trivial) fun K' hK' => ?_
          repeat (refine sxf_next fun K2 hK2 => ?_; simp [dNum, dB, rowB]; (repeat (refine ⟨by omega, ?_⟩)); refine hK2 _ ?_; clear hK2 K2)
          refine sxf_nil (hK' _ ?_)
          refine AW.st (by simp [dNum, dB, rowB]; rfl) ?_
          clear hK' K'
          refine AW_then fun K4 hK4 => ?_
          refine AW_rg (tyOf_good _) [1, 2, 6, 7, 8, 11, 52] [6, 30] (fun _ _ => trivial) fun K' hK' => ?_
          repeat (refine sxf_next fun K2 hK2 => ?_; simp [dNum, dB, rowB]; (repeat (refine ⟨by omega, ?_⟩)); refine hK2 _ ?_; clear hK2 K2)
          refine sxf_nil (hK' _ ?_)
          refine AW.st (by simp [dNum, dB, rowB]; rfl) ?_
          clear hK' K'
          refine AW_block ?_
          have htkl : ∀ g : Fm → List D, List.take l.length (l.map g) = l.map g := fun g => List.take_of_length_le (by simp)
          have hof1 : (holdsL a r l).length = l.length := by rw [holdsL_map, List.length_map]
          have hof2 : ∀ x ∈ holdsL a r l, x.length = n := fun x hx => by
            rw [holdsL_map] at hx
            obtain ⟨g, hg, rfl⟩ := List.mem_map.1 hx
            obtain ⟨c, hc⟩ := hip g hg
            cases g with
            | nil => simp [dF] at hc
            | mk k' s' l' => rw [holdsF, List.length_map, List.length_range, hn]
          refine AW.st (show _ = (⟨lst [(1, .d (.ip [dNum k, dS s, .sl (ofK l) (l.map fun f => [dF f])])), (2, .d (.ip [dTimes a, dTimes r])), (6, .ref 6 0 0), (7, .d (.ip [.fn (.func 65) [.ip [dNum n], .ip [dTimes a, dTimes r]]])), (8, .d (.ip [dOf (holdsL a r l)])), (11, .fn (.func 66) [.ref 6 0 0, .d (.ip [dNum n]), .d (.ip [.fn (.func 65) [.ip [dNum n], .ip [dTimes a, dTimes r]]])]), (52, int k)], hlst [(6, .box 45 [.own 30 0 n]), (30, .sl 4 1 (List.replicate n [.v (.bool false)]))]⟩ : St) by simp [dOf, dBs, holdsL_map, dNum, List.map_map, Function.comp_def, htkl]) ?_
          obtain ⟨of, hofe⟩ : ∃ of, holdsL a r l = of := ⟨_, rfl⟩
          rw [hofe] at hof1 hof2 ⊢
          have hks : k = 1 ∨ k = 2 ∨ k = 3 ∨ k = 4 ∨ k = 5 ∨ k = 6 ∨ k = 7 ∨ k = 8 ∨ k = 9 ∨ k = 10 := by omega
          rcases hks with rfl | rfl | rfl | rfl | rfl | rfl | rfl | rfl | rfl | rfl
          · refine AW_rg (tyOf_good _) [1, 2, 6, 7, 8, 11, 52, 53] [6, 30] (fun _ _ => trivial) fun K' hK' => ?_
            repeat (refine sxf_next fun K2 hK2 => ?_; simp [dNum, dB, rowB]; (repeat (refine ⟨by omega, ?_⟩)); refine hK2 _ ?_; clear hK2 K2)
            refine sxf_nil (hK' _ ?_)
            refine AW.st (by simp [dNum, dB, rowB]; rfl) ?_
            clear hK' K'
            refine AW_cond true rfl (fun _ => ?_) (fun h => by cases h)
            have hv1 : ∀ i, valF a r 1 s of i = ((a ++ r).getD i []).any fun x => x == s := fun i => by simp [valF]
            refine AW_rg (tyOf_good _) [1, 2, 6, 56, 57] [6, 30] (fun _ _ => trivial) fun K' hK' => ?_
            repeat (refine sxf_next fun K2 hK2 => ?_; simp [dNum, dB, rowB]; (repeat (refine ⟨by omega, ?_⟩)); refine hK2 _ ?_; clear hK2 K2)
            refine sxf_nil (hK' _ ?_)
            refine AW.st (by simp [dNum, dB, rowB]; rfl) ?_
            clear hK' K'
            refine AW_for (S := (Nat → Bool) × Nat) (fun s' => s'.2 ≤ n ∧ (∀ j, j < s'.2 → s'.1 j = valF a r 1 s of j) ∧ ∀ j, s'.2 ≤ j → s'.1 j = false) (fun s' => ⟨lst [(1, .d (.ip [dNum 1, dS s, .sl (ofK l) (l.map fun f => [dF f])])), (2, .d (.ip [dTimes a, dTimes r])), (6, .ref 6 0 0), (56, int n), (57, int s'.2)], hlst [(6, .box 45 [.own 30 0 n]), (30, rowB n s'.1)]⟩) (fun s' => n - s'.2) (fun _ => false, 0) ?_ (by simp) ?_
            · refine Imp.to' (fun _ _ => trivial) (by simp [dNum, dB, rowB, List.map_const', dTimes]) (by simp [dNum, dB, rowB, List.map_const', dTimes])
            · rintro ⟨f, i⟩ ⟨hi, hall, hnone⟩
              dsimp only at hi hall hnone ⊢
              refine AW_rg (tyOf_good _) [1, 2, 6, 56, 57, 58] [6, 30] (fun _ _ => trivial) fun K' hK' => ?_
              repeat (refine sxf_next fun K2 hK2 => ?_; simp [dNum, dB, rowB]; (repeat (refine ⟨by omega, ?_⟩)); refine hK2 _ ?_; clear hK2 K2)
              refine sxf_nil (hK' _ ?_)
              refine AW.st (by simp [dNum, dB, rowB]; rfl) ?_
              clear hK' K'
              refine AW_then fun K5 hK5 => ?_
              refine AW_cond' (b := i < n) (by simp [D.le, D.le.go, takeMap, dNum, dB, rowB]) (fun hc => ?_) (fun hc => ?_)
              · have hin : i < n := hc
                have hfi := hnone i (Nat.le_refl i)
                obtain ⟨X, j, hj, htm, hcase⟩ : ∃ (X : Times) (j : Nat), ∃ hj : j < X.length, X[j] = (a ++ r).getD i [] ∧ ((i < a.length ∧ X = a ∧ j = i) ∨ (a.length ≤ i ∧ X = r ∧ (j : Int) = (i : Int) - a.length)) := by
                  by_cases h : i < a.length
                  · exact ⟨a, i, h, by simp [List.getD_eq_getElem?_getD, List.getElem?_append_left h, h], .inl ⟨h, rfl, rfl⟩⟩
                  · have h2 : i - a.length < r.length := by omega
                    exact ⟨r, i - a.length, h2, by simp [List.getD_eq_getElem?_getD, List.getElem?_append_right (Nat.le_of_not_lt h), h2], .inr ⟨by omega, rfl, by omega⟩⟩
                refine AW_skip (hK5 _ ?_)
                refine AW_then fun K6 hK6 => ?_
                refine AW_block ?_
                refine AW_rg (tyOf_good _) [1, 2, 6, 12, 56, 57] [6, 30] (fun _ _ => trivial) fun K' hK' => ?_
                repeat (refine sxf_next fun K2 hK2 => ?_; simp [dNum, dB, rowB]; (repeat (refine ⟨by omega, ?_⟩)); refine hK2 _ ?_; clear hK2 K2)
                refine sxf_nil (hK' _ ?_)
                refine AW.st (by simp [dNum, dB, rowB]; rfl) ?_
                clear hK' K'
                refine AW_rg (tyOf_good _) [1, 2, 6, 12, 13, 56, 57] [6, 30] (fun _ _ => trivial) fun K' hK' => ?_
                repeat (refine sxf_next fun K2 hK2 => ?_; simp [dNum, dB, rowB, dTimes]; (repeat (refine ⟨by omega, ?_⟩)); refine hK2 _ ?_; clear hK2 K2)
                refine sxf_nil (hK' _ ?_)
                refine AW.st (by simp [dNum, dB, rowB, dTimes]; rfl) ?_
                clear hK' K'
                refine AW_rg (tyOf_good _) [1, 2, 6, 12, 13, 14, 56, 57] [6, 30] (fun _ _ => trivial) fun K' hK' => ?_
                repeat (refine sxf_next fun K2 hK2 => ?_; simp [dNum, dB, rowB, dTimes]; (repeat (refine ⟨by omega, ?_⟩)); refine hK2 _ ?_; clear hK2 K2)
                refine sxf_nil (hK' _ ?_)
                refine AW.st (by simp [dNum, dB, rowB, dTimes]; rfl) ?_
                clear hK' K'
                refine AW_then fun K7 hK7 => ?_
                have hlneg : i < a.length → (i : Int) - a.length < 0 := fun h => by omega
                have hlpos : a.length ≤ i → ¬ (i : Int) - a.length < 0 := fun h => by omega
                have hlI : i < a.length → (i : Int) < a.length := fun h => by omega
                refine' late (fun hrest => ?_) ?_
                rotate_left
                · rcases hcase with ⟨h1, hX, h3⟩ | ⟨h1, hX, h3⟩
                  · have h2 := hlneg h1
                    have h4 := hlI h1
                    refine AW_rg (tyOf_good _) [1, 2, 6, 12, 13, 14, 56, 57, 68] [6, 30] (fun _ _ => trivial) fun K' hK' => ?_
                    repeat (refine sxf_next fun K2 hK2 => ?_; simp [dNum, dB, rowB, h2, h4]; (repeat (refine ⟨by omega, ?_⟩)); refine hK2 _ ?_; clear hK2 K2)
                    refine sxf_nil (hK' _ ?_)
                    refine AW.st (by simp [dNum, dB, rowB, h2, h4]; rfl) ?_
                    clear hK' K'
                    refine AW_cond true rfl (fun _ => ?_) (fun h => by cases h)
                    refine AW_re (tyOf_good _) fun K' hK' => ?_
                    repeat (refine sxf_next fun K2 hK2 => ?_; simp [dNum, dB, rowB, dTimes]; (repeat (refine ⟨by omega, ?_⟩)); refine hK2 _ ?_; clear hK2 K2)
                    refine sxf_nil (hK' _ ?_)
                    clear hK' K'
                    refine hK7 _ (AW.norm [1, 2, 6, 12, 13, 14, 56, 57] [6, 30] (fun _ _ => trivial) (AW.st (by simp [dNum, dB, rowB, dTimes]; rfl) ?_))
                    refine AW.st (show _ = (⟨lst [(1, .d (.ip [dNum 1, dS s, .sl (ofK l) (l.map fun f => [dF f])])), (2, .d (.ip [dTimes a, dTimes r])), (6, .ref 6 0 0), (12, int i), (13, .d (dTimes X)), (14, int j), (56, int n), (57, int i)], hlst [(6, .box 45 [.own 30 0 n]), (30, rowB n f)]⟩ : St) by simp [dTimes, rowB, dNum, dB, hX, h3]) ?_
                    exact hrest.out
                  · have h2 := hlpos h1
                    have h4 : ¬ (i : Int) < a.length := by omega
                    refine AW_rg (tyOf_good _) [1, 2, 6, 12, 13, 14, 56, 57, 68] [6, 30] (fun _ _ => trivial) fun K' hK' => ?_
                    repeat (refine sxf_next fun K2 hK2 => ?_; simp [dNum, dB, rowB, h2, h4]; (repeat (refine ⟨by omega, ?_⟩)); refine hK2 _ ?_; clear hK2 K2)
                    refine sxf_nil (hK' _ ?_)
                    refine AW.st (by simp [dNum, dB, rowB, h2, h4]; rfl) ?_
                    clear hK' K'
                    refine AW_cond false rfl (fun h => by cases h) (fun _ => ?_)
                    refine AW_skip ?_
                    refine hK7 _ (AW.norm [1, 2, 6, 12, 13, 14, 56, 57] [6, 30] (fun _ _ => trivial) (AW.st (by simp [dNum, dB, rowB]; rfl) ?_))
                    refine AW.st (show _ = (⟨lst [(1, .d (.ip [dNum 1, dS s, .sl (ofK l) (l.map fun f => [dF f])])), (2, .d (.ip [dTimes a, dTimes r])), (6, .ref 6 0 0), (12, int i), (13, .d (dTimes X)), (14, int j), (56, int n), (57, int i)], hlst [(6, .box 45 [.own 30 0 n]), (30, rowB n f)]⟩ : St) by simp [dTimes, rowB, dNum, dB, hX, h3]) ?_
                    exact hrest.out
                · have hv := hv1 i
                  rw [← htm] at hv
                  refine AW_rg (tyOf_good _) [1, 2, 6, 12, 56, 57, 75, 76, 77] [6, 30] (fun _ _ => trivial) fun K' hK' => ?_
                  repeat (refine sxf_next fun K2 hK2 => ?_; simp [dNum, dB, rowB, dTimes, dNames, hj]; (repeat (refine ⟨by omega, ?_⟩)); refine hK2 _ ?_; clear hK2 K2)
                  refine sxf_nil (hK' _ ?_)
                  refine AW.st (by simp [dNum, dB, rowB, dTimes, dNames, hj]; rfl) ?_
                  clear hK' K'
                  have htl : X[j].length < 2^63 := by
                    refine hT _ ?_
                    rcases hcase with ⟨h1, hX, h3⟩ | ⟨h1, hX, h3⟩
                    · subst hX; exact List.mem_append_left _ (List.getElem_mem hj)
                    · subst hX; exact List.mem_append_right _ (List.getElem_mem hj)
                  generalize X[j] = tm at hv htl
                  refine AW_for (S := Nat) (fun m => m ≤ tm.length) (fun m => ⟨lst [(1, .d (.ip [dNum 1, dS s, .sl (ofK l) (l.map fun f => [dF f])])), (2, .d (.ip [dTimes a, dTimes r])), (6, .ref 6 0 0), (12, int i), (56, int n), (57, int i), (75, .d (dNames tm)), (76, int tm.length), (77, int m)], hlst [(6, .box 45 [.own 30 0 n]), (30, rowB n (setB f i ((tm.take m).any fun x => x == s)))]⟩) (fun m => tm.length - m) 0 ?_ (by simp) ?_
                  · refine Imp.to' (fun _ _ => trivial) (by simp [dNum, dB, rowB, dTimes, dNames, setB_id f hfi]) (by simp [dNum, dB, rowB, dTimes, dNames, setB_id f hfi])
                  · intro m hm
                    refine AW_rg (tyOf_good _) [1, 2, 6, 12, 56, 57, 75, 76, 77, 78] [6, 30] (fun _ _ => trivial) fun K' hK' => ?_
                    repeat (refine sxf_next fun K2 hK2 => ?_; simp [dNum, dB, rowB, dNames]; (repeat (refine ⟨by omega, ?_⟩)); refine hK2 _ ?_; clear hK2 K2)
                    refine sxf_nil (hK' _ ?_)
                    refine AW.st (by simp [dNum, dB, rowB, dNames]; rfl) ?_
                    clear hK' K'
                    refine AW_then fun K8 hK8 => ?_
                    refine AW_cond' (b := m < tm.length) (by simp [D.le, D.le.go, takeMap, dNum, dB, rowB]) (fun hc => ?_) (fun hc => ?_)
                    · have hml : m < tm.length := hc
                      refine AW_skip (hK8 _ ?_)
                      refine AW_then fun K9 hK9 => ?_
                      refine AW_block ?_
                      refine AW_rg (tyOf_good _) [1, 2, 6, 12, 16, 56, 57, 75, 76, 77] [6, 30] (fun _ _ => trivial) fun K' hK' => ?_
                      repeat (refine sxf_next fun K2 hK2 => ?_; simp [dNum, dB, rowB, dNames, hml, dS]; (repeat (refine ⟨by omega, ?_⟩)); refine hK2 _ ?_; clear hK2 K2)
                      refine sxf_nil (hK' _ ?_)
                      refine AW.st (by simp [dNum, dB, rowB, dNames, hml, dS]; rfl) ?_
                      clear hK' K'
                      have hany : ((tm.take (m + 1)).any fun x => x == s) = (((tm.take m).any fun x => x == s) || tm[m] == s) := by
                        rw [List.take_succ_eq_append_getElem hml, List.any_append]; simp
                      generalize ((tm.take m).any fun x => x == s) = old at hany
                      cases old with
                      | true =>
                        refine AW_rdge (tyOf_good _) (by kernel_rfl) [(0, 6), (2, 6), (4, 30), (5, 30), (11, 999), (14, 30), (15, 30)] (by kernel_rfl) fun K' hK' => ?_
                        repeat (refine sxg_next fun K2 hK2 => ?_; simp [dNum, dB, rowB, hin, setB_same, dS]; (repeat (refine ⟨by omega, ?_⟩)); refine hK2 _ ?_; clear hK2 K2)
                        refine sxg_nil (hK' _ ?_)
                        clear hK' K'
                        refine hK9 _ (AW.norm [1, 2, 6, 12, 56, 57, 75, 76, 77] [6, 30] (fun _ _ => trivial) (AW.st (by simp [dNum, dB, rowB, hin, setB_same, dS]; rfl) ?_))
                        refine AW_re (tyOf_good _) fun K' hK' => ?_
                        repeat (refine sxf_next fun K2 hK2 => ?_; simp [dNum, dB, rowB]; (repeat (refine ⟨by omega, ?_⟩)); refine hK2 _ ?_; clear hK2 K2)
                        refine sxf_nil (hK' _ ?_)
                        clear hK' K'
                        try simp only [thn, inb]
                        refine Again.mk (m + 1) (by omega) (by omega) ?_
                        refine Imp.to' (fun _ _ => trivial) (by simp [dNum, dB, rowB, dTimes, dNames, dS, hany, set_rowB, setB_setB]) (by simp [dNum, dB, rowB, dTimes, dNames, dS, hany, set_rowB, setB_setB])
                      | false =>
                        cases hs : (tm[m] == s) with
                        | true =>
                          rw [hs] at hany
                          have hs1 : tm[m] = s := by simpa using hs
                          refine AW_rdge (tyOf_good _) (by kernel_rfl) [(0, 6), (2, 6), (4, 30), (5, 30), (11, 999), (14, 30), (15, 30)] (by kernel_rfl) fun K' hK' => ?_
                          repeat (refine sxg_next fun K2 hK2 => ?_; simp [dNum, dB, rowB, hin, setB_same, dS, hs1, binS]; (repeat (refine ⟨by omega, ?_⟩)); refine hK2 _ ?_; clear hK2 K2)
                          refine sxg_nil (hK' _ ?_)
                          clear hK' K'
                          refine hK9 _ (AW.norm [1, 2, 6, 12, 56, 57, 75, 76, 77] [6, 30] (fun _ _ => trivial) (AW.st (by simp [dNum, dB, rowB, hin, setB_same, dS, hs1, binS]; rfl) ?_))
                          refine AW_re (tyOf_good _) fun K' hK' => ?_
                          repeat (refine sxf_next fun K2 hK2 => ?_; simp [dNum, dB, rowB]; (repeat (refine ⟨by omega, ?_⟩)); refine hK2 _ ?_; clear hK2 K2)
                          refine sxf_nil (hK' _ ?_)
                          clear hK' K'
                          try simp only [thn, inb]
                          refine Again.mk (m + 1) (by omega) (by omega) ?_
                          refine Imp.to' (fun _ _ => trivial) (by simp [dNum, dB, rowB, dTimes, dNames, dS, hany, set_rowB, setB_setB]) (by simp [dNum, dB, rowB, dTimes, dNames, dS, hany, set_rowB, setB_setB])
                        | false =>
                          rw [hs] at hany
                          have hs1 : ¬ tm[m] = s := by simpa using hs
                          refine AW_rdge (tyOf_good _) (by kernel_rfl) [(0, 6), (2, 6), (4, 30), (5, 30), (11, 999), (14, 30), (15, 30)] (by kernel_rfl) fun K' hK' => ?_
                          repeat (refine sxg_next fun K2 hK2 => ?_; simp [dNum, dB, rowB, hin, setB_same, dS, bs_list, hs, hs1, binS]; (repeat (refine ⟨by omega, ?_⟩)); refine hK2 _ ?_; clear hK2 K2)
                          refine sxg_nil (hK' _ ?_)
                          clear hK' K'
                          refine hK9 _ (AW.norm [1, 2, 6, 12, 56, 57, 75, 76, 77] [6, 30] (fun _ _ => trivial) (AW.st (by simp [dNum, dB, rowB, hin, setB_same, dS, bs_list, hs, hs1, binS]; rfl) ?_))
                          refine AW_re (tyOf_good _) fun K' hK' => ?_
                          repeat (refine sxf_next fun K2 hK2 => ?_; simp [dNum, dB, rowB]; (repeat (refine ⟨by omega, ?_⟩)); refine hK2 _ ?_; clear hK2 K2)
                          refine sxf_nil (hK' _ ?_)
                          clear hK' K'
                          try simp only [thn, inb]
                          refine Again.mk (m + 1) (by omega) (by omega) ?_
                          refine Imp.to' (fun _ _ => trivial) (by simp [dNum, dB, rowB, dTimes, dNames, dS, hany, set_rowB, setB_setB]) (by simp [dNum, dB, rowB, dTimes, dNames, dS, hany, set_rowB, setB_setB])
                    · obtain rfl : m = tm.length := by omega
                      refine AW_exit (hK6 _ ?_)
                      rw [List.take_length, ← hv]
                      refine AW_re (tyOf_good _) fun K' hK' => ?_
                      repeat (refine sxf_next fun K2 hK2 => ?_; simp [dNum, dB, rowB]; (repeat (refine ⟨by omega, ?_⟩)); refine hK2 _ ?_; clear hK2 K2)
                      refine sxf_nil (hK' _ ?_)
                      clear hK' K'
                      try simp only [thn, inb]
                      refine Again.mk (setB f i (valF a r 1 s of i), i + 1) ⟨by dsimp only; omega, fun j hj => ?_, fun j hj => ?_⟩ (by dsimp only; omega) ?_
                      · dsimp only at hj ⊢
                        unfold setB
                        split
                        · rename_i e; subst e; rfl
                        · exact hall j (by omega)
                      · dsimp only at hj ⊢
                        unfold setB
                        rw [if_neg (by omega)]
                        exact hnone j (by omega)
                      refine Imp.to' (fun _ _ => trivial) (by simp [dNum, dB, rowB, dTimes]) (by simp [dNum, dB, rowB, dTimes])
              · obtain rfl : i = n := by omega
                refine AW_exit ?_
                refine hK4 _ (AW.norm [6] [6, 30] (fun _ _ => trivial) (AW.st (by simp [dNum, dB, rowB]; rfl) ?_))
                refine AW.st (show _ = (⟨lst [(6, .ref 6 0 0)], hlst [(6, .box 45 [.own 30 0 i]), (30, rowB i (valF a r 1 s of))]⟩ : St) by rw [← rowB_congr hall] <;> rfl) ?_
                refine AW_rg (tyOf_good _) [4] [30] (fun _ _ => trivial) fun K' hK' => ?_
                repeat (refine sxf_next fun K2 hK2 => ?_; simp [dNum, dB, rowB]; (repeat (refine ⟨by omega, ?_⟩)); refine hK2 _ ?_; clear hK2 K2)
                refine sxf_nil (hK' _ ?_)
                refine AW.st (by simp [dNum, dB, rowB]; rfl) ?_
                clear hK' K'
                refine AW_ret ?_
                simp [D.le, D.le.go, takeMap, dNum, dB, rowB, dBs, List.map_map, Function.comp_def, hofe, take_range_map]
          · refine AW_rg (tyOf_good _) [1, 2, 6, 7, 8, 11, 52, 53] [6, 30] (fun _ _ => trivial) fun K' hK' => ?_
            repeat (refine sxf_next fun K2 hK2 => ?_; simp [dNum, dB, rowB]; (repeat (refine ⟨by omega, ?_⟩)); refine hK2 _ ?_; clear hK2 K2)
            refine sxf_nil (hK' _ ?_)
            refine AW.st (by simp [dNum, dB, rowB]; rfl) ?_
            clear hK' K'
            refine AW_cond false rfl (fun h => by cases h) (fun _ => ?_)
            refine AW_rg (tyOf_good _) [6, 7, 8, 11, 52, 98] [6, 30] (fun _ _ => trivial) fun K' hK' => ?_
            repeat (refine sxf_next fun K2 hK2 => ?_; simp [dNum, dB, rowB]; (repeat (refine ⟨by omega, ?_⟩)); refine hK2 _ ?_; clear hK2 K2)
            refine sxf_nil (hK' _ ?_)
            refine AW.st (by simp [dNum, dB, rowB]; rfl) ?_
            clear hK' K'
            refine AW_cond true rfl (fun _ => ?_) (fun h => by cases h)
            refine AW_rg (tyOf_good _) [6, 101, 102] [6, 30] (fun _ _ => trivial) fun K' hK' => ?_
            repeat (refine sxf_next fun K2 hK2 => ?_; simp [dNum, dB, rowB]; (repeat (refine ⟨by omega, ?_⟩)); refine hK2 _ ?_; clear hK2 K2)
            refine sxf_nil (hK' _ ?_)
            refine AW.st (by simp [dNum, dB, rowB]; rfl) ?_
            clear hK' K'
            refine AW_for (S := (Nat → Bool) × Nat) (fun s' => s'.2 ≤ n ∧ ∀ j, j < s'.2 → s'.1 j = valF a r 2 s of j) (fun s' => ⟨lst [(6, .ref 6 0 0), (101, int n), (102, int s'.2)], hlst [(6, .box 45 [.own 30 0 n]), (30, rowB n s'.1)]⟩) (fun s' => n - s'.2) (fun _ => false, 0) ?_ (by simp) ?_
            · refine Imp.to' (fun _ _ => trivial) (by simp [dNum, dB, rowB, List.map_const', dOf, dBs]) (by simp [dNum, dB, rowB, List.map_const', dOf, dBs])
            · rintro ⟨f, i⟩ ⟨hi, hall⟩
              dsimp only at hi hall ⊢
              refine AW_rg (tyOf_good _) [6, 101, 102, 103] [6, 30] (fun _ _ => trivial) fun K' hK' => ?_
              repeat (refine sxf_next fun K2 hK2 => ?_; simp [dNum, dB, rowB]; (repeat (refine ⟨by omega, ?_⟩)); refine hK2 _ ?_; clear hK2 K2)
              refine sxf_nil (hK' _ ?_)
              refine AW.st (by simp [dNum, dB, rowB]; rfl) ?_
              clear hK' K'
              refine AW_then fun K12 hK12 => ?_
              refine AW_cond' (b := i < n) (by simp [D.le, D.le.go, takeMap, dNum, dB, rowB]) (fun hc => ?_) (fun hc => ?_)
              · have hin : i < n := hc
                refine AW_skip (hK12 _ ?_)
                refine AW_then fun K13 hK13 => ?_
                refine AW_block ?_
                refine AW_rg (tyOf_good _) [6, 17, 101, 102] [6, 30] (fun _ _ => trivial) fun K' hK' => ?_
                repeat (refine sxf_next fun K2 hK2 => ?_; simp [dNum, dB, rowB]; (repeat (refine ⟨by omega, ?_⟩)); refine hK2 _ ?_; clear hK2 K2)
                refine sxf_nil (hK' _ ?_)
                refine AW.st (by simp [dNum, dB, rowB]; rfl) ?_
                clear hK' K'
                refine AW_re (tyOf_good _) fun K' hK' => ?_
                repeat (refine sxf_next fun K2 hK2 => ?_; simp [dNum, dB, rowB, hin]; (repeat (refine ⟨by omega, ?_⟩)); refine hK2 _ ?_; clear hK2 K2)
                refine sxf_nil (hK' _ ?_)
                clear hK' K'
                refine hK13 _ (AW.norm [6, 101, 102] [6, 30] (fun _ _ => trivial) (AW.st (by simp [dNum, dB, rowB, hin]; rfl) ?_))
                refine AW_re (tyOf_good _) fun K' hK' => ?_
                repeat (refine sxf_next fun K2 hK2 => ?_; simp [dNum, dB, rowB]; (repeat (refine ⟨by omega, ?_⟩)); refine hK2 _ ?_; clear hK2 K2)
                refine sxf_nil (hK' _ ?_)
                clear hK' K'
                try simp only [thn, inb]
                refine Again.mk (setB f i (valF a r 2 s of i), i + 1) ⟨by dsimp only; omega, fun j hj => ?_⟩ (by dsimp only; omega) ?_
                · dsimp only at hj ⊢
                  unfold setB
                  split
                  · rename_i e; subst e; rfl
                  · exact hall j (by omega)
                refine Imp.to' (fun _ _ => trivial) (by simp [dNum, dB, rowB, set_rowB, dOf, dBs, valF]) (by simp [dNum, dB, rowB, set_rowB, dOf, dBs, valF])
              · obtain rfl : i = n := by omega
                refine AW_exit ?_
                refine hK4 _ (AW.norm [6] [6, 30] (fun _ _ => trivial) (AW.st (by simp [dNum, dB, rowB]; rfl) ?_))
                refine AW.st (show _ = (⟨lst [(6, .ref 6 0 0)], hlst [(6, .box 45 [.own 30 0 i]), (30, rowB i (valF a r 2 s of))]⟩ : St) by rw [← rowB_congr hall] <;> rfl) ?_
                refine AW_rg (tyOf_good _) [4] [30] (fun _ _ => trivial) fun K' hK' => ?_
                repeat (refine sxf_next fun K2 hK2 => ?_; simp [dNum, dB, rowB]; (repeat (refine ⟨by omega, ?_⟩)); refine hK2 _ ?_; clear hK2 K2)
                refine sxf_nil (hK' _ ?_)
                refine AW.st (by simp [dNum, dB, rowB]; rfl) ?_
                clear hK' K'
                refine AW_ret ?_
                simp [D.le, D.le.go, takeMap, dNum, dB, rowB, dBs, List.map_map, Function.comp_def, hofe, take_range_map]
          · have hol : of.length = 1 := by rw [hof1]; simp [arityF, arityL] at hlen; omega
            obtain ⟨o0, rfl⟩ := List.length_eq_one_iff.1 hol
            have ho0 := hof2 o0 (by simp)
            have hv3 : ∀ i, (h : i < n) → valF a r 3 s [o0] i = !(o0[i]'(by omega)) := fun i h => by simp [valF, show i < o0.length by omega]
            refine AW_rg (tyOf_good _) [1, 2, 6, 7, 8, 11, 52, 53] [6, 30] (fun _ _ => trivial) fun K' hK' => ?_
            repeat (refine sxf_next fun K2 hK2 => ?_; simp [dNum, dB, rowB]; (repeat (refine ⟨by omega, ?_⟩)); refine hK2 _ ?_; clear hK2 K2)
            refine sxf_nil (hK' _ ?_)
            refine AW.st (by simp [dNum, dB, rowB]; rfl) ?_
            clear hK' K'
            refine AW_cond false rfl (fun h => by cases h) (fun _ => ?_)
            refine AW_rg (tyOf_good _) [6, 7, 8, 11, 52, 98] [6, 30] (fun _ _ => trivial) fun K' hK' => ?_
            repeat (refine sxf_next fun K2 hK2 => ?_; simp [dNum, dB, rowB]; (repeat (refine ⟨by omega, ?_⟩)); refine hK2 _ ?_; clear hK2 K2)
            refine sxf_nil (hK' _ ?_)
            refine AW.st (by simp [dNum, dB, rowB]; rfl) ?_
            clear hK' K'
            refine AW_cond false rfl (fun h => by cases h) (fun _ => ?_)
            refine AW_rg (tyOf_good _) [6, 7, 8, 11, 52, 109] [6, 30] (fun _ _ => trivial) fun K' hK' => ?_
            repeat (refine sxf_next fun K2 hK2 => ?_; simp [dNum, dB, rowB]; (repeat (refine ⟨by omega, ?_⟩)); refine hK2 _ ?_; clear hK2 K2)
            refine sxf_nil (hK' _ ?_)
            refine AW.st (by simp [dNum, dB, rowB]; rfl) ?_
            clear hK' K'
            refine AW_cond true rfl (fun _ => ?_) (fun h => by cases h)
            refine AW_rg (tyOf_good _) [6, 8, 112, 113] [6, 30] (fun _ _ => trivial) fun K' hK' => ?_
            repeat (refine sxf_next fun K2 hK2 => ?_; simp [dNum, dB, rowB]; (repeat (refine ⟨by omega, ?_⟩)); refine hK2 _ ?_; clear hK2 K2)
            refine sxf_nil (hK' _ ?_)
            refine AW.st (by simp [dNum, dB, rowB]; rfl) ?_
            clear hK' K'
            refine AW_for (S := (Nat → Bool) × Nat) (fun s' => s'.2 ≤ n ∧ ∀ j, j < s'.2 → s'.1 j = valF a r 3 s [o0] j) (fun s' => ⟨lst [(6, .ref 6 0 0), (8, .d (.ip [dOf [o0]])), (112, int n), (113, int s'.2)], hlst [(6, .box 45 [.own 30 0 n]), (30, rowB n s'.1)]⟩) (fun s' => n - s'.2) (fun _ => false, 0) ?_ (by simp) ?_
            · refine Imp.to' (fun _ _ => trivial) (by simp [dNum, dB, rowB, List.map_const', dOf, dBs]) (by simp [dNum, dB, rowB, List.map_const', dOf, dBs])
            · rintro ⟨f, i⟩ ⟨hi, hall⟩
              dsimp only at hi hall ⊢
              refine AW_rg (tyOf_good _) [6, 8, 112, 113, 114] [6, 30] (fun _ _ => trivial) fun K' hK' => ?_
              repeat (refine sxf_next fun K2 hK2 => ?_; simp [dNum, dB, rowB]; (repeat (refine ⟨by omega, ?_⟩)); refine hK2 _ ?_; clear hK2 K2)
              refine sxf_nil (hK' _ ?_)
              refine AW.st (by simp [dNum, dB, rowB]; rfl) ?_
              clear hK' K'
              refine AW_then fun K12 hK12 => ?_
              refine AW_cond' (b := i < n) (by simp [D.le, D.le.go, takeMap, dNum, dB, rowB]) (fun hc => ?_) (fun hc => ?_)
              · have hin : i < n := hc
                refine AW_skip (hK12 _ ?_)
                refine AW_then fun K13 hK13 => ?_
                refine AW_block ?_
                refine AW_rg (tyOf_good _) [6, 8, 18, 112, 113] [6, 30] (fun _ _ => trivial) fun K' hK' => ?_
                repeat (refine sxf_next fun K2 hK2 => ?_; simp [dNum, dB, rowB]; (repeat (refine ⟨by omega, ?_⟩)); refine hK2 _ ?_; clear hK2 K2)
                refine sxf_nil (hK' _ ?_)
                refine AW.st (by simp [dNum, dB, rowB]; rfl) ?_
                clear hK' K'
                have hv := hv3 i hin
                have hin0 : i < o0.length := by omega
                refine AW_rdge (tyOf_good _) (by kernel_rfl) [(0, 6), (2, 999), (3, 999), (4, 999), (6, 999), (7, 999), (9, 30), (10, 30)] (by kernel_rfl) fun K' hK' => ?_
                repeat (refine sxg_next fun K2 hK2 => ?_; simp [dNum, dB, rowB, hin, hin0, dOf, dBs]; (repeat (refine ⟨by omega, ?_⟩)); refine hK2 _ ?_; clear hK2 K2)
                refine sxg_nil (hK' _ ?_)
                clear hK' K'
                refine hK13 _ (AW.norm [6, 8, 112, 113] [6, 30] (fun _ _ => trivial) (AW.st (by simp [dNum, dB, rowB, hin, hin0, dOf, dBs]; rfl) ?_))
                refine AW_re (tyOf_good _) fun K' hK' => ?_
                repeat (refine sxf_next fun K2 hK2 => ?_; simp [dNum, dB, rowB]; (repeat (refine ⟨by omega, ?_⟩)); refine hK2 _ ?_; clear hK2 K2)
                refine sxf_nil (hK' _ ?_)
                clear hK' K'
                try simp only [thn, inb]
                refine Again.mk (setB f i (valF a r 3 s [o0] i), i + 1) ⟨by dsimp only; omega, fun j hj => ?_⟩ (by dsimp only; omega) ?_
                · dsimp only at hj ⊢
                  unfold setB
                  split
                  · rename_i e; subst e; rfl
                  · exact hall j (by omega)
                refine Imp.to' (fun _ _ => trivial) (by simp [dNum, dB, rowB, set_rowB, dOf, dBs, hv]) (by simp [dNum, dB, rowB, set_rowB, dOf, dBs, hv])
              · obtain rfl : i = n := by omega
                refine AW_exit ?_
                refine hK4 _ (AW.norm [6] [6, 30] (fun _ _ => trivial) (AW.st (by simp [dNum, dB, rowB]; rfl) ?_))
                refine AW.st (show _ = (⟨lst [(6, .ref 6 0 0)], hlst [(6, .box 45 [.own 30 0 i]), (30, rowB i (valF a r 3 s [o0]))]⟩ : St) by rw [← rowB_congr hall] <;> rfl) ?_
                refine AW_rg (tyOf_good _) [4] [30] (fun _ _ => trivial) fun K' hK' => ?_
                repeat (refine sxf_next fun K2 hK2 => ?_; simp [dNum, dB, rowB]; (repeat (refine ⟨by omega, ?_⟩)); refine hK2 _ ?_; clear hK2 K2)
                refine sxf_nil (hK' _ ?_)
                refine AW.st (by simp [dNum, dB, rowB]; rfl) ?_
                clear hK' K'
                refine AW_ret ?_
                simp [D.le, D.le.go, takeMap, dNum, dB, rowB, dBs, List.map_map, Function.comp_def, hofe, take_range_map]
          · have hol : of.length = 2 := by rw [hof1]; simp [arityF, arityL] at hlen; omega
            obtain ⟨o0, o1, rfl⟩ : ∃ x y, of = [x, y] := by match of, hol with | [x, y], _ => exact ⟨x, y, rfl⟩
            have ho0 := hof2 o0 (by simp)
            have ho1 := hof2 o1 (by simp)
            have hv4 : ∀ i, (h : i < n) → valF a r 4 s [o0, o1] i = (o0[i]'(by omega) && o1[i]'(by omega)) := fun i h => by simp [valF, show i < o0.length by omega, show i < o1.length by omega]
            refine AW_rg (tyOf_good _) [1, 2, 6, 7, 8, 11, 52, 53] [6, 30] (fun _ _ => trivial) fun K' hK' => ?_
            repeat (refine sxf_next fun K2 hK2 => ?_; simp [dNum, dB, rowB]; (repeat (refine ⟨by omega, ?_⟩)); refine hK2 _ ?_; clear hK2 K2)
            refine sxf_nil (hK' _ ?_)
            refine AW.st (by simp [dNum, dB, rowB]; rfl) ?_
            clear hK' K'
            refine AW_cond false rfl (fun h => by cases h) (fun _ => ?_)
            refine AW_rg (tyOf_good _) [6, 7, 8, 11, 52, 98] [6, 30] (fun _ _ => trivial) fun K' hK' => ?_
            repeat (refine sxf_next fun K2 hK2 => ?_; simp [dNum, dB, rowB]; (repeat (refine ⟨by omega, ?_⟩)); refine hK2 _ ?_; clear hK2 K2)
            refine sxf_nil (hK' _ ?_)
            refine AW.st (by simp [dNum, dB, rowB]; rfl) ?_
            clear hK' K'
            refine AW_cond false rfl (fun h => by cases h) (fun _ => ?_)
            refine AW_rg (tyOf_good _) [6, 7, 8, 11, 52, 109] [6, 30] (fun _ _ => trivial) fun K' hK' => ?_
            repeat (refine sxf_next fun K2 hK2 => ?_; simp [dNum, dB, rowB]; (repeat (refine ⟨by omega, ?_⟩)); refine hK2 _ ?_; clear hK2 K2)
            refine sxf_nil (hK' _ ?_)
            refine AW.st (by simp [dNum, dB, rowB]; rfl) ?_
            clear hK' K'
            refine AW_cond false rfl (fun h => by cases h) (fun _ => ?_)
            refine AW_rg (tyOf_good _) [6, 7, 8, 11, 52, 127] [6, 30] (fun _ _ => trivial) fun K' hK' => ?_
            repeat (refine sxf_next fun K2 hK2 => ?_; simp [dNum, dB, rowB]; (repeat (refine ⟨by omega, ?_⟩)); refine hK2 _ ?_; clear hK2 K2)
            refine sxf_nil (hK' _ ?_)
            refine AW.st (by simp [dNum, dB, rowB]; rfl) ?_
            clear hK' K'
            refine AW_cond true rfl (fun _ => ?_) (fun h => by cases h)
            refine AW_rg (tyOf_good _) [6, 8, 130, 131] [6, 30] (fun _ _ => trivial) fun K' hK' => ?_
            repeat (refine sxf_next fun K2 hK2 => ?_; simp [dNum, dB, rowB]; (repeat (refine ⟨by omega, ?_⟩)); refine hK2 _ ?_; clear hK2 K2)
            refine sxf_nil (hK' _ ?_)
            refine AW.st (by simp [dNum, dB, rowB]; rfl) ?_
            clear hK' K'
            refine AW_for (S := (Nat → Bool) × Nat) (fun s' => s'.2 ≤ n ∧ ∀ j, j < s'.2 → s'.1 j = valF a r 4 s [o0, o1] j) (fun s' => ⟨lst [(6, .ref 6 0 0), (8, .d (.ip [dOf [o0, o1]])), (130, int n), (131, int s'.2)], hlst [(6, .box 45 [.own 30 0 n]), (30, rowB n s'.1)]⟩) (fun s' => n - s'.2) (fun _ => false, 0) ?_ (by simp) ?_
            · refine Imp.to' (fun _ _ => trivial) (by simp [dNum, dB, rowB, List.map_const', dOf, dBs]) (by simp [dNum, dB, rowB, List.map_const', dOf, dBs])
            · rintro ⟨f, i⟩ ⟨hi, hall⟩
              dsimp only at hi hall ⊢
              refine AW_rg (tyOf_good _) [6, 8, 130, 131, 132] [6, 30] (fun _ _ => trivial) fun K' hK' => ?_
              repeat (refine sxf_next fun K2 hK2 => ?_; simp [dNum, dB, rowB]; (repeat (refine ⟨by omega, ?_⟩)); refine hK2 _ ?_; clear hK2 K2)
              refine sxf_nil (hK' _ ?_)
              refine AW.st (by simp [dNum, dB, rowB]; rfl) ?_
              clear hK' K'
              refine AW_then fun K12 hK12 => ?_
              refine AW_cond' (b := i < n) (by simp [D.le, D.le.go, takeMap, dNum, dB, rowB]) (fun hc => ?_) (fun hc => ?_)
              · have hin : i < n := hc
                refine AW_skip (hK12 _ ?_)
                refine AW_then fun K13 hK13 => ?_
                refine AW_block ?_
                refine AW_rg (tyOf_good _) [6, 8, 19, 130, 131] [6, 30] (fun _ _ => trivial) fun K' hK' => ?_
                repeat (refine sxf_next fun K2 hK2 => ?_; simp [dNum, dB, rowB]; (repeat (refine ⟨by omega, ?_⟩)); refine hK2 _ ?_; clear hK2 K2)
                refine sxf_nil (hK' _ ?_)
                refine AW.st (by simp [dNum, dB, rowB]; rfl) ?_
                clear hK' K'
                have hv := hv4 i hin
                have hin0 : i < o0.length := by omega
                have hin1 : i < o1.length := by omega
                cases h0 : o0[i]'(by omega) with
                | true =>
                  rw [h0] at hv
                  refine AW_rdge (tyOf_good _) (by kernel_rfl) [(0, 6), (2, 999), (3, 999), (4, 999), (6, 999), (7, 999), (9, 999), (10, 999), (11, 999), (13, 999), (14, 999), (16, 30), (17, 30)] (by kernel_rfl) fun K' hK' => ?_
                  repeat (refine sxg_next fun K2 hK2 => ?_; simp [dNum, dB, rowB, hin, hin0, hin1, h0, dOf, dBs]; (repeat (refine ⟨by omega, ?_⟩)); refine hK2 _ ?_; clear hK2 K2)
                  refine sxg_nil (hK' _ ?_)
                  clear hK' K'
                  refine hK13 _ (AW.norm [6, 8, 130, 131] [6, 30] (fun _ _ => trivial) (AW.st (by simp [dNum, dB, rowB, hin, hin0, hin1, h0, dOf, dBs]; rfl) ?_))
                  refine AW_re (tyOf_good _) fun K' hK' => ?_
                  repeat (refine sxf_next fun K2 hK2 => ?_; simp [dNum, dB, rowB]; (repeat (refine ⟨by omega, ?_⟩)); refine hK2 _ ?_; clear hK2 K2)
                  refine sxf_nil (hK' _ ?_)
                  clear hK' K'
                  try simp only [thn, inb]
                  refine Again.mk (setB f i (valF a r 4 s [o0, o1] i), i + 1) ⟨by dsimp only; omega, fun j hj => ?_⟩ (by dsimp only; omega) ?_
                  · dsimp only at hj ⊢
                    unfold setB
                    split
                    · rename_i e; subst e; rfl
                    · exact hall j (by omega)
                  refine Imp.to' (fun _ _ => trivial) (by simp [dNum, dB, rowB, set_rowB, dOf, dBs, hv]) (by simp [dNum, dB, rowB, set_rowB, dOf, dBs, hv])
                | false =>
                  rw [h0] at hv
                  refine AW_rdge (tyOf_good _) (by kernel_rfl) [(0, 6), (2, 999), (3, 999), (4, 999), (6, 999), (7, 999), (9, 999), (10, 999), (11, 999), (13, 999), (14, 999), (16, 30), (17, 30)] (by kernel_rfl) fun K' hK' => ?_
                  repeat (refine sxg_next fun K2 hK2 => ?_; simp [dNum, dB, rowB, hin, hin0, hin1, h0, dOf, dBs]; (repeat (refine ⟨by omega, ?_⟩)); refine hK2 _ ?_; clear hK2 K2)
                  refine sxg_nil (hK' _ ?_)
                  clear hK' K'
                  refine hK13 _ (AW.norm [6, 8, 130, 131] [6, 30] (fun _ _ => trivial) (AW.st (by simp [dNum, dB, rowB, hin, hin0, hin1, h0, dOf, dBs]; rfl) ?_))
                  refine AW_re (tyOf_good _) fun K' hK' => ?_
                  repeat (refine sxf_next fun K2 hK2 => ?_; simp [dNum, dB, rowB]; (repeat (refine ⟨by omega, ?_⟩)); refine hK2 _ ?_; clear hK2 K2)
                  refine sxf_nil (hK' _ ?_)
                  clear hK' K'
                  try simp only [thn, inb]
                  refine Again.mk (setB f i (valF a r 4 s [o0, o1] i), i + 1) ⟨by dsimp only; omega, fun j hj => ?_⟩ (by dsimp only; omega) ?_
                  · dsimp only at hj ⊢
                    unfold setB
                    split
                    · rename_i e; subst e; rfl
                    · exact hall j (by omega)
                  refine Imp.to' (fun _ _ => trivial) (by simp [dNum, dB, rowB, set_rowB, dOf, dBs, hv]) (by simp [dNum, dB, rowB, set_rowB, dOf, dBs, hv])
              · obtain rfl : i = n := by omega
                refine AW_exit ?_
                refine hK4 _ (AW.norm [6] [6, 30] (fun _ _ => trivial) (AW.st (by simp [dNum, dB, rowB]; rfl) ?_))
                refine AW.st (show _ = (⟨lst [(6, .ref 6 0 0)], hlst [(6, .box 45 [.own 30 0 i]), (30, rowB i (valF a r 4 s [o0, o1]))]⟩ : St) by rw [← rowB_congr hall] <;> rfl) ?_
                refine AW_rg (tyOf_good _) [4] [30] (fun _ _ => trivial) fun K' hK' => ?_
                repeat (refine sxf_next fun K2 hK2 => ?_; simp [dNum, dB, rowB]; (repeat (refine ⟨by omega, ?_⟩)); refine hK2 _ ?_; clear hK2 K2)
                refine sxf_nil (hK' _ ?_)
                refine AW.st (by simp [dNum, dB, rowB]; rfl) ?_
                clear hK' K'
                refine AW_ret ?_
                simp [D.le, D.le.go, takeMap, dNum, dB, rowB, dBs, List.map_map, Function.comp_def, hofe, take_range_map]
          · have hol : of.length = 2 := by rw [hof1]; simp [arityF, arityL] at hlen; omega
            obtain ⟨o0, o1, rfl⟩ : ∃ x y, of = [x, y] := by match of, hol with | [x, y], _ => exact ⟨x, y, rfl⟩
            have ho0 := hof2 o0 (by simp)
            have ho1 := hof2 o1 (by simp)
            have hv5 : ∀ i, (h : i < n) → valF a r 5 s [o0, o1] i = (o0[i]'(by omega) || o1[i]'(by omega)) := fun i h => by simp [valF, show i < o0.length by omega, show i < o1.length by omega]
            refine AW_rg (tyOf_good _) [1, 2, 6, 7, 8, 11, 52, 53] [6, 30] (fun _ _ => trivial) fun K' hK' => ?_
            repeat (refine sxf_next fun K2 hK2 => ?_; simp [dNum, dB, rowB]; (repeat (refine ⟨by omega, ?_⟩)); refine hK2 _ ?_; clear hK2 K2)
            refine sxf_nil (hK' _ ?_)
            refine AW.st (by simp [dNum, dB, rowB]; rfl) ?_
            clear hK' K'
            refine AW_cond false rfl (fun h => by cases h) (fun _ => ?_)
            refine AW_rg (tyOf_good _) [6, 7, 8, 11, 52, 98] [6, 30] (fun _ _ => trivial) fun K' hK' => ?_
            repeat (refine sxf_next fun K2 hK2 => ?_; simp [dNum, dB, rowB]; (repeat (refine ⟨by omega, ?_⟩)); refine hK2 _ ?_; clear hK2 K2)
            refine sxf_nil (hK' _ ?_)
            refine AW.st (by simp [dNum, dB, rowB]; rfl) ?_
            clear hK' K'
            refine AW_cond false rfl (fun h => by cases h) (fun _ => ?_)
            refine AW_rg (tyOf_good _) [6, 7, 8, 11, 52, 109] [6, 30] (fun _ _ => trivial) fun K' hK' => ?_
            repeat (refine sxf_next fun K2 hK2 => ?_; simp [dNum, dB, rowB]; (repeat (refine ⟨by omega, ?_⟩)); refine hK2 _ ?_; clear hK2 K2)
            refine sxf_nil (hK' _ ?_)
            refine AW.st (by simp [dNum, dB, rowB]; rfl) ?_
            clear hK' K'
            refine AW_cond false rfl (fun h => by cases h) (fun _ => ?_)
            refine AW_rg (tyOf_good _) [6, 7, 8, 11, 52, 127] [6, 30] (fun _ _ => trivial) fun K' hK' => ?_
            repeat (refine sxf_next fun K2 hK2 => ?_; simp [dNum, dB, rowB]; (repeat (refine ⟨by omega, ?_⟩)); refine hK2 _ ?_; clear hK2 K2)
            refine sxf_nil (hK' _ ?_)
            refine AW.st (by simp [dNum, dB, rowB]; rfl) ?_
            clear hK' K'
            refine AW_cond false rfl (fun h => by cases h) (fun _ => ?_)
            refine AW_rg (tyOf_good _) [6, 7, 8, 11, 52, 152] [6, 30] (fun _ _ => trivial) fun K' hK' => ?_
            repeat (refine sxf_next fun K2 hK2 => ?_; simp [dNum, dB, rowB]; (repeat (refine ⟨by omega, ?_⟩)); refine hK2 _ ?_; clear hK2 K2)
            refine sxf_nil (hK' _ ?_)
            refine AW.st (by simp [dNum, dB, rowB]; rfl) ?_
            clear hK' K'
            refine AW_cond true rfl (fun _ => ?_) (fun h => by cases h)
            refine AW_rg (tyOf_good _) [6, 8, 155, 156] [6, 30] (fun _ _ => trivial) fun K' hK' => ?_
            repeat (refine sxf_next fun K2 hK2 => ?_; simp [dNum, dB, rowB]; (repeat (refine ⟨by omega, ?_⟩)); refine hK2 _ ?_; clear hK2 K2)
            refine sxf_nil (hK' _ ?_)
            refine AW.st (by simp [dNum, dB, rowB]; rfl) ?_
            clear hK' K'
            refine AW_for (S := (Nat → Bool) × Nat) (fun s' => s'.2 ≤ n ∧ ∀ j, j < s'.2 → s'.1 j = valF a r 5 s [o0, o1] j) (fun s' => ⟨lst [(6, .ref 6 0 0), (8, .d (.ip [dOf [o0, o1]])), (155, int n), (156, int s'.2)], hlst [(6, .box 45 [.own 30 0 n]), (30, rowB n s'.1)]⟩) (fun s' => n - s'.2) (fun _ => false, 0) ?_ (by simp) ?_
            · refine Imp.to' (fun _ _ => trivial) (by simp [dNum, dB, rowB, List.map_const', dOf, dBs]) (by simp [dNum, dB, rowB, List.map_const', dOf, dBs])
            · rintro ⟨f, i⟩ ⟨hi, hall⟩
              dsimp only at hi hall ⊢
              refine AW_rg (tyOf_good _) [6, 8, 155, 156, 157] [6, 30] (fun _ _ => trivial) fun K' hK' => ?_
              repeat (refine sxf_next fun K2 hK2 => ?_; simp [dNum, dB, rowB]; (repeat (refine ⟨by omega, ?_⟩)); refine hK2 _ ?_; clear hK2 K2)
              refine sxf_nil (hK' _ ?_)
              refine AW.st (by simp [dNum, dB, rowB]; rfl) ?_
              clear hK' K'
              refine AW_then fun K12 hK12 => ?_
              refine AW_cond' (b := i < n) (by simp [D.le, D.le.go, takeMap, dNum, dB, rowB]) (fun hc => ?_) (fun hc => ?_)
              · have hin : i < n := hc
                refine AW_skip (hK12 _ ?_)
                refine AW_then fun K13 hK13 => ?_
                refine AW_block ?_
                refine AW_rg (tyOf_good _) [6, 8, 20, 155, 156] [6, 30] (fun _ _ => trivial) fun K' hK' => ?_
                repeat (refine sxf_next fun K2 hK2 => ?_; simp [dNum, dB, rowB]; (repeat (refine ⟨by omega, ?_⟩)); refine hK2 _ ?_; clear hK2 K2)
                refine sxf_nil (hK' _ ?_)
                refine AW.st (by simp [dNum, dB, rowB]; rfl) ?_
                clear hK' K'
                have hv := hv5 i hin
                have hin0 : i < o0.length := by omega
                have hin1 : i < o1.length := by omega
                cases h0 : o0[i]'(by omega) with
                | true =>
                  rw [h0] at hv
                  refine AW_rdge (tyOf_good _) (by kernel_rfl) [(0, 6), (2, 999), (3, 999), (4, 999), (6, 999), (7, 999), (9, 999), (10, 999), (11, 999), (13, 999), (14, 999), (16, 30), (17, 30)] (by kernel_rfl) fun K' hK' => ?_
                  repeat (refine sxg_next fun K2 hK2 => ?_; simp [dNum, dB, rowB, hin, hin0, hin1, h0, dOf, dBs]; (repeat (refine ⟨by omega, ?_⟩)); refine hK2 _ ?_; clear hK2 K2)
                  refine sxg_nil (hK' _ ?_)
                  clear hK' K'
                  refine hK13 _ (AW.norm [6, 8, 155, 156] [6, 30] (fun _ _ => trivial) (AW.st (by simp [dNum, dB, rowB, hin, hin0, hin1, h0, dOf, dBs]; rfl) ?_))
                  refine AW_re (tyOf_good _) fun K' hK' => ?_
                  repeat (refine sxf_next fun K2 hK2 => ?_; simp [dNum, dB, rowB]; (repeat (refine ⟨by omega, ?_⟩)); refine hK2 _ ?_; clear hK2 K2)
                  refine sxf_nil (hK' _ ?_)
                  clear hK' K'
                  try simp only [thn, inb]
                  refine Again.mk (setB f i (valF a r 5 s [o0, o1] i), i + 1) ⟨by dsimp only; omega, fun j hj => ?_⟩ (by dsimp only; omega) ?_
                  · dsimp only at hj ⊢
                    unfold setB
                    split
                    · rename_i e; subst e; rfl
                    · exact hall j (by omega)
                  refine Imp.to' (fun _ _ => trivial) (by simp [dNum, dB, rowB, set_rowB, dOf, dBs, hv]) (by simp [dNum, dB, rowB, set_rowB, dOf, dBs, hv])
                | false =>
                  rw [h0] at hv
                  refine AW_rdge (tyOf_good _) (by kernel_rfl) [(0, 6), (2, 999), (3, 999), (4, 999), (6, 999), (7, 999), (9, 999), (10, 999), (11, 999), (13, 999), (14, 999), (16, 30), (17, 30)] (by kernel_rfl) fun K' hK' => ?_
                  repeat (refine sxg_next fun K2 hK2 => ?_; simp [dNum, dB, rowB, hin, hin0, hin1, h0, dOf, dBs]; (repeat (refine ⟨by omega, ?_⟩)); refine hK2 _ ?_; clear hK2 K2)
                  refine sxg_nil (hK' _ ?_)
                  clear hK' K'
                  refine hK13 _ (AW.norm [6, 8, 155, 156] [6, 30] (fun _ _ => trivial) (AW.st (by simp [dNum, dB, rowB, hin, hin0, hin1, h0, dOf, dBs]; rfl) ?_))
                  refine AW_re (tyOf_good _) fun K' hK' => ?_
                  repeat (refine sxf_next fun K2 hK2 => ?_; simp [dNum, dB, rowB]; (repeat (refine ⟨by omega, ?_⟩)); refine hK2 _ ?_; clear hK2 K2)
                  refine sxf_nil (hK' _ ?_)
                  clear hK' K'
                  try simp only [thn, inb]
                  refine Again.mk (setB f i (valF a r 5 s [o0, o1] i), i + 1) ⟨by dsimp only; omega, fun j hj => ?_⟩ (by dsimp only; omega) ?_
                  · dsimp only at hj ⊢
                    unfold setB
                    split
                    · rename_i e; subst e; rfl
                    · exact hall j (by omega)
                  refine Imp.to' (fun _ _ => trivial) (by simp [dNum, dB, rowB, set_rowB, dOf, dBs, hv]) (by simp [dNum, dB, rowB, set_rowB, dOf, dBs, hv])
              · obtain rfl : i = n := by omega
                refine AW_exit ?_
                refine hK4 _ (AW.norm [6] [6, 30] (fun _ _ => trivial) (AW.st (by simp [dNum, dB, rowB]; rfl) ?_))
                refine AW.st (show _ = (⟨lst [(6, .ref 6 0 0)], hlst [(6, .box 45 [.own 30 0 i]), (30, rowB i (valF a r 5 s [o0, o1]))]⟩ : St) by rw [← rowB_congr hall] <;> rfl) ?_
                refine AW_rg (tyOf_good _) [4] [30] (fun _ _ => trivial) fun K' hK' => ?_
                repeat (refine sxf_next fun K2 hK2 => ?_; simp [dNum, dB, rowB]; (repeat (refine ⟨by omega, ?_⟩)); refine hK2 _ ?_; clear hK2 K2)
                refine sxf_nil (hK' _ ?_)
                refine AW.st (by simp [dNum, dB, rowB]; rfl) ?_
                clear hK' K'
                refine AW_ret ?_
                simp [D.le, D.le.go, takeMap, dNum, dB, rowB, dBs, List.map_map, Function.comp_def, hofe, take_range_map]
          · have hol : of.length = 1 := by rw [hof1]; simp [arityF, arityL] at hlen; omega
            obtain ⟨o0, rfl⟩ := List.length_eq_one_iff.1 hol
            have ho0 := hof2 o0 (by simp)
            have hv6 : ∀ i, (h : i < n) → valF a r 6 s [o0] i = o0[nxF a.length n i]'(by have := nxF_lt (show a.length < n by omega) h; omega) := fun i h => by
              have := nxF_lt (show a.length < n by omega) h
              simp [valF, hn, show nxF a.length n i < o0.length by omega]
            refine AW_rg (tyOf_good _) [1, 2, 6, 7, 8, 11, 52, 53] [6, 30] (fun _ _ => trivial) fun K' hK' => ?_
            repeat (refine sxf_next fun K2 hK2 => ?_; simp [dNum, dB, rowB]; (repeat (refine ⟨by omega, ?_⟩)); refine hK2 _ ?_; clear hK2 K2)
            refine sxf_nil (hK' _ ?_)
            refine AW.st (by simp [dNum, dB, rowB]; rfl) ?_
            clear hK' K'
            refine AW_cond false rfl (fun h => by cases h) (fun _ => ?_)
            refine AW_rg (tyOf_good _) [6, 7, 8, 11, 52, 98] [6, 30] (fun _ _ => trivial) fun K' hK' => ?_
            repeat (refine sxf_next fun K2 hK2 => ?_; simp [dNum, dB, rowB]; (repeat (refine ⟨by omega, ?_⟩)); refine hK2 _ ?_; clear hK2 K2)
            refine sxf_nil (hK' _ ?_)
            refine AW.st (by simp [dNum, dB, rowB]; rfl) ?_
            clear hK' K'
            refine AW_cond false rfl (fun h => by cases h) (fun _ => ?_)
            refine AW_rg (tyOf_good _) [6, 7, 8, 11, 52, 109] [6, 30] (fun _ _ => trivial) fun K' hK' => ?_
            repeat (refine sxf_next fun K2 hK2 => ?_; simp [dNum, dB, rowB]; (repeat (refine ⟨by omega, ?_⟩)); refine hK2 _ ?_; clear hK2 K2)
            refine sxf_nil (hK' _ ?_)
            refine AW.st (by simp [dNum, dB, rowB]; rfl) ?_
            clear hK' K'
            refine AW_cond false rfl (fun h => by cases h) (fun _ => ?_)
            refine AW_rg (tyOf_good _) [6, 7, 8, 11, 52, 127] [6, 30] (fun _ _ => trivial) fun K' hK' => ?_
            repeat (refine sxf_next fun K2 hK2 => ?_; simp [dNum, dB, rowB]; (repeat (refine ⟨by omega, ?_⟩)); refine hK2 _ ?_; clear hK2 K2)
            refine sxf_nil (hK' _ ?_)
            refine AW.st (by simp [dNum, dB, rowB]; rfl) ?_
            clear hK' K'
            refine AW_cond false rfl (fun h => by cases h) (fun _ => ?_)
            refine AW_rg (tyOf_good _) [6, 7, 8, 11, 52, 152] [6, 30] (fun _ _ => trivial) fun K' hK' => ?_
            repeat (refine sxf_next fun K2 hK2 => ?_; simp [dNum, dB, rowB]; (repeat (refine ⟨by omega, ?_⟩)); refine hK2 _ ?_; clear hK2 K2)
            refine sxf_nil (hK' _ ?_)
            refine AW.st (by simp [dNum, dB, rowB]; rfl) ?_
            clear hK' K'
            refine AW_cond false rfl (fun h => by cases h) (fun _ => ?_)
            refine AW_rg (tyOf_good _) [6, 7, 8, 11, 52, 177] [6, 30] (fun _ _ => trivial) fun K' hK' => ?_
            repeat (refine sxf_next fun K2 hK2 => ?_; simp [dNum, dB, rowB]; (repeat (refine ⟨by omega, ?_⟩)); refine hK2 _ ?_; clear hK2 K2)
            refine sxf_nil (hK' _ ?_)
            refine AW.st (by simp [dNum, dB, rowB]; rfl) ?_
            clear hK' K'
            refine AW_cond true rfl (fun _ => ?_) (fun h => by cases h)
            refine AW_rg (tyOf_good _) [6, 7, 8, 180, 181] [6, 30] (fun _ _ => trivial) fun K' hK' => ?_
            repeat (refine sxf_next fun K2 hK2 => ?_; simp [dNum, dB, rowB]; (repeat (refine ⟨by omega, ?_⟩)); refine hK2 _ ?_; clear hK2 K2)
            refine sxf_nil (hK' _ ?_)
            refine AW.st (by simp [dNum, dB, rowB]; rfl) ?_
            clear hK' K'
            refine AW_for (S := (Nat → Bool) × Nat) (fun s' => s'.2 ≤ n ∧ ∀ j, j < s'.2 → s'.1 j = valF a r 6 s [o0] j) (fun s' => ⟨lst [(6, .ref 6 0 0), (7, .d (.ip [.fn (.func 65) [.ip [dNum n], .ip [dTimes a, dTimes r]]])), (8, .d (.ip [dOf [o0]])), (180, int n), (181, int s'.2)], hlst [(6, .box 45 [.own 30 0 n]), (30, rowB n s'.1)]⟩) (fun s' => n - s'.2) (fun _ => false, 0) ?_ (by simp) ?_
            · refine Imp.to' (fun _ _ => trivial) (by simp [dNum, dB, rowB, List.map_const', dOf, dBs]) (by simp [dNum, dB, rowB, List.map_const', dOf, dBs])
            · rintro ⟨f, i⟩ ⟨hi, hall⟩
              dsimp only at hi hall ⊢
              refine AW_rg (tyOf_good _) [6, 7, 8, 180, 181, 182] [6, 30] (fun _ _ => trivial) fun K' hK' => ?_
              repeat (refine sxf_next fun K2 hK2 => ?_; simp [dNum, dB, rowB]; (repeat (refine ⟨by omega, ?_⟩)); refine hK2 _ ?_; clear hK2 K2)
              refine sxf_nil (hK' _ ?_)
              refine AW.st (by simp [dNum, dB, rowB]; rfl) ?_
              clear hK' K'
              refine AW_then fun K12 hK12 => ?_
              refine AW_cond' (b := i < n) (by simp [D.le, D.le.go, takeMap, dNum, dB, rowB]) (fun hc => ?_) (fun hc => ?_)
              · have hin : i < n := hc
                refine AW_skip (hK12 _ ?_)
                refine AW_then fun K13 hK13 => ?_
                refine AW_block ?_
                refine AW_rg (tyOf_good _) [6, 7, 8, 21, 180, 181] [6, 30] (fun _ _ => trivial) fun K' hK' => ?_
                repeat (refine sxf_next fun K2 hK2 => ?_; simp [dNum, dB, rowB]; (repeat (refine ⟨by omega, ?_⟩)); refine hK2 _ ?_; clear hK2 K2)
                refine sxf_nil (hK' _ ?_)
                refine AW.st (by simp [dNum, dB, rowB]; rfl) ?_
                clear hK' K'
                have hv := hv6 i hin
                have hnl := nxF_lt (show a.length < n by omega) hin
                have hcn := next_spec G a r n i (by omega) (by omega)
                have hin2 : nxF a.length n i < o0.length := by omega
                refine AW_rdge (tyOf_good _) (by kernel_rfl) [(0, 6), (2, 999), (3, 999), (4, 999), (5, 999), (8, 999), (9, 999), (10, 30), (11, 30)] (by kernel_rfl) fun K' hK' => ?_
                repeat (refine sxg_next fun K2 hK2 => ?_; simp [dNum, dB, rowB, hin, hin2, dOf, dBs]; (repeat (refine ⟨by omega, ?_⟩)); refine hK2 _ ?_; clear hK2 K2)
                refine sxg_next fun K2 hK2 => ?_
                simp [dNum, dB, rowB, hin, hin2, dOf, dBs]
                refine callQ.data (hcn) (by simp; rfl) (by simp; rfl) (by first | exact D.leGo_refl _ | simp [takeMap, List.map_map, Function.comp_def, D.le, D.le.go, D.le_refl, D.leGo_refl, dNum, dB, rowB, hin, hin2, dOf, dBs]) ?_
                refine hK2 _ ?_
                clear hK2 K2
                simp only [putd, upd_lst]
                repeat (refine sxg_next fun K2 hK2 => ?_; simp [dNum, dB, rowB, hin, hin2, dOf, dBs]; (repeat (refine ⟨by omega, ?_⟩)); refine hK2 _ ?_; clear hK2 K2)
                refine sxg_nil (hK' _ ?_)
                clear hK' K'
                refine hK13 _ (AW.norm [6, 7, 8, 180, 181] [6, 30] (fun _ _ => trivial) (AW.st (by simp [dNum, dB, rowB, hin, hin2, dOf, dBs]; rfl) ?_))
                refine AW_re (tyOf_good _) fun K' hK' => ?_
                repeat (refine sxf_next fun K2 hK2 => ?_; simp [dNum, dB, rowB]; (repeat (refine ⟨by omega, ?_⟩)); refine hK2 _ ?_; clear hK2 K2)
                refine sxf_nil (hK' _ ?_)
                clear hK' K'
                try simp only [thn, inb]
                refine Again.mk (setB f i (valF a r 6 s [o0] i), i + 1) ⟨by dsimp only; omega, fun j hj => ?_⟩ (by dsimp only; omega) ?_
                · dsimp only at hj ⊢
                  unfold setB
                  split
                  · rename_i e; subst e; rfl
                  · exact hall j (by omega)
                refine Imp.to' (fun _ _ => trivial) (by simp [dNum, dB, rowB, set_rowB, dOf, dBs, hv]) (by simp [dNum, dB, rowB, set_rowB, dOf, dBs, hv])
              · obtain rfl : i = n := by omega
                refine AW_exit ?_
                refine hK4 _ (AW.norm [6] [6, 30] (fun _ _ => trivial) (AW.st (by simp [dNum, dB, rowB]; rfl) ?_))
                refine AW.st (show _ = (⟨lst [(6, .ref 6 0 0)], hlst [(6, .box 45 [.own 30 0 i]), (30, rowB i (valF a r 6 s [o0]))]⟩ : St) by rw [← rowB_congr hall] <;> rfl) ?_
                refine AW_rg (tyOf_good _) [4] [30] (fun _ _ => trivial) fun K' hK' => ?_
                repeat (refine sxf_next fun K2 hK2 => ?_; simp [dNum, dB, rowB]; (repeat (refine ⟨by omega, ?_⟩)); refine hK2 _ ?_; clear hK2 K2)
                refine sxf_nil (hK' _ ?_)
                refine AW.st (by simp [dNum, dB, rowB]; rfl) ?_
                clear hK' K'
                refine AW_ret ?_
                simp [D.le, D.le.go, takeMap, dNum, dB, rowB, dBs, List.map_map, Function.comp_def, hofe, take_range_map]
          · have hol : of.length = 2 := by rw [hof1]; simp [arityF, arityL] at hlen; omega
            obtain ⟨o0, o1, rfl⟩ : ∃ x y, of = [x, y] := by match of, hol with | [x, y], _ => exact ⟨x, y, rfl⟩
            have ho0 := hof2 o0 (by simp)
            have ho1 := hof2 o1 (by simp)
            have hnx : ∀ i, i < n → nxF a.length n i < n := fun i hi => nxF_lt (by omega) hi
            have hmo : MonoN (fun i b => (([o0, o1].getD 1 []).getD i false || (([o0, o1].getD 0 []).getD i false && b))) := fun i h => by revert h; dsimp only; cases ([o0, o1].getD 0 []).getD i false <;> cases ([o0, o1].getD 1 []).getD i false <;> simp
            have hnow : ∀ i b, i < n → PureC Tryd.prog G 67 (dNum i :: dB b :: [.ip [dOf [o0, o1]]]) (dB ((fun i b => (([o0, o1].getD 1 []).getD i false || (([o0, o1].getD 0 []).getD i false && b))) i b)) := fun i b hi => by
              have := until_spec G o0 o1 i b (by omega) (by omega)
              simpa [show i < o0.length by omega, show i < o1.length by omega] using this
            have hfx := fix_spec G (fun i b => (([o0, o1].getD 1 []).getD i false || (([o0, o1].getD 0 []).getD i false && b))) (nxF a.length n) false n (by omega) hmo hnx _ _ _ _ hnow (fun i hi => next_spec G a r n i (by omega) (by omega)) (fun _ => false)
            have hvf : valF a r 7 s [o0, o1] = iterN (fun i b => (([o0, o1].getD 1 []).getD i false || (([o0, o1].getD 0 []).getD i false && b))) (nxF a.length n) false n := by subst hn; rfl
            rw [← hvf] at hfx
            refine AW_rg (tyOf_good _) [1, 2, 6, 7, 8, 11, 52, 53] [6, 30] (fun _ _ => trivial) fun K' hK' => ?_
            repeat (refine sxf_next fun K2 hK2 => ?_; simp [dNum, dB, rowB]; (repeat (refine ⟨by omega, ?_⟩)); refine hK2 _ ?_; clear hK2 K2)
            refine sxf_nil (hK' _ ?_)
            refine AW.st (by simp [dNum, dB, rowB]; rfl) ?_
            clear hK' K'
            refine AW_cond false rfl (fun h => by cases h) (fun _ => ?_)
            refine AW_rg (tyOf_good _) [6, 7, 8, 11, 52, 98] [6, 30] (fun _ _ => trivial) fun K' hK' => ?_
            repeat (refine sxf_next fun K2 hK2 => ?_; simp [dNum, dB, rowB]; (repeat (refine ⟨by omega, ?_⟩)); refine hK2 _ ?_; clear hK2 K2)
            refine sxf_nil (hK' _ ?_)
            refine AW.st (by simp [dNum, dB, rowB]; rfl) ?_
            clear hK' K'
            refine AW_cond false rfl (fun h => by cases h) (fun _ => ?_)
            refine AW_rg (tyOf_good _) [6, 7, 8, 11, 52, 109] [6, 30] (fun _ _ => trivial) fun K' hK' => ?_
            repeat (refine sxf_next fun K2 hK2 => ?_; simp [dNum, dB, rowB]; (repeat (refine ⟨by omega, ?_⟩)); refine hK2 _ ?_; clear hK2 K2)
            refine sxf_nil (hK' _ ?_)
            refine AW.st (by simp [dNum, dB, rowB]; rfl) ?_
            clear hK' K'
            refine AW_cond false rfl (fun h => by cases h) (fun _ => ?_)
            refine AW_rg (tyOf_good _) [6, 7, 8, 11, 52, 127] [6, 30] (fun _ _ => trivial) fun K' hK' => ?_
            repeat (refine sxf_next fun K2 hK2 => ?_; simp [dNum, dB, rowB]; (repeat (refine ⟨by omega, ?_⟩)); refine hK2 _ ?_; clear hK2 K2)
            refine sxf_nil (hK' _ ?_)
            refine AW.st (by simp [dNum, dB, rowB]; rfl) ?_
            clear hK' K'
            refine AW_cond false rfl (fun h => by cases h) (fun _ => ?_)
            refine AW_rg (tyOf_good _) [6, 7, 8, 11, 52, 152] [6, 30] (fun _ _ => trivial) fun K' hK' => ?_
            repeat (refine sxf_next fun K2 hK2 => ?_; simp [dNum, dB, rowB]; (repeat (refine ⟨by omega, ?_⟩)); refine hK2 _ ?_; clear hK2 K2)
            refine sxf_nil (hK' _ ?_)
            refine AW.st (by simp [dNum, dB, rowB]; rfl) ?_
            clear hK' K'
            refine AW_cond false rfl (fun h => by cases h) (fun _ => ?_)
            refine AW_rg (tyOf_good _) [6, 7, 8, 11, 52, 177] [6, 30] (fun _ _ => trivial) fun K' hK' => ?_
            repeat (refine sxf_next fun K2 hK2 => ?_; simp [dNum, dB, rowB]; (repeat (refine ⟨by omega, ?_⟩)); refine hK2 _ ?_; clear hK2 K2)
            refine sxf_nil (hK' _ ?_)
            refine AW.st (by simp [dNum, dB, rowB]; rfl) ?_
            clear hK' K'
            refine AW_cond false rfl (fun h => by cases h) (fun _ => ?_)
            refine AW_rg (tyOf_good _) [6, 8, 11, 52, 196] [6, 30] (fun _ _ => trivial) fun K' hK' => ?_
            repeat (refine sxf_next fun K2 hK2 => ?_; simp [dNum, dB, rowB]; (repeat (refine ⟨by omega, ?_⟩)); refine hK2 _ ?_; clear hK2 K2)
            refine sxf_nil (hK' _ ?_)
            refine AW.st (by simp [dNum, dB, rowB]; rfl) ?_
            clear hK' K'
            refine AW_cond true rfl (fun _ => ?_) (fun h => by cases h)
            refine AW_re (tyOf_good _) fun K' hK' => ?_
            repeat (refine sxf_next fun K2 hK2 => ?_; simp [dNum, dB, rowB, rowB, List.map_const', dOf, dBs]; (repeat (refine ⟨by omega, ?_⟩)); refine hK2 _ ?_; clear hK2 K2)
            refine sxf_next fun K2 hK2 => ?_
            simp [dNum, dB, rowB, rowB, List.map_const', dOf, dBs]
            refine callK.mc (hfx) (by simp [dNum, dB, rowB, rowB, List.map_const', dOf, dBs]) (by simp [dNum, dB, rowB, rowB, List.map_const', dOf, dBs]) (by simp [dNum, dB, rowB, rowB, List.map_const', dOf, dBs]) (by simp [dNum, dB, rowB, rowB, List.map_const', dOf, dBs]) ?_
            simp [dNum, dB, rowB, rowB, List.map_const', dOf, dBs]
            refine hK2 _ ?_
            clear hK2 K2
            repeat (refine sxf_next fun K2 hK2 => ?_; simp [dNum, dB, rowB, rowB, List.map_const', dOf, dBs]; (repeat (refine ⟨by omega, ?_⟩)); refine hK2 _ ?_; clear hK2 K2)
            refine sxf_nil (hK' _ ?_)
            clear hK' K'
            refine hK4 _ (AW.norm [6] [6, 30] (fun _ _ => trivial) (AW.st (by simp [dNum, dB, rowB, rowB, List.map_const', dOf, dBs]; rfl) ?_))
            refine AW_rg (tyOf_good _) [4] [30] (fun _ _ => trivial) fun K' hK' => ?_
            repeat (refine sxf_next fun K2 hK2 => ?_; simp [dNum, dB, rowB]; (repeat (refine ⟨by omega, ?_⟩)); refine hK2 _ ?_; clear hK2 K2)
            refine sxf_nil (hK' _ ?_)
            refine AW.st (by simp [dNum, dB, rowB]; rfl) ?_
            clear hK' K'
            refine AW_ret ?_
            simp [D.le, D.le.go, takeMap, dNum, dB, rowB, dBs, List.map_map, Function.comp_def, hofe, take_range_map]
          · have hol : of.length = 2 := by rw [hof1]; simp [arityF, arityL] at hlen; omega
            obtain ⟨o0, o1, rfl⟩ : ∃ x y, of = [x, y] := by match of, hol with | [x, y], _ => exact ⟨x, y, rfl⟩
            have ho0 := hof2 o0 (by simp)
            have ho1 := hof2 o1 (by simp)
            have hnx : ∀ i, i < n → nxF a.length n i < n := fun i hi => nxF_lt (by omega) hi
            have hmo : MonoN (fun i b => (([o0, o1].getD 1 []).getD i false && (([o0, o1].getD 0 []).getD i false || b))) := fun i h => by revert h; dsimp only; cases ([o0, o1].getD 0 []).getD i false <;> cases ([o0, o1].getD 1 []).getD i false <;> simp
            have hnow : ∀ i b, i < n → PureC Tryd.prog G 68 (dNum i :: dB b :: [.ip [dOf [o0, o1]]]) (dB ((fun i b => (([o0, o1].getD 1 []).getD i false && (([o0, o1].getD 0 []).getD i false || b))) i b)) := fun i b hi => by
              have := release_spec G o0 o1 i b (by omega) (by omega)
              simpa [show i < o0.length by omega, show i < o1.length by omega] using this
            have hfx := fix_spec G (fun i b => (([o0, o1].getD 1 []).getD i false && (([o0, o1].getD 0 []).getD i false || b))) (nxF a.length n) true n (by omega) hmo hnx _ _ _ _ hnow (fun i hi => next_spec G a r n i (by omega) (by omega)) (fun _ => false)
            have hvf : valF a r 8 s [o0, o1] = iterN (fun i b => (([o0, o1].getD 1 []).getD i false && (([o0, o1].getD 0 []).getD i false || b))) (nxF a.length n) true n := by subst hn; rfl
            rw [← hvf] at hfx
            refine AW_rg (tyOf_good _) [1, 2, 6, 7, 8, 11, 52, 53] [6, 30] (fun _ _ => trivial) fun K' hK' => ?_
            repeat (refine sxf_next fun K2 hK2 => ?_; simp [dNum, dB, rowB]; (repeat (refine ⟨by omega, ?_⟩)); refine hK2 _ ?_; clear hK2 K2)
            refine sxf_nil (hK' _ ?_)
            refine AW.st (by simp [dNum, dB, rowB]; rfl) ?_
            clear hK' K'
            refine AW_cond false rfl (fun h => by cases h) (fun _ => ?_)
            refine AW_rg (tyOf_good _) [6, 7, 8, 11, 52, 98] [6, 30] (fun _ _ => trivial) fun K' hK' => ?_
            repeat (refine sxf_next fun K2 hK2 => ?_; simp [dNum, dB, rowB]; (repeat (refine ⟨by omega, ?_⟩)); refine hK2 _ ?_; clear hK2 K2)
            refine sxf_nil (hK' _ ?_)
            refine AW.st (by simp [dNum, dB, rowB]; rfl) ?_
            clear hK' K'
            refine AW_cond false rfl (fun h => by cases h) (fun _ => ?_)
            refine AW_rg (tyOf_good _) [6, 7, 8, 11, 52, 109] [6, 30] (fun _ _ => trivial) fun K' hK' => ?_
            repeat (refine sxf_next fun K2 hK2 => ?_; simp [dNum, dB, rowB]; (repeat (refine ⟨by omega, ?_⟩)); refine hK2 _ ?_; clear hK2 K2)
            refine sxf_nil (hK' _ ?_)
            refine AW.st (by simp [dNum, dB, rowB]; rfl) ?_
            clear hK' K'
            refine AW_cond false rfl (fun h => by cases h) (fun _ => ?_)
            refine AW_rg (tyOf_good _) [6, 7, 8, 11, 52, 127] [6, 30] (fun _ _ => trivial) fun K' hK' => ?_
            repeat (refine sxf_next fun K2 hK2 => ?_; simp [dNum, dB, rowB]; (repeat (refine ⟨by omega, ?_⟩)); refine hK2 _ ?_; clear hK2 K2)
            refine sxf_nil (hK' _ ?_)
            refine AW.st (by simp [dNum, dB, rowB]; rfl) ?_
            clear hK' K'
            refine AW_cond false rfl (fun h => by cases h) (fun _ => ?_)
            refine AW_rg (tyOf_good _) [6, 7, 8, 11, 52, 152] [6, 30] (fun _ _ => trivial) fun K' hK' => ?_
            repeat (refine sxf_next fun K2 hK2 => ?_; simp [dNum, dB, rowB]; (repeat (refine ⟨by omega, ?_⟩)); refine hK2 _ ?_; clear hK2 K2)
            refine sxf_nil (hK' _ ?_)
            refine AW.st (by simp [dNum, dB, rowB]; rfl) ?_
            clear hK' K'
            refine AW_cond false rfl (fun h => by cases h) (fun _ => ?_)
            refine AW_rg (tyOf_good _) [6, 7, 8, 11, 52, 177] [6, 30] (fun _ _ => trivial) fun K' hK' => ?_
            repeat (refine sxf_next fun K2 hK2 => ?_; simp [dNum, dB, rowB]; (repeat (refine ⟨by omega, ?_⟩)); refine hK2 _ ?_; clear hK2 K2)
            refine sxf_nil (hK' _ ?_)
            refine AW.st (by simp [dNum, dB, rowB]; rfl) ?_
            clear hK' K'
            refine AW_cond false rfl (fun h => by cases h) (fun _ => ?_)
            refine AW_rg (tyOf_good _) [6, 8, 11, 52, 196] [6, 30] (fun _ _ => trivial) fun K' hK' => ?_
            repeat (refine sxf_next fun K2 hK2 => ?_; simp [dNum, dB, rowB]; (repeat (refine ⟨by omega, ?_⟩)); refine hK2 _ ?_; clear hK2 K2)
            refine sxf_nil (hK' _ ?_)
            refine AW.st (by simp [dNum, dB, rowB]; rfl) ?_
            clear hK' K'
            refine AW_cond false rfl (fun h => by cases h) (fun _ => ?_)
            refine AW_rg (tyOf_good _) [6, 8, 11, 52, 201] [6, 30] (fun _ _ => trivial) fun K' hK' => ?_
            repeat (refine sxf_next fun K2 hK2 => ?_; simp [dNum, dB, rowB]; (repeat (refine ⟨by omega, ?_⟩)); refine hK2 _ ?_; clear hK2 K2)
            refine sxf_nil (hK' _ ?_)
            refine AW.st (by simp [dNum, dB, rowB]; rfl) ?_
            clear hK' K'
            refine AW_cond true rfl (fun _ => ?_) (fun h => by cases h)
            refine AW_re (tyOf_good _) fun K' hK' => ?_
            repeat (refine sxf_next fun K2 hK2 => ?_; simp [dNum, dB, rowB, rowB, List.map_const', dOf, dBs]; (repeat (refine ⟨by omega, ?_⟩)); refine hK2 _ ?_; clear hK2 K2)
            refine sxf_next fun K2 hK2 => ?_
            simp [dNum, dB, rowB, rowB, List.map_const', dOf, dBs]
            refine callK.mc (hfx) (by simp [dNum, dB, rowB, rowB, List.map_const', dOf, dBs]) (by simp [dNum, dB, rowB, rowB, List.map_const', dOf, dBs]) (by simp [dNum, dB, rowB, rowB, List.map_const', dOf, dBs]) (by simp [dNum, dB, rowB, rowB, List.map_const', dOf, dBs]) ?_
            simp [dNum, dB, rowB, rowB, List.map_const', dOf, dBs]
            refine hK2 _ ?_
            clear hK2 K2
            repeat (refine sxf_next fun K2 hK2 => ?_; simp [dNum, dB, rowB, rowB, List.map_const', dOf, dBs]; (repeat (refine ⟨by omega, ?_⟩)); refine hK2 _ ?_; clear hK2 K2)
            refine sxf_nil (hK' _ ?_)
            clear hK' K'
            refine hK4 _ (AW.norm [6] [6, 30] (fun _ _ => trivial) (AW.st (by simp [dNum, dB, rowB, rowB, List.map_const', dOf, dBs]; rfl) ?_))
            refine AW_rg (tyOf_good _) [4] [30] (fun _ _ => trivial) fun K' hK' => ?_
            repeat (refine sxf_next fun K2 hK2 => ?_; simp [dNum, dB, rowB]; (repeat (refine ⟨by omega, ?_⟩)); refine hK2 _ ?_; clear hK2 K2)
            refine sxf_nil (hK' _ ?_)
            refine AW.st (by simp [dNum, dB, rowB]; rfl) ?_
            clear hK' K'
            refine AW_ret ?_
            simp [D.le, D.le.go, takeMap, dNum, dB, rowB, dBs, List.map_map, Function.comp_def, hofe, take_range_map]
          · have hol : of.length = 1 := by rw [hof1]; simp [arityF, arityL] at hlen; omega
            obtain ⟨o0, rfl⟩ := List.length_eq_one_iff.1 hol
            have ho0 := hof2 o0 (by simp)
            have hnx : ∀ i, i < n → nxF a.length n i < n := fun i hi => nxF_lt (by omega) hi
            have hmo : MonoN (fun i b => (([o0].getD 0 []).getD i false || b)) := fun i h => by revert h; dsimp only; cases ([o0].getD 0 []).getD i false <;> simp
            have hnow : ∀ i b, i < n → PureC Tryd.prog G 69 (dNum i :: dB b :: [.ip [dOf [o0]]]) (dB ((fun i b => (([o0].getD 0 []).getD i false || b)) i b)) := fun i b hi => by
              have := ever_spec G o0 i b (by omega)
              simpa [show i < o0.length by omega] using this
            have hfx := fix_spec G (fun i b => (([o0].getD 0 []).getD i false || b)) (nxF a.length n) false n (by omega) hmo hnx _ _ _ _ hnow (fun i hi => next_spec G a r n i (by omega) (by omega)) (fun _ => false)
            have hvf : valF a r 9 s [o0] = iterN (fun i b => (([o0].getD 0 []).getD i false || b)) (nxF a.length n) false n := by subst hn; rfl
            rw [← hvf] at hfx
            refine AW_rg (tyOf_good _) [1, 2, 6, 7, 8, 11, 52, 53] [6, 30] (fun _ _ => trivial) fun K' hK' => ?_
            repeat (refine sxf_next fun K2 hK2 => ?_; simp [dNum, dB, rowB]; (repeat (refine ⟨by omega, ?_⟩)); refine hK2 _ ?_; clear hK2 K2)
            refine sxf_nil (hK' _ ?_)
            refine AW.st (by simp [dNum, dB, rowB]; rfl) ?_
            clear hK' K'
            refine AW_cond false rfl (fun h => by cases h) (fun _ => ?_)
            refine AW_rg (tyOf_good _) [6, 7, 8, 11, 52, 98] [6, 30] (fun _ _ => trivial) fun K' hK' => ?_
            repeat (refine sxf_next fun K2 hK2 => ?_; simp [dNum, dB, rowB]; (repeat (refine ⟨by omega, ?_⟩)); refine hK2 _ ?_; clear hK2 K2)
            refine sxf_nil (hK' _ ?_)
            refine AW.st (by simp [dNum, dB, rowB]; rfl) ?_
            clear hK' K'
            refine AW_cond false rfl (fun h => by cases h) (fun _ => ?_)
            refine AW_rg (tyOf_good _) [6, 7, 8, 11, 52, 109] [6, 30] (fun _ _ => trivial) fun K' hK' => ?_
            repeat (refine sxf_next fun K2 hK2 => ?_; simp [dNum, dB, rowB]; (repeat (refine ⟨by omega, ?_⟩)); refine hK2 _ ?_; clear hK2 K2)
            refine sxf_nil (hK' _ ?_)
            refine AW.st (by simp [dNum, dB, rowB]; rfl) ?_
            clear hK' K'
            refine AW_cond false rfl (fun h => by cases h) (fun _ => ?_)
            refine AW_rg (tyOf_good _) [6, 7, 8, 11, 52, 127] [6, 30] (fun _ _ => trivial) fun K' hK' => ?_
            repeat (refine sxf_next fun K2 hK2 => ?_; simp [dNum, dB, rowB]; (repeat (refine ⟨by omega, ?_⟩)); refine hK2 _ ?_; clear hK2 K2)
            refine sxf_nil (hK' _ ?_)
            refine AW.st (by simp [dNum, dB, rowB]; rfl) ?_
            clear hK' K'
            refine AW_cond false rfl (fun h => by cases h) (fun _ => ?_)
            refine AW_rg (tyOf_good _) [6, 7, 8, 11, 52, 152] [6, 30] (fun _ _ => trivial) fun K' hK' => ?_
            repeat (refine sxf_next fun K2 hK2 => ?_; simp [dNum, dB, rowB]; (repeat (refine ⟨by omega, ?_⟩)); refine hK2 _ ?_; clear hK2 K2)
            refine sxf_nil (hK' _ ?_)
            refine AW.st (by simp [dNum, dB, rowB]; rfl) ?_
            clear hK' K'
            refine AW_cond false rfl (fun h => by cases h) (fun _ => ?_)
            refine AW_rg (tyOf_good _) [6, 7, 8, 11, 52, 177] [6, 30] (fun _ _ => trivial) fun K' hK' => ?_
            repeat (refine sxf_next fun K2 hK2 => ?_; simp [dNum, dB, rowB]; (repeat (refine ⟨by omega, ?_⟩)); refine hK2 _ ?_; clear hK2 K2)
            refine sxf_nil (hK' _ ?_)
            refine AW.st (by simp [dNum, dB, rowB]; rfl) ?_
            clear hK' K'
            refine AW_cond false rfl (fun h => by cases h) (fun _ => ?_)
            refine AW_rg (tyOf_good _) [6, 8, 11, 52, 196] [6, 30] (fun _ _ => trivial) fun K' hK' => ?_
            repeat (refine sxf_next fun K2 hK2 => ?_; simp [dNum, dB, rowB]; (repeat (refine ⟨by omega, ?_⟩)); refine hK2 _ ?_; clear hK2 K2)
            refine sxf_nil (hK' _ ?_)
            refine AW.st (by simp [dNum, dB, rowB]; rfl) ?_
            clear hK' K'
            refine AW_cond false rfl (fun h => by cases h) (fun _ => ?_)
            refine AW_rg (tyOf_good _) [6, 8, 11, 52, 201] [6, 30] (fun _ _ => trivial) fun K' hK' => ?_
            repeat (refine sxf_next fun K2 hK2 => ?_; simp [dNum, dB, rowB]; (repeat (refine ⟨by omega, ?_⟩)); refine hK2 _ ?_; clear hK2 K2)
            refine sxf_nil (hK' _ ?_)
            refine AW.st (by simp [dNum, dB, rowB]; rfl) ?_
            clear hK' K'
            refine AW_cond false rfl (fun h => by cases h) (fun _ => ?_)
            refine AW_rg (tyOf_good _) [6, 8, 11, 52, 206] [6, 30] (fun _ _ => trivial) fun K' hK' => ?_
            repeat (refine sxf_next fun K2 hK2 => ?_; simp [dNum, dB, rowB]; (repeat (refine ⟨by omega, ?_⟩)); refine hK2 _ ?_; clear hK2 K2)
            refine sxf_nil (hK' _ ?_)
            refine AW.st (by simp [dNum, dB, rowB]; rfl) ?_
            clear hK' K'
            refine AW_cond true rfl (fun _ => ?_) (fun h => by cases h)
            refine AW_re (tyOf_good _) fun K' hK' => ?_
            repeat (refine sxf_next fun K2 hK2 => ?_; simp [dNum, dB, rowB, rowB, List.map_const', dOf, dBs]; (repeat (refine ⟨by omega, ?_⟩)); refine hK2 _ ?_; clear hK2 K2)
            refine sxf_next fun K2 hK2 => ?_
            simp [dNum, dB, rowB, rowB, List.map_const', dOf, dBs]
            refine callK.mc (hfx) (by simp [dNum, dB, rowB, rowB, List.map_const', dOf, dBs]) (by simp [dNum, dB, rowB, rowB, List.map_const', dOf, dBs]) (by simp [dNum, dB, rowB, rowB, List.map_const', dOf, dBs]) (by simp [dNum, dB, rowB, rowB, List.map_const', dOf, dBs]) ?_
            simp [dNum, dB, rowB, rowB, List.map_const', dOf, dBs]
            refine hK2 _ ?_
            clear hK2 K2
            repeat (refine sxf_next fun K2 hK2 => ?_; simp [dNum, dB, rowB, rowB, List.map_const', dOf, dBs]; (repeat (refine ⟨by omega, ?_⟩)); refine hK2 _ ?_; clear hK2 K2)
            refine sxf_nil (hK' _ ?_)
            clear hK' K'
            refine hK4 _ (AW.norm [6] [6, 30] (fun _ _ => trivial) (AW.st (by simp [dNum, dB, rowB, rowB, List.map_const', dOf, dBs]; rfl) ?_))
            refine AW_rg (tyOf_good _) [4] [30] (fun _ _ => trivial) fun K' hK' => ?_
            repeat (refine sxf_next fun K2 hK2 => ?_; simp [dNum, dB, rowB]; (repeat (refine ⟨by omega, ?_⟩)); refine hK2 _ ?_; clear hK2 K2)
            refine sxf_nil (hK' _ ?_)
            refine AW.st (by simp [dNum, dB, rowB]; rfl) ?_
            clear hK' K'
            refine AW_ret ?_
            simp [D.le, D.le.go, takeMap, dNum, dB, rowB, dBs, List.map_map, Function.comp_def, hofe, take_range_map]
          · have hol : of.length = 1 := by rw [hof1]; simp [arityF, arityL] at hlen; omega
            obtain ⟨o0, rfl⟩ := List.length_eq_one_iff.1 hol
            have ho0 := hof2 o0 (by simp)
            have hnx : ∀ i, i < n → nxF a.length n i < n := fun i hi => nxF_lt (by omega) hi
            have hmo : MonoN (fun i b => (([o0].getD 0 []).getD i false && b)) := fun i h => by revert h; dsimp only; cases ([o0].getD 0 []).getD i false <;> simp
            have hnow : ∀ i b, i < n → PureC Tryd.prog G 70 (dNum i :: dB b :: [.ip [dOf [o0]]]) (dB ((fun i b => (([o0].getD 0 []).getD i false && b)) i b)) := fun i b hi => by
              have := always_spec G o0 i b (by omega)
              simpa [show i < o0.length by omega] using this
            have hfx := fix_spec G (fun i b => (([o0].getD 0 []).getD i false && b)) (nxF a.length n) true n (by omega) hmo hnx _ _ _ _ hnow (fun i hi => next_spec G a r n i (by omega) (by omega)) (fun _ => false)
            have hvf : valF a r 10 s [o0] = iterN (fun i b => (([o0].getD 0 []).getD i false && b)) (nxF a.length n) true n := by subst hn; rfl
            rw [← hvf] at hfx
            refine AW_rg (tyOf_good _) [1, 2, 6, 7, 8, 11, 52, 53] [6, 30] (fun _ _ => trivial) fun K' hK' => ?_
            repeat (refine sxf_next fun K2 hK2 => ?_; simp [dNum, dB, rowB]; (repeat (refine ⟨by omega, ?_⟩)); refine hK2 _ ?_; clear hK2 K2)
            refine sxf_nil (hK' _ ?_)
            refine AW.st (by simp [dNum, dB, rowB]; rfl) ?_
            clear hK' K'
            refine AW_cond false rfl (fun h => by cases h) (fun _ => ?_)
            refine AW_rg (tyOf_good _) [6, 7, 8, 11, 52, 98] [6, 30] (fun _ _ => trivial) fun K' hK' => ?_
            repeat (refine sxf_next fun K2 hK2 => ?_; simp [dNum, dB, rowB]; (repeat (refine ⟨by omega, ?_⟩)); refine hK2 _ ?_; clear hK2 K2)
            refine sxf_nil (hK' _ ?_)
            refine AW.st (by simp [dNum, dB, rowB]; rfl) ?_
            clear hK' K'
            refine AW_cond false rfl (fun h => by cases h) (fun _ => ?_)
            refine AW_rg (tyOf_good _) [6, 7, 8, 11, 52, 109] [6, 30] (fun _ _ => trivial) fun K' hK' => ?_
            repeat (refine sxf_next fun K2 hK2 => ?_; simp [dNum, dB, rowB]; (repeat (refine ⟨by omega, ?_⟩)); refine hK2 _ ?_; clear hK2 K2)
            refine sxf_nil (hK' _ ?_)
            refine AW.st (by simp [dNum, dB, rowB]; rfl) ?_
            clear hK' K'
            refine AW_cond false rfl (fun h => by cases h) (fun _ => ?_)
            refine AW_rg (tyOf_good _) [6, 7, 8, 11, 52, 127] [6, 30] (fun _ _ => trivial) fun K' hK' => ?_
            repeat (refine sxf_next fun K2 hK2 => ?_; simp [dNum, dB, rowB]; (repeat (refine ⟨by omega, ?_⟩)); refine hK2 _ ?_; clear hK2 K2)
            refine sxf_nil (hK' _ ?_)
            refine AW.st (by simp [dNum, dB, rowB]; rfl) ?_
            clear hK' K'
            refine AW_cond false rfl (fun h => by cases h) (fun _ => ?_)
            refine AW_rg (tyOf_good _) [6, 7, 8, 11, 52, 152] [6, 30] (fun _ _ => trivial) fun K' hK' => ?_
            repeat (refine sxf_next fun K2 hK2 => ?_; simp [dNum, dB, rowB]; (repeat (refine ⟨by omega, ?_⟩)); refine hK2 _ ?_; clear hK2 K2)
            refine sxf_nil (hK' _ ?_)
            refine AW.st (by simp [dNum, dB, rowB]; rfl) ?_
            clear hK' K'
            refine AW_cond false rfl (fun h => by cases h) (fun _ => ?_)
            refine AW_rg (tyOf_good _) [6, 7, 8, 11, 52, 177] [6, 30] (fun _ _ => trivial) fun K' hK' => ?_
            repeat (refine sxf_next fun K2 hK2 => ?_; simp [dNum, dB, rowB]; (repeat (refine ⟨by omega, ?_⟩)); refine hK2 _ ?_; clear hK2 K2)
            refine sxf_nil (hK' _ ?_)
            refine AW.st (by simp [dNum, dB, rowB]; rfl) ?_
            clear hK' K'
            refine AW_cond false rfl (fun h => by cases h) (fun _ => ?_)
            refine AW_rg (tyOf_good _) [6, 8, 11, 52, 196] [6, 30] (fun _ _ => trivial) fun K' hK' => ?_
            repeat (refine sxf_next fun K2 hK2 => ?_; simp [dNum, dB, rowB]; (repeat (refine ⟨by omega, ?_⟩)); refine hK2 _ ?_; clear hK2 K2)
            refine sxf_nil (hK' _ ?_)
            refine AW.st (by simp [dNum, dB, rowB]; rfl) ?_
            clear hK' K'
            refine AW_cond false rfl (fun h => by cases h) (fun _ => ?_)
            refine AW_rg (tyOf_good _) [6, 8, 11, 52, 201] [6, 30] (fun _ _ => trivial) fun K' hK' => ?_
            repeat (refine sxf_next fun K2 hK2 => ?_; simp [dNum, dB, rowB]; (repeat (refine ⟨by omega, ?_⟩)); refine hK2 _ ?_; clear hK2 K2)
            refine sxf_nil (hK' _ ?_)
            refine AW.st (by simp [dNum, dB, rowB]; rfl) ?_
            clear hK' K'
            refine AW_cond false rfl (fun h => by cases h) (fun _ => ?_)
            refine AW_rg (tyOf_good _) [6, 8, 11, 52, 206] [6, 30] (fun _ _ => trivial) fun K' hK' => ?_
            repeat (refine sxf_next fun K2 hK2 => ?_; simp [dNum, dB, rowB]; (repeat (refine ⟨by omega, ?_⟩)); refine hK2 _ ?_; clear hK2 K2)
            refine sxf_nil (hK' _ ?_)
            refine AW.st (by simp [dNum, dB, rowB]; rfl) ?_
            clear hK' K'
            refine AW_cond false rfl (fun h => by cases h) (fun _ => ?_)
            refine AW_rg (tyOf_good _) [6, 8, 11, 211] [6, 30] (fun _ _ => trivial) fun K' hK' => ?_
            repeat (refine sxf_next fun K2 hK2 => ?_; simp [dNum, dB, rowB]; (repeat (refine ⟨by omega, ?_⟩)); refine hK2 _ ?_; clear hK2 K2)
            refine sxf_nil (hK' _ ?_)
            refine AW.st (by simp [dNum, dB, rowB]; rfl) ?_
            clear hK' K'
            refine AW_cond true rfl (fun _ => ?_) (fun h => by cases h)
            refine AW_re (tyOf_good _) fun K' hK' => ?_
            repeat (refine sxf_next fun K2 hK2 => ?_; simp [dNum, dB, rowB, rowB, List.map_const', dOf, dBs]; (repeat (refine ⟨by omega, ?_⟩)); refine hK2 _ ?_; clear hK2 K2)
            refine sxf_next fun K2 hK2 => ?_
            simp [dNum, dB, rowB, rowB, List.map_const', dOf, dBs]
            refine callK.mc (hfx) (by simp [dNum, dB, rowB, rowB, List.map_const', dOf, dBs]) (by simp [dNum, dB, rowB, rowB, List.map_const', dOf, dBs]) (by simp [dNum, dB, rowB, rowB, List.map_const', dOf, dBs]) (by simp [dNum, dB, rowB, rowB, List.map_const', dOf, dBs]) ?_
            simp [dNum, dB, rowB, rowB, List.map_const', dOf, dBs]
            refine hK2 _ ?_
            clear hK2 K2
            repeat (refine sxf_next fun K2 hK2 => ?_; simp [dNum, dB, rowB, rowB, List.map_const', dOf, dBs]; (repeat (refine ⟨by omega, ?_⟩)); refine hK2 _ ?_; clear hK2 K2)
            refine sxf_nil (hK' _ ?_)
            clear hK' K'
            refine hK4 _ (AW.norm [6] [6, 30] (fun _ _ => trivial) (AW.st (by simp [dNum, dB, rowB, rowB, List.map_const', dOf, dBs]; rfl) ?_))
            refine AW_rg (tyOf_good _) [4] [30] (fun _ _ => trivial) fun K' hK' => ?_
            repeat (refine sxf_next fun K2 hK2 => ?_; simp [dNum, dB, rowB]; (repeat (refine ⟨by omega, ?_⟩)); refine hK2 _ ?_; clear hK2 K2)
            refine sxf_nil (hK' _ ?_)
            refine AW.st (by simp [dNum, dB, rowB]; rfl) ?_
            clear hK' K'
            refine AW_ret ?_
            simp [D.le, D.le.go, takeMap, dNum, dB, rowB, dBs, List.map_map, Function.comp_def, hofe, take_range_map]
#print axioms holds_spec
end Go.Proofs.YtblafkekblaibaaDoor

/-
  Words of which one is laid upon another: what holds.
-/
namespace Go.Proofs.YtblafkekblaibaaDoor
set_option linter.unusedSimpArgs false
set_option linter.unusedVariables false

def atB (l : List Bool) (i : Nat) : Bool := l.getD i false
theorem iterN_sim {now now' : Nat → Bool → Bool} {nx nx' : Nat → Nat} {st : Bool} {n' : Nat} {φ : Nat → Nat} (hx : ∀ i, i < n' → nx' i < n') (h1 : ∀ i, i < n' → φ (nx' i) = nx (φ i)) (h2 : ∀ i b, i < n' → now' i b = now (φ i) b) :
    ∀ k i, i < n' → iterN now' nx' st k i = iterN now nx st k (φ i)
  | 0, i, _ => rfl
  | k + 1, i, hi => by
    simp only [iterN]
    rw [h2 i _ hi, iterN_sim hx h1 h2 k _ (hx i hi), h1 i hi]
theorem iterN_sim' {now now' : Nat → Bool → Bool} (hm : MonoN now) (hm' : MonoN now') {nx nx' : Nat → Nat} {st : Bool} {n n' : Nat} {φ : Nat → Nat} (hx : ∀ i, i < n → nx i < n) (hx' : ∀ i, i < n' → nx' i < n') (h0 : ∀ i, i < n' → φ i < n)
    (h1 : ∀ i, i < n' → φ (nx' i) = nx (φ i)) (h2 : ∀ i b, i < n' → now' i b = now (φ i) b) {i : Nat} (hi : i < n') : iterN now' nx' st n' i = iterN now nx st n (φ i) := by
  rw [← iterN_all hm' hx' (Nat.le_max_left n' n) hi, ← iterN_all hm hx (Nat.le_max_right n' n) (h0 i hi)]
  exact iterN_sim hx' h1 h2 _ _ hi

/-- The second word lies upon the first. -/
structure Upon (a r a' r' : Times) (φ : Nat → Nat) : Prop where
  r0 : 0 < r.length
  r0' : 0 < r'.length
  lt : ∀ i, i < a'.length + r'.length → φ i < a.length + r.length
  next : ∀ i, i < a'.length + r'.length → φ (nxF a'.length (a'.length + r'.length) i) = nxF a.length (a.length + r.length) (φ i)
  time : ∀ i, i < a'.length + r'.length → (a' ++ r').getD i [] = (a ++ r).getD (φ i) []

theorem atB_map {n i : Nat} (f : Nat → Bool) (h : i < n) : atB ((List.range n).map f) i = f i := by simp [atB, List.getD_eq_getElem?_getD, h]
theorem holdsL_at (a r : Times) (l : List Fm) (j : Nat) : (holdsL a r l).getD j [] = if h : j < l.length then holdsF a r l[j] else [] := by
  rw [holdsL_map]
  by_cases h : j < l.length
  · simp [List.getD_eq_getElem?_getD, h]
  · simp [List.getD_eq_getElem?_getD, h]
theorem mono_or (o1 : Nat → Bool) (o0 : Nat → Bool) : MonoN fun i b => o1 i || (o0 i && b) := fun i h => by revert h; dsimp only; cases o1 i <;> cases o0 i <;> simp
theorem mono_and (o1 : Nat → Bool) (o0 : Nat → Bool) : MonoN fun i b => o1 i && (o0 i || b) := fun i h => by revert h; dsimp only; cases o1 i <;> cases o0 i <;> simp
theorem mono_or1 (o0 : Nat → Bool) : MonoN fun i b => o0 i || b := fun i h => by revert h; dsimp only; cases o0 i <;> simp
theorem mono_and1 (o0 : Nat → Bool) : MonoN fun i b => o0 i && b := fun i h => by revert h; dsimp only; cases o0 i <;> simp

/-- What holds there, holds where it lies upon. -/
theorem holds_upon {a r a' r' : Times} {φ : Nat → Nat} (u : Upon a r a' r' φ) : ∀ f : Fm, ∀ i, i < a'.length + r'.length → atB (holdsF a' r' f) i = atB (holdsF a r f) (φ i)
  | .nil, i, _ => by simp [holdsF, atB]
  | .mk k s l, i, hi => by
    have hφ := u.lt i hi
    rw [holdsF, holdsF, atB_map _ hi, atB_map _ hφ]
    have ho : ∀ j i, i < a'.length + r'.length → ((holdsL a' r' l).getD j []).getD i false = ((holdsL a r l).getD j []).getD (φ i) false := fun j i hi => by
      rw [holdsL_at, holdsL_at]
      by_cases h : j < l.length
      · rw [dif_pos h, dif_pos h]
        exact holds_upon u l[j] i hi
      · rw [dif_neg h, dif_neg h]; rfl
    have hx : ∀ i, i < a.length + r.length → nxF a.length (a.length + r.length) i < a.length + r.length := fun i hi => nxF_lt (by have := u.r0; omega) hi
    have hx' : ∀ i, i < a'.length + r'.length → nxF a'.length (a'.length + r'.length) i < a'.length + r'.length := fun i hi => nxF_lt (by have := u.r0'; omega) hi
    unfold valF
    dsimp only
    by_cases h1 : k = 1
    · rw [if_pos h1, if_pos h1]
      rw [u.time i hi]
    rw [if_neg h1, if_neg h1]
    by_cases h2 : k = 2
    · rw [if_pos h2, if_pos h2]
    rw [if_neg h2, if_neg h2]
    by_cases h3 : k = 3
    · rw [if_pos h3, if_pos h3]
      rw [ho 0 i hi]
    rw [if_neg h3, if_neg h3]
    by_cases h4 : k = 4
    · rw [if_pos h4, if_pos h4]
      rw [ho 0 i hi, ho 1 i hi]
    rw [if_neg h4, if_neg h4]
    by_cases h5 : k = 5
    · rw [if_pos h5, if_pos h5]
      rw [ho 0 i hi, ho 1 i hi]
    rw [if_neg h5, if_neg h5]
    by_cases h6 : k = 6
    · rw [if_pos h6, if_pos h6]
      rw [ho 0 _ (hx' i hi), u.next i hi]
    rw [if_neg h6, if_neg h6]
    by_cases h7 : k = 7
    · rw [if_pos h7, if_pos h7]
      exact iterN_sim' (mono_or _ _) (mono_or _ _) hx hx' u.lt u.next (fun i b hi => by rw [ho 0 i hi, ho 1 i hi]) hi
    rw [if_neg h7, if_neg h7]
    by_cases h8 : k = 8
    · rw [if_pos h8, if_pos h8]
      exact iterN_sim' (mono_and _ _) (mono_and _ _) hx hx' u.lt u.next (fun i b hi => by rw [ho 0 i hi, ho 1 i hi]) hi
    rw [if_neg h8, if_neg h8]
    by_cases h9 : k = 9
    · rw [if_pos h9, if_pos h9]
      exact iterN_sim' (mono_or1 _) (mono_or1 _) hx hx' u.lt u.next (fun i b hi => by rw [ho 0 i hi]) hi
    rw [if_neg h9, if_neg h9]
    exact iterN_sim' (mono_and1 _) (mono_and1 _) hx hx' u.lt u.next (fun i b hi => by rw [ho 0 i hi]) hi
termination_by f => SizeOf.sizeOf f
decreasing_by
  have := List.sizeOf_lt_of_mem (List.getElem_mem h)
  simp only [Fm.mk.sizeOf_spec]
  omega

/-- A round, turned: its first time ahead, and at its end. -/
theorem upon_turn (a : Times) (x : List (List UInt8)) (r : Times) : Upon a (x :: r) (a ++ [x]) (r ++ [x]) fun i => if i < a.length + (r.length + 1) then i else a.length where
  r0 := by simp
  r0' := by simp
  lt i hi := by simp at hi ⊢; split <;> omega
  next i hi := by
    simp only [List.length_append, List.length_cons, List.length_nil] at hi ⊢
    unfold nxF
    repeat' split
    all_goals omega
  time i hi := by
    simp only [List.length_append, List.length_cons, List.length_nil] at hi
    split
    · rename_i h
      have : a ++ [x] ++ (r ++ [x]) = (a ++ x :: r) ++ [x] := by simp
      rw [this, List.getD_eq_getElem?_getD, List.getD_eq_getElem?_getD, List.getElem?_append_left (by simp; omega)]
    · have hi2 : i = a.length + (r.length + 1) := by omega
      subst hi2
      have : a ++ [x] ++ (r ++ [x]) = (a ++ x :: r) ++ [x] := by simp
      rw [this, List.getD_eq_getElem?_getD, List.getD_eq_getElem?_getD, List.getElem?_append_right (by simp)]
      simp
/-- A round, gone twice. -/
theorem upon_twice (a r : Times) (h : 0 < r.length) : Upon a r a (r ++ r) fun i => if i < a.length + r.length then i else i - r.length where
  r0 := h
  r0' := by simp; omega
  lt i hi := by simp at hi ⊢; split <;> omega
  next i hi := by
    simp only [List.length_append] at hi ⊢
    unfold nxF
    repeat' split
    all_goals omega
  time i hi := by
    simp only [List.length_append] at hi
    split
    · rename_i h
      rw [← List.append_assoc, List.getD_eq_getElem?_getD, List.getD_eq_getElem?_getD, List.getElem?_append_left (by simp; omega)]
    · rename_i h
      rw [← List.append_assoc, List.getD_eq_getElem?_getD, List.getD_eq_getElem?_getD, List.getElem?_append_right (by simp; omega), List.getElem?_append_right (by omega)]
      congr 2
      simp
      omega
end Go.Proofs.YtblafkekblaibaaDoor

/-
  Words that may be: lasso.Check; lasso.Holds.
-/
namespace Go.Proofs.YtblafkekblaibaaDoor
set_option linter.unusedSimpArgs false
set_option linter.unusedVariables false
open Go.Av

def okTimes (X : Times) : Bool := X.all fun t => t.all nameF
/-- What is wrong with a word. -/
def wordE (a r : Times) : Int := if r.length < 1 ∨ 60 < a.length + r.length then 4 else if okTimes a && okTimes r then 0 else 5
/-- No more than a program may reach. -/
structure Small (a r : Times) : Prop where
  len : a.length + r.length < 2^60
  times : ∀ t ∈ a ++ r, t.length < 2^60
  names : ∀ t ∈ a ++ r, ∀ s ∈ t, s.length < 2^60

theorem okTimes_bad {X : Times} {i m : Nat} (hi : i < X.length) (hm : m < X[i].length) (h : nameF X[i][m] = false) : okTimes X = false := by
  cases hk : okTimes X with
  | false => rfl
  | true =>
    unfold okTimes at hk
    have h1 := List.all_eq_true.1 (List.all_eq_true.1 hk _ (List.getElem_mem hi)) _ (List.getElem_mem hm)
    rw [h] at h1
    cases h1

set_option maxHeartbeats 8000000 in
theorem wcheck_spec (G : Glob) (a r : Times) (hs : Small a r) : PureC Tryd.prog G 46 [dW a r] (dErr (errOf (wordE a r))) := by
  have hsl := hs.len
  have hst := hs.times
  have hsn := hs.names
  by_cases h1 : (r.length : Int) < 1
  · have hw : wordE a r = 4 := by unfold wordE; rw [if_pos (.inl (by omega))]
    rw [hw]
    refine PureC.of_body (tyOf_good _) Tryd.func46 rfl rfl (rs := [.tmp 2]) Tryd.results46 (by simp [Tryd.ntmps46]) fun X => ?_
    simp only [Tryd.ntmps46, List.map]
    refine AW_rg (tyOf_good _) [1] [1] (fun _ _ => trivial) fun K' hK' => ?_
    repeat (refine sxf_next fun K2 hK2 => ?_; simp [dNum, dW]; (repeat (refine ⟨by omega, ?_⟩)); refine hK2 _ ?_; clear hK2 K2)
    refine sxf_nil (hK' _ ?_)
    refine AW.st (by simp [dNum, dW]; rfl) ?_
    clear hK' K'
    refine AW_then fun K1 hK1 => ?_
    refine AW_rg (tyOf_good _) [1, 22] [1] (fun _ _ => trivial) fun K' hK' => ?_
    repeat (refine sxf_next fun K2 hK2 => ?_; simp [dNum, dTimes, h1]; (repeat (refine ⟨by omega, ?_⟩)); refine hK2 _ ?_; clear hK2 K2)
    refine sxf_nil (hK' _ ?_)
    refine AW.st (by simp [dNum, dTimes, h1]; rfl) ?_
    clear hK' K'
    refine AW_cond true rfl (fun _ => ?_) (fun h => by cases h)
    refine AW_rg (tyOf_good _) [2] [] (fun _ _ => trivial) fun K' hK' => ?_
    repeat (refine sxf_next fun K2 hK2 => ?_; simp [dNum]; (repeat (refine ⟨by omega, ?_⟩)); refine hK2 _ ?_; clear hK2 K2)
    refine sxf_nil (hK' _ ?_)
    refine AW.st (by simp [dNum]; rfl) ?_
    clear hK' K'
    refine AW_ret ?_
    simp [D.le, D.le.go, takeMap, dNum, dErr, errOf]
  by_cases h2 : (60 : Int) < (a.length : Int) + r.length
  · have hw : wordE a r = 4 := by unfold wordE; rw [if_pos (.inr (by omega))]
    rw [hw]
    refine PureC.of_body (tyOf_good _) Tryd.func46 rfl rfl (rs := [.tmp 2]) Tryd.results46 (by simp [Tryd.ntmps46]) fun X => ?_
    simp only [Tryd.ntmps46, List.map]
    refine AW_rg (tyOf_good _) [1] [1] (fun _ _ => trivial) fun K' hK' => ?_
    repeat (refine sxf_next fun K2 hK2 => ?_; simp [dNum, dW]; (repeat (refine ⟨by omega, ?_⟩)); refine hK2 _ ?_; clear hK2 K2)
    refine sxf_nil (hK' _ ?_)
    refine AW.st (by simp [dNum, dW]; rfl) ?_
    clear hK' K'
    refine AW_then fun K1 hK1 => ?_
    refine AW_rg (tyOf_good _) [1, 22] [1] (fun _ _ => trivial) fun K' hK' => ?_
    repeat (refine sxf_next fun K2 hK2 => ?_; simp [dNum, dTimes, h1, h2]; (repeat (refine ⟨by omega, ?_⟩)); refine hK2 _ ?_; clear hK2 K2)
    refine sxf_nil (hK' _ ?_)
    refine AW.st (by simp [dNum, dTimes, h1, h2]; rfl) ?_
    clear hK' K'
    refine AW_cond true rfl (fun _ => ?_) (fun h => by cases h)
    refine AW_rg (tyOf_good _) [2] [] (fun _ _ => trivial) fun K' hK' => ?_
    repeat (refine sxf_next fun K2 hK2 => ?_; simp [dNum]; (repeat (refine ⟨by omega, ?_⟩)); refine hK2 _ ?_; clear hK2 K2)
    refine sxf_nil (hK' _ ?_)
    refine AW.st (by simp [dNum]; rfl) ?_
    clear hK' K'
    refine AW_ret ?_
    simp [D.le, D.le.go, takeMap, dNum, dErr, errOf]
  have hw : wordE a r = if okTimes a && okTimes r then 0 else 5 := by unfold wordE; rw [if_neg (by omega)]
  have hP : ∀ p (h : p < [a, r].length), ∀ t ∈ [a, r][p], t ∈ a ++ r := fun p h t ht => by
    match p, h with
    | 0, _ => exact List.mem_append_left _ ht
    | 1, _ => exact List.mem_append_right _ ht
  have hPl : ∀ p (h : p < [a, r].length), [a, r][p].length < 2^60 := fun p h => by
    match p, h with
    | 0, _ => show a.length < _; omega
    | 1, _ => show r.length < _; omega
  have hbad : ∀ p (h : p < [a, r].length), okTimes [a, r][p] = false → wordE a r = 5 := fun p h hb => by
    rw [hw]
    match p, h with
    | 0, _ => rw [show okTimes a = false from hb]; rfl
    | 1, _ => rw [show okTimes r = false from hb, Bool.and_false]; rfl
  have hgood : (∀ p (h : p < [a, r].length), okTimes [a, r][p] = true) → wordE a r = 0 := fun h => by
    rw [hw, show okTimes a = true from h 0 (by simp), show okTimes r = true from h 1 (by simp)]; rfl
  refine PureC.of_body (tyOf_good _) Tryd.func46 rfl rfl (rs := [.tmp 2]) Tryd.results46 (by simp [Tryd.ntmps46]) fun X => ?_
  simp only [Tryd.ntmps46, List.map]
  refine AW_rg (tyOf_good _) [1] [1] (fun _ _ => trivial) fun K' hK' => ?_
  repeat (refine sxf_next fun K2 hK2 => ?_; simp [dNum, dW]; (repeat (refine ⟨by omega, ?_⟩)); refine hK2 _ ?_; clear hK2 K2)
  refine sxf_nil (hK' _ ?_)
  refine AW.st (by simp [dNum, dW]; rfl) ?_
  clear hK' K'
  refine AW_then fun K1 hK1 => ?_
  refine AW_rg (tyOf_good _) [1, 22] [1] (fun _ _ => trivial) fun K' hK' => ?_
  repeat (refine sxf_next fun K2 hK2 => ?_; simp [dNum, dTimes, h1, h2]; (repeat (refine ⟨by omega, ?_⟩)); refine hK2 _ ?_; clear hK2 K2)
  refine sxf_nil (hK' _ ?_)
  refine AW.st (by simp [dNum, dTimes, h1, h2]; rfl) ?_
  clear hK' K'
  refine AW_cond false rfl (fun h => by cases h) (fun _ => ?_)
  refine AW_skip (hK1 _ ?_)
  refine AW_then fun K2 hK2 => ?_
  refine AW_rg (tyOf_good _) [28, 29, 30] [28] (fun _ _ => trivial) fun K' hK' => ?_
  repeat (refine sxf_next fun K2 hK2 => ?_; simp [dNum, dTimes]; (repeat (refine ⟨by omega, ?_⟩)); refine hK2 _ ?_; clear hK2 K2)
  refine sxf_nil (hK' _ ?_)
  refine AW.st (by simp [dNum, dTimes]; rfl) ?_
  clear hK' K'
  refine AW.imp (Imp.freeze 28 trivial) ?_
  refine AW.st (by simp [dNum]; rfl) ?_
  refine AW.st (show _ = (⟨lst [(28, .d (.sl none ([a, r].map fun X => [dTimes X]))), (29, int ([a, r].length : Nat)), (30, int (0 : Nat))], hlst []⟩ : St) by simp [dTimes]) ?_
  have hPn : [a, r].length ≤ 2 := by simp
  generalize [a, r] = Ps at hP hPl hbad hgood hPn
  refine AW_for (S := Nat) (fun p => p ≤ Ps.length ∧ ∀ q (h : q < Ps.length), q < p → okTimes Ps[q] = true) (fun p => ⟨lst [(28, .d (.sl none (Ps.map fun X => [dTimes X]))), (29, int Ps.length), (30, int p)], hlst []⟩) (fun p => Ps.length - p) 0 ?_ ⟨Nat.zero_le _, fun q h hq => by omega⟩ ?_
  · refine Imp.to' (fun _ _ => trivial) (by simp [dNum, dTimes]) (by simp [dNum, dTimes])
  · rintro p ⟨hp, hpo⟩
    refine AW_rg (tyOf_good _) [28, 29, 30, 31] [] (fun _ _ => trivial) fun K' hK' => ?_
    repeat (refine sxf_next fun K2 hK2 => ?_; simp [dNum]; (repeat (refine ⟨by omega, ?_⟩)); refine hK2 _ ?_; clear hK2 K2)
    refine sxf_nil (hK' _ ?_)
    refine AW.st (by simp [dNum]; rfl) ?_
    clear hK' K'
    refine AW_then fun K3 hK3 => ?_
    refine AW_cond' (b := p < Ps.length) (by simp [D.le, D.le.go, takeMap, dNum]) (fun hc => ?_) (fun hc => ?_)
    · have hpl : p < Ps.length := hc
      have hX := hP p hpl
      have hXl := hPl p hpl
      have hXb := hbad p hpl
      refine AW_skip (hK3 _ ?_)
      refine AW_then fun K4 hK4 => ?_
      refine AW_block ?_
      refine AW_rg (tyOf_good _) [4, 28, 29, 30] [] (fun _ _ => trivial) fun K' hK' => ?_
      repeat (refine sxf_next fun K2 hK2 => ?_; simp [dNum, dTimes, hpl]; (repeat (refine ⟨by omega, ?_⟩)); refine hK2 _ ?_; clear hK2 K2)
      refine sxf_nil (hK' _ ?_)
      refine AW.st (by simp [dNum, dTimes, hpl]; rfl) ?_
      clear hK' K'
      refine AW_rg (tyOf_good _) [28, 29, 30, 34, 35, 36] [] (fun _ _ => trivial) fun K' hK' => ?_
      repeat (refine sxf_next fun K2 hK2 => ?_; simp [dNum]; (repeat (refine ⟨by omega, ?_⟩)); refine hK2 _ ?_; clear hK2 K2)
      refine sxf_nil (hK' _ ?_)
      refine AW.st (by simp [dNum]; rfl) ?_
      clear hK' K'
      generalize hXe : Ps[p] = X at hX hXl hXb
      refine AW_for (S := Nat) (fun i => i ≤ X.length ∧ ∀ q (h : q < X.length), q < i → X[q].all nameF = true) (fun i => ⟨lst [(28, .d (.sl none (Ps.map fun X => [dTimes X]))), (29, int Ps.length), (30, int p), (34, .d (dTimes X)), (35, int X.length), (36, int i)], hlst []⟩) (fun i => X.length - i) 0 ?_ ⟨Nat.zero_le _, fun q h hq => by omega⟩ ?_
      · refine Imp.to' (fun _ _ => trivial) (by simp [dNum, dTimes]) (by simp [dNum, dTimes])
      · rintro i ⟨hi, hio⟩
        refine AW_rg (tyOf_good _) [28, 29, 30, 34, 35, 36, 37] [] (fun _ _ => trivial) fun K' hK' => ?_
        repeat (refine sxf_next fun K2 hK2 => ?_; simp [dNum, dTimes]; (repeat (refine ⟨by omega, ?_⟩)); refine hK2 _ ?_; clear hK2 K2)
        refine sxf_nil (hK' _ ?_)
        refine AW.st (by simp [dNum, dTimes]; rfl) ?_
        clear hK' K'
        refine AW_then fun K5 hK5 => ?_
        refine AW_cond' (b := i < X.length) (by simp [D.le, D.le.go, takeMap, dNum]) (fun hc => ?_) (fun hc => ?_)
        · have hil : i < X.length := hc
          have ht1 := hst _ (hX _ (List.getElem_mem hil))
          have ht2 := hsn _ (hX _ (List.getElem_mem hil))
          have ht3 : ∀ m (hm : m < X[i].length), nameF X[i][m] = false → wordE a r = 5 := fun m hm h => hXb (okTimes_bad hil hm h)
          refine AW_skip (hK5 _ ?_)
          refine AW_then fun K6 hK6 => ?_
          refine AW_block ?_
          refine AW_rg (tyOf_good _) [6, 28, 29, 30, 34, 35, 36] [] (fun _ _ => trivial) fun K' hK' => ?_
          repeat (refine sxf_next fun K2 hK2 => ?_; simp [dNum, dTimes, dNames, hil]; (repeat (refine ⟨by omega, ?_⟩)); refine hK2 _ ?_; clear hK2 K2)
          refine sxf_nil (hK' _ ?_)
          refine AW.st (by simp [dNum, dTimes, dNames, hil]; rfl) ?_
          clear hK' K'
          refine AW_rg (tyOf_good _) [28, 29, 30, 34, 35, 36, 40, 41, 42] [] (fun _ _ => trivial) fun K' hK' => ?_
          repeat (refine sxf_next fun K2 hK2 => ?_; simp [dNum]; (repeat (refine ⟨by omega, ?_⟩)); refine hK2 _ ?_; clear hK2 K2)
          refine sxf_nil (hK' _ ?_)
          refine AW.st (by simp [dNum]; rfl) ?_
          clear hK' K'
          generalize hte : X[i] = t at ht1 ht2 ht3
          refine AW_for (S := Nat) (fun m => m ≤ t.length ∧ ∀ q (h : q < t.length), q < m → nameF t[q] = true) (fun m => ⟨lst [(28, .d (.sl none (Ps.map fun X => [dTimes X]))), (29, int Ps.length), (30, int p), (34, .d (dTimes X)), (35, int X.length), (36, int i), (40, .d (dNames t)), (41, int t.length), (42, int m)], hlst []⟩) (fun m => t.length - m) 0 ?_ ⟨Nat.zero_le _, fun q h hq => by omega⟩ ?_
          · refine Imp.to' (fun _ _ => trivial) (by simp [dNum, dTimes, dNames]) (by simp [dNum, dTimes, dNames])
          · rintro m ⟨hm, hmo⟩
            refine AW_rg (tyOf_good _) [28, 29, 30, 34, 35, 36, 40, 41, 42, 43] [] (fun _ _ => trivial) fun K' hK' => ?_
            repeat (refine sxf_next fun K2 hK2 => ?_; simp [dNum, dNames]; (repeat (refine ⟨by omega, ?_⟩)); refine hK2 _ ?_; clear hK2 K2)
            refine sxf_nil (hK' _ ?_)
            refine AW.st (by simp [dNum, dNames]; rfl) ?_
            clear hK' K'
            refine AW_then fun K7 hK7 => ?_
            refine AW_cond' (b := m < t.length) (by simp [D.le, D.le.go, takeMap, dNum]) (fun hc => ?_) (fun hc => ?_)
            · have hml : m < t.length := hc
              have hname := name_spec G t[m] (ht2 _ (List.getElem_mem hml))
              have hnb := ht3 m hml
              refine AW_skip (hK7 _ ?_)
              refine AW_then fun K8 hK8 => ?_
              refine AW_block ?_
              refine AW_rg (tyOf_good _) [8, 28, 29, 30, 34, 35, 36, 40, 41, 42] [] (fun _ _ => trivial) fun K' hK' => ?_
              repeat (refine sxf_next fun K2 hK2 => ?_; simp [dNum, dNames, hml, dS]; (repeat (refine ⟨by omega, ?_⟩)); refine hK2 _ ?_; clear hK2 K2)
              refine sxf_nil (hK' _ ?_)
              refine AW.st (by simp [dNum, dNames, hml, dS]; rfl) ?_
              clear hK' K'
              cases hn : nameF t[m] with
              | false =>
                rw [hn] at hname
                refine AW_rg (tyOf_good _) [28, 29, 30, 34, 35, 36, 40, 41, 42, 48] [] (fun _ _ => trivial) fun K' hK' => ?_
                repeat (refine sxf_next fun K2 hK2 => ?_; simp [dNum, dS]; (repeat (refine ⟨by omega, ?_⟩)); refine hK2 _ ?_; clear hK2 K2)
                refine sxf_next fun K2 hK2 => ?_
                simp [dNum, dS]
                refine callK.data (hname) (by simp; rfl) (by first | exact D.leGo_refl _ | simp [takeMap, List.map_map, Function.comp_def, D.le, D.le.go, D.le_refl, D.leGo_refl, dNum, dS]) ?_
                refine hK2 _ ?_
                clear hK2 K2
                simp only [putd, upd_lst]
                repeat (refine sxf_next fun K2 hK2 => ?_; simp [dNum, dS]; (repeat (refine ⟨by omega, ?_⟩)); refine hK2 _ ?_; clear hK2 K2)
                refine sxf_nil (hK' _ ?_)
                refine AW.st (by simp [dNum, dS]; rfl) ?_
                clear hK' K'
                refine AW_cond true rfl (fun _ => ?_) (fun h => by cases h)
                refine AW_rg (tyOf_good _) [2] [] (fun _ _ => trivial) fun K' hK' => ?_
                repeat (refine sxf_next fun K2 hK2 => ?_; simp [dNum]; (repeat (refine ⟨by omega, ?_⟩)); refine hK2 _ ?_; clear hK2 K2)
                refine sxf_nil (hK' _ ?_)
                refine AW.st (by simp [dNum]; rfl) ?_
                clear hK' K'
                rw [hnb hn]
                refine AW_ret ?_
                simp [D.le, D.le.go, takeMap, dNum, dErr, errOf]
              | true =>
                rw [hn] at hname
                refine AW_rg (tyOf_good _) [28, 29, 30, 34, 35, 36, 40, 41, 42, 48] [] (fun _ _ => trivial) fun K' hK' => ?_
                repeat (refine sxf_next fun K2 hK2 => ?_; simp [dNum, dS]; (repeat (refine ⟨by omega, ?_⟩)); refine hK2 _ ?_; clear hK2 K2)
                refine sxf_next fun K2 hK2 => ?_
                simp [dNum, dS]
                refine callK.data (hname) (by simp; rfl) (by first | exact D.leGo_refl _ | simp [takeMap, List.map_map, Function.comp_def, D.le, D.le.go, D.le_refl, D.leGo_refl, dNum, dS]) ?_
                refine hK2 _ ?_
                clear hK2 K2
                simp only [putd, upd_lst]
                repeat (refine sxf_next fun K2 hK2 => ?_; simp [dNum, dS]; (repeat (refine ⟨by omega, ?_⟩)); refine hK2 _ ?_; clear hK2 K2)
                refine sxf_nil (hK' _ ?_)
                refine AW.st (by simp [dNum, dS]; rfl) ?_
                clear hK' K'
                refine AW_cond false rfl (fun h => by cases h) (fun _ => ?_)
                refine AW_skip ?_
                refine hK8 _ (AW.norm [28, 29, 30, 34, 35, 36, 40, 41, 42] [] (fun _ _ => trivial) (AW.st (by simp [dNum]; rfl) ?_))
                refine AW_re (tyOf_good _) fun K' hK' => ?_
                repeat (refine sxf_next fun K2 hK2 => ?_; simp [dNum]; (repeat (refine ⟨by omega, ?_⟩)); refine hK2 _ ?_; clear hK2 K2)
                refine sxf_nil (hK' _ ?_)
                clear hK' K'
                try simp only [thn, inb]
                refine Again.mk (m + 1) ⟨by omega, fun q h hq => ?_⟩ (by omega) ?_
                · by_cases e : q = m
                  · subst e; exact hn
                  · exact hmo q h (by omega)
                refine Imp.to' (fun _ _ => trivial) (by simp [dNum, dTimes, dNames, dS]) (by simp [dNum, dTimes, dNames, dS])
            · obtain rfl : m = t.length := by omega
              refine AW_exit (hK6 _ ?_)
              refine AW_re (tyOf_good _) fun K' hK' => ?_
              repeat (refine sxf_next fun K2 hK2 => ?_; simp [dNum]; (repeat (refine ⟨by omega, ?_⟩)); refine hK2 _ ?_; clear hK2 K2)
              refine sxf_nil (hK' _ ?_)
              clear hK' K'
              try simp only [thn, inb]
              refine Again.mk (i + 1) ⟨by omega, fun q h hq => ?_⟩ (by omega) ?_
              · by_cases e : q = i
                · subst e
                  rw [hte]
                  refine List.all_eq_true.2 fun x hx => ?_
                  obtain ⟨j, hj, rfl⟩ := List.getElem_of_mem hx
                  exact hmo j hj hj
                · exact hio q h (by omega)
              refine Imp.to' (fun _ _ => trivial) (by simp [dNum, dTimes, dNames]) (by simp [dNum, dTimes, dNames])
        · obtain rfl : i = X.length := by omega
          refine AW_exit (hK4 _ ?_)
          refine AW_re (tyOf_good _) fun K' hK' => ?_
          repeat (refine sxf_next fun K2 hK2 => ?_; simp [dNum]; (repeat (refine ⟨by omega, ?_⟩)); refine hK2 _ ?_; clear hK2 K2)
          refine sxf_nil (hK' _ ?_)
          clear hK' K'
          try simp only [thn, inb]
          refine Again.mk (p + 1) ⟨by omega, fun q h hq => ?_⟩ (by omega) ?_
          · by_cases e : q = p
            · subst e
              rw [hXe]
              refine List.all_eq_true.2 fun x hx => ?_
              obtain ⟨j, hj, rfl⟩ := List.getElem_of_mem hx
              exact hio j hj hj
            · exact hpo q h (by omega)
          refine Imp.to' (fun _ _ => trivial) (by simp [dNum, dTimes, dNames]) (by simp [dNum, dTimes, dNames])
    · obtain rfl : p = Ps.length := by omega
      refine AW_exit (hK2 _ ?_)
      refine AW_rg (tyOf_good _) [2] [] (fun _ _ => trivial) fun K' hK' => ?_
      repeat (refine sxf_next fun K2 hK2 => ?_; simp [dNum]; (repeat (refine ⟨by omega, ?_⟩)); refine hK2 _ ?_; clear hK2 K2)
      refine sxf_nil (hK' _ ?_)
      refine AW.st (by simp [dNum]; rfl) ?_
      clear hK' K'
      rw [hgood fun q h => hpo q h h]
      refine AW_ret ?_
      simp [D.le, D.le.go, takeMap, dNum, dErr, errOf]

/-- What Holds tells. -/
def holdsE (a r : Times) (f : Fm) : Int := if wordE a r ≠ 0 then wordE a r else rightE f
theorem rightE_ok {f : Fm} (h : rightE f = 0) : (rightF 20 f).2 = 0 := by
  unfold rightE at h
  split at h
  · rename_i h1; exact absurd h h1
  · rename_i h1; exact Classical.not_not.1 h1
theorem Holds_bad (G : Glob) (hA : HasArity G) (a r : Times) (hs : Small a r) (f : Fm) (hf : namesOk f) (h : holdsE a r f ≠ 0) : PureC Tryd.prog G 19 [dW a r, dF f] (.tup [.sl (some false) [], dErr (errOf (holdsE a r f))]) := by
  have hc := wcheck_spec G a r hs
  have hr := Right_spec G hA f hf
  unfold holdsE at h ⊢
  by_cases hw : wordE a r = 0
  · rw [if_neg (by simp [hw])] at h ⊢
    rw [hw] at hc
    have e1 : errOf (rightE f) = some (rightE f, none) := by unfold errOf; rw [if_neg h]
    have e0 : errOf 0 = none := rfl
    rw [e1] at hr ⊢
    rw [e0] at hc
    refine PureC.of_body (tyOf_good _) Tryd.func19 rfl rfl (rs := [.tmp 4, .tmp 5]) Tryd.results19 (by simp [Tryd.ntmps19]) fun X => ?_
    simp only [Tryd.ntmps19, List.map]
    refine AW_rg (tyOf_good _) [1, 2] [2] (fun _ _ => trivial) fun K' hK' => ?_
    repeat (refine sxf_next fun K2 hK2 => ?_; simp [dNum, dErr, dW]; (repeat (refine ⟨by omega, ?_⟩)); refine hK2 _ ?_; clear hK2 K2)
    refine sxf_nil (hK' _ ?_)
    refine AW.st (by simp [dNum, dErr, dW]; rfl) ?_
    clear hK' K'
    refine AW_then fun K1 hK1 => ?_
    refine AW_rg (tyOf_good _) [1, 2, 6] [2] (fun _ _ => trivial) fun K' hK' => ?_
    repeat (refine sxf_next fun K2 hK2 => ?_; simp [dNum, dErr, dW]; (repeat (refine ⟨by omega, ?_⟩)); refine hK2 _ ?_; clear hK2 K2)
    refine sxf_next fun K2 hK2 => ?_
    simp [dNum, dErr, dW]
    refine callK.data (hc) (by simp; rfl) (by first | exact D.leGo_refl _ | simp [takeMap, List.map_map, Function.comp_def, D.le, D.le.go, D.le_refl, D.leGo_refl, dNum, dErr, dW]) ?_
    refine hK2 _ ?_
    clear hK2 K2
    simp only [putd, upd_lst]
    repeat (refine sxf_next fun K2 hK2 => ?_; simp [dNum, dErr, dW]; (repeat (refine ⟨by omega, ?_⟩)); refine hK2 _ ?_; clear hK2 K2)
    refine sxf_nil (hK' _ ?_)
    refine AW.st (by simp [dNum, dErr, dW]; rfl) ?_
    clear hK' K'
    refine AW_rg (tyOf_good _) [1, 2, 6, 11] [2] (fun _ _ => trivial) fun K' hK' => ?_
    repeat (refine sxf_next fun K2 hK2 => ?_; simp [dNum, dErr]; (repeat (refine ⟨by omega, ?_⟩)); refine hK2 _ ?_; clear hK2 K2)
    refine sxf_nil (hK' _ ?_)
    refine AW.st (by simp [dNum, dErr]; rfl) ?_
    clear hK' K'
    refine AW_cond false rfl (fun h => by cases h) (fun _ => ?_)
    refine AW_skip (hK1 _ ?_)
    refine AW_then fun K2 hK2 => ?_
    refine AW_rg (tyOf_good _) [1, 2, 7] [2] (fun _ _ => trivial) fun K' hK' => ?_
    repeat (refine sxf_next fun K2 hK2 => ?_; simp [dNum, dErr, dW]; (repeat (refine ⟨by omega, ?_⟩)); refine hK2 _ ?_; clear hK2 K2)
    refine sxf_next fun K2 hK2 => ?_
    simp [dNum, dErr, dW]
    refine callK.data (hr) (by simp; rfl) (by first | exact D.leGo_refl _ | simp [takeMap, List.map_map, Function.comp_def, D.le, D.le.go, D.le_refl, D.leGo_refl, dNum, dErr, dW]) ?_
    refine hK2 _ ?_
    clear hK2 K2
    simp only [putd, upd_lst]
    repeat (refine sxf_next fun K2 hK2 => ?_; simp [dNum, dErr, dW]; (repeat (refine ⟨by omega, ?_⟩)); refine hK2 _ ?_; clear hK2 K2)
    refine sxf_nil (hK' _ ?_)
    refine AW.st (by simp [dNum, dErr, dW]; rfl) ?_
    clear hK' K'
    refine AW_rg (tyOf_good _) [1, 2, 7, 16] [2] (fun _ _ => trivial) fun K' hK' => ?_
    repeat (refine sxf_next fun K2 hK2 => ?_; simp [dNum, dErr]; (repeat (refine ⟨by omega, ?_⟩)); refine hK2 _ ?_; clear hK2 K2)
    refine sxf_nil (hK' _ ?_)
    refine AW.st (by simp [dNum, dErr]; rfl) ?_
    clear hK' K'
    refine AW_cond true rfl (fun _ => ?_) (fun h => by cases h)
    refine AW_rg (tyOf_good _) [4, 5] [] (fun _ _ => trivial) fun K' hK' => ?_
    repeat (refine sxf_next fun K2 hK2 => ?_; simp [dNum, dErr]; (repeat (refine ⟨by omega, ?_⟩)); refine hK2 _ ?_; clear hK2 K2)
    refine sxf_nil (hK' _ ?_)
    refine AW.st (by simp [dNum, dErr]; rfl) ?_
    clear hK' K'
    refine AW_ret ?_
    simp [D.le, D.le.go, takeMap, dNum, dErr]
  · rw [if_pos hw] at h ⊢
    have e1 : errOf (wordE a r) = some (wordE a r, none) := by unfold errOf; rw [if_neg hw]
    rw [e1] at hc ⊢
    refine PureC.of_body (tyOf_good _) Tryd.func19 rfl rfl (rs := [.tmp 4, .tmp 5]) Tryd.results19 (by simp [Tryd.ntmps19]) fun X => ?_
    simp only [Tryd.ntmps19, List.map]
    refine AW_rg (tyOf_good _) [1, 2] [2] (fun _ _ => trivial) fun K' hK' => ?_
    repeat (refine sxf_next fun K2 hK2 => ?_; simp [dNum, dErr, dW]; (repeat (refine ⟨by omega, ?_⟩)); refine hK2 _ ?_; clear hK2 K2)
    refine sxf_nil (hK' _ ?_)
    refine AW.st (by simp [dNum, dErr, dW]; rfl) ?_
    clear hK' K'
    refine AW_then fun K1 hK1 => ?_
    refine AW_rg (tyOf_good _) [1, 2, 6] [2] (fun _ _ => trivial) fun K' hK' => ?_
    repeat (refine sxf_next fun K2 hK2 => ?_; simp [dNum, dErr, dW]; (repeat (refine ⟨by omega, ?_⟩)); refine hK2 _ ?_; clear hK2 K2)
    refine sxf_next fun K2 hK2 => ?_
    simp [dNum, dErr, dW]
    refine callK.data (hc) (by simp; rfl) (by first | exact D.leGo_refl _ | simp [takeMap, List.map_map, Function.comp_def, D.le, D.le.go, D.le_refl, D.leGo_refl, dNum, dErr, dW]) ?_
    refine hK2 _ ?_
    clear hK2 K2
    simp only [putd, upd_lst]
    repeat (refine sxf_next fun K2 hK2 => ?_; simp [dNum, dErr, dW]; (repeat (refine ⟨by omega, ?_⟩)); refine hK2 _ ?_; clear hK2 K2)
    refine sxf_nil (hK' _ ?_)
    refine AW.st (by simp [dNum, dErr, dW]; rfl) ?_
    clear hK' K'
    refine AW_rg (tyOf_good _) [1, 2, 6, 11] [2] (fun _ _ => trivial) fun K' hK' => ?_
    repeat (refine sxf_next fun K2 hK2 => ?_; simp [dNum, dErr]; (repeat (refine ⟨by omega, ?_⟩)); refine hK2 _ ?_; clear hK2 K2)
    refine sxf_nil (hK' _ ?_)
    refine AW.st (by simp [dNum, dErr]; rfl) ?_
    clear hK' K'
    refine AW_cond true rfl (fun _ => ?_) (fun h => by cases h)
    refine AW_rg (tyOf_good _) [4, 5] [] (fun _ _ => trivial) fun K' hK' => ?_
    repeat (refine sxf_next fun K2 hK2 => ?_; simp [dNum, dErr]; (repeat (refine ⟨by omega, ?_⟩)); refine hK2 _ ?_; clear hK2 K2)
    refine sxf_nil (hK' _ ?_)
    refine AW.st (by simp [dNum, dErr]; rfl) ?_
    clear hK' K'
    refine AW_ret ?_
    simp [D.le, D.le.go, takeMap, dNum, dErr]
theorem Holds_good (G : Glob) (hA : HasArity G) (a r : Times) (hs : Small a r) (f : Fm) (hf : namesOk f) (h : holdsE a r f = 0) : PureC Tryd.prog G 19 [dW a r, dF f] (.tup [dBs (holdsF a r f), .v .nilIface]) := by
  have hc := wcheck_spec G a r hs
  have hr := Right_spec G hA f hf
  unfold holdsE at h
  have hw : wordE a r = 0 := by
    apply Classical.byContradiction
    intro hw
    rw [if_pos hw] at h
    exact hw h
  rw [if_neg (by simp [hw])] at h
  rw [hw] at hc
  rw [h] at hr
  have hlen : 0 < r.length ∧ a.length + r.length ≤ 60 := by
    unfold wordE at hw
    split at hw
    · cases hw
    · omega
  have hh := holds_spec G a r hlen.1 (by omega) (fun t ht => by have := hs.times t ht; omega) 20 f (rightE_ok h) hf
  have e0 : errOf 0 = none := rfl
  rw [e0] at hc hr
  refine PureC.of_body (tyOf_good _) Tryd.func19 rfl rfl (rs := [.tmp 4, .tmp 5]) Tryd.results19 (by simp [Tryd.ntmps19]) fun X => ?_
  simp only [Tryd.ntmps19, List.map]
  refine AW_rg (tyOf_good _) [1, 2] [2] (fun _ _ => trivial) fun K' hK' => ?_
  repeat (refine sxf_next fun K2 hK2 => ?_; simp [dNum, dErr, dW]; (repeat (refine ⟨by omega, ?_⟩)); refine hK2 _ ?_; clear hK2 K2)
  refine sxf_nil (hK' _ ?_)
  refine AW.st (by simp [dNum, dErr, dW]; rfl) ?_
  clear hK' K'
  refine AW_then fun K1 hK1 => ?_
  refine AW_rg (tyOf_good _) [1, 2, 6] [2] (fun _ _ => trivial) fun K' hK' => ?_
  repeat (refine sxf_next fun K2 hK2 => ?_; simp [dNum, dErr, dW]; (repeat (refine ⟨by omega, ?_⟩)); refine hK2 _ ?_; clear hK2 K2)
  refine sxf_next fun K2 hK2 => ?_
  simp [dNum, dErr, dW]
  refine callK.data (hc) (by simp; rfl) (by first | exact D.leGo_refl _ | simp [takeMap, List.map_map, Function.comp_def, D.le, D.le.go, D.le_refl, D.leGo_refl, dNum, dErr, dW]) ?_
  refine hK2 _ ?_
  clear hK2 K2
  simp only [putd, upd_lst]
  repeat (refine sxf_next fun K2 hK2 => ?_; simp [dNum, dErr, dW]; (repeat (refine ⟨by omega, ?_⟩)); refine hK2 _ ?_; clear hK2 K2)
  refine sxf_nil (hK' _ ?_)
  refine AW.st (by simp [dNum, dErr, dW]; rfl) ?_
  clear hK' K'
  refine AW_rg (tyOf_good _) [1, 2, 6, 11] [2] (fun _ _ => trivial) fun K' hK' => ?_
  repeat (refine sxf_next fun K2 hK2 => ?_; simp [dNum, dErr]; (repeat (refine ⟨by omega, ?_⟩)); refine hK2 _ ?_; clear hK2 K2)
  refine sxf_nil (hK' _ ?_)
  refine AW.st (by simp [dNum, dErr]; rfl) ?_
  clear hK' K'
  refine AW_cond false rfl (fun h => by cases h) (fun _ => ?_)
  refine AW_skip (hK1 _ ?_)
  refine AW_then fun K2 hK2 => ?_
  refine AW_rg (tyOf_good _) [1, 2, 7] [2] (fun _ _ => trivial) fun K' hK' => ?_
  repeat (refine sxf_next fun K2 hK2 => ?_; simp [dNum, dErr, dW]; (repeat (refine ⟨by omega, ?_⟩)); refine hK2 _ ?_; clear hK2 K2)
  refine sxf_next fun K2 hK2 => ?_
  simp [dNum, dErr, dW]
  refine callK.data (hr) (by simp; rfl) (by first | exact D.leGo_refl _ | simp [takeMap, List.map_map, Function.comp_def, D.le, D.le.go, D.le_refl, D.leGo_refl, dNum, dErr, dW]) ?_
  refine hK2 _ ?_
  clear hK2 K2
  simp only [putd, upd_lst]
  repeat (refine sxf_next fun K2 hK2 => ?_; simp [dNum, dErr, dW]; (repeat (refine ⟨by omega, ?_⟩)); refine hK2 _ ?_; clear hK2 K2)
  refine sxf_nil (hK' _ ?_)
  refine AW.st (by simp [dNum, dErr, dW]; rfl) ?_
  clear hK' K'
  refine AW_rg (tyOf_good _) [1, 2, 7, 16] [2] (fun _ _ => trivial) fun K' hK' => ?_
  repeat (refine sxf_next fun K2 hK2 => ?_; simp [dNum, dErr]; (repeat (refine ⟨by omega, ?_⟩)); refine hK2 _ ?_; clear hK2 K2)
  refine sxf_nil (hK' _ ?_)
  refine AW.st (by simp [dNum, dErr]; rfl) ?_
  clear hK' K'
  refine AW_cond false rfl (fun h => by cases h) (fun _ => ?_)
  refine AW_skip (hK2 _ ?_)
  refine AW_rg (tyOf_good _) [4, 5] [] (fun _ _ => trivial) fun K' hK' => ?_
  repeat (refine sxf_next fun K2 hK2 => ?_; simp [dNum, dErr, dW]; (repeat (refine ⟨by omega, ?_⟩)); refine hK2 _ ?_; clear hK2 K2)
  refine sxf_next fun K2 hK2 => ?_
  simp [dNum, dErr, dW]
  refine callK.data (hh) (by simp; rfl) (by first | exact D.leGo_refl _ | simp [takeMap, List.map_map, Function.comp_def, D.le, D.le.go, D.le_refl, D.leGo_refl, dNum, dErr, dW]) ?_
  refine hK2 _ ?_
  clear hK2 K2
  simp only [putd, upd_lst]
  repeat (refine sxf_next fun K2 hK2 => ?_; simp [dNum, dErr, dW]; (repeat (refine ⟨by omega, ?_⟩)); refine hK2 _ ?_; clear hK2 K2)
  refine sxf_nil (hK' _ ?_)
  refine AW.st (by simp [dNum, dErr, dW]; rfl) ?_
  clear hK' K'
  refine AW_ret ?_
  simp [D.le, D.le.go, takeMap, dNum, dErr, dBs]
#print axioms Holds_good
#print axioms wcheck_spec
end Go.Proofs.YtblafkekblaibaaDoor
