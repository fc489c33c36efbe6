/-
  Texts that belong together, in one file: H1, P11, B8, B9, H2, H3, H4, R1, R2, R3, Q2.
-/
import Derived.Test.YtoikggboakojlaaDoorLh5
import Derived.SizedLaws
import Derived.Test.YtoikggboakojlaaDoorRows
import Derived.LaidLaws
import Derived.LaidHandle
import Derived.LaidSub
import Derived.Stop.Joined
import Derived.Lay
import Derived.OpenShut
/-
  LassoHolds, the document's side: formulas that steps make, as the document's.
-/
namespace Go.Proofs.YtoikggboakojlaaDoor
set_option linter.unusedSimpArgs false
set_option linter.unusedVariables false
open Go.Av

def capS (f : Fm) : Nat := min (szF f) 1000000
def fRow (l : List Fm) : Row := .sl 92 1 (l.map fun f => [dF f])
def sRow (l : List Fm) : Row := .sl 3 1 (l.map fun f => [dNum (capS f)])
def pRow (l : List Fm) : Row := .sl 3 1 (l.map fun f => [dNum (dpF f)])

set_option maxHeartbeats 1000000 in
theorem lformula_many (G : Glob) (l : List Stp) (hl : (40 : Int) < l.length) : PureC Tryd.prog G 49 [dStps l] (.tup [.v (.pointer none), dNum 0, dB false]) := by
  refine PureC.of_body (tyOf_good _) Tryd.func49 rfl rfl (rs := [.tmp 2, .tmp 3, .tmp 4]) Tryd.results49 (by simp [Tryd.ntmps49]) fun X => ?_
  simp only [Tryd.ntmps49, List.map]
  refine AW_rg (tyOf_good _) [0] [] (fun _ _ => trivial) fun K' hK' => ?_
  repeat (refine sxf_next fun K2 hK2 => ?_; simp [dNum, dB]; (repeat (refine ⟨by omega, ?_⟩)); refine hK2 _ ?_; clear hK2 K2)
  refine sxf_nil (hK' _ ?_)
  refine AW.st (by simp [dNum, dB]; rfl) ?_
  clear hK' K'
  refine AW_then fun K1 hK1 => ?_
  refine AW_rg (tyOf_good _) [0, 18] [] (fun _ _ => trivial) fun K' hK' => ?_
  repeat (refine sxf_next fun K2 hK2 => ?_; simp [dNum, dB, dStps, hl]; (repeat (refine ⟨by omega, ?_⟩)); refine hK2 _ ?_; clear hK2 K2)
  refine sxf_nil (hK' _ ?_)
  refine AW.st (by simp [dNum, dB, dStps, hl]; rfl) ?_
  clear hK' K'
  refine AW_cond true rfl (fun _ => ?_) (fun h => by cases h)
  refine AW_rg (tyOf_good _) [2, 3, 4] [] (fun _ _ => trivial) fun K' hK' => ?_
  repeat (refine sxf_next fun K2 hK2 => ?_; simp [dNum, dB]; (repeat (refine ⟨by omega, ?_⟩)); refine hK2 _ ?_; clear hK2 K2)
  refine sxf_nil (hK' _ ?_)
  refine AW.st (by simp [dNum, dB]; rfl) ?_
  clear hK' K'
  refine AW_ret ?_
  simp [D.le, D.le.go, takeMap, dNum, dB]

set_option maxHeartbeats 8000000 in
theorem lformula_spec (G : Glob) (l : List Stp) (hl : ¬ (40 : Int) < l.length) : PureC Tryd.prog G 49 [dStps l] (.tup [dF (formF l), dNum (capS (formF l)), dB (decide (dpF (formF l) ≤ 20))]) := by
  refine PureC.of_body (tyOf_good _) Tryd.func49 rfl rfl (rs := [.tmp 2, .tmp 3, .tmp 4]) Tryd.results49 (by simp [Tryd.ntmps49]) fun X => ?_
  simp only [Tryd.ntmps49, List.map]
  refine AW_rg (tyOf_good _) [0] [] (fun _ _ => trivial) fun K' hK' => ?_
  repeat (refine sxf_next fun K2 hK2 => ?_; simp [dNum, dB]; (repeat (refine ⟨by omega, ?_⟩)); refine hK2 _ ?_; clear hK2 K2)
  refine sxf_nil (hK' _ ?_)
  refine AW.st (by simp [dNum, dB]; rfl) ?_
  clear hK' K'
  refine AW_then fun K1 hK1 => ?_
  refine AW_rg (tyOf_good _) [0, 18] [] (fun _ _ => trivial) fun K' hK' => ?_
  repeat (refine sxf_next fun K2 hK2 => ?_; simp [dNum, dB, dStps, hl]; (repeat (refine ⟨by omega, ?_⟩)); refine hK2 _ ?_; clear hK2 K2)
  refine sxf_nil (hK' _ ?_)
  refine AW.st (by simp [dNum, dB, dStps, hl]; rfl) ?_
  clear hK' K'
  refine AW_cond false rfl (fun h => by cases h) (fun _ => ?_)
  refine AW_skip (hK1 _ ?_)
  refine AW_rg (tyOf_good _) [0, 5] [21] (fun _ _ => trivial) fun K' hK' => ?_
  repeat (refine sxf_next fun K2 hK2 => ?_; simp [dNum, dB]; (repeat (refine ⟨by omega, ?_⟩)); refine hK2 _ ?_; clear hK2 K2)
  refine sxf_nil (hK' _ ?_)
  refine AW.st (by simp [dNum, dB]; rfl) ?_
  clear hK' K'
  refine AW_rg (tyOf_good _) [0, 5, 6, 7] [21, 22, 23] (fun _ _ => trivial) fun K' hK' => ?_
  repeat (refine sxf_next fun K2 hK2 => ?_; simp [dNum, dB]; (repeat (refine ⟨by omega, ?_⟩)); refine hK2 _ ?_; clear hK2 K2)
  refine sxf_nil (hK' _ ?_)
  refine AW.st (by simp [dNum, dB]; rfl) ?_
  clear hK' K'
  refine AW_then fun K2 hK2 => ?_
  refine AW_rg (tyOf_good _) [0, 5, 6, 7, 8] [21, 22, 23] (fun _ _ => trivial) fun K' hK' => ?_
  repeat (refine sxf_next fun K2 hK2 => ?_; simp [dNum, dB]; (repeat (refine ⟨by omega, ?_⟩)); refine hK2 _ ?_; clear hK2 K2)
  refine sxf_nil (hK' _ ?_)
  refine AW.st (by simp [dNum, dB]; rfl) ?_
  clear hK' K'
  refine AW_for (S := Nat) (fun i => i ≤ l.length) (fun i => ⟨lst [(0, .d (dStps l)), (5, .own 21 0 (i + 1)), (6, .own 22 0 (i + 1)), (7, .own 23 0 (i + 1)), (8, int i)], hlst [(21, fRow (madeF l i)), (22, sRow (madeF l i)), (23, pRow (madeF l i))]⟩) (fun i => l.length - i) 0 ?_ (by omega) ?_
  · refine Imp.to' (fun _ _ => trivial) (by simp [dNum, dB, dStps, madeF, allF, dF, dFs, ofK, dS, bs_nil, fRow, sRow, pRow, capS, szF, szL, dpF, dpL]) (by simp [dNum, dB, dStps, madeF, allF, dF, dFs, ofK, dS, bs_nil, fRow, sRow, pRow, capS, szF, szL, dpF, dpL])
  · intro i hi
    have hml := madeF_len l hi
    refine AW_then fun K3 hK3 => ?_
    refine AW_rg (tyOf_good _) [0, 5, 6, 7, 8, 27] [21, 22, 23] (fun _ _ => trivial) fun K' hK' => ?_
    repeat (refine sxf_next fun K2 hK2 => ?_; simp [dNum, dB, dStps, fRow, sRow, pRow]; (repeat (refine ⟨by omega, ?_⟩)); refine hK2 _ ?_; clear hK2 K2)
    refine sxf_nil (hK' _ ?_)
    refine AW.st (by simp [dNum, dB, dStps, fRow, sRow, pRow]; rfl) ?_
    clear hK' K'
    refine AW_cond' (b := i < l.length) (by simp [D.le, D.le.go, takeMap, dNum, dB]) (fun hc => ?_) (fun hc => ?_)
    · have hil : i < l.length := hc
      have hms := madeF_succ hil
      obtain ⟨x, hxe⟩ : ∃ x, l[i] = x := ⟨_, rfl⟩
      rw [hxe] at hms
      have hdp := made_dp l i
      have hmin := preS_min (madeF l i) x
      have hple := preS_le (madeF l i) x
      refine AW_skip (hK3 _ ?_)
      refine AW_then fun K4 hK4 => ?_
      refine AW_block ?_
      refine AW_rg (tyOf_good _) [0, 5, 6, 7, 8, 9] [21, 22, 23, 9] (fun _ _ => trivial) fun K' hK' => ?_
      repeat (refine sxf_next fun K2 hK2 => ?_; simp [dNum, dB, dStps, hil, hxe, dS]; (repeat (refine ⟨by omega, ?_⟩)); refine hK2 _ ?_; clear hK2 K2)
      refine sxf_nil (hK' _ ?_)
      refine AW.st (by simp [dNum, dB, dStps, hil, hxe, dS]; rfl) ?_
      clear hK' K'
      obtain ⟨ja, hja, hea⟩ : ∃ ja, ja < i + 1 ∧ atF x.a (i + 1) = ja := ⟨_, atF_lt _ (by omega), rfl⟩
      obtain ⟨jb, hjb, heb⟩ : ∃ jb, jb < i + 1 ∧ atF x.b (i + 1) = jb := ⟨_, atF_lt _ (by omega), rfl⟩
      have hcalla := at0_spec G x.a (i + 1) (by omega) (by omega)
      have hcallb := at0_spec G x.b (i + 1) (by omega) (by omega)
      rw [hea] at hcalla
      rw [heb] at hcallb
      have hja2 : ja < (madeF l i).length := by omega
      have hjb2 : jb < (madeF l i).length := by omega
      have hsa : (madeF l i).getD (atF x.a (madeF l i).length) .nil = (madeF l i)[ja] := by
        rw [show atF x.a (madeF l i).length = ja by rw [hml]; exact hea]
        simp [List.getD_eq_getElem?_getD, hja2]
      have hsb : (madeF l i).getD (atF x.b (madeF l i).length) .nil = (madeF l i)[jb] := by
        rw [show atF x.b (madeF l i).length = jb by rw [hml]; exact heb]
        simp [List.getD_eq_getElem?_getD, hjb2]
      obtain ⟨ca, hfa⟩ := (madeF_mk l i _ (List.getElem_mem hja2)).ip
      obtain ⟨cb, hfb⟩ := (madeF_mk l i _ (List.getElem_mem hjb2)).ip
      have hda := hdp _ (List.getElem_mem hja2)
      have hdb := hdp _ (List.getElem_mem hjb2)
      have hca : capS (madeF l i)[ja] ≤ 1000000 := Nat.min_le_right _ _
      have hcb : capS (madeF l i)[jb] ≤ 1000000 := Nat.min_le_right _ _
      have hmx : (if dpF (madeF l i)[ja] < dpF (madeF l i)[jb] then ((dpF (madeF l i)[jb] : Nat) : Int) else ((dpF (madeF l i)[ja] : Nat) : Int)) = ((max (dpF (madeF l i)[ja]) (dpF (madeF l i)[jb]) : Nat) : Int) := by split <;> omega
      have hji : (ja : Int) < (i : Int) + 1 := by omega
      have hjj : (jb : Int) < (i : Int) + 1 := by omega
      obtain ⟨k, hk⟩ : ∃ k, x.kind = k := ⟨_, rfl⟩
      rw [hk]
      refine AW_rd (tyOf_good _) (by kernel_rfl) [0, 5, 6, 7, 8, 9, 10, 11] [21, 22, 23, 9] (fun _ _ => trivial) (by kernel_rfl) fun K' hK' => ?_
      repeat (refine sxd_next fun K2 hK2 => ?_; simp [dNum, dB, hml, hja, hjb]; (repeat (refine ⟨by omega, ?_⟩)); refine hK2 _ ?_; clear hK2 K2)
      refine sxd_next fun K2 hK2 => ?_
      simp [dNum, dB, hml, hja, hjb]
      refine callQ.data (hcalla) (by simp; rfl) (by simp; rfl) (by first | exact D.leGo_refl _ | simp [takeMap, List.map_map, Function.comp_def, D.le, D.le.go, D.le_refl, D.leGo_refl, dNum, dB, hml, hja, hjb]) ?_
      refine hK2 _ ?_
      clear hK2 K2
      simp only [putd, upd_lst]
      repeat (refine sxd_next fun K2 hK2 => ?_; simp [dNum, dB, hml, hja, hjb]; (repeat (refine ⟨by omega, ?_⟩)); refine hK2 _ ?_; clear hK2 K2)
      refine sxd_next fun K2 hK2 => ?_
      simp [dNum, dB, hml, hja, hjb]
      refine callQ.data (hcallb) (by simp; rfl) (by simp; rfl) (by first | exact D.leGo_refl _ | simp [takeMap, List.map_map, Function.comp_def, D.le, D.le.go, D.le_refl, D.leGo_refl, dNum, dB, hml, hja, hjb]) ?_
      refine hK2 _ ?_
      clear hK2 K2
      simp only [putd, upd_lst]
      repeat (refine sxd_next fun K2 hK2 => ?_; simp [dNum, dB, hml, hja, hjb]; (repeat (refine ⟨by omega, ?_⟩)); refine hK2 _ ?_; clear hK2 K2)
      refine sxd_nil (hK' _ ?_)
      refine AW.st (by simp [dNum, dB, hml, hja, hjb]; rfl) ?_
      clear hK' K'
      refine AW_rg (tyOf_good _) [0, 5, 6, 7, 8, 9, 10, 11, 12] [21, 22, 23, 9, 47] (fun _ _ => trivial) fun K' hK' => ?_
      repeat (refine sxf_next fun K2 hK2 => ?_; simp [dNum, dB]; (repeat (refine ⟨by omega, ?_⟩)); refine hK2 _ ?_; clear hK2 K2)
      refine sxf_nil (hK' _ ?_)
      refine AW.st (by simp [dNum, dB]; rfl) ?_
      clear hK' K'
      refine AW_rg (tyOf_good _) [0, 5, 6, 7, 8, 9, 10, 11, 12, 13, 14] [21, 22, 23, 9, 47] (fun _ _ => trivial) fun K' hK' => ?_
      repeat (refine sxf_next fun K2 hK2 => ?_; simp [dNum, dB]; (repeat (refine ⟨by omega, ?_⟩)); refine hK2 _ ?_; clear hK2 K2)
      refine sxf_nil (hK' _ ?_)
      refine AW.st (by simp [dNum, dB]; rfl) ?_
      clear hK' K'
      refine AW_then fun K5 hK5 => ?_
      refine AW_block ?_
      refine (fun hcont => ?_) (fun (σ : St) himp => hK5 σ (AW.imp (τ := ⟨lst [(0, .d (dStps l)), (5, .own 21 0 (i + 1)), (6, .own 22 0 (i + 1)), (7, .own 23 0 (i + 1)), (8, int i), (12, .d (dF (stepF (madeF l i) x))), (13, int (preS (madeF l i) x)), (14, int (dpF (stepF (madeF l i) x)))], hlst [(21, fRow (madeF l i)), (22, sRow (madeF l i)), (23, pRow (madeF l i))]⟩) himp ?_))
      · by_cases h2 : k = 2
        · subst h2
          have hst : stepF (madeF l i) x = .mk 2 [] [] := by unfold stepF; rw [if_pos hk]
          have hpr : preS (madeF l i) x = 1 := by unfold preS; rw [if_pos hk]
          refine AW_rg (tyOf_good _) [0, 5, 6, 7, 8, 9, 10, 11, 12, 13, 14, 56] [21, 22, 23, 9, 47] (fun _ _ => trivial) fun K' hK' => ?_
          repeat (refine sxf_next fun K2 hK2 => ?_; simp [dNum, dB]; (repeat (refine ⟨by omega, ?_⟩)); refine hK2 _ ?_; clear hK2 K2)
          refine sxf_nil (hK' _ ?_)
          refine AW.st (by simp [dNum, dB]; rfl) ?_
          clear hK' K'
          refine AW_cond true rfl (fun _ => ?_) (fun h => by cases h)
          refine AW_skip (hcont _ ?_)
          refine (Imp.freezeB 47 trivial).trans ?_
          refine Imp.to' (fun _ _ => trivial) (by simp [dNum, dB, hst, hpr, dF, dFs, ofK, dS, bs_nil, szF, szL, dpF, dpL, fRow, sRow, pRow, capS, dStps, hfa, hfb, hmx]) (by simp [dNum, dB, hst, hpr, dF, dFs, ofK, dS, bs_nil, szF, szL, dpF, dpL, fRow, sRow, pRow, capS, dStps, hfa, hfb, hmx])
        refine AW_rg (tyOf_good _) [0, 5, 6, 7, 8, 9, 10, 11, 12, 13, 14, 56] [21, 22, 23, 9, 47] (fun _ _ => trivial) fun K' hK' => ?_
        repeat (refine sxf_next fun K2 hK2 => ?_; simp [dNum, dB, h2]; (repeat (refine ⟨by omega, ?_⟩)); refine hK2 _ ?_; clear hK2 K2)
        refine sxf_nil (hK' _ ?_)
        refine AW.st (by simp [dNum, dB, h2]; rfl) ?_
        clear hK' K'
        refine AW_cond false rfl (fun h => by cases h) (fun _ => ?_)
        have hk2 : ¬ x.kind = 2 := by rw [hk]; exact h2
        by_cases h1 : k = 3 ∨ k = 6 ∨ k = 9 ∨ k = 10
        · have hk3 : x.kind = 3 ∨ x.kind = 6 ∨ x.kind = 9 ∨ x.kind = 10 := by rw [hk]; exact h1
          have hst : stepF (madeF l i) x = .mk k [] [(madeF l i)[ja]] := by unfold stepF; rw [if_neg hk2, if_pos hk3, hsa, hk]
          have hpr : preS (madeF l i) x = 1 + capS (madeF l i)[ja] := by unfold preS; rw [if_neg hk2, if_pos hk3, hsa]; rfl
          rcases h1 with rfl | rfl | rfl | rfl
          · refine AW_rg (tyOf_good _) [0, 5, 6, 7, 8, 9, 10, 11, 12, 13, 14, 60] [21, 22, 23, 9, 47] (fun _ _ => trivial) fun K' hK' => ?_
            repeat (refine sxf_next fun K2 hK2 => ?_; simp [dNum, dB]; (repeat (refine ⟨by omega, ?_⟩)); refine hK2 _ ?_; clear hK2 K2)
            refine sxf_nil (hK' _ ?_)
            refine AW.st (by simp [dNum, dB]; rfl) ?_
            clear hK' K'
            refine AW_cond true rfl (fun _ => ?_) (fun h => by cases h)
            refine AW_rg (tyOf_good _) [0, 5, 6, 7, 8, 10, 12] [21, 22, 23, 47, 84] (fun _ _ => trivial) fun K' hK' => ?_
            repeat (refine sxf_next fun K2 hK2 => ?_; simp [dNum, dB, fRow, hml, hja, hja2, hji, hfa]; (repeat (refine ⟨by omega, ?_⟩)); refine hK2 _ ?_; clear hK2 K2)
            refine sxf_nil (hK' _ ?_)
            refine AW.st (by simp [dNum, dB, fRow, hml, hja, hja2, hji, hfa]; rfl) ?_
            clear hK' K'
            refine AW_rde (tyOf_good _) (by kernel_rfl) (by kernel_rfl) fun K' hK' => ?_
            repeat (refine sxd_next fun K2 hK2 => ?_; simp [dNum, dB, sRow, pRow, hml, hja, hja2, hji]; (repeat (refine ⟨by omega, ?_⟩)); refine hK2 _ ?_; clear hK2 K2)
            refine sxd_nil (hK' _ ?_)
            clear hK' K'
            try simp only [thn, inb]
            refine hcont _ ?_
            refine (Imp.freeze 84 trivial).trans ((Imp.freezeB 47 trivial).trans ?_)
            refine Imp.to' (fun _ _ => trivial) (by simp [dNum, dB, hst, hpr, dF, dFs, ofK, dS, bs_nil, szF, szL, dpF, dpL, fRow, sRow, pRow, capS, dStps, hfa, hfb, hmx]) (by simp [dNum, dB, hst, hpr, dF, dFs, ofK, dS, bs_nil, szF, szL, dpF, dpL, fRow, sRow, pRow, capS, dStps, hfa, hfb, hmx])
          · refine AW_rg (tyOf_good _) [0, 5, 6, 7, 8, 9, 10, 11, 12, 13, 14, 60] [21, 22, 23, 9, 47] (fun _ _ => trivial) fun K' hK' => ?_
            repeat (refine sxf_next fun K2 hK2 => ?_; simp [dNum, dB]; (repeat (refine ⟨by omega, ?_⟩)); refine hK2 _ ?_; clear hK2 K2)
            refine sxf_nil (hK' _ ?_)
            refine AW.st (by simp [dNum, dB]; rfl) ?_
            clear hK' K'
            refine AW_cond true rfl (fun _ => ?_) (fun h => by cases h)
            refine AW_rg (tyOf_good _) [0, 5, 6, 7, 8, 10, 12] [21, 22, 23, 47, 84] (fun _ _ => trivial) fun K' hK' => ?_
            repeat (refine sxf_next fun K2 hK2 => ?_; simp [dNum, dB, fRow, hml, hja, hja2, hji, hfa]; (repeat (refine ⟨by omega, ?_⟩)); refine hK2 _ ?_; clear hK2 K2)
            refine sxf_nil (hK' _ ?_)
            refine AW.st (by simp [dNum, dB, fRow, hml, hja, hja2, hji, hfa]; rfl) ?_
            clear hK' K'
            refine AW_rde (tyOf_good _) (by kernel_rfl) (by kernel_rfl) fun K' hK' => ?_
            repeat (refine sxd_next fun K2 hK2 => ?_; simp [dNum, dB, sRow, pRow, hml, hja, hja2, hji]; (repeat (refine ⟨by omega, ?_⟩)); refine hK2 _ ?_; clear hK2 K2)
            refine sxd_nil (hK' _ ?_)
            clear hK' K'
            try simp only [thn, inb]
            refine hcont _ ?_
            refine (Imp.freeze 84 trivial).trans ((Imp.freezeB 47 trivial).trans ?_)
            refine Imp.to' (fun _ _ => trivial) (by simp [dNum, dB, hst, hpr, dF, dFs, ofK, dS, bs_nil, szF, szL, dpF, dpL, fRow, sRow, pRow, capS, dStps, hfa, hfb, hmx]) (by simp [dNum, dB, hst, hpr, dF, dFs, ofK, dS, bs_nil, szF, szL, dpF, dpL, fRow, sRow, pRow, capS, dStps, hfa, hfb, hmx])
          · refine AW_rg (tyOf_good _) [0, 5, 6, 7, 8, 9, 10, 11, 12, 13, 14, 60] [21, 22, 23, 9, 47] (fun _ _ => trivial) fun K' hK' => ?_
            repeat (refine sxf_next fun K2 hK2 => ?_; simp [dNum, dB]; (repeat (refine ⟨by omega, ?_⟩)); refine hK2 _ ?_; clear hK2 K2)
            refine sxf_nil (hK' _ ?_)
            refine AW.st (by simp [dNum, dB]; rfl) ?_
            clear hK' K'
            refine AW_cond true rfl (fun _ => ?_) (fun h => by cases h)
            refine AW_rg (tyOf_good _) [0, 5, 6, 7, 8, 10, 12] [21, 22, 23, 47, 84] (fun _ _ => trivial) fun K' hK' => ?_
            repeat (refine sxf_next fun K2 hK2 => ?_; simp [dNum, dB, fRow, hml, hja, hja2, hji, hfa]; (repeat (refine ⟨by omega, ?_⟩)); refine hK2 _ ?_; clear hK2 K2)
            refine sxf_nil (hK' _ ?_)
            refine AW.st (by simp [dNum, dB, fRow, hml, hja, hja2, hji, hfa]; rfl) ?_
            clear hK' K'
            refine AW_rde (tyOf_good _) (by kernel_rfl) (by kernel_rfl) fun K' hK' => ?_
            repeat (refine sxd_next fun K2 hK2 => ?_; simp [dNum, dB, sRow, pRow, hml, hja, hja2, hji]; (repeat (refine ⟨by omega, ?_⟩)); refine hK2 _ ?_; clear hK2 K2)
            refine sxd_nil (hK' _ ?_)
            clear hK' K'
            try simp only [thn, inb]
            refine hcont _ ?_
            refine (Imp.freeze 84 trivial).trans ((Imp.freezeB 47 trivial).trans ?_)
            refine Imp.to' (fun _ _ => trivial) (by simp [dNum, dB, hst, hpr, dF, dFs, ofK, dS, bs_nil, szF, szL, dpF, dpL, fRow, sRow, pRow, capS, dStps, hfa, hfb, hmx]) (by simp [dNum, dB, hst, hpr, dF, dFs, ofK, dS, bs_nil, szF, szL, dpF, dpL, fRow, sRow, pRow, capS, dStps, hfa, hfb, hmx])
          · refine AW_rg (tyOf_good _) [0, 5, 6, 7, 8, 9, 10, 11, 12, 13, 14, 60] [21, 22, 23, 9, 47] (fun _ _ => trivial) fun K' hK' => ?_
            repeat (refine sxf_next fun K2 hK2 => ?_; simp [dNum, dB]; (repeat (refine ⟨by omega, ?_⟩)); refine hK2 _ ?_; clear hK2 K2)
            refine sxf_nil (hK' _ ?_)
            refine AW.st (by simp [dNum, dB]; rfl) ?_
            clear hK' K'
            refine AW_cond true rfl (fun _ => ?_) (fun h => by cases h)
            refine AW_rg (tyOf_good _) [0, 5, 6, 7, 8, 10, 12] [21, 22, 23, 47, 84] (fun _ _ => trivial) fun K' hK' => ?_
            repeat (refine sxf_next fun K2 hK2 => ?_; simp [dNum, dB, fRow, hml, hja, hja2, hji, hfa]; (repeat (refine ⟨by omega, ?_⟩)); refine hK2 _ ?_; clear hK2 K2)
            refine sxf_nil (hK' _ ?_)
            refine AW.st (by simp [dNum, dB, fRow, hml, hja, hja2, hji, hfa]; rfl) ?_
            clear hK' K'
            refine AW_rde (tyOf_good _) (by kernel_rfl) (by kernel_rfl) fun K' hK' => ?_
            repeat (refine sxd_next fun K2 hK2 => ?_; simp [dNum, dB, sRow, pRow, hml, hja, hja2, hji]; (repeat (refine ⟨by omega, ?_⟩)); refine hK2 _ ?_; clear hK2 K2)
            refine sxd_nil (hK' _ ?_)
            clear hK' K'
            try simp only [thn, inb]
            refine hcont _ ?_
            refine (Imp.freeze 84 trivial).trans ((Imp.freezeB 47 trivial).trans ?_)
            refine Imp.to' (fun _ _ => trivial) (by simp [dNum, dB, hst, hpr, dF, dFs, ofK, dS, bs_nil, szF, szL, dpF, dpL, fRow, sRow, pRow, capS, dStps, hfa, hfb, hmx]) (by simp [dNum, dB, hst, hpr, dF, dFs, ofK, dS, bs_nil, szF, szL, dpF, dpL, fRow, sRow, pRow, capS, dStps, hfa, hfb, hmx])
        have hn3 : ¬ k = 3 := fun h => h1 (.inl h)
        have hn6 : ¬ k = 6 := fun h => h1 (.inr (.inl h))
        have hn9 : ¬ k = 9 := fun h => h1 (.inr (.inr (.inl h)))
        have hn10 : ¬ k = 10 := fun h => h1 (.inr (.inr (.inr h)))
        have hk3 : ¬ (x.kind = 3 ∨ x.kind = 6 ∨ x.kind = 9 ∨ x.kind = 10) := by rw [hk]; exact h1
        refine AW_rg (tyOf_good _) [0, 5, 6, 7, 8, 9, 10, 11, 12, 13, 14, 60] [21, 22, 23, 9, 47] (fun _ _ => trivial) fun K' hK' => ?_
        repeat (refine sxf_next fun K2 hK2 => ?_; simp [dNum, dB, hn3, hn6, hn9, hn10]; (repeat (refine ⟨by omega, ?_⟩)); refine hK2 _ ?_; clear hK2 K2)
        refine sxf_nil (hK' _ ?_)
        refine AW.st (by simp [dNum, dB, hn3, hn6, hn9, hn10]; rfl) ?_
        clear hK' K'
        refine AW_cond false rfl (fun h => by cases h) (fun _ => ?_)
        by_cases h4 : k = 4 ∨ k = 5 ∨ k = 7 ∨ k = 8
        · have hk4 : x.kind = 4 ∨ x.kind = 5 ∨ x.kind = 7 ∨ x.kind = 8 := by rw [hk]; exact h4
          have hst : stepF (madeF l i) x = .mk k [] [(madeF l i)[ja], (madeF l i)[jb]] := by unfold stepF; rw [if_neg hk2, if_neg hk3, if_pos hk4, hsa, hsb, hk]
          have hpr : preS (madeF l i) x = 1 + capS (madeF l i)[ja] + capS (madeF l i)[jb] := by unfold preS; rw [if_neg hk2, if_neg hk3, if_pos hk4, hsa, hsb]; rfl
          rcases h4 with rfl | rfl | rfl | rfl
          · refine AW_rg (tyOf_good _) [0, 5, 6, 7, 8, 9, 10, 11, 12, 13, 14, 97] [21, 22, 23, 9, 47] (fun _ _ => trivial) fun K' hK' => ?_
            repeat (refine sxf_next fun K2 hK2 => ?_; simp [dNum, dB]; (repeat (refine ⟨by omega, ?_⟩)); refine hK2 _ ?_; clear hK2 K2)
            refine sxf_nil (hK' _ ?_)
            refine AW.st (by simp [dNum, dB]; rfl) ?_
            clear hK' K'
            refine AW_cond true rfl (fun _ => ?_) (fun h => by cases h)
            refine AW_rdg (tyOf_good _) (by kernel_rfl) [(4, 21), (8, 21), (12, 47)] [0, 5, 6, 7, 8, 10, 11, 12] [21, 22, 23, 47, 125] (fun _ _ => trivial) (by kernel_rfl) fun K' hK' => ?_
            repeat (refine sxg_next fun K2 hK2 => ?_; simp [dNum, dB, fRow, hml, hja, hja2, hji, hjb, hjb2, hjj, hfa, hfb]; (repeat (refine ⟨by omega, ?_⟩)); refine hK2 _ ?_; clear hK2 K2)
            refine sxg_nil (hK' _ ?_)
            refine AW.st (by simp [dNum, dB, fRow, hml, hja, hja2, hji, hjb, hjb2, hjj, hfa, hfb]; rfl) ?_
            clear hK' K'
            refine AW_rde (tyOf_good _) (by kernel_rfl) (by kernel_rfl) fun K' hK' => ?_
            repeat (refine sxd_next fun K2 hK2 => ?_; simp [dNum, dB, sRow, pRow, hml, hja, hja2, hji, hjb, hjb2, hjj]; (repeat (refine ⟨by omega, ?_⟩)); refine hK2 _ ?_; clear hK2 K2)
            refine sxd_nil (hK' _ ?_)
            clear hK' K'
            try simp only [thn, inb]
            refine hcont _ ?_
            refine (Imp.freeze 125 trivial).trans ((Imp.freezeB 47 trivial).trans ?_)
            refine Imp.to' (fun _ _ => trivial) (by simp [dNum, dB, hst, hpr, dF, dFs, ofK, dS, bs_nil, szF, szL, dpF, dpL, fRow, sRow, pRow, capS, dStps, hfa, hfb, hmx]) (by simp [dNum, dB, hst, hpr, dF, dFs, ofK, dS, bs_nil, szF, szL, dpF, dpL, fRow, sRow, pRow, capS, dStps, hfa, hfb, hmx])
          · refine AW_rg (tyOf_good _) [0, 5, 6, 7, 8, 9, 10, 11, 12, 13, 14, 97] [21, 22, 23, 9, 47] (fun _ _ => trivial) fun K' hK' => ?_
            repeat (refine sxf_next fun K2 hK2 => ?_; simp [dNum, dB]; (repeat (refine ⟨by omega, ?_⟩)); refine hK2 _ ?_; clear hK2 K2)
            refine sxf_nil (hK' _ ?_)
            refine AW.st (by simp [dNum, dB]; rfl) ?_
            clear hK' K'
            refine AW_cond true rfl (fun _ => ?_) (fun h => by cases h)
            refine AW_rdg (tyOf_good _) (by kernel_rfl) [(4, 21), (8, 21), (12, 47)] [0, 5, 6, 7, 8, 10, 11, 12] [21, 22, 23, 47, 125] (fun _ _ => trivial) (by kernel_rfl) fun K' hK' => ?_
            repeat (refine sxg_next fun K2 hK2 => ?_; simp [dNum, dB, fRow, hml, hja, hja2, hji, hjb, hjb2, hjj, hfa, hfb]; (repeat (refine ⟨by omega, ?_⟩)); refine hK2 _ ?_; clear hK2 K2)
            refine sxg_nil (hK' _ ?_)
            refine AW.st (by simp [dNum, dB, fRow, hml, hja, hja2, hji, hjb, hjb2, hjj, hfa, hfb]; rfl) ?_
            clear hK' K'
            refine AW_rde (tyOf_good _) (by kernel_rfl) (by kernel_rfl) fun K' hK' => ?_
            repeat (refine sxd_next fun K2 hK2 => ?_; simp [dNum, dB, sRow, pRow, hml, hja, hja2, hji, hjb, hjb2, hjj]; (repeat (refine ⟨by omega, ?_⟩)); refine hK2 _ ?_; clear hK2 K2)
            refine sxd_nil (hK' _ ?_)
            clear hK' K'
            try simp only [thn, inb]
            refine hcont _ ?_
            refine (Imp.freeze 125 trivial).trans ((Imp.freezeB 47 trivial).trans ?_)
            refine Imp.to' (fun _ _ => trivial) (by simp [dNum, dB, hst, hpr, dF, dFs, ofK, dS, bs_nil, szF, szL, dpF, dpL, fRow, sRow, pRow, capS, dStps, hfa, hfb, hmx]) (by simp [dNum, dB, hst, hpr, dF, dFs, ofK, dS, bs_nil, szF, szL, dpF, dpL, fRow, sRow, pRow, capS, dStps, hfa, hfb, hmx])
          · refine AW_rg (tyOf_good _) [0, 5, 6, 7, 8, 9, 10, 11, 12, 13, 14, 97] [21, 22, 23, 9, 47] (fun _ _ => trivial) fun K' hK' => ?_
            repeat (refine sxf_next fun K2 hK2 => ?_; simp [dNum, dB]; (repeat (refine ⟨by omega, ?_⟩)); refine hK2 _ ?_; clear hK2 K2)
            refine sxf_nil (hK' _ ?_)
            refine AW.st (by simp [dNum, dB]; rfl) ?_
            clear hK' K'
            refine AW_cond true rfl (fun _ => ?_) (fun h => by cases h)
            refine AW_rdg (tyOf_good _) (by kernel_rfl) [(4, 21), (8, 21), (12, 47)] [0, 5, 6, 7, 8, 10, 11, 12] [21, 22, 23, 47, 125] (fun _ _ => trivial) (by kernel_rfl) fun K' hK' => ?_
            repeat (refine sxg_next fun K2 hK2 => ?_; simp [dNum, dB, fRow, hml, hja, hja2, hji, hjb, hjb2, hjj, hfa, hfb]; (repeat (refine ⟨by omega, ?_⟩)); refine hK2 _ ?_; clear hK2 K2)
            refine sxg_nil (hK' _ ?_)
            refine AW.st (by simp [dNum, dB, fRow, hml, hja, hja2, hji, hjb, hjb2, hjj, hfa, hfb]; rfl) ?_
            clear hK' K'
            refine AW_rde (tyOf_good _) (by kernel_rfl) (by kernel_rfl) fun K' hK' => ?_
            repeat (refine sxd_next fun K2 hK2 => ?_; simp [dNum, dB, sRow, pRow, hml, hja, hja2, hji, hjb, hjb2, hjj]; (repeat (refine ⟨by omega, ?_⟩)); refine hK2 _ ?_; clear hK2 K2)
            refine sxd_nil (hK' _ ?_)
            clear hK' K'
            try simp only [thn, inb]
            refine hcont _ ?_
            refine (Imp.freeze 125 trivial).trans ((Imp.freezeB 47 trivial).trans ?_)
            refine Imp.to' (fun _ _ => trivial) (by simp [dNum, dB, hst, hpr, dF, dFs, ofK, dS, bs_nil, szF, szL, dpF, dpL, fRow, sRow, pRow, capS, dStps, hfa, hfb, hmx]) (by simp [dNum, dB, hst, hpr, dF, dFs, ofK, dS, bs_nil, szF, szL, dpF, dpL, fRow, sRow, pRow, capS, dStps, hfa, hfb, hmx])
          · refine AW_rg (tyOf_good _) [0, 5, 6, 7, 8, 9, 10, 11, 12, 13, 14, 97] [21, 22, 23, 9, 47] (fun _ _ => trivial) fun K' hK' => ?_
            repeat (refine sxf_next fun K2 hK2 => ?_; simp [dNum, dB]; (repeat (refine ⟨by omega, ?_⟩)); refine hK2 _ ?_; clear hK2 K2)
            refine sxf_nil (hK' _ ?_)
            refine AW.st (by simp [dNum, dB]; rfl) ?_
            clear hK' K'
            refine AW_cond true rfl (fun _ => ?_) (fun h => by cases h)
            refine AW_rdg (tyOf_good _) (by kernel_rfl) [(4, 21), (8, 21), (12, 47)] [0, 5, 6, 7, 8, 10, 11, 12] [21, 22, 23, 47, 125] (fun _ _ => trivial) (by kernel_rfl) fun K' hK' => ?_
            repeat (refine sxg_next fun K2 hK2 => ?_; simp [dNum, dB, fRow, hml, hja, hja2, hji, hjb, hjb2, hjj, hfa, hfb]; (repeat (refine ⟨by omega, ?_⟩)); refine hK2 _ ?_; clear hK2 K2)
            refine sxg_nil (hK' _ ?_)
            refine AW.st (by simp [dNum, dB, fRow, hml, hja, hja2, hji, hjb, hjb2, hjj, hfa, hfb]; rfl) ?_
            clear hK' K'
            refine AW_rde (tyOf_good _) (by kernel_rfl) (by kernel_rfl) fun K' hK' => ?_
            repeat (refine sxd_next fun K2 hK2 => ?_; simp [dNum, dB, sRow, pRow, hml, hja, hja2, hji, hjb, hjb2, hjj]; (repeat (refine ⟨by omega, ?_⟩)); refine hK2 _ ?_; clear hK2 K2)
            refine sxd_nil (hK' _ ?_)
            clear hK' K'
            try simp only [thn, inb]
            refine hcont _ ?_
            refine (Imp.freeze 125 trivial).trans ((Imp.freezeB 47 trivial).trans ?_)
            refine Imp.to' (fun _ _ => trivial) (by simp [dNum, dB, hst, hpr, dF, dFs, ofK, dS, bs_nil, szF, szL, dpF, dpL, fRow, sRow, pRow, capS, dStps, hfa, hfb, hmx]) (by simp [dNum, dB, hst, hpr, dF, dFs, ofK, dS, bs_nil, szF, szL, dpF, dpL, fRow, sRow, pRow, capS, dStps, hfa, hfb, hmx])
        have hn4 : ¬ k = 4 := fun h => h4 (.inl h)
        have hn5 : ¬ k = 5 := fun h => h4 (.inr (.inl h))
        have hn7 : ¬ k = 7 := fun h => h4 (.inr (.inr (.inl h)))
        have hn8 : ¬ k = 8 := fun h => h4 (.inr (.inr (.inr h)))
        have hk4 : ¬ (x.kind = 4 ∨ x.kind = 5 ∨ x.kind = 7 ∨ x.kind = 8) := by rw [hk]; exact h4
        have hst : stepF (madeF l i) x = .mk 1 x.name [] := by unfold stepF; rw [if_neg hk2, if_neg hk3, if_neg hk4]
        have hpr : preS (madeF l i) x = 1 := by unfold preS; rw [if_neg hk2, if_neg hk3, if_neg hk4]
        refine AW_rg (tyOf_good _) [0, 5, 6, 7, 8, 9, 10, 11, 12, 13, 14, 97] [21, 22, 23, 9, 47] (fun _ _ => trivial) fun K' hK' => ?_
        repeat (refine sxf_next fun K2 hK2 => ?_; simp [dNum, dB, hn4, hn5, hn7, hn8]; (repeat (refine ⟨by omega, ?_⟩)); refine hK2 _ ?_; clear hK2 K2)
        refine sxf_nil (hK' _ ?_)
        refine AW.st (by simp [dNum, dB, hn4, hn5, hn7, hn8]; rfl) ?_
        clear hK' K'
        refine AW_cond false rfl (fun h => by cases h) (fun _ => ?_)
        refine AW_rdge (tyOf_good _) (by kernel_rfl) [(3, 9), (6, 47), (9, 47)] (by kernel_rfl) fun K' hK' => ?_
        repeat (refine sxg_next fun K2 hK2 => ?_; simp [dNum, dB, dS]; (repeat (refine ⟨by omega, ?_⟩)); refine hK2 _ ?_; clear hK2 K2)
        refine sxg_nil (hK' _ ?_)
        clear hK' K'
        try simp only [thn, inb]
        refine hcont _ ?_
        refine (Imp.freezeB 47 trivial).trans ?_
        refine Imp.to' (fun _ _ => trivial) (by simp [dNum, dB, hst, hpr, dF, dFs, ofK, dS, bs_nil, szF, szL, dpF, dpL, fRow, sRow, pRow, capS, dStps, hfa, hfb, hmx]) (by simp [dNum, dB, hst, hpr, dF, dFs, ofK, dS, bs_nil, szF, szL, dpF, dpL, fRow, sRow, pRow, capS, dStps, hfa, hfb, hmx])
      · obtain ⟨cs, hcs⟩ := (stepF_mk (madeF l i) x).ip
        have htk : ∀ g : Fm → List D, List.take (i + 1) (List.map g (madeF l i)) = List.map g (madeF l i) := fun g => List.take_of_length_le (by simp [hml])
        have hmn : (if (1000000 : Int) < (preS (madeF l i) x : Nat) then (1000000 : Int) else ((preS (madeF l i) x : Nat) : Int)) = ((min (szF (stepF (madeF l i) x)) 1000000 : Nat) : Int) := by split <;> omega
        refine AW_re (tyOf_good _) fun K' hK' => ?_
        repeat (refine sxf_next fun K2 hK2 => ?_; simp [dNum, dB, fRow, sRow, pRow, hcs]; (repeat (refine ⟨by omega, ?_⟩)); refine hK2 _ ?_; clear hK2 K2)
        refine sxf_nil (hK' _ ?_)
        clear hK' K'
        refine hK4 _ (AW.norm [0, 5, 6, 7, 8] [21, 22, 23] (fun _ _ => trivial) (AW.st (by simp [dNum, dB, fRow, sRow, pRow, hcs]; rfl) ?_))
        refine AW_re (tyOf_good _) fun K' hK' => ?_
        repeat (refine sxf_next fun K2 hK2 => ?_; simp [dNum, dB]; (repeat (refine ⟨by omega, ?_⟩)); refine hK2 _ ?_; clear hK2 K2)
        refine sxf_nil (hK' _ ?_)
        clear hK' K'
        try simp only [thn, inb]
        refine Again.mk (i + 1) (by omega) (by omega) ?_
        refine Imp.to' (fun _ _ => trivial) (by simp [dNum, dB, dStps, hms, fRow, sRow, pRow, capS, hcs, htk, hmn]) (by simp [dNum, dB, dStps, hms, fRow, sRow, pRow, capS, hcs, htk, hmn])
    · obtain rfl : i = l.length := by omega
      refine AW_exit (hK2 _ ?_)
      refine AW_rg (tyOf_good _) [5, 6, 7, 15] [21, 22, 23] (fun _ _ => trivial) fun K' hK' => ?_
      repeat (refine sxf_next fun K2 hK2 => ?_; simp [dNum, dB, fRow, sRow, pRow]; (repeat (refine ⟨by omega, ?_⟩)); refine hK2 _ ?_; clear hK2 K2)
      refine sxf_nil (hK' _ ?_)
      refine AW.st (by simp [dNum, dB, fRow, sRow, pRow]; rfl) ?_
      clear hK' K'
      have hlt : l.length < (madeF l l.length).length := by omega
      have hfe : (madeF l l.length)[l.length] = formF l := by unfold formF; simp [hlt]
      refine AW_rd (tyOf_good _) (by kernel_rfl) [2, 3, 4] [21, 22, 23] (fun _ _ => trivial) (by kernel_rfl) fun K' hK' => ?_
      repeat (refine sxd_next fun K2 hK2 => ?_; simp [dNum, dB, fRow, sRow, pRow, hlt, hfe]; (repeat (refine ⟨by omega, ?_⟩)); refine hK2 _ ?_; clear hK2 K2)
      refine sxd_nil (hK' _ ?_)
      refine AW.st (by simp [dNum, dB, fRow, sRow, pRow, hlt, hfe]; rfl) ?_
      clear hK' K'
      refine AW_ret ?_
      simp [D.le, D.le.go, takeMap, dNum, dB]
      exact ⟨D.le_refl _, by omega⟩
#print axioms lformula_spec
end Go.Proofs.YtoikggboakojlaaDoor

/-
  Plain facts of looking on for two rounds.
-/
namespace Go.Proofs.YtoikggboakojlaaDoor
set_option linter.unusedSimpArgs false
set_option linter.unusedVariables false

/-- Where a time lies in a word. -/
def foldF (n R i : Nat) : Nat := if i < n + R then i else n + (i - n) % R
theorem foldF_lt {n R : Nat} (hR : 0 < R) (i : Nat) : foldF n R i < n + R := by
  unfold foldF
  split
  · assumption
  · have := Nat.mod_lt (i - n) hR
    omega
theorem foldF_id {n R i : Nat} (h : i < n + R) : foldF n R i = i := by unfold foldF; rw [if_pos h]
theorem foldF_mod {n R i : Nat} (h : n ≤ i) (hR : 0 < R) : foldF n R i = n + (i - n) % R := by
  unfold foldF
  split
  · rw [Nat.mod_eq_of_lt (by omega)]; omega
  · rfl
theorem succ_mod {x R : Nat} (hR : 0 < R) : (x + 1) % R = if x % R + 1 = R then 0 else x % R + 1 := by
  have h1 := Nat.mod_lt x hR
  have h2 : (x + 1) % R = (x % R + 1) % R := by rw [Nat.add_mod, Nat.add_mod (x % R)]; simp
  rw [h2]
  split
  · rename_i h; rw [h, Nat.mod_self]
  · rw [Nat.mod_eq_of_lt (by omega)]
theorem foldF_succ {n R : Nat} (hR : 0 < R) (k : Nat) : foldF n R (k + 1) = nxF n (n + R) (foldF n R k) := by
  rcases Nat.lt_or_ge k n with h | h
  · rw [foldF_id (by omega), foldF_id (by omega)]
    unfold nxF
    rw [if_neg (by omega)]
  · rw [foldF_mod (by omega) hR, foldF_mod h hR, show k + 1 - n = (k - n) + 1 by omega, succ_mod hR]
    have := Nat.mod_lt (k - n) hR
    unfold nxF
    by_cases e : (k - n) % R + 1 = R
    · rw [if_pos e, if_pos (by omega)]; rfl
    · rw [if_neg e, if_neg (by omega)]; omega

theorem scan_round {now : Nat → Bool → Bool} (hm : MonoN now) {st : Bool} {n R : Nat} (hR : 0 < R) {i m m' : Nat} (h1 : n ≤ i) (h2 : i < n + R) (hm1 : R ≤ m) (hm2 : R ≤ m') : iterN now (nxF n (n + R)) st m i = iterN now (nxF n (n + R)) st m' i := by
  have hmm : MonoN fun j b => now (n + j) b := fun j h => hm _ h
  have hx : ∀ j, j < R → nxF n (n + R) (n + j) - n < R := fun j hj => by
    have := nxF_lt (show n < n + R by omega) (show n + j < n + R by omega)
    unfold nxF at this ⊢
    split <;> omega
  have h3 : ∀ j, j < R → n + (nxF n (n + R) (n + j) - n) = nxF n (n + R) (n + j) := fun j hj => by
    unfold nxF
    split <;> omega
  have key : ∀ k, iterN (fun j b => now (n + j) b) (fun j => nxF n (n + R) (n + j) - n) st k (i - n) = iterN now (nxF n (n + R)) st k i := fun k => by
    have h := iterN_sim (now := now) (now' := fun j b => now (n + j) b) (nx := nxF n (n + R)) (nx' := fun j => nxF n (n + R) (n + j) - n) (st := st) (φ := fun j => n + j) hx h3 (fun j b _ => rfl) k (i - n) (by omega)
    rw [h]
    show iterN now _ st k (n + (i - n)) = _
    rw [show n + (i - n) = i by omega]
  rw [← key, ← key, iterN_all hmm hx hm1 (by omega), iterN_all hmm hx hm2 (by omega)]
theorem scan_ahead {now : Nat → Bool → Bool} (hm : MonoN now) {st : Bool} {n R : Nat} (hR : 0 < R) {m m' : Nat} (hm1 : R ≤ m) (hm2 : R ≤ m') : ∀ d i, i + d = n → iterN now (nxF n (n + R)) st (d + m) i = iterN now (nxF n (n + R)) st (d + m') i
  | 0, i, h => by
    rw [Nat.zero_add, Nat.zero_add]
    exact scan_round hm hR (by omega) (by omega) hm1 hm2
  | d + 1, i, h => by
    have e : nxF n (n + R) i = i + 1 := by unfold nxF; rw [if_neg (by omega)]
    rw [show d + 1 + m = (d + m) + 1 by omega, show d + 1 + m' = (d + m') + 1 by omega]
    simp only [iterN]
    rw [e, scan_ahead hm hR hm1 hm2 d (i + 1) (by omega)]
/-- To look on for two rounds is enough. -/
theorem scan_two {now : Nat → Bool → Bool} (hm : MonoN now) {st : Bool} {n R i : Nat} (hR : 0 < R) (hi : i < n + R) : iterN now (nxF n (n + R)) st (max i n + 2 * R - i) i = iterN now (nxF n (n + R)) st (n + R) i := by
  rcases Nat.lt_or_ge i n with h | h
  · have := scan_ahead hm hR (st := st) (n := n) (m := 2 * R) (m' := R + i) (by omega) (by omega) (n - i) i (by omega)
    rw [show max i n + 2 * R - i = (n - i) + 2 * R by omega, this]
    congr 1
    omega
  · exact scan_round hm hR h hi (by omega) (by omega)
/-- One more that is looked at. -/
theorem scan_step (now : Nat → Bool → Bool) (st : Bool) {n R : Nat} (hR : 0 < R) {k e : Nat} (h : k < e) : iterN now (nxF n (n + R)) st (e - k) (foldF n R k) = now (foldF n R k) (iterN now (nxF n (n + R)) st (e - (k + 1)) (foldF n R (k + 1))) := by
  rw [show e - k = (e - (k + 1)) + 1 by omega, foldF_succ hR]
  rfl
end Go.Proofs.YtoikggboakojlaaDoor

/-
  signalcabinkeep's sameBools and lassoed.
-/
namespace Go.Proofs.YtoikggboakojlaaDoor
set_option linter.unusedSimpArgs false
set_option linter.unusedVariables false
open Go.Av

theorem takeB_step {l l' : List Bool} {n : Nat} (ht : l.take n = l'.take n) (h : n < l.length) (h' : n < l'.length) (he : l[n] = l'[n]) : l.take (n + 1) = l'.take (n + 1) := by
  rw [List.take_succ_eq_append_getElem h, List.take_succ_eq_append_getElem h', ht, he]
theorem takeB_all {l l' : List Bool} (hl : l.length = l'.length) (ht : l.take l.length = l'.take l.length) : l = l' := by
  rw [List.take_length, hl, List.take_length] at ht
  exact ht

set_option maxHeartbeats 1000000 in
theorem sameBools_spec (G : Glob) (l l' : List Bool) (h : l.length < 2^63) : PureC Tryd.prog G 44 [dBs l, dBs l'] (.v (.bool (l == l'))) := by
  refine PureC.of_body (tyOf_good _) Tryd.func44 rfl rfl (rs := [.tmp 4]) Tryd.results44 (by simp [Tryd.ntmps44]) fun X => ?_
  simp only [Tryd.ntmps44, List.map]
  refine AW_rg (tyOf_good _) [0, 1] [] (fun _ _ => trivial) fun K' hK' => ?_
  repeat (refine sxf_next fun K2 hK2 => ?_; simp [dB]; (repeat (refine ⟨by omega, ?_⟩)); refine hK2 _ ?_; clear hK2 K2)
  refine sxf_nil (hK' _ ?_)
  refine AW.st (by simp [dB]; rfl) ?_
  clear hK' K'
  refine AW_then fun K1 hK1 => ?_
  refine AW_rg (tyOf_good _) [0, 1, 10] [] (fun _ _ => trivial) fun K' hK' => ?_
  repeat (refine sxf_next fun K2 hK2 => ?_; simp [dB, dBs]; (repeat (refine ⟨by omega, ?_⟩)); refine hK2 _ ?_; clear hK2 K2)
  refine sxf_nil (hK' _ ?_)
  refine AW.st (by simp [dB, dBs]; rfl) ?_
  clear hK' K'
  refine AW_cond' (b := l.length ≠ l'.length) (by simp [D.le, D.le.go, takeMap, dB]) (fun hc => ?_) (fun hc => ?_)
  · refine AW_rg (tyOf_good _) [4] [] (fun _ _ => trivial) fun K' hK' => ?_
    repeat (refine sxf_next fun K2 hK2 => ?_; simp [dB]; (repeat (refine ⟨by omega, ?_⟩)); refine hK2 _ ?_; clear hK2 K2)
    refine sxf_nil (hK' _ ?_)
    refine AW.st (by simp [dB]; rfl) ?_
    clear hK' K'
    refine AW_ret ?_
    simp [D.le, D.le.go, takeMap, dB]
    intro e; subst e; simp at hc
  · refine AW_skip (hK1 _ ?_)
    have hl : l.length = l'.length := by simpa using hc
    refine AW_then fun K2 hK2 => ?_
    refine AW_rg (tyOf_good _) [0, 1, 5] [] (fun _ _ => trivial) fun K' hK' => ?_
    repeat (refine sxf_next fun K2 hK2 => ?_; simp [dB, dBs]; (repeat (refine ⟨by omega, ?_⟩)); refine hK2 _ ?_; clear hK2 K2)
    refine sxf_nil (hK' _ ?_)
    refine AW.st (by simp [dB, dBs]; rfl) ?_
    clear hK' K'
    refine AW_for (S := Nat) (fun n => n ≤ l.length ∧ l.take n = l'.take n) (fun n => ⟨lst [(0, .d (dBs l)), (1, .d (dBs l')), (5, int n)], hlst []⟩) (fun n => l.length - n) 0 ?_ (by simp) ?_
    · refine Imp.to' (fun _ _ => trivial) (by simp [dB, dBs]) (by simp [dB, dBs])
    · rintro n ⟨hn, ht⟩
      refine AW_then fun K3 hK3 => ?_
      refine AW_rg (tyOf_good _) [0, 1, 5, 14] [] (fun _ _ => trivial) fun K' hK' => ?_
      repeat (refine sxf_next fun K2 hK2 => ?_; simp [dB, dBs]; (repeat (refine ⟨by omega, ?_⟩)); refine hK2 _ ?_; clear hK2 K2)
      refine sxf_nil (hK' _ ?_)
      refine AW.st (by simp [dB, dBs]; rfl) ?_
      clear hK' K'
      refine AW_cond' (b := n < l.length) (by simp [D.le, D.le.go, takeMap, dB]) (fun hc => ?_) (fun hc => ?_)
      · refine AW_skip (hK3 _ ?_)
        refine AW_then fun K4 hK4 => ?_
        refine AW_block ?_
        have hnl : n < l.length := hc
        have hn' : n < l'.length := by omega
        cases he : (l[n] == l'[n]) with
        | false =>
          refine AW_rd (tyOf_good _) (by kernel_rfl) [0, 1, 5, 25] [] (fun _ _ => trivial) (by kernel_rfl) fun K' hK' => ?_
          repeat (refine sxd_next fun K2 hK2 => ?_; simp [dB, dBs, hnl, hn', he]; (repeat (refine ⟨by omega, ?_⟩)); refine hK2 _ ?_; clear hK2 K2)
          refine sxd_nil (hK' _ ?_)
          refine AW.st (by simp [dB, dBs, hnl, hn', he]; rfl) ?_
          clear hK' K'
          refine AW_cond true rfl (fun _ => ?_) (fun h => by cases h)
          refine AW_rg (tyOf_good _) [4] [] (fun _ _ => trivial) fun K' hK' => ?_
          repeat (refine sxf_next fun K2 hK2 => ?_; simp [dB]; (repeat (refine ⟨by omega, ?_⟩)); refine hK2 _ ?_; clear hK2 K2)
          refine sxf_nil (hK' _ ?_)
          refine AW.st (by simp [dB]; rfl) ?_
          clear hK' K'
          refine AW_ret ?_
          simp [D.le, D.le.go, takeMap, dB]
          intro e; subst e; simp at he
        | true =>
          have he2 : l[n] = l'[n] := by simpa using he
          refine AW_rd (tyOf_good _) (by kernel_rfl) [0, 1, 5, 25] [] (fun _ _ => trivial) (by kernel_rfl) fun K' hK' => ?_
          repeat (refine sxd_next fun K2 hK2 => ?_; simp [dB, dBs, hnl, hn', he2]; (repeat (refine ⟨by omega, ?_⟩)); refine hK2 _ ?_; clear hK2 K2)
          refine sxd_nil (hK' _ ?_)
          refine AW.st (by simp [dB, dBs, hnl, hn', he2]; rfl) ?_
          clear hK' K'
          refine AW_cond false rfl (fun h => by cases h) (fun _ => ?_)
          refine AW_skip ?_
          refine hK4 _ (AW.norm [0, 1, 5] [] (fun _ _ => trivial) (AW.st (by simp [dB]; rfl) ?_))
          refine AW_re (tyOf_good _) fun K' hK' => ?_
          repeat (refine sxf_next fun K2 hK2 => ?_; simp [dB]; (repeat (refine ⟨by omega, ?_⟩)); refine hK2 _ ?_; clear hK2 K2)
          refine sxf_nil (hK' _ ?_)
          clear hK' K'
          try simp only [thn, inb]
          refine Again.mk (n + 1) ⟨by omega, takeB_step ht hnl hn' he2⟩ (by omega) ?_
          refine Imp.to' (fun _ _ => trivial) (by simp [dB, dBs]) (by simp [dB, dBs])
      · refine AW_exit (hK2 _ ?_)
        refine AW_rg (tyOf_good _) [4] [] (fun _ _ => trivial) fun K' hK' => ?_
        repeat (refine sxf_next fun K2 hK2 => ?_; simp [dB]; (repeat (refine ⟨by omega, ?_⟩)); refine hK2 _ ?_; clear hK2 K2)
        refine sxf_nil (hK' _ ?_)
        refine AW.st (by simp [dB]; rfl) ?_
        clear hK' K'
        refine AW_ret ?_
        simp [D.le, D.le.go, takeMap, dB]
        have hnn : n = l.length := by omega
        subst hnn
        exact takeB_all hl ht

def wA : Times := [[[97]]]
def wR : Times := [[], [[98]]]
def fB : Fm := .mk 1 [98] []
def fAB : Fm := .mk 10 [] [.mk 9 [] [fB]]
theorem small_w : Small wA wR := ⟨by decide, by decide, by decide⟩

set_option maxHeartbeats 4000000 in
theorem lassoed_spec (G : Glob) (hA : HasArity G) : PureC Tryd.prog G 41 [] (.v (.bool true)) := by
  have h1 := Holds_good G hA wA wR small_w fAB (by simp [namesOk, namesOkL, fAB, fB]) (by rfl)
  have h2 := Holds_good G hA wA wR small_w fB (by simp [namesOk, namesOkL, fB]) (by rfl)
  rw [show holdsF wA wR fAB = [true, true, true] from rfl] at h1
  rw [show holdsF wA wR fB = [false, false, true] from rfl] at h2
  have hs1 := sameBools_spec G [true, true, true] [true, true, true] (by decide)
  have hs2 := sameBools_spec G [false, false, true] [false, false, true] (by decide)
  rw [beq_self_eq_true] at hs1 hs2
  have e1 : dW wA wR = .agg [.sl none [[.sl none [[.v (.string ⟨#[97]⟩)]]]], .sl none [[.sl none []], [.sl none [[.v (.string ⟨#[98]⟩)]]]]] := rfl
  have e2 : dF fB = .ip [dNum 1, .v (.string ⟨#[98]⟩), .sl (some false) []] := rfl
  have e3 : dF fAB = .ip [dNum 10, .v (.string ⟨#[]⟩), .sl none [[.ip [dNum 9, .v (.string ⟨#[]⟩), .sl none [[.ip [dNum 1, .v (.string ⟨#[98]⟩), .sl (some false) []]]]]]]] := rfl
  rw [e1, e3] at h1
  rw [e1, e2] at h2
  refine PureC.of_body (tyOf_good _) Tryd.func41 rfl rfl (rs := [.tmp 0]) Tryd.results41 (by simp [Tryd.ntmps41]) fun X => ?_
  simp only [Tryd.ntmps41, List.map]
  refine AW_rg (tyOf_good _) [] [] (fun _ _ => trivial) fun K' hK' => ?_
  repeat (refine sxf_next fun K2 hK2 => ?_; simp [dNum, dB, dBs]; (repeat (refine ⟨by omega, ?_⟩)); refine hK2 _ ?_; clear hK2 K2)
  refine sxf_nil (hK' _ ?_)
  refine AW.st (by simp [dNum, dB, dBs]; rfl) ?_
  clear hK' K'
  refine AW_rg (tyOf_good _) [1] [1, 9, 12] (fun _ _ => trivial) fun K' hK' => ?_
  repeat (refine sxf_next fun K2 hK2 => ?_; simp [dNum, dB, dBs]; (repeat (refine ⟨by omega, ?_⟩)); refine hK2 _ ?_; clear hK2 K2)
  refine sxf_nil (hK' _ ?_)
  refine AW.st (by simp [dNum, dB, dBs]; rfl) ?_
  clear hK' K'
  refine AW.imp (Imp.freeze 9 trivial) ?_
  refine AW.st (by simp [dNum, dB, dBs]; rfl) ?_
  refine AW.imp (Imp.freeze 12 trivial) ?_
  refine AW.st (by simp [dNum, dB, dBs]; rfl) ?_
  refine AW.imp (Imp.freezeB 1 trivial) ?_
  refine AW.st (by simp [dNum, dB, dBs]; rfl) ?_
  refine AW_rg (tyOf_good _) [1, 2] [15] (fun _ _ => trivial) fun K' hK' => ?_
  repeat (refine sxf_next fun K2 hK2 => ?_; simp [dNum, dB, dBs]; (repeat (refine ⟨by omega, ?_⟩)); refine hK2 _ ?_; clear hK2 K2)
  refine sxf_nil (hK' _ ?_)
  refine AW.st (by simp [dNum, dB, dBs]; rfl) ?_
  clear hK' K'
  refine AW.imp (Imp.freezeB 15 trivial) ?_
  refine AW.st (by simp [dNum, dB, dBs]; rfl) ?_
  refine AW_rg (tyOf_good _) [1, 2, 3] [17, 19, 20, 22] (fun _ _ => trivial) fun K' hK' => ?_
  repeat (refine sxf_next fun K2 hK2 => ?_; simp [dNum, dB, dBs]; (repeat (refine ⟨by omega, ?_⟩)); refine hK2 _ ?_; clear hK2 K2)
  refine sxf_nil (hK' _ ?_)
  refine AW.st (by simp [dNum, dB, dBs]; rfl) ?_
  clear hK' K'
  refine AW.imp (Imp.freeze 20 trivial) ?_
  refine AW.st (by simp [dNum, dB, dBs]; rfl) ?_
  refine AW.imp (Imp.freezeB 22 trivial) ?_
  refine AW.st (by simp [dNum, dB, dBs]; rfl) ?_
  refine AW_rg (tyOf_good _) [1, 2, 4, 5] [] (fun _ _ => trivial) fun K' hK' => ?_
  repeat (refine sxf_next fun K2 hK2 => ?_; simp [dNum, dB, dBs]; (repeat (refine ⟨by omega, ?_⟩)); refine hK2 _ ?_; clear hK2 K2)
  refine sxf_next fun K2 hK2 => ?_
  simp [dNum, dB, dBs]
  refine callK.data (h1) (by simp; rfl) (by first | exact D.leGo_refl _ | simp [takeMap, List.map_map, Function.comp_def, D.le, D.le.go, D.le_refl, D.leGo_refl, dNum, dB, dBs]) ?_
  refine hK2 _ ?_
  clear hK2 K2
  simp only [putd, upd_lst]
  repeat (refine sxf_next fun K2 hK2 => ?_; simp [dNum, dB, dBs]; (repeat (refine ⟨by omega, ?_⟩)); refine hK2 _ ?_; clear hK2 K2)
  refine sxf_nil (hK' _ ?_)
  refine AW.st (by simp [dNum, dB, dBs]; rfl) ?_
  clear hK' K'
  refine AW_rg (tyOf_good _) [4, 5, 6, 7] [] (fun _ _ => trivial) fun K' hK' => ?_
  repeat (refine sxf_next fun K2 hK2 => ?_; simp [dNum, dB, dBs]; (repeat (refine ⟨by omega, ?_⟩)); refine hK2 _ ?_; clear hK2 K2)
  refine sxf_next fun K2 hK2 => ?_
  simp [dNum, dB, dBs]
  refine callK.data (h2) (by simp; rfl) (by first | exact D.leGo_refl _ | simp [takeMap, List.map_map, Function.comp_def, D.le, D.le.go, D.le_refl, D.leGo_refl, dNum, dB, dBs]) ?_
  refine hK2 _ ?_
  clear hK2 K2
  simp only [putd, upd_lst]
  repeat (refine sxf_next fun K2 hK2 => ?_; simp [dNum, dB, dBs]; (repeat (refine ⟨by omega, ?_⟩)); refine hK2 _ ?_; clear hK2 K2)
  refine sxf_nil (hK' _ ?_)
  refine AW.st (by simp [dNum, dB, dBs]; rfl) ?_
  clear hK' K'
  refine AW_rg (tyOf_good _) [0] [] (fun _ _ => trivial) fun K' hK' => ?_
  repeat (refine sxf_next fun K2 hK2 => ?_; simp [dNum, dB, dBs]; (repeat (refine ⟨by omega, ?_⟩)); refine hK2 _ ?_; clear hK2 K2)
  refine sxf_next fun K2 hK2 => ?_
  simp [dNum, dB, dBs]
  refine callK.lend (hs1) (by simp; rfl) (by first | exact D.leGo_refl _ | simp [takeMap, List.map_map, Function.comp_def, D.le, D.le.go, D.le_refl, D.leGo_refl, dNum, dB, dBs]) (by simp [D.scalar]) ?_
  refine hK2 _ ?_
  clear hK2 K2
  simp only [putd, upd_lst]
  repeat (refine sxf_next fun K2 hK2 => ?_; simp [dNum, dB, dBs]; (repeat (refine ⟨by omega, ?_⟩)); refine hK2 _ ?_; clear hK2 K2)
  refine sxf_next fun K2 hK2 => ?_
  simp [dNum, dB, dBs]
  refine callK.lend (hs2) (by simp; rfl) (by first | exact D.leGo_refl _ | simp [takeMap, List.map_map, Function.comp_def, D.le, D.le.go, D.le_refl, D.leGo_refl, dNum, dB, dBs]) (by simp [D.scalar]) ?_
  refine hK2 _ ?_
  clear hK2 K2
  simp only [putd, upd_lst]
  repeat (refine sxf_next fun K2 hK2 => ?_; simp [dNum, dB, dBs]; (repeat (refine ⟨by omega, ?_⟩)); refine hK2 _ ?_; clear hK2 K2)
  refine sxf_nil (hK' _ ?_)
  refine AW.st (by simp [dNum, dB, dBs]; rfl) ?_
  clear hK' K'
  refine AW_ret ?_
  simp [D.le, D.le.go, takeMap, dNum, dB, dBs]
#print axioms lassoed_spec
end Go.Proofs.YtoikggboakojlaaDoor

/-
  LassoTurns: a round may be turned, and gone twice.
-/
namespace Go.Proofs.YtoikggboakojlaaDoor
set_option linter.unusedSimpArgs false
set_option linter.unusedVariables false
open Go.Av

theorem namesOkL_of : ∀ {l : List Fm}, (∀ f ∈ l, namesOk f) → namesOkL l
  | [], _ => trivial
  | f :: l, h => ⟨h f (by simp), namesOkL_of fun g hg => h g (by simp [hg])⟩
theorem names_step {all : List Fm} (ha : ∀ f ∈ all, namesOk f) {x : Stp} (hx : x.name.length < 2^60) : namesOk (stepF all x) := by
  have hg : ∀ i, namesOk (all.getD i .nil) := fun i => by
    rw [List.getD_eq_getElem?_getD]
    cases h : all[i]? with
    | none => trivial
    | some f => exact ha f (List.mem_of_getElem? h)
  unfold stepF
  repeat' split
  · exact ⟨by decide, trivial⟩
  · exact ⟨by simp, hg _, trivial⟩
  · exact ⟨by simp, hg _, hg _, trivial⟩
  · exact ⟨hx, trivial⟩
theorem names_all : ∀ (l : List Stp) (all : List Fm), (∀ x ∈ l, x.name.length < 2^60) → (∀ f ∈ all, namesOk f) → ∀ f ∈ allF l all, namesOk f
  | [], all, _, h => h
  | x :: l, all, hl, h => names_all l _ (fun y hy => hl y (by simp [hy])) fun f hf => by
    rcases List.mem_append.1 hf with hf | hf
    · exact h f hf
    · rw [List.mem_singleton] at hf; subst hf; exact names_step h (hl x (by simp))
theorem names_form (l : List Stp) (hl : ∀ x ∈ l, x.name.length < 2^60) : namesOk (formF l) := by
  unfold formF
  rw [List.getD_eq_getElem?_getD]
  cases h : (madeF l l.length)[l.length]? with
  | none => trivial
  | some f =>
    refine names_all _ _ (fun x hx => hl x (List.mem_of_mem_take hx)) (fun f hf => ?_) f (List.mem_of_getElem? h)
    rw [List.mem_singleton] at hf
    subst hf
    exact ⟨by decide, trivial⟩
theorem form_ip (l : List Stp) : ∃ c, dF (formF l) = .ip c := by
  have hlt : l.length < (madeF l l.length).length := by rw [madeF_len l (Nat.le_refl _)]; omega
  have : formF l = (madeF l l.length)[l.length]'hlt := by unfold formF; simp [hlt]
  rw [this]
  exact (madeF_mk l _ _ (List.getElem_mem _)).ip

theorem holdsF_len (a r : Times) {f : Fm} {c : List D} (h : dF f = .ip c) : (holdsF a r f).length = a.length + r.length := by
  cases f with
  | nil => simp [dF] at h
  | mk k s l => rw [holdsF, List.length_map, List.length_range]
theorem okTimes_append (x y : Times) : okTimes (x ++ y) = (okTimes x && okTimes y) := by unfold okTimes; rw [List.all_append]
theorem errOf_ne {c : Int} (h : c ≠ 0) : errOf c = some (c, none) := by unfold errOf; rw [if_neg h]

set_option maxHeartbeats 16000000 in
theorem turns_spec (G : Glob) (hA : HasArity G) (a r : Times) (hs : Small a r) (l : List Stp) (hl : l.length < 2^60) (hn : ∀ x ∈ l, x.name.length < 2^60) : PureC Tryd.prog G 8 [dW a r, dStps l] (.v (.bool true)) := by
  have hsl := hs.len
  by_cases h1 : (16 : Int) < l.length
  · refine PureC.of_body (tyOf_good _) Tryd.func8 rfl rfl (rs := [.tmp 4]) Tryd.results8 (by simp [Tryd.ntmps8]) fun X => ?_
    simp only [Tryd.ntmps8, List.map]
    refine AW_rg (tyOf_good _) [1, 2] [2] (fun _ _ => trivial) fun K' hK' => ?_
    repeat (refine sxf_next fun K2 hK2 => ?_; simp [dNum, dB, dW]; (repeat (refine ⟨by omega, ?_⟩)); refine hK2 _ ?_; clear hK2 K2)
    refine sxf_nil (hK' _ ?_)
    refine AW.st (by simp [dNum, dB, dW]; rfl) ?_
    clear hK' K'
    refine AW_then fun K1 hK1 => ?_
    refine AW_rg (tyOf_good _) [1, 2, 30] [2] (fun _ _ => trivial) fun K' hK' => ?_
    repeat (refine sxf_next fun K2 hK2 => ?_; simp [dNum, dB, dTimes, dStps, h1]; (repeat (refine ⟨by omega, ?_⟩)); refine hK2 _ ?_; clear hK2 K2)
    refine sxf_nil (hK' _ ?_)
    refine AW.st (by simp [dNum, dB, dTimes, dStps, h1]; rfl) ?_
    clear hK' K'
    refine AW_cond true rfl (fun _ => ?_) (fun h => by cases h)
    refine AW_rg (tyOf_good _) [4] [] (fun _ _ => trivial) fun K' hK' => ?_
    repeat (refine sxf_next fun K2 hK2 => ?_; simp [dNum, dB]; (repeat (refine ⟨by omega, ?_⟩)); refine hK2 _ ?_; clear hK2 K2)
    refine sxf_nil (hK' _ ?_)
    refine AW.st (by simp [dNum, dB]; rfl) ?_
    clear hK' K'
    refine AW_ret ?_
    simp [D.le, D.le.go, takeMap, dNum, dB]
  by_cases h2 : (40 : Int) < (a.length : Int) + 2 * (r.length : Int)
  · refine PureC.of_body (tyOf_good _) Tryd.func8 rfl rfl (rs := [.tmp 4]) Tryd.results8 (by simp [Tryd.ntmps8]) fun X => ?_
    simp only [Tryd.ntmps8, List.map]
    refine AW_rg (tyOf_good _) [1, 2] [2] (fun _ _ => trivial) fun K' hK' => ?_
    repeat (refine sxf_next fun K2 hK2 => ?_; simp [dNum, dB, dW]; (repeat (refine ⟨by omega, ?_⟩)); refine hK2 _ ?_; clear hK2 K2)
    refine sxf_nil (hK' _ ?_)
    refine AW.st (by simp [dNum, dB, dW]; rfl) ?_
    clear hK' K'
    refine AW_then fun K1 hK1 => ?_
    refine AW_rg (tyOf_good _) [1, 2, 30] [2] (fun _ _ => trivial) fun K' hK' => ?_
    repeat (refine sxf_next fun K2 hK2 => ?_; simp [dNum, dB, dTimes, dStps, h1, h2]; (repeat (refine ⟨by omega, ?_⟩)); refine hK2 _ ?_; clear hK2 K2)
    refine sxf_nil (hK' _ ?_)
    refine AW.st (by simp [dNum, dB, dTimes, dStps, h1, h2]; rfl) ?_
    clear hK' K'
    refine AW_cond true rfl (fun _ => ?_) (fun h => by cases h)
    refine AW_rg (tyOf_good _) [4] [] (fun _ _ => trivial) fun K' hK' => ?_
    repeat (refine sxf_next fun K2 hK2 => ?_; simp [dNum, dB]; (repeat (refine ⟨by omega, ?_⟩)); refine hK2 _ ?_; clear hK2 K2)
    refine sxf_nil (hK' _ ?_)
    refine AW.st (by simp [dNum, dB]; rfl) ?_
    clear hK' K'
    refine AW_ret ?_
    simp [D.le, D.le.go, takeMap, dNum, dB]
  have hform := formula_spec G l (by omega)
  have hnf := names_form l hn
  have hla := lassoed_spec G hA
  obtain ⟨cf, hcf⟩ := form_ip l
  generalize formF l = f at hform hnf hcf
  by_cases hE : holdsE a r f = 0
  · have hg := Holds_good G hA a r hs f hnf hE
    have hwr : wordE a r = 0 ∧ rightE f = 0 := by
      unfold holdsE at hE
      by_cases hw : wordE a r = 0
      · rw [if_neg (by simp [hw])] at hE; exact ⟨hw, hE⟩
      · rw [if_pos hw] at hE; exact absurd hE hw
    have hlen : 0 < r.length ∧ okTimes a = true ∧ okTimes r = true := by
      have hw := hwr.1
      unfold wordE at hw
      split at hw
      · cases hw
      · rename_i h
        refine ⟨by omega, ?_⟩
        have hb : (okTimes a && okTimes r) = true := by
          cases hb : (okTimes a && okTimes r) with
          | true => rfl
          | false => rw [hb] at hw; cases hw
        rwa [Bool.and_eq_true] at hb
    obtain ⟨hr0, hoa, hor⟩ := hlen
    obtain ⟨x, rt, rfl⟩ : ∃ x rt, r = x :: rt := by cases r with | nil => simp at hr0 | cons x rt => exact ⟨x, rt, rfl⟩
    have hox : okTimes [x] = true ∧ okTimes rt = true := by
      have : okTimes (x :: rt) = (okTimes [x] && okTimes rt) := okTimes_append [x] rt
      rw [hor] at this
      have := this.symm
      rwa [Bool.and_eq_true] at this
    have hE1 : holdsE (a ++ [x]) (rt ++ [x]) f = 0 := by
      unfold holdsE wordE
      rw [okTimes_append, okTimes_append, hoa, hox.1, hox.2]
      simp only [List.length_append, List.length_cons, List.length_nil] at h2 ⊢
      rw [if_neg (show ¬ (rt.length + (0 + 1) < 1 ∨ 60 < a.length + (0 + 1) + (rt.length + (0 + 1))) by omega)]
      simp [hwr.2]
    have hE2 : holdsE a (x :: rt ++ x :: rt) f = 0 := by
      unfold holdsE wordE
      rw [okTimes_append, hoa, hor]
      simp only [List.length_append, List.length_cons] at h2 ⊢
      rw [if_neg (show ¬ (rt.length + 1 + (rt.length + 1) < 1 ∨ 60 < a.length + (rt.length + 1 + (rt.length + 1))) by omega)]
      simp [hwr.2]
    have hs1 : Small (a ++ [x]) (rt ++ [x]) := ⟨by simp only [List.length_append, List.length_cons, List.length_nil] at h2 ⊢; omega, fun t ht => hs.times t (by simp at ht ⊢; rcases ht with h | h | h | h <;> simp_all), fun t ht => hs.names t (by simp at ht ⊢; rcases ht with h | h | h | h <;> simp_all)⟩
    have hs2 : Small a (x :: rt ++ x :: rt) := ⟨by simp only [List.length_append, List.length_cons] at h2 ⊢; omega, fun t ht => hs.times t (by simp at ht ⊢; rcases ht with h | h | h | h | h <;> simp_all), fun t ht => hs.names t (by simp at ht ⊢; rcases ht with h | h | h | h | h <;> simp_all)⟩
    have hg1 := Holds_good G hA _ _ hs1 f hnf hE1
    have hg2 := Holds_good G hA _ _ hs2 f hnf hE2
    have hAl := holdsF_len a (x :: rt) hcf
    have hBl := holdsF_len (a ++ [x]) (rt ++ [x]) hcf
    have hCl := holdsF_len a (x :: rt ++ x :: rt) hcf
    have hu1 := holds_upon (upon_turn a x rt) f
    have hu2 := holds_upon (upon_twice a (x :: rt) (by simp)) f
    generalize holdsF a (x :: rt) f = A at hg hAl hu1 hu2
    generalize holdsF (a ++ [x]) (rt ++ [x]) f = B at hg1 hBl hu1
    generalize holdsF a (x :: rt ++ x :: rt) f = C at hg2 hCl hu2
    simp only [List.length_append, List.length_cons, List.length_nil] at hAl hBl hCl hu1 hu2
    have hBl : B.length = a.length + (rt.length + 1) + 1 := by omega
    have hCl : C.length = a.length + 2 * (rt.length + 1) := by omega
    have hB1 : ∀ i (h : i < a.length + (rt.length + 1)), B[i]'(by omega) = A[i]'(by omega) := fun i h => by
      have := hu1 i (by omega)
      rw [if_pos h] at this
      simpa [atB, List.getD_eq_getElem?_getD, show i < B.length by omega, show i < A.length by omega] using this
    have hB2 : B[a.length + (rt.length + 1)]'(by omega) = A[a.length]'(by omega) := by
      have := hu1 (a.length + (rt.length + 1)) (by omega)
      rw [if_neg (by omega)] at this
      simpa [atB, List.getD_eq_getElem?_getD, show a.length + (rt.length + 1) < B.length by omega, show a.length < A.length by omega] using this
    have hC1 : ∀ i (h : i < a.length + (rt.length + 1)), C[i]'(by omega) = A[i]'(by omega) := fun i h => by
      have := hu2 i (by omega)
      rw [if_pos h] at this
      simpa [atB, List.getD_eq_getElem?_getD, show i < C.length by omega, show i < A.length by omega] using this
    have hC2 : ∀ i (h : i < a.length + (rt.length + 1)) (h2 : a.length ≤ i), C[i + (rt.length + 1)]'(by omega) = A[i]'(by omega) := fun i h h2 => by
      have := hu2 (i + (rt.length + 1)) (by omega)
      rw [if_neg (by omega), Nat.add_sub_cancel] at this
      simpa [atB, List.getD_eq_getElem?_getD, show i + (rt.length + 1) < C.length by omega, show i < A.length by omega] using this
    clear hu1 hu2 hE hE1 hE2 hwr
    rw [hcf] at hform hg hg1 hg2
    have htkr : ∀ g : List (List UInt8) → List D, List.take rt.length (rt.map g) = rt.map g := fun g => List.take_of_length_le (by simp)
    have htka : ∀ g : List (List UInt8) → List D, List.take a.length (a.map g) = a.map g := fun g => List.take_of_length_le (by simp)
    have hdbl : rt.length + 1 + (rt.length + 1) = rt.length + (rt.length + 1) + 1 := by omega
    have hrn : rt.length < 40 := by simp only [List.length_cons] at h2; omega
    have han : a.length ≤ 40 := by simp only [List.length_cons] at h2; omega
    refine PureC.of_body (tyOf_good _) Tryd.func8 rfl rfl (rs := [.tmp 4]) Tryd.results8 (by simp [Tryd.ntmps8]) fun X => ?_
    simp only [Tryd.ntmps8, List.map]
    refine AW_rg (tyOf_good _) [1, 2] [2] (fun _ _ => trivial) fun K' hK' => ?_
    repeat (refine sxf_next fun K2 hK2 => ?_; simp [dNum, dB, dW]; (repeat (refine ⟨by omega, ?_⟩)); refine hK2 _ ?_; clear hK2 K2)
    refine sxf_nil (hK' _ ?_)
    refine AW.st (by simp [dNum, dB, dW]; rfl) ?_
    clear hK' K'
    refine AW_then fun K1 hK1 => ?_
    simp only [List.length_cons, Int.natCast_add, Int.cast_ofNat_Int] at h2
    refine AW_rg (tyOf_good _) [1, 2, 30] [2] (fun _ _ => trivial) fun K' hK' => ?_
    repeat (refine sxf_next fun K2 hK2 => ?_; simp [dNum, dB, dTimes, dStps, h1, h2]; (repeat (refine ⟨by omega, ?_⟩)); refine hK2 _ ?_; clear hK2 K2)
    refine sxf_nil (hK' _ ?_)
    refine AW.st (by simp [dNum, dB, dTimes, dStps, h1, h2]; rfl) ?_
    clear hK' K'
    refine AW_cond false rfl (fun h => by cases h) (fun _ => ?_)
    refine AW_skip (hK1 _ ?_)
    refine AW_rg (tyOf_good _) [2, 5] [2] (fun _ _ => trivial) fun K' hK' => ?_
    repeat (refine sxf_next fun K2 hK2 => ?_; simp [dNum, dB, dStps, dTimes]; (repeat (refine ⟨by omega, ?_⟩)); refine hK2 _ ?_; clear hK2 K2)
    refine sxf_next fun K2 hK2 => ?_
    simp [dNum, dB, dStps, dTimes]
    refine callK.data (hform) (by simp; rfl) (by first | exact D.leGo_refl _ | simp [takeMap, List.map_map, Function.comp_def, D.le, D.le.go, D.le_refl, D.leGo_refl, dNum, dB, dStps, dTimes]) ?_
    refine hK2 _ ?_
    clear hK2 K2
    simp only [putd, upd_lst]
    repeat (refine sxf_next fun K2 hK2 => ?_; simp [dNum, dB, dStps, dTimes]; (repeat (refine ⟨by omega, ?_⟩)); refine hK2 _ ?_; clear hK2 K2)
    refine sxf_nil (hK' _ ?_)
    refine AW.st (by simp [dNum, dB, dStps, dTimes]; rfl) ?_
    clear hK' K'
    refine AW_rg (tyOf_good _) [2, 5, 6, 7] [2] (fun _ _ => trivial) fun K' hK' => ?_
    repeat (refine sxf_next fun K2 hK2 => ?_; simp [dNum, dB, dW, dTimes]; (repeat (refine ⟨by omega, ?_⟩)); refine hK2 _ ?_; clear hK2 K2)
    refine sxf_next fun K2 hK2 => ?_
    simp [dNum, dB, dW, dTimes]
    refine callK.data (hg) (by simp; rfl) (by first | exact D.leGo_refl _ | simp [takeMap, List.map_map, Function.comp_def, D.le, D.le.go, D.le_refl, D.leGo_refl, dNum, dB, dW, dTimes]) ?_
    refine hK2 _ ?_
    clear hK2 K2
    simp only [putd, upd_lst]
    repeat (refine sxf_next fun K2 hK2 => ?_; simp [dNum, dB, dW, dTimes]; (repeat (refine ⟨by omega, ?_⟩)); refine hK2 _ ?_; clear hK2 K2)
    refine sxf_nil (hK' _ ?_)
    refine AW.st (by simp [dNum, dB, dW, dTimes]; rfl) ?_
    clear hK' K'
    refine AW_then fun K2 hK2 => ?_
    refine AW_rg (tyOf_good _) [2, 5, 6, 44] [2] (fun _ _ => trivial) fun K' hK' => ?_
    repeat (refine sxf_next fun K2 hK2 => ?_; simp [dNum, dB]; (repeat (refine ⟨by omega, ?_⟩)); refine hK2 _ ?_; clear hK2 K2)
    refine sxf_next fun K2 hK2 => ?_
    simp [dNum, dB]
    refine callK.data (hla) (by simp; rfl) (by first | exact D.leGo_refl _ | simp [takeMap, List.map_map, Function.comp_def, D.le, D.le.go, D.le_refl, D.leGo_refl, dNum, dB]) ?_
    refine hK2 _ ?_
    clear hK2 K2
    simp only [putd, upd_lst]
    repeat (refine sxf_next fun K2 hK2 => ?_; simp [dNum, dB]; (repeat (refine ⟨by omega, ?_⟩)); refine hK2 _ ?_; clear hK2 K2)
    refine sxf_nil (hK' _ ?_)
    refine AW.st (by simp [dNum, dB]; rfl) ?_
    clear hK' K'
    refine AW_cond false rfl (fun h => by cases h) (fun _ => ?_)
    refine AW_skip (hK2 _ ?_)
    refine AW_rd (tyOf_good _) (by kernel_rfl) [2, 5, 6, 8, 9] [2] (fun _ _ => trivial) (by kernel_rfl) fun K' hK' => ?_
    repeat (refine sxd_next fun K2 hK2 => ?_; simp [dNum, dB, dTimes]; (repeat (refine ⟨by omega, ?_⟩)); refine hK2 _ ?_; clear hK2 K2)
    refine sxd_nil (hK' _ ?_)
    refine AW.st (by simp [dNum, dB, dTimes]; rfl) ?_
    clear hK' K'
    refine AW_rl (tyOf_good _) (by kernel_rfl) ([(3, (57, 999)), (9, (57, 65)), (14, (67, 999)), (20, (67, 76))]) ([(4, [57]), (5, [57]), (6, [57]), (7, [57]), (8, [57]), (10, [57]), (11, [57]), (12, [57]), (13, [57]), (15, [57, 67]), (16, [57, 67]), (17, [57, 67]), (18, [57, 67]), (19, [57, 67]), (22, [57, 67])]) ([1, 2, 4, 5, 6, 7, 11, 12, 13, 15, 16, 17, 18, 0, 8, 10, 19, 22, 3, 9, 14, 20, 21, 23]) [2, 5, 6, 8, 9, 10] [2, 10, 57, 67] (fun _ _ => trivial) (by kernel_rfl) fun K' hK' => ?_
    repeat (refine sxl_nextO rfl fun K2 hK2 => ?_; simp [dNum, dB, dTimes, dNames, htkr, htka]; (repeat (refine ⟨by omega, ?_⟩)); refine hK2 _ ?_; clear hK2 K2)
    refine sxl_nilO (hK' _ ?_)
    refine AW.st (by simp [dNum, dB, dTimes, dNames, htkr, htka]; rfl) ?_
    clear hK' K'
    refine AW.imp (Imp.freeze 57 trivial) ?_
    refine AW.st (by simp [dNum, dB, htka]; rfl) ?_
    refine AW.imp (Imp.freeze 67 trivial) ?_
    refine AW.st (by simp [dNum, dB, htkr]; rfl) ?_
    refine AW.imp (Imp.freezeB 10 trivial) ?_
    refine AW.st (by simp [dNum, dB]; rfl) ?_
    refine AW_rl (tyOf_good _) (by kernel_rfl) ([(5, (81, 999)), (8, (81, 999))]) ([(0, [81]), (1, [81]), (6, [81]), (7, [81]), (10, [81])]) ([0, 1, 3, 4, 6, 7, 2, 10, 5, 8, 9, 11]) [5, 6, 8, 9, 10, 11] [11, 81] (fun _ _ => trivial) (by kernel_rfl) fun K' hK' => ?_
    repeat (refine sxl_nextO rfl fun K2 hK2 => ?_; simp [dNum, dB, dTimes, dNames, htkr, htka]; (repeat (refine ⟨by omega, ?_⟩)); refine hK2 _ ?_; clear hK2 K2)
    refine sxl_nilO (hK' _ ?_)
    refine AW.st (by simp [dNum, dB, dTimes, dNames, htkr, htka]; rfl) ?_
    clear hK' K'
    refine AW.imp (Imp.freeze 81 trivial) ?_
    refine AW.st (by simp [dNum, dB, hdbl]; rfl) ?_
    refine AW.imp (Imp.freezeB 11 trivial) ?_
    refine AW.st (by simp [dNum, dB]; rfl) ?_
    refine AW_rg (tyOf_good _) [5, 6, 8, 9, 11, 12, 13] [] (fun _ _ => trivial) fun K' hK' => ?_
    repeat (refine sxf_next fun K2 hK2 => ?_; simp [dNum, dB, dW, dTimes, dNames]; (repeat (refine ⟨by omega, ?_⟩)); refine hK2 _ ?_; clear hK2 K2)
    refine sxf_next fun K2 hK2 => ?_
    simp [dNum, dB, dW, dTimes, dNames]
    refine callK.data (hg1) (by simp; rfl) (by first | exact D.leGo_refl _ | simp [takeMap, List.map_map, Function.comp_def, D.le, D.le.go, D.le_refl, D.leGo_refl, dNum, dB, dW, dTimes, dNames]) ?_
    refine hK2 _ ?_
    clear hK2 K2
    simp only [putd, upd_lst]
    repeat (refine sxf_next fun K2 hK2 => ?_; simp [dNum, dB, dW, dTimes, dNames]; (repeat (refine ⟨by omega, ?_⟩)); refine hK2 _ ?_; clear hK2 K2)
    refine sxf_nil (hK' _ ?_)
    refine AW.st (by simp [dNum, dB, dW, dTimes, dNames]; rfl) ?_
    clear hK' K'
    refine AW_rg (tyOf_good _) [6, 8, 9, 12, 13, 14, 15] [] (fun _ _ => trivial) fun K' hK' => ?_
    repeat (refine sxf_next fun K2 hK2 => ?_; simp [dNum, dB, dW, dTimes, dNames]; (repeat (refine ⟨by omega, ?_⟩)); refine hK2 _ ?_; clear hK2 K2)
    refine sxf_next fun K2 hK2 => ?_
    simp [dNum, dB, dW, dTimes, dNames]
    refine callK.data (hg2) (by simp; rfl) (by first | exact D.leGo_refl _ | simp [takeMap, List.map_map, Function.comp_def, D.le, D.le.go, D.le_refl, D.leGo_refl, dNum, dB, dW, dTimes, dNames]) ?_
    refine hK2 _ ?_
    clear hK2 K2
    simp only [putd, upd_lst]
    repeat (refine sxf_next fun K2 hK2 => ?_; simp [dNum, dB, dW, dTimes, dNames]; (repeat (refine ⟨by omega, ?_⟩)); refine hK2 _ ?_; clear hK2 K2)
    refine sxf_nil (hK' _ ?_)
    refine AW.st (by simp [dNum, dB, dW, dTimes, dNames]; rfl) ?_
    clear hK' K'
    refine AW_then fun K3 hK3 => ?_
    refine AW_rg (tyOf_good _) [6, 8, 9, 12, 14, 132] [] (fun _ _ => trivial) fun K' hK' => ?_
    repeat (refine sxf_next fun K2 hK2 => ?_; simp [dNum, dB, dBs, hAl, hBl, hCl]; (repeat (refine ⟨by omega, ?_⟩)); refine hK2 _ ?_; clear hK2 K2)
    refine sxf_nil (hK' _ ?_)
    refine AW.st (by simp [dNum, dB, dBs, hAl, hBl, hCl]; rfl) ?_
    clear hK' K'
    refine AW_cond false rfl (fun h => by cases h) (fun _ => ?_)
    refine AW_skip (hK3 _ ?_)
    refine AW_then fun K4 hK4 => ?_
    refine AW_rg (tyOf_good _) [6, 8, 9, 12, 14, 16] [] (fun _ _ => trivial) fun K' hK' => ?_
    repeat (refine sxf_next fun K2 hK2 => ?_; simp [dNum, dB]; (repeat (refine ⟨by omega, ?_⟩)); refine hK2 _ ?_; clear hK2 K2)
    refine sxf_nil (hK' _ ?_)
    refine AW.st (by simp [dNum, dB]; rfl) ?_
    clear hK' K'
    refine AW_for (S := Nat) (fun i => i ≤ a.length + (rt.length + 1)) (fun i => ⟨lst [(6, .d (dBs A)), (8, int a.length), (9, int (rt.length + 1)), (12, .d (dBs B)), (14, .d (dBs C)), (16, int i)], hlst []⟩) (fun i => a.length + (rt.length + 1) - i) 0 ?_ (by omega) ?_
    · refine Imp.to' (fun _ _ => trivial) (by simp [dNum, dB, dBs]) (by simp [dNum, dB, dBs])
    · intro i hi
      refine AW_then fun K5 hK5 => ?_
      refine AW_rg (tyOf_good _) [6, 8, 9, 12, 14, 16, 137] [] (fun _ _ => trivial) fun K' hK' => ?_
      repeat (refine sxf_next fun K2 hK2 => ?_; simp [dNum, dB]; (repeat (refine ⟨by omega, ?_⟩)); refine hK2 _ ?_; clear hK2 K2)
      refine sxf_nil (hK' _ ?_)
      refine AW.st (by simp [dNum, dB]; rfl) ?_
      clear hK' K'
      have hcI : ((i : Int) < (a.length : Int) + ((rt.length : Int) + 1)) = (i < a.length + (rt.length + 1)) := by apply propext; omega
      by_cases hin : i < a.length + (rt.length + 1)
      · have hinI : (i : Int) < (a.length : Int) + ((rt.length : Int) + 1) := by omega
        have hiA : i < A.length := by omega
        have hiB : i < B.length := by omega
        have hiC : i < C.length := by omega
        have hb := hB1 i hin
        have hcc := hC1 i hin
        refine AW_cond' (b := true) (by simp [hinI]) (fun _ => ?_) (fun h => absurd rfl h)
        refine AW_skip (hK5 _ ?_)
        refine AW_then fun K6 hK6 => ?_
        refine AW_block ?_
        by_cases hni : a.length ≤ i
        · have hiC2 : i + (rt.length + 1) < C.length := by omega
          have hc2 := hC2 i hin hni
          have htn : ((i : Int) + ((rt.length : Int) + 1)).toNat = i + (rt.length + 1) := by omega
          have h0 : (0 : Int) ≤ (i : Int) + ((rt.length : Int) + 1) := by omega
          have h0' : (i : Int) + ((rt.length : Int) + 1) < C.length := by omega
          refine AW_rd (tyOf_good _) (by kernel_rfl) [6, 8, 9, 12, 14, 16, 177] [] (fun _ _ => trivial) (by kernel_rfl) fun K' hK' => ?_
          repeat (refine sxd_next fun K2 hK2 => ?_; simp [dNum, dB, dBs, hiA, hiB, hiC, hb, hcc, hni, hiC2, hc2, htn, h0, h0']; (repeat (refine ⟨by omega, ?_⟩)); refine hK2 _ ?_; clear hK2 K2)
          refine sxd_nil (hK' _ ?_)
          refine AW.st (by simp [dNum, dB, dBs, hiA, hiB, hiC, hb, hcc, hni, hiC2, hc2, htn, h0, h0']; rfl) ?_
          clear hK' K'
          refine AW_cond false rfl (fun h => by cases h) (fun _ => ?_)
          refine AW_skip ?_
          refine hK6 _ (AW.norm [6, 8, 9, 12, 14, 16] [] (fun _ _ => trivial) (AW.st (by simp [dNum, dB]; rfl) ?_))
          refine AW_re (tyOf_good _) fun K' hK' => ?_
          repeat (refine sxf_next fun K2 hK2 => ?_; simp [dNum, dB]; (repeat (refine ⟨by omega, ?_⟩)); refine hK2 _ ?_; clear hK2 K2)
          refine sxf_nil (hK' _ ?_)
          clear hK' K'
          try simp only [thn, inb]
          refine Again.mk (i + 1) (by omega) (by omega) ?_
          refine Imp.to' (fun _ _ => trivial) (by simp [dNum, dB, dBs]) (by simp [dNum, dB, dBs])
        · refine AW_rd (tyOf_good _) (by kernel_rfl) [6, 8, 9, 12, 14, 16, 177] [] (fun _ _ => trivial) (by kernel_rfl) fun K' hK' => ?_
          repeat (refine sxd_next fun K2 hK2 => ?_; simp [dNum, dB, dBs, hiA, hiB, hiC, hb, hcc, hni]; (repeat (refine ⟨by omega, ?_⟩)); refine hK2 _ ?_; clear hK2 K2)
          refine sxd_nil (hK' _ ?_)
          refine AW.st (by simp [dNum, dB, dBs, hiA, hiB, hiC, hb, hcc, hni]; rfl) ?_
          clear hK' K'
          refine AW_cond false rfl (fun h => by cases h) (fun _ => ?_)
          refine AW_skip ?_
          refine hK6 _ (AW.norm [6, 8, 9, 12, 14, 16] [] (fun _ _ => trivial) (AW.st (by simp [dNum, dB]; rfl) ?_))
          refine AW_re (tyOf_good _) fun K' hK' => ?_
          repeat (refine sxf_next fun K2 hK2 => ?_; simp [dNum, dB]; (repeat (refine ⟨by omega, ?_⟩)); refine hK2 _ ?_; clear hK2 K2)
          refine sxf_nil (hK' _ ?_)
          clear hK' K'
          try simp only [thn, inb]
          refine Again.mk (i + 1) (by omega) (by omega) ?_
          refine Imp.to' (fun _ _ => trivial) (by simp [dNum, dB, dBs]) (by simp [dNum, dB, dBs])
      · have hinI : ¬ (i : Int) < (a.length : Int) + ((rt.length : Int) + 1) := by omega
        refine AW_cond' (b := false) (by simp [hinI]) (fun h => by cases h) (fun _ => ?_)
        refine AW_exit (hK4 _ ?_)
        have htn : ((a.length : Int) + ((rt.length : Int) + 1)).toNat = a.length + (rt.length + 1) := by omega
        have h0 : (0 : Int) ≤ (a.length : Int) + ((rt.length : Int) + 1) := by omega
        have h0' : (a.length : Int) + ((rt.length : Int) + 1) < B.length := by omega
        have h3 : a.length + (rt.length + 1) < B.length := by omega
        have h4 : a.length < A.length := by omega
        refine AW_rd (tyOf_good _) (by kernel_rfl) [4] [] (fun _ _ => trivial) (by kernel_rfl) fun K' hK' => ?_
        repeat (refine sxd_next fun K2 hK2 => ?_; simp [dNum, dB, dBs, htn, h0, h0', h3, h4, hB2]; (repeat (refine ⟨by omega, ?_⟩)); refine hK2 _ ?_; clear hK2 K2)
        refine sxd_nil (hK' _ ?_)
        refine AW.st (by simp [dNum, dB, dBs, htn, h0, h0', h3, h4, hB2]; rfl) ?_
        clear hK' K'
        refine AW_ret ?_
        simp [D.le, D.le.go, takeMap, dNum, dB]
  · have hbd := Holds_bad G hA a r hs f hnf hE
    rw [errOf_ne hE] at hbd
    rw [hcf] at hform hbd
    refine PureC.of_body (tyOf_good _) Tryd.func8 rfl rfl (rs := [.tmp 4]) Tryd.results8 (by simp [Tryd.ntmps8]) fun X => ?_
    simp only [Tryd.ntmps8, List.map]
    refine AW_rg (tyOf_good _) [1, 2] [2] (fun _ _ => trivial) fun K' hK' => ?_
    repeat (refine sxf_next fun K2 hK2 => ?_; simp [dNum, dB, dW]; (repeat (refine ⟨by omega, ?_⟩)); refine hK2 _ ?_; clear hK2 K2)
    refine sxf_nil (hK' _ ?_)
    refine AW.st (by simp [dNum, dB, dW]; rfl) ?_
    clear hK' K'
    refine AW_then fun K1 hK1 => ?_
    refine AW_rg (tyOf_good _) [1, 2, 30] [2] (fun _ _ => trivial) fun K' hK' => ?_
    repeat (refine sxf_next fun K2 hK2 => ?_; simp [dNum, dB, dTimes, dStps, h1, h2]; (repeat (refine ⟨by omega, ?_⟩)); refine hK2 _ ?_; clear hK2 K2)
    refine sxf_nil (hK' _ ?_)
    refine AW.st (by simp [dNum, dB, dTimes, dStps, h1, h2]; rfl) ?_
    clear hK' K'
    refine AW_cond false rfl (fun h => by cases h) (fun _ => ?_)
    refine AW_skip (hK1 _ ?_)
    refine AW_rg (tyOf_good _) [2, 5] [2] (fun _ _ => trivial) fun K' hK' => ?_
    repeat (refine sxf_next fun K2 hK2 => ?_; simp [dNum, dB, dStps, dTimes]; (repeat (refine ⟨by omega, ?_⟩)); refine hK2 _ ?_; clear hK2 K2)
    refine sxf_next fun K2 hK2 => ?_
    simp [dNum, dB, dStps, dTimes]
    refine callK.data (hform) (by simp; rfl) (by first | exact D.leGo_refl _ | simp [takeMap, List.map_map, Function.comp_def, D.le, D.le.go, D.le_refl, D.leGo_refl, dNum, dB, dStps, dTimes]) ?_
    refine hK2 _ ?_
    clear hK2 K2
    simp only [putd, upd_lst]
    repeat (refine sxf_next fun K2 hK2 => ?_; simp [dNum, dB, dStps, dTimes]; (repeat (refine ⟨by omega, ?_⟩)); refine hK2 _ ?_; clear hK2 K2)
    refine sxf_nil (hK' _ ?_)
    refine AW.st (by simp [dNum, dB, dStps, dTimes]; rfl) ?_
    clear hK' K'
    refine AW_rg (tyOf_good _) [2, 5, 6, 7] [2] (fun _ _ => trivial) fun K' hK' => ?_
    repeat (refine sxf_next fun K2 hK2 => ?_; simp [dNum, dB, dW, dTimes]; (repeat (refine ⟨by omega, ?_⟩)); refine hK2 _ ?_; clear hK2 K2)
    refine sxf_next fun K2 hK2 => ?_
    simp [dNum, dB, dW, dTimes]
    refine callK.data (hbd) (by simp; rfl) (by first | exact D.leGo_refl _ | simp [takeMap, List.map_map, Function.comp_def, D.le, D.le.go, D.le_refl, D.leGo_refl, dNum, dB, dW, dTimes]) ?_
    refine hK2 _ ?_
    clear hK2 K2
    simp only [putd, upd_lst]
    repeat (refine sxf_next fun K2 hK2 => ?_; simp [dNum, dB, dW, dTimes]; (repeat (refine ⟨by omega, ?_⟩)); refine hK2 _ ?_; clear hK2 K2)
    refine sxf_nil (hK' _ ?_)
    refine AW.st (by simp [dNum, dB, dW, dTimes]; rfl) ?_
    clear hK' K'
    refine AW_then fun K2 hK2 => ?_
    refine AW_rg (tyOf_good _) [2, 5, 6, 44] [2] (fun _ _ => trivial) fun K' hK' => ?_
    repeat (refine sxf_next fun K2 hK2 => ?_; simp [dNum, dB, dErr]; (repeat (refine ⟨by omega, ?_⟩)); refine hK2 _ ?_; clear hK2 K2)
    refine sxf_next fun K2 hK2 => ?_
    simp [dNum, dB, dErr]
    refine callK.data (hla) (by simp; rfl) (by first | exact D.leGo_refl _ | simp [takeMap, List.map_map, Function.comp_def, D.le, D.le.go, D.le_refl, D.leGo_refl, dNum, dB, dErr]) ?_
    refine hK2 _ ?_
    clear hK2 K2
    simp only [putd, upd_lst]
    repeat (refine sxf_next fun K2 hK2 => ?_; simp [dNum, dB, dErr]; (repeat (refine ⟨by omega, ?_⟩)); refine hK2 _ ?_; clear hK2 K2)
    refine sxf_nil (hK' _ ?_)
    refine AW.st (by simp [dNum, dB, dErr]; rfl) ?_
    clear hK' K'
    refine AW_cond true rfl (fun _ => ?_) (fun h => by cases h)
    refine AW_rg (tyOf_good _) [4] [] (fun _ _ => trivial) fun K' hK' => ?_
    repeat (refine sxf_next fun K2 hK2 => ?_; simp [dNum, dB]; (repeat (refine ⟨by omega, ?_⟩)); refine hK2 _ ?_; clear hK2 K2)
    refine sxf_next fun K2 hK2 => ?_
    simp [dNum, dB]
    refine callK.data (hla) (by simp; rfl) (by first | exact D.leGo_refl _ | simp [takeMap, List.map_map, Function.comp_def, D.le, D.le.go, D.le_refl, D.leGo_refl, dNum, dB]) ?_
    refine hK2 _ ?_
    clear hK2 K2
    simp only [putd, upd_lst]
    repeat (refine sxf_next fun K2 hK2 => ?_; simp [dNum, dB]; (repeat (refine ⟨by omega, ?_⟩)); refine hK2 _ ?_; clear hK2 K2)
    refine sxf_nil (hK' _ ?_)
    refine AW.st (by simp [dNum, dB]; rfl) ?_
    clear hK' K'
    refine AW_ret ?_
    simp [D.le, D.le.go, takeMap, dNum, dB]
#print axioms turns_spec
end Go.Proofs.YtoikggboakojlaaDoor

/-
  LassoHolds, the document's side: names of formulas, places, words.
-/
namespace Go.Proofs.YtoikggboakojlaaDoor
set_option linter.unusedSimpArgs false
set_option linter.unusedVariables false
open Go.Av

theorem ofK_ne {α : Type} (l : List α) : D.le (.sl (ofK l) ([] : List (List D))) (.sl none []) := ⟨.inl rfl, rfl⟩

set_option maxHeartbeats 4000000 in
theorem named_spec (G : Glob) : ∀ (n : Nat) (f : Fm), dpF f ≤ n → WfF f → namesOk f → PureC Tryd.prog G 51 [dF f] (dB (nmF f)) := by
  intro n
  induction n with
  | zero =>
    intro f h hw
    cases f with
    | nil => exact hw.elim
    | mk k s l => simp only [dpF] at h; omega
  | succ n ih =>
    intro f hd hw hnm
    cases f with
    | nil => exact hw.elim
    | mk k s l =>
      have hch : ∀ g ∈ l, PureC Tryd.prog G 51 [dF g] (dB (nmF g)) := fun g hg => ih g (by have := dpL_mem hg; simp only [dpF] at hd; omega) (WfL_mem hw.2 g hg) (namesOkL_mem hnm.2 g hg)
      clear ih
      have hlen : l.length ≤ 2 := by
        have h1 := hw.1
        have := arity_two h1.1 h1.2.1
        omega
      have hname := ncheck_spec G s hnm.1
      rw [← name_same] at hname
      refine PureC.of_body (tyOf_good _) Tryd.func51 rfl rfl (rs := [.tmp 2]) Tryd.results51 (by simp [Tryd.ntmps51]) fun X => ?_
      simp only [Tryd.ntmps51, List.map]
      refine AW_rg (tyOf_good _) [0] [] (fun _ _ => trivial) fun K' hK' => ?_
      repeat (refine sxf_next fun K2 hK2 => ?_; simp [dNum, dB, dF, dFs_map]; (repeat (refine ⟨by omega, ?_⟩)); refine hK2 _ ?_; clear hK2 K2)
      refine sxf_nil (hK' _ ?_)
      refine AW.st (by simp [dNum, dB, dF, dFs_map]; rfl) ?_
      clear hK' K'
      refine AW_then fun K1 hK1 => ?_
      refine (fun hcont => ?_) (fun (σ : St) (hh : nmF (.mk k s l) = nmL l) himp => hK1 σ (AW.imp (τ := ⟨lst [(0, .d (.ip [dNum k, dS s, .sl (ofK l) (l.map fun f => [dF f])]))], hlst []⟩) himp ?_))
      · by_cases hk : k = 1
        · subst hk
          cases hn : nameF s with
          | false =>
            rw [hn] at hname
            refine AW_rg (tyOf_good _) [0, 16] [] (fun _ _ => trivial) fun K' hK' => ?_
            repeat (refine sxf_next fun K2 hK2 => ?_; simp [dNum, dB]; (repeat (refine ⟨by omega, ?_⟩)); refine hK2 _ ?_; clear hK2 K2)
            refine sxf_next fun K2 hK2 => ?_
            simp [dNum, dB]
            refine callK.data (hname) (by simp; rfl) (by first | exact D.leGo_refl _ | simp [takeMap, List.map_map, Function.comp_def, D.le, D.le.go, D.le_refl, D.leGo_refl, dNum, dB]) ?_
            refine hK2 _ ?_
            clear hK2 K2
            simp only [putd, upd_lst]
            repeat (refine sxf_next fun K2 hK2 => ?_; simp [dNum, dB]; (repeat (refine ⟨by omega, ?_⟩)); refine hK2 _ ?_; clear hK2 K2)
            refine sxf_nil (hK' _ ?_)
            refine AW.st (by simp [dNum, dB]; rfl) ?_
            clear hK' K'
            refine AW_cond true rfl (fun _ => ?_) (fun h => by cases h)
            refine AW_rg (tyOf_good _) [2] [] (fun _ _ => trivial) fun K' hK' => ?_
            repeat (refine sxf_next fun K2 hK2 => ?_; simp [dNum, dB]; (repeat (refine ⟨by omega, ?_⟩)); refine hK2 _ ?_; clear hK2 K2)
            refine sxf_nil (hK' _ ?_)
            refine AW.st (by simp [dNum, dB]; rfl) ?_
            clear hK' K'
            refine AW_ret ?_
            simp [D.le, D.le.go, takeMap, dNum, dB, nmF, hn]
          | true =>
            rw [hn] at hname
            refine AW_rg (tyOf_good _) [0, 16] [] (fun _ _ => trivial) fun K' hK' => ?_
            repeat (refine sxf_next fun K2 hK2 => ?_; simp [dNum, dB]; (repeat (refine ⟨by omega, ?_⟩)); refine hK2 _ ?_; clear hK2 K2)
            refine sxf_next fun K2 hK2 => ?_
            simp [dNum, dB]
            refine callK.data (hname) (by simp; rfl) (by first | exact D.leGo_refl _ | simp [takeMap, List.map_map, Function.comp_def, D.le, D.le.go, D.le_refl, D.leGo_refl, dNum, dB]) ?_
            refine hK2 _ ?_
            clear hK2 K2
            simp only [putd, upd_lst]
            repeat (refine sxf_next fun K2 hK2 => ?_; simp [dNum, dB]; (repeat (refine ⟨by omega, ?_⟩)); refine hK2 _ ?_; clear hK2 K2)
            refine sxf_nil (hK' _ ?_)
            refine AW.st (by simp [dNum, dB]; rfl) ?_
            clear hK' K'
            refine AW_cond false rfl (fun h => by cases h) (fun _ => ?_)
            refine AW_skip (hcont _ (by simp [nmF, hn]) ?_)
            refine Imp.to' (fun _ _ => trivial) (by simp [dNum, dB]) (by simp [dNum, dB])
        · refine AW_rg (tyOf_good _) [0, 16] [] (fun _ _ => trivial) fun K' hK' => ?_
          repeat (refine sxf_next fun K2 hK2 => ?_; simp [dNum, dB, hk]; (repeat (refine ⟨by omega, ?_⟩)); refine hK2 _ ?_; clear hK2 K2)
          refine sxf_nil (hK' _ ?_)
          refine AW.st (by simp [dNum, dB, hk]; rfl) ?_
          clear hK' K'
          refine AW_cond false rfl (fun h => by cases h) (fun _ => ?_)
          refine AW_skip (hcont _ (by simp [nmF, hk]) ?_)
          refine Imp.to' (fun _ _ => trivial) (by simp [dNum, dB]) (by simp [dNum, dB])
      · rw [hh]
        refine AW_then fun K2 hK2 => ?_
        refine AW_rg (tyOf_good _) [0, 3] [] (fun _ _ => trivial) fun K' hK' => ?_
        repeat (refine sxf_next fun K2 hK2 => ?_; simp [dNum, dB]; (repeat (refine ⟨by omega, ?_⟩)); refine hK2 _ ?_; clear hK2 K2)
        refine sxf_nil (hK' _ ?_)
        refine AW.st (by simp [dNum, dB]; rfl) ?_
        clear hK' K'
        refine AW_for (S := Nat) (fun i => i ≤ l.length ∧ nmL l = nmL (l.drop i)) (fun i => ⟨lst [(0, .d (.ip [dNum k, dS s, .sl (ofK l) (l.map fun f => [dF f])])), (3, int i)], hlst []⟩) (fun i => l.length - i) 0 ?_ ⟨by omega, by simp⟩ ?_
        · refine Imp.to' (fun _ _ => trivial) (by simp [dNum, dB]) (by simp [dNum, dB])
        · rintro i ⟨hi, hr⟩
          refine AW_then fun K3 hK3 => ?_
          refine AW_rg (tyOf_good _) [0, 3, 23] [] (fun _ _ => trivial) fun K' hK' => ?_
          repeat (refine sxf_next fun K2 hK2 => ?_; simp [dNum, dB]; (repeat (refine ⟨by omega, ?_⟩)); refine hK2 _ ?_; clear hK2 K2)
          refine sxf_nil (hK' _ ?_)
          refine AW.st (by simp [dNum, dB]; rfl) ?_
          clear hK' K'
          refine AW_cond' (b := i < l.length) (by simp [D.le, D.le.go, takeMap, dNum, dB]) (fun hc => ?_) (fun hc => ?_)
          · have hil : i < l.length := hc
            have hcc := hch _ (List.getElem_mem hil)
            rw [List.drop_eq_getElem_cons hil, nmL] at hr
            refine AW_skip (hK3 _ ?_)
            refine AW_then fun K4 hK4 => ?_
            refine AW_block ?_
            cases hn : nmF l[i] with
            | false =>
              rw [hn] at hcc hr
              refine AW_rg (tyOf_good _) [0, 3, 34] [] (fun _ _ => trivial) fun K' hK' => ?_
              repeat (refine sxf_next fun K2 hK2 => ?_; simp [dNum, dB, hil]; (repeat (refine ⟨by omega, ?_⟩)); refine hK2 _ ?_; clear hK2 K2)
              refine sxf_next fun K2 hK2 => ?_
              simp [dNum, dB, hil]
              refine callK.data (hcc) (by simp; rfl) (by first | exact D.leGo_refl _ | simp [takeMap, List.map_map, Function.comp_def, D.le, D.le.go, D.le_refl, D.leGo_refl, dNum, dB, hil]) ?_
              refine hK2 _ ?_
              clear hK2 K2
              simp only [putd, upd_lst]
              repeat (refine sxf_next fun K2 hK2 => ?_; simp [dNum, dB, hil]; (repeat (refine ⟨by omega, ?_⟩)); refine hK2 _ ?_; clear hK2 K2)
              refine sxf_nil (hK' _ ?_)
              refine AW.st (by simp [dNum, dB, hil]; rfl) ?_
              clear hK' K'
              refine AW_cond true rfl (fun _ => ?_) (fun h => by cases h)
              refine AW_rg (tyOf_good _) [2] [] (fun _ _ => trivial) fun K' hK' => ?_
              repeat (refine sxf_next fun K2 hK2 => ?_; simp [dNum, dB]; (repeat (refine ⟨by omega, ?_⟩)); refine hK2 _ ?_; clear hK2 K2)
              refine sxf_nil (hK' _ ?_)
              refine AW.st (by simp [dNum, dB]; rfl) ?_
              clear hK' K'
              refine AW_ret ?_
              simp [D.le, D.le.go, takeMap, dNum, dB, hr]
            | true =>
              rw [hn, Bool.true_and] at hr
              rw [hn] at hcc
              refine AW_rg (tyOf_good _) [0, 3, 34] [] (fun _ _ => trivial) fun K' hK' => ?_
              repeat (refine sxf_next fun K2 hK2 => ?_; simp [dNum, dB, hil]; (repeat (refine ⟨by omega, ?_⟩)); refine hK2 _ ?_; clear hK2 K2)
              refine sxf_next fun K2 hK2 => ?_
              simp [dNum, dB, hil]
              refine callK.data (hcc) (by simp; rfl) (by first | exact D.leGo_refl _ | simp [takeMap, List.map_map, Function.comp_def, D.le, D.le.go, D.le_refl, D.leGo_refl, dNum, dB, hil]) ?_
              refine hK2 _ ?_
              clear hK2 K2
              simp only [putd, upd_lst]
              repeat (refine sxf_next fun K2 hK2 => ?_; simp [dNum, dB, hil]; (repeat (refine ⟨by omega, ?_⟩)); refine hK2 _ ?_; clear hK2 K2)
              refine sxf_nil (hK' _ ?_)
              refine AW.st (by simp [dNum, dB, hil]; rfl) ?_
              clear hK' K'
              refine AW_cond false rfl (fun h => by cases h) (fun _ => ?_)
              refine AW_skip ?_
              refine hK4 _ (AW.norm [0, 3] [] (fun _ _ => trivial) (AW.st (by simp [dNum, dB]; rfl) ?_))
              refine AW_re (tyOf_good _) fun K' hK' => ?_
              repeat (refine sxf_next fun K2 hK2 => ?_; simp [dNum, dB]; (repeat (refine ⟨by omega, ?_⟩)); refine hK2 _ ?_; clear hK2 K2)
              refine sxf_nil (hK' _ ?_)
              clear hK' K'
              try simp only [thn, inb]
              refine Again.mk (i + 1) ⟨by omega, hr⟩ (by omega) ?_
              refine Imp.to' (fun _ _ => trivial) (by simp [dNum, dB]) (by simp [dNum, dB])
          · obtain rfl : i = l.length := by omega
            refine AW_exit (hK2 _ ?_)
            rw [hr, List.drop_length]
            refine AW_rg (tyOf_good _) [2] [] (fun _ _ => trivial) fun K' hK' => ?_
            repeat (refine sxf_next fun K2 hK2 => ?_; simp [dNum, dB]; (repeat (refine ⟨by omega, ?_⟩)); refine hK2 _ ?_; clear hK2 K2)
            refine sxf_nil (hK' _ ?_)
            refine AW.st (by simp [dNum, dB]; rfl) ?_
            clear hK' K'
            refine AW_ret ?_
            simp [D.le, D.le.go, takeMap, dNum, dB, nmL]

theorem idx_any2 {α : Type} (p : α → Bool) (l : List α) : decide (0 ≤ idx p l) = l.any p := by
  unfold idx
  cases h : l.findIdx? p with
  | none =>
    rw [List.findIdx?_eq_none_iff] at h
    have : l.any p = false := by rw [List.any_eq_false]; intro x hx; simp [h x hx]
    rw [this]; simp
  | some i =>
    rw [List.findIdx?_eq_some_iff_getElem] at h
    obtain ⟨hi, hp, _⟩ := h
    have : l.any p = true := List.any_eq_true.2 ⟨_, List.getElem_mem hi, hp⟩
    rw [this]; simp
set_option maxHeartbeats 1000000 in
theorem rindex_spec (G : Glob) (t : List (List UInt8)) (s : List UInt8) (hs : s ≠ []) (ht : t.length < 2^60) : PureC Tryd.prog G 79 [dNames t, dS s] (dNum (idx (fun x => x == s) t)) := by
  have hs0 : s.isEmpty = false := by rw [List.isEmpty_eq_false_iff]; exact hs
  refine PureC.of_body (tyOf_good _) Tryd.func79 rfl rfl (rs := [.tmp 4]) Tryd.results79 (by simp [Tryd.ntmps79]) fun X => ?_
  simp only [Tryd.ntmps79, List.map]
  refine AW_rg (tyOf_good _) [0, 1] [] (fun _ _ => trivial) fun K' hK' => ?_
  repeat (refine sxf_next fun K2 hK2 => ?_; simp [dNum, dB]; (repeat (refine ⟨by omega, ?_⟩)); refine hK2 _ ?_; clear hK2 K2)
  refine sxf_nil (hK' _ ?_)
  refine AW.st (by simp [dNum, dB]; rfl) ?_
  clear hK' K'
  refine AW_then fun K1 hK1 => ?_
  refine AW_rg (tyOf_good _) [1, 7, 8, 9] [] (fun _ _ => trivial) fun K' hK' => ?_
  repeat (refine sxf_next fun K2 hK2 => ?_; simp [dNum, dB, dNames]; (repeat (refine ⟨by omega, ?_⟩)); refine hK2 _ ?_; clear hK2 K2)
  refine sxf_nil (hK' _ ?_)
  refine AW.st (by simp [dNum, dB, dNames]; rfl) ?_
  clear hK' K'
  refine AW_for (S := Nat) (fun n => n ≤ t.length ∧ ∀ i (hi : i < t.length), i < n → (t[i] == s) = false) (fun n => ⟨lst [(1, .d (dS s)), (7, .d (dNames t)), (8, int t.length), (9, int n)], hlst []⟩) (fun n => t.length - n) 0 ?_ (by simp) ?_
  · refine Imp.to' (fun _ _ => trivial) (by simp [dNum, dB, dNames]) (by simp [dNum, dB, dNames])
  · rintro n ⟨hn, hp⟩
    refine AW_rg (tyOf_good _) [1, 7, 8, 9, 10] [] (fun _ _ => trivial) fun K' hK' => ?_
    repeat (refine sxf_next fun K2 hK2 => ?_; simp [dNum, dB]; (repeat (refine ⟨by omega, ?_⟩)); refine hK2 _ ?_; clear hK2 K2)
    refine sxf_nil (hK' _ ?_)
    refine AW.st (by simp [dNum, dB]; rfl) ?_
    clear hK' K'
    refine AW_then fun K2 hK2 => ?_
    refine AW_cond' (b := n < t.length) (by simp [D.le, D.le.go, takeMap, dNum, dB]) (fun hc => ?_) (fun hc => ?_)
    · have hnt : n < t.length := hc
      refine AW_skip (hK2 _ ?_)
      refine AW_then fun K3 hK3 => ?_
      refine AW_block ?_
      refine AW_rg (tyOf_good _) [1, 5, 6, 7, 8, 9] [] (fun _ _ => trivial) fun K' hK' => ?_
      repeat (refine sxf_next fun K2 hK2 => ?_; simp [dNum, dB, dNames, hnt]; (repeat (refine ⟨by omega, ?_⟩)); refine hK2 _ ?_; clear hK2 K2)
      refine sxf_nil (hK' _ ?_)
      refine AW.st (by simp [dNum, dB, dNames, hnt]; rfl) ?_
      clear hK' K'
      cases he : (t[n] == s) with
      | true =>
        have he2 : t[n] = s := by simpa using he
        refine AW_rg (tyOf_good _) [1, 5, 7, 8, 9, 20] [] (fun _ _ => trivial) fun K' hK' => ?_
        repeat (refine sxf_next fun K2 hK2 => ?_; simp [dNum, dB, dS, he2, binS, bs_nil, bs_list, hs, hs0]; (repeat (refine ⟨by omega, ?_⟩)); refine hK2 _ ?_; clear hK2 K2)
        refine sxf_nil (hK' _ ?_)
        refine AW.st (by simp [dNum, dB, dS, he2, binS, bs_nil, bs_list, hs, hs0]; rfl) ?_
        clear hK' K'
        refine AW_cond true rfl (fun _ => ?_) (fun h => by cases h)
        refine AW_rg (tyOf_good _) [4] [] (fun _ _ => trivial) fun K' hK' => ?_
        repeat (refine sxf_next fun K2 hK2 => ?_; simp [dNum, dB]; (repeat (refine ⟨by omega, ?_⟩)); refine hK2 _ ?_; clear hK2 K2)
        refine sxf_nil (hK' _ ?_)
        refine AW.st (by simp [dNum, dB]; rfl) ?_
        clear hK' K'
        refine AW_ret ?_
        simp [D.le, D.le.go, takeMap, dNum, dB]
        exact (idx_hit hnt he fun i hi => hp i (by omega) hi).symm
      | false =>
        have he2 : ¬ t[n] = s := by simpa using he
        refine AW_rg (tyOf_good _) [1, 5, 7, 8, 9, 20] [] (fun _ _ => trivial) fun K' hK' => ?_
        repeat (refine sxf_next fun K2 hK2 => ?_; simp [dNum, dB, dS, he, he2, binS, bs_nil, bs_list]; (repeat (refine ⟨by omega, ?_⟩)); refine hK2 _ ?_; clear hK2 K2)
        refine sxf_nil (hK' _ ?_)
        refine AW.st (by simp [dNum, dB, dS, he, he2, binS, bs_nil, bs_list]; rfl) ?_
        clear hK' K'
        refine AW_cond false rfl (fun h => by cases h) (fun _ => ?_)
        refine AW_skip ?_
        refine hK3 _ (AW.norm [1, 7, 8, 9] [] (fun _ _ => trivial) (AW.st (by simp [dNum, dB]; rfl) ?_))
        refine AW_re (tyOf_good _) fun K' hK' => ?_
        repeat (refine sxf_next fun K2 hK2 => ?_; simp [dNum, dB]; (repeat (refine ⟨by omega, ?_⟩)); refine hK2 _ ?_; clear hK2 K2)
        refine sxf_nil (hK' _ ?_)
        clear hK' K'
        try simp only [thn, inb]
        refine Again.mk (n + 1) ⟨by omega, fun i hi hin => ?_⟩ (by omega) ?_
        · by_cases h : i = n
          · subst h; exact he
          · exact hp i hi (by omega)
        refine Imp.to' (fun _ _ => trivial) (by simp [dNum, dB, dNames, dS]) (by simp [dNum, dB, dNames, dS])
    · refine AW_exit (hK1 _ ?_)
      refine AW_rg (tyOf_good _) [4] [] (fun _ _ => trivial) fun K' hK' => ?_
      repeat (refine sxf_next fun K2 hK2 => ?_; simp [dNum, dB]; (repeat (refine ⟨by omega, ?_⟩)); refine hK2 _ ?_; clear hK2 K2)
      refine sxf_nil (hK' _ ?_)
      refine AW.st (by simp [dNum, dB]; rfl) ?_
      clear hK' K'
      refine AW_ret ?_
      simp [D.le, D.le.go, takeMap, dNum, dB]
      exact (idx_miss fun i hi => hp i hi (by omega)).symm

theorem fold_spec (G : Glob) (a r : Times) (k : Nat) (hr : 0 < r.length) (ha : a.length + r.length < 2^40) (hk : k < 2^40) : PureC Tryd.prog G 78 [dNum k, .ip [dNum a.length], .ip [dTimes a, dTimes r]] (dNum (foldF a.length r.length k)) := by
  refine PureC.of_body (tyOf_good _) Tryd.func78 rfl rfl (rs := [.tmp 4]) Tryd.results78 (by simp [Tryd.ntmps78]) fun X => ?_
  simp only [Tryd.ntmps78, List.map]
  refine AW_rg (tyOf_good _) [0, 1, 2] [] (fun _ _ => trivial) fun K' hK' => ?_
  repeat (refine sxf_next fun K2 hK2 => ?_; simp [dNum, dB]; (repeat (refine ⟨by omega, ?_⟩)); refine hK2 _ ?_; clear hK2 K2)
  refine sxf_nil (hK' _ ?_)
  refine AW.st (by simp [dNum, dB]; rfl) ?_
  clear hK' K'
  refine AW_then fun K1 hK1 => ?_
  by_cases h : k < a.length + r.length
  · have h' : (k : Int) < (a.length : Int) + (r.length : Int) := by omega
    refine AW_rg (tyOf_good _) [0, 1, 2, 11] [] (fun _ _ => trivial) fun K' hK' => ?_
    repeat (refine sxf_next fun K2 hK2 => ?_; simp [dNum, dB, dTimes, h']; (repeat (refine ⟨by omega, ?_⟩)); refine hK2 _ ?_; clear hK2 K2)
    refine sxf_nil (hK' _ ?_)
    refine AW.st (by simp [dNum, dB, dTimes, h']; rfl) ?_
    clear hK' K'
    refine AW_cond true rfl (fun _ => ?_) (fun h => by cases h)
    refine AW_rg (tyOf_good _) [4] [] (fun _ _ => trivial) fun K' hK' => ?_
    repeat (refine sxf_next fun K2 hK2 => ?_; simp [dNum, dB]; (repeat (refine ⟨by omega, ?_⟩)); refine hK2 _ ?_; clear hK2 K2)
    refine sxf_nil (hK' _ ?_)
    refine AW.st (by simp [dNum, dB]; rfl) ?_
    clear hK' K'
    refine AW_ret ?_
    simp [D.le, D.le.go, takeMap, dNum, dB, foldF_id h]
  · have h' : ¬ (k : Int) < (a.length : Int) + (r.length : Int) := by omega
    have hr0 : ¬ r.length = 0 := by omega
    have e1 : (k : Int) - (a.length : Int) = ((k - a.length : Nat) : Int) := by omega
    have ht : ((k - a.length : Nat) : Int).tmod (r.length : Int) = ((k - a.length) % r.length : Nat) := by
      rw [Int.tmod_eq_emod_of_nonneg (by omega)]
      simp
    have hf : (foldF a.length r.length k : Int) = (a.length : Int) + ((k - a.length) % r.length : Nat) := by
      unfold foldF
      rw [if_neg h]
      omega
    have hml := Nat.mod_lt (k - a.length) hr
    rw [hf]
    refine AW_rg (tyOf_good _) [0, 1, 2, 11] [] (fun _ _ => trivial) fun K' hK' => ?_
    repeat (refine sxf_next fun K2 hK2 => ?_; simp [dNum, dB, dTimes, h']; (repeat (refine ⟨by omega, ?_⟩)); refine hK2 _ ?_; clear hK2 K2)
    refine sxf_nil (hK' _ ?_)
    refine AW.st (by simp [dNum, dB, dTimes, h']; rfl) ?_
    clear hK' K'
    refine AW_cond false rfl (fun h => by cases h) (fun _ => ?_)
    refine AW_skip (hK1 _ ?_)
    generalize (k - a.length) % r.length = q at *
    refine AW_rd (tyOf_good _) (by kernel_rfl) [4] [] (fun _ _ => trivial) (by kernel_rfl) fun K' hK' => ?_
    repeat (refine sxd_next fun K2 hK2 => ?_; simp [dNum, dB, dTimes, hr0, e1, ht]; (repeat (refine ⟨by omega, ?_⟩)); refine hK2 _ ?_; clear hK2 K2)
    refine sxd_nil (hK' _ ?_)
    refine AW.st (by simp [dNum, dB, dTimes, hr0, e1, ht]; rfl) ?_
    clear hK' K'
    refine AW_ret ?_
    simp [D.le, D.le.go, takeMap, dNum, dB]
    exact hf.symm

set_option maxHeartbeats 4000000 in
theorem lwcheck_spec (G : Glob) (a r : Times) (hs : Small a r) : PureC Tryd.prog G 50 [dW a r] (dNum (wordE a r)) := by
  have hsl := hs.len
  have hst := hs.times
  have hsn := hs.names
  by_cases h1 : r.length = 0
  · have hw : wordE a r = 4 := by unfold wordE; rw [if_pos (.inl (by omega))]
    rw [hw]
    refine PureC.of_body (tyOf_good _) Tryd.func50 rfl rfl (rs := [.tmp 2]) Tryd.results50 (by simp [Tryd.ntmps50]) fun X => ?_
    simp only [Tryd.ntmps50, List.map]
    refine AW_rg (tyOf_good _) [1] [1] (fun _ _ => trivial) fun K' hK' => ?_
    repeat (refine sxf_next fun K2 hK2 => ?_; simp [dNum, dB, dW]; (repeat (refine ⟨by omega, ?_⟩)); refine hK2 _ ?_; clear hK2 K2)
    refine sxf_nil (hK' _ ?_)
    refine AW.st (by simp [dNum, dB, dW]; rfl) ?_
    clear hK' K'
    refine AW_then fun K1 hK1 => ?_
    refine AW_rg (tyOf_good _) [1, 20] [1] (fun _ _ => trivial) fun K' hK' => ?_
    repeat (refine sxf_next fun K2 hK2 => ?_; simp [dNum, dB, dTimes, h1]; (repeat (refine ⟨by omega, ?_⟩)); refine hK2 _ ?_; clear hK2 K2)
    refine sxf_nil (hK' _ ?_)
    refine AW.st (by simp [dNum, dB, dTimes, h1]; rfl) ?_
    clear hK' K'
    refine AW_cond true rfl (fun _ => ?_) (fun h => by cases h)
    refine AW_rg (tyOf_good _) [2] [] (fun _ _ => trivial) fun K' hK' => ?_
    repeat (refine sxf_next fun K2 hK2 => ?_; simp [dNum, dB]; (repeat (refine ⟨by omega, ?_⟩)); refine hK2 _ ?_; clear hK2 K2)
    refine sxf_nil (hK' _ ?_)
    refine AW.st (by simp [dNum, dB]; rfl) ?_
    clear hK' K'
    refine AW_ret ?_
    simp [D.le, D.le.go, takeMap, dNum, dB]
  by_cases h2 : (60 : Int) < (a.length : Int) + r.length
  · have hw : wordE a r = 4 := by unfold wordE; rw [if_pos (.inr (by omega))]
    rw [hw]
    refine PureC.of_body (tyOf_good _) Tryd.func50 rfl rfl (rs := [.tmp 2]) Tryd.results50 (by simp [Tryd.ntmps50]) fun X => ?_
    simp only [Tryd.ntmps50, List.map]
    refine AW_rg (tyOf_good _) [1] [1] (fun _ _ => trivial) fun K' hK' => ?_
    repeat (refine sxf_next fun K2 hK2 => ?_; simp [dNum, dB, dW]; (repeat (refine ⟨by omega, ?_⟩)); refine hK2 _ ?_; clear hK2 K2)
    refine sxf_nil (hK' _ ?_)
    refine AW.st (by simp [dNum, dB, dW]; rfl) ?_
    clear hK' K'
    refine AW_then fun K1 hK1 => ?_
    refine AW_rg (tyOf_good _) [1, 20] [1] (fun _ _ => trivial) fun K' hK' => ?_
    repeat (refine sxf_next fun K2 hK2 => ?_; simp [dNum, dB, dTimes, h1, h2]; (repeat (refine ⟨by omega, ?_⟩)); refine hK2 _ ?_; clear hK2 K2)
    refine sxf_nil (hK' _ ?_)
    refine AW.st (by simp [dNum, dB, dTimes, h1, h2]; rfl) ?_
    clear hK' K'
    refine AW_cond true rfl (fun _ => ?_) (fun h => by cases h)
    refine AW_rg (tyOf_good _) [2] [] (fun _ _ => trivial) fun K' hK' => ?_
    repeat (refine sxf_next fun K2 hK2 => ?_; simp [dNum, dB]; (repeat (refine ⟨by omega, ?_⟩)); refine hK2 _ ?_; clear hK2 K2)
    refine sxf_nil (hK' _ ?_)
    refine AW.st (by simp [dNum, dB]; rfl) ?_
    clear hK' K'
    refine AW_ret ?_
    simp [D.le, D.le.go, takeMap, dNum, dB]
  have hw : wordE a r = if okTimes (a ++ r) then 0 else 5 := by unfold wordE; rw [if_neg (by omega), okTimes_append]
  have han : a.length ≤ 60 := by omega
  have hrn : r.length ≤ 60 := by omega
  have htka : ∀ g : List (List UInt8) → List D, List.take a.length (a.map g) = a.map g := fun g => List.take_of_length_le (by simp)
  have hXl : (a ++ r).length ≤ 60 := by rw [List.length_append]; omega
  refine PureC.of_body (tyOf_good _) Tryd.func50 rfl rfl (rs := [.tmp 2]) Tryd.results50 (by simp [Tryd.ntmps50]) fun X => ?_
  simp only [Tryd.ntmps50, List.map]
  refine AW_rg (tyOf_good _) [1] [1] (fun _ _ => trivial) fun K' hK' => ?_
  repeat (refine sxf_next fun K2 hK2 => ?_; simp [dNum, dB, dW]; (repeat (refine ⟨by omega, ?_⟩)); refine hK2 _ ?_; clear hK2 K2)
  refine sxf_nil (hK' _ ?_)
  refine AW.st (by simp [dNum, dB, dW]; rfl) ?_
  clear hK' K'
  refine AW_then fun K1 hK1 => ?_
  refine AW_rg (tyOf_good _) [1, 20] [1] (fun _ _ => trivial) fun K' hK' => ?_
  repeat (refine sxf_next fun K2 hK2 => ?_; simp [dNum, dB, dTimes, h1, h2]; (repeat (refine ⟨by omega, ?_⟩)); refine hK2 _ ?_; clear hK2 K2)
  refine sxf_nil (hK' _ ?_)
  refine AW.st (by simp [dNum, dB, dTimes, h1, h2]; rfl) ?_
  clear hK' K'
  refine AW_cond false rfl (fun h => by cases h) (fun _ => ?_)
  refine AW_skip (hK1 _ ?_)
  refine AW_then fun K2 hK2 => ?_
  refine AW_rl (tyOf_good _) (by kernel_rfl) ([(3, (21, 999)), (6, (21, 999))]) ([(1, [21]), (2, [21]), (4, [21]), (5, [21]), (8, [21])]) ([1, 2, 4, 5, 8, 0, 3, 6, 7]) [27, 28, 29] [21] (fun _ _ => trivial) (by kernel_rfl) fun K' hK' => ?_
  repeat (refine sxl_nextO rfl fun K2 hK2 => ?_; simp [dNum, dB, dTimes, dNames, htka]; (repeat (refine ⟨by omega, ?_⟩)); refine hK2 _ ?_; clear hK2 K2)
  refine sxl_nilO (hK' _ ?_)
  refine AW.st (by simp [dNum, dB, dTimes, dNames, htka]; rfl) ?_
  clear hK' K'
  refine AW.imp (Imp.freeze 21 trivial) ?_
  refine AW.st (by simp [dNum, dB]; rfl) ?_
  generalize hX : a ++ r = X at *
  refine AW.st (show _ = (⟨lst [(27, .d (dTimes X)), (28, int X.length), (29, int (0 : Nat))], hlst []⟩ : St) by subst hX; simp [dTimes, dNames]) ?_
  have hbad : okTimes X = false → wordE a r = 5 := fun h => by rw [hw, h]; rfl
  have hgood : okTimes X = true → wordE a r = 0 := fun h => by rw [hw, h]; rfl
  refine AW_for (S := Nat) (fun i => i ≤ X.length ∧ ∀ q (h : q < X.length), q < i → X[q].all nameF = true) (fun i => ⟨lst [(27, .d (dTimes X)), (28, int X.length), (29, int i)], hlst []⟩) (fun i => X.length - i) 0 ?_ ⟨Nat.zero_le _, fun q h hq => by omega⟩ ?_
  · refine Imp.to' (fun _ _ => trivial) (by simp [dNum, dB, dTimes]) (by simp [dNum, dB, dTimes])
  · rintro i ⟨hi, hio⟩
    refine AW_rg (tyOf_good _) [27, 28, 29, 30] [] (fun _ _ => trivial) fun K' hK' => ?_
    repeat (refine sxf_next fun K2 hK2 => ?_; simp [dNum, dB]; (repeat (refine ⟨by omega, ?_⟩)); refine hK2 _ ?_; clear hK2 K2)
    refine sxf_nil (hK' _ ?_)
    refine AW.st (by simp [dNum, dB]; rfl) ?_
    clear hK' K'
    refine AW_then fun K3 hK3 => ?_
    refine AW_cond' (b := i < X.length) (by simp [D.le, D.le.go, takeMap, dNum, dB]) (fun hc => ?_) (fun hc => ?_)
    · have hil : i < X.length := hc
      have ht1 := hst _ (List.getElem_mem hil)
      have ht2 := hsn _ (List.getElem_mem hil)
      have ht3 : ∀ m (hm : m < X[i].length), nameF X[i][m] = false → wordE a r = 5 := fun m hm h => hbad (okTimes_bad hil hm h)
      refine AW_skip (hK3 _ ?_)
      refine AW_then fun K4 hK4 => ?_
      refine AW_block ?_
      refine AW_rg (tyOf_good _) [4, 27, 28, 29] [] (fun _ _ => trivial) fun K' hK' => ?_
      repeat (refine sxf_next fun K2 hK2 => ?_; simp [dNum, dB, dTimes, hil]; (repeat (refine ⟨by omega, ?_⟩)); refine hK2 _ ?_; clear hK2 K2)
      refine sxf_nil (hK' _ ?_)
      refine AW.st (by simp [dNum, dB, dTimes, hil]; rfl) ?_
      clear hK' K'
      refine AW_rg (tyOf_good _) [27, 28, 29, 33, 34, 35] [] (fun _ _ => trivial) fun K' hK' => ?_
      repeat (refine sxf_next fun K2 hK2 => ?_; simp [dNum, dB, dNames]; (repeat (refine ⟨by omega, ?_⟩)); refine hK2 _ ?_; clear hK2 K2)
      refine sxf_nil (hK' _ ?_)
      refine AW.st (by simp [dNum, dB, dNames]; rfl) ?_
      clear hK' K'
      generalize hte : X[i] = t at ht1 ht2 ht3
      refine AW_for (S := Nat) (fun m => m ≤ t.length ∧ ∀ q (h : q < t.length), q < m → nameF t[q] = true) (fun m => ⟨lst [(27, .d (dTimes X)), (28, int X.length), (29, int i), (33, .d (dNames t)), (34, int t.length), (35, int m)], hlst []⟩) (fun m => t.length - m) 0 ?_ ⟨Nat.zero_le _, fun q h hq => by omega⟩ ?_
      · refine Imp.to' (fun _ _ => trivial) (by simp [dNum, dB, dTimes, dNames]) (by simp [dNum, dB, dTimes, dNames])
      · rintro m ⟨hm, hmo⟩
        refine AW_rg (tyOf_good _) [27, 28, 29, 33, 34, 35, 36] [] (fun _ _ => trivial) fun K' hK' => ?_
        repeat (refine sxf_next fun K2 hK2 => ?_; simp [dNum, dB, dNames]; (repeat (refine ⟨by omega, ?_⟩)); refine hK2 _ ?_; clear hK2 K2)
        refine sxf_nil (hK' _ ?_)
        refine AW.st (by simp [dNum, dB, dNames]; rfl) ?_
        clear hK' K'
        refine AW_then fun K5 hK5 => ?_
        refine AW_cond' (b := m < t.length) (by simp [D.le, D.le.go, takeMap, dNum, dB]) (fun hc => ?_) (fun hc => ?_)
        · have hml : m < t.length := hc
          have hname := ncheck_spec G t[m] (ht2 _ (List.getElem_mem hml))
          rw [← name_same] at hname
          have hnb := ht3 m hml
          refine AW_skip (hK5 _ ?_)
          refine AW_then fun K6 hK6 => ?_
          refine AW_block ?_
          refine AW_rg (tyOf_good _) [6, 27, 28, 29, 33, 34, 35] [] (fun _ _ => trivial) fun K' hK' => ?_
          repeat (refine sxf_next fun K2 hK2 => ?_; simp [dNum, dB, dNames, hml, dS]; (repeat (refine ⟨by omega, ?_⟩)); refine hK2 _ ?_; clear hK2 K2)
          refine sxf_nil (hK' _ ?_)
          refine AW.st (by simp [dNum, dB, dNames, hml, dS]; rfl) ?_
          clear hK' K'
          cases hn : nameF t[m] with
          | false =>
            rw [hn] at hname
            refine AW_rg (tyOf_good _) [27, 28, 29, 33, 34, 35, 41] [] (fun _ _ => trivial) fun K' hK' => ?_
            repeat (refine sxf_next fun K2 hK2 => ?_; simp [dNum, dB, dS]; (repeat (refine ⟨by omega, ?_⟩)); refine hK2 _ ?_; clear hK2 K2)
            refine sxf_next fun K2 hK2 => ?_
            simp [dNum, dB, dS]
            refine callK.data (hname) (by simp; rfl) (by first | exact D.leGo_refl _ | simp [takeMap, List.map_map, Function.comp_def, D.le, D.le.go, D.le_refl, D.leGo_refl, dNum, dB, dS]) ?_
            refine hK2 _ ?_
            clear hK2 K2
            simp only [putd, upd_lst]
            repeat (refine sxf_next fun K2 hK2 => ?_; simp [dNum, dB, dS]; (repeat (refine ⟨by omega, ?_⟩)); refine hK2 _ ?_; clear hK2 K2)
            refine sxf_nil (hK' _ ?_)
            refine AW.st (by simp [dNum, dB, dS]; rfl) ?_
            clear hK' K'
            refine AW_cond true rfl (fun _ => ?_) (fun h => by cases h)
            refine AW_rg (tyOf_good _) [2] [] (fun _ _ => trivial) fun K' hK' => ?_
            repeat (refine sxf_next fun K2 hK2 => ?_; simp [dNum, dB]; (repeat (refine ⟨by omega, ?_⟩)); refine hK2 _ ?_; clear hK2 K2)
            refine sxf_nil (hK' _ ?_)
            refine AW.st (by simp [dNum, dB]; rfl) ?_
            clear hK' K'
            rw [hnb hn]
            refine AW_ret ?_
            simp [D.le, D.le.go, takeMap, dNum, dB]
          | true =>
            rw [hn] at hname
            refine AW_rg (tyOf_good _) [27, 28, 29, 33, 34, 35, 41] [] (fun _ _ => trivial) fun K' hK' => ?_
            repeat (refine sxf_next fun K2 hK2 => ?_; simp [dNum, dB, dS]; (repeat (refine ⟨by omega, ?_⟩)); refine hK2 _ ?_; clear hK2 K2)
            refine sxf_next fun K2 hK2 => ?_
            simp [dNum, dB, dS]
            refine callK.data (hname) (by simp; rfl) (by first | exact D.leGo_refl _ | simp [takeMap, List.map_map, Function.comp_def, D.le, D.le.go, D.le_refl, D.leGo_refl, dNum, dB, dS]) ?_
            refine hK2 _ ?_
            clear hK2 K2
            simp only [putd, upd_lst]
            repeat (refine sxf_next fun K2 hK2 => ?_; simp [dNum, dB, dS]; (repeat (refine ⟨by omega, ?_⟩)); refine hK2 _ ?_; clear hK2 K2)
            refine sxf_nil (hK' _ ?_)
            refine AW.st (by simp [dNum, dB, dS]; rfl) ?_
            clear hK' K'
            refine AW_cond false rfl (fun h => by cases h) (fun _ => ?_)
            refine AW_skip ?_
            refine hK6 _ (AW.norm [27, 28, 29, 33, 34, 35] [] (fun _ _ => trivial) (AW.st (by simp [dNum, dB]; rfl) ?_))
            refine AW_re (tyOf_good _) fun K' hK' => ?_
            repeat (refine sxf_next fun K2 hK2 => ?_; simp [dNum, dB]; (repeat (refine ⟨by omega, ?_⟩)); refine hK2 _ ?_; clear hK2 K2)
            refine sxf_nil (hK' _ ?_)
            clear hK' K'
            try simp only [thn, inb]
            refine Again.mk (m + 1) ⟨by omega, fun q h hq => ?_⟩ (by omega) ?_
            · by_cases e : q = m
              · subst e; exact hn
              · exact hmo q h (by omega)
            refine Imp.to' (fun _ _ => trivial) (by simp [dNum, dB, dTimes, dNames, dS]) (by simp [dNum, dB, dTimes, dNames, dS])
        · obtain rfl : m = t.length := by omega
          refine AW_exit (hK4 _ ?_)
          refine AW_re (tyOf_good _) fun K' hK' => ?_
          repeat (refine sxf_next fun K2 hK2 => ?_; simp [dNum, dB]; (repeat (refine ⟨by omega, ?_⟩)); refine hK2 _ ?_; clear hK2 K2)
          refine sxf_nil (hK' _ ?_)
          clear hK' K'
          try simp only [thn, inb]
          refine Again.mk (i + 1) ⟨by omega, fun q h hq => ?_⟩ (by omega) ?_
          · by_cases e : q = i
            · subst e
              rw [hte]
              refine List.all_eq_true.2 fun x hx => ?_
              obtain ⟨j, hj, rfl⟩ := List.getElem_of_mem hx
              exact hmo j hj hj
            · exact hio q h (by omega)
          refine Imp.to' (fun _ _ => trivial) (by simp [dNum, dB, dTimes, dNames]) (by simp [dNum, dB, dTimes, dNames])
    · obtain rfl : i = X.length := by omega
      refine AW_exit (hK2 _ ?_)
      rw [hgood (List.all_eq_true.2 fun x hx => by obtain ⟨j, hj, rfl⟩ := List.getElem_of_mem hx; exact hio j hj hj)]
      refine AW_rg (tyOf_good _) [2] [] (fun _ _ => trivial) fun K' hK' => ?_
      repeat (refine sxf_next fun K2 hK2 => ?_; simp [dNum, dB]; (repeat (refine ⟨by omega, ?_⟩)); refine hK2 _ ?_; clear hK2 K2)
      refine sxf_nil (hK' _ ?_)
      refine AW.st (by simp [dNum, dB]; rfl) ?_
      clear hK' K'
      refine AW_ret ?_
      simp [D.le, D.le.go, takeMap, dNum, dB]
#print axioms lwcheck_spec
#print axioms named_spec
end Go.Proofs.YtoikggboakojlaaDoor

/-
  LassoHolds, the document's side: at which times a formula holds.
-/
namespace Go.Proofs.YtoikggboakojlaaDoor
set_option linter.unusedSimpArgs false
set_option linter.unusedVariables false
open Go.Av

theorem atB_get (a r : Times) (k : Int) (s : List UInt8) (l : List Fm) {i : Nat} (hi : i < a.length + r.length) : atB (holdsF a r (.mk k s l)) i = valF a r k s (holdsL a r l) i := holds_get a r k s l hi

set_option maxHeartbeats 16000000 in
theorem at_time (G : Glob) (a r : Times) (hr : 0 < r.length) (hN : a.length + r.length < 2^20) (hT : ∀ t ∈ a ++ r, t.length < 2^60) : ∀ (n : Nat) (f : Fm), dpF f ≤ n → WfF f → nmF f = true → ∀ i, i < a.length + r.length →
    PureC Tryd.prog G 52 [dF f, dW a r, dNum i] (dB (atB (holdsF a r f) i)) := by
  intro n
  induction n with
  | zero =>
    intro f h hw
    cases f with
    | nil => exact hw.elim
    | mk k s l => simp only [dpF] at h; omega
  | succ n ih =>
    intro f hd hw hnm i hi
    cases f with
    | nil => exact hw.elim
    | mk k s l =>
      have hch : ∀ g ∈ l, ∀ i, i < a.length + r.length → PureC Tryd.prog G 52 [dF g, dW a r, dNum i] (dB (atB (holdsF a r g) i)) := fun g hg => ih g (by have := dpL_mem hg; simp only [dpF] at hd; omega) (WfL_mem hw.2 g hg) (by simp only [nmF, Bool.and_eq_true] at hnm; exact nmL_mem hnm.2 g hg)
      clear ih
      obtain ⟨hk1, hk10, hlen, hs0⟩ := hw.1
      have hfold := fun k (hk : k < 2^40) => fold_spec G a r k hr (by omega) hk
      have hfl := fun k => foldF_lt (n := a.length) hr k
      obtain ⟨e, he⟩ : ∃ e, max i a.length + 2 * r.length = e := ⟨_, rfl⟩
      have heI : (if i < a.length then (a.length : Int) else (i : Int)) + 2 * (r.length : Int) = (e : Int) := by split <;> omega
      have hie : i ≤ e := by omega
      have he40 : e < 2^22 := by omega
      rw [atB_get a r k s l hi]
      refine PureC.of_body (tyOf_good _) Tryd.func52 rfl rfl (rs := [.tmp 6]) Tryd.results52 (by simp [Tryd.ntmps52]) fun X => ?_
      simp only [Tryd.ntmps52, List.map]
      refine AW_rg (tyOf_good _) [0, 2, 4] [4] (fun _ _ => trivial) fun K' hK' => ?_
      repeat (refine sxf_next fun K2 hK2 => ?_; simp [dNum, dB, dF, dFs_map, dW]; (repeat (refine ⟨by omega, ?_⟩)); refine hK2 _ ?_; clear hK2 K2)
      refine sxf_nil (hK' _ ?_)
      refine AW.st (by simp [dNum, dB, dF, dFs_map, dW]; rfl) ?_
      clear hK' K'
      refine AW_rg (tyOf_good _) [0, 2, 4, 7] [4, 7] (fun _ _ => trivial) fun K' hK' => ?_
      repeat (refine sxf_next fun K2 hK2 => ?_; simp [dNum, dB, dTimes]; (repeat (refine ⟨by omega, ?_⟩)); refine hK2 _ ?_; clear hK2 K2)
      refine sxf_nil (hK' _ ?_)
      refine AW.st (by simp [dNum, dB, dTimes]; rfl) ?_
      clear hK' K'
      refine AW_rg (tyOf_good _) [0, 2, 4, 7, 8] [4, 7] (fun _ _ => trivial) fun K' hK' => ?_
      repeat (refine sxf_next fun K2 hK2 => ?_; simp [dNum, dB]; (repeat (refine ⟨by omega, ?_⟩)); refine hK2 _ ?_; clear hK2 K2)
      refine sxf_nil (hK' _ ?_)
      refine AW.st (by simp [dNum, dB]; rfl) ?_
      clear hK' K'
      refine AW.imp (Imp.freezeB 7 trivial) ?_
      refine AW.st (by simp [dNum, dB]; rfl) ?_
      refine AW.imp (Imp.freezeB 4 trivial) ?_
      refine AW.st (by simp [dNum, dB]; rfl) ?_
      refine AW_rg (tyOf_good _) [0, 2, 4, 8, 9] [] (fun _ _ => trivial) fun K' hK' => ?_
      repeat (refine sxf_next fun K2 hK2 => ?_; simp [dNum, dB, dTimes, heI]; (repeat (refine ⟨by omega, ?_⟩)); refine hK2 _ ?_; clear hK2 K2)
      refine sxf_nil (hK' _ ?_)
      refine AW.st (by simp [dNum, dB, dTimes, heI]; rfl) ?_
      clear hK' K'
      refine AW.st (show _ = (⟨lst [(0, .d (.ip [dNum k, dS s, .sl (ofK l) (l.map fun f => [dF f])])), (2, int i), (4, .d (.ip [dTimes a, dTimes r])), (8, .d (.fn (.func 78) [.ip [dNum a.length], .ip [dTimes a, dTimes r]])), (9, int e)], hlst []⟩ : St) by simp [dTimes, dNum, heI]) ?_
      refine AW_then fun K1 hK1 => ?_
      refine AW_rg (tyOf_good _) [0, 2, 4, 8, 9, 29] [] (fun _ _ => trivial) fun K' hK' => ?_
      repeat (refine sxf_next fun K2 hK2 => ?_; simp [dNum, dB]; (repeat (refine ⟨by omega, ?_⟩)); refine hK2 _ ?_; clear hK2 K2)
      refine sxf_nil (hK' _ ?_)
      refine AW.st (by simp [dNum, dB]; rfl) ?_
      clear hK' K'
      refine AW_block ?_
      have hks : k = 1 ∨ k = 2 ∨ k = 3 ∨ k = 4 ∨ k = 5 ∨ k = 6 ∨ k = 7 ∨ k = 8 ∨ k = 9 ∨ k = 10 := by omega
      rcases hks with rfl | rfl | rfl | rfl | rfl | rfl | rfl | rfl | rfl | rfl
      · have hl0 : l = [] := by cases l with | nil => rfl | cons x y => simp [arityF, arityL] at hlen; omega
        subst hl0
        have hns : nameF s = true := by simpa [nmF, nmL] using hnm
        have hsn := nameF_ne hns
        refine AW_rg (tyOf_good _) [0, 2, 4, 8, 9, 29, 30] [] (fun _ _ => trivial) fun K' hK' => ?_
        repeat (refine sxf_next fun K2 hK2 => ?_; simp [dNum, dB]; (repeat (refine ⟨by omega, ?_⟩)); refine hK2 _ ?_; clear hK2 K2)
        refine sxf_nil (hK' _ ?_)
        refine AW.st (by simp [dNum, dB]; rfl) ?_
        clear hK' K'
        refine AW_cond true rfl (fun _ => ?_) (fun h => by cases h)
        have hcf := hfold i (by omega)
        rw [foldF_id hi] at hcf
        have hiX : i < (a ++ r).length := by rw [List.length_append]; omega
        have hidx := rindex_spec G (a ++ r)[i] s hsn (hT _ (List.getElem_mem hiX))
        have hv : valF a r 1 s (holdsL a r []) i = decide (0 ≤ idx (fun x => x == s) (a ++ r)[i]) := by
          rw [idx_any2]
          simp [valF, List.getD_eq_getElem?_getD, hi]
        have hget : ∀ g : List (List UInt8) → List D, (List.map g a ++ List.map g r)[i]? = some (g (a ++ r)[i]) := fun g => by rw [← List.map_append, List.getElem?_map, List.getElem?_eq_getElem hiX]; rfl
        have hget2 : ∀ (g : List (List UInt8) → List D) (h : i < (List.map g a ++ List.map g r).length), (List.map g a ++ List.map g r)[i]'h = g (a ++ r)[i] := fun g h => by simp only [← List.map_append, List.getElem_map]
        have htka : ∀ g : List (List UInt8) → List D, List.take a.length (a.map g) = a.map g := fun g => List.take_of_length_le (by simp)
        have han : a.length < 2^20 := by omega
        have hrn : r.length < 2^20 := by omega
        refine AW_rl (tyOf_good _) (by kernel_rfl) ([(3, (32, 999)), (6, (32, 999))]) ([(1, [32]), (2, [32]), (4, [32]), (5, [32]), (7, [32]), (8, [32])]) ([1, 2, 4, 5, 7, 8, 0, 3, 6, 9, 10, 11, 12]) [0, 10] [] (fun _ _ => trivial) (by kernel_rfl) fun K' hK' => ?_
        repeat (refine sxl_nextO rfl fun K2 hK2 => ?_; simp [dNum, dB, dTimes, dNames, hget, hget2, hiX, hi, htka]; (repeat (refine ⟨by omega, ?_⟩)); refine hK2 _ ?_; clear hK2 K2)
        refine sxl_nextO rfl fun K2 hK2 => ?_
        simp [dNum, dB, dTimes, dNames, hget, hget2, hiX, hi, htka]
        refine callD.mk (hcf) (by simp; rfl) (by simp; rfl) (by first | exact D.leGo_refl _ | simp [takeMap, List.map_map, Function.comp_def, D.le, D.le.go, D.le_refl, D.leGo_refl, dNum, dB, dTimes, dNames, hget, hget2, hiX, hi, htka]) (by simp) ?_
        refine hK2 _ ?_
        clear hK2 K2
        simp only [putd, upd_lst]
        repeat (refine sxl_nextO rfl fun K2 hK2 => ?_; simp [dNum, dB, dTimes, dNames, hget, hget2, hiX, hi, htka]; (repeat (refine ⟨by omega, ?_⟩)); refine hK2 _ ?_; clear hK2 K2)
        refine sxl_nilO (hK' _ ?_)
        refine AW.st (by simp [dNum, dB, dTimes, dNames, hget, hget2, hiX, hi, htka]; rfl) ?_
        clear hK' K'
        refine AW_rg (tyOf_good _) [6] [] (fun _ _ => trivial) fun K' hK' => ?_
        repeat (refine sxf_next fun K2 hK2 => ?_; simp [dNum, dB]; (repeat (refine ⟨by omega, ?_⟩)); refine hK2 _ ?_; clear hK2 K2)
        refine sxf_next fun K2 hK2 => ?_
        simp [dNum, dB]
        refine callK.data (hidx) (by simp; rfl) (by first | exact D.leGo_refl _ | simp [takeMap, List.map_map, Function.comp_def, D.le, D.le.go, D.le_refl, D.leGo_refl, dNum, dB]) ?_
        refine hK2 _ ?_
        clear hK2 K2
        simp only [putd, upd_lst]
        repeat (refine sxf_next fun K2 hK2 => ?_; simp [dNum, dB]; (repeat (refine ⟨by omega, ?_⟩)); refine hK2 _ ?_; clear hK2 K2)
        refine sxf_nil (hK' _ ?_)
        refine AW.st (by simp [dNum, dB]; rfl) ?_
        clear hK' K'
        refine AW_ret ?_
        simp [D.le, D.le.go, takeMap, dNum, dB, hv]
      · refine AW_rg (tyOf_good _) [0, 2, 4, 8, 9, 29, 30] [] (fun _ _ => trivial) fun K' hK' => ?_
        repeat (refine sxf_next fun K2 hK2 => ?_; simp [dNum, dB]; (repeat (refine ⟨by omega, ?_⟩)); refine hK2 _ ?_; clear hK2 K2)
        refine sxf_nil (hK' _ ?_)
        refine AW.st (by simp [dNum, dB]; rfl) ?_
        clear hK' K'
        refine AW_cond false rfl (fun h => by cases h) (fun _ => ?_)
        refine AW_rg (tyOf_good _) [0, 2, 4, 8, 9, 29, 51] [] (fun _ _ => trivial) fun K' hK' => ?_
        repeat (refine sxf_next fun K2 hK2 => ?_; simp [dNum, dB]; (repeat (refine ⟨by omega, ?_⟩)); refine hK2 _ ?_; clear hK2 K2)
        refine sxf_nil (hK' _ ?_)
        refine AW.st (by simp [dNum, dB]; rfl) ?_
        clear hK' K'
        refine AW_cond true rfl (fun _ => ?_) (fun h => by cases h)
        refine AW_rg (tyOf_good _) [6] [] (fun _ _ => trivial) fun K' hK' => ?_
        repeat (refine sxf_next fun K2 hK2 => ?_; simp [dNum, dB]; (repeat (refine ⟨by omega, ?_⟩)); refine hK2 _ ?_; clear hK2 K2)
        refine sxf_nil (hK' _ ?_)
        refine AW.st (by simp [dNum, dB]; rfl) ?_
        clear hK' K'
        refine AW_ret ?_
        simp [D.le, D.le.go, takeMap, dNum, dB, valF]
      · have hol : l.length = 1 := by simp [arityF, arityL] at hlen; omega
        obtain ⟨f0, rfl⟩ := List.length_eq_one_iff.1 hol
        have hc0 := hch f0 (by simp)
        have hv : valF a r 3 s (holdsL a r [f0]) i = !atB (holdsF a r f0) i := rfl
        rw [hv]
        refine AW_rg (tyOf_good _) [0, 2, 4, 8, 9, 29, 30] [] (fun _ _ => trivial) fun K' hK' => ?_
        repeat (refine sxf_next fun K2 hK2 => ?_; simp [dNum, dB]; (repeat (refine ⟨by omega, ?_⟩)); refine hK2 _ ?_; clear hK2 K2)
        refine sxf_nil (hK' _ ?_)
        refine AW.st (by simp [dNum, dB]; rfl) ?_
        clear hK' K'
        refine AW_cond false rfl (fun h => by cases h) (fun _ => ?_)
        refine AW_rg (tyOf_good _) [0, 2, 4, 8, 9, 29, 51] [] (fun _ _ => trivial) fun K' hK' => ?_
        repeat (refine sxf_next fun K2 hK2 => ?_; simp [dNum, dB]; (repeat (refine ⟨by omega, ?_⟩)); refine hK2 _ ?_; clear hK2 K2)
        refine sxf_nil (hK' _ ?_)
        refine AW.st (by simp [dNum, dB]; rfl) ?_
        clear hK' K'
        refine AW_cond false rfl (fun h => by cases h) (fun _ => ?_)
        refine AW_rg (tyOf_good _) [0, 2, 4, 8, 9, 29, 53] [] (fun _ _ => trivial) fun K' hK' => ?_
        repeat (refine sxf_next fun K2 hK2 => ?_; simp [dNum, dB]; (repeat (refine ⟨by omega, ?_⟩)); refine hK2 _ ?_; clear hK2 K2)
        refine sxf_nil (hK' _ ?_)
        refine AW.st (by simp [dNum, dB]; rfl) ?_
        clear hK' K'
        refine AW_cond true rfl (fun _ => ?_) (fun h => by cases h)
        have hci := hc0 i hi
        refine AW_rd (tyOf_good _) (by kernel_rfl) [6] [] (fun _ _ => trivial) (by kernel_rfl) fun K' hK' => ?_
        repeat (refine sxd_next fun K2 hK2 => ?_; simp [dNum, dB, ofK, dW]; (repeat (refine ⟨by omega, ?_⟩)); refine hK2 _ ?_; clear hK2 K2)
        refine sxd_next fun K2 hK2 => ?_
        simp [dNum, dB, ofK, dW]
        refine callQ.data (hci) (by simp; rfl) (by simp; rfl) (by first | exact D.leGo_refl _ | simp [takeMap, List.map_map, Function.comp_def, D.le, D.le.go, D.le_refl, D.leGo_refl, dNum, dB, ofK, dW]) ?_
        refine hK2 _ ?_
        clear hK2 K2
        simp only [putd, upd_lst]
        repeat (refine sxd_next fun K2 hK2 => ?_; simp [dNum, dB, ofK, dW]; (repeat (refine ⟨by omega, ?_⟩)); refine hK2 _ ?_; clear hK2 K2)
        refine sxd_nil (hK' _ ?_)
        refine AW.st (by simp [dNum, dB, ofK, dW]; rfl) ?_
        clear hK' K'
        refine AW_ret ?_
        simp [D.le, D.le.go, takeMap, dNum, dB]
      · have hol : l.length = 2 := by simp [arityF, arityL] at hlen; omega
        obtain ⟨f0, f1, rfl⟩ : ∃ x y, l = [x, y] := by match l, hol with | [x, y], _ => exact ⟨x, y, rfl⟩
        have hc0 := hch f0 (by simp)
        have hc1 := hch f1 (by simp)
        have hv : valF a r 4 s (holdsL a r [f0, f1]) i = (atB (holdsF a r f0) i && atB (holdsF a r f1) i) := rfl
        rw [hv]
        have hci := hc0 i hi
        have hcj := hc1 i hi
        cases h0 : atB (holdsF a r f0) i with
        | true =>
          rw [h0] at hci
          refine AW_rg (tyOf_good _) [0, 2, 4, 8, 9, 29, 30] [] (fun _ _ => trivial) fun K' hK' => ?_
          repeat (refine sxf_next fun K2 hK2 => ?_; simp [dNum, dB]; (repeat (refine ⟨by omega, ?_⟩)); refine hK2 _ ?_; clear hK2 K2)
          refine sxf_nil (hK' _ ?_)
          refine AW.st (by simp [dNum, dB]; rfl) ?_
          clear hK' K'
          refine AW_cond false rfl (fun h => by cases h) (fun _ => ?_)
          refine AW_rg (tyOf_good _) [0, 2, 4, 8, 9, 29, 51] [] (fun _ _ => trivial) fun K' hK' => ?_
          repeat (refine sxf_next fun K2 hK2 => ?_; simp [dNum, dB]; (repeat (refine ⟨by omega, ?_⟩)); refine hK2 _ ?_; clear hK2 K2)
          refine sxf_nil (hK' _ ?_)
          refine AW.st (by simp [dNum, dB]; rfl) ?_
          clear hK' K'
          refine AW_cond false rfl (fun h => by cases h) (fun _ => ?_)
          refine AW_rg (tyOf_good _) [0, 2, 4, 8, 9, 29, 53] [] (fun _ _ => trivial) fun K' hK' => ?_
          repeat (refine sxf_next fun K2 hK2 => ?_; simp [dNum, dB]; (repeat (refine ⟨by omega, ?_⟩)); refine hK2 _ ?_; clear hK2 K2)
          refine sxf_nil (hK' _ ?_)
          refine AW.st (by simp [dNum, dB]; rfl) ?_
          clear hK' K'
          refine AW_cond false rfl (fun h => by cases h) (fun _ => ?_)
          refine AW_rg (tyOf_good _) [0, 2, 4, 8, 9, 29, 65] [] (fun _ _ => trivial) fun K' hK' => ?_
          repeat (refine sxf_next fun K2 hK2 => ?_; simp [dNum, dB]; (repeat (refine ⟨by omega, ?_⟩)); refine hK2 _ ?_; clear hK2 K2)
          refine sxf_nil (hK' _ ?_)
          refine AW.st (by simp [dNum, dB]; rfl) ?_
          clear hK' K'
          refine AW_cond true rfl (fun _ => ?_) (fun h => by cases h)
          refine AW_rd (tyOf_good _) (by kernel_rfl) [6] [] (fun _ _ => trivial) (by kernel_rfl) fun K' hK' => ?_
          repeat (refine sxd_next fun K2 hK2 => ?_; simp [dNum, dB, ofK, dW]; (repeat (refine ⟨by omega, ?_⟩)); refine hK2 _ ?_; clear hK2 K2)
          refine sxd_next fun K2 hK2 => ?_
          simp [dNum, dB, ofK, dW]
          refine callQ.data (hci) (by simp; rfl) (by simp; rfl) (by first | exact D.leGo_refl _ | simp [takeMap, List.map_map, Function.comp_def, D.le, D.le.go, D.le_refl, D.leGo_refl, dNum, dB, ofK, dW]) ?_
          refine hK2 _ ?_
          clear hK2 K2
          simp only [putd, upd_lst]
          repeat (refine sxd_next fun K2 hK2 => ?_; simp [dNum, dB, ofK, dW]; (repeat (refine ⟨by omega, ?_⟩)); refine hK2 _ ?_; clear hK2 K2)
          refine sxd_next fun K2 hK2 => ?_
          simp [dNum, dB, ofK, dW]
          refine callQ.data (hcj) (by simp; rfl) (by simp; rfl) (by first | exact D.leGo_refl _ | simp [takeMap, List.map_map, Function.comp_def, D.le, D.le.go, D.le_refl, D.leGo_refl, dNum, dB, ofK, dW]) ?_
          refine hK2 _ ?_
          clear hK2 K2
          simp only [putd, upd_lst]
          repeat (refine sxd_next fun K2 hK2 => ?_; simp [dNum, dB, ofK, dW]; (repeat (refine ⟨by omega, ?_⟩)); refine hK2 _ ?_; clear hK2 K2)
          refine sxd_nil (hK' _ ?_)
          refine AW.st (by simp [dNum, dB, ofK, dW]; rfl) ?_
          clear hK' K'
          refine AW_ret ?_
          simp [D.le, D.le.go, takeMap, dNum, dB]
        | false =>
          rw [h0] at hci
          refine AW_rg (tyOf_good _) [0, 2, 4, 8, 9, 29, 30] [] (fun _ _ => trivial) fun K' hK' => ?_
          repeat (refine sxf_next fun K2 hK2 => ?_; simp [dNum, dB]; (repeat (refine ⟨by omega, ?_⟩)); refine hK2 _ ?_; clear hK2 K2)
          refine sxf_nil (hK' _ ?_)
          refine AW.st (by simp [dNum, dB]; rfl) ?_
          clear hK' K'
          refine AW_cond false rfl (fun h => by cases h) (fun _ => ?_)
          refine AW_rg (tyOf_good _) [0, 2, 4, 8, 9, 29, 51] [] (fun _ _ => trivial) fun K' hK' => ?_
          repeat (refine sxf_next fun K2 hK2 => ?_; simp [dNum, dB]; (repeat (refine ⟨by omega, ?_⟩)); refine hK2 _ ?_; clear hK2 K2)
          refine sxf_nil (hK' _ ?_)
          refine AW.st (by simp [dNum, dB]; rfl) ?_
          clear hK' K'
          refine AW_cond false rfl (fun h => by cases h) (fun _ => ?_)
          refine AW_rg (tyOf_good _) [0, 2, 4, 8, 9, 29, 53] [] (fun _ _ => trivial) fun K' hK' => ?_
          repeat (refine sxf_next fun K2 hK2 => ?_; simp [dNum, dB]; (repeat (refine ⟨by omega, ?_⟩)); refine hK2 _ ?_; clear hK2 K2)
          refine sxf_nil (hK' _ ?_)
          refine AW.st (by simp [dNum, dB]; rfl) ?_
          clear hK' K'
          refine AW_cond false rfl (fun h => by cases h) (fun _ => ?_)
          refine AW_rg (tyOf_good _) [0, 2, 4, 8, 9, 29, 65] [] (fun _ _ => trivial) fun K' hK' => ?_
          repeat (refine sxf_next fun K2 hK2 => ?_; simp [dNum, dB]; (repeat (refine ⟨by omega, ?_⟩)); refine hK2 _ ?_; clear hK2 K2)
          refine sxf_nil (hK' _ ?_)
          refine AW.st (by simp [dNum, dB]; rfl) ?_
          clear hK' K'
          refine AW_cond true rfl (fun _ => ?_) (fun h => by cases h)
          refine AW_rd (tyOf_good _) (by kernel_rfl) [6] [] (fun _ _ => trivial) (by kernel_rfl) fun K' hK' => ?_
          repeat (refine sxd_next fun K2 hK2 => ?_; simp [dNum, dB, ofK, dW]; (repeat (refine ⟨by omega, ?_⟩)); refine hK2 _ ?_; clear hK2 K2)
          refine sxd_next fun K2 hK2 => ?_
          simp [dNum, dB, ofK, dW]
          refine callQ.data (hci) (by simp; rfl) (by simp; rfl) (by first | exact D.leGo_refl _ | simp [takeMap, List.map_map, Function.comp_def, D.le, D.le.go, D.le_refl, D.leGo_refl, dNum, dB, ofK, dW]) ?_
          refine hK2 _ ?_
          clear hK2 K2
          simp only [putd, upd_lst]
          repeat (refine sxd_next fun K2 hK2 => ?_; simp [dNum, dB, ofK, dW]; (repeat (refine ⟨by omega, ?_⟩)); refine hK2 _ ?_; clear hK2 K2)
          refine sxd_nil (hK' _ ?_)
          refine AW.st (by simp [dNum, dB, ofK, dW]; rfl) ?_
          clear hK' K'
          refine AW_ret ?_
          simp [D.le, D.le.go, takeMap, dNum, dB]
      · have hol : l.length = 2 := by simp [arityF, arityL] at hlen; omega
        obtain ⟨f0, f1, rfl⟩ : ∃ x y, l = [x, y] := by match l, hol with | [x, y], _ => exact ⟨x, y, rfl⟩
        have hc0 := hch f0 (by simp)
        have hc1 := hch f1 (by simp)
        have hv : valF a r 5 s (holdsL a r [f0, f1]) i = (atB (holdsF a r f0) i || atB (holdsF a r f1) i) := rfl
        rw [hv]
        have hci := hc0 i hi
        have hcj := hc1 i hi
        cases h0 : atB (holdsF a r f0) i with
        | true =>
          rw [h0] at hci
          refine AW_rg (tyOf_good _) [0, 2, 4, 8, 9, 29, 30] [] (fun _ _ => trivial) fun K' hK' => ?_
          repeat (refine sxf_next fun K2 hK2 => ?_; simp [dNum, dB]; (repeat (refine ⟨by omega, ?_⟩)); refine hK2 _ ?_; clear hK2 K2)
          refine sxf_nil (hK' _ ?_)
          refine AW.st (by simp [dNum, dB]; rfl) ?_
          clear hK' K'
          refine AW_cond false rfl (fun h => by cases h) (fun _ => ?_)
          refine AW_rg (tyOf_good _) [0, 2, 4, 8, 9, 29, 51] [] (fun _ _ => trivial) fun K' hK' => ?_
          repeat (refine sxf_next fun K2 hK2 => ?_; simp [dNum, dB]; (repeat (refine ⟨by omega, ?_⟩)); refine hK2 _ ?_; clear hK2 K2)
          refine sxf_nil (hK' _ ?_)
          refine AW.st (by simp [dNum, dB]; rfl) ?_
          clear hK' K'
          refine AW_cond false rfl (fun h => by cases h) (fun _ => ?_)
          refine AW_rg (tyOf_good _) [0, 2, 4, 8, 9, 29, 53] [] (fun _ _ => trivial) fun K' hK' => ?_
          repeat (refine sxf_next fun K2 hK2 => ?_; simp [dNum, dB]; (repeat (refine ⟨by omega, ?_⟩)); refine hK2 _ ?_; clear hK2 K2)
          refine sxf_nil (hK' _ ?_)
          refine AW.st (by simp [dNum, dB]; rfl) ?_
          clear hK' K'
          refine AW_cond false rfl (fun h => by cases h) (fun _ => ?_)
          refine AW_rg (tyOf_good _) [0, 2, 4, 8, 9, 29, 65] [] (fun _ _ => trivial) fun K' hK' => ?_
          repeat (refine sxf_next fun K2 hK2 => ?_; simp [dNum, dB]; (repeat (refine ⟨by omega, ?_⟩)); refine hK2 _ ?_; clear hK2 K2)
          refine sxf_nil (hK' _ ?_)
          refine AW.st (by simp [dNum, dB]; rfl) ?_
          clear hK' K'
          refine AW_cond false rfl (fun h => by cases h) (fun _ => ?_)
          refine AW_rg (tyOf_good _) [0, 2, 4, 8, 9, 29, 87] [] (fun _ _ => trivial) fun K' hK' => ?_
          repeat (refine sxf_next fun K2 hK2 => ?_; simp [dNum, dB]; (repeat (refine ⟨by omega, ?_⟩)); refine hK2 _ ?_; clear hK2 K2)
          refine sxf_nil (hK' _ ?_)
          refine AW.st (by simp [dNum, dB]; rfl) ?_
          clear hK' K'
          refine AW_cond true rfl (fun _ => ?_) (fun h => by cases h)
          refine AW_rd (tyOf_good _) (by kernel_rfl) [6] [] (fun _ _ => trivial) (by kernel_rfl) fun K' hK' => ?_
          repeat (refine sxd_next fun K2 hK2 => ?_; simp [dNum, dB, ofK, dW]; (repeat (refine ⟨by omega, ?_⟩)); refine hK2 _ ?_; clear hK2 K2)
          refine sxd_next fun K2 hK2 => ?_
          simp [dNum, dB, ofK, dW]
          refine callQ.data (hci) (by simp; rfl) (by simp; rfl) (by first | exact D.leGo_refl _ | simp [takeMap, List.map_map, Function.comp_def, D.le, D.le.go, D.le_refl, D.leGo_refl, dNum, dB, ofK, dW]) ?_
          refine hK2 _ ?_
          clear hK2 K2
          simp only [putd, upd_lst]
          repeat (refine sxd_next fun K2 hK2 => ?_; simp [dNum, dB, ofK, dW]; (repeat (refine ⟨by omega, ?_⟩)); refine hK2 _ ?_; clear hK2 K2)
          refine sxd_nil (hK' _ ?_)
          refine AW.st (by simp [dNum, dB, ofK, dW]; rfl) ?_
          clear hK' K'
          refine AW_ret ?_
          simp [D.le, D.le.go, takeMap, dNum, dB]
        | false =>
          rw [h0] at hci
          refine AW_rg (tyOf_good _) [0, 2, 4, 8, 9, 29, 30] [] (fun _ _ => trivial) fun K' hK' => ?_
          repeat (refine sxf_next fun K2 hK2 => ?_; simp [dNum, dB]; (repeat (refine ⟨by omega, ?_⟩)); refine hK2 _ ?_; clear hK2 K2)
          refine sxf_nil (hK' _ ?_)
          refine AW.st (by simp [dNum, dB]; rfl) ?_
          clear hK' K'
          refine AW_cond false rfl (fun h => by cases h) (fun _ => ?_)
          refine AW_rg (tyOf_good _) [0, 2, 4, 8, 9, 29, 51] [] (fun _ _ => trivial) fun K' hK' => ?_
          repeat (refine sxf_next fun K2 hK2 => ?_; simp [dNum, dB]; (repeat (refine ⟨by omega, ?_⟩)); refine hK2 _ ?_; clear hK2 K2)
          refine sxf_nil (hK' _ ?_)
          refine AW.st (by simp [dNum, dB]; rfl) ?_
          clear hK' K'
          refine AW_cond false rfl (fun h => by cases h) (fun _ => ?_)
          refine AW_rg (tyOf_good _) [0, 2, 4, 8, 9, 29, 53] [] (fun _ _ => trivial) fun K' hK' => ?_
          repeat (refine sxf_next fun K2 hK2 => ?_; simp [dNum, dB]; (repeat (refine ⟨by omega, ?_⟩)); refine hK2 _ ?_; clear hK2 K2)
          refine sxf_nil (hK' _ ?_)
          refine AW.st (by simp [dNum, dB]; rfl) ?_
          clear hK' K'
          refine AW_cond false rfl (fun h => by cases h) (fun _ => ?_)
          refine AW_rg (tyOf_good _) [0, 2, 4, 8, 9, 29, 65] [] (fun _ _ => trivial) fun K' hK' => ?_
          repeat (refine sxf_next fun K2 hK2 => ?_; simp [dNum, dB]; (repeat (refine ⟨by omega, ?_⟩)); refine hK2 _ ?_; clear hK2 K2)
          refine sxf_nil (hK' _ ?_)
          refine AW.st (by simp [dNum, dB]; rfl) ?_
          clear hK' K'
          refine AW_cond false rfl (fun h => by cases h) (fun _ => ?_)
          refine AW_rg (tyOf_good _) [0, 2, 4, 8, 9, 29, 87] [] (fun _ _ => trivial) fun K' hK' => ?_
          repeat (refine sxf_next fun K2 hK2 => ?_; simp [dNum, dB]; (repeat (refine ⟨by omega, ?_⟩)); refine hK2 _ ?_; clear hK2 K2)
          refine sxf_nil (hK' _ ?_)
          refine AW.st (by simp [dNum, dB]; rfl) ?_
          clear hK' K'
          refine AW_cond true rfl (fun _ => ?_) (fun h => by cases h)
          refine AW_rd (tyOf_good _) (by kernel_rfl) [6] [] (fun _ _ => trivial) (by kernel_rfl) fun K' hK' => ?_
          repeat (refine sxd_next fun K2 hK2 => ?_; simp [dNum, dB, ofK, dW]; (repeat (refine ⟨by omega, ?_⟩)); refine hK2 _ ?_; clear hK2 K2)
          refine sxd_next fun K2 hK2 => ?_
          simp [dNum, dB, ofK, dW]
          refine callQ.data (hci) (by simp; rfl) (by simp; rfl) (by first | exact D.leGo_refl _ | simp [takeMap, List.map_map, Function.comp_def, D.le, D.le.go, D.le_refl, D.leGo_refl, dNum, dB, ofK, dW]) ?_
          refine hK2 _ ?_
          clear hK2 K2
          simp only [putd, upd_lst]
          repeat (refine sxd_next fun K2 hK2 => ?_; simp [dNum, dB, ofK, dW]; (repeat (refine ⟨by omega, ?_⟩)); refine hK2 _ ?_; clear hK2 K2)
          refine sxd_next fun K2 hK2 => ?_
          simp [dNum, dB, ofK, dW]
          refine callQ.data (hcj) (by simp; rfl) (by simp; rfl) (by first | exact D.leGo_refl _ | simp [takeMap, List.map_map, Function.comp_def, D.le, D.le.go, D.le_refl, D.leGo_refl, dNum, dB, ofK, dW]) ?_
          refine hK2 _ ?_
          clear hK2 K2
          simp only [putd, upd_lst]
          repeat (refine sxd_next fun K2 hK2 => ?_; simp [dNum, dB, ofK, dW]; (repeat (refine ⟨by omega, ?_⟩)); refine hK2 _ ?_; clear hK2 K2)
          refine sxd_nil (hK' _ ?_)
          refine AW.st (by simp [dNum, dB, ofK, dW]; rfl) ?_
          clear hK' K'
          refine AW_ret ?_
          simp [D.le, D.le.go, takeMap, dNum, dB]
      · have hol : l.length = 1 := by simp [arityF, arityL] at hlen; omega
        obtain ⟨f0, rfl⟩ := List.length_eq_one_iff.1 hol
        have hc0 := hch f0 (by simp)
        have hfi : foldF a.length r.length (i + 1) = nxF a.length (a.length + r.length) i := by rw [foldF_succ hr, foldF_id hi]
        have hv : valF a r 6 s (holdsL a r [f0]) i = atB (holdsF a r f0) (nxF a.length (a.length + r.length) i) := rfl
        rw [hv, ← hfi]
        refine AW_rg (tyOf_good _) [0, 2, 4, 8, 9, 29, 30] [] (fun _ _ => trivial) fun K' hK' => ?_
        repeat (refine sxf_next fun K2 hK2 => ?_; simp [dNum, dB]; (repeat (refine ⟨by omega, ?_⟩)); refine hK2 _ ?_; clear hK2 K2)
        refine sxf_nil (hK' _ ?_)
        refine AW.st (by simp [dNum, dB]; rfl) ?_
        clear hK' K'
        refine AW_cond false rfl (fun h => by cases h) (fun _ => ?_)
        refine AW_rg (tyOf_good _) [0, 2, 4, 8, 9, 29, 51] [] (fun _ _ => trivial) fun K' hK' => ?_
        repeat (refine sxf_next fun K2 hK2 => ?_; simp [dNum, dB]; (repeat (refine ⟨by omega, ?_⟩)); refine hK2 _ ?_; clear hK2 K2)
        refine sxf_nil (hK' _ ?_)
        refine AW.st (by simp [dNum, dB]; rfl) ?_
        clear hK' K'
        refine AW_cond false rfl (fun h => by cases h) (fun _ => ?_)
        refine AW_rg (tyOf_good _) [0, 2, 4, 8, 9, 29, 53] [] (fun _ _ => trivial) fun K' hK' => ?_
        repeat (refine sxf_next fun K2 hK2 => ?_; simp [dNum, dB]; (repeat (refine ⟨by omega, ?_⟩)); refine hK2 _ ?_; clear hK2 K2)
        refine sxf_nil (hK' _ ?_)
        refine AW.st (by simp [dNum, dB]; rfl) ?_
        clear hK' K'
        refine AW_cond false rfl (fun h => by cases h) (fun _ => ?_)
        refine AW_rg (tyOf_good _) [0, 2, 4, 8, 9, 29, 65] [] (fun _ _ => trivial) fun K' hK' => ?_
        repeat (refine sxf_next fun K2 hK2 => ?_; simp [dNum, dB]; (repeat (refine ⟨by omega, ?_⟩)); refine hK2 _ ?_; clear hK2 K2)
        refine sxf_nil (hK' _ ?_)
        refine AW.st (by simp [dNum, dB]; rfl) ?_
        clear hK' K'
        refine AW_cond false rfl (fun h => by cases h) (fun _ => ?_)
        refine AW_rg (tyOf_good _) [0, 2, 4, 8, 9, 29, 87] [] (fun _ _ => trivial) fun K' hK' => ?_
        repeat (refine sxf_next fun K2 hK2 => ?_; simp [dNum, dB]; (repeat (refine ⟨by omega, ?_⟩)); refine hK2 _ ?_; clear hK2 K2)
        refine sxf_nil (hK' _ ?_)
        refine AW.st (by simp [dNum, dB]; rfl) ?_
        clear hK' K'
        refine AW_cond false rfl (fun h => by cases h) (fun _ => ?_)
        refine AW_rg (tyOf_good _) [0, 2, 4, 8, 9, 29, 109] [] (fun _ _ => trivial) fun K' hK' => ?_
        repeat (refine sxf_next fun K2 hK2 => ?_; simp [dNum, dB]; (repeat (refine ⟨by omega, ?_⟩)); refine hK2 _ ?_; clear hK2 K2)
        refine sxf_nil (hK' _ ?_)
        refine AW.st (by simp [dNum, dB]; rfl) ?_
        clear hK' K'
        refine AW_cond true rfl (fun _ => ?_) (fun h => by cases h)
        have hcf := hfold (i + 1) (by omega)
        have hci := hc0 (foldF a.length r.length (i + 1)) (hfl _)
        refine AW_rd (tyOf_good _) (by kernel_rfl) [6] [] (fun _ _ => trivial) (by kernel_rfl) fun K' hK' => ?_
        repeat (refine sxd_next fun K2 hK2 => ?_; simp [dNum, dB, ofK, dW]; (repeat (refine ⟨by omega, ?_⟩)); refine hK2 _ ?_; clear hK2 K2)
        refine sxd_next fun K2 hK2 => ?_
        simp [dNum, dB, ofK, dW]
        refine callQ.data (hcf) (by simp; rfl) (by simp; rfl) (by first | exact D.leGo_refl _ | simp [takeMap, List.map_map, Function.comp_def, D.le, D.le.go, D.le_refl, D.leGo_refl, dNum, dB, ofK, dW]) ?_
        refine hK2 _ ?_
        clear hK2 K2
        simp only [putd, upd_lst]
        repeat (refine sxd_next fun K2 hK2 => ?_; simp [dNum, dB, ofK, dW]; (repeat (refine ⟨by omega, ?_⟩)); refine hK2 _ ?_; clear hK2 K2)
        refine sxd_next fun K2 hK2 => ?_
        simp [dNum, dB, ofK, dW]
        refine callQ.data (hci) (by simp; rfl) (by simp; rfl) (by first | exact D.leGo_refl _ | simp [takeMap, List.map_map, Function.comp_def, D.le, D.le.go, D.le_refl, D.leGo_refl, dNum, dB, ofK, dW]) ?_
        refine hK2 _ ?_
        clear hK2 K2
        simp only [putd, upd_lst]
        repeat (refine sxd_next fun K2 hK2 => ?_; simp [dNum, dB, ofK, dW]; (repeat (refine ⟨by omega, ?_⟩)); refine hK2 _ ?_; clear hK2 K2)
        refine sxd_nil (hK' _ ?_)
        refine AW.st (by simp [dNum, dB, ofK, dW]; rfl) ?_
        clear hK' K'
        refine AW_ret ?_
        simp [D.le, D.le.go, takeMap, dNum, dB]
      · have hol : l.length = 2 := by simp [arityF, arityL] at hlen; omega
        obtain ⟨f0, f1, rfl⟩ : ∃ x y, l = [x, y] := by match l, hol with | [x, y], _ => exact ⟨x, y, rfl⟩
        have hc0 := hch f0 (by simp)
        have hc1 := hch f1 (by simp)
        obtain ⟨now, hnow⟩ : ∃ now : Nat → Bool → Bool, now = fun i b => atB (holdsF a r f1) i || (atB (holdsF a r f0) i && b) := ⟨_, rfl⟩
        have hv : valF a r 7 s (holdsL a r [f0, f1]) i = iterN now (nxF a.length (a.length + r.length)) false (e - i) (foldF a.length r.length i) := by
          rw [foldF_id hi, ← he, hnow, scan_two (mono_or _ _) hr hi]; rfl
        rw [hv]
        generalize hV : iterN now (nxF a.length (a.length + r.length)) false (e - i) (foldF a.length r.length i) = V
        refine AW_rg (tyOf_good _) [0, 2, 4, 8, 9, 29, 30] [] (fun _ _ => trivial) fun K' hK' => ?_
        repeat (refine sxf_next fun K2 hK2 => ?_; simp [dNum, dB]; (repeat (refine ⟨by omega, ?_⟩)); refine hK2 _ ?_; clear hK2 K2)
        refine sxf_nil (hK' _ ?_)
        refine AW.st (by simp [dNum, dB]; rfl) ?_
        clear hK' K'
        refine AW_cond false rfl (fun h => by cases h) (fun _ => ?_)
        refine AW_rg (tyOf_good _) [0, 2, 4, 8, 9, 29, 51] [] (fun _ _ => trivial) fun K' hK' => ?_
        repeat (refine sxf_next fun K2 hK2 => ?_; simp [dNum, dB]; (repeat (refine ⟨by omega, ?_⟩)); refine hK2 _ ?_; clear hK2 K2)
        refine sxf_nil (hK' _ ?_)
        refine AW.st (by simp [dNum, dB]; rfl) ?_
        clear hK' K'
        refine AW_cond false rfl (fun h => by cases h) (fun _ => ?_)
        refine AW_rg (tyOf_good _) [0, 2, 4, 8, 9, 29, 53] [] (fun _ _ => trivial) fun K' hK' => ?_
        repeat (refine sxf_next fun K2 hK2 => ?_; simp [dNum, dB]; (repeat (refine ⟨by omega, ?_⟩)); refine hK2 _ ?_; clear hK2 K2)
        refine sxf_nil (hK' _ ?_)
        refine AW.st (by simp [dNum, dB]; rfl) ?_
        clear hK' K'
        refine AW_cond false rfl (fun h => by cases h) (fun _ => ?_)
        refine AW_rg (tyOf_good _) [0, 2, 4, 8, 9, 29, 65] [] (fun _ _ => trivial) fun K' hK' => ?_
        repeat (refine sxf_next fun K2 hK2 => ?_; simp [dNum, dB]; (repeat (refine ⟨by omega, ?_⟩)); refine hK2 _ ?_; clear hK2 K2)
        refine sxf_nil (hK' _ ?_)
        refine AW.st (by simp [dNum, dB]; rfl) ?_
        clear hK' K'
        refine AW_cond false rfl (fun h => by cases h) (fun _ => ?_)
        refine AW_rg (tyOf_good _) [0, 2, 4, 8, 9, 29, 87] [] (fun _ _ => trivial) fun K' hK' => ?_
        repeat (refine sxf_next fun K2 hK2 => ?_; simp [dNum, dB]; (repeat (refine ⟨by omega, ?_⟩)); refine hK2 _ ?_; clear hK2 K2)
        refine sxf_nil (hK' _ ?_)
        refine AW.st (by simp [dNum, dB]; rfl) ?_
        clear hK' K'
        refine AW_cond false rfl (fun h => by cases h) (fun _ => ?_)
        refine AW_rg (tyOf_good _) [0, 2, 4, 8, 9, 29, 109] [] (fun _ _ => trivial) fun K' hK' => ?_
        repeat (refine sxf_next fun K2 hK2 => ?_; simp [dNum, dB]; (repeat (refine ⟨by omega, ?_⟩)); refine hK2 _ ?_; clear hK2 K2)
        refine sxf_nil (hK' _ ?_)
        refine AW.st (by simp [dNum, dB]; rfl) ?_
        clear hK' K'
        refine AW_cond false rfl (fun h => by cases h) (fun _ => ?_)
        refine AW_rg (tyOf_good _) [0, 2, 4, 8, 9, 29, 123] [] (fun _ _ => trivial) fun K' hK' => ?_
        repeat (refine sxf_next fun K2 hK2 => ?_; simp [dNum, dB]; (repeat (refine ⟨by omega, ?_⟩)); refine hK2 _ ?_; clear hK2 K2)
        refine sxf_nil (hK' _ ?_)
        refine AW.st (by simp [dNum, dB]; rfl) ?_
        clear hK' K'
        refine AW_cond true rfl (fun _ => ?_) (fun h => by cases h)
        refine AW_then fun K2 hK2 => ?_
        refine AW_rg (tyOf_good _) [0, 4, 8, 9, 11] [] (fun _ _ => trivial) fun K' hK' => ?_
        repeat (refine sxf_next fun K2 hK2 => ?_; simp [dNum, dB, ofK]; (repeat (refine ⟨by omega, ?_⟩)); refine hK2 _ ?_; clear hK2 K2)
        refine sxf_nil (hK' _ ?_)
        refine AW.st (by simp [dNum, dB, ofK]; rfl) ?_
        clear hK' K'
        refine AW_for (S := Nat) (fun k => i ≤ k ∧ k ≤ e ∧ iterN now (nxF a.length (a.length + r.length)) false (e - k) (foldF a.length r.length k) = V) (fun k => (⟨lst [(0, .d (.ip [dNum 7, dS s, .sl none [[dF f0], [dF f1]]])), (4, .d (.ip [dTimes a, dTimes r])), (8, .d (.fn (.func 78) [.ip [dNum a.length], .ip [dTimes a, dTimes r]])), (9, int e), (11, int k)], hlst []⟩)) (fun k => e - k) i ?_ ⟨Nat.le_refl _, hie, hV⟩ ?_
        · refine Imp.to' (fun _ _ => trivial) (by simp [dNum, dB, dTimes]) (by simp [dNum, dB, dTimes])
        · rintro k ⟨hik, hke, hkv⟩
          refine AW_then fun K3 hK3 => ?_
          refine AW_rg (tyOf_good _) [0, 4, 8, 9, 11, 128] [] (fun _ _ => trivial) fun K' hK' => ?_
          repeat (refine sxf_next fun K2 hK2 => ?_; simp [dNum, dB]; (repeat (refine ⟨by omega, ?_⟩)); refine hK2 _ ?_; clear hK2 K2)
          refine sxf_nil (hK' _ ?_)
          refine AW.st (by simp [dNum, dB]; rfl) ?_
          clear hK' K'
          refine AW_cond' (b := k < e) (by simp [D.le, D.le.go, takeMap, dNum, dB]) (fun hc => ?_) (fun hc => ?_)
          · have hlt : k < e := hc
            rw [scan_step now false hr hlt, hnow] at hkv
            dsimp only at hkv
            rw [← hnow] at hkv
            have hcf := hfold k (by omega)
            have h1 := hc1 (foldF a.length r.length k) (hfl _)
            have h0 := hc0 (foldF a.length r.length k) (hfl _)
            refine AW_skip (hK3 _ ?_)
            refine AW_then fun K4 hK4 => ?_
            refine AW_block ?_
            refine AW_then fun K5 hK5 => ?_
            cases e1 : atB (holdsF a r f1) (foldF a.length r.length k) with
            | true =>
              rw [e1] at h1 hkv
              refine AW_rd (tyOf_good _) (by kernel_rfl) [0, 4, 8, 9, 11, 141] [] (fun _ _ => trivial) (by kernel_rfl) fun K' hK' => ?_
              repeat (refine sxd_next fun K2 hK2 => ?_; simp [dNum, dB, dW]; (repeat (refine ⟨by omega, ?_⟩)); refine hK2 _ ?_; clear hK2 K2)
              refine sxd_next fun K2 hK2 => ?_
              simp [dNum, dB, dW]
              refine callQ.data (hcf) (by simp; rfl) (by simp; rfl) (by first | exact D.leGo_refl _ | simp [takeMap, List.map_map, Function.comp_def, D.le, D.le.go, D.le_refl, D.leGo_refl, dNum, dB, dW]) ?_
              refine hK2 _ ?_
              clear hK2 K2
              simp only [putd, upd_lst]
              repeat (refine sxd_next fun K2 hK2 => ?_; simp [dNum, dB, dW]; (repeat (refine ⟨by omega, ?_⟩)); refine hK2 _ ?_; clear hK2 K2)
              refine sxd_next fun K2 hK2 => ?_
              simp [dNum, dB, dW]
              refine callQ.data (h1) (by simp; rfl) (by simp; rfl) (by first | exact D.leGo_refl _ | simp [takeMap, List.map_map, Function.comp_def, D.le, D.le.go, D.le_refl, D.leGo_refl, dNum, dB, dW]) ?_
              refine hK2 _ ?_
              clear hK2 K2
              simp only [putd, upd_lst]
              repeat (refine sxd_next fun K2 hK2 => ?_; simp [dNum, dB, dW]; (repeat (refine ⟨by omega, ?_⟩)); refine hK2 _ ?_; clear hK2 K2)
              refine sxd_nil (hK' _ ?_)
              refine AW.st (by simp [dNum, dB, dW]; rfl) ?_
              clear hK' K'
              refine AW_cond true rfl (fun _ => ?_) (fun h => by cases h)
              refine AW_rg (tyOf_good _) [6] [] (fun _ _ => trivial) fun K' hK' => ?_
              repeat (refine sxf_next fun K2 hK2 => ?_; simp [dNum, dB]; (repeat (refine ⟨by omega, ?_⟩)); refine hK2 _ ?_; clear hK2 K2)
              refine sxf_nil (hK' _ ?_)
              refine AW.st (by simp [dNum, dB]; rfl) ?_
              clear hK' K'
              refine AW_ret ?_
              simp [D.le, D.le.go, takeMap, dNum, dB, ← hkv]
            | false =>
              rw [e1] at h1 hkv
              refine AW_rd (tyOf_good _) (by kernel_rfl) [0, 4, 8, 9, 11, 141] [] (fun _ _ => trivial) (by kernel_rfl) fun K' hK' => ?_
              repeat (refine sxd_next fun K2 hK2 => ?_; simp [dNum, dB, dW]; (repeat (refine ⟨by omega, ?_⟩)); refine hK2 _ ?_; clear hK2 K2)
              refine sxd_next fun K2 hK2 => ?_
              simp [dNum, dB, dW]
              refine callQ.data (hcf) (by simp; rfl) (by simp; rfl) (by first | exact D.leGo_refl _ | simp [takeMap, List.map_map, Function.comp_def, D.le, D.le.go, D.le_refl, D.leGo_refl, dNum, dB, dW]) ?_
              refine hK2 _ ?_
              clear hK2 K2
              simp only [putd, upd_lst]
              repeat (refine sxd_next fun K2 hK2 => ?_; simp [dNum, dB, dW]; (repeat (refine ⟨by omega, ?_⟩)); refine hK2 _ ?_; clear hK2 K2)
              refine sxd_next fun K2 hK2 => ?_
              simp [dNum, dB, dW]
              refine callQ.data (h1) (by simp; rfl) (by simp; rfl) (by first | exact D.leGo_refl _ | simp [takeMap, List.map_map, Function.comp_def, D.le, D.le.go, D.le_refl, D.leGo_refl, dNum, dB, dW]) ?_
              refine hK2 _ ?_
              clear hK2 K2
              simp only [putd, upd_lst]
              repeat (refine sxd_next fun K2 hK2 => ?_; simp [dNum, dB, dW]; (repeat (refine ⟨by omega, ?_⟩)); refine hK2 _ ?_; clear hK2 K2)
              refine sxd_nil (hK' _ ?_)
              refine AW.st (by simp [dNum, dB, dW]; rfl) ?_
              clear hK' K'
              refine AW_cond false rfl (fun h => by cases h) (fun _ => ?_)
              refine AW_skip (hK5 _ ?_)
              cases e0 : atB (holdsF a r f0) (foldF a.length r.length k) with
              | false =>
                rw [e0] at h0 hkv
                refine AW_rd (tyOf_good _) (by kernel_rfl) [0, 4, 8, 9, 11, 153] [] (fun _ _ => trivial) (by kernel_rfl) fun K' hK' => ?_
                repeat (refine sxd_next fun K2 hK2 => ?_; simp [dNum, dB, dW]; (repeat (refine ⟨by omega, ?_⟩)); refine hK2 _ ?_; clear hK2 K2)
                refine sxd_next fun K2 hK2 => ?_
                simp [dNum, dB, dW]
                refine callQ.data (hcf) (by simp; rfl) (by simp; rfl) (by first | exact D.leGo_refl _ | simp [takeMap, List.map_map, Function.comp_def, D.le, D.le.go, D.le_refl, D.leGo_refl, dNum, dB, dW]) ?_
                refine hK2 _ ?_
                clear hK2 K2
                simp only [putd, upd_lst]
                repeat (refine sxd_next fun K2 hK2 => ?_; simp [dNum, dB, dW]; (repeat (refine ⟨by omega, ?_⟩)); refine hK2 _ ?_; clear hK2 K2)
                refine sxd_next fun K2 hK2 => ?_
                simp [dNum, dB, dW]
                refine callQ.data (h0) (by simp; rfl) (by simp; rfl) (by first | exact D.leGo_refl _ | simp [takeMap, List.map_map, Function.comp_def, D.le, D.le.go, D.le_refl, D.leGo_refl, dNum, dB, dW]) ?_
                refine hK2 _ ?_
                clear hK2 K2
                simp only [putd, upd_lst]
                repeat (refine sxd_next fun K2 hK2 => ?_; simp [dNum, dB, dW]; (repeat (refine ⟨by omega, ?_⟩)); refine hK2 _ ?_; clear hK2 K2)
                refine sxd_nil (hK' _ ?_)
                refine AW.st (by simp [dNum, dB, dW]; rfl) ?_
                clear hK' K'
                refine AW_cond true rfl (fun _ => ?_) (fun h => by cases h)
                refine AW_rg (tyOf_good _) [6] [] (fun _ _ => trivial) fun K' hK' => ?_
                repeat (refine sxf_next fun K2 hK2 => ?_; simp [dNum, dB]; (repeat (refine ⟨by omega, ?_⟩)); refine hK2 _ ?_; clear hK2 K2)
                refine sxf_nil (hK' _ ?_)
                refine AW.st (by simp [dNum, dB]; rfl) ?_
                clear hK' K'
                refine AW_ret ?_
                simp [D.le, D.le.go, takeMap, dNum, dB, ← hkv]
              | true =>
                rw [e0] at h0 hkv
                refine AW_rd (tyOf_good _) (by kernel_rfl) [0, 4, 8, 9, 11, 153] [] (fun _ _ => trivial) (by kernel_rfl) fun K' hK' => ?_
                repeat (refine sxd_next fun K2 hK2 => ?_; simp [dNum, dB, dW]; (repeat (refine ⟨by omega, ?_⟩)); refine hK2 _ ?_; clear hK2 K2)
                refine sxd_next fun K2 hK2 => ?_
                simp [dNum, dB, dW]
                refine callQ.data (hcf) (by simp; rfl) (by simp; rfl) (by first | exact D.leGo_refl _ | simp [takeMap, List.map_map, Function.comp_def, D.le, D.le.go, D.le_refl, D.leGo_refl, dNum, dB, dW]) ?_
                refine hK2 _ ?_
                clear hK2 K2
                simp only [putd, upd_lst]
                repeat (refine sxd_next fun K2 hK2 => ?_; simp [dNum, dB, dW]; (repeat (refine ⟨by omega, ?_⟩)); refine hK2 _ ?_; clear hK2 K2)
                refine sxd_next fun K2 hK2 => ?_
                simp [dNum, dB, dW]
                refine callQ.data (h0) (by simp; rfl) (by simp; rfl) (by first | exact D.leGo_refl _ | simp [takeMap, List.map_map, Function.comp_def, D.le, D.le.go, D.le_refl, D.leGo_refl, dNum, dB, dW]) ?_
                refine hK2 _ ?_
                clear hK2 K2
                simp only [putd, upd_lst]
                repeat (refine sxd_next fun K2 hK2 => ?_; simp [dNum, dB, dW]; (repeat (refine ⟨by omega, ?_⟩)); refine hK2 _ ?_; clear hK2 K2)
                refine sxd_nil (hK' _ ?_)
                refine AW.st (by simp [dNum, dB, dW]; rfl) ?_
                clear hK' K'
                refine AW_cond false rfl (fun h => by cases h) (fun _ => ?_)
                refine AW_skip ?_
                refine hK4 _ (AW.norm [0, 4, 8, 9, 11] [] (fun _ _ => trivial) (AW.st (by simp [dNum, dB]; rfl) ?_))
                refine AW_re (tyOf_good _) fun K' hK' => ?_
                repeat (refine sxf_next fun K2 hK2 => ?_; simp [dNum, dB]; (repeat (refine ⟨by omega, ?_⟩)); refine hK2 _ ?_; clear hK2 K2)
                refine sxf_nil (hK' _ ?_)
                clear hK' K'
                try simp only [thn, inb]
                refine Again.mk (k + 1) ⟨by omega, by omega, by simpa using hkv⟩ (by omega) ?_
                refine Imp.to' (fun _ _ => trivial) (by simp [dNum, dB, dTimes]) (by simp [dNum, dB, dTimes])
          · obtain rfl : k = e := by omega
            rw [Nat.sub_self] at hkv
            refine AW_exit (hK2 _ ?_)
            refine AW_rg (tyOf_good _) [6] [] (fun _ _ => trivial) fun K' hK' => ?_
            repeat (refine sxf_next fun K2 hK2 => ?_; simp [dNum, dB]; (repeat (refine ⟨by omega, ?_⟩)); refine hK2 _ ?_; clear hK2 K2)
            refine sxf_nil (hK' _ ?_)
            refine AW.st (by simp [dNum, dB]; rfl) ?_
            clear hK' K'
            refine AW_ret ?_
            simp [D.le, D.le.go, takeMap, dNum, dB, ← hkv, iterN]
      · have hol : l.length = 2 := by simp [arityF, arityL] at hlen; omega
        obtain ⟨f0, f1, rfl⟩ : ∃ x y, l = [x, y] := by match l, hol with | [x, y], _ => exact ⟨x, y, rfl⟩
        have hc0 := hch f0 (by simp)
        have hc1 := hch f1 (by simp)
        obtain ⟨now, hnow⟩ : ∃ now : Nat → Bool → Bool, now = fun i b => atB (holdsF a r f1) i && (atB (holdsF a r f0) i || b) := ⟨_, rfl⟩
        have hv : valF a r 8 s (holdsL a r [f0, f1]) i = iterN now (nxF a.length (a.length + r.length)) true (e - i) (foldF a.length r.length i) := by
          rw [foldF_id hi, ← he, hnow, scan_two (mono_and _ _) hr hi]; rfl
        rw [hv]
        generalize hV : iterN now (nxF a.length (a.length + r.length)) true (e - i) (foldF a.length r.length i) = V
        refine AW_rg (tyOf_good _) [0, 2, 4, 8, 9, 29, 30] [] (fun _ _ => trivial) fun K' hK' => ?_
        repeat (refine sxf_next fun K2 hK2 => ?_; simp [dNum, dB]; (repeat (refine ⟨by omega, ?_⟩)); refine hK2 _ ?_; clear hK2 K2)
        refine sxf_nil (hK' _ ?_)
        refine AW.st (by simp [dNum, dB]; rfl) ?_
        clear hK' K'
        refine AW_cond false rfl (fun h => by cases h) (fun _ => ?_)
        refine AW_rg (tyOf_good _) [0, 2, 4, 8, 9, 29, 51] [] (fun _ _ => trivial) fun K' hK' => ?_
        repeat (refine sxf_next fun K2 hK2 => ?_; simp [dNum, dB]; (repeat (refine ⟨by omega, ?_⟩)); refine hK2 _ ?_; clear hK2 K2)
        refine sxf_nil (hK' _ ?_)
        refine AW.st (by simp [dNum, dB]; rfl) ?_
        clear hK' K'
        refine AW_cond false rfl (fun h => by cases h) (fun _ => ?_)
        refine AW_rg (tyOf_good _) [0, 2, 4, 8, 9, 29, 53] [] (fun _ _ => trivial) fun K' hK' => ?_
        repeat (refine sxf_next fun K2 hK2 => ?_; simp [dNum, dB]; (repeat (refine ⟨by omega, ?_⟩)); refine hK2 _ ?_; clear hK2 K2)
        refine sxf_nil (hK' _ ?_)
        refine AW.st (by simp [dNum, dB]; rfl) ?_
        clear hK' K'
        refine AW_cond false rfl (fun h => by cases h) (fun _ => ?_)
        refine AW_rg (tyOf_good _) [0, 2, 4, 8, 9, 29, 65] [] (fun _ _ => trivial) fun K' hK' => ?_
        repeat (refine sxf_next fun K2 hK2 => ?_; simp [dNum, dB]; (repeat (refine ⟨by omega, ?_⟩)); refine hK2 _ ?_; clear hK2 K2)
        refine sxf_nil (hK' _ ?_)
        refine AW.st (by simp [dNum, dB]; rfl) ?_
        clear hK' K'
        refine AW_cond false rfl (fun h => by cases h) (fun _ => ?_)
        refine AW_rg (tyOf_good _) [0, 2, 4, 8, 9, 29, 87] [] (fun _ _ => trivial) fun K' hK' => ?_
        repeat (refine sxf_next fun K2 hK2 => ?_; simp [dNum, dB]; (repeat (refine ⟨by omega, ?_⟩)); refine hK2 _ ?_; clear hK2 K2)
        refine sxf_nil (hK' _ ?_)
        refine AW.st (by simp [dNum, dB]; rfl) ?_
        clear hK' K'
        refine AW_cond false rfl (fun h => by cases h) (fun _ => ?_)
        refine AW_rg (tyOf_good _) [0, 2, 4, 8, 9, 29, 109] [] (fun _ _ => trivial) fun K' hK' => ?_
        repeat (refine sxf_next fun K2 hK2 => ?_; simp [dNum, dB]; (repeat (refine ⟨by omega, ?_⟩)); refine hK2 _ ?_; clear hK2 K2)
        refine sxf_nil (hK' _ ?_)
        refine AW.st (by simp [dNum, dB]; rfl) ?_
        clear hK' K'
        refine AW_cond false rfl (fun h => by cases h) (fun _ => ?_)
        refine AW_rg (tyOf_good _) [0, 2, 4, 8, 9, 29, 123] [] (fun _ _ => trivial) fun K' hK' => ?_
        repeat (refine sxf_next fun K2 hK2 => ?_; simp [dNum, dB]; (repeat (refine ⟨by omega, ?_⟩)); refine hK2 _ ?_; clear hK2 K2)
        refine sxf_nil (hK' _ ?_)
        refine AW.st (by simp [dNum, dB]; rfl) ?_
        clear hK' K'
        refine AW_cond false rfl (fun h => by cases h) (fun _ => ?_)
        refine AW_rg (tyOf_good _) [0, 2, 4, 8, 9, 154] [] (fun _ _ => trivial) fun K' hK' => ?_
        repeat (refine sxf_next fun K2 hK2 => ?_; simp [dNum, dB]; (repeat (refine ⟨by omega, ?_⟩)); refine hK2 _ ?_; clear hK2 K2)
        refine sxf_nil (hK' _ ?_)
        refine AW.st (by simp [dNum, dB]; rfl) ?_
        clear hK' K'
        refine AW_cond true rfl (fun _ => ?_) (fun h => by cases h)
        refine AW_then fun K2 hK2 => ?_
        refine AW_rg (tyOf_good _) [0, 4, 8, 9, 12] [] (fun _ _ => trivial) fun K' hK' => ?_
        repeat (refine sxf_next fun K2 hK2 => ?_; simp [dNum, dB, ofK]; (repeat (refine ⟨by omega, ?_⟩)); refine hK2 _ ?_; clear hK2 K2)
        refine sxf_nil (hK' _ ?_)
        refine AW.st (by simp [dNum, dB, ofK]; rfl) ?_
        clear hK' K'
        refine AW_for (S := Nat) (fun k => i ≤ k ∧ k ≤ e ∧ iterN now (nxF a.length (a.length + r.length)) true (e - k) (foldF a.length r.length k) = V) (fun k => (⟨lst [(0, .d (.ip [dNum 8, dS s, .sl none [[dF f0], [dF f1]]])), (4, .d (.ip [dTimes a, dTimes r])), (8, .d (.fn (.func 78) [.ip [dNum a.length], .ip [dTimes a, dTimes r]])), (9, int e), (12, int k)], hlst []⟩)) (fun k => e - k) i ?_ ⟨Nat.le_refl _, hie, hV⟩ ?_
        · refine Imp.to' (fun _ _ => trivial) (by simp [dNum, dB, dTimes]) (by simp [dNum, dB, dTimes])
        · rintro k ⟨hik, hke, hkv⟩
          refine AW_then fun K3 hK3 => ?_
          refine AW_rg (tyOf_good _) [0, 4, 8, 9, 12, 159] [] (fun _ _ => trivial) fun K' hK' => ?_
          repeat (refine sxf_next fun K2 hK2 => ?_; simp [dNum, dB]; (repeat (refine ⟨by omega, ?_⟩)); refine hK2 _ ?_; clear hK2 K2)
          refine sxf_nil (hK' _ ?_)
          refine AW.st (by simp [dNum, dB]; rfl) ?_
          clear hK' K'
          refine AW_cond' (b := k < e) (by simp [D.le, D.le.go, takeMap, dNum, dB]) (fun hc => ?_) (fun hc => ?_)
          · have hlt : k < e := hc
            rw [scan_step now true hr hlt, hnow] at hkv
            dsimp only at hkv
            rw [← hnow] at hkv
            have hcf := hfold k (by omega)
            have h1 := hc1 (foldF a.length r.length k) (hfl _)
            have h0 := hc0 (foldF a.length r.length k) (hfl _)
            refine AW_skip (hK3 _ ?_)
            refine AW_then fun K4 hK4 => ?_
            refine AW_block ?_
            refine AW_then fun K5 hK5 => ?_
            cases e1 : atB (holdsF a r f1) (foldF a.length r.length k) with
            | false =>
              rw [e1] at h1 hkv
              refine AW_rd (tyOf_good _) (by kernel_rfl) [0, 4, 8, 9, 12, 173] [] (fun _ _ => trivial) (by kernel_rfl) fun K' hK' => ?_
              repeat (refine sxd_next fun K2 hK2 => ?_; simp [dNum, dB, dW]; (repeat (refine ⟨by omega, ?_⟩)); refine hK2 _ ?_; clear hK2 K2)
              refine sxd_next fun K2 hK2 => ?_
              simp [dNum, dB, dW]
              refine callQ.data (hcf) (by simp; rfl) (by simp; rfl) (by first | exact D.leGo_refl _ | simp [takeMap, List.map_map, Function.comp_def, D.le, D.le.go, D.le_refl, D.leGo_refl, dNum, dB, dW]) ?_
              refine hK2 _ ?_
              clear hK2 K2
              simp only [putd, upd_lst]
              repeat (refine sxd_next fun K2 hK2 => ?_; simp [dNum, dB, dW]; (repeat (refine ⟨by omega, ?_⟩)); refine hK2 _ ?_; clear hK2 K2)
              refine sxd_next fun K2 hK2 => ?_
              simp [dNum, dB, dW]
              refine callQ.data (h1) (by simp; rfl) (by simp; rfl) (by first | exact D.leGo_refl _ | simp [takeMap, List.map_map, Function.comp_def, D.le, D.le.go, D.le_refl, D.leGo_refl, dNum, dB, dW]) ?_
              refine hK2 _ ?_
              clear hK2 K2
              simp only [putd, upd_lst]
              repeat (refine sxd_next fun K2 hK2 => ?_; simp [dNum, dB, dW]; (repeat (refine ⟨by omega, ?_⟩)); refine hK2 _ ?_; clear hK2 K2)
              refine sxd_nil (hK' _ ?_)
              refine AW.st (by simp [dNum, dB, dW]; rfl) ?_
              clear hK' K'
              refine AW_cond true rfl (fun _ => ?_) (fun h => by cases h)
              refine AW_rg (tyOf_good _) [6] [] (fun _ _ => trivial) fun K' hK' => ?_
              repeat (refine sxf_next fun K2 hK2 => ?_; simp [dNum, dB]; (repeat (refine ⟨by omega, ?_⟩)); refine hK2 _ ?_; clear hK2 K2)
              refine sxf_nil (hK' _ ?_)
              refine AW.st (by simp [dNum, dB]; rfl) ?_
              clear hK' K'
              refine AW_ret ?_
              simp [D.le, D.le.go, takeMap, dNum, dB, ← hkv]
            | true =>
              rw [e1] at h1 hkv
              refine AW_rd (tyOf_good _) (by kernel_rfl) [0, 4, 8, 9, 12, 173] [] (fun _ _ => trivial) (by kernel_rfl) fun K' hK' => ?_
              repeat (refine sxd_next fun K2 hK2 => ?_; simp [dNum, dB, dW]; (repeat (refine ⟨by omega, ?_⟩)); refine hK2 _ ?_; clear hK2 K2)
              refine sxd_next fun K2 hK2 => ?_
              simp [dNum, dB, dW]
              refine callQ.data (hcf) (by simp; rfl) (by simp; rfl) (by first | exact D.leGo_refl _ | simp [takeMap, List.map_map, Function.comp_def, D.le, D.le.go, D.le_refl, D.leGo_refl, dNum, dB, dW]) ?_
              refine hK2 _ ?_
              clear hK2 K2
              simp only [putd, upd_lst]
              repeat (refine sxd_next fun K2 hK2 => ?_; simp [dNum, dB, dW]; (repeat (refine ⟨by omega, ?_⟩)); refine hK2 _ ?_; clear hK2 K2)
              refine sxd_next fun K2 hK2 => ?_
              simp [dNum, dB, dW]
              refine callQ.data (h1) (by simp; rfl) (by simp; rfl) (by first | exact D.leGo_refl _ | simp [takeMap, List.map_map, Function.comp_def, D.le, D.le.go, D.le_refl, D.leGo_refl, dNum, dB, dW]) ?_
              refine hK2 _ ?_
              clear hK2 K2
              simp only [putd, upd_lst]
              repeat (refine sxd_next fun K2 hK2 => ?_; simp [dNum, dB, dW]; (repeat (refine ⟨by omega, ?_⟩)); refine hK2 _ ?_; clear hK2 K2)
              refine sxd_nil (hK' _ ?_)
              refine AW.st (by simp [dNum, dB, dW]; rfl) ?_
              clear hK' K'
              refine AW_cond false rfl (fun h => by cases h) (fun _ => ?_)
              refine AW_skip (hK5 _ ?_)
              cases e0 : atB (holdsF a r f0) (foldF a.length r.length k) with
              | true =>
                rw [e0] at h0 hkv
                refine AW_rd (tyOf_good _) (by kernel_rfl) [0, 4, 8, 9, 12, 184] [] (fun _ _ => trivial) (by kernel_rfl) fun K' hK' => ?_
                repeat (refine sxd_next fun K2 hK2 => ?_; simp [dNum, dB, dW]; (repeat (refine ⟨by omega, ?_⟩)); refine hK2 _ ?_; clear hK2 K2)
                refine sxd_next fun K2 hK2 => ?_
                simp [dNum, dB, dW]
                refine callQ.data (hcf) (by simp; rfl) (by simp; rfl) (by first | exact D.leGo_refl _ | simp [takeMap, List.map_map, Function.comp_def, D.le, D.le.go, D.le_refl, D.leGo_refl, dNum, dB, dW]) ?_
                refine hK2 _ ?_
                clear hK2 K2
                simp only [putd, upd_lst]
                repeat (refine sxd_next fun K2 hK2 => ?_; simp [dNum, dB, dW]; (repeat (refine ⟨by omega, ?_⟩)); refine hK2 _ ?_; clear hK2 K2)
                refine sxd_next fun K2 hK2 => ?_
                simp [dNum, dB, dW]
                refine callQ.data (h0) (by simp; rfl) (by simp; rfl) (by first | exact D.leGo_refl _ | simp [takeMap, List.map_map, Function.comp_def, D.le, D.le.go, D.le_refl, D.leGo_refl, dNum, dB, dW]) ?_
                refine hK2 _ ?_
                clear hK2 K2
                simp only [putd, upd_lst]
                repeat (refine sxd_next fun K2 hK2 => ?_; simp [dNum, dB, dW]; (repeat (refine ⟨by omega, ?_⟩)); refine hK2 _ ?_; clear hK2 K2)
                refine sxd_nil (hK' _ ?_)
                refine AW.st (by simp [dNum, dB, dW]; rfl) ?_
                clear hK' K'
                refine AW_cond true rfl (fun _ => ?_) (fun h => by cases h)
                refine AW_rg (tyOf_good _) [6] [] (fun _ _ => trivial) fun K' hK' => ?_
                repeat (refine sxf_next fun K2 hK2 => ?_; simp [dNum, dB]; (repeat (refine ⟨by omega, ?_⟩)); refine hK2 _ ?_; clear hK2 K2)
                refine sxf_nil (hK' _ ?_)
                refine AW.st (by simp [dNum, dB]; rfl) ?_
                clear hK' K'
                refine AW_ret ?_
                simp [D.le, D.le.go, takeMap, dNum, dB, ← hkv]
              | false =>
                rw [e0] at h0 hkv
                refine AW_rd (tyOf_good _) (by kernel_rfl) [0, 4, 8, 9, 12, 184] [] (fun _ _ => trivial) (by kernel_rfl) fun K' hK' => ?_
                repeat (refine sxd_next fun K2 hK2 => ?_; simp [dNum, dB, dW]; (repeat (refine ⟨by omega, ?_⟩)); refine hK2 _ ?_; clear hK2 K2)
                refine sxd_next fun K2 hK2 => ?_
                simp [dNum, dB, dW]
                refine callQ.data (hcf) (by simp; rfl) (by simp; rfl) (by first | exact D.leGo_refl _ | simp [takeMap, List.map_map, Function.comp_def, D.le, D.le.go, D.le_refl, D.leGo_refl, dNum, dB, dW]) ?_
                refine hK2 _ ?_
                clear hK2 K2
                simp only [putd, upd_lst]
                repeat (refine sxd_next fun K2 hK2 => ?_; simp [dNum, dB, dW]; (repeat (refine ⟨by omega, ?_⟩)); refine hK2 _ ?_; clear hK2 K2)
                refine sxd_next fun K2 hK2 => ?_
                simp [dNum, dB, dW]
                refine callQ.data (h0) (by simp; rfl) (by simp; rfl) (by first | exact D.leGo_refl _ | simp [takeMap, List.map_map, Function.comp_def, D.le, D.le.go, D.le_refl, D.leGo_refl, dNum, dB, dW]) ?_
                refine hK2 _ ?_
                clear hK2 K2
                simp only [putd, upd_lst]
                repeat (refine sxd_next fun K2 hK2 => ?_; simp [dNum, dB, dW]; (repeat (refine ⟨by omega, ?_⟩)); refine hK2 _ ?_; clear hK2 K2)
                refine sxd_nil (hK' _ ?_)
                refine AW.st (by simp [dNum, dB, dW]; rfl) ?_
                clear hK' K'
                refine AW_cond false rfl (fun h => by cases h) (fun _ => ?_)
                refine AW_skip ?_
                refine hK4 _ (AW.norm [0, 4, 8, 9, 12] [] (fun _ _ => trivial) (AW.st (by simp [dNum, dB]; rfl) ?_))
                refine AW_re (tyOf_good _) fun K' hK' => ?_
                repeat (refine sxf_next fun K2 hK2 => ?_; simp [dNum, dB]; (repeat (refine ⟨by omega, ?_⟩)); refine hK2 _ ?_; clear hK2 K2)
                refine sxf_nil (hK' _ ?_)
                clear hK' K'
                try simp only [thn, inb]
                refine Again.mk (k + 1) ⟨by omega, by omega, by simpa using hkv⟩ (by omega) ?_
                refine Imp.to' (fun _ _ => trivial) (by simp [dNum, dB, dTimes]) (by simp [dNum, dB, dTimes])
          · obtain rfl : k = e := by omega
            rw [Nat.sub_self] at hkv
            refine AW_exit (hK2 _ ?_)
            refine AW_rg (tyOf_good _) [6] [] (fun _ _ => trivial) fun K' hK' => ?_
            repeat (refine sxf_next fun K2 hK2 => ?_; simp [dNum, dB]; (repeat (refine ⟨by omega, ?_⟩)); refine hK2 _ ?_; clear hK2 K2)
            refine sxf_nil (hK' _ ?_)
            refine AW.st (by simp [dNum, dB]; rfl) ?_
            clear hK' K'
            refine AW_ret ?_
            simp [D.le, D.le.go, takeMap, dNum, dB, ← hkv, iterN]
      · have hol : l.length = 1 := by simp [arityF, arityL] at hlen; omega
        obtain ⟨f0, rfl⟩ := List.length_eq_one_iff.1 hol
        have hc0 := hch f0 (by simp)
        obtain ⟨now, hnow⟩ : ∃ now : Nat → Bool → Bool, now = fun i b => atB (holdsF a r f0) i || b := ⟨_, rfl⟩
        have hv : valF a r 9 s (holdsL a r [f0]) i = iterN now (nxF a.length (a.length + r.length)) false (e - i) (foldF a.length r.length i) := by
          rw [foldF_id hi, ← he, hnow, scan_two (mono_or1 _) hr hi]; rfl
        refine AW_rg (tyOf_good _) [0, 2, 4, 8, 9, 29, 30] [] (fun _ _ => trivial) fun K' hK' => ?_
        repeat (refine sxf_next fun K2 hK2 => ?_; simp [dNum, dB]; (repeat (refine ⟨by omega, ?_⟩)); refine hK2 _ ?_; clear hK2 K2)
        refine sxf_nil (hK' _ ?_)
        refine AW.st (by simp [dNum, dB]; rfl) ?_
        clear hK' K'
        refine AW_cond false rfl (fun h => by cases h) (fun _ => ?_)
        refine AW_rg (tyOf_good _) [0, 2, 4, 8, 9, 29, 51] [] (fun _ _ => trivial) fun K' hK' => ?_
        repeat (refine sxf_next fun K2 hK2 => ?_; simp [dNum, dB]; (repeat (refine ⟨by omega, ?_⟩)); refine hK2 _ ?_; clear hK2 K2)
        refine sxf_nil (hK' _ ?_)
        refine AW.st (by simp [dNum, dB]; rfl) ?_
        clear hK' K'
        refine AW_cond false rfl (fun h => by cases h) (fun _ => ?_)
        refine AW_rg (tyOf_good _) [0, 2, 4, 8, 9, 29, 53] [] (fun _ _ => trivial) fun K' hK' => ?_
        repeat (refine sxf_next fun K2 hK2 => ?_; simp [dNum, dB]; (repeat (refine ⟨by omega, ?_⟩)); refine hK2 _ ?_; clear hK2 K2)
        refine sxf_nil (hK' _ ?_)
        refine AW.st (by simp [dNum, dB]; rfl) ?_
        clear hK' K'
        refine AW_cond false rfl (fun h => by cases h) (fun _ => ?_)
        refine AW_rg (tyOf_good _) [0, 2, 4, 8, 9, 29, 65] [] (fun _ _ => trivial) fun K' hK' => ?_
        repeat (refine sxf_next fun K2 hK2 => ?_; simp [dNum, dB]; (repeat (refine ⟨by omega, ?_⟩)); refine hK2 _ ?_; clear hK2 K2)
        refine sxf_nil (hK' _ ?_)
        refine AW.st (by simp [dNum, dB]; rfl) ?_
        clear hK' K'
        refine AW_cond false rfl (fun h => by cases h) (fun _ => ?_)
        refine AW_rg (tyOf_good _) [0, 2, 4, 8, 9, 29, 87] [] (fun _ _ => trivial) fun K' hK' => ?_
        repeat (refine sxf_next fun K2 hK2 => ?_; simp [dNum, dB]; (repeat (refine ⟨by omega, ?_⟩)); refine hK2 _ ?_; clear hK2 K2)
        refine sxf_nil (hK' _ ?_)
        refine AW.st (by simp [dNum, dB]; rfl) ?_
        clear hK' K'
        refine AW_cond false rfl (fun h => by cases h) (fun _ => ?_)
        refine AW_rg (tyOf_good _) [0, 2, 4, 8, 9, 29, 109] [] (fun _ _ => trivial) fun K' hK' => ?_
        repeat (refine sxf_next fun K2 hK2 => ?_; simp [dNum, dB]; (repeat (refine ⟨by omega, ?_⟩)); refine hK2 _ ?_; clear hK2 K2)
        refine sxf_nil (hK' _ ?_)
        refine AW.st (by simp [dNum, dB]; rfl) ?_
        clear hK' K'
        refine AW_cond false rfl (fun h => by cases h) (fun _ => ?_)
        refine AW_rg (tyOf_good _) [0, 2, 4, 8, 9, 29, 123] [] (fun _ _ => trivial) fun K' hK' => ?_
        repeat (refine sxf_next fun K2 hK2 => ?_; simp [dNum, dB]; (repeat (refine ⟨by omega, ?_⟩)); refine hK2 _ ?_; clear hK2 K2)
        refine sxf_nil (hK' _ ?_)
        refine AW.st (by simp [dNum, dB]; rfl) ?_
        clear hK' K'
        refine AW_cond false rfl (fun h => by cases h) (fun _ => ?_)
        refine AW_rg (tyOf_good _) [0, 2, 4, 8, 9, 154] [] (fun _ _ => trivial) fun K' hK' => ?_
        repeat (refine sxf_next fun K2 hK2 => ?_; simp [dNum, dB]; (repeat (refine ⟨by omega, ?_⟩)); refine hK2 _ ?_; clear hK2 K2)
        refine sxf_nil (hK' _ ?_)
        refine AW.st (by simp [dNum, dB]; rfl) ?_
        clear hK' K'
        refine AW_cond false rfl (fun h => by cases h) (fun _ => ?_)
        refine AW_skip (hK1 _ ?_)
        rw [hv]
        generalize hV : iterN now (nxF a.length (a.length + r.length)) false (e - i) (foldF a.length r.length i) = V
        refine AW_then fun K2 hK2 => ?_
        refine AW_rg (tyOf_good _) [0, 4, 8, 9, 13] [] (fun _ _ => trivial) fun K' hK' => ?_
        repeat (refine sxf_next fun K2 hK2 => ?_; simp [dNum, dB, ofK]; (repeat (refine ⟨by omega, ?_⟩)); refine hK2 _ ?_; clear hK2 K2)
        refine sxf_nil (hK' _ ?_)
        refine AW.st (by simp [dNum, dB, ofK]; rfl) ?_
        clear hK' K'
        refine AW_for (S := Nat) (fun k => i ≤ k ∧ k ≤ e ∧ iterN now (nxF a.length (a.length + r.length)) false (e - k) (foldF a.length r.length k) = V) (fun k => (⟨lst [(0, .d (.ip [dNum 9, dS s, .sl none [[dF f0]]])), (4, .d (.ip [dTimes a, dTimes r])), (8, .d (.fn (.func 78) [.ip [dNum a.length], .ip [dTimes a, dTimes r]])), (9, int e), (13, int k)], hlst []⟩)) (fun k => e - k) i ?_ ⟨Nat.le_refl _, hie, hV⟩ ?_
        · refine Imp.to' (fun _ _ => trivial) (by simp [dNum, dB, dTimes]) (by simp [dNum, dB, dTimes])
        · rintro k ⟨hik, hke, hkv⟩
          refine AW_then fun K3 hK3 => ?_
          refine AW_rg (tyOf_good _) [0, 4, 8, 9, 13, 188] [] (fun _ _ => trivial) fun K' hK' => ?_
          repeat (refine sxf_next fun K2 hK2 => ?_; simp [dNum, dB]; (repeat (refine ⟨by omega, ?_⟩)); refine hK2 _ ?_; clear hK2 K2)
          refine sxf_nil (hK' _ ?_)
          refine AW.st (by simp [dNum, dB]; rfl) ?_
          clear hK' K'
          refine AW_cond' (b := k < e) (by simp [D.le, D.le.go, takeMap, dNum, dB]) (fun hc => ?_) (fun hc => ?_)
          · have hlt : k < e := hc
            rw [scan_step now false hr hlt, hnow] at hkv
            dsimp only at hkv
            rw [← hnow] at hkv
            have hcf := hfold k (by omega)
            have h0 := hc0 (foldF a.length r.length k) (hfl _)
            refine AW_skip (hK3 _ ?_)
            refine AW_then fun K4 hK4 => ?_
            refine AW_block ?_
            cases e0 : atB (holdsF a r f0) (foldF a.length r.length k) with
            | true =>
              rw [e0] at h0 hkv
              refine AW_rd (tyOf_good _) (by kernel_rfl) [0, 4, 8, 9, 13, 207] [] (fun _ _ => trivial) (by kernel_rfl) fun K' hK' => ?_
              repeat (refine sxd_next fun K2 hK2 => ?_; simp [dNum, dB, dW]; (repeat (refine ⟨by omega, ?_⟩)); refine hK2 _ ?_; clear hK2 K2)
              refine sxd_next fun K2 hK2 => ?_
              simp [dNum, dB, dW]
              refine callQ.data (hcf) (by simp; rfl) (by simp; rfl) (by first | exact D.leGo_refl _ | simp [takeMap, List.map_map, Function.comp_def, D.le, D.le.go, D.le_refl, D.leGo_refl, dNum, dB, dW]) ?_
              refine hK2 _ ?_
              clear hK2 K2
              simp only [putd, upd_lst]
              repeat (refine sxd_next fun K2 hK2 => ?_; simp [dNum, dB, dW]; (repeat (refine ⟨by omega, ?_⟩)); refine hK2 _ ?_; clear hK2 K2)
              refine sxd_next fun K2 hK2 => ?_
              simp [dNum, dB, dW]
              refine callQ.data (h0) (by simp; rfl) (by simp; rfl) (by first | exact D.leGo_refl _ | simp [takeMap, List.map_map, Function.comp_def, D.le, D.le.go, D.le_refl, D.leGo_refl, dNum, dB, dW]) ?_
              refine hK2 _ ?_
              clear hK2 K2
              simp only [putd, upd_lst]
              repeat (refine sxd_next fun K2 hK2 => ?_; simp [dNum, dB, dW]; (repeat (refine ⟨by omega, ?_⟩)); refine hK2 _ ?_; clear hK2 K2)
              refine sxd_nil (hK' _ ?_)
              refine AW.st (by simp [dNum, dB, dW]; rfl) ?_
              clear hK' K'
              refine AW_cond true rfl (fun _ => ?_) (fun h => by cases h)
              refine AW_rg (tyOf_good _) [6] [] (fun _ _ => trivial) fun K' hK' => ?_
              repeat (refine sxf_next fun K2 hK2 => ?_; simp [dNum, dB]; (repeat (refine ⟨by omega, ?_⟩)); refine hK2 _ ?_; clear hK2 K2)
              refine sxf_nil (hK' _ ?_)
              refine AW.st (by simp [dNum, dB]; rfl) ?_
              clear hK' K'
              refine AW_ret ?_
              simp [D.le, D.le.go, takeMap, dNum, dB, ← hkv]
            | false =>
              rw [e0] at h0 hkv
              refine AW_rd (tyOf_good _) (by kernel_rfl) [0, 4, 8, 9, 13, 207] [] (fun _ _ => trivial) (by kernel_rfl) fun K' hK' => ?_
              repeat (refine sxd_next fun K2 hK2 => ?_; simp [dNum, dB, dW]; (repeat (refine ⟨by omega, ?_⟩)); refine hK2 _ ?_; clear hK2 K2)
              refine sxd_next fun K2 hK2 => ?_
              simp [dNum, dB, dW]
              refine callQ.data (hcf) (by simp; rfl) (by simp; rfl) (by first | exact D.leGo_refl _ | simp [takeMap, List.map_map, Function.comp_def, D.le, D.le.go, D.le_refl, D.leGo_refl, dNum, dB, dW]) ?_
              refine hK2 _ ?_
              clear hK2 K2
              simp only [putd, upd_lst]
              repeat (refine sxd_next fun K2 hK2 => ?_; simp [dNum, dB, dW]; (repeat (refine ⟨by omega, ?_⟩)); refine hK2 _ ?_; clear hK2 K2)
              refine sxd_next fun K2 hK2 => ?_
              simp [dNum, dB, dW]
              refine callQ.data (h0) (by simp; rfl) (by simp; rfl) (by first | exact D.leGo_refl _ | simp [takeMap, List.map_map, Function.comp_def, D.le, D.le.go, D.le_refl, D.leGo_refl, dNum, dB, dW]) ?_
              refine hK2 _ ?_
              clear hK2 K2
              simp only [putd, upd_lst]
              repeat (refine sxd_next fun K2 hK2 => ?_; simp [dNum, dB, dW]; (repeat (refine ⟨by omega, ?_⟩)); refine hK2 _ ?_; clear hK2 K2)
              refine sxd_nil (hK' _ ?_)
              refine AW.st (by simp [dNum, dB, dW]; rfl) ?_
              clear hK' K'
              refine AW_cond false rfl (fun h => by cases h) (fun _ => ?_)
              refine AW_skip ?_
              refine hK4 _ (AW.norm [0, 4, 8, 9, 13] [] (fun _ _ => trivial) (AW.st (by simp [dNum, dB]; rfl) ?_))
              refine AW_re (tyOf_good _) fun K' hK' => ?_
              repeat (refine sxf_next fun K2 hK2 => ?_; simp [dNum, dB]; (repeat (refine ⟨by omega, ?_⟩)); refine hK2 _ ?_; clear hK2 K2)
              refine sxf_nil (hK' _ ?_)
              clear hK' K'
              try simp only [thn, inb]
              refine Again.mk (k + 1) ⟨by omega, by omega, by simpa using hkv⟩ (by omega) ?_
              refine Imp.to' (fun _ _ => trivial) (by simp [dNum, dB, dTimes]) (by simp [dNum, dB, dTimes])
          · obtain rfl : k = e := by omega
            rw [Nat.sub_self] at hkv
            refine AW_exit (hK2 _ ?_)
            refine AW_rg (tyOf_good _) [6] [] (fun _ _ => trivial) fun K' hK' => ?_
            repeat (refine sxf_next fun K2 hK2 => ?_; simp [dNum, dB]; (repeat (refine ⟨by omega, ?_⟩)); refine hK2 _ ?_; clear hK2 K2)
            refine sxf_nil (hK' _ ?_)
            refine AW.st (by simp [dNum, dB]; rfl) ?_
            clear hK' K'
            refine AW_ret ?_
            simp [D.le, D.le.go, takeMap, dNum, dB, ← hkv, iterN]
      · have hol : l.length = 1 := by simp [arityF, arityL] at hlen; omega
        obtain ⟨f0, rfl⟩ := List.length_eq_one_iff.1 hol
        have hc0 := hch f0 (by simp)
        obtain ⟨now, hnow⟩ : ∃ now : Nat → Bool → Bool, now = fun i b => atB (holdsF a r f0) i && b := ⟨_, rfl⟩
        have hv : valF a r 10 s (holdsL a r [f0]) i = iterN now (nxF a.length (a.length + r.length)) true (e - i) (foldF a.length r.length i) := by
          rw [foldF_id hi, ← he, hnow, scan_two (mono_and1 _) hr hi]; rfl
        refine AW_rg (tyOf_good _) [0, 2, 4, 8, 9, 29, 30] [] (fun _ _ => trivial) fun K' hK' => ?_
        repeat (refine sxf_next fun K2 hK2 => ?_; simp [dNum, dB]; (repeat (refine ⟨by omega, ?_⟩)); refine hK2 _ ?_; clear hK2 K2)
        refine sxf_nil (hK' _ ?_)
        refine AW.st (by simp [dNum, dB]; rfl) ?_
        clear hK' K'
        refine AW_cond false rfl (fun h => by cases h) (fun _ => ?_)
        refine AW_rg (tyOf_good _) [0, 2, 4, 8, 9, 29, 51] [] (fun _ _ => trivial) fun K' hK' => ?_
        repeat (refine sxf_next fun K2 hK2 => ?_; simp [dNum, dB]; (repeat (refine ⟨by omega, ?_⟩)); refine hK2 _ ?_; clear hK2 K2)
        refine sxf_nil (hK' _ ?_)
        refine AW.st (by simp [dNum, dB]; rfl) ?_
        clear hK' K'
        refine AW_cond false rfl (fun h => by cases h) (fun _ => ?_)
        refine AW_rg (tyOf_good _) [0, 2, 4, 8, 9, 29, 53] [] (fun _ _ => trivial) fun K' hK' => ?_
        repeat (refine sxf_next fun K2 hK2 => ?_; simp [dNum, dB]; (repeat (refine ⟨by omega, ?_⟩)); refine hK2 _ ?_; clear hK2 K2)
        refine sxf_nil (hK' _ ?_)
        refine AW.st (by simp [dNum, dB]; rfl) ?_
        clear hK' K'
        refine AW_cond false rfl (fun h => by cases h) (fun _ => ?_)
        refine AW_rg (tyOf_good _) [0, 2, 4, 8, 9, 29, 65] [] (fun _ _ => trivial) fun K' hK' => ?_
        repeat (refine sxf_next fun K2 hK2 => ?_; simp [dNum, dB]; (repeat (refine ⟨by omega, ?_⟩)); refine hK2 _ ?_; clear hK2 K2)
        refine sxf_nil (hK' _ ?_)
        refine AW.st (by simp [dNum, dB]; rfl) ?_
        clear hK' K'
        refine AW_cond false rfl (fun h => by cases h) (fun _ => ?_)
        refine AW_rg (tyOf_good _) [0, 2, 4, 8, 9, 29, 87] [] (fun _ _ => trivial) fun K' hK' => ?_
        repeat (refine sxf_next fun K2 hK2 => ?_; simp [dNum, dB]; (repeat (refine ⟨by omega, ?_⟩)); refine hK2 _ ?_; clear hK2 K2)
        refine sxf_nil (hK' _ ?_)
        refine AW.st (by simp [dNum, dB]; rfl) ?_
        clear hK' K'
        refine AW_cond false rfl (fun h => by cases h) (fun _ => ?_)
        refine AW_rg (tyOf_good _) [0, 2, 4, 8, 9, 29, 109] [] (fun _ _ => trivial) fun K' hK' => ?_
        repeat (refine sxf_next fun K2 hK2 => ?_; simp [dNum, dB]; (repeat (refine ⟨by omega, ?_⟩)); refine hK2 _ ?_; clear hK2 K2)
        refine sxf_nil (hK' _ ?_)
        refine AW.st (by simp [dNum, dB]; rfl) ?_
        clear hK' K'
        refine AW_cond false rfl (fun h => by cases h) (fun _ => ?_)
        refine AW_rg (tyOf_good _) [0, 2, 4, 8, 9, 29, 123] [] (fun _ _ => trivial) fun K' hK' => ?_
        repeat (refine sxf_next fun K2 hK2 => ?_; simp [dNum, dB]; (repeat (refine ⟨by omega, ?_⟩)); refine hK2 _ ?_; clear hK2 K2)
        refine sxf_nil (hK' _ ?_)
        refine AW.st (by simp [dNum, dB]; rfl) ?_
        clear hK' K'
        refine AW_cond false rfl (fun h => by cases h) (fun _ => ?_)
        refine AW_rg (tyOf_good _) [0, 2, 4, 8, 9, 154] [] (fun _ _ => trivial) fun K' hK' => ?_
        repeat (refine sxf_next fun K2 hK2 => ?_; simp [dNum, dB]; (repeat (refine ⟨by omega, ?_⟩)); refine hK2 _ ?_; clear hK2 K2)
        refine sxf_nil (hK' _ ?_)
        refine AW.st (by simp [dNum, dB]; rfl) ?_
        clear hK' K'
        refine AW_cond false rfl (fun h => by cases h) (fun _ => ?_)
        refine AW_skip (hK1 _ ?_)
        rw [hv]
        generalize hV : iterN now (nxF a.length (a.length + r.length)) true (e - i) (foldF a.length r.length i) = V
        refine AW_then fun K2 hK2 => ?_
        refine AW_rg (tyOf_good _) [0, 4, 8, 9, 13] [] (fun _ _ => trivial) fun K' hK' => ?_
        repeat (refine sxf_next fun K2 hK2 => ?_; simp [dNum, dB, ofK]; (repeat (refine ⟨by omega, ?_⟩)); refine hK2 _ ?_; clear hK2 K2)
        refine sxf_nil (hK' _ ?_)
        refine AW.st (by simp [dNum, dB, ofK]; rfl) ?_
        clear hK' K'
        refine AW_for (S := Nat) (fun k => i ≤ k ∧ k ≤ e ∧ iterN now (nxF a.length (a.length + r.length)) true (e - k) (foldF a.length r.length k) = V) (fun k => (⟨lst [(0, .d (.ip [dNum 10, dS s, .sl none [[dF f0]]])), (4, .d (.ip [dTimes a, dTimes r])), (8, .d (.fn (.func 78) [.ip [dNum a.length], .ip [dTimes a, dTimes r]])), (9, int e), (13, int k)], hlst []⟩)) (fun k => e - k) i ?_ ⟨Nat.le_refl _, hie, hV⟩ ?_
        · refine Imp.to' (fun _ _ => trivial) (by simp [dNum, dB, dTimes]) (by simp [dNum, dB, dTimes])
        · rintro k ⟨hik, hke, hkv⟩
          refine AW_then fun K3 hK3 => ?_
          refine AW_rg (tyOf_good _) [0, 4, 8, 9, 13, 188] [] (fun _ _ => trivial) fun K' hK' => ?_
          repeat (refine sxf_next fun K2 hK2 => ?_; simp [dNum, dB]; (repeat (refine ⟨by omega, ?_⟩)); refine hK2 _ ?_; clear hK2 K2)
          refine sxf_nil (hK' _ ?_)
          refine AW.st (by simp [dNum, dB]; rfl) ?_
          clear hK' K'
          refine AW_cond' (b := k < e) (by simp [D.le, D.le.go, takeMap, dNum, dB]) (fun hc => ?_) (fun hc => ?_)
          · have hlt : k < e := hc
            rw [scan_step now true hr hlt, hnow] at hkv
            dsimp only at hkv
            rw [← hnow] at hkv
            have hcf := hfold k (by omega)
            have h0 := hc0 (foldF a.length r.length k) (hfl _)
            refine AW_skip (hK3 _ ?_)
            refine AW_then fun K4 hK4 => ?_
            refine AW_block ?_
            cases e0 : atB (holdsF a r f0) (foldF a.length r.length k) with
            | false =>
              rw [e0] at h0 hkv
              refine AW_rd (tyOf_good _) (by kernel_rfl) [0, 4, 8, 9, 13, 207] [] (fun _ _ => trivial) (by kernel_rfl) fun K' hK' => ?_
              repeat (refine sxd_next fun K2 hK2 => ?_; simp [dNum, dB, dW]; (repeat (refine ⟨by omega, ?_⟩)); refine hK2 _ ?_; clear hK2 K2)
              refine sxd_next fun K2 hK2 => ?_
              simp [dNum, dB, dW]
              refine callQ.data (hcf) (by simp; rfl) (by simp; rfl) (by first | exact D.leGo_refl _ | simp [takeMap, List.map_map, Function.comp_def, D.le, D.le.go, D.le_refl, D.leGo_refl, dNum, dB, dW]) ?_
              refine hK2 _ ?_
              clear hK2 K2
              simp only [putd, upd_lst]
              repeat (refine sxd_next fun K2 hK2 => ?_; simp [dNum, dB, dW]; (repeat (refine ⟨by omega, ?_⟩)); refine hK2 _ ?_; clear hK2 K2)
              refine sxd_next fun K2 hK2 => ?_
              simp [dNum, dB, dW]
              refine callQ.data (h0) (by simp; rfl) (by simp; rfl) (by first | exact D.leGo_refl _ | simp [takeMap, List.map_map, Function.comp_def, D.le, D.le.go, D.le_refl, D.leGo_refl, dNum, dB, dW]) ?_
              refine hK2 _ ?_
              clear hK2 K2
              simp only [putd, upd_lst]
              repeat (refine sxd_next fun K2 hK2 => ?_; simp [dNum, dB, dW]; (repeat (refine ⟨by omega, ?_⟩)); refine hK2 _ ?_; clear hK2 K2)
              refine sxd_nil (hK' _ ?_)
              refine AW.st (by simp [dNum, dB, dW]; rfl) ?_
              clear hK' K'
              refine AW_cond true rfl (fun _ => ?_) (fun h => by cases h)
              refine AW_rg (tyOf_good _) [6] [] (fun _ _ => trivial) fun K' hK' => ?_
              repeat (refine sxf_next fun K2 hK2 => ?_; simp [dNum, dB]; (repeat (refine ⟨by omega, ?_⟩)); refine hK2 _ ?_; clear hK2 K2)
              refine sxf_nil (hK' _ ?_)
              refine AW.st (by simp [dNum, dB]; rfl) ?_
              clear hK' K'
              refine AW_ret ?_
              simp [D.le, D.le.go, takeMap, dNum, dB, ← hkv]
            | true =>
              rw [e0] at h0 hkv
              refine AW_rd (tyOf_good _) (by kernel_rfl) [0, 4, 8, 9, 13, 207] [] (fun _ _ => trivial) (by kernel_rfl) fun K' hK' => ?_
              repeat (refine sxd_next fun K2 hK2 => ?_; simp [dNum, dB, dW]; (repeat (refine ⟨by omega, ?_⟩)); refine hK2 _ ?_; clear hK2 K2)
              refine sxd_next fun K2 hK2 => ?_
              simp [dNum, dB, dW]
              refine callQ.data (hcf) (by simp; rfl) (by simp; rfl) (by first | exact D.leGo_refl _ | simp [takeMap, List.map_map, Function.comp_def, D.le, D.le.go, D.le_refl, D.leGo_refl, dNum, dB, dW]) ?_
              refine hK2 _ ?_
              clear hK2 K2
              simp only [putd, upd_lst]
              repeat (refine sxd_next fun K2 hK2 => ?_; simp [dNum, dB, dW]; (repeat (refine ⟨by omega, ?_⟩)); refine hK2 _ ?_; clear hK2 K2)
              refine sxd_next fun K2 hK2 => ?_
              simp [dNum, dB, dW]
              refine callQ.data (h0) (by simp; rfl) (by simp; rfl) (by first | exact D.leGo_refl _ | simp [takeMap, List.map_map, Function.comp_def, D.le, D.le.go, D.le_refl, D.leGo_refl, dNum, dB, dW]) ?_
              refine hK2 _ ?_
              clear hK2 K2
              simp only [putd, upd_lst]
              repeat (refine sxd_next fun K2 hK2 => ?_; simp [dNum, dB, dW]; (repeat (refine ⟨by omega, ?_⟩)); refine hK2 _ ?_; clear hK2 K2)
              refine sxd_nil (hK' _ ?_)
              refine AW.st (by simp [dNum, dB, dW]; rfl) ?_
              clear hK' K'
              refine AW_cond false rfl (fun h => by cases h) (fun _ => ?_)
              refine AW_skip ?_
              refine hK4 _ (AW.norm [0, 4, 8, 9, 13] [] (fun _ _ => trivial) (AW.st (by simp [dNum, dB]; rfl) ?_))
              refine AW_re (tyOf_good _) fun K' hK' => ?_
              repeat (refine sxf_next fun K2 hK2 => ?_; simp [dNum, dB]; (repeat (refine ⟨by omega, ?_⟩)); refine hK2 _ ?_; clear hK2 K2)
              refine sxf_nil (hK' _ ?_)
              clear hK' K'
              try simp only [thn, inb]
              refine Again.mk (k + 1) ⟨by omega, by omega, by simpa using hkv⟩ (by omega) ?_
              refine Imp.to' (fun _ _ => trivial) (by simp [dNum, dB, dTimes]) (by simp [dNum, dB, dTimes])
          · obtain rfl : k = e := by omega
            rw [Nat.sub_self] at hkv
            refine AW_exit (hK2 _ ?_)
            refine AW_rg (tyOf_good _) [6] [] (fun _ _ => trivial) fun K' hK' => ?_
            repeat (refine sxf_next fun K2 hK2 => ?_; simp [dNum, dB]; (repeat (refine ⟨by omega, ?_⟩)); refine hK2 _ ?_; clear hK2 K2)
            refine sxf_nil (hK' _ ?_)
            refine AW.st (by simp [dNum, dB]; rfl) ?_
            clear hK' K'
            refine AW_ret ?_
            simp [D.le, D.le.go, takeMap, dNum, dB, ← hkv, iterN]
#print axioms at_time
end Go.Proofs.YtoikggboakojlaaDoor

/-
  LassoHolds: at which times a formula holds is what looking on for two rounds tells.
-/
namespace Go.Proofs.YtoikggboakojlaaDoor
set_option linter.unusedSimpArgs false
set_option linter.unusedVariables false
open Go.Av

theorem lholds_many (G : Glob) (w : D) (hw : ∃ x y, w = .agg [x, y]) (l : List Stp) (h : (40 : Int) < l.length) : PureC Tryd.prog G 12 [w, dStps l] (.v (.bool true)) := by
  obtain ⟨x, y, rfl⟩ := hw
  have hf := lformula_many G l h
  refine PureC.of_body (tyOf_good _) Tryd.func12 rfl rfl (rs := [.tmp 4]) Tryd.results12 (by simp [Tryd.ntmps12]) fun X => ?_
  simp only [Tryd.ntmps12, List.map]
  refine AW_rg (tyOf_good _) [1, 2] [2] (fun _ _ => trivial) fun K' hK' => ?_
  repeat (refine sxf_next fun K2 hK2 => ?_; simp [dNum, dB]; (repeat (refine ⟨by omega, ?_⟩)); refine hK2 _ ?_; clear hK2 K2)
  refine sxf_nil (hK' _ ?_)
  refine AW.st (by simp [dNum, dB]; rfl) ?_
  clear hK' K'
  refine AW_rg (tyOf_good _) [1, 2, 5, 6, 7] [2] (fun _ _ => trivial) fun K' hK' => ?_
  repeat (refine sxf_next fun K2 hK2 => ?_; simp [dNum, dB]; (repeat (refine ⟨by omega, ?_⟩)); refine hK2 _ ?_; clear hK2 K2)
  refine sxf_next fun K2 hK2 => ?_
  simp [dNum, dB]
  refine callK.data (hf) (by simp; rfl) (by first | exact D.leGo_refl _ | simp [takeMap, List.map_map, Function.comp_def, D.le, D.le.go, D.le_refl, D.leGo_refl, dNum, dB]) ?_
  refine hK2 _ ?_
  clear hK2 K2
  simp only [putd, upd_lst]
  repeat (refine sxf_next fun K2 hK2 => ?_; simp [dNum, dB]; (repeat (refine ⟨by omega, ?_⟩)); refine hK2 _ ?_; clear hK2 K2)
  refine sxf_nil (hK' _ ?_)
  refine AW.st (by simp [dNum, dB]; rfl) ?_
  clear hK' K'
  refine AW_then fun K1 hK1 => ?_
  refine AW_rg (tyOf_good _) [1, 2, 5, 35] [2] (fun _ _ => trivial) fun K' hK' => ?_
  repeat (refine sxf_next fun K2 hK2 => ?_; simp [dNum, dB]; (repeat (refine ⟨by omega, ?_⟩)); refine hK2 _ ?_; clear hK2 K2)
  refine sxf_nil (hK' _ ?_)
  refine AW.st (by simp [dNum, dB]; rfl) ?_
  clear hK' K'
  refine AW_cond true rfl (fun _ => ?_) (fun h => by cases h)
  refine AW_rg (tyOf_good _) [4] [] (fun _ _ => trivial) fun K' hK' => ?_
  repeat (refine sxf_next fun K2 hK2 => ?_; simp [dNum, dB]; (repeat (refine ⟨by omega, ?_⟩)); refine hK2 _ ?_; clear hK2 K2)
  refine sxf_nil (hK' _ ?_)
  refine AW.st (by simp [dNum, dB]; rfl) ?_
  clear hK' K'
  refine AW_ret ?_
  simp [D.le, D.le.go, takeMap, dNum, dB]

theorem holdsE_ok {a r : Times} {f : Fm} (hw : wordE a r = 0) (h : rightE f = 0) : holdsE a r f = 0 := by
  unfold holdsE
  rw [if_neg (by simp [hw]), h]
theorem dF_ip {f : Fm} (h : WfF f) : ∃ c, dF f = .ip c := by
  cases f with
  | nil => exact h.elim
  | mk k s l => exact ⟨_, rfl⟩

set_option maxHeartbeats 16000000 in
theorem lholds_spec (G : Glob) (hA : HasArity G) (hG : HasErr G) (a r : Times) (hs : Small a r) (l : List Stp) (hn : ∀ x ∈ l, x.name.length < 2^60) : PureC Tryd.prog G 12 [dW a r, dStps l] (.v (.bool true)) := by
  have hsl := hs.len
  by_cases h1 : (40 : Int) < l.length
  · exact lholds_many G _ ⟨_, _, rfl⟩ l h1
  have hl40 : l.length ≤ 40 := by omega
  have hform := formula_spec G l (by omega)
  have hlf := lformula_spec G l h1
  have hnf := names_form l hn
  have hwf := form_wf l
  have hright := form_right l
  obtain ⟨cf, hcf⟩ := dF_ip hwf
  generalize formF l = f at hform hlf hnf hwf hright hcf
  by_cases hd : dpF f ≤ 20
  rotate_left
  · rw [decide_eq_false hd] at hlf
    refine PureC.of_body (tyOf_good _) Tryd.func12 rfl rfl (rs := [.tmp 4]) Tryd.results12 (by simp [Tryd.ntmps12]) fun X => ?_
    simp only [Tryd.ntmps12, List.map]
    refine AW_rg (tyOf_good _) [1, 2] [2] (fun _ _ => trivial) fun K' hK' => ?_
    repeat (refine sxf_next fun K2 hK2 => ?_; simp [dNum, dB, dW]; (repeat (refine ⟨by omega, ?_⟩)); refine hK2 _ ?_; clear hK2 K2)
    refine sxf_nil (hK' _ ?_)
    refine AW.st (by simp [dNum, dB, dW]; rfl) ?_
    clear hK' K'
    refine AW_rg (tyOf_good _) [1, 2, 5, 6, 7] [2] (fun _ _ => trivial) fun K' hK' => ?_
    repeat (refine sxf_next fun K2 hK2 => ?_; simp [dNum, dB, dStps]; (repeat (refine ⟨by omega, ?_⟩)); refine hK2 _ ?_; clear hK2 K2)
    refine sxf_next fun K2 hK2 => ?_
    simp [dNum, dB, dStps]
    refine callK.data (hlf) (by simp; rfl) (by first | exact D.leGo_refl _ | simp [takeMap, List.map_map, Function.comp_def, D.le, D.le.go, D.le_refl, D.leGo_refl, dNum, dB, dStps]) ?_
    refine hK2 _ ?_
    clear hK2 K2
    simp only [putd, upd_lst]
    repeat (refine sxf_next fun K2 hK2 => ?_; simp [dNum, dB, dStps]; (repeat (refine ⟨by omega, ?_⟩)); refine hK2 _ ?_; clear hK2 K2)
    refine sxf_nil (hK' _ ?_)
    refine AW.st (by simp [dNum, dB, dStps]; rfl) ?_
    clear hK' K'
    refine AW_then fun K1 hK1 => ?_
    refine AW_rg (tyOf_good _) [1, 2, 5, 35] [2] (fun _ _ => trivial) fun K' hK' => ?_
    repeat (refine sxf_next fun K2 hK2 => ?_; simp [dNum, dB]; (repeat (refine ⟨by omega, ?_⟩)); refine hK2 _ ?_; clear hK2 K2)
    refine sxf_nil (hK' _ ?_)
    refine AW.st (by simp [dNum, dB]; rfl) ?_
    clear hK' K'
    refine AW_cond true rfl (fun _ => ?_) (fun h => by cases h)
    refine AW_rg (tyOf_good _) [4] [] (fun _ _ => trivial) fun K' hK' => ?_
    repeat (refine sxf_next fun K2 hK2 => ?_; simp [dNum, dB]; (repeat (refine ⟨by omega, ?_⟩)); refine hK2 _ ?_; clear hK2 K2)
    refine sxf_nil (hK' _ ?_)
    refine AW.st (by simp [dNum, dB]; rfl) ?_
    clear hK' K'
    refine AW_ret ?_
    simp [D.le, D.le.go, takeMap, dNum, dB]
  rw [decide_eq_true hd] at hlf
  have hright := hright hd
  by_cases h14 : (14 : Int) < capS f
  · refine PureC.of_body (tyOf_good _) Tryd.func12 rfl rfl (rs := [.tmp 4]) Tryd.results12 (by simp [Tryd.ntmps12]) fun X => ?_
    simp only [Tryd.ntmps12, List.map]
    refine AW_rg (tyOf_good _) [1, 2] [2] (fun _ _ => trivial) fun K' hK' => ?_
    repeat (refine sxf_next fun K2 hK2 => ?_; simp [dNum, dB, dW]; (repeat (refine ⟨by omega, ?_⟩)); refine hK2 _ ?_; clear hK2 K2)
    refine sxf_nil (hK' _ ?_)
    refine AW.st (by simp [dNum, dB, dW]; rfl) ?_
    clear hK' K'
    refine AW_rg (tyOf_good _) [1, 2, 5, 6, 7] [2] (fun _ _ => trivial) fun K' hK' => ?_
    repeat (refine sxf_next fun K2 hK2 => ?_; simp [dNum, dB, dStps]; (repeat (refine ⟨by omega, ?_⟩)); refine hK2 _ ?_; clear hK2 K2)
    refine sxf_next fun K2 hK2 => ?_
    simp [dNum, dB, dStps]
    refine callK.data (hlf) (by simp; rfl) (by first | exact D.leGo_refl _ | simp [takeMap, List.map_map, Function.comp_def, D.le, D.le.go, D.le_refl, D.leGo_refl, dNum, dB, dStps]) ?_
    refine hK2 _ ?_
    clear hK2 K2
    simp only [putd, upd_lst]
    repeat (refine sxf_next fun K2 hK2 => ?_; simp [dNum, dB, dStps]; (repeat (refine ⟨by omega, ?_⟩)); refine hK2 _ ?_; clear hK2 K2)
    refine sxf_nil (hK' _ ?_)
    refine AW.st (by simp [dNum, dB, dStps]; rfl) ?_
    clear hK' K'
    refine AW_then fun K1 hK1 => ?_
    refine AW_rg (tyOf_good _) [1, 2, 5, 35] [2] (fun _ _ => trivial) fun K' hK' => ?_
    repeat (refine sxf_next fun K2 hK2 => ?_; simp [dNum, dB, h14]; (repeat (refine ⟨by omega, ?_⟩)); refine hK2 _ ?_; clear hK2 K2)
    refine sxf_nil (hK' _ ?_)
    refine AW.st (by simp [dNum, dB, h14]; rfl) ?_
    clear hK' K'
    refine AW_cond true rfl (fun _ => ?_) (fun h => by cases h)
    refine AW_rg (tyOf_good _) [4] [] (fun _ _ => trivial) fun K' hK' => ?_
    repeat (refine sxf_next fun K2 hK2 => ?_; simp [dNum, dB]; (repeat (refine ⟨by omega, ?_⟩)); refine hK2 _ ?_; clear hK2 K2)
    refine sxf_nil (hK' _ ?_)
    refine AW.st (by simp [dNum, dB]; rfl) ?_
    clear hK' K'
    refine AW_ret ?_
    simp [D.le, D.le.go, takeMap, dNum, dB]
  by_cases h70 : (70 : Int) < (a.length : Int) + (r.length : Int)
  · refine PureC.of_body (tyOf_good _) Tryd.func12 rfl rfl (rs := [.tmp 4]) Tryd.results12 (by simp [Tryd.ntmps12]) fun X => ?_
    simp only [Tryd.ntmps12, List.map]
    refine AW_rg (tyOf_good _) [1, 2] [2] (fun _ _ => trivial) fun K' hK' => ?_
    repeat (refine sxf_next fun K2 hK2 => ?_; simp [dNum, dB, dW]; (repeat (refine ⟨by omega, ?_⟩)); refine hK2 _ ?_; clear hK2 K2)
    refine sxf_nil (hK' _ ?_)
    refine AW.st (by simp [dNum, dB, dW]; rfl) ?_
    clear hK' K'
    refine AW_rg (tyOf_good _) [1, 2, 5, 6, 7] [2] (fun _ _ => trivial) fun K' hK' => ?_
    repeat (refine sxf_next fun K2 hK2 => ?_; simp [dNum, dB, dStps]; (repeat (refine ⟨by omega, ?_⟩)); refine hK2 _ ?_; clear hK2 K2)
    refine sxf_next fun K2 hK2 => ?_
    simp [dNum, dB, dStps]
    refine callK.data (hlf) (by simp; rfl) (by first | exact D.leGo_refl _ | simp [takeMap, List.map_map, Function.comp_def, D.le, D.le.go, D.le_refl, D.leGo_refl, dNum, dB, dStps]) ?_
    refine hK2 _ ?_
    clear hK2 K2
    simp only [putd, upd_lst]
    repeat (refine sxf_next fun K2 hK2 => ?_; simp [dNum, dB, dStps]; (repeat (refine ⟨by omega, ?_⟩)); refine hK2 _ ?_; clear hK2 K2)
    refine sxf_nil (hK' _ ?_)
    refine AW.st (by simp [dNum, dB, dStps]; rfl) ?_
    clear hK' K'
    refine AW_then fun K1 hK1 => ?_
    refine AW_rg (tyOf_good _) [1, 2, 5, 35] [2] (fun _ _ => trivial) fun K' hK' => ?_
    repeat (refine sxf_next fun K2 hK2 => ?_; simp [dNum, dB, h14, dTimes, h70]; (repeat (refine ⟨by omega, ?_⟩)); refine hK2 _ ?_; clear hK2 K2)
    refine sxf_nil (hK' _ ?_)
    refine AW.st (by simp [dNum, dB, h14, dTimes, h70]; rfl) ?_
    clear hK' K'
    refine AW_cond true rfl (fun _ => ?_) (fun h => by cases h)
    refine AW_rg (tyOf_good _) [4] [] (fun _ _ => trivial) fun K' hK' => ?_
    repeat (refine sxf_next fun K2 hK2 => ?_; simp [dNum, dB]; (repeat (refine ⟨by omega, ?_⟩)); refine hK2 _ ?_; clear hK2 K2)
    refine sxf_nil (hK' _ ?_)
    refine AW.st (by simp [dNum, dB]; rfl) ?_
    clear hK' K'
    refine AW_ret ?_
    simp [D.le, D.le.go, takeMap, dNum, dB]
  have hsz : ¬ 100 < szF f := by unfold capS at h14; omega
  rw [if_neg hsz] at hright
  have hwc := lwcheck_spec G a r hs
  have hck := wcheck_spec G a r hs
  have hb := bare_spec G hG (wordE a r)
  have hnmd := named_spec G 20 f hd hwf hnf
  refine PureC.of_body (tyOf_good _) Tryd.func12 rfl rfl (rs := [.tmp 4]) Tryd.results12 (by simp [Tryd.ntmps12]) fun X => ?_
  simp only [Tryd.ntmps12, List.map]
  refine AW_rg (tyOf_good _) [1, 2] [2] (fun _ _ => trivial) fun K' hK' => ?_
  repeat (refine sxf_next fun K2 hK2 => ?_; simp [dNum, dB, dW]; (repeat (refine ⟨by omega, ?_⟩)); refine hK2 _ ?_; clear hK2 K2)
  refine sxf_nil (hK' _ ?_)
  refine AW.st (by simp [dNum, dB, dW]; rfl) ?_
  clear hK' K'
  refine AW_rg (tyOf_good _) [1, 2, 5, 6, 7] [2] (fun _ _ => trivial) fun K' hK' => ?_
  repeat (refine sxf_next fun K2 hK2 => ?_; simp [dNum, dB, dStps]; (repeat (refine ⟨by omega, ?_⟩)); refine hK2 _ ?_; clear hK2 K2)
  refine sxf_next fun K2 hK2 => ?_
  simp [dNum, dB, dStps]
  refine callK.data (hlf) (by simp; rfl) (by first | exact D.leGo_refl _ | simp [takeMap, List.map_map, Function.comp_def, D.le, D.le.go, D.le_refl, D.leGo_refl, dNum, dB, dStps]) ?_
  refine hK2 _ ?_
  clear hK2 K2
  simp only [putd, upd_lst]
  repeat (refine sxf_next fun K2 hK2 => ?_; simp [dNum, dB, dStps]; (repeat (refine ⟨by omega, ?_⟩)); refine hK2 _ ?_; clear hK2 K2)
  refine sxf_nil (hK' _ ?_)
  refine AW.st (by simp [dNum, dB, dStps]; rfl) ?_
  clear hK' K'
  refine AW_then fun K1 hK1 => ?_
  refine AW_rg (tyOf_good _) [1, 2, 5, 35] [2] (fun _ _ => trivial) fun K' hK' => ?_
  repeat (refine sxf_next fun K2 hK2 => ?_; simp [dNum, dB, h14, dTimes, h70]; (repeat (refine ⟨by omega, ?_⟩)); refine hK2 _ ?_; clear hK2 K2)
  refine sxf_nil (hK' _ ?_)
  refine AW.st (by simp [dNum, dB, h14, dTimes, h70]; rfl) ?_
  clear hK' K'
  refine AW_cond false rfl (fun h => by cases h) (fun _ => ?_)
  refine AW_skip (hK1 _ ?_)
  refine AW_rg (tyOf_good _) [1, 2, 5, 8] [2, 8] (fun _ _ => trivial) fun K' hK' => ?_
  repeat (refine sxf_next fun K2 hK2 => ?_; simp [dNum, dB]; (repeat (refine ⟨by omega, ?_⟩)); refine hK2 _ ?_; clear hK2 K2)
  refine sxf_nil (hK' _ ?_)
  refine AW.st (by simp [dNum, dB]; rfl) ?_
  clear hK' K'
  refine AW.imp (Imp.freezeB 2 trivial) ?_
  refine AW.st (by simp [dNum, dB]; rfl) ?_
  refine AW.imp (Imp.freezeB 8 trivial) ?_
  refine AW.st (by simp [dNum, dB]; rfl) ?_
  refine AW_rg (tyOf_good _) [1, 2, 5, 8, 9] [] (fun _ _ => trivial) fun K' hK' => ?_
  repeat (refine sxf_next fun K2 hK2 => ?_; simp [dNum, dB, dW, dTimes]; (repeat (refine ⟨by omega, ?_⟩)); refine hK2 _ ?_; clear hK2 K2)
  refine sxf_next fun K2 hK2 => ?_
  simp [dNum, dB, dW, dTimes]
  refine callK.data (hwc) (by simp; rfl) (by first | exact D.leGo_refl _ | simp [takeMap, List.map_map, Function.comp_def, D.le, D.le.go, D.le_refl, D.leGo_refl, dNum, dB, dW, dTimes]) ?_
  refine hK2 _ ?_
  clear hK2 K2
  simp only [putd, upd_lst]
  repeat (refine sxf_next fun K2 hK2 => ?_; simp [dNum, dB, dW, dTimes]; (repeat (refine ⟨by omega, ?_⟩)); refine hK2 _ ?_; clear hK2 K2)
  refine sxf_nil (hK' _ ?_)
  refine AW.st (by simp [dNum, dB, dW, dTimes]; rfl) ?_
  clear hK' K'
  refine AW_then fun K2 hK2 => ?_
  refine AW_rg (tyOf_good _) [1, 2, 5, 8, 9, 47] [] (fun _ _ => trivial) fun K' hK' => ?_
  repeat (refine sxf_next fun K2 hK2 => ?_; simp [dNum, dB, dW, dTimes]; (repeat (refine ⟨by omega, ?_⟩)); refine hK2 _ ?_; clear hK2 K2)
  refine sxf_next fun K2 hK2 => ?_
  simp [dNum, dB, dW, dTimes]
  refine callK.data (hck) (by simp; rfl) (by first | exact D.leGo_refl _ | simp [takeMap, List.map_map, Function.comp_def, D.le, D.le.go, D.le_refl, D.leGo_refl, dNum, dB, dW, dTimes]) ?_
  refine hK2 _ ?_
  clear hK2 K2
  simp only [putd, upd_lst]
  repeat (refine sxf_next fun K2 hK2 => ?_; simp [dNum, dB, dW, dTimes]; (repeat (refine ⟨by omega, ?_⟩)); refine hK2 _ ?_; clear hK2 K2)
  refine sxf_next fun K2 hK2 => ?_
  simp [dNum, dB, dW, dTimes]
  refine callK.data (hb) (by simp; rfl) (by first | exact D.leGo_refl _ | simp [takeMap, List.map_map, Function.comp_def, D.le, D.le.go, D.le_refl, D.leGo_refl, dNum, dB, dW, dTimes]) ?_
  refine hK2 _ ?_
  clear hK2 K2
  simp only [putd, upd_lst]
  repeat (refine sxf_next fun K2 hK2 => ?_; simp [dNum, dB, dW, dTimes]; (repeat (refine ⟨by omega, ?_⟩)); refine hK2 _ ?_; clear hK2 K2)
  refine sxf_nil (hK' _ ?_)
  refine AW.st (by simp [dNum, dB, dW, dTimes]; rfl) ?_
  clear hK' K'
  refine AW_cond false rfl (fun h => by cases h) (fun _ => ?_)
  refine AW_skip (hK2 _ ?_)
  refine AW_then fun K3 hK3 => ?_
  refine (fun hbad hgood => ?_) (fun (σ : St) (ee : Int) (he : ee ≠ 0) (hE : holdsE a r f = ee) himp => hK3 σ (AW.imp (τ := ⟨lst [(1, .d (dStps l)), (2, .d (.ip [dTimes a, dTimes r])), (5, .d (dF f)), (8, .d (.ip [dTimes a, dTimes r])), (9, int ee)], hlst []⟩) himp ?_))
    (fun (σ : St) (hw : wordE a r = 0) (hnm : nmF f = true) himp => hK3 σ (AW.imp (τ := ⟨lst [(1, .d (dStps l)), (2, .d (.ip [dTimes a, dTimes r])), (5, .d (dF f)), (8, .d (.ip [dTimes a, dTimes r])), (9, int 0)], hlst []⟩) himp ?_))
  · by_cases hw : wordE a r = 0
    · rw [hw]
      cases hnm : nmF f with
      | false =>
        rw [hnm] at hnmd hright
        refine AW_rg (tyOf_good _) [1, 2, 5, 8, 9, 54] [] (fun _ _ => trivial) fun K' hK' => ?_
        repeat (refine sxf_next fun K2 hK2 => ?_; simp [dNum, dB]; (repeat (refine ⟨by omega, ?_⟩)); refine hK2 _ ?_; clear hK2 K2)
        refine sxf_next fun K2 hK2 => ?_
        simp [dNum, dB]
        refine callK.data (hnmd) (by simp; rfl) (by first | exact D.leGo_refl _ | simp [takeMap, List.map_map, Function.comp_def, D.le, D.le.go, D.le_refl, D.leGo_refl, dNum, dB]) ?_
        refine hK2 _ ?_
        clear hK2 K2
        simp only [putd, upd_lst]
        repeat (refine sxf_next fun K2 hK2 => ?_; simp [dNum, dB]; (repeat (refine ⟨by omega, ?_⟩)); refine hK2 _ ?_; clear hK2 K2)
        refine sxf_nil (hK' _ ?_)
        refine AW.st (by simp [dNum, dB]; rfl) ?_
        clear hK' K'
        refine AW_cond true rfl (fun _ => ?_) (fun h => by cases h)
        refine AW_re (tyOf_good _) fun K' hK' => ?_
        repeat (refine sxf_next fun K2 hK2 => ?_; simp [dNum, dB]; (repeat (refine ⟨by omega, ?_⟩)); refine hK2 _ ?_; clear hK2 K2)
        refine sxf_nil (hK' _ ?_)
        clear hK' K'
        try simp only [thn, inb]
        refine hbad _ 5 (by decide) (by unfold holdsE; rw [if_neg (by simp [hw]), hright]; rfl) ?_
        refine Imp.to' (fun _ _ => trivial) (by simp [dNum, dB, dStps, dTimes]) (by simp [dNum, dB, dStps, dTimes])
      | true =>
        rw [hnm] at hnmd
        refine AW_rg (tyOf_good _) [1, 2, 5, 8, 9, 54] [] (fun _ _ => trivial) fun K' hK' => ?_
        repeat (refine sxf_next fun K2 hK2 => ?_; simp [dNum, dB]; (repeat (refine ⟨by omega, ?_⟩)); refine hK2 _ ?_; clear hK2 K2)
        refine sxf_next fun K2 hK2 => ?_
        simp [dNum, dB]
        refine callK.data (hnmd) (by simp; rfl) (by first | exact D.leGo_refl _ | simp [takeMap, List.map_map, Function.comp_def, D.le, D.le.go, D.le_refl, D.leGo_refl, dNum, dB]) ?_
        refine hK2 _ ?_
        clear hK2 K2
        simp only [putd, upd_lst]
        repeat (refine sxf_next fun K2 hK2 => ?_; simp [dNum, dB]; (repeat (refine ⟨by omega, ?_⟩)); refine hK2 _ ?_; clear hK2 K2)
        refine sxf_nil (hK' _ ?_)
        refine AW.st (by simp [dNum, dB]; rfl) ?_
        clear hK' K'
        refine AW_cond false rfl (fun h => by cases h) (fun _ => ?_)
        refine AW_skip (hgood _ hw hnm ?_)
        refine Imp.to' (fun _ _ => trivial) (by simp [dNum, dB, dStps, dTimes]) (by simp [dNum, dB, dStps, dTimes])
    · refine AW_rg (tyOf_good _) [1, 2, 5, 8, 9, 54] [] (fun _ _ => trivial) fun K' hK' => ?_
      repeat (refine sxf_next fun K2 hK2 => ?_; simp [dNum, dB, hw]; (repeat (refine ⟨by omega, ?_⟩)); refine hK2 _ ?_; clear hK2 K2)
      refine sxf_nil (hK' _ ?_)
      refine AW.st (by simp [dNum, dB, hw]; rfl) ?_
      clear hK' K'
      refine AW_cond false rfl (fun h => by cases h) (fun _ => ?_)
      refine AW_skip (hbad _ (wordE a r) hw (by unfold holdsE; rw [if_pos hw]) ?_)
      refine Imp.to' (fun _ _ => trivial) (by simp [dNum, dB, dStps, dTimes]) (by simp [dNum, dB, dStps, dTimes])
  · have hbd := Holds_bad G hA a r hs f hnf (by rw [hE]; exact he)
    have hb2 := bare_spec G hG ee
    rw [hE] at hbd
    rw [errOf_ne he] at hbd hb2
    refine AW_rd (tyOf_good _) (by kernel_rfl) [2, 5, 8, 9, 10, 11] [] (fun _ _ => trivial) (by kernel_rfl) fun K' hK' => ?_
    repeat (refine sxd_next fun K2 hK2 => ?_; simp [dNum, dB, dW, dTimes]; (repeat (refine ⟨by omega, ?_⟩)); refine hK2 _ ?_; clear hK2 K2)
    refine sxd_next fun K2 hK2 => ?_
    simp [dNum, dB, dW, dTimes]
    refine callQ.data (hform) (by simp; rfl) (by simp; rfl) (by first | exact D.leGo_refl _ | simp [takeMap, List.map_map, Function.comp_def, D.le, D.le.go, D.le_refl, D.leGo_refl, dNum, dB, dW, dTimes]) ?_
    refine hK2 _ ?_
    clear hK2 K2
    simp only [putd, upd_lst]
    repeat (refine sxd_next fun K2 hK2 => ?_; simp [dNum, dB, dW, dTimes]; (repeat (refine ⟨by omega, ?_⟩)); refine hK2 _ ?_; clear hK2 K2)
    refine sxd_next fun K2 hK2 => ?_
    simp [dNum, dB, dW, dTimes]
    refine callQ.data (hbd) (by simp; rfl) (by simp; rfl) (by first | exact D.leGo_refl _ | simp [takeMap, List.map_map, Function.comp_def, D.le, D.le.go, D.le_refl, D.leGo_refl, dNum, dB, dW, dTimes]) ?_
    refine hK2 _ ?_
    clear hK2 K2
    simp only [putd, upd_lst]
    repeat (refine sxd_next fun K2 hK2 => ?_; simp [dNum, dB, dW, dTimes]; (repeat (refine ⟨by omega, ?_⟩)); refine hK2 _ ?_; clear hK2 K2)
    refine sxd_nil (hK' _ ?_)
    refine AW.st (by simp [dNum, dB, dW, dTimes]; rfl) ?_
    clear hK' K'
    refine AW_then fun K4 hK4 => ?_
    refine AW_rg (tyOf_good _) [2, 5, 8, 9, 10, 11, 63] [] (fun _ _ => trivial) fun K' hK' => ?_
    repeat (refine sxf_next fun K2 hK2 => ?_; simp [dNum, dB, he]; (repeat (refine ⟨by omega, ?_⟩)); refine hK2 _ ?_; clear hK2 K2)
    refine sxf_nil (hK' _ ?_)
    refine AW.st (by simp [dNum, dB, he]; rfl) ?_
    clear hK' K'
    refine AW_cond true rfl (fun _ => ?_) (fun h => by cases h)
    refine AW_rg (tyOf_good _) [4] [] (fun _ _ => trivial) fun K' hK' => ?_
    repeat (refine sxf_next fun K2 hK2 => ?_; simp [dNum, dB]; (repeat (refine ⟨by omega, ?_⟩)); refine hK2 _ ?_; clear hK2 K2)
    refine sxf_next fun K2 hK2 => ?_
    simp [dNum, dB]
    refine callK.data (hb2) (by simp; rfl) (by first | exact D.leGo_refl _ | simp [takeMap, List.map_map, Function.comp_def, D.le, D.le.go, D.le_refl, D.leGo_refl, dNum, dB]) ?_
    refine hK2 _ ?_
    clear hK2 K2
    simp only [putd, upd_lst]
    repeat (refine sxf_next fun K2 hK2 => ?_; simp [dNum, dB]; (repeat (refine ⟨by omega, ?_⟩)); refine hK2 _ ?_; clear hK2 K2)
    refine sxf_nil (hK' _ ?_)
    refine AW.st (by simp [dNum, dB]; rfl) ?_
    clear hK' K'
    refine AW_ret ?_
    simp [D.le, D.le.go, takeMap, dNum, dB]
  · rw [hnm] at hright
    have hE : holdsE a r f = 0 := holdsE_ok hw (by rw [hright]; rfl)
    have hgd := Holds_good G hA a r hs f hnf hE
    have hr0 : 0 < r.length := by
      unfold wordE at hw
      split at hw
      · cases hw
      · omega
    have hat := at_time G a r hr0 (by omega) (fun t ht => hs.times t ht) 20 f hd hwf hnm
    have hAl := holdsF_len a r hcf
    generalize holdsF a r f = A at hgd hat hAl
    rw [hcf] at hform hgd hat
    rw [hcf]
    refine AW_rd (tyOf_good _) (by kernel_rfl) [2, 5, 8, 9, 10, 11] [] (fun _ _ => trivial) (by kernel_rfl) fun K' hK' => ?_
    repeat (refine sxd_next fun K2 hK2 => ?_; simp [dNum, dB, dW, dTimes]; (repeat (refine ⟨by omega, ?_⟩)); refine hK2 _ ?_; clear hK2 K2)
    refine sxd_next fun K2 hK2 => ?_
    simp [dNum, dB, dW, dTimes]
    refine callQ.data (hform) (by simp; rfl) (by simp; rfl) (by first | exact D.leGo_refl _ | simp [takeMap, List.map_map, Function.comp_def, D.le, D.le.go, D.le_refl, D.leGo_refl, dNum, dB, dW, dTimes]) ?_
    refine hK2 _ ?_
    clear hK2 K2
    simp only [putd, upd_lst]
    repeat (refine sxd_next fun K2 hK2 => ?_; simp [dNum, dB, dW, dTimes]; (repeat (refine ⟨by omega, ?_⟩)); refine hK2 _ ?_; clear hK2 K2)
    refine sxd_next fun K2 hK2 => ?_
    simp [dNum, dB, dW, dTimes]
    refine callQ.data (hgd) (by simp; rfl) (by simp; rfl) (by first | exact D.leGo_refl _ | simp [takeMap, List.map_map, Function.comp_def, D.le, D.le.go, D.le_refl, D.leGo_refl, dNum, dB, dW, dTimes]) ?_
    refine hK2 _ ?_
    clear hK2 K2
    simp only [putd, upd_lst]
    repeat (refine sxd_next fun K2 hK2 => ?_; simp [dNum, dB, dW, dTimes]; (repeat (refine ⟨by omega, ?_⟩)); refine hK2 _ ?_; clear hK2 K2)
    refine sxd_nil (hK' _ ?_)
    refine AW.st (by simp [dNum, dB, dW, dTimes]; rfl) ?_
    clear hK' K'
    refine AW_then fun K4 hK4 => ?_
    refine AW_rg (tyOf_good _) [2, 5, 8, 9, 10, 11, 63] [] (fun _ _ => trivial) fun K' hK' => ?_
    repeat (refine sxf_next fun K2 hK2 => ?_; simp [dNum, dB]; (repeat (refine ⟨by omega, ?_⟩)); refine hK2 _ ?_; clear hK2 K2)
    refine sxf_nil (hK' _ ?_)
    refine AW.st (by simp [dNum, dB]; rfl) ?_
    clear hK' K'
    refine AW_cond false rfl (fun h => by cases h) (fun _ => ?_)
    refine AW_skip (hK4 _ ?_)
    have hN : (a.length : Int) + (r.length : Int) = ((a.length + r.length : Nat) : Int) := by omega
    generalize hn : a.length + r.length = n at hat hAl hN
    refine AW_rg (tyOf_good _) [5, 8, 10, 11, 12] [] (fun _ _ => trivial) fun K' hK' => ?_
    repeat (refine sxf_next fun K2 hK2 => ?_; simp [dNum, dB, dTimes, hN]; (repeat (refine ⟨by omega, ?_⟩)); refine hK2 _ ?_; clear hK2 K2)
    refine sxf_nil (hK' _ ?_)
    refine AW.st (by simp [dNum, dB, dTimes, hN]; rfl) ?_
    clear hK' K'
    refine AW_then fun K5 hK5 => ?_
    by_cases h8 : (8 : Int) < n
    · refine AW_rg (tyOf_good _) [5, 8, 10, 11, 12, 80] [] (fun _ _ => trivial) fun K' hK' => ?_
      repeat (refine sxf_next fun K2 hK2 => ?_; simp [dNum, dB, h8]; (repeat (refine ⟨by omega, ?_⟩)); refine hK2 _ ?_; clear hK2 K2)
      refine sxf_nil (hK' _ ?_)
      refine AW.st (by simp [dNum, dB, h8]; rfl) ?_
      clear hK' K'
      refine AW_cond true rfl (fun _ => ?_) (fun h => by cases h)
      refine AW_rg (tyOf_good _) [4] [] (fun _ _ => trivial) fun K' hK' => ?_
      repeat (refine sxf_next fun K2 hK2 => ?_; simp [dNum, dB]; (repeat (refine ⟨by omega, ?_⟩)); refine hK2 _ ?_; clear hK2 K2)
      refine sxf_nil (hK' _ ?_)
      refine AW.st (by simp [dNum, dB]; rfl) ?_
      clear hK' K'
      refine AW_ret ?_
      simp [D.le, D.le.go, takeMap, dNum, dB]
    refine AW_rg (tyOf_good _) [5, 8, 10, 11, 12, 80] [] (fun _ _ => trivial) fun K' hK' => ?_
    repeat (refine sxf_next fun K2 hK2 => ?_; simp [dNum, dB, h8]; (repeat (refine ⟨by omega, ?_⟩)); refine hK2 _ ?_; clear hK2 K2)
    refine sxf_nil (hK' _ ?_)
    refine AW.st (by simp [dNum, dB, h8]; rfl) ?_
    clear hK' K'
    refine AW_cond false rfl (fun h => by cases h) (fun _ => ?_)
    refine AW_skip (hK5 _ ?_)
    refine AW_then fun K6 hK6 => ?_
    refine AW_rg (tyOf_good _) [5, 8, 10, 12, 88] [] (fun _ _ => trivial) fun K' hK' => ?_
    repeat (refine sxf_next fun K2 hK2 => ?_; simp [dNum, dB, dBs, hAl]; (repeat (refine ⟨by omega, ?_⟩)); refine hK2 _ ?_; clear hK2 K2)
    refine sxf_nil (hK' _ ?_)
    refine AW.st (by simp [dNum, dB, dBs, hAl]; rfl) ?_
    clear hK' K'
    refine AW_cond false rfl (fun h => by cases h) (fun _ => ?_)
    refine AW_skip (hK6 _ ?_)
    refine AW_then fun K7 hK7 => ?_
    refine AW_rg (tyOf_good _) [5, 8, 10, 12, 13] [] (fun _ _ => trivial) fun K' hK' => ?_
    repeat (refine sxf_next fun K2 hK2 => ?_; simp [dNum, dB]; (repeat (refine ⟨by omega, ?_⟩)); refine hK2 _ ?_; clear hK2 K2)
    refine sxf_nil (hK' _ ?_)
    refine AW.st (by simp [dNum, dB]; rfl) ?_
    clear hK' K'
    refine AW_for (S := Nat) (fun i => i ≤ n) (fun i => ⟨lst [(5, .d (.ip cf)), (8, .d (.ip [dTimes a, dTimes r])), (10, .d (dBs A)), (12, int n), (13, int i)], hlst []⟩) (fun i => n - i) 0 ?_ (by omega) ?_
    · refine Imp.to' (fun _ _ => trivial) (by simp [dNum, dB, dTimes, dBs]) (by simp [dNum, dB, dTimes, dBs])
    · intro i hi
      refine AW_then fun K8 hK8 => ?_
      refine AW_rg (tyOf_good _) [5, 8, 10, 12, 13, 91] [] (fun _ _ => trivial) fun K' hK' => ?_
      repeat (refine sxf_next fun K2 hK2 => ?_; simp [dNum, dB]; (repeat (refine ⟨by omega, ?_⟩)); refine hK2 _ ?_; clear hK2 K2)
      refine sxf_nil (hK' _ ?_)
      refine AW.st (by simp [dNum, dB]; rfl) ?_
      clear hK' K'
      refine AW_cond' (b := i < n) (by simp [D.le, D.le.go, takeMap, dNum, dB]) (fun hc => ?_) (fun hc => ?_)
      · have hin : i < n := hc
        have hiA : i < A.length := by omega
        have hai := hat i hin
        rw [show atB A i = A[i] by simp [atB, List.getD_eq_getElem?_getD, hiA]] at hai
        refine AW_skip (hK8 _ ?_)
        refine AW_then fun K9 hK9 => ?_
        refine AW_block ?_
        refine AW_rd (tyOf_good _) (by kernel_rfl) [5, 8, 10, 12, 13, 102] [] (fun _ _ => trivial) (by kernel_rfl) fun K' hK' => ?_
        repeat (refine sxd_next fun K2 hK2 => ?_; simp [dNum, dB, dBs, dW, dTimes, hiA]; (repeat (refine ⟨by omega, ?_⟩)); refine hK2 _ ?_; clear hK2 K2)
        refine sxd_next fun K2 hK2 => ?_
        simp [dNum, dB, dBs, dW, dTimes, hiA]
        refine callQ.data (hai) (by simp; rfl) (by simp; rfl) (by first | exact D.leGo_refl _ | simp [takeMap, List.map_map, Function.comp_def, D.le, D.le.go, D.le_refl, D.leGo_refl, dNum, dB, dBs, dW, dTimes, hiA]) ?_
        refine hK2 _ ?_
        clear hK2 K2
        simp only [putd, upd_lst]
        repeat (refine sxd_next fun K2 hK2 => ?_; simp [dNum, dB, dBs, dW, dTimes, hiA]; (repeat (refine ⟨by omega, ?_⟩)); refine hK2 _ ?_; clear hK2 K2)
        refine sxd_nil (hK' _ ?_)
        refine AW.st (by simp [dNum, dB, dBs, dW, dTimes, hiA]; rfl) ?_
        clear hK' K'
        refine AW_cond false rfl (fun h => by cases h) (fun _ => ?_)
        refine AW_skip ?_
        refine hK9 _ (AW.norm [5, 8, 10, 12, 13] [] (fun _ _ => trivial) (AW.st (by simp [dNum, dB]; rfl) ?_))
        refine AW_re (tyOf_good _) fun K' hK' => ?_
        repeat (refine sxf_next fun K2 hK2 => ?_; simp [dNum, dB]; (repeat (refine ⟨by omega, ?_⟩)); refine hK2 _ ?_; clear hK2 K2)
        refine sxf_nil (hK' _ ?_)
        clear hK' K'
        try simp only [thn, inb]
        refine Again.mk (i + 1) (by omega) (by omega) ?_
        refine Imp.to' (fun _ _ => trivial) (by simp [dNum, dB, dTimes, dBs]) (by simp [dNum, dB, dTimes, dBs])
      · refine AW_exit (hK7 _ ?_)
        refine AW_rg (tyOf_good _) [4] [] (fun _ _ => trivial) fun K' hK' => ?_
        repeat (refine sxf_next fun K2 hK2 => ?_; simp [dNum, dB]; (repeat (refine ⟨by omega, ?_⟩)); refine hK2 _ ?_; clear hK2 K2)
        refine sxf_nil (hK' _ ?_)
        refine AW.st (by simp [dNum, dB]; rfl) ?_
        clear hK' K'
        refine AW_ret ?_
        simp [D.le, D.le.go, takeMap, dNum, dB]
#print axioms lholds_spec
end Go.Proofs.YtoikggboakojlaaDoor

/-
  Tables, as they are read.
-/
namespace Go.Proofs.YtoikggboakojlaaDoor
set_option linter.unusedSimpArgs false
set_option linter.unusedVariables false
open Go.Av Go.ChangeShapes Go.WideShapes Go.ChangeAt Go.RowKit

theorem law_own : ownKnob Tryd.prog.godebug = none := by kernel_rfl
theorem law_laidOut : laidOutB Tryd.prog = true := by kernel_rfl
theorem cells_int : Tryd.prog.cellsOf 3 = 1 := by kernel_rfl
theorem cells_ints : Tryd.prog.cellsOf 32 = 1 := by kernel_rfl
theorem cells_rows : Tryd.prog.cellsOf 23 = 1 := by kernel_rfl
theorem cells_tab : Tryd.prog.cellsOf 25 = 2 := by kernel_rfl

section
variable {H : Type} {enc : TypeId × Value → H} {w : World} {base : Nat} {spare : Nat → Bool} {held : Bool} {X : Nat → Prop}

theorem reads_ints (hX : ∀ b, ¬ X b) : ReadsAs enc Tryd.prog w base spare held X 32 (fun _ : List Int => True) (fun l => [dRow l]) := by
  intro fuel cs x h
  obtain ⟨l, _, hr⟩ := reads_slice Tryd.underlying32 cells_int (by omega) hX (reads_int Tryd.underlying3) fuel cs x h
  exact ⟨l, trivial, hr⟩
theorem reads_rows (hX : ∀ b, ¬ X b) : ReadsAs enc Tryd.prog w base spare held X 23 (fun _ : List (List Int) => True) (fun l => [dRows l]) := by
  intro fuel cs x h
  obtain ⟨l, _, hr⟩ := reads_slice Tryd.underlying23 cells_ints (by omega) hX (reads_ints hX) fuel cs x h
  exact ⟨l, trivial, hr⟩
theorem reads_tab (hX : ∀ b, ¬ X b) : ReadsAs enc Tryd.prog w base spare held X 25 (fun _ : List (List Int) × List (List Int) => True) (fun s => [dRows s.1, dRows s.2]) := by
  intro fuel cs x h
  obtain ⟨l, _, hr⟩ := reads_struct2 Tryd.underlying25 (by rw [cells_tab]; simp only [cells_rows]) rfl (by simp only [cells_rows]) (reads_rows hX) (reads_rows hX) fuel cs x h
  exact ⟨l, trivial, hr⟩
end

end Go.Proofs.YtoikggboakojlaaDoor

/-
  What is read, and how great it is at most: by what the arguments weigh.
-/
namespace Go.Proofs.YtoikggboakojlaaDoor
set_option linter.unusedSimpArgs false
set_option linter.unusedVariables false
open Go.Av Go.ChangeShapes Go.WideShapes Go.ChangeAt Go.RowKit
section
variable {P : Program} {H : Type} {enc : TypeId × Value → H} {w : World} {base : Nat} {spare : Nat → Bool} {held : Bool} {X : Nat → Prop}
theorem weightsAll_in {e : TypeId} : ∀ {l : List (DataW H)} {d : DataW H}, d ∈ l → ∀ n ∈ d.weights P e, n ∈ DataW.weightsAll P e l
  | [], _, h, _, _ => by cases h
  | d :: l, d', h, n, hn => by
    simp only [DataW.weightsAll, List.mem_append]
    rcases List.mem_cons.1 h with rfl | h
    · exact .inl hn
    · exact .inr (weightsAll_in h n hn)
/-- What is read of type t, if it weighs no more than a program may reach. -/
def ReadsW (enc : TypeId × Value → H) (P : Program) (w : World) (base : Nat) (spare : Nat → Bool) (held : Bool) (X : Nat → Prop) (t : TypeId) {α : Type} (p : α → Prop) (f : α → List D) : Prop :=
  ∀ fuel cs x, DataW.trod enc P w base spare held fuel t cs = some x → (∀ n ∈ x.1.weights P t, n ≤ reachBytes) → ∃ a, p a ∧ CellsRD w X cs (f a)
theorem ReadsAs.weighed {t : TypeId} {α : Type} {p : α → Prop} {f : α → List D} (h : ReadsAs enc P w base spare held X t p f) : ReadsW enc P w base spare held X t p f := fun fuel cs x hx _ => h fuel cs x hx
theorem readsW_string {t : TypeId} (ht : P.underlying t = some .string) : ReadsW enc P w base spare held X t (fun s : List UInt8 => s.length ≤ reachBytes) (fun s => [.v (.string (bs s))]) := by
  intro fuel cs x h hwt
  obtain ⟨s, rfl, rfl, _⟩ := DataW.trod_string ht h
  refine ⟨s.data.toList, hwt _ (by simp [DataW.weights]), .one ?_⟩
  have : bs s.data.toList = s := by cases s; simp [bs]
  rw [this]
  exact .v _
theorem readsW_slice {t e : TypeId} {α : Type} {p : α → Prop} {f : α → List D} {sz : Nat} (ht : P.underlying t = some (.slice e)) (hc : P.cellsOf e = sz) (hz : 0 < sz) (hby : 0 < P.bytesOf e) (hX : ∀ b, ¬ X b) (he : ReadsW enc P w base spare held X e p f) :
    ReadsW enc P w base spare held X t (fun l : List α => (∀ a ∈ l, p a) ∧ l.length ≤ reachBytes) (fun l => [.sl none (l.map f)]) := by
  intro fuel cs x h hwt
  rcases Deep.open_slice ht h with ⟨rfl, _⟩ | ⟨a, len, cap, m, n, DD, PP, rfl, hb, hl, hm, hmm, rfl, hx⟩
  · exact ⟨[], ⟨by simp, by simp⟩, .one (.nil (by simp))⟩
  · have hle : len ≤ m := by rw [hmm]; split <;> omega
    simp only [DataW.weights, ht, List.mem_cons, List.mem_append, List.length_map, List.length_range] at hwt
    have hlr : len ≤ reachBytes := by
      have h1 := hwt _ (.inl rfl)
      have h2 : len * 1 ≤ (len + (m - len)) * P.bytesOf e := Nat.mul_le_mul (by omega) hby
      omega
    have hdw : ∀ i, i < len → ∀ n ∈ (DD i).weights P e, n ≤ reachBytes := fun i hi n hn => hwt n (.inr (.inl (weightsAll_in (List.mem_map.2 ⟨i, List.mem_range.2 hi, rfl⟩) n hn)))
    rcases Nat.eq_zero_or_pos len with rfl | hpos
    · exact ⟨[], ⟨by simp, by simp⟩, .one (.empty (by simp) hm)⟩
    · have hel : ∀ i, i < len → ∃ x, p x ∧ ∃ cs', w.cells? base (a.add (i * P.cellsOf e)) (P.cellsOf e) = some cs' ∧ CellsRD w X cs' (f x) := fun i hi => by
        obtain ⟨cs', h1, h2⟩ := hx i (by omega)
        obtain ⟨x, hp, hr⟩ := he _ _ _ h2 (hdw i hi)
        exact ⟨x, hp, cs', h1, hr⟩
      have : Inhabited α := ⟨(hel 0 hpos).choose⟩
      obtain ⟨g, hg⟩ := Deep.choose_lt hel
      refine ⟨(List.range len).map g, ⟨fun y hy => ?_, by simp; omega⟩, .one ?_⟩
      · obtain ⟨i, hi, rfl⟩ := List.mem_map.1 hy
        exact (hg i (List.mem_range.1 hi)).1
      rw [hc] at hg
      have hcell : ∀ i j, i < len → j < sz → ∃ u, w.cell? ((a.add (i * sz)).add j) = some u ∧ (∀ c, (f (g i))[j]? = some c → RD w X u c) ∧ (f (g i)).length = sz := fun i j hi hj => by
        obtain ⟨_, cs', h1, h2, h3⟩ := hg i hi
        obtain ⟨_, hlen, hcs⟩ := World.cells?_some h1
        refine ⟨cs'[j], by rw [hcs j hj]; simp [hlen, hj], fun c hcc => h3 j _ c (by simp [hlen, hj]) hcc, by omega⟩
      have hspot : a.spot = none := by
        obtain ⟨u, hu, _⟩ := hcell 0 0 hpos hz
        simp only [Nat.zero_mul, Addr.add, if_true] at hu
        exact World.cell?_spot hu
      obtain ⟨b, off, spot⟩ := a
      dsimp only at hspot
      subst hspot
      have hcell : ∀ i j, i < len → j < sz → ∃ u, w.cell? ⟨b, off + (i * sz + j), none⟩ = some u ∧ (∀ c, (f (g i))[j]? = some c → RD w X u c) ∧ (f (g i)).length = sz := fun i j hi hj => by
        have := hcell i j hi hj
        rwa [addr_add, addr_add, Nat.add_assoc] at this
      refine .sl (f := fun i j => (w.cell? ⟨b, off + (i * sz + j), none⟩).getD undef) (by simp) (by simp) hl hm (hX b) (fun el hel => ?_) hz hpos (fun i j hi hj => ?_) (fun i j el c h1 h2 => ?_)
      · obtain ⟨y, hy, rfl⟩ := List.mem_map.1 hel
        obtain ⟨i, hi, rfl⟩ := List.mem_map.1 hy
        exact (hcell i 0 (List.mem_range.1 hi) hz).choose_spec.2.2
      · obtain ⟨u, hu, _⟩ := hcell i j hi hj
        rw [hu]; rfl
      · rw [List.getElem?_map, List.getElem?_map] at h1
        obtain ⟨y, hy, rfl⟩ := Option.map_eq_some_iff.1 h1
        obtain ⟨i', hi', rfl⟩ := Option.map_eq_some_iff.1 hy
        obtain ⟨hlt, rfl⟩ := List.getElem?_eq_some_iff.1 hi'
        rw [List.getElem_range] at h2
        simp only [List.length_range] at hlt
        have hj : j < sz := by
          obtain ⟨_, _, _, h3⟩ := hcell i 0 hlt hz
          rw [← h3]
          exact (List.getElem?_eq_some_iff.1 h2).1
        obtain ⟨u, hu, hr, _⟩ := hcell i j hlt hj
        rw [hu]
        exact hr c h2

theorem readsW_struct2 {t : TypeId} {f0 f1 : Field} {α β : Type} {p : α → Prop} {q : β → Prop} {f : α → List D} {g : β → List D} (ht : P.underlying t = some (.struct #[f0, f1])) (hn : P.cellsOf t = P.cellsOf f0.type + P.cellsOf f1.type) (h0 : f0.offset = 0) (h1 : f1.offset = P.cellsOf f0.type)
    (hf : ReadsW enc P w base spare held X f0.type p f) (hg : ReadsW enc P w base spare held X f1.type q g) : ReadsW enc P w base spare held X t (fun s : α × β => p s.1 ∧ q s.2) (fun s => f s.1 ++ g s.2) := by
  intro fuel cs x h hwt
  obtain ⟨y0, y1, n, hx, hl, t0, t1⟩ := trod_struct2 ht h
  subst hx
  simp only [DataW.weights, ht, DataW.weightsEach, List.map_cons, List.map_nil, List.mem_append, List.append_nil] at hwt
  obtain ⟨a, pa, ca⟩ := hf _ _ _ t0 fun n hn => hwt n (.inl hn)
  obtain ⟨b, pb, cb⟩ := hg _ _ _ t1 fun n hn => hwt n (.inr hn)
  refine ⟨(a, b), ⟨pa, pb⟩, ?_⟩
  have e0 : cs = (cs.drop f0.offset).take (P.cellsOf f0.type) ++ (cs.drop f1.offset).take (P.cellsOf f1.type) := by
    rw [h0, h1, List.drop_zero, List.take_of_length_le (l := List.drop _ _) (by simp; omega), List.take_append_drop]
  rw [e0]
  obtain ⟨la, ra⟩ := ca
  obtain ⟨lb, rb⟩ := cb
  refine ⟨by rw [List.length_append, List.length_append, la, lb], fun j u c hu hc => ?_⟩
  rcases Nat.lt_or_ge j (f a).length with hj | hj
  · rw [List.getElem?_append_left (by omega)] at hu hc
    exact ra j u c hu hc
  · rw [List.getElem?_append_right (by omega)] at hu hc
    rw [la] at hu
    exact rb _ u c hu hc

end
end Go.Proofs.YtoikggboakojlaaDoor

/-
  Words and steps, as they are read, and how great they are at most.
-/
namespace Go.Proofs.YtoikggboakojlaaDoor
set_option linter.unusedSimpArgs false
set_option linter.unusedVariables false
open Go.Av Go.ChangeShapes Go.WideShapes Go.ChangeAt Go.RowKit

theorem cells_str : Tryd.prog.cellsOf 9 = 1 := by kernel_rfl
theorem cells_strs : Tryd.prog.cellsOf 75 = 1 := by kernel_rfl
theorem cells_times : Tryd.prog.cellsOf 68 = 1 := by kernel_rfl
theorem cells_word : Tryd.prog.cellsOf 70 = 2 := by kernel_rfl
theorem cells_step : Tryd.prog.cellsOf 126 = 4 := by kernel_rfl
theorem by_str : 0 < Tryd.prog.bytesOf 9 := by
  have h : Tryd.prog.bytesOf 9 = 16 := by kernel_rfl
  omega
theorem by_strs : 0 < Tryd.prog.bytesOf 75 := by
  have h : Tryd.prog.bytesOf 75 = 24 := by kernel_rfl
  omega
theorem list4 {α : Type} : ∀ {l : List α}, l.length = 4 → ∃ a b c d, l = [a, b, c, d]
  | [a, b, c, d], _ => ⟨a, b, c, d, rfl⟩
theorem by_step : 0 < Tryd.prog.bytesOf 126 := by
  have h : Tryd.prog.bytesOf 126 = 40 := by kernel_rfl
  omega
section
variable {H : Type} {enc : TypeId × Value → H} {w : World} {base : Nat} {spare : Nat → Bool} {held : Bool} {X : Nat → Prop}
theorem readsW_names (hX : ∀ b, ¬ X b) : ReadsW enc Tryd.prog w base spare held X 75 (fun l : List (List UInt8) => (∀ s ∈ l, s.length ≤ reachBytes) ∧ l.length ≤ reachBytes) (fun l => [dNames l]) := readsW_slice Tryd.underlying75 cells_str (by omega) by_str hX (readsW_string Tryd.underlying9)
theorem readsW_times (hX : ∀ b, ¬ X b) : ReadsW enc Tryd.prog w base spare held X 68 (fun l : Times => (∀ t ∈ l, (∀ s ∈ t, s.length ≤ reachBytes) ∧ t.length ≤ reachBytes) ∧ l.length ≤ reachBytes) (fun l => [dTimes l]) := readsW_slice Tryd.underlying68 cells_strs (by omega) by_strs hX (readsW_names hX)
theorem readsW_word (hX : ∀ b, ¬ X b) : ReadsW enc Tryd.prog w base spare held X 70 (fun s : Times × Times => Small s.1 s.2) (fun s => [dTimes s.1, dTimes s.2]) := by
  intro fuel cs x h hwt
  obtain ⟨s, ⟨⟨a1, a2⟩, b1, b2⟩, hr⟩ := readsW_struct2 Tryd.underlying70 (by rw [cells_word]; simp only [cells_times]) rfl (by simp only [cells_times]) (readsW_times hX) (readsW_times hX) fuel cs x h hwt
  have hb : reachBytes < 2^47 := by decide
  refine ⟨s, ⟨by omega, fun t ht => ?_, fun t ht q hq => ?_⟩, hr⟩
  · rcases List.mem_append.1 ht with ht | ht
    · have := (a1 t ht).2; omega
    · have := (b1 t ht).2; omega
  · rcases List.mem_append.1 ht with ht | ht
    · have := (a1 t ht).1 q hq; omega
    · have := (b1 t ht).1 q hq; omega
theorem trod_struct4 {P : Program} {t : TypeId} {f0 f1 f2 f3 : Field} {fuel : Nat} {cs : List Value} {x : DataW H × List MemPlace} (ht : P.underlying t = some (.struct #[f0, f1, f2, f3])) (h : DataW.trod enc P w base spare held fuel t cs = some x) :
    ∃ y0 y1 y2 y3 n, x.1 = .agg [y0.1, y1.1, y2.1, y3.1] ∧ cs.length = P.cellsOf t ∧ DataW.trod enc P w base spare held n f0.type ((cs.drop f0.offset).take (P.cellsOf f0.type)) = some y0 ∧ DataW.trod enc P w base spare held n f1.type ((cs.drop f1.offset).take (P.cellsOf f1.type)) = some y1 ∧
      DataW.trod enc P w base spare held n f2.type ((cs.drop f2.offset).take (P.cellsOf f2.type)) = some y2 ∧ DataW.trod enc P w base spare held n f3.type ((cs.drop f3.offset).take (P.cellsOf f3.type)) = some y3 := by
  obtain ⟨xs, n, _, rfl, hl, hlen, hf⟩ := DataW.trod_struct ht h
  obtain ⟨y0, y1, y2, y3, rfl⟩ := list4 hlen
  exact ⟨y0, y1, y2, y3, n, by simp, hl, by simpa using hf 0 f0 rfl, by simpa using hf 1 f1 rfl, by simpa using hf 2 f2 rfl, by simpa using hf 3 f3 rfl⟩
theorem readsW_step : ReadsW enc Tryd.prog w base spare held X 126 (fun x : Stp => x.name.length ≤ reachBytes) (fun x => [dNum x.kind, dNum x.a, dNum x.b, dS x.name]) := by
  intro fuel cs x h hwt
  obtain ⟨y0, y1, y2, y3, n, hx, hl, t0, t1, t2, t3⟩ := trod_struct4 Tryd.underlying126 h
  rw [cells_step] at hl
  obtain ⟨c0, c1, c2, c3, rfl⟩ := list4 hl
  rw [hx] at hwt
  · simp only [cells_int] at t0 t1 t2
    simp only [cells_str] at t3
    obtain ⟨n0, e0, _, _⟩ := DataW.trod_int Tryd.underlying3 (show DataW.trod enc Tryd.prog w base spare held n 3 [c0] = some y0 from t0)
    obtain ⟨n1, e1, _, _⟩ := DataW.trod_int Tryd.underlying3 (show DataW.trod enc Tryd.prog w base spare held n 3 [c1] = some y1 from t1)
    obtain ⟨n2, e2, _, _⟩ := DataW.trod_int Tryd.underlying3 (show DataW.trod enc Tryd.prog w base spare held n 3 [c2] = some y2 from t2)
    obtain ⟨s, e3, e4, _⟩ := DataW.trod_string Tryd.underlying9 (show DataW.trod enc Tryd.prog w base spare held n 9 [c3] = some y3 from t3)
    simp only [List.cons.injEq, and_true] at e0 e1 e2 e3
    subst e0 e1 e2 e3
    have hb : bs s.data.toList = s := by cases s; simp [bs]
    refine ⟨⟨n0, n1, n2, s.data.toList⟩, hwt _ ?_, rfl, fun j u c hu hc => ?_⟩
    · rw [e4]
      simp [DataW.weights, Tryd.underlying126, DataW.weightsEach]
    · match j, hu, hc with
      | 0, hu, hc => simp at hu hc; subst hu hc; exact .v _
      | 1, hu, hc => simp at hu hc; subst hu hc; exact .v _
      | 2, hu, hc => simp at hu hc; subst hu hc; exact .v _
      | 3, hu, hc => simp [dS, hb] at hu hc; subst hu hc; exact .v _
      | j + 4, hu, hc => simp at hu
theorem readsW_steps (hX : ∀ b, ¬ X b) : ReadsW enc Tryd.prog w base spare held X 71 (fun l : List Stp => (∀ x ∈ l, x.name.length ≤ reachBytes) ∧ l.length ≤ reachBytes) (fun l => [dStps l]) := readsW_slice Tryd.underlying71 cells_step (by omega) by_step hX readsW_step
end
end Go.Proofs.YtoikggboakojlaaDoor

/-
  Package-level variables that are laid: errors.errorType, and lasso's arity.
-/
namespace Go.Proofs.YtoikggboakojlaaDoor
set_option linter.unusedSimpArgs false
set_option linter.unusedVariables false
open Go.Av Go.ChangeShapes Go.WideShapes Go.ChangeAt Go.RowKit

theorem laid_et : Tryd.prog.globalNamed "errors.errorType" = some 1 := by kernel_rfl
theorem laid_rt : (Tryd.prog.cutTypes.find? (·.1 == "internal/reflectlite.rtype")).map (·.2) = some 177 := by kernel_rfl
theorem laid_oneRow : ((List.range (333 - 100)).filter fun t => Tryd.prog.rowNamed t [101, 114, 114, 111, 114]) = [34] := by kernel_rfl
theorem laid_size : Tryd.prog.types.size = 333 - 100 := by kernel_rfl
theorem laid_ar : Tryd.prog.globalNamed "signalcabin/lasso.arity" = some 2 := by kernel_rfl
theorem laid_arT : (Tryd.prog.globals[2]?).map (·.type) = some 170 := by kernel_rfl
theorem cells_ar : Tryd.prog.cellsOf 170 = 11 := by kernel_rfl

def laidE : List (String × DataW Unit) := [("errors.errorType", Rows.laid_errors_errorType)]
def laidA : List (String × DataW Unit) := [("signalcabin/lasso.arity", Rows.laid_signalcabin_lasso_arity)]

theorem handle_of_met {W : World} (h : handlesMet Tryd.prog laidE W) : W.cell? ⟨1, 0, none⟩ = some errType := by
  obtain ⟨name, u, ty, e1, e2, e3, e4, e5⟩ := h _ (List.mem_singleton.2 rfl)
  have en : name = [101, 114, 114, 111, 114] := (Option.some.inj e1).symm
  subst en
  obtain rfl := Option.some.inj (laid_rt.symm.trans e2)
  have hm : ty ∈ (List.range (333 - 100)).filter fun t => Tryd.prog.rowNamed t [101, 114, 114, 111, 114] := List.mem_filter.2 ⟨List.mem_range.2 (by rw [← laid_size]; exact e3), e4⟩
  rw [laid_oneRow] at hm
  obtain rfl := List.mem_singleton.1 hm
  have hh : typeHandle Tryd.prog 34 = .pointer (some ⟨6, 34, none⟩) := by kernel_rfl
  rw [hh] at e5
  simpa [errType] using World.var?_cell laid_et e5 0

theorem laid_ar_lits : (Rows.laid_signalcabin_lasso_arity : DataW Unit) = .agg (arityL.map fun n => .lit (.int .i64 n)) := rfl
theorem arity_of_met {W : World} (h : laidMet Tryd.prog laidA W) : ∀ i n, arityL[i]? = some n → W.cell? ⟨2, i, none⟩ = some (.int .i64 n) := by
  intro i n hin
  obtain ⟨ps, hv, _, _⟩ := h
  obtain ⟨g, t, cs, fuel, p, q, hg, ht, hcs, htr, _, _⟩ := hv
  obtain rfl := Option.some.inj (laid_ar.symm.trans hg)
  obtain rfl := Option.some.inj (laid_arT.symm.trans ht)
  obtain ⟨xs, m, _, hx, hl, hxl, hel⟩ := DataW.trod_array Tryd.underlying170 htr
  have hd : (Rows.laid_signalcabin_lasso_arity : DataW Unit) = .agg (xs.map (·.1)) := congrArg (·.1) hx
  rw [laid_ar_lits, DataW.agg.injEq] at hd
  have hi : i < 11 := (List.getElem?_eq_some_iff.1 hin).1
  have he := hel i hi
  rw [cells_int, Nat.mul_one] at he
  have hxi : i < xs.length := by omega
  rw [List.getElem?_eq_getElem hxi] at he
  obtain ⟨k, e1, e2, _⟩ := DataW.trod_int Tryd.underlying3 he
  have hk := congrArg (fun l => l[i]?) hd
  simp only [List.getElem?_map, hin, List.getElem?_eq_getElem hxi, Option.map_some, e2, Option.some.injEq, DataW.lit.injEq, Lit.int.injEq, true_and] at hk
  subst hk
  have c0 : cs[i]? = some (.int .i64 n) := by
    have h0 : ((cs.toList.drop i).take (Tryd.prog.cellsOf 3))[0]? = some (.int .i64 n) := by rw [cells_int, e1]; rfl
    rw [cells_int] at h0
    simpa using h0
  rw [World.var?_cell laid_ar hcs i]
  exact c0

theorem RD.ints {W : World} {X : Nat → Prop} {g : Nat} {l : List Int} (hX : ∀ b, ¬ X b) (hl : 0 < l.length) (h : ∀ i n, l[i]? = some n → W.cell? ⟨g, i, none⟩ = some (.int .i64 n)) : RD W X (.pointer (some ⟨g, 0, none⟩)) (.ip (l.map dNum)) := by
  refine .ip (f := fun j => .int .i64 (l.getD j 0)) (hX _) (cell_lt (h 0 l[0] (by simp [hl]))) (fun j hj => ?_) fun j c hc => ?_
  · rw [List.length_map] at hj
    have := h j l[j] (by simp [hj])
    simpa [hj] using this
  · rw [List.getElem?_map] at hc
    cases hj : l[j]? with
    | none => rw [hj] at hc; cases hc
    | some n =>
      rw [hj] at hc
      obtain rfl := Option.some.inj hc
      rw [List.getD_eq_getElem?_getD, hj]
      exact .v _
def globEA : Glob := fun g => if g = 1 then some (.ip [.v errType]) else if g = 2 then some (.ip (arityL.map dNum)) else none
theorem globEA_err : HasErr globEA := rfl
theorem globEA_arity : HasArity globEA := rfl
theorem globEA_ok {W : World} (ha : laidMet Tryd.prog laidA W) (he : handlesMet Tryd.prog laidE W) : ∀ g x, globEA g = some x → RD W (fun _ => False) (.pointer (some ⟨g, 0, none⟩)) x := fun g x hx => by
  unfold globEA at hx
  split at hx
  · rename_i hg
    subst hg
    obtain rfl := Option.some.inj hx
    exact RD.cell1 (by simp) (handle_of_met he)
  · split at hx
    · rename_i hg
      subst hg
      obtain rfl := Option.some.inj hx
      exact RD.ints (by simp) (by decide) (arity_of_met ha)
    · cases hx
end Go.Proofs.YtoikggboakojlaaDoor
