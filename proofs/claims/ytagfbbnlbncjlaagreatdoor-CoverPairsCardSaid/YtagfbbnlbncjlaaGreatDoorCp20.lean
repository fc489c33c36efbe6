/-
  Texts that belong together, in one file: A7, V6, V8, W3, C1, C2, C3, P12, PG, S2, RN, GA4, U1.
-/
import Derived.Test.YtagfbbnlbncjlaaGreatDoorCp19
/-
  ExprParse, and what ExprParses says.
-/
namespace Go.Proofs.YtagfbbnlbncjlaaGreatDoor
set_option linter.unusedSimpArgs false
set_option linter.unusedVariables false
open Go.Av

theorem renH_two2 {r r' s : Nat} (h : r ≠ r') (hs : s ≠ r') (hr : s ≠ r) (row row2 : Row) : renH r r' (hlst [(s, row2), (r, row)]) = hlst [(s, row2.tr (renO r r') (renF r r')), (r', row.tr (renO r r') (renF r r'))] := by
  funext q
  unfold renH
  by_cases h1 : q = r'
  · subst h1
    simp [hlst, List.lookup, beq_eq_false_iff_ne.2 (Ne.symm hs), beq_eq_false_iff_ne.2 (Ne.symm hr)]
  · rw [if_neg h1]
    by_cases h2 : q = r
    · subst h2
      simp [hlst, List.lookup, beq_eq_false_iff_ne.2 h1, beq_eq_false_iff_ne.2 (Ne.symm hr)]
    · by_cases h3 : q = s
      · subst h3
        simp [hlst, List.lookup, h2, beq_eq_false_iff_ne.2 h1, beq_eq_false_iff_ne.2 h2]
      · simp [hlst, List.lookup, h2, beq_eq_false_iff_ne.2 h1, beq_eq_false_iff_ne.2 h2, beq_eq_false_iff_ne.2 h3]
def dOR : Option Ex → D
  | some x => dR x
  | none => .v (.pointer none)
theorem whole_reads (G : Glob) (t : List UInt8) (ht : t.length ≤ 2000) : Reads G t [500] [] 66 [.ref 500 0 0, .d (dNum 0)] 20 (orR t (oneR t 20)) :=
  pwhole_spec G t ht 0 20 (piece_spec G t ht 20 0 (Nat.le_refl _) rfl)
theorem parse_pos {t : List UInt8} {c : Int} {p : Option Nat} (h : (parseM t).2 = some (c, p)) : 0 < c := by
  unfold parseM at h
  split at h
  · simp at h; omega
  · rename_i hl
    obtain ⟨yF, kF, hr⟩ := whole_reads (fun _ => none) t (by omega)
    split at h
    · rename_i c' p' q' he
      simp at h
      have := (hr 0 (Nat.zero_le _)).2 _ _ _ he
      omega
    · split at h
      · simp at h; omega
      · cases h
theorem parse_none {t : List UInt8} {e : Int × Option Nat} (h : (parseM t).2 = some e) : (parseM t).1 = none := by
  unfold parseM at h ⊢
  split at h
  · rw [if_pos ‹_›]
  · rw [if_neg ‹_›]
    split at h
    · rfl
    · split at h
      · rw [if_pos ‹_›]
      · cases h
theorem parse_some {t : List UInt8} (h : (parseM t).2 = none) : ∃ x, (parseM t).1 = some x := by
  unfold parseM at h ⊢
  split at h
  · cases h
  · rw [if_neg ‹_›]
    split at h
    · cases h
    · split at h
      · cases h
      · rw [if_neg ‹_›]
        exact ⟨_, rfl⟩

set_option maxHeartbeats 8000000 in
theorem rparse_spec (G : Glob) (hF : HasFine G) (t : List UInt8) (ht : t.length < 2^60) : PureC Tryz.prog G 30 [dS t] (.tup [dOR (parseM t).1, dFault (parseM t).2]) := by
  unfold parseM
  unfold HasFine at hF
  by_cases hl : 2000 < t.length
  · have hl' : (2000 : Int) < (t.length : Int) := by omega
    have hb := bare0_spec G 4
    rw [if_pos hl]
    refine PureC.of_body (tyOf_good _) Tryz.func30 rfl rfl (rs := [.tmp 2, .cell 3 73]) Tryz.results30 (by simp [Tryz.ntmps30]) fun X => ?_
    simp only [Tryz.ntmps30, List.map]
    refine AW_rg (tyOf_good _) [0, 3] [3] (fun _ _ => trivial) fun K' hK' => ?_
    repeat (refine sxf_next fun K2 hK2 => ?_; simp [dNum, pRow, dS]; (repeat (refine ⟨by omega, ?_⟩)); refine hK2 _ ?_; clear hK2 K2)
    refine sxf_nil (hK' _ ?_)
    refine AW.st (by simp [dNum, pRow, dS]; rfl) ?_
    clear hK' K'
    refine AW_then fun K1 hK1 => ?_
    refine AW_rg (tyOf_good _) [0, 3, 8] [3] (fun _ _ => trivial) fun K' hK' => ?_
    repeat (refine sxf_next fun K2 hK2 => ?_; simp [dNum, pRow, dS, bs_size, hl, hl']; (repeat (refine ⟨by omega, ?_⟩)); refine hK2 _ ?_; clear hK2 K2)
    refine sxf_nil (hK' _ ?_)
    refine AW.st (by simp [dNum, pRow, dS, bs_size, hl, hl']; rfl) ?_
    clear hK' K'
    refine AW_cond true rfl (fun _ => ?_) (fun h => by cases h)
    refine AW_rg (tyOf_good _) [2, 3] [3] (fun _ _ => trivial) fun K' hK' => ?_
    repeat (refine sxf_next fun K2 hK2 => ?_; simp [dNum, pRow, dS]; (repeat (refine ⟨by omega, ?_⟩)); refine hK2 _ ?_; clear hK2 K2)
    refine sxf_next fun K2 hK2 => ?_
    simp [dNum, pRow, dS]
    refine callK.data (hb) (by simp; rfl) (by first | exact D.leGo_refl _ | simp [takeMap, List.map_map, Function.comp_def, D.le, D.le.go, D.le_refl, D.leGo_refl, dNum, pRow, dS]) ?_
    refine hK2 _ ?_
    clear hK2 K2
    simp only [putd, upd_lst]
    repeat (refine sxf_next fun K2 hK2 => ?_; simp [dNum, pRow, dS]; (repeat (refine ⟨by omega, ?_⟩)); refine hK2 _ ?_; clear hK2 K2)
    refine sxf_nil (hK' _ ?_)
    refine AW.st (by simp [dNum, pRow, dS]; rfl) ?_
    clear hK' K'
    refine AW_ret ?_
    simp [D.le, D.le.go, takeMap, dNum, pRow, dS, dOR, dFault, codeF, placeF]
  have hl' : ¬ (2000 : Int) < (t.length : Int) := by omega
  rw [if_neg hl]
  obtain ⟨yF, kF, hr⟩ := whole_reads G t (by omega)
  have hc := (hr 0 (Nat.zero_le _)).1
  have he := (hr 0 (Nat.zero_le _)).2
  cases ho : orR t (oneR t 20) 0 with
  | err c p q =>
    rw [ho] at hc
    obtain ⟨h1, h2, h3⟩ := he _ _ _ ho
    have h0 : ¬ c = 0 := by omega
    generalize yF 0 = y at hc h2
    generalize kF 0 = k at hc h3
    refine PureC.of_body (tyOf_good _) Tryz.func30 rfl rfl (rs := [.tmp 2, .cell 3 73]) Tryz.results30 (by simp [Tryz.ntmps30]) fun X => ?_
    simp only [Tryz.ntmps30, List.map]
    refine AW_rg (tyOf_good _) [0, 3] [3] (fun _ _ => trivial) fun K' hK' => ?_
    repeat (refine sxf_next fun K2 hK2 => ?_; simp [dNum, pRow, dS]; (repeat (refine ⟨by omega, ?_⟩)); refine hK2 _ ?_; clear hK2 K2)
    refine sxf_nil (hK' _ ?_)
    refine AW.st (by simp [dNum, pRow, dS]; rfl) ?_
    clear hK' K'
    refine AW_then fun K1 hK1 => ?_
    refine AW_rg (tyOf_good _) [0, 3, 8] [3] (fun _ _ => trivial) fun K' hK' => ?_
    repeat (refine sxf_next fun K2 hK2 => ?_; simp [dNum, pRow, dS, bs_size, hl, hl']; (repeat (refine ⟨by omega, ?_⟩)); refine hK2 _ ?_; clear hK2 K2)
    refine sxf_nil (hK' _ ?_)
    refine AW.st (by simp [dNum, pRow, dS, bs_size, hl, hl']; rfl) ?_
    clear hK' K'
    refine AW_cond false rfl (fun h => by cases h) (fun _ => ?_)
    refine AW_skip (hK1 _ ?_)
    refine AW_rg (tyOf_good _) [0, 3, 4] [3, 13] (fun _ _ => trivial) fun K' hK' => ?_
    repeat (refine sxf_next fun K2 hK2 => ?_; simp [dNum, pRow, dS, hF]; (repeat (refine ⟨by omega, ?_⟩)); refine hK2 _ ?_; clear hK2 K2)
    refine sxf_nil (hK' _ ?_)
    refine AW.st (by simp [dNum, pRow, dS, hF]; rfl) ?_
    clear hK' K'
    refine AW.imp (Imp.ren (r := 13) (r' := 500) trivial (by simp)) ?_
    refine AW.st (by simp [renO, renF, Go.Av.ren, renH_two2]; rfl) ?_
    refine AW_rg (tyOf_good _) [0, 3, 4, 5] [3, 500] (fun _ _ => trivial) fun K' hK' => ?_
    repeat (refine sxf_next fun K2 hK2 => ?_; simp [dNum, pRow, dS, outD, outK, eR, pR]; (repeat (refine ⟨by omega, ?_⟩)); refine hK2 _ ?_; clear hK2 K2)
    refine sxf_next fun K2 hK2 => ?_
    simp [dNum, pRow, dS, outD, outK, eR, pR]
    refine callK.mc (hc) (by simp [dNum, pRow, dS, outD, outK, eR, pR]) (by simp [dNum, pRow, dS, outD, outK, eR, pR]) (by simp [dNum, pRow, dS, outD, outK, eR, pR]) (by simp [dNum, pRow, dS, outD, outK, eR, pR]) ?_
    simp [dNum, pRow, dS, outD, outK, eR, pR]
    refine hK2 _ ?_
    clear hK2 K2
    repeat (refine sxf_next fun K2 hK2 => ?_; simp [dNum, pRow, dS, outD, outK, eR, pR]; (repeat (refine ⟨by omega, ?_⟩)); refine hK2 _ ?_; clear hK2 K2)
    refine sxf_nil (hK' _ ?_)
    refine AW.st (by simp [dNum, pRow, dS, outD, outK, eR, pR]; rfl) ?_
    clear hK' K'
    refine AW_then fun K2 hK2 => ?_
    refine AW_rg (tyOf_good _) [3, 4, 5, 43] [3, 500] (fun _ _ => trivial) fun K' hK' => ?_
    repeat (refine sxf_next fun K2 hK2 => ?_; simp [dNum, pRow, dS, h0]; (repeat (refine ⟨by omega, ?_⟩)); refine hK2 _ ?_; clear hK2 K2)
    refine sxf_nil (hK' _ ?_)
    refine AW.st (by simp [dNum, pRow, dS, h0]; rfl) ?_
    clear hK' K'
    refine AW_cond false rfl (fun h => by cases h) (fun _ => ?_)
    refine AW_skip (hK2 _ ?_)
    refine AW_then fun K3 hK3 => ?_
    refine AW_rg (tyOf_good _) [3, 4, 5, 51] [3, 500] (fun _ _ => trivial) fun K' hK' => ?_
    repeat (refine sxf_next fun K2 hK2 => ?_; simp [dNum, pRow, dS, h0]; (repeat (refine ⟨by omega, ?_⟩)); refine hK2 _ ?_; clear hK2 K2)
    refine sxf_nil (hK' _ ?_)
    refine AW.st (by simp [dNum, pRow, dS, h0]; rfl) ?_
    clear hK' K'
    refine AW_cond true rfl (fun _ => ?_) (fun h => by cases h)
    refine AW_rdg (tyOf_good _) (by kernel_rfl) [(3, 500), (5, 3)] [2, 3] [3, 500] (fun _ _ => trivial) (by kernel_rfl) fun K' hK' => ?_
    repeat (refine sxg_next fun K2 hK2 => ?_; simp [dNum, pRow, dS]; (repeat (refine ⟨by omega, ?_⟩)); refine hK2 _ ?_; clear hK2 K2)
    refine sxg_nil (hK' _ ?_)
    refine AW.st (by simp [dNum, pRow, dS]; rfl) ?_
    clear hK' K'
    refine AW_ret ?_
    simp [D.le, D.le.go, takeMap, dNum, pRow, dS, dOR, dFault, codeF, placeF]
  | ok x k =>
    rw [ho] at hc
    dsimp only [outD, outK, eR, pR] at hc
    have hk := (or_goes (one_goes t 20) 0 x k (Nat.zero_le _) ho).2
    have hnx := pnext_spec G t k (by omega) hk 0 (-1)
    have hk2 := skipB_top hk
    have hfl := pfail_spec G t (skipB t k) (by omega) hk2 3
    rw [skipB_idem hk] at hfl
    have hnb : skipB t k < t.length ∨ nxB t k = 0 := by
      by_cases h : skipB t k < t.length
      · exact .inl h
      · exact .inr (by unfold nxB; rw [List.getD_eq_getElem?_getD, List.getElem?_eq_none (by omega)]; rfl)
    obtain ⟨cx, hx⟩ := dR_ip x
    dsimp only
    generalize skipB t k = j at hnx hk2 hfl hnb ⊢
    generalize nxB t k = b at hnx hnb
    by_cases hj : j < t.length
    · have hj' : (j : Int) < (t.length : Int) := by omega
      rw [if_pos hj]
      rw [hx] at hc
      by_cases hb : ((b.toNat : Int) = 0)
      · have hbn : b.toNat = 0 := by omega
        refine PureC.of_body (tyOf_good _) Tryz.func30 rfl rfl (rs := [.tmp 2, .cell 3 73]) Tryz.results30 (by simp [Tryz.ntmps30]) fun X => ?_
        simp only [Tryz.ntmps30, List.map]
        refine AW_rg (tyOf_good _) [0, 3] [3] (fun _ _ => trivial) fun K' hK' => ?_
        repeat (refine sxf_next fun K2 hK2 => ?_; simp [dNum, pRow, dS]; (repeat (refine ⟨by omega, ?_⟩)); refine hK2 _ ?_; clear hK2 K2)
        refine sxf_nil (hK' _ ?_)
        refine AW.st (by simp [dNum, pRow, dS]; rfl) ?_
        clear hK' K'
        refine AW_then fun K1 hK1 => ?_
        refine AW_rg (tyOf_good _) [0, 3, 8] [3] (fun _ _ => trivial) fun K' hK' => ?_
        repeat (refine sxf_next fun K2 hK2 => ?_; simp [dNum, pRow, dS, bs_size, hl, hl']; (repeat (refine ⟨by omega, ?_⟩)); refine hK2 _ ?_; clear hK2 K2)
        refine sxf_nil (hK' _ ?_)
        refine AW.st (by simp [dNum, pRow, dS, bs_size, hl, hl']; rfl) ?_
        clear hK' K'
        refine AW_cond false rfl (fun h => by cases h) (fun _ => ?_)
        refine AW_skip (hK1 _ ?_)
        refine AW_rg (tyOf_good _) [0, 3, 4] [3, 13] (fun _ _ => trivial) fun K' hK' => ?_
        repeat (refine sxf_next fun K2 hK2 => ?_; simp [dNum, pRow, dS, hF]; (repeat (refine ⟨by omega, ?_⟩)); refine hK2 _ ?_; clear hK2 K2)
        refine sxf_nil (hK' _ ?_)
        refine AW.st (by simp [dNum, pRow, dS, hF]; rfl) ?_
        clear hK' K'
        refine AW.imp (Imp.ren (r := 13) (r' := 500) trivial (by simp)) ?_
        refine AW.st (by simp [renO, renF, Go.Av.ren, renH_two2]; rfl) ?_
        refine AW_rg (tyOf_good _) [0, 3, 4, 5] [3, 500] (fun _ _ => trivial) fun K' hK' => ?_
        repeat (refine sxf_next fun K2 hK2 => ?_; simp [dNum, pRow, dS]; (repeat (refine ⟨by omega, ?_⟩)); refine hK2 _ ?_; clear hK2 K2)
        refine sxf_next fun K2 hK2 => ?_
        simp [dNum, pRow, dS]
        refine callK.mc (hc) (by simp [dNum, pRow, dS]) (by simp [dNum, pRow, dS]) (by simp [dNum, pRow, dS]) (by simp [dNum, pRow, dS]) ?_
        simp [dNum, pRow, dS]
        refine hK2 _ ?_
        clear hK2 K2
        repeat (refine sxf_next fun K2 hK2 => ?_; simp [dNum, pRow, dS]; (repeat (refine ⟨by omega, ?_⟩)); refine hK2 _ ?_; clear hK2 K2)
        refine sxf_nil (hK' _ ?_)
        refine AW.st (by simp [dNum, pRow, dS]; rfl) ?_
        clear hK' K'
        refine AW_then fun K2 hK2 => ?_
        refine AW_rg (tyOf_good _) [3, 4, 5, 43] [3, 500] (fun _ _ => trivial) fun K' hK' => ?_
        repeat (refine sxf_next fun K2 hK2 => ?_; simp [dNum, pRow, dS, hb, hbn, bs_size, hj, hj']; (repeat (refine ⟨by omega, ?_⟩)); refine hK2 _ ?_; clear hK2 K2)
        refine sxf_next fun K2 hK2 => ?_
        simp [dNum, pRow, dS, hb, hbn, bs_size, hj, hj']
        refine callK.mc (hnx) (by simp [dNum, pRow, dS, hb, hbn, bs_size, hj, hj']) (by simp [dNum, pRow, dS, hb, hbn, bs_size, hj, hj']) (by simp [dNum, pRow, dS, hb, hbn, bs_size, hj, hj']) (by simp [dNum, pRow, dS, hb, hbn, bs_size, hj, hj']) ?_
        simp [dNum, pRow, dS, hb, hbn, bs_size, hj, hj']
        refine hK2 _ ?_
        clear hK2 K2
        repeat (refine sxf_next fun K2 hK2 => ?_; simp [dNum, pRow, dS, hb, hbn, bs_size, hj, hj']; (repeat (refine ⟨by omega, ?_⟩)); refine hK2 _ ?_; clear hK2 K2)
        refine sxf_nil (hK' _ ?_)
        refine AW.st (by simp [dNum, pRow, dS, hb, hbn, bs_size, hj, hj']; rfl) ?_
        clear hK' K'
        refine AW_cond true rfl (fun _ => ?_) (fun h => by cases h)
        refine AW_re (tyOf_good _) fun K' hK' => ?_
        repeat (refine sxf_next fun K2 hK2 => ?_; simp [dNum, pRow, dS]; (repeat (refine ⟨by omega, ?_⟩)); refine hK2 _ ?_; clear hK2 K2)
        refine sxf_next fun K2 hK2 => ?_
        simp [dNum, pRow, dS]
        refine callK.mc (hfl) (by simp [dNum, pRow, dS]) (by simp [dNum, pRow, dS]) (by simp [dNum, pRow, dS]) (by simp [dNum, pRow, dS]) ?_
        simp [dNum, pRow, dS]
        refine hK2 _ ?_
        clear hK2 K2
        repeat (refine sxf_next fun K2 hK2 => ?_; simp [dNum, pRow, dS]; (repeat (refine ⟨by omega, ?_⟩)); refine hK2 _ ?_; clear hK2 K2)
        refine sxf_nil (hK' _ ?_)
        clear hK' K'
        refine hK2 _ (AW.norm [3, 4, 5] [3, 500] (fun _ _ => trivial) (AW.st (by simp [dNum, pRow, dS]; rfl) ?_))
        refine AW_then fun K3 hK3 => ?_
        refine AW_rg (tyOf_good _) [3, 4, 5, 51] [3, 500] (fun _ _ => trivial) fun K' hK' => ?_
        repeat (refine sxf_next fun K2 hK2 => ?_; simp [dNum, pRow, dS]; (repeat (refine ⟨by omega, ?_⟩)); refine hK2 _ ?_; clear hK2 K2)
        refine sxf_nil (hK' _ ?_)
        refine AW.st (by simp [dNum, pRow, dS]; rfl) ?_
        clear hK' K'
        refine AW_cond true rfl (fun _ => ?_) (fun h => by cases h)
        refine AW_rdg (tyOf_good _) (by kernel_rfl) [(3, 500), (5, 3)] [2, 3] [3, 500] (fun _ _ => trivial) (by kernel_rfl) fun K' hK' => ?_
        repeat (refine sxg_next fun K2 hK2 => ?_; simp [dNum, pRow, dS]; (repeat (refine ⟨by omega, ?_⟩)); refine hK2 _ ?_; clear hK2 K2)
        refine sxg_nil (hK' _ ?_)
        refine AW.st (by simp [dNum, pRow, dS]; rfl) ?_
        clear hK' K'
        refine AW_ret ?_
        simp [D.le, D.le.go, takeMap, dNum, pRow, dS, dOR, dFault, codeF, placeF]
      · have hbn : ¬ b.toNat = 0 := by omega
        refine PureC.of_body (tyOf_good _) Tryz.func30 rfl rfl (rs := [.tmp 2, .cell 3 73]) Tryz.results30 (by simp [Tryz.ntmps30]) fun X => ?_
        simp only [Tryz.ntmps30, List.map]
        refine AW_rg (tyOf_good _) [0, 3] [3] (fun _ _ => trivial) fun K' hK' => ?_
        repeat (refine sxf_next fun K2 hK2 => ?_; simp [dNum, pRow, dS]; (repeat (refine ⟨by omega, ?_⟩)); refine hK2 _ ?_; clear hK2 K2)
        refine sxf_nil (hK' _ ?_)
        refine AW.st (by simp [dNum, pRow, dS]; rfl) ?_
        clear hK' K'
        refine AW_then fun K1 hK1 => ?_
        refine AW_rg (tyOf_good _) [0, 3, 8] [3] (fun _ _ => trivial) fun K' hK' => ?_
        repeat (refine sxf_next fun K2 hK2 => ?_; simp [dNum, pRow, dS, bs_size, hl, hl']; (repeat (refine ⟨by omega, ?_⟩)); refine hK2 _ ?_; clear hK2 K2)
        refine sxf_nil (hK' _ ?_)
        refine AW.st (by simp [dNum, pRow, dS, bs_size, hl, hl']; rfl) ?_
        clear hK' K'
        refine AW_cond false rfl (fun h => by cases h) (fun _ => ?_)
        refine AW_skip (hK1 _ ?_)
        refine AW_rg (tyOf_good _) [0, 3, 4] [3, 13] (fun _ _ => trivial) fun K' hK' => ?_
        repeat (refine sxf_next fun K2 hK2 => ?_; simp [dNum, pRow, dS, hF]; (repeat (refine ⟨by omega, ?_⟩)); refine hK2 _ ?_; clear hK2 K2)
        refine sxf_nil (hK' _ ?_)
        refine AW.st (by simp [dNum, pRow, dS, hF]; rfl) ?_
        clear hK' K'
        refine AW.imp (Imp.ren (r := 13) (r' := 500) trivial (by simp)) ?_
        refine AW.st (by simp [renO, renF, Go.Av.ren, renH_two2]; rfl) ?_
        refine AW_rg (tyOf_good _) [0, 3, 4, 5] [3, 500] (fun _ _ => trivial) fun K' hK' => ?_
        repeat (refine sxf_next fun K2 hK2 => ?_; simp [dNum, pRow, dS]; (repeat (refine ⟨by omega, ?_⟩)); refine hK2 _ ?_; clear hK2 K2)
        refine sxf_next fun K2 hK2 => ?_
        simp [dNum, pRow, dS]
        refine callK.mc (hc) (by simp [dNum, pRow, dS]) (by simp [dNum, pRow, dS]) (by simp [dNum, pRow, dS]) (by simp [dNum, pRow, dS]) ?_
        simp [dNum, pRow, dS]
        refine hK2 _ ?_
        clear hK2 K2
        repeat (refine sxf_next fun K2 hK2 => ?_; simp [dNum, pRow, dS]; (repeat (refine ⟨by omega, ?_⟩)); refine hK2 _ ?_; clear hK2 K2)
        refine sxf_nil (hK' _ ?_)
        refine AW.st (by simp [dNum, pRow, dS]; rfl) ?_
        clear hK' K'
        refine AW_then fun K2 hK2 => ?_
        refine AW_rg (tyOf_good _) [3, 4, 5, 43] [3, 500] (fun _ _ => trivial) fun K' hK' => ?_
        repeat (refine sxf_next fun K2 hK2 => ?_; simp [dNum, pRow, dS, hb, hbn, bs_size, hj, hj']; (repeat (refine ⟨by omega, ?_⟩)); refine hK2 _ ?_; clear hK2 K2)
        refine sxf_next fun K2 hK2 => ?_
        simp [dNum, pRow, dS, hb, hbn, bs_size, hj, hj']
        refine callK.mc (hnx) (by simp [dNum, pRow, dS, hb, hbn, bs_size, hj, hj']) (by simp [dNum, pRow, dS, hb, hbn, bs_size, hj, hj']) (by simp [dNum, pRow, dS, hb, hbn, bs_size, hj, hj']) (by simp [dNum, pRow, dS, hb, hbn, bs_size, hj, hj']) ?_
        simp [dNum, pRow, dS, hb, hbn, bs_size, hj, hj']
        refine hK2 _ ?_
        clear hK2 K2
        repeat (refine sxf_next fun K2 hK2 => ?_; simp [dNum, pRow, dS, hb, hbn, bs_size, hj, hj']; (repeat (refine ⟨by omega, ?_⟩)); refine hK2 _ ?_; clear hK2 K2)
        refine sxf_nil (hK' _ ?_)
        refine AW.st (by simp [dNum, pRow, dS, hb, hbn, bs_size, hj, hj']; rfl) ?_
        clear hK' K'
        refine AW_cond true rfl (fun _ => ?_) (fun h => by cases h)
        refine AW_re (tyOf_good _) fun K' hK' => ?_
        repeat (refine sxf_next fun K2 hK2 => ?_; simp [dNum, pRow, dS]; (repeat (refine ⟨by omega, ?_⟩)); refine hK2 _ ?_; clear hK2 K2)
        refine sxf_next fun K2 hK2 => ?_
        simp [dNum, pRow, dS]
        refine callK.mc (hfl) (by simp [dNum, pRow, dS]) (by simp [dNum, pRow, dS]) (by simp [dNum, pRow, dS]) (by simp [dNum, pRow, dS]) ?_
        simp [dNum, pRow, dS]
        refine hK2 _ ?_
        clear hK2 K2
        repeat (refine sxf_next fun K2 hK2 => ?_; simp [dNum, pRow, dS]; (repeat (refine ⟨by omega, ?_⟩)); refine hK2 _ ?_; clear hK2 K2)
        refine sxf_nil (hK' _ ?_)
        clear hK' K'
        refine hK2 _ (AW.norm [3, 4, 5] [3, 500] (fun _ _ => trivial) (AW.st (by simp [dNum, pRow, dS]; rfl) ?_))
        refine AW_then fun K3 hK3 => ?_
        refine AW_rg (tyOf_good _) [3, 4, 5, 51] [3, 500] (fun _ _ => trivial) fun K' hK' => ?_
        repeat (refine sxf_next fun K2 hK2 => ?_; simp [dNum, pRow, dS]; (repeat (refine ⟨by omega, ?_⟩)); refine hK2 _ ?_; clear hK2 K2)
        refine sxf_nil (hK' _ ?_)
        refine AW.st (by simp [dNum, pRow, dS]; rfl) ?_
        clear hK' K'
        refine AW_cond true rfl (fun _ => ?_) (fun h => by cases h)
        refine AW_rdg (tyOf_good _) (by kernel_rfl) [(3, 500), (5, 3)] [2, 3] [3, 500] (fun _ _ => trivial) (by kernel_rfl) fun K' hK' => ?_
        repeat (refine sxg_next fun K2 hK2 => ?_; simp [dNum, pRow, dS]; (repeat (refine ⟨by omega, ?_⟩)); refine hK2 _ ?_; clear hK2 K2)
        refine sxg_nil (hK' _ ?_)
        refine AW.st (by simp [dNum, pRow, dS]; rfl) ?_
        clear hK' K'
        refine AW_ret ?_
        simp [D.le, D.le.go, takeMap, dNum, pRow, dS, dOR, dFault, codeF, placeF]
    · have hj' : ¬ (j : Int) < (t.length : Int) := by omega
      have hb : ((b.toNat : Int) = 0) := by
        rcases hnb with h | h
        · exact absurd h hj
        · rw [h]; rfl
      have hbn : b.toNat = 0 := by omega
      rw [if_neg hj]
      simp only [dOR]
      rw [hx] at hc ⊢
      refine PureC.of_body (tyOf_good _) Tryz.func30 rfl rfl (rs := [.tmp 2, .cell 3 73]) Tryz.results30 (by simp [Tryz.ntmps30]) fun X => ?_
      simp only [Tryz.ntmps30, List.map]
      refine AW_rg (tyOf_good _) [0, 3] [3] (fun _ _ => trivial) fun K' hK' => ?_
      repeat (refine sxf_next fun K2 hK2 => ?_; simp [dNum, pRow, dS]; (repeat (refine ⟨by omega, ?_⟩)); refine hK2 _ ?_; clear hK2 K2)
      refine sxf_nil (hK' _ ?_)
      refine AW.st (by simp [dNum, pRow, dS]; rfl) ?_
      clear hK' K'
      refine AW_then fun K1 hK1 => ?_
      refine AW_rg (tyOf_good _) [0, 3, 8] [3] (fun _ _ => trivial) fun K' hK' => ?_
      repeat (refine sxf_next fun K2 hK2 => ?_; simp [dNum, pRow, dS, bs_size, hl, hl']; (repeat (refine ⟨by omega, ?_⟩)); refine hK2 _ ?_; clear hK2 K2)
      refine sxf_nil (hK' _ ?_)
      refine AW.st (by simp [dNum, pRow, dS, bs_size, hl, hl']; rfl) ?_
      clear hK' K'
      refine AW_cond false rfl (fun h => by cases h) (fun _ => ?_)
      refine AW_skip (hK1 _ ?_)
      refine AW_rg (tyOf_good _) [0, 3, 4] [3, 13] (fun _ _ => trivial) fun K' hK' => ?_
      repeat (refine sxf_next fun K2 hK2 => ?_; simp [dNum, pRow, dS, hF]; (repeat (refine ⟨by omega, ?_⟩)); refine hK2 _ ?_; clear hK2 K2)
      refine sxf_nil (hK' _ ?_)
      refine AW.st (by simp [dNum, pRow, dS, hF]; rfl) ?_
      clear hK' K'
      refine AW.imp (Imp.ren (r := 13) (r' := 500) trivial (by simp)) ?_
      refine AW.st (by simp [renO, renF, Go.Av.ren, renH_two2]; rfl) ?_
      refine AW_rg (tyOf_good _) [0, 3, 4, 5] [3, 500] (fun _ _ => trivial) fun K' hK' => ?_
      repeat (refine sxf_next fun K2 hK2 => ?_; simp [dNum, pRow, dS]; (repeat (refine ⟨by omega, ?_⟩)); refine hK2 _ ?_; clear hK2 K2)
      refine sxf_next fun K2 hK2 => ?_
      simp [dNum, pRow, dS]
      refine callK.mc (hc) (by simp [dNum, pRow, dS]) (by simp [dNum, pRow, dS]) (by simp [dNum, pRow, dS]) (by simp [dNum, pRow, dS]) ?_
      simp [dNum, pRow, dS]
      refine hK2 _ ?_
      clear hK2 K2
      repeat (refine sxf_next fun K2 hK2 => ?_; simp [dNum, pRow, dS]; (repeat (refine ⟨by omega, ?_⟩)); refine hK2 _ ?_; clear hK2 K2)
      refine sxf_nil (hK' _ ?_)
      refine AW.st (by simp [dNum, pRow, dS]; rfl) ?_
      clear hK' K'
      refine AW_then fun K2 hK2 => ?_
      refine AW_rg (tyOf_good _) [3, 4, 5, 43] [3, 500] (fun _ _ => trivial) fun K' hK' => ?_
      repeat (refine sxf_next fun K2 hK2 => ?_; simp [dNum, pRow, dS, hb, hbn, bs_size, hj, hj']; (repeat (refine ⟨by omega, ?_⟩)); refine hK2 _ ?_; clear hK2 K2)
      refine sxf_next fun K2 hK2 => ?_
      simp [dNum, pRow, dS, hb, hbn, bs_size, hj, hj']
      refine callK.mc (hnx) (by simp [dNum, pRow, dS, hb, hbn, bs_size, hj, hj']) (by simp [dNum, pRow, dS, hb, hbn, bs_size, hj, hj']) (by simp [dNum, pRow, dS, hb, hbn, bs_size, hj, hj']) (by simp [dNum, pRow, dS, hb, hbn, bs_size, hj, hj']) ?_
      simp [dNum, pRow, dS, hb, hbn, bs_size, hj, hj']
      refine hK2 _ ?_
      clear hK2 K2
      repeat (refine sxf_next fun K2 hK2 => ?_; simp [dNum, pRow, dS, hb, hbn, bs_size, hj, hj']; (repeat (refine ⟨by omega, ?_⟩)); refine hK2 _ ?_; clear hK2 K2)
      refine sxf_nil (hK' _ ?_)
      refine AW.st (by simp [dNum, pRow, dS, hb, hbn, bs_size, hj, hj']; rfl) ?_
      clear hK' K'
      refine AW_cond false rfl (fun h => by cases h) (fun _ => ?_)
      refine AW_skip (hK2 _ ?_)
      refine AW_then fun K3 hK3 => ?_
      refine AW_rg (tyOf_good _) [3, 4, 5, 51] [3, 500] (fun _ _ => trivial) fun K' hK' => ?_
      repeat (refine sxf_next fun K2 hK2 => ?_; simp [dNum, pRow, dS]; (repeat (refine ⟨by omega, ?_⟩)); refine hK2 _ ?_; clear hK2 K2)
      refine sxf_nil (hK' _ ?_)
      refine AW.st (by simp [dNum, pRow, dS]; rfl) ?_
      clear hK' K'
      refine AW_cond false rfl (fun h => by cases h) (fun _ => ?_)
      refine AW_skip (hK3 _ ?_)
      refine AW_rdg (tyOf_good _) (by kernel_rfl) [(3, 3)] [2, 3] [3, 500] (fun _ _ => trivial) (by kernel_rfl) fun K' hK' => ?_
      repeat (refine sxg_next fun K2 hK2 => ?_; simp [dNum, pRow, dS, hF]; (repeat (refine ⟨by omega, ?_⟩)); refine hK2 _ ?_; clear hK2 K2)
      refine sxg_nil (hK' _ ?_)
      refine AW.st (by simp [dNum, pRow, dS, hF]; rfl) ?_
      clear hK' K'
      refine AW_ret ?_
      simp [D.le, D.le.go, takeMap, dNum, pRow, dS, dFault, codeF, placeF, D.le_refl, D.leGo_refl]
end Go.Proofs.YtagfbbnlbncjlaaGreatDoor

/-
  What an expression says: Eval; names among some.
-/
namespace Go.Proofs.YtagfbbnlbncjlaaGreatDoor
set_option linter.unusedSimpArgs false
set_option linter.unusedVariables false
open Go.Av

theorem idx_some {α : Type} (p : α → Bool) (l : List α) : decide (0 ≤ idx p l) = l.any p := by
  unfold idx
  cases h : l.findIdx? p with
  | none =>
    rw [List.findIdx?_eq_none_iff] at h
    have : l.any p = false := by rw [List.any_eq_false]; intro x hx; simp [h x hx]
    rw [this]; simp
  | some i =>
    rw [List.findIdx?_eq_some_iff_getElem] at h
    obtain ⟨hi, hp, _⟩ := h
    have : l.any p = true := List.any_eq_true.2 ⟨_, List.getElem_mem hi, hp⟩
    rw [this]; simp
theorem evA_any (is was : List UInt8 → Bool) : ∀ l : List Ex, evA is was l = !(l.any fun e => !evE is was e)
  | [] => rfl
  | e :: l => by rw [evA, evA_any is was l]; simp
theorem evO_any (is was : List UInt8 → Bool) : ∀ l : List Ex, evO is was l = l.any fun e => evE is was e
  | [] => rfl
  | e :: l => by rw [evO, evO_any is was l]; simp

set_option maxHeartbeats 1000000 in
theorem indexAnd_spec (G : Glob) (k : Option Bool) (xs : List Ex) (g : FuncId) (caps : List D) (p : Ex → Bool) (hl : xs.length < 2^63) (ha : ∀ x ∈ xs, PureC Tryz.prog G g (dE x :: caps) (.v (.bool (p x)))) :
    PureC Tryz.prog G 89 [.sl k (xs.map fun x => [dE x]), .fn (.func g) caps] (.v (.int .i64 (idx p xs))) := by
  refine PureC.of_body (tyOf_good _) Tryz.func89 rfl rfl (rs := [.tmp 4]) Tryz.results89 (by simp [Tryz.ntmps89]) fun X => ?_
  simp only [Tryz.ntmps89, List.map]
  refine AW_rg (tyOf_good _) [0, 1] [] (fun _ _ => trivial) fun K' hK' => ?_
  repeat (refine sxf_next fun K2 hK2 => ?_; simp; (repeat (refine ⟨by omega, ?_⟩)); refine hK2 _ ?_; clear hK2 K2)
  refine sxf_nil (hK' _ ?_)
  refine AW.st (by simp; rfl) ?_
  clear hK' K'
  refine AW_then fun K1 hK1 => ?_
  refine AW_rg (tyOf_good _) [0, 1, 7, 8] [] (fun _ _ => trivial) fun K' hK' => ?_
  repeat (refine sxf_next fun K2 hK2 => ?_; simp; (repeat (refine ⟨by omega, ?_⟩)); refine hK2 _ ?_; clear hK2 K2)
  refine sxf_nil (hK' _ ?_)
  refine AW.st (by simp; rfl) ?_
  clear hK' K'
  refine AW_for (S := Nat) (fun n => n ≤ xs.length ∧ ∀ i (hi : i < xs.length), i < n → p xs[i] = false) (fun n => ⟨lst [(0, .d (.sl k (xs.map fun x => [dE x]))), (1, .d (.fn (.func g) caps)), (7, int xs.length), (8, int n)], hlst []⟩) (fun n => xs.length - n) 0 ?_ (by simp) ?_
  · refine Imp.to' (fun _ _ => trivial) (by simp) (by simp)
  · rintro n ⟨hn, hp⟩
    refine AW_rg (tyOf_good _) [0, 1, 7, 8, 9] [] (fun _ _ => trivial) fun K' hK' => ?_
    repeat (refine sxf_next fun K2 hK2 => ?_; simp; (repeat (refine ⟨by omega, ?_⟩)); refine hK2 _ ?_; clear hK2 K2)
    refine sxf_nil (hK' _ ?_)
    refine AW.st (by simp; rfl) ?_
    clear hK' K'
    refine AW_then fun K2 hK2 => ?_
    refine AW_cond' (b := n < xs.length) (by simp [D.le, D.le.go, takeMap]) (fun hc => ?_) (fun hc => ?_)
    · have hax := ha xs[n] (by simp)
      refine AW_skip (hK2 _ ?_)
      refine AW_then fun K3 hK3 => ?_
      refine AW_block ?_
      refine AW_rg (tyOf_good _) [0, 1, 5, 7, 8] [] (fun _ _ => trivial) fun K' hK' => ?_
      repeat (refine sxf_next fun K2 hK2 => ?_; simp; (repeat (refine ⟨by omega, ?_⟩)); refine hK2 _ ?_; clear hK2 K2)
      refine sxf_nil (hK' _ ?_)
      refine AW.st (by simp; rfl) ?_
      clear hK' K'
      refine AW_rg (tyOf_good _) [0, 1, 5, 7, 8, 16] [] (fun _ _ => trivial) fun K' hK' => ?_
      repeat (refine sxf_next fun K2 hK2 => ?_; simp [hc]; (repeat (refine ⟨by omega, ?_⟩)); refine hK2 _ ?_; clear hK2 K2)
      refine sxf_next fun K2 hK2 => ?_
      simp [hc]
      refine callK.data (hax) (by simp; rfl) (by first | exact D.leGo_refl _ | simp [takeMap, List.map_map, Function.comp_def, D.le, D.le.go, D.le_refl, D.leGo_refl, hc]) ?_
      refine hK2 _ ?_
      clear hK2 K2
      simp only [putd, upd_lst]
      repeat (refine sxf_next fun K2 hK2 => ?_; simp [hc]; (repeat (refine ⟨by omega, ?_⟩)); refine hK2 _ ?_; clear hK2 K2)
      refine sxf_nil (hK' _ ?_)
      refine AW.st (by simp [hc]; rfl) ?_
      clear hK' K'
      refine AW_cond _ rfl (fun hp2 => ?_) (fun hp2 => ?_)
      · refine AW_rg (tyOf_good _) [4] [] (fun _ _ => trivial) fun K' hK' => ?_
        repeat (refine sxf_next fun K2 hK2 => ?_; simp; (repeat (refine ⟨by omega, ?_⟩)); refine hK2 _ ?_; clear hK2 K2)
        refine sxf_nil (hK' _ ?_)
        refine AW.st (by simp; rfl) ?_
        clear hK' K'
        refine AW_ret ?_
        simp [D.le, D.le.go, takeMap]
        exact (idx_hit hc hp2 fun i hi => hp i (by omega) hi).symm
      · refine AW_skip (hK3 _ ?_)
        refine AW_re (tyOf_good _) fun K' hK' => ?_
        repeat (refine sxf_next fun K2 hK2 => ?_; simp; (repeat (refine ⟨by omega, ?_⟩)); refine hK2 _ ?_; clear hK2 K2)
        refine sxf_nil (hK' _ ?_)
        clear hK' K'
        try simp only [thn, inb]
        refine Again.mk (n + 1) ⟨by omega, fun i hi hin => ?_⟩ (by omega) ?_
        · by_cases h : i = n
          · subst h; exact hp2
          · exact hp i hi (by omega)
        refine Imp.to' (fun _ _ => trivial) (by simp) (by simp)
    · refine AW_exit (hK1 _ ?_)
      refine AW_rg (tyOf_good _) [4] [] (fun _ _ => trivial) fun K' hK' => ?_
      repeat (refine sxf_next fun K2 hK2 => ?_; simp; (repeat (refine ⟨by omega, ?_⟩)); refine hK2 _ ?_; clear hK2 K2)
      refine sxf_nil (hK' _ ?_)
      refine AW.st (by simp; rfl) ?_
      clear hK' K'
      refine AW_ret ?_
      simp [D.le, D.le.go, takeMap]
      exact (idx_miss fun i hi => hp i hi (by omega)).symm
theorem containsAnd_spec (G : Glob) (k : Option Bool) (xs : List Ex) (g : FuncId) (caps : List D) (p : Ex → Bool) (hl : xs.length < 2^63) (ha : ∀ x ∈ xs, PureC Tryz.prog G g (dE x :: caps) (.v (.bool (p x)))) :
    PureC Tryz.prog G 55 [.sl k (xs.map fun x => [dE x]), .fn (.func g) caps] (.v (.bool (xs.any p))) := by
  have hi := indexAnd_spec G k xs g caps p hl ha
  have hd := idx_some p xs
  generalize idx p xs = r at hi hd
  rw [← hd]
  refine PureC.of_body (tyOf_good _) Tryz.func55 rfl rfl (rs := [.tmp 4]) Tryz.results55 (by simp [Tryz.ntmps55]) fun X => ?_
  simp only [Tryz.ntmps55, List.map]
  refine AW_rg (tyOf_good _) [0, 1] [] (fun _ _ => trivial) fun K' hK' => ?_
  repeat (refine sxf_next fun K2 hK2 => ?_; simp; (repeat (refine ⟨by omega, ?_⟩)); refine hK2 _ ?_; clear hK2 K2)
  refine sxf_nil (hK' _ ?_)
  refine AW.st (by simp; rfl) ?_
  clear hK' K'
  refine AW_rg (tyOf_good _) [4] [] (fun _ _ => trivial) fun K' hK' => ?_
  repeat (refine sxf_next fun K2 hK2 => ?_; simp; (repeat (refine ⟨by omega, ?_⟩)); refine hK2 _ ?_; clear hK2 K2)
  refine sxf_next fun K2 hK2 => ?_
  simp
  refine callK.data (hi) (by simp; rfl) (by first | exact D.leGo_refl _ | simp [takeMap, List.map_map, Function.comp_def, D.le, D.le.go, D.le_refl, D.leGo_refl]) ?_
  refine hK2 _ ?_
  clear hK2 K2
  simp only [putd, upd_lst]
  repeat (refine sxf_next fun K2 hK2 => ?_; simp; (repeat (refine ⟨by omega, ?_⟩)); refine hK2 _ ?_; clear hK2 K2)
  refine sxf_nil (hK' _ ?_)
  refine AW.st (by simp; rfl) ?_
  clear hK' K'
  refine AW_ret ?_
  simp [D.le, D.le.go, takeMap]

set_option maxHeartbeats 1000000 in
theorem indexOr_spec (G : Glob) (k : Option Bool) (xs : List Ex) (g : FuncId) (caps : List D) (p : Ex → Bool) (hl : xs.length < 2^63) (ha : ∀ x ∈ xs, PureC Tryz.prog G g (dE x :: caps) (.v (.bool (p x)))) :
    PureC Tryz.prog G 90 [.sl k (xs.map fun x => [dE x]), .fn (.func g) caps] (.v (.int .i64 (idx p xs))) := by
  refine PureC.of_body (tyOf_good _) Tryz.func90 rfl rfl (rs := [.tmp 4]) Tryz.results90 (by simp [Tryz.ntmps90]) fun X => ?_
  simp only [Tryz.ntmps90, List.map]
  refine AW_rg (tyOf_good _) [0, 1] [] (fun _ _ => trivial) fun K' hK' => ?_
  repeat (refine sxf_next fun K2 hK2 => ?_; simp; (repeat (refine ⟨by omega, ?_⟩)); refine hK2 _ ?_; clear hK2 K2)
  refine sxf_nil (hK' _ ?_)
  refine AW.st (by simp; rfl) ?_
  clear hK' K'
  refine AW_then fun K1 hK1 => ?_
  refine AW_rg (tyOf_good _) [0, 1, 7, 8] [] (fun _ _ => trivial) fun K' hK' => ?_
  repeat (refine sxf_next fun K2 hK2 => ?_; simp; (repeat (refine ⟨by omega, ?_⟩)); refine hK2 _ ?_; clear hK2 K2)
  refine sxf_nil (hK' _ ?_)
  refine AW.st (by simp; rfl) ?_
  clear hK' K'
  refine AW_for (S := Nat) (fun n => n ≤ xs.length ∧ ∀ i (hi : i < xs.length), i < n → p xs[i] = false) (fun n => ⟨lst [(0, .d (.sl k (xs.map fun x => [dE x]))), (1, .d (.fn (.func g) caps)), (7, int xs.length), (8, int n)], hlst []⟩) (fun n => xs.length - n) 0 ?_ (by simp) ?_
  · refine Imp.to' (fun _ _ => trivial) (by simp) (by simp)
  · rintro n ⟨hn, hp⟩
    refine AW_rg (tyOf_good _) [0, 1, 7, 8, 9] [] (fun _ _ => trivial) fun K' hK' => ?_
    repeat (refine sxf_next fun K2 hK2 => ?_; simp; (repeat (refine ⟨by omega, ?_⟩)); refine hK2 _ ?_; clear hK2 K2)
    refine sxf_nil (hK' _ ?_)
    refine AW.st (by simp; rfl) ?_
    clear hK' K'
    refine AW_then fun K2 hK2 => ?_
    refine AW_cond' (b := n < xs.length) (by simp [D.le, D.le.go, takeMap]) (fun hc => ?_) (fun hc => ?_)
    · have hax := ha xs[n] (by simp)
      refine AW_skip (hK2 _ ?_)
      refine AW_then fun K3 hK3 => ?_
      refine AW_block ?_
      refine AW_rg (tyOf_good _) [0, 1, 5, 7, 8] [] (fun _ _ => trivial) fun K' hK' => ?_
      repeat (refine sxf_next fun K2 hK2 => ?_; simp; (repeat (refine ⟨by omega, ?_⟩)); refine hK2 _ ?_; clear hK2 K2)
      refine sxf_nil (hK' _ ?_)
      refine AW.st (by simp; rfl) ?_
      clear hK' K'
      refine AW_rg (tyOf_good _) [0, 1, 5, 7, 8, 16] [] (fun _ _ => trivial) fun K' hK' => ?_
      repeat (refine sxf_next fun K2 hK2 => ?_; simp [hc]; (repeat (refine ⟨by omega, ?_⟩)); refine hK2 _ ?_; clear hK2 K2)
      refine sxf_next fun K2 hK2 => ?_
      simp [hc]
      refine callK.data (hax) (by simp; rfl) (by first | exact D.leGo_refl _ | simp [takeMap, List.map_map, Function.comp_def, D.le, D.le.go, D.le_refl, D.leGo_refl, hc]) ?_
      refine hK2 _ ?_
      clear hK2 K2
      simp only [putd, upd_lst]
      repeat (refine sxf_next fun K2 hK2 => ?_; simp [hc]; (repeat (refine ⟨by omega, ?_⟩)); refine hK2 _ ?_; clear hK2 K2)
      refine sxf_nil (hK' _ ?_)
      refine AW.st (by simp [hc]; rfl) ?_
      clear hK' K'
      refine AW_cond _ rfl (fun hp2 => ?_) (fun hp2 => ?_)
      · refine AW_rg (tyOf_good _) [4] [] (fun _ _ => trivial) fun K' hK' => ?_
        repeat (refine sxf_next fun K2 hK2 => ?_; simp; (repeat (refine ⟨by omega, ?_⟩)); refine hK2 _ ?_; clear hK2 K2)
        refine sxf_nil (hK' _ ?_)
        refine AW.st (by simp; rfl) ?_
        clear hK' K'
        refine AW_ret ?_
        simp [D.le, D.le.go, takeMap]
        exact (idx_hit hc hp2 fun i hi => hp i (by omega) hi).symm
      · refine AW_skip (hK3 _ ?_)
        refine AW_re (tyOf_good _) fun K' hK' => ?_
        repeat (refine sxf_next fun K2 hK2 => ?_; simp; (repeat (refine ⟨by omega, ?_⟩)); refine hK2 _ ?_; clear hK2 K2)
        refine sxf_nil (hK' _ ?_)
        clear hK' K'
        try simp only [thn, inb]
        refine Again.mk (n + 1) ⟨by omega, fun i hi hin => ?_⟩ (by omega) ?_
        · by_cases h : i = n
          · subst h; exact hp2
          · exact hp i hi (by omega)
        refine Imp.to' (fun _ _ => trivial) (by simp) (by simp)
    · refine AW_exit (hK1 _ ?_)
      refine AW_rg (tyOf_good _) [4] [] (fun _ _ => trivial) fun K' hK' => ?_
      repeat (refine sxf_next fun K2 hK2 => ?_; simp; (repeat (refine ⟨by omega, ?_⟩)); refine hK2 _ ?_; clear hK2 K2)
      refine sxf_nil (hK' _ ?_)
      refine AW.st (by simp; rfl) ?_
      clear hK' K'
      refine AW_ret ?_
      simp [D.le, D.le.go, takeMap]
      exact (idx_miss fun i hi => hp i hi (by omega)).symm
theorem containsOr_spec (G : Glob) (k : Option Bool) (xs : List Ex) (g : FuncId) (caps : List D) (p : Ex → Bool) (hl : xs.length < 2^63) (ha : ∀ x ∈ xs, PureC Tryz.prog G g (dE x :: caps) (.v (.bool (p x)))) :
    PureC Tryz.prog G 57 [.sl k (xs.map fun x => [dE x]), .fn (.func g) caps] (.v (.bool (xs.any p))) := by
  have hi := indexOr_spec G k xs g caps p hl ha
  have hd := idx_some p xs
  generalize idx p xs = r at hi hd
  rw [← hd]
  refine PureC.of_body (tyOf_good _) Tryz.func57 rfl rfl (rs := [.tmp 4]) Tryz.results57 (by simp [Tryz.ntmps57]) fun X => ?_
  simp only [Tryz.ntmps57, List.map]
  refine AW_rg (tyOf_good _) [0, 1] [] (fun _ _ => trivial) fun K' hK' => ?_
  repeat (refine sxf_next fun K2 hK2 => ?_; simp; (repeat (refine ⟨by omega, ?_⟩)); refine hK2 _ ?_; clear hK2 K2)
  refine sxf_nil (hK' _ ?_)
  refine AW.st (by simp; rfl) ?_
  clear hK' K'
  refine AW_rg (tyOf_good _) [4] [] (fun _ _ => trivial) fun K' hK' => ?_
  repeat (refine sxf_next fun K2 hK2 => ?_; simp; (repeat (refine ⟨by omega, ?_⟩)); refine hK2 _ ?_; clear hK2 K2)
  refine sxf_next fun K2 hK2 => ?_
  simp
  refine callK.data (hi) (by simp; rfl) (by first | exact D.leGo_refl _ | simp [takeMap, List.map_map, Function.comp_def, D.le, D.le.go, D.le_refl, D.leGo_refl]) ?_
  refine hK2 _ ?_
  clear hK2 K2
  simp only [putd, upd_lst]
  repeat (refine sxf_next fun K2 hK2 => ?_; simp; (repeat (refine ⟨by omega, ?_⟩)); refine hK2 _ ?_; clear hK2 K2)
  refine sxf_nil (hK' _ ?_)
  refine AW.st (by simp; rfl) ?_
  clear hK' K'
  refine AW_ret ?_
  simp [D.le, D.le.go, takeMap]

/-! ### Names among some -/
/-! ### Eval -/
mutual
def AskE (S1 S2 : List UInt8 → Prop) : Ex → Prop
  | .cst _ => True
  | .bit s => S1 s
  | .rise s => S1 s ∧ S2 s
  | .fall s => S1 s ∧ S2 s
  | .not e => AskE S1 S2 e
  | .and l => AskL S1 S2 l
  | .or l => AskL S1 S2 l
def AskL (S1 S2 : List UInt8 → Prop) : List Ex → Prop
  | [] => True
  | e :: l => AskE S1 S2 e ∧ AskL S1 S2 l
end
theorem AskL_iff {S1 S2 : List UInt8 → Prop} : ∀ {l : List Ex}, AskL S1 S2 l ↔ ∀ x ∈ l, AskE S1 S2 x
  | [] => by simp [AskL]
  | e :: l => by rw [AskL, AskL_iff]; simp
/-- The same, of some names alone. -/
def TellsOn (S : List UInt8 → Prop) (G : Glob) (g : FuncId) (caps : List D) (p : List UInt8 → Bool) : Prop := ∀ s, S s → PureC Tryz.prog G g (dS s :: caps) (.v (.bool (p s)))

set_option maxHeartbeats 32000000 in
theorem eval_at (G : Glob) (g1 g2 : FuncId) (c1 c2 : List D) (is was : List UInt8 → Bool) (S1 S2 : List UInt8 → Prop) (h1 : TellsOn S1 G g1 c1 is) (h2 : TellsOn S2 G g2 c2 was) : ∀ (n : Nat) (e : Ex), SizeOf.sizeOf e ≤ n → AskE S1 S2 e → bE e ≤ 2^28 → PureC Tryz.prog G 24 [dE e, .fn (.func g1) c1, .fn (.func g2) c2] (.v (.bool (evE is was e))) := by
  intro n
  induction n with
  | zero => intro e hsz; cases e <;> simp at hsz
  | succ n ih =>
    intro e hsz hask hb
    cases e with
    | cst b =>
      rw [dE]
      refine PureC.of_body (tyOf_good _) Tryz.func24 rfl rfl (rs := [.tmp 6]) Tryz.results24 (by simp [Tryz.ntmps24]) fun X => ?_
      simp only [Tryz.ntmps24, List.map]
      refine AW_rg (tyOf_good _) [0, 4, 5] [4, 5] (fun _ _ => trivial) fun K' hK' => ?_
      repeat (refine sxf_next fun K2 hK2 => ?_; simp [dNum, dS, pairA, assertA]; (repeat (refine ⟨by omega, ?_⟩)); refine hK2 _ ?_; clear hK2 K2)
      refine sxf_nil (hK' _ ?_)
      refine AW.st (by simp [dNum, dS, pairA, assertA]; rfl) ?_
      clear hK' K'
      refine AW.imp (Imp.freezeB 4 trivial) ?_
      refine AW.st (by simp [dNum, dS, pairA, assertA]; rfl) ?_
      refine AW.imp (Imp.freezeB 5 trivial) ?_
      refine AW.st (by simp [dNum, dS, pairA, assertA]; rfl) ?_
      refine AW_then fun K1 hK1 => ?_
      refine AW_rg (tyOf_good _) [4, 5, 14] [] (fun _ _ => trivial) fun K' hK' => ?_
      repeat (refine sxf_next fun K2 hK2 => ?_; simp [dNum, dS, pairA, assertA]; (repeat (refine ⟨by omega, ?_⟩)); refine hK2 _ ?_; clear hK2 K2)
      refine sxf_nil (hK' _ ?_)
      refine AW.st (by simp [dNum, dS, pairA, assertA]; rfl) ?_
      clear hK' K'
      refine AW_block ?_
      refine AW_rg (tyOf_good _) [4, 5, 14, 16, 17] [] (fun _ _ => trivial) fun K' hK' => ?_
      repeat (refine sxf_next fun K2 hK2 => ?_; simp [dNum, dS, pairA, assertA]; (repeat (refine ⟨by omega, ?_⟩)); refine hK2 _ ?_; clear hK2 K2)
      refine sxf_nil (hK' _ ?_)
      refine AW.st (by simp [dNum, dS, pairA, assertA]; rfl) ?_
      clear hK' K'
      refine AW_cond true rfl (fun _ => ?_) (fun h => by cases h)
      refine AW_rg (tyOf_good _) [7] [] (fun _ _ => trivial) fun K' hK' => ?_
      repeat (refine sxf_next fun K2 hK2 => ?_; simp [dNum, dS, pairA, assertA]; (repeat (refine ⟨by omega, ?_⟩)); refine hK2 _ ?_; clear hK2 K2)
      refine sxf_nil (hK' _ ?_)
      refine AW.st (by simp [dNum, dS, pairA, assertA]; rfl) ?_
      clear hK' K'
      refine AW_rg (tyOf_good _) [6] [] (fun _ _ => trivial) fun K' hK' => ?_
      repeat (refine sxf_next fun K2 hK2 => ?_; simp [dNum, dS, pairA, assertA]; (repeat (refine ⟨by omega, ?_⟩)); refine hK2 _ ?_; clear hK2 K2)
      refine sxf_nil (hK' _ ?_)
      refine AW.st (by simp [dNum, dS, pairA, assertA]; rfl) ?_
      clear hK' K'
      refine AW_ret ?_
      simp [D.le, D.le.go, takeMap, dNum, dS, pairA, assertA, evE]
    | bit s =>
      rw [AskE] at hask
      have hi := h1 s hask
      rw [dE, evE]
      refine PureC.of_body (tyOf_good _) Tryz.func24 rfl rfl (rs := [.tmp 6]) Tryz.results24 (by simp [Tryz.ntmps24]) fun X => ?_
      simp only [Tryz.ntmps24, List.map]
      refine AW_rg (tyOf_good _) [0, 4, 5] [4, 5] (fun _ _ => trivial) fun K' hK' => ?_
      repeat (refine sxf_next fun K2 hK2 => ?_; simp [dNum, dS, pairA, assertA]; (repeat (refine ⟨by omega, ?_⟩)); refine hK2 _ ?_; clear hK2 K2)
      refine sxf_nil (hK' _ ?_)
      refine AW.st (by simp [dNum, dS, pairA, assertA]; rfl) ?_
      clear hK' K'
      refine AW.imp (Imp.freezeB 4 trivial) ?_
      refine AW.st (by simp [dNum, dS, pairA, assertA]; rfl) ?_
      refine AW.imp (Imp.freezeB 5 trivial) ?_
      refine AW.st (by simp [dNum, dS, pairA, assertA]; rfl) ?_
      refine AW_then fun K1 hK1 => ?_
      refine AW_rg (tyOf_good _) [4, 5, 14] [] (fun _ _ => trivial) fun K' hK' => ?_
      repeat (refine sxf_next fun K2 hK2 => ?_; simp [dNum, dS, pairA, assertA]; (repeat (refine ⟨by omega, ?_⟩)); refine hK2 _ ?_; clear hK2 K2)
      refine sxf_nil (hK' _ ?_)
      refine AW.st (by simp [dNum, dS, pairA, assertA]; rfl) ?_
      clear hK' K'
      refine AW_block ?_
      refine AW_rg (tyOf_good _) [4, 5, 14, 16, 17] [] (fun _ _ => trivial) fun K' hK' => ?_
      repeat (refine sxf_next fun K2 hK2 => ?_; simp [dNum, dS, pairA, assertA]; (repeat (refine ⟨by omega, ?_⟩)); refine hK2 _ ?_; clear hK2 K2)
      refine sxf_nil (hK' _ ?_)
      refine AW.st (by simp [dNum, dS, pairA, assertA]; rfl) ?_
      clear hK' K'
      refine AW_cond false rfl (fun h => by cases h) (fun _ => ?_)
      refine AW_rg (tyOf_good _) [4, 5, 14, 20, 21] [] (fun _ _ => trivial) fun K' hK' => ?_
      repeat (refine sxf_next fun K2 hK2 => ?_; simp [dNum, dS, pairA, assertA]; (repeat (refine ⟨by omega, ?_⟩)); refine hK2 _ ?_; clear hK2 K2)
      refine sxf_nil (hK' _ ?_)
      refine AW.st (by simp [dNum, dS, pairA, assertA]; rfl) ?_
      clear hK' K'
      refine AW_cond true rfl (fun _ => ?_) (fun h => by cases h)
      refine AW_rg (tyOf_good _) [4, 8] [] (fun _ _ => trivial) fun K' hK' => ?_
      repeat (refine sxf_next fun K2 hK2 => ?_; simp [dNum, dS, pairA, assertA]; (repeat (refine ⟨by omega, ?_⟩)); refine hK2 _ ?_; clear hK2 K2)
      refine sxf_nil (hK' _ ?_)
      refine AW.st (by simp [dNum, dS, pairA, assertA]; rfl) ?_
      clear hK' K'
      refine AW_rg (tyOf_good _) [6] [] (fun _ _ => trivial) fun K' hK' => ?_
      repeat (refine sxf_next fun K2 hK2 => ?_; simp [dNum, dS, pairA, assertA]; (repeat (refine ⟨by omega, ?_⟩)); refine hK2 _ ?_; clear hK2 K2)
      refine sxf_next fun K2 hK2 => ?_
      simp [dNum, dS, pairA, assertA]
      refine callK.data (hi) (by simp; rfl) (by first | exact D.leGo_refl _ | simp [takeMap, List.map_map, Function.comp_def, D.le, D.le.go, D.le_refl, D.leGo_refl, dNum, dS, pairA, assertA]) ?_
      refine hK2 _ ?_
      clear hK2 K2
      simp only [putd, upd_lst]
      repeat (refine sxf_next fun K2 hK2 => ?_; simp [dNum, dS, pairA, assertA]; (repeat (refine ⟨by omega, ?_⟩)); refine hK2 _ ?_; clear hK2 K2)
      refine sxf_nil (hK' _ ?_)
      refine AW.st (by simp [dNum, dS, pairA, assertA]; rfl) ?_
      clear hK' K'
      refine AW_ret ?_
      simp [D.le, D.le.go, takeMap, dNum, dS, pairA, assertA]
    | rise s =>
      rw [AskE] at hask
      have hi := h1 s hask.1
      have hw := h2 s hask.2
      rw [dE, evE]
      cases hs : is s with
      | false =>
        rw [hs] at hi
        refine PureC.of_body (tyOf_good _) Tryz.func24 rfl rfl (rs := [.tmp 6]) Tryz.results24 (by simp [Tryz.ntmps24]) fun X => ?_
        simp only [Tryz.ntmps24, List.map]
        refine AW_rg (tyOf_good _) [0, 4, 5] [4, 5] (fun _ _ => trivial) fun K' hK' => ?_
        repeat (refine sxf_next fun K2 hK2 => ?_; simp [dNum, dS, pairA, assertA]; (repeat (refine ⟨by omega, ?_⟩)); refine hK2 _ ?_; clear hK2 K2)
        refine sxf_nil (hK' _ ?_)
        refine AW.st (by simp [dNum, dS, pairA, assertA]; rfl) ?_
        clear hK' K'
        refine AW.imp (Imp.freezeB 4 trivial) ?_
        refine AW.st (by simp [dNum, dS, pairA, assertA]; rfl) ?_
        refine AW.imp (Imp.freezeB 5 trivial) ?_
        refine AW.st (by simp [dNum, dS, pairA, assertA]; rfl) ?_
        refine AW_then fun K1 hK1 => ?_
        refine AW_rg (tyOf_good _) [4, 5, 14] [] (fun _ _ => trivial) fun K' hK' => ?_
        repeat (refine sxf_next fun K2 hK2 => ?_; simp [dNum, dS, pairA, assertA]; (repeat (refine ⟨by omega, ?_⟩)); refine hK2 _ ?_; clear hK2 K2)
        refine sxf_nil (hK' _ ?_)
        refine AW.st (by simp [dNum, dS, pairA, assertA]; rfl) ?_
        clear hK' K'
        refine AW_block ?_
        refine AW_rg (tyOf_good _) [4, 5, 14, 16, 17] [] (fun _ _ => trivial) fun K' hK' => ?_
        repeat (refine sxf_next fun K2 hK2 => ?_; simp [dNum, dS, pairA, assertA]; (repeat (refine ⟨by omega, ?_⟩)); refine hK2 _ ?_; clear hK2 K2)
        refine sxf_nil (hK' _ ?_)
        refine AW.st (by simp [dNum, dS, pairA, assertA]; rfl) ?_
        clear hK' K'
        refine AW_cond false rfl (fun h => by cases h) (fun _ => ?_)
        refine AW_rg (tyOf_good _) [4, 5, 14, 20, 21] [] (fun _ _ => trivial) fun K' hK' => ?_
        repeat (refine sxf_next fun K2 hK2 => ?_; simp [dNum, dS, pairA, assertA]; (repeat (refine ⟨by omega, ?_⟩)); refine hK2 _ ?_; clear hK2 K2)
        refine sxf_nil (hK' _ ?_)
        refine AW.st (by simp [dNum, dS, pairA, assertA]; rfl) ?_
        clear hK' K'
        refine AW_cond false rfl (fun h => by cases h) (fun _ => ?_)
        refine AW_rg (tyOf_good _) [4, 5, 14, 26, 27] [] (fun _ _ => trivial) fun K' hK' => ?_
        repeat (refine sxf_next fun K2 hK2 => ?_; simp [dNum, dS, pairA, assertA]; (repeat (refine ⟨by omega, ?_⟩)); refine hK2 _ ?_; clear hK2 K2)
        refine sxf_nil (hK' _ ?_)
        refine AW.st (by simp [dNum, dS, pairA, assertA]; rfl) ?_
        clear hK' K'
        refine AW_cond true rfl (fun _ => ?_) (fun h => by cases h)
        refine AW_rg (tyOf_good _) [4, 5, 9] [] (fun _ _ => trivial) fun K' hK' => ?_
        repeat (refine sxf_next fun K2 hK2 => ?_; simp [dNum, dS, pairA, assertA]; (repeat (refine ⟨by omega, ?_⟩)); refine hK2 _ ?_; clear hK2 K2)
        refine sxf_nil (hK' _ ?_)
        refine AW.st (by simp [dNum, dS, pairA, assertA]; rfl) ?_
        clear hK' K'
        refine AW_rg (tyOf_good _) [6] [] (fun _ _ => trivial) fun K' hK' => ?_
        repeat (refine sxf_next fun K2 hK2 => ?_; simp [dNum, dS, pairA, assertA]; (repeat (refine ⟨by omega, ?_⟩)); refine hK2 _ ?_; clear hK2 K2)
        refine sxf_next fun K2 hK2 => ?_
        simp [dNum, dS, pairA, assertA]
        refine callK.data (hi) (by simp; rfl) (by first | exact D.leGo_refl _ | simp [takeMap, List.map_map, Function.comp_def, D.le, D.le.go, D.le_refl, D.leGo_refl, dNum, dS, pairA, assertA]) ?_
        refine hK2 _ ?_
        clear hK2 K2
        simp only [putd, upd_lst]
        repeat (refine sxf_next fun K2 hK2 => ?_; simp [dNum, dS, pairA, assertA]; (repeat (refine ⟨by omega, ?_⟩)); refine hK2 _ ?_; clear hK2 K2)
        refine sxf_nil (hK' _ ?_)
        refine AW.st (by simp [dNum, dS, pairA, assertA]; rfl) ?_
        clear hK' K'
        refine AW_ret ?_
        simp [D.le, D.le.go, takeMap, dNum, dS, pairA, assertA]
      | true =>
        rw [hs] at hi
        refine PureC.of_body (tyOf_good _) Tryz.func24 rfl rfl (rs := [.tmp 6]) Tryz.results24 (by simp [Tryz.ntmps24]) fun X => ?_
        simp only [Tryz.ntmps24, List.map]
        refine AW_rg (tyOf_good _) [0, 4, 5] [4, 5] (fun _ _ => trivial) fun K' hK' => ?_
        repeat (refine sxf_next fun K2 hK2 => ?_; simp [dNum, dS, pairA, assertA]; (repeat (refine ⟨by omega, ?_⟩)); refine hK2 _ ?_; clear hK2 K2)
        refine sxf_nil (hK' _ ?_)
        refine AW.st (by simp [dNum, dS, pairA, assertA]; rfl) ?_
        clear hK' K'
        refine AW.imp (Imp.freezeB 4 trivial) ?_
        refine AW.st (by simp [dNum, dS, pairA, assertA]; rfl) ?_
        refine AW.imp (Imp.freezeB 5 trivial) ?_
        refine AW.st (by simp [dNum, dS, pairA, assertA]; rfl) ?_
        refine AW_then fun K1 hK1 => ?_
        refine AW_rg (tyOf_good _) [4, 5, 14] [] (fun _ _ => trivial) fun K' hK' => ?_
        repeat (refine sxf_next fun K2 hK2 => ?_; simp [dNum, dS, pairA, assertA]; (repeat (refine ⟨by omega, ?_⟩)); refine hK2 _ ?_; clear hK2 K2)
        refine sxf_nil (hK' _ ?_)
        refine AW.st (by simp [dNum, dS, pairA, assertA]; rfl) ?_
        clear hK' K'
        refine AW_block ?_
        refine AW_rg (tyOf_good _) [4, 5, 14, 16, 17] [] (fun _ _ => trivial) fun K' hK' => ?_
        repeat (refine sxf_next fun K2 hK2 => ?_; simp [dNum, dS, pairA, assertA]; (repeat (refine ⟨by omega, ?_⟩)); refine hK2 _ ?_; clear hK2 K2)
        refine sxf_nil (hK' _ ?_)
        refine AW.st (by simp [dNum, dS, pairA, assertA]; rfl) ?_
        clear hK' K'
        refine AW_cond false rfl (fun h => by cases h) (fun _ => ?_)
        refine AW_rg (tyOf_good _) [4, 5, 14, 20, 21] [] (fun _ _ => trivial) fun K' hK' => ?_
        repeat (refine sxf_next fun K2 hK2 => ?_; simp [dNum, dS, pairA, assertA]; (repeat (refine ⟨by omega, ?_⟩)); refine hK2 _ ?_; clear hK2 K2)
        refine sxf_nil (hK' _ ?_)
        refine AW.st (by simp [dNum, dS, pairA, assertA]; rfl) ?_
        clear hK' K'
        refine AW_cond false rfl (fun h => by cases h) (fun _ => ?_)
        refine AW_rg (tyOf_good _) [4, 5, 14, 26, 27] [] (fun _ _ => trivial) fun K' hK' => ?_
        repeat (refine sxf_next fun K2 hK2 => ?_; simp [dNum, dS, pairA, assertA]; (repeat (refine ⟨by omega, ?_⟩)); refine hK2 _ ?_; clear hK2 K2)
        refine sxf_nil (hK' _ ?_)
        refine AW.st (by simp [dNum, dS, pairA, assertA]; rfl) ?_
        clear hK' K'
        refine AW_cond true rfl (fun _ => ?_) (fun h => by cases h)
        refine AW_rg (tyOf_good _) [4, 5, 9] [] (fun _ _ => trivial) fun K' hK' => ?_
        repeat (refine sxf_next fun K2 hK2 => ?_; simp [dNum, dS, pairA, assertA]; (repeat (refine ⟨by omega, ?_⟩)); refine hK2 _ ?_; clear hK2 K2)
        refine sxf_nil (hK' _ ?_)
        refine AW.st (by simp [dNum, dS, pairA, assertA]; rfl) ?_
        clear hK' K'
        refine AW_rg (tyOf_good _) [6] [] (fun _ _ => trivial) fun K' hK' => ?_
        repeat (refine sxf_next fun K2 hK2 => ?_; simp [dNum, dS, pairA, assertA]; (repeat (refine ⟨by omega, ?_⟩)); refine hK2 _ ?_; clear hK2 K2)
        refine sxf_next fun K2 hK2 => ?_
        simp [dNum, dS, pairA, assertA]
        refine callK.data (hi) (by simp; rfl) (by first | exact D.leGo_refl _ | simp [takeMap, List.map_map, Function.comp_def, D.le, D.le.go, D.le_refl, D.leGo_refl, dNum, dS, pairA, assertA]) ?_
        refine hK2 _ ?_
        clear hK2 K2
        simp only [putd, upd_lst]
        repeat (refine sxf_next fun K2 hK2 => ?_; simp [dNum, dS, pairA, assertA]; (repeat (refine ⟨by omega, ?_⟩)); refine hK2 _ ?_; clear hK2 K2)
        refine sxf_next fun K2 hK2 => ?_
        simp [dNum, dS, pairA, assertA]
        refine callK.data (hw) (by simp; rfl) (by first | exact D.leGo_refl _ | simp [takeMap, List.map_map, Function.comp_def, D.le, D.le.go, D.le_refl, D.leGo_refl, dNum, dS, pairA, assertA]) ?_
        refine hK2 _ ?_
        clear hK2 K2
        simp only [putd, upd_lst]
        repeat (refine sxf_next fun K2 hK2 => ?_; simp [dNum, dS, pairA, assertA]; (repeat (refine ⟨by omega, ?_⟩)); refine hK2 _ ?_; clear hK2 K2)
        refine sxf_nil (hK' _ ?_)
        refine AW.st (by simp [dNum, dS, pairA, assertA]; rfl) ?_
        clear hK' K'
        refine AW_ret ?_
        simp [D.le, D.le.go, takeMap, dNum, dS, pairA, assertA]
    | fall s =>
      rw [AskE] at hask
      have hi := h1 s hask.1
      have hw := h2 s hask.2
      rw [dE, evE]
      cases hs : is s with
      | true =>
        rw [hs] at hi
        refine PureC.of_body (tyOf_good _) Tryz.func24 rfl rfl (rs := [.tmp 6]) Tryz.results24 (by simp [Tryz.ntmps24]) fun X => ?_
        simp only [Tryz.ntmps24, List.map]
        refine AW_rg (tyOf_good _) [0, 4, 5] [4, 5] (fun _ _ => trivial) fun K' hK' => ?_
        repeat (refine sxf_next fun K2 hK2 => ?_; simp [dNum, dS, pairA, assertA]; (repeat (refine ⟨by omega, ?_⟩)); refine hK2 _ ?_; clear hK2 K2)
        refine sxf_nil (hK' _ ?_)
        refine AW.st (by simp [dNum, dS, pairA, assertA]; rfl) ?_
        clear hK' K'
        refine AW.imp (Imp.freezeB 4 trivial) ?_
        refine AW.st (by simp [dNum, dS, pairA, assertA]; rfl) ?_
        refine AW.imp (Imp.freezeB 5 trivial) ?_
        refine AW.st (by simp [dNum, dS, pairA, assertA]; rfl) ?_
        refine AW_then fun K1 hK1 => ?_
        refine AW_rg (tyOf_good _) [4, 5, 14] [] (fun _ _ => trivial) fun K' hK' => ?_
        repeat (refine sxf_next fun K2 hK2 => ?_; simp [dNum, dS, pairA, assertA]; (repeat (refine ⟨by omega, ?_⟩)); refine hK2 _ ?_; clear hK2 K2)
        refine sxf_nil (hK' _ ?_)
        refine AW.st (by simp [dNum, dS, pairA, assertA]; rfl) ?_
        clear hK' K'
        refine AW_block ?_
        refine AW_rg (tyOf_good _) [4, 5, 14, 16, 17] [] (fun _ _ => trivial) fun K' hK' => ?_
        repeat (refine sxf_next fun K2 hK2 => ?_; simp [dNum, dS, pairA, assertA]; (repeat (refine ⟨by omega, ?_⟩)); refine hK2 _ ?_; clear hK2 K2)
        refine sxf_nil (hK' _ ?_)
        refine AW.st (by simp [dNum, dS, pairA, assertA]; rfl) ?_
        clear hK' K'
        refine AW_cond false rfl (fun h => by cases h) (fun _ => ?_)
        refine AW_rg (tyOf_good _) [4, 5, 14, 20, 21] [] (fun _ _ => trivial) fun K' hK' => ?_
        repeat (refine sxf_next fun K2 hK2 => ?_; simp [dNum, dS, pairA, assertA]; (repeat (refine ⟨by omega, ?_⟩)); refine hK2 _ ?_; clear hK2 K2)
        refine sxf_nil (hK' _ ?_)
        refine AW.st (by simp [dNum, dS, pairA, assertA]; rfl) ?_
        clear hK' K'
        refine AW_cond false rfl (fun h => by cases h) (fun _ => ?_)
        refine AW_rg (tyOf_good _) [4, 5, 14, 26, 27] [] (fun _ _ => trivial) fun K' hK' => ?_
        repeat (refine sxf_next fun K2 hK2 => ?_; simp [dNum, dS, pairA, assertA]; (repeat (refine ⟨by omega, ?_⟩)); refine hK2 _ ?_; clear hK2 K2)
        refine sxf_nil (hK' _ ?_)
        refine AW.st (by simp [dNum, dS, pairA, assertA]; rfl) ?_
        clear hK' K'
        refine AW_cond false rfl (fun h => by cases h) (fun _ => ?_)
        refine AW_rg (tyOf_good _) [4, 5, 14, 38, 39] [] (fun _ _ => trivial) fun K' hK' => ?_
        repeat (refine sxf_next fun K2 hK2 => ?_; simp [dNum, dS, pairA, assertA]; (repeat (refine ⟨by omega, ?_⟩)); refine hK2 _ ?_; clear hK2 K2)
        refine sxf_nil (hK' _ ?_)
        refine AW.st (by simp [dNum, dS, pairA, assertA]; rfl) ?_
        clear hK' K'
        refine AW_cond true rfl (fun _ => ?_) (fun h => by cases h)
        refine AW_rg (tyOf_good _) [4, 5, 10] [] (fun _ _ => trivial) fun K' hK' => ?_
        repeat (refine sxf_next fun K2 hK2 => ?_; simp [dNum, dS, pairA, assertA]; (repeat (refine ⟨by omega, ?_⟩)); refine hK2 _ ?_; clear hK2 K2)
        refine sxf_nil (hK' _ ?_)
        refine AW.st (by simp [dNum, dS, pairA, assertA]; rfl) ?_
        clear hK' K'
        refine AW_rg (tyOf_good _) [6] [] (fun _ _ => trivial) fun K' hK' => ?_
        repeat (refine sxf_next fun K2 hK2 => ?_; simp [dNum, dS, pairA, assertA]; (repeat (refine ⟨by omega, ?_⟩)); refine hK2 _ ?_; clear hK2 K2)
        refine sxf_next fun K2 hK2 => ?_
        simp [dNum, dS, pairA, assertA]
        refine callK.data (hi) (by simp; rfl) (by first | exact D.leGo_refl _ | simp [takeMap, List.map_map, Function.comp_def, D.le, D.le.go, D.le_refl, D.leGo_refl, dNum, dS, pairA, assertA]) ?_
        refine hK2 _ ?_
        clear hK2 K2
        simp only [putd, upd_lst]
        repeat (refine sxf_next fun K2 hK2 => ?_; simp [dNum, dS, pairA, assertA]; (repeat (refine ⟨by omega, ?_⟩)); refine hK2 _ ?_; clear hK2 K2)
        refine sxf_nil (hK' _ ?_)
        refine AW.st (by simp [dNum, dS, pairA, assertA]; rfl) ?_
        clear hK' K'
        refine AW_ret ?_
        simp [D.le, D.le.go, takeMap, dNum, dS, pairA, assertA]
      | false =>
        rw [hs] at hi
        refine PureC.of_body (tyOf_good _) Tryz.func24 rfl rfl (rs := [.tmp 6]) Tryz.results24 (by simp [Tryz.ntmps24]) fun X => ?_
        simp only [Tryz.ntmps24, List.map]
        refine AW_rg (tyOf_good _) [0, 4, 5] [4, 5] (fun _ _ => trivial) fun K' hK' => ?_
        repeat (refine sxf_next fun K2 hK2 => ?_; simp [dNum, dS, pairA, assertA]; (repeat (refine ⟨by omega, ?_⟩)); refine hK2 _ ?_; clear hK2 K2)
        refine sxf_nil (hK' _ ?_)
        refine AW.st (by simp [dNum, dS, pairA, assertA]; rfl) ?_
        clear hK' K'
        refine AW.imp (Imp.freezeB 4 trivial) ?_
        refine AW.st (by simp [dNum, dS, pairA, assertA]; rfl) ?_
        refine AW.imp (Imp.freezeB 5 trivial) ?_
        refine AW.st (by simp [dNum, dS, pairA, assertA]; rfl) ?_
        refine AW_then fun K1 hK1 => ?_
        refine AW_rg (tyOf_good _) [4, 5, 14] [] (fun _ _ => trivial) fun K' hK' => ?_
        repeat (refine sxf_next fun K2 hK2 => ?_; simp [dNum, dS, pairA, assertA]; (repeat (refine ⟨by omega, ?_⟩)); refine hK2 _ ?_; clear hK2 K2)
        refine sxf_nil (hK' _ ?_)
        refine AW.st (by simp [dNum, dS, pairA, assertA]; rfl) ?_
        clear hK' K'
        refine AW_block ?_
        refine AW_rg (tyOf_good _) [4, 5, 14, 16, 17] [] (fun _ _ => trivial) fun K' hK' => ?_
        repeat (refine sxf_next fun K2 hK2 => ?_; simp [dNum, dS, pairA, assertA]; (repeat (refine ⟨by omega, ?_⟩)); refine hK2 _ ?_; clear hK2 K2)
        refine sxf_nil (hK' _ ?_)
        refine AW.st (by simp [dNum, dS, pairA, assertA]; rfl) ?_
        clear hK' K'
        refine AW_cond false rfl (fun h => by cases h) (fun _ => ?_)
        refine AW_rg (tyOf_good _) [4, 5, 14, 20, 21] [] (fun _ _ => trivial) fun K' hK' => ?_
        repeat (refine sxf_next fun K2 hK2 => ?_; simp [dNum, dS, pairA, assertA]; (repeat (refine ⟨by omega, ?_⟩)); refine hK2 _ ?_; clear hK2 K2)
        refine sxf_nil (hK' _ ?_)
        refine AW.st (by simp [dNum, dS, pairA, assertA]; rfl) ?_
        clear hK' K'
        refine AW_cond false rfl (fun h => by cases h) (fun _ => ?_)
        refine AW_rg (tyOf_good _) [4, 5, 14, 26, 27] [] (fun _ _ => trivial) fun K' hK' => ?_
        repeat (refine sxf_next fun K2 hK2 => ?_; simp [dNum, dS, pairA, assertA]; (repeat (refine ⟨by omega, ?_⟩)); refine hK2 _ ?_; clear hK2 K2)
        refine sxf_nil (hK' _ ?_)
        refine AW.st (by simp [dNum, dS, pairA, assertA]; rfl) ?_
        clear hK' K'
        refine AW_cond false rfl (fun h => by cases h) (fun _ => ?_)
        refine AW_rg (tyOf_good _) [4, 5, 14, 38, 39] [] (fun _ _ => trivial) fun K' hK' => ?_
        repeat (refine sxf_next fun K2 hK2 => ?_; simp [dNum, dS, pairA, assertA]; (repeat (refine ⟨by omega, ?_⟩)); refine hK2 _ ?_; clear hK2 K2)
        refine sxf_nil (hK' _ ?_)
        refine AW.st (by simp [dNum, dS, pairA, assertA]; rfl) ?_
        clear hK' K'
        refine AW_cond true rfl (fun _ => ?_) (fun h => by cases h)
        refine AW_rg (tyOf_good _) [4, 5, 10] [] (fun _ _ => trivial) fun K' hK' => ?_
        repeat (refine sxf_next fun K2 hK2 => ?_; simp [dNum, dS, pairA, assertA]; (repeat (refine ⟨by omega, ?_⟩)); refine hK2 _ ?_; clear hK2 K2)
        refine sxf_nil (hK' _ ?_)
        refine AW.st (by simp [dNum, dS, pairA, assertA]; rfl) ?_
        clear hK' K'
        refine AW_rg (tyOf_good _) [6] [] (fun _ _ => trivial) fun K' hK' => ?_
        repeat (refine sxf_next fun K2 hK2 => ?_; simp [dNum, dS, pairA, assertA]; (repeat (refine ⟨by omega, ?_⟩)); refine hK2 _ ?_; clear hK2 K2)
        refine sxf_next fun K2 hK2 => ?_
        simp [dNum, dS, pairA, assertA]
        refine callK.data (hi) (by simp; rfl) (by first | exact D.leGo_refl _ | simp [takeMap, List.map_map, Function.comp_def, D.le, D.le.go, D.le_refl, D.leGo_refl, dNum, dS, pairA, assertA]) ?_
        refine hK2 _ ?_
        clear hK2 K2
        simp only [putd, upd_lst]
        repeat (refine sxf_next fun K2 hK2 => ?_; simp [dNum, dS, pairA, assertA]; (repeat (refine ⟨by omega, ?_⟩)); refine hK2 _ ?_; clear hK2 K2)
        refine sxf_next fun K2 hK2 => ?_
        simp [dNum, dS, pairA, assertA]
        refine callK.data (hw) (by simp; rfl) (by first | exact D.leGo_refl _ | simp [takeMap, List.map_map, Function.comp_def, D.le, D.le.go, D.le_refl, D.leGo_refl, dNum, dS, pairA, assertA]) ?_
        refine hK2 _ ?_
        clear hK2 K2
        simp only [putd, upd_lst]
        repeat (refine sxf_next fun K2 hK2 => ?_; simp [dNum, dS, pairA, assertA]; (repeat (refine ⟨by omega, ?_⟩)); refine hK2 _ ?_; clear hK2 K2)
        refine sxf_nil (hK' _ ?_)
        refine AW.st (by simp [dNum, dS, pairA, assertA]; rfl) ?_
        clear hK' K'
        refine AW_ret ?_
        simp [D.le, D.le.go, takeMap, dNum, dS, pairA, assertA]
    | not x =>
      have hc := ih x (by simp at hsz; omega) (by rwa [AskE] at hask) (by simp only [bE] at hb; omega)
      obtain ⟨tx, cx, hx⟩ := dE_ifc x
      rw [dE, evE, hx]
      rw [hx] at hc
      generalize evE is was x = r at hc ⊢
      refine PureC.of_body (tyOf_good _) Tryz.func24 rfl rfl (rs := [.tmp 6]) Tryz.results24 (by simp [Tryz.ntmps24]) fun X => ?_
      simp only [Tryz.ntmps24, List.map]
      refine AW_rg (tyOf_good _) [0, 4, 5] [4, 5] (fun _ _ => trivial) fun K' hK' => ?_
      repeat (refine sxf_next fun K2 hK2 => ?_; simp [dNum, dS, pairA, assertA]; (repeat (refine ⟨by omega, ?_⟩)); refine hK2 _ ?_; clear hK2 K2)
      refine sxf_nil (hK' _ ?_)
      refine AW.st (by simp [dNum, dS, pairA, assertA]; rfl) ?_
      clear hK' K'
      refine AW.imp (Imp.freezeB 4 trivial) ?_
      refine AW.st (by simp [dNum, dS, pairA, assertA]; rfl) ?_
      refine AW.imp (Imp.freezeB 5 trivial) ?_
      refine AW.st (by simp [dNum, dS, pairA, assertA]; rfl) ?_
      refine AW_then fun K1 hK1 => ?_
      refine AW_rg (tyOf_good _) [4, 5, 14] [] (fun _ _ => trivial) fun K' hK' => ?_
      repeat (refine sxf_next fun K2 hK2 => ?_; simp [dNum, dS, pairA, assertA]; (repeat (refine ⟨by omega, ?_⟩)); refine hK2 _ ?_; clear hK2 K2)
      refine sxf_nil (hK' _ ?_)
      refine AW.st (by simp [dNum, dS, pairA, assertA]; rfl) ?_
      clear hK' K'
      refine AW_block ?_
      refine AW_rg (tyOf_good _) [4, 5, 14, 16, 17] [] (fun _ _ => trivial) fun K' hK' => ?_
      repeat (refine sxf_next fun K2 hK2 => ?_; simp [dNum, dS, pairA, assertA]; (repeat (refine ⟨by omega, ?_⟩)); refine hK2 _ ?_; clear hK2 K2)
      refine sxf_nil (hK' _ ?_)
      refine AW.st (by simp [dNum, dS, pairA, assertA]; rfl) ?_
      clear hK' K'
      refine AW_cond false rfl (fun h => by cases h) (fun _ => ?_)
      refine AW_rg (tyOf_good _) [4, 5, 14, 20, 21] [] (fun _ _ => trivial) fun K' hK' => ?_
      repeat (refine sxf_next fun K2 hK2 => ?_; simp [dNum, dS, pairA, assertA]; (repeat (refine ⟨by omega, ?_⟩)); refine hK2 _ ?_; clear hK2 K2)
      refine sxf_nil (hK' _ ?_)
      refine AW.st (by simp [dNum, dS, pairA, assertA]; rfl) ?_
      clear hK' K'
      refine AW_cond false rfl (fun h => by cases h) (fun _ => ?_)
      refine AW_rg (tyOf_good _) [4, 5, 14, 26, 27] [] (fun _ _ => trivial) fun K' hK' => ?_
      repeat (refine sxf_next fun K2 hK2 => ?_; simp [dNum, dS, pairA, assertA]; (repeat (refine ⟨by omega, ?_⟩)); refine hK2 _ ?_; clear hK2 K2)
      refine sxf_nil (hK' _ ?_)
      refine AW.st (by simp [dNum, dS, pairA, assertA]; rfl) ?_
      clear hK' K'
      refine AW_cond false rfl (fun h => by cases h) (fun _ => ?_)
      refine AW_rg (tyOf_good _) [4, 5, 14, 38, 39] [] (fun _ _ => trivial) fun K' hK' => ?_
      repeat (refine sxf_next fun K2 hK2 => ?_; simp [dNum, dS, pairA, assertA]; (repeat (refine ⟨by omega, ?_⟩)); refine hK2 _ ?_; clear hK2 K2)
      refine sxf_nil (hK' _ ?_)
      refine AW.st (by simp [dNum, dS, pairA, assertA]; rfl) ?_
      clear hK' K'
      refine AW_cond false rfl (fun h => by cases h) (fun _ => ?_)
      refine AW_rg (tyOf_good _) [4, 5, 14, 50, 51] [] (fun _ _ => trivial) fun K' hK' => ?_
      repeat (refine sxf_next fun K2 hK2 => ?_; simp [dNum, dS, pairA, assertA]; (repeat (refine ⟨by omega, ?_⟩)); refine hK2 _ ?_; clear hK2 K2)
      refine sxf_nil (hK' _ ?_)
      refine AW.st (by simp [dNum, dS, pairA, assertA]; rfl) ?_
      clear hK' K'
      refine AW_cond true rfl (fun _ => ?_) (fun h => by cases h)
      refine AW_rg (tyOf_good _) [4, 5, 11] [11] (fun _ _ => trivial) fun K' hK' => ?_
      repeat (refine sxf_next fun K2 hK2 => ?_; simp [dNum, dS, pairA, assertA]; (repeat (refine ⟨by omega, ?_⟩)); refine hK2 _ ?_; clear hK2 K2)
      refine sxf_nil (hK' _ ?_)
      refine AW.st (by simp [dNum, dS, pairA, assertA]; rfl) ?_
      clear hK' K'
      refine AW_rg (tyOf_good _) [6] [11] (fun _ _ => trivial) fun K' hK' => ?_
      repeat (refine sxf_next fun K2 hK2 => ?_; simp [dNum, dS, pairA, assertA]; (repeat (refine ⟨by omega, ?_⟩)); refine hK2 _ ?_; clear hK2 K2)
      refine sxf_next fun K2 hK2 => ?_
      simp [dNum, dS, pairA, assertA]
      refine callK.data (hc) (by simp; rfl) (by first | exact D.leGo_refl _ | simp [takeMap, List.map_map, Function.comp_def, D.le, D.le.go, D.le_refl, D.leGo_refl, dNum, dS, pairA, assertA]) ?_
      refine hK2 _ ?_
      clear hK2 K2
      simp only [putd, upd_lst]
      repeat (refine sxf_next fun K2 hK2 => ?_; simp [dNum, dS, pairA, assertA]; (repeat (refine ⟨by omega, ?_⟩)); refine hK2 _ ?_; clear hK2 K2)
      refine sxf_nil (hK' _ ?_)
      refine AW.st (by simp [dNum, dS, pairA, assertA]; rfl) ?_
      clear hK' K'
      refine AW_ret ?_
      simp [D.le, D.le.go, takeMap, dNum, dS, pairA, assertA]
    | and l =>
      have hch : ∀ x ∈ l, PureC Tryz.prog G 56 [dE x, .ip [.fn (.func g1) c1], .ip [.fn (.func g2) c2]] (.v (.bool (!evE is was x))) := fun x hx => by
        have hc := ih x (by have := List.sizeOf_lt_of_mem hx; simp only [Ex.and.sizeOf_spec] at hsz; omega) (by rw [AskE, AskL_iff] at hask; exact hask x hx) (by have := bEs_mem hx; simp only [bE] at hb; omega)
        obtain ⟨tx, cx, hxx⟩ := dE_ifc x
        rw [hxx] at hc ⊢
        generalize evE is was x = r at hc ⊢
        refine PureC.of_body (tyOf_good _) Tryz.func56 rfl rfl (rs := [.tmp 4]) Tryz.results56 (by simp [Tryz.ntmps56]) fun X => ?_
        simp only [Tryz.ntmps56, List.map]
        refine AW_rg (tyOf_good _) [0, 1, 2] [] (fun _ _ => trivial) fun K' hK' => ?_
        repeat (refine sxf_next fun K2 hK2 => ?_; simp [dNum, dS, pairA, assertA]; (repeat (refine ⟨by omega, ?_⟩)); refine hK2 _ ?_; clear hK2 K2)
        refine sxf_nil (hK' _ ?_)
        refine AW.st (by simp [dNum, dS, pairA, assertA]; rfl) ?_
        clear hK' K'
        refine AW_rg (tyOf_good _) [4] [] (fun _ _ => trivial) fun K' hK' => ?_
        repeat (refine sxf_next fun K2 hK2 => ?_; simp [dNum, dS, pairA, assertA]; (repeat (refine ⟨by omega, ?_⟩)); refine hK2 _ ?_; clear hK2 K2)
        refine sxf_next fun K2 hK2 => ?_
        simp [dNum, dS, pairA, assertA]
        refine callK.data (hc) (by simp; rfl) (by first | exact D.leGo_refl _ | simp [takeMap, List.map_map, Function.comp_def, D.le, D.le.go, D.le_refl, D.leGo_refl, dNum, dS, pairA, assertA]) ?_
        refine hK2 _ ?_
        clear hK2 K2
        simp only [putd, upd_lst]
        repeat (refine sxf_next fun K2 hK2 => ?_; simp [dNum, dS, pairA, assertA]; (repeat (refine ⟨by omega, ?_⟩)); refine hK2 _ ?_; clear hK2 K2)
        refine sxf_nil (hK' _ ?_)
        refine AW.st (by simp [dNum, dS, pairA, assertA]; rfl) ?_
        clear hK' K'
        refine AW_ret ?_
        simp [D.le, D.le.go, takeMap, dNum, dS, pairA, assertA]
      have hln := bEs_len l
      have hcf := containsAnd_spec G none l 56 [.ip [.fn (.func g1) c1], .ip [.fn (.func g2) c2]] (fun x => !evE is was x) (by simp only [bE] at hb; omega) hch
      rw [dE, dEs_map, evE, evA_any]
      generalize l.any (fun x => !evE is was x) = r at hcf ⊢
      refine PureC.of_body (tyOf_good _) Tryz.func24 rfl rfl (rs := [.tmp 6]) Tryz.results24 (by simp [Tryz.ntmps24]) fun X => ?_
      simp only [Tryz.ntmps24, List.map]
      refine AW_rg (tyOf_good _) [0, 4, 5] [4, 5] (fun _ _ => trivial) fun K' hK' => ?_
      repeat (refine sxf_next fun K2 hK2 => ?_; simp [dNum, dS, pairA, assertA]; (repeat (refine ⟨by omega, ?_⟩)); refine hK2 _ ?_; clear hK2 K2)
      refine sxf_nil (hK' _ ?_)
      refine AW.st (by simp [dNum, dS, pairA, assertA]; rfl) ?_
      clear hK' K'
      refine AW.imp (Imp.freezeB 4 trivial) ?_
      refine AW.st (by simp [dNum, dS, pairA, assertA]; rfl) ?_
      refine AW.imp (Imp.freezeB 5 trivial) ?_
      refine AW.st (by simp [dNum, dS, pairA, assertA]; rfl) ?_
      refine AW_then fun K1 hK1 => ?_
      refine AW_rg (tyOf_good _) [4, 5, 14] [] (fun _ _ => trivial) fun K' hK' => ?_
      repeat (refine sxf_next fun K2 hK2 => ?_; simp [dNum, dS, pairA, assertA]; (repeat (refine ⟨by omega, ?_⟩)); refine hK2 _ ?_; clear hK2 K2)
      refine sxf_nil (hK' _ ?_)
      refine AW.st (by simp [dNum, dS, pairA, assertA]; rfl) ?_
      clear hK' K'
      refine AW_block ?_
      refine AW_rg (tyOf_good _) [4, 5, 14, 16, 17] [] (fun _ _ => trivial) fun K' hK' => ?_
      repeat (refine sxf_next fun K2 hK2 => ?_; simp [dNum, dS, pairA, assertA]; (repeat (refine ⟨by omega, ?_⟩)); refine hK2 _ ?_; clear hK2 K2)
      refine sxf_nil (hK' _ ?_)
      refine AW.st (by simp [dNum, dS, pairA, assertA]; rfl) ?_
      clear hK' K'
      refine AW_cond false rfl (fun h => by cases h) (fun _ => ?_)
      refine AW_rg (tyOf_good _) [4, 5, 14, 20, 21] [] (fun _ _ => trivial) fun K' hK' => ?_
      repeat (refine sxf_next fun K2 hK2 => ?_; simp [dNum, dS, pairA, assertA]; (repeat (refine ⟨by omega, ?_⟩)); refine hK2 _ ?_; clear hK2 K2)
      refine sxf_nil (hK' _ ?_)
      refine AW.st (by simp [dNum, dS, pairA, assertA]; rfl) ?_
      clear hK' K'
      refine AW_cond false rfl (fun h => by cases h) (fun _ => ?_)
      refine AW_rg (tyOf_good _) [4, 5, 14, 26, 27] [] (fun _ _ => trivial) fun K' hK' => ?_
      repeat (refine sxf_next fun K2 hK2 => ?_; simp [dNum, dS, pairA, assertA]; (repeat (refine ⟨by omega, ?_⟩)); refine hK2 _ ?_; clear hK2 K2)
      refine sxf_nil (hK' _ ?_)
      refine AW.st (by simp [dNum, dS, pairA, assertA]; rfl) ?_
      clear hK' K'
      refine AW_cond false rfl (fun h => by cases h) (fun _ => ?_)
      refine AW_rg (tyOf_good _) [4, 5, 14, 38, 39] [] (fun _ _ => trivial) fun K' hK' => ?_
      repeat (refine sxf_next fun K2 hK2 => ?_; simp [dNum, dS, pairA, assertA]; (repeat (refine ⟨by omega, ?_⟩)); refine hK2 _ ?_; clear hK2 K2)
      refine sxf_nil (hK' _ ?_)
      refine AW.st (by simp [dNum, dS, pairA, assertA]; rfl) ?_
      clear hK' K'
      refine AW_cond false rfl (fun h => by cases h) (fun _ => ?_)
      refine AW_rg (tyOf_good _) [4, 5, 14, 50, 51] [] (fun _ _ => trivial) fun K' hK' => ?_
      repeat (refine sxf_next fun K2 hK2 => ?_; simp [dNum, dS, pairA, assertA]; (repeat (refine ⟨by omega, ?_⟩)); refine hK2 _ ?_; clear hK2 K2)
      refine sxf_nil (hK' _ ?_)
      refine AW.st (by simp [dNum, dS, pairA, assertA]; rfl) ?_
      clear hK' K'
      refine AW_cond false rfl (fun h => by cases h) (fun _ => ?_)
      refine AW_rg (tyOf_good _) [4, 5, 14, 59, 60] [] (fun _ _ => trivial) fun K' hK' => ?_
      repeat (refine sxf_next fun K2 hK2 => ?_; simp [dNum, dS, pairA, assertA]; (repeat (refine ⟨by omega, ?_⟩)); refine hK2 _ ?_; clear hK2 K2)
      refine sxf_nil (hK' _ ?_)
      refine AW.st (by simp [dNum, dS, pairA, assertA]; rfl) ?_
      clear hK' K'
      refine AW_cond true rfl (fun _ => ?_) (fun h => by cases h)
      refine AW_rg (tyOf_good _) [4, 5, 12] [] (fun _ _ => trivial) fun K' hK' => ?_
      repeat (refine sxf_next fun K2 hK2 => ?_; simp [dNum, dS, pairA, assertA]; (repeat (refine ⟨by omega, ?_⟩)); refine hK2 _ ?_; clear hK2 K2)
      refine sxf_nil (hK' _ ?_)
      refine AW.st (by simp [dNum, dS, pairA, assertA]; rfl) ?_
      clear hK' K'
      refine AW_rg (tyOf_good _) [6] [] (fun _ _ => trivial) fun K' hK' => ?_
      repeat (refine sxf_next fun K2 hK2 => ?_; simp [dNum, dS, pairA, assertA]; (repeat (refine ⟨by omega, ?_⟩)); refine hK2 _ ?_; clear hK2 K2)
      refine sxf_next fun K2 hK2 => ?_
      simp [dNum, dS, pairA, assertA]
      refine callK.data (hcf) (by simp; rfl) (by first | exact D.leGo_refl _ | simp [takeMap, List.map_map, Function.comp_def, D.le, D.le.go, D.le_refl, D.leGo_refl, dNum, dS, pairA, assertA]) ?_
      refine hK2 _ ?_
      clear hK2 K2
      simp only [putd, upd_lst]
      repeat (refine sxf_next fun K2 hK2 => ?_; simp [dNum, dS, pairA, assertA]; (repeat (refine ⟨by omega, ?_⟩)); refine hK2 _ ?_; clear hK2 K2)
      refine sxf_nil (hK' _ ?_)
      refine AW.st (by simp [dNum, dS, pairA, assertA]; rfl) ?_
      clear hK' K'
      refine AW_ret ?_
      simp [D.le, D.le.go, takeMap, dNum, dS, pairA, assertA]
    | or l =>
      have hch : ∀ x ∈ l, PureC Tryz.prog G 58 [dE x, .ip [.fn (.func g1) c1], .ip [.fn (.func g2) c2]] (.v (.bool (evE is was x))) := fun x hx => by
        have hc := ih x (by have := List.sizeOf_lt_of_mem hx; simp only [Ex.or.sizeOf_spec] at hsz; omega) (by rw [AskE, AskL_iff] at hask; exact hask x hx) (by have := bEs_mem hx; simp only [bE] at hb; omega)
        obtain ⟨tx, cx, hxx⟩ := dE_ifc x
        rw [hxx] at hc ⊢
        generalize evE is was x = r at hc ⊢
        refine PureC.of_body (tyOf_good _) Tryz.func58 rfl rfl (rs := [.tmp 4]) Tryz.results58 (by simp [Tryz.ntmps58]) fun X => ?_
        simp only [Tryz.ntmps58, List.map]
        refine AW_rg (tyOf_good _) [0, 1, 2] [] (fun _ _ => trivial) fun K' hK' => ?_
        repeat (refine sxf_next fun K2 hK2 => ?_; simp [dNum, dS, pairA, assertA]; (repeat (refine ⟨by omega, ?_⟩)); refine hK2 _ ?_; clear hK2 K2)
        refine sxf_nil (hK' _ ?_)
        refine AW.st (by simp [dNum, dS, pairA, assertA]; rfl) ?_
        clear hK' K'
        refine AW_rg (tyOf_good _) [4] [] (fun _ _ => trivial) fun K' hK' => ?_
        repeat (refine sxf_next fun K2 hK2 => ?_; simp [dNum, dS, pairA, assertA]; (repeat (refine ⟨by omega, ?_⟩)); refine hK2 _ ?_; clear hK2 K2)
        refine sxf_next fun K2 hK2 => ?_
        simp [dNum, dS, pairA, assertA]
        refine callK.data (hc) (by simp; rfl) (by first | exact D.leGo_refl _ | simp [takeMap, List.map_map, Function.comp_def, D.le, D.le.go, D.le_refl, D.leGo_refl, dNum, dS, pairA, assertA]) ?_
        refine hK2 _ ?_
        clear hK2 K2
        simp only [putd, upd_lst]
        repeat (refine sxf_next fun K2 hK2 => ?_; simp [dNum, dS, pairA, assertA]; (repeat (refine ⟨by omega, ?_⟩)); refine hK2 _ ?_; clear hK2 K2)
        refine sxf_nil (hK' _ ?_)
        refine AW.st (by simp [dNum, dS, pairA, assertA]; rfl) ?_
        clear hK' K'
        refine AW_ret ?_
        simp [D.le, D.le.go, takeMap, dNum, dS, pairA, assertA]
      have hln := bEs_len l
      have hcf := containsOr_spec G none l 58 [.ip [.fn (.func g1) c1], .ip [.fn (.func g2) c2]] (fun x => evE is was x) (by simp only [bE] at hb; omega) hch
      rw [dE, dEs_map, evE, evO_any]
      generalize l.any (fun x => evE is was x) = r at hcf ⊢
      refine PureC.of_body (tyOf_good _) Tryz.func24 rfl rfl (rs := [.tmp 6]) Tryz.results24 (by simp [Tryz.ntmps24]) fun X => ?_
      simp only [Tryz.ntmps24, List.map]
      refine AW_rg (tyOf_good _) [0, 4, 5] [4, 5] (fun _ _ => trivial) fun K' hK' => ?_
      repeat (refine sxf_next fun K2 hK2 => ?_; simp [dNum, dS, pairA, assertA]; (repeat (refine ⟨by omega, ?_⟩)); refine hK2 _ ?_; clear hK2 K2)
      refine sxf_nil (hK' _ ?_)
      refine AW.st (by simp [dNum, dS, pairA, assertA]; rfl) ?_
      clear hK' K'
      refine AW.imp (Imp.freezeB 4 trivial) ?_
      refine AW.st (by simp [dNum, dS, pairA, assertA]; rfl) ?_
      refine AW.imp (Imp.freezeB 5 trivial) ?_
      refine AW.st (by simp [dNum, dS, pairA, assertA]; rfl) ?_
      refine AW_then fun K1 hK1 => ?_
      refine AW_rg (tyOf_good _) [4, 5, 14] [] (fun _ _ => trivial) fun K' hK' => ?_
      repeat (refine sxf_next fun K2 hK2 => ?_; simp [dNum, dS, pairA, assertA]; (repeat (refine ⟨by omega, ?_⟩)); refine hK2 _ ?_; clear hK2 K2)
      refine sxf_nil (hK' _ ?_)
      refine AW.st (by simp [dNum, dS, pairA, assertA]; rfl) ?_
      clear hK' K'
      refine AW_block ?_
      refine AW_rg (tyOf_good _) [4, 5, 14, 16, 17] [] (fun _ _ => trivial) fun K' hK' => ?_
      repeat (refine sxf_next fun K2 hK2 => ?_; simp [dNum, dS, pairA, assertA]; (repeat (refine ⟨by omega, ?_⟩)); refine hK2 _ ?_; clear hK2 K2)
      refine sxf_nil (hK' _ ?_)
      refine AW.st (by simp [dNum, dS, pairA, assertA]; rfl) ?_
      clear hK' K'
      refine AW_cond false rfl (fun h => by cases h) (fun _ => ?_)
      refine AW_rg (tyOf_good _) [4, 5, 14, 20, 21] [] (fun _ _ => trivial) fun K' hK' => ?_
      repeat (refine sxf_next fun K2 hK2 => ?_; simp [dNum, dS, pairA, assertA]; (repeat (refine ⟨by omega, ?_⟩)); refine hK2 _ ?_; clear hK2 K2)
      refine sxf_nil (hK' _ ?_)
      refine AW.st (by simp [dNum, dS, pairA, assertA]; rfl) ?_
      clear hK' K'
      refine AW_cond false rfl (fun h => by cases h) (fun _ => ?_)
      refine AW_rg (tyOf_good _) [4, 5, 14, 26, 27] [] (fun _ _ => trivial) fun K' hK' => ?_
      repeat (refine sxf_next fun K2 hK2 => ?_; simp [dNum, dS, pairA, assertA]; (repeat (refine ⟨by omega, ?_⟩)); refine hK2 _ ?_; clear hK2 K2)
      refine sxf_nil (hK' _ ?_)
      refine AW.st (by simp [dNum, dS, pairA, assertA]; rfl) ?_
      clear hK' K'
      refine AW_cond false rfl (fun h => by cases h) (fun _ => ?_)
      refine AW_rg (tyOf_good _) [4, 5, 14, 38, 39] [] (fun _ _ => trivial) fun K' hK' => ?_
      repeat (refine sxf_next fun K2 hK2 => ?_; simp [dNum, dS, pairA, assertA]; (repeat (refine ⟨by omega, ?_⟩)); refine hK2 _ ?_; clear hK2 K2)
      refine sxf_nil (hK' _ ?_)
      refine AW.st (by simp [dNum, dS, pairA, assertA]; rfl) ?_
      clear hK' K'
      refine AW_cond false rfl (fun h => by cases h) (fun _ => ?_)
      refine AW_rg (tyOf_good _) [4, 5, 14, 50, 51] [] (fun _ _ => trivial) fun K' hK' => ?_
      repeat (refine sxf_next fun K2 hK2 => ?_; simp [dNum, dS, pairA, assertA]; (repeat (refine ⟨by omega, ?_⟩)); refine hK2 _ ?_; clear hK2 K2)
      refine sxf_nil (hK' _ ?_)
      refine AW.st (by simp [dNum, dS, pairA, assertA]; rfl) ?_
      clear hK' K'
      refine AW_cond false rfl (fun h => by cases h) (fun _ => ?_)
      refine AW_rg (tyOf_good _) [4, 5, 14, 59, 60] [] (fun _ _ => trivial) fun K' hK' => ?_
      repeat (refine sxf_next fun K2 hK2 => ?_; simp [dNum, dS, pairA, assertA]; (repeat (refine ⟨by omega, ?_⟩)); refine hK2 _ ?_; clear hK2 K2)
      refine sxf_nil (hK' _ ?_)
      refine AW.st (by simp [dNum, dS, pairA, assertA]; rfl) ?_
      clear hK' K'
      refine AW_cond false rfl (fun h => by cases h) (fun _ => ?_)
      refine AW_rg (tyOf_good _) [4, 5, 66, 67] [] (fun _ _ => trivial) fun K' hK' => ?_
      repeat (refine sxf_next fun K2 hK2 => ?_; simp [dNum, dS, pairA, assertA]; (repeat (refine ⟨by omega, ?_⟩)); refine hK2 _ ?_; clear hK2 K2)
      refine sxf_nil (hK' _ ?_)
      refine AW.st (by simp [dNum, dS, pairA, assertA]; rfl) ?_
      clear hK' K'
      refine AW_cond true rfl (fun _ => ?_) (fun h => by cases h)
      refine AW_rg (tyOf_good _) [4, 5, 13] [] (fun _ _ => trivial) fun K' hK' => ?_
      repeat (refine sxf_next fun K2 hK2 => ?_; simp [dNum, dS, pairA, assertA]; (repeat (refine ⟨by omega, ?_⟩)); refine hK2 _ ?_; clear hK2 K2)
      refine sxf_nil (hK' _ ?_)
      refine AW.st (by simp [dNum, dS, pairA, assertA]; rfl) ?_
      clear hK' K'
      refine AW_rg (tyOf_good _) [6] [] (fun _ _ => trivial) fun K' hK' => ?_
      repeat (refine sxf_next fun K2 hK2 => ?_; simp [dNum, dS, pairA, assertA]; (repeat (refine ⟨by omega, ?_⟩)); refine hK2 _ ?_; clear hK2 K2)
      refine sxf_next fun K2 hK2 => ?_
      simp [dNum, dS, pairA, assertA]
      refine callK.data (hcf) (by simp; rfl) (by first | exact D.leGo_refl _ | simp [takeMap, List.map_map, Function.comp_def, D.le, D.le.go, D.le_refl, D.leGo_refl, dNum, dS, pairA, assertA]) ?_
      refine hK2 _ ?_
      clear hK2 K2
      simp only [putd, upd_lst]
      repeat (refine sxf_next fun K2 hK2 => ?_; simp [dNum, dS, pairA, assertA]; (repeat (refine ⟨by omega, ?_⟩)); refine hK2 _ ?_; clear hK2 K2)
      refine sxf_nil (hK' _ ?_)
      refine AW.st (by simp [dNum, dS, pairA, assertA]; rfl) ?_
      clear hK' K'
      refine AW_ret ?_
      simp [D.le, D.le.go, takeMap, dNum, dS, pairA, assertA]
theorem eval_on (G : Glob) (g1 g2 : FuncId) (c1 c2 : List D) (is was : List UInt8 → Bool) (S1 S2 : List UInt8 → Prop) (h1 : TellsOn S1 G g1 c1 is) (h2 : TellsOn S2 G g2 c2 was) (e : Ex) (ha : AskE S1 S2 e) (hb : bE e ≤ 2^28) : PureC Tryz.prog G 24 [dE e, .fn (.func g1) c1, .fn (.func g2) c2] (.v (.bool (evE is was e))) :=
  eval_at G g1 g2 c1 c2 is was S1 S2 h1 h2 _ e (Nat.le_refl _) ha hb
end Go.Proofs.YtagfbbnlbncjlaaGreatDoor

/-
  What ExprBack and ExprTidy say.
-/
namespace Go.Proofs.YtagfbbnlbncjlaaGreatDoor
set_option linter.unusedSimpArgs false
set_option linter.unusedVariables false
open Go.Av

theorem la : (⟨#[97]⟩ : ByteArray) = bs [97] := rfl
end Go.Proofs.YtagfbbnlbncjlaaGreatDoor

/-
  What ExprHangs says: an expression hangs on its names alone.
-/
namespace Go.Proofs.YtagfbbnlbncjlaaGreatDoor
set_option linter.unusedSimpArgs false
set_option linter.unusedVariables false
open Go.Av

/-! ### Plain -/
theorem mem_nmsL {all : Bool} {s : List UInt8} : ∀ {l : List Ex}, s ∈ nmsL all l ↔ ∃ e ∈ l, s ∈ nmsE all e
  | [] => by simp [nmsL]
  | e :: l => by simp [nmsL, mem_nmsL (l := l)]
theorem edges_names : ∀ (n : Nat) (e : Ex), SizeOf.sizeOf e ≤ n → ∀ s, s ∈ nmsE false e → s ∈ nmsE true e
  | 0, e, hn => by cases e <;> simp at hn
  | n + 1, e, hn => by
    intro s hs
    cases e with
    | not x => exact edges_names n x (by simp at hn; omega) s hs
    | and l =>
      simp only [nmsE] at hs ⊢
      obtain ⟨x, hx, h⟩ := mem_nmsL.1 hs
      exact mem_nmsL.2 ⟨x, hx, edges_names n x (by have := List.sizeOf_lt_of_mem hx; simp only [Ex.and.sizeOf_spec] at hn; omega) s h⟩
    | or l =>
      simp only [nmsE] at hs ⊢
      obtain ⟨x, hx, h⟩ := mem_nmsL.1 hs
      exact mem_nmsL.2 ⟨x, hx, edges_names n x (by have := List.sizeOf_lt_of_mem hx; simp only [Ex.or.sizeOf_spec] at hn; omega) s h⟩
    | cst b => exact hs
    | bit s' => simp only [nmsE, nmE] at hs; simp [one1] at hs
    | rise s' => exact hs
    | fall s' => exact hs
end Go.Proofs.YtagfbbnlbncjlaaGreatDoor

/-
  Plain: unsigned words, and the least pairs in which one name alone decides.
-/
namespace Go.Proofs.YtagfbbnlbncjlaaGreatDoor
set_option linter.unusedSimpArgs false
set_option linter.unusedVariables false
open Go.Av

/-! ### Unsigned words -/
theorem u_nat (x : Nat) (h : x < 2^64) : (BitVec.ofInt 64 (x : Int)).toNat = x := by
  rw [BitVec.toNat_ofInt]
  have : (2:Nat)^64 = 18446744073709551616 := by decide
  omega
theorem u_wrap (x : Nat) (h : x < 2^64) : IntKind.u64.wrap (x : Int) = (x : Int) := by
  rw [IntKind.wrap_u64]
  have : (2:Nat)^64 = 18446744073709551616 := by decide
  omega
theorem u_or (x y : Nat) (hx : x < 2^64) (hy : y < 2^64) : bitsI .or .u64 (x : Int) (y : Int) = ((x ||| y : Nat) : Int) := by
  unfold bitsI
  dsimp only
  have h3 : (BitVec.ofInt IntKind.u64.bits (x : Int) ||| BitVec.ofInt IntKind.u64.bits (y : Int)).toNat = x ||| y := by
    show (BitVec.ofInt 64 (x : Int) ||| BitVec.ofInt 64 (y : Int)).toNat = x ||| y
    rw [BitVec.toNat_or, u_nat x hx, u_nat y hy]
  rw [h3, u_wrap _ (Nat.or_lt_two_pow hx hy)]
theorem u_and (x y : Nat) (hx : x < 2^64) (hy : y < 2^64) : bitsI .and .u64 (x : Int) (y : Int) = ((x &&& y : Nat) : Int) := by
  unfold bitsI
  dsimp only
  have h3 : (BitVec.ofInt IntKind.u64.bits (x : Int) &&& BitVec.ofInt IntKind.u64.bits (y : Int)).toNat = x &&& y := by
    show (BitVec.ofInt 64 (x : Int) &&& BitVec.ofInt 64 (y : Int)).toNat = x &&& y
    rw [BitVec.toNat_and, u_nat x hx, u_nat y hy]
  rw [h3, u_wrap _ (Nat.lt_of_le_of_lt Nat.and_le_left hx)]
theorem u_and1 (x : Nat) (hx : x < 2^64) : bitsI .and .u64 (x : Int) 1 = ((x % 2 : Nat) : Int) := by
  have := u_and x 1 hx (by decide)
  rw [Nat.and_one_is_mod] at this
  exact this
theorem u_shr (x k : Nat) (hk : k < 64) : (x : Int).fdiv (2 ^ (min k IntKind.u64.bits)) = ((x / 2^k : Nat) : Int) := by
  have e : min k IntKind.u64.bits = k := by
    have : IntKind.u64.bits = 64 := rfl
    rw [this]; omega
  rw [e, Int.fdiv_eq_ediv_of_nonneg _ (by exact Int.le_of_lt (Int.pow_pos (by decide)))]
  simp
theorem u_shl (k : Nat) (hk : k < 64) : IntKind.u64.wrap (1 * 2 ^ (min k IntKind.u64.bits)) = ((2^k : Nat) : Int) := by
  have e : min k IntKind.u64.bits = k := by
    have : IntKind.u64.bits = 64 := rfl
    rw [this]; omega
  have := u_wrap (2^k) (Nat.pow_lt_pow_right (by decide) hk)
  rw [e, Int.one_mul]
  rw [← this]
  simp
theorem u_bit (x k : Nat) : (((x / 2^k % 2 : Nat) : Int) == 1) = x.testBit k := by
  have h2 : x.testBit k = (x / 2^k).testBit 0 := by rw [Nat.testBit_div_two_pow]; simp
  rw [h2, Nat.testBit_zero]
  have : x / 2^k % 2 = 0 ∨ x / 2^k % 2 = 1 := by omega
  rcases this with h | h <;> rw [h] <;> decide
/-! ### Where a name stands -/
def ixT (l : List Tx) (s : Tx) : Nat := l.findIdx (· == s)
theorem ixT_lt {l : List Tx} {s : Tx} (h : s ∈ l) : ixT l s < l.length := List.findIdx_lt_length_of_exists ⟨s, h, by simp⟩
theorem ixT_get {l : List Tx} {s : Tx} (h : s ∈ l) : l[ixT l s]'(ixT_lt h) = s := by
  have := List.findIdx_getElem (w := ixT_lt h) (p := (· == s))
  exact eq_of_beq this
/-- Which names are, as bits. -/
def isB (l : List Tx) (x : Nat) (s : Tx) : Bool := x.testBit (ixT l s)
def saysB (l : List Tx) (e : Ex) (x : Nat) : Bool := evE (isB l x) (isB l x) e

/-! ### Pairs -/
def offAt (f : Nat → Bool) (n k : Nat) : Option Nat := (List.range (2^n)).find? fun x => !x.testBit k && (f x != f (x ||| 2^k))
def pairsF (l : List Tx) (f : Nat → Bool) : List (Tx × Nat) := (List.range l.length).filterMap fun k => (offAt f l.length k).map fun x => (l.getD k [], x)
theorem names_self {e : Ex} {s : Tx} {all : Bool} (h : s ∈ nmsE all e) : s ∈ nmsE true e := by
  cases all with
  | true => exact h
  | false => exact edges_names _ e (Nat.le_refl _) s h
end Go.Proofs.YtagfbbnlbncjlaaGreatDoor

/-
  Plain: what is asked of names, where these are those that an expression names.
-/
namespace Go.Proofs.YtagfbbnlbncjlaaGreatDoor
set_option linter.unusedSimpArgs false
set_option linter.unusedVariables false
open Go.Av

theorem nameF_nn {s : Tx} (h : nameF s = true) : s ≠ [] := (name_facts h).1
theorem ask_names {S1 S2 : Tx → Prop} : ∀ (n : Nat) (e : Ex), SizeOf.sizeOf e ≤ n → WfE e → (∀ s ∈ nmsE true e, S1 s) → (∀ s ∈ nmsE false e, S2 s) → AskE S1 S2 e
  | 0, e, hn, _, _, _ => by cases e <;> simp at hn
  | n + 1, e, hn, hw, h1, h2 => by
    have many : ∀ l : List Ex, (∀ x ∈ l, SizeOf.sizeOf x ≤ n) → (∀ s ∈ nmsL true l, S1 s) → (∀ s ∈ nmsL false l, S2 s) → (∀ x ∈ l, WfE x) → AskL S1 S2 l := by
      intro l
      induction l with
      | nil => intro _ _ _ _; rw [AskL]; trivial
      | cons x l ih =>
        intro hs h1 h2 h3
        simp only [nmsL, List.mem_append] at h1 h2
        rw [AskL]
        exact ⟨ask_names n x (hs x (by simp)) (h3 x (by simp)) (fun s h => h1 s (.inl h)) (fun s h => h2 s (.inl h)), ih (fun y hy => hs y (by simp [hy])) (fun s h => h1 s (.inr h)) (fun s h => h2 s (.inr h)) (fun y hy => h3 y (by simp [hy]))⟩
    cases e with
    | cst b => rw [AskE]; trivial
    | bit s =>
      rw [AskE]
      rw [WfE] at hw
      exact h1 s (by simp [nmsE, nmE, one1, nameF_nn hw])
    | rise s =>
      rw [AskE]
      rw [WfE] at hw
      exact ⟨h1 s (by simp [nmsE, nmE, one1, nameF_nn hw]), h2 s (by simp [nmsE, nmE, one1, nameF_nn hw])⟩
    | fall s =>
      rw [AskE]
      rw [WfE] at hw
      exact ⟨h1 s (by simp [nmsE, nmE, one1, nameF_nn hw]), h2 s (by simp [nmsE, nmE, one1, nameF_nn hw])⟩
    | not x =>
      rw [AskE]
      rw [WfE] at hw
      exact ask_names n x (by simp at hn; omega) hw (fun s h => h1 s (by rw [nmsE]; exact h)) (fun s h => h2 s (by rw [nmsE]; exact h))
    | and l =>
      rw [AskE]
      rw [WfE] at hw
      exact many l (fun x hx => by have := List.sizeOf_lt_of_mem hx; simp only [Ex.and.sizeOf_spec] at hn; omega) (fun s h => h1 s (by rw [nmsE]; exact h)) (fun s h => h2 s (by rw [nmsE]; exact h)) ((WfEs_iff l).1 hw.2)
    | or l =>
      rw [AskE]
      rw [WfE] at hw
      exact many l (fun x hx => by have := List.sizeOf_lt_of_mem hx; simp only [Ex.or.sizeOf_spec] at hn; omega) (fun s h => h1 s (by rw [nmsE]; exact h)) (fun s h => h2 s (by rw [nmsE]; exact h)) ((WfEs_iff l).1 hw.2)
theorem ask_in {S1 S2 : Tx → Prop} {e : Ex} (hw : WfE e) (h1 : ∀ s ∈ nmsE true e, S1 s) (h2 : ∀ s ∈ nmsE false e, S2 s) : AskE S1 S2 e := ask_names _ e (Nat.le_refl _) hw h1 h2
end Go.Proofs.YtagfbbnlbncjlaaGreatDoor

/-
  cover.Pairs.
-/
namespace Go.Proofs.YtagfbbnlbncjlaaGreatDoor
set_option linter.unusedSimpArgs false
set_option linter.unusedVariables false
open Go.Av

def dU (x : Nat) : D := .v (.int .u64 (x : Int))
theorem idx_ixT {l : List Tx} {s : Tx} (h : s ∈ l) : idx (fun x => s == x) l = (ixT l s : Int) := by
  refine idx_hit (ixT_lt h) (by simp [ixT_get h]) fun i hi => ?_
  have := List.not_of_lt_findIdx (p := (· == s)) hi
  rw [Bool.beq_comm]
  simpa using this
theorem wrap_bit (x k : Nat) (hx : x < 2^64) : bitsI .and .u64 ((x : Int) / 2^k) 1 = ((x / 2^k % 2 : Nat) : Int) := by
  have h := u_and1 (x / 2^k) (Nat.lt_of_le_of_lt (Nat.div_le_self _ _) hx)
  have e : ((x / 2^k : Nat) : Int) = (x : Int) / 2^k := by rw [Int.natCast_ediv, Int.natCast_pow]; rfl
  rw [← e]; exact h
theorem and_is1 (x k : Nat) (hx : x < 2^64) : decide (bitsI .and .u64 ((x : Int) / 2^k) 1 = 1) = x.testBit k := by
  rw [wrap_bit x k hx, ← u_bit x k]
  by_cases h : ((x / 2^k % 2 : Nat) : Int) = 1 <;> simp [h]
theorem and_is0 (x k : Nat) (hx : x < 2^64) : decide (bitsI .and .u64 ((x : Int) / 2^k) 1 = 0) = !x.testBit k := by
  rw [wrap_bit x k hx, ← u_bit x k]
  have : x / 2^k % 2 = 0 ∨ x / 2^k % 2 = 1 := by omega
  rcases this with h | h <;> rw [h] <;> rfl
theorem shl_is (k : Nat) (hk : k < 64) : IntKind.u64.wrap (2 ^ min k IntKind.u64.bits) = 2^k := by
  have h := u_shl k hk
  rw [Int.one_mul] at h
  rw [h]; simp
theorem shr_is (x k : Nat) (hk : k < 64) : (x : Int).fdiv (2 ^ min k IntKind.u64.bits) = (x : Int) / 2^k := by rw [u_shr x k hk]; simp
theorem or_is (x k : Nat) (hx : x < 2^64) (hk : k < 64) : bitsI .or .u64 (x : Int) (2^k) = ((x ||| 2^k : Nat) : Int) := by
  have h := u_or x (2^k) hx (Nat.pow_lt_pow_right (by decide) hk)
  simpa using h

set_option maxHeartbeats 4000000 in
theorem isb_spec (G : Glob) (k0 : Option Bool) (ns : List Tx) (hn : ns.length ≤ 60) (x : Nat) (hx : x < 2^64) (s : Tx) (hs : s ∈ ns) : PureC Tryz.prog G 32 [dS s, .ip [dU x], .ip [.sl k0 (ns.map fun s => [dS s])]] (.v (.bool (isB ns x s))) := by
  have hi := index_spec G k0 ns s (by omega)
  rw [idx_ixT hs] at hi
  have hlt := ixT_lt hs
  unfold isB
  generalize ixT ns s = j at hi hlt ⊢
  have hsh := shr_is x j (by omega)
  have hb := and_is1 x j hx
  refine PureC.of_body (tyOf_good _) Tryz.func32 rfl rfl (rs := [.tmp 4]) Tryz.results32 (by simp [Tryz.ntmps32]) fun X => ?_
  simp only [Tryz.ntmps32, List.map]
  refine AW_rg (tyOf_good _) [0, 1, 2] [] (fun _ _ => trivial) fun K' hK' => ?_
  repeat (refine sxf_next fun K2 hK2 => ?_; simp [dU, dS]; (repeat (refine ⟨by omega, ?_⟩)); refine hK2 _ ?_; clear hK2 K2)
  refine sxf_nil (hK' _ ?_)
  refine AW.st (by simp [dU, dS]; rfl) ?_
  clear hK' K'
  refine AW_rd (tyOf_good _) (by kernel_rfl) [4] [] (fun _ _ => trivial) (by kernel_rfl) fun K' hK' => ?_
  repeat (refine sxd_next fun K2 hK2 => ?_; simp [dU, dS, shI, hsh, hb]; (repeat (refine ⟨by omega, ?_⟩)); refine hK2 _ ?_; clear hK2 K2)
  refine sxd_next fun K2 hK2 => ?_
  simp [dU, dS, shI, hsh, hb]
  refine callQ.data (hi) (by simp; rfl) (by simp; rfl) (by first | exact D.leGo_refl _ | simp [takeMap, List.map_map, Function.comp_def, D.le, D.le.go, D.le_refl, D.leGo_refl, dU, dS, shI, hsh, hb]) ?_
  refine hK2 _ ?_
  clear hK2 K2
  simp only [putd, upd_lst]
  repeat (refine sxd_next fun K2 hK2 => ?_; simp [dU, dS, shI, hsh, hb]; (repeat (refine ⟨by omega, ?_⟩)); refine hK2 _ ?_; clear hK2 K2)
  refine sxd_nil (hK' _ ?_)
  refine AW.st (by simp [dU, dS, shI, hsh, hb]; rfl) ?_
  clear hK' K'
  refine AW_ret ?_
  simp [D.le, D.le.go, takeMap, dU, dS]
def dIsb (ns : List Tx) (x : Nat) : List D := [.ip [dU x], .ip [.sl none (ns.map fun s => [dS s])]]
set_option maxHeartbeats 4000000 in
theorem says1_spec (G : Glob) (ns : List Tx) (hn : ns.length ≤ 60) (e : Ex) (hw : WfE e) (hb : bE e ≤ 2^28) (hN : ∀ s ∈ nmsE true e, s ∈ ns) (x : Nat) (hx : x < 2^64) : PureC Tryz.prog G 31 [dU x, .ip [.sl none (ns.map fun s => [dS s])], .ip [dE e]] (.v (.bool (saysB ns e x))) := by
  have ht : TellsOn (fun s => s ∈ ns) G 32 (dIsb ns x) (isB ns x) := fun s hs => isb_spec G none ns hn x hx s hs
  have hev := eval_on G _ _ _ _ _ _ _ _ ht ht e (ask_in hw hN fun s hs => hN s (names_self hs)) hb
  have hr : evE (isB ns x) (isB ns x) e = saysB ns e x := rfl
  rw [hr] at hev
  generalize saysB ns e x = r at hev ⊢
  obtain ⟨t, c, hec⟩ := dE_ifc e
  rw [hec] at hev ⊢
  simp only [dIsb] at hev
  refine PureC.of_body (tyOf_good _) Tryz.func31 rfl rfl (rs := [.tmp 4]) Tryz.results31 (by simp [Tryz.ntmps31]) fun X => ?_
  simp only [Tryz.ntmps31, List.map]
  refine AW_rg (tyOf_good _) [1, 2, 3] [3] (fun _ _ => trivial) fun K' hK' => ?_
  repeat (refine sxf_next fun K2 hK2 => ?_; simp [dU, dS]; (repeat (refine ⟨by omega, ?_⟩)); refine hK2 _ ?_; clear hK2 K2)
  refine sxf_nil (hK' _ ?_)
  refine AW.st (by simp [dU, dS]; rfl) ?_
  clear hK' K'
  refine AW.imp (Imp.freezeB 3 trivial) ?_
  refine AW.st (by simp [dU, dS]; rfl) ?_
  refine AW_rg (tyOf_good _) [2, 5] [] (fun _ _ => trivial) fun K' hK' => ?_
  repeat (refine sxf_next fun K2 hK2 => ?_; simp [dU, dS]; (repeat (refine ⟨by omega, ?_⟩)); refine hK2 _ ?_; clear hK2 K2)
  refine sxf_nil (hK' _ ?_)
  refine AW.st (by simp [dU, dS]; rfl) ?_
  clear hK' K'
  refine AW_rg (tyOf_good _) [4] [] (fun _ _ => trivial) fun K' hK' => ?_
  repeat (refine sxf_next fun K2 hK2 => ?_; simp [dU, dS]; (repeat (refine ⟨by omega, ?_⟩)); refine hK2 _ ?_; clear hK2 K2)
  refine sxf_next fun K2 hK2 => ?_
  simp [dU, dS]
  refine callK.data (hev) (by simp; rfl) (by first | exact D.leGo_refl _ | simp [takeMap, List.map_map, Function.comp_def, D.le, D.le.go, D.le_refl, D.leGo_refl, dU, dS]) ?_
  refine hK2 _ ?_
  clear hK2 K2
  simp only [putd, upd_lst]
  repeat (refine sxf_next fun K2 hK2 => ?_; simp [dU, dS]; (repeat (refine ⟨by omega, ?_⟩)); refine hK2 _ ?_; clear hK2 K2)
  refine sxf_nil (hK' _ ?_)
  refine AW.st (by simp [dU, dS]; rfl) ?_
  clear hK' K'
  refine AW_ret ?_
  simp [D.le, D.le.go, takeMap, dU, dS]
def dPair (ns : List Tx) (p : Tx × Nat) : List D := [dS p.1, dU p.2, dU (p.2 ||| 2^(ixT ns p.1))]
def dPairs (ns : List Tx) (l : List (Tx × Nat)) : D := .sl none (l.map (dPair ns))
/-- The pairs of the first k names. -/
def pairsTo (l : List Tx) (f : Nat → Bool) (m : Nat) : List (Tx × Nat) := (List.range m).filterMap fun k => (offAt f l.length k).map fun x => (l.getD k [], x)
theorem pairsTo_succ (l : List Tx) (f : Nat → Bool) (m : Nat) : pairsTo l f (m + 1) = pairsTo l f m ++ (match offAt f l.length m with | some x => [(l.getD m [], x)] | none => []) := by
  unfold pairsTo
  rw [List.range_succ, List.filterMap_append]
  congr 1
  cases h : offAt f l.length m <;> simp [h]
theorem pairsTo_all (l : List Tx) (f : Nat → Bool) : pairsTo l f l.length = pairsF l f := rfl
theorem pairsTo_len (l : List Tx) (f : Nat → Bool) (m : Nat) : (pairsTo l f m).length ≤ m := by
  unfold pairsTo
  refine Nat.le_trans (List.length_filterMap_le _ _) (by simp)
/-- What is looked at stands not below x. -/
theorem offAt_hit {f : Nat → Bool} {n k x : Nat} (hx : x < 2^n) (hb : x.testBit k = false) (hf : f x ≠ f (x ||| 2^k)) (hlt : ∀ y, y < x → y.testBit k = false → f y = f (y ||| 2^k)) : offAt f n k = some x := by
  unfold offAt
  rw [List.find?_eq_some_iff_getElem]
  refine ⟨by simp [hb, hf], x, by simpa using hx, by simp, fun j hj => ?_⟩
  by_cases h : j.testBit k
  · simp [h]
  · simp [hlt j hj (by simpa using h)]
theorem offAt_miss {f : Nat → Bool} {n k : Nat} (hlt : ∀ y, y < 2^n → y.testBit k = false → f y = f (y ||| 2^k)) : offAt f n k = none := by
  unfold offAt
  rw [List.find?_eq_none]
  intro y hy
  by_cases h : y.testBit k
  · simp [h]
  · simp [hlt y (by simpa using hy) (by simpa using h)]

set_option maxHeartbeats 16000000 in
theorem pairs_spec (G : Glob) (e : Ex) (hw : WfE e) (hb : bE e ≤ 2^28) (hE : namesE false e = []) (hN8 : (namesE true e).length ≤ 8) : PureC Tryz.prog G 9 [dE e] (.tup [dPairs (namesE true e) (pairsF (namesE true e) (saysB (namesE true e) e)), .v .nilIface]) := by
  have hns := namesE_spec G e hb
  have hes := edgesE_spec G e hb
  rw [hE] at hes
  have hN : ∀ s ∈ nmsE true e, s ∈ namesE true e := fun s hs => namesE_mem.2 hs
  have hsr := namesE_srt true e
  generalize namesE true e = ns at hns hN8 hN hsr ⊢
  have hsay := fun x hx => says1_spec G ns (by omega) e hw hb hN x hx
  generalize saysB ns e = f at hsay ⊢
  rw [← pairsTo_all]
  have hixt : ∀ k (hk : k < ns.length), ixT ns ns[k] = k := fun k hk => by
    have h1 := ixT_get (List.getElem_mem hk)
    have hlt := ixT_lt (List.getElem_mem hk)
    rcases Nat.lt_trichotomy (ixT ns ns[k]) k with h | h | h
    · exact absurd (h1 ▸ List.pairwise_iff_getElem.1 hsr _ _ hlt hk h) (tx_irr _)
    · exact h
    · exact absurd (h1 ▸ List.pairwise_iff_getElem.1 hsr _ _ hk hlt h) (tx_irr _)
  obtain ⟨t, c, hec⟩ := dE_ifc e
  rw [hec] at hns hes hsay ⊢
  have h2 : (2 : Nat)^ns.length ≤ 2^8 := Nat.pow_le_pow_right (by decide) hN8
  have hshl := shl_is ns.length (by omega)
  obtain ⟨M, hM⟩ : ∃ M : Nat, 2^ns.length = M := ⟨_, rfl⟩
  have hMi : (2 : Int)^ns.length = (M : Int) := by rw [← hM, Int.natCast_pow]; rfl
  rw [hMi] at hshl
  rw [hM] at h2
  refine PureC.of_body (tyOf_good _) Tryz.func9 rfl rfl (rs := [.tmp 2, .tmp 3]) Tryz.results9 (by simp [Tryz.ntmps9]) fun X => ?_
  simp only [Tryz.ntmps9, List.map]
  refine AW_rg (tyOf_good _) [1] [1] (fun _ _ => trivial) fun K' hK' => ?_
  repeat (refine sxf_next fun K2 hK2 => ?_; simp [dU, dS]; (repeat (refine ⟨by omega, ?_⟩)); refine hK2 _ ?_; clear hK2 K2)
  refine sxf_nil (hK' _ ?_)
  refine AW.st (by simp [dU, dS]; rfl) ?_
  clear hK' K'
  refine AW_then fun K1 hK1 => ?_
  refine AW_rg (tyOf_good _) [1, 11] [1] (fun _ _ => trivial) fun K' hK' => ?_
  repeat (refine sxf_next fun K2 hK2 => ?_; simp [dU, dS]; (repeat (refine ⟨by omega, ?_⟩)); refine hK2 _ ?_; clear hK2 K2)
  refine sxf_nil (hK' _ ?_)
  refine AW.st (by simp [dU, dS]; rfl) ?_
  clear hK' K'
  refine AW_cond false rfl (fun h => by cases h) (fun _ => ?_)
  refine AW_skip (hK1 _ ?_)
  refine AW_then fun K2 hK2 => ?_
  refine AW_rg (tyOf_good _) [1, 16] [1] (fun _ _ => trivial) fun K' hK' => ?_
  repeat (refine sxf_next fun K2 hK2 => ?_; simp [dU, dS]; (repeat (refine ⟨by omega, ?_⟩)); refine hK2 _ ?_; clear hK2 K2)
  refine sxf_next fun K2 hK2 => ?_
  simp [dU, dS]
  refine callK.data (hes) (by simp; rfl) (by first | exact D.leGo_refl _ | simp [takeMap, List.map_map, Function.comp_def, D.le, D.le.go, D.le_refl, D.leGo_refl, dU, dS]) ?_
  refine hK2 _ ?_
  clear hK2 K2
  simp only [putd, upd_lst]
  repeat (refine sxf_next fun K2 hK2 => ?_; simp [dU, dS]; (repeat (refine ⟨by omega, ?_⟩)); refine hK2 _ ?_; clear hK2 K2)
  refine sxf_nil (hK' _ ?_)
  refine AW.st (by simp [dU, dS]; rfl) ?_
  clear hK' K'
  refine AW_cond false rfl (fun h => by cases h) (fun _ => ?_)
  refine AW_skip (hK2 _ ?_)
  refine AW_rg (tyOf_good _) [1, 4] [1, 4] (fun _ _ => trivial) fun K' hK' => ?_
  repeat (refine sxf_next fun K2 hK2 => ?_; simp [dU, dS]; (repeat (refine ⟨by omega, ?_⟩)); refine hK2 _ ?_; clear hK2 K2)
  refine sxf_next fun K2 hK2 => ?_
  simp [dU, dS]
  refine callK.data (hns) (by simp; rfl) (by first | exact D.leGo_refl _ | simp [takeMap, List.map_map, Function.comp_def, D.le, D.le.go, D.le_refl, D.leGo_refl, dU, dS]) ?_
  refine hK2 _ ?_
  clear hK2 K2
  simp only [putd, upd_lst]
  repeat (refine sxf_next fun K2 hK2 => ?_; simp [dU, dS]; (repeat (refine ⟨by omega, ?_⟩)); refine hK2 _ ?_; clear hK2 K2)
  refine sxf_nil (hK' _ ?_)
  refine AW.st (by simp [dU, dS]; rfl) ?_
  clear hK' K'
  refine AW.imp (Imp.freezeB 1 trivial) ?_
  refine AW.st (by simp [dU, dS]; rfl) ?_
  refine AW.imp (Imp.freezeB 4 trivial) ?_
  refine AW.st (by simp [dU, dS]; rfl) ?_
  refine AW_then fun K3 hK3 => ?_
  have h8 : ¬ (8 : Int) < (ns.length : Int) := by omega
  refine AW_rg (tyOf_good _) [1, 4, 22] [] (fun _ _ => trivial) fun K' hK' => ?_
  repeat (refine sxf_next fun K2 hK2 => ?_; simp [dU, dS, h8]; (repeat (refine ⟨by omega, ?_⟩)); refine hK2 _ ?_; clear hK2 K2)
  refine sxf_nil (hK' _ ?_)
  refine AW.st (by simp [dU, dS, h8]; rfl) ?_
  clear hK' K'
  refine AW_cond false rfl (fun h => by cases h) (fun _ => ?_)
  refine AW_skip (hK3 _ ?_)
  refine AW_rg (tyOf_good _) [4, 5] [] (fun _ _ => trivial) fun K' hK' => ?_
  repeat (refine sxf_next fun K2 hK2 => ?_; simp [dU, dS]; (repeat (refine ⟨by omega, ?_⟩)); refine hK2 _ ?_; clear hK2 K2)
  refine sxf_nil (hK' _ ?_)
  refine AW.st (by simp [dU, dS]; rfl) ?_
  clear hK' K'
  refine AW_rg (tyOf_good _) [4, 5, 6] [] (fun _ _ => trivial) fun K' hK' => ?_
  repeat (refine sxf_next fun K2 hK2 => ?_; simp [dU, dS]; (repeat (refine ⟨by omega, ?_⟩)); refine hK2 _ ?_; clear hK2 K2)
  refine sxf_nil (hK' _ ?_)
  refine AW.st (by simp [dU, dS]; rfl) ?_
  clear hK' K'
  refine AW_then fun K4 hK4 => ?_
  refine AW_rg (tyOf_good _) [4, 5, 6, 25, 26, 27] [] (fun _ _ => trivial) fun K' hK' => ?_
  repeat (refine sxf_next fun K2 hK2 => ?_; simp [dU, dS]; (repeat (refine ⟨by omega, ?_⟩)); refine hK2 _ ?_; clear hK2 K2)
  refine sxf_nil (hK' _ ?_)
  refine AW.st (by simp [dU, dS]; rfl) ?_
  clear hK' K'
  refine AW_for (S := Nat) (fun m => m ≤ ns.length) (fun m => ⟨lst [(4, .d (.ip [.sl none (ns.map fun s => [dS s])])), (5, .d (.fn (.func 31) [.ip [.sl none (ns.map fun s => [dS s])], .ip [.ifc t c]])), (6, .own 300 0 (pairsTo ns f m).length), (25, .d (.sl none (ns.map fun s => [dS s]))), (26, int ns.length), (27, int m)], hlst [(300, .sl 40 3 ((pairsTo ns f m).map (dPair ns)))]⟩) (fun m => ns.length - m) 0 ?_ (by omega) ?_
  · refine (Imp.adopt 6 300 40 3 rfl rfl).trans ?_
    refine Imp.to' (fun _ _ => trivial) (by simp [dU, dS, pairsTo]) (by simp [dU, dS, pairsTo])
  · intro m hm
    refine AW_rg (tyOf_good _) [4, 5, 6, 25, 26, 27, 28] [300] (fun _ _ => trivial) fun K' hK' => ?_
    repeat (refine sxf_next fun K2 hK2 => ?_; simp [dU, dS]; (repeat (refine ⟨by omega, ?_⟩)); refine hK2 _ ?_; clear hK2 K2)
    refine sxf_nil (hK' _ ?_)
    refine AW.st (by simp [dU, dS]; rfl) ?_
    clear hK' K'
    refine AW_then fun K5 hK5 => ?_
    refine AW_cond' (b := m < ns.length) (by simp [D.le, D.le.go, takeMap, dU, dS]) (fun hc => ?_) (fun hc => ?_)
    · have hml : m < ns.length := hc
      have hpl := pairsTo_len ns f m
      have hsuc := pairsTo_succ ns f m
      have hix := hixt m hml
      have hshm := shl_is m (by omega)
      refine AW_skip (hK5 _ ?_)
      refine AW_then fun K6 hK6 => ?_
      refine AW_block ?_
      refine AW_rg (tyOf_good _) [4, 5, 6, 7, 8, 25, 26, 27] [300] (fun _ _ => trivial) fun K' hK' => ?_
      repeat (refine sxf_next fun K2 hK2 => ?_; simp [dU, dS, hml]; (repeat (refine ⟨by omega, ?_⟩)); refine hK2 _ ?_; clear hK2 K2)
      refine sxf_nil (hK' _ ?_)
      refine AW.st (by simp [dU, dS, hml]; rfl) ?_
      clear hK' K'
      refine AW_rg (tyOf_good _) [4, 5, 6, 7, 8, 25, 26, 27, 34, 35] [300] (fun _ _ => trivial) fun K' hK' => ?_
      repeat (refine sxf_next fun K2 hK2 => ?_; simp [dU, dS, shI, hshl]; (repeat (refine ⟨by omega, ?_⟩)); refine hK2 _ ?_; clear hK2 K2)
      refine sxf_nil (hK' _ ?_)
      refine AW.st (by simp [dU, dS, shI, hshl]; rfl) ?_
      clear hK' K'
      refine AW_for (S := Nat) (fun x => x ≤ M ∧ ∀ y, y < x → y.testBit m = false → f y = f (y ||| 2^m)) (fun x => ⟨lst [(4, .d (.ip [.sl none (ns.map fun s => [dS s])])), (5, .d (.fn (.func 31) [.ip [.sl none (ns.map fun s => [dS s])], .ip [.ifc t c]])), (6, .own 300 0 (pairsTo ns f m).length), (7, int m), (8, .d (dS ns[m])), (25, .d (.sl none (ns.map fun s => [dS s]))), (26, int ns.length), (27, int m), (34, .d (dU M)), (35, .d (dU x))], hlst [(300, .sl 40 3 ((pairsTo ns f m).map (dPair ns)))]⟩) (fun x => M - x) 0 ?_ ⟨Nat.zero_le _, fun y hy => by omega⟩ ?_
      · refine Imp.to' (fun _ _ => trivial) (by simp [dU, dS]) (by simp [dU, dS])
      · rintro x ⟨hx, hall⟩
        refine AW_rg (tyOf_good _) [4, 5, 6, 7, 8, 25, 26, 27, 34, 35, 36] [300] (fun _ _ => trivial) fun K' hK' => ?_
        repeat (refine sxf_next fun K2 hK2 => ?_; simp [dU, dS]; (repeat (refine ⟨by omega, ?_⟩)); refine hK2 _ ?_; clear hK2 K2)
        refine sxf_nil (hK' _ ?_)
        refine AW.st (by simp [dU, dS]; rfl) ?_
        clear hK' K'
        refine AW_then fun K7 hK7 => ?_
        refine AW_cond' (b := x < M) (by simp [D.le, D.le.go, takeMap, dU, dS]) (fun hc => ?_) (fun hc => ?_)
        · have hxl : x < M := hc
          have hshr := shr_is x m (by omega)
          have hb0 := and_is0 x m (by omega)
          have horlt : x ||| 2^m < 2^8 := Nat.or_lt_two_pow (by omega) (Nat.pow_lt_pow_right (by decide) (by omega))
          have hor := or_is x m (by omega) (by omega)
          have hc1 := hsay x (by omega)
          have hc2 := hsay (x ||| 2^m) (by omega)
          refine AW_skip (hK7 _ ?_)
          refine AW_then fun K8 hK8 => ?_
          refine AW_block ?_
          refine AW_rg (tyOf_good _) [4, 5, 6, 7, 8, 9, 25, 26, 27, 34, 35] [300] (fun _ _ => trivial) fun K' hK' => ?_
          repeat (refine sxf_next fun K2 hK2 => ?_; simp [dU, dS]; (repeat (refine ⟨by omega, ?_⟩)); refine hK2 _ ?_; clear hK2 K2)
          refine sxf_nil (hK' _ ?_)
          refine AW.st (by simp [dU, dS]; rfl) ?_
          clear hK' K'
          have next : (x.testBit m = false → f x = f (x ||| 2^m)) → ∀ y, y < x + 1 → y.testBit m = false → f y = f (y ||| 2^m) := fun h y hy hyb => by
            by_cases hyx : y = x
            · subst hyx; exact h hyb
            · exact hall y (by omega) hyb
          have hx1 : IntKind.u64.wrap ((x : Int) + 1) = ((x + 1 : Nat) : Int) := by have := u_wrap (x + 1) (by omega); simpa using this
          cases hbt : x.testBit m with
          | true =>
            rw [hbt] at hb0
            have hnx := next (fun h => by rw [hbt] at h; cases h)
            refine AW_rd (tyOf_good _) (by kernel_rfl) [4, 5, 6, 7, 8, 9, 25, 26, 27, 34, 35, 54] [300] (fun _ _ => trivial) (by kernel_rfl) fun K' hK' => ?_
            repeat (refine sxd_next fun K2 hK2 => ?_; simp [dU, dS, shI, hshr, hb0]; (repeat (refine ⟨by omega, ?_⟩)); refine hK2 _ ?_; clear hK2 K2)
            refine sxd_nil (hK' _ ?_)
            refine AW.st (by simp [dU, dS, shI, hshr, hb0]; rfl) ?_
            clear hK' K'
            refine AW_cond false rfl (fun h => by cases h) (fun _ => ?_)
            refine AW_skip (hK8 _ ?_)
            refine AW_re (tyOf_good _) fun K' hK' => ?_
            repeat (refine sxf_next fun K2 hK2 => ?_; simp [dU, dS, hx1]; (repeat (refine ⟨by omega, ?_⟩)); refine hK2 _ ?_; clear hK2 K2)
            refine sxf_nil (hK' _ ?_)
            clear hK' K'
            try simp only [thn, inb]
            refine Again.mk (x + 1) ⟨by omega, hnx⟩ (by omega) ?_
            refine Imp.to' (fun _ _ => trivial) (by simp [dU, dS]) (by simp [dU, dS])
          | false =>
            rw [hbt] at hb0
            by_cases hff : f x = f (x ||| 2^m)
            · have hnx := next (fun _ => hff)
              rw [← hff] at hc2
              refine AW_rd (tyOf_good _) (by kernel_rfl) [4, 5, 6, 7, 8, 9, 25, 26, 27, 34, 35, 54] [300] (fun _ _ => trivial) (by kernel_rfl) fun K' hK' => ?_
              repeat (refine sxd_next fun K2 hK2 => ?_; simp [dU, dS, shI, hshr, hb0, hshm, hor]; (repeat (refine ⟨by omega, ?_⟩)); refine hK2 _ ?_; clear hK2 K2)
              refine sxd_next fun K2 hK2 => ?_
              simp [dU, dS, shI, hshr, hb0, hshm, hor]
              refine callQ.data (hc1) (by simp; rfl) (by simp; rfl) (by first | exact D.leGo_refl _ | simp [takeMap, List.map_map, Function.comp_def, D.le, D.le.go, D.le_refl, D.leGo_refl, dU, dS, shI, hshr, hb0, hshm, hor]) ?_
              refine hK2 _ ?_
              clear hK2 K2
              simp only [putd, upd_lst]
              repeat (refine sxd_next fun K2 hK2 => ?_; simp [dU, dS, shI, hshr, hb0, hshm, hor]; (repeat (refine ⟨by omega, ?_⟩)); refine hK2 _ ?_; clear hK2 K2)
              refine sxd_next fun K2 hK2 => ?_
              simp [dU, dS, shI, hshr, hb0, hshm, hor]
              refine callQ.data (hc2) (by simp; rfl) (by simp; rfl) (by first | exact D.leGo_refl _ | simp [takeMap, List.map_map, Function.comp_def, D.le, D.le.go, D.le_refl, D.leGo_refl, dU, dS, shI, hshr, hb0, hshm, hor]) ?_
              refine hK2 _ ?_
              clear hK2 K2
              simp only [putd, upd_lst]
              repeat (refine sxd_next fun K2 hK2 => ?_; simp [dU, dS, shI, hshr, hb0, hshm, hor]; (repeat (refine ⟨by omega, ?_⟩)); refine hK2 _ ?_; clear hK2 K2)
              refine sxd_nil (hK' _ ?_)
              refine AW.st (by simp [dU, dS, shI, hshr, hb0, hshm, hor]; rfl) ?_
              clear hK' K'
              refine AW_cond false (by simp) (fun h => by cases h) (fun _ => ?_)
              refine AW_skip (hK8 _ ?_)
              refine AW_re (tyOf_good _) fun K' hK' => ?_
              repeat (refine sxf_next fun K2 hK2 => ?_; simp [dU, dS, hx1]; (repeat (refine ⟨by omega, ?_⟩)); refine hK2 _ ?_; clear hK2 K2)
              refine sxf_nil (hK' _ ?_)
              clear hK' K'
              try simp only [thn, inb]
              refine Again.mk (x + 1) ⟨by omega, hnx⟩ (by omega) ?_
              refine Imp.to' (fun _ _ => trivial) (by simp [dU, dS]) (by simp [dU, dS])
            · have hhit := offAt_hit (n := ns.length) (by rw [hM]; exact hxl) hbt hff hall
              rw [hhit] at hsuc
              have hsl : (pairsTo ns f (m + 1)).length = (pairsTo ns f m).length + 1 := by rw [hsuc]; simp
              have hne : (f x != f (x ||| 2^m)) = true := by simpa using hff
              refine AW_rd (tyOf_good _) (by kernel_rfl) [4, 5, 6, 7, 8, 9, 25, 26, 27, 34, 35, 54] [300] (fun _ _ => trivial) (by kernel_rfl) fun K' hK' => ?_
              repeat (refine sxd_next fun K2 hK2 => ?_; simp [dU, dS, shI, hshr, hb0, hshm, hor]; (repeat (refine ⟨by omega, ?_⟩)); refine hK2 _ ?_; clear hK2 K2)
              refine sxd_next fun K2 hK2 => ?_
              simp [dU, dS, shI, hshr, hb0, hshm, hor]
              refine callQ.data (hc1) (by simp; rfl) (by simp; rfl) (by first | exact D.leGo_refl _ | simp [takeMap, List.map_map, Function.comp_def, D.le, D.le.go, D.le_refl, D.leGo_refl, dU, dS, shI, hshr, hb0, hshm, hor]) ?_
              refine hK2 _ ?_
              clear hK2 K2
              simp only [putd, upd_lst]
              repeat (refine sxd_next fun K2 hK2 => ?_; simp [dU, dS, shI, hshr, hb0, hshm, hor]; (repeat (refine ⟨by omega, ?_⟩)); refine hK2 _ ?_; clear hK2 K2)
              refine sxd_next fun K2 hK2 => ?_
              simp [dU, dS, shI, hshr, hb0, hshm, hor]
              refine callQ.data (hc2) (by simp; rfl) (by simp; rfl) (by first | exact D.leGo_refl _ | simp [takeMap, List.map_map, Function.comp_def, D.le, D.le.go, D.le_refl, D.leGo_refl, dU, dS, shI, hshr, hb0, hshm, hor]) ?_
              refine hK2 _ ?_
              clear hK2 K2
              simp only [putd, upd_lst]
              repeat (refine sxd_next fun K2 hK2 => ?_; simp [dU, dS, shI, hshr, hb0, hshm, hor]; (repeat (refine ⟨by omega, ?_⟩)); refine hK2 _ ?_; clear hK2 K2)
              refine sxd_nil (hK' _ ?_)
              refine AW.st (by simp [dU, dS, shI, hshr, hb0, hshm, hor]; rfl) ?_
              clear hK' K'
              refine AW_cond true (by simpa using hff) (fun _ => ?_) (fun h => by cases h)
              refine AW_rg (tyOf_good _) [4, 5, 6, 25, 26, 27] [300] (fun _ _ => trivial) fun K' hK' => ?_
              repeat (refine sxf_next fun K2 hK2 => ?_; simp [dU, dS, shI, hshm, hor, takeMap]; (repeat (refine ⟨by omega, ?_⟩)); refine hK2 _ ?_; clear hK2 K2)
              refine sxf_nil (hK' _ ?_)
              refine AW.st (by simp [dU, dS, shI, hshm, hor, takeMap]; rfl) ?_
              clear hK' K'
              refine AW_exit (hK6 _ ?_)
              refine AW_re (tyOf_good _) fun K' hK' => ?_
              repeat (refine sxf_next fun K2 hK2 => ?_; simp [dU, dS]; (repeat (refine ⟨by omega, ?_⟩)); refine hK2 _ ?_; clear hK2 K2)
              refine sxf_nil (hK' _ ?_)
              clear hK' K'
              try simp only [thn, inb]
              refine Again.mk (m + 1) (by omega) (by omega) ?_
              refine Imp.to' (fun _ _ => trivial) (by simp [dU, dS, hsl, hsuc, dPair, hix, hml, takeMap]) (by simp [dU, dS, hsl, hsuc, dPair, hix, hml, takeMap])
        · obtain rfl : x = M := by omega
          have hmiss : offAt f ns.length m = none := offAt_miss (by rw [hM]; exact hall)
          rw [hmiss] at hsuc
          simp only [List.append_nil] at hsuc
          refine AW_exit (hK6 _ ?_)
          refine AW_re (tyOf_good _) fun K' hK' => ?_
          repeat (refine sxf_next fun K2 hK2 => ?_; simp [dU, dS]; (repeat (refine ⟨by omega, ?_⟩)); refine hK2 _ ?_; clear hK2 K2)
          refine sxf_nil (hK' _ ?_)
          clear hK' K'
          try simp only [thn, inb]
          refine Again.mk (m + 1) (by omega) (by omega) ?_
          refine Imp.to' (fun _ _ => trivial) (by simp [dU, dS, hsuc]) (by simp [dU, dS, hsuc])
    · obtain rfl : m = ns.length := by omega
      refine AW_exit (hK4 _ ?_)
      refine AW.imp (Imp.freeze 300 trivial) ?_
      refine AW.st (by simp [dU, dS]; rfl) ?_
      refine AW_rg (tyOf_good _) [2, 3] [] (fun _ _ => trivial) fun K' hK' => ?_
      repeat (refine sxf_next fun K2 hK2 => ?_; simp [dU, dS]; (repeat (refine ⟨by omega, ?_⟩)); refine hK2 _ ?_; clear hK2 K2)
      refine sxf_nil (hK' _ ?_)
      refine AW.st (by simp [dU, dS]; rfl) ?_
      clear hK' K'
      refine AW_ret ?_
      simp [D.le, D.le.go, takeMap, dU, dS, dPairs]
theorem pairs_nil (G : Glob) : PureC Tryz.prog G 9 [.v .nilIface] (.tup [.sl (some false) [], dErr (some (7, none))]) := by
  refine PureC.of_body (tyOf_good _) Tryz.func9 rfl rfl (rs := [.tmp 2, .tmp 3]) Tryz.results9 (by simp [Tryz.ntmps9]) fun X => ?_
  simp only [Tryz.ntmps9, List.map]
  refine AW_rg (tyOf_good _) [1] [1] (fun _ _ => trivial) fun K' hK' => ?_
  repeat (refine sxf_next fun K2 hK2 => ?_; simp [dU, dS]; (repeat (refine ⟨by omega, ?_⟩)); refine hK2 _ ?_; clear hK2 K2)
  refine sxf_nil (hK' _ ?_)
  refine AW.st (by simp [dU, dS]; rfl) ?_
  clear hK' K'
  refine AW_then fun K1 hK1 => ?_
  refine AW_rg (tyOf_good _) [1, 11] [1] (fun _ _ => trivial) fun K' hK' => ?_
  repeat (refine sxf_next fun K2 hK2 => ?_; simp [dU, dS]; (repeat (refine ⟨by omega, ?_⟩)); refine hK2 _ ?_; clear hK2 K2)
  refine sxf_nil (hK' _ ?_)
  refine AW.st (by simp [dU, dS]; rfl) ?_
  clear hK' K'
  refine AW_cond true rfl (fun _ => ?_) (fun h => by cases h)
  refine AW_rg (tyOf_good _) [2, 3] [] (fun _ _ => trivial) fun K' hK' => ?_
  repeat (refine sxf_next fun K2 hK2 => ?_; simp [dU, dS]; (repeat (refine ⟨by omega, ?_⟩)); refine hK2 _ ?_; clear hK2 K2)
  refine sxf_nil (hK' _ ?_)
  refine AW.st (by simp [dU, dS]; rfl) ?_
  clear hK' K'
  refine AW_ret ?_
  simp [D.le, D.le.go, takeMap, dU, dS, dErr]
set_option maxHeartbeats 4000000 in
theorem pairs_edge (G : Glob) (e : Ex) (hb : bE e ≤ 2^28) (hE : namesE false e ≠ []) : PureC Tryz.prog G 9 [dE e] (.tup [.sl (some false) [], dErr (some (1, none))]) := by
  have hes := edgesE_spec G e hb
  generalize namesE false e = es at hes hE
  have h0 : 0 < es.length := List.length_pos_iff.2 hE
  have h0' : (0 : Int) < (es.length : Int) := by omega
  obtain ⟨t, c, hec⟩ := dE_ifc e
  rw [hec] at hes ⊢
  refine PureC.of_body (tyOf_good _) Tryz.func9 rfl rfl (rs := [.tmp 2, .tmp 3]) Tryz.results9 (by simp [Tryz.ntmps9]) fun X => ?_
  simp only [Tryz.ntmps9, List.map]
  refine AW_rg (tyOf_good _) [1] [1] (fun _ _ => trivial) fun K' hK' => ?_
  repeat (refine sxf_next fun K2 hK2 => ?_; simp [dU, dS]; (repeat (refine ⟨by omega, ?_⟩)); refine hK2 _ ?_; clear hK2 K2)
  refine sxf_nil (hK' _ ?_)
  refine AW.st (by simp [dU, dS]; rfl) ?_
  clear hK' K'
  refine AW_then fun K1 hK1 => ?_
  refine AW_rg (tyOf_good _) [1, 11] [1] (fun _ _ => trivial) fun K' hK' => ?_
  repeat (refine sxf_next fun K2 hK2 => ?_; simp [dU, dS]; (repeat (refine ⟨by omega, ?_⟩)); refine hK2 _ ?_; clear hK2 K2)
  refine sxf_nil (hK' _ ?_)
  refine AW.st (by simp [dU, dS]; rfl) ?_
  clear hK' K'
  refine AW_cond false rfl (fun h => by cases h) (fun _ => ?_)
  refine AW_skip (hK1 _ ?_)
  refine AW_then fun K2 hK2 => ?_
  refine AW_rg (tyOf_good _) [1, 16] [1] (fun _ _ => trivial) fun K' hK' => ?_
  repeat (refine sxf_next fun K2 hK2 => ?_; simp [dU, dS, h0, h0']; (repeat (refine ⟨by omega, ?_⟩)); refine hK2 _ ?_; clear hK2 K2)
  refine sxf_next fun K2 hK2 => ?_
  simp [dU, dS, h0, h0']
  refine callK.data (hes) (by simp; rfl) (by first | exact D.leGo_refl _ | simp [takeMap, List.map_map, Function.comp_def, D.le, D.le.go, D.le_refl, D.leGo_refl, dU, dS, h0, h0']) ?_
  refine hK2 _ ?_
  clear hK2 K2
  simp only [putd, upd_lst]
  repeat (refine sxf_next fun K2 hK2 => ?_; simp [dU, dS, h0, h0']; (repeat (refine ⟨by omega, ?_⟩)); refine hK2 _ ?_; clear hK2 K2)
  refine sxf_nil (hK' _ ?_)
  refine AW.st (by simp [dU, dS, h0, h0']; rfl) ?_
  clear hK' K'
  refine AW_cond true (by simp [h0]) (fun _ => ?_) (fun h => by cases h)
  refine AW_rg (tyOf_good _) [2, 3] [] (fun _ _ => trivial) fun K' hK' => ?_
  repeat (refine sxf_next fun K2 hK2 => ?_; simp [dU, dS]; (repeat (refine ⟨by omega, ?_⟩)); refine hK2 _ ?_; clear hK2 K2)
  refine sxf_nil (hK' _ ?_)
  refine AW.st (by simp [dU, dS]; rfl) ?_
  clear hK' K'
  refine AW_ret ?_
  simp [D.le, D.le.go, takeMap, dU, dS, dErr]
set_option maxHeartbeats 4000000 in
theorem pairs_many (G : Glob) (e : Ex) (hb : bE e ≤ 2^28) (hE : namesE false e = []) (h8 : 8 < (namesE true e).length) : PureC Tryz.prog G 9 [dE e] (.tup [.sl (some false) [], dErr (some (4, none))]) := by
  have hns := namesE_spec G e hb
  have hes := edgesE_spec G e hb
  rw [hE] at hes
  generalize namesE true e = ns at hns h8
  have h8' : (8 : Int) < (ns.length : Int) := by omega
  obtain ⟨t, c, hec⟩ := dE_ifc e
  rw [hec] at hes hns ⊢
  refine PureC.of_body (tyOf_good _) Tryz.func9 rfl rfl (rs := [.tmp 2, .tmp 3]) Tryz.results9 (by simp [Tryz.ntmps9]) fun X => ?_
  simp only [Tryz.ntmps9, List.map]
  refine AW_rg (tyOf_good _) [1] [1] (fun _ _ => trivial) fun K' hK' => ?_
  repeat (refine sxf_next fun K2 hK2 => ?_; simp [dU, dS]; (repeat (refine ⟨by omega, ?_⟩)); refine hK2 _ ?_; clear hK2 K2)
  refine sxf_nil (hK' _ ?_)
  refine AW.st (by simp [dU, dS]; rfl) ?_
  clear hK' K'
  refine AW_then fun K1 hK1 => ?_
  refine AW_rg (tyOf_good _) [1, 11] [1] (fun _ _ => trivial) fun K' hK' => ?_
  repeat (refine sxf_next fun K2 hK2 => ?_; simp [dU, dS]; (repeat (refine ⟨by omega, ?_⟩)); refine hK2 _ ?_; clear hK2 K2)
  refine sxf_nil (hK' _ ?_)
  refine AW.st (by simp [dU, dS]; rfl) ?_
  clear hK' K'
  refine AW_cond false rfl (fun h => by cases h) (fun _ => ?_)
  refine AW_skip (hK1 _ ?_)
  refine AW_then fun K2 hK2 => ?_
  refine AW_rg (tyOf_good _) [1, 16] [1] (fun _ _ => trivial) fun K' hK' => ?_
  repeat (refine sxf_next fun K2 hK2 => ?_; simp [dU, dS]; (repeat (refine ⟨by omega, ?_⟩)); refine hK2 _ ?_; clear hK2 K2)
  refine sxf_next fun K2 hK2 => ?_
  simp [dU, dS]
  refine callK.data (hes) (by simp; rfl) (by first | exact D.leGo_refl _ | simp [takeMap, List.map_map, Function.comp_def, D.le, D.le.go, D.le_refl, D.leGo_refl, dU, dS]) ?_
  refine hK2 _ ?_
  clear hK2 K2
  simp only [putd, upd_lst]
  repeat (refine sxf_next fun K2 hK2 => ?_; simp [dU, dS]; (repeat (refine ⟨by omega, ?_⟩)); refine hK2 _ ?_; clear hK2 K2)
  refine sxf_nil (hK' _ ?_)
  refine AW.st (by simp [dU, dS]; rfl) ?_
  clear hK' K'
  refine AW_cond false rfl (fun h => by cases h) (fun _ => ?_)
  refine AW_skip (hK2 _ ?_)
  refine AW_rg (tyOf_good _) [1, 4] [1, 4] (fun _ _ => trivial) fun K' hK' => ?_
  repeat (refine sxf_next fun K2 hK2 => ?_; simp [dU, dS]; (repeat (refine ⟨by omega, ?_⟩)); refine hK2 _ ?_; clear hK2 K2)
  refine sxf_next fun K2 hK2 => ?_
  simp [dU, dS]
  refine callK.data (hns) (by simp; rfl) (by first | exact D.leGo_refl _ | simp [takeMap, List.map_map, Function.comp_def, D.le, D.le.go, D.le_refl, D.leGo_refl, dU, dS]) ?_
  refine hK2 _ ?_
  clear hK2 K2
  simp only [putd, upd_lst]
  repeat (refine sxf_next fun K2 hK2 => ?_; simp [dU, dS]; (repeat (refine ⟨by omega, ?_⟩)); refine hK2 _ ?_; clear hK2 K2)
  refine sxf_nil (hK' _ ?_)
  refine AW.st (by simp [dU, dS]; rfl) ?_
  clear hK' K'
  refine AW_then fun K3 hK3 => ?_
  refine AW_rg (tyOf_good _) [1, 4, 22] [1, 4] (fun _ _ => trivial) fun K' hK' => ?_
  repeat (refine sxf_next fun K2 hK2 => ?_; simp [dU, dS, h8, h8']; (repeat (refine ⟨by omega, ?_⟩)); refine hK2 _ ?_; clear hK2 K2)
  refine sxf_nil (hK' _ ?_)
  refine AW.st (by simp [dU, dS, h8, h8']; rfl) ?_
  clear hK' K'
  refine AW_cond true rfl (fun _ => ?_) (fun h => by cases h)
  refine AW_rg (tyOf_good _) [2, 3] [] (fun _ _ => trivial) fun K' hK' => ?_
  repeat (refine sxf_next fun K2 hK2 => ?_; simp [dU, dS]; (repeat (refine ⟨by omega, ?_⟩)); refine hK2 _ ?_; clear hK2 K2)
  refine sxf_nil (hK' _ ?_)
  refine AW.st (by simp [dU, dS]; rfl) ?_
  clear hK' K'
  refine AW_ret ?_
  simp [D.le, D.le.go, takeMap, dU, dS, dErr]
end Go.Proofs.YtagfbbnlbncjlaaGreatDoor

/-
  Plain facts of trying values: what is set follows; the first values of which all clauses hold.
-/
namespace Go.Proofs.YtagfbbnlbncjlaaGreatDoor
set_option linter.unusedSimpArgs false
set_option linter.unusedVariables false

abbrev Cl := List (List Int)
/-- What is set: literals, in the order in which they were set. -/
structure GoodT (V : Nat) (tr : List Int) : Prop where
  pos : ∀ x ∈ tr, x ≠ 0 ∧ x ≤ V ∧ -V ≤ x
  one : ∀ x ∈ tr, -x ∉ tr
  nodup : tr.Nodup
theorem GoodT.nil (V : Nat) : GoodT V [] := ⟨by simp, by simp, by simp⟩
/-! ### What values do -/
def litB (β : Nat → Bool) (x : Int) : Bool := if 0 < x then β x.toNat else !β (-x).toNat
def Models (cs : Cl) (β : Nat → Bool) : Prop := ∀ c ∈ cs, ∃ x ∈ c, litB β x = true
def Agree (β : Nat → Bool) (tr : List Int) : Prop := ∀ x ∈ tr, litB β x = true
def OkC (V : Nat) (cs : Cl) : Prop := ∀ c ∈ cs, ∀ x ∈ c, x ≠ 0 ∧ x ≤ V ∧ -V ≤ x

end Go.Proofs.YtagfbbnlbncjlaaGreatDoor

/-
  Plain: an expression's clauses, and its literal (Tseitin).
-/
namespace Go.Proofs.YtagfbbnlbncjlaaGreatDoor
set_option linter.unusedSimpArgs false
set_option linter.unusedVariables false
open Go.Av

abbrev Cs := Nat × Cl
/-- A literal of the first V variables. -/
def OkL (V : Nat) (x : Int) : Prop := x ≠ 0 ∧ x ≤ V ∧ -V ≤ x
theorem OkL.neg {V : Nat} {x : Int} (h : OkL V x) : OkL V (-x) := ⟨by have := h.1; omega, by have := h.2.2; omega, by have := h.2.1; omega⟩
theorem OkL.mono {V W : Nat} {x : Int} (h : OkL V x) (hw : V ≤ W) : OkL W x := ⟨h.1, by have := h.2.1; omega, by have := h.2.2; omega⟩
/-- What holds between clauses before and behind: nothing is lost, all is of the variables, what held may be made to hold. -/
structure Grows (c d : Cs) : Prop where
  vars : c.1 ≤ d.1
  ext : ∃ e, d.2 = c.2 ++ e
  ok : OkC c.1 c.2 → OkC d.1 d.2
  can : OkC c.1 c.2 → ∀ β, Models c.2 β → ∃ γ, (∀ v, v ≤ c.1 → γ v = β v) ∧ Models d.2 γ
theorem Grows.refl (c : Cs) : Grows c c := ⟨Nat.le_refl _, ⟨[], by simp⟩, id, fun _ β h => ⟨β, fun _ _ => rfl, h⟩⟩
theorem Grows.trans {a b c : Cs} (h1 : Grows a b) (h2 : Grows b c) : Grows a c := by
  obtain ⟨e1, he1⟩ := h1.ext
  obtain ⟨e2, he2⟩ := h2.ext
  refine ⟨Nat.le_trans h1.vars h2.vars, ⟨e1 ++ e2, by rw [he2, he1, List.append_assoc]⟩, fun h => h2.ok (h1.ok h), fun ok β hm => ?_⟩
  obtain ⟨γ, hg1, hg2⟩ := h1.can ok β hm
  obtain ⟨δ, hd1, hd2⟩ := h2.can (h1.ok ok) γ hg2
  exact ⟨δ, fun v hv => by rw [hd1 v (Nat.le_trans hv h1.vars), hg1 v hv], hd2⟩
end Go.Proofs.YtagfbbnlbncjlaaGreatDoor

/-
  Values that are set back; what follows is set.
-/
namespace Go.Proofs.YtagfbbnlbncjlaaGreatDoor
set_option linter.unusedSimpArgs false
set_option linter.unusedVariables false
open Go.Av

theorem GoodT.take {V : Nat} {tr : List Int} (g : GoodT V tr) (n : Nat) : GoodT V (tr.take n) := ⟨fun x hx => g.pos x (List.mem_of_mem_take hx), fun x hx h => g.one x (List.mem_of_mem_take hx) (List.mem_of_mem_take h), List.Pairwise.sublist (List.take_sublist _ _) g.nodup⟩

end Go.Proofs.YtagfbbnlbncjlaaGreatDoor

/-
  Rows renamed, where the heap is a list.
-/
namespace Go.Proofs.YtagfbbnlbncjlaaGreatDoor
set_option linter.unusedSimpArgs false
set_option linter.unusedVariables false
open Go.Av

theorem renH_hlst {r r' : Nat} (hr : r ≠ r') (l : List (Nat × Row)) (hl : ∀ p ∈ l, p.1 ≠ r') : renH r r' (hlst l) = hlst (l.map fun p => (if p.1 = r then r' else p.1, p.2.tr (renO r r') (renF r r'))) := by
  funext q
  unfold renH
  induction l with
  | nil => simp [hlst, List.lookup]
  | cons p l ih =>
    have ih := ih fun p hp => hl p (by simp [hp])
    have hp := hl p (by simp)
    obtain ⟨k, row⟩ := p
    simp only [hlst, List.lookup, List.map_cons] at ih ⊢
    by_cases h1 : q = r'
    · subst h1
      simp only [if_true] at ih ⊢
      by_cases h2 : k = r
      · subst h2; simp
      · have a1 : (r == k) = false := by simpa using fun e => h2 e.symm
        have a2 : (q == k) = false := by simpa using fun e => hp e.symm
        simp only [h2, if_false, a1, a2]
        exact ih
    · simp only [h1, if_false] at ih ⊢
      by_cases h2 : q = r
      · subst h2
        simp only [if_true] at ih ⊢
        by_cases h3 : k = q
        · have a1 : (q == r') = false := by simpa using h1
          simp only [h3, if_true, a1]
          exact ih
        · have a1 : (q == k) = false := by simpa using fun e => h3 e.symm
          simp only [h3, if_false, a1]
          exact ih
      · simp only [h2, if_false] at ih ⊢
        by_cases h3 : k = r
        · have a1 : (q == k) = false := by rw [h3]; simpa using h2
          have a2 : (q == r') = false := by simpa using h1
          simp only [h3, if_true, a2] at a1 ⊢
          rw [a1]
          exact ih
        · simp only [h3, if_false]
          by_cases h4 : q = k
          · subst h4; simp
          · have a1 : (q == k) = false := by simpa using h4
            simp only [a1]
            exact ih

end Go.Proofs.YtagfbbnlbncjlaaGreatDoor

/-
  gate.Of: an expression's clauses, and its literal.
-/
namespace Go.Proofs.YtagfbbnlbncjlaaGreatDoor
set_option linter.unusedSimpArgs false
set_option linter.unusedVariables false
open Go.Av

theorem nms_nameF (all : Bool) : ∀ (n : Nat) (e : Ex), SizeOf.sizeOf e ≤ n → WfE e → ∀ s ∈ nmsE all e, nameF s = true
  | 0, e, hn, _, _, _ => by cases e <;> simp at hn
  | n + 1, e, hn, hw, s, hs => by
    have many : ∀ l : List Ex, (∀ x ∈ l, SizeOf.sizeOf x ≤ n) → (∀ x ∈ l, WfE x) → ∀ s ∈ nmsL all l, nameF s = true := by
      intro l
      induction l with
      | nil => intro _ _ s h; simp [nmsL] at h
      | cons x l ih =>
        intro h1 h2 s h
        rw [nmsL, List.mem_append] at h
        rcases h with h | h
        · exact nms_nameF all n x (h1 x (by simp)) (h2 x (by simp)) s h
        · exact ih (fun y hy => h1 y (by simp [hy])) (fun y hy => h2 y (by simp [hy])) s h
    have one : ∀ {t : Tx}, s ∈ one1 t → s = t := fun {t} h => by unfold one1 at h; split at h <;> simp_all
    cases e with
    | cst b => rw [nmsE] at hs <;> simp_all [nmE, one1]
    | bit t =>
      rw [WfE] at hw
      rw [nmsE] at hs
      · cases all with
        | true => have := one hs; simp only [nmE, if_true] at this; rw [this]; exact hw
        | false => simp [nmE, one1] at hs
      all_goals (intros; simp_all)
    | rise t =>
      rw [WfE] at hw
      rw [nmsE] at hs
      · have := one hs; simp only [nmE] at this; rw [this]; exact hw
      all_goals (intros; simp_all)
    | fall t =>
      rw [WfE] at hw
      rw [nmsE] at hs
      · have := one hs; simp only [nmE] at this; rw [this]; exact hw
      all_goals (intros; simp_all)
    | not x =>
      rw [WfE] at hw
      rw [nmsE] at hs
      exact nms_nameF all n x (by simp at hn; omega) hw s hs
    | and l =>
      rw [WfE] at hw
      rw [nmsE] at hs
      exact many l (fun x hx => by have := List.sizeOf_lt_of_mem hx; simp only [Ex.and.sizeOf_spec] at hn; omega) ((WfEs_iff l).1 hw.2) s hs
    | or l =>
      rw [WfE] at hw
      rw [nmsE] at hs
      exact many l (fun x hx => by have := List.sizeOf_lt_of_mem hx; simp only [Ex.or.sizeOf_spec] at hn; omega) ((WfEs_iff l).1 hw.2) s hs

/-! ### The names' numbers -/
end Go.Proofs.YtagfbbnlbncjlaaGreatDoor

/-
  The law's small parts, and the document's Eval and Size.
-/
namespace Go.Proofs.YtagfbbnlbncjlaaGreatDoor
set_option linter.unusedSimpArgs false
set_option linter.unusedVariables false
open Go.Av

/-! ### sameTexts -/
/-! ### Names among some -/
/-! ### The document's Eval -/
def cntE (is was : List UInt8 → Bool) : List Ex → Nat
  | [] => 0
  | e :: l => (if evE is was e then 1 else 0) + cntE is was l
theorem cntE_app (is was : List UInt8 → Bool) : ∀ a b : List Ex, cntE is was (a ++ b) = cntE is was a + cntE is was b
  | [], b => by simp [cntE]
  | e :: a, b => by simp only [List.cons_append, cntE, cntE_app is was a b]; omega
theorem cntE_le (is was : List UInt8 → Bool) : ∀ l : List Ex, cntE is was l ≤ l.length
  | [] => by simp [cntE]
  | e :: l => by have := cntE_le is was l; simp only [cntE, List.length_cons]; split <;> omega
theorem cntE_take (is was : List UInt8 → Bool) {l : List Ex} {i : Nat} (hi : i < l.length) : cntE is was (l.take (i + 1)) = cntE is was (l.take i) + (if evE is was l[i] then 1 else 0) := by
  rw [List.take_succ_eq_append_getElem hi, cntE_app]
  simp [cntE]
theorem cntE_and (is was : List UInt8 → Bool) : ∀ l : List Ex, decide (cntE is was l = l.length) = evA is was l
  | [] => rfl
  | e :: l => by
    have h1 := cntE_and is was l
    have h2 := cntE_le is was l
    rw [evA, ← h1]
    simp only [cntE, List.length_cons]
    rcases Bool.eq_false_or_eq_true (evE is was e) with hE | hE
    · simp [hE, Nat.add_comm 1]
    · have : ¬ cntE is was l = l.length + 1 := by omega
      simp [hE, this]
theorem cntE_or (is was : List UInt8 → Bool) : ∀ l : List Ex, decide (0 < cntE is was l) = evO is was l
  | [] => rfl
  | e :: l => by
    have h1 := cntE_or is was l
    rw [evO, ← h1]
    simp only [cntE]
    rcases Bool.eq_false_or_eq_true (evE is was e) with hE | hE
    · simp [hE]; omega
    · simp [hE]
set_option maxHeartbeats 32000000 in
set_option maxRecDepth 100000 in
theorem reval_at (G : Glob) (g1 g2 : FuncId) (c1 c2 : List D) (is was : List UInt8 → Bool) (S1 S2 : List UInt8 → Prop) (h1 : TellsOn S1 G g1 c1 is) (h2 : TellsOn S2 G g2 c2 was) : ∀ (n : Nat) (e : Ex), SizeOf.sizeOf e ≤ n → AskE S1 S2 e → WfE e → bE e ≤ 2^28 → PureC Tryz.prog G 40 [dR e, .fn (.func g1) c1, .fn (.func g2) c2] (.v (.bool (evE is was e))) := by
  intro n
  induction n with
  | zero => intro e hsz; cases e <;> simp at hsz
  | succ n ih =>
    intro e hsz hask hwf hb
    cases e with
    | cst b =>
      cases b with
      | true =>
        rw [dR]
        refine PureC.of_body (tyOf_good _) Tryz.func40 rfl rfl (rs := [.tmp 6]) Tryz.results40 (by simp [Tryz.ntmps40]) fun X => ?_
        simp only [Tryz.ntmps40, List.map]
        refine AW_rg (tyOf_good _) [0, 1, 2] [] (fun _ _ => trivial) fun K' hK' => ?_
        repeat (refine sxf_next fun K2 hK2 => ?_; simp [dNum, dS, binS_eq, dNil]; (repeat (refine ⟨by omega, ?_⟩)); refine hK2 _ ?_; clear hK2 K2)
        refine sxf_nil (hK' _ ?_)
        refine AW.st (by simp [dNum, dS, binS_eq, dNil]; rfl) ?_
        clear hK' K'
        refine AW_then fun K1 hK1 => ?_
        refine AW_rg (tyOf_good _) [0, 1, 2, 13] [] (fun _ _ => trivial) fun K' hK' => ?_
        repeat (refine sxf_next fun K2 hK2 => ?_; simp [dNum, dS, binS_eq, dNil]; (repeat (refine ⟨by omega, ?_⟩)); refine hK2 _ ?_; clear hK2 K2)
        refine sxf_nil (hK' _ ?_)
        refine AW.st (by simp [dNum, dS, binS_eq, dNil]; rfl) ?_
        clear hK' K'
        refine AW_block ?_
        refine AW_rg (tyOf_good _) [0, 1, 2, 13, 14] [] (fun _ _ => trivial) fun K' hK' => ?_
        repeat (refine sxf_next fun K2 hK2 => ?_; simp [dNum, dS, binS_eq, dNil]; (repeat (refine ⟨by omega, ?_⟩)); refine hK2 _ ?_; clear hK2 K2)
        refine sxf_nil (hK' _ ?_)
        refine AW.st (by simp [dNum, dS, binS_eq, dNil]; rfl) ?_
        clear hK' K'
        refine AW_cond true rfl (fun _ => ?_) (fun h => by cases h)
        refine AW_rg (tyOf_good _) [6] [] (fun _ _ => trivial) fun K' hK' => ?_
        repeat (refine sxf_next fun K2 hK2 => ?_; simp [dNum, dS, binS_eq, dNil]; (repeat (refine ⟨by omega, ?_⟩)); refine hK2 _ ?_; clear hK2 K2)
        refine sxf_nil (hK' _ ?_)
        refine AW.st (by simp [dNum, dS, binS_eq, dNil]; rfl) ?_
        clear hK' K'
        refine AW_ret ?_
        simp [D.le, D.le.go, takeMap, dNum, dS, binS_eq, dNil, evE]
      | false =>
        rw [dR]
        refine PureC.of_body (tyOf_good _) Tryz.func40 rfl rfl (rs := [.tmp 6]) Tryz.results40 (by simp [Tryz.ntmps40]) fun X => ?_
        simp only [Tryz.ntmps40, List.map]
        refine AW_rg (tyOf_good _) [0, 1, 2] [] (fun _ _ => trivial) fun K' hK' => ?_
        repeat (refine sxf_next fun K2 hK2 => ?_; simp [dNum, dS, binS_eq, dNil]; (repeat (refine ⟨by omega, ?_⟩)); refine hK2 _ ?_; clear hK2 K2)
        refine sxf_nil (hK' _ ?_)
        refine AW.st (by simp [dNum, dS, binS_eq, dNil]; rfl) ?_
        clear hK' K'
        refine AW_then fun K1 hK1 => ?_
        refine AW_rg (tyOf_good _) [0, 1, 2, 13] [] (fun _ _ => trivial) fun K' hK' => ?_
        repeat (refine sxf_next fun K2 hK2 => ?_; simp [dNum, dS, binS_eq, dNil]; (repeat (refine ⟨by omega, ?_⟩)); refine hK2 _ ?_; clear hK2 K2)
        refine sxf_nil (hK' _ ?_)
        refine AW.st (by simp [dNum, dS, binS_eq, dNil]; rfl) ?_
        clear hK' K'
        refine AW_block ?_
        refine AW_rg (tyOf_good _) [0, 1, 2, 13, 14] [] (fun _ _ => trivial) fun K' hK' => ?_
        repeat (refine sxf_next fun K2 hK2 => ?_; simp [dNum, dS, binS_eq, dNil]; (repeat (refine ⟨by omega, ?_⟩)); refine hK2 _ ?_; clear hK2 K2)
        refine sxf_nil (hK' _ ?_)
        refine AW.st (by simp [dNum, dS, binS_eq, dNil]; rfl) ?_
        clear hK' K'
        refine AW_cond false rfl (fun h => by cases h) (fun _ => ?_)
        refine AW_rg (tyOf_good _) [0, 1, 2, 13, 16] [] (fun _ _ => trivial) fun K' hK' => ?_
        repeat (refine sxf_next fun K2 hK2 => ?_; simp [dNum, dS, binS_eq, dNil]; (repeat (refine ⟨by omega, ?_⟩)); refine hK2 _ ?_; clear hK2 K2)
        refine sxf_nil (hK' _ ?_)
        refine AW.st (by simp [dNum, dS, binS_eq, dNil]; rfl) ?_
        clear hK' K'
        refine AW_cond false rfl (fun h => by cases h) (fun _ => ?_)
        refine AW_rg (tyOf_good _) [0, 1, 2, 13, 24] [] (fun _ _ => trivial) fun K' hK' => ?_
        repeat (refine sxf_next fun K2 hK2 => ?_; simp [dNum, dS, binS_eq, dNil]; (repeat (refine ⟨by omega, ?_⟩)); refine hK2 _ ?_; clear hK2 K2)
        refine sxf_nil (hK' _ ?_)
        refine AW.st (by simp [dNum, dS, binS_eq, dNil]; rfl) ?_
        clear hK' K'
        refine AW_cond false rfl (fun h => by cases h) (fun _ => ?_)
        refine AW_rg (tyOf_good _) [0, 1, 2, 13, 41] [] (fun _ _ => trivial) fun K' hK' => ?_
        repeat (refine sxf_next fun K2 hK2 => ?_; simp [dNum, dS, binS_eq, dNil]; (repeat (refine ⟨by omega, ?_⟩)); refine hK2 _ ?_; clear hK2 K2)
        refine sxf_nil (hK' _ ?_)
        refine AW.st (by simp [dNum, dS, binS_eq, dNil]; rfl) ?_
        clear hK' K'
        refine AW_cond false rfl (fun h => by cases h) (fun _ => ?_)
        refine AW_rg (tyOf_good _) [0, 1, 2, 13, 58] [] (fun _ _ => trivial) fun K' hK' => ?_
        repeat (refine sxf_next fun K2 hK2 => ?_; simp [dNum, dS, binS_eq, dNil]; (repeat (refine ⟨by omega, ?_⟩)); refine hK2 _ ?_; clear hK2 K2)
        refine sxf_nil (hK' _ ?_)
        refine AW.st (by simp [dNum, dS, binS_eq, dNil]; rfl) ?_
        clear hK' K'
        refine AW_cond false rfl (fun h => by cases h) (fun _ => ?_)
        refine AW_then fun K2 hK2 => ?_
        refine AW_rg (tyOf_good _) [0, 1, 2, 13, 70] [] (fun _ _ => trivial) fun K' hK' => ?_
        repeat (refine sxf_next fun K2 hK2 => ?_; simp [dNum, dS, binS_eq, dNil]; (repeat (refine ⟨by omega, ?_⟩)); refine hK2 _ ?_; clear hK2 K2)
        refine sxf_nil (hK' _ ?_)
        refine AW.st (by simp [dNum, dS, binS_eq, dNil]; rfl) ?_
        clear hK' K'
        refine AW_cond false rfl (fun h => by cases h) (fun _ => ?_)
        refine AW_re (tyOf_good _) fun K' hK' => ?_
        repeat (refine sxf_next fun K2 hK2 => ?_; simp [dNum, dS, binS_eq, dNil]; (repeat (refine ⟨by omega, ?_⟩)); refine hK2 _ ?_; clear hK2 K2)
        refine sxf_nil (hK' _ ?_)
        clear hK' K'
        refine hK2 _ (AW.norm [0, 1, 2, 70] [] (fun _ _ => trivial) (AW.st (by simp [dNum, dS, binS_eq, dNil]; rfl) ?_))
        refine AW_cond false rfl (fun h => by cases h) (fun _ => ?_)
        refine AW_skip (hK1 _ ?_)
        refine AW_rg (tyOf_good _) [6] [] (fun _ _ => trivial) fun K' hK' => ?_
        repeat (refine sxf_next fun K2 hK2 => ?_; simp [dNum, dS, binS_eq, dNil]; (repeat (refine ⟨by omega, ?_⟩)); refine hK2 _ ?_; clear hK2 K2)
        refine sxf_nil (hK' _ ?_)
        refine AW.st (by simp [dNum, dS, binS_eq, dNil]; rfl) ?_
        clear hK' K'
        refine AW_ret ?_
        simp [D.le, D.le.go, takeMap, dNum, dS, binS_eq, dNil, evE]
    | bit s =>
      rw [AskE] at hask
      have hi := h1 s hask
      rw [dR, evE]
      refine PureC.of_body (tyOf_good _) Tryz.func40 rfl rfl (rs := [.tmp 6]) Tryz.results40 (by simp [Tryz.ntmps40]) fun X => ?_
      simp only [Tryz.ntmps40, List.map]
      refine AW_rg (tyOf_good _) [0, 1, 2] [] (fun _ _ => trivial) fun K' hK' => ?_
      repeat (refine sxf_next fun K2 hK2 => ?_; simp [dNum, dS, binS_eq, dNil]; (repeat (refine ⟨by omega, ?_⟩)); refine hK2 _ ?_; clear hK2 K2)
      refine sxf_nil (hK' _ ?_)
      refine AW.st (by simp [dNum, dS, binS_eq, dNil]; rfl) ?_
      clear hK' K'
      refine AW_then fun K1 hK1 => ?_
      refine AW_rg (tyOf_good _) [0, 1, 2, 13] [] (fun _ _ => trivial) fun K' hK' => ?_
      repeat (refine sxf_next fun K2 hK2 => ?_; simp [dNum, dS, binS_eq, dNil]; (repeat (refine ⟨by omega, ?_⟩)); refine hK2 _ ?_; clear hK2 K2)
      refine sxf_nil (hK' _ ?_)
      refine AW.st (by simp [dNum, dS, binS_eq, dNil]; rfl) ?_
      clear hK' K'
      refine AW_block ?_
      refine AW_rg (tyOf_good _) [0, 1, 2, 13, 14] [] (fun _ _ => trivial) fun K' hK' => ?_
      repeat (refine sxf_next fun K2 hK2 => ?_; simp [dNum, dS, binS_eq, dNil]; (repeat (refine ⟨by omega, ?_⟩)); refine hK2 _ ?_; clear hK2 K2)
      refine sxf_nil (hK' _ ?_)
      refine AW.st (by simp [dNum, dS, binS_eq, dNil]; rfl) ?_
      clear hK' K'
      refine AW_cond false rfl (fun h => by cases h) (fun _ => ?_)
      refine AW_rg (tyOf_good _) [0, 1, 2, 13, 16] [] (fun _ _ => trivial) fun K' hK' => ?_
      repeat (refine sxf_next fun K2 hK2 => ?_; simp [dNum, dS, binS_eq, dNil]; (repeat (refine ⟨by omega, ?_⟩)); refine hK2 _ ?_; clear hK2 K2)
      refine sxf_nil (hK' _ ?_)
      refine AW.st (by simp [dNum, dS, binS_eq, dNil]; rfl) ?_
      clear hK' K'
      refine AW_cond true rfl (fun _ => ?_) (fun h => by cases h)
      refine AW_rg (tyOf_good _) [6] [] (fun _ _ => trivial) fun K' hK' => ?_
      repeat (refine sxf_next fun K2 hK2 => ?_; simp [dNum, dS, binS_eq, dNil]; (repeat (refine ⟨by omega, ?_⟩)); refine hK2 _ ?_; clear hK2 K2)
      refine sxf_next fun K2 hK2 => ?_
      simp [dNum, dS, binS_eq, dNil]
      refine callK.data (hi) (by simp; rfl) (by first | exact D.leGo_refl _ | simp [takeMap, List.map_map, Function.comp_def, D.le, D.le.go, D.le_refl, D.leGo_refl, dNum, dS, binS_eq, dNil]) ?_
      refine hK2 _ ?_
      clear hK2 K2
      simp only [putd, upd_lst]
      repeat (refine sxf_next fun K2 hK2 => ?_; simp [dNum, dS, binS_eq, dNil]; (repeat (refine ⟨by omega, ?_⟩)); refine hK2 _ ?_; clear hK2 K2)
      refine sxf_nil (hK' _ ?_)
      refine AW.st (by simp [dNum, dS, binS_eq, dNil]; rfl) ?_
      clear hK' K'
      refine AW_ret ?_
      simp [D.le, D.le.go, takeMap, dNum, dS, binS_eq, dNil]
    | rise s =>
      rw [AskE] at hask
      have hi := h1 s hask.1
      have hw := h2 s hask.2
      rw [dR, evE]
      cases hx : is s with
      | false =>
        rw [hx] at hi
        refine PureC.of_body (tyOf_good _) Tryz.func40 rfl rfl (rs := [.tmp 6]) Tryz.results40 (by simp [Tryz.ntmps40]) fun X => ?_
        simp only [Tryz.ntmps40, List.map]
        refine AW_rg (tyOf_good _) [0, 1, 2] [] (fun _ _ => trivial) fun K' hK' => ?_
        repeat (refine sxf_next fun K2 hK2 => ?_; simp [dNum, dS, binS_eq, dNil]; (repeat (refine ⟨by omega, ?_⟩)); refine hK2 _ ?_; clear hK2 K2)
        refine sxf_nil (hK' _ ?_)
        refine AW.st (by simp [dNum, dS, binS_eq, dNil]; rfl) ?_
        clear hK' K'
        refine AW_then fun K1 hK1 => ?_
        refine AW_rg (tyOf_good _) [0, 1, 2, 13] [] (fun _ _ => trivial) fun K' hK' => ?_
        repeat (refine sxf_next fun K2 hK2 => ?_; simp [dNum, dS, binS_eq, dNil]; (repeat (refine ⟨by omega, ?_⟩)); refine hK2 _ ?_; clear hK2 K2)
        refine sxf_nil (hK' _ ?_)
        refine AW.st (by simp [dNum, dS, binS_eq, dNil]; rfl) ?_
        clear hK' K'
        refine AW_block ?_
        refine AW_rg (tyOf_good _) [0, 1, 2, 13, 14] [] (fun _ _ => trivial) fun K' hK' => ?_
        repeat (refine sxf_next fun K2 hK2 => ?_; simp [dNum, dS, binS_eq, dNil]; (repeat (refine ⟨by omega, ?_⟩)); refine hK2 _ ?_; clear hK2 K2)
        refine sxf_nil (hK' _ ?_)
        refine AW.st (by simp [dNum, dS, binS_eq, dNil]; rfl) ?_
        clear hK' K'
        refine AW_cond false rfl (fun h => by cases h) (fun _ => ?_)
        refine AW_rg (tyOf_good _) [0, 1, 2, 13, 16] [] (fun _ _ => trivial) fun K' hK' => ?_
        repeat (refine sxf_next fun K2 hK2 => ?_; simp [dNum, dS, binS_eq, dNil]; (repeat (refine ⟨by omega, ?_⟩)); refine hK2 _ ?_; clear hK2 K2)
        refine sxf_nil (hK' _ ?_)
        refine AW.st (by simp [dNum, dS, binS_eq, dNil]; rfl) ?_
        clear hK' K'
        refine AW_cond false rfl (fun h => by cases h) (fun _ => ?_)
        refine AW_rg (tyOf_good _) [0, 1, 2, 13, 24] [] (fun _ _ => trivial) fun K' hK' => ?_
        repeat (refine sxf_next fun K2 hK2 => ?_; simp [dNum, dS, binS_eq, dNil]; (repeat (refine ⟨by omega, ?_⟩)); refine hK2 _ ?_; clear hK2 K2)
        refine sxf_nil (hK' _ ?_)
        refine AW.st (by simp [dNum, dS, binS_eq, dNil]; rfl) ?_
        clear hK' K'
        refine AW_cond true rfl (fun _ => ?_) (fun h => by cases h)
        refine AW_rg (tyOf_good _) [6] [] (fun _ _ => trivial) fun K' hK' => ?_
        repeat (refine sxf_next fun K2 hK2 => ?_; simp [dNum, dS, binS_eq, dNil]; (repeat (refine ⟨by omega, ?_⟩)); refine hK2 _ ?_; clear hK2 K2)
        refine sxf_next fun K2 hK2 => ?_
        simp [dNum, dS, binS_eq, dNil]
        refine callK.data (hi) (by simp; rfl) (by first | exact D.leGo_refl _ | simp [takeMap, List.map_map, Function.comp_def, D.le, D.le.go, D.le_refl, D.leGo_refl, dNum, dS, binS_eq, dNil]) ?_
        refine hK2 _ ?_
        clear hK2 K2
        simp only [putd, upd_lst]
        repeat (refine sxf_next fun K2 hK2 => ?_; simp [dNum, dS, binS_eq, dNil]; (repeat (refine ⟨by omega, ?_⟩)); refine hK2 _ ?_; clear hK2 K2)
        refine sxf_nil (hK' _ ?_)
        refine AW.st (by simp [dNum, dS, binS_eq, dNil]; rfl) ?_
        clear hK' K'
        refine AW_ret ?_
        simp [D.le, D.le.go, takeMap, dNum, dS, binS_eq, dNil]
      | true =>
        rw [hx] at hi
        refine PureC.of_body (tyOf_good _) Tryz.func40 rfl rfl (rs := [.tmp 6]) Tryz.results40 (by simp [Tryz.ntmps40]) fun X => ?_
        simp only [Tryz.ntmps40, List.map]
        refine AW_rg (tyOf_good _) [0, 1, 2] [] (fun _ _ => trivial) fun K' hK' => ?_
        repeat (refine sxf_next fun K2 hK2 => ?_; simp [dNum, dS, binS_eq, dNil]; (repeat (refine ⟨by omega, ?_⟩)); refine hK2 _ ?_; clear hK2 K2)
        refine sxf_nil (hK' _ ?_)
        refine AW.st (by simp [dNum, dS, binS_eq, dNil]; rfl) ?_
        clear hK' K'
        refine AW_then fun K1 hK1 => ?_
        refine AW_rg (tyOf_good _) [0, 1, 2, 13] [] (fun _ _ => trivial) fun K' hK' => ?_
        repeat (refine sxf_next fun K2 hK2 => ?_; simp [dNum, dS, binS_eq, dNil]; (repeat (refine ⟨by omega, ?_⟩)); refine hK2 _ ?_; clear hK2 K2)
        refine sxf_nil (hK' _ ?_)
        refine AW.st (by simp [dNum, dS, binS_eq, dNil]; rfl) ?_
        clear hK' K'
        refine AW_block ?_
        refine AW_rg (tyOf_good _) [0, 1, 2, 13, 14] [] (fun _ _ => trivial) fun K' hK' => ?_
        repeat (refine sxf_next fun K2 hK2 => ?_; simp [dNum, dS, binS_eq, dNil]; (repeat (refine ⟨by omega, ?_⟩)); refine hK2 _ ?_; clear hK2 K2)
        refine sxf_nil (hK' _ ?_)
        refine AW.st (by simp [dNum, dS, binS_eq, dNil]; rfl) ?_
        clear hK' K'
        refine AW_cond false rfl (fun h => by cases h) (fun _ => ?_)
        refine AW_rg (tyOf_good _) [0, 1, 2, 13, 16] [] (fun _ _ => trivial) fun K' hK' => ?_
        repeat (refine sxf_next fun K2 hK2 => ?_; simp [dNum, dS, binS_eq, dNil]; (repeat (refine ⟨by omega, ?_⟩)); refine hK2 _ ?_; clear hK2 K2)
        refine sxf_nil (hK' _ ?_)
        refine AW.st (by simp [dNum, dS, binS_eq, dNil]; rfl) ?_
        clear hK' K'
        refine AW_cond false rfl (fun h => by cases h) (fun _ => ?_)
        refine AW_rg (tyOf_good _) [0, 1, 2, 13, 24] [] (fun _ _ => trivial) fun K' hK' => ?_
        repeat (refine sxf_next fun K2 hK2 => ?_; simp [dNum, dS, binS_eq, dNil]; (repeat (refine ⟨by omega, ?_⟩)); refine hK2 _ ?_; clear hK2 K2)
        refine sxf_nil (hK' _ ?_)
        refine AW.st (by simp [dNum, dS, binS_eq, dNil]; rfl) ?_
        clear hK' K'
        refine AW_cond true rfl (fun _ => ?_) (fun h => by cases h)
        refine AW_rg (tyOf_good _) [6] [] (fun _ _ => trivial) fun K' hK' => ?_
        repeat (refine sxf_next fun K2 hK2 => ?_; simp [dNum, dS, binS_eq, dNil]; (repeat (refine ⟨by omega, ?_⟩)); refine hK2 _ ?_; clear hK2 K2)
        refine sxf_next fun K2 hK2 => ?_
        simp [dNum, dS, binS_eq, dNil]
        refine callK.data (hi) (by simp; rfl) (by first | exact D.leGo_refl _ | simp [takeMap, List.map_map, Function.comp_def, D.le, D.le.go, D.le_refl, D.leGo_refl, dNum, dS, binS_eq, dNil]) ?_
        refine hK2 _ ?_
        clear hK2 K2
        simp only [putd, upd_lst]
        repeat (refine sxf_next fun K2 hK2 => ?_; simp [dNum, dS, binS_eq, dNil]; (repeat (refine ⟨by omega, ?_⟩)); refine hK2 _ ?_; clear hK2 K2)
        refine sxf_next fun K2 hK2 => ?_
        simp [dNum, dS, binS_eq, dNil]
        refine callK.data (hw) (by simp; rfl) (by first | exact D.leGo_refl _ | simp [takeMap, List.map_map, Function.comp_def, D.le, D.le.go, D.le_refl, D.leGo_refl, dNum, dS, binS_eq, dNil]) ?_
        refine hK2 _ ?_
        clear hK2 K2
        simp only [putd, upd_lst]
        repeat (refine sxf_next fun K2 hK2 => ?_; simp [dNum, dS, binS_eq, dNil]; (repeat (refine ⟨by omega, ?_⟩)); refine hK2 _ ?_; clear hK2 K2)
        refine sxf_nil (hK' _ ?_)
        refine AW.st (by simp [dNum, dS, binS_eq, dNil]; rfl) ?_
        clear hK' K'
        refine AW_ret ?_
        simp [D.le, D.le.go, takeMap, dNum, dS, binS_eq, dNil]
    | fall s =>
      rw [AskE] at hask
      have hi := h2 s hask.2
      have hw := h1 s hask.1
      rw [dR, evE]
      rw [Bool.and_comm]
      cases hx : was s with
      | false =>
        rw [hx] at hi
        refine PureC.of_body (tyOf_good _) Tryz.func40 rfl rfl (rs := [.tmp 6]) Tryz.results40 (by simp [Tryz.ntmps40]) fun X => ?_
        simp only [Tryz.ntmps40, List.map]
        refine AW_rg (tyOf_good _) [0, 1, 2] [] (fun _ _ => trivial) fun K' hK' => ?_
        repeat (refine sxf_next fun K2 hK2 => ?_; simp [dNum, dS, binS_eq, dNil]; (repeat (refine ⟨by omega, ?_⟩)); refine hK2 _ ?_; clear hK2 K2)
        refine sxf_nil (hK' _ ?_)
        refine AW.st (by simp [dNum, dS, binS_eq, dNil]; rfl) ?_
        clear hK' K'
        refine AW_then fun K1 hK1 => ?_
        refine AW_rg (tyOf_good _) [0, 1, 2, 13] [] (fun _ _ => trivial) fun K' hK' => ?_
        repeat (refine sxf_next fun K2 hK2 => ?_; simp [dNum, dS, binS_eq, dNil]; (repeat (refine ⟨by omega, ?_⟩)); refine hK2 _ ?_; clear hK2 K2)
        refine sxf_nil (hK' _ ?_)
        refine AW.st (by simp [dNum, dS, binS_eq, dNil]; rfl) ?_
        clear hK' K'
        refine AW_block ?_
        refine AW_rg (tyOf_good _) [0, 1, 2, 13, 14] [] (fun _ _ => trivial) fun K' hK' => ?_
        repeat (refine sxf_next fun K2 hK2 => ?_; simp [dNum, dS, binS_eq, dNil]; (repeat (refine ⟨by omega, ?_⟩)); refine hK2 _ ?_; clear hK2 K2)
        refine sxf_nil (hK' _ ?_)
        refine AW.st (by simp [dNum, dS, binS_eq, dNil]; rfl) ?_
        clear hK' K'
        refine AW_cond false rfl (fun h => by cases h) (fun _ => ?_)
        refine AW_rg (tyOf_good _) [0, 1, 2, 13, 16] [] (fun _ _ => trivial) fun K' hK' => ?_
        repeat (refine sxf_next fun K2 hK2 => ?_; simp [dNum, dS, binS_eq, dNil]; (repeat (refine ⟨by omega, ?_⟩)); refine hK2 _ ?_; clear hK2 K2)
        refine sxf_nil (hK' _ ?_)
        refine AW.st (by simp [dNum, dS, binS_eq, dNil]; rfl) ?_
        clear hK' K'
        refine AW_cond false rfl (fun h => by cases h) (fun _ => ?_)
        refine AW_rg (tyOf_good _) [0, 1, 2, 13, 24] [] (fun _ _ => trivial) fun K' hK' => ?_
        repeat (refine sxf_next fun K2 hK2 => ?_; simp [dNum, dS, binS_eq, dNil]; (repeat (refine ⟨by omega, ?_⟩)); refine hK2 _ ?_; clear hK2 K2)
        refine sxf_nil (hK' _ ?_)
        refine AW.st (by simp [dNum, dS, binS_eq, dNil]; rfl) ?_
        clear hK' K'
        refine AW_cond false rfl (fun h => by cases h) (fun _ => ?_)
        refine AW_rg (tyOf_good _) [0, 1, 2, 13, 41] [] (fun _ _ => trivial) fun K' hK' => ?_
        repeat (refine sxf_next fun K2 hK2 => ?_; simp [dNum, dS, binS_eq, dNil]; (repeat (refine ⟨by omega, ?_⟩)); refine hK2 _ ?_; clear hK2 K2)
        refine sxf_nil (hK' _ ?_)
        refine AW.st (by simp [dNum, dS, binS_eq, dNil]; rfl) ?_
        clear hK' K'
        refine AW_cond true rfl (fun _ => ?_) (fun h => by cases h)
        refine AW_rg (tyOf_good _) [6] [] (fun _ _ => trivial) fun K' hK' => ?_
        repeat (refine sxf_next fun K2 hK2 => ?_; simp [dNum, dS, binS_eq, dNil]; (repeat (refine ⟨by omega, ?_⟩)); refine hK2 _ ?_; clear hK2 K2)
        refine sxf_next fun K2 hK2 => ?_
        simp [dNum, dS, binS_eq, dNil]
        refine callK.data (hi) (by simp; rfl) (by first | exact D.leGo_refl _ | simp [takeMap, List.map_map, Function.comp_def, D.le, D.le.go, D.le_refl, D.leGo_refl, dNum, dS, binS_eq, dNil]) ?_
        refine hK2 _ ?_
        clear hK2 K2
        simp only [putd, upd_lst]
        repeat (refine sxf_next fun K2 hK2 => ?_; simp [dNum, dS, binS_eq, dNil]; (repeat (refine ⟨by omega, ?_⟩)); refine hK2 _ ?_; clear hK2 K2)
        refine sxf_nil (hK' _ ?_)
        refine AW.st (by simp [dNum, dS, binS_eq, dNil]; rfl) ?_
        clear hK' K'
        refine AW_ret ?_
        simp [D.le, D.le.go, takeMap, dNum, dS, binS_eq, dNil]
      | true =>
        rw [hx] at hi
        refine PureC.of_body (tyOf_good _) Tryz.func40 rfl rfl (rs := [.tmp 6]) Tryz.results40 (by simp [Tryz.ntmps40]) fun X => ?_
        simp only [Tryz.ntmps40, List.map]
        refine AW_rg (tyOf_good _) [0, 1, 2] [] (fun _ _ => trivial) fun K' hK' => ?_
        repeat (refine sxf_next fun K2 hK2 => ?_; simp [dNum, dS, binS_eq, dNil]; (repeat (refine ⟨by omega, ?_⟩)); refine hK2 _ ?_; clear hK2 K2)
        refine sxf_nil (hK' _ ?_)
        refine AW.st (by simp [dNum, dS, binS_eq, dNil]; rfl) ?_
        clear hK' K'
        refine AW_then fun K1 hK1 => ?_
        refine AW_rg (tyOf_good _) [0, 1, 2, 13] [] (fun _ _ => trivial) fun K' hK' => ?_
        repeat (refine sxf_next fun K2 hK2 => ?_; simp [dNum, dS, binS_eq, dNil]; (repeat (refine ⟨by omega, ?_⟩)); refine hK2 _ ?_; clear hK2 K2)
        refine sxf_nil (hK' _ ?_)
        refine AW.st (by simp [dNum, dS, binS_eq, dNil]; rfl) ?_
        clear hK' K'
        refine AW_block ?_
        refine AW_rg (tyOf_good _) [0, 1, 2, 13, 14] [] (fun _ _ => trivial) fun K' hK' => ?_
        repeat (refine sxf_next fun K2 hK2 => ?_; simp [dNum, dS, binS_eq, dNil]; (repeat (refine ⟨by omega, ?_⟩)); refine hK2 _ ?_; clear hK2 K2)
        refine sxf_nil (hK' _ ?_)
        refine AW.st (by simp [dNum, dS, binS_eq, dNil]; rfl) ?_
        clear hK' K'
        refine AW_cond false rfl (fun h => by cases h) (fun _ => ?_)
        refine AW_rg (tyOf_good _) [0, 1, 2, 13, 16] [] (fun _ _ => trivial) fun K' hK' => ?_
        repeat (refine sxf_next fun K2 hK2 => ?_; simp [dNum, dS, binS_eq, dNil]; (repeat (refine ⟨by omega, ?_⟩)); refine hK2 _ ?_; clear hK2 K2)
        refine sxf_nil (hK' _ ?_)
        refine AW.st (by simp [dNum, dS, binS_eq, dNil]; rfl) ?_
        clear hK' K'
        refine AW_cond false rfl (fun h => by cases h) (fun _ => ?_)
        refine AW_rg (tyOf_good _) [0, 1, 2, 13, 24] [] (fun _ _ => trivial) fun K' hK' => ?_
        repeat (refine sxf_next fun K2 hK2 => ?_; simp [dNum, dS, binS_eq, dNil]; (repeat (refine ⟨by omega, ?_⟩)); refine hK2 _ ?_; clear hK2 K2)
        refine sxf_nil (hK' _ ?_)
        refine AW.st (by simp [dNum, dS, binS_eq, dNil]; rfl) ?_
        clear hK' K'
        refine AW_cond false rfl (fun h => by cases h) (fun _ => ?_)
        refine AW_rg (tyOf_good _) [0, 1, 2, 13, 41] [] (fun _ _ => trivial) fun K' hK' => ?_
        repeat (refine sxf_next fun K2 hK2 => ?_; simp [dNum, dS, binS_eq, dNil]; (repeat (refine ⟨by omega, ?_⟩)); refine hK2 _ ?_; clear hK2 K2)
        refine sxf_nil (hK' _ ?_)
        refine AW.st (by simp [dNum, dS, binS_eq, dNil]; rfl) ?_
        clear hK' K'
        refine AW_cond true rfl (fun _ => ?_) (fun h => by cases h)
        refine AW_rg (tyOf_good _) [6] [] (fun _ _ => trivial) fun K' hK' => ?_
        repeat (refine sxf_next fun K2 hK2 => ?_; simp [dNum, dS, binS_eq, dNil]; (repeat (refine ⟨by omega, ?_⟩)); refine hK2 _ ?_; clear hK2 K2)
        refine sxf_next fun K2 hK2 => ?_
        simp [dNum, dS, binS_eq, dNil]
        refine callK.data (hi) (by simp; rfl) (by first | exact D.leGo_refl _ | simp [takeMap, List.map_map, Function.comp_def, D.le, D.le.go, D.le_refl, D.leGo_refl, dNum, dS, binS_eq, dNil]) ?_
        refine hK2 _ ?_
        clear hK2 K2
        simp only [putd, upd_lst]
        repeat (refine sxf_next fun K2 hK2 => ?_; simp [dNum, dS, binS_eq, dNil]; (repeat (refine ⟨by omega, ?_⟩)); refine hK2 _ ?_; clear hK2 K2)
        refine sxf_next fun K2 hK2 => ?_
        simp [dNum, dS, binS_eq, dNil]
        refine callK.data (hw) (by simp; rfl) (by first | exact D.leGo_refl _ | simp [takeMap, List.map_map, Function.comp_def, D.le, D.le.go, D.le_refl, D.leGo_refl, dNum, dS, binS_eq, dNil]) ?_
        refine hK2 _ ?_
        clear hK2 K2
        simp only [putd, upd_lst]
        repeat (refine sxf_next fun K2 hK2 => ?_; simp [dNum, dS, binS_eq, dNil]; (repeat (refine ⟨by omega, ?_⟩)); refine hK2 _ ?_; clear hK2 K2)
        refine sxf_nil (hK' _ ?_)
        refine AW.st (by simp [dNum, dS, binS_eq, dNil]; rfl) ?_
        clear hK' K'
        refine AW_ret ?_
        simp [D.le, D.le.go, takeMap, dNum, dS, binS_eq, dNil]
    | not x =>
      have hc := ih x (by simp at hsz; omega) (by rwa [AskE] at hask) (by simpa [WfE] using hwf) (by simp only [bE] at hb; omega)
      rw [dR, evE]
      rw [dR_form x] at hc ⊢
      refine PureC.of_body (tyOf_good _) Tryz.func40 rfl rfl (rs := [.tmp 6]) Tryz.results40 (by simp [Tryz.ntmps40]) fun X => ?_
      simp only [Tryz.ntmps40, List.map]
      refine AW_rg (tyOf_good _) [0, 1, 2] [] (fun _ _ => trivial) fun K' hK' => ?_
      repeat (refine sxf_next fun K2 hK2 => ?_; simp [dNum, dS, binS_eq, dNil]; (repeat (refine ⟨by omega, ?_⟩)); refine hK2 _ ?_; clear hK2 K2)
      refine sxf_nil (hK' _ ?_)
      refine AW.st (by simp [dNum, dS, binS_eq, dNil]; rfl) ?_
      clear hK' K'
      refine AW_then fun K1 hK1 => ?_
      refine AW_rg (tyOf_good _) [0, 1, 2, 13] [] (fun _ _ => trivial) fun K' hK' => ?_
      repeat (refine sxf_next fun K2 hK2 => ?_; simp [dNum, dS, binS_eq, dNil]; (repeat (refine ⟨by omega, ?_⟩)); refine hK2 _ ?_; clear hK2 K2)
      refine sxf_nil (hK' _ ?_)
      refine AW.st (by simp [dNum, dS, binS_eq, dNil]; rfl) ?_
      clear hK' K'
      refine AW_block ?_
      refine AW_rg (tyOf_good _) [0, 1, 2, 13, 14] [] (fun _ _ => trivial) fun K' hK' => ?_
      repeat (refine sxf_next fun K2 hK2 => ?_; simp [dNum, dS, binS_eq, dNil]; (repeat (refine ⟨by omega, ?_⟩)); refine hK2 _ ?_; clear hK2 K2)
      refine sxf_nil (hK' _ ?_)
      refine AW.st (by simp [dNum, dS, binS_eq, dNil]; rfl) ?_
      clear hK' K'
      refine AW_cond false rfl (fun h => by cases h) (fun _ => ?_)
      refine AW_rg (tyOf_good _) [0, 1, 2, 13, 16] [] (fun _ _ => trivial) fun K' hK' => ?_
      repeat (refine sxf_next fun K2 hK2 => ?_; simp [dNum, dS, binS_eq, dNil]; (repeat (refine ⟨by omega, ?_⟩)); refine hK2 _ ?_; clear hK2 K2)
      refine sxf_nil (hK' _ ?_)
      refine AW.st (by simp [dNum, dS, binS_eq, dNil]; rfl) ?_
      clear hK' K'
      refine AW_cond false rfl (fun h => by cases h) (fun _ => ?_)
      refine AW_rg (tyOf_good _) [0, 1, 2, 13, 24] [] (fun _ _ => trivial) fun K' hK' => ?_
      repeat (refine sxf_next fun K2 hK2 => ?_; simp [dNum, dS, binS_eq, dNil]; (repeat (refine ⟨by omega, ?_⟩)); refine hK2 _ ?_; clear hK2 K2)
      refine sxf_nil (hK' _ ?_)
      refine AW.st (by simp [dNum, dS, binS_eq, dNil]; rfl) ?_
      clear hK' K'
      refine AW_cond false rfl (fun h => by cases h) (fun _ => ?_)
      refine AW_rg (tyOf_good _) [0, 1, 2, 13, 41] [] (fun _ _ => trivial) fun K' hK' => ?_
      repeat (refine sxf_next fun K2 hK2 => ?_; simp [dNum, dS, binS_eq, dNil]; (repeat (refine ⟨by omega, ?_⟩)); refine hK2 _ ?_; clear hK2 K2)
      refine sxf_nil (hK' _ ?_)
      refine AW.st (by simp [dNum, dS, binS_eq, dNil]; rfl) ?_
      clear hK' K'
      refine AW_cond false rfl (fun h => by cases h) (fun _ => ?_)
      refine AW_rg (tyOf_good _) [0, 1, 2, 13, 58] [] (fun _ _ => trivial) fun K' hK' => ?_
      repeat (refine sxf_next fun K2 hK2 => ?_; simp [dNum, dS, binS_eq, dNil]; (repeat (refine ⟨by omega, ?_⟩)); refine hK2 _ ?_; clear hK2 K2)
      refine sxf_nil (hK' _ ?_)
      refine AW.st (by simp [dNum, dS, binS_eq, dNil]; rfl) ?_
      clear hK' K'
      refine AW_cond true rfl (fun _ => ?_) (fun h => by cases h)
      refine AW_rg (tyOf_good _) [6] [] (fun _ _ => trivial) fun K' hK' => ?_
      repeat (refine sxf_next fun K2 hK2 => ?_; simp [dNum, dS, binS_eq, dNil]; (repeat (refine ⟨by omega, ?_⟩)); refine hK2 _ ?_; clear hK2 K2)
      refine sxf_next fun K2 hK2 => ?_
      simp [dNum, dS, binS_eq, dNil]
      refine callK.data (hc) (by simp; rfl) (by first | exact D.leGo_refl _ | simp [takeMap, List.map_map, Function.comp_def, D.le, D.le.go, D.le_refl, D.leGo_refl, dNum, dS, binS_eq, dNil]) ?_
      refine hK2 _ ?_
      clear hK2 K2
      simp only [putd, upd_lst]
      repeat (refine sxf_next fun K2 hK2 => ?_; simp [dNum, dS, binS_eq, dNil]; (repeat (refine ⟨by omega, ?_⟩)); refine hK2 _ ?_; clear hK2 K2)
      refine sxf_nil (hK' _ ?_)
      refine AW.st (by simp [dNum, dS, binS_eq, dNil]; rfl) ?_
      clear hK' K'
      refine AW_ret ?_
      simp [D.le, D.le.go, takeMap, dNum, dS, binS_eq, dNil]
    | and l =>
      have hln := bEs_len l
      simp only [bE] at hb
      have hwl : 2 ≤ l.length ∧ ∀ x ∈ l, WfE x := by rw [WfE] at hwf; exact ⟨hwf.1, (WfEs_iff l).1 hwf.2⟩
      have hch : ∀ x ∈ l, PureC Tryz.prog G 40 [dR x, .fn (.func g1) c1, .fn (.func g2) c2] (.v (.bool (evE is was x))) := fun x hx => by
        have h5 := List.sizeOf_lt_of_mem hx
        exact ih x (by simp only [Ex.and.sizeOf_spec] at hsz; omega) (by rw [AskE, AskL_iff] at hask; exact hask x hx) (hwl.2 x hx) (by have := bEs_mem hx; omega)
      have hcnt := cntE_and is was l
      rw [evE, ← hcnt]
      rw [dR, dRs_map]
      clear hcnt
      refine PureC.of_body (tyOf_good _) Tryz.func40 rfl rfl (rs := [.tmp 6]) Tryz.results40 (by simp [Tryz.ntmps40]) fun X => ?_
      simp only [Tryz.ntmps40, List.map]
      refine AW_rg (tyOf_good _) [0, 1, 2] [] (fun _ _ => trivial) fun K' hK' => ?_
      repeat (refine sxf_next fun K2 hK2 => ?_; simp [dNum, dS, binS_eq, dNil]; (repeat (refine ⟨by omega, ?_⟩)); refine hK2 _ ?_; clear hK2 K2)
      refine sxf_nil (hK' _ ?_)
      refine AW.st (by simp [dNum, dS, binS_eq, dNil]; rfl) ?_
      clear hK' K'
      refine AW_then fun K1 hK1 => ?_
      refine AW_rg (tyOf_good _) [0, 1, 2, 13] [] (fun _ _ => trivial) fun K' hK' => ?_
      repeat (refine sxf_next fun K2 hK2 => ?_; simp [dNum, dS, binS_eq, dNil]; (repeat (refine ⟨by omega, ?_⟩)); refine hK2 _ ?_; clear hK2 K2)
      refine sxf_nil (hK' _ ?_)
      refine AW.st (by simp [dNum, dS, binS_eq, dNil]; rfl) ?_
      clear hK' K'
      refine AW_block ?_
      refine AW_rg (tyOf_good _) [0, 1, 2, 13, 14] [] (fun _ _ => trivial) fun K' hK' => ?_
      repeat (refine sxf_next fun K2 hK2 => ?_; simp [dNum, dS, binS_eq, dNil]; (repeat (refine ⟨by omega, ?_⟩)); refine hK2 _ ?_; clear hK2 K2)
      refine sxf_nil (hK' _ ?_)
      refine AW.st (by simp [dNum, dS, binS_eq, dNil]; rfl) ?_
      clear hK' K'
      refine AW_cond false rfl (fun h => by cases h) (fun _ => ?_)
      refine AW_rg (tyOf_good _) [0, 1, 2, 13, 16] [] (fun _ _ => trivial) fun K' hK' => ?_
      repeat (refine sxf_next fun K2 hK2 => ?_; simp [dNum, dS, binS_eq, dNil]; (repeat (refine ⟨by omega, ?_⟩)); refine hK2 _ ?_; clear hK2 K2)
      refine sxf_nil (hK' _ ?_)
      refine AW.st (by simp [dNum, dS, binS_eq, dNil]; rfl) ?_
      clear hK' K'
      refine AW_cond false rfl (fun h => by cases h) (fun _ => ?_)
      refine AW_rg (tyOf_good _) [0, 1, 2, 13, 24] [] (fun _ _ => trivial) fun K' hK' => ?_
      repeat (refine sxf_next fun K2 hK2 => ?_; simp [dNum, dS, binS_eq, dNil]; (repeat (refine ⟨by omega, ?_⟩)); refine hK2 _ ?_; clear hK2 K2)
      refine sxf_nil (hK' _ ?_)
      refine AW.st (by simp [dNum, dS, binS_eq, dNil]; rfl) ?_
      clear hK' K'
      refine AW_cond false rfl (fun h => by cases h) (fun _ => ?_)
      refine AW_rg (tyOf_good _) [0, 1, 2, 13, 41] [] (fun _ _ => trivial) fun K' hK' => ?_
      repeat (refine sxf_next fun K2 hK2 => ?_; simp [dNum, dS, binS_eq, dNil]; (repeat (refine ⟨by omega, ?_⟩)); refine hK2 _ ?_; clear hK2 K2)
      refine sxf_nil (hK' _ ?_)
      refine AW.st (by simp [dNum, dS, binS_eq, dNil]; rfl) ?_
      clear hK' K'
      refine AW_cond false rfl (fun h => by cases h) (fun _ => ?_)
      refine AW_rg (tyOf_good _) [0, 1, 2, 13, 58] [] (fun _ _ => trivial) fun K' hK' => ?_
      repeat (refine sxf_next fun K2 hK2 => ?_; simp [dNum, dS, binS_eq, dNil]; (repeat (refine ⟨by omega, ?_⟩)); refine hK2 _ ?_; clear hK2 K2)
      refine sxf_nil (hK' _ ?_)
      refine AW.st (by simp [dNum, dS, binS_eq, dNil]; rfl) ?_
      clear hK' K'
      refine AW_cond false rfl (fun h => by cases h) (fun _ => ?_)
      refine AW_then fun K2 hK2 => ?_
      refine AW_rg (tyOf_good _) [0, 1, 2, 13, 70] [] (fun _ _ => trivial) fun K' hK' => ?_
      repeat (refine sxf_next fun K2 hK2 => ?_; simp [dNum, dS, binS_eq, dNil]; (repeat (refine ⟨by omega, ?_⟩)); refine hK2 _ ?_; clear hK2 K2)
      refine sxf_nil (hK' _ ?_)
      refine AW.st (by simp [dNum, dS, binS_eq, dNil]; rfl) ?_
      clear hK' K'
      refine AW_cond true rfl (fun _ => ?_) (fun h => by cases h)
      refine AW_skip (hK2 _ ?_)
      refine AW_cond true rfl (fun _ => ?_) (fun h => by cases h)
      refine AW_rg (tyOf_good _) [0, 1, 2, 7] [] (fun _ _ => trivial) fun K' hK' => ?_
      repeat (refine sxf_next fun K2 hK2 => ?_; simp [dNum, dS, binS_eq, dNil]; (repeat (refine ⟨by omega, ?_⟩)); refine hK2 _ ?_; clear hK2 K2)
      refine sxf_nil (hK' _ ?_)
      refine AW.st (by simp [dNum, dS, binS_eq, dNil]; rfl) ?_
      clear hK' K'
      refine AW_then fun K3 hK3 => ?_
      refine AW_rg (tyOf_good _) [0, 1, 2, 7, 76, 77, 78] [] (fun _ _ => trivial) fun K' hK' => ?_
      repeat (refine sxf_next fun K2 hK2 => ?_; simp [dNum, dS, binS_eq, dNil]; (repeat (refine ⟨by omega, ?_⟩)); refine hK2 _ ?_; clear hK2 K2)
      refine sxf_nil (hK' _ ?_)
      refine AW.st (by simp [dNum, dS, binS_eq, dNil]; rfl) ?_
      clear hK' K'
      refine AW_for (S := Nat) (fun i => i ≤ l.length) (fun i => ⟨lst [(0, .d (.ip [dS [38], dS [], .sl none (l.map fun e => [dR e])])), (1, .d (.fn (.func g1) c1)), (2, .d (.fn (.func g2) c2)), (7, int (cntE is was (l.take i) : Nat)), (76, .d (.sl none (l.map fun e => [dR e]))), (77, int l.length), (78, int i)], hlst []⟩) (fun i => l.length - i) 0 ?_ (by omega) ?_
      · refine Imp.to' (fun _ _ => trivial) (by simp [dNum, dS, binS_eq, dNil, cntE]) (by simp [dNum, dS, binS_eq, dNil, cntE])
      · intro i hi
        have hcl := cntE_le is was (l.take i)
        rw [List.length_take] at hcl
        refine AW_rg (tyOf_good _) [0, 1, 2, 7, 76, 77, 78, 79] [] (fun _ _ => trivial) fun K' hK' => ?_
        repeat (refine sxf_next fun K2 hK2 => ?_; simp [dNum, dS, binS_eq, dNil]; (repeat (refine ⟨by omega, ?_⟩)); refine hK2 _ ?_; clear hK2 K2)
        refine sxf_nil (hK' _ ?_)
        refine AW.st (by simp [dNum, dS, binS_eq, dNil]; rfl) ?_
        clear hK' K'
        refine AW_then fun K4 hK4 => ?_
        refine AW_cond' (b := i < l.length) (by simp [D.le, D.le.go, takeMap, dNum, dS, binS_eq, dNil]) (fun hc => ?_) (fun hc => ?_)
        · have hil : i < l.length := hc
          have hcc := hch _ (List.getElem_mem hil)
          have htk := cntE_take is was hil
          have hf := dR_form l[i]
          rw [hf] at hcc
          refine AW_skip (hK4 _ ?_)
          refine AW_then fun K5 hK5 => ?_
          refine AW_block ?_
          refine AW_rg (tyOf_good _) [0, 1, 2, 7, 9, 76, 77, 78] [] (fun _ _ => trivial) fun K' hK' => ?_
          repeat (refine sxf_next fun K2 hK2 => ?_; simp [dNum, dS, binS_eq, dNil, hil, hf]; (repeat (refine ⟨by omega, ?_⟩)); refine hK2 _ ?_; clear hK2 K2)
          refine sxf_nil (hK' _ ?_)
          refine AW.st (by simp [dNum, dS, binS_eq, dNil, hil, hf]; rfl) ?_
          clear hK' K'
          refine AW_rg (tyOf_good _) [0, 1, 2, 7, 76, 77, 78, 85] [] (fun _ _ => trivial) fun K' hK' => ?_
          repeat (refine sxf_next fun K2 hK2 => ?_; simp [dNum, dS, binS_eq, dNil]; (repeat (refine ⟨by omega, ?_⟩)); refine hK2 _ ?_; clear hK2 K2)
          refine sxf_next fun K2 hK2 => ?_
          simp [dNum, dS, binS_eq, dNil]
          refine callK.data (hcc) (by simp; rfl) (by first | exact D.leGo_refl _ | simp [takeMap, List.map_map, Function.comp_def, D.le, D.le.go, D.le_refl, D.leGo_refl, dNum, dS, binS_eq, dNil]) ?_
          refine hK2 _ ?_
          clear hK2 K2
          simp only [putd, upd_lst]
          repeat (refine sxf_next fun K2 hK2 => ?_; simp [dNum, dS, binS_eq, dNil]; (repeat (refine ⟨by omega, ?_⟩)); refine hK2 _ ?_; clear hK2 K2)
          refine sxf_nil (hK' _ ?_)
          refine AW.st (by simp [dNum, dS, binS_eq, dNil]; rfl) ?_
          clear hK' K'
          cases hv : evE is was l[i] with
          | true =>
            rw [hv] at htk
            refine AW_cond true (by simp [hv]) (fun _ => ?_) (fun h => by cases h)
            refine AW_re (tyOf_good _) fun K' hK' => ?_
            repeat (refine sxf_next fun K2 hK2 => ?_; simp [dNum, dS, binS_eq, dNil]; (repeat (refine ⟨by omega, ?_⟩)); refine hK2 _ ?_; clear hK2 K2)
            refine sxf_nil (hK' _ ?_)
            clear hK' K'
            refine hK5 _ (AW.norm [0, 1, 2, 7, 76, 77, 78] [] (fun _ _ => trivial) (AW.st (by simp [dNum, dS, binS_eq, dNil]; rfl) ?_))
            refine AW_re (tyOf_good _) fun K' hK' => ?_
            repeat (refine sxf_next fun K2 hK2 => ?_; simp [dNum, dS, binS_eq, dNil]; (repeat (refine ⟨by omega, ?_⟩)); refine hK2 _ ?_; clear hK2 K2)
            refine sxf_nil (hK' _ ?_)
            clear hK' K'
            try simp only [thn, inb]
            refine Again.mk (i + 1) (by omega) (by omega) ?_
            refine Imp.to' (fun _ _ => trivial) (by simp [dNum, dS, binS_eq, dNil, htk]) (by simp [dNum, dS, binS_eq, dNil, htk])
          | false =>
            rw [hv] at htk
            refine AW_cond false (by simp [hv]) (fun h => by cases h) (fun _ => ?_)
            refine AW_skip (hK5 _ ?_)
            refine AW_re (tyOf_good _) fun K' hK' => ?_
            repeat (refine sxf_next fun K2 hK2 => ?_; simp [dNum, dS, binS_eq, dNil]; (repeat (refine ⟨by omega, ?_⟩)); refine hK2 _ ?_; clear hK2 K2)
            refine sxf_nil (hK' _ ?_)
            clear hK' K'
            try simp only [thn, inb]
            refine Again.mk (i + 1) (by omega) (by omega) ?_
            refine Imp.to' (fun _ _ => trivial) (by simp [dNum, dS, binS_eq, dNil, htk]) (by simp [dNum, dS, binS_eq, dNil, htk])
        · obtain rfl : i = l.length := by omega
          refine AW_exit (hK3 _ ?_)
          rw [List.take_length] at hcl ⊢
          refine AW_rg (tyOf_good _) [6] [] (fun _ _ => trivial) fun K' hK' => ?_
          repeat (refine sxf_next fun K2 hK2 => ?_; simp [dNum, dS, binS_eq, dNil]; (repeat (refine ⟨by omega, ?_⟩)); refine hK2 _ ?_; clear hK2 K2)
          refine sxf_nil (hK' _ ?_)
          refine AW.st (by simp [dNum, dS, binS_eq, dNil]; rfl) ?_
          clear hK' K'
          refine AW_ret ?_
          simp [D.le, D.le.go, takeMap, dNum, dS, binS_eq, dNil]
    | or l =>
      have hln := bEs_len l
      simp only [bE] at hb
      have hwl : 2 ≤ l.length ∧ ∀ x ∈ l, WfE x := by rw [WfE] at hwf; exact ⟨hwf.1, (WfEs_iff l).1 hwf.2⟩
      have hch : ∀ x ∈ l, PureC Tryz.prog G 40 [dR x, .fn (.func g1) c1, .fn (.func g2) c2] (.v (.bool (evE is was x))) := fun x hx => by
        have h5 := List.sizeOf_lt_of_mem hx
        exact ih x (by simp only [Ex.or.sizeOf_spec] at hsz; omega) (by rw [AskE, AskL_iff] at hask; exact hask x hx) (hwl.2 x hx) (by have := bEs_mem hx; omega)
      have hcnt := cntE_or is was l
      rw [evE, ← hcnt]
      rw [dR, dRs_map]
      clear hcnt
      refine PureC.of_body (tyOf_good _) Tryz.func40 rfl rfl (rs := [.tmp 6]) Tryz.results40 (by simp [Tryz.ntmps40]) fun X => ?_
      simp only [Tryz.ntmps40, List.map]
      refine AW_rg (tyOf_good _) [0, 1, 2] [] (fun _ _ => trivial) fun K' hK' => ?_
      repeat (refine sxf_next fun K2 hK2 => ?_; simp [dNum, dS, binS_eq, dNil]; (repeat (refine ⟨by omega, ?_⟩)); refine hK2 _ ?_; clear hK2 K2)
      refine sxf_nil (hK' _ ?_)
      refine AW.st (by simp [dNum, dS, binS_eq, dNil]; rfl) ?_
      clear hK' K'
      refine AW_then fun K1 hK1 => ?_
      refine AW_rg (tyOf_good _) [0, 1, 2, 13] [] (fun _ _ => trivial) fun K' hK' => ?_
      repeat (refine sxf_next fun K2 hK2 => ?_; simp [dNum, dS, binS_eq, dNil]; (repeat (refine ⟨by omega, ?_⟩)); refine hK2 _ ?_; clear hK2 K2)
      refine sxf_nil (hK' _ ?_)
      refine AW.st (by simp [dNum, dS, binS_eq, dNil]; rfl) ?_
      clear hK' K'
      refine AW_block ?_
      refine AW_rg (tyOf_good _) [0, 1, 2, 13, 14] [] (fun _ _ => trivial) fun K' hK' => ?_
      repeat (refine sxf_next fun K2 hK2 => ?_; simp [dNum, dS, binS_eq, dNil]; (repeat (refine ⟨by omega, ?_⟩)); refine hK2 _ ?_; clear hK2 K2)
      refine sxf_nil (hK' _ ?_)
      refine AW.st (by simp [dNum, dS, binS_eq, dNil]; rfl) ?_
      clear hK' K'
      refine AW_cond false rfl (fun h => by cases h) (fun _ => ?_)
      refine AW_rg (tyOf_good _) [0, 1, 2, 13, 16] [] (fun _ _ => trivial) fun K' hK' => ?_
      repeat (refine sxf_next fun K2 hK2 => ?_; simp [dNum, dS, binS_eq, dNil]; (repeat (refine ⟨by omega, ?_⟩)); refine hK2 _ ?_; clear hK2 K2)
      refine sxf_nil (hK' _ ?_)
      refine AW.st (by simp [dNum, dS, binS_eq, dNil]; rfl) ?_
      clear hK' K'
      refine AW_cond false rfl (fun h => by cases h) (fun _ => ?_)
      refine AW_rg (tyOf_good _) [0, 1, 2, 13, 24] [] (fun _ _ => trivial) fun K' hK' => ?_
      repeat (refine sxf_next fun K2 hK2 => ?_; simp [dNum, dS, binS_eq, dNil]; (repeat (refine ⟨by omega, ?_⟩)); refine hK2 _ ?_; clear hK2 K2)
      refine sxf_nil (hK' _ ?_)
      refine AW.st (by simp [dNum, dS, binS_eq, dNil]; rfl) ?_
      clear hK' K'
      refine AW_cond false rfl (fun h => by cases h) (fun _ => ?_)
      refine AW_rg (tyOf_good _) [0, 1, 2, 13, 41] [] (fun _ _ => trivial) fun K' hK' => ?_
      repeat (refine sxf_next fun K2 hK2 => ?_; simp [dNum, dS, binS_eq, dNil]; (repeat (refine ⟨by omega, ?_⟩)); refine hK2 _ ?_; clear hK2 K2)
      refine sxf_nil (hK' _ ?_)
      refine AW.st (by simp [dNum, dS, binS_eq, dNil]; rfl) ?_
      clear hK' K'
      refine AW_cond false rfl (fun h => by cases h) (fun _ => ?_)
      refine AW_rg (tyOf_good _) [0, 1, 2, 13, 58] [] (fun _ _ => trivial) fun K' hK' => ?_
      repeat (refine sxf_next fun K2 hK2 => ?_; simp [dNum, dS, binS_eq, dNil]; (repeat (refine ⟨by omega, ?_⟩)); refine hK2 _ ?_; clear hK2 K2)
      refine sxf_nil (hK' _ ?_)
      refine AW.st (by simp [dNum, dS, binS_eq, dNil]; rfl) ?_
      clear hK' K'
      refine AW_cond false rfl (fun h => by cases h) (fun _ => ?_)
      refine AW_then fun K2 hK2 => ?_
      refine AW_rg (tyOf_good _) [0, 1, 2, 13, 70] [] (fun _ _ => trivial) fun K' hK' => ?_
      repeat (refine sxf_next fun K2 hK2 => ?_; simp [dNum, dS, binS_eq, dNil]; (repeat (refine ⟨by omega, ?_⟩)); refine hK2 _ ?_; clear hK2 K2)
      refine sxf_nil (hK' _ ?_)
      refine AW.st (by simp [dNum, dS, binS_eq, dNil]; rfl) ?_
      clear hK' K'
      refine AW_cond false rfl (fun h => by cases h) (fun _ => ?_)
      refine AW_re (tyOf_good _) fun K' hK' => ?_
      repeat (refine sxf_next fun K2 hK2 => ?_; simp [dNum, dS, binS_eq, dNil]; (repeat (refine ⟨by omega, ?_⟩)); refine hK2 _ ?_; clear hK2 K2)
      refine sxf_nil (hK' _ ?_)
      clear hK' K'
      refine hK2 _ (AW.norm [0, 1, 2, 70] [] (fun _ _ => trivial) (AW.st (by simp [dNum, dS, binS_eq, dNil]; rfl) ?_))
      refine AW_cond true rfl (fun _ => ?_) (fun h => by cases h)
      refine AW_rg (tyOf_good _) [0, 1, 2, 7] [] (fun _ _ => trivial) fun K' hK' => ?_
      repeat (refine sxf_next fun K2 hK2 => ?_; simp [dNum, dS, binS_eq, dNil]; (repeat (refine ⟨by omega, ?_⟩)); refine hK2 _ ?_; clear hK2 K2)
      refine sxf_nil (hK' _ ?_)
      refine AW.st (by simp [dNum, dS, binS_eq, dNil]; rfl) ?_
      clear hK' K'
      refine AW_then fun K3 hK3 => ?_
      refine AW_rg (tyOf_good _) [0, 1, 2, 7, 76, 77, 78] [] (fun _ _ => trivial) fun K' hK' => ?_
      repeat (refine sxf_next fun K2 hK2 => ?_; simp [dNum, dS, binS_eq, dNil]; (repeat (refine ⟨by omega, ?_⟩)); refine hK2 _ ?_; clear hK2 K2)
      refine sxf_nil (hK' _ ?_)
      refine AW.st (by simp [dNum, dS, binS_eq, dNil]; rfl) ?_
      clear hK' K'
      refine AW_for (S := Nat) (fun i => i ≤ l.length) (fun i => ⟨lst [(0, .d (.ip [dS [124], dS [], .sl none (l.map fun e => [dR e])])), (1, .d (.fn (.func g1) c1)), (2, .d (.fn (.func g2) c2)), (7, int (cntE is was (l.take i) : Nat)), (76, .d (.sl none (l.map fun e => [dR e]))), (77, int l.length), (78, int i)], hlst []⟩) (fun i => l.length - i) 0 ?_ (by omega) ?_
      · refine Imp.to' (fun _ _ => trivial) (by simp [dNum, dS, binS_eq, dNil, cntE]) (by simp [dNum, dS, binS_eq, dNil, cntE])
      · intro i hi
        have hcl := cntE_le is was (l.take i)
        rw [List.length_take] at hcl
        refine AW_rg (tyOf_good _) [0, 1, 2, 7, 76, 77, 78, 79] [] (fun _ _ => trivial) fun K' hK' => ?_
        repeat (refine sxf_next fun K2 hK2 => ?_; simp [dNum, dS, binS_eq, dNil]; (repeat (refine ⟨by omega, ?_⟩)); refine hK2 _ ?_; clear hK2 K2)
        refine sxf_nil (hK' _ ?_)
        refine AW.st (by simp [dNum, dS, binS_eq, dNil]; rfl) ?_
        clear hK' K'
        refine AW_then fun K4 hK4 => ?_
        refine AW_cond' (b := i < l.length) (by simp [D.le, D.le.go, takeMap, dNum, dS, binS_eq, dNil]) (fun hc => ?_) (fun hc => ?_)
        · have hil : i < l.length := hc
          have hcc := hch _ (List.getElem_mem hil)
          have htk := cntE_take is was hil
          have hf := dR_form l[i]
          rw [hf] at hcc
          refine AW_skip (hK4 _ ?_)
          refine AW_then fun K5 hK5 => ?_
          refine AW_block ?_
          refine AW_rg (tyOf_good _) [0, 1, 2, 7, 9, 76, 77, 78] [] (fun _ _ => trivial) fun K' hK' => ?_
          repeat (refine sxf_next fun K2 hK2 => ?_; simp [dNum, dS, binS_eq, dNil, hil, hf]; (repeat (refine ⟨by omega, ?_⟩)); refine hK2 _ ?_; clear hK2 K2)
          refine sxf_nil (hK' _ ?_)
          refine AW.st (by simp [dNum, dS, binS_eq, dNil, hil, hf]; rfl) ?_
          clear hK' K'
          refine AW_rg (tyOf_good _) [0, 1, 2, 7, 76, 77, 78, 85] [] (fun _ _ => trivial) fun K' hK' => ?_
          repeat (refine sxf_next fun K2 hK2 => ?_; simp [dNum, dS, binS_eq, dNil]; (repeat (refine ⟨by omega, ?_⟩)); refine hK2 _ ?_; clear hK2 K2)
          refine sxf_next fun K2 hK2 => ?_
          simp [dNum, dS, binS_eq, dNil]
          refine callK.data (hcc) (by simp; rfl) (by first | exact D.leGo_refl _ | simp [takeMap, List.map_map, Function.comp_def, D.le, D.le.go, D.le_refl, D.leGo_refl, dNum, dS, binS_eq, dNil]) ?_
          refine hK2 _ ?_
          clear hK2 K2
          simp only [putd, upd_lst]
          repeat (refine sxf_next fun K2 hK2 => ?_; simp [dNum, dS, binS_eq, dNil]; (repeat (refine ⟨by omega, ?_⟩)); refine hK2 _ ?_; clear hK2 K2)
          refine sxf_nil (hK' _ ?_)
          refine AW.st (by simp [dNum, dS, binS_eq, dNil]; rfl) ?_
          clear hK' K'
          cases hv : evE is was l[i] with
          | true =>
            rw [hv] at htk
            refine AW_cond true (by simp [hv]) (fun _ => ?_) (fun h => by cases h)
            refine AW_re (tyOf_good _) fun K' hK' => ?_
            repeat (refine sxf_next fun K2 hK2 => ?_; simp [dNum, dS, binS_eq, dNil]; (repeat (refine ⟨by omega, ?_⟩)); refine hK2 _ ?_; clear hK2 K2)
            refine sxf_nil (hK' _ ?_)
            clear hK' K'
            refine hK5 _ (AW.norm [0, 1, 2, 7, 76, 77, 78] [] (fun _ _ => trivial) (AW.st (by simp [dNum, dS, binS_eq, dNil]; rfl) ?_))
            refine AW_re (tyOf_good _) fun K' hK' => ?_
            repeat (refine sxf_next fun K2 hK2 => ?_; simp [dNum, dS, binS_eq, dNil]; (repeat (refine ⟨by omega, ?_⟩)); refine hK2 _ ?_; clear hK2 K2)
            refine sxf_nil (hK' _ ?_)
            clear hK' K'
            try simp only [thn, inb]
            refine Again.mk (i + 1) (by omega) (by omega) ?_
            refine Imp.to' (fun _ _ => trivial) (by simp [dNum, dS, binS_eq, dNil, htk]) (by simp [dNum, dS, binS_eq, dNil, htk])
          | false =>
            rw [hv] at htk
            refine AW_cond false (by simp [hv]) (fun h => by cases h) (fun _ => ?_)
            refine AW_skip (hK5 _ ?_)
            refine AW_re (tyOf_good _) fun K' hK' => ?_
            repeat (refine sxf_next fun K2 hK2 => ?_; simp [dNum, dS, binS_eq, dNil]; (repeat (refine ⟨by omega, ?_⟩)); refine hK2 _ ?_; clear hK2 K2)
            refine sxf_nil (hK' _ ?_)
            clear hK' K'
            try simp only [thn, inb]
            refine Again.mk (i + 1) (by omega) (by omega) ?_
            refine Imp.to' (fun _ _ => trivial) (by simp [dNum, dS, binS_eq, dNil, htk]) (by simp [dNum, dS, binS_eq, dNil, htk])
        · obtain rfl : i = l.length := by omega
          refine AW_exit (hK3 _ ?_)
          rw [List.take_length] at hcl ⊢
          by_cases h0 : 0 < cntE is was l
          · refine AW_rg (tyOf_good _) [6] [] (fun _ _ => trivial) fun K' hK' => ?_
            repeat (refine sxf_next fun K2 hK2 => ?_; simp [dNum, dS, binS_eq, dNil, h0]; (repeat (refine ⟨by omega, ?_⟩)); refine hK2 _ ?_; clear hK2 K2)
            refine sxf_nil (hK' _ ?_)
            refine AW.st (by simp [dNum, dS, binS_eq, dNil, h0]; rfl) ?_
            clear hK' K'
            refine AW_ret ?_
            simp [D.le, D.le.go, takeMap, dNum, dS, binS_eq, dNil, h0]
          · have hz : cntE is was l = 0 := by omega
            have hne : ¬ l.length = 0 := by omega
            have hne2 : ¬ 0 = (l.length : Int) := by omega
            refine AW_rg (tyOf_good _) [6] [] (fun _ _ => trivial) fun K' hK' => ?_
            repeat (refine sxf_next fun K2 hK2 => ?_; simp [dNum, dS, binS_eq, dNil, h0, hz, hne, hne2]; (repeat (refine ⟨by omega, ?_⟩)); refine hK2 _ ?_; clear hK2 K2)
            refine sxf_nil (hK' _ ?_)
            refine AW.st (by simp [dNum, dS, binS_eq, dNil, h0, hz, hne, hne2]; rfl) ?_
            clear hK' K'
            refine AW_ret ?_
            simp [D.le, D.le.go, takeMap, dNum, dS, binS_eq, dNil, h0, hz, hne, hne2]
theorem reval_on (G : Glob) (g1 g2 : FuncId) (c1 c2 : List D) (is was : List UInt8 → Bool) (S1 S2 : List UInt8 → Prop) (h1 : TellsOn S1 G g1 c1 is) (h2 : TellsOn S2 G g2 c2 was) (e : Ex) (ha : AskE S1 S2 e) (hw : WfE e) (hb : bE e ≤ 2^28) : PureC Tryz.prog G 40 [dR e, .fn (.func g1) c1, .fn (.func g2) c2] (.v (.bool (evE is was e))) :=
  reval_at G g1 g2 c1 c2 is was S1 S2 h1 h2 _ e (Nat.le_refl _) ha hw hb
/-! ### The document's Size -/
def kidsR : Ex → List Ex
  | .not e => [e]
  | .and l => l
  | .or l => l
  | _ => []
def kR : Ex → Option Bool
  | .not _ => none
  | .and _ => none
  | .or _ => none
  | _ => some false
theorem ofR_form (e : Ex) : ofR e = .sl (kR e) ((kidsR e).map fun x => [dR x]) := by
  cases e <;> simp [ofR, kidsR, kR, dNil, dRs_map]
theorem bE_kids (e : Ex) : bEs (kidsR e) ≤ bE e := by cases e <;> simp [bE, kidsR, bEs] <;> omega
theorem sz_kids {e x : Ex} (h : x ∈ kidsR e) : SizeOf.sizeOf x < SizeOf.sizeOf e := by
  cases e with
  | not y => simp only [kidsR, List.mem_singleton] at h; subst h; simp
  | and l => simp only [kidsR] at h; have := List.sizeOf_lt_of_mem h; simp only [Ex.and.sizeOf_spec]; omega
  | or l => simp only [kidsR] at h; have := List.sizeOf_lt_of_mem h; simp only [Ex.or.sizeOf_spec]; omega
  | _ => simp [kidsR] at h

end Go.Proofs.YtagfbbnlbncjlaaGreatDoor
