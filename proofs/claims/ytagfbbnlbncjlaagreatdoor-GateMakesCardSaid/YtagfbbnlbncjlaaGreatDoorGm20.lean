/-
  Texts that belong together, in one file: A7, V8, C1, P12, PG, PG3, PG4, S1, S2, GA1, GA2, C2, GA3, RN, GA4, GA5, U1.
-/
import Derived.Test.YtagfbbnlbncjlaaGreatDoorGm19
/-
  ExprParse, and what ExprParses says.
-/
namespace Go.Proofs.YtagfbbnlbncjlaaGreatDoor
set_option linter.unusedSimpArgs false
set_option linter.unusedVariables false
open Go.Av

theorem renH_two2 {r r' s : Nat} (h : r ≠ r') (hs : s ≠ r') (hr : s ≠ r) (row row2 : Row) : renH r r' (hlst [(s, row2), (r, row)]) = hlst [(s, row2.tr (renO r r') (renF r r')), (r', row.tr (renO r r') (renF r r'))] := by
  funext q
  unfold renH
  by_cases h1 : q = r'
  · subst h1
    simp [hlst, List.lookup, beq_eq_false_iff_ne.2 (Ne.symm hs), beq_eq_false_iff_ne.2 (Ne.symm hr)]
  · rw [if_neg h1]
    by_cases h2 : q = r
    · subst h2
      simp [hlst, List.lookup, beq_eq_false_iff_ne.2 h1, beq_eq_false_iff_ne.2 (Ne.symm hr)]
    · by_cases h3 : q = s
      · subst h3
        simp [hlst, List.lookup, h2, beq_eq_false_iff_ne.2 h1, beq_eq_false_iff_ne.2 h2]
      · simp [hlst, List.lookup, h2, beq_eq_false_iff_ne.2 h1, beq_eq_false_iff_ne.2 h2, beq_eq_false_iff_ne.2 h3]
def dOR : Option Ex → D
  | some x => dR x
  | none => .v (.pointer none)
theorem whole_reads (G : Glob) (t : List UInt8) (ht : t.length ≤ 2000) : Reads G t [500] [] 66 [.ref 500 0 0, .d (dNum 0)] 20 (orR t (oneR t 20)) :=
  pwhole_spec G t ht 0 20 (piece_spec G t ht 20 0 (Nat.le_refl _) rfl)
theorem parse_pos {t : List UInt8} {c : Int} {p : Option Nat} (h : (parseM t).2 = some (c, p)) : 0 < c := by
  unfold parseM at h
  split at h
  · simp at h; omega
  · rename_i hl
    obtain ⟨yF, kF, hr⟩ := whole_reads (fun _ => none) t (by omega)
    split at h
    · rename_i c' p' q' he
      simp at h
      have := (hr 0 (Nat.zero_le _)).2 _ _ _ he
      omega
    · split at h
      · simp at h; omega
      · cases h
theorem parse_none {t : List UInt8} {e : Int × Option Nat} (h : (parseM t).2 = some e) : (parseM t).1 = none := by
  unfold parseM at h ⊢
  split at h
  · rw [if_pos ‹_›]
  · rw [if_neg ‹_›]
    split at h
    · rfl
    · split at h
      · rw [if_pos ‹_›]
      · cases h
theorem parse_some {t : List UInt8} (h : (parseM t).2 = none) : ∃ x, (parseM t).1 = some x := by
  unfold parseM at h ⊢
  split at h
  · cases h
  · rw [if_neg ‹_›]
    split at h
    · cases h
    · split at h
      · cases h
      · rw [if_neg ‹_›]
        exact ⟨_, rfl⟩

set_option maxHeartbeats 8000000 in
theorem rparse_spec (G : Glob) (hF : HasFine G) (t : List UInt8) (ht : t.length < 2^60) : PureC Tryz.prog G 30 [dS t] (.tup [dOR (parseM t).1, dFault (parseM t).2]) := by
  unfold parseM
  unfold HasFine at hF
  by_cases hl : 2000 < t.length
  · have hl' : (2000 : Int) < (t.length : Int) := by omega
    have hb := bare0_spec G 4
    rw [if_pos hl]
    refine PureC.of_body (tyOf_good _) Tryz.func30 rfl rfl (rs := [.tmp 2, .cell 3 73]) Tryz.results30 (by simp [Tryz.ntmps30]) fun X => ?_
    simp only [Tryz.ntmps30, List.map]
    refine AW_rg (tyOf_good _) [0, 3] [3] (fun _ _ => trivial) fun K' hK' => ?_
    repeat (refine sxf_next fun K2 hK2 => ?_; simp [dNum, pRow, dS]; (repeat (refine ⟨by omega, ?_⟩)); refine hK2 _ ?_; clear hK2 K2)
    refine sxf_nil (hK' _ ?_)
    refine AW.st (by simp [dNum, pRow, dS]; rfl) ?_
    clear hK' K'
    refine AW_then fun K1 hK1 => ?_
    refine AW_rg (tyOf_good _) [0, 3, 8] [3] (fun _ _ => trivial) fun K' hK' => ?_
    repeat (refine sxf_next fun K2 hK2 => ?_; simp [dNum, pRow, dS, bs_size, hl, hl']; (repeat (refine ⟨by omega, ?_⟩)); refine hK2 _ ?_; clear hK2 K2)
    refine sxf_nil (hK' _ ?_)
    refine AW.st (by simp [dNum, pRow, dS, bs_size, hl, hl']; rfl) ?_
    clear hK' K'
    refine AW_cond true rfl (fun _ => ?_) (fun h => by cases h)
    refine AW_rg (tyOf_good _) [2, 3] [3] (fun _ _ => trivial) fun K' hK' => ?_
    repeat (refine sxf_next fun K2 hK2 => ?_; simp [dNum, pRow, dS]; (repeat (refine ⟨by omega, ?_⟩)); refine hK2 _ ?_; clear hK2 K2)
    refine sxf_next fun K2 hK2 => ?_
    simp [dNum, pRow, dS]
    refine callK.data (hb) (by simp; rfl) (by first | exact D.leGo_refl _ | simp [takeMap, List.map_map, Function.comp_def, D.le, D.le.go, D.le_refl, D.leGo_refl, dNum, pRow, dS]) ?_
    refine hK2 _ ?_
    clear hK2 K2
    simp only [putd, upd_lst]
    repeat (refine sxf_next fun K2 hK2 => ?_; simp [dNum, pRow, dS]; (repeat (refine ⟨by omega, ?_⟩)); refine hK2 _ ?_; clear hK2 K2)
    refine sxf_nil (hK' _ ?_)
    refine AW.st (by simp [dNum, pRow, dS]; rfl) ?_
    clear hK' K'
    refine AW_ret ?_
    simp [D.le, D.le.go, takeMap, dNum, pRow, dS, dOR, dFault, codeF, placeF]
  have hl' : ¬ (2000 : Int) < (t.length : Int) := by omega
  rw [if_neg hl]
  obtain ⟨yF, kF, hr⟩ := whole_reads G t (by omega)
  have hc := (hr 0 (Nat.zero_le _)).1
  have he := (hr 0 (Nat.zero_le _)).2
  cases ho : orR t (oneR t 20) 0 with
  | err c p q =>
    rw [ho] at hc
    obtain ⟨h1, h2, h3⟩ := he _ _ _ ho
    have h0 : ¬ c = 0 := by omega
    generalize yF 0 = y at hc h2
    generalize kF 0 = k at hc h3
    refine PureC.of_body (tyOf_good _) Tryz.func30 rfl rfl (rs := [.tmp 2, .cell 3 73]) Tryz.results30 (by simp [Tryz.ntmps30]) fun X => ?_
    simp only [Tryz.ntmps30, List.map]
    refine AW_rg (tyOf_good _) [0, 3] [3] (fun _ _ => trivial) fun K' hK' => ?_
    repeat (refine sxf_next fun K2 hK2 => ?_; simp [dNum, pRow, dS]; (repeat (refine ⟨by omega, ?_⟩)); refine hK2 _ ?_; clear hK2 K2)
    refine sxf_nil (hK' _ ?_)
    refine AW.st (by simp [dNum, pRow, dS]; rfl) ?_
    clear hK' K'
    refine AW_then fun K1 hK1 => ?_
    refine AW_rg (tyOf_good _) [0, 3, 8] [3] (fun _ _ => trivial) fun K' hK' => ?_
    repeat (refine sxf_next fun K2 hK2 => ?_; simp [dNum, pRow, dS, bs_size, hl, hl']; (repeat (refine ⟨by omega, ?_⟩)); refine hK2 _ ?_; clear hK2 K2)
    refine sxf_nil (hK' _ ?_)
    refine AW.st (by simp [dNum, pRow, dS, bs_size, hl, hl']; rfl) ?_
    clear hK' K'
    refine AW_cond false rfl (fun h => by cases h) (fun _ => ?_)
    refine AW_skip (hK1 _ ?_)
    refine AW_rg (tyOf_good _) [0, 3, 4] [3, 13] (fun _ _ => trivial) fun K' hK' => ?_
    repeat (refine sxf_next fun K2 hK2 => ?_; simp [dNum, pRow, dS, hF]; (repeat (refine ⟨by omega, ?_⟩)); refine hK2 _ ?_; clear hK2 K2)
    refine sxf_nil (hK' _ ?_)
    refine AW.st (by simp [dNum, pRow, dS, hF]; rfl) ?_
    clear hK' K'
    refine AW.imp (Imp.ren (r := 13) (r' := 500) trivial (by simp)) ?_
    refine AW.st (by simp [renO, renF, Go.Av.ren, renH_two2]; rfl) ?_
    refine AW_rg (tyOf_good _) [0, 3, 4, 5] [3, 500] (fun _ _ => trivial) fun K' hK' => ?_
    repeat (refine sxf_next fun K2 hK2 => ?_; simp [dNum, pRow, dS, outD, outK, eR, pR]; (repeat (refine ⟨by omega, ?_⟩)); refine hK2 _ ?_; clear hK2 K2)
    refine sxf_next fun K2 hK2 => ?_
    simp [dNum, pRow, dS, outD, outK, eR, pR]
    refine callK.mc (hc) (by simp [dNum, pRow, dS, outD, outK, eR, pR]) (by simp [dNum, pRow, dS, outD, outK, eR, pR]) (by simp [dNum, pRow, dS, outD, outK, eR, pR]) (by simp [dNum, pRow, dS, outD, outK, eR, pR]) ?_
    simp [dNum, pRow, dS, outD, outK, eR, pR]
    refine hK2 _ ?_
    clear hK2 K2
    repeat (refine sxf_next fun K2 hK2 => ?_; simp [dNum, pRow, dS, outD, outK, eR, pR]; (repeat (refine ⟨by omega, ?_⟩)); refine hK2 _ ?_; clear hK2 K2)
    refine sxf_nil (hK' _ ?_)
    refine AW.st (by simp [dNum, pRow, dS, outD, outK, eR, pR]; rfl) ?_
    clear hK' K'
    refine AW_then fun K2 hK2 => ?_
    refine AW_rg (tyOf_good _) [3, 4, 5, 43] [3, 500] (fun _ _ => trivial) fun K' hK' => ?_
    repeat (refine sxf_next fun K2 hK2 => ?_; simp [dNum, pRow, dS, h0]; (repeat (refine ⟨by omega, ?_⟩)); refine hK2 _ ?_; clear hK2 K2)
    refine sxf_nil (hK' _ ?_)
    refine AW.st (by simp [dNum, pRow, dS, h0]; rfl) ?_
    clear hK' K'
    refine AW_cond false rfl (fun h => by cases h) (fun _ => ?_)
    refine AW_skip (hK2 _ ?_)
    refine AW_then fun K3 hK3 => ?_
    refine AW_rg (tyOf_good _) [3, 4, 5, 51] [3, 500] (fun _ _ => trivial) fun K' hK' => ?_
    repeat (refine sxf_next fun K2 hK2 => ?_; simp [dNum, pRow, dS, h0]; (repeat (refine ⟨by omega, ?_⟩)); refine hK2 _ ?_; clear hK2 K2)
    refine sxf_nil (hK' _ ?_)
    refine AW.st (by simp [dNum, pRow, dS, h0]; rfl) ?_
    clear hK' K'
    refine AW_cond true rfl (fun _ => ?_) (fun h => by cases h)
    refine AW_rdg (tyOf_good _) (by kernel_rfl) [(3, 500), (5, 3)] [2, 3] [3, 500] (fun _ _ => trivial) (by kernel_rfl) fun K' hK' => ?_
    repeat (refine sxg_next fun K2 hK2 => ?_; simp [dNum, pRow, dS]; (repeat (refine ⟨by omega, ?_⟩)); refine hK2 _ ?_; clear hK2 K2)
    refine sxg_nil (hK' _ ?_)
    refine AW.st (by simp [dNum, pRow, dS]; rfl) ?_
    clear hK' K'
    refine AW_ret ?_
    simp [D.le, D.le.go, takeMap, dNum, pRow, dS, dOR, dFault, codeF, placeF]
  | ok x k =>
    rw [ho] at hc
    dsimp only [outD, outK, eR, pR] at hc
    have hk := (or_goes (one_goes t 20) 0 x k (Nat.zero_le _) ho).2
    have hnx := pnext_spec G t k (by omega) hk 0 (-1)
    have hk2 := skipB_top hk
    have hfl := pfail_spec G t (skipB t k) (by omega) hk2 3
    rw [skipB_idem hk] at hfl
    have hnb : skipB t k < t.length ∨ nxB t k = 0 := by
      by_cases h : skipB t k < t.length
      · exact .inl h
      · exact .inr (by unfold nxB; rw [List.getD_eq_getElem?_getD, List.getElem?_eq_none (by omega)]; rfl)
    obtain ⟨cx, hx⟩ := dR_ip x
    dsimp only
    generalize skipB t k = j at hnx hk2 hfl hnb ⊢
    generalize nxB t k = b at hnx hnb
    by_cases hj : j < t.length
    · have hj' : (j : Int) < (t.length : Int) := by omega
      rw [if_pos hj]
      rw [hx] at hc
      by_cases hb : ((b.toNat : Int) = 0)
      · have hbn : b.toNat = 0 := by omega
        refine PureC.of_body (tyOf_good _) Tryz.func30 rfl rfl (rs := [.tmp 2, .cell 3 73]) Tryz.results30 (by simp [Tryz.ntmps30]) fun X => ?_
        simp only [Tryz.ntmps30, List.map]
        refine AW_rg (tyOf_good _) [0, 3] [3] (fun _ _ => trivial) fun K' hK' => ?_
        repeat (refine sxf_next fun K2 hK2 => ?_; simp [dNum, pRow, dS]; (repeat (refine ⟨by omega, ?_⟩)); refine hK2 _ ?_; clear hK2 K2)
        refine sxf_nil (hK' _ ?_)
        refine AW.st (by simp [dNum, pRow, dS]; rfl) ?_
        clear hK' K'
        refine AW_then fun K1 hK1 => ?_
        refine AW_rg (tyOf_good _) [0, 3, 8] [3] (fun _ _ => trivial) fun K' hK' => ?_
        repeat (refine sxf_next fun K2 hK2 => ?_; simp [dNum, pRow, dS, bs_size, hl, hl']; (repeat (refine ⟨by omega, ?_⟩)); refine hK2 _ ?_; clear hK2 K2)
        refine sxf_nil (hK' _ ?_)
        refine AW.st (by simp [dNum, pRow, dS, bs_size, hl, hl']; rfl) ?_
        clear hK' K'
        refine AW_cond false rfl (fun h => by cases h) (fun _ => ?_)
        refine AW_skip (hK1 _ ?_)
        refine AW_rg (tyOf_good _) [0, 3, 4] [3, 13] (fun _ _ => trivial) fun K' hK' => ?_
        repeat (refine sxf_next fun K2 hK2 => ?_; simp [dNum, pRow, dS, hF]; (repeat (refine ⟨by omega, ?_⟩)); refine hK2 _ ?_; clear hK2 K2)
        refine sxf_nil (hK' _ ?_)
        refine AW.st (by simp [dNum, pRow, dS, hF]; rfl) ?_
        clear hK' K'
        refine AW.imp (Imp.ren (r := 13) (r' := 500) trivial (by simp)) ?_
        refine AW.st (by simp [renO, renF, Go.Av.ren, renH_two2]; rfl) ?_
        refine AW_rg (tyOf_good _) [0, 3, 4, 5] [3, 500] (fun _ _ => trivial) fun K' hK' => ?_
        repeat (refine sxf_next fun K2 hK2 => ?_; simp [dNum, pRow, dS]; (repeat (refine ⟨by omega, ?_⟩)); refine hK2 _ ?_; clear hK2 K2)
        refine sxf_next fun K2 hK2 => ?_
        simp [dNum, pRow, dS]
        refine callK.mc (hc) (by simp [dNum, pRow, dS]) (by simp [dNum, pRow, dS]) (by simp [dNum, pRow, dS]) (by simp [dNum, pRow, dS]) ?_
        simp [dNum, pRow, dS]
        refine hK2 _ ?_
        clear hK2 K2
        repeat (refine sxf_next fun K2 hK2 => ?_; simp [dNum, pRow, dS]; (repeat (refine ⟨by omega, ?_⟩)); refine hK2 _ ?_; clear hK2 K2)
        refine sxf_nil (hK' _ ?_)
        refine AW.st (by simp [dNum, pRow, dS]; rfl) ?_
        clear hK' K'
        refine AW_then fun K2 hK2 => ?_
        refine AW_rg (tyOf_good _) [3, 4, 5, 43] [3, 500] (fun _ _ => trivial) fun K' hK' => ?_
        repeat (refine sxf_next fun K2 hK2 => ?_; simp [dNum, pRow, dS, hb, hbn, bs_size, hj, hj']; (repeat (refine ⟨by omega, ?_⟩)); refine hK2 _ ?_; clear hK2 K2)
        refine sxf_next fun K2 hK2 => ?_
        simp [dNum, pRow, dS, hb, hbn, bs_size, hj, hj']
        refine callK.mc (hnx) (by simp [dNum, pRow, dS, hb, hbn, bs_size, hj, hj']) (by simp [dNum, pRow, dS, hb, hbn, bs_size, hj, hj']) (by simp [dNum, pRow, dS, hb, hbn, bs_size, hj, hj']) (by simp [dNum, pRow, dS, hb, hbn, bs_size, hj, hj']) ?_
        simp [dNum, pRow, dS, hb, hbn, bs_size, hj, hj']
        refine hK2 _ ?_
        clear hK2 K2
        repeat (refine sxf_next fun K2 hK2 => ?_; simp [dNum, pRow, dS, hb, hbn, bs_size, hj, hj']; (repeat (refine ⟨by omega, ?_⟩)); refine hK2 _ ?_; clear hK2 K2)
        refine sxf_nil (hK' _ ?_)
        refine AW.st (by simp [dNum, pRow, dS, hb, hbn, bs_size, hj, hj']; rfl) ?_
        clear hK' K'
        refine AW_cond true rfl (fun _ => ?_) (fun h => by cases h)
        refine AW_re (tyOf_good _) fun K' hK' => ?_
        repeat (refine sxf_next fun K2 hK2 => ?_; simp [dNum, pRow, dS]; (repeat (refine ⟨by omega, ?_⟩)); refine hK2 _ ?_; clear hK2 K2)
        refine sxf_next fun K2 hK2 => ?_
        simp [dNum, pRow, dS]
        refine callK.mc (hfl) (by simp [dNum, pRow, dS]) (by simp [dNum, pRow, dS]) (by simp [dNum, pRow, dS]) (by simp [dNum, pRow, dS]) ?_
        simp [dNum, pRow, dS]
        refine hK2 _ ?_
        clear hK2 K2
        repeat (refine sxf_next fun K2 hK2 => ?_; simp [dNum, pRow, dS]; (repeat (refine ⟨by omega, ?_⟩)); refine hK2 _ ?_; clear hK2 K2)
        refine sxf_nil (hK' _ ?_)
        clear hK' K'
        refine hK2 _ (AW.norm [3, 4, 5] [3, 500] (fun _ _ => trivial) (AW.st (by simp [dNum, pRow, dS]; rfl) ?_))
        refine AW_then fun K3 hK3 => ?_
        refine AW_rg (tyOf_good _) [3, 4, 5, 51] [3, 500] (fun _ _ => trivial) fun K' hK' => ?_
        repeat (refine sxf_next fun K2 hK2 => ?_; simp [dNum, pRow, dS]; (repeat (refine ⟨by omega, ?_⟩)); refine hK2 _ ?_; clear hK2 K2)
        refine sxf_nil (hK' _ ?_)
        refine AW.st (by simp [dNum, pRow, dS]; rfl) ?_
        clear hK' K'
        refine AW_cond true rfl (fun _ => ?_) (fun h => by cases h)
        refine AW_rdg (tyOf_good _) (by kernel_rfl) [(3, 500), (5, 3)] [2, 3] [3, 500] (fun _ _ => trivial) (by kernel_rfl) fun K' hK' => ?_
        repeat (refine sxg_next fun K2 hK2 => ?_; simp [dNum, pRow, dS]; (repeat (refine ⟨by omega, ?_⟩)); refine hK2 _ ?_; clear hK2 K2)
        refine sxg_nil (hK' _ ?_)
        refine AW.st (by simp [dNum, pRow, dS]; rfl) ?_
        clear hK' K'
        refine AW_ret ?_
        simp [D.le, D.le.go, takeMap, dNum, pRow, dS, dOR, dFault, codeF, placeF]
      · have hbn : ¬ b.toNat = 0 := by omega
        refine PureC.of_body (tyOf_good _) Tryz.func30 rfl rfl (rs := [.tmp 2, .cell 3 73]) Tryz.results30 (by simp [Tryz.ntmps30]) fun X => ?_
        simp only [Tryz.ntmps30, List.map]
        refine AW_rg (tyOf_good _) [0, 3] [3] (fun _ _ => trivial) fun K' hK' => ?_
        repeat (refine sxf_next fun K2 hK2 => ?_; simp [dNum, pRow, dS]; (repeat (refine ⟨by omega, ?_⟩)); refine hK2 _ ?_; clear hK2 K2)
        refine sxf_nil (hK' _ ?_)
        refine AW.st (by simp [dNum, pRow, dS]; rfl) ?_
        clear hK' K'
        refine AW_then fun K1 hK1 => ?_
        refine AW_rg (tyOf_good _) [0, 3, 8] [3] (fun _ _ => trivial) fun K' hK' => ?_
        repeat (refine sxf_next fun K2 hK2 => ?_; simp [dNum, pRow, dS, bs_size, hl, hl']; (repeat (refine ⟨by omega, ?_⟩)); refine hK2 _ ?_; clear hK2 K2)
        refine sxf_nil (hK' _ ?_)
        refine AW.st (by simp [dNum, pRow, dS, bs_size, hl, hl']; rfl) ?_
        clear hK' K'
        refine AW_cond false rfl (fun h => by cases h) (fun _ => ?_)
        refine AW_skip (hK1 _ ?_)
        refine AW_rg (tyOf_good _) [0, 3, 4] [3, 13] (fun _ _ => trivial) fun K' hK' => ?_
        repeat (refine sxf_next fun K2 hK2 => ?_; simp [dNum, pRow, dS, hF]; (repeat (refine ⟨by omega, ?_⟩)); refine hK2 _ ?_; clear hK2 K2)
        refine sxf_nil (hK' _ ?_)
        refine AW.st (by simp [dNum, pRow, dS, hF]; rfl) ?_
        clear hK' K'
        refine AW.imp (Imp.ren (r := 13) (r' := 500) trivial (by simp)) ?_
        refine AW.st (by simp [renO, renF, Go.Av.ren, renH_two2]; rfl) ?_
        refine AW_rg (tyOf_good _) [0, 3, 4, 5] [3, 500] (fun _ _ => trivial) fun K' hK' => ?_
        repeat (refine sxf_next fun K2 hK2 => ?_; simp [dNum, pRow, dS]; (repeat (refine ⟨by omega, ?_⟩)); refine hK2 _ ?_; clear hK2 K2)
        refine sxf_next fun K2 hK2 => ?_
        simp [dNum, pRow, dS]
        refine callK.mc (hc) (by simp [dNum, pRow, dS]) (by simp [dNum, pRow, dS]) (by simp [dNum, pRow, dS]) (by simp [dNum, pRow, dS]) ?_
        simp [dNum, pRow, dS]
        refine hK2 _ ?_
        clear hK2 K2
        repeat (refine sxf_next fun K2 hK2 => ?_; simp [dNum, pRow, dS]; (repeat (refine ⟨by omega, ?_⟩)); refine hK2 _ ?_; clear hK2 K2)
        refine sxf_nil (hK' _ ?_)
        refine AW.st (by simp [dNum, pRow, dS]; rfl) ?_
        clear hK' K'
        refine AW_then fun K2 hK2 => ?_
        refine AW_rg (tyOf_good _) [3, 4, 5, 43] [3, 500] (fun _ _ => trivial) fun K' hK' => ?_
        repeat (refine sxf_next fun K2 hK2 => ?_; simp [dNum, pRow, dS, hb, hbn, bs_size, hj, hj']; (repeat (refine ⟨by omega, ?_⟩)); refine hK2 _ ?_; clear hK2 K2)
        refine sxf_next fun K2 hK2 => ?_
        simp [dNum, pRow, dS, hb, hbn, bs_size, hj, hj']
        refine callK.mc (hnx) (by simp [dNum, pRow, dS, hb, hbn, bs_size, hj, hj']) (by simp [dNum, pRow, dS, hb, hbn, bs_size, hj, hj']) (by simp [dNum, pRow, dS, hb, hbn, bs_size, hj, hj']) (by simp [dNum, pRow, dS, hb, hbn, bs_size, hj, hj']) ?_
        simp [dNum, pRow, dS, hb, hbn, bs_size, hj, hj']
        refine hK2 _ ?_
        clear hK2 K2
        repeat (refine sxf_next fun K2 hK2 => ?_; simp [dNum, pRow, dS, hb, hbn, bs_size, hj, hj']; (repeat (refine ⟨by omega, ?_⟩)); refine hK2 _ ?_; clear hK2 K2)
        refine sxf_nil (hK' _ ?_)
        refine AW.st (by simp [dNum, pRow, dS, hb, hbn, bs_size, hj, hj']; rfl) ?_
        clear hK' K'
        refine AW_cond true rfl (fun _ => ?_) (fun h => by cases h)
        refine AW_re (tyOf_good _) fun K' hK' => ?_
        repeat (refine sxf_next fun K2 hK2 => ?_; simp [dNum, pRow, dS]; (repeat (refine ⟨by omega, ?_⟩)); refine hK2 _ ?_; clear hK2 K2)
        refine sxf_next fun K2 hK2 => ?_
        simp [dNum, pRow, dS]
        refine callK.mc (hfl) (by simp [dNum, pRow, dS]) (by simp [dNum, pRow, dS]) (by simp [dNum, pRow, dS]) (by simp [dNum, pRow, dS]) ?_
        simp [dNum, pRow, dS]
        refine hK2 _ ?_
        clear hK2 K2
        repeat (refine sxf_next fun K2 hK2 => ?_; simp [dNum, pRow, dS]; (repeat (refine ⟨by omega, ?_⟩)); refine hK2 _ ?_; clear hK2 K2)
        refine sxf_nil (hK' _ ?_)
        clear hK' K'
        refine hK2 _ (AW.norm [3, 4, 5] [3, 500] (fun _ _ => trivial) (AW.st (by simp [dNum, pRow, dS]; rfl) ?_))
        refine AW_then fun K3 hK3 => ?_
        refine AW_rg (tyOf_good _) [3, 4, 5, 51] [3, 500] (fun _ _ => trivial) fun K' hK' => ?_
        repeat (refine sxf_next fun K2 hK2 => ?_; simp [dNum, pRow, dS]; (repeat (refine ⟨by omega, ?_⟩)); refine hK2 _ ?_; clear hK2 K2)
        refine sxf_nil (hK' _ ?_)
        refine AW.st (by simp [dNum, pRow, dS]; rfl) ?_
        clear hK' K'
        refine AW_cond true rfl (fun _ => ?_) (fun h => by cases h)
        refine AW_rdg (tyOf_good _) (by kernel_rfl) [(3, 500), (5, 3)] [2, 3] [3, 500] (fun _ _ => trivial) (by kernel_rfl) fun K' hK' => ?_
        repeat (refine sxg_next fun K2 hK2 => ?_; simp [dNum, pRow, dS]; (repeat (refine ⟨by omega, ?_⟩)); refine hK2 _ ?_; clear hK2 K2)
        refine sxg_nil (hK' _ ?_)
        refine AW.st (by simp [dNum, pRow, dS]; rfl) ?_
        clear hK' K'
        refine AW_ret ?_
        simp [D.le, D.le.go, takeMap, dNum, pRow, dS, dOR, dFault, codeF, placeF]
    · have hj' : ¬ (j : Int) < (t.length : Int) := by omega
      have hb : ((b.toNat : Int) = 0) := by
        rcases hnb with h | h
        · exact absurd h hj
        · rw [h]; rfl
      have hbn : b.toNat = 0 := by omega
      rw [if_neg hj]
      simp only [dOR]
      rw [hx] at hc ⊢
      refine PureC.of_body (tyOf_good _) Tryz.func30 rfl rfl (rs := [.tmp 2, .cell 3 73]) Tryz.results30 (by simp [Tryz.ntmps30]) fun X => ?_
      simp only [Tryz.ntmps30, List.map]
      refine AW_rg (tyOf_good _) [0, 3] [3] (fun _ _ => trivial) fun K' hK' => ?_
      repeat (refine sxf_next fun K2 hK2 => ?_; simp [dNum, pRow, dS]; (repeat (refine ⟨by omega, ?_⟩)); refine hK2 _ ?_; clear hK2 K2)
      refine sxf_nil (hK' _ ?_)
      refine AW.st (by simp [dNum, pRow, dS]; rfl) ?_
      clear hK' K'
      refine AW_then fun K1 hK1 => ?_
      refine AW_rg (tyOf_good _) [0, 3, 8] [3] (fun _ _ => trivial) fun K' hK' => ?_
      repeat (refine sxf_next fun K2 hK2 => ?_; simp [dNum, pRow, dS, bs_size, hl, hl']; (repeat (refine ⟨by omega, ?_⟩)); refine hK2 _ ?_; clear hK2 K2)
      refine sxf_nil (hK' _ ?_)
      refine AW.st (by simp [dNum, pRow, dS, bs_size, hl, hl']; rfl) ?_
      clear hK' K'
      refine AW_cond false rfl (fun h => by cases h) (fun _ => ?_)
      refine AW_skip (hK1 _ ?_)
      refine AW_rg (tyOf_good _) [0, 3, 4] [3, 13] (fun _ _ => trivial) fun K' hK' => ?_
      repeat (refine sxf_next fun K2 hK2 => ?_; simp [dNum, pRow, dS, hF]; (repeat (refine ⟨by omega, ?_⟩)); refine hK2 _ ?_; clear hK2 K2)
      refine sxf_nil (hK' _ ?_)
      refine AW.st (by simp [dNum, pRow, dS, hF]; rfl) ?_
      clear hK' K'
      refine AW.imp (Imp.ren (r := 13) (r' := 500) trivial (by simp)) ?_
      refine AW.st (by simp [renO, renF, Go.Av.ren, renH_two2]; rfl) ?_
      refine AW_rg (tyOf_good _) [0, 3, 4, 5] [3, 500] (fun _ _ => trivial) fun K' hK' => ?_
      repeat (refine sxf_next fun K2 hK2 => ?_; simp [dNum, pRow, dS]; (repeat (refine ⟨by omega, ?_⟩)); refine hK2 _ ?_; clear hK2 K2)
      refine sxf_next fun K2 hK2 => ?_
      simp [dNum, pRow, dS]
      refine callK.mc (hc) (by simp [dNum, pRow, dS]) (by simp [dNum, pRow, dS]) (by simp [dNum, pRow, dS]) (by simp [dNum, pRow, dS]) ?_
      simp [dNum, pRow, dS]
      refine hK2 _ ?_
      clear hK2 K2
      repeat (refine sxf_next fun K2 hK2 => ?_; simp [dNum, pRow, dS]; (repeat (refine ⟨by omega, ?_⟩)); refine hK2 _ ?_; clear hK2 K2)
      refine sxf_nil (hK' _ ?_)
      refine AW.st (by simp [dNum, pRow, dS]; rfl) ?_
      clear hK' K'
      refine AW_then fun K2 hK2 => ?_
      refine AW_rg (tyOf_good _) [3, 4, 5, 43] [3, 500] (fun _ _ => trivial) fun K' hK' => ?_
      repeat (refine sxf_next fun K2 hK2 => ?_; simp [dNum, pRow, dS, hb, hbn, bs_size, hj, hj']; (repeat (refine ⟨by omega, ?_⟩)); refine hK2 _ ?_; clear hK2 K2)
      refine sxf_next fun K2 hK2 => ?_
      simp [dNum, pRow, dS, hb, hbn, bs_size, hj, hj']
      refine callK.mc (hnx) (by simp [dNum, pRow, dS, hb, hbn, bs_size, hj, hj']) (by simp [dNum, pRow, dS, hb, hbn, bs_size, hj, hj']) (by simp [dNum, pRow, dS, hb, hbn, bs_size, hj, hj']) (by simp [dNum, pRow, dS, hb, hbn, bs_size, hj, hj']) ?_
      simp [dNum, pRow, dS, hb, hbn, bs_size, hj, hj']
      refine hK2 _ ?_
      clear hK2 K2
      repeat (refine sxf_next fun K2 hK2 => ?_; simp [dNum, pRow, dS, hb, hbn, bs_size, hj, hj']; (repeat (refine ⟨by omega, ?_⟩)); refine hK2 _ ?_; clear hK2 K2)
      refine sxf_nil (hK' _ ?_)
      refine AW.st (by simp [dNum, pRow, dS, hb, hbn, bs_size, hj, hj']; rfl) ?_
      clear hK' K'
      refine AW_cond false rfl (fun h => by cases h) (fun _ => ?_)
      refine AW_skip (hK2 _ ?_)
      refine AW_then fun K3 hK3 => ?_
      refine AW_rg (tyOf_good _) [3, 4, 5, 51] [3, 500] (fun _ _ => trivial) fun K' hK' => ?_
      repeat (refine sxf_next fun K2 hK2 => ?_; simp [dNum, pRow, dS]; (repeat (refine ⟨by omega, ?_⟩)); refine hK2 _ ?_; clear hK2 K2)
      refine sxf_nil (hK' _ ?_)
      refine AW.st (by simp [dNum, pRow, dS]; rfl) ?_
      clear hK' K'
      refine AW_cond false rfl (fun h => by cases h) (fun _ => ?_)
      refine AW_skip (hK3 _ ?_)
      refine AW_rdg (tyOf_good _) (by kernel_rfl) [(3, 3)] [2, 3] [3, 500] (fun _ _ => trivial) (by kernel_rfl) fun K' hK' => ?_
      repeat (refine sxg_next fun K2 hK2 => ?_; simp [dNum, pRow, dS, hF]; (repeat (refine ⟨by omega, ?_⟩)); refine hK2 _ ?_; clear hK2 K2)
      refine sxg_nil (hK' _ ?_)
      refine AW.st (by simp [dNum, pRow, dS, hF]; rfl) ?_
      clear hK' K'
      refine AW_ret ?_
      simp [D.le, D.le.go, takeMap, dNum, pRow, dS, dFault, codeF, placeF, D.le_refl, D.leGo_refl]
end Go.Proofs.YtagfbbnlbncjlaaGreatDoor

/-
  What ExprBack and ExprTidy say.
-/
namespace Go.Proofs.YtagfbbnlbncjlaaGreatDoor
set_option linter.unusedSimpArgs false
set_option linter.unusedVariables false
open Go.Av

theorem la : (⟨#[97]⟩ : ByteArray) = bs [97] := rfl
end Go.Proofs.YtagfbbnlbncjlaaGreatDoor

/-
  Plain: unsigned words, and the least pairs in which one name alone decides.
-/
namespace Go.Proofs.YtagfbbnlbncjlaaGreatDoor
set_option linter.unusedSimpArgs false
set_option linter.unusedVariables false
open Go.Av

/-! ### Unsigned words -/
/-! ### Where a name stands -/
def ixT (l : List Tx) (s : Tx) : Nat := l.findIdx (· == s)
theorem ixT_lt {l : List Tx} {s : Tx} (h : s ∈ l) : ixT l s < l.length := List.findIdx_lt_length_of_exists ⟨s, h, by simp⟩
theorem ixT_get {l : List Tx} {s : Tx} (h : s ∈ l) : l[ixT l s]'(ixT_lt h) = s := by
  have := List.findIdx_getElem (w := ixT_lt h) (p := (· == s))
  exact eq_of_beq this
/-! ### Pairs -/
end Go.Proofs.YtagfbbnlbncjlaaGreatDoor

/-
  Plain facts of trying values: what is set follows; the first values of which all clauses hold.
-/
namespace Go.Proofs.YtagfbbnlbncjlaaGreatDoor
set_option linter.unusedSimpArgs false
set_option linter.unusedVariables false

abbrev Cl := List (List Int)
/-- What is set: literals, in the order in which they were set. -/
structure GoodT (V : Nat) (tr : List Int) : Prop where
  pos : ∀ x ∈ tr, x ≠ 0 ∧ x ≤ V ∧ -V ≤ x
  one : ∀ x ∈ tr, -x ∉ tr
  nodup : tr.Nodup
theorem GoodT.nil (V : Nat) : GoodT V [] := ⟨by simp, by simp, by simp⟩
/-! ### What values do -/
def litB (β : Nat → Bool) (x : Int) : Bool := if 0 < x then β x.toNat else !β (-x).toNat
def Models (cs : Cl) (β : Nat → Bool) : Prop := ∀ c ∈ cs, ∃ x ∈ c, litB β x = true
def Agree (β : Nat → Bool) (tr : List Int) : Prop := ∀ x ∈ tr, litB β x = true
theorem litB_neg {β : Nat → Bool} {x : Int} (h : x ≠ 0) : litB β (-x) = !litB β x := by
  unfold litB
  by_cases h1 : 0 < x
  · rw [if_pos h1, if_neg (by omega), Int.neg_neg]
  · rw [if_neg h1, if_pos (by omega), Bool.not_not]
def OkC (V : Nat) (cs : Cl) : Prop := ∀ c ∈ cs, ∀ x ∈ c, x ≠ 0 ∧ x ≤ V ∧ -V ≤ x

end Go.Proofs.YtagfbbnlbncjlaaGreatDoor

/-
  Plain: an expression's clauses, and its literal (Tseitin).
-/
namespace Go.Proofs.YtagfbbnlbncjlaaGreatDoor
set_option linter.unusedSimpArgs false
set_option linter.unusedVariables false
open Go.Av

abbrev Cs := Nat × Cl
def mkAnd (l : List Int) (c : Cs) : Int × Cs := ((c.1 : Int) + 1, (c.1 + 1, c.2 ++ (l.map fun x => [-((c.1 : Int) + 1), x]) ++ [((c.1 : Int) + 1) :: l.map fun x => -x]))
mutual
def litG (ns es : List Tx) : Ex → Cs → Int × Cs
  | .bit s, c => ((ixT ns s : Int) + 1, c)
  | .rise s, c => mkAnd [(ixT ns s : Int) + 1, -((ns.length : Int) + ixT es s + 1)] c
  | .fall s, c => mkAnd [-((ixT ns s : Int) + 1), (ns.length : Int) + ixT es s + 1] c
  | .not e, c => (-(litG ns es e c).1, (litG ns es e c).2)
  | .and l, c => mkAnd (litsG ns es l c).1 (litsG ns es l c).2
  | .or l, c => (-(mkAnd ((litsG ns es l c).1.map fun x => -x) (litsG ns es l c).2).1, (mkAnd ((litsG ns es l c).1.map fun x => -x) (litsG ns es l c).2).2)
  | .cst b, c => ((c.1 : Int) + 1, (c.1 + 1, c.2 ++ [[if b then (c.1 : Int) + 1 else -((c.1 : Int) + 1)]]))
def litsG (ns es : List Tx) : List Ex → Cs → List Int × Cs
  | [], c => ([], c)
  | e :: l, c => ((litG ns es e c).1 :: (litsG ns es l (litG ns es e c).2).1, (litsG ns es l (litG ns es e c).2).2)
end
def isTs (ns : List Tx) (β : Nat → Bool) (s : Tx) : Bool := β (ixT ns s + 1)
def wasTs (ns es : List Tx) (β : Nat → Bool) (s : Tx) : Bool := β (ns.length + ixT es s + 1)

/-- A literal of the first V variables. -/
def OkL (V : Nat) (x : Int) : Prop := x ≠ 0 ∧ x ≤ V ∧ -V ≤ x
theorem OkL.neg {V : Nat} {x : Int} (h : OkL V x) : OkL V (-x) := ⟨by have := h.1; omega, by have := h.2.2; omega, by have := h.2.1; omega⟩
theorem OkL.mono {V W : Nat} {x : Int} (h : OkL V x) (hw : V ≤ W) : OkL W x := ⟨h.1, by have := h.2.1; omega, by have := h.2.2; omega⟩
theorem litB_same {V : Nat} {β γ : Nat → Bool} (h : ∀ v, v ≤ V → γ v = β v) {x : Int} (hx : OkL V x) : litB γ x = litB β x := by
  unfold litB
  obtain ⟨_, h2, h3⟩ := hx
  by_cases h1 : 0 < x
  · rw [if_pos h1, if_pos h1, h _ (by omega)]
  · rw [if_neg h1, if_neg h1, h _ (by omega)]
theorem models_app {a b : Cl} {β : Nat → Bool} : Models (a ++ b) β ↔ Models a β ∧ Models b β := by
  unfold Models
  constructor
  · intro h
    exact ⟨fun c hc => h c (List.mem_append_left _ hc), fun c hc => h c (List.mem_append_right _ hc)⟩
  · rintro ⟨h1, h2⟩ c hc
    rcases List.mem_append.1 hc with h | h
    · exact h1 c h
    · exact h2 c h
theorem models_same {V : Nat} {cs : Cl} (ok : OkC V cs) {β γ : Nat → Bool} (h : ∀ v, v ≤ V → γ v = β v) (hm : Models cs β) : Models cs γ := by
  intro c hc
  obtain ⟨x, hx, hb⟩ := hm c hc
  exact ⟨x, hx, by rw [litB_same h (ok c hc x hx)]; exact hb⟩

/-- What holds between clauses before and behind: nothing is lost, all is of the variables, what held may be made to hold. -/
structure Grows (c d : Cs) : Prop where
  vars : c.1 ≤ d.1
  ext : ∃ e, d.2 = c.2 ++ e
  ok : OkC c.1 c.2 → OkC d.1 d.2
  can : OkC c.1 c.2 → ∀ β, Models c.2 β → ∃ γ, (∀ v, v ≤ c.1 → γ v = β v) ∧ Models d.2 γ
theorem Grows.refl (c : Cs) : Grows c c := ⟨Nat.le_refl _, ⟨[], by simp⟩, id, fun _ β h => ⟨β, fun _ _ => rfl, h⟩⟩
theorem Grows.trans {a b c : Cs} (h1 : Grows a b) (h2 : Grows b c) : Grows a c := by
  obtain ⟨e1, he1⟩ := h1.ext
  obtain ⟨e2, he2⟩ := h2.ext
  refine ⟨Nat.le_trans h1.vars h2.vars, ⟨e1 ++ e2, by rw [he2, he1, List.append_assoc]⟩, fun h => h2.ok (h1.ok h), fun ok β hm => ?_⟩
  obtain ⟨γ, hg1, hg2⟩ := h1.can ok β hm
  obtain ⟨δ, hd1, hd2⟩ := h2.can (h1.ok ok) γ hg2
  exact ⟨δ, fun v hv => by rw [hd1 v (Nat.le_trans hv h1.vars), hg1 v hv], hd2⟩
theorem Grows.models {c d : Cs} (h : Grows c d) {β : Nat → Bool} (hm : Models d.2 β) : Models c.2 β := by
  obtain ⟨e, he⟩ := h.ext
  rw [he] at hm
  exact (models_app.1 hm).1

theorem litB_new {β : Nat → Bool} {n : Nat} : litB β ((n : Int) + 1) = β (n + 1) := by
  unfold litB
  rw [if_pos (by omega)]
  congr 1
theorem mkAnd_tells {l : List Int} {c : Cs} {β : Nat → Bool} (hl : ∀ x ∈ l, x ≠ 0) (hm : Models (mkAnd l c).2.2 β) : litB β (mkAnd l c).1 = l.all (litB β) := by
  unfold mkAnd at hm ⊢
  dsimp only at hm ⊢
  obtain ⟨h1, h2⟩ := models_app.1 hm
  obtain ⟨_, h1⟩ := models_app.1 h1
  have hn : litB β (-((c.1 : Int) + 1)) = !litB β ((c.1 : Int) + 1) := litB_neg (by omega)
  cases hv : litB β ((c.1 : Int) + 1) with
  | true =>
    symm
    rw [List.all_eq_true]
    intro x hx
    obtain ⟨y, hy, hb⟩ := h1 [-((c.1 : Int) + 1), x] (List.mem_map.2 ⟨x, hx, rfl⟩)
    simp only [List.mem_cons, List.not_mem_nil, or_false] at hy
    rcases hy with rfl | rfl
    · rw [hn, hv] at hb; cases hb
    · exact hb
  | false =>
    symm
    obtain ⟨y, hy, hb⟩ := h2 _ (List.mem_singleton.2 rfl)
    rcases List.mem_cons.1 hy with rfl | hy
    · rw [hv] at hb; cases hb
    · obtain ⟨x, hx, rfl⟩ := List.mem_map.1 hy
      rw [litB_neg (hl x hx)] at hb
      rw [List.all_eq_false]
      exact ⟨x, hx, by simpa using hb⟩
theorem mkAnd_grows {l : List Int} {c : Cs} (hl : ∀ x ∈ l, OkL c.1 x) : Grows c (mkAnd l c).2 := by
  unfold mkAnd
  dsimp only
  refine ⟨by simp, ⟨_, List.append_assoc ..⟩, fun ok => ?_, fun ok β hm => ?_⟩
  · intro d hd x hx
    show OkL (c.1 + 1) x
    rcases List.mem_append.1 hd with hd | hd
    · rcases List.mem_append.1 hd with hd | hd
      · exact OkL.mono (ok d hd x hx) (by omega)
      · obtain ⟨y, hy, rfl⟩ := List.mem_map.1 hd
        simp only [List.mem_cons, List.not_mem_nil, or_false] at hx
        rcases hx with rfl | rfl
        · exact ⟨by omega, by omega, by simp⟩
        · exact (hl _ hy).mono (by omega)
    · rw [List.mem_singleton] at hd
      subst hd
      rcases List.mem_cons.1 hx with rfl | hx
      · exact ⟨by omega, by simp, by omega⟩
      · obtain ⟨y, hy, rfl⟩ := List.mem_map.1 hx
        exact ((hl _ hy).mono (by omega)).neg
  · obtain ⟨γ, hg, hnew⟩ : ∃ γ : Nat → Bool, (∀ v, v ≤ c.1 → γ v = β v) ∧ litB γ ((c.1 : Int) + 1) = l.all (litB β) :=
      ⟨fun v => if v = c.1 + 1 then l.all (litB β) else β v, fun v hv => by dsimp only; rw [if_neg (by omega)], by rw [litB_new]; simp⟩
    refine ⟨γ, hg, ?_⟩
    have hold : ∀ x ∈ l, litB γ x = litB β x := fun x hx => litB_same hg (hl x hx)
    refine models_app.2 ⟨models_app.2 ⟨models_same ok hg hm, ?_⟩, ?_⟩
    · intro d hd
      obtain ⟨x, hx, rfl⟩ := List.mem_map.1 hd
      cases ha : l.all (litB β) with
      | true => exact ⟨x, by simp, by rw [hold x hx]; exact List.all_eq_true.1 ha x hx⟩
      | false => exact ⟨-((c.1 : Int) + 1), by simp, by rw [litB_neg (by omega), hnew, ha]; rfl⟩
    · intro d hd
      rw [List.mem_singleton] at hd
      subst hd
      cases ha : l.all (litB β) with
      | true => exact ⟨(c.1 : Int) + 1, by simp, by rw [hnew]; exact ha⟩
      | false =>
        obtain ⟨x, hx, hb⟩ := List.all_eq_false.1 ha
        exact ⟨-x, List.mem_cons_of_mem _ (List.mem_map.2 ⟨x, hx, rfl⟩), by rw [litB_neg (hl x hx).1, hold x hx]; simpa using hb⟩
theorem mkAnd_lit {l : List Int} {c : Cs} : OkL (mkAnd l c).2.1 (mkAnd l c).1 := by
  unfold mkAnd OkL
  dsimp only
  exact ⟨by omega, by omega, by omega⟩

/-- What the literal of an expression is. -/
def Tells1 (ns es : List Tx) (e : Ex) (c : Cs) : Prop :=
  Grows c (litG ns es e c).2 ∧ OkL (litG ns es e c).2.1 (litG ns es e c).1 ∧ ∀ β, Models (litG ns es e c).2.2 β → litB β (litG ns es e c).1 = evE (isTs ns β) (wasTs ns es β) e
def TellsL (ns es : List Tx) (l : List Ex) (c : Cs) : Prop :=
  Grows c (litsG ns es l c).2 ∧ (∀ x ∈ (litsG ns es l c).1, OkL (litsG ns es l c).2.1 x) ∧ (litsG ns es l c).1.length = l.length ∧
    ∀ β, Models (litsG ns es l c).2.2 β → (litsG ns es l c).1.map (litB β) = l.map (evE (isTs ns β) (wasTs ns es β))
theorem tells_all {f : Ex → Bool} {β : Nat → Bool} : ∀ {xs : List Int} {l : List Ex}, xs.map (litB β) = l.map f → xs.all (litB β) = l.all f
  | xs, l, h => by
    have := congrArg (fun l : List Bool => l.all id) h
    simpa [List.all_map] using this
theorem evA_all (is was : Tx → Bool) : ∀ l : List Ex, evA is was l = l.all (evE is was)
  | [] => rfl
  | e :: l => by rw [evA, evA_all is was l]; rfl
theorem evO_all (is was : Tx → Bool) : ∀ l : List Ex, evO is was l = !l.all fun e => !evE is was e
  | [] => rfl
  | e :: l => by rw [evO, evO_all is was l]; simp
theorem lit_tells (ns es : List Tx) : ∀ (n : Nat) (e : Ex), SizeOf.sizeOf e ≤ n → (∀ s ∈ nmsE true e, s ∈ ns) → (∀ s ∈ nmsE false e, s ∈ es) → WfE e → ∀ c : Cs, ns.length + es.length ≤ c.1 → Tells1 ns es e c
  | 0, e, hn, _, _, _, _, _ => by cases e <;> simp at hn
  | n + 1, e, hn, hN, hE, hw, c, hc => by
    have many : ∀ l : List Ex, (∀ x ∈ l, SizeOf.sizeOf x ≤ n) → (∀ s ∈ nmsL true l, s ∈ ns) → (∀ s ∈ nmsL false l, s ∈ es) → (∀ x ∈ l, WfE x) → ∀ c : Cs, ns.length + es.length ≤ c.1 → TellsL ns es l c := by
      intro l
      induction l with
      | nil => intro _ _ _ _ c _; exact ⟨Grows.refl c, by simp [litsG], rfl, fun β _ => rfl⟩
      | cons x l ih =>
        intro hs h1 h2 h3 c hc
        simp only [nmsL, List.mem_append] at h1 h2
        obtain ⟨a1, a2, a3⟩ := lit_tells ns es n x (hs x (by simp)) (fun s h => h1 s (.inl h)) (fun s h => h2 s (.inl h)) (h3 x (by simp)) c hc
        obtain ⟨b1, b2, b3, b4⟩ := ih (fun y hy => hs y (by simp [hy])) (fun s h => h1 s (.inr h)) (fun s h => h2 s (.inr h)) (fun y hy => h3 y (by simp [hy])) (litG ns es x c).2 (Nat.le_trans hc a1.vars)
        refine ⟨a1.trans b1, ?_, ?_, ?_⟩
        · simp only [litsG]
          intro y hy
          rcases List.mem_cons.1 hy with rfl | hy
          · exact a2.mono b1.vars
          · exact b2 y hy
        · simp only [litsG, List.length_cons, b3]
        · intro β hm
          simp only [litsG] at hm ⊢
          rw [List.map_cons, List.map_cons, b4 β hm, a3 β (b1.models hm)]
    have hpos : ∀ (k : Nat) (β : Nat → Bool), litB β ((k : Int) + 1) = β (k + 1) := fun k β => litB_new
    cases e with
    | bit s =>
      have hs : s ∈ ns := hN s (by
        have : s ≠ [] := by
          intro h; subst h
          rw [WfE] at hw
          simp [nameF] at hw
        simp [nmsE, nmE, one1, this])
      have hlt := ixT_lt hs
      refine ⟨Grows.refl c, ?_, fun β _ => ?_⟩
      · simp only [litG]
        exact ⟨by omega, by omega, by omega⟩
      · simp only [litG, evE, isTs]
        exact litB_new
    | rise s =>
      have hne : s ≠ [] := by
        intro h; subst h
        rw [WfE] at hw
        simp [nameF] at hw
      have hs : s ∈ ns := hN s (by simp [nmsE, nmE, one1, hne])
      have he : s ∈ es := hE s (by simp [nmsE, nmE, one1, hne])
      have hlt := ixT_lt hs
      have hlt2 := ixT_lt he
      have hl : ∀ x ∈ [(ixT ns s : Int) + 1, -((ns.length : Int) + ixT es s + 1)], OkL c.1 x := by
        intro x hx
        simp only [List.mem_cons, List.not_mem_nil, or_false] at hx
        rcases hx with rfl | rfl <;> exact ⟨by omega, by omega, by omega⟩
      refine ⟨mkAnd_grows hl, mkAnd_lit, fun β hm => ?_⟩
      simp only [litG] at hm ⊢
      rw [mkAnd_tells (fun x hx => (hl x hx).1) hm]
      have h1 : litB β ((ixT ns s : Int) + 1) = isTs ns β s := litB_new
      have h2 : litB β (-((ns.length : Int) + ixT es s + 1)) = !wasTs ns es β s := by
        rw [litB_neg (by omega)]
        have : ((ns.length : Int) + ixT es s + 1) = ((ns.length + ixT es s : Nat) : Int) + 1 := by omega
        rw [this, litB_new]
        rfl
      simp [h1, h2, evE]
    | fall s =>
      have hne : s ≠ [] := by
        intro h; subst h
        rw [WfE] at hw
        simp [nameF] at hw
      have hs : s ∈ ns := hN s (by simp [nmsE, nmE, one1, hne])
      have he : s ∈ es := hE s (by simp [nmsE, nmE, one1, hne])
      have hlt := ixT_lt hs
      have hlt2 := ixT_lt he
      have hl : ∀ x ∈ [-((ixT ns s : Int) + 1), (ns.length : Int) + ixT es s + 1], OkL c.1 x := by
        intro x hx
        simp only [List.mem_cons, List.not_mem_nil, or_false] at hx
        rcases hx with rfl | rfl <;> exact ⟨by omega, by omega, by omega⟩
      refine ⟨mkAnd_grows hl, mkAnd_lit, fun β hm => ?_⟩
      simp only [litG] at hm ⊢
      rw [mkAnd_tells (fun x hx => (hl x hx).1) hm]
      have h1 : litB β (-((ixT ns s : Int) + 1)) = !isTs ns β s := by rw [litB_neg (by omega), litB_new]; rfl
      have h2 : litB β ((ns.length : Int) + ixT es s + 1) = wasTs ns es β s := by
        have : ((ns.length : Int) + ixT es s + 1) = ((ns.length + ixT es s : Nat) : Int) + 1 := by omega
        rw [this, litB_new]
        rfl
      simp [h1, h2, evE]
    | not x =>
      obtain ⟨a1, a2, a3⟩ := lit_tells ns es n x (by simp at hn; omega) hN hE (by simpa [WfE] using hw) c hc
      refine ⟨a1, a2.neg, fun β hm => ?_⟩
      simp only [litG, evE] at hm ⊢
      rw [litB_neg a2.1, a3 β hm]
    | and l =>
      obtain ⟨a1, a2, a3, a4⟩ := many l (fun x hx => by have := List.sizeOf_lt_of_mem hx; simp only [Ex.and.sizeOf_spec] at hn; omega) hN hE ((WfEs_iff _).1 hw.2) c hc
      refine ⟨a1.trans (mkAnd_grows a2), mkAnd_lit, fun β hm => ?_⟩
      simp only [litG] at hm ⊢
      rw [mkAnd_tells (fun x hx => (a2 x hx).1) hm, evE, evA_all]
      exact tells_all (a4 β ((mkAnd_grows a2).models hm))
    | or l =>
      obtain ⟨a1, a2, a3, a4⟩ := many l (fun x hx => by have := List.sizeOf_lt_of_mem hx; simp only [Ex.or.sizeOf_spec] at hn; omega) hN hE ((WfEs_iff _).1 hw.2) c hc
      have a2' : ∀ x ∈ (litsG ns es l c).1.map fun x => -x, OkL (litsG ns es l c).2.1 x := by
        intro x hx
        obtain ⟨y, hy, rfl⟩ := List.mem_map.1 hx
        exact (a2 y hy).neg
      refine ⟨a1.trans (mkAnd_grows a2'), mkAnd_lit.neg, fun β hm => ?_⟩
      simp only [litG] at hm ⊢
      rw [litB_neg mkAnd_lit.1, mkAnd_tells (fun x hx => (a2' x hx).1) hm, evE, evO_all]
      congr 1
      have h4 := a4 β ((mkAnd_grows a2').models hm)
      refine tells_all ?_
      rw [List.map_map]
      have h5 : (litsG ns es l c).1.map (litB β ∘ fun x => -x) = ((litsG ns es l c).1.map (litB β)).map (!·) := by
        rw [List.map_map]
        exact List.map_congr_left fun x hx => litB_neg (a2 x hx).1
      rw [h5, h4, List.map_map]
      rfl
    | cst b =>
      have hok : ∀ x ∈ [if b then (c.1 : Int) + 1 else -((c.1 : Int) + 1)], OkL (c.1 + 1) x := by
        intro x hx
        rw [List.mem_singleton] at hx
        subst hx
        cases b with
        | true => rw [if_pos rfl]; exact ⟨by omega, by omega, by omega⟩
        | false => rw [if_neg (by simp)]; exact ⟨by omega, by omega, by omega⟩
      refine ⟨⟨by simp [litG], ⟨_, rfl⟩, fun ok => ?_, fun ok β hm => ?_⟩, ?_, fun β hm => ?_⟩
      · intro d hd x hx
        show OkL (c.1 + 1) x
        rcases List.mem_append.1 hd with hd | hd
        · exact OkL.mono (ok d hd x hx) (by omega)
        · rw [List.mem_singleton] at hd
          subst hd
          exact hok x hx
      · refine ⟨fun v => if v = c.1 + 1 then b else β v, fun v hv => by dsimp only; rw [if_neg (by omega)], models_app.2 ⟨models_same ok (fun v hv => if_neg (by omega)) hm, ?_⟩⟩
        intro d hd
        rw [List.mem_singleton] at hd
        subst hd
        refine ⟨_, List.mem_singleton.2 rfl, ?_⟩
        cases b with
        | true => rw [if_pos rfl, litB_new]; simp
        | false => rw [if_neg (by simp), litB_neg (by omega), litB_new]; simp
      · simp only [litG]; exact ⟨by omega, by omega, by omega⟩
      · simp only [litG, evE] at hm ⊢
        obtain ⟨x, hx, hb⟩ := (models_app.1 hm).2 _ (List.mem_singleton.2 rfl)
        rw [List.mem_singleton] at hx
        subst hx
        cases b with
        | true => simpa using hb
        | false =>
          rw [if_neg (by simp), litB_neg (by omega)] at hb
          simpa using hb
end Go.Proofs.YtagfbbnlbncjlaaGreatDoor

/-
  Plain: Tseitin's clauses, searched: the law.
-/
namespace Go.Proofs.YtagfbbnlbncjlaaGreatDoor
set_option linter.unusedSimpArgs false
set_option linter.unusedVariables false
open Go.Av

/-- An expression's clauses, with its literal. -/
def tsC (ns es : List Tx) (e : Ex) : Int × Cs := litG ns es e (ns.length + es.length, [])
section
variable {ns es : List Tx} {e : Ex} (hN : ∀ s ∈ nmsE true e, s ∈ ns) (hE : ∀ s ∈ nmsE false e, s ∈ es) (hw : WfE e)
include hN hE hw

end
end Go.Proofs.YtagfbbnlbncjlaaGreatDoor

/-
  Plain: how many variables and clauses an expression gives.
-/
namespace Go.Proofs.YtagfbbnlbncjlaaGreatDoor
set_option linter.unusedSimpArgs false
set_option linter.unusedVariables false
open Go.Av

theorem mkAnd_size (l : List Int) (c : Cs) : (mkAnd l c).2.1 = c.1 + 1 ∧ (mkAnd l c).2.2.length = c.2.length + l.length + 1 := by
  unfold mkAnd
  refine ⟨rfl, ?_⟩
  simp
  omega
theorem lit_size (ns es : List Tx) : ∀ (n : Nat) (e : Ex), SizeOf.sizeOf e ≤ n → ∀ c : Cs, (litG ns es e c).2.1 ≤ c.1 + szN e ∧ (litG ns es e c).2.2.length + 1 ≤ c.2.length + 4 * szN e
  | 0, e, hn, _ => by cases e <;> simp at hn
  | n + 1, e, hn, c => by
    have many : ∀ l : List Ex, (∀ x ∈ l, SizeOf.sizeOf x ≤ n) → ∀ c : Cs, (litsG ns es l c).2.1 ≤ c.1 + szNs l ∧ (litsG ns es l c).2.2.length + l.length ≤ c.2.length + 4 * szNs l ∧ (litsG ns es l c).1.length = l.length := by
      intro l
      induction l with
      | nil => intro _ c; exact ⟨by simp [litsG], by simp [litsG], rfl⟩
      | cons x l ih =>
        intro hs c
        obtain ⟨a1, a2⟩ := lit_size ns es n x (hs x (by simp)) c
        obtain ⟨b1, b2, b3⟩ := ih (fun y hy => hs y (by simp [hy])) (litG ns es x c).2
        simp only [litsG, szNs, List.length_cons, b3]
        exact ⟨by omega, by omega, trivial⟩
    cases e with
    | cst b => simp only [litG, szN, List.length_append, List.length_singleton]; exact ⟨by omega, by omega⟩
    | bit s => simp only [litG, szN]; exact ⟨by omega, by omega⟩
    | rise s =>
      have h := mkAnd_size [(ixT ns s : Int) + 1, -((ns.length : Int) + ixT es s + 1)] c
      simp only [litG, szN]
      rw [h.1, h.2]
      simp only [List.length_cons, List.length_nil]
      exact ⟨by omega, by omega⟩
    | fall s =>
      have h := mkAnd_size [-((ixT ns s : Int) + 1), (ns.length : Int) + ixT es s + 1] c
      simp only [litG, szN]
      rw [h.1, h.2]
      simp only [List.length_cons, List.length_nil]
      exact ⟨by omega, by omega⟩
    | not x =>
      obtain ⟨a1, a2⟩ := lit_size ns es n x (by simp at hn; omega) c
      simp only [litG, szN]
      exact ⟨by omega, by omega⟩
    | and l =>
      obtain ⟨a1, a2, a3⟩ := many l (fun x hx => by have := List.sizeOf_lt_of_mem hx; simp only [Ex.and.sizeOf_spec] at hn; omega) c
      have h := mkAnd_size (litsG ns es l c).1 (litsG ns es l c).2
      simp only [litG, szN]
      rw [h.1, h.2, a3]
      exact ⟨by omega, by omega⟩
    | or l =>
      obtain ⟨a1, a2, a3⟩ := many l (fun x hx => by have := List.sizeOf_lt_of_mem hx; simp only [Ex.or.sizeOf_spec] at hn; omega) c
      have h := mkAnd_size ((litsG ns es l c).1.map fun x => -x) (litsG ns es l c).2
      simp only [litG, szN]
      rw [h.1, h.2, List.length_map, a3]
      exact ⟨by omega, by omega⟩
end Go.Proofs.YtagfbbnlbncjlaaGreatDoor

/-
  Clauses: which may be; values that are set, and set back.
-/
namespace Go.Proofs.YtagfbbnlbncjlaaGreatDoor
set_option linter.unusedSimpArgs false
set_option linter.unusedVariables false
open Go.Av

def dCl (V : Int) (cs : Cl) : D := .agg [dNum V, dRows cs]

/-! ### Values -/
end Go.Proofs.YtagfbbnlbncjlaaGreatDoor

/-
  Values that are set back; what follows is set.
-/
namespace Go.Proofs.YtagfbbnlbncjlaaGreatDoor
set_option linter.unusedSimpArgs false
set_option linter.unusedVariables false
open Go.Av

theorem GoodT.take {V : Nat} {tr : List Int} (g : GoodT V tr) (n : Nat) : GoodT V (tr.take n) := ⟨fun x hx => g.pos x (List.mem_of_mem_take hx), fun x hx h => g.one x (List.mem_of_mem_take hx) (List.mem_of_mem_take h), List.Pairwise.sublist (List.take_sublist _ _) g.nodup⟩

end Go.Proofs.YtagfbbnlbncjlaaGreatDoor

/-
  gate.builder: fresh, add.
-/
namespace Go.Proofs.YtagfbbnlbncjlaaGreatDoor
set_option linter.unusedSimpArgs false
set_option linter.unusedVariables false
open Go.Av

def bRow (V : Nat) (cs : Cl) (ents : List (Value × D)) : List (Nat × Row) := [(501, .box 85 [.d (dNum V), .own 502 0 cs.length, .mp 503]), (502, .sl 58 1 (cs.map fun l => [dRow l])), (503, .mp 83 ents)]
set_option maxHeartbeats 4000000 in
theorem fresh_spec (G : Glob) (V : Nat) (hV : V < 2^40) (cs : Cl) (ents : List (Value × D)) : MC Tryz.prog G [501, 503] 41 [.ref 501 0 0] (hlst (bRow V cs ents)) (.d (dNum ((V : Int) + 1))) (hlst (bRow (V + 1) cs ents)) := by
  refine MC.of_body (tyOf_good _) Tryz.func41 rfl rfl (rs := [.tmp 2]) Tryz.results41 (by simp [Tryz.ntmps41]) rfl fun X => ?_
  simp only [Tryz.ntmps41]
  refine AW_rg (tyOf_good _) [0] [501, 502, 503] (notIn_ok rfl) fun K' hK' => ?_
  repeat (refine sxf_next fun K2 hK2 => ?_; simp [dNum, bRow]; (repeat (refine ⟨by omega, ?_⟩)); refine hK2 _ ?_; clear hK2 K2)
  refine sxf_nil (hK' _ ?_)
  refine AW.st (by simp [dNum, bRow]; rfl) ?_
  clear hK' K'
  refine AW_rg (tyOf_good _) [0] [501, 502, 503] (notIn_ok rfl) fun K' hK' => ?_
  repeat (refine sxf_next fun K2 hK2 => ?_; simp [dNum, bRow]; (repeat (refine ⟨by omega, ?_⟩)); refine hK2 _ ?_; clear hK2 K2)
  refine sxf_nil (hK' _ ?_)
  refine AW.st (by simp [dNum, bRow]; rfl) ?_
  clear hK' K'
  refine AW_rg (tyOf_good _) [2] [501, 502, 503] (notIn_ok rfl) fun K' hK' => ?_
  repeat (refine sxf_next fun K2 hK2 => ?_; simp [dNum, bRow]; (repeat (refine ⟨by omega, ?_⟩)); refine hK2 _ ?_; clear hK2 K2)
  refine sxf_nil (hK' _ ?_)
  refine AW.st (by simp [dNum, bRow]; rfl) ?_
  clear hK' K'
  refine AW_ret ?_
  simp [D.le, D.le.go, takeMap, dNum, bRow, bRow, dNum, D.le_refl]
set_option maxHeartbeats 4000000 in
theorem add_spec2 (G : Glob) (V : Nat) (cs : Cl) (hcs : cs.length < 2^40) (ents : List (Value × D)) (l : List Int) : MC Tryz.prog G [501, 503] 73 [.ref 501 0 0, .d (dRow l)] (hlst (bRow V cs ents)) (.d (.tup [])) (hlst (bRow V (cs ++ [l]) ents)) := by
  refine MC.of_body (tyOf_good _) Tryz.func73 rfl rfl (rs := []) Tryz.results73 (by simp [Tryz.ntmps73]) rfl fun X => ?_
  simp only [Tryz.ntmps73]
  refine AW_re (tyOf_good _) fun K' hK' => ?_
  repeat (refine sxf_next fun K2 hK2 => ?_; simp [dNum, bRow, dRow, dInts, List.take_of_length_le]; (repeat (refine ⟨by omega, ?_⟩)); refine hK2 _ ?_; clear hK2 K2)
  refine sxf_nil (hK' _ ?_)
  clear hK' K'
  try simp only [thn, inb]
  simp [D.le_refl, bRow, dRow, dInts, dNum]
end Go.Proofs.YtagfbbnlbncjlaaGreatDoor

/-
  gate.builder: and.
-/
namespace Go.Proofs.YtagfbbnlbncjlaaGreatDoor
set_option linter.unusedSimpArgs false
set_option linter.unusedVariables false
open Go.Av

def inW (x : Int) : Prop := -2^40 < x ∧ x < 2^40
def andC (v : Int) (l : List Int) (cs : Cl) : Cl := cs ++ l.map fun x => [-v, x]
theorem andC_succ (v : Int) {l : List Int} (cs : Cl) {n : Nat} (h : n < l.length) : andC v (l.take (n + 1)) cs = andC v (l.take n) cs ++ [[-v, l[n]]] := by
  unfold andC
  rw [List.take_succ_eq_append_getElem h, List.map_append, ← List.append_assoc]
  rfl
theorem take_neg {l : List Int} {n : Nat} (h : n < l.length) : List.take (n + 1) (l.map fun x => [(.v (.int .i64 (-x)) : D)]) = List.take n (l.map fun x => [(.v (.int .i64 (-x)) : D)]) ++ [[.v (.int .i64 (-l[n]))]] := by
  rw [List.take_succ_eq_append_getElem (by simpa using h)]
  simp
set_option maxHeartbeats 8000000 in
theorem gand_spec (G : Glob) (V : Nat) (hV : V < 2^39) (cs : Cl) (hcs : cs.length < 2^38) (ents : List (Value × D)) (l : List Int) (hl : l.length < 2^38) (hx : ∀ x ∈ l, inW x) : MC Tryz.prog G [501, 503] 72 [.ref 501 0 0, .d (dRow l)] (hlst (bRow V cs ents)) (.d (dNum (mkAnd l (V, cs)).1)) (hlst (bRow (mkAnd l (V, cs)).2.1 (mkAnd l (V, cs)).2.2 ents)) := by
  refine MC.of_body (tyOf_good _) Tryz.func72 rfl rfl (rs := [.tmp 4]) Tryz.results72 (by simp [Tryz.ntmps72]) rfl fun X => ?_
  simp only [Tryz.ntmps72]
  have hf := fresh_spec G V (by omega) cs ents
  refine AW_rg (tyOf_good _) [0, 1] [501, 502, 503] (notIn_ok rfl) fun K' hK' => ?_
  repeat (refine sxf_next fun K2 hK2 => ?_; simp [dNum, bRow, takeMap, Function.comp_def]; (repeat (refine ⟨by omega, ?_⟩)); refine hK2 _ ?_; clear hK2 K2)
  refine sxf_nil (hK' _ ?_)
  refine AW.st (by simp [dNum, bRow, takeMap, Function.comp_def]; rfl) ?_
  clear hK' K'
  refine AW_rg (tyOf_good _) [0, 1, 5] [501, 502, 503] (notIn_ok rfl) fun K' hK' => ?_
  repeat (refine sxf_next fun K2 hK2 => ?_; simp [dNum, bRow, takeMap, Function.comp_def]; (repeat (refine ⟨by omega, ?_⟩)); refine hK2 _ ?_; clear hK2 K2)
  refine sxf_next fun K2 hK2 => ?_
  simp [dNum, bRow, takeMap, Function.comp_def]
  refine callK.mc (hf) (by simp [dNum, bRow, takeMap, Function.comp_def]) (by simp [dNum, bRow, takeMap, Function.comp_def]) (by simp [dNum, bRow, takeMap, Function.comp_def]) (by simp [dNum, bRow, takeMap, Function.comp_def]) ?_
  simp [dNum, bRow, takeMap, Function.comp_def]
  refine hK2 _ ?_
  clear hK2 K2
  repeat (refine sxf_next fun K2 hK2 => ?_; simp [dNum, bRow, takeMap, Function.comp_def]; (repeat (refine ⟨by omega, ?_⟩)); refine hK2 _ ?_; clear hK2 K2)
  refine sxf_nil (hK' _ ?_)
  refine AW.st (by simp [dNum, bRow, takeMap, Function.comp_def]; rfl) ?_
  clear hK' K'
  refine AW_rg (tyOf_good _) [0, 1, 5, 6] [501, 502, 503, 12] (notIn_ok rfl) fun K' hK' => ?_
  repeat (refine sxf_next fun K2 hK2 => ?_; simp [dNum, bRow, takeMap, Function.comp_def]; (repeat (refine ⟨by omega, ?_⟩)); refine hK2 _ ?_; clear hK2 K2)
  refine sxf_nil (hK' _ ?_)
  refine AW.st (by simp [dNum, bRow, takeMap, Function.comp_def]; rfl) ?_
  clear hK' K'
  refine AW_then fun K1 hK1 => ?_
  refine AW_rg (tyOf_good _) [0, 5, 6, 13, 14, 15] [501, 502, 503, 12] (notIn_ok rfl) fun K' hK' => ?_
  repeat (refine sxf_next fun K2 hK2 => ?_; simp [dNum, bRow, takeMap, Function.comp_def, dRow, dInts]; (repeat (refine ⟨by omega, ?_⟩)); refine hK2 _ ?_; clear hK2 K2)
  refine sxf_nil (hK' _ ?_)
  refine AW.st (by simp [dNum, bRow, takeMap, Function.comp_def, dRow, dInts]; rfl) ?_
  clear hK' K'
  refine AW_for (S := Nat) (fun n => n ≤ l.length) (fun n => ⟨lst [(0, .ref 501 0 0), (5, int ((V : Int) + 1)), (6, .own 12 0 (n + 1)), (13, .d (dRow l)), (14, int l.length), (15, int n)], hlst (bRow (V + 1) (andC ((V : Int) + 1) (l.take n) cs) ents ++ [(12, .sl 3 1 ([dNum ((V : Int) + 1)] :: (l.take n).map fun x => [dNum (-x)]))])⟩) (fun n => l.length - n) 0 ?_ (by omega) ?_
  · refine Imp.to' (notIn_ok rfl) (by simp [dNum, bRow, takeMap, Function.comp_def, andC, dRow, dInts]) (by simp [dNum, bRow, takeMap, Function.comp_def, andC, dRow, dInts])
  · intro n hn
    refine AW_rg (tyOf_good _) [0, 5, 6, 13, 14, 15, 16] [501, 502, 503, 12] (notIn_ok rfl) fun K' hK' => ?_
    repeat (refine sxf_next fun K2 hK2 => ?_; simp [dNum, bRow, takeMap, Function.comp_def]; (repeat (refine ⟨by omega, ?_⟩)); refine hK2 _ ?_; clear hK2 K2)
    refine sxf_nil (hK' _ ?_)
    refine AW.st (by simp [dNum, bRow, takeMap, Function.comp_def]; rfl) ?_
    clear hK' K'
    refine AW_then fun K2 hK2 => ?_
    refine AW_cond' (b := n < l.length) (by simp [D.le, D.le.go, takeMap, dNum, bRow, takeMap, Function.comp_def]) (fun hc => ?_) (fun hc => ?_)
    · have hnl : n < l.length := hc
      have hxn := hx _ (List.getElem_mem hnl)
      have hlen : (andC ((V : Int) + 1) (l.take n) cs).length < 2^40 := by simp only [andC, List.length_append, List.length_map, List.length_take]; omega
      have ha := add_spec2 G (V + 1) (andC ((V : Int) + 1) (l.take n) cs) hlen ents [-((V : Int) + 1), l[n]]
      rw [← andC_succ _ _ hnl] at ha
      have htk := take_neg hnl
      have hmin : min n l.length = n := by omega
      unfold inW at hxn
      refine AW_skip (hK2 _ ?_)
      refine AW_then fun K3 hK3 => ?_
      refine AW_block ?_
      refine AW_rg (tyOf_good _) [0, 5, 6, 8, 13, 14, 15] [501, 502, 503, 12] (notIn_ok rfl) fun K' hK' => ?_
      repeat (refine sxf_next fun K2 hK2 => ?_; simp [dNum, bRow, takeMap, Function.comp_def, dRow, dInts, hnl]; (repeat (refine ⟨by omega, ?_⟩)); refine hK2 _ ?_; clear hK2 K2)
      refine sxf_nil (hK' _ ?_)
      refine AW.st (by simp [dNum, bRow, takeMap, Function.comp_def, dRow, dInts, hnl]; rfl) ?_
      clear hK' K'
      refine AW_rg (tyOf_good _) [0, 5, 6, 8, 13, 14, 15] [501, 502, 503, 12] (notIn_ok rfl) fun K' hK' => ?_
      repeat (refine sxf_next fun K2 hK2 => ?_; simp [dNum, bRow, takeMap, Function.comp_def, dRow, dInts]; (repeat (refine ⟨by omega, ?_⟩)); refine hK2 _ ?_; clear hK2 K2)
      refine sxf_next fun K2 hK2 => ?_
      simp [dNum, bRow, takeMap, Function.comp_def, dRow, dInts]
      refine callK.frz 23 (by first | rfl | (simp [dNum, bRow, takeMap, Function.comp_def, dRow, dInts]; rfl)) (by decide) ?_
      simp [dNum, bRow, takeMap, Function.comp_def, dRow, dInts]
      refine callK.mc (ha) (by simp [dNum, bRow, takeMap, Function.comp_def, dRow, dInts]) (by simp [dNum, bRow, takeMap, Function.comp_def, dRow, dInts]) (by simp [dNum, bRow, takeMap, Function.comp_def, dRow, dInts]) (by simp [dNum, bRow, takeMap, Function.comp_def, dRow, dInts]) ?_
      simp [dNum, bRow, takeMap, Function.comp_def, dRow, dInts]
      refine hK2 _ ?_
      clear hK2 K2
      repeat (refine sxf_next fun K2 hK2 => ?_; simp [dNum, bRow, takeMap, Function.comp_def, dRow, dInts]; (repeat (refine ⟨by omega, ?_⟩)); refine hK2 _ ?_; clear hK2 K2)
      refine sxf_nil (hK' _ ?_)
      refine AW.st (by simp [dNum, bRow, takeMap, Function.comp_def, dRow, dInts]; rfl) ?_
      clear hK' K'
      refine AW_re (tyOf_good _) fun K' hK' => ?_
      repeat (refine sxf_next fun K2 hK2 => ?_; simp [dNum, bRow, takeMap, Function.comp_def, hmin]; (repeat (refine ⟨by omega, ?_⟩)); refine hK2 _ ?_; clear hK2 K2)
      refine sxf_nil (hK' _ ?_)
      clear hK' K'
      refine hK3 _ (AW.norm [0, 5, 6, 13, 14, 15] [501, 502, 503, 12] (notIn_ok rfl) (AW.st (by simp [dNum, bRow, takeMap, Function.comp_def, hmin]; rfl) ?_))
      refine AW_re (tyOf_good _) fun K' hK' => ?_
      repeat (refine sxf_next fun K2 hK2 => ?_; simp [dNum, bRow, takeMap, Function.comp_def]; (repeat (refine ⟨by omega, ?_⟩)); refine hK2 _ ?_; clear hK2 K2)
      refine sxf_nil (hK' _ ?_)
      clear hK' K'
      try simp only [thn, inb]
      refine Again.mk (n + 1) (by omega) (by omega) ?_
      refine Imp.to' (notIn_ok rfl) (by simp [dNum, bRow, takeMap, Function.comp_def, htk, hmin, dRow, dInts, List.take_take]) (by simp [dNum, bRow, takeMap, Function.comp_def, htk, hmin, dRow, dInts, List.take_take])
    · obtain rfl : n = l.length := by omega
      rw [List.take_length]
      have hlen : (andC ((V : Int) + 1) l cs).length < 2^40 := by simp only [andC, List.length_append, List.length_map]; omega
      have ha := add_spec2 G (V + 1) (andC ((V : Int) + 1) l cs) hlen ents (((V : Int) + 1) :: l.map fun x => -x)
      refine AW_exit (hK1 _ ?_)
      refine AW_rg (tyOf_good _) [5] [501, 502, 503] (notIn_ok rfl) fun K' hK' => ?_
      repeat (refine sxf_next fun K2 hK2 => ?_; simp [dNum, bRow, takeMap, Function.comp_def, dRow, dInts]; (repeat (refine ⟨by omega, ?_⟩)); refine hK2 _ ?_; clear hK2 K2)
      refine sxf_next fun K2 hK2 => ?_
      simp [dNum, bRow, takeMap, Function.comp_def, dRow, dInts]
      refine callK.frz 12 (by first | rfl | (simp [dNum, bRow, takeMap, Function.comp_def, dRow, dInts]; rfl)) (by decide) ?_
      simp [dNum, bRow, takeMap, Function.comp_def, dRow, dInts]
      refine callK.mc (ha) (by simp [dNum, bRow, takeMap, Function.comp_def, dRow, dInts]) (by simp [dNum, bRow, takeMap, Function.comp_def, dRow, dInts]) (by simp [dNum, bRow, takeMap, Function.comp_def, dRow, dInts]) (by simp [dNum, bRow, takeMap, Function.comp_def, dRow, dInts]) ?_
      simp [dNum, bRow, takeMap, Function.comp_def, dRow, dInts]
      refine hK2 _ ?_
      clear hK2 K2
      repeat (refine sxf_next fun K2 hK2 => ?_; simp [dNum, bRow, takeMap, Function.comp_def, dRow, dInts]; (repeat (refine ⟨by omega, ?_⟩)); refine hK2 _ ?_; clear hK2 K2)
      refine sxf_nil (hK' _ ?_)
      refine AW.st (by simp [dNum, bRow, takeMap, Function.comp_def, dRow, dInts]; rfl) ?_
      clear hK' K'
      refine AW_rg (tyOf_good _) [4] [501, 502, 503] (notIn_ok rfl) fun K' hK' => ?_
      repeat (refine sxf_next fun K2 hK2 => ?_; simp [dNum, bRow, takeMap, Function.comp_def]; (repeat (refine ⟨by omega, ?_⟩)); refine hK2 _ ?_; clear hK2 K2)
      refine sxf_nil (hK' _ ?_)
      refine AW.st (by simp [dNum, bRow, takeMap, Function.comp_def]; rfl) ?_
      clear hK' K'
      refine AW_ret ?_
      simp [mkAnd, andC, bRow, dNum, D.le, dRow, dInts, Function.comp_def, Nat.add_assoc]
end Go.Proofs.YtagfbbnlbncjlaaGreatDoor

/-
  Plain: what is asked of names, where these are those that an expression names.
-/
namespace Go.Proofs.YtagfbbnlbncjlaaGreatDoor
set_option linter.unusedSimpArgs false
set_option linter.unusedVariables false
open Go.Av

theorem nameF_nn {s : Tx} (h : nameF s = true) : s ≠ [] := (name_facts h).1
end Go.Proofs.YtagfbbnlbncjlaaGreatDoor

/-
  gate.builder: the literal of an expression.
-/
namespace Go.Proofs.YtagfbbnlbncjlaaGreatDoor
set_option linter.unusedSimpArgs false
set_option linter.unusedVariables false
open Go.Av

theorem litsG_app (ns es : List Tx) : ∀ (a b : List Ex) (c : Cs), litsG ns es (a ++ b) c = ((litsG ns es a c).1 ++ (litsG ns es b (litsG ns es a c).2).1, (litsG ns es b (litsG ns es a c).2).2)
  | [], b, c => by simp [litsG]
  | e :: a, b, c => by simp only [List.cons_append, litsG, litsG_app ns es a b]
theorem litsG_take (ns es : List Tx) {l : List Ex} {i : Nat} (h : i < l.length) (c : Cs) : litsG ns es (l.take (i + 1)) c = ((litsG ns es (l.take i) c).1 ++ [(litG ns es l[i] (litsG ns es (l.take i) c).2).1], (litG ns es l[i] (litsG ns es (l.take i) c).2).2) := by
  rw [List.take_succ_eq_append_getElem h, litsG_app]
  simp [litsG]
theorem litsG_len (ns es : List Tx) : ∀ (l : List Ex) (c : Cs), (litsG ns es l c).1.length = l.length
  | [], c => rfl
  | e :: l, c => by simp [litsG, litsG_len ns es l]
theorem litsG_size (ns es : List Tx) : ∀ (l : List Ex) (c : Cs), (litsG ns es l c).2.1 ≤ c.1 + szNs l ∧ (litsG ns es l c).2.2.length + l.length ≤ c.2.length + 4 * szNs l
  | [], c => by simp [litsG]
  | e :: l, c => by
    have h1 := lit_size ns es _ e (Nat.le_refl _) c
    have h2 := litsG_size ns es l (litG ns es e c).2
    simp only [litsG, szNs, List.length_cons]
    omega
/-- The names' variables, as the map has them. -/
structure EntsOk (ns es : List Tx) (ents : List (Value × D)) : Prop where
  keys : ∀ p ∈ ents, keyOk TypeDesc.string p.1 = true
  is : ∀ s ∈ ns, entGet (.string (bs s)) ents = some (dNum ((ixT ns s : Int) + 1))
  was : ∀ s ∈ es, entGet (.string (bs (94 :: s))) ents = some (dNum ((ns.length : Int) + ixT es s + 1))

def LitAt (G : Glob) (ns es : List Tx) (ents : List (Value × D)) (e : Ex) : Prop := ∀ (V : Nat) (cs : Cl), ns.length + es.length ≤ V → V + szN e ≤ 2^36 → cs.length + 4 * szN e ≤ 2^36 →
  MC Tryz.prog G [501, 503] 42 [.ref 501 0 0, .d (dE e)] (hlst (bRow V cs ents)) (.d (dNum (litG ns es e (V, cs)).1)) (hlst (bRow (litG ns es e (V, cs)).2.1 (litG ns es e (V, cs)).2.2 ents))

theorem bs94 (s : Tx) : (⟨#[94]⟩ : ByteArray) ++ bs s = bs (94 :: s) := by
  have : (⟨#[94]⟩ : ByteArray) = bs [94] := rfl
  rw [this, bs_append]; rfl
theorem litG_vars (ns es : List Tx) : ∀ (n : Nat) (e : Ex), SizeOf.sizeOf e ≤ n → ∀ c : Cs, c.1 ≤ (litG ns es e c).2.1
  | 0, e, hn, _ => by cases e <;> simp at hn
  | n + 1, e, hn, c => by
    have many : ∀ l : List Ex, (∀ x ∈ l, SizeOf.sizeOf x ≤ n) → ∀ c : Cs, c.1 ≤ (litsG ns es l c).2.1 := by
      intro l
      induction l with
      | nil => intro _ c; simp [litsG]
      | cons x l ih =>
        intro hs c
        have h1 := litG_vars ns es n x (hs x (by simp)) c
        have h2 := ih (fun y hy => hs y (by simp [hy])) (litG ns es x c).2
        simp only [litsG]
        omega
    cases e with
    | cst b => simp [litG]
    | bit s => simp [litG]
    | rise s => simp [litG, mkAnd]
    | fall s => simp [litG, mkAnd]
    | not x => have := litG_vars ns es n x (by simp at hn; omega) c; simpa [litG] using this
    | and l =>
      have := many l (fun x hx => by have := List.sizeOf_lt_of_mem hx; simp only [Ex.and.sizeOf_spec] at hn; omega) c
      simp only [litG, mkAnd]; omega
    | or l =>
      have := many l (fun x hx => by have := List.sizeOf_lt_of_mem hx; simp only [Ex.or.sizeOf_spec] at hn; omega) c
      simp only [litG, mkAnd]; omega
/-- Each part's literals lie within bounds. -/
theorem lit_inW (ns es : List Tx) (e : Ex) (hN : ∀ s ∈ nmsE true e, s ∈ ns) (hE : ∀ s ∈ nmsE false e, s ∈ es) (hw : WfE e) (c : Cs) (h0 : ns.length + es.length ≤ c.1) (h1 : c.1 + szN e ≤ 2^36) : -2^37 < (litG ns es e c).1 ∧ (litG ns es e c).1 < 2^37 := by
  obtain ⟨_, ⟨_, h3, h4⟩, _⟩ := lit_tells ns es _ e (Nat.le_refl _) hN hE hw c h0
  have := (lit_size ns es _ e (Nat.le_refl _) c).1
  omega
theorem lits_inW (ns es : List Tx) : ∀ (l : List Ex), (∀ s ∈ nmsL true l, s ∈ ns) → (∀ s ∈ nmsL false l, s ∈ es) → (∀ x ∈ l, WfE x) → ∀ c : Cs, ns.length + es.length ≤ c.1 → c.1 + szNs l ≤ 2^36 → ∀ x ∈ (litsG ns es l c).1, -2^37 < x ∧ x < 2^37
  | [], _, _, _, _, _, _, x, hx => by simp [litsG] at hx
  | e :: l, h1, h2, h3, c, h0, h4, x, hx => by
    simp only [nmsL, List.mem_append] at h1 h2
    simp only [szNs] at h4
    simp only [litsG, List.mem_cons] at hx
    have hg := (lit_tells ns es _ e (Nat.le_refl _) (fun s h => h1 s (.inl h)) (fun s h => h2 s (.inl h)) (h3 e (by simp)) c h0).1.vars
    have hs := (lit_size ns es _ e (Nat.le_refl _) c).1
    rcases hx with rfl | hx
    · exact lit_inW ns es e (fun s h => h1 s (.inl h)) (fun s h => h2 s (.inl h)) (h3 e (by simp)) c h0 (by omega)
    · exact lits_inW ns es l (fun s h => h1 s (.inr h)) (fun s h => h2 s (.inr h)) (fun y hy => h3 y (by simp [hy])) _ (by omega) (by omega) x hx
theorem litsG_vars (ns es : List Tx) : ∀ (l : List Ex) (c : Cs), c.1 ≤ (litsG ns es l c).2.1
  | [], c => by simp [litsG]
  | e :: l, c => by
    have h1 := litG_vars ns es _ e (Nat.le_refl _) c
    have h2 := litsG_vars ns es l (litG ns es e c).2
    simp only [litsG]
    omega
theorem len_szNs : ∀ l : List Ex, l.length ≤ szNs l
  | [] => by simp [szNs]
  | e :: l => by
    have h1 := len_szNs l
    have h2 := szN_pos e
    simp only [szNs, List.length_cons]
    omega
theorem nms_at {all : Bool} {l : List Ex} {x : Ex} (hx : x ∈ l) {s : Tx} (h : s ∈ nmsE all x) : s ∈ nmsL all l := by
  induction l with
  | nil => cases hx
  | cons y l ih =>
    rw [nmsL, List.mem_append]
    rcases List.mem_cons.1 hx with rfl | hx
    · exact .inl h
    · exact .inr (ih hx)

set_option maxHeartbeats 16000000 in
theorem lit_spec (G : Glob) (ns es : List Tx) (ents : List (Value × D)) (hen : EntsOk ns es ents) (hns : ns.length ≤ 2^20) (hes : es.length ≤ 2^20) : ∀ (n : Nat) (e : Ex), SizeOf.sizeOf e ≤ n → (∀ s ∈ nmsE true e, s ∈ ns) → (∀ s ∈ nmsE false e, s ∈ es) → WfE e → LitAt G ns es ents e := by
  intro n
  induction n with
  | zero => intro e hsz; cases e <;> simp at hsz
  | succ n ih =>
    intro e hsz hN hE hw V cs hV hV2 hC
    have hk0 : ∀ p ∈ ents, keyOk TypeDesc.string p.1 = true := hen.keys
    simp at hk0
    have hk1 := eq_true hk0
    cases e with
    | bit s =>
      rw [WfE] at hw
      have hs : s ∈ ns := hN s (by simp [nmsE, nmE, one1, nameF_nn hw])
      have hg := hen.is s hs
      rw [litG, dE]
      refine MC.of_body (tyOf_good _) Tryz.func42 rfl rfl (rs := [.tmp 4]) Tryz.results42 (by simp [Tryz.ntmps42]) rfl fun X => ?_
      simp only [Tryz.ntmps42]
      refine AW_rg (tyOf_good _) [0, 1] [501, 502, 503] (notIn_ok rfl) fun K' hK' => ?_
      repeat (refine sxf_next fun K2 hK2 => ?_; simp [dNum, bRow, dS, pairA, assertA, ofOk, zeroM]; (repeat (refine ⟨by omega, ?_⟩)); refine hK2 _ ?_; clear hK2 K2)
      refine sxf_nil (hK' _ ?_)
      refine AW.st (by simp [dNum, bRow, dS, pairA, assertA, ofOk, zeroM]; rfl) ?_
      clear hK' K'
      refine AW_then fun K1 hK1 => ?_
      refine AW_rg (tyOf_good _) [0, 1, 20] [501, 502, 503] (notIn_ok rfl) fun K' hK' => ?_
      repeat (refine sxf_next fun K2 hK2 => ?_; simp [dNum, bRow, dS, pairA, assertA, ofOk, zeroM]; (repeat (refine ⟨by omega, ?_⟩)); refine hK2 _ ?_; clear hK2 K2)
      refine sxf_nil (hK' _ ?_)
      refine AW.st (by simp [dNum, bRow, dS, pairA, assertA, ofOk, zeroM]; rfl) ?_
      clear hK' K'
      refine AW_block ?_
      refine AW_rg (tyOf_good _) [0, 1, 20, 22, 23] [501, 502, 503] (notIn_ok rfl) fun K' hK' => ?_
      repeat (refine sxf_next fun K2 hK2 => ?_; simp [dNum, bRow, dS, pairA, assertA, ofOk, zeroM]; (repeat (refine ⟨by omega, ?_⟩)); refine hK2 _ ?_; clear hK2 K2)
      refine sxf_nil (hK' _ ?_)
      refine AW.st (by simp [dNum, bRow, dS, pairA, assertA, ofOk, zeroM]; rfl) ?_
      clear hK' K'
      refine AW_cond true rfl (fun _ => ?_) (fun h => by cases h)
      refine AW_rg (tyOf_good _) [0, 5] [501, 502, 503] (notIn_ok rfl) fun K' hK' => ?_
      repeat (refine sxf_next fun K2 hK2 => ?_; simp [dNum, bRow, dS, pairA, assertA, ofOk, zeroM]; (repeat (refine ⟨by omega, ?_⟩)); refine hK2 _ ?_; clear hK2 K2)
      refine sxf_nil (hK' _ ?_)
      refine AW.st (by simp [dNum, bRow, dS, pairA, assertA, ofOk, zeroM]; rfl) ?_
      clear hK' K'
      refine AW_rg (tyOf_good _) [4] [501, 502, 503] (notIn_ok rfl) fun K' hK' => ?_
      repeat (refine sxf_next fun K2 hK2 => ?_; simp [dNum, bRow, dS, pairA, assertA, ofOk, zeroM, hg, hk1]; (repeat (refine ⟨by omega, ?_⟩)); refine hK2 _ ?_; clear hK2 K2)
      refine sxf_nil (hK' _ ?_)
      refine AW.st (by simp [dNum, bRow, dS, pairA, assertA, ofOk, zeroM, hg, hk1]; rfl) ?_
      clear hK' K'
      refine AW_ret ?_
      simp [bRow, dNum, D.le]
    | rise s =>
      rw [WfE] at hw
      have hs : s ∈ ns := hN s (by simp [nmsE, nmE, one1, nameF_nn hw])
      have hs2 : s ∈ es := hE s (by simp [nmsE, nmE, one1, nameF_nn hw])
      have hg := hen.is s hs
      have hg2 := hen.was s hs2
      have l1 := ixT_lt hs
      have l2 := ixT_lt hs2
      simp only [szN] at hV2 hC
      have ha := gand_spec G V (by omega) cs (by omega) ents [(ixT ns s : Int) + 1, -((ns.length : Int) + ixT es s + 1)] (by simp) (by intro x hx; simp at hx; unfold inW; rcases hx with rfl | rfl <;> omega)
      have hb := bs94 s
      have hsl := (name_facts hw).2.1
      have h94 : (⟨#[94]⟩ : ByteArray).size = 1 := rfl
      rw [litG, dE]
      generalize mkAnd [(ixT ns s : Int) + 1, -((ns.length : Int) + ixT es s + 1)] (V, cs) = R at ha ⊢
      refine MC.of_body (tyOf_good _) Tryz.func42 rfl rfl (rs := [.tmp 4]) Tryz.results42 (by simp [Tryz.ntmps42]) rfl fun X => ?_
      simp only [Tryz.ntmps42]
      refine AW_rg (tyOf_good _) [0, 1] [501, 502, 503] (notIn_ok rfl) fun K' hK' => ?_
      repeat (refine sxf_next fun K2 hK2 => ?_; simp [dNum, bRow, dS, pairA, assertA, ofOk, zeroM]; (repeat (refine ⟨by omega, ?_⟩)); refine hK2 _ ?_; clear hK2 K2)
      refine sxf_nil (hK' _ ?_)
      refine AW.st (by simp [dNum, bRow, dS, pairA, assertA, ofOk, zeroM]; rfl) ?_
      clear hK' K'
      refine AW_then fun K1 hK1 => ?_
      refine AW_rg (tyOf_good _) [0, 1, 20] [501, 502, 503] (notIn_ok rfl) fun K' hK' => ?_
      repeat (refine sxf_next fun K2 hK2 => ?_; simp [dNum, bRow, dS, pairA, assertA, ofOk, zeroM]; (repeat (refine ⟨by omega, ?_⟩)); refine hK2 _ ?_; clear hK2 K2)
      refine sxf_nil (hK' _ ?_)
      refine AW.st (by simp [dNum, bRow, dS, pairA, assertA, ofOk, zeroM]; rfl) ?_
      clear hK' K'
      refine AW_block ?_
      refine AW_rg (tyOf_good _) [0, 1, 20, 22, 23] [501, 502, 503] (notIn_ok rfl) fun K' hK' => ?_
      repeat (refine sxf_next fun K2 hK2 => ?_; simp [dNum, bRow, dS, pairA, assertA, ofOk, zeroM]; (repeat (refine ⟨by omega, ?_⟩)); refine hK2 _ ?_; clear hK2 K2)
      refine sxf_nil (hK' _ ?_)
      refine AW.st (by simp [dNum, bRow, dS, pairA, assertA, ofOk, zeroM]; rfl) ?_
      clear hK' K'
      refine AW_cond false rfl (fun h => by cases h) (fun _ => ?_)
      refine AW_rg (tyOf_good _) [0, 1, 20, 31, 32] [501, 502, 503] (notIn_ok rfl) fun K' hK' => ?_
      repeat (refine sxf_next fun K2 hK2 => ?_; simp [dNum, bRow, dS, pairA, assertA, ofOk, zeroM]; (repeat (refine ⟨by omega, ?_⟩)); refine hK2 _ ?_; clear hK2 K2)
      refine sxf_nil (hK' _ ?_)
      refine AW.st (by simp [dNum, bRow, dS, pairA, assertA, ofOk, zeroM]; rfl) ?_
      clear hK' K'
      refine AW_cond true rfl (fun _ => ?_) (fun h => by cases h)
      refine AW_rg (tyOf_good _) [0, 6] [501, 502, 503] (notIn_ok rfl) fun K' hK' => ?_
      repeat (refine sxf_next fun K2 hK2 => ?_; simp [dNum, bRow, dS, pairA, assertA, ofOk, zeroM]; (repeat (refine ⟨by omega, ?_⟩)); refine hK2 _ ?_; clear hK2 K2)
      refine sxf_nil (hK' _ ?_)
      refine AW.st (by simp [dNum, bRow, dS, pairA, assertA, ofOk, zeroM]; rfl) ?_
      clear hK' K'
      refine AW_rm (tyOf_good _) (by kernel_rfl) ([502]) ([15]) ([16]) ([]) (List.range 18) [4] [501, 502, 503] (notIn_ok rfl) (by kernel_rfl) (by simp [OffE]) fun K' hK' => ?_
      repeat (refine sxm_nextO rfl fun K2 hK2 => ?_; simp [dNum, bRow, dS, pairA, assertA, ofOk, zeroM, hg, hg2, hk1, hb, h94, binS, bs_size, dRow, dInts]; (repeat (refine ⟨by omega, ?_⟩)); refine hK2 _ ?_; clear hK2 K2)
      refine sxm_nextO rfl fun K2 hK2 => ?_
      simp [dNum, bRow, dS, pairA, assertA, ofOk, zeroM, hg, hg2, hk1, hb, h94, binS, bs_size, dRow, dInts]
      refine hcK.mc (ha) (by simp [dNum, bRow, dS, pairA, assertA, ofOk, zeroM, hg, hg2, hk1, hb, h94, binS, bs_size, dRow, dInts]) (by simp [dNum, bRow, dS, pairA, assertA, ofOk, zeroM, hg, hg2, hk1, hb, h94, binS, bs_size, dRow, dInts]) (by simp [dNum, bRow, dS, pairA, assertA, ofOk, zeroM, hg, hg2, hk1, hb, h94, binS, bs_size, dRow, dInts]) (by simp [dNum, bRow, dS, pairA, assertA, ofOk, zeroM, hg, hg2, hk1, hb, h94, binS, bs_size, dRow, dInts]) (by simp [dNum, bRow, dS, pairA, assertA, ofOk, zeroM, hg, hg2, hk1, hb, h94, binS, bs_size, dRow, dInts]) (by simp [dNum, bRow, dS, pairA, assertA, ofOk, zeroM, hg, hg2, hk1, hb, h94, binS, bs_size, dRow, dInts]) (by simp [LdSame, dNum, bRow, dS, pairA, assertA, ofOk, zeroM, hg, hg2, hk1, hb, h94, binS, bs_size, dRow, dInts]) ?_
      simp [dNum, bRow, dS, pairA, assertA, ofOk, zeroM, hg, hg2, hk1, hb, h94, binS, bs_size, dRow, dInts]
      refine hK2 _ ?_
      clear hK2 K2
      repeat (refine sxm_nextO rfl fun K2 hK2 => ?_; simp [dNum, bRow, dS, pairA, assertA, ofOk, zeroM, hg, hg2, hk1, hb, h94, binS, bs_size, dRow, dInts]; (repeat (refine ⟨by omega, ?_⟩)); refine hK2 _ ?_; clear hK2 K2)
      refine sxm_nilO (hK' _ ?_)
      refine AW.st (by simp [dNum, bRow, dS, pairA, assertA, ofOk, zeroM, hg, hg2, hk1, hb, h94, binS, bs_size, dRow, dInts]; rfl) ?_
      clear hK' K'
      refine AW_ret ?_
      simp [bRow, dNum, D.le, dRow, dInts]
    | fall s =>
      rw [WfE] at hw
      have hs : s ∈ ns := hN s (by simp [nmsE, nmE, one1, nameF_nn hw])
      have hs2 : s ∈ es := hE s (by simp [nmsE, nmE, one1, nameF_nn hw])
      have hg := hen.is s hs
      have hg2 := hen.was s hs2
      have l1 := ixT_lt hs
      have l2 := ixT_lt hs2
      simp only [szN] at hV2 hC
      have ha := gand_spec G V (by omega) cs (by omega) ents [-((ixT ns s : Int) + 1), (ns.length : Int) + ixT es s + 1] (by simp) (by intro x hx; simp at hx; unfold inW; rcases hx with rfl | rfl <;> omega)
      have hb := bs94 s
      have hsl := (name_facts hw).2.1
      have h94 : (⟨#[94]⟩ : ByteArray).size = 1 := rfl
      rw [litG, dE]
      generalize mkAnd [-((ixT ns s : Int) + 1), (ns.length : Int) + ixT es s + 1] (V, cs) = R at ha ⊢
      refine MC.of_body (tyOf_good _) Tryz.func42 rfl rfl (rs := [.tmp 4]) Tryz.results42 (by simp [Tryz.ntmps42]) rfl fun X => ?_
      simp only [Tryz.ntmps42]
      refine AW_rg (tyOf_good _) [0, 1] [501, 502, 503] (notIn_ok rfl) fun K' hK' => ?_
      repeat (refine sxf_next fun K2 hK2 => ?_; simp [dNum, bRow, dS, pairA, assertA, ofOk, zeroM]; (repeat (refine ⟨by omega, ?_⟩)); refine hK2 _ ?_; clear hK2 K2)
      refine sxf_nil (hK' _ ?_)
      refine AW.st (by simp [dNum, bRow, dS, pairA, assertA, ofOk, zeroM]; rfl) ?_
      clear hK' K'
      refine AW_then fun K1 hK1 => ?_
      refine AW_rg (tyOf_good _) [0, 1, 20] [501, 502, 503] (notIn_ok rfl) fun K' hK' => ?_
      repeat (refine sxf_next fun K2 hK2 => ?_; simp [dNum, bRow, dS, pairA, assertA, ofOk, zeroM]; (repeat (refine ⟨by omega, ?_⟩)); refine hK2 _ ?_; clear hK2 K2)
      refine sxf_nil (hK' _ ?_)
      refine AW.st (by simp [dNum, bRow, dS, pairA, assertA, ofOk, zeroM]; rfl) ?_
      clear hK' K'
      refine AW_block ?_
      refine AW_rg (tyOf_good _) [0, 1, 20, 22, 23] [501, 502, 503] (notIn_ok rfl) fun K' hK' => ?_
      repeat (refine sxf_next fun K2 hK2 => ?_; simp [dNum, bRow, dS, pairA, assertA, ofOk, zeroM]; (repeat (refine ⟨by omega, ?_⟩)); refine hK2 _ ?_; clear hK2 K2)
      refine sxf_nil (hK' _ ?_)
      refine AW.st (by simp [dNum, bRow, dS, pairA, assertA, ofOk, zeroM]; rfl) ?_
      clear hK' K'
      refine AW_cond false rfl (fun h => by cases h) (fun _ => ?_)
      refine AW_rg (tyOf_good _) [0, 1, 20, 31, 32] [501, 502, 503] (notIn_ok rfl) fun K' hK' => ?_
      repeat (refine sxf_next fun K2 hK2 => ?_; simp [dNum, bRow, dS, pairA, assertA, ofOk, zeroM]; (repeat (refine ⟨by omega, ?_⟩)); refine hK2 _ ?_; clear hK2 K2)
      refine sxf_nil (hK' _ ?_)
      refine AW.st (by simp [dNum, bRow, dS, pairA, assertA, ofOk, zeroM]; rfl) ?_
      clear hK' K'
      refine AW_cond false rfl (fun h => by cases h) (fun _ => ?_)
      refine AW_rg (tyOf_good _) [0, 1, 20, 51, 52] [501, 502, 503] (notIn_ok rfl) fun K' hK' => ?_
      repeat (refine sxf_next fun K2 hK2 => ?_; simp [dNum, bRow, dS, pairA, assertA, ofOk, zeroM]; (repeat (refine ⟨by omega, ?_⟩)); refine hK2 _ ?_; clear hK2 K2)
      refine sxf_nil (hK' _ ?_)
      refine AW.st (by simp [dNum, bRow, dS, pairA, assertA, ofOk, zeroM]; rfl) ?_
      clear hK' K'
      refine AW_cond true rfl (fun _ => ?_) (fun h => by cases h)
      refine AW_rg (tyOf_good _) [0, 7] [501, 502, 503] (notIn_ok rfl) fun K' hK' => ?_
      repeat (refine sxf_next fun K2 hK2 => ?_; simp [dNum, bRow, dS, pairA, assertA, ofOk, zeroM]; (repeat (refine ⟨by omega, ?_⟩)); refine hK2 _ ?_; clear hK2 K2)
      refine sxf_nil (hK' _ ?_)
      refine AW.st (by simp [dNum, bRow, dS, pairA, assertA, ofOk, zeroM]; rfl) ?_
      clear hK' K'
      refine AW_rm (tyOf_good _) (by kernel_rfl) ([502]) ([15]) ([16]) ([]) (List.range 18) [4] [501, 502, 503] (notIn_ok rfl) (by kernel_rfl) (by simp [OffE]) fun K' hK' => ?_
      repeat (refine sxm_nextO rfl fun K2 hK2 => ?_; simp [dNum, bRow, dS, pairA, assertA, ofOk, zeroM, hg, hg2, hk1, hb, h94, binS, bs_size, dRow, dInts]; (repeat (refine ⟨by omega, ?_⟩)); refine hK2 _ ?_; clear hK2 K2)
      refine sxm_nextO rfl fun K2 hK2 => ?_
      simp [dNum, bRow, dS, pairA, assertA, ofOk, zeroM, hg, hg2, hk1, hb, h94, binS, bs_size, dRow, dInts]
      refine hcK.mc (ha) (by simp [dNum, bRow, dS, pairA, assertA, ofOk, zeroM, hg, hg2, hk1, hb, h94, binS, bs_size, dRow, dInts]) (by simp [dNum, bRow, dS, pairA, assertA, ofOk, zeroM, hg, hg2, hk1, hb, h94, binS, bs_size, dRow, dInts]) (by simp [dNum, bRow, dS, pairA, assertA, ofOk, zeroM, hg, hg2, hk1, hb, h94, binS, bs_size, dRow, dInts]) (by simp [dNum, bRow, dS, pairA, assertA, ofOk, zeroM, hg, hg2, hk1, hb, h94, binS, bs_size, dRow, dInts]) (by simp [dNum, bRow, dS, pairA, assertA, ofOk, zeroM, hg, hg2, hk1, hb, h94, binS, bs_size, dRow, dInts]) (by simp [dNum, bRow, dS, pairA, assertA, ofOk, zeroM, hg, hg2, hk1, hb, h94, binS, bs_size, dRow, dInts]) (by simp [LdSame, dNum, bRow, dS, pairA, assertA, ofOk, zeroM, hg, hg2, hk1, hb, h94, binS, bs_size, dRow, dInts]) ?_
      simp [dNum, bRow, dS, pairA, assertA, ofOk, zeroM, hg, hg2, hk1, hb, h94, binS, bs_size, dRow, dInts]
      refine hK2 _ ?_
      clear hK2 K2
      repeat (refine sxm_nextO rfl fun K2 hK2 => ?_; simp [dNum, bRow, dS, pairA, assertA, ofOk, zeroM, hg, hg2, hk1, hb, h94, binS, bs_size, dRow, dInts]; (repeat (refine ⟨by omega, ?_⟩)); refine hK2 _ ?_; clear hK2 K2)
      refine sxm_nilO (hK' _ ?_)
      refine AW.st (by simp [dNum, bRow, dS, pairA, assertA, ofOk, zeroM, hg, hg2, hk1, hb, h94, binS, bs_size, dRow, dInts]; rfl) ?_
      clear hK' K'
      refine AW_ret ?_
      simp [bRow, dNum, D.le, dRow, dInts]
    | not x =>
      rw [WfE] at hw
      have hN' : ∀ s ∈ nmsE true x, s ∈ ns := fun s h => hN s (by rw [nmsE]; exact h)
      have hE' : ∀ s ∈ nmsE false x, s ∈ es := fun s h => hE s (by rw [nmsE]; exact h)
      simp only [szN] at hV2 hC
      have hc := ih x (by simp at hsz; omega) hN' hE' hw V cs hV (by omega) (by omega)
      have hin := lit_inW ns es x hN' hE' hw (V, cs) hV (by dsimp only; omega)
      rw [litG, dE]
      obtain ⟨tx, cx, hx⟩ := dE_ifc x
      rw [hx] at hc ⊢
      generalize litG ns es x (V, cs) = R at hc hin ⊢
      refine MC.of_body (tyOf_good _) Tryz.func42 rfl rfl (rs := [.tmp 4]) Tryz.results42 (by simp [Tryz.ntmps42]) rfl fun X => ?_
      simp only [Tryz.ntmps42]
      refine AW_rg (tyOf_good _) [0, 1] [501, 502, 503] (notIn_ok rfl) fun K' hK' => ?_
      repeat (refine sxf_next fun K2 hK2 => ?_; simp [dNum, bRow, dS, pairA, assertA, ofOk, zeroM]; (repeat (refine ⟨by omega, ?_⟩)); refine hK2 _ ?_; clear hK2 K2)
      refine sxf_nil (hK' _ ?_)
      refine AW.st (by simp [dNum, bRow, dS, pairA, assertA, ofOk, zeroM]; rfl) ?_
      clear hK' K'
      refine AW_then fun K1 hK1 => ?_
      refine AW_rg (tyOf_good _) [0, 1, 20] [501, 502, 503] (notIn_ok rfl) fun K' hK' => ?_
      repeat (refine sxf_next fun K2 hK2 => ?_; simp [dNum, bRow, dS, pairA, assertA, ofOk, zeroM]; (repeat (refine ⟨by omega, ?_⟩)); refine hK2 _ ?_; clear hK2 K2)
      refine sxf_nil (hK' _ ?_)
      refine AW.st (by simp [dNum, bRow, dS, pairA, assertA, ofOk, zeroM]; rfl) ?_
      clear hK' K'
      refine AW_block ?_
      refine AW_rg (tyOf_good _) [0, 1, 20, 22, 23] [501, 502, 503] (notIn_ok rfl) fun K' hK' => ?_
      repeat (refine sxf_next fun K2 hK2 => ?_; simp [dNum, bRow, dS, pairA, assertA, ofOk, zeroM]; (repeat (refine ⟨by omega, ?_⟩)); refine hK2 _ ?_; clear hK2 K2)
      refine sxf_nil (hK' _ ?_)
      refine AW.st (by simp [dNum, bRow, dS, pairA, assertA, ofOk, zeroM]; rfl) ?_
      clear hK' K'
      refine AW_cond false rfl (fun h => by cases h) (fun _ => ?_)
      refine AW_rg (tyOf_good _) [0, 1, 20, 31, 32] [501, 502, 503] (notIn_ok rfl) fun K' hK' => ?_
      repeat (refine sxf_next fun K2 hK2 => ?_; simp [dNum, bRow, dS, pairA, assertA, ofOk, zeroM]; (repeat (refine ⟨by omega, ?_⟩)); refine hK2 _ ?_; clear hK2 K2)
      refine sxf_nil (hK' _ ?_)
      refine AW.st (by simp [dNum, bRow, dS, pairA, assertA, ofOk, zeroM]; rfl) ?_
      clear hK' K'
      refine AW_cond false rfl (fun h => by cases h) (fun _ => ?_)
      refine AW_rg (tyOf_good _) [0, 1, 20, 51, 52] [501, 502, 503] (notIn_ok rfl) fun K' hK' => ?_
      repeat (refine sxf_next fun K2 hK2 => ?_; simp [dNum, bRow, dS, pairA, assertA, ofOk, zeroM]; (repeat (refine ⟨by omega, ?_⟩)); refine hK2 _ ?_; clear hK2 K2)
      refine sxf_nil (hK' _ ?_)
      refine AW.st (by simp [dNum, bRow, dS, pairA, assertA, ofOk, zeroM]; rfl) ?_
      clear hK' K'
      refine AW_cond false rfl (fun h => by cases h) (fun _ => ?_)
      refine AW_rg (tyOf_good _) [0, 1, 20, 71, 72] [501, 502, 503] (notIn_ok rfl) fun K' hK' => ?_
      repeat (refine sxf_next fun K2 hK2 => ?_; simp [dNum, bRow, dS, pairA, assertA, ofOk, zeroM]; (repeat (refine ⟨by omega, ?_⟩)); refine hK2 _ ?_; clear hK2 K2)
      refine sxf_nil (hK' _ ?_)
      refine AW.st (by simp [dNum, bRow, dS, pairA, assertA, ofOk, zeroM]; rfl) ?_
      clear hK' K'
      refine AW_cond true rfl (fun _ => ?_) (fun h => by cases h)
      refine AW_rg (tyOf_good _) [0, 8] [501, 502, 503, 8] (notIn_ok rfl) fun K' hK' => ?_
      repeat (refine sxf_next fun K2 hK2 => ?_; simp [dNum, bRow, dS, pairA, assertA, ofOk, zeroM]; (repeat (refine ⟨by omega, ?_⟩)); refine hK2 _ ?_; clear hK2 K2)
      refine sxf_nil (hK' _ ?_)
      refine AW.st (by simp [dNum, bRow, dS, pairA, assertA, ofOk, zeroM]; rfl) ?_
      clear hK' K'
      refine AW_rg (tyOf_good _) [4] [501, 502, 503] (notIn_ok rfl) fun K' hK' => ?_
      repeat (refine sxf_next fun K2 hK2 => ?_; simp [dNum, bRow, dS, pairA, assertA, ofOk, zeroM]; (repeat (refine ⟨by omega, ?_⟩)); refine hK2 _ ?_; clear hK2 K2)
      refine sxf_next fun K2 hK2 => ?_
      simp [dNum, bRow, dS, pairA, assertA, ofOk, zeroM]
      refine callK.mc (hc) (by simp [dNum, bRow, dS, pairA, assertA, ofOk, zeroM]) (by simp [dNum, bRow, dS, pairA, assertA, ofOk, zeroM]) (by simp [dNum, bRow, dS, pairA, assertA, ofOk, zeroM]) (by simp [dNum, bRow, dS, pairA, assertA, ofOk, zeroM]) ?_
      simp [dNum, bRow, dS, pairA, assertA, ofOk, zeroM]
      refine hK2 _ ?_
      clear hK2 K2
      repeat (refine sxf_next fun K2 hK2 => ?_; simp [dNum, bRow, dS, pairA, assertA, ofOk, zeroM]; (repeat (refine ⟨by omega, ?_⟩)); refine hK2 _ ?_; clear hK2 K2)
      refine sxf_nil (hK' _ ?_)
      refine AW.st (by simp [dNum, bRow, dS, pairA, assertA, ofOk, zeroM]; rfl) ?_
      clear hK' K'
      refine AW_ret ?_
      simp [bRow, dNum, D.le, dRow, dInts]
    | and l =>
      rw [WfE] at hw
      have hwl := (WfEs_iff l).1 hw.2
      have hN' : ∀ s ∈ nmsL true l, s ∈ ns := fun s h => hN s (by rw [nmsE]; exact h)
      have hE' : ∀ s ∈ nmsL false l, s ∈ es := fun s h => hE s (by rw [nmsE]; exact h)
      simp only [szN] at hV2 hC
      have hch : ∀ x ∈ l, LitAt G ns es ents x := fun x hx => ih x (by have := List.sizeOf_lt_of_mem hx; simp only [Ex.and.sizeOf_spec] at hsz; omega) (fun s h => hN' s (nms_at hx h)) (fun s h => hE' s (nms_at hx h)) (hwl x hx)
      have hlb := len_szNs l
      have hpre : ∀ i, i ≤ l.length → ns.length + es.length ≤ (litsG ns es (l.take i) (V, cs)).2.1 ∧ (litsG ns es (l.take i) (V, cs)).2.1 ≤ V + szNs (l.take i) ∧ (litsG ns es (l.take i) (V, cs)).2.2.length + i ≤ cs.length + 4 * szNs (l.take i) := fun i hi => by
        have h1 := litsG_size ns es (l.take i) (V, cs)
        have h2 := litsG_vars ns es (l.take i) (V, cs)
        rw [List.length_take] at h1
        have : min i l.length = i := by omega
        rw [this] at h1
        dsimp only at h1 h2
        exact ⟨by omega, h1.1, h1.2⟩
      have hall := lits_inW ns es l hN' hE' hwl (V, cs) hV (by dsimp only; omega)
      rw [litG, dE, dEs_map]
      refine MC.of_body (tyOf_good _) Tryz.func42 rfl rfl (rs := [.tmp 4]) Tryz.results42 (by simp [Tryz.ntmps42]) rfl fun X => ?_
      simp only [Tryz.ntmps42]
      refine AW_rg (tyOf_good _) [0, 1] [501, 502, 503] (notIn_ok rfl) fun K' hK' => ?_
      repeat (refine sxf_next fun K2 hK2 => ?_; simp [dNum, bRow, dS, pairA, assertA, ofOk, zeroM]; (repeat (refine ⟨by omega, ?_⟩)); refine hK2 _ ?_; clear hK2 K2)
      refine sxf_nil (hK' _ ?_)
      refine AW.st (by simp [dNum, bRow, dS, pairA, assertA, ofOk, zeroM]; rfl) ?_
      clear hK' K'
      refine AW_then fun K1 hK1 => ?_
      refine AW_rg (tyOf_good _) [0, 1, 20] [501, 502, 503] (notIn_ok rfl) fun K' hK' => ?_
      repeat (refine sxf_next fun K2 hK2 => ?_; simp [dNum, bRow, dS, pairA, assertA, ofOk, zeroM]; (repeat (refine ⟨by omega, ?_⟩)); refine hK2 _ ?_; clear hK2 K2)
      refine sxf_nil (hK' _ ?_)
      refine AW.st (by simp [dNum, bRow, dS, pairA, assertA, ofOk, zeroM]; rfl) ?_
      clear hK' K'
      refine AW_block ?_
      refine AW_rg (tyOf_good _) [0, 1, 20, 22, 23] [501, 502, 503] (notIn_ok rfl) fun K' hK' => ?_
      repeat (refine sxf_next fun K2 hK2 => ?_; simp [dNum, bRow, dS, pairA, assertA, ofOk, zeroM]; (repeat (refine ⟨by omega, ?_⟩)); refine hK2 _ ?_; clear hK2 K2)
      refine sxf_nil (hK' _ ?_)
      refine AW.st (by simp [dNum, bRow, dS, pairA, assertA, ofOk, zeroM]; rfl) ?_
      clear hK' K'
      refine AW_cond false rfl (fun h => by cases h) (fun _ => ?_)
      refine AW_rg (tyOf_good _) [0, 1, 20, 31, 32] [501, 502, 503] (notIn_ok rfl) fun K' hK' => ?_
      repeat (refine sxf_next fun K2 hK2 => ?_; simp [dNum, bRow, dS, pairA, assertA, ofOk, zeroM]; (repeat (refine ⟨by omega, ?_⟩)); refine hK2 _ ?_; clear hK2 K2)
      refine sxf_nil (hK' _ ?_)
      refine AW.st (by simp [dNum, bRow, dS, pairA, assertA, ofOk, zeroM]; rfl) ?_
      clear hK' K'
      refine AW_cond false rfl (fun h => by cases h) (fun _ => ?_)
      refine AW_rg (tyOf_good _) [0, 1, 20, 51, 52] [501, 502, 503] (notIn_ok rfl) fun K' hK' => ?_
      repeat (refine sxf_next fun K2 hK2 => ?_; simp [dNum, bRow, dS, pairA, assertA, ofOk, zeroM]; (repeat (refine ⟨by omega, ?_⟩)); refine hK2 _ ?_; clear hK2 K2)
      refine sxf_nil (hK' _ ?_)
      refine AW.st (by simp [dNum, bRow, dS, pairA, assertA, ofOk, zeroM]; rfl) ?_
      clear hK' K'
      refine AW_cond false rfl (fun h => by cases h) (fun _ => ?_)
      refine AW_rg (tyOf_good _) [0, 1, 20, 71, 72] [501, 502, 503] (notIn_ok rfl) fun K' hK' => ?_
      repeat (refine sxf_next fun K2 hK2 => ?_; simp [dNum, bRow, dS, pairA, assertA, ofOk, zeroM]; (repeat (refine ⟨by omega, ?_⟩)); refine hK2 _ ?_; clear hK2 K2)
      refine sxf_nil (hK' _ ?_)
      refine AW.st (by simp [dNum, bRow, dS, pairA, assertA, ofOk, zeroM]; rfl) ?_
      clear hK' K'
      refine AW_cond false rfl (fun h => by cases h) (fun _ => ?_)
      refine AW_rg (tyOf_good _) [0, 1, 20, 79, 80] [501, 502, 503] (notIn_ok rfl) fun K' hK' => ?_
      repeat (refine sxf_next fun K2 hK2 => ?_; simp [dNum, bRow, dS, pairA, assertA, ofOk, zeroM]; (repeat (refine ⟨by omega, ?_⟩)); refine hK2 _ ?_; clear hK2 K2)
      refine sxf_nil (hK' _ ?_)
      refine AW.st (by simp [dNum, bRow, dS, pairA, assertA, ofOk, zeroM]; rfl) ?_
      clear hK' K'
      refine AW_cond true rfl (fun _ => ?_) (fun h => by cases h)
      refine AW_rg (tyOf_good _) [0, 9] [501, 502, 503] (notIn_ok rfl) fun K' hK' => ?_
      repeat (refine sxf_next fun K2 hK2 => ?_; simp [dNum, bRow, dS, pairA, assertA, ofOk, zeroM]; (repeat (refine ⟨by omega, ?_⟩)); refine hK2 _ ?_; clear hK2 K2)
      refine sxf_nil (hK' _ ?_)
      refine AW.st (by simp [dNum, bRow, dS, pairA, assertA, ofOk, zeroM]; rfl) ?_
      clear hK' K'
      refine AW_rg (tyOf_good _) [0, 9, 10] [501, 502, 503] (notIn_ok rfl) fun K' hK' => ?_
      repeat (refine sxf_next fun K2 hK2 => ?_; simp [dNum, bRow, dS, pairA, assertA, ofOk, zeroM]; (repeat (refine ⟨by omega, ?_⟩)); refine hK2 _ ?_; clear hK2 K2)
      refine sxf_nil (hK' _ ?_)
      refine AW.st (by simp [dNum, bRow, dS, pairA, assertA, ofOk, zeroM]; rfl) ?_
      clear hK' K'
      refine AW_then fun K2 hK2 => ?_
      refine AW_rg (tyOf_good _) [0, 10, 81, 82, 83] [501, 502, 503] (notIn_ok rfl) fun K' hK' => ?_
      repeat (refine sxf_next fun K2 hK2 => ?_; simp [dNum, bRow, dS, pairA, assertA, ofOk, zeroM]; (repeat (refine ⟨by omega, ?_⟩)); refine hK2 _ ?_; clear hK2 K2)
      refine sxf_nil (hK' _ ?_)
      refine AW.st (by simp [dNum, bRow, dS, pairA, assertA, ofOk, zeroM]; rfl) ?_
      clear hK' K'
      refine AW_for (S := Nat) (fun i => i ≤ l.length) (fun i => ⟨lst [(0, .ref 501 0 0), (10, .own 300 0 i), (81, .d (.sl none (l.map fun x => [dE x]))), (82, int l.length), (83, int i)], hlst (bRow (litsG ns es (l.take i) (V, cs)).2.1 (litsG ns es (l.take i) (V, cs)).2.2 ents ++ [(300, .sl 3 1 ((litsG ns es (l.take i) (V, cs)).1.map fun x => [dNum (x)]))])⟩) (fun i => l.length - i) 0 ?_ (by omega) ?_
      · refine (Imp.adopt 10 300 3 1 rfl rfl).trans ?_
        refine Imp.to' (notIn_ok rfl) (by simp [dNum, bRow, dS, pairA, assertA, ofOk, zeroM, litsG]) (by simp [dNum, bRow, dS, pairA, assertA, ofOk, zeroM, litsG])
      · intro i hi
        refine AW_rg (tyOf_good _) [0, 10, 81, 82, 83, 84] [501, 502, 503, 300] (notIn_ok rfl) fun K' hK' => ?_
        repeat (refine sxf_next fun K2 hK2 => ?_; simp [dNum, bRow, dS, pairA, assertA, ofOk, zeroM]; (repeat (refine ⟨by omega, ?_⟩)); refine hK2 _ ?_; clear hK2 K2)
        refine sxf_nil (hK' _ ?_)
        refine AW.st (by simp [dNum, bRow, dS, pairA, assertA, ofOk, zeroM]; rfl) ?_
        clear hK' K'
        refine AW_then fun K3 hK3 => ?_
        refine AW_cond' (b := i < l.length) (by simp [D.le, D.le.go, takeMap, dNum, bRow, dS, pairA, assertA, ofOk, zeroM]) (fun hc => ?_) (fun hc => ?_)
        · have hil : i < l.length := hc
          obtain ⟨p1, p2, p3⟩ := hpre i hi
          have htk := litsG_take ns es hil (V, cs)
          have hsz2 := szNs_take hil
          have hsz3 := szNs_le l (i + 1)
          have hll := litsG_len ns es (l.take i) (V, cs)
          rw [List.length_take] at hll
          have hmn : min i l.length = i := by omega
          rw [hmn] at hll
          have hcc := hch _ (List.getElem_mem hil) _ (litsG ns es (l.take i) (V, cs)).2.2 p1 (by omega) (by omega)
          have hin := lit_inW ns es l[i] (fun s h => hN' s (nms_at (List.getElem_mem hil) h)) (fun s h => hE' s (nms_at (List.getElem_mem hil) h)) (hwl _ (List.getElem_mem hil)) (litsG ns es (l.take i) (V, cs)).2 p1 (by omega)
          obtain ⟨tx, cx, hx⟩ := dE_ifc l[i]
          rw [hx] at hcc
          have hpe : ((litsG ns es (l.take i) (V, cs)).2.1, (litsG ns es (l.take i) (V, cs)).2.2) = (litsG ns es (l.take i) (V, cs)).2 := rfl
          rw [hpe] at hcc
          generalize litG ns es l[i] (litsG ns es (l.take i) (V, cs)).2 = R at hcc hin htk
          generalize litsG ns es (l.take i) (V, cs) = Q at *
          refine AW_skip (hK3 _ ?_)
          refine AW_then fun K4 hK4 => ?_
          refine AW_block ?_
          refine AW_rg (tyOf_good _) [0, 10, 12, 81, 82, 83] [501, 502, 503, 300] (notIn_ok rfl) fun K' hK' => ?_
          repeat (refine sxf_next fun K2 hK2 => ?_; simp [dNum, bRow, dS, pairA, assertA, ofOk, zeroM, hil, hx]; (repeat (refine ⟨by omega, ?_⟩)); refine hK2 _ ?_; clear hK2 K2)
          refine sxf_nil (hK' _ ?_)
          refine AW.st (by simp [dNum, bRow, dS, pairA, assertA, ofOk, zeroM, hil, hx]; rfl) ?_
          clear hK' K'
          refine AW_re (tyOf_good _) fun K' hK' => ?_
          repeat (refine sxf_next fun K2 hK2 => ?_; simp [dNum, bRow, dS, pairA, assertA, ofOk, zeroM]; (repeat (refine ⟨by omega, ?_⟩)); refine hK2 _ ?_; clear hK2 K2)
          refine sxf_next fun K2 hK2 => ?_
          simp [dNum, bRow, dS, pairA, assertA, ofOk, zeroM]
          refine callK.mc (hcc) (by simp [dNum, bRow, dS, pairA, assertA, ofOk, zeroM]) (by simp [dNum, bRow, dS, pairA, assertA, ofOk, zeroM]) (by simp [dNum, bRow, dS, pairA, assertA, ofOk, zeroM]) (by simp [dNum, bRow, dS, pairA, assertA, ofOk, zeroM]) ?_
          simp [dNum, bRow, dS, pairA, assertA, ofOk, zeroM]
          refine hK2 _ ?_
          clear hK2 K2
          repeat (refine sxf_next fun K2 hK2 => ?_; simp [dNum, bRow, dS, pairA, assertA, ofOk, zeroM]; (repeat (refine ⟨by omega, ?_⟩)); refine hK2 _ ?_; clear hK2 K2)
          refine sxf_nil (hK' _ ?_)
          clear hK' K'
          refine hK4 _ (AW.norm [0, 10, 81, 82, 83] [501, 502, 503, 300] (notIn_ok rfl) (AW.st (by simp [dNum, bRow, dS, pairA, assertA, ofOk, zeroM]; rfl) ?_))
          refine AW_re (tyOf_good _) fun K' hK' => ?_
          repeat (refine sxf_next fun K2 hK2 => ?_; simp [dNum, bRow, dS, pairA, assertA, ofOk, zeroM]; (repeat (refine ⟨by omega, ?_⟩)); refine hK2 _ ?_; clear hK2 K2)
          refine sxf_nil (hK' _ ?_)
          clear hK' K'
          try simp only [thn, inb]
          refine Again.mk (i + 1) (by omega) (by omega) ?_
          have hq2 : ∀ f : Int → List D, List.take i (Q.1.map f) = Q.1.map f := fun f => List.take_of_length_le (by rw [List.length_map]; omega)
          refine Imp.to' (notIn_ok rfl) (by simp [dNum, bRow, dS, pairA, assertA, ofOk, zeroM, htk, hll, hq2]) (by simp [dNum, bRow, dS, pairA, assertA, ofOk, zeroM, htk, hll, hq2])
        · obtain rfl : i = l.length := by omega
          obtain ⟨p1, p2, p3⟩ := hpre l.length (Nat.le_refl _)
          rw [List.take_length] at p1 p2 p3 ⊢
          have hll := litsG_len ns es l (V, cs)
          generalize litsG ns es l (V, cs) = Q at *
          have ha := gand_spec G Q.2.1 (by omega) Q.2.2 (by omega) ents Q.1 (by omega) (fun x hx => by have := hall x hx; unfold inW; omega)
          have hpe : (Q.2.1, Q.2.2) = Q.2 := rfl
          rw [hpe] at ha
          obtain ⟨R, hR⟩ : ∃ R, mkAnd Q.1 Q.2 = R := ⟨_, rfl⟩
          rw [hR] at ha
          refine AW_exit (hK2 _ ?_)
          refine AW_rg (tyOf_good _) [4] [501, 502, 503] (notIn_ok rfl) fun K' hK' => ?_
          repeat (refine sxf_next fun K2 hK2 => ?_; simp [dNum, bRow, dS, pairA, assertA, ofOk, zeroM, dRow, dInts, hll, takeMap, Function.comp_def]; (repeat (refine ⟨by omega, ?_⟩)); refine hK2 _ ?_; clear hK2 K2)
          refine sxf_next fun K2 hK2 => ?_
          simp [dNum, bRow, dS, pairA, assertA, ofOk, zeroM, dRow, dInts, hll, takeMap, Function.comp_def]
          refine callK.frz 300 (by first | rfl | (simp [dNum, bRow, dS, pairA, assertA, ofOk, zeroM, dRow, dInts, hll, takeMap, Function.comp_def]; rfl)) (by decide) ?_
          simp [dNum, bRow, dS, pairA, assertA, ofOk, zeroM, dRow, dInts, hll, takeMap, Function.comp_def]
          refine callK.mc (ha) (by simp [dNum, bRow, dS, pairA, assertA, ofOk, zeroM, dRow, dInts, hll, takeMap, Function.comp_def]) (by simp [dNum, bRow, dS, pairA, assertA, ofOk, zeroM, dRow, dInts, hll, takeMap, Function.comp_def]) (by simp [dNum, bRow, dS, pairA, assertA, ofOk, zeroM, dRow, dInts, hll, takeMap, Function.comp_def]) (by simp [dNum, bRow, dS, pairA, assertA, ofOk, zeroM, dRow, dInts, hll, takeMap, Function.comp_def]) ?_
          simp [dNum, bRow, dS, pairA, assertA, ofOk, zeroM, dRow, dInts, hll, takeMap, Function.comp_def]
          refine hK2 _ ?_
          clear hK2 K2
          repeat (refine sxf_next fun K2 hK2 => ?_; simp [dNum, bRow, dS, pairA, assertA, ofOk, zeroM, dRow, dInts, hll, takeMap, Function.comp_def]; (repeat (refine ⟨by omega, ?_⟩)); refine hK2 _ ?_; clear hK2 K2)
          refine sxf_nil (hK' _ ?_)
          refine AW.st (by simp [dNum, bRow, dS, pairA, assertA, ofOk, zeroM, dRow, dInts, hll, takeMap, Function.comp_def]; rfl) ?_
          clear hK' K'
          refine AW_ret ?_
          simp [hR, bRow, dNum, D.le, dRow, dInts]
    | or l =>
      rw [WfE] at hw
      have hwl := (WfEs_iff l).1 hw.2
      have hN' : ∀ s ∈ nmsL true l, s ∈ ns := fun s h => hN s (by rw [nmsE]; exact h)
      have hE' : ∀ s ∈ nmsL false l, s ∈ es := fun s h => hE s (by rw [nmsE]; exact h)
      simp only [szN] at hV2 hC
      have hch : ∀ x ∈ l, LitAt G ns es ents x := fun x hx => ih x (by have := List.sizeOf_lt_of_mem hx; simp only [Ex.or.sizeOf_spec] at hsz; omega) (fun s h => hN' s (nms_at hx h)) (fun s h => hE' s (nms_at hx h)) (hwl x hx)
      have hlb := len_szNs l
      have hpre : ∀ i, i ≤ l.length → ns.length + es.length ≤ (litsG ns es (l.take i) (V, cs)).2.1 ∧ (litsG ns es (l.take i) (V, cs)).2.1 ≤ V + szNs (l.take i) ∧ (litsG ns es (l.take i) (V, cs)).2.2.length + i ≤ cs.length + 4 * szNs (l.take i) := fun i hi => by
        have h1 := litsG_size ns es (l.take i) (V, cs)
        have h2 := litsG_vars ns es (l.take i) (V, cs)
        rw [List.length_take] at h1
        have : min i l.length = i := by omega
        rw [this] at h1
        dsimp only at h1 h2
        exact ⟨by omega, h1.1, h1.2⟩
      have hall := lits_inW ns es l hN' hE' hwl (V, cs) hV (by dsimp only; omega)
      rw [litG, dE, dEs_map]
      refine MC.of_body (tyOf_good _) Tryz.func42 rfl rfl (rs := [.tmp 4]) Tryz.results42 (by simp [Tryz.ntmps42]) rfl fun X => ?_
      simp only [Tryz.ntmps42]
      refine AW_rg (tyOf_good _) [0, 1] [501, 502, 503] (notIn_ok rfl) fun K' hK' => ?_
      repeat (refine sxf_next fun K2 hK2 => ?_; simp [dNum, bRow, dS, pairA, assertA, ofOk, zeroM]; (repeat (refine ⟨by omega, ?_⟩)); refine hK2 _ ?_; clear hK2 K2)
      refine sxf_nil (hK' _ ?_)
      refine AW.st (by simp [dNum, bRow, dS, pairA, assertA, ofOk, zeroM]; rfl) ?_
      clear hK' K'
      refine AW_then fun K1 hK1 => ?_
      refine AW_rg (tyOf_good _) [0, 1, 20] [501, 502, 503] (notIn_ok rfl) fun K' hK' => ?_
      repeat (refine sxf_next fun K2 hK2 => ?_; simp [dNum, bRow, dS, pairA, assertA, ofOk, zeroM]; (repeat (refine ⟨by omega, ?_⟩)); refine hK2 _ ?_; clear hK2 K2)
      refine sxf_nil (hK' _ ?_)
      refine AW.st (by simp [dNum, bRow, dS, pairA, assertA, ofOk, zeroM]; rfl) ?_
      clear hK' K'
      refine AW_block ?_
      refine AW_rg (tyOf_good _) [0, 1, 20, 22, 23] [501, 502, 503] (notIn_ok rfl) fun K' hK' => ?_
      repeat (refine sxf_next fun K2 hK2 => ?_; simp [dNum, bRow, dS, pairA, assertA, ofOk, zeroM]; (repeat (refine ⟨by omega, ?_⟩)); refine hK2 _ ?_; clear hK2 K2)
      refine sxf_nil (hK' _ ?_)
      refine AW.st (by simp [dNum, bRow, dS, pairA, assertA, ofOk, zeroM]; rfl) ?_
      clear hK' K'
      refine AW_cond false rfl (fun h => by cases h) (fun _ => ?_)
      refine AW_rg (tyOf_good _) [0, 1, 20, 31, 32] [501, 502, 503] (notIn_ok rfl) fun K' hK' => ?_
      repeat (refine sxf_next fun K2 hK2 => ?_; simp [dNum, bRow, dS, pairA, assertA, ofOk, zeroM]; (repeat (refine ⟨by omega, ?_⟩)); refine hK2 _ ?_; clear hK2 K2)
      refine sxf_nil (hK' _ ?_)
      refine AW.st (by simp [dNum, bRow, dS, pairA, assertA, ofOk, zeroM]; rfl) ?_
      clear hK' K'
      refine AW_cond false rfl (fun h => by cases h) (fun _ => ?_)
      refine AW_rg (tyOf_good _) [0, 1, 20, 51, 52] [501, 502, 503] (notIn_ok rfl) fun K' hK' => ?_
      repeat (refine sxf_next fun K2 hK2 => ?_; simp [dNum, bRow, dS, pairA, assertA, ofOk, zeroM]; (repeat (refine ⟨by omega, ?_⟩)); refine hK2 _ ?_; clear hK2 K2)
      refine sxf_nil (hK' _ ?_)
      refine AW.st (by simp [dNum, bRow, dS, pairA, assertA, ofOk, zeroM]; rfl) ?_
      clear hK' K'
      refine AW_cond false rfl (fun h => by cases h) (fun _ => ?_)
      refine AW_rg (tyOf_good _) [0, 1, 20, 71, 72] [501, 502, 503] (notIn_ok rfl) fun K' hK' => ?_
      repeat (refine sxf_next fun K2 hK2 => ?_; simp [dNum, bRow, dS, pairA, assertA, ofOk, zeroM]; (repeat (refine ⟨by omega, ?_⟩)); refine hK2 _ ?_; clear hK2 K2)
      refine sxf_nil (hK' _ ?_)
      refine AW.st (by simp [dNum, bRow, dS, pairA, assertA, ofOk, zeroM]; rfl) ?_
      clear hK' K'
      refine AW_cond false rfl (fun h => by cases h) (fun _ => ?_)
      refine AW_rg (tyOf_good _) [0, 1, 20, 79, 80] [501, 502, 503] (notIn_ok rfl) fun K' hK' => ?_
      repeat (refine sxf_next fun K2 hK2 => ?_; simp [dNum, bRow, dS, pairA, assertA, ofOk, zeroM]; (repeat (refine ⟨by omega, ?_⟩)); refine hK2 _ ?_; clear hK2 K2)
      refine sxf_nil (hK' _ ?_)
      refine AW.st (by simp [dNum, bRow, dS, pairA, assertA, ofOk, zeroM]; rfl) ?_
      clear hK' K'
      refine AW_cond false rfl (fun h => by cases h) (fun _ => ?_)
      refine AW_rg (tyOf_good _) [0, 1, 98, 99] [501, 502, 503] (notIn_ok rfl) fun K' hK' => ?_
      repeat (refine sxf_next fun K2 hK2 => ?_; simp [dNum, bRow, dS, pairA, assertA, ofOk, zeroM]; (repeat (refine ⟨by omega, ?_⟩)); refine hK2 _ ?_; clear hK2 K2)
      refine sxf_nil (hK' _ ?_)
      refine AW.st (by simp [dNum, bRow, dS, pairA, assertA, ofOk, zeroM]; rfl) ?_
      clear hK' K'
      refine AW_cond true rfl (fun _ => ?_) (fun h => by cases h)
      refine AW_rg (tyOf_good _) [0, 13] [501, 502, 503] (notIn_ok rfl) fun K' hK' => ?_
      repeat (refine sxf_next fun K2 hK2 => ?_; simp [dNum, bRow, dS, pairA, assertA, ofOk, zeroM]; (repeat (refine ⟨by omega, ?_⟩)); refine hK2 _ ?_; clear hK2 K2)
      refine sxf_nil (hK' _ ?_)
      refine AW.st (by simp [dNum, bRow, dS, pairA, assertA, ofOk, zeroM]; rfl) ?_
      clear hK' K'
      refine AW_rg (tyOf_good _) [0, 13, 14] [501, 502, 503] (notIn_ok rfl) fun K' hK' => ?_
      repeat (refine sxf_next fun K2 hK2 => ?_; simp [dNum, bRow, dS, pairA, assertA, ofOk, zeroM]; (repeat (refine ⟨by omega, ?_⟩)); refine hK2 _ ?_; clear hK2 K2)
      refine sxf_nil (hK' _ ?_)
      refine AW.st (by simp [dNum, bRow, dS, pairA, assertA, ofOk, zeroM]; rfl) ?_
      clear hK' K'
      refine AW_then fun K2 hK2 => ?_
      refine AW_rg (tyOf_good _) [0, 14, 100, 101, 102] [501, 502, 503] (notIn_ok rfl) fun K' hK' => ?_
      repeat (refine sxf_next fun K2 hK2 => ?_; simp [dNum, bRow, dS, pairA, assertA, ofOk, zeroM]; (repeat (refine ⟨by omega, ?_⟩)); refine hK2 _ ?_; clear hK2 K2)
      refine sxf_nil (hK' _ ?_)
      refine AW.st (by simp [dNum, bRow, dS, pairA, assertA, ofOk, zeroM]; rfl) ?_
      clear hK' K'
      refine AW_for (S := Nat) (fun i => i ≤ l.length) (fun i => ⟨lst [(0, .ref 501 0 0), (14, .own 300 0 i), (100, .d (.sl none (l.map fun x => [dE x]))), (101, int l.length), (102, int i)], hlst (bRow (litsG ns es (l.take i) (V, cs)).2.1 (litsG ns es (l.take i) (V, cs)).2.2 ents ++ [(300, .sl 3 1 ((litsG ns es (l.take i) (V, cs)).1.map fun x => [dNum (-x)]))])⟩) (fun i => l.length - i) 0 ?_ (by omega) ?_
      · refine (Imp.adopt 14 300 3 1 rfl rfl).trans ?_
        refine Imp.to' (notIn_ok rfl) (by simp [dNum, bRow, dS, pairA, assertA, ofOk, zeroM, litsG]) (by simp [dNum, bRow, dS, pairA, assertA, ofOk, zeroM, litsG])
      · intro i hi
        refine AW_rg (tyOf_good _) [0, 14, 100, 101, 102, 103] [501, 502, 503, 300] (notIn_ok rfl) fun K' hK' => ?_
        repeat (refine sxf_next fun K2 hK2 => ?_; simp [dNum, bRow, dS, pairA, assertA, ofOk, zeroM]; (repeat (refine ⟨by omega, ?_⟩)); refine hK2 _ ?_; clear hK2 K2)
        refine sxf_nil (hK' _ ?_)
        refine AW.st (by simp [dNum, bRow, dS, pairA, assertA, ofOk, zeroM]; rfl) ?_
        clear hK' K'
        refine AW_then fun K3 hK3 => ?_
        refine AW_cond' (b := i < l.length) (by simp [D.le, D.le.go, takeMap, dNum, bRow, dS, pairA, assertA, ofOk, zeroM]) (fun hc => ?_) (fun hc => ?_)
        · have hil : i < l.length := hc
          obtain ⟨p1, p2, p3⟩ := hpre i hi
          have htk := litsG_take ns es hil (V, cs)
          have hsz2 := szNs_take hil
          have hsz3 := szNs_le l (i + 1)
          have hll := litsG_len ns es (l.take i) (V, cs)
          rw [List.length_take] at hll
          have hmn : min i l.length = i := by omega
          rw [hmn] at hll
          have hcc := hch _ (List.getElem_mem hil) _ (litsG ns es (l.take i) (V, cs)).2.2 p1 (by omega) (by omega)
          have hin := lit_inW ns es l[i] (fun s h => hN' s (nms_at (List.getElem_mem hil) h)) (fun s h => hE' s (nms_at (List.getElem_mem hil) h)) (hwl _ (List.getElem_mem hil)) (litsG ns es (l.take i) (V, cs)).2 p1 (by omega)
          obtain ⟨tx, cx, hx⟩ := dE_ifc l[i]
          rw [hx] at hcc
          have hpe : ((litsG ns es (l.take i) (V, cs)).2.1, (litsG ns es (l.take i) (V, cs)).2.2) = (litsG ns es (l.take i) (V, cs)).2 := rfl
          rw [hpe] at hcc
          generalize litG ns es l[i] (litsG ns es (l.take i) (V, cs)).2 = R at hcc hin htk
          generalize litsG ns es (l.take i) (V, cs) = Q at *
          refine AW_skip (hK3 _ ?_)
          refine AW_then fun K4 hK4 => ?_
          refine AW_block ?_
          refine AW_rg (tyOf_good _) [0, 14, 16, 100, 101, 102] [501, 502, 503, 300] (notIn_ok rfl) fun K' hK' => ?_
          repeat (refine sxf_next fun K2 hK2 => ?_; simp [dNum, bRow, dS, pairA, assertA, ofOk, zeroM, hil, hx]; (repeat (refine ⟨by omega, ?_⟩)); refine hK2 _ ?_; clear hK2 K2)
          refine sxf_nil (hK' _ ?_)
          refine AW.st (by simp [dNum, bRow, dS, pairA, assertA, ofOk, zeroM, hil, hx]; rfl) ?_
          clear hK' K'
          refine AW_re (tyOf_good _) fun K' hK' => ?_
          repeat (refine sxf_next fun K2 hK2 => ?_; simp [dNum, bRow, dS, pairA, assertA, ofOk, zeroM]; (repeat (refine ⟨by omega, ?_⟩)); refine hK2 _ ?_; clear hK2 K2)
          refine sxf_next fun K2 hK2 => ?_
          simp [dNum, bRow, dS, pairA, assertA, ofOk, zeroM]
          refine callK.mc (hcc) (by simp [dNum, bRow, dS, pairA, assertA, ofOk, zeroM]) (by simp [dNum, bRow, dS, pairA, assertA, ofOk, zeroM]) (by simp [dNum, bRow, dS, pairA, assertA, ofOk, zeroM]) (by simp [dNum, bRow, dS, pairA, assertA, ofOk, zeroM]) ?_
          simp [dNum, bRow, dS, pairA, assertA, ofOk, zeroM]
          refine hK2 _ ?_
          clear hK2 K2
          repeat (refine sxf_next fun K2 hK2 => ?_; simp [dNum, bRow, dS, pairA, assertA, ofOk, zeroM]; (repeat (refine ⟨by omega, ?_⟩)); refine hK2 _ ?_; clear hK2 K2)
          refine sxf_nil (hK' _ ?_)
          clear hK' K'
          refine hK4 _ (AW.norm [0, 14, 100, 101, 102] [501, 502, 503, 300] (notIn_ok rfl) (AW.st (by simp [dNum, bRow, dS, pairA, assertA, ofOk, zeroM]; rfl) ?_))
          refine AW_re (tyOf_good _) fun K' hK' => ?_
          repeat (refine sxf_next fun K2 hK2 => ?_; simp [dNum, bRow, dS, pairA, assertA, ofOk, zeroM]; (repeat (refine ⟨by omega, ?_⟩)); refine hK2 _ ?_; clear hK2 K2)
          refine sxf_nil (hK' _ ?_)
          clear hK' K'
          try simp only [thn, inb]
          refine Again.mk (i + 1) (by omega) (by omega) ?_
          have hq2 : ∀ f : Int → List D, List.take i (Q.1.map f) = Q.1.map f := fun f => List.take_of_length_le (by rw [List.length_map]; omega)
          refine Imp.to' (notIn_ok rfl) (by simp [dNum, bRow, dS, pairA, assertA, ofOk, zeroM, htk, hll, hq2]) (by simp [dNum, bRow, dS, pairA, assertA, ofOk, zeroM, htk, hll, hq2])
        · obtain rfl : i = l.length := by omega
          obtain ⟨p1, p2, p3⟩ := hpre l.length (Nat.le_refl _)
          rw [List.take_length] at p1 p2 p3 ⊢
          have hll := litsG_len ns es l (V, cs)
          generalize litsG ns es l (V, cs) = Q at *
          have ha := gand_spec G Q.2.1 (by omega) Q.2.2 (by omega) ents (Q.1.map fun x => -x) (by rw [List.length_map]; omega) (by intro x hx; obtain ⟨y, hy, rfl⟩ := List.mem_map.1 hx; have := hall y hy; unfold inW; omega)
          have hpe : (Q.2.1, Q.2.2) = Q.2 := rfl
          rw [hpe] at ha
          have hbd : -2^60 < (mkAnd (Q.1.map fun x => -x) Q.2).1 ∧ (mkAnd (Q.1.map fun x => -x) Q.2).1 < 2^60 := by simp only [mkAnd]; omega
          obtain ⟨R, hR⟩ : ∃ R, mkAnd (Q.1.map fun x => -x) Q.2 = R := ⟨_, rfl⟩
          rw [hR] at ha hbd
          refine AW_exit (hK2 _ ?_)
          refine AW_rg (tyOf_good _) [4] [501, 502, 503] (notIn_ok rfl) fun K' hK' => ?_
          repeat (refine sxf_next fun K2 hK2 => ?_; simp [dNum, bRow, dS, pairA, assertA, ofOk, zeroM, dRow, dInts, hll, takeMap, Function.comp_def]; (repeat (refine ⟨by omega, ?_⟩)); refine hK2 _ ?_; clear hK2 K2)
          refine sxf_next fun K2 hK2 => ?_
          simp [dNum, bRow, dS, pairA, assertA, ofOk, zeroM, dRow, dInts, hll, takeMap, Function.comp_def]
          refine callK.frz 300 (by first | rfl | (simp [dNum, bRow, dS, pairA, assertA, ofOk, zeroM, dRow, dInts, hll, takeMap, Function.comp_def]; rfl)) (by decide) ?_
          simp [dNum, bRow, dS, pairA, assertA, ofOk, zeroM, dRow, dInts, hll, takeMap, Function.comp_def]
          refine callK.mc (ha) (by simp [dNum, bRow, dS, pairA, assertA, ofOk, zeroM, dRow, dInts, hll, takeMap, Function.comp_def]) (by simp [dNum, bRow, dS, pairA, assertA, ofOk, zeroM, dRow, dInts, hll, takeMap, Function.comp_def]) (by simp [dNum, bRow, dS, pairA, assertA, ofOk, zeroM, dRow, dInts, hll, takeMap, Function.comp_def]) (by simp [dNum, bRow, dS, pairA, assertA, ofOk, zeroM, dRow, dInts, hll, takeMap, Function.comp_def]) ?_
          simp [dNum, bRow, dS, pairA, assertA, ofOk, zeroM, dRow, dInts, hll, takeMap, Function.comp_def]
          refine hK2 _ ?_
          clear hK2 K2
          repeat (refine sxf_next fun K2 hK2 => ?_; simp [dNum, bRow, dS, pairA, assertA, ofOk, zeroM, dRow, dInts, hll, takeMap, Function.comp_def]; (repeat (refine ⟨by omega, ?_⟩)); refine hK2 _ ?_; clear hK2 K2)
          refine sxf_nil (hK' _ ?_)
          refine AW.st (by simp [dNum, bRow, dS, pairA, assertA, ofOk, zeroM, dRow, dInts, hll, takeMap, Function.comp_def]; rfl) ?_
          clear hK' K'
          refine AW_ret ?_
          simp [hR, bRow, dNum, D.le, dRow, dInts]
    | cst b =>
      simp only [szN] at hV2 hC
      have hf := fresh_spec G V (by omega) cs ents
      have ha := fun x => add_spec2 G (V + 1) cs (by omega) ents [x]
      rw [litG, dE]
      refine MC.of_body (tyOf_good _) Tryz.func42 rfl rfl (rs := [.tmp 4]) Tryz.results42 (by simp [Tryz.ntmps42]) rfl fun X => ?_
      simp only [Tryz.ntmps42]
      refine AW_rg (tyOf_good _) [0, 1] [501, 502, 503] (notIn_ok rfl) fun K' hK' => ?_
      repeat (refine sxf_next fun K2 hK2 => ?_; simp [dNum, bRow, dS, pairA, assertA, ofOk, zeroM]; (repeat (refine ⟨by omega, ?_⟩)); refine hK2 _ ?_; clear hK2 K2)
      refine sxf_nil (hK' _ ?_)
      refine AW.st (by simp [dNum, bRow, dS, pairA, assertA, ofOk, zeroM]; rfl) ?_
      clear hK' K'
      refine AW_then fun K1 hK1 => ?_
      refine AW_rg (tyOf_good _) [0, 1, 20] [501, 502, 503] (notIn_ok rfl) fun K' hK' => ?_
      repeat (refine sxf_next fun K2 hK2 => ?_; simp [dNum, bRow, dS, pairA, assertA, ofOk, zeroM]; (repeat (refine ⟨by omega, ?_⟩)); refine hK2 _ ?_; clear hK2 K2)
      refine sxf_nil (hK' _ ?_)
      refine AW.st (by simp [dNum, bRow, dS, pairA, assertA, ofOk, zeroM]; rfl) ?_
      clear hK' K'
      refine AW_block ?_
      refine AW_rg (tyOf_good _) [0, 1, 20, 22, 23] [501, 502, 503] (notIn_ok rfl) fun K' hK' => ?_
      repeat (refine sxf_next fun K2 hK2 => ?_; simp [dNum, bRow, dS, pairA, assertA, ofOk, zeroM]; (repeat (refine ⟨by omega, ?_⟩)); refine hK2 _ ?_; clear hK2 K2)
      refine sxf_nil (hK' _ ?_)
      refine AW.st (by simp [dNum, bRow, dS, pairA, assertA, ofOk, zeroM]; rfl) ?_
      clear hK' K'
      refine AW_cond false rfl (fun h => by cases h) (fun _ => ?_)
      refine AW_rg (tyOf_good _) [0, 1, 20, 31, 32] [501, 502, 503] (notIn_ok rfl) fun K' hK' => ?_
      repeat (refine sxf_next fun K2 hK2 => ?_; simp [dNum, bRow, dS, pairA, assertA, ofOk, zeroM]; (repeat (refine ⟨by omega, ?_⟩)); refine hK2 _ ?_; clear hK2 K2)
      refine sxf_nil (hK' _ ?_)
      refine AW.st (by simp [dNum, bRow, dS, pairA, assertA, ofOk, zeroM]; rfl) ?_
      clear hK' K'
      refine AW_cond false rfl (fun h => by cases h) (fun _ => ?_)
      refine AW_rg (tyOf_good _) [0, 1, 20, 51, 52] [501, 502, 503] (notIn_ok rfl) fun K' hK' => ?_
      repeat (refine sxf_next fun K2 hK2 => ?_; simp [dNum, bRow, dS, pairA, assertA, ofOk, zeroM]; (repeat (refine ⟨by omega, ?_⟩)); refine hK2 _ ?_; clear hK2 K2)
      refine sxf_nil (hK' _ ?_)
      refine AW.st (by simp [dNum, bRow, dS, pairA, assertA, ofOk, zeroM]; rfl) ?_
      clear hK' K'
      refine AW_cond false rfl (fun h => by cases h) (fun _ => ?_)
      refine AW_rg (tyOf_good _) [0, 1, 20, 71, 72] [501, 502, 503] (notIn_ok rfl) fun K' hK' => ?_
      repeat (refine sxf_next fun K2 hK2 => ?_; simp [dNum, bRow, dS, pairA, assertA, ofOk, zeroM]; (repeat (refine ⟨by omega, ?_⟩)); refine hK2 _ ?_; clear hK2 K2)
      refine sxf_nil (hK' _ ?_)
      refine AW.st (by simp [dNum, bRow, dS, pairA, assertA, ofOk, zeroM]; rfl) ?_
      clear hK' K'
      refine AW_cond false rfl (fun h => by cases h) (fun _ => ?_)
      refine AW_rg (tyOf_good _) [0, 1, 20, 79, 80] [501, 502, 503] (notIn_ok rfl) fun K' hK' => ?_
      repeat (refine sxf_next fun K2 hK2 => ?_; simp [dNum, bRow, dS, pairA, assertA, ofOk, zeroM]; (repeat (refine ⟨by omega, ?_⟩)); refine hK2 _ ?_; clear hK2 K2)
      refine sxf_nil (hK' _ ?_)
      refine AW.st (by simp [dNum, bRow, dS, pairA, assertA, ofOk, zeroM]; rfl) ?_
      clear hK' K'
      refine AW_cond false rfl (fun h => by cases h) (fun _ => ?_)
      refine AW_rg (tyOf_good _) [0, 1, 98, 99] [501, 502, 503] (notIn_ok rfl) fun K' hK' => ?_
      repeat (refine sxf_next fun K2 hK2 => ?_; simp [dNum, bRow, dS, pairA, assertA, ofOk, zeroM]; (repeat (refine ⟨by omega, ?_⟩)); refine hK2 _ ?_; clear hK2 K2)
      refine sxf_nil (hK' _ ?_)
      refine AW.st (by simp [dNum, bRow, dS, pairA, assertA, ofOk, zeroM]; rfl) ?_
      clear hK' K'
      refine AW_cond false rfl (fun h => by cases h) (fun _ => ?_)
      refine AW_skip (hK1 _ ?_)
      refine AW_rg (tyOf_good _) [0, 1, 17] [501, 502, 503] (notIn_ok rfl) fun K' hK' => ?_
      repeat (refine sxf_next fun K2 hK2 => ?_; simp [dNum, bRow, dS, pairA, assertA, ofOk, zeroM]; (repeat (refine ⟨by omega, ?_⟩)); refine hK2 _ ?_; clear hK2 K2)
      refine sxf_next fun K2 hK2 => ?_
      simp [dNum, bRow, dS, pairA, assertA, ofOk, zeroM]
      refine callK.mc (hf) (by simp [dNum, bRow, dS, pairA, assertA, ofOk, zeroM]) (by simp [dNum, bRow, dS, pairA, assertA, ofOk, zeroM]) (by simp [dNum, bRow, dS, pairA, assertA, ofOk, zeroM]) (by simp [dNum, bRow, dS, pairA, assertA, ofOk, zeroM]) ?_
      simp [dNum, bRow, dS, pairA, assertA, ofOk, zeroM]
      refine hK2 _ ?_
      clear hK2 K2
      repeat (refine sxf_next fun K2 hK2 => ?_; simp [dNum, bRow, dS, pairA, assertA, ofOk, zeroM]; (repeat (refine ⟨by omega, ?_⟩)); refine hK2 _ ?_; clear hK2 K2)
      refine sxf_nil (hK' _ ?_)
      refine AW.st (by simp [dNum, bRow, dS, pairA, assertA, ofOk, zeroM]; rfl) ?_
      clear hK' K'
      refine AW_then fun K8 hK8 => ?_
      refine AW_rg (tyOf_good _) [0, 17, 18, 19] [501, 502, 503] (notIn_ok rfl) fun K' hK' => ?_
      repeat (refine sxf_next fun K2 hK2 => ?_; simp [dNum, bRow, dS, pairA, assertA, ofOk, zeroM]; (repeat (refine ⟨by omega, ?_⟩)); refine hK2 _ ?_; clear hK2 K2)
      refine sxf_nil (hK' _ ?_)
      refine AW.st (by simp [dNum, bRow, dS, pairA, assertA, ofOk, zeroM]; rfl) ?_
      clear hK' K'
      cases b with
      | true =>
        refine AW_rg (tyOf_good _) [0, 17, 128] [501, 502, 503] (notIn_ok rfl) fun K' hK' => ?_
        repeat (refine sxf_next fun K2 hK2 => ?_; simp [dNum, bRow, dS, pairA, assertA, ofOk, zeroM]; (repeat (refine ⟨by omega, ?_⟩)); refine hK2 _ ?_; clear hK2 K2)
        refine sxf_nil (hK' _ ?_)
        refine AW.st (by simp [dNum, bRow, dS, pairA, assertA, ofOk, zeroM]; rfl) ?_
        clear hK' K'
        refine AW_cond true rfl (fun _ => ?_) (fun h => by cases h)
        have ha := ha ((V : Int) + 1)
        refine AW_re (tyOf_good _) fun K' hK' => ?_
        repeat (refine sxf_next fun K2 hK2 => ?_; simp [dNum, bRow, dS, pairA, assertA, ofOk, zeroM, dRow, dInts]; (repeat (refine ⟨by omega, ?_⟩)); refine hK2 _ ?_; clear hK2 K2)
        refine sxf_next fun K2 hK2 => ?_
        simp [dNum, bRow, dS, pairA, assertA, ofOk, zeroM, dRow, dInts]
        refine callK.frz 131 (by first | rfl | (simp [dNum, bRow, dS, pairA, assertA, ofOk, zeroM, dRow, dInts]; rfl)) (by decide) ?_
        simp [dNum, bRow, dS, pairA, assertA, ofOk, zeroM, dRow, dInts]
        refine callK.mc (ha) (by simp [dNum, bRow, dS, pairA, assertA, ofOk, zeroM, dRow, dInts]) (by simp [dNum, bRow, dS, pairA, assertA, ofOk, zeroM, dRow, dInts]) (by simp [dNum, bRow, dS, pairA, assertA, ofOk, zeroM, dRow, dInts]) (by simp [dNum, bRow, dS, pairA, assertA, ofOk, zeroM, dRow, dInts]) ?_
        simp [dNum, bRow, dS, pairA, assertA, ofOk, zeroM, dRow, dInts]
        refine hK2 _ ?_
        clear hK2 K2
        repeat (refine sxf_next fun K2 hK2 => ?_; simp [dNum, bRow, dS, pairA, assertA, ofOk, zeroM, dRow, dInts]; (repeat (refine ⟨by omega, ?_⟩)); refine hK2 _ ?_; clear hK2 K2)
        refine sxf_nil (hK' _ ?_)
        clear hK' K'
        refine hK8 _ (AW.norm [17] [501, 502, 503] (notIn_ok rfl) (AW.st (by simp [dNum, bRow, dS, pairA, assertA, ofOk, zeroM, dRow, dInts]; rfl) ?_))
        refine AW_rg (tyOf_good _) [4] [501, 502, 503] (notIn_ok rfl) fun K' hK' => ?_
        repeat (refine sxf_next fun K2 hK2 => ?_; simp [dNum, bRow, dS, pairA, assertA, ofOk, zeroM]; (repeat (refine ⟨by omega, ?_⟩)); refine hK2 _ ?_; clear hK2 K2)
        refine sxf_nil (hK' _ ?_)
        refine AW.st (by simp [dNum, bRow, dS, pairA, assertA, ofOk, zeroM]; rfl) ?_
        clear hK' K'
        refine AW_ret ?_
        simp [bRow, dNum, D.le, dRow, dInts]
      | false =>
        refine AW_rg (tyOf_good _) [0, 17, 128] [501, 502, 503] (notIn_ok rfl) fun K' hK' => ?_
        repeat (refine sxf_next fun K2 hK2 => ?_; simp [dNum, bRow, dS, pairA, assertA, ofOk, zeroM]; (repeat (refine ⟨by omega, ?_⟩)); refine hK2 _ ?_; clear hK2 K2)
        refine sxf_nil (hK' _ ?_)
        refine AW.st (by simp [dNum, bRow, dS, pairA, assertA, ofOk, zeroM]; rfl) ?_
        clear hK' K'
        refine AW_cond false rfl (fun h => by cases h) (fun _ => ?_)
        have ha := ha (-((V : Int) + 1))
        refine AW_re (tyOf_good _) fun K' hK' => ?_
        repeat (refine sxf_next fun K2 hK2 => ?_; simp [dNum, bRow, dS, pairA, assertA, ofOk, zeroM, dRow, dInts]; (repeat (refine ⟨by omega, ?_⟩)); refine hK2 _ ?_; clear hK2 K2)
        refine sxf_next fun K2 hK2 => ?_
        simp [dNum, bRow, dS, pairA, assertA, ofOk, zeroM, dRow, dInts]
        refine callK.frz 136 (by first | rfl | (simp [dNum, bRow, dS, pairA, assertA, ofOk, zeroM, dRow, dInts]; rfl)) (by decide) ?_
        simp [dNum, bRow, dS, pairA, assertA, ofOk, zeroM, dRow, dInts]
        refine callK.mc (ha) (by simp [dNum, bRow, dS, pairA, assertA, ofOk, zeroM, dRow, dInts]) (by simp [dNum, bRow, dS, pairA, assertA, ofOk, zeroM, dRow, dInts]) (by simp [dNum, bRow, dS, pairA, assertA, ofOk, zeroM, dRow, dInts]) (by simp [dNum, bRow, dS, pairA, assertA, ofOk, zeroM, dRow, dInts]) ?_
        simp [dNum, bRow, dS, pairA, assertA, ofOk, zeroM, dRow, dInts]
        refine hK2 _ ?_
        clear hK2 K2
        repeat (refine sxf_next fun K2 hK2 => ?_; simp [dNum, bRow, dS, pairA, assertA, ofOk, zeroM, dRow, dInts]; (repeat (refine ⟨by omega, ?_⟩)); refine hK2 _ ?_; clear hK2 K2)
        refine sxf_nil (hK' _ ?_)
        clear hK' K'
        refine hK8 _ (AW.norm [17] [501, 502, 503] (notIn_ok rfl) (AW.st (by simp [dNum, bRow, dS, pairA, assertA, ofOk, zeroM, dRow, dInts]; rfl) ?_))
        refine AW_rg (tyOf_good _) [4] [501, 502, 503] (notIn_ok rfl) fun K' hK' => ?_
        repeat (refine sxf_next fun K2 hK2 => ?_; simp [dNum, bRow, dS, pairA, assertA, ofOk, zeroM]; (repeat (refine ⟨by omega, ?_⟩)); refine hK2 _ ?_; clear hK2 K2)
        refine sxf_nil (hK' _ ?_)
        refine AW.st (by simp [dNum, bRow, dS, pairA, assertA, ofOk, zeroM]; rfl) ?_
        clear hK' K'
        refine AW_ret ?_
        simp [bRow, dNum, D.le, dRow, dInts]
end Go.Proofs.YtagfbbnlbncjlaaGreatDoor

/-
  Rows renamed, where the heap is a list.
-/
namespace Go.Proofs.YtagfbbnlbncjlaaGreatDoor
set_option linter.unusedSimpArgs false
set_option linter.unusedVariables false
open Go.Av

theorem renH_hlst {r r' : Nat} (hr : r ≠ r') (l : List (Nat × Row)) (hl : ∀ p ∈ l, p.1 ≠ r') : renH r r' (hlst l) = hlst (l.map fun p => (if p.1 = r then r' else p.1, p.2.tr (renO r r') (renF r r'))) := by
  funext q
  unfold renH
  induction l with
  | nil => simp [hlst, List.lookup]
  | cons p l ih =>
    have ih := ih fun p hp => hl p (by simp [hp])
    have hp := hl p (by simp)
    obtain ⟨k, row⟩ := p
    simp only [hlst, List.lookup, List.map_cons] at ih ⊢
    by_cases h1 : q = r'
    · subst h1
      simp only [if_true] at ih ⊢
      by_cases h2 : k = r
      · subst h2; simp
      · have a1 : (r == k) = false := by simpa using fun e => h2 e.symm
        have a2 : (q == k) = false := by simpa using fun e => hp e.symm
        simp only [h2, if_false, a1, a2]
        exact ih
    · simp only [h1, if_false] at ih ⊢
      by_cases h2 : q = r
      · subst h2
        simp only [if_true] at ih ⊢
        by_cases h3 : k = q
        · have a1 : (q == r') = false := by simpa using h1
          simp only [h3, if_true, a1]
          exact ih
        · have a1 : (q == k) = false := by simpa using fun e => h3 e.symm
          simp only [h3, if_false, a1]
          exact ih
      · simp only [h2, if_false] at ih ⊢
        by_cases h3 : k = r
        · have a1 : (q == k) = false := by rw [h3]; simpa using h2
          have a2 : (q == r') = false := by simpa using h1
          simp only [h3, if_true, a2] at a1 ⊢
          rw [a1]
          exact ih
        · simp only [h3, if_false]
          by_cases h4 : q = k
          · subst h4; simp
          · have a1 : (q == k) = false := by simpa using h4
            simp only [a1]
            exact ih

end Go.Proofs.YtagfbbnlbncjlaaGreatDoor

/-
  gate.Of: an expression's clauses, and its literal.
-/
namespace Go.Proofs.YtagfbbnlbncjlaaGreatDoor
set_option linter.unusedSimpArgs false
set_option linter.unusedVariables false
open Go.Av

theorem nms_nameF (all : Bool) : ∀ (n : Nat) (e : Ex), SizeOf.sizeOf e ≤ n → WfE e → ∀ s ∈ nmsE all e, nameF s = true
  | 0, e, hn, _, _, _ => by cases e <;> simp at hn
  | n + 1, e, hn, hw, s, hs => by
    have many : ∀ l : List Ex, (∀ x ∈ l, SizeOf.sizeOf x ≤ n) → (∀ x ∈ l, WfE x) → ∀ s ∈ nmsL all l, nameF s = true := by
      intro l
      induction l with
      | nil => intro _ _ s h; simp [nmsL] at h
      | cons x l ih =>
        intro h1 h2 s h
        rw [nmsL, List.mem_append] at h
        rcases h with h | h
        · exact nms_nameF all n x (h1 x (by simp)) (h2 x (by simp)) s h
        · exact ih (fun y hy => h1 y (by simp [hy])) (fun y hy => h2 y (by simp [hy])) s h
    have one : ∀ {t : Tx}, s ∈ one1 t → s = t := fun {t} h => by unfold one1 at h; split at h <;> simp_all
    cases e with
    | cst b => rw [nmsE] at hs <;> simp_all [nmE, one1]
    | bit t =>
      rw [WfE] at hw
      rw [nmsE] at hs
      · cases all with
        | true => have := one hs; simp only [nmE, if_true] at this; rw [this]; exact hw
        | false => simp [nmE, one1] at hs
      all_goals (intros; simp_all)
    | rise t =>
      rw [WfE] at hw
      rw [nmsE] at hs
      · have := one hs; simp only [nmE] at this; rw [this]; exact hw
      all_goals (intros; simp_all)
    | fall t =>
      rw [WfE] at hw
      rw [nmsE] at hs
      · have := one hs; simp only [nmE] at this; rw [this]; exact hw
      all_goals (intros; simp_all)
    | not x =>
      rw [WfE] at hw
      rw [nmsE] at hs
      exact nms_nameF all n x (by simp at hn; omega) hw s hs
    | and l =>
      rw [WfE] at hw
      rw [nmsE] at hs
      exact many l (fun x hx => by have := List.sizeOf_lt_of_mem hx; simp only [Ex.and.sizeOf_spec] at hn; omega) ((WfEs_iff l).1 hw.2) s hs
    | or l =>
      rw [WfE] at hw
      rw [nmsE] at hs
      exact many l (fun x hx => by have := List.sizeOf_lt_of_mem hx; simp only [Ex.or.sizeOf_spec] at hn; omega) ((WfEs_iff l).1 hw.2) s hs

theorem nms_sz (all : Bool) : ∀ (n : Nat) (e : Ex), SizeOf.sizeOf e ≤ n → (nmsE all e).length ≤ szN e
  | 0, e, hn => by cases e <;> simp at hn
  | n + 1, e, hn => by
    have many : ∀ l : List Ex, (∀ x ∈ l, SizeOf.sizeOf x ≤ n) → (nmsL all l).length ≤ szNs l := by
      intro l
      induction l with
      | nil => intro _; simp [nmsL]
      | cons x l ih =>
        intro h
        have a := ih fun y hy => h y (by simp [hy])
        have b := nms_sz all n x (h x (by simp))
        simp only [nmsL, szNs, List.length_append]
        omega
    have hone : ∀ s, (one1 s).length ≤ 1 := fun s => by unfold one1; split <;> simp
    have hp := szN_pos e
    cases e with
    | not x => have := nms_sz all n x (by simp at hn; omega); simp only [nmsE, szN]; omega
    | and l =>
      have := many l fun x hx => by have := List.sizeOf_lt_of_mem hx; simp only [Ex.and.sizeOf_spec] at hn; omega
      simp only [nmsE, szN]; omega
    | or l =>
      have := many l fun x hx => by have := List.sizeOf_lt_of_mem hx; simp only [Ex.or.sizeOf_spec] at hn; omega
      simp only [nmsE, szN]; omega
    | cst b => have := hone (nmE all (.cst b)); simp only [nmsE]; omega
    | bit s => have := hone (nmE all (.bit s)); simp only [nmsE]; omega
    | rise s => have := hone (nmE all (.rise s)); simp only [nmsE]; omega
    | fall s => have := hone (nmE all (.fall s)); simp only [nmsE]; omega
theorem names_sz (all : Bool) (e : Ex) : (namesE all e).length ≤ szN e := by
  rw [← insL_names]
  exact Nat.le_trans (insL_len _ _) (by have := nms_sz all _ e (Nat.le_refl _); simp; omega)

/-! ### The names' numbers -/
def entsOf (f : Tx → Tx) : Nat → List Tx → List (Value × D)
  | _, [] => []
  | k, s :: l => (.string (bs (f s)), dNum ((k : Int) + 1)) :: entsOf f (k + 1) l
theorem entsOf_app (f : Tx → Tx) : ∀ (a b : List Tx) (k : Nat), entsOf f k (a ++ b) = entsOf f k a ++ entsOf f (k + a.length) b
  | [], b, k => by simp [entsOf]
  | s :: a, b, k => by
    have h := entsOf_app f a b (k + 1)
    simp only [List.cons_append, entsOf, h, List.length_cons]
    rw [show k + 1 + a.length = k + (a.length + 1) from by omega]
theorem entsOf_take (f : Tx → Tx) {l : List Tx} {i k : Nat} (h : i < l.length) : entsOf f k (l.take (i + 1)) = entsOf f k (l.take i) ++ [(.string (bs (f l[i])), dNum ((k : Int) + i + 1))] := by
  rw [List.take_succ_eq_append_getElem h, entsOf_app]
  have : min i l.length = i := by omega
  simp [entsOf, List.length_take, this]
theorem entsOf_key {f : Tx → Tx} : ∀ {l : List Tx} {k : Nat} {p : Value × D}, p ∈ entsOf f k l → ∃ s ∈ l, p.1 = .string (bs (f s))
  | [], k, p, h => by simp [entsOf] at h
  | s :: l, k, p, h => by
    rw [entsOf, List.mem_cons] at h
    rcases h with rfl | h
    · exact ⟨s, by simp, rfl⟩
    · obtain ⟨t, ht, he⟩ := entsOf_key h
      exact ⟨t, by simp [ht], he⟩
theorem bs_beq (a b : Tx) : (bs a == bs b) = (a == b) := by
  by_cases h : a = b
  · subst h
    rw [show (a == a) = true from beq_self_eq_true a]
    show ((bs a).data == (bs a).data) = true
    exact beq_self_eq_true _
  · rw [beq_eq_false_iff_ne.2 h]
    show ((bs a).data == (bs b).data) = false
    exact beq_eq_false_iff_ne.2 fun e => h (by simpa [bs] using e)
theorem key_ne {a b : Tx} (h : a ≠ b) : keyEq (.string (bs a)) (.string (bs b)) = false := by
  show (bs a == bs b) = false
  rw [bs_beq]
  exact beq_eq_false_iff_ne.2 h
theorem key_same (a : Tx) : keyEq (.string (bs a)) (.string (bs a)) = true := by
  show (bs a == bs a) = true
  rw [bs_beq]
  exact beq_self_eq_true _
theorem entPut_new {k : Value} {x : D} {ents : List (Value × D)} (h : ∀ p ∈ ents, keyEq k p.1 = false) : entPut k x ents = ents ++ [(k, x)] := by
  unfold entPut
  rw [List.findIdx?_eq_none_iff.2 h]
theorem entGet_skip {k : Value} {a b : List (Value × D)} (h : ∀ p ∈ a, keyEq k p.1 = false) : entGet k (a ++ b) = entGet k b := by
  unfold entGet
  rw [List.find?_append, List.find?_eq_none.2 (fun p hp => by rw [h p hp]; exact Bool.false_ne_true)]
  rfl
theorem entGet_of {f : Tx → Tx} (hf : ∀ a b, f a = f b → a = b) : ∀ {l : List Tx} {k : Nat} {s : Tx} (b : List (Value × D)), s ∈ l → entGet (.string (bs (f s))) (entsOf f k l ++ b) = some (dNum ((k : Int) + ixT l s + 1))
  | [], k, s, b, h => by cases h
  | t :: l, k, s, b, h => by
    by_cases hst : t = s
    · subst hst
      rw [entsOf, List.cons_append]
      unfold entGet
      rw [List.find?_cons]
      simp only [key_same]
      have : ixT (t :: l) t = 0 := by simp [ixT, List.findIdx_cons]
      rw [this]
      simp
    · have hs : s ∈ l := by
        rcases List.mem_cons.1 h with h | h
        · exact absurd h.symm hst
        · exact h
      have ih := entGet_of hf (k := k + 1) b hs
      have h1 : ixT (t :: l) s = ixT l s + 1 := by
        have : (t == s) = false := by simpa using hst
        simp [ixT, List.findIdx_cons, this]
      rw [entsOf, List.cons_append]
      have h2 : entGet (.string (bs (f s))) ((.string (bs (f t)), dNum ((k : Int) + 1)) :: (entsOf f (k + 1) l ++ b)) = entGet (.string (bs (f s))) (entsOf f (k + 1) l ++ b) := by
        unfold entGet
        rw [List.find?_cons]
        have : keyEq (.string (bs (f s))) (.string (bs (f t))) = false := key_ne fun e => hst (hf _ _ e).symm
        simp only [this]
      rw [h2, ih, h1]
      congr 2
      omega
theorem ents_ok {ns es : List Tx} (hne : ∀ s ∈ ns, ∀ t ∈ es, s ≠ 94 :: t) : EntsOk ns es (entsOf id 0 ns ++ entsOf (fun s => 94 :: s) ns.length es) := by
  refine ⟨fun p hp => ?_, fun s hs => ?_, fun s hs => ?_⟩
  · rcases List.mem_append.1 hp with h | h <;> (obtain ⟨t, _, he⟩ := entsOf_key h; rw [he]; rfl)
  · have := entGet_of (f := id) (fun a b h => h) (k := 0) (entsOf (fun s => 94 :: s) ns.length es) hs
    simpa using this
  · rw [entGet_skip fun p hp => ?_]
    · have := entGet_of (f := fun s => 94 :: s) (fun a b h => by simpa using h) (k := ns.length) [] hs
      simpa using this
    · obtain ⟨t, ht, he⟩ := entsOf_key hp
      rw [he]
      exact key_ne (hne t ht s hs).symm
theorem ents_keys {ents : List (Value × D)} (h : ∀ p ∈ ents, ∃ s, p.1 = .string (bs s)) : ∀ p ∈ ents, keyOk TypeDesc.string p.1 = true := fun p hp => by
  obtain ⟨s, he⟩ := h p hp
  rw [he]; rfl
theorem srt_ne {l : List Tx} (h : l.Pairwise (· < ·)) {i j : Nat} (hi : i < l.length) (hj : j < l.length) (hij : i ≠ j) : l[i] ≠ l[j] := fun e => by
  rcases Nat.lt_or_gt_of_ne hij with hlt | hlt
  · exact tx_irr _ (e ▸ List.pairwise_iff_getElem.1 h _ _ hi hj hlt)
  · exact tx_irr _ (e ▸ List.pairwise_iff_getElem.1 h _ _ hj hi hlt)
theorem name_no94 {s t : Tx} (h : nameF s = true) : s ≠ 94 :: t := fun e => by
  subst e
  have := ((name_facts h).2.2.1 94 (by simp))
  revert this; decide

theorem put_names {ns : List Tx} (hs : ns.Pairwise (· < ·)) {i : Nat} (h : i < ns.length) : entPut (.string (bs ns[i])) (dNum ((i : Int) + 1)) (entsOf id 0 (ns.take i)) = entsOf id 0 (ns.take (i + 1)) := by
  rw [entsOf_take id h, entPut_new]
  · simp
  · intro p hp
    obtain ⟨s, hm, he⟩ := entsOf_key hp
    rw [he]
    obtain ⟨j, hj, rfl⟩ := List.mem_iff_getElem.1 hm
    rw [List.length_take] at hj
    rw [List.getElem_take]
    exact key_ne (srt_ne hs h (by omega) (by omega))
theorem put_edges {ns es : List Tx} (hs : es.Pairwise (· < ·)) (hne : ∀ s ∈ ns, ∀ t : Tx, s ≠ 94 :: t) {i : Nat} (h : i < es.length) : entPut (.string (bs (94 :: es[i]))) (dNum ((ns.length : Int) + i + 1)) (entsOf id 0 ns ++ entsOf (fun s => 94 :: s) ns.length (es.take i)) = entsOf id 0 ns ++ entsOf (fun s => 94 :: s) ns.length (es.take (i + 1)) := by
  rw [entsOf_take _ h, entPut_new]
  · simp
  · intro p hp
    rcases List.mem_append.1 hp with hp | hp
    · obtain ⟨s, hm, he⟩ := entsOf_key hp
      rw [he]
      exact key_ne (hne s hm _).symm
    · obtain ⟨s, hm, he⟩ := entsOf_key hp
      rw [he]
      obtain ⟨j, hj, rfl⟩ := List.mem_iff_getElem.1 hm
      rw [List.length_take] at hj
      rw [List.getElem_take]
      have := srt_ne hs h (show j < es.length by omega) (by omega)
      exact key_ne fun e => this (by simpa using e)
def tsE (e : Ex) : Int × Cs := tsC (namesE true e) (namesE false e) e
set_option maxHeartbeats 16000000 in
theorem gof_spec (G : Glob) (e : Ex) (hw : WfE e) (hb : bE e ≤ 2^28) (hs3 : szN e ≤ 300) : MC Tryz.prog G [] 14 [.d (dE e)] (hlst []) (.tup [.agg [.d (dNum (tsE e).2.1), .own 502 0 (tsE e).2.2.length], .d (dNum (tsE e).1), .d (.v .nilIface)]) (hlst [(502, .sl 58 1 ((tsE e).2.2.map fun l => [dRow l]))]) := by
  unfold tsE
  have hns := namesE_spec G e hb
  have hes := edgesE_spec G e hb
  have hsz := size_spec G e hb
  have hN : ∀ s ∈ nmsE true e, s ∈ namesE true e := fun s hs => namesE_mem.2 hs
  have hE : ∀ s ∈ nmsE false e, s ∈ namesE false e := fun s hs => namesE_mem.2 hs
  have hsr := namesE_srt true e
  have hsr2 := namesE_srt false e
  have hnf : ∀ s ∈ namesE true e, nameF s = true := fun s hs => nms_nameF true _ e (Nat.le_refl _) hw s (namesE_mem.1 hs)
  have hef : ∀ s ∈ namesE false e, nameF s = true := fun s hs => nms_nameF false _ e (Nat.le_refl _) hw s (namesE_mem.1 hs)
  have hl1 := names_sz true e
  have hl2 := names_sz false e
  have hbd : bE e ≤ 2^28 := hb
  generalize namesE true e = ns at *
  generalize namesE false e = es at *
  have hlit := lit_spec G ns es _ (ents_ok fun s hs t ht => name_no94 (hnf s hs)) (by omega) (by omega) _ e (Nat.le_refl _) hN hE hw (ns.length + es.length) [] (Nat.le_refl _) (by omega) (by simp; omega)
  have hts : litG ns es e (ns.length + es.length, []) = tsC ns es e := rfl
  rw [hts] at hlit
  generalize tsC ns es e = R at hlit ⊢
  have h300 : ¬ (300 : Int) < (szN e : Int) := by omega
  obtain ⟨t, c, hec⟩ := dE_ifc e
  rw [hec] at hns hes hsz hlit ⊢
  refine MC.of_body (tyOf_good _) Tryz.func14 rfl rfl (rs := [.cell 2 45, .tmp 3, .tmp 4]) Tryz.results14 (by simp [Tryz.ntmps14]) rfl fun X => ?_
  simp only [Tryz.ntmps14]
  refine AW_rg (tyOf_good _) [0, 2] [2] (notIn_ok rfl) fun K' hK' => ?_
  repeat (refine sxf_next fun K2 hK2 => ?_; simp [dNum, dS, bRow, dCl]; (repeat (refine ⟨by omega, ?_⟩)); refine hK2 _ ?_; clear hK2 K2)
  refine sxf_nil (hK' _ ?_)
  refine AW.st (by simp [dNum, dS, bRow, dCl]; rfl) ?_
  clear hK' K'
  refine AW_then fun K1 hK1 => ?_
  refine AW_rg (tyOf_good _) [0, 2, 12] [2] (notIn_ok rfl) fun K' hK' => ?_
  repeat (refine sxf_next fun K2 hK2 => ?_; simp [dNum, dS, bRow, dCl]; (repeat (refine ⟨by omega, ?_⟩)); refine hK2 _ ?_; clear hK2 K2)
  refine sxf_nil (hK' _ ?_)
  refine AW.st (by simp [dNum, dS, bRow, dCl]; rfl) ?_
  clear hK' K'
  refine AW_cond false rfl (fun h => by cases h) (fun _ => ?_)
  refine AW_skip (hK1 _ ?_)
  refine AW_then fun K2 hK2 => ?_
  refine AW_rg (tyOf_good _) [0, 2, 17] [2] (notIn_ok rfl) fun K' hK' => ?_
  repeat (refine sxf_next fun K2 hK2 => ?_; simp [dNum, dS, bRow, dCl, h300]; (repeat (refine ⟨by omega, ?_⟩)); refine hK2 _ ?_; clear hK2 K2)
  refine sxf_next fun K2 hK2 => ?_
  simp [dNum, dS, bRow, dCl, h300]
  refine callK.data (hsz) (by simp; rfl) (by first | exact D.leGo_refl _ | simp [takeMap, List.map_map, Function.comp_def, D.le, D.le.go, D.le_refl, D.leGo_refl, dNum, dS, bRow, dCl, h300]) ?_
  refine hK2 _ ?_
  clear hK2 K2
  simp only [putd, upd_lst]
  repeat (refine sxf_next fun K2 hK2 => ?_; simp [dNum, dS, bRow, dCl, h300]; (repeat (refine ⟨by omega, ?_⟩)); refine hK2 _ ?_; clear hK2 K2)
  refine sxf_nil (hK' _ ?_)
  refine AW.st (by simp [dNum, dS, bRow, dCl, h300]; rfl) ?_
  clear hK' K'
  refine AW_cond false (by simp [h300]) (fun h => by cases h) (fun _ => ?_)
  refine AW_skip (hK2 _ ?_)
  refine AW_rg (tyOf_good _) [0, 2, 5] [2, 20, 22] (notIn_ok rfl) fun K' hK' => ?_
  repeat (refine sxf_next fun K2 hK2 => ?_; simp [dNum, dS, bRow, dCl]; (repeat (refine ⟨by omega, ?_⟩)); refine hK2 _ ?_; clear hK2 K2)
  refine sxf_nil (hK' _ ?_)
  refine AW.st (by simp [dNum, dS, bRow, dCl]; rfl) ?_
  clear hK' K'
  refine AW.imp (Imp.ren (r := 22) (r' := 501) (by decide) (by simp)) ?_
  refine AW.st (by simp [renO, renF, Go.Av.ren, renH_hlst]; rfl) ?_
  refine AW.imp (Imp.ren (r := 20) (r' := 503) (by decide) (by simp)) ?_
  refine AW.st (by simp [renO, renF, Go.Av.ren, renH_hlst]; rfl) ?_
  refine AW.imp (Imp.adoptCell 501 1 502 58 1 rfl rfl rfl) ?_
  refine AW.imp (τ := ⟨lst [(0, .d (.ifc t c)), (2, .ref 2 0 0), (5, .ref 501 0 0)], hlst (bRow 0 [] [] ++ [(2, .box 45 [int 0, .d (.sl (some false) [])])])⟩) ?_ ?_
  · refine Imp.to' (notIn_ok rfl) (by simp [dNum, dS, bRow, dCl]) (by simp [dNum, dS, bRow, dCl])
  refine AW_then fun K3 hK3 => ?_
  refine AW_rg (tyOf_good _) [0, 2, 5, 24, 25, 26] [2, 501, 502, 503] (notIn_ok rfl) fun K' hK' => ?_
  repeat (refine sxf_next fun K2 hK2 => ?_; simp [dNum, dS, bRow, dCl]; (repeat (refine ⟨by omega, ?_⟩)); refine hK2 _ ?_; clear hK2 K2)
  refine sxf_next fun K2 hK2 => ?_
  simp [dNum, dS, bRow, dCl]
  refine callK.data (hns) (by simp; rfl) (by first | exact D.leGo_refl _ | simp [takeMap, List.map_map, Function.comp_def, D.le, D.le.go, D.le_refl, D.leGo_refl, dNum, dS, bRow, dCl]) ?_
  refine hK2 _ ?_
  clear hK2 K2
  simp only [putd, upd_lst]
  repeat (refine sxf_next fun K2 hK2 => ?_; simp [dNum, dS, bRow, dCl]; (repeat (refine ⟨by omega, ?_⟩)); refine hK2 _ ?_; clear hK2 K2)
  refine sxf_nil (hK' _ ?_)
  refine AW.st (by simp [dNum, dS, bRow, dCl]; rfl) ?_
  clear hK' K'
  refine AW_for (S := Nat) (fun i => i ≤ ns.length) (fun i => ⟨lst [(0, .d (.ifc t c)), (2, .ref 2 0 0), (5, .ref 501 0 0), (24, .d (.sl none (ns.map fun s => [dS s]))), (25, int ns.length), (26, int i)], hlst (bRow i [] (entsOf id 0 (ns.take i)) ++ [(2, .box 45 [int 0, .d (.sl (some false) [])])])⟩) (fun i => ns.length - i) 0 ?_ (by omega) ?_
  · refine Imp.to' (notIn_ok rfl) (by simp [dNum, dS, bRow, dCl, entsOf]) (by simp [dNum, dS, bRow, dCl, entsOf])
  · intro i hi
    refine AW_rg (tyOf_good _) [0, 2, 5, 24, 25, 26, 27] [2, 501, 502, 503] (notIn_ok rfl) fun K' hK' => ?_
    repeat (refine sxf_next fun K2 hK2 => ?_; simp [dNum, dS, bRow, dCl]; (repeat (refine ⟨by omega, ?_⟩)); refine hK2 _ ?_; clear hK2 K2)
    refine sxf_nil (hK' _ ?_)
    refine AW.st (by simp [dNum, dS, bRow, dCl]; rfl) ?_
    clear hK' K'
    refine AW_then fun K4 hK4 => ?_
    refine AW_cond' (b := i < ns.length) (by simp [D.le, D.le.go, takeMap, dNum, dS, bRow, dCl]) (fun hc => ?_) (fun hc => ?_)
    · have hil : i < ns.length := hc
      have hf := fresh_spec G i (by omega) [] (entsOf id 0 (ns.take i))
      have hk0 : ∀ p ∈ entsOf id 0 (ns.take i), keyOk TypeDesc.string p.1 = true := ents_keys fun p hp => by obtain ⟨s, _, he⟩ := entsOf_key hp; exact ⟨s, he⟩
      simp at hk0
      have hk1 := eq_true hk0
      have hput := put_names hsr hil
      simp only [dNum] at hput
      refine AW_skip (hK4 _ ?_)
      refine AW_then fun K5 hK5 => ?_
      refine AW_block ?_
      refine AW_rg (tyOf_good _) [0, 2, 5, 7, 24, 25, 26] [2, 501, 502, 503] (notIn_ok rfl) fun K' hK' => ?_
      repeat (refine sxf_next fun K2 hK2 => ?_; simp [dNum, dS, bRow, dCl, hil]; (repeat (refine ⟨by omega, ?_⟩)); refine hK2 _ ?_; clear hK2 K2)
      refine sxf_nil (hK' _ ?_)
      refine AW.st (by simp [dNum, dS, bRow, dCl, hil]; rfl) ?_
      clear hK' K'
      refine AW_rme (tyOf_good _) (by kernel_rfl) ([502]) ([]) ([6]) ([(3, .ref 501 0 2)]) (List.range 8) (by kernel_rfl) (by simp [OffE]) fun K' hK' => ?_
      repeat (refine sxm_nextO rfl fun K2 hK2 => ?_; simp [dNum, dS, bRow, dCl, hk1, hput]; (repeat (refine ⟨by omega, ?_⟩)); refine hK2 _ ?_; clear hK2 K2)
      refine sxm_nextO rfl fun K2 hK2 => ?_
      simp [dNum, dS, bRow, dCl, hk1, hput]
      refine hcK.mc (hf) (by simp [dNum, dS, bRow, dCl, hk1, hput]) (by simp [dNum, dS, bRow, dCl, hk1, hput]) (by simp [dNum, dS, bRow, dCl, hk1, hput]) (by simp [dNum, dS, bRow, dCl, hk1, hput]) (by simp [dNum, dS, bRow, dCl, hk1, hput]) (by simp [dNum, dS, bRow, dCl, hk1, hput]) (by simp [LdSame, dNum, dS, bRow, dCl, hk1, hput]) ?_
      simp [dNum, dS, bRow, dCl, hk1, hput]
      refine hK2 _ ?_
      clear hK2 K2
      repeat (refine sxm_nextO rfl fun K2 hK2 => ?_; simp [dNum, dS, bRow, dCl, hk1, hput]; (repeat (refine ⟨by omega, ?_⟩)); refine hK2 _ ?_; clear hK2 K2)
      refine sxm_nilO (hK' _ ?_)
      clear hK' K'
      refine hK5 _ (AW.norm [0, 2, 5, 24, 25, 26] [2, 501, 502, 503] (notIn_ok rfl) (AW.st (by simp [dNum, dS, bRow, dCl, hk1, hput]; rfl) ?_))
      refine AW_re (tyOf_good _) fun K' hK' => ?_
      repeat (refine sxf_next fun K2 hK2 => ?_; simp [dNum, dS, bRow, dCl]; (repeat (refine ⟨by omega, ?_⟩)); refine hK2 _ ?_; clear hK2 K2)
      refine sxf_nil (hK' _ ?_)
      clear hK' K'
      try simp only [thn, inb]
      refine Again.mk (i + 1) (by omega) (by omega) ?_
      refine Imp.to' (notIn_ok rfl) (by simp [dNum, dS, bRow, dCl]) (by simp [dNum, dS, bRow, dCl])
    · obtain rfl : i = ns.length := by omega
      rw [List.take_length]
      refine AW_exit (hK3 _ ?_)
      refine AW_then fun K6 hK6 => ?_
      refine AW_rg (tyOf_good _) [0, 2, 5, 39, 40, 41] [2, 501, 502, 503] (notIn_ok rfl) fun K' hK' => ?_
      repeat (refine sxf_next fun K2 hK2 => ?_; simp [dNum, dS, bRow, dCl]; (repeat (refine ⟨by omega, ?_⟩)); refine hK2 _ ?_; clear hK2 K2)
      refine sxf_next fun K2 hK2 => ?_
      simp [dNum, dS, bRow, dCl]
      refine callK.data (hes) (by simp; rfl) (by first | exact D.leGo_refl _ | simp [takeMap, List.map_map, Function.comp_def, D.le, D.le.go, D.le_refl, D.leGo_refl, dNum, dS, bRow, dCl]) ?_
      refine hK2 _ ?_
      clear hK2 K2
      simp only [putd, upd_lst]
      repeat (refine sxf_next fun K2 hK2 => ?_; simp [dNum, dS, bRow, dCl]; (repeat (refine ⟨by omega, ?_⟩)); refine hK2 _ ?_; clear hK2 K2)
      refine sxf_nil (hK' _ ?_)
      refine AW.st (by simp [dNum, dS, bRow, dCl]; rfl) ?_
      clear hK' K'
      refine AW_for (S := Nat) (fun i => i ≤ es.length) (fun i => ⟨lst [(0, .d (.ifc t c)), (2, .ref 2 0 0), (5, .ref 501 0 0), (39, .d (.sl none (es.map fun s => [dS s]))), (40, int es.length), (41, int i)], hlst (bRow (ns.length + i) [] (entsOf id 0 ns ++ entsOf (fun s => 94 :: s) ns.length (es.take i)) ++ [(2, .box 45 [int 0, .d (.sl (some false) [])])])⟩) (fun i => es.length - i) 0 ?_ (by omega) ?_
      · refine Imp.to' (notIn_ok rfl) (by simp [dNum, dS, bRow, dCl, entsOf]) (by simp [dNum, dS, bRow, dCl, entsOf])
      · intro i hi
        refine AW_rg (tyOf_good _) [0, 2, 5, 39, 40, 41, 42] [2, 501, 502, 503] (notIn_ok rfl) fun K' hK' => ?_
        repeat (refine sxf_next fun K2 hK2 => ?_; simp [dNum, dS, bRow, dCl]; (repeat (refine ⟨by omega, ?_⟩)); refine hK2 _ ?_; clear hK2 K2)
        refine sxf_nil (hK' _ ?_)
        refine AW.st (by simp [dNum, dS, bRow, dCl]; rfl) ?_
        clear hK' K'
        refine AW_then fun K7 hK7 => ?_
        refine AW_cond' (b := i < es.length) (by simp [D.le, D.le.go, takeMap, dNum, dS, bRow, dCl]) (fun hc => ?_) (fun hc => ?_)
        · have hil : i < es.length := hc
          have hf := fresh_spec G (ns.length + i) (by omega) [] (entsOf id 0 ns ++ entsOf (fun s => 94 :: s) ns.length (es.take i))
          have hk0 : ∀ p ∈ entsOf id 0 ns ++ entsOf (fun s => 94 :: s) ns.length (es.take i), keyOk TypeDesc.string p.1 = true := ents_keys fun p hp => by
            rcases List.mem_append.1 hp with hp | hp <;> (obtain ⟨s, _, he⟩ := entsOf_key hp; exact ⟨_, he⟩)
          simp at hk0
          have hk1 := eq_true hk0
          have hput := put_edges (ns := ns) hsr2 (fun s hs t => name_no94 (hnf s hs)) hil
          simp only [dNum] at hput
          have hb94 := bs94 es[i]
          have h94 : (⟨#[94]⟩ : ByteArray).size = 1 := rfl
          have hsl := (name_facts (hef _ (List.getElem_mem hil))).2.1
          refine AW_skip (hK7 _ ?_)
          refine AW_then fun K8 hK8 => ?_
          refine AW_block ?_
          refine AW_rg (tyOf_good _) [0, 2, 5, 9, 39, 40, 41] [2, 501, 502, 503] (notIn_ok rfl) fun K' hK' => ?_
          repeat (refine sxf_next fun K2 hK2 => ?_; simp [dNum, dS, bRow, dCl, hil]; (repeat (refine ⟨by omega, ?_⟩)); refine hK2 _ ?_; clear hK2 K2)
          refine sxf_nil (hK' _ ?_)
          refine AW.st (by simp [dNum, dS, bRow, dCl, hil]; rfl) ?_
          clear hK' K'
          refine AW_rme (tyOf_good _) (by kernel_rfl) ([502]) ([]) ([7]) ([(3, .ref 501 0 2)]) (List.range 9) (by kernel_rfl) (by simp [OffE]) fun K' hK' => ?_
          repeat (refine sxm_nextO rfl fun K2 hK2 => ?_; simp [dNum, dS, bRow, dCl, hk1, hput, hb94, h94, binS, bs_size]; (repeat (refine ⟨by omega, ?_⟩)); refine hK2 _ ?_; clear hK2 K2)
          refine sxm_nextO rfl fun K2 hK2 => ?_
          simp [dNum, dS, bRow, dCl, hk1, hput, hb94, h94, binS, bs_size]
          refine hcK.mc (hf) (by simp [dNum, dS, bRow, dCl, hk1, hput, hb94, h94, binS, bs_size]) (by simp [dNum, dS, bRow, dCl, hk1, hput, hb94, h94, binS, bs_size]) (by simp [dNum, dS, bRow, dCl, hk1, hput, hb94, h94, binS, bs_size]) (by simp [dNum, dS, bRow, dCl, hk1, hput, hb94, h94, binS, bs_size]) (by simp [dNum, dS, bRow, dCl, hk1, hput, hb94, h94, binS, bs_size]) (by simp [dNum, dS, bRow, dCl, hk1, hput, hb94, h94, binS, bs_size]) (by simp [LdSame, dNum, dS, bRow, dCl, hk1, hput, hb94, h94, binS, bs_size]) ?_
          simp [dNum, dS, bRow, dCl, hk1, hput, hb94, h94, binS, bs_size]
          refine hK2 _ ?_
          clear hK2 K2
          repeat (refine sxm_nextO rfl fun K2 hK2 => ?_; simp [dNum, dS, bRow, dCl, hk1, hput, hb94, h94, binS, bs_size]; (repeat (refine ⟨by omega, ?_⟩)); refine hK2 _ ?_; clear hK2 K2)
          refine sxm_nilO (hK' _ ?_)
          clear hK' K'
          refine hK8 _ (AW.norm [0, 2, 5, 39, 40, 41] [2, 501, 502, 503] (notIn_ok rfl) (AW.st (by simp [dNum, dS, bRow, dCl, hk1, hput, hb94, h94, binS, bs_size]; rfl) ?_))
          refine AW_re (tyOf_good _) fun K' hK' => ?_
          repeat (refine sxf_next fun K2 hK2 => ?_; simp [dNum, dS, bRow, dCl]; (repeat (refine ⟨by omega, ?_⟩)); refine hK2 _ ?_; clear hK2 K2)
          refine sxf_nil (hK' _ ?_)
          clear hK' K'
          try simp only [thn, inb]
          refine Again.mk (i + 1) (by omega) (by omega) ?_
          refine Imp.to' (notIn_ok rfl) (by simp [dNum, dS, bRow, dCl, Int.add_assoc]) (by simp [dNum, dS, bRow, dCl, Int.add_assoc])
        · obtain rfl : i = es.length := by omega
          rw [List.take_length]
          refine AW_exit (hK6 _ ?_)
          refine AW_rg (tyOf_good _) [2, 5, 10] [2, 501, 502, 503] (notIn_ok rfl) fun K' hK' => ?_
          repeat (refine sxf_next fun K2 hK2 => ?_; simp [dNum, dS, bRow, dCl]; (repeat (refine ⟨by omega, ?_⟩)); refine hK2 _ ?_; clear hK2 K2)
          refine sxf_next fun K2 hK2 => ?_
          simp [dNum, dS, bRow, dCl]
          refine callK.mc (hlit) (by simp [dNum, dS, bRow, dCl]) (by simp [dNum, dS, bRow, dCl]) (by simp [dNum, dS, bRow, dCl]) (by simp [dNum, dS, bRow, dCl]) ?_
          simp [dNum, dS, bRow, dCl]
          refine hK2 _ ?_
          clear hK2 K2
          repeat (refine sxf_next fun K2 hK2 => ?_; simp [dNum, dS, bRow, dCl]; (repeat (refine ⟨by omega, ?_⟩)); refine hK2 _ ?_; clear hK2 K2)
          refine sxf_nil (hK' _ ?_)
          refine AW.st (by simp [dNum, dS, bRow, dCl]; rfl) ?_
          clear hK' K'
          refine AW_rg (tyOf_good _) [2, 3, 4] [2, 501, 502, 503] (notIn_ok rfl) fun K' hK' => ?_
          repeat (refine sxf_next fun K2 hK2 => ?_; simp [dNum, dS, bRow, dCl]; (repeat (refine ⟨by omega, ?_⟩)); refine hK2 _ ?_; clear hK2 K2)
          refine sxf_nil (hK' _ ?_)
          refine AW.st (by simp [dNum, dS, bRow, dCl]; rfl) ?_
          clear hK' K'
          refine AW_ret ?_
          simp [D.le, dNum]
theorem gof_limit (G : Glob) (e : Ex) (hb : bE e ≤ 2^28) (hs3 : 300 < szN e) : PureC Tryz.prog G 14 [dE e] (.tup [.agg [dNum 0, .sl (some false) []], dNum 0, dErr (some (4, none))]) := by
  have hsz := size_spec G e hb
  have h300 : (300 : Int) < (szN e : Int) := by omega
  obtain ⟨t, c, hec⟩ := dE_ifc e
  rw [hec] at hsz ⊢
  refine PureC.of_body (tyOf_good _) Tryz.func14 rfl rfl (rs := [.cell 2 45, .tmp 3, .tmp 4]) Tryz.results14 (by simp [Tryz.ntmps14]) fun X => ?_
  simp only [Tryz.ntmps14, List.map]
  refine AW_rg (tyOf_good _) [0, 2] [2] (fun _ _ => trivial) fun K' hK' => ?_
  repeat (refine sxf_next fun K2 hK2 => ?_; simp [dNum, dS, dErr]; (repeat (refine ⟨by omega, ?_⟩)); refine hK2 _ ?_; clear hK2 K2)
  refine sxf_nil (hK' _ ?_)
  refine AW.st (by simp [dNum, dS, dErr]; rfl) ?_
  clear hK' K'
  refine AW_then fun K1 hK1 => ?_
  refine AW_rg (tyOf_good _) [0, 2, 12] [2] (fun _ _ => trivial) fun K' hK' => ?_
  repeat (refine sxf_next fun K2 hK2 => ?_; simp [dNum, dS, dErr]; (repeat (refine ⟨by omega, ?_⟩)); refine hK2 _ ?_; clear hK2 K2)
  refine sxf_nil (hK' _ ?_)
  refine AW.st (by simp [dNum, dS, dErr]; rfl) ?_
  clear hK' K'
  refine AW_cond false rfl (fun h => by cases h) (fun _ => ?_)
  refine AW_skip (hK1 _ ?_)
  refine AW_then fun K2 hK2 => ?_
  refine AW_rg (tyOf_good _) [0, 2, 17] [2] (fun _ _ => trivial) fun K' hK' => ?_
  repeat (refine sxf_next fun K2 hK2 => ?_; simp [dNum, dS, dErr, h300]; (repeat (refine ⟨by omega, ?_⟩)); refine hK2 _ ?_; clear hK2 K2)
  refine sxf_next fun K2 hK2 => ?_
  simp [dNum, dS, dErr, h300]
  refine callK.data (hsz) (by simp; rfl) (by first | exact D.leGo_refl _ | simp [takeMap, List.map_map, Function.comp_def, D.le, D.le.go, D.le_refl, D.leGo_refl, dNum, dS, dErr, h300]) ?_
  refine hK2 _ ?_
  clear hK2 K2
  simp only [putd, upd_lst]
  repeat (refine sxf_next fun K2 hK2 => ?_; simp [dNum, dS, dErr, h300]; (repeat (refine ⟨by omega, ?_⟩)); refine hK2 _ ?_; clear hK2 K2)
  refine sxf_nil (hK' _ ?_)
  refine AW.st (by simp [dNum, dS, dErr, h300]; rfl) ?_
  clear hK' K'
  refine AW_cond true (by simp [h300, hs3]) (fun _ => ?_) (fun h => by cases h)
  refine AW_rg (tyOf_good _) [2, 3, 4] [2] (fun _ _ => trivial) fun K' hK' => ?_
  repeat (refine sxf_next fun K2 hK2 => ?_; simp [dNum, dS, dErr]; (repeat (refine ⟨by omega, ?_⟩)); refine hK2 _ ?_; clear hK2 K2)
  refine sxf_nil (hK' _ ?_)
  refine AW.st (by simp [dNum, dS, dErr]; rfl) ?_
  clear hK' K'
  refine AW_ret ?_
  simp [D.le, D.le.go, takeMap, dNum, dS, dErr]
theorem gof_nil (G : Glob) : PureC Tryz.prog G 14 [.v .nilIface] (.tup [.agg [dNum 0, .sl (some false) []], dNum 0, dErr (some (7, none))]) := by
  refine PureC.of_body (tyOf_good _) Tryz.func14 rfl rfl (rs := [.cell 2 45, .tmp 3, .tmp 4]) Tryz.results14 (by simp [Tryz.ntmps14]) fun X => ?_
  simp only [Tryz.ntmps14, List.map]
  refine AW_rg (tyOf_good _) [0, 2] [2] (fun _ _ => trivial) fun K' hK' => ?_
  repeat (refine sxf_next fun K2 hK2 => ?_; simp [dNum, dS, dErr]; (repeat (refine ⟨by omega, ?_⟩)); refine hK2 _ ?_; clear hK2 K2)
  refine sxf_nil (hK' _ ?_)
  refine AW.st (by simp [dNum, dS, dErr]; rfl) ?_
  clear hK' K'
  refine AW_then fun K1 hK1 => ?_
  refine AW_rg (tyOf_good _) [0, 2, 12] [2] (fun _ _ => trivial) fun K' hK' => ?_
  repeat (refine sxf_next fun K2 hK2 => ?_; simp [dNum, dS, dErr]; (repeat (refine ⟨by omega, ?_⟩)); refine hK2 _ ?_; clear hK2 K2)
  refine sxf_nil (hK' _ ?_)
  refine AW.st (by simp [dNum, dS, dErr]; rfl) ?_
  clear hK' K'
  refine AW_cond true rfl (fun _ => ?_) (fun h => by cases h)
  refine AW_rg (tyOf_good _) [2, 3, 4] [2] (fun _ _ => trivial) fun K' hK' => ?_
  repeat (refine sxf_next fun K2 hK2 => ?_; simp [dNum, dS, dErr]; (repeat (refine ⟨by omega, ?_⟩)); refine hK2 _ ?_; clear hK2 K2)
  refine sxf_nil (hK' _ ?_)
  refine AW.st (by simp [dNum, dS, dErr]; rfl) ?_
  clear hK' K'
  refine AW_ret ?_
  simp [D.le, D.le.go, takeMap, dNum, dS, dErr]
end Go.Proofs.YtagfbbnlbncjlaaGreatDoor

/-
  gate.Solve of an expression's clauses; gate.Same.
-/
namespace Go.Proofs.YtagfbbnlbncjlaaGreatDoor
set_option linter.unusedSimpArgs false
set_option linter.unusedVariables false
open Go.Av

theorem mkAnd_lens (l : List Int) (c : Cs) : ∀ x ∈ (mkAnd l c).2.2, x ∈ c.2 ∨ x.length ≤ l.length + 2 := by
  intro x hx
  simp only [mkAnd, List.mem_append, List.mem_map, List.mem_singleton] at hx
  rcases hx with (hx | ⟨y, _, rfl⟩) | rfl
  · exact .inl hx
  · exact .inr (by simp)
  · exact .inr (by simp)
theorem lit_lens (ns es : List Tx) : ∀ (n : Nat) (e : Ex), SizeOf.sizeOf e ≤ n → ∀ c : Cs, ∀ x ∈ (litG ns es e c).2.2, x ∈ c.2 ∨ x.length ≤ szN e + 4
  | 0, e, hn, _ => by cases e <;> simp at hn
  | n + 1, e, hn, c => by
    have many : ∀ l : List Ex, (∀ x ∈ l, SizeOf.sizeOf x ≤ n) → ∀ c : Cs, ∀ x ∈ (litsG ns es l c).2.2, x ∈ c.2 ∨ x.length ≤ szNs l + 4 := by
      intro l
      induction l with
      | nil => intro _ c x hx; exact .inl hx
      | cons y l ih =>
        intro hs c x hx
        simp only [litsG, szNs] at hx ⊢
        rcases ih (fun z hz => hs z (by simp [hz])) _ x hx with h | h
        · rcases lit_lens ns es n y (hs y (by simp)) c x h with h | h
          · exact .inl h
          · exact .inr (by omega)
        · exact .inr (by omega)
    intro x hx
    cases e with
    | cst b =>
      simp only [litG, List.mem_append, List.mem_singleton] at hx
      rcases hx with hx | rfl
      · exact .inl hx
      · exact .inr (by simp)
    | bit s => exact .inl hx
    | rise s => exact (mkAnd_lens _ _ x hx).imp id fun h => by simp at h; simp only [szN]; omega
    | fall s => exact (mkAnd_lens _ _ x hx).imp id fun h => by simp at h; simp only [szN]; omega
    | not y => exact (lit_lens ns es n y (by simp at hn; omega) c x hx).imp id fun h => by simp only [szN]; omega
    | and l =>
      have hl := litsG_len ns es l c
      have hz := len_szNs l
      rcases mkAnd_lens _ _ x hx with h | h
      · exact (many l (fun x hx => by have := List.sizeOf_lt_of_mem hx; simp only [Ex.and.sizeOf_spec] at hn; omega) c x h).imp id fun h => by simp only [szN]; omega
      · exact .inr (by simp only [szN]; omega)
    | or l =>
      have hl := litsG_len ns es l c
      have hz := len_szNs l
      rcases mkAnd_lens _ _ x hx with h | h
      · exact (many l (fun x hx => by have := List.sizeOf_lt_of_mem hx; simp only [Ex.or.sizeOf_spec] at hn; omega) c x h).imp id fun h => by simp only [szN]; omega
      · rw [List.length_map] at h; exact .inr (by simp only [szN]; omega)

/-! ### Same -/
end Go.Proofs.YtagfbbnlbncjlaaGreatDoor

/-
  The law's small parts, and the document's Eval and Size.
-/
namespace Go.Proofs.YtagfbbnlbncjlaaGreatDoor
set_option linter.unusedSimpArgs false
set_option linter.unusedVariables false
open Go.Av

/-! ### sameTexts -/
/-! ### Names among some -/
/-! ### The document's Eval -/
/-! ### The document's Size -/
def kidsR : Ex → List Ex
  | .not e => [e]
  | .and l => l
  | .or l => l
  | _ => []
def kR : Ex → Option Bool
  | .not _ => none
  | .and _ => none
  | .or _ => none
  | _ => some false
theorem ofR_form (e : Ex) : ofR e = .sl (kR e) ((kidsR e).map fun x => [dR x]) := by
  cases e <;> simp [ofR, kidsR, kR, dNil, dRs_map]
theorem szN_kids (e : Ex) : szN e = szNs (kidsR e) + 1 := by cases e <;> simp [szN, kidsR, szNs]
theorem bE_kids (e : Ex) : bEs (kidsR e) ≤ bE e := by cases e <;> simp [bE, kidsR, bEs] <;> omega
theorem sz_kids {e x : Ex} (h : x ∈ kidsR e) : SizeOf.sizeOf x < SizeOf.sizeOf e := by
  cases e with
  | not y => simp only [kidsR, List.mem_singleton] at h; subst h; simp
  | and l => simp only [kidsR] at h; have := List.sizeOf_lt_of_mem h; simp only [Ex.and.sizeOf_spec]; omega
  | or l => simp only [kidsR] at h; have := List.sizeOf_lt_of_mem h; simp only [Ex.or.sizeOf_spec]; omega
  | _ => simp [kidsR] at h

set_option maxHeartbeats 8000000 in
theorem rsize_at (G : Glob) : ∀ (n : Nat) (e : Ex), SizeOf.sizeOf e ≤ n → bE e ≤ 2^28 → PureC Tryz.prog G 15 [dR e] (dNum (szN e)) := by
  intro n
  induction n with
  | zero => intro e hsz; cases e <;> simp at hsz
  | succ n ih =>
    intro e hsz hb
    have hch : ∀ x ∈ kidsR e, PureC Tryz.prog G 15 [dR x] (dNum (szN x)) := fun x hx => ih x (by have := sz_kids hx; omega) (by have := bEs_mem hx; have := bE_kids e; omega)
    have hkb := bE_kids e
    have hln := bEs_len (kidsR e)
    have hsb := szNs_bs (kidsR e)
    rw [dR_form, szN_kids, ofR_form]
    generalize kidsR e = l at hch hkb hln hsb ⊢
    generalize kdR e = kd
    generalize nmR e = nm
    generalize kR e = kk
    clear ih hsz
    refine PureC.of_body (tyOf_good _) Tryz.func15 rfl rfl (rs := [.tmp 2]) Tryz.results15 (by simp [Tryz.ntmps15]) fun X => ?_
    simp only [Tryz.ntmps15, List.map]
    refine AW_rg (tyOf_good _) [0] [] (fun _ _ => trivial) fun K' hK' => ?_
    repeat (refine sxf_next fun K2 hK2 => ?_; simp [dNum, dS]; (repeat (refine ⟨by omega, ?_⟩)); refine hK2 _ ?_; clear hK2 K2)
    refine sxf_nil (hK' _ ?_)
    refine AW.st (by simp [dNum, dS]; rfl) ?_
    clear hK' K'
    refine AW_rg (tyOf_good _) [0, 3] [] (fun _ _ => trivial) fun K' hK' => ?_
    repeat (refine sxf_next fun K2 hK2 => ?_; simp [dNum, dS]; (repeat (refine ⟨by omega, ?_⟩)); refine hK2 _ ?_; clear hK2 K2)
    refine sxf_nil (hK' _ ?_)
    refine AW.st (by simp [dNum, dS]; rfl) ?_
    clear hK' K'
    refine AW_then fun K1 hK1 => ?_
    refine AW_rg (tyOf_good _) [3, 9, 10, 11] [] (fun _ _ => trivial) fun K' hK' => ?_
    repeat (refine sxf_next fun K2 hK2 => ?_; simp [dNum, dS]; (repeat (refine ⟨by omega, ?_⟩)); refine hK2 _ ?_; clear hK2 K2)
    refine sxf_nil (hK' _ ?_)
    refine AW.st (by simp [dNum, dS]; rfl) ?_
    clear hK' K'
    refine AW_for (S := Nat) (fun i => i ≤ l.length) (fun i => ⟨lst [(3, int ((szNs (l.take i) : Nat) + 1)), (9, .d (.sl kk (l.map fun x => [dR x]))), (10, int l.length), (11, int i)], hlst []⟩) (fun i => l.length - i) 0 ?_ (by omega) ?_
    · refine Imp.to' (fun _ _ => trivial) (by simp [dNum, dS, szNs]) (by simp [dNum, dS, szNs])
    · intro i hi
      refine AW_rg (tyOf_good _) [3, 9, 10, 11, 12] [] (fun _ _ => trivial) fun K' hK' => ?_
      repeat (refine sxf_next fun K2 hK2 => ?_; simp [dNum, dS]; (repeat (refine ⟨by omega, ?_⟩)); refine hK2 _ ?_; clear hK2 K2)
      refine sxf_nil (hK' _ ?_)
      refine AW.st (by simp [dNum, dS]; rfl) ?_
      clear hK' K'
      refine AW_then fun K2 hK2 => ?_
      refine AW_cond' (b := i < l.length) (by simp [D.le, D.le.go, takeMap, dNum, dS]) (fun hc => ?_) (fun hc => ?_)
      · have hil : i < l.length := hc
        have hcc := hch _ (List.getElem_mem hil)
        have htk := szNs_take hil
        have hle := szNs_le l (i + 1)
        have hf := dR_form l[i]
        rw [hf] at hcc
        refine AW_skip (hK2 _ ?_)
        refine AW_then fun K3 hK3 => ?_
        refine AW_block ?_
        refine AW_rg (tyOf_good _) [3, 5, 9, 10, 11] [] (fun _ _ => trivial) fun K' hK' => ?_
        repeat (refine sxf_next fun K2 hK2 => ?_; simp [dNum, dS, hil, hf]; (repeat (refine ⟨by omega, ?_⟩)); refine hK2 _ ?_; clear hK2 K2)
        refine sxf_nil (hK' _ ?_)
        refine AW.st (by simp [dNum, dS, hil, hf]; rfl) ?_
        clear hK' K'
        refine AW_re (tyOf_good _) fun K' hK' => ?_
        repeat (refine sxf_next fun K2 hK2 => ?_; simp [dNum, dS]; (repeat (refine ⟨by omega, ?_⟩)); refine hK2 _ ?_; clear hK2 K2)
        refine sxf_next fun K2 hK2 => ?_
        simp [dNum, dS]
        refine callK.data (hcc) (by simp; rfl) (by first | exact D.leGo_refl _ | simp [takeMap, List.map_map, Function.comp_def, D.le, D.le.go, D.le_refl, D.leGo_refl, dNum, dS]) ?_
        refine hK2 _ ?_
        clear hK2 K2
        simp only [putd, upd_lst]
        repeat (refine sxf_next fun K2 hK2 => ?_; simp [dNum, dS]; (repeat (refine ⟨by omega, ?_⟩)); refine hK2 _ ?_; clear hK2 K2)
        refine sxf_nil (hK' _ ?_)
        clear hK' K'
        refine hK3 _ (AW.norm [3, 9, 10, 11] [] (fun _ _ => trivial) (AW.st (by simp [dNum, dS]; rfl) ?_))
        refine AW_re (tyOf_good _) fun K' hK' => ?_
        repeat (refine sxf_next fun K2 hK2 => ?_; simp [dNum, dS]; (repeat (refine ⟨by omega, ?_⟩)); refine hK2 _ ?_; clear hK2 K2)
        refine sxf_nil (hK' _ ?_)
        clear hK' K'
        try simp only [thn, inb]
        refine Again.mk (i + 1) (by omega) (by omega) ?_
        have e1 : (szNs (List.take (i + 1) l) : Int) + 1 = (szNs (List.take i l) : Int) + 1 + (szN l[i] : Int) := by omega
        refine Imp.to' (fun _ _ => trivial) (by simp [dNum, dS, e1]) (by simp [dNum, dS, e1])
      · obtain rfl : i = l.length := by omega
        refine AW_exit (hK1 _ ?_)
        rw [List.take_length]
        refine AW_rg (tyOf_good _) [2] [] (fun _ _ => trivial) fun K' hK' => ?_
        repeat (refine sxf_next fun K2 hK2 => ?_; simp [dNum, dS]; (repeat (refine ⟨by omega, ?_⟩)); refine hK2 _ ?_; clear hK2 K2)
        refine sxf_nil (hK' _ ?_)
        refine AW.st (by simp [dNum, dS]; rfl) ?_
        clear hK' K'
        refine AW_ret ?_
        simp [D.le, D.le.go, takeMap, dNum, dS]
theorem rsize_spec (G : Glob) (e : Ex) (hb : bE e ≤ 2^28) : PureC Tryz.prog G 15 [dR e] (dNum (szN e)) := rsize_at G _ e (Nat.le_refl _) hb
end Go.Proofs.YtagfbbnlbncjlaaGreatDoor
