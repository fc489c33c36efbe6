/-
  Texts that belong together, in one file: V3, A7, V6, V7.
-/
import Derived.Test.YtfehigldhedkgaaDoorEx13
/-
  parts, and Tidy.
-/
namespace Go.Proofs.YtfehigldhedkgaaDoor
set_option linter.unusedSimpArgs false
set_option linter.unusedVariables false
open Go.Av

theorem renH_first {r r' s : Nat} (h : r ≠ r') (hs : s ≠ r') (hr : s ≠ r) (row row2 : Row) : renH r r' (hlst [(r, row), (s, row2)]) = hlst [(r', row.tr (renO r r') (renF r r')), (s, row2.tr (renO r r') (renF r r'))] := renH_two h hs hr row row2
theorem renH_second {r r' s : Nat} (h : r ≠ r') (hs : s ≠ r') (hr : s ≠ r) (row row2 : Row) : renH r r' (hlst [(s, row2), (r, row)]) = hlst [(s, row2.tr (renO r r') (renF r r')), (r', row.tr (renO r r') (renF r r'))] := by
  funext q
  unfold renH
  by_cases h1 : q = r'
  · subst h1
    simp [hlst, List.lookup, beq_eq_false_iff_ne.2 (Ne.symm hs), beq_eq_false_iff_ne.2 (Ne.symm hr)]
  · rw [if_neg h1]
    by_cases h2 : q = r
    · subst h2
      simp [hlst, List.lookup, beq_eq_false_iff_ne.2 h1, beq_eq_false_iff_ne.2 (Ne.symm hr)]
    · by_cases h3 : q = s
      · subst h3
        simp [hlst, List.lookup, h2, beq_eq_false_iff_ne.2 h1, beq_eq_false_iff_ne.2 h2]
      · simp [hlst, List.lookup, h2, beq_eq_false_iff_ne.2 h1, beq_eq_false_iff_ne.2 h2, beq_eq_false_iff_ne.2 h3]
theorem partsE_stop {and : Bool} : ∀ (l : List Ex) (out : List Ex) (r : List Ex), partsE and out l = none → partsE and out (l ++ r) = none
  | [], out, r, h => by cases h
  | x :: l, out, r, h => by
    rw [List.cons_append, partsE]
    rw [partsE] at h
    cases hp : piecesE and x with
    | none => rfl
    | some i =>
      rw [hp] at h
      dsimp only at h ⊢
      cases ha : addsE out i with
      | none => rfl
      | some o =>
        rw [ha] at h
        exact partsE_stop l o r h
theorem partsE_snoc {and : Bool} : ∀ (l : List Ex) (out o : List Ex) (x : Ex), partsE and out l = some o → partsE and out (l ++ [x]) = (match piecesE and x with | none => none | some i => addsE o i)
  | [], out, o, x, h => by
    obtain rfl := Option.some.inj h
    rw [List.nil_append, partsE]
    cases hp : piecesE and x with
    | none => rfl
    | some i =>
      dsimp only
      cases ha : addsE out i with
      | none => rfl
      | some o => rfl
  | y :: l, out, o, x, h => by
    rw [List.cons_append, partsE]
    rw [partsE] at h
    cases hp : piecesE and y with
    | none => rw [hp] at h; cases h
    | some i =>
      rw [hp] at h
      dsimp only at h ⊢
      cases ha : addsE out i with
      | none => rw [ha] at h; cases h
      | some o2 =>
        rw [ha] at h
        exact partsE_snoc l o2 o x h
theorem bEs_tid : ∀ l : List Ex, bEs (l.map tidE) ≤ bEs l
  | [] => by simp
  | x :: l => by have := tidy_b x; have := bEs_tid l; simp only [List.map_cons, bEs]; omega
/-- What parts answers. -/
def dParts : Option (List Ex) → D
  | none => .tup [.sl (some false) [], .v (.bool true)]
  | some o => .tup [.sl none (o.map fun e => [dE e]), .v (.bool false)]

set_option maxHeartbeats 32000000 in
theorem parts_spec (G : Glob) (and : Bool) (l : List Ex) (hb : bEs l ≤ 2^27) (hch : ∀ x ∈ l, PureC Tryd.prog G 24 [dE x] (dE (tidE x))) : PureC Tryd.prog G 58 [.sl none (l.map fun e => [dE e]), .v (.bool and)] (dParts (partsE and [] (tidL l))) := by
  have hln := bEs_len l
  rw [tidL_map]
  have hbt : ∀ n, bEs ((l.take n).map tidE) ≤ bEs l := by
    have h : ∀ l2 : List Ex, bEs (l2.map tidE) ≤ bEs l2 := by
      intro l2
      induction l2 with
      | nil => simp
      | cons x l2 ih => have := tidy_b x; simp only [List.map_cons, bEs]; omega
    intro n
    have := bEs_app (l.take n) (l.drop n)
    rw [List.take_append_drop] at this
    have := h (l.take n)
    omega
  refine PureC.of_body (tyOf_good _) Tryd.func58 rfl rfl (rs := [.tmp 4, .tmp 5]) Tryd.results58 (by simp [Tryd.ntmps58]) fun X => ?_
  simp only [Tryd.ntmps58, List.map]
  refine AW_rg (tyOf_good _) [0, 1] [] (fun _ _ => trivial) fun K' hK' => ?_
  repeat (refine sxf_next fun K2 hK2 => ?_; simp [dNum, dS, pairA, assertA]; (repeat (refine ⟨by omega, ?_⟩)); refine hK2 _ ?_; clear hK2 K2)
  refine sxf_nil (hK' _ ?_)
  refine AW.st (by simp [dNum, dS, pairA, assertA]; rfl) ?_
  clear hK' K'
  refine AW_rg (tyOf_good _) [0, 1, 6] [6] (fun _ _ => trivial) fun K' hK' => ?_
  repeat (refine sxf_next fun K2 hK2 => ?_; simp [dNum, dS, pairA, assertA]; (repeat (refine ⟨by omega, ?_⟩)); refine hK2 _ ?_; clear hK2 K2)
  refine sxf_nil (hK' _ ?_)
  refine AW.st (by simp [dNum, dS, pairA, assertA]; rfl) ?_
  clear hK' K'
  refine AW_rg (tyOf_good _) [0, 1, 6, 7] [6, 7] (fun _ _ => trivial) fun K' hK' => ?_
  repeat (refine sxf_next fun K2 hK2 => ?_; simp [dNum, dS, pairA, assertA]; (repeat (refine ⟨by omega, ?_⟩)); refine hK2 _ ?_; clear hK2 K2)
  refine sxf_nil (hK' _ ?_)
  refine AW.st (by simp [dNum, dS, pairA, assertA]; rfl) ?_
  clear hK' K'
  refine AW_rg (tyOf_good _) [0, 1, 6, 8] [6, 7] (fun _ _ => trivial) fun K' hK' => ?_
  repeat (refine sxf_next fun K2 hK2 => ?_; simp [dNum, dS, pairA, assertA]; (repeat (refine ⟨by omega, ?_⟩)); refine hK2 _ ?_; clear hK2 K2)
  refine sxf_nil (hK' _ ?_)
  refine AW.st (by simp [dNum, dS, pairA, assertA]; rfl) ?_
  clear hK' K'
  refine AW.imp (Imp.ren (r := 6) (r' := 502) trivial (by simp)) ?_
  refine AW.st (by simp [renO, renF, Go.Av.ren, renH_first]; rfl) ?_
  refine AW.imp (Imp.ren (r := 7) (r' := 501) trivial (by simp)) ?_
  refine AW.st (by simp [renO, renF, Go.Av.ren, renH_second]; rfl) ?_
  refine AW_then fun K1 hK1 => ?_
  refine AW_rg (tyOf_good _) [1, 6, 8, 17, 18, 19] [502, 501] (fun _ _ => trivial) fun K' hK' => ?_
  repeat (refine sxf_next fun K2 hK2 => ?_; simp [dNum, dS, pairA, assertA]; (repeat (refine ⟨by omega, ?_⟩)); refine hK2 _ ?_; clear hK2 K2)
  refine sxf_nil (hK' _ ?_)
  refine AW.st (by simp [dNum, dS, pairA, assertA]; rfl) ?_
  clear hK' K'
  refine AW_for (S := Nat × List Ex) (fun z => z.1 ≤ l.length ∧ partsE and [] ((l.take z.1).map tidE) = some z.2) (fun z => ⟨lst [(1, .d (.v (.bool and))), (6, .ref 502 0 0), (8, .fn (.func 79) [.ref 501 0 0, .ref 502 0 0]), (17, .d (.sl none (l.map fun e => [dE e]))), (18, int l.length), (19, int z.1)], hlst (oRow z.2)⟩) (fun z => l.length - z.1) (0, []) ?_ ⟨by omega, rfl⟩ ?_
  · refine (Imp.adoptCell 501 0 503 9 1 rfl rfl rfl).trans ((Imp.adoptCell 502 0 504 51 1 rfl rfl rfl).trans ?_)
    refine Imp.to' (fun _ _ => trivial) (by simp [dNum, dS, pairA, assertA, oRow]) (by simp [dNum, dS, pairA, assertA, oRow])
  · rintro ⟨n, out⟩ ⟨hn, hp⟩
    dsimp only at hn hp ⊢
    refine AW_rg (tyOf_good _) [1, 6, 8, 17, 18, 19, 20] [501, 502, 503, 504] (fun _ _ => trivial) fun K' hK' => ?_
    repeat (refine sxf_next fun K2 hK2 => ?_; simp [dNum, dS, pairA, assertA, oRow]; (repeat (refine ⟨by omega, ?_⟩)); refine hK2 _ ?_; clear hK2 K2)
    refine sxf_nil (hK' _ ?_)
    refine AW.st (by simp [dNum, dS, pairA, assertA, oRow]; rfl) ?_
    clear hK' K'
    refine AW_then fun K2 hK2 => ?_
    refine AW_cond' (b := n < l.length) (by simp [D.le, D.le.go, takeMap, dNum, dS, pairA, assertA]) (fun hc => ?_) (fun hc => ?_)
    · have hnl : n < l.length := hc
      have hsn := partsE_snoc ((l.take n).map tidE) [] out (tidE l[n]) hp
      have hst := partsE_stop (and := and) ((l.take (n + 1)).map tidE) [] ((l.drop (n + 1)).map tidE)
      rw [← List.map_append, List.take_append_drop] at hst
      have e1 : (l.take n).map tidE ++ [tidE l[n]] = (l.take (n + 1)).map tidE := by
        rw [List.take_succ_eq_append_getElem hnl, List.map_append]; rfl
      rw [e1] at hsn
      have hbo := parts_b _ _ _ hp
      simp only [bEs, Nat.zero_add] at hbo
      have hbx : bEs out + bE (tidE l[n]) ≤ 2^28 := by
        have h1 := hbt (n + 1)
        rw [← e1, bEs_app] at h1
        simp only [bEs] at h1
        omega
      have htx := hch _ (List.getElem_mem hnl)
      obtain ⟨tx, cx, hx⟩ := dE_ifc l[n]
      rw [hx] at htx
      refine AW_skip (hK2 _ ?_)
      refine AW_then fun K3 hK3 => ?_
      refine AW_block ?_
      refine AW_rg (tyOf_good _) [1, 6, 8, 10, 17, 18, 19] [501, 502, 503, 504] (fun _ _ => trivial) fun K' hK' => ?_
      repeat (refine sxf_next fun K2 hK2 => ?_; simp [dNum, dS, pairA, assertA, hnl, hx]; (repeat (refine ⟨by omega, ?_⟩)); refine hK2 _ ?_; clear hK2 K2)
      refine sxf_nil (hK' _ ?_)
      refine AW.st (by simp [dNum, dS, pairA, assertA, hnl, hx]; rfl) ?_
      clear hK' K'
      refine AW_rg (tyOf_good _) [1, 6, 8, 10, 11, 17, 18, 19] [501, 502, 503, 504] (fun _ _ => trivial) fun K' hK' => ?_
      repeat (refine sxf_next fun K2 hK2 => ?_; simp [dNum, dS, pairA, assertA]; (repeat (refine ⟨by omega, ?_⟩)); refine hK2 _ ?_; clear hK2 K2)
      refine sxf_nil (hK' _ ?_)
      refine AW.st (by simp [dNum, dS, pairA, assertA]; rfl) ?_
      clear hK' K'
      refine AW_then fun K4 hK4 => ?_
      clear hch
      generalize tidE l[n] = y at htx hsn hbx
      refine (fun hgo => ?_) (fun (σ : St) (k : Option Bool) (i : List Ex) (hi : piecesE and y = some i) himp => hK4 σ (AW.imp (τ := ⟨lst [(1, .d (.v (.bool and))), (6, .ref 502 0 0), (8, .fn (.func 79) [.ref 501 0 0, .ref 502 0 0]), (11, .d (.sl k (i.map fun e => [dE e]))), (17, .d (.sl none (l.map fun e => [dE e]))), (18, int l.length), (19, int n)], hlst (oRow out)⟩) himp ?_))
      · by_cases hcst : ∃ b, y = .cst b
        · obtain ⟨b, rfl⟩ := hcst
          rw [dE] at htx
          have hpc : piecesE and (.cst b) = if b != and then none else some [] := rfl
          rw [hpc] at hsn hgo
          by_cases hba : b = and
          · have hb2 : (b != and) = false := by rw [hba]; simp
            rw [hb2] at hsn hgo
            refine AW_rg (tyOf_good _) [1, 6, 8, 11, 17, 18, 19, 24] [501, 502, 503, 504] (fun _ _ => trivial) fun K' hK' => ?_
            repeat (refine sxf_next fun K2 hK2 => ?_; simp [dNum, dS, pairA, assertA]; (repeat (refine ⟨by omega, ?_⟩)); refine hK2 _ ?_; clear hK2 K2)
            refine sxf_next fun K2 hK2 => ?_
            simp [dNum, dS, pairA, assertA]
            refine callK.data (htx) (by simp; rfl) (by first | exact D.leGo_refl _ | simp [takeMap, List.map_map, Function.comp_def, D.le, D.le.go, D.le_refl, D.leGo_refl, dNum, dS, pairA, assertA]) ?_
            refine hK2 _ ?_
            clear hK2 K2
            simp only [putd, upd_lst]
            repeat (refine sxf_next fun K2 hK2 => ?_; simp [dNum, dS, pairA, assertA]; (repeat (refine ⟨by omega, ?_⟩)); refine hK2 _ ?_; clear hK2 K2)
            refine sxf_nil (hK' _ ?_)
            refine AW.st (by simp [dNum, dS, pairA, assertA]; rfl) ?_
            clear hK' K'
            refine AW_block ?_
            refine AW_rg (tyOf_good _) [1, 6, 8, 11, 17, 18, 19, 24, 28, 29] [501, 502, 503, 504] (fun _ _ => trivial) fun K' hK' => ?_
            repeat (refine sxf_next fun K2 hK2 => ?_; simp [dNum, dS, pairA, assertA]; (repeat (refine ⟨by omega, ?_⟩)); refine hK2 _ ?_; clear hK2 K2)
            refine sxf_nil (hK' _ ?_)
            refine AW.st (by simp [dNum, dS, pairA, assertA]; rfl) ?_
            clear hK' K'
            refine AW_cond true rfl (fun _ => ?_) (fun h => by cases h)
            refine AW_rg (tyOf_good _) [1, 6, 8, 11, 12, 17, 18, 19] [501, 502, 503, 504] (fun _ _ => trivial) fun K' hK' => ?_
            repeat (refine sxf_next fun K2 hK2 => ?_; simp [dNum, dS, pairA, assertA]; (repeat (refine ⟨by omega, ?_⟩)); refine hK2 _ ?_; clear hK2 K2)
            refine sxf_nil (hK' _ ?_)
            refine AW.st (by simp [dNum, dS, pairA, assertA]; rfl) ?_
            clear hK' K'
            refine AW_rg (tyOf_good _) [1, 6, 8, 11, 17, 18, 19, 32] [501, 502, 503, 504] (fun _ _ => trivial) fun K' hK' => ?_
            repeat (refine sxf_next fun K2 hK2 => ?_; simp [dNum, dS, pairA, assertA, hba]; (repeat (refine ⟨by omega, ?_⟩)); refine hK2 _ ?_; clear hK2 K2)
            refine sxf_nil (hK' _ ?_)
            refine AW.st (by simp [dNum, dS, pairA, assertA, hba]; rfl) ?_
            clear hK' K'
            refine AW_cond false rfl (fun h => by cases h) (fun _ => ?_)
            refine AW_skip (hgo _ (some false) [] rfl ?_)
            refine Imp.to' (fun _ _ => trivial) (by simp [dNum, dS, pairA, assertA, oRow]) (by simp [dNum, dS, pairA, assertA, oRow])
          · have hb2 : (b != and) = true := by simpa using hba
            have hb3 : (b == and) = false := by simpa using hba
            rw [hb2, if_pos rfl] at hsn
            rw [hst hsn]
            refine AW_rg (tyOf_good _) [1, 6, 8, 11, 17, 18, 19, 24] [501, 502, 503, 504] (fun _ _ => trivial) fun K' hK' => ?_
            repeat (refine sxf_next fun K2 hK2 => ?_; simp [dNum, dS, pairA, assertA]; (repeat (refine ⟨by omega, ?_⟩)); refine hK2 _ ?_; clear hK2 K2)
            refine sxf_next fun K2 hK2 => ?_
            simp [dNum, dS, pairA, assertA]
            refine callK.data (htx) (by simp; rfl) (by first | exact D.leGo_refl _ | simp [takeMap, List.map_map, Function.comp_def, D.le, D.le.go, D.le_refl, D.leGo_refl, dNum, dS, pairA, assertA]) ?_
            refine hK2 _ ?_
            clear hK2 K2
            simp only [putd, upd_lst]
            repeat (refine sxf_next fun K2 hK2 => ?_; simp [dNum, dS, pairA, assertA]; (repeat (refine ⟨by omega, ?_⟩)); refine hK2 _ ?_; clear hK2 K2)
            refine sxf_nil (hK' _ ?_)
            refine AW.st (by simp [dNum, dS, pairA, assertA]; rfl) ?_
            clear hK' K'
            refine AW_block ?_
            refine AW_rg (tyOf_good _) [1, 6, 8, 11, 17, 18, 19, 24, 28, 29] [501, 502, 503, 504] (fun _ _ => trivial) fun K' hK' => ?_
            repeat (refine sxf_next fun K2 hK2 => ?_; simp [dNum, dS, pairA, assertA]; (repeat (refine ⟨by omega, ?_⟩)); refine hK2 _ ?_; clear hK2 K2)
            refine sxf_nil (hK' _ ?_)
            refine AW.st (by simp [dNum, dS, pairA, assertA]; rfl) ?_
            clear hK' K'
            refine AW_cond true rfl (fun _ => ?_) (fun h => by cases h)
            refine AW_rg (tyOf_good _) [1, 6, 8, 11, 12, 17, 18, 19] [501, 502, 503, 504] (fun _ _ => trivial) fun K' hK' => ?_
            repeat (refine sxf_next fun K2 hK2 => ?_; simp [dNum, dS, pairA, assertA]; (repeat (refine ⟨by omega, ?_⟩)); refine hK2 _ ?_; clear hK2 K2)
            refine sxf_nil (hK' _ ?_)
            refine AW.st (by simp [dNum, dS, pairA, assertA]; rfl) ?_
            clear hK' K'
            refine AW_rg (tyOf_good _) [1, 6, 8, 11, 17, 18, 19, 32] [501, 502, 503, 504] (fun _ _ => trivial) fun K' hK' => ?_
            repeat (refine sxf_next fun K2 hK2 => ?_; simp [dNum, dS, pairA, assertA, hba, hb2, hb3]; (repeat (refine ⟨by omega, ?_⟩)); refine hK2 _ ?_; clear hK2 K2)
            refine sxf_nil (hK' _ ?_)
            refine AW.st (by simp [dNum, dS, pairA, assertA, hba, hb2, hb3]; rfl) ?_
            clear hK' K'
            refine AW_cond true rfl (fun _ => ?_) (fun h => by cases h)
            refine AW_rg (tyOf_good _) [4, 5] [501, 502, 503, 504] (fun _ _ => trivial) fun K' hK' => ?_
            repeat (refine sxf_next fun K2 hK2 => ?_; simp [dNum, dS, pairA, assertA]; (repeat (refine ⟨by omega, ?_⟩)); refine hK2 _ ?_; clear hK2 K2)
            refine sxf_nil (hK' _ ?_)
            refine AW.st (by simp [dNum, dS, pairA, assertA]; rfl) ?_
            clear hK' K'
            refine AW_ret ?_
            simp [D.le, D.le.go, takeMap, dNum, dS, pairA, assertA, dParts]
        have hC : isC y = false := by
          cases y with
          | cst b => exact absurd ⟨b, rfl⟩ hcst
          | _ => rfl
        by_cases hand : ∃ m, y = .and m
        · obtain ⟨m, rfl⟩ := hand
          rw [dE, dEs_map] at htx
          have hpc : piecesE and (.and m) = some (if and then m else [.and m]) := rfl
          rw [hpc] at hsn hgo
          cases and with
          | true =>
            refine AW_rg (tyOf_good _) [1, 6, 8, 11, 17, 18, 19, 24] [501, 502, 503, 504] (fun _ _ => trivial) fun K' hK' => ?_
            repeat (refine sxf_next fun K2 hK2 => ?_; simp [dNum, dS, pairA, assertA]; (repeat (refine ⟨by omega, ?_⟩)); refine hK2 _ ?_; clear hK2 K2)
            refine sxf_next fun K2 hK2 => ?_
            simp [dNum, dS, pairA, assertA]
            refine callK.data (htx) (by simp; rfl) (by first | exact D.leGo_refl _ | simp [takeMap, List.map_map, Function.comp_def, D.le, D.le.go, D.le_refl, D.leGo_refl, dNum, dS, pairA, assertA]) ?_
            refine hK2 _ ?_
            clear hK2 K2
            simp only [putd, upd_lst]
            repeat (refine sxf_next fun K2 hK2 => ?_; simp [dNum, dS, pairA, assertA]; (repeat (refine ⟨by omega, ?_⟩)); refine hK2 _ ?_; clear hK2 K2)
            refine sxf_nil (hK' _ ?_)
            refine AW.st (by simp [dNum, dS, pairA, assertA]; rfl) ?_
            clear hK' K'
            refine AW_block ?_
            refine AW_rg (tyOf_good _) [1, 6, 8, 11, 17, 18, 19, 24, 28, 29] [501, 502, 503, 504] (fun _ _ => trivial) fun K' hK' => ?_
            repeat (refine sxf_next fun K2 hK2 => ?_; simp [dNum, dS, pairA, assertA]; (repeat (refine ⟨by omega, ?_⟩)); refine hK2 _ ?_; clear hK2 K2)
            refine sxf_nil (hK' _ ?_)
            refine AW.st (by simp [dNum, dS, pairA, assertA]; rfl) ?_
            clear hK' K'
            refine AW_cond false rfl (fun h => by cases h) (fun _ => ?_)
            refine AW_rg (tyOf_good _) [1, 6, 8, 11, 17, 18, 19, 24, 34, 35] [501, 502, 503, 504] (fun _ _ => trivial) fun K' hK' => ?_
            repeat (refine sxf_next fun K2 hK2 => ?_; simp [dNum, dS, pairA, assertA]; (repeat (refine ⟨by omega, ?_⟩)); refine hK2 _ ?_; clear hK2 K2)
            refine sxf_nil (hK' _ ?_)
            refine AW.st (by simp [dNum, dS, pairA, assertA]; rfl) ?_
            clear hK' K'
            refine AW_cond true rfl (fun _ => ?_) (fun h => by cases h)
            refine AW_rg (tyOf_good _) [1, 6, 8, 13, 17, 18, 19] [501, 502, 503, 504] (fun _ _ => trivial) fun K' hK' => ?_
            repeat (refine sxf_next fun K2 hK2 => ?_; simp [dNum, dS, pairA, assertA]; (repeat (refine ⟨by omega, ?_⟩)); refine hK2 _ ?_; clear hK2 K2)
            refine sxf_nil (hK' _ ?_)
            refine AW.st (by simp [dNum, dS, pairA, assertA]; rfl) ?_
            clear hK' K'
            refine AW_rg (tyOf_good _) [1, 6, 8, 11, 13, 17, 18, 19] [501, 502, 503, 504, 38] (fun _ _ => trivial) fun K' hK' => ?_
            repeat (refine sxf_next fun K2 hK2 => ?_; simp [dNum, dS, pairA, assertA]; (repeat (refine ⟨by omega, ?_⟩)); refine hK2 _ ?_; clear hK2 K2)
            refine sxf_nil (hK' _ ?_)
            refine AW.st (by simp [dNum, dS, pairA, assertA]; rfl) ?_
            clear hK' K'
            refine AW.imp (Imp.freeze 38 trivial) ?_
            refine AW.st (by simp [dNum, dS, pairA, assertA]; rfl) ?_
            refine AW_rg (tyOf_good _) [1, 6, 8, 11, 13, 17, 18, 19, 39] [501, 502, 503, 504] (fun _ _ => trivial) fun K' hK' => ?_
            repeat (refine sxf_next fun K2 hK2 => ?_; simp [dNum, dS, pairA, assertA]; (repeat (refine ⟨by omega, ?_⟩)); refine hK2 _ ?_; clear hK2 K2)
            refine sxf_nil (hK' _ ?_)
            refine AW.st (by simp [dNum, dS, pairA, assertA]; rfl) ?_
            clear hK' K'
            refine AW_cond true rfl (fun _ => ?_) (fun h => by cases h)
            refine AW_re (tyOf_good _) fun K' hK' => ?_
            repeat (refine sxf_next fun K2 hK2 => ?_; simp [dNum, dS, pairA, assertA]; (repeat (refine ⟨by omega, ?_⟩)); refine hK2 _ ?_; clear hK2 K2)
            refine sxf_nil (hK' _ ?_)
            clear hK' K'
            try simp only [thn, inb]
            refine hgo _ none m rfl ?_
            refine Imp.to' (fun _ _ => trivial) (by simp [dNum, dS, pairA, assertA, oRow]) (by simp [dNum, dS, pairA, assertA, oRow])
          | false =>
            refine AW_rg (tyOf_good _) [1, 6, 8, 11, 17, 18, 19, 24] [501, 502, 503, 504] (fun _ _ => trivial) fun K' hK' => ?_
            repeat (refine sxf_next fun K2 hK2 => ?_; simp [dNum, dS, pairA, assertA]; (repeat (refine ⟨by omega, ?_⟩)); refine hK2 _ ?_; clear hK2 K2)
            refine sxf_next fun K2 hK2 => ?_
            simp [dNum, dS, pairA, assertA]
            refine callK.data (htx) (by simp; rfl) (by first | exact D.leGo_refl _ | simp [takeMap, List.map_map, Function.comp_def, D.le, D.le.go, D.le_refl, D.leGo_refl, dNum, dS, pairA, assertA]) ?_
            refine hK2 _ ?_
            clear hK2 K2
            simp only [putd, upd_lst]
            repeat (refine sxf_next fun K2 hK2 => ?_; simp [dNum, dS, pairA, assertA]; (repeat (refine ⟨by omega, ?_⟩)); refine hK2 _ ?_; clear hK2 K2)
            refine sxf_nil (hK' _ ?_)
            refine AW.st (by simp [dNum, dS, pairA, assertA]; rfl) ?_
            clear hK' K'
            refine AW_block ?_
            refine AW_rg (tyOf_good _) [1, 6, 8, 11, 17, 18, 19, 24, 28, 29] [501, 502, 503, 504] (fun _ _ => trivial) fun K' hK' => ?_
            repeat (refine sxf_next fun K2 hK2 => ?_; simp [dNum, dS, pairA, assertA]; (repeat (refine ⟨by omega, ?_⟩)); refine hK2 _ ?_; clear hK2 K2)
            refine sxf_nil (hK' _ ?_)
            refine AW.st (by simp [dNum, dS, pairA, assertA]; rfl) ?_
            clear hK' K'
            refine AW_cond false rfl (fun h => by cases h) (fun _ => ?_)
            refine AW_rg (tyOf_good _) [1, 6, 8, 11, 17, 18, 19, 24, 34, 35] [501, 502, 503, 504] (fun _ _ => trivial) fun K' hK' => ?_
            repeat (refine sxf_next fun K2 hK2 => ?_; simp [dNum, dS, pairA, assertA]; (repeat (refine ⟨by omega, ?_⟩)); refine hK2 _ ?_; clear hK2 K2)
            refine sxf_nil (hK' _ ?_)
            refine AW.st (by simp [dNum, dS, pairA, assertA]; rfl) ?_
            clear hK' K'
            refine AW_cond true rfl (fun _ => ?_) (fun h => by cases h)
            refine AW_rg (tyOf_good _) [1, 6, 8, 13, 17, 18, 19] [501, 502, 503, 504] (fun _ _ => trivial) fun K' hK' => ?_
            repeat (refine sxf_next fun K2 hK2 => ?_; simp [dNum, dS, pairA, assertA]; (repeat (refine ⟨by omega, ?_⟩)); refine hK2 _ ?_; clear hK2 K2)
            refine sxf_nil (hK' _ ?_)
            refine AW.st (by simp [dNum, dS, pairA, assertA]; rfl) ?_
            clear hK' K'
            refine AW_rg (tyOf_good _) [1, 6, 8, 11, 13, 17, 18, 19] [501, 502, 503, 504, 38] (fun _ _ => trivial) fun K' hK' => ?_
            repeat (refine sxf_next fun K2 hK2 => ?_; simp [dNum, dS, pairA, assertA]; (repeat (refine ⟨by omega, ?_⟩)); refine hK2 _ ?_; clear hK2 K2)
            refine sxf_nil (hK' _ ?_)
            refine AW.st (by simp [dNum, dS, pairA, assertA]; rfl) ?_
            clear hK' K'
            refine AW.imp (Imp.freeze 38 trivial) ?_
            refine AW.st (by simp [dNum, dS, pairA, assertA]; rfl) ?_
            refine AW_rg (tyOf_good _) [1, 6, 8, 11, 13, 17, 18, 19, 39] [501, 502, 503, 504] (fun _ _ => trivial) fun K' hK' => ?_
            repeat (refine sxf_next fun K2 hK2 => ?_; simp [dNum, dS, pairA, assertA]; (repeat (refine ⟨by omega, ?_⟩)); refine hK2 _ ?_; clear hK2 K2)
            refine sxf_nil (hK' _ ?_)
            refine AW.st (by simp [dNum, dS, pairA, assertA]; rfl) ?_
            clear hK' K'
            refine AW_cond false rfl (fun h => by cases h) (fun _ => ?_)
            refine AW_skip (hgo _ none [.and m] rfl ?_)
            refine Imp.to' (fun _ _ => trivial) (by simp [dNum, dS, pairA, assertA, oRow, dE, dEs_map]) (by simp [dNum, dS, pairA, assertA, oRow, dE, dEs_map])
        by_cases hor : ∃ m, y = .or m
        · obtain ⟨m, rfl⟩ := hor
          rw [dE, dEs_map] at htx
          have hpc : piecesE and (.or m) = some (if and then [.or m] else m) := rfl
          rw [hpc] at hsn hgo
          cases and with
          | true =>
            refine AW_rg (tyOf_good _) [1, 6, 8, 11, 17, 18, 19, 24] [501, 502, 503, 504] (fun _ _ => trivial) fun K' hK' => ?_
            repeat (refine sxf_next fun K2 hK2 => ?_; simp [dNum, dS, pairA, assertA]; (repeat (refine ⟨by omega, ?_⟩)); refine hK2 _ ?_; clear hK2 K2)
            refine sxf_next fun K2 hK2 => ?_
            simp [dNum, dS, pairA, assertA]
            refine callK.data (htx) (by simp; rfl) (by first | exact D.leGo_refl _ | simp [takeMap, List.map_map, Function.comp_def, D.le, D.le.go, D.le_refl, D.leGo_refl, dNum, dS, pairA, assertA]) ?_
            refine hK2 _ ?_
            clear hK2 K2
            simp only [putd, upd_lst]
            repeat (refine sxf_next fun K2 hK2 => ?_; simp [dNum, dS, pairA, assertA]; (repeat (refine ⟨by omega, ?_⟩)); refine hK2 _ ?_; clear hK2 K2)
            refine sxf_nil (hK' _ ?_)
            refine AW.st (by simp [dNum, dS, pairA, assertA]; rfl) ?_
            clear hK' K'
            refine AW_block ?_
            refine AW_rg (tyOf_good _) [1, 6, 8, 11, 17, 18, 19, 24, 28, 29] [501, 502, 503, 504] (fun _ _ => trivial) fun K' hK' => ?_
            repeat (refine sxf_next fun K2 hK2 => ?_; simp [dNum, dS, pairA, assertA]; (repeat (refine ⟨by omega, ?_⟩)); refine hK2 _ ?_; clear hK2 K2)
            refine sxf_nil (hK' _ ?_)
            refine AW.st (by simp [dNum, dS, pairA, assertA]; rfl) ?_
            clear hK' K'
            refine AW_cond false rfl (fun h => by cases h) (fun _ => ?_)
            refine AW_rg (tyOf_good _) [1, 6, 8, 11, 17, 18, 19, 24, 34, 35] [501, 502, 503, 504] (fun _ _ => trivial) fun K' hK' => ?_
            repeat (refine sxf_next fun K2 hK2 => ?_; simp [dNum, dS, pairA, assertA]; (repeat (refine ⟨by omega, ?_⟩)); refine hK2 _ ?_; clear hK2 K2)
            refine sxf_nil (hK' _ ?_)
            refine AW.st (by simp [dNum, dS, pairA, assertA]; rfl) ?_
            clear hK' K'
            refine AW_cond false rfl (fun h => by cases h) (fun _ => ?_)
            refine AW_rg (tyOf_good _) [1, 6, 8, 11, 17, 18, 19, 24, 42, 43] [501, 502, 503, 504] (fun _ _ => trivial) fun K' hK' => ?_
            repeat (refine sxf_next fun K2 hK2 => ?_; simp [dNum, dS, pairA, assertA]; (repeat (refine ⟨by omega, ?_⟩)); refine hK2 _ ?_; clear hK2 K2)
            refine sxf_nil (hK' _ ?_)
            refine AW.st (by simp [dNum, dS, pairA, assertA]; rfl) ?_
            clear hK' K'
            refine AW_cond true rfl (fun _ => ?_) (fun h => by cases h)
            refine AW_rg (tyOf_good _) [1, 6, 8, 14, 17, 18, 19] [501, 502, 503, 504] (fun _ _ => trivial) fun K' hK' => ?_
            repeat (refine sxf_next fun K2 hK2 => ?_; simp [dNum, dS, pairA, assertA]; (repeat (refine ⟨by omega, ?_⟩)); refine hK2 _ ?_; clear hK2 K2)
            refine sxf_nil (hK' _ ?_)
            refine AW.st (by simp [dNum, dS, pairA, assertA]; rfl) ?_
            clear hK' K'
            refine AW_rg (tyOf_good _) [1, 6, 8, 11, 14, 17, 18, 19] [501, 502, 503, 504, 46] (fun _ _ => trivial) fun K' hK' => ?_
            repeat (refine sxf_next fun K2 hK2 => ?_; simp [dNum, dS, pairA, assertA]; (repeat (refine ⟨by omega, ?_⟩)); refine hK2 _ ?_; clear hK2 K2)
            refine sxf_nil (hK' _ ?_)
            refine AW.st (by simp [dNum, dS, pairA, assertA]; rfl) ?_
            clear hK' K'
            refine AW.imp (Imp.freeze 46 trivial) ?_
            refine AW.st (by simp [dNum, dS, pairA, assertA]; rfl) ?_
            refine AW_rg (tyOf_good _) [1, 6, 8, 11, 14, 17, 18, 19, 48] [501, 502, 503, 504] (fun _ _ => trivial) fun K' hK' => ?_
            repeat (refine sxf_next fun K2 hK2 => ?_; simp [dNum, dS, pairA, assertA]; (repeat (refine ⟨by omega, ?_⟩)); refine hK2 _ ?_; clear hK2 K2)
            refine sxf_nil (hK' _ ?_)
            refine AW.st (by simp [dNum, dS, pairA, assertA]; rfl) ?_
            clear hK' K'
            refine AW_cond false rfl (fun h => by cases h) (fun _ => ?_)
            refine AW_skip (hgo _ none [.or m] rfl ?_)
            refine Imp.to' (fun _ _ => trivial) (by simp [dNum, dS, pairA, assertA, oRow, dE, dEs_map]) (by simp [dNum, dS, pairA, assertA, oRow, dE, dEs_map])
          | false =>
            refine AW_rg (tyOf_good _) [1, 6, 8, 11, 17, 18, 19, 24] [501, 502, 503, 504] (fun _ _ => trivial) fun K' hK' => ?_
            repeat (refine sxf_next fun K2 hK2 => ?_; simp [dNum, dS, pairA, assertA]; (repeat (refine ⟨by omega, ?_⟩)); refine hK2 _ ?_; clear hK2 K2)
            refine sxf_next fun K2 hK2 => ?_
            simp [dNum, dS, pairA, assertA]
            refine callK.data (htx) (by simp; rfl) (by first | exact D.leGo_refl _ | simp [takeMap, List.map_map, Function.comp_def, D.le, D.le.go, D.le_refl, D.leGo_refl, dNum, dS, pairA, assertA]) ?_
            refine hK2 _ ?_
            clear hK2 K2
            simp only [putd, upd_lst]
            repeat (refine sxf_next fun K2 hK2 => ?_; simp [dNum, dS, pairA, assertA]; (repeat (refine ⟨by omega, ?_⟩)); refine hK2 _ ?_; clear hK2 K2)
            refine sxf_nil (hK' _ ?_)
            refine AW.st (by simp [dNum, dS, pairA, assertA]; rfl) ?_
            clear hK' K'
            refine AW_block ?_
            refine AW_rg (tyOf_good _) [1, 6, 8, 11, 17, 18, 19, 24, 28, 29] [501, 502, 503, 504] (fun _ _ => trivial) fun K' hK' => ?_
            repeat (refine sxf_next fun K2 hK2 => ?_; simp [dNum, dS, pairA, assertA]; (repeat (refine ⟨by omega, ?_⟩)); refine hK2 _ ?_; clear hK2 K2)
            refine sxf_nil (hK' _ ?_)
            refine AW.st (by simp [dNum, dS, pairA, assertA]; rfl) ?_
            clear hK' K'
            refine AW_cond false rfl (fun h => by cases h) (fun _ => ?_)
            refine AW_rg (tyOf_good _) [1, 6, 8, 11, 17, 18, 19, 24, 34, 35] [501, 502, 503, 504] (fun _ _ => trivial) fun K' hK' => ?_
            repeat (refine sxf_next fun K2 hK2 => ?_; simp [dNum, dS, pairA, assertA]; (repeat (refine ⟨by omega, ?_⟩)); refine hK2 _ ?_; clear hK2 K2)
            refine sxf_nil (hK' _ ?_)
            refine AW.st (by simp [dNum, dS, pairA, assertA]; rfl) ?_
            clear hK' K'
            refine AW_cond false rfl (fun h => by cases h) (fun _ => ?_)
            refine AW_rg (tyOf_good _) [1, 6, 8, 11, 17, 18, 19, 24, 42, 43] [501, 502, 503, 504] (fun _ _ => trivial) fun K' hK' => ?_
            repeat (refine sxf_next fun K2 hK2 => ?_; simp [dNum, dS, pairA, assertA]; (repeat (refine ⟨by omega, ?_⟩)); refine hK2 _ ?_; clear hK2 K2)
            refine sxf_nil (hK' _ ?_)
            refine AW.st (by simp [dNum, dS, pairA, assertA]; rfl) ?_
            clear hK' K'
            refine AW_cond true rfl (fun _ => ?_) (fun h => by cases h)
            refine AW_rg (tyOf_good _) [1, 6, 8, 14, 17, 18, 19] [501, 502, 503, 504] (fun _ _ => trivial) fun K' hK' => ?_
            repeat (refine sxf_next fun K2 hK2 => ?_; simp [dNum, dS, pairA, assertA]; (repeat (refine ⟨by omega, ?_⟩)); refine hK2 _ ?_; clear hK2 K2)
            refine sxf_nil (hK' _ ?_)
            refine AW.st (by simp [dNum, dS, pairA, assertA]; rfl) ?_
            clear hK' K'
            refine AW_rg (tyOf_good _) [1, 6, 8, 11, 14, 17, 18, 19] [501, 502, 503, 504, 46] (fun _ _ => trivial) fun K' hK' => ?_
            repeat (refine sxf_next fun K2 hK2 => ?_; simp [dNum, dS, pairA, assertA]; (repeat (refine ⟨by omega, ?_⟩)); refine hK2 _ ?_; clear hK2 K2)
            refine sxf_nil (hK' _ ?_)
            refine AW.st (by simp [dNum, dS, pairA, assertA]; rfl) ?_
            clear hK' K'
            refine AW.imp (Imp.freeze 46 trivial) ?_
            refine AW.st (by simp [dNum, dS, pairA, assertA]; rfl) ?_
            refine AW_rg (tyOf_good _) [1, 6, 8, 11, 14, 17, 18, 19, 48] [501, 502, 503, 504] (fun _ _ => trivial) fun K' hK' => ?_
            repeat (refine sxf_next fun K2 hK2 => ?_; simp [dNum, dS, pairA, assertA]; (repeat (refine ⟨by omega, ?_⟩)); refine hK2 _ ?_; clear hK2 K2)
            refine sxf_nil (hK' _ ?_)
            refine AW.st (by simp [dNum, dS, pairA, assertA]; rfl) ?_
            clear hK' K'
            refine AW_cond true rfl (fun _ => ?_) (fun h => by cases h)
            refine AW_re (tyOf_good _) fun K' hK' => ?_
            repeat (refine sxf_next fun K2 hK2 => ?_; simp [dNum, dS, pairA, assertA]; (repeat (refine ⟨by omega, ?_⟩)); refine hK2 _ ?_; clear hK2 K2)
            refine sxf_nil (hK' _ ?_)
            clear hK' K'
            try simp only [thn, inb]
            refine hgo _ none m rfl ?_
            refine Imp.to' (fun _ _ => trivial) (by simp [dNum, dS, pairA, assertA, oRow]) (by simp [dNum, dS, pairA, assertA, oRow])
        obtain ⟨t, c, hy, h1, h2, h3⟩ := dE_rest y hC (fun m h => hand ⟨m, h⟩) (fun m h => hor ⟨m, h⟩)
        have hpc : piecesE and y = some [y] := by
          cases y with
          | cst b => cases hC
          | and m => exact absurd ⟨m, rfl⟩ hand
          | or m => exact absurd ⟨m, rfl⟩ hor
          | _ => rfl
        rw [hy] at htx
        refine AW_rg (tyOf_good _) [1, 6, 8, 11, 17, 18, 19, 24] [501, 502, 503, 504] (fun _ _ => trivial) fun K' hK' => ?_
        repeat (refine sxf_next fun K2 hK2 => ?_; simp [dNum, dS, pairA, assertA]; (repeat (refine ⟨by omega, ?_⟩)); refine hK2 _ ?_; clear hK2 K2)
        refine sxf_next fun K2 hK2 => ?_
        simp [dNum, dS, pairA, assertA]
        refine callK.data (htx) (by simp; rfl) (by first | exact D.leGo_refl _ | simp [takeMap, List.map_map, Function.comp_def, D.le, D.le.go, D.le_refl, D.leGo_refl, dNum, dS, pairA, assertA]) ?_
        refine hK2 _ ?_
        clear hK2 K2
        simp only [putd, upd_lst]
        repeat (refine sxf_next fun K2 hK2 => ?_; simp [dNum, dS, pairA, assertA]; (repeat (refine ⟨by omega, ?_⟩)); refine hK2 _ ?_; clear hK2 K2)
        refine sxf_nil (hK' _ ?_)
        refine AW.st (by simp [dNum, dS, pairA, assertA]; rfl) ?_
        clear hK' K'
        refine AW_block ?_
        refine AW_rg (tyOf_good _) [1, 6, 8, 11, 17, 18, 19, 24, 28, 29] [501, 502, 503, 504] (fun _ _ => trivial) fun K' hK' => ?_
        repeat (refine sxf_next fun K2 hK2 => ?_; simp [dNum, dS, pairA, assertA, h1]; (repeat (refine ⟨by omega, ?_⟩)); refine hK2 _ ?_; clear hK2 K2)
        refine sxf_nil (hK' _ ?_)
        refine AW.st (by simp [dNum, dS, pairA, assertA, h1]; rfl) ?_
        clear hK' K'
        refine AW_cond false rfl (fun h => by cases h) (fun _ => ?_)
        refine AW_rg (tyOf_good _) [1, 6, 8, 11, 17, 18, 19, 24, 34, 35] [501, 502, 503, 504] (fun _ _ => trivial) fun K' hK' => ?_
        repeat (refine sxf_next fun K2 hK2 => ?_; simp [dNum, dS, pairA, assertA, h2]; (repeat (refine ⟨by omega, ?_⟩)); refine hK2 _ ?_; clear hK2 K2)
        refine sxf_nil (hK' _ ?_)
        refine AW.st (by simp [dNum, dS, pairA, assertA, h2]; rfl) ?_
        clear hK' K'
        refine AW_cond false rfl (fun h => by cases h) (fun _ => ?_)
        refine AW_rg (tyOf_good _) [1, 6, 8, 11, 17, 18, 19, 24, 42, 43] [501, 502, 503, 504] (fun _ _ => trivial) fun K' hK' => ?_
        repeat (refine sxf_next fun K2 hK2 => ?_; simp [dNum, dS, pairA, assertA, h3]; (repeat (refine ⟨by omega, ?_⟩)); refine hK2 _ ?_; clear hK2 K2)
        refine sxf_nil (hK' _ ?_)
        refine AW.st (by simp [dNum, dS, pairA, assertA, h3]; rfl) ?_
        clear hK' K'
        refine AW_cond false rfl (fun h => by cases h) (fun _ => ?_)
        refine AW_rg (tyOf_good _) [1, 6, 8, 15, 17, 18, 19] [501, 502, 503, 504] (fun _ _ => trivial) fun K' hK' => ?_
        repeat (refine sxf_next fun K2 hK2 => ?_; simp [dNum, dS, pairA, assertA]; (repeat (refine ⟨by omega, ?_⟩)); refine hK2 _ ?_; clear hK2 K2)
        refine sxf_nil (hK' _ ?_)
        refine AW.st (by simp [dNum, dS, pairA, assertA]; rfl) ?_
        clear hK' K'
        refine AW_re (tyOf_good _) fun K' hK' => ?_
        repeat (refine sxf_next fun K2 hK2 => ?_; simp [dNum, dS, pairA, assertA]; (repeat (refine ⟨by omega, ?_⟩)); refine hK2 _ ?_; clear hK2 K2)
        refine sxf_nil (hK' _ ?_)
        clear hK' K'
        try simp only [thn, inb]
        refine hgo _ none [y] hpc ?_
        refine (Imp.freeze 26 trivial).trans ?_
        refine Imp.to' (fun _ _ => trivial) (by simp [dNum, dS, pairA, assertA, oRow, hy, St.freeze]) (by simp [dNum, dS, pairA, assertA, oRow, hy, St.freeze])
      · have hcs := containsP_spec G k i out (by have := pieces_b hi; omega)
        rw [hi] at hsn
        dsimp only at hsn
        rw [addsE_P] at hsn
        cases hov : (addsP out i).2 with
        | true =>
          rw [hov] at hcs hsn
          rw [if_pos rfl] at hsn
          rw [hst hsn]
          refine AW_rg (tyOf_good _) [1, 6, 8, 17, 18, 19, 52] [501, 502, 503, 504] (fun _ _ => trivial) fun K' hK' => ?_
          repeat (refine sxf_next fun K2 hK2 => ?_; simp [dNum, dS, pairA, assertA, oRow]; (repeat (refine ⟨by omega, ?_⟩)); refine hK2 _ ?_; clear hK2 K2)
          refine sxf_next fun K2 hK2 => ?_
          simp [dNum, dS, pairA, assertA, oRow]
          refine callK.mc (hcs) (by simp [dNum, dS, pairA, assertA, oRow]) (by simp [dNum, dS, pairA, assertA, oRow]) (by simp [dNum, dS, pairA, assertA, oRow]) (by simp [dNum, dS, pairA, assertA, oRow]) ?_
          simp [dNum, dS, pairA, assertA, oRow]
          refine hK2 _ ?_
          clear hK2 K2
          repeat (refine sxf_next fun K2 hK2 => ?_; simp [dNum, dS, pairA, assertA, oRow]; (repeat (refine ⟨by omega, ?_⟩)); refine hK2 _ ?_; clear hK2 K2)
          refine sxf_nil (hK' _ ?_)
          refine AW.st (by simp [dNum, dS, pairA, assertA, oRow]; rfl) ?_
          clear hK' K'
          refine AW_cond true rfl (fun _ => ?_) (fun h => by cases h)
          refine AW_rg (tyOf_good _) [4, 5] [501, 502, 503, 504] (fun _ _ => trivial) fun K' hK' => ?_
          repeat (refine sxf_next fun K2 hK2 => ?_; simp [dNum, dS, pairA, assertA]; (repeat (refine ⟨by omega, ?_⟩)); refine hK2 _ ?_; clear hK2 K2)
          refine sxf_nil (hK' _ ?_)
          refine AW.st (by simp [dNum, dS, pairA, assertA]; rfl) ?_
          clear hK' K'
          refine AW_ret ?_
          simp [D.le, D.le.go, takeMap, dNum, dS, pairA, assertA, dParts]
        | false =>
          rw [hov] at hcs hsn
          rw [if_neg (by simp)] at hsn
          refine AW_rg (tyOf_good _) [1, 6, 8, 17, 18, 19, 52] [501, 502, 503, 504] (fun _ _ => trivial) fun K' hK' => ?_
          repeat (refine sxf_next fun K2 hK2 => ?_; simp [dNum, dS, pairA, assertA, oRow]; (repeat (refine ⟨by omega, ?_⟩)); refine hK2 _ ?_; clear hK2 K2)
          refine sxf_next fun K2 hK2 => ?_
          simp [dNum, dS, pairA, assertA, oRow]
          refine callK.mc (hcs) (by simp [dNum, dS, pairA, assertA, oRow]) (by simp [dNum, dS, pairA, assertA, oRow]) (by simp [dNum, dS, pairA, assertA, oRow]) (by simp [dNum, dS, pairA, assertA, oRow]) ?_
          simp [dNum, dS, pairA, assertA, oRow]
          refine hK2 _ ?_
          clear hK2 K2
          repeat (refine sxf_next fun K2 hK2 => ?_; simp [dNum, dS, pairA, assertA, oRow]; (repeat (refine ⟨by omega, ?_⟩)); refine hK2 _ ?_; clear hK2 K2)
          refine sxf_nil (hK' _ ?_)
          refine AW.st (by simp [dNum, dS, pairA, assertA, oRow]; rfl) ?_
          clear hK' K'
          refine AW_cond false rfl (fun h => by cases h) (fun _ => ?_)
          refine AW_skip (hK3 _ ?_)
          refine AW_re (tyOf_good _) fun K' hK' => ?_
          repeat (refine sxf_next fun K2 hK2 => ?_; simp [dNum, dS, pairA, assertA]; (repeat (refine ⟨by omega, ?_⟩)); refine hK2 _ ?_; clear hK2 K2)
          refine sxf_nil (hK' _ ?_)
          clear hK' K'
          try simp only [thn, inb]
          refine Again.mk (n + 1, (addsP out i).1) ⟨by dsimp only; omega, hsn⟩ (by dsimp only; omega) ?_
          refine Imp.to' (fun _ _ => trivial) (by simp [dNum, dS, pairA, assertA, oRow]) (by simp [dNum, dS, pairA, assertA, oRow])
    · obtain rfl : n = l.length := by omega
      rw [List.take_length] at hp
      refine AW_exit (hK1 _ ?_)
      rw [hp]
      refine AW_rg (tyOf_good _) [4, 5] [501, 502, 503, 504] (fun _ _ => trivial) fun K' hK' => ?_
      repeat (refine sxf_next fun K2 hK2 => ?_; simp [dNum, dS, pairA, assertA]; (repeat (refine ⟨by omega, ?_⟩)); refine hK2 _ ?_; clear hK2 K2)
      refine sxf_nil (hK' _ ?_)
      refine AW.st (by simp [dNum, dS, pairA, assertA]; rfl) ?_
      clear hK' K'
      refine AW.imp (Imp.freeze 504 trivial) ?_
      refine AW.st (by simp [dNum, dS, pairA, assertA, List.take_of_length_le]; rfl) ?_
      refine AW_ret ?_
      simp [D.le, D.le.go, takeMap, dNum, dS, pairA, assertA, dParts, D.le_refl, D.leGo_refl]
set_option maxHeartbeats 32000000 in
theorem tidy_at (G : Glob) : ∀ (n : Nat) (e : Ex), SizeOf.sizeOf e ≤ n → bE e ≤ 2^27 → PureC Tryd.prog G 24 [dE e] (dE (tidE e)) := by
  intro n
  induction n with
  | zero => intro e hsz; cases e <;> simp at hsz
  | succ n ih =>
    intro e hsz hb
    by_cases hN : ∃ x, e = .not x
    · obtain ⟨x, rfl⟩ := hN
      have hc := ih x (by simp at hsz; omega) (by simp only [bE] at hb; omega)
      obtain ⟨tx, cx, hx⟩ := dE_ifc x
      rw [tidE]
      rw [dE, hx]
      rw [hx] at hc
      generalize tidE x = y at hc ⊢
      by_cases hcst : ∃ b, y = .cst b
      · obtain ⟨b, rfl⟩ := hcst
        rw [dE] at hc
        refine PureC.of_body (tyOf_good _) Tryd.func24 rfl rfl (rs := [.tmp 2]) Tryd.results24 (by simp [Tryd.ntmps24]) fun X => ?_
        simp only [Tryd.ntmps24, List.map]
        refine AW_rg (tyOf_good _) [0] [] (fun _ _ => trivial) fun K' hK' => ?_
        repeat (refine sxf_next fun K2 hK2 => ?_; simp [dNum, dS, pairA, assertA]; (repeat (refine ⟨by omega, ?_⟩)); refine hK2 _ ?_; clear hK2 K2)
        refine sxf_nil (hK' _ ?_)
        refine AW.st (by simp [dNum, dS, pairA, assertA]; rfl) ?_
        clear hK' K'
        refine AW_then fun K1 hK1 => ?_
        refine AW_rg (tyOf_good _) [0, 13] [] (fun _ _ => trivial) fun K' hK' => ?_
        repeat (refine sxf_next fun K2 hK2 => ?_; simp [dNum, dS, pairA, assertA]; (repeat (refine ⟨by omega, ?_⟩)); refine hK2 _ ?_; clear hK2 K2)
        refine sxf_nil (hK' _ ?_)
        refine AW.st (by simp [dNum, dS, pairA, assertA]; rfl) ?_
        clear hK' K'
        refine AW_block ?_
        refine AW_rg (tyOf_good _) [0, 13, 15, 16] [] (fun _ _ => trivial) fun K' hK' => ?_
        repeat (refine sxf_next fun K2 hK2 => ?_; simp [dNum, dS, pairA, assertA]; (repeat (refine ⟨by omega, ?_⟩)); refine hK2 _ ?_; clear hK2 K2)
        refine sxf_nil (hK' _ ?_)
        refine AW.st (by simp [dNum, dS, pairA, assertA]; rfl) ?_
        clear hK' K'
        refine AW_cond true rfl (fun _ => ?_) (fun h => by cases h)
        refine AW_rg (tyOf_good _) [3] [3] (fun _ _ => trivial) fun K' hK' => ?_
        repeat (refine sxf_next fun K2 hK2 => ?_; simp [dNum, dS, pairA, assertA]; (repeat (refine ⟨by omega, ?_⟩)); refine hK2 _ ?_; clear hK2 K2)
        refine sxf_nil (hK' _ ?_)
        refine AW.st (by simp [dNum, dS, pairA, assertA]; rfl) ?_
        clear hK' K'
        refine AW_rg (tyOf_good _) [19] [3] (fun _ _ => trivial) fun K' hK' => ?_
        repeat (refine sxf_next fun K2 hK2 => ?_; simp [dNum, dS, pairA, assertA]; (repeat (refine ⟨by omega, ?_⟩)); refine hK2 _ ?_; clear hK2 K2)
        refine sxf_next fun K2 hK2 => ?_
        simp [dNum, dS, pairA, assertA]
        refine callK.data (hc) (by simp; rfl) (by first | exact D.leGo_refl _ | simp [takeMap, List.map_map, Function.comp_def, D.le, D.le.go, D.le_refl, D.leGo_refl, dNum, dS, pairA, assertA]) ?_
        refine hK2 _ ?_
        clear hK2 K2
        simp only [putd, upd_lst]
        repeat (refine sxf_next fun K2 hK2 => ?_; simp [dNum, dS, pairA, assertA]; (repeat (refine ⟨by omega, ?_⟩)); refine hK2 _ ?_; clear hK2 K2)
        refine sxf_nil (hK' _ ?_)
        refine AW.st (by simp [dNum, dS, pairA, assertA]; rfl) ?_
        clear hK' K'
        refine AW_block ?_
        refine AW_rg (tyOf_good _) [19, 24, 25] [3] (fun _ _ => trivial) fun K' hK' => ?_
        repeat (refine sxf_next fun K2 hK2 => ?_; simp [dNum, dS, pairA, assertA]; (repeat (refine ⟨by omega, ?_⟩)); refine hK2 _ ?_; clear hK2 K2)
        refine sxf_nil (hK' _ ?_)
        refine AW.st (by simp [dNum, dS, pairA, assertA]; rfl) ?_
        clear hK' K'
        refine AW_cond true rfl (fun _ => ?_) (fun h => by cases h)
        refine AW_rg (tyOf_good _) [4] [3] (fun _ _ => trivial) fun K' hK' => ?_
        repeat (refine sxf_next fun K2 hK2 => ?_; simp [dNum, dS, pairA, assertA]; (repeat (refine ⟨by omega, ?_⟩)); refine hK2 _ ?_; clear hK2 K2)
        refine sxf_nil (hK' _ ?_)
        refine AW.st (by simp [dNum, dS, pairA, assertA]; rfl) ?_
        clear hK' K'
        refine AW_rg (tyOf_good _) [2] [3] (fun _ _ => trivial) fun K' hK' => ?_
        repeat (refine sxf_next fun K2 hK2 => ?_; simp [dNum, dS, pairA, assertA]; (repeat (refine ⟨by omega, ?_⟩)); refine hK2 _ ?_; clear hK2 K2)
        refine sxf_nil (hK' _ ?_)
        refine AW.st (by simp [dNum, dS, pairA, assertA]; rfl) ?_
        clear hK' K'
        refine AW_ret ?_
        simp [D.le, D.le.go, takeMap, dNum, dS, pairA, assertA, notE, dE, D.le_refl]
      by_cases hnn : ∃ z, y = .not z
      · obtain ⟨z, rfl⟩ := hnn
        obtain ⟨tz, cz, hz⟩ := dE_ifc z
        rw [dE, hz] at hc
        refine PureC.of_body (tyOf_good _) Tryd.func24 rfl rfl (rs := [.tmp 2]) Tryd.results24 (by simp [Tryd.ntmps24]) fun X => ?_
        simp only [Tryd.ntmps24, List.map]
        refine AW_rg (tyOf_good _) [0] [] (fun _ _ => trivial) fun K' hK' => ?_
        repeat (refine sxf_next fun K2 hK2 => ?_; simp [dNum, dS, pairA, assertA]; (repeat (refine ⟨by omega, ?_⟩)); refine hK2 _ ?_; clear hK2 K2)
        refine sxf_nil (hK' _ ?_)
        refine AW.st (by simp [dNum, dS, pairA, assertA]; rfl) ?_
        clear hK' K'
        refine AW_then fun K1 hK1 => ?_
        refine AW_rg (tyOf_good _) [0, 13] [] (fun _ _ => trivial) fun K' hK' => ?_
        repeat (refine sxf_next fun K2 hK2 => ?_; simp [dNum, dS, pairA, assertA]; (repeat (refine ⟨by omega, ?_⟩)); refine hK2 _ ?_; clear hK2 K2)
        refine sxf_nil (hK' _ ?_)
        refine AW.st (by simp [dNum, dS, pairA, assertA]; rfl) ?_
        clear hK' K'
        refine AW_block ?_
        refine AW_rg (tyOf_good _) [0, 13, 15, 16] [] (fun _ _ => trivial) fun K' hK' => ?_
        repeat (refine sxf_next fun K2 hK2 => ?_; simp [dNum, dS, pairA, assertA]; (repeat (refine ⟨by omega, ?_⟩)); refine hK2 _ ?_; clear hK2 K2)
        refine sxf_nil (hK' _ ?_)
        refine AW.st (by simp [dNum, dS, pairA, assertA]; rfl) ?_
        clear hK' K'
        refine AW_cond true rfl (fun _ => ?_) (fun h => by cases h)
        refine AW_rg (tyOf_good _) [3] [3] (fun _ _ => trivial) fun K' hK' => ?_
        repeat (refine sxf_next fun K2 hK2 => ?_; simp [dNum, dS, pairA, assertA]; (repeat (refine ⟨by omega, ?_⟩)); refine hK2 _ ?_; clear hK2 K2)
        refine sxf_nil (hK' _ ?_)
        refine AW.st (by simp [dNum, dS, pairA, assertA]; rfl) ?_
        clear hK' K'
        refine AW_rg (tyOf_good _) [19] [3] (fun _ _ => trivial) fun K' hK' => ?_
        repeat (refine sxf_next fun K2 hK2 => ?_; simp [dNum, dS, pairA, assertA]; (repeat (refine ⟨by omega, ?_⟩)); refine hK2 _ ?_; clear hK2 K2)
        refine sxf_next fun K2 hK2 => ?_
        simp [dNum, dS, pairA, assertA]
        refine callK.data (hc) (by simp; rfl) (by first | exact D.leGo_refl _ | simp [takeMap, List.map_map, Function.comp_def, D.le, D.le.go, D.le_refl, D.leGo_refl, dNum, dS, pairA, assertA]) ?_
        refine hK2 _ ?_
        clear hK2 K2
        simp only [putd, upd_lst]
        repeat (refine sxf_next fun K2 hK2 => ?_; simp [dNum, dS, pairA, assertA]; (repeat (refine ⟨by omega, ?_⟩)); refine hK2 _ ?_; clear hK2 K2)
        refine sxf_nil (hK' _ ?_)
        refine AW.st (by simp [dNum, dS, pairA, assertA]; rfl) ?_
        clear hK' K'
        refine AW_block ?_
        refine AW_rg (tyOf_good _) [19, 24, 25] [3] (fun _ _ => trivial) fun K' hK' => ?_
        repeat (refine sxf_next fun K2 hK2 => ?_; simp [dNum, dS, pairA, assertA]; (repeat (refine ⟨by omega, ?_⟩)); refine hK2 _ ?_; clear hK2 K2)
        refine sxf_nil (hK' _ ?_)
        refine AW.st (by simp [dNum, dS, pairA, assertA]; rfl) ?_
        clear hK' K'
        refine AW_cond false rfl (fun h => by cases h) (fun _ => ?_)
        refine AW_rg (tyOf_good _) [19, 30, 31] [3] (fun _ _ => trivial) fun K' hK' => ?_
        repeat (refine sxf_next fun K2 hK2 => ?_; simp [dNum, dS, pairA, assertA]; (repeat (refine ⟨by omega, ?_⟩)); refine hK2 _ ?_; clear hK2 K2)
        refine sxf_nil (hK' _ ?_)
        refine AW.st (by simp [dNum, dS, pairA, assertA]; rfl) ?_
        clear hK' K'
        refine AW_cond true rfl (fun _ => ?_) (fun h => by cases h)
        refine AW_rg (tyOf_good _) [5] [3, 5] (fun _ _ => trivial) fun K' hK' => ?_
        repeat (refine sxf_next fun K2 hK2 => ?_; simp [dNum, dS, pairA, assertA]; (repeat (refine ⟨by omega, ?_⟩)); refine hK2 _ ?_; clear hK2 K2)
        refine sxf_nil (hK' _ ?_)
        refine AW.st (by simp [dNum, dS, pairA, assertA]; rfl) ?_
        clear hK' K'
        refine AW_rg (tyOf_good _) [2] [3, 5] (fun _ _ => trivial) fun K' hK' => ?_
        repeat (refine sxf_next fun K2 hK2 => ?_; simp [dNum, dS, pairA, assertA]; (repeat (refine ⟨by omega, ?_⟩)); refine hK2 _ ?_; clear hK2 K2)
        refine sxf_nil (hK' _ ?_)
        refine AW.st (by simp [dNum, dS, pairA, assertA]; rfl) ?_
        clear hK' K'
        refine AW_ret ?_
        simp [D.le, D.le.go, takeMap, dNum, dS, pairA, assertA, notE, hz, D.le_refl]
      have hk : ∃ t c, dE y = .ifc t c ∧ ¬ t = 104 ∧ ¬ t = 109 := by
        cases y with
        | cst b => exact absurd ⟨b, rfl⟩ hcst
        | not z => exact absurd ⟨z, rfl⟩ hnn
        | bit s => exact ⟨_, _, by rw [dE], by decide, by decide⟩
        | rise s => exact ⟨_, _, by rw [dE], by decide, by decide⟩
        | fall s => exact ⟨_, _, by rw [dE], by decide, by decide⟩
        | and l => exact ⟨_, _, by rw [dE], by decide, by decide⟩
        | or l => exact ⟨_, _, by rw [dE], by decide, by decide⟩
      have hne : notE y = .not y := by
        cases y with
        | cst b => exact absurd ⟨b, rfl⟩ hcst
        | not z => exact absurd ⟨z, rfl⟩ hnn
        | _ => rfl
      obtain ⟨t, c, hy, h1, h2⟩ := hk
      rw [hne, dE, hy]
      rw [hy] at hc
      refine PureC.of_body (tyOf_good _) Tryd.func24 rfl rfl (rs := [.tmp 2]) Tryd.results24 (by simp [Tryd.ntmps24]) fun X => ?_
      simp only [Tryd.ntmps24, List.map]
      refine AW_rg (tyOf_good _) [0] [] (fun _ _ => trivial) fun K' hK' => ?_
      repeat (refine sxf_next fun K2 hK2 => ?_; simp [dNum, dS, pairA, assertA]; (repeat (refine ⟨by omega, ?_⟩)); refine hK2 _ ?_; clear hK2 K2)
      refine sxf_nil (hK' _ ?_)
      refine AW.st (by simp [dNum, dS, pairA, assertA]; rfl) ?_
      clear hK' K'
      refine AW_then fun K1 hK1 => ?_
      refine AW_rg (tyOf_good _) [0, 13] [] (fun _ _ => trivial) fun K' hK' => ?_
      repeat (refine sxf_next fun K2 hK2 => ?_; simp [dNum, dS, pairA, assertA]; (repeat (refine ⟨by omega, ?_⟩)); refine hK2 _ ?_; clear hK2 K2)
      refine sxf_nil (hK' _ ?_)
      refine AW.st (by simp [dNum, dS, pairA, assertA]; rfl) ?_
      clear hK' K'
      refine AW_block ?_
      refine AW_rg (tyOf_good _) [0, 13, 15, 16] [] (fun _ _ => trivial) fun K' hK' => ?_
      repeat (refine sxf_next fun K2 hK2 => ?_; simp [dNum, dS, pairA, assertA]; (repeat (refine ⟨by omega, ?_⟩)); refine hK2 _ ?_; clear hK2 K2)
      refine sxf_nil (hK' _ ?_)
      refine AW.st (by simp [dNum, dS, pairA, assertA]; rfl) ?_
      clear hK' K'
      refine AW_cond true rfl (fun _ => ?_) (fun h => by cases h)
      refine AW_rg (tyOf_good _) [3] [3] (fun _ _ => trivial) fun K' hK' => ?_
      repeat (refine sxf_next fun K2 hK2 => ?_; simp [dNum, dS, pairA, assertA]; (repeat (refine ⟨by omega, ?_⟩)); refine hK2 _ ?_; clear hK2 K2)
      refine sxf_nil (hK' _ ?_)
      refine AW.st (by simp [dNum, dS, pairA, assertA]; rfl) ?_
      clear hK' K'
      refine AW_rg (tyOf_good _) [19] [3] (fun _ _ => trivial) fun K' hK' => ?_
      repeat (refine sxf_next fun K2 hK2 => ?_; simp [dNum, dS, pairA, assertA]; (repeat (refine ⟨by omega, ?_⟩)); refine hK2 _ ?_; clear hK2 K2)
      refine sxf_next fun K2 hK2 => ?_
      simp [dNum, dS, pairA, assertA]
      refine callK.data (hc) (by simp; rfl) (by first | exact D.leGo_refl _ | simp [takeMap, List.map_map, Function.comp_def, D.le, D.le.go, D.le_refl, D.leGo_refl, dNum, dS, pairA, assertA]) ?_
      refine hK2 _ ?_
      clear hK2 K2
      simp only [putd, upd_lst]
      repeat (refine sxf_next fun K2 hK2 => ?_; simp [dNum, dS, pairA, assertA]; (repeat (refine ⟨by omega, ?_⟩)); refine hK2 _ ?_; clear hK2 K2)
      refine sxf_nil (hK' _ ?_)
      refine AW.st (by simp [dNum, dS, pairA, assertA]; rfl) ?_
      clear hK' K'
      refine AW_block ?_
      refine AW_rg (tyOf_good _) [19, 24, 25] [3] (fun _ _ => trivial) fun K' hK' => ?_
      repeat (refine sxf_next fun K2 hK2 => ?_; simp [dNum, dS, pairA, assertA, h1]; (repeat (refine ⟨by omega, ?_⟩)); refine hK2 _ ?_; clear hK2 K2)
      refine sxf_nil (hK' _ ?_)
      refine AW.st (by simp [dNum, dS, pairA, assertA, h1]; rfl) ?_
      clear hK' K'
      refine AW_cond false rfl (fun h => by cases h) (fun _ => ?_)
      refine AW_rg (tyOf_good _) [19, 30, 31] [3] (fun _ _ => trivial) fun K' hK' => ?_
      repeat (refine sxf_next fun K2 hK2 => ?_; simp [dNum, dS, pairA, assertA, h2]; (repeat (refine ⟨by omega, ?_⟩)); refine hK2 _ ?_; clear hK2 K2)
      refine sxf_nil (hK' _ ?_)
      refine AW.st (by simp [dNum, dS, pairA, assertA, h2]; rfl) ?_
      clear hK' K'
      refine AW_cond false rfl (fun h => by cases h) (fun _ => ?_)
      refine AW_rg (tyOf_good _) [6] [3] (fun _ _ => trivial) fun K' hK' => ?_
      repeat (refine sxf_next fun K2 hK2 => ?_; simp [dNum, dS, pairA, assertA]; (repeat (refine ⟨by omega, ?_⟩)); refine hK2 _ ?_; clear hK2 K2)
      refine sxf_nil (hK' _ ?_)
      refine AW.st (by simp [dNum, dS, pairA, assertA]; rfl) ?_
      clear hK' K'
      refine AW_rg (tyOf_good _) [2] [3] (fun _ _ => trivial) fun K' hK' => ?_
      repeat (refine sxf_next fun K2 hK2 => ?_; simp [dNum, dS, pairA, assertA]; (repeat (refine ⟨by omega, ?_⟩)); refine hK2 _ ?_; clear hK2 K2)
      refine sxf_nil (hK' _ ?_)
      refine AW.st (by simp [dNum, dS, pairA, assertA]; rfl) ?_
      clear hK' K'
      refine AW_ret ?_
      simp [D.le, D.le.go, takeMap, dNum, dS, pairA, assertA, D.le_refl, D.leGo_refl]
    by_cases hand : ∃ l, e = .and l
    · obtain ⟨l, rfl⟩ := hand
      have hp := parts_spec G true l (by simp only [bE] at hb; omega) (fun x hx => ih x (by have := List.sizeOf_lt_of_mem hx; simp only [Ex.and.sizeOf_spec] at hsz; omega) (by have := bEs_mem hx; simp only [bE] at hb; omega))
      rw [tidE, dE, dEs_map]
      have hbp : ∀ o, partsE true [] (tidL l) = some o → o.length ≤ 2^27 := fun o ho => by
        have h1 := parts_b _ _ _ ho
        have h2 := bEs_len o
        have h3 : bEs (tidL l) ≤ bEs l := by rw [tidL_map]; exact bEs_tid l
        simp only [bEs, bE] at h1 hb
        omega
      generalize partsE true [] (tidL l) = R at hp hbp ⊢
      cases R with
      | none =>
        refine PureC.of_body (tyOf_good _) Tryd.func24 rfl rfl (rs := [.tmp 2]) Tryd.results24 (by simp [Tryd.ntmps24]) fun X => ?_
        simp only [Tryd.ntmps24, List.map]
        refine AW_rg (tyOf_good _) [0] [] (fun _ _ => trivial) fun K' hK' => ?_
        repeat (refine sxf_next fun K2 hK2 => ?_; simp [dNum, dS, pairA, assertA]; (repeat (refine ⟨by omega, ?_⟩)); refine hK2 _ ?_; clear hK2 K2)
        refine sxf_nil (hK' _ ?_)
        refine AW.st (by simp [dNum, dS, pairA, assertA]; rfl) ?_
        clear hK' K'
        refine AW_then fun K1 hK1 => ?_
        refine AW_rg (tyOf_good _) [0, 13] [] (fun _ _ => trivial) fun K' hK' => ?_
        repeat (refine sxf_next fun K2 hK2 => ?_; simp [dNum, dS, pairA, assertA]; (repeat (refine ⟨by omega, ?_⟩)); refine hK2 _ ?_; clear hK2 K2)
        refine sxf_nil (hK' _ ?_)
        refine AW.st (by simp [dNum, dS, pairA, assertA]; rfl) ?_
        clear hK' K'
        refine AW_block ?_
        refine AW_rg (tyOf_good _) [0, 13, 15, 16] [] (fun _ _ => trivial) fun K' hK' => ?_
        repeat (refine sxf_next fun K2 hK2 => ?_; simp [dNum, dS, pairA, assertA]; (repeat (refine ⟨by omega, ?_⟩)); refine hK2 _ ?_; clear hK2 K2)
        refine sxf_nil (hK' _ ?_)
        refine AW.st (by simp [dNum, dS, pairA, assertA]; rfl) ?_
        clear hK' K'
        refine AW_cond false rfl (fun h => by cases h) (fun _ => ?_)
        refine AW_rg (tyOf_good _) [0, 13, 35, 36] [] (fun _ _ => trivial) fun K' hK' => ?_
        repeat (refine sxf_next fun K2 hK2 => ?_; simp [dNum, dS, pairA, assertA]; (repeat (refine ⟨by omega, ?_⟩)); refine hK2 _ ?_; clear hK2 K2)
        refine sxf_nil (hK' _ ?_)
        refine AW.st (by simp [dNum, dS, pairA, assertA]; rfl) ?_
        clear hK' K'
        refine AW_cond true rfl (fun _ => ?_) (fun h => by cases h)
        refine AW_rg (tyOf_good _) [7] [] (fun _ _ => trivial) fun K' hK' => ?_
        repeat (refine sxf_next fun K2 hK2 => ?_; simp [dNum, dS, pairA, assertA]; (repeat (refine ⟨by omega, ?_⟩)); refine hK2 _ ?_; clear hK2 K2)
        refine sxf_nil (hK' _ ?_)
        refine AW.st (by simp [dNum, dS, pairA, assertA]; rfl) ?_
        clear hK' K'
        refine AW_rg (tyOf_good _) [8, 9] [] (fun _ _ => trivial) fun K' hK' => ?_
        repeat (refine sxf_next fun K2 hK2 => ?_; simp [dNum, dS, pairA, assertA, dParts]; (repeat (refine ⟨by omega, ?_⟩)); refine hK2 _ ?_; clear hK2 K2)
        refine sxf_next fun K2 hK2 => ?_
        simp [dNum, dS, pairA, assertA, dParts]
        refine callK.data (hp) (by simp; rfl) (by first | exact D.leGo_refl _ | simp [takeMap, List.map_map, Function.comp_def, D.le, D.le.go, D.le_refl, D.leGo_refl, dNum, dS, pairA, assertA, dParts]) ?_
        refine hK2 _ ?_
        clear hK2 K2
        simp only [putd, upd_lst]
        repeat (refine sxf_next fun K2 hK2 => ?_; simp [dNum, dS, pairA, assertA, dParts]; (repeat (refine ⟨by omega, ?_⟩)); refine hK2 _ ?_; clear hK2 K2)
        refine sxf_nil (hK' _ ?_)
        refine AW.st (by simp [dNum, dS, pairA, assertA, dParts]; rfl) ?_
        clear hK' K'
        refine AW_then fun K2 hK2 => ?_
        refine AW_block ?_
        refine AW_rg (tyOf_good _) [8, 42] [] (fun _ _ => trivial) fun K' hK' => ?_
        repeat (refine sxf_next fun K2 hK2 => ?_; simp [dNum, dS, pairA, assertA]; (repeat (refine ⟨by omega, ?_⟩)); refine hK2 _ ?_; clear hK2 K2)
        refine sxf_nil (hK' _ ?_)
        refine AW.st (by simp [dNum, dS, pairA, assertA]; rfl) ?_
        clear hK' K'
        refine AW_cond true rfl (fun _ => ?_) (fun h => by cases h)
        refine AW_rg (tyOf_good _) [2] [] (fun _ _ => trivial) fun K' hK' => ?_
        repeat (refine sxf_next fun K2 hK2 => ?_; simp [dNum, dS, pairA, assertA]; (repeat (refine ⟨by omega, ?_⟩)); refine hK2 _ ?_; clear hK2 K2)
        refine sxf_nil (hK' _ ?_)
        refine AW.st (by simp [dNum, dS, pairA, assertA]; rfl) ?_
        clear hK' K'
        refine AW_ret ?_
        simp [D.le, D.le.go, takeMap, dNum, dS, pairA, assertA, finE, dE, D.le_refl]
      | some o =>
        have hol := hbp o rfl
        match o, hp, hol with
        | [], hp, _ =>
          refine PureC.of_body (tyOf_good _) Tryd.func24 rfl rfl (rs := [.tmp 2]) Tryd.results24 (by simp [Tryd.ntmps24]) fun X => ?_
          simp only [Tryd.ntmps24, List.map]
          refine AW_rg (tyOf_good _) [0] [] (fun _ _ => trivial) fun K' hK' => ?_
          repeat (refine sxf_next fun K2 hK2 => ?_; simp [dNum, dS, pairA, assertA]; (repeat (refine ⟨by omega, ?_⟩)); refine hK2 _ ?_; clear hK2 K2)
          refine sxf_nil (hK' _ ?_)
          refine AW.st (by simp [dNum, dS, pairA, assertA]; rfl) ?_
          clear hK' K'
          refine AW_then fun K1 hK1 => ?_
          refine AW_rg (tyOf_good _) [0, 13] [] (fun _ _ => trivial) fun K' hK' => ?_
          repeat (refine sxf_next fun K2 hK2 => ?_; simp [dNum, dS, pairA, assertA]; (repeat (refine ⟨by omega, ?_⟩)); refine hK2 _ ?_; clear hK2 K2)
          refine sxf_nil (hK' _ ?_)
          refine AW.st (by simp [dNum, dS, pairA, assertA]; rfl) ?_
          clear hK' K'
          refine AW_block ?_
          refine AW_rg (tyOf_good _) [0, 13, 15, 16] [] (fun _ _ => trivial) fun K' hK' => ?_
          repeat (refine sxf_next fun K2 hK2 => ?_; simp [dNum, dS, pairA, assertA]; (repeat (refine ⟨by omega, ?_⟩)); refine hK2 _ ?_; clear hK2 K2)
          refine sxf_nil (hK' _ ?_)
          refine AW.st (by simp [dNum, dS, pairA, assertA]; rfl) ?_
          clear hK' K'
          refine AW_cond false rfl (fun h => by cases h) (fun _ => ?_)
          refine AW_rg (tyOf_good _) [0, 13, 35, 36] [] (fun _ _ => trivial) fun K' hK' => ?_
          repeat (refine sxf_next fun K2 hK2 => ?_; simp [dNum, dS, pairA, assertA]; (repeat (refine ⟨by omega, ?_⟩)); refine hK2 _ ?_; clear hK2 K2)
          refine sxf_nil (hK' _ ?_)
          refine AW.st (by simp [dNum, dS, pairA, assertA]; rfl) ?_
          clear hK' K'
          refine AW_cond true rfl (fun _ => ?_) (fun h => by cases h)
          refine AW_rg (tyOf_good _) [7] [] (fun _ _ => trivial) fun K' hK' => ?_
          repeat (refine sxf_next fun K2 hK2 => ?_; simp [dNum, dS, pairA, assertA]; (repeat (refine ⟨by omega, ?_⟩)); refine hK2 _ ?_; clear hK2 K2)
          refine sxf_nil (hK' _ ?_)
          refine AW.st (by simp [dNum, dS, pairA, assertA]; rfl) ?_
          clear hK' K'
          refine AW_rg (tyOf_good _) [8, 9] [] (fun _ _ => trivial) fun K' hK' => ?_
          repeat (refine sxf_next fun K2 hK2 => ?_; simp [dNum, dS, pairA, assertA, dParts]; (repeat (refine ⟨by omega, ?_⟩)); refine hK2 _ ?_; clear hK2 K2)
          refine sxf_next fun K2 hK2 => ?_
          simp [dNum, dS, pairA, assertA, dParts]
          refine callK.data (hp) (by simp; rfl) (by first | exact D.leGo_refl _ | simp [takeMap, List.map_map, Function.comp_def, D.le, D.le.go, D.le_refl, D.leGo_refl, dNum, dS, pairA, assertA, dParts]) ?_
          refine hK2 _ ?_
          clear hK2 K2
          simp only [putd, upd_lst]
          repeat (refine sxf_next fun K2 hK2 => ?_; simp [dNum, dS, pairA, assertA, dParts]; (repeat (refine ⟨by omega, ?_⟩)); refine hK2 _ ?_; clear hK2 K2)
          refine sxf_nil (hK' _ ?_)
          refine AW.st (by simp [dNum, dS, pairA, assertA, dParts]; rfl) ?_
          clear hK' K'
          refine AW_then fun K2 hK2 => ?_
          refine AW_block ?_
          refine AW_rg (tyOf_good _) [8, 42] [] (fun _ _ => trivial) fun K' hK' => ?_
          repeat (refine sxf_next fun K2 hK2 => ?_; simp [dNum, dS, pairA, assertA]; (repeat (refine ⟨by omega, ?_⟩)); refine hK2 _ ?_; clear hK2 K2)
          refine sxf_nil (hK' _ ?_)
          refine AW.st (by simp [dNum, dS, pairA, assertA]; rfl) ?_
          clear hK' K'
          refine AW_cond false rfl (fun h => by cases h) (fun _ => ?_)
          refine AW_rg (tyOf_good _) [8, 45] [] (fun _ _ => trivial) fun K' hK' => ?_
          repeat (refine sxf_next fun K2 hK2 => ?_; simp [dNum, dS, pairA, assertA]; (repeat (refine ⟨by omega, ?_⟩)); refine hK2 _ ?_; clear hK2 K2)
          refine sxf_nil (hK' _ ?_)
          refine AW.st (by simp [dNum, dS, pairA, assertA]; rfl) ?_
          clear hK' K'
          refine AW_cond true rfl (fun _ => ?_) (fun h => by cases h)
          refine AW_rg (tyOf_good _) [2] [] (fun _ _ => trivial) fun K' hK' => ?_
          repeat (refine sxf_next fun K2 hK2 => ?_; simp [dNum, dS, pairA, assertA]; (repeat (refine ⟨by omega, ?_⟩)); refine hK2 _ ?_; clear hK2 K2)
          refine sxf_nil (hK' _ ?_)
          refine AW.st (by simp [dNum, dS, pairA, assertA]; rfl) ?_
          clear hK' K'
          refine AW_ret ?_
          simp [D.le, D.le.go, takeMap, dNum, dS, pairA, assertA, finE, dE, D.le_refl]
        | [x], hp, _ =>
          obtain ⟨tx, cx, hx⟩ := dE_ifc x
          refine PureC.of_body (tyOf_good _) Tryd.func24 rfl rfl (rs := [.tmp 2]) Tryd.results24 (by simp [Tryd.ntmps24]) fun X => ?_
          simp only [Tryd.ntmps24, List.map]
          refine AW_rg (tyOf_good _) [0] [] (fun _ _ => trivial) fun K' hK' => ?_
          repeat (refine sxf_next fun K2 hK2 => ?_; simp [dNum, dS, pairA, assertA]; (repeat (refine ⟨by omega, ?_⟩)); refine hK2 _ ?_; clear hK2 K2)
          refine sxf_nil (hK' _ ?_)
          refine AW.st (by simp [dNum, dS, pairA, assertA]; rfl) ?_
          clear hK' K'
          refine AW_then fun K1 hK1 => ?_
          refine AW_rg (tyOf_good _) [0, 13] [] (fun _ _ => trivial) fun K' hK' => ?_
          repeat (refine sxf_next fun K2 hK2 => ?_; simp [dNum, dS, pairA, assertA]; (repeat (refine ⟨by omega, ?_⟩)); refine hK2 _ ?_; clear hK2 K2)
          refine sxf_nil (hK' _ ?_)
          refine AW.st (by simp [dNum, dS, pairA, assertA]; rfl) ?_
          clear hK' K'
          refine AW_block ?_
          refine AW_rg (tyOf_good _) [0, 13, 15, 16] [] (fun _ _ => trivial) fun K' hK' => ?_
          repeat (refine sxf_next fun K2 hK2 => ?_; simp [dNum, dS, pairA, assertA]; (repeat (refine ⟨by omega, ?_⟩)); refine hK2 _ ?_; clear hK2 K2)
          refine sxf_nil (hK' _ ?_)
          refine AW.st (by simp [dNum, dS, pairA, assertA]; rfl) ?_
          clear hK' K'
          refine AW_cond false rfl (fun h => by cases h) (fun _ => ?_)
          refine AW_rg (tyOf_good _) [0, 13, 35, 36] [] (fun _ _ => trivial) fun K' hK' => ?_
          repeat (refine sxf_next fun K2 hK2 => ?_; simp [dNum, dS, pairA, assertA]; (repeat (refine ⟨by omega, ?_⟩)); refine hK2 _ ?_; clear hK2 K2)
          refine sxf_nil (hK' _ ?_)
          refine AW.st (by simp [dNum, dS, pairA, assertA]; rfl) ?_
          clear hK' K'
          refine AW_cond true rfl (fun _ => ?_) (fun h => by cases h)
          refine AW_rg (tyOf_good _) [7] [] (fun _ _ => trivial) fun K' hK' => ?_
          repeat (refine sxf_next fun K2 hK2 => ?_; simp [dNum, dS, pairA, assertA]; (repeat (refine ⟨by omega, ?_⟩)); refine hK2 _ ?_; clear hK2 K2)
          refine sxf_nil (hK' _ ?_)
          refine AW.st (by simp [dNum, dS, pairA, assertA]; rfl) ?_
          clear hK' K'
          refine AW_rg (tyOf_good _) [8, 9] [] (fun _ _ => trivial) fun K' hK' => ?_
          repeat (refine sxf_next fun K2 hK2 => ?_; simp [dNum, dS, pairA, assertA, dParts]; (repeat (refine ⟨by omega, ?_⟩)); refine hK2 _ ?_; clear hK2 K2)
          refine sxf_next fun K2 hK2 => ?_
          simp [dNum, dS, pairA, assertA, dParts]
          refine callK.data (hp) (by simp; rfl) (by first | exact D.leGo_refl _ | simp [takeMap, List.map_map, Function.comp_def, D.le, D.le.go, D.le_refl, D.leGo_refl, dNum, dS, pairA, assertA, dParts]) ?_
          refine hK2 _ ?_
          clear hK2 K2
          simp only [putd, upd_lst]
          repeat (refine sxf_next fun K2 hK2 => ?_; simp [dNum, dS, pairA, assertA, dParts]; (repeat (refine ⟨by omega, ?_⟩)); refine hK2 _ ?_; clear hK2 K2)
          refine sxf_nil (hK' _ ?_)
          refine AW.st (by simp [dNum, dS, pairA, assertA, dParts]; rfl) ?_
          clear hK' K'
          refine AW_then fun K2 hK2 => ?_
          refine AW_block ?_
          refine AW_rg (tyOf_good _) [8, 42] [] (fun _ _ => trivial) fun K' hK' => ?_
          repeat (refine sxf_next fun K2 hK2 => ?_; simp [dNum, dS, pairA, assertA]; (repeat (refine ⟨by omega, ?_⟩)); refine hK2 _ ?_; clear hK2 K2)
          refine sxf_nil (hK' _ ?_)
          refine AW.st (by simp [dNum, dS, pairA, assertA]; rfl) ?_
          clear hK' K'
          refine AW_cond false rfl (fun h => by cases h) (fun _ => ?_)
          refine AW_rg (tyOf_good _) [8, 45] [] (fun _ _ => trivial) fun K' hK' => ?_
          repeat (refine sxf_next fun K2 hK2 => ?_; simp [dNum, dS, pairA, assertA]; (repeat (refine ⟨by omega, ?_⟩)); refine hK2 _ ?_; clear hK2 K2)
          refine sxf_nil (hK' _ ?_)
          refine AW.st (by simp [dNum, dS, pairA, assertA]; rfl) ?_
          clear hK' K'
          refine AW_cond false rfl (fun h => by cases h) (fun _ => ?_)
          refine AW_rg (tyOf_good _) [8, 50] [] (fun _ _ => trivial) fun K' hK' => ?_
          repeat (refine sxf_next fun K2 hK2 => ?_; simp [dNum, dS, pairA, assertA]; (repeat (refine ⟨by omega, ?_⟩)); refine hK2 _ ?_; clear hK2 K2)
          refine sxf_nil (hK' _ ?_)
          refine AW.st (by simp [dNum, dS, pairA, assertA]; rfl) ?_
          clear hK' K'
          refine AW_cond true rfl (fun _ => ?_) (fun h => by cases h)
          refine AW_rg (tyOf_good _) [2] [] (fun _ _ => trivial) fun K' hK' => ?_
          repeat (refine sxf_next fun K2 hK2 => ?_; simp [dNum, dS, pairA, assertA, hx]; (repeat (refine ⟨by omega, ?_⟩)); refine hK2 _ ?_; clear hK2 K2)
          refine sxf_nil (hK' _ ?_)
          refine AW.st (by simp [dNum, dS, pairA, assertA, hx]; rfl) ?_
          clear hK' K'
          refine AW_ret ?_
          simp [D.le, D.le.go, takeMap, dNum, dS, pairA, assertA, finE, hx, D.le_refl]
        | x :: y :: o, hp, hol =>
          have hl0 : ¬ (((x :: y :: o).length : Int) = 0) := by simp; omega
          have hl1 : ¬ (((x :: y :: o).length : Int) = 1) := by simp; omega
          have hfin : finE true (some (x :: y :: o)) = .and (x :: y :: o) := rfl
          rw [hfin, dE, dEs_map]
          simp only [dParts] at hp
          generalize x :: y :: o = q at hp hl0 hl1 hol ⊢
          have hl0' : ¬ q.length = 0 := by omega
          have hl1' : ¬ q.length = 1 := by omega
          have hl2' : ¬ q = [] := by rintro rfl; simp at hl0
          refine PureC.of_body (tyOf_good _) Tryd.func24 rfl rfl (rs := [.tmp 2]) Tryd.results24 (by simp [Tryd.ntmps24]) fun X => ?_
          simp only [Tryd.ntmps24, List.map]
          refine AW_rg (tyOf_good _) [0] [] (fun _ _ => trivial) fun K' hK' => ?_
          repeat (refine sxf_next fun K2 hK2 => ?_; simp [dNum, dS, pairA, assertA]; (repeat (refine ⟨by omega, ?_⟩)); refine hK2 _ ?_; clear hK2 K2)
          refine sxf_nil (hK' _ ?_)
          refine AW.st (by simp [dNum, dS, pairA, assertA]; rfl) ?_
          clear hK' K'
          refine AW_then fun K1 hK1 => ?_
          refine AW_rg (tyOf_good _) [0, 13] [] (fun _ _ => trivial) fun K' hK' => ?_
          repeat (refine sxf_next fun K2 hK2 => ?_; simp [dNum, dS, pairA, assertA]; (repeat (refine ⟨by omega, ?_⟩)); refine hK2 _ ?_; clear hK2 K2)
          refine sxf_nil (hK' _ ?_)
          refine AW.st (by simp [dNum, dS, pairA, assertA]; rfl) ?_
          clear hK' K'
          refine AW_block ?_
          refine AW_rg (tyOf_good _) [0, 13, 15, 16] [] (fun _ _ => trivial) fun K' hK' => ?_
          repeat (refine sxf_next fun K2 hK2 => ?_; simp [dNum, dS, pairA, assertA]; (repeat (refine ⟨by omega, ?_⟩)); refine hK2 _ ?_; clear hK2 K2)
          refine sxf_nil (hK' _ ?_)
          refine AW.st (by simp [dNum, dS, pairA, assertA]; rfl) ?_
          clear hK' K'
          refine AW_cond false rfl (fun h => by cases h) (fun _ => ?_)
          refine AW_rg (tyOf_good _) [0, 13, 35, 36] [] (fun _ _ => trivial) fun K' hK' => ?_
          repeat (refine sxf_next fun K2 hK2 => ?_; simp [dNum, dS, pairA, assertA]; (repeat (refine ⟨by omega, ?_⟩)); refine hK2 _ ?_; clear hK2 K2)
          refine sxf_nil (hK' _ ?_)
          refine AW.st (by simp [dNum, dS, pairA, assertA]; rfl) ?_
          clear hK' K'
          refine AW_cond true rfl (fun _ => ?_) (fun h => by cases h)
          refine AW_rg (tyOf_good _) [7] [] (fun _ _ => trivial) fun K' hK' => ?_
          repeat (refine sxf_next fun K2 hK2 => ?_; simp [dNum, dS, pairA, assertA]; (repeat (refine ⟨by omega, ?_⟩)); refine hK2 _ ?_; clear hK2 K2)
          refine sxf_nil (hK' _ ?_)
          refine AW.st (by simp [dNum, dS, pairA, assertA]; rfl) ?_
          clear hK' K'
          refine AW_rg (tyOf_good _) [8, 9] [] (fun _ _ => trivial) fun K' hK' => ?_
          repeat (refine sxf_next fun K2 hK2 => ?_; simp [dNum, dS, pairA, assertA, dParts]; (repeat (refine ⟨by omega, ?_⟩)); refine hK2 _ ?_; clear hK2 K2)
          refine sxf_next fun K2 hK2 => ?_
          simp [dNum, dS, pairA, assertA, dParts]
          refine callK.data (hp) (by simp; rfl) (by first | exact D.leGo_refl _ | simp [takeMap, List.map_map, Function.comp_def, D.le, D.le.go, D.le_refl, D.leGo_refl, dNum, dS, pairA, assertA, dParts]) ?_
          refine hK2 _ ?_
          clear hK2 K2
          simp only [putd, upd_lst]
          repeat (refine sxf_next fun K2 hK2 => ?_; simp [dNum, dS, pairA, assertA, dParts]; (repeat (refine ⟨by omega, ?_⟩)); refine hK2 _ ?_; clear hK2 K2)
          refine sxf_nil (hK' _ ?_)
          refine AW.st (by simp [dNum, dS, pairA, assertA, dParts]; rfl) ?_
          clear hK' K'
          refine AW_then fun K2 hK2 => ?_
          refine AW_block ?_
          refine AW_rg (tyOf_good _) [8, 42] [] (fun _ _ => trivial) fun K' hK' => ?_
          repeat (refine sxf_next fun K2 hK2 => ?_; simp [dNum, dS, pairA, assertA]; (repeat (refine ⟨by omega, ?_⟩)); refine hK2 _ ?_; clear hK2 K2)
          refine sxf_nil (hK' _ ?_)
          refine AW.st (by simp [dNum, dS, pairA, assertA]; rfl) ?_
          clear hK' K'
          refine AW_cond false rfl (fun h => by cases h) (fun _ => ?_)
          refine AW_rg (tyOf_good _) [8, 45] [] (fun _ _ => trivial) fun K' hK' => ?_
          repeat (refine sxf_next fun K2 hK2 => ?_; simp [dNum, dS, pairA, assertA, hl0, hl0', hl2']; (repeat (refine ⟨by omega, ?_⟩)); refine hK2 _ ?_; clear hK2 K2)
          refine sxf_nil (hK' _ ?_)
          refine AW.st (by simp [dNum, dS, pairA, assertA, hl0, hl0', hl2']; rfl) ?_
          clear hK' K'
          refine AW_cond false rfl (fun h => by cases h) (fun _ => ?_)
          refine AW_rg (tyOf_good _) [8, 50] [] (fun _ _ => trivial) fun K' hK' => ?_
          repeat (refine sxf_next fun K2 hK2 => ?_; simp [dNum, dS, pairA, assertA, hl1, hl1']; (repeat (refine ⟨by omega, ?_⟩)); refine hK2 _ ?_; clear hK2 K2)
          refine sxf_nil (hK' _ ?_)
          refine AW.st (by simp [dNum, dS, pairA, assertA, hl1, hl1']; rfl) ?_
          clear hK' K'
          refine AW_cond false rfl (fun h => by cases h) (fun _ => ?_)
          refine AW_skip (hK2 _ ?_)
          refine AW_rg (tyOf_good _) [2] [] (fun _ _ => trivial) fun K' hK' => ?_
          repeat (refine sxf_next fun K2 hK2 => ?_; simp [dNum, dS, pairA, assertA]; (repeat (refine ⟨by omega, ?_⟩)); refine hK2 _ ?_; clear hK2 K2)
          refine sxf_nil (hK' _ ?_)
          refine AW.st (by simp [dNum, dS, pairA, assertA]; rfl) ?_
          clear hK' K'
          refine AW_ret ?_
          simp [D.le, D.le.go, takeMap, dNum, dS, pairA, assertA, D.le_refl, D.leGo_refl]
    by_cases hor : ∃ l, e = .or l
    · obtain ⟨l, rfl⟩ := hor
      have hp := parts_spec G false l (by simp only [bE] at hb; omega) (fun x hx => ih x (by have := List.sizeOf_lt_of_mem hx; simp only [Ex.or.sizeOf_spec] at hsz; omega) (by have := bEs_mem hx; simp only [bE] at hb; omega))
      rw [tidE, dE, dEs_map]
      have hbp : ∀ o, partsE false [] (tidL l) = some o → o.length ≤ 2^27 := fun o ho => by
        have h1 := parts_b _ _ _ ho
        have h2 := bEs_len o
        have h3 : bEs (tidL l) ≤ bEs l := by rw [tidL_map]; exact bEs_tid l
        simp only [bEs, bE] at h1 hb
        omega
      generalize partsE false [] (tidL l) = R at hp hbp ⊢
      cases R with
      | none =>
        refine PureC.of_body (tyOf_good _) Tryd.func24 rfl rfl (rs := [.tmp 2]) Tryd.results24 (by simp [Tryd.ntmps24]) fun X => ?_
        simp only [Tryd.ntmps24, List.map]
        refine AW_rg (tyOf_good _) [0] [] (fun _ _ => trivial) fun K' hK' => ?_
        repeat (refine sxf_next fun K2 hK2 => ?_; simp [dNum, dS, pairA, assertA]; (repeat (refine ⟨by omega, ?_⟩)); refine hK2 _ ?_; clear hK2 K2)
        refine sxf_nil (hK' _ ?_)
        refine AW.st (by simp [dNum, dS, pairA, assertA]; rfl) ?_
        clear hK' K'
        refine AW_then fun K1 hK1 => ?_
        refine AW_rg (tyOf_good _) [0, 13] [] (fun _ _ => trivial) fun K' hK' => ?_
        repeat (refine sxf_next fun K2 hK2 => ?_; simp [dNum, dS, pairA, assertA]; (repeat (refine ⟨by omega, ?_⟩)); refine hK2 _ ?_; clear hK2 K2)
        refine sxf_nil (hK' _ ?_)
        refine AW.st (by simp [dNum, dS, pairA, assertA]; rfl) ?_
        clear hK' K'
        refine AW_block ?_
        refine AW_rg (tyOf_good _) [0, 13, 15, 16] [] (fun _ _ => trivial) fun K' hK' => ?_
        repeat (refine sxf_next fun K2 hK2 => ?_; simp [dNum, dS, pairA, assertA]; (repeat (refine ⟨by omega, ?_⟩)); refine hK2 _ ?_; clear hK2 K2)
        refine sxf_nil (hK' _ ?_)
        refine AW.st (by simp [dNum, dS, pairA, assertA]; rfl) ?_
        clear hK' K'
        refine AW_cond false rfl (fun h => by cases h) (fun _ => ?_)
        refine AW_rg (tyOf_good _) [0, 13, 35, 36] [] (fun _ _ => trivial) fun K' hK' => ?_
        repeat (refine sxf_next fun K2 hK2 => ?_; simp [dNum, dS, pairA, assertA]; (repeat (refine ⟨by omega, ?_⟩)); refine hK2 _ ?_; clear hK2 K2)
        refine sxf_nil (hK' _ ?_)
        refine AW.st (by simp [dNum, dS, pairA, assertA]; rfl) ?_
        clear hK' K'
        refine AW_cond false rfl (fun h => by cases h) (fun _ => ?_)
        refine AW_rg (tyOf_good _) [0, 60, 61] [] (fun _ _ => trivial) fun K' hK' => ?_
        repeat (refine sxf_next fun K2 hK2 => ?_; simp [dNum, dS, pairA, assertA]; (repeat (refine ⟨by omega, ?_⟩)); refine hK2 _ ?_; clear hK2 K2)
        refine sxf_nil (hK' _ ?_)
        refine AW.st (by simp [dNum, dS, pairA, assertA]; rfl) ?_
        clear hK' K'
        refine AW_cond true rfl (fun _ => ?_) (fun h => by cases h)
        refine AW_rg (tyOf_good _) [10] [] (fun _ _ => trivial) fun K' hK' => ?_
        repeat (refine sxf_next fun K2 hK2 => ?_; simp [dNum, dS, pairA, assertA]; (repeat (refine ⟨by omega, ?_⟩)); refine hK2 _ ?_; clear hK2 K2)
        refine sxf_nil (hK' _ ?_)
        refine AW.st (by simp [dNum, dS, pairA, assertA]; rfl) ?_
        clear hK' K'
        refine AW_rg (tyOf_good _) [11, 12] [] (fun _ _ => trivial) fun K' hK' => ?_
        repeat (refine sxf_next fun K2 hK2 => ?_; simp [dNum, dS, pairA, assertA, dParts]; (repeat (refine ⟨by omega, ?_⟩)); refine hK2 _ ?_; clear hK2 K2)
        refine sxf_next fun K2 hK2 => ?_
        simp [dNum, dS, pairA, assertA, dParts]
        refine callK.data (hp) (by simp; rfl) (by first | exact D.leGo_refl _ | simp [takeMap, List.map_map, Function.comp_def, D.le, D.le.go, D.le_refl, D.leGo_refl, dNum, dS, pairA, assertA, dParts]) ?_
        refine hK2 _ ?_
        clear hK2 K2
        simp only [putd, upd_lst]
        repeat (refine sxf_next fun K2 hK2 => ?_; simp [dNum, dS, pairA, assertA, dParts]; (repeat (refine ⟨by omega, ?_⟩)); refine hK2 _ ?_; clear hK2 K2)
        refine sxf_nil (hK' _ ?_)
        refine AW.st (by simp [dNum, dS, pairA, assertA, dParts]; rfl) ?_
        clear hK' K'
        refine AW_then fun K2 hK2 => ?_
        refine AW_block ?_
        refine AW_rg (tyOf_good _) [11, 67] [] (fun _ _ => trivial) fun K' hK' => ?_
        repeat (refine sxf_next fun K2 hK2 => ?_; simp [dNum, dS, pairA, assertA]; (repeat (refine ⟨by omega, ?_⟩)); refine hK2 _ ?_; clear hK2 K2)
        refine sxf_nil (hK' _ ?_)
        refine AW.st (by simp [dNum, dS, pairA, assertA]; rfl) ?_
        clear hK' K'
        refine AW_cond true rfl (fun _ => ?_) (fun h => by cases h)
        refine AW_rg (tyOf_good _) [2] [] (fun _ _ => trivial) fun K' hK' => ?_
        repeat (refine sxf_next fun K2 hK2 => ?_; simp [dNum, dS, pairA, assertA]; (repeat (refine ⟨by omega, ?_⟩)); refine hK2 _ ?_; clear hK2 K2)
        refine sxf_nil (hK' _ ?_)
        refine AW.st (by simp [dNum, dS, pairA, assertA]; rfl) ?_
        clear hK' K'
        refine AW_ret ?_
        simp [D.le, D.le.go, takeMap, dNum, dS, pairA, assertA, finE, dE, D.le_refl]
      | some o =>
        have hol := hbp o rfl
        match o, hp, hol with
        | [], hp, _ =>
          refine PureC.of_body (tyOf_good _) Tryd.func24 rfl rfl (rs := [.tmp 2]) Tryd.results24 (by simp [Tryd.ntmps24]) fun X => ?_
          simp only [Tryd.ntmps24, List.map]
          refine AW_rg (tyOf_good _) [0] [] (fun _ _ => trivial) fun K' hK' => ?_
          repeat (refine sxf_next fun K2 hK2 => ?_; simp [dNum, dS, pairA, assertA]; (repeat (refine ⟨by omega, ?_⟩)); refine hK2 _ ?_; clear hK2 K2)
          refine sxf_nil (hK' _ ?_)
          refine AW.st (by simp [dNum, dS, pairA, assertA]; rfl) ?_
          clear hK' K'
          refine AW_then fun K1 hK1 => ?_
          refine AW_rg (tyOf_good _) [0, 13] [] (fun _ _ => trivial) fun K' hK' => ?_
          repeat (refine sxf_next fun K2 hK2 => ?_; simp [dNum, dS, pairA, assertA]; (repeat (refine ⟨by omega, ?_⟩)); refine hK2 _ ?_; clear hK2 K2)
          refine sxf_nil (hK' _ ?_)
          refine AW.st (by simp [dNum, dS, pairA, assertA]; rfl) ?_
          clear hK' K'
          refine AW_block ?_
          refine AW_rg (tyOf_good _) [0, 13, 15, 16] [] (fun _ _ => trivial) fun K' hK' => ?_
          repeat (refine sxf_next fun K2 hK2 => ?_; simp [dNum, dS, pairA, assertA]; (repeat (refine ⟨by omega, ?_⟩)); refine hK2 _ ?_; clear hK2 K2)
          refine sxf_nil (hK' _ ?_)
          refine AW.st (by simp [dNum, dS, pairA, assertA]; rfl) ?_
          clear hK' K'
          refine AW_cond false rfl (fun h => by cases h) (fun _ => ?_)
          refine AW_rg (tyOf_good _) [0, 13, 35, 36] [] (fun _ _ => trivial) fun K' hK' => ?_
          repeat (refine sxf_next fun K2 hK2 => ?_; simp [dNum, dS, pairA, assertA]; (repeat (refine ⟨by omega, ?_⟩)); refine hK2 _ ?_; clear hK2 K2)
          refine sxf_nil (hK' _ ?_)
          refine AW.st (by simp [dNum, dS, pairA, assertA]; rfl) ?_
          clear hK' K'
          refine AW_cond false rfl (fun h => by cases h) (fun _ => ?_)
          refine AW_rg (tyOf_good _) [0, 60, 61] [] (fun _ _ => trivial) fun K' hK' => ?_
          repeat (refine sxf_next fun K2 hK2 => ?_; simp [dNum, dS, pairA, assertA]; (repeat (refine ⟨by omega, ?_⟩)); refine hK2 _ ?_; clear hK2 K2)
          refine sxf_nil (hK' _ ?_)
          refine AW.st (by simp [dNum, dS, pairA, assertA]; rfl) ?_
          clear hK' K'
          refine AW_cond true rfl (fun _ => ?_) (fun h => by cases h)
          refine AW_rg (tyOf_good _) [10] [] (fun _ _ => trivial) fun K' hK' => ?_
          repeat (refine sxf_next fun K2 hK2 => ?_; simp [dNum, dS, pairA, assertA]; (repeat (refine ⟨by omega, ?_⟩)); refine hK2 _ ?_; clear hK2 K2)
          refine sxf_nil (hK' _ ?_)
          refine AW.st (by simp [dNum, dS, pairA, assertA]; rfl) ?_
          clear hK' K'
          refine AW_rg (tyOf_good _) [11, 12] [] (fun _ _ => trivial) fun K' hK' => ?_
          repeat (refine sxf_next fun K2 hK2 => ?_; simp [dNum, dS, pairA, assertA, dParts]; (repeat (refine ⟨by omega, ?_⟩)); refine hK2 _ ?_; clear hK2 K2)
          refine sxf_next fun K2 hK2 => ?_
          simp [dNum, dS, pairA, assertA, dParts]
          refine callK.data (hp) (by simp; rfl) (by first | exact D.leGo_refl _ | simp [takeMap, List.map_map, Function.comp_def, D.le, D.le.go, D.le_refl, D.leGo_refl, dNum, dS, pairA, assertA, dParts]) ?_
          refine hK2 _ ?_
          clear hK2 K2
          simp only [putd, upd_lst]
          repeat (refine sxf_next fun K2 hK2 => ?_; simp [dNum, dS, pairA, assertA, dParts]; (repeat (refine ⟨by omega, ?_⟩)); refine hK2 _ ?_; clear hK2 K2)
          refine sxf_nil (hK' _ ?_)
          refine AW.st (by simp [dNum, dS, pairA, assertA, dParts]; rfl) ?_
          clear hK' K'
          refine AW_then fun K2 hK2 => ?_
          refine AW_block ?_
          refine AW_rg (tyOf_good _) [11, 67] [] (fun _ _ => trivial) fun K' hK' => ?_
          repeat (refine sxf_next fun K2 hK2 => ?_; simp [dNum, dS, pairA, assertA]; (repeat (refine ⟨by omega, ?_⟩)); refine hK2 _ ?_; clear hK2 K2)
          refine sxf_nil (hK' _ ?_)
          refine AW.st (by simp [dNum, dS, pairA, assertA]; rfl) ?_
          clear hK' K'
          refine AW_cond false rfl (fun h => by cases h) (fun _ => ?_)
          refine AW_rg (tyOf_good _) [11, 70] [] (fun _ _ => trivial) fun K' hK' => ?_
          repeat (refine sxf_next fun K2 hK2 => ?_; simp [dNum, dS, pairA, assertA]; (repeat (refine ⟨by omega, ?_⟩)); refine hK2 _ ?_; clear hK2 K2)
          refine sxf_nil (hK' _ ?_)
          refine AW.st (by simp [dNum, dS, pairA, assertA]; rfl) ?_
          clear hK' K'
          refine AW_cond true rfl (fun _ => ?_) (fun h => by cases h)
          refine AW_rg (tyOf_good _) [2] [] (fun _ _ => trivial) fun K' hK' => ?_
          repeat (refine sxf_next fun K2 hK2 => ?_; simp [dNum, dS, pairA, assertA]; (repeat (refine ⟨by omega, ?_⟩)); refine hK2 _ ?_; clear hK2 K2)
          refine sxf_nil (hK' _ ?_)
          refine AW.st (by simp [dNum, dS, pairA, assertA]; rfl) ?_
          clear hK' K'
          refine AW_ret ?_
          simp [D.le, D.le.go, takeMap, dNum, dS, pairA, assertA, finE, dE, D.le_refl]
        | [x], hp, _ =>
          obtain ⟨tx, cx, hx⟩ := dE_ifc x
          refine PureC.of_body (tyOf_good _) Tryd.func24 rfl rfl (rs := [.tmp 2]) Tryd.results24 (by simp [Tryd.ntmps24]) fun X => ?_
          simp only [Tryd.ntmps24, List.map]
          refine AW_rg (tyOf_good _) [0] [] (fun _ _ => trivial) fun K' hK' => ?_
          repeat (refine sxf_next fun K2 hK2 => ?_; simp [dNum, dS, pairA, assertA]; (repeat (refine ⟨by omega, ?_⟩)); refine hK2 _ ?_; clear hK2 K2)
          refine sxf_nil (hK' _ ?_)
          refine AW.st (by simp [dNum, dS, pairA, assertA]; rfl) ?_
          clear hK' K'
          refine AW_then fun K1 hK1 => ?_
          refine AW_rg (tyOf_good _) [0, 13] [] (fun _ _ => trivial) fun K' hK' => ?_
          repeat (refine sxf_next fun K2 hK2 => ?_; simp [dNum, dS, pairA, assertA]; (repeat (refine ⟨by omega, ?_⟩)); refine hK2 _ ?_; clear hK2 K2)
          refine sxf_nil (hK' _ ?_)
          refine AW.st (by simp [dNum, dS, pairA, assertA]; rfl) ?_
          clear hK' K'
          refine AW_block ?_
          refine AW_rg (tyOf_good _) [0, 13, 15, 16] [] (fun _ _ => trivial) fun K' hK' => ?_
          repeat (refine sxf_next fun K2 hK2 => ?_; simp [dNum, dS, pairA, assertA]; (repeat (refine ⟨by omega, ?_⟩)); refine hK2 _ ?_; clear hK2 K2)
          refine sxf_nil (hK' _ ?_)
          refine AW.st (by simp [dNum, dS, pairA, assertA]; rfl) ?_
          clear hK' K'
          refine AW_cond false rfl (fun h => by cases h) (fun _ => ?_)
          refine AW_rg (tyOf_good _) [0, 13, 35, 36] [] (fun _ _ => trivial) fun K' hK' => ?_
          repeat (refine sxf_next fun K2 hK2 => ?_; simp [dNum, dS, pairA, assertA]; (repeat (refine ⟨by omega, ?_⟩)); refine hK2 _ ?_; clear hK2 K2)
          refine sxf_nil (hK' _ ?_)
          refine AW.st (by simp [dNum, dS, pairA, assertA]; rfl) ?_
          clear hK' K'
          refine AW_cond false rfl (fun h => by cases h) (fun _ => ?_)
          refine AW_rg (tyOf_good _) [0, 60, 61] [] (fun _ _ => trivial) fun K' hK' => ?_
          repeat (refine sxf_next fun K2 hK2 => ?_; simp [dNum, dS, pairA, assertA]; (repeat (refine ⟨by omega, ?_⟩)); refine hK2 _ ?_; clear hK2 K2)
          refine sxf_nil (hK' _ ?_)
          refine AW.st (by simp [dNum, dS, pairA, assertA]; rfl) ?_
          clear hK' K'
          refine AW_cond true rfl (fun _ => ?_) (fun h => by cases h)
          refine AW_rg (tyOf_good _) [10] [] (fun _ _ => trivial) fun K' hK' => ?_
          repeat (refine sxf_next fun K2 hK2 => ?_; simp [dNum, dS, pairA, assertA]; (repeat (refine ⟨by omega, ?_⟩)); refine hK2 _ ?_; clear hK2 K2)
          refine sxf_nil (hK' _ ?_)
          refine AW.st (by simp [dNum, dS, pairA, assertA]; rfl) ?_
          clear hK' K'
          refine AW_rg (tyOf_good _) [11, 12] [] (fun _ _ => trivial) fun K' hK' => ?_
          repeat (refine sxf_next fun K2 hK2 => ?_; simp [dNum, dS, pairA, assertA, dParts]; (repeat (refine ⟨by omega, ?_⟩)); refine hK2 _ ?_; clear hK2 K2)
          refine sxf_next fun K2 hK2 => ?_
          simp [dNum, dS, pairA, assertA, dParts]
          refine callK.data (hp) (by simp; rfl) (by first | exact D.leGo_refl _ | simp [takeMap, List.map_map, Function.comp_def, D.le, D.le.go, D.le_refl, D.leGo_refl, dNum, dS, pairA, assertA, dParts]) ?_
          refine hK2 _ ?_
          clear hK2 K2
          simp only [putd, upd_lst]
          repeat (refine sxf_next fun K2 hK2 => ?_; simp [dNum, dS, pairA, assertA, dParts]; (repeat (refine ⟨by omega, ?_⟩)); refine hK2 _ ?_; clear hK2 K2)
          refine sxf_nil (hK' _ ?_)
          refine AW.st (by simp [dNum, dS, pairA, assertA, dParts]; rfl) ?_
          clear hK' K'
          refine AW_then fun K2 hK2 => ?_
          refine AW_block ?_
          refine AW_rg (tyOf_good _) [11, 67] [] (fun _ _ => trivial) fun K' hK' => ?_
          repeat (refine sxf_next fun K2 hK2 => ?_; simp [dNum, dS, pairA, assertA]; (repeat (refine ⟨by omega, ?_⟩)); refine hK2 _ ?_; clear hK2 K2)
          refine sxf_nil (hK' _ ?_)
          refine AW.st (by simp [dNum, dS, pairA, assertA]; rfl) ?_
          clear hK' K'
          refine AW_cond false rfl (fun h => by cases h) (fun _ => ?_)
          refine AW_rg (tyOf_good _) [11, 70] [] (fun _ _ => trivial) fun K' hK' => ?_
          repeat (refine sxf_next fun K2 hK2 => ?_; simp [dNum, dS, pairA, assertA]; (repeat (refine ⟨by omega, ?_⟩)); refine hK2 _ ?_; clear hK2 K2)
          refine sxf_nil (hK' _ ?_)
          refine AW.st (by simp [dNum, dS, pairA, assertA]; rfl) ?_
          clear hK' K'
          refine AW_cond false rfl (fun h => by cases h) (fun _ => ?_)
          refine AW_rg (tyOf_good _) [11, 75] [] (fun _ _ => trivial) fun K' hK' => ?_
          repeat (refine sxf_next fun K2 hK2 => ?_; simp [dNum, dS, pairA, assertA]; (repeat (refine ⟨by omega, ?_⟩)); refine hK2 _ ?_; clear hK2 K2)
          refine sxf_nil (hK' _ ?_)
          refine AW.st (by simp [dNum, dS, pairA, assertA]; rfl) ?_
          clear hK' K'
          refine AW_cond true rfl (fun _ => ?_) (fun h => by cases h)
          refine AW_rg (tyOf_good _) [2] [] (fun _ _ => trivial) fun K' hK' => ?_
          repeat (refine sxf_next fun K2 hK2 => ?_; simp [dNum, dS, pairA, assertA, hx]; (repeat (refine ⟨by omega, ?_⟩)); refine hK2 _ ?_; clear hK2 K2)
          refine sxf_nil (hK' _ ?_)
          refine AW.st (by simp [dNum, dS, pairA, assertA, hx]; rfl) ?_
          clear hK' K'
          refine AW_ret ?_
          simp [D.le, D.le.go, takeMap, dNum, dS, pairA, assertA, finE, hx, D.le_refl]
        | x :: y :: o, hp, hol =>
          have hl0 : ¬ (((x :: y :: o).length : Int) = 0) := by simp; omega
          have hl1 : ¬ (((x :: y :: o).length : Int) = 1) := by simp; omega
          have hfin : finE false (some (x :: y :: o)) = .or (x :: y :: o) := rfl
          rw [hfin, dE, dEs_map]
          simp only [dParts] at hp
          generalize x :: y :: o = q at hp hl0 hl1 hol ⊢
          have hl0' : ¬ q.length = 0 := by omega
          have hl1' : ¬ q.length = 1 := by omega
          have hl2' : ¬ q = [] := by rintro rfl; simp at hl0
          refine PureC.of_body (tyOf_good _) Tryd.func24 rfl rfl (rs := [.tmp 2]) Tryd.results24 (by simp [Tryd.ntmps24]) fun X => ?_
          simp only [Tryd.ntmps24, List.map]
          refine AW_rg (tyOf_good _) [0] [] (fun _ _ => trivial) fun K' hK' => ?_
          repeat (refine sxf_next fun K2 hK2 => ?_; simp [dNum, dS, pairA, assertA]; (repeat (refine ⟨by omega, ?_⟩)); refine hK2 _ ?_; clear hK2 K2)
          refine sxf_nil (hK' _ ?_)
          refine AW.st (by simp [dNum, dS, pairA, assertA]; rfl) ?_
          clear hK' K'
          refine AW_then fun K1 hK1 => ?_
          refine AW_rg (tyOf_good _) [0, 13] [] (fun _ _ => trivial) fun K' hK' => ?_
          repeat (refine sxf_next fun K2 hK2 => ?_; simp [dNum, dS, pairA, assertA]; (repeat (refine ⟨by omega, ?_⟩)); refine hK2 _ ?_; clear hK2 K2)
          refine sxf_nil (hK' _ ?_)
          refine AW.st (by simp [dNum, dS, pairA, assertA]; rfl) ?_
          clear hK' K'
          refine AW_block ?_
          refine AW_rg (tyOf_good _) [0, 13, 15, 16] [] (fun _ _ => trivial) fun K' hK' => ?_
          repeat (refine sxf_next fun K2 hK2 => ?_; simp [dNum, dS, pairA, assertA]; (repeat (refine ⟨by omega, ?_⟩)); refine hK2 _ ?_; clear hK2 K2)
          refine sxf_nil (hK' _ ?_)
          refine AW.st (by simp [dNum, dS, pairA, assertA]; rfl) ?_
          clear hK' K'
          refine AW_cond false rfl (fun h => by cases h) (fun _ => ?_)
          refine AW_rg (tyOf_good _) [0, 13, 35, 36] [] (fun _ _ => trivial) fun K' hK' => ?_
          repeat (refine sxf_next fun K2 hK2 => ?_; simp [dNum, dS, pairA, assertA]; (repeat (refine ⟨by omega, ?_⟩)); refine hK2 _ ?_; clear hK2 K2)
          refine sxf_nil (hK' _ ?_)
          refine AW.st (by simp [dNum, dS, pairA, assertA]; rfl) ?_
          clear hK' K'
          refine AW_cond false rfl (fun h => by cases h) (fun _ => ?_)
          refine AW_rg (tyOf_good _) [0, 60, 61] [] (fun _ _ => trivial) fun K' hK' => ?_
          repeat (refine sxf_next fun K2 hK2 => ?_; simp [dNum, dS, pairA, assertA]; (repeat (refine ⟨by omega, ?_⟩)); refine hK2 _ ?_; clear hK2 K2)
          refine sxf_nil (hK' _ ?_)
          refine AW.st (by simp [dNum, dS, pairA, assertA]; rfl) ?_
          clear hK' K'
          refine AW_cond true rfl (fun _ => ?_) (fun h => by cases h)
          refine AW_rg (tyOf_good _) [10] [] (fun _ _ => trivial) fun K' hK' => ?_
          repeat (refine sxf_next fun K2 hK2 => ?_; simp [dNum, dS, pairA, assertA]; (repeat (refine ⟨by omega, ?_⟩)); refine hK2 _ ?_; clear hK2 K2)
          refine sxf_nil (hK' _ ?_)
          refine AW.st (by simp [dNum, dS, pairA, assertA]; rfl) ?_
          clear hK' K'
          refine AW_rg (tyOf_good _) [11, 12] [] (fun _ _ => trivial) fun K' hK' => ?_
          repeat (refine sxf_next fun K2 hK2 => ?_; simp [dNum, dS, pairA, assertA, dParts]; (repeat (refine ⟨by omega, ?_⟩)); refine hK2 _ ?_; clear hK2 K2)
          refine sxf_next fun K2 hK2 => ?_
          simp [dNum, dS, pairA, assertA, dParts]
          refine callK.data (hp) (by simp; rfl) (by first | exact D.leGo_refl _ | simp [takeMap, List.map_map, Function.comp_def, D.le, D.le.go, D.le_refl, D.leGo_refl, dNum, dS, pairA, assertA, dParts]) ?_
          refine hK2 _ ?_
          clear hK2 K2
          simp only [putd, upd_lst]
          repeat (refine sxf_next fun K2 hK2 => ?_; simp [dNum, dS, pairA, assertA, dParts]; (repeat (refine ⟨by omega, ?_⟩)); refine hK2 _ ?_; clear hK2 K2)
          refine sxf_nil (hK' _ ?_)
          refine AW.st (by simp [dNum, dS, pairA, assertA, dParts]; rfl) ?_
          clear hK' K'
          refine AW_then fun K2 hK2 => ?_
          refine AW_block ?_
          refine AW_rg (tyOf_good _) [11, 67] [] (fun _ _ => trivial) fun K' hK' => ?_
          repeat (refine sxf_next fun K2 hK2 => ?_; simp [dNum, dS, pairA, assertA]; (repeat (refine ⟨by omega, ?_⟩)); refine hK2 _ ?_; clear hK2 K2)
          refine sxf_nil (hK' _ ?_)
          refine AW.st (by simp [dNum, dS, pairA, assertA]; rfl) ?_
          clear hK' K'
          refine AW_cond false rfl (fun h => by cases h) (fun _ => ?_)
          refine AW_rg (tyOf_good _) [11, 70] [] (fun _ _ => trivial) fun K' hK' => ?_
          repeat (refine sxf_next fun K2 hK2 => ?_; simp [dNum, dS, pairA, assertA, hl0, hl0', hl2']; (repeat (refine ⟨by omega, ?_⟩)); refine hK2 _ ?_; clear hK2 K2)
          refine sxf_nil (hK' _ ?_)
          refine AW.st (by simp [dNum, dS, pairA, assertA, hl0, hl0', hl2']; rfl) ?_
          clear hK' K'
          refine AW_cond false rfl (fun h => by cases h) (fun _ => ?_)
          refine AW_rg (tyOf_good _) [11, 75] [] (fun _ _ => trivial) fun K' hK' => ?_
          repeat (refine sxf_next fun K2 hK2 => ?_; simp [dNum, dS, pairA, assertA, hl1, hl1']; (repeat (refine ⟨by omega, ?_⟩)); refine hK2 _ ?_; clear hK2 K2)
          refine sxf_nil (hK' _ ?_)
          refine AW.st (by simp [dNum, dS, pairA, assertA, hl1, hl1']; rfl) ?_
          clear hK' K'
          refine AW_cond false rfl (fun h => by cases h) (fun _ => ?_)
          refine AW_skip (hK2 _ ?_)
          refine AW_rg (tyOf_good _) [2] [] (fun _ _ => trivial) fun K' hK' => ?_
          repeat (refine sxf_next fun K2 hK2 => ?_; simp [dNum, dS, pairA, assertA]; (repeat (refine ⟨by omega, ?_⟩)); refine hK2 _ ?_; clear hK2 K2)
          refine sxf_nil (hK' _ ?_)
          refine AW.st (by simp [dNum, dS, pairA, assertA]; rfl) ?_
          clear hK' K'
          refine AW_ret ?_
          simp [D.le, D.le.go, takeMap, dNum, dS, pairA, assertA, D.le_refl, D.leGo_refl]
    have hk : ∃ t c, dE e = .ifc t c ∧ ¬ t = 109 ∧ ¬ t = 111 ∧ ¬ t = 114 ∧ tidE e = e := by
      cases e with
      | not z => exact absurd ⟨z, rfl⟩ hN
      | and l => exact absurd ⟨l, rfl⟩ hand
      | or l => exact absurd ⟨l, rfl⟩ hor
      | cst b => exact ⟨_, _, by rw [dE], by decide, by decide, by decide, rfl⟩
      | bit s => exact ⟨_, _, by rw [dE], by decide, by decide, by decide, rfl⟩
      | rise s => exact ⟨_, _, by rw [dE], by decide, by decide, by decide, rfl⟩
      | fall s => exact ⟨_, _, by rw [dE], by decide, by decide, by decide, rfl⟩
    obtain ⟨t, c, hy, h1, h2, h3, h4⟩ := hk
    rw [h4, hy]
    refine PureC.of_body (tyOf_good _) Tryd.func24 rfl rfl (rs := [.tmp 2]) Tryd.results24 (by simp [Tryd.ntmps24]) fun X => ?_
    simp only [Tryd.ntmps24, List.map]
    refine AW_rg (tyOf_good _) [0] [] (fun _ _ => trivial) fun K' hK' => ?_
    repeat (refine sxf_next fun K2 hK2 => ?_; simp [dNum, dS, pairA, assertA]; (repeat (refine ⟨by omega, ?_⟩)); refine hK2 _ ?_; clear hK2 K2)
    refine sxf_nil (hK' _ ?_)
    refine AW.st (by simp [dNum, dS, pairA, assertA]; rfl) ?_
    clear hK' K'
    refine AW_then fun K1 hK1 => ?_
    refine AW_rg (tyOf_good _) [0, 13] [] (fun _ _ => trivial) fun K' hK' => ?_
    repeat (refine sxf_next fun K2 hK2 => ?_; simp [dNum, dS, pairA, assertA]; (repeat (refine ⟨by omega, ?_⟩)); refine hK2 _ ?_; clear hK2 K2)
    refine sxf_nil (hK' _ ?_)
    refine AW.st (by simp [dNum, dS, pairA, assertA]; rfl) ?_
    clear hK' K'
    refine AW_block ?_
    refine AW_rg (tyOf_good _) [0, 13, 15, 16] [] (fun _ _ => trivial) fun K' hK' => ?_
    repeat (refine sxf_next fun K2 hK2 => ?_; simp [dNum, dS, pairA, assertA, h1]; (repeat (refine ⟨by omega, ?_⟩)); refine hK2 _ ?_; clear hK2 K2)
    refine sxf_nil (hK' _ ?_)
    refine AW.st (by simp [dNum, dS, pairA, assertA, h1]; rfl) ?_
    clear hK' K'
    refine AW_cond false rfl (fun h => by cases h) (fun _ => ?_)
    refine AW_rg (tyOf_good _) [0, 13, 35, 36] [] (fun _ _ => trivial) fun K' hK' => ?_
    repeat (refine sxf_next fun K2 hK2 => ?_; simp [dNum, dS, pairA, assertA, h2]; (repeat (refine ⟨by omega, ?_⟩)); refine hK2 _ ?_; clear hK2 K2)
    refine sxf_nil (hK' _ ?_)
    refine AW.st (by simp [dNum, dS, pairA, assertA, h2]; rfl) ?_
    clear hK' K'
    refine AW_cond false rfl (fun h => by cases h) (fun _ => ?_)
    refine AW_rg (tyOf_good _) [0, 60, 61] [] (fun _ _ => trivial) fun K' hK' => ?_
    repeat (refine sxf_next fun K2 hK2 => ?_; simp [dNum, dS, pairA, assertA, h3]; (repeat (refine ⟨by omega, ?_⟩)); refine hK2 _ ?_; clear hK2 K2)
    refine sxf_nil (hK' _ ?_)
    refine AW.st (by simp [dNum, dS, pairA, assertA, h3]; rfl) ?_
    clear hK' K'
    refine AW_cond false rfl (fun h => by cases h) (fun _ => ?_)
    refine AW_skip (hK1 _ ?_)
    refine AW_rg (tyOf_good _) [2] [] (fun _ _ => trivial) fun K' hK' => ?_
    repeat (refine sxf_next fun K2 hK2 => ?_; simp [dNum, dS, pairA, assertA]; (repeat (refine ⟨by omega, ?_⟩)); refine hK2 _ ?_; clear hK2 K2)
    refine sxf_nil (hK' _ ?_)
    refine AW.st (by simp [dNum, dS, pairA, assertA]; rfl) ?_
    clear hK' K'
    refine AW_ret ?_
    simp [D.le, D.le.go, takeMap, dNum, dS, pairA, assertA, D.le_refl]
theorem tidy_spec (G : Glob) (e : Ex) (hb : bE e ≤ 2^27) : PureC Tryd.prog G 24 [dE e] (dE (tidE e)) := tidy_at G _ e (Nat.le_refl _) hb
end Go.Proofs.YtfehigldhedkgaaDoor

/-
  ExprParse, and what ExprParses says.
-/
namespace Go.Proofs.YtfehigldhedkgaaDoor
set_option linter.unusedSimpArgs false
set_option linter.unusedVariables false
open Go.Av

theorem parse_none {t : List UInt8} {e : Int × Option Nat} (h : (parseM t).2 = some e) : (parseM t).1 = none := by
  unfold parseM at h ⊢
  split at h
  · rw [if_pos ‹_›]
  · rw [if_neg ‹_›]
    split at h
    · rfl
    · split at h
      · rw [if_pos ‹_›]
      · cases h
theorem parse_some {t : List UInt8} (h : (parseM t).2 = none) : ∃ x, (parseM t).1 = some x := by
  unfold parseM at h ⊢
  split at h
  · cases h
  · rw [if_neg ‹_›]
    split at h
    · cases h
    · split at h
      · cases h
      · rw [if_neg ‹_›]
        exact ⟨_, rfl⟩

end Go.Proofs.YtfehigldhedkgaaDoor

/-
  What an expression says: Eval; names among some.
-/
namespace Go.Proofs.YtfehigldhedkgaaDoor
set_option linter.unusedSimpArgs false
set_option linter.unusedVariables false
open Go.Av

theorem idx_some {α : Type} (p : α → Bool) (l : List α) : decide (0 ≤ idx p l) = l.any p := by
  unfold idx
  cases h : l.findIdx? p with
  | none =>
    rw [List.findIdx?_eq_none_iff] at h
    have : l.any p = false := by rw [List.any_eq_false]; intro x hx; simp [h x hx]
    rw [this]; simp
  | some i =>
    rw [List.findIdx?_eq_some_iff_getElem] at h
    obtain ⟨hi, hp, _⟩ := h
    have : l.any p = true := List.any_eq_true.2 ⟨_, List.getElem_mem hi, hp⟩
    rw [this]; simp
theorem evA_any (is was : List UInt8 → Bool) : ∀ l : List Ex, evA is was l = !(l.any fun e => !evE is was e)
  | [] => rfl
  | e :: l => by rw [evA, evA_any is was l]; simp
theorem evO_any (is was : List UInt8 → Bool) : ∀ l : List Ex, evO is was l = l.any fun e => evE is was e
  | [] => rfl
  | e :: l => by rw [evO, evO_any is was l]; simp

set_option maxHeartbeats 1000000 in
theorem indexAnd_spec (G : Glob) (k : Option Bool) (xs : List Ex) (g : FuncId) (caps : List D) (p : Ex → Bool) (hl : xs.length < 2^63) (ha : ∀ x ∈ xs, PureC Tryd.prog G g (dE x :: caps) (.v (.bool (p x)))) :
    PureC Tryd.prog G 77 [.sl k (xs.map fun x => [dE x]), .fn (.func g) caps] (.v (.int .i64 (idx p xs))) := by
  refine PureC.of_body (tyOf_good _) Tryd.func77 rfl rfl (rs := [.tmp 4]) Tryd.results77 (by simp [Tryd.ntmps77]) fun X => ?_
  simp only [Tryd.ntmps77, List.map]
  refine AW_rg (tyOf_good _) [0, 1] [] (fun _ _ => trivial) fun K' hK' => ?_
  repeat (refine sxf_next fun K2 hK2 => ?_; simp; (repeat (refine ⟨by omega, ?_⟩)); refine hK2 _ ?_; clear hK2 K2)
  refine sxf_nil (hK' _ ?_)
  refine AW.st (by simp; rfl) ?_
  clear hK' K'
  refine AW_then fun K1 hK1 => ?_
  refine AW_rg (tyOf_good _) [0, 1, 7, 8] [] (fun _ _ => trivial) fun K' hK' => ?_
  repeat (refine sxf_next fun K2 hK2 => ?_; simp; (repeat (refine ⟨by omega, ?_⟩)); refine hK2 _ ?_; clear hK2 K2)
  refine sxf_nil (hK' _ ?_)
  refine AW.st (by simp; rfl) ?_
  clear hK' K'
  refine AW_for (S := Nat) (fun n => n ≤ xs.length ∧ ∀ i (hi : i < xs.length), i < n → p xs[i] = false) (fun n => ⟨lst [(0, .d (.sl k (xs.map fun x => [dE x]))), (1, .d (.fn (.func g) caps)), (7, int xs.length), (8, int n)], hlst []⟩) (fun n => xs.length - n) 0 ?_ (by simp) ?_
  · refine Imp.to' (fun _ _ => trivial) (by simp) (by simp)
  · rintro n ⟨hn, hp⟩
    refine AW_rg (tyOf_good _) [0, 1, 7, 8, 9] [] (fun _ _ => trivial) fun K' hK' => ?_
    repeat (refine sxf_next fun K2 hK2 => ?_; simp; (repeat (refine ⟨by omega, ?_⟩)); refine hK2 _ ?_; clear hK2 K2)
    refine sxf_nil (hK' _ ?_)
    refine AW.st (by simp; rfl) ?_
    clear hK' K'
    refine AW_then fun K2 hK2 => ?_
    refine AW_cond' (b := n < xs.length) (by simp [D.le, D.le.go, takeMap]) (fun hc => ?_) (fun hc => ?_)
    · have hax := ha xs[n] (by simp)
      refine AW_skip (hK2 _ ?_)
      refine AW_then fun K3 hK3 => ?_
      refine AW_block ?_
      refine AW_rg (tyOf_good _) [0, 1, 5, 7, 8] [] (fun _ _ => trivial) fun K' hK' => ?_
      repeat (refine sxf_next fun K2 hK2 => ?_; simp; (repeat (refine ⟨by omega, ?_⟩)); refine hK2 _ ?_; clear hK2 K2)
      refine sxf_nil (hK' _ ?_)
      refine AW.st (by simp; rfl) ?_
      clear hK' K'
      refine AW_rg (tyOf_good _) [0, 1, 5, 7, 8, 16] [] (fun _ _ => trivial) fun K' hK' => ?_
      repeat (refine sxf_next fun K2 hK2 => ?_; simp [hc]; (repeat (refine ⟨by omega, ?_⟩)); refine hK2 _ ?_; clear hK2 K2)
      refine sxf_next fun K2 hK2 => ?_
      simp [hc]
      refine callK.data (hax) (by simp; rfl) (by first | exact D.leGo_refl _ | simp [takeMap, List.map_map, Function.comp_def, D.le, D.le.go, D.le_refl, D.leGo_refl, hc]) ?_
      refine hK2 _ ?_
      clear hK2 K2
      simp only [putd, upd_lst]
      repeat (refine sxf_next fun K2 hK2 => ?_; simp [hc]; (repeat (refine ⟨by omega, ?_⟩)); refine hK2 _ ?_; clear hK2 K2)
      refine sxf_nil (hK' _ ?_)
      refine AW.st (by simp [hc]; rfl) ?_
      clear hK' K'
      refine AW_cond _ rfl (fun hp2 => ?_) (fun hp2 => ?_)
      · refine AW_rg (tyOf_good _) [4] [] (fun _ _ => trivial) fun K' hK' => ?_
        repeat (refine sxf_next fun K2 hK2 => ?_; simp; (repeat (refine ⟨by omega, ?_⟩)); refine hK2 _ ?_; clear hK2 K2)
        refine sxf_nil (hK' _ ?_)
        refine AW.st (by simp; rfl) ?_
        clear hK' K'
        refine AW_ret ?_
        simp [D.le, D.le.go, takeMap]
        exact (idx_hit hc hp2 fun i hi => hp i (by omega) hi).symm
      · refine AW_skip (hK3 _ ?_)
        refine AW_re (tyOf_good _) fun K' hK' => ?_
        repeat (refine sxf_next fun K2 hK2 => ?_; simp; (repeat (refine ⟨by omega, ?_⟩)); refine hK2 _ ?_; clear hK2 K2)
        refine sxf_nil (hK' _ ?_)
        clear hK' K'
        try simp only [thn, inb]
        refine Again.mk (n + 1) ⟨by omega, fun i hi hin => ?_⟩ (by omega) ?_
        · by_cases h : i = n
          · subst h; exact hp2
          · exact hp i hi (by omega)
        refine Imp.to' (fun _ _ => trivial) (by simp) (by simp)
    · refine AW_exit (hK1 _ ?_)
      refine AW_rg (tyOf_good _) [4] [] (fun _ _ => trivial) fun K' hK' => ?_
      repeat (refine sxf_next fun K2 hK2 => ?_; simp; (repeat (refine ⟨by omega, ?_⟩)); refine hK2 _ ?_; clear hK2 K2)
      refine sxf_nil (hK' _ ?_)
      refine AW.st (by simp; rfl) ?_
      clear hK' K'
      refine AW_ret ?_
      simp [D.le, D.le.go, takeMap]
      exact (idx_miss fun i hi => hp i hi (by omega)).symm
theorem containsAnd_spec (G : Glob) (k : Option Bool) (xs : List Ex) (g : FuncId) (caps : List D) (p : Ex → Bool) (hl : xs.length < 2^63) (ha : ∀ x ∈ xs, PureC Tryd.prog G g (dE x :: caps) (.v (.bool (p x)))) :
    PureC Tryd.prog G 53 [.sl k (xs.map fun x => [dE x]), .fn (.func g) caps] (.v (.bool (xs.any p))) := by
  have hi := indexAnd_spec G k xs g caps p hl ha
  have hd := idx_some p xs
  generalize idx p xs = r at hi hd
  rw [← hd]
  refine PureC.of_body (tyOf_good _) Tryd.func53 rfl rfl (rs := [.tmp 4]) Tryd.results53 (by simp [Tryd.ntmps53]) fun X => ?_
  simp only [Tryd.ntmps53, List.map]
  refine AW_rg (tyOf_good _) [0, 1] [] (fun _ _ => trivial) fun K' hK' => ?_
  repeat (refine sxf_next fun K2 hK2 => ?_; simp; (repeat (refine ⟨by omega, ?_⟩)); refine hK2 _ ?_; clear hK2 K2)
  refine sxf_nil (hK' _ ?_)
  refine AW.st (by simp; rfl) ?_
  clear hK' K'
  refine AW_rg (tyOf_good _) [4] [] (fun _ _ => trivial) fun K' hK' => ?_
  repeat (refine sxf_next fun K2 hK2 => ?_; simp; (repeat (refine ⟨by omega, ?_⟩)); refine hK2 _ ?_; clear hK2 K2)
  refine sxf_next fun K2 hK2 => ?_
  simp
  refine callK.data (hi) (by simp; rfl) (by first | exact D.leGo_refl _ | simp [takeMap, List.map_map, Function.comp_def, D.le, D.le.go, D.le_refl, D.leGo_refl]) ?_
  refine hK2 _ ?_
  clear hK2 K2
  simp only [putd, upd_lst]
  repeat (refine sxf_next fun K2 hK2 => ?_; simp; (repeat (refine ⟨by omega, ?_⟩)); refine hK2 _ ?_; clear hK2 K2)
  refine sxf_nil (hK' _ ?_)
  refine AW.st (by simp; rfl) ?_
  clear hK' K'
  refine AW_ret ?_
  simp [D.le, D.le.go, takeMap]

set_option maxHeartbeats 1000000 in
theorem indexOr_spec (G : Glob) (k : Option Bool) (xs : List Ex) (g : FuncId) (caps : List D) (p : Ex → Bool) (hl : xs.length < 2^63) (ha : ∀ x ∈ xs, PureC Tryd.prog G g (dE x :: caps) (.v (.bool (p x)))) :
    PureC Tryd.prog G 78 [.sl k (xs.map fun x => [dE x]), .fn (.func g) caps] (.v (.int .i64 (idx p xs))) := by
  refine PureC.of_body (tyOf_good _) Tryd.func78 rfl rfl (rs := [.tmp 4]) Tryd.results78 (by simp [Tryd.ntmps78]) fun X => ?_
  simp only [Tryd.ntmps78, List.map]
  refine AW_rg (tyOf_good _) [0, 1] [] (fun _ _ => trivial) fun K' hK' => ?_
  repeat (refine sxf_next fun K2 hK2 => ?_; simp; (repeat (refine ⟨by omega, ?_⟩)); refine hK2 _ ?_; clear hK2 K2)
  refine sxf_nil (hK' _ ?_)
  refine AW.st (by simp; rfl) ?_
  clear hK' K'
  refine AW_then fun K1 hK1 => ?_
  refine AW_rg (tyOf_good _) [0, 1, 7, 8] [] (fun _ _ => trivial) fun K' hK' => ?_
  repeat (refine sxf_next fun K2 hK2 => ?_; simp; (repeat (refine ⟨by omega, ?_⟩)); refine hK2 _ ?_; clear hK2 K2)
  refine sxf_nil (hK' _ ?_)
  refine AW.st (by simp; rfl) ?_
  clear hK' K'
  refine AW_for (S := Nat) (fun n => n ≤ xs.length ∧ ∀ i (hi : i < xs.length), i < n → p xs[i] = false) (fun n => ⟨lst [(0, .d (.sl k (xs.map fun x => [dE x]))), (1, .d (.fn (.func g) caps)), (7, int xs.length), (8, int n)], hlst []⟩) (fun n => xs.length - n) 0 ?_ (by simp) ?_
  · refine Imp.to' (fun _ _ => trivial) (by simp) (by simp)
  · rintro n ⟨hn, hp⟩
    refine AW_rg (tyOf_good _) [0, 1, 7, 8, 9] [] (fun _ _ => trivial) fun K' hK' => ?_
    repeat (refine sxf_next fun K2 hK2 => ?_; simp; (repeat (refine ⟨by omega, ?_⟩)); refine hK2 _ ?_; clear hK2 K2)
    refine sxf_nil (hK' _ ?_)
    refine AW.st (by simp; rfl) ?_
    clear hK' K'
    refine AW_then fun K2 hK2 => ?_
    refine AW_cond' (b := n < xs.length) (by simp [D.le, D.le.go, takeMap]) (fun hc => ?_) (fun hc => ?_)
    · have hax := ha xs[n] (by simp)
      refine AW_skip (hK2 _ ?_)
      refine AW_then fun K3 hK3 => ?_
      refine AW_block ?_
      refine AW_rg (tyOf_good _) [0, 1, 5, 7, 8] [] (fun _ _ => trivial) fun K' hK' => ?_
      repeat (refine sxf_next fun K2 hK2 => ?_; simp; (repeat (refine ⟨by omega, ?_⟩)); refine hK2 _ ?_; clear hK2 K2)
      refine sxf_nil (hK' _ ?_)
      refine AW.st (by simp; rfl) ?_
      clear hK' K'
      refine AW_rg (tyOf_good _) [0, 1, 5, 7, 8, 16] [] (fun _ _ => trivial) fun K' hK' => ?_
      repeat (refine sxf_next fun K2 hK2 => ?_; simp [hc]; (repeat (refine ⟨by omega, ?_⟩)); refine hK2 _ ?_; clear hK2 K2)
      refine sxf_next fun K2 hK2 => ?_
      simp [hc]
      refine callK.data (hax) (by simp; rfl) (by first | exact D.leGo_refl _ | simp [takeMap, List.map_map, Function.comp_def, D.le, D.le.go, D.le_refl, D.leGo_refl, hc]) ?_
      refine hK2 _ ?_
      clear hK2 K2
      simp only [putd, upd_lst]
      repeat (refine sxf_next fun K2 hK2 => ?_; simp [hc]; (repeat (refine ⟨by omega, ?_⟩)); refine hK2 _ ?_; clear hK2 K2)
      refine sxf_nil (hK' _ ?_)
      refine AW.st (by simp [hc]; rfl) ?_
      clear hK' K'
      refine AW_cond _ rfl (fun hp2 => ?_) (fun hp2 => ?_)
      · refine AW_rg (tyOf_good _) [4] [] (fun _ _ => trivial) fun K' hK' => ?_
        repeat (refine sxf_next fun K2 hK2 => ?_; simp; (repeat (refine ⟨by omega, ?_⟩)); refine hK2 _ ?_; clear hK2 K2)
        refine sxf_nil (hK' _ ?_)
        refine AW.st (by simp; rfl) ?_
        clear hK' K'
        refine AW_ret ?_
        simp [D.le, D.le.go, takeMap]
        exact (idx_hit hc hp2 fun i hi => hp i (by omega) hi).symm
      · refine AW_skip (hK3 _ ?_)
        refine AW_re (tyOf_good _) fun K' hK' => ?_
        repeat (refine sxf_next fun K2 hK2 => ?_; simp; (repeat (refine ⟨by omega, ?_⟩)); refine hK2 _ ?_; clear hK2 K2)
        refine sxf_nil (hK' _ ?_)
        clear hK' K'
        try simp only [thn, inb]
        refine Again.mk (n + 1) ⟨by omega, fun i hi hin => ?_⟩ (by omega) ?_
        · by_cases h : i = n
          · subst h; exact hp2
          · exact hp i hi (by omega)
        refine Imp.to' (fun _ _ => trivial) (by simp) (by simp)
    · refine AW_exit (hK1 _ ?_)
      refine AW_rg (tyOf_good _) [4] [] (fun _ _ => trivial) fun K' hK' => ?_
      repeat (refine sxf_next fun K2 hK2 => ?_; simp; (repeat (refine ⟨by omega, ?_⟩)); refine hK2 _ ?_; clear hK2 K2)
      refine sxf_nil (hK' _ ?_)
      refine AW.st (by simp; rfl) ?_
      clear hK' K'
      refine AW_ret ?_
      simp [D.le, D.le.go, takeMap]
      exact (idx_miss fun i hi => hp i hi (by omega)).symm
theorem containsOr_spec (G : Glob) (k : Option Bool) (xs : List Ex) (g : FuncId) (caps : List D) (p : Ex → Bool) (hl : xs.length < 2^63) (ha : ∀ x ∈ xs, PureC Tryd.prog G g (dE x :: caps) (.v (.bool (p x)))) :
    PureC Tryd.prog G 55 [.sl k (xs.map fun x => [dE x]), .fn (.func g) caps] (.v (.bool (xs.any p))) := by
  have hi := indexOr_spec G k xs g caps p hl ha
  have hd := idx_some p xs
  generalize idx p xs = r at hi hd
  rw [← hd]
  refine PureC.of_body (tyOf_good _) Tryd.func55 rfl rfl (rs := [.tmp 4]) Tryd.results55 (by simp [Tryd.ntmps55]) fun X => ?_
  simp only [Tryd.ntmps55, List.map]
  refine AW_rg (tyOf_good _) [0, 1] [] (fun _ _ => trivial) fun K' hK' => ?_
  repeat (refine sxf_next fun K2 hK2 => ?_; simp; (repeat (refine ⟨by omega, ?_⟩)); refine hK2 _ ?_; clear hK2 K2)
  refine sxf_nil (hK' _ ?_)
  refine AW.st (by simp; rfl) ?_
  clear hK' K'
  refine AW_rg (tyOf_good _) [4] [] (fun _ _ => trivial) fun K' hK' => ?_
  repeat (refine sxf_next fun K2 hK2 => ?_; simp; (repeat (refine ⟨by omega, ?_⟩)); refine hK2 _ ?_; clear hK2 K2)
  refine sxf_next fun K2 hK2 => ?_
  simp
  refine callK.data (hi) (by simp; rfl) (by first | exact D.leGo_refl _ | simp [takeMap, List.map_map, Function.comp_def, D.le, D.le.go, D.le_refl, D.leGo_refl]) ?_
  refine hK2 _ ?_
  clear hK2 K2
  simp only [putd, upd_lst]
  repeat (refine sxf_next fun K2 hK2 => ?_; simp; (repeat (refine ⟨by omega, ?_⟩)); refine hK2 _ ?_; clear hK2 K2)
  refine sxf_nil (hK' _ ?_)
  refine AW.st (by simp; rfl) ?_
  clear hK' K'
  refine AW_ret ?_
  simp [D.le, D.le.go, takeMap]

/-! ### Names among some -/
set_option maxHeartbeats 2000000 in
theorem among1_spec (G : Glob) (k : Option Bool) (l : List (List UInt8)) (s : List UInt8) (hl : l.length < 2^60) : PureC Tryd.prog G 57 [dS s, .ip [.sl k (l.map fun x => [dS x])]] (.v (.bool (l.any fun x => x == s))) := by
  refine PureC.of_body (tyOf_good _) Tryd.func57 rfl rfl (rs := [.tmp 3]) Tryd.results57 (by simp [Tryd.ntmps57]) fun X => ?_
  simp only [Tryd.ntmps57, List.map]
  refine AW_rg (tyOf_good _) [0, 1] [] (fun _ _ => trivial) fun K' hK' => ?_
  repeat (refine sxf_next fun K2 hK2 => ?_; simp [dNum, dS]; (repeat (refine ⟨by omega, ?_⟩)); refine hK2 _ ?_; clear hK2 K2)
  refine sxf_nil (hK' _ ?_)
  refine AW.st (by simp [dNum, dS]; rfl) ?_
  clear hK' K'
  refine AW_then fun K1 hK1 => ?_
  refine AW_rg (tyOf_good _) [0, 1, 4] [] (fun _ _ => trivial) fun K' hK' => ?_
  repeat (refine sxf_next fun K2 hK2 => ?_; simp [dNum, dS]; (repeat (refine ⟨by omega, ?_⟩)); refine hK2 _ ?_; clear hK2 K2)
  refine sxf_nil (hK' _ ?_)
  refine AW.st (by simp [dNum, dS]; rfl) ?_
  clear hK' K'
  refine AW_for (S := Nat) (fun n => n ≤ l.length ∧ ∀ i (hi : i < l.length), i < n → (l[i] == s) = false) (fun n => ⟨lst [(0, .d (dS s)), (1, .d (.ip [.sl k (l.map fun x => [dS x])])), (4, int n)], hlst []⟩) (fun n => l.length - n) 0 ?_ (by simp) ?_
  · refine Imp.to' (fun _ _ => trivial) (by simp [dNum, dS]) (by simp [dNum, dS])
  · rintro n ⟨hn, hp⟩
    refine AW_then fun K2 hK2 => ?_
    refine AW_rg (tyOf_good _) [0, 1, 4, 8] [] (fun _ _ => trivial) fun K' hK' => ?_
    repeat (refine sxf_next fun K2 hK2 => ?_; simp [dNum, dS]; (repeat (refine ⟨by omega, ?_⟩)); refine hK2 _ ?_; clear hK2 K2)
    refine sxf_nil (hK' _ ?_)
    refine AW.st (by simp [dNum, dS]; rfl) ?_
    clear hK' K'
    refine AW_cond' (b := n < l.length) (by simp [D.le, D.le.go, takeMap, dNum, dS]) (fun hc => ?_) (fun hc => ?_)
    · have hnl : n < l.length := hc
      refine AW_skip (hK2 _ ?_)
      refine AW_then fun K3 hK3 => ?_
      refine AW_block ?_
      cases he : (l[n] == s) with
      | true =>
        have he2 : l[n] = s := by simpa using he
        refine AW_rg (tyOf_good _) [0, 1, 4, 16] [] (fun _ _ => trivial) fun K' hK' => ?_
        repeat (refine sxf_next fun K2 hK2 => ?_; simp [dNum, dS, hnl, he, he2, binS, bs_list]; (repeat (refine ⟨by omega, ?_⟩)); refine hK2 _ ?_; clear hK2 K2)
        refine sxf_nil (hK' _ ?_)
        refine AW.st (by simp [dNum, dS, hnl, he, he2, binS, bs_list]; rfl) ?_
        clear hK' K'
        refine AW_cond true rfl (fun _ => ?_) (fun h => by cases h)
        refine AW_rg (tyOf_good _) [3] [] (fun _ _ => trivial) fun K' hK' => ?_
        repeat (refine sxf_next fun K2 hK2 => ?_; simp [dNum, dS]; (repeat (refine ⟨by omega, ?_⟩)); refine hK2 _ ?_; clear hK2 K2)
        refine sxf_nil (hK' _ ?_)
        refine AW.st (by simp [dNum, dS]; rfl) ?_
        clear hK' K'
        have hany : (l.any fun x => x == s) = true := List.any_eq_true.2 ⟨_, List.getElem_mem hnl, he⟩
        refine AW_ret ?_
        simp [D.le, D.le.go, takeMap, dNum, dS, hany]
      | false =>
        have he2 : ¬ l[n] = s := by simpa using he
        refine AW_rg (tyOf_good _) [0, 1, 4, 16] [] (fun _ _ => trivial) fun K' hK' => ?_
        repeat (refine sxf_next fun K2 hK2 => ?_; simp [dNum, dS, hnl, he, he2, binS, bs_list]; (repeat (refine ⟨by omega, ?_⟩)); refine hK2 _ ?_; clear hK2 K2)
        refine sxf_nil (hK' _ ?_)
        refine AW.st (by simp [dNum, dS, hnl, he, he2, binS, bs_list]; rfl) ?_
        clear hK' K'
        refine AW_cond false rfl (fun h => by cases h) (fun _ => ?_)
        refine AW_skip (hK3 _ ?_)
        refine AW_re (tyOf_good _) fun K' hK' => ?_
        repeat (refine sxf_next fun K2 hK2 => ?_; simp [dNum, dS]; (repeat (refine ⟨by omega, ?_⟩)); refine hK2 _ ?_; clear hK2 K2)
        refine sxf_nil (hK' _ ?_)
        clear hK' K'
        try simp only [thn, inb]
        refine Again.mk (n + 1) ⟨by omega, fun i hi hin => ?_⟩ (by omega) ?_
        · by_cases h : i = n
          · subst h; exact he
          · exact hp i hi (by omega)
        refine Imp.to' (fun _ _ => trivial) (by simp [dNum, dS]) (by simp [dNum, dS])
    · refine AW_exit (hK1 _ ?_)
      have hany : (l.any fun x => x == s) = false := by
        rw [List.any_eq_false]
        intro x hx
        obtain ⟨i, hi, rfl⟩ := List.mem_iff_getElem.1 hx
        simp [hp i hi (by omega)]
      refine AW_rg (tyOf_good _) [3] [] (fun _ _ => trivial) fun K' hK' => ?_
      repeat (refine sxf_next fun K2 hK2 => ?_; simp [dNum, dS]; (repeat (refine ⟨by omega, ?_⟩)); refine hK2 _ ?_; clear hK2 K2)
      refine sxf_nil (hK' _ ?_)
      refine AW.st (by simp [dNum, dS]; rfl) ?_
      clear hK' K'
      refine AW_ret ?_
      simp [D.le, D.le.go, takeMap, dNum, dS, hany]
def dAm (k : Option Bool) (l : List (List UInt8)) : D := .fn (.func 57) [.ip [.sl k (l.map fun x => [dS x])]]
theorem among_spec (G : Glob) (k : Option Bool) (l : List (List UInt8)) : PureC Tryd.prog G 22 [.sl k (l.map fun x => [dS x])] (dAm k l) := by
  refine PureC.of_body (tyOf_good _) Tryd.func22 rfl rfl (rs := [.tmp 2]) Tryd.results22 (by simp [Tryd.ntmps22]) fun X => ?_
  simp only [Tryd.ntmps22, List.map]
  refine AW_rg (tyOf_good _) [1] [1] (fun _ _ => trivial) fun K' hK' => ?_
  repeat (refine sxf_next fun K2 hK2 => ?_; simp [dNum, dS]; (repeat (refine ⟨by omega, ?_⟩)); refine hK2 _ ?_; clear hK2 K2)
  refine sxf_nil (hK' _ ?_)
  refine AW.st (by simp [dNum, dS]; rfl) ?_
  clear hK' K'
  refine AW.imp (Imp.freezeB 1 trivial) ?_
  refine AW.st (by simp [dNum, dS]; rfl) ?_
  refine AW_rg (tyOf_good _) [2] [] (fun _ _ => trivial) fun K' hK' => ?_
  repeat (refine sxf_next fun K2 hK2 => ?_; simp [dNum, dS]; (repeat (refine ⟨by omega, ?_⟩)); refine hK2 _ ?_; clear hK2 K2)
  refine sxf_nil (hK' _ ?_)
  refine AW.st (by simp [dNum, dS]; rfl) ?_
  clear hK' K'
  refine AW_ret ?_
  simp [D.le, D.le.go, takeMap, dNum, dS, dAm, D.le_refl, D.leGo_refl]

/-! ### Eval -/
/-- A function that tells of names. -/
def Tells (G : Glob) (g : FuncId) (caps : List D) (p : List UInt8 → Bool) : Prop := ∀ s, PureC Tryd.prog G g (dS s :: caps) (.v (.bool (p s)))
theorem among_tells (G : Glob) (k : Option Bool) (l : List (List UInt8)) (hl : l.length < 2^60) : Tells G 57 [.ip [.sl k (l.map fun x => [dS x])]] (fun s => l.any fun x => x == s) := fun s => among1_spec G k l s hl

set_option maxHeartbeats 32000000 in
theorem eval_at (G : Glob) (g1 g2 : FuncId) (c1 c2 : List D) (is was : List UInt8 → Bool) (h1 : Tells G g1 c1 is) (h2 : Tells G g2 c2 was) : ∀ (n : Nat) (e : Ex), SizeOf.sizeOf e ≤ n → bE e ≤ 2^28 → PureC Tryd.prog G 21 [dE e, .fn (.func g1) c1, .fn (.func g2) c2] (.v (.bool (evE is was e))) := by
  intro n
  induction n with
  | zero => intro e hsz; cases e <;> simp at hsz
  | succ n ih =>
    intro e hsz hb
    cases e with
    | cst b =>
      rw [dE]
      refine PureC.of_body (tyOf_good _) Tryd.func21 rfl rfl (rs := [.tmp 6]) Tryd.results21 (by simp [Tryd.ntmps21]) fun X => ?_
      simp only [Tryd.ntmps21, List.map]
      refine AW_rg (tyOf_good _) [0, 4, 5] [4, 5] (fun _ _ => trivial) fun K' hK' => ?_
      repeat (refine sxf_next fun K2 hK2 => ?_; simp [dNum, dS, pairA, assertA]; (repeat (refine ⟨by omega, ?_⟩)); refine hK2 _ ?_; clear hK2 K2)
      refine sxf_nil (hK' _ ?_)
      refine AW.st (by simp [dNum, dS, pairA, assertA]; rfl) ?_
      clear hK' K'
      refine AW.imp (Imp.freezeB 4 trivial) ?_
      refine AW.st (by simp [dNum, dS, pairA, assertA]; rfl) ?_
      refine AW.imp (Imp.freezeB 5 trivial) ?_
      refine AW.st (by simp [dNum, dS, pairA, assertA]; rfl) ?_
      refine AW_then fun K1 hK1 => ?_
      refine AW_rg (tyOf_good _) [4, 5, 14] [] (fun _ _ => trivial) fun K' hK' => ?_
      repeat (refine sxf_next fun K2 hK2 => ?_; simp [dNum, dS, pairA, assertA]; (repeat (refine ⟨by omega, ?_⟩)); refine hK2 _ ?_; clear hK2 K2)
      refine sxf_nil (hK' _ ?_)
      refine AW.st (by simp [dNum, dS, pairA, assertA]; rfl) ?_
      clear hK' K'
      refine AW_block ?_
      refine AW_rg (tyOf_good _) [4, 5, 14, 16, 17] [] (fun _ _ => trivial) fun K' hK' => ?_
      repeat (refine sxf_next fun K2 hK2 => ?_; simp [dNum, dS, pairA, assertA]; (repeat (refine ⟨by omega, ?_⟩)); refine hK2 _ ?_; clear hK2 K2)
      refine sxf_nil (hK' _ ?_)
      refine AW.st (by simp [dNum, dS, pairA, assertA]; rfl) ?_
      clear hK' K'
      refine AW_cond true rfl (fun _ => ?_) (fun h => by cases h)
      refine AW_rg (tyOf_good _) [7] [] (fun _ _ => trivial) fun K' hK' => ?_
      repeat (refine sxf_next fun K2 hK2 => ?_; simp [dNum, dS, pairA, assertA]; (repeat (refine ⟨by omega, ?_⟩)); refine hK2 _ ?_; clear hK2 K2)
      refine sxf_nil (hK' _ ?_)
      refine AW.st (by simp [dNum, dS, pairA, assertA]; rfl) ?_
      clear hK' K'
      refine AW_rg (tyOf_good _) [6] [] (fun _ _ => trivial) fun K' hK' => ?_
      repeat (refine sxf_next fun K2 hK2 => ?_; simp [dNum, dS, pairA, assertA]; (repeat (refine ⟨by omega, ?_⟩)); refine hK2 _ ?_; clear hK2 K2)
      refine sxf_nil (hK' _ ?_)
      refine AW.st (by simp [dNum, dS, pairA, assertA]; rfl) ?_
      clear hK' K'
      refine AW_ret ?_
      simp [D.le, D.le.go, takeMap, dNum, dS, pairA, assertA, evE]
    | bit s =>
      have hi := h1 s
      rw [dE, evE]
      refine PureC.of_body (tyOf_good _) Tryd.func21 rfl rfl (rs := [.tmp 6]) Tryd.results21 (by simp [Tryd.ntmps21]) fun X => ?_
      simp only [Tryd.ntmps21, List.map]
      refine AW_rg (tyOf_good _) [0, 4, 5] [4, 5] (fun _ _ => trivial) fun K' hK' => ?_
      repeat (refine sxf_next fun K2 hK2 => ?_; simp [dNum, dS, pairA, assertA]; (repeat (refine ⟨by omega, ?_⟩)); refine hK2 _ ?_; clear hK2 K2)
      refine sxf_nil (hK' _ ?_)
      refine AW.st (by simp [dNum, dS, pairA, assertA]; rfl) ?_
      clear hK' K'
      refine AW.imp (Imp.freezeB 4 trivial) ?_
      refine AW.st (by simp [dNum, dS, pairA, assertA]; rfl) ?_
      refine AW.imp (Imp.freezeB 5 trivial) ?_
      refine AW.st (by simp [dNum, dS, pairA, assertA]; rfl) ?_
      refine AW_then fun K1 hK1 => ?_
      refine AW_rg (tyOf_good _) [4, 5, 14] [] (fun _ _ => trivial) fun K' hK' => ?_
      repeat (refine sxf_next fun K2 hK2 => ?_; simp [dNum, dS, pairA, assertA]; (repeat (refine ⟨by omega, ?_⟩)); refine hK2 _ ?_; clear hK2 K2)
      refine sxf_nil (hK' _ ?_)
      refine AW.st (by simp [dNum, dS, pairA, assertA]; rfl) ?_
      clear hK' K'
      refine AW_block ?_
      refine AW_rg (tyOf_good _) [4, 5, 14, 16, 17] [] (fun _ _ => trivial) fun K' hK' => ?_
      repeat (refine sxf_next fun K2 hK2 => ?_; simp [dNum, dS, pairA, assertA]; (repeat (refine ⟨by omega, ?_⟩)); refine hK2 _ ?_; clear hK2 K2)
      refine sxf_nil (hK' _ ?_)
      refine AW.st (by simp [dNum, dS, pairA, assertA]; rfl) ?_
      clear hK' K'
      refine AW_cond false rfl (fun h => by cases h) (fun _ => ?_)
      refine AW_rg (tyOf_good _) [4, 5, 14, 20, 21] [] (fun _ _ => trivial) fun K' hK' => ?_
      repeat (refine sxf_next fun K2 hK2 => ?_; simp [dNum, dS, pairA, assertA]; (repeat (refine ⟨by omega, ?_⟩)); refine hK2 _ ?_; clear hK2 K2)
      refine sxf_nil (hK' _ ?_)
      refine AW.st (by simp [dNum, dS, pairA, assertA]; rfl) ?_
      clear hK' K'
      refine AW_cond true rfl (fun _ => ?_) (fun h => by cases h)
      refine AW_rg (tyOf_good _) [4, 8] [] (fun _ _ => trivial) fun K' hK' => ?_
      repeat (refine sxf_next fun K2 hK2 => ?_; simp [dNum, dS, pairA, assertA]; (repeat (refine ⟨by omega, ?_⟩)); refine hK2 _ ?_; clear hK2 K2)
      refine sxf_nil (hK' _ ?_)
      refine AW.st (by simp [dNum, dS, pairA, assertA]; rfl) ?_
      clear hK' K'
      refine AW_rg (tyOf_good _) [6] [] (fun _ _ => trivial) fun K' hK' => ?_
      repeat (refine sxf_next fun K2 hK2 => ?_; simp [dNum, dS, pairA, assertA]; (repeat (refine ⟨by omega, ?_⟩)); refine hK2 _ ?_; clear hK2 K2)
      refine sxf_next fun K2 hK2 => ?_
      simp [dNum, dS, pairA, assertA]
      refine callK.data (hi) (by simp; rfl) (by first | exact D.leGo_refl _ | simp [takeMap, List.map_map, Function.comp_def, D.le, D.le.go, D.le_refl, D.leGo_refl, dNum, dS, pairA, assertA]) ?_
      refine hK2 _ ?_
      clear hK2 K2
      simp only [putd, upd_lst]
      repeat (refine sxf_next fun K2 hK2 => ?_; simp [dNum, dS, pairA, assertA]; (repeat (refine ⟨by omega, ?_⟩)); refine hK2 _ ?_; clear hK2 K2)
      refine sxf_nil (hK' _ ?_)
      refine AW.st (by simp [dNum, dS, pairA, assertA]; rfl) ?_
      clear hK' K'
      refine AW_ret ?_
      simp [D.le, D.le.go, takeMap, dNum, dS, pairA, assertA]
    | rise s =>
      have hi := h1 s
      have hw := h2 s
      rw [dE, evE]
      cases hs : is s with
      | false =>
        rw [hs] at hi
        refine PureC.of_body (tyOf_good _) Tryd.func21 rfl rfl (rs := [.tmp 6]) Tryd.results21 (by simp [Tryd.ntmps21]) fun X => ?_
        simp only [Tryd.ntmps21, List.map]
        refine AW_rg (tyOf_good _) [0, 4, 5] [4, 5] (fun _ _ => trivial) fun K' hK' => ?_
        repeat (refine sxf_next fun K2 hK2 => ?_; simp [dNum, dS, pairA, assertA]; (repeat (refine ⟨by omega, ?_⟩)); refine hK2 _ ?_; clear hK2 K2)
        refine sxf_nil (hK' _ ?_)
        refine AW.st (by simp [dNum, dS, pairA, assertA]; rfl) ?_
        clear hK' K'
        refine AW.imp (Imp.freezeB 4 trivial) ?_
        refine AW.st (by simp [dNum, dS, pairA, assertA]; rfl) ?_
        refine AW.imp (Imp.freezeB 5 trivial) ?_
        refine AW.st (by simp [dNum, dS, pairA, assertA]; rfl) ?_
        refine AW_then fun K1 hK1 => ?_
        refine AW_rg (tyOf_good _) [4, 5, 14] [] (fun _ _ => trivial) fun K' hK' => ?_
        repeat (refine sxf_next fun K2 hK2 => ?_; simp [dNum, dS, pairA, assertA]; (repeat (refine ⟨by omega, ?_⟩)); refine hK2 _ ?_; clear hK2 K2)
        refine sxf_nil (hK' _ ?_)
        refine AW.st (by simp [dNum, dS, pairA, assertA]; rfl) ?_
        clear hK' K'
        refine AW_block ?_
        refine AW_rg (tyOf_good _) [4, 5, 14, 16, 17] [] (fun _ _ => trivial) fun K' hK' => ?_
        repeat (refine sxf_next fun K2 hK2 => ?_; simp [dNum, dS, pairA, assertA]; (repeat (refine ⟨by omega, ?_⟩)); refine hK2 _ ?_; clear hK2 K2)
        refine sxf_nil (hK' _ ?_)
        refine AW.st (by simp [dNum, dS, pairA, assertA]; rfl) ?_
        clear hK' K'
        refine AW_cond false rfl (fun h => by cases h) (fun _ => ?_)
        refine AW_rg (tyOf_good _) [4, 5, 14, 20, 21] [] (fun _ _ => trivial) fun K' hK' => ?_
        repeat (refine sxf_next fun K2 hK2 => ?_; simp [dNum, dS, pairA, assertA]; (repeat (refine ⟨by omega, ?_⟩)); refine hK2 _ ?_; clear hK2 K2)
        refine sxf_nil (hK' _ ?_)
        refine AW.st (by simp [dNum, dS, pairA, assertA]; rfl) ?_
        clear hK' K'
        refine AW_cond false rfl (fun h => by cases h) (fun _ => ?_)
        refine AW_rg (tyOf_good _) [4, 5, 14, 26, 27] [] (fun _ _ => trivial) fun K' hK' => ?_
        repeat (refine sxf_next fun K2 hK2 => ?_; simp [dNum, dS, pairA, assertA]; (repeat (refine ⟨by omega, ?_⟩)); refine hK2 _ ?_; clear hK2 K2)
        refine sxf_nil (hK' _ ?_)
        refine AW.st (by simp [dNum, dS, pairA, assertA]; rfl) ?_
        clear hK' K'
        refine AW_cond true rfl (fun _ => ?_) (fun h => by cases h)
        refine AW_rg (tyOf_good _) [4, 5, 9] [] (fun _ _ => trivial) fun K' hK' => ?_
        repeat (refine sxf_next fun K2 hK2 => ?_; simp [dNum, dS, pairA, assertA]; (repeat (refine ⟨by omega, ?_⟩)); refine hK2 _ ?_; clear hK2 K2)
        refine sxf_nil (hK' _ ?_)
        refine AW.st (by simp [dNum, dS, pairA, assertA]; rfl) ?_
        clear hK' K'
        refine AW_rg (tyOf_good _) [6] [] (fun _ _ => trivial) fun K' hK' => ?_
        repeat (refine sxf_next fun K2 hK2 => ?_; simp [dNum, dS, pairA, assertA]; (repeat (refine ⟨by omega, ?_⟩)); refine hK2 _ ?_; clear hK2 K2)
        refine sxf_next fun K2 hK2 => ?_
        simp [dNum, dS, pairA, assertA]
        refine callK.data (hi) (by simp; rfl) (by first | exact D.leGo_refl _ | simp [takeMap, List.map_map, Function.comp_def, D.le, D.le.go, D.le_refl, D.leGo_refl, dNum, dS, pairA, assertA]) ?_
        refine hK2 _ ?_
        clear hK2 K2
        simp only [putd, upd_lst]
        repeat (refine sxf_next fun K2 hK2 => ?_; simp [dNum, dS, pairA, assertA]; (repeat (refine ⟨by omega, ?_⟩)); refine hK2 _ ?_; clear hK2 K2)
        refine sxf_nil (hK' _ ?_)
        refine AW.st (by simp [dNum, dS, pairA, assertA]; rfl) ?_
        clear hK' K'
        refine AW_ret ?_
        simp [D.le, D.le.go, takeMap, dNum, dS, pairA, assertA]
      | true =>
        rw [hs] at hi
        refine PureC.of_body (tyOf_good _) Tryd.func21 rfl rfl (rs := [.tmp 6]) Tryd.results21 (by simp [Tryd.ntmps21]) fun X => ?_
        simp only [Tryd.ntmps21, List.map]
        refine AW_rg (tyOf_good _) [0, 4, 5] [4, 5] (fun _ _ => trivial) fun K' hK' => ?_
        repeat (refine sxf_next fun K2 hK2 => ?_; simp [dNum, dS, pairA, assertA]; (repeat (refine ⟨by omega, ?_⟩)); refine hK2 _ ?_; clear hK2 K2)
        refine sxf_nil (hK' _ ?_)
        refine AW.st (by simp [dNum, dS, pairA, assertA]; rfl) ?_
        clear hK' K'
        refine AW.imp (Imp.freezeB 4 trivial) ?_
        refine AW.st (by simp [dNum, dS, pairA, assertA]; rfl) ?_
        refine AW.imp (Imp.freezeB 5 trivial) ?_
        refine AW.st (by simp [dNum, dS, pairA, assertA]; rfl) ?_
        refine AW_then fun K1 hK1 => ?_
        refine AW_rg (tyOf_good _) [4, 5, 14] [] (fun _ _ => trivial) fun K' hK' => ?_
        repeat (refine sxf_next fun K2 hK2 => ?_; simp [dNum, dS, pairA, assertA]; (repeat (refine ⟨by omega, ?_⟩)); refine hK2 _ ?_; clear hK2 K2)
        refine sxf_nil (hK' _ ?_)
        refine AW.st (by simp [dNum, dS, pairA, assertA]; rfl) ?_
        clear hK' K'
        refine AW_block ?_
        refine AW_rg (tyOf_good _) [4, 5, 14, 16, 17] [] (fun _ _ => trivial) fun K' hK' => ?_
        repeat (refine sxf_next fun K2 hK2 => ?_; simp [dNum, dS, pairA, assertA]; (repeat (refine ⟨by omega, ?_⟩)); refine hK2 _ ?_; clear hK2 K2)
        refine sxf_nil (hK' _ ?_)
        refine AW.st (by simp [dNum, dS, pairA, assertA]; rfl) ?_
        clear hK' K'
        refine AW_cond false rfl (fun h => by cases h) (fun _ => ?_)
        refine AW_rg (tyOf_good _) [4, 5, 14, 20, 21] [] (fun _ _ => trivial) fun K' hK' => ?_
        repeat (refine sxf_next fun K2 hK2 => ?_; simp [dNum, dS, pairA, assertA]; (repeat (refine ⟨by omega, ?_⟩)); refine hK2 _ ?_; clear hK2 K2)
        refine sxf_nil (hK' _ ?_)
        refine AW.st (by simp [dNum, dS, pairA, assertA]; rfl) ?_
        clear hK' K'
        refine AW_cond false rfl (fun h => by cases h) (fun _ => ?_)
        refine AW_rg (tyOf_good _) [4, 5, 14, 26, 27] [] (fun _ _ => trivial) fun K' hK' => ?_
        repeat (refine sxf_next fun K2 hK2 => ?_; simp [dNum, dS, pairA, assertA]; (repeat (refine ⟨by omega, ?_⟩)); refine hK2 _ ?_; clear hK2 K2)
        refine sxf_nil (hK' _ ?_)
        refine AW.st (by simp [dNum, dS, pairA, assertA]; rfl) ?_
        clear hK' K'
        refine AW_cond true rfl (fun _ => ?_) (fun h => by cases h)
        refine AW_rg (tyOf_good _) [4, 5, 9] [] (fun _ _ => trivial) fun K' hK' => ?_
        repeat (refine sxf_next fun K2 hK2 => ?_; simp [dNum, dS, pairA, assertA]; (repeat (refine ⟨by omega, ?_⟩)); refine hK2 _ ?_; clear hK2 K2)
        refine sxf_nil (hK' _ ?_)
        refine AW.st (by simp [dNum, dS, pairA, assertA]; rfl) ?_
        clear hK' K'
        refine AW_rg (tyOf_good _) [6] [] (fun _ _ => trivial) fun K' hK' => ?_
        repeat (refine sxf_next fun K2 hK2 => ?_; simp [dNum, dS, pairA, assertA]; (repeat (refine ⟨by omega, ?_⟩)); refine hK2 _ ?_; clear hK2 K2)
        refine sxf_next fun K2 hK2 => ?_
        simp [dNum, dS, pairA, assertA]
        refine callK.data (hi) (by simp; rfl) (by first | exact D.leGo_refl _ | simp [takeMap, List.map_map, Function.comp_def, D.le, D.le.go, D.le_refl, D.leGo_refl, dNum, dS, pairA, assertA]) ?_
        refine hK2 _ ?_
        clear hK2 K2
        simp only [putd, upd_lst]
        repeat (refine sxf_next fun K2 hK2 => ?_; simp [dNum, dS, pairA, assertA]; (repeat (refine ⟨by omega, ?_⟩)); refine hK2 _ ?_; clear hK2 K2)
        refine sxf_next fun K2 hK2 => ?_
        simp [dNum, dS, pairA, assertA]
        refine callK.data (hw) (by simp; rfl) (by first | exact D.leGo_refl _ | simp [takeMap, List.map_map, Function.comp_def, D.le, D.le.go, D.le_refl, D.leGo_refl, dNum, dS, pairA, assertA]) ?_
        refine hK2 _ ?_
        clear hK2 K2
        simp only [putd, upd_lst]
        repeat (refine sxf_next fun K2 hK2 => ?_; simp [dNum, dS, pairA, assertA]; (repeat (refine ⟨by omega, ?_⟩)); refine hK2 _ ?_; clear hK2 K2)
        refine sxf_nil (hK' _ ?_)
        refine AW.st (by simp [dNum, dS, pairA, assertA]; rfl) ?_
        clear hK' K'
        refine AW_ret ?_
        simp [D.le, D.le.go, takeMap, dNum, dS, pairA, assertA]
    | fall s =>
      have hi := h1 s
      have hw := h2 s
      rw [dE, evE]
      cases hs : is s with
      | true =>
        rw [hs] at hi
        refine PureC.of_body (tyOf_good _) Tryd.func21 rfl rfl (rs := [.tmp 6]) Tryd.results21 (by simp [Tryd.ntmps21]) fun X => ?_
        simp only [Tryd.ntmps21, List.map]
        refine AW_rg (tyOf_good _) [0, 4, 5] [4, 5] (fun _ _ => trivial) fun K' hK' => ?_
        repeat (refine sxf_next fun K2 hK2 => ?_; simp [dNum, dS, pairA, assertA]; (repeat (refine ⟨by omega, ?_⟩)); refine hK2 _ ?_; clear hK2 K2)
        refine sxf_nil (hK' _ ?_)
        refine AW.st (by simp [dNum, dS, pairA, assertA]; rfl) ?_
        clear hK' K'
        refine AW.imp (Imp.freezeB 4 trivial) ?_
        refine AW.st (by simp [dNum, dS, pairA, assertA]; rfl) ?_
        refine AW.imp (Imp.freezeB 5 trivial) ?_
        refine AW.st (by simp [dNum, dS, pairA, assertA]; rfl) ?_
        refine AW_then fun K1 hK1 => ?_
        refine AW_rg (tyOf_good _) [4, 5, 14] [] (fun _ _ => trivial) fun K' hK' => ?_
        repeat (refine sxf_next fun K2 hK2 => ?_; simp [dNum, dS, pairA, assertA]; (repeat (refine ⟨by omega, ?_⟩)); refine hK2 _ ?_; clear hK2 K2)
        refine sxf_nil (hK' _ ?_)
        refine AW.st (by simp [dNum, dS, pairA, assertA]; rfl) ?_
        clear hK' K'
        refine AW_block ?_
        refine AW_rg (tyOf_good _) [4, 5, 14, 16, 17] [] (fun _ _ => trivial) fun K' hK' => ?_
        repeat (refine sxf_next fun K2 hK2 => ?_; simp [dNum, dS, pairA, assertA]; (repeat (refine ⟨by omega, ?_⟩)); refine hK2 _ ?_; clear hK2 K2)
        refine sxf_nil (hK' _ ?_)
        refine AW.st (by simp [dNum, dS, pairA, assertA]; rfl) ?_
        clear hK' K'
        refine AW_cond false rfl (fun h => by cases h) (fun _ => ?_)
        refine AW_rg (tyOf_good _) [4, 5, 14, 20, 21] [] (fun _ _ => trivial) fun K' hK' => ?_
        repeat (refine sxf_next fun K2 hK2 => ?_; simp [dNum, dS, pairA, assertA]; (repeat (refine ⟨by omega, ?_⟩)); refine hK2 _ ?_; clear hK2 K2)
        refine sxf_nil (hK' _ ?_)
        refine AW.st (by simp [dNum, dS, pairA, assertA]; rfl) ?_
        clear hK' K'
        refine AW_cond false rfl (fun h => by cases h) (fun _ => ?_)
        refine AW_rg (tyOf_good _) [4, 5, 14, 26, 27] [] (fun _ _ => trivial) fun K' hK' => ?_
        repeat (refine sxf_next fun K2 hK2 => ?_; simp [dNum, dS, pairA, assertA]; (repeat (refine ⟨by omega, ?_⟩)); refine hK2 _ ?_; clear hK2 K2)
        refine sxf_nil (hK' _ ?_)
        refine AW.st (by simp [dNum, dS, pairA, assertA]; rfl) ?_
        clear hK' K'
        refine AW_cond false rfl (fun h => by cases h) (fun _ => ?_)
        refine AW_rg (tyOf_good _) [4, 5, 14, 38, 39] [] (fun _ _ => trivial) fun K' hK' => ?_
        repeat (refine sxf_next fun K2 hK2 => ?_; simp [dNum, dS, pairA, assertA]; (repeat (refine ⟨by omega, ?_⟩)); refine hK2 _ ?_; clear hK2 K2)
        refine sxf_nil (hK' _ ?_)
        refine AW.st (by simp [dNum, dS, pairA, assertA]; rfl) ?_
        clear hK' K'
        refine AW_cond true rfl (fun _ => ?_) (fun h => by cases h)
        refine AW_rg (tyOf_good _) [4, 5, 10] [] (fun _ _ => trivial) fun K' hK' => ?_
        repeat (refine sxf_next fun K2 hK2 => ?_; simp [dNum, dS, pairA, assertA]; (repeat (refine ⟨by omega, ?_⟩)); refine hK2 _ ?_; clear hK2 K2)
        refine sxf_nil (hK' _ ?_)
        refine AW.st (by simp [dNum, dS, pairA, assertA]; rfl) ?_
        clear hK' K'
        refine AW_rg (tyOf_good _) [6] [] (fun _ _ => trivial) fun K' hK' => ?_
        repeat (refine sxf_next fun K2 hK2 => ?_; simp [dNum, dS, pairA, assertA]; (repeat (refine ⟨by omega, ?_⟩)); refine hK2 _ ?_; clear hK2 K2)
        refine sxf_next fun K2 hK2 => ?_
        simp [dNum, dS, pairA, assertA]
        refine callK.data (hi) (by simp; rfl) (by first | exact D.leGo_refl _ | simp [takeMap, List.map_map, Function.comp_def, D.le, D.le.go, D.le_refl, D.leGo_refl, dNum, dS, pairA, assertA]) ?_
        refine hK2 _ ?_
        clear hK2 K2
        simp only [putd, upd_lst]
        repeat (refine sxf_next fun K2 hK2 => ?_; simp [dNum, dS, pairA, assertA]; (repeat (refine ⟨by omega, ?_⟩)); refine hK2 _ ?_; clear hK2 K2)
        refine sxf_nil (hK' _ ?_)
        refine AW.st (by simp [dNum, dS, pairA, assertA]; rfl) ?_
        clear hK' K'
        refine AW_ret ?_
        simp [D.le, D.le.go, takeMap, dNum, dS, pairA, assertA]
      | false =>
        rw [hs] at hi
        refine PureC.of_body (tyOf_good _) Tryd.func21 rfl rfl (rs := [.tmp 6]) Tryd.results21 (by simp [Tryd.ntmps21]) fun X => ?_
        simp only [Tryd.ntmps21, List.map]
        refine AW_rg (tyOf_good _) [0, 4, 5] [4, 5] (fun _ _ => trivial) fun K' hK' => ?_
        repeat (refine sxf_next fun K2 hK2 => ?_; simp [dNum, dS, pairA, assertA]; (repeat (refine ⟨by omega, ?_⟩)); refine hK2 _ ?_; clear hK2 K2)
        refine sxf_nil (hK' _ ?_)
        refine AW.st (by simp [dNum, dS, pairA, assertA]; rfl) ?_
        clear hK' K'
        refine AW.imp (Imp.freezeB 4 trivial) ?_
        refine AW.st (by simp [dNum, dS, pairA, assertA]; rfl) ?_
        refine AW.imp (Imp.freezeB 5 trivial) ?_
        refine AW.st (by simp [dNum, dS, pairA, assertA]; rfl) ?_
        refine AW_then fun K1 hK1 => ?_
        refine AW_rg (tyOf_good _) [4, 5, 14] [] (fun _ _ => trivial) fun K' hK' => ?_
        repeat (refine sxf_next fun K2 hK2 => ?_; simp [dNum, dS, pairA, assertA]; (repeat (refine ⟨by omega, ?_⟩)); refine hK2 _ ?_; clear hK2 K2)
        refine sxf_nil (hK' _ ?_)
        refine AW.st (by simp [dNum, dS, pairA, assertA]; rfl) ?_
        clear hK' K'
        refine AW_block ?_
        refine AW_rg (tyOf_good _) [4, 5, 14, 16, 17] [] (fun _ _ => trivial) fun K' hK' => ?_
        repeat (refine sxf_next fun K2 hK2 => ?_; simp [dNum, dS, pairA, assertA]; (repeat (refine ⟨by omega, ?_⟩)); refine hK2 _ ?_; clear hK2 K2)
        refine sxf_nil (hK' _ ?_)
        refine AW.st (by simp [dNum, dS, pairA, assertA]; rfl) ?_
        clear hK' K'
        refine AW_cond false rfl (fun h => by cases h) (fun _ => ?_)
        refine AW_rg (tyOf_good _) [4, 5, 14, 20, 21] [] (fun _ _ => trivial) fun K' hK' => ?_
        repeat (refine sxf_next fun K2 hK2 => ?_; simp [dNum, dS, pairA, assertA]; (repeat (refine ⟨by omega, ?_⟩)); refine hK2 _ ?_; clear hK2 K2)
        refine sxf_nil (hK' _ ?_)
        refine AW.st (by simp [dNum, dS, pairA, assertA]; rfl) ?_
        clear hK' K'
        refine AW_cond false rfl (fun h => by cases h) (fun _ => ?_)
        refine AW_rg (tyOf_good _) [4, 5, 14, 26, 27] [] (fun _ _ => trivial) fun K' hK' => ?_
        repeat (refine sxf_next fun K2 hK2 => ?_; simp [dNum, dS, pairA, assertA]; (repeat (refine ⟨by omega, ?_⟩)); refine hK2 _ ?_; clear hK2 K2)
        refine sxf_nil (hK' _ ?_)
        refine AW.st (by simp [dNum, dS, pairA, assertA]; rfl) ?_
        clear hK' K'
        refine AW_cond false rfl (fun h => by cases h) (fun _ => ?_)
        refine AW_rg (tyOf_good _) [4, 5, 14, 38, 39] [] (fun _ _ => trivial) fun K' hK' => ?_
        repeat (refine sxf_next fun K2 hK2 => ?_; simp [dNum, dS, pairA, assertA]; (repeat (refine ⟨by omega, ?_⟩)); refine hK2 _ ?_; clear hK2 K2)
        refine sxf_nil (hK' _ ?_)
        refine AW.st (by simp [dNum, dS, pairA, assertA]; rfl) ?_
        clear hK' K'
        refine AW_cond true rfl (fun _ => ?_) (fun h => by cases h)
        refine AW_rg (tyOf_good _) [4, 5, 10] [] (fun _ _ => trivial) fun K' hK' => ?_
        repeat (refine sxf_next fun K2 hK2 => ?_; simp [dNum, dS, pairA, assertA]; (repeat (refine ⟨by omega, ?_⟩)); refine hK2 _ ?_; clear hK2 K2)
        refine sxf_nil (hK' _ ?_)
        refine AW.st (by simp [dNum, dS, pairA, assertA]; rfl) ?_
        clear hK' K'
        refine AW_rg (tyOf_good _) [6] [] (fun _ _ => trivial) fun K' hK' => ?_
        repeat (refine sxf_next fun K2 hK2 => ?_; simp [dNum, dS, pairA, assertA]; (repeat (refine ⟨by omega, ?_⟩)); refine hK2 _ ?_; clear hK2 K2)
        refine sxf_next fun K2 hK2 => ?_
        simp [dNum, dS, pairA, assertA]
        refine callK.data (hi) (by simp; rfl) (by first | exact D.leGo_refl _ | simp [takeMap, List.map_map, Function.comp_def, D.le, D.le.go, D.le_refl, D.leGo_refl, dNum, dS, pairA, assertA]) ?_
        refine hK2 _ ?_
        clear hK2 K2
        simp only [putd, upd_lst]
        repeat (refine sxf_next fun K2 hK2 => ?_; simp [dNum, dS, pairA, assertA]; (repeat (refine ⟨by omega, ?_⟩)); refine hK2 _ ?_; clear hK2 K2)
        refine sxf_next fun K2 hK2 => ?_
        simp [dNum, dS, pairA, assertA]
        refine callK.data (hw) (by simp; rfl) (by first | exact D.leGo_refl _ | simp [takeMap, List.map_map, Function.comp_def, D.le, D.le.go, D.le_refl, D.leGo_refl, dNum, dS, pairA, assertA]) ?_
        refine hK2 _ ?_
        clear hK2 K2
        simp only [putd, upd_lst]
        repeat (refine sxf_next fun K2 hK2 => ?_; simp [dNum, dS, pairA, assertA]; (repeat (refine ⟨by omega, ?_⟩)); refine hK2 _ ?_; clear hK2 K2)
        refine sxf_nil (hK' _ ?_)
        refine AW.st (by simp [dNum, dS, pairA, assertA]; rfl) ?_
        clear hK' K'
        refine AW_ret ?_
        simp [D.le, D.le.go, takeMap, dNum, dS, pairA, assertA]
    | not x =>
      have hc := ih x (by simp at hsz; omega) (by simp only [bE] at hb; omega)
      obtain ⟨tx, cx, hx⟩ := dE_ifc x
      rw [dE, evE, hx]
      rw [hx] at hc
      generalize evE is was x = r at hc ⊢
      refine PureC.of_body (tyOf_good _) Tryd.func21 rfl rfl (rs := [.tmp 6]) Tryd.results21 (by simp [Tryd.ntmps21]) fun X => ?_
      simp only [Tryd.ntmps21, List.map]
      refine AW_rg (tyOf_good _) [0, 4, 5] [4, 5] (fun _ _ => trivial) fun K' hK' => ?_
      repeat (refine sxf_next fun K2 hK2 => ?_; simp [dNum, dS, pairA, assertA]; (repeat (refine ⟨by omega, ?_⟩)); refine hK2 _ ?_; clear hK2 K2)
      refine sxf_nil (hK' _ ?_)
      refine AW.st (by simp [dNum, dS, pairA, assertA]; rfl) ?_
      clear hK' K'
      refine AW.imp (Imp.freezeB 4 trivial) ?_
      refine AW.st (by simp [dNum, dS, pairA, assertA]; rfl) ?_
      refine AW.imp (Imp.freezeB 5 trivial) ?_
      refine AW.st (by simp [dNum, dS, pairA, assertA]; rfl) ?_
      refine AW_then fun K1 hK1 => ?_
      refine AW_rg (tyOf_good _) [4, 5, 14] [] (fun _ _ => trivial) fun K' hK' => ?_
      repeat (refine sxf_next fun K2 hK2 => ?_; simp [dNum, dS, pairA, assertA]; (repeat (refine ⟨by omega, ?_⟩)); refine hK2 _ ?_; clear hK2 K2)
      refine sxf_nil (hK' _ ?_)
      refine AW.st (by simp [dNum, dS, pairA, assertA]; rfl) ?_
      clear hK' K'
      refine AW_block ?_
      refine AW_rg (tyOf_good _) [4, 5, 14, 16, 17] [] (fun _ _ => trivial) fun K' hK' => ?_
      repeat (refine sxf_next fun K2 hK2 => ?_; simp [dNum, dS, pairA, assertA]; (repeat (refine ⟨by omega, ?_⟩)); refine hK2 _ ?_; clear hK2 K2)
      refine sxf_nil (hK' _ ?_)
      refine AW.st (by simp [dNum, dS, pairA, assertA]; rfl) ?_
      clear hK' K'
      refine AW_cond false rfl (fun h => by cases h) (fun _ => ?_)
      refine AW_rg (tyOf_good _) [4, 5, 14, 20, 21] [] (fun _ _ => trivial) fun K' hK' => ?_
      repeat (refine sxf_next fun K2 hK2 => ?_; simp [dNum, dS, pairA, assertA]; (repeat (refine ⟨by omega, ?_⟩)); refine hK2 _ ?_; clear hK2 K2)
      refine sxf_nil (hK' _ ?_)
      refine AW.st (by simp [dNum, dS, pairA, assertA]; rfl) ?_
      clear hK' K'
      refine AW_cond false rfl (fun h => by cases h) (fun _ => ?_)
      refine AW_rg (tyOf_good _) [4, 5, 14, 26, 27] [] (fun _ _ => trivial) fun K' hK' => ?_
      repeat (refine sxf_next fun K2 hK2 => ?_; simp [dNum, dS, pairA, assertA]; (repeat (refine ⟨by omega, ?_⟩)); refine hK2 _ ?_; clear hK2 K2)
      refine sxf_nil (hK' _ ?_)
      refine AW.st (by simp [dNum, dS, pairA, assertA]; rfl) ?_
      clear hK' K'
      refine AW_cond false rfl (fun h => by cases h) (fun _ => ?_)
      refine AW_rg (tyOf_good _) [4, 5, 14, 38, 39] [] (fun _ _ => trivial) fun K' hK' => ?_
      repeat (refine sxf_next fun K2 hK2 => ?_; simp [dNum, dS, pairA, assertA]; (repeat (refine ⟨by omega, ?_⟩)); refine hK2 _ ?_; clear hK2 K2)
      refine sxf_nil (hK' _ ?_)
      refine AW.st (by simp [dNum, dS, pairA, assertA]; rfl) ?_
      clear hK' K'
      refine AW_cond false rfl (fun h => by cases h) (fun _ => ?_)
      refine AW_rg (tyOf_good _) [4, 5, 14, 50, 51] [] (fun _ _ => trivial) fun K' hK' => ?_
      repeat (refine sxf_next fun K2 hK2 => ?_; simp [dNum, dS, pairA, assertA]; (repeat (refine ⟨by omega, ?_⟩)); refine hK2 _ ?_; clear hK2 K2)
      refine sxf_nil (hK' _ ?_)
      refine AW.st (by simp [dNum, dS, pairA, assertA]; rfl) ?_
      clear hK' K'
      refine AW_cond true rfl (fun _ => ?_) (fun h => by cases h)
      refine AW_rg (tyOf_good _) [4, 5, 11] [11] (fun _ _ => trivial) fun K' hK' => ?_
      repeat (refine sxf_next fun K2 hK2 => ?_; simp [dNum, dS, pairA, assertA]; (repeat (refine ⟨by omega, ?_⟩)); refine hK2 _ ?_; clear hK2 K2)
      refine sxf_nil (hK' _ ?_)
      refine AW.st (by simp [dNum, dS, pairA, assertA]; rfl) ?_
      clear hK' K'
      refine AW_rg (tyOf_good _) [6] [11] (fun _ _ => trivial) fun K' hK' => ?_
      repeat (refine sxf_next fun K2 hK2 => ?_; simp [dNum, dS, pairA, assertA]; (repeat (refine ⟨by omega, ?_⟩)); refine hK2 _ ?_; clear hK2 K2)
      refine sxf_next fun K2 hK2 => ?_
      simp [dNum, dS, pairA, assertA]
      refine callK.data (hc) (by simp; rfl) (by first | exact D.leGo_refl _ | simp [takeMap, List.map_map, Function.comp_def, D.le, D.le.go, D.le_refl, D.leGo_refl, dNum, dS, pairA, assertA]) ?_
      refine hK2 _ ?_
      clear hK2 K2
      simp only [putd, upd_lst]
      repeat (refine sxf_next fun K2 hK2 => ?_; simp [dNum, dS, pairA, assertA]; (repeat (refine ⟨by omega, ?_⟩)); refine hK2 _ ?_; clear hK2 K2)
      refine sxf_nil (hK' _ ?_)
      refine AW.st (by simp [dNum, dS, pairA, assertA]; rfl) ?_
      clear hK' K'
      refine AW_ret ?_
      simp [D.le, D.le.go, takeMap, dNum, dS, pairA, assertA]
    | and l =>
      have hch : ∀ x ∈ l, PureC Tryd.prog G 54 [dE x, .ip [.fn (.func g1) c1], .ip [.fn (.func g2) c2]] (.v (.bool (!evE is was x))) := fun x hx => by
        have hc := ih x (by have := List.sizeOf_lt_of_mem hx; simp only [Ex.and.sizeOf_spec] at hsz; omega) (by have := bEs_mem hx; simp only [bE] at hb; omega)
        obtain ⟨tx, cx, hxx⟩ := dE_ifc x
        rw [hxx] at hc ⊢
        generalize evE is was x = r at hc ⊢
        refine PureC.of_body (tyOf_good _) Tryd.func54 rfl rfl (rs := [.tmp 4]) Tryd.results54 (by simp [Tryd.ntmps54]) fun X => ?_
        simp only [Tryd.ntmps54, List.map]
        refine AW_rg (tyOf_good _) [0, 1, 2] [] (fun _ _ => trivial) fun K' hK' => ?_
        repeat (refine sxf_next fun K2 hK2 => ?_; simp [dNum, dS, pairA, assertA]; (repeat (refine ⟨by omega, ?_⟩)); refine hK2 _ ?_; clear hK2 K2)
        refine sxf_nil (hK' _ ?_)
        refine AW.st (by simp [dNum, dS, pairA, assertA]; rfl) ?_
        clear hK' K'
        refine AW_rg (tyOf_good _) [4] [] (fun _ _ => trivial) fun K' hK' => ?_
        repeat (refine sxf_next fun K2 hK2 => ?_; simp [dNum, dS, pairA, assertA]; (repeat (refine ⟨by omega, ?_⟩)); refine hK2 _ ?_; clear hK2 K2)
        refine sxf_next fun K2 hK2 => ?_
        simp [dNum, dS, pairA, assertA]
        refine callK.data (hc) (by simp; rfl) (by first | exact D.leGo_refl _ | simp [takeMap, List.map_map, Function.comp_def, D.le, D.le.go, D.le_refl, D.leGo_refl, dNum, dS, pairA, assertA]) ?_
        refine hK2 _ ?_
        clear hK2 K2
        simp only [putd, upd_lst]
        repeat (refine sxf_next fun K2 hK2 => ?_; simp [dNum, dS, pairA, assertA]; (repeat (refine ⟨by omega, ?_⟩)); refine hK2 _ ?_; clear hK2 K2)
        refine sxf_nil (hK' _ ?_)
        refine AW.st (by simp [dNum, dS, pairA, assertA]; rfl) ?_
        clear hK' K'
        refine AW_ret ?_
        simp [D.le, D.le.go, takeMap, dNum, dS, pairA, assertA]
      have hln := bEs_len l
      have hcf := containsAnd_spec G none l 54 [.ip [.fn (.func g1) c1], .ip [.fn (.func g2) c2]] (fun x => !evE is was x) (by simp only [bE] at hb; omega) hch
      rw [dE, dEs_map, evE, evA_any]
      generalize l.any (fun x => !evE is was x) = r at hcf ⊢
      refine PureC.of_body (tyOf_good _) Tryd.func21 rfl rfl (rs := [.tmp 6]) Tryd.results21 (by simp [Tryd.ntmps21]) fun X => ?_
      simp only [Tryd.ntmps21, List.map]
      refine AW_rg (tyOf_good _) [0, 4, 5] [4, 5] (fun _ _ => trivial) fun K' hK' => ?_
      repeat (refine sxf_next fun K2 hK2 => ?_; simp [dNum, dS, pairA, assertA]; (repeat (refine ⟨by omega, ?_⟩)); refine hK2 _ ?_; clear hK2 K2)
      refine sxf_nil (hK' _ ?_)
      refine AW.st (by simp [dNum, dS, pairA, assertA]; rfl) ?_
      clear hK' K'
      refine AW.imp (Imp.freezeB 4 trivial) ?_
      refine AW.st (by simp [dNum, dS, pairA, assertA]; rfl) ?_
      refine AW.imp (Imp.freezeB 5 trivial) ?_
      refine AW.st (by simp [dNum, dS, pairA, assertA]; rfl) ?_
      refine AW_then fun K1 hK1 => ?_
      refine AW_rg (tyOf_good _) [4, 5, 14] [] (fun _ _ => trivial) fun K' hK' => ?_
      repeat (refine sxf_next fun K2 hK2 => ?_; simp [dNum, dS, pairA, assertA]; (repeat (refine ⟨by omega, ?_⟩)); refine hK2 _ ?_; clear hK2 K2)
      refine sxf_nil (hK' _ ?_)
      refine AW.st (by simp [dNum, dS, pairA, assertA]; rfl) ?_
      clear hK' K'
      refine AW_block ?_
      refine AW_rg (tyOf_good _) [4, 5, 14, 16, 17] [] (fun _ _ => trivial) fun K' hK' => ?_
      repeat (refine sxf_next fun K2 hK2 => ?_; simp [dNum, dS, pairA, assertA]; (repeat (refine ⟨by omega, ?_⟩)); refine hK2 _ ?_; clear hK2 K2)
      refine sxf_nil (hK' _ ?_)
      refine AW.st (by simp [dNum, dS, pairA, assertA]; rfl) ?_
      clear hK' K'
      refine AW_cond false rfl (fun h => by cases h) (fun _ => ?_)
      refine AW_rg (tyOf_good _) [4, 5, 14, 20, 21] [] (fun _ _ => trivial) fun K' hK' => ?_
      repeat (refine sxf_next fun K2 hK2 => ?_; simp [dNum, dS, pairA, assertA]; (repeat (refine ⟨by omega, ?_⟩)); refine hK2 _ ?_; clear hK2 K2)
      refine sxf_nil (hK' _ ?_)
      refine AW.st (by simp [dNum, dS, pairA, assertA]; rfl) ?_
      clear hK' K'
      refine AW_cond false rfl (fun h => by cases h) (fun _ => ?_)
      refine AW_rg (tyOf_good _) [4, 5, 14, 26, 27] [] (fun _ _ => trivial) fun K' hK' => ?_
      repeat (refine sxf_next fun K2 hK2 => ?_; simp [dNum, dS, pairA, assertA]; (repeat (refine ⟨by omega, ?_⟩)); refine hK2 _ ?_; clear hK2 K2)
      refine sxf_nil (hK' _ ?_)
      refine AW.st (by simp [dNum, dS, pairA, assertA]; rfl) ?_
      clear hK' K'
      refine AW_cond false rfl (fun h => by cases h) (fun _ => ?_)
      refine AW_rg (tyOf_good _) [4, 5, 14, 38, 39] [] (fun _ _ => trivial) fun K' hK' => ?_
      repeat (refine sxf_next fun K2 hK2 => ?_; simp [dNum, dS, pairA, assertA]; (repeat (refine ⟨by omega, ?_⟩)); refine hK2 _ ?_; clear hK2 K2)
      refine sxf_nil (hK' _ ?_)
      refine AW.st (by simp [dNum, dS, pairA, assertA]; rfl) ?_
      clear hK' K'
      refine AW_cond false rfl (fun h => by cases h) (fun _ => ?_)
      refine AW_rg (tyOf_good _) [4, 5, 14, 50, 51] [] (fun _ _ => trivial) fun K' hK' => ?_
      repeat (refine sxf_next fun K2 hK2 => ?_; simp [dNum, dS, pairA, assertA]; (repeat (refine ⟨by omega, ?_⟩)); refine hK2 _ ?_; clear hK2 K2)
      refine sxf_nil (hK' _ ?_)
      refine AW.st (by simp [dNum, dS, pairA, assertA]; rfl) ?_
      clear hK' K'
      refine AW_cond false rfl (fun h => by cases h) (fun _ => ?_)
      refine AW_rg (tyOf_good _) [4, 5, 14, 59, 60] [] (fun _ _ => trivial) fun K' hK' => ?_
      repeat (refine sxf_next fun K2 hK2 => ?_; simp [dNum, dS, pairA, assertA]; (repeat (refine ⟨by omega, ?_⟩)); refine hK2 _ ?_; clear hK2 K2)
      refine sxf_nil (hK' _ ?_)
      refine AW.st (by simp [dNum, dS, pairA, assertA]; rfl) ?_
      clear hK' K'
      refine AW_cond true rfl (fun _ => ?_) (fun h => by cases h)
      refine AW_rg (tyOf_good _) [4, 5, 12] [] (fun _ _ => trivial) fun K' hK' => ?_
      repeat (refine sxf_next fun K2 hK2 => ?_; simp [dNum, dS, pairA, assertA]; (repeat (refine ⟨by omega, ?_⟩)); refine hK2 _ ?_; clear hK2 K2)
      refine sxf_nil (hK' _ ?_)
      refine AW.st (by simp [dNum, dS, pairA, assertA]; rfl) ?_
      clear hK' K'
      refine AW_rg (tyOf_good _) [6] [] (fun _ _ => trivial) fun K' hK' => ?_
      repeat (refine sxf_next fun K2 hK2 => ?_; simp [dNum, dS, pairA, assertA]; (repeat (refine ⟨by omega, ?_⟩)); refine hK2 _ ?_; clear hK2 K2)
      refine sxf_next fun K2 hK2 => ?_
      simp [dNum, dS, pairA, assertA]
      refine callK.data (hcf) (by simp; rfl) (by first | exact D.leGo_refl _ | simp [takeMap, List.map_map, Function.comp_def, D.le, D.le.go, D.le_refl, D.leGo_refl, dNum, dS, pairA, assertA]) ?_
      refine hK2 _ ?_
      clear hK2 K2
      simp only [putd, upd_lst]
      repeat (refine sxf_next fun K2 hK2 => ?_; simp [dNum, dS, pairA, assertA]; (repeat (refine ⟨by omega, ?_⟩)); refine hK2 _ ?_; clear hK2 K2)
      refine sxf_nil (hK' _ ?_)
      refine AW.st (by simp [dNum, dS, pairA, assertA]; rfl) ?_
      clear hK' K'
      refine AW_ret ?_
      simp [D.le, D.le.go, takeMap, dNum, dS, pairA, assertA]
    | or l =>
      have hch : ∀ x ∈ l, PureC Tryd.prog G 56 [dE x, .ip [.fn (.func g1) c1], .ip [.fn (.func g2) c2]] (.v (.bool (evE is was x))) := fun x hx => by
        have hc := ih x (by have := List.sizeOf_lt_of_mem hx; simp only [Ex.or.sizeOf_spec] at hsz; omega) (by have := bEs_mem hx; simp only [bE] at hb; omega)
        obtain ⟨tx, cx, hxx⟩ := dE_ifc x
        rw [hxx] at hc ⊢
        generalize evE is was x = r at hc ⊢
        refine PureC.of_body (tyOf_good _) Tryd.func56 rfl rfl (rs := [.tmp 4]) Tryd.results56 (by simp [Tryd.ntmps56]) fun X => ?_
        simp only [Tryd.ntmps56, List.map]
        refine AW_rg (tyOf_good _) [0, 1, 2] [] (fun _ _ => trivial) fun K' hK' => ?_
        repeat (refine sxf_next fun K2 hK2 => ?_; simp [dNum, dS, pairA, assertA]; (repeat (refine ⟨by omega, ?_⟩)); refine hK2 _ ?_; clear hK2 K2)
        refine sxf_nil (hK' _ ?_)
        refine AW.st (by simp [dNum, dS, pairA, assertA]; rfl) ?_
        clear hK' K'
        refine AW_rg (tyOf_good _) [4] [] (fun _ _ => trivial) fun K' hK' => ?_
        repeat (refine sxf_next fun K2 hK2 => ?_; simp [dNum, dS, pairA, assertA]; (repeat (refine ⟨by omega, ?_⟩)); refine hK2 _ ?_; clear hK2 K2)
        refine sxf_next fun K2 hK2 => ?_
        simp [dNum, dS, pairA, assertA]
        refine callK.data (hc) (by simp; rfl) (by first | exact D.leGo_refl _ | simp [takeMap, List.map_map, Function.comp_def, D.le, D.le.go, D.le_refl, D.leGo_refl, dNum, dS, pairA, assertA]) ?_
        refine hK2 _ ?_
        clear hK2 K2
        simp only [putd, upd_lst]
        repeat (refine sxf_next fun K2 hK2 => ?_; simp [dNum, dS, pairA, assertA]; (repeat (refine ⟨by omega, ?_⟩)); refine hK2 _ ?_; clear hK2 K2)
        refine sxf_nil (hK' _ ?_)
        refine AW.st (by simp [dNum, dS, pairA, assertA]; rfl) ?_
        clear hK' K'
        refine AW_ret ?_
        simp [D.le, D.le.go, takeMap, dNum, dS, pairA, assertA]
      have hln := bEs_len l
      have hcf := containsOr_spec G none l 56 [.ip [.fn (.func g1) c1], .ip [.fn (.func g2) c2]] (fun x => evE is was x) (by simp only [bE] at hb; omega) hch
      rw [dE, dEs_map, evE, evO_any]
      generalize l.any (fun x => evE is was x) = r at hcf ⊢
      refine PureC.of_body (tyOf_good _) Tryd.func21 rfl rfl (rs := [.tmp 6]) Tryd.results21 (by simp [Tryd.ntmps21]) fun X => ?_
      simp only [Tryd.ntmps21, List.map]
      refine AW_rg (tyOf_good _) [0, 4, 5] [4, 5] (fun _ _ => trivial) fun K' hK' => ?_
      repeat (refine sxf_next fun K2 hK2 => ?_; simp [dNum, dS, pairA, assertA]; (repeat (refine ⟨by omega, ?_⟩)); refine hK2 _ ?_; clear hK2 K2)
      refine sxf_nil (hK' _ ?_)
      refine AW.st (by simp [dNum, dS, pairA, assertA]; rfl) ?_
      clear hK' K'
      refine AW.imp (Imp.freezeB 4 trivial) ?_
      refine AW.st (by simp [dNum, dS, pairA, assertA]; rfl) ?_
      refine AW.imp (Imp.freezeB 5 trivial) ?_
      refine AW.st (by simp [dNum, dS, pairA, assertA]; rfl) ?_
      refine AW_then fun K1 hK1 => ?_
      refine AW_rg (tyOf_good _) [4, 5, 14] [] (fun _ _ => trivial) fun K' hK' => ?_
      repeat (refine sxf_next fun K2 hK2 => ?_; simp [dNum, dS, pairA, assertA]; (repeat (refine ⟨by omega, ?_⟩)); refine hK2 _ ?_; clear hK2 K2)
      refine sxf_nil (hK' _ ?_)
      refine AW.st (by simp [dNum, dS, pairA, assertA]; rfl) ?_
      clear hK' K'
      refine AW_block ?_
      refine AW_rg (tyOf_good _) [4, 5, 14, 16, 17] [] (fun _ _ => trivial) fun K' hK' => ?_
      repeat (refine sxf_next fun K2 hK2 => ?_; simp [dNum, dS, pairA, assertA]; (repeat (refine ⟨by omega, ?_⟩)); refine hK2 _ ?_; clear hK2 K2)
      refine sxf_nil (hK' _ ?_)
      refine AW.st (by simp [dNum, dS, pairA, assertA]; rfl) ?_
      clear hK' K'
      refine AW_cond false rfl (fun h => by cases h) (fun _ => ?_)
      refine AW_rg (tyOf_good _) [4, 5, 14, 20, 21] [] (fun _ _ => trivial) fun K' hK' => ?_
      repeat (refine sxf_next fun K2 hK2 => ?_; simp [dNum, dS, pairA, assertA]; (repeat (refine ⟨by omega, ?_⟩)); refine hK2 _ ?_; clear hK2 K2)
      refine sxf_nil (hK' _ ?_)
      refine AW.st (by simp [dNum, dS, pairA, assertA]; rfl) ?_
      clear hK' K'
      refine AW_cond false rfl (fun h => by cases h) (fun _ => ?_)
      refine AW_rg (tyOf_good _) [4, 5, 14, 26, 27] [] (fun _ _ => trivial) fun K' hK' => ?_
      repeat (refine sxf_next fun K2 hK2 => ?_; simp [dNum, dS, pairA, assertA]; (repeat (refine ⟨by omega, ?_⟩)); refine hK2 _ ?_; clear hK2 K2)
      refine sxf_nil (hK' _ ?_)
      refine AW.st (by simp [dNum, dS, pairA, assertA]; rfl) ?_
      clear hK' K'
      refine AW_cond false rfl (fun h => by cases h) (fun _ => ?_)
      refine AW_rg (tyOf_good _) [4, 5, 14, 38, 39] [] (fun _ _ => trivial) fun K' hK' => ?_
      repeat (refine sxf_next fun K2 hK2 => ?_; simp [dNum, dS, pairA, assertA]; (repeat (refine ⟨by omega, ?_⟩)); refine hK2 _ ?_; clear hK2 K2)
      refine sxf_nil (hK' _ ?_)
      refine AW.st (by simp [dNum, dS, pairA, assertA]; rfl) ?_
      clear hK' K'
      refine AW_cond false rfl (fun h => by cases h) (fun _ => ?_)
      refine AW_rg (tyOf_good _) [4, 5, 14, 50, 51] [] (fun _ _ => trivial) fun K' hK' => ?_
      repeat (refine sxf_next fun K2 hK2 => ?_; simp [dNum, dS, pairA, assertA]; (repeat (refine ⟨by omega, ?_⟩)); refine hK2 _ ?_; clear hK2 K2)
      refine sxf_nil (hK' _ ?_)
      refine AW.st (by simp [dNum, dS, pairA, assertA]; rfl) ?_
      clear hK' K'
      refine AW_cond false rfl (fun h => by cases h) (fun _ => ?_)
      refine AW_rg (tyOf_good _) [4, 5, 14, 59, 60] [] (fun _ _ => trivial) fun K' hK' => ?_
      repeat (refine sxf_next fun K2 hK2 => ?_; simp [dNum, dS, pairA, assertA]; (repeat (refine ⟨by omega, ?_⟩)); refine hK2 _ ?_; clear hK2 K2)
      refine sxf_nil (hK' _ ?_)
      refine AW.st (by simp [dNum, dS, pairA, assertA]; rfl) ?_
      clear hK' K'
      refine AW_cond false rfl (fun h => by cases h) (fun _ => ?_)
      refine AW_rg (tyOf_good _) [4, 5, 66, 67] [] (fun _ _ => trivial) fun K' hK' => ?_
      repeat (refine sxf_next fun K2 hK2 => ?_; simp [dNum, dS, pairA, assertA]; (repeat (refine ⟨by omega, ?_⟩)); refine hK2 _ ?_; clear hK2 K2)
      refine sxf_nil (hK' _ ?_)
      refine AW.st (by simp [dNum, dS, pairA, assertA]; rfl) ?_
      clear hK' K'
      refine AW_cond true rfl (fun _ => ?_) (fun h => by cases h)
      refine AW_rg (tyOf_good _) [4, 5, 13] [] (fun _ _ => trivial) fun K' hK' => ?_
      repeat (refine sxf_next fun K2 hK2 => ?_; simp [dNum, dS, pairA, assertA]; (repeat (refine ⟨by omega, ?_⟩)); refine hK2 _ ?_; clear hK2 K2)
      refine sxf_nil (hK' _ ?_)
      refine AW.st (by simp [dNum, dS, pairA, assertA]; rfl) ?_
      clear hK' K'
      refine AW_rg (tyOf_good _) [6] [] (fun _ _ => trivial) fun K' hK' => ?_
      repeat (refine sxf_next fun K2 hK2 => ?_; simp [dNum, dS, pairA, assertA]; (repeat (refine ⟨by omega, ?_⟩)); refine hK2 _ ?_; clear hK2 K2)
      refine sxf_next fun K2 hK2 => ?_
      simp [dNum, dS, pairA, assertA]
      refine callK.data (hcf) (by simp; rfl) (by first | exact D.leGo_refl _ | simp [takeMap, List.map_map, Function.comp_def, D.le, D.le.go, D.le_refl, D.leGo_refl, dNum, dS, pairA, assertA]) ?_
      refine hK2 _ ?_
      clear hK2 K2
      simp only [putd, upd_lst]
      repeat (refine sxf_next fun K2 hK2 => ?_; simp [dNum, dS, pairA, assertA]; (repeat (refine ⟨by omega, ?_⟩)); refine hK2 _ ?_; clear hK2 K2)
      refine sxf_nil (hK' _ ?_)
      refine AW.st (by simp [dNum, dS, pairA, assertA]; rfl) ?_
      clear hK' K'
      refine AW_ret ?_
      simp [D.le, D.le.go, takeMap, dNum, dS, pairA, assertA]
theorem eval_spec (G : Glob) (g1 g2 : FuncId) (c1 c2 : List D) (is was : List UInt8 → Bool) (h1 : Tells G g1 c1 is) (h2 : Tells G g2 c2 was) (e : Ex) (hb : bE e ≤ 2^28) : PureC Tryd.prog G 21 [dE e, .fn (.func g1) c1, .fn (.func g2) c2] (.v (.bool (evE is was e))) := eval_at G g1 g2 c1 c2 is was h1 h2 _ e (Nat.le_refl _) hb
end Go.Proofs.YtfehigldhedkgaaDoor

/-
  How great an expression is: walk, Size.
-/
namespace Go.Proofs.YtfehigldhedkgaaDoor
set_option linter.unusedSimpArgs false
set_option linter.unusedVariables false
open Go.Av

theorem szN_b : ∀ (n : Nat) (e : Ex), SizeOf.sizeOf e ≤ n → szN e ≤ bE e
  | 0, e, hn => by cases e <;> simp at hn
  | n + 1, e, hn => by
    have many : ∀ l : List Ex, (∀ x ∈ l, SizeOf.sizeOf x ≤ n) → szNs l ≤ bEs l := by
      intro l
      induction l with
      | nil => intro _; simp [szNs]
      | cons x l ih =>
        intro h
        have a := ih fun y hy => h y (by simp [hy])
        have b := szN_b n x (h x (by simp))
        simp only [szNs, bEs]
        omega
    cases e with
    | not x => have := szN_b n x (by simp at hn; omega); simp only [szN, bE]; omega
    | and l => have := many l fun x hx => by have := List.sizeOf_lt_of_mem hx; simp only [Ex.and.sizeOf_spec] at hn; omega
               simp only [szN, bE]; omega
    | or l => have := many l fun x hx => by have := List.sizeOf_lt_of_mem hx; simp only [Ex.or.sizeOf_spec] at hn; omega
              simp only [szN, bE]; omega
    | cst b => simp [szN, bE]
    | bit s => simp only [szN, bE]; omega
    | rise s => simp only [szN, bE]; omega
    | fall s => simp only [szN, bE]; omega
theorem size_b (e : Ex) : szN e ≤ bE e := szN_b _ e (Nat.le_refl _)
theorem szNs_take {l : List Ex} {i : Nat} (hi : i < l.length) : szNs (l.take (i + 1)) = szNs (l.take i) + szN l[i] := by
  rw [List.take_succ_eq_append_getElem hi, szNs_app]
  simp [szNs]
theorem szNs_bs : ∀ l : List Ex, szNs l ≤ bEs l
  | [] => by simp [szNs]
  | e :: l => by have := size_b e; have := szNs_bs l; simp only [szNs, bEs]; omega
theorem bEs_take {l : List Ex} {i : Nat} (hi : i < l.length) : bEs (l.take i) + bE l[i] ≤ bEs l := by
  have h1 := bEs_app (l.take i) [l[i]]
  rw [← List.take_succ_eq_append_getElem hi] at h1
  have h2 := bEs_app (l.take (i + 1)) (l.drop (i + 1))
  rw [List.take_append_drop] at h2
  simp only [bEs] at h1
  omega

theorem size1_spec (G : Glob) (n : Int) (h0 : 0 ≤ n) (hn : n < 2^60) (t : TypeId) (c : D) : MC Tryd.prog G [501] 52 [.d (.ifc t c), .ref 501 0 0] (hlst [(501, .box 3 [int n])]) (.d (.tup [])) (hlst [(501, .box 3 [int (n + 1)])]) := by
  refine MC.of_body (tyOf_good _) Tryd.func52 rfl rfl (rs := []) Tryd.results52 (by simp [Tryd.ntmps52]) rfl fun X => ?_
  simp only [Tryd.ntmps52]
  refine AW_re (tyOf_good _) fun K' hK' => ?_
  repeat (refine sxf_next fun K2 hK2 => ?_; simp [dNum, dS, pairA, assertA]; (repeat (refine ⟨by omega, ?_⟩)); refine hK2 _ ?_; clear hK2 K2)
  refine sxf_nil (hK' _ ?_)
  clear hK' K'
  try simp only [thn, inb]
  simp [D.le_refl]

set_option maxHeartbeats 16000000 in
theorem walkS_at (G : Glob) : ∀ (m : Nat) (e : Ex), SizeOf.sizeOf e ≤ m → ∀ n : Int, 0 ≤ n → n + bE e ≤ 2^50 → MC Tryd.prog G [501] 51 [.d (dE e), .fn (.func 52) [.ref 501 0 0]] (hlst [(501, .box 3 [int n])]) (.d (.tup [])) (hlst [(501, .box 3 [int (n + szN e)])]) := by
  intro m
  induction m with
  | zero => intro e hsz; cases e <;> simp at hsz
  | succ m ih =>
    intro e hsz n h0 hb
    have hbp := bE_pos e
    by_cases hN : ∃ x, e = .not x
    · obtain ⟨x, rfl⟩ := hN
      simp only [bE] at hb
      obtain ⟨tx, cx, hx⟩ := dE_ifc x
      have hs1 := size1_spec G n h0 (by omega) 109 (.agg [dE x])
      have hc := ih x (by simp at hsz; omega) (n + 1) (by omega) (by omega)
      have hsz2 : (n + (szN (.not x) : Nat) : Int) = n + 1 + (szN x : Nat) := by simp only [szN]; omega
      rw [hsz2]
      rw [dE, hx]
      rw [hx] at hs1 hc
      generalize ((szN x : Nat) : Int) = z at hc ⊢
      refine MC.of_body (tyOf_good _) Tryd.func51 rfl rfl (rs := []) Tryd.results51 (by simp [Tryd.ntmps51]) rfl fun X => ?_
      simp only [Tryd.ntmps51]
      refine AW_rg (tyOf_good _) [0, 1] [501] (notIn_ok rfl) fun K' hK' => ?_
      repeat (refine sxf_next fun K2 hK2 => ?_; simp [dNum, dS, pairA, assertA]; (repeat (refine ⟨by omega, ?_⟩)); refine hK2 _ ?_; clear hK2 K2)
      refine sxf_next fun K2 hK2 => ?_
      simp [dNum, dS, pairA, assertA]
      refine callK.mc (hs1) (by simp [dNum, dS, pairA, assertA]) (by simp [dNum, dS, pairA, assertA]) (by simp [dNum, dS, pairA, assertA]) (by simp [dNum, dS, pairA, assertA]) ?_
      simp [dNum, dS, pairA, assertA]
      refine hK2 _ ?_
      clear hK2 K2
      repeat (refine sxf_next fun K2 hK2 => ?_; simp [dNum, dS, pairA, assertA]; (repeat (refine ⟨by omega, ?_⟩)); refine hK2 _ ?_; clear hK2 K2)
      refine sxf_nil (hK' _ ?_)
      refine AW.st (by simp [dNum, dS, pairA, assertA]; rfl) ?_
      clear hK' K'
      refine AW_rg (tyOf_good _) [1, 14] [501] (notIn_ok rfl) fun K' hK' => ?_
      repeat (refine sxf_next fun K2 hK2 => ?_; simp [dNum, dS, pairA, assertA]; (repeat (refine ⟨by omega, ?_⟩)); refine hK2 _ ?_; clear hK2 K2)
      refine sxf_nil (hK' _ ?_)
      refine AW.st (by simp [dNum, dS, pairA, assertA]; rfl) ?_
      clear hK' K'
      refine AW_block ?_
      refine AW_rg (tyOf_good _) [1, 14, 16, 17] [501] (notIn_ok rfl) fun K' hK' => ?_
      repeat (refine sxf_next fun K2 hK2 => ?_; simp [dNum, dS, pairA, assertA]; (repeat (refine ⟨by omega, ?_⟩)); refine hK2 _ ?_; clear hK2 K2)
      refine sxf_nil (hK' _ ?_)
      refine AW.st (by simp [dNum, dS, pairA, assertA]; rfl) ?_
      clear hK' K'
      refine AW_cond true rfl (fun _ => ?_) (fun h => by cases h)
      refine AW_rg (tyOf_good _) [1, 4] [4, 501] (notIn_ok rfl) fun K' hK' => ?_
      repeat (refine sxf_next fun K2 hK2 => ?_; simp [dNum, dS, pairA, assertA]; (repeat (refine ⟨by omega, ?_⟩)); refine hK2 _ ?_; clear hK2 K2)
      refine sxf_nil (hK' _ ?_)
      refine AW.st (by simp [dNum, dS, pairA, assertA]; rfl) ?_
      clear hK' K'
      refine AW_re (tyOf_good _) fun K' hK' => ?_
      repeat (refine sxf_next fun K2 hK2 => ?_; simp [dNum, dS, pairA, assertA]; (repeat (refine ⟨by omega, ?_⟩)); refine hK2 _ ?_; clear hK2 K2)
      refine sxf_next fun K2 hK2 => ?_
      simp [dNum, dS, pairA, assertA]
      refine callK.mc (hc) (by simp [dNum, dS, pairA, assertA]) (by simp [dNum, dS, pairA, assertA]) (by simp [dNum, dS, pairA, assertA]) (by simp [dNum, dS, pairA, assertA]) ?_
      simp [dNum, dS, pairA, assertA]
      refine hK2 _ ?_
      clear hK2 K2
      repeat (refine sxf_next fun K2 hK2 => ?_; simp [dNum, dS, pairA, assertA]; (repeat (refine ⟨by omega, ?_⟩)); refine hK2 _ ?_; clear hK2 K2)
      refine sxf_nil (hK' _ ?_)
      clear hK' K'
      try simp only [thn, inb]
      simp [D.le_refl]
    by_cases hand : ∃ l, e = .and l
    · obtain ⟨l, rfl⟩ := hand
      simp only [bE] at hb
      have hs1 := size1_spec G n h0 (by omega) 111 (.sl none (l.map fun e => [dE e]))
      have hch := fun (x : Ex) (hx : x ∈ l) => ih x (by have := List.sizeOf_lt_of_mem hx; simp only [Ex.and.sizeOf_spec] at hsz; omega)
      have hln := bEs_len l
      have hsb := szNs_bs l
      have hsz2 : (n + (szN (.and l) : Nat) : Int) = n + 1 + (szNs l : Nat) := by simp only [szN]; omega
      rw [hsz2]
      rw [dE, dEs_map]
      clear ih
      refine MC.of_body (tyOf_good _) Tryd.func51 rfl rfl (rs := []) Tryd.results51 (by simp [Tryd.ntmps51]) rfl fun X => ?_
      simp only [Tryd.ntmps51]
      refine AW_rg (tyOf_good _) [0, 1] [501] (notIn_ok rfl) fun K' hK' => ?_
      repeat (refine sxf_next fun K2 hK2 => ?_; simp [dNum, dS, pairA, assertA]; (repeat (refine ⟨by omega, ?_⟩)); refine hK2 _ ?_; clear hK2 K2)
      refine sxf_next fun K2 hK2 => ?_
      simp [dNum, dS, pairA, assertA]
      refine callK.mc (hs1) (by simp [dNum, dS, pairA, assertA]) (by simp [dNum, dS, pairA, assertA]) (by simp [dNum, dS, pairA, assertA]) (by simp [dNum, dS, pairA, assertA]) ?_
      simp [dNum, dS, pairA, assertA]
      refine hK2 _ ?_
      clear hK2 K2
      repeat (refine sxf_next fun K2 hK2 => ?_; simp [dNum, dS, pairA, assertA]; (repeat (refine ⟨by omega, ?_⟩)); refine hK2 _ ?_; clear hK2 K2)
      refine sxf_nil (hK' _ ?_)
      refine AW.st (by simp [dNum, dS, pairA, assertA]; rfl) ?_
      clear hK' K'
      refine AW_rg (tyOf_good _) [1, 14] [501] (notIn_ok rfl) fun K' hK' => ?_
      repeat (refine sxf_next fun K2 hK2 => ?_; simp [dNum, dS, pairA, assertA]; (repeat (refine ⟨by omega, ?_⟩)); refine hK2 _ ?_; clear hK2 K2)
      refine sxf_nil (hK' _ ?_)
      refine AW.st (by simp [dNum, dS, pairA, assertA]; rfl) ?_
      clear hK' K'
      refine AW_block ?_
      refine AW_rg (tyOf_good _) [1, 14, 16, 17] [501] (notIn_ok rfl) fun K' hK' => ?_
      repeat (refine sxf_next fun K2 hK2 => ?_; simp [dNum, dS, pairA, assertA]; (repeat (refine ⟨by omega, ?_⟩)); refine hK2 _ ?_; clear hK2 K2)
      refine sxf_nil (hK' _ ?_)
      refine AW.st (by simp [dNum, dS, pairA, assertA]; rfl) ?_
      clear hK' K'
      refine AW_cond false rfl (fun h => by cases h) (fun _ => ?_)
      refine AW_rg (tyOf_good _) [1, 14, 23, 24] [501] (notIn_ok rfl) fun K' hK' => ?_
      repeat (refine sxf_next fun K2 hK2 => ?_; simp [dNum, dS, pairA, assertA]; (repeat (refine ⟨by omega, ?_⟩)); refine hK2 _ ?_; clear hK2 K2)
      refine sxf_nil (hK' _ ?_)
      refine AW.st (by simp [dNum, dS, pairA, assertA]; rfl) ?_
      clear hK' K'
      refine AW_cond true rfl (fun _ => ?_) (fun h => by cases h)
      refine AW_rg (tyOf_good _) [1, 5] [501] (notIn_ok rfl) fun K' hK' => ?_
      repeat (refine sxf_next fun K2 hK2 => ?_; simp [dNum, dS, pairA, assertA]; (repeat (refine ⟨by omega, ?_⟩)); refine hK2 _ ?_; clear hK2 K2)
      refine sxf_nil (hK' _ ?_)
      refine AW.st (by simp [dNum, dS, pairA, assertA]; rfl) ?_
      clear hK' K'
      refine AW_rg (tyOf_good _) [1, 25, 26, 27] [501] (notIn_ok rfl) fun K' hK' => ?_
      repeat (refine sxf_next fun K2 hK2 => ?_; simp [dNum, dS, pairA, assertA]; (repeat (refine ⟨by omega, ?_⟩)); refine hK2 _ ?_; clear hK2 K2)
      refine sxf_nil (hK' _ ?_)
      refine AW.st (by simp [dNum, dS, pairA, assertA]; rfl) ?_
      clear hK' K'
      refine AW_for (S := Nat) (fun i => i ≤ l.length) (fun i => ⟨lst [(1, .fn (.func 52) [.ref 501 0 0]), (25, .d (.sl none (l.map fun e => [dE e]))), (26, int l.length), (27, int i)], hlst [(501, .box 3 [int (n + 1 + (szNs (l.take i) : Nat))])]⟩) (fun i => l.length - i) 0 ?_ (by omega) ?_
      · refine Imp.to' (notIn_ok rfl) (by simp [dNum, dS, pairA, assertA, szNs]) (by simp [dNum, dS, pairA, assertA, szNs])
      · intro i hi
        refine AW_rg (tyOf_good _) [1, 25, 26, 27, 28] [501] (notIn_ok rfl) fun K' hK' => ?_
        repeat (refine sxf_next fun K2 hK2 => ?_; simp [dNum, dS, pairA, assertA]; (repeat (refine ⟨by omega, ?_⟩)); refine hK2 _ ?_; clear hK2 K2)
        refine sxf_nil (hK' _ ?_)
        refine AW.st (by simp [dNum, dS, pairA, assertA]; rfl) ?_
        clear hK' K'
        refine AW_then fun K1 hK1 => ?_
        refine AW_cond' (b := i < l.length) (by simp [D.le, D.le.go, takeMap, dNum, dS, pairA, assertA]) (fun hc => ?_) (fun hc => ?_)
        · have hil : i < l.length := hc
          have h1 := szNs_take hil
          have h2 := szNs_bs (l.take i)
          have h3 := bEs_take hil
          have hcc := hch _ (List.getElem_mem hil) (n + 1 + (szNs (l.take i) : Nat)) (by omega) (by omega)
          have h4 : (n + 1 + (szNs (l.take i) : Nat) : Int) + (szN l[i] : Nat) = n + 1 + (szNs (l.take (i + 1)) : Nat) := by omega
          rw [h4] at hcc
          obtain ⟨tx, cx, hx⟩ := dE_ifc l[i]
          rw [hx] at hcc
          refine AW_skip (hK1 _ ?_)
          refine AW_then fun K2 hK2 => ?_
          refine AW_block ?_
          refine AW_rg (tyOf_good _) [1, 7, 25, 26, 27] [501] (notIn_ok rfl) fun K' hK' => ?_
          repeat (refine sxf_next fun K2 hK2 => ?_; simp [dNum, dS, pairA, assertA, hil, hx]; (repeat (refine ⟨by omega, ?_⟩)); refine hK2 _ ?_; clear hK2 K2)
          refine sxf_nil (hK' _ ?_)
          refine AW.st (by simp [dNum, dS, pairA, assertA, hil, hx]; rfl) ?_
          clear hK' K'
          refine AW_re (tyOf_good _) fun K' hK' => ?_
          repeat (refine sxf_next fun K2 hK2 => ?_; simp [dNum, dS, pairA, assertA]; (repeat (refine ⟨by omega, ?_⟩)); refine hK2 _ ?_; clear hK2 K2)
          refine sxf_next fun K2 hK2 => ?_
          simp [dNum, dS, pairA, assertA]
          refine callK.mc (hcc) (by simp [dNum, dS, pairA, assertA]) (by simp [dNum, dS, pairA, assertA]) (by simp [dNum, dS, pairA, assertA]) (by simp [dNum, dS, pairA, assertA]) ?_
          simp [dNum, dS, pairA, assertA]
          refine hK2 _ ?_
          clear hK2 K2
          repeat (refine sxf_next fun K2 hK2 => ?_; simp [dNum, dS, pairA, assertA]; (repeat (refine ⟨by omega, ?_⟩)); refine hK2 _ ?_; clear hK2 K2)
          refine sxf_nil (hK' _ ?_)
          clear hK' K'
          refine hK2 _ (AW.norm [1, 25, 26, 27] [501] (notIn_ok rfl) (AW.st (by simp [dNum, dS, pairA, assertA]; rfl) ?_))
          refine AW_re (tyOf_good _) fun K' hK' => ?_
          repeat (refine sxf_next fun K2 hK2 => ?_; simp [dNum, dS, pairA, assertA]; (repeat (refine ⟨by omega, ?_⟩)); refine hK2 _ ?_; clear hK2 K2)
          refine sxf_nil (hK' _ ?_)
          clear hK' K'
          try simp only [thn, inb]
          refine Again.mk (i + 1) (by omega) (by omega) ?_
          refine Imp.to' (notIn_ok rfl) (by simp [dNum, dS, pairA, assertA]) (by simp [dNum, dS, pairA, assertA])
        · obtain rfl : i = l.length := by omega
          refine AW_exit ?_
          simp [D.le_refl, List.take_length]
    by_cases hor : ∃ l, e = .or l
    · obtain ⟨l, rfl⟩ := hor
      simp only [bE] at hb
      have hs1 := size1_spec G n h0 (by omega) 114 (.sl none (l.map fun e => [dE e]))
      have hch := fun (x : Ex) (hx : x ∈ l) => ih x (by have := List.sizeOf_lt_of_mem hx; simp only [Ex.or.sizeOf_spec] at hsz; omega)
      have hln := bEs_len l
      have hsb := szNs_bs l
      have hsz2 : (n + (szN (.or l) : Nat) : Int) = n + 1 + (szNs l : Nat) := by simp only [szN]; omega
      rw [hsz2]
      rw [dE, dEs_map]
      clear ih
      refine MC.of_body (tyOf_good _) Tryd.func51 rfl rfl (rs := []) Tryd.results51 (by simp [Tryd.ntmps51]) rfl fun X => ?_
      simp only [Tryd.ntmps51]
      refine AW_rg (tyOf_good _) [0, 1] [501] (notIn_ok rfl) fun K' hK' => ?_
      repeat (refine sxf_next fun K2 hK2 => ?_; simp [dNum, dS, pairA, assertA]; (repeat (refine ⟨by omega, ?_⟩)); refine hK2 _ ?_; clear hK2 K2)
      refine sxf_next fun K2 hK2 => ?_
      simp [dNum, dS, pairA, assertA]
      refine callK.mc (hs1) (by simp [dNum, dS, pairA, assertA]) (by simp [dNum, dS, pairA, assertA]) (by simp [dNum, dS, pairA, assertA]) (by simp [dNum, dS, pairA, assertA]) ?_
      simp [dNum, dS, pairA, assertA]
      refine hK2 _ ?_
      clear hK2 K2
      repeat (refine sxf_next fun K2 hK2 => ?_; simp [dNum, dS, pairA, assertA]; (repeat (refine ⟨by omega, ?_⟩)); refine hK2 _ ?_; clear hK2 K2)
      refine sxf_nil (hK' _ ?_)
      refine AW.st (by simp [dNum, dS, pairA, assertA]; rfl) ?_
      clear hK' K'
      refine AW_rg (tyOf_good _) [1, 14] [501] (notIn_ok rfl) fun K' hK' => ?_
      repeat (refine sxf_next fun K2 hK2 => ?_; simp [dNum, dS, pairA, assertA]; (repeat (refine ⟨by omega, ?_⟩)); refine hK2 _ ?_; clear hK2 K2)
      refine sxf_nil (hK' _ ?_)
      refine AW.st (by simp [dNum, dS, pairA, assertA]; rfl) ?_
      clear hK' K'
      refine AW_block ?_
      refine AW_rg (tyOf_good _) [1, 14, 16, 17] [501] (notIn_ok rfl) fun K' hK' => ?_
      repeat (refine sxf_next fun K2 hK2 => ?_; simp [dNum, dS, pairA, assertA]; (repeat (refine ⟨by omega, ?_⟩)); refine hK2 _ ?_; clear hK2 K2)
      refine sxf_nil (hK' _ ?_)
      refine AW.st (by simp [dNum, dS, pairA, assertA]; rfl) ?_
      clear hK' K'
      refine AW_cond false rfl (fun h => by cases h) (fun _ => ?_)
      refine AW_rg (tyOf_good _) [1, 14, 23, 24] [501] (notIn_ok rfl) fun K' hK' => ?_
      repeat (refine sxf_next fun K2 hK2 => ?_; simp [dNum, dS, pairA, assertA]; (repeat (refine ⟨by omega, ?_⟩)); refine hK2 _ ?_; clear hK2 K2)
      refine sxf_nil (hK' _ ?_)
      refine AW.st (by simp [dNum, dS, pairA, assertA]; rfl) ?_
      clear hK' K'
      refine AW_cond false rfl (fun h => by cases h) (fun _ => ?_)
      refine AW_rg (tyOf_good _) [1, 36, 37] [501] (notIn_ok rfl) fun K' hK' => ?_
      repeat (refine sxf_next fun K2 hK2 => ?_; simp [dNum, dS, pairA, assertA]; (repeat (refine ⟨by omega, ?_⟩)); refine hK2 _ ?_; clear hK2 K2)
      refine sxf_nil (hK' _ ?_)
      refine AW.st (by simp [dNum, dS, pairA, assertA]; rfl) ?_
      clear hK' K'
      refine AW_cond true rfl (fun _ => ?_) (fun h => by cases h)
      refine AW_rg (tyOf_good _) [1, 8] [501] (notIn_ok rfl) fun K' hK' => ?_
      repeat (refine sxf_next fun K2 hK2 => ?_; simp [dNum, dS, pairA, assertA]; (repeat (refine ⟨by omega, ?_⟩)); refine hK2 _ ?_; clear hK2 K2)
      refine sxf_nil (hK' _ ?_)
      refine AW.st (by simp [dNum, dS, pairA, assertA]; rfl) ?_
      clear hK' K'
      refine AW_rg (tyOf_good _) [1, 38, 39, 40] [501] (notIn_ok rfl) fun K' hK' => ?_
      repeat (refine sxf_next fun K2 hK2 => ?_; simp [dNum, dS, pairA, assertA]; (repeat (refine ⟨by omega, ?_⟩)); refine hK2 _ ?_; clear hK2 K2)
      refine sxf_nil (hK' _ ?_)
      refine AW.st (by simp [dNum, dS, pairA, assertA]; rfl) ?_
      clear hK' K'
      refine AW_for (S := Nat) (fun i => i ≤ l.length) (fun i => ⟨lst [(1, .fn (.func 52) [.ref 501 0 0]), (38, .d (.sl none (l.map fun e => [dE e]))), (39, int l.length), (40, int i)], hlst [(501, .box 3 [int (n + 1 + (szNs (l.take i) : Nat))])]⟩) (fun i => l.length - i) 0 ?_ (by omega) ?_
      · refine Imp.to' (notIn_ok rfl) (by simp [dNum, dS, pairA, assertA, szNs]) (by simp [dNum, dS, pairA, assertA, szNs])
      · intro i hi
        refine AW_rg (tyOf_good _) [1, 38, 39, 40, 41] [501] (notIn_ok rfl) fun K' hK' => ?_
        repeat (refine sxf_next fun K2 hK2 => ?_; simp [dNum, dS, pairA, assertA]; (repeat (refine ⟨by omega, ?_⟩)); refine hK2 _ ?_; clear hK2 K2)
        refine sxf_nil (hK' _ ?_)
        refine AW.st (by simp [dNum, dS, pairA, assertA]; rfl) ?_
        clear hK' K'
        refine AW_then fun K1 hK1 => ?_
        refine AW_cond' (b := i < l.length) (by simp [D.le, D.le.go, takeMap, dNum, dS, pairA, assertA]) (fun hc => ?_) (fun hc => ?_)
        · have hil : i < l.length := hc
          have h1 := szNs_take hil
          have h2 := szNs_bs (l.take i)
          have h3 := bEs_take hil
          have hcc := hch _ (List.getElem_mem hil) (n + 1 + (szNs (l.take i) : Nat)) (by omega) (by omega)
          have h4 : (n + 1 + (szNs (l.take i) : Nat) : Int) + (szN l[i] : Nat) = n + 1 + (szNs (l.take (i + 1)) : Nat) := by omega
          rw [h4] at hcc
          obtain ⟨tx, cx, hx⟩ := dE_ifc l[i]
          rw [hx] at hcc
          refine AW_skip (hK1 _ ?_)
          refine AW_then fun K2 hK2 => ?_
          refine AW_block ?_
          refine AW_rg (tyOf_good _) [1, 10, 38, 39, 40] [501] (notIn_ok rfl) fun K' hK' => ?_
          repeat (refine sxf_next fun K2 hK2 => ?_; simp [dNum, dS, pairA, assertA, hil, hx]; (repeat (refine ⟨by omega, ?_⟩)); refine hK2 _ ?_; clear hK2 K2)
          refine sxf_nil (hK' _ ?_)
          refine AW.st (by simp [dNum, dS, pairA, assertA, hil, hx]; rfl) ?_
          clear hK' K'
          refine AW_re (tyOf_good _) fun K' hK' => ?_
          repeat (refine sxf_next fun K2 hK2 => ?_; simp [dNum, dS, pairA, assertA]; (repeat (refine ⟨by omega, ?_⟩)); refine hK2 _ ?_; clear hK2 K2)
          refine sxf_next fun K2 hK2 => ?_
          simp [dNum, dS, pairA, assertA]
          refine callK.mc (hcc) (by simp [dNum, dS, pairA, assertA]) (by simp [dNum, dS, pairA, assertA]) (by simp [dNum, dS, pairA, assertA]) (by simp [dNum, dS, pairA, assertA]) ?_
          simp [dNum, dS, pairA, assertA]
          refine hK2 _ ?_
          clear hK2 K2
          repeat (refine sxf_next fun K2 hK2 => ?_; simp [dNum, dS, pairA, assertA]; (repeat (refine ⟨by omega, ?_⟩)); refine hK2 _ ?_; clear hK2 K2)
          refine sxf_nil (hK' _ ?_)
          clear hK' K'
          refine hK2 _ (AW.norm [1, 38, 39, 40] [501] (notIn_ok rfl) (AW.st (by simp [dNum, dS, pairA, assertA]; rfl) ?_))
          refine AW_re (tyOf_good _) fun K' hK' => ?_
          repeat (refine sxf_next fun K2 hK2 => ?_; simp [dNum, dS, pairA, assertA]; (repeat (refine ⟨by omega, ?_⟩)); refine hK2 _ ?_; clear hK2 K2)
          refine sxf_nil (hK' _ ?_)
          clear hK' K'
          try simp only [thn, inb]
          refine Again.mk (i + 1) (by omega) (by omega) ?_
          refine Imp.to' (notIn_ok rfl) (by simp [dNum, dS, pairA, assertA]) (by simp [dNum, dS, pairA, assertA])
        · obtain rfl : i = l.length := by omega
          refine AW_exit ?_
          simp [D.le_refl, List.take_length]
    have hk : ∃ t c, dE e = .ifc t c ∧ ¬ t = 109 ∧ ¬ t = 111 ∧ ¬ t = 114 ∧ szN e = 1 := by
      cases e with
      | not z => exact absurd ⟨z, rfl⟩ hN
      | and l => exact absurd ⟨l, rfl⟩ hand
      | or l => exact absurd ⟨l, rfl⟩ hor
      | cst b => exact ⟨_, _, by rw [dE], by decide, by decide, by decide, rfl⟩
      | bit s => exact ⟨_, _, by rw [dE], by decide, by decide, by decide, rfl⟩
      | rise s => exact ⟨_, _, by rw [dE], by decide, by decide, by decide, rfl⟩
      | fall s => exact ⟨_, _, by rw [dE], by decide, by decide, by decide, rfl⟩
    obtain ⟨t, c, hy, h1, h2, h3, h4⟩ := hk
    have hs1 := size1_spec G n h0 (by omega) t c
    have h5 : ((szN e : Nat) : Int) = 1 := by omega
    rw [h5, hy]
    refine MC.of_body (tyOf_good _) Tryd.func51 rfl rfl (rs := []) Tryd.results51 (by simp [Tryd.ntmps51]) rfl fun X => ?_
    simp only [Tryd.ntmps51]
    refine AW_rg (tyOf_good _) [0, 1] [501] (notIn_ok rfl) fun K' hK' => ?_
    repeat (refine sxf_next fun K2 hK2 => ?_; simp [dNum, dS, pairA, assertA]; (repeat (refine ⟨by omega, ?_⟩)); refine hK2 _ ?_; clear hK2 K2)
    refine sxf_next fun K2 hK2 => ?_
    simp [dNum, dS, pairA, assertA]
    refine callK.mc (hs1) (by simp [dNum, dS, pairA, assertA]) (by simp [dNum, dS, pairA, assertA]) (by simp [dNum, dS, pairA, assertA]) (by simp [dNum, dS, pairA, assertA]) ?_
    simp [dNum, dS, pairA, assertA]
    refine hK2 _ ?_
    clear hK2 K2
    repeat (refine sxf_next fun K2 hK2 => ?_; simp [dNum, dS, pairA, assertA]; (repeat (refine ⟨by omega, ?_⟩)); refine hK2 _ ?_; clear hK2 K2)
    refine sxf_nil (hK' _ ?_)
    refine AW.st (by simp [dNum, dS, pairA, assertA]; rfl) ?_
    clear hK' K'
    refine AW_rg (tyOf_good _) [1, 14] [501] (notIn_ok rfl) fun K' hK' => ?_
    repeat (refine sxf_next fun K2 hK2 => ?_; simp [dNum, dS, pairA, assertA]; (repeat (refine ⟨by omega, ?_⟩)); refine hK2 _ ?_; clear hK2 K2)
    refine sxf_nil (hK' _ ?_)
    refine AW.st (by simp [dNum, dS, pairA, assertA]; rfl) ?_
    clear hK' K'
    refine AW_block ?_
    refine AW_rg (tyOf_good _) [1, 14, 16, 17] [501] (notIn_ok rfl) fun K' hK' => ?_
    repeat (refine sxf_next fun K2 hK2 => ?_; simp [dNum, dS, pairA, assertA, h1]; (repeat (refine ⟨by omega, ?_⟩)); refine hK2 _ ?_; clear hK2 K2)
    refine sxf_nil (hK' _ ?_)
    refine AW.st (by simp [dNum, dS, pairA, assertA, h1]; rfl) ?_
    clear hK' K'
    refine AW_cond false rfl (fun h => by cases h) (fun _ => ?_)
    refine AW_rg (tyOf_good _) [1, 14, 23, 24] [501] (notIn_ok rfl) fun K' hK' => ?_
    repeat (refine sxf_next fun K2 hK2 => ?_; simp [dNum, dS, pairA, assertA, h2]; (repeat (refine ⟨by omega, ?_⟩)); refine hK2 _ ?_; clear hK2 K2)
    refine sxf_nil (hK' _ ?_)
    refine AW.st (by simp [dNum, dS, pairA, assertA, h2]; rfl) ?_
    clear hK' K'
    refine AW_cond false rfl (fun h => by cases h) (fun _ => ?_)
    refine AW_rg (tyOf_good _) [1, 36, 37] [501] (notIn_ok rfl) fun K' hK' => ?_
    repeat (refine sxf_next fun K2 hK2 => ?_; simp [dNum, dS, pairA, assertA, h3]; (repeat (refine ⟨by omega, ?_⟩)); refine hK2 _ ?_; clear hK2 K2)
    refine sxf_nil (hK' _ ?_)
    refine AW.st (by simp [dNum, dS, pairA, assertA, h3]; rfl) ?_
    clear hK' K'
    refine AW_cond false rfl (fun h => by cases h) (fun _ => ?_)
    refine AW_skip ?_
    simp [D.le_refl]

set_option maxHeartbeats 4000000 in
theorem size_spec (G : Glob) (e : Ex) (hb : bE e ≤ 2^28) : PureC Tryd.prog G 20 [dE e] (dNum (szN e)) := by
  have hw := walkS_at G _ e (Nat.le_refl _) 0 (by omega) (by omega)
  obtain ⟨tx, cx, hx⟩ := dE_ifc e
  rw [hx] at hw ⊢
  rw [Int.zero_add] at hw
  generalize ((szN e : Nat) : Int) = z at hw ⊢
  refine PureC.of_body (tyOf_good _) Tryd.func20 rfl rfl (rs := [.tmp 2]) Tryd.results20 (by simp [Tryd.ntmps20]) fun X => ?_
  simp only [Tryd.ntmps20, List.map]
  refine AW_rg (tyOf_good _) [0] [] (fun _ _ => trivial) fun K' hK' => ?_
  repeat (refine sxf_next fun K2 hK2 => ?_; simp [dNum, dS, pairA, assertA]; (repeat (refine ⟨by omega, ?_⟩)); refine hK2 _ ?_; clear hK2 K2)
  refine sxf_nil (hK' _ ?_)
  refine AW.st (by simp [dNum, dS, pairA, assertA]; rfl) ?_
  clear hK' K'
  refine AW_rg (tyOf_good _) [0, 3] [3] (fun _ _ => trivial) fun K' hK' => ?_
  repeat (refine sxf_next fun K2 hK2 => ?_; simp [dNum, dS, pairA, assertA]; (repeat (refine ⟨by omega, ?_⟩)); refine hK2 _ ?_; clear hK2 K2)
  refine sxf_nil (hK' _ ?_)
  refine AW.st (by simp [dNum, dS, pairA, assertA]; rfl) ?_
  clear hK' K'
  refine AW.imp (Imp.ren (r := 3) (r' := 501) trivial (by simp)) ?_
  refine AW.st (by simp [renO, renF, Go.Av.ren, renH_one]; rfl) ?_
  refine AW_rg (tyOf_good _) [3] [501] (fun _ _ => trivial) fun K' hK' => ?_
  repeat (refine sxf_next fun K2 hK2 => ?_; simp [dNum, dS, pairA, assertA]; (repeat (refine ⟨by omega, ?_⟩)); refine hK2 _ ?_; clear hK2 K2)
  refine sxf_next fun K2 hK2 => ?_
  simp [dNum, dS, pairA, assertA]
  refine callK.mc (hw) (by simp [dNum, dS, pairA, assertA]) (by simp [dNum, dS, pairA, assertA]) (by simp [dNum, dS, pairA, assertA]) (by simp [dNum, dS, pairA, assertA]) ?_
  simp [dNum, dS, pairA, assertA]
  refine hK2 _ ?_
  clear hK2 K2
  repeat (refine sxf_next fun K2 hK2 => ?_; simp [dNum, dS, pairA, assertA]; (repeat (refine ⟨by omega, ?_⟩)); refine hK2 _ ?_; clear hK2 K2)
  refine sxf_nil (hK' _ ?_)
  refine AW.st (by simp [dNum, dS, pairA, assertA]; rfl) ?_
  clear hK' K'
  refine AW_rg (tyOf_good _) [2] [501] (fun _ _ => trivial) fun K' hK' => ?_
  repeat (refine sxf_next fun K2 hK2 => ?_; simp [dNum, dS, pairA, assertA]; (repeat (refine ⟨by omega, ?_⟩)); refine hK2 _ ?_; clear hK2 K2)
  refine sxf_nil (hK' _ ?_)
  refine AW.st (by simp [dNum, dS, pairA, assertA]; rfl) ?_
  clear hK' K'
  refine AW_ret ?_
  simp [D.le, D.le.go, takeMap, dNum, dS, pairA, assertA]
end Go.Proofs.YtfehigldhedkgaaDoor
