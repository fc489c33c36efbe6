/-
  Texts that belong together, in one file: V4, A7, V5, R1.
-/
import Derived.Test.YtfehigldhedkgaaDoorEd15
/-
  The document's other, and Tidy.
-/
namespace Go.Proofs.YtfehigldhedkgaaDoor
set_option linter.unusedSimpArgs false
set_option linter.unusedVariables false
open Go.Av

structure LaterV (T : Prop) : Prop where
  out : T
theorem lateV {T U : Prop} (h : LaterV T → U) (t : T) : U := h ⟨t⟩
theorem l48 : (⟨#[48]⟩ : ByteArray) = bs [48] := rfl
theorem l49 : (⟨#[49]⟩ : ByteArray) = bs [49] := rfl
theorem kd_not {x : Ex} (h : isN x = false) : ¬ kdR x = [33] := by
  cases x with
  | not y => cases h
  | cst b => cases b <;> simp [kdR]
  | _ => simp [kdR]
theorem dR_grp (and : Bool) (l : List Ex) : dR (grp and l) = .ip [dS [if and then 38 else 124], dS [], .sl none (l.map fun e => [dR e])] := by cases and <;> simp [grp, dR, dRs_map]

set_option maxHeartbeats 4000000 in
theorem rother_spec (G : Glob) (x : Ex) : PureC Tryd.prog G 59 [dR x] (dR (othE x)) := by
  by_cases hN : ∃ y, x = .not y
  · obtain ⟨y, rfl⟩ := hN
    obtain ⟨c, hy⟩ := dR_ip y
    show PureC _ _ _ _ (dR y)
    rw [dR, hy]
    refine PureC.of_body (tyOf_good _) Tryd.func59 rfl rfl (rs := [.tmp 2]) Tryd.results59 (by simp [Tryd.ntmps59]) fun X => ?_
    simp only [Tryd.ntmps59, List.map]
    refine AW_rg (tyOf_good _) [0] [] (fun _ _ => trivial) fun K' hK' => ?_
    repeat (refine sxf_next fun K2 hK2 => ?_; simp [dNum, dS, binS_eq]; (repeat (refine ⟨by omega, ?_⟩)); refine hK2 _ ?_; clear hK2 K2)
    refine sxf_nil (hK' _ ?_)
    refine AW.st (by simp [dNum, dS, binS_eq]; rfl) ?_
    clear hK' K'
    refine AW_then fun K1 hK1 => ?_
    refine AW_rg (tyOf_good _) [0, 7] [] (fun _ _ => trivial) fun K' hK' => ?_
    repeat (refine sxf_next fun K2 hK2 => ?_; simp [dNum, dS, binS_eq]; (repeat (refine ⟨by omega, ?_⟩)); refine hK2 _ ?_; clear hK2 K2)
    refine sxf_nil (hK' _ ?_)
    refine AW.st (by simp [dNum, dS, binS_eq]; rfl) ?_
    clear hK' K'
    refine AW_cond true rfl (fun _ => ?_) (fun h => by cases h)
    refine AW_rg (tyOf_good _) [2] [] (fun _ _ => trivial) fun K' hK' => ?_
    repeat (refine sxf_next fun K2 hK2 => ?_; simp [dNum, dS, binS_eq]; (repeat (refine ⟨by omega, ?_⟩)); refine hK2 _ ?_; clear hK2 K2)
    refine sxf_nil (hK' _ ?_)
    refine AW.st (by simp [dNum, dS, binS_eq]; rfl) ?_
    clear hK' K'
    refine AW_ret ?_
    simp [D.le, D.le.go, takeMap, dNum, dS, binS_eq, D.le_refl, D.leGo_refl]
  · have hn : isN x = false := by
      cases x with
      | not y => exact absurd ⟨y, rfl⟩ hN
      | _ => rfl
    have hk := kd_not hn
    rw [oth_text hn, dR, dR_form x]
    refine PureC.of_body (tyOf_good _) Tryd.func59 rfl rfl (rs := [.tmp 2]) Tryd.results59 (by simp [Tryd.ntmps59]) fun X => ?_
    simp only [Tryd.ntmps59, List.map]
    refine AW_rg (tyOf_good _) [0] [] (fun _ _ => trivial) fun K' hK' => ?_
    repeat (refine sxf_next fun K2 hK2 => ?_; simp [dNum, dS, binS_eq]; (repeat (refine ⟨by omega, ?_⟩)); refine hK2 _ ?_; clear hK2 K2)
    refine sxf_nil (hK' _ ?_)
    refine AW.st (by simp [dNum, dS, binS_eq]; rfl) ?_
    clear hK' K'
    refine AW_then fun K1 hK1 => ?_
    refine AW_rg (tyOf_good _) [0, 7] [] (fun _ _ => trivial) fun K' hK' => ?_
    repeat (refine sxf_next fun K2 hK2 => ?_; simp [dNum, dS, binS_eq, hk]; (repeat (refine ⟨by omega, ?_⟩)); refine hK2 _ ?_; clear hK2 K2)
    refine sxf_nil (hK' _ ?_)
    refine AW.st (by simp [dNum, dS, binS_eq, hk]; rfl) ?_
    clear hK' K'
    refine AW_cond false rfl (fun h => by cases h) (fun _ => ?_)
    refine AW_skip (hK1 _ ?_)
    refine AW_rg (tyOf_good _) [2] [15, 17] (fun _ _ => trivial) fun K' hK' => ?_
    repeat (refine sxf_next fun K2 hK2 => ?_; simp [dNum, dS, binS_eq, l33]; (repeat (refine ⟨by omega, ?_⟩)); refine hK2 _ ?_; clear hK2 K2)
    refine sxf_nil (hK' _ ?_)
    refine AW.st (by simp [dNum, dS, binS_eq, l33]; rfl) ?_
    clear hK' K'
    refine AW.imp (Imp.freeze 15 trivial) ?_
    refine AW.st (by simp [dNum, dS, binS_eq]; rfl) ?_
    refine AW.imp (Imp.freezeB 17 trivial) ?_
    refine AW.st (by simp [dNum, dS, binS_eq]; rfl) ?_
    refine AW_ret ?_
    simp [D.le, D.le.go, takeMap, dNum, dS, binS_eq, dS, bs_nil, D.le_refl, D.leGo_refl]

/-- The kinds that a tidied part may have. -/
theorem kd_cst {y : Ex} (h : isC y = false) : ¬ kdR y = [48] ∧ ¬ kdR y = [49] := by
  cases y with
  | cst b => cases h
  | _ => simp [kdR]
theorem kd_grp {y : Ex} (h1 : ∀ m, y ≠ .and m) (h2 : ∀ m, y ≠ .or m) : ¬ kdR y = [38] ∧ ¬ kdR y = [124] := by
  cases y with
  | and m => exact absurd rfl (h1 m)
  | or m => exact absurd rfl (h2 m)
  | cst b => cases b <;> simp [kdR]
  | _ => simp [kdR]
theorem addsE_stop : ∀ (l out r : List Ex), addsE out l = none → addsE out (l ++ r) = none
  | [], out, r, h => by cases h
  | x :: l, out, r, h => by
    rw [List.cons_append, addsE]
    rw [addsE] at h
    cases ha : addE out x with
    | none => rfl
    | some o => rw [ha] at h; exact addsE_stop l o r h
theorem addsE_snoc : ∀ (l out o : List Ex) (x : Ex), addsE out l = some o → addsE out (l ++ [x]) = addE o x
  | [], out, o, x, h => by
    obtain rfl := Option.some.inj h
    rw [List.nil_append, addsE]
    cases addE out x <;> rfl
  | y :: l, out, o, x, h => by
    rw [List.cons_append, addsE]
    rw [addsE] at h
    cases ha : addE out y with
    | none => rw [ha] at h; cases h
    | some o2 => rw [ha] at h; exact addsE_snoc l o2 o x h
theorem rpartsE_stop {and : Bool} : ∀ (l : List Ex) (out : List Ex) (r : List Ex), partsE and out l = none → partsE and out (l ++ r) = none
  | [], out, r, h => by cases h
  | x :: l, out, r, h => by
    rw [List.cons_append, partsE]
    rw [partsE] at h
    cases hp : piecesE and x with
    | none => rfl
    | some i =>
      rw [hp] at h
      dsimp only at h ⊢
      cases ha : addsE out i with
      | none => rfl
      | some o =>
        rw [ha] at h
        exact rpartsE_stop l o r h
theorem rpartsE_snoc {and : Bool} : ∀ (l : List Ex) (out o : List Ex) (x : Ex), partsE and out l = some o → partsE and out (l ++ [x]) = (match piecesE and x with | none => none | some i => addsE o i)
  | [], out, o, x, h => by
    obtain rfl := Option.some.inj h
    rw [List.nil_append, partsE]
    cases hp : piecesE and x with
    | none => rfl
    | some i =>
      dsimp only
      cases ha : addsE out i with
      | none => rfl
      | some o => rfl
  | y :: l, out, o, x, h => by
    rw [List.cons_append, partsE]
    rw [partsE] at h
    cases hp : piecesE and y with
    | none => rw [hp] at h; cases h
    | some i =>
      rw [hp] at h
      dsimp only at h ⊢
      cases ha : addsE out i with
      | none => rw [ha] at h; cases h
      | some o2 =>
        rw [ha] at h
        exact rpartsE_snoc l o2 o x h
theorem gath_adds {and : Bool} {l out o : List Ex} (hg : Gath and out) (hl : ∀ x ∈ l, isC x = false ∧ isG and x = false ∧ Tdy x) (h : addsE out l = some o) : Gath and o := by
  rcases adds_law (fun _ => true) (fun _ => true) l out hg hl with ⟨a, _⟩ | ⟨o', a, b, _, _⟩
  · rw [h] at a; cases a
  · rw [h] at a; obtain rfl := Option.some.inj a; exact b
theorem pieces_td {and : Bool} {x : Ex} (hx : Tdy x) {i : List Ex} (h : piecesE and x = some i) : ∀ y ∈ i, isC y = false ∧ isG and y = false ∧ Tdy y := by
  rcases pieces_law (fun _ => true) (fun _ => true) (and := and) hx with ⟨a, _⟩ | ⟨i', a, _, b, _⟩
  · rw [h] at a; cases a
  · rw [h] at a; obtain rfl := Option.some.inj a; exact b
theorem tdy_tid {x : Ex} (h : WfE x) : Tdy (tidE x) := (tid_law (fun _ => true) (fun _ => true) _ x (Nat.le_refl _) h).1
theorem has_take {out : List Ex} {x : Ex} {j : Nat} (hj : j < out.length) : hasT (out.take (j + 1)) x = (hasT (out.take j) x || (wr0 out[j] == wr0 x)) := by
  unfold hasT
  rw [List.take_succ_eq_append_getElem hj, List.any_append]
  simp
theorem has_here {out : List Ex} {x : Ex} {j : Nat} (hj : j < out.length) (h : wr0 out[j] = wr0 x) : hasT out x = true := by
  unfold hasT
  exact List.any_eq_true.2 ⟨_, List.getElem_mem hj, by simp [h]⟩

set_option maxHeartbeats 32000000 in
theorem rtidy_and (G : Glob) (l : List Ex) (hw : ∀ x ∈ l, WfE x) (hb : bEs l ≤ 2^27) (hch : ∀ x ∈ l, PureC Tryd.prog G 25 [dR x] (dR (tidE x))) : PureC Tryd.prog G 25 [.ip [dS [38], dS [], .sl none (l.map fun e => [dR e])]] (dR (finE true (partsE true [] (tidL l)))) := by
  have hln := bEs_len l
  rw [tidL_map]
  have hbt : ∀ n, bEs ((l.take n).map tidE) ≤ bEs l := by
    have h : ∀ l2 : List Ex, bEs (l2.map tidE) ≤ bEs l2 := by
      intro l2
      induction l2 with
      | nil => simp
      | cons x l2 ih => have := tidy_b x; simp only [List.map_cons, bEs]; omega
    intro n
    have := bEs_app (l.take n) (l.drop n)
    rw [List.take_append_drop] at this
    have := h (l.take n)
    omega
  refine PureC.of_body (tyOf_good _) Tryd.func25 rfl rfl (rs := [.tmp 2]) Tryd.results25 (by simp [Tryd.ntmps25]) fun X => ?_
  simp only [Tryd.ntmps25, List.map]
  refine AW_rg (tyOf_good _) [0] [] (fun _ _ => trivial) fun K' hK' => ?_
  repeat (refine sxf_next fun K2 hK2 => ?_; simp [dNum, dS, binS_eq]; (repeat (refine ⟨by omega, ?_⟩)); refine hK2 _ ?_; clear hK2 K2)
  refine sxf_nil (hK' _ ?_)
  refine AW.st (by simp [dNum, dS, binS_eq]; rfl) ?_
  clear hK' K'
  refine AW_then fun K1 hK1 => ?_
  refine AW_rg (tyOf_good _) [0, 19] [] (fun _ _ => trivial) fun K' hK' => ?_
  repeat (refine sxf_next fun K2 hK2 => ?_; simp [dNum, dS, binS_eq]; (repeat (refine ⟨by omega, ?_⟩)); refine hK2 _ ?_; clear hK2 K2)
  refine sxf_nil (hK' _ ?_)
  refine AW.st (by simp [dNum, dS, binS_eq]; rfl) ?_
  clear hK' K'
  refine AW_block ?_
  refine AW_rg (tyOf_good _) [0, 19, 20] [] (fun _ _ => trivial) fun K' hK' => ?_
  repeat (refine sxf_next fun K2 hK2 => ?_; simp [dNum, dS, binS_eq]; (repeat (refine ⟨by omega, ?_⟩)); refine hK2 _ ?_; clear hK2 K2)
  refine sxf_nil (hK' _ ?_)
  refine AW.st (by simp [dNum, dS, binS_eq]; rfl) ?_
  clear hK' K'
  refine AW_cond false rfl (fun h => by cases h) (fun _ => ?_)
  refine AW_then fun K3 hK3 => ?_
  refine AW_rg (tyOf_good _) [0, 19, 43] [] (fun _ _ => trivial) fun K' hK' => ?_
  repeat (refine sxf_next fun K2 hK2 => ?_; simp [dNum, dS, binS_eq]; (repeat (refine ⟨by omega, ?_⟩)); refine hK2 _ ?_; clear hK2 K2)
  refine sxf_nil (hK' _ ?_)
  refine AW.st (by simp [dNum, dS, binS_eq]; rfl) ?_
  clear hK' K'
  refine AW_cond true rfl (fun _ => ?_) (fun h => by cases h)
  refine AW_skip (hK3 _ ?_)
  refine AW_cond true rfl (fun _ => ?_) (fun h => by cases h)
  refine AW_rg (tyOf_good _) [0, 4, 5] [] (fun _ _ => trivial) fun K' hK' => ?_
  repeat (refine sxf_next fun K2 hK2 => ?_; simp [dNum, dS, binS_eq]; (repeat (refine ⟨by omega, ?_⟩)); refine hK2 _ ?_; clear hK2 K2)
  refine sxf_nil (hK' _ ?_)
  refine AW.st (by simp [dNum, dS, binS_eq]; rfl) ?_
  clear hK' K'
  refine AW_then fun K4 hK4 => ?_
  refine AW_rg (tyOf_good _) [0, 4, 5, 50] [] (fun _ _ => trivial) fun K' hK' => ?_
  repeat (refine sxf_next fun K2 hK2 => ?_; simp [dNum, dS, binS_eq]; (repeat (refine ⟨by omega, ?_⟩)); refine hK2 _ ?_; clear hK2 K2)
  refine sxf_nil (hK' _ ?_)
  refine AW.st (by simp [dNum, dS, binS_eq]; rfl) ?_
  clear hK' K'
  refine AW_cond false rfl (fun h => by cases h) (fun _ => ?_)
  refine AW_skip (hK4 _ ?_)
  refine AW_rg (tyOf_good _) [0, 4, 5, 6] [] (fun _ _ => trivial) fun K' hK' => ?_
  repeat (refine sxf_next fun K2 hK2 => ?_; simp [dNum, dS, binS_eq]; (repeat (refine ⟨by omega, ?_⟩)); refine hK2 _ ?_; clear hK2 K2)
  refine sxf_nil (hK' _ ?_)
  refine AW.st (by simp [dNum, dS, binS_eq]; rfl) ?_
  clear hK' K'
  refine AW_then fun K5 hK5 => ?_
  refine AW_rg (tyOf_good _) [0, 4, 5, 6, 54, 55, 56] [] (fun _ _ => trivial) fun K' hK' => ?_
  repeat (refine sxf_next fun K2 hK2 => ?_; simp [dNum, dS, binS_eq]; (repeat (refine ⟨by omega, ?_⟩)); refine hK2 _ ?_; clear hK2 K2)
  refine sxf_nil (hK' _ ?_)
  refine AW.st (by simp [dNum, dS, binS_eq]; rfl) ?_
  clear hK' K'
  refine AW_for (S := Nat × List Ex) (fun z => z.1 ≤ l.length ∧ partsE true [] ((l.take z.1).map tidE) = some z.2 ∧ Gath true z.2) (fun z => ⟨lst [(0, .d (.ip [dS [38], dS [], .sl none (l.map fun e => [dR e])])), (4, .d (dS [49])), (5, .d (dS [48])), (6, .own 300 0 z.2.length), (54, .d (.sl none (l.map fun e => [dR e]))), (55, int l.length), (56, int z.1)], hlst [(300, .sl 61 1 (z.2.map fun e => [dR e]))]⟩) (fun z => l.length - z.1) (0, []) ?_ ⟨by omega, rfl, by simp, by simp⟩ ?_
  · refine (Imp.adopt 6 300 61 1 rfl rfl).trans ?_
    refine Imp.to' (fun _ _ => trivial) (by simp [dNum, dS, binS_eq, dS, l48, l49]) (by simp [dNum, dS, binS_eq, dS, l48, l49])
  · rintro ⟨n, out⟩ ⟨hn, hp, hg⟩
    dsimp only at hn hp hg ⊢
    refine AW_rg (tyOf_good _) [0, 4, 5, 6, 54, 55, 56, 57] [300] (fun _ _ => trivial) fun K' hK' => ?_
    repeat (refine sxf_next fun K2 hK2 => ?_; simp [dNum, dS, binS_eq]; (repeat (refine ⟨by omega, ?_⟩)); refine hK2 _ ?_; clear hK2 K2)
    refine sxf_nil (hK' _ ?_)
    refine AW.st (by simp [dNum, dS, binS_eq]; rfl) ?_
    clear hK' K'
    refine AW_then fun K6 hK6 => ?_
    refine AW_cond' (b := n < l.length) (by simp [D.le, D.le.go, takeMap, dNum, dS, binS_eq]) (fun hc => ?_) (fun hc => ?_)
    · have hnl : n < l.length := hc
      have hsn := rpartsE_snoc ((l.take n).map tidE) [] out (tidE l[n]) hp
      have hst := rpartsE_stop (and := true) ((l.take (n + 1)).map tidE) [] ((l.drop (n + 1)).map tidE)
      rw [← List.map_append, List.take_append_drop] at hst
      have e1 : (l.take n).map tidE ++ [tidE l[n]] = (l.take (n + 1)).map tidE := by
        rw [List.take_succ_eq_append_getElem hnl, List.map_append]; rfl
      rw [e1] at hsn
      have hbo := parts_b _ _ _ hp
      simp only [bEs, Nat.zero_add] at hbo
      have hbx : bEs out + bE (tidE l[n]) ≤ 2^28 := by
        have h1 := hbt (n + 1)
        rw [← e1, bEs_app] at h1
        simp only [bEs] at h1
        omega
      have htd := tdy_tid (hw _ (List.getElem_mem hnl))
      have htx := hch _ (List.getElem_mem hnl)
      obtain ⟨cx, hx⟩ := dR_ip l[n]
      rw [hx] at htx
      refine AW_skip (hK6 _ ?_)
      refine AW_then fun K7 hK7 => ?_
      refine AW_block ?_
      refine AW_rg (tyOf_good _) [0, 4, 5, 6, 8, 54, 55, 56] [300] (fun _ _ => trivial) fun K' hK' => ?_
      repeat (refine sxf_next fun K2 hK2 => ?_; simp [dNum, dS, binS_eq, hnl, hx]; (repeat (refine ⟨by omega, ?_⟩)); refine hK2 _ ?_; clear hK2 K2)
      refine sxf_nil (hK' _ ?_)
      refine AW.st (by simp [dNum, dS, binS_eq, hnl, hx]; rfl) ?_
      clear hK' K'
      clear hch
      generalize tidE l[n] = y at htx hsn hbx htd
      have hyf := dR_form y
      rw [hyf] at htx
      refine AW_rg (tyOf_good _) [0, 4, 5, 6, 9, 54, 55, 56] [300] (fun _ _ => trivial) fun K' hK' => ?_
      repeat (refine sxf_next fun K2 hK2 => ?_; simp [dNum, dS, binS_eq]; (repeat (refine ⟨by omega, ?_⟩)); refine hK2 _ ?_; clear hK2 K2)
      refine sxf_next fun K2 hK2 => ?_
      simp [dNum, dS, binS_eq]
      refine callK.data (htx) (by simp; rfl) (by first | exact D.leGo_refl _ | simp [takeMap, List.map_map, Function.comp_def, D.le, D.le.go, D.le_refl, D.leGo_refl, dNum, dS, binS_eq]) ?_
      refine hK2 _ ?_
      clear hK2 K2
      simp only [putd, upd_lst]
      repeat (refine sxf_next fun K2 hK2 => ?_; simp [dNum, dS, binS_eq]; (repeat (refine ⟨by omega, ?_⟩)); refine hK2 _ ?_; clear hK2 K2)
      refine sxf_nil (hK' _ ?_)
      refine AW.st (by simp [dNum, dS, binS_eq]; rfl) ?_
      clear hK' K'
      refine AW_rg (tyOf_good _) [0, 4, 5, 6, 9, 10, 54, 55, 56] [300, 63] (fun _ _ => trivial) fun K' hK' => ?_
      repeat (refine sxf_next fun K2 hK2 => ?_; simp [dNum, dS, binS_eq]; (repeat (refine ⟨by omega, ?_⟩)); refine hK2 _ ?_; clear hK2 K2)
      refine sxf_nil (hK' _ ?_)
      refine AW.st (by simp [dNum, dS, binS_eq]; rfl) ?_
      clear hK' K'
      refine AW.imp (Imp.freeze 63 trivial) ?_
      refine AW.st (by simp [dNum, dS, binS_eq]; rfl) ?_
      refine AW_then fun K8 hK8 => ?_
      by_cases hall : y = .cst false
      · subst hall
        have hpc : piecesE true (.cst false) = none := rfl
        rw [hpc] at hsn
        have hE := hst hsn
        have hfin : dR (finE true none) = .ip [dS [48], dS [], dNil] := rfl
        have hkd : kdR (.cst false) = [48] := rfl
        refine AW_rd (tyOf_good _) (by kernel_rfl) [0, 4, 5, 6, 9, 10, 54, 55, 56, 72] [300] (fun _ _ => trivial) (by kernel_rfl) fun K' hK' => ?_
        repeat (refine sxd_next fun K2 hK2 => ?_; simp [dNum, dS, binS_eq, hkd, binS, bs_list]; (repeat (refine ⟨by omega, ?_⟩)); refine hK2 _ ?_; clear hK2 K2)
        refine sxd_nil (hK' _ ?_)
        refine AW.st (by simp [dNum, dS, binS_eq, hkd, binS, bs_list]; rfl) ?_
        clear hK' K'
        refine AW_cond false rfl (fun h => by cases h) (fun _ => ?_)
        refine AW_skip (hK8 _ ?_)
        refine AW_then fun K9 hK9 => ?_
        refine AW_rg (tyOf_good _) [0, 4, 5, 6, 9, 10, 54, 55, 56, 82] [300] (fun _ _ => trivial) fun K' hK' => ?_
        repeat (refine sxf_next fun K2 hK2 => ?_; simp [dNum, dS, binS_eq, hkd, bs_list, binS]; (repeat (refine ⟨by omega, ?_⟩)); refine hK2 _ ?_; clear hK2 K2)
        refine sxf_nil (hK' _ ?_)
        refine AW.st (by simp [dNum, dS, binS_eq, hkd, bs_list, binS]; rfl) ?_
        clear hK' K'
        refine AW_cond false rfl (fun h => by cases h) (fun _ => ?_)
        refine AW_skip (hK9 _ ?_)
        refine AW_then fun K10 hK10 => ?_
        refine AW_rg (tyOf_good _) [0, 4, 5, 6, 10, 54, 55, 56, 88] [300] (fun _ _ => trivial) fun K' hK' => ?_
        repeat (refine sxf_next fun K2 hK2 => ?_; simp [dNum, dS, binS_eq, hkd, bs_list, binS]; (repeat (refine ⟨by omega, ?_⟩)); refine hK2 _ ?_; clear hK2 K2)
        refine sxf_nil (hK' _ ?_)
        refine AW.st (by simp [dNum, dS, binS_eq, hkd, bs_list, binS]; rfl) ?_
        clear hK' K'
        refine AW_cond true rfl (fun _ => ?_) (fun h => by cases h)
        refine AW_rg (tyOf_good _) [2] [300, 91] (fun _ _ => trivial) fun K' hK' => ?_
        repeat (refine sxf_next fun K2 hK2 => ?_; simp [dNum, dS, binS_eq, dNil]; (repeat (refine ⟨by omega, ?_⟩)); refine hK2 _ ?_; clear hK2 K2)
        refine sxf_nil (hK' _ ?_)
        refine AW.st (by simp [dNum, dS, binS_eq, dNil]; rfl) ?_
        clear hK' K'
        refine AW.imp (Imp.freezeB 91 trivial) ?_
        refine AW.st (by simp [dNum, dS, binS_eq]; rfl) ?_
        refine AW_ret ?_
        simp [D.le, D.le.go, takeMap, dNum, dS, binS_eq, hE, hfin, dS, dNil, bs_nil, D.le_refl, D.leGo_refl]
      obtain ⟨i, hpi⟩ : ∃ i, piecesE true y = some i := by
        cases hpy : piecesE true y with
        | some i => exact ⟨i, rfl⟩
        | none =>
          exfalso
          apply hall
          cases y with
          | cst b => cases b <;> first | rfl | cases hpy
          | _ => cases hpy
      rw [hpi] at hsn
      dsimp only at hsn
      have htdi := pieces_td htd hpi
      have hbi := pieces_b hpi
      obtain ⟨k, hk⟩ : ∃ k : Option Bool, k = if isC y then some false else none := ⟨_, rfl⟩
      refine' lateV (fun hrest => ?_) ?_
      rotate_left
      · by_cases hcst : isC y = true
        · have hy : y = .cst true := by
            cases y with
            | cst b => cases b <;> first | rfl | exact absurd rfl hall
            | _ => cases hcst
          have hi0 : i = [] := by rw [hy] at hpi; exact (Option.some.inj hpi).symm
          have hk0 : k = some false := by rw [hk, hcst]; rfl
          have hkd : kdR y = [49] := by rw [hy]; rfl
          refine AW_rd (tyOf_good _) (by kernel_rfl) [0, 4, 5, 6, 9, 10, 54, 55, 56, 72] [300] (fun _ _ => trivial) (by kernel_rfl) fun K' hK' => ?_
          repeat (refine sxd_next fun K2 hK2 => ?_; simp [dNum, dS, binS_eq, hkd, binS, bs_list]; (repeat (refine ⟨by omega, ?_⟩)); refine hK2 _ ?_; clear hK2 K2)
          refine sxd_nil (hK' _ ?_)
          refine AW.st (by simp [dNum, dS, binS_eq, hkd, binS, bs_list]; rfl) ?_
          clear hK' K'
          refine AW_cond false rfl (fun h => by cases h) (fun _ => ?_)
          refine AW_skip (hK8 _ ?_)
          refine AW_then fun K9 hK9 => ?_
          refine AW_rg (tyOf_good _) [0, 4, 5, 6, 9, 10, 54, 55, 56, 82] [300] (fun _ _ => trivial) fun K' hK' => ?_
          repeat (refine sxf_next fun K2 hK2 => ?_; simp [dNum, dS, binS_eq, hkd, bs_list, binS]; (repeat (refine ⟨by omega, ?_⟩)); refine hK2 _ ?_; clear hK2 K2)
          refine sxf_nil (hK' _ ?_)
          refine AW.st (by simp [dNum, dS, binS_eq, hkd, bs_list, binS]; rfl) ?_
          clear hK' K'
          refine AW_cond true rfl (fun _ => ?_) (fun h => by cases h)
          refine AW_re (tyOf_good _) fun K' hK' => ?_
          repeat (refine sxf_next fun K2 hK2 => ?_; simp [dNum, dS, binS_eq]; (repeat (refine ⟨by omega, ?_⟩)); refine hK2 _ ?_; clear hK2 K2)
          refine sxf_nil (hK' _ ?_)
          clear hK' K'
          refine hK9 _ (AW.norm [0, 4, 5, 6, 9, 10, 54, 55, 56] [300] (fun _ _ => trivial) (AW.st (by simp [dNum, dS, binS_eq]; rfl) ?_))
          refine AW_then fun K10 hK10 => ?_
          refine AW_rg (tyOf_good _) [0, 4, 5, 6, 10, 54, 55, 56, 88] [300] (fun _ _ => trivial) fun K' hK' => ?_
          repeat (refine sxf_next fun K2 hK2 => ?_; simp [dNum, dS, binS_eq, hkd, bs_list, binS]; (repeat (refine ⟨by omega, ?_⟩)); refine hK2 _ ?_; clear hK2 K2)
          refine sxf_nil (hK' _ ?_)
          refine AW.st (by simp [dNum, dS, binS_eq, hkd, bs_list, binS]; rfl) ?_
          clear hK' K'
          refine AW_cond false rfl (fun h => by cases h) (fun _ => ?_)
          refine AW_skip (hK10 _ ?_)
          refine AW.imp (τ := ⟨lst [(0, .d (.ip [dS [38], dS [], .sl none (l.map fun e => [dR e])])), (4, .d (dS [49])), (5, .d (dS [48])), (6, .own 300 0 out.length), (10, .d (.sl k (i.map fun e => [dR e]))), (54, .d (.sl none (l.map fun e => [dR e]))), (55, int l.length), (56, int n)], hlst [(300, .sl 61 1 (out.map fun e => [dR e]))]⟩) ?_ ?_
          · refine Imp.to' (fun _ _ => trivial) (by simp [dNum, dS, binS_eq, dS, hi0, hk0]) (by simp [dNum, dS, binS_eq, dS, hi0, hk0])
          exact hrest.out
        have hcf : isC y = false := by simpa using hcst
        obtain ⟨k48, k49⟩ := kd_cst hcf
        have hk0 : k = none := by rw [hk, hcf]; rfl
        by_cases hgr : ∃ m, y = .and m
        · obtain ⟨m, hm⟩ := hgr
          have hi0 : i = m := by rw [hm] at hpi; exact (Option.some.inj hpi).symm
          have hkd : kdR y = [38] := by rw [hm]; rfl
          have hof : ofR y = .sl none (i.map fun e => [dR e]) := by rw [hm, hi0]; simp [ofR, dRs_map]
          refine AW_rd (tyOf_good _) (by kernel_rfl) [0, 4, 5, 6, 9, 10, 54, 55, 56, 72] [300] (fun _ _ => trivial) (by kernel_rfl) fun K' hK' => ?_
          repeat (refine sxd_next fun K2 hK2 => ?_; simp [dNum, dS, binS_eq, hkd, binS, bs_list]; (repeat (refine ⟨by omega, ?_⟩)); refine hK2 _ ?_; clear hK2 K2)
          refine sxd_nil (hK' _ ?_)
          refine AW.st (by simp [dNum, dS, binS_eq, hkd, binS, bs_list]; rfl) ?_
          clear hK' K'
          refine AW_cond true rfl (fun _ => ?_) (fun h => by cases h)
          refine AW_re (tyOf_good _) fun K' hK' => ?_
          repeat (refine sxf_next fun K2 hK2 => ?_; simp [dNum, dS, binS_eq, hof]; (repeat (refine ⟨by omega, ?_⟩)); refine hK2 _ ?_; clear hK2 K2)
          refine sxf_nil (hK' _ ?_)
          clear hK' K'
          refine hK8 _ (AW.norm [0, 4, 5, 6, 9, 10, 54, 55, 56] [300] (fun _ _ => trivial) (AW.st (by simp [dNum, dS, binS_eq, hof]; rfl) ?_))
          refine AW_then fun K9 hK9 => ?_
          refine AW_rg (tyOf_good _) [0, 4, 5, 6, 9, 10, 54, 55, 56, 82] [300] (fun _ _ => trivial) fun K' hK' => ?_
          repeat (refine sxf_next fun K2 hK2 => ?_; simp [dNum, dS, binS_eq, hkd, bs_list, binS]; (repeat (refine ⟨by omega, ?_⟩)); refine hK2 _ ?_; clear hK2 K2)
          refine sxf_nil (hK' _ ?_)
          refine AW.st (by simp [dNum, dS, binS_eq, hkd, bs_list, binS]; rfl) ?_
          clear hK' K'
          refine AW_cond false rfl (fun h => by cases h) (fun _ => ?_)
          refine AW_skip (hK9 _ ?_)
          refine AW_then fun K10 hK10 => ?_
          refine AW_rg (tyOf_good _) [0, 4, 5, 6, 10, 54, 55, 56, 88] [300] (fun _ _ => trivial) fun K' hK' => ?_
          repeat (refine sxf_next fun K2 hK2 => ?_; simp [dNum, dS, binS_eq, hkd, bs_list, binS]; (repeat (refine ⟨by omega, ?_⟩)); refine hK2 _ ?_; clear hK2 K2)
          refine sxf_nil (hK' _ ?_)
          refine AW.st (by simp [dNum, dS, binS_eq, hkd, bs_list, binS]; rfl) ?_
          clear hK' K'
          refine AW_cond false rfl (fun h => by cases h) (fun _ => ?_)
          refine AW_skip (hK10 _ ?_)
          refine AW.imp (τ := ⟨lst [(0, .d (.ip [dS [38], dS [], .sl none (l.map fun e => [dR e])])), (4, .d (dS [49])), (5, .d (dS [48])), (6, .own 300 0 out.length), (10, .d (.sl k (i.map fun e => [dR e]))), (54, .d (.sl none (l.map fun e => [dR e]))), (55, int l.length), (56, int n)], hlst [(300, .sl 61 1 (out.map fun e => [dR e]))]⟩) ?_ ?_
          · refine Imp.to' (fun _ _ => trivial) (by simp [dNum, dS, binS_eq, dS, hk0]) (by simp [dNum, dS, binS_eq, dS, hk0])
          exact hrest.out
        have hkk : ¬ kdR y = [38] := by
          cases y with
          | and m => exact absurd ⟨m, rfl⟩ hgr
          | cst b => cases b <;> simp [kdR]
          | _ => simp [kdR]
        have hi0 : i = [y] := by
          cases y with
          | and m => exact absurd ⟨m, rfl⟩ hgr
          | cst b => cases hcf
          | _ => exact (Option.some.inj hpi).symm
        have hkb : (kdR y == [38]) = false := by simpa using hkk
        have hk48 : (kdR y == [48]) = false := by simpa using k48
        have hk49 : (kdR y == [49]) = false := by simpa using k49
        refine AW_rd (tyOf_good _) (by kernel_rfl) [0, 4, 5, 6, 9, 10, 54, 55, 56, 72] [300] (fun _ _ => trivial) (by kernel_rfl) fun K' hK' => ?_
        repeat (refine sxd_next fun K2 hK2 => ?_; simp [dNum, dS, binS_eq, hkk, hkb, binS, bs_list]; (repeat (refine ⟨by omega, ?_⟩)); refine hK2 _ ?_; clear hK2 K2)
        refine sxd_nil (hK' _ ?_)
        refine AW.st (by simp [dNum, dS, binS_eq, hkk, hkb, binS, bs_list]; rfl) ?_
        clear hK' K'
        refine AW_cond false rfl (fun h => by cases h) (fun _ => ?_)
        refine AW_skip (hK8 _ ?_)
        refine AW_then fun K9 hK9 => ?_
        refine AW_rg (tyOf_good _) [0, 4, 5, 6, 9, 10, 54, 55, 56, 82] [300] (fun _ _ => trivial) fun K' hK' => ?_
        repeat (refine sxf_next fun K2 hK2 => ?_; simp [dNum, dS, binS_eq, k48, k49, hk48, hk49, bs_list, binS]; (repeat (refine ⟨by omega, ?_⟩)); refine hK2 _ ?_; clear hK2 K2)
        refine sxf_nil (hK' _ ?_)
        refine AW.st (by simp [dNum, dS, binS_eq, k48, k49, hk48, hk49, bs_list, binS]; rfl) ?_
        clear hK' K'
        refine AW_cond false rfl (fun h => by cases h) (fun _ => ?_)
        refine AW_skip (hK9 _ ?_)
        refine AW_then fun K10 hK10 => ?_
        refine AW_rg (tyOf_good _) [0, 4, 5, 6, 10, 54, 55, 56, 88] [300] (fun _ _ => trivial) fun K' hK' => ?_
        repeat (refine sxf_next fun K2 hK2 => ?_; simp [dNum, dS, binS_eq, k48, k49, hk48, hk49, bs_list, binS]; (repeat (refine ⟨by omega, ?_⟩)); refine hK2 _ ?_; clear hK2 K2)
        refine sxf_nil (hK' _ ?_)
        refine AW.st (by simp [dNum, dS, binS_eq, k48, k49, hk48, hk49, bs_list, binS]; rfl) ?_
        clear hK' K'
        refine AW_cond false rfl (fun h => by cases h) (fun _ => ?_)
        refine AW_skip (hK10 _ ?_)
        refine AW.imp (τ := ⟨lst [(0, .d (.ip [dS [38], dS [], .sl none (l.map fun e => [dR e])])), (4, .d (dS [49])), (5, .d (dS [48])), (6, .own 300 0 out.length), (10, .d (.sl k (i.map fun e => [dR e]))), (54, .d (.sl none (l.map fun e => [dR e]))), (55, int l.length), (56, int n)], hlst [(300, .sl 61 1 (out.map fun e => [dR e]))]⟩) ?_ ?_
        · refine Imp.to' (fun _ _ => trivial) (by simp [dNum, dS, binS_eq, dS, hk0, hi0, hyf]) (by simp [dNum, dS, binS_eq, dS, hk0, hi0, hyf])
        exact hrest.out
      · refine AW_rg (tyOf_good _) [0, 4, 5, 6, 54, 55, 56, 92, 93, 94] [300] (fun _ _ => trivial) fun K' hK' => ?_
        repeat (refine sxf_next fun K2 hK2 => ?_; simp [dNum, dS, binS_eq]; (repeat (refine ⟨by omega, ?_⟩)); refine hK2 _ ?_; clear hK2 K2)
        refine sxf_nil (hK' _ ?_)
        refine AW.st (by simp [dNum, dS, binS_eq]; rfl) ?_
        clear hK' K'
        have hil := bEs_len i
        refine AW_for (S := Nat × List Ex) (fun z => z.1 ≤ i.length ∧ addsE out (i.take z.1) = some z.2 ∧ Gath true z.2) (fun z => ⟨lst [(0, .d (.ip [dS [38], dS [], .sl none (l.map fun e => [dR e])])), (4, .d (dS [49])), (5, .d (dS [48])), (6, .own 300 0 z.2.length), (54, .d (.sl none (l.map fun e => [dR e]))), (55, int l.length), (56, int n), (92, .d (.sl k (i.map fun e => [dR e]))), (93, int i.length), (94, int z.1)], hlst [(300, .sl 61 1 (z.2.map fun e => [dR e]))]⟩) (fun z => i.length - z.1) (0, out) ?_ ⟨by omega, rfl, hg⟩ ?_
        · refine Imp.to' (fun _ _ => trivial) (by simp [dNum, dS, binS_eq, dS]) (by simp [dNum, dS, binS_eq, dS])
        · rintro ⟨m, o⟩ ⟨hm, hpo, hgo⟩
          dsimp only at hm hpo hgo ⊢
          refine AW_rg (tyOf_good _) [0, 4, 5, 6, 54, 55, 56, 92, 93, 94, 95] [300] (fun _ _ => trivial) fun K' hK' => ?_
          repeat (refine sxf_next fun K2 hK2 => ?_; simp [dNum, dS, binS_eq]; (repeat (refine ⟨by omega, ?_⟩)); refine hK2 _ ?_; clear hK2 K2)
          refine sxf_nil (hK' _ ?_)
          refine AW.st (by simp [dNum, dS, binS_eq]; rfl) ?_
          clear hK' K'
          refine AW_then fun K11 hK11 => ?_
          refine AW_cond' (b := m < i.length) (by simp [D.le, D.le.go, takeMap, dNum, dS, binS_eq]) (fun hc => ?_) (fun hc => ?_)
          · have hmi : m < i.length := hc
            have hxi := htdi _ (List.getElem_mem hmi)
            have hso := addsE_snoc (i.take m) out o i[m] hpo
            have hsto := addsE_stop (i.take (m + 1)) out (i.drop (m + 1))
            rw [List.take_append_drop] at hsto
            rw [← List.take_succ_eq_append_getElem hmi] at hso
            have hbo2 := adds_b _ _ _ hpo
            have htk := bEs_app (i.take m) (i.drop m)
            rw [List.take_append_drop] at htk
            have hbm := bEs_mem (List.getElem_mem hmi)
            have hol := bEs_len o
            have hos : ∀ z ∈ o, bE z ≤ bEs o := fun z hz => bEs_mem hz
            rw [← add_same hgo hxi] at hso
            have hbot := oth_b i[m]
            have hto := rother_spec G i[m]
            have htox := rtxt_spec G (othE i[m]) (by have := wr_len (othE i[m]); omega)
            have htxx := rtxt_spec G i[m] (by have := wr_len i[m]; omega)
            have hw1 : wrE (othE i[m]) 0 = wr0 (othE i[m]) := rfl
            have hw2 : wrE i[m] 0 = wr0 i[m] := rfl
            rw [hw1] at htox
            rw [hw2] at htxx
            obtain ⟨co, hco⟩ := dR_ip (othE i[m])
            obtain ⟨ci, hci⟩ := dR_ip i[m]
            rw [hco] at hto htox
            rw [hci] at hto htxx
            refine AW_skip (hK11 _ ?_)
            refine AW_then fun K12 hK12 => ?_
            refine AW_block ?_
            refine AW_rg (tyOf_good _) [0, 4, 5, 6, 12, 54, 55, 56, 92, 93, 94] [300] (fun _ _ => trivial) fun K' hK' => ?_
            repeat (refine sxf_next fun K2 hK2 => ?_; simp [dNum, dS, binS_eq, hmi, hci]; (repeat (refine ⟨by omega, ?_⟩)); refine hK2 _ ?_; clear hK2 K2)
            refine sxf_nil (hK' _ ?_)
            refine AW.st (by simp [dNum, dS, binS_eq, hmi, hci]; rfl) ?_
            clear hK' K'
            refine AW_rg (tyOf_good _) [0, 4, 5, 6, 12, 13, 54, 55, 56, 92, 93, 94] [300] (fun _ _ => trivial) fun K' hK' => ?_
            repeat (refine sxf_next fun K2 hK2 => ?_; simp [dNum, dS, binS_eq]; (repeat (refine ⟨by omega, ?_⟩)); refine hK2 _ ?_; clear hK2 K2)
            refine sxf_nil (hK' _ ?_)
            refine AW.st (by simp [dNum, dS, binS_eq]; rfl) ?_
            clear hK' K'
            refine AW_then fun K13 hK13 => ?_
            refine AW_rg (tyOf_good _) [0, 4, 5, 6, 12, 13, 54, 55, 56, 92, 93, 94, 98, 99, 100] [300] (fun _ _ => trivial) fun K' hK' => ?_
            repeat (refine sxf_next fun K2 hK2 => ?_; simp [dNum, dS, binS_eq]; (repeat (refine ⟨by omega, ?_⟩)); refine hK2 _ ?_; clear hK2 K2)
            refine sxf_nil (hK' _ ?_)
            refine AW.st (by simp [dNum, dS, binS_eq]; rfl) ?_
            clear hK' K'
            refine AW_for (S := Nat) (fun j => j ≤ o.length ∧ hasT (o.take j) (othE (i[m]'hmi)) = false) (fun j => ⟨lst [(0, .d (.ip [dS [38], dS [], .sl none (l.map fun e => [dR e])])), (4, .d (dS [49])), (5, .d (dS [48])), (6, .own 300 0 o.length), (12, .d (.ip ci)), (54, .d (.sl none (l.map fun e => [dR e]))), (55, int l.length), (56, int n), (92, .d (.sl k (i.map fun e => [dR e]))), (93, int i.length), (94, int m), (13, .d (.v (.bool (hasT (o.take j) (i[m]'hmi))))), (98, .own 300 0 o.length), (99, int o.length), (100, int j)], hlst [(300, .sl 61 1 (o.map fun e => [dR e]))]⟩) (fun j => o.length - j) 0 ?_ ⟨by omega, rfl⟩ ?_
            · refine Imp.to' (fun _ _ => trivial) (by simp [dNum, dS, binS_eq, dS, hasT]) (by simp [dNum, dS, binS_eq, dS, hasT])
            · rintro j ⟨hj, hno⟩
              refine AW_rg (tyOf_good _) [0, 4, 5, 6, 12, 13, 54, 55, 56, 92, 93, 94, 98, 99, 100, 101] [300] (fun _ _ => trivial) fun K' hK' => ?_
              repeat (refine sxf_next fun K2 hK2 => ?_; simp [dNum, dS, binS_eq]; (repeat (refine ⟨by omega, ?_⟩)); refine hK2 _ ?_; clear hK2 K2)
              refine sxf_nil (hK' _ ?_)
              refine AW.st (by simp [dNum, dS, binS_eq]; rfl) ?_
              clear hK' K'
              refine AW_then fun K14 hK14 => ?_
              refine AW_cond' (b := j < o.length) (by simp [D.le, D.le.go, takeMap, dNum, dS, binS_eq]) (fun hc => ?_) (fun hc => ?_)
              · have hjo : j < o.length := hc
                have htz := rtxt_spec G o[j] (by have := wr_len o[j]; have := hos _ (List.getElem_mem hjo); omega)
                have hw3 : wrE o[j] 0 = wr0 o[j] := rfl
                rw [hw3] at htz
                have hta := has_take (x := othE (i[m]'hmi)) hjo
                have htb := has_take (x := i[m]'hmi) hjo
                have hhr := has_here (x := othE (i[m]'hmi)) hjo
                obtain ⟨cz, hcz⟩ := dR_ip o[j]
                rw [hcz] at htz
                refine AW_skip (hK14 _ ?_)
                refine AW_then fun K15 hK15 => ?_
                refine AW_block ?_
                refine AW_rg (tyOf_good _) [0, 4, 5, 6, 12, 13, 15, 54, 55, 56, 92, 93, 94, 98, 99, 100] [300] (fun _ _ => trivial) fun K' hK' => ?_
                repeat (refine sxf_next fun K2 hK2 => ?_; simp [dNum, dS, binS_eq, hjo, hcz]; (repeat (refine ⟨by omega, ?_⟩)); refine hK2 _ ?_; clear hK2 K2)
                refine sxf_nil (hK' _ ?_)
                refine AW.st (by simp [dNum, dS, binS_eq, hjo, hcz]; rfl) ?_
                clear hK' K'
                refine AW_then fun K16 hK16 => ?_
                by_cases heq : wr0 (o[j]'hjo) = wr0 (othE (i[m]'hmi))
                · have hnone : addR o (i[m]'hmi) = none := by unfold addR; rw [if_pos (hhr heq)]
                  rw [hnone] at hso
                  rw [hsto hso] at hsn
                  have hE := hst hsn
                  have hfin : dR (finE true none) = .ip [dS [48], dS [], dNil] := rfl
                  refine AW_rg (tyOf_good _) [0, 4, 5, 6, 12, 13, 15, 54, 55, 56, 92, 93, 94, 98, 99, 100, 109] [300] (fun _ _ => trivial) fun K' hK' => ?_
                  repeat (refine sxf_next fun K2 hK2 => ?_; simp [dNum, dS, binS_eq, heq, binS, bs_list]; (repeat (refine ⟨by omega, ?_⟩)); refine hK2 _ ?_; clear hK2 K2)
                  refine sxf_next fun K2 hK2 => ?_
                  simp [dNum, dS, binS_eq, heq, binS, bs_list]
                  refine callK.data (htz) (by simp; rfl) (by first | exact D.leGo_refl _ | simp [takeMap, List.map_map, Function.comp_def, D.le, D.le.go, D.le_refl, D.leGo_refl, dNum, dS, binS_eq, heq, binS, bs_list]) ?_
                  refine hK2 _ ?_
                  clear hK2 K2
                  simp only [putd, upd_lst]
                  repeat (refine sxf_next fun K2 hK2 => ?_; simp [dNum, dS, binS_eq, heq, binS, bs_list]; (repeat (refine ⟨by omega, ?_⟩)); refine hK2 _ ?_; clear hK2 K2)
                  refine sxf_next fun K2 hK2 => ?_
                  simp [dNum, dS, binS_eq, heq, binS, bs_list]
                  refine callK.data (hto) (by simp; rfl) (by first | exact D.leGo_refl _ | simp [takeMap, List.map_map, Function.comp_def, D.le, D.le.go, D.le_refl, D.leGo_refl, dNum, dS, binS_eq, heq, binS, bs_list]) ?_
                  refine hK2 _ ?_
                  clear hK2 K2
                  simp only [putd, upd_lst]
                  repeat (refine sxf_next fun K2 hK2 => ?_; simp [dNum, dS, binS_eq, heq, binS, bs_list]; (repeat (refine ⟨by omega, ?_⟩)); refine hK2 _ ?_; clear hK2 K2)
                  refine sxf_next fun K2 hK2 => ?_
                  simp [dNum, dS, binS_eq, heq, binS, bs_list]
                  refine callK.data (htox) (by simp; rfl) (by first | exact D.leGo_refl _ | simp [takeMap, List.map_map, Function.comp_def, D.le, D.le.go, D.le_refl, D.leGo_refl, dNum, dS, binS_eq, heq, binS, bs_list]) ?_
                  refine hK2 _ ?_
                  clear hK2 K2
                  simp only [putd, upd_lst]
                  repeat (refine sxf_next fun K2 hK2 => ?_; simp [dNum, dS, binS_eq, heq, binS, bs_list]; (repeat (refine ⟨by omega, ?_⟩)); refine hK2 _ ?_; clear hK2 K2)
                  refine sxf_nil (hK' _ ?_)
                  refine AW.st (by simp [dNum, dS, binS_eq, heq, binS, bs_list]; rfl) ?_
                  clear hK' K'
                  refine AW_cond true rfl (fun _ => ?_) (fun h => by cases h)
                  refine AW_rg (tyOf_good _) [2] [300, 112] (fun _ _ => trivial) fun K' hK' => ?_
                  repeat (refine sxf_next fun K2 hK2 => ?_; simp [dNum, dS, binS_eq, dNil]; (repeat (refine ⟨by omega, ?_⟩)); refine hK2 _ ?_; clear hK2 K2)
                  refine sxf_nil (hK' _ ?_)
                  refine AW.st (by simp [dNum, dS, binS_eq, dNil]; rfl) ?_
                  clear hK' K'
                  refine AW.imp (Imp.freezeB 112 trivial) ?_
                  refine AW.st (by simp [dNum, dS, binS_eq]; rfl) ?_
                  refine AW_ret ?_
                  simp [D.le, D.le.go, takeMap, dNum, dS, binS_eq, hE, hfin, dS, dNil, bs_nil, D.le_refl, D.leGo_refl]
                have heqb : (wr0 (o[j]'hjo) == wr0 (othE (i[m]'hmi))) = false := by simpa using heq
                rw [hno, heqb] at hta
                refine AW_rg (tyOf_good _) [0, 4, 5, 6, 12, 13, 15, 54, 55, 56, 92, 93, 94, 98, 99, 100, 109] [300] (fun _ _ => trivial) fun K' hK' => ?_
                repeat (refine sxf_next fun K2 hK2 => ?_; simp [dNum, dS, binS_eq, heq, heqb, binS, bs_list]; (repeat (refine ⟨by omega, ?_⟩)); refine hK2 _ ?_; clear hK2 K2)
                refine sxf_next fun K2 hK2 => ?_
                simp [dNum, dS, binS_eq, heq, heqb, binS, bs_list]
                refine callK.data (htz) (by simp; rfl) (by first | exact D.leGo_refl _ | simp [takeMap, List.map_map, Function.comp_def, D.le, D.le.go, D.le_refl, D.leGo_refl, dNum, dS, binS_eq, heq, heqb, binS, bs_list]) ?_
                refine hK2 _ ?_
                clear hK2 K2
                simp only [putd, upd_lst]
                repeat (refine sxf_next fun K2 hK2 => ?_; simp [dNum, dS, binS_eq, heq, heqb, binS, bs_list]; (repeat (refine ⟨by omega, ?_⟩)); refine hK2 _ ?_; clear hK2 K2)
                refine sxf_next fun K2 hK2 => ?_
                simp [dNum, dS, binS_eq, heq, heqb, binS, bs_list]
                refine callK.data (hto) (by simp; rfl) (by first | exact D.leGo_refl _ | simp [takeMap, List.map_map, Function.comp_def, D.le, D.le.go, D.le_refl, D.leGo_refl, dNum, dS, binS_eq, heq, heqb, binS, bs_list]) ?_
                refine hK2 _ ?_
                clear hK2 K2
                simp only [putd, upd_lst]
                repeat (refine sxf_next fun K2 hK2 => ?_; simp [dNum, dS, binS_eq, heq, heqb, binS, bs_list]; (repeat (refine ⟨by omega, ?_⟩)); refine hK2 _ ?_; clear hK2 K2)
                refine sxf_next fun K2 hK2 => ?_
                simp [dNum, dS, binS_eq, heq, heqb, binS, bs_list]
                refine callK.data (htox) (by simp; rfl) (by first | exact D.leGo_refl _ | simp [takeMap, List.map_map, Function.comp_def, D.le, D.le.go, D.le_refl, D.leGo_refl, dNum, dS, binS_eq, heq, heqb, binS, bs_list]) ?_
                refine hK2 _ ?_
                clear hK2 K2
                simp only [putd, upd_lst]
                repeat (refine sxf_next fun K2 hK2 => ?_; simp [dNum, dS, binS_eq, heq, heqb, binS, bs_list]; (repeat (refine ⟨by omega, ?_⟩)); refine hK2 _ ?_; clear hK2 K2)
                refine sxf_nil (hK' _ ?_)
                refine AW.st (by simp [dNum, dS, binS_eq, heq, heqb, binS, bs_list]; rfl) ?_
                clear hK' K'
                refine AW_cond false rfl (fun h => by cases h) (fun _ => ?_)
                refine AW_skip (hK16 _ ?_)
                cases hth : hasT (o.take j) (i[m]'hmi) with
                | true =>
                  rw [hth] at htb
                  refine AW_re (tyOf_good _) fun K' hK' => ?_
                  repeat (refine sxf_next fun K2 hK2 => ?_; simp [dNum, dS, binS_eq]; (repeat (refine ⟨by omega, ?_⟩)); refine hK2 _ ?_; clear hK2 K2)
                  refine sxf_nil (hK' _ ?_)
                  clear hK' K'
                  refine hK15 _ (AW.norm [0, 4, 5, 6, 12, 13, 54, 55, 56, 92, 93, 94, 98, 99, 100] [300] (fun _ _ => trivial) (AW.st (by simp [dNum, dS, binS_eq]; rfl) ?_))
                  refine AW_re (tyOf_good _) fun K' hK' => ?_
                  repeat (refine sxf_next fun K2 hK2 => ?_; simp [dNum, dS, binS_eq]; (repeat (refine ⟨by omega, ?_⟩)); refine hK2 _ ?_; clear hK2 K2)
                  refine sxf_nil (hK' _ ?_)
                  clear hK' K'
                  try simp only [thn, inb]
                  refine Again.mk (j + 1) ⟨by omega, hta⟩ (by omega) ?_
                  refine Imp.to' (fun _ _ => trivial) (by simp [dNum, dS, binS_eq, dS, htb]) (by simp [dNum, dS, binS_eq, dS, htb])
                | false =>
                  rw [hth] at htb
                  refine AW_re (tyOf_good _) fun K' hK' => ?_
                  repeat (refine sxf_next fun K2 hK2 => ?_; simp [dNum, dS, binS_eq, binS, bs_list]; (repeat (refine ⟨by omega, ?_⟩)); refine hK2 _ ?_; clear hK2 K2)
                  refine sxf_next fun K2 hK2 => ?_
                  simp [dNum, dS, binS_eq, binS, bs_list]
                  refine callK.data (htz) (by simp; rfl) (by first | exact D.leGo_refl _ | simp [takeMap, List.map_map, Function.comp_def, D.le, D.le.go, D.le_refl, D.leGo_refl, dNum, dS, binS_eq, binS, bs_list]) ?_
                  refine hK2 _ ?_
                  clear hK2 K2
                  simp only [putd, upd_lst]
                  repeat (refine sxf_next fun K2 hK2 => ?_; simp [dNum, dS, binS_eq, binS, bs_list]; (repeat (refine ⟨by omega, ?_⟩)); refine hK2 _ ?_; clear hK2 K2)
                  refine sxf_next fun K2 hK2 => ?_
                  simp [dNum, dS, binS_eq, binS, bs_list]
                  refine callK.data (htxx) (by simp; rfl) (by first | exact D.leGo_refl _ | simp [takeMap, List.map_map, Function.comp_def, D.le, D.le.go, D.le_refl, D.leGo_refl, dNum, dS, binS_eq, binS, bs_list]) ?_
                  refine hK2 _ ?_
                  clear hK2 K2
                  simp only [putd, upd_lst]
                  repeat (refine sxf_next fun K2 hK2 => ?_; simp [dNum, dS, binS_eq, binS, bs_list]; (repeat (refine ⟨by omega, ?_⟩)); refine hK2 _ ?_; clear hK2 K2)
                  refine sxf_nil (hK' _ ?_)
                  clear hK' K'
                  refine hK15 _ (AW.norm [0, 4, 5, 6, 12, 13, 54, 55, 56, 92, 93, 94, 98, 99, 100] [300] (fun _ _ => trivial) (AW.st (by simp [dNum, dS, binS_eq, binS, bs_list]; rfl) ?_))
                  refine AW_re (tyOf_good _) fun K' hK' => ?_
                  repeat (refine sxf_next fun K2 hK2 => ?_; simp [dNum, dS, binS_eq]; (repeat (refine ⟨by omega, ?_⟩)); refine hK2 _ ?_; clear hK2 K2)
                  refine sxf_nil (hK' _ ?_)
                  clear hK' K'
                  try simp only [thn, inb]
                  refine Again.mk (j + 1) ⟨by omega, hta⟩ (by omega) ?_
                  refine Imp.to' (fun _ _ => trivial) (by simp [dNum, dS, binS_eq, dS, htb]) (by simp [dNum, dS, binS_eq, dS, htb])
              · obtain rfl : j = o.length := by omega
                rw [List.take_length] at hno ⊢
                refine AW_exit (hK13 _ ?_)
                cases hth : hasT o (i[m]'hmi) with
                | true =>
                  have hadd : addR o (i[m]'hmi) = some o := by unfold addR; rw [if_neg (by rw [hno]; simp), if_pos hth]
                  rw [hadd] at hso
                  refine AW_rg (tyOf_good _) [0, 4, 5, 6, 12, 54, 55, 56, 92, 93, 94, 123] [300] (fun _ _ => trivial) fun K' hK' => ?_
                  repeat (refine sxf_next fun K2 hK2 => ?_; simp [dNum, dS, binS_eq]; (repeat (refine ⟨by omega, ?_⟩)); refine hK2 _ ?_; clear hK2 K2)
                  refine sxf_nil (hK' _ ?_)
                  refine AW.st (by simp [dNum, dS, binS_eq]; rfl) ?_
                  clear hK' K'
                  refine AW_cond false rfl (fun h => by cases h) (fun _ => ?_)
                  refine AW_skip (hK12 _ ?_)
                  refine AW_re (tyOf_good _) fun K' hK' => ?_
                  repeat (refine sxf_next fun K2 hK2 => ?_; simp [dNum, dS, binS_eq]; (repeat (refine ⟨by omega, ?_⟩)); refine hK2 _ ?_; clear hK2 K2)
                  refine sxf_nil (hK' _ ?_)
                  clear hK' K'
                  try simp only [thn, inb]
                  refine Again.mk (m + 1, o) ⟨by dsimp only; omega, hso, hgo⟩ (by dsimp only; omega) ?_
                  refine Imp.to' (fun _ _ => trivial) (by simp [dNum, dS, binS_eq, dS]) (by simp [dNum, dS, binS_eq, dS])
                | false =>
                  have hadd : addR o (i[m]'hmi) = some (o ++ [i[m]'hmi]) := by unfold addR; rw [if_neg (by rw [hno]; simp), if_neg (by rw [hth]; simp)]
                  rw [hadd] at hso
                  have hg2 := gath_adds hg (fun z hz => htdi z (List.mem_of_mem_take hz)) hso
                  refine AW_rg (tyOf_good _) [0, 4, 5, 6, 12, 54, 55, 56, 92, 93, 94, 123] [300] (fun _ _ => trivial) fun K' hK' => ?_
                  repeat (refine sxf_next fun K2 hK2 => ?_; simp [dNum, dS, binS_eq]; (repeat (refine ⟨by omega, ?_⟩)); refine hK2 _ ?_; clear hK2 K2)
                  refine sxf_nil (hK' _ ?_)
                  refine AW.st (by simp [dNum, dS, binS_eq]; rfl) ?_
                  clear hK' K'
                  refine AW_cond true rfl (fun _ => ?_) (fun h => by cases h)
                  refine AW_re (tyOf_good _) fun K' hK' => ?_
                  repeat (refine sxf_next fun K2 hK2 => ?_; simp [dNum, dS, binS_eq, List.take_of_length_le]; (repeat (refine ⟨by omega, ?_⟩)); refine hK2 _ ?_; clear hK2 K2)
                  refine sxf_nil (hK' _ ?_)
                  clear hK' K'
                  refine hK12 _ (AW.norm [0, 4, 5, 6, 54, 55, 56, 92, 93, 94] [300] (fun _ _ => trivial) (AW.st (by simp [dNum, dS, binS_eq, List.take_of_length_le]; rfl) ?_))
                  refine AW_re (tyOf_good _) fun K' hK' => ?_
                  repeat (refine sxf_next fun K2 hK2 => ?_; simp [dNum, dS, binS_eq]; (repeat (refine ⟨by omega, ?_⟩)); refine hK2 _ ?_; clear hK2 K2)
                  refine sxf_nil (hK' _ ?_)
                  clear hK' K'
                  try simp only [thn, inb]
                  refine Again.mk (m + 1, o ++ [i[m]'hmi]) ⟨by dsimp only; omega, hso, hg2⟩ (by dsimp only; omega) ?_
                  refine Imp.to' (fun _ _ => trivial) (by simp [dNum, dS, binS_eq, dS, hci]) (by simp [dNum, dS, binS_eq, dS, hci])
          · obtain rfl : m = i.length := by omega
            rw [List.take_length] at hpo
            rw [hpo] at hsn
            refine AW_exit (hK7 _ ?_)
            refine AW_re (tyOf_good _) fun K' hK' => ?_
            repeat (refine sxf_next fun K2 hK2 => ?_; simp [dNum, dS, binS_eq]; (repeat (refine ⟨by omega, ?_⟩)); refine hK2 _ ?_; clear hK2 K2)
            refine sxf_nil (hK' _ ?_)
            clear hK' K'
            try simp only [thn, inb]
            refine Again.mk (n + 1, o) ⟨by dsimp only; omega, hsn, hgo⟩ (by dsimp only; omega) ?_
            refine Imp.to' (fun _ _ => trivial) (by simp [dNum, dS, binS_eq, dS]) (by simp [dNum, dS, binS_eq, dS])
    · obtain rfl : n = l.length := by omega
      rw [List.take_length] at hp
      have hol := bEs_len out
      have hbo := parts_b _ _ _ hp
      have hbl := hbt l.length
      rw [List.take_length] at hbl
      simp only [bEs, Nat.zero_add] at hbo
      refine AW_exit (hK5 _ ?_)
      refine AW_then fun K17 hK17 => ?_
      refine AW_rg (tyOf_good _) [0, 4, 6, 131] [300] (fun _ _ => trivial) fun K' hK' => ?_
      repeat (refine sxf_next fun K2 hK2 => ?_; simp [dNum, dS, binS_eq]; (repeat (refine ⟨by omega, ?_⟩)); refine hK2 _ ?_; clear hK2 K2)
      refine sxf_nil (hK' _ ?_)
      refine AW.st (by simp [dNum, dS, binS_eq]; rfl) ?_
      clear hK' K'
      refine AW_block ?_
      match out, hol, hp with
      | [], _, hp =>
        have hfin : dR (finE true (some [])) = .ip [dS [49], dS [], dNil] := rfl
        refine AW_rg (tyOf_good _) [0, 4, 6, 131, 132] [300] (fun _ _ => trivial) fun K' hK' => ?_
        repeat (refine sxf_next fun K2 hK2 => ?_; simp [dNum, dS, binS_eq]; (repeat (refine ⟨by omega, ?_⟩)); refine hK2 _ ?_; clear hK2 K2)
        refine sxf_nil (hK' _ ?_)
        refine AW.st (by simp [dNum, dS, binS_eq]; rfl) ?_
        clear hK' K'
        refine AW_cond true rfl (fun _ => ?_) (fun h => by cases h)
        refine AW_rg (tyOf_good _) [2] [300, 136] (fun _ _ => trivial) fun K' hK' => ?_
        repeat (refine sxf_next fun K2 hK2 => ?_; simp [dNum, dS, binS_eq, dNil]; (repeat (refine ⟨by omega, ?_⟩)); refine hK2 _ ?_; clear hK2 K2)
        refine sxf_nil (hK' _ ?_)
        refine AW.st (by simp [dNum, dS, binS_eq, dNil]; rfl) ?_
        clear hK' K'
        refine AW.imp (Imp.freezeB 136 trivial) ?_
        refine AW.st (by simp [dNum, dS, binS_eq]; rfl) ?_
        refine AW_ret ?_
        simp [D.le, D.le.go, takeMap, dNum, dS, binS_eq, hp, hfin, dS, dNil, bs_nil, D.le_refl, D.leGo_refl]
      | [x], _, hp =>
        have hfin : finE true (some [x]) = x := rfl
        obtain ⟨cx, hx⟩ := dR_ip x
        refine AW_rg (tyOf_good _) [0, 4, 6, 131, 132] [300] (fun _ _ => trivial) fun K' hK' => ?_
        repeat (refine sxf_next fun K2 hK2 => ?_; simp [dNum, dS, binS_eq]; (repeat (refine ⟨by omega, ?_⟩)); refine hK2 _ ?_; clear hK2 K2)
        refine sxf_nil (hK' _ ?_)
        refine AW.st (by simp [dNum, dS, binS_eq]; rfl) ?_
        clear hK' K'
        refine AW_cond false rfl (fun h => by cases h) (fun _ => ?_)
        refine AW_rg (tyOf_good _) [0, 6, 137] [300] (fun _ _ => trivial) fun K' hK' => ?_
        repeat (refine sxf_next fun K2 hK2 => ?_; simp [dNum, dS, binS_eq]; (repeat (refine ⟨by omega, ?_⟩)); refine hK2 _ ?_; clear hK2 K2)
        refine sxf_nil (hK' _ ?_)
        refine AW.st (by simp [dNum, dS, binS_eq]; rfl) ?_
        clear hK' K'
        refine AW_cond true rfl (fun _ => ?_) (fun h => by cases h)
        refine AW_rg (tyOf_good _) [2] [300] (fun _ _ => trivial) fun K' hK' => ?_
        repeat (refine sxf_next fun K2 hK2 => ?_; simp [dNum, dS, binS_eq, hx]; (repeat (refine ⟨by omega, ?_⟩)); refine hK2 _ ?_; clear hK2 K2)
        refine sxf_nil (hK' _ ?_)
        refine AW.st (by simp [dNum, dS, binS_eq, hx]; rfl) ?_
        clear hK' K'
        refine AW_ret ?_
        simp [D.le, D.le.go, takeMap, dNum, dS, binS_eq, hp, hfin, hx, D.le_refl]
      | x :: y :: q, hol, hp =>
        have hfin : dR (finE true (some (x :: y :: q))) = .ip [dS [38], dS [], .sl none ((x :: y :: q).map fun e => [dR e])] := dR_grp true _
        have hl0 : ¬ (((x :: y :: q).length : Int) = 0) := by simp; omega
        have hl1 : ¬ (((x :: y :: q).length : Int) = 1) := by simp; omega
        generalize x :: y :: q = o at hl0 hl1 hol hp hfin ⊢
        have hl0' : ¬ o.length = 0 := by omega
        have hl1' : ¬ o.length = 1 := by omega
        have hl2' : ¬ o = [] := by rintro rfl; simp at hl0
        refine AW_rg (tyOf_good _) [0, 4, 6, 131, 132] [300] (fun _ _ => trivial) fun K' hK' => ?_
        repeat (refine sxf_next fun K2 hK2 => ?_; simp [dNum, dS, binS_eq, hl0, hl0', hl2']; (repeat (refine ⟨by omega, ?_⟩)); refine hK2 _ ?_; clear hK2 K2)
        refine sxf_nil (hK' _ ?_)
        refine AW.st (by simp [dNum, dS, binS_eq, hl0, hl0', hl2']; rfl) ?_
        clear hK' K'
        refine AW_cond false rfl (fun h => by cases h) (fun _ => ?_)
        refine AW_rg (tyOf_good _) [0, 6, 137] [300] (fun _ _ => trivial) fun K' hK' => ?_
        repeat (refine sxf_next fun K2 hK2 => ?_; simp [dNum, dS, binS_eq, hl1, hl1']; (repeat (refine ⟨by omega, ?_⟩)); refine hK2 _ ?_; clear hK2 K2)
        refine sxf_nil (hK' _ ?_)
        refine AW.st (by simp [dNum, dS, binS_eq, hl1, hl1']; rfl) ?_
        clear hK' K'
        refine AW_cond false rfl (fun h => by cases h) (fun _ => ?_)
        refine AW_skip (hK17 _ ?_)
        refine AW.imp (Imp.freeze 300 trivial) ?_
        refine AW.st (by simp [dNum, dS, binS_eq, List.take_of_length_le]; rfl) ?_
        refine AW_rg (tyOf_good _) [2] [148] (fun _ _ => trivial) fun K' hK' => ?_
        repeat (refine sxf_next fun K2 hK2 => ?_; simp [dNum, dS, binS_eq]; (repeat (refine ⟨by omega, ?_⟩)); refine hK2 _ ?_; clear hK2 K2)
        refine sxf_nil (hK' _ ?_)
        refine AW.st (by simp [dNum, dS, binS_eq]; rfl) ?_
        clear hK' K'
        refine AW.imp (Imp.freezeB 148 trivial) ?_
        refine AW.st (by simp [dNum, dS, binS_eq]; rfl) ?_
        refine AW_ret ?_
        simp [D.le, D.le.go, takeMap, dNum, dS, binS_eq, hp, hfin, dS, bs_nil, D.le_refl, D.leGo_refl]
set_option maxHeartbeats 32000000 in
theorem rtidy_or (G : Glob) (l : List Ex) (hw : ∀ x ∈ l, WfE x) (hb : bEs l ≤ 2^27) (hch : ∀ x ∈ l, PureC Tryd.prog G 25 [dR x] (dR (tidE x))) : PureC Tryd.prog G 25 [.ip [dS [124], dS [], .sl none (l.map fun e => [dR e])]] (dR (finE false (partsE false [] (tidL l)))) := by
  have hln := bEs_len l
  rw [tidL_map]
  have hbt : ∀ n, bEs ((l.take n).map tidE) ≤ bEs l := by
    have h : ∀ l2 : List Ex, bEs (l2.map tidE) ≤ bEs l2 := by
      intro l2
      induction l2 with
      | nil => simp
      | cons x l2 ih => have := tidy_b x; simp only [List.map_cons, bEs]; omega
    intro n
    have := bEs_app (l.take n) (l.drop n)
    rw [List.take_append_drop] at this
    have := h (l.take n)
    omega
  refine PureC.of_body (tyOf_good _) Tryd.func25 rfl rfl (rs := [.tmp 2]) Tryd.results25 (by simp [Tryd.ntmps25]) fun X => ?_
  simp only [Tryd.ntmps25, List.map]
  refine AW_rg (tyOf_good _) [0] [] (fun _ _ => trivial) fun K' hK' => ?_
  repeat (refine sxf_next fun K2 hK2 => ?_; simp [dNum, dS, binS_eq]; (repeat (refine ⟨by omega, ?_⟩)); refine hK2 _ ?_; clear hK2 K2)
  refine sxf_nil (hK' _ ?_)
  refine AW.st (by simp [dNum, dS, binS_eq]; rfl) ?_
  clear hK' K'
  refine AW_then fun K1 hK1 => ?_
  refine AW_rg (tyOf_good _) [0, 19] [] (fun _ _ => trivial) fun K' hK' => ?_
  repeat (refine sxf_next fun K2 hK2 => ?_; simp [dNum, dS, binS_eq]; (repeat (refine ⟨by omega, ?_⟩)); refine hK2 _ ?_; clear hK2 K2)
  refine sxf_nil (hK' _ ?_)
  refine AW.st (by simp [dNum, dS, binS_eq]; rfl) ?_
  clear hK' K'
  refine AW_block ?_
  refine AW_rg (tyOf_good _) [0, 19, 20] [] (fun _ _ => trivial) fun K' hK' => ?_
  repeat (refine sxf_next fun K2 hK2 => ?_; simp [dNum, dS, binS_eq]; (repeat (refine ⟨by omega, ?_⟩)); refine hK2 _ ?_; clear hK2 K2)
  refine sxf_nil (hK' _ ?_)
  refine AW.st (by simp [dNum, dS, binS_eq]; rfl) ?_
  clear hK' K'
  refine AW_cond false rfl (fun h => by cases h) (fun _ => ?_)
  refine AW_then fun K3 hK3 => ?_
  refine AW_rg (tyOf_good _) [0, 19, 43] [] (fun _ _ => trivial) fun K' hK' => ?_
  repeat (refine sxf_next fun K2 hK2 => ?_; simp [dNum, dS, binS_eq]; (repeat (refine ⟨by omega, ?_⟩)); refine hK2 _ ?_; clear hK2 K2)
  refine sxf_nil (hK' _ ?_)
  refine AW.st (by simp [dNum, dS, binS_eq]; rfl) ?_
  clear hK' K'
  refine AW_cond false rfl (fun h => by cases h) (fun _ => ?_)
  refine AW_re (tyOf_good _) fun K' hK' => ?_
  repeat (refine sxf_next fun K2 hK2 => ?_; simp [dNum, dS, binS_eq]; (repeat (refine ⟨by omega, ?_⟩)); refine hK2 _ ?_; clear hK2 K2)
  refine sxf_nil (hK' _ ?_)
  clear hK' K'
  refine hK3 _ (AW.norm [0, 43] [] (fun _ _ => trivial) (AW.st (by simp [dNum, dS, binS_eq]; rfl) ?_))
  refine AW_cond true rfl (fun _ => ?_) (fun h => by cases h)
  refine AW_rg (tyOf_good _) [0, 4, 5] [] (fun _ _ => trivial) fun K' hK' => ?_
  repeat (refine sxf_next fun K2 hK2 => ?_; simp [dNum, dS, binS_eq]; (repeat (refine ⟨by omega, ?_⟩)); refine hK2 _ ?_; clear hK2 K2)
  refine sxf_nil (hK' _ ?_)
  refine AW.st (by simp [dNum, dS, binS_eq]; rfl) ?_
  clear hK' K'
  refine AW_then fun K4 hK4 => ?_
  refine AW_rg (tyOf_good _) [0, 4, 5, 50] [] (fun _ _ => trivial) fun K' hK' => ?_
  repeat (refine sxf_next fun K2 hK2 => ?_; simp [dNum, dS, binS_eq]; (repeat (refine ⟨by omega, ?_⟩)); refine hK2 _ ?_; clear hK2 K2)
  refine sxf_nil (hK' _ ?_)
  refine AW.st (by simp [dNum, dS, binS_eq]; rfl) ?_
  clear hK' K'
  refine AW_cond true rfl (fun _ => ?_) (fun h => by cases h)
  refine AW_re (tyOf_good _) fun K' hK' => ?_
  repeat (refine sxf_next fun K2 hK2 => ?_; simp [dNum, dS, binS_eq]; (repeat (refine ⟨by omega, ?_⟩)); refine hK2 _ ?_; clear hK2 K2)
  refine sxf_nil (hK' _ ?_)
  clear hK' K'
  refine hK4 _ (AW.norm [0, 4, 5] [] (fun _ _ => trivial) (AW.st (by simp [dNum, dS, binS_eq]; rfl) ?_))
  refine AW_rg (tyOf_good _) [0, 4, 5, 6] [] (fun _ _ => trivial) fun K' hK' => ?_
  repeat (refine sxf_next fun K2 hK2 => ?_; simp [dNum, dS, binS_eq]; (repeat (refine ⟨by omega, ?_⟩)); refine hK2 _ ?_; clear hK2 K2)
  refine sxf_nil (hK' _ ?_)
  refine AW.st (by simp [dNum, dS, binS_eq]; rfl) ?_
  clear hK' K'
  refine AW_then fun K5 hK5 => ?_
  refine AW_rg (tyOf_good _) [0, 4, 5, 6, 54, 55, 56] [] (fun _ _ => trivial) fun K' hK' => ?_
  repeat (refine sxf_next fun K2 hK2 => ?_; simp [dNum, dS, binS_eq]; (repeat (refine ⟨by omega, ?_⟩)); refine hK2 _ ?_; clear hK2 K2)
  refine sxf_nil (hK' _ ?_)
  refine AW.st (by simp [dNum, dS, binS_eq]; rfl) ?_
  clear hK' K'
  refine AW_for (S := Nat × List Ex) (fun z => z.1 ≤ l.length ∧ partsE false [] ((l.take z.1).map tidE) = some z.2 ∧ Gath false z.2) (fun z => ⟨lst [(0, .d (.ip [dS [124], dS [], .sl none (l.map fun e => [dR e])])), (4, .d (dS [48])), (5, .d (dS [49])), (6, .own 300 0 z.2.length), (54, .d (.sl none (l.map fun e => [dR e]))), (55, int l.length), (56, int z.1)], hlst [(300, .sl 61 1 (z.2.map fun e => [dR e]))]⟩) (fun z => l.length - z.1) (0, []) ?_ ⟨by omega, rfl, by simp, by simp⟩ ?_
  · refine (Imp.adopt 6 300 61 1 rfl rfl).trans ?_
    refine Imp.to' (fun _ _ => trivial) (by simp [dNum, dS, binS_eq, dS, l48, l49]) (by simp [dNum, dS, binS_eq, dS, l48, l49])
  · rintro ⟨n, out⟩ ⟨hn, hp, hg⟩
    dsimp only at hn hp hg ⊢
    refine AW_rg (tyOf_good _) [0, 4, 5, 6, 54, 55, 56, 57] [300] (fun _ _ => trivial) fun K' hK' => ?_
    repeat (refine sxf_next fun K2 hK2 => ?_; simp [dNum, dS, binS_eq]; (repeat (refine ⟨by omega, ?_⟩)); refine hK2 _ ?_; clear hK2 K2)
    refine sxf_nil (hK' _ ?_)
    refine AW.st (by simp [dNum, dS, binS_eq]; rfl) ?_
    clear hK' K'
    refine AW_then fun K6 hK6 => ?_
    refine AW_cond' (b := n < l.length) (by simp [D.le, D.le.go, takeMap, dNum, dS, binS_eq]) (fun hc => ?_) (fun hc => ?_)
    · have hnl : n < l.length := hc
      have hsn := rpartsE_snoc ((l.take n).map tidE) [] out (tidE l[n]) hp
      have hst := rpartsE_stop (and := false) ((l.take (n + 1)).map tidE) [] ((l.drop (n + 1)).map tidE)
      rw [← List.map_append, List.take_append_drop] at hst
      have e1 : (l.take n).map tidE ++ [tidE l[n]] = (l.take (n + 1)).map tidE := by
        rw [List.take_succ_eq_append_getElem hnl, List.map_append]; rfl
      rw [e1] at hsn
      have hbo := parts_b _ _ _ hp
      simp only [bEs, Nat.zero_add] at hbo
      have hbx : bEs out + bE (tidE l[n]) ≤ 2^28 := by
        have h1 := hbt (n + 1)
        rw [← e1, bEs_app] at h1
        simp only [bEs] at h1
        omega
      have htd := tdy_tid (hw _ (List.getElem_mem hnl))
      have htx := hch _ (List.getElem_mem hnl)
      obtain ⟨cx, hx⟩ := dR_ip l[n]
      rw [hx] at htx
      refine AW_skip (hK6 _ ?_)
      refine AW_then fun K7 hK7 => ?_
      refine AW_block ?_
      refine AW_rg (tyOf_good _) [0, 4, 5, 6, 8, 54, 55, 56] [300] (fun _ _ => trivial) fun K' hK' => ?_
      repeat (refine sxf_next fun K2 hK2 => ?_; simp [dNum, dS, binS_eq, hnl, hx]; (repeat (refine ⟨by omega, ?_⟩)); refine hK2 _ ?_; clear hK2 K2)
      refine sxf_nil (hK' _ ?_)
      refine AW.st (by simp [dNum, dS, binS_eq, hnl, hx]; rfl) ?_
      clear hK' K'
      clear hch
      generalize tidE l[n] = y at htx hsn hbx htd
      have hyf := dR_form y
      rw [hyf] at htx
      refine AW_rg (tyOf_good _) [0, 4, 5, 6, 9, 54, 55, 56] [300] (fun _ _ => trivial) fun K' hK' => ?_
      repeat (refine sxf_next fun K2 hK2 => ?_; simp [dNum, dS, binS_eq]; (repeat (refine ⟨by omega, ?_⟩)); refine hK2 _ ?_; clear hK2 K2)
      refine sxf_next fun K2 hK2 => ?_
      simp [dNum, dS, binS_eq]
      refine callK.data (htx) (by simp; rfl) (by first | exact D.leGo_refl _ | simp [takeMap, List.map_map, Function.comp_def, D.le, D.le.go, D.le_refl, D.leGo_refl, dNum, dS, binS_eq]) ?_
      refine hK2 _ ?_
      clear hK2 K2
      simp only [putd, upd_lst]
      repeat (refine sxf_next fun K2 hK2 => ?_; simp [dNum, dS, binS_eq]; (repeat (refine ⟨by omega, ?_⟩)); refine hK2 _ ?_; clear hK2 K2)
      refine sxf_nil (hK' _ ?_)
      refine AW.st (by simp [dNum, dS, binS_eq]; rfl) ?_
      clear hK' K'
      refine AW_rg (tyOf_good _) [0, 4, 5, 6, 9, 10, 54, 55, 56] [300, 63] (fun _ _ => trivial) fun K' hK' => ?_
      repeat (refine sxf_next fun K2 hK2 => ?_; simp [dNum, dS, binS_eq]; (repeat (refine ⟨by omega, ?_⟩)); refine hK2 _ ?_; clear hK2 K2)
      refine sxf_nil (hK' _ ?_)
      refine AW.st (by simp [dNum, dS, binS_eq]; rfl) ?_
      clear hK' K'
      refine AW.imp (Imp.freeze 63 trivial) ?_
      refine AW.st (by simp [dNum, dS, binS_eq]; rfl) ?_
      refine AW_then fun K8 hK8 => ?_
      by_cases hall : y = .cst true
      · subst hall
        have hpc : piecesE false (.cst true) = none := rfl
        rw [hpc] at hsn
        have hE := hst hsn
        have hfin : dR (finE false none) = .ip [dS [49], dS [], dNil] := rfl
        have hkd : kdR (.cst true) = [49] := rfl
        refine AW_rd (tyOf_good _) (by kernel_rfl) [0, 4, 5, 6, 9, 10, 54, 55, 56, 72] [300] (fun _ _ => trivial) (by kernel_rfl) fun K' hK' => ?_
        repeat (refine sxd_next fun K2 hK2 => ?_; simp [dNum, dS, binS_eq, hkd, binS, bs_list]; (repeat (refine ⟨by omega, ?_⟩)); refine hK2 _ ?_; clear hK2 K2)
        refine sxd_nil (hK' _ ?_)
        refine AW.st (by simp [dNum, dS, binS_eq, hkd, binS, bs_list]; rfl) ?_
        clear hK' K'
        refine AW_cond false rfl (fun h => by cases h) (fun _ => ?_)
        refine AW_skip (hK8 _ ?_)
        refine AW_then fun K9 hK9 => ?_
        refine AW_rg (tyOf_good _) [0, 4, 5, 6, 9, 10, 54, 55, 56, 82] [300] (fun _ _ => trivial) fun K' hK' => ?_
        repeat (refine sxf_next fun K2 hK2 => ?_; simp [dNum, dS, binS_eq, hkd, bs_list, binS]; (repeat (refine ⟨by omega, ?_⟩)); refine hK2 _ ?_; clear hK2 K2)
        refine sxf_nil (hK' _ ?_)
        refine AW.st (by simp [dNum, dS, binS_eq, hkd, bs_list, binS]; rfl) ?_
        clear hK' K'
        refine AW_cond false rfl (fun h => by cases h) (fun _ => ?_)
        refine AW_skip (hK9 _ ?_)
        refine AW_then fun K10 hK10 => ?_
        refine AW_rg (tyOf_good _) [0, 4, 5, 6, 10, 54, 55, 56, 88] [300] (fun _ _ => trivial) fun K' hK' => ?_
        repeat (refine sxf_next fun K2 hK2 => ?_; simp [dNum, dS, binS_eq, hkd, bs_list, binS]; (repeat (refine ⟨by omega, ?_⟩)); refine hK2 _ ?_; clear hK2 K2)
        refine sxf_nil (hK' _ ?_)
        refine AW.st (by simp [dNum, dS, binS_eq, hkd, bs_list, binS]; rfl) ?_
        clear hK' K'
        refine AW_cond true rfl (fun _ => ?_) (fun h => by cases h)
        refine AW_rg (tyOf_good _) [2] [300, 91] (fun _ _ => trivial) fun K' hK' => ?_
        repeat (refine sxf_next fun K2 hK2 => ?_; simp [dNum, dS, binS_eq, dNil]; (repeat (refine ⟨by omega, ?_⟩)); refine hK2 _ ?_; clear hK2 K2)
        refine sxf_nil (hK' _ ?_)
        refine AW.st (by simp [dNum, dS, binS_eq, dNil]; rfl) ?_
        clear hK' K'
        refine AW.imp (Imp.freezeB 91 trivial) ?_
        refine AW.st (by simp [dNum, dS, binS_eq]; rfl) ?_
        refine AW_ret ?_
        simp [D.le, D.le.go, takeMap, dNum, dS, binS_eq, hE, hfin, dS, dNil, bs_nil, D.le_refl, D.leGo_refl]
      obtain ⟨i, hpi⟩ : ∃ i, piecesE false y = some i := by
        cases hpy : piecesE false y with
        | some i => exact ⟨i, rfl⟩
        | none =>
          exfalso
          apply hall
          cases y with
          | cst b => cases b <;> first | rfl | cases hpy
          | _ => cases hpy
      rw [hpi] at hsn
      dsimp only at hsn
      have htdi := pieces_td htd hpi
      have hbi := pieces_b hpi
      obtain ⟨k, hk⟩ : ∃ k : Option Bool, k = if isC y then some false else none := ⟨_, rfl⟩
      refine' lateV (fun hrest => ?_) ?_
      rotate_left
      · by_cases hcst : isC y = true
        · have hy : y = .cst false := by
            cases y with
            | cst b => cases b <;> first | rfl | exact absurd rfl hall
            | _ => cases hcst
          have hi0 : i = [] := by rw [hy] at hpi; exact (Option.some.inj hpi).symm
          have hk0 : k = some false := by rw [hk, hcst]; rfl
          have hkd : kdR y = [48] := by rw [hy]; rfl
          refine AW_rd (tyOf_good _) (by kernel_rfl) [0, 4, 5, 6, 9, 10, 54, 55, 56, 72] [300] (fun _ _ => trivial) (by kernel_rfl) fun K' hK' => ?_
          repeat (refine sxd_next fun K2 hK2 => ?_; simp [dNum, dS, binS_eq, hkd, binS, bs_list]; (repeat (refine ⟨by omega, ?_⟩)); refine hK2 _ ?_; clear hK2 K2)
          refine sxd_nil (hK' _ ?_)
          refine AW.st (by simp [dNum, dS, binS_eq, hkd, binS, bs_list]; rfl) ?_
          clear hK' K'
          refine AW_cond false rfl (fun h => by cases h) (fun _ => ?_)
          refine AW_skip (hK8 _ ?_)
          refine AW_then fun K9 hK9 => ?_
          refine AW_rg (tyOf_good _) [0, 4, 5, 6, 9, 10, 54, 55, 56, 82] [300] (fun _ _ => trivial) fun K' hK' => ?_
          repeat (refine sxf_next fun K2 hK2 => ?_; simp [dNum, dS, binS_eq, hkd, bs_list, binS]; (repeat (refine ⟨by omega, ?_⟩)); refine hK2 _ ?_; clear hK2 K2)
          refine sxf_nil (hK' _ ?_)
          refine AW.st (by simp [dNum, dS, binS_eq, hkd, bs_list, binS]; rfl) ?_
          clear hK' K'
          refine AW_cond true rfl (fun _ => ?_) (fun h => by cases h)
          refine AW_re (tyOf_good _) fun K' hK' => ?_
          repeat (refine sxf_next fun K2 hK2 => ?_; simp [dNum, dS, binS_eq]; (repeat (refine ⟨by omega, ?_⟩)); refine hK2 _ ?_; clear hK2 K2)
          refine sxf_nil (hK' _ ?_)
          clear hK' K'
          refine hK9 _ (AW.norm [0, 4, 5, 6, 9, 10, 54, 55, 56] [300] (fun _ _ => trivial) (AW.st (by simp [dNum, dS, binS_eq]; rfl) ?_))
          refine AW_then fun K10 hK10 => ?_
          refine AW_rg (tyOf_good _) [0, 4, 5, 6, 10, 54, 55, 56, 88] [300] (fun _ _ => trivial) fun K' hK' => ?_
          repeat (refine sxf_next fun K2 hK2 => ?_; simp [dNum, dS, binS_eq, hkd, bs_list, binS]; (repeat (refine ⟨by omega, ?_⟩)); refine hK2 _ ?_; clear hK2 K2)
          refine sxf_nil (hK' _ ?_)
          refine AW.st (by simp [dNum, dS, binS_eq, hkd, bs_list, binS]; rfl) ?_
          clear hK' K'
          refine AW_cond false rfl (fun h => by cases h) (fun _ => ?_)
          refine AW_skip (hK10 _ ?_)
          refine AW.imp (τ := ⟨lst [(0, .d (.ip [dS [124], dS [], .sl none (l.map fun e => [dR e])])), (4, .d (dS [48])), (5, .d (dS [49])), (6, .own 300 0 out.length), (10, .d (.sl k (i.map fun e => [dR e]))), (54, .d (.sl none (l.map fun e => [dR e]))), (55, int l.length), (56, int n)], hlst [(300, .sl 61 1 (out.map fun e => [dR e]))]⟩) ?_ ?_
          · refine Imp.to' (fun _ _ => trivial) (by simp [dNum, dS, binS_eq, dS, hi0, hk0]) (by simp [dNum, dS, binS_eq, dS, hi0, hk0])
          exact hrest.out
        have hcf : isC y = false := by simpa using hcst
        obtain ⟨k48, k49⟩ := kd_cst hcf
        have hk0 : k = none := by rw [hk, hcf]; rfl
        by_cases hgr : ∃ m, y = .or m
        · obtain ⟨m, hm⟩ := hgr
          have hi0 : i = m := by rw [hm] at hpi; exact (Option.some.inj hpi).symm
          have hkd : kdR y = [124] := by rw [hm]; rfl
          have hof : ofR y = .sl none (i.map fun e => [dR e]) := by rw [hm, hi0]; simp [ofR, dRs_map]
          refine AW_rd (tyOf_good _) (by kernel_rfl) [0, 4, 5, 6, 9, 10, 54, 55, 56, 72] [300] (fun _ _ => trivial) (by kernel_rfl) fun K' hK' => ?_
          repeat (refine sxd_next fun K2 hK2 => ?_; simp [dNum, dS, binS_eq, hkd, binS, bs_list]; (repeat (refine ⟨by omega, ?_⟩)); refine hK2 _ ?_; clear hK2 K2)
          refine sxd_nil (hK' _ ?_)
          refine AW.st (by simp [dNum, dS, binS_eq, hkd, binS, bs_list]; rfl) ?_
          clear hK' K'
          refine AW_cond true rfl (fun _ => ?_) (fun h => by cases h)
          refine AW_re (tyOf_good _) fun K' hK' => ?_
          repeat (refine sxf_next fun K2 hK2 => ?_; simp [dNum, dS, binS_eq, hof]; (repeat (refine ⟨by omega, ?_⟩)); refine hK2 _ ?_; clear hK2 K2)
          refine sxf_nil (hK' _ ?_)
          clear hK' K'
          refine hK8 _ (AW.norm [0, 4, 5, 6, 9, 10, 54, 55, 56] [300] (fun _ _ => trivial) (AW.st (by simp [dNum, dS, binS_eq, hof]; rfl) ?_))
          refine AW_then fun K9 hK9 => ?_
          refine AW_rg (tyOf_good _) [0, 4, 5, 6, 9, 10, 54, 55, 56, 82] [300] (fun _ _ => trivial) fun K' hK' => ?_
          repeat (refine sxf_next fun K2 hK2 => ?_; simp [dNum, dS, binS_eq, hkd, bs_list, binS]; (repeat (refine ⟨by omega, ?_⟩)); refine hK2 _ ?_; clear hK2 K2)
          refine sxf_nil (hK' _ ?_)
          refine AW.st (by simp [dNum, dS, binS_eq, hkd, bs_list, binS]; rfl) ?_
          clear hK' K'
          refine AW_cond false rfl (fun h => by cases h) (fun _ => ?_)
          refine AW_skip (hK9 _ ?_)
          refine AW_then fun K10 hK10 => ?_
          refine AW_rg (tyOf_good _) [0, 4, 5, 6, 10, 54, 55, 56, 88] [300] (fun _ _ => trivial) fun K' hK' => ?_
          repeat (refine sxf_next fun K2 hK2 => ?_; simp [dNum, dS, binS_eq, hkd, bs_list, binS]; (repeat (refine ⟨by omega, ?_⟩)); refine hK2 _ ?_; clear hK2 K2)
          refine sxf_nil (hK' _ ?_)
          refine AW.st (by simp [dNum, dS, binS_eq, hkd, bs_list, binS]; rfl) ?_
          clear hK' K'
          refine AW_cond false rfl (fun h => by cases h) (fun _ => ?_)
          refine AW_skip (hK10 _ ?_)
          refine AW.imp (τ := ⟨lst [(0, .d (.ip [dS [124], dS [], .sl none (l.map fun e => [dR e])])), (4, .d (dS [48])), (5, .d (dS [49])), (6, .own 300 0 out.length), (10, .d (.sl k (i.map fun e => [dR e]))), (54, .d (.sl none (l.map fun e => [dR e]))), (55, int l.length), (56, int n)], hlst [(300, .sl 61 1 (out.map fun e => [dR e]))]⟩) ?_ ?_
          · refine Imp.to' (fun _ _ => trivial) (by simp [dNum, dS, binS_eq, dS, hk0]) (by simp [dNum, dS, binS_eq, dS, hk0])
          exact hrest.out
        have hkk : ¬ kdR y = [124] := by
          cases y with
          | or m => exact absurd ⟨m, rfl⟩ hgr
          | cst b => cases b <;> simp [kdR]
          | _ => simp [kdR]
        have hi0 : i = [y] := by
          cases y with
          | or m => exact absurd ⟨m, rfl⟩ hgr
          | cst b => cases hcf
          | _ => exact (Option.some.inj hpi).symm
        have hkb : (kdR y == [124]) = false := by simpa using hkk
        have hk48 : (kdR y == [48]) = false := by simpa using k48
        have hk49 : (kdR y == [49]) = false := by simpa using k49
        refine AW_rd (tyOf_good _) (by kernel_rfl) [0, 4, 5, 6, 9, 10, 54, 55, 56, 72] [300] (fun _ _ => trivial) (by kernel_rfl) fun K' hK' => ?_
        repeat (refine sxd_next fun K2 hK2 => ?_; simp [dNum, dS, binS_eq, hkk, hkb, binS, bs_list]; (repeat (refine ⟨by omega, ?_⟩)); refine hK2 _ ?_; clear hK2 K2)
        refine sxd_nil (hK' _ ?_)
        refine AW.st (by simp [dNum, dS, binS_eq, hkk, hkb, binS, bs_list]; rfl) ?_
        clear hK' K'
        refine AW_cond false rfl (fun h => by cases h) (fun _ => ?_)
        refine AW_skip (hK8 _ ?_)
        refine AW_then fun K9 hK9 => ?_
        refine AW_rg (tyOf_good _) [0, 4, 5, 6, 9, 10, 54, 55, 56, 82] [300] (fun _ _ => trivial) fun K' hK' => ?_
        repeat (refine sxf_next fun K2 hK2 => ?_; simp [dNum, dS, binS_eq, k48, k49, hk48, hk49, bs_list, binS]; (repeat (refine ⟨by omega, ?_⟩)); refine hK2 _ ?_; clear hK2 K2)
        refine sxf_nil (hK' _ ?_)
        refine AW.st (by simp [dNum, dS, binS_eq, k48, k49, hk48, hk49, bs_list, binS]; rfl) ?_
        clear hK' K'
        refine AW_cond false rfl (fun h => by cases h) (fun _ => ?_)
        refine AW_skip (hK9 _ ?_)
        refine AW_then fun K10 hK10 => ?_
        refine AW_rg (tyOf_good _) [0, 4, 5, 6, 10, 54, 55, 56, 88] [300] (fun _ _ => trivial) fun K' hK' => ?_
        repeat (refine sxf_next fun K2 hK2 => ?_; simp [dNum, dS, binS_eq, k48, k49, hk48, hk49, bs_list, binS]; (repeat (refine ⟨by omega, ?_⟩)); refine hK2 _ ?_; clear hK2 K2)
        refine sxf_nil (hK' _ ?_)
        refine AW.st (by simp [dNum, dS, binS_eq, k48, k49, hk48, hk49, bs_list, binS]; rfl) ?_
        clear hK' K'
        refine AW_cond false rfl (fun h => by cases h) (fun _ => ?_)
        refine AW_skip (hK10 _ ?_)
        refine AW.imp (τ := ⟨lst [(0, .d (.ip [dS [124], dS [], .sl none (l.map fun e => [dR e])])), (4, .d (dS [48])), (5, .d (dS [49])), (6, .own 300 0 out.length), (10, .d (.sl k (i.map fun e => [dR e]))), (54, .d (.sl none (l.map fun e => [dR e]))), (55, int l.length), (56, int n)], hlst [(300, .sl 61 1 (out.map fun e => [dR e]))]⟩) ?_ ?_
        · refine Imp.to' (fun _ _ => trivial) (by simp [dNum, dS, binS_eq, dS, hk0, hi0, hyf]) (by simp [dNum, dS, binS_eq, dS, hk0, hi0, hyf])
        exact hrest.out
      · refine AW_rg (tyOf_good _) [0, 4, 5, 6, 54, 55, 56, 92, 93, 94] [300] (fun _ _ => trivial) fun K' hK' => ?_
        repeat (refine sxf_next fun K2 hK2 => ?_; simp [dNum, dS, binS_eq]; (repeat (refine ⟨by omega, ?_⟩)); refine hK2 _ ?_; clear hK2 K2)
        refine sxf_nil (hK' _ ?_)
        refine AW.st (by simp [dNum, dS, binS_eq]; rfl) ?_
        clear hK' K'
        have hil := bEs_len i
        refine AW_for (S := Nat × List Ex) (fun z => z.1 ≤ i.length ∧ addsE out (i.take z.1) = some z.2 ∧ Gath false z.2) (fun z => ⟨lst [(0, .d (.ip [dS [124], dS [], .sl none (l.map fun e => [dR e])])), (4, .d (dS [48])), (5, .d (dS [49])), (6, .own 300 0 z.2.length), (54, .d (.sl none (l.map fun e => [dR e]))), (55, int l.length), (56, int n), (92, .d (.sl k (i.map fun e => [dR e]))), (93, int i.length), (94, int z.1)], hlst [(300, .sl 61 1 (z.2.map fun e => [dR e]))]⟩) (fun z => i.length - z.1) (0, out) ?_ ⟨by omega, rfl, hg⟩ ?_
        · refine Imp.to' (fun _ _ => trivial) (by simp [dNum, dS, binS_eq, dS]) (by simp [dNum, dS, binS_eq, dS])
        · rintro ⟨m, o⟩ ⟨hm, hpo, hgo⟩
          dsimp only at hm hpo hgo ⊢
          refine AW_rg (tyOf_good _) [0, 4, 5, 6, 54, 55, 56, 92, 93, 94, 95] [300] (fun _ _ => trivial) fun K' hK' => ?_
          repeat (refine sxf_next fun K2 hK2 => ?_; simp [dNum, dS, binS_eq]; (repeat (refine ⟨by omega, ?_⟩)); refine hK2 _ ?_; clear hK2 K2)
          refine sxf_nil (hK' _ ?_)
          refine AW.st (by simp [dNum, dS, binS_eq]; rfl) ?_
          clear hK' K'
          refine AW_then fun K11 hK11 => ?_
          refine AW_cond' (b := m < i.length) (by simp [D.le, D.le.go, takeMap, dNum, dS, binS_eq]) (fun hc => ?_) (fun hc => ?_)
          · have hmi : m < i.length := hc
            have hxi := htdi _ (List.getElem_mem hmi)
            have hso := addsE_snoc (i.take m) out o i[m] hpo
            have hsto := addsE_stop (i.take (m + 1)) out (i.drop (m + 1))
            rw [List.take_append_drop] at hsto
            rw [← List.take_succ_eq_append_getElem hmi] at hso
            have hbo2 := adds_b _ _ _ hpo
            have htk := bEs_app (i.take m) (i.drop m)
            rw [List.take_append_drop] at htk
            have hbm := bEs_mem (List.getElem_mem hmi)
            have hol := bEs_len o
            have hos : ∀ z ∈ o, bE z ≤ bEs o := fun z hz => bEs_mem hz
            rw [← add_same hgo hxi] at hso
            have hbot := oth_b i[m]
            have hto := rother_spec G i[m]
            have htox := rtxt_spec G (othE i[m]) (by have := wr_len (othE i[m]); omega)
            have htxx := rtxt_spec G i[m] (by have := wr_len i[m]; omega)
            have hw1 : wrE (othE i[m]) 0 = wr0 (othE i[m]) := rfl
            have hw2 : wrE i[m] 0 = wr0 i[m] := rfl
            rw [hw1] at htox
            rw [hw2] at htxx
            obtain ⟨co, hco⟩ := dR_ip (othE i[m])
            obtain ⟨ci, hci⟩ := dR_ip i[m]
            rw [hco] at hto htox
            rw [hci] at hto htxx
            refine AW_skip (hK11 _ ?_)
            refine AW_then fun K12 hK12 => ?_
            refine AW_block ?_
            refine AW_rg (tyOf_good _) [0, 4, 5, 6, 12, 54, 55, 56, 92, 93, 94] [300] (fun _ _ => trivial) fun K' hK' => ?_
            repeat (refine sxf_next fun K2 hK2 => ?_; simp [dNum, dS, binS_eq, hmi, hci]; (repeat (refine ⟨by omega, ?_⟩)); refine hK2 _ ?_; clear hK2 K2)
            refine sxf_nil (hK' _ ?_)
            refine AW.st (by simp [dNum, dS, binS_eq, hmi, hci]; rfl) ?_
            clear hK' K'
            refine AW_rg (tyOf_good _) [0, 4, 5, 6, 12, 13, 54, 55, 56, 92, 93, 94] [300] (fun _ _ => trivial) fun K' hK' => ?_
            repeat (refine sxf_next fun K2 hK2 => ?_; simp [dNum, dS, binS_eq]; (repeat (refine ⟨by omega, ?_⟩)); refine hK2 _ ?_; clear hK2 K2)
            refine sxf_nil (hK' _ ?_)
            refine AW.st (by simp [dNum, dS, binS_eq]; rfl) ?_
            clear hK' K'
            refine AW_then fun K13 hK13 => ?_
            refine AW_rg (tyOf_good _) [0, 4, 5, 6, 12, 13, 54, 55, 56, 92, 93, 94, 98, 99, 100] [300] (fun _ _ => trivial) fun K' hK' => ?_
            repeat (refine sxf_next fun K2 hK2 => ?_; simp [dNum, dS, binS_eq]; (repeat (refine ⟨by omega, ?_⟩)); refine hK2 _ ?_; clear hK2 K2)
            refine sxf_nil (hK' _ ?_)
            refine AW.st (by simp [dNum, dS, binS_eq]; rfl) ?_
            clear hK' K'
            refine AW_for (S := Nat) (fun j => j ≤ o.length ∧ hasT (o.take j) (othE (i[m]'hmi)) = false) (fun j => ⟨lst [(0, .d (.ip [dS [124], dS [], .sl none (l.map fun e => [dR e])])), (4, .d (dS [48])), (5, .d (dS [49])), (6, .own 300 0 o.length), (12, .d (.ip ci)), (54, .d (.sl none (l.map fun e => [dR e]))), (55, int l.length), (56, int n), (92, .d (.sl k (i.map fun e => [dR e]))), (93, int i.length), (94, int m), (13, .d (.v (.bool (hasT (o.take j) (i[m]'hmi))))), (98, .own 300 0 o.length), (99, int o.length), (100, int j)], hlst [(300, .sl 61 1 (o.map fun e => [dR e]))]⟩) (fun j => o.length - j) 0 ?_ ⟨by omega, rfl⟩ ?_
            · refine Imp.to' (fun _ _ => trivial) (by simp [dNum, dS, binS_eq, dS, hasT]) (by simp [dNum, dS, binS_eq, dS, hasT])
            · rintro j ⟨hj, hno⟩
              refine AW_rg (tyOf_good _) [0, 4, 5, 6, 12, 13, 54, 55, 56, 92, 93, 94, 98, 99, 100, 101] [300] (fun _ _ => trivial) fun K' hK' => ?_
              repeat (refine sxf_next fun K2 hK2 => ?_; simp [dNum, dS, binS_eq]; (repeat (refine ⟨by omega, ?_⟩)); refine hK2 _ ?_; clear hK2 K2)
              refine sxf_nil (hK' _ ?_)
              refine AW.st (by simp [dNum, dS, binS_eq]; rfl) ?_
              clear hK' K'
              refine AW_then fun K14 hK14 => ?_
              refine AW_cond' (b := j < o.length) (by simp [D.le, D.le.go, takeMap, dNum, dS, binS_eq]) (fun hc => ?_) (fun hc => ?_)
              · have hjo : j < o.length := hc
                have htz := rtxt_spec G o[j] (by have := wr_len o[j]; have := hos _ (List.getElem_mem hjo); omega)
                have hw3 : wrE o[j] 0 = wr0 o[j] := rfl
                rw [hw3] at htz
                have hta := has_take (x := othE (i[m]'hmi)) hjo
                have htb := has_take (x := i[m]'hmi) hjo
                have hhr := has_here (x := othE (i[m]'hmi)) hjo
                obtain ⟨cz, hcz⟩ := dR_ip o[j]
                rw [hcz] at htz
                refine AW_skip (hK14 _ ?_)
                refine AW_then fun K15 hK15 => ?_
                refine AW_block ?_
                refine AW_rg (tyOf_good _) [0, 4, 5, 6, 12, 13, 15, 54, 55, 56, 92, 93, 94, 98, 99, 100] [300] (fun _ _ => trivial) fun K' hK' => ?_
                repeat (refine sxf_next fun K2 hK2 => ?_; simp [dNum, dS, binS_eq, hjo, hcz]; (repeat (refine ⟨by omega, ?_⟩)); refine hK2 _ ?_; clear hK2 K2)
                refine sxf_nil (hK' _ ?_)
                refine AW.st (by simp [dNum, dS, binS_eq, hjo, hcz]; rfl) ?_
                clear hK' K'
                refine AW_then fun K16 hK16 => ?_
                by_cases heq : wr0 (o[j]'hjo) = wr0 (othE (i[m]'hmi))
                · have hnone : addR o (i[m]'hmi) = none := by unfold addR; rw [if_pos (hhr heq)]
                  rw [hnone] at hso
                  rw [hsto hso] at hsn
                  have hE := hst hsn
                  have hfin : dR (finE false none) = .ip [dS [49], dS [], dNil] := rfl
                  refine AW_rg (tyOf_good _) [0, 4, 5, 6, 12, 13, 15, 54, 55, 56, 92, 93, 94, 98, 99, 100, 109] [300] (fun _ _ => trivial) fun K' hK' => ?_
                  repeat (refine sxf_next fun K2 hK2 => ?_; simp [dNum, dS, binS_eq, heq, binS, bs_list]; (repeat (refine ⟨by omega, ?_⟩)); refine hK2 _ ?_; clear hK2 K2)
                  refine sxf_next fun K2 hK2 => ?_
                  simp [dNum, dS, binS_eq, heq, binS, bs_list]
                  refine callK.data (htz) (by simp; rfl) (by first | exact D.leGo_refl _ | simp [takeMap, List.map_map, Function.comp_def, D.le, D.le.go, D.le_refl, D.leGo_refl, dNum, dS, binS_eq, heq, binS, bs_list]) ?_
                  refine hK2 _ ?_
                  clear hK2 K2
                  simp only [putd, upd_lst]
                  repeat (refine sxf_next fun K2 hK2 => ?_; simp [dNum, dS, binS_eq, heq, binS, bs_list]; (repeat (refine ⟨by omega, ?_⟩)); refine hK2 _ ?_; clear hK2 K2)
                  refine sxf_next fun K2 hK2 => ?_
                  simp [dNum, dS, binS_eq, heq, binS, bs_list]
                  refine callK.data (hto) (by simp; rfl) (by first | exact D.leGo_refl _ | simp [takeMap, List.map_map, Function.comp_def, D.le, D.le.go, D.le_refl, D.leGo_refl, dNum, dS, binS_eq, heq, binS, bs_list]) ?_
                  refine hK2 _ ?_
                  clear hK2 K2
                  simp only [putd, upd_lst]
                  repeat (refine sxf_next fun K2 hK2 => ?_; simp [dNum, dS, binS_eq, heq, binS, bs_list]; (repeat (refine ⟨by omega, ?_⟩)); refine hK2 _ ?_; clear hK2 K2)
                  refine sxf_next fun K2 hK2 => ?_
                  simp [dNum, dS, binS_eq, heq, binS, bs_list]
                  refine callK.data (htox) (by simp; rfl) (by first | exact D.leGo_refl _ | simp [takeMap, List.map_map, Function.comp_def, D.le, D.le.go, D.le_refl, D.leGo_refl, dNum, dS, binS_eq, heq, binS, bs_list]) ?_
                  refine hK2 _ ?_
                  clear hK2 K2
                  simp only [putd, upd_lst]
                  repeat (refine sxf_next fun K2 hK2 => ?_; simp [dNum, dS, binS_eq, heq, binS, bs_list]; (repeat (refine ⟨by omega, ?_⟩)); refine hK2 _ ?_; clear hK2 K2)
                  refine sxf_nil (hK' _ ?_)
                  refine AW.st (by simp [dNum, dS, binS_eq, heq, binS, bs_list]; rfl) ?_
                  clear hK' K'
                  refine AW_cond true rfl (fun _ => ?_) (fun h => by cases h)
                  refine AW_rg (tyOf_good _) [2] [300, 112] (fun _ _ => trivial) fun K' hK' => ?_
                  repeat (refine sxf_next fun K2 hK2 => ?_; simp [dNum, dS, binS_eq, dNil]; (repeat (refine ⟨by omega, ?_⟩)); refine hK2 _ ?_; clear hK2 K2)
                  refine sxf_nil (hK' _ ?_)
                  refine AW.st (by simp [dNum, dS, binS_eq, dNil]; rfl) ?_
                  clear hK' K'
                  refine AW.imp (Imp.freezeB 112 trivial) ?_
                  refine AW.st (by simp [dNum, dS, binS_eq]; rfl) ?_
                  refine AW_ret ?_
                  simp [D.le, D.le.go, takeMap, dNum, dS, binS_eq, hE, hfin, dS, dNil, bs_nil, D.le_refl, D.leGo_refl]
                have heqb : (wr0 (o[j]'hjo) == wr0 (othE (i[m]'hmi))) = false := by simpa using heq
                rw [hno, heqb] at hta
                refine AW_rg (tyOf_good _) [0, 4, 5, 6, 12, 13, 15, 54, 55, 56, 92, 93, 94, 98, 99, 100, 109] [300] (fun _ _ => trivial) fun K' hK' => ?_
                repeat (refine sxf_next fun K2 hK2 => ?_; simp [dNum, dS, binS_eq, heq, heqb, binS, bs_list]; (repeat (refine ⟨by omega, ?_⟩)); refine hK2 _ ?_; clear hK2 K2)
                refine sxf_next fun K2 hK2 => ?_
                simp [dNum, dS, binS_eq, heq, heqb, binS, bs_list]
                refine callK.data (htz) (by simp; rfl) (by first | exact D.leGo_refl _ | simp [takeMap, List.map_map, Function.comp_def, D.le, D.le.go, D.le_refl, D.leGo_refl, dNum, dS, binS_eq, heq, heqb, binS, bs_list]) ?_
                refine hK2 _ ?_
                clear hK2 K2
                simp only [putd, upd_lst]
                repeat (refine sxf_next fun K2 hK2 => ?_; simp [dNum, dS, binS_eq, heq, heqb, binS, bs_list]; (repeat (refine ⟨by omega, ?_⟩)); refine hK2 _ ?_; clear hK2 K2)
                refine sxf_next fun K2 hK2 => ?_
                simp [dNum, dS, binS_eq, heq, heqb, binS, bs_list]
                refine callK.data (hto) (by simp; rfl) (by first | exact D.leGo_refl _ | simp [takeMap, List.map_map, Function.comp_def, D.le, D.le.go, D.le_refl, D.leGo_refl, dNum, dS, binS_eq, heq, heqb, binS, bs_list]) ?_
                refine hK2 _ ?_
                clear hK2 K2
                simp only [putd, upd_lst]
                repeat (refine sxf_next fun K2 hK2 => ?_; simp [dNum, dS, binS_eq, heq, heqb, binS, bs_list]; (repeat (refine ⟨by omega, ?_⟩)); refine hK2 _ ?_; clear hK2 K2)
                refine sxf_next fun K2 hK2 => ?_
                simp [dNum, dS, binS_eq, heq, heqb, binS, bs_list]
                refine callK.data (htox) (by simp; rfl) (by first | exact D.leGo_refl _ | simp [takeMap, List.map_map, Function.comp_def, D.le, D.le.go, D.le_refl, D.leGo_refl, dNum, dS, binS_eq, heq, heqb, binS, bs_list]) ?_
                refine hK2 _ ?_
                clear hK2 K2
                simp only [putd, upd_lst]
                repeat (refine sxf_next fun K2 hK2 => ?_; simp [dNum, dS, binS_eq, heq, heqb, binS, bs_list]; (repeat (refine ⟨by omega, ?_⟩)); refine hK2 _ ?_; clear hK2 K2)
                refine sxf_nil (hK' _ ?_)
                refine AW.st (by simp [dNum, dS, binS_eq, heq, heqb, binS, bs_list]; rfl) ?_
                clear hK' K'
                refine AW_cond false rfl (fun h => by cases h) (fun _ => ?_)
                refine AW_skip (hK16 _ ?_)
                cases hth : hasT (o.take j) (i[m]'hmi) with
                | true =>
                  rw [hth] at htb
                  refine AW_re (tyOf_good _) fun K' hK' => ?_
                  repeat (refine sxf_next fun K2 hK2 => ?_; simp [dNum, dS, binS_eq]; (repeat (refine ⟨by omega, ?_⟩)); refine hK2 _ ?_; clear hK2 K2)
                  refine sxf_nil (hK' _ ?_)
                  clear hK' K'
                  refine hK15 _ (AW.norm [0, 4, 5, 6, 12, 13, 54, 55, 56, 92, 93, 94, 98, 99, 100] [300] (fun _ _ => trivial) (AW.st (by simp [dNum, dS, binS_eq]; rfl) ?_))
                  refine AW_re (tyOf_good _) fun K' hK' => ?_
                  repeat (refine sxf_next fun K2 hK2 => ?_; simp [dNum, dS, binS_eq]; (repeat (refine ⟨by omega, ?_⟩)); refine hK2 _ ?_; clear hK2 K2)
                  refine sxf_nil (hK' _ ?_)
                  clear hK' K'
                  try simp only [thn, inb]
                  refine Again.mk (j + 1) ⟨by omega, hta⟩ (by omega) ?_
                  refine Imp.to' (fun _ _ => trivial) (by simp [dNum, dS, binS_eq, dS, htb]) (by simp [dNum, dS, binS_eq, dS, htb])
                | false =>
                  rw [hth] at htb
                  refine AW_re (tyOf_good _) fun K' hK' => ?_
                  repeat (refine sxf_next fun K2 hK2 => ?_; simp [dNum, dS, binS_eq, binS, bs_list]; (repeat (refine ⟨by omega, ?_⟩)); refine hK2 _ ?_; clear hK2 K2)
                  refine sxf_next fun K2 hK2 => ?_
                  simp [dNum, dS, binS_eq, binS, bs_list]
                  refine callK.data (htz) (by simp; rfl) (by first | exact D.leGo_refl _ | simp [takeMap, List.map_map, Function.comp_def, D.le, D.le.go, D.le_refl, D.leGo_refl, dNum, dS, binS_eq, binS, bs_list]) ?_
                  refine hK2 _ ?_
                  clear hK2 K2
                  simp only [putd, upd_lst]
                  repeat (refine sxf_next fun K2 hK2 => ?_; simp [dNum, dS, binS_eq, binS, bs_list]; (repeat (refine ⟨by omega, ?_⟩)); refine hK2 _ ?_; clear hK2 K2)
                  refine sxf_next fun K2 hK2 => ?_
                  simp [dNum, dS, binS_eq, binS, bs_list]
                  refine callK.data (htxx) (by simp; rfl) (by first | exact D.leGo_refl _ | simp [takeMap, List.map_map, Function.comp_def, D.le, D.le.go, D.le_refl, D.leGo_refl, dNum, dS, binS_eq, binS, bs_list]) ?_
                  refine hK2 _ ?_
                  clear hK2 K2
                  simp only [putd, upd_lst]
                  repeat (refine sxf_next fun K2 hK2 => ?_; simp [dNum, dS, binS_eq, binS, bs_list]; (repeat (refine ⟨by omega, ?_⟩)); refine hK2 _ ?_; clear hK2 K2)
                  refine sxf_nil (hK' _ ?_)
                  clear hK' K'
                  refine hK15 _ (AW.norm [0, 4, 5, 6, 12, 13, 54, 55, 56, 92, 93, 94, 98, 99, 100] [300] (fun _ _ => trivial) (AW.st (by simp [dNum, dS, binS_eq, binS, bs_list]; rfl) ?_))
                  refine AW_re (tyOf_good _) fun K' hK' => ?_
                  repeat (refine sxf_next fun K2 hK2 => ?_; simp [dNum, dS, binS_eq]; (repeat (refine ⟨by omega, ?_⟩)); refine hK2 _ ?_; clear hK2 K2)
                  refine sxf_nil (hK' _ ?_)
                  clear hK' K'
                  try simp only [thn, inb]
                  refine Again.mk (j + 1) ⟨by omega, hta⟩ (by omega) ?_
                  refine Imp.to' (fun _ _ => trivial) (by simp [dNum, dS, binS_eq, dS, htb]) (by simp [dNum, dS, binS_eq, dS, htb])
              · obtain rfl : j = o.length := by omega
                rw [List.take_length] at hno ⊢
                refine AW_exit (hK13 _ ?_)
                cases hth : hasT o (i[m]'hmi) with
                | true =>
                  have hadd : addR o (i[m]'hmi) = some o := by unfold addR; rw [if_neg (by rw [hno]; simp), if_pos hth]
                  rw [hadd] at hso
                  refine AW_rg (tyOf_good _) [0, 4, 5, 6, 12, 54, 55, 56, 92, 93, 94, 123] [300] (fun _ _ => trivial) fun K' hK' => ?_
                  repeat (refine sxf_next fun K2 hK2 => ?_; simp [dNum, dS, binS_eq]; (repeat (refine ⟨by omega, ?_⟩)); refine hK2 _ ?_; clear hK2 K2)
                  refine sxf_nil (hK' _ ?_)
                  refine AW.st (by simp [dNum, dS, binS_eq]; rfl) ?_
                  clear hK' K'
                  refine AW_cond false rfl (fun h => by cases h) (fun _ => ?_)
                  refine AW_skip (hK12 _ ?_)
                  refine AW_re (tyOf_good _) fun K' hK' => ?_
                  repeat (refine sxf_next fun K2 hK2 => ?_; simp [dNum, dS, binS_eq]; (repeat (refine ⟨by omega, ?_⟩)); refine hK2 _ ?_; clear hK2 K2)
                  refine sxf_nil (hK' _ ?_)
                  clear hK' K'
                  try simp only [thn, inb]
                  refine Again.mk (m + 1, o) ⟨by dsimp only; omega, hso, hgo⟩ (by dsimp only; omega) ?_
                  refine Imp.to' (fun _ _ => trivial) (by simp [dNum, dS, binS_eq, dS]) (by simp [dNum, dS, binS_eq, dS])
                | false =>
                  have hadd : addR o (i[m]'hmi) = some (o ++ [i[m]'hmi]) := by unfold addR; rw [if_neg (by rw [hno]; simp), if_neg (by rw [hth]; simp)]
                  rw [hadd] at hso
                  have hg2 := gath_adds hg (fun z hz => htdi z (List.mem_of_mem_take hz)) hso
                  refine AW_rg (tyOf_good _) [0, 4, 5, 6, 12, 54, 55, 56, 92, 93, 94, 123] [300] (fun _ _ => trivial) fun K' hK' => ?_
                  repeat (refine sxf_next fun K2 hK2 => ?_; simp [dNum, dS, binS_eq]; (repeat (refine ⟨by omega, ?_⟩)); refine hK2 _ ?_; clear hK2 K2)
                  refine sxf_nil (hK' _ ?_)
                  refine AW.st (by simp [dNum, dS, binS_eq]; rfl) ?_
                  clear hK' K'
                  refine AW_cond true rfl (fun _ => ?_) (fun h => by cases h)
                  refine AW_re (tyOf_good _) fun K' hK' => ?_
                  repeat (refine sxf_next fun K2 hK2 => ?_; simp [dNum, dS, binS_eq, List.take_of_length_le]; (repeat (refine ⟨by omega, ?_⟩)); refine hK2 _ ?_; clear hK2 K2)
                  refine sxf_nil (hK' _ ?_)
                  clear hK' K'
                  refine hK12 _ (AW.norm [0, 4, 5, 6, 54, 55, 56, 92, 93, 94] [300] (fun _ _ => trivial) (AW.st (by simp [dNum, dS, binS_eq, List.take_of_length_le]; rfl) ?_))
                  refine AW_re (tyOf_good _) fun K' hK' => ?_
                  repeat (refine sxf_next fun K2 hK2 => ?_; simp [dNum, dS, binS_eq]; (repeat (refine ⟨by omega, ?_⟩)); refine hK2 _ ?_; clear hK2 K2)
                  refine sxf_nil (hK' _ ?_)
                  clear hK' K'
                  try simp only [thn, inb]
                  refine Again.mk (m + 1, o ++ [i[m]'hmi]) ⟨by dsimp only; omega, hso, hg2⟩ (by dsimp only; omega) ?_
                  refine Imp.to' (fun _ _ => trivial) (by simp [dNum, dS, binS_eq, dS, hci]) (by simp [dNum, dS, binS_eq, dS, hci])
          · obtain rfl : m = i.length := by omega
            rw [List.take_length] at hpo
            rw [hpo] at hsn
            refine AW_exit (hK7 _ ?_)
            refine AW_re (tyOf_good _) fun K' hK' => ?_
            repeat (refine sxf_next fun K2 hK2 => ?_; simp [dNum, dS, binS_eq]; (repeat (refine ⟨by omega, ?_⟩)); refine hK2 _ ?_; clear hK2 K2)
            refine sxf_nil (hK' _ ?_)
            clear hK' K'
            try simp only [thn, inb]
            refine Again.mk (n + 1, o) ⟨by dsimp only; omega, hsn, hgo⟩ (by dsimp only; omega) ?_
            refine Imp.to' (fun _ _ => trivial) (by simp [dNum, dS, binS_eq, dS]) (by simp [dNum, dS, binS_eq, dS])
    · obtain rfl : n = l.length := by omega
      rw [List.take_length] at hp
      have hol := bEs_len out
      have hbo := parts_b _ _ _ hp
      have hbl := hbt l.length
      rw [List.take_length] at hbl
      simp only [bEs, Nat.zero_add] at hbo
      refine AW_exit (hK5 _ ?_)
      refine AW_then fun K17 hK17 => ?_
      refine AW_rg (tyOf_good _) [0, 4, 6, 131] [300] (fun _ _ => trivial) fun K' hK' => ?_
      repeat (refine sxf_next fun K2 hK2 => ?_; simp [dNum, dS, binS_eq]; (repeat (refine ⟨by omega, ?_⟩)); refine hK2 _ ?_; clear hK2 K2)
      refine sxf_nil (hK' _ ?_)
      refine AW.st (by simp [dNum, dS, binS_eq]; rfl) ?_
      clear hK' K'
      refine AW_block ?_
      match out, hol, hp with
      | [], _, hp =>
        have hfin : dR (finE false (some [])) = .ip [dS [48], dS [], dNil] := rfl
        refine AW_rg (tyOf_good _) [0, 4, 6, 131, 132] [300] (fun _ _ => trivial) fun K' hK' => ?_
        repeat (refine sxf_next fun K2 hK2 => ?_; simp [dNum, dS, binS_eq]; (repeat (refine ⟨by omega, ?_⟩)); refine hK2 _ ?_; clear hK2 K2)
        refine sxf_nil (hK' _ ?_)
        refine AW.st (by simp [dNum, dS, binS_eq]; rfl) ?_
        clear hK' K'
        refine AW_cond true rfl (fun _ => ?_) (fun h => by cases h)
        refine AW_rg (tyOf_good _) [2] [300, 136] (fun _ _ => trivial) fun K' hK' => ?_
        repeat (refine sxf_next fun K2 hK2 => ?_; simp [dNum, dS, binS_eq, dNil]; (repeat (refine ⟨by omega, ?_⟩)); refine hK2 _ ?_; clear hK2 K2)
        refine sxf_nil (hK' _ ?_)
        refine AW.st (by simp [dNum, dS, binS_eq, dNil]; rfl) ?_
        clear hK' K'
        refine AW.imp (Imp.freezeB 136 trivial) ?_
        refine AW.st (by simp [dNum, dS, binS_eq]; rfl) ?_
        refine AW_ret ?_
        simp [D.le, D.le.go, takeMap, dNum, dS, binS_eq, hp, hfin, dS, dNil, bs_nil, D.le_refl, D.leGo_refl]
      | [x], _, hp =>
        have hfin : finE false (some [x]) = x := rfl
        obtain ⟨cx, hx⟩ := dR_ip x
        refine AW_rg (tyOf_good _) [0, 4, 6, 131, 132] [300] (fun _ _ => trivial) fun K' hK' => ?_
        repeat (refine sxf_next fun K2 hK2 => ?_; simp [dNum, dS, binS_eq]; (repeat (refine ⟨by omega, ?_⟩)); refine hK2 _ ?_; clear hK2 K2)
        refine sxf_nil (hK' _ ?_)
        refine AW.st (by simp [dNum, dS, binS_eq]; rfl) ?_
        clear hK' K'
        refine AW_cond false rfl (fun h => by cases h) (fun _ => ?_)
        refine AW_rg (tyOf_good _) [0, 6, 137] [300] (fun _ _ => trivial) fun K' hK' => ?_
        repeat (refine sxf_next fun K2 hK2 => ?_; simp [dNum, dS, binS_eq]; (repeat (refine ⟨by omega, ?_⟩)); refine hK2 _ ?_; clear hK2 K2)
        refine sxf_nil (hK' _ ?_)
        refine AW.st (by simp [dNum, dS, binS_eq]; rfl) ?_
        clear hK' K'
        refine AW_cond true rfl (fun _ => ?_) (fun h => by cases h)
        refine AW_rg (tyOf_good _) [2] [300] (fun _ _ => trivial) fun K' hK' => ?_
        repeat (refine sxf_next fun K2 hK2 => ?_; simp [dNum, dS, binS_eq, hx]; (repeat (refine ⟨by omega, ?_⟩)); refine hK2 _ ?_; clear hK2 K2)
        refine sxf_nil (hK' _ ?_)
        refine AW.st (by simp [dNum, dS, binS_eq, hx]; rfl) ?_
        clear hK' K'
        refine AW_ret ?_
        simp [D.le, D.le.go, takeMap, dNum, dS, binS_eq, hp, hfin, hx, D.le_refl]
      | x :: y :: q, hol, hp =>
        have hfin : dR (finE false (some (x :: y :: q))) = .ip [dS [124], dS [], .sl none ((x :: y :: q).map fun e => [dR e])] := dR_grp false _
        have hl0 : ¬ (((x :: y :: q).length : Int) = 0) := by simp; omega
        have hl1 : ¬ (((x :: y :: q).length : Int) = 1) := by simp; omega
        generalize x :: y :: q = o at hl0 hl1 hol hp hfin ⊢
        have hl0' : ¬ o.length = 0 := by omega
        have hl1' : ¬ o.length = 1 := by omega
        have hl2' : ¬ o = [] := by rintro rfl; simp at hl0
        refine AW_rg (tyOf_good _) [0, 4, 6, 131, 132] [300] (fun _ _ => trivial) fun K' hK' => ?_
        repeat (refine sxf_next fun K2 hK2 => ?_; simp [dNum, dS, binS_eq, hl0, hl0', hl2']; (repeat (refine ⟨by omega, ?_⟩)); refine hK2 _ ?_; clear hK2 K2)
        refine sxf_nil (hK' _ ?_)
        refine AW.st (by simp [dNum, dS, binS_eq, hl0, hl0', hl2']; rfl) ?_
        clear hK' K'
        refine AW_cond false rfl (fun h => by cases h) (fun _ => ?_)
        refine AW_rg (tyOf_good _) [0, 6, 137] [300] (fun _ _ => trivial) fun K' hK' => ?_
        repeat (refine sxf_next fun K2 hK2 => ?_; simp [dNum, dS, binS_eq, hl1, hl1']; (repeat (refine ⟨by omega, ?_⟩)); refine hK2 _ ?_; clear hK2 K2)
        refine sxf_nil (hK' _ ?_)
        refine AW.st (by simp [dNum, dS, binS_eq, hl1, hl1']; rfl) ?_
        clear hK' K'
        refine AW_cond false rfl (fun h => by cases h) (fun _ => ?_)
        refine AW_skip (hK17 _ ?_)
        refine AW.imp (Imp.freeze 300 trivial) ?_
        refine AW.st (by simp [dNum, dS, binS_eq, List.take_of_length_le]; rfl) ?_
        refine AW_rg (tyOf_good _) [2] [148] (fun _ _ => trivial) fun K' hK' => ?_
        repeat (refine sxf_next fun K2 hK2 => ?_; simp [dNum, dS, binS_eq]; (repeat (refine ⟨by omega, ?_⟩)); refine hK2 _ ?_; clear hK2 K2)
        refine sxf_nil (hK' _ ?_)
        refine AW.st (by simp [dNum, dS, binS_eq]; rfl) ?_
        clear hK' K'
        refine AW.imp (Imp.freezeB 148 trivial) ?_
        refine AW.st (by simp [dNum, dS, binS_eq]; rfl) ?_
        refine AW_ret ?_
        simp [D.le, D.le.go, takeMap, dNum, dS, binS_eq, hp, hfin, dS, bs_nil, D.le_refl, D.leGo_refl]
set_option maxHeartbeats 16000000 in
theorem rtidy_at (G : Glob) : ∀ (n : Nat) (e : Ex), SizeOf.sizeOf e ≤ n → WfE e → bE e ≤ 2^27 → PureC Tryd.prog G 25 [dR e] (dR (tidE e)) := by
  intro n
  induction n with
  | zero => intro e hsz; cases e <;> simp at hsz
  | succ n ih =>
    intro e hsz hw hb
    by_cases hN : ∃ x, e = .not x
    · obtain ⟨x, rfl⟩ := hN
      have hc := ih x (by simp at hsz; omega) hw (by simp only [bE] at hb; omega)
      have ho := rother_spec G (tidE x)
      obtain ⟨cx, hx⟩ := dR_ip x
      rw [tidE, dR, hx]
      rw [hx] at hc
      generalize tidE x = y at hc ho ⊢
      by_cases hcst : isC y = true
      · obtain ⟨b, rfl⟩ : ∃ b, y = .cst b := by
          cases y with
          | cst b => exact ⟨b, rfl⟩
          | _ => cases hcst
        cases b with
        | false =>
          have hf : dR (notE (.cst false)) = .ip [dS [49], dS [], dNil] := rfl
          have hg : dR (.cst false) = .ip [dS [48], dS [], dNil] := rfl
          rw [hf]
          rw [hg] at hc
          refine PureC.of_body (tyOf_good _) Tryd.func25 rfl rfl (rs := [.tmp 2]) Tryd.results25 (by simp [Tryd.ntmps25]) fun X => ?_
          simp only [Tryd.ntmps25, List.map]
          refine AW_rg (tyOf_good _) [0] [] (fun _ _ => trivial) fun K' hK' => ?_
          repeat (refine sxf_next fun K2 hK2 => ?_; simp [dNum, dS, binS_eq]; (repeat (refine ⟨by omega, ?_⟩)); refine hK2 _ ?_; clear hK2 K2)
          refine sxf_nil (hK' _ ?_)
          refine AW.st (by simp [dNum, dS, binS_eq]; rfl) ?_
          clear hK' K'
          refine AW_then fun K1 hK1 => ?_
          refine AW_rg (tyOf_good _) [0, 19] [] (fun _ _ => trivial) fun K' hK' => ?_
          repeat (refine sxf_next fun K2 hK2 => ?_; simp [dNum, dS, binS_eq]; (repeat (refine ⟨by omega, ?_⟩)); refine hK2 _ ?_; clear hK2 K2)
          refine sxf_nil (hK' _ ?_)
          refine AW.st (by simp [dNum, dS, binS_eq]; rfl) ?_
          clear hK' K'
          refine AW_block ?_
          refine AW_rg (tyOf_good _) [0, 19, 20] [] (fun _ _ => trivial) fun K' hK' => ?_
          repeat (refine sxf_next fun K2 hK2 => ?_; simp [dNum, dS, binS_eq]; (repeat (refine ⟨by omega, ?_⟩)); refine hK2 _ ?_; clear hK2 K2)
          refine sxf_nil (hK' _ ?_)
          refine AW.st (by simp [dNum, dS, binS_eq]; rfl) ?_
          clear hK' K'
          refine AW_cond true rfl (fun _ => ?_) (fun h => by cases h)
          refine AW_rg (tyOf_good _) [3] [] (fun _ _ => trivial) fun K' hK' => ?_
          repeat (refine sxf_next fun K2 hK2 => ?_; simp [dNum, dS, binS_eq]; (repeat (refine ⟨by omega, ?_⟩)); refine hK2 _ ?_; clear hK2 K2)
          refine sxf_next fun K2 hK2 => ?_
          simp [dNum, dS, binS_eq]
          refine callK.data (hc) (by simp; rfl) (by first | exact D.leGo_refl _ | simp [takeMap, List.map_map, Function.comp_def, D.le, D.le.go, D.le_refl, D.leGo_refl, dNum, dS, binS_eq]) ?_
          refine hK2 _ ?_
          clear hK2 K2
          simp only [putd, upd_lst]
          repeat (refine sxf_next fun K2 hK2 => ?_; simp [dNum, dS, binS_eq]; (repeat (refine ⟨by omega, ?_⟩)); refine hK2 _ ?_; clear hK2 K2)
          refine sxf_nil (hK' _ ?_)
          refine AW.st (by simp [dNum, dS, binS_eq]; rfl) ?_
          clear hK' K'
          refine AW_then fun K2 hK2 => ?_
          refine AW_rg (tyOf_good _) [3, 32] [] (fun _ _ => trivial) fun K' hK' => ?_
          repeat (refine sxf_next fun K2 hK2 => ?_; simp [dNum, dS, binS_eq]; (repeat (refine ⟨by omega, ?_⟩)); refine hK2 _ ?_; clear hK2 K2)
          refine sxf_nil (hK' _ ?_)
          refine AW.st (by simp [dNum, dS, binS_eq]; rfl) ?_
          clear hK' K'
          refine AW_block ?_
          refine AW_rg (tyOf_good _) [3, 32, 33] [] (fun _ _ => trivial) fun K' hK' => ?_
          repeat (refine sxf_next fun K2 hK2 => ?_; simp [dNum, dS, binS_eq]; (repeat (refine ⟨by omega, ?_⟩)); refine hK2 _ ?_; clear hK2 K2)
          refine sxf_nil (hK' _ ?_)
          refine AW.st (by simp [dNum, dS, binS_eq]; rfl) ?_
          clear hK' K'
          refine AW_cond true rfl (fun _ => ?_) (fun h => by cases h)
          refine AW_rg (tyOf_good _) [2] [36] (fun _ _ => trivial) fun K' hK' => ?_
          repeat (refine sxf_next fun K2 hK2 => ?_; simp [dNum, dS, binS_eq, dNil, l49]; (repeat (refine ⟨by omega, ?_⟩)); refine hK2 _ ?_; clear hK2 K2)
          refine sxf_nil (hK' _ ?_)
          refine AW.st (by simp [dNum, dS, binS_eq, dNil, l49]; rfl) ?_
          clear hK' K'
          refine AW.imp (Imp.freezeB 36 trivial) ?_
          refine AW.st (by simp [dNum, dS, binS_eq]; rfl) ?_
          refine AW_ret ?_
          simp [D.le, D.le.go, takeMap, dNum, dS, binS_eq, dS, dNil, bs_nil, D.le_refl, D.leGo_refl]
        | true =>
          have hf : dR (notE (.cst true)) = .ip [dS [48], dS [], dNil] := rfl
          have hg : dR (.cst true) = .ip [dS [49], dS [], dNil] := rfl
          rw [hf]
          rw [hg] at hc
          refine PureC.of_body (tyOf_good _) Tryd.func25 rfl rfl (rs := [.tmp 2]) Tryd.results25 (by simp [Tryd.ntmps25]) fun X => ?_
          simp only [Tryd.ntmps25, List.map]
          refine AW_rg (tyOf_good _) [0] [] (fun _ _ => trivial) fun K' hK' => ?_
          repeat (refine sxf_next fun K2 hK2 => ?_; simp [dNum, dS, binS_eq]; (repeat (refine ⟨by omega, ?_⟩)); refine hK2 _ ?_; clear hK2 K2)
          refine sxf_nil (hK' _ ?_)
          refine AW.st (by simp [dNum, dS, binS_eq]; rfl) ?_
          clear hK' K'
          refine AW_then fun K1 hK1 => ?_
          refine AW_rg (tyOf_good _) [0, 19] [] (fun _ _ => trivial) fun K' hK' => ?_
          repeat (refine sxf_next fun K2 hK2 => ?_; simp [dNum, dS, binS_eq]; (repeat (refine ⟨by omega, ?_⟩)); refine hK2 _ ?_; clear hK2 K2)
          refine sxf_nil (hK' _ ?_)
          refine AW.st (by simp [dNum, dS, binS_eq]; rfl) ?_
          clear hK' K'
          refine AW_block ?_
          refine AW_rg (tyOf_good _) [0, 19, 20] [] (fun _ _ => trivial) fun K' hK' => ?_
          repeat (refine sxf_next fun K2 hK2 => ?_; simp [dNum, dS, binS_eq]; (repeat (refine ⟨by omega, ?_⟩)); refine hK2 _ ?_; clear hK2 K2)
          refine sxf_nil (hK' _ ?_)
          refine AW.st (by simp [dNum, dS, binS_eq]; rfl) ?_
          clear hK' K'
          refine AW_cond true rfl (fun _ => ?_) (fun h => by cases h)
          refine AW_rg (tyOf_good _) [3] [] (fun _ _ => trivial) fun K' hK' => ?_
          repeat (refine sxf_next fun K2 hK2 => ?_; simp [dNum, dS, binS_eq]; (repeat (refine ⟨by omega, ?_⟩)); refine hK2 _ ?_; clear hK2 K2)
          refine sxf_next fun K2 hK2 => ?_
          simp [dNum, dS, binS_eq]
          refine callK.data (hc) (by simp; rfl) (by first | exact D.leGo_refl _ | simp [takeMap, List.map_map, Function.comp_def, D.le, D.le.go, D.le_refl, D.leGo_refl, dNum, dS, binS_eq]) ?_
          refine hK2 _ ?_
          clear hK2 K2
          simp only [putd, upd_lst]
          repeat (refine sxf_next fun K2 hK2 => ?_; simp [dNum, dS, binS_eq]; (repeat (refine ⟨by omega, ?_⟩)); refine hK2 _ ?_; clear hK2 K2)
          refine sxf_nil (hK' _ ?_)
          refine AW.st (by simp [dNum, dS, binS_eq]; rfl) ?_
          clear hK' K'
          refine AW_then fun K2 hK2 => ?_
          refine AW_rg (tyOf_good _) [3, 32] [] (fun _ _ => trivial) fun K' hK' => ?_
          repeat (refine sxf_next fun K2 hK2 => ?_; simp [dNum, dS, binS_eq]; (repeat (refine ⟨by omega, ?_⟩)); refine hK2 _ ?_; clear hK2 K2)
          refine sxf_nil (hK' _ ?_)
          refine AW.st (by simp [dNum, dS, binS_eq]; rfl) ?_
          clear hK' K'
          refine AW_block ?_
          refine AW_rg (tyOf_good _) [3, 32, 33] [] (fun _ _ => trivial) fun K' hK' => ?_
          repeat (refine sxf_next fun K2 hK2 => ?_; simp [dNum, dS, binS_eq]; (repeat (refine ⟨by omega, ?_⟩)); refine hK2 _ ?_; clear hK2 K2)
          refine sxf_nil (hK' _ ?_)
          refine AW.st (by simp [dNum, dS, binS_eq]; rfl) ?_
          clear hK' K'
          refine AW_cond false rfl (fun h => by cases h) (fun _ => ?_)
          refine AW_rg (tyOf_good _) [3, 37] [] (fun _ _ => trivial) fun K' hK' => ?_
          repeat (refine sxf_next fun K2 hK2 => ?_; simp [dNum, dS, binS_eq]; (repeat (refine ⟨by omega, ?_⟩)); refine hK2 _ ?_; clear hK2 K2)
          refine sxf_nil (hK' _ ?_)
          refine AW.st (by simp [dNum, dS, binS_eq]; rfl) ?_
          clear hK' K'
          refine AW_cond true rfl (fun _ => ?_) (fun h => by cases h)
          refine AW_rg (tyOf_good _) [2] [40] (fun _ _ => trivial) fun K' hK' => ?_
          repeat (refine sxf_next fun K2 hK2 => ?_; simp [dNum, dS, binS_eq, dNil, l48]; (repeat (refine ⟨by omega, ?_⟩)); refine hK2 _ ?_; clear hK2 K2)
          refine sxf_nil (hK' _ ?_)
          refine AW.st (by simp [dNum, dS, binS_eq, dNil, l48]; rfl) ?_
          clear hK' K'
          refine AW.imp (Imp.freezeB 40 trivial) ?_
          refine AW.st (by simp [dNum, dS, binS_eq]; rfl) ?_
          refine AW_ret ?_
          simp [D.le, D.le.go, takeMap, dNum, dS, binS_eq, dS, dNil, bs_nil, D.le_refl, D.leGo_refl]
      · have hcf : isC y = false := by simpa using hcst
        obtain ⟨k48, k49⟩ := kd_cst hcf
        have hne : notE y = othE y := by
          cases y with
          | cst b => cases hcf
          | _ => rfl
        rw [hne]
        obtain ⟨co, hco⟩ := dR_ip (othE y)
        rw [hco] at ho ⊢
        rw [dR_form y] at hc ho
        refine PureC.of_body (tyOf_good _) Tryd.func25 rfl rfl (rs := [.tmp 2]) Tryd.results25 (by simp [Tryd.ntmps25]) fun X => ?_
        simp only [Tryd.ntmps25, List.map]
        refine AW_rg (tyOf_good _) [0] [] (fun _ _ => trivial) fun K' hK' => ?_
        repeat (refine sxf_next fun K2 hK2 => ?_; simp [dNum, dS, binS_eq]; (repeat (refine ⟨by omega, ?_⟩)); refine hK2 _ ?_; clear hK2 K2)
        refine sxf_nil (hK' _ ?_)
        refine AW.st (by simp [dNum, dS, binS_eq]; rfl) ?_
        clear hK' K'
        refine AW_then fun K1 hK1 => ?_
        refine AW_rg (tyOf_good _) [0, 19] [] (fun _ _ => trivial) fun K' hK' => ?_
        repeat (refine sxf_next fun K2 hK2 => ?_; simp [dNum, dS, binS_eq]; (repeat (refine ⟨by omega, ?_⟩)); refine hK2 _ ?_; clear hK2 K2)
        refine sxf_nil (hK' _ ?_)
        refine AW.st (by simp [dNum, dS, binS_eq]; rfl) ?_
        clear hK' K'
        refine AW_block ?_
        refine AW_rg (tyOf_good _) [0, 19, 20] [] (fun _ _ => trivial) fun K' hK' => ?_
        repeat (refine sxf_next fun K2 hK2 => ?_; simp [dNum, dS, binS_eq]; (repeat (refine ⟨by omega, ?_⟩)); refine hK2 _ ?_; clear hK2 K2)
        refine sxf_nil (hK' _ ?_)
        refine AW.st (by simp [dNum, dS, binS_eq]; rfl) ?_
        clear hK' K'
        refine AW_cond true rfl (fun _ => ?_) (fun h => by cases h)
        refine AW_rg (tyOf_good _) [3] [] (fun _ _ => trivial) fun K' hK' => ?_
        repeat (refine sxf_next fun K2 hK2 => ?_; simp [dNum, dS, binS_eq]; (repeat (refine ⟨by omega, ?_⟩)); refine hK2 _ ?_; clear hK2 K2)
        refine sxf_next fun K2 hK2 => ?_
        simp [dNum, dS, binS_eq]
        refine callK.data (hc) (by simp; rfl) (by first | exact D.leGo_refl _ | simp [takeMap, List.map_map, Function.comp_def, D.le, D.le.go, D.le_refl, D.leGo_refl, dNum, dS, binS_eq]) ?_
        refine hK2 _ ?_
        clear hK2 K2
        simp only [putd, upd_lst]
        repeat (refine sxf_next fun K2 hK2 => ?_; simp [dNum, dS, binS_eq]; (repeat (refine ⟨by omega, ?_⟩)); refine hK2 _ ?_; clear hK2 K2)
        refine sxf_nil (hK' _ ?_)
        refine AW.st (by simp [dNum, dS, binS_eq]; rfl) ?_
        clear hK' K'
        refine AW_then fun K2 hK2 => ?_
        refine AW_rg (tyOf_good _) [3, 32] [] (fun _ _ => trivial) fun K' hK' => ?_
        repeat (refine sxf_next fun K2 hK2 => ?_; simp [dNum, dS, binS_eq]; (repeat (refine ⟨by omega, ?_⟩)); refine hK2 _ ?_; clear hK2 K2)
        refine sxf_nil (hK' _ ?_)
        refine AW.st (by simp [dNum, dS, binS_eq]; rfl) ?_
        clear hK' K'
        refine AW_block ?_
        refine AW_rg (tyOf_good _) [3, 32, 33] [] (fun _ _ => trivial) fun K' hK' => ?_
        repeat (refine sxf_next fun K2 hK2 => ?_; simp [dNum, dS, binS_eq, k48]; (repeat (refine ⟨by omega, ?_⟩)); refine hK2 _ ?_; clear hK2 K2)
        refine sxf_nil (hK' _ ?_)
        refine AW.st (by simp [dNum, dS, binS_eq, k48]; rfl) ?_
        clear hK' K'
        refine AW_cond false rfl (fun h => by cases h) (fun _ => ?_)
        refine AW_rg (tyOf_good _) [3, 37] [] (fun _ _ => trivial) fun K' hK' => ?_
        repeat (refine sxf_next fun K2 hK2 => ?_; simp [dNum, dS, binS_eq, k49]; (repeat (refine ⟨by omega, ?_⟩)); refine hK2 _ ?_; clear hK2 K2)
        refine sxf_nil (hK' _ ?_)
        refine AW.st (by simp [dNum, dS, binS_eq, k49]; rfl) ?_
        clear hK' K'
        refine AW_cond false rfl (fun h => by cases h) (fun _ => ?_)
        refine AW_skip (hK2 _ ?_)
        refine AW_rg (tyOf_good _) [2] [] (fun _ _ => trivial) fun K' hK' => ?_
        repeat (refine sxf_next fun K2 hK2 => ?_; simp [dNum, dS, binS_eq]; (repeat (refine ⟨by omega, ?_⟩)); refine hK2 _ ?_; clear hK2 K2)
        refine sxf_next fun K2 hK2 => ?_
        simp [dNum, dS, binS_eq]
        refine callK.data (ho) (by simp; rfl) (by first | exact D.leGo_refl _ | simp [takeMap, List.map_map, Function.comp_def, D.le, D.le.go, D.le_refl, D.leGo_refl, dNum, dS, binS_eq]) ?_
        refine hK2 _ ?_
        clear hK2 K2
        simp only [putd, upd_lst]
        repeat (refine sxf_next fun K2 hK2 => ?_; simp [dNum, dS, binS_eq]; (repeat (refine ⟨by omega, ?_⟩)); refine hK2 _ ?_; clear hK2 K2)
        refine sxf_nil (hK' _ ?_)
        refine AW.st (by simp [dNum, dS, binS_eq]; rfl) ?_
        clear hK' K'
        refine AW_ret ?_
        simp [D.le, D.le.go, takeMap, dNum, dS, binS_eq, D.le_refl, D.leGo_refl]
    by_cases hA : ∃ l, e = .and l
    · obtain ⟨l, rfl⟩ := hA
      have := rtidy_and G l ((WfEs_iff _).1 hw.2) (by simp only [bE] at hb; omega) (fun x hx => ih x (by have := List.sizeOf_lt_of_mem hx; simp only [Ex.and.sizeOf_spec] at hsz; omega) ((WfEs_iff _).1 hw.2 x hx) (by have := bEs_mem hx; simp only [bE] at hb; omega))
      rw [tidE, dR, dRs_map]
      exact this
    by_cases hO : ∃ l, e = .or l
    · obtain ⟨l, rfl⟩ := hO
      have := rtidy_or G l ((WfEs_iff _).1 hw.2) (by simp only [bE] at hb; omega) (fun x hx => ih x (by have := List.sizeOf_lt_of_mem hx; simp only [Ex.or.sizeOf_spec] at hsz; omega) ((WfEs_iff _).1 hw.2 x hx) (by have := bEs_mem hx; simp only [bE] at hb; omega))
      rw [tidE, dR, dRs_map]
      exact this
    have hid : tidE e = e := by
      cases e with
      | not x => exact absurd ⟨x, rfl⟩ hN
      | and x => exact absurd ⟨x, rfl⟩ hA
      | or x => exact absurd ⟨x, rfl⟩ hO
      | _ => rfl
    have hk33 : ¬ kdR e = [33] := kd_not (by
      cases e with
      | not x => exact absurd ⟨x, rfl⟩ hN
      | _ => rfl)
    obtain ⟨hk38, hk124⟩ := kd_grp (y := e) (fun m h => hA ⟨m, h⟩) (fun m h => hO ⟨m, h⟩)
    rw [hid, dR_form e]
    refine PureC.of_body (tyOf_good _) Tryd.func25 rfl rfl (rs := [.tmp 2]) Tryd.results25 (by simp [Tryd.ntmps25]) fun X => ?_
    simp only [Tryd.ntmps25, List.map]
    refine AW_rg (tyOf_good _) [0] [] (fun _ _ => trivial) fun K' hK' => ?_
    repeat (refine sxf_next fun K2 hK2 => ?_; simp [dNum, dS, binS_eq]; (repeat (refine ⟨by omega, ?_⟩)); refine hK2 _ ?_; clear hK2 K2)
    refine sxf_nil (hK' _ ?_)
    refine AW.st (by simp [dNum, dS, binS_eq]; rfl) ?_
    clear hK' K'
    refine AW_then fun K1 hK1 => ?_
    refine AW_rg (tyOf_good _) [0, 19] [] (fun _ _ => trivial) fun K' hK' => ?_
    repeat (refine sxf_next fun K2 hK2 => ?_; simp [dNum, dS, binS_eq]; (repeat (refine ⟨by omega, ?_⟩)); refine hK2 _ ?_; clear hK2 K2)
    refine sxf_nil (hK' _ ?_)
    refine AW.st (by simp [dNum, dS, binS_eq]; rfl) ?_
    clear hK' K'
    refine AW_block ?_
    refine AW_rg (tyOf_good _) [0, 19, 20] [] (fun _ _ => trivial) fun K' hK' => ?_
    repeat (refine sxf_next fun K2 hK2 => ?_; simp [dNum, dS, binS_eq, hk33]; (repeat (refine ⟨by omega, ?_⟩)); refine hK2 _ ?_; clear hK2 K2)
    refine sxf_nil (hK' _ ?_)
    refine AW.st (by simp [dNum, dS, binS_eq, hk33]; rfl) ?_
    clear hK' K'
    refine AW_cond false rfl (fun h => by cases h) (fun _ => ?_)
    refine AW_then fun K3 hK3 => ?_
    refine AW_rg (tyOf_good _) [0, 19, 43] [] (fun _ _ => trivial) fun K' hK' => ?_
    repeat (refine sxf_next fun K2 hK2 => ?_; simp [dNum, dS, binS_eq, hk38]; (repeat (refine ⟨by omega, ?_⟩)); refine hK2 _ ?_; clear hK2 K2)
    refine sxf_nil (hK' _ ?_)
    refine AW.st (by simp [dNum, dS, binS_eq, hk38]; rfl) ?_
    clear hK' K'
    refine AW_cond false rfl (fun h => by cases h) (fun _ => ?_)
    refine AW_re (tyOf_good _) fun K' hK' => ?_
    repeat (refine sxf_next fun K2 hK2 => ?_; simp [dNum, dS, binS_eq, hk124]; (repeat (refine ⟨by omega, ?_⟩)); refine hK2 _ ?_; clear hK2 K2)
    refine sxf_nil (hK' _ ?_)
    clear hK' K'
    refine hK3 _ (AW.norm [0, 43] [] (fun _ _ => trivial) (AW.st (by simp [dNum, dS, binS_eq, hk124]; rfl) ?_))
    refine AW_cond false rfl (fun h => by cases h) (fun _ => ?_)
    refine AW_skip (hK1 _ ?_)
    refine AW_rg (tyOf_good _) [2] [] (fun _ _ => trivial) fun K' hK' => ?_
    repeat (refine sxf_next fun K2 hK2 => ?_; simp [dNum, dS, binS_eq]; (repeat (refine ⟨by omega, ?_⟩)); refine hK2 _ ?_; clear hK2 K2)
    refine sxf_nil (hK' _ ?_)
    refine AW.st (by simp [dNum, dS, binS_eq]; rfl) ?_
    clear hK' K'
    refine AW_ret ?_
    simp [D.le, D.le.go, takeMap, dNum, dS, binS_eq, D.le_refl, D.leGo_refl]
theorem rtidy_spec (G : Glob) (e : Ex) (hw : WfE e) (hb : bE e ≤ 2^27) : PureC Tryd.prog G 25 [dR e] (dR (tidE e)) := rtidy_at G _ e (Nat.le_refl _) hw hb
end Go.Proofs.YtfehigldhedkgaaDoor

/-
  ExprParse, and what ExprParses says.
-/
namespace Go.Proofs.YtfehigldhedkgaaDoor
set_option linter.unusedSimpArgs false
set_option linter.unusedVariables false
open Go.Av

theorem renH_two2 {r r' s : Nat} (h : r ≠ r') (hs : s ≠ r') (hr : s ≠ r) (row row2 : Row) : renH r r' (hlst [(s, row2), (r, row)]) = hlst [(s, row2.tr (renO r r') (renF r r')), (r', row.tr (renO r r') (renF r r'))] := by
  funext q
  unfold renH
  by_cases h1 : q = r'
  · subst h1
    simp [hlst, List.lookup, beq_eq_false_iff_ne.2 (Ne.symm hs), beq_eq_false_iff_ne.2 (Ne.symm hr)]
  · rw [if_neg h1]
    by_cases h2 : q = r
    · subst h2
      simp [hlst, List.lookup, beq_eq_false_iff_ne.2 h1, beq_eq_false_iff_ne.2 (Ne.symm hr)]
    · by_cases h3 : q = s
      · subst h3
        simp [hlst, List.lookup, h2, beq_eq_false_iff_ne.2 h1, beq_eq_false_iff_ne.2 h2]
      · simp [hlst, List.lookup, h2, beq_eq_false_iff_ne.2 h1, beq_eq_false_iff_ne.2 h2, beq_eq_false_iff_ne.2 h3]
def dOR : Option Ex → D
  | some x => dR x
  | none => .v (.pointer none)
theorem whole_reads (G : Glob) (t : List UInt8) (ht : t.length ≤ 2000) : Reads G t [500] [] 61 [.ref 500 0 0, .d (dNum 0)] 20 (orR t (oneR t 20)) :=
  pwhole_spec G t ht 0 20 (piece_spec G t ht 20 0 (Nat.le_refl _) rfl)
theorem parse_pos {t : List UInt8} {c : Int} {p : Option Nat} (h : (parseM t).2 = some (c, p)) : 0 < c := by
  unfold parseM at h
  split at h
  · simp at h; omega
  · rename_i hl
    obtain ⟨yF, kF, hr⟩ := whole_reads (fun _ => none) t (by omega)
    split at h
    · rename_i c' p' q' he
      simp at h
      have := (hr 0 (Nat.zero_le _)).2 _ _ _ he
      omega
    · split at h
      · simp at h; omega
      · cases h
theorem parse_none {t : List UInt8} {e : Int × Option Nat} (h : (parseM t).2 = some e) : (parseM t).1 = none := by
  unfold parseM at h ⊢
  split at h
  · rw [if_pos ‹_›]
  · rw [if_neg ‹_›]
    split at h
    · rfl
    · split at h
      · rw [if_pos ‹_›]
      · cases h
theorem parse_some {t : List UInt8} (h : (parseM t).2 = none) : ∃ x, (parseM t).1 = some x := by
  unfold parseM at h ⊢
  split at h
  · cases h
  · rw [if_neg ‹_›]
    split at h
    · cases h
    · split at h
      · cases h
      · rw [if_neg ‹_›]
        exact ⟨_, rfl⟩

set_option maxHeartbeats 8000000 in
theorem rparse_spec (G : Glob) (hF : HasFine G) (t : List UInt8) (ht : t.length < 2^60) : PureC Tryd.prog G 27 [dS t] (.tup [dOR (parseM t).1, dFault (parseM t).2]) := by
  unfold parseM
  unfold HasFine at hF
  by_cases hl : 2000 < t.length
  · have hl' : (2000 : Int) < (t.length : Int) := by omega
    have hb := bare0_spec G 4
    rw [if_pos hl]
    refine PureC.of_body (tyOf_good _) Tryd.func27 rfl rfl (rs := [.tmp 2, .cell 3 32]) Tryd.results27 (by simp [Tryd.ntmps27]) fun X => ?_
    simp only [Tryd.ntmps27, List.map]
    refine AW_rg (tyOf_good _) [0, 3] [3] (fun _ _ => trivial) fun K' hK' => ?_
    repeat (refine sxf_next fun K2 hK2 => ?_; simp [dNum, pRow, dS]; (repeat (refine ⟨by omega, ?_⟩)); refine hK2 _ ?_; clear hK2 K2)
    refine sxf_nil (hK' _ ?_)
    refine AW.st (by simp [dNum, pRow, dS]; rfl) ?_
    clear hK' K'
    refine AW_then fun K1 hK1 => ?_
    refine AW_rg (tyOf_good _) [0, 3, 8] [3] (fun _ _ => trivial) fun K' hK' => ?_
    repeat (refine sxf_next fun K2 hK2 => ?_; simp [dNum, pRow, dS, bs_size, hl, hl']; (repeat (refine ⟨by omega, ?_⟩)); refine hK2 _ ?_; clear hK2 K2)
    refine sxf_nil (hK' _ ?_)
    refine AW.st (by simp [dNum, pRow, dS, bs_size, hl, hl']; rfl) ?_
    clear hK' K'
    refine AW_cond true rfl (fun _ => ?_) (fun h => by cases h)
    refine AW_rg (tyOf_good _) [2, 3] [3] (fun _ _ => trivial) fun K' hK' => ?_
    repeat (refine sxf_next fun K2 hK2 => ?_; simp [dNum, pRow, dS]; (repeat (refine ⟨by omega, ?_⟩)); refine hK2 _ ?_; clear hK2 K2)
    refine sxf_next fun K2 hK2 => ?_
    simp [dNum, pRow, dS]
    refine callK.data (hb) (by simp; rfl) (by first | exact D.leGo_refl _ | simp [takeMap, List.map_map, Function.comp_def, D.le, D.le.go, D.le_refl, D.leGo_refl, dNum, pRow, dS]) ?_
    refine hK2 _ ?_
    clear hK2 K2
    simp only [putd, upd_lst]
    repeat (refine sxf_next fun K2 hK2 => ?_; simp [dNum, pRow, dS]; (repeat (refine ⟨by omega, ?_⟩)); refine hK2 _ ?_; clear hK2 K2)
    refine sxf_nil (hK' _ ?_)
    refine AW.st (by simp [dNum, pRow, dS]; rfl) ?_
    clear hK' K'
    refine AW_ret ?_
    simp [D.le, D.le.go, takeMap, dNum, pRow, dS, dOR, dFault, codeF, placeF]
  have hl' : ¬ (2000 : Int) < (t.length : Int) := by omega
  rw [if_neg hl]
  obtain ⟨yF, kF, hr⟩ := whole_reads G t (by omega)
  have hc := (hr 0 (Nat.zero_le _)).1
  have he := (hr 0 (Nat.zero_le _)).2
  cases ho : orR t (oneR t 20) 0 with
  | err c p q =>
    rw [ho] at hc
    obtain ⟨h1, h2, h3⟩ := he _ _ _ ho
    have h0 : ¬ c = 0 := by omega
    generalize yF 0 = y at hc h2
    generalize kF 0 = k at hc h3
    refine PureC.of_body (tyOf_good _) Tryd.func27 rfl rfl (rs := [.tmp 2, .cell 3 32]) Tryd.results27 (by simp [Tryd.ntmps27]) fun X => ?_
    simp only [Tryd.ntmps27, List.map]
    refine AW_rg (tyOf_good _) [0, 3] [3] (fun _ _ => trivial) fun K' hK' => ?_
    repeat (refine sxf_next fun K2 hK2 => ?_; simp [dNum, pRow, dS]; (repeat (refine ⟨by omega, ?_⟩)); refine hK2 _ ?_; clear hK2 K2)
    refine sxf_nil (hK' _ ?_)
    refine AW.st (by simp [dNum, pRow, dS]; rfl) ?_
    clear hK' K'
    refine AW_then fun K1 hK1 => ?_
    refine AW_rg (tyOf_good _) [0, 3, 8] [3] (fun _ _ => trivial) fun K' hK' => ?_
    repeat (refine sxf_next fun K2 hK2 => ?_; simp [dNum, pRow, dS, bs_size, hl, hl']; (repeat (refine ⟨by omega, ?_⟩)); refine hK2 _ ?_; clear hK2 K2)
    refine sxf_nil (hK' _ ?_)
    refine AW.st (by simp [dNum, pRow, dS, bs_size, hl, hl']; rfl) ?_
    clear hK' K'
    refine AW_cond false rfl (fun h => by cases h) (fun _ => ?_)
    refine AW_skip (hK1 _ ?_)
    refine AW_rg (tyOf_good _) [0, 3, 4] [3, 13] (fun _ _ => trivial) fun K' hK' => ?_
    repeat (refine sxf_next fun K2 hK2 => ?_; simp [dNum, pRow, dS, hF]; (repeat (refine ⟨by omega, ?_⟩)); refine hK2 _ ?_; clear hK2 K2)
    refine sxf_nil (hK' _ ?_)
    refine AW.st (by simp [dNum, pRow, dS, hF]; rfl) ?_
    clear hK' K'
    refine AW.imp (Imp.ren (r := 13) (r' := 500) trivial (by simp)) ?_
    refine AW.st (by simp [renO, renF, Go.Av.ren, renH_two2]; rfl) ?_
    refine AW_rg (tyOf_good _) [0, 3, 4, 5] [3, 500] (fun _ _ => trivial) fun K' hK' => ?_
    repeat (refine sxf_next fun K2 hK2 => ?_; simp [dNum, pRow, dS, outD, outK, eR, pR]; (repeat (refine ⟨by omega, ?_⟩)); refine hK2 _ ?_; clear hK2 K2)
    refine sxf_next fun K2 hK2 => ?_
    simp [dNum, pRow, dS, outD, outK, eR, pR]
    refine callK.mc (hc) (by simp [dNum, pRow, dS, outD, outK, eR, pR]) (by simp [dNum, pRow, dS, outD, outK, eR, pR]) (by simp [dNum, pRow, dS, outD, outK, eR, pR]) (by simp [dNum, pRow, dS, outD, outK, eR, pR]) ?_
    simp [dNum, pRow, dS, outD, outK, eR, pR]
    refine hK2 _ ?_
    clear hK2 K2
    repeat (refine sxf_next fun K2 hK2 => ?_; simp [dNum, pRow, dS, outD, outK, eR, pR]; (repeat (refine ⟨by omega, ?_⟩)); refine hK2 _ ?_; clear hK2 K2)
    refine sxf_nil (hK' _ ?_)
    refine AW.st (by simp [dNum, pRow, dS, outD, outK, eR, pR]; rfl) ?_
    clear hK' K'
    refine AW_then fun K2 hK2 => ?_
    refine AW_rg (tyOf_good _) [3, 4, 5, 43] [3, 500] (fun _ _ => trivial) fun K' hK' => ?_
    repeat (refine sxf_next fun K2 hK2 => ?_; simp [dNum, pRow, dS, h0]; (repeat (refine ⟨by omega, ?_⟩)); refine hK2 _ ?_; clear hK2 K2)
    refine sxf_nil (hK' _ ?_)
    refine AW.st (by simp [dNum, pRow, dS, h0]; rfl) ?_
    clear hK' K'
    refine AW_cond false rfl (fun h => by cases h) (fun _ => ?_)
    refine AW_skip (hK2 _ ?_)
    refine AW_then fun K3 hK3 => ?_
    refine AW_rg (tyOf_good _) [3, 4, 5, 51] [3, 500] (fun _ _ => trivial) fun K' hK' => ?_
    repeat (refine sxf_next fun K2 hK2 => ?_; simp [dNum, pRow, dS, h0]; (repeat (refine ⟨by omega, ?_⟩)); refine hK2 _ ?_; clear hK2 K2)
    refine sxf_nil (hK' _ ?_)
    refine AW.st (by simp [dNum, pRow, dS, h0]; rfl) ?_
    clear hK' K'
    refine AW_cond true rfl (fun _ => ?_) (fun h => by cases h)
    refine AW_rdg (tyOf_good _) (by kernel_rfl) [(3, 500), (5, 3)] [2, 3] [3, 500] (fun _ _ => trivial) (by kernel_rfl) fun K' hK' => ?_
    repeat (refine sxg_next fun K2 hK2 => ?_; simp [dNum, pRow, dS]; (repeat (refine ⟨by omega, ?_⟩)); refine hK2 _ ?_; clear hK2 K2)
    refine sxg_nil (hK' _ ?_)
    refine AW.st (by simp [dNum, pRow, dS]; rfl) ?_
    clear hK' K'
    refine AW_ret ?_
    simp [D.le, D.le.go, takeMap, dNum, pRow, dS, dOR, dFault, codeF, placeF]
  | ok x k =>
    rw [ho] at hc
    dsimp only [outD, outK, eR, pR] at hc
    have hk := (or_goes (one_goes t 20) 0 x k (Nat.zero_le _) ho).2
    have hnx := pnext_spec G t k (by omega) hk 0 (-1)
    have hk2 := skipB_top hk
    have hfl := pfail_spec G t (skipB t k) (by omega) hk2 3
    rw [skipB_idem hk] at hfl
    have hnb : skipB t k < t.length ∨ nxB t k = 0 := by
      by_cases h : skipB t k < t.length
      · exact .inl h
      · exact .inr (by unfold nxB; rw [List.getD_eq_getElem?_getD, List.getElem?_eq_none (by omega)]; rfl)
    obtain ⟨cx, hx⟩ := dR_ip x
    dsimp only
    generalize skipB t k = j at hnx hk2 hfl hnb ⊢
    generalize nxB t k = b at hnx hnb
    by_cases hj : j < t.length
    · have hj' : (j : Int) < (t.length : Int) := by omega
      rw [if_pos hj]
      rw [hx] at hc
      by_cases hb : ((b.toNat : Int) = 0)
      · have hbn : b.toNat = 0 := by omega
        refine PureC.of_body (tyOf_good _) Tryd.func27 rfl rfl (rs := [.tmp 2, .cell 3 32]) Tryd.results27 (by simp [Tryd.ntmps27]) fun X => ?_
        simp only [Tryd.ntmps27, List.map]
        refine AW_rg (tyOf_good _) [0, 3] [3] (fun _ _ => trivial) fun K' hK' => ?_
        repeat (refine sxf_next fun K2 hK2 => ?_; simp [dNum, pRow, dS]; (repeat (refine ⟨by omega, ?_⟩)); refine hK2 _ ?_; clear hK2 K2)
        refine sxf_nil (hK' _ ?_)
        refine AW.st (by simp [dNum, pRow, dS]; rfl) ?_
        clear hK' K'
        refine AW_then fun K1 hK1 => ?_
        refine AW_rg (tyOf_good _) [0, 3, 8] [3] (fun _ _ => trivial) fun K' hK' => ?_
        repeat (refine sxf_next fun K2 hK2 => ?_; simp [dNum, pRow, dS, bs_size, hl, hl']; (repeat (refine ⟨by omega, ?_⟩)); refine hK2 _ ?_; clear hK2 K2)
        refine sxf_nil (hK' _ ?_)
        refine AW.st (by simp [dNum, pRow, dS, bs_size, hl, hl']; rfl) ?_
        clear hK' K'
        refine AW_cond false rfl (fun h => by cases h) (fun _ => ?_)
        refine AW_skip (hK1 _ ?_)
        refine AW_rg (tyOf_good _) [0, 3, 4] [3, 13] (fun _ _ => trivial) fun K' hK' => ?_
        repeat (refine sxf_next fun K2 hK2 => ?_; simp [dNum, pRow, dS, hF]; (repeat (refine ⟨by omega, ?_⟩)); refine hK2 _ ?_; clear hK2 K2)
        refine sxf_nil (hK' _ ?_)
        refine AW.st (by simp [dNum, pRow, dS, hF]; rfl) ?_
        clear hK' K'
        refine AW.imp (Imp.ren (r := 13) (r' := 500) trivial (by simp)) ?_
        refine AW.st (by simp [renO, renF, Go.Av.ren, renH_two2]; rfl) ?_
        refine AW_rg (tyOf_good _) [0, 3, 4, 5] [3, 500] (fun _ _ => trivial) fun K' hK' => ?_
        repeat (refine sxf_next fun K2 hK2 => ?_; simp [dNum, pRow, dS]; (repeat (refine ⟨by omega, ?_⟩)); refine hK2 _ ?_; clear hK2 K2)
        refine sxf_next fun K2 hK2 => ?_
        simp [dNum, pRow, dS]
        refine callK.mc (hc) (by simp [dNum, pRow, dS]) (by simp [dNum, pRow, dS]) (by simp [dNum, pRow, dS]) (by simp [dNum, pRow, dS]) ?_
        simp [dNum, pRow, dS]
        refine hK2 _ ?_
        clear hK2 K2
        repeat (refine sxf_next fun K2 hK2 => ?_; simp [dNum, pRow, dS]; (repeat (refine ⟨by omega, ?_⟩)); refine hK2 _ ?_; clear hK2 K2)
        refine sxf_nil (hK' _ ?_)
        refine AW.st (by simp [dNum, pRow, dS]; rfl) ?_
        clear hK' K'
        refine AW_then fun K2 hK2 => ?_
        refine AW_rg (tyOf_good _) [3, 4, 5, 43] [3, 500] (fun _ _ => trivial) fun K' hK' => ?_
        repeat (refine sxf_next fun K2 hK2 => ?_; simp [dNum, pRow, dS, hb, hbn, bs_size, hj, hj']; (repeat (refine ⟨by omega, ?_⟩)); refine hK2 _ ?_; clear hK2 K2)
        refine sxf_next fun K2 hK2 => ?_
        simp [dNum, pRow, dS, hb, hbn, bs_size, hj, hj']
        refine callK.mc (hnx) (by simp [dNum, pRow, dS, hb, hbn, bs_size, hj, hj']) (by simp [dNum, pRow, dS, hb, hbn, bs_size, hj, hj']) (by simp [dNum, pRow, dS, hb, hbn, bs_size, hj, hj']) (by simp [dNum, pRow, dS, hb, hbn, bs_size, hj, hj']) ?_
        simp [dNum, pRow, dS, hb, hbn, bs_size, hj, hj']
        refine hK2 _ ?_
        clear hK2 K2
        repeat (refine sxf_next fun K2 hK2 => ?_; simp [dNum, pRow, dS, hb, hbn, bs_size, hj, hj']; (repeat (refine ⟨by omega, ?_⟩)); refine hK2 _ ?_; clear hK2 K2)
        refine sxf_nil (hK' _ ?_)
        refine AW.st (by simp [dNum, pRow, dS, hb, hbn, bs_size, hj, hj']; rfl) ?_
        clear hK' K'
        refine AW_cond true rfl (fun _ => ?_) (fun h => by cases h)
        refine AW_re (tyOf_good _) fun K' hK' => ?_
        repeat (refine sxf_next fun K2 hK2 => ?_; simp [dNum, pRow, dS]; (repeat (refine ⟨by omega, ?_⟩)); refine hK2 _ ?_; clear hK2 K2)
        refine sxf_next fun K2 hK2 => ?_
        simp [dNum, pRow, dS]
        refine callK.mc (hfl) (by simp [dNum, pRow, dS]) (by simp [dNum, pRow, dS]) (by simp [dNum, pRow, dS]) (by simp [dNum, pRow, dS]) ?_
        simp [dNum, pRow, dS]
        refine hK2 _ ?_
        clear hK2 K2
        repeat (refine sxf_next fun K2 hK2 => ?_; simp [dNum, pRow, dS]; (repeat (refine ⟨by omega, ?_⟩)); refine hK2 _ ?_; clear hK2 K2)
        refine sxf_nil (hK' _ ?_)
        clear hK' K'
        refine hK2 _ (AW.norm [3, 4, 5] [3, 500] (fun _ _ => trivial) (AW.st (by simp [dNum, pRow, dS]; rfl) ?_))
        refine AW_then fun K3 hK3 => ?_
        refine AW_rg (tyOf_good _) [3, 4, 5, 51] [3, 500] (fun _ _ => trivial) fun K' hK' => ?_
        repeat (refine sxf_next fun K2 hK2 => ?_; simp [dNum, pRow, dS]; (repeat (refine ⟨by omega, ?_⟩)); refine hK2 _ ?_; clear hK2 K2)
        refine sxf_nil (hK' _ ?_)
        refine AW.st (by simp [dNum, pRow, dS]; rfl) ?_
        clear hK' K'
        refine AW_cond true rfl (fun _ => ?_) (fun h => by cases h)
        refine AW_rdg (tyOf_good _) (by kernel_rfl) [(3, 500), (5, 3)] [2, 3] [3, 500] (fun _ _ => trivial) (by kernel_rfl) fun K' hK' => ?_
        repeat (refine sxg_next fun K2 hK2 => ?_; simp [dNum, pRow, dS]; (repeat (refine ⟨by omega, ?_⟩)); refine hK2 _ ?_; clear hK2 K2)
        refine sxg_nil (hK' _ ?_)
        refine AW.st (by simp [dNum, pRow, dS]; rfl) ?_
        clear hK' K'
        refine AW_ret ?_
        simp [D.le, D.le.go, takeMap, dNum, pRow, dS, dOR, dFault, codeF, placeF]
      · have hbn : ¬ b.toNat = 0 := by omega
        refine PureC.of_body (tyOf_good _) Tryd.func27 rfl rfl (rs := [.tmp 2, .cell 3 32]) Tryd.results27 (by simp [Tryd.ntmps27]) fun X => ?_
        simp only [Tryd.ntmps27, List.map]
        refine AW_rg (tyOf_good _) [0, 3] [3] (fun _ _ => trivial) fun K' hK' => ?_
        repeat (refine sxf_next fun K2 hK2 => ?_; simp [dNum, pRow, dS]; (repeat (refine ⟨by omega, ?_⟩)); refine hK2 _ ?_; clear hK2 K2)
        refine sxf_nil (hK' _ ?_)
        refine AW.st (by simp [dNum, pRow, dS]; rfl) ?_
        clear hK' K'
        refine AW_then fun K1 hK1 => ?_
        refine AW_rg (tyOf_good _) [0, 3, 8] [3] (fun _ _ => trivial) fun K' hK' => ?_
        repeat (refine sxf_next fun K2 hK2 => ?_; simp [dNum, pRow, dS, bs_size, hl, hl']; (repeat (refine ⟨by omega, ?_⟩)); refine hK2 _ ?_; clear hK2 K2)
        refine sxf_nil (hK' _ ?_)
        refine AW.st (by simp [dNum, pRow, dS, bs_size, hl, hl']; rfl) ?_
        clear hK' K'
        refine AW_cond false rfl (fun h => by cases h) (fun _ => ?_)
        refine AW_skip (hK1 _ ?_)
        refine AW_rg (tyOf_good _) [0, 3, 4] [3, 13] (fun _ _ => trivial) fun K' hK' => ?_
        repeat (refine sxf_next fun K2 hK2 => ?_; simp [dNum, pRow, dS, hF]; (repeat (refine ⟨by omega, ?_⟩)); refine hK2 _ ?_; clear hK2 K2)
        refine sxf_nil (hK' _ ?_)
        refine AW.st (by simp [dNum, pRow, dS, hF]; rfl) ?_
        clear hK' K'
        refine AW.imp (Imp.ren (r := 13) (r' := 500) trivial (by simp)) ?_
        refine AW.st (by simp [renO, renF, Go.Av.ren, renH_two2]; rfl) ?_
        refine AW_rg (tyOf_good _) [0, 3, 4, 5] [3, 500] (fun _ _ => trivial) fun K' hK' => ?_
        repeat (refine sxf_next fun K2 hK2 => ?_; simp [dNum, pRow, dS]; (repeat (refine ⟨by omega, ?_⟩)); refine hK2 _ ?_; clear hK2 K2)
        refine sxf_next fun K2 hK2 => ?_
        simp [dNum, pRow, dS]
        refine callK.mc (hc) (by simp [dNum, pRow, dS]) (by simp [dNum, pRow, dS]) (by simp [dNum, pRow, dS]) (by simp [dNum, pRow, dS]) ?_
        simp [dNum, pRow, dS]
        refine hK2 _ ?_
        clear hK2 K2
        repeat (refine sxf_next fun K2 hK2 => ?_; simp [dNum, pRow, dS]; (repeat (refine ⟨by omega, ?_⟩)); refine hK2 _ ?_; clear hK2 K2)
        refine sxf_nil (hK' _ ?_)
        refine AW.st (by simp [dNum, pRow, dS]; rfl) ?_
        clear hK' K'
        refine AW_then fun K2 hK2 => ?_
        refine AW_rg (tyOf_good _) [3, 4, 5, 43] [3, 500] (fun _ _ => trivial) fun K' hK' => ?_
        repeat (refine sxf_next fun K2 hK2 => ?_; simp [dNum, pRow, dS, hb, hbn, bs_size, hj, hj']; (repeat (refine ⟨by omega, ?_⟩)); refine hK2 _ ?_; clear hK2 K2)
        refine sxf_next fun K2 hK2 => ?_
        simp [dNum, pRow, dS, hb, hbn, bs_size, hj, hj']
        refine callK.mc (hnx) (by simp [dNum, pRow, dS, hb, hbn, bs_size, hj, hj']) (by simp [dNum, pRow, dS, hb, hbn, bs_size, hj, hj']) (by simp [dNum, pRow, dS, hb, hbn, bs_size, hj, hj']) (by simp [dNum, pRow, dS, hb, hbn, bs_size, hj, hj']) ?_
        simp [dNum, pRow, dS, hb, hbn, bs_size, hj, hj']
        refine hK2 _ ?_
        clear hK2 K2
        repeat (refine sxf_next fun K2 hK2 => ?_; simp [dNum, pRow, dS, hb, hbn, bs_size, hj, hj']; (repeat (refine ⟨by omega, ?_⟩)); refine hK2 _ ?_; clear hK2 K2)
        refine sxf_nil (hK' _ ?_)
        refine AW.st (by simp [dNum, pRow, dS, hb, hbn, bs_size, hj, hj']; rfl) ?_
        clear hK' K'
        refine AW_cond true rfl (fun _ => ?_) (fun h => by cases h)
        refine AW_re (tyOf_good _) fun K' hK' => ?_
        repeat (refine sxf_next fun K2 hK2 => ?_; simp [dNum, pRow, dS]; (repeat (refine ⟨by omega, ?_⟩)); refine hK2 _ ?_; clear hK2 K2)
        refine sxf_next fun K2 hK2 => ?_
        simp [dNum, pRow, dS]
        refine callK.mc (hfl) (by simp [dNum, pRow, dS]) (by simp [dNum, pRow, dS]) (by simp [dNum, pRow, dS]) (by simp [dNum, pRow, dS]) ?_
        simp [dNum, pRow, dS]
        refine hK2 _ ?_
        clear hK2 K2
        repeat (refine sxf_next fun K2 hK2 => ?_; simp [dNum, pRow, dS]; (repeat (refine ⟨by omega, ?_⟩)); refine hK2 _ ?_; clear hK2 K2)
        refine sxf_nil (hK' _ ?_)
        clear hK' K'
        refine hK2 _ (AW.norm [3, 4, 5] [3, 500] (fun _ _ => trivial) (AW.st (by simp [dNum, pRow, dS]; rfl) ?_))
        refine AW_then fun K3 hK3 => ?_
        refine AW_rg (tyOf_good _) [3, 4, 5, 51] [3, 500] (fun _ _ => trivial) fun K' hK' => ?_
        repeat (refine sxf_next fun K2 hK2 => ?_; simp [dNum, pRow, dS]; (repeat (refine ⟨by omega, ?_⟩)); refine hK2 _ ?_; clear hK2 K2)
        refine sxf_nil (hK' _ ?_)
        refine AW.st (by simp [dNum, pRow, dS]; rfl) ?_
        clear hK' K'
        refine AW_cond true rfl (fun _ => ?_) (fun h => by cases h)
        refine AW_rdg (tyOf_good _) (by kernel_rfl) [(3, 500), (5, 3)] [2, 3] [3, 500] (fun _ _ => trivial) (by kernel_rfl) fun K' hK' => ?_
        repeat (refine sxg_next fun K2 hK2 => ?_; simp [dNum, pRow, dS]; (repeat (refine ⟨by omega, ?_⟩)); refine hK2 _ ?_; clear hK2 K2)
        refine sxg_nil (hK' _ ?_)
        refine AW.st (by simp [dNum, pRow, dS]; rfl) ?_
        clear hK' K'
        refine AW_ret ?_
        simp [D.le, D.le.go, takeMap, dNum, pRow, dS, dOR, dFault, codeF, placeF]
    · have hj' : ¬ (j : Int) < (t.length : Int) := by omega
      have hb : ((b.toNat : Int) = 0) := by
        rcases hnb with h | h
        · exact absurd h hj
        · rw [h]; rfl
      have hbn : b.toNat = 0 := by omega
      rw [if_neg hj]
      simp only [dOR]
      rw [hx] at hc ⊢
      refine PureC.of_body (tyOf_good _) Tryd.func27 rfl rfl (rs := [.tmp 2, .cell 3 32]) Tryd.results27 (by simp [Tryd.ntmps27]) fun X => ?_
      simp only [Tryd.ntmps27, List.map]
      refine AW_rg (tyOf_good _) [0, 3] [3] (fun _ _ => trivial) fun K' hK' => ?_
      repeat (refine sxf_next fun K2 hK2 => ?_; simp [dNum, pRow, dS]; (repeat (refine ⟨by omega, ?_⟩)); refine hK2 _ ?_; clear hK2 K2)
      refine sxf_nil (hK' _ ?_)
      refine AW.st (by simp [dNum, pRow, dS]; rfl) ?_
      clear hK' K'
      refine AW_then fun K1 hK1 => ?_
      refine AW_rg (tyOf_good _) [0, 3, 8] [3] (fun _ _ => trivial) fun K' hK' => ?_
      repeat (refine sxf_next fun K2 hK2 => ?_; simp [dNum, pRow, dS, bs_size, hl, hl']; (repeat (refine ⟨by omega, ?_⟩)); refine hK2 _ ?_; clear hK2 K2)
      refine sxf_nil (hK' _ ?_)
      refine AW.st (by simp [dNum, pRow, dS, bs_size, hl, hl']; rfl) ?_
      clear hK' K'
      refine AW_cond false rfl (fun h => by cases h) (fun _ => ?_)
      refine AW_skip (hK1 _ ?_)
      refine AW_rg (tyOf_good _) [0, 3, 4] [3, 13] (fun _ _ => trivial) fun K' hK' => ?_
      repeat (refine sxf_next fun K2 hK2 => ?_; simp [dNum, pRow, dS, hF]; (repeat (refine ⟨by omega, ?_⟩)); refine hK2 _ ?_; clear hK2 K2)
      refine sxf_nil (hK' _ ?_)
      refine AW.st (by simp [dNum, pRow, dS, hF]; rfl) ?_
      clear hK' K'
      refine AW.imp (Imp.ren (r := 13) (r' := 500) trivial (by simp)) ?_
      refine AW.st (by simp [renO, renF, Go.Av.ren, renH_two2]; rfl) ?_
      refine AW_rg (tyOf_good _) [0, 3, 4, 5] [3, 500] (fun _ _ => trivial) fun K' hK' => ?_
      repeat (refine sxf_next fun K2 hK2 => ?_; simp [dNum, pRow, dS]; (repeat (refine ⟨by omega, ?_⟩)); refine hK2 _ ?_; clear hK2 K2)
      refine sxf_next fun K2 hK2 => ?_
      simp [dNum, pRow, dS]
      refine callK.mc (hc) (by simp [dNum, pRow, dS]) (by simp [dNum, pRow, dS]) (by simp [dNum, pRow, dS]) (by simp [dNum, pRow, dS]) ?_
      simp [dNum, pRow, dS]
      refine hK2 _ ?_
      clear hK2 K2
      repeat (refine sxf_next fun K2 hK2 => ?_; simp [dNum, pRow, dS]; (repeat (refine ⟨by omega, ?_⟩)); refine hK2 _ ?_; clear hK2 K2)
      refine sxf_nil (hK' _ ?_)
      refine AW.st (by simp [dNum, pRow, dS]; rfl) ?_
      clear hK' K'
      refine AW_then fun K2 hK2 => ?_
      refine AW_rg (tyOf_good _) [3, 4, 5, 43] [3, 500] (fun _ _ => trivial) fun K' hK' => ?_
      repeat (refine sxf_next fun K2 hK2 => ?_; simp [dNum, pRow, dS, hb, hbn, bs_size, hj, hj']; (repeat (refine ⟨by omega, ?_⟩)); refine hK2 _ ?_; clear hK2 K2)
      refine sxf_next fun K2 hK2 => ?_
      simp [dNum, pRow, dS, hb, hbn, bs_size, hj, hj']
      refine callK.mc (hnx) (by simp [dNum, pRow, dS, hb, hbn, bs_size, hj, hj']) (by simp [dNum, pRow, dS, hb, hbn, bs_size, hj, hj']) (by simp [dNum, pRow, dS, hb, hbn, bs_size, hj, hj']) (by simp [dNum, pRow, dS, hb, hbn, bs_size, hj, hj']) ?_
      simp [dNum, pRow, dS, hb, hbn, bs_size, hj, hj']
      refine hK2 _ ?_
      clear hK2 K2
      repeat (refine sxf_next fun K2 hK2 => ?_; simp [dNum, pRow, dS, hb, hbn, bs_size, hj, hj']; (repeat (refine ⟨by omega, ?_⟩)); refine hK2 _ ?_; clear hK2 K2)
      refine sxf_nil (hK' _ ?_)
      refine AW.st (by simp [dNum, pRow, dS, hb, hbn, bs_size, hj, hj']; rfl) ?_
      clear hK' K'
      refine AW_cond false rfl (fun h => by cases h) (fun _ => ?_)
      refine AW_skip (hK2 _ ?_)
      refine AW_then fun K3 hK3 => ?_
      refine AW_rg (tyOf_good _) [3, 4, 5, 51] [3, 500] (fun _ _ => trivial) fun K' hK' => ?_
      repeat (refine sxf_next fun K2 hK2 => ?_; simp [dNum, pRow, dS]; (repeat (refine ⟨by omega, ?_⟩)); refine hK2 _ ?_; clear hK2 K2)
      refine sxf_nil (hK' _ ?_)
      refine AW.st (by simp [dNum, pRow, dS]; rfl) ?_
      clear hK' K'
      refine AW_cond false rfl (fun h => by cases h) (fun _ => ?_)
      refine AW_skip (hK3 _ ?_)
      refine AW_rdg (tyOf_good _) (by kernel_rfl) [(3, 3)] [2, 3] [3, 500] (fun _ _ => trivial) (by kernel_rfl) fun K' hK' => ?_
      repeat (refine sxg_next fun K2 hK2 => ?_; simp [dNum, pRow, dS, hF]; (repeat (refine ⟨by omega, ?_⟩)); refine hK2 _ ?_; clear hK2 K2)
      refine sxg_nil (hK' _ ?_)
      refine AW.st (by simp [dNum, pRow, dS, hF]; rfl) ?_
      clear hK' K'
      refine AW_ret ?_
      simp [D.le, D.le.go, takeMap, dNum, pRow, dS, dFault, codeF, placeF, D.le_refl, D.leGo_refl]
end Go.Proofs.YtfehigldhedkgaaDoor

/-
  read, and what ExprTidies says.
-/
namespace Go.Proofs.YtfehigldhedkgaaDoor
set_option linter.unusedSimpArgs false
set_option linter.unusedVariables false
open Go.Av

def readE (t : List UInt8) : Option Ex := if 1000 < t.length then none else (parseM t).1
def dRead : Option Ex → D
  | none => .tup [.v .nilIface, .v (.pointer none), .v (.bool false)]
  | some x => .tup [dE x, dR x, .v (.bool true)]

set_option maxHeartbeats 4000000 in
theorem read_spec (G : Glob) (hF : HasFine G) (t : List UInt8) : PureC Tryd.prog G 23 [dS t] (dRead (readE t)) := by
  unfold readE
  by_cases hl : 1000 < t.length
  · have hl' : (1000 : Int) < (t.length : Int) := by omega
    rw [if_pos hl]
    refine PureC.of_body (tyOf_good _) Tryd.func23 rfl rfl (rs := [.tmp 2, .tmp 3, .tmp 4]) Tryd.results23 (by simp [Tryd.ntmps23]) fun X => ?_
    simp only [Tryd.ntmps23, List.map]
    refine AW_rg (tyOf_good _) [0] [] (fun _ _ => trivial) fun K' hK' => ?_
    repeat (refine sxf_next fun K2 hK2 => ?_; simp [dNum, dS]; (repeat (refine ⟨by omega, ?_⟩)); refine hK2 _ ?_; clear hK2 K2)
    refine sxf_nil (hK' _ ?_)
    refine AW.st (by simp [dNum, dS]; rfl) ?_
    clear hK' K'
    refine AW_then fun K1 hK1 => ?_
    refine AW_rg (tyOf_good _) [0, 11] [] (fun _ _ => trivial) fun K' hK' => ?_
    repeat (refine sxf_next fun K2 hK2 => ?_; simp [dNum, dS, bs_size, hl, hl']; (repeat (refine ⟨by omega, ?_⟩)); refine hK2 _ ?_; clear hK2 K2)
    refine sxf_nil (hK' _ ?_)
    refine AW.st (by simp [dNum, dS, bs_size, hl, hl']; rfl) ?_
    clear hK' K'
    refine AW_cond true rfl (fun _ => ?_) (fun h => by cases h)
    refine AW_rg (tyOf_good _) [2, 3, 4] [] (fun _ _ => trivial) fun K' hK' => ?_
    repeat (refine sxf_next fun K2 hK2 => ?_; simp [dNum, dS]; (repeat (refine ⟨by omega, ?_⟩)); refine hK2 _ ?_; clear hK2 K2)
    refine sxf_nil (hK' _ ?_)
    refine AW.st (by simp [dNum, dS]; rfl) ?_
    clear hK' K'
    refine AW_ret ?_
    simp [D.le, D.le.go, takeMap, dNum, dS, dRead]
  have hl' : ¬ (1000 : Int) < (t.length : Int) := by omega
  rw [if_neg hl]
  have hrp := rparse_spec G hF t (by omega)
  have hep := parse_spec G t (by omega)
  cases he : (parseM t).2 with
  | some e =>
    obtain ⟨c, p⟩ := e
    have h0 : ¬ c = 0 := by have := parse_pos he; omega
    have hn := parse_none he
    rw [he, hn] at hrp
    rw [hn]
    refine PureC.of_body (tyOf_good _) Tryd.func23 rfl rfl (rs := [.tmp 2, .tmp 3, .tmp 4]) Tryd.results23 (by simp [Tryd.ntmps23]) fun X => ?_
    simp only [Tryd.ntmps23, List.map]
    refine AW_rg (tyOf_good _) [0] [] (fun _ _ => trivial) fun K' hK' => ?_
    repeat (refine sxf_next fun K2 hK2 => ?_; simp [dNum, dS]; (repeat (refine ⟨by omega, ?_⟩)); refine hK2 _ ?_; clear hK2 K2)
    refine sxf_nil (hK' _ ?_)
    refine AW.st (by simp [dNum, dS]; rfl) ?_
    clear hK' K'
    refine AW_then fun K1 hK1 => ?_
    refine AW_rg (tyOf_good _) [0, 11] [] (fun _ _ => trivial) fun K' hK' => ?_
    repeat (refine sxf_next fun K2 hK2 => ?_; simp [dNum, dS, bs_size, hl, hl']; (repeat (refine ⟨by omega, ?_⟩)); refine hK2 _ ?_; clear hK2 K2)
    refine sxf_nil (hK' _ ?_)
    refine AW.st (by simp [dNum, dS, bs_size, hl, hl']; rfl) ?_
    clear hK' K'
    refine AW_cond false rfl (fun h => by cases h) (fun _ => ?_)
    refine AW_skip (hK1 _ ?_)
    refine AW_rg (tyOf_good _) [0, 5, 6] [6] (fun _ _ => trivial) fun K' hK' => ?_
    repeat (refine sxf_next fun K2 hK2 => ?_; simp [dNum, dS, dOR, dFault, codeF, placeF]; (repeat (refine ⟨by omega, ?_⟩)); refine hK2 _ ?_; clear hK2 K2)
    refine sxf_next fun K2 hK2 => ?_
    simp [dNum, dS, dOR, dFault, codeF, placeF]
    refine callK.data (hrp) (by simp; rfl) (by first | exact D.leGo_refl _ | simp [takeMap, List.map_map, Function.comp_def, D.le, D.le.go, D.le_refl, D.leGo_refl, dNum, dS, dOR, dFault, codeF, placeF]) ?_
    refine hK2 _ ?_
    clear hK2 K2
    simp only [putd, upd_lst]
    repeat (refine sxf_next fun K2 hK2 => ?_; simp [dNum, dS, dOR, dFault, codeF, placeF]; (repeat (refine ⟨by omega, ?_⟩)); refine hK2 _ ?_; clear hK2 K2)
    refine sxf_nil (hK' _ ?_)
    refine AW.st (by simp [dNum, dS, dOR, dFault, codeF, placeF]; rfl) ?_
    clear hK' K'
    refine AW_then fun K2 hK2 => ?_
    refine AW_rg (tyOf_good _) [0, 5, 19] [6] (fun _ _ => trivial) fun K' hK' => ?_
    repeat (refine sxf_next fun K2 hK2 => ?_; simp [dNum, dS, h0]; (repeat (refine ⟨by omega, ?_⟩)); refine hK2 _ ?_; clear hK2 K2)
    refine sxf_nil (hK' _ ?_)
    refine AW.st (by simp [dNum, dS, h0]; rfl) ?_
    clear hK' K'
    refine AW_cond true rfl (fun _ => ?_) (fun h => by cases h)
    refine AW_rg (tyOf_good _) [2, 3, 4] [6] (fun _ _ => trivial) fun K' hK' => ?_
    repeat (refine sxf_next fun K2 hK2 => ?_; simp [dNum, dS]; (repeat (refine ⟨by omega, ?_⟩)); refine hK2 _ ?_; clear hK2 K2)
    refine sxf_nil (hK' _ ?_)
    refine AW.st (by simp [dNum, dS]; rfl) ?_
    clear hK' K'
    refine AW_ret ?_
    simp [D.le, D.le.go, takeMap, dNum, dS, dRead]
  | none =>
    obtain ⟨x, hx⟩ := parse_some he
    obtain ⟨cx, hcx⟩ := dR_ip x
    obtain ⟨tx, dx, hdx⟩ := dE_ifc x
    rw [he, hx] at hrp hep
    rw [hx]
    simp only [dOR, dOE, dRead] at hrp hep ⊢
    rw [hcx] at hrp ⊢
    rw [hdx] at hep ⊢
    refine PureC.of_body (tyOf_good _) Tryd.func23 rfl rfl (rs := [.tmp 2, .tmp 3, .tmp 4]) Tryd.results23 (by simp [Tryd.ntmps23]) fun X => ?_
    simp only [Tryd.ntmps23, List.map]
    refine AW_rg (tyOf_good _) [0] [] (fun _ _ => trivial) fun K' hK' => ?_
    repeat (refine sxf_next fun K2 hK2 => ?_; simp [dNum, dS]; (repeat (refine ⟨by omega, ?_⟩)); refine hK2 _ ?_; clear hK2 K2)
    refine sxf_nil (hK' _ ?_)
    refine AW.st (by simp [dNum, dS]; rfl) ?_
    clear hK' K'
    refine AW_then fun K1 hK1 => ?_
    refine AW_rg (tyOf_good _) [0, 11] [] (fun _ _ => trivial) fun K' hK' => ?_
    repeat (refine sxf_next fun K2 hK2 => ?_; simp [dNum, dS, bs_size, hl, hl']; (repeat (refine ⟨by omega, ?_⟩)); refine hK2 _ ?_; clear hK2 K2)
    refine sxf_nil (hK' _ ?_)
    refine AW.st (by simp [dNum, dS, bs_size, hl, hl']; rfl) ?_
    clear hK' K'
    refine AW_cond false rfl (fun h => by cases h) (fun _ => ?_)
    refine AW_skip (hK1 _ ?_)
    refine AW_rg (tyOf_good _) [0, 5, 6] [6] (fun _ _ => trivial) fun K' hK' => ?_
    repeat (refine sxf_next fun K2 hK2 => ?_; simp [dNum, dS, dFault, codeF, placeF]; (repeat (refine ⟨by omega, ?_⟩)); refine hK2 _ ?_; clear hK2 K2)
    refine sxf_next fun K2 hK2 => ?_
    simp [dNum, dS, dFault, codeF, placeF]
    refine callK.data (hrp) (by simp; rfl) (by first | exact D.leGo_refl _ | simp [takeMap, List.map_map, Function.comp_def, D.le, D.le.go, D.le_refl, D.leGo_refl, dNum, dS, dFault, codeF, placeF]) ?_
    refine hK2 _ ?_
    clear hK2 K2
    simp only [putd, upd_lst]
    repeat (refine sxf_next fun K2 hK2 => ?_; simp [dNum, dS, dFault, codeF, placeF]; (repeat (refine ⟨by omega, ?_⟩)); refine hK2 _ ?_; clear hK2 K2)
    refine sxf_nil (hK' _ ?_)
    refine AW.st (by simp [dNum, dS, dFault, codeF, placeF]; rfl) ?_
    clear hK' K'
    refine AW_then fun K2 hK2 => ?_
    refine AW_rg (tyOf_good _) [0, 5, 19] [6] (fun _ _ => trivial) fun K' hK' => ?_
    repeat (refine sxf_next fun K2 hK2 => ?_; simp [dNum, dS]; (repeat (refine ⟨by omega, ?_⟩)); refine hK2 _ ?_; clear hK2 K2)
    refine sxf_nil (hK' _ ?_)
    refine AW.st (by simp [dNum, dS]; rfl) ?_
    clear hK' K'
    refine AW_cond false rfl (fun h => by cases h) (fun _ => ?_)
    refine AW_skip (hK2 _ ?_)
    refine AW_rg (tyOf_good _) [5, 7, 8] [6] (fun _ _ => trivial) fun K' hK' => ?_
    repeat (refine sxf_next fun K2 hK2 => ?_; simp [dNum, dS, dErr]; (repeat (refine ⟨by omega, ?_⟩)); refine hK2 _ ?_; clear hK2 K2)
    refine sxf_next fun K2 hK2 => ?_
    simp [dNum, dS, dErr]
    refine callK.data (hep) (by simp; rfl) (by first | exact D.leGo_refl _ | simp [takeMap, List.map_map, Function.comp_def, D.le, D.le.go, D.le_refl, D.leGo_refl, dNum, dS, dErr]) ?_
    refine hK2 _ ?_
    clear hK2 K2
    simp only [putd, upd_lst]
    repeat (refine sxf_next fun K2 hK2 => ?_; simp [dNum, dS, dErr]; (repeat (refine ⟨by omega, ?_⟩)); refine hK2 _ ?_; clear hK2 K2)
    refine sxf_nil (hK' _ ?_)
    refine AW.st (by simp [dNum, dS, dErr]; rfl) ?_
    clear hK' K'
    refine AW_then fun K3 hK3 => ?_
    refine AW_rg (tyOf_good _) [5, 7, 26] [6] (fun _ _ => trivial) fun K' hK' => ?_
    repeat (refine sxf_next fun K2 hK2 => ?_; simp [dNum, dS]; (repeat (refine ⟨by omega, ?_⟩)); refine hK2 _ ?_; clear hK2 K2)
    refine sxf_nil (hK' _ ?_)
    refine AW.st (by simp [dNum, dS]; rfl) ?_
    clear hK' K'
    refine AW_cond false rfl (fun h => by cases h) (fun _ => ?_)
    refine AW_skip (hK3 _ ?_)
    refine AW_rg (tyOf_good _) [2, 3, 4] [6] (fun _ _ => trivial) fun K' hK' => ?_
    repeat (refine sxf_next fun K2 hK2 => ?_; simp [dNum, dS]; (repeat (refine ⟨by omega, ?_⟩)); refine hK2 _ ?_; clear hK2 K2)
    refine sxf_nil (hK' _ ?_)
    refine AW.st (by simp [dNum, dS]; rfl) ?_
    clear hK' K'
    refine AW_ret ?_
    simp [D.le, D.le.go, takeMap, dNum, dS, D.le_refl, D.leGo_refl]
theorem readE_some {t : List UInt8} {x : Ex} (h : readE t = some x) : (parseM t).1 = some x := by
  unfold readE at h
  split at h
  · cases h
  · exact h

set_option maxHeartbeats 4000000 in
theorem etidies_spec (G : Glob) (hF : HasFine G) (t : List UInt8) : PureC Tryd.prog G 5 [dS t] (.v (.bool true)) := by
  have hrd := read_spec G hF t
  cases hr : readE t with
  | none =>
    rw [hr] at hrd
    refine PureC.of_body (tyOf_good _) Tryd.func5 rfl rfl (rs := [.tmp 2]) Tryd.results5 (by simp [Tryd.ntmps5]) fun X => ?_
    simp only [Tryd.ntmps5, List.map]
    refine AW_rg (tyOf_good _) [0] [] (fun _ _ => trivial) fun K' hK' => ?_
    repeat (refine sxf_next fun K2 hK2 => ?_; simp [dNum, dS]; (repeat (refine ⟨by omega, ?_⟩)); refine hK2 _ ?_; clear hK2 K2)
    refine sxf_nil (hK' _ ?_)
    refine AW.st (by simp [dNum, dS]; rfl) ?_
    clear hK' K'
    refine AW_rg (tyOf_good _) [3, 4, 5] [] (fun _ _ => trivial) fun K' hK' => ?_
    repeat (refine sxf_next fun K2 hK2 => ?_; simp [dNum, dS, dRead]; (repeat (refine ⟨by omega, ?_⟩)); refine hK2 _ ?_; clear hK2 K2)
    refine sxf_next fun K2 hK2 => ?_
    simp [dNum, dS, dRead]
    refine callK.data (hrd) (by simp; rfl) (by first | exact D.leGo_refl _ | simp [takeMap, List.map_map, Function.comp_def, D.le, D.le.go, D.le_refl, D.leGo_refl, dNum, dS, dRead]) ?_
    refine hK2 _ ?_
    clear hK2 K2
    simp only [putd, upd_lst]
    repeat (refine sxf_next fun K2 hK2 => ?_; simp [dNum, dS, dRead]; (repeat (refine ⟨by omega, ?_⟩)); refine hK2 _ ?_; clear hK2 K2)
    refine sxf_nil (hK' _ ?_)
    refine AW.st (by simp [dNum, dS, dRead]; rfl) ?_
    clear hK' K'
    refine AW_rg (tyOf_good _) [2] [] (fun _ _ => trivial) fun K' hK' => ?_
    repeat (refine sxf_next fun K2 hK2 => ?_; simp [dNum, dS]; (repeat (refine ⟨by omega, ?_⟩)); refine hK2 _ ?_; clear hK2 K2)
    refine sxf_nil (hK' _ ?_)
    refine AW.st (by simp [dNum, dS]; rfl) ?_
    clear hK' K'
    refine AW_ret ?_
    simp [D.le, D.le.go, takeMap, dNum, dS]
  | some x =>
    rw [hr] at hrd
    have hp := readE_some hr
    have hb := parse_b hp
    have hw := (parse_wf hp).1
    have hbt := tidy_b x
    have htd := tidy_spec G x (by omega)
    have htx := etext_spec G (tidE x) (by have := wr_len (tidE x); omega)
    have hrt := rtidy_spec G x hw (by omega)
    have hrx := rtxt_spec G (tidE x) (by have := wr_len (tidE x); omega)
    obtain ⟨cx, hcx⟩ := dR_ip x
    obtain ⟨tx, dx, hdx⟩ := dE_ifc x
    obtain ⟨c2, hc2⟩ := dR_ip (tidE x)
    obtain ⟨t2, d2, hd2⟩ := dE_ifc (tidE x)
    simp only [dRead] at hrd
    rw [hcx, hdx] at hrd
    rw [hdx, hd2] at htd
    rw [hd2] at htx
    rw [hcx, hc2] at hrt
    rw [hc2] at hrx
    refine PureC.of_body (tyOf_good _) Tryd.func5 rfl rfl (rs := [.tmp 2]) Tryd.results5 (by simp [Tryd.ntmps5]) fun X => ?_
    simp only [Tryd.ntmps5, List.map]
    refine AW_rg (tyOf_good _) [0] [] (fun _ _ => trivial) fun K' hK' => ?_
    repeat (refine sxf_next fun K2 hK2 => ?_; simp [dNum, dS]; (repeat (refine ⟨by omega, ?_⟩)); refine hK2 _ ?_; clear hK2 K2)
    refine sxf_nil (hK' _ ?_)
    refine AW.st (by simp [dNum, dS]; rfl) ?_
    clear hK' K'
    refine AW_rg (tyOf_good _) [3, 4, 5] [] (fun _ _ => trivial) fun K' hK' => ?_
    repeat (refine sxf_next fun K2 hK2 => ?_; simp [dNum, dS]; (repeat (refine ⟨by omega, ?_⟩)); refine hK2 _ ?_; clear hK2 K2)
    refine sxf_next fun K2 hK2 => ?_
    simp [dNum, dS]
    refine callK.data (hrd) (by simp; rfl) (by first | exact D.leGo_refl _ | simp [takeMap, List.map_map, Function.comp_def, D.le, D.le.go, D.le_refl, D.leGo_refl, dNum, dS]) ?_
    refine hK2 _ ?_
    clear hK2 K2
    simp only [putd, upd_lst]
    repeat (refine sxf_next fun K2 hK2 => ?_; simp [dNum, dS]; (repeat (refine ⟨by omega, ?_⟩)); refine hK2 _ ?_; clear hK2 K2)
    refine sxf_nil (hK' _ ?_)
    refine AW.st (by simp [dNum, dS]; rfl) ?_
    clear hK' K'
    refine AW_rg (tyOf_good _) [2] [] (fun _ _ => trivial) fun K' hK' => ?_
    repeat (refine sxf_next fun K2 hK2 => ?_; simp [dNum, dS, binS, bs_list]; (repeat (refine ⟨by omega, ?_⟩)); refine hK2 _ ?_; clear hK2 K2)
    refine sxf_next fun K2 hK2 => ?_
    simp [dNum, dS, binS, bs_list]
    refine callK.data (htd) (by simp; rfl) (by first | exact D.leGo_refl _ | simp [takeMap, List.map_map, Function.comp_def, D.le, D.le.go, D.le_refl, D.leGo_refl, dNum, dS, binS, bs_list]) ?_
    refine hK2 _ ?_
    clear hK2 K2
    simp only [putd, upd_lst]
    repeat (refine sxf_next fun K2 hK2 => ?_; simp [dNum, dS, binS, bs_list]; (repeat (refine ⟨by omega, ?_⟩)); refine hK2 _ ?_; clear hK2 K2)
    refine sxf_next fun K2 hK2 => ?_
    simp [dNum, dS, binS, bs_list]
    refine callK.data (htx) (by simp; rfl) (by first | exact D.leGo_refl _ | simp [takeMap, List.map_map, Function.comp_def, D.le, D.le.go, D.le_refl, D.leGo_refl, dNum, dS, binS, bs_list]) ?_
    refine hK2 _ ?_
    clear hK2 K2
    simp only [putd, upd_lst]
    repeat (refine sxf_next fun K2 hK2 => ?_; simp [dNum, dS, binS, bs_list]; (repeat (refine ⟨by omega, ?_⟩)); refine hK2 _ ?_; clear hK2 K2)
    refine sxf_next fun K2 hK2 => ?_
    simp [dNum, dS, binS, bs_list]
    refine callK.data (hrt) (by simp; rfl) (by first | exact D.leGo_refl _ | simp [takeMap, List.map_map, Function.comp_def, D.le, D.le.go, D.le_refl, D.leGo_refl, dNum, dS, binS, bs_list]) ?_
    refine hK2 _ ?_
    clear hK2 K2
    simp only [putd, upd_lst]
    repeat (refine sxf_next fun K2 hK2 => ?_; simp [dNum, dS, binS, bs_list]; (repeat (refine ⟨by omega, ?_⟩)); refine hK2 _ ?_; clear hK2 K2)
    refine sxf_next fun K2 hK2 => ?_
    simp [dNum, dS, binS, bs_list]
    refine callK.data (hrx) (by simp; rfl) (by first | exact D.leGo_refl _ | simp [takeMap, List.map_map, Function.comp_def, D.le, D.le.go, D.le_refl, D.leGo_refl, dNum, dS, binS, bs_list]) ?_
    refine hK2 _ ?_
    clear hK2 K2
    simp only [putd, upd_lst]
    repeat (refine sxf_next fun K2 hK2 => ?_; simp [dNum, dS, binS, bs_list]; (repeat (refine ⟨by omega, ?_⟩)); refine hK2 _ ?_; clear hK2 K2)
    refine sxf_nil (hK' _ ?_)
    refine AW.st (by simp [dNum, dS, binS, bs_list]; rfl) ?_
    clear hK' K'
    refine AW_ret ?_
    simp [D.le, D.le.go, takeMap, dNum, dS]
end Go.Proofs.YtfehigldhedkgaaDoor

/-
  Tables, as they are read.
-/
namespace Go.Proofs.YtfehigldhedkgaaDoor
set_option linter.unusedSimpArgs false
set_option linter.unusedVariables false
open Go.Av Go.ChangeShapes Go.WideShapes Go.ChangeAt Go.RowKit

theorem law_own : ownKnob Tryd.prog.godebug = none := by kernel_rfl
theorem law_laidOut : laidOutB Tryd.prog = true := by kernel_rfl
theorem cells_int : Tryd.prog.cellsOf 3 = 1 := by kernel_rfl
section
variable {H : Type} {enc : TypeId × Value → H} {w : World} {base : Nat} {spare : Nat → Bool} {held : Bool} {X : Nat → Prop}

end

end Go.Proofs.YtfehigldhedkgaaDoor
