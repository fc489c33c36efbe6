/-
  Lists are numbered as they come.
-/
import Derived.Test.YtoikggboakojlaaDoorF3
namespace Go.Proofs.YtoikggboakojlaaDoor
open Go.Av
set_option linter.unusedSimpArgs false
set_option linter.unusedVariables false
attribute [local simp] avOf offAll offOps kindOf Op.operands Call.operands okDst wantedS gval isCall isWr lenA descIs TypeDesc.isSlice TypeDesc.isStr binA isSh binI fit64 indexA elemSz asValD asVal TypeDesc.isAgg fieldAddrA fieldOf fieldA valCells AV.one D.one zeroD catD newsOf unA eqv nilBin constOf nilFits nilA extractA makeIfaceA indexStrA sliceA bound storeBox storeSl TypeDesc.isBool TypeDesc.isIface nilCheckA convA Value.oneCell' buildA placesA fillA makeEls exK preF freezeL AV.rows AV.rows.go plainS plainL appK appOps fromRow stepF stepD stepL rd wr evalL evalP putd mkFn mkIfc

def numStep (st : List (List Int) × List Int) (l : List Int) : List (List Int) × List Int :=
  if idx (fun x => x == l) st.1 < 0 then (st.1 ++ [l], st.2 ++ [(st.1.length : Int)]) else (st.1, st.2 ++ [idx (fun x => x == l) st.1])
def numSt (L : List (List Int)) (n : Nat) : List (List Int) × List Int := (L.take n).foldl numStep ([], [])
def numberF (L : List (List Int)) : List Int := (numSt L L.length).2

theorem numSt_succ {L : List (List Int)} {n : Nat} (hn : n < L.length) : numSt L (n + 1) = numStep (numSt L n) L[n] := by
  unfold numSt
  rw [List.take_succ_eq_append_getElem hn, List.foldl_append]
  rfl
theorem numStep_len (st : List (List Int) × List Int) (l : List Int) : (numStep st l).1.length ≤ st.1.length + 1 ∧ (numStep st l).2.length = st.2.length + 1 := by
  unfold numStep
  split <;> simp
theorem numSt_len {L : List (List Int)} : ∀ {n : Nat}, n ≤ L.length → (numSt L n).1.length ≤ n ∧ (numSt L n).2.length = n
  | 0, _ => by simp [numSt]
  | n + 1, h => by
    have ih := numSt_len (L := L) (n := n) (by omega)
    have := numStep_len (numSt L n) L[n]
    rw [numSt_succ (by omega)]
    omega
theorem numStep_mem {st : List (List Int) × List Int} {l : List Int} {P : List Int → Prop} (h : ∀ r ∈ st.1, P r) (hl : P l) : ∀ r ∈ (numStep st l).1, P r := by
  intro r hr
  unfold numStep at hr
  split at hr
  · simp at hr
    rcases hr with hr | rfl
    · exact h r hr
    · exact hl
  · exact h r hr
theorem numSt_mem {L : List (List Int)} {P : List Int → Prop} (h : ∀ r ∈ L, P r) : ∀ {n : Nat}, n ≤ L.length → ∀ r ∈ (numSt L n).1, P r
  | 0, _ => by simp [numSt]
  | n + 1, hn => by
    rw [numSt_succ (by omega)]
    exact numStep_mem (numSt_mem h (by omega)) (h _ (by simp))

set_option maxHeartbeats 1000000 in
theorem number_spec (G : Glob) (L : List (List Int)) (h : L.length < 2^40) (hr : ∀ r ∈ L, r.length < 2^40) : PureC Tryd.prog G 90 [dRows L] (dRow (numberF L)) := by
  refine PureC.of_body (tyOf_good _) Tryd.func90 rfl rfl (rs := [.tmp 2]) Tryd.results90 (by simp [Tryd.ntmps90]) fun X => ?_
  simp only [Tryd.ntmps90, List.map]
  refine AW_rg (tyOf_good _) (fun _ => trivial) [0] [] fun K' hK' => ?_
  repeat (refine sxf_next fun K2 hK2 => ?_; simp [Int.ofNat_inj, und, undef, upd_lst, hup_hlst, killE_lst, killH_hlst, trE_lst, hno_hlst, St.freeze, aeval, cst, cstD, upd, lst, hlst, List.lookup, int, Av.bool, loadA, mkAgg, mkTup, allD, hup, hno, tgt, args, killE, killH, AV.kill, AV.kill.go, Row.kill, trE, trH, AV.tr, AV.tr.go, Row.tr, frzO, frzF, not1, bneD, beqD]; (repeat (refine ⟨by omega, ?_⟩)); refine hK2 _ ?_; clear hK2 K2)
  first | refine sxf_nil (hK' _ ?_) | (refine sxf_next fun K2 hK2 => ?_; clear hK2 hK'; simp [Int.ofNat_inj, und, undef, upd_lst, hup_hlst, killE_lst, killH_hlst, trE_lst, hno_hlst, St.freeze, aeval, cst, cstD, upd, lst, hlst, List.lookup, int, Av.bool, loadA, mkAgg, mkTup, allD, hup, hno, tgt, args, killE, killH, AV.kill, AV.kill.go, Row.kill, trE, trH, AV.tr, AV.tr.go, Row.tr, frzO, frzF, not1, bneD, beqD]; fail "STUCK")
  refine AW.st (by simp [St.norm, liveL, liveR, trE, trH, onlyO, onlyF, AV.tr, AV.tr.go, Row.tr, mkAgg, mkTup, mkIfc, mkFn, allD, upd, lst, hlst, hup, hno, List.lookup, args, killE, killH, AV.kill, AV.kill.go, Row.kill, frzO, frzF, not1, int, Av.bool, cst, cstD]; rfl) ?_
  clear hK' K'
  refine AW_rg (tyOf_good _) (fun _ => trivial) [0, 3] [] fun K' hK' => ?_
  repeat (refine sxf_next fun K2 hK2 => ?_; simp [Int.ofNat_inj, und, undef, upd_lst, hup_hlst, killE_lst, killH_hlst, trE_lst, hno_hlst, St.freeze, aeval, cst, cstD, upd, lst, hlst, List.lookup, int, Av.bool, loadA, mkAgg, mkTup, allD, hup, hno, tgt, args, killE, killH, AV.kill, AV.kill.go, Row.kill, trE, trH, AV.tr, AV.tr.go, Row.tr, frzO, frzF, not1, bneD, beqD]; (repeat (refine ⟨by omega, ?_⟩)); refine hK2 _ ?_; clear hK2 K2)
  first | refine sxf_nil (hK' _ ?_) | (refine sxf_next fun K2 hK2 => ?_; clear hK2 hK'; simp [Int.ofNat_inj, und, undef, upd_lst, hup_hlst, killE_lst, killH_hlst, trE_lst, hno_hlst, St.freeze, aeval, cst, cstD, upd, lst, hlst, List.lookup, int, Av.bool, loadA, mkAgg, mkTup, allD, hup, hno, tgt, args, killE, killH, AV.kill, AV.kill.go, Row.kill, trE, trH, AV.tr, AV.tr.go, Row.tr, frzO, frzF, not1, bneD, beqD]; fail "STUCK")
  refine AW.st (by simp [St.norm, liveL, liveR, trE, trH, onlyO, onlyF, AV.tr, AV.tr.go, Row.tr, mkAgg, mkTup, mkIfc, mkFn, allD, upd, lst, hlst, hup, hno, List.lookup, args, killE, killH, AV.kill, AV.kill.go, Row.kill, frzO, frzF, not1, int, Av.bool, cst, cstD]; rfl) ?_
  clear hK' K'
  refine AW_rg (tyOf_good _) (fun _ => trivial) [0, 3, 4] [] fun K' hK' => ?_
  repeat (refine sxf_next fun K2 hK2 => ?_; simp [Int.ofNat_inj, und, undef, upd_lst, hup_hlst, killE_lst, killH_hlst, trE_lst, hno_hlst, St.freeze, aeval, cst, cstD, upd, lst, hlst, List.lookup, int, Av.bool, loadA, mkAgg, mkTup, allD, hup, hno, tgt, args, killE, killH, AV.kill, AV.kill.go, Row.kill, trE, trH, AV.tr, AV.tr.go, Row.tr, frzO, frzF, not1, bneD, beqD]; (repeat (refine ⟨by omega, ?_⟩)); refine hK2 _ ?_; clear hK2 K2)
  first | refine sxf_nil (hK' _ ?_) | (refine sxf_next fun K2 hK2 => ?_; clear hK2 hK'; simp [Int.ofNat_inj, und, undef, upd_lst, hup_hlst, killE_lst, killH_hlst, trE_lst, hno_hlst, St.freeze, aeval, cst, cstD, upd, lst, hlst, List.lookup, int, Av.bool, loadA, mkAgg, mkTup, allD, hup, hno, tgt, args, killE, killH, AV.kill, AV.kill.go, Row.kill, trE, trH, AV.tr, AV.tr.go, Row.tr, frzO, frzF, not1, bneD, beqD]; fail "STUCK")
  refine AW.st (by simp [St.norm, liveL, liveR, trE, trH, onlyO, onlyF, AV.tr, AV.tr.go, Row.tr, mkAgg, mkTup, mkIfc, mkFn, allD, upd, lst, hlst, hup, hno, List.lookup, args, killE, killH, AV.kill, AV.kill.go, Row.kill, frzO, frzF, not1, int, Av.bool, cst, cstD]; rfl) ?_
  clear hK' K'
  refine AW_then fun K1 hK1 => ?_
  refine AW_rg (tyOf_good _) (fun _ => trivial) [3, 4, 8, 9, 10] [] fun K' hK' => ?_
  repeat (refine sxf_next fun K2 hK2 => ?_; simp [Int.ofNat_inj, und, undef, upd_lst, hup_hlst, killE_lst, killH_hlst, trE_lst, hno_hlst, St.freeze, aeval, cst, cstD, upd, lst, hlst, List.lookup, int, Av.bool, loadA, mkAgg, mkTup, allD, hup, hno, tgt, args, killE, killH, AV.kill, AV.kill.go, Row.kill, trE, trH, AV.tr, AV.tr.go, Row.tr, frzO, frzF, not1, bneD, beqD, dRows]; (repeat (refine ⟨by omega, ?_⟩)); refine hK2 _ ?_; clear hK2 K2)
  first | refine sxf_nil (hK' _ ?_) | (refine sxf_next fun K2 hK2 => ?_; clear hK2 hK'; simp [Int.ofNat_inj, und, undef, upd_lst, hup_hlst, killE_lst, killH_hlst, trE_lst, hno_hlst, St.freeze, aeval, cst, cstD, upd, lst, hlst, List.lookup, int, Av.bool, loadA, mkAgg, mkTup, allD, hup, hno, tgt, args, killE, killH, AV.kill, AV.kill.go, Row.kill, trE, trH, AV.tr, AV.tr.go, Row.tr, frzO, frzF, not1, bneD, beqD, dRows]; fail "STUCK")
  refine AW.st (by simp [St.norm, liveL, liveR, trE, trH, onlyO, onlyF, AV.tr, AV.tr.go, Row.tr, mkAgg, mkTup, mkIfc, mkFn, allD, upd, lst, hlst, hup, hno, List.lookup, args, killE, killH, AV.kill, AV.kill.go, Row.kill, frzO, frzF, not1, int, Av.bool, cst, cstD, dRows]; rfl) ?_
  clear hK' K'
  refine AW_for (S := Nat) (fun n => n ≤ L.length) (fun n => ⟨lst [(3, .own 24 0 (numSt L n).1.length), (4, .own 28 0 (numSt L n).2.length), (8, .d (dRows L)), (9, int L.length), (10, int n)],
    hlst [(24, .sl 32 1 ((numSt L n).1.map fun r => [dRow r])), (28, .sl 3 1 ((numSt L n).2.map fun n => [dNum n]))]⟩) (fun n => L.length - n) 0 ?_ (by simp) ?_
  · refine (Imp.adopt 3 24 32 1 rfl rfl).trans ((Imp.adopt 4 28 3 1 rfl rfl).trans ?_)
    refine Imp.to' (fun _ => trivial) (by simp [St.norm, liveL, liveR, trE, trH, onlyO, onlyF, AV.tr, AV.tr.go, Row.tr, mkAgg, mkTup, mkIfc, mkFn, allD, upd, lst, hlst, hup, hno, List.lookup, args, killE, killH, AV.kill, AV.kill.go, Row.kill, frzO, frzF, not1, int, Av.bool, cst, cstD, dRows, numSt]) (by simp [St.norm, liveL, liveR, trE, trH, onlyO, onlyF, AV.tr, AV.tr.go, Row.tr, mkAgg, mkTup, mkIfc, mkFn, allD, upd, lst, hlst, hup, hno, List.lookup, args, killE, killH, AV.kill, AV.kill.go, Row.kill, frzO, frzF, not1, int, Av.bool, cst, cstD, dRows, numSt])
  · intro n hn
    obtain ⟨hl1, hl2⟩ := numSt_len hn
    have hmem := numSt_mem hr hn
    have hnext : ∀ h : n < L.length, numSt L (n + 1) = numStep (numSt L n) (L[n]'h) := numSt_succ
    generalize hst : numSt L n = st at hl1 hl2 hmem hnext
    obtain ⟨seen, out⟩ := st
    dsimp only at hl1 hl2 hmem
    refine AW_rg (tyOf_good _) (fun _ => trivial) [3, 4, 8, 9, 10, 11] [24, 28] fun K' hK' => ?_
    repeat (refine sxf_next fun K2 hK2 => ?_; simp [Int.ofNat_inj, und, undef, upd_lst, hup_hlst, killE_lst, killH_hlst, trE_lst, hno_hlst, St.freeze, aeval, cst, cstD, upd, lst, hlst, List.lookup, int, Av.bool, loadA, mkAgg, mkTup, allD, hup, hno, tgt, args, killE, killH, AV.kill, AV.kill.go, Row.kill, trE, trH, AV.tr, AV.tr.go, Row.tr, frzO, frzF, not1, bneD, beqD]; (repeat (refine ⟨by omega, ?_⟩)); refine hK2 _ ?_; clear hK2 K2)
    first | refine sxf_nil (hK' _ ?_) | (refine sxf_next fun K2 hK2 => ?_; clear hK2 hK'; simp [Int.ofNat_inj, und, undef, upd_lst, hup_hlst, killE_lst, killH_hlst, trE_lst, hno_hlst, St.freeze, aeval, cst, cstD, upd, lst, hlst, List.lookup, int, Av.bool, loadA, mkAgg, mkTup, allD, hup, hno, tgt, args, killE, killH, AV.kill, AV.kill.go, Row.kill, trE, trH, AV.tr, AV.tr.go, Row.tr, frzO, frzF, not1, bneD, beqD]; fail "STUCK")
    refine AW.st (by simp [St.norm, liveL, liveR, trE, trH, onlyO, onlyF, AV.tr, AV.tr.go, Row.tr, mkAgg, mkTup, mkIfc, mkFn, allD, upd, lst, hlst, hup, hno, List.lookup, args, killE, killH, AV.kill, AV.kill.go, Row.kill, frzO, frzF, not1, int, Av.bool, cst, cstD]; rfl) ?_
    clear hK' K'
    refine AW_then fun K2 hK2 => ?_
    refine AW_cond' (b := n < L.length) (by simp [thn, inb, atEnd, atEndD, endD, resAll, resOne, oneOf, mkTup, allD, loadA, asVal, asValD, asD, asDs, D.le, D.le.go, liveL, upd, lst, hlst, hup, hno, List.lookup, args, aeval, cst, cstD, int, Av.bool, TypeDesc.isAgg, mkAgg, bneD, beqD, Int.ofNat_inj, takeMap]) (fun hc => ?_) (fun hc => ?_)
    · refine AW_skip (hK2 _ ?_)
      have hL := hr L[n] (by simp)
      refine AW_then fun K3 hK3 => ?_
      refine AW_block ?_
      refine AW_rg (tyOf_good _) (fun _ => trivial) [3, 4, 6, 8, 9, 10] [6, 24, 28] fun K' hK' => ?_
      repeat (refine sxf_next fun K2 hK2 => ?_; simp [Int.ofNat_inj, und, undef, upd_lst, hup_hlst, killE_lst, killH_hlst, trE_lst, hno_hlst, St.freeze, aeval, cst, cstD, upd, lst, hlst, List.lookup, int, Av.bool, loadA, mkAgg, mkTup, allD, hup, hno, tgt, args, killE, killH, AV.kill, AV.kill.go, Row.kill, trE, trH, AV.tr, AV.tr.go, Row.tr, frzO, frzF, not1, bneD, beqD, dRows, dRow, dInts, hc]; (repeat (refine ⟨by omega, ?_⟩)); refine hK2 _ ?_; clear hK2 K2)
      first | refine sxf_nil (hK' _ ?_) | (refine sxf_next fun K2 hK2 => ?_; clear hK2 hK'; simp [Int.ofNat_inj, und, undef, upd_lst, hup_hlst, killE_lst, killH_hlst, trE_lst, hno_hlst, St.freeze, aeval, cst, cstD, upd, lst, hlst, List.lookup, int, Av.bool, loadA, mkAgg, mkTup, allD, hup, hno, tgt, args, killE, killH, AV.kill, AV.kill.go, Row.kill, trE, trH, AV.tr, AV.tr.go, Row.tr, frzO, frzF, not1, bneD, beqD, dRows, dRow, dInts, hc]; fail "STUCK")
      refine AW.st (by simp [St.norm, liveL, liveR, trE, trH, onlyO, onlyF, AV.tr, AV.tr.go, Row.tr, mkAgg, mkTup, mkIfc, mkFn, allD, upd, lst, hlst, hup, hno, List.lookup, args, killE, killH, AV.kill, AV.kill.go, Row.kill, frzO, frzF, not1, int, Av.bool, cst, cstD, dRows, dRow, dInts, hc]; rfl) ?_
      clear hK' K'
      refine AW_rg (tyOf_good _) (fun _ => trivial) [3, 4, 6, 7, 8, 9, 10] [6, 24, 28] fun K' hK' => ?_
      repeat (refine sxf_next fun K2 hK2 => ?_; simp [Int.ofNat_inj, und, undef, upd_lst, hup_hlst, killE_lst, killH_hlst, trE_lst, hno_hlst, St.freeze, aeval, cst, cstD, upd, lst, hlst, List.lookup, int, Av.bool, loadA, mkAgg, mkTup, allD, hup, hno, tgt, args, killE, killH, AV.kill, AV.kill.go, Row.kill, trE, trH, AV.tr, AV.tr.go, Row.tr, frzO, frzF, not1, bneD, beqD, dRow, dInts]; (repeat (refine ⟨by omega, ?_⟩)); refine hK2 _ ?_; clear hK2 K2)
      refine sxf_next fun K2 hK2 => ?_
      simp [Int.ofNat_inj, und, undef, upd_lst, hup_hlst, killE_lst, killH_hlst, trE_lst, hno_hlst, St.freeze, aeval, cst, cstD, upd, lst, hlst, List.lookup, int, Av.bool, loadA, mkAgg, mkTup, allD, hup, hno, tgt, args, killE, killH, AV.kill, AV.kill.go, Row.kill, trE, trH, AV.tr, AV.tr.go, Row.tr, frzO, frzF, not1, bneD, beqD, dRow, dInts]
      refine callK.lend (indexInts_spec G none dRow seen 112 [.ip [dRow L[n]]] (fun x => x == L[n]) (by omega) (fun x hx => number1_spec G x L[n] (by have := hmem x hx; omega))) (by simp [allD, allD_map, asDs_map, asDs, asD, hup, hno, hlst, List.lookup, D.scalar, tgt, aeval, evalL, lst, upd, putd, int, Av.bool, cst, cstD]; rfl) (by first | exact D.leGo_refl _ | simp [takeMap, List.map_map, Function.comp_def, D.le, D.le.go, D.le_refl, D.leGo_refl, dRow, dInts]) (by simp [D.scalar]) ?_
      refine hK2 _ ?_
      clear hK2 K2
      simp only [putd, upd_lst]
      repeat (refine sxf_next fun K2 hK2 => ?_; simp [Int.ofNat_inj, und, undef, upd_lst, hup_hlst, killE_lst, killH_hlst, trE_lst, hno_hlst, St.freeze, aeval, cst, cstD, upd, lst, hlst, List.lookup, int, Av.bool, loadA, mkAgg, mkTup, allD, hup, hno, tgt, args, killE, killH, AV.kill, AV.kill.go, Row.kill, trE, trH, AV.tr, AV.tr.go, Row.tr, frzO, frzF, not1, bneD, beqD, dRow, dInts]; (repeat (refine ⟨by omega, ?_⟩)); refine hK2 _ ?_; clear hK2 K2)
      first | refine sxf_nil (hK' _ ?_) | (refine sxf_next fun K2 hK2 => ?_; clear hK2 hK'; simp [Int.ofNat_inj, und, undef, upd_lst, hup_hlst, killE_lst, killH_hlst, trE_lst, hno_hlst, St.freeze, aeval, cst, cstD, upd, lst, hlst, List.lookup, int, Av.bool, loadA, mkAgg, mkTup, allD, hup, hno, tgt, args, killE, killH, AV.kill, AV.kill.go, Row.kill, trE, trH, AV.tr, AV.tr.go, Row.tr, frzO, frzF, not1, bneD, beqD, dRow, dInts]; fail "STUCK")
      refine AW.st (by simp [St.norm, liveL, liveR, trE, trH, onlyO, onlyF, AV.tr, AV.tr.go, Row.tr, mkAgg, mkTup, mkIfc, mkFn, allD, upd, lst, hlst, hup, hno, List.lookup, args, killE, killH, AV.kill, AV.kill.go, Row.kill, frzO, frzF, not1, int, Av.bool, cst, cstD, dRow, dInts]; rfl) ?_
      clear hK' K'
      have hnx := hnext hc
      generalize hk : idx (fun x => x == L[n]) seen = k
      simp only [numStep, hk] at hnx
      refine AW_then fun K4 hK4 => ?_
      refine AW_rg (tyOf_good _) (fun _ => trivial) [3, 4, 6, 7, 8, 9, 10, 18] [6, 24, 28] fun K' hK' => ?_
      repeat (refine sxf_next fun K2 hK2 => ?_; simp [Int.ofNat_inj, und, undef, upd_lst, hup_hlst, killE_lst, killH_hlst, trE_lst, hno_hlst, St.freeze, aeval, cst, cstD, upd, lst, hlst, List.lookup, int, Av.bool, loadA, mkAgg, mkTup, allD, hup, hno, tgt, args, killE, killH, AV.kill, AV.kill.go, Row.kill, trE, trH, AV.tr, AV.tr.go, Row.tr, frzO, frzF, not1, bneD, beqD]; (repeat (refine ⟨by omega, ?_⟩)); refine hK2 _ ?_; clear hK2 K2)
      first | refine sxf_nil (hK' _ ?_) | (refine sxf_next fun K2 hK2 => ?_; clear hK2 hK'; simp [Int.ofNat_inj, und, undef, upd_lst, hup_hlst, killE_lst, killH_hlst, trE_lst, hno_hlst, St.freeze, aeval, cst, cstD, upd, lst, hlst, List.lookup, int, Av.bool, loadA, mkAgg, mkTup, allD, hup, hno, tgt, args, killE, killH, AV.kill, AV.kill.go, Row.kill, trE, trH, AV.tr, AV.tr.go, Row.tr, frzO, frzF, not1, bneD, beqD]; fail "STUCK")
      refine AW.st (by simp [St.norm, liveL, liveR, trE, trH, onlyO, onlyF, AV.tr, AV.tr.go, Row.tr, mkAgg, mkTup, mkIfc, mkFn, allD, upd, lst, hlst, hup, hno, List.lookup, args, killE, killH, AV.kill, AV.kill.go, Row.kill, frzO, frzF, not1, int, Av.bool, cst, cstD]; rfl) ?_
      clear hK' K'
      refine AW_cond' (b := k < 0) (by simp [thn, inb, atEnd, atEndD, endD, resAll, resOne, oneOf, mkTup, allD, loadA, asVal, asValD, asD, asDs, D.le, D.le.go, liveL, upd, lst, hlst, hup, hno, List.lookup, args, aeval, cst, cstD, int, Av.bool, TypeDesc.isAgg, mkAgg, bneD, beqD, Int.ofNat_inj, takeMap]) (fun hc => ?_) (fun hc => ?_)
      · rw [if_pos hc] at hnx
        refine AW_rg (tyOf_good _) (fun _ => trivial) [3, 4, 6, 7, 8, 9, 10] [6, 24, 28] fun K' hK' => ?_
        repeat (refine sxf_next fun K2 hK2 => ?_; simp [Int.ofNat_inj, und, undef, upd_lst, hup_hlst, killE_lst, killH_hlst, trE_lst, hno_hlst, St.freeze, aeval, cst, cstD, upd, lst, hlst, List.lookup, int, Av.bool, loadA, mkAgg, mkTup, allD, hup, hno, tgt, args, killE, killH, AV.kill, AV.kill.go, Row.kill, trE, trH, AV.tr, AV.tr.go, Row.tr, frzO, frzF, not1, bneD, beqD]; (repeat (refine ⟨by omega, ?_⟩)); refine hK2 _ ?_; clear hK2 K2)
        first | refine sxf_nil (hK' _ ?_) | (refine sxf_next fun K2 hK2 => ?_; clear hK2 hK'; simp [Int.ofNat_inj, und, undef, upd_lst, hup_hlst, killE_lst, killH_hlst, trE_lst, hno_hlst, St.freeze, aeval, cst, cstD, upd, lst, hlst, List.lookup, int, Av.bool, loadA, mkAgg, mkTup, allD, hup, hno, tgt, args, killE, killH, AV.kill, AV.kill.go, Row.kill, trE, trH, AV.tr, AV.tr.go, Row.tr, frzO, frzF, not1, bneD, beqD]; fail "STUCK")
        refine AW.st (by simp [St.norm, liveL, liveR, trE, trH, onlyO, onlyF, AV.tr, AV.tr.go, Row.tr, mkAgg, mkTup, mkIfc, mkFn, allD, upd, lst, hlst, hup, hno, List.lookup, args, killE, killH, AV.kill, AV.kill.go, Row.kill, frzO, frzF, not1, int, Av.bool, cst, cstD]; rfl) ?_
        clear hK' K'
        refine AW_re (tyOf_good _) (fun _ => trivial) fun K' hK' => ?_
        repeat (refine sxf_next fun K2 hK2 => ?_; simp [Int.ofNat_inj, und, undef, upd_lst, hup_hlst, killE_lst, killH_hlst, trE_lst, hno_hlst, St.freeze, aeval, cst, cstD, upd, lst, hlst, List.lookup, int, Av.bool, loadA, mkAgg, mkTup, allD, hup, hno, tgt, args, killE, killH, AV.kill, AV.kill.go, Row.kill, trE, trH, AV.tr, AV.tr.go, Row.tr, frzO, frzF, not1, bneD, beqD, takeMap]; (repeat (refine ⟨by omega, ?_⟩)); refine hK2 _ ?_; clear hK2 K2)
        first | refine sxf_nil (hK' _ ?_) | (refine sxf_next fun K2 hK2 => ?_; clear hK2 hK'; simp [Int.ofNat_inj, und, undef, upd_lst, hup_hlst, killE_lst, killH_hlst, trE_lst, hno_hlst, St.freeze, aeval, cst, cstD, upd, lst, hlst, List.lookup, int, Av.bool, loadA, mkAgg, mkTup, allD, hup, hno, tgt, args, killE, killH, AV.kill, AV.kill.go, Row.kill, trE, trH, AV.tr, AV.tr.go, Row.tr, frzO, frzF, not1, bneD, beqD, takeMap]; fail "STUCK")
        clear hK' K'
        refine hK4 _ (AW.norm (fun _ => trivial) [3, 4, 7, 8, 9, 10] [24, 28] (AW.st (by simp [St.norm, liveL, liveR, trE, trH, onlyO, onlyF, AV.tr, AV.tr.go, Row.tr, mkAgg, mkTup, mkIfc, mkFn, allD, upd, lst, hlst, hup, hno, List.lookup, args, killE, killH, AV.kill, AV.kill.go, Row.kill, frzO, frzF, not1, int, Av.bool, cst, cstD, takeMap]; rfl) ?_))
        refine AW_re (tyOf_good _) (fun _ => trivial) fun K' hK' => ?_
        repeat (refine sxf_next fun K2 hK2 => ?_; simp [Int.ofNat_inj, und, undef, upd_lst, hup_hlst, killE_lst, killH_hlst, trE_lst, hno_hlst, St.freeze, aeval, cst, cstD, upd, lst, hlst, List.lookup, int, Av.bool, loadA, mkAgg, mkTup, allD, hup, hno, tgt, args, killE, killH, AV.kill, AV.kill.go, Row.kill, trE, trH, AV.tr, AV.tr.go, Row.tr, frzO, frzF, not1, bneD, beqD, takeMap]; (repeat (refine ⟨by omega, ?_⟩)); refine hK2 _ ?_; clear hK2 K2)
        first | refine sxf_nil (hK' _ ?_) | (refine sxf_next fun K2 hK2 => ?_; clear hK2 hK'; simp [Int.ofNat_inj, und, undef, upd_lst, hup_hlst, killE_lst, killH_hlst, trE_lst, hno_hlst, St.freeze, aeval, cst, cstD, upd, lst, hlst, List.lookup, int, Av.bool, loadA, mkAgg, mkTup, allD, hup, hno, tgt, args, killE, killH, AV.kill, AV.kill.go, Row.kill, trE, trH, AV.tr, AV.tr.go, Row.tr, frzO, frzF, not1, bneD, beqD, takeMap]; fail "STUCK")
        clear hK' K'
        refine hK3 _ (AW.norm (fun _ => trivial) [3, 4, 8, 9, 10] [24, 28] (AW.st (by simp [St.norm, liveL, liveR, trE, trH, onlyO, onlyF, AV.tr, AV.tr.go, Row.tr, mkAgg, mkTup, mkIfc, mkFn, allD, upd, lst, hlst, hup, hno, List.lookup, args, killE, killH, AV.kill, AV.kill.go, Row.kill, frzO, frzF, not1, int, Av.bool, cst, cstD, takeMap]; rfl) ?_))
        refine AW_re (tyOf_good _) (fun _ => trivial) fun K' hK' => ?_
        repeat (refine sxf_next fun K2 hK2 => ?_; simp [Int.ofNat_inj, und, undef, upd_lst, hup_hlst, killE_lst, killH_hlst, trE_lst, hno_hlst, St.freeze, aeval, cst, cstD, upd, lst, hlst, List.lookup, int, Av.bool, loadA, mkAgg, mkTup, allD, hup, hno, tgt, args, killE, killH, AV.kill, AV.kill.go, Row.kill, trE, trH, AV.tr, AV.tr.go, Row.tr, frzO, frzF, not1, bneD, beqD]; (repeat (refine ⟨by omega, ?_⟩)); refine hK2 _ ?_; clear hK2 K2)
        first | refine sxf_nil (hK' _ ?_) | (refine sxf_next fun K2 hK2 => ?_; clear hK2 hK'; simp [Int.ofNat_inj, und, undef, upd_lst, hup_hlst, killE_lst, killH_hlst, trE_lst, hno_hlst, St.freeze, aeval, cst, cstD, upd, lst, hlst, List.lookup, int, Av.bool, loadA, mkAgg, mkTup, allD, hup, hno, tgt, args, killE, killH, AV.kill, AV.kill.go, Row.kill, trE, trH, AV.tr, AV.tr.go, Row.tr, frzO, frzF, not1, bneD, beqD]; fail "STUCK")
        clear hK' K'
        try simp only [thn, inb]
        refine Again.mk (n + 1) (by omega) (by omega) ?_
        rw [hnx]
        refine Imp.to' (fun _ => trivial) (by simp [St.norm, liveL, liveR, trE, trH, onlyO, onlyF, AV.tr, AV.tr.go, Row.tr, mkAgg, mkTup, mkIfc, mkFn, allD, upd, lst, hlst, hup, hno, List.lookup, args, killE, killH, AV.kill, AV.kill.go, Row.kill, frzO, frzF, not1, int, Av.bool, cst, cstD, dRow, dInts, dNum, dRows]) (by simp [St.norm, liveL, liveR, trE, trH, onlyO, onlyF, AV.tr, AV.tr.go, Row.tr, mkAgg, mkTup, mkIfc, mkFn, allD, upd, lst, hlst, hup, hno, List.lookup, args, killE, killH, AV.kill, AV.kill.go, Row.kill, frzO, frzF, not1, int, Av.bool, cst, cstD, dRow, dInts, dNum, dRows])
      · rw [if_neg hc] at hnx
        refine AW_skip (hK4 _ ?_)
        refine AW_re (tyOf_good _) (fun _ => trivial) fun K' hK' => ?_
        repeat (refine sxf_next fun K2 hK2 => ?_; simp [Int.ofNat_inj, und, undef, upd_lst, hup_hlst, killE_lst, killH_hlst, trE_lst, hno_hlst, St.freeze, aeval, cst, cstD, upd, lst, hlst, List.lookup, int, Av.bool, loadA, mkAgg, mkTup, allD, hup, hno, tgt, args, killE, killH, AV.kill, AV.kill.go, Row.kill, trE, trH, AV.tr, AV.tr.go, Row.tr, frzO, frzF, not1, bneD, beqD, takeMap]; (repeat (refine ⟨by omega, ?_⟩)); refine hK2 _ ?_; clear hK2 K2)
        first | refine sxf_nil (hK' _ ?_) | (refine sxf_next fun K2 hK2 => ?_; clear hK2 hK'; simp [Int.ofNat_inj, und, undef, upd_lst, hup_hlst, killE_lst, killH_hlst, trE_lst, hno_hlst, St.freeze, aeval, cst, cstD, upd, lst, hlst, List.lookup, int, Av.bool, loadA, mkAgg, mkTup, allD, hup, hno, tgt, args, killE, killH, AV.kill, AV.kill.go, Row.kill, trE, trH, AV.tr, AV.tr.go, Row.tr, frzO, frzF, not1, bneD, beqD, takeMap]; fail "STUCK")
        clear hK' K'
        refine hK3 _ (AW.norm (fun _ => trivial) [3, 4, 8, 9, 10] [24, 28] (AW.st (by simp [St.norm, liveL, liveR, trE, trH, onlyO, onlyF, AV.tr, AV.tr.go, Row.tr, mkAgg, mkTup, mkIfc, mkFn, allD, upd, lst, hlst, hup, hno, List.lookup, args, killE, killH, AV.kill, AV.kill.go, Row.kill, frzO, frzF, not1, int, Av.bool, cst, cstD, takeMap]; rfl) ?_))
        refine AW_re (tyOf_good _) (fun _ => trivial) fun K' hK' => ?_
        repeat (refine sxf_next fun K2 hK2 => ?_; simp [Int.ofNat_inj, und, undef, upd_lst, hup_hlst, killE_lst, killH_hlst, trE_lst, hno_hlst, St.freeze, aeval, cst, cstD, upd, lst, hlst, List.lookup, int, Av.bool, loadA, mkAgg, mkTup, allD, hup, hno, tgt, args, killE, killH, AV.kill, AV.kill.go, Row.kill, trE, trH, AV.tr, AV.tr.go, Row.tr, frzO, frzF, not1, bneD, beqD]; (repeat (refine ⟨by omega, ?_⟩)); refine hK2 _ ?_; clear hK2 K2)
        first | refine sxf_nil (hK' _ ?_) | (refine sxf_next fun K2 hK2 => ?_; clear hK2 hK'; simp [Int.ofNat_inj, und, undef, upd_lst, hup_hlst, killE_lst, killH_hlst, trE_lst, hno_hlst, St.freeze, aeval, cst, cstD, upd, lst, hlst, List.lookup, int, Av.bool, loadA, mkAgg, mkTup, allD, hup, hno, tgt, args, killE, killH, AV.kill, AV.kill.go, Row.kill, trE, trH, AV.tr, AV.tr.go, Row.tr, frzO, frzF, not1, bneD, beqD]; fail "STUCK")
        clear hK' K'
        try simp only [thn, inb]
        refine Again.mk (n + 1) (by omega) (by omega) ?_
        rw [hnx]
        refine Imp.to' (fun _ => trivial) (by simp [St.norm, liveL, liveR, trE, trH, onlyO, onlyF, AV.tr, AV.tr.go, Row.tr, mkAgg, mkTup, mkIfc, mkFn, allD, upd, lst, hlst, hup, hno, List.lookup, args, killE, killH, AV.kill, AV.kill.go, Row.kill, frzO, frzF, not1, int, Av.bool, cst, cstD, dRow, dInts, dNum, dRows]) (by simp [St.norm, liveL, liveR, trE, trH, onlyO, onlyF, AV.tr, AV.tr.go, Row.tr, mkAgg, mkTup, mkIfc, mkFn, allD, upd, lst, hlst, hup, hno, List.lookup, args, killE, killH, AV.kill, AV.kill.go, Row.kill, frzO, frzF, not1, int, Av.bool, cst, cstD, dRow, dInts, dNum, dRows])
    · refine AW_exit (hK1 _ ?_)
      refine AW_rg (tyOf_good _) (fun _ => trivial) [2] [28] fun K' hK' => ?_
      repeat (refine sxf_next fun K2 hK2 => ?_; simp [Int.ofNat_inj, und, undef, upd_lst, hup_hlst, killE_lst, killH_hlst, trE_lst, hno_hlst, St.freeze, aeval, cst, cstD, upd, lst, hlst, List.lookup, int, Av.bool, loadA, mkAgg, mkTup, allD, hup, hno, tgt, args, killE, killH, AV.kill, AV.kill.go, Row.kill, trE, trH, AV.tr, AV.tr.go, Row.tr, frzO, frzF, not1, bneD, beqD]; (repeat (refine ⟨by omega, ?_⟩)); refine hK2 _ ?_; clear hK2 K2)
      first | refine sxf_nil (hK' _ ?_) | (refine sxf_next fun K2 hK2 => ?_; clear hK2 hK'; simp [Int.ofNat_inj, und, undef, upd_lst, hup_hlst, killE_lst, killH_hlst, trE_lst, hno_hlst, St.freeze, aeval, cst, cstD, upd, lst, hlst, List.lookup, int, Av.bool, loadA, mkAgg, mkTup, allD, hup, hno, tgt, args, killE, killH, AV.kill, AV.kill.go, Row.kill, trE, trH, AV.tr, AV.tr.go, Row.tr, frzO, frzF, not1, bneD, beqD]; fail "STUCK")
      refine AW.st (by simp [St.norm, liveL, liveR, trE, trH, onlyO, onlyF, AV.tr, AV.tr.go, Row.tr, mkAgg, mkTup, mkIfc, mkFn, allD, upd, lst, hlst, hup, hno, List.lookup, args, killE, killH, AV.kill, AV.kill.go, Row.kill, frzO, frzF, not1, int, Av.bool, cst, cstD]; rfl) ?_
      clear hK' K'
      refine AW_ret ?_
      simp [thn, inb, atEnd, atEndD, endD, resAll, resOne, oneOf, mkTup, allD, loadA, asVal, asValD, asD, asDs, D.le, D.le.go, liveL, upd, lst, hlst, hup, hno, List.lookup, args, aeval, cst, cstD, int, Av.bool, TypeDesc.isAgg, mkAgg, bneD, beqD, Int.ofNat_inj, takeMap, dRow, dInts, dNum]
      have hnn : n = L.length := by omega
      subst hnn
      simp [numberF, hst]
#print axioms number_spec
end Go.Proofs.YtoikggboakojlaaDoor
