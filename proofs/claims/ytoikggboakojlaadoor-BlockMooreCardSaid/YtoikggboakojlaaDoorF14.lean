/-
  What a table tells of inputs; a number below another one.
-/
import Derived.Test.YtoikggboakojlaaDoorF13
import Derived.Test.YtoikggboakojlaaDoorP4
namespace Go.Proofs.YtoikggboakojlaaDoor
open Go.Av
set_option linter.unusedSimpArgs false
set_option linter.unusedVariables false
attribute [local simp] avOf offAll offOps kindOf Op.operands Call.operands okDst wantedS gval isCall isWr lenA descIs TypeDesc.isSlice TypeDesc.isStr binA isSh binI fit64 indexA elemSz asValD asVal TypeDesc.isAgg fieldAddrA fieldOf fieldA valCells AV.one D.one zeroD catD newsOf unA eqv nilBin constOf nilFits nilA extractA makeIfaceA indexStrA sliceA bound storeBox storeSl TypeDesc.isBool TypeDesc.isIface nilCheckA convA Value.oneCell' buildA placesA fillA makeEls exK preF freezeL AV.rows AV.rows.go plainS plainL appK appOps fromRow stepF stepD stepL rd wr evalL evalP putd mkFn mkIfc

def natsI (l : List Nat) : List Int := l.map fun (c : Nat) => (c : Int)
theorem natsI_len (l : List Nat) : (natsI l).length = l.length := by simp [natsI]
theorem natsI_get (l : List Nat) (i : Nat) (h : i < (natsI l).length) : (natsI l)[i] = ((l[i]'(by rw [natsI_len] at h; exact h) : Nat) : Int) := by simp [natsI]
def dNats (l : List Nat) : D := dRow (natsI l)

theorem tell1_spec (G : Glob) (t : Tab) (hp : 0 < t.next.length) (x : Int) : PureC Tryd.prog G 66 [dNum x, .ip [dRows t.next, dRows t.tells]] (.v (.bool (x < 0 || (wd t : Int) ≤ x))) := by
  have hg : t.next.getD 0 [] = t.next[0] := by rw [List.getD_eq_getElem?_getD, List.getElem?_eq_getElem hp]; rfl
  have hw : wd t = t.next[0].length := by unfold wd; rw [hg]
  refine PureC.of_body (tyOf_good _) Tryd.func66 rfl rfl (rs := [.tmp 3]) Tryd.results66 (by simp [Tryd.ntmps66]) fun X => ?_
  simp only [Tryd.ntmps66, List.map]
  refine AW_rg (tyOf_good _) (fun _ => trivial) [0, 1] [] fun K' hK' => ?_
  repeat (refine sxf_next fun K2 hK2 => ?_; simp [Int.ofNat_inj, und, undef, upd_lst, hup_hlst, killE_lst, killH_hlst, trE_lst, hno_hlst, St.freeze, aeval, cst, cstD, upd, lst, hlst, List.lookup, int, Av.bool, loadA, mkAgg, mkTup, allD, hup, hno, tgt, args, killE, killH, AV.kill, AV.kill.go, Row.kill, trE, trH, AV.tr, AV.tr.go, Row.tr, frzO, frzF, not1, bneD, beqD, dNum]; (repeat (refine ⟨by omega, ?_⟩)); refine hK2 _ ?_; clear hK2 K2)
  first | refine sxf_nil (hK' _ ?_) | (refine sxf_next fun K2 hK2 => ?_; clear hK2 hK'; simp [Int.ofNat_inj, und, undef, upd_lst, hup_hlst, killE_lst, killH_hlst, trE_lst, hno_hlst, St.freeze, aeval, cst, cstD, upd, lst, hlst, List.lookup, int, Av.bool, loadA, mkAgg, mkTup, allD, hup, hno, tgt, args, killE, killH, AV.kill, AV.kill.go, Row.kill, trE, trH, AV.tr, AV.tr.go, Row.tr, frzO, frzF, not1, bneD, beqD, dNum]; fail "STUCK")
  refine AW.st (by simp [St.norm, liveL, liveR, trE, trH, onlyO, onlyF, AV.tr, AV.tr.go, Row.tr, mkAgg, mkTup, mkIfc, mkFn, allD, upd, lst, hlst, hup, hno, List.lookup, args, killE, killH, AV.kill, AV.kill.go, Row.kill, frzO, frzF, not1, int, Av.bool, cst, cstD, dNum]; rfl) ?_
  clear hK' K'
  by_cases h : x < 0
  · refine AW_rg (tyOf_good _) (fun _ => trivial) [3] [] fun K' hK' => ?_
    repeat (refine sxf_next fun K2 hK2 => ?_; simp [Int.ofNat_inj, und, undef, upd_lst, hup_hlst, killE_lst, killH_hlst, trE_lst, hno_hlst, St.freeze, aeval, cst, cstD, upd, lst, hlst, List.lookup, int, Av.bool, loadA, mkAgg, mkTup, allD, hup, hno, tgt, args, killE, killH, AV.kill, AV.kill.go, Row.kill, trE, trH, AV.tr, AV.tr.go, Row.tr, frzO, frzF, not1, bneD, beqD, dNum, h]; (repeat (refine ⟨by omega, ?_⟩)); refine hK2 _ ?_; clear hK2 K2)
    first | refine sxf_nil (hK' _ ?_) | (refine sxf_next fun K2 hK2 => ?_; clear hK2 hK'; simp [Int.ofNat_inj, und, undef, upd_lst, hup_hlst, killE_lst, killH_hlst, trE_lst, hno_hlst, St.freeze, aeval, cst, cstD, upd, lst, hlst, List.lookup, int, Av.bool, loadA, mkAgg, mkTup, allD, hup, hno, tgt, args, killE, killH, AV.kill, AV.kill.go, Row.kill, trE, trH, AV.tr, AV.tr.go, Row.tr, frzO, frzF, not1, bneD, beqD, dNum, h]; fail "STUCK")
    refine AW.st (by simp [St.norm, liveL, liveR, trE, trH, onlyO, onlyF, AV.tr, AV.tr.go, Row.tr, mkAgg, mkTup, mkIfc, mkFn, allD, upd, lst, hlst, hup, hno, List.lookup, args, killE, killH, AV.kill, AV.kill.go, Row.kill, frzO, frzF, not1, int, Av.bool, cst, cstD, dNum, h]; rfl) ?_
    clear hK' K'
    refine AW_ret ?_
    simp [thn, inb, atEnd, atEndD, endD, resAll, resOne, oneOf, mkTup, allD, loadA, asVal, asValD, asD, asDs, D.le, D.le.go, liveL, upd, lst, hlst, hup, hno, List.lookup, args, aeval, cst, cstD, int, Av.bool, TypeDesc.isAgg, mkAgg, bneD, beqD, Int.ofNat_inj, takeMap]
    simp [h]
  · refine AW_rg (tyOf_good _) (fun _ => trivial) [3] [] fun K' hK' => ?_
    repeat (refine sxf_next fun K2 hK2 => ?_; simp [Int.ofNat_inj, und, undef, upd_lst, hup_hlst, killE_lst, killH_hlst, trE_lst, hno_hlst, St.freeze, aeval, cst, cstD, upd, lst, hlst, List.lookup, int, Av.bool, loadA, mkAgg, mkTup, allD, hup, hno, tgt, args, killE, killH, AV.kill, AV.kill.go, Row.kill, trE, trH, AV.tr, AV.tr.go, Row.tr, frzO, frzF, not1, bneD, beqD, dNum, h, dRows, dRow, dInts, hp]; (repeat (refine ⟨by omega, ?_⟩)); refine hK2 _ ?_; clear hK2 K2)
    first | refine sxf_nil (hK' _ ?_) | (refine sxf_next fun K2 hK2 => ?_; clear hK2 hK'; simp [Int.ofNat_inj, und, undef, upd_lst, hup_hlst, killE_lst, killH_hlst, trE_lst, hno_hlst, St.freeze, aeval, cst, cstD, upd, lst, hlst, List.lookup, int, Av.bool, loadA, mkAgg, mkTup, allD, hup, hno, tgt, args, killE, killH, AV.kill, AV.kill.go, Row.kill, trE, trH, AV.tr, AV.tr.go, Row.tr, frzO, frzF, not1, bneD, beqD, dNum, h, dRows, dRow, dInts, hp]; fail "STUCK")
    refine AW.st (by simp [St.norm, liveL, liveR, trE, trH, onlyO, onlyF, AV.tr, AV.tr.go, Row.tr, mkAgg, mkTup, mkIfc, mkFn, allD, upd, lst, hlst, hup, hno, List.lookup, args, killE, killH, AV.kill, AV.kill.go, Row.kill, frzO, frzF, not1, int, Av.bool, cst, cstD, dNum, h, dRows, dRow, dInts, hp]; rfl) ?_
    clear hK' K'
    refine AW_ret ?_
    simp [thn, inb, atEnd, atEndD, endD, resAll, resOne, oneOf, mkTup, allD, loadA, asVal, asValD, asD, asDs, D.le, D.le.go, liveL, upd, lst, hlst, hup, hno, List.lookup, args, aeval, cst, cstD, int, Av.bool, TypeDesc.isAgg, mkAgg, bneD, beqD, Int.ofNat_inj, takeMap]
    simp [h, hw]

set_option maxHeartbeats 1000000 in
theorem btell_bad (G : Glob) (t : Tab) (a : Int) (l : List Int) (e : Int × Option Nat) (h : checkF t = some e) : PureC Tryd.prog G 26 [dTab t, dNum a, dRow l] (.tup [.sl (some false) [], dErr (some e)]) := by
  refine PureC.of_body (tyOf_good _) Tryd.func26 rfl rfl (rs := [.tmp 6, .tmp 7]) Tryd.results26 (by simp [Tryd.ntmps26]) fun X => ?_
  simp only [Tryd.ntmps26, List.map]
  refine AW_rg (tyOf_good _) (fun _ => trivial) [1, 2, 3] [3] fun K' hK' => ?_
  repeat (refine sxf_next fun K2 hK2 => ?_; simp [Int.ofNat_inj, und, undef, upd_lst, hup_hlst, killE_lst, killH_hlst, trE_lst, hno_hlst, St.freeze, aeval, cst, cstD, upd, lst, hlst, List.lookup, int, Av.bool, loadA, mkAgg, mkTup, allD, hup, hno, tgt, args, killE, killH, AV.kill, AV.kill.go, Row.kill, trE, trH, AV.tr, AV.tr.go, Row.tr, frzO, frzF, not1, bneD, beqD, dTab, dNum]; (repeat (refine ⟨by omega, ?_⟩)); refine hK2 _ ?_; clear hK2 K2)
  first | refine sxf_nil (hK' _ ?_) | (refine sxf_next fun K2 hK2 => ?_; clear hK2 hK'; simp [Int.ofNat_inj, und, undef, upd_lst, hup_hlst, killE_lst, killH_hlst, trE_lst, hno_hlst, St.freeze, aeval, cst, cstD, upd, lst, hlst, List.lookup, int, Av.bool, loadA, mkAgg, mkTup, allD, hup, hno, tgt, args, killE, killH, AV.kill, AV.kill.go, Row.kill, trE, trH, AV.tr, AV.tr.go, Row.tr, frzO, frzF, not1, bneD, beqD, dTab, dNum]; fail "STUCK")
  refine AW.st (by simp [St.norm, liveL, liveR, trE, trH, onlyO, onlyF, AV.tr, AV.tr.go, Row.tr, mkAgg, mkTup, mkIfc, mkFn, allD, upd, lst, hlst, hup, hno, List.lookup, args, killE, killH, AV.kill, AV.kill.go, Row.kill, frzO, frzF, not1, int, Av.bool, cst, cstD, dTab, dNum]; rfl) ?_
  clear hK' K'
  refine AW_then fun K1 hK1 => ?_
  refine AW_rg (tyOf_good _) (fun _ => trivial) [1, 2, 3, 8] [3] fun K' hK' => ?_
  repeat (refine sxf_next fun K2 hK2 => ?_; simp [Int.ofNat_inj, und, undef, upd_lst, hup_hlst, killE_lst, killH_hlst, trE_lst, hno_hlst, St.freeze, aeval, cst, cstD, upd, lst, hlst, List.lookup, int, Av.bool, loadA, mkAgg, mkTup, allD, hup, hno, tgt, args, killE, killH, AV.kill, AV.kill.go, Row.kill, trE, trH, AV.tr, AV.tr.go, Row.tr, frzO, frzF, not1, bneD, beqD]; (repeat (refine ⟨by omega, ?_⟩)); refine hK2 _ ?_; clear hK2 K2)
  refine sxf_next fun K2 hK2 => ?_
  simp [Int.ofNat_inj, und, undef, upd_lst, hup_hlst, killE_lst, killH_hlst, trE_lst, hno_hlst, St.freeze, aeval, cst, cstD, upd, lst, hlst, List.lookup, int, Av.bool, loadA, mkAgg, mkTup, allD, hup, hno, tgt, args, killE, killH, AV.kill, AV.kill.go, Row.kill, trE, trH, AV.tr, AV.tr.go, Row.tr, frzO, frzF, not1, bneD, beqD]
  refine callK.data (check_spec G t) (by simp [allD, allD_map, asDs_map, asDs, asD, hup, hno, hlst, List.lookup, D.scalar, tgt, aeval, evalL, lst, upd, putd, int, Av.bool, cst, cstD]; rfl) (by first | exact D.leGo_refl _ | simp [takeMap, List.map_map, Function.comp_def, D.le, D.le.go, D.le_refl, D.leGo_refl]) ?_
  refine hK2 _ ?_
  clear hK2 K2
  simp only [putd, upd_lst]
  repeat (refine sxf_next fun K2 hK2 => ?_; simp [Int.ofNat_inj, und, undef, upd_lst, hup_hlst, killE_lst, killH_hlst, trE_lst, hno_hlst, St.freeze, aeval, cst, cstD, upd, lst, hlst, List.lookup, int, Av.bool, loadA, mkAgg, mkTup, allD, hup, hno, tgt, args, killE, killH, AV.kill, AV.kill.go, Row.kill, trE, trH, AV.tr, AV.tr.go, Row.tr, frzO, frzF, not1, bneD, beqD]; (repeat (refine ⟨by omega, ?_⟩)); refine hK2 _ ?_; clear hK2 K2)
  first | refine sxf_nil (hK' _ ?_) | (refine sxf_next fun K2 hK2 => ?_; clear hK2 hK'; simp [Int.ofNat_inj, und, undef, upd_lst, hup_hlst, killE_lst, killH_hlst, trE_lst, hno_hlst, St.freeze, aeval, cst, cstD, upd, lst, hlst, List.lookup, int, Av.bool, loadA, mkAgg, mkTup, allD, hup, hno, tgt, args, killE, killH, AV.kill, AV.kill.go, Row.kill, trE, trH, AV.tr, AV.tr.go, Row.tr, frzO, frzF, not1, bneD, beqD]; fail "STUCK")
  refine AW.st (by simp [St.norm, liveL, liveR, trE, trH, onlyO, onlyF, AV.tr, AV.tr.go, Row.tr, mkAgg, mkTup, mkIfc, mkFn, allD, upd, lst, hlst, hup, hno, List.lookup, args, killE, killH, AV.kill, AV.kill.go, Row.kill, frzO, frzF, not1, int, Av.bool, cst, cstD]; rfl) ?_
  clear hK' K'
  rw [h]
  obtain ⟨c, s⟩ := e
  cases s
  · refine AW_rg (tyOf_good _) (fun _ => trivial) [1, 2, 3, 8, 15] [3] fun K' hK' => ?_
    repeat (refine sxf_next fun K2 hK2 => ?_; simp [Int.ofNat_inj, und, undef, upd_lst, hup_hlst, killE_lst, killH_hlst, trE_lst, hno_hlst, St.freeze, aeval, cst, cstD, upd, lst, hlst, List.lookup, int, Av.bool, loadA, mkAgg, mkTup, allD, hup, hno, tgt, args, killE, killH, AV.kill, AV.kill.go, Row.kill, trE, trH, AV.tr, AV.tr.go, Row.tr, frzO, frzF, not1, bneD, beqD, dErr]; (repeat (refine ⟨by omega, ?_⟩)); refine hK2 _ ?_; clear hK2 K2)
    first | refine sxf_nil (hK' _ ?_) | (refine sxf_next fun K2 hK2 => ?_; clear hK2 hK'; simp [Int.ofNat_inj, und, undef, upd_lst, hup_hlst, killE_lst, killH_hlst, trE_lst, hno_hlst, St.freeze, aeval, cst, cstD, upd, lst, hlst, List.lookup, int, Av.bool, loadA, mkAgg, mkTup, allD, hup, hno, tgt, args, killE, killH, AV.kill, AV.kill.go, Row.kill, trE, trH, AV.tr, AV.tr.go, Row.tr, frzO, frzF, not1, bneD, beqD, dErr]; fail "STUCK")
    refine AW.st (by simp [St.norm, liveL, liveR, trE, trH, onlyO, onlyF, AV.tr, AV.tr.go, Row.tr, mkAgg, mkTup, mkIfc, mkFn, allD, upd, lst, hlst, hup, hno, List.lookup, args, killE, killH, AV.kill, AV.kill.go, Row.kill, frzO, frzF, not1, int, Av.bool, cst, cstD, dErr]; rfl) ?_
    clear hK' K'
    refine AW_cond true rfl (fun _ => ?_) (fun h => by cases h)
    refine AW_rg (tyOf_good _) (fun _ => trivial) [6, 7] [3] fun K' hK' => ?_
    repeat (refine sxf_next fun K2 hK2 => ?_; simp [Int.ofNat_inj, und, undef, upd_lst, hup_hlst, killE_lst, killH_hlst, trE_lst, hno_hlst, St.freeze, aeval, cst, cstD, upd, lst, hlst, List.lookup, int, Av.bool, loadA, mkAgg, mkTup, allD, hup, hno, tgt, args, killE, killH, AV.kill, AV.kill.go, Row.kill, trE, trH, AV.tr, AV.tr.go, Row.tr, frzO, frzF, not1, bneD, beqD]; (repeat (refine ⟨by omega, ?_⟩)); refine hK2 _ ?_; clear hK2 K2)
    first | refine sxf_nil (hK' _ ?_) | (refine sxf_next fun K2 hK2 => ?_; clear hK2 hK'; simp [Int.ofNat_inj, und, undef, upd_lst, hup_hlst, killE_lst, killH_hlst, trE_lst, hno_hlst, St.freeze, aeval, cst, cstD, upd, lst, hlst, List.lookup, int, Av.bool, loadA, mkAgg, mkTup, allD, hup, hno, tgt, args, killE, killH, AV.kill, AV.kill.go, Row.kill, trE, trH, AV.tr, AV.tr.go, Row.tr, frzO, frzF, not1, bneD, beqD]; fail "STUCK")
    refine AW.st (by simp [St.norm, liveL, liveR, trE, trH, onlyO, onlyF, AV.tr, AV.tr.go, Row.tr, mkAgg, mkTup, mkIfc, mkFn, allD, upd, lst, hlst, hup, hno, List.lookup, args, killE, killH, AV.kill, AV.kill.go, Row.kill, frzO, frzF, not1, int, Av.bool, cst, cstD]; rfl) ?_
    clear hK' K'
    refine AW_ret ?_
    simp [thn, inb, atEnd, atEndD, endD, resAll, resOne, oneOf, mkTup, allD, loadA, asVal, asValD, asD, asDs, D.le, D.le.go, liveL, upd, lst, hlst, hup, hno, List.lookup, args, aeval, cst, cstD, int, Av.bool, TypeDesc.isAgg, mkAgg, bneD, beqD, Int.ofNat_inj, takeMap, dErr]
  · refine AW_rg (tyOf_good _) (fun _ => trivial) [1, 2, 3, 8, 15] [3] fun K' hK' => ?_
    repeat (refine sxf_next fun K2 hK2 => ?_; simp [Int.ofNat_inj, und, undef, upd_lst, hup_hlst, killE_lst, killH_hlst, trE_lst, hno_hlst, St.freeze, aeval, cst, cstD, upd, lst, hlst, List.lookup, int, Av.bool, loadA, mkAgg, mkTup, allD, hup, hno, tgt, args, killE, killH, AV.kill, AV.kill.go, Row.kill, trE, trH, AV.tr, AV.tr.go, Row.tr, frzO, frzF, not1, bneD, beqD, dErr]; (repeat (refine ⟨by omega, ?_⟩)); refine hK2 _ ?_; clear hK2 K2)
    first | refine sxf_nil (hK' _ ?_) | (refine sxf_next fun K2 hK2 => ?_; clear hK2 hK'; simp [Int.ofNat_inj, und, undef, upd_lst, hup_hlst, killE_lst, killH_hlst, trE_lst, hno_hlst, St.freeze, aeval, cst, cstD, upd, lst, hlst, List.lookup, int, Av.bool, loadA, mkAgg, mkTup, allD, hup, hno, tgt, args, killE, killH, AV.kill, AV.kill.go, Row.kill, trE, trH, AV.tr, AV.tr.go, Row.tr, frzO, frzF, not1, bneD, beqD, dErr]; fail "STUCK")
    refine AW.st (by simp [St.norm, liveL, liveR, trE, trH, onlyO, onlyF, AV.tr, AV.tr.go, Row.tr, mkAgg, mkTup, mkIfc, mkFn, allD, upd, lst, hlst, hup, hno, List.lookup, args, killE, killH, AV.kill, AV.kill.go, Row.kill, frzO, frzF, not1, int, Av.bool, cst, cstD, dErr]; rfl) ?_
    clear hK' K'
    refine AW_cond true rfl (fun _ => ?_) (fun h => by cases h)
    refine AW_rg (tyOf_good _) (fun _ => trivial) [6, 7] [3] fun K' hK' => ?_
    repeat (refine sxf_next fun K2 hK2 => ?_; simp [Int.ofNat_inj, und, undef, upd_lst, hup_hlst, killE_lst, killH_hlst, trE_lst, hno_hlst, St.freeze, aeval, cst, cstD, upd, lst, hlst, List.lookup, int, Av.bool, loadA, mkAgg, mkTup, allD, hup, hno, tgt, args, killE, killH, AV.kill, AV.kill.go, Row.kill, trE, trH, AV.tr, AV.tr.go, Row.tr, frzO, frzF, not1, bneD, beqD]; (repeat (refine ⟨by omega, ?_⟩)); refine hK2 _ ?_; clear hK2 K2)
    first | refine sxf_nil (hK' _ ?_) | (refine sxf_next fun K2 hK2 => ?_; clear hK2 hK'; simp [Int.ofNat_inj, und, undef, upd_lst, hup_hlst, killE_lst, killH_hlst, trE_lst, hno_hlst, St.freeze, aeval, cst, cstD, upd, lst, hlst, List.lookup, int, Av.bool, loadA, mkAgg, mkTup, allD, hup, hno, tgt, args, killE, killH, AV.kill, AV.kill.go, Row.kill, trE, trH, AV.tr, AV.tr.go, Row.tr, frzO, frzF, not1, bneD, beqD]; fail "STUCK")
    refine AW.st (by simp [St.norm, liveL, liveR, trE, trH, onlyO, onlyF, AV.tr, AV.tr.go, Row.tr, mkAgg, mkTup, mkIfc, mkFn, allD, upd, lst, hlst, hup, hno, List.lookup, args, killE, killH, AV.kill, AV.kill.go, Row.kill, frzO, frzF, not1, int, Av.bool, cst, cstD]; rfl) ?_
    clear hK' K'
    refine AW_ret ?_
    simp [thn, inb, atEnd, atEndD, endD, resAll, resOne, oneOf, mkTup, allD, loadA, asVal, asValD, asD, asDs, D.le, D.le.go, liveL, upd, lst, hlst, hup, hno, List.lookup, args, aeval, cst, cstD, int, Av.bool, TypeDesc.isAgg, mkAgg, bneD, beqD, Int.ofNat_inj, takeMap, dErr]

set_option maxHeartbeats 2000000 in
theorem btell_range (G : Glob) (t : Tab) (ok : Ok t) (a : Int) (l : List Int) (hl : l.length < 2^40) (h : a < 0 ∨ (t.next.length : Int) ≤ a ∨ l.any (fun x => x < 0 || (wd t : Int) ≤ x) = true) :
    PureC Tryd.prog G 26 [dTab t, dNum a, dRow l] (.tup [.sl (some false) [], dErr (some (2, none))]) := by
  have hch : checkF t = none := ok_iff.2 ok
  have hp : 0 < t.next.length := ok.pos
  refine PureC.of_body (tyOf_good _) Tryd.func26 rfl rfl (rs := [.tmp 6, .tmp 7]) Tryd.results26 (by simp [Tryd.ntmps26]) fun X => ?_
  simp only [Tryd.ntmps26, List.map]
  refine AW_rg (tyOf_good _) (fun _ => trivial) [1, 2, 3] [3] fun K' hK' => ?_
  repeat (refine sxf_next fun K2 hK2 => ?_; simp [Int.ofNat_inj, und, undef, upd_lst, hup_hlst, killE_lst, killH_hlst, trE_lst, hno_hlst, St.freeze, aeval, cst, cstD, upd, lst, hlst, List.lookup, int, Av.bool, loadA, mkAgg, mkTup, allD, hup, hno, tgt, args, killE, killH, AV.kill, AV.kill.go, Row.kill, trE, trH, AV.tr, AV.tr.go, Row.tr, frzO, frzF, not1, bneD, beqD, dTab, dNum]; (repeat (refine ⟨by omega, ?_⟩)); refine hK2 _ ?_; clear hK2 K2)
  first | refine sxf_nil (hK' _ ?_) | (refine sxf_next fun K2 hK2 => ?_; clear hK2 hK'; simp [Int.ofNat_inj, und, undef, upd_lst, hup_hlst, killE_lst, killH_hlst, trE_lst, hno_hlst, St.freeze, aeval, cst, cstD, upd, lst, hlst, List.lookup, int, Av.bool, loadA, mkAgg, mkTup, allD, hup, hno, tgt, args, killE, killH, AV.kill, AV.kill.go, Row.kill, trE, trH, AV.tr, AV.tr.go, Row.tr, frzO, frzF, not1, bneD, beqD, dTab, dNum]; fail "STUCK")
  refine AW.st (by simp [St.norm, liveL, liveR, trE, trH, onlyO, onlyF, AV.tr, AV.tr.go, Row.tr, mkAgg, mkTup, mkIfc, mkFn, allD, upd, lst, hlst, hup, hno, List.lookup, args, killE, killH, AV.kill, AV.kill.go, Row.kill, frzO, frzF, not1, int, Av.bool, cst, cstD, dTab, dNum]; rfl) ?_
  clear hK' K'
  refine AW_then fun K1 hK1 => ?_
  refine AW_rg (tyOf_good _) (fun _ => trivial) [1, 2, 3, 8] [3] fun K' hK' => ?_
  repeat (refine sxf_next fun K2 hK2 => ?_; simp [Int.ofNat_inj, und, undef, upd_lst, hup_hlst, killE_lst, killH_hlst, trE_lst, hno_hlst, St.freeze, aeval, cst, cstD, upd, lst, hlst, List.lookup, int, Av.bool, loadA, mkAgg, mkTup, allD, hup, hno, tgt, args, killE, killH, AV.kill, AV.kill.go, Row.kill, trE, trH, AV.tr, AV.tr.go, Row.tr, frzO, frzF, not1, bneD, beqD]; (repeat (refine ⟨by omega, ?_⟩)); refine hK2 _ ?_; clear hK2 K2)
  refine sxf_next fun K2 hK2 => ?_
  simp [Int.ofNat_inj, und, undef, upd_lst, hup_hlst, killE_lst, killH_hlst, trE_lst, hno_hlst, St.freeze, aeval, cst, cstD, upd, lst, hlst, List.lookup, int, Av.bool, loadA, mkAgg, mkTup, allD, hup, hno, tgt, args, killE, killH, AV.kill, AV.kill.go, Row.kill, trE, trH, AV.tr, AV.tr.go, Row.tr, frzO, frzF, not1, bneD, beqD]
  refine callK.data (check_spec G t) (by simp [allD, allD_map, asDs_map, asDs, asD, hup, hno, hlst, List.lookup, D.scalar, tgt, aeval, evalL, lst, upd, putd, int, Av.bool, cst, cstD]; rfl) (by first | exact D.leGo_refl _ | simp [takeMap, List.map_map, Function.comp_def, D.le, D.le.go, D.le_refl, D.leGo_refl]) ?_
  refine hK2 _ ?_
  clear hK2 K2
  simp only [putd, upd_lst]
  repeat (refine sxf_next fun K2 hK2 => ?_; simp [Int.ofNat_inj, und, undef, upd_lst, hup_hlst, killE_lst, killH_hlst, trE_lst, hno_hlst, St.freeze, aeval, cst, cstD, upd, lst, hlst, List.lookup, int, Av.bool, loadA, mkAgg, mkTup, allD, hup, hno, tgt, args, killE, killH, AV.kill, AV.kill.go, Row.kill, trE, trH, AV.tr, AV.tr.go, Row.tr, frzO, frzF, not1, bneD, beqD]; (repeat (refine ⟨by omega, ?_⟩)); refine hK2 _ ?_; clear hK2 K2)
  first | refine sxf_nil (hK' _ ?_) | (refine sxf_next fun K2 hK2 => ?_; clear hK2 hK'; simp [Int.ofNat_inj, und, undef, upd_lst, hup_hlst, killE_lst, killH_hlst, trE_lst, hno_hlst, St.freeze, aeval, cst, cstD, upd, lst, hlst, List.lookup, int, Av.bool, loadA, mkAgg, mkTup, allD, hup, hno, tgt, args, killE, killH, AV.kill, AV.kill.go, Row.kill, trE, trH, AV.tr, AV.tr.go, Row.tr, frzO, frzF, not1, bneD, beqD]; fail "STUCK")
  refine AW.st (by simp [St.norm, liveL, liveR, trE, trH, onlyO, onlyF, AV.tr, AV.tr.go, Row.tr, mkAgg, mkTup, mkIfc, mkFn, allD, upd, lst, hlst, hup, hno, List.lookup, args, killE, killH, AV.kill, AV.kill.go, Row.kill, frzO, frzF, not1, int, Av.bool, cst, cstD]; rfl) ?_
  clear hK' K'
  rw [hch]
  refine AW_rg (tyOf_good _) (fun _ => trivial) [1, 2, 3, 8, 15] [3] fun K' hK' => ?_
  repeat (refine sxf_next fun K2 hK2 => ?_; simp [Int.ofNat_inj, und, undef, upd_lst, hup_hlst, killE_lst, killH_hlst, trE_lst, hno_hlst, St.freeze, aeval, cst, cstD, upd, lst, hlst, List.lookup, int, Av.bool, loadA, mkAgg, mkTup, allD, hup, hno, tgt, args, killE, killH, AV.kill, AV.kill.go, Row.kill, trE, trH, AV.tr, AV.tr.go, Row.tr, frzO, frzF, not1, bneD, beqD, dErr]; (repeat (refine ⟨by omega, ?_⟩)); refine hK2 _ ?_; clear hK2 K2)
  first | refine sxf_nil (hK' _ ?_) | (refine sxf_next fun K2 hK2 => ?_; clear hK2 hK'; simp [Int.ofNat_inj, und, undef, upd_lst, hup_hlst, killE_lst, killH_hlst, trE_lst, hno_hlst, St.freeze, aeval, cst, cstD, upd, lst, hlst, List.lookup, int, Av.bool, loadA, mkAgg, mkTup, allD, hup, hno, tgt, args, killE, killH, AV.kill, AV.kill.go, Row.kill, trE, trH, AV.tr, AV.tr.go, Row.tr, frzO, frzF, not1, bneD, beqD, dErr]; fail "STUCK")
  refine AW.st (by simp [St.norm, liveL, liveR, trE, trH, onlyO, onlyF, AV.tr, AV.tr.go, Row.tr, mkAgg, mkTup, mkIfc, mkFn, allD, upd, lst, hlst, hup, hno, List.lookup, args, killE, killH, AV.kill, AV.kill.go, Row.kill, frzO, frzF, not1, int, Av.bool, cst, cstD, dErr]; rfl) ?_
  clear hK' K'
  refine AW_cond false rfl (fun h => by cases h) (fun _ => ?_)
  refine AW_skip (hK1 _ ?_)
  refine AW_then fun K2 hK2 => ?_
  by_cases h1 : a < 0
  · refine AW_rg (tyOf_good _) (fun _ => trivial) [1, 2, 3, 30] [3] fun K' hK' => ?_
    repeat (refine sxf_next fun K2 hK2 => ?_; simp [Int.ofNat_inj, und, undef, upd_lst, hup_hlst, killE_lst, killH_hlst, trE_lst, hno_hlst, St.freeze, aeval, cst, cstD, upd, lst, hlst, List.lookup, int, Av.bool, loadA, mkAgg, mkTup, allD, hup, hno, tgt, args, killE, killH, AV.kill, AV.kill.go, Row.kill, trE, trH, AV.tr, AV.tr.go, Row.tr, frzO, frzF, not1, bneD, beqD, h1, dRows]; (repeat (refine ⟨by omega, ?_⟩)); refine hK2 _ ?_; clear hK2 K2)
    first | refine sxf_nil (hK' _ ?_) | (refine sxf_next fun K2 hK2 => ?_; clear hK2 hK'; simp [Int.ofNat_inj, und, undef, upd_lst, hup_hlst, killE_lst, killH_hlst, trE_lst, hno_hlst, St.freeze, aeval, cst, cstD, upd, lst, hlst, List.lookup, int, Av.bool, loadA, mkAgg, mkTup, allD, hup, hno, tgt, args, killE, killH, AV.kill, AV.kill.go, Row.kill, trE, trH, AV.tr, AV.tr.go, Row.tr, frzO, frzF, not1, bneD, beqD, h1, dRows]; fail "STUCK")
    refine AW.st (by simp [St.norm, liveL, liveR, trE, trH, onlyO, onlyF, AV.tr, AV.tr.go, Row.tr, mkAgg, mkTup, mkIfc, mkFn, allD, upd, lst, hlst, hup, hno, List.lookup, args, killE, killH, AV.kill, AV.kill.go, Row.kill, frzO, frzF, not1, int, Av.bool, cst, cstD, h1, dRows]; rfl) ?_
    clear hK' K'
    refine AW_cond true rfl (fun _ => ?_) (fun h => by cases h)
    refine AW_rg (tyOf_good _) (fun _ => trivial) [6, 7] [3] fun K' hK' => ?_
    repeat (refine sxf_next fun K2 hK2 => ?_; simp [Int.ofNat_inj, und, undef, upd_lst, hup_hlst, killE_lst, killH_hlst, trE_lst, hno_hlst, St.freeze, aeval, cst, cstD, upd, lst, hlst, List.lookup, int, Av.bool, loadA, mkAgg, mkTup, allD, hup, hno, tgt, args, killE, killH, AV.kill, AV.kill.go, Row.kill, trE, trH, AV.tr, AV.tr.go, Row.tr, frzO, frzF, not1, bneD, beqD]; (repeat (refine ⟨by omega, ?_⟩)); refine hK2 _ ?_; clear hK2 K2)
    first | refine sxf_nil (hK' _ ?_) | (refine sxf_next fun K2 hK2 => ?_; clear hK2 hK'; simp [Int.ofNat_inj, und, undef, upd_lst, hup_hlst, killE_lst, killH_hlst, trE_lst, hno_hlst, St.freeze, aeval, cst, cstD, upd, lst, hlst, List.lookup, int, Av.bool, loadA, mkAgg, mkTup, allD, hup, hno, tgt, args, killE, killH, AV.kill, AV.kill.go, Row.kill, trE, trH, AV.tr, AV.tr.go, Row.tr, frzO, frzF, not1, bneD, beqD]; fail "STUCK")
    refine AW.st (by simp [St.norm, liveL, liveR, trE, trH, onlyO, onlyF, AV.tr, AV.tr.go, Row.tr, mkAgg, mkTup, mkIfc, mkFn, allD, upd, lst, hlst, hup, hno, List.lookup, args, killE, killH, AV.kill, AV.kill.go, Row.kill, frzO, frzF, not1, int, Av.bool, cst, cstD]; rfl) ?_
    clear hK' K'
    refine AW_ret ?_
    simp [thn, inb, atEnd, atEndD, endD, resAll, resOne, oneOf, mkTup, allD, loadA, asVal, asValD, asD, asDs, D.le, D.le.go, liveL, upd, lst, hlst, hup, hno, List.lookup, args, aeval, cst, cstD, int, Av.bool, TypeDesc.isAgg, mkAgg, bneD, beqD, Int.ofNat_inj, takeMap, dErr]
  by_cases h2 : (t.next.length : Int) ≤ a
  · refine AW_rg (tyOf_good _) (fun _ => trivial) [1, 2, 3, 30] [3] fun K' hK' => ?_
    repeat (refine sxf_next fun K2 hK2 => ?_; simp [Int.ofNat_inj, und, undef, upd_lst, hup_hlst, killE_lst, killH_hlst, trE_lst, hno_hlst, St.freeze, aeval, cst, cstD, upd, lst, hlst, List.lookup, int, Av.bool, loadA, mkAgg, mkTup, allD, hup, hno, tgt, args, killE, killH, AV.kill, AV.kill.go, Row.kill, trE, trH, AV.tr, AV.tr.go, Row.tr, frzO, frzF, not1, bneD, beqD, h1, h2, dRows]; (repeat (refine ⟨by omega, ?_⟩)); refine hK2 _ ?_; clear hK2 K2)
    first | refine sxf_nil (hK' _ ?_) | (refine sxf_next fun K2 hK2 => ?_; clear hK2 hK'; simp [Int.ofNat_inj, und, undef, upd_lst, hup_hlst, killE_lst, killH_hlst, trE_lst, hno_hlst, St.freeze, aeval, cst, cstD, upd, lst, hlst, List.lookup, int, Av.bool, loadA, mkAgg, mkTup, allD, hup, hno, tgt, args, killE, killH, AV.kill, AV.kill.go, Row.kill, trE, trH, AV.tr, AV.tr.go, Row.tr, frzO, frzF, not1, bneD, beqD, h1, h2, dRows]; fail "STUCK")
    refine AW.st (by simp [St.norm, liveL, liveR, trE, trH, onlyO, onlyF, AV.tr, AV.tr.go, Row.tr, mkAgg, mkTup, mkIfc, mkFn, allD, upd, lst, hlst, hup, hno, List.lookup, args, killE, killH, AV.kill, AV.kill.go, Row.kill, frzO, frzF, not1, int, Av.bool, cst, cstD, h1, h2, dRows]; rfl) ?_
    clear hK' K'
    refine AW_cond true rfl (fun _ => ?_) (fun h => by cases h)
    refine AW_rg (tyOf_good _) (fun _ => trivial) [6, 7] [3] fun K' hK' => ?_
    repeat (refine sxf_next fun K2 hK2 => ?_; simp [Int.ofNat_inj, und, undef, upd_lst, hup_hlst, killE_lst, killH_hlst, trE_lst, hno_hlst, St.freeze, aeval, cst, cstD, upd, lst, hlst, List.lookup, int, Av.bool, loadA, mkAgg, mkTup, allD, hup, hno, tgt, args, killE, killH, AV.kill, AV.kill.go, Row.kill, trE, trH, AV.tr, AV.tr.go, Row.tr, frzO, frzF, not1, bneD, beqD]; (repeat (refine ⟨by omega, ?_⟩)); refine hK2 _ ?_; clear hK2 K2)
    first | refine sxf_nil (hK' _ ?_) | (refine sxf_next fun K2 hK2 => ?_; clear hK2 hK'; simp [Int.ofNat_inj, und, undef, upd_lst, hup_hlst, killE_lst, killH_hlst, trE_lst, hno_hlst, St.freeze, aeval, cst, cstD, upd, lst, hlst, List.lookup, int, Av.bool, loadA, mkAgg, mkTup, allD, hup, hno, tgt, args, killE, killH, AV.kill, AV.kill.go, Row.kill, trE, trH, AV.tr, AV.tr.go, Row.tr, frzO, frzF, not1, bneD, beqD]; fail "STUCK")
    refine AW.st (by simp [St.norm, liveL, liveR, trE, trH, onlyO, onlyF, AV.tr, AV.tr.go, Row.tr, mkAgg, mkTup, mkIfc, mkFn, allD, upd, lst, hlst, hup, hno, List.lookup, args, killE, killH, AV.kill, AV.kill.go, Row.kill, frzO, frzF, not1, int, Av.bool, cst, cstD]; rfl) ?_
    clear hK' K'
    refine AW_ret ?_
    simp [thn, inb, atEnd, atEndD, endD, resAll, resOne, oneOf, mkTup, allD, loadA, asVal, asValD, asD, asDs, D.le, D.le.go, liveL, upd, lst, hlst, hup, hno, List.lookup, args, aeval, cst, cstD, int, Av.bool, TypeDesc.isAgg, mkAgg, bneD, beqD, Int.ofNat_inj, takeMap, dErr]
  have h3 : l.any (fun x => x < 0 || (wd t : Int) ≤ x) = true := by
    rcases h with h | h | h
    · exact absurd h h1
    · exact absurd h h2
    · exact h
  refine AW_rg (tyOf_good _) (fun _ => trivial) [1, 2, 3, 30] [3] fun K' hK' => ?_
  repeat (refine sxf_next fun K2 hK2 => ?_; simp [Int.ofNat_inj, und, undef, upd_lst, hup_hlst, killE_lst, killH_hlst, trE_lst, hno_hlst, St.freeze, aeval, cst, cstD, upd, lst, hlst, List.lookup, int, Av.bool, loadA, mkAgg, mkTup, allD, hup, hno, tgt, args, killE, killH, AV.kill, AV.kill.go, Row.kill, trE, trH, AV.tr, AV.tr.go, Row.tr, frzO, frzF, not1, bneD, beqD, h1, h2, dRows, dRow, dInts]; (repeat (refine ⟨by omega, ?_⟩)); refine hK2 _ ?_; clear hK2 K2)
  refine sxf_next fun K2 hK2 => ?_
  simp [Int.ofNat_inj, und, undef, upd_lst, hup_hlst, killE_lst, killH_hlst, trE_lst, hno_hlst, St.freeze, aeval, cst, cstD, upd, lst, hlst, List.lookup, int, Av.bool, loadA, mkAgg, mkTup, allD, hup, hno, tgt, args, killE, killH, AV.kill, AV.kill.go, Row.kill, trE, trH, AV.tr, AV.tr.go, Row.tr, frzO, frzF, not1, bneD, beqD, h1, h2, dRows, dRow, dInts]
  refine callK.lend (containsInt_spec G none dNum l 66 [.ip [dRows t.next, dRows t.tells]] (fun x => x < 0 || (wd t : Int) ≤ x) (by omega) (fun x _ => tell1_spec G t hp x)) (by simp [allD, allD_map, asDs_map, asDs, asD, hup, hno, hlst, List.lookup, D.scalar, tgt, aeval, evalL, lst, upd, putd, int, Av.bool, cst, cstD]; rfl) (by first | exact D.leGo_refl _ | simp [takeMap, List.map_map, Function.comp_def, D.le, D.le.go, D.le_refl, D.leGo_refl, h1, h2, dRows, dRow, dInts]) (by simp [D.scalar]) ?_
  refine hK2 _ ?_
  clear hK2 K2
  simp only [putd, upd_lst]
  repeat (refine sxf_next fun K2 hK2 => ?_; simp [Int.ofNat_inj, und, undef, upd_lst, hup_hlst, killE_lst, killH_hlst, trE_lst, hno_hlst, St.freeze, aeval, cst, cstD, upd, lst, hlst, List.lookup, int, Av.bool, loadA, mkAgg, mkTup, allD, hup, hno, tgt, args, killE, killH, AV.kill, AV.kill.go, Row.kill, trE, trH, AV.tr, AV.tr.go, Row.tr, frzO, frzF, not1, bneD, beqD, h1, h2, dRows, dRow, dInts]; (repeat (refine ⟨by omega, ?_⟩)); refine hK2 _ ?_; clear hK2 K2)
  first | refine sxf_nil (hK' _ ?_) | (refine sxf_next fun K2 hK2 => ?_; clear hK2 hK'; simp [Int.ofNat_inj, und, undef, upd_lst, hup_hlst, killE_lst, killH_hlst, trE_lst, hno_hlst, St.freeze, aeval, cst, cstD, upd, lst, hlst, List.lookup, int, Av.bool, loadA, mkAgg, mkTup, allD, hup, hno, tgt, args, killE, killH, AV.kill, AV.kill.go, Row.kill, trE, trH, AV.tr, AV.tr.go, Row.tr, frzO, frzF, not1, bneD, beqD, h1, h2, dRows, dRow, dInts]; fail "STUCK")
  refine AW.st (by simp [St.norm, liveL, liveR, trE, trH, onlyO, onlyF, AV.tr, AV.tr.go, Row.tr, mkAgg, mkTup, mkIfc, mkFn, allD, upd, lst, hlst, hup, hno, List.lookup, args, killE, killH, AV.kill, AV.kill.go, Row.kill, frzO, frzF, not1, int, Av.bool, cst, cstD, h1, h2, dRows, dRow, dInts]; rfl) ?_
  clear hK' K'
  refine AW_cond _ rfl (fun _ => ?_) (fun h => by simp [h3] at h)
  refine AW_rg (tyOf_good _) (fun _ => trivial) [6, 7] [3] fun K' hK' => ?_
  repeat (refine sxf_next fun K2 hK2 => ?_; simp [Int.ofNat_inj, und, undef, upd_lst, hup_hlst, killE_lst, killH_hlst, trE_lst, hno_hlst, St.freeze, aeval, cst, cstD, upd, lst, hlst, List.lookup, int, Av.bool, loadA, mkAgg, mkTup, allD, hup, hno, tgt, args, killE, killH, AV.kill, AV.kill.go, Row.kill, trE, trH, AV.tr, AV.tr.go, Row.tr, frzO, frzF, not1, bneD, beqD]; (repeat (refine ⟨by omega, ?_⟩)); refine hK2 _ ?_; clear hK2 K2)
  first | refine sxf_nil (hK' _ ?_) | (refine sxf_next fun K2 hK2 => ?_; clear hK2 hK'; simp [Int.ofNat_inj, und, undef, upd_lst, hup_hlst, killE_lst, killH_hlst, trE_lst, hno_hlst, St.freeze, aeval, cst, cstD, upd, lst, hlst, List.lookup, int, Av.bool, loadA, mkAgg, mkTup, allD, hup, hno, tgt, args, killE, killH, AV.kill, AV.kill.go, Row.kill, trE, trH, AV.tr, AV.tr.go, Row.tr, frzO, frzF, not1, bneD, beqD]; fail "STUCK")
  refine AW.st (by simp [St.norm, liveL, liveR, trE, trH, onlyO, onlyF, AV.tr, AV.tr.go, Row.tr, mkAgg, mkTup, mkIfc, mkFn, allD, upd, lst, hlst, hup, hno, List.lookup, args, killE, killH, AV.kill, AV.kill.go, Row.kill, frzO, frzF, not1, int, Av.bool, cst, cstD]; rfl) ?_
  clear hK' K'
  refine AW_ret ?_
  simp [thn, inb, atEnd, atEndD, endD, resAll, resOne, oneOf, mkTup, allD, loadA, asVal, asValD, asD, asDs, D.le, D.le.go, liveL, upd, lst, hlst, hup, hno, List.lookup, args, aeval, cst, cstD, int, Av.bool, TypeDesc.isAgg, mkAgg, bneD, beqD, Int.ofNat_inj, takeMap, dErr]

set_option maxHeartbeats 4000000 in
theorem btell_good (G : Glob) (t : Tab) (ok : Ok t) (a : Nat) (ha : a < t.next.length) (l : List Nat) (hlen : l.length < 2^40) (hl : ∀ c ∈ l, c < wd t) :
    PureC Tryd.prog G 26 [dTab t, dNum a, dNats l] (.tup [dRow (tellF t a l), .v .nilIface]) := by
  have hch : checkF t = none := ok_iff.2 ok
  have hp : 0 < t.next.length := ok.pos
  have h1 : ¬ (a : Int) < 0 := by omega
  have h2 : ¬ (t.next.length : Int) ≤ a := by omega
  have h3 : (natsI l).any (fun x => x < 0 || (wd t : Int) ≤ x) = false := by
    rw [List.any_eq_false]
    intro x hx
    obtain ⟨c, hc, rfl⟩ := List.mem_map.1 hx
    have := hl c hc
    simp
    omega
  have hnl := natsI_len l
  have hcont : PureC Tryd.prog G 61 [.sl none ((natsI l).map fun x => [dNum x]), .fn (.func 66) [.ip [dRows t.next, dRows t.tells]]] (.v (.bool false)) := by
    have h4 := containsInt_spec G none dNum (natsI l) 66 [.ip [dRows t.next, dRows t.tells]] (fun x => x < 0 || (wd t : Int) ≤ x) (by omega) (fun x _ => tell1_spec G t hp x)
    rwa [h3] at h4
  refine PureC.of_body (tyOf_good _) Tryd.func26 rfl rfl (rs := [.tmp 6, .tmp 7]) Tryd.results26 (by simp [Tryd.ntmps26]) fun X => ?_
  simp only [Tryd.ntmps26, List.map]
  refine AW_rg (tyOf_good _) (fun _ => trivial) [1, 2, 3] [3] fun K' hK' => ?_
  repeat (refine sxf_next fun K2 hK2 => ?_; simp [Int.ofNat_inj, und, undef, upd_lst, hup_hlst, killE_lst, killH_hlst, trE_lst, hno_hlst, St.freeze, aeval, cst, cstD, upd, lst, hlst, List.lookup, int, Av.bool, loadA, mkAgg, mkTup, allD, hup, hno, tgt, args, killE, killH, AV.kill, AV.kill.go, Row.kill, trE, trH, AV.tr, AV.tr.go, Row.tr, frzO, frzF, not1, bneD, beqD, dTab, dNum]; (repeat (refine ⟨by omega, ?_⟩)); refine hK2 _ ?_; clear hK2 K2)
  first | refine sxf_nil (hK' _ ?_) | (refine sxf_next fun K2 hK2 => ?_; clear hK2 hK'; simp [Int.ofNat_inj, und, undef, upd_lst, hup_hlst, killE_lst, killH_hlst, trE_lst, hno_hlst, St.freeze, aeval, cst, cstD, upd, lst, hlst, List.lookup, int, Av.bool, loadA, mkAgg, mkTup, allD, hup, hno, tgt, args, killE, killH, AV.kill, AV.kill.go, Row.kill, trE, trH, AV.tr, AV.tr.go, Row.tr, frzO, frzF, not1, bneD, beqD, dTab, dNum]; fail "STUCK")
  refine AW.st (by simp [St.norm, liveL, liveR, trE, trH, onlyO, onlyF, AV.tr, AV.tr.go, Row.tr, mkAgg, mkTup, mkIfc, mkFn, allD, upd, lst, hlst, hup, hno, List.lookup, args, killE, killH, AV.kill, AV.kill.go, Row.kill, frzO, frzF, not1, int, Av.bool, cst, cstD, dTab, dNum]; rfl) ?_
  clear hK' K'
  refine AW_then fun K1 hK1 => ?_
  refine AW_rg (tyOf_good _) (fun _ => trivial) [1, 2, 3, 8] [3] fun K' hK' => ?_
  repeat (refine sxf_next fun K2 hK2 => ?_; simp [Int.ofNat_inj, und, undef, upd_lst, hup_hlst, killE_lst, killH_hlst, trE_lst, hno_hlst, St.freeze, aeval, cst, cstD, upd, lst, hlst, List.lookup, int, Av.bool, loadA, mkAgg, mkTup, allD, hup, hno, tgt, args, killE, killH, AV.kill, AV.kill.go, Row.kill, trE, trH, AV.tr, AV.tr.go, Row.tr, frzO, frzF, not1, bneD, beqD]; (repeat (refine ⟨by omega, ?_⟩)); refine hK2 _ ?_; clear hK2 K2)
  refine sxf_next fun K2 hK2 => ?_
  simp [Int.ofNat_inj, und, undef, upd_lst, hup_hlst, killE_lst, killH_hlst, trE_lst, hno_hlst, St.freeze, aeval, cst, cstD, upd, lst, hlst, List.lookup, int, Av.bool, loadA, mkAgg, mkTup, allD, hup, hno, tgt, args, killE, killH, AV.kill, AV.kill.go, Row.kill, trE, trH, AV.tr, AV.tr.go, Row.tr, frzO, frzF, not1, bneD, beqD]
  refine callK.data (check_spec G t) (by simp [allD, allD_map, asDs_map, asDs, asD, hup, hno, hlst, List.lookup, D.scalar, tgt, aeval, evalL, lst, upd, putd, int, Av.bool, cst, cstD]; rfl) (by first | exact D.leGo_refl _ | simp [takeMap, List.map_map, Function.comp_def, D.le, D.le.go, D.le_refl, D.leGo_refl]) ?_
  refine hK2 _ ?_
  clear hK2 K2
  simp only [putd, upd_lst]
  repeat (refine sxf_next fun K2 hK2 => ?_; simp [Int.ofNat_inj, und, undef, upd_lst, hup_hlst, killE_lst, killH_hlst, trE_lst, hno_hlst, St.freeze, aeval, cst, cstD, upd, lst, hlst, List.lookup, int, Av.bool, loadA, mkAgg, mkTup, allD, hup, hno, tgt, args, killE, killH, AV.kill, AV.kill.go, Row.kill, trE, trH, AV.tr, AV.tr.go, Row.tr, frzO, frzF, not1, bneD, beqD]; (repeat (refine ⟨by omega, ?_⟩)); refine hK2 _ ?_; clear hK2 K2)
  first | refine sxf_nil (hK' _ ?_) | (refine sxf_next fun K2 hK2 => ?_; clear hK2 hK'; simp [Int.ofNat_inj, und, undef, upd_lst, hup_hlst, killE_lst, killH_hlst, trE_lst, hno_hlst, St.freeze, aeval, cst, cstD, upd, lst, hlst, List.lookup, int, Av.bool, loadA, mkAgg, mkTup, allD, hup, hno, tgt, args, killE, killH, AV.kill, AV.kill.go, Row.kill, trE, trH, AV.tr, AV.tr.go, Row.tr, frzO, frzF, not1, bneD, beqD]; fail "STUCK")
  refine AW.st (by simp [St.norm, liveL, liveR, trE, trH, onlyO, onlyF, AV.tr, AV.tr.go, Row.tr, mkAgg, mkTup, mkIfc, mkFn, allD, upd, lst, hlst, hup, hno, List.lookup, args, killE, killH, AV.kill, AV.kill.go, Row.kill, frzO, frzF, not1, int, Av.bool, cst, cstD]; rfl) ?_
  clear hK' K'
  rw [hch]
  refine AW_rg (tyOf_good _) (fun _ => trivial) [1, 2, 3, 8, 15] [3] fun K' hK' => ?_
  repeat (refine sxf_next fun K2 hK2 => ?_; simp [Int.ofNat_inj, und, undef, upd_lst, hup_hlst, killE_lst, killH_hlst, trE_lst, hno_hlst, St.freeze, aeval, cst, cstD, upd, lst, hlst, List.lookup, int, Av.bool, loadA, mkAgg, mkTup, allD, hup, hno, tgt, args, killE, killH, AV.kill, AV.kill.go, Row.kill, trE, trH, AV.tr, AV.tr.go, Row.tr, frzO, frzF, not1, bneD, beqD, dErr]; (repeat (refine ⟨by omega, ?_⟩)); refine hK2 _ ?_; clear hK2 K2)
  first | refine sxf_nil (hK' _ ?_) | (refine sxf_next fun K2 hK2 => ?_; clear hK2 hK'; simp [Int.ofNat_inj, und, undef, upd_lst, hup_hlst, killE_lst, killH_hlst, trE_lst, hno_hlst, St.freeze, aeval, cst, cstD, upd, lst, hlst, List.lookup, int, Av.bool, loadA, mkAgg, mkTup, allD, hup, hno, tgt, args, killE, killH, AV.kill, AV.kill.go, Row.kill, trE, trH, AV.tr, AV.tr.go, Row.tr, frzO, frzF, not1, bneD, beqD, dErr]; fail "STUCK")
  refine AW.st (by simp [St.norm, liveL, liveR, trE, trH, onlyO, onlyF, AV.tr, AV.tr.go, Row.tr, mkAgg, mkTup, mkIfc, mkFn, allD, upd, lst, hlst, hup, hno, List.lookup, args, killE, killH, AV.kill, AV.kill.go, Row.kill, frzO, frzF, not1, int, Av.bool, cst, cstD, dErr]; rfl) ?_
  clear hK' K'
  refine AW_cond false rfl (fun h => by cases h) (fun _ => ?_)
  refine AW_skip (hK1 _ ?_)
  refine AW_then fun K2 hK2 => ?_
  refine AW_rg (tyOf_good _) (fun _ => trivial) [1, 2, 3, 30] [3] fun K' hK' => ?_
  repeat (refine sxf_next fun K2 hK2 => ?_; simp [Int.ofNat_inj, und, undef, upd_lst, hup_hlst, killE_lst, killH_hlst, trE_lst, hno_hlst, St.freeze, aeval, cst, cstD, upd, lst, hlst, List.lookup, int, Av.bool, loadA, mkAgg, mkTup, allD, hup, hno, tgt, args, killE, killH, AV.kill, AV.kill.go, Row.kill, trE, trH, AV.tr, AV.tr.go, Row.tr, frzO, frzF, not1, bneD, beqD, h1, h2, Nat.not_le.2 ha, dNats, dRows, dRow, dInts]; (repeat (refine ⟨by omega, ?_⟩)); refine hK2 _ ?_; clear hK2 K2)
  refine sxf_next fun K2 hK2 => ?_
  simp [Int.ofNat_inj, und, undef, upd_lst, hup_hlst, killE_lst, killH_hlst, trE_lst, hno_hlst, St.freeze, aeval, cst, cstD, upd, lst, hlst, List.lookup, int, Av.bool, loadA, mkAgg, mkTup, allD, hup, hno, tgt, args, killE, killH, AV.kill, AV.kill.go, Row.kill, trE, trH, AV.tr, AV.tr.go, Row.tr, frzO, frzF, not1, bneD, beqD, h1, h2, Nat.not_le.2 ha, dNats, dRows, dRow, dInts]
  refine callK.lend (hcont) (by simp [allD, allD_map, asDs_map, asDs, asD, hup, hno, hlst, List.lookup, D.scalar, tgt, aeval, evalL, lst, upd, putd, int, Av.bool, cst, cstD]; rfl) (by first | exact D.leGo_refl _ | simp [takeMap, List.map_map, Function.comp_def, D.le, D.le.go, D.le_refl, D.leGo_refl, h1, h2, Nat.not_le.2 ha, dNats, dRows, dRow, dInts]) (by simp [D.scalar]) ?_
  refine hK2 _ ?_
  clear hK2 K2
  simp only [putd, upd_lst]
  repeat (refine sxf_next fun K2 hK2 => ?_; simp [Int.ofNat_inj, und, undef, upd_lst, hup_hlst, killE_lst, killH_hlst, trE_lst, hno_hlst, St.freeze, aeval, cst, cstD, upd, lst, hlst, List.lookup, int, Av.bool, loadA, mkAgg, mkTup, allD, hup, hno, tgt, args, killE, killH, AV.kill, AV.kill.go, Row.kill, trE, trH, AV.tr, AV.tr.go, Row.tr, frzO, frzF, not1, bneD, beqD, h1, h2, Nat.not_le.2 ha, dNats, dRows, dRow, dInts]; (repeat (refine ⟨by omega, ?_⟩)); refine hK2 _ ?_; clear hK2 K2)
  first | refine sxf_nil (hK' _ ?_) | (refine sxf_next fun K2 hK2 => ?_; clear hK2 hK'; simp [Int.ofNat_inj, und, undef, upd_lst, hup_hlst, killE_lst, killH_hlst, trE_lst, hno_hlst, St.freeze, aeval, cst, cstD, upd, lst, hlst, List.lookup, int, Av.bool, loadA, mkAgg, mkTup, allD, hup, hno, tgt, args, killE, killH, AV.kill, AV.kill.go, Row.kill, trE, trH, AV.tr, AV.tr.go, Row.tr, frzO, frzF, not1, bneD, beqD, h1, h2, Nat.not_le.2 ha, dNats, dRows, dRow, dInts]; fail "STUCK")
  refine AW.st (by simp [St.norm, liveL, liveR, trE, trH, onlyO, onlyF, AV.tr, AV.tr.go, Row.tr, mkAgg, mkTup, mkIfc, mkFn, allD, upd, lst, hlst, hup, hno, List.lookup, args, killE, killH, AV.kill, AV.kill.go, Row.kill, frzO, frzF, not1, int, Av.bool, cst, cstD, h1, h2, Nat.not_le.2 ha, dNats, dRows, dRow, dInts]; rfl) ?_
  clear hK' K'
  refine AW_cond false rfl (fun h => by cases h) (fun _ => ?_)
  refine AW_skip (hK2 _ ?_)
  refine AW_rg (tyOf_good _) (fun _ => trivial) [1, 2, 3, 9] [3] fun K' hK' => ?_
  repeat (refine sxf_next fun K2 hK2 => ?_; simp [Int.ofNat_inj, und, undef, upd_lst, hup_hlst, killE_lst, killH_hlst, trE_lst, hno_hlst, St.freeze, aeval, cst, cstD, upd, lst, hlst, List.lookup, int, Av.bool, loadA, mkAgg, mkTup, allD, hup, hno, tgt, args, killE, killH, AV.kill, AV.kill.go, Row.kill, trE, trH, AV.tr, AV.tr.go, Row.tr, frzO, frzF, not1, bneD, beqD]; (repeat (refine ⟨by omega, ?_⟩)); refine hK2 _ ?_; clear hK2 K2)
  first | refine sxf_nil (hK' _ ?_) | (refine sxf_next fun K2 hK2 => ?_; clear hK2 hK'; simp [Int.ofNat_inj, und, undef, upd_lst, hup_hlst, killE_lst, killH_hlst, trE_lst, hno_hlst, St.freeze, aeval, cst, cstD, upd, lst, hlst, List.lookup, int, Av.bool, loadA, mkAgg, mkTup, allD, hup, hno, tgt, args, killE, killH, AV.kill, AV.kill.go, Row.kill, trE, trH, AV.tr, AV.tr.go, Row.tr, frzO, frzF, not1, bneD, beqD]; fail "STUCK")
  refine AW.st (by simp [St.norm, liveL, liveR, trE, trH, onlyO, onlyF, AV.tr, AV.tr.go, Row.tr, mkAgg, mkTup, mkIfc, mkFn, allD, upd, lst, hlst, hup, hno, List.lookup, args, killE, killH, AV.kill, AV.kill.go, Row.kill, frzO, frzF, not1, int, Av.bool, cst, cstD]; rfl) ?_
  clear hK' K'
  refine AW_then fun K3 hK3 => ?_
  refine AW_rg (tyOf_good _) (fun _ => trivial) [1, 3, 9, 32, 33, 34] [3] fun K' hK' => ?_
  repeat (refine sxf_next fun K2 hK2 => ?_; simp [Int.ofNat_inj, und, undef, upd_lst, hup_hlst, killE_lst, killH_hlst, trE_lst, hno_hlst, St.freeze, aeval, cst, cstD, upd, lst, hlst, List.lookup, int, Av.bool, loadA, mkAgg, mkTup, allD, hup, hno, tgt, args, killE, killH, AV.kill, AV.kill.go, Row.kill, trE, trH, AV.tr, AV.tr.go, Row.tr, frzO, frzF, not1, bneD, beqD, dNats, dRow, dInts, hnl]; (repeat (refine ⟨by omega, ?_⟩)); refine hK2 _ ?_; clear hK2 K2)
  first | refine sxf_nil (hK' _ ?_) | (refine sxf_next fun K2 hK2 => ?_; clear hK2 hK'; simp [Int.ofNat_inj, und, undef, upd_lst, hup_hlst, killE_lst, killH_hlst, trE_lst, hno_hlst, St.freeze, aeval, cst, cstD, upd, lst, hlst, List.lookup, int, Av.bool, loadA, mkAgg, mkTup, allD, hup, hno, tgt, args, killE, killH, AV.kill, AV.kill.go, Row.kill, trE, trH, AV.tr, AV.tr.go, Row.tr, frzO, frzF, not1, bneD, beqD, dNats, dRow, dInts, hnl]; fail "STUCK")
  refine AW.st (by simp [St.norm, liveL, liveR, trE, trH, onlyO, onlyF, AV.tr, AV.tr.go, Row.tr, mkAgg, mkTup, mkIfc, mkFn, allD, upd, lst, hlst, hup, hno, List.lookup, args, killE, killH, AV.kill, AV.kill.go, Row.kill, frzO, frzF, not1, int, Av.bool, cst, cstD, dNats, dRow, dInts, hnl]; rfl) ?_
  clear hK' K'
  refine AW_for (S := Nat) (fun i => i ≤ l.length) (fun i => ⟨lst [(1, int (goF t a (l.take i))), (3, .ref 3 0 0), (9, .own 90 0 i), (32, .d (dNats l)), (33, int l.length), (34, int i)],
    hlst [(3, boxT t), (90, rowI (tellF t a (l.take i)))]⟩) (fun i => l.length - i) 0 ?_ (by simp) ?_
  · refine (Imp.adopt 9 90 3 1 rfl rfl).trans ?_
    refine Imp.to' (fun _ => trivial) (by simp [St.norm, liveL, liveR, trE, trH, onlyO, onlyF, AV.tr, AV.tr.go, Row.tr, mkAgg, mkTup, mkIfc, mkFn, allD, upd, lst, hlst, hup, hno, List.lookup, args, killE, killH, AV.kill, AV.kill.go, Row.kill, frzO, frzF, not1, int, Av.bool, cst, cstD, boxT, rowI, dRows, dRow, dInts, dNats, tellF, goF, Function.comp_def]) (by simp [St.norm, liveL, liveR, trE, trH, onlyO, onlyF, AV.tr, AV.tr.go, Row.tr, mkAgg, mkTup, mkIfc, mkFn, allD, upd, lst, hlst, hup, hno, List.lookup, args, killE, killH, AV.kill, AV.kill.go, Row.kill, frzO, frzF, not1, int, Av.bool, cst, cstD, boxT, rowI, dRows, dRow, dInts, dNats, tellF, goF, Function.comp_def])
  · intro i hi
    have htl : (tellF t a (l.take i)).length = i := by rw [tellF_len]; simp; omega
    refine AW_rg (tyOf_good _) (fun _ => trivial) [1, 3, 9, 32, 33, 34, 35] [3, 90] fun K' hK' => ?_
    repeat (refine sxf_next fun K2 hK2 => ?_; simp [Int.ofNat_inj, und, undef, upd_lst, hup_hlst, killE_lst, killH_hlst, trE_lst, hno_hlst, St.freeze, aeval, cst, cstD, upd, lst, hlst, List.lookup, int, Av.bool, loadA, mkAgg, mkTup, allD, hup, hno, tgt, args, killE, killH, AV.kill, AV.kill.go, Row.kill, trE, trH, AV.tr, AV.tr.go, Row.tr, frzO, frzF, not1, bneD, beqD, boxT, rowI]; (repeat (refine ⟨by omega, ?_⟩)); refine hK2 _ ?_; clear hK2 K2)
    first | refine sxf_nil (hK' _ ?_) | (refine sxf_next fun K2 hK2 => ?_; clear hK2 hK'; simp [Int.ofNat_inj, und, undef, upd_lst, hup_hlst, killE_lst, killH_hlst, trE_lst, hno_hlst, St.freeze, aeval, cst, cstD, upd, lst, hlst, List.lookup, int, Av.bool, loadA, mkAgg, mkTup, allD, hup, hno, tgt, args, killE, killH, AV.kill, AV.kill.go, Row.kill, trE, trH, AV.tr, AV.tr.go, Row.tr, frzO, frzF, not1, bneD, beqD, boxT, rowI]; fail "STUCK")
    refine AW.st (by simp [St.norm, liveL, liveR, trE, trH, onlyO, onlyF, AV.tr, AV.tr.go, Row.tr, mkAgg, mkTup, mkIfc, mkFn, allD, upd, lst, hlst, hup, hno, List.lookup, args, killE, killH, AV.kill, AV.kill.go, Row.kill, frzO, frzF, not1, int, Av.bool, cst, cstD, boxT, rowI]; rfl) ?_
    clear hK' K'
    refine AW_then fun K4 hK4 => ?_
    refine AW_cond' (b := i < l.length) (by simp [thn, inb, atEnd, atEndD, endD, resAll, resOne, oneOf, mkTup, allD, loadA, asVal, asValD, asD, asDs, D.le, D.le.go, liveL, upd, lst, hlst, hup, hno, List.lookup, args, aeval, cst, cstD, int, Av.bool, TypeDesc.isAgg, mkAgg, bneD, beqD, Int.ofNat_inj, takeMap]) (fun hc => ?_) (fun hc => ?_)
    · have hil : i < l.length := hc
      have hni : i < (natsI l).length := by omega
      have hng := natsI_get l i hni
      refine AW_skip (hK4 _ ?_)
      refine AW_then fun K5 hK5 => ?_
      refine AW_block ?_
      have hci : l[i] < wd t := hl _ (by simp)
      have hs : goF t a (l.take i) < t.next.length := goF_lt ok _ _ ha fun c hc => hl c (List.mem_of_mem_take hc)
      have htk : l.take (i + 1) = l.take i ++ [l[i]] := List.take_succ_eq_append_getElem hil
      have e1 : tellF t a (l.take (i + 1)) = tellF t a (l.take i) ++ [te t (goF t a (l.take i)) l[i]] := by rw [htk, tellF_snoc]
      have e2 : goF t a (l.take (i + 1)) = nx t (goF t a (l.take i)) l[i] := by rw [htk, goF_snoc]
      generalize goF t a (l.take i) = s at hs e1 e2
      generalize tellF t a (l.take i) = out at htl e1
      have hn1 := ok.nextLen s hs
      have hn2 := ok.tellsLen s hs
      have hth := ok.there s hs
      have hst : s < t.tells.length := by have := ok.tells; unfold Tab.n at this; omega
      rw [List.getD_eq_getElem?_getD, List.getElem?_eq_getElem hs, Option.getD_some] at hn1 hth
      rw [List.getD_eq_getElem?_getD, List.getElem?_eq_getElem hst, Option.getD_some] at hn2
      have hc1 : l[i] < t.next[s].length := by rw [hn1]; exact hci
      have hc2 : l[i] < t.tells[s].length := by rw [hn2]; exact hci
      have e3 : te t s l[i] = t.tells[s][l[i]] := by simp [te, List.getD_eq_getElem?_getD, hst, hc2]
      have e4 : nx t s l[i] = t.next[s][l[i]].toNat := by simp [nx, List.getD_eq_getElem?_getD, hs, hc1]
      have e5 := (hth t.next[s][l[i]] (by simp)).1
      have e6 : ((t.next[s][l[i]].toNat : Nat) : Int) = t.next[s][l[i]] := by omega
      refine AW_rg (tyOf_good _) (fun _ => trivial) [1, 3, 9, 11, 32, 33, 34] [3, 90] fun K' hK' => ?_
      repeat (refine sxf_next fun K2 hK2 => ?_; simp [Int.ofNat_inj, und, undef, upd_lst, hup_hlst, killE_lst, killH_hlst, trE_lst, hno_hlst, St.freeze, aeval, cst, cstD, upd, lst, hlst, List.lookup, int, Av.bool, loadA, mkAgg, mkTup, allD, hup, hno, tgt, args, killE, killH, AV.kill, AV.kill.go, Row.kill, trE, trH, AV.tr, AV.tr.go, Row.tr, frzO, frzF, not1, bneD, beqD, dNats, dRow, dInts, hni, hng]; (repeat (refine ⟨by omega, ?_⟩)); refine hK2 _ ?_; clear hK2 K2)
      first | refine sxf_nil (hK' _ ?_) | (refine sxf_next fun K2 hK2 => ?_; clear hK2 hK'; simp [Int.ofNat_inj, und, undef, upd_lst, hup_hlst, killE_lst, killH_hlst, trE_lst, hno_hlst, St.freeze, aeval, cst, cstD, upd, lst, hlst, List.lookup, int, Av.bool, loadA, mkAgg, mkTup, allD, hup, hno, tgt, args, killE, killH, AV.kill, AV.kill.go, Row.kill, trE, trH, AV.tr, AV.tr.go, Row.tr, frzO, frzF, not1, bneD, beqD, dNats, dRow, dInts, hni, hng]; fail "STUCK")
      refine AW.st (by simp [St.norm, liveL, liveR, trE, trH, onlyO, onlyF, AV.tr, AV.tr.go, Row.tr, mkAgg, mkTup, mkIfc, mkFn, allD, upd, lst, hlst, hup, hno, List.lookup, args, killE, killH, AV.kill, AV.kill.go, Row.kill, frzO, frzF, not1, int, Av.bool, cst, cstD, dNats, dRow, dInts, hni, hng]; rfl) ?_
      clear hK' K'
      refine AW_rg (tyOf_good _) (fun _ => trivial) [1, 3, 9, 11, 32, 33, 34] [3, 90] fun K' hK' => ?_
      repeat (refine sxf_next fun K2 hK2 => ?_; simp [Int.ofNat_inj, und, undef, upd_lst, hup_hlst, killE_lst, killH_hlst, trE_lst, hno_hlst, St.freeze, aeval, cst, cstD, upd, lst, hlst, List.lookup, int, Av.bool, loadA, mkAgg, mkTup, allD, hup, hno, tgt, args, killE, killH, AV.kill, AV.kill.go, Row.kill, trE, trH, AV.tr, AV.tr.go, Row.tr, frzO, frzF, not1, bneD, beqD, dRows, dRow, dInts, hst, hc2, takeMap]; (repeat (refine ⟨by omega, ?_⟩)); refine hK2 _ ?_; clear hK2 K2)
      first | refine sxf_nil (hK' _ ?_) | (refine sxf_next fun K2 hK2 => ?_; clear hK2 hK'; simp [Int.ofNat_inj, und, undef, upd_lst, hup_hlst, killE_lst, killH_hlst, trE_lst, hno_hlst, St.freeze, aeval, cst, cstD, upd, lst, hlst, List.lookup, int, Av.bool, loadA, mkAgg, mkTup, allD, hup, hno, tgt, args, killE, killH, AV.kill, AV.kill.go, Row.kill, trE, trH, AV.tr, AV.tr.go, Row.tr, frzO, frzF, not1, bneD, beqD, dRows, dRow, dInts, hst, hc2, takeMap]; fail "STUCK")
      refine AW.st (by simp [St.norm, liveL, liveR, trE, trH, onlyO, onlyF, AV.tr, AV.tr.go, Row.tr, mkAgg, mkTup, mkIfc, mkFn, allD, upd, lst, hlst, hup, hno, List.lookup, args, killE, killH, AV.kill, AV.kill.go, Row.kill, frzO, frzF, not1, int, Av.bool, cst, cstD, dRows, dRow, dInts, hst, hc2, takeMap]; rfl) ?_
      clear hK' K'
      refine AW_re (tyOf_good _) (fun _ => trivial) fun K' hK' => ?_
      repeat (refine sxf_next fun K2 hK2 => ?_; simp [Int.ofNat_inj, und, undef, upd_lst, hup_hlst, killE_lst, killH_hlst, trE_lst, hno_hlst, St.freeze, aeval, cst, cstD, upd, lst, hlst, List.lookup, int, Av.bool, loadA, mkAgg, mkTup, allD, hup, hno, tgt, args, killE, killH, AV.kill, AV.kill.go, Row.kill, trE, trH, AV.tr, AV.tr.go, Row.tr, frzO, frzF, not1, bneD, beqD, dRows, dRow, dInts, hs, hc1, takeMap]; (repeat (refine ⟨by omega, ?_⟩)); refine hK2 _ ?_; clear hK2 K2)
      first | refine sxf_nil (hK' _ ?_) | (refine sxf_next fun K2 hK2 => ?_; clear hK2 hK'; simp [Int.ofNat_inj, und, undef, upd_lst, hup_hlst, killE_lst, killH_hlst, trE_lst, hno_hlst, St.freeze, aeval, cst, cstD, upd, lst, hlst, List.lookup, int, Av.bool, loadA, mkAgg, mkTup, allD, hup, hno, tgt, args, killE, killH, AV.kill, AV.kill.go, Row.kill, trE, trH, AV.tr, AV.tr.go, Row.tr, frzO, frzF, not1, bneD, beqD, dRows, dRow, dInts, hs, hc1, takeMap]; fail "STUCK")
      clear hK' K'
      refine hK5 _ (AW.norm (fun _ => trivial) [1, 3, 9, 32, 33, 34] [3, 90] (AW.st (by simp [St.norm, liveL, liveR, trE, trH, onlyO, onlyF, AV.tr, AV.tr.go, Row.tr, mkAgg, mkTup, mkIfc, mkFn, allD, upd, lst, hlst, hup, hno, List.lookup, args, killE, killH, AV.kill, AV.kill.go, Row.kill, frzO, frzF, not1, int, Av.bool, cst, cstD, dRows, dRow, dInts, hs, hc1, takeMap]; rfl) ?_))
      refine AW_re (tyOf_good _) (fun _ => trivial) fun K' hK' => ?_
      repeat (refine sxf_next fun K2 hK2 => ?_; simp [Int.ofNat_inj, und, undef, upd_lst, hup_hlst, killE_lst, killH_hlst, trE_lst, hno_hlst, St.freeze, aeval, cst, cstD, upd, lst, hlst, List.lookup, int, Av.bool, loadA, mkAgg, mkTup, allD, hup, hno, tgt, args, killE, killH, AV.kill, AV.kill.go, Row.kill, trE, trH, AV.tr, AV.tr.go, Row.tr, frzO, frzF, not1, bneD, beqD]; (repeat (refine ⟨by omega, ?_⟩)); refine hK2 _ ?_; clear hK2 K2)
      first | refine sxf_nil (hK' _ ?_) | (refine sxf_next fun K2 hK2 => ?_; clear hK2 hK'; simp [Int.ofNat_inj, und, undef, upd_lst, hup_hlst, killE_lst, killH_hlst, trE_lst, hno_hlst, St.freeze, aeval, cst, cstD, upd, lst, hlst, List.lookup, int, Av.bool, loadA, mkAgg, mkTup, allD, hup, hno, tgt, args, killE, killH, AV.kill, AV.kill.go, Row.kill, trE, trH, AV.tr, AV.tr.go, Row.tr, frzO, frzF, not1, bneD, beqD]; fail "STUCK")
      clear hK' K'
      try simp only [thn, inb]
      refine Again.mk (i + 1) (by omega) (by omega) ?_
      have hot : ∀ f : Int → List D, List.take i (List.map f out) = List.map f out := fun f => List.take_of_length_le (by simp [htl])
      refine Imp.to' (fun _ => trivial) (by simp [St.norm, liveL, liveR, trE, trH, onlyO, onlyF, AV.tr, AV.tr.go, Row.tr, mkAgg, mkTup, mkIfc, mkFn, allD, upd, lst, hlst, hup, hno, List.lookup, args, killE, killH, AV.kill, AV.kill.go, Row.kill, frzO, frzF, not1, int, Av.bool, cst, cstD, boxT, rowI, dRows, dRow, dInts, dNats, dNum, e1, e2, e3, e4, e6, hot, htl]) (by simp [St.norm, liveL, liveR, trE, trH, onlyO, onlyF, AV.tr, AV.tr.go, Row.tr, mkAgg, mkTup, mkIfc, mkFn, allD, upd, lst, hlst, hup, hno, List.lookup, args, killE, killH, AV.kill, AV.kill.go, Row.kill, frzO, frzF, not1, int, Av.bool, cst, cstD, boxT, rowI, dRows, dRow, dInts, dNats, dNum, e1, e2, e3, e4, e6, hot, htl])
    · have hil : i = l.length := by omega
      subst hil
      have htake : l.take l.length = l := List.take_length
      rw [htake] at htl
      refine AW_exit (hK3 _ ?_)
      refine AW_rg (tyOf_good _) (fun _ => trivial) [6, 7] [90] fun K' hK' => ?_
      repeat (refine sxf_next fun K2 hK2 => ?_; simp [Int.ofNat_inj, und, undef, upd_lst, hup_hlst, killE_lst, killH_hlst, trE_lst, hno_hlst, St.freeze, aeval, cst, cstD, upd, lst, hlst, List.lookup, int, Av.bool, loadA, mkAgg, mkTup, allD, hup, hno, tgt, args, killE, killH, AV.kill, AV.kill.go, Row.kill, trE, trH, AV.tr, AV.tr.go, Row.tr, frzO, frzF, not1, bneD, beqD, rowI, htake]; (repeat (refine ⟨by omega, ?_⟩)); refine hK2 _ ?_; clear hK2 K2)
      first | refine sxf_nil (hK' _ ?_) | (refine sxf_next fun K2 hK2 => ?_; clear hK2 hK'; simp [Int.ofNat_inj, und, undef, upd_lst, hup_hlst, killE_lst, killH_hlst, trE_lst, hno_hlst, St.freeze, aeval, cst, cstD, upd, lst, hlst, List.lookup, int, Av.bool, loadA, mkAgg, mkTup, allD, hup, hno, tgt, args, killE, killH, AV.kill, AV.kill.go, Row.kill, trE, trH, AV.tr, AV.tr.go, Row.tr, frzO, frzF, not1, bneD, beqD, rowI, htake]; fail "STUCK")
      refine AW.st (by simp [St.norm, liveL, liveR, trE, trH, onlyO, onlyF, AV.tr, AV.tr.go, Row.tr, mkAgg, mkTup, mkIfc, mkFn, allD, upd, lst, hlst, hup, hno, List.lookup, args, killE, killH, AV.kill, AV.kill.go, Row.kill, frzO, frzF, not1, int, Av.bool, cst, cstD, rowI, htake]; rfl) ?_
      clear hK' K'
      refine AW_ret ?_
      simp [thn, inb, atEnd, atEndD, endD, resAll, resOne, oneOf, mkTup, allD, loadA, asVal, asValD, asD, asDs, D.le, D.le.go, liveL, upd, lst, hlst, hup, hno, List.lookup, args, aeval, cst, cstD, int, Av.bool, TypeDesc.isAgg, mkAgg, bneD, beqD, Int.ofNat_inj, takeMap, dRow, dInts, dNum, htl, htake, D.le_refl]
      exact List.take_of_length_le (by simp [htl])
#print axioms tell1_spec
#print axioms btell_range
#print axioms btell_good
end Go.Proofs.YtoikggboakojlaaDoor
