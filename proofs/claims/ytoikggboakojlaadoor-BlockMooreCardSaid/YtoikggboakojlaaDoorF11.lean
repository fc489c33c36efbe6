/-
  A fact: two states that are alike, one that isn't.
-/
import Derived.Test.YtoikggboakojlaaDoorF13
namespace Go.Proofs.YtoikggboakojlaaDoor
open Go.Av
set_option linter.unusedSimpArgs false
set_option linter.unusedVariables false
attribute [local simp] avOf offAll offOps kindOf Op.operands Call.operands okDst wantedS gval isCall isWr lenA descIs TypeDesc.isSlice TypeDesc.isStr binA isSh binI fit64 indexA elemSz asValD asVal TypeDesc.isAgg fieldAddrA fieldOf fieldA valCells AV.one D.one zeroD catD newsOf unA eqv nilBin constOf nilFits nilA extractA makeIfaceA indexStrA sliceA bound storeBox storeSl TypeDesc.isBool TypeDesc.isIface nilCheckA convA Value.oneCell' buildA placesA fillA makeEls exK preF freezeL AV.rows AV.rows.go plainS plainL appK appOps fromRow stepF stepD stepL rd wr evalL evalP putd mkFn mkIfc

def tab0 : Tab := ⟨[[1], [0], [0]], [[5], [5], [6]]⟩
theorem tab0_ok : Ok tab0 := ok_iff.1 (by decide +kernel)
theorem tab0_stops : Stops tab0 1 := ⟨by decide +kernel, by intro j hj; have : j = 0 := by omega
                                                            subst this; decide +kernel⟩
theorem tab0_iter : iter tab0 1 = [0, 0, 1] := by decide +kernel
theorem tab0_idx : idx (apartF 0 2) (rndF tab0 1) = ((1 : Nat) : Int) := by decide +kernel
theorem tab0_part : partF tab0 1 0 2 = [0] := by decide +kernel

set_option maxHeartbeats 1000000 in
theorem blocked_spec (G : Glob) : PureC Tryd.prog G 35 [] (.v (.bool true)) := by
  have hb := blocks_good G tab0 tab0_ok 1 (by omega) tab0_stops
  have hp := part_good G tab0 tab0_ok 1 (by omega) tab0_stops 0 2 (by decide) (by decide) 1 (by omega) tab0_idx
  rw [tab0_iter] at hb
  rw [tab0_part] at hp
  refine PureC.of_body (tyOf_good _) Tryd.func35 rfl rfl (rs := [.tmp 0]) Tryd.results35 (by simp [Tryd.ntmps35]) fun X => ?_
  simp only [Tryd.ntmps35, List.map]
  refine AW_rg (tyOf_good _) (fun _ => trivial) [] [] fun K' hK' => ?_
  repeat (refine sxf_next fun K2 hK2 => ?_; simp [Int.ofNat_inj, und, undef, upd_lst, hup_hlst, killE_lst, killH_hlst, trE_lst, hno_hlst, St.freeze, aeval, cst, cstD, upd, lst, hlst, List.lookup, int, Av.bool, loadA, mkAgg, mkTup, allD, hup, hno, tgt, args, killE, killH, AV.kill, AV.kill.go, Row.kill, trE, trH, AV.tr, AV.tr.go, Row.tr, frzO, frzF, not1, bneD, beqD]; (repeat (refine ⟨by omega, ?_⟩)); refine hK2 _ ?_; clear hK2 K2)
  first | refine sxf_nil (hK' _ ?_) | (refine sxf_next fun K2 hK2 => ?_; clear hK2 hK'; simp [Int.ofNat_inj, und, undef, upd_lst, hup_hlst, killE_lst, killH_hlst, trE_lst, hno_hlst, St.freeze, aeval, cst, cstD, upd, lst, hlst, List.lookup, int, Av.bool, loadA, mkAgg, mkTup, allD, hup, hno, tgt, args, killE, killH, AV.kill, AV.kill.go, Row.kill, trE, trH, AV.tr, AV.tr.go, Row.tr, frzO, frzF, not1, bneD, beqD]; fail "STUCK")
  refine AW.st (by simp [St.norm, liveL, liveR, trE, trH, onlyO, onlyF, AV.tr, AV.tr.go, Row.tr, mkAgg, mkTup, mkIfc, mkFn, allD, upd, lst, hlst, hup, hno, List.lookup, args, killE, killH, AV.kill, AV.kill.go, Row.kill, frzO, frzF, not1, int, Av.bool, cst, cstD]; rfl) ?_
  clear hK' K'
  refine AW_rg (tyOf_good _) (fun _ => trivial) [1] [1, 9, 13] fun K' hK' => ?_
  repeat (refine sxf_next fun K2 hK2 => ?_; simp [Int.ofNat_inj, und, undef, upd_lst, hup_hlst, killE_lst, killH_hlst, trE_lst, hno_hlst, St.freeze, aeval, cst, cstD, upd, lst, hlst, List.lookup, int, Av.bool, loadA, mkAgg, mkTup, allD, hup, hno, tgt, args, killE, killH, AV.kill, AV.kill.go, Row.kill, trE, trH, AV.tr, AV.tr.go, Row.tr, frzO, frzF, not1, bneD, beqD]; (repeat (refine ⟨by omega, ?_⟩)); refine hK2 _ ?_; clear hK2 K2)
  first | refine sxf_nil (hK' _ ?_) | (refine sxf_next fun K2 hK2 => ?_; clear hK2 hK'; simp [Int.ofNat_inj, und, undef, upd_lst, hup_hlst, killE_lst, killH_hlst, trE_lst, hno_hlst, St.freeze, aeval, cst, cstD, upd, lst, hlst, List.lookup, int, Av.bool, loadA, mkAgg, mkTup, allD, hup, hno, tgt, args, killE, killH, AV.kill, AV.kill.go, Row.kill, trE, trH, AV.tr, AV.tr.go, Row.tr, frzO, frzF, not1, bneD, beqD]; fail "STUCK")
  refine AW.st (by simp [St.norm, liveL, liveR, trE, trH, onlyO, onlyF, AV.tr, AV.tr.go, Row.tr, mkAgg, mkTup, mkIfc, mkFn, allD, upd, lst, hlst, hup, hno, List.lookup, args, killE, killH, AV.kill, AV.kill.go, Row.kill, frzO, frzF, not1, int, Av.bool, cst, cstD]; rfl) ?_
  clear hK' K'
  refine AW.imp (Imp.freeze 9 (fun _ => trivial)) ?_
  refine AW.st (by simp [St.freeze, trE_lst, trH_hlst, List.filterMap_cons, List.filterMap_nil, frzO, frzF, not1, AV.tr, AV.tr.go, Row.tr, hlst, lst, List.lookup, mkAgg, mkTup, mkIfc, mkFn, allD, int, Av.bool]; rfl) ?_
  refine AW.imp (Imp.freeze 13 (fun _ => trivial)) ?_
  refine AW.st (by simp [St.freeze, trE_lst, trH_hlst, List.filterMap_cons, List.filterMap_nil, frzO, frzF, not1, AV.tr, AV.tr.go, Row.tr, hlst, lst, List.lookup, mkAgg, mkTup, mkIfc, mkFn, allD, int, Av.bool]; rfl) ?_
  refine AW_rg (tyOf_good _) (fun _ => trivial) [1, 2, 3] [1] fun K' hK' => ?_
  repeat (refine sxf_next fun K2 hK2 => ?_; simp [Int.ofNat_inj, und, undef, upd_lst, hup_hlst, killE_lst, killH_hlst, trE_lst, hno_hlst, St.freeze, aeval, cst, cstD, upd, lst, hlst, List.lookup, int, Av.bool, loadA, mkAgg, mkTup, allD, hup, hno, tgt, args, killE, killH, AV.kill, AV.kill.go, Row.kill, trE, trH, AV.tr, AV.tr.go, Row.tr, frzO, frzF, not1, bneD, beqD, tab0, dTab, dRows, dRow, dInts]; (repeat (refine ⟨by omega, ?_⟩)); refine hK2 _ ?_; clear hK2 K2)
  refine sxf_next fun K2 hK2 => ?_
  simp [Int.ofNat_inj, und, undef, upd_lst, hup_hlst, killE_lst, killH_hlst, trE_lst, hno_hlst, St.freeze, aeval, cst, cstD, upd, lst, hlst, List.lookup, int, Av.bool, loadA, mkAgg, mkTup, allD, hup, hno, tgt, args, killE, killH, AV.kill, AV.kill.go, Row.kill, trE, trH, AV.tr, AV.tr.go, Row.tr, frzO, frzF, not1, bneD, beqD, tab0, dTab, dRows, dRow, dInts]
  refine callK.data (hb) (by simp [allD, allD_map, asDs_map, asDs, asD, hup, hno, hlst, List.lookup, D.scalar, tgt, aeval, evalL, lst, upd, putd, int, Av.bool, cst, cstD]; rfl) (by first | exact D.leGo_refl _ | simp [takeMap, List.map_map, Function.comp_def, D.le, D.le.go, D.le_refl, D.leGo_refl, tab0, dTab, dRows, dRow, dInts]) ?_
  refine hK2 _ ?_
  clear hK2 K2
  simp only [putd, upd_lst]
  repeat (refine sxf_next fun K2 hK2 => ?_; simp [Int.ofNat_inj, und, undef, upd_lst, hup_hlst, killE_lst, killH_hlst, trE_lst, hno_hlst, St.freeze, aeval, cst, cstD, upd, lst, hlst, List.lookup, int, Av.bool, loadA, mkAgg, mkTup, allD, hup, hno, tgt, args, killE, killH, AV.kill, AV.kill.go, Row.kill, trE, trH, AV.tr, AV.tr.go, Row.tr, frzO, frzF, not1, bneD, beqD, tab0, dTab, dRows, dRow, dInts]; (repeat (refine ⟨by omega, ?_⟩)); refine hK2 _ ?_; clear hK2 K2)
  first | refine sxf_nil (hK' _ ?_) | (refine sxf_next fun K2 hK2 => ?_; clear hK2 hK'; simp [Int.ofNat_inj, und, undef, upd_lst, hup_hlst, killE_lst, killH_hlst, trE_lst, hno_hlst, St.freeze, aeval, cst, cstD, upd, lst, hlst, List.lookup, int, Av.bool, loadA, mkAgg, mkTup, allD, hup, hno, tgt, args, killE, killH, AV.kill, AV.kill.go, Row.kill, trE, trH, AV.tr, AV.tr.go, Row.tr, frzO, frzF, not1, bneD, beqD, tab0, dTab, dRows, dRow, dInts]; fail "STUCK")
  refine AW.st (by simp [St.norm, liveL, liveR, trE, trH, onlyO, onlyF, AV.tr, AV.tr.go, Row.tr, mkAgg, mkTup, mkIfc, mkFn, allD, upd, lst, hlst, hup, hno, List.lookup, args, killE, killH, AV.kill, AV.kill.go, Row.kill, frzO, frzF, not1, int, Av.bool, cst, cstD, tab0, dTab, dRows, dRow, dInts]; rfl) ?_
  clear hK' K'
  refine AW_rg (tyOf_good _) (fun _ => trivial) [2, 3, 4, 5] [] fun K' hK' => ?_
  repeat (refine sxf_next fun K2 hK2 => ?_; simp [Int.ofNat_inj, und, undef, upd_lst, hup_hlst, killE_lst, killH_hlst, trE_lst, hno_hlst, St.freeze, aeval, cst, cstD, upd, lst, hlst, List.lookup, int, Av.bool, loadA, mkAgg, mkTup, allD, hup, hno, tgt, args, killE, killH, AV.kill, AV.kill.go, Row.kill, trE, trH, AV.tr, AV.tr.go, Row.tr, frzO, frzF, not1, bneD, beqD, tab0, dTab, dRows, dRow, dInts, dNum]; (repeat (refine ⟨by omega, ?_⟩)); refine hK2 _ ?_; clear hK2 K2)
  refine sxf_next fun K2 hK2 => ?_
  simp [Int.ofNat_inj, und, undef, upd_lst, hup_hlst, killE_lst, killH_hlst, trE_lst, hno_hlst, St.freeze, aeval, cst, cstD, upd, lst, hlst, List.lookup, int, Av.bool, loadA, mkAgg, mkTup, allD, hup, hno, tgt, args, killE, killH, AV.kill, AV.kill.go, Row.kill, trE, trH, AV.tr, AV.tr.go, Row.tr, frzO, frzF, not1, bneD, beqD, tab0, dTab, dRows, dRow, dInts, dNum]
  refine callK.data (hp) (by simp [allD, allD_map, asDs_map, asDs, asD, hup, hno, hlst, List.lookup, D.scalar, tgt, aeval, evalL, lst, upd, putd, int, Av.bool, cst, cstD]; rfl) (by first | exact D.leGo_refl _ | simp [takeMap, List.map_map, Function.comp_def, D.le, D.le.go, D.le_refl, D.leGo_refl, tab0, dTab, dRows, dRow, dInts, dNum]) ?_
  refine hK2 _ ?_
  clear hK2 K2
  simp only [putd, upd_lst]
  repeat (refine sxf_next fun K2 hK2 => ?_; simp [Int.ofNat_inj, und, undef, upd_lst, hup_hlst, killE_lst, killH_hlst, trE_lst, hno_hlst, St.freeze, aeval, cst, cstD, upd, lst, hlst, List.lookup, int, Av.bool, loadA, mkAgg, mkTup, allD, hup, hno, tgt, args, killE, killH, AV.kill, AV.kill.go, Row.kill, trE, trH, AV.tr, AV.tr.go, Row.tr, frzO, frzF, not1, bneD, beqD, tab0, dTab, dRows, dRow, dInts, dNum]; (repeat (refine ⟨by omega, ?_⟩)); refine hK2 _ ?_; clear hK2 K2)
  first | refine sxf_nil (hK' _ ?_) | (refine sxf_next fun K2 hK2 => ?_; clear hK2 hK'; simp [Int.ofNat_inj, und, undef, upd_lst, hup_hlst, killE_lst, killH_hlst, trE_lst, hno_hlst, St.freeze, aeval, cst, cstD, upd, lst, hlst, List.lookup, int, Av.bool, loadA, mkAgg, mkTup, allD, hup, hno, tgt, args, killE, killH, AV.kill, AV.kill.go, Row.kill, trE, trH, AV.tr, AV.tr.go, Row.tr, frzO, frzF, not1, bneD, beqD, tab0, dTab, dRows, dRow, dInts, dNum]; fail "STUCK")
  refine AW.st (by simp [St.norm, liveL, liveR, trE, trH, onlyO, onlyF, AV.tr, AV.tr.go, Row.tr, mkAgg, mkTup, mkIfc, mkFn, allD, upd, lst, hlst, hup, hno, List.lookup, args, killE, killH, AV.kill, AV.kill.go, Row.kill, frzO, frzF, not1, int, Av.bool, cst, cstD, tab0, dTab, dRows, dRow, dInts, dNum]; rfl) ?_
  clear hK' K'
  refine AW_rg (tyOf_good _) (fun _ => trivial) [0] [] fun K' hK' => ?_
  repeat (refine sxf_next fun K2 hK2 => ?_; simp [Int.ofNat_inj, und, undef, upd_lst, hup_hlst, killE_lst, killH_hlst, trE_lst, hno_hlst, St.freeze, aeval, cst, cstD, upd, lst, hlst, List.lookup, int, Av.bool, loadA, mkAgg, mkTup, allD, hup, hno, tgt, args, killE, killH, AV.kill, AV.kill.go, Row.kill, trE, trH, AV.tr, AV.tr.go, Row.tr, frzO, frzF, not1, bneD, beqD, dRow, dInts]; (repeat (refine ⟨by omega, ?_⟩)); refine hK2 _ ?_; clear hK2 K2)
  refine sxf_next fun K2 hK2 => ?_
  simp [Int.ofNat_inj, und, undef, upd_lst, hup_hlst, killE_lst, killH_hlst, trE_lst, hno_hlst, St.freeze, aeval, cst, cstD, upd, lst, hlst, List.lookup, int, Av.bool, loadA, mkAgg, mkTup, allD, hup, hno, tgt, args, killE, killH, AV.kill, AV.kill.go, Row.kill, trE, trH, AV.tr, AV.tr.go, Row.tr, frzO, frzF, not1, bneD, beqD, dRow, dInts]
  refine callK.lend (sameInts_spec G none none [0, 0, 1] [0, 0, 1] (by decide)) (by simp [allD, allD_map, asDs_map, asDs, asD, hup, hno, hlst, List.lookup, D.scalar, tgt, aeval, evalL, lst, upd, putd, int, Av.bool, cst, cstD]; rfl) (by first | exact D.leGo_refl _ | simp [takeMap, List.map_map, Function.comp_def, D.le, D.le.go, D.le_refl, D.leGo_refl, dRow, dInts]) (by simp [D.scalar]) ?_
  refine hK2 _ ?_
  clear hK2 K2
  simp only [putd, upd_lst]
  repeat (refine sxf_next fun K2 hK2 => ?_; simp [Int.ofNat_inj, und, undef, upd_lst, hup_hlst, killE_lst, killH_hlst, trE_lst, hno_hlst, St.freeze, aeval, cst, cstD, upd, lst, hlst, List.lookup, int, Av.bool, loadA, mkAgg, mkTup, allD, hup, hno, tgt, args, killE, killH, AV.kill, AV.kill.go, Row.kill, trE, trH, AV.tr, AV.tr.go, Row.tr, frzO, frzF, not1, bneD, beqD, dRow, dInts]; (repeat (refine ⟨by omega, ?_⟩)); refine hK2 _ ?_; clear hK2 K2)
  refine sxf_next fun K2 hK2 => ?_
  simp [Int.ofNat_inj, und, undef, upd_lst, hup_hlst, killE_lst, killH_hlst, trE_lst, hno_hlst, St.freeze, aeval, cst, cstD, upd, lst, hlst, List.lookup, int, Av.bool, loadA, mkAgg, mkTup, allD, hup, hno, tgt, args, killE, killH, AV.kill, AV.kill.go, Row.kill, trE, trH, AV.tr, AV.tr.go, Row.tr, frzO, frzF, not1, bneD, beqD, dRow, dInts]
  refine callK.lend (sameInts_spec G none none [0] [0] (by decide)) (by simp [allD, allD_map, asDs_map, asDs, asD, hup, hno, hlst, List.lookup, D.scalar, tgt, aeval, evalL, lst, upd, putd, int, Av.bool, cst, cstD]; rfl) (by first | exact D.leGo_refl _ | simp [takeMap, List.map_map, Function.comp_def, D.le, D.le.go, D.le_refl, D.leGo_refl, dRow, dInts]) (by simp [D.scalar]) ?_
  refine hK2 _ ?_
  clear hK2 K2
  simp only [putd, upd_lst]
  repeat (refine sxf_next fun K2 hK2 => ?_; simp [Int.ofNat_inj, und, undef, upd_lst, hup_hlst, killE_lst, killH_hlst, trE_lst, hno_hlst, St.freeze, aeval, cst, cstD, upd, lst, hlst, List.lookup, int, Av.bool, loadA, mkAgg, mkTup, allD, hup, hno, tgt, args, killE, killH, AV.kill, AV.kill.go, Row.kill, trE, trH, AV.tr, AV.tr.go, Row.tr, frzO, frzF, not1, bneD, beqD, dRow, dInts]; (repeat (refine ⟨by omega, ?_⟩)); refine hK2 _ ?_; clear hK2 K2)
  first | refine sxf_nil (hK' _ ?_) | (refine sxf_next fun K2 hK2 => ?_; clear hK2 hK'; simp [Int.ofNat_inj, und, undef, upd_lst, hup_hlst, killE_lst, killH_hlst, trE_lst, hno_hlst, St.freeze, aeval, cst, cstD, upd, lst, hlst, List.lookup, int, Av.bool, loadA, mkAgg, mkTup, allD, hup, hno, tgt, args, killE, killH, AV.kill, AV.kill.go, Row.kill, trE, trH, AV.tr, AV.tr.go, Row.tr, frzO, frzF, not1, bneD, beqD, dRow, dInts]; fail "STUCK")
  refine AW.st (by simp [St.norm, liveL, liveR, trE, trH, onlyO, onlyF, AV.tr, AV.tr.go, Row.tr, mkAgg, mkTup, mkIfc, mkFn, allD, upd, lst, hlst, hup, hno, List.lookup, args, killE, killH, AV.kill, AV.kill.go, Row.kill, frzO, frzF, not1, int, Av.bool, cst, cstD, dRow, dInts]; rfl) ?_
  clear hK' K'
  refine AW_ret ?_
  simp [thn, inb, atEnd, atEndD, endD, resAll, resOne, oneOf, mkTup, allD, loadA, asVal, asValD, asD, asDs, D.le, D.le.go, liveL, upd, lst, hlst, hup, hno, List.lookup, args, aeval, cst, cstD, int, Av.bool, TypeDesc.isAgg, mkAgg, bneD, beqD, Int.ofNat_inj, takeMap]
#print axioms blocked_spec
end Go.Proofs.YtoikggboakojlaaDoor
