/-
  The least inputs by which two states are told apart.
-/
import Derived.Test.YtoikggboakojlaaDoorF10
namespace Go.Proofs.YtoikggboakojlaaDoor
open Go.Av
set_option linter.unusedSimpArgs false
set_option linter.unusedVariables false
attribute [local simp] avOf offAll offOps kindOf Op.operands Call.operands okDst wantedS gval isCall isWr lenA descIs TypeDesc.isSlice TypeDesc.isStr binA isSh binI fit64 indexA elemSz asValD asVal TypeDesc.isAgg fieldAddrA fieldOf fieldA valCells AV.one D.one zeroD catD newsOf unA eqv nilBin constOf nilFits nilA extractA makeIfaceA indexStrA sliceA bound storeBox storeSl TypeDesc.isBool TypeDesc.isIface nilCheckA convA Value.oneCell' buildA placesA fillA makeEls exK preF freezeL AV.rows AV.rows.go plainS plainL appK appOps fromRow stepF stepD stepL rd wr evalL evalP putd mkFn mkIfc

/-- By input i two states are told apart, where k inputs are wanted. -/
def hitF (t : Tab) (k a b i : Nat) : Bool := if k = 1 then te t a i != te t b i else (iter t (k - 1)).getD (nx t a i) 0 != (iter t (k - 1)).getD (nx t b i) 0
def partF (t : Tab) : Nat → Nat → Nat → List Int
  | 0, _, _ => []
  | k + 1, a, b => match (List.range (wd t)).find? (hitF t (k + 1) a b) with
    | some i => (i : Int) :: partF t k (nx t a i) (nx t b i)
    | none => partF t k a b

/-- Two states have unlike numbers. -/
def apartF (a b : Nat) (l : List Int) : Bool := l.getD a 0 != l.getD b 0
def rndF (t : Tab) (k : Nat) : List (List Int) := (List.range (k + 1)).map (iter t)
theorem rndF_len (t : Tab) (k : Nat) : (rndF t k).length = k + 1 := by simp [rndF]
theorem rndF_get (t : Tab) (k q : Nat) (h : q < (rndF t k).length) : (rndF t k)[q] = iter t q := by simp [rndF]
theorem rndF_mem {t : Tab} {k : Nat} {x : List Int} (h : x ∈ rndF t k) : x.length = t.n := by
  obtain ⟨m, _, rfl⟩ := List.mem_map.1 h
  exact iter_len t m

theorem find_hit {p : Nat → Bool} {n i : Nat} (hi : i < n) (h : p i = true) (hb : ∀ j, j < i → p j = false) : (List.range n).find? p = some i := by
  rw [List.find?_range_eq_some]
  exact ⟨h, List.mem_range.2 hi, fun j hj => by simp [hb j hj]⟩
theorem find_miss {p : Nat → Bool} {n : Nat} (hb : ∀ j, j < n → p j = false) : (List.range n).find? p = none := by
  rw [List.find?_eq_none]
  intro x hx
  simp [hb x (List.mem_range.1 hx)]

theorem partF_hit {t : Tab} {k a b i : Nat} (hi : i < wd t) (h : hitF t (k + 1) a b i = true) (hb : ∀ j, j < i → hitF t (k + 1) a b j = false) : partF t (k + 1) a b = (i : Int) :: partF t k (nx t a i) (nx t b i) := by
  conv => lhs; unfold partF
  rw [find_hit hi h hb]
theorem partF_miss {t : Tab} {k a b : Nat} (hb : ∀ j, j < wd t → hitF t (k + 1) a b j = false) : partF t (k + 1) a b = partF t k a b := by
  conv => lhs; unfold partF
  rw [find_miss hb]

set_option maxHeartbeats 1000000 in
theorem part_bad (G : Glob) (t : Tab) (a b : Int) (e : Int × Option Nat) (h : checkF t = some e) : PureC Tryd.prog G 25 [dTab t, dNum a, dNum b] (.tup [.sl (some false) [], dErr (some e)]) := by
  refine PureC.of_body (tyOf_good _) Tryd.func25 rfl rfl (rs := [.tmp 6, .tmp 7]) Tryd.results25 (by simp [Tryd.ntmps25]) fun X => ?_
  simp only [Tryd.ntmps25, List.map]
  refine AW_rg (tyOf_good _) (fun _ => trivial) [3, 4, 5] [3, 4, 5] fun K' hK' => ?_
  repeat (refine sxf_next fun K2 hK2 => ?_; simp [Int.ofNat_inj, und, undef, upd_lst, hup_hlst, killE_lst, killH_hlst, trE_lst, hno_hlst, St.freeze, aeval, cst, cstD, upd, lst, hlst, List.lookup, int, Av.bool, loadA, mkAgg, mkTup, allD, hup, hno, tgt, args, killE, killH, AV.kill, AV.kill.go, Row.kill, trE, trH, AV.tr, AV.tr.go, Row.tr, frzO, frzF, not1, bneD, beqD, dTab, dNum]; (repeat (refine ⟨by omega, ?_⟩)); refine hK2 _ ?_; clear hK2 K2)
  first | refine sxf_nil (hK' _ ?_) | (refine sxf_next fun K2 hK2 => ?_; clear hK2 hK'; simp [Int.ofNat_inj, und, undef, upd_lst, hup_hlst, killE_lst, killH_hlst, trE_lst, hno_hlst, St.freeze, aeval, cst, cstD, upd, lst, hlst, List.lookup, int, Av.bool, loadA, mkAgg, mkTup, allD, hup, hno, tgt, args, killE, killH, AV.kill, AV.kill.go, Row.kill, trE, trH, AV.tr, AV.tr.go, Row.tr, frzO, frzF, not1, bneD, beqD, dTab, dNum]; fail "STUCK")
  refine AW.st (by simp [St.norm, liveL, liveR, trE, trH, onlyO, onlyF, AV.tr, AV.tr.go, Row.tr, mkAgg, mkTup, mkIfc, mkFn, allD, upd, lst, hlst, hup, hno, List.lookup, args, killE, killH, AV.kill, AV.kill.go, Row.kill, frzO, frzF, not1, int, Av.bool, cst, cstD, dTab, dNum]; rfl) ?_
  clear hK' K'
  refine AW_then fun K1 hK1 => ?_
  refine AW_rg (tyOf_good _) (fun _ => trivial) [3, 4, 5, 8] [3, 4, 5] fun K' hK' => ?_
  repeat (refine sxf_next fun K2 hK2 => ?_; simp [Int.ofNat_inj, und, undef, upd_lst, hup_hlst, killE_lst, killH_hlst, trE_lst, hno_hlst, St.freeze, aeval, cst, cstD, upd, lst, hlst, List.lookup, int, Av.bool, loadA, mkAgg, mkTup, allD, hup, hno, tgt, args, killE, killH, AV.kill, AV.kill.go, Row.kill, trE, trH, AV.tr, AV.tr.go, Row.tr, frzO, frzF, not1, bneD, beqD]; (repeat (refine ⟨by omega, ?_⟩)); refine hK2 _ ?_; clear hK2 K2)
  refine sxf_next fun K2 hK2 => ?_
  simp [Int.ofNat_inj, und, undef, upd_lst, hup_hlst, killE_lst, killH_hlst, trE_lst, hno_hlst, St.freeze, aeval, cst, cstD, upd, lst, hlst, List.lookup, int, Av.bool, loadA, mkAgg, mkTup, allD, hup, hno, tgt, args, killE, killH, AV.kill, AV.kill.go, Row.kill, trE, trH, AV.tr, AV.tr.go, Row.tr, frzO, frzF, not1, bneD, beqD]
  refine callK.data (check_spec G t) (by simp [allD, allD_map, asDs_map, asDs, asD, hup, hno, hlst, List.lookup, D.scalar, tgt, aeval, evalL, lst, upd, putd, int, Av.bool, cst, cstD]; rfl) (by first | exact D.leGo_refl _ | simp [takeMap, List.map_map, Function.comp_def, D.le, D.le.go, D.le_refl, D.leGo_refl]) ?_
  refine hK2 _ ?_
  clear hK2 K2
  simp only [putd, upd_lst]
  repeat (refine sxf_next fun K2 hK2 => ?_; simp [Int.ofNat_inj, und, undef, upd_lst, hup_hlst, killE_lst, killH_hlst, trE_lst, hno_hlst, St.freeze, aeval, cst, cstD, upd, lst, hlst, List.lookup, int, Av.bool, loadA, mkAgg, mkTup, allD, hup, hno, tgt, args, killE, killH, AV.kill, AV.kill.go, Row.kill, trE, trH, AV.tr, AV.tr.go, Row.tr, frzO, frzF, not1, bneD, beqD]; (repeat (refine ⟨by omega, ?_⟩)); refine hK2 _ ?_; clear hK2 K2)
  first | refine sxf_nil (hK' _ ?_) | (refine sxf_next fun K2 hK2 => ?_; clear hK2 hK'; simp [Int.ofNat_inj, und, undef, upd_lst, hup_hlst, killE_lst, killH_hlst, trE_lst, hno_hlst, St.freeze, aeval, cst, cstD, upd, lst, hlst, List.lookup, int, Av.bool, loadA, mkAgg, mkTup, allD, hup, hno, tgt, args, killE, killH, AV.kill, AV.kill.go, Row.kill, trE, trH, AV.tr, AV.tr.go, Row.tr, frzO, frzF, not1, bneD, beqD]; fail "STUCK")
  refine AW.st (by simp [St.norm, liveL, liveR, trE, trH, onlyO, onlyF, AV.tr, AV.tr.go, Row.tr, mkAgg, mkTup, mkIfc, mkFn, allD, upd, lst, hlst, hup, hno, List.lookup, args, killE, killH, AV.kill, AV.kill.go, Row.kill, frzO, frzF, not1, int, Av.bool, cst, cstD]; rfl) ?_
  clear hK' K'
  rw [h]
  obtain ⟨c, s⟩ := e
  cases s
  · refine AW_rg (tyOf_good _) (fun _ => trivial) [3, 4, 5, 8, 18] [3, 4, 5] fun K' hK' => ?_
    repeat (refine sxf_next fun K2 hK2 => ?_; simp [Int.ofNat_inj, und, undef, upd_lst, hup_hlst, killE_lst, killH_hlst, trE_lst, hno_hlst, St.freeze, aeval, cst, cstD, upd, lst, hlst, List.lookup, int, Av.bool, loadA, mkAgg, mkTup, allD, hup, hno, tgt, args, killE, killH, AV.kill, AV.kill.go, Row.kill, trE, trH, AV.tr, AV.tr.go, Row.tr, frzO, frzF, not1, bneD, beqD, dErr]; (repeat (refine ⟨by omega, ?_⟩)); refine hK2 _ ?_; clear hK2 K2)
    first | refine sxf_nil (hK' _ ?_) | (refine sxf_next fun K2 hK2 => ?_; clear hK2 hK'; simp [Int.ofNat_inj, und, undef, upd_lst, hup_hlst, killE_lst, killH_hlst, trE_lst, hno_hlst, St.freeze, aeval, cst, cstD, upd, lst, hlst, List.lookup, int, Av.bool, loadA, mkAgg, mkTup, allD, hup, hno, tgt, args, killE, killH, AV.kill, AV.kill.go, Row.kill, trE, trH, AV.tr, AV.tr.go, Row.tr, frzO, frzF, not1, bneD, beqD, dErr]; fail "STUCK")
    refine AW.st (by simp [St.norm, liveL, liveR, trE, trH, onlyO, onlyF, AV.tr, AV.tr.go, Row.tr, mkAgg, mkTup, mkIfc, mkFn, allD, upd, lst, hlst, hup, hno, List.lookup, args, killE, killH, AV.kill, AV.kill.go, Row.kill, frzO, frzF, not1, int, Av.bool, cst, cstD, dErr]; rfl) ?_
    clear hK' K'
    refine AW_cond true rfl (fun _ => ?_) (fun h => by cases h)
    refine AW_rg (tyOf_good _) (fun _ => trivial) [6, 7] [3, 4, 5] fun K' hK' => ?_
    repeat (refine sxf_next fun K2 hK2 => ?_; simp [Int.ofNat_inj, und, undef, upd_lst, hup_hlst, killE_lst, killH_hlst, trE_lst, hno_hlst, St.freeze, aeval, cst, cstD, upd, lst, hlst, List.lookup, int, Av.bool, loadA, mkAgg, mkTup, allD, hup, hno, tgt, args, killE, killH, AV.kill, AV.kill.go, Row.kill, trE, trH, AV.tr, AV.tr.go, Row.tr, frzO, frzF, not1, bneD, beqD]; (repeat (refine ⟨by omega, ?_⟩)); refine hK2 _ ?_; clear hK2 K2)
    first | refine sxf_nil (hK' _ ?_) | (refine sxf_next fun K2 hK2 => ?_; clear hK2 hK'; simp [Int.ofNat_inj, und, undef, upd_lst, hup_hlst, killE_lst, killH_hlst, trE_lst, hno_hlst, St.freeze, aeval, cst, cstD, upd, lst, hlst, List.lookup, int, Av.bool, loadA, mkAgg, mkTup, allD, hup, hno, tgt, args, killE, killH, AV.kill, AV.kill.go, Row.kill, trE, trH, AV.tr, AV.tr.go, Row.tr, frzO, frzF, not1, bneD, beqD]; fail "STUCK")
    refine AW.st (by simp [St.norm, liveL, liveR, trE, trH, onlyO, onlyF, AV.tr, AV.tr.go, Row.tr, mkAgg, mkTup, mkIfc, mkFn, allD, upd, lst, hlst, hup, hno, List.lookup, args, killE, killH, AV.kill, AV.kill.go, Row.kill, frzO, frzF, not1, int, Av.bool, cst, cstD]; rfl) ?_
    clear hK' K'
    refine AW_ret ?_
    simp [thn, inb, atEnd, atEndD, endD, resAll, resOne, oneOf, mkTup, allD, loadA, asVal, asValD, asD, asDs, D.le, D.le.go, liveL, upd, lst, hlst, hup, hno, List.lookup, args, aeval, cst, cstD, int, Av.bool, TypeDesc.isAgg, mkAgg, bneD, beqD, Int.ofNat_inj, takeMap, dErr]
  · refine AW_rg (tyOf_good _) (fun _ => trivial) [3, 4, 5, 8, 18] [3, 4, 5] fun K' hK' => ?_
    repeat (refine sxf_next fun K2 hK2 => ?_; simp [Int.ofNat_inj, und, undef, upd_lst, hup_hlst, killE_lst, killH_hlst, trE_lst, hno_hlst, St.freeze, aeval, cst, cstD, upd, lst, hlst, List.lookup, int, Av.bool, loadA, mkAgg, mkTup, allD, hup, hno, tgt, args, killE, killH, AV.kill, AV.kill.go, Row.kill, trE, trH, AV.tr, AV.tr.go, Row.tr, frzO, frzF, not1, bneD, beqD, dErr]; (repeat (refine ⟨by omega, ?_⟩)); refine hK2 _ ?_; clear hK2 K2)
    first | refine sxf_nil (hK' _ ?_) | (refine sxf_next fun K2 hK2 => ?_; clear hK2 hK'; simp [Int.ofNat_inj, und, undef, upd_lst, hup_hlst, killE_lst, killH_hlst, trE_lst, hno_hlst, St.freeze, aeval, cst, cstD, upd, lst, hlst, List.lookup, int, Av.bool, loadA, mkAgg, mkTup, allD, hup, hno, tgt, args, killE, killH, AV.kill, AV.kill.go, Row.kill, trE, trH, AV.tr, AV.tr.go, Row.tr, frzO, frzF, not1, bneD, beqD, dErr]; fail "STUCK")
    refine AW.st (by simp [St.norm, liveL, liveR, trE, trH, onlyO, onlyF, AV.tr, AV.tr.go, Row.tr, mkAgg, mkTup, mkIfc, mkFn, allD, upd, lst, hlst, hup, hno, List.lookup, args, killE, killH, AV.kill, AV.kill.go, Row.kill, frzO, frzF, not1, int, Av.bool, cst, cstD, dErr]; rfl) ?_
    clear hK' K'
    refine AW_cond true rfl (fun _ => ?_) (fun h => by cases h)
    refine AW_rg (tyOf_good _) (fun _ => trivial) [6, 7] [3, 4, 5] fun K' hK' => ?_
    repeat (refine sxf_next fun K2 hK2 => ?_; simp [Int.ofNat_inj, und, undef, upd_lst, hup_hlst, killE_lst, killH_hlst, trE_lst, hno_hlst, St.freeze, aeval, cst, cstD, upd, lst, hlst, List.lookup, int, Av.bool, loadA, mkAgg, mkTup, allD, hup, hno, tgt, args, killE, killH, AV.kill, AV.kill.go, Row.kill, trE, trH, AV.tr, AV.tr.go, Row.tr, frzO, frzF, not1, bneD, beqD]; (repeat (refine ⟨by omega, ?_⟩)); refine hK2 _ ?_; clear hK2 K2)
    first | refine sxf_nil (hK' _ ?_) | (refine sxf_next fun K2 hK2 => ?_; clear hK2 hK'; simp [Int.ofNat_inj, und, undef, upd_lst, hup_hlst, killE_lst, killH_hlst, trE_lst, hno_hlst, St.freeze, aeval, cst, cstD, upd, lst, hlst, List.lookup, int, Av.bool, loadA, mkAgg, mkTup, allD, hup, hno, tgt, args, killE, killH, AV.kill, AV.kill.go, Row.kill, trE, trH, AV.tr, AV.tr.go, Row.tr, frzO, frzF, not1, bneD, beqD]; fail "STUCK")
    refine AW.st (by simp [St.norm, liveL, liveR, trE, trH, onlyO, onlyF, AV.tr, AV.tr.go, Row.tr, mkAgg, mkTup, mkIfc, mkFn, allD, upd, lst, hlst, hup, hno, List.lookup, args, killE, killH, AV.kill, AV.kill.go, Row.kill, frzO, frzF, not1, int, Av.bool, cst, cstD]; rfl) ?_
    clear hK' K'
    refine AW_ret ?_
    simp [thn, inb, atEnd, atEndD, endD, resAll, resOne, oneOf, mkTup, allD, loadA, asVal, asValD, asD, asDs, D.le, D.le.go, liveL, upd, lst, hlst, hup, hno, List.lookup, args, aeval, cst, cstD, int, Av.bool, TypeDesc.isAgg, mkAgg, bneD, beqD, Int.ofNat_inj, takeMap, dErr]

set_option maxHeartbeats 1000000 in
theorem part_range (G : Glob) (t : Tab) (a b : Int) (ok : Ok t) (h : a < 0 ∨ (t.n : Int) ≤ a ∨ b < 0 ∨ (t.n : Int) ≤ b) : PureC Tryd.prog G 25 [dTab t, dNum a, dNum b] (.tup [.sl (some false) [], dErr (some (2, none))]) := by
  have hch : checkF t = none := ok_iff.2 ok
  unfold Tab.n at h
  refine PureC.of_body (tyOf_good _) Tryd.func25 rfl rfl (rs := [.tmp 6, .tmp 7]) Tryd.results25 (by simp [Tryd.ntmps25]) fun X => ?_
  simp only [Tryd.ntmps25, List.map]
  refine AW_rg (tyOf_good _) (fun _ => trivial) [3, 4, 5] [3, 4, 5] fun K' hK' => ?_
  repeat (refine sxf_next fun K2 hK2 => ?_; simp [Int.ofNat_inj, und, undef, upd_lst, hup_hlst, killE_lst, killH_hlst, trE_lst, hno_hlst, St.freeze, aeval, cst, cstD, upd, lst, hlst, List.lookup, int, Av.bool, loadA, mkAgg, mkTup, allD, hup, hno, tgt, args, killE, killH, AV.kill, AV.kill.go, Row.kill, trE, trH, AV.tr, AV.tr.go, Row.tr, frzO, frzF, not1, bneD, beqD, dTab, dNum]; (repeat (refine ⟨by omega, ?_⟩)); refine hK2 _ ?_; clear hK2 K2)
  first | refine sxf_nil (hK' _ ?_) | (refine sxf_next fun K2 hK2 => ?_; clear hK2 hK'; simp [Int.ofNat_inj, und, undef, upd_lst, hup_hlst, killE_lst, killH_hlst, trE_lst, hno_hlst, St.freeze, aeval, cst, cstD, upd, lst, hlst, List.lookup, int, Av.bool, loadA, mkAgg, mkTup, allD, hup, hno, tgt, args, killE, killH, AV.kill, AV.kill.go, Row.kill, trE, trH, AV.tr, AV.tr.go, Row.tr, frzO, frzF, not1, bneD, beqD, dTab, dNum]; fail "STUCK")
  refine AW.st (by simp [St.norm, liveL, liveR, trE, trH, onlyO, onlyF, AV.tr, AV.tr.go, Row.tr, mkAgg, mkTup, mkIfc, mkFn, allD, upd, lst, hlst, hup, hno, List.lookup, args, killE, killH, AV.kill, AV.kill.go, Row.kill, frzO, frzF, not1, int, Av.bool, cst, cstD, dTab, dNum]; rfl) ?_
  clear hK' K'
  refine AW_then fun K1 hK1 => ?_
  refine AW_rg (tyOf_good _) (fun _ => trivial) [3, 4, 5, 8] [3, 4, 5] fun K' hK' => ?_
  repeat (refine sxf_next fun K2 hK2 => ?_; simp [Int.ofNat_inj, und, undef, upd_lst, hup_hlst, killE_lst, killH_hlst, trE_lst, hno_hlst, St.freeze, aeval, cst, cstD, upd, lst, hlst, List.lookup, int, Av.bool, loadA, mkAgg, mkTup, allD, hup, hno, tgt, args, killE, killH, AV.kill, AV.kill.go, Row.kill, trE, trH, AV.tr, AV.tr.go, Row.tr, frzO, frzF, not1, bneD, beqD]; (repeat (refine ⟨by omega, ?_⟩)); refine hK2 _ ?_; clear hK2 K2)
  refine sxf_next fun K2 hK2 => ?_
  simp [Int.ofNat_inj, und, undef, upd_lst, hup_hlst, killE_lst, killH_hlst, trE_lst, hno_hlst, St.freeze, aeval, cst, cstD, upd, lst, hlst, List.lookup, int, Av.bool, loadA, mkAgg, mkTup, allD, hup, hno, tgt, args, killE, killH, AV.kill, AV.kill.go, Row.kill, trE, trH, AV.tr, AV.tr.go, Row.tr, frzO, frzF, not1, bneD, beqD]
  refine callK.data (check_spec G t) (by simp [allD, allD_map, asDs_map, asDs, asD, hup, hno, hlst, List.lookup, D.scalar, tgt, aeval, evalL, lst, upd, putd, int, Av.bool, cst, cstD]; rfl) (by first | exact D.leGo_refl _ | simp [takeMap, List.map_map, Function.comp_def, D.le, D.le.go, D.le_refl, D.leGo_refl]) ?_
  refine hK2 _ ?_
  clear hK2 K2
  simp only [putd, upd_lst]
  repeat (refine sxf_next fun K2 hK2 => ?_; simp [Int.ofNat_inj, und, undef, upd_lst, hup_hlst, killE_lst, killH_hlst, trE_lst, hno_hlst, St.freeze, aeval, cst, cstD, upd, lst, hlst, List.lookup, int, Av.bool, loadA, mkAgg, mkTup, allD, hup, hno, tgt, args, killE, killH, AV.kill, AV.kill.go, Row.kill, trE, trH, AV.tr, AV.tr.go, Row.tr, frzO, frzF, not1, bneD, beqD]; (repeat (refine ⟨by omega, ?_⟩)); refine hK2 _ ?_; clear hK2 K2)
  first | refine sxf_nil (hK' _ ?_) | (refine sxf_next fun K2 hK2 => ?_; clear hK2 hK'; simp [Int.ofNat_inj, und, undef, upd_lst, hup_hlst, killE_lst, killH_hlst, trE_lst, hno_hlst, St.freeze, aeval, cst, cstD, upd, lst, hlst, List.lookup, int, Av.bool, loadA, mkAgg, mkTup, allD, hup, hno, tgt, args, killE, killH, AV.kill, AV.kill.go, Row.kill, trE, trH, AV.tr, AV.tr.go, Row.tr, frzO, frzF, not1, bneD, beqD]; fail "STUCK")
  refine AW.st (by simp [St.norm, liveL, liveR, trE, trH, onlyO, onlyF, AV.tr, AV.tr.go, Row.tr, mkAgg, mkTup, mkIfc, mkFn, allD, upd, lst, hlst, hup, hno, List.lookup, args, killE, killH, AV.kill, AV.kill.go, Row.kill, frzO, frzF, not1, int, Av.bool, cst, cstD]; rfl) ?_
  clear hK' K'
  rw [hch]
  refine AW_rg (tyOf_good _) (fun _ => trivial) [3, 4, 5, 8, 18] [3, 4, 5] fun K' hK' => ?_
  repeat (refine sxf_next fun K2 hK2 => ?_; simp [Int.ofNat_inj, und, undef, upd_lst, hup_hlst, killE_lst, killH_hlst, trE_lst, hno_hlst, St.freeze, aeval, cst, cstD, upd, lst, hlst, List.lookup, int, Av.bool, loadA, mkAgg, mkTup, allD, hup, hno, tgt, args, killE, killH, AV.kill, AV.kill.go, Row.kill, trE, trH, AV.tr, AV.tr.go, Row.tr, frzO, frzF, not1, bneD, beqD, dErr]; (repeat (refine ⟨by omega, ?_⟩)); refine hK2 _ ?_; clear hK2 K2)
  first | refine sxf_nil (hK' _ ?_) | (refine sxf_next fun K2 hK2 => ?_; clear hK2 hK'; simp [Int.ofNat_inj, und, undef, upd_lst, hup_hlst, killE_lst, killH_hlst, trE_lst, hno_hlst, St.freeze, aeval, cst, cstD, upd, lst, hlst, List.lookup, int, Av.bool, loadA, mkAgg, mkTup, allD, hup, hno, tgt, args, killE, killH, AV.kill, AV.kill.go, Row.kill, trE, trH, AV.tr, AV.tr.go, Row.tr, frzO, frzF, not1, bneD, beqD, dErr]; fail "STUCK")
  refine AW.st (by simp [St.norm, liveL, liveR, trE, trH, onlyO, onlyF, AV.tr, AV.tr.go, Row.tr, mkAgg, mkTup, mkIfc, mkFn, allD, upd, lst, hlst, hup, hno, List.lookup, args, killE, killH, AV.kill, AV.kill.go, Row.kill, frzO, frzF, not1, int, Av.bool, cst, cstD, dErr]; rfl) ?_
  clear hK' K'
  refine AW_cond false rfl (fun h => by cases h) (fun _ => ?_)
  refine AW_skip (hK1 _ ?_)
  refine AW_then fun K2 hK2 => ?_
  by_cases h1 : a < 0
  · refine AW_rg (tyOf_good _) (fun _ => trivial) [3, 4, 5, 39] [3, 4, 5] fun K' hK' => ?_
    repeat (refine sxf_next fun K2 hK2 => ?_; simp [Int.ofNat_inj, und, undef, upd_lst, hup_hlst, killE_lst, killH_hlst, trE_lst, hno_hlst, St.freeze, aeval, cst, cstD, upd, lst, hlst, List.lookup, int, Av.bool, loadA, mkAgg, mkTup, allD, hup, hno, tgt, args, killE, killH, AV.kill, AV.kill.go, Row.kill, trE, trH, AV.tr, AV.tr.go, Row.tr, frzO, frzF, not1, bneD, beqD, h1, dRows]; (repeat (refine ⟨by omega, ?_⟩)); refine hK2 _ ?_; clear hK2 K2)
    first | refine sxf_nil (hK' _ ?_) | (refine sxf_next fun K2 hK2 => ?_; clear hK2 hK'; simp [Int.ofNat_inj, und, undef, upd_lst, hup_hlst, killE_lst, killH_hlst, trE_lst, hno_hlst, St.freeze, aeval, cst, cstD, upd, lst, hlst, List.lookup, int, Av.bool, loadA, mkAgg, mkTup, allD, hup, hno, tgt, args, killE, killH, AV.kill, AV.kill.go, Row.kill, trE, trH, AV.tr, AV.tr.go, Row.tr, frzO, frzF, not1, bneD, beqD, h1, dRows]; fail "STUCK")
    refine AW.st (by simp [St.norm, liveL, liveR, trE, trH, onlyO, onlyF, AV.tr, AV.tr.go, Row.tr, mkAgg, mkTup, mkIfc, mkFn, allD, upd, lst, hlst, hup, hno, List.lookup, args, killE, killH, AV.kill, AV.kill.go, Row.kill, frzO, frzF, not1, int, Av.bool, cst, cstD, h1, dRows]; rfl) ?_
    clear hK' K'
    refine AW_cond true rfl (fun _ => ?_) (fun h => by cases h)
    refine AW_rg (tyOf_good _) (fun _ => trivial) [6, 7] [3, 4, 5] fun K' hK' => ?_
    repeat (refine sxf_next fun K2 hK2 => ?_; simp [Int.ofNat_inj, und, undef, upd_lst, hup_hlst, killE_lst, killH_hlst, trE_lst, hno_hlst, St.freeze, aeval, cst, cstD, upd, lst, hlst, List.lookup, int, Av.bool, loadA, mkAgg, mkTup, allD, hup, hno, tgt, args, killE, killH, AV.kill, AV.kill.go, Row.kill, trE, trH, AV.tr, AV.tr.go, Row.tr, frzO, frzF, not1, bneD, beqD]; (repeat (refine ⟨by omega, ?_⟩)); refine hK2 _ ?_; clear hK2 K2)
    first | refine sxf_nil (hK' _ ?_) | (refine sxf_next fun K2 hK2 => ?_; clear hK2 hK'; simp [Int.ofNat_inj, und, undef, upd_lst, hup_hlst, killE_lst, killH_hlst, trE_lst, hno_hlst, St.freeze, aeval, cst, cstD, upd, lst, hlst, List.lookup, int, Av.bool, loadA, mkAgg, mkTup, allD, hup, hno, tgt, args, killE, killH, AV.kill, AV.kill.go, Row.kill, trE, trH, AV.tr, AV.tr.go, Row.tr, frzO, frzF, not1, bneD, beqD]; fail "STUCK")
    refine AW.st (by simp [St.norm, liveL, liveR, trE, trH, onlyO, onlyF, AV.tr, AV.tr.go, Row.tr, mkAgg, mkTup, mkIfc, mkFn, allD, upd, lst, hlst, hup, hno, List.lookup, args, killE, killH, AV.kill, AV.kill.go, Row.kill, frzO, frzF, not1, int, Av.bool, cst, cstD]; rfl) ?_
    clear hK' K'
    refine AW_ret ?_
    simp [thn, inb, atEnd, atEndD, endD, resAll, resOne, oneOf, mkTup, allD, loadA, asVal, asValD, asD, asDs, D.le, D.le.go, liveL, upd, lst, hlst, hup, hno, List.lookup, args, aeval, cst, cstD, int, Av.bool, TypeDesc.isAgg, mkAgg, bneD, beqD, Int.ofNat_inj, takeMap, dErr]
  by_cases h2 : (t.next.length : Int) ≤ a
  · refine AW_rg (tyOf_good _) (fun _ => trivial) [3, 4, 5, 39] [3, 4, 5] fun K' hK' => ?_
    repeat (refine sxf_next fun K2 hK2 => ?_; simp [Int.ofNat_inj, und, undef, upd_lst, hup_hlst, killE_lst, killH_hlst, trE_lst, hno_hlst, St.freeze, aeval, cst, cstD, upd, lst, hlst, List.lookup, int, Av.bool, loadA, mkAgg, mkTup, allD, hup, hno, tgt, args, killE, killH, AV.kill, AV.kill.go, Row.kill, trE, trH, AV.tr, AV.tr.go, Row.tr, frzO, frzF, not1, bneD, beqD, h1, h2, dRows]; (repeat (refine ⟨by omega, ?_⟩)); refine hK2 _ ?_; clear hK2 K2)
    first | refine sxf_nil (hK' _ ?_) | (refine sxf_next fun K2 hK2 => ?_; clear hK2 hK'; simp [Int.ofNat_inj, und, undef, upd_lst, hup_hlst, killE_lst, killH_hlst, trE_lst, hno_hlst, St.freeze, aeval, cst, cstD, upd, lst, hlst, List.lookup, int, Av.bool, loadA, mkAgg, mkTup, allD, hup, hno, tgt, args, killE, killH, AV.kill, AV.kill.go, Row.kill, trE, trH, AV.tr, AV.tr.go, Row.tr, frzO, frzF, not1, bneD, beqD, h1, h2, dRows]; fail "STUCK")
    refine AW.st (by simp [St.norm, liveL, liveR, trE, trH, onlyO, onlyF, AV.tr, AV.tr.go, Row.tr, mkAgg, mkTup, mkIfc, mkFn, allD, upd, lst, hlst, hup, hno, List.lookup, args, killE, killH, AV.kill, AV.kill.go, Row.kill, frzO, frzF, not1, int, Av.bool, cst, cstD, h1, h2, dRows]; rfl) ?_
    clear hK' K'
    refine AW_cond true rfl (fun _ => ?_) (fun h => by cases h)
    refine AW_rg (tyOf_good _) (fun _ => trivial) [6, 7] [3, 4, 5] fun K' hK' => ?_
    repeat (refine sxf_next fun K2 hK2 => ?_; simp [Int.ofNat_inj, und, undef, upd_lst, hup_hlst, killE_lst, killH_hlst, trE_lst, hno_hlst, St.freeze, aeval, cst, cstD, upd, lst, hlst, List.lookup, int, Av.bool, loadA, mkAgg, mkTup, allD, hup, hno, tgt, args, killE, killH, AV.kill, AV.kill.go, Row.kill, trE, trH, AV.tr, AV.tr.go, Row.tr, frzO, frzF, not1, bneD, beqD]; (repeat (refine ⟨by omega, ?_⟩)); refine hK2 _ ?_; clear hK2 K2)
    first | refine sxf_nil (hK' _ ?_) | (refine sxf_next fun K2 hK2 => ?_; clear hK2 hK'; simp [Int.ofNat_inj, und, undef, upd_lst, hup_hlst, killE_lst, killH_hlst, trE_lst, hno_hlst, St.freeze, aeval, cst, cstD, upd, lst, hlst, List.lookup, int, Av.bool, loadA, mkAgg, mkTup, allD, hup, hno, tgt, args, killE, killH, AV.kill, AV.kill.go, Row.kill, trE, trH, AV.tr, AV.tr.go, Row.tr, frzO, frzF, not1, bneD, beqD]; fail "STUCK")
    refine AW.st (by simp [St.norm, liveL, liveR, trE, trH, onlyO, onlyF, AV.tr, AV.tr.go, Row.tr, mkAgg, mkTup, mkIfc, mkFn, allD, upd, lst, hlst, hup, hno, List.lookup, args, killE, killH, AV.kill, AV.kill.go, Row.kill, frzO, frzF, not1, int, Av.bool, cst, cstD]; rfl) ?_
    clear hK' K'
    refine AW_ret ?_
    simp [thn, inb, atEnd, atEndD, endD, resAll, resOne, oneOf, mkTup, allD, loadA, asVal, asValD, asD, asDs, D.le, D.le.go, liveL, upd, lst, hlst, hup, hno, List.lookup, args, aeval, cst, cstD, int, Av.bool, TypeDesc.isAgg, mkAgg, bneD, beqD, Int.ofNat_inj, takeMap, dErr]
  by_cases h3 : b < 0
  · refine AW_rg (tyOf_good _) (fun _ => trivial) [3, 4, 5, 39] [3, 4, 5] fun K' hK' => ?_
    repeat (refine sxf_next fun K2 hK2 => ?_; simp [Int.ofNat_inj, und, undef, upd_lst, hup_hlst, killE_lst, killH_hlst, trE_lst, hno_hlst, St.freeze, aeval, cst, cstD, upd, lst, hlst, List.lookup, int, Av.bool, loadA, mkAgg, mkTup, allD, hup, hno, tgt, args, killE, killH, AV.kill, AV.kill.go, Row.kill, trE, trH, AV.tr, AV.tr.go, Row.tr, frzO, frzF, not1, bneD, beqD, h1, h2, h3, dRows]; (repeat (refine ⟨by omega, ?_⟩)); refine hK2 _ ?_; clear hK2 K2)
    first | refine sxf_nil (hK' _ ?_) | (refine sxf_next fun K2 hK2 => ?_; clear hK2 hK'; simp [Int.ofNat_inj, und, undef, upd_lst, hup_hlst, killE_lst, killH_hlst, trE_lst, hno_hlst, St.freeze, aeval, cst, cstD, upd, lst, hlst, List.lookup, int, Av.bool, loadA, mkAgg, mkTup, allD, hup, hno, tgt, args, killE, killH, AV.kill, AV.kill.go, Row.kill, trE, trH, AV.tr, AV.tr.go, Row.tr, frzO, frzF, not1, bneD, beqD, h1, h2, h3, dRows]; fail "STUCK")
    refine AW.st (by simp [St.norm, liveL, liveR, trE, trH, onlyO, onlyF, AV.tr, AV.tr.go, Row.tr, mkAgg, mkTup, mkIfc, mkFn, allD, upd, lst, hlst, hup, hno, List.lookup, args, killE, killH, AV.kill, AV.kill.go, Row.kill, frzO, frzF, not1, int, Av.bool, cst, cstD, h1, h2, h3, dRows]; rfl) ?_
    clear hK' K'
    refine AW_cond true rfl (fun _ => ?_) (fun h => by cases h)
    refine AW_rg (tyOf_good _) (fun _ => trivial) [6, 7] [3, 4, 5] fun K' hK' => ?_
    repeat (refine sxf_next fun K2 hK2 => ?_; simp [Int.ofNat_inj, und, undef, upd_lst, hup_hlst, killE_lst, killH_hlst, trE_lst, hno_hlst, St.freeze, aeval, cst, cstD, upd, lst, hlst, List.lookup, int, Av.bool, loadA, mkAgg, mkTup, allD, hup, hno, tgt, args, killE, killH, AV.kill, AV.kill.go, Row.kill, trE, trH, AV.tr, AV.tr.go, Row.tr, frzO, frzF, not1, bneD, beqD]; (repeat (refine ⟨by omega, ?_⟩)); refine hK2 _ ?_; clear hK2 K2)
    first | refine sxf_nil (hK' _ ?_) | (refine sxf_next fun K2 hK2 => ?_; clear hK2 hK'; simp [Int.ofNat_inj, und, undef, upd_lst, hup_hlst, killE_lst, killH_hlst, trE_lst, hno_hlst, St.freeze, aeval, cst, cstD, upd, lst, hlst, List.lookup, int, Av.bool, loadA, mkAgg, mkTup, allD, hup, hno, tgt, args, killE, killH, AV.kill, AV.kill.go, Row.kill, trE, trH, AV.tr, AV.tr.go, Row.tr, frzO, frzF, not1, bneD, beqD]; fail "STUCK")
    refine AW.st (by simp [St.norm, liveL, liveR, trE, trH, onlyO, onlyF, AV.tr, AV.tr.go, Row.tr, mkAgg, mkTup, mkIfc, mkFn, allD, upd, lst, hlst, hup, hno, List.lookup, args, killE, killH, AV.kill, AV.kill.go, Row.kill, frzO, frzF, not1, int, Av.bool, cst, cstD]; rfl) ?_
    clear hK' K'
    refine AW_ret ?_
    simp [thn, inb, atEnd, atEndD, endD, resAll, resOne, oneOf, mkTup, allD, loadA, asVal, asValD, asD, asDs, D.le, D.le.go, liveL, upd, lst, hlst, hup, hno, List.lookup, args, aeval, cst, cstD, int, Av.bool, TypeDesc.isAgg, mkAgg, bneD, beqD, Int.ofNat_inj, takeMap, dErr]
  have h4 : (t.next.length : Int) ≤ b := by omega
  refine AW_rg (tyOf_good _) (fun _ => trivial) [3, 4, 5, 39] [3, 4, 5] fun K' hK' => ?_
  repeat (refine sxf_next fun K2 hK2 => ?_; simp [Int.ofNat_inj, und, undef, upd_lst, hup_hlst, killE_lst, killH_hlst, trE_lst, hno_hlst, St.freeze, aeval, cst, cstD, upd, lst, hlst, List.lookup, int, Av.bool, loadA, mkAgg, mkTup, allD, hup, hno, tgt, args, killE, killH, AV.kill, AV.kill.go, Row.kill, trE, trH, AV.tr, AV.tr.go, Row.tr, frzO, frzF, not1, bneD, beqD, h1, h2, h3, h4, dRows]; (repeat (refine ⟨by omega, ?_⟩)); refine hK2 _ ?_; clear hK2 K2)
  first | refine sxf_nil (hK' _ ?_) | (refine sxf_next fun K2 hK2 => ?_; clear hK2 hK'; simp [Int.ofNat_inj, und, undef, upd_lst, hup_hlst, killE_lst, killH_hlst, trE_lst, hno_hlst, St.freeze, aeval, cst, cstD, upd, lst, hlst, List.lookup, int, Av.bool, loadA, mkAgg, mkTup, allD, hup, hno, tgt, args, killE, killH, AV.kill, AV.kill.go, Row.kill, trE, trH, AV.tr, AV.tr.go, Row.tr, frzO, frzF, not1, bneD, beqD, h1, h2, h3, h4, dRows]; fail "STUCK")
  refine AW.st (by simp [St.norm, liveL, liveR, trE, trH, onlyO, onlyF, AV.tr, AV.tr.go, Row.tr, mkAgg, mkTup, mkIfc, mkFn, allD, upd, lst, hlst, hup, hno, List.lookup, args, killE, killH, AV.kill, AV.kill.go, Row.kill, frzO, frzF, not1, int, Av.bool, cst, cstD, h1, h2, h3, h4, dRows]; rfl) ?_
  clear hK' K'
  refine AW_cond true rfl (fun _ => ?_) (fun h => by cases h)
  refine AW_rg (tyOf_good _) (fun _ => trivial) [6, 7] [3, 4, 5] fun K' hK' => ?_
  repeat (refine sxf_next fun K2 hK2 => ?_; simp [Int.ofNat_inj, und, undef, upd_lst, hup_hlst, killE_lst, killH_hlst, trE_lst, hno_hlst, St.freeze, aeval, cst, cstD, upd, lst, hlst, List.lookup, int, Av.bool, loadA, mkAgg, mkTup, allD, hup, hno, tgt, args, killE, killH, AV.kill, AV.kill.go, Row.kill, trE, trH, AV.tr, AV.tr.go, Row.tr, frzO, frzF, not1, bneD, beqD]; (repeat (refine ⟨by omega, ?_⟩)); refine hK2 _ ?_; clear hK2 K2)
  first | refine sxf_nil (hK' _ ?_) | (refine sxf_next fun K2 hK2 => ?_; clear hK2 hK'; simp [Int.ofNat_inj, und, undef, upd_lst, hup_hlst, killE_lst, killH_hlst, trE_lst, hno_hlst, St.freeze, aeval, cst, cstD, upd, lst, hlst, List.lookup, int, Av.bool, loadA, mkAgg, mkTup, allD, hup, hno, tgt, args, killE, killH, AV.kill, AV.kill.go, Row.kill, trE, trH, AV.tr, AV.tr.go, Row.tr, frzO, frzF, not1, bneD, beqD]; fail "STUCK")
  refine AW.st (by simp [St.norm, liveL, liveR, trE, trH, onlyO, onlyF, AV.tr, AV.tr.go, Row.tr, mkAgg, mkTup, mkIfc, mkFn, allD, upd, lst, hlst, hup, hno, List.lookup, args, killE, killH, AV.kill, AV.kill.go, Row.kill, frzO, frzF, not1, int, Av.bool, cst, cstD]; rfl) ?_
  clear hK' K'
  refine AW_ret ?_
  simp [thn, inb, atEnd, atEndD, endD, resAll, resOne, oneOf, mkTup, allD, loadA, asVal, asValD, asD, asDs, D.le, D.le.go, liveL, upd, lst, hlst, hup, hno, List.lookup, args, aeval, cst, cstD, int, Av.bool, TypeDesc.isAgg, mkAgg, bneD, beqD, Int.ofNat_inj, takeMap, dErr]
#print axioms part_bad
#print axioms part_range
end Go.Proofs.YtoikggboakojlaaDoor
