/-
  Which tables may be.
-/
import Derived.Test.YtoikggboakojlaaDoorF5
namespace Go.Proofs.YtoikggboakojlaaDoor
open Go.Av
set_option linter.unusedSimpArgs false
set_option linter.unusedVariables false
attribute [local simp] avOf offAll offOps kindOf Op.operands Call.operands okDst wantedS gval isCall isWr lenA descIs TypeDesc.isSlice TypeDesc.isStr binA isSh binI fit64 indexA elemSz asValD asVal TypeDesc.isAgg fieldAddrA fieldOf fieldA valCells AV.one D.one zeroD catD newsOf unA eqv nilBin constOf nilFits nilA extractA makeIfaceA indexStrA sliceA bound storeBox storeSl TypeDesc.isBool TypeDesc.isIface nilCheckA convA Value.oneCell' buildA placesA fillA makeEls exK preF freezeL AV.rows AV.rows.go plainS plainL appK appOps fromRow stepF stepD stepL rd wr evalL evalP putd mkFn mkIfc

/-- Whether an error is told, which one, and where. -/
def dErr : Option (Int × Option Nat) → D
  | none => .v .nilIface
  | some (c, none) => .ifc 27 (.v (.int .i64 c))
  | some (c, some s) => .ifc 109 (.ip [.v (.int .i64 c), .v (.int .i64 s)])

def rowF (t : Tab) (s : Nat) : Option Int :=
  if (t.next.getD s []).length ≠ (t.next.getD 0 []).length ∨ (t.tells.getD s []).length ≠ (t.next.getD 0 []).length then some 3
  else if (t.next.getD s []).any fun x => decide (x < 0) || decide ((t.next.length : Int) ≤ x) then some 2 else none
def rowsF (t : Tab) : Nat → Nat → Option (Int × Option Nat)
  | _, 0 => none
  | s, n + 1 => match rowF t s with
    | some c => some (c, some s)
    | none => rowsF t (s + 1) n
def checkF (t : Tab) : Option (Int × Option Nat) :=
  if t.next.length < 1 ∨ 500 < t.next.length ∨ 64 < (t.next.getD 0 []).length then some (4, none)
  else if t.tells.length ≠ t.next.length then some (3, none)
  else rowsF t 0 t.next.length

set_option maxHeartbeats 4000000 in
theorem check_spec (G : Glob) (t : Tab) : PureC Tryd.prog G 20 [dTab t] (dErr (checkF t)) := by
  obtain ⟨next, tells⟩ := t
  have hr2 : checkF ⟨next, tells⟩ = (if (next.length < 1 ∨ 500 < next.length ∨ 64 < (next.getD 0 []).length) then some (4, none)
      else if tells.length ≠ next.length then some (3, none) else rowsF ⟨next, tells⟩ 0 next.length) := rfl
  generalize hres : checkF ⟨next, tells⟩ = res
  rw [hr2] at hres
  refine PureC.of_body (tyOf_good _) Tryd.func20 rfl rfl (rs := [.tmp 2]) Tryd.results20 (by simp [Tryd.ntmps20]) fun X => ?_
  simp only [Tryd.ntmps20, List.map]
  refine AW_rg (tyOf_good _) (fun _ => trivial) [1] [1] fun K' hK' => ?_
  repeat (refine sxf_next fun K2 hK2 => ?_; simp [Int.ofNat_inj, und, undef, upd_lst, hup_hlst, killE_lst, killH_hlst, trE_lst, hno_hlst, St.freeze, aeval, cst, cstD, upd, lst, hlst, List.lookup, int, Av.bool, loadA, mkAgg, mkTup, allD, hup, hno, tgt, args, killE, killH, AV.kill, AV.kill.go, Row.kill, trE, trH, AV.tr, AV.tr.go, Row.tr, frzO, frzF, not1, bneD, beqD, dTab]; (repeat (refine ⟨by omega, ?_⟩)); refine hK2 _ ?_; clear hK2 K2)
  first | refine sxf_nil (hK' _ ?_) | (refine sxf_next fun K2 hK2 => ?_; clear hK2 hK'; simp [Int.ofNat_inj, und, undef, upd_lst, hup_hlst, killE_lst, killH_hlst, trE_lst, hno_hlst, St.freeze, aeval, cst, cstD, upd, lst, hlst, List.lookup, int, Av.bool, loadA, mkAgg, mkTup, allD, hup, hno, tgt, args, killE, killH, AV.kill, AV.kill.go, Row.kill, trE, trH, AV.tr, AV.tr.go, Row.tr, frzO, frzF, not1, bneD, beqD, dTab]; fail "STUCK")
  refine AW.st (by simp [St.norm, liveL, liveR, trE, trH, onlyO, onlyF, AV.tr, AV.tr.go, Row.tr, mkAgg, mkTup, mkIfc, mkFn, allD, upd, lst, hlst, hup, hno, List.lookup, args, killE, killH, AV.kill, AV.kill.go, Row.kill, frzO, frzF, not1, int, Av.bool, cst, cstD, dTab]; rfl) ?_
  clear hK' K'
  refine AW_rg (tyOf_good _) (fun _ => trivial) [1, 3] [1, 3] fun K' hK' => ?_
  repeat (refine sxf_next fun K2 hK2 => ?_; simp [Int.ofNat_inj, und, undef, upd_lst, hup_hlst, killE_lst, killH_hlst, trE_lst, hno_hlst, St.freeze, aeval, cst, cstD, upd, lst, hlst, List.lookup, int, Av.bool, loadA, mkAgg, mkTup, allD, hup, hno, tgt, args, killE, killH, AV.kill, AV.kill.go, Row.kill, trE, trH, AV.tr, AV.tr.go, Row.tr, frzO, frzF, not1, bneD, beqD, dRows]; (repeat (refine ⟨by omega, ?_⟩)); refine hK2 _ ?_; clear hK2 K2)
  first | refine sxf_nil (hK' _ ?_) | (refine sxf_next fun K2 hK2 => ?_; clear hK2 hK'; simp [Int.ofNat_inj, und, undef, upd_lst, hup_hlst, killE_lst, killH_hlst, trE_lst, hno_hlst, St.freeze, aeval, cst, cstD, upd, lst, hlst, List.lookup, int, Av.bool, loadA, mkAgg, mkTup, allD, hup, hno, tgt, args, killE, killH, AV.kill, AV.kill.go, Row.kill, trE, trH, AV.tr, AV.tr.go, Row.tr, frzO, frzF, not1, bneD, beqD, dRows]; fail "STUCK")
  refine AW.st (by simp [St.norm, liveL, liveR, trE, trH, onlyO, onlyF, AV.tr, AV.tr.go, Row.tr, mkAgg, mkTup, mkIfc, mkFn, allD, upd, lst, hlst, hup, hno, List.lookup, args, killE, killH, AV.kill, AV.kill.go, Row.kill, frzO, frzF, not1, int, Av.bool, cst, cstD, dRows]; rfl) ?_
  clear hK' K'
  refine AW_then fun K1 hK1 => ?_
  by_cases h1 : (next.length : Int) < 1
  · rw [if_pos (.inl (by omega))] at hres
    refine AW_rg (tyOf_good _) (fun _ => trivial) [1, 3, 21] [1, 3] fun K' hK' => ?_
    repeat (refine sxf_next fun K2 hK2 => ?_; simp [Int.ofNat_inj, und, undef, upd_lst, hup_hlst, killE_lst, killH_hlst, trE_lst, hno_hlst, St.freeze, aeval, cst, cstD, upd, lst, hlst, List.lookup, int, Av.bool, loadA, mkAgg, mkTup, allD, hup, hno, tgt, args, killE, killH, AV.kill, AV.kill.go, Row.kill, trE, trH, AV.tr, AV.tr.go, Row.tr, frzO, frzF, not1, bneD, beqD, h1]; (repeat (refine ⟨by omega, ?_⟩)); refine hK2 _ ?_; clear hK2 K2)
    first | refine sxf_nil (hK' _ ?_) | (refine sxf_next fun K2 hK2 => ?_; clear hK2 hK'; simp [Int.ofNat_inj, und, undef, upd_lst, hup_hlst, killE_lst, killH_hlst, trE_lst, hno_hlst, St.freeze, aeval, cst, cstD, upd, lst, hlst, List.lookup, int, Av.bool, loadA, mkAgg, mkTup, allD, hup, hno, tgt, args, killE, killH, AV.kill, AV.kill.go, Row.kill, trE, trH, AV.tr, AV.tr.go, Row.tr, frzO, frzF, not1, bneD, beqD, h1]; fail "STUCK")
    refine AW.st (by simp [St.norm, liveL, liveR, trE, trH, onlyO, onlyF, AV.tr, AV.tr.go, Row.tr, mkAgg, mkTup, mkIfc, mkFn, allD, upd, lst, hlst, hup, hno, List.lookup, args, killE, killH, AV.kill, AV.kill.go, Row.kill, frzO, frzF, not1, int, Av.bool, cst, cstD, h1]; rfl) ?_
    clear hK' K'
    refine AW_cond true rfl (fun _ => ?_) (fun h => by cases h)
    refine AW_rg (tyOf_good _) (fun _ => trivial) [2] [] fun K' hK' => ?_
    repeat (refine sxf_next fun K2 hK2 => ?_; simp [Int.ofNat_inj, und, undef, upd_lst, hup_hlst, killE_lst, killH_hlst, trE_lst, hno_hlst, St.freeze, aeval, cst, cstD, upd, lst, hlst, List.lookup, int, Av.bool, loadA, mkAgg, mkTup, allD, hup, hno, tgt, args, killE, killH, AV.kill, AV.kill.go, Row.kill, trE, trH, AV.tr, AV.tr.go, Row.tr, frzO, frzF, not1, bneD, beqD]; (repeat (refine ⟨by omega, ?_⟩)); refine hK2 _ ?_; clear hK2 K2)
    first | refine sxf_nil (hK' _ ?_) | (refine sxf_next fun K2 hK2 => ?_; clear hK2 hK'; simp [Int.ofNat_inj, und, undef, upd_lst, hup_hlst, killE_lst, killH_hlst, trE_lst, hno_hlst, St.freeze, aeval, cst, cstD, upd, lst, hlst, List.lookup, int, Av.bool, loadA, mkAgg, mkTup, allD, hup, hno, tgt, args, killE, killH, AV.kill, AV.kill.go, Row.kill, trE, trH, AV.tr, AV.tr.go, Row.tr, frzO, frzF, not1, bneD, beqD]; fail "STUCK")
    refine AW.st (by simp [St.norm, liveL, liveR, trE, trH, onlyO, onlyF, AV.tr, AV.tr.go, Row.tr, mkAgg, mkTup, mkIfc, mkFn, allD, upd, lst, hlst, hup, hno, List.lookup, args, killE, killH, AV.kill, AV.kill.go, Row.kill, frzO, frzF, not1, int, Av.bool, cst, cstD]; rfl) ?_
    clear hK' K'
    refine AW_ret ?_
    simp [thn, inb, atEnd, atEndD, endD, resAll, resOne, oneOf, mkTup, allD, loadA, asVal, asValD, asD, asDs, D.le, D.le.go, liveL, upd, lst, hlst, hup, hno, List.lookup, args, aeval, cst, cstD, int, Av.bool, TypeDesc.isAgg, mkAgg, bneD, beqD, Int.ofNat_inj, takeMap]
    simp [← hres, dErr, D.le]
  by_cases h2 : 500 < (next.length : Int)
  · rw [if_pos (.inr (.inl (by omega)))] at hres
    refine AW_rg (tyOf_good _) (fun _ => trivial) [1, 3, 21] [1, 3] fun K' hK' => ?_
    repeat (refine sxf_next fun K2 hK2 => ?_; simp [Int.ofNat_inj, und, undef, upd_lst, hup_hlst, killE_lst, killH_hlst, trE_lst, hno_hlst, St.freeze, aeval, cst, cstD, upd, lst, hlst, List.lookup, int, Av.bool, loadA, mkAgg, mkTup, allD, hup, hno, tgt, args, killE, killH, AV.kill, AV.kill.go, Row.kill, trE, trH, AV.tr, AV.tr.go, Row.tr, frzO, frzF, not1, bneD, beqD, h1, h2]; (repeat (refine ⟨by omega, ?_⟩)); refine hK2 _ ?_; clear hK2 K2)
    first | refine sxf_nil (hK' _ ?_) | (refine sxf_next fun K2 hK2 => ?_; clear hK2 hK'; simp [Int.ofNat_inj, und, undef, upd_lst, hup_hlst, killE_lst, killH_hlst, trE_lst, hno_hlst, St.freeze, aeval, cst, cstD, upd, lst, hlst, List.lookup, int, Av.bool, loadA, mkAgg, mkTup, allD, hup, hno, tgt, args, killE, killH, AV.kill, AV.kill.go, Row.kill, trE, trH, AV.tr, AV.tr.go, Row.tr, frzO, frzF, not1, bneD, beqD, h1, h2]; fail "STUCK")
    refine AW.st (by simp [St.norm, liveL, liveR, trE, trH, onlyO, onlyF, AV.tr, AV.tr.go, Row.tr, mkAgg, mkTup, mkIfc, mkFn, allD, upd, lst, hlst, hup, hno, List.lookup, args, killE, killH, AV.kill, AV.kill.go, Row.kill, frzO, frzF, not1, int, Av.bool, cst, cstD, h1, h2]; rfl) ?_
    clear hK' K'
    refine AW_cond true rfl (fun _ => ?_) (fun h => by cases h)
    refine AW_rg (tyOf_good _) (fun _ => trivial) [2] [] fun K' hK' => ?_
    repeat (refine sxf_next fun K2 hK2 => ?_; simp [Int.ofNat_inj, und, undef, upd_lst, hup_hlst, killE_lst, killH_hlst, trE_lst, hno_hlst, St.freeze, aeval, cst, cstD, upd, lst, hlst, List.lookup, int, Av.bool, loadA, mkAgg, mkTup, allD, hup, hno, tgt, args, killE, killH, AV.kill, AV.kill.go, Row.kill, trE, trH, AV.tr, AV.tr.go, Row.tr, frzO, frzF, not1, bneD, beqD]; (repeat (refine ⟨by omega, ?_⟩)); refine hK2 _ ?_; clear hK2 K2)
    first | refine sxf_nil (hK' _ ?_) | (refine sxf_next fun K2 hK2 => ?_; clear hK2 hK'; simp [Int.ofNat_inj, und, undef, upd_lst, hup_hlst, killE_lst, killH_hlst, trE_lst, hno_hlst, St.freeze, aeval, cst, cstD, upd, lst, hlst, List.lookup, int, Av.bool, loadA, mkAgg, mkTup, allD, hup, hno, tgt, args, killE, killH, AV.kill, AV.kill.go, Row.kill, trE, trH, AV.tr, AV.tr.go, Row.tr, frzO, frzF, not1, bneD, beqD]; fail "STUCK")
    refine AW.st (by simp [St.norm, liveL, liveR, trE, trH, onlyO, onlyF, AV.tr, AV.tr.go, Row.tr, mkAgg, mkTup, mkIfc, mkFn, allD, upd, lst, hlst, hup, hno, List.lookup, args, killE, killH, AV.kill, AV.kill.go, Row.kill, frzO, frzF, not1, int, Av.bool, cst, cstD]; rfl) ?_
    clear hK' K'
    refine AW_ret ?_
    simp [thn, inb, atEnd, atEndD, endD, resAll, resOne, oneOf, mkTup, allD, loadA, asVal, asValD, asD, asDs, D.le, D.le.go, liveL, upd, lst, hlst, hup, hno, List.lookup, args, aeval, cst, cstD, int, Av.bool, TypeDesc.isAgg, mkAgg, bneD, beqD, Int.ofNat_inj, takeMap]
    simp [← hres, dErr, D.le]
  obtain ⟨r0, next', hnx⟩ : ∃ r0 next', next = r0 :: next' := by
    cases next with
    | nil => simp at h1
    | cons a b => exact ⟨a, b, rfl⟩
  have hg0 : next.getD 0 [] = r0 := by rw [hnx]; rfl
  have hgd : (next.map fun r => [dRow r]).getD 0 [] = [dRow r0] := by rw [hnx]; rfl
  have hpos : 0 < next.length := by omega
  simp only [hg0] at hres
  have hgq : next[0] = r0 := by subst hnx; rfl
  by_cases h3 : 64 < (r0.length : Int)
  · rw [if_pos (.inr (.inr (by omega)))] at hres
    refine AW_rg (tyOf_good _) (fun _ => trivial) [1, 3, 21] [1, 3] fun K' hK' => ?_
    repeat (refine sxf_next fun K2 hK2 => ?_; simp [Int.ofNat_inj, und, undef, upd_lst, hup_hlst, killE_lst, killH_hlst, trE_lst, hno_hlst, St.freeze, aeval, cst, cstD, upd, lst, hlst, List.lookup, int, Av.bool, loadA, mkAgg, mkTup, allD, hup, hno, tgt, args, killE, killH, AV.kill, AV.kill.go, Row.kill, trE, trH, AV.tr, AV.tr.go, Row.tr, frzO, frzF, not1, bneD, beqD, h1, h2, h3, hgd, hpos, hgq, dRow, dInts]; (repeat (refine ⟨by omega, ?_⟩)); refine hK2 _ ?_; clear hK2 K2)
    first | refine sxf_nil (hK' _ ?_) | (refine sxf_next fun K2 hK2 => ?_; clear hK2 hK'; simp [Int.ofNat_inj, und, undef, upd_lst, hup_hlst, killE_lst, killH_hlst, trE_lst, hno_hlst, St.freeze, aeval, cst, cstD, upd, lst, hlst, List.lookup, int, Av.bool, loadA, mkAgg, mkTup, allD, hup, hno, tgt, args, killE, killH, AV.kill, AV.kill.go, Row.kill, trE, trH, AV.tr, AV.tr.go, Row.tr, frzO, frzF, not1, bneD, beqD, h1, h2, h3, hgd, hpos, hgq, dRow, dInts]; fail "STUCK")
    refine AW.st (by simp [St.norm, liveL, liveR, trE, trH, onlyO, onlyF, AV.tr, AV.tr.go, Row.tr, mkAgg, mkTup, mkIfc, mkFn, allD, upd, lst, hlst, hup, hno, List.lookup, args, killE, killH, AV.kill, AV.kill.go, Row.kill, frzO, frzF, not1, int, Av.bool, cst, cstD, h1, h2, h3, hgd, hpos, hgq, dRow, dInts]; rfl) ?_
    clear hK' K'
    refine AW_cond true rfl (fun _ => ?_) (fun h => by cases h)
    refine AW_rg (tyOf_good _) (fun _ => trivial) [2] [] fun K' hK' => ?_
    repeat (refine sxf_next fun K2 hK2 => ?_; simp [Int.ofNat_inj, und, undef, upd_lst, hup_hlst, killE_lst, killH_hlst, trE_lst, hno_hlst, St.freeze, aeval, cst, cstD, upd, lst, hlst, List.lookup, int, Av.bool, loadA, mkAgg, mkTup, allD, hup, hno, tgt, args, killE, killH, AV.kill, AV.kill.go, Row.kill, trE, trH, AV.tr, AV.tr.go, Row.tr, frzO, frzF, not1, bneD, beqD]; (repeat (refine ⟨by omega, ?_⟩)); refine hK2 _ ?_; clear hK2 K2)
    first | refine sxf_nil (hK' _ ?_) | (refine sxf_next fun K2 hK2 => ?_; clear hK2 hK'; simp [Int.ofNat_inj, und, undef, upd_lst, hup_hlst, killE_lst, killH_hlst, trE_lst, hno_hlst, St.freeze, aeval, cst, cstD, upd, lst, hlst, List.lookup, int, Av.bool, loadA, mkAgg, mkTup, allD, hup, hno, tgt, args, killE, killH, AV.kill, AV.kill.go, Row.kill, trE, trH, AV.tr, AV.tr.go, Row.tr, frzO, frzF, not1, bneD, beqD]; fail "STUCK")
    refine AW.st (by simp [St.norm, liveL, liveR, trE, trH, onlyO, onlyF, AV.tr, AV.tr.go, Row.tr, mkAgg, mkTup, mkIfc, mkFn, allD, upd, lst, hlst, hup, hno, List.lookup, args, killE, killH, AV.kill, AV.kill.go, Row.kill, frzO, frzF, not1, int, Av.bool, cst, cstD]; rfl) ?_
    clear hK' K'
    refine AW_ret ?_
    simp [thn, inb, atEnd, atEndD, endD, resAll, resOne, oneOf, mkTup, allD, loadA, asVal, asValD, asD, asDs, D.le, D.le.go, liveL, upd, lst, hlst, hup, hno, List.lookup, args, aeval, cst, cstD, int, Av.bool, TypeDesc.isAgg, mkAgg, bneD, beqD, Int.ofNat_inj, takeMap]
    simp [← hres, dErr, D.le]
  rw [if_neg (by omega)] at hres
  refine AW_rg (tyOf_good _) (fun _ => trivial) [1, 3, 21] [1, 3] fun K' hK' => ?_
  repeat (refine sxf_next fun K2 hK2 => ?_; simp [Int.ofNat_inj, und, undef, upd_lst, hup_hlst, killE_lst, killH_hlst, trE_lst, hno_hlst, St.freeze, aeval, cst, cstD, upd, lst, hlst, List.lookup, int, Av.bool, loadA, mkAgg, mkTup, allD, hup, hno, tgt, args, killE, killH, AV.kill, AV.kill.go, Row.kill, trE, trH, AV.tr, AV.tr.go, Row.tr, frzO, frzF, not1, bneD, beqD, h1, h2, h3, hgd, hpos, hgq, dRow, dInts]; (repeat (refine ⟨by omega, ?_⟩)); refine hK2 _ ?_; clear hK2 K2)
  first | refine sxf_nil (hK' _ ?_) | (refine sxf_next fun K2 hK2 => ?_; clear hK2 hK'; simp [Int.ofNat_inj, und, undef, upd_lst, hup_hlst, killE_lst, killH_hlst, trE_lst, hno_hlst, St.freeze, aeval, cst, cstD, upd, lst, hlst, List.lookup, int, Av.bool, loadA, mkAgg, mkTup, allD, hup, hno, tgt, args, killE, killH, AV.kill, AV.kill.go, Row.kill, trE, trH, AV.tr, AV.tr.go, Row.tr, frzO, frzF, not1, bneD, beqD, h1, h2, h3, hgd, hpos, hgq, dRow, dInts]; fail "STUCK")
  refine AW.st (by simp [St.norm, liveL, liveR, trE, trH, onlyO, onlyF, AV.tr, AV.tr.go, Row.tr, mkAgg, mkTup, mkIfc, mkFn, allD, upd, lst, hlst, hup, hno, List.lookup, args, killE, killH, AV.kill, AV.kill.go, Row.kill, frzO, frzF, not1, int, Av.bool, cst, cstD, h1, h2, h3, hgd, hpos, hgq, dRow, dInts]; rfl) ?_
  clear hK' K'
  refine AW_cond false rfl (fun h => by cases h) (fun _ => ?_)
  refine AW_skip (hK1 _ ?_)
  refine AW_then fun K2 hK2 => ?_
  refine AW_rg (tyOf_good _) (fun _ => trivial) [1, 3, 27] [1, 3] fun K' hK' => ?_
  repeat (refine sxf_next fun K2 hK2 => ?_; simp [Int.ofNat_inj, und, undef, upd_lst, hup_hlst, killE_lst, killH_hlst, trE_lst, hno_hlst, St.freeze, aeval, cst, cstD, upd, lst, hlst, List.lookup, int, Av.bool, loadA, mkAgg, mkTup, allD, hup, hno, tgt, args, killE, killH, AV.kill, AV.kill.go, Row.kill, trE, trH, AV.tr, AV.tr.go, Row.tr, frzO, frzF, not1, bneD, beqD, dRow, dInts]; (repeat (refine ⟨by omega, ?_⟩)); refine hK2 _ ?_; clear hK2 K2)
  first | refine sxf_nil (hK' _ ?_) | (refine sxf_next fun K2 hK2 => ?_; clear hK2 hK'; simp [Int.ofNat_inj, und, undef, upd_lst, hup_hlst, killE_lst, killH_hlst, trE_lst, hno_hlst, St.freeze, aeval, cst, cstD, upd, lst, hlst, List.lookup, int, Av.bool, loadA, mkAgg, mkTup, allD, hup, hno, tgt, args, killE, killH, AV.kill, AV.kill.go, Row.kill, trE, trH, AV.tr, AV.tr.go, Row.tr, frzO, frzF, not1, bneD, beqD, dRow, dInts]; fail "STUCK")
  refine AW.st (by simp [St.norm, liveL, liveR, trE, trH, onlyO, onlyF, AV.tr, AV.tr.go, Row.tr, mkAgg, mkTup, mkIfc, mkFn, allD, upd, lst, hlst, hup, hno, List.lookup, args, killE, killH, AV.kill, AV.kill.go, Row.kill, frzO, frzF, not1, int, Av.bool, cst, cstD, dRow, dInts]; rfl) ?_
  clear hK' K'
  refine AW_cond' (b := ¬ tells.length = next.length) (by simp [thn, inb, atEnd, atEndD, endD, resAll, resOne, oneOf, mkTup, allD, loadA, asVal, asValD, asD, asDs, D.le, D.le.go, liveL, upd, lst, hlst, hup, hno, List.lookup, args, aeval, cst, cstD, int, Av.bool, TypeDesc.isAgg, mkAgg, bneD, beqD, Int.ofNat_inj, takeMap]) (fun hc => ?_) (fun hc => ?_)
  · rw [if_pos hc] at hres
    refine AW_rg (tyOf_good _) (fun _ => trivial) [2] [] fun K' hK' => ?_
    repeat (refine sxf_next fun K2 hK2 => ?_; simp [Int.ofNat_inj, und, undef, upd_lst, hup_hlst, killE_lst, killH_hlst, trE_lst, hno_hlst, St.freeze, aeval, cst, cstD, upd, lst, hlst, List.lookup, int, Av.bool, loadA, mkAgg, mkTup, allD, hup, hno, tgt, args, killE, killH, AV.kill, AV.kill.go, Row.kill, trE, trH, AV.tr, AV.tr.go, Row.tr, frzO, frzF, not1, bneD, beqD]; (repeat (refine ⟨by omega, ?_⟩)); refine hK2 _ ?_; clear hK2 K2)
    first | refine sxf_nil (hK' _ ?_) | (refine sxf_next fun K2 hK2 => ?_; clear hK2 hK'; simp [Int.ofNat_inj, und, undef, upd_lst, hup_hlst, killE_lst, killH_hlst, trE_lst, hno_hlst, St.freeze, aeval, cst, cstD, upd, lst, hlst, List.lookup, int, Av.bool, loadA, mkAgg, mkTup, allD, hup, hno, tgt, args, killE, killH, AV.kill, AV.kill.go, Row.kill, trE, trH, AV.tr, AV.tr.go, Row.tr, frzO, frzF, not1, bneD, beqD]; fail "STUCK")
    refine AW.st (by simp [St.norm, liveL, liveR, trE, trH, onlyO, onlyF, AV.tr, AV.tr.go, Row.tr, mkAgg, mkTup, mkIfc, mkFn, allD, upd, lst, hlst, hup, hno, List.lookup, args, killE, killH, AV.kill, AV.kill.go, Row.kill, frzO, frzF, not1, int, Av.bool, cst, cstD]; rfl) ?_
    clear hK' K'
    refine AW_ret ?_
    simp [thn, inb, atEnd, atEndD, endD, resAll, resOne, oneOf, mkTup, allD, loadA, asVal, asValD, asD, asDs, D.le, D.le.go, liveL, upd, lst, hlst, hup, hno, List.lookup, args, aeval, cst, cstD, int, Av.bool, TypeDesc.isAgg, mkAgg, bneD, beqD, Int.ofNat_inj, takeMap]
    simp [← hres, dErr, D.le]
  rw [if_neg hc] at hres
  have htl : tells.length = next.length := by omega
  refine AW_skip (hK2 _ ?_)
  refine AW_then fun K3 hK3 => ?_
  refine AW_rg (tyOf_good _) (fun _ => trivial) [1, 3, 31, 32] [1, 3] fun K' hK' => ?_
  repeat (refine sxf_next fun K2 hK2 => ?_; simp [Int.ofNat_inj, und, undef, upd_lst, hup_hlst, killE_lst, killH_hlst, trE_lst, hno_hlst, St.freeze, aeval, cst, cstD, upd, lst, hlst, List.lookup, int, Av.bool, loadA, mkAgg, mkTup, allD, hup, hno, tgt, args, killE, killH, AV.kill, AV.kill.go, Row.kill, trE, trH, AV.tr, AV.tr.go, Row.tr, frzO, frzF, not1, bneD, beqD, dRow, dInts]; (repeat (refine ⟨by omega, ?_⟩)); refine hK2 _ ?_; clear hK2 K2)
  first | refine sxf_nil (hK' _ ?_) | (refine sxf_next fun K2 hK2 => ?_; clear hK2 hK'; simp [Int.ofNat_inj, und, undef, upd_lst, hup_hlst, killE_lst, killH_hlst, trE_lst, hno_hlst, St.freeze, aeval, cst, cstD, upd, lst, hlst, List.lookup, int, Av.bool, loadA, mkAgg, mkTup, allD, hup, hno, tgt, args, killE, killH, AV.kill, AV.kill.go, Row.kill, trE, trH, AV.tr, AV.tr.go, Row.tr, frzO, frzF, not1, bneD, beqD, dRow, dInts]; fail "STUCK")
  refine AW.st (by simp [St.norm, liveL, liveR, trE, trH, onlyO, onlyF, AV.tr, AV.tr.go, Row.tr, mkAgg, mkTup, mkIfc, mkFn, allD, upd, lst, hlst, hup, hno, List.lookup, args, killE, killH, AV.kill, AV.kill.go, Row.kill, frzO, frzF, not1, int, Av.bool, cst, cstD, dRow, dInts]; rfl) ?_
  clear hK' K'
  refine AW_for (S := Nat) (fun n => n ≤ next.length ∧ rowsF ⟨next, tells⟩ n (next.length - n) = rowsF ⟨next, tells⟩ 0 next.length) (fun n => ⟨lst [(1, .ref 1 0 0), (3, .ref 3 0 0), (31, int next.length), (32, int n)],
    hlst [(1, .box 25 [.d (dRows next), .d (dRows tells)]), (3, .box 3 [int next.length])]⟩) (fun n => next.length - n) 0 ?_ (by simp) ?_
  · refine Imp.to' (fun _ => trivial) (by simp [St.norm, liveL, liveR, trE, trH, onlyO, onlyF, AV.tr, AV.tr.go, Row.tr, mkAgg, mkTup, mkIfc, mkFn, allD, upd, lst, hlst, hup, hno, List.lookup, args, killE, killH, AV.kill, AV.kill.go, Row.kill, frzO, frzF, not1, int, Av.bool, cst, cstD, dRows, dRow, dInts]) (by simp [St.norm, liveL, liveR, trE, trH, onlyO, onlyF, AV.tr, AV.tr.go, Row.tr, mkAgg, mkTup, mkIfc, mkFn, allD, upd, lst, hlst, hup, hno, List.lookup, args, killE, killH, AV.kill, AV.kill.go, Row.kill, frzO, frzF, not1, int, Av.bool, cst, cstD, dRows, dRow, dInts])
  · rintro n ⟨hn, hrs⟩
    refine AW_rg (tyOf_good _) (fun _ => trivial) [1, 3, 31, 32, 33] [1, 3] fun K' hK' => ?_
    repeat (refine sxf_next fun K2 hK2 => ?_; simp [Int.ofNat_inj, und, undef, upd_lst, hup_hlst, killE_lst, killH_hlst, trE_lst, hno_hlst, St.freeze, aeval, cst, cstD, upd, lst, hlst, List.lookup, int, Av.bool, loadA, mkAgg, mkTup, allD, hup, hno, tgt, args, killE, killH, AV.kill, AV.kill.go, Row.kill, trE, trH, AV.tr, AV.tr.go, Row.tr, frzO, frzF, not1, bneD, beqD]; (repeat (refine ⟨by omega, ?_⟩)); refine hK2 _ ?_; clear hK2 K2)
    first | refine sxf_nil (hK' _ ?_) | (refine sxf_next fun K2 hK2 => ?_; clear hK2 hK'; simp [Int.ofNat_inj, und, undef, upd_lst, hup_hlst, killE_lst, killH_hlst, trE_lst, hno_hlst, St.freeze, aeval, cst, cstD, upd, lst, hlst, List.lookup, int, Av.bool, loadA, mkAgg, mkTup, allD, hup, hno, tgt, args, killE, killH, AV.kill, AV.kill.go, Row.kill, trE, trH, AV.tr, AV.tr.go, Row.tr, frzO, frzF, not1, bneD, beqD]; fail "STUCK")
    refine AW.st (by simp [St.norm, liveL, liveR, trE, trH, onlyO, onlyF, AV.tr, AV.tr.go, Row.tr, mkAgg, mkTup, mkIfc, mkFn, allD, upd, lst, hlst, hup, hno, List.lookup, args, killE, killH, AV.kill, AV.kill.go, Row.kill, frzO, frzF, not1, int, Av.bool, cst, cstD]; rfl) ?_
    clear hK' K'
    refine AW_then fun K4 hK4 => ?_
    refine AW_cond' (b := n < next.length) (by simp [thn, inb, atEnd, atEndD, endD, resAll, resOne, oneOf, mkTup, allD, loadA, asVal, asValD, asD, asDs, D.le, D.le.go, liveL, upd, lst, hlst, hup, hno, List.lookup, args, aeval, cst, cstD, int, Av.bool, TypeDesc.isAgg, mkAgg, bneD, beqD, Int.ofNat_inj, takeMap]) (fun hc => ?_) (fun hc => ?_)
    · refine AW_skip (hK4 _ ?_)
      refine AW_then fun K5 hK5 => ?_
      refine AW_block ?_
      refine AW_rg (tyOf_good _) (fun _ => trivial) [1, 3, 4, 31, 32] [1, 3] fun K' hK' => ?_
      repeat (refine sxf_next fun K2 hK2 => ?_; simp [Int.ofNat_inj, und, undef, upd_lst, hup_hlst, killE_lst, killH_hlst, trE_lst, hno_hlst, St.freeze, aeval, cst, cstD, upd, lst, hlst, List.lookup, int, Av.bool, loadA, mkAgg, mkTup, allD, hup, hno, tgt, args, killE, killH, AV.kill, AV.kill.go, Row.kill, trE, trH, AV.tr, AV.tr.go, Row.tr, frzO, frzF, not1, bneD, beqD]; (repeat (refine ⟨by omega, ?_⟩)); refine hK2 _ ?_; clear hK2 K2)
      first | refine sxf_nil (hK' _ ?_) | (refine sxf_next fun K2 hK2 => ?_; clear hK2 hK'; simp [Int.ofNat_inj, und, undef, upd_lst, hup_hlst, killE_lst, killH_hlst, trE_lst, hno_hlst, St.freeze, aeval, cst, cstD, upd, lst, hlst, List.lookup, int, Av.bool, loadA, mkAgg, mkTup, allD, hup, hno, tgt, args, killE, killH, AV.kill, AV.kill.go, Row.kill, trE, trH, AV.tr, AV.tr.go, Row.tr, frzO, frzF, not1, bneD, beqD]; fail "STUCK")
      refine AW.st (by simp [St.norm, liveL, liveR, trE, trH, onlyO, onlyF, AV.tr, AV.tr.go, Row.tr, mkAgg, mkTup, mkIfc, mkFn, allD, upd, lst, hlst, hup, hno, List.lookup, args, killE, killH, AV.kill, AV.kill.go, Row.kill, frzO, frzF, not1, int, Av.bool, cst, cstD]; rfl) ?_
      clear hK' K'
      refine AW_then fun K6 hK6 => ?_
      have hstep : rowsF ⟨next, tells⟩ n (next.length - n) = match rowF ⟨next, tells⟩ n with
          | some c => some (c, some n)
          | none => rowsF ⟨next, tells⟩ (n + 1) (next.length - (n + 1)) := by
        have : next.length - n = (next.length - (n + 1)) + 1 := by omega
        rw [this]
        rfl
      rw [hstep] at hrs
      have htn : n < tells.length := by omega
      have hrow : rowF ⟨next, tells⟩ n = if next[n].length ≠ r0.length ∨ tells[n].length ≠ r0.length then some 3 else if next[n].any fun x => decide (x < 0) || decide ((next.length : Int) ≤ x) then some 2 else none := by
        simp [rowF, hc, htn, hpos, hgq]
      by_cases h4 : next[n].length = r0.length
      · by_cases h5 : tells[n].length = r0.length
        · rw [if_neg (by simp [h4, h5])] at hrow
          refine AW_rd (tyOf_good _) (fun _ => trivial) (by kernel_rfl) [1, 3, 4, 31, 32, 60] [1, 3] (by kernel_rfl) fun K' hK' => ?_
          repeat (refine sxd_next fun K2 hK2 => ?_; simp [Int.ofNat_inj, und, undef, upd_lst, hup_hlst, killE_lst, killH_hlst, trE_lst, hno_hlst, St.freeze, aeval, cst, cstD, upd, lst, hlst, List.lookup, int, Av.bool, loadA, mkAgg, mkTup, allD, hup, hno, tgt, args, killE, killH, AV.kill, AV.kill.go, Row.kill, trE, trH, AV.tr, AV.tr.go, Row.tr, frzO, frzF, not1, bneD, beqD, dRows, h4, h5, hgd, hpos, hgq, hc, htn, dRow, dInts]; (repeat (refine ⟨by omega, ?_⟩)); refine hK2 _ ?_; clear hK2 K2)
          first | refine sxd_nil (hK' _ ?_) | (refine sxd_next fun K2 hK2 => ?_; clear hK2 hK'; simp [Int.ofNat_inj, und, undef, upd_lst, hup_hlst, killE_lst, killH_hlst, trE_lst, hno_hlst, St.freeze, aeval, cst, cstD, upd, lst, hlst, List.lookup, int, Av.bool, loadA, mkAgg, mkTup, allD, hup, hno, tgt, args, killE, killH, AV.kill, AV.kill.go, Row.kill, trE, trH, AV.tr, AV.tr.go, Row.tr, frzO, frzF, not1, bneD, beqD, dRows, h4, h5, hgd, hpos, hgq, hc, htn, dRow, dInts]; fail "STUCK")
          refine AW.st (by simp [St.norm, liveL, liveR, trE, trH, onlyO, onlyF, AV.tr, AV.tr.go, Row.tr, mkAgg, mkTup, mkIfc, mkFn, allD, upd, lst, hlst, hup, hno, List.lookup, args, killE, killH, AV.kill, AV.kill.go, Row.kill, frzO, frzF, not1, int, Av.bool, cst, cstD, dRows, h4, h5, hgd, hpos, hgq, hc, htn, dRow, dInts]; rfl) ?_
          clear hK' K'
          refine AW_cond false rfl (fun h => by cases h) (fun _ => ?_)
          refine AW_skip (hK6 _ ?_)
          refine AW_rg (tyOf_good _) (fun _ => trivial) [1, 3, 4, 31, 32, 71] [1, 3] fun K' hK' => ?_
          repeat (refine sxf_next fun K2 hK2 => ?_; simp [Int.ofNat_inj, und, undef, upd_lst, hup_hlst, killE_lst, killH_hlst, trE_lst, hno_hlst, St.freeze, aeval, cst, cstD, upd, lst, hlst, List.lookup, int, Av.bool, loadA, mkAgg, mkTup, allD, hup, hno, tgt, args, killE, killH, AV.kill, AV.kill.go, Row.kill, trE, trH, AV.tr, AV.tr.go, Row.tr, frzO, frzF, not1, bneD, beqD, dRows, dRow, dInts, hc]; (repeat (refine ⟨by omega, ?_⟩)); refine hK2 _ ?_; clear hK2 K2)
          refine sxf_next fun K2 hK2 => ?_
          simp [Int.ofNat_inj, und, undef, upd_lst, hup_hlst, killE_lst, killH_hlst, trE_lst, hno_hlst, St.freeze, aeval, cst, cstD, upd, lst, hlst, List.lookup, int, Av.bool, loadA, mkAgg, mkTup, allD, hup, hno, tgt, args, killE, killH, AV.kill, AV.kill.go, Row.kill, trE, trH, AV.tr, AV.tr.go, Row.tr, frzO, frzF, not1, bneD, beqD, dRows, dRow, dInts, hc]
          refine callK.lend (containsInt_spec G none dNum next[n] 62 [.ip [dNum next.length]] (fun x => decide (x < 0) || decide ((next.length : Int) ≤ x)) (by omega) (fun x _ => check1_spec G x next.length)) (by simp [allD, allD_map, asDs_map, asDs, asD, hup, hno, hlst, List.lookup, D.scalar, tgt, aeval, evalL, lst, upd, putd, int, Av.bool, cst, cstD]; rfl) (by first | exact D.leGo_refl _ | simp [takeMap, List.map_map, Function.comp_def, D.le, D.le.go, D.le_refl, D.leGo_refl, dRows, dRow, dInts, hc]) (by simp [D.scalar]) ?_
          refine hK2 _ ?_
          clear hK2 K2
          simp only [putd, upd_lst]
          repeat (refine sxf_next fun K2 hK2 => ?_; simp [Int.ofNat_inj, und, undef, upd_lst, hup_hlst, killE_lst, killH_hlst, trE_lst, hno_hlst, St.freeze, aeval, cst, cstD, upd, lst, hlst, List.lookup, int, Av.bool, loadA, mkAgg, mkTup, allD, hup, hno, tgt, args, killE, killH, AV.kill, AV.kill.go, Row.kill, trE, trH, AV.tr, AV.tr.go, Row.tr, frzO, frzF, not1, bneD, beqD, dRows, dRow, dInts, hc]; (repeat (refine ⟨by omega, ?_⟩)); refine hK2 _ ?_; clear hK2 K2)
          first | refine sxf_nil (hK' _ ?_) | (refine sxf_next fun K2 hK2 => ?_; clear hK2 hK'; simp [Int.ofNat_inj, und, undef, upd_lst, hup_hlst, killE_lst, killH_hlst, trE_lst, hno_hlst, St.freeze, aeval, cst, cstD, upd, lst, hlst, List.lookup, int, Av.bool, loadA, mkAgg, mkTup, allD, hup, hno, tgt, args, killE, killH, AV.kill, AV.kill.go, Row.kill, trE, trH, AV.tr, AV.tr.go, Row.tr, frzO, frzF, not1, bneD, beqD, dRows, dRow, dInts, hc]; fail "STUCK")
          refine AW.st (by simp [St.norm, liveL, liveR, trE, trH, onlyO, onlyF, AV.tr, AV.tr.go, Row.tr, mkAgg, mkTup, mkIfc, mkFn, allD, upd, lst, hlst, hup, hno, List.lookup, args, killE, killH, AV.kill, AV.kill.go, Row.kill, frzO, frzF, not1, int, Av.bool, cst, cstD, dRows, dRow, dInts, hc]; rfl) ?_
          clear hK' K'
          refine AW_cond _ rfl (fun hb => ?_) (fun hb => ?_)
          · rw [if_pos hb] at hrow
            refine AW_rg (tyOf_good _) (fun _ => trivial) [2] [74] fun K' hK' => ?_
            repeat (refine sxf_next fun K2 hK2 => ?_; simp [Int.ofNat_inj, und, undef, upd_lst, hup_hlst, killE_lst, killH_hlst, trE_lst, hno_hlst, St.freeze, aeval, cst, cstD, upd, lst, hlst, List.lookup, int, Av.bool, loadA, mkAgg, mkTup, allD, hup, hno, tgt, args, killE, killH, AV.kill, AV.kill.go, Row.kill, trE, trH, AV.tr, AV.tr.go, Row.tr, frzO, frzF, not1, bneD, beqD]; (repeat (refine ⟨by omega, ?_⟩)); refine hK2 _ ?_; clear hK2 K2)
            first | refine sxf_nil (hK' _ ?_) | (refine sxf_next fun K2 hK2 => ?_; clear hK2 hK'; simp [Int.ofNat_inj, und, undef, upd_lst, hup_hlst, killE_lst, killH_hlst, trE_lst, hno_hlst, St.freeze, aeval, cst, cstD, upd, lst, hlst, List.lookup, int, Av.bool, loadA, mkAgg, mkTup, allD, hup, hno, tgt, args, killE, killH, AV.kill, AV.kill.go, Row.kill, trE, trH, AV.tr, AV.tr.go, Row.tr, frzO, frzF, not1, bneD, beqD]; fail "STUCK")
            refine AW.st (by simp [St.norm, liveL, liveR, trE, trH, onlyO, onlyF, AV.tr, AV.tr.go, Row.tr, mkAgg, mkTup, mkIfc, mkFn, allD, upd, lst, hlst, hup, hno, List.lookup, args, killE, killH, AV.kill, AV.kill.go, Row.kill, frzO, frzF, not1, int, Av.bool, cst, cstD]; rfl) ?_
            clear hK' K'
            refine AW_ret ?_
            simp [thn, inb, atEnd, atEndD, endD, resAll, resOne, oneOf, mkTup, allD, loadA, asVal, asValD, asD, asDs, D.le, D.le.go, liveL, upd, lst, hlst, hup, hno, List.lookup, args, aeval, cst, cstD, int, Av.bool, TypeDesc.isAgg, mkAgg, bneD, beqD, Int.ofNat_inj, takeMap]
            rw [hrow] at hrs
            simp [← hres, ← hrs, dErr, D.le, D.le.go]
          · rw [if_neg (by simp [hb])] at hrow
            rw [hrow] at hrs
            refine AW_skip (hK5 _ ?_)
            refine AW_re (tyOf_good _) (fun _ => trivial) fun K' hK' => ?_
            repeat (refine sxf_next fun K2 hK2 => ?_; simp [Int.ofNat_inj, und, undef, upd_lst, hup_hlst, killE_lst, killH_hlst, trE_lst, hno_hlst, St.freeze, aeval, cst, cstD, upd, lst, hlst, List.lookup, int, Av.bool, loadA, mkAgg, mkTup, allD, hup, hno, tgt, args, killE, killH, AV.kill, AV.kill.go, Row.kill, trE, trH, AV.tr, AV.tr.go, Row.tr, frzO, frzF, not1, bneD, beqD]; (repeat (refine ⟨by omega, ?_⟩)); refine hK2 _ ?_; clear hK2 K2)
            first | refine sxf_nil (hK' _ ?_) | (refine sxf_next fun K2 hK2 => ?_; clear hK2 hK'; simp [Int.ofNat_inj, und, undef, upd_lst, hup_hlst, killE_lst, killH_hlst, trE_lst, hno_hlst, St.freeze, aeval, cst, cstD, upd, lst, hlst, List.lookup, int, Av.bool, loadA, mkAgg, mkTup, allD, hup, hno, tgt, args, killE, killH, AV.kill, AV.kill.go, Row.kill, trE, trH, AV.tr, AV.tr.go, Row.tr, frzO, frzF, not1, bneD, beqD]; fail "STUCK")
            clear hK' K'
            try simp only [thn, inb]
            refine Again.mk (n + 1) ⟨by omega, hrs⟩ (by omega) ?_
            refine Imp.to' (fun _ => trivial) (by simp [St.norm, liveL, liveR, trE, trH, onlyO, onlyF, AV.tr, AV.tr.go, Row.tr, mkAgg, mkTup, mkIfc, mkFn, allD, upd, lst, hlst, hup, hno, List.lookup, args, killE, killH, AV.kill, AV.kill.go, Row.kill, frzO, frzF, not1, int, Av.bool, cst, cstD, dRows, dRow, dInts]) (by simp [St.norm, liveL, liveR, trE, trH, onlyO, onlyF, AV.tr, AV.tr.go, Row.tr, mkAgg, mkTup, mkIfc, mkFn, allD, upd, lst, hlst, hup, hno, List.lookup, args, killE, killH, AV.kill, AV.kill.go, Row.kill, frzO, frzF, not1, int, Av.bool, cst, cstD, dRows, dRow, dInts])
        · rw [if_pos (.inr h5)] at hrow
          refine AW_rd (tyOf_good _) (fun _ => trivial) (by kernel_rfl) [1, 3, 4, 31, 32, 60] [1, 3] (by kernel_rfl) fun K' hK' => ?_
          repeat (refine sxd_next fun K2 hK2 => ?_; simp [Int.ofNat_inj, und, undef, upd_lst, hup_hlst, killE_lst, killH_hlst, trE_lst, hno_hlst, St.freeze, aeval, cst, cstD, upd, lst, hlst, List.lookup, int, Av.bool, loadA, mkAgg, mkTup, allD, hup, hno, tgt, args, killE, killH, AV.kill, AV.kill.go, Row.kill, trE, trH, AV.tr, AV.tr.go, Row.tr, frzO, frzF, not1, bneD, beqD, dRows, h4, h5, hgd, hpos, hgq, hc, htn, dRow, dInts]; (repeat (refine ⟨by omega, ?_⟩)); refine hK2 _ ?_; clear hK2 K2)
          first | refine sxd_nil (hK' _ ?_) | (refine sxd_next fun K2 hK2 => ?_; clear hK2 hK'; simp [Int.ofNat_inj, und, undef, upd_lst, hup_hlst, killE_lst, killH_hlst, trE_lst, hno_hlst, St.freeze, aeval, cst, cstD, upd, lst, hlst, List.lookup, int, Av.bool, loadA, mkAgg, mkTup, allD, hup, hno, tgt, args, killE, killH, AV.kill, AV.kill.go, Row.kill, trE, trH, AV.tr, AV.tr.go, Row.tr, frzO, frzF, not1, bneD, beqD, dRows, h4, h5, hgd, hpos, hgq, hc, htn, dRow, dInts]; fail "STUCK")
          refine AW.st (by simp [St.norm, liveL, liveR, trE, trH, onlyO, onlyF, AV.tr, AV.tr.go, Row.tr, mkAgg, mkTup, mkIfc, mkFn, allD, upd, lst, hlst, hup, hno, List.lookup, args, killE, killH, AV.kill, AV.kill.go, Row.kill, frzO, frzF, not1, int, Av.bool, cst, cstD, dRows, h4, h5, hgd, hpos, hgq, hc, htn, dRow, dInts]; rfl) ?_
          clear hK' K'
          refine AW_cond true rfl (fun _ => ?_) (fun h => by cases h)
          refine AW_rg (tyOf_good _) (fun _ => trivial) [2] [63] fun K' hK' => ?_
          repeat (refine sxf_next fun K2 hK2 => ?_; simp [Int.ofNat_inj, und, undef, upd_lst, hup_hlst, killE_lst, killH_hlst, trE_lst, hno_hlst, St.freeze, aeval, cst, cstD, upd, lst, hlst, List.lookup, int, Av.bool, loadA, mkAgg, mkTup, allD, hup, hno, tgt, args, killE, killH, AV.kill, AV.kill.go, Row.kill, trE, trH, AV.tr, AV.tr.go, Row.tr, frzO, frzF, not1, bneD, beqD]; (repeat (refine ⟨by omega, ?_⟩)); refine hK2 _ ?_; clear hK2 K2)
          first | refine sxf_nil (hK' _ ?_) | (refine sxf_next fun K2 hK2 => ?_; clear hK2 hK'; simp [Int.ofNat_inj, und, undef, upd_lst, hup_hlst, killE_lst, killH_hlst, trE_lst, hno_hlst, St.freeze, aeval, cst, cstD, upd, lst, hlst, List.lookup, int, Av.bool, loadA, mkAgg, mkTup, allD, hup, hno, tgt, args, killE, killH, AV.kill, AV.kill.go, Row.kill, trE, trH, AV.tr, AV.tr.go, Row.tr, frzO, frzF, not1, bneD, beqD]; fail "STUCK")
          refine AW.st (by simp [St.norm, liveL, liveR, trE, trH, onlyO, onlyF, AV.tr, AV.tr.go, Row.tr, mkAgg, mkTup, mkIfc, mkFn, allD, upd, lst, hlst, hup, hno, List.lookup, args, killE, killH, AV.kill, AV.kill.go, Row.kill, frzO, frzF, not1, int, Av.bool, cst, cstD]; rfl) ?_
          clear hK' K'
          refine AW_ret ?_
          simp [thn, inb, atEnd, atEndD, endD, resAll, resOne, oneOf, mkTup, allD, loadA, asVal, asValD, asD, asDs, D.le, D.le.go, liveL, upd, lst, hlst, hup, hno, List.lookup, args, aeval, cst, cstD, int, Av.bool, TypeDesc.isAgg, mkAgg, bneD, beqD, Int.ofNat_inj, takeMap]
          rw [hrow] at hrs
          simp [← hres, ← hrs, dErr, D.le, D.le.go]
      · rw [if_pos (.inl h4)] at hrow
        refine AW_rd (tyOf_good _) (fun _ => trivial) (by kernel_rfl) [1, 3, 4, 31, 32, 60] [1, 3] (by kernel_rfl) fun K' hK' => ?_
        repeat (refine sxd_next fun K2 hK2 => ?_; simp [Int.ofNat_inj, und, undef, upd_lst, hup_hlst, killE_lst, killH_hlst, trE_lst, hno_hlst, St.freeze, aeval, cst, cstD, upd, lst, hlst, List.lookup, int, Av.bool, loadA, mkAgg, mkTup, allD, hup, hno, tgt, args, killE, killH, AV.kill, AV.kill.go, Row.kill, trE, trH, AV.tr, AV.tr.go, Row.tr, frzO, frzF, not1, bneD, beqD, dRows, h4, hgd, hpos, hgq, hc, htn, dRow, dInts]; (repeat (refine ⟨by omega, ?_⟩)); refine hK2 _ ?_; clear hK2 K2)
        first | refine sxd_nil (hK' _ ?_) | (refine sxd_next fun K2 hK2 => ?_; clear hK2 hK'; simp [Int.ofNat_inj, und, undef, upd_lst, hup_hlst, killE_lst, killH_hlst, trE_lst, hno_hlst, St.freeze, aeval, cst, cstD, upd, lst, hlst, List.lookup, int, Av.bool, loadA, mkAgg, mkTup, allD, hup, hno, tgt, args, killE, killH, AV.kill, AV.kill.go, Row.kill, trE, trH, AV.tr, AV.tr.go, Row.tr, frzO, frzF, not1, bneD, beqD, dRows, h4, hgd, hpos, hgq, hc, htn, dRow, dInts]; fail "STUCK")
        refine AW.st (by simp [St.norm, liveL, liveR, trE, trH, onlyO, onlyF, AV.tr, AV.tr.go, Row.tr, mkAgg, mkTup, mkIfc, mkFn, allD, upd, lst, hlst, hup, hno, List.lookup, args, killE, killH, AV.kill, AV.kill.go, Row.kill, frzO, frzF, not1, int, Av.bool, cst, cstD, dRows, h4, hgd, hpos, hgq, hc, htn, dRow, dInts]; rfl) ?_
        clear hK' K'
        refine AW_cond true rfl (fun _ => ?_) (fun h => by cases h)
        refine AW_rg (tyOf_good _) (fun _ => trivial) [2] [63] fun K' hK' => ?_
        repeat (refine sxf_next fun K2 hK2 => ?_; simp [Int.ofNat_inj, und, undef, upd_lst, hup_hlst, killE_lst, killH_hlst, trE_lst, hno_hlst, St.freeze, aeval, cst, cstD, upd, lst, hlst, List.lookup, int, Av.bool, loadA, mkAgg, mkTup, allD, hup, hno, tgt, args, killE, killH, AV.kill, AV.kill.go, Row.kill, trE, trH, AV.tr, AV.tr.go, Row.tr, frzO, frzF, not1, bneD, beqD]; (repeat (refine ⟨by omega, ?_⟩)); refine hK2 _ ?_; clear hK2 K2)
        first | refine sxf_nil (hK' _ ?_) | (refine sxf_next fun K2 hK2 => ?_; clear hK2 hK'; simp [Int.ofNat_inj, und, undef, upd_lst, hup_hlst, killE_lst, killH_hlst, trE_lst, hno_hlst, St.freeze, aeval, cst, cstD, upd, lst, hlst, List.lookup, int, Av.bool, loadA, mkAgg, mkTup, allD, hup, hno, tgt, args, killE, killH, AV.kill, AV.kill.go, Row.kill, trE, trH, AV.tr, AV.tr.go, Row.tr, frzO, frzF, not1, bneD, beqD]; fail "STUCK")
        refine AW.st (by simp [St.norm, liveL, liveR, trE, trH, onlyO, onlyF, AV.tr, AV.tr.go, Row.tr, mkAgg, mkTup, mkIfc, mkFn, allD, upd, lst, hlst, hup, hno, List.lookup, args, killE, killH, AV.kill, AV.kill.go, Row.kill, frzO, frzF, not1, int, Av.bool, cst, cstD]; rfl) ?_
        clear hK' K'
        refine AW_ret ?_
        simp [thn, inb, atEnd, atEndD, endD, resAll, resOne, oneOf, mkTup, allD, loadA, asVal, asValD, asD, asDs, D.le, D.le.go, liveL, upd, lst, hlst, hup, hno, List.lookup, args, aeval, cst, cstD, int, Av.bool, TypeDesc.isAgg, mkAgg, bneD, beqD, Int.ofNat_inj, takeMap]
        rw [hrow] at hrs
        simp [← hres, ← hrs, dErr, D.le, D.le.go]
    · refine AW_exit (hK3 _ ?_)
      refine AW_rg (tyOf_good _) (fun _ => trivial) [2] [] fun K' hK' => ?_
      repeat (refine sxf_next fun K2 hK2 => ?_; simp [Int.ofNat_inj, und, undef, upd_lst, hup_hlst, killE_lst, killH_hlst, trE_lst, hno_hlst, St.freeze, aeval, cst, cstD, upd, lst, hlst, List.lookup, int, Av.bool, loadA, mkAgg, mkTup, allD, hup, hno, tgt, args, killE, killH, AV.kill, AV.kill.go, Row.kill, trE, trH, AV.tr, AV.tr.go, Row.tr, frzO, frzF, not1, bneD, beqD]; (repeat (refine ⟨by omega, ?_⟩)); refine hK2 _ ?_; clear hK2 K2)
      first | refine sxf_nil (hK' _ ?_) | (refine sxf_next fun K2 hK2 => ?_; clear hK2 hK'; simp [Int.ofNat_inj, und, undef, upd_lst, hup_hlst, killE_lst, killH_hlst, trE_lst, hno_hlst, St.freeze, aeval, cst, cstD, upd, lst, hlst, List.lookup, int, Av.bool, loadA, mkAgg, mkTup, allD, hup, hno, tgt, args, killE, killH, AV.kill, AV.kill.go, Row.kill, trE, trH, AV.tr, AV.tr.go, Row.tr, frzO, frzF, not1, bneD, beqD]; fail "STUCK")
      refine AW.st (by simp [St.norm, liveL, liveR, trE, trH, onlyO, onlyF, AV.tr, AV.tr.go, Row.tr, mkAgg, mkTup, mkIfc, mkFn, allD, upd, lst, hlst, hup, hno, List.lookup, args, killE, killH, AV.kill, AV.kill.go, Row.kill, frzO, frzF, not1, int, Av.bool, cst, cstD]; rfl) ?_
      clear hK' K'
      refine AW_ret ?_
      simp [thn, inb, atEnd, atEndD, endD, resAll, resOne, oneOf, mkTup, allD, loadA, asVal, asValD, asD, asDs, D.le, D.le.go, liveL, upd, lst, hlst, hup, hno, List.lookup, args, aeval, cst, cstD, int, Av.bool, TypeDesc.isAgg, mkAgg, bneD, beqD, Int.ofNat_inj, takeMap]
      have hnn : n = next.length := by omega
      subst hnn
      simp [rowsF] at hrs
      rw [← hrs] at hres
      simp [← hres, dErr]
#print axioms check_spec
end Go.Proofs.YtoikggboakojlaaDoor
