/-
  Proved: for every word and all steps whatever, LassoHolds answers true and leaves its arguments as they were, where errors.errorType, lasso.arity and unicode/utf8's two tables are laid as the program's own text lays them (the card's tie). No other condition.
-/
import Derived.Test.YtoikggboakojlaaDoorLh6
import Derived.Test.YtoikggboakojlaaDoorCards
import Derived.Test.YtoikggboakojlaaDoorTie
import Derived.ChangeSame
import Derived.ChangeVars
import Derived.ChangeMaps5
import Derived.JoinedOf
import Derived.LaidMore
namespace Go.Proofs.YtoikggboakojlaaDoor
set_option linter.unusedSimpArgs false
set_option linter.unusedVariables false
open Go.Av Go.ChangeShapes Go.WideShapes Go.ChangeAt Go.RowKit

def laid_lholds : List (String × DataW Unit) := Rows.lassoHoldsRow.laid
def laid3_lholds : List (String × DataW Unit) := [("unicode/utf8.acceptRanges", Rows.laid_unicode_utf8_acceptRanges), ("signalcabin/lasso.arity", Rows.laid_signalcabin_lasso_arity), ("unicode/utf8.first", Rows.laid_unicode_utf8_first)]
set_option maxRecDepth 100000 in
theorem lholds_split : laid_lholds.filter (fun x => x.2.handleName?.isNone) = laid3_lholds := by kernel_rfl
theorem lholds_keep : laid3_lholds.filter (fun x => x.1 == "signalcabin/lasso.arity") = laidA := by kernel_rfl
set_option maxRecDepth 100000 in
theorem lholds_handles : laid_lholds.filter (fun x => x.2.handleName?.isSome) = laidE := by kernel_rfl
theorem lholds_parts {W : World} (h : laidMetH Tryd.prog laid_lholds W) : laidMet Tryd.prog laidA W ∧ handlesMet Tryd.prog laidE W := by
  have h1 : laidMet Tryd.prog laid3_lholds W := by have := h.1; rw [← lholds_split]; exact this
  refine ⟨?_, ?_⟩
  · have := h1.filter fun x => x.1 == "signalcabin/lasso.arity"
    rwa [lholds_keep] at this
  · have := h.2
    rw [← lholds_handles]
    exact this
noncomputable def world_lholds (os : Os) : World :=
  let w0 := World.laidAll Tryd.prog os laid3_lholds
  { w0 with heap := w0.heap.modify 1 fun
      | .cells _ t frozen => .cells #[errType] t frozen
      | o => o }
set_option maxRecDepth 100000 in
theorem lholds_met (os : Os) (args : Array Value) : laidMetH Tryd.prog laid_lholds ((world_lholds os).forCall (fun _ _ => 0) ⟨#[], args, []⟩).memory := by
  refine laidMetH_of_parts ?_ (by kernel_rfl)
  have e : (laid_lholds.filter fun x => x.2.handleName?.isNone) = laid3_lholds := lholds_split
  rw [e]
  exact laidMet_of_run' 8 (by kernel_rfl) (by kernel_rfl)

set_option maxRecDepth 100000 in
theorem lholds_lifted (os : Os) (started : os.Started) (H : Type) (enc : TypeId × Value → H) :
    ReturnsInHanded {} Tryd.checked os 12 .any (fun w args => (Rows.lassoHoldsSpec.pre enc Tryd.prog Tryd.f12 [] false w args ∧ laidMetH Tryd.prog laid_lholds w) ∧ sizedMet enc Tryd.prog Tryd.f12 (OpenSpec.ofChange Rows.lassoHoldsSpec) false w args)
      (Rows.lassoHoldsSpec.post enc Tryd.prog Tryd.f12 false true false false) := by
  refine returnsInHanded_of_change_and (C := Tryd.checked) (X := fun w _ => laidMetH Tryd.prog laid_lholds w) (fun _ _ _ hh h => h.of_heap hh) law_own started (by kernel_rfl) Tryd.func12
    (ChangeSpec.witness_at (enc := enc) (C := Tryd.checked) (os := os) (X := fun w _ => laidMetH Tryd.prog laid_lholds w) false (world_lholds os) #[.agg #[.slice none 0 0, .slice none 0 0], .slice none 0 0] 8 rfl (by kernel_rfl) (by kernel_rfl) (by kernel_rfl) (by kernel_rfl) (by kernel_rfl) (lholds_met os _)) ?_
  intro W base args ds gs before hval0 hW _ hwts hL _
  have hval : ∀ (j : Nat) t v, Tryd.f12.params[j]? = some t → args[j]? = some v → Value.okWide Tryd.prog W .any base t v := hval0
  have hW' := hW
  obtain ⟨p, q, hA0, hV, rfl, hfz, hnd⟩ := hW
  have hA : DataW.TrodAll enc Tryd.prog W 0 (fun _ => true) true Tryd.f12.params.toList args.toList ds p := hA0
  have hlt : ∀ x ∈ p, x.block < W.heap.size := fun x hx => by simpa using hW'.lt x (by simp [hx])
  have hback : ∀ W', Below W.heap.size W W' → DataW.TrodAll enc Tryd.prog W' 0 (fun b => decide (b < W.heap.size)) true Tryd.f12.params.toList args.toList ds p := fun W' hb =>
    trodAll_below law_laidOut hb (by rw [Tryd.params12]; intro t ht; simp at ht; rcases ht with rfl | rfl <;> exact ⟨by kernel_rfl, of_decide_eq_true (by kernel_rfl)⟩) hA hlt
  have hwts : ∀ n ∈ DataW.weightsEach Tryd.prog (Tryd.f12.params.toList ++ DataSpec.varTypes Tryd.checked.prog Rows.lassoHoldsSpec.plain) (ds ++ gs), n ≤ reachBytes := fun n hn => by simpa using List.all_eq_true.1 hwts n hn
  rw [Tryd.params12] at hA hval hwts
  obtain ⟨v0, l0, d0, e0, a0, b0, hl0, rfl, rfl, h0, hA⟩ := trodAll_cons hA
  obtain ⟨v1, l1, d1, e1, a1, b1, rfl, rfl, rfl, h1, hA⟩ := trodAll_cons hA
  obtain ⟨rfl, rfl, rfl⟩ := trodAll_nil hA
  obtain rfl : args = #[v0, v1] := by
    apply Array.ext'
    simpa using hl0
  obtain ⟨rfl, rfl⟩ := trodVars_none hV
  obtain ⟨cs0, rfl, _⟩ := okWide_struct Tryd.underlying70 (hval 0 70 v0 rfl rfl)
  obtain ⟨sa1, sl1, sc1, rfl⟩ := okWide_slice Tryd.underlying71 (hval 1 71 v1 rfl rfl)
  obtain ⟨fuel0, hf0⟩ := h0
  obtain ⟨fuel1, hf1⟩ := h1
  have hb : reachBytes < 2^47 := by decide
  obtain ⟨s0, hs0, hr0⟩ := readsW_word (X := fun _ => False) (by simp) fuel0 _ _ hf0 (fun n hn => hwts n (by simp [DataW.weightsEach, hn]))
  have hrd0 := RD.of_cells ⟨cs0, rfl⟩ hr0
  obtain ⟨s1, ⟨hs1, hq1⟩, hr1⟩ := readsW_steps (X := fun _ => False) (by simp) fuel1 _ _ hf1 (fun n hn => hwts n (by simp [DataW.weightsEach, hn]))
  have hrd1 := RD.of_cell (by simp) hr1
  refine (law_callsG (lholds_spec globEA globEA_arity globEA_err s0.1 s0.2 hs0 s1 (fun x hx => by have := hs1 x hx; omega)) (W := W) (args := #[.agg cs0, .slice sa1 sl1 sc1]) (globEA_ok (lholds_parts hL).1 (lholds_parts hL).2) rfl (RD.at2 hrd0 hrd1)).mono fun e W' ⟨he, hb⟩ => ?_
  subst he
  exact ⟨_, rfl, _, _, _, [], _, [], hW', trodAll_mk1 (shut_bool Tryd.underlying4 _), hback W' hb, rfl, hb.frame _, fun h => by cases h⟩

theorem lholds_holds : Rows.LassoHoldsSaid :=
  OpenClaim.holds_of_wide 12 Tryd.f12 rfl rfl rfl rfl rfl rfl rfl ⟨rfl, rfl, rfl, rfl, rfl⟩ rfl rfl rfl rfl rfl (by kernel_rfl) Tryd.func12 (by kernel_rfl)
    (of_decide_eq_true (by kernel_rfl)) (by unfold Func.isWrapper; first | (rw [if_pos (by decide +kernel)]; kernel_rfl) | (rw [if_neg (by decide +kernel)]; exact ⟨rfl, rfl⟩))
    (fun os started H enc _ => lholds_lifted os started H enc)

theorem lholds_card : Rows.LassoHoldsCardSaid :=
  Claim7.holds_tied_plain_at .later [] [.data, .handle, .data, .pinned] true Rows.lassoHoldsCard.stood.harness true
    lholds_holds (fun _ h => by cases h) (by kernel_rfl) (fun _ h => by cases h) lassoHolds_row_tie rfl ⟨rfl, rfl⟩ (by kernel_rfl) rfl
    (fun f fn hf hfn => by
      obtain rfl : f = 12 := Option.some.inj ((show Tryd.prog.funcNamed "signalcabin/signalcabinlaw.LassoHolds" = some 12 by kernel_rfl).symm.trans hf) |>.symm
      obtain rfl : fn = Tryd.f12 := (Option.some.inj (Tryd.func12.symm.trans hfn)).symm
      exact ⟨by kernel_rfl, fun j t ht => by
        rw [Tryd.params12] at ht
        have hm : t ∈ [70, 71] := by simpa using Array.mem_of_getElem? ht
        have hall : ([70, 71].all fun u => !Tryd.prog.wantsStandIn u) = true := by kernel_rfl
        exact (show Tryd.prog.wantsStandIn t = false by simpa using List.all_eq_true.1 hall t hm)⟩)
    (by kernel_rfl)
#print axioms lholds_card
end Go.Proofs.YtoikggboakojlaaDoor
