/-
  Proved: for every word and all steps whatever, LassoPushes answers true and leaves its arguments as they were, where errors.errorType, lasso.arity and unicode/utf8's two tables are laid as the program's own text lays them (the card's tie). No other condition.
-/
import Derived.Test.YtblafkekblaibaaDoorLq6
import Derived.Test.YtblafkekblaibaaDoorCards
import Derived.Test.YtblafkekblaibaaDoorTie
import Derived.ChangeSame
import Derived.ChangeVars
import Derived.ChangeMaps5
import Derived.JoinedOf
import Derived.LaidMore
namespace Go.Proofs.YtblafkekblaibaaDoor
set_option linter.unusedSimpArgs false
set_option linter.unusedVariables false
open Go.Av Go.ChangeShapes Go.WideShapes Go.ChangeAt Go.RowKit

def laid_lpushes : List (String × DataW Unit) := Rows.lassoPushesRow.laid
def laid3_lpushes : List (String × DataW Unit) := [("unicode/utf8.acceptRanges", Rows.laid_unicode_utf8_acceptRanges), ("signalcabin/lasso.arity", Rows.laid_signalcabin_lasso_arity), ("unicode/utf8.first", Rows.laid_unicode_utf8_first)]
set_option maxRecDepth 100000 in
theorem lpushes_split : laid_lpushes.filter (fun x => x.2.handleName?.isNone) = laid3_lpushes := by kernel_rfl
theorem lpushes_keep : laid3_lpushes.filter (fun x => x.1 == "signalcabin/lasso.arity") = laidA := by kernel_rfl
set_option maxRecDepth 100000 in
theorem lpushes_handles : laid_lpushes.filter (fun x => x.2.handleName?.isSome) = laidE := by kernel_rfl
theorem lpushes_parts {W : World} (h : laidMetH Tryd.prog laid_lpushes W) : laidMet Tryd.prog laidA W ∧ handlesMet Tryd.prog laidE W := by
  have h1 : laidMet Tryd.prog laid3_lpushes W := by have := h.1; rw [← lpushes_split]; exact this
  refine ⟨?_, ?_⟩
  · have := h1.filter fun x => x.1 == "signalcabin/lasso.arity"
    rwa [lpushes_keep] at this
  · have := h.2
    rw [← lpushes_handles]
    exact this
noncomputable def world_lpushes (os : Os) : World :=
  let w0 := World.laidAll Tryd.prog os laid3_lpushes
  { w0 with heap := w0.heap.modify 2 fun
      | .cells _ t frozen => .cells #[errType] t frozen
      | o => o }
set_option maxRecDepth 100000 in
theorem lpushes_met (os : Os) (args : Array Value) : laidMetH Tryd.prog laid_lpushes ((world_lpushes os).forCall (fun _ _ => 0) ⟨#[], args, []⟩).memory := by
  refine laidMetH_of_parts ?_ (by kernel_rfl)
  have e : (laid_lpushes.filter fun x => x.2.handleName?.isNone) = laid3_lpushes := lpushes_split
  rw [e]
  exact laidMet_of_run' 8 (by kernel_rfl) (by kernel_rfl)

set_option maxRecDepth 100000 in
theorem lpushes_lifted (os : Os) (started : os.Started) (H : Type) (enc : TypeId × Value → H) :
    ReturnsInHanded {} Tryd.checked os 6 .any (fun w args => (Rows.lassoPushesSpec.pre enc Tryd.prog Tryd.f6 [] false w args ∧ laidMetH Tryd.prog laid_lpushes w) ∧ sizedMet enc Tryd.prog Tryd.f6 (OpenSpec.ofChange Rows.lassoPushesSpec) false w args)
      (Rows.lassoPushesSpec.post enc Tryd.prog Tryd.f6 false true false false) := by
  refine returnsInHanded_of_change_and (C := Tryd.checked) (X := fun w _ => laidMetH Tryd.prog laid_lpushes w) (fun _ _ _ hh h => h.of_heap hh) law_own started (by kernel_rfl) Tryd.func6
    (ChangeSpec.witness_at (enc := enc) (C := Tryd.checked) (os := os) (X := fun w _ => laidMetH Tryd.prog laid_lpushes w) false (world_lpushes os) #[.slice none 0 0] 8 rfl (by kernel_rfl) (by kernel_rfl) (by kernel_rfl) (by kernel_rfl) (by kernel_rfl) (lpushes_met os _)) ?_
  intro W base args ds gs before hval0 hW _ hwts hL _
  have hval : ∀ (j : Nat) t v, Tryd.f6.params[j]? = some t → args[j]? = some v → Value.okWide Tryd.prog W .any base t v := hval0
  have hW' := hW
  obtain ⟨p, q, hA0, hV, rfl, hfz, hnd⟩ := hW
  have hA : DataW.TrodAll enc Tryd.prog W 0 (fun _ => true) true Tryd.f6.params.toList args.toList ds p := hA0
  have hlt : ∀ x ∈ p, x.block < W.heap.size := fun x hx => by simpa using hW'.lt x (by simp [hx])
  have hback : ∀ W', Below W.heap.size W W' → DataW.TrodAll enc Tryd.prog W' 0 (fun b => decide (b < W.heap.size)) true Tryd.f6.params.toList args.toList ds p := fun W' hb =>
    trodAll_below law_laidOut hb (by rw [Tryd.params6]; intro t ht; simp at ht; subst ht <;> exact ⟨by kernel_rfl, of_decide_eq_true (by kernel_rfl)⟩) hA hlt
  have hwts : ∀ n ∈ DataW.weightsEach Tryd.prog (Tryd.f6.params.toList ++ DataSpec.varTypes Tryd.checked.prog Rows.lassoPushesSpec.plain) (ds ++ gs), n ≤ reachBytes := fun n hn => by simpa using List.all_eq_true.1 hwts n hn
  rw [Tryd.params6] at hA hval hwts
  obtain ⟨v0, l0, d0, e0, a0, b0, hl0, rfl, rfl, h0, hA⟩ := trodAll_cons hA
  obtain ⟨rfl, rfl, rfl⟩ := trodAll_nil hA
  obtain rfl : args = #[v0] := by
    apply Array.ext'
    simpa using hl0
  obtain ⟨rfl, rfl⟩ := trodVars_none hV
  obtain ⟨sa0, sl0, sc0, rfl⟩ := okWide_slice Tryd.underlying39 (hval 0 39 v0 rfl rfl)
  obtain ⟨fuel0, hf0⟩ := h0
  have hb : reachBytes < 2^47 := by decide
  obtain ⟨s0, ⟨hs0, hq0⟩, hr0⟩ := readsW_steps (X := fun _ => False) (by simp) fuel0 _ _ hf0 (fun n hn => hwts n (by simp [DataW.weightsEach, hn]))
  have hrd0 := RD.of_cell (by simp) hr0
  refine (law_callsG (pushes_spec globEA globEA_arity globEA_err s0 (fun x hx => by have := hs0 x hx; omega)) (W := W) (args := #[.slice sa0 sl0 sc0]) (globEA_ok (lpushes_parts hL).1 (lpushes_parts hL).2) rfl (RD.at1 hrd0)).mono fun e W' ⟨he, hb⟩ => ?_
  subst he
  exact ⟨_, rfl, _, _, _, [], _, [], hW', trodAll_mk1 (shut_bool Tryd.underlying4 _), hback W' hb, rfl, hb.frame _, fun h => by cases h⟩

theorem lpushes_holds : Rows.LassoPushesSaid :=
  OpenClaim.holds_of_wide 6 Tryd.f6 rfl rfl rfl rfl rfl rfl rfl ⟨rfl, rfl, rfl, rfl, rfl⟩ rfl rfl rfl rfl rfl (by kernel_rfl) Tryd.func6 (by kernel_rfl)
    (of_decide_eq_true (by kernel_rfl)) (by unfold Func.isWrapper; first | (rw [if_pos (by decide +kernel)]; kernel_rfl) | (rw [if_neg (by decide +kernel)]; exact ⟨rfl, rfl⟩))
    (fun os started H enc _ => lpushes_lifted os started H enc)

theorem lpushes_card : Rows.LassoPushesCardSaid :=
  Claim7.holds_tied_plain_at .later [] [.data, .handle, .data, .pinned] true Rows.lassoPushesCard.stood.harness true
    lpushes_holds (fun _ h => by cases h) (by kernel_rfl) (fun _ h => by cases h) lassoPushes_row_tie rfl ⟨rfl, rfl⟩ (by kernel_rfl) rfl
    (fun f fn hf hfn => by
      obtain rfl : f = 6 := Option.some.inj ((show Tryd.prog.funcNamed "signalcabin/signalcabinlaw.LassoPushes" = some 6 by kernel_rfl).symm.trans hf) |>.symm
      obtain rfl : fn = Tryd.f6 := (Option.some.inj (Tryd.func6.symm.trans hfn)).symm
      exact ⟨by kernel_rfl, fun j t ht => by
        rw [Tryd.params6] at ht
        have hm : t ∈ [39] := by simpa using Array.mem_of_getElem? ht
        have hall : ([39].all fun u => !Tryd.prog.wantsStandIn u) = true := by kernel_rfl
        exact (show Tryd.prog.wantsStandIn t = false by simpa using List.all_eq_true.1 hall t hm)⟩)
    (by kernel_rfl)
#print axioms lpushes_card
end Go.Proofs.YtblafkekblaibaaDoor
