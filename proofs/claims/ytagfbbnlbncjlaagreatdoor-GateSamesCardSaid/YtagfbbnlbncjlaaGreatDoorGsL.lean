/-
  Proved: for every argument whatever, GateSames answers true and leaves its arguments as they were, where the package-level variables that the card names are laid as the program's own text lays them (the card's tie). No other condition.
-/
import Derived.Test.YtagfbbnlbncjlaaGreatDoorGs25
import Derived.Test.YtagfbbnlbncjlaaGreatDoorCards
import Derived.Test.YtagfbbnlbncjlaaGreatDoorTie
import Derived.ChangeSame
import Derived.ChangeVars
import Derived.ChangeMaps5
import Derived.JoinedOf
import Derived.LaidMore
import Derived.LaidLaws
import Derived.LaidHandle
import Derived.Lay
namespace Go.Proofs.YtagfbbnlbncjlaaGreatDoor
set_option linter.unusedSimpArgs false
set_option linter.unusedVariables false
open Go.Av Go.ChangeShapes Go.WideShapes Go.ChangeAt Go.RowKit

def laid_gsames : List (String × DataW Unit) := Rows.gateSamesRow.laid
def laid3_gsames : List (String × DataW Unit) := [("unicode/utf8.acceptRanges", Rows.laid_unicode_utf8_acceptRanges), ("signalcabin/signalcabinref.Fine", Rows.laid_signalcabin_signalcabinref_Fine), ("unicode/utf8.first", Rows.laid_unicode_utf8_first)]
set_option maxRecDepth 100000 in
theorem gsames_split : laid_gsames.filter (fun x => x.2.handleName?.isNone) = laid3_gsames := by kernel_rfl
theorem gsames_rest {W : World} (h : laidMetH Tryz.prog laid_gsames W) : laidMet Tryz.prog laid3_gsames W := by
  have := (laidMetH_iff.1 h).1; rwa [gsames_split] at this
theorem gsames_keep : laid3_gsames.filter (fun x => x.1 == "signalcabin/signalcabinref.Fine") = laidF := by kernel_rfl
theorem gsames_fine {W : World} (h : laidMetH Tryz.prog laid_gsames W) : laidMet Tryz.prog laidF W := by
  have := (gsames_rest h).filter fun x => x.1 == "signalcabin/signalcabinref.Fine"
  rwa [gsames_keep] at this
set_option maxRecDepth 100000 in
theorem gsames_handles : laid_gsames.filter (fun x => x.2.handleName?.isSome) = laidE := by kernel_rfl
theorem gsames_err {W : World} (h : laidMetH Tryz.prog laid_gsames W) : handlesMet Tryz.prog laidE W := by
  have := h.2
  rw [← gsames_handles]
  exact this
noncomputable def world_gsames (os : Os) : World :=
  let w0 := World.laidAll Tryz.prog os laid3_gsames
  { w0 with heap := w0.heap.modify 1 fun
      | .cells _ t frozen => .cells #[errType] t frozen
      | o => o }
set_option maxRecDepth 100000 in
theorem gsames_met (os : Os) (args : Array Value) : laidMetH Tryz.prog laid_gsames ((world_gsames os).forCall (fun _ _ => 0) ⟨#[], args, []⟩).memory := by
  refine laidMetH_of_parts ?_ (by kernel_rfl)
  have e : (laid_gsames.filter fun x => x.2.handleName?.isNone) = laid3_gsames := gsames_split
  rw [e]
  exact laidMet_of_run' 8 (by kernel_rfl) (by kernel_rfl)
set_option maxRecDepth 100000 in
theorem gsames_lifted (os : Os) (started : os.Started) (H : Type) (enc : TypeId × Value → H) :
    ReturnsInHanded {} Tryz.checked os 6 .any (fun w args => (Rows.gateSamesSpec.pre enc Tryz.prog Tryz.f6 [] false w args ∧ laidMetH Tryz.prog laid_gsames w) ∧ sizedMet enc Tryz.prog Tryz.f6 (OpenSpec.ofChange Rows.gateSamesSpec) false w args)
      (Rows.gateSamesSpec.post enc Tryz.prog Tryz.f6 false true false false) := by
  refine handed_both (C := Tryz.checked) (X := fun w _ => laidMetH Tryz.prog laid_gsames w) (fun _ _ _ hh h => h.of_heap hh) law_own started (by kernel_rfl) Tryz.func6
    (ChangeSpec.witness_at (enc := enc) (C := Tryz.checked) (os := os) (X := fun w _ => laidMetH Tryz.prog laid_gsames w) false (world_gsames os) #[.string ⟨#[]⟩, .string ⟨#[]⟩] 8 rfl (by kernel_rfl) (by kernel_rfl) (by kernel_rfl) (by kernel_rfl) (by kernel_rfl) (gsames_met os _)) ?_
  intro W base args ds gs before hval0 hW hL hsh
  obtain ⟨m, hm⟩ := max_some hsh
  have hval : ∀ (j : Nat) t v, Tryz.f6.params[j]? = some t → args[j]? = some v → Value.okWide Tryz.prog W .any base t v := hval0
  have hW' := hW
  obtain ⟨p, q, hA0, hV, rfl, hfz, hnd⟩ := hW
  have hA : DataW.TrodAll enc Tryz.prog W 0 (fun _ => true) true Tryz.f6.params.toList args.toList ds p := hA0
  have hlt : ∀ x ∈ p, x.block < W.heap.size := fun x hx => by simpa using hW'.lt x (by simp [hx])
  have hback : ∀ W', Below W.heap.size W W' → DataW.TrodAll enc Tryz.prog W' 0 (fun b => decide (b < W.heap.size)) true Tryz.f6.params.toList args.toList ds p := fun W' hb =>
    trodAll_below law_laidOut hb (by rw [Tryz.params6]; intro t ht; simp at ht; subst ht <;> exact ⟨by kernel_rfl, of_decide_eq_true (by kernel_rfl)⟩) hA hlt
  rw [Tryz.params6] at hA hval
  obtain ⟨v0, l0, d0, e0, a0, b0, hl0, rfl, rfl, h0, hA⟩ := trodAll_cons hA
  obtain ⟨v1, l1, d1, e1, a1, b1, rfl, rfl, rfl, h1, hA⟩ := trodAll_cons hA
  obtain ⟨rfl, rfl, rfl⟩ := trodAll_nil hA
  obtain rfl : args = #[v0, v1] := by
    apply Array.ext'
    simpa using hl0
  obtain ⟨rfl, rfl⟩ := trodVars_none hV
  obtain ⟨s0', rfl, rfl, rfl, _⟩ := Go.ChangeMaps.open_string Tryz.underlying9 (hval 0 9 v0 rfl rfl) h0
  obtain ⟨s0, rfl⟩ : ∃ s, s0' = bs s := ⟨s0'.data.toList, by cases s0'; simp [bs]⟩
  have hrd0 : RD W (fun _ => False) (.string (bs s0)) (dS s0) := .v _
  obtain ⟨s1', rfl, rfl, rfl, _⟩ := Go.ChangeMaps.open_string Tryz.underlying9 (hval 1 9 v1 rfl rfl) h1
  obtain ⟨s1, rfl⟩ : ∃ s, s1' = bs s := ⟨s1'.data.toList, by cases s1'; simp [bs]⟩
  have hrd1 : RD W (fun _ => False) (.string (bs s1)) (dS s1) := .v _
  refine (law_callsG (gsames_spec (globEFM m) (globEFM_err m) (globEFM_fine m) (globEFM_max m) s0 s1) (W := W) (args := #[.string (bs s0), .string (bs s1)]) (globEFM_ok ⟨gsames_fine hL, gsames_err hL⟩ hm) rfl (RD.at2 hrd0 hrd1)).mono fun e W' ⟨he, hb⟩ => ?_
  subst he
  exact ⟨_, rfl, _, _, _, [], _, [], hW', trodAll_mk1 (shut_bool Tryz.underlying4 _), hback W' hb, rfl, hb.frame _, fun h => by cases h⟩

theorem gsames_holds : Rows.GateSamesSaid :=
  OpenClaim.holds_of_wide 6 Tryz.f6 rfl rfl rfl rfl rfl rfl rfl ⟨rfl, rfl, rfl, rfl, rfl⟩ rfl rfl rfl rfl rfl (by kernel_rfl) Tryz.func6 (by kernel_rfl)
    (of_decide_eq_true (by kernel_rfl)) (by unfold Func.isWrapper; first | (rw [if_pos (by decide +kernel)]; kernel_rfl) | (rw [if_neg (by decide +kernel)]; exact ⟨rfl, rfl⟩))
    (fun os started H enc _ => gsames_lifted os started H enc)

theorem gsames_card : Rows.GateSamesCardSaid :=
  Claim7.holds_tied_plain_at .later [] [.data, .handle, .data, .pinned] true Rows.gateSamesCard.stood.harness true
    gsames_holds (fun _ h => by cases h) (by kernel_rfl) (fun _ h => by cases h) gateSames_row_tie rfl ⟨rfl, rfl⟩ (by kernel_rfl) rfl
    (fun f fn hf hfn => by
      obtain rfl : f = 6 := Option.some.inj ((show Tryz.prog.funcNamed "signalcabin/signalcabinlaw.GateSames" = some 6 by kernel_rfl).symm.trans hf) |>.symm
      obtain rfl : fn = Tryz.f6 := (Option.some.inj (Tryz.func6.symm.trans hfn)).symm
      exact ⟨by kernel_rfl, fun j t ht => by
        rw [Tryz.params6] at ht
        have hm : t ∈ [9, 9] := by simpa using Array.mem_of_getElem? ht
        have hall : ([9, 9].all fun u => !Tryz.prog.wantsStandIn u) = true := by kernel_rfl
        exact (show Tryz.prog.wantsStandIn t = false by simpa using List.all_eq_true.1 hall t hm)⟩)
    (by kernel_rfl)
#print axioms gsames_card
end Go.Proofs.YtagfbbnlbncjlaaGreatDoor
