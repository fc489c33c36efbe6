/-
  Proved: for every argument whatever, GateMakes answers true and leaves its arguments as they were, where the package-level variables that the card names are laid as the program's own text lays them (the card's tie). No other condition.
-/
import Derived.Test.YtagfbbnlbncjlaaGreatDoorGm24
import Derived.Test.YtagfbbnlbncjlaaGreatDoorCards
import Derived.Test.YtagfbbnlbncjlaaGreatDoorTie
import Derived.ChangeSame
import Derived.ChangeVars
import Derived.ChangeMaps5
import Derived.JoinedOf
import Derived.LaidMore
import Derived.LaidLaws
import Derived.LaidHandle
import Derived.Lay
namespace Go.Proofs.YtagfbbnlbncjlaaGreatDoor
set_option linter.unusedSimpArgs false
set_option linter.unusedVariables false
open Go.Av Go.ChangeShapes Go.WideShapes Go.ChangeAt Go.RowKit

def laid_gmakes : List (String × DataW Unit) := Rows.gateMakesRow.laid
def laid3_gmakes : List (String × DataW Unit) := [("unicode/utf8.acceptRanges", Rows.laid_unicode_utf8_acceptRanges), ("signalcabin/signalcabinref.Fine", Rows.laid_signalcabin_signalcabinref_Fine), ("unicode/utf8.first", Rows.laid_unicode_utf8_first)]
set_option maxRecDepth 100000 in
theorem gmakes_split : laid_gmakes.filter (fun x => x.2.handleName?.isNone) = laid3_gmakes := by kernel_rfl
theorem gmakes_rest {W : World} (h : laidMetH Tryz.prog laid_gmakes W) : laidMet Tryz.prog laid3_gmakes W := by
  have := (laidMetH_iff.1 h).1; rwa [gmakes_split] at this
theorem gmakes_keep : laid3_gmakes.filter (fun x => x.1 == "signalcabin/signalcabinref.Fine") = laidF := by kernel_rfl
theorem gmakes_fine {W : World} (h : laidMetH Tryz.prog laid_gmakes W) : laidMet Tryz.prog laidF W := by
  have := (gmakes_rest h).filter fun x => x.1 == "signalcabin/signalcabinref.Fine"
  rwa [gmakes_keep] at this
set_option maxRecDepth 100000 in
theorem gmakes_handles : laid_gmakes.filter (fun x => x.2.handleName?.isSome) = laidE := by kernel_rfl
theorem gmakes_err {W : World} (h : laidMetH Tryz.prog laid_gmakes W) : handlesMet Tryz.prog laidE W := by
  have := h.2
  rw [← gmakes_handles]
  exact this
noncomputable def world_gmakes (os : Os) : World :=
  let w0 := World.laidAll Tryz.prog os laid3_gmakes
  { w0 with heap := w0.heap.modify 1 fun
      | .cells _ t frozen => .cells #[errType] t frozen
      | o => o }
set_option maxRecDepth 100000 in
theorem gmakes_met (os : Os) (args : Array Value) : laidMetH Tryz.prog laid_gmakes ((world_gmakes os).forCall (fun _ _ => 0) ⟨#[], args, []⟩).memory := by
  refine laidMetH_of_parts ?_ (by kernel_rfl)
  have e : (laid_gmakes.filter fun x => x.2.handleName?.isNone) = laid3_gmakes := gmakes_split
  rw [e]
  exact laidMet_of_run' 8 (by kernel_rfl) (by kernel_rfl)
set_option maxRecDepth 100000 in
theorem gmakes_lifted (os : Os) (started : os.Started) (H : Type) (enc : TypeId × Value → H) :
    ReturnsInHanded {} Tryz.checked os 4 .any (fun w args => (Rows.gateMakesSpec.pre enc Tryz.prog Tryz.f4 [] false w args ∧ laidMetH Tryz.prog laid_gmakes w) ∧ sizedMet enc Tryz.prog Tryz.f4 (OpenSpec.ofChange Rows.gateMakesSpec) false w args)
      (Rows.gateMakesSpec.post enc Tryz.prog Tryz.f4 false true false false) := by
  refine handed_both (C := Tryz.checked) (X := fun w _ => laidMetH Tryz.prog laid_gmakes w) (fun _ _ _ hh h => h.of_heap hh) law_own started (by kernel_rfl) Tryz.func4
    (ChangeSpec.witness_at (enc := enc) (C := Tryz.checked) (os := os) (X := fun w _ => laidMetH Tryz.prog laid_gmakes w) false (world_gmakes os) #[.string ⟨#[]⟩] 8 rfl (by kernel_rfl) (by kernel_rfl) (by kernel_rfl) (by kernel_rfl) (by kernel_rfl) (gmakes_met os _)) ?_
  intro W base args ds gs before hval0 hW hL hsh
  obtain ⟨m, hm⟩ := max_some hsh
  have hval : ∀ (j : Nat) t v, Tryz.f4.params[j]? = some t → args[j]? = some v → Value.okWide Tryz.prog W .any base t v := hval0
  have hW' := hW
  obtain ⟨p, q, hA0, hV, rfl, hfz, hnd⟩ := hW
  have hA : DataW.TrodAll enc Tryz.prog W 0 (fun _ => true) true Tryz.f4.params.toList args.toList ds p := hA0
  have hlt : ∀ x ∈ p, x.block < W.heap.size := fun x hx => by simpa using hW'.lt x (by simp [hx])
  have hback : ∀ W', Below W.heap.size W W' → DataW.TrodAll enc Tryz.prog W' 0 (fun b => decide (b < W.heap.size)) true Tryz.f4.params.toList args.toList ds p := fun W' hb =>
    trodAll_below law_laidOut hb (by rw [Tryz.params4]; intro t ht; simp at ht; subst ht <;> exact ⟨by kernel_rfl, of_decide_eq_true (by kernel_rfl)⟩) hA hlt
  rw [Tryz.params4] at hA hval
  obtain ⟨v0, l0, d0, e0, a0, b0, hl0, rfl, rfl, h0, hA⟩ := trodAll_cons hA
  obtain ⟨rfl, rfl, rfl⟩ := trodAll_nil hA
  obtain rfl : args = #[v0] := by
    apply Array.ext'
    simpa using hl0
  obtain ⟨rfl, rfl⟩ := trodVars_none hV
  obtain ⟨s0', rfl, rfl, rfl, _⟩ := Go.ChangeMaps.open_string Tryz.underlying9 (hval 0 9 v0 rfl rfl) h0
  obtain ⟨s0, rfl⟩ : ∃ s, s0' = bs s := ⟨s0'.data.toList, by cases s0'; simp [bs]⟩
  have hrd0 : RD W (fun _ => False) (.string (bs s0)) (dS s0) := .v _
  refine (law_callsG (gmakes_spec (globEFM m) (globEFM_err m) (globEFM_fine m) (globEFM_max m) s0) (W := W) (args := #[.string (bs s0)]) (globEFM_ok ⟨gmakes_fine hL, gmakes_err hL⟩ hm) rfl (RD.at1 hrd0)).mono fun e W' ⟨he, hb⟩ => ?_
  subst he
  exact ⟨_, rfl, _, _, _, [], _, [], hW', trodAll_mk1 (shut_bool Tryz.underlying4 _), hback W' hb, rfl, hb.frame _, fun h => by cases h⟩

theorem gmakes_holds : Rows.GateMakesSaid :=
  OpenClaim.holds_of_wide 4 Tryz.f4 rfl rfl rfl rfl rfl rfl rfl ⟨rfl, rfl, rfl, rfl, rfl⟩ rfl rfl rfl rfl rfl (by kernel_rfl) Tryz.func4 (by kernel_rfl)
    (of_decide_eq_true (by kernel_rfl)) (by unfold Func.isWrapper; first | (rw [if_pos (by decide +kernel)]; kernel_rfl) | (rw [if_neg (by decide +kernel)]; exact ⟨rfl, rfl⟩))
    (fun os started H enc _ => gmakes_lifted os started H enc)

theorem gmakes_card : Rows.GateMakesCardSaid :=
  Claim7.holds_tied_plain_at .later [] [.data, .handle, .data, .pinned] true Rows.gateMakesCard.stood.harness true
    gmakes_holds (fun _ h => by cases h) (by kernel_rfl) (fun _ h => by cases h) gateMakes_row_tie rfl ⟨rfl, rfl⟩ (by kernel_rfl) rfl
    (fun f fn hf hfn => by
      obtain rfl : f = 4 := Option.some.inj ((show Tryz.prog.funcNamed "signalcabin/signalcabinlaw.GateMakes" = some 4 by kernel_rfl).symm.trans hf) |>.symm
      obtain rfl : fn = Tryz.f4 := (Option.some.inj (Tryz.func4.symm.trans hfn)).symm
      exact ⟨by kernel_rfl, fun j t ht => by
        rw [Tryz.params4] at ht
        have hm : t ∈ [9] := by simpa using Array.mem_of_getElem? ht
        have hall : ([9].all fun u => !Tryz.prog.wantsStandIn u) = true := by kernel_rfl
        exact (show Tryz.prog.wantsStandIn t = false by simpa using List.all_eq_true.1 hall t hm)⟩)
    (by kernel_rfl)
#print axioms gmakes_card
end Go.Proofs.YtagfbbnlbncjlaaGreatDoor
