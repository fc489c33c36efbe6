/-
  Proved: for every argument whatever, ExprTidies answers true and leaves its arguments as they were, where the package-level variables that the card names are laid as the program's own text lays them (the card's tie). No other condition.
-/
import Derived.Test.YtfehigldhedkgaaDoorEd17
import Derived.Test.YtfehigldhedkgaaDoorCards
import Derived.Test.YtfehigldhedkgaaDoorTie
import Derived.ChangeSame
import Derived.ChangeVars
import Derived.ChangeMaps5
import Derived.JoinedOf
import Derived.LaidMore
import Derived.LaidLaws
import Derived.LaidHandle
import Derived.Lay
namespace Go.Proofs.YtfehigldhedkgaaDoor
set_option linter.unusedSimpArgs false
set_option linter.unusedVariables false
open Go.Av Go.ChangeShapes Go.WideShapes Go.ChangeAt Go.RowKit

def laid_etidies : List (String × DataW Unit) := Rows.exprTidiesRow.laid
def laid3_etidies : List (String × DataW Unit) := [("unicode/utf8.acceptRanges", Rows.laid_unicode_utf8_acceptRanges), ("signalcabin/signalcabinref.Fine", Rows.laid_signalcabin_signalcabinref_Fine), ("unicode/utf8.first", Rows.laid_unicode_utf8_first)]
set_option maxRecDepth 100000 in
theorem etidies_split : laid_etidies.filter (fun x => x.2.handleName?.isNone) = laid3_etidies := by kernel_rfl
theorem etidies_rest {W : World} (h : laidMetH Tryd.prog laid_etidies W) : laidMet Tryd.prog laid3_etidies W := by
  have := (laidMetH_iff.1 h).1; rwa [etidies_split] at this
theorem etidies_keep : laid3_etidies.filter (fun x => x.1 == "signalcabin/signalcabinref.Fine") = laidF := by kernel_rfl
theorem etidies_fine {W : World} (h : laidMetH Tryd.prog laid_etidies W) : laidMet Tryd.prog laidF W := by
  have := (etidies_rest h).filter fun x => x.1 == "signalcabin/signalcabinref.Fine"
  rwa [etidies_keep] at this
noncomputable def world_etidies (os : Os) : World := World.laidAll Tryd.prog os laid_etidies
set_option maxRecDepth 100000 in
theorem etidies_met (os : Os) (args : Array Value) : laidMetH Tryd.prog laid_etidies ((world_etidies os).forCall (fun _ _ => 0) ⟨#[], args, []⟩).memory := by
  refine laidMetH_of_parts ?_ (by kernel_rfl)
  have e : (laid_etidies.filter fun x => x.2.handleName?.isNone) = laid_etidies := by kernel_rfl
  rw [e]
  exact laidMet_laidAll args (by kernel_rfl) (by kernel_rfl)
set_option maxRecDepth 100000 in
theorem etidies_lifted (os : Os) (started : os.Started) (H : Type) (enc : TypeId × Value → H) :
    ReturnsInHanded {} Tryd.checked os 5 .any (fun w args => (Rows.exprTidiesSpec.pre enc Tryd.prog Tryd.f5 [] false w args ∧ laidMetH Tryd.prog laid_etidies w) ∧ sizedMet enc Tryd.prog Tryd.f5 (OpenSpec.ofChange Rows.exprTidiesSpec) false w args)
      (Rows.exprTidiesSpec.post enc Tryd.prog Tryd.f5 false true false false) := by
  refine returnsInHanded_of_change_and (C := Tryd.checked) (X := fun w _ => laidMetH Tryd.prog laid_etidies w) (fun _ _ _ hh h => h.of_heap hh) law_own started (by kernel_rfl) Tryd.func5
    (ChangeSpec.witness_shaped (enc := enc) (C := Tryd.checked) (os := os) (X := fun w _ => laidMetH Tryd.prog laid_etidies w) false (world_etidies os) #[.string ⟨#[]⟩] 8 rfl (World.shaped_of_ZipB (by kernel_rfl) (by kernel_rfl)) (by kernel_rfl) (by kernel_rfl) (by kernel_rfl) (etidies_met os _)) ?_
  intro W base args ds gs before hval0 hW _ hwts hL _
  have hval : ∀ (j : Nat) t v, Tryd.f5.params[j]? = some t → args[j]? = some v → Value.okWide Tryd.prog W .any base t v := hval0
  have hW' := hW
  obtain ⟨p, q, hA0, hV, rfl, hfz, hnd⟩ := hW
  have hA : DataW.TrodAll enc Tryd.prog W 0 (fun _ => true) true Tryd.f5.params.toList args.toList ds p := hA0
  have hlt : ∀ x ∈ p, x.block < W.heap.size := fun x hx => by simpa using hW'.lt x (by simp [hx])
  have hback : ∀ W', Below W.heap.size W W' → DataW.TrodAll enc Tryd.prog W' 0 (fun b => decide (b < W.heap.size)) true Tryd.f5.params.toList args.toList ds p := fun W' hb =>
    trodAll_below law_laidOut hb (by rw [Tryd.params5]; intro t ht; simp at ht; subst ht <;> exact ⟨by kernel_rfl, of_decide_eq_true (by kernel_rfl)⟩) hA hlt
  rw [Tryd.params5] at hA hval
  obtain ⟨v0, l0, d0, e0, a0, b0, hl0, rfl, rfl, h0, hA⟩ := trodAll_cons hA
  obtain ⟨rfl, rfl, rfl⟩ := trodAll_nil hA
  obtain rfl : args = #[v0] := by
    apply Array.ext'
    simpa using hl0
  obtain ⟨rfl, rfl⟩ := trodVars_none hV
  obtain ⟨s0', rfl, rfl, rfl, _⟩ := Go.ChangeMaps.open_string Tryd.underlying9 (hval 0 9 v0 rfl rfl) h0
  obtain ⟨s0, rfl⟩ : ∃ s, s0' = bs s := ⟨s0'.data.toList, by cases s0'; simp [bs]⟩
  have hrd0 : RD W (fun _ => False) (.string (bs s0)) (dS s0) := .v _
  refine (law_callsG (etidies_spec globF globF_fine s0) (W := W) (args := #[.string (bs s0)]) (globF_ok (etidies_fine hL)) rfl (RD.at1 hrd0)).mono fun e W' ⟨he, hb⟩ => ?_
  subst he
  exact ⟨_, rfl, _, _, _, [], _, [], hW', trodAll_mk1 (shut_bool Tryd.underlying4 _), hback W' hb, rfl, hb.frame _, fun h => by cases h⟩

theorem etidies_holds : Rows.ExprTidiesSaid :=
  OpenClaim.holds_of_wide 5 Tryd.f5 rfl rfl rfl rfl rfl rfl rfl ⟨rfl, rfl, rfl, rfl, rfl⟩ rfl rfl rfl rfl rfl (by kernel_rfl) Tryd.func5 (by kernel_rfl)
    (of_decide_eq_true (by kernel_rfl)) (by unfold Func.isWrapper; first | (rw [if_pos (by decide +kernel)]; kernel_rfl) | (rw [if_neg (by decide +kernel)]; exact ⟨rfl, rfl⟩))
    (fun os started H enc _ => etidies_lifted os started H enc)

theorem etidies_card : Rows.ExprTidiesCardSaid :=
  Claim7.holds_tied_plain_at .later [] [.data, .data, .pinned] true Rows.exprTidiesCard.stood.harness true
    etidies_holds (fun _ h => by cases h) (by kernel_rfl) (fun _ h => by cases h) exprTidies_row_tie rfl ⟨rfl, rfl⟩ (by kernel_rfl) rfl
    (fun f fn hf hfn => by
      obtain rfl : f = 5 := Option.some.inj ((show Tryd.prog.funcNamed "signalcabin/signalcabinlaw.ExprTidies" = some 5 by kernel_rfl).symm.trans hf) |>.symm
      obtain rfl : fn = Tryd.f5 := (Option.some.inj (Tryd.func5.symm.trans hfn)).symm
      exact ⟨by kernel_rfl, fun j t ht => by
        rw [Tryd.params5] at ht
        have hm : t ∈ [9] := by simpa using Array.mem_of_getElem? ht
        have hall : ([9].all fun u => !Tryd.prog.wantsStandIn u) = true := by kernel_rfl
        exact (show Tryd.prog.wantsStandIn t = false by simpa using List.all_eq_true.1 hall t hm)⟩)
    (by kernel_rfl)
#print axioms etidies_card
end Go.Proofs.YtfehigldhedkgaaDoor
