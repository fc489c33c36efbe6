/-
  Proved: for every argument whatever, ExprTidy answers true and leaves its arguments as they were, where the package-level variables that the card names are laid as the program's own text lays them (the card's tie). No other condition.
-/
import Derived.Test.YtfehigldhedkgaaDoorEx15
import Derived.Test.YtfehigldhedkgaaDoorCards
import Derived.Test.YtfehigldhedkgaaDoorTie
import Derived.ChangeSame
import Derived.ChangeVars
import Derived.ChangeMaps5
import Derived.JoinedOf
import Derived.LaidMore
import Derived.LaidLaws
import Derived.LaidHandle
import Derived.Lay
namespace Go.Proofs.YtfehigldhedkgaaDoor
set_option linter.unusedSimpArgs false
set_option linter.unusedVariables false
open Go.Av Go.ChangeShapes Go.WideShapes Go.ChangeAt Go.RowKit

def laid_etidy : List (String × DataW Unit) := Rows.exprTidyRow.laid
def laid3_etidy : List (String × DataW Unit) := [("unicode/utf8.acceptRanges", Rows.laid_unicode_utf8_acceptRanges), ("unicode/utf8.first", Rows.laid_unicode_utf8_first)]
set_option maxRecDepth 100000 in
theorem etidy_split : laid_etidy.filter (fun x => x.2.handleName?.isNone) = laid3_etidy := by kernel_rfl
theorem etidy_rest {W : World} (h : laidMetH Tryd.prog laid_etidy W) : laidMet Tryd.prog laid3_etidy W := by
  have := (laidMetH_iff.1 h).1; rwa [etidy_split] at this
noncomputable def world_etidy (os : Os) : World := World.laidAll Tryd.prog os laid_etidy
set_option maxRecDepth 100000 in
theorem etidy_met (os : Os) (args : Array Value) : laidMetH Tryd.prog laid_etidy ((world_etidy os).forCall (fun _ _ => 0) ⟨#[], args, []⟩).memory := by
  refine laidMetH_of_parts ?_ (by kernel_rfl)
  have e : (laid_etidy.filter fun x => x.2.handleName?.isNone) = laid_etidy := by kernel_rfl
  rw [e]
  exact laidMet_laidAll args (by kernel_rfl) (by kernel_rfl)
set_option maxRecDepth 100000 in
theorem etidy_lifted (os : Os) (started : os.Started) (H : Type) (enc : TypeId × Value → H) :
    ReturnsInHanded {} Tryd.checked os 6 .any (fun w args => (Rows.exprTidySpec.pre enc Tryd.prog Tryd.f6 [] false w args ∧ laidMetH Tryd.prog laid_etidy w) ∧ sizedMet enc Tryd.prog Tryd.f6 (OpenSpec.ofChange Rows.exprTidySpec) false w args)
      (Rows.exprTidySpec.post enc Tryd.prog Tryd.f6 false true false false) := by
  refine returnsInHanded_of_change_and (C := Tryd.checked) (X := fun w _ => laidMetH Tryd.prog laid_etidy w) (fun _ _ _ hh h => h.of_heap hh) law_own started (by kernel_rfl) Tryd.func6
    (ChangeSpec.witness_shaped (enc := enc) (C := Tryd.checked) (os := os) (X := fun w _ => laidMetH Tryd.prog laid_etidy w) false (world_etidy os) #[.string ⟨#[]⟩, .slice none 0 0, .slice none 0 0] 8 rfl (World.shaped_of_ZipB (by kernel_rfl) (by kernel_rfl)) (by kernel_rfl) (by kernel_rfl) (by kernel_rfl) (etidy_met os _)) ?_
  intro W base args ds gs before hval0 hW _ hwts hL _
  have hval : ∀ (j : Nat) t v, Tryd.f6.params[j]? = some t → args[j]? = some v → Value.okWide Tryd.prog W .any base t v := hval0
  have hW' := hW
  obtain ⟨p, q, hA0, hV, rfl, hfz, hnd⟩ := hW
  have hA : DataW.TrodAll enc Tryd.prog W 0 (fun _ => true) true Tryd.f6.params.toList args.toList ds p := hA0
  have hlt : ∀ x ∈ p, x.block < W.heap.size := fun x hx => by simpa using hW'.lt x (by simp [hx])
  have hback : ∀ W', Below W.heap.size W W' → DataW.TrodAll enc Tryd.prog W' 0 (fun b => decide (b < W.heap.size)) true Tryd.f6.params.toList args.toList ds p := fun W' hb =>
    trodAll_below law_laidOut hb (by rw [Tryd.params6]; intro t ht; simp at ht; rcases ht with rfl | rfl <;> exact ⟨by kernel_rfl, of_decide_eq_true (by kernel_rfl)⟩) hA hlt
  rw [Tryd.params6] at hA hval
  obtain ⟨v0, l0, d0, e0, a0, b0, hl0, rfl, rfl, h0, hA⟩ := trodAll_cons hA
  obtain ⟨v1, l1, d1, e1, a1, b1, rfl, rfl, rfl, h1, hA⟩ := trodAll_cons hA
  obtain ⟨v2, l2, d2, e2, a2, b2, rfl, rfl, rfl, h2, hA⟩ := trodAll_cons hA
  obtain ⟨rfl, rfl, rfl⟩ := trodAll_nil hA
  obtain rfl : args = #[v0, v1, v2] := by
    apply Array.ext'
    simpa using hl0
  obtain ⟨rfl, rfl⟩ := trodVars_none hV
  obtain ⟨s0', rfl, rfl, rfl, _⟩ := Go.ChangeMaps.open_string Tryd.underlying9 (hval 0 9 v0 rfl rfl) h0
  obtain ⟨s0, rfl⟩ : ∃ s, s0' = bs s := ⟨s0'.data.toList, by cases s0'; simp [bs]⟩
  have hrd0 : RD W (fun _ => False) (.string (bs s0)) (dS s0) := .v _
  obtain ⟨sa1, sl1, sc1, rfl⟩ := okWide_slice Tryd.underlying49 (hval 1 49 v1 rfl rfl)
  obtain ⟨fuel1, hf1⟩ := h1
  obtain ⟨s1, _, hr1⟩ := reads_texts (X := fun _ => False) (by simp) fuel1 _ _ hf1
  have hrd1 := RD.of_cell (by simp) hr1
  obtain ⟨sa2, sl2, sc2, rfl⟩ := okWide_slice Tryd.underlying49 (hval 2 49 v2 rfl rfl)
  obtain ⟨fuel2, hf2⟩ := h2
  obtain ⟨s2, _, hr2⟩ := reads_texts (X := fun _ => False) (by simp) fuel2 _ _ hf2
  have hrd2 := RD.of_cell (by simp) hr2
  refine (law_callsG (etidy_spec (fun _ => none) s0 s1 s2) (W := W) (args := #[.string (bs s0), .slice sa1 sl1 sc1, .slice sa2 sl2 sc2]) (fun g x h => by cases h) rfl (RD.at3 hrd0 hrd1 hrd2)).mono fun e W' ⟨he, hb⟩ => ?_
  subst he
  exact ⟨_, rfl, _, _, _, [], _, [], hW', trodAll_mk1 (shut_bool Tryd.underlying4 _), hback W' hb, rfl, hb.frame _, fun h => by cases h⟩

theorem etidy_holds : Rows.ExprTidySaid :=
  OpenClaim.holds_of_wide 6 Tryd.f6 rfl rfl rfl rfl rfl rfl rfl ⟨rfl, rfl, rfl, rfl, rfl⟩ rfl rfl rfl rfl rfl (by kernel_rfl) Tryd.func6 (by kernel_rfl)
    (of_decide_eq_true (by kernel_rfl)) (by unfold Func.isWrapper; first | (rw [if_pos (by decide +kernel)]; kernel_rfl) | (rw [if_neg (by decide +kernel)]; exact ⟨rfl, rfl⟩))
    (fun os started H enc _ => etidy_lifted os started H enc)

theorem etidy_card : Rows.ExprTidyCardSaid :=
  Claim7.holds_tied_plain_at .later [] [.data, .pinned] true Rows.exprTidyCard.stood.harness true
    etidy_holds (fun _ h => by cases h) (by kernel_rfl) (fun _ h => by cases h) exprTidy_row_tie rfl ⟨rfl, rfl⟩ (by kernel_rfl) rfl
    (fun f fn hf hfn => by
      obtain rfl : f = 6 := Option.some.inj ((show Tryd.prog.funcNamed "signalcabin/signalcabinkeep.ExprTidy" = some 6 by kernel_rfl).symm.trans hf) |>.symm
      obtain rfl : fn = Tryd.f6 := (Option.some.inj (Tryd.func6.symm.trans hfn)).symm
      exact ⟨by kernel_rfl, fun j t ht => by
        rw [Tryd.params6] at ht
        have hm : t ∈ [9, 49, 49] := by simpa using Array.mem_of_getElem? ht
        have hall : ([9, 49, 49].all fun u => !Tryd.prog.wantsStandIn u) = true := by kernel_rfl
        exact (show Tryd.prog.wantsStandIn t = false by simpa using List.all_eq_true.1 hall t hm)⟩)
    (by kernel_rfl)
#print axioms etidy_card
end Go.Proofs.YtfehigldhedkgaaDoor
