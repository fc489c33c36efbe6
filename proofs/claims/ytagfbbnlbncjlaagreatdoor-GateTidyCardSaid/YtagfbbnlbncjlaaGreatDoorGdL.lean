/-
  Proved: for every argument whatever, GateTidy answers true and leaves its arguments as they were, where the package-level variables that the card names are laid as the program's own text lays them (the card's tie). No other condition.
-/
import Derived.Test.YtagfbbnlbncjlaaGreatDoorGd23
import Derived.Test.YtagfbbnlbncjlaaGreatDoorCards
import Derived.Test.YtagfbbnlbncjlaaGreatDoorTie
import Derived.ChangeSame
import Derived.ChangeVars
import Derived.ChangeMaps5
import Derived.JoinedOf
import Derived.LaidMore
import Derived.LaidLaws
import Derived.LaidHandle
import Derived.Lay
namespace Go.Proofs.YtagfbbnlbncjlaaGreatDoor
set_option linter.unusedSimpArgs false
set_option linter.unusedVariables false
open Go.Av Go.ChangeShapes Go.WideShapes Go.ChangeAt Go.RowKit

def laid_gtidy : List (String × DataW Unit) := Rows.gateTidyRow.laid
def laid3_gtidy : List (String × DataW Unit) := [("unicode/utf8.acceptRanges", Rows.laid_unicode_utf8_acceptRanges), ("unicode/utf8.first", Rows.laid_unicode_utf8_first)]
set_option maxRecDepth 100000 in
theorem gtidy_split : laid_gtidy.filter (fun x => x.2.handleName?.isNone) = laid3_gtidy := by kernel_rfl
theorem gtidy_rest {W : World} (h : laidMetH Tryz.prog laid_gtidy W) : laidMet Tryz.prog laid3_gtidy W := by
  have := (laidMetH_iff.1 h).1; rwa [gtidy_split] at this
set_option maxRecDepth 100000 in
theorem gtidy_handles : laid_gtidy.filter (fun x => x.2.handleName?.isSome) = laidE := by kernel_rfl
theorem gtidy_err {W : World} (h : laidMetH Tryz.prog laid_gtidy W) : handlesMet Tryz.prog laidE W := by
  have := h.2
  rw [← gtidy_handles]
  exact this
noncomputable def world_gtidy (os : Os) : World :=
  let w0 := World.laidAll Tryz.prog os laid3_gtidy
  { w0 with heap := w0.heap.modify 1 fun
      | .cells _ t frozen => .cells #[errType] t frozen
      | o => o }
set_option maxRecDepth 100000 in
theorem gtidy_met (os : Os) (args : Array Value) : laidMetH Tryz.prog laid_gtidy ((world_gtidy os).forCall (fun _ _ => 0) ⟨#[], args, []⟩).memory := by
  refine laidMetH_of_parts ?_ (by kernel_rfl)
  have e : (laid_gtidy.filter fun x => x.2.handleName?.isNone) = laid3_gtidy := gtidy_split
  rw [e]
  exact laidMet_of_run' 8 (by kernel_rfl) (by kernel_rfl)
set_option maxRecDepth 100000 in
theorem gtidy_lifted (os : Os) (started : os.Started) (H : Type) (enc : TypeId × Value → H) :
    ReturnsInHanded {} Tryz.checked os 7 .any (fun w args => (Rows.gateTidySpec.pre enc Tryz.prog Tryz.f7 [] false w args ∧ laidMetH Tryz.prog laid_gtidy w) ∧ sizedMet enc Tryz.prog Tryz.f7 (OpenSpec.ofChange Rows.gateTidySpec) false w args)
      (Rows.gateTidySpec.post enc Tryz.prog Tryz.f7 false true false false) := by
  refine returnsInHanded_of_change_and (C := Tryz.checked) (X := fun w _ => laidMetH Tryz.prog laid_gtidy w) (fun _ _ _ hh h => h.of_heap hh) law_own started (by kernel_rfl) Tryz.func7
    (ChangeSpec.witness_at (enc := enc) (C := Tryz.checked) (os := os) (X := fun w _ => laidMetH Tryz.prog laid_gtidy w) false (world_gtidy os) #[.string ⟨#[]⟩, .string ⟨#[]⟩, .slice none 0 0, .slice none 0 0] 8 rfl (by kernel_rfl) (by kernel_rfl) (by kernel_rfl) (by kernel_rfl) (by kernel_rfl) (gtidy_met os _)) ?_
  intro W base args ds gs before hval0 hW _ hwts hL _
  have hval : ∀ (j : Nat) t v, Tryz.f7.params[j]? = some t → args[j]? = some v → Value.okWide Tryz.prog W .any base t v := hval0
  have hW' := hW
  obtain ⟨p, q, hA0, hV, rfl, hfz, hnd⟩ := hW
  have hA : DataW.TrodAll enc Tryz.prog W 0 (fun _ => true) true Tryz.f7.params.toList args.toList ds p := hA0
  have hlt : ∀ x ∈ p, x.block < W.heap.size := fun x hx => by simpa using hW'.lt x (by simp [hx])
  have hback : ∀ W', Below W.heap.size W W' → DataW.TrodAll enc Tryz.prog W' 0 (fun b => decide (b < W.heap.size)) true Tryz.f7.params.toList args.toList ds p := fun W' hb =>
    trodAll_below law_laidOut hb (by rw [Tryz.params7]; intro t ht; simp at ht; rcases ht with rfl | rfl <;> exact ⟨by kernel_rfl, of_decide_eq_true (by kernel_rfl)⟩) hA hlt
  rw [Tryz.params7] at hA hval
  obtain ⟨v0, l0, d0, e0, a0, b0, hl0, rfl, rfl, h0, hA⟩ := trodAll_cons hA
  obtain ⟨v1, l1, d1, e1, a1, b1, rfl, rfl, rfl, h1, hA⟩ := trodAll_cons hA
  obtain ⟨v2, l2, d2, e2, a2, b2, rfl, rfl, rfl, h2, hA⟩ := trodAll_cons hA
  obtain ⟨v3, l3, d3, e3, a3, b3, rfl, rfl, rfl, h3, hA⟩ := trodAll_cons hA
  obtain ⟨rfl, rfl, rfl⟩ := trodAll_nil hA
  obtain rfl : args = #[v0, v1, v2, v3] := by
    apply Array.ext'
    simpa using hl0
  obtain ⟨rfl, rfl⟩ := trodVars_none hV
  obtain ⟨s0', rfl, rfl, rfl, _⟩ := Go.ChangeMaps.open_string Tryz.underlying9 (hval 0 9 v0 rfl rfl) h0
  obtain ⟨s0, rfl⟩ : ∃ s, s0' = bs s := ⟨s0'.data.toList, by cases s0'; simp [bs]⟩
  have hrd0 : RD W (fun _ => False) (.string (bs s0)) (dS s0) := .v _
  obtain ⟨s1', rfl, rfl, rfl, _⟩ := Go.ChangeMaps.open_string Tryz.underlying9 (hval 1 9 v1 rfl rfl) h1
  obtain ⟨s1, rfl⟩ : ∃ s, s1' = bs s := ⟨s1'.data.toList, by cases s1'; simp [bs]⟩
  have hrd1 : RD W (fun _ => False) (.string (bs s1)) (dS s1) := .v _
  obtain ⟨sa2, sl2, sc2, rfl⟩ := okWide_slice Tryz.underlying34 (hval 2 34 v2 rfl rfl)
  obtain ⟨fuel2, hf2⟩ := h2
  obtain ⟨s2, _, hr2⟩ := reads_texts (X := fun _ => False) (by simp) fuel2 _ _ hf2
  have hrd2 := RD.of_cell (by simp) hr2
  obtain ⟨sa3, sl3, sc3, rfl⟩ := okWide_slice Tryz.underlying34 (hval 3 34 v3 rfl rfl)
  obtain ⟨fuel3, hf3⟩ := h3
  obtain ⟨s3, _, hr3⟩ := reads_texts (X := fun _ => False) (by simp) fuel3 _ _ hf3
  have hrd3 := RD.of_cell (by simp) hr3
  refine (law_callsG (gtidy_spec globE globE_err s0 s1 s2 s3) (W := W) (args := #[.string (bs s0), .string (bs s1), .slice sa2 sl2 sc2, .slice sa3 sl3 sc3]) (globE_ok (gtidy_err hL)) rfl (RD.at4 hrd0 hrd1 hrd2 hrd3)).mono fun e W' ⟨he, hb⟩ => ?_
  subst he
  exact ⟨_, rfl, _, _, _, [], _, [], hW', trodAll_mk1 (shut_bool Tryz.underlying4 _), hback W' hb, rfl, hb.frame _, fun h => by cases h⟩

theorem gtidy_holds : Rows.GateTidySaid :=
  OpenClaim.holds_of_wide 7 Tryz.f7 rfl rfl rfl rfl rfl rfl rfl ⟨rfl, rfl, rfl, rfl, rfl⟩ rfl rfl rfl rfl rfl (by kernel_rfl) Tryz.func7 (by kernel_rfl)
    (of_decide_eq_true (by kernel_rfl)) (by unfold Func.isWrapper; first | (rw [if_pos (by decide +kernel)]; kernel_rfl) | (rw [if_neg (by decide +kernel)]; exact ⟨rfl, rfl⟩))
    (fun os started H enc _ => gtidy_lifted os started H enc)

theorem gtidy_card : Rows.GateTidyCardSaid :=
  Claim7.holds_tied_plain_at .later [] [.data, .handle, .pinned] true Rows.gateTidyCard.stood.harness true
    gtidy_holds (fun _ h => by cases h) (by kernel_rfl) (fun _ h => by cases h) gateTidy_row_tie rfl ⟨rfl, rfl⟩ (by kernel_rfl) rfl
    (fun f fn hf hfn => by
      obtain rfl : f = 7 := Option.some.inj ((show Tryz.prog.funcNamed "signalcabin/signalcabinkeep.GateTidy" = some 7 by kernel_rfl).symm.trans hf) |>.symm
      obtain rfl : fn = Tryz.f7 := (Option.some.inj (Tryz.func7.symm.trans hfn)).symm
      exact ⟨by kernel_rfl, fun j t ht => by
        rw [Tryz.params7] at ht
        have hm : t ∈ [9, 9, 34, 34] := by simpa using Array.mem_of_getElem? ht
        have hall : ([9, 9, 34, 34].all fun u => !Tryz.prog.wantsStandIn u) = true := by kernel_rfl
        exact (show Tryz.prog.wantsStandIn t = false by simpa using List.all_eq_true.1 hall t hm)⟩)
    (by kernel_rfl)
#print axioms gtidy_card
end Go.Proofs.YtagfbbnlbncjlaaGreatDoor
