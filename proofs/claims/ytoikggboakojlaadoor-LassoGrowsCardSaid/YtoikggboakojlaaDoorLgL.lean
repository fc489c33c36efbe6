/-
  Proved: for every word and all steps whatever, LassoGrows answers true and leaves its arguments as they were, where lasso.arity and unicode/utf8's two tables are laid as the program's own text lays them (the card's tie). No other condition.
-/
import Derived.Test.YtoikggboakojlaaDoorLg6
import Derived.Test.YtoikggboakojlaaDoorCards
import Derived.Test.YtoikggboakojlaaDoorTie
import Derived.ChangeSame
import Derived.ChangeVars
import Derived.ChangeMaps5
import Derived.JoinedOf
import Derived.LaidMore
namespace Go.Proofs.YtoikggboakojlaaDoor
set_option linter.unusedSimpArgs false
set_option linter.unusedVariables false
open Go.Av Go.ChangeShapes Go.WideShapes Go.ChangeAt Go.RowKit

def laid_grows : List (String × DataW Unit) := Rows.lassoGrowsRow.laid
set_option maxRecDepth 100000 in
theorem grows_split : laid_grows.filter (fun x => x.2.handleName?.isNone) = laid_grows := by kernel_rfl
theorem grows_keep : laid_grows.filter (fun x => x.1 == "signalcabin/lasso.arity") = laidA := by kernel_rfl
theorem grows_arity {W : World} (h : laidMetH Tryd.prog laid_grows W) : laidMet Tryd.prog laidA W := by
  have h1 : laidMet Tryd.prog laid_grows W := by have := (laidMetH_iff.1 h).1; rwa [grows_split] at this
  have := h1.filter fun x => x.1 == "signalcabin/lasso.arity"
  rwa [grows_keep] at this
noncomputable def world_grows (os : Os) : World := World.laidAll Tryd.prog os laid_grows
set_option maxRecDepth 100000 in
theorem grows_met (os : Os) (args : Array Value) : laidMetH Tryd.prog laid_grows ((world_grows os).forCall (fun _ _ => 0) ⟨#[], args, []⟩).memory := by
  refine laidMetH_of_parts ?_ (by kernel_rfl)
  have e : (laid_grows.filter fun x => x.2.handleName?.isNone) = laid_grows := grows_split
  rw [e]
  exact laidMet_laidAll args (by kernel_rfl) (by kernel_rfl)
def globA : Glob := fun g => if g = 2 then some (.ip (arityL.map dNum)) else none
theorem globA_arity : HasArity globA := rfl
theorem globA_ok {W : World} (ha : laidMet Tryd.prog laidA W) : ∀ g x, globA g = some x → RD W (fun _ => False) (.pointer (some ⟨g, 0, none⟩)) x := fun g x hx => by
  unfold globA at hx
  split at hx
  · rename_i hg
    subst hg
    obtain rfl := Option.some.inj hx
    exact RD.ints (by simp) (by decide) (arity_of_met ha)
  · cases hx

set_option maxRecDepth 100000 in
theorem grows_lifted (os : Os) (started : os.Started) (H : Type) (enc : TypeId × Value → H) :
    ReturnsInHanded {} Tryd.checked os 9 .any (fun w args => (Rows.lassoGrowsSpec.pre enc Tryd.prog Tryd.f9 [] false w args ∧ laidMetH Tryd.prog laid_grows w) ∧ sizedMet enc Tryd.prog Tryd.f9 (OpenSpec.ofChange Rows.lassoGrowsSpec) false w args)
      (Rows.lassoGrowsSpec.post enc Tryd.prog Tryd.f9 false true false false) := by
  refine returnsInHanded_of_change_and (C := Tryd.checked) (X := fun w _ => laidMetH Tryd.prog laid_grows w) (fun _ _ _ hh h => h.of_heap hh) law_own started (by kernel_rfl) Tryd.func9
    (ChangeSpec.witness_shaped (enc := enc) (C := Tryd.checked) (os := os) (X := fun w _ => laidMetH Tryd.prog laid_grows w) false (world_grows os) #[.agg #[.slice none 0 0, .slice none 0 0], .slice none 0 0, .slice none 0 0] 8 rfl (World.shaped_of_ZipB (by kernel_rfl) (by kernel_rfl)) (by kernel_rfl) (by kernel_rfl) (by kernel_rfl) (grows_met os _)) ?_
  intro W base args ds gs before hval0 hW _ hwts hL _
  have hval : ∀ (j : Nat) t v, Tryd.f9.params[j]? = some t → args[j]? = some v → Value.okWide Tryd.prog W .any base t v := hval0
  have hW' := hW
  obtain ⟨p, q, hA0, hV, rfl, hfz, hnd⟩ := hW
  have hA : DataW.TrodAll enc Tryd.prog W 0 (fun _ => true) true Tryd.f9.params.toList args.toList ds p := hA0
  have hlt : ∀ x ∈ p, x.block < W.heap.size := fun x hx => by simpa using hW'.lt x (by simp [hx])
  have hback : ∀ W', Below W.heap.size W W' → DataW.TrodAll enc Tryd.prog W' 0 (fun b => decide (b < W.heap.size)) true Tryd.f9.params.toList args.toList ds p := fun W' hb =>
    trodAll_below law_laidOut hb (by rw [Tryd.params9]; intro t ht; simp at ht; rcases ht with rfl | rfl <;> exact ⟨by kernel_rfl, of_decide_eq_true (by kernel_rfl)⟩) hA hlt
  have hwts : ∀ n ∈ DataW.weightsEach Tryd.prog (Tryd.f9.params.toList ++ DataSpec.varTypes Tryd.checked.prog Rows.lassoGrowsSpec.plain) (ds ++ gs), n ≤ reachBytes := fun n hn => by simpa using List.all_eq_true.1 hwts n hn
  rw [Tryd.params9] at hA hval hwts
  obtain ⟨v0, l0, d0, e0, a0, b0, hl0, rfl, rfl, h0, hA⟩ := trodAll_cons hA
  obtain ⟨v1, l1, d1, e1, a1, b1, rfl, rfl, rfl, h1, hA⟩ := trodAll_cons hA
  obtain ⟨v2, l2, d2, e2, a2, b2, rfl, rfl, rfl, h2, hA⟩ := trodAll_cons hA
  obtain ⟨rfl, rfl, rfl⟩ := trodAll_nil hA
  obtain rfl : args = #[v0, v1, v2] := by
    apply Array.ext'
    simpa using hl0
  obtain ⟨rfl, rfl⟩ := trodVars_none hV
  obtain ⟨cs0, rfl, _⟩ := okWide_struct Tryd.underlying70 (hval 0 70 v0 rfl rfl)
  obtain ⟨sa1, sl1, sc1, rfl⟩ := okWide_slice Tryd.underlying71 (hval 1 71 v1 rfl rfl)
  obtain ⟨sa2, sl2, sc2, rfl⟩ := okWide_slice Tryd.underlying71 (hval 2 71 v2 rfl rfl)
  obtain ⟨fuel0, hf0⟩ := h0
  obtain ⟨fuel1, hf1⟩ := h1
  obtain ⟨fuel2, hf2⟩ := h2
  have hb : reachBytes < 2^47 := by decide
  obtain ⟨s0, hs0, hr0⟩ := readsW_word (X := fun _ => False) (by simp) fuel0 _ _ hf0 (fun n hn => hwts n (by simp [DataW.weightsEach, hn]))
  have hrd0 := RD.of_cells ⟨cs0, rfl⟩ hr0
  obtain ⟨s1, ⟨hs1, hq1⟩, hr1⟩ := readsW_steps (X := fun _ => False) (by simp) fuel1 _ _ hf1 (fun n hn => hwts n (by simp [DataW.weightsEach, hn]))
  have hrd1 := RD.of_cell (by simp) hr1
  obtain ⟨s2, ⟨hs2, hq2⟩, hr2⟩ := readsW_steps (X := fun _ => False) (by simp) fuel2 _ _ hf2 (fun n hn => hwts n (by simp [DataW.weightsEach, hn]))
  have hrd2 := RD.of_cell (by simp) hr2
  refine (law_callsG (grows_spec globA globA_arity s0.1 s0.2 hs0 s1 s2 (by omega) (by omega) (fun x hx => by have := hs1 x hx; omega) (fun x hx => by have := hs2 x hx; omega)) (W := W) (args := #[.agg cs0, .slice sa1 sl1 sc1, .slice sa2 sl2 sc2]) (globA_ok (grows_arity hL)) rfl (RD.at3 hrd0 hrd1 hrd2)).mono fun e W' ⟨he, hb⟩ => ?_
  subst he
  exact ⟨_, rfl, _, _, _, [], _, [], hW', trodAll_mk1 (shut_bool Tryd.underlying4 _), hback W' hb, rfl, hb.frame _, fun h => by cases h⟩

theorem grows_holds : Rows.LassoGrowsSaid :=
  OpenClaim.holds_of_wide 9 Tryd.f9 rfl rfl rfl rfl rfl rfl rfl ⟨rfl, rfl, rfl, rfl, rfl⟩ rfl rfl rfl rfl rfl (by kernel_rfl) Tryd.func9 (by kernel_rfl)
    (of_decide_eq_true (by kernel_rfl)) (by unfold Func.isWrapper; first | (rw [if_pos (by decide +kernel)]; kernel_rfl) | (rw [if_neg (by decide +kernel)]; exact ⟨rfl, rfl⟩))
    (fun os started H enc _ => grows_lifted os started H enc)

theorem grows_card : Rows.LassoGrowsCardSaid :=
  Claim7.holds_tied_plain_at .later [] [.data, .data, .pinned] true Rows.lassoGrowsCard.stood.harness true
    grows_holds (fun _ h => by cases h) (by kernel_rfl) (fun _ h => by cases h) lassoGrows_row_tie rfl ⟨rfl, rfl⟩ (by kernel_rfl) rfl
    (fun f fn hf hfn => by
      obtain rfl : f = 9 := Option.some.inj ((show Tryd.prog.funcNamed "signalcabin/signalcabinkeep.LassoGrows" = some 9 by kernel_rfl).symm.trans hf) |>.symm
      obtain rfl : fn = Tryd.f9 := (Option.some.inj (Tryd.func9.symm.trans hfn)).symm
      exact ⟨by kernel_rfl, fun j t ht => by
        rw [Tryd.params9] at ht
        have hm : t ∈ [70, 71, 71] := by simpa using Array.mem_of_getElem? ht
        have hall : ([70, 71, 71].all fun u => !Tryd.prog.wantsStandIn u) = true := by kernel_rfl
        exact (show Tryd.prog.wantsStandIn t = false by simpa using List.all_eq_true.1 hall t hm)⟩)
    (by kernel_rfl)
#print axioms grows_card
end Go.Proofs.YtoikggboakojlaaDoor
