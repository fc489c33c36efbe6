/-
  Proved: for every word and all steps whatever, LassoPush answers true and leaves its arguments as they were, where lasso.arity and unicode/utf8's two tables are laid as the program's own text lays them (the card's tie). No other condition.
-/
import Derived.Test.YtblafkekblaibaaDoorLp5
import Derived.Test.YtblafkekblaibaaDoorCards
import Derived.Test.YtblafkekblaibaaDoorTie
import Derived.ChangeSame
import Derived.ChangeVars
import Derived.ChangeMaps5
import Derived.JoinedOf
import Derived.LaidMore
namespace Go.Proofs.YtblafkekblaibaaDoor
set_option linter.unusedSimpArgs false
set_option linter.unusedVariables false
open Go.Av Go.ChangeShapes Go.WideShapes Go.ChangeAt Go.RowKit

def laid_lpush : List (String × DataW Unit) := Rows.lassoPushRow.laid
set_option maxRecDepth 100000 in
theorem lpush_split : laid_lpush.filter (fun x => x.2.handleName?.isNone) = laid_lpush := by kernel_rfl
theorem lpush_keep : laid_lpush.filter (fun x => x.1 == "signalcabin/lasso.arity") = laidA := by kernel_rfl
theorem lpush_arity {W : World} (h : laidMetH Tryd.prog laid_lpush W) : laidMet Tryd.prog laidA W := by
  have h1 : laidMet Tryd.prog laid_lpush W := by have := (laidMetH_iff.1 h).1; rwa [lpush_split] at this
  have := h1.filter fun x => x.1 == "signalcabin/lasso.arity"
  rwa [lpush_keep] at this
noncomputable def world_lpush (os : Os) : World := World.laidAll Tryd.prog os laid_lpush
set_option maxRecDepth 100000 in
theorem lpush_met (os : Os) (args : Array Value) : laidMetH Tryd.prog laid_lpush ((world_lpush os).forCall (fun _ _ => 0) ⟨#[], args, []⟩).memory := by
  refine laidMetH_of_parts ?_ (by kernel_rfl)
  have e : (laid_lpush.filter fun x => x.2.handleName?.isNone) = laid_lpush := lpush_split
  rw [e]
  exact laidMet_laidAll args (by kernel_rfl) (by kernel_rfl)
def globA : Glob := fun g => if g = 1 then some (.ip (arityL.map dNum)) else none
theorem globA_arity : HasArity globA := rfl
theorem globA_ok {W : World} (ha : laidMet Tryd.prog laidA W) : ∀ g x, globA g = some x → RD W (fun _ => False) (.pointer (some ⟨g, 0, none⟩)) x := fun g x hx => by
  unfold globA at hx
  split at hx
  · rename_i hg
    subst hg
    obtain rfl := Option.some.inj hx
    exact RD.ints (by simp) (by decide) (arity_of_met ha)
  · cases hx

set_option maxRecDepth 100000 in
theorem lpush_lifted (os : Os) (started : os.Started) (H : Type) (enc : TypeId × Value → H) :
    ReturnsInHanded {} Tryd.checked os 4 .any (fun w args => (Rows.lassoPushSpec.pre enc Tryd.prog Tryd.f4 [] false w args ∧ laidMetH Tryd.prog laid_lpush w) ∧ sizedMet enc Tryd.prog Tryd.f4 (OpenSpec.ofChange Rows.lassoPushSpec) false w args)
      (Rows.lassoPushSpec.post enc Tryd.prog Tryd.f4 false true false false) := by
  refine returnsInHanded_of_change_and (C := Tryd.checked) (X := fun w _ => laidMetH Tryd.prog laid_lpush w) (fun _ _ _ hh h => h.of_heap hh) law_own started (by kernel_rfl) Tryd.func4
    (ChangeSpec.witness_shaped (enc := enc) (C := Tryd.checked) (os := os) (X := fun w _ => laidMetH Tryd.prog laid_lpush w) false (world_lpush os) #[.agg #[.slice none 0 0, .slice none 0 0], .slice none 0 0] 8 rfl (World.shaped_of_ZipB (by kernel_rfl) (by kernel_rfl)) (by kernel_rfl) (by kernel_rfl) (by kernel_rfl) (lpush_met os _)) ?_
  intro W base args ds gs before hval0 hW _ hwts hL _
  have hval : ∀ (j : Nat) t v, Tryd.f4.params[j]? = some t → args[j]? = some v → Value.okWide Tryd.prog W .any base t v := hval0
  have hW' := hW
  obtain ⟨p, q, hA0, hV, rfl, hfz, hnd⟩ := hW
  have hA : DataW.TrodAll enc Tryd.prog W 0 (fun _ => true) true Tryd.f4.params.toList args.toList ds p := hA0
  have hlt : ∀ x ∈ p, x.block < W.heap.size := fun x hx => by simpa using hW'.lt x (by simp [hx])
  have hback : ∀ W', Below W.heap.size W W' → DataW.TrodAll enc Tryd.prog W' 0 (fun b => decide (b < W.heap.size)) true Tryd.f4.params.toList args.toList ds p := fun W' hb =>
    trodAll_below law_laidOut hb (by rw [Tryd.params4]; intro t ht; simp at ht; rcases ht with rfl | rfl <;> exact ⟨by kernel_rfl, of_decide_eq_true (by kernel_rfl)⟩) hA hlt
  have hwts : ∀ n ∈ DataW.weightsEach Tryd.prog (Tryd.f4.params.toList ++ DataSpec.varTypes Tryd.checked.prog Rows.lassoPushSpec.plain) (ds ++ gs), n ≤ reachBytes := fun n hn => by simpa using List.all_eq_true.1 hwts n hn
  rw [Tryd.params4] at hA hval hwts
  obtain ⟨v0, l0, d0, e0, a0, b0, hl0, rfl, rfl, h0, hA⟩ := trodAll_cons hA
  obtain ⟨v1, l1, d1, e1, a1, b1, rfl, rfl, rfl, h1, hA⟩ := trodAll_cons hA
  obtain ⟨rfl, rfl, rfl⟩ := trodAll_nil hA
  obtain rfl : args = #[v0, v1] := by
    apply Array.ext'
    simpa using hl0
  obtain ⟨rfl, rfl⟩ := trodVars_none hV
  obtain ⟨cs0, rfl, _⟩ := okWide_struct Tryd.underlying38 (hval 0 38 v0 rfl rfl)
  obtain ⟨sa1, sl1, sc1, rfl⟩ := okWide_slice Tryd.underlying39 (hval 1 39 v1 rfl rfl)
  obtain ⟨fuel0, hf0⟩ := h0
  obtain ⟨fuel1, hf1⟩ := h1
  have hb : reachBytes < 2^47 := by decide
  obtain ⟨s0, hs0, hr0⟩ := readsW_word (X := fun _ => False) (by simp) fuel0 _ _ hf0 (fun n hn => hwts n (by simp [DataW.weightsEach, hn]))
  have hrd0 := RD.of_cells ⟨cs0, rfl⟩ hr0
  obtain ⟨s1, ⟨hs1, hq1⟩, hr1⟩ := readsW_steps (X := fun _ => False) (by simp) fuel1 _ _ hf1 (fun n hn => hwts n (by simp [DataW.weightsEach, hn]))
  have hrd1 := RD.of_cell (by simp) hr1
  refine (law_callsG (push_law globA globA_arity s0.1 s0.2 hs0 s1 (by omega) (fun x hx => by have := hs1 x hx; omega)) (W := W) (args := #[.agg cs0, .slice sa1 sl1 sc1]) (globA_ok (lpush_arity hL)) rfl (RD.at2 hrd0 hrd1)).mono fun e W' ⟨he, hb⟩ => ?_
  subst he
  exact ⟨_, rfl, _, _, _, [], _, [], hW', trodAll_mk1 (shut_bool Tryd.underlying4 _), hback W' hb, rfl, hb.frame _, fun h => by cases h⟩

theorem lpush_holds : Rows.LassoPushSaid :=
  OpenClaim.holds_of_wide 4 Tryd.f4 rfl rfl rfl rfl rfl rfl rfl ⟨rfl, rfl, rfl, rfl, rfl⟩ rfl rfl rfl rfl rfl (by kernel_rfl) Tryd.func4 (by kernel_rfl)
    (of_decide_eq_true (by kernel_rfl)) (by unfold Func.isWrapper; first | (rw [if_pos (by decide +kernel)]; kernel_rfl) | (rw [if_neg (by decide +kernel)]; exact ⟨rfl, rfl⟩))
    (fun os started H enc _ => lpush_lifted os started H enc)

theorem lpush_card : Rows.LassoPushCardSaid :=
  Claim7.holds_tied_plain_at .later [] [.data, .data, .pinned] true Rows.lassoPushCard.stood.harness true
    lpush_holds (fun _ h => by cases h) (by kernel_rfl) (fun _ h => by cases h) lassoPush_row_tie rfl ⟨rfl, rfl⟩ (by kernel_rfl) rfl
    (fun f fn hf hfn => by
      obtain rfl : f = 4 := Option.some.inj ((show Tryd.prog.funcNamed "signalcabin/signalcabinkeep.LassoPush" = some 4 by kernel_rfl).symm.trans hf) |>.symm
      obtain rfl : fn = Tryd.f4 := (Option.some.inj (Tryd.func4.symm.trans hfn)).symm
      exact ⟨by kernel_rfl, fun j t ht => by
        rw [Tryd.params4] at ht
        have hm : t ∈ [38, 39] := by simpa using Array.mem_of_getElem? ht
        have hall : ([38, 39].all fun u => !Tryd.prog.wantsStandIn u) = true := by kernel_rfl
        exact (show Tryd.prog.wantsStandIn t = false by simpa using List.all_eq_true.1 hall t hm)⟩)
    (by kernel_rfl)
#print axioms lpush_card
end Go.Proofs.YtblafkekblaibaaDoor
