/-
  Proved: for every number and all clauses whatever, GateSolves answers true and leaves its arguments as they were, where errors.errorType and signalcabinref.Fine are laid as the program's own text lays them (the card's tie). No other condition.
-/
import Derived.Test.YtoikggboakojlaaDoorGs4
import Derived.Test.YtoikggboakojlaaDoorCards
import Derived.Test.YtoikggboakojlaaDoorTie
import Derived.ChangeSame
import Derived.ChangeVars
import Derived.JoinedOf
namespace Go.Proofs.YtoikggboakojlaaDoor
set_option linter.unusedSimpArgs false
set_option linter.unusedVariables false
open Go.Av Go.ChangeShapes Go.WideShapes Go.ChangeAt Go.RowKit

theorem by_int : 0 < Tryd.prog.bytesOf 3 := by
  have h : Tryd.prog.bytesOf 3 = 8 := by kernel_rfl
  omega
theorem by_ints : 0 < Tryd.prog.bytesOf 32 := by
  have h : Tryd.prog.bytesOf 32 = 24 := by kernel_rfl
  omega
section
variable {H : Type} {enc : TypeId × Value → H} {w : World} {base : Nat} {spare : Nat → Bool} {held : Bool} {X : Nat → Prop}
theorem readsW_ints (hX : ∀ b, ¬ X b) : ReadsW enc Tryd.prog w base spare held X 32 (fun l : List Int => l.length ≤ reachBytes) (fun l => [dRow l]) := by
  intro fuel cs x h hwt
  obtain ⟨l, ⟨_, h2⟩, hr⟩ := readsW_slice Tryd.underlying32 cells_int (by omega) by_int hX (ReadsAs.weighed (reads_int Tryd.underlying3)) fuel cs x h hwt
  exact ⟨l, h2, hr⟩
theorem readsW_cl (hX : ∀ b, ¬ X b) : ReadsW enc Tryd.prog w base spare held X 23 (fun l : List (List Int) => (∀ c ∈ l, c.length ≤ reachBytes) ∧ l.length ≤ reachBytes) (fun l => [dRows l]) := readsW_slice Tryd.underlying23 cells_ints (by omega) by_ints hX (readsW_ints hX)
end

set_option maxRecDepth 100000 in
theorem gsolves_lifted (os : Os) (started : os.Started) (H : Type) (enc : TypeId × Value → H) :
    ReturnsInHanded {} Tryd.checked os 6 .any (fun w args => (Rows.gateSolvesSpec.pre enc Tryd.prog Tryd.f6 [] false w args ∧ laidMetH Tryd.prog laidEF w) ∧ sizedMet enc Tryd.prog Tryd.f6 (OpenSpec.ofChange Rows.gateSolvesSpec) false w args)
      (Rows.gateSolvesSpec.post enc Tryd.prog Tryd.f6 false true false false) := by
  refine returnsInHanded_of_change_and (C := Tryd.checked) (X := fun w _ => laidMetH Tryd.prog laidEF w) (fun _ _ _ hh h => h.of_heap hh) law_own started (by kernel_rfl) Tryd.func6
    (ChangeSpec.witness_at (enc := enc) (C := Tryd.checked) (os := os) (X := fun w _ => laidMetH Tryd.prog laidEF w) false (worldEF os) #[.int .i64 0, .slice none 0 0] 8 rfl (by kernel_rfl) (by kernel_rfl) (by kernel_rfl) (by kernel_rfl) (by kernel_rfl) (worldEF_met os _)) ?_
  intro W base args ds gs before hval0 hW _ hwts hL _
  have hval : ∀ (j : Nat) t v, Tryd.f6.params[j]? = some t → args[j]? = some v → Value.okWide Tryd.prog W .any base t v := hval0
  have hW' := hW
  obtain ⟨p, q, hA0, hV, rfl, hfz, hnd⟩ := hW
  have hA : DataW.TrodAll enc Tryd.prog W 0 (fun _ => true) true Tryd.f6.params.toList args.toList ds p := hA0
  have hlt : ∀ x ∈ p, x.block < W.heap.size := fun x hx => by simpa using hW'.lt x (by simp [hx])
  have hback : ∀ W', Below W.heap.size W W' → DataW.TrodAll enc Tryd.prog W' 0 (fun b => decide (b < W.heap.size)) true Tryd.f6.params.toList args.toList ds p := fun W' hb =>
    trodAll_below law_laidOut hb (by rw [Tryd.params6]; intro t ht; simp at ht; rcases ht with rfl | rfl <;> exact ⟨by kernel_rfl, of_decide_eq_true (by kernel_rfl)⟩) hA hlt
  have hwts : ∀ n ∈ DataW.weightsEach Tryd.prog (Tryd.f6.params.toList ++ DataSpec.varTypes Tryd.checked.prog Rows.gateSolvesSpec.plain) (ds ++ gs), n ≤ reachBytes := fun n hn => by simpa using List.all_eq_true.1 hwts n hn
  rw [Tryd.params6] at hA hval hwts
  obtain ⟨v0, l0, d0, e0, a0, b0, hl0, rfl, rfl, h0, hA⟩ := trodAll_cons hA
  obtain ⟨v1, l1, d1, e1, a1, b1, rfl, rfl, rfl, h1, hA⟩ := trodAll_cons hA
  obtain ⟨rfl, rfl, rfl⟩ := trodAll_nil hA
  obtain rfl : args = #[v0, v1] := by
    apply Array.ext'
    simpa using hl0
  obtain ⟨rfl, rfl⟩ := trodVars_none hV
  obtain ⟨n0, rfl, rfl, rfl, _⟩ := open_int Tryd.underlying3 (hval 0 3 v0 rfl rfl) h0
  obtain ⟨sa, sl, sc, rfl⟩ := okWide_slice Tryd.underlying23 (hval 1 23 v1 rfl rfl)
  obtain ⟨fuel1, hf1⟩ := h1
  have hb : reachBytes ≤ 2^47 := by decide
  obtain ⟨cs, ⟨hc1, hc2⟩, hr1⟩ := readsW_cl (X := fun _ => False) (by simp) fuel1 _ _ hf1 (fun n hn => hwts n (by simp [DataW.weightsEach, hn]))
  have hrd1 := RD.of_cell (by simp) hr1
  refine (law_callsG (solves_spec globEF globEF_err globEF_fine n0 cs (by omega) (fun c hc => by have := hc1 c hc; omega)) (W := W) (args := #[.int .i64 n0, .slice sa sl sc]) (globEF_ok hL) rfl (RD.at2 (.v _) hrd1)).mono fun e W' ⟨he, hb⟩ => ?_
  subst he
  exact ⟨_, rfl, _, _, _, [], _, [], hW', trodAll_mk1 (shut_bool Tryd.underlying4 _), hback W' hb, rfl, hb.frame _, fun h => by cases h⟩

theorem gsolves_holds : Rows.GateSolvesSaid :=
  OpenClaim.holds_of_wide 6 Tryd.f6 rfl rfl rfl rfl rfl rfl rfl ⟨rfl, rfl, rfl, rfl, rfl⟩ rfl rfl rfl rfl rfl (by kernel_rfl) Tryd.func6 (by kernel_rfl)
    (of_decide_eq_true (by kernel_rfl)) (by unfold Func.isWrapper; first | (rw [if_pos (by decide +kernel)]; kernel_rfl) | (rw [if_neg (by decide +kernel)]; exact ⟨rfl, rfl⟩))
    (fun os started H enc _ => gsolves_lifted os started H enc)

theorem gsolves_card : Rows.GateSolvesCardSaid :=
  Claim7.holds_tied_plain_at .later [] [.handle, .data] true Rows.gateSolvesCard.stood.harness true
    gsolves_holds (fun _ h => by cases h) (by kernel_rfl) (fun _ h => by cases h) gateSolves_row_tie rfl ⟨rfl, rfl⟩ (by kernel_rfl) rfl
    (fun f fn hf hfn => by
      obtain rfl : f = 6 := Option.some.inj ((show Tryd.prog.funcNamed "signalcabin/signalcabinlaw.GateSolves" = some 6 by kernel_rfl).symm.trans hf) |>.symm
      obtain rfl : fn = Tryd.f6 := (Option.some.inj (Tryd.func6.symm.trans hfn)).symm
      exact ⟨by kernel_rfl, fun j t ht => by
        rw [Tryd.params6] at ht
        have hm : t ∈ [3, 23] := by simpa using Array.mem_of_getElem? ht
        have hall : ([3, 23].all fun u => !Tryd.prog.wantsStandIn u) = true := by kernel_rfl
        exact (show Tryd.prog.wantsStandIn t = false by simpa using List.all_eq_true.1 hall t hm)⟩)
    (by kernel_rfl)
#print axioms gsolves_card
end Go.Proofs.YtoikggboakojlaaDoor
