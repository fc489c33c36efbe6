/-
  Texts that belong together, in one file: L32.
-/
import Derived.Test.YthnjfeielmbfkaaGreatDoorRv24
import Derived.Test.YthnjfeielmbfkaaGreatDoorCards
import Derived.Test.YthnjfeielmbfkaaGreatDoorTie
import Derived.ChangeSame
import Derived.ChangeVars
import Derived.ChangeMaps5
import Derived.JoinedOf
import Derived.LaidMore
import Derived.LaidLaws
import Derived.LaidHandle
import Derived.Lay
set_option linter.unusedSimpArgs false
set_option linter.unusedVariables false
namespace Go.Proofs.YthnjfeielmbfkaaGreatDoor
open Go.Av Go.ChangeShapes Go.WideShapes Go.ChangeAt Go.RowKit
def laid_rserves : List (String × DataW Unit) := Rows.routeServesRow.laid
noncomputable def world_rserves (os : Os) : World := World.laidAll Tryz.prog os laid_rserves
set_option maxRecDepth 100000 in
theorem rserves_met (os : Os) (args : Array Value) : laidMetH Tryz.prog laid_rserves ((world_rserves os).forCall (fun _ _ => 0) ⟨#[], args, []⟩).memory := by
 refine laidMetH_of_parts ?_ (by kernel_rfl)
 have e : (laid_rserves.filter fun x => x.2.handleName?.isNone) = laid_rserves := by kernel_rfl
 rw [e]; exact laidMet_laidAll args (by kernel_rfl) (by kernel_rfl)
set_option maxRecDepth 100000 in
theorem rserves_lifted (os : Os) (started : os.Started) (H : Type) (enc : TypeId × Value → H) :
  ReturnsInHanded {} Tryz.checked os 3 .any (fun w args => (Rows.routeServesSpec.pre enc Tryz.prog Tryz.f3 [] false w args ∧ laidMetH Tryz.prog laid_rserves w) ∧ sizedMet enc Tryz.prog Tryz.f3 (OpenSpec.ofChange Rows.routeServesSpec) false w args)
   (Rows.routeServesSpec.post enc Tryz.prog Tryz.f3 false true false false) := by
 refine returnsInHanded_of_change_and (C := Tryz.checked) (X := fun w _ => laidMetH Tryz.prog laid_rserves w) (fun _ _ _ hh h => h.of_heap hh) law_own started (by kernel_rfl) Tryz.func3
  (ChangeSpec.witness_shaped (enc := enc) (C := Tryz.checked) (os := os) (X := fun w _ => laidMetH Tryz.prog laid_rserves w) false (world_rserves os) #[.agg #[.int .i64 0, .int .i64 0, .slice none 0 0], .int .i64 0, .slice none 0 0] 8 rfl (World.shaped_of_ZipB (by kernel_rfl) (by kernel_rfl)) (by kernel_rfl) (by kernel_rfl) (by kernel_rfl) (rserves_met os _)) ?_
 intro W base args ds gs before hval0 hW _ hwts hL _
 have hval : ∀ (j : Nat) t v, Tryz.f3.params[j]? = some t → args[j]? = some v → Value.okWide Tryz.prog W .any base t v := hval0
 have hW' := hW
 obtain ⟨p, q, hA0, hV, rfl, hfz, hnd⟩ := hW
 have hA : DataW.TrodAll enc Tryz.prog W 0 (fun _ => true) true Tryz.f3.params.toList args.toList ds p := hA0
 have hlt : ∀ x ∈ p, x.block < W.heap.size := fun x hx => by simpa using hW'.lt x (by simp [hx])
 have hback : ∀ W', Below W.heap.size W W' → DataW.TrodAll enc Tryz.prog W' 0 (fun b => decide (b < W.heap.size)) true Tryz.f3.params.toList args.toList ds p := fun W' hb =>
  trodAll_below law_laidOut hb (by rw [Tryz.params3]; intro t ht; simp at ht; rcases ht with rfl | rfl | rfl <;> exact ⟨by kernel_rfl, of_decide_eq_true (by kernel_rfl)⟩) hA hlt
 have hwts : ∀ n ∈ DataW.weightsEach Tryz.prog (Tryz.f3.params.toList ++ DataSpec.varTypes Tryz.checked.prog Rows.routeServesSpec.plain) (ds ++ gs), n ≤ reachBytes := fun n hn => by simpa using List.all_eq_true.1 hwts n hn
 rw [Tryz.params3] at hA hval hwts
 obtain ⟨v0, l0, d0, e0, a0, b0, hl0, rfl, rfl, h0, hA⟩ := trodAll_cons hA
 obtain ⟨v1, l1, d1, e1, a1, b1, rfl, rfl, rfl, h1, hA⟩ := trodAll_cons hA
 obtain ⟨v2, l2, d2, e2, a2, b2, rfl, rfl, rfl, h2, hA⟩ := trodAll_cons hA
 obtain ⟨rfl, rfl, rfl⟩ := trodAll_nil hA
 obtain rfl : args = #[v0, v1, v2] := by
  apply Array.ext'
  simpa using hl0
 obtain ⟨rfl, rfl⟩ := trodVars_none hV
 obtain ⟨cs0, rfl, _⟩ := okWide_struct Tryz.underlying24 (hval 0 24 v0 rfl rfl)
 obtain ⟨fuel0, hf0⟩ := h0
 obtain ⟨s0, hs0, hr0⟩ := readsWR_tb (X := fun _ => False) (by simp) fuel0 _ _ hf0 (fun n hn => hwts n (by simp [DataW.weightsEach, hn]))
 have hrd0 := RD.of_cells ⟨cs0, rfl⟩ hr0
 obtain ⟨s1, rfl, rfl, rfl, _⟩ := open_int Tryz.underlying3 (hval 1 3 v1 rfl rfl) h1
 have hrd1 : RD W (fun _ => False) (.int .i64 s1) (.v (.int .i64 s1)) := .v _
 obtain ⟨sa2, sl2, sc2, rfl⟩ := okWide_slice Tryz.underlying25 (hval 2 25 v2 rfl rfl)
 obtain ⟨fuel2, hf2⟩ := h2
 obtain ⟨s2, _, hr2⟩ := reads_ints (X := fun _ => False) (by simp) fuel2 _ _ hf2
 have hrd2 := RD.of_cell (by simp) hr2
 refine (law_callsG (rserves_law (fun _ => none) s0 ⟨by have := hs0.2; unfold reachBytes at this; omega, fun r hr => by have := hs0.1 r hr; unfold reachBytes at this; unfold SmallR; omega⟩ s1 s2) (W := W) (args := #[.agg cs0, .int .i64 s1, .slice sa2 sl2 sc2]) (fun g x h => by cases h) rfl (RD.at3 hrd0 hrd1 hrd2)).mono fun e W' ⟨he, hb⟩ => ?_; subst he; exact ⟨_, rfl, _, _, _, [], _, [], hW', trodAll_mk1 (shut_bool Tryz.underlying4 _), hback W' hb, rfl, hb.frame _, fun h => by cases h⟩
end Go.Proofs.YthnjfeielmbfkaaGreatDoor
