/-
  Texts that belong together, in one file: L28.
-/
import Derived.Test.YtjaodmndkpalkaaGreatDoorLc33
import Derived.Test.YtjaodmndkpalkaaGreatDoorCards
import Derived.Test.YtjaodmndkpalkaaGreatDoorTie
import Derived.ChangeSame
import Derived.ChangeVars
import Derived.ChangeMaps5
import Derived.JoinedOf
import Derived.LaidMore
import Derived.LaidLaws
import Derived.LaidHandle
import Derived.Lay
set_option linter.unusedSimpArgs false
set_option linter.unusedVariables false
namespace Go.Proofs.YtjaodmndkpalkaaGreatDoor
open Go.Av Go.ChangeShapes Go.WideShapes Go.ChangeAt Go.RowKit
def laid_ldchecks : List (String × DataW Unit) := Rows.ladderChecksRow.laid
def laid3_ldchecks : List (String × DataW Unit) := [("math/bits.deBruijn32tab", Rows.laid_math_bits_deBruijn32tab), ("math/bits.deBruijn64tab", Rows.laid_math_bits_deBruijn64tab), ("internal/strconv.uint64pow10", Rows.laid_internal_strconv_uint64pow10), ("unicode/utf8.acceptRanges", Rows.laid_unicode_utf8_acceptRanges), ("signalcabin/ladder.heads", Rows.laid_signalcabin_ladder_heads), ("signalcabin/signalcabinref.Fine", Rows.laid_signalcabin_signalcabinref_Fine), ("signalcabin/signalcabinref.nameWords", Rows.laid_signalcabin_signalcabinref_nameWords), ("signalcabin/signalcabinref.rungWords", Rows.laid_signalcabin_signalcabinref_rungWords), ("unicode/utf8.first", Rows.laid_unicode_utf8_first)]
set_option maxRecDepth 100000 in
theorem ldchecks_split : laid_ldchecks.filter (fun x => x.2.handleName?.isNone) = laid3_ldchecks := by kernel_rfl
theorem ldchecks_rest {W : World} (h : laidMetH Tryz.prog laid_ldchecks W) : laidMet Tryz.prog laid3_ldchecks W := by
 have := (laidMetH_iff.1 h).1; rwa [ldchecks_split] at this
theorem ldchecks_keep_fine : laid3_ldchecks.filter (fun x => x.1 == "signalcabin/signalcabinref.Fine") = laidF := by kernel_rfl
theorem ldchecks_fine {W : World} (h : laidMetH Tryz.prog laid_ldchecks W) : laidMet Tryz.prog laidF W := by
 have := (ldchecks_rest h).filter fun x => x.1 == "signalcabin/signalcabinref.Fine"
 rwa [ldchecks_keep_fine] at this
theorem ldchecks_keep_heads : laid3_ldchecks.filter (fun x => x.1 == "signalcabin/ladder.heads") = laidHd := by kernel_rfl
theorem ldchecks_heads {W : World} (h : laidMetH Tryz.prog laid_ldchecks W) : laidMet Tryz.prog laidHd W := by
 have := (ldchecks_rest h).filter fun x => x.1 == "signalcabin/ladder.heads"
 rwa [ldchecks_keep_heads] at this
theorem ldchecks_keep_nw : laid3_ldchecks.filter (fun x => x.1 == "signalcabin/signalcabinref.nameWords") = laidNW := by kernel_rfl
theorem ldchecks_nw {W : World} (h : laidMetH Tryz.prog laid_ldchecks W) : laidMet Tryz.prog laidNW W := by
 have := (ldchecks_rest h).filter fun x => x.1 == "signalcabin/signalcabinref.nameWords"
 rwa [ldchecks_keep_nw] at this
theorem ldchecks_keep_rw : laid3_ldchecks.filter (fun x => x.1 == "signalcabin/signalcabinref.rungWords") = laidRW := by kernel_rfl
theorem ldchecks_rw {W : World} (h : laidMetH Tryz.prog laid_ldchecks W) : laidMet Tryz.prog laidRW W := by
 have := (ldchecks_rest h).filter fun x => x.1 == "signalcabin/signalcabinref.rungWords"
 rwa [ldchecks_keep_rw] at this
set_option maxRecDepth 100000 in
theorem ldchecks_handles : laid_ldchecks.filter (fun x => x.2.handleName?.isSome) = laidE := by kernel_rfl
theorem ldchecks_err {W : World} (h : laidMetH Tryz.prog laid_ldchecks W) : handlesMet Tryz.prog laidE W := by
 have := h.2
 rw [← ldchecks_handles]; exact this
noncomputable def world_ldchecks (os : Os) : World :=
 let w0 := World.laidAll Tryz.prog os laid3_ldchecks
 { w0 with heap := w0.heap.modify 4 fun
   | .cells _ t frozen => .cells #[errType] t frozen
   | o => o }
set_option maxRecDepth 100000 in
theorem ldchecks_met (os : Os) (args : Array Value) : laidMetH Tryz.prog laid_ldchecks ((world_ldchecks os).forCall (fun _ _ => 0) ⟨#[], args, []⟩).memory := by
 refine laidMetH_of_parts ?_ (by kernel_rfl)
 have e : (laid_ldchecks.filter fun x => x.2.handleName?.isNone) = laid3_ldchecks := ldchecks_split
 rw [e]; exact laidMet_of_run' 8 (by kernel_rfl) (by kernel_rfl)
def glob_ldchecks (m : Int) : Glob := globL [(4, .ip [.v errType]), (0, .ip [dNum 0, dNum (-1)]), (5, .ip [dNum m]), (1, .ip heads7), (2, .ip [.sl none (nwL.map fun s => [.v (.string (bs s))])]), (3, .ip [.sl none (rwL.map fun s => [.v (.string (bs s))])])]
theorem glob_ldchecks_ok {W : World} {m : Int} (hL : laidMetH Tryz.prog laid_ldchecks W) (hm : W.cell? ⟨5, 0, none⟩ = some (.int .i64 m)) : ∀ g x, glob_ldchecks m g = some x → RD W (fun _ => False) (.pointer (some ⟨g, 0, none⟩)) x := globL_ok fun p hp => by
 simp only [List.mem_cons, List.not_mem_nil, or_false] at hp
 rcases hp with rfl | rfl | rfl | rfl | rfl | rfl
 ·exact rd_err (ldchecks_err hL)
 ·exact rd_fine (ldchecks_fine hL)
 ·exact rd_max hm
 ·exact rd_heads (ldchecks_heads hL)
 ·exact rd_nw (ldchecks_nw hL)
 ·exact rd_rw (ldchecks_rw hL)
set_option maxRecDepth 100000 in
theorem ldchecks_lifted (os : Os) (started : os.Started) (H : Type) (enc : TypeId × Value → H) :
  ReturnsInHanded {} Tryz.checked os 5 .any (fun w args => (Rows.ladderChecksSpec.pre enc Tryz.prog Tryz.f5 [] false w args ∧ laidMetH Tryz.prog laid_ldchecks w) ∧ sizedMet enc Tryz.prog Tryz.f5 (OpenSpec.ofChange Rows.ladderChecksSpec) false w args)
   (Rows.ladderChecksSpec.post enc Tryz.prog Tryz.f5 false true false false) := by
 refine handed_both (C := Tryz.checked) (X := fun w _ => laidMetH Tryz.prog laid_ldchecks w) (fun _ _ _ hh h => h.of_heap hh) law_own started (by kernel_rfl) Tryz.func5
  (ChangeSpec.witness_shaped (enc := enc) (C := Tryz.checked) (os := os) (X := fun w _ => laidMetH Tryz.prog laid_ldchecks w) false (world_ldchecks os) #[.agg #[.slice none 0 0, .slice none 0 0]] 8 rfl (World.shaped_of_ZipB (by kernel_rfl) (by kernel_rfl)) (by kernel_rfl) (by kernel_rfl) (by kernel_rfl) (ldchecks_met os _)) ?_
 intro W base args ds gs before hval0 hW hL hsh
 obtain ⟨m, hm⟩ := max_some hsh
 have hval : ∀ (j : Nat) t v, Tryz.f5.params[j]? = some t → args[j]? = some v → Value.okWide Tryz.prog W .any base t v := hval0
 have hW' := hW
 obtain ⟨p, q, hA0, hV, rfl, hfz, hnd⟩ := hW
 have hA : DataW.TrodAll enc Tryz.prog W 0 (fun _ => true) true Tryz.f5.params.toList args.toList ds p := hA0
 have hlt : ∀ x ∈ p, x.block < W.heap.size := fun x hx => by simpa using hW'.lt x (by simp [hx])
 have hback : ∀ W', Below W.heap.size W W' → DataW.TrodAll enc Tryz.prog W' 0 (fun b => decide (b < W.heap.size)) true Tryz.f5.params.toList args.toList ds p := fun W' hb =>
  trodAll_below law_laidOut hb (by rw [Tryz.params5]; intro t ht; simp at ht; subst ht <;> exact ⟨by kernel_rfl, of_decide_eq_true (by kernel_rfl)⟩) hA hlt
 rw [Tryz.params5] at hA hval
 obtain ⟨v0, l0, d0, e0, a0, b0, hl0, rfl, rfl, h0, hA⟩ := trodAll_cons hA
 obtain ⟨rfl, rfl, rfl⟩ := trodAll_nil hA
 obtain rfl : args = #[v0] := by
  apply Array.ext'
  simpa using hl0
 obtain ⟨rfl, rfl⟩ := trodVars_none hV
 obtain ⟨cs0, rfl, _⟩ := okWide_struct Tryz.underlying59 (hval 0 59 v0 rfl rfl)
 obtain ⟨fuel0, hf0⟩ := h0
 obtain ⟨s0, _, hr0⟩ := readsK_raw (X := fun _ => False) (by simp) fuel0 _ _ hf0
 have hrd0 := RD.of_cells ⟨cs0, rfl⟩ hr0
 refine (law_callsG (lchecks_law (glob_ldchecks m) rfl rfl ⟨m, rfl⟩ rfl rfl rfl s0.1 s0.2) (W := W) (args := #[.agg cs0]) (glob_ldchecks_ok hL hm) rfl (RD.at1 hrd0)).mono fun e W' ⟨he, hb⟩ => ?_; subst he; exact ⟨_, rfl, _, _, _, [], _, [], hW', trodAll_mk1 (shut_bool Tryz.underlying4 _), hback W' hb, rfl, hb.frame _, fun h => by cases h⟩
end Go.Proofs.YtjaodmndkpalkaaGreatDoor
