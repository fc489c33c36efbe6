/-
  Texts that belong together, in one file: L30.
-/
import Derived.Test.YthnjfeielmbfkaaGreatDoorLp45
import Derived.Test.YthnjfeielmbfkaaGreatDoorCards
import Derived.Test.YthnjfeielmbfkaaGreatDoorTie
import Derived.ChangeSame
import Derived.ChangeVars
import Derived.ChangeMaps5
import Derived.JoinedOf
import Derived.LaidMore
import Derived.LaidLaws
import Derived.LaidHandle
import Derived.Lay
set_option linter.unusedSimpArgs false
set_option linter.unusedVariables false
namespace Go.Proofs.YthnjfeielmbfkaaGreatDoor
open Go.Av Go.ChangeShapes Go.WideShapes Go.ChangeAt Go.RowKit
def laid_ldparses : List (String × DataW Unit) := Rows.ladderParsesRow.laid
def laid3_ldparses : List (String × DataW Unit) := [("math/bits.deBruijn32tab", Rows.laid_math_bits_deBruijn32tab), ("math/bits.deBruijn64tab", Rows.laid_math_bits_deBruijn64tab), ("internal/strconv.uint64pow10", Rows.laid_internal_strconv_uint64pow10), ("unicode/utf8.acceptRanges", Rows.laid_unicode_utf8_acceptRanges), ("strconv.ErrRange", Rows.laid_strconv_ErrRange), ("strconv.ErrSyntax", Rows.laid_strconv_ErrSyntax), ("signalcabin/ladder.heads", Rows.laid_signalcabin_ladder_heads), ("signalcabin/signalcabinref.Fine", Rows.laid_signalcabin_signalcabinref_Fine), ("signalcabin/signalcabinref.nameWords", Rows.laid_signalcabin_signalcabinref_nameWords), ("signalcabin/signalcabinref.rungWords", Rows.laid_signalcabin_signalcabinref_rungWords), ("unicode/utf8.first", Rows.laid_unicode_utf8_first)]
set_option maxRecDepth 100000 in
theorem ldparses_split : laid_ldparses.filter (fun x => x.2.handleName?.isNone) = laid3_ldparses := by kernel_rfl
theorem ldparses_rest {W : World} (h : laidMetH Tryz.prog laid_ldparses W) : laidMet Tryz.prog laid3_ldparses W := by
 have := (laidMetH_iff.1 h).1; rwa [ldparses_split] at this
theorem ldparses_keep_fine : laid3_ldparses.filter (fun x => x.1 == "signalcabin/signalcabinref.Fine") = laidF := by kernel_rfl
theorem ldparses_fine {W : World} (h : laidMetH Tryz.prog laid_ldparses W) : laidMet Tryz.prog laidF W := by
 have := (ldparses_rest h).filter fun x => x.1 == "signalcabin/signalcabinref.Fine"
 rwa [ldparses_keep_fine] at this
theorem ldparses_keep_heads : laid3_ldparses.filter (fun x => x.1 == "signalcabin/ladder.heads") = laidHd := by kernel_rfl
theorem ldparses_heads {W : World} (h : laidMetH Tryz.prog laid_ldparses W) : laidMet Tryz.prog laidHd W := by
 have := (ldparses_rest h).filter fun x => x.1 == "signalcabin/ladder.heads"
 rwa [ldparses_keep_heads] at this
theorem ldparses_keep_nw : laid3_ldparses.filter (fun x => x.1 == "signalcabin/signalcabinref.nameWords") = laidNW := by kernel_rfl
theorem ldparses_nw {W : World} (h : laidMetH Tryz.prog laid_ldparses W) : laidMet Tryz.prog laidNW W := by
 have := (ldparses_rest h).filter fun x => x.1 == "signalcabin/signalcabinref.nameWords"
 rwa [ldparses_keep_nw] at this
theorem ldparses_keep_rw : laid3_ldparses.filter (fun x => x.1 == "signalcabin/signalcabinref.rungWords") = laidRW := by kernel_rfl
theorem ldparses_rw {W : World} (h : laidMetH Tryz.prog laid_ldparses W) : laidMet Tryz.prog laidRW W := by
 have := (ldparses_rest h).filter fun x => x.1 == "signalcabin/signalcabinref.rungWords"
 rwa [ldparses_keep_rw] at this
theorem ldparses_keep_p10 : laid3_ldparses.filter (fun x => x.1 == "internal/strconv.uint64pow10") = laidP10 := by kernel_rfl
theorem ldparses_p10 {W : World} (h : laidMetH Tryz.prog laid_ldparses W) : laidMet Tryz.prog laidP10 W := by
 have := (ldparses_rest h).filter fun x => x.1 == "internal/strconv.uint64pow10"
 rwa [ldparses_keep_p10] at this
theorem ldparses_keep_syn : laid3_ldparses.filter (fun x => x.1 == "strconv.ErrSyntax") = laidES := by kernel_rfl
theorem ldparses_syn {W : World} (h : laidMetH Tryz.prog laid_ldparses W) : laidMet Tryz.prog laidES W := by
 have := (ldparses_rest h).filter fun x => x.1 == "strconv.ErrSyntax"
 rwa [ldparses_keep_syn] at this
theorem ldparses_keep_rng : laid3_ldparses.filter (fun x => x.1 == "strconv.ErrRange") = laidER := by kernel_rfl
theorem ldparses_rng {W : World} (h : laidMetH Tryz.prog laid_ldparses W) : laidMet Tryz.prog laidER W := by
 have := (ldparses_rest h).filter fun x => x.1 == "strconv.ErrRange"
 rwa [ldparses_keep_rng] at this
set_option maxRecDepth 100000 in
theorem ldparses_handles : laid_ldparses.filter (fun x => x.2.handleName?.isSome) = laidE := by kernel_rfl
theorem ldparses_err {W : World} (h : laidMetH Tryz.prog laid_ldparses W) : handlesMet Tryz.prog laidE W := by
 have := h.2
 rw [← ldparses_handles]; exact this
noncomputable def world_ldparses (os : Os) : World :=
 let w0 := World.laidAll Tryz.prog os laid3_ldparses
 { w0 with heap := w0.heap.modify 4 fun
   | .cells _ t frozen => .cells #[errType] t frozen
   | o => o }
set_option maxRecDepth 100000 in
theorem ldparses_met (os : Os) (args : Array Value) : laidMetH Tryz.prog laid_ldparses ((world_ldparses os).forCall (fun _ _ => 0) ⟨#[], args, []⟩).memory := by
 refine laidMetH_of_parts ?_ (by kernel_rfl)
 have e : (laid_ldparses.filter fun x => x.2.handleName?.isNone) = laid3_ldparses := ldparses_split
 rw [e]; exact laidMet_of_run' 8 (by kernel_rfl) (by kernel_rfl)
def glob_ldparses (m : Int) (es : Value) (er : Value) : Glob := globL [(4, .ip [.v errType]), (0, .ip [dNum 0, dNum (-1)]), (5, .ip [dNum m]), (1, .ip heads7), (3, .ip [.sl none (nwL.map fun s => [.v (.string (bs s))])]), (2, .ip [.sl none (rwL.map fun s => [.v (.string (bs s))])]), (6, .tab (Lib.pow10Tab.map fun z => Value.int .u64 z).toArray), (7, .ip [.v es]), (8, .ip [.v er])]
theorem glob_ldparses_ok {W : World} {m : Int} {es : Value} {er : Value} (hL : laidMetH Tryz.prog laid_ldparses W) (hm : W.cell? ⟨5, 0, none⟩ = some (.int .i64 m)) (hes : W.cell? ⟨7, 0, none⟩ = some es) (her : W.cell? ⟨8, 0, none⟩ = some er) : ∀ g x, glob_ldparses m es er g = some x → RD W (fun _ => False) (.pointer (some ⟨g, 0, none⟩)) x := globL_ok fun p hp => by
 simp only [List.mem_cons, List.not_mem_nil, or_false] at hp
 rcases hp with rfl | rfl | rfl | rfl | rfl | rfl | rfl | rfl | rfl
 ·exact rd_err (ldparses_err hL)
 ·exact rd_fine (ldparses_fine hL)
 ·exact rd_max hm
 ·exact rd_heads (ldparses_heads hL)
 ·exact rd_nw (ldparses_nw hL)
 ·exact rd_rw (ldparses_rw hL)
 ·exact rd_p10 (ldparses_p10 hL)
 ·exact rd_syn hes
 ·exact rd_rng her
set_option maxRecDepth 100000 in
theorem ldparses_lifted (os : Os) (started : os.Started) (H : Type) (enc : TypeId × Value → H) :
  ReturnsInHanded {} Tryz.checked os 8 .any (fun w args => (Rows.ladderParsesSpec.pre enc Tryz.prog Tryz.f8 [] false w args ∧ laidMetH Tryz.prog laid_ldparses w) ∧ sizedMet enc Tryz.prog Tryz.f8 (OpenSpec.ofChange Rows.ladderParsesSpec) false w args)
   (Rows.ladderParsesSpec.post enc Tryz.prog Tryz.f8 false true false false) := by
 refine handed_both (C := Tryz.checked) (X := fun w _ => laidMetH Tryz.prog laid_ldparses w) (fun _ _ _ hh h => h.of_heap hh) law_own started (by kernel_rfl) Tryz.func8
  (ChangeSpec.witness_shaped (enc := enc) (C := Tryz.checked) (os := os) (X := fun w _ => laidMetH Tryz.prog laid_ldparses w) false (world_ldparses os) #[.string ⟨#[]⟩] 8 rfl (World.shaped_of_ZipB (by kernel_rfl) (by kernel_rfl)) (by kernel_rfl) (by kernel_rfl) (by kernel_rfl) (ldparses_met os _)) ?_
 intro W base args ds gs before hval0 hW hL hsh
 obtain ⟨m, hm⟩ := max_some hsh
 obtain ⟨es, hes, hes2⟩ := syn_some (ldparses_syn hL)
 obtain ⟨er, her, her2⟩ := rng_some (ldparses_rng hL)
 have hval : ∀ (j : Nat) t v, Tryz.f8.params[j]? = some t → args[j]? = some v → Value.okWide Tryz.prog W .any base t v := hval0
 have hW' := hW
 obtain ⟨p, q, hA0, hV, rfl, hfz, hnd⟩ := hW
 have hA : DataW.TrodAll enc Tryz.prog W 0 (fun _ => true) true Tryz.f8.params.toList args.toList ds p := hA0
 have hlt : ∀ x ∈ p, x.block < W.heap.size := fun x hx => by simpa using hW'.lt x (by simp [hx])
 have hback : ∀ W', Below W.heap.size W W' → DataW.TrodAll enc Tryz.prog W' 0 (fun b => decide (b < W.heap.size)) true Tryz.f8.params.toList args.toList ds p := fun W' hb =>
  trodAll_below law_laidOut hb (by rw [Tryz.params8]; intro t ht; simp at ht; subst ht <;> exact ⟨by kernel_rfl, of_decide_eq_true (by kernel_rfl)⟩) hA hlt
 rw [Tryz.params8] at hA hval
 obtain ⟨v0, l0, d0, e0, a0, b0, hl0, rfl, rfl, h0, hA⟩ := trodAll_cons hA
 obtain ⟨rfl, rfl, rfl⟩ := trodAll_nil hA
 obtain rfl : args = #[v0] := by
  apply Array.ext'
  simpa using hl0
 obtain ⟨rfl, rfl⟩ := trodVars_none hV
 obtain ⟨s0', rfl, rfl, rfl, _⟩ := Go.ChangeMaps.open_string Tryz.underlying9 (hval 0 9 v0 rfl rfl) h0
 obtain ⟨s0, rfl⟩ : ∃ s, s0' = bs s := ⟨s0'.data.toList, by cases s0'; simp [bs]⟩
 have hrd0 : RD W (fun _ => False) (.string (bs s0)) (dS s0) := .v _
 refine (law_callsG (lparses_law (glob_ldparses m es er) rfl ⟨m, rfl⟩ rfl rfl rfl ⟨⟨rfl, hes2⟩, rfl, her2⟩ rfl rfl s0) (W := W) (args := #[.string (bs s0)]) (glob_ldparses_ok hL hm hes her) rfl (RD.at1 hrd0)).mono fun e W' ⟨he, hb⟩ => ?_; subst he; exact ⟨_, rfl, _, _, _, [], _, [], hW', trodAll_mk1 (shut_bool Tryz.underlying4 _), hback W' hb, rfl, hb.frame _, fun h => by cases h⟩
end Go.Proofs.YthnjfeielmbfkaaGreatDoor
