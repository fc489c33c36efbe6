/-
  Texts that belong together, in one file: L29.
-/
import Derived.Test.YtjaodmndkpalkaaGreatDoorLb38
import Derived.Test.YtjaodmndkpalkaaGreatDoorCards
import Derived.Test.YtjaodmndkpalkaaGreatDoorTie
import Derived.ChangeSame
import Derived.ChangeVars
import Derived.ChangeMaps5
import Derived.JoinedOf
import Derived.LaidMore
import Derived.LaidLaws
import Derived.LaidHandle
import Derived.Lay
set_option linter.unusedSimpArgs false
set_option linter.unusedVariables false
namespace Go.Proofs.YtjaodmndkpalkaaGreatDoor
open Go.Av Go.ChangeShapes Go.WideShapes Go.ChangeAt Go.RowKit
def laid_ldback : List (String × DataW Unit) := Rows.ladderBackRow.laid
def laid3_ldback : List (String × DataW Unit) := [("math/bits.deBruijn32tab", Rows.laid_math_bits_deBruijn32tab), ("math/bits.deBruijn64tab", Rows.laid_math_bits_deBruijn64tab), ("internal/strconv.uint64pow10", Rows.laid_internal_strconv_uint64pow10), ("unicode/utf8.acceptRanges", Rows.laid_unicode_utf8_acceptRanges), ("strconv.ErrRange", Rows.laid_strconv_ErrRange), ("strconv.ErrSyntax", Rows.laid_strconv_ErrSyntax), ("signalcabin/ladder.heads", Rows.laid_signalcabin_ladder_heads), ("unicode/utf8.first", Rows.laid_unicode_utf8_first)]
set_option maxRecDepth 100000 in
theorem ldback_split : laid_ldback.filter (fun x => x.2.handleName?.isNone) = laid3_ldback := by kernel_rfl
theorem ldback_rest {W : World} (h : laidMetH Tryz.prog laid_ldback W) : laidMet Tryz.prog laid3_ldback W := by
 have := (laidMetH_iff.1 h).1; rwa [ldback_split] at this
theorem ldback_keep_heads : laid3_ldback.filter (fun x => x.1 == "signalcabin/ladder.heads") = laidHd := by kernel_rfl
theorem ldback_heads {W : World} (h : laidMetH Tryz.prog laid_ldback W) : laidMet Tryz.prog laidHd W := by
 have := (ldback_rest h).filter fun x => x.1 == "signalcabin/ladder.heads"
 rwa [ldback_keep_heads] at this
theorem ldback_keep_p10 : laid3_ldback.filter (fun x => x.1 == "internal/strconv.uint64pow10") = laidP10 := by kernel_rfl
theorem ldback_p10 {W : World} (h : laidMetH Tryz.prog laid_ldback W) : laidMet Tryz.prog laidP10 W := by
 have := (ldback_rest h).filter fun x => x.1 == "internal/strconv.uint64pow10"
 rwa [ldback_keep_p10] at this
theorem ldback_keep_syn : laid3_ldback.filter (fun x => x.1 == "strconv.ErrSyntax") = laidES := by kernel_rfl
theorem ldback_syn {W : World} (h : laidMetH Tryz.prog laid_ldback W) : laidMet Tryz.prog laidES W := by
 have := (ldback_rest h).filter fun x => x.1 == "strconv.ErrSyntax"
 rwa [ldback_keep_syn] at this
theorem ldback_keep_rng : laid3_ldback.filter (fun x => x.1 == "strconv.ErrRange") = laidER := by kernel_rfl
theorem ldback_rng {W : World} (h : laidMetH Tryz.prog laid_ldback W) : laidMet Tryz.prog laidER W := by
 have := (ldback_rest h).filter fun x => x.1 == "strconv.ErrRange"
 rwa [ldback_keep_rng] at this
set_option maxRecDepth 100000 in
theorem ldback_handles : laid_ldback.filter (fun x => x.2.handleName?.isSome) = laidE := by kernel_rfl
theorem ldback_err {W : World} (h : laidMetH Tryz.prog laid_ldback W) : handlesMet Tryz.prog laidE W := by
 have := h.2
 rw [← ldback_handles]; exact this
noncomputable def world_ldback (os : Os) : World :=
 let w0 := World.laidAll Tryz.prog os laid3_ldback
 { w0 with heap := w0.heap.modify 4 fun
   | .cells _ t frozen => .cells #[errType] t frozen
   | o => o }
set_option maxRecDepth 100000 in
theorem ldback_met (os : Os) (args : Array Value) : laidMetH Tryz.prog laid_ldback ((world_ldback os).forCall (fun _ _ => 0) ⟨#[], args, []⟩).memory := by
 refine laidMetH_of_parts ?_ (by kernel_rfl)
 have e : (laid_ldback.filter fun x => x.2.handleName?.isNone) = laid3_ldback := ldback_split
 rw [e]; exact laidMet_of_run' 8 (by kernel_rfl) (by kernel_rfl)
def glob_ldback (m : Int) (es : Value) (er : Value) : Glob := globL [(4, .ip [.v errType]), (5, .ip [dNum m]), (1, .ip heads7), (6, .tab (Lib.pow10Tab.map fun z => Value.int .u64 z).toArray), (9, .ip [.v es]), (10, .ip [.v er])]
theorem glob_ldback_ok {W : World} {m : Int} {es : Value} {er : Value} (hL : laidMetH Tryz.prog laid_ldback W) (hm : W.cell? ⟨5, 0, none⟩ = some (.int .i64 m)) (hes : W.cell? ⟨9, 0, none⟩ = some es) (her : W.cell? ⟨10, 0, none⟩ = some er) : ∀ g x, glob_ldback m es er g = some x → RD W (fun _ => False) (.pointer (some ⟨g, 0, none⟩)) x := globL_ok fun p hp => by
 simp only [List.mem_cons, List.not_mem_nil, or_false] at hp
 rcases hp with rfl | rfl | rfl | rfl | rfl | rfl
 ·exact rd_err (ldback_err hL)
 ·exact rd_max hm
 ·exact rd_heads (ldback_heads hL)
 ·exact rd_p10 (ldback_p10 hL)
 ·exact rd_syn hes
 ·exact rd_rng her
set_option maxRecDepth 100000 in
theorem ldback_lifted (os : Os) (started : os.Started) (H : Type) (enc : TypeId × Value → H) :
  ReturnsInHanded {} Tryz.checked os 8 .any (fun w args => (Rows.ladderBackSpec.pre enc Tryz.prog Tryz.f8 [] false w args ∧ laidMetH Tryz.prog laid_ldback w) ∧ sizedMet enc Tryz.prog Tryz.f8 (OpenSpec.ofChange Rows.ladderBackSpec) false w args)
   (Rows.ladderBackSpec.post enc Tryz.prog Tryz.f8 false true false false) := by
 refine handed_both (C := Tryz.checked) (X := fun w _ => laidMetH Tryz.prog laid_ldback w) (fun _ _ _ hh h => h.of_heap hh) law_own started (by kernel_rfl) Tryz.func8
  (ChangeSpec.witness_shaped (enc := enc) (C := Tryz.checked) (os := os) (X := fun w _ => laidMetH Tryz.prog laid_ldback w) false (world_ldback os) #[.string ⟨#[]⟩] 8 rfl (World.shaped_of_ZipB (by kernel_rfl) (by kernel_rfl)) (by kernel_rfl) (by kernel_rfl) (by kernel_rfl) (ldback_met os _)) ?_
 intro W base args ds gs before hval0 hW hL hsh
 obtain ⟨m, hm⟩ := max_some hsh
 obtain ⟨es, hes, hes2⟩ := syn_some (ldback_syn hL)
 obtain ⟨er, her, her2⟩ := rng_some (ldback_rng hL)
 have hval : ∀ (j : Nat) t v, Tryz.f8.params[j]? = some t → args[j]? = some v → Value.okWide Tryz.prog W .any base t v := hval0
 have hW' := hW
 obtain ⟨p, q, hA0, hV, rfl, hfz, hnd⟩ := hW
 have hA : DataW.TrodAll enc Tryz.prog W 0 (fun _ => true) true Tryz.f8.params.toList args.toList ds p := hA0
 have hlt : ∀ x ∈ p, x.block < W.heap.size := fun x hx => by simpa using hW'.lt x (by simp [hx])
 have hback : ∀ W', Below W.heap.size W W' → DataW.TrodAll enc Tryz.prog W' 0 (fun b => decide (b < W.heap.size)) true Tryz.f8.params.toList args.toList ds p := fun W' hb =>
  trodAll_below law_laidOut hb (by rw [Tryz.params8]; intro t ht; simp at ht; subst ht <;> exact ⟨by kernel_rfl, of_decide_eq_true (by kernel_rfl)⟩) hA hlt
 rw [Tryz.params8] at hA hval
 obtain ⟨v0, l0, d0, e0, a0, b0, hl0, rfl, rfl, h0, hA⟩ := trodAll_cons hA
 obtain ⟨rfl, rfl, rfl⟩ := trodAll_nil hA
 obtain rfl : args = #[v0] := by
  apply Array.ext'
  simpa using hl0
 obtain ⟨rfl, rfl⟩ := trodVars_none hV
 obtain ⟨s0', rfl, rfl, rfl, _⟩ := Go.ChangeMaps.open_string Tryz.underlying9 (hval 0 9 v0 rfl rfl) h0
 obtain ⟨s0, rfl⟩ : ∃ s, s0' = bs s := ⟨s0'.data.toList, by cases s0'; simp [bs]⟩
 have hrd0 : RD W (fun _ => False) (.string (bs s0)) (dS s0) := .v _
 refine (law_callsG (lback_spec (glob_ldback m es er) ⟨m, rfl⟩ rfl rfl rfl ⟨⟨rfl, hes2⟩, rfl, her2⟩ s0) (W := W) (args := #[.string (bs s0)]) (glob_ldback_ok hL hm hes her) rfl (RD.at1 hrd0)).mono fun e W' ⟨he, hb⟩ => ?_; subst he; exact ⟨_, rfl, _, _, _, [], _, [], hW', trodAll_mk1 (shut_bool Tryz.underlying4 _), hback W' hb, rfl, hb.frame _, fun h => by cases h⟩
end Go.Proofs.YtjaodmndkpalkaaGreatDoor
