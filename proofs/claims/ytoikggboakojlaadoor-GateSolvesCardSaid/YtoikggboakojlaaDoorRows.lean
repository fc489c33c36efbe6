/-
  NARROWER THAN 'FOR EVERY INPUT', by the rows' own cells (each row's printed sentence says how): ExprNames: laid · BlockBlocks: laid · BlockParts: laid · GateSolves: laid · BlockMoore: laid · LassoTurns: laid · LassoGrows: laid · LassoRights: laid · LassoPush: laid · LassoHolds: laid · LassoPushes: laid.
  DERIVED. THE GIVEN ROWS OF THIS SEAT. 11 by the template 'for every input the law returns true; each argument reads behind the call as it read before'; 0 by the template 'total and deterministic' (their statements: YtoikggboakojlaaDoorTotals.lean).
  GIVEN WITH THE SEED: the statements are not yours to turn. If you find one false, say at which input.
  Laid BY PROGRAM, IN A SANDBOX (cutbox-rows.mjs): the forced cells as the released guide's own fill.sh prints them over the translation 4917c033fabb5e36… (all of the seat's roots in one cut). By AI agents, Wed Nov 11 2026. No macro, syntax, notation, axiom, sorry.
-/
import Derived.Test.YtoikggboakojlaaDoorChecked
import GoSem.PinnedTables
import GoSem.Claim
import GoSem.ClaimJoined
import GoSem.ClaimMapViews
import Derived.JoinedTies
import Derived.KernelRfl
namespace Go.Proofs.YtoikggboakojlaaDoor
/- THE CELL 'sum', in the pinned program and in every row, IS THE sha256 OF THE DUMP (.gsa) THAT YtoikggboakojlaaDoorProg.lean LOADS. Nothing in Lean hashes anything: it is a label: what it is worth is what the hold of that sum in a sandbox is worth. -/
noncomputable def Tryd.pinned : Pinned := { name := "ytoikggboakojlaadoor", sum := "4917c033fabb5e36184821659d5c20259225fc8a343cc25f28b872b3db70d580", checked := Tryd.checked }
namespace Rows
def none {H : Type} : Left H := { results := [], args := [] }

/- WHAT THE LISTED PACKAGE-LEVEL VARIABLES READ AS WHEN THE CALL BEGINS. Each datum BY PROGRAM (the guide's laid-datum.mjs) off the statement by which the dump's own 'gosem.cut.vars' lays the variable. In a bare row this is a premise. The card (YtoikggboakojlaaDoorCards.lean) ties it to the program's text. -/
def laid_unicode_utf8_acceptRanges {H : Type} : DataW H := .agg [.agg [.lit (.int .u8 128), .lit (.int .u8 191)], .agg [.lit (.int .u8 160), .lit (.int .u8 191)], .agg [.lit (.int .u8 128), .lit (.int .u8 159)], .agg [.lit (.int .u8 144), .lit (.int .u8 191)], .agg [.lit (.int .u8 128), .lit (.int .u8 143)], .agg [.lit (.int .u8 0), .lit (.int .u8 0)], .agg [.lit (.int .u8 0), .lit (.int .u8 0)], .agg [.lit (.int .u8 0), .lit (.int .u8 0)], .agg [.lit (.int .u8 0), .lit (.int .u8 0)], .agg [.lit (.int .u8 0), .lit (.int .u8 0)], .agg [.lit (.int .u8 0), .lit (.int .u8 0)], .agg [.lit (.int .u8 0), .lit (.int .u8 0)], .agg [.lit (.int .u8 0), .lit (.int .u8 0)], .agg [.lit (.int .u8 0), .lit (.int .u8 0)], .agg [.lit (.int .u8 0), .lit (.int .u8 0)], .agg [.lit (.int .u8 0), .lit (.int .u8 0)]]
/-- One of Go's own tables, pinned by name: the form's constant. -/
def laid_unicode_utf8_first : DataW Unit := Go.Pinned.utf8First
def laid_errors_errorType {H : Type} : DataW H := .iface "internal/reflectlite.rtype" (.agg [.ptr (.lit (.string [101, 114, 114, 111, 114]))])
def laid_signalcabin_signalcabinref_Fine {H : Type} : DataW H := .agg [.lit (.int .i64 0), .lit (.int .i64 (-1))]
def laid_signalcabin_lasso_arity {H : Type} : DataW H := .agg [.lit (.int .i64 (-1)), .lit (.int .i64 0), .lit (.int .i64 0), .lit (.int .i64 1), .lit (.int .i64 2), .lit (.int .i64 2), .lit (.int .i64 1), .lit (.int .i64 2), .lit (.int .i64 2), .lit (.int .i64 1), .lit (.int .i64 1)]

/-- 'signalcabinlaw.ExprNames': WHATEVER THE INPUT: true; the input reads as it did. -/
def exprNamesSpec : ChangeSpec := { name := "exprNames", fn := fun _ => fun
  | [d] => { results := [.lit (.bool true)], args := [d] }
  | _ => none }
def exprNamesRow : OpenClaim := { program := "ytoikggboakojlaadoor", sum := "4917c033fabb5e36184821659d5c20259225fc8a343cc25f28b872b3db70d580", func := "signalcabin/signalcabinlaw.ExprNames", spec := "exprNames", inPlace := ["internal/bytealg.IndexByteString", "internal/bytealg.IndexString"], named := ["unicode/utf8.first", "unicode/utf8.acceptRanges", "internal/bytealg.MaxLen"], apart := false, laid := [("unicode/utf8.acceptRanges", laid_unicode_utf8_acceptRanges), ("unicode/utf8.first", laid_unicode_utf8_first)] }
def ExprNamesSaid : Prop := exprNamesRow.holds Tryd.pinned (OpenSpec.ofChange exprNamesSpec)

/-- ITS FALSE NEIGHBOUR: 'it returns false'. Refute it at one input. -/
def exprNamesWrong : ChangeSpec := { name := "exprNames", fn := fun _ => fun
  | [d] => { results := [.lit (.bool false)], args := [d] }
  | _ => none }
def ExprNamesWrongFalsely : Prop := exprNamesRow.holds Tryd.pinned (OpenSpec.ofChange exprNamesWrong)

/-- 'signalcabinlaw.BlockBlocks': WHATEVER THE INPUT: true; the input reads as it did. -/
def blockBlocksSpec : ChangeSpec := { name := "blockBlocks", fn := fun _ => fun
  | [d] => { results := [.lit (.bool true)], args := [d] }
  | _ => none }
def blockBlocksRow : OpenClaim := { program := "ytoikggboakojlaadoor", sum := "4917c033fabb5e36184821659d5c20259225fc8a343cc25f28b872b3db70d580", func := "signalcabin/signalcabinlaw.BlockBlocks", spec := "blockBlocks", inPlace := ["internal/reflectlite.ValueOf", "(internal/reflectlite.Value).Type", "(internal/reflectlite.Value).IsNil", "internal/reflectlite.TypeOf", "(internal/reflectlite.Value).Elem", "(internal/reflectlite.Value).Set"], unfollowed := true, recurses := true, named := ["signalcabin/signalcabinref.Fine", "errors.errorType"], apart := false, laid := [("errors.errorType", laid_errors_errorType), ("signalcabin/signalcabinref.Fine", laid_signalcabin_signalcabinref_Fine)] }
def BlockBlocksSaid : Prop := blockBlocksRow.holds Tryd.pinned (OpenSpec.ofChange blockBlocksSpec)

/-- ITS FALSE NEIGHBOUR: 'it returns false'. Refute it at one input. -/
def blockBlocksWrong : ChangeSpec := { name := "blockBlocks", fn := fun _ => fun
  | [d] => { results := [.lit (.bool false)], args := [d] }
  | _ => none }
def BlockBlocksWrongFalsely : Prop := blockBlocksRow.holds Tryd.pinned (OpenSpec.ofChange blockBlocksWrong)

/-- 'signalcabinlaw.BlockParts': WHATEVER THE INPUT: true; the input reads as it did. -/
def blockPartsSpec : ChangeSpec := { name := "blockParts", fn := fun _ => fun
  | [d1, d2, d3, d4] => { results := [.lit (.bool true)], args := [d1, d2, d3, d4] }
  | _ => none }
def blockPartsRow : OpenClaim := { program := "ytoikggboakojlaadoor", sum := "4917c033fabb5e36184821659d5c20259225fc8a343cc25f28b872b3db70d580", func := "signalcabin/signalcabinlaw.BlockParts", spec := "blockParts", inPlace := ["internal/reflectlite.ValueOf", "(internal/reflectlite.Value).Type", "(internal/reflectlite.Value).IsNil", "internal/reflectlite.TypeOf", "(internal/reflectlite.Value).Elem", "(internal/reflectlite.Value).Set"], unfollowed := true, recurses := true, named := ["signalcabin/signalcabinref.Fine", "errors.errorType"], apart := false, laid := [("errors.errorType", laid_errors_errorType), ("signalcabin/signalcabinref.Fine", laid_signalcabin_signalcabinref_Fine)] }
def BlockPartsSaid : Prop := blockPartsRow.holds Tryd.pinned (OpenSpec.ofChange blockPartsSpec)

/-- ITS FALSE NEIGHBOUR: 'it returns false'. Refute it at one input. -/
def blockPartsWrong : ChangeSpec := { name := "blockParts", fn := fun _ => fun
  | [d1, d2, d3, d4] => { results := [.lit (.bool false)], args := [d1, d2, d3, d4] }
  | _ => none }
def BlockPartsWrongFalsely : Prop := blockPartsRow.holds Tryd.pinned (OpenSpec.ofChange blockPartsWrong)

/-- 'signalcabinlaw.GateSolves': WHATEVER THE INPUT: true; the input reads as it did. -/
def gateSolvesSpec : ChangeSpec := { name := "gateSolves", fn := fun _ => fun
  | [d1, d2] => { results := [.lit (.bool true)], args := [d1, d2] }
  | _ => none }
def gateSolvesRow : OpenClaim := { program := "ytoikggboakojlaadoor", sum := "4917c033fabb5e36184821659d5c20259225fc8a343cc25f28b872b3db70d580", func := "signalcabin/signalcabinlaw.GateSolves", spec := "gateSolves", inPlace := ["internal/reflectlite.ValueOf", "(internal/reflectlite.Value).Type", "(internal/reflectlite.Value).IsNil", "internal/reflectlite.TypeOf", "(internal/reflectlite.Value).Elem", "(internal/reflectlite.Value).Set"], unfollowed := true, recurses := true, named := ["signalcabin/signalcabinref.Fine", "errors.errorType"], apart := false, laid := [("errors.errorType", laid_errors_errorType), ("signalcabin/signalcabinref.Fine", laid_signalcabin_signalcabinref_Fine)] }
def GateSolvesSaid : Prop := gateSolvesRow.holds Tryd.pinned (OpenSpec.ofChange gateSolvesSpec)

/-- ITS FALSE NEIGHBOUR: 'it returns false'. Refute it at one input. -/
def gateSolvesWrong : ChangeSpec := { name := "gateSolves", fn := fun _ => fun
  | [d1, d2] => { results := [.lit (.bool false)], args := [d1, d2] }
  | _ => none }
def GateSolvesWrongFalsely : Prop := gateSolvesRow.holds Tryd.pinned (OpenSpec.ofChange gateSolvesWrong)

/-- 'signalcabinkeep.BlockMoore': WHATEVER THE INPUT: true; the input reads as it did. -/
def blockMooreSpec : ChangeSpec := { name := "blockMoore", fn := fun _ => fun
  | [d1, d2, d3, d4] => { results := [.lit (.bool true)], args := [d1, d2, d3, d4] }
  | _ => none }
def blockMooreRow : OpenClaim := { program := "ytoikggboakojlaadoor", sum := "4917c033fabb5e36184821659d5c20259225fc8a343cc25f28b872b3db70d580", func := "signalcabin/signalcabinkeep.BlockMoore", spec := "blockMoore", inPlace := ["internal/reflectlite.ValueOf", "(internal/reflectlite.Value).Type", "(internal/reflectlite.Value).IsNil", "internal/reflectlite.TypeOf", "(internal/reflectlite.Value).Elem", "(internal/reflectlite.Value).Set"], unfollowed := true, recurses := true, named := ["errors.errorType"], apart := false, laid := [("errors.errorType", laid_errors_errorType)] }
def BlockMooreSaid : Prop := blockMooreRow.holds Tryd.pinned (OpenSpec.ofChange blockMooreSpec)

/-- ITS FALSE NEIGHBOUR: 'it returns false'. Refute it at one input. -/
def blockMooreWrong : ChangeSpec := { name := "blockMoore", fn := fun _ => fun
  | [d1, d2, d3, d4] => { results := [.lit (.bool false)], args := [d1, d2, d3, d4] }
  | _ => none }
def BlockMooreWrongFalsely : Prop := blockMooreRow.holds Tryd.pinned (OpenSpec.ofChange blockMooreWrong)

/-- 'signalcabinkeep.LassoTurns': WHATEVER THE INPUT: true; the input reads as it did. -/
def lassoTurnsSpec : ChangeSpec := { name := "lassoTurns", fn := fun _ => fun
  | [d1, d2] => { results := [.lit (.bool true)], args := [d1, d2] }
  | _ => none }
def lassoTurnsRow : OpenClaim := { program := "ytoikggboakojlaadoor", sum := "4917c033fabb5e36184821659d5c20259225fc8a343cc25f28b872b3db70d580", func := "signalcabin/signalcabinkeep.LassoTurns", spec := "lassoTurns", inPlace := ["internal/bytealg.IndexByteString", "internal/bytealg.IndexString"], unfollowed := true, recurses := true, named := ["unicode/utf8.first", "unicode/utf8.acceptRanges", "signalcabin/lasso.arity", "internal/bytealg.MaxLen"], apart := false, laid := [("unicode/utf8.acceptRanges", laid_unicode_utf8_acceptRanges), ("signalcabin/lasso.arity", laid_signalcabin_lasso_arity), ("unicode/utf8.first", laid_unicode_utf8_first)] }
def LassoTurnsSaid : Prop := lassoTurnsRow.holds Tryd.pinned (OpenSpec.ofChange lassoTurnsSpec)

/-- ITS FALSE NEIGHBOUR: 'it returns false'. Refute it at one input. -/
def lassoTurnsWrong : ChangeSpec := { name := "lassoTurns", fn := fun _ => fun
  | [d1, d2] => { results := [.lit (.bool false)], args := [d1, d2] }
  | _ => none }
def LassoTurnsWrongFalsely : Prop := lassoTurnsRow.holds Tryd.pinned (OpenSpec.ofChange lassoTurnsWrong)

/-- 'signalcabinkeep.LassoGrows': WHATEVER THE INPUT: true; the input reads as it did. -/
def lassoGrowsSpec : ChangeSpec := { name := "lassoGrows", fn := fun _ => fun
  | [d1, d2, d3] => { results := [.lit (.bool true)], args := [d1, d2, d3] }
  | _ => none }
def lassoGrowsRow : OpenClaim := { program := "ytoikggboakojlaadoor", sum := "4917c033fabb5e36184821659d5c20259225fc8a343cc25f28b872b3db70d580", func := "signalcabin/signalcabinkeep.LassoGrows", spec := "lassoGrows", inPlace := ["internal/bytealg.IndexByteString", "internal/bytealg.IndexString"], unfollowed := true, recurses := true, named := ["unicode/utf8.first", "unicode/utf8.acceptRanges", "signalcabin/lasso.arity", "internal/bytealg.MaxLen"], apart := false, laid := [("unicode/utf8.acceptRanges", laid_unicode_utf8_acceptRanges), ("signalcabin/lasso.arity", laid_signalcabin_lasso_arity), ("unicode/utf8.first", laid_unicode_utf8_first)] }
def LassoGrowsSaid : Prop := lassoGrowsRow.holds Tryd.pinned (OpenSpec.ofChange lassoGrowsSpec)

/-- ITS FALSE NEIGHBOUR: 'it returns false'. Refute it at one input. -/
def lassoGrowsWrong : ChangeSpec := { name := "lassoGrows", fn := fun _ => fun
  | [d1, d2, d3] => { results := [.lit (.bool false)], args := [d1, d2, d3] }
  | _ => none }
def LassoGrowsWrongFalsely : Prop := lassoGrowsRow.holds Tryd.pinned (OpenSpec.ofChange lassoGrowsWrong)

/-- 'signalcabinlaw.LassoRights': WHATEVER THE INPUT: true; the input reads as it did. -/
def lassoRightsSpec : ChangeSpec := { name := "lassoRights", fn := fun _ => fun
  | [d1, d2, d3, d4] => { results := [.lit (.bool true)], args := [d1, d2, d3, d4] }
  | _ => none }
def lassoRightsRow : OpenClaim := { program := "ytoikggboakojlaadoor", sum := "4917c033fabb5e36184821659d5c20259225fc8a343cc25f28b872b3db70d580", func := "signalcabin/signalcabinlaw.LassoRights", spec := "lassoRights", inPlace := ["internal/bytealg.IndexByteString", "internal/bytealg.IndexString", "internal/reflectlite.ValueOf", "(internal/reflectlite.Value).Type", "(internal/reflectlite.Value).IsNil", "internal/reflectlite.TypeOf", "(internal/reflectlite.Value).Elem", "(internal/reflectlite.Value).Set"], unfollowed := true, recurses := true, named := ["signalcabin/lasso.arity", "unicode/utf8.first", "unicode/utf8.acceptRanges", "errors.errorType", "internal/bytealg.MaxLen"], apart := false, laid := [("unicode/utf8.acceptRanges", laid_unicode_utf8_acceptRanges), ("errors.errorType", laid_errors_errorType), ("signalcabin/lasso.arity", laid_signalcabin_lasso_arity), ("unicode/utf8.first", laid_unicode_utf8_first)] }
def LassoRightsSaid : Prop := lassoRightsRow.holds Tryd.pinned (OpenSpec.ofChange lassoRightsSpec)

/-- ITS FALSE NEIGHBOUR: 'it returns false'. Refute it at one input. -/
def lassoRightsWrong : ChangeSpec := { name := "lassoRights", fn := fun _ => fun
  | [d1, d2, d3, d4] => { results := [.lit (.bool false)], args := [d1, d2, d3, d4] }
  | _ => none }
def LassoRightsWrongFalsely : Prop := lassoRightsRow.holds Tryd.pinned (OpenSpec.ofChange lassoRightsWrong)

/-- 'signalcabinkeep.LassoPush': WHATEVER THE INPUT: true; the input reads as it did. -/
def lassoPushSpec : ChangeSpec := { name := "lassoPush", fn := fun _ => fun
  | [d1, d2] => { results := [.lit (.bool true)], args := [d1, d2] }
  | _ => none }
def lassoPushRow : OpenClaim := { program := "ytoikggboakojlaadoor", sum := "4917c033fabb5e36184821659d5c20259225fc8a343cc25f28b872b3db70d580", func := "signalcabin/signalcabinkeep.LassoPush", spec := "lassoPush", inPlace := ["internal/bytealg.IndexByteString", "internal/bytealg.IndexString", "internal/abi.NoEscape", "internal/bytealg.MakeNoZero"], unfollowed := true, recurses := true, named := ["signalcabin/lasso.arity", "unicode/utf8.first", "unicode/utf8.acceptRanges", "internal/bytealg.MaxLen"], apart := false, laid := [("unicode/utf8.acceptRanges", laid_unicode_utf8_acceptRanges), ("signalcabin/lasso.arity", laid_signalcabin_lasso_arity), ("unicode/utf8.first", laid_unicode_utf8_first)] }
def LassoPushSaid : Prop := lassoPushRow.holds Tryd.pinned (OpenSpec.ofChange lassoPushSpec)

/-- ITS FALSE NEIGHBOUR: 'it returns false'. Refute it at one input. -/
def lassoPushWrong : ChangeSpec := { name := "lassoPush", fn := fun _ => fun
  | [d1, d2] => { results := [.lit (.bool false)], args := [d1, d2] }
  | _ => none }
def LassoPushWrongFalsely : Prop := lassoPushRow.holds Tryd.pinned (OpenSpec.ofChange lassoPushWrong)

/-- 'signalcabinlaw.LassoHolds': WHATEVER THE INPUT: true; the input reads as it did. -/
def lassoHoldsSpec : ChangeSpec := { name := "lassoHolds", fn := fun _ => fun
  | [d1, d2] => { results := [.lit (.bool true)], args := [d1, d2] }
  | _ => none }
def lassoHoldsRow : OpenClaim := { program := "ytoikggboakojlaadoor", sum := "4917c033fabb5e36184821659d5c20259225fc8a343cc25f28b872b3db70d580", func := "signalcabin/signalcabinlaw.LassoHolds", spec := "lassoHolds", inPlace := ["internal/bytealg.IndexByteString", "internal/bytealg.IndexString", "internal/reflectlite.ValueOf", "(internal/reflectlite.Value).Type", "(internal/reflectlite.Value).IsNil", "internal/reflectlite.TypeOf", "(internal/reflectlite.Value).Elem", "(internal/reflectlite.Value).Set"], unfollowed := true, recurses := true, named := ["unicode/utf8.first", "unicode/utf8.acceptRanges", "errors.errorType", "signalcabin/lasso.arity", "internal/bytealg.MaxLen"], apart := false, laid := [("unicode/utf8.acceptRanges", laid_unicode_utf8_acceptRanges), ("errors.errorType", laid_errors_errorType), ("signalcabin/lasso.arity", laid_signalcabin_lasso_arity), ("unicode/utf8.first", laid_unicode_utf8_first)] }
def LassoHoldsSaid : Prop := lassoHoldsRow.holds Tryd.pinned (OpenSpec.ofChange lassoHoldsSpec)

/-- ITS FALSE NEIGHBOUR: 'it returns false'. Refute it at one input. -/
def lassoHoldsWrong : ChangeSpec := { name := "lassoHolds", fn := fun _ => fun
  | [d1, d2] => { results := [.lit (.bool false)], args := [d1, d2] }
  | _ => none }
def LassoHoldsWrongFalsely : Prop := lassoHoldsRow.holds Tryd.pinned (OpenSpec.ofChange lassoHoldsWrong)

/-- 'signalcabinlaw.LassoPushes': WHATEVER THE INPUT: true; the input reads as it did. -/
def lassoPushesSpec : ChangeSpec := { name := "lassoPushes", fn := fun _ => fun
  | [d] => { results := [.lit (.bool true)], args := [d] }
  | _ => none }
def lassoPushesRow : OpenClaim := { program := "ytoikggboakojlaadoor", sum := "4917c033fabb5e36184821659d5c20259225fc8a343cc25f28b872b3db70d580", func := "signalcabin/signalcabinlaw.LassoPushes", spec := "lassoPushes", inPlace := ["internal/bytealg.IndexByteString", "internal/bytealg.IndexString", "internal/reflectlite.ValueOf", "(internal/reflectlite.Value).Type", "(internal/reflectlite.Value).IsNil", "internal/reflectlite.TypeOf", "(internal/reflectlite.Value).Elem", "(internal/reflectlite.Value).Set", "internal/abi.NoEscape", "internal/bytealg.MakeNoZero"], unfollowed := true, recurses := true, named := ["signalcabin/lasso.arity", "unicode/utf8.first", "unicode/utf8.acceptRanges", "errors.errorType", "internal/bytealg.MaxLen"], apart := false, laid := [("unicode/utf8.acceptRanges", laid_unicode_utf8_acceptRanges), ("errors.errorType", laid_errors_errorType), ("signalcabin/lasso.arity", laid_signalcabin_lasso_arity), ("unicode/utf8.first", laid_unicode_utf8_first)] }
def LassoPushesSaid : Prop := lassoPushesRow.holds Tryd.pinned (OpenSpec.ofChange lassoPushesSpec)

/-- ITS FALSE NEIGHBOUR: 'it returns false'. Refute it at one input. -/
def lassoPushesWrong : ChangeSpec := { name := "lassoPushes", fn := fun _ => fun
  | [d] => { results := [.lit (.bool false)], args := [d] }
  | _ => none }
def LassoPushesWrongFalsely : Prop := lassoPushesRow.holds Tryd.pinned (OpenSpec.ofChange lassoPushesWrong)

/- THE SECOND FORM. 'bulk': how many values and letters a reading holds, each counted each time it is reached (what is shared counts as often as it is met; a slice's spare places count too). A statement '..UptoSaid' is the law's where the arguments, and the package variables that the reading takes, are together of bulk at most 1048576: NARROWER than '..Said'. Prove '..Said' where nothing that the law and all that it calls make is longer than what came in: it says more and counts as full. Else prove '..UptoSaid'. A law counts once. -/
mutual
def uptoBulk {H : Type} : DataW H → Nat
  | .lit (.string bytes) => bytes.length + 1
  | .lit _ => 1
  | .nil => 1
  | .ptr d => uptoBulk d + 1
  | .slice elems spare => uptoBulkAll elems + uptoBulkAll spare + 1
  | .agg parts => uptoBulkAll parts + 1
  | .iface _ d => uptoBulk d + 1
  | .map entries => uptoBulkEntries entries + 1
  | .held _ => 1
def uptoBulkAll {H : Type} : List (DataW H) → Nat
  | [] => 0
  | d :: r => uptoBulk d + uptoBulkAll r
def uptoBulkEntries {H : Type} : List (Lit × DataW H) → Nat
  | [] => 0
  | x :: r => uptoBulkEntry x + uptoBulkEntries r
def uptoBulkEntry {H : Type} : Lit × DataW H → Nat
  | (.string bytes, d) => bytes.length + uptoBulk d + 1
  | (_, d) => uptoBulk d + 1
 end
def uptoSmall : (H : Type) → List (DataW H) → Bool := fun _ ds => decide (uptoBulkAll ds ≤ 1048576)
def OpenSpec.upto (s : _root_.Go.ChangeSpec) : _root_.Go.OpenSpec := { _root_.Go.OpenSpec.ofChange s with cond := some uptoSmall }

/-- 'signalcabinlaw.ExprNames', WHERE WHAT IT READS IS OF BULK AT MOST 1048576: true; the input reads as it did. -/
def exprNamesUptoRow : OpenClaim := { program := "ytoikggboakojlaadoor", sum := "4917c033fabb5e36184821659d5c20259225fc8a343cc25f28b872b3db70d580", func := "signalcabin/signalcabinlaw.ExprNames", spec := "exprNames", inPlace := ["internal/bytealg.IndexByteString", "internal/bytealg.IndexString"], named := ["unicode/utf8.first", "unicode/utf8.acceptRanges", "internal/bytealg.MaxLen"], apart := false, laid := [("unicode/utf8.acceptRanges", laid_unicode_utf8_acceptRanges), ("unicode/utf8.first", laid_unicode_utf8_first)], narrowed := true }
def ExprNamesUptoSaid : Prop := exprNamesUptoRow.holds Tryd.pinned (OpenSpec.upto exprNamesSpec)

/-- 'signalcabinlaw.BlockBlocks', WHERE WHAT IT READS IS OF BULK AT MOST 1048576: true; the input reads as it did. -/
def blockBlocksUptoRow : OpenClaim := { program := "ytoikggboakojlaadoor", sum := "4917c033fabb5e36184821659d5c20259225fc8a343cc25f28b872b3db70d580", func := "signalcabin/signalcabinlaw.BlockBlocks", spec := "blockBlocks", inPlace := ["internal/reflectlite.ValueOf", "(internal/reflectlite.Value).Type", "(internal/reflectlite.Value).IsNil", "internal/reflectlite.TypeOf", "(internal/reflectlite.Value).Elem", "(internal/reflectlite.Value).Set"], unfollowed := true, recurses := true, named := ["signalcabin/signalcabinref.Fine", "errors.errorType"], apart := false, laid := [("errors.errorType", laid_errors_errorType), ("signalcabin/signalcabinref.Fine", laid_signalcabin_signalcabinref_Fine)], narrowed := true }
def BlockBlocksUptoSaid : Prop := blockBlocksUptoRow.holds Tryd.pinned (OpenSpec.upto blockBlocksSpec)

/-- 'signalcabinlaw.BlockParts', WHERE WHAT IT READS IS OF BULK AT MOST 1048576: true; the input reads as it did. -/
def blockPartsUptoRow : OpenClaim := { program := "ytoikggboakojlaadoor", sum := "4917c033fabb5e36184821659d5c20259225fc8a343cc25f28b872b3db70d580", func := "signalcabin/signalcabinlaw.BlockParts", spec := "blockParts", inPlace := ["internal/reflectlite.ValueOf", "(internal/reflectlite.Value).Type", "(internal/reflectlite.Value).IsNil", "internal/reflectlite.TypeOf", "(internal/reflectlite.Value).Elem", "(internal/reflectlite.Value).Set"], unfollowed := true, recurses := true, named := ["signalcabin/signalcabinref.Fine", "errors.errorType"], apart := false, laid := [("errors.errorType", laid_errors_errorType), ("signalcabin/signalcabinref.Fine", laid_signalcabin_signalcabinref_Fine)], narrowed := true }
def BlockPartsUptoSaid : Prop := blockPartsUptoRow.holds Tryd.pinned (OpenSpec.upto blockPartsSpec)

/-- 'signalcabinlaw.GateSolves', WHERE WHAT IT READS IS OF BULK AT MOST 1048576: true; the input reads as it did. -/
def gateSolvesUptoRow : OpenClaim := { program := "ytoikggboakojlaadoor", sum := "4917c033fabb5e36184821659d5c20259225fc8a343cc25f28b872b3db70d580", func := "signalcabin/signalcabinlaw.GateSolves", spec := "gateSolves", inPlace := ["internal/reflectlite.ValueOf", "(internal/reflectlite.Value).Type", "(internal/reflectlite.Value).IsNil", "internal/reflectlite.TypeOf", "(internal/reflectlite.Value).Elem", "(internal/reflectlite.Value).Set"], unfollowed := true, recurses := true, named := ["signalcabin/signalcabinref.Fine", "errors.errorType"], apart := false, laid := [("errors.errorType", laid_errors_errorType), ("signalcabin/signalcabinref.Fine", laid_signalcabin_signalcabinref_Fine)], narrowed := true }
def GateSolvesUptoSaid : Prop := gateSolvesUptoRow.holds Tryd.pinned (OpenSpec.upto gateSolvesSpec)

/-- 'signalcabinkeep.BlockMoore', WHERE WHAT IT READS IS OF BULK AT MOST 1048576: true; the input reads as it did. -/
def blockMooreUptoRow : OpenClaim := { program := "ytoikggboakojlaadoor", sum := "4917c033fabb5e36184821659d5c20259225fc8a343cc25f28b872b3db70d580", func := "signalcabin/signalcabinkeep.BlockMoore", spec := "blockMoore", inPlace := ["internal/reflectlite.ValueOf", "(internal/reflectlite.Value).Type", "(internal/reflectlite.Value).IsNil", "internal/reflectlite.TypeOf", "(internal/reflectlite.Value).Elem", "(internal/reflectlite.Value).Set"], unfollowed := true, recurses := true, named := ["errors.errorType"], apart := false, laid := [("errors.errorType", laid_errors_errorType)], narrowed := true }
def BlockMooreUptoSaid : Prop := blockMooreUptoRow.holds Tryd.pinned (OpenSpec.upto blockMooreSpec)

/-- 'signalcabinkeep.LassoTurns', WHERE WHAT IT READS IS OF BULK AT MOST 1048576: true; the input reads as it did. -/
def lassoTurnsUptoRow : OpenClaim := { program := "ytoikggboakojlaadoor", sum := "4917c033fabb5e36184821659d5c20259225fc8a343cc25f28b872b3db70d580", func := "signalcabin/signalcabinkeep.LassoTurns", spec := "lassoTurns", inPlace := ["internal/bytealg.IndexByteString", "internal/bytealg.IndexString"], unfollowed := true, recurses := true, named := ["unicode/utf8.first", "unicode/utf8.acceptRanges", "signalcabin/lasso.arity", "internal/bytealg.MaxLen"], apart := false, laid := [("unicode/utf8.acceptRanges", laid_unicode_utf8_acceptRanges), ("signalcabin/lasso.arity", laid_signalcabin_lasso_arity), ("unicode/utf8.first", laid_unicode_utf8_first)], narrowed := true }
def LassoTurnsUptoSaid : Prop := lassoTurnsUptoRow.holds Tryd.pinned (OpenSpec.upto lassoTurnsSpec)

/-- 'signalcabinkeep.LassoGrows', WHERE WHAT IT READS IS OF BULK AT MOST 1048576: true; the input reads as it did. -/
def lassoGrowsUptoRow : OpenClaim := { program := "ytoikggboakojlaadoor", sum := "4917c033fabb5e36184821659d5c20259225fc8a343cc25f28b872b3db70d580", func := "signalcabin/signalcabinkeep.LassoGrows", spec := "lassoGrows", inPlace := ["internal/bytealg.IndexByteString", "internal/bytealg.IndexString"], unfollowed := true, recurses := true, named := ["unicode/utf8.first", "unicode/utf8.acceptRanges", "signalcabin/lasso.arity", "internal/bytealg.MaxLen"], apart := false, laid := [("unicode/utf8.acceptRanges", laid_unicode_utf8_acceptRanges), ("signalcabin/lasso.arity", laid_signalcabin_lasso_arity), ("unicode/utf8.first", laid_unicode_utf8_first)], narrowed := true }
def LassoGrowsUptoSaid : Prop := lassoGrowsUptoRow.holds Tryd.pinned (OpenSpec.upto lassoGrowsSpec)

/-- 'signalcabinlaw.LassoRights', WHERE WHAT IT READS IS OF BULK AT MOST 1048576: true; the input reads as it did. -/
def lassoRightsUptoRow : OpenClaim := { program := "ytoikggboakojlaadoor", sum := "4917c033fabb5e36184821659d5c20259225fc8a343cc25f28b872b3db70d580", func := "signalcabin/signalcabinlaw.LassoRights", spec := "lassoRights", inPlace := ["internal/bytealg.IndexByteString", "internal/bytealg.IndexString", "internal/reflectlite.ValueOf", "(internal/reflectlite.Value).Type", "(internal/reflectlite.Value).IsNil", "internal/reflectlite.TypeOf", "(internal/reflectlite.Value).Elem", "(internal/reflectlite.Value).Set"], unfollowed := true, recurses := true, named := ["signalcabin/lasso.arity", "unicode/utf8.first", "unicode/utf8.acceptRanges", "errors.errorType", "internal/bytealg.MaxLen"], apart := false, laid := [("unicode/utf8.acceptRanges", laid_unicode_utf8_acceptRanges), ("errors.errorType", laid_errors_errorType), ("signalcabin/lasso.arity", laid_signalcabin_lasso_arity), ("unicode/utf8.first", laid_unicode_utf8_first)], narrowed := true }
def LassoRightsUptoSaid : Prop := lassoRightsUptoRow.holds Tryd.pinned (OpenSpec.upto lassoRightsSpec)

/-- 'signalcabinkeep.LassoPush', WHERE WHAT IT READS IS OF BULK AT MOST 1048576: true; the input reads as it did. -/
def lassoPushUptoRow : OpenClaim := { program := "ytoikggboakojlaadoor", sum := "4917c033fabb5e36184821659d5c20259225fc8a343cc25f28b872b3db70d580", func := "signalcabin/signalcabinkeep.LassoPush", spec := "lassoPush", inPlace := ["internal/bytealg.IndexByteString", "internal/bytealg.IndexString", "internal/abi.NoEscape", "internal/bytealg.MakeNoZero"], unfollowed := true, recurses := true, named := ["signalcabin/lasso.arity", "unicode/utf8.first", "unicode/utf8.acceptRanges", "internal/bytealg.MaxLen"], apart := false, laid := [("unicode/utf8.acceptRanges", laid_unicode_utf8_acceptRanges), ("signalcabin/lasso.arity", laid_signalcabin_lasso_arity), ("unicode/utf8.first", laid_unicode_utf8_first)], narrowed := true }
def LassoPushUptoSaid : Prop := lassoPushUptoRow.holds Tryd.pinned (OpenSpec.upto lassoPushSpec)

/-- 'signalcabinlaw.LassoHolds', WHERE WHAT IT READS IS OF BULK AT MOST 1048576: true; the input reads as it did. -/
def lassoHoldsUptoRow : OpenClaim := { program := "ytoikggboakojlaadoor", sum := "4917c033fabb5e36184821659d5c20259225fc8a343cc25f28b872b3db70d580", func := "signalcabin/signalcabinlaw.LassoHolds", spec := "lassoHolds", inPlace := ["internal/bytealg.IndexByteString", "internal/bytealg.IndexString", "internal/reflectlite.ValueOf", "(internal/reflectlite.Value).Type", "(internal/reflectlite.Value).IsNil", "internal/reflectlite.TypeOf", "(internal/reflectlite.Value).Elem", "(internal/reflectlite.Value).Set"], unfollowed := true, recurses := true, named := ["unicode/utf8.first", "unicode/utf8.acceptRanges", "errors.errorType", "signalcabin/lasso.arity", "internal/bytealg.MaxLen"], apart := false, laid := [("unicode/utf8.acceptRanges", laid_unicode_utf8_acceptRanges), ("errors.errorType", laid_errors_errorType), ("signalcabin/lasso.arity", laid_signalcabin_lasso_arity), ("unicode/utf8.first", laid_unicode_utf8_first)], narrowed := true }
def LassoHoldsUptoSaid : Prop := lassoHoldsUptoRow.holds Tryd.pinned (OpenSpec.upto lassoHoldsSpec)

/-- 'signalcabinlaw.LassoPushes', WHERE WHAT IT READS IS OF BULK AT MOST 1048576: true; the input reads as it did. -/
def lassoPushesUptoRow : OpenClaim := { program := "ytoikggboakojlaadoor", sum := "4917c033fabb5e36184821659d5c20259225fc8a343cc25f28b872b3db70d580", func := "signalcabin/signalcabinlaw.LassoPushes", spec := "lassoPushes", inPlace := ["internal/bytealg.IndexByteString", "internal/bytealg.IndexString", "internal/reflectlite.ValueOf", "(internal/reflectlite.Value).Type", "(internal/reflectlite.Value).IsNil", "internal/reflectlite.TypeOf", "(internal/reflectlite.Value).Elem", "(internal/reflectlite.Value).Set", "internal/abi.NoEscape", "internal/bytealg.MakeNoZero"], unfollowed := true, recurses := true, named := ["signalcabin/lasso.arity", "unicode/utf8.first", "unicode/utf8.acceptRanges", "errors.errorType", "internal/bytealg.MaxLen"], apart := false, laid := [("unicode/utf8.acceptRanges", laid_unicode_utf8_acceptRanges), ("errors.errorType", laid_errors_errorType), ("signalcabin/lasso.arity", laid_signalcabin_lasso_arity), ("unicode/utf8.first", laid_unicode_utf8_first)], narrowed := true }
def LassoPushesUptoSaid : Prop := lassoPushesUptoRow.holds Tryd.pinned (OpenSpec.upto lassoPushesSpec)

end Rows
end Go.Proofs.YtoikggboakojlaaDoor
