/-
  NARROWER THAN 'FOR EVERY INPUT', by the rows' own cells (each row's printed sentence says how): CoverPairs: laid · GateMakes: laid · GateTseitin: laid · GateSames: laid · GateTidy: laid.
  DERIVED. THE GIVEN ROWS OF THIS SEAT. 5 by the template 'for every input the law returns true; each argument reads behind the call as it read before'; 0 by the template 'total and deterministic' (their statements: YtagfbbnlbncjlaaGreatDoorTotals.lean).
  GIVEN WITH THE SEED: the statements are not yours to turn. If you find one false, say at which input.
  Laid BY PROGRAM, IN A SANDBOX (cutbox-rows.mjs): the forced cells as the released guide's own fill.sh prints them over the translation 4f247219ee1c387c… (all of the seat's roots in one cut). By AI agents, Wed Nov 11 2026. No macro, syntax, notation, axiom, sorry.
-/
import Derived.Test.YtagfbbnlbncjlaaGreatDoorChecked
import GoSem.PinnedTables
import GoSem.Claim
import GoSem.ClaimJoined
import GoSem.ClaimMapViews
import Derived.JoinedTies
import Derived.KernelRfl
namespace Go.Proofs.YtagfbbnlbncjlaaGreatDoor
/- THE CELL 'sum', in the pinned program and in every row, IS THE sha256 OF THE DUMP (.gsa) THAT YtagfbbnlbncjlaaGreatDoorProg.lean LOADS. Nothing in Lean hashes anything: it is a label: what it is worth is what the hold of that sum in a sandbox is worth. -/
noncomputable def Tryz.pinned : Pinned := { name := "ytagfbbnlbncjlaagreatdoor", sum := "4f247219ee1c387c37c985fbece11c11e7feb59f570e96cb5827e8e5a5d7d2c0", checked := Tryz.checked }
namespace Rows
def none {H : Type} : Left H := { results := [], args := [] }

/- WHAT THE LISTED PACKAGE-LEVEL VARIABLES READ AS WHEN THE CALL BEGINS. Each datum BY PROGRAM (the guide's laid-datum.mjs) off the statement by which the dump's own 'gosem.cut.vars' lays the variable. In a bare row this is a premise. The card (YtagfbbnlbncjlaaGreatDoorCards.lean) ties it to the program's text. -/
def laid_unicode_utf8_acceptRanges {H : Type} : DataW H := .agg [.agg [.lit (.int .u8 128), .lit (.int .u8 191)], .agg [.lit (.int .u8 160), .lit (.int .u8 191)], .agg [.lit (.int .u8 128), .lit (.int .u8 159)], .agg [.lit (.int .u8 144), .lit (.int .u8 191)], .agg [.lit (.int .u8 128), .lit (.int .u8 143)], .agg [.lit (.int .u8 0), .lit (.int .u8 0)], .agg [.lit (.int .u8 0), .lit (.int .u8 0)], .agg [.lit (.int .u8 0), .lit (.int .u8 0)], .agg [.lit (.int .u8 0), .lit (.int .u8 0)], .agg [.lit (.int .u8 0), .lit (.int .u8 0)], .agg [.lit (.int .u8 0), .lit (.int .u8 0)], .agg [.lit (.int .u8 0), .lit (.int .u8 0)], .agg [.lit (.int .u8 0), .lit (.int .u8 0)], .agg [.lit (.int .u8 0), .lit (.int .u8 0)], .agg [.lit (.int .u8 0), .lit (.int .u8 0)], .agg [.lit (.int .u8 0), .lit (.int .u8 0)]]
def laid_errors_errorType {H : Type} : DataW H := .iface "internal/reflectlite.rtype" (.agg [.ptr (.lit (.string [101, 114, 114, 111, 114]))])
def laid_signalcabin_signalcabinref_Fine {H : Type} : DataW H := .agg [.lit (.int .i64 0), .lit (.int .i64 (-1))]
/-- One of Go's own tables, pinned by name: the form's constant. -/
def laid_unicode_utf8_first : DataW Unit := Go.Pinned.utf8First

/-- 'signalcabinlaw.CoverPairs': WHATEVER THE INPUT: true; the input reads as it did. -/
def coverPairsSpec : ChangeSpec := { name := "coverPairs", fn := fun _ => fun
  | [d] => { results := [.lit (.bool true)], args := [d] }
  | _ => none }
def coverPairsRow : OpenClaim := { program := "ytagfbbnlbncjlaagreatdoor", sum := "4f247219ee1c387c37c985fbece11c11e7feb59f570e96cb5827e8e5a5d7d2c0", func := "signalcabin/signalcabinlaw.CoverPairs", spec := "coverPairs", inPlace := ["internal/bytealg.IndexByteString", "internal/bytealg.IndexString", "internal/reflectlite.ValueOf", "(internal/reflectlite.Value).Type", "(internal/reflectlite.Value).IsNil", "internal/reflectlite.TypeOf", "(internal/reflectlite.Value).Elem", "(internal/reflectlite.Value).Set"], unfollowed := true, recurses := true, named := ["signalcabin/signalcabinref.Fine", "unicode/utf8.first", "unicode/utf8.acceptRanges", "errors.errorType", "internal/bytealg.MaxLen"], apart := false, laid := [("unicode/utf8.acceptRanges", laid_unicode_utf8_acceptRanges), ("errors.errorType", laid_errors_errorType), ("signalcabin/signalcabinref.Fine", laid_signalcabin_signalcabinref_Fine), ("unicode/utf8.first", laid_unicode_utf8_first)] }
def CoverPairsSaid : Prop := coverPairsRow.holds Tryz.pinned (OpenSpec.ofChange coverPairsSpec)

/-- ITS FALSE NEIGHBOUR: 'it returns false'. Refute it at one input. -/
def coverPairsWrong : ChangeSpec := { name := "coverPairs", fn := fun _ => fun
  | [d] => { results := [.lit (.bool false)], args := [d] }
  | _ => none }
def CoverPairsWrongFalsely : Prop := coverPairsRow.holds Tryz.pinned (OpenSpec.ofChange coverPairsWrong)

/-- 'signalcabinlaw.GateMakes': WHATEVER THE INPUT: true; the input reads as it did. -/
def gateMakesSpec : ChangeSpec := { name := "gateMakes", fn := fun _ => fun
  | [d] => { results := [.lit (.bool true)], args := [d] }
  | _ => none }
def gateMakesRow : OpenClaim := { program := "ytagfbbnlbncjlaagreatdoor", sum := "4f247219ee1c387c37c985fbece11c11e7feb59f570e96cb5827e8e5a5d7d2c0", func := "signalcabin/signalcabinlaw.GateMakes", spec := "gateMakes", inPlace := ["internal/bytealg.IndexByteString", "internal/bytealg.IndexString", "internal/reflectlite.ValueOf", "(internal/reflectlite.Value).Type", "(internal/reflectlite.Value).IsNil", "internal/reflectlite.TypeOf", "(internal/reflectlite.Value).Elem", "(internal/reflectlite.Value).Set"], unfollowed := true, recurses := true, named := ["signalcabin/signalcabinref.Fine", "unicode/utf8.first", "unicode/utf8.acceptRanges", "errors.errorType", "internal/bytealg.MaxLen"], apart := false, laid := [("unicode/utf8.acceptRanges", laid_unicode_utf8_acceptRanges), ("errors.errorType", laid_errors_errorType), ("signalcabin/signalcabinref.Fine", laid_signalcabin_signalcabinref_Fine), ("unicode/utf8.first", laid_unicode_utf8_first)] }
def GateMakesSaid : Prop := gateMakesRow.holds Tryz.pinned (OpenSpec.ofChange gateMakesSpec)

/-- ITS FALSE NEIGHBOUR: 'it returns false'. Refute it at one input. -/
def gateMakesWrong : ChangeSpec := { name := "gateMakes", fn := fun _ => fun
  | [d] => { results := [.lit (.bool false)], args := [d] }
  | _ => none }
def GateMakesWrongFalsely : Prop := gateMakesRow.holds Tryz.pinned (OpenSpec.ofChange gateMakesWrong)

/-- 'signalcabinkeep.GateTseitin': WHATEVER THE INPUT: true; the input reads as it did. -/
def gateTseitinSpec : ChangeSpec := { name := "gateTseitin", fn := fun _ => fun
  | [d1, d2, d3] => { results := [.lit (.bool true)], args := [d1, d2, d3] }
  | _ => none }
def gateTseitinRow : OpenClaim := { program := "ytagfbbnlbncjlaagreatdoor", sum := "4f247219ee1c387c37c985fbece11c11e7feb59f570e96cb5827e8e5a5d7d2c0", func := "signalcabin/signalcabinkeep.GateTseitin", spec := "gateTseitin", inPlace := ["internal/bytealg.IndexByteString", "internal/bytealg.IndexString", "internal/reflectlite.ValueOf", "(internal/reflectlite.Value).Type", "(internal/reflectlite.Value).IsNil", "internal/reflectlite.TypeOf", "(internal/reflectlite.Value).Elem", "(internal/reflectlite.Value).Set"], unfollowed := true, recurses := true, named := ["unicode/utf8.first", "unicode/utf8.acceptRanges", "errors.errorType", "internal/bytealg.MaxLen"], apart := false, laid := [("unicode/utf8.acceptRanges", laid_unicode_utf8_acceptRanges), ("errors.errorType", laid_errors_errorType), ("unicode/utf8.first", laid_unicode_utf8_first)] }
def GateTseitinSaid : Prop := gateTseitinRow.holds Tryz.pinned (OpenSpec.ofChange gateTseitinSpec)

/-- ITS FALSE NEIGHBOUR: 'it returns false'. Refute it at one input. -/
def gateTseitinWrong : ChangeSpec := { name := "gateTseitin", fn := fun _ => fun
  | [d1, d2, d3] => { results := [.lit (.bool false)], args := [d1, d2, d3] }
  | _ => none }
def GateTseitinWrongFalsely : Prop := gateTseitinRow.holds Tryz.pinned (OpenSpec.ofChange gateTseitinWrong)

/-- 'signalcabinlaw.GateSames': WHATEVER THE INPUT: true; the input reads as it did. -/
def gateSamesSpec : ChangeSpec := { name := "gateSames", fn := fun _ => fun
  | [d1, d2] => { results := [.lit (.bool true)], args := [d1, d2] }
  | _ => none }
def gateSamesRow : OpenClaim := { program := "ytagfbbnlbncjlaagreatdoor", sum := "4f247219ee1c387c37c985fbece11c11e7feb59f570e96cb5827e8e5a5d7d2c0", func := "signalcabin/signalcabinlaw.GateSames", spec := "gateSames", inPlace := ["internal/bytealg.IndexByteString", "internal/bytealg.IndexString", "internal/reflectlite.ValueOf", "(internal/reflectlite.Value).Type", "(internal/reflectlite.Value).IsNil", "internal/reflectlite.TypeOf", "(internal/reflectlite.Value).Elem", "(internal/reflectlite.Value).Set"], unfollowed := true, recurses := true, named := ["signalcabin/signalcabinref.Fine", "unicode/utf8.first", "unicode/utf8.acceptRanges", "internal/bytealg.MaxLen", "errors.errorType"], apart := false, laid := [("unicode/utf8.acceptRanges", laid_unicode_utf8_acceptRanges), ("errors.errorType", laid_errors_errorType), ("signalcabin/signalcabinref.Fine", laid_signalcabin_signalcabinref_Fine), ("unicode/utf8.first", laid_unicode_utf8_first)] }
def GateSamesSaid : Prop := gateSamesRow.holds Tryz.pinned (OpenSpec.ofChange gateSamesSpec)

/-- ITS FALSE NEIGHBOUR: 'it returns false'. Refute it at one input. -/
def gateSamesWrong : ChangeSpec := { name := "gateSames", fn := fun _ => fun
  | [d1, d2] => { results := [.lit (.bool false)], args := [d1, d2] }
  | _ => none }
def GateSamesWrongFalsely : Prop := gateSamesRow.holds Tryz.pinned (OpenSpec.ofChange gateSamesWrong)

/-- 'signalcabinkeep.GateTidy': WHATEVER THE INPUT: true; the input reads as it did. -/
def gateTidySpec : ChangeSpec := { name := "gateTidy", fn := fun _ => fun
  | [d1, d2, d3, d4] => { results := [.lit (.bool true)], args := [d1, d2, d3, d4] }
  | _ => none }
def gateTidyRow : OpenClaim := { program := "ytagfbbnlbncjlaagreatdoor", sum := "4f247219ee1c387c37c985fbece11c11e7feb59f570e96cb5827e8e5a5d7d2c0", func := "signalcabin/signalcabinkeep.GateTidy", spec := "gateTidy", inPlace := ["internal/bytealg.IndexByteString", "internal/bytealg.IndexString", "internal/reflectlite.ValueOf", "(internal/reflectlite.Value).Type", "(internal/reflectlite.Value).IsNil", "internal/reflectlite.TypeOf", "(internal/reflectlite.Value).Elem", "(internal/reflectlite.Value).Set"], unfollowed := true, recurses := true, named := ["unicode/utf8.first", "unicode/utf8.acceptRanges", "errors.errorType", "internal/bytealg.MaxLen"], apart := false, laid := [("unicode/utf8.acceptRanges", laid_unicode_utf8_acceptRanges), ("errors.errorType", laid_errors_errorType), ("unicode/utf8.first", laid_unicode_utf8_first)] }
def GateTidySaid : Prop := gateTidyRow.holds Tryz.pinned (OpenSpec.ofChange gateTidySpec)

/-- ITS FALSE NEIGHBOUR: 'it returns false'. Refute it at one input. -/
def gateTidyWrong : ChangeSpec := { name := "gateTidy", fn := fun _ => fun
  | [d1, d2, d3, d4] => { results := [.lit (.bool false)], args := [d1, d2, d3, d4] }
  | _ => none }
def GateTidyWrongFalsely : Prop := gateTidyRow.holds Tryz.pinned (OpenSpec.ofChange gateTidyWrong)

/- THE SECOND FORM. 'bulk': how many values and letters a reading holds, each counted each time it is reached (what is shared counts as often as it is met; a slice's spare places count too). A statement '..UptoSaid' is the law's where the arguments, and the package variables that the reading takes, are together of bulk at most 1048576: NARROWER than '..Said'. Prove '..Said' where nothing that the law and all that it calls make is longer than what came in: it says more and counts as full. Else prove '..UptoSaid'. A law counts once. -/
mutual
def uptoBulk {H : Type} : DataW H → Nat
  | .lit (.string bytes) => bytes.length + 1
  | .lit _ => 1
  | .nil => 1
  | .ptr d => uptoBulk d + 1
  | .slice elems spare => uptoBulkAll elems + uptoBulkAll spare + 1
  | .agg parts => uptoBulkAll parts + 1
  | .iface _ d => uptoBulk d + 1
  | .map entries => uptoBulkEntries entries + 1
  | .held _ => 1
def uptoBulkAll {H : Type} : List (DataW H) → Nat
  | [] => 0
  | d :: r => uptoBulk d + uptoBulkAll r
def uptoBulkEntries {H : Type} : List (Lit × DataW H) → Nat
  | [] => 0
  | x :: r => uptoBulkEntry x + uptoBulkEntries r
def uptoBulkEntry {H : Type} : Lit × DataW H → Nat
  | (.string bytes, d) => bytes.length + uptoBulk d + 1
  | (_, d) => uptoBulk d + 1
 end
def uptoSmall : (H : Type) → List (DataW H) → Bool := fun _ ds => decide (uptoBulkAll ds ≤ 1048576)
def OpenSpec.upto (s : _root_.Go.ChangeSpec) : _root_.Go.OpenSpec := { _root_.Go.OpenSpec.ofChange s with cond := some uptoSmall }

/-- 'signalcabinlaw.CoverPairs', WHERE WHAT IT READS IS OF BULK AT MOST 1048576: true; the input reads as it did. -/
def coverPairsUptoRow : OpenClaim := { program := "ytagfbbnlbncjlaagreatdoor", sum := "4f247219ee1c387c37c985fbece11c11e7feb59f570e96cb5827e8e5a5d7d2c0", func := "signalcabin/signalcabinlaw.CoverPairs", spec := "coverPairs", inPlace := ["internal/bytealg.IndexByteString", "internal/bytealg.IndexString", "internal/reflectlite.ValueOf", "(internal/reflectlite.Value).Type", "(internal/reflectlite.Value).IsNil", "internal/reflectlite.TypeOf", "(internal/reflectlite.Value).Elem", "(internal/reflectlite.Value).Set"], unfollowed := true, recurses := true, named := ["signalcabin/signalcabinref.Fine", "unicode/utf8.first", "unicode/utf8.acceptRanges", "errors.errorType", "internal/bytealg.MaxLen"], apart := false, laid := [("unicode/utf8.acceptRanges", laid_unicode_utf8_acceptRanges), ("errors.errorType", laid_errors_errorType), ("signalcabin/signalcabinref.Fine", laid_signalcabin_signalcabinref_Fine), ("unicode/utf8.first", laid_unicode_utf8_first)], narrowed := true }
def CoverPairsUptoSaid : Prop := coverPairsUptoRow.holds Tryz.pinned (OpenSpec.upto coverPairsSpec)

/-- 'signalcabinlaw.GateMakes', WHERE WHAT IT READS IS OF BULK AT MOST 1048576: true; the input reads as it did. -/
def gateMakesUptoRow : OpenClaim := { program := "ytagfbbnlbncjlaagreatdoor", sum := "4f247219ee1c387c37c985fbece11c11e7feb59f570e96cb5827e8e5a5d7d2c0", func := "signalcabin/signalcabinlaw.GateMakes", spec := "gateMakes", inPlace := ["internal/bytealg.IndexByteString", "internal/bytealg.IndexString", "internal/reflectlite.ValueOf", "(internal/reflectlite.Value).Type", "(internal/reflectlite.Value).IsNil", "internal/reflectlite.TypeOf", "(internal/reflectlite.Value).Elem", "(internal/reflectlite.Value).Set"], unfollowed := true, recurses := true, named := ["signalcabin/signalcabinref.Fine", "unicode/utf8.first", "unicode/utf8.acceptRanges", "errors.errorType", "internal/bytealg.MaxLen"], apart := false, laid := [("unicode/utf8.acceptRanges", laid_unicode_utf8_acceptRanges), ("errors.errorType", laid_errors_errorType), ("signalcabin/signalcabinref.Fine", laid_signalcabin_signalcabinref_Fine), ("unicode/utf8.first", laid_unicode_utf8_first)], narrowed := true }
def GateMakesUptoSaid : Prop := gateMakesUptoRow.holds Tryz.pinned (OpenSpec.upto gateMakesSpec)

/-- 'signalcabinkeep.GateTseitin', WHERE WHAT IT READS IS OF BULK AT MOST 1048576: true; the input reads as it did. -/
def gateTseitinUptoRow : OpenClaim := { program := "ytagfbbnlbncjlaagreatdoor", sum := "4f247219ee1c387c37c985fbece11c11e7feb59f570e96cb5827e8e5a5d7d2c0", func := "signalcabin/signalcabinkeep.GateTseitin", spec := "gateTseitin", inPlace := ["internal/bytealg.IndexByteString", "internal/bytealg.IndexString", "internal/reflectlite.ValueOf", "(internal/reflectlite.Value).Type", "(internal/reflectlite.Value).IsNil", "internal/reflectlite.TypeOf", "(internal/reflectlite.Value).Elem", "(internal/reflectlite.Value).Set"], unfollowed := true, recurses := true, named := ["unicode/utf8.first", "unicode/utf8.acceptRanges", "errors.errorType", "internal/bytealg.MaxLen"], apart := false, laid := [("unicode/utf8.acceptRanges", laid_unicode_utf8_acceptRanges), ("errors.errorType", laid_errors_errorType), ("unicode/utf8.first", laid_unicode_utf8_first)], narrowed := true }
def GateTseitinUptoSaid : Prop := gateTseitinUptoRow.holds Tryz.pinned (OpenSpec.upto gateTseitinSpec)

/-- 'signalcabinlaw.GateSames', WHERE WHAT IT READS IS OF BULK AT MOST 1048576: true; the input reads as it did. -/
def gateSamesUptoRow : OpenClaim := { program := "ytagfbbnlbncjlaagreatdoor", sum := "4f247219ee1c387c37c985fbece11c11e7feb59f570e96cb5827e8e5a5d7d2c0", func := "signalcabin/signalcabinlaw.GateSames", spec := "gateSames", inPlace := ["internal/bytealg.IndexByteString", "internal/bytealg.IndexString", "internal/reflectlite.ValueOf", "(internal/reflectlite.Value).Type", "(internal/reflectlite.Value).IsNil", "internal/reflectlite.TypeOf", "(internal/reflectlite.Value).Elem", "(internal/reflectlite.Value).Set"], unfollowed := true, recurses := true, named := ["signalcabin/signalcabinref.Fine", "unicode/utf8.first", "unicode/utf8.acceptRanges", "internal/bytealg.MaxLen", "errors.errorType"], apart := false, laid := [("unicode/utf8.acceptRanges", laid_unicode_utf8_acceptRanges), ("errors.errorType", laid_errors_errorType), ("signalcabin/signalcabinref.Fine", laid_signalcabin_signalcabinref_Fine), ("unicode/utf8.first", laid_unicode_utf8_first)], narrowed := true }
def GateSamesUptoSaid : Prop := gateSamesUptoRow.holds Tryz.pinned (OpenSpec.upto gateSamesSpec)

/-- 'signalcabinkeep.GateTidy', WHERE WHAT IT READS IS OF BULK AT MOST 1048576: true; the input reads as it did. -/
def gateTidyUptoRow : OpenClaim := { program := "ytagfbbnlbncjlaagreatdoor", sum := "4f247219ee1c387c37c985fbece11c11e7feb59f570e96cb5827e8e5a5d7d2c0", func := "signalcabin/signalcabinkeep.GateTidy", spec := "gateTidy", inPlace := ["internal/bytealg.IndexByteString", "internal/bytealg.IndexString", "internal/reflectlite.ValueOf", "(internal/reflectlite.Value).Type", "(internal/reflectlite.Value).IsNil", "internal/reflectlite.TypeOf", "(internal/reflectlite.Value).Elem", "(internal/reflectlite.Value).Set"], unfollowed := true, recurses := true, named := ["unicode/utf8.first", "unicode/utf8.acceptRanges", "errors.errorType", "internal/bytealg.MaxLen"], apart := false, laid := [("unicode/utf8.acceptRanges", laid_unicode_utf8_acceptRanges), ("errors.errorType", laid_errors_errorType), ("unicode/utf8.first", laid_unicode_utf8_first)], narrowed := true }
def GateTidyUptoSaid : Prop := gateTidyUptoRow.holds Tryz.pinned (OpenSpec.upto gateTidySpec)

end Rows
end Go.Proofs.YtagfbbnlbncjlaaGreatDoor
