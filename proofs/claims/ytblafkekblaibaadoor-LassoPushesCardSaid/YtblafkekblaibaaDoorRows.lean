/-
  NARROWER THAN 'FOR EVERY INPUT', by the rows' own cells (each row's printed sentence says how): ExprBack: laid · LassoPush: laid · ExprTidies: laid · LassoPushes: laid · ExprTidy: laid · ExprParses: laid.
  DERIVED. THE GIVEN ROWS OF THIS SEAT. 6 by the template 'for every input the law returns true; each argument reads behind the call as it read before'; 0 by the template 'total and deterministic' (their statements: YtblafkekblaibaaDoorTotals.lean).
  GIVEN WITH THE SEED: the statements are not yours to turn. If you find one false, say at which input.
  Laid BY PROGRAM, IN A SANDBOX (cutbox-rows.mjs): the forced cells as the released guide's own fill.sh prints them over the translation b5abde62e53b7240… (all of the seat's roots in one cut). By AI agents, Wed Nov 11 2026. No macro, syntax, notation, axiom, sorry.
-/
import Derived.Test.YtblafkekblaibaaDoorChecked
import GoSem.PinnedTables
import GoSem.Claim
import GoSem.ClaimJoined
import GoSem.ClaimMapViews
import Derived.JoinedTies
import Derived.KernelRfl
namespace Go.Proofs.YtblafkekblaibaaDoor
/- THE CELL 'sum', in the pinned program and in every row, IS THE sha256 OF THE DUMP (.gsa) THAT YtblafkekblaibaaDoorProg.lean LOADS. Nothing in Lean hashes anything: it is a label: what it is worth is what the hold of that sum in a sandbox is worth. -/
noncomputable def Tryd.pinned : Pinned := { name := "ytblafkekblaibaadoor", sum := "b5abde62e53b7240fe1343e250b0d7b6750ded74b0a5a5dac54e736a294249a2", checked := Tryd.checked }
namespace Rows
def none {H : Type} : Left H := { results := [], args := [] }

/- WHAT THE LISTED PACKAGE-LEVEL VARIABLES READ AS WHEN THE CALL BEGINS. Each datum BY PROGRAM (the guide's laid-datum.mjs) off the statement by which the dump's own 'gosem.cut.vars' lays the variable. In a bare row this is a premise. The card (YtblafkekblaibaaDoorCards.lean) ties it to the program's text. -/
def laid_unicode_utf8_acceptRanges {H : Type} : DataW H := .agg [.agg [.lit (.int .u8 128), .lit (.int .u8 191)], .agg [.lit (.int .u8 160), .lit (.int .u8 191)], .agg [.lit (.int .u8 128), .lit (.int .u8 159)], .agg [.lit (.int .u8 144), .lit (.int .u8 191)], .agg [.lit (.int .u8 128), .lit (.int .u8 143)], .agg [.lit (.int .u8 0), .lit (.int .u8 0)], .agg [.lit (.int .u8 0), .lit (.int .u8 0)], .agg [.lit (.int .u8 0), .lit (.int .u8 0)], .agg [.lit (.int .u8 0), .lit (.int .u8 0)], .agg [.lit (.int .u8 0), .lit (.int .u8 0)], .agg [.lit (.int .u8 0), .lit (.int .u8 0)], .agg [.lit (.int .u8 0), .lit (.int .u8 0)], .agg [.lit (.int .u8 0), .lit (.int .u8 0)], .agg [.lit (.int .u8 0), .lit (.int .u8 0)], .agg [.lit (.int .u8 0), .lit (.int .u8 0)], .agg [.lit (.int .u8 0), .lit (.int .u8 0)]]
/-- One of Go's own tables, pinned by name: the form's constant. -/
def laid_unicode_utf8_first : DataW Unit := Go.Pinned.utf8First
def laid_signalcabin_lasso_arity {H : Type} : DataW H := .agg [.lit (.int .i64 (-1)), .lit (.int .i64 0), .lit (.int .i64 0), .lit (.int .i64 1), .lit (.int .i64 2), .lit (.int .i64 2), .lit (.int .i64 1), .lit (.int .i64 2), .lit (.int .i64 2), .lit (.int .i64 1), .lit (.int .i64 1)]
def laid_signalcabin_signalcabinref_Fine {H : Type} : DataW H := .agg [.lit (.int .i64 0), .lit (.int .i64 (-1))]
def laid_errors_errorType {H : Type} : DataW H := .iface "internal/reflectlite.rtype" (.agg [.ptr (.lit (.string [101, 114, 114, 111, 114]))])

/-- 'signalcabinkeep.ExprBack': WHATEVER THE INPUT: true; the input reads as it did. -/
def exprBackSpec : ChangeSpec := { name := "exprBack", fn := fun _ => fun
  | [d1, d2, d3] => { results := [.lit (.bool true)], args := [d1, d2, d3] }
  | _ => none }
def exprBackRow : OpenClaim := { program := "ytblafkekblaibaadoor", sum := "b5abde62e53b7240fe1343e250b0d7b6750ded74b0a5a5dac54e736a294249a2", func := "signalcabin/signalcabinkeep.ExprBack", spec := "exprBack", inPlace := ["internal/bytealg.IndexByteString", "internal/bytealg.IndexString"], unfollowed := true, recurses := true, named := ["unicode/utf8.first", "unicode/utf8.acceptRanges", "internal/bytealg.MaxLen"], apart := false, laid := [("unicode/utf8.acceptRanges", laid_unicode_utf8_acceptRanges), ("unicode/utf8.first", laid_unicode_utf8_first)] }
def ExprBackSaid : Prop := exprBackRow.holds Tryd.pinned (OpenSpec.ofChange exprBackSpec)

/-- ITS FALSE NEIGHBOUR: 'it returns false'. Refute it at one input. -/
def exprBackWrong : ChangeSpec := { name := "exprBack", fn := fun _ => fun
  | [d1, d2, d3] => { results := [.lit (.bool false)], args := [d1, d2, d3] }
  | _ => none }
def ExprBackWrongFalsely : Prop := exprBackRow.holds Tryd.pinned (OpenSpec.ofChange exprBackWrong)

/-- 'signalcabinkeep.LassoPush': WHATEVER THE INPUT: true; the input reads as it did. -/
def lassoPushSpec : ChangeSpec := { name := "lassoPush", fn := fun _ => fun
  | [d1, d2] => { results := [.lit (.bool true)], args := [d1, d2] }
  | _ => none }
def lassoPushRow : OpenClaim := { program := "ytblafkekblaibaadoor", sum := "b5abde62e53b7240fe1343e250b0d7b6750ded74b0a5a5dac54e736a294249a2", func := "signalcabin/signalcabinkeep.LassoPush", spec := "lassoPush", inPlace := ["internal/bytealg.IndexByteString", "internal/bytealg.IndexString", "internal/abi.NoEscape", "internal/bytealg.MakeNoZero"], unfollowed := true, recurses := true, named := ["signalcabin/lasso.arity", "unicode/utf8.first", "unicode/utf8.acceptRanges", "internal/bytealg.MaxLen"], apart := false, laid := [("unicode/utf8.acceptRanges", laid_unicode_utf8_acceptRanges), ("signalcabin/lasso.arity", laid_signalcabin_lasso_arity), ("unicode/utf8.first", laid_unicode_utf8_first)] }
def LassoPushSaid : Prop := lassoPushRow.holds Tryd.pinned (OpenSpec.ofChange lassoPushSpec)

/-- ITS FALSE NEIGHBOUR: 'it returns false'. Refute it at one input. -/
def lassoPushWrong : ChangeSpec := { name := "lassoPush", fn := fun _ => fun
  | [d1, d2] => { results := [.lit (.bool false)], args := [d1, d2] }
  | _ => none }
def LassoPushWrongFalsely : Prop := lassoPushRow.holds Tryd.pinned (OpenSpec.ofChange lassoPushWrong)

/-- 'signalcabinlaw.ExprTidies': WHATEVER THE INPUT: true; the input reads as it did. -/
def exprTidiesSpec : ChangeSpec := { name := "exprTidies", fn := fun _ => fun
  | [d] => { results := [.lit (.bool true)], args := [d] }
  | _ => none }
def exprTidiesRow : OpenClaim := { program := "ytblafkekblaibaadoor", sum := "b5abde62e53b7240fe1343e250b0d7b6750ded74b0a5a5dac54e736a294249a2", func := "signalcabin/signalcabinlaw.ExprTidies", spec := "exprTidies", inPlace := ["internal/bytealg.IndexByteString", "internal/bytealg.IndexString", "internal/abi.NoEscape", "internal/bytealg.MakeNoZero"], unfollowed := true, recurses := true, named := ["signalcabin/signalcabinref.Fine", "unicode/utf8.first", "unicode/utf8.acceptRanges", "internal/bytealg.MaxLen"], apart := false, laid := [("unicode/utf8.acceptRanges", laid_unicode_utf8_acceptRanges), ("signalcabin/signalcabinref.Fine", laid_signalcabin_signalcabinref_Fine), ("unicode/utf8.first", laid_unicode_utf8_first)] }
def ExprTidiesSaid : Prop := exprTidiesRow.holds Tryd.pinned (OpenSpec.ofChange exprTidiesSpec)

/-- ITS FALSE NEIGHBOUR: 'it returns false'. Refute it at one input. -/
def exprTidiesWrong : ChangeSpec := { name := "exprTidies", fn := fun _ => fun
  | [d] => { results := [.lit (.bool false)], args := [d] }
  | _ => none }
def ExprTidiesWrongFalsely : Prop := exprTidiesRow.holds Tryd.pinned (OpenSpec.ofChange exprTidiesWrong)

/-- 'signalcabinlaw.LassoPushes': WHATEVER THE INPUT: true; the input reads as it did. -/
def lassoPushesSpec : ChangeSpec := { name := "lassoPushes", fn := fun _ => fun
  | [d] => { results := [.lit (.bool true)], args := [d] }
  | _ => none }
def lassoPushesRow : OpenClaim := { program := "ytblafkekblaibaadoor", sum := "b5abde62e53b7240fe1343e250b0d7b6750ded74b0a5a5dac54e736a294249a2", func := "signalcabin/signalcabinlaw.LassoPushes", spec := "lassoPushes", inPlace := ["internal/bytealg.IndexByteString", "internal/bytealg.IndexString", "internal/reflectlite.ValueOf", "(internal/reflectlite.Value).Type", "(internal/reflectlite.Value).IsNil", "internal/reflectlite.TypeOf", "(internal/reflectlite.Value).Elem", "(internal/reflectlite.Value).Set", "internal/abi.NoEscape", "internal/bytealg.MakeNoZero"], unfollowed := true, recurses := true, named := ["signalcabin/lasso.arity", "unicode/utf8.first", "unicode/utf8.acceptRanges", "errors.errorType", "internal/bytealg.MaxLen"], apart := false, laid := [("unicode/utf8.acceptRanges", laid_unicode_utf8_acceptRanges), ("errors.errorType", laid_errors_errorType), ("signalcabin/lasso.arity", laid_signalcabin_lasso_arity), ("unicode/utf8.first", laid_unicode_utf8_first)] }
def LassoPushesSaid : Prop := lassoPushesRow.holds Tryd.pinned (OpenSpec.ofChange lassoPushesSpec)

/-- ITS FALSE NEIGHBOUR: 'it returns false'. Refute it at one input. -/
def lassoPushesWrong : ChangeSpec := { name := "lassoPushes", fn := fun _ => fun
  | [d] => { results := [.lit (.bool false)], args := [d] }
  | _ => none }
def LassoPushesWrongFalsely : Prop := lassoPushesRow.holds Tryd.pinned (OpenSpec.ofChange lassoPushesWrong)

/-- 'signalcabinkeep.ExprTidy': WHATEVER THE INPUT: true; the input reads as it did. -/
def exprTidySpec : ChangeSpec := { name := "exprTidy", fn := fun _ => fun
  | [d1, d2, d3] => { results := [.lit (.bool true)], args := [d1, d2, d3] }
  | _ => none }
def exprTidyRow : OpenClaim := { program := "ytblafkekblaibaadoor", sum := "b5abde62e53b7240fe1343e250b0d7b6750ded74b0a5a5dac54e736a294249a2", func := "signalcabin/signalcabinkeep.ExprTidy", spec := "exprTidy", inPlace := ["internal/bytealg.IndexByteString", "internal/bytealg.IndexString"], unfollowed := true, recurses := true, named := ["unicode/utf8.first", "unicode/utf8.acceptRanges", "internal/bytealg.MaxLen"], apart := false, laid := [("unicode/utf8.acceptRanges", laid_unicode_utf8_acceptRanges), ("unicode/utf8.first", laid_unicode_utf8_first)] }
def ExprTidySaid : Prop := exprTidyRow.holds Tryd.pinned (OpenSpec.ofChange exprTidySpec)

/-- ITS FALSE NEIGHBOUR: 'it returns false'. Refute it at one input. -/
def exprTidyWrong : ChangeSpec := { name := "exprTidy", fn := fun _ => fun
  | [d1, d2, d3] => { results := [.lit (.bool false)], args := [d1, d2, d3] }
  | _ => none }
def ExprTidyWrongFalsely : Prop := exprTidyRow.holds Tryd.pinned (OpenSpec.ofChange exprTidyWrong)

/-- 'signalcabinlaw.ExprParses': WHATEVER THE INPUT: true; the input reads as it did. -/
def exprParsesSpec : ChangeSpec := { name := "exprParses", fn := fun _ => fun
  | [d] => { results := [.lit (.bool true)], args := [d] }
  | _ => none }
def exprParsesRow : OpenClaim := { program := "ytblafkekblaibaadoor", sum := "b5abde62e53b7240fe1343e250b0d7b6750ded74b0a5a5dac54e736a294249a2", func := "signalcabin/signalcabinlaw.ExprParses", spec := "exprParses", inPlace := ["internal/bytealg.IndexByteString", "internal/bytealg.IndexString", "internal/reflectlite.ValueOf", "(internal/reflectlite.Value).Type", "(internal/reflectlite.Value).IsNil", "internal/reflectlite.TypeOf", "(internal/reflectlite.Value).Elem", "(internal/reflectlite.Value).Set", "internal/abi.NoEscape", "internal/bytealg.MakeNoZero"], unfollowed := true, recurses := true, named := ["signalcabin/signalcabinref.Fine", "unicode/utf8.first", "unicode/utf8.acceptRanges", "errors.errorType", "internal/bytealg.MaxLen"], apart := false, laid := [("unicode/utf8.acceptRanges", laid_unicode_utf8_acceptRanges), ("errors.errorType", laid_errors_errorType), ("signalcabin/signalcabinref.Fine", laid_signalcabin_signalcabinref_Fine), ("unicode/utf8.first", laid_unicode_utf8_first)] }
def ExprParsesSaid : Prop := exprParsesRow.holds Tryd.pinned (OpenSpec.ofChange exprParsesSpec)

/-- ITS FALSE NEIGHBOUR: 'it returns false'. Refute it at one input. -/
def exprParsesWrong : ChangeSpec := { name := "exprParses", fn := fun _ => fun
  | [d] => { results := [.lit (.bool false)], args := [d] }
  | _ => none }
def ExprParsesWrongFalsely : Prop := exprParsesRow.holds Tryd.pinned (OpenSpec.ofChange exprParsesWrong)

/- THE SECOND FORM. 'bulk': how many values and letters a reading holds, each counted each time it is reached (what is shared counts as often as it is met; a slice's spare places count too). A statement '..UptoSaid' is the law's where the arguments, and the package variables that the reading takes, are together of bulk at most 1048576: NARROWER than '..Said'. Prove '..Said' where nothing that the law and all that it calls make is longer than what came in: it says more and counts as full. Else prove '..UptoSaid'. A law counts once. -/
mutual
def uptoBulk {H : Type} : DataW H → Nat
  | .lit (.string bytes) => bytes.length + 1
  | .lit _ => 1
  | .nil => 1
  | .ptr d => uptoBulk d + 1
  | .slice elems spare => uptoBulkAll elems + uptoBulkAll spare + 1
  | .agg parts => uptoBulkAll parts + 1
  | .iface _ d => uptoBulk d + 1
  | .map entries => uptoBulkEntries entries + 1
  | .held _ => 1
def uptoBulkAll {H : Type} : List (DataW H) → Nat
  | [] => 0
  | d :: r => uptoBulk d + uptoBulkAll r
def uptoBulkEntries {H : Type} : List (Lit × DataW H) → Nat
  | [] => 0
  | x :: r => uptoBulkEntry x + uptoBulkEntries r
def uptoBulkEntry {H : Type} : Lit × DataW H → Nat
  | (.string bytes, d) => bytes.length + uptoBulk d + 1
  | (_, d) => uptoBulk d + 1
 end
def uptoSmall : (H : Type) → List (DataW H) → Bool := fun _ ds => decide (uptoBulkAll ds ≤ 1048576)
def OpenSpec.upto (s : _root_.Go.ChangeSpec) : _root_.Go.OpenSpec := { _root_.Go.OpenSpec.ofChange s with cond := some uptoSmall }

/-- 'signalcabinkeep.ExprBack', WHERE WHAT IT READS IS OF BULK AT MOST 1048576: true; the input reads as it did. -/
def exprBackUptoRow : OpenClaim := { program := "ytblafkekblaibaadoor", sum := "b5abde62e53b7240fe1343e250b0d7b6750ded74b0a5a5dac54e736a294249a2", func := "signalcabin/signalcabinkeep.ExprBack", spec := "exprBack", inPlace := ["internal/bytealg.IndexByteString", "internal/bytealg.IndexString"], unfollowed := true, recurses := true, named := ["unicode/utf8.first", "unicode/utf8.acceptRanges", "internal/bytealg.MaxLen"], apart := false, laid := [("unicode/utf8.acceptRanges", laid_unicode_utf8_acceptRanges), ("unicode/utf8.first", laid_unicode_utf8_first)], narrowed := true }
def ExprBackUptoSaid : Prop := exprBackUptoRow.holds Tryd.pinned (OpenSpec.upto exprBackSpec)

/-- 'signalcabinkeep.LassoPush', WHERE WHAT IT READS IS OF BULK AT MOST 1048576: true; the input reads as it did. -/
def lassoPushUptoRow : OpenClaim := { program := "ytblafkekblaibaadoor", sum := "b5abde62e53b7240fe1343e250b0d7b6750ded74b0a5a5dac54e736a294249a2", func := "signalcabin/signalcabinkeep.LassoPush", spec := "lassoPush", inPlace := ["internal/bytealg.IndexByteString", "internal/bytealg.IndexString", "internal/abi.NoEscape", "internal/bytealg.MakeNoZero"], unfollowed := true, recurses := true, named := ["signalcabin/lasso.arity", "unicode/utf8.first", "unicode/utf8.acceptRanges", "internal/bytealg.MaxLen"], apart := false, laid := [("unicode/utf8.acceptRanges", laid_unicode_utf8_acceptRanges), ("signalcabin/lasso.arity", laid_signalcabin_lasso_arity), ("unicode/utf8.first", laid_unicode_utf8_first)], narrowed := true }
def LassoPushUptoSaid : Prop := lassoPushUptoRow.holds Tryd.pinned (OpenSpec.upto lassoPushSpec)

/-- 'signalcabinlaw.ExprTidies', WHERE WHAT IT READS IS OF BULK AT MOST 1048576: true; the input reads as it did. -/
def exprTidiesUptoRow : OpenClaim := { program := "ytblafkekblaibaadoor", sum := "b5abde62e53b7240fe1343e250b0d7b6750ded74b0a5a5dac54e736a294249a2", func := "signalcabin/signalcabinlaw.ExprTidies", spec := "exprTidies", inPlace := ["internal/bytealg.IndexByteString", "internal/bytealg.IndexString", "internal/abi.NoEscape", "internal/bytealg.MakeNoZero"], unfollowed := true, recurses := true, named := ["signalcabin/signalcabinref.Fine", "unicode/utf8.first", "unicode/utf8.acceptRanges", "internal/bytealg.MaxLen"], apart := false, laid := [("unicode/utf8.acceptRanges", laid_unicode_utf8_acceptRanges), ("signalcabin/signalcabinref.Fine", laid_signalcabin_signalcabinref_Fine), ("unicode/utf8.first", laid_unicode_utf8_first)], narrowed := true }
def ExprTidiesUptoSaid : Prop := exprTidiesUptoRow.holds Tryd.pinned (OpenSpec.upto exprTidiesSpec)

/-- 'signalcabinlaw.LassoPushes', WHERE WHAT IT READS IS OF BULK AT MOST 1048576: true; the input reads as it did. -/
def lassoPushesUptoRow : OpenClaim := { program := "ytblafkekblaibaadoor", sum := "b5abde62e53b7240fe1343e250b0d7b6750ded74b0a5a5dac54e736a294249a2", func := "signalcabin/signalcabinlaw.LassoPushes", spec := "lassoPushes", inPlace := ["internal/bytealg.IndexByteString", "internal/bytealg.IndexString", "internal/reflectlite.ValueOf", "(internal/reflectlite.Value).Type", "(internal/reflectlite.Value).IsNil", "internal/reflectlite.TypeOf", "(internal/reflectlite.Value).Elem", "(internal/reflectlite.Value).Set", "internal/abi.NoEscape", "internal/bytealg.MakeNoZero"], unfollowed := true, recurses := true, named := ["signalcabin/lasso.arity", "unicode/utf8.first", "unicode/utf8.acceptRanges", "errors.errorType", "internal/bytealg.MaxLen"], apart := false, laid := [("unicode/utf8.acceptRanges", laid_unicode_utf8_acceptRanges), ("errors.errorType", laid_errors_errorType), ("signalcabin/lasso.arity", laid_signalcabin_lasso_arity), ("unicode/utf8.first", laid_unicode_utf8_first)], narrowed := true }
def LassoPushesUptoSaid : Prop := lassoPushesUptoRow.holds Tryd.pinned (OpenSpec.upto lassoPushesSpec)

/-- 'signalcabinkeep.ExprTidy', WHERE WHAT IT READS IS OF BULK AT MOST 1048576: true; the input reads as it did. -/
def exprTidyUptoRow : OpenClaim := { program := "ytblafkekblaibaadoor", sum := "b5abde62e53b7240fe1343e250b0d7b6750ded74b0a5a5dac54e736a294249a2", func := "signalcabin/signalcabinkeep.ExprTidy", spec := "exprTidy", inPlace := ["internal/bytealg.IndexByteString", "internal/bytealg.IndexString"], unfollowed := true, recurses := true, named := ["unicode/utf8.first", "unicode/utf8.acceptRanges", "internal/bytealg.MaxLen"], apart := false, laid := [("unicode/utf8.acceptRanges", laid_unicode_utf8_acceptRanges), ("unicode/utf8.first", laid_unicode_utf8_first)], narrowed := true }
def ExprTidyUptoSaid : Prop := exprTidyUptoRow.holds Tryd.pinned (OpenSpec.upto exprTidySpec)

/-- 'signalcabinlaw.ExprParses', WHERE WHAT IT READS IS OF BULK AT MOST 1048576: true; the input reads as it did. -/
def exprParsesUptoRow : OpenClaim := { program := "ytblafkekblaibaadoor", sum := "b5abde62e53b7240fe1343e250b0d7b6750ded74b0a5a5dac54e736a294249a2", func := "signalcabin/signalcabinlaw.ExprParses", spec := "exprParses", inPlace := ["internal/bytealg.IndexByteString", "internal/bytealg.IndexString", "internal/reflectlite.ValueOf", "(internal/reflectlite.Value).Type", "(internal/reflectlite.Value).IsNil", "internal/reflectlite.TypeOf", "(internal/reflectlite.Value).Elem", "(internal/reflectlite.Value).Set", "internal/abi.NoEscape", "internal/bytealg.MakeNoZero"], unfollowed := true, recurses := true, named := ["signalcabin/signalcabinref.Fine", "unicode/utf8.first", "unicode/utf8.acceptRanges", "errors.errorType", "internal/bytealg.MaxLen"], apart := false, laid := [("unicode/utf8.acceptRanges", laid_unicode_utf8_acceptRanges), ("errors.errorType", laid_errors_errorType), ("signalcabin/signalcabinref.Fine", laid_signalcabin_signalcabinref_Fine), ("unicode/utf8.first", laid_unicode_utf8_first)], narrowed := true }
def ExprParsesUptoSaid : Prop := exprParsesUptoRow.holds Tryd.pinned (OpenSpec.upto exprParsesSpec)

end Rows
end Go.Proofs.YtblafkekblaibaaDoor
