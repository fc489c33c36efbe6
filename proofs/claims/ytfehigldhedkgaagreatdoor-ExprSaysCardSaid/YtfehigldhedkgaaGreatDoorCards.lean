/-
  DERIVED. GIVEN WITH THE SEED: THE CARDS: each row of YtfehigldhedkgaaGreatDoorRows.lean that lists a variable, with what it lists TIED to the program's text (the seventh form; the later family's looks); each row that meets fmt, with fmt's text TOLD by the authors' own Lean function (tested against real Go, not proved from fmt's source: count such statements apart). THE CARD IS WHAT COUNTS. Prove the row's statement (the work); the ties are given (YtfehigldhedkgaaGreatDoorTie.lean); close each card by the builder's one call (the guide's Derived/Test/ToyasCard.lean, 'card_holds'). Laid BY PROGRAM, IN A SANDBOX (cutbox-door.mjs). By AI agents, Wed Nov 11 2026. No macro, syntax, notation, axiom, sorry.
-/
import Derived.Test.YtfehigldhedkgaaGreatDoorRows
import GoSem.ClaimSeven
namespace Go.Proofs.YtfehigldhedkgaaGreatDoor
namespace Rows

/-- THE TIED CARD OF 'signalcabinlaw.ExprSays'. -/
def exprSaysCard : Claim7 := { stood := { row := exprSaysRow, standIns := [], harness := (true, "3fc053d971e729341fb35f8ace7fdaeed2c83548841fe893d8cb15d61dd221f2"), looks := true }, kinds := [], alts := [], laidByText := true, laidKinds := [.data, .data, .pinned], laidTests := true, laidLooks := .later }
def ExprSaysCardSaid : Prop := Claim7.holds Tryz.pinned (.plain (OpenSpec.ofChange exprSaysSpec)) exprSaysCard

/-- THE SECOND FORM's CARD OF 'signalcabinlaw.ExprSays'. -/
def exprSaysUptoCard : Claim7 := { stood := { row := exprSaysUptoRow, standIns := [], harness := (true, "3fc053d971e729341fb35f8ace7fdaeed2c83548841fe893d8cb15d61dd221f2"), looks := true }, kinds := [], alts := [], laidByText := true, laidKinds := [.data, .data, .pinned], laidTests := true, laidLooks := .later }
def ExprSaysUptoCardSaid : Prop := Claim7.holds Tryz.pinned (.plain (OpenSpec.upto exprSaysSpec)) exprSaysUptoCard
end Rows
end Go.Proofs.YtfehigldhedkgaaGreatDoor
