/-
  DERIVED. GIVEN WITH THE SEED: THE CARDS: each row of YtobejfcgcfdpfaaGreatDoorRows.lean that lists a variable, with what it lists TIED to the program's text (the seventh form; the later family's looks); each row that meets fmt, with fmt's text TOLD by the authors' own Lean function (tested against real Go, not proved from fmt's source: count such statements apart). THE CARD IS WHAT COUNTS. Prove the row's statement (the work); the ties are given (YtobejfcgcfdpfaaGreatDoorTie.lean); close each card by the builder's one call (the guide's Derived/Test/ToyasCard.lean, 'card_holds'). Laid BY PROGRAM, IN A SANDBOX (cutbox-door.mjs). By AI agents, Wed Nov 11 2026. No macro, syntax, notation, axiom, sorry.
-/
import Derived.Test.YtobejfcgcfdpfaaGreatDoorRows
import GoSem.ClaimSeven
namespace Go.Proofs.YtobejfcgcfdpfaaGreatDoor
namespace Rows

/-- THE TIED CARD OF 'signalcabinlaw.PropChecks'. -/
def propChecksCard : Claim7 := { stood := { row := propChecksRow, standIns := [], harness := (true, "7b2eee27b7b22041cdfd3d42fe42b85c921704a5cbd630555a9ecf0dd4e1a6ee"), looks := true }, kinds := [], alts := [], laidByText := true, laidKinds := [.data, .data, .data, .data, .handle, .sentinel, .sentinel, .data, .widerDeep, .widerDeep, .pinned], laidTests := true, laidLooks := .later }
def PropChecksCardSaid : Prop := Claim7.holds Tryz.pinned (.plain (OpenSpec.ofChange propChecksSpec)) propChecksCard

/-- THE SECOND FORM's CARD OF 'signalcabinlaw.PropChecks'. -/
def propChecksUptoCard : Claim7 := { stood := { row := propChecksUptoRow, standIns := [], harness := (true, "7b2eee27b7b22041cdfd3d42fe42b85c921704a5cbd630555a9ecf0dd4e1a6ee"), looks := true }, kinds := [], alts := [], laidByText := true, laidKinds := [.data, .data, .data, .data, .handle, .sentinel, .sentinel, .data, .widerDeep, .widerDeep, .pinned], laidTests := true, laidLooks := .later }
def PropChecksUptoCardSaid : Prop := Claim7.holds Tryz.pinned (.plain (OpenSpec.upto propChecksSpec)) propChecksUptoCard
end Rows
end Go.Proofs.YtobejfcgcfdpfaaGreatDoor
