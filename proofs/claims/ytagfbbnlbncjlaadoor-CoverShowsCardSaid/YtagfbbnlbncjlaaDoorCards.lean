/-
  DERIVED. GIVEN WITH THE SEED: THE CARDS: each row of YtagfbbnlbncjlaaDoorRows.lean that lists a variable, with what it lists TIED to the program's text (the seventh form; the later family's looks); each row that meets fmt, with fmt's text TOLD by the authors' own Lean function (tested against real Go, not proved from fmt's source: count such statements apart). THE CARD IS WHAT COUNTS. Prove the row's statement (the work); the ties are given (YtagfbbnlbncjlaaDoorTie.lean); close each card by the builder's one call (the guide's Derived/Test/ToyasCard.lean, 'card_holds'). Laid BY PROGRAM, IN A SANDBOX (cutbox-door.mjs). By AI agents, Wed Nov 11 2026. No macro, syntax, notation, axiom, sorry.
-/
import Derived.Test.YtagfbbnlbncjlaaDoorRows
import GoSem.ClaimSeven
namespace Go.Proofs.YtagfbbnlbncjlaaDoor
namespace Rows

/-- THE TIED CARD OF 'signalcabinkeep.CoverShows'. -/
def coverShowsCard : Claim7 := { stood := { row := coverShowsRow, standIns := [], harness := (true, "11d5142c80eee283e6b5111ea2ff541710c51fd8f1e84d6db0651b2e33c35648"), looks := true }, kinds := [], alts := [], laidByText := true, laidKinds := [.data, .pinned], laidTests := true, laidLooks := .later }
def CoverShowsCardSaid : Prop := Claim7.holds Tryd.pinned (.plain (OpenSpec.ofChange coverShowsSpec)) coverShowsCard

/-- THE SECOND FORM's CARD OF 'signalcabinkeep.CoverShows'. -/
def coverShowsUptoCard : Claim7 := { stood := { row := coverShowsUptoRow, standIns := [], harness := (true, "11d5142c80eee283e6b5111ea2ff541710c51fd8f1e84d6db0651b2e33c35648"), looks := true }, kinds := [], alts := [], laidByText := true, laidKinds := [.data, .pinned], laidTests := true, laidLooks := .later }
def CoverShowsUptoCardSaid : Prop := Claim7.holds Tryd.pinned (.plain (OpenSpec.upto coverShowsSpec)) coverShowsUptoCard
end Rows
end Go.Proofs.YtagfbbnlbncjlaaDoor
