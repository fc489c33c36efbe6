/-
  DERIVED. GIVEN WITH THE SEED: THE CARDS: each row of YtnlhioeefmhklaaGreatDoorRows.lean that lists a variable, with what it lists TIED to the program's text (the seventh form; the later family's looks); each row that meets fmt, with fmt's text TOLD by the authors' own Lean function (tested against real Go, not proved from fmt's source: count such statements apart). THE CARD IS WHAT COUNTS. Prove the row's statement (the work); the ties are given (YtnlhioeefmhklaaGreatDoorTie.lean); close each card by the builder's one call (the guide's Derived/Test/ToyasCard.lean, 'card_holds'). Laid BY PROGRAM, IN A SANDBOX (cutbox-door.mjs). By AI agents, Wed Nov 11 2026. No macro, syntax, notation, axiom, sorry.
-/
import Derived.Test.YtnlhioeefmhklaaGreatDoorRows
import GoSem.ClaimSeven
namespace Go.Proofs.YtnlhioeefmhklaaGreatDoor
namespace Rows

/-- THE TIED CARD OF 'signalcabinkeep.RouteClash'. -/
def routeClashCard : Claim7 := { stood := { row := routeClashRow, standIns := [], harness := (true, "42dd73cbcf19cae2fbf0eb754cb285a93fb3095eb4af841aa901bf24a1a184e8"), looks := true }, kinds := [], alts := [], laidByText := true, laidKinds := [.data, .data, .data, .data, .pinned], laidTests := true, laidLooks := .later }
def RouteClashCardSaid : Prop := Claim7.holds Tryz.pinned (.plain (OpenSpec.ofChange routeClashSpec)) routeClashCard

/-- THE TIED CARD OF 'signalcabinlaw.LadderChecks'. -/
def ladderChecksCard : Claim7 := { stood := { row := ladderChecksRow, standIns := [], harness := (true, "42dd73cbcf19cae2fbf0eb754cb285a93fb3095eb4af841aa901bf24a1a184e8"), looks := true }, kinds := [], alts := [], laidByText := true, laidKinds := [.data, .data, .data, .data, .handle, .data, .data, .widerDeep, .widerDeep, .pinned], laidTests := true, laidLooks := .later }
def LadderChecksCardSaid : Prop := Claim7.holds Tryz.pinned (.plain (OpenSpec.ofChange ladderChecksSpec)) ladderChecksCard

/-- THE TIED CARD OF 'signalcabinkeep.ScanBounds'. -/
def scanBoundsCard : Claim7 := { stood := { row := scanBoundsRow, standIns := [], harness := (true, "42dd73cbcf19cae2fbf0eb754cb285a93fb3095eb4af841aa901bf24a1a184e8"), looks := true }, kinds := [], alts := [], laidByText := true, laidKinds := [.data, .data, .data, .data, .handle, .sentinel, .sentinel, .pinned], laidTests := true, laidLooks := .later }
def ScanBoundsCardSaid : Prop := Claim7.holds Tryz.pinned (.plain (OpenSpec.ofChange scanBoundsSpec)) scanBoundsCard

/-- THE TIED CARD OF 'signalcabinkeep.LadderBack'. -/
def ladderBackCard : Claim7 := { stood := { row := ladderBackRow, standIns := [], harness := (true, "42dd73cbcf19cae2fbf0eb754cb285a93fb3095eb4af841aa901bf24a1a184e8"), looks := true }, kinds := [], alts := [], laidByText := true, laidKinds := [.data, .data, .data, .data, .handle, .sentinel, .sentinel, .data, .pinned], laidTests := true, laidLooks := .later }
def LadderBackCardSaid : Prop := Claim7.holds Tryz.pinned (.plain (OpenSpec.ofChange ladderBackSpec)) ladderBackCard

/-- THE SECOND FORM's CARD OF 'signalcabinkeep.RouteClash'. -/
def routeClashUptoCard : Claim7 := { stood := { row := routeClashUptoRow, standIns := [], harness := (true, "42dd73cbcf19cae2fbf0eb754cb285a93fb3095eb4af841aa901bf24a1a184e8"), looks := true }, kinds := [], alts := [], laidByText := true, laidKinds := [.data, .data, .data, .data, .pinned], laidTests := true, laidLooks := .later }
def RouteClashUptoCardSaid : Prop := Claim7.holds Tryz.pinned (.plain (OpenSpec.upto routeClashSpec)) routeClashUptoCard

/-- THE SECOND FORM's CARD OF 'signalcabinlaw.LadderChecks'. -/
def ladderChecksUptoCard : Claim7 := { stood := { row := ladderChecksUptoRow, standIns := [], harness := (true, "42dd73cbcf19cae2fbf0eb754cb285a93fb3095eb4af841aa901bf24a1a184e8"), looks := true }, kinds := [], alts := [], laidByText := true, laidKinds := [.data, .data, .data, .data, .handle, .data, .data, .widerDeep, .widerDeep, .pinned], laidTests := true, laidLooks := .later }
def LadderChecksUptoCardSaid : Prop := Claim7.holds Tryz.pinned (.plain (OpenSpec.upto ladderChecksSpec)) ladderChecksUptoCard

/-- THE SECOND FORM's CARD OF 'signalcabinkeep.ScanBounds'. -/
def scanBoundsUptoCard : Claim7 := { stood := { row := scanBoundsUptoRow, standIns := [], harness := (true, "42dd73cbcf19cae2fbf0eb754cb285a93fb3095eb4af841aa901bf24a1a184e8"), looks := true }, kinds := [], alts := [], laidByText := true, laidKinds := [.data, .data, .data, .data, .handle, .sentinel, .sentinel, .pinned], laidTests := true, laidLooks := .later }
def ScanBoundsUptoCardSaid : Prop := Claim7.holds Tryz.pinned (.plain (OpenSpec.upto scanBoundsSpec)) scanBoundsUptoCard

/-- THE SECOND FORM's CARD OF 'signalcabinkeep.LadderBack'. -/
def ladderBackUptoCard : Claim7 := { stood := { row := ladderBackUptoRow, standIns := [], harness := (true, "42dd73cbcf19cae2fbf0eb754cb285a93fb3095eb4af841aa901bf24a1a184e8"), looks := true }, kinds := [], alts := [], laidByText := true, laidKinds := [.data, .data, .data, .data, .handle, .sentinel, .sentinel, .data, .pinned], laidTests := true, laidLooks := .later }
def LadderBackUptoCardSaid : Prop := Claim7.holds Tryz.pinned (.plain (OpenSpec.upto ladderBackSpec)) ladderBackUptoCard
end Rows
end Go.Proofs.YtnlhioeefmhklaaGreatDoor
