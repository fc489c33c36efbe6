/-
  DERIVED. GIVEN WITH THE SEED: THE CARDS: each row of YtjaodmndkpalkaaGreatDoorRows.lean that lists a variable, with what it lists TIED to the program's text (the seventh form; the later family's looks); each row that meets fmt, with fmt's text TOLD by the authors' own Lean function (tested against real Go, not proved from fmt's source: count such statements apart). THE CARD IS WHAT COUNTS. Prove the row's statement (the work); the ties are given (YtjaodmndkpalkaaGreatDoorTie.lean); close each card by the builder's one call (the guide's Derived/Test/ToyasCard.lean, 'card_holds'). Laid BY PROGRAM, IN A SANDBOX (cutbox-door.mjs). By AI agents, Wed Nov 11 2026. No macro, syntax, notation, axiom, sorry.
-/
import Derived.Test.YtjaodmndkpalkaaGreatDoorRows
import GoSem.ClaimSeven
namespace Go.Proofs.YtjaodmndkpalkaaGreatDoor
namespace Rows

/-- THE TIED CARD OF 'signalcabinkeep.RouteServes'. -/
def routeServesCard : Claim7 := { stood := { row := routeServesRow, standIns := [], harness := (true, "07cd19476e7c1356f8722211a857ab1b6d28a1a3d5026eded91efc2f2017fd5f"), looks := true }, kinds := [], alts := [], laidByText := true, laidKinds := [.data, .data, .data, .data, .pinned], laidTests := true, laidLooks := .later }
def RouteServesCardSaid : Prop := Claim7.holds Tryz.pinned (.plain (OpenSpec.ofChange routeServesSpec)) routeServesCard

/-- THE TIED CARD OF 'signalcabinkeep.RouteSafe'. -/
def routeSafeCard : Claim7 := { stood := { row := routeSafeRow, standIns := [], harness := (true, "07cd19476e7c1356f8722211a857ab1b6d28a1a3d5026eded91efc2f2017fd5f"), looks := true }, kinds := [], alts := [], laidByText := true, laidKinds := [.data, .data, .data, .data, .pinned], laidTests := true, laidLooks := .later }
def RouteSafeCardSaid : Prop := Claim7.holds Tryz.pinned (.plain (OpenSpec.ofChange routeSafeSpec)) routeSafeCard

/-- THE TIED CARD OF 'signalcabinlaw.LadderChecks'. -/
def ladderChecksCard : Claim7 := { stood := { row := ladderChecksRow, standIns := [], harness := (true, "07cd19476e7c1356f8722211a857ab1b6d28a1a3d5026eded91efc2f2017fd5f"), looks := true }, kinds := [], alts := [], laidByText := true, laidKinds := [.data, .data, .data, .data, .handle, .data, .data, .widerDeep, .widerDeep, .pinned], laidTests := true, laidLooks := .later }
def LadderChecksCardSaid : Prop := Claim7.holds Tryz.pinned (.plain (OpenSpec.ofChange ladderChecksSpec)) ladderChecksCard

/-- THE TIED CARD OF 'signalcabinlaw.RouteLadders'. -/
def routeLaddersCard : Claim7 := { stood := { row := routeLaddersRow, standIns := [], harness := (true, "07cd19476e7c1356f8722211a857ab1b6d28a1a3d5026eded91efc2f2017fd5f"), looks := true }, kinds := [], alts := [], laidByText := true, laidKinds := [.data, .data, .data, .data, .handle, .data, .data, .pinned], laidTests := true, laidLooks := .later }
def RouteLaddersCardSaid : Prop := Claim7.holds Tryz.pinned (.plain (OpenSpec.ofChange routeLaddersSpec)) routeLaddersCard

/-- THE TIED CARD OF 'signalcabinkeep.ScanBounds'. -/
def scanBoundsCard : Claim7 := { stood := { row := scanBoundsRow, standIns := [], harness := (true, "07cd19476e7c1356f8722211a857ab1b6d28a1a3d5026eded91efc2f2017fd5f"), looks := true }, kinds := [], alts := [], laidByText := true, laidKinds := [.data, .data, .data, .data, .handle, .sentinel, .sentinel, .pinned], laidTests := true, laidLooks := .later }
def ScanBoundsCardSaid : Prop := Claim7.holds Tryz.pinned (.plain (OpenSpec.ofChange scanBoundsSpec)) scanBoundsCard

/-- THE TIED CARD OF 'signalcabinkeep.LadderBack'. -/
def ladderBackCard : Claim7 := { stood := { row := ladderBackRow, standIns := [], harness := (true, "07cd19476e7c1356f8722211a857ab1b6d28a1a3d5026eded91efc2f2017fd5f"), looks := true }, kinds := [], alts := [], laidByText := true, laidKinds := [.data, .data, .data, .data, .handle, .sentinel, .sentinel, .data, .pinned], laidTests := true, laidLooks := .later }
def LadderBackCardSaid : Prop := Claim7.holds Tryz.pinned (.plain (OpenSpec.ofChange ladderBackSpec)) ladderBackCard

/-- THE TIED CARD OF 'signalcabinlaw.ScanPlays'. -/
def scanPlaysCard : Claim7 := { stood := { row := scanPlaysRow, standIns := [], harness := (true, "07cd19476e7c1356f8722211a857ab1b6d28a1a3d5026eded91efc2f2017fd5f"), looks := true }, kinds := [], alts := [], laidByText := true, laidKinds := [.data, .data, .data, .data, .handle, .sentinel, .sentinel, .data, .widerDeep, .widerDeep, .pinned], laidTests := true, laidLooks := .later }
def ScanPlaysCardSaid : Prop := Claim7.holds Tryz.pinned (.plain (OpenSpec.ofChange scanPlaysSpec)) scanPlaysCard

/-- THE SECOND FORM's CARD OF 'signalcabinkeep.RouteServes'. -/
def routeServesUptoCard : Claim7 := { stood := { row := routeServesUptoRow, standIns := [], harness := (true, "07cd19476e7c1356f8722211a857ab1b6d28a1a3d5026eded91efc2f2017fd5f"), looks := true }, kinds := [], alts := [], laidByText := true, laidKinds := [.data, .data, .data, .data, .pinned], laidTests := true, laidLooks := .later }
def RouteServesUptoCardSaid : Prop := Claim7.holds Tryz.pinned (.plain (OpenSpec.upto routeServesSpec)) routeServesUptoCard

/-- THE SECOND FORM's CARD OF 'signalcabinkeep.RouteSafe'. -/
def routeSafeUptoCard : Claim7 := { stood := { row := routeSafeUptoRow, standIns := [], harness := (true, "07cd19476e7c1356f8722211a857ab1b6d28a1a3d5026eded91efc2f2017fd5f"), looks := true }, kinds := [], alts := [], laidByText := true, laidKinds := [.data, .data, .data, .data, .pinned], laidTests := true, laidLooks := .later }
def RouteSafeUptoCardSaid : Prop := Claim7.holds Tryz.pinned (.plain (OpenSpec.upto routeSafeSpec)) routeSafeUptoCard

/-- THE SECOND FORM's CARD OF 'signalcabinlaw.LadderChecks'. -/
def ladderChecksUptoCard : Claim7 := { stood := { row := ladderChecksUptoRow, standIns := [], harness := (true, "07cd19476e7c1356f8722211a857ab1b6d28a1a3d5026eded91efc2f2017fd5f"), looks := true }, kinds := [], alts := [], laidByText := true, laidKinds := [.data, .data, .data, .data, .handle, .data, .data, .widerDeep, .widerDeep, .pinned], laidTests := true, laidLooks := .later }
def LadderChecksUptoCardSaid : Prop := Claim7.holds Tryz.pinned (.plain (OpenSpec.upto ladderChecksSpec)) ladderChecksUptoCard

/-- THE SECOND FORM's CARD OF 'signalcabinlaw.RouteLadders'. -/
def routeLaddersUptoCard : Claim7 := { stood := { row := routeLaddersUptoRow, standIns := [], harness := (true, "07cd19476e7c1356f8722211a857ab1b6d28a1a3d5026eded91efc2f2017fd5f"), looks := true }, kinds := [], alts := [], laidByText := true, laidKinds := [.data, .data, .data, .data, .handle, .data, .data, .pinned], laidTests := true, laidLooks := .later }
def RouteLaddersUptoCardSaid : Prop := Claim7.holds Tryz.pinned (.plain (OpenSpec.upto routeLaddersSpec)) routeLaddersUptoCard

/-- THE SECOND FORM's CARD OF 'signalcabinkeep.ScanBounds'. -/
def scanBoundsUptoCard : Claim7 := { stood := { row := scanBoundsUptoRow, standIns := [], harness := (true, "07cd19476e7c1356f8722211a857ab1b6d28a1a3d5026eded91efc2f2017fd5f"), looks := true }, kinds := [], alts := [], laidByText := true, laidKinds := [.data, .data, .data, .data, .handle, .sentinel, .sentinel, .pinned], laidTests := true, laidLooks := .later }
def ScanBoundsUptoCardSaid : Prop := Claim7.holds Tryz.pinned (.plain (OpenSpec.upto scanBoundsSpec)) scanBoundsUptoCard

/-- THE SECOND FORM's CARD OF 'signalcabinkeep.LadderBack'. -/
def ladderBackUptoCard : Claim7 := { stood := { row := ladderBackUptoRow, standIns := [], harness := (true, "07cd19476e7c1356f8722211a857ab1b6d28a1a3d5026eded91efc2f2017fd5f"), looks := true }, kinds := [], alts := [], laidByText := true, laidKinds := [.data, .data, .data, .data, .handle, .sentinel, .sentinel, .data, .pinned], laidTests := true, laidLooks := .later }
def LadderBackUptoCardSaid : Prop := Claim7.holds Tryz.pinned (.plain (OpenSpec.upto ladderBackSpec)) ladderBackUptoCard

/-- THE SECOND FORM's CARD OF 'signalcabinlaw.ScanPlays'. -/
def scanPlaysUptoCard : Claim7 := { stood := { row := scanPlaysUptoRow, standIns := [], harness := (true, "07cd19476e7c1356f8722211a857ab1b6d28a1a3d5026eded91efc2f2017fd5f"), looks := true }, kinds := [], alts := [], laidByText := true, laidKinds := [.data, .data, .data, .data, .handle, .sentinel, .sentinel, .data, .widerDeep, .widerDeep, .pinned], laidTests := true, laidLooks := .later }
def ScanPlaysUptoCardSaid : Prop := Claim7.holds Tryz.pinned (.plain (OpenSpec.upto scanPlaysSpec)) scanPlaysUptoCard
end Rows
end Go.Proofs.YtjaodmndkpalkaaGreatDoor
