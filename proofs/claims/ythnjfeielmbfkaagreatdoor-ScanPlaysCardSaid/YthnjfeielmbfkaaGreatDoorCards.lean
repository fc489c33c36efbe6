/-
  DERIVED. GIVEN WITH THE SEED: THE CARDS: each row of YthnjfeielmbfkaaGreatDoorRows.lean that lists a variable, with what it lists TIED to the program's text (the seventh form; the later family's looks); each row that meets fmt, with fmt's text TOLD by the authors' own Lean function (tested against real Go, not proved from fmt's source: count such statements apart). THE CARD IS WHAT COUNTS. Prove the row's statement (the work); the ties are given (YthnjfeielmbfkaaGreatDoorTie.lean); close each card by the builder's one call (the guide's Derived/Test/ToyasCard.lean, 'card_holds'). Laid BY PROGRAM, IN A SANDBOX (cutbox-door.mjs). By AI agents, Wed Nov 11 2026. No macro, syntax, notation, axiom, sorry.
-/
import Derived.Test.YthnjfeielmbfkaaGreatDoorRows
import GoSem.ClaimSeven
namespace Go.Proofs.YthnjfeielmbfkaaGreatDoor
namespace Rows

/-- THE TIED CARD OF 'signalcabinkeep.RouteServes'. -/
def routeServesCard : Claim7 := { stood := { row := routeServesRow, standIns := [], harness := (true, "3f48841f4eb04ea554a24cbf25d28e07c53b424f0d210d54a20b18be9f1803c8"), looks := true }, kinds := [], alts := [], laidByText := true, laidKinds := [.data, .data, .data, .data, .pinned], laidTests := true, laidLooks := .later }
def RouteServesCardSaid : Prop := Claim7.holds Tryz.pinned (.plain (OpenSpec.ofChange routeServesSpec)) routeServesCard

/-- THE TIED CARD OF 'signalcabinkeep.RouteSafe'. -/
def routeSafeCard : Claim7 := { stood := { row := routeSafeRow, standIns := [], harness := (true, "3f48841f4eb04ea554a24cbf25d28e07c53b424f0d210d54a20b18be9f1803c8"), looks := true }, kinds := [], alts := [], laidByText := true, laidKinds := [.data, .data, .data, .data, .pinned], laidTests := true, laidLooks := .later }
def RouteSafeCardSaid : Prop := Claim7.holds Tryz.pinned (.plain (OpenSpec.ofChange routeSafeSpec)) routeSafeCard

/-- THE TIED CARD OF 'signalcabinlaw.RouteLadders'. -/
def routeLaddersCard : Claim7 := { stood := { row := routeLaddersRow, standIns := [], harness := (true, "3f48841f4eb04ea554a24cbf25d28e07c53b424f0d210d54a20b18be9f1803c8"), looks := true }, kinds := [], alts := [], laidByText := true, laidKinds := [.data, .data, .data, .data, .handle, .data, .data, .pinned], laidTests := true, laidLooks := .later }
def RouteLaddersCardSaid : Prop := Claim7.holds Tryz.pinned (.plain (OpenSpec.ofChange routeLaddersSpec)) routeLaddersCard

/-- THE TIED CARD OF 'signalcabinkeep.ScanBounds'. -/
def scanBoundsCard : Claim7 := { stood := { row := scanBoundsRow, standIns := [], harness := (true, "3f48841f4eb04ea554a24cbf25d28e07c53b424f0d210d54a20b18be9f1803c8"), looks := true }, kinds := [], alts := [], laidByText := true, laidKinds := [.data, .data, .data, .data, .handle, .sentinel, .sentinel, .pinned], laidTests := true, laidLooks := .later }
def ScanBoundsCardSaid : Prop := Claim7.holds Tryz.pinned (.plain (OpenSpec.ofChange scanBoundsSpec)) scanBoundsCard

/-- THE TIED CARD OF 'signalcabinlaw.ScanPlays'. -/
def scanPlaysCard : Claim7 := { stood := { row := scanPlaysRow, standIns := [], harness := (true, "3f48841f4eb04ea554a24cbf25d28e07c53b424f0d210d54a20b18be9f1803c8"), looks := true }, kinds := [], alts := [], laidByText := true, laidKinds := [.data, .data, .data, .data, .handle, .sentinel, .sentinel, .data, .widerDeep, .widerDeep, .pinned], laidTests := true, laidLooks := .later }
def ScanPlaysCardSaid : Prop := Claim7.holds Tryz.pinned (.plain (OpenSpec.ofChange scanPlaysSpec)) scanPlaysCard

/-- THE TIED CARD OF 'signalcabinlaw.LadderParses'. -/
def ladderParsesCard : Claim7 := { stood := { row := ladderParsesRow, standIns := [], harness := (true, "3f48841f4eb04ea554a24cbf25d28e07c53b424f0d210d54a20b18be9f1803c8"), looks := true }, kinds := [], alts := [], laidByText := true, laidKinds := [.data, .data, .data, .data, .handle, .sentinel, .sentinel, .data, .data, .widerDeep, .widerDeep, .pinned], laidTests := true, laidLooks := .later }
def LadderParsesCardSaid : Prop := Claim7.holds Tryz.pinned (.plain (OpenSpec.ofChange ladderParsesSpec)) ladderParsesCard

/-- THE SECOND FORM's CARD OF 'signalcabinkeep.RouteServes'. -/
def routeServesUptoCard : Claim7 := { stood := { row := routeServesUptoRow, standIns := [], harness := (true, "3f48841f4eb04ea554a24cbf25d28e07c53b424f0d210d54a20b18be9f1803c8"), looks := true }, kinds := [], alts := [], laidByText := true, laidKinds := [.data, .data, .data, .data, .pinned], laidTests := true, laidLooks := .later }
def RouteServesUptoCardSaid : Prop := Claim7.holds Tryz.pinned (.plain (OpenSpec.upto routeServesSpec)) routeServesUptoCard

/-- THE SECOND FORM's CARD OF 'signalcabinkeep.RouteSafe'. -/
def routeSafeUptoCard : Claim7 := { stood := { row := routeSafeUptoRow, standIns := [], harness := (true, "3f48841f4eb04ea554a24cbf25d28e07c53b424f0d210d54a20b18be9f1803c8"), looks := true }, kinds := [], alts := [], laidByText := true, laidKinds := [.data, .data, .data, .data, .pinned], laidTests := true, laidLooks := .later }
def RouteSafeUptoCardSaid : Prop := Claim7.holds Tryz.pinned (.plain (OpenSpec.upto routeSafeSpec)) routeSafeUptoCard

/-- THE SECOND FORM's CARD OF 'signalcabinlaw.RouteLadders'. -/
def routeLaddersUptoCard : Claim7 := { stood := { row := routeLaddersUptoRow, standIns := [], harness := (true, "3f48841f4eb04ea554a24cbf25d28e07c53b424f0d210d54a20b18be9f1803c8"), looks := true }, kinds := [], alts := [], laidByText := true, laidKinds := [.data, .data, .data, .data, .handle, .data, .data, .pinned], laidTests := true, laidLooks := .later }
def RouteLaddersUptoCardSaid : Prop := Claim7.holds Tryz.pinned (.plain (OpenSpec.upto routeLaddersSpec)) routeLaddersUptoCard

/-- THE SECOND FORM's CARD OF 'signalcabinkeep.ScanBounds'. -/
def scanBoundsUptoCard : Claim7 := { stood := { row := scanBoundsUptoRow, standIns := [], harness := (true, "3f48841f4eb04ea554a24cbf25d28e07c53b424f0d210d54a20b18be9f1803c8"), looks := true }, kinds := [], alts := [], laidByText := true, laidKinds := [.data, .data, .data, .data, .handle, .sentinel, .sentinel, .pinned], laidTests := true, laidLooks := .later }
def ScanBoundsUptoCardSaid : Prop := Claim7.holds Tryz.pinned (.plain (OpenSpec.upto scanBoundsSpec)) scanBoundsUptoCard

/-- THE SECOND FORM's CARD OF 'signalcabinlaw.ScanPlays'. -/
def scanPlaysUptoCard : Claim7 := { stood := { row := scanPlaysUptoRow, standIns := [], harness := (true, "3f48841f4eb04ea554a24cbf25d28e07c53b424f0d210d54a20b18be9f1803c8"), looks := true }, kinds := [], alts := [], laidByText := true, laidKinds := [.data, .data, .data, .data, .handle, .sentinel, .sentinel, .data, .widerDeep, .widerDeep, .pinned], laidTests := true, laidLooks := .later }
def ScanPlaysUptoCardSaid : Prop := Claim7.holds Tryz.pinned (.plain (OpenSpec.upto scanPlaysSpec)) scanPlaysUptoCard

/-- THE SECOND FORM's CARD OF 'signalcabinlaw.LadderParses'. -/
def ladderParsesUptoCard : Claim7 := { stood := { row := ladderParsesUptoRow, standIns := [], harness := (true, "3f48841f4eb04ea554a24cbf25d28e07c53b424f0d210d54a20b18be9f1803c8"), looks := true }, kinds := [], alts := [], laidByText := true, laidKinds := [.data, .data, .data, .data, .handle, .sentinel, .sentinel, .data, .data, .widerDeep, .widerDeep, .pinned], laidTests := true, laidLooks := .later }
def LadderParsesUptoCardSaid : Prop := Claim7.holds Tryz.pinned (.plain (OpenSpec.upto ladderParsesSpec)) ladderParsesUptoCard
end Rows
end Go.Proofs.YthnjfeielmbfkaaGreatDoor
