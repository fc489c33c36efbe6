/-
  DERIVED. GIVEN WITH THE SEED: THE CARDS: each row of YtoohljflflnbeaaGreatDoorRows.lean that lists a variable, with what it lists TIED to the program's text (the seventh form; the later family's looks); each row that meets fmt, with fmt's text TOLD by the authors' own Lean function (tested against real Go, not proved from fmt's source: count such statements apart). THE CARD IS WHAT COUNTS. Prove the row's statement (the work); the ties are given (YtoohljflflnbeaaGreatDoorTie.lean); close each card by the builder's one call (the guide's Derived/Test/ToyasCard.lean, 'card_holds'). Laid BY PROGRAM, IN A SANDBOX (cutbox-door.mjs). By AI agents, Wed Nov 11 2026. No macro, syntax, notation, axiom, sorry.
-/
import Derived.Test.YtoohljflflnbeaaGreatDoorRows
import GoSem.ClaimSeven
namespace Go.Proofs.YtoohljflflnbeaaGreatDoor
namespace Rows

/-- THE TIED CARD OF 'signalcabinkeep.RouteSafe'. -/
def routeSafeCard : Claim7 := { stood := { row := routeSafeRow, standIns := [], harness := (true, "f8cf578f6f05901723cfb02cb1e0232de2c341bde40285be0c0902202388ed6c"), looks := true }, kinds := [], alts := [], laidByText := true, laidKinds := [.data, .data, .data, .data, .pinned], laidTests := true, laidLooks := .later }
def RouteSafeCardSaid : Prop := Claim7.holds Tryz.pinned (.plain (OpenSpec.ofChange routeSafeSpec)) routeSafeCard

/-- THE TIED CARD OF 'signalcabinlaw.RouteLadders'. -/
def routeLaddersCard : Claim7 := { stood := { row := routeLaddersRow, standIns := [], harness := (true, "f8cf578f6f05901723cfb02cb1e0232de2c341bde40285be0c0902202388ed6c"), looks := true }, kinds := [], alts := [], laidByText := true, laidKinds := [.data, .data, .data, .data, .handle, .data, .data, .pinned], laidTests := true, laidLooks := .later }
def RouteLaddersCardSaid : Prop := Claim7.holds Tryz.pinned (.plain (OpenSpec.ofChange routeLaddersSpec)) routeLaddersCard

/-- THE TIED CARD OF 'signalcabinlaw.SliceOfs'. -/
def sliceOfsCard : Claim7 := { stood := { row := sliceOfsRow, standIns := [], harness := (true, "f8cf578f6f05901723cfb02cb1e0232de2c341bde40285be0c0902202388ed6c"), looks := true }, kinds := [], alts := [], laidByText := true, laidKinds := [.data, .data, .data, .data, .handle, .sentinel, .sentinel, .data, .data, .widerDeep, .widerDeep, .pinned], laidTests := true, laidLooks := .later }
def SliceOfsCardSaid : Prop := Claim7.holds Tryz.pinned (.plain (OpenSpec.ofChange sliceOfsSpec)) sliceOfsCard

/-- THE TIED CARD OF 'signalcabinkeep.SliceSame'. -/
def sliceSameCard : Claim7 := { stood := { row := sliceSameRow, standIns := [], harness := (true, "f8cf578f6f05901723cfb02cb1e0232de2c341bde40285be0c0902202388ed6c"), looks := true }, kinds := [], alts := [], laidByText := true, laidKinds := [.data, .data, .data, .data, .handle, .sentinel, .sentinel, .data, .pinned], laidTests := true, laidLooks := .later }
def SliceSameCardSaid : Prop := Claim7.holds Tryz.pinned (.plain (OpenSpec.ofChange sliceSameSpec)) sliceSameCard

/-- THE TIED CARD OF 'signalcabinlaw.BlockOfs'. -/
def blockOfsCard : Claim7 := { stood := { row := blockOfsRow, standIns := [], harness := (true, "f8cf578f6f05901723cfb02cb1e0232de2c341bde40285be0c0902202388ed6c"), looks := true }, kinds := [], alts := [], laidByText := true, laidKinds := [.data, .data, .data, .data, .handle, .sentinel, .sentinel, .data, .widerDeep, .widerDeep, .pinned], laidTests := true, laidLooks := .later }
def BlockOfsCardSaid : Prop := Claim7.holds Tryz.pinned (.plain (OpenSpec.ofChange blockOfsSpec)) blockOfsCard

/-- THE TIED CARD OF 'signalcabinlaw.SliceTidies'. -/
def sliceTidiesCard : Claim7 := { stood := { row := sliceTidiesRow, standIns := [], harness := (true, "f8cf578f6f05901723cfb02cb1e0232de2c341bde40285be0c0902202388ed6c"), looks := true }, kinds := [], alts := [], laidByText := true, laidKinds := [.data, .data, .data, .data, .handle, .sentinel, .sentinel, .data, .data, .widerDeep, .widerDeep, .pinned], laidTests := true, laidLooks := .later }
def SliceTidiesCardSaid : Prop := Claim7.holds Tryz.pinned (.plain (OpenSpec.ofChange sliceTidiesSpec)) sliceTidiesCard

/-- THE TIED CARD OF 'signalcabinkeep.CoverGoes'. -/
def coverGoesCard : Claim7 := { stood := { row := coverGoesRow, standIns := [], harness := (true, "f8cf578f6f05901723cfb02cb1e0232de2c341bde40285be0c0902202388ed6c"), looks := true }, kinds := [], alts := [], laidByText := true, laidKinds := [.data, .data, .data, .data, .handle, .sentinel, .sentinel, .pinned], laidTests := true, laidLooks := .later }
def CoverGoesCardSaid : Prop := Claim7.holds Tryz.pinned (.plain (OpenSpec.ofChange coverGoesSpec)) coverGoesCard

/-- THE TIED CARD OF 'signalcabinlaw.ReachFars'. -/
def reachFarsCard : Claim7 := { stood := { row := reachFarsRow, standIns := [], harness := (true, "f8cf578f6f05901723cfb02cb1e0232de2c341bde40285be0c0902202388ed6c"), looks := true }, kinds := [], alts := [], laidByText := true, laidKinds := [.data, .data, .data, .data, .handle, .sentinel, .sentinel, .data, .widerDeep, .widerDeep, .pinned], laidTests := true, laidLooks := .later }
def ReachFarsCardSaid : Prop := Claim7.holds Tryz.pinned (.plain (OpenSpec.ofChange reachFarsSpec)) reachFarsCard

/-- THE TIED CARD OF 'signalcabinlaw.PropAnswers'. -/
def propAnswersCard : Claim7 := { stood := { row := propAnswersRow, standIns := [], harness := (true, "f8cf578f6f05901723cfb02cb1e0232de2c341bde40285be0c0902202388ed6c"), looks := true }, kinds := [], alts := [], laidByText := true, laidKinds := [.data, .data, .data, .data, .handle, .sentinel, .sentinel, .data, .widerDeep, .widerDeep, .pinned], laidTests := true, laidLooks := .later }
def PropAnswersCardSaid : Prop := Claim7.holds Tryz.pinned (.plain (OpenSpec.ofChange propAnswersSpec)) propAnswersCard

/-- THE TIED CARD OF 'signalcabinkeep.SliceTidy'. -/
def sliceTidyCard : Claim7 := { stood := { row := sliceTidyRow, standIns := [], harness := (true, "f8cf578f6f05901723cfb02cb1e0232de2c341bde40285be0c0902202388ed6c"), looks := true }, kinds := [], alts := [], laidByText := true, laidKinds := [.data, .data, .data, .data, .handle, .sentinel, .sentinel, .pinned], laidTests := true, laidLooks := .later }
def SliceTidyCardSaid : Prop := Claim7.holds Tryz.pinned (.plain (OpenSpec.ofChange sliceTidySpec)) sliceTidyCard

/-- THE TIED CARD OF 'signalcabinkeep.PropAnswered'. -/
def propAnsweredCard : Claim7 := { stood := { row := propAnsweredRow, standIns := [], harness := (true, "f8cf578f6f05901723cfb02cb1e0232de2c341bde40285be0c0902202388ed6c"), looks := true }, kinds := [], alts := [], laidByText := true, laidKinds := [.data, .data, .data, .data, .handle, .sentinel, .sentinel, .pinned], laidTests := true, laidLooks := .later }
def PropAnsweredCardSaid : Prop := Claim7.holds Tryz.pinned (.plain (OpenSpec.ofChange propAnsweredSpec)) propAnsweredCard

/-- THE TIED CARD OF 'signalcabinlaw.PropChecks'. -/
def propChecksCard : Claim7 := { stood := { row := propChecksRow, standIns := [], harness := (true, "f8cf578f6f05901723cfb02cb1e0232de2c341bde40285be0c0902202388ed6c"), looks := true }, kinds := [], alts := [], laidByText := true, laidKinds := [.data, .data, .data, .data, .handle, .sentinel, .sentinel, .data, .widerDeep, .widerDeep, .pinned], laidTests := true, laidLooks := .later }
def PropChecksCardSaid : Prop := Claim7.holds Tryz.pinned (.plain (OpenSpec.ofChange propChecksSpec)) propChecksCard

/-- THE SECOND FORM's CARD OF 'signalcabinkeep.RouteSafe'. -/
def routeSafeUptoCard : Claim7 := { stood := { row := routeSafeUptoRow, standIns := [], harness := (true, "f8cf578f6f05901723cfb02cb1e0232de2c341bde40285be0c0902202388ed6c"), looks := true }, kinds := [], alts := [], laidByText := true, laidKinds := [.data, .data, .data, .data, .pinned], laidTests := true, laidLooks := .later }
def RouteSafeUptoCardSaid : Prop := Claim7.holds Tryz.pinned (.plain (OpenSpec.upto routeSafeSpec)) routeSafeUptoCard

/-- THE SECOND FORM's CARD OF 'signalcabinlaw.RouteLadders'. -/
def routeLaddersUptoCard : Claim7 := { stood := { row := routeLaddersUptoRow, standIns := [], harness := (true, "f8cf578f6f05901723cfb02cb1e0232de2c341bde40285be0c0902202388ed6c"), looks := true }, kinds := [], alts := [], laidByText := true, laidKinds := [.data, .data, .data, .data, .handle, .data, .data, .pinned], laidTests := true, laidLooks := .later }
def RouteLaddersUptoCardSaid : Prop := Claim7.holds Tryz.pinned (.plain (OpenSpec.upto routeLaddersSpec)) routeLaddersUptoCard

/-- THE SECOND FORM's CARD OF 'signalcabinlaw.SliceOfs'. -/
def sliceOfsUptoCard : Claim7 := { stood := { row := sliceOfsUptoRow, standIns := [], harness := (true, "f8cf578f6f05901723cfb02cb1e0232de2c341bde40285be0c0902202388ed6c"), looks := true }, kinds := [], alts := [], laidByText := true, laidKinds := [.data, .data, .data, .data, .handle, .sentinel, .sentinel, .data, .data, .widerDeep, .widerDeep, .pinned], laidTests := true, laidLooks := .later }
def SliceOfsUptoCardSaid : Prop := Claim7.holds Tryz.pinned (.plain (OpenSpec.upto sliceOfsSpec)) sliceOfsUptoCard

/-- THE SECOND FORM's CARD OF 'signalcabinkeep.SliceSame'. -/
def sliceSameUptoCard : Claim7 := { stood := { row := sliceSameUptoRow, standIns := [], harness := (true, "f8cf578f6f05901723cfb02cb1e0232de2c341bde40285be0c0902202388ed6c"), looks := true }, kinds := [], alts := [], laidByText := true, laidKinds := [.data, .data, .data, .data, .handle, .sentinel, .sentinel, .data, .pinned], laidTests := true, laidLooks := .later }
def SliceSameUptoCardSaid : Prop := Claim7.holds Tryz.pinned (.plain (OpenSpec.upto sliceSameSpec)) sliceSameUptoCard

/-- THE SECOND FORM's CARD OF 'signalcabinlaw.BlockOfs'. -/
def blockOfsUptoCard : Claim7 := { stood := { row := blockOfsUptoRow, standIns := [], harness := (true, "f8cf578f6f05901723cfb02cb1e0232de2c341bde40285be0c0902202388ed6c"), looks := true }, kinds := [], alts := [], laidByText := true, laidKinds := [.data, .data, .data, .data, .handle, .sentinel, .sentinel, .data, .widerDeep, .widerDeep, .pinned], laidTests := true, laidLooks := .later }
def BlockOfsUptoCardSaid : Prop := Claim7.holds Tryz.pinned (.plain (OpenSpec.upto blockOfsSpec)) blockOfsUptoCard

/-- THE SECOND FORM's CARD OF 'signalcabinlaw.SliceTidies'. -/
def sliceTidiesUptoCard : Claim7 := { stood := { row := sliceTidiesUptoRow, standIns := [], harness := (true, "f8cf578f6f05901723cfb02cb1e0232de2c341bde40285be0c0902202388ed6c"), looks := true }, kinds := [], alts := [], laidByText := true, laidKinds := [.data, .data, .data, .data, .handle, .sentinel, .sentinel, .data, .data, .widerDeep, .widerDeep, .pinned], laidTests := true, laidLooks := .later }
def SliceTidiesUptoCardSaid : Prop := Claim7.holds Tryz.pinned (.plain (OpenSpec.upto sliceTidiesSpec)) sliceTidiesUptoCard

/-- THE SECOND FORM's CARD OF 'signalcabinkeep.CoverGoes'. -/
def coverGoesUptoCard : Claim7 := { stood := { row := coverGoesUptoRow, standIns := [], harness := (true, "f8cf578f6f05901723cfb02cb1e0232de2c341bde40285be0c0902202388ed6c"), looks := true }, kinds := [], alts := [], laidByText := true, laidKinds := [.data, .data, .data, .data, .handle, .sentinel, .sentinel, .pinned], laidTests := true, laidLooks := .later }
def CoverGoesUptoCardSaid : Prop := Claim7.holds Tryz.pinned (.plain (OpenSpec.upto coverGoesSpec)) coverGoesUptoCard

/-- THE SECOND FORM's CARD OF 'signalcabinlaw.ReachFars'. -/
def reachFarsUptoCard : Claim7 := { stood := { row := reachFarsUptoRow, standIns := [], harness := (true, "f8cf578f6f05901723cfb02cb1e0232de2c341bde40285be0c0902202388ed6c"), looks := true }, kinds := [], alts := [], laidByText := true, laidKinds := [.data, .data, .data, .data, .handle, .sentinel, .sentinel, .data, .widerDeep, .widerDeep, .pinned], laidTests := true, laidLooks := .later }
def ReachFarsUptoCardSaid : Prop := Claim7.holds Tryz.pinned (.plain (OpenSpec.upto reachFarsSpec)) reachFarsUptoCard

/-- THE SECOND FORM's CARD OF 'signalcabinlaw.PropAnswers'. -/
def propAnswersUptoCard : Claim7 := { stood := { row := propAnswersUptoRow, standIns := [], harness := (true, "f8cf578f6f05901723cfb02cb1e0232de2c341bde40285be0c0902202388ed6c"), looks := true }, kinds := [], alts := [], laidByText := true, laidKinds := [.data, .data, .data, .data, .handle, .sentinel, .sentinel, .data, .widerDeep, .widerDeep, .pinned], laidTests := true, laidLooks := .later }
def PropAnswersUptoCardSaid : Prop := Claim7.holds Tryz.pinned (.plain (OpenSpec.upto propAnswersSpec)) propAnswersUptoCard

/-- THE SECOND FORM's CARD OF 'signalcabinkeep.SliceTidy'. -/
def sliceTidyUptoCard : Claim7 := { stood := { row := sliceTidyUptoRow, standIns := [], harness := (true, "f8cf578f6f05901723cfb02cb1e0232de2c341bde40285be0c0902202388ed6c"), looks := true }, kinds := [], alts := [], laidByText := true, laidKinds := [.data, .data, .data, .data, .handle, .sentinel, .sentinel, .pinned], laidTests := true, laidLooks := .later }
def SliceTidyUptoCardSaid : Prop := Claim7.holds Tryz.pinned (.plain (OpenSpec.upto sliceTidySpec)) sliceTidyUptoCard

/-- THE SECOND FORM's CARD OF 'signalcabinkeep.PropAnswered'. -/
def propAnsweredUptoCard : Claim7 := { stood := { row := propAnsweredUptoRow, standIns := [], harness := (true, "f8cf578f6f05901723cfb02cb1e0232de2c341bde40285be0c0902202388ed6c"), looks := true }, kinds := [], alts := [], laidByText := true, laidKinds := [.data, .data, .data, .data, .handle, .sentinel, .sentinel, .pinned], laidTests := true, laidLooks := .later }
def PropAnsweredUptoCardSaid : Prop := Claim7.holds Tryz.pinned (.plain (OpenSpec.upto propAnsweredSpec)) propAnsweredUptoCard

/-- THE SECOND FORM's CARD OF 'signalcabinlaw.PropChecks'. -/
def propChecksUptoCard : Claim7 := { stood := { row := propChecksUptoRow, standIns := [], harness := (true, "f8cf578f6f05901723cfb02cb1e0232de2c341bde40285be0c0902202388ed6c"), looks := true }, kinds := [], alts := [], laidByText := true, laidKinds := [.data, .data, .data, .data, .handle, .sentinel, .sentinel, .data, .widerDeep, .widerDeep, .pinned], laidTests := true, laidLooks := .later }
def PropChecksUptoCardSaid : Prop := Claim7.holds Tryz.pinned (.plain (OpenSpec.upto propChecksSpec)) propChecksUptoCard
end Rows
end Go.Proofs.YtoohljflflnbeaaGreatDoor
