/-
  DERIVED. GIVEN WITH THE SEED: THE CARDS: each row of YtpboiimemmfkiaaGreatDoorRows.lean that lists a variable, with what it lists TIED to the program's text (the seventh form; the later family's looks); each row that meets fmt, with fmt's text TOLD by the authors' own Lean function (tested against real Go, not proved from fmt's source: count such statements apart). THE CARD IS WHAT COUNTS. Prove the row's statement (the work); the ties are given (YtpboiimemmfkiaaGreatDoorTie.lean); close each card by the builder's one call (the guide's Derived/Test/ToyasCard.lean, 'card_holds'). Laid BY PROGRAM, IN A SANDBOX (cutbox-door.mjs). By AI agents, Wed Nov 11 2026. No macro, syntax, notation, axiom, sorry.
-/
import Derived.Test.YtpboiimemmfkiaaGreatDoorRows
import GoSem.ClaimSeven
namespace Go.Proofs.YtpboiimemmfkiaaGreatDoor
namespace Rows

/-- THE TIED CARD OF 'signalcabinlaw.RouteLadders'. -/
def routeLaddersCard : Claim7 := { stood := { row := routeLaddersRow, standIns := [], harness := (true, "7723cda478933b65c70dd19f065297f0aa3c3f05cabfd73464bb4871da5d7b1a"), looks := true }, kinds := [], alts := [], laidByText := true, laidKinds := [.data, .data, .data, .data, .handle, .data, .data, .pinned], laidTests := true, laidLooks := .later }
def RouteLaddersCardSaid : Prop := Claim7.holds Tryz.pinned (.plain (OpenSpec.ofChange routeLaddersSpec)) routeLaddersCard

/-- THE TIED CARD OF 'signalcabinkeep.MachinePlays'. -/
def machinePlaysCard : Claim7 := { stood := { row := machinePlaysRow, standIns := [], harness := (true, "7723cda478933b65c70dd19f065297f0aa3c3f05cabfd73464bb4871da5d7b1a"), looks := true }, kinds := [], alts := [], laidByText := true, laidKinds := [.data, .data, .data, .data, .handle, .sentinel, .sentinel, .pinned], laidTests := true, laidLooks := .later }
def MachinePlaysCardSaid : Prop := Claim7.holds Tryz.pinned (.plain (OpenSpec.ofChange machinePlaysSpec)) machinePlaysCard

/-- THE TIED CARD OF 'signalcabinlaw.MachineMakes'. -/
def machineMakesCard : Claim7 := { stood := { row := machineMakesRow, standIns := [], harness := (true, "7723cda478933b65c70dd19f065297f0aa3c3f05cabfd73464bb4871da5d7b1a"), looks := true }, kinds := [], alts := [], laidByText := true, laidKinds := [.data, .data, .data, .data, .handle, .sentinel, .sentinel, .data, .widerDeep, .widerDeep, .pinned], laidTests := true, laidLooks := .later }
def MachineMakesCardSaid : Prop := Claim7.holds Tryz.pinned (.plain (OpenSpec.ofChange machineMakesSpec)) machineMakesCard

/-- THE TIED CARD OF 'signalcabinlaw.MachineSees'. -/
def machineSeesCard : Claim7 := { stood := { row := machineSeesRow, standIns := [], harness := (true, "7723cda478933b65c70dd19f065297f0aa3c3f05cabfd73464bb4871da5d7b1a"), looks := true }, kinds := [], alts := [], laidByText := true, laidKinds := [.data, .data, .data, .data, .handle, .sentinel, .sentinel, .data, .widerDeep, .widerDeep, .pinned], laidTests := true, laidLooks := .later }
def MachineSeesCardSaid : Prop := Claim7.holds Tryz.pinned (.plain (OpenSpec.ofChange machineSeesSpec)) machineSeesCard

/-- THE TIED CARD OF 'signalcabinkeep.ReachPaths'. -/
def reachPathsCard : Claim7 := { stood := { row := reachPathsRow, standIns := [], harness := (true, "7723cda478933b65c70dd19f065297f0aa3c3f05cabfd73464bb4871da5d7b1a"), looks := true }, kinds := [], alts := [], laidByText := true, laidKinds := [.data, .data, .data, .data, .handle, .sentinel, .sentinel, .pinned], laidTests := true, laidLooks := .later }
def ReachPathsCardSaid : Prop := Claim7.holds Tryz.pinned (.plain (OpenSpec.ofChange reachPathsSpec)) reachPathsCard

/-- THE TIED CARD OF 'signalcabinlaw.SliceOfs'. -/
def sliceOfsCard : Claim7 := { stood := { row := sliceOfsRow, standIns := [], harness := (true, "7723cda478933b65c70dd19f065297f0aa3c3f05cabfd73464bb4871da5d7b1a"), looks := true }, kinds := [], alts := [], laidByText := true, laidKinds := [.data, .data, .data, .data, .handle, .sentinel, .sentinel, .data, .data, .widerDeep, .widerDeep, .pinned], laidTests := true, laidLooks := .later }
def SliceOfsCardSaid : Prop := Claim7.holds Tryz.pinned (.plain (OpenSpec.ofChange sliceOfsSpec)) sliceOfsCard

/-- THE TIED CARD OF 'signalcabinkeep.SliceSame'. -/
def sliceSameCard : Claim7 := { stood := { row := sliceSameRow, standIns := [], harness := (true, "7723cda478933b65c70dd19f065297f0aa3c3f05cabfd73464bb4871da5d7b1a"), looks := true }, kinds := [], alts := [], laidByText := true, laidKinds := [.data, .data, .data, .data, .handle, .sentinel, .sentinel, .data, .pinned], laidTests := true, laidLooks := .later }
def SliceSameCardSaid : Prop := Claim7.holds Tryz.pinned (.plain (OpenSpec.ofChange sliceSameSpec)) sliceSameCard

/-- THE TIED CARD OF 'signalcabinkeep.ReachTarski'. -/
def reachTarskiCard : Claim7 := { stood := { row := reachTarskiRow, standIns := [], harness := (true, "7723cda478933b65c70dd19f065297f0aa3c3f05cabfd73464bb4871da5d7b1a"), looks := true }, kinds := [], alts := [], laidByText := true, laidKinds := [.data, .data, .data, .data, .handle, .sentinel, .sentinel, .pinned], laidTests := true, laidLooks := .later }
def ReachTarskiCardSaid : Prop := Claim7.holds Tryz.pinned (.plain (OpenSpec.ofChange reachTarskiSpec)) reachTarskiCard

/-- THE TIED CARD OF 'signalcabinlaw.ReachFixed'. -/
def reachFixedCard : Claim7 := { stood := { row := reachFixedRow, standIns := [], harness := (true, "7723cda478933b65c70dd19f065297f0aa3c3f05cabfd73464bb4871da5d7b1a"), looks := true }, kinds := [], alts := [], laidByText := true, laidKinds := [.data, .data, .data, .data, .handle, .sentinel, .sentinel, .data, .widerDeep, .widerDeep, .pinned], laidTests := true, laidLooks := .later }
def ReachFixedCardSaid : Prop := Claim7.holds Tryz.pinned (.plain (OpenSpec.ofChange reachFixedSpec)) reachFixedCard

/-- THE TIED CARD OF 'signalcabinlaw.SliceTidies'. -/
def sliceTidiesCard : Claim7 := { stood := { row := sliceTidiesRow, standIns := [], harness := (true, "7723cda478933b65c70dd19f065297f0aa3c3f05cabfd73464bb4871da5d7b1a"), looks := true }, kinds := [], alts := [], laidByText := true, laidKinds := [.data, .data, .data, .data, .handle, .sentinel, .sentinel, .data, .data, .widerDeep, .widerDeep, .pinned], laidTests := true, laidLooks := .later }
def SliceTidiesCardSaid : Prop := Claim7.holds Tryz.pinned (.plain (OpenSpec.ofChange sliceTidiesSpec)) sliceTidiesCard

/-- THE TIED CARD OF 'signalcabinlaw.ReachFars'. -/
def reachFarsCard : Claim7 := { stood := { row := reachFarsRow, standIns := [], harness := (true, "7723cda478933b65c70dd19f065297f0aa3c3f05cabfd73464bb4871da5d7b1a"), looks := true }, kinds := [], alts := [], laidByText := true, laidKinds := [.data, .data, .data, .data, .handle, .sentinel, .sentinel, .data, .widerDeep, .widerDeep, .pinned], laidTests := true, laidLooks := .later }
def ReachFarsCardSaid : Prop := Claim7.holds Tryz.pinned (.plain (OpenSpec.ofChange reachFarsSpec)) reachFarsCard

/-- THE TIED CARD OF 'signalcabinkeep.SliceTidy'. -/
def sliceTidyCard : Claim7 := { stood := { row := sliceTidyRow, standIns := [], harness := (true, "7723cda478933b65c70dd19f065297f0aa3c3f05cabfd73464bb4871da5d7b1a"), looks := true }, kinds := [], alts := [], laidByText := true, laidKinds := [.data, .data, .data, .data, .handle, .sentinel, .sentinel, .pinned], laidTests := true, laidLooks := .later }
def SliceTidyCardSaid : Prop := Claim7.holds Tryz.pinned (.plain (OpenSpec.ofChange sliceTidySpec)) sliceTidyCard

/-- THE SECOND FORM's CARD OF 'signalcabinlaw.RouteLadders'. -/
def routeLaddersUptoCard : Claim7 := { stood := { row := routeLaddersUptoRow, standIns := [], harness := (true, "7723cda478933b65c70dd19f065297f0aa3c3f05cabfd73464bb4871da5d7b1a"), looks := true }, kinds := [], alts := [], laidByText := true, laidKinds := [.data, .data, .data, .data, .handle, .data, .data, .pinned], laidTests := true, laidLooks := .later }
def RouteLaddersUptoCardSaid : Prop := Claim7.holds Tryz.pinned (.plain (OpenSpec.upto routeLaddersSpec)) routeLaddersUptoCard

/-- THE SECOND FORM's CARD OF 'signalcabinkeep.MachinePlays'. -/
def machinePlaysUptoCard : Claim7 := { stood := { row := machinePlaysUptoRow, standIns := [], harness := (true, "7723cda478933b65c70dd19f065297f0aa3c3f05cabfd73464bb4871da5d7b1a"), looks := true }, kinds := [], alts := [], laidByText := true, laidKinds := [.data, .data, .data, .data, .handle, .sentinel, .sentinel, .pinned], laidTests := true, laidLooks := .later }
def MachinePlaysUptoCardSaid : Prop := Claim7.holds Tryz.pinned (.plain (OpenSpec.upto machinePlaysSpec)) machinePlaysUptoCard

/-- THE SECOND FORM's CARD OF 'signalcabinlaw.MachineMakes'. -/
def machineMakesUptoCard : Claim7 := { stood := { row := machineMakesUptoRow, standIns := [], harness := (true, "7723cda478933b65c70dd19f065297f0aa3c3f05cabfd73464bb4871da5d7b1a"), looks := true }, kinds := [], alts := [], laidByText := true, laidKinds := [.data, .data, .data, .data, .handle, .sentinel, .sentinel, .data, .widerDeep, .widerDeep, .pinned], laidTests := true, laidLooks := .later }
def MachineMakesUptoCardSaid : Prop := Claim7.holds Tryz.pinned (.plain (OpenSpec.upto machineMakesSpec)) machineMakesUptoCard

/-- THE SECOND FORM's CARD OF 'signalcabinlaw.MachineSees'. -/
def machineSeesUptoCard : Claim7 := { stood := { row := machineSeesUptoRow, standIns := [], harness := (true, "7723cda478933b65c70dd19f065297f0aa3c3f05cabfd73464bb4871da5d7b1a"), looks := true }, kinds := [], alts := [], laidByText := true, laidKinds := [.data, .data, .data, .data, .handle, .sentinel, .sentinel, .data, .widerDeep, .widerDeep, .pinned], laidTests := true, laidLooks := .later }
def MachineSeesUptoCardSaid : Prop := Claim7.holds Tryz.pinned (.plain (OpenSpec.upto machineSeesSpec)) machineSeesUptoCard

/-- THE SECOND FORM's CARD OF 'signalcabinkeep.ReachPaths'. -/
def reachPathsUptoCard : Claim7 := { stood := { row := reachPathsUptoRow, standIns := [], harness := (true, "7723cda478933b65c70dd19f065297f0aa3c3f05cabfd73464bb4871da5d7b1a"), looks := true }, kinds := [], alts := [], laidByText := true, laidKinds := [.data, .data, .data, .data, .handle, .sentinel, .sentinel, .pinned], laidTests := true, laidLooks := .later }
def ReachPathsUptoCardSaid : Prop := Claim7.holds Tryz.pinned (.plain (OpenSpec.upto reachPathsSpec)) reachPathsUptoCard

/-- THE SECOND FORM's CARD OF 'signalcabinlaw.SliceOfs'. -/
def sliceOfsUptoCard : Claim7 := { stood := { row := sliceOfsUptoRow, standIns := [], harness := (true, "7723cda478933b65c70dd19f065297f0aa3c3f05cabfd73464bb4871da5d7b1a"), looks := true }, kinds := [], alts := [], laidByText := true, laidKinds := [.data, .data, .data, .data, .handle, .sentinel, .sentinel, .data, .data, .widerDeep, .widerDeep, .pinned], laidTests := true, laidLooks := .later }
def SliceOfsUptoCardSaid : Prop := Claim7.holds Tryz.pinned (.plain (OpenSpec.upto sliceOfsSpec)) sliceOfsUptoCard

/-- THE SECOND FORM's CARD OF 'signalcabinkeep.SliceSame'. -/
def sliceSameUptoCard : Claim7 := { stood := { row := sliceSameUptoRow, standIns := [], harness := (true, "7723cda478933b65c70dd19f065297f0aa3c3f05cabfd73464bb4871da5d7b1a"), looks := true }, kinds := [], alts := [], laidByText := true, laidKinds := [.data, .data, .data, .data, .handle, .sentinel, .sentinel, .data, .pinned], laidTests := true, laidLooks := .later }
def SliceSameUptoCardSaid : Prop := Claim7.holds Tryz.pinned (.plain (OpenSpec.upto sliceSameSpec)) sliceSameUptoCard

/-- THE SECOND FORM's CARD OF 'signalcabinkeep.ReachTarski'. -/
def reachTarskiUptoCard : Claim7 := { stood := { row := reachTarskiUptoRow, standIns := [], harness := (true, "7723cda478933b65c70dd19f065297f0aa3c3f05cabfd73464bb4871da5d7b1a"), looks := true }, kinds := [], alts := [], laidByText := true, laidKinds := [.data, .data, .data, .data, .handle, .sentinel, .sentinel, .pinned], laidTests := true, laidLooks := .later }
def ReachTarskiUptoCardSaid : Prop := Claim7.holds Tryz.pinned (.plain (OpenSpec.upto reachTarskiSpec)) reachTarskiUptoCard

/-- THE SECOND FORM's CARD OF 'signalcabinlaw.ReachFixed'. -/
def reachFixedUptoCard : Claim7 := { stood := { row := reachFixedUptoRow, standIns := [], harness := (true, "7723cda478933b65c70dd19f065297f0aa3c3f05cabfd73464bb4871da5d7b1a"), looks := true }, kinds := [], alts := [], laidByText := true, laidKinds := [.data, .data, .data, .data, .handle, .sentinel, .sentinel, .data, .widerDeep, .widerDeep, .pinned], laidTests := true, laidLooks := .later }
def ReachFixedUptoCardSaid : Prop := Claim7.holds Tryz.pinned (.plain (OpenSpec.upto reachFixedSpec)) reachFixedUptoCard

/-- THE SECOND FORM's CARD OF 'signalcabinlaw.SliceTidies'. -/
def sliceTidiesUptoCard : Claim7 := { stood := { row := sliceTidiesUptoRow, standIns := [], harness := (true, "7723cda478933b65c70dd19f065297f0aa3c3f05cabfd73464bb4871da5d7b1a"), looks := true }, kinds := [], alts := [], laidByText := true, laidKinds := [.data, .data, .data, .data, .handle, .sentinel, .sentinel, .data, .data, .widerDeep, .widerDeep, .pinned], laidTests := true, laidLooks := .later }
def SliceTidiesUptoCardSaid : Prop := Claim7.holds Tryz.pinned (.plain (OpenSpec.upto sliceTidiesSpec)) sliceTidiesUptoCard

/-- THE SECOND FORM's CARD OF 'signalcabinlaw.ReachFars'. -/
def reachFarsUptoCard : Claim7 := { stood := { row := reachFarsUptoRow, standIns := [], harness := (true, "7723cda478933b65c70dd19f065297f0aa3c3f05cabfd73464bb4871da5d7b1a"), looks := true }, kinds := [], alts := [], laidByText := true, laidKinds := [.data, .data, .data, .data, .handle, .sentinel, .sentinel, .data, .widerDeep, .widerDeep, .pinned], laidTests := true, laidLooks := .later }
def ReachFarsUptoCardSaid : Prop := Claim7.holds Tryz.pinned (.plain (OpenSpec.upto reachFarsSpec)) reachFarsUptoCard

/-- THE SECOND FORM's CARD OF 'signalcabinkeep.SliceTidy'. -/
def sliceTidyUptoCard : Claim7 := { stood := { row := sliceTidyUptoRow, standIns := [], harness := (true, "7723cda478933b65c70dd19f065297f0aa3c3f05cabfd73464bb4871da5d7b1a"), looks := true }, kinds := [], alts := [], laidByText := true, laidKinds := [.data, .data, .data, .data, .handle, .sentinel, .sentinel, .pinned], laidTests := true, laidLooks := .later }
def SliceTidyUptoCardSaid : Prop := Claim7.holds Tryz.pinned (.plain (OpenSpec.upto sliceTidySpec)) sliceTidyUptoCard
end Rows
end Go.Proofs.YtpboiimemmfkiaaGreatDoor
