/-
  DERIVED. GIVEN WITH THE SEED: THE CARDS: each row of YtdigkhaofjmgkaaGreatDoorRows.lean that lists a variable, with what it lists TIED to the program's text (the seventh form; the later family's looks); each row that meets fmt, with fmt's text TOLD by the authors' own Lean function (tested against real Go, not proved from fmt's source: count such statements apart). THE CARD IS WHAT COUNTS. Prove the row's statement (the work); the ties are given (YtdigkhaofjmgkaaGreatDoorTie.lean); close each card by the builder's one call (the guide's Derived/Test/ToyasCard.lean, 'card_holds'). Laid BY PROGRAM, IN A SANDBOX (cutbox-door.mjs). By AI agents, Wed Nov 11 2026. No macro, syntax, notation, axiom, sorry.
-/
import Derived.Test.YtdigkhaofjmgkaaGreatDoorRows
import GoSem.ClaimSeven
namespace Go.Proofs.YtdigkhaofjmgkaaGreatDoor
namespace Rows

/-- THE TIED CARD OF 'signalcabinlaw.MachineMakes'. -/
def machineMakesCard : Claim7 := { stood := { row := machineMakesRow, standIns := [], harness := (true, "b6e105243d703bca6d97fdbc788c90d077fb8e7994785bf5cbec51c8f19622a2"), looks := true }, kinds := [], alts := [], laidByText := true, laidKinds := [.data, .data, .data, .data, .handle, .sentinel, .sentinel, .data, .widerDeep, .widerDeep, .pinned], laidTests := true, laidLooks := .later }
def MachineMakesCardSaid : Prop := Claim7.holds Tryz.pinned (.plain (OpenSpec.ofChange machineMakesSpec)) machineMakesCard

/-- THE TIED CARD OF 'signalcabinlaw.MachineSees'. -/
def machineSeesCard : Claim7 := { stood := { row := machineSeesRow, standIns := [], harness := (true, "b6e105243d703bca6d97fdbc788c90d077fb8e7994785bf5cbec51c8f19622a2"), looks := true }, kinds := [], alts := [], laidByText := true, laidKinds := [.data, .data, .data, .data, .handle, .sentinel, .sentinel, .data, .widerDeep, .widerDeep, .pinned], laidTests := true, laidLooks := .later }
def MachineSeesCardSaid : Prop := Claim7.holds Tryz.pinned (.plain (OpenSpec.ofChange machineSeesSpec)) machineSeesCard

/-- THE TIED CARD OF 'signalcabinlaw.ReachFixed'. -/
def reachFixedCard : Claim7 := { stood := { row := reachFixedRow, standIns := [], harness := (true, "b6e105243d703bca6d97fdbc788c90d077fb8e7994785bf5cbec51c8f19622a2"), looks := true }, kinds := [], alts := [], laidByText := true, laidKinds := [.data, .data, .data, .data, .handle, .sentinel, .sentinel, .data, .widerDeep, .widerDeep, .pinned], laidTests := true, laidLooks := .later }
def ReachFixedCardSaid : Prop := Claim7.holds Tryz.pinned (.plain (OpenSpec.ofChange reachFixedSpec)) reachFixedCard

/-- THE TIED CARD OF 'signalcabinkeep.CoverGoes'. -/
def coverGoesCard : Claim7 := { stood := { row := coverGoesRow, standIns := [], harness := (true, "b6e105243d703bca6d97fdbc788c90d077fb8e7994785bf5cbec51c8f19622a2"), looks := true }, kinds := [], alts := [], laidByText := true, laidKinds := [.data, .data, .data, .data, .handle, .sentinel, .sentinel, .pinned], laidTests := true, laidLooks := .later }
def CoverGoesCardSaid : Prop := Claim7.holds Tryz.pinned (.plain (OpenSpec.ofChange coverGoesSpec)) coverGoesCard

/-- THE TIED CARD OF 'signalcabinlaw.ReachFars'. -/
def reachFarsCard : Claim7 := { stood := { row := reachFarsRow, standIns := [], harness := (true, "b6e105243d703bca6d97fdbc788c90d077fb8e7994785bf5cbec51c8f19622a2"), looks := true }, kinds := [], alts := [], laidByText := true, laidKinds := [.data, .data, .data, .data, .handle, .sentinel, .sentinel, .data, .widerDeep, .widerDeep, .pinned], laidTests := true, laidLooks := .later }
def ReachFarsCardSaid : Prop := Claim7.holds Tryz.pinned (.plain (OpenSpec.ofChange reachFarsSpec)) reachFarsCard

/-- THE TIED CARD OF 'signalcabinlaw.PropAnswers'. -/
def propAnswersCard : Claim7 := { stood := { row := propAnswersRow, standIns := [], harness := (true, "b6e105243d703bca6d97fdbc788c90d077fb8e7994785bf5cbec51c8f19622a2"), looks := true }, kinds := [], alts := [], laidByText := true, laidKinds := [.data, .data, .data, .data, .handle, .sentinel, .sentinel, .data, .widerDeep, .widerDeep, .pinned], laidTests := true, laidLooks := .later }
def PropAnswersCardSaid : Prop := Claim7.holds Tryz.pinned (.plain (OpenSpec.ofChange propAnswersSpec)) propAnswersCard

/-- THE TIED CARD OF 'signalcabinkeep.PropSound'. -/
def propSoundCard : Claim7 := { stood := { row := propSoundRow, standIns := [], harness := (true, "b6e105243d703bca6d97fdbc788c90d077fb8e7994785bf5cbec51c8f19622a2"), looks := true }, kinds := [], alts := [], laidByText := true, laidKinds := [.data, .data, .data, .data, .handle, .sentinel, .sentinel, .pinned], laidTests := true, laidLooks := .later }
def PropSoundCardSaid : Prop := Claim7.holds Tryz.pinned (.plain (OpenSpec.ofChange propSoundSpec)) propSoundCard

/-- THE TIED CARD OF 'signalcabinkeep.InductSound'. -/
def inductSoundCard : Claim7 := { stood := { row := inductSoundRow, standIns := [], harness := (true, "b6e105243d703bca6d97fdbc788c90d077fb8e7994785bf5cbec51c8f19622a2"), looks := true }, kinds := [], alts := [], laidByText := true, laidKinds := [.data, .data, .data, .data, .handle, .sentinel, .sentinel, .pinned], laidTests := true, laidLooks := .later }
def InductSoundCardSaid : Prop := Claim7.holds Tryz.pinned (.plain (OpenSpec.ofChange inductSoundSpec)) inductSoundCard

/-- THE TIED CARD OF 'signalcabinkeep.PropAnswered'. -/
def propAnsweredCard : Claim7 := { stood := { row := propAnsweredRow, standIns := [], harness := (true, "b6e105243d703bca6d97fdbc788c90d077fb8e7994785bf5cbec51c8f19622a2"), looks := true }, kinds := [], alts := [], laidByText := true, laidKinds := [.data, .data, .data, .data, .handle, .sentinel, .sentinel, .pinned], laidTests := true, laidLooks := .later }
def PropAnsweredCardSaid : Prop := Claim7.holds Tryz.pinned (.plain (OpenSpec.ofChange propAnsweredSpec)) propAnsweredCard

/-- THE TIED CARD OF 'signalcabinlaw.PropChecks'. -/
def propChecksCard : Claim7 := { stood := { row := propChecksRow, standIns := [], harness := (true, "b6e105243d703bca6d97fdbc788c90d077fb8e7994785bf5cbec51c8f19622a2"), looks := true }, kinds := [], alts := [], laidByText := true, laidKinds := [.data, .data, .data, .data, .handle, .sentinel, .sentinel, .data, .widerDeep, .widerDeep, .pinned], laidTests := true, laidLooks := .later }
def PropChecksCardSaid : Prop := Claim7.holds Tryz.pinned (.plain (OpenSpec.ofChange propChecksSpec)) propChecksCard

/-- THE SECOND FORM's CARD OF 'signalcabinlaw.MachineMakes'. -/
def machineMakesUptoCard : Claim7 := { stood := { row := machineMakesUptoRow, standIns := [], harness := (true, "b6e105243d703bca6d97fdbc788c90d077fb8e7994785bf5cbec51c8f19622a2"), looks := true }, kinds := [], alts := [], laidByText := true, laidKinds := [.data, .data, .data, .data, .handle, .sentinel, .sentinel, .data, .widerDeep, .widerDeep, .pinned], laidTests := true, laidLooks := .later }
def MachineMakesUptoCardSaid : Prop := Claim7.holds Tryz.pinned (.plain (OpenSpec.upto machineMakesSpec)) machineMakesUptoCard

/-- THE SECOND FORM's CARD OF 'signalcabinlaw.MachineSees'. -/
def machineSeesUptoCard : Claim7 := { stood := { row := machineSeesUptoRow, standIns := [], harness := (true, "b6e105243d703bca6d97fdbc788c90d077fb8e7994785bf5cbec51c8f19622a2"), looks := true }, kinds := [], alts := [], laidByText := true, laidKinds := [.data, .data, .data, .data, .handle, .sentinel, .sentinel, .data, .widerDeep, .widerDeep, .pinned], laidTests := true, laidLooks := .later }
def MachineSeesUptoCardSaid : Prop := Claim7.holds Tryz.pinned (.plain (OpenSpec.upto machineSeesSpec)) machineSeesUptoCard

/-- THE SECOND FORM's CARD OF 'signalcabinlaw.ReachFixed'. -/
def reachFixedUptoCard : Claim7 := { stood := { row := reachFixedUptoRow, standIns := [], harness := (true, "b6e105243d703bca6d97fdbc788c90d077fb8e7994785bf5cbec51c8f19622a2"), looks := true }, kinds := [], alts := [], laidByText := true, laidKinds := [.data, .data, .data, .data, .handle, .sentinel, .sentinel, .data, .widerDeep, .widerDeep, .pinned], laidTests := true, laidLooks := .later }
def ReachFixedUptoCardSaid : Prop := Claim7.holds Tryz.pinned (.plain (OpenSpec.upto reachFixedSpec)) reachFixedUptoCard

/-- THE SECOND FORM's CARD OF 'signalcabinkeep.CoverGoes'. -/
def coverGoesUptoCard : Claim7 := { stood := { row := coverGoesUptoRow, standIns := [], harness := (true, "b6e105243d703bca6d97fdbc788c90d077fb8e7994785bf5cbec51c8f19622a2"), looks := true }, kinds := [], alts := [], laidByText := true, laidKinds := [.data, .data, .data, .data, .handle, .sentinel, .sentinel, .pinned], laidTests := true, laidLooks := .later }
def CoverGoesUptoCardSaid : Prop := Claim7.holds Tryz.pinned (.plain (OpenSpec.upto coverGoesSpec)) coverGoesUptoCard

/-- THE SECOND FORM's CARD OF 'signalcabinlaw.ReachFars'. -/
def reachFarsUptoCard : Claim7 := { stood := { row := reachFarsUptoRow, standIns := [], harness := (true, "b6e105243d703bca6d97fdbc788c90d077fb8e7994785bf5cbec51c8f19622a2"), looks := true }, kinds := [], alts := [], laidByText := true, laidKinds := [.data, .data, .data, .data, .handle, .sentinel, .sentinel, .data, .widerDeep, .widerDeep, .pinned], laidTests := true, laidLooks := .later }
def ReachFarsUptoCardSaid : Prop := Claim7.holds Tryz.pinned (.plain (OpenSpec.upto reachFarsSpec)) reachFarsUptoCard

/-- THE SECOND FORM's CARD OF 'signalcabinlaw.PropAnswers'. -/
def propAnswersUptoCard : Claim7 := { stood := { row := propAnswersUptoRow, standIns := [], harness := (true, "b6e105243d703bca6d97fdbc788c90d077fb8e7994785bf5cbec51c8f19622a2"), looks := true }, kinds := [], alts := [], laidByText := true, laidKinds := [.data, .data, .data, .data, .handle, .sentinel, .sentinel, .data, .widerDeep, .widerDeep, .pinned], laidTests := true, laidLooks := .later }
def PropAnswersUptoCardSaid : Prop := Claim7.holds Tryz.pinned (.plain (OpenSpec.upto propAnswersSpec)) propAnswersUptoCard

/-- THE SECOND FORM's CARD OF 'signalcabinkeep.PropSound'. -/
def propSoundUptoCard : Claim7 := { stood := { row := propSoundUptoRow, standIns := [], harness := (true, "b6e105243d703bca6d97fdbc788c90d077fb8e7994785bf5cbec51c8f19622a2"), looks := true }, kinds := [], alts := [], laidByText := true, laidKinds := [.data, .data, .data, .data, .handle, .sentinel, .sentinel, .pinned], laidTests := true, laidLooks := .later }
def PropSoundUptoCardSaid : Prop := Claim7.holds Tryz.pinned (.plain (OpenSpec.upto propSoundSpec)) propSoundUptoCard

/-- THE SECOND FORM's CARD OF 'signalcabinkeep.InductSound'. -/
def inductSoundUptoCard : Claim7 := { stood := { row := inductSoundUptoRow, standIns := [], harness := (true, "b6e105243d703bca6d97fdbc788c90d077fb8e7994785bf5cbec51c8f19622a2"), looks := true }, kinds := [], alts := [], laidByText := true, laidKinds := [.data, .data, .data, .data, .handle, .sentinel, .sentinel, .pinned], laidTests := true, laidLooks := .later }
def InductSoundUptoCardSaid : Prop := Claim7.holds Tryz.pinned (.plain (OpenSpec.upto inductSoundSpec)) inductSoundUptoCard

/-- THE SECOND FORM's CARD OF 'signalcabinkeep.PropAnswered'. -/
def propAnsweredUptoCard : Claim7 := { stood := { row := propAnsweredUptoRow, standIns := [], harness := (true, "b6e105243d703bca6d97fdbc788c90d077fb8e7994785bf5cbec51c8f19622a2"), looks := true }, kinds := [], alts := [], laidByText := true, laidKinds := [.data, .data, .data, .data, .handle, .sentinel, .sentinel, .pinned], laidTests := true, laidLooks := .later }
def PropAnsweredUptoCardSaid : Prop := Claim7.holds Tryz.pinned (.plain (OpenSpec.upto propAnsweredSpec)) propAnsweredUptoCard

/-- THE SECOND FORM's CARD OF 'signalcabinlaw.PropChecks'. -/
def propChecksUptoCard : Claim7 := { stood := { row := propChecksUptoRow, standIns := [], harness := (true, "b6e105243d703bca6d97fdbc788c90d077fb8e7994785bf5cbec51c8f19622a2"), looks := true }, kinds := [], alts := [], laidByText := true, laidKinds := [.data, .data, .data, .data, .handle, .sentinel, .sentinel, .data, .widerDeep, .widerDeep, .pinned], laidTests := true, laidLooks := .later }
def PropChecksUptoCardSaid : Prop := Claim7.holds Tryz.pinned (.plain (OpenSpec.upto propChecksSpec)) propChecksUptoCard
end Rows
end Go.Proofs.YtdigkhaofjmgkaaGreatDoor
