/-
  DERIVED. GIVEN WITH THE SEED: THE CARDS: each row of YtagfbbnlbncjlaaGreatDoorRows.lean that lists a variable, with what it lists TIED to the program's text (the seventh form; the later family's looks); each row that meets fmt, with fmt's text TOLD by the authors' own Lean function (tested against real Go, not proved from fmt's source: count such statements apart). THE CARD IS WHAT COUNTS. Prove the row's statement (the work); the ties are given (YtagfbbnlbncjlaaGreatDoorTie.lean); close each card by the builder's one call (the guide's Derived/Test/ToyasCard.lean, 'card_holds'). Laid BY PROGRAM, IN A SANDBOX (cutbox-door.mjs). By AI agents, Wed Nov 11 2026. No macro, syntax, notation, axiom, sorry.
-/
import Derived.Test.YtagfbbnlbncjlaaGreatDoorRows
import GoSem.ClaimSeven
namespace Go.Proofs.YtagfbbnlbncjlaaGreatDoor
namespace Rows

/-- THE TIED CARD OF 'signalcabinlaw.CoverPairs'. -/
def coverPairsCard : Claim7 := { stood := { row := coverPairsRow, standIns := [], harness := (true, "ff2c77daeada8d1de4a0d4c5b54a83f669ddb51d2ce8ead07cb69b44752b6b6c"), looks := true }, kinds := [], alts := [], laidByText := true, laidKinds := [.data, .handle, .data, .pinned], laidTests := true, laidLooks := .later }
def CoverPairsCardSaid : Prop := Claim7.holds Tryz.pinned (.plain (OpenSpec.ofChange coverPairsSpec)) coverPairsCard

/-- THE TIED CARD OF 'signalcabinlaw.GateMakes'. -/
def gateMakesCard : Claim7 := { stood := { row := gateMakesRow, standIns := [], harness := (true, "ff2c77daeada8d1de4a0d4c5b54a83f669ddb51d2ce8ead07cb69b44752b6b6c"), looks := true }, kinds := [], alts := [], laidByText := true, laidKinds := [.data, .handle, .data, .pinned], laidTests := true, laidLooks := .later }
def GateMakesCardSaid : Prop := Claim7.holds Tryz.pinned (.plain (OpenSpec.ofChange gateMakesSpec)) gateMakesCard

/-- THE TIED CARD OF 'signalcabinkeep.GateTseitin'. -/
def gateTseitinCard : Claim7 := { stood := { row := gateTseitinRow, standIns := [], harness := (true, "ff2c77daeada8d1de4a0d4c5b54a83f669ddb51d2ce8ead07cb69b44752b6b6c"), looks := true }, kinds := [], alts := [], laidByText := true, laidKinds := [.data, .handle, .pinned], laidTests := true, laidLooks := .later }
def GateTseitinCardSaid : Prop := Claim7.holds Tryz.pinned (.plain (OpenSpec.ofChange gateTseitinSpec)) gateTseitinCard

/-- THE TIED CARD OF 'signalcabinlaw.GateSames'. -/
def gateSamesCard : Claim7 := { stood := { row := gateSamesRow, standIns := [], harness := (true, "ff2c77daeada8d1de4a0d4c5b54a83f669ddb51d2ce8ead07cb69b44752b6b6c"), looks := true }, kinds := [], alts := [], laidByText := true, laidKinds := [.data, .handle, .data, .pinned], laidTests := true, laidLooks := .later }
def GateSamesCardSaid : Prop := Claim7.holds Tryz.pinned (.plain (OpenSpec.ofChange gateSamesSpec)) gateSamesCard

/-- THE TIED CARD OF 'signalcabinkeep.GateTidy'. -/
def gateTidyCard : Claim7 := { stood := { row := gateTidyRow, standIns := [], harness := (true, "ff2c77daeada8d1de4a0d4c5b54a83f669ddb51d2ce8ead07cb69b44752b6b6c"), looks := true }, kinds := [], alts := [], laidByText := true, laidKinds := [.data, .handle, .pinned], laidTests := true, laidLooks := .later }
def GateTidyCardSaid : Prop := Claim7.holds Tryz.pinned (.plain (OpenSpec.ofChange gateTidySpec)) gateTidyCard

/-- THE SECOND FORM's CARD OF 'signalcabinlaw.CoverPairs'. -/
def coverPairsUptoCard : Claim7 := { stood := { row := coverPairsUptoRow, standIns := [], harness := (true, "ff2c77daeada8d1de4a0d4c5b54a83f669ddb51d2ce8ead07cb69b44752b6b6c"), looks := true }, kinds := [], alts := [], laidByText := true, laidKinds := [.data, .handle, .data, .pinned], laidTests := true, laidLooks := .later }
def CoverPairsUptoCardSaid : Prop := Claim7.holds Tryz.pinned (.plain (OpenSpec.upto coverPairsSpec)) coverPairsUptoCard

/-- THE SECOND FORM's CARD OF 'signalcabinlaw.GateMakes'. -/
def gateMakesUptoCard : Claim7 := { stood := { row := gateMakesUptoRow, standIns := [], harness := (true, "ff2c77daeada8d1de4a0d4c5b54a83f669ddb51d2ce8ead07cb69b44752b6b6c"), looks := true }, kinds := [], alts := [], laidByText := true, laidKinds := [.data, .handle, .data, .pinned], laidTests := true, laidLooks := .later }
def GateMakesUptoCardSaid : Prop := Claim7.holds Tryz.pinned (.plain (OpenSpec.upto gateMakesSpec)) gateMakesUptoCard

/-- THE SECOND FORM's CARD OF 'signalcabinkeep.GateTseitin'. -/
def gateTseitinUptoCard : Claim7 := { stood := { row := gateTseitinUptoRow, standIns := [], harness := (true, "ff2c77daeada8d1de4a0d4c5b54a83f669ddb51d2ce8ead07cb69b44752b6b6c"), looks := true }, kinds := [], alts := [], laidByText := true, laidKinds := [.data, .handle, .pinned], laidTests := true, laidLooks := .later }
def GateTseitinUptoCardSaid : Prop := Claim7.holds Tryz.pinned (.plain (OpenSpec.upto gateTseitinSpec)) gateTseitinUptoCard

/-- THE SECOND FORM's CARD OF 'signalcabinlaw.GateSames'. -/
def gateSamesUptoCard : Claim7 := { stood := { row := gateSamesUptoRow, standIns := [], harness := (true, "ff2c77daeada8d1de4a0d4c5b54a83f669ddb51d2ce8ead07cb69b44752b6b6c"), looks := true }, kinds := [], alts := [], laidByText := true, laidKinds := [.data, .handle, .data, .pinned], laidTests := true, laidLooks := .later }
def GateSamesUptoCardSaid : Prop := Claim7.holds Tryz.pinned (.plain (OpenSpec.upto gateSamesSpec)) gateSamesUptoCard

/-- THE SECOND FORM's CARD OF 'signalcabinkeep.GateTidy'. -/
def gateTidyUptoCard : Claim7 := { stood := { row := gateTidyUptoRow, standIns := [], harness := (true, "ff2c77daeada8d1de4a0d4c5b54a83f669ddb51d2ce8ead07cb69b44752b6b6c"), looks := true }, kinds := [], alts := [], laidByText := true, laidKinds := [.data, .handle, .pinned], laidTests := true, laidLooks := .later }
def GateTidyUptoCardSaid : Prop := Claim7.holds Tryz.pinned (.plain (OpenSpec.upto gateTidySpec)) gateTidyUptoCard
end Rows
end Go.Proofs.YtagfbbnlbncjlaaGreatDoor
