/-
  DERIVED. GIVEN WITH THE SEED: THE CARDS: each row of YtoikggboakojlaaDoorRows.lean that lists a variable, with what it lists TIED to the program's text (the seventh form; the later family's looks); each row that meets fmt, with fmt's text TOLD by the authors' own Lean function (tested against real Go, not proved from fmt's source: count such statements apart). THE CARD IS WHAT COUNTS. Prove the row's statement (the work); the ties are given (YtoikggboakojlaaDoorTie.lean); close each card by the builder's one call (the guide's Derived/Test/ToyasCard.lean, 'card_holds'). Laid BY PROGRAM, IN A SANDBOX (cutbox-door.mjs). By AI agents, Wed Nov 11 2026. No macro, syntax, notation, axiom, sorry.
-/
import Derived.Test.YtoikggboakojlaaDoorRows
import GoSem.ClaimSeven
namespace Go.Proofs.YtoikggboakojlaaDoor
namespace Rows

/-- THE TIED CARD OF 'signalcabinlaw.ExprNames'. -/
def exprNamesCard : Claim7 := { stood := { row := exprNamesRow, standIns := [], harness := (true, "74b007192a5ef019a193b2198cfe0ab3c5143cad377b86bd9a71b39e51c426fc"), looks := true }, kinds := [], alts := [], laidByText := true, laidKinds := [.data, .pinned], laidTests := true, laidLooks := .later }
def ExprNamesCardSaid : Prop := Claim7.holds Tryd.pinned (.plain (OpenSpec.ofChange exprNamesSpec)) exprNamesCard

/-- THE TIED CARD OF 'signalcabinlaw.BlockBlocks'. -/
def blockBlocksCard : Claim7 := { stood := { row := blockBlocksRow, standIns := [], harness := (true, "74b007192a5ef019a193b2198cfe0ab3c5143cad377b86bd9a71b39e51c426fc"), looks := true }, kinds := [], alts := [], laidByText := true, laidKinds := [.handle, .data], laidTests := true, laidLooks := .later }
def BlockBlocksCardSaid : Prop := Claim7.holds Tryd.pinned (.plain (OpenSpec.ofChange blockBlocksSpec)) blockBlocksCard

/-- THE TIED CARD OF 'signalcabinlaw.BlockParts'. -/
def blockPartsCard : Claim7 := { stood := { row := blockPartsRow, standIns := [], harness := (true, "74b007192a5ef019a193b2198cfe0ab3c5143cad377b86bd9a71b39e51c426fc"), looks := true }, kinds := [], alts := [], laidByText := true, laidKinds := [.handle, .data], laidTests := true, laidLooks := .later }
def BlockPartsCardSaid : Prop := Claim7.holds Tryd.pinned (.plain (OpenSpec.ofChange blockPartsSpec)) blockPartsCard

/-- THE TIED CARD OF 'signalcabinlaw.GateSolves'. -/
def gateSolvesCard : Claim7 := { stood := { row := gateSolvesRow, standIns := [], harness := (true, "74b007192a5ef019a193b2198cfe0ab3c5143cad377b86bd9a71b39e51c426fc"), looks := true }, kinds := [], alts := [], laidByText := true, laidKinds := [.handle, .data], laidTests := true, laidLooks := .later }
def GateSolvesCardSaid : Prop := Claim7.holds Tryd.pinned (.plain (OpenSpec.ofChange gateSolvesSpec)) gateSolvesCard

/-- THE TIED CARD OF 'signalcabinkeep.BlockMoore'. -/
def blockMooreCard : Claim7 := { stood := { row := blockMooreRow, standIns := [], harness := (true, "74b007192a5ef019a193b2198cfe0ab3c5143cad377b86bd9a71b39e51c426fc"), looks := true }, kinds := [], alts := [], laidByText := true, laidKinds := [.handle], laidTests := true, laidLooks := .later }
def BlockMooreCardSaid : Prop := Claim7.holds Tryd.pinned (.plain (OpenSpec.ofChange blockMooreSpec)) blockMooreCard

/-- THE TIED CARD OF 'signalcabinkeep.LassoTurns'. -/
def lassoTurnsCard : Claim7 := { stood := { row := lassoTurnsRow, standIns := [], harness := (true, "74b007192a5ef019a193b2198cfe0ab3c5143cad377b86bd9a71b39e51c426fc"), looks := true }, kinds := [], alts := [], laidByText := true, laidKinds := [.data, .data, .pinned], laidTests := true, laidLooks := .later }
def LassoTurnsCardSaid : Prop := Claim7.holds Tryd.pinned (.plain (OpenSpec.ofChange lassoTurnsSpec)) lassoTurnsCard

/-- THE TIED CARD OF 'signalcabinkeep.LassoGrows'. -/
def lassoGrowsCard : Claim7 := { stood := { row := lassoGrowsRow, standIns := [], harness := (true, "74b007192a5ef019a193b2198cfe0ab3c5143cad377b86bd9a71b39e51c426fc"), looks := true }, kinds := [], alts := [], laidByText := true, laidKinds := [.data, .data, .pinned], laidTests := true, laidLooks := .later }
def LassoGrowsCardSaid : Prop := Claim7.holds Tryd.pinned (.plain (OpenSpec.ofChange lassoGrowsSpec)) lassoGrowsCard

/-- THE TIED CARD OF 'signalcabinlaw.LassoRights'. -/
def lassoRightsCard : Claim7 := { stood := { row := lassoRightsRow, standIns := [], harness := (true, "74b007192a5ef019a193b2198cfe0ab3c5143cad377b86bd9a71b39e51c426fc"), looks := true }, kinds := [], alts := [], laidByText := true, laidKinds := [.data, .handle, .data, .pinned], laidTests := true, laidLooks := .later }
def LassoRightsCardSaid : Prop := Claim7.holds Tryd.pinned (.plain (OpenSpec.ofChange lassoRightsSpec)) lassoRightsCard

/-- THE TIED CARD OF 'signalcabinkeep.LassoPush'. -/
def lassoPushCard : Claim7 := { stood := { row := lassoPushRow, standIns := [], harness := (true, "74b007192a5ef019a193b2198cfe0ab3c5143cad377b86bd9a71b39e51c426fc"), looks := true }, kinds := [], alts := [], laidByText := true, laidKinds := [.data, .data, .pinned], laidTests := true, laidLooks := .later }
def LassoPushCardSaid : Prop := Claim7.holds Tryd.pinned (.plain (OpenSpec.ofChange lassoPushSpec)) lassoPushCard

/-- THE TIED CARD OF 'signalcabinlaw.LassoHolds'. -/
def lassoHoldsCard : Claim7 := { stood := { row := lassoHoldsRow, standIns := [], harness := (true, "74b007192a5ef019a193b2198cfe0ab3c5143cad377b86bd9a71b39e51c426fc"), looks := true }, kinds := [], alts := [], laidByText := true, laidKinds := [.data, .handle, .data, .pinned], laidTests := true, laidLooks := .later }
def LassoHoldsCardSaid : Prop := Claim7.holds Tryd.pinned (.plain (OpenSpec.ofChange lassoHoldsSpec)) lassoHoldsCard

/-- THE TIED CARD OF 'signalcabinlaw.LassoPushes'. -/
def lassoPushesCard : Claim7 := { stood := { row := lassoPushesRow, standIns := [], harness := (true, "74b007192a5ef019a193b2198cfe0ab3c5143cad377b86bd9a71b39e51c426fc"), looks := true }, kinds := [], alts := [], laidByText := true, laidKinds := [.data, .handle, .data, .pinned], laidTests := true, laidLooks := .later }
def LassoPushesCardSaid : Prop := Claim7.holds Tryd.pinned (.plain (OpenSpec.ofChange lassoPushesSpec)) lassoPushesCard

/-- THE SECOND FORM's CARD OF 'signalcabinlaw.ExprNames'. -/
def exprNamesUptoCard : Claim7 := { stood := { row := exprNamesUptoRow, standIns := [], harness := (true, "74b007192a5ef019a193b2198cfe0ab3c5143cad377b86bd9a71b39e51c426fc"), looks := true }, kinds := [], alts := [], laidByText := true, laidKinds := [.data, .pinned], laidTests := true, laidLooks := .later }
def ExprNamesUptoCardSaid : Prop := Claim7.holds Tryd.pinned (.plain (OpenSpec.upto exprNamesSpec)) exprNamesUptoCard

/-- THE SECOND FORM's CARD OF 'signalcabinlaw.BlockBlocks'. -/
def blockBlocksUptoCard : Claim7 := { stood := { row := blockBlocksUptoRow, standIns := [], harness := (true, "74b007192a5ef019a193b2198cfe0ab3c5143cad377b86bd9a71b39e51c426fc"), looks := true }, kinds := [], alts := [], laidByText := true, laidKinds := [.handle, .data], laidTests := true, laidLooks := .later }
def BlockBlocksUptoCardSaid : Prop := Claim7.holds Tryd.pinned (.plain (OpenSpec.upto blockBlocksSpec)) blockBlocksUptoCard

/-- THE SECOND FORM's CARD OF 'signalcabinlaw.BlockParts'. -/
def blockPartsUptoCard : Claim7 := { stood := { row := blockPartsUptoRow, standIns := [], harness := (true, "74b007192a5ef019a193b2198cfe0ab3c5143cad377b86bd9a71b39e51c426fc"), looks := true }, kinds := [], alts := [], laidByText := true, laidKinds := [.handle, .data], laidTests := true, laidLooks := .later }
def BlockPartsUptoCardSaid : Prop := Claim7.holds Tryd.pinned (.plain (OpenSpec.upto blockPartsSpec)) blockPartsUptoCard

/-- THE SECOND FORM's CARD OF 'signalcabinlaw.GateSolves'. -/
def gateSolvesUptoCard : Claim7 := { stood := { row := gateSolvesUptoRow, standIns := [], harness := (true, "74b007192a5ef019a193b2198cfe0ab3c5143cad377b86bd9a71b39e51c426fc"), looks := true }, kinds := [], alts := [], laidByText := true, laidKinds := [.handle, .data], laidTests := true, laidLooks := .later }
def GateSolvesUptoCardSaid : Prop := Claim7.holds Tryd.pinned (.plain (OpenSpec.upto gateSolvesSpec)) gateSolvesUptoCard

/-- THE SECOND FORM's CARD OF 'signalcabinkeep.BlockMoore'. -/
def blockMooreUptoCard : Claim7 := { stood := { row := blockMooreUptoRow, standIns := [], harness := (true, "74b007192a5ef019a193b2198cfe0ab3c5143cad377b86bd9a71b39e51c426fc"), looks := true }, kinds := [], alts := [], laidByText := true, laidKinds := [.handle], laidTests := true, laidLooks := .later }
def BlockMooreUptoCardSaid : Prop := Claim7.holds Tryd.pinned (.plain (OpenSpec.upto blockMooreSpec)) blockMooreUptoCard

/-- THE SECOND FORM's CARD OF 'signalcabinkeep.LassoTurns'. -/
def lassoTurnsUptoCard : Claim7 := { stood := { row := lassoTurnsUptoRow, standIns := [], harness := (true, "74b007192a5ef019a193b2198cfe0ab3c5143cad377b86bd9a71b39e51c426fc"), looks := true }, kinds := [], alts := [], laidByText := true, laidKinds := [.data, .data, .pinned], laidTests := true, laidLooks := .later }
def LassoTurnsUptoCardSaid : Prop := Claim7.holds Tryd.pinned (.plain (OpenSpec.upto lassoTurnsSpec)) lassoTurnsUptoCard

/-- THE SECOND FORM's CARD OF 'signalcabinkeep.LassoGrows'. -/
def lassoGrowsUptoCard : Claim7 := { stood := { row := lassoGrowsUptoRow, standIns := [], harness := (true, "74b007192a5ef019a193b2198cfe0ab3c5143cad377b86bd9a71b39e51c426fc"), looks := true }, kinds := [], alts := [], laidByText := true, laidKinds := [.data, .data, .pinned], laidTests := true, laidLooks := .later }
def LassoGrowsUptoCardSaid : Prop := Claim7.holds Tryd.pinned (.plain (OpenSpec.upto lassoGrowsSpec)) lassoGrowsUptoCard

/-- THE SECOND FORM's CARD OF 'signalcabinlaw.LassoRights'. -/
def lassoRightsUptoCard : Claim7 := { stood := { row := lassoRightsUptoRow, standIns := [], harness := (true, "74b007192a5ef019a193b2198cfe0ab3c5143cad377b86bd9a71b39e51c426fc"), looks := true }, kinds := [], alts := [], laidByText := true, laidKinds := [.data, .handle, .data, .pinned], laidTests := true, laidLooks := .later }
def LassoRightsUptoCardSaid : Prop := Claim7.holds Tryd.pinned (.plain (OpenSpec.upto lassoRightsSpec)) lassoRightsUptoCard

/-- THE SECOND FORM's CARD OF 'signalcabinkeep.LassoPush'. -/
def lassoPushUptoCard : Claim7 := { stood := { row := lassoPushUptoRow, standIns := [], harness := (true, "74b007192a5ef019a193b2198cfe0ab3c5143cad377b86bd9a71b39e51c426fc"), looks := true }, kinds := [], alts := [], laidByText := true, laidKinds := [.data, .data, .pinned], laidTests := true, laidLooks := .later }
def LassoPushUptoCardSaid : Prop := Claim7.holds Tryd.pinned (.plain (OpenSpec.upto lassoPushSpec)) lassoPushUptoCard

/-- THE SECOND FORM's CARD OF 'signalcabinlaw.LassoHolds'. -/
def lassoHoldsUptoCard : Claim7 := { stood := { row := lassoHoldsUptoRow, standIns := [], harness := (true, "74b007192a5ef019a193b2198cfe0ab3c5143cad377b86bd9a71b39e51c426fc"), looks := true }, kinds := [], alts := [], laidByText := true, laidKinds := [.data, .handle, .data, .pinned], laidTests := true, laidLooks := .later }
def LassoHoldsUptoCardSaid : Prop := Claim7.holds Tryd.pinned (.plain (OpenSpec.upto lassoHoldsSpec)) lassoHoldsUptoCard

/-- THE SECOND FORM's CARD OF 'signalcabinlaw.LassoPushes'. -/
def lassoPushesUptoCard : Claim7 := { stood := { row := lassoPushesUptoRow, standIns := [], harness := (true, "74b007192a5ef019a193b2198cfe0ab3c5143cad377b86bd9a71b39e51c426fc"), looks := true }, kinds := [], alts := [], laidByText := true, laidKinds := [.data, .handle, .data, .pinned], laidTests := true, laidLooks := .later }
def LassoPushesUptoCardSaid : Prop := Claim7.holds Tryd.pinned (.plain (OpenSpec.upto lassoPushesSpec)) lassoPushesUptoCard
end Rows
end Go.Proofs.YtoikggboakojlaaDoor
