/-
  DERIVED. GIVEN WITH THE SEED: THE CARDS: each row of YtfehigldhedkgaaDoorRows.lean that lists a variable, with what it lists TIED to the program's text (the seventh form; the later family's looks); each row that meets fmt, with fmt's text TOLD by the authors' own Lean function (tested against real Go, not proved from fmt's source: count such statements apart). THE CARD IS WHAT COUNTS. Prove the row's statement (the work); the ties are given (YtfehigldhedkgaaDoorTie.lean); close each card by the builder's one call (the guide's Derived/Test/ToyasCard.lean, 'card_holds'). Laid BY PROGRAM, IN A SANDBOX (cutbox-door.mjs). By AI agents, Wed Nov 11 2026. No macro, syntax, notation, axiom, sorry.
-/
import Derived.Test.YtfehigldhedkgaaDoorRows
import GoSem.ClaimSeven
namespace Go.Proofs.YtfehigldhedkgaaDoor
namespace Rows

/-- THE TIED CARD OF 'signalcabinlaw.RouteTells'. -/
def routeTellsCard : Claim7 := { stood := { row := routeTellsRow, standIns := [], harness := (true, "6dad70959895086cae1682b98b99bf2dc0d66cdd07cb95aee0b53f4c65e38b17"), looks := true }, kinds := [], alts := [], laidByText := true, laidKinds := [.data, .data, .data, .handle, .data], laidTests := true, laidLooks := .later }
def RouteTellsCardSaid : Prop := Claim7.holds Tryd.pinned (.plain (OpenSpec.ofChange routeTellsSpec)) routeTellsCard

/-- THE TIED CARD OF 'signalcabinkeep.ExprBack'. -/
def exprBackCard : Claim7 := { stood := { row := exprBackRow, standIns := [], harness := (true, "6dad70959895086cae1682b98b99bf2dc0d66cdd07cb95aee0b53f4c65e38b17"), looks := true }, kinds := [], alts := [], laidByText := true, laidKinds := [.data, .pinned], laidTests := true, laidLooks := .later }
def ExprBackCardSaid : Prop := Claim7.holds Tryd.pinned (.plain (OpenSpec.ofChange exprBackSpec)) exprBackCard

/-- THE TIED CARD OF 'signalcabinlaw.ExprTidies'. -/
def exprTidiesCard : Claim7 := { stood := { row := exprTidiesRow, standIns := [], harness := (true, "6dad70959895086cae1682b98b99bf2dc0d66cdd07cb95aee0b53f4c65e38b17"), looks := true }, kinds := [], alts := [], laidByText := true, laidKinds := [.data, .data, .pinned], laidTests := true, laidLooks := .later }
def ExprTidiesCardSaid : Prop := Claim7.holds Tryd.pinned (.plain (OpenSpec.ofChange exprTidiesSpec)) exprTidiesCard

/-- THE TIED CARD OF 'signalcabinkeep.ExprTidy'. -/
def exprTidyCard : Claim7 := { stood := { row := exprTidyRow, standIns := [], harness := (true, "6dad70959895086cae1682b98b99bf2dc0d66cdd07cb95aee0b53f4c65e38b17"), looks := true }, kinds := [], alts := [], laidByText := true, laidKinds := [.data, .pinned], laidTests := true, laidLooks := .later }
def ExprTidyCardSaid : Prop := Claim7.holds Tryd.pinned (.plain (OpenSpec.ofChange exprTidySpec)) exprTidyCard

/-- THE TIED CARD OF 'signalcabinlaw.ExprParses'. -/
def exprParsesCard : Claim7 := { stood := { row := exprParsesRow, standIns := [], harness := (true, "6dad70959895086cae1682b98b99bf2dc0d66cdd07cb95aee0b53f4c65e38b17"), looks := true }, kinds := [], alts := [], laidByText := true, laidKinds := [.data, .handle, .data, .pinned], laidTests := true, laidLooks := .later }
def ExprParsesCardSaid : Prop := Claim7.holds Tryd.pinned (.plain (OpenSpec.ofChange exprParsesSpec)) exprParsesCard

/-- THE TIED CARD OF 'signalcabinkeep.ExprHangs'. -/
def exprHangsCard : Claim7 := { stood := { row := exprHangsRow, standIns := [], harness := (true, "6dad70959895086cae1682b98b99bf2dc0d66cdd07cb95aee0b53f4c65e38b17"), looks := true }, kinds := [], alts := [], laidByText := true, laidKinds := [.data, .pinned], laidTests := true, laidLooks := .later }
def ExprHangsCardSaid : Prop := Claim7.holds Tryd.pinned (.plain (OpenSpec.ofChange exprHangsSpec)) exprHangsCard

/-- THE SECOND FORM's CARD OF 'signalcabinlaw.RouteTells'. -/
def routeTellsUptoCard : Claim7 := { stood := { row := routeTellsUptoRow, standIns := [], harness := (true, "6dad70959895086cae1682b98b99bf2dc0d66cdd07cb95aee0b53f4c65e38b17"), looks := true }, kinds := [], alts := [], laidByText := true, laidKinds := [.data, .data, .data, .handle, .data], laidTests := true, laidLooks := .later }
def RouteTellsUptoCardSaid : Prop := Claim7.holds Tryd.pinned (.plain (OpenSpec.upto routeTellsSpec)) routeTellsUptoCard

/-- THE SECOND FORM's CARD OF 'signalcabinkeep.ExprBack'. -/
def exprBackUptoCard : Claim7 := { stood := { row := exprBackUptoRow, standIns := [], harness := (true, "6dad70959895086cae1682b98b99bf2dc0d66cdd07cb95aee0b53f4c65e38b17"), looks := true }, kinds := [], alts := [], laidByText := true, laidKinds := [.data, .pinned], laidTests := true, laidLooks := .later }
def ExprBackUptoCardSaid : Prop := Claim7.holds Tryd.pinned (.plain (OpenSpec.upto exprBackSpec)) exprBackUptoCard

/-- THE SECOND FORM's CARD OF 'signalcabinlaw.ExprTidies'. -/
def exprTidiesUptoCard : Claim7 := { stood := { row := exprTidiesUptoRow, standIns := [], harness := (true, "6dad70959895086cae1682b98b99bf2dc0d66cdd07cb95aee0b53f4c65e38b17"), looks := true }, kinds := [], alts := [], laidByText := true, laidKinds := [.data, .data, .pinned], laidTests := true, laidLooks := .later }
def ExprTidiesUptoCardSaid : Prop := Claim7.holds Tryd.pinned (.plain (OpenSpec.upto exprTidiesSpec)) exprTidiesUptoCard

/-- THE SECOND FORM's CARD OF 'signalcabinkeep.ExprTidy'. -/
def exprTidyUptoCard : Claim7 := { stood := { row := exprTidyUptoRow, standIns := [], harness := (true, "6dad70959895086cae1682b98b99bf2dc0d66cdd07cb95aee0b53f4c65e38b17"), looks := true }, kinds := [], alts := [], laidByText := true, laidKinds := [.data, .pinned], laidTests := true, laidLooks := .later }
def ExprTidyUptoCardSaid : Prop := Claim7.holds Tryd.pinned (.plain (OpenSpec.upto exprTidySpec)) exprTidyUptoCard

/-- THE SECOND FORM's CARD OF 'signalcabinlaw.ExprParses'. -/
def exprParsesUptoCard : Claim7 := { stood := { row := exprParsesUptoRow, standIns := [], harness := (true, "6dad70959895086cae1682b98b99bf2dc0d66cdd07cb95aee0b53f4c65e38b17"), looks := true }, kinds := [], alts := [], laidByText := true, laidKinds := [.data, .handle, .data, .pinned], laidTests := true, laidLooks := .later }
def ExprParsesUptoCardSaid : Prop := Claim7.holds Tryd.pinned (.plain (OpenSpec.upto exprParsesSpec)) exprParsesUptoCard

/-- THE SECOND FORM's CARD OF 'signalcabinkeep.ExprHangs'. -/
def exprHangsUptoCard : Claim7 := { stood := { row := exprHangsUptoRow, standIns := [], harness := (true, "6dad70959895086cae1682b98b99bf2dc0d66cdd07cb95aee0b53f4c65e38b17"), looks := true }, kinds := [], alts := [], laidByText := true, laidKinds := [.data, .pinned], laidTests := true, laidLooks := .later }
def ExprHangsUptoCardSaid : Prop := Claim7.holds Tryd.pinned (.plain (OpenSpec.upto exprHangsSpec)) exprHangsUptoCard
end Rows
end Go.Proofs.YtfehigldhedkgaaDoor
