/-
  DERIVED. GIVEN WITH THE SEED: THE CARDS: each row of YtligefedbeibiaaDoorRows.lean that lists a variable, with what it lists TIED to the program's text (the seventh form; the later family's looks); each row that meets fmt, with fmt's text TOLD by the authors' own Lean function (tested against real Go, not proved from fmt's source: count such statements apart). THE CARD IS WHAT COUNTS. Prove the row's statement (the work); the ties are given (YtligefedbeibiaaDoorTie.lean); close each card by the builder's one call (the guide's Derived/Test/ToyasCard.lean, 'card_holds'). Laid BY PROGRAM, IN A SANDBOX (cutbox-door.mjs). By AI agents, Wed Nov 11 2026. No macro, syntax, notation, axiom, sorry.
-/
import Derived.Test.YtligefedbeibiaaDoorRows
import GoSem.ClaimSeven
namespace Go.Proofs.YtligefedbeibiaaDoor
namespace Rows

/-- THE TIED CARD OF 'laws.FnExactWriteTerm'. -/
def fnExactWriteTermCard : Claim7 := { stood := { row := fnExactWriteTermRow, standIns := [], harness := (true, "35152df66fe49e80a33bdaa52fe11ff6a27db24d0828168a5d19629557683f7a"), looks := false }, kinds := [], alts := [], laidByText := true, laidKinds := [.data, .data, .data], laidTests := true, laidLooks := .later }
def FnExactWriteTermCardSaid : Prop := Claim7.holds Tryd.pinned (.plain (OpenSpec.ofChange fnExactWriteTermSpec)) fnExactWriteTermCard

/-- THE SECOND FORM's CARD OF 'laws.FnExactWriteTerm'. -/
def fnExactWriteTermUptoCard : Claim7 := { stood := { row := fnExactWriteTermUptoRow, standIns := [], harness := (true, "35152df66fe49e80a33bdaa52fe11ff6a27db24d0828168a5d19629557683f7a"), looks := false }, kinds := [], alts := [], laidByText := true, laidKinds := [.data, .data, .data], laidTests := true, laidLooks := .later }
def FnExactWriteTermUptoCardSaid : Prop := Claim7.holds Tryd.pinned (.plain (OpenSpec.upto fnExactWriteTermSpec)) fnExactWriteTermUptoCard
end Rows
end Go.Proofs.YtligefedbeibiaaDoor
