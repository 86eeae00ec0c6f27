/-
  DERIVED. GIVEN WITH THE SEED: THE CARDS: each row of YtaeadfaldglniaaDoorRows.lean that lists a variable, with what it lists TIED to the program's text (the seventh form; the later family's looks); each row that meets fmt, with fmt's text TOLD by the authors' own Lean function (tested against real Go, not proved from fmt's source: count such statements apart). THE CARD IS WHAT COUNTS. Prove the row's statement (the work); the ties are given (YtaeadfaldglniaaDoorTie.lean); close each card by the builder's one call (the guide's Derived/Test/ToyasCard.lean, 'card_holds'). Laid BY PROGRAM, IN A SANDBOX (cutbox-door.mjs). By AI agents, Wed Nov 11 2026. No macro, syntax, notation, axiom, sorry.
-/
import Derived.Test.YtaeadfaldglniaaDoorRows
import GoSem.ClaimSeven
namespace Go.Proofs.YtaeadfaldglniaaDoor
namespace Rows

/-- THE TIED CARD OF 'laws.FnExactShare'. -/
def fnExactShareCard : Claim7 := { stood := { row := fnExactShareRow, standIns := [], harness := (true, "bc7248713b77e7e780d83bc0e8ecc18c014ae6482646bb8fa35bbc4e4b0800bc"), looks := false }, kinds := [], alts := [], laidByText := true, laidKinds := [.data, .data, .data], laidTests := true, laidLooks := .later }
def FnExactShareCardSaid : Prop := Claim7.holds Tryd.pinned (.plain (OpenSpec.ofChange fnExactShareSpec)) fnExactShareCard

/-- THE SECOND FORM's CARD OF 'laws.FnExactShare'. -/
def fnExactShareUptoCard : Claim7 := { stood := { row := fnExactShareUptoRow, standIns := [], harness := (true, "bc7248713b77e7e780d83bc0e8ecc18c014ae6482646bb8fa35bbc4e4b0800bc"), looks := false }, kinds := [], alts := [], laidByText := true, laidKinds := [.data, .data, .data], laidTests := true, laidLooks := .later }
def FnExactShareUptoCardSaid : Prop := Claim7.holds Tryd.pinned (.plain (OpenSpec.upto fnExactShareSpec)) fnExactShareUptoCard
end Rows
end Go.Proofs.YtaeadfaldglniaaDoor
