/-
  DERIVED. GIVEN WITH THE SEED: THE CARDS: each row of YtaeadfaldglniaaGreatDoorRows.lean that lists a variable, with what it lists TIED to the program's text (the seventh form; the later family's looks); each row that meets fmt, with fmt's text TOLD by the authors' own Lean function (tested against real Go, not proved from fmt's source: count such statements apart). THE CARD IS WHAT COUNTS. Prove the row's statement (the work); the ties are given (YtaeadfaldglniaaGreatDoorTie.lean); close each card by the builder's one call (the guide's Derived/Test/ToyasCard.lean, 'card_holds'). Laid BY PROGRAM, IN A SANDBOX (cutbox-door.mjs). By AI agents, Wed Nov 11 2026. No macro, syntax, notation, axiom, sorry.
-/
import Derived.Test.YtaeadfaldglniaaGreatDoorRows
import GoSem.ClaimSeven
namespace Go.Proofs.YtaeadfaldglniaaGreatDoor
namespace Rows

/-- THE TIED CARD OF 'laws.FnUnflat'. -/
def fnUnflatCard : Claim7 := { stood := { row := fnUnflatRow, standIns := [], harness := (true, "6430b199564d49d90d26e578e51111f34b43d5a714ff9c77a73650662fc00fe6"), looks := true }, kinds := [], alts := [], laidByText := true, laidKinds := [.data, .data, .data], laidTests := true, laidLooks := .later }
def FnUnflatCardSaid : Prop := Claim7.holds Tryz.pinned (.plain (OpenSpec.ofChange fnUnflatSpec)) fnUnflatCard

/-- THE TIED CARD OF 'laws.FnExactNormal'. -/
def fnExactNormalCard : Claim7 := { stood := { row := fnExactNormalRow, standIns := [], harness := (true, "6430b199564d49d90d26e578e51111f34b43d5a714ff9c77a73650662fc00fe6"), looks := true }, kinds := [], alts := [], laidByText := true, laidKinds := [.data, .data, .data], laidTests := true, laidLooks := .later }
def FnExactNormalCardSaid : Prop := Claim7.holds Tryz.pinned (.plain (OpenSpec.ofChange fnExactNormalSpec)) fnExactNormalCard

/-- THE TIED CARD OF 'laws.FnExactReadTerm'. -/
def fnExactReadTermCard : Claim7 := { stood := { row := fnExactReadTermRow, standIns := [], harness := (true, "6430b199564d49d90d26e578e51111f34b43d5a714ff9c77a73650662fc00fe6"), looks := true }, kinds := [], alts := [], laidByText := true, laidKinds := [.data, .data, .data, .sentinel, .sentinel], laidTests := true, laidLooks := .later }
def FnExactReadTermCardSaid : Prop := Claim7.holds Tryz.pinned (.plain (OpenSpec.ofChange fnExactReadTermSpec)) fnExactReadTermCard

/-- THE TIED CARD OF 'laws.FnExactReplace'. -/
def fnExactReplaceCard : Claim7 := { stood := { row := fnExactReplaceRow, standIns := [], harness := (true, "6430b199564d49d90d26e578e51111f34b43d5a714ff9c77a73650662fc00fe6"), looks := true }, kinds := [], alts := [], laidByText := true, laidKinds := [.data, .data, .data], laidTests := true, laidLooks := .later }
def FnExactReplaceCardSaid : Prop := Claim7.holds Tryz.pinned (.plain (OpenSpec.ofChange fnExactReplaceSpec)) fnExactReplaceCard

/-- THE SECOND FORM's CARD OF 'laws.FnUnflat'. -/
def fnUnflatUptoCard : Claim7 := { stood := { row := fnUnflatUptoRow, standIns := [], harness := (true, "6430b199564d49d90d26e578e51111f34b43d5a714ff9c77a73650662fc00fe6"), looks := true }, kinds := [], alts := [], laidByText := true, laidKinds := [.data, .data, .data], laidTests := true, laidLooks := .later }
def FnUnflatUptoCardSaid : Prop := Claim7.holds Tryz.pinned (.plain (OpenSpec.upto fnUnflatSpec)) fnUnflatUptoCard

/-- THE SECOND FORM's CARD OF 'laws.FnExactNormal'. -/
def fnExactNormalUptoCard : Claim7 := { stood := { row := fnExactNormalUptoRow, standIns := [], harness := (true, "6430b199564d49d90d26e578e51111f34b43d5a714ff9c77a73650662fc00fe6"), looks := true }, kinds := [], alts := [], laidByText := true, laidKinds := [.data, .data, .data], laidTests := true, laidLooks := .later }
def FnExactNormalUptoCardSaid : Prop := Claim7.holds Tryz.pinned (.plain (OpenSpec.upto fnExactNormalSpec)) fnExactNormalUptoCard

/-- THE SECOND FORM's CARD OF 'laws.FnExactReadTerm'. -/
def fnExactReadTermUptoCard : Claim7 := { stood := { row := fnExactReadTermUptoRow, standIns := [], harness := (true, "6430b199564d49d90d26e578e51111f34b43d5a714ff9c77a73650662fc00fe6"), looks := true }, kinds := [], alts := [], laidByText := true, laidKinds := [.data, .data, .data, .sentinel, .sentinel], laidTests := true, laidLooks := .later }
def FnExactReadTermUptoCardSaid : Prop := Claim7.holds Tryz.pinned (.plain (OpenSpec.upto fnExactReadTermSpec)) fnExactReadTermUptoCard

/-- THE SECOND FORM's CARD OF 'laws.FnExactReplace'. -/
def fnExactReplaceUptoCard : Claim7 := { stood := { row := fnExactReplaceUptoRow, standIns := [], harness := (true, "6430b199564d49d90d26e578e51111f34b43d5a714ff9c77a73650662fc00fe6"), looks := true }, kinds := [], alts := [], laidByText := true, laidKinds := [.data, .data, .data], laidTests := true, laidLooks := .later }
def FnExactReplaceUptoCardSaid : Prop := Claim7.holds Tryz.pinned (.plain (OpenSpec.upto fnExactReplaceSpec)) fnExactReplaceUptoCard
end Rows
end Go.Proofs.YtaeadfaldglniaaGreatDoor
