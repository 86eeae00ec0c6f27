/-
  No cell of these rows narrows 'for every input' (looked for: loops, veiled, ifaces, maps, wideKeys, modest, calm, conditions, laid).
  DERIVED. THE GIVEN ROWS OF THIS SEAT. 5 by the template 'for every input the law returns true; each argument reads behind the call as it read before'; 0 by the template 'total and deterministic' (their statements: YtmpbobopdjbopaaTotals.lean).
  GIVEN WITH THE SEED: the statements are not yours to turn. If you find one false, say at which input.
  Laid BY PROGRAM, IN A SANDBOX (cutbox-rows.mjs): the forced cells as the released guide's own fill.sh prints them over the translation 7c423535d4ca2892… (all of the seat's roots in one cut). By AI agents, Wed Nov 11 2026. No macro, syntax, notation, axiom, sorry.
-/
import Derived.Test.YtmpbobopdjbopaaChecked
import GoSem.Claim
import GoSem.ClaimJoined
import GoSem.ClaimMapViews
import Derived.JoinedTies
import Derived.KernelRfl
namespace Go.Proofs.Ytmpbobopdjbopaa
/- THE CELL 'sum', in the pinned program and in every row, IS THE sha256 OF THE DUMP (.gsa) THAT YtmpbobopdjbopaaProg.lean LOADS. Nothing in Lean hashes anything: it is a label: what it is worth is what the hold of that sum in a sandbox is worth. -/
noncomputable def Try.pinned : Pinned := { name := "ytmpbobopdjbopaa", sum := "7c423535d4ca28929529054877b4fff8f2b7a272d2f9b505efb771dccabd4d9e", checked := Try.checked }
namespace Rows
def none {H : Type} : Left H := { results := [], args := [] }

/-- 'laws.FnExactAllOf': WHATEVER THE INPUT: true; the input reads as it did. -/
def fnExactAllOfSpec : ChangeSpec := { name := "fnExactAllOf", fn := fun _ => fun
  | [d] => { results := [.lit (.bool true)], args := [d] }
  | _ => none }
def fnExactAllOfRow : OpenClaim := { program := "ytmpbobopdjbopaa", sum := "7c423535d4ca28929529054877b4fff8f2b7a272d2f9b505efb771dccabd4d9e", func := "loop.example/g00081/laws.FnExactAllOf", spec := "fnExactAllOf", unfollowed := true, recurses := true, apart := false }
def FnExactAllOfSaid : Prop := fnExactAllOfRow.holds Try.pinned (OpenSpec.ofChange fnExactAllOfSpec)

/-- ITS FALSE NEIGHBOUR: 'it returns false'. Refute it at one input. -/
def fnExactAllOfWrong : ChangeSpec := { name := "fnExactAllOf", fn := fun _ => fun
  | [d] => { results := [.lit (.bool false)], args := [d] }
  | _ => none }
def FnExactAllOfWrongFalsely : Prop := fnExactAllOfRow.holds Try.pinned (OpenSpec.ofChange fnExactAllOfWrong)

/-- 'laws.FnExactSaveSession': WHATEVER THE INPUT: true; the input reads as it did. -/
def fnExactSaveSessionSpec : ChangeSpec := { name := "fnExactSaveSession", fn := fun _ => fun
  | [d] => { results := [.lit (.bool true)], args := [d] }
  | _ => none }
def fnExactSaveSessionRow : OpenClaim := { program := "ytmpbobopdjbopaa", sum := "7c423535d4ca28929529054877b4fff8f2b7a272d2f9b505efb771dccabd4d9e", func := "loop.example/g00081/laws.FnExactSaveSession", spec := "fnExactSaveSession", unfollowed := true, recurses := true, apart := false }
def FnExactSaveSessionSaid : Prop := fnExactSaveSessionRow.holds Try.pinned (OpenSpec.ofChange fnExactSaveSessionSpec)

/-- ITS FALSE NEIGHBOUR: 'it returns false'. Refute it at one input. -/
def fnExactSaveSessionWrong : ChangeSpec := { name := "fnExactSaveSession", fn := fun _ => fun
  | [d] => { results := [.lit (.bool false)], args := [d] }
  | _ => none }
def FnExactSaveSessionWrongFalsely : Prop := fnExactSaveSessionRow.holds Try.pinned (OpenSpec.ofChange fnExactSaveSessionWrong)

/-- 'laws.FnExactStraight': WHATEVER THE INPUT: true; the input reads as it did. -/
def fnExactStraightSpec : ChangeSpec := { name := "fnExactStraight", fn := fun _ => fun
  | [d1, d2] => { results := [.lit (.bool true)], args := [d1, d2] }
  | _ => none }
def fnExactStraightRow : OpenClaim := { program := "ytmpbobopdjbopaa", sum := "7c423535d4ca28929529054877b4fff8f2b7a272d2f9b505efb771dccabd4d9e", func := "loop.example/g00081/laws.FnExactStraight", spec := "fnExactStraight", unfollowed := true, recurses := true, apart := false }
def FnExactStraightSaid : Prop := fnExactStraightRow.holds Try.pinned (OpenSpec.ofChange fnExactStraightSpec)

/-- ITS FALSE NEIGHBOUR: 'it returns false'. Refute it at one input. -/
def fnExactStraightWrong : ChangeSpec := { name := "fnExactStraight", fn := fun _ => fun
  | [d1, d2] => { results := [.lit (.bool false)], args := [d1, d2] }
  | _ => none }
def FnExactStraightWrongFalsely : Prop := fnExactStraightRow.holds Try.pinned (OpenSpec.ofChange fnExactStraightWrong)

/-- 'laws.FnNumbered': WHATEVER THE INPUT: true; the input reads as it did. -/
def fnNumberedSpec : ChangeSpec := { name := "fnNumbered", fn := fun _ => fun
  | [d] => { results := [.lit (.bool true)], args := [d] }
  | _ => none }
def fnNumberedRow : OpenClaim := { program := "ytmpbobopdjbopaa", sum := "7c423535d4ca28929529054877b4fff8f2b7a272d2f9b505efb771dccabd4d9e", func := "loop.example/g00081/laws.FnNumbered", spec := "fnNumbered", unfollowed := true, recurses := true, apart := false }
def FnNumberedSaid : Prop := fnNumberedRow.holds Try.pinned (OpenSpec.ofChange fnNumberedSpec)

/-- ITS FALSE NEIGHBOUR: 'it returns false'. Refute it at one input. -/
def fnNumberedWrong : ChangeSpec := { name := "fnNumbered", fn := fun _ => fun
  | [d] => { results := [.lit (.bool false)], args := [d] }
  | _ => none }
def FnNumberedWrongFalsely : Prop := fnNumberedRow.holds Try.pinned (OpenSpec.ofChange fnNumberedWrong)

/-- 'laws.FnExactLoadSession': WHATEVER THE INPUT: true; the input reads as it did. -/
def fnExactLoadSessionSpec : ChangeSpec := { name := "fnExactLoadSession", fn := fun _ => fun
  | [d] => { results := [.lit (.bool true)], args := [d] }
  | _ => none }
def fnExactLoadSessionRow : OpenClaim := { program := "ytmpbobopdjbopaa", sum := "7c423535d4ca28929529054877b4fff8f2b7a272d2f9b505efb771dccabd4d9e", func := "loop.example/g00081/laws.FnExactLoadSession", spec := "fnExactLoadSession", unfollowed := true, recurses := true, apart := false }
def FnExactLoadSessionSaid : Prop := fnExactLoadSessionRow.holds Try.pinned (OpenSpec.ofChange fnExactLoadSessionSpec)

/-- ITS FALSE NEIGHBOUR: 'it returns false'. Refute it at one input. -/
def fnExactLoadSessionWrong : ChangeSpec := { name := "fnExactLoadSession", fn := fun _ => fun
  | [d] => { results := [.lit (.bool false)], args := [d] }
  | _ => none }
def FnExactLoadSessionWrongFalsely : Prop := fnExactLoadSessionRow.holds Try.pinned (OpenSpec.ofChange fnExactLoadSessionWrong)

/- THE SECOND FORM. 'bulk': how many values and letters a reading holds, each counted each time it is reached (what is shared counts as often as it is met; a slice's spare places count too). A statement '..UptoSaid' is the law's where the arguments, and the package variables that the reading takes, are together of bulk at most 1048576: NARROWER than '..Said'. Prove '..Said' where nothing that the law and all that it calls make is longer than what came in: it says more and counts as full. Else prove '..UptoSaid'. A law counts once. -/
mutual
def uptoBulk {H : Type} : DataW H → Nat
  | .lit (.string bytes) => bytes.length + 1
  | .lit _ => 1
  | .nil => 1
  | .ptr d => uptoBulk d + 1
  | .slice elems spare => uptoBulkAll elems + uptoBulkAll spare + 1
  | .agg parts => uptoBulkAll parts + 1
  | .iface _ d => uptoBulk d + 1
  | .map entries => uptoBulkEntries entries + 1
  | .held _ => 1
def uptoBulkAll {H : Type} : List (DataW H) → Nat
  | [] => 0
  | d :: r => uptoBulk d + uptoBulkAll r
def uptoBulkEntries {H : Type} : List (Lit × DataW H) → Nat
  | [] => 0
  | x :: r => uptoBulkEntry x + uptoBulkEntries r
def uptoBulkEntry {H : Type} : Lit × DataW H → Nat
  | (.string bytes, d) => bytes.length + uptoBulk d + 1
  | (_, d) => uptoBulk d + 1
 end
def uptoSmall : (H : Type) → List (DataW H) → Bool := fun _ ds => decide (uptoBulkAll ds ≤ 1048576)
def OpenSpec.upto (s : _root_.Go.ChangeSpec) : _root_.Go.OpenSpec := { _root_.Go.OpenSpec.ofChange s with cond := some uptoSmall }

/-- 'laws.FnExactAllOf', WHERE WHAT IT READS IS OF BULK AT MOST 1048576: true; the input reads as it did. -/
def fnExactAllOfUptoRow : OpenClaim := { program := "ytmpbobopdjbopaa", sum := "7c423535d4ca28929529054877b4fff8f2b7a272d2f9b505efb771dccabd4d9e", func := "loop.example/g00081/laws.FnExactAllOf", spec := "fnExactAllOf", unfollowed := true, recurses := true, apart := false, narrowed := true }
def FnExactAllOfUptoSaid : Prop := fnExactAllOfUptoRow.holds Try.pinned (OpenSpec.upto fnExactAllOfSpec)

/-- 'laws.FnExactSaveSession', WHERE WHAT IT READS IS OF BULK AT MOST 1048576: true; the input reads as it did. -/
def fnExactSaveSessionUptoRow : OpenClaim := { program := "ytmpbobopdjbopaa", sum := "7c423535d4ca28929529054877b4fff8f2b7a272d2f9b505efb771dccabd4d9e", func := "loop.example/g00081/laws.FnExactSaveSession", spec := "fnExactSaveSession", unfollowed := true, recurses := true, apart := false, narrowed := true }
def FnExactSaveSessionUptoSaid : Prop := fnExactSaveSessionUptoRow.holds Try.pinned (OpenSpec.upto fnExactSaveSessionSpec)

/-- 'laws.FnExactStraight', WHERE WHAT IT READS IS OF BULK AT MOST 1048576: true; the input reads as it did. -/
def fnExactStraightUptoRow : OpenClaim := { program := "ytmpbobopdjbopaa", sum := "7c423535d4ca28929529054877b4fff8f2b7a272d2f9b505efb771dccabd4d9e", func := "loop.example/g00081/laws.FnExactStraight", spec := "fnExactStraight", unfollowed := true, recurses := true, apart := false, narrowed := true }
def FnExactStraightUptoSaid : Prop := fnExactStraightUptoRow.holds Try.pinned (OpenSpec.upto fnExactStraightSpec)

/-- 'laws.FnNumbered', WHERE WHAT IT READS IS OF BULK AT MOST 1048576: true; the input reads as it did. -/
def fnNumberedUptoRow : OpenClaim := { program := "ytmpbobopdjbopaa", sum := "7c423535d4ca28929529054877b4fff8f2b7a272d2f9b505efb771dccabd4d9e", func := "loop.example/g00081/laws.FnNumbered", spec := "fnNumbered", unfollowed := true, recurses := true, apart := false, narrowed := true }
def FnNumberedUptoSaid : Prop := fnNumberedUptoRow.holds Try.pinned (OpenSpec.upto fnNumberedSpec)

/-- 'laws.FnExactLoadSession', WHERE WHAT IT READS IS OF BULK AT MOST 1048576: true; the input reads as it did. -/
def fnExactLoadSessionUptoRow : OpenClaim := { program := "ytmpbobopdjbopaa", sum := "7c423535d4ca28929529054877b4fff8f2b7a272d2f9b505efb771dccabd4d9e", func := "loop.example/g00081/laws.FnExactLoadSession", spec := "fnExactLoadSession", unfollowed := true, recurses := true, apart := false, narrowed := true }
def FnExactLoadSessionUptoSaid : Prop := fnExactLoadSessionUptoRow.holds Try.pinned (OpenSpec.upto fnExactLoadSessionSpec)

end Rows
end Go.Proofs.Ytmpbobopdjbopaa
