/-
  No cell of these rows narrows 'for every input' (looked for: loops, veiled, ifaces, maps, wideKeys, modest, calm, conditions, laid).
  DERIVED. THE GIVEN ROWS OF THIS SEAT. 4 by the template 'for every input the law returns true; each argument reads behind the call as it read before'; 0 by the template 'total and deterministic' (their statements: YtbpgfmandlhnaaaTotals.lean).
  GIVEN WITH THE SEED: the statements are not yours to turn. If you find one false, say at which input.
  Laid BY PROGRAM, IN A SANDBOX (cutbox-rows.mjs): the forced cells as the released guide's own fill.sh prints them over the translation d70fa046a58f7a67… (all of the seat's roots in one cut). By AI agents, Wed Nov 11 2026. No macro, syntax, notation, axiom, sorry.
-/
import Derived.Test.YtbpgfmandlhnaaaChecked
import GoSem.Claim
import GoSem.ClaimJoined
import GoSem.ClaimMapViews
import Derived.JoinedTies
import Derived.KernelRfl
namespace Go.Proofs.Ytbpgfmandlhnaaa
/- THE CELL 'sum', in the pinned program and in every row, IS THE sha256 OF THE DUMP (.gsa) THAT YtbpgfmandlhnaaaProg.lean LOADS. Nothing in Lean hashes anything: it is a label: what it is worth is what the hold of that sum in a sandbox is worth. -/
noncomputable def Try.pinned : Pinned := { name := "ytbpgfmandlhnaaa", sum := "d70fa046a58f7a67d572a67126b260d67d208bf362f693455dc2dbd9fa5c2c97", checked := Try.checked }
namespace Rows
def none {H : Type} : Left H := { results := [], args := [] }

/-- 'laws.FnOpposite': WHATEVER THE INPUT: true; the input reads as it did. -/
def fnOppositeSpec : ChangeSpec := { name := "fnOpposite", fn := fun _ => fun
  | [d] => { results := [.lit (.bool true)], args := [d] }
  | _ => none }
def fnOppositeRow : OpenClaim := { program := "ytbpgfmandlhnaaa", sum := "d70fa046a58f7a67d572a67126b260d67d208bf362f693455dc2dbd9fa5c2c97", func := "loop.example/g00081/laws.FnOpposite", spec := "fnOpposite", unfollowed := true, recurses := true, apart := false }
def FnOppositeSaid : Prop := fnOppositeRow.holds Try.pinned (OpenSpec.ofChange fnOppositeSpec)

/-- ITS FALSE NEIGHBOUR: 'it returns false'. Refute it at one input. -/
def fnOppositeWrong : ChangeSpec := { name := "fnOpposite", fn := fun _ => fun
  | [d] => { results := [.lit (.bool false)], args := [d] }
  | _ => none }
def FnOppositeWrongFalsely : Prop := fnOppositeRow.holds Try.pinned (OpenSpec.ofChange fnOppositeWrong)

/-- 'laws.FnEvalFlat': WHATEVER THE INPUT: true; the input reads as it did. -/
def fnEvalFlatSpec : ChangeSpec := { name := "fnEvalFlat", fn := fun _ => fun
  | [d] => { results := [.lit (.bool true)], args := [d] }
  | _ => none }
def fnEvalFlatRow : OpenClaim := { program := "ytbpgfmandlhnaaa", sum := "d70fa046a58f7a67d572a67126b260d67d208bf362f693455dc2dbd9fa5c2c97", func := "loop.example/g00081/laws.FnEvalFlat", spec := "fnEvalFlat", unfollowed := true, recurses := true, apart := false }
def FnEvalFlatSaid : Prop := fnEvalFlatRow.holds Try.pinned (OpenSpec.ofChange fnEvalFlatSpec)

/-- ITS FALSE NEIGHBOUR: 'it returns false'. Refute it at one input. -/
def fnEvalFlatWrong : ChangeSpec := { name := "fnEvalFlat", fn := fun _ => fun
  | [d] => { results := [.lit (.bool false)], args := [d] }
  | _ => none }
def FnEvalFlatWrongFalsely : Prop := fnEvalFlatRow.holds Try.pinned (OpenSpec.ofChange fnEvalFlatWrong)

/-- 'laws.FnWeakened': WHATEVER THE INPUT: true; the input reads as it did. -/
def fnWeakenedSpec : ChangeSpec := { name := "fnWeakened", fn := fun _ => fun
  | [d] => { results := [.lit (.bool true)], args := [d] }
  | _ => none }
def fnWeakenedRow : OpenClaim := { program := "ytbpgfmandlhnaaa", sum := "d70fa046a58f7a67d572a67126b260d67d208bf362f693455dc2dbd9fa5c2c97", func := "loop.example/g00081/laws.FnWeakened", spec := "fnWeakened", unfollowed := true, recurses := true, apart := false }
def FnWeakenedSaid : Prop := fnWeakenedRow.holds Try.pinned (OpenSpec.ofChange fnWeakenedSpec)

/-- ITS FALSE NEIGHBOUR: 'it returns false'. Refute it at one input. -/
def fnWeakenedWrong : ChangeSpec := { name := "fnWeakened", fn := fun _ => fun
  | [d] => { results := [.lit (.bool false)], args := [d] }
  | _ => none }
def FnWeakenedWrongFalsely : Prop := fnWeakenedRow.holds Try.pinned (OpenSpec.ofChange fnWeakenedWrong)

/-- 'laws.FnNumbered': WHATEVER THE INPUT: true; the input reads as it did. -/
def fnNumberedSpec : ChangeSpec := { name := "fnNumbered", fn := fun _ => fun
  | [d] => { results := [.lit (.bool true)], args := [d] }
  | _ => none }
def fnNumberedRow : OpenClaim := { program := "ytbpgfmandlhnaaa", sum := "d70fa046a58f7a67d572a67126b260d67d208bf362f693455dc2dbd9fa5c2c97", func := "loop.example/g00081/laws.FnNumbered", spec := "fnNumbered", unfollowed := true, recurses := true, apart := false }
def FnNumberedSaid : Prop := fnNumberedRow.holds Try.pinned (OpenSpec.ofChange fnNumberedSpec)

/-- ITS FALSE NEIGHBOUR: 'it returns false'. Refute it at one input. -/
def fnNumberedWrong : ChangeSpec := { name := "fnNumbered", fn := fun _ => fun
  | [d] => { results := [.lit (.bool false)], args := [d] }
  | _ => none }
def FnNumberedWrongFalsely : Prop := fnNumberedRow.holds Try.pinned (OpenSpec.ofChange fnNumberedWrong)

/- THE SECOND FORM. 'bulk': how many values and letters a reading holds, each counted each time it is reached (what is shared counts as often as it is met; a slice's spare places count too). A statement '..UptoSaid' is the law's where the arguments, and the package variables that the reading takes, are together of bulk at most 1048576: NARROWER than '..Said'. Prove '..Said' where nothing that the law and all that it calls make is longer than what came in: it says more and counts as full. Else prove '..UptoSaid'. A law counts once. -/
mutual
def uptoBulk {H : Type} : DataW H → Nat
  | .lit (.string bytes) => bytes.length + 1
  | .lit _ => 1
  | .nil => 1
  | .ptr d => uptoBulk d + 1
  | .slice elems spare => uptoBulkAll elems + uptoBulkAll spare + 1
  | .agg parts => uptoBulkAll parts + 1
  | .iface _ d => uptoBulk d + 1
  | .map entries => uptoBulkEntries entries + 1
  | .held _ => 1
def uptoBulkAll {H : Type} : List (DataW H) → Nat
  | [] => 0
  | d :: r => uptoBulk d + uptoBulkAll r
def uptoBulkEntries {H : Type} : List (Lit × DataW H) → Nat
  | [] => 0
  | x :: r => uptoBulkEntry x + uptoBulkEntries r
def uptoBulkEntry {H : Type} : Lit × DataW H → Nat
  | (.string bytes, d) => bytes.length + uptoBulk d + 1
  | (_, d) => uptoBulk d + 1
 end
def uptoSmall : (H : Type) → List (DataW H) → Bool := fun _ ds => decide (uptoBulkAll ds ≤ 1048576)
def OpenSpec.upto (s : _root_.Go.ChangeSpec) : _root_.Go.OpenSpec := { _root_.Go.OpenSpec.ofChange s with cond := some uptoSmall }

/-- 'laws.FnOpposite', WHERE WHAT IT READS IS OF BULK AT MOST 1048576: true; the input reads as it did. -/
def fnOppositeUptoRow : OpenClaim := { program := "ytbpgfmandlhnaaa", sum := "d70fa046a58f7a67d572a67126b260d67d208bf362f693455dc2dbd9fa5c2c97", func := "loop.example/g00081/laws.FnOpposite", spec := "fnOpposite", unfollowed := true, recurses := true, apart := false, narrowed := true }
def FnOppositeUptoSaid : Prop := fnOppositeUptoRow.holds Try.pinned (OpenSpec.upto fnOppositeSpec)

/-- 'laws.FnEvalFlat', WHERE WHAT IT READS IS OF BULK AT MOST 1048576: true; the input reads as it did. -/
def fnEvalFlatUptoRow : OpenClaim := { program := "ytbpgfmandlhnaaa", sum := "d70fa046a58f7a67d572a67126b260d67d208bf362f693455dc2dbd9fa5c2c97", func := "loop.example/g00081/laws.FnEvalFlat", spec := "fnEvalFlat", unfollowed := true, recurses := true, apart := false, narrowed := true }
def FnEvalFlatUptoSaid : Prop := fnEvalFlatUptoRow.holds Try.pinned (OpenSpec.upto fnEvalFlatSpec)

/-- 'laws.FnWeakened', WHERE WHAT IT READS IS OF BULK AT MOST 1048576: true; the input reads as it did. -/
def fnWeakenedUptoRow : OpenClaim := { program := "ytbpgfmandlhnaaa", sum := "d70fa046a58f7a67d572a67126b260d67d208bf362f693455dc2dbd9fa5c2c97", func := "loop.example/g00081/laws.FnWeakened", spec := "fnWeakened", unfollowed := true, recurses := true, apart := false, narrowed := true }
def FnWeakenedUptoSaid : Prop := fnWeakenedUptoRow.holds Try.pinned (OpenSpec.upto fnWeakenedSpec)

/-- 'laws.FnNumbered', WHERE WHAT IT READS IS OF BULK AT MOST 1048576: true; the input reads as it did. -/
def fnNumberedUptoRow : OpenClaim := { program := "ytbpgfmandlhnaaa", sum := "d70fa046a58f7a67d572a67126b260d67d208bf362f693455dc2dbd9fa5c2c97", func := "loop.example/g00081/laws.FnNumbered", spec := "fnNumbered", unfollowed := true, recurses := true, apart := false, narrowed := true }
def FnNumberedUptoSaid : Prop := fnNumberedUptoRow.holds Try.pinned (OpenSpec.upto fnNumberedSpec)

end Rows
end Go.Proofs.Ytbpgfmandlhnaaa
