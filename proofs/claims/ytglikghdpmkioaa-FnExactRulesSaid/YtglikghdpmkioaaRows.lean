/-
  No cell of these rows narrows 'for every input' (looked for: loops, veiled, ifaces, maps, wideKeys, modest, calm, conditions, laid).
  DERIVED. THE GIVEN ROWS OF THIS SEAT. 10 by the template 'for every input the law returns true; each argument reads behind the call as it read before'; 0 by the template 'total and deterministic' (their statements: YtglikghdpmkioaaTotals.lean).
  GIVEN WITH THE SEED: the statements are not yours to turn. If you find one false, say at which input.
  Laid BY PROGRAM, IN A SANDBOX (cutbox-rows.mjs): the forced cells as the released guide's own fill.sh prints them over the translation bf586940b1ace94e… (all of the seat's roots in one cut). By AI agents, Wed Nov 11 2026. No macro, syntax, notation, axiom, sorry.
-/
import Derived.Test.YtglikghdpmkioaaChecked
import GoSem.Claim
import GoSem.ClaimJoined
import GoSem.ClaimMapViews
import Derived.JoinedTies
import Derived.KernelRfl
namespace Go.Proofs.Ytglikghdpmkioaa
/- THE CELL 'sum', in the pinned program and in every row, IS THE sha256 OF THE DUMP (.gsa) THAT YtglikghdpmkioaaProg.lean LOADS. Nothing in Lean hashes anything: it is a label: what it is worth is what the hold of that sum in a sandbox is worth. -/
noncomputable def Try.pinned : Pinned := { name := "ytglikghdpmkioaa", sum := "bf586940b1ace94e5144eb8186d83870b0ba367e60ff0a0142665c3979780e83", checked := Try.checked }
namespace Rows
def none {H : Type} : Left H := { results := [], args := [] }

/-- 'laws.FnExactSameWord': WHATEVER THE INPUT: true; the input reads as it did. -/
def fnExactSameWordSpec : ChangeSpec := { name := "fnExactSameWord", fn := fun _ => fun
  | [d1, d2, d3] => { results := [.lit (.bool true)], args := [d1, d2, d3] }
  | _ => none }
def fnExactSameWordRow : OpenClaim := { program := "ytglikghdpmkioaa", sum := "bf586940b1ace94e5144eb8186d83870b0ba367e60ff0a0142665c3979780e83", func := "loop.example/g00081/laws.FnExactSameWord", spec := "fnExactSameWord", unfollowed := true, recurses := true, apart := false }
def FnExactSameWordSaid : Prop := fnExactSameWordRow.holds Try.pinned (OpenSpec.ofChange fnExactSameWordSpec)

/-- ITS FALSE NEIGHBOUR: 'it returns false'. Refute it at one input. -/
def fnExactSameWordWrong : ChangeSpec := { name := "fnExactSameWord", fn := fun _ => fun
  | [d1, d2, d3] => { results := [.lit (.bool false)], args := [d1, d2, d3] }
  | _ => none }
def FnExactSameWordWrongFalsely : Prop := fnExactSameWordRow.holds Try.pinned (OpenSpec.ofChange fnExactSameWordWrong)

/-- 'laws.FnExactRules': WHATEVER THE INPUT: true; the input reads as it did. -/
def fnExactRulesSpec : ChangeSpec := { name := "fnExactRules", fn := fun _ => fun
  | [d1, d2, d3] => { results := [.lit (.bool true)], args := [d1, d2, d3] }
  | _ => none }
def fnExactRulesRow : OpenClaim := { program := "ytglikghdpmkioaa", sum := "bf586940b1ace94e5144eb8186d83870b0ba367e60ff0a0142665c3979780e83", func := "loop.example/g00081/laws.FnExactRules", spec := "fnExactRules", unfollowed := true, recurses := true, apart := false }
def FnExactRulesSaid : Prop := fnExactRulesRow.holds Try.pinned (OpenSpec.ofChange fnExactRulesSpec)

/-- ITS FALSE NEIGHBOUR: 'it returns false'. Refute it at one input. -/
def fnExactRulesWrong : ChangeSpec := { name := "fnExactRules", fn := fun _ => fun
  | [d1, d2, d3] => { results := [.lit (.bool false)], args := [d1, d2, d3] }
  | _ => none }
def FnExactRulesWrongFalsely : Prop := fnExactRulesRow.holds Try.pinned (OpenSpec.ofChange fnExactRulesWrong)

/-- 'laws.FnExactEval': WHATEVER THE INPUT: true; the input reads as it did. -/
def fnExactEvalSpec : ChangeSpec := { name := "fnExactEval", fn := fun _ => fun
  | [d1, d2, d3] => { results := [.lit (.bool true)], args := [d1, d2, d3] }
  | _ => none }
def fnExactEvalRow : OpenClaim := { program := "ytglikghdpmkioaa", sum := "bf586940b1ace94e5144eb8186d83870b0ba367e60ff0a0142665c3979780e83", func := "loop.example/g00081/laws.FnExactEval", spec := "fnExactEval", unfollowed := true, recurses := true, apart := false }
def FnExactEvalSaid : Prop := fnExactEvalRow.holds Try.pinned (OpenSpec.ofChange fnExactEvalSpec)

/-- ITS FALSE NEIGHBOUR: 'it returns false'. Refute it at one input. -/
def fnExactEvalWrong : ChangeSpec := { name := "fnExactEval", fn := fun _ => fun
  | [d1, d2, d3] => { results := [.lit (.bool false)], args := [d1, d2, d3] }
  | _ => none }
def FnExactEvalWrongFalsely : Prop := fnExactEvalRow.holds Try.pinned (OpenSpec.ofChange fnExactEvalWrong)

/-- 'laws.FnExactHolds': WHATEVER THE INPUT: true; the input reads as it did. -/
def fnExactHoldsSpec : ChangeSpec := { name := "fnExactHolds", fn := fun _ => fun
  | [d1, d2, d3] => { results := [.lit (.bool true)], args := [d1, d2, d3] }
  | _ => none }
def fnExactHoldsRow : OpenClaim := { program := "ytglikghdpmkioaa", sum := "bf586940b1ace94e5144eb8186d83870b0ba367e60ff0a0142665c3979780e83", func := "loop.example/g00081/laws.FnExactHolds", spec := "fnExactHolds", unfollowed := true, recurses := true, apart := false }
def FnExactHoldsSaid : Prop := fnExactHoldsRow.holds Try.pinned (OpenSpec.ofChange fnExactHoldsSpec)

/-- ITS FALSE NEIGHBOUR: 'it returns false'. Refute it at one input. -/
def fnExactHoldsWrong : ChangeSpec := { name := "fnExactHolds", fn := fun _ => fun
  | [d1, d2, d3] => { results := [.lit (.bool false)], args := [d1, d2, d3] }
  | _ => none }
def FnExactHoldsWrongFalsely : Prop := fnExactHoldsRow.holds Try.pinned (OpenSpec.ofChange fnExactHoldsWrong)

/-- 'laws.FnExactFlatten': WHATEVER THE INPUT: true; the input reads as it did. -/
def fnExactFlattenSpec : ChangeSpec := { name := "fnExactFlatten", fn := fun _ => fun
  | [d1, d2] => { results := [.lit (.bool true)], args := [d1, d2] }
  | _ => none }
def fnExactFlattenRow : OpenClaim := { program := "ytglikghdpmkioaa", sum := "bf586940b1ace94e5144eb8186d83870b0ba367e60ff0a0142665c3979780e83", func := "loop.example/g00081/laws.FnExactFlatten", spec := "fnExactFlatten", unfollowed := true, recurses := true, apart := false }
def FnExactFlattenSaid : Prop := fnExactFlattenRow.holds Try.pinned (OpenSpec.ofChange fnExactFlattenSpec)

/-- ITS FALSE NEIGHBOUR: 'it returns false'. Refute it at one input. -/
def fnExactFlattenWrong : ChangeSpec := { name := "fnExactFlatten", fn := fun _ => fun
  | [d1, d2] => { results := [.lit (.bool false)], args := [d1, d2] }
  | _ => none }
def FnExactFlattenWrongFalsely : Prop := fnExactFlattenRow.holds Try.pinned (OpenSpec.ofChange fnExactFlattenWrong)

/-- 'laws.FnOpposite': WHATEVER THE INPUT: true; the input reads as it did. -/
def fnOppositeSpec : ChangeSpec := { name := "fnOpposite", fn := fun _ => fun
  | [d] => { results := [.lit (.bool true)], args := [d] }
  | _ => none }
def fnOppositeRow : OpenClaim := { program := "ytglikghdpmkioaa", sum := "bf586940b1ace94e5144eb8186d83870b0ba367e60ff0a0142665c3979780e83", func := "loop.example/g00081/laws.FnOpposite", spec := "fnOpposite", unfollowed := true, recurses := true, apart := false }
def FnOppositeSaid : Prop := fnOppositeRow.holds Try.pinned (OpenSpec.ofChange fnOppositeSpec)

/-- ITS FALSE NEIGHBOUR: 'it returns false'. Refute it at one input. -/
def fnOppositeWrong : ChangeSpec := { name := "fnOpposite", fn := fun _ => fun
  | [d] => { results := [.lit (.bool false)], args := [d] }
  | _ => none }
def FnOppositeWrongFalsely : Prop := fnOppositeRow.holds Try.pinned (OpenSpec.ofChange fnOppositeWrong)

/-- 'laws.FnExactFirstFails': WHATEVER THE INPUT: true; the input reads as it did. -/
def fnExactFirstFailsSpec : ChangeSpec := { name := "fnExactFirstFails", fn := fun _ => fun
  | [d1, d2, d3] => { results := [.lit (.bool true)], args := [d1, d2, d3] }
  | _ => none }
def fnExactFirstFailsRow : OpenClaim := { program := "ytglikghdpmkioaa", sum := "bf586940b1ace94e5144eb8186d83870b0ba367e60ff0a0142665c3979780e83", func := "loop.example/g00081/laws.FnExactFirstFails", spec := "fnExactFirstFails", unfollowed := true, recurses := true, apart := false }
def FnExactFirstFailsSaid : Prop := fnExactFirstFailsRow.holds Try.pinned (OpenSpec.ofChange fnExactFirstFailsSpec)

/-- ITS FALSE NEIGHBOUR: 'it returns false'. Refute it at one input. -/
def fnExactFirstFailsWrong : ChangeSpec := { name := "fnExactFirstFails", fn := fun _ => fun
  | [d1, d2, d3] => { results := [.lit (.bool false)], args := [d1, d2, d3] }
  | _ => none }
def FnExactFirstFailsWrongFalsely : Prop := fnExactFirstFailsRow.holds Try.pinned (OpenSpec.ofChange fnExactFirstFailsWrong)

/-- 'laws.FnEvalFlat': WHATEVER THE INPUT: true; the input reads as it did. -/
def fnEvalFlatSpec : ChangeSpec := { name := "fnEvalFlat", fn := fun _ => fun
  | [d] => { results := [.lit (.bool true)], args := [d] }
  | _ => none }
def fnEvalFlatRow : OpenClaim := { program := "ytglikghdpmkioaa", sum := "bf586940b1ace94e5144eb8186d83870b0ba367e60ff0a0142665c3979780e83", func := "loop.example/g00081/laws.FnEvalFlat", spec := "fnEvalFlat", unfollowed := true, recurses := true, apart := false }
def FnEvalFlatSaid : Prop := fnEvalFlatRow.holds Try.pinned (OpenSpec.ofChange fnEvalFlatSpec)

/-- ITS FALSE NEIGHBOUR: 'it returns false'. Refute it at one input. -/
def fnEvalFlatWrong : ChangeSpec := { name := "fnEvalFlat", fn := fun _ => fun
  | [d] => { results := [.lit (.bool false)], args := [d] }
  | _ => none }
def FnEvalFlatWrongFalsely : Prop := fnEvalFlatRow.holds Try.pinned (OpenSpec.ofChange fnEvalFlatWrong)

/-- 'laws.FnWeakened': WHATEVER THE INPUT: true; the input reads as it did. -/
def fnWeakenedSpec : ChangeSpec := { name := "fnWeakened", fn := fun _ => fun
  | [d] => { results := [.lit (.bool true)], args := [d] }
  | _ => none }
def fnWeakenedRow : OpenClaim := { program := "ytglikghdpmkioaa", sum := "bf586940b1ace94e5144eb8186d83870b0ba367e60ff0a0142665c3979780e83", func := "loop.example/g00081/laws.FnWeakened", spec := "fnWeakened", unfollowed := true, recurses := true, apart := false }
def FnWeakenedSaid : Prop := fnWeakenedRow.holds Try.pinned (OpenSpec.ofChange fnWeakenedSpec)

/-- ITS FALSE NEIGHBOUR: 'it returns false'. Refute it at one input. -/
def fnWeakenedWrong : ChangeSpec := { name := "fnWeakened", fn := fun _ => fun
  | [d] => { results := [.lit (.bool false)], args := [d] }
  | _ => none }
def FnWeakenedWrongFalsely : Prop := fnWeakenedRow.holds Try.pinned (OpenSpec.ofChange fnWeakenedWrong)

/-- 'laws.FnExactVarsOf': WHATEVER THE INPUT: true; the input reads as it did. -/
def fnExactVarsOfSpec : ChangeSpec := { name := "fnExactVarsOf", fn := fun _ => fun
  | [d1, d2] => { results := [.lit (.bool true)], args := [d1, d2] }
  | _ => none }
def fnExactVarsOfRow : OpenClaim := { program := "ytglikghdpmkioaa", sum := "bf586940b1ace94e5144eb8186d83870b0ba367e60ff0a0142665c3979780e83", func := "loop.example/g00081/laws.FnExactVarsOf", spec := "fnExactVarsOf", unfollowed := true, recurses := true, apart := false }
def FnExactVarsOfSaid : Prop := fnExactVarsOfRow.holds Try.pinned (OpenSpec.ofChange fnExactVarsOfSpec)

/-- ITS FALSE NEIGHBOUR: 'it returns false'. Refute it at one input. -/
def fnExactVarsOfWrong : ChangeSpec := { name := "fnExactVarsOf", fn := fun _ => fun
  | [d1, d2] => { results := [.lit (.bool false)], args := [d1, d2] }
  | _ => none }
def FnExactVarsOfWrongFalsely : Prop := fnExactVarsOfRow.holds Try.pinned (OpenSpec.ofChange fnExactVarsOfWrong)

/- THE SECOND FORM. 'bulk': how many values and letters a reading holds, each counted each time it is reached (what is shared counts as often as it is met; a slice's spare places count too). A statement '..UptoSaid' is the law's where the arguments, and the package variables that the reading takes, are together of bulk at most 1048576: NARROWER than '..Said'. Prove '..Said' where nothing that the law and all that it calls make is longer than what came in: it says more and counts as full. Else prove '..UptoSaid'. A law counts once. -/
mutual
def uptoBulk {H : Type} : DataW H → Nat
  | .lit (.string bytes) => bytes.length + 1
  | .lit _ => 1
  | .nil => 1
  | .ptr d => uptoBulk d + 1
  | .slice elems spare => uptoBulkAll elems + uptoBulkAll spare + 1
  | .agg parts => uptoBulkAll parts + 1
  | .iface _ d => uptoBulk d + 1
  | .map entries => uptoBulkEntries entries + 1
  | .held _ => 1
def uptoBulkAll {H : Type} : List (DataW H) → Nat
  | [] => 0
  | d :: r => uptoBulk d + uptoBulkAll r
def uptoBulkEntries {H : Type} : List (Lit × DataW H) → Nat
  | [] => 0
  | x :: r => uptoBulkEntry x + uptoBulkEntries r
def uptoBulkEntry {H : Type} : Lit × DataW H → Nat
  | (.string bytes, d) => bytes.length + uptoBulk d + 1
  | (_, d) => uptoBulk d + 1
 end
def uptoSmall : (H : Type) → List (DataW H) → Bool := fun _ ds => decide (uptoBulkAll ds ≤ 1048576)
def OpenSpec.upto (s : _root_.Go.ChangeSpec) : _root_.Go.OpenSpec := { _root_.Go.OpenSpec.ofChange s with cond := some uptoSmall }

/-- 'laws.FnExactSameWord', WHERE WHAT IT READS IS OF BULK AT MOST 1048576: true; the input reads as it did. -/
def fnExactSameWordUptoRow : OpenClaim := { program := "ytglikghdpmkioaa", sum := "bf586940b1ace94e5144eb8186d83870b0ba367e60ff0a0142665c3979780e83", func := "loop.example/g00081/laws.FnExactSameWord", spec := "fnExactSameWord", unfollowed := true, recurses := true, apart := false, narrowed := true }
def FnExactSameWordUptoSaid : Prop := fnExactSameWordUptoRow.holds Try.pinned (OpenSpec.upto fnExactSameWordSpec)

/-- 'laws.FnExactRules', WHERE WHAT IT READS IS OF BULK AT MOST 1048576: true; the input reads as it did. -/
def fnExactRulesUptoRow : OpenClaim := { program := "ytglikghdpmkioaa", sum := "bf586940b1ace94e5144eb8186d83870b0ba367e60ff0a0142665c3979780e83", func := "loop.example/g00081/laws.FnExactRules", spec := "fnExactRules", unfollowed := true, recurses := true, apart := false, narrowed := true }
def FnExactRulesUptoSaid : Prop := fnExactRulesUptoRow.holds Try.pinned (OpenSpec.upto fnExactRulesSpec)

/-- 'laws.FnExactEval', WHERE WHAT IT READS IS OF BULK AT MOST 1048576: true; the input reads as it did. -/
def fnExactEvalUptoRow : OpenClaim := { program := "ytglikghdpmkioaa", sum := "bf586940b1ace94e5144eb8186d83870b0ba367e60ff0a0142665c3979780e83", func := "loop.example/g00081/laws.FnExactEval", spec := "fnExactEval", unfollowed := true, recurses := true, apart := false, narrowed := true }
def FnExactEvalUptoSaid : Prop := fnExactEvalUptoRow.holds Try.pinned (OpenSpec.upto fnExactEvalSpec)

/-- 'laws.FnExactHolds', WHERE WHAT IT READS IS OF BULK AT MOST 1048576: true; the input reads as it did. -/
def fnExactHoldsUptoRow : OpenClaim := { program := "ytglikghdpmkioaa", sum := "bf586940b1ace94e5144eb8186d83870b0ba367e60ff0a0142665c3979780e83", func := "loop.example/g00081/laws.FnExactHolds", spec := "fnExactHolds", unfollowed := true, recurses := true, apart := false, narrowed := true }
def FnExactHoldsUptoSaid : Prop := fnExactHoldsUptoRow.holds Try.pinned (OpenSpec.upto fnExactHoldsSpec)

/-- 'laws.FnExactFlatten', WHERE WHAT IT READS IS OF BULK AT MOST 1048576: true; the input reads as it did. -/
def fnExactFlattenUptoRow : OpenClaim := { program := "ytglikghdpmkioaa", sum := "bf586940b1ace94e5144eb8186d83870b0ba367e60ff0a0142665c3979780e83", func := "loop.example/g00081/laws.FnExactFlatten", spec := "fnExactFlatten", unfollowed := true, recurses := true, apart := false, narrowed := true }
def FnExactFlattenUptoSaid : Prop := fnExactFlattenUptoRow.holds Try.pinned (OpenSpec.upto fnExactFlattenSpec)

/-- 'laws.FnOpposite', WHERE WHAT IT READS IS OF BULK AT MOST 1048576: true; the input reads as it did. -/
def fnOppositeUptoRow : OpenClaim := { program := "ytglikghdpmkioaa", sum := "bf586940b1ace94e5144eb8186d83870b0ba367e60ff0a0142665c3979780e83", func := "loop.example/g00081/laws.FnOpposite", spec := "fnOpposite", unfollowed := true, recurses := true, apart := false, narrowed := true }
def FnOppositeUptoSaid : Prop := fnOppositeUptoRow.holds Try.pinned (OpenSpec.upto fnOppositeSpec)

/-- 'laws.FnExactFirstFails', WHERE WHAT IT READS IS OF BULK AT MOST 1048576: true; the input reads as it did. -/
def fnExactFirstFailsUptoRow : OpenClaim := { program := "ytglikghdpmkioaa", sum := "bf586940b1ace94e5144eb8186d83870b0ba367e60ff0a0142665c3979780e83", func := "loop.example/g00081/laws.FnExactFirstFails", spec := "fnExactFirstFails", unfollowed := true, recurses := true, apart := false, narrowed := true }
def FnExactFirstFailsUptoSaid : Prop := fnExactFirstFailsUptoRow.holds Try.pinned (OpenSpec.upto fnExactFirstFailsSpec)

/-- 'laws.FnEvalFlat', WHERE WHAT IT READS IS OF BULK AT MOST 1048576: true; the input reads as it did. -/
def fnEvalFlatUptoRow : OpenClaim := { program := "ytglikghdpmkioaa", sum := "bf586940b1ace94e5144eb8186d83870b0ba367e60ff0a0142665c3979780e83", func := "loop.example/g00081/laws.FnEvalFlat", spec := "fnEvalFlat", unfollowed := true, recurses := true, apart := false, narrowed := true }
def FnEvalFlatUptoSaid : Prop := fnEvalFlatUptoRow.holds Try.pinned (OpenSpec.upto fnEvalFlatSpec)

/-- 'laws.FnWeakened', WHERE WHAT IT READS IS OF BULK AT MOST 1048576: true; the input reads as it did. -/
def fnWeakenedUptoRow : OpenClaim := { program := "ytglikghdpmkioaa", sum := "bf586940b1ace94e5144eb8186d83870b0ba367e60ff0a0142665c3979780e83", func := "loop.example/g00081/laws.FnWeakened", spec := "fnWeakened", unfollowed := true, recurses := true, apart := false, narrowed := true }
def FnWeakenedUptoSaid : Prop := fnWeakenedUptoRow.holds Try.pinned (OpenSpec.upto fnWeakenedSpec)

/-- 'laws.FnExactVarsOf', WHERE WHAT IT READS IS OF BULK AT MOST 1048576: true; the input reads as it did. -/
def fnExactVarsOfUptoRow : OpenClaim := { program := "ytglikghdpmkioaa", sum := "bf586940b1ace94e5144eb8186d83870b0ba367e60ff0a0142665c3979780e83", func := "loop.example/g00081/laws.FnExactVarsOf", spec := "fnExactVarsOf", unfollowed := true, recurses := true, apart := false, narrowed := true }
def FnExactVarsOfUptoSaid : Prop := fnExactVarsOfUptoRow.holds Try.pinned (OpenSpec.upto fnExactVarsOfSpec)

end Rows
end Go.Proofs.Ytglikghdpmkioaa
