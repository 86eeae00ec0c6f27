/-
  No cell of these rows narrows 'for every input' (looked for: loops, veiled, ifaces, maps, wideKeys, modest, calm, conditions, laid).
  DERIVED. THE GIVEN ROWS OF THIS SEAT. 3 by the template 'for every input the law returns true; each argument reads behind the call as it read before'; 0 by the template 'total and deterministic' (their statements: YtbpgfmandlhnaaaGreatTotals.lean).
  GIVEN WITH THE SEED: the statements are not yours to turn. If you find one false, say at which input.
  Laid BY PROGRAM, IN A SANDBOX (cutbox-rows.mjs): the forced cells as the released guide's own fill.sh prints them over the translation 3d289cd82b95f51a… (all of the seat's roots in one cut). By AI agents, Wed Nov 11 2026. No macro, syntax, notation, axiom, sorry.
-/
import Derived.Test.YtbpgfmandlhnaaaGreatChecked
import GoSem.Claim
import GoSem.ClaimJoined
import GoSem.ClaimMapViews
import Derived.JoinedTies
import Derived.KernelRfl
namespace Go.Proofs.YtbpgfmandlhnaaaGreat
/- THE CELL 'sum', in the pinned program and in every row, IS THE sha256 OF THE DUMP (.gsa) THAT YtbpgfmandlhnaaaGreatProg.lean LOADS. Nothing in Lean hashes anything: it is a label: what it is worth is what the hold of that sum in a sandbox is worth. -/
noncomputable def Tryz.pinned : Pinned := { name := "ytbpgfmandlhnaaagreat", sum := "3d289cd82b95f51aa1c739b64cbc650030108986bf3ab0eec9a72dcdd471484f", checked := Tryz.checked }
namespace Rows
def none {H : Type} : Left H := { results := [], args := [] }

/-- 'laws.FnExactCountAll': WHATEVER THE INPUT: true; the input reads as it did. -/
def fnExactCountAllSpec : ChangeSpec := { name := "fnExactCountAll", fn := fun _ => fun
  | [d1, d2] => { results := [.lit (.bool true)], args := [d1, d2] }
  | _ => none }
def fnExactCountAllRow : OpenClaim := { program := "ytbpgfmandlhnaaagreat", sum := "3d289cd82b95f51aa1c739b64cbc650030108986bf3ab0eec9a72dcdd471484f", func := "loop.example/g00081/laws.FnExactCountAll", spec := "fnExactCountAll", unfollowed := true, recurses := true, apart := false }
def FnExactCountAllSaid : Prop := fnExactCountAllRow.holds Tryz.pinned (OpenSpec.ofChange fnExactCountAllSpec)

/-- ITS FALSE NEIGHBOUR: 'it returns false'. Refute it at one input. -/
def fnExactCountAllWrong : ChangeSpec := { name := "fnExactCountAll", fn := fun _ => fun
  | [d1, d2] => { results := [.lit (.bool false)], args := [d1, d2] }
  | _ => none }
def FnExactCountAllWrongFalsely : Prop := fnExactCountAllRow.holds Tryz.pinned (OpenSpec.ofChange fnExactCountAllWrong)

/-- 'laws.FnExactWeaken': WHATEVER THE INPUT: true; the input reads as it did. -/
def fnExactWeakenSpec : ChangeSpec := { name := "fnExactWeaken", fn := fun _ => fun
  | [d1, d2, d3] => { results := [.lit (.bool true)], args := [d1, d2, d3] }
  | _ => none }
def fnExactWeakenRow : OpenClaim := { program := "ytbpgfmandlhnaaagreat", sum := "3d289cd82b95f51aa1c739b64cbc650030108986bf3ab0eec9a72dcdd471484f", func := "loop.example/g00081/laws.FnExactWeaken", spec := "fnExactWeaken", unfollowed := true, recurses := true, apart := false }
def FnExactWeakenSaid : Prop := fnExactWeakenRow.holds Tryz.pinned (OpenSpec.ofChange fnExactWeakenSpec)

/-- ITS FALSE NEIGHBOUR: 'it returns false'. Refute it at one input. -/
def fnExactWeakenWrong : ChangeSpec := { name := "fnExactWeaken", fn := fun _ => fun
  | [d1, d2, d3] => { results := [.lit (.bool false)], args := [d1, d2, d3] }
  | _ => none }
def FnExactWeakenWrongFalsely : Prop := fnExactWeakenRow.holds Tryz.pinned (OpenSpec.ofChange fnExactWeakenWrong)

/-- 'laws.FnExactNthValues': WHATEVER THE INPUT: true; the input reads as it did. -/
def fnExactNthValuesSpec : ChangeSpec := { name := "fnExactNthValues", fn := fun _ => fun
  | [d1, d2, d3] => { results := [.lit (.bool true)], args := [d1, d2, d3] }
  | _ => none }
def fnExactNthValuesRow : OpenClaim := { program := "ytbpgfmandlhnaaagreat", sum := "3d289cd82b95f51aa1c739b64cbc650030108986bf3ab0eec9a72dcdd471484f", func := "loop.example/g00081/laws.FnExactNthValues", spec := "fnExactNthValues", unfollowed := true, recurses := true, apart := false }
def FnExactNthValuesSaid : Prop := fnExactNthValuesRow.holds Tryz.pinned (OpenSpec.ofChange fnExactNthValuesSpec)

/-- ITS FALSE NEIGHBOUR: 'it returns false'. Refute it at one input. -/
def fnExactNthValuesWrong : ChangeSpec := { name := "fnExactNthValues", fn := fun _ => fun
  | [d1, d2, d3] => { results := [.lit (.bool false)], args := [d1, d2, d3] }
  | _ => none }
def FnExactNthValuesWrongFalsely : Prop := fnExactNthValuesRow.holds Tryz.pinned (OpenSpec.ofChange fnExactNthValuesWrong)

/- THE SECOND FORM. 'bulk': how many values and letters a reading holds, each counted each time it is reached (what is shared counts as often as it is met; a slice's spare places count too). A statement '..UptoSaid' is the law's where the arguments, and the package variables that the reading takes, are together of bulk at most 1048576: NARROWER than '..Said'. Prove '..Said' where nothing that the law and all that it calls make is longer than what came in: it says more and counts as full. Else prove '..UptoSaid'. A law counts once. -/
mutual
def uptoBulk {H : Type} : DataW H → Nat
  | .lit (.string bytes) => bytes.length + 1
  | .lit _ => 1
  | .nil => 1
  | .ptr d => uptoBulk d + 1
  | .slice elems spare => uptoBulkAll elems + uptoBulkAll spare + 1
  | .agg parts => uptoBulkAll parts + 1
  | .iface _ d => uptoBulk d + 1
  | .map entries => uptoBulkEntries entries + 1
  | .held _ => 1
def uptoBulkAll {H : Type} : List (DataW H) → Nat
  | [] => 0
  | d :: r => uptoBulk d + uptoBulkAll r
def uptoBulkEntries {H : Type} : List (Lit × DataW H) → Nat
  | [] => 0
  | x :: r => uptoBulkEntry x + uptoBulkEntries r
def uptoBulkEntry {H : Type} : Lit × DataW H → Nat
  | (.string bytes, d) => bytes.length + uptoBulk d + 1
  | (_, d) => uptoBulk d + 1
 end
def uptoSmall : (H : Type) → List (DataW H) → Bool := fun _ ds => decide (uptoBulkAll ds ≤ 1048576)
def OpenSpec.upto (s : _root_.Go.ChangeSpec) : _root_.Go.OpenSpec := { _root_.Go.OpenSpec.ofChange s with cond := some uptoSmall }

/-- 'laws.FnExactCountAll', WHERE WHAT IT READS IS OF BULK AT MOST 1048576: true; the input reads as it did. -/
def fnExactCountAllUptoRow : OpenClaim := { program := "ytbpgfmandlhnaaagreat", sum := "3d289cd82b95f51aa1c739b64cbc650030108986bf3ab0eec9a72dcdd471484f", func := "loop.example/g00081/laws.FnExactCountAll", spec := "fnExactCountAll", unfollowed := true, recurses := true, apart := false, narrowed := true }
def FnExactCountAllUptoSaid : Prop := fnExactCountAllUptoRow.holds Tryz.pinned (OpenSpec.upto fnExactCountAllSpec)

/-- 'laws.FnExactWeaken', WHERE WHAT IT READS IS OF BULK AT MOST 1048576: true; the input reads as it did. -/
def fnExactWeakenUptoRow : OpenClaim := { program := "ytbpgfmandlhnaaagreat", sum := "3d289cd82b95f51aa1c739b64cbc650030108986bf3ab0eec9a72dcdd471484f", func := "loop.example/g00081/laws.FnExactWeaken", spec := "fnExactWeaken", unfollowed := true, recurses := true, apart := false, narrowed := true }
def FnExactWeakenUptoSaid : Prop := fnExactWeakenUptoRow.holds Tryz.pinned (OpenSpec.upto fnExactWeakenSpec)

/-- 'laws.FnExactNthValues', WHERE WHAT IT READS IS OF BULK AT MOST 1048576: true; the input reads as it did. -/
def fnExactNthValuesUptoRow : OpenClaim := { program := "ytbpgfmandlhnaaagreat", sum := "3d289cd82b95f51aa1c739b64cbc650030108986bf3ab0eec9a72dcdd471484f", func := "loop.example/g00081/laws.FnExactNthValues", spec := "fnExactNthValues", unfollowed := true, recurses := true, apart := false, narrowed := true }
def FnExactNthValuesUptoSaid : Prop := fnExactNthValuesUptoRow.holds Tryz.pinned (OpenSpec.upto fnExactNthValuesSpec)

end Rows
end Go.Proofs.YtbpgfmandlhnaaaGreat
