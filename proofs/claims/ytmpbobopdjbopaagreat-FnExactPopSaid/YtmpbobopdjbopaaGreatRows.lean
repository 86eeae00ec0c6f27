/-
  No cell of these rows narrows 'for every input' (looked for: loops, veiled, ifaces, maps, wideKeys, modest, calm, conditions, laid).
  DERIVED. THE GIVEN ROWS OF THIS SEAT. 6 by the template 'for every input the law returns true; each argument reads behind the call as it read before'; 0 by the template 'total and deterministic' (their statements: YtmpbobopdjbopaaGreatTotals.lean).
  GIVEN WITH THE SEED: the statements are not yours to turn. If you find one false, say at which input.
  Laid BY PROGRAM, IN A SANDBOX (cutbox-rows.mjs): the forced cells as the released guide's own fill.sh prints them over the translation 193f310fa85b148f… (all of the seat's roots in one cut). By AI agents, Wed Nov 11 2026. No macro, syntax, notation, axiom, sorry.
-/
import Derived.Test.YtmpbobopdjbopaaGreatChecked
import GoSem.Claim
import GoSem.ClaimJoined
import GoSem.ClaimMapViews
import Derived.JoinedTies
import Derived.KernelRfl
namespace Go.Proofs.YtmpbobopdjbopaaGreat
/- THE CELL 'sum', in the pinned program and in every row, IS THE sha256 OF THE DUMP (.gsa) THAT YtmpbobopdjbopaaGreatProg.lean LOADS. Nothing in Lean hashes anything: it is a label: what it is worth is what the hold of that sum in a sandbox is worth. -/
noncomputable def Tryz.pinned : Pinned := { name := "ytmpbobopdjbopaagreat", sum := "193f310fa85b148fb9e6d32f0006ff4a6007e6fe208179913980ff30d0ca3437", checked := Tryz.checked }
namespace Rows
def none {H : Type} : Left H := { results := [], args := [] }

/-- 'laws.FnExactBind': WHATEVER THE INPUT: true; the input reads as it did. -/
def fnExactBindSpec : ChangeSpec := { name := "fnExactBind", fn := fun _ => fun
  | [d1, d2, d3] => { results := [.lit (.bool true)], args := [d1, d2, d3] }
  | _ => none }
def fnExactBindRow : OpenClaim := { program := "ytmpbobopdjbopaagreat", sum := "193f310fa85b148fb9e6d32f0006ff4a6007e6fe208179913980ff30d0ca3437", func := "loop.example/g00081/laws.FnExactBind", spec := "fnExactBind", unfollowed := true, recurses := true, apart := false }
def FnExactBindSaid : Prop := fnExactBindRow.holds Tryz.pinned (OpenSpec.ofChange fnExactBindSpec)

/-- ITS FALSE NEIGHBOUR: 'it returns false'. Refute it at one input. -/
def fnExactBindWrong : ChangeSpec := { name := "fnExactBind", fn := fun _ => fun
  | [d1, d2, d3] => { results := [.lit (.bool false)], args := [d1, d2, d3] }
  | _ => none }
def FnExactBindWrongFalsely : Prop := fnExactBindRow.holds Tryz.pinned (OpenSpec.ofChange fnExactBindWrong)

/-- 'laws.FnExactWeaken': WHATEVER THE INPUT: true; the input reads as it did. -/
def fnExactWeakenSpec : ChangeSpec := { name := "fnExactWeaken", fn := fun _ => fun
  | [d1, d2, d3] => { results := [.lit (.bool true)], args := [d1, d2, d3] }
  | _ => none }
def fnExactWeakenRow : OpenClaim := { program := "ytmpbobopdjbopaagreat", sum := "193f310fa85b148fb9e6d32f0006ff4a6007e6fe208179913980ff30d0ca3437", func := "loop.example/g00081/laws.FnExactWeaken", spec := "fnExactWeaken", unfollowed := true, recurses := true, apart := false }
def FnExactWeakenSaid : Prop := fnExactWeakenRow.holds Tryz.pinned (OpenSpec.ofChange fnExactWeakenSpec)

/-- ITS FALSE NEIGHBOUR: 'it returns false'. Refute it at one input. -/
def fnExactWeakenWrong : ChangeSpec := { name := "fnExactWeaken", fn := fun _ => fun
  | [d1, d2, d3] => { results := [.lit (.bool false)], args := [d1, d2, d3] }
  | _ => none }
def FnExactWeakenWrongFalsely : Prop := fnExactWeakenRow.holds Tryz.pinned (OpenSpec.ofChange fnExactWeakenWrong)

/-- 'laws.FnExactPush': WHATEVER THE INPUT: true; the input reads as it did. -/
def fnExactPushSpec : ChangeSpec := { name := "fnExactPush", fn := fun _ => fun
  | [d] => { results := [.lit (.bool true)], args := [d] }
  | _ => none }
def fnExactPushRow : OpenClaim := { program := "ytmpbobopdjbopaagreat", sum := "193f310fa85b148fb9e6d32f0006ff4a6007e6fe208179913980ff30d0ca3437", func := "loop.example/g00081/laws.FnExactPush", spec := "fnExactPush", unfollowed := true, recurses := true, apart := false }
def FnExactPushSaid : Prop := fnExactPushRow.holds Tryz.pinned (OpenSpec.ofChange fnExactPushSpec)

/-- ITS FALSE NEIGHBOUR: 'it returns false'. Refute it at one input. -/
def fnExactPushWrong : ChangeSpec := { name := "fnExactPush", fn := fun _ => fun
  | [d] => { results := [.lit (.bool false)], args := [d] }
  | _ => none }
def FnExactPushWrongFalsely : Prop := fnExactPushRow.holds Tryz.pinned (OpenSpec.ofChange fnExactPushWrong)

/-- 'laws.FnExactPop': WHATEVER THE INPUT: true; the input reads as it did. -/
def fnExactPopSpec : ChangeSpec := { name := "fnExactPop", fn := fun _ => fun
  | [d] => { results := [.lit (.bool true)], args := [d] }
  | _ => none }
def fnExactPopRow : OpenClaim := { program := "ytmpbobopdjbopaagreat", sum := "193f310fa85b148fb9e6d32f0006ff4a6007e6fe208179913980ff30d0ca3437", func := "loop.example/g00081/laws.FnExactPop", spec := "fnExactPop", unfollowed := true, recurses := true, apart := false }
def FnExactPopSaid : Prop := fnExactPopRow.holds Tryz.pinned (OpenSpec.ofChange fnExactPopSpec)

/-- ITS FALSE NEIGHBOUR: 'it returns false'. Refute it at one input. -/
def fnExactPopWrong : ChangeSpec := { name := "fnExactPop", fn := fun _ => fun
  | [d] => { results := [.lit (.bool false)], args := [d] }
  | _ => none }
def FnExactPopWrongFalsely : Prop := fnExactPopRow.holds Tryz.pinned (OpenSpec.ofChange fnExactPopWrong)

/-- 'laws.FnExactDeclare': WHATEVER THE INPUT: true; the input reads as it did. -/
def fnExactDeclareSpec : ChangeSpec := { name := "fnExactDeclare", fn := fun _ => fun
  | [d1, d2, d3] => { results := [.lit (.bool true)], args := [d1, d2, d3] }
  | _ => none }
def fnExactDeclareRow : OpenClaim := { program := "ytmpbobopdjbopaagreat", sum := "193f310fa85b148fb9e6d32f0006ff4a6007e6fe208179913980ff30d0ca3437", func := "loop.example/g00081/laws.FnExactDeclare", spec := "fnExactDeclare", unfollowed := true, recurses := true, apart := false }
def FnExactDeclareSaid : Prop := fnExactDeclareRow.holds Tryz.pinned (OpenSpec.ofChange fnExactDeclareSpec)

/-- ITS FALSE NEIGHBOUR: 'it returns false'. Refute it at one input. -/
def fnExactDeclareWrong : ChangeSpec := { name := "fnExactDeclare", fn := fun _ => fun
  | [d1, d2, d3] => { results := [.lit (.bool false)], args := [d1, d2, d3] }
  | _ => none }
def FnExactDeclareWrongFalsely : Prop := fnExactDeclareRow.holds Tryz.pinned (OpenSpec.ofChange fnExactDeclareWrong)

/-- 'laws.FnExactNthValues': WHATEVER THE INPUT: true; the input reads as it did. -/
def fnExactNthValuesSpec : ChangeSpec := { name := "fnExactNthValues", fn := fun _ => fun
  | [d1, d2, d3] => { results := [.lit (.bool true)], args := [d1, d2, d3] }
  | _ => none }
def fnExactNthValuesRow : OpenClaim := { program := "ytmpbobopdjbopaagreat", sum := "193f310fa85b148fb9e6d32f0006ff4a6007e6fe208179913980ff30d0ca3437", func := "loop.example/g00081/laws.FnExactNthValues", spec := "fnExactNthValues", unfollowed := true, recurses := true, apart := false }
def FnExactNthValuesSaid : Prop := fnExactNthValuesRow.holds Tryz.pinned (OpenSpec.ofChange fnExactNthValuesSpec)

/-- ITS FALSE NEIGHBOUR: 'it returns false'. Refute it at one input. -/
def fnExactNthValuesWrong : ChangeSpec := { name := "fnExactNthValues", fn := fun _ => fun
  | [d1, d2, d3] => { results := [.lit (.bool false)], args := [d1, d2, d3] }
  | _ => none }
def FnExactNthValuesWrongFalsely : Prop := fnExactNthValuesRow.holds Tryz.pinned (OpenSpec.ofChange fnExactNthValuesWrong)

/- THE SECOND FORM. 'bulk': how many values and letters a reading holds, each counted each time it is reached (what is shared counts as often as it is met; a slice's spare places count too). A statement '..UptoSaid' is the law's where the arguments, and the package variables that the reading takes, are together of bulk at most 1048576: NARROWER than '..Said'. Prove '..Said' where nothing that the law and all that it calls make is longer than what came in: it says more and counts as full. Else prove '..UptoSaid'. A law counts once. -/
mutual
def uptoBulk {H : Type} : DataW H → Nat
  | .lit (.string bytes) => bytes.length + 1
  | .lit _ => 1
  | .nil => 1
  | .ptr d => uptoBulk d + 1
  | .slice elems spare => uptoBulkAll elems + uptoBulkAll spare + 1
  | .agg parts => uptoBulkAll parts + 1
  | .iface _ d => uptoBulk d + 1
  | .map entries => uptoBulkEntries entries + 1
  | .held _ => 1
def uptoBulkAll {H : Type} : List (DataW H) → Nat
  | [] => 0
  | d :: r => uptoBulk d + uptoBulkAll r
def uptoBulkEntries {H : Type} : List (Lit × DataW H) → Nat
  | [] => 0
  | x :: r => uptoBulkEntry x + uptoBulkEntries r
def uptoBulkEntry {H : Type} : Lit × DataW H → Nat
  | (.string bytes, d) => bytes.length + uptoBulk d + 1
  | (_, d) => uptoBulk d + 1
 end
def uptoSmall : (H : Type) → List (DataW H) → Bool := fun _ ds => decide (uptoBulkAll ds ≤ 1048576)
def OpenSpec.upto (s : _root_.Go.ChangeSpec) : _root_.Go.OpenSpec := { _root_.Go.OpenSpec.ofChange s with cond := some uptoSmall }

/-- 'laws.FnExactBind', WHERE WHAT IT READS IS OF BULK AT MOST 1048576: true; the input reads as it did. -/
def fnExactBindUptoRow : OpenClaim := { program := "ytmpbobopdjbopaagreat", sum := "193f310fa85b148fb9e6d32f0006ff4a6007e6fe208179913980ff30d0ca3437", func := "loop.example/g00081/laws.FnExactBind", spec := "fnExactBind", unfollowed := true, recurses := true, apart := false, narrowed := true }
def FnExactBindUptoSaid : Prop := fnExactBindUptoRow.holds Tryz.pinned (OpenSpec.upto fnExactBindSpec)

/-- 'laws.FnExactWeaken', WHERE WHAT IT READS IS OF BULK AT MOST 1048576: true; the input reads as it did. -/
def fnExactWeakenUptoRow : OpenClaim := { program := "ytmpbobopdjbopaagreat", sum := "193f310fa85b148fb9e6d32f0006ff4a6007e6fe208179913980ff30d0ca3437", func := "loop.example/g00081/laws.FnExactWeaken", spec := "fnExactWeaken", unfollowed := true, recurses := true, apart := false, narrowed := true }
def FnExactWeakenUptoSaid : Prop := fnExactWeakenUptoRow.holds Tryz.pinned (OpenSpec.upto fnExactWeakenSpec)

/-- 'laws.FnExactPush', WHERE WHAT IT READS IS OF BULK AT MOST 1048576: true; the input reads as it did. -/
def fnExactPushUptoRow : OpenClaim := { program := "ytmpbobopdjbopaagreat", sum := "193f310fa85b148fb9e6d32f0006ff4a6007e6fe208179913980ff30d0ca3437", func := "loop.example/g00081/laws.FnExactPush", spec := "fnExactPush", unfollowed := true, recurses := true, apart := false, narrowed := true }
def FnExactPushUptoSaid : Prop := fnExactPushUptoRow.holds Tryz.pinned (OpenSpec.upto fnExactPushSpec)

/-- 'laws.FnExactPop', WHERE WHAT IT READS IS OF BULK AT MOST 1048576: true; the input reads as it did. -/
def fnExactPopUptoRow : OpenClaim := { program := "ytmpbobopdjbopaagreat", sum := "193f310fa85b148fb9e6d32f0006ff4a6007e6fe208179913980ff30d0ca3437", func := "loop.example/g00081/laws.FnExactPop", spec := "fnExactPop", unfollowed := true, recurses := true, apart := false, narrowed := true }
def FnExactPopUptoSaid : Prop := fnExactPopUptoRow.holds Tryz.pinned (OpenSpec.upto fnExactPopSpec)

/-- 'laws.FnExactDeclare', WHERE WHAT IT READS IS OF BULK AT MOST 1048576: true; the input reads as it did. -/
def fnExactDeclareUptoRow : OpenClaim := { program := "ytmpbobopdjbopaagreat", sum := "193f310fa85b148fb9e6d32f0006ff4a6007e6fe208179913980ff30d0ca3437", func := "loop.example/g00081/laws.FnExactDeclare", spec := "fnExactDeclare", unfollowed := true, recurses := true, apart := false, narrowed := true }
def FnExactDeclareUptoSaid : Prop := fnExactDeclareUptoRow.holds Tryz.pinned (OpenSpec.upto fnExactDeclareSpec)

/-- 'laws.FnExactNthValues', WHERE WHAT IT READS IS OF BULK AT MOST 1048576: true; the input reads as it did. -/
def fnExactNthValuesUptoRow : OpenClaim := { program := "ytmpbobopdjbopaagreat", sum := "193f310fa85b148fb9e6d32f0006ff4a6007e6fe208179913980ff30d0ca3437", func := "loop.example/g00081/laws.FnExactNthValues", spec := "fnExactNthValues", unfollowed := true, recurses := true, apart := false, narrowed := true }
def FnExactNthValuesUptoSaid : Prop := fnExactNthValuesUptoRow.holds Tryz.pinned (OpenSpec.upto fnExactNthValuesSpec)

end Rows
end Go.Proofs.YtmpbobopdjbopaaGreat
