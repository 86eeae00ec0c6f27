/-
  No cell of these rows narrows 'for every input' (looked for: loops, veiled, ifaces, maps, wideKeys, modest, calm, conditions, laid).
  DERIVED. THE GIVEN ROWS OF THIS SEAT. 12 by the template 'for every input the law returns true; each argument reads behind the call as it read before'; 0 by the template 'total and deterministic' (their statements: YtppcdaliielpgaaTotals.lean).
  GIVEN WITH THE SEED: the statements are not yours to turn. If you find one false, say at which input.
  Laid BY PROGRAM, IN A SANDBOX (cutbox-rows.mjs): the forced cells as the released guide's own fill.sh prints them over the translation 2e186fa0c1721f51… (all of the seat's roots in one cut). By AI agents, Wed Nov 11 2026. No macro, syntax, notation, axiom, sorry.
-/
import Derived.Test.YtppcdaliielpgaaChecked
import GoSem.Claim
import GoSem.ClaimJoined
import GoSem.ClaimMapViews
import Derived.JoinedTies
import Derived.KernelRfl
namespace Go.Proofs.Ytppcdaliielpgaa
/- THE CELL 'sum', in the pinned program and in every row, IS THE sha256 OF THE DUMP (.gsa) THAT YtppcdaliielpgaaProg.lean LOADS. Nothing in Lean hashes anything: it is a label: what it is worth is what the hold of that sum in a sandbox is worth. -/
noncomputable def Try.pinned : Pinned := { name := "ytppcdaliielpgaa", sum := "2e186fa0c1721f51135d44bbf7d2b27b6feb166a33742876d3f380149276849f", checked := Try.checked }
namespace Rows
def none {H : Type} : Left H := { results := [], args := [] }

/-- 'laws.FnExactMustBars': WHATEVER THE INPUT: true; the input reads as it did. -/
def fnExactMustBarsSpec : ChangeSpec := { name := "fnExactMustBars", fn := fun _ => fun
  | [d] => { results := [.lit (.bool true)], args := [d] }
  | _ => none }
def fnExactMustBarsRow : OpenClaim := { program := "ytppcdaliielpgaa", sum := "2e186fa0c1721f51135d44bbf7d2b27b6feb166a33742876d3f380149276849f", func := "loop.example/g00081/laws.FnExactMustBars", spec := "fnExactMustBars", unfollowed := true, recurses := true, apart := false }
def FnExactMustBarsSaid : Prop := fnExactMustBarsRow.holds Try.pinned (OpenSpec.ofChange fnExactMustBarsSpec)

/-- ITS FALSE NEIGHBOUR: 'it returns false'. Refute it at one input. -/
def fnExactMustBarsWrong : ChangeSpec := { name := "fnExactMustBars", fn := fun _ => fun
  | [d] => { results := [.lit (.bool false)], args := [d] }
  | _ => none }
def FnExactMustBarsWrongFalsely : Prop := fnExactMustBarsRow.holds Try.pinned (OpenSpec.ofChange fnExactMustBarsWrong)

/-- 'laws.FnExactColourOk': WHATEVER THE INPUT: true; the input reads as it did. -/
def fnExactColourOkSpec : ChangeSpec := { name := "fnExactColourOk", fn := fun _ => fun
  | [d1, d2] => { results := [.lit (.bool true)], args := [d1, d2] }
  | _ => none }
def fnExactColourOkRow : OpenClaim := { program := "ytppcdaliielpgaa", sum := "2e186fa0c1721f51135d44bbf7d2b27b6feb166a33742876d3f380149276849f", func := "loop.example/g00081/laws.FnExactColourOk", spec := "fnExactColourOk", unfollowed := true, recurses := true, apart := false }
def FnExactColourOkSaid : Prop := fnExactColourOkRow.holds Try.pinned (OpenSpec.ofChange fnExactColourOkSpec)

/-- ITS FALSE NEIGHBOUR: 'it returns false'. Refute it at one input. -/
def fnExactColourOkWrong : ChangeSpec := { name := "fnExactColourOk", fn := fun _ => fun
  | [d1, d2] => { results := [.lit (.bool false)], args := [d1, d2] }
  | _ => none }
def FnExactColourOkWrongFalsely : Prop := fnExactColourOkRow.holds Try.pinned (OpenSpec.ofChange fnExactColourOkWrong)

/-- 'laws.FnColoured': WHATEVER THE INPUT: true; the input reads as it did. -/
def fnColouredSpec : ChangeSpec := { name := "fnColoured", fn := fun _ => fun
  | [d] => { results := [.lit (.bool true)], args := [d] }
  | _ => none }
def fnColouredRow : OpenClaim := { program := "ytppcdaliielpgaa", sum := "2e186fa0c1721f51135d44bbf7d2b27b6feb166a33742876d3f380149276849f", func := "loop.example/g00081/laws.FnColoured", spec := "fnColoured", unfollowed := true, recurses := true, apart := false }
def FnColouredSaid : Prop := fnColouredRow.holds Try.pinned (OpenSpec.ofChange fnColouredSpec)

/-- ITS FALSE NEIGHBOUR: 'it returns false'. Refute it at one input. -/
def fnColouredWrong : ChangeSpec := { name := "fnColoured", fn := fun _ => fun
  | [d] => { results := [.lit (.bool false)], args := [d] }
  | _ => none }
def FnColouredWrongFalsely : Prop := fnColouredRow.holds Try.pinned (OpenSpec.ofChange fnColouredWrong)

/-- 'laws.FnMerged': WHATEVER THE INPUT: true; the input reads as it did. -/
def fnMergedSpec : ChangeSpec := { name := "fnMerged", fn := fun _ => fun
  | [d] => { results := [.lit (.bool true)], args := [d] }
  | _ => none }
def fnMergedRow : OpenClaim := { program := "ytppcdaliielpgaa", sum := "2e186fa0c1721f51135d44bbf7d2b27b6feb166a33742876d3f380149276849f", func := "loop.example/g00081/laws.FnMerged", spec := "fnMerged", unfollowed := true, recurses := true, apart := false }
def FnMergedSaid : Prop := fnMergedRow.holds Try.pinned (OpenSpec.ofChange fnMergedSpec)

/-- ITS FALSE NEIGHBOUR: 'it returns false'. Refute it at one input. -/
def fnMergedWrong : ChangeSpec := { name := "fnMerged", fn := fun _ => fun
  | [d] => { results := [.lit (.bool false)], args := [d] }
  | _ => none }
def FnMergedWrongFalsely : Prop := fnMergedRow.holds Try.pinned (OpenSpec.ofChange fnMergedWrong)

/-- 'laws.FnExactCrowdOf': WHATEVER THE INPUT: true; the input reads as it did. -/
def fnExactCrowdOfSpec : ChangeSpec := { name := "fnExactCrowdOf", fn := fun _ => fun
  | [d1, d2] => { results := [.lit (.bool true)], args := [d1, d2] }
  | _ => none }
def fnExactCrowdOfRow : OpenClaim := { program := "ytppcdaliielpgaa", sum := "2e186fa0c1721f51135d44bbf7d2b27b6feb166a33742876d3f380149276849f", func := "loop.example/g00081/laws.FnExactCrowdOf", spec := "fnExactCrowdOf", unfollowed := true, recurses := true, apart := false }
def FnExactCrowdOfSaid : Prop := fnExactCrowdOfRow.holds Try.pinned (OpenSpec.ofChange fnExactCrowdOfSpec)

/-- ITS FALSE NEIGHBOUR: 'it returns false'. Refute it at one input. -/
def fnExactCrowdOfWrong : ChangeSpec := { name := "fnExactCrowdOf", fn := fun _ => fun
  | [d1, d2] => { results := [.lit (.bool false)], args := [d1, d2] }
  | _ => none }
def FnExactCrowdOfWrongFalsely : Prop := fnExactCrowdOfRow.holds Try.pinned (OpenSpec.ofChange fnExactCrowdOfWrong)

/-- 'laws.FnAlone': WHATEVER THE INPUT: true; the input reads as it did. -/
def fnAloneSpec : ChangeSpec := { name := "fnAlone", fn := fun _ => fun
  | [d] => { results := [.lit (.bool true)], args := [d] }
  | _ => none }
def fnAloneRow : OpenClaim := { program := "ytppcdaliielpgaa", sum := "2e186fa0c1721f51135d44bbf7d2b27b6feb166a33742876d3f380149276849f", func := "loop.example/g00081/laws.FnAlone", spec := "fnAlone", unfollowed := true, recurses := true, apart := false }
def FnAloneSaid : Prop := fnAloneRow.holds Try.pinned (OpenSpec.ofChange fnAloneSpec)

/-- ITS FALSE NEIGHBOUR: 'it returns false'. Refute it at one input. -/
def fnAloneWrong : ChangeSpec := { name := "fnAlone", fn := fun _ => fun
  | [d] => { results := [.lit (.bool false)], args := [d] }
  | _ => none }
def FnAloneWrongFalsely : Prop := fnAloneRow.holds Try.pinned (OpenSpec.ofChange fnAloneWrong)

/-- 'laws.FnExactWidthOf': WHATEVER THE INPUT: true; the input reads as it did. -/
def fnExactWidthOfSpec : ChangeSpec := { name := "fnExactWidthOf", fn := fun _ => fun
  | [d1, d2] => { results := [.lit (.bool true)], args := [d1, d2] }
  | _ => none }
def fnExactWidthOfRow : OpenClaim := { program := "ytppcdaliielpgaa", sum := "2e186fa0c1721f51135d44bbf7d2b27b6feb166a33742876d3f380149276849f", func := "loop.example/g00081/laws.FnExactWidthOf", spec := "fnExactWidthOf", unfollowed := true, recurses := true, apart := false }
def FnExactWidthOfSaid : Prop := fnExactWidthOfRow.holds Try.pinned (OpenSpec.ofChange fnExactWidthOfSpec)

/-- ITS FALSE NEIGHBOUR: 'it returns false'. Refute it at one input. -/
def fnExactWidthOfWrong : ChangeSpec := { name := "fnExactWidthOf", fn := fun _ => fun
  | [d1, d2] => { results := [.lit (.bool false)], args := [d1, d2] }
  | _ => none }
def FnExactWidthOfWrongFalsely : Prop := fnExactWidthOfRow.holds Try.pinned (OpenSpec.ofChange fnExactWidthOfWrong)

/-- 'laws.FnExactLeaves': WHATEVER THE INPUT: true; the input reads as it did. -/
def fnExactLeavesSpec : ChangeSpec := { name := "fnExactLeaves", fn := fun _ => fun
  | [d1, d2] => { results := [.lit (.bool true)], args := [d1, d2] }
  | _ => none }
def fnExactLeavesRow : OpenClaim := { program := "ytppcdaliielpgaa", sum := "2e186fa0c1721f51135d44bbf7d2b27b6feb166a33742876d3f380149276849f", func := "loop.example/g00081/laws.FnExactLeaves", spec := "fnExactLeaves", unfollowed := true, recurses := true, apart := false }
def FnExactLeavesSaid : Prop := fnExactLeavesRow.holds Try.pinned (OpenSpec.ofChange fnExactLeavesSpec)

/-- ITS FALSE NEIGHBOUR: 'it returns false'. Refute it at one input. -/
def fnExactLeavesWrong : ChangeSpec := { name := "fnExactLeaves", fn := fun _ => fun
  | [d1, d2] => { results := [.lit (.bool false)], args := [d1, d2] }
  | _ => none }
def FnExactLeavesWrongFalsely : Prop := fnExactLeavesRow.holds Try.pinned (OpenSpec.ofChange fnExactLeavesWrong)

/-- 'laws.FnExactLiteralsOk': WHATEVER THE INPUT: true; the input reads as it did. -/
def fnExactLiteralsOkSpec : ChangeSpec := { name := "fnExactLiteralsOk", fn := fun _ => fun
  | [d1, d2] => { results := [.lit (.bool true)], args := [d1, d2] }
  | _ => none }
def fnExactLiteralsOkRow : OpenClaim := { program := "ytppcdaliielpgaa", sum := "2e186fa0c1721f51135d44bbf7d2b27b6feb166a33742876d3f380149276849f", func := "loop.example/g00081/laws.FnExactLiteralsOk", spec := "fnExactLiteralsOk", unfollowed := true, recurses := true, apart := false }
def FnExactLiteralsOkSaid : Prop := fnExactLiteralsOkRow.holds Try.pinned (OpenSpec.ofChange fnExactLiteralsOkSpec)

/-- ITS FALSE NEIGHBOUR: 'it returns false'. Refute it at one input. -/
def fnExactLiteralsOkWrong : ChangeSpec := { name := "fnExactLiteralsOk", fn := fun _ => fun
  | [d1, d2] => { results := [.lit (.bool false)], args := [d1, d2] }
  | _ => none }
def FnExactLiteralsOkWrongFalsely : Prop := fnExactLiteralsOkRow.holds Try.pinned (OpenSpec.ofChange fnExactLiteralsOkWrong)

/-- 'laws.FnExactColour': WHATEVER THE INPUT: true; the input reads as it did. -/
def fnExactColourSpec : ChangeSpec := { name := "fnExactColour", fn := fun _ => fun
  | [d1, d2] => { results := [.lit (.bool true)], args := [d1, d2] }
  | _ => none }
def fnExactColourRow : OpenClaim := { program := "ytppcdaliielpgaa", sum := "2e186fa0c1721f51135d44bbf7d2b27b6feb166a33742876d3f380149276849f", func := "loop.example/g00081/laws.FnExactColour", spec := "fnExactColour", unfollowed := true, recurses := true, apart := false }
def FnExactColourSaid : Prop := fnExactColourRow.holds Try.pinned (OpenSpec.ofChange fnExactColourSpec)

/-- ITS FALSE NEIGHBOUR: 'it returns false'. Refute it at one input. -/
def fnExactColourWrong : ChangeSpec := { name := "fnExactColour", fn := fun _ => fun
  | [d1, d2] => { results := [.lit (.bool false)], args := [d1, d2] }
  | _ => none }
def FnExactColourWrongFalsely : Prop := fnExactColourRow.holds Try.pinned (OpenSpec.ofChange fnExactColourWrong)

/-- 'laws.FnFlatParts': WHATEVER THE INPUT: true; the input reads as it did. -/
def fnFlatPartsSpec : ChangeSpec := { name := "fnFlatParts", fn := fun _ => fun
  | [d] => { results := [.lit (.bool true)], args := [d] }
  | _ => none }
def fnFlatPartsRow : OpenClaim := { program := "ytppcdaliielpgaa", sum := "2e186fa0c1721f51135d44bbf7d2b27b6feb166a33742876d3f380149276849f", func := "loop.example/g00081/laws.FnFlatParts", spec := "fnFlatParts", unfollowed := true, recurses := true, apart := false }
def FnFlatPartsSaid : Prop := fnFlatPartsRow.holds Try.pinned (OpenSpec.ofChange fnFlatPartsSpec)

/-- ITS FALSE NEIGHBOUR: 'it returns false'. Refute it at one input. -/
def fnFlatPartsWrong : ChangeSpec := { name := "fnFlatParts", fn := fun _ => fun
  | [d] => { results := [.lit (.bool false)], args := [d] }
  | _ => none }
def FnFlatPartsWrongFalsely : Prop := fnFlatPartsRow.holds Try.pinned (OpenSpec.ofChange fnFlatPartsWrong)

/-- 'laws.FnExactSessionOk': WHATEVER THE INPUT: true; the input reads as it did. -/
def fnExactSessionOkSpec : ChangeSpec := { name := "fnExactSessionOk", fn := fun _ => fun
  | [d] => { results := [.lit (.bool true)], args := [d] }
  | _ => none }
def fnExactSessionOkRow : OpenClaim := { program := "ytppcdaliielpgaa", sum := "2e186fa0c1721f51135d44bbf7d2b27b6feb166a33742876d3f380149276849f", func := "loop.example/g00081/laws.FnExactSessionOk", spec := "fnExactSessionOk", unfollowed := true, recurses := true, apart := false }
def FnExactSessionOkSaid : Prop := fnExactSessionOkRow.holds Try.pinned (OpenSpec.ofChange fnExactSessionOkSpec)

/-- ITS FALSE NEIGHBOUR: 'it returns false'. Refute it at one input. -/
def fnExactSessionOkWrong : ChangeSpec := { name := "fnExactSessionOk", fn := fun _ => fun
  | [d] => { results := [.lit (.bool false)], args := [d] }
  | _ => none }
def FnExactSessionOkWrongFalsely : Prop := fnExactSessionOkRow.holds Try.pinned (OpenSpec.ofChange fnExactSessionOkWrong)

/- THE SECOND FORM. 'bulk': how many values and letters a reading holds, each counted each time it is reached (what is shared counts as often as it is met; a slice's spare places count too). A statement '..UptoSaid' is the law's where the arguments, and the package variables that the reading takes, are together of bulk at most 1048576: NARROWER than '..Said'. Prove '..Said' where nothing that the law and all that it calls make is longer than what came in: it says more and counts as full. Else prove '..UptoSaid'. A law counts once. -/
mutual
def uptoBulk {H : Type} : DataW H → Nat
  | .lit (.string bytes) => bytes.length + 1
  | .lit _ => 1
  | .nil => 1
  | .ptr d => uptoBulk d + 1
  | .slice elems spare => uptoBulkAll elems + uptoBulkAll spare + 1
  | .agg parts => uptoBulkAll parts + 1
  | .iface _ d => uptoBulk d + 1
  | .map entries => uptoBulkEntries entries + 1
  | .held _ => 1
def uptoBulkAll {H : Type} : List (DataW H) → Nat
  | [] => 0
  | d :: r => uptoBulk d + uptoBulkAll r
def uptoBulkEntries {H : Type} : List (Lit × DataW H) → Nat
  | [] => 0
  | x :: r => uptoBulkEntry x + uptoBulkEntries r
def uptoBulkEntry {H : Type} : Lit × DataW H → Nat
  | (.string bytes, d) => bytes.length + uptoBulk d + 1
  | (_, d) => uptoBulk d + 1
 end
def uptoSmall : (H : Type) → List (DataW H) → Bool := fun _ ds => decide (uptoBulkAll ds ≤ 1048576)
def OpenSpec.upto (s : _root_.Go.ChangeSpec) : _root_.Go.OpenSpec := { _root_.Go.OpenSpec.ofChange s with cond := some uptoSmall }

/-- 'laws.FnExactMustBars', WHERE WHAT IT READS IS OF BULK AT MOST 1048576: true; the input reads as it did. -/
def fnExactMustBarsUptoRow : OpenClaim := { program := "ytppcdaliielpgaa", sum := "2e186fa0c1721f51135d44bbf7d2b27b6feb166a33742876d3f380149276849f", func := "loop.example/g00081/laws.FnExactMustBars", spec := "fnExactMustBars", unfollowed := true, recurses := true, apart := false, narrowed := true }
def FnExactMustBarsUptoSaid : Prop := fnExactMustBarsUptoRow.holds Try.pinned (OpenSpec.upto fnExactMustBarsSpec)

/-- 'laws.FnExactColourOk', WHERE WHAT IT READS IS OF BULK AT MOST 1048576: true; the input reads as it did. -/
def fnExactColourOkUptoRow : OpenClaim := { program := "ytppcdaliielpgaa", sum := "2e186fa0c1721f51135d44bbf7d2b27b6feb166a33742876d3f380149276849f", func := "loop.example/g00081/laws.FnExactColourOk", spec := "fnExactColourOk", unfollowed := true, recurses := true, apart := false, narrowed := true }
def FnExactColourOkUptoSaid : Prop := fnExactColourOkUptoRow.holds Try.pinned (OpenSpec.upto fnExactColourOkSpec)

/-- 'laws.FnColoured', WHERE WHAT IT READS IS OF BULK AT MOST 1048576: true; the input reads as it did. -/
def fnColouredUptoRow : OpenClaim := { program := "ytppcdaliielpgaa", sum := "2e186fa0c1721f51135d44bbf7d2b27b6feb166a33742876d3f380149276849f", func := "loop.example/g00081/laws.FnColoured", spec := "fnColoured", unfollowed := true, recurses := true, apart := false, narrowed := true }
def FnColouredUptoSaid : Prop := fnColouredUptoRow.holds Try.pinned (OpenSpec.upto fnColouredSpec)

/-- 'laws.FnMerged', WHERE WHAT IT READS IS OF BULK AT MOST 1048576: true; the input reads as it did. -/
def fnMergedUptoRow : OpenClaim := { program := "ytppcdaliielpgaa", sum := "2e186fa0c1721f51135d44bbf7d2b27b6feb166a33742876d3f380149276849f", func := "loop.example/g00081/laws.FnMerged", spec := "fnMerged", unfollowed := true, recurses := true, apart := false, narrowed := true }
def FnMergedUptoSaid : Prop := fnMergedUptoRow.holds Try.pinned (OpenSpec.upto fnMergedSpec)

/-- 'laws.FnExactCrowdOf', WHERE WHAT IT READS IS OF BULK AT MOST 1048576: true; the input reads as it did. -/
def fnExactCrowdOfUptoRow : OpenClaim := { program := "ytppcdaliielpgaa", sum := "2e186fa0c1721f51135d44bbf7d2b27b6feb166a33742876d3f380149276849f", func := "loop.example/g00081/laws.FnExactCrowdOf", spec := "fnExactCrowdOf", unfollowed := true, recurses := true, apart := false, narrowed := true }
def FnExactCrowdOfUptoSaid : Prop := fnExactCrowdOfUptoRow.holds Try.pinned (OpenSpec.upto fnExactCrowdOfSpec)

/-- 'laws.FnAlone', WHERE WHAT IT READS IS OF BULK AT MOST 1048576: true; the input reads as it did. -/
def fnAloneUptoRow : OpenClaim := { program := "ytppcdaliielpgaa", sum := "2e186fa0c1721f51135d44bbf7d2b27b6feb166a33742876d3f380149276849f", func := "loop.example/g00081/laws.FnAlone", spec := "fnAlone", unfollowed := true, recurses := true, apart := false, narrowed := true }
def FnAloneUptoSaid : Prop := fnAloneUptoRow.holds Try.pinned (OpenSpec.upto fnAloneSpec)

/-- 'laws.FnExactWidthOf', WHERE WHAT IT READS IS OF BULK AT MOST 1048576: true; the input reads as it did. -/
def fnExactWidthOfUptoRow : OpenClaim := { program := "ytppcdaliielpgaa", sum := "2e186fa0c1721f51135d44bbf7d2b27b6feb166a33742876d3f380149276849f", func := "loop.example/g00081/laws.FnExactWidthOf", spec := "fnExactWidthOf", unfollowed := true, recurses := true, apart := false, narrowed := true }
def FnExactWidthOfUptoSaid : Prop := fnExactWidthOfUptoRow.holds Try.pinned (OpenSpec.upto fnExactWidthOfSpec)

/-- 'laws.FnExactLeaves', WHERE WHAT IT READS IS OF BULK AT MOST 1048576: true; the input reads as it did. -/
def fnExactLeavesUptoRow : OpenClaim := { program := "ytppcdaliielpgaa", sum := "2e186fa0c1721f51135d44bbf7d2b27b6feb166a33742876d3f380149276849f", func := "loop.example/g00081/laws.FnExactLeaves", spec := "fnExactLeaves", unfollowed := true, recurses := true, apart := false, narrowed := true }
def FnExactLeavesUptoSaid : Prop := fnExactLeavesUptoRow.holds Try.pinned (OpenSpec.upto fnExactLeavesSpec)

/-- 'laws.FnExactLiteralsOk', WHERE WHAT IT READS IS OF BULK AT MOST 1048576: true; the input reads as it did. -/
def fnExactLiteralsOkUptoRow : OpenClaim := { program := "ytppcdaliielpgaa", sum := "2e186fa0c1721f51135d44bbf7d2b27b6feb166a33742876d3f380149276849f", func := "loop.example/g00081/laws.FnExactLiteralsOk", spec := "fnExactLiteralsOk", unfollowed := true, recurses := true, apart := false, narrowed := true }
def FnExactLiteralsOkUptoSaid : Prop := fnExactLiteralsOkUptoRow.holds Try.pinned (OpenSpec.upto fnExactLiteralsOkSpec)

/-- 'laws.FnExactColour', WHERE WHAT IT READS IS OF BULK AT MOST 1048576: true; the input reads as it did. -/
def fnExactColourUptoRow : OpenClaim := { program := "ytppcdaliielpgaa", sum := "2e186fa0c1721f51135d44bbf7d2b27b6feb166a33742876d3f380149276849f", func := "loop.example/g00081/laws.FnExactColour", spec := "fnExactColour", unfollowed := true, recurses := true, apart := false, narrowed := true }
def FnExactColourUptoSaid : Prop := fnExactColourUptoRow.holds Try.pinned (OpenSpec.upto fnExactColourSpec)

/-- 'laws.FnFlatParts', WHERE WHAT IT READS IS OF BULK AT MOST 1048576: true; the input reads as it did. -/
def fnFlatPartsUptoRow : OpenClaim := { program := "ytppcdaliielpgaa", sum := "2e186fa0c1721f51135d44bbf7d2b27b6feb166a33742876d3f380149276849f", func := "loop.example/g00081/laws.FnFlatParts", spec := "fnFlatParts", unfollowed := true, recurses := true, apart := false, narrowed := true }
def FnFlatPartsUptoSaid : Prop := fnFlatPartsUptoRow.holds Try.pinned (OpenSpec.upto fnFlatPartsSpec)

/-- 'laws.FnExactSessionOk', WHERE WHAT IT READS IS OF BULK AT MOST 1048576: true; the input reads as it did. -/
def fnExactSessionOkUptoRow : OpenClaim := { program := "ytppcdaliielpgaa", sum := "2e186fa0c1721f51135d44bbf7d2b27b6feb166a33742876d3f380149276849f", func := "loop.example/g00081/laws.FnExactSessionOk", spec := "fnExactSessionOk", unfollowed := true, recurses := true, apart := false, narrowed := true }
def FnExactSessionOkUptoSaid : Prop := fnExactSessionOkUptoRow.holds Try.pinned (OpenSpec.upto fnExactSessionOkSpec)

end Rows
end Go.Proofs.Ytppcdaliielpgaa
