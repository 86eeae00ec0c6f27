/- Whatever the arguments that it is handed, laws.FnExactReplace answers true, and what the arguments hold reads behind the call as before. Condition: the package-level tables that the call reads are as the program's text lays them; the card ties them to that text. -/
import Derived.Test.YtaeadfaldglniaaGreatDoorR2
import Derived.Test.YtaeadfaldglniaaGreatDoorCards
import Derived.Test.YtaeadfaldglniaaGreatDoorTie
import Derived.SevenTiedAt
set_option linter.unusedVariables false
set_option maxRecDepth 100000
namespace Go.Proofs.YtaeadfaldglniaaGreatDoor
open Go.ChangeShapes Go.WideShapes Go.ChangeAt Go.RowKit Go.Vsi

theorem row_closed : joinedFacts Tryz.checked.prog 6 Tryz.f6 Rows.fnExactReplaceSpec Rows.fnExactReplaceRow = true := by
  unfold joinedFacts
  rw [row_f1, row_f2, row_f3, row_f4, row_f5, row_f6, row_f7, row_f8]
  kernel_rfl

theorem fnExactReplace_row : Rows.FnExactReplaceSaid :=
  OpenClaim.holds_of_wide 6 Tryz.f6 rfl rfl rfl rfl rfl rfl rfl ⟨rfl, rfl, rfl, rfl, rfl⟩ rfl rfl rfl rfl rfl (by kernel_rfl) Tryz.func6 row_closed
    (of_decide_eq_true (by kernel_rfl)) (by unfold Func.isWrapper; rw [if_neg (of_decide_eq_false (by kernel_rfl))]; exact ⟨rfl, rfl⟩)
    (fun os started H enc _ => law_lifts os started H enc)

theorem law_stand : ∀ t ∈ Tryz.f6.params.toList, Tryz.prog.wantsStandIn t = false := by
  rw [show Tryz.f6.params.toList = [36, 39, 2, 39] from by kernel_rfl]
  intro t ht
  simp only [List.mem_cons, List.not_mem_nil, or_false] at ht
  rcases ht with rfl | rfl | rfl | rfl
  · exact (show Tryz.prog.wantsStandIn 36 = false by kernel_rfl)
  · exact (show Tryz.prog.wantsStandIn 39 = false by kernel_rfl)
  · exact (show Tryz.prog.wantsStandIn 2 = false by kernel_rfl)
  · exact (show Tryz.prog.wantsStandIn 39 = false by kernel_rfl)

theorem fnExactReplace_holds : Rows.FnExactReplaceCardSaid :=
  Claim7.holds_tied_plain_at .later [] [.data, .data, .data] true (true, "6430b199564d49d90d26e578e51111f34b43d5a714ff9c77a73650662fc00fe6") true
    fnExactReplace_row (fun _ h => by cases h) (by kernel_rfl) (fun _ h => by cases h) fnExactReplace_row_tie rfl ⟨rfl, rfl⟩ (by kernel_rfl) rfl
    (fun f fn hf hfn => by
      obtain rfl : f = 6 := Option.some.inj ((show Tryz.prog.funcNamed "loop.example/g00081/laws.FnExactReplace" = some 6 by kernel_rfl).symm.trans hf) |>.symm
      obtain rfl : fn = Tryz.f6 := (Option.some.inj (Tryz.func6.symm.trans hfn)).symm
      exact ⟨by kernel_rfl, fun j t ht => law_stand t (by
        rw [← Array.getElem?_toList] at ht
        exact List.mem_of_getElem? ht)⟩)
    (by kernel_rfl)

end Go.Proofs.YtaeadfaldglniaaGreatDoor
