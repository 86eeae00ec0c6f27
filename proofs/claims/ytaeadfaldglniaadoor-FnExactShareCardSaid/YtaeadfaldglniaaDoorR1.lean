/- Whatever the arguments that it is handed, laws.FnExactShare answers true, and what the arguments hold reads behind the call as before. Condition: the package-level tables that the call reads are as the program's text lays them; the card ties them to that text. -/
import Derived.Test.YtaeadfaldglniaaDoorR2
import Derived.Test.YtaeadfaldglniaaDoorCards
import Derived.Test.YtaeadfaldglniaaDoorTie
import Derived.SevenTiedAt
set_option linter.unusedVariables false
set_option maxRecDepth 100000
namespace Go.Proofs.YtaeadfaldglniaaDoor
open Go.ChangeShapes Go.WideShapes Go.ChangeAt Go.RowKit Go.Vsi

theorem row_closed : joinedFacts Tryd.checked.prog 3 Tryd.f3 Rows.fnExactShareSpec Rows.fnExactShareRow = true := by
  unfold joinedFacts
  rw [row_f1, row_f2, row_f3, row_f4, row_f5, row_f6, row_f7, row_f8]
  kernel_rfl

theorem fnExactShare_row : Rows.FnExactShareSaid :=
  OpenClaim.holds_of_wide 3 Tryd.f3 rfl rfl rfl rfl rfl rfl rfl ⟨rfl, rfl, rfl, rfl, rfl⟩ rfl rfl rfl rfl rfl (by kernel_rfl) Tryd.func3 row_closed
    (of_decide_eq_true (by kernel_rfl)) (by unfold Func.isWrapper; rw [if_neg (of_decide_eq_false (by kernel_rfl))]; exact ⟨rfl, rfl⟩)
    (fun os started H enc _ => law_lifts os started H enc)

theorem law_stand : ∀ t ∈ Tryd.f3.params.toList, Tryd.prog.wantsStandIn t = false := by
  rw [show Tryd.f3.params.toList = [22, 25] from by kernel_rfl]
  intro t ht
  simp only [List.mem_cons, List.not_mem_nil, or_false] at ht
  rcases ht with rfl | rfl
  · exact (show Tryd.prog.wantsStandIn 22 = false by kernel_rfl)
  · exact (show Tryd.prog.wantsStandIn 25 = false by kernel_rfl)

theorem fnExactShare_holds : Rows.FnExactShareCardSaid :=
  Claim7.holds_tied_plain_at .later [] [.data, .data, .data] true (true, "bc7248713b77e7e780d83bc0e8ecc18c014ae6482646bb8fa35bbc4e4b0800bc") false
    fnExactShare_row (fun _ h => by cases h) (by kernel_rfl) (fun _ h => by cases h) fnExactShare_row_tie rfl ⟨rfl, rfl⟩ (by kernel_rfl) rfl
    (fun f fn hf hfn => by
      obtain rfl : f = 3 := Option.some.inj ((show Tryd.prog.funcNamed "loop.example/g00081/laws.FnExactShare" = some 3 by kernel_rfl).symm.trans hf) |>.symm
      obtain rfl : fn = Tryd.f3 := (Option.some.inj (Tryd.func3.symm.trans hfn)).symm
      exact ⟨by kernel_rfl, fun j t ht => law_stand t (by
        rw [← Array.getElem?_toList] at ht
        exact List.mem_of_getElem? ht)⟩)
    (by kernel_rfl)

end Go.Proofs.YtaeadfaldglniaaDoor
