/- Whatever the arguments that it is handed, laws.FnExactWriteTerm answers true, and what the arguments hold reads behind the call as before. Condition: the package-level tables that the call reads are as the program's text lays them; the card ties them to that text. -/
import Derived.Test.YtligefedbeibiaaDoorR2
import Derived.Test.YtligefedbeibiaaDoorCards
import Derived.Test.YtligefedbeibiaaDoorTie
import Derived.SevenTiedAt
set_option linter.unusedVariables false
set_option maxRecDepth 100000
namespace Go.Proofs.YtligefedbeibiaaDoor
open Go.ChangeShapes Go.WideShapes Go.ChangeAt Go.RowKit Go.Vsi

theorem row_closed : joinedFacts Tryd.checked.prog 3 Tryd.f3 Rows.fnExactWriteTermSpec Rows.fnExactWriteTermRow = true := by
  unfold joinedFacts
  rw [row_f1, row_f2, row_f3, row_f4, row_f5, row_f6, row_f7, row_f8]
  kernel_rfl

theorem fnExactWriteTerm_row : Rows.FnExactWriteTermSaid :=
  OpenClaim.holds_of_wide 3 Tryd.f3 rfl rfl rfl rfl rfl rfl rfl ⟨rfl, rfl, rfl, rfl, rfl⟩ rfl rfl rfl rfl rfl (by kernel_rfl) Tryd.func3 row_closed
    (of_decide_eq_true (by kernel_rfl)) (by unfold Func.isWrapper; rw [if_neg (of_decide_eq_false (by kernel_rfl))]; exact ⟨rfl, rfl⟩)
    (fun os started H enc _ => law_lifts os started H enc)

theorem law_stand : ∀ t ∈ Tryd.f3.params.toList, Tryd.prog.wantsStandIn t = false := by
  rw [show Tryd.f3.params.toList = [22, 25] from by kernel_rfl]
  intro t ht
  simp only [List.mem_cons, List.not_mem_nil, or_false] at ht
  rcases ht with rfl | rfl
  · exact (show Tryd.prog.wantsStandIn 22 = false by kernel_rfl)
  · exact (show Tryd.prog.wantsStandIn 25 = false by kernel_rfl)

theorem fnExactWriteTerm_holds : Rows.FnExactWriteTermCardSaid :=
  Claim7.holds_tied_plain_at .later [] [.data, .data, .data] true (true, "35152df66fe49e80a33bdaa52fe11ff6a27db24d0828168a5d19629557683f7a") false
    fnExactWriteTerm_row (fun _ h => by cases h) (by kernel_rfl) (fun _ h => by cases h) fnExactWriteTerm_row_tie rfl ⟨rfl, rfl⟩ (by kernel_rfl) rfl
    (fun f fn hf hfn => by
      obtain rfl : f = 3 := Option.some.inj ((show Tryd.prog.funcNamed "loop.example/g00081/laws.FnExactWriteTerm" = some 3 by kernel_rfl).symm.trans hf) |>.symm
      obtain rfl : fn = Tryd.f3 := (Option.some.inj (Tryd.func3.symm.trans hfn)).symm
      exact ⟨by kernel_rfl, fun j t ht => law_stand t (by
        rw [← Array.getElem?_toList] at ht
        exact List.mem_of_getElem? ht)⟩)
    (by kernel_rfl)

end Go.Proofs.YtligefedbeibiaaDoor
