/- Whatever the arguments that it is handed, laws.FnExactParts answers true, and what the arguments hold reads behind the call as before. Conditions: none. -/
import Derived.Test.YtaeadfaldglniaaGreatR2
set_option linter.unusedVariables false
set_option maxRecDepth 100000
namespace Go.Proofs.YtaeadfaldglniaaGreat
open Go.ChangeShapes Go.WideShapes Go.ChangeAt Go.RowKit Go.Vsi

theorem row_closed : joinedFacts Tryz.checked.prog 3 Tryz.f3 Rows.fnExactPartsSpec Rows.fnExactPartsRow = true := by
  unfold joinedFacts
  rw [row_f1, row_f2, row_f3, row_f4, row_f5, row_f6, row_f7, row_f8]
  kernel_rfl

theorem fnExactParts_holds : Rows.FnExactPartsSaid :=
  OpenClaim.holds_of_wide 3 Tryz.f3 rfl rfl rfl rfl rfl rfl rfl ⟨rfl, rfl, rfl, rfl, rfl⟩ rfl rfl rfl rfl rfl (by kernel_rfl) Tryz.func3 row_closed
    (of_decide_eq_true (by kernel_rfl)) (by unfold Func.isWrapper; rw [if_neg (of_decide_eq_false (by kernel_rfl))]; exact ⟨rfl, rfl⟩)
    (fun os started H enc _ => law_lifts os started H enc)

end Go.Proofs.YtaeadfaldglniaaGreat
