/- Facts about the program that the row of laws.FnExactParts is bound to. No statement is proved here. -/
import Derived.Test.YtaeadfaldglniaaGreatR0
set_option linter.unusedVariables false
set_option maxRecDepth 100000
namespace Go.Proofs.YtaeadfaldglniaaGreat
open Go.ChangeShapes Go.WideShapes Go.ChangeAt Go.RowKit Go.Vsi

theorem row_f1 : (Rows.fnExactPartsRow.inPlace == Tryz.checked.prog.inPlace 3) = true := by kernel_rfl
theorem row_f2 : (Rows.fnExactPartsRow.unfollowed == Tryz.checked.prog.unfollowed 3) = true := by kernel_rfl
theorem row_f3 : (Rows.fnExactPartsRow.recurses == Tryz.checked.prog.recurses 3) = true := by kernel_rfl
theorem row_f4 : (Rows.fnExactPartsRow.named == Tryz.checked.prog.varsNamed 3) = true := by kernel_rfl
theorem row_f5 : (Rows.fnExactPartsRow.plainKeys == Tryz.checked.prog.plainKeys) = true := by kernel_rfl
theorem row_f6 : Tryz.checked.prog.stopsHeard = true := by kernel_rfl
theorem row_f7 : Tryz.checked.prog.mayEnter = true := by kernel_rfl
theorem row_f8 : (Rows.fnExactPartsRow.lifted == Tryz.checked.prog.liftsFinal) = true := by kernel_rfl

end Go.Proofs.YtaeadfaldglniaaGreat
