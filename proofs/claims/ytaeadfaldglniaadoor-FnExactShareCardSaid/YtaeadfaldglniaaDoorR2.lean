/- Facts about the program that the row of laws.FnExactShare is bound to. No statement is proved here. -/
import Derived.Test.YtaeadfaldglniaaDoorR0
set_option linter.unusedVariables false
set_option maxRecDepth 100000
namespace Go.Proofs.YtaeadfaldglniaaDoor
open Go.ChangeShapes Go.WideShapes Go.ChangeAt Go.RowKit Go.Vsi

theorem row_f1 : (Rows.fnExactShareRow.inPlace == Tryd.checked.prog.inPlace 3) = true := by kernel_rfl
theorem row_f2 : (Rows.fnExactShareRow.unfollowed == Tryd.checked.prog.unfollowed 3) = true := by kernel_rfl
theorem row_f3 : (Rows.fnExactShareRow.recurses == Tryd.checked.prog.recurses 3) = true := by kernel_rfl
theorem row_f4 : (Rows.fnExactShareRow.named == Tryd.checked.prog.varsNamed 3) = true := by kernel_rfl
theorem row_f5 : (Rows.fnExactShareRow.plainKeys == Tryd.checked.prog.plainKeys) = true := by kernel_rfl
theorem row_f6 : Tryd.checked.prog.stopsHeard = true := by kernel_rfl
theorem row_f7 : Tryd.checked.prog.mayEnter = true := by kernel_rfl
theorem row_f8 : (Rows.fnExactShareRow.lifted == Tryd.checked.prog.liftsFinal) = true := by kernel_rfl

end Go.Proofs.YtaeadfaldglniaaDoor
