/- Facts about the program that the row of laws.FnExactWriteTerm is bound to. No statement is proved here. -/
import Derived.Test.YtligefedbeibiaaDoorR0
set_option linter.unusedVariables false
set_option maxRecDepth 100000
namespace Go.Proofs.YtligefedbeibiaaDoor
open Go.ChangeShapes Go.WideShapes Go.ChangeAt Go.RowKit Go.Vsi

theorem row_f1 : (Rows.fnExactWriteTermRow.inPlace == Tryd.checked.prog.inPlace 3) = true := by kernel_rfl
theorem row_f2 : (Rows.fnExactWriteTermRow.unfollowed == Tryd.checked.prog.unfollowed 3) = true := by kernel_rfl
theorem row_f3 : (Rows.fnExactWriteTermRow.recurses == Tryd.checked.prog.recurses 3) = true := by kernel_rfl
theorem row_f4 : (Rows.fnExactWriteTermRow.named == Tryd.checked.prog.varsNamed 3) = true := by kernel_rfl
theorem row_f5 : (Rows.fnExactWriteTermRow.plainKeys == Tryd.checked.prog.plainKeys) = true := by kernel_rfl
theorem row_f6 : Tryd.checked.prog.stopsHeard = true := by kernel_rfl
theorem row_f7 : Tryd.checked.prog.mayEnter = true := by kernel_rfl
theorem row_f8 : (Rows.fnExactWriteTermRow.lifted == Tryd.checked.prog.liftsFinal) = true := by kernel_rfl

end Go.Proofs.YtligefedbeibiaaDoor
