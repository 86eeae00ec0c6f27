/- Facts about the program that the row of laws.FnExactFirstFails is bound to. No statement is proved here. -/
import Derived.Test.YtglikghdpmkioaaR0
set_option linter.unusedVariables false
set_option maxRecDepth 100000
namespace Go.Proofs.Ytglikghdpmkioaa
open Go.ChangeShapes Go.WideShapes Go.ChangeAt Go.RowKit Go.Vsi

theorem row_f1 : (Rows.fnExactFirstFailsRow.inPlace == Try.checked.prog.inPlace 9) = true := by kernel_rfl
theorem row_f2 : (Rows.fnExactFirstFailsRow.unfollowed == Try.checked.prog.unfollowed 9) = true := by kernel_rfl
theorem row_f3 : (Rows.fnExactFirstFailsRow.recurses == Try.checked.prog.recurses 9) = true := by kernel_rfl
theorem row_f4 : (Rows.fnExactFirstFailsRow.named == Try.checked.prog.varsNamed 9) = true := by kernel_rfl
theorem row_f5 : (Rows.fnExactFirstFailsRow.plainKeys == Try.checked.prog.plainKeys) = true := by kernel_rfl
theorem row_f6 : Try.checked.prog.stopsHeard = true := by kernel_rfl
theorem row_f7 : Try.checked.prog.mayEnter = true := by kernel_rfl
theorem row_f8 : (Rows.fnExactFirstFailsRow.lifted == Try.checked.prog.liftsFinal) = true := by kernel_rfl

end Go.Proofs.Ytglikghdpmkioaa
