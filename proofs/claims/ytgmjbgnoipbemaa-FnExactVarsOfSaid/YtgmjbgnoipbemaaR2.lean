/- Facts about the program that the row of laws.FnExactVarsOf is bound to. No statement is proved here. -/
import Derived.Test.YtgmjbgnoipbemaaR0
set_option linter.unusedVariables false
set_option maxRecDepth 100000
namespace Go.Proofs.Ytgmjbgnoipbemaa
open Go.ChangeShapes Go.WideShapes Go.ChangeAt Go.RowKit Go.Vsi

theorem row_f1 : (Rows.fnExactVarsOfRow.inPlace == Try.checked.prog.inPlace 3) = true := by kernel_rfl
theorem row_f2 : (Rows.fnExactVarsOfRow.unfollowed == Try.checked.prog.unfollowed 3) = true := by kernel_rfl
theorem row_f3 : (Rows.fnExactVarsOfRow.recurses == Try.checked.prog.recurses 3) = true := by kernel_rfl
theorem row_f4 : (Rows.fnExactVarsOfRow.named == Try.checked.prog.varsNamed 3) = true := by kernel_rfl
theorem row_f5 : (Rows.fnExactVarsOfRow.plainKeys == Try.checked.prog.plainKeys) = true := by kernel_rfl
theorem row_f6 : Try.checked.prog.stopsHeard = true := by kernel_rfl
theorem row_f7 : Try.checked.prog.mayEnter = true := by kernel_rfl
theorem row_f8 : (Rows.fnExactVarsOfRow.lifted == Try.checked.prog.liftsFinal) = true := by kernel_rfl

end Go.Proofs.Ytgmjbgnoipbemaa
