/- Facts about the program that the row of laws.FnDeclared is bound to. No statement is proved here. -/
import Derived.Test.YtfmjhfijkdlidaaR0
set_option linter.unusedVariables false
set_option maxRecDepth 100000
namespace Go.Proofs.Ytfmjhfijkdlidaa
open Go.ChangeShapes Go.WideShapes Go.ChangeAt Go.RowKit Go.Vsi

theorem row_f1 : (Rows.fnDeclaredRow.inPlace == Try.checked.prog.inPlace 3) = true := by kernel_rfl
theorem row_f2 : (Rows.fnDeclaredRow.unfollowed == Try.checked.prog.unfollowed 3) = true := by kernel_rfl
theorem row_f3 : (Rows.fnDeclaredRow.recurses == Try.checked.prog.recurses 3) = true := by kernel_rfl
theorem row_f4 : (Rows.fnDeclaredRow.named == Try.checked.prog.varsNamed 3) = true := by kernel_rfl
theorem row_f5 : (Rows.fnDeclaredRow.plainKeys == Try.checked.prog.plainKeys) = true := by kernel_rfl
theorem row_f6 : Try.checked.prog.stopsHeard = true := by kernel_rfl
theorem row_f7 : Try.checked.prog.mayEnter = true := by kernel_rfl
theorem row_f8 : (Rows.fnDeclaredRow.lifted == Try.checked.prog.liftsFinal) = true := by kernel_rfl

end Go.Proofs.Ytfmjhfijkdlidaa
