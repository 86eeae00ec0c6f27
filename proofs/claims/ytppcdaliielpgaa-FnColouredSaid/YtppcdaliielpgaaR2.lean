/- Facts about the program that the row of laws.FnColoured is bound to. No statement is proved here. -/
import Derived.Test.YtppcdaliielpgaaR0
set_option linter.unusedVariables false
set_option maxRecDepth 100000
namespace Go.Proofs.Ytppcdaliielpgaa
open Go.ChangeShapes Go.WideShapes Go.ChangeAt Go.RowKit Go.Vsi

theorem row_f1 : (Rows.fnColouredRow.inPlace == Try.checked.prog.inPlace 5) = true := by kernel_rfl
theorem row_f2 : (Rows.fnColouredRow.unfollowed == Try.checked.prog.unfollowed 5) = true := by kernel_rfl
theorem row_f3 : (Rows.fnColouredRow.recurses == Try.checked.prog.recurses 5) = true := by kernel_rfl
theorem row_f4 : (Rows.fnColouredRow.named == Try.checked.prog.varsNamed 5) = true := by kernel_rfl
theorem row_f5 : (Rows.fnColouredRow.plainKeys == Try.checked.prog.plainKeys) = true := by kernel_rfl
theorem row_f6 : Try.checked.prog.stopsHeard = true := by kernel_rfl
theorem row_f7 : Try.checked.prog.mayEnter = true := by kernel_rfl
theorem row_f8 : (Rows.fnColouredRow.lifted == Try.checked.prog.liftsFinal) = true := by kernel_rfl

end Go.Proofs.Ytppcdaliielpgaa
