/- Facts about the program that the row of laws.FnExactColour is bound to. No statement is proved here. -/
import Derived.Test.YtppcdaliielpgaaR0
set_option linter.unusedVariables false
set_option maxRecDepth 100000
namespace Go.Proofs.Ytppcdaliielpgaa
open Go.ChangeShapes Go.WideShapes Go.ChangeAt Go.RowKit Go.Vsi

theorem row_f1 : (Rows.fnExactColourRow.inPlace == Try.checked.prog.inPlace 12) = true := by kernel_rfl
theorem row_f2 : (Rows.fnExactColourRow.unfollowed == Try.checked.prog.unfollowed 12) = true := by kernel_rfl
theorem row_f3 : (Rows.fnExactColourRow.recurses == Try.checked.prog.recurses 12) = true := by kernel_rfl
theorem row_f4 : (Rows.fnExactColourRow.named == Try.checked.prog.varsNamed 12) = true := by kernel_rfl
theorem row_f5 : (Rows.fnExactColourRow.plainKeys == Try.checked.prog.plainKeys) = true := by kernel_rfl
theorem row_f6 : Try.checked.prog.stopsHeard = true := by kernel_rfl
theorem row_f7 : Try.checked.prog.mayEnter = true := by kernel_rfl
theorem row_f8 : (Rows.fnExactColourRow.lifted == Try.checked.prog.liftsFinal) = true := by kernel_rfl

end Go.Proofs.Ytppcdaliielpgaa
