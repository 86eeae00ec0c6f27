/- Facts about the program that the row of laws.FnNumbered is bound to. No statement is proved here. -/
import Derived.Test.YtbpgfmandlhnaaaR0
set_option linter.unusedVariables false
set_option maxRecDepth 100000
namespace Go.Proofs.Ytbpgfmandlhnaaa
open Go.ChangeShapes Go.WideShapes Go.ChangeAt Go.RowKit Go.Vsi

theorem row_f1 : (Rows.fnNumberedRow.inPlace == Try.checked.prog.inPlace 6) = true := by kernel_rfl
theorem row_f2 : (Rows.fnNumberedRow.unfollowed == Try.checked.prog.unfollowed 6) = true := by kernel_rfl
theorem row_f3 : (Rows.fnNumberedRow.recurses == Try.checked.prog.recurses 6) = true := by kernel_rfl
theorem row_f4 : (Rows.fnNumberedRow.named == Try.checked.prog.varsNamed 6) = true := by kernel_rfl
theorem row_f5 : (Rows.fnNumberedRow.plainKeys == Try.checked.prog.plainKeys) = true := by kernel_rfl
theorem row_f6 : Try.checked.prog.stopsHeard = true := by kernel_rfl
theorem row_f7 : Try.checked.prog.mayEnter = true := by kernel_rfl
theorem row_f8 : (Rows.fnNumberedRow.lifted == Try.checked.prog.liftsFinal) = true := by kernel_rfl

end Go.Proofs.Ytbpgfmandlhnaaa
