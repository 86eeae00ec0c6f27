/- Facts about the program that the row of laws.FnExactFlatten is bound to. No statement is proved here. -/
import Derived.Test.YtglikghdpmkioaaR0
set_option linter.unusedVariables false
set_option maxRecDepth 100000
namespace Go.Proofs.Ytglikghdpmkioaa
open Go.ChangeShapes Go.WideShapes Go.ChangeAt Go.RowKit Go.Vsi

theorem row_f1 : (Rows.fnExactFlattenRow.inPlace == Try.checked.prog.inPlace 7) = true := by kernel_rfl
theorem row_f2 : (Rows.fnExactFlattenRow.unfollowed == Try.checked.prog.unfollowed 7) = true := by kernel_rfl
theorem row_f3 : (Rows.fnExactFlattenRow.recurses == Try.checked.prog.recurses 7) = true := by kernel_rfl
theorem row_f4 : (Rows.fnExactFlattenRow.named == Try.checked.prog.varsNamed 7) = true := by kernel_rfl
theorem row_f5 : (Rows.fnExactFlattenRow.plainKeys == Try.checked.prog.plainKeys) = true := by kernel_rfl
theorem row_f6 : Try.checked.prog.stopsHeard = true := by kernel_rfl
theorem row_f7 : Try.checked.prog.mayEnter = true := by kernel_rfl
theorem row_f8 : (Rows.fnExactFlattenRow.lifted == Try.checked.prog.liftsFinal) = true := by kernel_rfl

end Go.Proofs.Ytglikghdpmkioaa
