/- Facts about the program that the row of laws.FnExactStraight is bound to. No statement is proved here. -/
import Derived.Test.YtgmjbgnoipbemaaR0
set_option linter.unusedVariables false
set_option maxRecDepth 100000
namespace Go.Proofs.Ytgmjbgnoipbemaa
open Go.ChangeShapes Go.WideShapes Go.ChangeAt Go.RowKit Go.Vsi

theorem row_f1 : (Rows.fnExactStraightRow.inPlace == Try.checked.prog.inPlace 4) = true := by kernel_rfl
theorem row_f2 : (Rows.fnExactStraightRow.unfollowed == Try.checked.prog.unfollowed 4) = true := by kernel_rfl
theorem row_f3 : (Rows.fnExactStraightRow.recurses == Try.checked.prog.recurses 4) = true := by kernel_rfl
theorem row_f4 : (Rows.fnExactStraightRow.named == Try.checked.prog.varsNamed 4) = true := by kernel_rfl
theorem row_f5 : (Rows.fnExactStraightRow.plainKeys == Try.checked.prog.plainKeys) = true := by kernel_rfl
theorem row_f6 : Try.checked.prog.stopsHeard = true := by kernel_rfl
theorem row_f7 : Try.checked.prog.mayEnter = true := by kernel_rfl
theorem row_f8 : (Rows.fnExactStraightRow.lifted == Try.checked.prog.liftsFinal) = true := by kernel_rfl

end Go.Proofs.Ytgmjbgnoipbemaa
