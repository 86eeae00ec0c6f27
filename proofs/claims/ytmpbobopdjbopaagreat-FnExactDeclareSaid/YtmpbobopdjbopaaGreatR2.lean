/- Facts about the program that the row of laws.FnExactDeclare is bound to. No statement is proved here. -/
import Derived.Test.YtmpbobopdjbopaaGreatR0
set_option linter.unusedVariables false
set_option maxRecDepth 100000
namespace Go.Proofs.YtmpbobopdjbopaaGreat
open Go.ChangeShapes Go.WideShapes Go.ChangeAt Go.RowKit Go.Vsi

theorem row_f1 : (Rows.fnExactDeclareRow.inPlace == Tryz.checked.prog.inPlace 7) = true := by kernel_rfl
theorem row_f2 : (Rows.fnExactDeclareRow.unfollowed == Tryz.checked.prog.unfollowed 7) = true := by kernel_rfl
theorem row_f3 : (Rows.fnExactDeclareRow.recurses == Tryz.checked.prog.recurses 7) = true := by kernel_rfl
theorem row_f4 : (Rows.fnExactDeclareRow.named == Tryz.checked.prog.varsNamed 7) = true := by kernel_rfl
theorem row_f5 : (Rows.fnExactDeclareRow.plainKeys == Tryz.checked.prog.plainKeys) = true := by kernel_rfl
theorem row_f6 : Tryz.checked.prog.stopsHeard = true := by kernel_rfl
theorem row_f7 : Tryz.checked.prog.mayEnter = true := by kernel_rfl
theorem row_f8 : (Rows.fnExactDeclareRow.lifted == Tryz.checked.prog.liftsFinal) = true := by kernel_rfl

end Go.Proofs.YtmpbobopdjbopaaGreat
