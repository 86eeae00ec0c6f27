/- Facts about the program that the row of laws.FnExactPop is bound to. No statement is proved here. -/
import Derived.Test.YtmpbobopdjbopaaGreatR0
set_option linter.unusedVariables false
set_option maxRecDepth 100000
namespace Go.Proofs.YtmpbobopdjbopaaGreat
open Go.ChangeShapes Go.WideShapes Go.ChangeAt Go.RowKit Go.Vsi

theorem row_f1 : (Rows.fnExactPopRow.inPlace == Tryz.checked.prog.inPlace 6) = true := by kernel_rfl
theorem row_f2 : (Rows.fnExactPopRow.unfollowed == Tryz.checked.prog.unfollowed 6) = true := by kernel_rfl
theorem row_f3 : (Rows.fnExactPopRow.recurses == Tryz.checked.prog.recurses 6) = true := by kernel_rfl
theorem row_f4 : (Rows.fnExactPopRow.named == Tryz.checked.prog.varsNamed 6) = true := by kernel_rfl
theorem row_f5 : (Rows.fnExactPopRow.plainKeys == Tryz.checked.prog.plainKeys) = true := by kernel_rfl
theorem row_f6 : Tryz.checked.prog.stopsHeard = true := by kernel_rfl
theorem row_f7 : Tryz.checked.prog.mayEnter = true := by kernel_rfl
theorem row_f8 : (Rows.fnExactPopRow.lifted == Tryz.checked.prog.liftsFinal) = true := by kernel_rfl

end Go.Proofs.YtmpbobopdjbopaaGreat
