/- Facts about the program that the row of laws.FnExactReplace is bound to. No statement is proved here. -/
import Derived.Test.YtaeadfaldglniaaGreatDoorR0
set_option linter.unusedVariables false
set_option maxRecDepth 100000
namespace Go.Proofs.YtaeadfaldglniaaGreatDoor
open Go.ChangeShapes Go.WideShapes Go.ChangeAt Go.RowKit Go.Vsi

theorem row_f1 : (Rows.fnExactReplaceRow.inPlace == Tryz.checked.prog.inPlace 6) = true := by kernel_rfl
theorem row_f2 : (Rows.fnExactReplaceRow.unfollowed == Tryz.checked.prog.unfollowed 6) = true := by kernel_rfl
theorem row_f3 : (Rows.fnExactReplaceRow.recurses == Tryz.checked.prog.recurses 6) = true := by kernel_rfl
theorem row_f4 : (Rows.fnExactReplaceRow.named == Tryz.checked.prog.varsNamed 6) = true := by kernel_rfl
theorem row_f5 : (Rows.fnExactReplaceRow.plainKeys == Tryz.checked.prog.plainKeys) = true := by kernel_rfl
theorem row_f6 : Tryz.checked.prog.stopsHeard = true := by kernel_rfl
theorem row_f7 : Tryz.checked.prog.mayEnter = true := by kernel_rfl
theorem row_f8 : (Rows.fnExactReplaceRow.lifted == Tryz.checked.prog.liftsFinal) = true := by kernel_rfl

end Go.Proofs.YtaeadfaldglniaaGreatDoor
