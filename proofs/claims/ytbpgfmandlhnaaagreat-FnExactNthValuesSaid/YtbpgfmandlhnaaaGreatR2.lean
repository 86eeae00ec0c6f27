/- Facts about the program that the row of laws.FnExactNthValues is bound to. No statement is proved here. -/
import Derived.Test.YtbpgfmandlhnaaaGreatR0
set_option linter.unusedVariables false
set_option maxRecDepth 100000
namespace Go.Proofs.YtbpgfmandlhnaaaGreat
open Go.ChangeShapes Go.WideShapes Go.ChangeAt Go.RowKit Go.Vsi

theorem row_f1 : (Rows.fnExactNthValuesRow.inPlace == Tryz.checked.prog.inPlace 5) = true := by kernel_rfl
theorem row_f2 : (Rows.fnExactNthValuesRow.unfollowed == Tryz.checked.prog.unfollowed 5) = true := by kernel_rfl
theorem row_f3 : (Rows.fnExactNthValuesRow.recurses == Tryz.checked.prog.recurses 5) = true := by kernel_rfl
theorem row_f4 : (Rows.fnExactNthValuesRow.named == Tryz.checked.prog.varsNamed 5) = true := by kernel_rfl
theorem row_f5 : (Rows.fnExactNthValuesRow.plainKeys == Tryz.checked.prog.plainKeys) = true := by kernel_rfl
theorem row_f6 : Tryz.checked.prog.stopsHeard = true := by kernel_rfl
theorem row_f7 : Tryz.checked.prog.mayEnter = true := by kernel_rfl
theorem row_f8 : (Rows.fnExactNthValuesRow.lifted == Tryz.checked.prog.liftsFinal) = true := by kernel_rfl

end Go.Proofs.YtbpgfmandlhnaaaGreat
