/- SixShare: the checks. Only lemmas. Printed by gen_six.py. -/
import Derived.Test.YtbhfjdlhhjeknaaSxB
namespace Go.Proofs.Ytbhfjdlhhjeknaa.Ab
set_option linter.unusedVariables false
set_option linter.unusedSimpArgs false
open Go
theorem xA_5_0 : xA 5 0 = true := by kernel_rfl
theorem xA_5_1 : xA 5 1 = true := by kernel_rfl
theorem xA_5_2 : xA 5 2 = true := by kernel_rfl
theorem xA_5_3 : xA 5 3 = true := by kernel_rfl
theorem xA_5_4 : xA 5 4 = true := by kernel_rfl
theorem xA_5_5 : xA 5 5 = true := by kernel_rfl
theorem xA_5_6 : xA 5 6 = true := by kernel_rfl
end Go.Proofs.Ytbhfjdlhhjeknaa.Ab
