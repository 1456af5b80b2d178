/- SixShare: the checks. Only lemmas. Printed by gen_six.py. -/
import Derived.Test.YtbhfjdlhhjeknaaSxB
namespace Go.Proofs.Ytbhfjdlhhjeknaa.Ab
set_option linter.unusedVariables false
set_option linter.unusedSimpArgs false
open Go
theorem xA_6_0 : xA 6 0 = true := by kernel_rfl
theorem xA_6_1 : xA 6 1 = true := by kernel_rfl
theorem xA_6_2 : xA 6 2 = true := by kernel_rfl
theorem xA_6_3 : xA 6 3 = true := by kernel_rfl
theorem xA_6_4 : xA 6 4 = true := by kernel_rfl
theorem xA_6_5 : xA 6 5 = true := by kernel_rfl
theorem xA_6_6 : xA 6 6 = true := by kernel_rfl
end Go.Proofs.Ytbhfjdlhhjeknaa.Ab
