/- SixShare: the checks. Only lemmas. Printed by gen_six.py. -/
import Derived.Test.YtbhfjdlhhjeknaaSxB
namespace Go.Proofs.Ytbhfjdlhhjeknaa.Ab
set_option linter.unusedVariables false
set_option linter.unusedSimpArgs false
open Go
theorem xA_0_0 : xA 0 0 = true := by kernel_rfl
theorem xA_0_1 : xA 0 1 = true := by kernel_rfl
theorem xA_0_2 : xA 0 2 = true := by kernel_rfl
theorem xA_0_3 : xA 0 3 = true := by kernel_rfl
theorem xA_0_4 : xA 0 4 = true := by kernel_rfl
theorem xA_0_5 : xA 0 5 = true := by kernel_rfl
theorem xA_0_6 : xA 0 6 = true := by kernel_rfl
theorem xA_1_0 : xA 1 0 = true := by kernel_rfl
theorem xA_1_1 : xA 1 1 = true := by kernel_rfl
theorem xA_1_2 : xA 1 2 = true := by kernel_rfl
theorem xA_1_3 : xA 1 3 = true := by kernel_rfl
theorem xA_1_4 : xA 1 4 = true := by kernel_rfl
theorem xA_1_5 : xA 1 5 = true := by kernel_rfl
theorem xA_1_6 : xA 1 6 = true := by kernel_rfl
theorem xA_2_0 : xA 2 0 = true := by kernel_rfl
theorem xA_2_1 : xA 2 1 = true := by kernel_rfl
theorem xA_2_2 : xA 2 2 = true := by kernel_rfl
theorem xA_2_3 : xA 2 3 = true := by kernel_rfl
theorem xA_2_4 : xA 2 4 = true := by kernel_rfl
theorem xA_2_5 : xA 2 5 = true := by kernel_rfl
theorem xA_2_6 : xA 2 6 = true := by kernel_rfl
theorem xA_3_0 : xA 3 0 = true := by kernel_rfl
theorem xA_3_1 : xA 3 1 = true := by kernel_rfl
theorem xA_3_2 : xA 3 2 = true := by kernel_rfl
theorem xA_3_3 : xA 3 3 = true := by kernel_rfl
theorem xA_3_4 : xA 3 4 = true := by kernel_rfl
theorem xA_3_5 : xA 3 5 = true := by kernel_rfl
theorem xA_3_6 : xA 3 6 = true := by kernel_rfl
theorem xA_4_0 : xA 4 0 = true := by kernel_rfl
theorem xA_4_1 : xA 4 1 = true := by kernel_rfl
theorem xA_4_2 : xA 4 2 = true := by kernel_rfl
theorem xA_4_3 : xA 4 3 = true := by kernel_rfl
theorem xA_4_4 : xA 4 4 = true := by kernel_rfl
theorem xA_4_5 : xA 4 5 = true := by kernel_rfl
theorem xA_4_6 : xA 4 6 = true := by kernel_rfl
end Go.Proofs.Ytbhfjdlhhjeknaa.Ab
