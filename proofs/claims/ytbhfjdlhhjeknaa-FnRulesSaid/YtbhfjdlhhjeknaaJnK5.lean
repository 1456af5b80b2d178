/- The table holds. Only lemmas. Printed by gen_join.py. -/
import Derived.Test.YtbhfjdlhhjeknaaJnT
namespace Go.Proofs.Ytbhfjdlhhjeknaa.Ab
set_option linter.unusedVariables false
set_option linter.unusedSimpArgs false
open Go
theorem jr_5_0_0 : jRow 5 0 0 = true := by kernel_rfl
theorem jr_5_0_1 : jRow 5 0 1 = true := by kernel_rfl
theorem jr_5_0_2 : jRow 5 0 2 = true := by kernel_rfl
theorem jr_5_0_3 : jRow 5 0 3 = true := by kernel_rfl
theorem jr_5_0_4 : jRow 5 0 4 = true := by kernel_rfl
theorem jr_5_0_5 : jRow 5 0 5 = true := by kernel_rfl
theorem jr_5_1_0 : jRow 5 1 0 = true := by kernel_rfl
theorem jr_5_1_1 : jRow 5 1 1 = true := by kernel_rfl
theorem jr_5_1_2 : jRow 5 1 2 = true := by kernel_rfl
theorem jr_5_1_3 : jRow 5 1 3 = true := by kernel_rfl
theorem jr_5_1_4 : jRow 5 1 4 = true := by kernel_rfl
theorem jr_5_1_5 : jRow 5 1 5 = true := by kernel_rfl
theorem jr_5_2_0 : jRow 5 2 0 = true := by kernel_rfl
theorem jr_5_2_1 : jRow 5 2 1 = true := by kernel_rfl
theorem jr_5_2_2 : jRow 5 2 2 = true := by kernel_rfl
theorem jr_5_2_3 : jRow 5 2 3 = true := by kernel_rfl
theorem jr_5_2_4 : jRow 5 2 4 = true := by kernel_rfl
theorem jr_5_2_5 : jRow 5 2 5 = true := by kernel_rfl
theorem jr_5_3_0 : jRow 5 3 0 = true := by kernel_rfl
theorem jr_5_3_1 : jRow 5 3 1 = true := by kernel_rfl
theorem jr_5_3_2 : jRow 5 3 2 = true := by kernel_rfl
theorem jr_5_3_3 : jRow 5 3 3 = true := by kernel_rfl
theorem jr_5_3_4 : jRow 5 3 4 = true := by kernel_rfl
theorem jr_5_3_5 : jRow 5 3 5 = true := by kernel_rfl
theorem jr_5_4_0 : jRow 5 4 0 = true := by kernel_rfl
theorem jr_5_4_1 : jRow 5 4 1 = true := by kernel_rfl
theorem jr_5_4_2 : jRow 5 4 2 = true := by kernel_rfl
theorem jr_5_4_3 : jRow 5 4 3 = true := by kernel_rfl
theorem jr_5_4_4 : jRow 5 4 4 = true := by kernel_rfl
theorem jr_5_4_5 : jRow 5 4 5 = true := by kernel_rfl
theorem jr_5_5_0 : jRow 5 5 0 = true := by kernel_rfl
theorem jr_5_5_1 : jRow 5 5 1 = true := by kernel_rfl
theorem jr_5_5_2 : jRow 5 5 2 = true := by kernel_rfl
theorem jr_5_5_3 : jRow 5 5 3 = true := by kernel_rfl
theorem jr_5_5_4 : jRow 5 5 4 = true := by kernel_rfl
theorem jr_5_5_5 : jRow 5 5 5 = true := by kernel_rfl
theorem jr_5_6_0 : jRow 5 6 0 = true := by kernel_rfl
theorem jr_5_6_1 : jRow 5 6 1 = true := by kernel_rfl
theorem jr_5_6_2 : jRow 5 6 2 = true := by kernel_rfl
theorem jr_5_6_3 : jRow 5 6 3 = true := by kernel_rfl
theorem jr_5_6_4 : jRow 5 6 4 = true := by kernel_rfl
theorem jr_5_6_5 : jRow 5 6 5 = true := by kernel_rfl
end Go.Proofs.Ytbhfjdlhhjeknaa.Ab
