/- The table holds. Only lemmas. Printed by gen_join.py. -/
import Derived.Test.YtbhfjdlhhjeknaaJnT
namespace Go.Proofs.Ytbhfjdlhhjeknaa.Ab
set_option linter.unusedVariables false
set_option linter.unusedSimpArgs false
open Go
theorem jr_6_0_0 : jRow 6 0 0 = true := by kernel_rfl
theorem jr_6_0_1 : jRow 6 0 1 = true := by kernel_rfl
theorem jr_6_0_2 : jRow 6 0 2 = true := by kernel_rfl
theorem jr_6_0_3 : jRow 6 0 3 = true := by kernel_rfl
theorem jr_6_0_4 : jRow 6 0 4 = true := by kernel_rfl
theorem jr_6_0_5 : jRow 6 0 5 = true := by kernel_rfl
theorem jr_6_0_6 : jRow 6 0 6 = true := by kernel_rfl
theorem jr_6_1_0 : jRow 6 1 0 = true := by kernel_rfl
theorem jr_6_1_1 : jRow 6 1 1 = true := by kernel_rfl
theorem jr_6_1_2 : jRow 6 1 2 = true := by kernel_rfl
theorem jr_6_1_3 : jRow 6 1 3 = true := by kernel_rfl
theorem jr_6_1_4 : jRow 6 1 4 = true := by kernel_rfl
theorem jr_6_1_5 : jRow 6 1 5 = true := by kernel_rfl
theorem jr_6_1_6 : jRow 6 1 6 = true := by kernel_rfl
theorem jr_6_2_0 : jRow 6 2 0 = true := by kernel_rfl
theorem jr_6_2_1 : jRow 6 2 1 = true := by kernel_rfl
theorem jr_6_2_2 : jRow 6 2 2 = true := by kernel_rfl
theorem jr_6_2_3 : jRow 6 2 3 = true := by kernel_rfl
theorem jr_6_2_4 : jRow 6 2 4 = true := by kernel_rfl
theorem jr_6_2_5 : jRow 6 2 5 = true := by kernel_rfl
theorem jr_6_2_6 : jRow 6 2 6 = true := by kernel_rfl
theorem jr_6_3_0 : jRow 6 3 0 = true := by kernel_rfl
theorem jr_6_3_1 : jRow 6 3 1 = true := by kernel_rfl
theorem jr_6_3_2 : jRow 6 3 2 = true := by kernel_rfl
theorem jr_6_3_3 : jRow 6 3 3 = true := by kernel_rfl
theorem jr_6_3_4 : jRow 6 3 4 = true := by kernel_rfl
theorem jr_6_3_5 : jRow 6 3 5 = true := by kernel_rfl
theorem jr_6_3_6 : jRow 6 3 6 = true := by kernel_rfl
theorem jr_6_4_0 : jRow 6 4 0 = true := by kernel_rfl
theorem jr_6_4_1 : jRow 6 4 1 = true := by kernel_rfl
theorem jr_6_4_2 : jRow 6 4 2 = true := by kernel_rfl
theorem jr_6_4_3 : jRow 6 4 3 = true := by kernel_rfl
theorem jr_6_4_4 : jRow 6 4 4 = true := by kernel_rfl
theorem jr_6_4_5 : jRow 6 4 5 = true := by kernel_rfl
theorem jr_6_4_6 : jRow 6 4 6 = true := by kernel_rfl
theorem jr_6_5_0 : jRow 6 5 0 = true := by kernel_rfl
theorem jr_6_5_1 : jRow 6 5 1 = true := by kernel_rfl
theorem jr_6_5_2 : jRow 6 5 2 = true := by kernel_rfl
theorem jr_6_5_3 : jRow 6 5 3 = true := by kernel_rfl
theorem jr_6_5_4 : jRow 6 5 4 = true := by kernel_rfl
theorem jr_6_5_5 : jRow 6 5 5 = true := by kernel_rfl
theorem jr_6_5_6 : jRow 6 5 6 = true := by kernel_rfl
theorem jr_6_6_0 : jRow 6 6 0 = true := by kernel_rfl
theorem jr_6_6_1 : jRow 6 6 1 = true := by kernel_rfl
theorem jr_6_6_2 : jRow 6 6 2 = true := by kernel_rfl
theorem jr_6_6_3 : jRow 6 6 3 = true := by kernel_rfl
theorem jr_6_6_4 : jRow 6 6 4 = true := by kernel_rfl
theorem jr_6_6_5 : jRow 6 6 5 = true := by kernel_rfl
theorem jr_6_6_6 : jRow 6 6 6 = true := by kernel_rfl
end Go.Proofs.Ytbhfjdlhhjeknaa.Ab
