/- CountShell: cases. Only lemmas. Printed by gen_cshell.py. -/
import Derived.Test.YtobbmffldbbhpaaCShA
namespace Go.Proofs.Ytobbmffldbbhpaa.Ab
set_option linter.unusedVariables false
set_option linter.unusedSimpArgs false
open Go
theorem csS_0_0 : run ty tab_csS ann0 80 Try.f15 [.int .i64 0, .int .i64 0] [] = some (pairI (csV 0 0) true, []) := by kernel_rfl
theorem csS_0_1 : run ty tab_csS ann0 80 Try.f15 [.int .i64 0, .int .i64 1] [] = some (pairI (csV 0 1) true, []) := by kernel_rfl
theorem csS_0_2 : run ty tab_csS ann0 80 Try.f15 [.int .i64 0, .int .i64 2] [] = some (pairI (csV 0 2) true, []) := by kernel_rfl
theorem csS_1_0 : run ty tab_csS ann0 80 Try.f15 [.int .i64 1, .int .i64 0] [] = some (pairI (csV 1 0) true, []) := by kernel_rfl
theorem csS_1_1 : run ty tab_csS ann0 80 Try.f15 [.int .i64 1, .int .i64 1] [] = some (pairI (csV 1 1) true, []) := by kernel_rfl
theorem csS_1_2 : run ty tab_csS ann0 80 Try.f15 [.int .i64 1, .int .i64 2] [] = some (pairI (csV 1 2) true, []) := by kernel_rfl
theorem csS_1_3 : run ty tab_csS ann0 80 Try.f15 [.int .i64 1, .int .i64 3] [] = some (pairI (csV 1 3) true, []) := by kernel_rfl
theorem csS_1_4 : run ty tab_csS ann0 80 Try.f15 [.int .i64 1, .int .i64 4] [] = some (pairI (csV 1 4) true, []) := by kernel_rfl
theorem csS_1_5 : run ty tab_csS ann0 80 Try.f15 [.int .i64 1, .int .i64 5] [] = some (pairI (csV 1 5) true, []) := by kernel_rfl
theorem csS_1_6 : run ty tab_csS ann0 80 Try.f15 [.int .i64 1, .int .i64 6] [] = some (pairI (csV 1 6) true, []) := by kernel_rfl
theorem csS_2_0 : run ty tab_csS ann0 80 Try.f15 [.int .i64 2, .int .i64 0] [] = some (pairI (csV 2 0) true, []) := by kernel_rfl
theorem csS_2_1 : run ty tab_csS ann0 80 Try.f15 [.int .i64 2, .int .i64 1] [] = some (pairI (csV 2 1) true, []) := by kernel_rfl
theorem csS_2_2 : run ty tab_csS ann0 80 Try.f15 [.int .i64 2, .int .i64 2] [] = some (pairI (csV 2 2) true, []) := by kernel_rfl
theorem csS_2_3 : run ty tab_csS ann0 80 Try.f15 [.int .i64 2, .int .i64 3] [] = some (pairI (csV 2 3) true, []) := by kernel_rfl
theorem csS_2_4 : run ty tab_csS ann0 80 Try.f15 [.int .i64 2, .int .i64 4] [] = some (pairI (csV 2 4) true, []) := by kernel_rfl
theorem csS_2_5 : run ty tab_csS ann0 80 Try.f15 [.int .i64 2, .int .i64 5] [] = some (pairI (csV 2 5) true, []) := by kernel_rfl
theorem csS_2_6 : run ty tab_csS ann0 80 Try.f15 [.int .i64 2, .int .i64 6] [] = some (pairI (csV 2 6) true, []) := by kernel_rfl
theorem csS_2_7 : run ty tab_csS ann0 80 Try.f15 [.int .i64 2, .int .i64 7] [] = some (pairI (csV 2 7) true, []) := by kernel_rfl
theorem csS_2_8 : run ty tab_csS ann0 80 Try.f15 [.int .i64 2, .int .i64 8] [] = some (pairI (csV 2 8) true, []) := by kernel_rfl
theorem csS_2_9 : run ty tab_csS ann0 80 Try.f15 [.int .i64 2, .int .i64 9] [] = some (pairI (csV 2 9) true, []) := by kernel_rfl
theorem csS_2_10 : run ty tab_csS ann0 80 Try.f15 [.int .i64 2, .int .i64 10] [] = some (pairI (csV 2 10) true, []) := by kernel_rfl
end Go.Proofs.Ytobbmffldbbhpaa.Ab
