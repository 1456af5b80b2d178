/- FactorOf: cases. Only lemmas. Printed by gen_factor.py. -/
import Derived.Test.YtobbmffldbbhpaaFacA
namespace Go.Proofs.Ytobbmffldbbhpaa.Ab
set_option linter.unusedVariables false
set_option linter.unusedSimpArgs false
open Go
theorem fcI_0_1_1 : run ty tab_fcI ann0 80 Try.f47 [.int .i64 0, .int .i64 1, .int .i64 1] [] = some (tri (fcU 0 1 1) (fcD 0 1 1) true, []) := by kernel_rfl
theorem fcI_2_1_3 : run ty tab_fcI ann0 80 Try.f47 [.int .i64 2, .int .i64 1, .int .i64 3] [] = some (tri (fcU 2 1 3) (fcD 2 1 3) true, []) := by kernel_rfl
theorem fcI_2_4_6 : run ty tab_fcI ann0 80 Try.f47 [.int .i64 2, .int .i64 4, .int .i64 6] [] = some (tri (fcU 2 4 6) (fcD 2 4 6) true, []) := by kernel_rfl
theorem fcI_4_1_3 : run ty tab_fcI ann0 80 Try.f47 [.int .i64 4, .int .i64 1, .int .i64 3] [] = some (tri (fcU 4 1 3) (fcD 4 1 3) true, []) := by kernel_rfl
theorem fcI_4_3_7 : run ty tab_fcI ann0 80 Try.f47 [.int .i64 4, .int .i64 3, .int .i64 7] [] = some (tri (fcU 4 3 7) (fcD 4 3 7) true, []) := by kernel_rfl
theorem fcI_4_5_7 : run ty tab_fcI ann0 80 Try.f47 [.int .i64 4, .int .i64 5, .int .i64 7] [] = some (tri (fcU 4 5 7) (fcD 4 5 7) true, []) := by kernel_rfl
theorem fcI_6_1_5 : run ty tab_fcI ann0 80 Try.f47 [.int .i64 6, .int .i64 1, .int .i64 5] [] = some (tri (fcU 6 1 5) (fcD 6 1 5) true, []) := by kernel_rfl
theorem fcI_6_3_9 : run ty tab_fcI ann0 80 Try.f47 [.int .i64 6, .int .i64 3, .int .i64 9] [] = some (tri (fcU 6 3 9) (fcD 6 3 9) true, []) := by kernel_rfl
theorem fcI_6_5_5 : run ty tab_fcI ann0 80 Try.f47 [.int .i64 6, .int .i64 5, .int .i64 5] [] = some (tri (fcU 6 5 5) (fcD 6 5 5) true, []) := by kernel_rfl
theorem fcI_6_6_10 : run ty tab_fcI ann0 80 Try.f47 [.int .i64 6, .int .i64 6, .int .i64 10] [] = some (tri (fcU 6 6 10) (fcD 6 6 10) true, []) := by kernel_rfl
end Go.Proofs.Ytobbmffldbbhpaa.Ab
