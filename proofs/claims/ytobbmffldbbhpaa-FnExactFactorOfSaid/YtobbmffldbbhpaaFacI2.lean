/- FactorOf: cases. Only lemmas. Printed by gen_factor.py. -/
import Derived.Test.YtobbmffldbbhpaaFacA
namespace Go.Proofs.Ytobbmffldbbhpaa.Ab
set_option linter.unusedVariables false
set_option linter.unusedSimpArgs false
open Go
theorem fcI_0_2_2 : run ty tab_fcI ann0 80 Try.f47 [.int .i64 0, .int .i64 2, .int .i64 2] [] = some (tri (fcU 0 2 2) (fcD 0 2 2) true, []) := by kernel_rfl
theorem fcI_2_2_2 : run ty tab_fcI ann0 80 Try.f47 [.int .i64 2, .int .i64 2, .int .i64 2] [] = some (tri (fcU 2 2 2) (fcD 2 2 2) true, []) := by kernel_rfl
theorem fcI_2_5_3 : run ty tab_fcI ann0 80 Try.f47 [.int .i64 2, .int .i64 5, .int .i64 3] [] = some (tri (fcU 2 5 3) (fcD 2 5 3) true, []) := by kernel_rfl
theorem fcI_4_1_5 : run ty tab_fcI ann0 80 Try.f47 [.int .i64 4, .int .i64 1, .int .i64 5] [] = some (tri (fcU 4 1 5) (fcD 4 1 5) true, []) := by kernel_rfl
theorem fcI_4_4_2 : run ty tab_fcI ann0 80 Try.f47 [.int .i64 4, .int .i64 4, .int .i64 2] [] = some (tri (fcU 4 4 2) (fcD 4 4 2) true, []) := by kernel_rfl
theorem fcI_4_5_9 : run ty tab_fcI ann0 80 Try.f47 [.int .i64 4, .int .i64 5, .int .i64 9] [] = some (tri (fcU 4 5 9) (fcD 4 5 9) true, []) := by kernel_rfl
theorem fcI_6_1_7 : run ty tab_fcI ann0 80 Try.f47 [.int .i64 6, .int .i64 1, .int .i64 7] [] = some (tri (fcU 6 1 7) (fcD 6 1 7) true, []) := by kernel_rfl
theorem fcI_6_4_2 : run ty tab_fcI ann0 80 Try.f47 [.int .i64 6, .int .i64 4, .int .i64 2] [] = some (tri (fcU 6 4 2) (fcD 6 4 2) true, []) := by kernel_rfl
theorem fcI_6_5_7 : run ty tab_fcI ann0 80 Try.f47 [.int .i64 6, .int .i64 5, .int .i64 7] [] = some (tri (fcU 6 5 7) (fcD 6 5 7) true, []) := by kernel_rfl
theorem fcI_6_6_12 : run ty tab_fcI ann0 80 Try.f47 [.int .i64 6, .int .i64 6, .int .i64 12] [] = some (tri (fcU 6 6 12) (fcD 6 6 12) true, []) := by kernel_rfl
end Go.Proofs.Ytobbmffldbbhpaa.Ab
