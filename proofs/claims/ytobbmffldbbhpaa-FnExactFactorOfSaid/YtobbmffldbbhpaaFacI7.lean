/- FactorOf: cases. Only lemmas. Printed by gen_factor.py. -/
import Derived.Test.YtobbmffldbbhpaaFacA
namespace Go.Proofs.Ytobbmffldbbhpaa.Ab
set_option linter.unusedVariables false
set_option linter.unusedSimpArgs false
open Go
theorem fcI_2_0_2 : run ty tab_fcI ann0 80 Try.f47 [.int .i64 2, .int .i64 0, .int .i64 2] [] = some (tri (fcU 2 0 2) (fcD 2 0 2) true, []) := by kernel_rfl
theorem fcI_2_4_2 : run ty tab_fcI ann0 80 Try.f47 [.int .i64 2, .int .i64 4, .int .i64 2] [] = some (tri (fcU 2 4 2) (fcD 2 4 2) true, []) := by kernel_rfl
theorem fcI_2_6_8 : run ty tab_fcI ann0 80 Try.f47 [.int .i64 2, .int .i64 6, .int .i64 8] [] = some (tri (fcU 2 6 8) (fcD 2 6 8) true, []) := by kernel_rfl
theorem fcI_4_3_3 : run ty tab_fcI ann0 80 Try.f47 [.int .i64 4, .int .i64 3, .int .i64 3] [] = some (tri (fcU 4 3 3) (fcD 4 3 3) true, []) := by kernel_rfl
theorem fcI_4_5_3 : run ty tab_fcI ann0 80 Try.f47 [.int .i64 4, .int .i64 5, .int .i64 3] [] = some (tri (fcU 4 5 3) (fcD 4 5 3) true, []) := by kernel_rfl
theorem fcI_4_6_10 : run ty tab_fcI ann0 80 Try.f47 [.int .i64 4, .int .i64 6, .int .i64 10] [] = some (tri (fcU 4 6 10) (fcD 4 6 10) true, []) := by kernel_rfl
theorem fcI_6_3_5 : run ty tab_fcI ann0 80 Try.f47 [.int .i64 6, .int .i64 3, .int .i64 5] [] = some (tri (fcU 6 3 5) (fcD 6 3 5) true, []) := by kernel_rfl
theorem fcI_6_5_1 : run ty tab_fcI ann0 80 Try.f47 [.int .i64 6, .int .i64 5, .int .i64 1] [] = some (tri (fcU 6 5 1) (fcD 6 5 1) true, []) := by kernel_rfl
theorem fcI_6_6_6 : run ty tab_fcI ann0 80 Try.f47 [.int .i64 6, .int .i64 6, .int .i64 6] [] = some (tri (fcU 6 6 6) (fcD 6 6 6) true, []) := by kernel_rfl
end Go.Proofs.Ytobbmffldbbhpaa.Ab
