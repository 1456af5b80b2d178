/- FactorOf: cases. Only lemmas. Printed by gen_factor.py. -/
import Derived.Test.YtobbmffldbbhpaaFacA
namespace Go.Proofs.Ytobbmffldbbhpaa.Ab
set_option linter.unusedVariables false
set_option linter.unusedSimpArgs false
open Go
theorem fcI_2_1_1 : run ty tab_fcI ann0 80 Try.f47 [.int .i64 2, .int .i64 1, .int .i64 1] [] = some (tri (fcU 2 1 1) (fcD 2 1 1) true, []) := by kernel_rfl
theorem fcI_2_4_4 : run ty tab_fcI ann0 80 Try.f47 [.int .i64 2, .int .i64 4, .int .i64 4] [] = some (tri (fcU 2 4 4) (fcD 2 4 4) true, []) := by kernel_rfl
theorem fcI_4_0_4 : run ty tab_fcI ann0 80 Try.f47 [.int .i64 4, .int .i64 0, .int .i64 4] [] = some (tri (fcU 4 0 4) (fcD 4 0 4) true, []) := by kernel_rfl
theorem fcI_4_3_5 : run ty tab_fcI ann0 80 Try.f47 [.int .i64 4, .int .i64 3, .int .i64 5] [] = some (tri (fcU 4 3 5) (fcD 4 3 5) true, []) := by kernel_rfl
theorem fcI_4_5_5 : run ty tab_fcI ann0 80 Try.f47 [.int .i64 4, .int .i64 5, .int .i64 5] [] = some (tri (fcU 4 5 5) (fcD 4 5 5) true, []) := by kernel_rfl
theorem fcI_6_0_6 : run ty tab_fcI ann0 80 Try.f47 [.int .i64 6, .int .i64 0, .int .i64 6] [] = some (tri (fcU 6 0 6) (fcD 6 0 6) true, []) := by kernel_rfl
theorem fcI_6_3_7 : run ty tab_fcI ann0 80 Try.f47 [.int .i64 6, .int .i64 3, .int .i64 7] [] = some (tri (fcU 6 3 7) (fcD 6 3 7) true, []) := by kernel_rfl
theorem fcI_6_5_3 : run ty tab_fcI ann0 80 Try.f47 [.int .i64 6, .int .i64 5, .int .i64 3] [] = some (tri (fcU 6 5 3) (fcD 6 5 3) true, []) := by kernel_rfl
theorem fcI_6_6_8 : run ty tab_fcI ann0 80 Try.f47 [.int .i64 6, .int .i64 6, .int .i64 8] [] = some (tri (fcU 6 6 8) (fcD 6 6 8) true, []) := by kernel_rfl
end Go.Proofs.Ytobbmffldbbhpaa.Ab
