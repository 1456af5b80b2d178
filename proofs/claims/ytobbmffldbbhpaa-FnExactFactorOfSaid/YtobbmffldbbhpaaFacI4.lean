/- FactorOf: cases. Only lemmas. Printed by gen_factor.py. -/
import Derived.Test.YtobbmffldbbhpaaFacA
namespace Go.Proofs.Ytobbmffldbbhpaa.Ab
set_option linter.unusedVariables false
set_option linter.unusedSimpArgs false
open Go
theorem fcI_0_4_4 : run ty tab_fcI ann0 80 Try.f47 [.int .i64 0, .int .i64 4, .int .i64 4] [] = some (tri (fcU 0 4 4) (fcD 0 4 4) true, []) := by kernel_rfl
theorem fcI_2_3_1 : run ty tab_fcI ann0 80 Try.f47 [.int .i64 2, .int .i64 3, .int .i64 1] [] = some (tri (fcU 2 3 1) (fcD 2 3 1) true, []) := by kernel_rfl
theorem fcI_2_5_7 : run ty tab_fcI ann0 80 Try.f47 [.int .i64 2, .int .i64 5, .int .i64 7] [] = some (tri (fcU 2 5 7) (fcD 2 5 7) true, []) := by kernel_rfl
theorem fcI_4_2_4 : run ty tab_fcI ann0 80 Try.f47 [.int .i64 4, .int .i64 2, .int .i64 4] [] = some (tri (fcU 4 2 4) (fcD 4 2 4) true, []) := by kernel_rfl
theorem fcI_4_4_6 : run ty tab_fcI ann0 80 Try.f47 [.int .i64 4, .int .i64 4, .int .i64 6] [] = some (tri (fcU 4 4 6) (fcD 4 4 6) true, []) := by kernel_rfl
theorem fcI_4_6_4 : run ty tab_fcI ann0 80 Try.f47 [.int .i64 4, .int .i64 6, .int .i64 4] [] = some (tri (fcU 4 6 4) (fcD 4 6 4) true, []) := by kernel_rfl
theorem fcI_6_2_6 : run ty tab_fcI ann0 80 Try.f47 [.int .i64 6, .int .i64 2, .int .i64 6] [] = some (tri (fcU 6 2 6) (fcD 6 2 6) true, []) := by kernel_rfl
theorem fcI_6_4_6 : run ty tab_fcI ann0 80 Try.f47 [.int .i64 6, .int .i64 4, .int .i64 6] [] = some (tri (fcU 6 4 6) (fcD 6 4 6) true, []) := by kernel_rfl
theorem fcI_6_5_11 : run ty tab_fcI ann0 80 Try.f47 [.int .i64 6, .int .i64 5, .int .i64 11] [] = some (tri (fcU 6 5 11) (fcD 6 5 11) true, []) := by kernel_rfl
end Go.Proofs.Ytobbmffldbbhpaa.Ab
