/- FactorOf: cases. Only lemmas. Printed by gen_factor.py. -/
import Derived.Test.YtobbmffldbbhpaaFacA
namespace Go.Proofs.Ytobbmffldbbhpaa.Ab
set_option linter.unusedVariables false
set_option linter.unusedSimpArgs false
open Go
theorem fcI_0_5_5 : run ty tab_fcI ann0 80 Try.f47 [.int .i64 0, .int .i64 5, .int .i64 5] [] = some (tri (fcU 0 5 5) (fcD 0 5 5) true, []) := by kernel_rfl
theorem fcI_2_3_3 : run ty tab_fcI ann0 80 Try.f47 [.int .i64 2, .int .i64 3, .int .i64 3] [] = some (tri (fcU 2 3 3) (fcD 2 3 3) true, []) := by kernel_rfl
theorem fcI_2_6_4 : run ty tab_fcI ann0 80 Try.f47 [.int .i64 2, .int .i64 6, .int .i64 4] [] = some (tri (fcU 2 6 4) (fcD 2 6 4) true, []) := by kernel_rfl
theorem fcI_4_2_6 : run ty tab_fcI ann0 80 Try.f47 [.int .i64 4, .int .i64 2, .int .i64 6] [] = some (tri (fcU 4 2 6) (fcD 4 2 6) true, []) := by kernel_rfl
theorem fcI_4_4_8 : run ty tab_fcI ann0 80 Try.f47 [.int .i64 4, .int .i64 4, .int .i64 8] [] = some (tri (fcU 4 4 8) (fcD 4 4 8) true, []) := by kernel_rfl
theorem fcI_4_6_6 : run ty tab_fcI ann0 80 Try.f47 [.int .i64 4, .int .i64 6, .int .i64 6] [] = some (tri (fcU 4 6 6) (fcD 4 6 6) true, []) := by kernel_rfl
theorem fcI_6_2_8 : run ty tab_fcI ann0 80 Try.f47 [.int .i64 6, .int .i64 2, .int .i64 8] [] = some (tri (fcU 6 2 8) (fcD 6 2 8) true, []) := by kernel_rfl
theorem fcI_6_4_8 : run ty tab_fcI ann0 80 Try.f47 [.int .i64 6, .int .i64 4, .int .i64 8] [] = some (tri (fcU 6 4 8) (fcD 6 4 8) true, []) := by kernel_rfl
theorem fcI_6_6_2 : run ty tab_fcI ann0 80 Try.f47 [.int .i64 6, .int .i64 6, .int .i64 2] [] = some (tri (fcU 6 6 2) (fcD 6 6 2) true, []) := by kernel_rfl
end Go.Proofs.Ytobbmffldbbhpaa.Ab
