/- CountShell: cases. Only lemmas. Printed by gen_shells.py. -/
import Derived.Test.YtbbggpcbnahgiaaShA
namespace Go.Proofs.Ytbbggpcbnahgiaa.Ab
set_option linter.unusedVariables false
set_option linter.unusedSimpArgs false
open Go
theorem csI_0_0 : run ty tab_csI ann0 80 Try.f19 [.int .i64 0, .int .i64 0] [] = some (pairI (csV 0 0) true, []) := by kernel_rfl
theorem csI_1_1 : run ty tab_csI ann0 80 Try.f19 [.int .i64 1, .int .i64 1] [] = some (pairI (csV 1 1) true, []) := by kernel_rfl
theorem csI_1_5 : run ty tab_csI ann0 80 Try.f19 [.int .i64 1, .int .i64 5] [] = some (pairI (csV 1 5) true, []) := by kernel_rfl
theorem csI_2_2 : run ty tab_csI ann0 80 Try.f19 [.int .i64 2, .int .i64 2] [] = some (pairI (csV 2 2) true, []) := by kernel_rfl
theorem csI_2_6 : run ty tab_csI ann0 80 Try.f19 [.int .i64 2, .int .i64 6] [] = some (pairI (csV 2 6) true, []) := by kernel_rfl
theorem csI_2_10 : run ty tab_csI ann0 80 Try.f19 [.int .i64 2, .int .i64 10] [] = some (pairI (csV 2 10) true, []) := by kernel_rfl
end Go.Proofs.Ytbbggpcbnahgiaa.Ab
