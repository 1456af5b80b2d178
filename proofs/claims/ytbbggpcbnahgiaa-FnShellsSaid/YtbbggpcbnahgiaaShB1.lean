/- CountShell: cases. Only lemmas. Printed by gen_shells.py. -/
import Derived.Test.YtbbggpcbnahgiaaShA
namespace Go.Proofs.Ytbbggpcbnahgiaa.Ab
set_option linter.unusedVariables false
set_option linter.unusedSimpArgs false
open Go
theorem csI_0_1 : run ty tab_csI ann0 80 Try.f19 [.int .i64 0, .int .i64 1] [] = some (pairI (csV 0 1) true, []) := by kernel_rfl
theorem csI_1_2 : run ty tab_csI ann0 80 Try.f19 [.int .i64 1, .int .i64 2] [] = some (pairI (csV 1 2) true, []) := by kernel_rfl
theorem csI_1_6 : run ty tab_csI ann0 80 Try.f19 [.int .i64 1, .int .i64 6] [] = some (pairI (csV 1 6) true, []) := by kernel_rfl
theorem csI_2_3 : run ty tab_csI ann0 80 Try.f19 [.int .i64 2, .int .i64 3] [] = some (pairI (csV 2 3) true, []) := by kernel_rfl
theorem csI_2_7 : run ty tab_csI ann0 80 Try.f19 [.int .i64 2, .int .i64 7] [] = some (pairI (csV 2 7) true, []) := by kernel_rfl
end Go.Proofs.Ytbbggpcbnahgiaa.Ab
