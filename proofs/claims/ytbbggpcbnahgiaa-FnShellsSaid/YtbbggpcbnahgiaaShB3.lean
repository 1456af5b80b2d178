/- CountShell: cases. Only lemmas. Printed by gen_shells.py. -/
import Derived.Test.YtbbggpcbnahgiaaShA
namespace Go.Proofs.Ytbbggpcbnahgiaa.Ab
set_option linter.unusedVariables false
set_option linter.unusedSimpArgs false
open Go
theorem csI_1_0 : run ty tab_csI ann0 80 Try.f19 [.int .i64 1, .int .i64 0] [] = some (pairI (csV 1 0) true, []) := by kernel_rfl
theorem csI_1_4 : run ty tab_csI ann0 80 Try.f19 [.int .i64 1, .int .i64 4] [] = some (pairI (csV 1 4) true, []) := by kernel_rfl
theorem csI_2_1 : run ty tab_csI ann0 80 Try.f19 [.int .i64 2, .int .i64 1] [] = some (pairI (csV 2 1) true, []) := by kernel_rfl
theorem csI_2_5 : run ty tab_csI ann0 80 Try.f19 [.int .i64 2, .int .i64 5] [] = some (pairI (csV 2 5) true, []) := by kernel_rfl
theorem csI_2_9 : run ty tab_csI ann0 80 Try.f19 [.int .i64 2, .int .i64 9] [] = some (pairI (csV 2 9) true, []) := by kernel_rfl
end Go.Proofs.Ytbbggpcbnahgiaa.Ab
