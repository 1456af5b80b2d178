/- CountShell: cases. Only lemmas. Printed by gen_shells.py. -/
import Derived.Test.YtbbggpcbnahgiaaShA
namespace Go.Proofs.Ytbbggpcbnahgiaa.Ab
set_option linter.unusedVariables false
set_option linter.unusedSimpArgs false
open Go
theorem csI_0_2 : run ty tab_csI ann0 80 Try.f19 [.int .i64 0, .int .i64 2] [] = some (pairI (csV 0 2) true, []) := by kernel_rfl
theorem csI_1_3 : run ty tab_csI ann0 80 Try.f19 [.int .i64 1, .int .i64 3] [] = some (pairI (csV 1 3) true, []) := by kernel_rfl
theorem csI_2_0 : run ty tab_csI ann0 80 Try.f19 [.int .i64 2, .int .i64 0] [] = some (pairI (csV 2 0) true, []) := by kernel_rfl
theorem csI_2_4 : run ty tab_csI ann0 80 Try.f19 [.int .i64 2, .int .i64 4] [] = some (pairI (csV 2 4) true, []) := by kernel_rfl
theorem csI_2_8 : run ty tab_csI ann0 80 Try.f19 [.int .i64 2, .int .i64 8] [] = some (pairI (csV 2 8) true, []) := by kernel_rfl
end Go.Proofs.Ytbbggpcbnahgiaa.Ab
