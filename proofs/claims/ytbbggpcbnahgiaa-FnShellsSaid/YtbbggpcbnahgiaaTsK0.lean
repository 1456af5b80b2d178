/- The terms of a shell, by the reference: seven inputs. Only lemmas. Printed by gen_terms2.py. -/
import Derived.Test.YtbbggpcbnahgiaaTsA
namespace Go.Proofs.Ytbbggpcbnahgiaa.Ab
set_option linter.unusedVariables false
set_option linter.unusedSimpArgs false
open Go
theorem K_ts_0_0 : md_ts 1100 0 0 = some (.sl 0 0 3, [.at true (.int .i64 [0, 0, 1])]) := by kernel_rfl
theorem K_ts_0_1 : md_ts 1100 0 1 = some (.sl 0 0 3, [.at true (.int .i64 [0, 1, 1])]) := by kernel_rfl
theorem K_ts_0_2 : md_ts 1100 0 2 = some (.sl 0 0 3, [.at true (.int .i64 [0, 0, 1])]) := by kernel_rfl
theorem K_ts_1_0 : md_ts 1100 1 0 = some (.sl 0 0 3, [.at true (.int .i64 [0, 0, 1])]) := by kernel_rfl
theorem K_ts_1_1 : md_ts 1100 1 1 = some (.sl 0 0 3, [.at true (.int .i64 [1, 1, 1])]) := by kernel_rfl
theorem K_ts_1_2 : md_ts 1100 1 2 = some (.sl 0 0 9, [.at true (.int .i64 [1, 2, 1, 2, 0, 1, 0, 0, 1])]) := by kernel_rfl
theorem K_ts_1_3 : md_ts 1100 1 3 = some (.sl 0 0 9, [.at true (.int .i64 [0, 3, 1, 2, 1, 1, 1, 1, 1])]) := by kernel_rfl
end Go.Proofs.Ytbbggpcbnahgiaa.Ab
