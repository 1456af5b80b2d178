/- The terms of a shell: seven inputs. Only lemmas. Printed by gen_terms.py. -/
import Derived.Test.YtbbggpcbnahgiaaTeB
namespace Go.Proofs.Ytbbggpcbnahgiaa.Ab
set_option linter.unusedVariables false
set_option linter.unusedSimpArgs false
open Go
theorem K_te_2_4 : md_te 1100 2 4 = some (.sl 0 0 33, [.at true (.int .i64 [2, 4, 1, 5, 2, 1, 4, 2, 1, 3, 2, 2, 2, 2, 1, 1, 2, 2, 6, 0, 1, 4, 0, 2, 3, 0, 1, 2, 0, 2, 0, 0, 2])]) := by kernel_rfl
theorem K_te_2_5 : md_te 1100 2 5 = some (.sl 0 0 36, [.at true (.int .i64 [0, 5, 1, 4, 3, 1, 3, 3, 1, 2, 3, 1, 1, 3, 1, 6, 1, 1, 5, 1, 1, 4, 1, 2, 3, 1, 2, 2, 1, 3, 1, 1, 1, 0, 1, 1])]) := by kernel_rfl
theorem K_te_2_6 : md_te 1100 2 6 = some (.sl 0 0 33, [.at true (.int .i64 [2, 4, 1, 5, 2, 1, 4, 2, 1, 3, 2, 2, 2, 2, 1, 1, 2, 2, 6, 0, 1, 4, 0, 2, 3, 0, 1, 2, 0, 2, 0, 0, 2])]) := by kernel_rfl
theorem K_te_2_7 : md_te 1100 2 7 = some (.sl 0 0 21, [.at true (.int .i64 [3, 3, 1, 1, 3, 1, 5, 1, 1, 4, 1, 1, 3, 1, 1, 2, 1, 2, 1, 1, 1])]) := by kernel_rfl
theorem K_te_2_8 : md_te 1100 2 8 = some (.sl 0 0 15, [.at true (.int .i64 [3, 2, 1, 1, 2, 1, 4, 0, 1, 2, 0, 1, 0, 0, 1])]) := by kernel_rfl
theorem K_te_2_9 : md_te 1100 2 9 = some (.sl 0 0 3, [.at true (.int .i64 [2, 1, 1])]) := by kernel_rfl
theorem K_te_2_10 : md_te 1100 2 10 = some (.sl 0 0 3, [.at true (.int .i64 [0, 0, 1])]) := by kernel_rfl
end Go.Proofs.Ytbbggpcbnahgiaa.Ab
