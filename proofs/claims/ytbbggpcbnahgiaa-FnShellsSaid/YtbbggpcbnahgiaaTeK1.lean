/- The terms of a shell: seven inputs. Only lemmas. Printed by gen_terms.py. -/
import Derived.Test.YtbbggpcbnahgiaaTeB
namespace Go.Proofs.Ytbbggpcbnahgiaa.Ab
set_option linter.unusedVariables false
set_option linter.unusedSimpArgs false
open Go
theorem K_te_1_4 : md_te 1100 1 4 = some (.sl 0 0 9, [.at true (.int .i64 [1, 2, 1, 2, 0, 1, 0, 0, 1])]) := by kernel_rfl
theorem K_te_1_5 : md_te 1100 1 5 = some (.sl 0 0 3, [.at true (.int .i64 [1, 1, 1])]) := by kernel_rfl
theorem K_te_1_6 : md_te 1100 1 6 = some (.sl 0 0 3, [.at true (.int .i64 [0, 0, 1])]) := by kernel_rfl
theorem K_te_2_0 : md_te 1100 2 0 = some (.sl 0 0 3, [.at true (.int .i64 [0, 0, 1])]) := by kernel_rfl
theorem K_te_2_1 : md_te 1100 2 1 = some (.sl 0 0 3, [.at true (.int .i64 [2, 1, 1])]) := by kernel_rfl
theorem K_te_2_2 : md_te 1100 2 2 = some (.sl 0 0 15, [.at true (.int .i64 [3, 2, 1, 1, 2, 1, 4, 0, 1, 2, 0, 1, 0, 0, 1])]) := by kernel_rfl
theorem K_te_2_3 : md_te 1100 2 3 = some (.sl 0 0 21, [.at true (.int .i64 [3, 3, 1, 1, 3, 1, 5, 1, 1, 4, 1, 1, 3, 1, 1, 2, 1, 2, 1, 1, 1])]) := by kernel_rfl
end Go.Proofs.Ytbbggpcbnahgiaa.Ab
