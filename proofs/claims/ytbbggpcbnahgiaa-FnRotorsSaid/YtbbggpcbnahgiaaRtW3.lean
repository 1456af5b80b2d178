/- FnRotors: a table. Only lemmas. Printed by gen_rotors.py. -/
import Derived.Test.YtbbggpcbnahgiaaRtT
namespace Go.Proofs.Ytbbggpcbnahgiaa.Ab
set_option linter.unusedVariables false
set_option linter.unusedSimpArgs false
open Go
theorem T1w_12 : (List.range 12).all (t1w 1078984704) = true := by kernel_rfl
theorem T1w_13 : (List.range 12).all (t1w 1080033280) = true := by kernel_rfl
theorem T1w_14 : (List.range 12).all (t1w 1081081856) = true := by kernel_rfl
theorem T1w_15 : (List.range 12).all (t1w 1082130432) = true := by kernel_rfl
end Go.Proofs.Ytbbggpcbnahgiaa.Ab
