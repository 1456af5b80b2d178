/- FnRotors: a table. Only lemmas. Printed by gen_rotors.py. -/
import Derived.Test.YtbbggpcbnahgiaaRtT
namespace Go.Proofs.Ytbbggpcbnahgiaa.Ab
set_option linter.unusedVariables false
set_option linter.unusedSimpArgs false
open Go
theorem T1w_8 : (List.range 12).all (t1w 1074790400) = true := by kernel_rfl
theorem T1w_9 : (List.range 12).all (t1w 1075838976) = true := by kernel_rfl
theorem T1w_10 : (List.range 12).all (t1w 1076887552) = true := by kernel_rfl
theorem T1w_11 : (List.range 12).all (t1w 1077936128) = true := by kernel_rfl
end Go.Proofs.Ytbbggpcbnahgiaa.Ab
