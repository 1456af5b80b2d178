/- FnRotors: a table. Only lemmas. Printed by gen_rotors.py. -/
import Derived.Test.YtbbggpcbnahgiaaRtT
namespace Go.Proofs.Ytbbggpcbnahgiaa.Ab
set_option linter.unusedVariables false
set_option linter.unusedSimpArgs false
open Go
theorem T1w_4 : (List.range 12).all (t1w 1067450368) = true := by kernel_rfl
theorem T1w_5 : (List.range 12).all (t1w 1069547520) = true := by kernel_rfl
theorem T1w_6 : (List.range 12).all (t1w 1071644672) = true := by kernel_rfl
theorem T1w_7 : (List.range 12).all (t1w 1073741824) = true := by kernel_rfl
end Go.Proofs.Ytbbggpcbnahgiaa.Ab
