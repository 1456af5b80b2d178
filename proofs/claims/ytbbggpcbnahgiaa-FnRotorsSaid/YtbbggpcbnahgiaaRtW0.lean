/- FnRotors: a table. Only lemmas. Printed by gen_rotors.py. -/
import Derived.Test.YtbbggpcbnahgiaaRtT
namespace Go.Proofs.Ytbbggpcbnahgiaa.Ab
set_option linter.unusedVariables false
set_option linter.unusedSimpArgs false
open Go
theorem T1w_0 : (List.range 12).all (t1w 1048576000) = true := by kernel_rfl
theorem T1w_1 : (List.range 12).all (t1w 1056964608) = true := by kernel_rfl
theorem T1w_2 : (List.range 12).all (t1w 1061158912) = true := by kernel_rfl
theorem T1w_3 : (List.range 12).all (t1w 1065353216) = true := by kernel_rfl
end Go.Proofs.Ytbbggpcbnahgiaa.Ab
