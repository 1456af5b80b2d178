/- FnRotors: a table. Only lemmas. Printed by gen_rotors.py. -/
import Derived.Test.YtbbggpcbnahgiaaRtT
namespace Go.Proofs.Ytbbggpcbnahgiaa.Ab
set_option linter.unusedVariables false
set_option linter.unusedSimpArgs false
open Go
theorem T0 : (List.range 16).all (fun A => bL.contains (bF (A : Int))) = true := by kernel_rfl
theorem T1_0 : (List.range 12).all (t1 1048576000) = true := by kernel_rfl
theorem T1_1 : (List.range 12).all (t1 1056964608) = true := by kernel_rfl
theorem T1_2 : (List.range 12).all (t1 1061158912) = true := by kernel_rfl
theorem T1_3 : (List.range 12).all (t1 1065353216) = true := by kernel_rfl
theorem T1_4 : (List.range 12).all (t1 1067450368) = true := by kernel_rfl
theorem T1_5 : (List.range 12).all (t1 1069547520) = true := by kernel_rfl
theorem T1_6 : (List.range 12).all (t1 1071644672) = true := by kernel_rfl
theorem T1_7 : (List.range 12).all (t1 1073741824) = true := by kernel_rfl
theorem T1_8 : (List.range 12).all (t1 1074790400) = true := by kernel_rfl
theorem T1_9 : (List.range 12).all (t1 1075838976) = true := by kernel_rfl
theorem T1_10 : (List.range 12).all (t1 1076887552) = true := by kernel_rfl
theorem T1_11 : (List.range 12).all (t1 1077936128) = true := by kernel_rfl
theorem T1_12 : (List.range 12).all (t1 1078984704) = true := by kernel_rfl
theorem T1_13 : (List.range 12).all (t1 1080033280) = true := by kernel_rfl
theorem T1_14 : (List.range 12).all (t1 1081081856) = true := by kernel_rfl
theorem T1_15 : (List.range 12).all (t1 1082130432) = true := by kernel_rfl
end Go.Proofs.Ytbbggpcbnahgiaa.Ab
