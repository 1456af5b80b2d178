/- FnRotors: a table. Only lemmas. Printed by gen_rotors.py. -/
import Derived.Test.YtbbggpcbnahgiaaRtT
namespace Go.Proofs.Ytbbggpcbnahgiaa.Ab
set_option linter.unusedVariables false
set_option linter.unusedSimpArgs false
open Go
theorem T3_0 : bL.all (fun o => (List.range 12).all (t3 1048576000 o)) = true := by kernel_rfl
theorem T3_1 : bL.all (fun o => (List.range 12).all (t3 1056964608 o)) = true := by kernel_rfl
theorem T3_2 : bL.all (fun o => (List.range 12).all (t3 1061158912 o)) = true := by kernel_rfl
theorem T3_3 : bL.all (fun o => (List.range 12).all (t3 1065353216 o)) = true := by kernel_rfl
theorem T3_4 : bL.all (fun o => (List.range 12).all (t3 1067450368 o)) = true := by kernel_rfl
theorem T3_5 : bL.all (fun o => (List.range 12).all (t3 1069547520 o)) = true := by kernel_rfl
theorem T3_6 : bL.all (fun o => (List.range 12).all (t3 1071644672 o)) = true := by kernel_rfl
theorem T3_7 : bL.all (fun o => (List.range 12).all (t3 1073741824 o)) = true := by kernel_rfl
theorem T3_8 : bL.all (fun o => (List.range 12).all (t3 1074790400 o)) = true := by kernel_rfl
theorem T3_9 : bL.all (fun o => (List.range 12).all (t3 1075838976 o)) = true := by kernel_rfl
theorem T3_10 : bL.all (fun o => (List.range 12).all (t3 1076887552 o)) = true := by kernel_rfl
theorem T3_11 : bL.all (fun o => (List.range 12).all (t3 1077936128 o)) = true := by kernel_rfl
theorem T3_12 : bL.all (fun o => (List.range 12).all (t3 1078984704 o)) = true := by kernel_rfl
theorem T3_13 : bL.all (fun o => (List.range 12).all (t3 1080033280 o)) = true := by kernel_rfl
theorem T3_14 : bL.all (fun o => (List.range 12).all (t3 1081081856 o)) = true := by kernel_rfl
theorem T3_15 : bL.all (fun o => (List.range 12).all (t3 1082130432 o)) = true := by kernel_rfl
end Go.Proofs.Ytbbggpcbnahgiaa.Ab
