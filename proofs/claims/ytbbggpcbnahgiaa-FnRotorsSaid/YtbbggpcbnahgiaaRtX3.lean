/- FnRotors: a table. Only lemmas. Printed by gen_rotors.py. -/
import Derived.Test.YtbbggpcbnahgiaaRtT
namespace Go.Proofs.Ytbbggpcbnahgiaa.Ab
set_option linter.unusedVariables false
set_option linter.unusedSimpArgs false
open Go
theorem T2_12_0 : (List.range 12).all (t2 1078984704 1048576000) = true := by kernel_rfl
theorem T2_12_1 : (List.range 12).all (t2 1078984704 1056964608) = true := by kernel_rfl
theorem T2_12_2 : (List.range 12).all (t2 1078984704 1061158912) = true := by kernel_rfl
theorem T2_12_3 : (List.range 12).all (t2 1078984704 1065353216) = true := by kernel_rfl
theorem T2_12_4 : (List.range 12).all (t2 1078984704 1067450368) = true := by kernel_rfl
theorem T2_12_5 : (List.range 12).all (t2 1078984704 1069547520) = true := by kernel_rfl
theorem T2_12_6 : (List.range 12).all (t2 1078984704 1071644672) = true := by kernel_rfl
theorem T2_12_7 : (List.range 12).all (t2 1078984704 1073741824) = true := by kernel_rfl
theorem T2_12_8 : (List.range 12).all (t2 1078984704 1074790400) = true := by kernel_rfl
theorem T2_12_9 : (List.range 12).all (t2 1078984704 1075838976) = true := by kernel_rfl
theorem T2_12_10 : (List.range 12).all (t2 1078984704 1076887552) = true := by kernel_rfl
theorem T2_12_11 : (List.range 12).all (t2 1078984704 1077936128) = true := by kernel_rfl
theorem T2_12_12 : (List.range 12).all (t2 1078984704 1078984704) = true := by kernel_rfl
theorem T2_12_13 : (List.range 12).all (t2 1078984704 1080033280) = true := by kernel_rfl
theorem T2_12_14 : (List.range 12).all (t2 1078984704 1081081856) = true := by kernel_rfl
theorem T2_12_15 : (List.range 12).all (t2 1078984704 1082130432) = true := by kernel_rfl
theorem T2_12 : bL.all (fun o => (List.range 12).all (t2 1078984704 o)) = true := List.all_eq_true.mpr fun o ho => by
  simp only [bL, List.mem_cons, List.not_mem_nil, or_false] at ho
  rcases ho with rfl | rfl | rfl | rfl | rfl | rfl | rfl | rfl | rfl | rfl | rfl | rfl | rfl | rfl | rfl | rfl
  · exact T2_12_0
  · exact T2_12_1
  · exact T2_12_2
  · exact T2_12_3
  · exact T2_12_4
  · exact T2_12_5
  · exact T2_12_6
  · exact T2_12_7
  · exact T2_12_8
  · exact T2_12_9
  · exact T2_12_10
  · exact T2_12_11
  · exact T2_12_12
  · exact T2_12_13
  · exact T2_12_14
  · exact T2_12_15
theorem T2_13_0 : (List.range 12).all (t2 1080033280 1048576000) = true := by kernel_rfl
theorem T2_13_1 : (List.range 12).all (t2 1080033280 1056964608) = true := by kernel_rfl
theorem T2_13_2 : (List.range 12).all (t2 1080033280 1061158912) = true := by kernel_rfl
theorem T2_13_3 : (List.range 12).all (t2 1080033280 1065353216) = true := by kernel_rfl
theorem T2_13_4 : (List.range 12).all (t2 1080033280 1067450368) = true := by kernel_rfl
theorem T2_13_5 : (List.range 12).all (t2 1080033280 1069547520) = true := by kernel_rfl
theorem T2_13_6 : (List.range 12).all (t2 1080033280 1071644672) = true := by kernel_rfl
theorem T2_13_7 : (List.range 12).all (t2 1080033280 1073741824) = true := by kernel_rfl
theorem T2_13_8 : (List.range 12).all (t2 1080033280 1074790400) = true := by kernel_rfl
theorem T2_13_9 : (List.range 12).all (t2 1080033280 1075838976) = true := by kernel_rfl
theorem T2_13_10 : (List.range 12).all (t2 1080033280 1076887552) = true := by kernel_rfl
theorem T2_13_11 : (List.range 12).all (t2 1080033280 1077936128) = true := by kernel_rfl
theorem T2_13_12 : (List.range 12).all (t2 1080033280 1078984704) = true := by kernel_rfl
theorem T2_13_13 : (List.range 12).all (t2 1080033280 1080033280) = true := by kernel_rfl
theorem T2_13_14 : (List.range 12).all (t2 1080033280 1081081856) = true := by kernel_rfl
theorem T2_13_15 : (List.range 12).all (t2 1080033280 1082130432) = true := by kernel_rfl
theorem T2_13 : bL.all (fun o => (List.range 12).all (t2 1080033280 o)) = true := List.all_eq_true.mpr fun o ho => by
  simp only [bL, List.mem_cons, List.not_mem_nil, or_false] at ho
  rcases ho with rfl | rfl | rfl | rfl | rfl | rfl | rfl | rfl | rfl | rfl | rfl | rfl | rfl | rfl | rfl | rfl
  · exact T2_13_0
  · exact T2_13_1
  · exact T2_13_2
  · exact T2_13_3
  · exact T2_13_4
  · exact T2_13_5
  · exact T2_13_6
  · exact T2_13_7
  · exact T2_13_8
  · exact T2_13_9
  · exact T2_13_10
  · exact T2_13_11
  · exact T2_13_12
  · exact T2_13_13
  · exact T2_13_14
  · exact T2_13_15
theorem T2_14_0 : (List.range 12).all (t2 1081081856 1048576000) = true := by kernel_rfl
theorem T2_14_1 : (List.range 12).all (t2 1081081856 1056964608) = true := by kernel_rfl
theorem T2_14_2 : (List.range 12).all (t2 1081081856 1061158912) = true := by kernel_rfl
theorem T2_14_3 : (List.range 12).all (t2 1081081856 1065353216) = true := by kernel_rfl
theorem T2_14_4 : (List.range 12).all (t2 1081081856 1067450368) = true := by kernel_rfl
theorem T2_14_5 : (List.range 12).all (t2 1081081856 1069547520) = true := by kernel_rfl
theorem T2_14_6 : (List.range 12).all (t2 1081081856 1071644672) = true := by kernel_rfl
theorem T2_14_7 : (List.range 12).all (t2 1081081856 1073741824) = true := by kernel_rfl
theorem T2_14_8 : (List.range 12).all (t2 1081081856 1074790400) = true := by kernel_rfl
theorem T2_14_9 : (List.range 12).all (t2 1081081856 1075838976) = true := by kernel_rfl
theorem T2_14_10 : (List.range 12).all (t2 1081081856 1076887552) = true := by kernel_rfl
theorem T2_14_11 : (List.range 12).all (t2 1081081856 1077936128) = true := by kernel_rfl
theorem T2_14_12 : (List.range 12).all (t2 1081081856 1078984704) = true := by kernel_rfl
theorem T2_14_13 : (List.range 12).all (t2 1081081856 1080033280) = true := by kernel_rfl
theorem T2_14_14 : (List.range 12).all (t2 1081081856 1081081856) = true := by kernel_rfl
theorem T2_14_15 : (List.range 12).all (t2 1081081856 1082130432) = true := by kernel_rfl
theorem T2_14 : bL.all (fun o => (List.range 12).all (t2 1081081856 o)) = true := List.all_eq_true.mpr fun o ho => by
  simp only [bL, List.mem_cons, List.not_mem_nil, or_false] at ho
  rcases ho with rfl | rfl | rfl | rfl | rfl | rfl | rfl | rfl | rfl | rfl | rfl | rfl | rfl | rfl | rfl | rfl
  · exact T2_14_0
  · exact T2_14_1
  · exact T2_14_2
  · exact T2_14_3
  · exact T2_14_4
  · exact T2_14_5
  · exact T2_14_6
  · exact T2_14_7
  · exact T2_14_8
  · exact T2_14_9
  · exact T2_14_10
  · exact T2_14_11
  · exact T2_14_12
  · exact T2_14_13
  · exact T2_14_14
  · exact T2_14_15
theorem T2_15_0 : (List.range 12).all (t2 1082130432 1048576000) = true := by kernel_rfl
theorem T2_15_1 : (List.range 12).all (t2 1082130432 1056964608) = true := by kernel_rfl
theorem T2_15_2 : (List.range 12).all (t2 1082130432 1061158912) = true := by kernel_rfl
theorem T2_15_3 : (List.range 12).all (t2 1082130432 1065353216) = true := by kernel_rfl
theorem T2_15_4 : (List.range 12).all (t2 1082130432 1067450368) = true := by kernel_rfl
theorem T2_15_5 : (List.range 12).all (t2 1082130432 1069547520) = true := by kernel_rfl
theorem T2_15_6 : (List.range 12).all (t2 1082130432 1071644672) = true := by kernel_rfl
theorem T2_15_7 : (List.range 12).all (t2 1082130432 1073741824) = true := by kernel_rfl
theorem T2_15_8 : (List.range 12).all (t2 1082130432 1074790400) = true := by kernel_rfl
theorem T2_15_9 : (List.range 12).all (t2 1082130432 1075838976) = true := by kernel_rfl
theorem T2_15_10 : (List.range 12).all (t2 1082130432 1076887552) = true := by kernel_rfl
theorem T2_15_11 : (List.range 12).all (t2 1082130432 1077936128) = true := by kernel_rfl
theorem T2_15_12 : (List.range 12).all (t2 1082130432 1078984704) = true := by kernel_rfl
theorem T2_15_13 : (List.range 12).all (t2 1082130432 1080033280) = true := by kernel_rfl
theorem T2_15_14 : (List.range 12).all (t2 1082130432 1081081856) = true := by kernel_rfl
theorem T2_15_15 : (List.range 12).all (t2 1082130432 1082130432) = true := by kernel_rfl
theorem T2_15 : bL.all (fun o => (List.range 12).all (t2 1082130432 o)) = true := List.all_eq_true.mpr fun o ho => by
  simp only [bL, List.mem_cons, List.not_mem_nil, or_false] at ho
  rcases ho with rfl | rfl | rfl | rfl | rfl | rfl | rfl | rfl | rfl | rfl | rfl | rfl | rfl | rfl | rfl | rfl
  · exact T2_15_0
  · exact T2_15_1
  · exact T2_15_2
  · exact T2_15_3
  · exact T2_15_4
  · exact T2_15_5
  · exact T2_15_6
  · exact T2_15_7
  · exact T2_15_8
  · exact T2_15_9
  · exact T2_15_10
  · exact T2_15_11
  · exact T2_15_12
  · exact T2_15_13
  · exact T2_15_14
  · exact T2_15_15
end Go.Proofs.Ytbbggpcbnahgiaa.Ab
