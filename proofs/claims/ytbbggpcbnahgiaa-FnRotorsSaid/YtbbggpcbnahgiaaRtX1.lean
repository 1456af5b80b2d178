/- FnRotors: a table. Only lemmas. Printed by gen_rotors.py. -/
import Derived.Test.YtbbggpcbnahgiaaRtT
namespace Go.Proofs.Ytbbggpcbnahgiaa.Ab
set_option linter.unusedVariables false
set_option linter.unusedSimpArgs false
open Go
theorem T2_4_0 : (List.range 12).all (t2 1067450368 1048576000) = true := by kernel_rfl
theorem T2_4_1 : (List.range 12).all (t2 1067450368 1056964608) = true := by kernel_rfl
theorem T2_4_2 : (List.range 12).all (t2 1067450368 1061158912) = true := by kernel_rfl
theorem T2_4_3 : (List.range 12).all (t2 1067450368 1065353216) = true := by kernel_rfl
theorem T2_4_4 : (List.range 12).all (t2 1067450368 1067450368) = true := by kernel_rfl
theorem T2_4_5 : (List.range 12).all (t2 1067450368 1069547520) = true := by kernel_rfl
theorem T2_4_6 : (List.range 12).all (t2 1067450368 1071644672) = true := by kernel_rfl
theorem T2_4_7 : (List.range 12).all (t2 1067450368 1073741824) = true := by kernel_rfl
theorem T2_4_8 : (List.range 12).all (t2 1067450368 1074790400) = true := by kernel_rfl
theorem T2_4_9 : (List.range 12).all (t2 1067450368 1075838976) = true := by kernel_rfl
theorem T2_4_10 : (List.range 12).all (t2 1067450368 1076887552) = true := by kernel_rfl
theorem T2_4_11 : (List.range 12).all (t2 1067450368 1077936128) = true := by kernel_rfl
theorem T2_4_12 : (List.range 12).all (t2 1067450368 1078984704) = true := by kernel_rfl
theorem T2_4_13 : (List.range 12).all (t2 1067450368 1080033280) = true := by kernel_rfl
theorem T2_4_14 : (List.range 12).all (t2 1067450368 1081081856) = true := by kernel_rfl
theorem T2_4_15 : (List.range 12).all (t2 1067450368 1082130432) = true := by kernel_rfl
theorem T2_4 : bL.all (fun o => (List.range 12).all (t2 1067450368 o)) = true := List.all_eq_true.mpr fun o ho => by
  simp only [bL, List.mem_cons, List.not_mem_nil, or_false] at ho
  rcases ho with rfl | rfl | rfl | rfl | rfl | rfl | rfl | rfl | rfl | rfl | rfl | rfl | rfl | rfl | rfl | rfl
  · exact T2_4_0
  · exact T2_4_1
  · exact T2_4_2
  · exact T2_4_3
  · exact T2_4_4
  · exact T2_4_5
  · exact T2_4_6
  · exact T2_4_7
  · exact T2_4_8
  · exact T2_4_9
  · exact T2_4_10
  · exact T2_4_11
  · exact T2_4_12
  · exact T2_4_13
  · exact T2_4_14
  · exact T2_4_15
theorem T2_5_0 : (List.range 12).all (t2 1069547520 1048576000) = true := by kernel_rfl
theorem T2_5_1 : (List.range 12).all (t2 1069547520 1056964608) = true := by kernel_rfl
theorem T2_5_2 : (List.range 12).all (t2 1069547520 1061158912) = true := by kernel_rfl
theorem T2_5_3 : (List.range 12).all (t2 1069547520 1065353216) = true := by kernel_rfl
theorem T2_5_4 : (List.range 12).all (t2 1069547520 1067450368) = true := by kernel_rfl
theorem T2_5_5 : (List.range 12).all (t2 1069547520 1069547520) = true := by kernel_rfl
theorem T2_5_6 : (List.range 12).all (t2 1069547520 1071644672) = true := by kernel_rfl
theorem T2_5_7 : (List.range 12).all (t2 1069547520 1073741824) = true := by kernel_rfl
theorem T2_5_8 : (List.range 12).all (t2 1069547520 1074790400) = true := by kernel_rfl
theorem T2_5_9 : (List.range 12).all (t2 1069547520 1075838976) = true := by kernel_rfl
theorem T2_5_10 : (List.range 12).all (t2 1069547520 1076887552) = true := by kernel_rfl
theorem T2_5_11 : (List.range 12).all (t2 1069547520 1077936128) = true := by kernel_rfl
theorem T2_5_12 : (List.range 12).all (t2 1069547520 1078984704) = true := by kernel_rfl
theorem T2_5_13 : (List.range 12).all (t2 1069547520 1080033280) = true := by kernel_rfl
theorem T2_5_14 : (List.range 12).all (t2 1069547520 1081081856) = true := by kernel_rfl
theorem T2_5_15 : (List.range 12).all (t2 1069547520 1082130432) = true := by kernel_rfl
theorem T2_5 : bL.all (fun o => (List.range 12).all (t2 1069547520 o)) = true := List.all_eq_true.mpr fun o ho => by
  simp only [bL, List.mem_cons, List.not_mem_nil, or_false] at ho
  rcases ho with rfl | rfl | rfl | rfl | rfl | rfl | rfl | rfl | rfl | rfl | rfl | rfl | rfl | rfl | rfl | rfl
  · exact T2_5_0
  · exact T2_5_1
  · exact T2_5_2
  · exact T2_5_3
  · exact T2_5_4
  · exact T2_5_5
  · exact T2_5_6
  · exact T2_5_7
  · exact T2_5_8
  · exact T2_5_9
  · exact T2_5_10
  · exact T2_5_11
  · exact T2_5_12
  · exact T2_5_13
  · exact T2_5_14
  · exact T2_5_15
theorem T2_6_0 : (List.range 12).all (t2 1071644672 1048576000) = true := by kernel_rfl
theorem T2_6_1 : (List.range 12).all (t2 1071644672 1056964608) = true := by kernel_rfl
theorem T2_6_2 : (List.range 12).all (t2 1071644672 1061158912) = true := by kernel_rfl
theorem T2_6_3 : (List.range 12).all (t2 1071644672 1065353216) = true := by kernel_rfl
theorem T2_6_4 : (List.range 12).all (t2 1071644672 1067450368) = true := by kernel_rfl
theorem T2_6_5 : (List.range 12).all (t2 1071644672 1069547520) = true := by kernel_rfl
theorem T2_6_6 : (List.range 12).all (t2 1071644672 1071644672) = true := by kernel_rfl
theorem T2_6_7 : (List.range 12).all (t2 1071644672 1073741824) = true := by kernel_rfl
theorem T2_6_8 : (List.range 12).all (t2 1071644672 1074790400) = true := by kernel_rfl
theorem T2_6_9 : (List.range 12).all (t2 1071644672 1075838976) = true := by kernel_rfl
theorem T2_6_10 : (List.range 12).all (t2 1071644672 1076887552) = true := by kernel_rfl
theorem T2_6_11 : (List.range 12).all (t2 1071644672 1077936128) = true := by kernel_rfl
theorem T2_6_12 : (List.range 12).all (t2 1071644672 1078984704) = true := by kernel_rfl
theorem T2_6_13 : (List.range 12).all (t2 1071644672 1080033280) = true := by kernel_rfl
theorem T2_6_14 : (List.range 12).all (t2 1071644672 1081081856) = true := by kernel_rfl
theorem T2_6_15 : (List.range 12).all (t2 1071644672 1082130432) = true := by kernel_rfl
theorem T2_6 : bL.all (fun o => (List.range 12).all (t2 1071644672 o)) = true := List.all_eq_true.mpr fun o ho => by
  simp only [bL, List.mem_cons, List.not_mem_nil, or_false] at ho
  rcases ho with rfl | rfl | rfl | rfl | rfl | rfl | rfl | rfl | rfl | rfl | rfl | rfl | rfl | rfl | rfl | rfl
  · exact T2_6_0
  · exact T2_6_1
  · exact T2_6_2
  · exact T2_6_3
  · exact T2_6_4
  · exact T2_6_5
  · exact T2_6_6
  · exact T2_6_7
  · exact T2_6_8
  · exact T2_6_9
  · exact T2_6_10
  · exact T2_6_11
  · exact T2_6_12
  · exact T2_6_13
  · exact T2_6_14
  · exact T2_6_15
theorem T2_7_0 : (List.range 12).all (t2 1073741824 1048576000) = true := by kernel_rfl
theorem T2_7_1 : (List.range 12).all (t2 1073741824 1056964608) = true := by kernel_rfl
theorem T2_7_2 : (List.range 12).all (t2 1073741824 1061158912) = true := by kernel_rfl
theorem T2_7_3 : (List.range 12).all (t2 1073741824 1065353216) = true := by kernel_rfl
theorem T2_7_4 : (List.range 12).all (t2 1073741824 1067450368) = true := by kernel_rfl
theorem T2_7_5 : (List.range 12).all (t2 1073741824 1069547520) = true := by kernel_rfl
theorem T2_7_6 : (List.range 12).all (t2 1073741824 1071644672) = true := by kernel_rfl
theorem T2_7_7 : (List.range 12).all (t2 1073741824 1073741824) = true := by kernel_rfl
theorem T2_7_8 : (List.range 12).all (t2 1073741824 1074790400) = true := by kernel_rfl
theorem T2_7_9 : (List.range 12).all (t2 1073741824 1075838976) = true := by kernel_rfl
theorem T2_7_10 : (List.range 12).all (t2 1073741824 1076887552) = true := by kernel_rfl
theorem T2_7_11 : (List.range 12).all (t2 1073741824 1077936128) = true := by kernel_rfl
theorem T2_7_12 : (List.range 12).all (t2 1073741824 1078984704) = true := by kernel_rfl
theorem T2_7_13 : (List.range 12).all (t2 1073741824 1080033280) = true := by kernel_rfl
theorem T2_7_14 : (List.range 12).all (t2 1073741824 1081081856) = true := by kernel_rfl
theorem T2_7_15 : (List.range 12).all (t2 1073741824 1082130432) = true := by kernel_rfl
theorem T2_7 : bL.all (fun o => (List.range 12).all (t2 1073741824 o)) = true := List.all_eq_true.mpr fun o ho => by
  simp only [bL, List.mem_cons, List.not_mem_nil, or_false] at ho
  rcases ho with rfl | rfl | rfl | rfl | rfl | rfl | rfl | rfl | rfl | rfl | rfl | rfl | rfl | rfl | rfl | rfl
  · exact T2_7_0
  · exact T2_7_1
  · exact T2_7_2
  · exact T2_7_3
  · exact T2_7_4
  · exact T2_7_5
  · exact T2_7_6
  · exact T2_7_7
  · exact T2_7_8
  · exact T2_7_9
  · exact T2_7_10
  · exact T2_7_11
  · exact T2_7_12
  · exact T2_7_13
  · exact T2_7_14
  · exact T2_7_15
end Go.Proofs.Ytbbggpcbnahgiaa.Ab
