/- FnRotors: a table. Only lemmas. Printed by gen_rotors.py. -/
import Derived.Test.YtbbggpcbnahgiaaRtT
namespace Go.Proofs.Ytbbggpcbnahgiaa.Ab
set_option linter.unusedVariables false
set_option linter.unusedSimpArgs false
open Go
theorem T2_0_0 : (List.range 12).all (t2 1048576000 1048576000) = true := by kernel_rfl
theorem T2_0_1 : (List.range 12).all (t2 1048576000 1056964608) = true := by kernel_rfl
theorem T2_0_2 : (List.range 12).all (t2 1048576000 1061158912) = true := by kernel_rfl
theorem T2_0_3 : (List.range 12).all (t2 1048576000 1065353216) = true := by kernel_rfl
theorem T2_0_4 : (List.range 12).all (t2 1048576000 1067450368) = true := by kernel_rfl
theorem T2_0_5 : (List.range 12).all (t2 1048576000 1069547520) = true := by kernel_rfl
theorem T2_0_6 : (List.range 12).all (t2 1048576000 1071644672) = true := by kernel_rfl
theorem T2_0_7 : (List.range 12).all (t2 1048576000 1073741824) = true := by kernel_rfl
theorem T2_0_8 : (List.range 12).all (t2 1048576000 1074790400) = true := by kernel_rfl
theorem T2_0_9 : (List.range 12).all (t2 1048576000 1075838976) = true := by kernel_rfl
theorem T2_0_10 : (List.range 12).all (t2 1048576000 1076887552) = true := by kernel_rfl
theorem T2_0_11 : (List.range 12).all (t2 1048576000 1077936128) = true := by kernel_rfl
theorem T2_0_12 : (List.range 12).all (t2 1048576000 1078984704) = true := by kernel_rfl
theorem T2_0_13 : (List.range 12).all (t2 1048576000 1080033280) = true := by kernel_rfl
theorem T2_0_14 : (List.range 12).all (t2 1048576000 1081081856) = true := by kernel_rfl
theorem T2_0_15 : (List.range 12).all (t2 1048576000 1082130432) = true := by kernel_rfl
theorem T2_0 : bL.all (fun o => (List.range 12).all (t2 1048576000 o)) = true := List.all_eq_true.mpr fun o ho => by
  simp only [bL, List.mem_cons, List.not_mem_nil, or_false] at ho
  rcases ho with rfl | rfl | rfl | rfl | rfl | rfl | rfl | rfl | rfl | rfl | rfl | rfl | rfl | rfl | rfl | rfl
  · exact T2_0_0
  · exact T2_0_1
  · exact T2_0_2
  · exact T2_0_3
  · exact T2_0_4
  · exact T2_0_5
  · exact T2_0_6
  · exact T2_0_7
  · exact T2_0_8
  · exact T2_0_9
  · exact T2_0_10
  · exact T2_0_11
  · exact T2_0_12
  · exact T2_0_13
  · exact T2_0_14
  · exact T2_0_15
theorem T2_1_0 : (List.range 12).all (t2 1056964608 1048576000) = true := by kernel_rfl
theorem T2_1_1 : (List.range 12).all (t2 1056964608 1056964608) = true := by kernel_rfl
theorem T2_1_2 : (List.range 12).all (t2 1056964608 1061158912) = true := by kernel_rfl
theorem T2_1_3 : (List.range 12).all (t2 1056964608 1065353216) = true := by kernel_rfl
theorem T2_1_4 : (List.range 12).all (t2 1056964608 1067450368) = true := by kernel_rfl
theorem T2_1_5 : (List.range 12).all (t2 1056964608 1069547520) = true := by kernel_rfl
theorem T2_1_6 : (List.range 12).all (t2 1056964608 1071644672) = true := by kernel_rfl
theorem T2_1_7 : (List.range 12).all (t2 1056964608 1073741824) = true := by kernel_rfl
theorem T2_1_8 : (List.range 12).all (t2 1056964608 1074790400) = true := by kernel_rfl
theorem T2_1_9 : (List.range 12).all (t2 1056964608 1075838976) = true := by kernel_rfl
theorem T2_1_10 : (List.range 12).all (t2 1056964608 1076887552) = true := by kernel_rfl
theorem T2_1_11 : (List.range 12).all (t2 1056964608 1077936128) = true := by kernel_rfl
theorem T2_1_12 : (List.range 12).all (t2 1056964608 1078984704) = true := by kernel_rfl
theorem T2_1_13 : (List.range 12).all (t2 1056964608 1080033280) = true := by kernel_rfl
theorem T2_1_14 : (List.range 12).all (t2 1056964608 1081081856) = true := by kernel_rfl
theorem T2_1_15 : (List.range 12).all (t2 1056964608 1082130432) = true := by kernel_rfl
theorem T2_1 : bL.all (fun o => (List.range 12).all (t2 1056964608 o)) = true := List.all_eq_true.mpr fun o ho => by
  simp only [bL, List.mem_cons, List.not_mem_nil, or_false] at ho
  rcases ho with rfl | rfl | rfl | rfl | rfl | rfl | rfl | rfl | rfl | rfl | rfl | rfl | rfl | rfl | rfl | rfl
  · exact T2_1_0
  · exact T2_1_1
  · exact T2_1_2
  · exact T2_1_3
  · exact T2_1_4
  · exact T2_1_5
  · exact T2_1_6
  · exact T2_1_7
  · exact T2_1_8
  · exact T2_1_9
  · exact T2_1_10
  · exact T2_1_11
  · exact T2_1_12
  · exact T2_1_13
  · exact T2_1_14
  · exact T2_1_15
theorem T2_2_0 : (List.range 12).all (t2 1061158912 1048576000) = true := by kernel_rfl
theorem T2_2_1 : (List.range 12).all (t2 1061158912 1056964608) = true := by kernel_rfl
theorem T2_2_2 : (List.range 12).all (t2 1061158912 1061158912) = true := by kernel_rfl
theorem T2_2_3 : (List.range 12).all (t2 1061158912 1065353216) = true := by kernel_rfl
theorem T2_2_4 : (List.range 12).all (t2 1061158912 1067450368) = true := by kernel_rfl
theorem T2_2_5 : (List.range 12).all (t2 1061158912 1069547520) = true := by kernel_rfl
theorem T2_2_6 : (List.range 12).all (t2 1061158912 1071644672) = true := by kernel_rfl
theorem T2_2_7 : (List.range 12).all (t2 1061158912 1073741824) = true := by kernel_rfl
theorem T2_2_8 : (List.range 12).all (t2 1061158912 1074790400) = true := by kernel_rfl
theorem T2_2_9 : (List.range 12).all (t2 1061158912 1075838976) = true := by kernel_rfl
theorem T2_2_10 : (List.range 12).all (t2 1061158912 1076887552) = true := by kernel_rfl
theorem T2_2_11 : (List.range 12).all (t2 1061158912 1077936128) = true := by kernel_rfl
theorem T2_2_12 : (List.range 12).all (t2 1061158912 1078984704) = true := by kernel_rfl
theorem T2_2_13 : (List.range 12).all (t2 1061158912 1080033280) = true := by kernel_rfl
theorem T2_2_14 : (List.range 12).all (t2 1061158912 1081081856) = true := by kernel_rfl
theorem T2_2_15 : (List.range 12).all (t2 1061158912 1082130432) = true := by kernel_rfl
theorem T2_2 : bL.all (fun o => (List.range 12).all (t2 1061158912 o)) = true := List.all_eq_true.mpr fun o ho => by
  simp only [bL, List.mem_cons, List.not_mem_nil, or_false] at ho
  rcases ho with rfl | rfl | rfl | rfl | rfl | rfl | rfl | rfl | rfl | rfl | rfl | rfl | rfl | rfl | rfl | rfl
  · exact T2_2_0
  · exact T2_2_1
  · exact T2_2_2
  · exact T2_2_3
  · exact T2_2_4
  · exact T2_2_5
  · exact T2_2_6
  · exact T2_2_7
  · exact T2_2_8
  · exact T2_2_9
  · exact T2_2_10
  · exact T2_2_11
  · exact T2_2_12
  · exact T2_2_13
  · exact T2_2_14
  · exact T2_2_15
theorem T2_3_0 : (List.range 12).all (t2 1065353216 1048576000) = true := by kernel_rfl
theorem T2_3_1 : (List.range 12).all (t2 1065353216 1056964608) = true := by kernel_rfl
theorem T2_3_2 : (List.range 12).all (t2 1065353216 1061158912) = true := by kernel_rfl
theorem T2_3_3 : (List.range 12).all (t2 1065353216 1065353216) = true := by kernel_rfl
theorem T2_3_4 : (List.range 12).all (t2 1065353216 1067450368) = true := by kernel_rfl
theorem T2_3_5 : (List.range 12).all (t2 1065353216 1069547520) = true := by kernel_rfl
theorem T2_3_6 : (List.range 12).all (t2 1065353216 1071644672) = true := by kernel_rfl
theorem T2_3_7 : (List.range 12).all (t2 1065353216 1073741824) = true := by kernel_rfl
theorem T2_3_8 : (List.range 12).all (t2 1065353216 1074790400) = true := by kernel_rfl
theorem T2_3_9 : (List.range 12).all (t2 1065353216 1075838976) = true := by kernel_rfl
theorem T2_3_10 : (List.range 12).all (t2 1065353216 1076887552) = true := by kernel_rfl
theorem T2_3_11 : (List.range 12).all (t2 1065353216 1077936128) = true := by kernel_rfl
theorem T2_3_12 : (List.range 12).all (t2 1065353216 1078984704) = true := by kernel_rfl
theorem T2_3_13 : (List.range 12).all (t2 1065353216 1080033280) = true := by kernel_rfl
theorem T2_3_14 : (List.range 12).all (t2 1065353216 1081081856) = true := by kernel_rfl
theorem T2_3_15 : (List.range 12).all (t2 1065353216 1082130432) = true := by kernel_rfl
theorem T2_3 : bL.all (fun o => (List.range 12).all (t2 1065353216 o)) = true := List.all_eq_true.mpr fun o ho => by
  simp only [bL, List.mem_cons, List.not_mem_nil, or_false] at ho
  rcases ho with rfl | rfl | rfl | rfl | rfl | rfl | rfl | rfl | rfl | rfl | rfl | rfl | rfl | rfl | rfl | rfl
  · exact T2_3_0
  · exact T2_3_1
  · exact T2_3_2
  · exact T2_3_3
  · exact T2_3_4
  · exact T2_3_5
  · exact T2_3_6
  · exact T2_3_7
  · exact T2_3_8
  · exact T2_3_9
  · exact T2_3_10
  · exact T2_3_11
  · exact T2_3_12
  · exact T2_3_13
  · exact T2_3_14
  · exact T2_3_15
end Go.Proofs.Ytbbggpcbnahgiaa.Ab
