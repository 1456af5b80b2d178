/- FnRotors: a table. Only lemmas. Printed by gen_rotors.py. -/
import Derived.Test.YtbbggpcbnahgiaaRtT
namespace Go.Proofs.Ytbbggpcbnahgiaa.Ab
set_option linter.unusedVariables false
set_option linter.unusedSimpArgs false
open Go
theorem T2_8_0 : (List.range 12).all (t2 1074790400 1048576000) = true := by kernel_rfl
theorem T2_8_1 : (List.range 12).all (t2 1074790400 1056964608) = true := by kernel_rfl
theorem T2_8_2 : (List.range 12).all (t2 1074790400 1061158912) = true := by kernel_rfl
theorem T2_8_3 : (List.range 12).all (t2 1074790400 1065353216) = true := by kernel_rfl
theorem T2_8_4 : (List.range 12).all (t2 1074790400 1067450368) = true := by kernel_rfl
theorem T2_8_5 : (List.range 12).all (t2 1074790400 1069547520) = true := by kernel_rfl
theorem T2_8_6 : (List.range 12).all (t2 1074790400 1071644672) = true := by kernel_rfl
theorem T2_8_7 : (List.range 12).all (t2 1074790400 1073741824) = true := by kernel_rfl
theorem T2_8_8 : (List.range 12).all (t2 1074790400 1074790400) = true := by kernel_rfl
theorem T2_8_9 : (List.range 12).all (t2 1074790400 1075838976) = true := by kernel_rfl
theorem T2_8_10 : (List.range 12).all (t2 1074790400 1076887552) = true := by kernel_rfl
theorem T2_8_11 : (List.range 12).all (t2 1074790400 1077936128) = true := by kernel_rfl
theorem T2_8_12 : (List.range 12).all (t2 1074790400 1078984704) = true := by kernel_rfl
theorem T2_8_13 : (List.range 12).all (t2 1074790400 1080033280) = true := by kernel_rfl
theorem T2_8_14 : (List.range 12).all (t2 1074790400 1081081856) = true := by kernel_rfl
theorem T2_8_15 : (List.range 12).all (t2 1074790400 1082130432) = true := by kernel_rfl
theorem T2_8 : bL.all (fun o => (List.range 12).all (t2 1074790400 o)) = true := List.all_eq_true.mpr fun o ho => by
  simp only [bL, List.mem_cons, List.not_mem_nil, or_false] at ho
  rcases ho with rfl | rfl | rfl | rfl | rfl | rfl | rfl | rfl | rfl | rfl | rfl | rfl | rfl | rfl | rfl | rfl
  · exact T2_8_0
  · exact T2_8_1
  · exact T2_8_2
  · exact T2_8_3
  · exact T2_8_4
  · exact T2_8_5
  · exact T2_8_6
  · exact T2_8_7
  · exact T2_8_8
  · exact T2_8_9
  · exact T2_8_10
  · exact T2_8_11
  · exact T2_8_12
  · exact T2_8_13
  · exact T2_8_14
  · exact T2_8_15
theorem T2_9_0 : (List.range 12).all (t2 1075838976 1048576000) = true := by kernel_rfl
theorem T2_9_1 : (List.range 12).all (t2 1075838976 1056964608) = true := by kernel_rfl
theorem T2_9_2 : (List.range 12).all (t2 1075838976 1061158912) = true := by kernel_rfl
theorem T2_9_3 : (List.range 12).all (t2 1075838976 1065353216) = true := by kernel_rfl
theorem T2_9_4 : (List.range 12).all (t2 1075838976 1067450368) = true := by kernel_rfl
theorem T2_9_5 : (List.range 12).all (t2 1075838976 1069547520) = true := by kernel_rfl
theorem T2_9_6 : (List.range 12).all (t2 1075838976 1071644672) = true := by kernel_rfl
theorem T2_9_7 : (List.range 12).all (t2 1075838976 1073741824) = true := by kernel_rfl
theorem T2_9_8 : (List.range 12).all (t2 1075838976 1074790400) = true := by kernel_rfl
theorem T2_9_9 : (List.range 12).all (t2 1075838976 1075838976) = true := by kernel_rfl
theorem T2_9_10 : (List.range 12).all (t2 1075838976 1076887552) = true := by kernel_rfl
theorem T2_9_11 : (List.range 12).all (t2 1075838976 1077936128) = true := by kernel_rfl
theorem T2_9_12 : (List.range 12).all (t2 1075838976 1078984704) = true := by kernel_rfl
theorem T2_9_13 : (List.range 12).all (t2 1075838976 1080033280) = true := by kernel_rfl
theorem T2_9_14 : (List.range 12).all (t2 1075838976 1081081856) = true := by kernel_rfl
theorem T2_9_15 : (List.range 12).all (t2 1075838976 1082130432) = true := by kernel_rfl
theorem T2_9 : bL.all (fun o => (List.range 12).all (t2 1075838976 o)) = true := List.all_eq_true.mpr fun o ho => by
  simp only [bL, List.mem_cons, List.not_mem_nil, or_false] at ho
  rcases ho with rfl | rfl | rfl | rfl | rfl | rfl | rfl | rfl | rfl | rfl | rfl | rfl | rfl | rfl | rfl | rfl
  · exact T2_9_0
  · exact T2_9_1
  · exact T2_9_2
  · exact T2_9_3
  · exact T2_9_4
  · exact T2_9_5
  · exact T2_9_6
  · exact T2_9_7
  · exact T2_9_8
  · exact T2_9_9
  · exact T2_9_10
  · exact T2_9_11
  · exact T2_9_12
  · exact T2_9_13
  · exact T2_9_14
  · exact T2_9_15
theorem T2_10_0 : (List.range 12).all (t2 1076887552 1048576000) = true := by kernel_rfl
theorem T2_10_1 : (List.range 12).all (t2 1076887552 1056964608) = true := by kernel_rfl
theorem T2_10_2 : (List.range 12).all (t2 1076887552 1061158912) = true := by kernel_rfl
theorem T2_10_3 : (List.range 12).all (t2 1076887552 1065353216) = true := by kernel_rfl
theorem T2_10_4 : (List.range 12).all (t2 1076887552 1067450368) = true := by kernel_rfl
theorem T2_10_5 : (List.range 12).all (t2 1076887552 1069547520) = true := by kernel_rfl
theorem T2_10_6 : (List.range 12).all (t2 1076887552 1071644672) = true := by kernel_rfl
theorem T2_10_7 : (List.range 12).all (t2 1076887552 1073741824) = true := by kernel_rfl
theorem T2_10_8 : (List.range 12).all (t2 1076887552 1074790400) = true := by kernel_rfl
theorem T2_10_9 : (List.range 12).all (t2 1076887552 1075838976) = true := by kernel_rfl
theorem T2_10_10 : (List.range 12).all (t2 1076887552 1076887552) = true := by kernel_rfl
theorem T2_10_11 : (List.range 12).all (t2 1076887552 1077936128) = true := by kernel_rfl
theorem T2_10_12 : (List.range 12).all (t2 1076887552 1078984704) = true := by kernel_rfl
theorem T2_10_13 : (List.range 12).all (t2 1076887552 1080033280) = true := by kernel_rfl
theorem T2_10_14 : (List.range 12).all (t2 1076887552 1081081856) = true := by kernel_rfl
theorem T2_10_15 : (List.range 12).all (t2 1076887552 1082130432) = true := by kernel_rfl
theorem T2_10 : bL.all (fun o => (List.range 12).all (t2 1076887552 o)) = true := List.all_eq_true.mpr fun o ho => by
  simp only [bL, List.mem_cons, List.not_mem_nil, or_false] at ho
  rcases ho with rfl | rfl | rfl | rfl | rfl | rfl | rfl | rfl | rfl | rfl | rfl | rfl | rfl | rfl | rfl | rfl
  · exact T2_10_0
  · exact T2_10_1
  · exact T2_10_2
  · exact T2_10_3
  · exact T2_10_4
  · exact T2_10_5
  · exact T2_10_6
  · exact T2_10_7
  · exact T2_10_8
  · exact T2_10_9
  · exact T2_10_10
  · exact T2_10_11
  · exact T2_10_12
  · exact T2_10_13
  · exact T2_10_14
  · exact T2_10_15
theorem T2_11_0 : (List.range 12).all (t2 1077936128 1048576000) = true := by kernel_rfl
theorem T2_11_1 : (List.range 12).all (t2 1077936128 1056964608) = true := by kernel_rfl
theorem T2_11_2 : (List.range 12).all (t2 1077936128 1061158912) = true := by kernel_rfl
theorem T2_11_3 : (List.range 12).all (t2 1077936128 1065353216) = true := by kernel_rfl
theorem T2_11_4 : (List.range 12).all (t2 1077936128 1067450368) = true := by kernel_rfl
theorem T2_11_5 : (List.range 12).all (t2 1077936128 1069547520) = true := by kernel_rfl
theorem T2_11_6 : (List.range 12).all (t2 1077936128 1071644672) = true := by kernel_rfl
theorem T2_11_7 : (List.range 12).all (t2 1077936128 1073741824) = true := by kernel_rfl
theorem T2_11_8 : (List.range 12).all (t2 1077936128 1074790400) = true := by kernel_rfl
theorem T2_11_9 : (List.range 12).all (t2 1077936128 1075838976) = true := by kernel_rfl
theorem T2_11_10 : (List.range 12).all (t2 1077936128 1076887552) = true := by kernel_rfl
theorem T2_11_11 : (List.range 12).all (t2 1077936128 1077936128) = true := by kernel_rfl
theorem T2_11_12 : (List.range 12).all (t2 1077936128 1078984704) = true := by kernel_rfl
theorem T2_11_13 : (List.range 12).all (t2 1077936128 1080033280) = true := by kernel_rfl
theorem T2_11_14 : (List.range 12).all (t2 1077936128 1081081856) = true := by kernel_rfl
theorem T2_11_15 : (List.range 12).all (t2 1077936128 1082130432) = true := by kernel_rfl
theorem T2_11 : bL.all (fun o => (List.range 12).all (t2 1077936128 o)) = true := List.all_eq_true.mpr fun o ho => by
  simp only [bL, List.mem_cons, List.not_mem_nil, or_false] at ho
  rcases ho with rfl | rfl | rfl | rfl | rfl | rfl | rfl | rfl | rfl | rfl | rfl | rfl | rfl | rfl | rfl | rfl
  · exact T2_11_0
  · exact T2_11_1
  · exact T2_11_2
  · exact T2_11_3
  · exact T2_11_4
  · exact T2_11_5
  · exact T2_11_6
  · exact T2_11_7
  · exact T2_11_8
  · exact T2_11_9
  · exact T2_11_10
  · exact T2_11_11
  · exact T2_11_12
  · exact T2_11_13
  · exact T2_11_14
  · exact T2_11_15
end Go.Proofs.Ytbbggpcbnahgiaa.Ab
