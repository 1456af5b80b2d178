/- FnClosed: the two parts. Only lemmas. Printed by gen_closed.py. -/
import Derived.Test.YtlopdogjdfeikaaClT
import Derived.Test.YtlopdogjdfeikaaClG0
import Derived.Test.YtlopdogjdfeikaaClG1
import Derived.Test.YtlopdogjdfeikaaClG2
import Derived.Test.YtlopdogjdfeikaaClG3
import Derived.Test.YtlopdogjdfeikaaClX0
import Derived.Test.YtlopdogjdfeikaaClX1
namespace Go.Proofs.Ytlopdogjdfeikaa.Ab
set_option linter.unusedVariables false
set_option linter.unusedSimpArgs false
open Go
theorem be_a0 : ∀ J : Nat, J < 40 → beOk (RL.getD 0 0) ((BT.getD 0 []).getD J 0)
  | 0, _ => be_0_0
  | 1, _ => be_0_1
  | 2, _ => be_0_2
  | 3, _ => be_0_3
  | 4, _ => be_0_4
  | 5, _ => be_0_5
  | 6, _ => be_0_6
  | 7, _ => be_0_7
  | 8, _ => be_0_8
  | 9, _ => be_0_9
  | 10, _ => be_0_10
  | 11, _ => be_0_11
  | 12, _ => be_0_12
  | 13, _ => be_0_13
  | 14, _ => be_0_14
  | 15, _ => be_0_15
  | 16, _ => be_0_16
  | 17, _ => be_0_17
  | 18, _ => be_0_18
  | 19, _ => be_0_19
  | 20, _ => be_0_20
  | 21, _ => be_0_21
  | 22, _ => be_0_22
  | 23, _ => be_0_23
  | 24, _ => be_0_24
  | 25, _ => be_0_25
  | 26, _ => be_0_26
  | 27, _ => be_0_27
  | 28, _ => be_0_28
  | 29, _ => be_0_29
  | 30, _ => be_0_30
  | 31, _ => be_0_31
  | 32, _ => be_0_32
  | 33, _ => be_0_33
  | 34, _ => be_0_34
  | 35, _ => be_0_35
  | 36, _ => be_0_36
  | 37, _ => be_0_37
  | 38, _ => be_0_38
  | 39, _ => be_0_39
  | J + 40, h => absurd h (by omega)
theorem be_a1 : ∀ J : Nat, J < 40 → beOk (RL.getD 1 0) ((BT.getD 1 []).getD J 0)
  | 0, _ => be_1_0
  | 1, _ => be_1_1
  | 2, _ => be_1_2
  | 3, _ => be_1_3
  | 4, _ => be_1_4
  | 5, _ => be_1_5
  | 6, _ => be_1_6
  | 7, _ => be_1_7
  | 8, _ => be_1_8
  | 9, _ => be_1_9
  | 10, _ => be_1_10
  | 11, _ => be_1_11
  | 12, _ => be_1_12
  | 13, _ => be_1_13
  | 14, _ => be_1_14
  | 15, _ => be_1_15
  | 16, _ => be_1_16
  | 17, _ => be_1_17
  | 18, _ => be_1_18
  | 19, _ => be_1_19
  | 20, _ => be_1_20
  | 21, _ => be_1_21
  | 22, _ => be_1_22
  | 23, _ => be_1_23
  | 24, _ => be_1_24
  | 25, _ => be_1_25
  | 26, _ => be_1_26
  | 27, _ => be_1_27
  | 28, _ => be_1_28
  | 29, _ => be_1_29
  | 30, _ => be_1_30
  | 31, _ => be_1_31
  | 32, _ => be_1_32
  | 33, _ => be_1_33
  | 34, _ => be_1_34
  | 35, _ => be_1_35
  | 36, _ => be_1_36
  | 37, _ => be_1_37
  | 38, _ => be_1_38
  | 39, _ => be_1_39
  | J + 40, h => absurd h (by omega)
theorem be_a2 : ∀ J : Nat, J < 40 → beOk (RL.getD 2 0) ((BT.getD 2 []).getD J 0)
  | 0, _ => be_2_0
  | 1, _ => be_2_1
  | 2, _ => be_2_2
  | 3, _ => be_2_3
  | 4, _ => be_2_4
  | 5, _ => be_2_5
  | 6, _ => be_2_6
  | 7, _ => be_2_7
  | 8, _ => be_2_8
  | 9, _ => be_2_9
  | 10, _ => be_2_10
  | 11, _ => be_2_11
  | 12, _ => be_2_12
  | 13, _ => be_2_13
  | 14, _ => be_2_14
  | 15, _ => be_2_15
  | 16, _ => be_2_16
  | 17, _ => be_2_17
  | 18, _ => be_2_18
  | 19, _ => be_2_19
  | 20, _ => be_2_20
  | 21, _ => be_2_21
  | 22, _ => be_2_22
  | 23, _ => be_2_23
  | 24, _ => be_2_24
  | 25, _ => be_2_25
  | 26, _ => be_2_26
  | 27, _ => be_2_27
  | 28, _ => be_2_28
  | 29, _ => be_2_29
  | 30, _ => be_2_30
  | 31, _ => be_2_31
  | 32, _ => be_2_32
  | 33, _ => be_2_33
  | 34, _ => be_2_34
  | 35, _ => be_2_35
  | 36, _ => be_2_36
  | 37, _ => be_2_37
  | 38, _ => be_2_38
  | 39, _ => be_2_39
  | J + 40, h => absurd h (by omega)
theorem be_a3 : ∀ J : Nat, J < 40 → beOk (RL.getD 3 0) ((BT.getD 3 []).getD J 0)
  | 0, _ => be_3_0
  | 1, _ => be_3_1
  | 2, _ => be_3_2
  | 3, _ => be_3_3
  | 4, _ => be_3_4
  | 5, _ => be_3_5
  | 6, _ => be_3_6
  | 7, _ => be_3_7
  | 8, _ => be_3_8
  | 9, _ => be_3_9
  | 10, _ => be_3_10
  | 11, _ => be_3_11
  | 12, _ => be_3_12
  | 13, _ => be_3_13
  | 14, _ => be_3_14
  | 15, _ => be_3_15
  | 16, _ => be_3_16
  | 17, _ => be_3_17
  | 18, _ => be_3_18
  | 19, _ => be_3_19
  | 20, _ => be_3_20
  | 21, _ => be_3_21
  | 22, _ => be_3_22
  | 23, _ => be_3_23
  | 24, _ => be_3_24
  | 25, _ => be_3_25
  | 26, _ => be_3_26
  | 27, _ => be_3_27
  | 28, _ => be_3_28
  | 29, _ => be_3_29
  | 30, _ => be_3_30
  | 31, _ => be_3_31
  | 32, _ => be_3_32
  | 33, _ => be_3_33
  | 34, _ => be_3_34
  | 35, _ => be_3_35
  | 36, _ => be_3_36
  | 37, _ => be_3_37
  | 38, _ => be_3_38
  | 39, _ => be_3_39
  | J + 40, h => absurd h (by omega)
theorem be_a4 : ∀ J : Nat, J < 40 → beOk (RL.getD 4 0) ((BT.getD 4 []).getD J 0)
  | 0, _ => be_4_0
  | 1, _ => be_4_1
  | 2, _ => be_4_2
  | 3, _ => be_4_3
  | 4, _ => be_4_4
  | 5, _ => be_4_5
  | 6, _ => be_4_6
  | 7, _ => be_4_7
  | 8, _ => be_4_8
  | 9, _ => be_4_9
  | 10, _ => be_4_10
  | 11, _ => be_4_11
  | 12, _ => be_4_12
  | 13, _ => be_4_13
  | 14, _ => be_4_14
  | 15, _ => be_4_15
  | 16, _ => be_4_16
  | 17, _ => be_4_17
  | 18, _ => be_4_18
  | 19, _ => be_4_19
  | 20, _ => be_4_20
  | 21, _ => be_4_21
  | 22, _ => be_4_22
  | 23, _ => be_4_23
  | 24, _ => be_4_24
  | 25, _ => be_4_25
  | 26, _ => be_4_26
  | 27, _ => be_4_27
  | 28, _ => be_4_28
  | 29, _ => be_4_29
  | 30, _ => be_4_30
  | 31, _ => be_4_31
  | 32, _ => be_4_32
  | 33, _ => be_4_33
  | 34, _ => be_4_34
  | 35, _ => be_4_35
  | 36, _ => be_4_36
  | 37, _ => be_4_37
  | 38, _ => be_4_38
  | 39, _ => be_4_39
  | J + 40, h => absurd h (by omega)
theorem be_a5 : ∀ J : Nat, J < 40 → beOk (RL.getD 5 0) ((BT.getD 5 []).getD J 0)
  | 0, _ => be_5_0
  | 1, _ => be_5_1
  | 2, _ => be_5_2
  | 3, _ => be_5_3
  | 4, _ => be_5_4
  | 5, _ => be_5_5
  | 6, _ => be_5_6
  | 7, _ => be_5_7
  | 8, _ => be_5_8
  | 9, _ => be_5_9
  | 10, _ => be_5_10
  | 11, _ => be_5_11
  | 12, _ => be_5_12
  | 13, _ => be_5_13
  | 14, _ => be_5_14
  | 15, _ => be_5_15
  | 16, _ => be_5_16
  | 17, _ => be_5_17
  | 18, _ => be_5_18
  | 19, _ => be_5_19
  | 20, _ => be_5_20
  | 21, _ => be_5_21
  | 22, _ => be_5_22
  | 23, _ => be_5_23
  | 24, _ => be_5_24
  | 25, _ => be_5_25
  | 26, _ => be_5_26
  | 27, _ => be_5_27
  | 28, _ => be_5_28
  | 29, _ => be_5_29
  | 30, _ => be_5_30
  | 31, _ => be_5_31
  | 32, _ => be_5_32
  | 33, _ => be_5_33
  | 34, _ => be_5_34
  | 35, _ => be_5_35
  | 36, _ => be_5_36
  | 37, _ => be_5_37
  | 38, _ => be_5_38
  | 39, _ => be_5_39
  | J + 40, h => absurd h (by omega)
theorem be_a6 : ∀ J : Nat, J < 40 → beOk (RL.getD 6 0) ((BT.getD 6 []).getD J 0)
  | 0, _ => be_6_0
  | 1, _ => be_6_1
  | 2, _ => be_6_2
  | 3, _ => be_6_3
  | 4, _ => be_6_4
  | 5, _ => be_6_5
  | 6, _ => be_6_6
  | 7, _ => be_6_7
  | 8, _ => be_6_8
  | 9, _ => be_6_9
  | 10, _ => be_6_10
  | 11, _ => be_6_11
  | 12, _ => be_6_12
  | 13, _ => be_6_13
  | 14, _ => be_6_14
  | 15, _ => be_6_15
  | 16, _ => be_6_16
  | 17, _ => be_6_17
  | 18, _ => be_6_18
  | 19, _ => be_6_19
  | 20, _ => be_6_20
  | 21, _ => be_6_21
  | 22, _ => be_6_22
  | 23, _ => be_6_23
  | 24, _ => be_6_24
  | 25, _ => be_6_25
  | 26, _ => be_6_26
  | 27, _ => be_6_27
  | 28, _ => be_6_28
  | 29, _ => be_6_29
  | 30, _ => be_6_30
  | 31, _ => be_6_31
  | 32, _ => be_6_32
  | 33, _ => be_6_33
  | 34, _ => be_6_34
  | 35, _ => be_6_35
  | 36, _ => be_6_36
  | 37, _ => be_6_37
  | 38, _ => be_6_38
  | 39, _ => be_6_39
  | J + 40, h => absurd h (by omega)
theorem be_a7 : ∀ J : Nat, J < 40 → beOk (RL.getD 7 0) ((BT.getD 7 []).getD J 0)
  | 0, _ => be_7_0
  | 1, _ => be_7_1
  | 2, _ => be_7_2
  | 3, _ => be_7_3
  | 4, _ => be_7_4
  | 5, _ => be_7_5
  | 6, _ => be_7_6
  | 7, _ => be_7_7
  | 8, _ => be_7_8
  | 9, _ => be_7_9
  | 10, _ => be_7_10
  | 11, _ => be_7_11
  | 12, _ => be_7_12
  | 13, _ => be_7_13
  | 14, _ => be_7_14
  | 15, _ => be_7_15
  | 16, _ => be_7_16
  | 17, _ => be_7_17
  | 18, _ => be_7_18
  | 19, _ => be_7_19
  | 20, _ => be_7_20
  | 21, _ => be_7_21
  | 22, _ => be_7_22
  | 23, _ => be_7_23
  | 24, _ => be_7_24
  | 25, _ => be_7_25
  | 26, _ => be_7_26
  | 27, _ => be_7_27
  | 28, _ => be_7_28
  | 29, _ => be_7_29
  | 30, _ => be_7_30
  | 31, _ => be_7_31
  | 32, _ => be_7_32
  | 33, _ => be_7_33
  | 34, _ => be_7_34
  | 35, _ => be_7_35
  | 36, _ => be_7_36
  | 37, _ => be_7_37
  | 38, _ => be_7_38
  | 39, _ => be_7_39
  | J + 40, h => absurd h (by omega)
theorem be_a8 : ∀ J : Nat, J < 40 → beOk (RL.getD 8 0) ((BT.getD 8 []).getD J 0)
  | 0, _ => be_8_0
  | 1, _ => be_8_1
  | 2, _ => be_8_2
  | 3, _ => be_8_3
  | 4, _ => be_8_4
  | 5, _ => be_8_5
  | 6, _ => be_8_6
  | 7, _ => be_8_7
  | 8, _ => be_8_8
  | 9, _ => be_8_9
  | 10, _ => be_8_10
  | 11, _ => be_8_11
  | 12, _ => be_8_12
  | 13, _ => be_8_13
  | 14, _ => be_8_14
  | 15, _ => be_8_15
  | 16, _ => be_8_16
  | 17, _ => be_8_17
  | 18, _ => be_8_18
  | 19, _ => be_8_19
  | 20, _ => be_8_20
  | 21, _ => be_8_21
  | 22, _ => be_8_22
  | 23, _ => be_8_23
  | 24, _ => be_8_24
  | 25, _ => be_8_25
  | 26, _ => be_8_26
  | 27, _ => be_8_27
  | 28, _ => be_8_28
  | 29, _ => be_8_29
  | 30, _ => be_8_30
  | 31, _ => be_8_31
  | 32, _ => be_8_32
  | 33, _ => be_8_33
  | 34, _ => be_8_34
  | 35, _ => be_8_35
  | 36, _ => be_8_36
  | 37, _ => be_8_37
  | 38, _ => be_8_38
  | 39, _ => be_8_39
  | J + 40, h => absurd h (by omega)
theorem be_a9 : ∀ J : Nat, J < 40 → beOk (RL.getD 9 0) ((BT.getD 9 []).getD J 0)
  | 0, _ => be_9_0
  | 1, _ => be_9_1
  | 2, _ => be_9_2
  | 3, _ => be_9_3
  | 4, _ => be_9_4
  | 5, _ => be_9_5
  | 6, _ => be_9_6
  | 7, _ => be_9_7
  | 8, _ => be_9_8
  | 9, _ => be_9_9
  | 10, _ => be_9_10
  | 11, _ => be_9_11
  | 12, _ => be_9_12
  | 13, _ => be_9_13
  | 14, _ => be_9_14
  | 15, _ => be_9_15
  | 16, _ => be_9_16
  | 17, _ => be_9_17
  | 18, _ => be_9_18
  | 19, _ => be_9_19
  | 20, _ => be_9_20
  | 21, _ => be_9_21
  | 22, _ => be_9_22
  | 23, _ => be_9_23
  | 24, _ => be_9_24
  | 25, _ => be_9_25
  | 26, _ => be_9_26
  | 27, _ => be_9_27
  | 28, _ => be_9_28
  | 29, _ => be_9_29
  | 30, _ => be_9_30
  | 31, _ => be_9_31
  | 32, _ => be_9_32
  | 33, _ => be_9_33
  | 34, _ => be_9_34
  | 35, _ => be_9_35
  | 36, _ => be_9_36
  | 37, _ => be_9_37
  | 38, _ => be_9_38
  | 39, _ => be_9_39
  | J + 40, h => absurd h (by omega)
theorem be_a10 : ∀ J : Nat, J < 40 → beOk (RL.getD 10 0) ((BT.getD 10 []).getD J 0)
  | 0, _ => be_10_0
  | 1, _ => be_10_1
  | 2, _ => be_10_2
  | 3, _ => be_10_3
  | 4, _ => be_10_4
  | 5, _ => be_10_5
  | 6, _ => be_10_6
  | 7, _ => be_10_7
  | 8, _ => be_10_8
  | 9, _ => be_10_9
  | 10, _ => be_10_10
  | 11, _ => be_10_11
  | 12, _ => be_10_12
  | 13, _ => be_10_13
  | 14, _ => be_10_14
  | 15, _ => be_10_15
  | 16, _ => be_10_16
  | 17, _ => be_10_17
  | 18, _ => be_10_18
  | 19, _ => be_10_19
  | 20, _ => be_10_20
  | 21, _ => be_10_21
  | 22, _ => be_10_22
  | 23, _ => be_10_23
  | 24, _ => be_10_24
  | 25, _ => be_10_25
  | 26, _ => be_10_26
  | 27, _ => be_10_27
  | 28, _ => be_10_28
  | 29, _ => be_10_29
  | 30, _ => be_10_30
  | 31, _ => be_10_31
  | 32, _ => be_10_32
  | 33, _ => be_10_33
  | 34, _ => be_10_34
  | 35, _ => be_10_35
  | 36, _ => be_10_36
  | 37, _ => be_10_37
  | 38, _ => be_10_38
  | 39, _ => be_10_39
  | J + 40, h => absurd h (by omega)
theorem be_a11 : ∀ J : Nat, J < 40 → beOk (RL.getD 11 0) ((BT.getD 11 []).getD J 0)
  | 0, _ => be_11_0
  | 1, _ => be_11_1
  | 2, _ => be_11_2
  | 3, _ => be_11_3
  | 4, _ => be_11_4
  | 5, _ => be_11_5
  | 6, _ => be_11_6
  | 7, _ => be_11_7
  | 8, _ => be_11_8
  | 9, _ => be_11_9
  | 10, _ => be_11_10
  | 11, _ => be_11_11
  | 12, _ => be_11_12
  | 13, _ => be_11_13
  | 14, _ => be_11_14
  | 15, _ => be_11_15
  | 16, _ => be_11_16
  | 17, _ => be_11_17
  | 18, _ => be_11_18
  | 19, _ => be_11_19
  | 20, _ => be_11_20
  | 21, _ => be_11_21
  | 22, _ => be_11_22
  | 23, _ => be_11_23
  | 24, _ => be_11_24
  | 25, _ => be_11_25
  | 26, _ => be_11_26
  | 27, _ => be_11_27
  | 28, _ => be_11_28
  | 29, _ => be_11_29
  | 30, _ => be_11_30
  | 31, _ => be_11_31
  | 32, _ => be_11_32
  | 33, _ => be_11_33
  | 34, _ => be_11_34
  | 35, _ => be_11_35
  | 36, _ => be_11_36
  | 37, _ => be_11_37
  | 38, _ => be_11_38
  | 39, _ => be_11_39
  | J + 40, h => absurd h (by omega)
theorem be_a12 : ∀ J : Nat, J < 40 → beOk (RL.getD 12 0) ((BT.getD 12 []).getD J 0)
  | 0, _ => be_12_0
  | 1, _ => be_12_1
  | 2, _ => be_12_2
  | 3, _ => be_12_3
  | 4, _ => be_12_4
  | 5, _ => be_12_5
  | 6, _ => be_12_6
  | 7, _ => be_12_7
  | 8, _ => be_12_8
  | 9, _ => be_12_9
  | 10, _ => be_12_10
  | 11, _ => be_12_11
  | 12, _ => be_12_12
  | 13, _ => be_12_13
  | 14, _ => be_12_14
  | 15, _ => be_12_15
  | 16, _ => be_12_16
  | 17, _ => be_12_17
  | 18, _ => be_12_18
  | 19, _ => be_12_19
  | 20, _ => be_12_20
  | 21, _ => be_12_21
  | 22, _ => be_12_22
  | 23, _ => be_12_23
  | 24, _ => be_12_24
  | 25, _ => be_12_25
  | 26, _ => be_12_26
  | 27, _ => be_12_27
  | 28, _ => be_12_28
  | 29, _ => be_12_29
  | 30, _ => be_12_30
  | 31, _ => be_12_31
  | 32, _ => be_12_32
  | 33, _ => be_12_33
  | 34, _ => be_12_34
  | 35, _ => be_12_35
  | 36, _ => be_12_36
  | 37, _ => be_12_37
  | 38, _ => be_12_38
  | 39, _ => be_12_39
  | J + 40, h => absurd h (by omega)
theorem be_a13 : ∀ J : Nat, J < 40 → beOk (RL.getD 13 0) ((BT.getD 13 []).getD J 0)
  | 0, _ => be_13_0
  | 1, _ => be_13_1
  | 2, _ => be_13_2
  | 3, _ => be_13_3
  | 4, _ => be_13_4
  | 5, _ => be_13_5
  | 6, _ => be_13_6
  | 7, _ => be_13_7
  | 8, _ => be_13_8
  | 9, _ => be_13_9
  | 10, _ => be_13_10
  | 11, _ => be_13_11
  | 12, _ => be_13_12
  | 13, _ => be_13_13
  | 14, _ => be_13_14
  | 15, _ => be_13_15
  | 16, _ => be_13_16
  | 17, _ => be_13_17
  | 18, _ => be_13_18
  | 19, _ => be_13_19
  | 20, _ => be_13_20
  | 21, _ => be_13_21
  | 22, _ => be_13_22
  | 23, _ => be_13_23
  | 24, _ => be_13_24
  | 25, _ => be_13_25
  | 26, _ => be_13_26
  | 27, _ => be_13_27
  | 28, _ => be_13_28
  | 29, _ => be_13_29
  | 30, _ => be_13_30
  | 31, _ => be_13_31
  | 32, _ => be_13_32
  | 33, _ => be_13_33
  | 34, _ => be_13_34
  | 35, _ => be_13_35
  | 36, _ => be_13_36
  | 37, _ => be_13_37
  | 38, _ => be_13_38
  | 39, _ => be_13_39
  | J + 40, h => absurd h (by omega)
theorem be_a14 : ∀ J : Nat, J < 40 → beOk (RL.getD 14 0) ((BT.getD 14 []).getD J 0)
  | 0, _ => be_14_0
  | 1, _ => be_14_1
  | 2, _ => be_14_2
  | 3, _ => be_14_3
  | 4, _ => be_14_4
  | 5, _ => be_14_5
  | 6, _ => be_14_6
  | 7, _ => be_14_7
  | 8, _ => be_14_8
  | 9, _ => be_14_9
  | 10, _ => be_14_10
  | 11, _ => be_14_11
  | 12, _ => be_14_12
  | 13, _ => be_14_13
  | 14, _ => be_14_14
  | 15, _ => be_14_15
  | 16, _ => be_14_16
  | 17, _ => be_14_17
  | 18, _ => be_14_18
  | 19, _ => be_14_19
  | 20, _ => be_14_20
  | 21, _ => be_14_21
  | 22, _ => be_14_22
  | 23, _ => be_14_23
  | 24, _ => be_14_24
  | 25, _ => be_14_25
  | 26, _ => be_14_26
  | 27, _ => be_14_27
  | 28, _ => be_14_28
  | 29, _ => be_14_29
  | 30, _ => be_14_30
  | 31, _ => be_14_31
  | 32, _ => be_14_32
  | 33, _ => be_14_33
  | 34, _ => be_14_34
  | 35, _ => be_14_35
  | 36, _ => be_14_36
  | 37, _ => be_14_37
  | 38, _ => be_14_38
  | 39, _ => be_14_39
  | J + 40, h => absurd h (by omega)
theorem be_a15 : ∀ J : Nat, J < 40 → beOk (RL.getD 15 0) ((BT.getD 15 []).getD J 0)
  | 0, _ => be_15_0
  | 1, _ => be_15_1
  | 2, _ => be_15_2
  | 3, _ => be_15_3
  | 4, _ => be_15_4
  | 5, _ => be_15_5
  | 6, _ => be_15_6
  | 7, _ => be_15_7
  | 8, _ => be_15_8
  | 9, _ => be_15_9
  | 10, _ => be_15_10
  | 11, _ => be_15_11
  | 12, _ => be_15_12
  | 13, _ => be_15_13
  | 14, _ => be_15_14
  | 15, _ => be_15_15
  | 16, _ => be_15_16
  | 17, _ => be_15_17
  | 18, _ => be_15_18
  | 19, _ => be_15_19
  | 20, _ => be_15_20
  | 21, _ => be_15_21
  | 22, _ => be_15_22
  | 23, _ => be_15_23
  | 24, _ => be_15_24
  | 25, _ => be_15_25
  | 26, _ => be_15_26
  | 27, _ => be_15_27
  | 28, _ => be_15_28
  | 29, _ => be_15_29
  | 30, _ => be_15_30
  | 31, _ => be_15_31
  | 32, _ => be_15_32
  | 33, _ => be_15_33
  | 34, _ => be_15_34
  | 35, _ => be_15_35
  | 36, _ => be_15_36
  | 37, _ => be_15_37
  | 38, _ => be_15_38
  | 39, _ => be_15_39
  | J + 40, h => absurd h (by omega)
theorem be_at : ∀ A J : Nat, A < 16 → J < 40 → beOk (RL.getD A 0) ((BT.getD A []).getD J 0)
  | 0, J, _, h => be_a0 J h
  | 1, J, _, h => be_a1 J h
  | 2, J, _, h => be_a2 J h
  | 3, J, _, h => be_a3 J h
  | 4, J, _, h => be_a4 J h
  | 5, J, _, h => be_a5 J h
  | 6, J, _, h => be_a6 J h
  | 7, J, _, h => be_a7 J h
  | 8, J, _, h => be_a8 J h
  | 9, J, _, h => be_a9 J h
  | 10, J, _, h => be_a10 J h
  | 11, J, _, h => be_a11 J h
  | 12, J, _, h => be_a12 J h
  | 13, J, _, h => be_a13 J h
  | 14, J, _, h => be_a14 J h
  | 15, J, _, h => be_a15 J h
  | A + 16, _, h, _ => absurd h (by omega)
theorem Tbx : WL.all (fun w => (List.range 8).all (tbx w)) = true := List.all_eq_true.mpr fun w hw => by
  simp only [WL, List.mem_cons, List.not_mem_nil, or_false] at hw
  rcases hw with rfl | rfl | rfl | rfl | rfl | rfl | rfl | rfl | rfl | rfl | rfl | rfl | rfl | rfl | rfl | rfl
  · exact Tbx_0
  · exact Tbx_1
  · exact Tbx_2
  · exact Tbx_3
  · exact Tbx_4
  · exact Tbx_5
  · exact Tbx_6
  · exact Tbx_7
  · exact Tbx_8
  · exact Tbx_9
  · exact Tbx_10
  · exact Tbx_11
  · exact Tbx_12
  · exact Tbx_13
  · exact Tbx_14
  · exact Tbx_15
theorem Tsw : RL.all (fun w => (List.range 8).all (tsw w)) = true := List.all_eq_true.mpr fun w hw => by
  simp only [RL, List.mem_cons, List.not_mem_nil, or_false] at hw
  rcases hw with rfl | rfl | rfl | rfl | rfl | rfl | rfl | rfl | rfl | rfl | rfl | rfl | rfl | rfl | rfl | rfl
  · exact Tsw_0
  · exact Tsw_1
  · exact Tsw_2
  · exact Tsw_3
  · exact Tsw_4
  · exact Tsw_5
  · exact Tsw_6
  · exact Tsw_7
  · exact Tsw_8
  · exact Tsw_9
  · exact Tsw_10
  · exact Tsw_11
  · exact Tsw_12
  · exact Tsw_13
  · exact Tsw_14
  · exact Tsw_15
theorem Twc : WL.all (fun w => (List.range 32).all (fun d => twc w (d : Int))) = true := List.all_eq_true.mpr fun w hw => by
  simp only [WL, List.mem_cons, List.not_mem_nil, or_false] at hw
  rcases hw with rfl | rfl | rfl | rfl | rfl | rfl | rfl | rfl | rfl | rfl | rfl | rfl | rfl | rfl | rfl | rfl
  · exact Twc_0
  · exact Twc_1
  · exact Twc_2
  · exact Twc_3
  · exact Twc_4
  · exact Twc_5
  · exact Twc_6
  · exact Twc_7
  · exact Twc_8
  · exact Twc_9
  · exact Twc_10
  · exact Twc_11
  · exact Twc_12
  · exact Twc_13
  · exact Twc_14
  · exact Twc_15
theorem Tgr : WL.all (fun w => (List.range 8).all (fun n => tgr w (v_bx w ((n + 1 : Nat) : Int)).2)) = true := List.all_eq_true.mpr fun w hw => by
  simp only [WL, List.mem_cons, List.not_mem_nil, or_false] at hw
  rcases hw with rfl | rfl | rfl | rfl | rfl | rfl | rfl | rfl | rfl | rfl | rfl | rfl | rfl | rfl | rfl | rfl
  · exact Tgr_0
  · exact Tgr_1
  · exact Tgr_2
  · exact Tgr_3
  · exact Tgr_4
  · exact Tgr_5
  · exact Tgr_6
  · exact Tgr_7
  · exact Tgr_8
  · exact Tgr_9
  · exact Tgr_10
  · exact Tgr_11
  · exact Tgr_12
  · exact Tgr_13
  · exact Tgr_14
  · exact Tgr_15
theorem get_getD {α : Type} {l : List α} {d : α} {i : Nat} (h : i < l.length) : l[i]? = some (l.getD i d) := by
  simp [List.getD_eq_getElem?_getD, h]
theorem wF_mem {A : Nat} (h : A < 16) : wF (A : Int) ∈ WL := List.contains_iff_mem.mp (List.all_eq_true.mp TW A (List.mem_range.mpr h))
theorem rF_eq {A : Nat} (h : A < 16) : rF (A : Int) = RL.getD A 0 := by simpa using List.all_eq_true.mp TR A (List.mem_range.mpr h)
theorem bd_eq {A J : Nat} (h : A < 16) (hJ : J < 40) : bdF (RL.getD A 0) (J : Int) = (BT.getD A []).getD J 0 := by simpa using List.all_eq_true.mp (List.all_eq_true.mp TB A (List.mem_range.mpr h)) J (List.mem_range.mpr hJ)
theorem rF_mem : ∀ {A : Nat}, A < 16 → RL.getD A 0 ∈ RL := by
  intro A h
  rw [List.getD_eq_getElem?_getD, List.getElem?_eq_getElem (show A < RL.length from h), Option.getD_some]
  exact List.getElem_mem _
theorem be_ok {A J : Nat} (h : A < 16) (hJ : J < 40) : beOk (rF (A : Int)) (bdF (rF (A : Int)) (J : Int)) := by
  rw [rF_eq h, bd_eq h hJ]
  exact be_at A J h hJ
theorem bx_at {w n : Nat} (hw : w ∈ WL) (hn : n < 8) : tbx w n = true := List.all_eq_true.mp (List.all_eq_true.mp Tbx w hw) n (List.mem_range.mpr hn)
theorem sw_at {A n : Nat} (hA : A < 16) (hn : n < 8) : tsw (rF (A : Int)) n = true := by
  rw [rF_eq hA]
  exact List.all_eq_true.mp (List.all_eq_true.mp Tsw _ (rF_mem hA)) n (List.mem_range.mpr hn)
theorem wc_at {w d : Nat} (hw : w ∈ WL) (hd : d < 32) : twc w (d : Int) = true := List.all_eq_true.mp (List.all_eq_true.mp Twc w hw) d (List.mem_range.mpr hd)
theorem gr_at {w n : Nat} (hw : w ∈ WL) (hn : n < 8) : tgr w (v_bx w ((n + 1 : Nat) : Int)).2 = true := List.all_eq_true.mp (List.all_eq_true.mp Tgr w hw) n (List.mem_range.mpr hn)
theorem clA {A n B J : Nat} (hA : A < 16) (hn : n < 8) (hB : B < 16) (hJ : J < 40) (hh : H) (k : Nat → Nat → Nat → List Nat → List Nat → Option (V × H)) :
    rA (A : Int) (n : Int) (B : Int) (J : Int) hh k = k (wF (A : Int)) (n + 1) (v_be (rF (B : Int)) (bdF (rF (B : Int)) (J : Int))).1 (v_bx (wF (A : Int)) ((n + 1 : Nat) : Int)).2 (v_be (rF (B : Int)) (bdF (rF (B : Int)) (J : Int))).2 := by
  have h1 := bx_at (wF_mem hA) hn
  have h2 := sw_at hB hn
  have h3 := be_ok hB hJ
  unfold rA
  rw [nF_nat (show n < 900 by omega)]
  generalize bdF (rF (B : Int)) (J : Int) = b at *
  generalize rF (B : Int) = r at *
  generalize wF (A : Int) = w at *
  unfold tbx at h1
  unfold tsw at h2
  obtain ⟨a1, h1⟩ := Bool.and_eq_true_iff.mp h1
  obtain ⟨a2, h1⟩ := Bool.and_eq_true_iff.mp h1
  obtain ⟨a3, a4⟩ := Bool.and_eq_true_iff.mp h1
  obtain ⟨b1, h2⟩ := Bool.and_eq_true_iff.mp h2
  obtain ⟨b2, h2⟩ := Bool.and_eq_true_iff.mp h2
  obtain ⟨b3, b4⟩ := Bool.and_eq_true_iff.mp h2
  obtain ⟨c1, c2, c3⟩ := h3
  have a2 : (v_bx w ((n + 1 : Nat) : Int)).1 = n + 1 := by simpa using a2
  have a3 : (v_bx w ((n + 1 : Nat) : Int)).2.length = n + 1 := by simpa using a3
  have b2 : (v_sw r ((n + 1 : Nat) : Int)).1 = n + 1 := by simpa using b2
  have b3 : (v_sw r ((n + 1 : Nat) : Int)).2.length = n + 1 := by simpa using b3
  have c2 := of_decide_eq_true c2
  rw [show ((d_bx w ((n + 1 : Nat) : Int)).isSome) = true from by
    exact a1]
  rw [show ((d_sw r ((n + 1 : Nat) : Int)).isSome) = true from by
    exact b1]
  rw [show ((d_be r b).isSome) = true from by
    exact c1]
  rw [show ((((v_bx w ((n + 1 : Nat) : Int)).1 : Nat) : Int) != ((n + 1 : Nat) : Int)) = false from by
    rw [a2]; simp]
  rw [show ((((v_sw r ((n + 1 : Nat) : Int)).1 : Nat) : Int) != ((n + 1 : Nat) : Int)) = false from by
    rw [b2]; simp]
  rw [show (decide (((((v_be r b).1 : Nat) : Int) : Int) < 1)) = false from by
    exact decide_eq_false (by omega)]
  rw [a2, b2]
  refine lp13 w r _ _ _ _ _ k (n + 1) (by omega) fun i hi => ⟨_, _, _, get_getD (d := 0) (by omega), get_getD (d := 0) (by omega), get_getD (d := 0) (by omega), List.all_eq_true.mp a4 i (List.mem_range.mpr hi), List.all_eq_true.mp b4 i (List.mem_range.mpr hi)⟩
theorem clC {w n d : Nat} (hw : w ∈ WL) (hn : n < 8) (hd : d < 32) (hh : H) : rC (d : Int) w (n + 1) (v_bx w ((n + 1 : Nat) : Int)).2 hh = some (.bool true, hh) := by
  have h1 := bx_at hw hn
  have hwc := wc_at hw hd
  have hgr := gr_at hw hn
  unfold rC
  unfold tbx at h1
  obtain ⟨_, h1⟩ := Bool.and_eq_true_iff.mp h1
  obtain ⟨_, h1⟩ := Bool.and_eq_true_iff.mp h1
  obtain ⟨a3, _⟩ := Bool.and_eq_true_iff.mp h1
  have a3 : (v_bx w ((n + 1 : Nat) : Int)).2.length = n + 1 := by simpa using a3
  generalize (v_bx w ((n + 1 : Nat) : Int)).2 = lb at *
  generalize ((d : Nat) : Int) = y at *
  unfold twc at hwc
  unfold tgr at hgr
  obtain ⟨p0, hwc⟩ := Bool.and_eq_true_iff.mp hwc
  obtain ⟨p1, hwc⟩ := Bool.and_eq_true_iff.mp hwc
  obtain ⟨p2, hwc⟩ := Bool.and_eq_true_iff.mp hwc
  obtain ⟨p3, hwc⟩ := Bool.and_eq_true_iff.mp hwc
  obtain ⟨p4, hwc⟩ := Bool.and_eq_true_iff.mp hwc
  obtain ⟨p5, hwc⟩ := Bool.and_eq_true_iff.mp hwc
  obtain ⟨p6, hwc⟩ := Bool.and_eq_true_iff.mp hwc
  have p7 := hwc
  obtain ⟨q0, hgr⟩ := Bool.and_eq_true_iff.mp hgr
  obtain ⟨q1, hgr⟩ := Bool.and_eq_true_iff.mp hgr
  obtain ⟨q2, hgr⟩ := Bool.and_eq_true_iff.mp hgr
  obtain ⟨q3, hgr⟩ := Bool.and_eq_true_iff.mp hgr
  obtain ⟨q4, hgr⟩ := Bool.and_eq_true_iff.mp hgr
  obtain ⟨q5, hgr⟩ := Bool.and_eq_true_iff.mp hgr
  obtain ⟨q6, hgr⟩ := Bool.and_eq_true_iff.mp hgr
  obtain ⟨q7, hgr⟩ := Bool.and_eq_true_iff.mp hgr
  have q8 := hgr
  rw [show ((d_wc w (rF y)).isSome) = true from p0]
  rw [show ((d_wc w (fop .mul .f32 (rF y) 1082130432)).isSome) = true from p1]
  rw [show fconv .f32 w .f64 = some (up w) from fconv_eq _]
  dsimp only
  rw [show fconv .f32 (rootF (rF y)) .f64 = some (up (rootF (rF y))) from fconv_eq _]
  dsimp only
  rw [show (!((v_wc w (rF y)).2)) = false from nt p2]
  rw [show (!((v_wc w (fop .mul .f32 (rF y) 1082130432)).2)) = false from nt p3]
  rw [show (decide (((v_wc w (rF y)).1 : Int) < 1)) = false from nt p4]
  rw [show (decide (((v_wc w (fop .mul .f32 (rF y) 1082130432)).1 : Int) < ((v_wc w (rF y)).1))) = false from nt p5]
  rw [show (ltD (floatOfInt .f64 ((v_wc w (rF y)).1)) (fop .sub .f64 (fop .quo .f64 (fop .mul .f64 (up w) (up (rootF (rF y)))) 4614256656656552343) 4562254508917369340)) = false from nt p6]
  rw [show (gtD (floatOfInt .f64 (IntKind.i64.wrap (((v_wc w (rF y)).1) - 1))) (fop .add .f64 (fop .quo .f64 (fop .mul .f64 (up w) (up (rootF (rF y)))) 4614256656656552343) 4562254508917369340)) = false from nt p7]
  rw [show ((d_gr 1 0 w 40 true [0]).isSome) = true from q0]
  rw [show ((d_lo ((v_gr 1 0 w 40 true [0]).1) ((v_gr 1 0 w 40 true [0]).2.1) 0 40 true ((v_gr 1 0 w 40 true [0]).2.2)).isSome) = true from q1]
  rw [show ((d_so ((v_gr 1 0 w 40 true [0]).1) ((v_gr 1 0 w 40 true [0]).2.1) ((v_lo ((v_gr 1 0 w 40 true [0]).1) ((v_gr 1 0 w 40 true [0]).2.1) 0 40 true ((v_gr 1 0 w 40 true [0]).2.2)).1) 3 ((v_gr 1 0 w 40 true [0]).2.2)).isSome) = true from q2]
  rw [show ((d_mp ((v_so ((v_gr 1 0 w 40 true [0]).1) ((v_gr 1 0 w 40 true [0]).2.1) ((v_lo ((v_gr 1 0 w 40 true [0]).1) ((v_gr 1 0 w 40 true [0]).2.1) 0 40 true ((v_gr 1 0 w 40 true [0]).2.2)).1) 3 ((v_gr 1 0 w 40 true [0]).2.2)).1) 0 w true ((v_so ((v_gr 1 0 w 40 true [0]).1) ((v_gr 1 0 w 40 true [0]).2.1) ((v_lo ((v_gr 1 0 w 40 true [0]).1) ((v_gr 1 0 w 40 true [0]).2.1) 0 40 true ((v_gr 1 0 w 40 true [0]).2.2)).1) 3 ((v_gr 1 0 w 40 true [0]).2.2)).2)).isSome) = true from q3]
  rw [show ((v_lo ((v_gr 1 0 w 40 true [0]).1) ((v_gr 1 0 w 40 true [0]).2.1) 0 40 true ((v_gr 1 0 w 40 true [0]).2.2)).2) = true from q4]
  rw [show ((v_mp ((v_so ((v_gr 1 0 w 40 true [0]).1) ((v_gr 1 0 w 40 true [0]).2.1) ((v_lo ((v_gr 1 0 w 40 true [0]).1) ((v_gr 1 0 w 40 true [0]).2.1) 0 40 true ((v_gr 1 0 w 40 true [0]).2.2)).1) 3 ((v_gr 1 0 w 40 true [0]).2.2)).1) 0 w true ((v_so ((v_gr 1 0 w 40 true [0]).1) ((v_gr 1 0 w 40 true [0]).2.1) ((v_lo ((v_gr 1 0 w 40 true [0]).1) ((v_gr 1 0 w 40 true [0]).2.1) 0 40 true ((v_gr 1 0 w 40 true [0]).2.2)).1) 3 ((v_gr 1 0 w 40 true [0]).2.2)).2)).2) = true from q5]
  rw [show ((((v_gr 1 0 w 40 true [0]).1 : Nat) : Int) == 40) = true from q6]
  rw [show (decide (0 ≤ (0 : Int) ∧ (0 : Int) < (((n + 1) : Nat) : Int))) = true from decide_eq_true (by omega)]
  rw [show lb[0]? = some (lb.getD 0 0) from get_getD (by omega)]
  dsimp only
  rw [show fconv .f32 (lb.getD 0 0) .f64 = some (up (lb.getD 0 0)) from fconv_eq _]
  dsimp only
  rw [show (ltD (r8G ((v_lo ((v_gr 1 0 w 40 true [0]).1) ((v_gr 1 0 w 40 true [0]).2.1) 0 40 true ((v_gr 1 0 w 40 true [0]).2.2)).1) (lb.getD 0 0)) (fop .mul .f64 4581421828931458171 (up (lb.getD 0 0)))) = true from q7]
  rw [show (ltD (r8G ((v_mp ((v_so ((v_gr 1 0 w 40 true [0]).1) ((v_gr 1 0 w 40 true [0]).2.1) ((v_lo ((v_gr 1 0 w 40 true [0]).1) ((v_gr 1 0 w 40 true [0]).2.1) 0 40 true ((v_gr 1 0 w 40 true [0]).2.2)).1) 3 ((v_gr 1 0 w 40 true [0]).2.2)).1) 0 w true ((v_so ((v_gr 1 0 w 40 true [0]).1) ((v_gr 1 0 w 40 true [0]).2.1) ((v_lo ((v_gr 1 0 w 40 true [0]).1) ((v_gr 1 0 w 40 true [0]).2.1) 0 40 true ((v_gr 1 0 w 40 true [0]).2.2)).1) 3 ((v_gr 1 0 w 40 true [0]).2.2)).2)).1) (fop .quo .f32 w 1073741824)) (fop .mul .f64 4581421828931458171 (up w))) = true from q8]
end Go.Proofs.Ytlopdogjdfeikaa.Ab
