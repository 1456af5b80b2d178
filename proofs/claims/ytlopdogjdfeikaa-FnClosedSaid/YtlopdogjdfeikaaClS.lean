/- States. Only lemmas. Printed by gen_closed.py. -/
import Derived.Test.YtlopdogjdfeikaaAny
import Derived.Test.YtlopdogjdfeikaaClA
import Derived.Test.YtlopdogjdfeikaaClB
namespace Go.Proofs.Ytlopdogjdfeikaa.Ab
set_option linter.unusedVariables false
set_option linter.unusedSimpArgs false
open Go
def an_so : Ann := ⟨fun r => if r = 6 then some ([0, 1, 2, 3, 10, 11, 44, 45], [0, 1, 2, 3, 10, 11]) else if r = 11 then some ([0, 1, 2, 10, 11, 52, 53], [11]) else if r = 14 then some ([0, 1, 2, 10, 11, 13, 14, 52, 53, 59, 60, 61], [0, 1, 2, 10, 11, 13, 14, 52, 53]) else if r = 25 then some ([0, 1, 2, 10, 11, 13, 14, 18, 19, 20, 52, 53], [0, 1, 2, 10, 11, 19, 52, 53]) else if r = 30 then some ([0, 1, 2, 10, 11, 19, 52, 53, 136, 137, 138], [0, 1, 2, 10, 11, 19, 52, 53]) else if r = 36 then some ([0, 1, 2, 10, 11, 23, 52, 53, 151, 152], [0, 1, 2, 10, 11, 52, 53]) else none, fun _ _ => .quiet⟩
noncomputable def tab_so : Fns := tabT [(26, g_ar), (24, gT (gF1 finB)), (17, gT gIn), (31, gClone), (32, gT gNz), (18, gLsT), (11, gT gRoot)]
theorem tabok_so : ∀ f, FnT Try.prog f (tab_so f) := (tabT_cons (k := 26) ok_ar (tabT_cons (k := 24) ok_IsFinite (tabT_cons (k := 17) ok_within (tabT_cons (k := 31) ok_cl (tabT_cons (k := 32) ok_nz (tabT_cons (k := 18) ok_checkedNumbers (tabT_cons (k := 11) ok_RootNumber tabT_nil)))))))
noncomputable def opsso_12 : Array Oper := (regAt (codeOf Try.f14) 12).getD #[]
def gso_12 (st : St) : Option (Bool × St) := (match st.t with | .sl 0 0 z1 :: .fl .f32 z2 :: .fl .f32 z3 :: t1_ => (match takeAny 7 t1_ with | some (.int .i64 z4 :: .sl 1 0 z6 :: t2_) => (match takeAny 40 t2_ with | some (.int .i64 z7 :: .int .i64 z8 :: .bool z9 :: t3_) => (match takeAny 113 t3_ with | some ([]) => (match st.h with | [.at true (.fl .f32 z10), .at true (.fl .f32 z11)] => some ((decide (0 ≤ (z4 : Int) ∧ (z4 : Int) ≤ z4 ∧ (z4 : Int) ≤ 9223372036854775807 ∧ (z4 : Int).toNat * 4 ≤ 140737488355328 ∧ 0 < 1 ∧ 1 = 1)) && (decide (z11.length = z6 ∧ z6 < 2147483648)), ⟨(.sl 0 0 z1 :: .fl .f32 z2 :: .fl .f32 z3 :: (anys 7 (.int .i64 z4 :: .sl 1 0 z6 :: .any :: .sl 2 0 ((z4 : Int).toNat) :: .sl 3 0 z6 :: (anys 37 (.int .i64 z7 :: .int .i64 z8 :: .bool z9 :: (anys 113 [])))))), [.at true (.fl .f32 z10), .at true (.fl .f32 z11), .at true (.fl .f32 (List.replicate ((z4 : Int).toNat) 0)), .at true (.fl .f32 z11)]⟩) | _ => none) | _ => none) | _ => none) | _ => none) | _ => none)
theorem anso_12_1 (z1 : Nat) (z2 : Nat) (z3 : Nat) (z4 : Int) (z6 : Nat) (z7 : Int) (z8 : Int) (z9 : Bool) (z10 : List Nat) (z11 : List Nat) (hc0 : (decide (0 ≤ (z4 : Int) ∧ (z4 : Int) ≤ z4 ∧ (z4 : Int) ≤ 9223372036854775807 ∧ (z4 : Int).toNat * 4 ≤ 140737488355328 ∧ 0 < 1 ∧ 1 = 1)) = true) (hc1 : (decide (z11.length = z6 ∧ z6 < 2147483648)) = true) : AnyRun Try.prog opsso_12 (FinTo [0, 1, 2, 10, 11, 13, 14, 52, 53, 54] 2 (⟨(.sl 0 0 z1 :: .fl .f32 z2 :: .fl .f32 z3 :: (anys 7 (.int .i64 z4 :: .sl 1 0 z6 :: .any :: .sl 2 0 ((z4 : Int).toNat) :: .sl 3 0 z6 :: (anys 37 (.int .i64 z7 :: .int .i64 z8 :: .bool z9 :: (anys 113 [])))))), [.at true (.fl .f32 z10), .at true (.fl .f32 z11), .at true (.fl .f32 (List.replicate ((z4 : Int).toNat) 0)), .at true (.fl .f32 z11)]⟩ : St)) 0 #[true, true, true, true, true, true] (.sl 0 0 z1 :: .fl .f32 z2 :: .fl .f32 z3 :: (anys 7 (.int .i64 z4 :: .sl 1 0 z6 :: .any :: .sl 2 0 ((z4 : Int).toNat) :: .sl 3 0 z6 :: (anys 37 (.int .i64 z7 :: .int .i64 z8 :: .bool z9 :: .int .i64 z4 :: .sl 2 0 ((z4 : Int).toNat) :: .sl 1 0 z6 :: .sl 3 0 z6 :: (anys 109 [])))))) [.at true (.fl .f32 z10), .at true (.fl .f32 z11), .at true (.fl .f32 (List.replicate ((z4 : Int).toNat) 0)), .at true (.fl .f32 z11)] := ⟨by kernel_rfl, [0, 1, 2, 3], by decide, by decide, by kernel_rfl, by kernel_rfl⟩
theorem anso_12_2 (z1 : Nat) (z2 : Nat) (z3 : Nat) (z4 : Int) (z6 : Nat) (z7 : Int) (z8 : Int) (z9 : Bool) (z10 : List Nat) (z11 : List Nat) (hc0 : (decide (0 ≤ (z4 : Int) ∧ (z4 : Int) ≤ z4 ∧ (z4 : Int) ≤ 9223372036854775807 ∧ (z4 : Int).toNat * 4 ≤ 140737488355328 ∧ 0 < 1 ∧ 1 = 1)) = true) (hc1 : (decide (z11.length = z6 ∧ z6 < 2147483648)) = true) : AnyRun Try.prog opsso_12 (FinTo [0, 1, 2, 10, 11, 13, 14, 52, 53, 54] 2 (⟨(.sl 0 0 z1 :: .fl .f32 z2 :: .fl .f32 z3 :: (anys 7 (.int .i64 z4 :: .sl 1 0 z6 :: .any :: .sl 2 0 ((z4 : Int).toNat) :: .sl 3 0 z6 :: (anys 37 (.int .i64 z7 :: .int .i64 z8 :: .bool z9 :: (anys 113 [])))))), [.at true (.fl .f32 z10), .at true (.fl .f32 z11), .at true (.fl .f32 (List.replicate ((z4 : Int).toNat) 0)), .at true (.fl .f32 z11)]⟩ : St)) 1 #[true, true, true, true, true, false] (.sl 0 0 z1 :: .fl .f32 z2 :: .fl .f32 z3 :: (anys 7 (.int .i64 z4 :: .sl 1 0 z6 :: .any :: .sl 2 0 ((z4 : Int).toNat) :: (anys 38 (.int .i64 z7 :: .int .i64 z8 :: .bool z9 :: .int .i64 z4 :: .sl 2 0 ((z4 : Int).toNat) :: .sl 1 0 z6 :: .sl 3 0 z6 :: (anys 109 [])))))) [.at true (.fl .f32 z10), .at true (.fl .f32 z11), .at true (.fl .f32 (List.replicate ((z4 : Int).toNat) 0)), .at true (.fl .f32 z11)] := by
  refine any_next [5] (by kernel_rfl) (by decide) fun i hi => ?_
  obtain rfl : i = 5 := by simpa using hi
  · exact any_one (v := .sl 3 0 z6) (t1 := (.sl 0 0 z1 :: .fl .f32 z2 :: .fl .f32 z3 :: (anys 7 (.int .i64 z4 :: .sl 1 0 z6 :: .any :: .sl 2 0 ((z4 : Int).toNat) :: .sl 3 0 z6 :: (anys 37 (.int .i64 z7 :: .int .i64 z8 :: .bool z9 :: .int .i64 z4 :: .sl 2 0 ((z4 : Int).toNat) :: .sl 1 0 z6 :: .sl 3 0 z6 :: (anys 109 []))))))) (h1 := [.at true (.fl .f32 z10), .at true (.fl .f32 z11), .at true (.fl .f32 (List.replicate ((z4 : Int).toNat) 0)), .at true (.fl .f32 z11)]) (l1 := #[true, true, true, true, true, true]) (op := .assign (.tmp 58)) (d := some 14) tabok_so (by kernel_rfl) (by kernel_rfl) (by kernel_rfl) (by kernel_rfl) (anso_12_1 z1 z2 z3 z4 z6 z7 z8 z9 z10 z11 hc0 hc1)
theorem anso_12_3 (z1 : Nat) (z2 : Nat) (z3 : Nat) (z4 : Int) (z6 : Nat) (z7 : Int) (z8 : Int) (z9 : Bool) (z10 : List Nat) (z11 : List Nat) (hc0 : (decide (0 ≤ (z4 : Int) ∧ (z4 : Int) ≤ z4 ∧ (z4 : Int) ≤ 9223372036854775807 ∧ (z4 : Int).toNat * 4 ≤ 140737488355328 ∧ 0 < 1 ∧ 1 = 1)) = true) (hc1 : (decide (z11.length = z6 ∧ z6 < 2147483648)) = true) : AnyRun Try.prog opsso_12 (FinTo [0, 1, 2, 10, 11, 13, 14, 52, 53, 54] 2 (⟨(.sl 0 0 z1 :: .fl .f32 z2 :: .fl .f32 z3 :: (anys 7 (.int .i64 z4 :: .sl 1 0 z6 :: .any :: .sl 2 0 ((z4 : Int).toNat) :: .sl 3 0 z6 :: (anys 37 (.int .i64 z7 :: .int .i64 z8 :: .bool z9 :: (anys 113 [])))))), [.at true (.fl .f32 z10), .at true (.fl .f32 z11), .at true (.fl .f32 (List.replicate ((z4 : Int).toNat) 0)), .at true (.fl .f32 z11)]⟩ : St)) 2 #[true, true, true, true, false, false] (.sl 0 0 z1 :: .fl .f32 z2 :: .fl .f32 z3 :: (anys 7 (.int .i64 z4 :: .sl 1 0 z6 :: (anys 40 (.int .i64 z7 :: .int .i64 z8 :: .bool z9 :: .int .i64 z4 :: .sl 2 0 ((z4 : Int).toNat) :: .sl 1 0 z6 :: .sl 3 0 z6 :: (anys 109 [])))))) [.at true (.fl .f32 z10), .at true (.fl .f32 z11), .at true (.fl .f32 (List.replicate ((z4 : Int).toNat) 0)), .at true (.fl .f32 z11)] := by
  refine any_next [4] (by kernel_rfl) (by decide) fun i hi => ?_
  obtain rfl : i = 4 := by simpa using hi
  · exact any_one (v := .sl 2 0 ((z4 : Int).toNat)) (t1 := (.sl 0 0 z1 :: .fl .f32 z2 :: .fl .f32 z3 :: (anys 7 (.int .i64 z4 :: .sl 1 0 z6 :: .any :: .sl 2 0 ((z4 : Int).toNat) :: (anys 38 (.int .i64 z7 :: .int .i64 z8 :: .bool z9 :: .int .i64 z4 :: .sl 2 0 ((z4 : Int).toNat) :: .sl 1 0 z6 :: .sl 3 0 z6 :: (anys 109 []))))))) (h1 := [.at true (.fl .f32 z10), .at true (.fl .f32 z11), .at true (.fl .f32 (List.replicate ((z4 : Int).toNat) 0)), .at true (.fl .f32 z11)]) (l1 := #[true, true, true, true, true, false]) (op := .assign (.tmp 56)) (d := some 13) tabok_so (by kernel_rfl) (by kernel_rfl) (by kernel_rfl) (by kernel_rfl) (anso_12_2 z1 z2 z3 z4 z6 z7 z8 z9 z10 z11 hc0 hc1)
theorem anso_12_4 (z1 : Nat) (z2 : Nat) (z3 : Nat) (z4 : Int) (z6 : Nat) (z7 : Int) (z8 : Int) (z9 : Bool) (z10 : List Nat) (z11 : List Nat) (hc0 : (decide (0 ≤ (z4 : Int) ∧ (z4 : Int) ≤ z4 ∧ (z4 : Int) ≤ 9223372036854775807 ∧ (z4 : Int).toNat * 4 ≤ 140737488355328 ∧ 0 < 1 ∧ 1 = 1)) = true) (hc1 : (decide (z11.length = z6 ∧ z6 < 2147483648)) = true) : AnyRun Try.prog opsso_12 (FinTo [0, 1, 2, 10, 11, 13, 14, 52, 53, 54] 2 (⟨(.sl 0 0 z1 :: .fl .f32 z2 :: .fl .f32 z3 :: (anys 7 (.int .i64 z4 :: .sl 1 0 z6 :: .any :: .sl 2 0 ((z4 : Int).toNat) :: .sl 3 0 z6 :: (anys 37 (.int .i64 z7 :: .int .i64 z8 :: .bool z9 :: (anys 113 [])))))), [.at true (.fl .f32 z10), .at true (.fl .f32 z11), .at true (.fl .f32 (List.replicate ((z4 : Int).toNat) 0)), .at true (.fl .f32 z11)]⟩ : St)) 3 #[true, true, true, false, false, false] (.sl 0 0 z1 :: .fl .f32 z2 :: .fl .f32 z3 :: (anys 7 (.int .i64 z4 :: .sl 1 0 z6 :: (anys 40 (.int .i64 z7 :: .int .i64 z8 :: .bool z9 :: .int .i64 z4 :: .sl 2 0 ((z4 : Int).toNat) :: .sl 1 0 z6 :: (anys 110 [])))))) [.at true (.fl .f32 z10), .at true (.fl .f32 z11), .at true (.fl .f32 (List.replicate ((z4 : Int).toNat) 0))] := by
  refine any_next [3] (by kernel_rfl) (by decide) fun i hi => ?_
  obtain rfl : i = 3 := by simpa using hi
  · exact any_one (v := .sl 3 0 z6) (t1 := (.sl 0 0 z1 :: .fl .f32 z2 :: .fl .f32 z3 :: (anys 7 (.int .i64 z4 :: .sl 1 0 z6 :: (anys 40 (.int .i64 z7 :: .int .i64 z8 :: .bool z9 :: .int .i64 z4 :: .sl 2 0 ((z4 : Int).toNat) :: .sl 1 0 z6 :: .sl 3 0 z6 :: (anys 109 []))))))) (h1 := [.at true (.fl .f32 z10), .at true (.fl .f32 z11), .at true (.fl .f32 (List.replicate ((z4 : Int).toNat) 0)), .at true (.fl .f32 z11)]) (l1 := #[true, true, true, true, false, false]) (op := .call ⟨.value (.func 31), #[.tmp 57], #[26]⟩) (d := some 58) tabok_so (by kernel_rfl) (by
      refine Eq.trans (b := (match decide (z11.length = z6 ∧ z6 < 2147483648) with | true => some ((.sl 3 0 z6), [.at true (.fl .f32 z10), .at true (.fl .f32 z11), .at true (.fl .f32 (List.replicate ((z4 : Int).toNat) 0)), .at true (.fl .f32 z11)]) | false => none)) (by kernel_rfl) ?_
      rw [hc1]) (by kernel_rfl) (by kernel_rfl) (anso_12_3 z1 z2 z3 z4 z6 z7 z8 z9 z10 z11 hc0 hc1)
theorem anso_12_5 (z1 : Nat) (z2 : Nat) (z3 : Nat) (z4 : Int) (z6 : Nat) (z7 : Int) (z8 : Int) (z9 : Bool) (z10 : List Nat) (z11 : List Nat) (hc0 : (decide (0 ≤ (z4 : Int) ∧ (z4 : Int) ≤ z4 ∧ (z4 : Int) ≤ 9223372036854775807 ∧ (z4 : Int).toNat * 4 ≤ 140737488355328 ∧ 0 < 1 ∧ 1 = 1)) = true) (hc1 : (decide (z11.length = z6 ∧ z6 < 2147483648)) = true) : AnyRun Try.prog opsso_12 (FinTo [0, 1, 2, 10, 11, 13, 14, 52, 53, 54] 2 (⟨(.sl 0 0 z1 :: .fl .f32 z2 :: .fl .f32 z3 :: (anys 7 (.int .i64 z4 :: .sl 1 0 z6 :: .any :: .sl 2 0 ((z4 : Int).toNat) :: .sl 3 0 z6 :: (anys 37 (.int .i64 z7 :: .int .i64 z8 :: .bool z9 :: (anys 113 [])))))), [.at true (.fl .f32 z10), .at true (.fl .f32 z11), .at true (.fl .f32 (List.replicate ((z4 : Int).toNat) 0)), .at true (.fl .f32 z11)]⟩ : St)) 4 #[true, true, false, false, false, false] (.sl 0 0 z1 :: .fl .f32 z2 :: .fl .f32 z3 :: (anys 7 (.int .i64 z4 :: .sl 1 0 z6 :: (anys 40 (.int .i64 z7 :: .int .i64 z8 :: .bool z9 :: .int .i64 z4 :: .sl 2 0 ((z4 : Int).toNat) :: (anys 111 [])))))) [.at true (.fl .f32 z10), .at true (.fl .f32 z11), .at true (.fl .f32 (List.replicate ((z4 : Int).toNat) 0))] := by
  refine any_next [2] (by kernel_rfl) (by decide) fun i hi => ?_
  obtain rfl : i = 2 := by simpa using hi
  · exact any_one (v := .sl 1 0 z6) (t1 := (.sl 0 0 z1 :: .fl .f32 z2 :: .fl .f32 z3 :: (anys 7 (.int .i64 z4 :: .sl 1 0 z6 :: (anys 40 (.int .i64 z7 :: .int .i64 z8 :: .bool z9 :: .int .i64 z4 :: .sl 2 0 ((z4 : Int).toNat) :: .sl 1 0 z6 :: (anys 110 []))))))) (h1 := [.at true (.fl .f32 z10), .at true (.fl .f32 z11), .at true (.fl .f32 (List.replicate ((z4 : Int).toNat) 0))]) (l1 := #[true, true, true, false, false, false]) (op := .move (.tmp 11)) (d := some 57) tabok_so (by kernel_rfl) (by kernel_rfl) (by kernel_rfl) (by kernel_rfl) (anso_12_4 z1 z2 z3 z4 z6 z7 z8 z9 z10 z11 hc0 hc1)
theorem anso_12_6 (z1 : Nat) (z2 : Nat) (z3 : Nat) (z4 : Int) (z6 : Nat) (z7 : Int) (z8 : Int) (z9 : Bool) (z10 : List Nat) (z11 : List Nat) (hc0 : (decide (0 ≤ (z4 : Int) ∧ (z4 : Int) ≤ z4 ∧ (z4 : Int) ≤ 9223372036854775807 ∧ (z4 : Int).toNat * 4 ≤ 140737488355328 ∧ 0 < 1 ∧ 1 = 1)) = true) (hc1 : (decide (z11.length = z6 ∧ z6 < 2147483648)) = true) : AnyRun Try.prog opsso_12 (FinTo [0, 1, 2, 10, 11, 13, 14, 52, 53, 54] 2 (⟨(.sl 0 0 z1 :: .fl .f32 z2 :: .fl .f32 z3 :: (anys 7 (.int .i64 z4 :: .sl 1 0 z6 :: .any :: .sl 2 0 ((z4 : Int).toNat) :: .sl 3 0 z6 :: (anys 37 (.int .i64 z7 :: .int .i64 z8 :: .bool z9 :: (anys 113 [])))))), [.at true (.fl .f32 z10), .at true (.fl .f32 z11), .at true (.fl .f32 (List.replicate ((z4 : Int).toNat) 0)), .at true (.fl .f32 z11)]⟩ : St)) 0 #[true, true, true, true, true, true] (.sl 0 0 z1 :: .fl .f32 z2 :: .fl .f32 z3 :: (anys 7 (.int .i64 z4 :: .sl 1 0 z6 :: .any :: .sl 3 0 ((z4 : Int).toNat) :: .sl 2 0 z6 :: (anys 37 (.int .i64 z7 :: .int .i64 z8 :: .bool z9 :: .int .i64 z4 :: .sl 3 0 ((z4 : Int).toNat) :: .sl 1 0 z6 :: .sl 2 0 z6 :: (anys 109 [])))))) [.at true (.fl .f32 z10), .at true (.fl .f32 z11), .at true (.fl .f32 z11), .at true (.fl .f32 (List.replicate ((z4 : Int).toNat) 0))] := ⟨by kernel_rfl, [0, 1, 3, 2], by decide, by decide, by kernel_rfl, by kernel_rfl⟩
theorem anso_12_7 (z1 : Nat) (z2 : Nat) (z3 : Nat) (z4 : Int) (z6 : Nat) (z7 : Int) (z8 : Int) (z9 : Bool) (z10 : List Nat) (z11 : List Nat) (hc0 : (decide (0 ≤ (z4 : Int) ∧ (z4 : Int) ≤ z4 ∧ (z4 : Int) ≤ 9223372036854775807 ∧ (z4 : Int).toNat * 4 ≤ 140737488355328 ∧ 0 < 1 ∧ 1 = 1)) = true) (hc1 : (decide (z11.length = z6 ∧ z6 < 2147483648)) = true) : AnyRun Try.prog opsso_12 (FinTo [0, 1, 2, 10, 11, 13, 14, 52, 53, 54] 2 (⟨(.sl 0 0 z1 :: .fl .f32 z2 :: .fl .f32 z3 :: (anys 7 (.int .i64 z4 :: .sl 1 0 z6 :: .any :: .sl 2 0 ((z4 : Int).toNat) :: .sl 3 0 z6 :: (anys 37 (.int .i64 z7 :: .int .i64 z8 :: .bool z9 :: (anys 113 [])))))), [.at true (.fl .f32 z10), .at true (.fl .f32 z11), .at true (.fl .f32 (List.replicate ((z4 : Int).toNat) 0)), .at true (.fl .f32 z11)]⟩ : St)) 1 #[true, true, true, true, true, false] (.sl 0 0 z1 :: .fl .f32 z2 :: .fl .f32 z3 :: (anys 7 (.int .i64 z4 :: .sl 1 0 z6 :: .any :: .sl 3 0 ((z4 : Int).toNat) :: (anys 38 (.int .i64 z7 :: .int .i64 z8 :: .bool z9 :: .int .i64 z4 :: .sl 3 0 ((z4 : Int).toNat) :: .sl 1 0 z6 :: .sl 2 0 z6 :: (anys 109 [])))))) [.at true (.fl .f32 z10), .at true (.fl .f32 z11), .at true (.fl .f32 z11), .at true (.fl .f32 (List.replicate ((z4 : Int).toNat) 0))] := by
  refine any_next [5] (by kernel_rfl) (by decide) fun i hi => ?_
  obtain rfl : i = 5 := by simpa using hi
  · exact any_one (v := .sl 2 0 z6) (t1 := (.sl 0 0 z1 :: .fl .f32 z2 :: .fl .f32 z3 :: (anys 7 (.int .i64 z4 :: .sl 1 0 z6 :: .any :: .sl 3 0 ((z4 : Int).toNat) :: .sl 2 0 z6 :: (anys 37 (.int .i64 z7 :: .int .i64 z8 :: .bool z9 :: .int .i64 z4 :: .sl 3 0 ((z4 : Int).toNat) :: .sl 1 0 z6 :: .sl 2 0 z6 :: (anys 109 []))))))) (h1 := [.at true (.fl .f32 z10), .at true (.fl .f32 z11), .at true (.fl .f32 z11), .at true (.fl .f32 (List.replicate ((z4 : Int).toNat) 0))]) (l1 := #[true, true, true, true, true, true]) (op := .assign (.tmp 58)) (d := some 14) tabok_so (by kernel_rfl) (by kernel_rfl) (by kernel_rfl) (by kernel_rfl) (anso_12_6 z1 z2 z3 z4 z6 z7 z8 z9 z10 z11 hc0 hc1)
theorem anso_12_8 (z1 : Nat) (z2 : Nat) (z3 : Nat) (z4 : Int) (z6 : Nat) (z7 : Int) (z8 : Int) (z9 : Bool) (z10 : List Nat) (z11 : List Nat) (hc0 : (decide (0 ≤ (z4 : Int) ∧ (z4 : Int) ≤ z4 ∧ (z4 : Int) ≤ 9223372036854775807 ∧ (z4 : Int).toNat * 4 ≤ 140737488355328 ∧ 0 < 1 ∧ 1 = 1)) = true) (hc1 : (decide (z11.length = z6 ∧ z6 < 2147483648)) = true) : AnyRun Try.prog opsso_12 (FinTo [0, 1, 2, 10, 11, 13, 14, 52, 53, 54] 2 (⟨(.sl 0 0 z1 :: .fl .f32 z2 :: .fl .f32 z3 :: (anys 7 (.int .i64 z4 :: .sl 1 0 z6 :: .any :: .sl 2 0 ((z4 : Int).toNat) :: .sl 3 0 z6 :: (anys 37 (.int .i64 z7 :: .int .i64 z8 :: .bool z9 :: (anys 113 [])))))), [.at true (.fl .f32 z10), .at true (.fl .f32 z11), .at true (.fl .f32 (List.replicate ((z4 : Int).toNat) 0)), .at true (.fl .f32 z11)]⟩ : St)) 2 #[true, true, true, true, false, false] (.sl 0 0 z1 :: .fl .f32 z2 :: .fl .f32 z3 :: (anys 7 (.int .i64 z4 :: .sl 1 0 z6 :: (anys 40 (.int .i64 z7 :: .int .i64 z8 :: .bool z9 :: .int .i64 z4 :: .sl 3 0 ((z4 : Int).toNat) :: .sl 1 0 z6 :: .sl 2 0 z6 :: (anys 109 [])))))) [.at true (.fl .f32 z10), .at true (.fl .f32 z11), .at true (.fl .f32 z11), .at true (.fl .f32 (List.replicate ((z4 : Int).toNat) 0))] := by
  refine any_next [4] (by kernel_rfl) (by decide) fun i hi => ?_
  obtain rfl : i = 4 := by simpa using hi
  · exact any_one (v := .sl 3 0 ((z4 : Int).toNat)) (t1 := (.sl 0 0 z1 :: .fl .f32 z2 :: .fl .f32 z3 :: (anys 7 (.int .i64 z4 :: .sl 1 0 z6 :: .any :: .sl 3 0 ((z4 : Int).toNat) :: (anys 38 (.int .i64 z7 :: .int .i64 z8 :: .bool z9 :: .int .i64 z4 :: .sl 3 0 ((z4 : Int).toNat) :: .sl 1 0 z6 :: .sl 2 0 z6 :: (anys 109 []))))))) (h1 := [.at true (.fl .f32 z10), .at true (.fl .f32 z11), .at true (.fl .f32 z11), .at true (.fl .f32 (List.replicate ((z4 : Int).toNat) 0))]) (l1 := #[true, true, true, true, true, false]) (op := .assign (.tmp 56)) (d := some 13) tabok_so (by kernel_rfl) (by kernel_rfl) (by kernel_rfl) (by kernel_rfl) (anso_12_7 z1 z2 z3 z4 z6 z7 z8 z9 z10 z11 hc0 hc1)
theorem anso_12_9 (z1 : Nat) (z2 : Nat) (z3 : Nat) (z4 : Int) (z6 : Nat) (z7 : Int) (z8 : Int) (z9 : Bool) (z10 : List Nat) (z11 : List Nat) (hc0 : (decide (0 ≤ (z4 : Int) ∧ (z4 : Int) ≤ z4 ∧ (z4 : Int) ≤ 9223372036854775807 ∧ (z4 : Int).toNat * 4 ≤ 140737488355328 ∧ 0 < 1 ∧ 1 = 1)) = true) (hc1 : (decide (z11.length = z6 ∧ z6 < 2147483648)) = true) : AnyRun Try.prog opsso_12 (FinTo [0, 1, 2, 10, 11, 13, 14, 52, 53, 54] 2 (⟨(.sl 0 0 z1 :: .fl .f32 z2 :: .fl .f32 z3 :: (anys 7 (.int .i64 z4 :: .sl 1 0 z6 :: .any :: .sl 2 0 ((z4 : Int).toNat) :: .sl 3 0 z6 :: (anys 37 (.int .i64 z7 :: .int .i64 z8 :: .bool z9 :: (anys 113 [])))))), [.at true (.fl .f32 z10), .at true (.fl .f32 z11), .at true (.fl .f32 (List.replicate ((z4 : Int).toNat) 0)), .at true (.fl .f32 z11)]⟩ : St)) 3 #[true, false, true, true, false, false] (.sl 0 0 z1 :: .fl .f32 z2 :: .fl .f32 z3 :: (anys 7 (.int .i64 z4 :: .sl 1 0 z6 :: (anys 40 (.int .i64 z7 :: .int .i64 z8 :: .bool z9 :: .int .i64 z4 :: .any :: .sl 1 0 z6 :: .sl 2 0 z6 :: (anys 109 [])))))) [.at true (.fl .f32 z10), .at true (.fl .f32 z11), .at true (.fl .f32 z11)] := by
  refine any_next [1] (by kernel_rfl) (by decide) fun i hi => ?_
  obtain rfl : i = 1 := by simpa using hi
  · exact any_one (v := .sl 3 0 ((z4 : Int).toNat)) (t1 := (.sl 0 0 z1 :: .fl .f32 z2 :: .fl .f32 z3 :: (anys 7 (.int .i64 z4 :: .sl 1 0 z6 :: (anys 40 (.int .i64 z7 :: .int .i64 z8 :: .bool z9 :: .int .i64 z4 :: .sl 3 0 ((z4 : Int).toNat) :: .sl 1 0 z6 :: .sl 2 0 z6 :: (anys 109 []))))))) (h1 := [.at true (.fl .f32 z10), .at true (.fl .f32 z11), .at true (.fl .f32 z11), .at true (.fl .f32 (List.replicate ((z4 : Int).toNat) 0))]) (l1 := #[true, true, true, true, false, false]) (op := .makeSlice 26 (.tmp 55) (.tmp 55)) (d := some 56) tabok_so (by kernel_rfl) (by
      refine Eq.trans (b := (match decide (0 ≤ (z4 : Int) ∧ (z4 : Int) ≤ z4 ∧ (z4 : Int) ≤ 9223372036854775807 ∧ (z4 : Int).toNat * 4 ≤ 140737488355328 ∧ 0 < 1 ∧ 1 = 1) with | true => some ((.sl 3 0 ((z4 : Int).toNat)), [.at true (.fl .f32 z10), .at true (.fl .f32 z11), .at true (.fl .f32 z11), .at true (.fl .f32 (List.replicate ((z4 : Int).toNat) 0))]) | false => none)) (by kernel_rfl) ?_
      rw [hc0]) (by kernel_rfl) (by kernel_rfl) (anso_12_8 z1 z2 z3 z4 z6 z7 z8 z9 z10 z11 hc0 hc1)
theorem anso_12_10 (z1 : Nat) (z2 : Nat) (z3 : Nat) (z4 : Int) (z6 : Nat) (z7 : Int) (z8 : Int) (z9 : Bool) (z10 : List Nat) (z11 : List Nat) (hc0 : (decide (0 ≤ (z4 : Int) ∧ (z4 : Int) ≤ z4 ∧ (z4 : Int) ≤ 9223372036854775807 ∧ (z4 : Int).toNat * 4 ≤ 140737488355328 ∧ 0 < 1 ∧ 1 = 1)) = true) (hc1 : (decide (z11.length = z6 ∧ z6 < 2147483648)) = true) : AnyRun Try.prog opsso_12 (FinTo [0, 1, 2, 10, 11, 13, 14, 52, 53, 54] 2 (⟨(.sl 0 0 z1 :: .fl .f32 z2 :: .fl .f32 z3 :: (anys 7 (.int .i64 z4 :: .sl 1 0 z6 :: .any :: .sl 2 0 ((z4 : Int).toNat) :: .sl 3 0 z6 :: (anys 37 (.int .i64 z7 :: .int .i64 z8 :: .bool z9 :: (anys 113 [])))))), [.at true (.fl .f32 z10), .at true (.fl .f32 z11), .at true (.fl .f32 (List.replicate ((z4 : Int).toNat) 0)), .at true (.fl .f32 z11)]⟩ : St)) 4 #[true, false, true, false, false, false] (.sl 0 0 z1 :: .fl .f32 z2 :: .fl .f32 z3 :: (anys 7 (.int .i64 z4 :: .sl 1 0 z6 :: (anys 40 (.int .i64 z7 :: .int .i64 z8 :: .bool z9 :: .int .i64 z4 :: .any :: .sl 1 0 z6 :: (anys 110 [])))))) [.at true (.fl .f32 z10), .at true (.fl .f32 z11)] := by
  refine any_next [1, 3] (by kernel_rfl) (by decide) fun i hi => ?_
  have hi : i = 1 ∨ i = 3 := by simpa using hi
  rcases hi with rfl | rfl
  · exact any_one (v := .sl 2 0 ((z4 : Int).toNat)) (t1 := (.sl 0 0 z1 :: .fl .f32 z2 :: .fl .f32 z3 :: (anys 7 (.int .i64 z4 :: .sl 1 0 z6 :: (anys 40 (.int .i64 z7 :: .int .i64 z8 :: .bool z9 :: .int .i64 z4 :: .sl 2 0 ((z4 : Int).toNat) :: .sl 1 0 z6 :: (anys 110 []))))))) (h1 := [.at true (.fl .f32 z10), .at true (.fl .f32 z11), .at true (.fl .f32 (List.replicate ((z4 : Int).toNat) 0))]) (l1 := #[true, true, true, false, false, false]) (op := .makeSlice 26 (.tmp 55) (.tmp 55)) (d := some 56) tabok_so (by kernel_rfl) (by
      refine Eq.trans (b := (match decide (0 ≤ (z4 : Int) ∧ (z4 : Int) ≤ z4 ∧ (z4 : Int) ≤ 9223372036854775807 ∧ (z4 : Int).toNat * 4 ≤ 140737488355328 ∧ 0 < 1 ∧ 1 = 1) with | true => some ((.sl 2 0 ((z4 : Int).toNat)), [.at true (.fl .f32 z10), .at true (.fl .f32 z11), .at true (.fl .f32 (List.replicate ((z4 : Int).toNat) 0))]) | false => none)) (by kernel_rfl) ?_
      rw [hc0]) (by kernel_rfl) (by kernel_rfl) (anso_12_4 z1 z2 z3 z4 z6 z7 z8 z9 z10 z11 hc0 hc1)
  · exact any_one (v := .sl 2 0 z6) (t1 := (.sl 0 0 z1 :: .fl .f32 z2 :: .fl .f32 z3 :: (anys 7 (.int .i64 z4 :: .sl 1 0 z6 :: (anys 40 (.int .i64 z7 :: .int .i64 z8 :: .bool z9 :: .int .i64 z4 :: .any :: .sl 1 0 z6 :: .sl 2 0 z6 :: (anys 109 []))))))) (h1 := [.at true (.fl .f32 z10), .at true (.fl .f32 z11), .at true (.fl .f32 z11)]) (l1 := #[true, false, true, true, false, false]) (op := .call ⟨.value (.func 31), #[.tmp 57], #[26]⟩) (d := some 58) tabok_so (by kernel_rfl) (by
      refine Eq.trans (b := (match decide (z11.length = z6 ∧ z6 < 2147483648) with | true => some ((.sl 2 0 z6), [.at true (.fl .f32 z10), .at true (.fl .f32 z11), .at true (.fl .f32 z11)]) | false => none)) (by kernel_rfl) ?_
      rw [hc1]) (by kernel_rfl) (by kernel_rfl) (anso_12_9 z1 z2 z3 z4 z6 z7 z8 z9 z10 z11 hc0 hc1)
theorem anso_12_11 (z1 : Nat) (z2 : Nat) (z3 : Nat) (z4 : Int) (z6 : Nat) (z7 : Int) (z8 : Int) (z9 : Bool) (z10 : List Nat) (z11 : List Nat) (hc0 : (decide (0 ≤ (z4 : Int) ∧ (z4 : Int) ≤ z4 ∧ (z4 : Int) ≤ 9223372036854775807 ∧ (z4 : Int).toNat * 4 ≤ 140737488355328 ∧ 0 < 1 ∧ 1 = 1)) = true) (hc1 : (decide (z11.length = z6 ∧ z6 < 2147483648)) = true) : AnyRun Try.prog opsso_12 (FinTo [0, 1, 2, 10, 11, 13, 14, 52, 53, 54] 2 (⟨(.sl 0 0 z1 :: .fl .f32 z2 :: .fl .f32 z3 :: (anys 7 (.int .i64 z4 :: .sl 1 0 z6 :: .any :: .sl 2 0 ((z4 : Int).toNat) :: .sl 3 0 z6 :: (anys 37 (.int .i64 z7 :: .int .i64 z8 :: .bool z9 :: (anys 113 [])))))), [.at true (.fl .f32 z10), .at true (.fl .f32 z11), .at true (.fl .f32 (List.replicate ((z4 : Int).toNat) 0)), .at true (.fl .f32 z11)]⟩ : St)) 5 #[true, false, false, false, false, false] (.sl 0 0 z1 :: .fl .f32 z2 :: .fl .f32 z3 :: (anys 7 (.int .i64 z4 :: .sl 1 0 z6 :: (anys 40 (.int .i64 z7 :: .int .i64 z8 :: .bool z9 :: .int .i64 z4 :: (anys 112 [])))))) [.at true (.fl .f32 z10), .at true (.fl .f32 z11)] := by
  refine any_next [1, 2] (by kernel_rfl) (by decide) fun i hi => ?_
  have hi : i = 1 ∨ i = 2 := by simpa using hi
  rcases hi with rfl | rfl
  · exact any_one (v := .sl 2 0 ((z4 : Int).toNat)) (t1 := (.sl 0 0 z1 :: .fl .f32 z2 :: .fl .f32 z3 :: (anys 7 (.int .i64 z4 :: .sl 1 0 z6 :: (anys 40 (.int .i64 z7 :: .int .i64 z8 :: .bool z9 :: .int .i64 z4 :: .sl 2 0 ((z4 : Int).toNat) :: (anys 111 []))))))) (h1 := [.at true (.fl .f32 z10), .at true (.fl .f32 z11), .at true (.fl .f32 (List.replicate ((z4 : Int).toNat) 0))]) (l1 := #[true, true, false, false, false, false]) (op := .makeSlice 26 (.tmp 55) (.tmp 55)) (d := some 56) tabok_so (by kernel_rfl) (by
      refine Eq.trans (b := (match decide (0 ≤ (z4 : Int) ∧ (z4 : Int) ≤ z4 ∧ (z4 : Int) ≤ 9223372036854775807 ∧ (z4 : Int).toNat * 4 ≤ 140737488355328 ∧ 0 < 1 ∧ 1 = 1) with | true => some ((.sl 2 0 ((z4 : Int).toNat)), [.at true (.fl .f32 z10), .at true (.fl .f32 z11), .at true (.fl .f32 (List.replicate ((z4 : Int).toNat) 0))]) | false => none)) (by kernel_rfl) ?_
      rw [hc0]) (by kernel_rfl) (by kernel_rfl) (anso_12_5 z1 z2 z3 z4 z6 z7 z8 z9 z10 z11 hc0 hc1)
  · exact any_one (v := .sl 1 0 z6) (t1 := (.sl 0 0 z1 :: .fl .f32 z2 :: .fl .f32 z3 :: (anys 7 (.int .i64 z4 :: .sl 1 0 z6 :: (anys 40 (.int .i64 z7 :: .int .i64 z8 :: .bool z9 :: .int .i64 z4 :: .any :: .sl 1 0 z6 :: (anys 110 []))))))) (h1 := [.at true (.fl .f32 z10), .at true (.fl .f32 z11)]) (l1 := #[true, false, true, false, false, false]) (op := .move (.tmp 11)) (d := some 57) tabok_so (by kernel_rfl) (by kernel_rfl) (by kernel_rfl) (by kernel_rfl) (anso_12_10 z1 z2 z3 z4 z6 z7 z8 z9 z10 z11 hc0 hc1)
theorem anso_12_12 (z1 : Nat) (z2 : Nat) (z3 : Nat) (z4 : Int) (z6 : Nat) (z7 : Int) (z8 : Int) (z9 : Bool) (z10 : List Nat) (z11 : List Nat) (hc0 : (decide (0 ≤ (z4 : Int) ∧ (z4 : Int) ≤ z4 ∧ (z4 : Int) ≤ 9223372036854775807 ∧ (z4 : Int).toNat * 4 ≤ 140737488355328 ∧ 0 < 1 ∧ 1 = 1)) = true) (hc1 : (decide (z11.length = z6 ∧ z6 < 2147483648)) = true) : AnyRun Try.prog opsso_12 (FinTo [0, 1, 2, 10, 11, 13, 14, 52, 53, 54] 2 (⟨(.sl 0 0 z1 :: .fl .f32 z2 :: .fl .f32 z3 :: (anys 7 (.int .i64 z4 :: .sl 1 0 z6 :: .any :: .sl 2 0 ((z4 : Int).toNat) :: .sl 3 0 z6 :: (anys 37 (.int .i64 z7 :: .int .i64 z8 :: .bool z9 :: (anys 113 [])))))), [.at true (.fl .f32 z10), .at true (.fl .f32 z11), .at true (.fl .f32 (List.replicate ((z4 : Int).toNat) 0)), .at true (.fl .f32 z11)]⟩ : St)) 4 #[false, false, true, true, false, false] (.sl 0 0 z1 :: .fl .f32 z2 :: .fl .f32 z3 :: (anys 7 (.int .i64 z4 :: .sl 1 0 z6 :: (anys 40 (.int .i64 z7 :: .int .i64 z8 :: .bool z9 :: .any :: .any :: .sl 1 0 z6 :: .sl 2 0 z6 :: (anys 109 [])))))) [.at true (.fl .f32 z10), .at true (.fl .f32 z11), .at true (.fl .f32 z11)] := by
  refine any_next [0] (by kernel_rfl) (by decide) fun i hi => ?_
  obtain rfl : i = 0 := by simpa using hi
  · exact any_one (v := .int .i64 z4) (t1 := (.sl 0 0 z1 :: .fl .f32 z2 :: .fl .f32 z3 :: (anys 7 (.int .i64 z4 :: .sl 1 0 z6 :: (anys 40 (.int .i64 z7 :: .int .i64 z8 :: .bool z9 :: .int .i64 z4 :: .any :: .sl 1 0 z6 :: .sl 2 0 z6 :: (anys 109 []))))))) (h1 := [.at true (.fl .f32 z10), .at true (.fl .f32 z11), .at true (.fl .f32 z11)]) (l1 := #[true, false, true, true, false, false]) (op := .move (.tmp 10)) (d := some 55) tabok_so (by kernel_rfl) (by kernel_rfl) (by kernel_rfl) (by kernel_rfl) (anso_12_9 z1 z2 z3 z4 z6 z7 z8 z9 z10 z11 hc0 hc1)
theorem anso_12_13 (z1 : Nat) (z2 : Nat) (z3 : Nat) (z4 : Int) (z6 : Nat) (z7 : Int) (z8 : Int) (z9 : Bool) (z10 : List Nat) (z11 : List Nat) (hc0 : (decide (0 ≤ (z4 : Int) ∧ (z4 : Int) ≤ z4 ∧ (z4 : Int) ≤ 9223372036854775807 ∧ (z4 : Int).toNat * 4 ≤ 140737488355328 ∧ 0 < 1 ∧ 1 = 1)) = true) (hc1 : (decide (z11.length = z6 ∧ z6 < 2147483648)) = true) : AnyRun Try.prog opsso_12 (FinTo [0, 1, 2, 10, 11, 13, 14, 52, 53, 54] 2 (⟨(.sl 0 0 z1 :: .fl .f32 z2 :: .fl .f32 z3 :: (anys 7 (.int .i64 z4 :: .sl 1 0 z6 :: .any :: .sl 2 0 ((z4 : Int).toNat) :: .sl 3 0 z6 :: (anys 37 (.int .i64 z7 :: .int .i64 z8 :: .bool z9 :: (anys 113 [])))))), [.at true (.fl .f32 z10), .at true (.fl .f32 z11), .at true (.fl .f32 (List.replicate ((z4 : Int).toNat) 0)), .at true (.fl .f32 z11)]⟩ : St)) 5 #[false, false, true, false, false, false] (.sl 0 0 z1 :: .fl .f32 z2 :: .fl .f32 z3 :: (anys 7 (.int .i64 z4 :: .sl 1 0 z6 :: (anys 40 (.int .i64 z7 :: .int .i64 z8 :: .bool z9 :: .any :: .any :: .sl 1 0 z6 :: (anys 110 [])))))) [.at true (.fl .f32 z10), .at true (.fl .f32 z11)] := by
  refine any_next [0, 3] (by kernel_rfl) (by decide) fun i hi => ?_
  have hi : i = 0 ∨ i = 3 := by simpa using hi
  rcases hi with rfl | rfl
  · exact any_one (v := .int .i64 z4) (t1 := (.sl 0 0 z1 :: .fl .f32 z2 :: .fl .f32 z3 :: (anys 7 (.int .i64 z4 :: .sl 1 0 z6 :: (anys 40 (.int .i64 z7 :: .int .i64 z8 :: .bool z9 :: .int .i64 z4 :: .any :: .sl 1 0 z6 :: (anys 110 []))))))) (h1 := [.at true (.fl .f32 z10), .at true (.fl .f32 z11)]) (l1 := #[true, false, true, false, false, false]) (op := .move (.tmp 10)) (d := some 55) tabok_so (by kernel_rfl) (by kernel_rfl) (by kernel_rfl) (by kernel_rfl) (anso_12_10 z1 z2 z3 z4 z6 z7 z8 z9 z10 z11 hc0 hc1)
  · exact any_one (v := .sl 2 0 z6) (t1 := (.sl 0 0 z1 :: .fl .f32 z2 :: .fl .f32 z3 :: (anys 7 (.int .i64 z4 :: .sl 1 0 z6 :: (anys 40 (.int .i64 z7 :: .int .i64 z8 :: .bool z9 :: .any :: .any :: .sl 1 0 z6 :: .sl 2 0 z6 :: (anys 109 []))))))) (h1 := [.at true (.fl .f32 z10), .at true (.fl .f32 z11), .at true (.fl .f32 z11)]) (l1 := #[false, false, true, true, false, false]) (op := .call ⟨.value (.func 31), #[.tmp 57], #[26]⟩) (d := some 58) tabok_so (by kernel_rfl) (by
      refine Eq.trans (b := (match decide (z11.length = z6 ∧ z6 < 2147483648) with | true => some ((.sl 2 0 z6), [.at true (.fl .f32 z10), .at true (.fl .f32 z11), .at true (.fl .f32 z11)]) | false => none)) (by kernel_rfl) ?_
      rw [hc1]) (by kernel_rfl) (by kernel_rfl) (anso_12_12 z1 z2 z3 z4 z6 z7 z8 z9 z10 z11 hc0 hc1)
theorem anso_12_14 (z1 : Nat) (z2 : Nat) (z3 : Nat) (z4 : Int) (z6 : Nat) (z7 : Int) (z8 : Int) (z9 : Bool) (z10 : List Nat) (z11 : List Nat) (hc0 : (decide (0 ≤ (z4 : Int) ∧ (z4 : Int) ≤ z4 ∧ (z4 : Int) ≤ 9223372036854775807 ∧ (z4 : Int).toNat * 4 ≤ 140737488355328 ∧ 0 < 1 ∧ 1 = 1)) = true) (hc1 : (decide (z11.length = z6 ∧ z6 < 2147483648)) = true) : AnyRun Try.prog opsso_12 (FinTo [0, 1, 2, 10, 11, 13, 14, 52, 53, 54] 2 (⟨(.sl 0 0 z1 :: .fl .f32 z2 :: .fl .f32 z3 :: (anys 7 (.int .i64 z4 :: .sl 1 0 z6 :: .any :: .sl 2 0 ((z4 : Int).toNat) :: .sl 3 0 z6 :: (anys 37 (.int .i64 z7 :: .int .i64 z8 :: .bool z9 :: (anys 113 [])))))), [.at true (.fl .f32 z10), .at true (.fl .f32 z11), .at true (.fl .f32 (List.replicate ((z4 : Int).toNat) 0)), .at true (.fl .f32 z11)]⟩ : St)) 6 #[false, false, false, false, false, false] (.sl 0 0 z1 :: .fl .f32 z2 :: .fl .f32 z3 :: (anys 7 (.int .i64 z4 :: .sl 1 0 z6 :: (anys 40 (.int .i64 z7 :: .int .i64 z8 :: .bool z9 :: (anys 113 [])))))) [.at true (.fl .f32 z10), .at true (.fl .f32 z11)] := by
  refine any_next [0, 2] (by kernel_rfl) (by decide) fun i hi => ?_
  have hi : i = 0 ∨ i = 2 := by simpa using hi
  rcases hi with rfl | rfl
  · exact any_one (v := .int .i64 z4) (t1 := (.sl 0 0 z1 :: .fl .f32 z2 :: .fl .f32 z3 :: (anys 7 (.int .i64 z4 :: .sl 1 0 z6 :: (anys 40 (.int .i64 z7 :: .int .i64 z8 :: .bool z9 :: .int .i64 z4 :: (anys 112 []))))))) (h1 := [.at true (.fl .f32 z10), .at true (.fl .f32 z11)]) (l1 := #[true, false, false, false, false, false]) (op := .move (.tmp 10)) (d := some 55) tabok_so (by kernel_rfl) (by kernel_rfl) (by kernel_rfl) (by kernel_rfl) (anso_12_11 z1 z2 z3 z4 z6 z7 z8 z9 z10 z11 hc0 hc1)
  · exact any_one (v := .sl 1 0 z6) (t1 := (.sl 0 0 z1 :: .fl .f32 z2 :: .fl .f32 z3 :: (anys 7 (.int .i64 z4 :: .sl 1 0 z6 :: (anys 40 (.int .i64 z7 :: .int .i64 z8 :: .bool z9 :: .any :: .any :: .sl 1 0 z6 :: (anys 110 []))))))) (h1 := [.at true (.fl .f32 z10), .at true (.fl .f32 z11)]) (l1 := #[false, false, true, false, false, false]) (op := .move (.tmp 11)) (d := some 57) tabok_so (by kernel_rfl) (by kernel_rfl) (by kernel_rfl) (by kernel_rfl) (anso_12_13 z1 z2 z3 z4 z6 z7 z8 z9 z10 z11 hc0 hc1)
theorem tolso_12 (z1 : Nat) (z2 : Nat) (z3 : Nat) (z4 : Int) (z6 : Nat) (z7 : Int) (z8 : Int) (z9 : Bool) (z10 : List Nat) (z11 : List Nat) (hc : ((decide (0 ≤ (z4 : Int) ∧ (z4 : Int) ≤ z4 ∧ (z4 : Int) ≤ 9223372036854775807 ∧ (z4 : Int).toNat * 4 ≤ 140737488355328 ∧ 0 < 1 ∧ 1 = 1)) && (decide (z11.length = z6 ∧ z6 < 2147483648))) = true) {st : St} (et : st.t = (.sl 0 0 z1 :: .fl .f32 z2 :: .fl .f32 z3 :: (anys 7 (.int .i64 z4 :: .sl 1 0 z6 :: (anys 40 (.int .i64 z7 :: .int .i64 z8 :: .bool z9 :: (anys 113 []))))))) (eh : st.h = [.at true (.fl .f32 z10), .at true (.fl .f32 z11)]) {μ0 : Mu} {h0 : H} {w0 : World} {Q : Exit → Act → World → Prop} (hQ : ∀ μ a w, InvM μ0 h0 w0 μ (⟨(.sl 0 0 z1 :: .fl .f32 z2 :: .fl .f32 z3 :: (anys 7 (.int .i64 z4 :: .sl 1 0 z6 :: .any :: .sl 2 0 ((z4 : Int).toNat) :: .sl 3 0 z6 :: (anys 37 (.int .i64 z7 :: .int .i64 z8 :: .bool z9 :: (anys 113 [])))))), [.at true (.fl .f32 z10), .at true (.fl .f32 z11), .at true (.fl .f32 (List.replicate ((z4 : Int).toNat) 0)), .at true (.fl .f32 z11)]⟩ : St) a w → Q .normal a w) {μ : Mu} {a : Act} {w : World} (hi : InvM μ0 h0 w0 μ st a w) : (Code.region 12 opsso_12 true).wp Try.prog Q a w := by
  obtain ⟨hc0, hc1⟩ := Bool.and_eq_true_iff.mp hc
  exact told (T0 := (.sl 0 0 z1 :: .fl .f32 z2 :: .fl .f32 z3 :: (anys 7 (.int .i64 z4 :: .sl 1 0 z6 :: (anys 40 (.int .i64 z7 :: .int .i64 z8 :: .bool z9 :: (anys 113 []))))))) (H0 := [.at true (.fl .f32 z10), .at true (.fl .f32 z11)]) [0, 1, 2, 10, 11, 13, 14, 52, 53, 54] mixed (by kernel_rfl : opsso_12.size = 6) et eh rfl (by rw [eh]; rfl) rfl (anso_12_14 z1 z2 z3 z4 z6 z7 z8 z9 z10 z11 hc0 hc1) hQ hi
set_option maxRecDepth 100000 in
theorem sndso_12 : GSoundA Try.prog 12 opsso_12 true gso_12 := by
  intro μ0 h0 w0 st st' hg Q hQ μ a w hi
  unfold gso_12 at hg
  split at hg
  case h_2 => cases hg
  rename_i z1 z2 z3 t1_ e1_
  split at hg
  case h_2 => cases hg
  rename_i z4 z6 t2_ e2_
  split at hg
  case h_2 => cases hg
  rename_i z7 z8 z9 t3_ e3_
  split at hg
  case h_2 => cases hg
  rename_i e4_
  split at hg
  case h_2 => cases hg
  rename_i z10 z11 eh_
  have hg := Option.some.inj hg
  have hc := congrArg Prod.fst hg
  have hg := congrArg Prod.snd hg
  subst hg
  exact tolso_12 z1 z2 z3 z4 z6 z7 z8 z9 z10 z11 hc (by rw [e1_, takeAny_inv e2_, takeAny_inv e3_, takeAny_inv e4_]) eh_ hQ hi
noncomputable def gs_so : GsA := fun i => if i = 12 then some gso_12 else none
theorem regs_so : (regList (codeOf Try.f14)).filter (fun p => (gs_so p.1).isSome) = [(12, opsso_12, true)] := by kernel_rfl
theorem regOk_so : RegOkA Try.prog gs_so (codeOf Try.f14) := by
  refine regOk_list _ fun p hp g hg => ?_
  have h : p ∈ (regList (codeOf Try.f14)).filter (fun p => (gs_so p.1).isSome) := List.mem_filter.2 ⟨hp, by rw [hg]; rfl⟩
  rw [regs_so] at h
  simp only [List.mem_cons, List.not_mem_nil, or_false] at h
  rcases h with rfl
  · cases hg; exact sndso_12
def st_so6 (rows0n : Nat) (beside1 : Nat) (energy2 : Nat) (rounds3 : Int) (n10 : Int) (state11n : Nat) (t44 : Int) (t45 : Int) (l0 : List Nat) (l1 : List Nat) : St := ⟨(.sl 0 0 rows0n :: .fl .f32 beside1 :: .fl .f32 energy2 :: .int .i64 rounds3 :: (anys 6 (.int .i64 n10 :: .sl 1 0 state11n :: (anys 32 (.int .i64 t44 :: .int .i64 t45 :: (anys 122 [])))))), [.at true (.fl .f32 l0), .at true (.fl .f32 l1)]⟩
abbrev kp_so6 : Option (List Nat × List Nat) := some ([0, 1, 2, 3, 10, 11, 44, 45], [0, 1, 2, 3, 10, 11])
noncomputable def lp_so6 {R : Type} (N M : Nat) (s : St) (K : X → St → Option R) : Option R := loopH 1 kp_so6 (fun st K => execA ty tab_so an_so gs_so N 1 (atOf [true, true, true, true, false, true, false, false] Try.f14) st K) M s K
noncomputable def bk_so6 {R : Type} (N M : Nat) (K : X → St → Option R) : X → St → Option R := fun x st => match x with | .norm => tidyK 1 (kp_so6.map (·.1)) st fun st => lp_so6 N M st K | x => tidyK 1 (kp_so6.map (·.2)) st fun st => K x st
noncomputable def kt_so6 {R : Type} (N : Nat) (K : X → St → Option R) : X → St → Option R := kBlkR 0 (kSeqA tab_so an_so gs_so N 1 (atOf [true, true, true, true, true] Try.f14) (K))
def st_so11 (rows0n : Nat) (beside1 : Nat) (energy2 : Nat) (n10 : Int) (state11n : Nat) (t52 : Int) (t53 : Int) (l0 : List Nat) (l1 : List Nat) : St := ⟨(.sl 0 0 rows0n :: .fl .f32 beside1 :: .fl .f32 energy2 :: (anys 7 (.int .i64 n10 :: .sl 1 0 state11n :: (anys 40 (.int .i64 t52 :: .int .i64 t53 :: (anys 114 [])))))), [.at true (.fl .f32 l0), .at true (.fl .f32 l1)]⟩
abbrev kp_so11 : Option (List Nat × List Nat) := some ([0, 1, 2, 10, 11, 52, 53], [11])
noncomputable def lp_so11 {R : Type} (N M : Nat) (s : St) (K : X → St → Option R) : Option R := loopH 1 kp_so11 (fun st K => execA ty tab_so an_so gs_so N 1 (atOf [true, true, true, true, true, false, true, false, false] Try.f14) st K) M s K
noncomputable def bk_so11 {R : Type} (N M : Nat) (K : X → St → Option R) : X → St → Option R := fun x st => match x with | .norm => tidyK 1 (kp_so11.map (·.1)) st fun st => lp_so11 N M st K | x => tidyK 1 (kp_so11.map (·.2)) st fun st => K x st
noncomputable def kt_so11 {R : Type} (N : Nat) (K : X → St → Option R) : X → St → Option R := kBlkR 2 (kSeqA tab_so an_so gs_so N 1 (atOf [true, true, true, true, true, true] Try.f14) (K))
def st_so14 (rows0n : Nat) (beside1 : Nat) (energy2 : Nat) (n10 : Int) (state11n : Nat) (middles13n : Nat) (t52 : Int) (t53 : Int) (t60 : Int) (t61 : Int) (l0 : List Nat) (l1 : List Nat) (l2 : List Nat) (l3 : List Nat) : St := ⟨(.sl 0 0 rows0n :: .fl .f32 beside1 :: .fl .f32 energy2 :: (anys 7 (.int .i64 n10 :: .sl 1 0 state11n :: .any :: .sl 2 0 middles13n :: .sl 3 0 state11n :: (anys 37 (.int .i64 t52 :: .int .i64 t53 :: .any :: .any :: .any :: .any :: .any :: .sl 0 0 rows0n :: .int .i64 t60 :: .int .i64 t61 :: (anys 106 [])))))), [.at true (.fl .f32 l0), .at true (.fl .f32 l1), .at true (.fl .f32 l2), .at true (.fl .f32 l3)]⟩
abbrev kp_so14 : Option (List Nat × List Nat) := some ([0, 1, 2, 10, 11, 13, 14, 52, 53, 59, 60, 61], [0, 1, 2, 10, 11, 13, 14, 52, 53])
noncomputable def lp_so14 {R : Type} (N M : Nat) (s : St) (K : X → St → Option R) : Option R := loopH 1 kp_so14 (fun st K => execA ty tab_so an_so gs_so N 1 (atOf [true, true, true, true, true, false, true, false, false, true, true, false, false, true, false, true, false, false] Try.f14) st K) M s K
noncomputable def bk_so14 {R : Type} (N M : Nat) (K : X → St → Option R) : X → St → Option R := fun x st => match x with | .norm => tidyK 1 (kp_so14.map (·.1)) st fun st => lp_so14 N M st K | x => tidyK 1 (kp_so14.map (·.2)) st fun st => K x st
noncomputable def kt_so14 {R : Type} (N : Nat) (K : X → St → Option R) : X → St → Option R := kBlkR 4 (kSeqA tab_so an_so gs_so N 1 (atOf [true, true, true, true, true, false, true, false, false, true, true, false, false, true, true] Try.f14) (kBlkR 3 (kSeqA tab_so an_so gs_so N 1 (atOf [true, true, true, true, true, false, true, false, false, true, true, true] Try.f14) (K))))
def st_so25 (rows0n : Nat) (beside1 : Nat) (energy2 : Nat) (n10 : Int) (state11n : Nat) (middles13n : Nat) (behind18 : Nat) (i20 : Int) (t52 : Int) (t53 : Int) (l0 : List Nat) (l1 : List Nat) (l2 : List Nat) (l3 : List Nat) : St := ⟨(.sl 0 0 rows0n :: .fl .f32 beside1 :: .fl .f32 energy2 :: (anys 7 (.int .i64 n10 :: .sl 1 0 state11n :: .any :: .sl 2 0 middles13n :: .sl 3 0 state11n :: .any :: .any :: .any :: .fl .f32 behind18 :: .fl .f32 0 :: .int .i64 i20 :: (anys 31 (.int .i64 t52 :: .int .i64 t53 :: (anys 114 [])))))), [.at true (.fl .f32 l0), .at true (.fl .f32 l1), .at true (.fl .f32 l2), .at true (.fl .f32 l3)]⟩
abbrev kp_so25 : Option (List Nat × List Nat) := some ([0, 1, 2, 10, 11, 13, 14, 18, 19, 20, 52, 53], [0, 1, 2, 10, 11, 19, 52, 53])
noncomputable def lp_so25 {R : Type} (N M : Nat) (s : St) (K : X → St → Option R) : Option R := loopH 1 kp_so25 (fun st K => execA ty tab_so an_so gs_so N 1 (atOf [true, true, true, true, true, false, true, false, false, true, true, false, false, true, true, true, false, true, false, false] Try.f14) st K) M s K
noncomputable def bk_so25 {R : Type} (N M : Nat) (K : X → St → Option R) : X → St → Option R := fun x st => match x with | .norm => tidyK 1 (kp_so25.map (·.1)) st fun st => lp_so25 N M st K | x => tidyK 1 (kp_so25.map (·.2)) st fun st => K x st
noncomputable def kt_so25 {R : Type} (N : Nat) (K : X → St → Option R) : X → St → Option R := kBlkR 6 (kSeqA tab_so an_so gs_so N 1 (atOf [true, true, true, true, true, false, true, false, false, true, true, false, false, true, true, true, true] Try.f14) (kBlkR 3 (kSeqA tab_so an_so gs_so N 1 (atOf [true, true, true, true, true, false, true, false, false, true, true, true] Try.f14) (K))))
def st_so30 (rows0n : Nat) (beside1 : Nat) (energy2 : Nat) (n10 : Int) (state11n : Nat) (squares19 : Nat) (t52 : Int) (t53 : Int) (t137 : Int) (t138 : Int) (l0 : List Nat) (l1 : List Nat) : St := ⟨(.sl 0 0 rows0n :: .fl .f32 beside1 :: .fl .f32 energy2 :: (anys 7 (.int .i64 n10 :: .sl 1 0 state11n :: (anys 7 (.fl .f32 squares19 :: (anys 32 (.int .i64 t52 :: .int .i64 t53 :: (anys 82 (.sl 1 0 state11n :: .int .i64 t137 :: .int .i64 t138 :: (anys 29 [])))))))))), [.at true (.fl .f32 l0), .at true (.fl .f32 l1)]⟩
abbrev kp_so30 : Option (List Nat × List Nat) := some ([0, 1, 2, 10, 11, 19, 52, 53, 136, 137, 138], [0, 1, 2, 10, 11, 19, 52, 53])
noncomputable def lp_so30 {R : Type} (N M : Nat) (s : St) (K : X → St → Option R) : Option R := loopH 1 kp_so30 (fun st K => execA ty tab_so an_so gs_so N 1 (atOf [true, true, true, true, true, false, true, false, false, true, true, false, false, true, true, true, true, false, true, false, false] Try.f14) st K) M s K
noncomputable def bk_so30 {R : Type} (N M : Nat) (K : X → St → Option R) : X → St → Option R := fun x st => match x with | .norm => tidyK 1 (kp_so30.map (·.1)) st fun st => lp_so30 N M st K | x => tidyK 1 (kp_so30.map (·.2)) st fun st => K x st
noncomputable def kt_so30 {R : Type} (N : Nat) (K : X → St → Option R) : X → St → Option R := kBlkR 8 (kSeqA tab_so an_so gs_so N 1 (atOf [true, true, true, true, true, false, true, false, false, true, true, false, false, true, true, true, true, true] Try.f14) (kBlkR 3 (kSeqA tab_so an_so gs_so N 1 (atOf [true, true, true, true, true, false, true, false, false, true, true, true] Try.f14) (K))))
def st_so36 (rows0n : Nat) (beside1 : Nat) (energy2 : Nat) (n10 : Int) (state11n : Nat) (root23 : Nat) (t52 : Int) (t53 : Int) (t151 : Int) (t152 : Int) (l0 : List Nat) (l1 : List Nat) : St := ⟨(.sl 0 0 rows0n :: .fl .f32 beside1 :: .fl .f32 energy2 :: (anys 7 (.int .i64 n10 :: .sl 1 0 state11n :: (anys 11 (.fl .f32 root23 :: (anys 28 (.int .i64 t52 :: .int .i64 t53 :: (anys 97 (.int .i64 t151 :: .int .i64 t152 :: (anys 15 [])))))))))), [.at true (.fl .f32 l0), .at true (.fl .f32 l1)]⟩
abbrev kp_so36 : Option (List Nat × List Nat) := some ([0, 1, 2, 10, 11, 23, 52, 53, 151, 152], [0, 1, 2, 10, 11, 52, 53])
noncomputable def lp_so36 {R : Type} (N M : Nat) (s : St) (K : X → St → Option R) : Option R := loopH 1 kp_so36 (fun st K => execA ty tab_so an_so gs_so N 1 (atOf [true, true, true, true, true, false, true, false, false, true, true, false, false, true, true, true, true, true, true, true, false, false] Try.f14) st K) M s K
noncomputable def bk_so36 {R : Type} (N M : Nat) (K : X → St → Option R) : X → St → Option R := fun x st => match x with | .norm => tidyK 1 (kp_so36.map (·.1)) st fun st => lp_so36 N M st K | x => tidyK 1 (kp_so36.map (·.2)) st fun st => K x st
noncomputable def kt_so36 {R : Type} (N : Nat) (K : X → St → Option R) : X → St → Option R := kBlkR 10 (kBlkR 3 (kSeqA tab_so an_so gs_so N 1 (atOf [true, true, true, true, true, false, true, false, false, true, true, true] Try.f14) (K)))
def en_so6_0 (rows0n : Nat) (beside1 : Nat) (energy2 : Nat) (rounds3 : Int) (n10 : Int) (state11n : Nat) (l0 : List Nat) (l1 : List Nat) : St := ⟨(.sl 0 0 rows0n :: .fl .f32 beside1 :: .fl .f32 energy2 :: .int .i64 rounds3 :: (anys 6 (.int .i64 n10 :: .sl 1 0 state11n :: (anys 156 [])))), [.at true (.fl .f32 l0), .at true (.fl .f32 l1)]⟩
def en_so11_0 (state11n : Nat) (l0 : List Nat) (l1 : List Nat) : St := ⟨(anys 11 (.sl 1 0 state11n :: (anys 156 []))), [.at true (.fl .f32 l0), .at true (.fl .f32 l1)]⟩
def en_so14_0 (rows0n : Nat) (beside1 : Nat) (energy2 : Nat) (n10 : Int) (state11n : Nat) (middles13n : Nat) (t52 : Int) (t53 : Int) (l0 : List Nat) (l1 : List Nat) (l2 : List Nat) (l3 : List Nat) : St := ⟨(.sl 0 0 rows0n :: .fl .f32 beside1 :: .fl .f32 energy2 :: (anys 7 (.int .i64 n10 :: .sl 1 0 state11n :: .any :: .sl 2 0 middles13n :: .sl 3 0 state11n :: (anys 37 (.int .i64 t52 :: .int .i64 t53 :: (anys 114 [])))))), [.at true (.fl .f32 l0), .at true (.fl .f32 l1), .at true (.fl .f32 l2), .at true (.fl .f32 l3)]⟩
def en_so25_0 (rows0n : Nat) (beside1 : Nat) (energy2 : Nat) (n10 : Int) (state11n : Nat) (t52 : Int) (t53 : Int) (l0 : List Nat) (l1 : List Nat) : St := ⟨(.sl 0 0 rows0n :: .fl .f32 beside1 :: .fl .f32 energy2 :: (anys 7 (.int .i64 n10 :: .sl 1 0 state11n :: (anys 7 (.fl .f32 0 :: (anys 32 (.int .i64 t52 :: .int .i64 t53 :: (anys 114 [])))))))), [.at true (.fl .f32 l0), .at true (.fl .f32 l1)]⟩
def en_so30_0 (rows0n : Nat) (beside1 : Nat) (energy2 : Nat) (n10 : Int) (state11n : Nat) (squares19 : Nat) (t52 : Int) (t53 : Int) (l0 : List Nat) (l1 : List Nat) : St := ⟨(.sl 0 0 rows0n :: .fl .f32 beside1 :: .fl .f32 energy2 :: (anys 7 (.int .i64 n10 :: .sl 1 0 state11n :: (anys 7 (.fl .f32 squares19 :: (anys 32 (.int .i64 t52 :: .int .i64 t53 :: (anys 114 [])))))))), [.at true (.fl .f32 l0), .at true (.fl .f32 l1)]⟩
def en_so36_0 (rows0n : Nat) (beside1 : Nat) (energy2 : Nat) (n10 : Int) (state11n : Nat) (t52 : Int) (t53 : Int) (l0 : List Nat) (l1 : List Nat) : St := ⟨(.sl 0 0 rows0n :: .fl .f32 beside1 :: .fl .f32 energy2 :: (anys 7 (.int .i64 n10 :: .sl 1 0 state11n :: (anys 40 (.int .i64 t52 :: .int .i64 t53 :: (anys 114 [])))))), [.at true (.fl .f32 l0), .at true (.fl .f32 l1)]⟩
theorem run_so (N : Nat) (n : Nat) (b : Nat) (x : Nat) (q : Int) (l : List Nat) : runA ty tab_so an_so gs_so N Try.f14 [.sl 0 0 n, .fl .f32 b, .fl .f32 x, .int .i64 q] [.at true (.fl .f32 l)]
    = (match (d_ar n b true l).isSome with | true => (match !(v_ar n b true l) with | true => some (.tup [.a (.nil), .a (.bool false)], [.at true (.fl .f32 l)]) | false => (match !(finB x) with | true => some (.tup [.a (.nil), .a (.bool false)], [.at true (.fl .f32 l)]) | false => (match !(inB q 1 8) with | true => some (.tup [.a (.nil), .a (.bool false)], [.at true (.fl .f32 l)]) | false => (match decide (0 ≤ (((n : Nat) : Int) : Int) ∧ (((n : Nat) : Int) : Int) ≤ ((n : Nat) : Int) ∧ (((n : Nat) : Int) : Int) ≤ 9223372036854775807 ∧ (((n : Nat) : Int) : Int).toNat * 4 ≤ 140737488355328 ∧ 0 < 1 ∧ 1 = 1) with | true => lp_so6 N N (st_so6 n b x q ((n : Nat) : Int) ((((n : Nat) : Int) : Int).toNat) (((((n : Nat) : Int) : Int).toNat : Nat) : Int) 0 l (List.replicate ((((n : Nat) : Int) : Int).toNat) 0)) (kt_so6 N (kEndA Try.f14 1)) | false => none)))) | false => none) := by
  kernel_rfl
theorem step_so6 {R : Type} (N M : Nat) (K : X → St → Option R) (rows0n : Nat) (beside1 : Nat) (energy2 : Nat) (rounds3 : Int) (n10 : Int) (state11n : Nat) (t44 : Int) (t45 : Int) (l0 : List Nat) (l1 : List Nat) : lp_so6 N (M + 1) (st_so6 rows0n beside1 energy2 rounds3 n10 state11n t44 t45 l0 l1) K
    = (match decide ((t45 : Int) < t44) with | true => (match decide (0 ≤ (t45 : Int) ∧ (t45 : Int) < ((state11n : Nat) : Int)) with | true => (match decide (0 + (t45).toNat * 1 < l1.length) with | true => lp_so6 N M (st_so6 rows0n beside1 energy2 rounds3 n10 state11n t44 (IntKind.i64.wrap (t45 + 1)) l0 (l1.set (0 + (t45).toNat * 1) 1065353216)) K | false => none) | false => none) | false => K (.exit 0) (en_so6_0 rows0n beside1 energy2 rounds3 n10 state11n l0 l1)) := by
  kernel_rfl
theorem step_so11 {R : Type} (N M : Nat) (K : X → St → Option R) (rows0n : Nat) (beside1 : Nat) (energy2 : Nat) (n10 : Int) (state11n : Nat) (t52 : Int) (t53 : Int) (l0 : List Nat) (l1 : List Nat) : lp_so11 N (M + 1) (st_so11 rows0n beside1 energy2 n10 state11n t52 t53 l0 l1) K
    = (match decide ((t53 : Int) < t52) with | true => (match (decide (0 ≤ (n10 : Int) ∧ (n10 : Int) ≤ n10 ∧ (n10 : Int) ≤ 9223372036854775807 ∧ (n10 : Int).toNat * 4 ≤ 140737488355328 ∧ 0 < 1 ∧ 1 = 1)) && (decide (l1.length = state11n ∧ state11n < 2147483648)) with | true => lp_so14 N N (st_so14 rows0n beside1 energy2 n10 state11n ((n10 : Int).toNat) t52 t53 ((rows0n : Nat) : Int) 0 l0 l1 (List.replicate ((n10 : Int).toNat) 0) l1) (kt_so14 N (bk_so11 N M K)) | false => none) | false => K (.exit 2) (en_so11_0 state11n l0 l1)) := by
  kernel_rfl
theorem step_so14 {R : Type} (N M : Nat) (K : X → St → Option R) (rows0n : Nat) (beside1 : Nat) (energy2 : Nat) (n10 : Int) (state11n : Nat) (middles13n : Nat) (t52 : Int) (t53 : Int) (t60 : Int) (t61 : Int) (l0 : List Nat) (l1 : List Nat) (l2 : List Nat) (l3 : List Nat) : lp_so14 N (M + 1) (st_so14 rows0n beside1 energy2 n10 state11n middles13n t52 t53 t60 t61 l0 l1 l2 l3) K
    = (match decide ((t61 : Int) < t60) with | true => (match decide (0 ≤ (t61 : Int) ∧ (t61 : Int) < ((rows0n : Nat) : Int)) with | true => (match l0[0 + (t61).toNat * 1]? with | some e1 => (match decide (0 ≤ (t61 : Int) ∧ (t61 : Int) < ((middles13n : Nat) : Int)) with | true => (match decide (0 + (t61).toNat * 1 < l2.length) with | true => (match decide ((t61 : Int) > 0) with | true => (match decide (0 ≤ (IntKind.i64.wrap (t61 - 1) : Int) ∧ (IntKind.i64.wrap (t61 - 1) : Int) < ((middles13n : Nat) : Int)) with | true => (match (l2.set (0 + (t61).toNat * 1) (fop .sub .f32 e1 (fop .sub .f32 energy2 981668463)))[0 + (IntKind.i64.wrap (t61 - 1)).toNat * 1]? with | some e2 => (match decide (0 ≤ (t61 : Int) ∧ (t61 : Int) < ((middles13n : Nat) : Int)) with | true => (match (l2.set (0 + (t61).toNat * 1) (fop .sub .f32 e1 (fop .sub .f32 energy2 981668463)))[0 + (t61).toNat * 1]? with | some e3 => (match decide (0 ≤ (t61 : Int) ∧ (t61 : Int) < ((middles13n : Nat) : Int)) with | true => (match decide (0 + (t61).toNat * 1 < (l2.set (0 + (t61).toNat * 1) (fop .sub .f32 e1 (fop .sub .f32 energy2 981668463))).length) with | true => (match decide (0 ≤ (t61 : Int) ∧ (t61 : Int) < ((state11n : Nat) : Int)) with | true => (match l3[0 + (t61).toNat * 1]? with | some e4 => (match decide (0 ≤ (IntKind.i64.wrap (t61 - 1) : Int) ∧ (IntKind.i64.wrap (t61 - 1) : Int) < ((state11n : Nat) : Int)) with | true => (match l3[0 + (IntKind.i64.wrap (t61 - 1)).toNat * 1]? with | some e5 => (match decide (0 ≤ (t61 : Int) ∧ (t61 : Int) < ((state11n : Nat) : Int)) with | true => (match decide (0 + (t61).toNat * 1 < l3.length) with | true => (match decide (0 ≤ (t61 : Int) ∧ (t61 : Int) < ((middles13n : Nat) : Int)) with | true => (match ((l2.set (0 + (t61).toNat * 1) (fop .sub .f32 e1 (fop .sub .f32 energy2 981668463))).set (0 + (t61).toNat * 1) (fop .sub .f32 e3 (fop .mul .f32 (fop .quo .f32 beside1 e2) beside1)))[0 + (t61).toNat * 1]? with | some e6 => (match decide (0 ≤ (t61 : Int) ∧ (t61 : Int) < ((middles13n : Nat) : Int)) with | true => (match decide (0 + (t61).toNat * 1 < ((l2.set (0 + (t61).toNat * 1) (fop .sub .f32 e1 (fop .sub .f32 energy2 981668463))).set (0 + (t61).toNat * 1) (fop .sub .f32 e3 (fop .mul .f32 (fop .quo .f32 beside1 e2) beside1))).length) with | true => lp_so14 N M (st_so14 rows0n beside1 energy2 n10 state11n middles13n t52 t53 t60 (IntKind.i64.wrap (t61 + 1)) l0 l1 (((l2.set (0 + (t61).toNat * 1) (fop .sub .f32 e1 (fop .sub .f32 energy2 981668463))).set (0 + (t61).toNat * 1) (fop .sub .f32 e3 (fop .mul .f32 (fop .quo .f32 beside1 e2) beside1))).set (0 + (t61).toNat * 1) (nzF e6)) (l3.set (0 + (t61).toNat * 1) (fop .sub .f32 e4 (fop .mul .f32 (fop .quo .f32 beside1 e2) e5)))) K | false => none) | false => none) | none => none) | false => none) | false => none) | false => none) | none => none) | false => none) | none => none) | false => none) | false => none) | false => none) | none => none) | false => none) | none => none) | false => none) | false => (match decide (0 ≤ (t61 : Int) ∧ (t61 : Int) < ((middles13n : Nat) : Int)) with | true => (match (l2.set (0 + (t61).toNat * 1) (fop .sub .f32 e1 (fop .sub .f32 energy2 981668463)))[0 + (t61).toNat * 1]? with | some e7 => (match decide (0 ≤ (t61 : Int) ∧ (t61 : Int) < ((middles13n : Nat) : Int)) with | true => (match decide (0 + (t61).toNat * 1 < (l2.set (0 + (t61).toNat * 1) (fop .sub .f32 e1 (fop .sub .f32 energy2 981668463))).length) with | true => lp_so14 N M (st_so14 rows0n beside1 energy2 n10 state11n middles13n t52 t53 t60 (IntKind.i64.wrap (t61 + 1)) l0 l1 ((l2.set (0 + (t61).toNat * 1) (fop .sub .f32 e1 (fop .sub .f32 energy2 981668463))).set (0 + (t61).toNat * 1) (nzF e7)) l3) K | false => none) | false => none) | none => none) | false => none)) | false => none) | false => none) | none => none) | false => none) | false => K (.exit 4) (en_so14_0 rows0n beside1 energy2 n10 state11n middles13n t52 t53 l0 l1 l2 l3)) := by
  kernel_rfl
theorem step_so25 {R : Type} (N M : Nat) (K : X → St → Option R) (rows0n : Nat) (beside1 : Nat) (energy2 : Nat) (n10 : Int) (state11n : Nat) (middles13n : Nat) (behind18 : Nat) (i20 : Int) (t52 : Int) (t53 : Int) (l0 : List Nat) (l1 : List Nat) (l2 : List Nat) (l3 : List Nat) : lp_so25 N (M + 1) (st_so25 rows0n beside1 energy2 n10 state11n middles13n behind18 i20 t52 t53 l0 l1 l2 l3) K
    = (match decide ((i20 : Int) ≥ 0) with | true => (match decide (0 ≤ (i20 : Int) ∧ (i20 : Int) < ((state11n : Nat) : Int)) with | true => (match l3[0 + (i20).toNat * 1]? with | some e1 => (match decide (0 ≤ (i20 : Int) ∧ (i20 : Int) < ((middles13n : Nat) : Int)) with | true => (match l2[0 + (i20).toNat * 1]? with | some e2 => (match decide (0 ≤ (i20 : Int) ∧ (i20 : Int) < ((state11n : Nat) : Int)) with | true => (match decide (0 + (i20).toNat * 1 < l1.length) with | true => lp_so25 N M (st_so25 rows0n beside1 energy2 n10 state11n middles13n (fop .quo .f32 (fop .sub .f32 e1 (fop .mul .f32 beside1 behind18)) e2) (IntKind.i64.wrap (i20 - 1)) t52 t53 l0 (l1.set (0 + (i20).toNat * 1) (fop .quo .f32 (fop .sub .f32 e1 (fop .mul .f32 beside1 behind18)) e2)) l2 l3) K | false => none) | false => none) | none => none) | false => none) | none => none) | false => none) | false => K (.exit 6) (en_so25_0 rows0n beside1 energy2 n10 state11n t52 t53 l0 l1)) := by
  kernel_rfl
theorem step_so30 {R : Type} (N M : Nat) (K : X → St → Option R) (rows0n : Nat) (beside1 : Nat) (energy2 : Nat) (n10 : Int) (state11n : Nat) (squares19 : Nat) (t52 : Int) (t53 : Int) (t137 : Int) (t138 : Int) (l0 : List Nat) (l1 : List Nat) : lp_so30 N (M + 1) (st_so30 rows0n beside1 energy2 n10 state11n squares19 t52 t53 t137 t138 l0 l1) K
    = (match decide ((t138 : Int) < t137) with | true => (match decide (0 ≤ (t138 : Int) ∧ (t138 : Int) < ((state11n : Nat) : Int)) with | true => (match l1[0 + (t138).toNat * 1]? with | some e1 => lp_so30 N M (st_so30 rows0n beside1 energy2 n10 state11n (fop .add .f32 squares19 (fop .mul .f32 e1 e1)) t52 t53 t137 (IntKind.i64.wrap (t138 + 1)) l0 l1) K | none => none) | false => none) | false => K (.exit 8) (en_so30_0 rows0n beside1 energy2 n10 state11n squares19 t52 t53 l0 l1)) := by
  kernel_rfl
theorem step_so36 {R : Type} (N M : Nat) (K : X → St → Option R) (rows0n : Nat) (beside1 : Nat) (energy2 : Nat) (n10 : Int) (state11n : Nat) (root23 : Nat) (t52 : Int) (t53 : Int) (t151 : Int) (t152 : Int) (l0 : List Nat) (l1 : List Nat) : lp_so36 N (M + 1) (st_so36 rows0n beside1 energy2 n10 state11n root23 t52 t53 t151 t152 l0 l1) K
    = (match decide ((t152 : Int) < t151) with | true => (match decide (0 ≤ (t152 : Int) ∧ (t152 : Int) < ((state11n : Nat) : Int)) with | true => (match l1[0 + (t152).toNat * 1]? with | some e1 => (match decide (0 ≤ (t152 : Int) ∧ (t152 : Int) < ((state11n : Nat) : Int)) with | true => (match decide (0 + (t152).toNat * 1 < l1.length) with | true => lp_so36 N M (st_so36 rows0n beside1 energy2 n10 state11n root23 t52 t53 t151 (IntKind.i64.wrap (t152 + 1)) l0 (l1.set (0 + (t152).toNat * 1) (fop .quo .f32 e1 root23))) K | false => none) | false => none) | none => none) | false => none) | false => K (.exit 10) (en_so36_0 rows0n beside1 energy2 n10 state11n t52 t53 l0 l1)) := by
  kernel_rfl
theorem end_so6_0 (N : Nat) (rows0n : Nat) (beside1 : Nat) (energy2 : Nat) (rounds3 : Int) (n10 : Int) (state11n : Nat) (l0 : List Nat) (l1 : List Nat) : kt_so6 N (kEndA Try.f14 1) (.exit 0) (en_so6_0 rows0n beside1 energy2 rounds3 n10 state11n l0 l1)
    = lp_so11 N N (st_so11 rows0n beside1 energy2 n10 state11n rounds3 0 l0 l1) (kt_so11 N (kEndA Try.f14 1)) := by
  kernel_rfl
theorem end_so11_0 (N : Nat) (state11n : Nat) (l0 : List Nat) (l1 : List Nat) : kt_so11 N (kEndA Try.f14 1) (.exit 2) (en_so11_0 state11n l0 l1)
    = (match decide (l1.length = state11n ∧ state11n < 2147483648) with | true => (match l1.all finB with | true => some (.tup [.a (.sl 1 0 state11n), .a (.bool true)], [.at true (.fl .f32 l0), .at true (.fl .f32 l1)]) | false => some (.tup [.a (.nil), .a (.bool false)], [.at true (.fl .f32 l0)])) | false => none) := by
  kernel_rfl
theorem end_so14_0 {R : Type} (N M : Nat) (K : X → St → Option R) (rows0n : Nat) (beside1 : Nat) (energy2 : Nat) (n10 : Int) (state11n : Nat) (middles13n : Nat) (t52 : Int) (t53 : Int) (l0 : List Nat) (l1 : List Nat) (l2 : List Nat) (l3 : List Nat) : kt_so14 N (bk_so11 N M K) (.exit 4) (en_so14_0 rows0n beside1 energy2 n10 state11n middles13n t52 t53 l0 l1 l2 l3)
    = lp_so25 N N (st_so25 rows0n beside1 energy2 n10 state11n middles13n 0 (IntKind.i64.wrap (n10 - 1)) t52 t53 l0 l1 l2 l3) (kt_so25 N (bk_so11 N M K)) := by
  kernel_rfl
theorem end_so25_0 {R : Type} (N M : Nat) (K : X → St → Option R) (rows0n : Nat) (beside1 : Nat) (energy2 : Nat) (n10 : Int) (state11n : Nat) (t52 : Int) (t53 : Int) (l0 : List Nat) (l1 : List Nat) : kt_so25 N (bk_so11 N M K) (.exit 6) (en_so25_0 rows0n beside1 energy2 n10 state11n t52 t53 l0 l1)
    = lp_so30 N N (st_so30 rows0n beside1 energy2 n10 state11n 0 t52 t53 ((state11n : Nat) : Int) 0 l0 l1) (kt_so30 N (bk_so11 N M K)) := by
  kernel_rfl
theorem end_so30_0 {R : Type} (N M : Nat) (K : X → St → Option R) (rows0n : Nat) (beside1 : Nat) (energy2 : Nat) (n10 : Int) (state11n : Nat) (squares19 : Nat) (t52 : Int) (t53 : Int) (l0 : List Nat) (l1 : List Nat) : kt_so30 N (bk_so11 N M K) (.exit 8) (en_so30_0 rows0n beside1 energy2 n10 state11n squares19 t52 t53 l0 l1)
    = lp_so36 N N (st_so36 rows0n beside1 energy2 n10 state11n (rootF squares19) t52 t53 ((state11n : Nat) : Int) 0 l0 l1) (kt_so36 N (bk_so11 N M K)) := by
  kernel_rfl
theorem end_so36_0 {R : Type} (N M : Nat) (K : X → St → Option R) (rows0n : Nat) (beside1 : Nat) (energy2 : Nat) (n10 : Int) (state11n : Nat) (t52 : Int) (t53 : Int) (l0 : List Nat) (l1 : List Nat) : kt_so36 N (bk_so11 N M K) (.exit 10) (en_so36_0 rows0n beside1 energy2 n10 state11n t52 t53 l0 l1)
    = lp_so11 N M (st_so11 rows0n beside1 energy2 n10 state11n t52 (IntKind.i64.wrap (t53 + 1)) l0 l1) K := by
  kernel_rfl
noncomputable def ce_so36_0 (N : Nat) (g : Nat → Nat → Nat → Int → Nat → Int → Int → List Nat → List Nat → Option (V × H)) (q0 : Nat → List Nat → List Nat → Option (V × H)) (rows0n : Nat) (beside1 : Nat) (energy2 : Nat) (n10 : Int) (state11n : Nat) (t52 : Int) (t53 : Int) (l0 : List Nat) (l1 : List Nat) : Option (V × H) := (g rows0n beside1 energy2 n10 state11n t52 (IntKind.i64.wrap (t53 + 1)) l0 l1)
noncomputable def mb_so36 (N : Nat) (k0 : Nat → Nat → Nat → Int → Nat → Int → Int → List Nat → List Nat → Option (V × H)) (rq : Nat → Nat → Nat → Int → Nat → Nat → Int → Int → Int → Int → List Nat → List Nat → Option (V × H)) : Nat → Nat → Nat → Int → Nat → Nat → Int → Int → Int → Int → List Nat → List Nat → Option (V × H) := fun (rows0n : Nat) (beside1 : Nat) (energy2 : Nat) (n10 : Int) (state11n : Nat) (root23 : Nat) (t52 : Int) (t53 : Int) (t151 : Int) (t152 : Int) (l0 : List Nat) (l1 : List Nat) => (match decide ((t152 : Int) < t151) with | true => (match decide (0 ≤ (t152 : Int) ∧ (t152 : Int) < ((state11n : Nat) : Int)) with | true => (match l1[0 + (t152).toNat * 1]? with | some e1 => (match decide (0 ≤ (t152 : Int) ∧ (t152 : Int) < ((state11n : Nat) : Int)) with | true => (match decide (0 + (t152).toNat * 1 < l1.length) with | true => (rq rows0n beside1 energy2 n10 state11n root23 t52 t53 t151 (IntKind.i64.wrap (t152 + 1)) l0 (l1.set (0 + (t152).toNat * 1) (fop .quo .f32 e1 root23))) | false => none) | false => none) | none => none) | false => none) | false => (k0 rows0n beside1 energy2 n10 state11n t52 t53 l0 l1))
noncomputable def mr_so36 (N : Nat) (k0 : Nat → Nat → Nat → Int → Nat → Int → Int → List Nat → List Nat → Option (V × H)) (M : Nat) : Nat → Nat → Nat → Int → Nat → Nat → Int → Int → Int → Int → List Nat → List Nat → Option (V × H) := Nat.rec (motive := fun _ => Nat → Nat → Nat → Int → Nat → Nat → Int → Int → Int → Int → List Nat → List Nat → Option (V × H)) (fun (_ : Nat) (_ : Nat) (_ : Nat) (_ : Int) (_ : Nat) (_ : Nat) (_ : Int) (_ : Int) (_ : Int) (_ : Int) (_ : List Nat) (_ : List Nat) => none) (fun _ rq => mb_so36 N k0 rq) M
theorem mrs_so36 (N : Nat) (k0 : Nat → Nat → Nat → Int → Nat → Int → Int → List Nat → List Nat → Option (V × H)) (M : Nat) (rows0n : Nat) (beside1 : Nat) (energy2 : Nat) (n10 : Int) (state11n : Nat) (root23 : Nat) (t52 : Int) (t53 : Int) (t151 : Int) (t152 : Int) (l0 : List Nat) (l1 : List Nat) : mr_so36 N k0 (M + 1) rows0n beside1 energy2 n10 state11n root23 t52 t53 t151 t152 l0 l1 = mb_so36 N k0 (mr_so36 N k0 M) rows0n beside1 energy2 n10 state11n root23 t52 t53 t151 t152 l0 l1 := rfl
theorem H_so36 (N : Nat) (Mp : Nat) (K : X → St → Option (V × H)) (g : Nat → Nat → Nat → Int → Nat → Int → Int → List Nat → List Nat → Option (V × H)) (q0 : Nat → List Nat → List Nat → Option (V × H)) (hg : ∀ (rows0n : Nat) (beside1 : Nat) (energy2 : Nat) (n10 : Int) (state11n : Nat) (t52 : Int) (t53 : Int) (l0 : List Nat) (l1 : List Nat), lp_so11 N Mp (st_so11 rows0n beside1 energy2 n10 state11n t52 t53 l0 l1) K = g rows0n beside1 energy2 n10 state11n t52 t53 l0 l1) (hk0 : ∀ (state11n : Nat) (l0 : List Nat) (l1 : List Nat), K (.exit 2) (en_so11_0 state11n l0 l1) = q0 state11n l0 l1) : ∀ (M : Nat) (rows0n : Nat) (beside1 : Nat) (energy2 : Nat) (n10 : Int) (state11n : Nat) (root23 : Nat) (t52 : Int) (t53 : Int) (t151 : Int) (t152 : Int) (l0 : List Nat) (l1 : List Nat), lp_so36 N M (st_so36 rows0n beside1 energy2 n10 state11n root23 t52 t53 t151 t152 l0 l1) (kt_so36 N (bk_so11 N Mp K)) = mr_so36 N (ce_so36_0 N g q0) M rows0n beside1 energy2 n10 state11n root23 t52 t53 t151 t152 l0 l1 := by
  have he0 : ∀ (rows0n : Nat) (beside1 : Nat) (energy2 : Nat) (n10 : Int) (state11n : Nat) (t52 : Int) (t53 : Int) (l0 : List Nat) (l1 : List Nat), kt_so36 N (bk_so11 N Mp K) (.exit 10) (en_so36_0 rows0n beside1 energy2 n10 state11n t52 t53 l0 l1) = ce_so36_0 N g q0 rows0n beside1 energy2 n10 state11n t52 t53 l0 l1 := by
    intro rows0n beside1 energy2 n10 state11n t52 t53 l0 l1
    rw [end_so36_0]
    unfold ce_so36_0
    try dsimp only
    exact hg _ _ _ _ _ _ _ _ _
  intro M
  induction M with
  | zero => intros; rfl
  | succ M ih =>
    intro rows0n beside1 energy2 n10 state11n root23 t52 t53 t151 t152 l0 l1
    rw [step_so36]
    rw [mrs_so36]
    unfold mb_so36
    cases hq1 : (decide ((t152 : Int) < t151))
    case true =>
      cases hq2 : (decide (0 ≤ (t152 : Int) ∧ (t152 : Int) < ((state11n : Nat) : Int)))
      case true =>
        cases hq3 : (l1[0 + (t152).toNat * 1]?)
        case none =>
          rfl
        case some e1 =>
          try dsimp only
          cases hq4 : (decide (0 + (t152).toNat * 1 < l1.length))
          case true =>
            try dsimp only
            exact ih _ _ _ _ _ _ _ _ _ _ _ _
          case false =>
            all_goals rfl
      case false =>
        all_goals rfl
    case false =>
      try dsimp only
      exact he0 _ _ _ _ _ _ _ _ _
noncomputable def ce_so30_0 (N : Nat) (g : Nat → Nat → Nat → Int → Nat → Int → Int → List Nat → List Nat → Option (V × H)) (q0 : Nat → List Nat → List Nat → Option (V × H)) (rows0n : Nat) (beside1 : Nat) (energy2 : Nat) (n10 : Int) (state11n : Nat) (squares19 : Nat) (t52 : Int) (t53 : Int) (l0 : List Nat) (l1 : List Nat) : Option (V × H) := (mr_so36 N (ce_so36_0 N g q0) N rows0n beside1 energy2 n10 state11n (rootF squares19) t52 t53 ((state11n : Nat) : Int) 0 l0 l1)
noncomputable def mb_so30 (N : Nat) (k0 : Nat → Nat → Nat → Int → Nat → Nat → Int → Int → List Nat → List Nat → Option (V × H)) (rq : Nat → Nat → Nat → Int → Nat → Nat → Int → Int → Int → Int → List Nat → List Nat → Option (V × H)) : Nat → Nat → Nat → Int → Nat → Nat → Int → Int → Int → Int → List Nat → List Nat → Option (V × H) := fun (rows0n : Nat) (beside1 : Nat) (energy2 : Nat) (n10 : Int) (state11n : Nat) (squares19 : Nat) (t52 : Int) (t53 : Int) (t137 : Int) (t138 : Int) (l0 : List Nat) (l1 : List Nat) => (match decide ((t138 : Int) < t137) with | true => (match decide (0 ≤ (t138 : Int) ∧ (t138 : Int) < ((state11n : Nat) : Int)) with | true => (match l1[0 + (t138).toNat * 1]? with | some e1 => (rq rows0n beside1 energy2 n10 state11n (fop .add .f32 squares19 (fop .mul .f32 e1 e1)) t52 t53 t137 (IntKind.i64.wrap (t138 + 1)) l0 l1) | none => none) | false => none) | false => (k0 rows0n beside1 energy2 n10 state11n squares19 t52 t53 l0 l1))
noncomputable def mr_so30 (N : Nat) (k0 : Nat → Nat → Nat → Int → Nat → Nat → Int → Int → List Nat → List Nat → Option (V × H)) (M : Nat) : Nat → Nat → Nat → Int → Nat → Nat → Int → Int → Int → Int → List Nat → List Nat → Option (V × H) := Nat.rec (motive := fun _ => Nat → Nat → Nat → Int → Nat → Nat → Int → Int → Int → Int → List Nat → List Nat → Option (V × H)) (fun (_ : Nat) (_ : Nat) (_ : Nat) (_ : Int) (_ : Nat) (_ : Nat) (_ : Int) (_ : Int) (_ : Int) (_ : Int) (_ : List Nat) (_ : List Nat) => none) (fun _ rq => mb_so30 N k0 rq) M
theorem mrs_so30 (N : Nat) (k0 : Nat → Nat → Nat → Int → Nat → Nat → Int → Int → List Nat → List Nat → Option (V × H)) (M : Nat) (rows0n : Nat) (beside1 : Nat) (energy2 : Nat) (n10 : Int) (state11n : Nat) (squares19 : Nat) (t52 : Int) (t53 : Int) (t137 : Int) (t138 : Int) (l0 : List Nat) (l1 : List Nat) : mr_so30 N k0 (M + 1) rows0n beside1 energy2 n10 state11n squares19 t52 t53 t137 t138 l0 l1 = mb_so30 N k0 (mr_so30 N k0 M) rows0n beside1 energy2 n10 state11n squares19 t52 t53 t137 t138 l0 l1 := rfl
theorem H_so30 (N : Nat) (Mp : Nat) (K : X → St → Option (V × H)) (g : Nat → Nat → Nat → Int → Nat → Int → Int → List Nat → List Nat → Option (V × H)) (q0 : Nat → List Nat → List Nat → Option (V × H)) (hg : ∀ (rows0n : Nat) (beside1 : Nat) (energy2 : Nat) (n10 : Int) (state11n : Nat) (t52 : Int) (t53 : Int) (l0 : List Nat) (l1 : List Nat), lp_so11 N Mp (st_so11 rows0n beside1 energy2 n10 state11n t52 t53 l0 l1) K = g rows0n beside1 energy2 n10 state11n t52 t53 l0 l1) (hk0 : ∀ (state11n : Nat) (l0 : List Nat) (l1 : List Nat), K (.exit 2) (en_so11_0 state11n l0 l1) = q0 state11n l0 l1) : ∀ (M : Nat) (rows0n : Nat) (beside1 : Nat) (energy2 : Nat) (n10 : Int) (state11n : Nat) (squares19 : Nat) (t52 : Int) (t53 : Int) (t137 : Int) (t138 : Int) (l0 : List Nat) (l1 : List Nat), lp_so30 N M (st_so30 rows0n beside1 energy2 n10 state11n squares19 t52 t53 t137 t138 l0 l1) (kt_so30 N (bk_so11 N Mp K)) = mr_so30 N (ce_so30_0 N g q0) M rows0n beside1 energy2 n10 state11n squares19 t52 t53 t137 t138 l0 l1 := by
  have he0 : ∀ (rows0n : Nat) (beside1 : Nat) (energy2 : Nat) (n10 : Int) (state11n : Nat) (squares19 : Nat) (t52 : Int) (t53 : Int) (l0 : List Nat) (l1 : List Nat), kt_so30 N (bk_so11 N Mp K) (.exit 8) (en_so30_0 rows0n beside1 energy2 n10 state11n squares19 t52 t53 l0 l1) = ce_so30_0 N g q0 rows0n beside1 energy2 n10 state11n squares19 t52 t53 l0 l1 := by
    intro rows0n beside1 energy2 n10 state11n squares19 t52 t53 l0 l1
    rw [end_so30_0]
    unfold ce_so30_0
    try dsimp only
    exact H_so36 N Mp K g q0 hg hk0 N _ _ _ _ _ _ _ _ _ _ _ _
  intro M
  induction M with
  | zero => intros; rfl
  | succ M ih =>
    intro rows0n beside1 energy2 n10 state11n squares19 t52 t53 t137 t138 l0 l1
    rw [step_so30]
    rw [mrs_so30]
    unfold mb_so30
    cases hq1 : (decide ((t138 : Int) < t137))
    case true =>
      cases hq2 : (decide (0 ≤ (t138 : Int) ∧ (t138 : Int) < ((state11n : Nat) : Int)))
      case true =>
        cases hq3 : (l1[0 + (t138).toNat * 1]?)
        case none =>
          rfl
        case some e1 =>
          try dsimp only
          try dsimp only
          exact ih _ _ _ _ _ _ _ _ _ _ _ _
      case false =>
        all_goals rfl
    case false =>
      try dsimp only
      exact he0 _ _ _ _ _ _ _ _ _ _
noncomputable def ce_so25_0 (N : Nat) (g : Nat → Nat → Nat → Int → Nat → Int → Int → List Nat → List Nat → Option (V × H)) (q0 : Nat → List Nat → List Nat → Option (V × H)) (rows0n : Nat) (beside1 : Nat) (energy2 : Nat) (n10 : Int) (state11n : Nat) (t52 : Int) (t53 : Int) (l0 : List Nat) (l1 : List Nat) : Option (V × H) := (mr_so30 N (ce_so30_0 N g q0) N rows0n beside1 energy2 n10 state11n 0 t52 t53 ((state11n : Nat) : Int) 0 l0 l1)
noncomputable def mb_so25 (N : Nat) (k0 : Nat → Nat → Nat → Int → Nat → Int → Int → List Nat → List Nat → Option (V × H)) (rq : Nat → Nat → Nat → Int → Nat → Nat → Nat → Int → Int → Int → List Nat → List Nat → List Nat → List Nat → Option (V × H)) : Nat → Nat → Nat → Int → Nat → Nat → Nat → Int → Int → Int → List Nat → List Nat → List Nat → List Nat → Option (V × H) := fun (rows0n : Nat) (beside1 : Nat) (energy2 : Nat) (n10 : Int) (state11n : Nat) (middles13n : Nat) (behind18 : Nat) (i20 : Int) (t52 : Int) (t53 : Int) (l0 : List Nat) (l1 : List Nat) (l2 : List Nat) (l3 : List Nat) => (match decide ((i20 : Int) ≥ 0) with | true => (match decide (0 ≤ (i20 : Int) ∧ (i20 : Int) < ((state11n : Nat) : Int)) with | true => (match l3[0 + (i20).toNat * 1]? with | some e1 => (match decide (0 ≤ (i20 : Int) ∧ (i20 : Int) < ((middles13n : Nat) : Int)) with | true => (match l2[0 + (i20).toNat * 1]? with | some e2 => (match decide (0 ≤ (i20 : Int) ∧ (i20 : Int) < ((state11n : Nat) : Int)) with | true => (match decide (0 + (i20).toNat * 1 < l1.length) with | true => (rq rows0n beside1 energy2 n10 state11n middles13n (fop .quo .f32 (fop .sub .f32 e1 (fop .mul .f32 beside1 behind18)) e2) (IntKind.i64.wrap (i20 - 1)) t52 t53 l0 (l1.set (0 + (i20).toNat * 1) (fop .quo .f32 (fop .sub .f32 e1 (fop .mul .f32 beside1 behind18)) e2)) l2 l3) | false => none) | false => none) | none => none) | false => none) | none => none) | false => none) | false => (k0 rows0n beside1 energy2 n10 state11n t52 t53 l0 l1))
noncomputable def mr_so25 (N : Nat) (k0 : Nat → Nat → Nat → Int → Nat → Int → Int → List Nat → List Nat → Option (V × H)) (M : Nat) : Nat → Nat → Nat → Int → Nat → Nat → Nat → Int → Int → Int → List Nat → List Nat → List Nat → List Nat → Option (V × H) := Nat.rec (motive := fun _ => Nat → Nat → Nat → Int → Nat → Nat → Nat → Int → Int → Int → List Nat → List Nat → List Nat → List Nat → Option (V × H)) (fun (_ : Nat) (_ : Nat) (_ : Nat) (_ : Int) (_ : Nat) (_ : Nat) (_ : Nat) (_ : Int) (_ : Int) (_ : Int) (_ : List Nat) (_ : List Nat) (_ : List Nat) (_ : List Nat) => none) (fun _ rq => mb_so25 N k0 rq) M
theorem mrs_so25 (N : Nat) (k0 : Nat → Nat → Nat → Int → Nat → Int → Int → List Nat → List Nat → Option (V × H)) (M : Nat) (rows0n : Nat) (beside1 : Nat) (energy2 : Nat) (n10 : Int) (state11n : Nat) (middles13n : Nat) (behind18 : Nat) (i20 : Int) (t52 : Int) (t53 : Int) (l0 : List Nat) (l1 : List Nat) (l2 : List Nat) (l3 : List Nat) : mr_so25 N k0 (M + 1) rows0n beside1 energy2 n10 state11n middles13n behind18 i20 t52 t53 l0 l1 l2 l3 = mb_so25 N k0 (mr_so25 N k0 M) rows0n beside1 energy2 n10 state11n middles13n behind18 i20 t52 t53 l0 l1 l2 l3 := rfl
theorem H_so25 (N : Nat) (Mp : Nat) (K : X → St → Option (V × H)) (g : Nat → Nat → Nat → Int → Nat → Int → Int → List Nat → List Nat → Option (V × H)) (q0 : Nat → List Nat → List Nat → Option (V × H)) (hg : ∀ (rows0n : Nat) (beside1 : Nat) (energy2 : Nat) (n10 : Int) (state11n : Nat) (t52 : Int) (t53 : Int) (l0 : List Nat) (l1 : List Nat), lp_so11 N Mp (st_so11 rows0n beside1 energy2 n10 state11n t52 t53 l0 l1) K = g rows0n beside1 energy2 n10 state11n t52 t53 l0 l1) (hk0 : ∀ (state11n : Nat) (l0 : List Nat) (l1 : List Nat), K (.exit 2) (en_so11_0 state11n l0 l1) = q0 state11n l0 l1) : ∀ (M : Nat) (rows0n : Nat) (beside1 : Nat) (energy2 : Nat) (n10 : Int) (state11n : Nat) (middles13n : Nat) (behind18 : Nat) (i20 : Int) (t52 : Int) (t53 : Int) (l0 : List Nat) (l1 : List Nat) (l2 : List Nat) (l3 : List Nat), lp_so25 N M (st_so25 rows0n beside1 energy2 n10 state11n middles13n behind18 i20 t52 t53 l0 l1 l2 l3) (kt_so25 N (bk_so11 N Mp K)) = mr_so25 N (ce_so25_0 N g q0) M rows0n beside1 energy2 n10 state11n middles13n behind18 i20 t52 t53 l0 l1 l2 l3 := by
  have he0 : ∀ (rows0n : Nat) (beside1 : Nat) (energy2 : Nat) (n10 : Int) (state11n : Nat) (t52 : Int) (t53 : Int) (l0 : List Nat) (l1 : List Nat), kt_so25 N (bk_so11 N Mp K) (.exit 6) (en_so25_0 rows0n beside1 energy2 n10 state11n t52 t53 l0 l1) = ce_so25_0 N g q0 rows0n beside1 energy2 n10 state11n t52 t53 l0 l1 := by
    intro rows0n beside1 energy2 n10 state11n t52 t53 l0 l1
    rw [end_so25_0]
    unfold ce_so25_0
    try dsimp only
    exact H_so30 N Mp K g q0 hg hk0 N _ _ _ _ _ _ _ _ _ _ _ _
  intro M
  induction M with
  | zero => intros; rfl
  | succ M ih =>
    intro rows0n beside1 energy2 n10 state11n middles13n behind18 i20 t52 t53 l0 l1 l2 l3
    rw [step_so25]
    rw [mrs_so25]
    unfold mb_so25
    cases hq1 : (decide ((i20 : Int) ≥ 0))
    case true =>
      cases hq2 : (decide (0 ≤ (i20 : Int) ∧ (i20 : Int) < ((state11n : Nat) : Int)))
      case true =>
        cases hq3 : (l3[0 + (i20).toNat * 1]?)
        case none =>
          rfl
        case some e1 =>
          try dsimp only
          cases hq4 : (decide (0 ≤ (i20 : Int) ∧ (i20 : Int) < ((middles13n : Nat) : Int)))
          case true =>
            cases hq5 : (l2[0 + (i20).toNat * 1]?)
            case none =>
              rfl
            case some e2 =>
              try dsimp only
              cases hq6 : (decide (0 + (i20).toNat * 1 < l1.length))
              case true =>
                try dsimp only
                exact ih _ _ _ _ _ _ _ _ _ _ _ _ _ _
              case false =>
                all_goals rfl
          case false =>
            all_goals rfl
      case false =>
        all_goals rfl
    case false =>
      try dsimp only
      exact he0 _ _ _ _ _ _ _ _ _
noncomputable def ce_so14_0 (N : Nat) (g : Nat → Nat → Nat → Int → Nat → Int → Int → List Nat → List Nat → Option (V × H)) (q0 : Nat → List Nat → List Nat → Option (V × H)) (rows0n : Nat) (beside1 : Nat) (energy2 : Nat) (n10 : Int) (state11n : Nat) (middles13n : Nat) (t52 : Int) (t53 : Int) (l0 : List Nat) (l1 : List Nat) (l2 : List Nat) (l3 : List Nat) : Option (V × H) := (mr_so25 N (ce_so25_0 N g q0) N rows0n beside1 energy2 n10 state11n middles13n 0 (IntKind.i64.wrap (n10 - 1)) t52 t53 l0 l1 l2 l3)
noncomputable def mb_so14 (N : Nat) (k0 : Nat → Nat → Nat → Int → Nat → Nat → Int → Int → List Nat → List Nat → List Nat → List Nat → Option (V × H)) (rq : Nat → Nat → Nat → Int → Nat → Nat → Int → Int → Int → Int → List Nat → List Nat → List Nat → List Nat → Option (V × H)) : Nat → Nat → Nat → Int → Nat → Nat → Int → Int → Int → Int → List Nat → List Nat → List Nat → List Nat → Option (V × H) := fun (rows0n : Nat) (beside1 : Nat) (energy2 : Nat) (n10 : Int) (state11n : Nat) (middles13n : Nat) (t52 : Int) (t53 : Int) (t60 : Int) (t61 : Int) (l0 : List Nat) (l1 : List Nat) (l2 : List Nat) (l3 : List Nat) => (match decide ((t61 : Int) < t60) with | true => (match decide (0 ≤ (t61 : Int) ∧ (t61 : Int) < ((rows0n : Nat) : Int)) with | true => (match l0[0 + (t61).toNat * 1]? with | some e1 => (match decide (0 ≤ (t61 : Int) ∧ (t61 : Int) < ((middles13n : Nat) : Int)) with | true => (match decide (0 + (t61).toNat * 1 < l2.length) with | true => (match decide ((t61 : Int) > 0) with | true => (match decide (0 ≤ (IntKind.i64.wrap (t61 - 1) : Int) ∧ (IntKind.i64.wrap (t61 - 1) : Int) < ((middles13n : Nat) : Int)) with | true => (match (l2.set (0 + (t61).toNat * 1) (fop .sub .f32 e1 (fop .sub .f32 energy2 981668463)))[0 + (IntKind.i64.wrap (t61 - 1)).toNat * 1]? with | some e2 => (match decide (0 ≤ (t61 : Int) ∧ (t61 : Int) < ((middles13n : Nat) : Int)) with | true => (match (l2.set (0 + (t61).toNat * 1) (fop .sub .f32 e1 (fop .sub .f32 energy2 981668463)))[0 + (t61).toNat * 1]? with | some e3 => (match decide (0 ≤ (t61 : Int) ∧ (t61 : Int) < ((middles13n : Nat) : Int)) with | true => (match decide (0 + (t61).toNat * 1 < (l2.set (0 + (t61).toNat * 1) (fop .sub .f32 e1 (fop .sub .f32 energy2 981668463))).length) with | true => (match decide (0 ≤ (t61 : Int) ∧ (t61 : Int) < ((state11n : Nat) : Int)) with | true => (match l3[0 + (t61).toNat * 1]? with | some e4 => (match decide (0 ≤ (IntKind.i64.wrap (t61 - 1) : Int) ∧ (IntKind.i64.wrap (t61 - 1) : Int) < ((state11n : Nat) : Int)) with | true => (match l3[0 + (IntKind.i64.wrap (t61 - 1)).toNat * 1]? with | some e5 => (match decide (0 ≤ (t61 : Int) ∧ (t61 : Int) < ((state11n : Nat) : Int)) with | true => (match decide (0 + (t61).toNat * 1 < l3.length) with | true => (match decide (0 ≤ (t61 : Int) ∧ (t61 : Int) < ((middles13n : Nat) : Int)) with | true => (match ((l2.set (0 + (t61).toNat * 1) (fop .sub .f32 e1 (fop .sub .f32 energy2 981668463))).set (0 + (t61).toNat * 1) (fop .sub .f32 e3 (fop .mul .f32 (fop .quo .f32 beside1 e2) beside1)))[0 + (t61).toNat * 1]? with | some e6 => (match decide (0 ≤ (t61 : Int) ∧ (t61 : Int) < ((middles13n : Nat) : Int)) with | true => (match decide (0 + (t61).toNat * 1 < ((l2.set (0 + (t61).toNat * 1) (fop .sub .f32 e1 (fop .sub .f32 energy2 981668463))).set (0 + (t61).toNat * 1) (fop .sub .f32 e3 (fop .mul .f32 (fop .quo .f32 beside1 e2) beside1))).length) with | true => (rq rows0n beside1 energy2 n10 state11n middles13n t52 t53 t60 (IntKind.i64.wrap (t61 + 1)) l0 l1 (((l2.set (0 + (t61).toNat * 1) (fop .sub .f32 e1 (fop .sub .f32 energy2 981668463))).set (0 + (t61).toNat * 1) (fop .sub .f32 e3 (fop .mul .f32 (fop .quo .f32 beside1 e2) beside1))).set (0 + (t61).toNat * 1) (nzF e6)) (l3.set (0 + (t61).toNat * 1) (fop .sub .f32 e4 (fop .mul .f32 (fop .quo .f32 beside1 e2) e5)))) | false => none) | false => none) | none => none) | false => none) | false => none) | false => none) | none => none) | false => none) | none => none) | false => none) | false => none) | false => none) | none => none) | false => none) | none => none) | false => none) | false => (match decide (0 ≤ (t61 : Int) ∧ (t61 : Int) < ((middles13n : Nat) : Int)) with | true => (match (l2.set (0 + (t61).toNat * 1) (fop .sub .f32 e1 (fop .sub .f32 energy2 981668463)))[0 + (t61).toNat * 1]? with | some e7 => (match decide (0 ≤ (t61 : Int) ∧ (t61 : Int) < ((middles13n : Nat) : Int)) with | true => (match decide (0 + (t61).toNat * 1 < (l2.set (0 + (t61).toNat * 1) (fop .sub .f32 e1 (fop .sub .f32 energy2 981668463))).length) with | true => (rq rows0n beside1 energy2 n10 state11n middles13n t52 t53 t60 (IntKind.i64.wrap (t61 + 1)) l0 l1 ((l2.set (0 + (t61).toNat * 1) (fop .sub .f32 e1 (fop .sub .f32 energy2 981668463))).set (0 + (t61).toNat * 1) (nzF e7)) l3) | false => none) | false => none) | none => none) | false => none)) | false => none) | false => none) | none => none) | false => none) | false => (k0 rows0n beside1 energy2 n10 state11n middles13n t52 t53 l0 l1 l2 l3))
noncomputable def mr_so14 (N : Nat) (k0 : Nat → Nat → Nat → Int → Nat → Nat → Int → Int → List Nat → List Nat → List Nat → List Nat → Option (V × H)) (M : Nat) : Nat → Nat → Nat → Int → Nat → Nat → Int → Int → Int → Int → List Nat → List Nat → List Nat → List Nat → Option (V × H) := Nat.rec (motive := fun _ => Nat → Nat → Nat → Int → Nat → Nat → Int → Int → Int → Int → List Nat → List Nat → List Nat → List Nat → Option (V × H)) (fun (_ : Nat) (_ : Nat) (_ : Nat) (_ : Int) (_ : Nat) (_ : Nat) (_ : Int) (_ : Int) (_ : Int) (_ : Int) (_ : List Nat) (_ : List Nat) (_ : List Nat) (_ : List Nat) => none) (fun _ rq => mb_so14 N k0 rq) M
theorem mrs_so14 (N : Nat) (k0 : Nat → Nat → Nat → Int → Nat → Nat → Int → Int → List Nat → List Nat → List Nat → List Nat → Option (V × H)) (M : Nat) (rows0n : Nat) (beside1 : Nat) (energy2 : Nat) (n10 : Int) (state11n : Nat) (middles13n : Nat) (t52 : Int) (t53 : Int) (t60 : Int) (t61 : Int) (l0 : List Nat) (l1 : List Nat) (l2 : List Nat) (l3 : List Nat) : mr_so14 N k0 (M + 1) rows0n beside1 energy2 n10 state11n middles13n t52 t53 t60 t61 l0 l1 l2 l3 = mb_so14 N k0 (mr_so14 N k0 M) rows0n beside1 energy2 n10 state11n middles13n t52 t53 t60 t61 l0 l1 l2 l3 := rfl
theorem H_so14 (N : Nat) (Mp : Nat) (K : X → St → Option (V × H)) (g : Nat → Nat → Nat → Int → Nat → Int → Int → List Nat → List Nat → Option (V × H)) (q0 : Nat → List Nat → List Nat → Option (V × H)) (hg : ∀ (rows0n : Nat) (beside1 : Nat) (energy2 : Nat) (n10 : Int) (state11n : Nat) (t52 : Int) (t53 : Int) (l0 : List Nat) (l1 : List Nat), lp_so11 N Mp (st_so11 rows0n beside1 energy2 n10 state11n t52 t53 l0 l1) K = g rows0n beside1 energy2 n10 state11n t52 t53 l0 l1) (hk0 : ∀ (state11n : Nat) (l0 : List Nat) (l1 : List Nat), K (.exit 2) (en_so11_0 state11n l0 l1) = q0 state11n l0 l1) : ∀ (M : Nat) (rows0n : Nat) (beside1 : Nat) (energy2 : Nat) (n10 : Int) (state11n : Nat) (middles13n : Nat) (t52 : Int) (t53 : Int) (t60 : Int) (t61 : Int) (l0 : List Nat) (l1 : List Nat) (l2 : List Nat) (l3 : List Nat), lp_so14 N M (st_so14 rows0n beside1 energy2 n10 state11n middles13n t52 t53 t60 t61 l0 l1 l2 l3) (kt_so14 N (bk_so11 N Mp K)) = mr_so14 N (ce_so14_0 N g q0) M rows0n beside1 energy2 n10 state11n middles13n t52 t53 t60 t61 l0 l1 l2 l3 := by
  have he0 : ∀ (rows0n : Nat) (beside1 : Nat) (energy2 : Nat) (n10 : Int) (state11n : Nat) (middles13n : Nat) (t52 : Int) (t53 : Int) (l0 : List Nat) (l1 : List Nat) (l2 : List Nat) (l3 : List Nat), kt_so14 N (bk_so11 N Mp K) (.exit 4) (en_so14_0 rows0n beside1 energy2 n10 state11n middles13n t52 t53 l0 l1 l2 l3) = ce_so14_0 N g q0 rows0n beside1 energy2 n10 state11n middles13n t52 t53 l0 l1 l2 l3 := by
    intro rows0n beside1 energy2 n10 state11n middles13n t52 t53 l0 l1 l2 l3
    rw [end_so14_0]
    unfold ce_so14_0
    try dsimp only
    exact H_so25 N Mp K g q0 hg hk0 N _ _ _ _ _ _ _ _ _ _ _ _ _ _
  intro M
  induction M with
  | zero => intros; rfl
  | succ M ih =>
    intro rows0n beside1 energy2 n10 state11n middles13n t52 t53 t60 t61 l0 l1 l2 l3
    rw [step_so14]
    rw [mrs_so14]
    unfold mb_so14
    cases hq1 : (decide ((t61 : Int) < t60))
    case true =>
      cases hq2 : (decide (0 ≤ (t61 : Int) ∧ (t61 : Int) < ((rows0n : Nat) : Int)))
      case true =>
        cases hq3 : (l0[0 + (t61).toNat * 1]?)
        case none =>
          rfl
        case some e1 =>
          try dsimp only
          cases hq4 : (decide (0 ≤ (t61 : Int) ∧ (t61 : Int) < ((middles13n : Nat) : Int)))
          case true =>
            cases hq5 : (decide (0 + (t61).toNat * 1 < l2.length))
            case true =>
              cases hq6 : (decide ((t61 : Int) > 0))
              case true =>
                cases hq7 : (decide (0 ≤ (IntKind.i64.wrap (t61 - 1) : Int) ∧ (IntKind.i64.wrap (t61 - 1) : Int) < ((middles13n : Nat) : Int)))
                case true =>
                  cases hq8 : ((l2.set (0 + (t61).toNat * 1) (fop .sub .f32 e1 (fop .sub .f32 energy2 981668463)))[0 + (IntKind.i64.wrap (t61 - 1)).toNat * 1]?)
                  case none =>
                    rfl
                  case some e2 =>
                    try dsimp only
                    cases hq9 : ((l2.set (0 + (t61).toNat * 1) (fop .sub .f32 e1 (fop .sub .f32 energy2 981668463)))[0 + (t61).toNat * 1]?)
                    case none =>
                      rfl
                    case some e3 =>
                      try dsimp only
                      cases hq10 : (decide (0 + (t61).toNat * 1 < (l2.set (0 + (t61).toNat * 1) (fop .sub .f32 e1 (fop .sub .f32 energy2 981668463))).length))
                      case true =>
                        cases hq11 : (decide (0 ≤ (t61 : Int) ∧ (t61 : Int) < ((state11n : Nat) : Int)))
                        case true =>
                          cases hq12 : (l3[0 + (t61).toNat * 1]?)
                          case none =>
                            rfl
                          case some e4 =>
                            try dsimp only
                            cases hq13 : (decide (0 ≤ (IntKind.i64.wrap (t61 - 1) : Int) ∧ (IntKind.i64.wrap (t61 - 1) : Int) < ((state11n : Nat) : Int)))
                            case true =>
                              cases hq14 : (l3[0 + (IntKind.i64.wrap (t61 - 1)).toNat * 1]?)
                              case none =>
                                rfl
                              case some e5 =>
                                try dsimp only
                                cases hq15 : (decide (0 + (t61).toNat * 1 < l3.length))
                                case true =>
                                  cases hq16 : (((l2.set (0 + (t61).toNat * 1) (fop .sub .f32 e1 (fop .sub .f32 energy2 981668463))).set (0 + (t61).toNat * 1) (fop .sub .f32 e3 (fop .mul .f32 (fop .quo .f32 beside1 e2) beside1)))[0 + (t61).toNat * 1]?)
                                  case none =>
                                    rfl
                                  case some e6 =>
                                    try dsimp only
                                    cases hq17 : (decide (0 + (t61).toNat * 1 < ((l2.set (0 + (t61).toNat * 1) (fop .sub .f32 e1 (fop .sub .f32 energy2 981668463))).set (0 + (t61).toNat * 1) (fop .sub .f32 e3 (fop .mul .f32 (fop .quo .f32 beside1 e2) beside1))).length))
                                    case true =>
                                      try dsimp only
                                      exact ih _ _ _ _ _ _ _ _ _ _ _ _ _ _
                                    case false =>
                                      all_goals rfl
                                case false =>
                                  all_goals rfl
                            case false =>
                              all_goals rfl
                        case false =>
                          all_goals rfl
                      case false =>
                        all_goals rfl
                case false =>
                  all_goals rfl
              case false =>
                cases hq18 : ((l2.set (0 + (t61).toNat * 1) (fop .sub .f32 e1 (fop .sub .f32 energy2 981668463)))[0 + (t61).toNat * 1]?)
                case none =>
                  rfl
                case some e7 =>
                  try dsimp only
                  cases hq19 : (decide (0 + (t61).toNat * 1 < (l2.set (0 + (t61).toNat * 1) (fop .sub .f32 e1 (fop .sub .f32 energy2 981668463))).length))
                  case true =>
                    try dsimp only
                    exact ih _ _ _ _ _ _ _ _ _ _ _ _ _ _
                  case false =>
                    all_goals rfl
            case false =>
              all_goals rfl
          case false =>
            all_goals rfl
      case false =>
        all_goals rfl
    case false =>
      try dsimp only
      exact he0 _ _ _ _ _ _ _ _ _ _ _ _
noncomputable def ce_so11_0 (N : Nat) (state11n : Nat) (l0 : List Nat) (l1 : List Nat) : Option (V × H) := (match decide (l1.length = state11n ∧ state11n < 2147483648) with | true => (match l1.all finB with | true => some (.tup [.a (.sl 1 0 state11n), .a (.bool true)], [.at true (.fl .f32 l0), .at true (.fl .f32 l1)]) | false => some (.tup [.a (.nil), .a (.bool false)], [.at true (.fl .f32 l0)])) | false => none)
noncomputable def mb_so11 (N : Nat) (k0 : Nat → List Nat → List Nat → Option (V × H)) (rq : Nat → Nat → Nat → Int → Nat → Int → Int → List Nat → List Nat → Option (V × H)) : Nat → Nat → Nat → Int → Nat → Int → Int → List Nat → List Nat → Option (V × H) := fun (rows0n : Nat) (beside1 : Nat) (energy2 : Nat) (n10 : Int) (state11n : Nat) (t52 : Int) (t53 : Int) (l0 : List Nat) (l1 : List Nat) => (match decide ((t53 : Int) < t52) with | true => (match (decide (0 ≤ (n10 : Int) ∧ (n10 : Int) ≤ n10 ∧ (n10 : Int) ≤ 9223372036854775807 ∧ (n10 : Int).toNat * 4 ≤ 140737488355328 ∧ 0 < 1 ∧ 1 = 1)) && (decide (l1.length = state11n ∧ state11n < 2147483648)) with | true => (mr_so14 N (ce_so14_0 N (fun rows0n beside1 energy2 n10 state11n t52 t53 l0 l1 => rq rows0n beside1 energy2 n10 state11n t52 t53 l0 l1) k0) N rows0n beside1 energy2 n10 state11n ((n10 : Int).toNat) t52 t53 ((rows0n : Nat) : Int) 0 l0 l1 (List.replicate ((n10 : Int).toNat) 0) l1) | false => none) | false => (k0 state11n l0 l1))
noncomputable def mr_so11 (N : Nat) (k0 : Nat → List Nat → List Nat → Option (V × H)) (M : Nat) : Nat → Nat → Nat → Int → Nat → Int → Int → List Nat → List Nat → Option (V × H) := Nat.rec (motive := fun _ => Nat → Nat → Nat → Int → Nat → Int → Int → List Nat → List Nat → Option (V × H)) (fun (_ : Nat) (_ : Nat) (_ : Nat) (_ : Int) (_ : Nat) (_ : Int) (_ : Int) (_ : List Nat) (_ : List Nat) => none) (fun _ rq => mb_so11 N k0 rq) M
theorem mrs_so11 (N : Nat) (k0 : Nat → List Nat → List Nat → Option (V × H)) (M : Nat) (rows0n : Nat) (beside1 : Nat) (energy2 : Nat) (n10 : Int) (state11n : Nat) (t52 : Int) (t53 : Int) (l0 : List Nat) (l1 : List Nat) : mr_so11 N k0 (M + 1) rows0n beside1 energy2 n10 state11n t52 t53 l0 l1 = mb_so11 N k0 (mr_so11 N k0 M) rows0n beside1 energy2 n10 state11n t52 t53 l0 l1 := rfl
theorem H_so11 (N : Nat) : ∀ (M : Nat) (rows0n : Nat) (beside1 : Nat) (energy2 : Nat) (n10 : Int) (state11n : Nat) (t52 : Int) (t53 : Int) (l0 : List Nat) (l1 : List Nat), lp_so11 N M (st_so11 rows0n beside1 energy2 n10 state11n t52 t53 l0 l1) (kt_so11 N (kEndA Try.f14 1)) = mr_so11 N (ce_so11_0 N) M rows0n beside1 energy2 n10 state11n t52 t53 l0 l1 := by
  have he0 : ∀ (state11n : Nat) (l0 : List Nat) (l1 : List Nat), kt_so11 N (kEndA Try.f14 1) (.exit 2) (en_so11_0 state11n l0 l1) = ce_so11_0 N state11n l0 l1 := by
    intro state11n l0 l1
    rw [end_so11_0]
    unfold ce_so11_0
    cases hz1 : (decide (l1.length = state11n ∧ state11n < 2147483648))
    case true =>
      cases hz2 : (l1.all finB)
      case true =>
        all_goals rfl
      case false =>
        all_goals rfl
    case false =>
      all_goals rfl
  intro M
  induction M with
  | zero => intros; rfl
  | succ M ih =>
    intro rows0n beside1 energy2 n10 state11n t52 t53 l0 l1
    rw [step_so11]
    have hc14 := H_so14 N M (kt_so11 N (kEndA Try.f14 1)) (fun rows0n beside1 energy2 n10 state11n t52 t53 l0 l1 => mr_so11 N (ce_so11_0 N) M rows0n beside1 energy2 n10 state11n t52 t53 l0 l1) (ce_so11_0 N) (fun rows0n beside1 energy2 n10 state11n t52 t53 l0 l1 => ih rows0n beside1 energy2 n10 state11n t52 t53 l0 l1) he0
    rw [mrs_so11]
    unfold mb_so11
    cases hq1 : (decide ((t53 : Int) < t52))
    case true =>
      cases hq2 : ((decide (0 ≤ (n10 : Int) ∧ (n10 : Int) ≤ n10 ∧ (n10 : Int) ≤ 9223372036854775807 ∧ (n10 : Int).toNat * 4 ≤ 140737488355328 ∧ 0 < 1 ∧ 1 = 1)) && (decide (l1.length = state11n ∧ state11n < 2147483648)))
      case true =>
        try dsimp only
        exact hc14 N _ _ _ _ _ _ _ _ _ _ _ _ _ _
      case false =>
        all_goals rfl
    case false =>
      try dsimp only
      exact he0 _ _ _
noncomputable def ce_so6_0 (N : Nat) (rows0n : Nat) (beside1 : Nat) (energy2 : Nat) (rounds3 : Int) (n10 : Int) (state11n : Nat) (l0 : List Nat) (l1 : List Nat) : Option (V × H) := (mr_so11 N (ce_so11_0 N) N rows0n beside1 energy2 n10 state11n rounds3 0 l0 l1)
noncomputable def mb_so6 (N : Nat) (k0 : Nat → Nat → Nat → Int → Int → Nat → List Nat → List Nat → Option (V × H)) (rq : Nat → Nat → Nat → Int → Int → Nat → Int → Int → List Nat → List Nat → Option (V × H)) : Nat → Nat → Nat → Int → Int → Nat → Int → Int → List Nat → List Nat → Option (V × H) := fun (rows0n : Nat) (beside1 : Nat) (energy2 : Nat) (rounds3 : Int) (n10 : Int) (state11n : Nat) (t44 : Int) (t45 : Int) (l0 : List Nat) (l1 : List Nat) => (match decide ((t45 : Int) < t44) with | true => (match decide (0 ≤ (t45 : Int) ∧ (t45 : Int) < ((state11n : Nat) : Int)) with | true => (match decide (0 + (t45).toNat * 1 < l1.length) with | true => (rq rows0n beside1 energy2 rounds3 n10 state11n t44 (IntKind.i64.wrap (t45 + 1)) l0 (l1.set (0 + (t45).toNat * 1) 1065353216)) | false => none) | false => none) | false => (k0 rows0n beside1 energy2 rounds3 n10 state11n l0 l1))
noncomputable def mr_so6 (N : Nat) (k0 : Nat → Nat → Nat → Int → Int → Nat → List Nat → List Nat → Option (V × H)) (M : Nat) : Nat → Nat → Nat → Int → Int → Nat → Int → Int → List Nat → List Nat → Option (V × H) := Nat.rec (motive := fun _ => Nat → Nat → Nat → Int → Int → Nat → Int → Int → List Nat → List Nat → Option (V × H)) (fun (_ : Nat) (_ : Nat) (_ : Nat) (_ : Int) (_ : Int) (_ : Nat) (_ : Int) (_ : Int) (_ : List Nat) (_ : List Nat) => none) (fun _ rq => mb_so6 N k0 rq) M
theorem mrs_so6 (N : Nat) (k0 : Nat → Nat → Nat → Int → Int → Nat → List Nat → List Nat → Option (V × H)) (M : Nat) (rows0n : Nat) (beside1 : Nat) (energy2 : Nat) (rounds3 : Int) (n10 : Int) (state11n : Nat) (t44 : Int) (t45 : Int) (l0 : List Nat) (l1 : List Nat) : mr_so6 N k0 (M + 1) rows0n beside1 energy2 rounds3 n10 state11n t44 t45 l0 l1 = mb_so6 N k0 (mr_so6 N k0 M) rows0n beside1 energy2 rounds3 n10 state11n t44 t45 l0 l1 := rfl
theorem H_so6 (N : Nat) : ∀ (M : Nat) (rows0n : Nat) (beside1 : Nat) (energy2 : Nat) (rounds3 : Int) (n10 : Int) (state11n : Nat) (t44 : Int) (t45 : Int) (l0 : List Nat) (l1 : List Nat), lp_so6 N M (st_so6 rows0n beside1 energy2 rounds3 n10 state11n t44 t45 l0 l1) (kt_so6 N (kEndA Try.f14 1)) = mr_so6 N (ce_so6_0 N) M rows0n beside1 energy2 rounds3 n10 state11n t44 t45 l0 l1 := by
  have he0 : ∀ (rows0n : Nat) (beside1 : Nat) (energy2 : Nat) (rounds3 : Int) (n10 : Int) (state11n : Nat) (l0 : List Nat) (l1 : List Nat), kt_so6 N (kEndA Try.f14 1) (.exit 0) (en_so6_0 rows0n beside1 energy2 rounds3 n10 state11n l0 l1) = ce_so6_0 N rows0n beside1 energy2 rounds3 n10 state11n l0 l1 := by
    intro rows0n beside1 energy2 rounds3 n10 state11n l0 l1
    rw [end_so6_0]
    unfold ce_so6_0
    try dsimp only
    exact H_so11 N N _ _ _ _ _ _ _ _ _
  intro M
  induction M with
  | zero => intros; rfl
  | succ M ih =>
    intro rows0n beside1 energy2 rounds3 n10 state11n t44 t45 l0 l1
    rw [step_so6]
    rw [mrs_so6]
    unfold mb_so6
    cases hq1 : (decide ((t45 : Int) < t44))
    case true =>
      cases hq2 : (decide (0 ≤ (t45 : Int) ∧ (t45 : Int) < ((state11n : Nat) : Int)))
      case true =>
        cases hq3 : (decide (0 + (t45).toNat * 1 < l1.length))
        case true =>
          try dsimp only
          exact ih _ _ _ _ _ _ _ _ _ _
        case false =>
          all_goals rfl
      case false =>
        all_goals rfl
    case false =>
      try dsimp only
      exact he0 _ _ _ _ _ _ _ _
noncomputable def md_so (N : Nat) (n : Nat) (b : Nat) (x : Nat) (q : Int) (l : List Nat) : Option (V × H) := (match (d_ar n b true l).isSome with | true => (match !(v_ar n b true l) with | true => some (.tup [.a (.nil), .a (.bool false)], [.at true (.fl .f32 l)]) | false => (match !(finB x) with | true => some (.tup [.a (.nil), .a (.bool false)], [.at true (.fl .f32 l)]) | false => (match !(inB q 1 8) with | true => some (.tup [.a (.nil), .a (.bool false)], [.at true (.fl .f32 l)]) | false => (match decide (0 ≤ (((n : Nat) : Int) : Int) ∧ (((n : Nat) : Int) : Int) ≤ ((n : Nat) : Int) ∧ (((n : Nat) : Int) : Int) ≤ 9223372036854775807 ∧ (((n : Nat) : Int) : Int).toNat * 4 ≤ 140737488355328 ∧ 0 < 1 ∧ 1 = 1) with | true => (mr_so6 N (ce_so6_0 N) N n b x q ((n : Nat) : Int) ((((n : Nat) : Int) : Int).toNat) (((((n : Nat) : Int) : Int).toNat : Nat) : Int) 0 l (List.replicate ((((n : Nat) : Int) : Int).toNat) 0)) | false => none)))) | false => none)
theorem mdl_so (N : Nat) (n : Nat) (b : Nat) (x : Nat) (q : Int) (l : List Nat) : runA ty tab_so an_so gs_so N Try.f14 [.sl 0 0 n, .fl .f32 b, .fl .f32 x, .int .i64 q] [.at true (.fl .f32 l)] = md_so N n b x q l := by
  rw [run_so]
  unfold md_so
  first | (simp only [H_so6 N N]; done) | (simp only [H_so6 N N]; kernel_rfl) | rfl

def o_so (n : Nat) (b : Nat) (x : Nat) (q : Int) (l : List Nat) : Option (V × H) → Option (Nat × List Nat)
  | some (.tup [.a (.sl 1 0 x1), .a (.bool true)], [.at true (.fl .f32 y0), .at true (.fl .f32 x3)]) => match decide (y0 = l) with | true => some (x1, x3) | false => none
  | _ => none
theorem oi_so {n : Nat} {b : Nat} {x : Nat} {q : Int} {l : List Nat} {o : Option (V × H)} {z : Nat × List Nat} (h : o_so n b x q l o = some z) : o = some (.tup [.a (.sl 1 0 z.1), .a (.bool true)], [.at true (.fl .f32 l), .at true (.fl .f32 z.2)]) := by
  unfold o_so at h
  split at h
  · split at h
    · rename_i hd
      obtain rfl := of_decide_eq_true hd
      cases h
      rfl
    · cases h
  · cases h
noncomputable def d_so (n : Nat) (b : Nat) (x : Nat) (q : Int) (l : List Nat) : Option (Nat × List Nat) := o_so n b x q l (md_so 50 n b x q l)
noncomputable def v_so (n : Nat) (b : Nat) (x : Nat) (q : Int) (l : List Nat) : Nat × List Nat := (d_so n b x q l).getD (0, [])
noncomputable def g_so : GT := fun vs h => match vs, h with
  | [.sl 0 0 n, .fl .f32 b, .fl .f32 x, .int .i64 q], [.at true (.fl .f32 l)] => .ite (d_so n b x q l).isSome (.ret (.tup [.a (.sl 1 0 ((v_so n b x q l).1)), .a (.bool true)]) [.at true (.fl .f32 l), .at true (.fl .f32 ((v_so n b x q l).2))]) .no
  | _, _ => .no
theorem ok_so : FnT Try.prog 14 g_so := by
  refine fnA_ok tyOk tabok_so mixed Try.func14 rfl rfl an_so gs_so regOk_so fun vs h v h' e => ?_
  unfold g_so at e
  split at e
  · rename_i n b x q l
    obtain ⟨hs, e⟩ := T.pre_inv e
    obtain ⟨rfl, rfl⟩ := T.ret_inv e
    refine ⟨rfl, 50, ?_⟩
    refine Eq.trans (mdl_so 50 n b x q l) ?_
    obtain ⟨z, hz⟩ := Option.isSome_iff_exists.mp hs
    have hv : v_so n b x q l = z := by unfold v_so; rw [hz]; rfl
    rw [hv]
    exact oi_so hz
  · exact (T.no_inv e).elim
end Go.Proofs.Ytlopdogjdfeikaa.Ab
