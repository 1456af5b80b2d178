/- The shares. Only lemmas. Printed by gen_join.py. -/
import Derived.Test.YtbhfjdlhhjeknaaJnK4
import Derived.Test.YtbhfjdlhhjeknaaJnK5
import Derived.Test.YtbhfjdlhhjeknaaJnK6
namespace Go.Proofs.Ytbhfjdlhhjeknaa.Ab
set_option linter.unusedVariables false
set_option linter.unusedSimpArgs false
open Go
theorem jRow_all {a b i : Nat} (ha : a ≤ 6) (hb : b ≤ 6) (hi : i ≤ a) : jRow a b i = true := by
  have : a = 0 ∨ a = 1 ∨ a = 2 ∨ a = 3 ∨ a = 4 ∨ a = 5 ∨ a = 6 := by omega
  rcases this with rfl | rfl | rfl | rfl | rfl | rfl | rfl
  · have : b = 0 ∨ b = 1 ∨ b = 2 ∨ b = 3 ∨ b = 4 ∨ b = 5 ∨ b = 6 := by omega
    rcases this with rfl | rfl | rfl | rfl | rfl | rfl | rfl
    · obtain rfl : i = 0 := by omega
      exact jr_0_0_0
    · obtain rfl : i = 0 := by omega
      exact jr_0_1_0
    · obtain rfl : i = 0 := by omega
      exact jr_0_2_0
    · obtain rfl : i = 0 := by omega
      exact jr_0_3_0
    · obtain rfl : i = 0 := by omega
      exact jr_0_4_0
    · obtain rfl : i = 0 := by omega
      exact jr_0_5_0
    · obtain rfl : i = 0 := by omega
      exact jr_0_6_0
  · have : b = 0 ∨ b = 1 ∨ b = 2 ∨ b = 3 ∨ b = 4 ∨ b = 5 ∨ b = 6 := by omega
    rcases this with rfl | rfl | rfl | rfl | rfl | rfl | rfl
    · have : i = 0 ∨ i = 1 := by omega
      rcases this with rfl | rfl
      · exact jr_1_0_0
      · exact jr_1_0_1
    · have : i = 0 ∨ i = 1 := by omega
      rcases this with rfl | rfl
      · exact jr_1_1_0
      · exact jr_1_1_1
    · have : i = 0 ∨ i = 1 := by omega
      rcases this with rfl | rfl
      · exact jr_1_2_0
      · exact jr_1_2_1
    · have : i = 0 ∨ i = 1 := by omega
      rcases this with rfl | rfl
      · exact jr_1_3_0
      · exact jr_1_3_1
    · have : i = 0 ∨ i = 1 := by omega
      rcases this with rfl | rfl
      · exact jr_1_4_0
      · exact jr_1_4_1
    · have : i = 0 ∨ i = 1 := by omega
      rcases this with rfl | rfl
      · exact jr_1_5_0
      · exact jr_1_5_1
    · have : i = 0 ∨ i = 1 := by omega
      rcases this with rfl | rfl
      · exact jr_1_6_0
      · exact jr_1_6_1
  · have : b = 0 ∨ b = 1 ∨ b = 2 ∨ b = 3 ∨ b = 4 ∨ b = 5 ∨ b = 6 := by omega
    rcases this with rfl | rfl | rfl | rfl | rfl | rfl | rfl
    · have : i = 0 ∨ i = 1 ∨ i = 2 := by omega
      rcases this with rfl | rfl | rfl
      · exact jr_2_0_0
      · exact jr_2_0_1
      · exact jr_2_0_2
    · have : i = 0 ∨ i = 1 ∨ i = 2 := by omega
      rcases this with rfl | rfl | rfl
      · exact jr_2_1_0
      · exact jr_2_1_1
      · exact jr_2_1_2
    · have : i = 0 ∨ i = 1 ∨ i = 2 := by omega
      rcases this with rfl | rfl | rfl
      · exact jr_2_2_0
      · exact jr_2_2_1
      · exact jr_2_2_2
    · have : i = 0 ∨ i = 1 ∨ i = 2 := by omega
      rcases this with rfl | rfl | rfl
      · exact jr_2_3_0
      · exact jr_2_3_1
      · exact jr_2_3_2
    · have : i = 0 ∨ i = 1 ∨ i = 2 := by omega
      rcases this with rfl | rfl | rfl
      · exact jr_2_4_0
      · exact jr_2_4_1
      · exact jr_2_4_2
    · have : i = 0 ∨ i = 1 ∨ i = 2 := by omega
      rcases this with rfl | rfl | rfl
      · exact jr_2_5_0
      · exact jr_2_5_1
      · exact jr_2_5_2
    · have : i = 0 ∨ i = 1 ∨ i = 2 := by omega
      rcases this with rfl | rfl | rfl
      · exact jr_2_6_0
      · exact jr_2_6_1
      · exact jr_2_6_2
  · have : b = 0 ∨ b = 1 ∨ b = 2 ∨ b = 3 ∨ b = 4 ∨ b = 5 ∨ b = 6 := by omega
    rcases this with rfl | rfl | rfl | rfl | rfl | rfl | rfl
    · have : i = 0 ∨ i = 1 ∨ i = 2 ∨ i = 3 := by omega
      rcases this with rfl | rfl | rfl | rfl
      · exact jr_3_0_0
      · exact jr_3_0_1
      · exact jr_3_0_2
      · exact jr_3_0_3
    · have : i = 0 ∨ i = 1 ∨ i = 2 ∨ i = 3 := by omega
      rcases this with rfl | rfl | rfl | rfl
      · exact jr_3_1_0
      · exact jr_3_1_1
      · exact jr_3_1_2
      · exact jr_3_1_3
    · have : i = 0 ∨ i = 1 ∨ i = 2 ∨ i = 3 := by omega
      rcases this with rfl | rfl | rfl | rfl
      · exact jr_3_2_0
      · exact jr_3_2_1
      · exact jr_3_2_2
      · exact jr_3_2_3
    · have : i = 0 ∨ i = 1 ∨ i = 2 ∨ i = 3 := by omega
      rcases this with rfl | rfl | rfl | rfl
      · exact jr_3_3_0
      · exact jr_3_3_1
      · exact jr_3_3_2
      · exact jr_3_3_3
    · have : i = 0 ∨ i = 1 ∨ i = 2 ∨ i = 3 := by omega
      rcases this with rfl | rfl | rfl | rfl
      · exact jr_3_4_0
      · exact jr_3_4_1
      · exact jr_3_4_2
      · exact jr_3_4_3
    · have : i = 0 ∨ i = 1 ∨ i = 2 ∨ i = 3 := by omega
      rcases this with rfl | rfl | rfl | rfl
      · exact jr_3_5_0
      · exact jr_3_5_1
      · exact jr_3_5_2
      · exact jr_3_5_3
    · have : i = 0 ∨ i = 1 ∨ i = 2 ∨ i = 3 := by omega
      rcases this with rfl | rfl | rfl | rfl
      · exact jr_3_6_0
      · exact jr_3_6_1
      · exact jr_3_6_2
      · exact jr_3_6_3
  · have : b = 0 ∨ b = 1 ∨ b = 2 ∨ b = 3 ∨ b = 4 ∨ b = 5 ∨ b = 6 := by omega
    rcases this with rfl | rfl | rfl | rfl | rfl | rfl | rfl
    · have : i = 0 ∨ i = 1 ∨ i = 2 ∨ i = 3 ∨ i = 4 := by omega
      rcases this with rfl | rfl | rfl | rfl | rfl
      · exact jr_4_0_0
      · exact jr_4_0_1
      · exact jr_4_0_2
      · exact jr_4_0_3
      · exact jr_4_0_4
    · have : i = 0 ∨ i = 1 ∨ i = 2 ∨ i = 3 ∨ i = 4 := by omega
      rcases this with rfl | rfl | rfl | rfl | rfl
      · exact jr_4_1_0
      · exact jr_4_1_1
      · exact jr_4_1_2
      · exact jr_4_1_3
      · exact jr_4_1_4
    · have : i = 0 ∨ i = 1 ∨ i = 2 ∨ i = 3 ∨ i = 4 := by omega
      rcases this with rfl | rfl | rfl | rfl | rfl
      · exact jr_4_2_0
      · exact jr_4_2_1
      · exact jr_4_2_2
      · exact jr_4_2_3
      · exact jr_4_2_4
    · have : i = 0 ∨ i = 1 ∨ i = 2 ∨ i = 3 ∨ i = 4 := by omega
      rcases this with rfl | rfl | rfl | rfl | rfl
      · exact jr_4_3_0
      · exact jr_4_3_1
      · exact jr_4_3_2
      · exact jr_4_3_3
      · exact jr_4_3_4
    · have : i = 0 ∨ i = 1 ∨ i = 2 ∨ i = 3 ∨ i = 4 := by omega
      rcases this with rfl | rfl | rfl | rfl | rfl
      · exact jr_4_4_0
      · exact jr_4_4_1
      · exact jr_4_4_2
      · exact jr_4_4_3
      · exact jr_4_4_4
    · have : i = 0 ∨ i = 1 ∨ i = 2 ∨ i = 3 ∨ i = 4 := by omega
      rcases this with rfl | rfl | rfl | rfl | rfl
      · exact jr_4_5_0
      · exact jr_4_5_1
      · exact jr_4_5_2
      · exact jr_4_5_3
      · exact jr_4_5_4
    · have : i = 0 ∨ i = 1 ∨ i = 2 ∨ i = 3 ∨ i = 4 := by omega
      rcases this with rfl | rfl | rfl | rfl | rfl
      · exact jr_4_6_0
      · exact jr_4_6_1
      · exact jr_4_6_2
      · exact jr_4_6_3
      · exact jr_4_6_4
  · have : b = 0 ∨ b = 1 ∨ b = 2 ∨ b = 3 ∨ b = 4 ∨ b = 5 ∨ b = 6 := by omega
    rcases this with rfl | rfl | rfl | rfl | rfl | rfl | rfl
    · have : i = 0 ∨ i = 1 ∨ i = 2 ∨ i = 3 ∨ i = 4 ∨ i = 5 := by omega
      rcases this with rfl | rfl | rfl | rfl | rfl | rfl
      · exact jr_5_0_0
      · exact jr_5_0_1
      · exact jr_5_0_2
      · exact jr_5_0_3
      · exact jr_5_0_4
      · exact jr_5_0_5
    · have : i = 0 ∨ i = 1 ∨ i = 2 ∨ i = 3 ∨ i = 4 ∨ i = 5 := by omega
      rcases this with rfl | rfl | rfl | rfl | rfl | rfl
      · exact jr_5_1_0
      · exact jr_5_1_1
      · exact jr_5_1_2
      · exact jr_5_1_3
      · exact jr_5_1_4
      · exact jr_5_1_5
    · have : i = 0 ∨ i = 1 ∨ i = 2 ∨ i = 3 ∨ i = 4 ∨ i = 5 := by omega
      rcases this with rfl | rfl | rfl | rfl | rfl | rfl
      · exact jr_5_2_0
      · exact jr_5_2_1
      · exact jr_5_2_2
      · exact jr_5_2_3
      · exact jr_5_2_4
      · exact jr_5_2_5
    · have : i = 0 ∨ i = 1 ∨ i = 2 ∨ i = 3 ∨ i = 4 ∨ i = 5 := by omega
      rcases this with rfl | rfl | rfl | rfl | rfl | rfl
      · exact jr_5_3_0
      · exact jr_5_3_1
      · exact jr_5_3_2
      · exact jr_5_3_3
      · exact jr_5_3_4
      · exact jr_5_3_5
    · have : i = 0 ∨ i = 1 ∨ i = 2 ∨ i = 3 ∨ i = 4 ∨ i = 5 := by omega
      rcases this with rfl | rfl | rfl | rfl | rfl | rfl
      · exact jr_5_4_0
      · exact jr_5_4_1
      · exact jr_5_4_2
      · exact jr_5_4_3
      · exact jr_5_4_4
      · exact jr_5_4_5
    · have : i = 0 ∨ i = 1 ∨ i = 2 ∨ i = 3 ∨ i = 4 ∨ i = 5 := by omega
      rcases this with rfl | rfl | rfl | rfl | rfl | rfl
      · exact jr_5_5_0
      · exact jr_5_5_1
      · exact jr_5_5_2
      · exact jr_5_5_3
      · exact jr_5_5_4
      · exact jr_5_5_5
    · have : i = 0 ∨ i = 1 ∨ i = 2 ∨ i = 3 ∨ i = 4 ∨ i = 5 := by omega
      rcases this with rfl | rfl | rfl | rfl | rfl | rfl
      · exact jr_5_6_0
      · exact jr_5_6_1
      · exact jr_5_6_2
      · exact jr_5_6_3
      · exact jr_5_6_4
      · exact jr_5_6_5
  · have : b = 0 ∨ b = 1 ∨ b = 2 ∨ b = 3 ∨ b = 4 ∨ b = 5 ∨ b = 6 := by omega
    rcases this with rfl | rfl | rfl | rfl | rfl | rfl | rfl
    · have : i = 0 ∨ i = 1 ∨ i = 2 ∨ i = 3 ∨ i = 4 ∨ i = 5 ∨ i = 6 := by omega
      rcases this with rfl | rfl | rfl | rfl | rfl | rfl | rfl
      · exact jr_6_0_0
      · exact jr_6_0_1
      · exact jr_6_0_2
      · exact jr_6_0_3
      · exact jr_6_0_4
      · exact jr_6_0_5
      · exact jr_6_0_6
    · have : i = 0 ∨ i = 1 ∨ i = 2 ∨ i = 3 ∨ i = 4 ∨ i = 5 ∨ i = 6 := by omega
      rcases this with rfl | rfl | rfl | rfl | rfl | rfl | rfl
      · exact jr_6_1_0
      · exact jr_6_1_1
      · exact jr_6_1_2
      · exact jr_6_1_3
      · exact jr_6_1_4
      · exact jr_6_1_5
      · exact jr_6_1_6
    · have : i = 0 ∨ i = 1 ∨ i = 2 ∨ i = 3 ∨ i = 4 ∨ i = 5 ∨ i = 6 := by omega
      rcases this with rfl | rfl | rfl | rfl | rfl | rfl | rfl
      · exact jr_6_2_0
      · exact jr_6_2_1
      · exact jr_6_2_2
      · exact jr_6_2_3
      · exact jr_6_2_4
      · exact jr_6_2_5
      · exact jr_6_2_6
    · have : i = 0 ∨ i = 1 ∨ i = 2 ∨ i = 3 ∨ i = 4 ∨ i = 5 ∨ i = 6 := by omega
      rcases this with rfl | rfl | rfl | rfl | rfl | rfl | rfl
      · exact jr_6_3_0
      · exact jr_6_3_1
      · exact jr_6_3_2
      · exact jr_6_3_3
      · exact jr_6_3_4
      · exact jr_6_3_5
      · exact jr_6_3_6
    · have : i = 0 ∨ i = 1 ∨ i = 2 ∨ i = 3 ∨ i = 4 ∨ i = 5 ∨ i = 6 := by omega
      rcases this with rfl | rfl | rfl | rfl | rfl | rfl | rfl
      · exact jr_6_4_0
      · exact jr_6_4_1
      · exact jr_6_4_2
      · exact jr_6_4_3
      · exact jr_6_4_4
      · exact jr_6_4_5
      · exact jr_6_4_6
    · have : i = 0 ∨ i = 1 ∨ i = 2 ∨ i = 3 ∨ i = 4 ∨ i = 5 ∨ i = 6 := by omega
      rcases this with rfl | rfl | rfl | rfl | rfl | rfl | rfl
      · exact jr_6_5_0
      · exact jr_6_5_1
      · exact jr_6_5_2
      · exact jr_6_5_3
      · exact jr_6_5_4
      · exact jr_6_5_5
      · exact jr_6_5_6
    · have : i = 0 ∨ i = 1 ∨ i = 2 ∨ i = 3 ∨ i = 4 ∨ i = 5 ∨ i = 6 := by omega
      rcases this with rfl | rfl | rfl | rfl | rfl | rfl | rfl
      · exact jr_6_6_0
      · exact jr_6_6_1
      · exact jr_6_6_2
      · exact jr_6_6_3
      · exact jr_6_6_4
      · exact jr_6_6_5
      · exact jr_6_6_6
def canJ (a x b y c : Int) : Bool := decide (0 ≤ a ∧ a ≤ 6 ∧ -a ≤ x ∧ x ≤ a ∧ (a - x) % 2 = 0 ∧ 0 ≤ b ∧ b ≤ 6 ∧ -b ≤ y ∧ y ≤ b ∧ (b - y) % 2 = 0 ∧ a - b ≤ c ∧ b - a ≤ c ∧ c ≤ a + b ∧ (a + b - c) % 2 = 0 ∧ -c ≤ x + y ∧ x + y ≤ c)
theorem jBoth {a x b y c : Int} (h : canJ a x b y c = true) : oJ (md_js 20 a x b y c) = some ((jV a x b y c).1, (jV a x b y c).2.1, (jV a x b y c).2.2) ∧ o3 (md_jn 60 a x b y c) = some ((jV a x b y c).1, (jV a x b y c).2.1, (jV a x b y c).2.2) := by
  obtain ⟨h1, h2, h3, h4, h5, h6, h7, h8, h9, h10, h11, h12, h13, h14, h15, h16⟩ := of_decide_eq_true h
  obtain ⟨A, rfl⟩ : ∃ A : Nat, a = (A : Int) := ⟨a.toNat, by omega⟩
  obtain ⟨B, rfl⟩ : ∃ B : Nat, b = (B : Int) := ⟨b.toNat, by omega⟩
  obtain ⟨i, hi⟩ : ∃ i : Nat, ((A : Int) - x) / 2 = (i : Int) := ⟨(((A : Int) - x) / 2).toNat, by omega⟩
  obtain ⟨j, hj⟩ : ∃ j : Nat, ((B : Int) - y) / 2 = (j : Int) := ⟨(((B : Int) - y) / 2).toNat, by omega⟩
  obtain ⟨m, hm⟩ : ∃ m : Nat, ((A : Int) + (B : Int) - c) / 2 = (m : Int) := ⟨(((A : Int) + (B : Int) - c) / 2).toNat, by omega⟩
  have hx : x = (A : Int) - 2 * (i : Int) := by omega
  have hy : y = (B : Int) - 2 * (j : Int) := by omega
  have hc : c = (A : Int) + (B : Int) - 2 * (m : Int) := by omega
  have hr := jRow_all (a := A) (b := B) (i := i) (by omega) (by omega) (by omega)
  have hr2 := List.all_eq_true.mp hr j (List.mem_range.mpr (by omega))
  have hr3 := List.all_eq_true.mp hr2 m (List.mem_range.mpr (by omega))
  unfold jCk at hr3
  rw [decide_eq_true (show m ≤ i + j by omega), decide_eq_true (show i + j + m ≤ A + B by omega)] at hr3
  have hr4 := (Bool.and_eq_true _ _).mp hr3
  rw [← hx, ← hy, ← hc] at hr4
  unfold jV
  rw [hi, hj, hm]
  exact ⟨jE_eq hr4.1, jE_eq hr4.2⟩
def gJs : GT := fun vs h => match vs, h with | [.int .i64 a, .int .i64 x, .int .i64 b, .int .i64 y, .int .i64 c], [] => .ite (canJ a x b y c) (.ret (.tup [.a (.int .i64 (jV a x b y c).1), .a (.int .i64 (jV a x b y c).2.1), .a (.int .i64 (jV a x b y c).2.2), .a (.bool true)]) []) .no | _, _ => .no
def gJn : GT := fun vs h => match vs, h with | [.int .i64 a, .int .i64 x, .int .i64 b, .int .i64 y, .int .i64 c], [] => .ite (canJ a x b y c) (.ret (.tup [.a (.int .i64 (jV a x b y c).1), .a (.int .i64 (jV a x b y c).2.1), .a (.int .i64 (jV a x b y c).2.2)]) []) .no | _, _ => .no
theorem ok_js : FnT Try.prog 95 gJs := by
  refine fnT tabok_js Try.func95 rfl rfl an_js fun vs h v h' e => ⟨20, ?_⟩
  unfold gJs at e
  split at e
  case h_2 => exact (T.no_inv e).elim
  rename_i a x b y c
  obtain ⟨hd, e⟩ := T.pre_inv e
  obtain ⟨rfl, rfl⟩ := T.ret_inv e
  exact Eq.trans (mdl_js 20 a x b y c) (oJ_inv (jBoth hd).1)
theorem ok_jn : FnT Try.prog 91 gJn := by
  refine fnT tabok_jn Try.func91 rfl rfl an_jn fun vs h v h' e => ⟨60, ?_⟩
  unfold gJn at e
  split at e
  case h_2 => exact (T.no_inv e).elim
  rename_i a x b y c
  obtain ⟨hd, e⟩ := T.pre_inv e
  obtain ⟨rfl, rfl⟩ := T.ret_inv e
  exact Eq.trans (mdl_jn 60 a x b y c) (o3_inv (jBoth hd).2)
end Go.Proofs.Ytbhfjdlhhjeknaa.Ab
