/- FnRules. Only lemmas. Printed by gen_rules.py. -/
import Derived.Test.YtbhfjdlhhjeknaaRuX1
namespace Go.Proofs.Ytbhfjdlhhjeknaa.Ab
set_option linter.unusedVariables false
set_option linter.unusedSimpArgs false
open Go
theorem rb2_3_5_0 (hh : H) : rB2 3 5 0 hh = some (.bool true, hh) := by kernel_rfl
theorem rb2_3_5_1 (hh : H) : rB2 3 5 1 hh = some (.bool true, hh) := by kernel_rfl
theorem rb2_3_5_2 (hh : H) : rB2 3 5 2 hh = some (.bool true, hh) := by kernel_rfl
theorem rb2_3_5_3 (hh : H) : rB2 3 5 3 hh = some (.bool true, hh) := by kernel_rfl
theorem rb2_3_5_4 (hh : H) : rB2 3 5 4 hh = some (.bool true, hh) := by kernel_rfl
theorem rb2_3_5_5 (hh : H) : rB2 3 5 5 hh = some (.bool true, hh) := by kernel_rfl
theorem rb2_3_6_0 (hh : H) : rB2 3 6 0 hh = some (.bool true, hh) := by kernel_rfl
theorem rb2_3_6_1 (hh : H) : rB2 3 6 1 hh = some (.bool true, hh) := by kernel_rfl
theorem rb2_3_6_2 (hh : H) : rB2 3 6 2 hh = some (.bool true, hh) := by kernel_rfl
theorem rb2_3_6_3 (hh : H) : rB2 3 6 3 hh = some (.bool true, hh) := by kernel_rfl
theorem rb2_3_6_4 (hh : H) : rB2 3 6 4 hh = some (.bool true, hh) := by kernel_rfl
theorem rb2_3_6_5 (hh : H) : rB2 3 6 5 hh = some (.bool true, hh) := by kernel_rfl
theorem rb2_3_6_6 (hh : H) : rB2 3 6 6 hh = some (.bool true, hh) := by kernel_rfl
theorem c1 {x : Int} (h : 0 ≤ x ∧ x < 1) : x = 0 := by omega
theorem c2 {x : Int} (h : 0 ≤ x ∧ x < 2) : x = 0 ∨ x = 1 := by omega
theorem c3 {x : Int} (h : 0 ≤ x ∧ x < 3) : x = 0 ∨ x = 1 ∨ x = 2 := by omega
theorem c4 {x : Int} (h : 0 ≤ x ∧ x < 4) : x = 0 ∨ x = 1 ∨ x = 2 ∨ x = 3 := by omega
theorem c5 {x : Int} (h : 0 ≤ x ∧ x < 5) : x = 0 ∨ x = 1 ∨ x = 2 ∨ x = 3 ∨ x = 4 := by omega
theorem c6 {x : Int} (h : 0 ≤ x ∧ x < 6) : x = 0 ∨ x = 1 ∨ x = 2 ∨ x = 3 ∨ x = 4 ∨ x = 5 := by omega
theorem c7 {x : Int} (h : 0 ≤ x ∧ x < 7) : x = 0 ∨ x = 1 ∨ x = 2 ∨ x = 3 ∨ x = 4 ∨ x = 5 ∨ x = 6 := by omega
theorem rules1 {w2 w3 : Int} (hh : H) (k : Option (V × H)) (h2 : 0 ≤ w2 ∧ w2 < 7) (h3 : 0 ≤ w3 ∧ w3 < (IntKind.i64.wrap (w2 + 1))) : rB1 w2 w3 hh k = k := by
  rcases c7 h2 with rfl | rfl | rfl | rfl | rfl | rfl | rfl
  · rw [show (IntKind.i64.wrap ((0 : Int) + 1)) = 1 by kernel_rfl] at h3
    obtain rfl := c1 h3
    exact rb1_0_0 hh k
  · rw [show (IntKind.i64.wrap ((1 : Int) + 1)) = 2 by kernel_rfl] at h3
    rcases c2 h3 with rfl | rfl
    · exact rb1_1_0 hh k
    · exact rb1_1_1 hh k
  · rw [show (IntKind.i64.wrap ((2 : Int) + 1)) = 3 by kernel_rfl] at h3
    rcases c3 h3 with rfl | rfl | rfl
    · exact rb1_2_0 hh k
    · exact rb1_2_1 hh k
    · exact rb1_2_2 hh k
  · rw [show (IntKind.i64.wrap ((3 : Int) + 1)) = 4 by kernel_rfl] at h3
    rcases c4 h3 with rfl | rfl | rfl | rfl
    · exact rb1_3_0 hh k
    · exact rb1_3_1 hh k
    · exact rb1_3_2 hh k
    · exact rb1_3_3 hh k
  · rw [show (IntKind.i64.wrap ((4 : Int) + 1)) = 5 by kernel_rfl] at h3
    rcases c5 h3 with rfl | rfl | rfl | rfl | rfl
    · exact rb1_4_0 hh k
    · exact rb1_4_1 hh k
    · exact rb1_4_2 hh k
    · exact rb1_4_3 hh k
    · exact rb1_4_4 hh k
  · rw [show (IntKind.i64.wrap ((5 : Int) + 1)) = 6 by kernel_rfl] at h3
    rcases c6 h3 with rfl | rfl | rfl | rfl | rfl | rfl
    · exact rb1_5_0 hh k
    · exact rb1_5_1 hh k
    · exact rb1_5_2 hh k
    · exact rb1_5_3 hh k
    · exact rb1_5_4 hh k
    · exact rb1_5_5 hh k
  · rw [show (IntKind.i64.wrap ((6 : Int) + 1)) = 7 by kernel_rfl] at h3
    rcases c7 h3 with rfl | rfl | rfl | rfl | rfl | rfl | rfl
    · exact rb1_6_0 hh k
    · exact rb1_6_1 hh k
    · exact rb1_6_2 hh k
    · exact rb1_6_3 hh k
    · exact rb1_6_4 hh k
    · exact rb1_6_5 hh k
    · exact rb1_6_6 hh k
theorem rules2 {w2 w3 w4 : Int} (hh : H) (h2 : 0 ≤ w2 ∧ w2 < 4) (h3 : 0 ≤ w3 ∧ w3 < 7) (h4 : 0 ≤ w4 ∧ w4 < (IntKind.i64.wrap ((if w3 < (IntKind.i64.wrap (2 * w2)) then w3 else IntKind.i64.wrap (2 * w2)) + 1))) : rB2 w2 w3 w4 hh = some (.bool true, hh) := by
  rcases c4 h2 with rfl | rfl | rfl | rfl
  · rcases c7 h3 with rfl | rfl | rfl | rfl | rfl | rfl | rfl
    · rw [show (IntKind.i64.wrap ((if (0 : Int) < (IntKind.i64.wrap (2 * (0 : Int))) then (0 : Int) else IntKind.i64.wrap (2 * (0 : Int))) + 1)) = 1 by kernel_rfl] at h4
      obtain rfl := c1 h4
      exact rb2_0_0_0 hh
    · rw [show (IntKind.i64.wrap ((if (1 : Int) < (IntKind.i64.wrap (2 * (0 : Int))) then (1 : Int) else IntKind.i64.wrap (2 * (0 : Int))) + 1)) = 1 by kernel_rfl] at h4
      obtain rfl := c1 h4
      exact rb2_0_1_0 hh
    · rw [show (IntKind.i64.wrap ((if (2 : Int) < (IntKind.i64.wrap (2 * (0 : Int))) then (2 : Int) else IntKind.i64.wrap (2 * (0 : Int))) + 1)) = 1 by kernel_rfl] at h4
      obtain rfl := c1 h4
      exact rb2_0_2_0 hh
    · rw [show (IntKind.i64.wrap ((if (3 : Int) < (IntKind.i64.wrap (2 * (0 : Int))) then (3 : Int) else IntKind.i64.wrap (2 * (0 : Int))) + 1)) = 1 by kernel_rfl] at h4
      obtain rfl := c1 h4
      exact rb2_0_3_0 hh
    · rw [show (IntKind.i64.wrap ((if (4 : Int) < (IntKind.i64.wrap (2 * (0 : Int))) then (4 : Int) else IntKind.i64.wrap (2 * (0 : Int))) + 1)) = 1 by kernel_rfl] at h4
      obtain rfl := c1 h4
      exact rb2_0_4_0 hh
    · rw [show (IntKind.i64.wrap ((if (5 : Int) < (IntKind.i64.wrap (2 * (0 : Int))) then (5 : Int) else IntKind.i64.wrap (2 * (0 : Int))) + 1)) = 1 by kernel_rfl] at h4
      obtain rfl := c1 h4
      exact rb2_0_5_0 hh
    · rw [show (IntKind.i64.wrap ((if (6 : Int) < (IntKind.i64.wrap (2 * (0 : Int))) then (6 : Int) else IntKind.i64.wrap (2 * (0 : Int))) + 1)) = 1 by kernel_rfl] at h4
      obtain rfl := c1 h4
      exact rb2_0_6_0 hh
  · rcases c7 h3 with rfl | rfl | rfl | rfl | rfl | rfl | rfl
    · rw [show (IntKind.i64.wrap ((if (0 : Int) < (IntKind.i64.wrap (2 * (1 : Int))) then (0 : Int) else IntKind.i64.wrap (2 * (1 : Int))) + 1)) = 1 by kernel_rfl] at h4
      obtain rfl := c1 h4
      exact rb2_1_0_0 hh
    · rw [show (IntKind.i64.wrap ((if (1 : Int) < (IntKind.i64.wrap (2 * (1 : Int))) then (1 : Int) else IntKind.i64.wrap (2 * (1 : Int))) + 1)) = 2 by kernel_rfl] at h4
      rcases c2 h4 with rfl | rfl
      · exact rb2_1_1_0 hh
      · exact rb2_1_1_1 hh
    · rw [show (IntKind.i64.wrap ((if (2 : Int) < (IntKind.i64.wrap (2 * (1 : Int))) then (2 : Int) else IntKind.i64.wrap (2 * (1 : Int))) + 1)) = 3 by kernel_rfl] at h4
      rcases c3 h4 with rfl | rfl | rfl
      · exact rb2_1_2_0 hh
      · exact rb2_1_2_1 hh
      · exact rb2_1_2_2 hh
    · rw [show (IntKind.i64.wrap ((if (3 : Int) < (IntKind.i64.wrap (2 * (1 : Int))) then (3 : Int) else IntKind.i64.wrap (2 * (1 : Int))) + 1)) = 3 by kernel_rfl] at h4
      rcases c3 h4 with rfl | rfl | rfl
      · exact rb2_1_3_0 hh
      · exact rb2_1_3_1 hh
      · exact rb2_1_3_2 hh
    · rw [show (IntKind.i64.wrap ((if (4 : Int) < (IntKind.i64.wrap (2 * (1 : Int))) then (4 : Int) else IntKind.i64.wrap (2 * (1 : Int))) + 1)) = 3 by kernel_rfl] at h4
      rcases c3 h4 with rfl | rfl | rfl
      · exact rb2_1_4_0 hh
      · exact rb2_1_4_1 hh
      · exact rb2_1_4_2 hh
    · rw [show (IntKind.i64.wrap ((if (5 : Int) < (IntKind.i64.wrap (2 * (1 : Int))) then (5 : Int) else IntKind.i64.wrap (2 * (1 : Int))) + 1)) = 3 by kernel_rfl] at h4
      rcases c3 h4 with rfl | rfl | rfl
      · exact rb2_1_5_0 hh
      · exact rb2_1_5_1 hh
      · exact rb2_1_5_2 hh
    · rw [show (IntKind.i64.wrap ((if (6 : Int) < (IntKind.i64.wrap (2 * (1 : Int))) then (6 : Int) else IntKind.i64.wrap (2 * (1 : Int))) + 1)) = 3 by kernel_rfl] at h4
      rcases c3 h4 with rfl | rfl | rfl
      · exact rb2_1_6_0 hh
      · exact rb2_1_6_1 hh
      · exact rb2_1_6_2 hh
  · rcases c7 h3 with rfl | rfl | rfl | rfl | rfl | rfl | rfl
    · rw [show (IntKind.i64.wrap ((if (0 : Int) < (IntKind.i64.wrap (2 * (2 : Int))) then (0 : Int) else IntKind.i64.wrap (2 * (2 : Int))) + 1)) = 1 by kernel_rfl] at h4
      obtain rfl := c1 h4
      exact rb2_2_0_0 hh
    · rw [show (IntKind.i64.wrap ((if (1 : Int) < (IntKind.i64.wrap (2 * (2 : Int))) then (1 : Int) else IntKind.i64.wrap (2 * (2 : Int))) + 1)) = 2 by kernel_rfl] at h4
      rcases c2 h4 with rfl | rfl
      · exact rb2_2_1_0 hh
      · exact rb2_2_1_1 hh
    · rw [show (IntKind.i64.wrap ((if (2 : Int) < (IntKind.i64.wrap (2 * (2 : Int))) then (2 : Int) else IntKind.i64.wrap (2 * (2 : Int))) + 1)) = 3 by kernel_rfl] at h4
      rcases c3 h4 with rfl | rfl | rfl
      · exact rb2_2_2_0 hh
      · exact rb2_2_2_1 hh
      · exact rb2_2_2_2 hh
    · rw [show (IntKind.i64.wrap ((if (3 : Int) < (IntKind.i64.wrap (2 * (2 : Int))) then (3 : Int) else IntKind.i64.wrap (2 * (2 : Int))) + 1)) = 4 by kernel_rfl] at h4
      rcases c4 h4 with rfl | rfl | rfl | rfl
      · exact rb2_2_3_0 hh
      · exact rb2_2_3_1 hh
      · exact rb2_2_3_2 hh
      · exact rb2_2_3_3 hh
    · rw [show (IntKind.i64.wrap ((if (4 : Int) < (IntKind.i64.wrap (2 * (2 : Int))) then (4 : Int) else IntKind.i64.wrap (2 * (2 : Int))) + 1)) = 5 by kernel_rfl] at h4
      rcases c5 h4 with rfl | rfl | rfl | rfl | rfl
      · exact rb2_2_4_0 hh
      · exact rb2_2_4_1 hh
      · exact rb2_2_4_2 hh
      · exact rb2_2_4_3 hh
      · exact rb2_2_4_4 hh
    · rw [show (IntKind.i64.wrap ((if (5 : Int) < (IntKind.i64.wrap (2 * (2 : Int))) then (5 : Int) else IntKind.i64.wrap (2 * (2 : Int))) + 1)) = 5 by kernel_rfl] at h4
      rcases c5 h4 with rfl | rfl | rfl | rfl | rfl
      · exact rb2_2_5_0 hh
      · exact rb2_2_5_1 hh
      · exact rb2_2_5_2 hh
      · exact rb2_2_5_3 hh
      · exact rb2_2_5_4 hh
    · rw [show (IntKind.i64.wrap ((if (6 : Int) < (IntKind.i64.wrap (2 * (2 : Int))) then (6 : Int) else IntKind.i64.wrap (2 * (2 : Int))) + 1)) = 5 by kernel_rfl] at h4
      rcases c5 h4 with rfl | rfl | rfl | rfl | rfl
      · exact rb2_2_6_0 hh
      · exact rb2_2_6_1 hh
      · exact rb2_2_6_2 hh
      · exact rb2_2_6_3 hh
      · exact rb2_2_6_4 hh
  · rcases c7 h3 with rfl | rfl | rfl | rfl | rfl | rfl | rfl
    · rw [show (IntKind.i64.wrap ((if (0 : Int) < (IntKind.i64.wrap (2 * (3 : Int))) then (0 : Int) else IntKind.i64.wrap (2 * (3 : Int))) + 1)) = 1 by kernel_rfl] at h4
      obtain rfl := c1 h4
      exact rb2_3_0_0 hh
    · rw [show (IntKind.i64.wrap ((if (1 : Int) < (IntKind.i64.wrap (2 * (3 : Int))) then (1 : Int) else IntKind.i64.wrap (2 * (3 : Int))) + 1)) = 2 by kernel_rfl] at h4
      rcases c2 h4 with rfl | rfl
      · exact rb2_3_1_0 hh
      · exact rb2_3_1_1 hh
    · rw [show (IntKind.i64.wrap ((if (2 : Int) < (IntKind.i64.wrap (2 * (3 : Int))) then (2 : Int) else IntKind.i64.wrap (2 * (3 : Int))) + 1)) = 3 by kernel_rfl] at h4
      rcases c3 h4 with rfl | rfl | rfl
      · exact rb2_3_2_0 hh
      · exact rb2_3_2_1 hh
      · exact rb2_3_2_2 hh
    · rw [show (IntKind.i64.wrap ((if (3 : Int) < (IntKind.i64.wrap (2 * (3 : Int))) then (3 : Int) else IntKind.i64.wrap (2 * (3 : Int))) + 1)) = 4 by kernel_rfl] at h4
      rcases c4 h4 with rfl | rfl | rfl | rfl
      · exact rb2_3_3_0 hh
      · exact rb2_3_3_1 hh
      · exact rb2_3_3_2 hh
      · exact rb2_3_3_3 hh
    · rw [show (IntKind.i64.wrap ((if (4 : Int) < (IntKind.i64.wrap (2 * (3 : Int))) then (4 : Int) else IntKind.i64.wrap (2 * (3 : Int))) + 1)) = 5 by kernel_rfl] at h4
      rcases c5 h4 with rfl | rfl | rfl | rfl | rfl
      · exact rb2_3_4_0 hh
      · exact rb2_3_4_1 hh
      · exact rb2_3_4_2 hh
      · exact rb2_3_4_3 hh
      · exact rb2_3_4_4 hh
    · rw [show (IntKind.i64.wrap ((if (5 : Int) < (IntKind.i64.wrap (2 * (3 : Int))) then (5 : Int) else IntKind.i64.wrap (2 * (3 : Int))) + 1)) = 6 by kernel_rfl] at h4
      rcases c6 h4 with rfl | rfl | rfl | rfl | rfl | rfl
      · exact rb2_3_5_0 hh
      · exact rb2_3_5_1 hh
      · exact rb2_3_5_2 hh
      · exact rb2_3_5_3 hh
      · exact rb2_3_5_4 hh
      · exact rb2_3_5_5 hh
    · rw [show (IntKind.i64.wrap ((if (6 : Int) < (IntKind.i64.wrap (2 * (3 : Int))) then (6 : Int) else IntKind.i64.wrap (2 * (3 : Int))) + 1)) = 7 by kernel_rfl] at h4
      rcases c7 h4 with rfl | rfl | rfl | rfl | rfl | rfl | rfl
      · exact rb2_3_6_0 hh
      · exact rb2_3_6_1 hh
      · exact rb2_3_6_2 hh
      · exact rb2_3_6_3 hh
      · exact rb2_3_6_4 hh
      · exact rb2_3_6_5 hh
      · exact rb2_3_6_6 hh
theorem H_rulA (n : Nat) (m : Nat) (l0 : List Int) (l1 : List Int) (hl : l1.length = m) (hb : bytesB l1 = true) : md_rulA 40 n m l0 l1 = some (.bool true, [.at false (.int .u8 l0), .at false (.int .u8 l1)]) := by
  unfold md_rulA
  cases hg : longB n m with
  | true => rfl
  | false =>
    unfold longB at hg
    simp only [Bool.or_eq_false_iff, decide_eq_false_iff_not] at hg
    have hb' : bytesB l1 = true := hb
    have hok : ∀ i : Int, 0 ≤ i → i < 1000 → atOk m l1 i = true := fun i h1 h2 => decide_eq_true ⟨hl, by omega, h1, h2⟩
    have hat : ∀ i k : Int, 0 ≤ i → i < 1000 → 1 ≤ k → 0 ≤ atF l1 i k ∧ atF l1 i k < k := fun i k h1 h2 h3 => atF_range hb' h1 h2 h3
    rw [hok 0 (by omega) (by omega), hok 1 (by omega) (by omega)]
    simp only [tr_rulA7]
    obtain ⟨w2, e0⟩ : ∃ w : Int, w = atF l1 0 7 := ⟨_, rfl⟩
    obtain ⟨w3, e1⟩ : ∃ w : Int, w = atF l1 1 (IntKind.i64.wrap (w2 + 1)) := ⟨_, rfl⟩
    have g0 : 0 ≤ w2 ∧ w2 < 7 := by rw [e0]; exact hat _ _ (by omega) (by omega) (by omega)
    have g1 : 0 ≤ w3 ∧ w3 < (IntKind.i64.wrap (w2 + 1)) := by rw [e1]; exact hat _ _ (by omega) (by omega) (by rw [wrap_n (by omega) (by omega)]; omega)
    refine Eq.trans (b := rB1 w2 w3 [.at false (.int .u8 l0), .at false (.int .u8 l1)] (match atOk m l1 2 with
  | true => (match nmO (α := Int) (atF l1 2 4) with | some w2 => (match atOk m l1 3 with | true => (match nmO (α := Int) (atF l1 3 7) with | some w3 => (match atOk m l1 4 with | true => (match nmO (α := Int) (atF l1 4 (IntKind.i64.wrap ((if w3 < (IntKind.i64.wrap (2 * w2)) then w3 else IntKind.i64.wrap (2 * w2)) + 1))) with | some w4 => (match Fc.fineS (IntKind.i64.wrap (2 * w2)) w3 (IntKind.i64.wrap ((IntKind.i64.wrap ((IntKind.i64.wrap (2 * w2)) + w3)) - (IntKind.i64.wrap (2 * w4)))) with | true => (match nmO (α := Int) (Fc.fcU (IntKind.i64.wrap (2 * w2)) w3 (IntKind.i64.wrap ((IntKind.i64.wrap ((IntKind.i64.wrap (2 * w2)) + w3)) - (IntKind.i64.wrap (2 * w4))))) with | some w5 => (match nmO (α := Int) (Fc.fcD (IntKind.i64.wrap (2 * w2)) w3 (IntKind.i64.wrap ((IntKind.i64.wrap ((IntKind.i64.wrap (2 * w2)) + w3)) - (IntKind.i64.wrap (2 * w4))))) with | some w6 => (match Fc.fineS (IntKind.i64.wrap (2 * w2)) w3 (IntKind.i64.wrap ((IntKind.i64.wrap ((IntKind.i64.wrap (2 * w2)) + w3)) - (IntKind.i64.wrap (2 * w4)))) with | true => (match nmO (α := Int) (Fc.fcU (IntKind.i64.wrap (2 * w2)) w3 (IntKind.i64.wrap ((IntKind.i64.wrap ((IntKind.i64.wrap (2 * w2)) + w3)) - (IntKind.i64.wrap (2 * w4))))) with | some w7 => (match nmO (α := Int) (Fc.fcD (IntKind.i64.wrap (2 * w2)) w3 (IntKind.i64.wrap ((IntKind.i64.wrap ((IntKind.i64.wrap (2 * w2)) + w3)) - (IntKind.i64.wrap (2 * w4))))) with | some w8 => (match !(true == (decide ((IntKind.i64.wrap ((IntKind.i64.wrap ((IntKind.i64.wrap (2 * w2)) + w3)) - (IntKind.i64.wrap (2 * w4))) : Int) > 0))) with | true => some (.bool false, [.at false (.int .u8 l0), .at false (.int .u8 l1)]) | false => (match Fc.ok_sl (IntKind.i64.wrap (2 * w2)) w3 (IntKind.i64.wrap ((IntKind.i64.wrap ((IntKind.i64.wrap (2 * w2)) + w3)) - (IntKind.i64.wrap (2 * w4)))) 1073741824 1056964608 with | true => (match nmO (α := Nat) (((IntKind.i64.wrap ((IntKind.i64.wrap ((IntKind.i64.wrap (2 * w2)) + w3)) - (IntKind.i64.wrap (2 * w4)))) + 1).toNat) with | some w9 => (match nmO (α := List Nat) (Fc.li_sl (IntKind.i64.wrap (2 * w2)) w3 (IntKind.i64.wrap ((IntKind.i64.wrap ((IntKind.i64.wrap (2 * w2)) + w3)) - (IntKind.i64.wrap (2 * w4)))) 1073741824 1056964608) with | some w10 => (match w5 != w7 with | true => some (.bool false, [.at false (.int .u8 l0), .at false (.int .u8 l1)]) | false => (match w6 != w8 with | true => some (.bool false, [.at false (.int .u8 l0), .at false (.int .u8 l1)]) | false => (match decide ((w6 : Int) < 1) with | true => some (.bool false, [.at false (.int .u8 l0), .at false (.int .u8 l1)]) | false => (match ((w9 : Nat) : Int) != (IntKind.i64.wrap ((IntKind.i64.wrap ((IntKind.i64.wrap ((IntKind.i64.wrap (2 * w2)) + w3)) - (IntKind.i64.wrap (2 * w4)))) + 1)) with | true => some (.bool false, [.at false (.int .u8 l0), .at false (.int .u8 l1)]) | false => (mr_rulA38 40 (ce_rulA38_0 40) (ce_rulA38_1 40) 40 (IntKind.i64.wrap ((IntKind.i64.wrap ((IntKind.i64.wrap (2 * w2)) + w3)) - (IntKind.i64.wrap (2 * w4)))) w5 w6 w9 ((w9 : Nat) : Int) 0 l0 l1 w10))))) | none => none) | none => none) | false => (match w5 != w7 with | true => some (.bool false, [.at false (.int .u8 l0), .at false (.int .u8 l1)]) | false => (match w6 != w8 with | true => some (.bool false, [.at false (.int .u8 l0), .at false (.int .u8 l1)]) | false => (match decide ((w6 : Int) < 1) with | true => some (.bool false, [.at false (.int .u8 l0), .at false (.int .u8 l1)]) | false => some (.bool false, [.at false (.int .u8 l0), .at false (.int .u8 l1)])))))) | none => none) | none => none) | false => some (.bool false, [.at false (.int .u8 l0), .at false (.int .u8 l1)])) | none => none) | none => none) | false => (match Fc.fineS (IntKind.i64.wrap (2 * w2)) w3 (IntKind.i64.wrap ((IntKind.i64.wrap ((IntKind.i64.wrap (2 * w2)) + w3)) - (IntKind.i64.wrap (2 * w4)))) with | true => (match nmO (α := Int) (Fc.fcU (IntKind.i64.wrap (2 * w2)) w3 (IntKind.i64.wrap ((IntKind.i64.wrap ((IntKind.i64.wrap (2 * w2)) + w3)) - (IntKind.i64.wrap (2 * w4))))) with | some w11 => (match nmO (α := Int) (Fc.fcD (IntKind.i64.wrap (2 * w2)) w3 (IntKind.i64.wrap ((IntKind.i64.wrap ((IntKind.i64.wrap (2 * w2)) + w3)) - (IntKind.i64.wrap (2 * w4))))) with | some w12 => some (.bool false, [.at false (.int .u8 l0), .at false (.int .u8 l1)]) | none => none) | none => none) | false => (match !(false == (decide ((IntKind.i64.wrap ((IntKind.i64.wrap ((IntKind.i64.wrap (2 * w2)) + w3)) - (IntKind.i64.wrap (2 * w4))) : Int) > 0))) with | true => some (.bool false, [.at false (.int .u8 l0), .at false (.int .u8 l1)]) | false => some (.bool true, [.at false (.int .u8 l0), .at false (.int .u8 l1)])))) | none => none) | false => none) | none => none) | false => none) | none => none)
  | false => none)) ?_ (Eq.trans (rules1 [.at false (.int .u8 l0), .at false (.int .u8 l1)] _ g0 g1) ?_)
    · rw [e1, e0]
      kernel_rfl
    · rw [hok 2 (by omega) (by omega), hok 3 (by omega) (by omega), hok 4 (by omega) (by omega)]
      simp only [tr_rulA38]
      obtain ⟨y0, f0⟩ : ∃ w : Int, w = atF l1 2 4 := ⟨_, rfl⟩
      obtain ⟨y1, f1⟩ : ∃ w : Int, w = atF l1 3 7 := ⟨_, rfl⟩
      obtain ⟨y2, f2⟩ : ∃ w : Int, w = atF l1 4 (IntKind.i64.wrap ((if y1 < (IntKind.i64.wrap (2 * y0)) then y1 else IntKind.i64.wrap (2 * y0)) + 1)) := ⟨_, rfl⟩
      have r0 : 0 ≤ y0 ∧ y0 < 4 := by rw [f0]; exact hat _ _ (by omega) (by omega) (by omega)
      have r1 : 0 ≤ y1 ∧ y1 < 7 := by rw [f1]; exact hat _ _ (by omega) (by omega) (by omega)
      have r2 : 0 ≤ y2 ∧ y2 < (IntKind.i64.wrap ((if y1 < (IntKind.i64.wrap (2 * y0)) then y1 else IntKind.i64.wrap (2 * y0)) + 1)) := by rw [f2]; exact hat _ _ (by omega) (by omega) (by rw [wrap_n (n := 2 * y0) (by omega) (by omega), wrap_n (by split <;> omega) (by split <;> omega)]; split <;> omega)
      refine Eq.trans ?_ (rules2 [.at false (.int .u8 l0), .at false (.int .u8 l1)] r0 r1 r2)
      rw [f2, f1, f0]
      kernel_rfl
theorem H_rulB (n : Nat) (l0 : List Int) : md_rulB 40 n l0 = some (.bool true, [.at false (.int .u8 l0)]) := by
  unfold md_rulB
  cases hg : longB n 0 with
  | true => rfl
  | false =>
    unfold longB at hg
    simp only [Bool.or_eq_false_iff, decide_eq_false_iff_not] at hg
    have hb' : bytesB [] = true := rfl
    have hok : ∀ i : Int, 0 ≤ i → i < 1000 → atOk 0 [] i = true := fun i h1 h2 => decide_eq_true ⟨rfl, by omega, h1, h2⟩
    have hat : ∀ i k : Int, 0 ≤ i → i < 1000 → 1 ≤ k → 0 ≤ atF [] i k ∧ atF [] i k < k := fun i k h1 h2 h3 => atF_range hb' h1 h2 h3
    rw [hok 0 (by omega) (by omega), hok 1 (by omega) (by omega)]
    simp only [tr_rulB7]
    obtain ⟨w2, e0⟩ : ∃ w : Int, w = atF [] 0 7 := ⟨_, rfl⟩
    obtain ⟨w3, e1⟩ : ∃ w : Int, w = atF [] 1 (IntKind.i64.wrap (w2 + 1)) := ⟨_, rfl⟩
    have g0 : 0 ≤ w2 ∧ w2 < 7 := by rw [e0]; exact hat _ _ (by omega) (by omega) (by omega)
    have g1 : 0 ≤ w3 ∧ w3 < (IntKind.i64.wrap (w2 + 1)) := by rw [e1]; exact hat _ _ (by omega) (by omega) (by rw [wrap_n (by omega) (by omega)]; omega)
    refine Eq.trans (b := rB1 w2 w3 [.at false (.int .u8 l0)] (match atOk 0 [] 2 with
  | true => (match nmO (α := Int) (atF [] 2 4) with | some w2 => (match atOk 0 [] 3 with | true => (match nmO (α := Int) (atF [] 3 7) with | some w3 => (match atOk 0 [] 4 with | true => (match nmO (α := Int) (atF [] 4 (IntKind.i64.wrap ((if w3 < (IntKind.i64.wrap (2 * w2)) then w3 else IntKind.i64.wrap (2 * w2)) + 1))) with | some w4 => (match Fc.fineS (IntKind.i64.wrap (2 * w2)) w3 (IntKind.i64.wrap ((IntKind.i64.wrap ((IntKind.i64.wrap (2 * w2)) + w3)) - (IntKind.i64.wrap (2 * w4)))) with | true => (match nmO (α := Int) (Fc.fcU (IntKind.i64.wrap (2 * w2)) w3 (IntKind.i64.wrap ((IntKind.i64.wrap ((IntKind.i64.wrap (2 * w2)) + w3)) - (IntKind.i64.wrap (2 * w4))))) with | some w5 => (match nmO (α := Int) (Fc.fcD (IntKind.i64.wrap (2 * w2)) w3 (IntKind.i64.wrap ((IntKind.i64.wrap ((IntKind.i64.wrap (2 * w2)) + w3)) - (IntKind.i64.wrap (2 * w4))))) with | some w6 => (match Fc.fineS (IntKind.i64.wrap (2 * w2)) w3 (IntKind.i64.wrap ((IntKind.i64.wrap ((IntKind.i64.wrap (2 * w2)) + w3)) - (IntKind.i64.wrap (2 * w4)))) with | true => (match nmO (α := Int) (Fc.fcU (IntKind.i64.wrap (2 * w2)) w3 (IntKind.i64.wrap ((IntKind.i64.wrap ((IntKind.i64.wrap (2 * w2)) + w3)) - (IntKind.i64.wrap (2 * w4))))) with | some w7 => (match nmO (α := Int) (Fc.fcD (IntKind.i64.wrap (2 * w2)) w3 (IntKind.i64.wrap ((IntKind.i64.wrap ((IntKind.i64.wrap (2 * w2)) + w3)) - (IntKind.i64.wrap (2 * w4))))) with | some w8 => (match !(true == (decide ((IntKind.i64.wrap ((IntKind.i64.wrap ((IntKind.i64.wrap (2 * w2)) + w3)) - (IntKind.i64.wrap (2 * w4))) : Int) > 0))) with | true => some (.bool false, [.at false (.int .u8 l0)]) | false => (match Fc.ok_sl (IntKind.i64.wrap (2 * w2)) w3 (IntKind.i64.wrap ((IntKind.i64.wrap ((IntKind.i64.wrap (2 * w2)) + w3)) - (IntKind.i64.wrap (2 * w4)))) 1073741824 1056964608 with | true => (match nmO (α := Nat) (((IntKind.i64.wrap ((IntKind.i64.wrap ((IntKind.i64.wrap (2 * w2)) + w3)) - (IntKind.i64.wrap (2 * w4)))) + 1).toNat) with | some w9 => (match nmO (α := List Nat) (Fc.li_sl (IntKind.i64.wrap (2 * w2)) w3 (IntKind.i64.wrap ((IntKind.i64.wrap ((IntKind.i64.wrap (2 * w2)) + w3)) - (IntKind.i64.wrap (2 * w4)))) 1073741824 1056964608) with | some w10 => (match w5 != w7 with | true => some (.bool false, [.at false (.int .u8 l0)]) | false => (match w6 != w8 with | true => some (.bool false, [.at false (.int .u8 l0)]) | false => (match decide ((w6 : Int) < 1) with | true => some (.bool false, [.at false (.int .u8 l0)]) | false => (match ((w9 : Nat) : Int) != (IntKind.i64.wrap ((IntKind.i64.wrap ((IntKind.i64.wrap ((IntKind.i64.wrap (2 * w2)) + w3)) - (IntKind.i64.wrap (2 * w4)))) + 1)) with | true => some (.bool false, [.at false (.int .u8 l0)]) | false => (mr_rulB38 40 (ce_rulB38_0 40) (ce_rulB38_1 40) 40 (IntKind.i64.wrap ((IntKind.i64.wrap ((IntKind.i64.wrap (2 * w2)) + w3)) - (IntKind.i64.wrap (2 * w4)))) w5 w6 w9 ((w9 : Nat) : Int) 0 l0 w10))))) | none => none) | none => none) | false => (match w5 != w7 with | true => some (.bool false, [.at false (.int .u8 l0)]) | false => (match w6 != w8 with | true => some (.bool false, [.at false (.int .u8 l0)]) | false => (match decide ((w6 : Int) < 1) with | true => some (.bool false, [.at false (.int .u8 l0)]) | false => some (.bool false, [.at false (.int .u8 l0)])))))) | none => none) | none => none) | false => some (.bool false, [.at false (.int .u8 l0)])) | none => none) | none => none) | false => (match Fc.fineS (IntKind.i64.wrap (2 * w2)) w3 (IntKind.i64.wrap ((IntKind.i64.wrap ((IntKind.i64.wrap (2 * w2)) + w3)) - (IntKind.i64.wrap (2 * w4)))) with | true => (match nmO (α := Int) (Fc.fcU (IntKind.i64.wrap (2 * w2)) w3 (IntKind.i64.wrap ((IntKind.i64.wrap ((IntKind.i64.wrap (2 * w2)) + w3)) - (IntKind.i64.wrap (2 * w4))))) with | some w11 => (match nmO (α := Int) (Fc.fcD (IntKind.i64.wrap (2 * w2)) w3 (IntKind.i64.wrap ((IntKind.i64.wrap ((IntKind.i64.wrap (2 * w2)) + w3)) - (IntKind.i64.wrap (2 * w4))))) with | some w12 => some (.bool false, [.at false (.int .u8 l0)]) | none => none) | none => none) | false => (match !(false == (decide ((IntKind.i64.wrap ((IntKind.i64.wrap ((IntKind.i64.wrap (2 * w2)) + w3)) - (IntKind.i64.wrap (2 * w4))) : Int) > 0))) with | true => some (.bool false, [.at false (.int .u8 l0)]) | false => some (.bool true, [.at false (.int .u8 l0)])))) | none => none) | false => none) | none => none) | false => none) | none => none)
  | false => none)) ?_ (Eq.trans (rules1 [.at false (.int .u8 l0)] _ g0 g1) ?_)
    · rw [e1, e0]
      kernel_rfl
    · rw [hok 2 (by omega) (by omega), hok 3 (by omega) (by omega), hok 4 (by omega) (by omega)]
      simp only [tr_rulB38]
      obtain ⟨y0, f0⟩ : ∃ w : Int, w = atF [] 2 4 := ⟨_, rfl⟩
      obtain ⟨y1, f1⟩ : ∃ w : Int, w = atF [] 3 7 := ⟨_, rfl⟩
      obtain ⟨y2, f2⟩ : ∃ w : Int, w = atF [] 4 (IntKind.i64.wrap ((if y1 < (IntKind.i64.wrap (2 * y0)) then y1 else IntKind.i64.wrap (2 * y0)) + 1)) := ⟨_, rfl⟩
      have r0 : 0 ≤ y0 ∧ y0 < 4 := by rw [f0]; exact hat _ _ (by omega) (by omega) (by omega)
      have r1 : 0 ≤ y1 ∧ y1 < 7 := by rw [f1]; exact hat _ _ (by omega) (by omega) (by omega)
      have r2 : 0 ≤ y2 ∧ y2 < (IntKind.i64.wrap ((if y1 < (IntKind.i64.wrap (2 * y0)) then y1 else IntKind.i64.wrap (2 * y0)) + 1)) := by rw [f2]; exact hat _ _ (by omega) (by omega) (by rw [wrap_n (n := 2 * y0) (by omega) (by omega), wrap_n (by split <;> omega) (by split <;> omega)]; split <;> omega)
      refine Eq.trans ?_ (rules2 [.at false (.int .u8 l0)] r0 r1 r2)
      rw [f2, f1, f0]
      kernel_rfl
theorem H_rulC (m : Nat) (l1 : List Int) (hl : l1.length = m) (hb : bytesB l1 = true) : md_rulC 40 m l1 = some (.bool true, [.at false (.int .u8 l1)]) := by
  unfold md_rulC
  cases hg : longB 0 m with
  | true => rfl
  | false =>
    unfold longB at hg
    simp only [Bool.or_eq_false_iff, decide_eq_false_iff_not] at hg
    have hb' : bytesB l1 = true := hb
    have hok : ∀ i : Int, 0 ≤ i → i < 1000 → atOk m l1 i = true := fun i h1 h2 => decide_eq_true ⟨hl, by omega, h1, h2⟩
    have hat : ∀ i k : Int, 0 ≤ i → i < 1000 → 1 ≤ k → 0 ≤ atF l1 i k ∧ atF l1 i k < k := fun i k h1 h2 h3 => atF_range hb' h1 h2 h3
    rw [hok 0 (by omega) (by omega), hok 1 (by omega) (by omega)]
    simp only [tr_rulC7]
    obtain ⟨w2, e0⟩ : ∃ w : Int, w = atF l1 0 7 := ⟨_, rfl⟩
    obtain ⟨w3, e1⟩ : ∃ w : Int, w = atF l1 1 (IntKind.i64.wrap (w2 + 1)) := ⟨_, rfl⟩
    have g0 : 0 ≤ w2 ∧ w2 < 7 := by rw [e0]; exact hat _ _ (by omega) (by omega) (by omega)
    have g1 : 0 ≤ w3 ∧ w3 < (IntKind.i64.wrap (w2 + 1)) := by rw [e1]; exact hat _ _ (by omega) (by omega) (by rw [wrap_n (by omega) (by omega)]; omega)
    refine Eq.trans (b := rB1 w2 w3 [.at false (.int .u8 l1)] (match atOk m l1 2 with
  | true => (match nmO (α := Int) (atF l1 2 4) with | some w2 => (match atOk m l1 3 with | true => (match nmO (α := Int) (atF l1 3 7) with | some w3 => (match atOk m l1 4 with | true => (match nmO (α := Int) (atF l1 4 (IntKind.i64.wrap ((if w3 < (IntKind.i64.wrap (2 * w2)) then w3 else IntKind.i64.wrap (2 * w2)) + 1))) with | some w4 => (match Fc.fineS (IntKind.i64.wrap (2 * w2)) w3 (IntKind.i64.wrap ((IntKind.i64.wrap ((IntKind.i64.wrap (2 * w2)) + w3)) - (IntKind.i64.wrap (2 * w4)))) with | true => (match nmO (α := Int) (Fc.fcU (IntKind.i64.wrap (2 * w2)) w3 (IntKind.i64.wrap ((IntKind.i64.wrap ((IntKind.i64.wrap (2 * w2)) + w3)) - (IntKind.i64.wrap (2 * w4))))) with | some w5 => (match nmO (α := Int) (Fc.fcD (IntKind.i64.wrap (2 * w2)) w3 (IntKind.i64.wrap ((IntKind.i64.wrap ((IntKind.i64.wrap (2 * w2)) + w3)) - (IntKind.i64.wrap (2 * w4))))) with | some w6 => (match Fc.fineS (IntKind.i64.wrap (2 * w2)) w3 (IntKind.i64.wrap ((IntKind.i64.wrap ((IntKind.i64.wrap (2 * w2)) + w3)) - (IntKind.i64.wrap (2 * w4)))) with | true => (match nmO (α := Int) (Fc.fcU (IntKind.i64.wrap (2 * w2)) w3 (IntKind.i64.wrap ((IntKind.i64.wrap ((IntKind.i64.wrap (2 * w2)) + w3)) - (IntKind.i64.wrap (2 * w4))))) with | some w7 => (match nmO (α := Int) (Fc.fcD (IntKind.i64.wrap (2 * w2)) w3 (IntKind.i64.wrap ((IntKind.i64.wrap ((IntKind.i64.wrap (2 * w2)) + w3)) - (IntKind.i64.wrap (2 * w4))))) with | some w8 => (match !(true == (decide ((IntKind.i64.wrap ((IntKind.i64.wrap ((IntKind.i64.wrap (2 * w2)) + w3)) - (IntKind.i64.wrap (2 * w4))) : Int) > 0))) with | true => some (.bool false, [.at false (.int .u8 l1)]) | false => (match Fc.ok_sl (IntKind.i64.wrap (2 * w2)) w3 (IntKind.i64.wrap ((IntKind.i64.wrap ((IntKind.i64.wrap (2 * w2)) + w3)) - (IntKind.i64.wrap (2 * w4)))) 1073741824 1056964608 with | true => (match nmO (α := Nat) (((IntKind.i64.wrap ((IntKind.i64.wrap ((IntKind.i64.wrap (2 * w2)) + w3)) - (IntKind.i64.wrap (2 * w4)))) + 1).toNat) with | some w9 => (match nmO (α := List Nat) (Fc.li_sl (IntKind.i64.wrap (2 * w2)) w3 (IntKind.i64.wrap ((IntKind.i64.wrap ((IntKind.i64.wrap (2 * w2)) + w3)) - (IntKind.i64.wrap (2 * w4)))) 1073741824 1056964608) with | some w10 => (match w5 != w7 with | true => some (.bool false, [.at false (.int .u8 l1)]) | false => (match w6 != w8 with | true => some (.bool false, [.at false (.int .u8 l1)]) | false => (match decide ((w6 : Int) < 1) with | true => some (.bool false, [.at false (.int .u8 l1)]) | false => (match ((w9 : Nat) : Int) != (IntKind.i64.wrap ((IntKind.i64.wrap ((IntKind.i64.wrap ((IntKind.i64.wrap (2 * w2)) + w3)) - (IntKind.i64.wrap (2 * w4)))) + 1)) with | true => some (.bool false, [.at false (.int .u8 l1)]) | false => (mr_rulC38 40 (ce_rulC38_0 40) (ce_rulC38_1 40) 40 (IntKind.i64.wrap ((IntKind.i64.wrap ((IntKind.i64.wrap (2 * w2)) + w3)) - (IntKind.i64.wrap (2 * w4)))) w5 w6 w9 ((w9 : Nat) : Int) 0 l1 w10))))) | none => none) | none => none) | false => (match w5 != w7 with | true => some (.bool false, [.at false (.int .u8 l1)]) | false => (match w6 != w8 with | true => some (.bool false, [.at false (.int .u8 l1)]) | false => (match decide ((w6 : Int) < 1) with | true => some (.bool false, [.at false (.int .u8 l1)]) | false => some (.bool false, [.at false (.int .u8 l1)])))))) | none => none) | none => none) | false => some (.bool false, [.at false (.int .u8 l1)])) | none => none) | none => none) | false => (match Fc.fineS (IntKind.i64.wrap (2 * w2)) w3 (IntKind.i64.wrap ((IntKind.i64.wrap ((IntKind.i64.wrap (2 * w2)) + w3)) - (IntKind.i64.wrap (2 * w4)))) with | true => (match nmO (α := Int) (Fc.fcU (IntKind.i64.wrap (2 * w2)) w3 (IntKind.i64.wrap ((IntKind.i64.wrap ((IntKind.i64.wrap (2 * w2)) + w3)) - (IntKind.i64.wrap (2 * w4))))) with | some w11 => (match nmO (α := Int) (Fc.fcD (IntKind.i64.wrap (2 * w2)) w3 (IntKind.i64.wrap ((IntKind.i64.wrap ((IntKind.i64.wrap (2 * w2)) + w3)) - (IntKind.i64.wrap (2 * w4))))) with | some w12 => some (.bool false, [.at false (.int .u8 l1)]) | none => none) | none => none) | false => (match !(false == (decide ((IntKind.i64.wrap ((IntKind.i64.wrap ((IntKind.i64.wrap (2 * w2)) + w3)) - (IntKind.i64.wrap (2 * w4))) : Int) > 0))) with | true => some (.bool false, [.at false (.int .u8 l1)]) | false => some (.bool true, [.at false (.int .u8 l1)])))) | none => none) | false => none) | none => none) | false => none) | none => none)
  | false => none)) ?_ (Eq.trans (rules1 [.at false (.int .u8 l1)] _ g0 g1) ?_)
    · rw [e1, e0]
      kernel_rfl
    · rw [hok 2 (by omega) (by omega), hok 3 (by omega) (by omega), hok 4 (by omega) (by omega)]
      simp only [tr_rulC38]
      obtain ⟨y0, f0⟩ : ∃ w : Int, w = atF l1 2 4 := ⟨_, rfl⟩
      obtain ⟨y1, f1⟩ : ∃ w : Int, w = atF l1 3 7 := ⟨_, rfl⟩
      obtain ⟨y2, f2⟩ : ∃ w : Int, w = atF l1 4 (IntKind.i64.wrap ((if y1 < (IntKind.i64.wrap (2 * y0)) then y1 else IntKind.i64.wrap (2 * y0)) + 1)) := ⟨_, rfl⟩
      have r0 : 0 ≤ y0 ∧ y0 < 4 := by rw [f0]; exact hat _ _ (by omega) (by omega) (by omega)
      have r1 : 0 ≤ y1 ∧ y1 < 7 := by rw [f1]; exact hat _ _ (by omega) (by omega) (by omega)
      have r2 : 0 ≤ y2 ∧ y2 < (IntKind.i64.wrap ((if y1 < (IntKind.i64.wrap (2 * y0)) then y1 else IntKind.i64.wrap (2 * y0)) + 1)) := by rw [f2]; exact hat _ _ (by omega) (by omega) (by rw [wrap_n (n := 2 * y0) (by omega) (by omega), wrap_n (by split <;> omega) (by split <;> omega)]; split <;> omega)
      refine Eq.trans ?_ (rules2 [.at false (.int .u8 l1)] r0 r1 r2)
      rw [f2, f1, f0]
      kernel_rfl
theorem H_rulD  : md_rulD 40  = some (.bool true, []) := by
  unfold md_rulD
  cases hg : longB 0 0 with
  | true => rfl
  | false =>
    unfold longB at hg
    simp only [Bool.or_eq_false_iff, decide_eq_false_iff_not] at hg
    have hb' : bytesB [] = true := rfl
    have hok : ∀ i : Int, 0 ≤ i → i < 1000 → atOk 0 [] i = true := fun i h1 h2 => decide_eq_true ⟨rfl, by omega, h1, h2⟩
    have hat : ∀ i k : Int, 0 ≤ i → i < 1000 → 1 ≤ k → 0 ≤ atF [] i k ∧ atF [] i k < k := fun i k h1 h2 h3 => atF_range hb' h1 h2 h3
    rw [hok 0 (by omega) (by omega), hok 1 (by omega) (by omega)]
    obtain ⟨w2, e0⟩ : ∃ w : Int, w = atF [] 0 7 := ⟨_, rfl⟩
    obtain ⟨w3, e1⟩ : ∃ w : Int, w = atF [] 1 (IntKind.i64.wrap (w2 + 1)) := ⟨_, rfl⟩
    have g0 : 0 ≤ w2 ∧ w2 < 7 := by rw [e0]; exact hat _ _ (by omega) (by omega) (by omega)
    have g1 : 0 ≤ w3 ∧ w3 < (IntKind.i64.wrap (w2 + 1)) := by rw [e1]; exact hat _ _ (by omega) (by omega) (by rw [wrap_n (by omega) (by omega)]; omega)
    refine Eq.trans (b := rB1 w2 w3 [] (match atOk 0 [] 2 with
  | true => (match nmO (α := Int) (atF [] 2 4) with | some w2 => (match atOk 0 [] 3 with | true => (match nmO (α := Int) (atF [] 3 7) with | some w3 => (match atOk 0 [] 4 with | true => (match nmO (α := Int) (atF [] 4 (IntKind.i64.wrap ((if w3 < (IntKind.i64.wrap (2 * w2)) then w3 else IntKind.i64.wrap (2 * w2)) + 1))) with | some w4 => (match Fc.fineS (IntKind.i64.wrap (2 * w2)) w3 (IntKind.i64.wrap ((IntKind.i64.wrap ((IntKind.i64.wrap (2 * w2)) + w3)) - (IntKind.i64.wrap (2 * w4)))) with | true => (match nmO (α := Int) (Fc.fcU (IntKind.i64.wrap (2 * w2)) w3 (IntKind.i64.wrap ((IntKind.i64.wrap ((IntKind.i64.wrap (2 * w2)) + w3)) - (IntKind.i64.wrap (2 * w4))))) with | some w5 => (match nmO (α := Int) (Fc.fcD (IntKind.i64.wrap (2 * w2)) w3 (IntKind.i64.wrap ((IntKind.i64.wrap ((IntKind.i64.wrap (2 * w2)) + w3)) - (IntKind.i64.wrap (2 * w4))))) with | some w6 => (match Fc.fineS (IntKind.i64.wrap (2 * w2)) w3 (IntKind.i64.wrap ((IntKind.i64.wrap ((IntKind.i64.wrap (2 * w2)) + w3)) - (IntKind.i64.wrap (2 * w4)))) with | true => (match nmO (α := Int) (Fc.fcU (IntKind.i64.wrap (2 * w2)) w3 (IntKind.i64.wrap ((IntKind.i64.wrap ((IntKind.i64.wrap (2 * w2)) + w3)) - (IntKind.i64.wrap (2 * w4))))) with | some w7 => (match nmO (α := Int) (Fc.fcD (IntKind.i64.wrap (2 * w2)) w3 (IntKind.i64.wrap ((IntKind.i64.wrap ((IntKind.i64.wrap (2 * w2)) + w3)) - (IntKind.i64.wrap (2 * w4))))) with | some w8 => (match !(true == (decide ((IntKind.i64.wrap ((IntKind.i64.wrap ((IntKind.i64.wrap (2 * w2)) + w3)) - (IntKind.i64.wrap (2 * w4))) : Int) > 0))) with | true => some (.bool false, []) | false => (match Fc.ok_sl (IntKind.i64.wrap (2 * w2)) w3 (IntKind.i64.wrap ((IntKind.i64.wrap ((IntKind.i64.wrap (2 * w2)) + w3)) - (IntKind.i64.wrap (2 * w4)))) 1073741824 1056964608 with | true => (match nmO (α := Nat) (((IntKind.i64.wrap ((IntKind.i64.wrap ((IntKind.i64.wrap (2 * w2)) + w3)) - (IntKind.i64.wrap (2 * w4)))) + 1).toNat) with | some w9 => (match nmO (α := List Nat) (Fc.li_sl (IntKind.i64.wrap (2 * w2)) w3 (IntKind.i64.wrap ((IntKind.i64.wrap ((IntKind.i64.wrap (2 * w2)) + w3)) - (IntKind.i64.wrap (2 * w4)))) 1073741824 1056964608) with | some w10 => (match w5 != w7 with | true => some (.bool false, []) | false => (match w6 != w8 with | true => some (.bool false, []) | false => (match decide ((w6 : Int) < 1) with | true => some (.bool false, []) | false => (match ((w9 : Nat) : Int) != (IntKind.i64.wrap ((IntKind.i64.wrap ((IntKind.i64.wrap ((IntKind.i64.wrap (2 * w2)) + w3)) - (IntKind.i64.wrap (2 * w4)))) + 1)) with | true => some (.bool false, []) | false => (mr_rulD38 40 (ce_rulD38_0 40) (ce_rulD38_1 40) 40 (IntKind.i64.wrap ((IntKind.i64.wrap ((IntKind.i64.wrap (2 * w2)) + w3)) - (IntKind.i64.wrap (2 * w4)))) w5 w6 w9 ((w9 : Nat) : Int) 0 w10))))) | none => none) | none => none) | false => (match w5 != w7 with | true => some (.bool false, []) | false => (match w6 != w8 with | true => some (.bool false, []) | false => (match decide ((w6 : Int) < 1) with | true => some (.bool false, []) | false => some (.bool false, [])))))) | none => none) | none => none) | false => some (.bool false, [])) | none => none) | none => none) | false => (match Fc.fineS (IntKind.i64.wrap (2 * w2)) w3 (IntKind.i64.wrap ((IntKind.i64.wrap ((IntKind.i64.wrap (2 * w2)) + w3)) - (IntKind.i64.wrap (2 * w4)))) with | true => (match nmO (α := Int) (Fc.fcU (IntKind.i64.wrap (2 * w2)) w3 (IntKind.i64.wrap ((IntKind.i64.wrap ((IntKind.i64.wrap (2 * w2)) + w3)) - (IntKind.i64.wrap (2 * w4))))) with | some w11 => (match nmO (α := Int) (Fc.fcD (IntKind.i64.wrap (2 * w2)) w3 (IntKind.i64.wrap ((IntKind.i64.wrap ((IntKind.i64.wrap (2 * w2)) + w3)) - (IntKind.i64.wrap (2 * w4))))) with | some w12 => some (.bool false, []) | none => none) | none => none) | false => (match !(false == (decide ((IntKind.i64.wrap ((IntKind.i64.wrap ((IntKind.i64.wrap (2 * w2)) + w3)) - (IntKind.i64.wrap (2 * w4))) : Int) > 0))) with | true => some (.bool false, []) | false => some (.bool true, [])))) | none => none) | false => none) | none => none) | false => none) | none => none)
  | false => none)) ?_ (Eq.trans (rules1 [] _ g0 g1) ?_)
    · rw [e1, e0]
      kernel_rfl
    · rw [hok 2 (by omega) (by omega), hok 3 (by omega) (by omega), hok 4 (by omega) (by omega)]
      obtain ⟨y0, f0⟩ : ∃ w : Int, w = atF [] 2 4 := ⟨_, rfl⟩
      obtain ⟨y1, f1⟩ : ∃ w : Int, w = atF [] 3 7 := ⟨_, rfl⟩
      obtain ⟨y2, f2⟩ : ∃ w : Int, w = atF [] 4 (IntKind.i64.wrap ((if y1 < (IntKind.i64.wrap (2 * y0)) then y1 else IntKind.i64.wrap (2 * y0)) + 1)) := ⟨_, rfl⟩
      have r0 : 0 ≤ y0 ∧ y0 < 4 := by rw [f0]; exact hat _ _ (by omega) (by omega) (by omega)
      have r1 : 0 ≤ y1 ∧ y1 < 7 := by rw [f1]; exact hat _ _ (by omega) (by omega) (by omega)
      have r2 : 0 ≤ y2 ∧ y2 < (IntKind.i64.wrap ((if y1 < (IntKind.i64.wrap (2 * y0)) then y1 else IntKind.i64.wrap (2 * y0)) + 1)) := by rw [f2]; exact hat _ _ (by omega) (by omega) (by rw [wrap_n (n := 2 * y0) (by omega) (by omega), wrap_n (by split <;> omega) (by split <;> omega)]; split <;> omega)
      refine Eq.trans ?_ (rules2 [] r0 r1 r2)
      rw [f2, f1, f0]
      kernel_rfl
noncomputable section
def gBytes : G := fun vs h => match vs, h with
  | [.sl 0 0 n, .sl 1 0 m], [.at false (.int .u8 l0), .at false (.int .u8 l1)] => if n = l0.length ∧ m = l1.length ∧ bytesB l0 = true ∧ bytesB l1 = true then some (.bool true, [.at false (.int .u8 l0), .at false (.int .u8 l1)]) else none
  | [.sl 0 0 n, .nil], [.at false (.int .u8 l0)] => if n = l0.length ∧ bytesB l0 = true then some (.bool true, [.at false (.int .u8 l0)]) else none
  | [.nil, .sl 0 0 m], [.at false (.int .u8 l1)] => if m = l1.length ∧ bytesB l1 = true then some (.bool true, [.at false (.int .u8 l1)]) else none
  | [.nil, .nil], [] => some (.bool true, [])
  | _, _ => none
theorem bytes_wf {l : List Int} (h : ∀ z ∈ l, (Lit.int .u8 z).wf = true) : bytesB l = true := by
  unfold bytesB
  rw [List.all_eq_true]
  intro z hz
  have hw := h z hz
  simp only [Lit.wf, Bool.and_eq_true, decide_eq_true_eq] at hw
  have h1 : (0 : Int) ≤ z := hw.1
  have h2 : z ≤ 255 := hw.2
  exact decide_eq_true (by omega)
theorem ok_lawrul : FnOk Try.prog 12 gBytes := by
  intro vs hp v h' e
  rw [T.run_of] at e
  unfold gBytes at e
  split at e
  · rename_i n m l0 l1
    split at e
    · rename_i hc
      cases e
      refine FnT.runs tabok_rulA Try.func12 rfl rfl an_rulA 40 _ _ _ _ ?_
      rw [T.run_of]
      exact Eq.trans (mdl_rulA 40 n m l0 l1) (H_rulA n m l0 l1 hc.2.1.symm hc.2.2.2)
    · cases e
  · rename_i n l0
    split at e
    · rename_i hc
      cases e
      refine FnT.runs tabok_rulB Try.func12 rfl rfl an_rulB 40 _ _ _ _ ?_
      rw [T.run_of]
      exact Eq.trans (mdl_rulB 40 n l0) (H_rulB n l0)
    · cases e
  · rename_i m l1
    split at e
    · rename_i hc
      cases e
      refine FnT.runs tabok_rulC Try.func12 rfl rfl an_rulC 40 _ _ _ _ ?_
      rw [T.run_of]
      exact Eq.trans (mdl_rulC 40 m l1) (H_rulC m l1 hc.1.symm hc.2)
    · cases e
  · cases e
    refine FnT.runs tabok_rulD Try.func12 rfl rfl an_rulD 40 _ _ _ _ ?_
    rw [T.run_of]
    exact Eq.trans (mdl_rulD 40) H_rulD
  · cases e
end
end Go.Proofs.Ytbhfjdlhhjeknaa.Ab
