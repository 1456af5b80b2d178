/- FnTotals. Only lemmas. Printed by gen_totals.py. -/
import Derived.Test.YthcjbchkagkaaaaToB
namespace Go.Proofs.Ythcjbchkagkaaaa.Ab
set_option linter.unusedVariables false
set_option linter.unusedSimpArgs false
open Go
theorem tq00 (hh : H) : tB 0 0 hh = some (.bool true, hh) := by kernel_rfl
theorem tq01 (hh : H) : tB 0 1 hh = some (.bool true, hh) := by kernel_rfl
theorem tq02 (hh : H) : tB 0 2 hh = some (.bool true, hh) := by kernel_rfl
theorem tq03 (hh : H) : tB 0 3 hh = some (.bool true, hh) := by kernel_rfl
theorem tq04 (hh : H) : tB 0 4 hh = some (.bool true, hh) := by kernel_rfl
theorem tq05 (hh : H) : tB 0 5 hh = some (.bool true, hh) := by kernel_rfl
theorem tq06 (hh : H) : tB 0 6 hh = some (.bool true, hh) := by kernel_rfl
theorem tq10 (hh : H) : tB 1 0 hh = some (.bool true, hh) := by kernel_rfl
theorem tq11 (hh : H) : tB 1 1 hh = some (.bool true, hh) := by kernel_rfl
theorem tq12 (hh : H) : tB 1 2 hh = some (.bool true, hh) := by kernel_rfl
theorem tq13 (hh : H) : tB 1 3 hh = some (.bool true, hh) := by kernel_rfl
theorem tq14 (hh : H) : tB 1 4 hh = some (.bool true, hh) := by kernel_rfl
theorem tq15 (hh : H) : tB 1 5 hh = some (.bool true, hh) := by kernel_rfl
theorem tq16 (hh : H) : tB 1 6 hh = some (.bool true, hh) := by kernel_rfl
theorem tq20 (hh : H) : tB 2 0 hh = some (.bool true, hh) := by kernel_rfl
theorem tq21 (hh : H) : tB 2 1 hh = some (.bool true, hh) := by kernel_rfl
theorem tq22 (hh : H) : tB 2 2 hh = some (.bool true, hh) := by kernel_rfl
theorem tq23 (hh : H) : tB 2 3 hh = some (.bool true, hh) := by kernel_rfl
theorem tq24 (hh : H) : tB 2 4 hh = some (.bool true, hh) := by kernel_rfl
theorem tq25 (hh : H) : tB 2 5 hh = some (.bool true, hh) := by kernel_rfl
theorem tq26 (hh : H) : tB 2 6 hh = some (.bool true, hh) := by kernel_rfl
theorem tq30 (hh : H) : tB 3 0 hh = some (.bool true, hh) := by kernel_rfl
theorem tq31 (hh : H) : tB 3 1 hh = some (.bool true, hh) := by kernel_rfl
theorem tq32 (hh : H) : tB 3 2 hh = some (.bool true, hh) := by kernel_rfl
theorem tq33 (hh : H) : tB 3 3 hh = some (.bool true, hh) := by kernel_rfl
theorem tq34 (hh : H) : tB 3 4 hh = some (.bool true, hh) := by kernel_rfl
theorem tq35 (hh : H) : tB 3 5 hh = some (.bool true, hh) := by kernel_rfl
theorem tq36 (hh : H) : tB 3 6 hh = some (.bool true, hh) := by kernel_rfl
theorem tq40 (hh : H) : tB 4 0 hh = some (.bool true, hh) := by kernel_rfl
theorem tq41 (hh : H) : tB 4 1 hh = some (.bool true, hh) := by kernel_rfl
theorem tq42 (hh : H) : tB 4 2 hh = some (.bool true, hh) := by kernel_rfl
theorem tq43 (hh : H) : tB 4 3 hh = some (.bool true, hh) := by kernel_rfl
theorem tq44 (hh : H) : tB 4 4 hh = some (.bool true, hh) := by kernel_rfl
theorem tq45 (hh : H) : tB 4 5 hh = some (.bool true, hh) := by kernel_rfl
theorem tq46 (hh : H) : tB 4 6 hh = some (.bool true, hh) := by kernel_rfl
theorem tq50 (hh : H) : tB 5 0 hh = some (.bool true, hh) := by kernel_rfl
theorem tq51 (hh : H) : tB 5 1 hh = some (.bool true, hh) := by kernel_rfl
theorem tq52 (hh : H) : tB 5 2 hh = some (.bool true, hh) := by kernel_rfl
theorem tq53 (hh : H) : tB 5 3 hh = some (.bool true, hh) := by kernel_rfl
theorem tq54 (hh : H) : tB 5 4 hh = some (.bool true, hh) := by kernel_rfl
theorem tq55 (hh : H) : tB 5 5 hh = some (.bool true, hh) := by kernel_rfl
theorem tq56 (hh : H) : tB 5 6 hh = some (.bool true, hh) := by kernel_rfl
theorem tq60 (hh : H) : tB 6 0 hh = some (.bool true, hh) := by kernel_rfl
theorem tq61 (hh : H) : tB 6 1 hh = some (.bool true, hh) := by kernel_rfl
theorem tq62 (hh : H) : tB 6 2 hh = some (.bool true, hh) := by kernel_rfl
theorem tq63 (hh : H) : tB 6 3 hh = some (.bool true, hh) := by kernel_rfl
theorem tq64 (hh : H) : tB 6 4 hh = some (.bool true, hh) := by kernel_rfl
theorem tq65 (hh : H) : tB 6 5 hh = some (.bool true, hh) := by kernel_rfl
theorem tq66 (hh : H) : tB 6 6 hh = some (.bool true, hh) := by kernel_rfl
theorem c1 {x : Int} (h : 0 ≤ x ∧ x < 1) : x = 0 := by omega
theorem c2 {x : Int} (h : 0 ≤ x ∧ x < 2) : x = 0 ∨ x = 1 := by omega
theorem c3 {x : Int} (h : 0 ≤ x ∧ x < 3) : x = 0 ∨ x = 1 ∨ x = 2 := by omega
theorem c4 {x : Int} (h : 0 ≤ x ∧ x < 4) : x = 0 ∨ x = 1 ∨ x = 2 ∨ x = 3 := by omega
theorem c5 {x : Int} (h : 0 ≤ x ∧ x < 5) : x = 0 ∨ x = 1 ∨ x = 2 ∨ x = 3 ∨ x = 4 := by omega
theorem c6 {x : Int} (h : 0 ≤ x ∧ x < 6) : x = 0 ∨ x = 1 ∨ x = 2 ∨ x = 3 ∨ x = 4 ∨ x = 5 := by omega
theorem c7 {x : Int} (h : 0 ≤ x ∧ x < 7) : x = 0 ∨ x = 1 ∨ x = 2 ∨ x = 3 ∨ x = 4 ∨ x = 5 ∨ x = 6 := by omega
theorem tots {w1 w2 : Int} (hh : H) (h2 : 0 ≤ w1 ∧ w1 < 7) (h3 : 0 ≤ w2 ∧ w2 < 7) : tB w1 w2 hh = some (.bool true, hh) := by
  rcases c7 h2 with rfl | rfl | rfl | rfl | rfl | rfl | rfl
  · rcases c7 h3 with rfl | rfl | rfl | rfl | rfl | rfl | rfl
    · exact tq00 hh
    · exact tq01 hh
    · exact tq02 hh
    · exact tq03 hh
    · exact tq04 hh
    · exact tq05 hh
    · exact tq06 hh
  · rcases c7 h3 with rfl | rfl | rfl | rfl | rfl | rfl | rfl
    · exact tq10 hh
    · exact tq11 hh
    · exact tq12 hh
    · exact tq13 hh
    · exact tq14 hh
    · exact tq15 hh
    · exact tq16 hh
  · rcases c7 h3 with rfl | rfl | rfl | rfl | rfl | rfl | rfl
    · exact tq20 hh
    · exact tq21 hh
    · exact tq22 hh
    · exact tq23 hh
    · exact tq24 hh
    · exact tq25 hh
    · exact tq26 hh
  · rcases c7 h3 with rfl | rfl | rfl | rfl | rfl | rfl | rfl
    · exact tq30 hh
    · exact tq31 hh
    · exact tq32 hh
    · exact tq33 hh
    · exact tq34 hh
    · exact tq35 hh
    · exact tq36 hh
  · rcases c7 h3 with rfl | rfl | rfl | rfl | rfl | rfl | rfl
    · exact tq40 hh
    · exact tq41 hh
    · exact tq42 hh
    · exact tq43 hh
    · exact tq44 hh
    · exact tq45 hh
    · exact tq46 hh
  · rcases c7 h3 with rfl | rfl | rfl | rfl | rfl | rfl | rfl
    · exact tq50 hh
    · exact tq51 hh
    · exact tq52 hh
    · exact tq53 hh
    · exact tq54 hh
    · exact tq55 hh
    · exact tq56 hh
  · rcases c7 h3 with rfl | rfl | rfl | rfl | rfl | rfl | rfl
    · exact tq60 hh
    · exact tq61 hh
    · exact tq62 hh
    · exact tq63 hh
    · exact tq64 hh
    · exact tq65 hh
    · exact tq66 hh
def lstF (lc : List Int) : Nat → List Int
  | 0 => []
  | k + 1 => lstF lc k ++ [atF lc (k : Int) 7]
theorem lstF_len (lc : List Int) : ∀ k, (lstF lc k).length = k
  | 0 => rfl
  | k + 1 => by simp [lstF, lstF_len lc k]
theorem lstF_turns {lc : List Int} (hb : bytesB lc = true) : ∀ k, k < 1000 → turnsB (lstF lc k) = true
  | 0, _ => rfl
  | k + 1, h => by
    have h1 := lstF_turns hb k (by omega)
    have h2 := atF_range (k := 7) hb (i := (k : Int)) (by omega) (by omega) (by omega)
    unfold turnsB at h1 ⊢
    unfold lstF
    rw [List.all_append, h1]
    simp only [List.all_cons, List.all_nil, Bool.true_and, Bool.and_true]
    exact inB_iff.mpr ⟨h2.1, by omega⟩
theorem prodL_snoc (l : List Int) (a : Int) : prodL (l ++ [a]) = prodL l * (a + 1) := by simp [prodL, List.foldl_append]
theorem sumF_snoc (l : List Int) (a : Int) : sumF (l ++ [a]) 0 = sumF l 0 + a.toNat := by simp [sumF]
theorem prod_rng {lc : List Int} (hb : bytesB lc = true) : ∀ k, k < 1000 → 1 ≤ prodL (lstF lc k) ∧ prodL (lstF lc k) ≤ 7 ^ k
  | 0, _ => ⟨Int.le_refl 1, Int.le_refl 1⟩
  | k + 1, h => by
    obtain ⟨h1, h2⟩ := prod_rng hb k (by omega)
    obtain ⟨h3, h4⟩ := atF_range (k := 7) hb (i := (k : Int)) (by omega) (by omega) (by omega)
    have e : prodL (lstF lc (k + 1)) = prodL (lstF lc k) * (atF lc (k : Int) 7 + 1) := prodL_snoc _ _
    have q1 : prodL (lstF lc k) * 1 ≤ prodL (lstF lc k) * (atF lc (k : Int) 7 + 1) := Int.mul_le_mul_of_nonneg_left (by omega) (by omega)
    have q2 : prodL (lstF lc k) * (atF lc (k : Int) 7 + 1) ≤ prodL (lstF lc k) * 7 := Int.mul_le_mul_of_nonneg_left (by omega) (by omega)
    rw [e, Int.pow_succ]
    omega
theorem pow7 {k : Nat} (h : k ≤ 5) : (7 : Int) ^ k ≤ 16807 := by
  have : k = 0 ∨ k = 1 ∨ k = 2 ∨ k = 3 ∨ k = 4 ∨ k = 5 := by omega
  rcases this with h | h | h | h | h | h <;> rw [h] <;> decide
theorem drop_w {cv : List Int} {j : Nat} (h : j < cv.length) : wsum (j + 1) (cv.drop j) = cv.getD j 0 * ((j + 1 : Nat) : Int) + wsum (j + 1 + 1) (cv.drop (j + 1)) := by
  rw [List.drop_eq_getElem_cons h]
  simp only [wsum]
  rw [List.getD_eq_getElem?_getD, List.getElem?_eq_getElem h, Option.getD_some]
theorem NN_drop {cv : List Int} (h : NN cv) (j : Nat) : NN (cv.drop j) := by
  intro d
  rw [List.getD_eq_getElem?_getD, List.getElem?_drop, ← List.getD_eq_getElem?_getD]
  exact h _
theorem b7_ttlA {n : Nat} {m : Nat} {l0 : List Int} {l1 : List Int} (hok : ∀ i : Int, 0 ≤ i → i < 1000 → atOk m l1 i = true) (hoc : ∀ i : Int, 0 ≤ i → i < 1000 → atOk n l0 i = true) (hbc : bytesB l0 = true) (k0 : Nat → Nat → Int → Int → List Int → List Int → List Int → Option (V × H)) {c : Nat} (hc : c ≤ 5) (h1 : atF l1 0 5 + 1 = (c : Int)) : ∀ k i M, i + k = c → mr_ttlA7 40 k0 (k + 1 + M) n m (i) (prodL (lstF l0 (i))) ((sumF (lstF l0 (i)) 0 : Nat) : Int) ((i : Nat) : Int) l0 l1 (lstF l0 (i)) = k0 m (c) (prodL (lstF l0 (c))) ((sumF (lstF l0 (c)) 0 : Nat) : Int) l0 l1 (lstF l0 (c)) := by
  have hw : IntKind.i64.wrap (1 + atF l1 0 5) = ((c : Nat) : Int) := by rw [wrap_z (by omega) (by omega)]; omega
  intro k
  induction k with
  | zero =>
    intro i M hi
    have hic : i = c := by omega
    subst hic
    rw [show 0 + 1 + M = M + 1 by omega, mrs_ttlA7]
    unfold mb_ttlA7
    rw [hok 0 (by omega) (by omega)]
    dsimp only [nmO]
    rw [hw, dge (Nat.le_refl _)]
  | succ k ih =>
    intro i M hi
    rw [show k + 1 + 1 + M = (k + 1 + M) + 1 by omega, mrs_ttlA7]
    obtain ⟨q1, q2⟩ := atF_range (k := 7) hbc (i := (i : Int)) (by omega) (by omega) (by omega)
    have r1 := prod_rng hbc i (by omega)
    have r2 := prod_rng hbc (i + 1) (by omega)
    have r3 := pow7 (show i + 1 ≤ 5 by omega)
    have e1 : prodL (lstF l0 (i + 1)) = prodL (lstF l0 i) * (atF l0 (i : Int) 7 + 1) := prodL_snoc _ _
    have e2 : sumF (lstF l0 (i + 1)) 0 = sumF (lstF l0 i) 0 + (atF l0 (i : Int) 7).toNat := sumF_snoc _ _
    have hs := sumF_le (lstF_turns hbc i (by omega)) i 0 (by rw [lstF_len]; omega)
    have w1 : IntKind.i64.wrap (atF l0 (i : Int) 7 + 1) = atF l0 (i : Int) 7 + 1 := wrap_n (by omega) (by omega)
    have w2 : IntKind.i64.wrap (prodL (lstF l0 i) * (atF l0 (i : Int) 7 + 1)) = prodL (lstF l0 (i + 1)) := by rw [← e1, wrap_z (by omega) (by omega)]
    have w3 : IntKind.i64.wrap (((sumF (lstF l0 i) 0 : Nat) : Int) + atF l0 (i : Int) 7) = ((sumF (lstF l0 (i + 1)) 0 : Nat) : Int) := by rw [wrap_z (by omega) (by omega), e2]; omega
    have w4 : apok true i 1 (lstF l0 i).length 1 (i + 1) 8 = true := apc (lstF_len _ _) (by omega) (by omega)
    have hn := ih (i + 1) M (by omega)
    unfold mb_ttlA7
    rw [hok 0 (by omega) (by omega)]
    dsimp only [nmO]
    rw [hw, dlt (show i < c by omega), hoc (i : Int) (by omega) (by omega)]
    dsimp only [nmO]
    rw [w4]
    dsimp only
    rw [w1, w2, w3, wr (show i < 2147483648 by omega)]
    exact hn
theorem b18_ttlA {n : Nat} {m : Nat} {l0 : List Int} {l1 : List Int} (k0 : Nat → Int → List Int → List Int → Option (V × H)) {cv : List Int} (hn : NN cv) (hl : cv.length < 1000) (hW : wsum 1 cv ≤ 1000000) : ∀ k j M, j + k = cv.length → wsum (j + 1) (cv.drop j) ≤ 1000000 → mr_ttlA18 40 k0 (k + 1 + M) m (wsum (j + 1) (cv.drop j)) cv.length ((cv.length : Nat) : Int) ((j : Nat) : Int) l0 l1 cv = k0 m 0 l0 l1 := by
  intro k
  induction k with
  | zero =>
    intro j M hj _
    have hic : j = cv.length := by omega
    rw [show 0 + 1 + M = M + 1 by omega, mrs_ttlA18]
    unfold mb_ttlA18
    rw [dge (show cv.length ≤ j by omega), List.drop_of_length_le (show cv.length ≤ j by omega)]
    rfl
  | succ k ih =>
    intro j M hj hB
    have hlt : j < cv.length := by omega
    rw [show k + 1 + 1 + M = (k + 1 + M) + 1 by omega, mrs_ttlA18]
    have e1 := drop_w hlt
    have g1 := wsum_nn (cv.drop (j + 1)) (j + 1 + 1) (NN_drop hn _)
    have g2 : 0 ≤ cv.getD j 0 * ((j + 1 : Nat) : Int) := Int.mul_nonneg (hn j) (by omega)
    have w1 : IntKind.i64.wrap (((j : Nat) : Int) + 1) = ((j + 1 : Nat) : Int) := wr (by omega)
    have w2 : IntKind.i64.wrap (cv.getD j 0 * ((j + 1 : Nat) : Int)) = cv.getD j 0 * ((j + 1 : Nat) : Int) := wrap_z (by omega) (by omega)
    have w3 : IntKind.i64.wrap (wsum (j + 1) (cv.drop j) - cv.getD j 0 * ((j + 1 : Nat) : Int)) = wsum (j + 1 + 1) (cv.drop (j + 1)) := by rw [wrap_z (by omega) (by omega)]; omega
    have hh := ih (j + 1) M (by omega) (by omega)
    unfold mb_ttlA18
    rw [dlt hlt, din hlt, ix, getD_some hlt]
    dsimp only
    rw [w1, w2, w3]
    exact hh
theorem H_ttlA (n : Nat) (m : Nat) (l0 : List Int) (l1 : List Int) (hl : l1.length = m) (hb : bytesB l1 = true) (hl0 : l0.length = n) (hb0 : bytesB l0 = true) : md_ttlA 40 n m l0 l1 = some (.bool true, [.at false (.int .u8 l0), .at false (.int .u8 l1)]) := by
  unfold md_ttlA
  cases hg : longB n m with
  | true => rfl
  | false =>
    unfold longB at hg
    simp only [Bool.or_eq_false_iff, decide_eq_false_iff_not] at hg
    have hb' : bytesB l1 = true := hb
    have hok : ∀ i : Int, 0 ≤ i → i < 1000 → atOk m l1 i = true := fun i h1 h2 => decide_eq_true ⟨hl, by omega, h1, h2⟩
    have hat : ∀ i k : Int, 0 ≤ i → i < 1000 → 1 ≤ k → 0 ≤ atF l1 i k ∧ atF l1 i k < k := fun i k h1 h2 h3 => atF_range hb' h1 h2 h3
    obtain ⟨x0, e0⟩ : ∃ w : Int, w = atF l1 0 5 := ⟨_, rfl⟩
    have g0 : 0 ≤ x0 ∧ x0 < 5 := by rw [e0]; exact hat _ _ (by omega) (by omega) (by omega)
    obtain ⟨c, hc⟩ : ∃ c : Nat, x0 + 1 = (c : Int) := ⟨(x0 + 1).toNat, by omega⟩
    have hoc : ∀ i : Int, 0 ≤ i → i < 1000 → atOk n l0 i = true := fun i h1 h2 => decide_eq_true ⟨hl0, by omega, h1, h2⟩
    have hbc : bytesB l0 = true := hb0
    have h7 := b7_ttlA (n := n) (m := m) (l0 := l0) (l1 := l1) hok hoc hbc (ce_ttlA7_0 40) (c := c) (by omega) (by rw [← e0]; exact hc) c 0 (39 - c) (by omega)
    rw [show c + 1 + (39 - c) = 40 by omega] at h7
    refine Eq.trans h7 ?_
    have hlen := lstF_len l0 c
    have htu := lstF_turns hbc c (by omega)
    have hct : ctOk (lstF l0 c) = true := by
      unfold ctOk
      rw [htu, hlen, decide_eq_true (show 1 ≤ c by omega), decide_eq_true (show c ≤ 6 by omega)]
      rfl
    obtain ⟨hnn, hW⟩ := ctV_W (l := lstF l0 c) (by omega) (by omega) htu
    have hcl := ctV_len' (l := lstF l0 c) (by omega) (by omega) htu
    have hsl := sumF_le htu c 0 (by rw [hlen]; omega)
    have hpr := prod_rng hbc c (by omega)
    have hp7 := pow7 (show c ≤ 5 by omega)
    generalize hcv : ctV (lstF l0 c) = cv at *
    have h18 := b18_ttlA (n := n) (m := m) (l0 := l0) (l1 := l1) (ce_ttlA18_0 40) hnn (by omega) (by omega) cv.length 0 (39 - cv.length) (by omega) (by rw [List.drop_zero]; show wsum 1 cv ≤ 1000000; omega)
    rw [show cv.length + 1 + (39 - cv.length) = 40 by omega, List.drop_zero, hW] at h18
    have hne : (((cv.length : Nat) : Int) != IntKind.i64.wrap (((sumF (lstF l0 c) 0 : Nat) : Int) + 1)) = false := by
      rw [wrap_z (by omega) (by omega), hcl]
      simp
    have heq : eqOk cv.length cv.length cv cv = true := decide_eq_true ⟨rfl, rfl, by omega, by omega⟩
    show ce_ttlA7_0 40 m (c) (prodL (lstF l0 (c))) ((sumF (lstF l0 (c)) 0 : Nat) : Int) l0 l1 (lstF l0 (c)) = _
    unfold ce_ttlA7_0
    try dsimp only
    rw [decide_eq_true (show (lstF l0 c).length = c ∧ c < 2147483648 from ⟨hlen, by omega⟩), hct, hcv]
    dsimp only [nmO]
    rw [hne, heq, eqIB_self]
    refine Eq.trans h18 ?_
    show ce_ttlA18_0 40 m 0 l0 l1 = _
    unfold ce_ttlA18_0
    try dsimp only
    rw [hok 1 (by omega) (by omega), hok 2 (by omega) (by omega)]
    simp only [tr_ttlA29]
    obtain ⟨y1, f0⟩ : ∃ w : Int, w = atF l1 1 7 := ⟨_, rfl⟩
    obtain ⟨y2, f1⟩ : ∃ w : Int, w = atF l1 2 7 := ⟨_, rfl⟩
    have r0 : 0 ≤ y1 ∧ y1 < 7 := by rw [f0]; exact hat _ _ (by omega) (by omega) (by omega)
    have r1 : 0 ≤ y2 ∧ y2 < 7 := by rw [f1]; exact hat _ _ (by omega) (by omega) (by omega)
    refine Eq.trans ?_ (tots [.at false (.int .u8 l0), .at false (.int .u8 l1)] r0 r1)
    rw [f1, f0]
    kernel_rfl
theorem b7_ttlB {n : Nat} {l0 : List Int} (hok : ∀ i : Int, 0 ≤ i → i < 1000 → atOk 0 [] i = true) (hoc : ∀ i : Int, 0 ≤ i → i < 1000 → atOk n l0 i = true) (hbc : bytesB l0 = true) (k0 : Nat → Int → Int → List Int → List Int → Option (V × H)) {c : Nat} (hc : c ≤ 5) (h1 : atF [] 0 5 + 1 = (c : Int)) : ∀ k i M, i + k = c → mr_ttlB7 40 k0 (k + 1 + M) n (i) (prodL (lstF l0 (i))) ((sumF (lstF l0 (i)) 0 : Nat) : Int) ((i : Nat) : Int) l0 (lstF l0 (i)) = k0 (c) (prodL (lstF l0 (c))) ((sumF (lstF l0 (c)) 0 : Nat) : Int) l0 (lstF l0 (c)) := by
  have hw : IntKind.i64.wrap (1 + atF [] 0 5) = ((c : Nat) : Int) := by rw [wrap_z (by omega) (by omega)]; omega
  intro k
  induction k with
  | zero =>
    intro i M hi
    have hic : i = c := by omega
    subst hic
    rw [show 0 + 1 + M = M + 1 by omega, mrs_ttlB7]
    unfold mb_ttlB7
    rw [hok 0 (by omega) (by omega)]
    dsimp only [nmO]
    rw [hw, dge (Nat.le_refl _)]
  | succ k ih =>
    intro i M hi
    rw [show k + 1 + 1 + M = (k + 1 + M) + 1 by omega, mrs_ttlB7]
    obtain ⟨q1, q2⟩ := atF_range (k := 7) hbc (i := (i : Int)) (by omega) (by omega) (by omega)
    have r1 := prod_rng hbc i (by omega)
    have r2 := prod_rng hbc (i + 1) (by omega)
    have r3 := pow7 (show i + 1 ≤ 5 by omega)
    have e1 : prodL (lstF l0 (i + 1)) = prodL (lstF l0 i) * (atF l0 (i : Int) 7 + 1) := prodL_snoc _ _
    have e2 : sumF (lstF l0 (i + 1)) 0 = sumF (lstF l0 i) 0 + (atF l0 (i : Int) 7).toNat := sumF_snoc _ _
    have hs := sumF_le (lstF_turns hbc i (by omega)) i 0 (by rw [lstF_len]; omega)
    have w1 : IntKind.i64.wrap (atF l0 (i : Int) 7 + 1) = atF l0 (i : Int) 7 + 1 := wrap_n (by omega) (by omega)
    have w2 : IntKind.i64.wrap (prodL (lstF l0 i) * (atF l0 (i : Int) 7 + 1)) = prodL (lstF l0 (i + 1)) := by rw [← e1, wrap_z (by omega) (by omega)]
    have w3 : IntKind.i64.wrap (((sumF (lstF l0 i) 0 : Nat) : Int) + atF l0 (i : Int) 7) = ((sumF (lstF l0 (i + 1)) 0 : Nat) : Int) := by rw [wrap_z (by omega) (by omega), e2]; omega
    have w4 : apok true i 1 (lstF l0 i).length 1 (i + 1) 8 = true := apc (lstF_len _ _) (by omega) (by omega)
    have hn := ih (i + 1) M (by omega)
    unfold mb_ttlB7
    rw [hok 0 (by omega) (by omega)]
    dsimp only [nmO]
    rw [hw, dlt (show i < c by omega), hoc (i : Int) (by omega) (by omega)]
    dsimp only [nmO]
    rw [w4]
    dsimp only
    rw [w1, w2, w3, wr (show i < 2147483648 by omega)]
    exact hn
theorem b18_ttlB {n : Nat} {l0 : List Int} (k0 : Int → List Int → Option (V × H)) {cv : List Int} (hn : NN cv) (hl : cv.length < 1000) (hW : wsum 1 cv ≤ 1000000) : ∀ k j M, j + k = cv.length → wsum (j + 1) (cv.drop j) ≤ 1000000 → mr_ttlB18 40 k0 (k + 1 + M) (wsum (j + 1) (cv.drop j)) cv.length ((cv.length : Nat) : Int) ((j : Nat) : Int) l0 cv = k0 0 l0 := by
  intro k
  induction k with
  | zero =>
    intro j M hj _
    have hic : j = cv.length := by omega
    rw [show 0 + 1 + M = M + 1 by omega, mrs_ttlB18]
    unfold mb_ttlB18
    rw [dge (show cv.length ≤ j by omega), List.drop_of_length_le (show cv.length ≤ j by omega)]
    rfl
  | succ k ih =>
    intro j M hj hB
    have hlt : j < cv.length := by omega
    rw [show k + 1 + 1 + M = (k + 1 + M) + 1 by omega, mrs_ttlB18]
    have e1 := drop_w hlt
    have g1 := wsum_nn (cv.drop (j + 1)) (j + 1 + 1) (NN_drop hn _)
    have g2 : 0 ≤ cv.getD j 0 * ((j + 1 : Nat) : Int) := Int.mul_nonneg (hn j) (by omega)
    have w1 : IntKind.i64.wrap (((j : Nat) : Int) + 1) = ((j + 1 : Nat) : Int) := wr (by omega)
    have w2 : IntKind.i64.wrap (cv.getD j 0 * ((j + 1 : Nat) : Int)) = cv.getD j 0 * ((j + 1 : Nat) : Int) := wrap_z (by omega) (by omega)
    have w3 : IntKind.i64.wrap (wsum (j + 1) (cv.drop j) - cv.getD j 0 * ((j + 1 : Nat) : Int)) = wsum (j + 1 + 1) (cv.drop (j + 1)) := by rw [wrap_z (by omega) (by omega)]; omega
    have hh := ih (j + 1) M (by omega) (by omega)
    unfold mb_ttlB18
    rw [dlt hlt, din hlt, ix, getD_some hlt]
    dsimp only
    rw [w1, w2, w3]
    exact hh
theorem H_ttlB (n : Nat) (l0 : List Int) (hl0 : l0.length = n) (hb0 : bytesB l0 = true) : md_ttlB 40 n l0 = some (.bool true, [.at false (.int .u8 l0)]) := by
  unfold md_ttlB
  cases hg : longB n 0 with
  | true => rfl
  | false =>
    unfold longB at hg
    simp only [Bool.or_eq_false_iff, decide_eq_false_iff_not] at hg
    have hb' : bytesB [] = true := rfl
    have hok : ∀ i : Int, 0 ≤ i → i < 1000 → atOk 0 [] i = true := fun i h1 h2 => decide_eq_true ⟨rfl, by omega, h1, h2⟩
    have hat : ∀ i k : Int, 0 ≤ i → i < 1000 → 1 ≤ k → 0 ≤ atF [] i k ∧ atF [] i k < k := fun i k h1 h2 h3 => atF_range hb' h1 h2 h3
    obtain ⟨x0, e0⟩ : ∃ w : Int, w = atF [] 0 5 := ⟨_, rfl⟩
    have g0 : 0 ≤ x0 ∧ x0 < 5 := by rw [e0]; exact hat _ _ (by omega) (by omega) (by omega)
    obtain ⟨c, hc⟩ : ∃ c : Nat, x0 + 1 = (c : Int) := ⟨(x0 + 1).toNat, by omega⟩
    have hoc : ∀ i : Int, 0 ≤ i → i < 1000 → atOk n l0 i = true := fun i h1 h2 => decide_eq_true ⟨hl0, by omega, h1, h2⟩
    have hbc : bytesB l0 = true := hb0
    have h7 := b7_ttlB (n := n) (l0 := l0) hok hoc hbc (ce_ttlB7_0 40) (c := c) (by omega) (by rw [← e0]; exact hc) c 0 (39 - c) (by omega)
    rw [show c + 1 + (39 - c) = 40 by omega] at h7
    refine Eq.trans h7 ?_
    have hlen := lstF_len l0 c
    have htu := lstF_turns hbc c (by omega)
    have hct : ctOk (lstF l0 c) = true := by
      unfold ctOk
      rw [htu, hlen, decide_eq_true (show 1 ≤ c by omega), decide_eq_true (show c ≤ 6 by omega)]
      rfl
    obtain ⟨hnn, hW⟩ := ctV_W (l := lstF l0 c) (by omega) (by omega) htu
    have hcl := ctV_len' (l := lstF l0 c) (by omega) (by omega) htu
    have hsl := sumF_le htu c 0 (by rw [hlen]; omega)
    have hpr := prod_rng hbc c (by omega)
    have hp7 := pow7 (show c ≤ 5 by omega)
    generalize hcv : ctV (lstF l0 c) = cv at *
    have h18 := b18_ttlB (n := n) (l0 := l0) (ce_ttlB18_0 40) hnn (by omega) (by omega) cv.length 0 (39 - cv.length) (by omega) (by rw [List.drop_zero]; show wsum 1 cv ≤ 1000000; omega)
    rw [show cv.length + 1 + (39 - cv.length) = 40 by omega, List.drop_zero, hW] at h18
    have hne : (((cv.length : Nat) : Int) != IntKind.i64.wrap (((sumF (lstF l0 c) 0 : Nat) : Int) + 1)) = false := by
      rw [wrap_z (by omega) (by omega), hcl]
      simp
    have heq : eqOk cv.length cv.length cv cv = true := decide_eq_true ⟨rfl, rfl, by omega, by omega⟩
    show ce_ttlB7_0 40 (c) (prodL (lstF l0 (c))) ((sumF (lstF l0 (c)) 0 : Nat) : Int) l0 (lstF l0 (c)) = _
    unfold ce_ttlB7_0
    try dsimp only
    rw [decide_eq_true (show (lstF l0 c).length = c ∧ c < 2147483648 from ⟨hlen, by omega⟩), hct, hcv]
    dsimp only [nmO]
    rw [hne, heq, eqIB_self]
    refine Eq.trans h18 ?_
    show ce_ttlB18_0 40 0 l0 = _
    unfold ce_ttlB18_0
    try dsimp only
    rw [hok 1 (by omega) (by omega), hok 2 (by omega) (by omega)]
    simp only [tr_ttlB29]
    obtain ⟨y1, f0⟩ : ∃ w : Int, w = atF [] 1 7 := ⟨_, rfl⟩
    obtain ⟨y2, f1⟩ : ∃ w : Int, w = atF [] 2 7 := ⟨_, rfl⟩
    have r0 : 0 ≤ y1 ∧ y1 < 7 := by rw [f0]; exact hat _ _ (by omega) (by omega) (by omega)
    have r1 : 0 ≤ y2 ∧ y2 < 7 := by rw [f1]; exact hat _ _ (by omega) (by omega) (by omega)
    refine Eq.trans ?_ (tots [.at false (.int .u8 l0)] r0 r1)
    rw [f1, f0]
    kernel_rfl
theorem b7_ttlC {m : Nat} {l1 : List Int} (hok : ∀ i : Int, 0 ≤ i → i < 1000 → atOk m l1 i = true) (hoc : ∀ i : Int, 0 ≤ i → i < 1000 → atOk 0 [] i = true) (hbc : bytesB [] = true) (k0 : Nat → Nat → Int → Int → List Int → List Int → Option (V × H)) {c : Nat} (hc : c ≤ 5) (h1 : atF l1 0 5 + 1 = (c : Int)) : ∀ k i M, i + k = c → mr_ttlC7 40 k0 (k + 1 + M) m (i) (prodL (lstF [] (i))) ((sumF (lstF [] (i)) 0 : Nat) : Int) ((i : Nat) : Int) l1 (lstF [] (i)) = k0 m (c) (prodL (lstF [] (c))) ((sumF (lstF [] (c)) 0 : Nat) : Int) l1 (lstF [] (c)) := by
  have hw : IntKind.i64.wrap (1 + atF l1 0 5) = ((c : Nat) : Int) := by rw [wrap_z (by omega) (by omega)]; omega
  intro k
  induction k with
  | zero =>
    intro i M hi
    have hic : i = c := by omega
    subst hic
    rw [show 0 + 1 + M = M + 1 by omega, mrs_ttlC7]
    unfold mb_ttlC7
    rw [hok 0 (by omega) (by omega)]
    dsimp only [nmO]
    rw [hw, dge (Nat.le_refl _)]
  | succ k ih =>
    intro i M hi
    rw [show k + 1 + 1 + M = (k + 1 + M) + 1 by omega, mrs_ttlC7]
    obtain ⟨q1, q2⟩ := atF_range (k := 7) hbc (i := (i : Int)) (by omega) (by omega) (by omega)
    have r1 := prod_rng hbc i (by omega)
    have r2 := prod_rng hbc (i + 1) (by omega)
    have r3 := pow7 (show i + 1 ≤ 5 by omega)
    have e1 : prodL (lstF [] (i + 1)) = prodL (lstF [] i) * (atF [] (i : Int) 7 + 1) := prodL_snoc _ _
    have e2 : sumF (lstF [] (i + 1)) 0 = sumF (lstF [] i) 0 + (atF [] (i : Int) 7).toNat := sumF_snoc _ _
    have hs := sumF_le (lstF_turns hbc i (by omega)) i 0 (by rw [lstF_len]; omega)
    have w1 : IntKind.i64.wrap (atF [] (i : Int) 7 + 1) = atF [] (i : Int) 7 + 1 := wrap_n (by omega) (by omega)
    have w2 : IntKind.i64.wrap (prodL (lstF [] i) * (atF [] (i : Int) 7 + 1)) = prodL (lstF [] (i + 1)) := by rw [← e1, wrap_z (by omega) (by omega)]
    have w3 : IntKind.i64.wrap (((sumF (lstF [] i) 0 : Nat) : Int) + atF [] (i : Int) 7) = ((sumF (lstF [] (i + 1)) 0 : Nat) : Int) := by rw [wrap_z (by omega) (by omega), e2]; omega
    have w4 : apok true i 1 (lstF [] i).length 1 (i + 1) 8 = true := apc (lstF_len _ _) (by omega) (by omega)
    have hn := ih (i + 1) M (by omega)
    unfold mb_ttlC7
    rw [hok 0 (by omega) (by omega)]
    dsimp only [nmO]
    rw [hw, dlt (show i < c by omega), hoc (i : Int) (by omega) (by omega)]
    dsimp only [nmO]
    rw [w4]
    dsimp only
    rw [w1, w2, w3, wr (show i < 2147483648 by omega)]
    exact hn
theorem b18_ttlC {m : Nat} {l1 : List Int} (k0 : Nat → Int → List Int → Option (V × H)) {cv : List Int} (hn : NN cv) (hl : cv.length < 1000) (hW : wsum 1 cv ≤ 1000000) : ∀ k j M, j + k = cv.length → wsum (j + 1) (cv.drop j) ≤ 1000000 → mr_ttlC18 40 k0 (k + 1 + M) m (wsum (j + 1) (cv.drop j)) cv.length ((cv.length : Nat) : Int) ((j : Nat) : Int) l1 cv = k0 m 0 l1 := by
  intro k
  induction k with
  | zero =>
    intro j M hj _
    have hic : j = cv.length := by omega
    rw [show 0 + 1 + M = M + 1 by omega, mrs_ttlC18]
    unfold mb_ttlC18
    rw [dge (show cv.length ≤ j by omega), List.drop_of_length_le (show cv.length ≤ j by omega)]
    rfl
  | succ k ih =>
    intro j M hj hB
    have hlt : j < cv.length := by omega
    rw [show k + 1 + 1 + M = (k + 1 + M) + 1 by omega, mrs_ttlC18]
    have e1 := drop_w hlt
    have g1 := wsum_nn (cv.drop (j + 1)) (j + 1 + 1) (NN_drop hn _)
    have g2 : 0 ≤ cv.getD j 0 * ((j + 1 : Nat) : Int) := Int.mul_nonneg (hn j) (by omega)
    have w1 : IntKind.i64.wrap (((j : Nat) : Int) + 1) = ((j + 1 : Nat) : Int) := wr (by omega)
    have w2 : IntKind.i64.wrap (cv.getD j 0 * ((j + 1 : Nat) : Int)) = cv.getD j 0 * ((j + 1 : Nat) : Int) := wrap_z (by omega) (by omega)
    have w3 : IntKind.i64.wrap (wsum (j + 1) (cv.drop j) - cv.getD j 0 * ((j + 1 : Nat) : Int)) = wsum (j + 1 + 1) (cv.drop (j + 1)) := by rw [wrap_z (by omega) (by omega)]; omega
    have hh := ih (j + 1) M (by omega) (by omega)
    unfold mb_ttlC18
    rw [dlt hlt, din hlt, ix, getD_some hlt]
    dsimp only
    rw [w1, w2, w3]
    exact hh
theorem H_ttlC (m : Nat) (l1 : List Int) (hl : l1.length = m) (hb : bytesB l1 = true) : md_ttlC 40 m l1 = some (.bool true, [.at false (.int .u8 l1)]) := by
  unfold md_ttlC
  cases hg : longB 0 m with
  | true => rfl
  | false =>
    unfold longB at hg
    simp only [Bool.or_eq_false_iff, decide_eq_false_iff_not] at hg
    have hb' : bytesB l1 = true := hb
    have hok : ∀ i : Int, 0 ≤ i → i < 1000 → atOk m l1 i = true := fun i h1 h2 => decide_eq_true ⟨hl, by omega, h1, h2⟩
    have hat : ∀ i k : Int, 0 ≤ i → i < 1000 → 1 ≤ k → 0 ≤ atF l1 i k ∧ atF l1 i k < k := fun i k h1 h2 h3 => atF_range hb' h1 h2 h3
    obtain ⟨x0, e0⟩ : ∃ w : Int, w = atF l1 0 5 := ⟨_, rfl⟩
    have g0 : 0 ≤ x0 ∧ x0 < 5 := by rw [e0]; exact hat _ _ (by omega) (by omega) (by omega)
    obtain ⟨c, hc⟩ : ∃ c : Nat, x0 + 1 = (c : Int) := ⟨(x0 + 1).toNat, by omega⟩
    have hoc : ∀ i : Int, 0 ≤ i → i < 1000 → atOk 0 [] i = true := fun i h1 h2 => decide_eq_true ⟨rfl, by omega, h1, h2⟩
    have hbc : bytesB [] = true := rfl
    have h7 := b7_ttlC (m := m) (l1 := l1) hok hoc hbc (ce_ttlC7_0 40) (c := c) (by omega) (by rw [← e0]; exact hc) c 0 (39 - c) (by omega)
    rw [show c + 1 + (39 - c) = 40 by omega] at h7
    refine Eq.trans h7 ?_
    have hlen := lstF_len [] c
    have htu := lstF_turns hbc c (by omega)
    have hct : ctOk (lstF [] c) = true := by
      unfold ctOk
      rw [htu, hlen, decide_eq_true (show 1 ≤ c by omega), decide_eq_true (show c ≤ 6 by omega)]
      rfl
    obtain ⟨hnn, hW⟩ := ctV_W (l := lstF [] c) (by omega) (by omega) htu
    have hcl := ctV_len' (l := lstF [] c) (by omega) (by omega) htu
    have hsl := sumF_le htu c 0 (by rw [hlen]; omega)
    have hpr := prod_rng hbc c (by omega)
    have hp7 := pow7 (show c ≤ 5 by omega)
    generalize hcv : ctV (lstF [] c) = cv at *
    have h18 := b18_ttlC (m := m) (l1 := l1) (ce_ttlC18_0 40) hnn (by omega) (by omega) cv.length 0 (39 - cv.length) (by omega) (by rw [List.drop_zero]; show wsum 1 cv ≤ 1000000; omega)
    rw [show cv.length + 1 + (39 - cv.length) = 40 by omega, List.drop_zero, hW] at h18
    have hne : (((cv.length : Nat) : Int) != IntKind.i64.wrap (((sumF (lstF [] c) 0 : Nat) : Int) + 1)) = false := by
      rw [wrap_z (by omega) (by omega), hcl]
      simp
    have heq : eqOk cv.length cv.length cv cv = true := decide_eq_true ⟨rfl, rfl, by omega, by omega⟩
    show ce_ttlC7_0 40 m (c) (prodL (lstF [] (c))) ((sumF (lstF [] (c)) 0 : Nat) : Int) l1 (lstF [] (c)) = _
    unfold ce_ttlC7_0
    try dsimp only
    rw [decide_eq_true (show (lstF [] c).length = c ∧ c < 2147483648 from ⟨hlen, by omega⟩), hct, hcv]
    dsimp only [nmO]
    rw [hne, heq, eqIB_self]
    refine Eq.trans h18 ?_
    show ce_ttlC18_0 40 m 0 l1 = _
    unfold ce_ttlC18_0
    try dsimp only
    rw [hok 1 (by omega) (by omega), hok 2 (by omega) (by omega)]
    simp only [tr_ttlC29]
    obtain ⟨y1, f0⟩ : ∃ w : Int, w = atF l1 1 7 := ⟨_, rfl⟩
    obtain ⟨y2, f1⟩ : ∃ w : Int, w = atF l1 2 7 := ⟨_, rfl⟩
    have r0 : 0 ≤ y1 ∧ y1 < 7 := by rw [f0]; exact hat _ _ (by omega) (by omega) (by omega)
    have r1 : 0 ≤ y2 ∧ y2 < 7 := by rw [f1]; exact hat _ _ (by omega) (by omega) (by omega)
    refine Eq.trans ?_ (tots [.at false (.int .u8 l1)] r0 r1)
    rw [f1, f0]
    kernel_rfl
theorem b7_ttlD  (hok : ∀ i : Int, 0 ≤ i → i < 1000 → atOk 0 [] i = true) (hoc : ∀ i : Int, 0 ≤ i → i < 1000 → atOk 0 [] i = true) (hbc : bytesB [] = true) (k0 : Nat → Int → Int → List Int → Option (V × H)) {c : Nat} (hc : c ≤ 5) (h1 : atF [] 0 5 + 1 = (c : Int)) : ∀ k i M, i + k = c → mr_ttlD7 40 k0 (k + 1 + M) (i) (prodL (lstF [] (i))) ((sumF (lstF [] (i)) 0 : Nat) : Int) ((i : Nat) : Int) (lstF [] (i)) = k0 (c) (prodL (lstF [] (c))) ((sumF (lstF [] (c)) 0 : Nat) : Int) (lstF [] (c)) := by
  have hw : IntKind.i64.wrap (1 + atF [] 0 5) = ((c : Nat) : Int) := by rw [wrap_z (by omega) (by omega)]; omega
  intro k
  induction k with
  | zero =>
    intro i M hi
    have hic : i = c := by omega
    subst hic
    rw [show 0 + 1 + M = M + 1 by omega, mrs_ttlD7]
    unfold mb_ttlD7
    rw [hok 0 (by omega) (by omega)]
    dsimp only [nmO]
    rw [hw, dge (Nat.le_refl _)]
  | succ k ih =>
    intro i M hi
    rw [show k + 1 + 1 + M = (k + 1 + M) + 1 by omega, mrs_ttlD7]
    obtain ⟨q1, q2⟩ := atF_range (k := 7) hbc (i := (i : Int)) (by omega) (by omega) (by omega)
    have r1 := prod_rng hbc i (by omega)
    have r2 := prod_rng hbc (i + 1) (by omega)
    have r3 := pow7 (show i + 1 ≤ 5 by omega)
    have e1 : prodL (lstF [] (i + 1)) = prodL (lstF [] i) * (atF [] (i : Int) 7 + 1) := prodL_snoc _ _
    have e2 : sumF (lstF [] (i + 1)) 0 = sumF (lstF [] i) 0 + (atF [] (i : Int) 7).toNat := sumF_snoc _ _
    have hs := sumF_le (lstF_turns hbc i (by omega)) i 0 (by rw [lstF_len]; omega)
    have w1 : IntKind.i64.wrap (atF [] (i : Int) 7 + 1) = atF [] (i : Int) 7 + 1 := wrap_n (by omega) (by omega)
    have w2 : IntKind.i64.wrap (prodL (lstF [] i) * (atF [] (i : Int) 7 + 1)) = prodL (lstF [] (i + 1)) := by rw [← e1, wrap_z (by omega) (by omega)]
    have w3 : IntKind.i64.wrap (((sumF (lstF [] i) 0 : Nat) : Int) + atF [] (i : Int) 7) = ((sumF (lstF [] (i + 1)) 0 : Nat) : Int) := by rw [wrap_z (by omega) (by omega), e2]; omega
    have w4 : apok true i 1 (lstF [] i).length 1 (i + 1) 8 = true := apc (lstF_len _ _) (by omega) (by omega)
    have hn := ih (i + 1) M (by omega)
    unfold mb_ttlD7
    rw [hok 0 (by omega) (by omega)]
    dsimp only [nmO]
    rw [hw, dlt (show i < c by omega), hoc (i : Int) (by omega) (by omega)]
    dsimp only [nmO]
    rw [w4]
    dsimp only
    rw [w1, w2, w3, wr (show i < 2147483648 by omega)]
    exact hn
theorem b18_ttlD  (k0 : Int → Option (V × H)) {cv : List Int} (hn : NN cv) (hl : cv.length < 1000) (hW : wsum 1 cv ≤ 1000000) : ∀ k j M, j + k = cv.length → wsum (j + 1) (cv.drop j) ≤ 1000000 → mr_ttlD18 40 k0 (k + 1 + M) (wsum (j + 1) (cv.drop j)) cv.length ((cv.length : Nat) : Int) ((j : Nat) : Int) cv = k0 0 := by
  intro k
  induction k with
  | zero =>
    intro j M hj _
    have hic : j = cv.length := by omega
    rw [show 0 + 1 + M = M + 1 by omega, mrs_ttlD18]
    unfold mb_ttlD18
    rw [dge (show cv.length ≤ j by omega), List.drop_of_length_le (show cv.length ≤ j by omega)]
    rfl
  | succ k ih =>
    intro j M hj hB
    have hlt : j < cv.length := by omega
    rw [show k + 1 + 1 + M = (k + 1 + M) + 1 by omega, mrs_ttlD18]
    have e1 := drop_w hlt
    have g1 := wsum_nn (cv.drop (j + 1)) (j + 1 + 1) (NN_drop hn _)
    have g2 : 0 ≤ cv.getD j 0 * ((j + 1 : Nat) : Int) := Int.mul_nonneg (hn j) (by omega)
    have w1 : IntKind.i64.wrap (((j : Nat) : Int) + 1) = ((j + 1 : Nat) : Int) := wr (by omega)
    have w2 : IntKind.i64.wrap (cv.getD j 0 * ((j + 1 : Nat) : Int)) = cv.getD j 0 * ((j + 1 : Nat) : Int) := wrap_z (by omega) (by omega)
    have w3 : IntKind.i64.wrap (wsum (j + 1) (cv.drop j) - cv.getD j 0 * ((j + 1 : Nat) : Int)) = wsum (j + 1 + 1) (cv.drop (j + 1)) := by rw [wrap_z (by omega) (by omega)]; omega
    have hh := ih (j + 1) M (by omega) (by omega)
    unfold mb_ttlD18
    rw [dlt hlt, din hlt, ix, getD_some hlt]
    dsimp only
    rw [w1, w2, w3]
    exact hh
theorem H_ttlD  : md_ttlD 40  = some (.bool true, []) := by
  unfold md_ttlD
  cases hg : longB 0 0 with
  | true => rfl
  | false =>
    unfold longB at hg
    simp only [Bool.or_eq_false_iff, decide_eq_false_iff_not] at hg
    have hb' : bytesB [] = true := rfl
    have hok : ∀ i : Int, 0 ≤ i → i < 1000 → atOk 0 [] i = true := fun i h1 h2 => decide_eq_true ⟨rfl, by omega, h1, h2⟩
    have hat : ∀ i k : Int, 0 ≤ i → i < 1000 → 1 ≤ k → 0 ≤ atF [] i k ∧ atF [] i k < k := fun i k h1 h2 h3 => atF_range hb' h1 h2 h3
    obtain ⟨x0, e0⟩ : ∃ w : Int, w = atF [] 0 5 := ⟨_, rfl⟩
    have g0 : 0 ≤ x0 ∧ x0 < 5 := by rw [e0]; exact hat _ _ (by omega) (by omega) (by omega)
    obtain ⟨c, hc⟩ : ∃ c : Nat, x0 + 1 = (c : Int) := ⟨(x0 + 1).toNat, by omega⟩
    have hoc : ∀ i : Int, 0 ≤ i → i < 1000 → atOk 0 [] i = true := fun i h1 h2 => decide_eq_true ⟨rfl, by omega, h1, h2⟩
    have hbc : bytesB [] = true := rfl
    have h7 := b7_ttlD  hok hoc hbc (ce_ttlD7_0 40) (c := c) (by omega) (by rw [← e0]; exact hc) c 0 (39 - c) (by omega)
    rw [show c + 1 + (39 - c) = 40 by omega] at h7
    refine Eq.trans h7 ?_
    have hlen := lstF_len [] c
    have htu := lstF_turns hbc c (by omega)
    have hct : ctOk (lstF [] c) = true := by
      unfold ctOk
      rw [htu, hlen, decide_eq_true (show 1 ≤ c by omega), decide_eq_true (show c ≤ 6 by omega)]
      rfl
    obtain ⟨hnn, hW⟩ := ctV_W (l := lstF [] c) (by omega) (by omega) htu
    have hcl := ctV_len' (l := lstF [] c) (by omega) (by omega) htu
    have hsl := sumF_le htu c 0 (by rw [hlen]; omega)
    have hpr := prod_rng hbc c (by omega)
    have hp7 := pow7 (show c ≤ 5 by omega)
    generalize hcv : ctV (lstF [] c) = cv at *
    have h18 := b18_ttlD  (ce_ttlD18_0 40) hnn (by omega) (by omega) cv.length 0 (39 - cv.length) (by omega) (by rw [List.drop_zero]; show wsum 1 cv ≤ 1000000; omega)
    rw [show cv.length + 1 + (39 - cv.length) = 40 by omega, List.drop_zero, hW] at h18
    have hne : (((cv.length : Nat) : Int) != IntKind.i64.wrap (((sumF (lstF [] c) 0 : Nat) : Int) + 1)) = false := by
      rw [wrap_z (by omega) (by omega), hcl]
      simp
    have heq : eqOk cv.length cv.length cv cv = true := decide_eq_true ⟨rfl, rfl, by omega, by omega⟩
    show ce_ttlD7_0 40 (c) (prodL (lstF [] (c))) ((sumF (lstF [] (c)) 0 : Nat) : Int) (lstF [] (c)) = _
    unfold ce_ttlD7_0
    try dsimp only
    rw [decide_eq_true (show (lstF [] c).length = c ∧ c < 2147483648 from ⟨hlen, by omega⟩), hct, hcv]
    dsimp only [nmO]
    rw [hne, heq, eqIB_self]
    refine Eq.trans h18 ?_
    show ce_ttlD18_0 40 0 = _
    unfold ce_ttlD18_0
    try dsimp only
    rw [hok 1 (by omega) (by omega), hok 2 (by omega) (by omega)]
    obtain ⟨y1, f0⟩ : ∃ w : Int, w = atF [] 1 7 := ⟨_, rfl⟩
    obtain ⟨y2, f1⟩ : ∃ w : Int, w = atF [] 2 7 := ⟨_, rfl⟩
    have r0 : 0 ≤ y1 ∧ y1 < 7 := by rw [f0]; exact hat _ _ (by omega) (by omega) (by omega)
    have r1 : 0 ≤ y2 ∧ y2 < 7 := by rw [f1]; exact hat _ _ (by omega) (by omega) (by omega)
    refine Eq.trans ?_ (tots [] r0 r1)
    rw [f1, f0]
    kernel_rfl
noncomputable section
def gBytes : G := fun vs h => match vs, h with
  | [.sl 0 0 n, .sl 1 0 m], [.at false (.int .u8 l0), .at false (.int .u8 l1)] => if n = l0.length ∧ m = l1.length ∧ bytesB l0 = true ∧ bytesB l1 = true then some (.bool true, [.at false (.int .u8 l0), .at false (.int .u8 l1)]) else none
  | [.sl 0 0 n, .nil], [.at false (.int .u8 l0)] => if n = l0.length ∧ bytesB l0 = true then some (.bool true, [.at false (.int .u8 l0)]) else none
  | [.nil, .sl 0 0 m], [.at false (.int .u8 l1)] => if m = l1.length ∧ bytesB l1 = true then some (.bool true, [.at false (.int .u8 l1)]) else none
  | [.nil, .nil], [] => some (.bool true, [])
  | _, _ => none
theorem bytes_wf {l : List Int} (h : ∀ z ∈ l, (Lit.int .u8 z).wf = true) : bytesB l = true := by
  unfold bytesB
  rw [List.all_eq_true]
  intro z hz
  have hw := h z hz
  simp only [Lit.wf, Bool.and_eq_true, decide_eq_true_eq] at hw
  have h1 : (0 : Int) ≤ z := hw.1
  have h2 : z ≤ 255 := hw.2
  exact decide_eq_true (by omega)
theorem ok_lawttl : FnOk Try.prog 6 gBytes := by
  intro vs hp v h' e
  rw [T.run_of] at e
  unfold gBytes at e
  split at e
  · rename_i n m l0 l1
    split at e
    · rename_i hc
      cases e
      refine FnT.runs tabok_ttlA Try.func6 rfl rfl an_ttlA 40 _ _ _ _ ?_
      rw [T.run_of]
      exact Eq.trans (mdl_ttlA 40 n m l0 l1) (H_ttlA n m l0 l1 hc.2.1.symm hc.2.2.2 hc.1.symm hc.2.2.1)
    · cases e
  · rename_i n l0
    split at e
    · rename_i hc
      cases e
      refine FnT.runs tabok_ttlB Try.func6 rfl rfl an_ttlB 40 _ _ _ _ ?_
      rw [T.run_of]
      exact Eq.trans (mdl_ttlB 40 n l0) (H_ttlB n l0 hc.1.symm hc.2)
    · cases e
  · rename_i m l1
    split at e
    · rename_i hc
      cases e
      refine FnT.runs tabok_ttlC Try.func6 rfl rfl an_ttlC 40 _ _ _ _ ?_
      rw [T.run_of]
      exact Eq.trans (mdl_ttlC 40 m l1) (H_ttlC m l1 hc.1.symm hc.2)
    · cases e
  · cases e
    refine FnT.runs tabok_ttlD Try.func6 rfl rfl an_ttlD 40 _ _ _ _ ?_
    rw [T.run_of]
    exact Eq.trans (mdl_ttlD 40) H_ttlD
  · cases e
end
end Go.Proofs.Ythcjbchkagkaaaa.Ab
