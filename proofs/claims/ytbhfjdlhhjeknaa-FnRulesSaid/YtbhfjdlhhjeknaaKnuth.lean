/- Long division: a digit of the quotient out of the upper digits. Only lemmas. -/
import Derived.Test.YtbhfjdlhhjeknaaBigW
namespace Go.Proofs.Ytbhfjdlhhjeknaa.Ab
set_option linter.unusedVariables false
set_option linter.unusedSimpArgs false
open Go

theorem dgt_two {U k : Nat} (h : U < 4294967296 ^ (k + 2)) : U / 4294967296 ^ k = dgt U (k + 1) * 4294967296 + dgt U k := by
  unfold dgt
  have e : 4294967296 ^ (k + 1) = 4294967296 ^ k * 4294967296 := Nat.pow_succ _ _
  rw [e, ← Nat.div_div_eq_div_mul]
  have h1 : U / 4294967296 ^ k < 4294967296 * 4294967296 := by
    rw [Nat.div_lt_iff_lt_mul (bpow_pos k)]
    have : 4294967296 ^ (k + 2) = 4294967296 * 4294967296 * 4294967296 ^ k := by rw [Nat.pow_add, Nat.mul_comm]
    omega
  generalize U / 4294967296 ^ k = x at h1 ⊢
  omega
/-- The upper digits of the divisor (moved by one digit), 'b1' being its first one. -/
structure Kn (W b P two third b1 b2 : Nat) : Prop where
  P0 : 0 < P
  b0 : 0 < b
  b1lo : 2147483648 ≤ b1
  b1hi : b1 < 4294967296
  b2hi : b2 < 4294967296
  t3 : third < 4294967296
  bt : (b1 * 4294967296 + b2) * P ≤ b * 4294967296
  bt' : b * 4294967296 < (b1 * 4294967296 + b2 + 1) * P
  tt : (two * 4294967296 + third) * P ≤ W * 4294967296
  tt' : W * 4294967296 < (two * 4294967296 + third + 1) * P
  wb : W < b * 4294967296
theorem Kn.two_lt {W b P two third b1 b2 : Nat} (k : Kn W b P two third b1 b2) : two < (b1 + 1) * 4294967296 := by
  -- two * 4294967296 * P ≤ W * 4294967296 < b * 4294967296 * 4294967296 < (b1 + 1) * 4294967296 * 4294967296 * P
  have h1 : two * 4294967296 * P ≤ W * 4294967296 := Nat.le_trans (Nat.mul_le_mul_right _ (Nat.le_add_right _ _)) k.tt
  have h2 : W * 4294967296 < b * 4294967296 * 4294967296 := Nat.mul_lt_mul_of_pos_right k.wb (by decide)
  have h3 : b * 4294967296 * 4294967296 < (b1 * 4294967296 + b2 + 1) * P * 4294967296 := Nat.mul_lt_mul_of_pos_right k.bt' (by decide)
  have h4 : (b1 * 4294967296 + b2 + 1) * P * 4294967296 ≤ (b1 + 1) * 4294967296 * P * 4294967296 := Nat.mul_le_mul_right _ (Nat.mul_le_mul_right _ (by have := k.b2hi; omega))
  have h5 : two * (P * 4294967296) < (b1 + 1) * 4294967296 * (P * 4294967296) := by
    have e1 : two * 4294967296 * P = two * (P * 4294967296) := by rw [Nat.mul_assoc, Nat.mul_comm 4294967296]
    have e2 : (b1 + 1) * 4294967296 * P * 4294967296 = (b1 + 1) * 4294967296 * (P * 4294967296) := Nat.mul_assoc _ _ _
    omega
  exact Nat.lt_of_mul_lt_mul_right (a := P * 4294967296) h5
/-- No digit is too small that is the quotient of the upper digits. -/
theorem Kn.mul_le {W b P two third b1 b2 q : Nat} (k : Kn W b P two third b1 b2) (hq : q * b ≤ W) : q * (b1 * 4294967296 + b2) ≤ two * 4294967296 + third := by
  have h1 : q * ((b1 * 4294967296 + b2) * P) ≤ q * (b * 4294967296) := Nat.mul_le_mul_left _ k.bt
  have h2 : q * (b * 4294967296) ≤ W * 4294967296 := by rw [← Nat.mul_assoc]; exact Nat.mul_le_mul_right _ hq
  have h3 : q * (b1 * 4294967296 + b2) * P < (two * 4294967296 + third + 1) * P := by
    have e : q * (b1 * 4294967296 + b2) * P = q * ((b1 * 4294967296 + b2) * P) := Nat.mul_assoc _ _ _
    have := k.tt'
    omega
  exact Nat.le_of_lt_succ (Nat.lt_of_mul_lt_mul_right h3)
theorem Kn.first {W b P two third b1 b2 q : Nat} (k : Kn W b P two third b1 b2) (hq : q * b ≤ W) : q ≤ two / b1 := by
  have h1 := k.mul_le hq
  rw [Nat.le_div_iff_mul_le (by have := k.b1lo; omega)]
  have h2 : q * b1 * 4294967296 ≤ q * (b1 * 4294967296 + b2) := by rw [Nat.mul_assoc]; exact Nat.mul_le_mul_left _ (Nat.le_add_right _ _)
  have h3 := k.t3
  omega
theorem Kn.less {W b P two third b1 b2 q qh r : Nat} (k : Kn W b P two third b1 b2) (hq : q * b ≤ W) (hle : q ≤ qh) (he : qh * b1 + r = two) (ht : r * 4294967296 + third < qh * b2) : q < qh := by
  rcases Nat.lt_or_ge q qh with h | h
  · exact h
  · have e : qh = q := by omega
    subst e
    have h1 := k.mul_le hq
    rw [← he, Nat.mul_add, Nat.add_mul, Nat.mul_assoc] at h1
    omega
theorem Kn.near {W b P two third b1 b2 qh r : Nat} (k : Kn W b P two third b1 b2) (he : qh * b1 + r = two) (hb : qh < 4294967296) (h : 4294967296 ≤ r ∨ qh * b2 ≤ r * 4294967296 + third) : (qh - 1) * b ≤ W := by
  cases qh with
  | zero => simp
  | succ p =>
    rw [Nat.add_sub_cancel]
    have h1 : p * (b1 * 4294967296 + b2 + 1) ≤ two * 4294967296 + third := by
      have e1 : p * (b1 * 4294967296 + b2 + 1) = p * b1 * 4294967296 + p * b2 + p := by rw [Nat.mul_add, Nat.mul_add, Nat.mul_one, Nat.mul_assoc]
      have e2 : two * 4294967296 = p * b1 * 4294967296 + b1 * 4294967296 + r * 4294967296 := by rw [← he, Nat.add_mul, Nat.succ_mul, Nat.add_mul]
      have h2 : p ≤ b1 * 4294967296 := by have := k.b1lo; omega
      have h3 : p * b2 ≤ r * 4294967296 + third := by
        rcases h with h | h
        · have h4 : p * b2 ≤ 4294967296 * 4294967296 := Nat.mul_le_mul (by omega) (by have := k.b2hi; omega)
          have h5 : 4294967296 * 4294967296 ≤ r * 4294967296 := Nat.mul_le_mul_right _ h
          omega
        · rw [Nat.succ_mul] at h
          omega
      omega
    have h2 : p * (b * 4294967296) ≤ p * ((b1 * 4294967296 + b2 + 1) * P) := Nat.mul_le_mul_left _ (Nat.le_of_lt k.bt')
    have h3 : p * (b1 * 4294967296 + b2 + 1) * P ≤ (two * 4294967296 + third) * P := Nat.mul_le_mul_right _ h1
    have h4 := k.tt
    have e : p * (b1 * 4294967296 + b2 + 1) * P = p * ((b1 * 4294967296 + b2 + 1) * P) := Nat.mul_assoc _ _ _
    have h5 : p * b * 4294967296 ≤ W * 4294967296 := by
      rw [Nat.mul_assoc]
      exact Nat.le_trans h2 (Nat.le_trans (Nat.le_of_eq e.symm) (Nat.le_trans h3 h4))
    exact Nat.le_of_mul_le_mul_right (c := 4294967296) h5 (Nat.succ_pos _)
/-- The upper digits of two numbers. -/
theorem kn_of {U b n j : Nat} (hn : 0 < n) (hb : b < 4294967296 ^ n) (hb2 : 2147483648 * 4294967296 ^ (n - 1) ≤ b) (hU : U < b * 4294967296 ^ (j + 1)) :
    Kn (U / 4294967296 ^ j) b (4294967296 ^ (n - 1)) (dgt U (j + n) * 4294967296 + dgt U (j + n - 1)) (if 1 < n then dgt U (j + n - 2) else 0) (dgt b (n - 1)) (if 1 < n then dgt b (n - 2) else 0) := by
  have hP := bpow_pos (n - 1)
  have hj := bpow_pos j
  have hpos : 0 < b := Nat.lt_of_lt_of_le (Nat.mul_pos (by decide) hP) hb2
  have hUn : U < 4294967296 ^ (j + n + 1) := by
    have h1 : b * 4294967296 ^ (j + 1) < 4294967296 ^ n * 4294967296 ^ (j + 1) := Nat.mul_lt_mul_of_pos_right hb (bpow_pos _)
    rw [← Nat.pow_add, show n + (j + 1) = j + n + 1 by omega] at h1
    omega
  have hWlt : U / 4294967296 ^ j < b * 4294967296 := by
    rw [Nat.div_lt_iff_lt_mul hj, Nat.mul_assoc, Nat.mul_comm 4294967296, ← Nat.pow_succ]
    exact hU
  have hb1 : dgt b (n - 1) = b / 4294967296 ^ (n - 1) := by
    unfold dgt
    rw [Nat.mod_eq_of_lt]
    rw [Nat.div_lt_iff_lt_mul hP, ← Nat.pow_succ', show (n - 1).succ = n by omega]
    exact hb
  have htwo : U / 4294967296 ^ j / 4294967296 ^ (n - 1) = dgt U (j + n) * 4294967296 + dgt U (j + n - 1) := by
    rw [Nat.div_div_eq_div_mul, ← Nat.pow_add, show j + (n - 1) = j + n - 1 by omega, dgt_two (by rw [show j + n - 1 + 2 = j + n + 1 by omega]; exact hUn), show j + n - 1 + 1 = j + n by omega]
  have hb1lo : 2147483648 ≤ dgt b (n - 1) := by
    rw [hb1, Nat.le_div_iff_mul_le hP]
    exact hb2
  by_cases h1 : 1 < n
  · rw [if_pos h1, if_pos h1]
    have eP : 4294967296 ^ (n - 1) = 4294967296 ^ (n - 2) * 4294967296 := by rw [← Nat.pow_succ]; congr 1; omega
    have hbt : b / 4294967296 ^ (n - 2) = dgt b (n - 1) * 4294967296 + dgt b (n - 2) := by
      rw [dgt_two (by rw [show n - 2 + 2 = n by omega]; exact hb), show n - 2 + 1 = n - 1 by omega]
    have hT : U / 4294967296 ^ j / 4294967296 ^ (n - 2) = (dgt U (j + n) * 4294967296 + dgt U (j + n - 1)) * 4294967296 + dgt U (j + n - 2) := by
      rw [← htwo, eP, ← Nat.div_div_eq_div_mul]
      have e : dgt U (j + n - 2) = U / 4294967296 ^ j / 4294967296 ^ (n - 2) % 4294967296 := by
        unfold dgt
        rw [Nat.div_div_eq_div_mul, ← Nat.pow_add, show j + (n - 2) = j + n - 2 by omega]
      rw [e]
      omega
    have hQ := bpow_pos (n - 2)
    refine ⟨hP, hpos, hb1lo, dgt_lt _ _, dgt_lt _ _, dgt_lt _ _, ?_, ?_, ?_, ?_, hWlt⟩
    · rw [← hbt, eP, ← Nat.mul_assoc]
      exact Nat.mul_le_mul_right _ (Nat.div_mul_le_self _ _)
    · rw [← hbt, eP, ← Nat.mul_assoc]
      exact Nat.mul_lt_mul_of_pos_right (by rw [Nat.mul_comm]; exact Nat.lt_mul_div_succ b hQ) (by decide)
    · rw [← hT, eP, ← Nat.mul_assoc]
      exact Nat.mul_le_mul_right _ (Nat.div_mul_le_self _ _)
    · rw [← hT, eP, ← Nat.mul_assoc]
      exact Nat.mul_lt_mul_of_pos_right (by rw [Nat.mul_comm]; exact Nat.lt_mul_div_succ _ hQ) (by decide)
  · have e1 : n = 1 := by omega
    subst e1
    rw [if_neg h1, if_neg h1]
    have hb1' : dgt b 0 = b := by rw [hb1]; simp
    have htwo' : dgt U (j + 1) * 4294967296 + dgt U (j + 1 - 1) = U / 4294967296 ^ j := by rw [← htwo]; simp
    refine ⟨hP, hpos, hb1lo, dgt_lt _ _, by decide, by decide, ?_, ?_, ?_, ?_, hWlt⟩
    · rw [show (1 : Nat) - 1 = 0 from rfl, hb1']; simp
    · rw [show (1 : Nat) - 1 = 0 from rfl, hb1']; simp
    · rw [htwo']; simp
    · rw [htwo']; simp
theorem or32 {x y : Nat} (hx : x < 4294967296) (hy : y < 4294967296) : (BitVec.ofInt 64 ((x * 4294967296 : Nat) : Int) ||| BitVec.ofInt 64 (y : Int)).toNat = x * 4294967296 + y := by
  have h := or_shift (c := y) (x := x) (y := 32) hy (by omega)
  have e : x * 2 ^ 32 = x * 4294967296 := rfl
  rw [e] at h
  rw [BitVec.or_comm, h]
  omega
theorem zero_or {y : Nat} (hy : y < 4294967296) : (BitVec.ofInt 64 0 ||| BitVec.ofInt 64 (y : Int)).toNat = y := by
  have h := or32 (x := 0) (y := y) (by decide) hy
  simpa using h
theorem and_mask {x : Nat} (hx : x < 18446744073709551616) : (BitVec.ofInt 64 (x : Int) &&& BitVec.ofInt 64 4294967295).toNat = x % 4294967296 := by
  have e : ∀ n : Nat, n < 18446744073709551616 → (BitVec.ofInt 64 (n : Int)).toNat = n := by
    intro n hn
    simp [BitVec.toNat_ofInt]
    omega
  rw [BitVec.toNat_and, e x hx, show (4294967295 : Int) = ((4294967295 : Nat) : Int) by omega, e _ (by omega)]
  exact Nat.and_two_pow_sub_one_eq_mod x 32
end Go.Proofs.Ytbhfjdlhhjeknaa.Ab
