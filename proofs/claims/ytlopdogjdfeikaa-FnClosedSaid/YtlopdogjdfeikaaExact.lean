/- Numbers of 64 bits: bounds of what is rounded, exact results, whole parts. Only lemmas. -/
import Derived.Test.YtlopdogjdfeikaaSum
namespace Go.Proofs.Ytlopdogjdfeikaa.Ab
set_option linter.unusedVariables false
set_option linter.unusedSimpArgs false
open Go

/-! ### Bounds -/
/-- A float64 that is a number below 2 to the power of B. -/
def BelD (B : Int) (x : Nat) : Prop := ∃ s m e, Ieee.double.read x = .number s m e ∧ (m = 0 ∨ e + (m.log2 : Int) < B)
theorem BelD.mono {A B : Int} {x : Nat} (h : BelD A x) (hAB : A ≤ B) : BelD B x := by
  obtain ⟨s, m, e, h, h2⟩ := h
  exact ⟨s, m, e, h, by omega⟩
theorem beld_near {s : Bool} {m : Nat} {p B : Int} (h : m = 0 ∨ p + (m.log2 : Int) < B) (h1 : -1000 ≤ B) (h2 : B ≤ 1000) : BelD (B + 1) (Ieee.double.nearest s m p) := by
  obtain ⟨r, h3, h4⟩ := near_le Ieee.double s m p B (by show (-1074 : Int) + 52 ≤ B; omega) h
  have h4 : r ≤ (B - (-1074) - 52 + 1).toNat * 4503599627370496 := h4
  rw [h3]
  obtain ⟨m', e', h5, h6, _⟩ := read64_le s r (B - (-1074) - 52 + 1).toNat h4 (by omega)
  exact ⟨s, m', e', h5, by omega⟩
theorem beld_mul {A B : Int} {x y : Nat} (hx : BelD A x) (hy : BelD B y) (h1 : -1000 ≤ A + B) (h2 : A + B ≤ 1000) : BelD (A + B + 1) (fop .mul .f64 x y) := by
  obtain ⟨s, m, i, hx, hm⟩ := hx
  obtain ⟨t, n, j, hy, hn⟩ := hy
  rw [mul_num hx hy]
  refine beld_near ?_ h1 h2
  by_cases m0 : m = 0
  · left; rw [m0, Nat.zero_mul]
  by_cases n0 : n = 0
  · left; rw [n0, Nat.mul_zero]
  right
  have := log_mul m0 n0
  omega
theorem sum_log {s t : Bool} {m n : Nat} {i j B : Int} (hm : m = 0 ∨ i + (m.log2 : Int) < B) (hn : n = 0 ∨ j + (n.log2 : Int) < B) :
    (Ieee.signed s m (i - min i j).toNat + Ieee.signed t n (j - min i j).toNat).natAbs = 0 ∨ min i j + (((Ieee.signed s m (i - min i j).toNat + Ieee.signed t n (j - min i j).toNat).natAbs).log2 : Int) < B + 1 := by
  generalize hbase : min i j = base
  generalize hT : (Ieee.signed s m (i - base).toNat + Ieee.signed t n (j - base).toNat).natAbs = T
  by_cases T0 : T = 0
  · exact .inl T0
  right
  have hle : T ≤ m * 2 ^ (i - base).toNat + n * 2 ^ (j - base).toNat := by
    rw [← hT, ← signed_abs s, ← signed_abs t]
    exact Int.natAbs_add_le _ _
  have hbB : base < B := by
    rcases hm with h | h
    · rcases hn with k | k
      · subst h; subst k; omega
      · omega
    · omega
  have key : ∀ (q : Nat) (l : Int), base ≤ l → (q = 0 ∨ l + (q.log2 : Int) < B) → q * 2 ^ (l - base).toNat < 2 ^ (B - base).toNat := by
    intro q l hl h
    by_cases hq : q = 0
    · subst hq
      rw [Nat.zero_mul]
      exact Nat.pow_pos (by decide)
    · have h := h.resolve_left hq
      have h3 : q < 2 ^ (q.log2 + 1) := Nat.lt_log2_self
      refine Nat.lt_of_lt_of_le (Nat.mul_lt_mul_of_pos_right h3 (Nat.pow_pos (by decide))) ?_
      rw [← Nat.pow_add]
      exact Nat.pow_le_pow_right (by decide) (by omega)
  have k1 := key m i (by omega) hm
  have k2 := key n j (by omega) hn
  have h3 : T < 2 ^ ((B - base).toNat + 1) := by
    rw [Nat.pow_succ]
    omega
  have := (Nat.log2_lt T0).2 h3
  omega
theorem beld_add {B : Int} {x y : Nat} (hx : BelD B x) (hy : BelD B y) (h1 : -1000 ≤ B) (h2 : B ≤ 999) : BelD (B + 2) (fop .add .f64 x y) := by
  obtain ⟨s, m, i, hx, hm⟩ := hx
  obtain ⟨t, n, j, hy, hn⟩ := hy
  have e : ∃ b : Bool, fop .add .f64 x y = Ieee.double.nearest b (Ieee.signed s m (i - min i j).toNat + Ieee.signed t n (j - min i j).toNat).natAbs (min i j) := by
    unfold fop floatBits
    show ∃ b : Bool, (Ieee.double.add x y).getD _ = _
    unfold Ieee.Format.add
    rw [hx, hy]
    exact ⟨_, rfl⟩
  obtain ⟨b, e⟩ := e
  rw [e, show B + 2 = (B + 1) + 1 by omega]
  exact beld_near (sum_log hm hn) (by omega) (by omega)
theorem beld_sub {B : Int} {x y : Nat} (hx : BelD B x) (hy : BelD B y) (h1 : -1000 ≤ B) (h2 : B ≤ 999) : BelD (B + 2) (fop .sub .f64 x y) := by
  obtain ⟨s, m, i, hx, hm⟩ := hx
  obtain ⟨t, n, j, hy, hn⟩ := hy
  have e : ∃ b : Bool, fop .sub .f64 x y = Ieee.double.nearest b (Ieee.signed s m (i - min i j).toNat + Ieee.signed (!t) n (j - min i j).toNat).natAbs (min i j) := by
    unfold fop floatBits
    show ∃ b : Bool, (Ieee.double.sub x y).getD _ = _
    unfold Ieee.Format.sub
    rw [hx, hy]
    exact ⟨_, rfl⟩
  obtain ⟨b, e⟩ := e
  rw [e, show B + 2 = (B + 1) + 1 by omega]
  exact beld_near (sum_log hm hn) (by omega) (by omega)
theorem beld_quo {A : Int} {x y n : Nat} {j : Int} (hx : BelD A x) (hy : Ieee.double.read y = .number false n j) (hn : n ≠ 0) (hj : 0 ≤ j + (n.log2 : Int)) (h1 : -1000 ≤ A) (h2 : A ≤ 1000) : BelD (A + 1) (fop .quo .f64 x y) := by
  obtain ⟨s, m, i, hx, hm⟩ := hx
  have e : fop .quo .f64 x y = Ieee.double.nearest (s ^^ false) (2 * ((m <<< (54 + n.log2 - m.log2)) / n) + ((m <<< (54 + n.log2 - m.log2)) % n != 0).toNat) (i - j - ((54 + n.log2 - m.log2 : Nat) : Int) - 1) := by
    unfold fop floatBits
    show (Ieee.double.div x y).getD _ = _
    unfold Ieee.Format.div
    rw [hx, hy]
    unfold Ieee.Datum.quotient
    dsimp only
    rw [if_neg hn]
    rfl
  rw [e]
  refine beld_near ?_ h1 h2
  by_cases m0 : m = 0
  · subst m0
    left
    simp
  have hm := hm.resolve_left m0
  generalize hmore : 54 + n.log2 - m.log2 = more
  have hb : (m <<< more % n != 0).toNat ≤ 1 := by cases (m <<< more % n != 0) <;> decide
  have h3 : m < 2 ^ (m.log2 + 1) := Nat.lt_log2_self
  have h4 : 2 ^ n.log2 ≤ n := Nat.log2_self_le hn
  have h5 : m <<< more / n < 2 ^ (m.log2 + 1 + more - n.log2) := by
    rw [Nat.div_lt_iff_lt_mul (by omega), Nat.shiftLeft_eq]
    have q1 : m * 2 ^ more < 2 ^ (m.log2 + 1) * 2 ^ more := Nat.mul_lt_mul_of_pos_right h3 (Nat.pow_pos (by decide))
    have q2 : 2 ^ (m.log2 + 1 + more - n.log2) * 2 ^ n.log2 ≤ 2 ^ (m.log2 + 1 + more - n.log2) * n := Nat.mul_le_mul_left _ h4
    rw [← Nat.pow_add] at q1 q2
    rw [show m.log2 + 1 + more - n.log2 + n.log2 = m.log2 + 1 + more by omega] at q2
    exact Nat.lt_of_lt_of_le q1 q2
  generalize m <<< more / n = q at *
  generalize (m <<< more % n != 0).toNat = b at *
  by_cases q0 : 2 * q + b = 0
  · exact .inl q0
  right
  have h6 : 2 * q + b < 2 ^ (m.log2 + 1 + more - n.log2 + 1) := by
    rw [Nat.pow_succ]
    omega
  have := (Nat.log2_lt q0).2 h6
  omega
theorem beld_conv {y : Nat} (h : BelD 127 y) : ∃ r, fconv .f64 y .f32 = some r := by
  obtain ⟨s, m, e, h1, h2⟩ := h
  exact fconv_small (s := s) (m := m) (e := e) h1 h2
theorem bel_of_conv {B : Int} {y r : Nat} (h : BelD B y) (h1 : -100 ≤ B) (h2 : B ≤ 126) (hc : fconv .f64 y .f32 = some r) : Bel (B + 1) r := by
  obtain ⟨s, m, e, h3, h4⟩ := h
  have hd : FloatKind.f64.decode y = .number s m e := h3
  unfold fconv at hc
  rw [if_neg (by decide), hd, if_neg (show ¬ ((Ieee.Datum.number s m e).isNaN = true) from fun h => by cases h)] at hc
  unfold floatToFloatBits at hc
  rw [if_neg (by decide), hd] at hc
  simp only at hc
  split at hc
  · cases hc
  · rw [← Option.some.inj hc]
    exact bel_near h4 h1 h2
theorem beld_up {B : Int} {x : Nat} (h : Bel B x) (h1 : -1000 ≤ B) (h2 : B ≤ 1000) : BelD (B + 1) (up x) := by
  obtain ⟨s, m, e, hx, hm⟩ := h
  have hu := fconv_eq x
  have hd : FloatKind.f32.decode x = .number s m e := hx
  unfold fconv at hu
  rw [if_neg (by decide), hd, if_neg (show ¬ ((Ieee.Datum.number s m e).isNaN = true) from fun h => by cases h)] at hu
  unfold floatToFloatBits at hu
  rw [if_neg (by decide), hd] at hu
  simp only at hu
  split at hu
  · cases hu
  · rw [← Option.some.inj hu]
    exact beld_near hm h1 h2
theorem neg_read {x : Nat} {s : Bool} {m : Nat} {e : Int} (h : Ieee.double.read x = .number s m e) : Ieee.double.read (Op.negFloat .f64 x) = .number (!s) m e := by
  have h1 : Op.negFloat .f64 x % 9223372036854775808 = x % 9223372036854775808 := by
    unfold Op.negFloat
    rw [show (9223372036854775808 : Nat) = 2 ^ 63 by decide, Nat.xor_mod_two_pow]
    show x % 2 ^ 63 ^^^ 2 ^ 63 % 2 ^ 63 = _
    simp
  have h2 : (Op.negFloat .f64 x / 9223372036854775808 % 2 == 1) = !(x / 9223372036854775808 % 2 == 1) := by
    have e1 : ∀ y : Nat, (y / 9223372036854775808 % 2 == 1) = y.testBit 63 := by
      intro y
      rw [Nat.testBit_eq_decide_div_mod_eq, show (2 : Nat) ^ 63 = 9223372036854775808 by decide]
      by_cases hy : y / 9223372036854775808 % 2 = 1 <;> simp [hy]
    rw [e1, e1]
    unfold Op.negFloat
    rw [Nat.testBit_xor]
    have h63 : Nat.testBit (2 ^ (FloatKind.f64.format.exponentBits + FloatKind.f64.format.fractionBits)) 63 = true := by decide +kernel
    rw [h63]
    cases x.testBit 63 <;> rfl
  have c1 : Ieee.double.signWeight = 9223372036854775808 := by decide
  unfold Ieee.Format.read at h ⊢
  rw [c1] at h ⊢
  rw [h1, h2]
  generalize (x / 9223372036854775808 % 2 == 1) = b at *
  generalize x % 9223372036854775808 = r at *
  dsimp only at h ⊢
  split at h
  · rename_i hr
    rw [if_pos hr]
    cases h
    rfl
  · rename_i hr
    rw [if_neg hr]
    split at h
    · rename_i hr2
      rw [if_pos hr2]
      cases h
      rfl
    · split at h <;> cases h
theorem beld_neg {B : Int} {x : Nat} (h : BelD B x) : BelD B (fneg .f64 x) := by
  obtain ⟨s, m, e, hx, hm⟩ := h
  refine ⟨!s, m, e, ?_, hm⟩
  unfold fneg
  rw [canon_of (by rw [isN_neg]; unfold isN; show (Ieee.double.read x).isNaN = false; rw [hx]; rfl)]
  exact neg_read hx

/-! ### Exact results -/
theorem near_exact (s : Bool) {m : Nat} {p : Int} (hp : -1074 ≤ p) (hm : m < 9007199254740992) (hb : m = 0 ∨ p + (m.log2 : Int) ≤ 1023) :
    ∃ m' p', Ieee.double.read (Ieee.double.nearest s m p) = .number s m' p' ∧ -1074 ≤ p' ∧ p' ≤ p ∧ m' = m * 2 ^ (p - p').toNat ∧ m' < 9007199254740992 := by
  by_cases m0 : m = 0
  · subst m0
    have hz : Ieee.double.nearest s 0 p = Ieee.double.word s 0 := by unfold Ieee.Format.nearest; rw [if_pos rfl]
    rw [hz]
    refine ⟨0, -1074, by cases s <;> decide +kernel, by decide, hp, by simp, by decide⟩
  have hb := hb.resolve_left m0
  have hL : m.log2 < 53 := (Nat.log2_lt m0).2 hm
  unfold Ieee.Format.nearest
  rw [if_neg m0]
  have c1 : Ieee.double.signWeight = 9223372036854775808 := by decide
  have c2 : Ieee.double.binade = 4503599627370496 := by decide
  have c3 : Ieee.double.infRung = 9218868437227405312 := by decide
  have c4 : Ieee.double.leastPlace = -1074 := by decide
  have c5 : Ieee.double.fractionBits = 52 := by decide
  rw [c2, c3, c4, c5]
  dsimp only
  generalize hlast : max (p + (m.log2 : Int) - ((52 : Nat) : Int)) (-1074) = last
  have hl1 : last ≤ p := by omega
  have hl2 : -1074 ≤ last := by omega
  rw [show (last - p).toNat = 0 by omega, cut_zero, Nat.shiftLeft_eq]
  have hk : m * 2 ^ (p - last).toNat < 9007199254740992 := by
    have h1 : m < 2 ^ (m.log2 + 1) := Nat.lt_log2_self
    have h2 : m * 2 ^ (p - last).toNat < 2 ^ (m.log2 + 1) * 2 ^ (p - last).toNat := Nat.mul_lt_mul_of_pos_right h1 (Nat.pow_pos (by decide))
    rw [← Nat.pow_add] at h2
    exact Nat.lt_of_lt_of_le h2 (Nat.le_trans (Nat.pow_le_pow_right (by decide) (show m.log2 + 1 + (p - last).toNat ≤ 53 by omega)) (by decide))
  have hk2 : last = -1074 ∨ 4503599627370496 ≤ m * 2 ^ (p - last).toNat := by
    by_cases h : last = -1074
    · exact .inl h
    · right
      have h1 : 2 ^ m.log2 ≤ m := Nat.log2_self_le m0
      have h2 : 2 ^ m.log2 * 2 ^ (p - last).toNat ≤ m * 2 ^ (p - last).toNat := Nat.mul_le_mul_right _ h1
      rw [← Nat.pow_add, show m.log2 + (p - last).toNat = 52 by omega] at h2
      exact Nat.le_trans (by decide) h2
  generalize hK : m * 2 ^ (p - last).toNat = K at hk hk2
  refine ⟨K, last, ?_, hl2, hl1, hK.symm, hk⟩
  generalize hl : (last - -1074).toNat = l
  have hl3 : l ≤ 2045 := by omega
  have hle : l * 4503599627370496 + K ≤ 9218868437227405312 := by clear hl hl1 hl2 hk2 hK hlast hb hL; omega
  have hmin : min (l * 4503599627370496 + K) 9218868437227405312 = l * 4503599627370496 + K := Nat.min_eq_left hle
  rw [hmin]
  unfold Ieee.Format.read Ieee.Format.word
  rw [c1, c2, c3, c4]
  dsimp only
  clear hl1 hK hlast hb hL hmin
  generalize hR : l * 4503599627370496 + K = R at hle ⊢
  have hmm : (if s = true then 9223372036854775808 + R else R) % 9223372036854775808 = R := by split <;> omega
  have hs : ((if s = true then 9223372036854775808 + R else R) / 9223372036854775808 % 2 == 1) = s := by
    cases s
    · rw [if_neg (by decide), Nat.div_eq_of_lt (by omega)]; rfl
    · rw [if_pos rfl, Nat.add_div_left _ (by decide), Nat.div_eq_of_lt (by omega)]; rfl
  rw [hmm, hs]
  by_cases hc : 4503599627370496 ≤ K
  · rw [if_neg (by omega), if_pos (by omega)]
    have e1 : R / 4503599627370496 = l + 1 := by omega
    have e2 : R % 4503599627370496 = K - 4503599627370496 := by omega
    rw [e1, e2, show 4503599627370496 + (K - 4503599627370496) = K by omega, show (-1074 : Int) + ((l + 1 - 1 : Nat) : Int) = last by omega]
  · have hl0 : l = 0 := by omega
    rw [if_pos (by omega), show R = K by omega, show last = -1074 by omega]
/-- A number's worth in units of 2 to the power of -1074. -/
def Zv (s : Bool) (m : Nat) (p : Int) : Int := Ieee.signed s m (p + 1074).toNat
theorem signed_add (s : Bool) (m a b : Nat) : Ieee.signed s m (a + b) = Ieee.signed s m a * ((2 ^ b : Nat) : Int) := by
  unfold Ieee.signed
  rw [Nat.shiftLeft_eq, Nat.shiftLeft_eq, Nat.pow_add, ← Nat.mul_assoc]
  cases s
  · rw [if_neg (by decide), if_neg (by decide)]; exact Int.natCast_mul _ _
  · rw [if_pos rfl, if_pos rfl, Int.natCast_mul, Int.neg_mul]
theorem Zv_base {s : Bool} {m : Nat} {p base : Int} (h1 : base ≤ p) (h2 : -1074 ≤ base) : Zv s m p = Ieee.signed s m (p - base).toNat * ((2 ^ (base + 1074).toNat : Nat) : Int) := by
  unfold Zv
  rw [← signed_add, show (p - base).toNat + (base + 1074).toNat = (p + 1074).toNat by omega]
theorem Zv_shift (s : Bool) {m : Nat} {p q : Int} (h1 : q ≤ p) (h2 : -1074 ≤ q) : Zv s (m * 2 ^ (p - q).toNat) q = Zv s m p := by
  unfold Zv Ieee.signed
  rw [Nat.shiftLeft_eq, Nat.shiftLeft_eq, Nat.mul_assoc, ← Nat.pow_add, show (p - q).toNat + (q + 1074).toNat = (p + 1074).toNat by omega]
theorem near_Z (s : Bool) {m : Nat} {p : Int} (hp : -1074 ≤ p) (hm : m < 9007199254740992) (hb : m = 0 ∨ p + (m.log2 : Int) ≤ 1023) :
    ∃ m' p', Ieee.double.read (Ieee.double.nearest s m p) = .number s m' p' ∧ -1074 ≤ p' ∧ p' ≤ p ∧ Zv s m' p' = Zv s m p := by
  obtain ⟨m', p', h1, h2, h3, h4, _⟩ := near_exact s hp hm hb
  exact ⟨m', p', h1, h2, h3, by rw [h4]; exact Zv_shift s h3 h2⟩
theorem compare_mul {a b c : Int} (h : 0 < c) : compare (a * c) (b * c) = compare a b := by
  rcases Int.lt_trichotomy a b with h1 | h1 | h1
  · rw [Int.compare_eq_lt.2 h1, Int.compare_eq_lt.2 (Int.mul_lt_mul_of_pos_right h1 h)]
  · subst h1
    rw [Int.compare_eq_eq.2 rfl, Int.compare_eq_eq.2 rfl]
  · rw [Int.compare_eq_gt.2 h1, Int.compare_eq_gt.2 (Int.mul_lt_mul_of_pos_right h1 h)]
theorem order_Z {x y : Nat} {s t : Bool} {m n : Nat} {i j : Int} (hx : Ieee.double.read x = .number s m i) (hy : Ieee.double.read y = .number t n j) (hi : -1074 ≤ i) (hj : -1074 ≤ j) :
    FloatKind.f64.format.order x y = some (compare (Zv s m i) (Zv t n j)) := by
  show Ieee.double.order x y = _
  unfold Ieee.Format.order
  rw [hx, hy]
  unfold Ieee.Datum.order
  dsimp only
  rw [Zv_base (show min i j ≤ i by omega) (by omega), Zv_base (show min i j ≤ j by omega) (by omega), compare_mul]
  exact Int.natCast_pos.2 (Nat.pow_pos (by decide))
theorem read_place {x : Nat} {s : Bool} {m : Nat} {e : Int} (h : Ieee.double.read x = .number s m e) : -1074 ≤ e ∧ m < 9007199254740992 ∧ (m < 4503599627370496 → e = -1074) ∧ e ≤ 971 := by
  unfold Ieee.Format.read at h
  have c1 : Ieee.double.signWeight = 9223372036854775808 := by decide
  have c2 : Ieee.double.binade = 4503599627370496 := by decide
  have c3 : Ieee.double.infRung = 9218868437227405312 := by decide
  have c4 : Ieee.double.leastPlace = -1074 := by decide
  rw [c1, c2, c3, c4] at h
  dsimp only at h
  split at h
  · cases h
    omega
  · split at h
    · cases h
      omega
    · split at h <;> cases h
end Go.Proofs.Ytlopdogjdfeikaa.Ab
