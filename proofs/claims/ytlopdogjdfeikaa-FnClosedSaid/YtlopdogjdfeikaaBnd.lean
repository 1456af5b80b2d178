/- Bounds of what is rounded: how great a nearest word is; roots; that a small float64 has a float32. Only lemmas. -/
import Derived.Test.YtlopdogjdfeikaaExt
namespace Go.Proofs.Ytlopdogjdfeikaa.Ab
set_option linter.unusedVariables false
set_option linter.unusedSimpArgs false
open Go

theorem cut_le (neg : Bool) (n drop : Nat) : Ieee.Toward.even.cut neg n drop ≤ n / 2 ^ drop + 1 := by
  unfold Ieee.Toward.cut
  simp only [Nat.one_shiftLeft]
  have hm : ∀ b : Bool, b.toNat ≤ 1 := fun b => by cases b <;> decide
  by_cases h : drop ≤ n.log2 + 2
  · rw [Nat.min_eq_left h]
    exact Nat.add_le_add_left (hm _) _
  · rw [Nat.min_eq_right (by omega)]
    have h1 : n < 2 ^ (n.log2 + 1) := Nat.lt_log2_self
    have h2 : 2 ^ (n.log2 + 1) ≤ 2 ^ (n.log2 + 2) := Nat.pow_le_pow_right (by decide) (by omega)
    rw [Nat.div_eq_of_lt (Nat.lt_of_lt_of_le h1 h2)]
    exact Nat.add_le_add (Nat.zero_le _) (hm _)
theorem cut_zero (neg : Bool) (n : Nat) : Ieee.Toward.even.cut neg n 0 = n := by
  unfold Ieee.Toward.cut
  simp [Nat.mod_one]
theorem lt_pow_of_log {m k : Nat} (h : m.log2 < k) : m < 2 ^ k := by
  exact Nat.lt_of_lt_of_le Nat.lt_log2_self (Nat.pow_le_pow_right (by decide) (by omega))

/-- Below two to a power, the nearest word's rung is at most that power's. -/
theorem near_le (f : Ieee.Format) (neg : Bool) (m : Nat) (p B : Int) (hB : f.leastPlace + f.fractionBits ≤ B) (h : m = 0 ∨ p + (m.log2 : Int) < B) :
    ∃ r, f.nearest neg m p = f.word neg r ∧ r ≤ (B - f.leastPlace - f.fractionBits + 1).toNat * f.binade := by
  unfold Ieee.Format.nearest
  by_cases hm : m = 0
  · rw [if_pos hm]
    exact ⟨0, rfl, Nat.zero_le _⟩
  rw [if_neg hm]
  have h : p + (m.log2 : Int) < B := h.resolve_left hm
  refine ⟨_, rfl, Nat.le_trans (Nat.min_le_left _ _) ?_⟩
  have hb : f.binade = 2 ^ f.fractionBits := rfl
  generalize f.leastPlace = least at *
  generalize f.fractionBits = frac at *
  rw [hb]
  generalize hL : m.log2 = L at *
  have hmL : m < 2 ^ (L + 1) := by rw [← hL]; exact Nat.lt_log2_self
  by_cases hc : least ≤ p + L - frac
  · rw [Int.max_eq_left hc]
    have key : Ieee.Toward.even.cut neg (m <<< (p - (p + L - frac)).toNat) ((p + L - frac) - p).toNat ≤ 2 * 2 ^ frac := by
      by_cases hp : L ≤ frac
      · rw [show ((p + L - frac) - p).toNat = 0 by omega, cut_zero, Nat.shiftLeft_eq, show (p - (p + L - frac)).toNat = frac - L by omega]
        have : m * 2 ^ (frac - L) ≤ 2 ^ (L + 1) * 2 ^ (frac - L) := Nat.mul_le_mul_right _ (Nat.le_of_lt hmL)
        rw [← Nat.pow_add, show L + 1 + (frac - L) = frac + 1 by omega, Nat.pow_succ] at this
        omega
      · rw [show (p - (p + L - frac)).toNat = 0 by omega, show ((p + L - frac) - p).toNat = L - frac by omega]
        refine Nat.le_trans (cut_le _ _ _) ?_
        have : (m <<< 0) / 2 ^ (L - frac) < 2 * 2 ^ frac := by
          rw [Nat.shiftLeft_zero, Nat.div_lt_iff_lt_mul (Nat.pow_pos (by decide))]
          rw [show 2 * 2 ^ frac = 2 ^ (frac + 1) by rw [Nat.pow_succ]; omega, ← Nat.pow_add, show frac + 1 + (L - frac) = L + 1 by omega]
          exact hmL
        omega
    have e : (B - least - frac + 1).toNat = (p + L - frac - least).toNat + 2 + (B - 1 - (p + L)).toNat := by omega
    rw [e, Nat.add_mul, Nat.add_mul]
    refine Nat.le_trans (Nat.add_le_add_left key _) (Nat.le_add_right _ _)
  · rw [Int.max_eq_right (by omega)]
    have key : Ieee.Toward.even.cut neg (m <<< (p - least).toNat) (least - p).toNat ≤ 2 ^ frac := by
      by_cases hp : least ≤ p
      · rw [show (least - p).toNat = 0 by omega, cut_zero, Nat.shiftLeft_eq]
        have : m * 2 ^ (p - least).toNat ≤ 2 ^ (L + 1) * 2 ^ (p - least).toNat := Nat.mul_le_mul_right _ (Nat.le_of_lt hmL)
        rw [← Nat.pow_add] at this
        exact Nat.le_trans this (Nat.pow_le_pow_right (by decide) (by omega))
      · rw [show (p - least).toNat = 0 by omega]
        refine Nat.le_trans (cut_le _ _ _) ?_
        have : (m <<< 0) / 2 ^ (least - p).toNat < 2 ^ frac := by
          rw [Nat.shiftLeft_zero, Nat.div_lt_iff_lt_mul (Nat.pow_pos (by decide)), ← Nat.pow_add]
          exact Nat.lt_of_lt_of_le hmL (Nat.pow_le_pow_right (by decide) (by omega))
        omega
    rw [show (least - least).toNat = 0 by omega, Nat.zero_mul, Nat.zero_add]
    refine Nat.le_trans key ?_
    have : 1 * 2 ^ frac ≤ (B - least - frac + 1).toNat * 2 ^ frac := Nat.mul_le_mul_right _ (by omega)
    omega

/-- A float64 whose rung is that of a power or less. -/
theorem read64_le (neg : Bool) (r K : Nat) (hr : r ≤ K * 4503599627370496) (hK : K < 2047) :
    ∃ m e, Ieee.double.read (Ieee.double.word neg r) = .number neg m e ∧ (m = 0 ∨ e + (m.log2 : Int) ≤ (K : Int) - 1023) ∧ m < 9007199254740992 ∧ -1074 ≤ e := by
  unfold Ieee.Format.read Ieee.Format.word
  have c1 : Ieee.double.signWeight = 9223372036854775808 := by decide
  have c2 : Ieee.double.binade = 4503599627370496 := by decide
  have c3 : Ieee.double.infRung = 9218868437227405312 := by decide
  have c4 : Ieee.double.leastPlace = -1074 := by decide
  simp only [c1, c2, c3, c4]
  have hm : (if neg = true then 9223372036854775808 + r else r) % 9223372036854775808 = r := by split <;> omega
  have hs : ((if neg = true then 9223372036854775808 + r else r) / 9223372036854775808 % 2 == 1) = neg := by
    cases neg
    · rw [if_neg (by decide), Nat.div_eq_of_lt (by omega)]; rfl
    · rw [if_pos rfl, Nat.add_div_left _ (by decide), Nat.div_eq_of_lt (by omega)]; rfl
  rw [hm, hs]
  split
  · rename_i h1
    refine ⟨_, _, rfl, ?_, by omega, by omega⟩
    by_cases h0 : r = 0
    · exact .inl h0
    · right
      have := (Nat.log2_lt h0).2 (show r < 2 ^ 52 by omega)
      omega
  · rename_i h1
    rw [if_pos (by omega)]
    refine ⟨_, _, rfl, .inr ?_, by omega, by omega⟩
    have h2 := (Nat.log2_lt (show 4503599627370496 + r % 4503599627370496 ≠ 0 by omega)).2 (show 4503599627370496 + r % 4503599627370496 < 2 ^ 53 by omega)
    have h3 : r / 4503599627370496 ≤ K := by
      rw [Nat.div_le_iff_le_mul (by decide)]
      omega
    have h4 : 1 ≤ r / 4503599627370496 := by
      rw [Nat.le_div_iff_mul_le (by decide)]
      omega
    omega

/-- A float64 below 2 to the 127th has a float32. -/
theorem fconv_small {y : Nat} {s : Bool} {m : Nat} {e : Int} (hd : FloatKind.f64.decode y = .number s m e) (h : m = 0 ∨ e + (m.log2 : Int) < 127) : ∃ r, fconv .f64 y .f32 = some r := by
  unfold fconv
  rw [if_neg (by decide), hd]
  rw [if_neg (show ¬ ((Ieee.Datum.number s m e).isNaN = true) from fun h => by cases h)]
  unfold floatToFloatBits
  rw [if_neg (by decide), hd]
  dsimp only
  have hn : (FloatKind.f32.decode (FloatKind.f32.encode (.number s m e))).isInfinity = false := by
    show (Ieee.single.read (Ieee.single.nearest s m e)).isInfinity = false
    obtain ⟨r, h1, h2⟩ := near_le Ieee.single s m e 127 (by decide) h
    rw [h1]
    have h2 : r ≤ 254 * 8388608 := h2
    unfold Ieee.Format.read Ieee.Format.word
    have c1 : Ieee.single.signWeight = 2147483648 := by decide
    have c2 : Ieee.single.binade = 8388608 := by decide
    have c3 : Ieee.single.infRung = 2139095040 := by decide
    simp only [c1, c2, c3]
    have hm : (if s = true then 2147483648 + r else r) % 2147483648 = r := by split <;> omega
    rw [hm]
    split
    · rfl
    · rw [if_pos (by omega)]; rfl
  rw [hn]
  exact ⟨_, rfl⟩

/-! ### Roots -/
theorem rootFrom_sq (n : Nat) : ∀ todo root, root * root ≤ n → Ieee.Datum.rootFrom n todo root * Ieee.Datum.rootFrom n todo root ≤ n
  | 0, root, h => h
  | todo + 1, root, h => by
    unfold Ieee.Datum.rootFrom
    dsimp only
    split
    · rename_i h1; exact rootFrom_sq n todo _ h1
    · exact rootFrom_sq n todo _ h
theorem up_num {x : Nat} (h : isN .f32 x = false) : (∃ s, FloatKind.f64.decode (up x) = .infinity s) ∨ ∃ s m e, FloatKind.f64.decode (up x) = .number s m e ∧ (m = 0 ∨ e + (m.log2 : Int) ≤ 128) := by
  have hx := fconv_eq x
  unfold fconv at hx
  rw [if_neg (by decide)] at hx
  unfold isN at h
  rw [if_neg (by rw [h]; decide)] at hx
  unfold floatToFloatBits at hx
  rw [if_neg (by decide)] at hx
  cases hd : FloatKind.f32.decode x with
  | nan s f => rw [hd] at h; cases h
  | infinity s =>
    rw [hd] at hx
    simp only [Option.some.injEq] at hx
    left
    rw [← hx]
    cases s
    · exact ⟨false, by decide⟩
    · exact ⟨true, by decide⟩
  | number s m e =>
    rw [hd] at hx
    simp only at hx
    split at hx
    · cases hx
    · simp only [Option.some.injEq] at hx
      right
      have hb : m < 2 ^ 24 ∧ e ≤ 104 := by
        have hd' : Ieee.single.read x = .number s m e := hd
        unfold Ieee.Format.read at hd'
        have c1 : Ieee.single.signWeight = 2147483648 := by decide
        have c2 : Ieee.single.binade = 8388608 := by decide
        have c3 : Ieee.single.infRung = 2139095040 := by decide
        have c4 : Ieee.single.leastPlace = -149 := by decide
        simp only [c1, c2, c3, c4] at hd'
        split at hd'
        · simp only [Ieee.Datum.number.injEq] at hd'; omega
        · split at hd'
          · simp only [Ieee.Datum.number.injEq] at hd'; omega
          · split at hd' <;> cases hd'
      have hl : m = 0 ∨ e + (m.log2 : Int) < 128 := by
        by_cases h0 : m = 0
        · exact .inl h0
        · have := (Nat.log2_lt h0).2 hb.1
          omega
      obtain ⟨r, h1, h2⟩ := near_le Ieee.double s m e 128 (by decide) hl
      have h2 : r ≤ 1151 * 4503599627370496 := h2
      obtain ⟨m', e', h3, h4, _⟩ := read64_le s r 1151 h2 (by decide)
      refine ⟨s, m', e', ?_, by omega⟩
      rw [← hx]
      show Ieee.double.read (Ieee.double.nearest s m e) = _
      rw [h1, h3]
theorem log_sq {w n : Nat} (hw : w ≠ 0) (h : w * w ≤ n) : 2 * w.log2 ≤ n.log2 := by
  have hn : n ≠ 0 := by
    intro h0
    subst h0
    have : 0 < w * w := Nat.mul_pos (by omega) (by omega)
    omega
  have h1 : 2 ^ w.log2 ≤ w := Nat.log2_self_le hw
  rw [Nat.le_log2 hn]
  rw [show 2 * w.log2 = w.log2 + w.log2 by omega, Nat.pow_add]
  exact Nat.le_trans (Nat.mul_le_mul h1 h1) h
theorem log_odd {w b : Nat} (hw : w ≠ 0) (hb : b ≤ 1) : (2 * w + b).log2 = w.log2 + 1 := by
  have h1 : 2 ^ w.log2 ≤ w := Nat.log2_self_le hw
  have h2 : w < 2 ^ (w.log2 + 1) := Nat.lt_log2_self
  rw [Nat.log2_eq_iff (by omega)]
  rw [Nat.pow_succ, Nat.pow_succ] at *
  omega
theorem log_shl {m k : Nat} (hm : m ≠ 0) : (m <<< k).log2 = m.log2 + k := by
  have h1 : 2 ^ m.log2 ≤ m := Nat.log2_self_le hm
  have h2 : m < 2 ^ (m.log2 + 1) := Nat.lt_log2_self
  have h3 : 0 < 2 ^ k := Nat.pow_pos (by decide)
  rw [Nat.shiftLeft_eq, Nat.log2_eq_iff (Nat.ne_of_gt (Nat.mul_pos (by omega) h3))]
  rw [Nat.pow_add, show m.log2 + k + 1 = (m.log2 + 1) + k by omega, Nat.pow_add]
  exact ⟨Nat.mul_le_mul_right _ h1, Nat.mul_lt_mul_of_pos_right h2 h3⟩
/-- The root of a float32 has a float32. -/
theorem root_small (x : Nat) : ∃ r, fconv .f64 (fsqrt (up x)) .f32 = some r := by
  cases hx : isN .f32 x with
  | true =>
    have hu : up x = qnan .f64 := by
      have h := fconv_eq x
      unfold fconv at h
      unfold isN at hx
      rw [if_neg (by decide), if_pos hx] at h
      exact (Option.some.inj h).symm
    rw [hu]
    exact Option.isSome_iff_exists.1 (by decide +kernel)
  | false =>
    rcases up_num hx with ⟨s, hd⟩ | ⟨s, m, e, hd, hb⟩
    · have hd' : Ieee.double.read (up x) = .infinity s := hd
      unfold fsqrt
      show ∃ r, fconv .f64 ((Ieee.double.sqrt (up x)).getD _) .f32 = some r
      unfold Ieee.Format.sqrt
      rw [hd']
      cases s
      · exact Option.isSome_iff_exists.1 (by decide +kernel)
      · exact Option.isSome_iff_exists.1 (by decide +kernel)
    · have hd' : Ieee.double.read (up x) = .number s m e := hd
      have hs : FloatKind.f64.format.sqrt (up x) = ((Ieee.Datum.number s m e).root 54).map Ieee.double.write := by
        show Ieee.double.sqrt (up x) = _
        unfold Ieee.Format.sqrt
        rw [hd']
        rfl
      unfold fsqrt
      rw [hs]
      unfold Ieee.Datum.root
      dsimp only
      by_cases h0 : m = 0
      · rw [if_pos h0]
        subst h0
        have hz : Ieee.double.write (.number s 0 e) = Ieee.double.word s 0 := by
          show Ieee.double.nearest s 0 e = _
          unfold Ieee.Format.nearest
          rw [if_pos rfl]
        show ∃ r, fconv .f64 (Ieee.double.write (.number s 0 e)) .f32 = some r
        rw [hz]
        cases s
        · exact Option.isSome_iff_exists.1 (by decide +kernel)
        · exact Option.isSome_iff_exists.1 (by decide +kernel)
      · rw [if_neg h0]
        cases s with
        | true =>
          rw [if_pos rfl]
          exact Option.isSome_iff_exists.1 (by decide +kernel)
        | false =>
          rw [if_neg (by decide)]
          have hb : e + (m.log2 : Int) ≤ 128 := hb.resolve_left h0
          generalize hmore : (2 * 54 - m.log2 + ((e - ((2 * 54 - m.log2 : Nat) : Int)) % 2).toNat : Nat) = more
          have heven : (e - (more : Int)) % 2 = 0 := by omega
          generalize hw : Ieee.Datum.rootFrom (m <<< more) ((m <<< more).log2 / 2 + 1) 0 = w
          have hsq : w * w ≤ m <<< more := by rw [← hw]; exact rootFrom_sq _ _ _ (by simp)
          generalize hodd : (w * w != m <<< more).toNat = b
          have hb1 : b ≤ 1 := by rw [← hodd]; cases (w * w != m <<< more) <;> decide
          show ∃ r, fconv .f64 (Ieee.double.nearest false (2 * w + b) ((e - (more : Int)) / 2 - 1)) .f32 = some r
          have hval : (2 * w + b) = 0 ∨ ((e - (more : Int)) / 2 - 1) + ((2 * w + b).log2 : Int) < 66 := by
            by_cases hw0 : w = 0
            · subst hw0
              by_cases hb0 : b = 0
              · left; omega
              · right
                have : b = 1 := by omega
                subst this
                have : (2 * 0 + 1).log2 = 0 := by decide
                omega
            · right
              rw [log_odd hw0 hb1]
              have h1 := log_sq hw0 hsq
              rw [log_shl h0] at h1
              omega
          obtain ⟨r, h1, h2⟩ := near_le Ieee.double false _ _ 66 (by decide) hval
          rw [h1]
          have h2 : r ≤ 1089 * 4503599627370496 := h2
          obtain ⟨m', e', h3, h4, _⟩ := read64_le false r 1089 h2 (by decide)
          exact fconv_small (s := false) (m := m') (e := e') h3 (by omega)
def rootF (x : Nat) : Nat := (fconv .f64 (fsqrt (up x)) .f32).getD 0
theorem rootF_eq (x : Nat) : fconv .f64 (fsqrt (up x)) .f32 = some (rootF x) := by
  obtain ⟨r, h⟩ := root_small x
  unfold rootF
  rw [h]; rfl
end Go.Proofs.Ytlopdogjdfeikaa.Ab
