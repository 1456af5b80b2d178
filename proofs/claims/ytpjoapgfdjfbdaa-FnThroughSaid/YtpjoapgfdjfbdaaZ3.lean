/- What the proof names: lemmas and words, merged by a program from its parts. No condition. -/
import Derived.Test.YtpjoapgfdjfbdaaZ2
namespace Go.Proofs.Ytpjoapgfdjfbdaa.Ab
set_option linter.unusedVariables false
set_option linter.unusedSimpArgs false
open Go
theorem asH {F : Nat} {L : Int} {q g : Nat} {T R : Rat} {K : Nat} {l p : Int} (hg : g ≤ 1) (h1 : 2 * (q : Rat) ≤ T) (h2 : T ≤ 2 * q + 2) (h3 : g = 0 → T = 2 * q) (hl : p + 2 ≤ l) (h : Mag F L (((2 * q + g : Nat) : Rat) * tw p) R K l) : Mag F L (T * tw p) R K l := by
  obtain ⟨a1, a2, a3, a4⟩ := h
  obtain ⟨X, hX⟩ : ∃ X : Nat, 2 ^ (l - p).toNat = 4 * X := ⟨2 ^ ((l - p).toNat - 2), by rw [show (4 : Nat) = 2 ^ 2 by decide, ← Nat.pow_add]; congr 1; omega⟩
  have hp := gV p
  have e1 : tw l = tw p * ((4 * X : Nat) : Rat) := by rw [nK (show p ≤ l by omega), hX]
  have e2 : R = ((K * (4 * X) : Nat) : Rat) * tw p := by rw [a2, e1, Rat.natCast_mul]; grind
  have c1 : aH (R - ((2 * q + g : Nat) : Rat) * tw p) ≤ tw l / 2 := by grind
  rw [fA, e2, e1] at c1
  have n1 : K * (4 * X) ≤ 2 * q + g + 2 * X := by
    refine asF (fJ (c := tw p) ?_ hp)
    have : ((2 * q + g + 2 * X : Nat) : Rat) = ((2 * q + g : Nat) : Rat) + 2 * (X : Rat) := by push_cast; rfl
    rw [this]
    have : ((4 * X : Nat) : Rat) = 4 * (X : Rat) := by push_cast; rfl
    rw [this] at c1
    grind
  have n2 : 2 * q + g ≤ K * (4 * X) + 2 * X := by
    refine asF (fJ (c := tw p) ?_ hp)
    have : ((K * (4 * X) + 2 * X : Nat) : Rat) = ((K * (4 * X) : Nat) : Rat) + 2 * (X : Rat) := by push_cast; rfl
    rw [this]
    have : ((4 * X : Nat) : Rat) = 4 * (X : Rat) := by push_cast; rfl
    rw [this] at c1
    grind
  generalize hY : K * (4 * X) = Y at *
  have hY4 : ∃ y, Y = 4 * y := ⟨K * X, by rw [← hY]; exact Nat.mul_left_comm K 4 X⟩
  obtain ⟨y, hy⟩ := hY4
  have hX4 : ((4 * X : Nat) : Rat) = 4 * (X : Rat) := by push_cast; rfl
  refine ⟨a1, a2, ?_, ?_⟩
  · have m1 : Y ≤ 2 * q + 2 * X := by omega
    have m1 : (Y : Rat) ≤ 2 * q + 2 * X := by have := oO m1; push_cast at this; exact this
    have m2 : T ≤ Y + 2 * X := by
      rcases Nat.eq_zero_or_pos g with h0 | h0
      · have := h3 h0
        have m3 : 2 * q ≤ Y + 2 * X := by omega
        have := oO m3
        push_cast at this
        grind
      · have m3 : 2 * q + 2 ≤ Y + 2 * X := by omega
        have := oO m3
        push_cast at this
        grind
    have i1 := aF (Rat.le_of_lt hp) (show 0 ≤ Y + 2 * X - T by grind)
    have i2 := aF (Rat.le_of_lt hp) (show 0 ≤ T + 2 * X - Y by grind)
    have : aH (R - T * tw p) ≤ tw l / 2 := by rw [fA, e2, e1, hX4]; grind
    grind
  · rcases a4 with a4 | a4
    · exact .inl a4
    · right
      rw [e1] at a4 ⊢
      have n3 : 2 ^ F * (4 * X) ≤ 2 * q + g := by
        refine asF (fJ (c := tw p) ?_ hp)
        rw [Rat.natCast_mul]
        grind
      have n4 : 2 ^ F * (4 * X) ≤ 2 * q := by
        rw [show 2 ^ F * (4 * X) = 2 * (2 * (2 ^ F * X)) by rw [Nat.mul_left_comm]; omega] at n3 ⊢
        omega
      have n5 := oO n4
      rw [Rat.natCast_mul] at n5
      have : ((2 * q : Nat) : Rat) = 2 * (q : Rat) := by push_cast; rfl
      rw [this] at n5
      have i1 := aF (Rat.le_of_lt hp) (show 0 ≤ T - ((2 ^ F : Nat) : Rat) * ((4 * X : Nat) : Rat) by grind)
      grind
theorem aG5 {q g : Nat} (hg : g ≤ 1) (hq : 0 < q) : 2 ^ (2 * q + g).log2 ≤ 2 * q := by
  have h1 : 2 ^ (2 * q + g).log2 ≤ 2 * q + g := Nat.log2_self_le (by omega)
  have h2 : 1 ≤ (2 * q + g).log2 := (Nat.le_log2 (by omega)).2 (by omega)
  obtain ⟨k, hk⟩ : ∃ k, (2 * q + g).log2 = k + 1 := ⟨(2 * q + g).log2 - 1, by omega⟩
  rw [hk, Nat.pow_succ] at h1 ⊢
  omega
theorem axS {f : Ieee.Format} {F : Nat} {L : Int} {Z : Nat} (h : Fm f F L Z) {x y : Nat} {a b : Rat} {B : Int} (hx : Vw f x a) (hy : Vw f y b) (hb : b ≠ 0) (hB : aH (a / b) < tw B) (hZ : B - (F : Int) - L + 2 ≤ (Z : Int)) :
    ∃ r R, f.div x y = some r ∧ Vw f r R ∧ Rnd F L (a / b) R := by
  obtain ⟨s, m, i, h1, rfl⟩ := hx
  obtain ⟨t, n, j, h2, rfl⟩ := hy
  have hn : n ≠ 0 := by
    intro h0
    subst h0
    refine hb ?_
    unfold dv
    have : ((0 : Nat) : Rat) = 0 := rfl
    rw [this]
    grind
  unfold Ieee.Format.div
  rw [h1, h2, h.frac]
  unfold Ieee.Datum.quotient
  dsimp only
  rw [if_neg hn]
  generalize hmore : F + 2 + n.log2 - m.log2 = more
  have hnp : (0 : Rat) < n := by exact_mod_cast Nat.pos_of_ne_zero hn
  have ej := gV j
  have hE : dv s m i / dv t n j = sg (s ^^ t) * ((2 * ((m * 2 ^ more : Nat) : Rat) / n) * tw (i - j - more - 1)) := by
    have e1 : tw i = 2 * ((2 ^ more : Nat) : Rat) * tw (i - j - more - 1) * tw j := by
      rw [← JL, show (2 : Rat) = tw 1 by decide +kernel, ← oN, ← oN, ← oN]
      congr 1
      omega
    unfold dv
    rw [asG, e1, Rat.natCast_mul]
    have hne : (n : Rat) ≠ 0 := by grind
    have hje : tw j ≠ 0 := by grind
    rcases aG3 t with e | e <;> rw [e] <;> grind
  rw [hE] at hB ⊢
  by_cases hm : m = 0
  · subst hm
    have e0 : 2 * (((0 * 2 ^ more : Nat) : Nat) : Rat) / n * tw (i - j - more - 1) = 0 := by
      rw [Nat.zero_mul]
      have : ((0 : Nat) : Rat) = 0 := rfl
      rw [this]
      grind
    have e1 : 2 * (0 <<< more / n) + (0 <<< more % n != 0).toNat = 0 := by rw [Nat.zero_shiftLeft, Nat.zero_div, Nat.zero_mod]; rfl
    rw [e1, e0]
    obtain ⟨R, h3, h4⟩ := RU h (s ^^ t) (m := 0) (p := i - j - more - 1) (B := B) (by
      have : ((0 : Nat) : Rat) = 0 := rfl
      rw [this]
      have := gV B
      grind) hZ
    refine ⟨_, R, rfl, h3, ?_⟩
    have e2 : sg (s ^^ t) * 0 = dv (s ^^ t) 0 (i - j - more - 1) := by
      unfold dv
      have : ((0 : Nat) : Rat) = 0 := rfl
      rw [this]
      grind
    rw [e2]
    exact h4
  · rw [Nat.shiftLeft_eq]
    have hD : 2 ^ (F + 2 + n.log2) ≤ m * 2 ^ more := by
      refine Nat.le_trans (Nat.pow_le_pow_right (by decide) (show F + 2 + n.log2 ≤ m.log2 + more by omega)) ?_
      rw [Nat.pow_add]
      exact Nat.mul_le_mul_right _ (Nat.log2_self_le hm)
    generalize m * 2 ^ more = D at *
    have hq : 2 ^ (F + 1) ≤ D / n := by
      rw [Nat.le_div_iff_mul_le (Nat.pos_of_ne_zero hn)]
      refine Nat.le_trans (Nat.mul_le_mul_left _ (Nat.le_of_lt (show n < 2 ^ (n.log2 + 1) from Nat.lt_log2_self))) ?_
      rw [← Nat.pow_add, show F + 1 + (n.log2 + 1) = F + 2 + n.log2 by omega]
      exact hD
    have hg : (D % n != 0).toNat ≤ 1 := by cases (D % n != 0) <;> decide
    have hg0 : (D % n != 0).toNat = 0 → D % n = 0 := by
      intro h0
      cases h3 : D % n != 0 with
      | true => rw [h3] at h0; cases h0
      | false => simpa using h3
    have hdm := Nat.div_add_mod D n
    have hml := Nat.mod_lt D (Nat.pos_of_ne_zero hn)
    generalize (D % n != 0).toNat = g at *
    generalize D / n = q at *
    generalize D % n = r at *
    generalize i - j - (more : Int) - 1 = p at *
    have hDn : (D : Rat) = n * q + r := by rw [← hdm]; push_cast; rfl
    have hrn : (r : Rat) < n := by exact_mod_cast hml
    have hr0 := ad7 r
    have t0 : 2 * (D : Rat) / n * n = 2 * (n * q + r) := by rw [hDn]; grind
    generalize hT : 2 * (D : Rat) / n = T at *
    have t1 : 2 * (q : Rat) ≤ T := fJ (c := n) (by grind) hnp
    have t2 : T ≤ 2 * q + 2 := fJ (c := n) (by grind) hnp
    have t3 : g = 0 → T = 2 * q := by
      intro h0
      have h3 := hg0 h0
      have h4 : (r : Rat) = 0 := by rw [h3]; rfl
      have := fJ (a := T) (b := 2 * q) (c := n) (by grind) hnp
      grind
    have hq1 : 1 ≤ 2 ^ (F + 1) := Nat.pow_pos (by decide)
    have hTp : 0 ≤ T * tw p := aF (by have := ad7 q; grind) (Rat.le_of_lt (gV p))
    have hq1' : (1 : Rat) ≤ q := by have := oO (Nat.le_trans hq1 hq); push_cast at this; exact this
    have hTne : T * tw p ≠ 0 := by
      have := Rat.mul_pos (show 0 < T by grind) (gV p)
      grind
    have hB' : T * tw p < tw B := by
      rcases aG3 (s ^^ t) with e | e <;> rw [e] at hB
      · rw [show (1 : Rat) * (T * tw p) = T * tw p by grind, bP hTp] at hB; exact hB
      · rw [show (-1 : Rat) * (T * tw p) = -(T * tw p) by grind, nX, bP hTp] at hB; exact hB
    have hlog : p + ((2 * q + g).log2 : Int) < B := by
      refine Int.not_le.1 fun hle => ?_
      have k1 := oJ hle
      rw [oN, JL] at k1
      have k2 := oO (aG5 hg (show 0 < q by omega))
      have k3 := Rat.mul_le_mul_of_nonneg_right k2 (Rat.le_of_lt (gV p))
      have k4 : ((2 * q : Nat) : Rat) = 2 * (q : Rat) := by push_cast; rfl
      rw [k4] at k3
      have k5 := Rat.mul_le_mul_of_nonneg_right t1 (Rat.le_of_lt (gV p))
      grind
    obtain ⟨m', p', K, l, k1, k2, k3⟩ := aoL h (s ^^ t) (show 2 * q + g ≠ 0 by omega) hlog hZ
    have hlp : p + 2 ≤ l := by
      have : F + 2 ≤ (2 * q + g).log2 := (Nat.le_log2 (by omega)).2 (by
        rw [show F + 2 = (F + 1) + 1 by omega, Nat.pow_succ]
        omega)
      omega
    have k4 := asH hg t1 t2 t3 hlp k3
    refine ⟨_, _, rfl, ⟨s ^^ t, m', p', k1, rfl⟩, axN k4 hTp hTne (ahO m' p') (s ^^ t) fun k j hj => axM k4 (axO hTp hj)⟩
def gU : Nat := 2 ^ 146
def wU : Nat := gU * 2 ^ 127
abbrev I32 (x : Nat) (v : Int) : Prop := Is Ieee.single (-149) x v
structure a1W (a b c d : Nat) (x y z w : Int) : Prop where
  ia : I32 a x
  ib : I32 b y
  ic : I32 c z
  id : I32 d w
  ba : x.natAbs ≤ 33 * gU
  bb : y.natAbs ≤ 23 * gU
  bc : z.natAbs ≤ 45 * gU
  bd : w.natAbs ≤ 33 * gU
  det : (x * w - y * z - ((64 * (gU * gU) : Nat) : Int)).natAbs ≤ 128 * wU
abbrev V32 (x : Nat) (r : Rat) : Prop := Vw Ieee.single x r
abbrev V64 (x : Nat) (r : Rat) : Prop := Vw Ieee.double x r
abbrev R32 (E R : Rat) : Prop := Rnd 23 (-149) E R
abbrev R64 (E R : Rat) : Prop := Rnd 52 (-1074) E R
theorem ad9 {x y : Nat} {a b : Rat} (hx : V32 x a) (hy : V32 y b) (hB : aH (a + b) < tw 127) : ∃ R, V32 (fop .add .f32 x y) R ∧ R32 (a + b) R := by
  obtain ⟨r, R, h1, h2, h3⟩ := axQ aGY hx hy hB (by decide)
  refine ⟨R, ?_, h3⟩
  show Vw _ ((Ieee.single.add x y).getD (rC .f32)) R
  rw [h1]
  exact h2
theorem aj0 {x y : Nat} {a b : Rat} (hx : V32 x a) (hy : V32 y b) (hB : aH (a - b) < tw 127) : ∃ R, V32 (fop .sub .f32 x y) R ∧ R32 (a - b) R := by
  obtain ⟨r, R, h1, h2, h3⟩ := axR aGY hx hy hB (by decide)
  refine ⟨R, ?_, h3⟩
  show Vw _ ((Ieee.single.sub x y).getD (rC .f32)) R
  rw [h1]
  exact h2
theorem aVF {x y : Nat} {a b : Rat} (hx : V32 x a) (hy : V32 y b) (hB : aH (a * b) < tw 127) : ∃ R, V32 (fop .mul .f32 x y) R ∧ R32 (a * b) R := by
  obtain ⟨r, R, h1, h2, h3⟩ := ajZ aGY hx hy hB (by decide)
  refine ⟨R, ?_, h3⟩
  show Vw _ ((Ieee.single.mul x y).getD (rC .f32)) R
  rw [h1]
  exact h2
theorem fdiv {x y : Nat} {a b : Rat} (hx : V32 x a) (hy : V32 y b) (hb : b ≠ 0) (hB : aH (a / b) < tw 127) : ∃ R, V32 (fop .quo .f32 x y) R ∧ R32 (a / b) R := by
  obtain ⟨r, R, h1, h2, h3⟩ := axS aGY hx hy hb hB (by decide)
  refine ⟨R, ?_, h3⟩
  show Vw _ ((Ieee.single.div x y).getD (rC .f32)) R
  rw [h1]
  exact h2
theorem aOO {x y : Nat} {a b : Rat} (hx : V64 x a) (hy : V64 y b) (hB : aH (a + b) < tw 900) : ∃ R, V64 (fop .add .f64 x y) R ∧ R64 (a + b) R := by
  obtain ⟨r, R, h1, h2, h3⟩ := axQ aAT hx hy hB (by decide)
  refine ⟨R, ?_, h3⟩
  show Vw _ ((Ieee.double.add x y).getD (rC .f64)) R
  rw [h1]
  exact h2
theorem aAV {x y : Nat} {a b : Rat} (hx : V64 x a) (hy : V64 y b) (hB : aH (a - b) < tw 900) : ∃ R, V64 (fop .sub .f64 x y) R ∧ R64 (a - b) R := by
  obtain ⟨r, R, h1, h2, h3⟩ := axR aAT hx hy hB (by decide)
  refine ⟨R, ?_, h3⟩
  show Vw _ ((Ieee.double.sub x y).getD (rC .f64)) R
  rw [h1]
  exact h2
theorem MN {x : Nat} {s : Bool} {m : Nat} {e : Int} (h : Ieee.single.read x = .number s m e) : m < 16777216 ∧ -149 ≤ e ∧ e ≤ 104 := by
  unfold Ieee.Format.read at h
  have c1 : Ieee.single.signWeight = 2147483648 := by decide
  have c2 : Ieee.single.binade = 8388608 := by decide
  have c3 : Ieee.single.infRung = 2139095040 := by decide
  have c4 : Ieee.single.leastPlace = -149 := by decide
  rw [c1, c2, c3, c4] at h
  dsimp only at h
  split at h
  · cases h; omega
  · split at h
    · cases h
      omega
    · split at h <;> cases h
theorem aYN {E R w : Rat} {y : Nat} (h : R32 E R) (hy : V32 y w) (hw : w ≤ E) : w ≤ R := by
  obtain ⟨s, m, e, h1, rfl⟩ := hy
  have := MN h1
  exact h.lo s m e (by omega) this.2.1 hw
theorem aYO {E R w : Rat} {y : Nat} (h : R32 E R) (hy : V32 y w) (hw : E ≤ w) : R ≤ w := by
  obtain ⟨s, m, e, h1, rfl⟩ := hy
  have := MN h1
  exact h.hi s m e (by omega) this.2.1 hw
theorem v0 : V32 0 0 := ⟨false, 0, -149, by decide, by decide +kernel⟩
theorem aVG {E R : Rat} (h : R32 E R) (hE : 0 ≤ E) : 0 ≤ R := aYN h v0 hE
theorem a1D {E R : Rat} (h : R32 E R) (hE : E ≤ 0) : R ≤ 0 := aYO h v0 hE
theorem ZA {R : Rat} (h : R32 0 R) : R = 0 := by
  have := aVG h Rat.le_refl
  have := a1D h Rat.le_refl
  grind
theorem yV {f : Ieee.Format} {x y : Nat} {a b : Rat} (hx : Vw f x a) (hy : Vw f y b) : f.order x y = some (if a < b then .lt else if a = b then .eq else .gt) := by
  obtain ⟨s, m, i, h1, rfl⟩ := hx
  obtain ⟨t, n, j, h2, rfl⟩ := hy
  unfold Ieee.Format.order
  rw [h1, h2]
  unfold Ieee.Datum.order
  dsimp only
  generalize hb : min i j = base
  rw [← MM s m (show base ≤ i by omega), ← MM t n (show base ≤ j by omega)]
  have hp := gV base
  generalize Ieee.signed s m (i - base).toNat = u
  generalize Ieee.signed t n (j - base).toNat = v
  congr 1
  rcases Int.lt_trichotomy u v with h | h | h
  · have h3 : (u : Rat) < v := by exact_mod_cast h
    rw [Int.compare_eq_lt.2 h, if_pos (Rat.mul_lt_mul_of_pos_right h3 hp)]
  · subst h
    rw [Int.compare_eq_eq.2 rfl, if_neg (by grind), if_pos rfl]
  · have h3 : (v : Rat) < u := by exact_mod_cast h
    have := Rat.mul_lt_mul_of_pos_right h3 hp
    rw [Int.compare_eq_gt.2 h, if_neg (by grind), if_neg (by grind)]
theorem axT {x y : Nat} {a b : Rat} (hx : V32 x a) (hy : V32 y b) : ltB x y = decide (a < b) := by
  unfold ltB
  rw [show FloatKind.f32.format.order x y = _ from yV hx hy]
  by_cases h : a < b
  · simp [h]
  · by_cases h2 : a = b
    · subst h2; simp
    · simp [h, h2]
theorem aUB {x y : Nat} {a b : Rat} (hx : V32 x a) (hy : V32 y b) : gtB x y = decide (b < a) := by
  unfold gtB
  rw [show FloatKind.f32.format.order x y = _ from yV hx hy]
  by_cases h : a < b
  · have : ¬ b < a := by grind
    simp [h, this]
  · by_cases h2 : a = b
    · subst h2; simp
    · have : b < a := by grind
      simp [h, h2, this]
theorem axU {x y : Nat} {a b : Rat} (hx : V64 x a) (hy : V64 y b) : gtD x y = decide (b < a) := by
  unfold gtD
  rw [show FloatKind.f64.format.order x y = _ from yV hx hy]
  by_cases h : a < b
  · have : ¬ b < a := by grind
    simp [h, this]
  · by_cases h2 : a = b
    · subst h2; simp
    · have : b < a := by grind
      simp [h, h2, this]
theorem ZB {x : Nat} {a : Rat} (hx : V32 x a) : iH x = true := by
  have e : a - a = 0 := by grind
  obtain ⟨R, h1, h2⟩ := aj0 hx hx (by rw [e, bP Rat.le_refl]; exact gV 127)
  rw [e] at h2
  have := ZA h2
  subst this
  unfold iH
  rw [show FloatKind.f32.format.order (fop .sub .f32 x x) 0 = _ from yV h1 v0]
  rfl
theorem aAW {s : Bool} {m m' : Nat} {e e' : Int} (h : (m : Rat) * tw e = m' * tw e') : dv s m e = dv s m' e' := by unfold dv; rw [h]
theorem aeA {x : Nat} {a : Rat} (hx : V32 x a) : V64 (up x) a := by
  obtain ⟨s, m, e, h, rfl⟩ := hx
  have hu := lU x
  have hd : FloatKind.f32.decode x = .number s m e := h
  unfold fF at hu
  rw [if_neg (by decide), hd, if_neg (show ¬ ((Ieee.Datum.number s m e).isNaN = true) from fun h => by cases h)] at hu
  unfold floatToFloatBits at hu
  rw [if_neg (by decide), hd] at hu
  simp only at hu
  split at hu
  · cases hu
  · rw [← Option.some.inj hu]
    obtain ⟨h1, h2, h3⟩ := MN h
    have hl : m = 0 ∨ e + (m.log2 : Int) < 200 := by
      by_cases hm : m = 0
      · exact .inl hm
      · right
        have := (Nat.log2_lt hm).2 (show m < 2 ^ 24 from h1)
        omega
    obtain ⟨m', p', k1, k2, k3⟩ := aOM aAT s (p := e) (Q := -1074) (B := 200) (by omega) (by decide) hl (by decide) (V := m) (k := (e - -1074).toNat) (Nat.lt_trans h1 (by decide)) (by omega) rfl
    refine ⟨s, m', p', k1, aAW ?_⟩
    have := congrArg (fun n : Nat => (n : Rat) * tw (-1074)) k3
    rw [nK (show (-1074 : Int) ≤ e by omega), nK k2]
    simp only [Rat.natCast_mul] at this
    grind
theorem aVH {y r : Nat} {a : Rat} (hy : V64 y a) (hr : fF .f64 y .f32 = some r) (hB : aH a < tw 127) : ∃ R, V32 r R ∧ R32 a R := by
  obtain ⟨s, m, e, h, rfl⟩ := hy
  have hd : FloatKind.f64.decode y = .number s m e := h
  unfold fF at hr
  rw [if_neg (by decide), hd, if_neg (show ¬ ((Ieee.Datum.number s m e).isNaN = true) from fun h => by cases h)] at hr
  unfold floatToFloatBits at hr
  rw [if_neg (by decide), hd] at hr
  simp only at hr
  split at hr
  · cases hr
  · rw [← Option.some.inj hr]
    rw [ad8] at hB
    exact RU aGY s hB (by decide)
theorem iL (x y : Rat) : aH (x + y) ≤ aH x + aH y := RS Rat.le_refl Rat.le_refl
theorem rH (x y : Rat) : aH (x - y) ≤ aH x + aH y := ad6 Rat.le_refl Rat.le_refl
theorem fM (x y : Rat) : aH (x * y) = aH x * aH y := by
  unfold aH
  by_cases hx : 0 ≤ x <;> by_cases hy : 0 ≤ y
  · have := aF hx hy; simp only [hx, hy, this, if_true]
  · have := aF hx (show 0 ≤ -y by grind)
    by_cases h : 0 ≤ x * y
    · simp only [hx, hy, h, if_true, if_false]; grind
    · simp only [hx, hy, h, if_true, if_false]; grind
  · have := aF (show 0 ≤ -x by grind) hy
    by_cases h : 0 ≤ x * y
    · simp only [hx, hy, h, if_true, if_false]; grind
    · simp only [hx, hy, h, if_true, if_false]; grind
  · have := aF (show 0 ≤ -x by grind) (show 0 ≤ -y by grind)
    by_cases h : 0 ≤ x * y
    · simp only [hx, hy, h, if_true, if_false]; grind
    · simp only [hx, hy, h, if_true, if_false]; grind
theorem aoM {x : Rat} (h : x ≠ 0) : 0 < aH x := by unfold aH; split <;> grind
theorem aeB {x y : Rat} (hy : y ≠ 0) : aH (x / y) * aH y = aH x := by
  rw [← fM]
  congr 1
  grind
theorem acM {E R v : Rat} (h : aH (R - E) * v ≤ aH E) (hE : E ≠ 0) : ∃ e, R = E * (1 + e) ∧ aH e * v ≤ 1 := by
  refine ⟨(R - E) / E, by grind, ?_⟩
  have h1 := aeB (x := R - E) hE
  have h2 := aoM hE
  have h4 : aH ((R - E) / E) * v * aH E ≤ 1 * aH E := by
    rw [← h1] at h
    grind
  exact fJ h4 h2
def tiny : Rat := tw (-126)
theorem qL : 0 < tiny := gV _
theorem RV {k : Int} (h : -126 ≤ k) : tiny ≤ tw k := oJ h
theorem O4 {E R : Rat} (h : R32 E R) : aH (R - E) * 2 ^ 24 ≤ aH E + tiny := by
  have h1 := h.err
  have h2 : tw (-((23 : Nat) : Int) - 1) * 2 ^ 24 = 1 := by decide +kernel
  have h3 : tw (-149 - 1) * 2 ^ 24 = tiny := by decide +kernel
  have h4 := Rat.mul_le_mul_of_nonneg_right h1 (show (0 : Rat) ≤ 2 ^ 24 by decide +kernel)
  rw [Rat.add_mul, h3, Rat.mul_assoc, h2] at h4
  grind
theorem aUC {E R : Rat} (h : R32 E R) {k : Int} (hk : -126 ≤ k) (hE : tw k ≤ aH E) : ∃ e, R = E * (1 + e) ∧ aH e * 2 ^ 23 ≤ 1 := by
  have h1 := O4 h
  have h2 := RV hk
  refine acM (by grind) (fun h0 => ?_)
  subst h0
  have : aH (0 : Rat) = 0 := by decide +kernel
  have := gV k
  grind
def val (x : Nat) : Rat := match Ieee.single.read x with
  | .number s m e => dv s m e
  | _ => 0
theorem nZ {x : Nat} {r : Rat} (h : V32 x r) : val x = r := by
  obtain ⟨s, m, e, h1, rfl⟩ := h
  unfold val
  rw [h1]
theorem aYP {x : Nat} {r : Rat} (h : V32 x r) : V32 x (val x) := by rw [nZ h]; exact h
theorem oV {x : Rat} {k : Int} (h : aH x ≤ tw k) (hk : k ≤ 126) : aH x < tw 127 := by
  have h1 := oJ hk
  have h2 : tw 127 = 2 * tw 126 := by decide +kernel
  have h3 := gV 126
  grind
def nrw (x : Nat) : Nat := (fF .f64 x .f32).getD 0
theorem a1E {a b c : Rat} (h : a ≤ b) (k : b < c) : a < c := by grind
theorem zU {x : Rat} {k : Int} (h : x ≤ tw k) (hk : k ≤ 899) : x < tw 900 := by
  refine a1E (Rat.le_trans h (oJ hk)) ?_
  have e : tw 900 = tw 899 * tw 1 := by rw [← oN]; rfl
  have e1 : tw 1 = 2 := by decide +kernel
  have p := gV 899
  rw [e, e1]
  generalize tw 899 = x at *
  grind
theorem JM {y : Nat} {a : Rat} (hy : Vw Ieee.double y a) (ha : aH a ≤ tw 120) : fF .f64 y .f32 = some (nrw y) ∧ ∃ R, V32 (nrw y) R ∧ R32 a R := by
  obtain ⟨s, m, e, h, rfl⟩ := hy
  have hl : m = 0 ∨ e + (m.log2 : Int) < 127 := by
    by_cases hm : m = 0
    · exact .inl hm
    · right
      rw [ad8] at ha
      refine Int.not_le.1 fun hle => ?_
      have k1 := oJ hle
      rw [oN, JL] at k1
      have k2 := Rat.mul_le_mul_of_nonneg_right (oO (Nat.log2_self_le hm)) (Rat.le_of_lt (gV e))
      have k3 : tw 120 < tw 127 := by decide +kernel
      grind
  obtain ⟨r, hr⟩ := JF (s := s) (m := m) (e := e) h hl
  have e1 : nrw y = r := by unfold nrw; rw [hr]; rfl
  rw [e1]
  exact ⟨hr, aVH ⟨s, m, e, h, rfl⟩ hr (oV ha (by decide))⟩
theorem uS {x y : Nat} {a b : Rat} (hx : V32 x a) (hy : V32 y b) (hB : aH (a * b) ≤ tw 250) : V64 (fop .mul .f64 (up x) (up y)) (a * b) := by
  obtain ⟨r, R, h1, h2, h3⟩ := ajZ aAT (aeA hx) (aeA hy) (B := 900) (zU hB (by decide)) (by decide)
  obtain ⟨s, m, i, r1, rfl⟩ := hx
  obtain ⟨t, n, j, r2, rfl⟩ := hy
  obtain ⟨m1, m2, m3⟩ := MN r1
  obtain ⟨n1, n2, n3⟩ := MN r2
  have e : dv s m i * dv t n j = dv (s ^^ t) (m * n) (i + j) := by
    unfold dv
    rw [asG, oN, Rat.natCast_mul]
    grind
  have hW : m * n < 2 ^ (52 + 1) := Nat.lt_of_lt_of_le (Nat.mul_lt_mul'' m1 n1) (by decide)
  have k1 := h3.lo _ _ _ hW (show -1074 ≤ i + j by omega) (by rw [← e]; exact Rat.le_refl)
  have k2 := h3.hi _ _ _ hW (show -1074 ≤ i + j by omega) (by rw [← e]; exact Rat.le_refl)
  rw [← e] at k1 k2
  have hR : R = dv s m i * dv t n j := by grind
  subst hR
  show Vw _ ((Ieee.double.mul (up _) (up _)).getD (rC .f64)) _
  rw [h1]
  exact h2
theorem aj1 {E R : Rat} (h : R64 E R) : aH (R - E) * 2 ^ 53 ≤ aH E + tiny := by
  have h1 := h.err
  have h2 : tw (-((52 : Nat) : Int) - 1) * 2 ^ 53 = 1 := by decide +kernel
  have h3 : tw (-1074 - 1) * 2 ^ 53 ≤ tiny := by
    have : tw (-1074 - 1) ≤ tw (-200) := oJ (by decide)
    have e : tw (-200) * 2 ^ 53 ≤ tiny := by decide +kernel
    generalize tw (-1074 - 1) = x at *
    grind
  have h4 := Rat.mul_le_mul_of_nonneg_right h1 (show (0 : Rat) ≤ 2 ^ 53 by decide +kernel)
  rw [Rat.add_mul, Rat.mul_assoc, h2] at h4
  grind
theorem asI {E D R : Rat} (h1 : aH (D - E) * 2 ^ 53 ≤ aH E + tiny) (h2 : aH (R - D) * 2 ^ 24 ≤ aH D + tiny) : aH (R - E) * 2 ^ 24 * 1000 ≤ aH E * 1001 + 3000 * tiny := by
  have q1 := iL (R - D) (D - E)
  rw [show R - D + (D - E) = R - E by grind] at q1
  have q2 := iL (D - E) E
  rw [show D - E + E = D by grind] at q2
  have q3 := iW E
  have q4 := iW (D - E)
  have ht := qL
  generalize aH (R - E) = A at *
  generalize aH (R - D) = B at *
  generalize aH (D - E) = C at *
  generalize aH D = F at *
  generalize aH E = G at *
  generalize tiny = t at *
  grind
def mcR (a b c d : Nat) : Nat := nrw (fop .sub .f64 (fop .mul .f64 (up a) (up c)) (fop .mul .f64 (up b) (up d)))
def mcI (a b c d : Nat) : Nat := nrw (fop .add .f64 (fop .mul .f64 (up a) (up d)) (fop .mul .f64 (up b) (up c)))
theorem uT (k : Int) : tw (k + 1) = 2 * tw k := by
  have := oN k 1
  rw [show tw 1 = 2 by decide +kernel] at this
  grind
theorem lX {a b : Rat} {k : Int} (ha : aH a ≤ tw k) (hb : aH b ≤ tw k) : aH (a * b) ≤ tw (k + k) := by
  rw [oN]
  exact aG0 ha hb
structure McV (a b c d : Nat) (A B C D : Rat) (X Y : Rat) : Prop where
  r : V32 (mcR a b c d) X
  i : V32 (mcI a b c d) Y
  okr : fF .f64 (fop .sub .f64 (fop .mul .f64 (up a) (up c)) (fop .mul .f64 (up b) (up d))) .f32 = some (mcR a b c d)
  oki : fF .f64 (fop .add .f64 (fop .mul .f64 (up a) (up d)) (fop .mul .f64 (up b) (up c))) .f32 = some (mcI a b c d)
  er : aH (X - (A * C - B * D)) * 2 ^ 24 * 1000 ≤ aH (A * C - B * D) * 1001 + 3000 * tiny
  ei : aH (Y - (A * D + B * C)) * 2 ^ 24 * 1000 ≤ aH (A * D + B * C) * 1001 + 3000 * tiny
theorem zK {a b c d : Nat} {A B C D : Rat} {k : Int} (ha : V32 a A) (hb : V32 b B) (hc : V32 c C) (hd : V32 d D) (hk : k ≤ 50) (kA : aH A ≤ tw k) (kB : aH B ≤ tw k) (kC : aH C ≤ tw k) (kD : aH D ≤ tw k) : ∃ X Y, McV a b c d A B C D X Y := by
  have hk2 : tw (k + k) ≤ tw 100 := oJ (by omega)
  have h250 : tw 100 ≤ tw 250 := oJ (by decide)
  have m1 := uS ha hc (Rat.le_trans (lX kA kC) (Rat.le_trans hk2 h250))
  have m2 := uS hb hd (Rat.le_trans (lX kB kD) (Rat.le_trans hk2 h250))
  have m3 := uS ha hd (Rat.le_trans (lX kA kD) (Rat.le_trans hk2 h250))
  have m4 := uS hb hc (Rat.le_trans (lX kB kC) (Rat.le_trans hk2 h250))
  have e101 : tw 101 = 2 * tw 100 := uT 100
  have e102 : tw 102 = 2 * tw 101 := uT 101
  have p100 := gV 100
  have b1 : aH (A * C - B * D) ≤ tw 101 := by
    have := ad6 (lX kA kC) (lX kB kD)
    grind
  have b2 : aH (A * D + B * C) ≤ tw 101 := by
    have := RS (lX kA kD) (lX kB kC)
    grind
  obtain ⟨S, s1, s2⟩ := aAV m1 m2 (zU b1 (by decide))
  obtain ⟨T, t1, t2⟩ := aOO m3 m4 (zU b2 (by decide))
  have s3 := aj1 s2
  have t3 := aj1 t2
  have ht : tiny ≤ tw 100 := RV (by decide)
  have b3 : aH S ≤ tw 120 := by
    have q := iL (S - (A * C - B * D)) (A * C - B * D)
    rw [show S - (A * C - B * D) + (A * C - B * D) = S by grind] at q
    have := oJ (show (102 : Int) ≤ 120 by decide)
    grind
  have b4 : aH T ≤ tw 120 := by
    have q := iL (T - (A * D + B * C)) (A * D + B * C)
    rw [show T - (A * D + B * C) + (A * D + B * C) = T by grind] at q
    have := oJ (show (102 : Int) ≤ 120 by decide)
    grind
  obtain ⟨n1, X, n2, n3⟩ := JM s1 b3
  obtain ⟨n4, Y, n5, n6⟩ := JM t1 b4
  exact ⟨X, Y, n2, n5, n1, n4, asI s3 (O4 n3), asI t3 (O4 n6)⟩
theorem asJ {x : Nat} {s : Bool} {m : Nat} {e : Int} (h : Ieee.single.read x = .number s m e) : Ieee.single.read (Op.negFloat .f32 x) = .number (!s) m e := by
  have h1 : Op.negFloat .f32 x % 2147483648 = x % 2147483648 := by
    unfold Op.negFloat
    rw [show (2147483648 : Nat) = 2 ^ 31 by decide, Nat.xor_mod_two_pow]
    show x % 2 ^ 31 ^^^ 2 ^ 31 % 2 ^ 31 = _
    simp
  have h2 : (Op.negFloat .f32 x / 2147483648 % 2 == 1) = !(x / 2147483648 % 2 == 1) := by
    have e1 : ∀ y : Nat, (y / 2147483648 % 2 == 1) = y.testBit 31 := by
      intro y
      rw [Nat.testBit_eq_decide_div_mod_eq, show (2 : Nat) ^ 31 = 2147483648 by decide]
      by_cases hy : y / 2147483648 % 2 = 1 <;> simp [hy]
    rw [e1, e1]
    unfold Op.negFloat
    rw [Nat.testBit_xor]
    have h63 : Nat.testBit (2 ^ (FloatKind.f32.format.exponentBits + FloatKind.f32.format.fractionBits)) 31 = true := by decide +kernel
    rw [h63]
    cases x.testBit 31 <;> rfl
  have c1 : Ieee.single.signWeight = 2147483648 := by decide
  unfold Ieee.Format.read at h ⊢
  rw [c1] at h ⊢
  rw [h1, h2]
  generalize (x / 2147483648 % 2 == 1) = b at *
  generalize x % 2147483648 = r at *
  dsimp only at h ⊢
  split at h
  · rename_i hr
    rw [if_pos hr]
    cases h
    rfl
  · rename_i hr
    rw [if_neg hr]
    split at h
    · rename_i hr2
      rw [if_pos hr2]
      cases h
      rfl
    · split at h <;> cases h
theorem aVI (s : Bool) : sg (!s) = - sg s := by cases s <;> decide +kernel
theorem asK {x : Nat} {a : Rat} (h : V32 x a) : V32 (I5 .f32 x) (-a) := by
  obtain ⟨s, m, e, hx, rfl⟩ := h
  refine ⟨!s, m, e, ?_, ?_⟩
  · unfold I5
    rw [iV (by rw [ab6]; unfold isN; show (Ieee.single.read x).isNaN = false; rw [hx]; rfl)]
    exact asJ hx
  · unfold dv
    rw [aVI]
    grind
structure Q4 where
  ar : Rat
  ai : Rat
  br : Rat
  bi : Rat
def Q4.add (v e : Q4) : Q4 := ⟨v.ar + e.ar, v.ai + e.ai, v.br + e.br, v.bi + e.bi⟩
def qN (v : Q4) : Rat := v.ar * v.ar + v.ai * v.ai + v.br * v.br + v.bi * v.bi
def qR (v : Q4) : Rat := v.ar * v.ar + v.ai * v.ai - v.br * v.br - v.bi * v.bi
def qI (v : Q4) : Rat := 2 * (v.ar * v.bi - v.ai * v.br)
def qFx (t : Bool) (v : Q4) : Rat := if t then qR v else qI v
def qS (v : Q4) : Rat := (v.ar + v.br) * (v.ar + v.br) + (v.ai + v.bi) * (v.ai + v.bi)
def qD (v : Q4) : Rat := (v.ar - v.br) * (v.ar - v.br) + (v.ai - v.bi) * (v.ai - v.bi)
def qW (ρ : Rat) (v : Q4) : Rat := qS v + ρ * qD v
def xR (M L : Rat) (v : Q4) : Q4 := ⟨(M * v.ar + L * v.br) / 2, (M * v.ai + L * v.bi) / 2, (L * v.ar + M * v.br) / 2, (L * v.ai + M * v.bi) / 2⟩
def xI (y : Rat) (v : Q4) : Q4 := ⟨(v.ar - y * v.ai + (v.br + y * v.bi)) / 2, (v.ai + y * v.ar + (v.bi - y * v.br)) / 2, (v.ar + y * v.ai + (v.br - y * v.bi)) / 2, (v.ai - y * v.ar + (v.bi + y * v.br)) / 2⟩
theorem iK (x : Rat) : 0 ≤ x * x := by
  rcases Rat.le_total (a := (0 : Rat)) (b := x) with h | h
  · exact aF h h
  · have := aF (show 0 ≤ -x by grind) (show 0 ≤ -x by grind); grind
theorem zV (v : Q4) : 0 ≤ qN v := by
  have h1 := iK v.ar
  have h2 := iK v.ai
  have h3 := iK v.br
  have h4 := iK v.bi
  unfold qN
  grind
theorem aaK (v : Q4) : 0 ≤ qS v := by
  have h1 := iK (v.ar + v.br)
  have h2 := iK (v.ai + v.bi)
  unfold qS
  grind
theorem aaL (v : Q4) : 0 ≤ qD v := by
  have h1 := iK (v.ar - v.br)
  have h2 := iK (v.ai - v.bi)
  unfold qD
  grind
theorem qSD (v : Q4) : qS v + qD v = 2 * qN v := by unfold qS qD qN; grind
theorem a1F (M L : Rat) (v : Q4) : 4 * qR (xR M L v) = (M * M - L * L) * qR v := by
  obtain ⟨a, b, c, d⟩ := v
  unfold qR xR
  dsimp only
  have e : ∀ x : Rat, x / 2 * (x / 2) = x * x * (1 / 4) := fun x => by grind
  rw [e, e, e, e]
  grind
theorem a1G (M L : Rat) (v : Q4) : 4 * qI (xR M L v) = (M * M - L * L) * qI v := by
  obtain ⟨a, b, c, d⟩ := v
  unfold qI xR
  dsimp only
  have e : ∀ x y : Rat, x / 2 * (y / 2) = x * y * (1 / 4) := fun x y => by grind
  rw [e, e]
  grind
theorem a1H (M L : Rat) (v : Q4) : 4 * qS (xR M L v) = (M + L) * (M + L) * qS v := by
  obtain ⟨a, b, c, d⟩ := v
  unfold qS xR
  dsimp only
  have e : ∀ x y : Rat, (x / 2 + y / 2) * (x / 2 + y / 2) = (x + y) * (x + y) * (1 / 4) := fun x y => by grind
  rw [e, e]
  grind
theorem a1I (M L : Rat) (v : Q4) : 4 * qD (xR M L v) = (M - L) * (M - L) * qD v := by
  obtain ⟨a, b, c, d⟩ := v
  unfold qD xR
  dsimp only
  have e : ∀ x y : Rat, (x / 2 - y / 2) * (x / 2 - y / 2) = (x - y) * (x - y) * (1 / 4) := fun x y => by grind
  rw [e, e]
  grind
theorem a1J (y : Rat) (v : Q4) : qR (xI y v) = y * qI v := by
  obtain ⟨a, b, c, d⟩ := v
  unfold qI qR xI
  dsimp only
  have e : ∀ x : Rat, x / 2 * (x / 2) = x * x * (1 / 4) := fun x => by grind
  rw [e, e, e, e]
  grind
theorem a1K (y : Rat) (v : Q4) : qI (xI y v) = -(y * qR v) := by
  obtain ⟨a, b, c, d⟩ := v
  unfold qI qR xI
  dsimp only
  have e : ∀ x y : Rat, x / 2 * (y / 2) = x * y * (1 / 4) := fun x y => by grind
  rw [e, e]
  grind
theorem a1L (y : Rat) (v : Q4) : qS (xI y v) = qS v := by
  obtain ⟨a, b, c, d⟩ := v
  unfold qS xI
  dsimp only
  have e : ∀ x y : Rat, (x / 2 + y / 2) * (x / 2 + y / 2) = (x + y) * (x + y) * (1 / 4) := fun x y => by grind
  rw [e, e]
  grind
theorem a1M (y : Rat) (v : Q4) : qD (xI y v) = y * y * qD v := by
  obtain ⟨a, b, c, d⟩ := v
  unfold qD xI
  dsimp only
  have e : ∀ x y : Rat, (x / 2 - y / 2) * (x / 2 - y / 2) = (x - y) * (x - y) * (1 / 4) := fun x y => by grind
  rw [e, e]
  grind
theorem zW {x y τ : Rat} (hτ : 0 < τ) : 2 * (x * y) * τ ≤ τ * τ * (x * x) + y * y := by
  have := iK (τ * x - y)
  grind
theorem aeC (t : Bool) (v e : Q4) {τ B : Rat} (hτ : 0 < τ) (hB : 0 ≤ B) (he : qN e ≤ τ * τ * B) : aH (qFx t (v.add e) - qFx t v) ≤ τ * (qN v + B) + τ * τ * B := by
  have h1 : aH (qFx t (v.add e) - qFx t v) * τ ≤ (τ * (qN v + B) + τ * τ * B) * τ := by
    obtain ⟨a, b, c, d⟩ := v
    obtain ⟨p, q, r, s⟩ := e
    unfold qN at he ⊢
    dsimp only at he ⊢
    have s1 := iK p
    have s2 := iK q
    have s3 := iK r
    have s4 := iK s
    have hτ0 := Rat.le_of_lt hτ
    have pB := aF hτ0 (show 0 ≤ τ * τ * B - (p * p + q * q + r * r + s * s) by grind)
    have key : ∀ z : Rat, z = 2 * (a * p) + 2 * (b * q) - 2 * (c * r) - 2 * (d * s) + (p * p + q * q - r * r - s * s) ∨ z = 2 * (a * s) - 2 * (b * r) - 2 * (c * q) + 2 * (d * p) + 2 * (p * s - q * r) →
        aH z * τ ≤ (τ * (a * a + b * b + c * c + d * d + B) + τ * τ * B) * τ := by
      intro z hz
      rw [show aH z * τ = aH (z * τ) by rw [fM, bP hτ0]]
      rw [fA]
      rcases hz with rfl | rfl
      · have m1 := zW (x := a) (y := p) hτ
        have m2 := zW (x := b) (y := q) hτ
        have m3 := zW (x := c) (y := r) hτ
        have m4 := zW (x := d) (y := s) hτ
        have n1 := zW (x := a) (y := -p) hτ
        have n2 := zW (x := b) (y := -q) hτ
        have n3 := zW (x := c) (y := -r) hτ
        have n4 := zW (x := d) (y := -s) hτ
        have t1 := aF hτ0 s1
        have t2 := aF hτ0 s2
        have t3 := aF hτ0 s3
        have t4 := aF hτ0 s4
        constructor <;> grind
      · have m1 := zW (x := a) (y := s) hτ
        have m2 := zW (x := b) (y := r) hτ
        have m3 := zW (x := c) (y := q) hτ
        have m4 := zW (x := d) (y := p) hτ
        have n1 := zW (x := a) (y := -s) hτ
        have n2 := zW (x := b) (y := -r) hτ
        have n3 := zW (x := c) (y := -q) hτ
        have n4 := zW (x := d) (y := -p) hτ
        have w1 := aF hτ0 (iK (p + s))
        have w2 := aF hτ0 (iK (p - s))
        have w3 := aF hτ0 (iK (q + r))
        have w4 := aF hτ0 (iK (q - r))
        constructor <;> grind
    refine key _ ?_
    cases t
    · right
      unfold qFx qI Q4.add
      dsimp only
      rw [if_neg (by decide), if_neg (by decide)]
      grind
    · left
      unfold qFx qR Q4.add
      dsimp only
      rw [if_pos rfl, if_pos rfl]
      grind
  exact fJ h1 hτ
theorem yJ (v e : Q4) {ρ m τ B : Rat} (hτ : 0 < τ) (hρ : 0 ≤ ρ) (hm : 1 ≤ m ∧ ρ ≤ m) (he : qN e ≤ τ * τ * B) : qW ρ (v.add e) ≤ (1 + τ) * qW ρ v + 2 * m * (τ * B + τ * τ * B) := by
  have h1 : qW ρ (v.add e) * τ ≤ ((1 + τ) * qW ρ v + 2 * m * (τ * B + τ * τ * B)) * τ := by
    have hτ0 := Rat.le_of_lt hτ
    have eW : qW ρ e ≤ 2 * m * qN e := by
      have h2 := qSD e
      have h3 := aaK e
      have h4 := aaL e
      have h5 := aF (show 0 ≤ m - 1 by grind) h3
      have h6 := aF (show 0 ≤ m - ρ by grind) h4
      have h7 : m * (qS e + qD e) = m * (2 * qN e) := by rw [h2]
      unfold qW
      grind
    have h7 := aF (show 0 ≤ 2 * m by grind) (show 0 ≤ τ * τ * B - qN e by grind)
    have h8 := aF hτ0 h7
    have h9 := aF hτ0 (show 0 ≤ 2 * m * qN e - qW ρ e by grind)
    have key : qW ρ (v.add e) * τ ≤ (1 + τ) * qW ρ v * τ + (1 + τ) * qW ρ e := by
      obtain ⟨a, b, c, d⟩ := v
      obtain ⟨p, q, r, s⟩ := e
      have m1 := zW (x := a + c) (y := p + r) hτ
      have m2 := zW (x := b + d) (y := q + s) hτ
      have m3 := aF hρ (show 0 ≤ τ * τ * ((a - c) * (a - c)) + (p - r) * (p - r) - 2 * ((a - c) * (p - r)) * τ by have := zW (x := a - c) (y := p - r) hτ; grind)
      have m4 := aF hρ (show 0 ≤ τ * τ * ((b - d) * (b - d)) + (q - s) * (q - s) - 2 * ((b - d) * (q - s)) * τ by have := zW (x := b - d) (y := q - s) hτ; grind)
      unfold qW qS qD Q4.add
      dsimp only
      grind
    generalize qW ρ (v.add e) = A at *
    generalize qW ρ v = A2 at *
    generalize qW ρ e = A3 at *
    generalize qN e = A4 at *
    grind
  exact fJ h1 hτ
theorem aYQ {x y : Nat} {a b : Rat} (hx : V64 x a) (hy : V64 y b) (hb : b ≠ 0) (hB : aH (a / b) < tw 900) : ∃ R, V64 (fop .quo .f64 x y) R ∧ R64 (a / b) R := by
  obtain ⟨r, R, h1, h2, h3⟩ := axS aAT hx hy hb hB (by decide)
  refine ⟨R, ?_, h3⟩
  show Vw _ ((Ieee.double.div x y).getD (rC .f64)) R
  rw [h1]
  exact h2
theorem RX (s : Bool) (k : Int) : dv s 0 k = 0 := by
  unfold dv
  have : ((0 : Nat) : Rat) = 0 := rfl
  rw [this]
  grind
theorem asL {R : Rat} (h : R64 0 R) : R = 0 := by
  have h1 := h.lo false 0 0 (by decide) (by decide) (by rw [RX]; exact Rat.le_refl)
  have h2 := h.hi false 0 0 (by decide) (by decide) (by rw [RX]; exact Rat.le_refl)
  rw [RX] at h1 h2
  grind
theorem aYR {E R : Rat} (h : R64 E R) {k : Int} (hk : -126 ≤ k) (hE : tw k ≤ aH E) : ∃ e, R = E * (1 + e) ∧ aH e * 2 ^ 52 ≤ 1 := by
  have h1 := aj1 h
  have h2 := RV hk
  refine acM (by grind) (fun h0 => ?_)
  subst h0
  have : aH (0 : Rat) = 0 := by decide +kernel
  have := gV k
  grind
def axV (t p : Nat) : Nat := nrw (fop .quo .f64 t p)
theorem axW {t p : Nat} {T P E F : Rat} (ht : V64 t T) (hp : V64 p P) (hT : aH (T - E) * 2 ^ 53 ≤ aH E + tiny) (hT0 : E = 0 → T = 0) (hP : aH (P - F) * 2 ^ 53 ≤ aH F + tiny) (hF0 : tw (-12) ≤ F) (hF1 : F ≤ tw 12) (hE1 : E = 0 ∨ tw (-20) ≤ aH E) (hE2 : aH E ≤ tw 20) :
    fF .f64 (fop .quo .f64 t p) .f32 = some (axV t p) ∧ ∃ R, V32 (axV t p) R ∧ (E = 0 → R = 0) ∧ ∃ e, R = E / F * (1 + e) ∧ aH e * 2 ^ 22 ≤ 1 := by
  have tl := RV (show (-126 : Int) ≤ -80 by decide)
  have e80 : tw (-80) * 2 ^ 60 = tw (-20) := by decide +kernel
  have e20 : tw (-20) * 2 ^ 8 = tw (-12) := by decide +kernel
  have p80 := gV (-80)
  have hFa : aH F = F := bP (by grind)
  rw [hFa] at hP
  have hPF : aH (P - F) * 2 ^ 51 ≤ F := by grind
  have hP1 : aH (P - F) ≤ F * (1 / 2) := by grind
  rw [fA] at hP1
  have hP0 : 0 < P := by grind
  rcases hE1 with h0 | h0
  · have hT1 := hT0 h0
    subst hT1
    have ez : (0 : Rat) / P = 0 := by grind
    obtain ⟨D, d1, d2⟩ := aYQ ht hp (by grind) (by rw [ez, show aH (0 : Rat) = 0 by decide +kernel]; exact gV 900)
    rw [ez] at d2
    have hD := asL d2
    subst hD
    obtain ⟨n1, R, n2, n3⟩ := JM d1 (by rw [show aH (0 : Rat) = 0 by decide +kernel]; exact Rat.le_of_lt (gV 120))
    have hR := ZA n3
    subst hR
    refine ⟨n1, 0, n2, fun _ => rfl, 0, ?_, by decide +kernel⟩
    rw [h0]
    grind
  · have hEne : E ≠ 0 := by
      intro h
      rw [h, show aH (0 : Rat) = 0 by decide +kernel] at h0
      have := gV (-20)
      grind
    have hTE : aH (T - E) * 2 ^ 51 ≤ aH E := by grind
    obtain ⟨e1, g1, g2⟩ := acM hTE hEne
    obtain ⟨e2, g3, g4⟩ := acM (by rw [hFa]; exact hPF) (show F ≠ 0 by grind)
    have hq := aeB (x := E) (show F ≠ 0 by grind)
    rw [hFa] at hq
    have b1 : aH e1 ≤ 1 / 1000 := by grind
    have b2 : aH e2 ≤ 1 / 1000 := by grind
    rw [fA] at b1 b2
    have h2e : 1 + e2 ≠ 0 := by grind
    have hTP : T / P = E / F * ((1 + e1) / (1 + e2)) := by
      rw [g1, g3]
      have : F ≠ 0 := by grind
      grind
    obtain ⟨c, hc1, hc2⟩ : ∃ c, (1 + e1) / (1 + e2) = 1 + c ∧ aH c * 2 ^ 48 ≤ 1 := by
      refine ⟨(e1 - e2) / (1 + e2), by grind, ?_⟩
      have k1 := aeB (x := e1 - e2) h2e
      have k2 := rH e1 e2
      have k3 : aH (1 + e2) = 1 + e2 := bP (by grind)
      rw [k3] at k1
      have k4 := iW ((e1 - e2) / (1 + e2))
      have k5 := aF k4 (show 0 ≤ e2 + 1 / 1000 by grind)
      generalize aH ((e1 - e2) / (1 + e2)) = x at *
      generalize aH (e1 - e2) = y at *
      grind
    rw [hc1] at hTP
    have c1 : aH c ≤ 1 / 1000 := by grind
    rw [fA] at c1
    have hQ : aH (T / P) = aH (E / F) * (1 + c) := by rw [hTP, fM, bP (show 0 ≤ 1 + c by grind)]
    have hqpos : 0 < aH (E / F) := aoM (by
      intro h
      rw [h, show aH (0 : Rat) = 0 by decide +kernel] at hq
      have := gV (-20)
      grind)
    have hFE : F * 1 ≤ F * 1 := Rat.le_refl
    have hQhi : aH (E / F) ≤ tw 33 := by
      refine fJ (c := F) ?_ (by grind)
      rw [hq]
      have e : tw 33 * tw (-12) = 2 * tw 20 := by rw [← oN]; decide +kernel
      have := aF (Rat.le_of_lt (gV 33)) (show 0 ≤ F - tw (-12) by grind)
      have := gV 20
      grind
    have hQlo : tw (-32) ≤ aH (E / F) := by
      refine fJ (c := F) ?_ (by grind)
      rw [hq]
      have e : tw (-32) * tw 12 = tw (-20) := by rw [← oN]; rfl
      have := aF (Rat.le_of_lt (gV (-32))) (show 0 ≤ tw 12 - F by grind)
      grind
    have e34 : tw 34 = 2 * tw 33 := uT 33
    have e32 : tw (-32) = 2 * tw (-33) := by rw [show (-32 : Int) = -33 + 1 by decide]; exact uT (-33)
    have p33 := gV 33
    have pm33 := gV (-33)
    have i1 := aF (Rat.le_of_lt hqpos) (show 0 ≤ 1 / 1000 - c by grind)
    have i2 := aF (Rat.le_of_lt hqpos) (show 0 ≤ 1 / 1000 + c by grind)
    have hT34 : aH (T / P) ≤ tw 34 := by rw [hQ]; grind
    have hT33 : tw (-33) ≤ aH (T / P) := by rw [hQ]; grind
    obtain ⟨D, d1, d2⟩ := aYQ ht hp (by grind) (zU hT34 (by decide))
    obtain ⟨e3, d3, d4⟩ := aYR d2 (by decide) hT33
    have b3 : aH e3 ≤ 1 / 1000 := by grind
    rw [fA] at b3
    have hDa : aH D = aH (T / P) * (1 + e3) := by rw [d3, fM, bP (show 0 ≤ 1 + e3 by grind)]
    have hTp := iW (T / P)
    have j1 := aF hTp (show 0 ≤ 1 / 1000 - e3 by grind)
    have j2 := aF hTp (show 0 ≤ 1 / 1000 + e3 by grind)
    have e35 : tw 35 = 2 * tw 34 := uT 34
    have e33 : tw (-33) = 2 * tw (-34) := by rw [show (-33 : Int) = -34 + 1 by decide]; exact uT (-34)
    obtain ⟨n1, R, n2, n3⟩ := JM d1 (by
      have := oJ (show (35 : Int) ≤ 120 by decide)
      rw [hDa]
      grind)
    obtain ⟨e4, r1, r2⟩ := aUC n3 (k := -34) (by decide) (by rw [hDa]; grind)
    refine ⟨n1, R, n2, fun h => absurd h hEne, (1 + c) * (1 + e3) * (1 + e4) - 1, ?_, ?_⟩
    · rw [r1, d3, hTP]
      grind
    · have e : (1 + c) * (1 + e3) * (1 + e4) - 1 = c + e3 + e4 + (c * e3 + c * e4 + e3 * e4 + c * e3 * e4) := by grind
      have q1 := iL (c + e3 + e4) (c * e3 + c * e4 + e3 * e4 + c * e3 * e4)
      have q2 := iL (c + e3) e4
      have q3 := iL c e3
      have q4 : aH (c * e3 + c * e4 + e3 * e4 + c * e3 * e4) ≤ (aH c + aH e3) * (1 / 100) := by
        have k1 : c * e3 + c * e4 + e3 * e4 + c * e3 * e4 = c * (e3 + e4 + e3 * e4) + e3 * e4 := by grind
        have b4 : aH e4 ≤ 1 / 1000 := by grind
        rw [fA] at b4
        have k2 : aH (e3 + e4 + e3 * e4) ≤ 1 / 100 := by
          have z1 := aF (show 0 ≤ 1 / 1000 - e3 by grind) (show 0 ≤ 1 / 1000 - e4 by grind)
          have z2 := aF (show 0 ≤ 1 / 1000 + e3 by grind) (show 0 ≤ 1 / 1000 + e4 by grind)
          have z3 := aF (show 0 ≤ 1 / 1000 + e3 by grind) (show 0 ≤ 1 / 1000 - e4 by grind)
          have z4 := aF (show 0 ≤ 1 / 1000 - e3 by grind) (show 0 ≤ 1 / 1000 + e4 by grind)
          rw [fA]
          constructor <;> grind
        have k3 := iL (c * (e3 + e4 + e3 * e4)) (e3 * e4)
        have k4 : aH (c * (e3 + e4 + e3 * e4)) ≤ aH c * (1 / 100) := by
          rw [fM]
          exact Rat.mul_le_mul_of_nonneg_left k2 (iW c)
        have k5 : aH (e3 * e4) ≤ aH e3 * (1 / 100) := by
          rw [fM]
          exact Rat.mul_le_mul_of_nonneg_left (by rw [fA]; grind) (iW e3)
        rw [k1]
        grind
      rw [e]
      generalize aH (c + e3 + e4 + (c * e3 + c * e4 + e3 * e4 + c * e3 * e4)) = A1 at *
      generalize aH (c + e3 + e4) = A2 at *
      generalize aH (c * e3 + c * e4 + e3 * e4 + c * e3 * e4) = A3 at *
      generalize aH (c + e3) = A4 at *
      generalize aH c = A5 at *
      generalize aH e3 = A6 at *
      generalize aH e4 = A7 at *
      clear e hc1 hTP hQ
      grind
def t1R (a b c d : Nat) : Nat := fop .sub .f64 (fop .mul .f64 (up a) (up c)) (fop .mul .f64 (up b) (up (I5 .f32 d)))
def t1I (a b c d : Nat) : Nat := fop .add .f64 (fop .mul .f64 (up a) (up (I5 .f32 d))) (fop .mul .f64 (up b) (up c))
def pwD (c d : Nat) : Nat := fop .add .f64 (fop .mul .f64 (up c) (up c)) (fop .mul .f64 (up d) (up d))
def qtR (a b c d : Nat) : Nat := axV (t1R a b c d) (pwD c d)
def qtI (a b c d : Nat) : Nat := axV (t1I a b c d) (pwD c d)
structure QtV (a b c d : Nat) (E G F X Y : Rat) : Prop where
  okr : fF .f64 (fop .quo .f64 (t1R a b c d) (pwD c d)) .f32 = some (qtR a b c d)
  oki : fF .f64 (fop .quo .f64 (t1I a b c d) (pwD c d)) .f32 = some (qtI a b c d)
  r : V32 (qtR a b c d) X
  i : V32 (qtI a b c d) Y
  r0 : E = 0 → X = 0
  i0 : G = 0 → Y = 0
  re : ∃ e, X = E / F * (1 + e) ∧ aH e * 2 ^ 22 ≤ 1
  ie : ∃ e, Y = G / F * (1 + e) ∧ aH e * 2 ^ 22 ≤ 1
theorem aj2 {a b c d : Nat} {A B C D E G F : Rat} (ha : V32 a A) (hb : V32 b B) (hc : V32 c C) (hd : V32 d D) (kA : aH A ≤ tw 5) (kB : aH B ≤ tw 5) (kC : aH C ≤ tw 5) (kD : aH D ≤ tw 5)
    (hE : E = A * C - B * (-D)) (hG : G = A * (-D) + B * C) (hF : F = C * C + D * D) (hF0 : tw (-12) ≤ F) (hE0 : E = 0 ∨ tw (-20) ≤ aH E) (hG0 : G = 0 ∨ tw (-20) ≤ aH G) : ∃ X Y, QtV a b c d E G F X Y := by
  have hn := asK hd
  have kD' : aH (-D) ≤ tw 5 := by rw [nX]; exact kD
  have h10 : tw (5 + 5) ≤ tw 250 := oJ (by decide)
  have m1 := uS ha hc (Rat.le_trans (lX kA kC) h10)
  have m2 := uS hb hn (Rat.le_trans (lX kB kD') h10)
  have m3 := uS ha hn (Rat.le_trans (lX kA kD') h10)
  have m4 := uS hb hc (Rat.le_trans (lX kB kC) h10)
  have m5 := uS hc hc (Rat.le_trans (lX kC kC) h10)
  have m6 := uS hd hd (Rat.le_trans (lX kD kD) h10)
  have e11 : tw 11 = 2 * tw (5 + 5) := uT 10
  have b1 : aH E ≤ tw 11 := by rw [hE]; have := ad6 (lX kA kC) (lX kB kD'); grind
  have b2 : aH G ≤ tw 11 := by rw [hG]; have := RS (lX kA kD') (lX kB kC); grind
  have b3 : aH F ≤ tw 11 := by rw [hF]; have := RS (lX kC kC) (lX kD kD); grind
  obtain ⟨S, s1, s2⟩ := aAV m1 m2 (zU (by rw [← hE]; exact b1) (by decide))
  obtain ⟨T, t1, t2⟩ := aOO m3 m4 (zU (by rw [← hG]; exact b2) (by decide))
  obtain ⟨P, p1, p2⟩ := aOO m5 m6 (zU (by rw [← hF]; exact b3) (by decide))
  rw [← hE] at s2
  rw [← hG] at t2
  rw [← hF] at p2
  have hFle : F ≤ tw 12 := by
    have h1 := oJ (show (11 : Int) ≤ 12 by decide)
    rw [fA] at b3
    grind
  have e20 := oJ (show (11 : Int) ≤ 20 by decide)
  obtain ⟨q1, X, q2, q3, q4⟩ := axW (t := t1R a b c d) s1 p1 (aj1 s2) (fun h => by rw [h] at s2; exact asL s2) (aj1 p2) hF0 hFle hE0 (Rat.le_trans b1 e20)
  obtain ⟨r1, Y, r2, r3, r4⟩ := axW (t := t1I a b c d) t1 p1 (aj1 t2) (fun h => by rw [h] at t2; exact asL t2) (aj1 p2) hF0 hFle hG0 (Rat.le_trans b2 e20)
  exact ⟨X, Y, q1, r1, q2, r2, q3, r3, q4, r4⟩
theorem uM {p q : Nat} {P Q p0 q0 c : Rat} (hp : V32 p P) (hq : V32 q Q) (eP : aH (P - p0) * 2 ^ 24 * 1000 ≤ aH p0 * 1001 + 3000 * tiny) (eQ : aH (Q - q0) * 2 ^ 24 * 1000 ≤ aH q0 * 1001 + 3000 * tiny) (hc : aH p0 + aH q0 ≤ tw 90) :
    ∃ R, V32 (fop .mul .f32 (fop .add .f32 p q) 1056964608) R ∧ aH (R - (p0 + q0) / 2) * 2 ^ 24 * 1000 ≤ (aH p0 + aH q0) * 1003 + 6000 * tiny := by
  have hP0 := iW p0
  have hQ0 := iW q0
  have ht := qL
  have htl := RV (show (-126 : Int) ≤ 90 by decide)
  have k1 := iL (P - p0) p0
  rw [show P - p0 + p0 = P by grind] at k1
  have k2 := iL (Q - q0) q0
  rw [show Q - q0 + q0 = Q by grind] at k2
  have k3 := iL P Q
  have p90 := gV 90
  have e92 : tw 92 = 4 * tw 90 := by rw [show tw 92 = 2 * tw 91 from uT 91, show tw 91 = 2 * tw 90 from uT 90]; grind
  obtain ⟨S, s1, s2⟩ := ad9 hp hq (oV (k := 92) (by grind) (by decide))
  have s3 := O4 s2
  have hv : V32 1056964608 (1 / 2) := ⟨false, 8388608, -24, by decide +kernel, by decide +kernel⟩
  have k4 := iL (S - (P + Q)) (P + Q)
  rw [show S - (P + Q) + (P + Q) = S by grind] at k4
  have hS2 : aH (S * (1 / 2)) * 2 = aH S := by rw [fM, show aH (1 / 2 : Rat) = 1 / 2 by decide +kernel]; grind
  obtain ⟨R, r1, r2⟩ := aVF s1 hv (oV (k := 92) (by grind) (by decide))
  have r3 := O4 r2
  have hex : aH (R - S * (1 / 2)) * 2 ^ 24 ≤ 2 * tiny := by
    obtain ⟨sn, m, e, h1, h2⟩ := s1
    obtain ⟨h3, h4, h5⟩ := MN h1
    by_cases he : -148 ≤ e
    · have hh : S * (1 / 2) = dv sn m (e - 1) := by
        rw [h2]
        unfold dv
        have := uT (e - 1)
        rw [show e - 1 + 1 = e by omega] at this
        rw [this]
        grind
      have g1 := r2.lo sn m (e - 1) (by omega) (by omega) (by rw [← hh]; exact Rat.le_refl)
      have g2 := r2.hi sn m (e - 1) (by omega) (by omega) (by rw [← hh]; exact Rat.le_refl)
      rw [← hh] at g1 g2
      have : R - S * (1 / 2) = 0 := by grind
      rw [this, show aH (0 : Rat) = 0 by decide +kernel]
      grind
    · have he2 : e = -149 := by omega
      have hS3 : aH S ≤ 2 * tiny := by
        rw [h2, ad8, he2]
        have k5 : (m : Rat) ≤ ((2 ^ 24 : Nat) : Rat) := oO (Nat.le_of_lt h3)
        have k6 : ((2 ^ 24 : Nat) : Rat) * tw (-149) = 2 * tiny := by decide +kernel
        have := Rat.mul_le_mul_of_nonneg_right k5 (Rat.le_of_lt (gV (-149)))
        grind
      grind
  refine ⟨R, r1, ?_⟩
  have e : R - (p0 + q0) / 2 = (R - S * (1 / 2)) + ((S - (P + Q)) * (1 / 2) + ((P - p0) * (1 / 2) + (Q - q0) * (1 / 2))) := by grind
  have h2 : ∀ x : Rat, aH (x * (1 / 2)) * 2 = aH x := fun x => by rw [fM, show aH (1 / 2 : Rat) = 1 / 2 by decide +kernel]; grind
  have a1 := iL (R - S * (1 / 2)) ((S - (P + Q)) * (1 / 2) + ((P - p0) * (1 / 2) + (Q - q0) * (1 / 2)))
  have a2 := iL ((S - (P + Q)) * (1 / 2)) ((P - p0) * (1 / 2) + (Q - q0) * (1 / 2))
  have a3 := iL ((P - p0) * (1 / 2)) ((Q - q0) * (1 / 2))
  have b1 := h2 (S - (P + Q))
  have b2 := h2 (P - p0)
  have b3 := h2 (Q - q0)
  rw [e]
  generalize aH (R - S * (1 / 2) + ((S - (P + Q)) * (1 / 2) + ((P - p0) * (1 / 2) + (Q - q0) * (1 / 2)))) = X1 at *
  generalize aH (R - S * (1 / 2)) = X2 at *
  generalize aH ((S - (P + Q)) * (1 / 2) + ((P - p0) * (1 / 2) + (Q - q0) * (1 / 2))) = X3 at *
  generalize aH ((S - (P + Q)) * (1 / 2)) = X4 at *
  generalize aH ((P - p0) * (1 / 2) + (Q - q0) * (1 / 2)) = X5 at *
  generalize aH ((P - p0) * (1 / 2)) = X6 at *
  generalize aH ((Q - q0) * (1 / 2)) = X7 at *
  generalize aH (S - (P + Q)) = X8 at *
  generalize aH (P - p0) = X9 at *
  generalize aH (Q - q0) = Y1 at *
  generalize aH (P + Q) = Y2 at *
  generalize aH P = Y3 at *
  generalize aH Q = Y4 at *
  generalize aH p0 = Y5 at *
  generalize aH q0 = Y6 at *
  generalize tiny = t at *
  clear e h2 r3 k4 hS2 e92 p90 hc htl
  grind
structure W4 where
  ar : Nat
  ai : Nat
  br : Nat
  bi : Nat
structure Has (w : W4) (v : Q4) : Prop where
  ar : V32 w.ar v.ar
  ai : V32 w.ai v.ai
  br : V32 w.br v.br
  bi : V32 w.bi v.bi
def hlf (p q : Nat) : Nat := fop .mul .f32 (fop .add .f32 p q) 1056964608
def edW (mr mi lr li : Nat) (w : W4) : W4 :=
  ⟨hlf (mcR mr mi w.ar w.ai) (mcR lr li w.br w.bi), hlf (mcI mr mi w.ar w.ai) (mcI lr li w.br w.bi), hlf (mcR lr li w.ar w.ai) (mcR mr mi w.br w.bi), hlf (mcI lr li w.ar w.ai) (mcI mr mi w.br w.bi)⟩
def A8 (a b c d : Nat) : Prop := fF .f64 (fop .sub .f64 (fop .mul .f64 (up a) (up c)) (fop .mul .f64 (up b) (up d))) .f32 = some (mcR a b c d) ∧ fF .f64 (fop .add .f64 (fop .mul .f64 (up a) (up d)) (fop .mul .f64 (up b) (up c))) .f32 = some (mcI a b c d)
theorem RY {e X : Rat} (h : aH e * 2 ^ 24 * 1000 ≤ X * 1003 + 6000 * tiny) (hX : 0 ≤ X) : e * e * 2 ^ 48 ≤ X * X * (101 / 100) + tiny := by
  have ht := qL
  have ht1 : tiny * 20000 ≤ 1 := by decide +kernel
  have h1 : aH e * aH e = e * e := by rw [← fM, bP (iK e)]
  have h0 := iW e
  rw [← h1]
  generalize aH e = a at *
  generalize tiny = t at *
  have h2 : a * 2 ^ 24 ≤ X * (1003 / 1000) + 6 * t := by grind
  have h3 := aF (show 0 ≤ X * (1003 / 1000) + 6 * t - a * 2 ^ 24 by grind) (show 0 ≤ X * (1003 / 1000) + 6 * t + a * 2 ^ 24 by grind)
  have h4 := iK (X - 2000 * t)
  have h5 := aF (Rat.le_of_lt ht) (show 0 ≤ 1 - t * 20000 by grind)
  have h6 := iK X
  have h7 := aF hX (Rat.le_of_lt ht)
  grind
theorem BA (x : Rat) : aH x * aH x = x * x := by rw [← fM, bP (iK x)]
theorem aj3 (x y : Rat) : (aH x + aH y) * (aH x + aH y) ≤ 2 * (x * x) + 2 * (y * y) := by
  have h1 := BA x
  have h2 := BA y
  have h3 := iK (aH x - aH y)
  grind
structure Edge (w' : W4) (x : Q4) (B : Rat) (e : Q4) : Prop where
  has : Has w' (x.add e)
  er : qN e * 2 ^ 48 ≤ B
theorem ahP {mr lr : Nat} {M L : Rat} {w : W4} {v : Q4} (hw : Has w v) (hM : V32 mr M) (hL : V32 lr L) (kM : aH M ≤ tw 20) (kL : aH L ≤ tw 20) (ka : aH v.ar ≤ tw 20) (kb : aH v.ai ≤ tw 20) (kc : aH v.br ≤ tw 20) (kd : aH v.bi ≤ tw 20) {z z' : Nat} (hz : V32 z 0) (hz' : V32 z' 0) :
    (A8 mr z w.ar w.ai ∧ A8 lr z' w.br w.bi ∧ A8 lr z' w.ar w.ai ∧ A8 mr z w.br w.bi) ∧ ∃ e, Edge (edW mr z lr z' w) (xR M L v) ((aH M + aH L) * (aH M + aH L) * qN v * (101 / 100) + 4 * tiny) e := by
  obtain ⟨wa, wb, wc, wd⟩ := w
  obtain ⟨a, b, c, d⟩ := v
  obtain ⟨h1, h2, h3, h4⟩ := hw
  dsimp only at h1 h2 h3 h4 ka kb kc kd
  have k0 : aH (0 : Rat) ≤ tw 20 := by rw [show aH (0 : Rat) = 0 by decide +kernel]; exact Rat.le_of_lt (gV 20)
  obtain ⟨P1, P2, p⟩ := zK hM hz h1 h2 (show (20 : Int) ≤ 50 by decide) kM k0 ka kb
  obtain ⟨Q1, Q2, q⟩ := zK hL hz' h3 h4 (show (20 : Int) ≤ 50 by decide) kL k0 kc kd
  obtain ⟨R1, R2, r⟩ := zK hL hz' h1 h2 (show (20 : Int) ≤ 50 by decide) kL k0 ka kb
  obtain ⟨S1, S2, s⟩ := zK hM hz h3 h4 (show (20 : Int) ≤ 50 by decide) kM k0 kc kd
  have zr : ∀ x y u : Rat, x * y - 0 * u = x * y := fun x y u => by grind
  have zi : ∀ x y u : Rat, x * y + 0 * u = x * y := fun x y u => by grind
  have p1 := p.er
  have p2 := p.ei
  have q1 := q.er
  have q2 := q.ei
  have r1 := r.er
  have r2 := r.ei
  have s1 := s.er
  have s2 := s.ei
  rw [zr] at p1 q1 r1 s1
  rw [zi] at p2 q2 r2 s2
  have e40 : tw 40 + tw 40 ≤ tw 90 := by decide +kernel
  have bd : ∀ x y u t : Rat, aH x ≤ tw 20 → aH y ≤ tw 20 → aH u ≤ tw 20 → aH t ≤ tw 20 → aH (x * y) + aH (u * t) ≤ tw 90 := by
    intro x y u t hx hy hu ht
    have h1 := lX hx hy
    have h2 := lX hu ht
    have h3 : tw (20 + 20) = tw 40 := rfl
    rw [h3] at h1 h2
    grind
  obtain ⟨X1, x1, x2⟩ := uM (c := 0) p.r q.r p1 q1 (bd _ _ _ _ kM ka kL kc)
  obtain ⟨X2, x3, x4⟩ := uM (c := 0) p.i q.i p2 q2 (bd _ _ _ _ kM kb kL kd)
  obtain ⟨X3, x5, x6⟩ := uM (c := 0) r.r s.r r1 s1 (bd _ _ _ _ kL ka kM kc)
  obtain ⟨X4, x7, x8⟩ := uM (c := 0) r.i s.i r2 s2 (bd _ _ _ _ kL kb kM kd)
  refine ⟨⟨⟨p.okr, p.oki⟩, ⟨q.okr, q.oki⟩, ⟨r.okr, r.oki⟩, ⟨s.okr, s.oki⟩⟩, ⟨X1 - (M * a + L * c) / 2, X2 - (M * b + L * d) / 2, X3 - (L * a + M * c) / 2, X4 - (L * b + M * d) / 2⟩, ⟨?_, ?_, ?_, ?_⟩, ?_⟩
  · show V32 (hlf _ _) ((M * a + L * c) / 2 + (X1 - (M * a + L * c) / 2))
    rw [show (M * a + L * c) / 2 + (X1 - (M * a + L * c) / 2) = X1 by grind]
    exact x1
  · show V32 (hlf _ _) ((M * b + L * d) / 2 + (X2 - (M * b + L * d) / 2))
    rw [show (M * b + L * d) / 2 + (X2 - (M * b + L * d) / 2) = X2 by grind]
    exact x3
  · show V32 (hlf _ _) ((L * a + M * c) / 2 + (X3 - (L * a + M * c) / 2))
    rw [show (L * a + M * c) / 2 + (X3 - (L * a + M * c) / 2) = X3 by grind]
    exact x5
  · show V32 (hlf _ _) ((L * b + M * d) / 2 + (X4 - (L * b + M * d) / 2))
    rw [show (L * b + M * d) / 2 + (X4 - (L * b + M * d) / 2) = X4 by grind]
    exact x7
  · have nn : ∀ x y : Rat, 0 ≤ aH x + aH y := fun x y => by have := iW x; have := iW y; grind
    have g1 := RY x2 (nn _ _)
    have g2 := RY x4 (nn _ _)
    have g3 := RY x6 (nn _ _)
    have g4 := RY x8 (nn _ _)
    simp only [fM] at g1 g2 g3 g4
    unfold qN
    dsimp only
    have aa := BA a
    have ab := BA b
    have ac := BA c
    have ad := BA d
    have mM := iW M
    have mL := iW L
    generalize X1 - (M * a + L * c) / 2 = E1 at *
    generalize X2 - (M * b + L * d) / 2 = E2 at *
    generalize X3 - (L * a + M * c) / 2 = E3 at *
    generalize X4 - (L * b + M * d) / 2 = E4 at *
    generalize aH M = m at *
    generalize aH L = l at *
    rw [← aa, ← ab, ← ac, ← ad]
    generalize aH a = A at *
    generalize aH b = B at *
    generalize aH c = C at *
    generalize aH d = D at *
    have ml := aF mM mL
    have f1 := aF ml (iK (A - C))
    have f2 := aF ml (iK (B - D))
    grind
theorem ahQ {mr mi lr li : Nat} {Y : Rat} {w : W4} {v : Q4} (hw : Has w v) (hm : V32 mr 1) (hmi : V32 mi Y) (hl : V32 lr 1) (hli : V32 li (-Y)) (kY : aH Y ≤ tw 20) (ka : aH v.ar ≤ tw 20) (kb : aH v.ai ≤ tw 20) (kc : aH v.br ≤ tw 20) (kd : aH v.bi ≤ tw 20) :
    (A8 mr mi w.ar w.ai ∧ A8 lr li w.br w.bi ∧ A8 lr li w.ar w.ai ∧ A8 mr mi w.br w.bi) ∧ ∃ e, Edge (edW mr mi lr li w) (xI Y v) (4 * (1 + Y * Y) * qN v * (101 / 100) + 4 * tiny) e := by
  obtain ⟨wa, wb, wc, wd⟩ := w
  obtain ⟨a, b, c, d⟩ := v
  obtain ⟨h1, h2, h3, h4⟩ := hw
  dsimp only at h1 h2 h3 h4 ka kb kc kd
  have k1 : aH (1 : Rat) ≤ tw 20 := by decide +kernel
  have kY' : aH (-Y) ≤ tw 20 := by rw [nX]; exact kY
  obtain ⟨P1, P2, p⟩ := zK hm hmi h1 h2 (show (20 : Int) ≤ 50 by decide) k1 kY ka kb
  obtain ⟨Q1, Q2, q⟩ := zK hl hli h3 h4 (show (20 : Int) ≤ 50 by decide) k1 kY' kc kd
  obtain ⟨R1, R2, r⟩ := zK hl hli h1 h2 (show (20 : Int) ≤ 50 by decide) k1 kY' ka kb
  obtain ⟨S1, S2, s⟩ := zK hm hmi h3 h4 (show (20 : Int) ≤ 50 by decide) k1 kY kc kd
  have p1 := p.er
  have p2 := p.ei
  have q1 := q.er
  have q2 := q.ei
  have r1 := r.er
  have r2 := r.ei
  have s1 := s.er
  have s2 := s.ei
  rw [show 1 * a - Y * b = a - Y * b by grind] at p1
  rw [show 1 * b + Y * a = b + Y * a by grind] at p2
  rw [show 1 * c - -Y * d = c + Y * d by grind] at q1
  rw [show 1 * d + -Y * c = d - Y * c by grind] at q2
  rw [show 1 * a - -Y * b = a + Y * b by grind] at r1
  rw [show 1 * b + -Y * a = b - Y * a by grind] at r2
  rw [show 1 * c - Y * d = c - Y * d by grind] at s1
  rw [show 1 * d + Y * c = d + Y * c by grind] at s2
  have bd : ∀ x y u t : Rat, aH x ≤ tw 20 → aH y ≤ tw 20 → aH u ≤ tw 20 → aH t ≤ tw 20 → aH (x - Y * y) + aH (u + Y * t) ≤ tw 90 ∧ aH (x + Y * y) + aH (u - Y * t) ≤ tw 90 := by
    intro x y u t hx hy hu ht
    have h1 := lX kY hy
    have h2 := lX kY ht
    have h3 : tw (20 + 20) = tw 40 := rfl
    have e40 : tw 20 + tw 40 + tw 20 + tw 40 ≤ tw 90 := by decide +kernel
    rw [h3] at h1 h2
    have g1 := rH x (Y * y)
    have g2 := iL u (Y * t)
    have g3 := iL x (Y * y)
    have g4 := rH u (Y * t)
    constructor <;> grind
  obtain ⟨X1, x1, x2⟩ := uM (c := 0) p.r q.r p1 q1 (bd a b c d ka kb kc kd).1
  obtain ⟨X2, x3, x4⟩ := uM (c := 0) p.i q.i p2 q2 (bd b a d c kb ka kd kc).2
  obtain ⟨X3, x5, x6⟩ := uM (c := 0) r.r s.r r1 s1 (bd a b c d ka kb kc kd).2
  obtain ⟨X4, x7, x8⟩ := uM (c := 0) r.i s.i r2 s2 (bd b a d c kb ka kd kc).1
  refine ⟨⟨⟨p.okr, p.oki⟩, ⟨q.okr, q.oki⟩, ⟨r.okr, r.oki⟩, ⟨s.okr, s.oki⟩⟩, ⟨X1 - (a - Y * b + (c + Y * d)) / 2, X2 - (b + Y * a + (d - Y * c)) / 2, X3 - (a + Y * b + (c - Y * d)) / 2, X4 - (b - Y * a + (d + Y * c)) / 2⟩, ⟨?_, ?_, ?_, ?_⟩, ?_⟩
  · show V32 (hlf _ _) ((a - Y * b + (c + Y * d)) / 2 + (X1 - (a - Y * b + (c + Y * d)) / 2))
    rw [show (a - Y * b + (c + Y * d)) / 2 + (X1 - (a - Y * b + (c + Y * d)) / 2) = X1 by grind]
    exact x1
  · show V32 (hlf _ _) ((b + Y * a + (d - Y * c)) / 2 + (X2 - (b + Y * a + (d - Y * c)) / 2))
    rw [show (b + Y * a + (d - Y * c)) / 2 + (X2 - (b + Y * a + (d - Y * c)) / 2) = X2 by grind]
    exact x3
  · show V32 (hlf _ _) ((a + Y * b + (c - Y * d)) / 2 + (X3 - (a + Y * b + (c - Y * d)) / 2))
    rw [show (a + Y * b + (c - Y * d)) / 2 + (X3 - (a + Y * b + (c - Y * d)) / 2) = X3 by grind]
    exact x5
  · show V32 (hlf _ _) ((b - Y * a + (d + Y * c)) / 2 + (X4 - (b - Y * a + (d + Y * c)) / 2))
    rw [show (b - Y * a + (d + Y * c)) / 2 + (X4 - (b - Y * a + (d + Y * c)) / 2) = X4 by grind]
    exact x7
  · have nn : ∀ x y : Rat, 0 ≤ aH x + aH y := fun x y => by have := iW x; have := iW y; grind
    have g1 := RY x2 (nn _ _)
    have g2 := RY x4 (nn _ _)
    have g3 := RY x6 (nn _ _)
    have g4 := RY x8 (nn _ _)
    have s1 := aj3 (a - Y * b) (c + Y * d)
    have s2 := aj3 (b + Y * a) (d - Y * c)
    have s3 := aj3 (a + Y * b) (c - Y * d)
    have s4 := aj3 (b - Y * a) (d + Y * c)
    unfold qN
    dsimp only
    generalize X1 - (a - Y * b + (c + Y * d)) / 2 = E1 at *
    generalize X2 - (b + Y * a + (d - Y * c)) / 2 = E2 at *
    generalize X3 - (a + Y * b + (c - Y * d)) / 2 = E3 at *
    generalize X4 - (b - Y * a + (d + Y * c)) / 2 = E4 at *
    generalize (aH (a - Y * b) + aH (c + Y * d)) * (aH (a - Y * b) + aH (c + Y * d)) = G1 at *
    generalize (aH (b + Y * a) + aH (d - Y * c)) * (aH (b + Y * a) + aH (d - Y * c)) = G2 at *
    generalize (aH (a + Y * b) + aH (c - Y * d)) * (aH (a + Y * b) + aH (c - Y * d)) = G3 at *
    generalize (aH (b - Y * a) + aH (d + Y * c)) * (aH (b - Y * a) + aH (d + Y * c)) = G4 at *
    clear x1 x2 x3 x4 x5 x6 x7 x8 p q r s
    grind
def xP (c s c' s' : Rat) (v : Q4) : Q4 := ⟨v.ar * c - v.ai * s, v.ar * s + v.ai * c, v.br * c' - v.bi * s', v.br * s' + v.bi * c'⟩
def xE (g d : Rat) (v : Q4) : Q4 := ⟨v.ar * g, v.ai * g, v.br * d, v.bi * d⟩
def paW (c s c' s' : Nat) (w : W4) : W4 := ⟨mcR w.ar w.ai c s, mcI w.ar w.ai c s, mcR w.br w.bi c' s', mcI w.br w.bi c' s'⟩
def exW (g d : Nat) (w : W4) : W4 := ⟨fop .mul .f32 w.ar g, fop .mul .f32 w.ai g, fop .mul .f32 w.br d, fop .mul .f32 w.bi d⟩
theorem JO {e X : Rat} (h : aH e * 2 ^ 24 * 1000 ≤ aH X * 1001 + 3000 * tiny) : e * e * 2 ^ 48 ≤ X * X * (101 / 100) + tiny := by
  have h1 := RY (X := aH X) (e := e) (by have := iW X; have := qL; grind) (iW X)
  rw [BA] at h1
  exact h1
theorem ahR {c s c' s' : Nat} {C S C' S' : Rat} {w : W4} {v : Q4} (hw : Has w v) (hc : V32 c C) (hs : V32 s S) (hc' : V32 c' C') (hs' : V32 s' S') (kC : aH C ≤ tw 20) (kS : aH S ≤ tw 20) (kC' : aH C' ≤ tw 20) (kS' : aH S' ≤ tw 20) (ka : aH v.ar ≤ tw 20) (kb : aH v.ai ≤ tw 20) (kc : aH v.br ≤ tw 20) (kd : aH v.bi ≤ tw 20) :
    (A8 w.ar w.ai c s ∧ A8 w.br w.bi c' s') ∧ ∃ e, Edge (paW c s c' s' w) (xP C S C' S' v) (qN (xP C S C' S' v) * (101 / 100) + 4 * tiny) e := by
  obtain ⟨wa, wb, wc, wd⟩ := w
  obtain ⟨a, b, p, d⟩ := v
  obtain ⟨h1, h2, h3, h4⟩ := hw
  dsimp only at h1 h2 h3 h4 ka kb kc kd
  obtain ⟨X1, X2, x⟩ := zK h1 h2 hc hs (show (20 : Int) ≤ 50 by decide) ka kb kC kS
  obtain ⟨Y1, Y2, y⟩ := zK h3 h4 hc' hs' (show (20 : Int) ≤ 50 by decide) kc kd kC' kS'
  refine ⟨⟨⟨x.okr, x.oki⟩, ⟨y.okr, y.oki⟩⟩, ⟨X1 - (a * C - b * S), X2 - (a * S + b * C), Y1 - (p * C' - d * S'), Y2 - (p * S' + d * C')⟩, ⟨?_, ?_, ?_, ?_⟩, ?_⟩
  · show V32 (mcR _ _ _ _) (a * C - b * S + (X1 - (a * C - b * S)))
    rw [show a * C - b * S + (X1 - (a * C - b * S)) = X1 by grind]
    exact x.r
  · show V32 (mcI _ _ _ _) (a * S + b * C + (X2 - (a * S + b * C)))
    rw [show a * S + b * C + (X2 - (a * S + b * C)) = X2 by grind]
    exact x.i
  · show V32 (mcR _ _ _ _) (p * C' - d * S' + (Y1 - (p * C' - d * S')))
    rw [show p * C' - d * S' + (Y1 - (p * C' - d * S')) = Y1 by grind]
    exact y.r
  · show V32 (mcI _ _ _ _) (p * S' + d * C' + (Y2 - (p * S' + d * C')))
    rw [show p * S' + d * C' + (Y2 - (p * S' + d * C')) = Y2 by grind]
    exact y.i
  · have g1 := JO x.er
    have g2 := JO x.ei
    have g3 := JO y.er
    have g4 := JO y.ei
    unfold qN xP
    dsimp only
    generalize X1 - (a * C - b * S) = E1 at *
    generalize X2 - (a * S + b * C) = E2 at *
    generalize Y1 - (p * C' - d * S') = E3 at *
    generalize Y2 - (p * S' + d * C') = E4 at *
    generalize a * C - b * S = F1 at *
    generalize a * S + b * C = F2 at *
    generalize p * C' - d * S' = F3 at *
    generalize p * S' + d * C' = F4 at *
    clear x y
    grind
theorem aj6 {g : Nat} {G : Rat} {x : Nat} {a : Rat} (hx : V32 x a) (hg : V32 g G) (kG : aH G ≤ tw 20) (ka : aH a ≤ tw 20) : ∃ R, V32 (fop .mul .f32 x g) R ∧ aH (R - a * G) * 2 ^ 24 * 1000 ≤ aH (a * G) * 1001 + 3000 * tiny := by
  obtain ⟨R, r1, r2⟩ := aVF hx hg (oV (k := 40) (lX ka kG) (by decide))
  have r3 := O4 r2
  have := iW (a * G)
  have := qL
  exact ⟨R, r1, by grind⟩
theorem ahS {g d : Nat} {G D : Rat} {w : W4} {v : Q4} (hw : Has w v) (hg : V32 g G) (hd : V32 d D) (kG : aH G ≤ tw 20) (kD : aH D ≤ tw 20) (ka : aH v.ar ≤ tw 20) (kb : aH v.ai ≤ tw 20) (kc : aH v.br ≤ tw 20) (kd : aH v.bi ≤ tw 20) :
    ∃ e, Edge (exW g d w) (xE G D v) (qN (xE G D v) * (101 / 100) + 4 * tiny) e := by
  obtain ⟨wa, wb, wc, wd⟩ := w
  obtain ⟨a, b, p, q⟩ := v
  obtain ⟨h1, h2, h3, h4⟩ := hw
  dsimp only at h1 h2 h3 h4 ka kb kc kd
  obtain ⟨X1, x1, x2⟩ := aj6 h1 hg kG ka
  obtain ⟨X2, x3, x4⟩ := aj6 h2 hg kG kb
  obtain ⟨X3, x5, x6⟩ := aj6 h3 hd kD kc
  obtain ⟨X4, x7, x8⟩ := aj6 h4 hd kD kd
  refine ⟨⟨X1 - a * G, X2 - b * G, X3 - p * D, X4 - q * D⟩, ⟨?_, ?_, ?_, ?_⟩, ?_⟩
  · show V32 (fop .mul .f32 _ _) (a * G + (X1 - a * G))
    rw [show a * G + (X1 - a * G) = X1 by grind]
    exact x1
  · show V32 (fop .mul .f32 _ _) (b * G + (X2 - b * G))
    rw [show b * G + (X2 - b * G) = X2 by grind]
    exact x3
  · show V32 (fop .mul .f32 _ _) (p * D + (X3 - p * D))
    rw [show p * D + (X3 - p * D) = X3 by grind]
    exact x5
  · show V32 (fop .mul .f32 _ _) (q * D + (X4 - q * D))
    rw [show q * D + (X4 - q * D) = X4 by grind]
    exact x7
  · have g1 := JO x2
    have g2 := JO x4
    have g3 := JO x6
    have g4 := JO x8
    unfold qN xE
    dsimp only
    generalize X1 - a * G = E1 at *
    generalize X2 - b * G = E2 at *
    generalize X3 - p * D = E3 at *
    generalize X4 - q * D = E4 at *
    generalize a * G = F1 at *
    generalize b * G = F2 at *
    generalize p * D = F3 at *
    generalize q * D = F4 at *
    grind
theorem a1N (c s c' s' : Rat) (v : Q4) : qN (xP c s c' s' v) = (c * c + s * s) * (v.ar * v.ar + v.ai * v.ai) + (c' * c' + s' * s') * (v.br * v.br + v.bi * v.bi) := by unfold qN xP; grind
theorem a1O (c s c' s' : Rat) (v : Q4) : qR (xP c s c' s' v) = (c * c + s * s) * (v.ar * v.ar + v.ai * v.ai) - (c' * c' + s' * s') * (v.br * v.br + v.bi * v.bi) := by unfold qR xP; grind
theorem axX {c s c' s' δ : Rat} (v : Q4) (h : aH (c * c + s * s - 1) ≤ δ) (h' : aH (c' * c' + s' * s' - 1) ≤ δ) : aH (qR (xP c s c' s' v) - qR v) ≤ δ * qN v ∧ aH (qN (xP c s c' s' v) - qN v) ≤ δ * qN v := by
  rw [a1O, a1N]
  have h1 := iK v.ar
  have h2 := iK v.ai
  have h3 := iK v.br
  have h4 := iK v.bi
  rw [fA] at h h'
  unfold qR qN
  generalize v.ar * v.ar = A at *
  generalize v.ai * v.ai = B at *
  generalize v.br * v.br = C at *
  generalize v.bi * v.bi = D at *
  generalize c * c + s * s = p at *
  generalize c' * c' + s' * s' = q at *
  have i1 := aF (show 0 ≤ A + B by grind) (show 0 ≤ δ - (p - 1) by grind)
  have i2 := aF (show 0 ≤ A + B by grind) (show 0 ≤ δ + (p - 1) by grind)
  have i3 := aF (show 0 ≤ C + D by grind) (show 0 ≤ δ - (q - 1) by grind)
  have i4 := aF (show 0 ≤ C + D by grind) (show 0 ≤ δ + (q - 1) by grind)
  constructor <;> (rw [fA]; constructor <;> grind)
theorem a1P (g d : Rat) (v : Q4) : qI (xE g d v) = g * d * qI v := by unfold qI xE; grind
theorem aOP {ρ m : Rat} (v : Q4) (h1 : 1 ≤ m) (h2 : ρ ≤ m) : qW ρ v ≤ 2 * m * qN v := by
  have e := qSD v
  have h3 := aF (show 0 ≤ m - 1 by grind) (aaK v)
  have h4 := aF (show 0 ≤ m - ρ by grind) (aaL v)
  have h5 : m * (qS v + qD v) = m * (2 * qN v) := by rw [e]
  unfold qW
  grind
theorem aVJ {ρ m : Rat} (v : Q4) (h1 : m ≤ 1) (h2 : m ≤ ρ) : 2 * m * qN v ≤ qW ρ v := by
  have e := qSD v
  have h3 := aF (show 0 ≤ 1 - m by grind) (aaK v)
  have h4 := aF (show 0 ≤ ρ - m by grind) (aaL v)
  have h5 : m * (qS v + qD v) = m * (2 * qN v) := by rw [e]
  unfold qW
  grind
theorem axY {A B c : Rat} (hA : 0 < A) (h : c * c ≤ A * B) (s t : Rat) : 0 ≤ A * (s * s) - 2 * c * (s * t) + B * (t * t) := by
  have h1 := iK (A * s - c * t)
  have h2 := aF (show 0 ≤ A * B - c * c by grind) (iK t)
  have h3 : 0 * A ≤ (A * (s * s) - 2 * c * (s * t) + B * (t * t)) * A := by grind
  exact fJ h3 hA
theorem aYS {g d ρ G : Rat} (v : Q4) (hA : 0 < 4 * G - (g + d) * (g + d) - ρ * ((g - d) * (g - d))) (h : (g * g - d * d) * (1 + ρ) * ((g * g - d * d) * (1 + ρ)) ≤ (4 * G - (g + d) * (g + d) - ρ * ((g - d) * (g - d))) * (4 * (ρ * G) - (g - d) * (g - d) - ρ * ((g + d) * (g + d)))) : qW ρ (xE g d v) ≤ G * qW ρ v := by
  obtain ⟨a, b, p, q⟩ := v
  have f1 := axY hA h (a + p) (a - p)
  have f2 := axY hA h (b + q) (b - q)
  unfold qW qS qD xE
  dsimp only
  grind
structure aG6 (K0 K1 ρ0 ρ1 : Rat) (t0 t1 : Bool) (v x : Q4) : Prop where
  flux : aH (K0 * qFx t0 x - K1 * qFx t1 v) * 2 ^ 17 ≤ K1 * aH (qFx t1 v)
  up : qW ρ0 x * 2 ^ 16 ≤ (2 ^ 16 + 1) * qW ρ1 v
  dn : qW ρ1 v * 2 ^ 16 ≤ (2 ^ 16 + 1) * qW ρ0 x
theorem aAX {K0 K1 E q M L : Rat} (t : Bool) (v : Q4) (hE : 0 < E) (h0 : 0 < K0) (h1 : 0 < K1) (r1 : K1 ≤ 9 * K0) (r2 : K0 ≤ 9 * K1) (hq : ∃ e, q = K1 / K0 * (1 + e) ∧ aH e * 2 ^ 22 ≤ 1) (hM : aH (M - (1 + q)) * 2 ^ 24 ≤ aH (1 + q) + tiny) (hL : aH (L - (1 - q)) * 2 ^ 24 ≤ aH (1 - q) + tiny) :
    aG6 K0 K1 (K0 * K0 / E) (K1 * K1 / E) t t v (xR M L v) := by
  obtain ⟨e, hq, he⟩ := hq
  have ht := qL
  have ht1 : tiny * 2 ^ 30 ≤ 1 := by decide +kernel
  have ek : K1 / K0 * K0 = K1 := by grind
  have hqq0 : 0 < K1 / K0 := tV h1 h0
  have hqq9 : K1 / K0 ≤ 9 := fJ (c := K0) (by grind) h0
  have hqq1 : 1 ≤ 9 * (K1 / K0) := fJ (c := K0) (by grind) h0
  have he1 : aH e ≤ 1 / 2 ^ 22 := by grind
  rw [fA] at he1
  generalize hu : K1 / K0 = u at *
  have hq1 : aH (q - u) ≤ u * (1 / 2 ^ 22) := by
    rw [hq, show u * (1 + e) - u = u * e by grind, fM, bP (Rat.le_of_lt hqq0)]
    exact Rat.mul_le_mul_of_nonneg_left (by rw [fA]; exact he1) (Rat.le_of_lt hqq0)
  rw [fA] at hq1
  have hqp : 0 < q ∧ q ≤ 10 := by constructor <;> grind
  have b1 : aH (1 + q) = 1 + q := bP (by grind)
  have b2 : aH (1 - q) ≤ 1 + q := by rw [fA]; constructor <;> grind
  rw [b1] at hM
  have hM1 : aH (M - (1 + q)) ≤ (1 + q) * (1 / 2 ^ 23) := by grind
  have hL1 : aH (L - (1 - q)) ≤ (1 + q) * (1 / 2 ^ 23) := by grind
  rw [fA] at hM1 hL1
  obtain ⟨a, ha1, ha2, ha3⟩ : ∃ a, M + L = 2 * (1 + a) ∧ -(1 / 2 ^ 19) ≤ a ∧ a ≤ 1 / 2 ^ 19 := ⟨(M + L) / 2 - 1, by grind, by grind, by grind⟩
  obtain ⟨c, hc1, hc2, hc3⟩ : ∃ c, M - L = 2 * (u * (1 + c)) ∧ -(1 / 2 ^ 19) ≤ c ∧ c ≤ 1 / 2 ^ 19 := by
    have k0 : (1 + q) * (1 / 2 ^ 23) + u * (1 / 2 ^ 22) ≤ u * (1 / 2 ^ 19) := by grind
    refine ⟨(M - L) / (2 * u) - 1, by grind, ?_, ?_⟩
    · refine fJ (c := u) ?_ hqq0
      have : ((M - L) / (2 * u) - 1) * u = (M - L) / 2 - u := by grind
      rw [this]
      grind
    · refine fJ (c := u) ?_ hqq0
      have : ((M - L) / (2 * u) - 1) * u = (M - L) / 2 - u := by grind
      rw [this]
      grind
  have hML : M * M - L * L = 4 * (u * ((1 + a) * (1 + c))) := by
    have : M * M - L * L = (M + L) * (M - L) := by grind
    rw [this, ha1, hc1]
    grind
  have small : ∀ x y : Rat, -(1 / 2 ^ 19) ≤ x → x ≤ 1 / 2 ^ 19 → -(1 / 2 ^ 19) ≤ y → y ≤ 1 / 2 ^ 19 → 1 - 2 / 2 ^ 19 ≤ (1 + x) * (1 + y) + 1 / 2 ^ 30 ∧ (1 + x) * (1 + y) ≤ 1 + 2 / 2 ^ 19 + 1 / 2 ^ 30 := by
    intro x y h1 h2 h3 h4
    have z1 := aF (show 0 ≤ 1 / 2 ^ 19 - x by grind) (show 0 ≤ 1 / 2 ^ 19 - y by grind)
    have z2 := aF (show 0 ≤ 1 / 2 ^ 19 + x by grind) (show 0 ≤ 1 / 2 ^ 19 + y by grind)
    have z3 := aF (show 0 ≤ 1 / 2 ^ 19 + x by grind) (show 0 ≤ 1 / 2 ^ 19 - y by grind)
    have z4 := aF (show 0 ≤ 1 / 2 ^ 19 - x by grind) (show 0 ≤ 1 / 2 ^ 19 + y by grind)
    constructor <;> grind
  refine ⟨?_, ?_, ?_⟩
  · have hF : 4 * qFx t (xR M L v) = (M * M - L * L) * qFx t v := by
      cases t
      · exact a1G M L v
      · exact a1F M L v
    obtain ⟨s1, s2⟩ := small a c ha2 ha3 hc2 hc3
    generalize (1 + a) * (1 + c) = P at *
    have hF2 : qFx t (xR M L v) = u * P * qFx t v := by rw [hML] at hF; grind
    have : K0 * qFx t (xR M L v) - K1 * qFx t v = K1 * qFx t v * (P - 1) := by rw [hF2, ← ek]; grind
    rw [this, fM, fM, bP (Rat.le_of_lt h1)]
    have hP : aH (P - 1) * 2 ^ 17 ≤ 1 := by
      have : aH (P - 1) ≤ 2 / 2 ^ 19 + 1 / 2 ^ 30 := by rw [fA]; constructor <;> grind
      grind
    have := aF (aF (Rat.le_of_lt h1) (iW (qFx t v))) (show 0 ≤ 1 - aH (P - 1) * 2 ^ 17 by grind)
    grind
  all_goals
    have hS := a1H M L v
    have hD := a1I M L v
    rw [ha1] at hS
    rw [hc1] at hD
    have hS2 : qS (xR M L v) = (1 + a) * (1 + a) * qS v := by grind
    have hD2 : qD (xR M L v) = u * u * ((1 + c) * (1 + c)) * qD v := by grind
    obtain ⟨a1, a2⟩ := small a a ha2 ha3 ha2 ha3
    obtain ⟨c1, c2⟩ := small c c hc2 hc3 hc2 hc3
    have hρ : K0 * K0 / E * (u * u) = K1 * K1 / E := by rw [← ek]; grind
    have hρ1 : 0 ≤ K1 * K1 / E := Rat.le_of_lt (tV (Rat.mul_pos h1 h1) hE)
    have hW : qW (K0 * K0 / E) (xR M L v) = (1 + a) * (1 + a) * qS v + K1 * K1 / E * ((1 + c) * (1 + c)) * qD v := by
      unfold qW
      rw [hS2, hD2, ← hρ]
      grind
    rw [hW]
    unfold qW
    have n1 := aaK v
    have n2 := aF hρ1 (aaL v)
    generalize (1 + a) * (1 + a) = A at *
    generalize (1 + c) * (1 + c) = C at *
    generalize qS v = S at *
    have e3 : K1 * K1 / E * C * qD v = C * (K1 * K1 / E * qD v) := by grind
    rw [e3]
    generalize K1 * K1 / E * qD v = D at *
    have A1 : A ≤ 1 + 1 / 2 ^ 17 ∧ 1 - 1 / 2 ^ 17 ≤ A := by constructor <;> grind
    have C1 : C ≤ 1 + 1 / 2 ^ 17 ∧ 1 - 1 / 2 ^ 17 ≤ C := by constructor <;> grind
    have i1 := aF n1 (show 0 ≤ 1 + 1 / 2 ^ 17 - A by grind)
    have i2 := aF n1 (show 0 ≤ A - (1 - 1 / 2 ^ 17) by grind)
    have i3 := aF n2 (show 0 ≤ 1 + 1 / 2 ^ 17 - C by grind)
    have i4 := aF n2 (show 0 ≤ C - (1 - 1 / 2 ^ 17) by grind)
    clear hS hD hS2 hD2 hW hML small
    grind
theorem aAY {K0 K1 E y : Rat} (t : Bool) (v : Q4) (hE : 0 < E) (h0 : 0 < K0) (h1 : 0 < K1) (hy : ∃ e, y = (if t then K1 / K0 else -(K1 / K0)) * (1 + e) ∧ aH e * 2 ^ 22 ≤ 1) :
    aG6 K0 K1 (K0 * K0 / E) (K1 * K1 / E) t (!t) v (xI y v) := by
  obtain ⟨e, hy, he⟩ := hy
  have ek : K1 / K0 * K0 = K1 := by grind
  have hqq0 : 0 < K1 / K0 := tV h1 h0
  have he1 : aH e ≤ 1 / 2 ^ 22 := by grind
  have he2 := he1
  rw [fA] at he2
  generalize hu : K1 / K0 = u at *
  refine ⟨?_, ?_, ?_⟩
  · have hF : K0 * qFx t (xI y v) - K1 * qFx (!t) v = K1 * qFx (!t) v * e := by
      cases t
      · show K0 * qI (xI y v) - K1 * qR v = K1 * qR v * e
        rw [a1K, hy, ← ek]
        simp only [Bool.false_eq_true, if_false]
        grind
      · show K0 * qR (xI y v) - K1 * qI v = K1 * qI v * e
        rw [a1J, hy, ← ek]
        simp only [if_true]
        grind
    rw [hF, fM, fM, bP (Rat.le_of_lt h1)]
    have := aF (aF (Rat.le_of_lt h1) (iW (qFx (!t) v))) (show 0 ≤ 1 - aH e * 2 ^ 22 by grind)
    have := aF (aF (Rat.le_of_lt h1) (iW (qFx (!t) v))) (iW e)
    grind
  all_goals
    have hyy : y * y = u * u * ((1 + e) * (1 + e)) := by
      rw [hy]
      cases t
      · simp only [Bool.false_eq_true, if_false]; grind
      · simp only [if_true]; grind
    have hρ : K0 * K0 / E * (u * u) = K1 * K1 / E := by rw [← ek]; grind
    have hρ1 : 0 ≤ K1 * K1 / E := Rat.le_of_lt (tV (Rat.mul_pos h1 h1) hE)
    have hW : qW (K0 * K0 / E) (xI y v) = qS v + K1 * K1 / E * ((1 + e) * (1 + e)) * qD v := by
      unfold qW
      rw [a1L, a1M, hyy, ← hρ]
      grind
    rw [hW]
    unfold qW
    have n1 := aaK v
    have n2 := aF hρ1 (aaL v)
    have z1 := aF (show 0 ≤ 1 / 2 ^ 22 - e by grind) (show 0 ≤ 1 / 2 ^ 22 + e by grind)
    have hC : (1 + e) * (1 + e) ≤ 1 + 1 / 2 ^ 17 ∧ 1 - 1 / 2 ^ 17 ≤ (1 + e) * (1 + e) := by
      have := iK e
      constructor <;> grind
    generalize (1 + e) * (1 + e) = C at *
    generalize qS v = S at *
    have e3 : K1 * K1 / E * C * qD v = C * (K1 * K1 / E * qD v) := by grind
    rw [e3]
    generalize K1 * K1 / E * qD v = D at *
    have i3 := aF n2 (show 0 ≤ 1 + 1 / 2 ^ 17 - C by grind)
    have i4 := aF n2 (show 0 ≤ C - (1 - 1 / 2 ^ 17) by grind)
    clear hW hyy z1
    grind
structure Step (J0 W0 J1 W1 c d g : Rat) : Prop where
  flux : aH (J1 - J0) ≤ aH J0 * (1 / 2 ^ 16) + c * W0 + d * W1
  up : W1 ≤ g * (1 + 1 / 2 ^ 12) * W0
  dn : W0 ≤ g * (1 + 1 / 2 ^ 12) * W1
theorem acN (v e : Q4) : (v.add e).add ⟨-e.ar, -e.ai, -e.br, -e.bi⟩ = v := by
  obtain ⟨a, b, c, d⟩ := v
  obtain ⟨p, q, r, s⟩ := e
  unfold Q4.add
  dsimp only
  congr 1 <;> grind
theorem aj7 (e : Q4) : qN ⟨-e.ar, -e.ai, -e.br, -e.bi⟩ = qN e := by unfold qN; grind
theorem kN {ρ : Rat} (h : 0 ≤ ρ) (v : Q4) : 0 ≤ qW ρ v := by
  have h1 := aaK v
  have h2 := aF h (aaL v)
  unfold qW
  grind
theorem aoN {q W τ : Rat} (hq : 0 ≤ q) (hW : 0 ≤ W) (h : q ≤ 20 * W) (hτ : 0 ≤ τ) (hτ2 : τ * 2 ^ 19 ≤ 1) : 2 * (q * τ) + 2 * (q * τ * τ) ≤ W * (1 / 2 ^ 13) := by
  have i1 := aF hq (show 0 ≤ 1 - τ * 2 ^ 19 by grind)
  have i2 := aF (aF hq hτ) (show 0 ≤ 1 - τ * 2 ^ 19 by grind)
  have i3 := aF (aF hq hτ) hτ
  have k : (2 * (q * τ) + 2 * (q * τ * τ)) * 2 ^ 13 ≤ W := by grind
  generalize 2 * (q * τ) + 2 * (q * τ * τ) = x at *
  clear i1 i2 i3
  grind
theorem ahT {K0 K1 ρ0 ρ1 τ m n0 n1 : Rat} {t0 t1 : Bool} {v x e : Q4} (k : aG6 K0 K1 ρ0 ρ1 t0 t1 v x) (hK0 : 0 < K0) (hK1 : 0 < K1) (hρ0 : 0 ≤ ρ0) (hρ1 : 0 ≤ ρ1) (hτ : 0 < τ) (hτ2 : τ * 2 ^ 19 ≤ 1) (he : qN e ≤ τ * τ * qN v) (hm : 1 ≤ m ∧ ρ0 ≤ m) (hn0 : qN x ≤ n0 * qW ρ0 x) (hn1 : qN v ≤ n1 * qW ρ1 v) (n0p : 0 ≤ n0) (n1p : 0 ≤ n1) (hmn : m * n1 ≤ 20) :
    Step (K1 * qFx t1 v) (qW ρ1 v) (K0 * qFx t0 (x.add e)) (qW ρ0 (x.add e)) (K0 * τ * (n0 + n1) * (1 + 1 / 2 ^ 12)) 0 1 := by
  have hN := zV v
  have hX := zV x
  have hτ0 := Rat.le_of_lt hτ
  have hτ1 : τ ≤ 1 / 2 ^ 19 := by grind
  have hW1 := kN hρ1 v
  have hWx := kN hρ0 x
  have hW0 := kN hρ0 (x.add e)
  have kf := k.flux
  have ku := k.up
  have kd := k.dn
  have fe := aeC t0 x e hτ hN he
  have se := yJ x e hτ hρ0 hm he
  have sb := yJ (x.add e) ⟨-e.ar, -e.ai, -e.br, -e.bi⟩ hτ hρ0 hm (by rw [aj7]; exact he)
  rw [acN] at sb
  have m0 : 0 ≤ m := by grind
  have hB : 2 * m * (τ * qN v + τ * τ * qN v) ≤ qW ρ1 v * (1 / 2 ^ 13) := by
    have i1 := aF m0 (show 0 ≤ n1 * qW ρ1 v - qN v by grind)
    have i2 := aF hW1 (show 0 ≤ 20 - m * n1 by grind)
    have i3 : m * qN v ≤ 20 * qW ρ1 v := by grind
    have e1 : 2 * m * (τ * qN v + τ * τ * qN v) = 2 * (m * qN v * τ) + 2 * (m * qN v * τ * τ) := by grind
    rw [e1]
    exact aoN (aF m0 hN) hW1 i3 hτ0 hτ2
  generalize 2 * m * (τ * qN v + τ * τ * qN v) = B at *
  have hxe := aF hWx (show 0 ≤ 1 / 2 ^ 19 - τ by grind)
  have hxe2 := aF hW0 (show 0 ≤ 1 / 2 ^ 19 - τ by grind)
  have hup : qW ρ0 (x.add e) ≤ (1 + 1 / 2 ^ 12) * qW ρ1 v := by
    generalize qW ρ0 (x.add e) = A at *
    generalize qW ρ1 v = C at *
    generalize qW ρ0 x = D at *
    clear fe kf hn0 hn1 he hmn
    grind
  have hdn : qW ρ1 v ≤ (1 + 1 / 2 ^ 12) * qW ρ0 (x.add e) := by
    generalize qW ρ0 (x.add e) = A at *
    generalize qW ρ1 v = C at *
    generalize qW ρ0 x = D at *
    clear fe kf hn0 hn1 he hmn
    grind
  refine ⟨?_, by grind, by grind⟩
  have hxn : qN x ≤ n0 * ((1 + 1 / 2 ^ 16) * qW ρ1 v) := by
    have := aF n0p (show 0 ≤ (1 + 1 / 2 ^ 16) * qW ρ1 v - qW ρ0 x by grind)
    grind
  have e2 : K0 * qFx t0 (x.add e) - K1 * qFx t1 v = (K0 * qFx t0 x - K1 * qFx t1 v) + K0 * (qFx t0 (x.add e) - qFx t0 x) := by grind
  have q1 := iL (K0 * qFx t0 x - K1 * qFx t1 v) (K0 * (qFx t0 (x.add e) - qFx t0 x))
  rw [e2]
  have q2 : aH (K0 * (qFx t0 (x.add e) - qFx t0 x)) ≤ K0 * (τ * (n0 + n1) * (1 + 1 / 2 ^ 12) * qW ρ1 v) := by
    rw [fM, bP (Rat.le_of_lt hK0)]
    refine Rat.mul_le_mul_of_nonneg_left ?_ (Rat.le_of_lt hK0)
    refine Rat.le_trans fe ?_
    have j1 := aF hτ0 (show 0 ≤ n0 * ((1 + 1 / 2 ^ 16) * qW ρ1 v) - qN x by grind)
    have j2 := aF hτ0 (show 0 ≤ n1 * qW ρ1 v - qN v by grind)
    have j3 := aF (aF hτ0 hN) (show 0 ≤ 1 / 2 ^ 19 - τ by grind)
    have j4 := aF hτ0 (aF n0p hW1)
    have j5 := aF hτ0 (aF n1p hW1)
    have j6 := aF hτ0 hN
    generalize qW ρ1 v = C at *
    generalize qN v = D at *
    generalize qN x = F at *
    have e3 : τ * (n0 + n1) * (1 + 1 / 2 ^ 12) * C = τ * (n0 * C) * (1 + 1 / 2 ^ 12) + τ * (n1 * C) * (1 + 1 / 2 ^ 12) := by grind
    rw [e3]
    have e4 : τ * (n0 * ((1 + 1 / 2 ^ 16) * C) - F) = τ * (n0 * C) * (1 + 1 / 2 ^ 16) - τ * F := by grind
    have e5 : τ * (n1 * C - D) = τ * (n1 * C) - τ * D := by grind
    have e6 : τ * (F + D) + τ * τ * D = τ * F + τ * D + τ * D * τ := by grind
    rw [e4] at j1
    rw [e5] at j2
    rw [e6]
    generalize τ * (n0 * C) = P at *
    generalize τ * (n1 * C) = Q at *
    generalize τ * F = R at *
    generalize τ * D = S at *
    clear e3 e4 e5 e6
    grind
  have hJ : aH (K1 * qFx t1 v) = K1 * aH (qFx t1 v) := by rw [fM, bP (Rat.le_of_lt hK1)]
  rw [hJ]
  have hJ0 := aF (Rat.le_of_lt hK1) (iW (qFx t1 v))
  generalize aH (K0 * qFx t0 x - K1 * qFx t1 v + K0 * (qFx t0 (x.add e) - qFx t0 x)) = X1 at *
  generalize aH (K0 * qFx t0 x - K1 * qFx t1 v) = X2 at *
  generalize aH (K0 * (qFx t0 (x.add e) - qFx t0 x)) = X3 at *
  generalize K1 * aH (qFx t1 v) = X4 at *
  have e7 : K0 * τ * (n0 + n1) * (1 + 1 / 2 ^ 12) * qW ρ1 v = K0 * (τ * (n0 + n1) * (1 + 1 / 2 ^ 12) * qW ρ1 v) := by grind
  rw [e7]
  generalize K0 * (τ * (n0 + n1) * (1 + 1 / 2 ^ 12) * qW ρ1 v) = X5 at *
  clear e2 hup hdn hxn hB
  have e8 : 0 * qW ρ0 (x.add e) = 0 := by grind
  rw [e8]
  grind
theorem aj8 (v : Q4) : qW 1 v = 2 * qN v := by
  have := qSD v
  unfold qW
  grind
def tau : Rat := 51 / 50 / 2 ^ 24
theorem aVK : tau * tau * 2 ^ 48 = 2601 / 2500 := by decide +kernel
theorem RZ : 0 < tau := by decide +kernel
theorem asM : tau * 2 ^ 23 ≤ 1 := by decide +kernel
theorem acO {e B : Rat} (h : e * 2 ^ 48 ≤ B * (101 / 100) + 4 * tiny) (hB : tw (-100) ≤ B) : e ≤ tau * tau * B := by
  have h1 := aVK
  have h2 : tiny * 1000 ≤ tw (-100) := by decide +kernel
  have h3 : e * 2 ^ 48 ≤ tau * tau * B * 2 ^ 48 := by
    have h4 : tau * tau * B * 2 ^ 48 = 2601 / 2500 * B := by rw [← h1]; grind
    have h5 : 2601 / 2500 * B * 2500 = 2601 * B := by grind
    have h6 : B * (101 / 100) * 100 = B * 101 := by grind
    rw [h4]
    generalize 2601 / 2500 * B = y at *
    generalize B * (101 / 100) = z at *
    have h7 := qL
    clear h1 h4
    grind
  exact fJ h3 (by decide +kernel)
theorem aAZ {K ρ l m n c s c' s' : Rat} {v e : Q4} (hK : 0 < K) (hρ : 0 ≤ ρ) (h : aH (c * c + s * s - 1) * 2 ^ 23 ≤ 1) (h' : aH (c' * c' + s' * s' - 1) * 2 ^ 23 ≤ 1) (he : qN e * 2 ^ 48 ≤ qN (xP c s c' s' v) * (101 / 100) + 4 * tiny) (hv : tw (-90) ≤ qN v) (hl : 0 < l ∧ l ≤ 1 ∧ l ≤ ρ) (hm : 1 ≤ m ∧ ρ ≤ m) (hn : qN v ≤ n * qW ρ v) :
    Step (K * qR v) (qW ρ v) (K * qR ((xP c s c' s' v).add e)) (qW ρ ((xP c s c' s' v).add e)) (K * n * (4 * tau)) 0 (m / l) := by
  have hτ := RZ
  have hτ1 := asM
  have ht2 : 1 / 2 ^ 23 ≤ 197 / 100 * tau := by decide +kernel
  have hN := zV v
  have d1 : aH (c * c + s * s - 1) ≤ 1 / 2 ^ 23 := by grind
  have d2 : aH (c' * c' + s' * s' - 1) ≤ 1 / 2 ^ 23 := by grind
  obtain ⟨f1, f2⟩ := axX v d1 d2
  generalize hx : xP c s c' s' v = x at *
  have hX := zV x
  have f3 := f2
  rw [fA] at f3
  have e100 : tw (-90) = 2 ^ 10 * tw (-100) := by decide +kernel
  have p100 := gV (-100)
  have he2 := acO he (by grind)
  have fe := aeC true x e hτ hX he2
  have fe : aH (qR (x.add e) - qR x) ≤ tau * (qN x + qN x) + tau * tau * qN x := fe
  have s1 := yJ x e (ρ := 1) (m := 1) hτ (by decide +kernel) (by decide +kernel) he2
  have s2 := yJ (x.add e) ⟨-e.ar, -e.ai, -e.br, -e.bi⟩ (ρ := 1) (m := 1) hτ (by decide +kernel) (by decide +kernel) (by rw [aj7]; exact he2)
  rw [acN] at s2
  rw [aj8, aj8] at s1 s2
  have hY := zV (x.add e)
  have t1 : tau * qN x ≤ qN x * (1 / 2 ^ 23) := by
    have := aF hX (show 0 ≤ 1 - tau * 2 ^ 23 by grind)
    have h3 : tau * qN x * 2 ^ 23 ≤ qN x := by grind
    grind
  have t2 : tau * tau * qN x ≤ tau * qN x * (1 / 2 ^ 23) := by
    have := aF (aF (Rat.le_of_lt hτ) hX) (show 0 ≤ 1 - tau * 2 ^ 23 by grind)
    have h3 : tau * tau * qN x * 2 ^ 23 ≤ tau * qN x := by grind
    grind
  have t3 : tau * qN (x.add e) ≤ qN (x.add e) * (1 / 2 ^ 23) := by
    have := aF hY (show 0 ≤ 1 - tau * 2 ^ 23 by grind)
    have h3 : tau * qN (x.add e) * 2 ^ 23 ≤ qN (x.add e) := by grind
    grind
  have u1 : qN (x.add e) ≤ (1 + 1 / 2 ^ 14) * qN v := by grind
  have u2 : qN v ≤ (1 + 1 / 2 ^ 14) * qN (x.add e) := by grind
  have w1 := aOP (ρ := ρ) (x.add e) hm.1 hm.2
  have w2 := aVJ (ρ := ρ) v hl.2.1 hl.2.2
  have w3 := aOP (ρ := ρ) v hm.1 hm.2
  have w4 := aVJ (ρ := ρ) (x.add e) hl.2.1 hl.2.2
  have m0 : 0 ≤ m := by grind
  have l0 : l ≠ 0 := by grind
  have eg : m / l * l = m := by grind
  have g0 : 0 ≤ m / l := by
    refine Rat.not_lt.1 fun hlt => ?_
    have := Rat.mul_pos (show 0 < -(m / l) by grind) hl.1
    grind
  have size : ∀ A B NA NB : Rat, 0 ≤ B → A ≤ 2 * m * NA → NA ≤ (1 + 1 / 2 ^ 14) * NB → 2 * l * NB ≤ B → A ≤ m / l * (1 + 1 / 2 ^ 12) * B := by
    intro A B NA NB hB0 h1 h2 h3
    have i1 := aF m0 (show 0 ≤ (1 + 1 / 2 ^ 14) * NB - NA by grind)
    have i2 := aF g0 (show 0 ≤ B - 2 * l * NB by grind)
    have i3 : m / l * (2 * l * NB) = 2 * m * NB := by rw [← eg]; grind
    have i4 : m / l * (1 + 1 / 2 ^ 12) * B = (m / l * B) * (1 + 1 / 2 ^ 12) := by grind
    have i5 : 2 * m * NB ≤ m / l * B := by rw [← i3]; exact Rat.mul_le_mul_of_nonneg_left h3 g0
    have i6 : 2 * m * NA ≤ 2 * m * NB * (1 + 1 / 2 ^ 14) := by
      have : m * ((1 + 1 / 2 ^ 14) * NB - NA) = m * NB * (1 + 1 / 2 ^ 14) - m * NA := by grind
      rw [this] at i1
      grind
    have i7 : 0 ≤ m / l * B := aF g0 hB0
    rw [i4]
    generalize m / l * B = Z at *
    generalize 2 * m * NB = X at *
    generalize 2 * m * NA = Y at *
    have i8 : X * (1 + 1 / 2 ^ 14) ≤ Z * (1 + 1 / 2 ^ 14) := Rat.mul_le_mul_of_nonneg_right i5 (by decide +kernel)
    have i9 : Z * (1 + 1 / 2 ^ 14) ≤ Z * (1 + 1 / 2 ^ 12) := Rat.mul_le_mul_of_nonneg_left (by decide +kernel) i7
    exact Rat.le_trans h1 (Rat.le_trans i6 (Rat.le_trans i8 i9))
  refine ⟨?_, size _ _ _ _ (kN hρ v) w1 u1 w2, size _ _ _ _ (kN hρ _) w3 u2 w4⟩
  have e2 : K * qR (x.add e) - K * qR v = K * ((qR (x.add e) - qR x) + (qR x - qR v)) := by grind
  have q1 := iL (qR (x.add e) - qR x) (qR x - qR v)
  have k1 : aH ((qR (x.add e) - qR x) + (qR x - qR v)) ≤ 4 * tau * qN v := by
    have z1 : tau * qN x ≤ tau * qN v * (1 + 1 / 2 ^ 23) := by
      have := Rat.mul_le_mul_of_nonneg_left (show qN x ≤ qN v * (1 + 1 / 2 ^ 23) by grind) (Rat.le_of_lt hτ)
      grind
    have z2 : 1 / 2 ^ 23 * qN v ≤ 197 / 100 * tau * qN v := Rat.mul_le_mul_of_nonneg_right ht2 hN
    have z3 := aF (Rat.le_of_lt hτ) hN
    have z0 := aF (Rat.le_of_lt hτ) hX
    have z4 : 197 / 100 * tau * qN v * 100 = 197 * (tau * qN v) := by grind
    generalize 197 / 100 * tau * qN v = y at *
    generalize 1 / 2 ^ 23 * qN v = y2 at *
    have z5 : 4 * tau * qN v = 4 * (tau * qN v) := by grind
    rw [z5]
    have z6 : tau * (qN x + qN x) = 2 * (tau * qN x) := by grind
    rw [z6] at fe
    generalize tau * qN x = a at *
    generalize tau * qN v = b at *
    generalize tau * tau * qN x = d at *
    generalize aH (qR (x.add e) - qR x + (qR x - qR v)) = A1 at *
    generalize aH (qR (x.add e) - qR x) = A2 at *
    generalize aH (qR x - qR v) = A3 at *
    have z7 : a * (1 / 2 ^ 23) ≤ a * (1 / 1000) := Rat.mul_le_mul_of_nonneg_left (by decide +kernel) z0
    have z8 : b * (1 + 1 / 2 ^ 23) ≤ b * (1001 / 1000) := Rat.mul_le_mul_of_nonneg_left (by decide +kernel) z3
    clear s1 s2 t1 t3 u1 u2 w1 w2 w3 w4 size f2 f3 e2
    grind
  rw [e2, fM, bP (Rat.le_of_lt hK)]
  have j1 := Rat.mul_le_mul_of_nonneg_left k1 (Rat.le_of_lt hK)
  have j2 : K * (4 * tau * qN v) ≤ K * n * (4 * tau) * qW ρ v := by
    have := aF (aF (Rat.le_of_lt hK) (show 0 ≤ 4 * tau by grind)) (show 0 ≤ n * qW ρ v - qN v by grind)
    grind
  have j3 := iW (K * qR v)
  have j4 : 0 * qW ρ (x.add e) = 0 := by grind
  rw [j4]
  have j5 : 0 ≤ aH (K * qR v) * (1 / 2 ^ 16) := aF j3 (by decide +kernel)
  exact Rat.le_trans j1 (Rat.le_trans j2 (by grind))
theorem aA0 {K ρ m n g d G : Rat} {v e : Q4} (hK : 0 < K) (hρ : 0 ≤ ρ) (hgd : aH (g * d - 1) * 2 ^ 20 ≤ 1) (he : qN e * 2 ^ 48 ≤ qN (xE g d v) * (101 / 100) + 4 * tiny) (hx : tw (-100) ≤ qN (xE g d v)) (hm : 1 ≤ m ∧ ρ ≤ m) (hn : qN (xE g d v) ≤ n * qW ρ (xE g d v)) (n0 : 0 ≤ n) (hmn : m * n ≤ 20) (hG : 0 ≤ G)
    (h1 : qW ρ (xE g d v) ≤ G * qW ρ v) (h2 : qW ρ (xE d g (xE g d v)) ≤ G * qW ρ (xE g d v)) :
    Step (K * qI v) (qW ρ v) (K * qI ((xE g d v).add e)) (qW ρ ((xE g d v).add e)) 0 (K * n * (2 * tau) * (1 + 1 / 2 ^ 11)) G := by
  have hτ := RZ
  have hτ1 := asM
  have hτ0 := Rat.le_of_lt hτ
  have hI := a1P g d v
  have hb : xE d g (xE g d v) = ⟨v.ar * (g * d), v.ai * (g * d), v.br * (g * d), v.bi * (g * d)⟩ := by
    obtain ⟨a, b, p, q⟩ := v
    unfold xE
    dsimp only
    congr 1 <;> grind
  have hWb : qW ρ (xE d g (xE g d v)) = g * d * (g * d) * qW ρ v := by
    rw [hb]
    unfold qW qS qD
    dsimp only
    grind
  rw [hWb] at h2
  have hgd1 : aH (g * d - 1) ≤ 1 / 2 ^ 20 := by grind
  have hgd2 := hgd1
  rw [fA] at hgd2
  have hWv := kN hρ v
  have hgg : 1 - 1 / 2 ^ 18 ≤ g * d * (g * d) := by
    have := iK (g * d - 1)
    grind
  generalize hxx : xE g d v = x at *
  have hX := zV x
  have hWx := kN hρ x
  have he2 := acO he hx
  have fe := aeC false x e hτ hX he2
  have fe : aH (qI (x.add e) - qI x) ≤ tau * (qN x + qN x) + tau * tau * qN x := fe
  have s1 := yJ x e hτ hρ hm he2
  have s2 := yJ (x.add e) ⟨-e.ar, -e.ai, -e.br, -e.bi⟩ hτ hρ hm (by rw [aj7]; exact he2)
  rw [acN] at s2
  have hWy := kN hρ (x.add e)
  have m0 : 0 ≤ m := by grind
  have hB : 2 * m * (tau * qN x + tau * tau * qN x) ≤ qW ρ x * (1 / 2 ^ 13) := by
    have i1 := aF m0 (show 0 ≤ n * qW ρ x - qN x by grind)
    have i2 := aF hWx (show 0 ≤ 20 - m * n by grind)
    have i3 : m * qN x ≤ 20 * qW ρ x := by grind
    have e1 : 2 * m * (tau * qN x + tau * tau * qN x) = 2 * (m * qN x * tau) + 2 * (m * qN x * tau * tau) := by grind
    rw [e1]
    exact aoN (aF m0 hX) hWx i3 hτ0 (by grind)
  generalize 2 * m * (tau * qN x + tau * tau * qN x) = B at *
  have x1 : tau * qW ρ x ≤ qW ρ x * (1 / 2 ^ 20) := by
    have := Rat.mul_le_mul_of_nonneg_right (show tau ≤ 1 / 2 ^ 20 by decide +kernel) hWx
    grind
  have x2 : tau * qW ρ (x.add e) ≤ qW ρ (x.add e) * (1 / 2 ^ 20) := by
    have := Rat.mul_le_mul_of_nonneg_right (show tau ≤ 1 / 2 ^ 20 by decide +kernel) hWy
    grind
  have up : qW ρ (x.add e) ≤ (1 + 1 / 2 ^ 12) * qW ρ x := by
    generalize qW ρ (x.add e) = Y at *
    generalize qW ρ x = X at *
    clear fe he he2 hn hx
    grind
  have dn : qW ρ x ≤ (1 + 1 / 2 ^ 12) * qW ρ (x.add e) := by
    generalize qW ρ (x.add e) = Y at *
    generalize qW ρ x = X at *
    clear fe he he2 hn hx
    grind
  have dn1 : qW ρ x ≤ (1 + 1 / 2 ^ 13 + 1 / 2 ^ 16) * qW ρ (x.add e) := by
    generalize qW ρ (x.add e) = Y at *
    generalize qW ρ x = X at *
    clear fe he he2 hn hx
    grind
  refine ⟨?_, ?_, ?_⟩
  · have e2 : K * qI (x.add e) - K * qI v = K * ((qI (x.add e) - qI x) + qI v * (g * d - 1)) := by rw [hI]; grind
    have q1 := iL (qI (x.add e) - qI x) (qI v * (g * d - 1))
    have q2 : aH (qI v * (g * d - 1)) ≤ aH (qI v) * (1 / 2 ^ 16) := by
      rw [fM]
      exact Rat.mul_le_mul_of_nonneg_left (Rat.le_trans hgd1 (by decide +kernel)) (iW _)
    have k0 : tau * tau * qN x ≤ tau * qN x * (1 / 2 ^ 20) := by
      have := Rat.mul_le_mul_of_nonneg_left (show tau ≤ 1 / 2 ^ 20 by decide +kernel) (aF hτ0 hX)
      grind
    have k1 : qN x ≤ n * ((1 + 1 / 2 ^ 12) * qW ρ (x.add e)) := by
      have := aF n0 (show 0 ≤ (1 + 1 / 2 ^ 12) * qW ρ (x.add e) - qW ρ x by grind)
      grind
    have k2 : aH (qI (x.add e) - qI x) ≤ n * (2 * tau) * (1 + 1 / 2 ^ 11) * qW ρ (x.add e) := by
      have j1 := Rat.mul_le_mul_of_nonneg_left k1 hτ0
      have j2 := aF hτ0 (aF n0 hWy)
      have j3 : tau * (n * ((1 + 1 / 2 ^ 12) * qW ρ (x.add e))) = tau * (n * qW ρ (x.add e)) * (1 + 1 / 2 ^ 12) := by grind
      have j4 : n * (2 * tau) * (1 + 1 / 2 ^ 11) * qW ρ (x.add e) = tau * (n * qW ρ (x.add e)) * (2 + 1 / 2 ^ 10) := by grind
      have j5 : tau * (qN x + qN x) = 2 * (tau * qN x) := by grind
      have j6 := aF hτ0 hX
      rw [j3] at j1
      rw [j4]
      rw [j5] at fe
      generalize tau * (n * qW ρ (x.add e)) = P at *
      generalize tau * qN x = Q at *
      generalize tau * tau * qN x = R at *
      generalize aH (qI (x.add e) - qI x) = A at *
      clear s1 s2 up dn dn1 x1 x2 e2 k1 hB hWb
      grind
    rw [e2, fM, bP (Rat.le_of_lt hK)]
    have j1 := Rat.mul_le_mul_of_nonneg_left (Rat.le_trans q1 (show _ ≤ n * (2 * tau) * (1 + 1 / 2 ^ 11) * qW ρ (x.add e) + aH (qI v) * (1 / 2 ^ 16) by grind)) (Rat.le_of_lt hK)
    refine Rat.le_trans j1 ?_
    have hJ : aH (K * qI v) = K * aH (qI v) := by rw [fM, bP (Rat.le_of_lt hK)]
    rw [hJ]
    grind
  · have := aF hG hWv
    have i1 := Rat.mul_le_mul_of_nonneg_left h1 (show (0 : Rat) ≤ 1 + 1 / 2 ^ 12 by decide +kernel)
    grind
  · have i1 := Rat.mul_le_mul_of_nonneg_right hgg hWv
    have i2 := Rat.mul_le_mul_of_nonneg_left dn1 hG
    have i3 := aF hG hWy
    have i4 : G * ((1 + 1 / 2 ^ 13 + 1 / 2 ^ 16) * qW ρ (x.add e)) = (G * qW ρ (x.add e)) * (1 + 1 / 2 ^ 13 + 1 / 2 ^ 16) := by grind
    have i5 : G * (1 + 1 / 2 ^ 12) * qW ρ (x.add e) = (G * qW ρ (x.add e)) * (1 + 1 / 2 ^ 12) := by grind
    rw [i4] at i2
    rw [i5]
    generalize G * qW ρ (x.add e) = Z at *
    generalize g * d * (g * d) * qW ρ v = Y at *
    generalize G * qW ρ x = U at *
    generalize qW ρ v = W at *
    clear s1 s2 up dn dn1 x1 x2 fe he he2 hB hWb i4 i5 hgg
    grind
theorem BB {E R : Rat} {x : Nat} (h : R32 E R) (hx : V32 x E) : R = E := by
  have h1 := aYN h hx Rat.le_refl
  have h2 := aYO h hx Rat.le_refl
  grind
theorem uN : V32 1065353216 1 := ⟨false, 8388608, -23, by decide +kernel, by decide +kernel⟩
structure Rg where
  t : Bool
  k : Nat
def Rg.re (r : Rg) : Nat := if r.t then r.k else 0
def Rg.im (r : Rg) : Nat := if r.t then 0 else r.k
def qre (R L : Rg) : Nat := qtR R.re R.im L.re L.im
def qim (R L : Rg) : Nat := qtI R.re R.im L.re L.im
def uA (R L : Rg) (w : W4) : W4 := edW (fop .add .f32 1065353216 (qre R L)) (fop .add .f32 0 (qim R L)) (fop .sub .f32 1065353216 (qre R L)) (fop .sub .f32 0 (qim R L)) w
def edgeOk (R L : Rg) (w : W4) : Prop :=
  (fF .f64 (fop .quo .f64 (t1R R.re R.im L.re L.im) (pwD L.re L.im)) .f32 = some (qre R L) ∧ fF .f64 (fop .quo .f64 (t1I R.re R.im L.re L.im) (pwD L.re L.im)) .f32 = some (qim R L)) ∧
  (A8 (fop .add .f32 1065353216 (qre R L)) (fop .add .f32 0 (qim R L)) w.ar w.ai ∧ A8 (fop .sub .f32 1065353216 (qre R L)) (fop .sub .f32 0 (qim R L)) w.br w.bi ∧ A8 (fop .sub .f32 1065353216 (qre R L)) (fop .sub .f32 0 (qim R L)) w.ar w.ai ∧ A8 (fop .add .f32 1065353216 (qre R L)) (fop .add .f32 0 (qim R L)) w.br w.bi)
structure RgV (r : Rg) (K : Rat) : Prop where
  v : V32 r.k K
  lo : 1 / 3 ≤ K
  hi : K ≤ 3
def rho (E K : Rat) : Rat := K * K / E
def mx (x : Rat) : Rat := if x ≤ 1 then 1 else x
def mn (x : Rat) : Rat := if x ≤ 1 then x else 1
def nn (x : Rat) : Rat := 1 / (2 * mn x)
theorem qE (x : Rat) : 1 ≤ mx x ∧ x ≤ mx x := by unfold mx; split <;> grind
theorem ahU (x : Rat) : mn x ≤ 1 ∧ mn x ≤ x := by unfold mn; split <;> grind
theorem aeD {x : Rat} (h : 0 < x) : 0 < mn x := by unfold mn; split <;> grind
theorem aVL {x : Rat} (h : 0 < x) : nn x * (2 * mn x) = 1 := by
  have := aeD h
  unfold nn
  grind
theorem yK {x : Rat} (h : 0 < x) : 0 < nn x := tV (by decide +kernel) (by have := aeD h; grind)
theorem yL {x : Rat} (h : 0 < x) (v : Q4) : qN v ≤ nn x * qW x v := by
  have h1 := aVJ (ρ := x) (m := mn x) v (ahU x).1 (ahU x).2
  have h2 := Rat.mul_le_mul_of_nonneg_left h1 (Rat.le_of_lt (yK h))
  have h3 : nn x * (2 * mn x * qN v) = qN v := by
    have := aVL h
    have e : nn x * (2 * mn x * qN v) = nn x * (2 * mn x) * qN v := by grind
    rw [e, this]
    grind
  rw [h3] at h2
  exact h2
theorem yX {E K : Rat} (hE : 0 < E) (hK : 0 < K) : 0 < rho E K := tV (Rat.mul_pos hK hK) hE
structure uU (v : Q4) : Prop where
  hi : qN v ≤ tw 40
  lo : tw (-90) ≤ qN v
theorem xN {x : Rat} (h : x * x ≤ tw 40) : aH x ≤ tw 20 := by
  refine Rat.not_lt.1 fun hlt => ?_
  have h1 := BA x
  have p := gV 20
  have e : tw 40 = tw 20 * tw 20 := oN 20 20
  rw [e] at h
  have h2 := Rat.mul_pos (show 0 < aH x - tw 20 by grind) p
  have h3 := Rat.mul_pos (show 0 < aH x - tw 20 by grind) (show 0 < aH x by grind)
  grind
theorem uU.parts {v : Q4} (h : uU v) : aH v.ar ≤ tw 20 ∧ aH v.ai ≤ tw 20 ∧ aH v.br ≤ tw 20 ∧ aH v.bi ≤ tw 20 := by
  have h1 := h.hi
  have a := iK v.ar
  have b := iK v.ai
  have c := iK v.br
  have d := iK v.bi
  unfold qN at h1
  exact ⟨xN (by grind), xN (by grind), xN (by grind), xN (by grind)⟩
theorem a3 {K : Rat} (h1 : 1 / 3 ≤ K) (h2 : K ≤ 3) : aH K ≤ tw 5 := by
  have e : tw 5 = 32 := by decide +kernel
  rw [bP (by grind), e]
  grind
theorem a0 : aH (0 : Rat) ≤ tw 5 := by decide +kernel
theorem f9 {K : Rat} (h1 : 1 / 3 ≤ K) : 1 / 9 ≤ K * K := by
  have := aF (show 0 ≤ K - 1 / 3 by grind) (show 0 ≤ K + 1 / 3 by grind)
  grind
theorem p9 {K L : Rat} (h1 : 1 / 3 ≤ K) (h2 : 1 / 3 ≤ L) : 1 / 9 ≤ K * L := by
  have := aF (show 0 ≤ K - 1 / 3 by grind) (show 0 ≤ L - 1 / 3 by grind)
  grind
structure QK (R L : Rg) (Q Y : Rat) : Prop where
  okr : fF .f64 (fop .quo .f64 (t1R R.re R.im L.re L.im) (pwD L.re L.im)) .f32 = some (qre R L)
  oki : fF .f64 (fop .quo .f64 (t1I R.re R.im L.re L.im) (pwD L.re L.im)) .f32 = some (qim R L)
  r : V32 (qre R L) Q
  i : V32 (qim R L) Y
theorem e12 : tw (-12) ≤ 1 / 9 := by decide +kernel
theorem e20 : tw (-20) ≤ 1 / 9 := by decide +kernel
theorem aG7 {R L : Rg} {KR KL : Rat} (hR : RgV R KR) (hL : RgV L KL) (ht : R.t = L.t) : ∃ Q, QK R L Q 0 ∧ ∃ e, Q = KR / KL * (1 + e) ∧ aH e * 2 ^ 22 ≤ 1 := by
  obtain ⟨tR, kR⟩ := R
  obtain ⟨tL, kL⟩ := L
  obtain ⟨h1, h2, h3⟩ := hR
  obtain ⟨h4, h5, h6⟩ := hL
  dsimp only at ht h1 h4
  subst ht
  have aR := a3 h2 h3
  have aL := a3 h5 h6
  have f := f9 h5
  have g := p9 h2 h5
  have t12 := e12
  have t20 := e20
  have eq : KR * KL / (KL * KL) = KR / KL := by
    have : KL ≠ 0 := by grind
    grind
  cases tR
  · obtain ⟨X, Y, q⟩ := aj2 (E := KR * KL) (G := 0) (F := KL * KL) v0 h1 v0 h4 a0 aR a0 aL (by grind) (by grind) (by grind) (by grind) (.inr (by rw [bP (by grind)]; grind)) (.inl rfl)
    have hY := q.i0 rfl
    subst hY
    obtain ⟨e, h7, h8⟩ := q.re
    rw [eq] at h7
    exact ⟨X, ⟨q.okr, q.oki, q.r, q.i⟩, e, h7, h8⟩
  · obtain ⟨X, Y, q⟩ := aj2 (E := KR * KL) (G := 0) (F := KL * KL) h1 v0 h4 v0 aR a0 aL a0 (by grind) (by grind) (by grind) (by grind) (.inr (by rw [bP (by grind)]; grind)) (.inl rfl)
    have hY := q.i0 rfl
    subst hY
    obtain ⟨e, h7, h8⟩ := q.re
    rw [eq] at h7
    exact ⟨X, ⟨q.okr, q.oki, q.r, q.i⟩, e, h7, h8⟩
theorem axZ {R L : Rg} {KR KL : Rat} (hR : RgV R KR) (hL : RgV L KL) (ht : R.t = !L.t) : ∃ Y, QK R L 0 Y ∧ ∃ e, Y = (if L.t then KR / KL else -(KR / KL)) * (1 + e) ∧ aH e * 2 ^ 22 ≤ 1 := by
  obtain ⟨tR, kR⟩ := R
  obtain ⟨tL, kL⟩ := L
  obtain ⟨h1, h2, h3⟩ := hR
  obtain ⟨h4, h5, h6⟩ := hL
  dsimp only at ht h1 h4 ⊢
  subst ht
  have aR := a3 h2 h3
  have aL := a3 h5 h6
  have f := f9 h5
  have g := p9 h2 h5
  have t12 := e12
  have t20 := e20
  have eq : KR * KL / (KL * KL) = KR / KL := by
    have : KL ≠ 0 := by grind
    grind
  have eq2 : -(KR * KL) / (KL * KL) = -(KR / KL) := by
    have : KL ≠ 0 := by grind
    grind
  cases tL
  · obtain ⟨X, Y, q⟩ := aj2 (E := 0) (G := -(KR * KL)) (F := KL * KL) h1 v0 v0 h4 aR a0 a0 aL (by grind) (by grind) (by grind) (by grind) (.inl rfl) (.inr (by rw [nX, bP (by grind)]; grind))
    have hX := q.r0 rfl
    subst hX
    obtain ⟨e, h7, h8⟩ := q.ie
    rw [eq2] at h7
    exact ⟨Y, ⟨q.okr, q.oki, q.r, q.i⟩, e, by rw [if_neg (by decide)]; exact h7, h8⟩
  · obtain ⟨X, Y, q⟩ := aj2 (E := 0) (G := KR * KL) (F := KL * KL) v0 h1 h4 v0 a0 aR aL a0 (by grind) (by grind) (by grind) (by grind) (.inl rfl) (.inr (by rw [bP (by grind)]; grind))
    have hX := q.r0 rfl
    subst hX
    obtain ⟨e, h7, h8⟩ := q.ie
    rw [eq] at h7
    exact ⟨Y, ⟨q.okr, q.oki, q.r, q.i⟩, e, by rw [if_pos rfl]; exact h7, h8⟩
theorem u9 {KR KL : Rat} (h1 : 1 / 3 ≤ KR) (h2 : KR ≤ 3) (h3 : 1 / 3 ≤ KL) (h4 : KL ≤ 3) : 1 / 9 ≤ KR / KL ∧ KR / KL ≤ 9 := by
  have ek : KR / KL * KL = KR := by grind
  have p : 0 < KL := by grind
  constructor
  · exact fJ (c := KL) (by rw [ek]; grind) p
  · exact fJ (c := KL) (by rw [ek]; grind) p
def mu (same : Bool) (u : Rat) : Rat := if same then mx u else mx u + 21 / 50 * mn u
def OQ (same : Bool) (u : Rat) : Rat := mu same u * (1007 / 500) / 2 ^ 24
theorem aYT (u : Rat) : mx u * mn u = u ∧ mx u + mn u = 1 + u := by unfold mx mn; split <;> constructor <;> grind
theorem aG8 {same : Bool} {u : Rat} (h : 0 < u) : 1 ≤ mu same u := by
  have h1 := (qE u).1
  have h2 := aeD h
  unfold mu
  split <;> grind
theorem aYU {same : Bool} {u : Rat} (h : 0 < u) (h9 : u ≤ 9) : mu same u ≤ 10 := by
  have h3 := (ahU u).1
  have h4 : mx u ≤ 9 := by unfold mx; split <;> grind
  unfold mu
  split <;> grind
theorem aUD {u : Rat} (h : 0 < u) : 1 + u * u ≤ mu false u * mu false u := by
  obtain ⟨h1, h2⟩ := aYT u
  have h3 := aeD h
  have h4 := (ahU u).1
  have h5 := (qE u).1
  have e : mu false u = mx u + 21 / 50 * mn u := rfl
  have h6 := aF (Rat.le_of_lt h3) (show 0 ≤ mx u - mn u by grind)
  rw [e]
  generalize mx u = a at *
  generalize mn u = b at *
  subst h1
  have h7 := aF (Rat.le_of_lt h3) (show 0 ≤ 1 - b by grind)
  have h8 := iK b
  have h9 : (a + b) * (a + b) = (1 + a * b) * (1 + a * b) := by rw [h2]
  grind
theorem SA {e A N m t : Rat} (h : e * 2 ^ 48 ≤ 4 * A * N * (101 / 100) + 4 * tiny) (hA : A ≤ m * m * (1 + 1 / 2 ^ 18)) (hm : 1 ≤ m) (ht : t = m * (1007 / 500) / 2 ^ 24) (hN : tw (-90) ≤ N) : e ≤ t * t * N := by
  have h2 : tiny * 1000 ≤ tw (-90) := by decide +kernel
  have p := qL
  have hN0 : 0 ≤ N := by grind
  have h1 : t * t * 2 ^ 48 = m * m * (1014049 / 250000) := by
    have : t * 2 ^ 24 = m * (1007 / 500) := by rw [ht]; grind
    have e2 : t * t * 2 ^ 48 = t * 2 ^ 24 * (t * 2 ^ 24) := by grind
    rw [e2, this]
    grind
  have h3 : e * 2 ^ 48 ≤ t * t * N * 2 ^ 48 := by
    have e3 : t * t * N * 2 ^ 48 = m * m * N * (1014049 / 250000) := by rw [show t * t * N * 2 ^ 48 = t * t * 2 ^ 48 * N by grind, h1]; grind
    rw [e3]
    have i1 := Rat.mul_le_mul_of_nonneg_right hA hN0
    have i2 := aF (aF (show 0 ≤ m - 1 by grind) (show 0 ≤ m + 1 by grind)) hN0
    have i3 : m * m * (1 + 1 / 2 ^ 18) * N = m * m * N * (1 + 1 / 2 ^ 18) := by grind
    have i4 : N ≤ m * m * N := by grind
    have i5 : 4 * A * N * (101 / 100) = A * N * (101 / 25) := by grind
    rw [i3] at i1
    rw [i5] at h
    generalize m * m * N = B at *
    generalize A * N = C at *
    clear e3 h1 i3 i5 ht i2
    grind
  exact fJ h3 (by decide +kernel)
theorem MO {same : Bool} {u : Rat} (h : 0 < u) (h9 : u ≤ 9) : 0 < OQ same u ∧ OQ same u * 2 ^ 19 ≤ 1 := by
  have h1 := aG8 (same := same) h
  have h2 := aYU (same := same) h h9
  unfold OQ
  generalize mu same u = m at *
  constructor <;> grind
def edC (E : Rat) (tR : Bool) (KR : Rat) (tL : Bool) (KL : Rat) : Rat := KL * OQ (tR == tL) (KR / KL) * (nn (rho E KL) + nn (rho E KR)) * (1 + 1 / 2 ^ 12)
theorem oK {x : Rat} (h : aH x ≤ 100) : aH x ≤ tw 20 := by
  have : (100 : Rat) ≤ tw 20 := by decide +kernel
  grind
theorem l9 {E : Rat} {R L : Rg} {KR KL : Rat} (hE : 0 < E) (hR : RgV R KR) (hL : RgV L KL) (hmn : mx (rho E KL) * nn (rho E KR) ≤ 20) {w : W4} {v : Q4} (hw : Has w v) (hv : uU v) :
    edgeOk R L w ∧ ∃ v', Has (uA R L w) v' ∧ Step (KR * qFx R.t v) (qW (rho E KR) v) (KL * qFx L.t v') (qW (rho E KL) v') (edC E R.t KR L.t KL) 0 1 := by
  have pR : 0 < KR := by have := hR.lo; grind
  have pL : 0 < KL := by have := hL.lo; grind
  obtain ⟨u1, u2⟩ := u9 hR.lo hR.hi hL.lo hL.hi
  have up : 0 < KR / KL := by grind
  obtain ⟨ka, kb, kc, kd⟩ := hv.parts
  have rL := yX hE pL
  have rR := yX hE pR
  by_cases ht : R.t = L.t
  · obtain ⟨Q, q, e, hq, he⟩ := aG7 hR hL ht
    have he1 : aH e ≤ 1 / 2 ^ 22 := by grind
    rw [fA] at he1
    have hue : aH (KR / KL * e) ≤ KR / KL * (1 / 2 ^ 22) := by
      rw [fM, bP (Rat.le_of_lt up)]
      exact Rat.mul_le_mul_of_nonneg_left (by rw [fA]; exact he1) (Rat.le_of_lt up)
    rw [fA] at hue
    have hQ : Q = KR / KL + KR / KL * e := by rw [hq]; grind
    have qp : 0 < Q ∧ Q ≤ 10 := by constructor <;> grind
    have b1 : aH (1 + Q) = 1 + Q := bP (by grind)
    obtain ⟨M, m1, m2⟩ := ad9 uN q.r (oV (k := 20) (oK (by rw [b1]; grind)) (by decide))
    have b2 : aH (1 - Q) ≤ 9 + Q := by rw [fA]; constructor <;> grind
    obtain ⟨N, n1, n2⟩ := aj0 uN q.r (oV (k := 20) (oK (by grind)) (by decide))
    obtain ⟨Z, z1, z2⟩ := ad9 v0 q.i (oV (k := 5) (by rw [show (0 : Rat) + 0 = 0 by grind]; exact a0) (by decide))
    obtain ⟨Z', z3, z4⟩ := aj0 v0 q.i (oV (k := 5) (by rw [show (0 : Rat) - 0 = 0 by grind]; exact a0) (by decide))
    rw [show (0 : Rat) + 0 = 0 by grind] at z2
    rw [show (0 : Rat) - 0 = 0 by grind] at z4
    have hz := ZA z2
    have hz' := ZA z4
    subst hz hz'
    have hM := O4 m2
    have hN := O4 n2
    have t1 : tiny ≤ 1 := by decide +kernel
    have hMa := iL (M - (1 + Q)) (1 + Q)
    rw [show M - (1 + Q) + (1 + Q) = M by grind] at hMa
    have hNa := iL (N - (1 - Q)) (1 - Q)
    rw [show N - (1 - Q) + (1 - Q) = N by grind] at hNa
    have kp := aAX (K0 := KL) (K1 := KR) L.t v hE pL pR (by have := hR.hi; have := hL.lo; grind) (by have := hR.lo; have := hL.hi; grind) ⟨e, hq, he⟩ hM hN
    obtain ⟨ok, er, hed⟩ := ahP hw m1 n1 (oK (by grind)) (oK (by grind)) ka kb kc kd z1 z3
    refine ⟨⟨⟨q.okr, q.oki⟩, ok⟩, _, hed.has, ?_⟩
    have hτ := MO (same := true) up u2
    have hs : (R.t == L.t) = true := by rw [ht]; simp
    unfold edC
    rw [hs]
    rw [ht]
    refine ahT (m := mx (rho E KL)) kp pL pR (Rat.le_of_lt rL) (Rat.le_of_lt rR) hτ.1 hτ.2 ?_ (qE _) (yL rL _) (yL rR _) (Rat.le_of_lt (yK rL)) (Rat.le_of_lt (yK rR)) hmn
    have hA : aH M + aH N ≤ 2 * (mx (KR / KL) * (1 + 1 / 2 ^ 20)) := by
      have b3 : 1 + Q + aH (1 - Q) ≤ 2 * mx (KR / KL) + 2 * (KR / KL * (1 / 2 ^ 22)) := by
        have g1 := (qE (KR / KL)).1
        have g2 := (qE (KR / KL)).2
        have : aH (1 - Q) ≤ 2 * mx (KR / KL) + 2 * (KR / KL * (1 / 2 ^ 22)) - (1 + Q) := by rw [fA]; constructor <;> grind
        grind
      have g2 := (qE (KR / KL)).2
      have g3 : aH (1 - Q) ≤ 1 + Q := by rw [fA]; constructor <;> grind
      have g4 : tiny * 2 ^ 30 ≤ 1 := by decide +kernel
      have g1 := (qE (KR / KL)).1
      generalize mx (KR / KL) = m at *
      generalize KR / KL = u at *
      generalize aH M = a at *
      generalize aH N = b at *
      generalize aH (1 - Q) = c at *
      clear kp hed hw q m1 m2 n1 n2 ok
      grind
    refine SA (A := (aH M + aH N) * (aH M + aH N) * (1 / 4)) (m := mx (KR / KL)) ?_ ?_ (qE _).1 rfl hv.lo
    · have := hed.er
      grind
    · have h0 := iW M
      have h1 := iW N
      have g1 := (qE (KR / KL)).1
      have hs0 : 0 ≤ aH M + aH N := by grind
      generalize mx (KR / KL) = m at *
      generalize aH M + aH N = s at *
      clear hM hN hMa hNa kp hed h0 h1
      have i1 := aF (show 0 ≤ 2 * (m * (1 + 1 / 2 ^ 20)) - s by grind) (show 0 ≤ 2 * (m * (1 + 1 / 2 ^ 20)) + s by grind)
      have i2 := iK m
      grind
  · have ht' : R.t = !L.t := by
      cases h1 : R.t <;> cases h2 : L.t <;> simp_all
    obtain ⟨Y, q, e, hq, he⟩ := axZ hR hL ht'
    have he1 : aH e ≤ 1 / 2 ^ 22 := by grind
    rw [fA] at he1
    have hYY : Y * Y = KR / KL * (KR / KL) * ((1 + e) * (1 + e)) := by
      rw [hq]
      split <;> grind
    have hYa : aH Y ≤ 10 := by
      rw [hq, fM]
      have : aH (if L.t = true then KR / KL else -(KR / KL)) = KR / KL := by
        split
        · exact bP (Rat.le_of_lt up)
        · rw [nX]; exact bP (Rat.le_of_lt up)
      rw [this, bP (show 0 ≤ 1 + e by grind)]
      have i1 := aF (Rat.le_of_lt up) (show 0 ≤ 1 / 2 ^ 22 - e by grind)
      grind
    obtain ⟨M, m1, m2⟩ := ad9 uN q.r (oV (k := 5) (by rw [show (1 : Rat) + 0 = 1 by grind]; decide +kernel) (by decide))
    obtain ⟨N, n1, n2⟩ := aj0 uN q.r (oV (k := 5) (by rw [show (1 : Rat) - 0 = 1 by grind]; decide +kernel) (by decide))
    rw [show (1 : Rat) + 0 = 1 by grind] at m2
    rw [show (1 : Rat) - 0 = 1 by grind] at n2
    have hM := BB m2 uN
    have hN := BB n2 uN
    subst hM hN
    obtain ⟨Z, z1, z2⟩ := ad9 v0 q.i (oV (k := 20) (by rw [show (0 : Rat) + Y = Y by grind]; exact oK (by grind)) (by decide))
    obtain ⟨Z', z3, z4⟩ := aj0 v0 q.i (oV (k := 20) (by rw [show (0 : Rat) - Y = -Y by grind, nX]; exact oK (by grind)) (by decide))
    rw [show (0 : Rat) + Y = Y by grind] at z2
    rw [show (0 : Rat) - Y = -Y by grind] at z4
    have hz := BB z2 q.i
    have hz' := BB z4 (asK q.i)
    subst hz hz'
    have kp := aAY (K0 := KL) (K1 := KR) L.t v hE pL pR ⟨e, hq, he⟩
    obtain ⟨ok, er, hed⟩ := ahQ hw m1 z1 n1 z3 (oK (by grind)) ka kb kc kd
    refine ⟨⟨⟨q.okr, q.oki⟩, ok⟩, _, hed.has, ?_⟩
    have hτ := MO (same := false) up u2
    have hs : (R.t == L.t) = false := by rw [ht']; cases L.t <;> rfl
    unfold edC
    rw [hs]
    rw [ht']
    refine ahT (m := mx (rho E KL)) kp pL pR (Rat.le_of_lt rL) (Rat.le_of_lt rR) hτ.1 hτ.2 ?_ (qE _) (yL rL _) (yL rR _) (Rat.le_of_lt (yK rL)) (Rat.le_of_lt (yK rR)) hmn
    refine SA (A := 1 + Z * Z) (m := mu false (KR / KL)) hed.er ?_ (aG8 up) rfl hv.lo
    have hs := aUD up
    rw [hYY]
    have i1 := aF (iK (KR / KL)) (show 0 ≤ 1 + 1 / 2 ^ 18 - (1 + e) * (1 + e) by
      have := aF (show 0 ≤ 1 / 2 ^ 22 - e by grind) (show 0 ≤ 1 / 2 ^ 22 + e by grind)
      grind)
    generalize (1 + e) * (1 + e) = c at *
    generalize mu false (KR / KL) * mu false (KR / KL) = m at *
    generalize KR / KL * (KR / KL) = u at *
    grind
inductive Pc where
  | ph (c s c' s' : Nat)
  | ex (g d : Nat)
def pG (P : Pc) (w : W4) : W4 := match P with | .ph c s c' s' => paW c s c' s' w | .ex g d => exW g d w
def MP (P : Pc) (w : W4) : Prop := match P with | .ph c s c' s' => A8 w.ar w.ai c s ∧ A8 w.br w.bi c' s' | .ex _ _ => True
def aeE (ρ A D G : Rat) : Prop := 0 < 4 * G - (A + D) * (A + D) - ρ * ((A - D) * (A - D)) ∧ (A * A - D * D) * (1 + ρ) * ((A * A - D * D) * (1 + ρ)) ≤ (4 * G - (A + D) * (A + D) - ρ * ((A - D) * (A - D))) * (4 * (ρ * G) - (A - D) * (A - D) - ρ * ((A + D) * (A + D)))
inductive PcV (ρ : Rat) : Bool → Pc → Rat → Prop where
  | ph {c s c' s' : Nat} {C S C' S' : Rat} (hc : V32 c C) (hs : V32 s S) (hc' : V32 c' C') (hs' : V32 s' S') (h : aH (C * C + S * S - 1) * 2 ^ 23 ≤ 1) (h' : aH (C' * C' + S' * S' - 1) * 2 ^ 23 ≤ 1) : PcV ρ true (.ph c s c' s') (mx ρ / mn ρ)
  | ex {g d : Nat} {A D G : Rat} (hg : V32 g A) (hd : V32 d D) (d0 : 1 / 8 ≤ D) (d1 : D ≤ 8) (g0 : 1 / 8 ≤ A) (g1 : A ≤ 8) (h : aH (A * D - 1) * 2 ^ 20 ≤ 1) (hG : 0 ≤ G) (hc : aeE ρ A D G) : PcV ρ false (.ex g d) G
def pcC (t : Bool) (K ρ : Rat) : Rat := if t then K * nn ρ * (4 * tau) else 0
def pcD (t : Bool) (K ρ : Rat) : Rat := if t then 0 else K * nn ρ * (2 * tau) * (1 + 1 / 2 ^ 11)
theorem acP {C S : Rat} (h : aH (C * C + S * S - 1) * 2 ^ 23 ≤ 1) : aH C ≤ tw 20 ∧ aH S ≤ tw 20 := by
  have h1 : aH (C * C + S * S - 1) ≤ 1 := by grind
  rw [fA] at h1
  have a := iK C
  have b := iK S
  have e : (2 : Rat) ≤ tw 40 := by decide +kernel
  exact ⟨xN (by grind), xN (by grind)⟩
theorem aeE.swap {ρ A D G : Rat} (h : aeE ρ A D G) : aeE ρ D A G := by
  obtain ⟨h1, h2⟩ := h
  have e1 : (D + A) * (D + A) = (A + D) * (A + D) := by grind
  have e2 : (D - A) * (D - A) = (A - D) * (A - D) := by grind
  have e3 : (D * D - A * A) * (1 + ρ) * ((D * D - A * A) * (1 + ρ)) = (A * A - D * D) * (1 + ρ) * ((A * A - D * D) * (1 + ρ)) := by grind
  unfold aeE
  rw [e1, e2, e3]
  exact ⟨h1, h2⟩
theorem nD {E : Rat} {r : Rg} {K : Rat} {P : Pc} {G : Rat} (hE : 0 < E) (hr : RgV r K) (hP : PcV (rho E K) r.t P G) (hmn : mx (rho E K) * nn (rho E K) ≤ 20) {w : W4} {v : Q4} (hw : Has w v) (hv : uU v) :
    MP P w ∧ ∃ v', Has (pG P w) v' ∧ Step (K * qFx r.t v) (qW (rho E K) v) (K * qFx r.t v') (qW (rho E K) v') (pcC r.t K (rho E K)) (pcD r.t K (rho E K)) G := by
  have pK : 0 < K := by have := hr.lo; grind
  obtain ⟨ka, kb, kc, kd⟩ := hv.parts
  have pρ := yX hE pK
  generalize rho E K = ρ at *
  generalize r.t = t at *
  cases hP with
  | ph hc hs hc' hs' h h' =>
    obtain ⟨b1, b2⟩ := acP h
    obtain ⟨b3, b4⟩ := acP h'
    obtain ⟨ok, e, hed⟩ := ahR hw hc hs hc' hs' b1 b2 b3 b4 ka kb kc kd
    exact ⟨ok, _, hed.has, aAZ pK (Rat.le_of_lt pρ) h h' hed.er hv.lo ⟨aeD pρ, (ahU ρ).1, (ahU ρ).2⟩ (qE ρ) (yL pρ v)⟩
  | ex hg hd d0 d1 g0 g1 h hG hc =>
    rename_i g d A D
    have e8 : aH (8 : Rat) ≤ tw 20 := by decide +kernel
    have a8 : ∀ x : Rat, 1 / 8 ≤ x → x ≤ 8 → aH x ≤ tw 20 := fun x h1 h2 => oK (by rw [bP (by grind)]; grind)
    obtain ⟨e, hed⟩ := ahS hw hg hd (a8 _ g0 g1) (a8 _ d0 d1) ka kb kc kd
    refine ⟨trivial, _, hed.has, ?_⟩
    refine aA0 pK (Rat.le_of_lt pρ) h hed.er ?_ (qE ρ) (yL pρ _) (Rat.le_of_lt (yK pρ)) hmn hG (aYS v hc.1 hc.2) (aYS _ hc.swap.1 hc.swap.2)
    have h1 := hv.lo
    have e100 : tw (-90) = 2 ^ 10 * tw (-100) := by decide +kernel
    have p100 := gV (-100)
    have g2 := aF (show 0 ≤ A - 1 / 8 by grind) (show 0 ≤ A + 1 / 8 by grind)
    have d2 := aF (show 0 ≤ D - 1 / 8 by grind) (show 0 ≤ D + 1 / 8 by grind)
    have i1 := aF (iK v.ar) g2
    have i2 := aF (iK v.ai) g2
    have i3 := aF (iK v.br) d2
    have i4 := aF (iK v.bi) d2
    have h3 : qN v ≤ 64 * qN (xE A D v) := by
      unfold qN xE
      dsimp only
      clear h1 e100 p100 hc h hed
      grind
    grind
def lam : Rat := 1 + 1 / 2 ^ 12
structure Wb (W b : Rat) : Prop where
  hi : W ≤ 3 * b
  lo : 1 ≤ W * b
theorem Wb.nn {W b : Rat} (h : Wb W b) (hb : 0 ≤ b) : 0 ≤ W := by
  refine Rat.not_lt.1 fun hlt => ?_
  have h1 := h.lo
  have := aF (show 0 ≤ -W by grind) hb
  grind
theorem Wb.step {J0 W0 J1 W1 c d g b : Rat} (h : Wb W0 b) (s : Step J0 W0 J1 W1 c d g) (hg : 0 ≤ g) (hb : 0 ≤ b) : Wb W1 (g * lam * b) := by
  have h1 := s.up
  have h2 := s.dn
  have h3 := h.hi
  have h4 := h.lo
  have e : (1 + 1 / 2 ^ 12 : Rat) = lam := rfl
  have hl : 0 ≤ g * lam := aF hg (by decide +kernel)
  rw [e] at h1 h2
  generalize g * lam = x at *
  have i1 := aF hl (show 0 ≤ 3 * b - W0 by grind)
  have i2 := aF hb (show 0 ≤ x * W1 - W0 by grind)
  exact ⟨by grind, by grind⟩
theorem Wb.mono {W b c : Rat} (h : Wb W b) (hb : 0 ≤ b) (hc : b ≤ c) : Wb W c := by
  have h1 := h.hi
  have h2 := h.lo
  have h3 := aF (h.nn hb) (show 0 ≤ c - b by grind)
  exact ⟨by grind, by grind⟩
structure RgE (E M N : Rat) (r : Rg) (K : Rat) : Prop where
  v : RgV r K
  m : mx (rho E K) ≤ M
  n : nn (rho E K) ≤ N
theorem kJ {ρ M N b : Rat} {v : Q4} (hρ : 0 < ρ) (hm : mx ρ ≤ M) (hn : nn ρ ≤ N) (hM : M ≤ 20) (hN : N ≤ 10) (h : Wb (qW ρ v) b) (hb0 : 0 < b) (hb : b ≤ 2 ^ 34) : uU v := by
  have h1 := yL hρ v
  have h2 := aOP (m := mx ρ) v (qE ρ).1 (qE ρ).2
  have h3 := h.hi
  have h4 := h.lo
  have h5 := zV v
  have h6 := kN (Rat.le_of_lt hρ) v
  have h7 := yK hρ
  have e40 : tw 40 = 2 ^ 40 := by decide +kernel
  have e90 : tw (-90) * 2 ^ 80 ≤ 1 := by decide +kernel
  have p90 := gV (-90)
  constructor
  · have i1 := aF h6 (show 0 ≤ 10 - nn ρ by grind)
    rw [e40]
    grind
  · have i1 := aF h5 (show 0 ≤ 20 - mx ρ by grind)
    have i2 : qW ρ v ≤ 40 * qN v := by grind
    have i3 := aF h6 (show 0 ≤ 2 ^ 34 - b by grind)
    have i4 : 1 ≤ 40 * qN v * 2 ^ 34 := by grind
    refine fJ (c := 2 ^ 80) ?_ (by decide +kernel)
    grind
inductive Acc (J0 : Rat) : Nat → Rat → Rat → Prop where
  | nil : Acc J0 0 0 J0
  | step {n : Nat} {S J J' q : Rat} (h : Acc J0 n S J) (hq : 0 ≤ q) (hs : aH (J' - J) ≤ aH J * (1 / 2 ^ 16) + q) : Acc J0 (n + 1) (S + q) J'
def fa (n : Nat) : Rat := (1 + 1 / 2 ^ 16) ^ n
theorem ax0 (n : Nat) : fa (n + 1) = fa n * (1 + 1 / 2 ^ 16) := Rat.pow_succ ..
theorem ahV (n : Nat) : 1 ≤ fa n := by
  induction n with
  | zero => decide +kernel
  | succ n ih => rw [ax0]; grind
theorem Acc.bound {J0 S J : Rat} {n : Nat} (h : Acc J0 n S J) : 0 ≤ S ∧ aH (J - J0) ≤ (fa n - 1) * aH J0 + fa n * S := by
  induction h with
  | nil =>
    refine ⟨Rat.le_refl, ?_⟩
    rw [show J0 - J0 = 0 by grind, show aH (0 : Rat) = 0 by decide +kernel, show fa 0 = 1 by decide +kernel]
    grind
  | step h hq hs ih =>
    rename_i n S J J' q
    obtain ⟨i1, i2⟩ := ih
    refine ⟨by grind, ?_⟩
    have h1 := iL (J' - J) (J - J0)
    rw [show J' - J + (J - J0) = J' - J0 by grind] at h1
    have h2 := iL (J - J0) J0
    rw [show J - J0 + J0 = J by grind] at h2
    have h3 := ahV n
    have h4 := aF (show 0 ≤ fa n - 1 by grind) hq
    have h5 := iW J0
    rw [ax0]
    generalize fa n = f at *
    grind
theorem Acc.of {J0 S J J1 W W1 c d g w w1 C D : Rat} {n : Nat} (h : Acc J0 n S J) (s : Step J W J1 W1 c d g) (hw : W ≤ w) (hw1 : W1 ≤ w1) (hW : 0 ≤ W) (hW1 : 0 ≤ W1) (hc : c ≤ C) (hd : d ≤ D) (hC : 0 ≤ C) (hD : 0 ≤ D) : Acc J0 (n + 1) (S + (C * w + D * w1)) J1 := by
  have h1 := aF hC (show 0 ≤ w by grind)
  have h2 := aF hD (show 0 ≤ w1 by grind)
  refine .step h (by grind) ?_
  have h3 := s.flux
  have i1 := aF hW (show 0 ≤ C - c by grind)
  have i2 := aF hC (show 0 ≤ w - W by grind)
  have i3 := aF hW1 (show 0 ≤ D - d by grind)
  have i4 := aF hD (show 0 ≤ w1 - W1 by grind)
  grind
theorem uO {J W J1 W1 c d g b Z : Rat} {k : Nat} (s : Step J W J1 W1 c d g) (hg : 0 ≤ g) (h : W ≤ b * lam ^ k * Z) : W1 ≤ g * b * lam ^ (k + 1) * Z := by
  have h1 := s.up
  have e : (1 + 1 / 2 ^ 12 : Rat) = lam := rfl
  rw [e] at h1
  have i1 := aF (aF hg (show 0 ≤ lam by decide +kernel)) (show 0 ≤ b * lam ^ k * Z - W by grind)
  rw [Rat.pow_succ]
  generalize lam ^ k = x at *
  grind
theorem IZ {J W J1 W1 c d g b Z : Rat} {k : Nat} (s : Step J W J1 W1 c d g) (hg : 0 ≤ g) (h : W1 ≤ b * lam ^ k * Z) : W ≤ g * b * lam ^ (k + 1) * Z := by
  have h1 := s.dn
  have e : (1 + 1 / 2 ^ 12 : Rat) = lam := rfl
  rw [e] at h1
  have i1 := aF (aF hg (show 0 ≤ lam by decide +kernel)) (show 0 ≤ b * lam ^ k * Z - W1 by grind)
  rw [Rat.pow_succ]
  generalize lam ^ k = x at *
  grind
theorem asN (k : Nat) : 1 ≤ lam ^ k := by
  induction k with
  | zero => decide +kernel
  | succ n ih =>
    rw [Rat.pow_succ]
    have : 1 ≤ lam := by decide +kernel
    have := aF (show 0 ≤ lam ^ n by grind) (show 0 ≤ lam - 1 by grind)
    grind
theorem aG9 {k : Nat} (hk : k ≤ 12) : lam ^ k ≤ 1003 / 1000 := by
  have : ∀ j : Nat, j ≤ 12 → lam ^ j ≤ 1003 / 1000 := by decide +kernel
  exact this k hk
theorem lV {W b m Z : Rat} {k : Nat} (h : W ≤ b * lam ^ k * Z) (hk : k ≤ 12) (hb : 0 ≤ b) (hm : b ≤ m) (hZ : 0 ≤ Z) : W ≤ m * (1003 / 1000) * Z := by
  have h1 := aG9 hk
  have h2 := asN k
  have i1 := aF hb (show 0 ≤ 1003 / 1000 - lam ^ k by grind)
  have i2 := aF hZ (show 0 ≤ b * (1003 / 1000) - b * lam ^ k by grind)
  have i3 := aF hZ (show 0 ≤ (m - b) * (1003 / 1000) by grind)
  grind
def oP : W4 := ⟨1065353216, 0, 0, 0⟩
def lW : Q4 := ⟨1, 0, 0, 0⟩
theorem BC : Has oP lW := ⟨uN, v0, v0, v0⟩
theorem ax1 : qR lW = 1 := by unfold qR lW; grind
theorem aHA (ρ : Rat) : qW ρ lW = 1 + ρ := by unfold qW qS qD lW; grind
def chW (O : Rg) : Rg → List (Rg × Pc) → W4 → W4
  | R, [], w => uA R O w
  | R, q :: l, w => chW O q.1 l (pG q.2 (uA R q.1 w))
def agN (O : Rg) : Rg → List (Rg × Pc) → W4 → Prop
  | R, [], w => edgeOk R O w
  | R, q :: l, w => edgeOk R q.1 w ∧ MP q.2 (uA R q.1 w) ∧ agN O q.1 l (pG q.2 (uA R q.1 w))
structure EnC where
  E : Rat
  M : Rat
  N : Rat
  K0 : Rat
  U : Rat
  CO : Rat
  CP : Rat
  CC : Rat
  CD : Rat
  co : Rat
structure EnV (e : EnC) (O : Rg) : Prop where
  hE : 0 < e.E
  hMN : e.M * e.N ≤ 20
  hM : e.M ≤ 20
  hN : e.N ≤ 10
  hO : RgE e.E e.M e.N O e.K0
  tO : O.t = true
  r0 : 1 / 2 ≤ rho e.E e.K0 ∧ rho e.E e.K0 ≤ 2
  U0 : 0 ≤ e.U
  CO0 : 0 ≤ e.CO
  CP0 : 0 ≤ e.CP
  CC0 : 0 ≤ e.CC
  CD0 : 0 ≤ e.CD
  co0 : 0 ≤ e.co
structure PcE (e : EnC) (O r : Rg) (P : Pc) (K G : Rat) : Prop where
  h : RgE e.E e.M e.N r K
  p : PcV (rho e.E K) r.t P G
  g0 : 1 ≤ G
  g1 : G ≤ 254
  c0 : edC e.E O.t e.K0 r.t K ≤ e.CO * e.U
  c1 : edC e.E r.t K O.t e.K0 ≤ e.CO * e.U
  cc : pcC r.t K (rho e.E K) ≤ e.CC * e.U
  cd : pcD r.t K (rho e.E K) ≤ e.CD * e.U
structure GpE (e : EnC) (O : Rg) (P : Pc) (G : Rat) : Prop where
  p : PcV (rho e.E e.K0) O.t P G
  g0 : 1 ≤ G
  g1 : G ≤ 1 + 1 / 2 ^ 12
  cc : pcC O.t e.K0 (rho e.E e.K0) ≤ e.co * e.U
theorem rU {e : EnC} {O : Rg} (he : EnV e O) {r r' : Rg} {K K' : Rat} (h : RgE e.E e.M e.N r K) (h' : RgE e.E e.M e.N r' K') : mx (rho e.E K) * nn (rho e.E K') ≤ 20 := by
  have h1 := h.m
  have h2 := h'.n
  have h3 := he.hMN
  have h4 := (qE (rho e.E K)).1
  have h5 := yK (yX he.hE (show 0 < K' by have := h'.v.lo; grind))
  have i1 := aF (Rat.le_of_lt h5) (show 0 ≤ e.M - mx (rho e.E K) by grind)
  have i2 := aF (show 0 ≤ e.M by grind) (show 0 ≤ e.N - nn (rho e.E K') by grind)
  grind
theorem RgE.pos {E M N K : Rat} {r : Rg} (hE : 0 < E) (h : RgE E M N r K) : 0 < rho E K := yX hE (by have := h.v.lo; grind)
theorem ax2 {G b : Rat} (h0 : 1 ≤ G) (h : G ≤ 1 + 1 / 2 ^ 12) (hb : 0 ≤ b) : G * lam * b ≤ lam * (lam * b) := by
  have e : (1 + 1 / 2 ^ 12 : Rat) = lam := rfl
  have i := aF (aF (show 0 ≤ lam by decide +kernel) hb) (show 0 ≤ lam - G by rw [← e]; grind)
  grind
theorem ahW {ρ : Rat} (h1 : 1 / 2 ≤ ρ) (h2 : ρ ≤ 2) : Wb (qW ρ lW) 1 := by
  rw [aHA]
  exact ⟨by grind, by grind⟩
theorem aYV {e : EnC} {O r1 : Rg} {P1 : Pc} {K1 G1 : Rat} (he : EnV e O) (h1 : PcE e O r1 P1 K1 G1)  :
    agN O O [(r1, P1)] oP ∧ ∃ v, Has (chW O O [(r1, P1)] oP) v ∧ uU v ∧ Wb (qW (rho e.E e.K0) v) (2 ^ 34) ∧ aH (e.K0 * qR v - e.K0) ≤ (fa 3 - 1) * e.K0 + fa 3 * (e.U * ((1003 / 1000) * (qW (rho e.E e.K0) v + qW (rho e.E e.K0) lW)) * (2 * e.CO + e.CC + e.CD)) := by
  have hE := he.hE
  have hM := he.hM
  have hN := he.hN
  have tO := he.tO
  have k0 := RgE.pos hE he.hO
  have pK0 : 0 < e.K0 := by have := he.hO.v.lo; grind
  have one : (0 : Rat) ≤ 1 := by decide +kernel
  have k1 := RgE.pos hE h1.h
  have g10 := h1.g0
  have g11 := h1.g1
  have n1 : 0 ≤ G1 := by grind
  have w0 := ahW he.r0.1 he.r0.2
  obtain ⟨fb0, fl0⟩ : (0 : Rat) < 1 ∧ (1 : Rat) ≤ 2 ^ 34 := by decide +kernel
  have f0 := kJ k0 he.hO.m he.hO.n hM hN w0 fb0 fl0
  obtain ⟨ok0, v1, q1, s0⟩ := l9 hE he.hO.v h1.h.v (rU he h1.h he.hO) BC f0
  have w1 : Wb (qW (rho e.E K1) v1) (254 ^ 0 * lam ^ 1) := (w0.step s0 one (by decide +kernel)).mono (by decide +kernel) (by decide +kernel)
  have f1 := kJ k1 h1.h.m h1.h.n hM hN w1 (by decide +kernel) (by decide +kernel)
  obtain ⟨ok1, v2, q2, s1⟩ := nD hE h1.h.v h1.p (rU he h1.h h1.h) q1 f1
  have w2 : Wb (qW (rho e.E K1) v2) (254 ^ 1 * lam ^ 2) := by
    have h0 := w1.step s1 n1 (by decide +kernel)
    have h1 : G1 * lam * (254 ^ 0 * lam ^ 1) ≤ 254 ^ 1 * lam ^ 2 := by
      have := aF (show (0 : Rat) ≤ lam * (254 ^ 0 * lam ^ 1) by decide +kernel) (show 0 ≤ 254 - G1 by grind)
      have e2 : (254 : Rat) ^ 1 * lam ^ 2 = 254 * (lam * (254 ^ 0 * lam ^ 1)) := by decide +kernel
      rw [e2]
      grind
    exact h0.mono (aF (aF n1 (by decide +kernel)) (by decide +kernel)) h1
  have f2 := kJ k1 h1.h.m h1.h.n hM hN w2 (by decide +kernel) (by decide +kernel)
  obtain ⟨ok2, v3, q3, s2⟩ := l9 hE h1.h.v he.hO.v (rU he he.hO h1.h) q2 f2
  have w3 : Wb (qW (rho e.E e.K0) v3) (254 ^ 1 * lam ^ 3) := (w2.step s2 one (by decide +kernel)).mono (by decide +kernel) (by decide +kernel)
  have f3 := kJ k0 he.hO.m he.hO.n hM hN w3 (by decide +kernel) (by decide +kernel)
  have wf : Wb (qW (rho e.E e.K0) v3) (2 ^ 34) := w3.mono (by decide +kernel) (by decide +kernel)
  refine ⟨⟨ok0, ok1, ok2⟩, v3, q3, f3, wf, ?_⟩
  have Wn0 := kN (Rat.le_of_lt k0) lW
  have Wn3 := kN (Rat.le_of_lt k0) v3
  have Wn1 := kN (Rat.le_of_lt k1) v1
  have Wn2 := kN (Rat.le_of_lt k1) v2
  generalize hZ : qW (rho e.E e.K0) v3 + qW (rho e.E e.K0) lW = Z at *
  have Z0 : 0 ≤ Z := by grind
  have u0 : qW (rho e.E e.K0) lW ≤ 1 * lam ^ 0 * Z := by rw [show lam ^ 0 = 1 by decide +kernel]; grind
  have d3 : qW (rho e.E e.K0) v3 ≤ 1 * lam ^ 0 * Z := by rw [show lam ^ 0 = 1 by decide +kernel]; grind
  have u1 : qW (rho e.E K1) v1 ≤ 1 * 1 * lam ^ 1 * Z := uO s0 one u0
  have d2 : qW (rho e.E K1) v2 ≤ 1 * 1 * lam ^ 1 * Z := IZ s2 one d3
  have t0 : qW (rho e.E e.K0) lW ≤ 1 * (1003 / 1000) * Z := lV u0 (by decide) (by grind) (by grind) Z0
  have t1 : qW (rho e.E K1) v1 ≤ 1 * (1003 / 1000) * Z := lV u1 (by decide) (by grind) (by grind) Z0
  have t2 : qW (rho e.E K1) v2 ≤ 1 * (1003 / 1000) * Z := lV d2 (by decide) (by grind) (by grind) Z0
  have t3 : qW (rho e.E e.K0) v3 ≤ 1 * (1003 / 1000) * Z := lV d3 (by decide) (by grind) (by grind) Z0
  have U0 := he.U0
  have zCO := aF he.CO0 U0
  have zCP := aF he.CP0 U0
  have zCC := aF he.CC0 U0
  have zCD := aF he.CD0 U0
  have zco := aF he.co0 U0
  have zz : (0 : Rat) ≤ 0 := Rat.le_refl
  have a0 : Acc (e.K0 * qFx O.t lW) 0 0 (e.K0 * qFx O.t lW) := .nil
  have a1 := a0.of s0 t0 t1 Wn0 Wn1 h1.c0 zz zCO zz
  have a2 := a1.of s1 t1 t2 Wn1 Wn2 h1.cc h1.cd zCC zCD
  have a3 := a2.of s2 t2 t3 Wn2 Wn3 h1.c1 zz zCO zz
  have hb := a3.bound.2
  rw [tO] at hb
  have j0 : e.K0 * qFx true lW = e.K0 := by show e.K0 * qR lW = e.K0; rw [ax1]; grind
  rw [j0, bP (Rat.le_of_lt pK0)] at hb
  refine Rat.le_trans hb ?_
  have fg := ahV 3
  clear hb a0 a1 a2 a3 s0 s1 s2 t0 t1 t2 t3 w0 w1 w2 w3 f0 f1 f2 f3 ok0 ok1 ok2 q1 q2 q3 wf
  refine Rat.add_le_add_left.2 (Rat.mul_le_mul_of_nonneg_left ?_ (by grind))
  have uz := aF U0 Z0
  generalize e.U = U at *
  generalize e.CO = CO at *
  generalize e.CP = CP at *
  generalize e.CC = CC at *
  generalize e.CD = CD at *
  generalize e.co = co at *
  grind
theorem aUE {e : EnC} {O r1 r2 : Rg} {P1 P2 : Pc} {K1 K2 G1 G2 : Rat} (he : EnV e O) (h1 : PcE e O r1 P1 K1 G1) (h2 : PcE e O r2 P2 K2 G2) (hx : edC e.E r2.t K2 r1.t K1 ≤ e.CP * e.U) {m : Rat} (hm : G2 ≤ m ∨ G1 ≤ m) (m1 : 1 ≤ m) :
    agN O O [(r2, P2), (r1, P1)] oP ∧ ∃ v, Has (chW O O [(r2, P2), (r1, P1)] oP) v ∧ uU v ∧ Wb (qW (rho e.E e.K0) v) (2 ^ 34) ∧ aH (e.K0 * qR v - e.K0) ≤ (fa 5 - 1) * e.K0 + fa 5 * (e.U * ((1003 / 1000) * (qW (rho e.E e.K0) v + qW (rho e.E e.K0) lW)) * (2 * e.CO + e.CC + e.CD + (e.CC + e.CD + e.CP) * m)) := by
  have hE := he.hE
  have hM := he.hM
  have hN := he.hN
  have tO := he.tO
  have k0 := RgE.pos hE he.hO
  have pK0 : 0 < e.K0 := by have := he.hO.v.lo; grind
  have one : (0 : Rat) ≤ 1 := by decide +kernel
  have k1 := RgE.pos hE h1.h
  have g10 := h1.g0
  have g11 := h1.g1
  have n1 : 0 ≤ G1 := by grind
  have k2 := RgE.pos hE h2.h
  have g20 := h2.g0
  have g21 := h2.g1
  have n2 : 0 ≤ G2 := by grind
  have n12 := aF n1 n2
  have w0 := ahW he.r0.1 he.r0.2
  obtain ⟨fb0, fl0⟩ : (0 : Rat) < 1 ∧ (1 : Rat) ≤ 2 ^ 34 := by decide +kernel
  have f0 := kJ k0 he.hO.m he.hO.n hM hN w0 fb0 fl0
  obtain ⟨ok0, v1, q1, s0⟩ := l9 hE he.hO.v h2.h.v (rU he h2.h he.hO) BC f0
  have w1 : Wb (qW (rho e.E K2) v1) (254 ^ 0 * lam ^ 1) := (w0.step s0 one (by decide +kernel)).mono (by decide +kernel) (by decide +kernel)
  have f1 := kJ k2 h2.h.m h2.h.n hM hN w1 (by decide +kernel) (by decide +kernel)
  obtain ⟨ok1, v2, q2, s1⟩ := nD hE h2.h.v h2.p (rU he h2.h h2.h) q1 f1
  have w2 : Wb (qW (rho e.E K2) v2) (254 ^ 1 * lam ^ 2) := by
    have h0 := w1.step s1 n2 (by decide +kernel)
    have h1 : G2 * lam * (254 ^ 0 * lam ^ 1) ≤ 254 ^ 1 * lam ^ 2 := by
      have := aF (show (0 : Rat) ≤ lam * (254 ^ 0 * lam ^ 1) by decide +kernel) (show 0 ≤ 254 - G2 by grind)
      have e2 : (254 : Rat) ^ 1 * lam ^ 2 = 254 * (lam * (254 ^ 0 * lam ^ 1)) := by decide +kernel
      rw [e2]
      grind
    exact h0.mono (aF (aF n2 (by decide +kernel)) (by decide +kernel)) h1
  have f2 := kJ k2 h2.h.m h2.h.n hM hN w2 (by decide +kernel) (by decide +kernel)
  obtain ⟨ok2, v3, q3, s2⟩ := l9 hE h2.h.v h1.h.v (rU he h1.h h2.h) q2 f2
  have w3 : Wb (qW (rho e.E K1) v3) (254 ^ 1 * lam ^ 3) := (w2.step s2 one (by decide +kernel)).mono (by decide +kernel) (by decide +kernel)
  have f3 := kJ k1 h1.h.m h1.h.n hM hN w3 (by decide +kernel) (by decide +kernel)
  obtain ⟨ok3, v4, q4, s3⟩ := nD hE h1.h.v h1.p (rU he h1.h h1.h) q3 f3
  have w4 : Wb (qW (rho e.E K1) v4) (254 ^ 2 * lam ^ 4) := by
    have h0 := w3.step s3 n1 (by decide +kernel)
    have h1 : G1 * lam * (254 ^ 1 * lam ^ 3) ≤ 254 ^ 2 * lam ^ 4 := by
      have := aF (show (0 : Rat) ≤ lam * (254 ^ 1 * lam ^ 3) by decide +kernel) (show 0 ≤ 254 - G1 by grind)
      have e2 : (254 : Rat) ^ 2 * lam ^ 4 = 254 * (lam * (254 ^ 1 * lam ^ 3)) := by decide +kernel
      rw [e2]
      grind
    exact h0.mono (aF (aF n1 (by decide +kernel)) (by decide +kernel)) h1
  have f4 := kJ k1 h1.h.m h1.h.n hM hN w4 (by decide +kernel) (by decide +kernel)
  obtain ⟨ok4, v5, q5, s4⟩ := l9 hE h1.h.v he.hO.v (rU he he.hO h1.h) q4 f4
  have w5 : Wb (qW (rho e.E e.K0) v5) (254 ^ 2 * lam ^ 5) := (w4.step s4 one (by decide +kernel)).mono (by decide +kernel) (by decide +kernel)
  have f5 := kJ k0 he.hO.m he.hO.n hM hN w5 (by decide +kernel) (by decide +kernel)
  have wf : Wb (qW (rho e.E e.K0) v5) (2 ^ 34) := w5.mono (by decide +kernel) (by decide +kernel)
  refine ⟨⟨ok0, ok1, ok2, ok3, ok4⟩, v5, q5, f5, wf, ?_⟩
  have Wn0 := kN (Rat.le_of_lt k0) lW
  have Wn5 := kN (Rat.le_of_lt k0) v5
  have Wn1 := kN (Rat.le_of_lt k2) v1
  have Wn2 := kN (Rat.le_of_lt k2) v2
  have Wn3 := kN (Rat.le_of_lt k1) v3
  have Wn4 := kN (Rat.le_of_lt k1) v4
  generalize hZ : qW (rho e.E e.K0) v5 + qW (rho e.E e.K0) lW = Z at *
  have Z0 : 0 ≤ Z := by grind
  have u0 : qW (rho e.E e.K0) lW ≤ 1 * lam ^ 0 * Z := by rw [show lam ^ 0 = 1 by decide +kernel]; grind
  have d5 : qW (rho e.E e.K0) v5 ≤ 1 * lam ^ 0 * Z := by rw [show lam ^ 0 = 1 by decide +kernel]; grind
  have u1 : qW (rho e.E K2) v1 ≤ 1 * 1 * lam ^ 1 * Z := uO s0 one u0
  have u2 : qW (rho e.E K2) v2 ≤ G2 * (1 * 1) * lam ^ 2 * Z := uO s1 n2 u1
  have u3 : qW (rho e.E K1) v3 ≤ 1 * (G2 * (1 * 1)) * lam ^ 3 * Z := uO s2 one u2
  have d4 : qW (rho e.E K1) v4 ≤ 1 * 1 * lam ^ 1 * Z := IZ s4 one d5
  have d3 : qW (rho e.E K1) v3 ≤ G1 * (1 * 1) * lam ^ 2 * Z := IZ s3 n1 d4
  have d2 : qW (rho e.E K2) v2 ≤ 1 * (G1 * (1 * 1)) * lam ^ 3 * Z := IZ s2 one d3
  have t0 : qW (rho e.E e.K0) lW ≤ 1 * (1003 / 1000) * Z := lV u0 (by decide) (by grind) (by grind) Z0
  have t1 : qW (rho e.E K2) v1 ≤ 1 * (1003 / 1000) * Z := lV u1 (by decide) (by grind) (by grind) Z0
  have t2 : qW (rho e.E K2) v2 ≤ m * (1003 / 1000) * Z := by
    rcases hm with hm | hm
    · exact lV u2 (by decide) (by grind) (by grind) Z0
    · exact lV d2 (by decide) (by grind) (by grind) Z0
  have t3 : qW (rho e.E K1) v3 ≤ m * (1003 / 1000) * Z := by
    rcases hm with hm | hm
    · exact lV u3 (by decide) (by grind) (by grind) Z0
    · exact lV d3 (by decide) (by grind) (by grind) Z0
  have t4 : qW (rho e.E K1) v4 ≤ 1 * (1003 / 1000) * Z := lV d4 (by decide) (by grind) (by grind) Z0
  have t5 : qW (rho e.E e.K0) v5 ≤ 1 * (1003 / 1000) * Z := lV d5 (by decide) (by grind) (by grind) Z0
  have U0 := he.U0
  have zCO := aF he.CO0 U0
  have zCP := aF he.CP0 U0
  have zCC := aF he.CC0 U0
  have zCD := aF he.CD0 U0
  have zco := aF he.co0 U0
  have zz : (0 : Rat) ≤ 0 := Rat.le_refl
  have a0 : Acc (e.K0 * qFx O.t lW) 0 0 (e.K0 * qFx O.t lW) := .nil
  have a1 := a0.of s0 t0 t1 Wn0 Wn1 h2.c0 zz zCO zz
  have a2 := a1.of s1 t1 t2 Wn1 Wn2 h2.cc h2.cd zCC zCD
  have a3 := a2.of s2 t2 t3 Wn2 Wn3 hx zz zCP zz
  have a4 := a3.of s3 t3 t4 Wn3 Wn4 h1.cc h1.cd zCC zCD
  have a5 := a4.of s4 t4 t5 Wn4 Wn5 h1.c1 zz zCO zz
  have hb := a5.bound.2
  rw [tO] at hb
  have j0 : e.K0 * qFx true lW = e.K0 := by show e.K0 * qR lW = e.K0; rw [ax1]; grind
  rw [j0, bP (Rat.le_of_lt pK0)] at hb
  refine Rat.le_trans hb ?_
  have fg := ahV 5
  clear hb a0 a1 a2 a3 a4 a5 s0 s1 s2 s3 s4 t0 t1 t2 t3 t4 t5 w0 w1 w2 w3 w4 w5 f0 f1 f2 f3 f4 f5 ok0 ok1 ok2 ok3 ok4 q1 q2 q3 q4 q5 wf
  refine Rat.add_le_add_left.2 (Rat.mul_le_mul_of_nonneg_left ?_ (by grind))
  have uz := aF U0 Z0
  generalize e.U = U at *
  generalize e.CO = CO at *
  generalize e.CP = CP at *
  generalize e.CC = CC at *
  generalize e.CD = CD at *
  generalize e.co = co at *
  grind
theorem aVM {e : EnC} {O r1 : Rg} {P1 Pg : Pc} {K1 G1 Gg : Rat} (he : EnV e O) (h1 : PcE e O r1 P1 K1 G1) (hg : GpE e O Pg Gg)  :
    agN O O [(r1, P1), (O, Pg), (r1, P1)] oP ∧ ∃ v, Has (chW O O [(r1, P1), (O, Pg), (r1, P1)] oP) v ∧ uU v ∧ Wb (qW (rho e.E e.K0) v) (2 ^ 34) ∧ aH (e.K0 * qR v - e.K0) ≤ (fa 7 - 1) * e.K0 + fa 7 * (e.U * ((1003 / 1000) * (qW (rho e.E e.K0) v + qW (rho e.E e.K0) lW)) * (2 * e.CO + e.CC + e.CD + (2 * e.CO + e.co + e.CC + e.CD) * G1)) := by
  have hE := he.hE
  have hM := he.hM
  have hN := he.hN
  have tO := he.tO
  have k0 := RgE.pos hE he.hO
  have pK0 : 0 < e.K0 := by have := he.hO.v.lo; grind
  have one : (0 : Rat) ≤ 1 := by decide +kernel
  have k1 := RgE.pos hE h1.h
  have g10 := h1.g0
  have g11 := h1.g1
  have n1 : 0 ≤ G1 := by grind
  have gg0 := hg.g0
  have gg1 := hg.g1
  have ng : 0 ≤ Gg := by grind
  have kg := k0
  have w0 := ahW he.r0.1 he.r0.2
  obtain ⟨fb0, fl0⟩ : (0 : Rat) < 1 ∧ (1 : Rat) ≤ 2 ^ 34 := by decide +kernel
  have f0 := kJ k0 he.hO.m he.hO.n hM hN w0 fb0 fl0
  obtain ⟨ok0, v1, q1, s0⟩ := l9 hE he.hO.v h1.h.v (rU he h1.h he.hO) BC f0
  have w1 : Wb (qW (rho e.E K1) v1) (254 ^ 0 * lam ^ 1) := (w0.step s0 one (by decide +kernel)).mono (by decide +kernel) (by decide +kernel)
  have f1 := kJ k1 h1.h.m h1.h.n hM hN w1 (by decide +kernel) (by decide +kernel)
  obtain ⟨ok1, v2, q2, s1⟩ := nD hE h1.h.v h1.p (rU he h1.h h1.h) q1 f1
  have w2 : Wb (qW (rho e.E K1) v2) (254 ^ 1 * lam ^ 2) := by
    have h0 := w1.step s1 n1 (by decide +kernel)
    have h1 : G1 * lam * (254 ^ 0 * lam ^ 1) ≤ 254 ^ 1 * lam ^ 2 := by
      have := aF (show (0 : Rat) ≤ lam * (254 ^ 0 * lam ^ 1) by decide +kernel) (show 0 ≤ 254 - G1 by grind)
      have e2 : (254 : Rat) ^ 1 * lam ^ 2 = 254 * (lam * (254 ^ 0 * lam ^ 1)) := by decide +kernel
      rw [e2]
      grind
    exact h0.mono (aF (aF n1 (by decide +kernel)) (by decide +kernel)) h1
  have f2 := kJ k1 h1.h.m h1.h.n hM hN w2 (by decide +kernel) (by decide +kernel)
  obtain ⟨ok2, v3, q3, s2⟩ := l9 hE h1.h.v he.hO.v (rU he he.hO h1.h) q2 f2
  have w3 : Wb (qW (rho e.E e.K0) v3) (254 ^ 1 * lam ^ 3) := (w2.step s2 one (by decide +kernel)).mono (by decide +kernel) (by decide +kernel)
  have f3 := kJ k0 he.hO.m he.hO.n hM hN w3 (by decide +kernel) (by decide +kernel)
  obtain ⟨ok3, v4, q4, s3⟩ := nD hE he.hO.v hg.p (rU he he.hO he.hO) q3 f3
  have w4 : Wb (qW (rho e.E e.K0) v4) (254 ^ 1 * lam ^ 5) := by
    have h0 := w3.step s3 ng (by decide +kernel)
    have h1 : Gg * lam * (254 ^ 1 * lam ^ 3) ≤ 254 ^ 1 * lam ^ 5 := Rat.le_trans (ax2 gg0 gg1 (by decide +kernel)) (by decide +kernel)
    exact h0.mono (aF (aF ng (by decide +kernel)) (by decide +kernel)) h1
  have f4 := kJ k0 he.hO.m he.hO.n hM hN w4 (by decide +kernel) (by decide +kernel)
  obtain ⟨ok4, v5, q5, s4⟩ := l9 hE he.hO.v h1.h.v (rU he h1.h he.hO) q4 f4
  have w5 : Wb (qW (rho e.E K1) v5) (254 ^ 1 * lam ^ 6) := (w4.step s4 one (by decide +kernel)).mono (by decide +kernel) (by decide +kernel)
  have f5 := kJ k1 h1.h.m h1.h.n hM hN w5 (by decide +kernel) (by decide +kernel)
  obtain ⟨ok5, v6, q6, s5⟩ := nD hE h1.h.v h1.p (rU he h1.h h1.h) q5 f5
  have w6 : Wb (qW (rho e.E K1) v6) (254 ^ 2 * lam ^ 7) := by
    have h0 := w5.step s5 n1 (by decide +kernel)
    have h1 : G1 * lam * (254 ^ 1 * lam ^ 6) ≤ 254 ^ 2 * lam ^ 7 := by
      have := aF (show (0 : Rat) ≤ lam * (254 ^ 1 * lam ^ 6) by decide +kernel) (show 0 ≤ 254 - G1 by grind)
      have e2 : (254 : Rat) ^ 2 * lam ^ 7 = 254 * (lam * (254 ^ 1 * lam ^ 6)) := by decide +kernel
      rw [e2]
      grind
    exact h0.mono (aF (aF n1 (by decide +kernel)) (by decide +kernel)) h1
  have f6 := kJ k1 h1.h.m h1.h.n hM hN w6 (by decide +kernel) (by decide +kernel)
  obtain ⟨ok6, v7, q7, s6⟩ := l9 hE h1.h.v he.hO.v (rU he he.hO h1.h) q6 f6
  have w7 : Wb (qW (rho e.E e.K0) v7) (254 ^ 2 * lam ^ 8) := (w6.step s6 one (by decide +kernel)).mono (by decide +kernel) (by decide +kernel)
  have f7 := kJ k0 he.hO.m he.hO.n hM hN w7 (by decide +kernel) (by decide +kernel)
  have wf : Wb (qW (rho e.E e.K0) v7) (2 ^ 34) := w7.mono (by decide +kernel) (by decide +kernel)
  refine ⟨⟨ok0, ok1, ok2, ok3, ok4, ok5, ok6⟩, v7, q7, f7, wf, ?_⟩
  have Wn0 := kN (Rat.le_of_lt k0) lW
  have Wn7 := kN (Rat.le_of_lt k0) v7
  have Wn1 := kN (Rat.le_of_lt k1) v1
  have Wn2 := kN (Rat.le_of_lt k1) v2
  have Wn3 := kN (Rat.le_of_lt k0) v3
  have Wn4 := kN (Rat.le_of_lt k0) v4
  have Wn5 := kN (Rat.le_of_lt k1) v5
  have Wn6 := kN (Rat.le_of_lt k1) v6
  generalize hZ : qW (rho e.E e.K0) v7 + qW (rho e.E e.K0) lW = Z at *
  have Z0 : 0 ≤ Z := by grind
  have u0 : qW (rho e.E e.K0) lW ≤ 1 * lam ^ 0 * Z := by rw [show lam ^ 0 = 1 by decide +kernel]; grind
  have d7 : qW (rho e.E e.K0) v7 ≤ 1 * lam ^ 0 * Z := by rw [show lam ^ 0 = 1 by decide +kernel]; grind
  have u1 : qW (rho e.E K1) v1 ≤ 1 * 1 * lam ^ 1 * Z := uO s0 one u0
  have u2 : qW (rho e.E K1) v2 ≤ G1 * (1 * 1) * lam ^ 2 * Z := uO s1 n1 u1
  have u3 : qW (rho e.E e.K0) v3 ≤ 1 * (G1 * (1 * 1)) * lam ^ 3 * Z := uO s2 one u2
  have d6 : qW (rho e.E K1) v6 ≤ 1 * 1 * lam ^ 1 * Z := IZ s6 one d7
  have d5 : qW (rho e.E K1) v5 ≤ G1 * (1 * 1) * lam ^ 2 * Z := IZ s5 n1 d6
  have d4 : qW (rho e.E e.K0) v4 ≤ 1 * (G1 * (1 * 1)) * lam ^ 3 * Z := IZ s4 one d5
  have t0 : qW (rho e.E e.K0) lW ≤ 1 * (1003 / 1000) * Z := lV u0 (by decide) (by grind) (by grind) Z0
  have t1 : qW (rho e.E K1) v1 ≤ 1 * (1003 / 1000) * Z := lV u1 (by decide) (by grind) (by grind) Z0
  have t2 : qW (rho e.E K1) v2 ≤ G1 * (1003 / 1000) * Z := lV u2 (by decide) (by grind) (by grind) Z0
  have t3 : qW (rho e.E e.K0) v3 ≤ G1 * (1003 / 1000) * Z := lV u3 (by decide) (by grind) (by grind) Z0
  have t4 : qW (rho e.E e.K0) v4 ≤ G1 * (1003 / 1000) * Z := lV d4 (by decide) (by grind) (by grind) Z0
  have t5 : qW (rho e.E K1) v5 ≤ G1 * (1003 / 1000) * Z := lV d5 (by decide) (by grind) (by grind) Z0
  have t6 : qW (rho e.E K1) v6 ≤ 1 * (1003 / 1000) * Z := lV d6 (by decide) (by grind) (by grind) Z0
  have t7 : qW (rho e.E e.K0) v7 ≤ 1 * (1003 / 1000) * Z := lV d7 (by decide) (by grind) (by grind) Z0
  have U0 := he.U0
  have zCO := aF he.CO0 U0
  have zCP := aF he.CP0 U0
  have zCC := aF he.CC0 U0
  have zCD := aF he.CD0 U0
  have zco := aF he.co0 U0
  have zz : (0 : Rat) ≤ 0 := Rat.le_refl
  have a0 : Acc (e.K0 * qFx O.t lW) 0 0 (e.K0 * qFx O.t lW) := .nil
  have a1 := a0.of s0 t0 t1 Wn0 Wn1 h1.c0 zz zCO zz
  have a2 := a1.of s1 t1 t2 Wn1 Wn2 h1.cc h1.cd zCC zCD
  have a3 := a2.of s2 t2 t3 Wn2 Wn3 h1.c1 zz zCO zz
  have a4 := a3.of s3 t3 t4 Wn3 Wn4 hg.cc (show _ ≤ (0 : Rat) by unfold pcD; rw [tO]; exact Rat.le_refl) zco zz
  have a5 := a4.of s4 t4 t5 Wn4 Wn5 h1.c0 zz zCO zz
  have a6 := a5.of s5 t5 t6 Wn5 Wn6 h1.cc h1.cd zCC zCD
  have a7 := a6.of s6 t6 t7 Wn6 Wn7 h1.c1 zz zCO zz
  have hb := a7.bound.2
  rw [tO] at hb
  have j0 : e.K0 * qFx true lW = e.K0 := by show e.K0 * qR lW = e.K0; rw [ax1]; grind
  rw [j0, bP (Rat.le_of_lt pK0)] at hb
  refine Rat.le_trans hb ?_
  have fg := ahV 7
  clear hb a0 a1 a2 a3 a4 a5 a6 a7 s0 s1 s2 s3 s4 s5 s6 t0 t1 t2 t3 t4 t5 t6 t7 w0 w1 w2 w3 w4 w5 w6 w7 f0 f1 f2 f3 f4 f5 f6 f7 ok0 ok1 ok2 ok3 ok4 ok5 ok6 q1 q2 q3 q4 q5 q6 q7 wf
  refine Rat.add_le_add_left.2 (Rat.mul_le_mul_of_nonneg_left ?_ (by grind))
  have uz := aF U0 Z0
  generalize e.U = U at *
  generalize e.CO = CO at *
  generalize e.CP = CP at *
  generalize e.CC = CC at *
  generalize e.CD = CD at *
  generalize e.co = co at *
  grind
theorem aHB {e : EnC} {O r1 r2 : Rg} {P1 P2 Pg : Pc} {K1 K2 G1 G2 Gg : Rat} (he : EnV e O) (h1 : PcE e O r1 P1 K1 G1) (h2 : PcE e O r2 P2 K2 G2) (hg : GpE e O Pg Gg) (hx : edC e.E r2.t K2 r1.t K1 ≤ e.CP * e.U) :
    agN O O [(r2, P2), (r1, P1), (O, Pg), (r2, P2), (r1, P1)] oP ∧ ∃ v, Has (chW O O [(r2, P2), (r1, P1), (O, Pg), (r2, P2), (r1, P1)] oP) v ∧ uU v ∧ Wb (qW (rho e.E e.K0) v) (2 ^ 34) ∧ aH (e.K0 * qR v - e.K0) ≤ (fa 11 - 1) * e.K0 + fa 11 * (e.U * ((1003 / 1000) * (qW (rho e.E e.K0) v + qW (rho e.E e.K0) lW)) * (2 * e.CO + e.CC + e.CD + (e.CP + e.CC + e.CD) * (G1 + G2) + (2 * e.CO + e.co + e.CC + e.CD) * (G1 * G2))) := by
  have hE := he.hE
  have hM := he.hM
  have hN := he.hN
  have tO := he.tO
  have k0 := RgE.pos hE he.hO
  have pK0 : 0 < e.K0 := by have := he.hO.v.lo; grind
  have one : (0 : Rat) ≤ 1 := by decide +kernel
  have k1 := RgE.pos hE h1.h
  have g10 := h1.g0
  have g11 := h1.g1
  have n1 : 0 ≤ G1 := by grind
  have k2 := RgE.pos hE h2.h
  have g20 := h2.g0
  have g21 := h2.g1
  have n2 : 0 ≤ G2 := by grind
  have n12 := aF n1 n2
  have gg0 := hg.g0
  have gg1 := hg.g1
  have ng : 0 ≤ Gg := by grind
  have kg := k0
  have w0 := ahW he.r0.1 he.r0.2
  obtain ⟨fb0, fl0⟩ : (0 : Rat) < 1 ∧ (1 : Rat) ≤ 2 ^ 34 := by decide +kernel
  have f0 := kJ k0 he.hO.m he.hO.n hM hN w0 fb0 fl0
  obtain ⟨ok0, v1, q1, s0⟩ := l9 hE he.hO.v h2.h.v (rU he h2.h he.hO) BC f0
  have w1 : Wb (qW (rho e.E K2) v1) (254 ^ 0 * lam ^ 1) := (w0.step s0 one (by decide +kernel)).mono (by decide +kernel) (by decide +kernel)
  have f1 := kJ k2 h2.h.m h2.h.n hM hN w1 (by decide +kernel) (by decide +kernel)
  obtain ⟨ok1, v2, q2, s1⟩ := nD hE h2.h.v h2.p (rU he h2.h h2.h) q1 f1
  have w2 : Wb (qW (rho e.E K2) v2) (254 ^ 1 * lam ^ 2) := by
    have h0 := w1.step s1 n2 (by decide +kernel)
    have h1 : G2 * lam * (254 ^ 0 * lam ^ 1) ≤ 254 ^ 1 * lam ^ 2 := by
      have := aF (show (0 : Rat) ≤ lam * (254 ^ 0 * lam ^ 1) by decide +kernel) (show 0 ≤ 254 - G2 by grind)
      have e2 : (254 : Rat) ^ 1 * lam ^ 2 = 254 * (lam * (254 ^ 0 * lam ^ 1)) := by decide +kernel
      rw [e2]
      grind
    exact h0.mono (aF (aF n2 (by decide +kernel)) (by decide +kernel)) h1
  have f2 := kJ k2 h2.h.m h2.h.n hM hN w2 (by decide +kernel) (by decide +kernel)
  obtain ⟨ok2, v3, q3, s2⟩ := l9 hE h2.h.v h1.h.v (rU he h1.h h2.h) q2 f2
  have w3 : Wb (qW (rho e.E K1) v3) (254 ^ 1 * lam ^ 3) := (w2.step s2 one (by decide +kernel)).mono (by decide +kernel) (by decide +kernel)
  have f3 := kJ k1 h1.h.m h1.h.n hM hN w3 (by decide +kernel) (by decide +kernel)
  obtain ⟨ok3, v4, q4, s3⟩ := nD hE h1.h.v h1.p (rU he h1.h h1.h) q3 f3
  have w4 : Wb (qW (rho e.E K1) v4) (254 ^ 2 * lam ^ 4) := by
    have h0 := w3.step s3 n1 (by decide +kernel)
    have h1 : G1 * lam * (254 ^ 1 * lam ^ 3) ≤ 254 ^ 2 * lam ^ 4 := by
      have := aF (show (0 : Rat) ≤ lam * (254 ^ 1 * lam ^ 3) by decide +kernel) (show 0 ≤ 254 - G1 by grind)
      have e2 : (254 : Rat) ^ 2 * lam ^ 4 = 254 * (lam * (254 ^ 1 * lam ^ 3)) := by decide +kernel
      rw [e2]
      grind
    exact h0.mono (aF (aF n1 (by decide +kernel)) (by decide +kernel)) h1
  have f4 := kJ k1 h1.h.m h1.h.n hM hN w4 (by decide +kernel) (by decide +kernel)
  obtain ⟨ok4, v5, q5, s4⟩ := l9 hE h1.h.v he.hO.v (rU he he.hO h1.h) q4 f4
  have w5 : Wb (qW (rho e.E e.K0) v5) (254 ^ 2 * lam ^ 5) := (w4.step s4 one (by decide +kernel)).mono (by decide +kernel) (by decide +kernel)
  have f5 := kJ k0 he.hO.m he.hO.n hM hN w5 (by decide +kernel) (by decide +kernel)
  obtain ⟨ok5, v6, q6, s5⟩ := nD hE he.hO.v hg.p (rU he he.hO he.hO) q5 f5
  have w6 : Wb (qW (rho e.E e.K0) v6) (254 ^ 2 * lam ^ 7) := by
    have h0 := w5.step s5 ng (by decide +kernel)
    have h1 : Gg * lam * (254 ^ 2 * lam ^ 5) ≤ 254 ^ 2 * lam ^ 7 := Rat.le_trans (ax2 gg0 gg1 (by decide +kernel)) (by decide +kernel)
    exact h0.mono (aF (aF ng (by decide +kernel)) (by decide +kernel)) h1
  have f6 := kJ k0 he.hO.m he.hO.n hM hN w6 (by decide +kernel) (by decide +kernel)
  obtain ⟨ok6, v7, q7, s6⟩ := l9 hE he.hO.v h2.h.v (rU he h2.h he.hO) q6 f6
  have w7 : Wb (qW (rho e.E K2) v7) (254 ^ 2 * lam ^ 8) := (w6.step s6 one (by decide +kernel)).mono (by decide +kernel) (by decide +kernel)
  have f7 := kJ k2 h2.h.m h2.h.n hM hN w7 (by decide +kernel) (by decide +kernel)
  obtain ⟨ok7, v8, q8, s7⟩ := nD hE h2.h.v h2.p (rU he h2.h h2.h) q7 f7
  have w8 : Wb (qW (rho e.E K2) v8) (254 ^ 3 * lam ^ 9) := by
    have h0 := w7.step s7 n2 (by decide +kernel)
    have h1 : G2 * lam * (254 ^ 2 * lam ^ 8) ≤ 254 ^ 3 * lam ^ 9 := by
      have := aF (show (0 : Rat) ≤ lam * (254 ^ 2 * lam ^ 8) by decide +kernel) (show 0 ≤ 254 - G2 by grind)
      have e2 : (254 : Rat) ^ 3 * lam ^ 9 = 254 * (lam * (254 ^ 2 * lam ^ 8)) := by decide +kernel
      rw [e2]
      grind
    exact h0.mono (aF (aF n2 (by decide +kernel)) (by decide +kernel)) h1
  have f8 := kJ k2 h2.h.m h2.h.n hM hN w8 (by decide +kernel) (by decide +kernel)
  obtain ⟨ok8, v9, q9, s8⟩ := l9 hE h2.h.v h1.h.v (rU he h1.h h2.h) q8 f8
  have w9 : Wb (qW (rho e.E K1) v9) (254 ^ 3 * lam ^ 10) := (w8.step s8 one (by decide +kernel)).mono (by decide +kernel) (by decide +kernel)
  have f9 := kJ k1 h1.h.m h1.h.n hM hN w9 (by decide +kernel) (by decide +kernel)
  obtain ⟨ok9, v10, q10, s9⟩ := nD hE h1.h.v h1.p (rU he h1.h h1.h) q9 f9
  have w10 : Wb (qW (rho e.E K1) v10) (254 ^ 4 * lam ^ 11) := by
    have h0 := w9.step s9 n1 (by decide +kernel)
    have h1 : G1 * lam * (254 ^ 3 * lam ^ 10) ≤ 254 ^ 4 * lam ^ 11 := by
      have := aF (show (0 : Rat) ≤ lam * (254 ^ 3 * lam ^ 10) by decide +kernel) (show 0 ≤ 254 - G1 by grind)
      have e2 : (254 : Rat) ^ 4 * lam ^ 11 = 254 * (lam * (254 ^ 3 * lam ^ 10)) := by decide +kernel
      rw [e2]
      grind
    exact h0.mono (aF (aF n1 (by decide +kernel)) (by decide +kernel)) h1
  have f10 := kJ k1 h1.h.m h1.h.n hM hN w10 (by decide +kernel) (by decide +kernel)
  obtain ⟨ok10, v11, q11, s10⟩ := l9 hE h1.h.v he.hO.v (rU he he.hO h1.h) q10 f10
  have w11 : Wb (qW (rho e.E e.K0) v11) (254 ^ 4 * lam ^ 12) := (w10.step s10 one (by decide +kernel)).mono (by decide +kernel) (by decide +kernel)
  have f11 := kJ k0 he.hO.m he.hO.n hM hN w11 (by decide +kernel) (by decide +kernel)
  have wf : Wb (qW (rho e.E e.K0) v11) (2 ^ 34) := w11.mono (by decide +kernel) (by decide +kernel)
  refine ⟨⟨ok0, ok1, ok2, ok3, ok4, ok5, ok6, ok7, ok8, ok9, ok10⟩, v11, q11, f11, wf, ?_⟩
  have Wn0 := kN (Rat.le_of_lt k0) lW
  have Wn11 := kN (Rat.le_of_lt k0) v11
  have Wn1 := kN (Rat.le_of_lt k2) v1
  have Wn2 := kN (Rat.le_of_lt k2) v2
  have Wn3 := kN (Rat.le_of_lt k1) v3
  have Wn4 := kN (Rat.le_of_lt k1) v4
  have Wn5 := kN (Rat.le_of_lt k0) v5
  have Wn6 := kN (Rat.le_of_lt k0) v6
  have Wn7 := kN (Rat.le_of_lt k2) v7
  have Wn8 := kN (Rat.le_of_lt k2) v8
  have Wn9 := kN (Rat.le_of_lt k1) v9
  have Wn10 := kN (Rat.le_of_lt k1) v10
  generalize hZ : qW (rho e.E e.K0) v11 + qW (rho e.E e.K0) lW = Z at *
  have Z0 : 0 ≤ Z := by grind
  have u0 : qW (rho e.E e.K0) lW ≤ 1 * lam ^ 0 * Z := by rw [show lam ^ 0 = 1 by decide +kernel]; grind
  have d11 : qW (rho e.E e.K0) v11 ≤ 1 * lam ^ 0 * Z := by rw [show lam ^ 0 = 1 by decide +kernel]; grind
  have u1 : qW (rho e.E K2) v1 ≤ 1 * 1 * lam ^ 1 * Z := uO s0 one u0
  have u2 : qW (rho e.E K2) v2 ≤ G2 * (1 * 1) * lam ^ 2 * Z := uO s1 n2 u1
  have u3 : qW (rho e.E K1) v3 ≤ 1 * (G2 * (1 * 1)) * lam ^ 3 * Z := uO s2 one u2
  have u4 : qW (rho e.E K1) v4 ≤ G1 * (1 * (G2 * (1 * 1))) * lam ^ 4 * Z := uO s3 n1 u3
  have u5 : qW (rho e.E e.K0) v5 ≤ 1 * (G1 * (1 * (G2 * (1 * 1)))) * lam ^ 5 * Z := uO s4 one u4
  have d10 : qW (rho e.E K1) v10 ≤ 1 * 1 * lam ^ 1 * Z := IZ s10 one d11
  have d9 : qW (rho e.E K1) v9 ≤ G1 * (1 * 1) * lam ^ 2 * Z := IZ s9 n1 d10
  have d8 : qW (rho e.E K2) v8 ≤ 1 * (G1 * (1 * 1)) * lam ^ 3 * Z := IZ s8 one d9
  have d7 : qW (rho e.E K2) v7 ≤ G2 * (1 * (G1 * (1 * 1))) * lam ^ 4 * Z := IZ s7 n2 d8
  have d6 : qW (rho e.E e.K0) v6 ≤ 1 * (G2 * (1 * (G1 * (1 * 1)))) * lam ^ 5 * Z := IZ s6 one d7
  have t0 : qW (rho e.E e.K0) lW ≤ 1 * (1003 / 1000) * Z := lV u0 (by decide) (by grind) (by grind) Z0
  have t1 : qW (rho e.E K2) v1 ≤ 1 * (1003 / 1000) * Z := lV u1 (by decide) (by grind) (by grind) Z0
  have t2 : qW (rho e.E K2) v2 ≤ G2 * (1003 / 1000) * Z := lV u2 (by decide) (by grind) (by grind) Z0
  have t3 : qW (rho e.E K1) v3 ≤ G2 * (1003 / 1000) * Z := lV u3 (by decide) (by grind) (by grind) Z0
  have t4 : qW (rho e.E K1) v4 ≤ (G1 * G2) * (1003 / 1000) * Z := lV u4 (by decide) (by grind) (by grind) Z0
  have t5 : qW (rho e.E e.K0) v5 ≤ (G1 * G2) * (1003 / 1000) * Z := lV u5 (by decide) (by grind) (by grind) Z0
  have t6 : qW (rho e.E e.K0) v6 ≤ (G1 * G2) * (1003 / 1000) * Z := lV d6 (by decide) (by grind) (by grind) Z0
  have t7 : qW (rho e.E K2) v7 ≤ (G1 * G2) * (1003 / 1000) * Z := lV d7 (by decide) (by grind) (by grind) Z0
  have t8 : qW (rho e.E K2) v8 ≤ G1 * (1003 / 1000) * Z := lV d8 (by decide) (by grind) (by grind) Z0
  have t9 : qW (rho e.E K1) v9 ≤ G1 * (1003 / 1000) * Z := lV d9 (by decide) (by grind) (by grind) Z0
  have t10 : qW (rho e.E K1) v10 ≤ 1 * (1003 / 1000) * Z := lV d10 (by decide) (by grind) (by grind) Z0
  have t11 : qW (rho e.E e.K0) v11 ≤ 1 * (1003 / 1000) * Z := lV d11 (by decide) (by grind) (by grind) Z0
  have U0 := he.U0
  have zCO := aF he.CO0 U0
  have zCP := aF he.CP0 U0
  have zCC := aF he.CC0 U0
  have zCD := aF he.CD0 U0
  have zco := aF he.co0 U0
  have zz : (0 : Rat) ≤ 0 := Rat.le_refl
  have a0 : Acc (e.K0 * qFx O.t lW) 0 0 (e.K0 * qFx O.t lW) := .nil
  have a1 := a0.of s0 t0 t1 Wn0 Wn1 h2.c0 zz zCO zz
  have a2 := a1.of s1 t1 t2 Wn1 Wn2 h2.cc h2.cd zCC zCD
  have a3 := a2.of s2 t2 t3 Wn2 Wn3 hx zz zCP zz
  have a4 := a3.of s3 t3 t4 Wn3 Wn4 h1.cc h1.cd zCC zCD
  have a5 := a4.of s4 t4 t5 Wn4 Wn5 h1.c1 zz zCO zz
  have a6 := a5.of s5 t5 t6 Wn5 Wn6 hg.cc (show _ ≤ (0 : Rat) by unfold pcD; rw [tO]; exact Rat.le_refl) zco zz
  have a7 := a6.of s6 t6 t7 Wn6 Wn7 h2.c0 zz zCO zz
  have a8 := a7.of s7 t7 t8 Wn7 Wn8 h2.cc h2.cd zCC zCD
  have a9 := a8.of s8 t8 t9 Wn8 Wn9 hx zz zCP zz
  have a10 := a9.of s9 t9 t10 Wn9 Wn10 h1.cc h1.cd zCC zCD
  have a11 := a10.of s10 t10 t11 Wn10 Wn11 h1.c1 zz zCO zz
  have hb := a11.bound.2
  rw [tO] at hb
  have j0 : e.K0 * qFx true lW = e.K0 := by show e.K0 * qR lW = e.K0; rw [ax1]; grind
  rw [j0, bP (Rat.le_of_lt pK0)] at hb
  refine Rat.le_trans hb ?_
  have fg := ahV 11
  clear hb a0 a1 a2 a3 a4 a5 a6 a7 a8 a9 a10 a11 s0 s1 s2 s3 s4 s5 s6 s7 s8 s9 s10 t0 t1 t2 t3 t4 t5 t6 t7 t8 t9 t10 t11 w0 w1 w2 w3 w4 w5 w6 w7 w8 w9 w10 w11 f0 f1 f2 f3 f4 f5 f6 f7 f8 f9 f10 f11 ok0 ok1 ok2 ok3 ok4 ok5 ok6 ok7 ok8 ok9 ok10 q1 q2 q3 q4 q5 q6 q7 q8 q9 q10 q11 wf
  refine Rat.add_le_add_left.2 (Rat.mul_le_mul_of_nonneg_left ?_ (by grind))
  have uz := aF U0 Z0
  generalize e.U = U at *
  generalize e.CO = CO at *
  generalize e.CP = CP at *
  generalize e.CC = CC at *
  generalize e.CD = CD at *
  generalize e.co = co at *
  grind
def pwN (a b : Nat) : Nat := nrw (pwD a b)
def thW (k : Nat) (w : W4) : Nat := fop .quo .f32 (fop .quo .f32 k k) (pwN w.ar w.ai)
def bkW (w : W4) : Nat := fop .quo .f32 (pwN w.br w.bi) (pwN w.ar w.ai)
def sqA (v : Q4) : Rat := v.ar * v.ar + v.ai * v.ai
def sqB (v : Q4) : Rat := v.br * v.br + v.bi * v.bi
theorem ZC (v : Q4) : 0 ≤ sqA v := by have := iK v.ar; have := iK v.ai; unfold sqA; grind
theorem O5 (v : Q4) : 0 ≤ sqB v := by have := iK v.br; have := iK v.bi; unfold sqB; grind
theorem ax3 (v : Q4) : qN v = sqA v + sqB v := by unfold qN sqA sqB; grind
theorem aHC (v : Q4) : qR v = sqA v - sqB v := by unfold qR sqA sqB; grind
theorem a1Q {E R : Rat} (h : R64 E R) (hE : 0 ≤ E) : 0 ≤ R := by
  have h1 := h.lo false 0 0 (by decide) (by decide) (by rw [RX]; exact hE)
  rw [RX] at h1
  exact h1
theorem ax4 {a b : Nat} {A B : Rat} (ha : V32 a A) (hb : V32 b B) (h : A * A + B * B ≤ tw 40) :
    fF .f64 (pwD a b) .f32 = some (pwN a b) ∧ ∃ P, V32 (pwN a b) P ∧ 0 ≤ P ∧ aH (P - (A * A + B * B)) * 2 ^ 24 * 1000 ≤ (A * A + B * B) * 1001 + 3000 * tiny := by
  have hA := iK A
  have hB := iK B
  have e1 : aH (A * A) = A * A := bP hA
  have e2 : aH (B * B) = B * B := bP hB
  have e3 : aH (A * A + B * B) = A * A + B * B := bP (by grind)
  have h250 : tw 40 ≤ tw 250 := oJ (by decide)
  have m1 := uS ha ha (by rw [e1]; grind)
  have m2 := uS hb hb (by rw [e2]; grind)
  obtain ⟨D, d1, d2⟩ := aOO m1 m2 (zU (k := 40) (by rw [e3]; exact h) (by decide))
  have d3 := aj1 d2
  have hD : aH D ≤ tw 120 := by
    have q := iL (D - (A * A + B * B)) (A * A + B * B)
    rw [show D - (A * A + B * B) + (A * A + B * B) = D by grind] at q
    have h41 : tw 40 * 2 + tiny ≤ tw 120 := by decide +kernel
    rw [e3] at d3 q
    have := qL
    grind
  obtain ⟨n1, P, n2, n3⟩ := JM d1 hD
  have t := asI d3 (O4 n3)
  rw [e3] at t
  exact ⟨n1, P, n2, aVG n3 (a1Q d2 (by grind)), t⟩
structure ShV (k : Nat) (w : W4) (v : Q4) (T R P Q : Rat) : Prop where
  ok : fF .f64 (pwD w.ar w.ai) .f32 = some (pwN w.ar w.ai) ∧ fF .f64 (pwD w.br w.bi) .f32 = some (pwN w.br w.bi)
  p : V32 (pwN w.ar w.ai) P
  q : V32 (pwN w.br w.bi) Q
  t : V32 (thW k w) T
  r : V32 (bkW w) R
  t0 : 0 < T
  r0 : 0 ≤ R
  pe : aH (P - sqA v) * 2 ^ 23 ≤ sqA v
  qe : aH (Q - sqB v) * 2 ^ 23 ≤ sqB v + tw (-60)
  te : aH (T * sqA v - 1) * 2 ^ 21 ≤ 1
  re : aH (R * sqA v - sqB v) * 2 ^ 20 ≤ sqB v + tw (-60)
theorem shares {k : Nat} {K : Rat} {w : W4} {v : Q4} (hk : V32 k K) (hK : 0 < K) (hw : Has w v) (hv : uU v) (hA : 1 / 2 ≤ sqA v) : ∃ T R P Q, ShV k w v T R P Q := by
  have hB0 := O5 v
  have h40 := hv.hi
  rw [ax3] at h40
  have t60 : tiny * 2 ^ 60 ≤ tw (-60) := by decide +kernel
  have p60 := gV (-60)
  have tp := qL
  have t1 : tiny * 2 ^ 30 ≤ 1 := by decide +kernel
  have hA0 := ZC v
  have hA40 : sqA v ≤ tw 40 := by grind
  have hB40 : sqB v ≤ tw 40 := by grind
  obtain ⟨p1, P, p2, p3, p4⟩ := ax4 hw.ar hw.ai hA40
  obtain ⟨q1, Q, q2, q3, q4⟩ := ax4 hw.br hw.bi hB40
  have eA : v.ar * v.ar + v.ai * v.ai = sqA v := rfl
  have eB : v.br * v.br + v.bi * v.bi = sqB v := rfl
  rw [eA] at p4
  rw [eB] at q4
  generalize hAe : sqA v = A at *
  generalize hBe : sqB v = B at *
  have pe : aH (P - A) * 2 ^ 23 ≤ A := by grind
  have qe : aH (Q - B) * 2 ^ 23 ≤ B + tw (-60) := by grind
  have pe1 : aH (P - A) ≤ A * (1 / 2 ^ 23) := by grind
  rw [fA] at pe1
  have hP : 0 < P := by grind
  have hPne : P ≠ 0 := by grind
  obtain ⟨x, hx, x1, x2⟩ : ∃ x, A = P * x ∧ 1 - 1 / 2 ^ 22 ≤ x ∧ x ≤ 1 + 1 / 2 ^ 22 := by
    refine ⟨A / P, by grind, ?_, ?_⟩
    · refine fJ (c := P) ?_ hP
      rw [show A / P * P = A by grind]
      grind
    · refine fJ (c := P) ?_ hP
      rw [show A / P * P = A by grind]
      grind
  have e40 : tw 40 = 2 ^ 40 := by decide +kernel
  rw [e40] at hA40 hB40
  clear h40 hv hw
  have hP41 : P ≤ 2 ^ 41 := by clear x1 x2 hx; grind
  have hKK : K / K = 1 := by grind
  obtain ⟨o, o1, o2⟩ := fdiv hk hk (by grind) (oV (k := 5) (by rw [hKK]; decide +kernel) (by decide))
  rw [hKK] at o2
  have ho := BB o2 uN
  subst ho
  have hi0 : 0 < 1 / P := tV (by decide +kernel) hP
  have hiP : 1 / P * P = 1 := by grind
  have hi1 : 1 / P ≤ 4 := fJ (c := P) (by rw [hiP]; grind) hP
  have hi2 : 1 / 2 ^ 41 ≤ 1 / P := fJ (c := P) (by
    rw [hiP]
    have := aF (show (0 : Rat) ≤ 1 / 2 ^ 41 by decide +kernel) (show 0 ≤ 2 ^ 41 - P by grind)
    have e : (1 / 2 ^ 41 : Rat) * 2 ^ 41 = 1 := by decide +kernel
    rw [show 1 / 2 ^ 41 * (2 ^ 41 - P) = (1 / 2 ^ 41 : Rat) * 2 ^ 41 - 1 / 2 ^ 41 * P by grind, e] at this
    generalize 1 / 2 ^ 41 * P = y at *
    grind) hP
  have hia : aH (1 / P) = 1 / P := bP (Rat.le_of_lt hi0)
  have e5 : (4 : Rat) ≤ tw 5 := by decide +kernel
  have e41 : tw (-41) = 1 / 2 ^ 41 := by decide +kernel
  obtain ⟨T, T1, T2⟩ := fdiv o1 p2 hPne (oV (k := 5) (by rw [hia]; grind) (by decide))
  obtain ⟨e, T3, T4⟩ := aUC T2 (k := -41) (by decide) (by rw [hia, e41]; exact hi2)
  have T5 : aH e ≤ 1 / 2 ^ 23 := by grind
  rw [fA] at T5
  have hTA : T * A = (1 + e) * x := by rw [T3, hx]; grind
  have hT0 : 0 < T := by rw [T3]; exact Rat.mul_pos hi0 (by grind)
  have i1 := aF (show 0 ≤ 1 / 2 ^ 23 - e by grind) (show 0 ≤ 1 + 1 / 2 ^ 22 - x by grind)
  have i2 := aF (show 0 ≤ 1 / 2 ^ 23 + e by grind) (show 0 ≤ 1 + 1 / 2 ^ 22 - x by grind)
  have i3 := aF (show 0 ≤ 1 / 2 ^ 23 - e by grind) (show 0 ≤ x - (1 - 1 / 2 ^ 22) by grind)
  have i4 := aF (show 0 ≤ 1 / 2 ^ 23 + e by grind) (show 0 ≤ x - (1 - 1 / 2 ^ 22) by grind)
  have hte : aH (T * A - 1) ≤ 1 / 2 ^ 21 := by
    rw [hTA, fA]
    constructor <;> grind
  have hQ0 : 0 ≤ 1 / P * Q := aF (Rat.le_of_lt hi0) q3
  have hQP : Q / P = 1 / P * Q := by grind
  have hqa : aH (Q / P) = 1 / P * Q := by rw [hQP]; exact bP hQ0
  have qe1 : aH (Q - B) ≤ (B + tw (-60)) * (1 / 2 ^ 23) := by grind
  have qe2 := qe1
  rw [fA] at qe2
  have hQ41 : Q ≤ 2 ^ 41 := by
    have h1 : tw (-60) ≤ 1 := by decide +kernel
    have h2 := qe2.2
    generalize tw (-60) = y at *
    clear qe2 qe1 i1 i2 i3 i4 hte pe1 x1 x2 hx
    grind
  have hq44 : 1 / P * Q ≤ tw 44 := by
    have := aF q3 (show 0 ≤ 4 - 1 / P by grind)
    have e : tw 44 = 2 ^ 44 := by decide +kernel
    rw [e]
    grind
  obtain ⟨R, R1, R2⟩ := fdiv q2 p2 hPne (oV (k := 44) (by rw [hqa]; exact hq44) (by decide))
  have R3 := O4 R2
  rw [hqa, hQP] at R3
  have hRn : 0 ≤ R := aVG R2 (by rw [hQP]; exact hQ0)
  have hRA : aH (R * A - Q * x) * 2 ^ 24 ≤ Q * x + tiny * A := by
    have e1 : R * A - Q * x = (R - 1 / P * Q) * A := by
      have : 1 / P * Q * A = Q * x := by rw [hx]; grind
      grind
    have e2 : Q * x = 1 / P * Q * A := by rw [hx]; grind
    rw [e1, fM, bP hA0]
    rw [e2]
    have := Rat.mul_le_mul_of_nonneg_right R3 hA0
    grind
  have hxq : aH (Q * x - B) ≤ (B + tw (-60)) * (1 / 2 ^ 22) * (1001 / 1000) + B * (1 / 2 ^ 22) := by
    have j1 := aF q3 (show 0 ≤ x - (1 - 1 / 2 ^ 22) by grind)
    have j2 := aF q3 (show 0 ≤ 1 + 1 / 2 ^ 22 - x by grind)
    rw [fA]
    clear i1 i2 i3 i4 hRA R3 hte
    constructor <;> grind
  have htA : tiny * A * 2 ^ 18 ≤ tw (-60) := by
    have h1 := aF (Rat.le_of_lt tp) (show 0 ≤ 2 ^ 40 - A by clear i1 i2 i3 i4 hte hxq hRA; grind)
    clear i1 i2 i3 i4 hte hxq hRA qe2 qe1 pe1 x1 x2 hx
    generalize tw (-60) = y at *
    grind
  have hre : aH (R * A - B) * 2 ^ 20 ≤ B + tw (-60) := by
    have hs := iL (R * A - Q * x) (Q * x - B)
    rw [show R * A - Q * x + (Q * x - B) = R * A - B by grind] at hs
    have hxq2 := hxq
    rw [fA] at hxq2
    generalize aH (R * A - B) = X1 at *
    generalize aH (R * A - Q * x) = X2 at *
    generalize aH (Q * x - B) = X3 at *
    generalize Q * x = X4 at *
    generalize tiny * A = X5 at *
    generalize tw (-60) = y at *
    clear i1 i2 i3 i4 R3 hte qe2 qe1 pe1 x1 x2 hx pe qe p4 q4 hTA T3 hq44 t60
    grind
  have hte2 : aH (T * A - 1) * 2 ^ 21 ≤ 1 := by
    generalize aH (T * A - 1) = X1 at *
    clear i1 i2 i3 i4 hxq hRA qe2 qe1 pe1 x1 x2 hx R3 T3
    grind
  subst hAe hBe
  exact ⟨T, R, P, Q, ⟨p1, q1⟩, p2, q2, T1, R1, hT0, hRn, pe, qe, hte2, hre⟩
theorem aVN {K ρ e1 e2 Y η : Rat} {v : Q4} (hK : 0 < K) (hρ : 0 ≤ ρ ∧ ρ ≤ 1 + 1 / 2 ^ 18) (h : aH (K * qR v - K) ≤ e1 * K + e2 * K * (qW ρ v + qW ρ lW)) (h1 : 0 ≤ e1) (h2 : 0 ≤ e2) (hY : e2 * (1 + 1 / 2 ^ 18) = Y) (hη : e1 + 4 * Y ≤ η * (1 - e1 - 2 * Y)) (hp : 0 < 1 - e1 - 2 * Y) (h0 : 0 ≤ η) (hη1 : η ≤ 1 / 2) :
    aH (qR v - 1) ≤ η * sqA v ∧ 2 / 3 ≤ sqA v ∧ sqB v ≤ 2 * sqA v := by
  have a0 := ZC v
  have b0 := O5 v
  have w1 := aOP (ρ := ρ) (m := 1 + 1 / 2 ^ 18) v (by decide +kernel) hρ.2
  rw [ax3] at w1
  rw [aHA] at h
  rw [aHC] at h ⊢
  rw [show K * (sqA v - sqB v) - K = K * (sqA v - sqB v - 1) by grind, fM, bP (Rat.le_of_lt hK)] at h
  have h3 : aH (sqA v - sqB v - 1) ≤ e1 + e2 * (qW ρ v + (1 + ρ)) := by
    refine fJ (c := K) ?_ hK
    grind
  generalize hA : sqA v = A at *
  generalize hB : sqB v = B at *
  have hD0 := iW (A - B - 1)
  have hD := fA.1 (Rat.le_refl (a := aH (A - B - 1)))
  generalize aH (A - B - 1) = d at *
  have w2 : qW ρ v + (1 + ρ) ≤ (1 + 1 / 2 ^ 18) * (4 * A + 2 * d) := by
    have : 2 * (A + B) + 2 ≤ 4 * A + 2 * d := by grind
    have := aF (show (0 : Rat) ≤ 1 + 1 / 2 ^ 18 by decide +kernel) (show 0 ≤ 4 * A + 2 * d - (2 * (A + B) + 2) by grind)
    grind
  have w3 := Rat.mul_le_mul_of_nonneg_left w2 h2
  have w4 : e2 * ((1 + 1 / 2 ^ 18) * (4 * A + 2 * d)) = Y * (4 * A + 2 * d) := by rw [← hY]; grind
  rw [w4] at w3
  have w5 := aF h1 (show 0 ≤ A + d - 1 by grind)
  have w6 := aF a0 (show 0 ≤ η * (1 - e1 - 2 * Y) - (e1 + 4 * Y) by grind)
  have h4 : d ≤ η * A := by
    refine fJ (c := 1 - e1 - 2 * Y) ?_ hp
    generalize e2 * (qW ρ v + (1 + ρ)) = x at *
    clear w1 w2 hY w4 h
    grind
  have w7 := aF a0 (show 0 ≤ 1 / 2 - η by grind)
  exact ⟨h4, by grind, by grind⟩
theorem acQ {k : Nat} {w : W4} {v : Q4} {T R P Q η : Rat} (s : ShV k w v T R P Q) (hD : aH (qR v - 1) ≤ η * sqA v) (hA : 2 / 3 ≤ sqA v) (hB : sqB v ≤ 2 * sqA v) (hη : η ≤ 1 / 2) :
    aH (T + R - 1) ≤ η + 1 / 2 ^ 17 ∧ ∃ S, V32 (fop .add .f32 (thW k w) (bkW w)) S ∧ aH (S - 1) ≤ η + 1 / 2 ^ 16 := by
  have h1 := s.te
  have h2 := s.re
  have t60 : tw (-60) ≤ 1 / 2 := by decide +kernel
  have b0 := O5 v
  rw [aHC] at hD
  have hv1 := s.t
  have hv2 := s.r
  generalize sqA v = A at *
  generalize sqB v = B at *
  have hA0 : 0 < A := by grind
  have h3 : aH (T + R - 1) ≤ η + 1 / 2 ^ 17 := by
    have e1 : aH (T * A - 1) ≤ A * (1 / 2 ^ 20) := by
      generalize aH (T * A - 1) = x at *
      grind
    have e2 : aH (R * A - B) ≤ A * (1 / 2 ^ 18) := by
      generalize aH (R * A - B) = x at *
      grind
    have e3 : aH ((T + R - 1) * A) ≤ (η + 1 / 2 ^ 17) * A := by
      rw [fA] at hD e1 e2 ⊢
      have : (T + R - 1) * A = (T * A - 1) + (R * A - B) - (A - B - 1) := by grind
      rw [this]
      generalize T * A - 1 = x at *
      generalize R * A - B = y at *
      constructor <;> grind
    rw [fM, bP (Rat.le_of_lt hA0)] at e3
    exact fJ e3 hA0
  have h4 := h3
  rw [fA] at h4
  have h5 : aH (T + R) ≤ 2 := by rw [fA]; constructor <;> grind
  obtain ⟨S, s1, s2⟩ := ad9 hv1 hv2 (oV (k := 5) (Rat.le_trans h5 (by decide +kernel)) (by decide))
  have s3 := O4 s2
  have t1 : tiny ≤ 1 := by decide +kernel
  have h6 := iL (S - (T + R)) (T + R - 1)
  rw [show S - (T + R) + (T + R - 1) = S - 1 by grind] at h6
  refine ⟨h3, S, s1, ?_⟩
  have h7 : aH (S - (T + R)) ≤ 1 / 2 ^ 20 := by
    generalize aH (S - (T + R)) = x at *
    grind
  generalize aH (S - 1) = x at *
  generalize aH (S - (T + R)) = y at *
  generalize aH (T + R - 1) = z at *
  grind
theorem aHD {k : Nat} {w : W4} {v : Q4} {T R P Q : Rat} (s : ShV k w v T R P Q) (hA : 2 / 3 ≤ sqA v) (hA1 : sqA v ≤ tw 40) (hB : sqB v ≤ 2 * sqA v) :
    ∃ X, V32 (fop .mul .f32 (bkW w) (pwN w.ar w.ai)) X ∧ aH (Q - X) ≤ (1 + P) * (1 / 2 ^ 16) := by
  have h1 := s.re
  have h2 := s.pe
  have h3 := s.qe
  have r0 := s.r0
  have t60 : tw (-60) ≤ 1 / 2 := by decide +kernel
  have b0 := O5 v
  have hv1 := s.r
  have hv2 := s.p
  have e40 : tw 40 = 2 ^ 40 := by decide +kernel
  have e50 : tw 50 = 2 ^ 50 := by decide +kernel
  rw [e40] at hA1
  generalize sqA v = A at *
  generalize sqB v = B at *
  have hP : aH (P - A) ≤ A * (1 / 2 ^ 23) := by
    generalize aH (P - A) = x at *
    grind
  have hR : aH (R * A - B) ≤ A * (1 / 2 ^ 18) := by
    generalize aH (R * A - B) = x at *
    grind
  have hQ : aH (Q - B) ≤ A * (1 / 2 ^ 21) := by
    generalize aH (Q - B) = x at *
    grind
  have hR2 : R ≤ 3 := by
    refine fJ (c := A) ?_ (by grind)
    rw [fA] at hR
    generalize R * A = x at *
    grind
  have hP2 := hP
  rw [fA] at hP2
  have hRP : aH (R * P - R * A) ≤ A * (3 / 2 ^ 23) := by
    rw [show R * P - R * A = R * (P - A) by grind, fM, bP r0]
    have i1 := aF r0 (show 0 ≤ A * (1 / 2 ^ 23) - aH (P - A) by grind)
    have i2 := aF (show 0 ≤ A * (1 / 2 ^ 23) by grind) (show 0 ≤ 3 - R by grind)
    generalize aH (P - A) = x at *
    grind
  have hRn : 0 ≤ R * P := aF r0 (by grind)
  have hRa : aH (R * P) = R * P := bP hRn
  have hle : R * P ≤ 4 * A := by
    rw [fA] at hRP hR
    generalize R * A = x at *
    generalize R * P = y at *
    grind
  obtain ⟨X, x1, x2⟩ := aVF hv1 hv2 (oV (k := 50) (by rw [hRa, e50]; grind) (by decide))
  have x3 := O4 x2
  rw [hRa] at x3
  refine ⟨X, x1, ?_⟩
  have t1 : tiny ≤ 1 := by decide +kernel
  have x4 : aH (X - R * P) ≤ A * (1 / 2 ^ 20) := by
    generalize aH (X - R * P) = x at *
    generalize R * P = y at *
    grind
  rw [fA] at x4 hRP hR hQ ⊢
  generalize R * A = x at *
  generalize R * P = y at *
  constructor <;> grind
def SB (v u : Q4) : Rat := v.ar * u.ar - v.ai * u.ai - (v.br * u.br - v.bi * u.bi)
def SC (v u : Q4) : Rat := v.ar * u.ai + v.ai * u.ar - (v.br * u.bi + v.bi * u.br)
def aeF (α β : Rat) (t : Bool) (x y : Rat) : Rat := if t then α * x + β * y else β * x - α * y
def pX (α β : Rat) (t : Bool) (v u : Q4) : Rat := aeF α β t (SB v u) (SC v u)
def asO (v u : Q4) : Rat := (v.ar + v.br) * (u.ar - u.br) - (v.ai + v.bi) * (u.ai - u.bi)
def asP (v u : Q4) : Rat := (v.ar + v.br) * (u.ai - u.bi) + (v.ai + v.bi) * (u.ar - u.br)
def pS (α β : Rat) (t : Bool) (v u : Q4) : Rat := aeF α β t (asO v u) (asP v u)
theorem ax5 {α β : Rat} (h : α * α + β * β ≤ 1) (t : Bool) (x y : Rat) : aeF α β t x y * aeF α β t x y ≤ x * x + y * y := by
  have h1 := aF (show 0 ≤ 1 - (α * α + β * β) by grind) (show 0 ≤ x * x + y * y by have := iK x; have := iK y; grind)
  cases t
  · have h2 := iK (α * x + β * y)
    unfold aeF
    rw [if_neg (by decide)]
    grind
  · have h2 := iK (α * y - β * x)
    unfold aeF
    rw [if_pos rfl]
    grind
theorem aVO (v u : Q4) : SB v u * SB v u + SC v u * SC v u ≤ qN v * qN u := by
  obtain ⟨a, b, c, d⟩ := v
  obtain ⟨p, q, r, s⟩ := u
  have h1 := iK (a * r + b * s + p * c + q * d)
  have h2 := iK (b * r - a * s + p * d - q * c)
  unfold SB SC qN
  dsimp only
  grind
theorem aVP (v u : Q4) : asO v u * asO v u + asP v u * asP v u = qS v * qD u := by
  unfold asO asP qS qD
  grind
theorem ahX {x y : Rat} (h : x * x ≤ y * y) (hy : 0 ≤ y) : aH x ≤ y := by
  have h0 := iW x
  have h1 := BA x
  refine Rat.not_lt.1 fun hl => ?_
  have := Rat.mul_pos (show 0 < aH x - y by grind) (show 0 < aH x + y by grind)
  grind
theorem aoO (v u : Q4) : SB v u = SB u v ∧ SC v u = SC u v := by unfold SB SC; constructor <;> grind
theorem acR (α β : Rat) (t : Bool) (v u : Q4) : pX α β t v u = pX α β t u v := by unfold pX; rw [(aoO v u).1, (aoO v u).2]
theorem aj9 (α β : Rat) (t : Bool) (v f u : Q4) : pX α β t (v.add f) u = pX α β t v u + pX α β t f u := by
  unfold pX aeF SB SC Q4.add
  dsimp only
  cases t
  · rw [if_neg (by decide), if_neg (by decide), if_neg (by decide)]; grind
  · rw [if_pos rfl, if_pos rfl, if_pos rfl]; grind
theorem MQ {α β τ n1 n2 W1 W2 B : Rat} {t : Bool} {f v u : Q4} (hd : α * α + β * β ≤ 1) (hf : qN f ≤ τ * τ * qN v) (h1 : qN v ≤ n1 * W1) (h2 : qN u ≤ n2 * W2) (hB : W1 * W2 ≤ B * B) (hτ : 0 ≤ τ) (p1 : 0 ≤ n1) (p2 : 0 ≤ n2) (hW1 : 0 ≤ W1) (hW2 : 0 ≤ W2) (hB0 : 0 ≤ B) : aH (pX α β t f u) ≤ τ * ((n1 + n2) / 2) * B := by
  refine ahX (Rat.le_trans (ax5 hd t _ _) (Rat.le_trans (aVO f u) ?_)) (aF (aF hτ (by grind)) hB0)
  have u0 := zV u
  have v0 := zV v
  have hτ2 := aF hτ hτ
  have i1 := aF u0 (show 0 ≤ τ * τ * qN v - qN f by grind)
  have i2 : qN v * qN u ≤ n1 * n2 * (B * B) := by
    have j1 := aF u0 (show 0 ≤ n1 * W1 - qN v by grind)
    have j2 := aF (aF p1 hW1) (show 0 ≤ n2 * W2 - qN u by grind)
    have j3 := aF (aF p1 p2) (show 0 ≤ B * B - W1 * W2 by grind)
    clear i1 hf h1 h2
    grind
  have i3 : n1 * n2 ≤ (n1 + n2) / 2 * ((n1 + n2) / 2) := by
    have := iK (n1 - n2)
    have e : (n1 + n2) / 2 * ((n1 + n2) / 2) = (n1 + n2) * (n1 + n2) * (1 / 4) := by grind
    rw [e]
    grind
  have i4 := aF (aF hB0 hB0) (show 0 ≤ (n1 + n2) / 2 * ((n1 + n2) / 2) - n1 * n2 by grind)
  have i5 := aF hτ2 (show 0 ≤ n1 * n2 * (B * B) - qN v * qN u by grind)
  have i6 := aF hτ2 i4
  generalize (n1 + n2) / 2 = n at *
  clear h1 h2 hB i2 i3 i4
  grind
theorem ahY {α β E κ K ρ ρ' B : Rat} {t : Bool} {v u : Q4} (hd : α * α + β * β ≤ 1) (hE : 0 ≤ E) (hκ0 : 0 ≤ κ) (hκ : E ≤ κ * κ) (hK : K * K = E * ρ') (hρ : 0 ≤ ρ) (hρ' : 0 ≤ ρ') (hB0 : 0 ≤ B) (hB : qW ρ v * qW ρ' u ≤ B * B) : aH (K * pS α β t v u) ≤ κ * B := by
  refine ahX ?_ (aF hκ0 hB0)
  have h1 := ax5 hd t (asO v u) (asP v u)
  rw [aVP] at h1
  have s1 := aaK v
  have s2 := aaL v
  have s3 := aaK u
  have s4 := aaL u
  have e : K * pS α β t v u * (K * pS α β t v u) = E * ρ' * (pS α β t v u * pS α β t v u) := by rw [← hK]; grind
  rw [e]
  have h2 : pS α β t v u * pS α β t v u ≤ qS v * qD u := h1
  generalize pS α β t v u * pS α β t v u = X at *
  unfold qW at hB
  have r1 := aF hρ s2
  have r2 := aF hρ' s4
  have i1 := aF (aF hE hρ') (show 0 ≤ qS v * qD u - X by grind)
  have i2 : qS v * (ρ' * qD u) ≤ B * B := by
    have j1 := aF s1 s3
    have j2 := aF r1 s3
    have j3 := aF r1 r2
    clear i1 h1 h2
    grind
  have i3 := aF hE (show 0 ≤ B * B - qS v * (ρ' * qD u) by grind)
  have i4 := aF (aF hB0 hB0) (show 0 ≤ κ * κ - E by grind)
  clear hB h1 h2 r1 r2 hK e i2
  grind
theorem aA1 (α β : Rat) (t : Bool) (KR KL M N M' N' : Rat) (v u : Q4) : KL * pX α β t (xR M N v) u - KR * pX α β t v (xR M' N' u) = 1 / 2 * ((KL * ((M + N) / 2) - KR * ((M' - N') / 2)) * pS α β t v u + (KL * ((M - N) / 2) - KR * ((M' + N') / 2)) * pS α β t u v) := by
  unfold pX pS aeF SB SC asO asP xR
  dsimp only
  cases t
  · repeat rw [if_neg (by decide)]
    grind
  · repeat rw [if_pos rfl]
    grind
theorem aA2 (α β : Rat) (t : Bool) (KR KL y y' : Rat) (v u : Q4) : KL * pX α β t (xI y v) u - KR * pX α β (!t) v (xI y' u) = 1 / 2 * ((KL + (if t then 1 else -1) * KR * y') * pS α β t v u + ((if t then 1 else -1) * KL * y - KR) * pS α β (!t) u v) := by
  unfold pX pS aeF SB SC asO asP xI
  dsimp only
  cases t
  · simp only [Bool.not_false, Bool.false_eq_true, if_false, if_true]
    grind
  · simp only [Bool.not_true, Bool.false_eq_true, if_false, if_true]
    grind
theorem aA3 (α β : Rat) (t : Bool) (c s c' s' : Rat) (v u : Q4) : pX α β t (xP c s c' s' v) u = pX α β t v (xP c s c' s' u) := by
  unfold pX SB SC xP
  dsimp only
  congr 1 <;> grind
theorem aA4 (α β : Rat) (t : Bool) (g d : Rat) (v u : Q4) : pX α β t (xE g d v) u = pX α β t v (xE g d u) := by
  unfold pX SB SC xE
  dsimp only
  congr 1 <;> grind
theorem aYW {u u' e e' Q Q' M N M' N' : Rat} (hu : 0 < u) (hu9 : u ≤ 9) (huu : u * u' = 1) (hu' : 0 < u') (hQ : Q = u * (1 + e)) (he : aH e * 2 ^ 22 ≤ 1) (hQ' : Q' = u' * (1 + e')) (he' : aH e' * 2 ^ 22 ≤ 1) (hM : aH (M - (1 + Q)) * 2 ^ 24 ≤ aH (1 + Q) + tiny) (hN : aH (N - (1 - Q)) * 2 ^ 24 ≤ aH (1 - Q) + tiny) (hM' : aH (M' - (1 + Q')) * 2 ^ 24 ≤ aH (1 + Q') + tiny) (hN' : aH (N' - (1 - Q')) * 2 ^ 24 ≤ aH (1 - Q') + tiny) :
    aH ((M + N) / 2 - u * ((M' - N') / 2)) * 2 ^ 24 ≤ (2 * mx u + 4) * (1 + 1 / 2 ^ 12) := by
  have t1 : tiny * 2 ^ 100 ≤ 1 := by decide +kernel
  have tp := qL
  have he1 : aH e ≤ 1 / 2 ^ 22 := by grind
  have he2 : aH e' ≤ 1 / 2 ^ 22 := by grind
  have he3 := he1
  have he4 := he2
  rw [fA] at he3 he4
  obtain ⟨m1, m2⟩ := qE u
  have q1 : 0 < Q ∧ Q ≤ mx u * (1 + 1 / 2 ^ 22) := by
    have i1 := aF (Rat.le_of_lt hu) (show 0 ≤ 1 / 2 ^ 22 - e by grind)
    have i2 := aF (Rat.le_of_lt hu) (show 0 ≤ 1 / 2 ^ 22 + e by grind)
    constructor <;> grind
  have hQu : u * Q' = 1 + e' := by rw [hQ']; grind
  have q2 : 0 < Q' := by
    have i1 := aF (Rat.le_of_lt hu') (show 0 ≤ 1 / 2 ^ 22 + e' by grind)
    grind
  have sum1 : aH (1 + Q) + aH (1 - Q) ≤ 2 * (mx u * (1 + 1 / 2 ^ 22)) := by
    rw [bP (show 0 ≤ 1 + Q by grind)]
    have : aH (1 - Q) ≤ 2 * (mx u * (1 + 1 / 2 ^ 22)) - (1 + Q) := by rw [fA]; constructor <;> grind
    grind
  have sum2 : u * (aH (1 + Q') + aH (1 - Q')) ≤ 2 * (mx u * (1 + 1 / 2 ^ 22)) := by
    rw [bP (show 0 ≤ 1 + Q' by grind)]
    have e1 : u * aH (1 - Q') = aH (u - u * Q') := by
      rw [show u - u * Q' = u * (1 - Q') by grind, fM, bP (Rat.le_of_lt hu)]
    have : aH (u - u * Q') ≤ 2 * (mx u * (1 + 1 / 2 ^ 22)) - (u + u * Q') := by rw [hQu, fA]; constructor <;> grind
    grind
  have e1 : (M + N) / 2 - u * ((M' - N') / 2) = ((M - (1 + Q)) + (N - (1 - Q))) * (1 / 2) - u * ((M' - (1 + Q')) - (N' - (1 - Q'))) * (1 / 2) - (u * Q' - 1) := by grind
  have a1 := rH (((M - (1 + Q)) + (N - (1 - Q))) * (1 / 2) - u * ((M' - (1 + Q')) - (N' - (1 - Q'))) * (1 / 2)) (u * Q' - 1)
  have a2 := rH (((M - (1 + Q)) + (N - (1 - Q))) * (1 / 2)) (u * ((M' - (1 + Q')) - (N' - (1 - Q'))) * (1 / 2))
  have h2 : ∀ x : Rat, aH (x * (1 / 2)) * 2 = aH x := fun x => by rw [fM, show aH (1 / 2 : Rat) = 1 / 2 by decide +kernel]; grind
  have a3 := h2 ((M - (1 + Q)) + (N - (1 - Q)))
  have a4 := h2 (u * ((M' - (1 + Q')) - (N' - (1 - Q'))))
  have a5 := iL (M - (1 + Q)) (N - (1 - Q))
  have a6 := rH (M' - (1 + Q')) (N' - (1 - Q'))
  have a7 : aH (u * ((M' - (1 + Q')) - (N' - (1 - Q')))) = u * aH ((M' - (1 + Q')) - (N' - (1 - Q'))) := by rw [fM, bP (Rat.le_of_lt hu)]
  have a8 : u * Q' - 1 = e' := by grind
  have i1 := aF (Rat.le_of_lt hu) (show 0 ≤ aH (M' - (1 + Q')) + aH (N' - (1 - Q')) - aH ((M' - (1 + Q')) - (N' - (1 - Q'))) by grind)
  have i2 := aF (Rat.le_of_lt hu) (show 0 ≤ aH (1 + Q') + tiny - aH (M' - (1 + Q')) * 2 ^ 24 by grind)
  have i3 := aF (Rat.le_of_lt hu) (show 0 ≤ aH (1 - Q') + tiny - aH (N' - (1 - Q')) * 2 ^ 24 by grind)
  have i4 := aF (Rat.le_of_lt tp) (show 0 ≤ 9 - u by grind)
  rw [e1]
  rw [a8] at a1 ⊢
  rw [a7] at a4
  generalize aH (((M - (1 + Q)) + (N - (1 - Q))) * (1 / 2) - u * ((M' - (1 + Q')) - (N' - (1 - Q'))) * (1 / 2) - e') = X0 at *
  generalize aH (((M - (1 + Q)) + (N - (1 - Q))) * (1 / 2) - u * ((M' - (1 + Q')) - (N' - (1 - Q'))) * (1 / 2)) = X1 at *
  generalize aH (((M - (1 + Q)) + (N - (1 - Q))) * (1 / 2)) = X2 at *
  generalize aH (u * ((M' - (1 + Q')) - (N' - (1 - Q'))) * (1 / 2)) = X3 at *
  generalize aH ((M - (1 + Q)) + (N - (1 - Q))) = X4 at *
  generalize aH ((M' - (1 + Q')) - (N' - (1 - Q'))) = X5 at *
  generalize aH (M - (1 + Q)) = Y1 at *
  generalize aH (N - (1 - Q)) = Y2 at *
  generalize aH (M' - (1 + Q')) = Y3 at *
  generalize aH (N' - (1 - Q')) = Y4 at *
  generalize aH (1 + Q) = Z1 at *
  generalize aH (1 - Q) = Z2 at *
  generalize aH (1 + Q') = Z3 at *
  generalize aH (1 - Q') = Z4 at *
  generalize aH e' = Z5 at *
  generalize mx u = m at *
  have i5 : u * X5 * 2 ^ 24 ≤ 2 * (m * (1 + 1 / 2 ^ 22)) + 18 * tiny := by
    have k1 : u * (Y3 + Y4 - X5) = u * Y3 + u * Y4 - u * X5 := by grind
    have k2 : u * (Z3 + tiny - Y3 * 2 ^ 24) = u * Z3 + u * tiny - u * Y3 * 2 ^ 24 := by grind
    have k3 : u * (Z4 + tiny - Y4 * 2 ^ 24) = u * Z4 + u * tiny - u * Y4 * 2 ^ 24 := by grind
    have k4 : u * (Z3 + Z4) = u * Z3 + u * Z4 := by grind
    rw [k1] at i1
    rw [k2] at i2
    rw [k3] at i3
    rw [k4] at sum2
    have k5 : tiny * (9 - u) = 9 * tiny - u * tiny := by grind
    rw [k5] at i4
    generalize u * Y3 = b1 at *
    generalize u * Y4 = b2 at *
    generalize u * X5 = b3 at *
    generalize u * Z3 = b4 at *
    generalize u * Z4 = b5 at *
    generalize u * tiny = b6 at *
    clear e1 hQ hQ' hQu q1 huu
    grind
  generalize u * X5 = b3 at *
  clear e1 hQ hQ' hQu q1 huu i1 i2 i3 i4 h2 sum2 a6 a7 hM' hN' m2
  grind
inductive aoP (R L : Rg) (KR KL : Rat) (v : Q4) : Q4 → Prop where
  | same {M N Q e : Rat} (ht : R.t = L.t) (hq : Q = KR / KL * (1 + e)) (he : aH e * 2 ^ 22 ≤ 1) (hM : aH (M - (1 + Q)) * 2 ^ 24 ≤ aH (1 + Q) + tiny) (hN : aH (N - (1 - Q)) * 2 ^ 24 ≤ aH (1 - Q) + tiny) : aoP R L KR KL v (xR M N v)
  | mixed {Y e : Rat} (ht : R.t = !L.t) (hq : Y = (if L.t then KR / KL else -(KR / KL)) * (1 + e)) (he : aH e * 2 ^ 22 ≤ 1) : aoP R L KR KL v (xI Y v)
theorem aeG {R L : Rg} {KR KL : Rat} (hR : RgV R KR) (hL : RgV L KL) {w : W4} {v : Q4} (hw : Has w v) (hv : uU v) :
    ∃ x f, aoP R L KR KL v x ∧ Has (uA R L w) (x.add f) ∧ qN f ≤ OQ (R.t == L.t) (KR / KL) * OQ (R.t == L.t) (KR / KL) * qN v := by
  have pR : 0 < KR := by have := hR.lo; grind
  have pL : 0 < KL := by have := hL.lo; grind
  obtain ⟨u1, u2⟩ := u9 hR.lo hR.hi hL.lo hL.hi
  have up : 0 < KR / KL := by grind
  obtain ⟨ka, kb, kc, kd⟩ := hv.parts
  by_cases ht : R.t = L.t
  · obtain ⟨Q, q, e, hq, he⟩ := aG7 hR hL ht
    have he1 : aH e ≤ 1 / 2 ^ 22 := by grind
    rw [fA] at he1
    have hue : aH (KR / KL * e) ≤ KR / KL * (1 / 2 ^ 22) := by
      rw [fM, bP (Rat.le_of_lt up)]
      exact Rat.mul_le_mul_of_nonneg_left (by rw [fA]; exact he1) (Rat.le_of_lt up)
    rw [fA] at hue
    have hQ : Q = KR / KL + KR / KL * e := by rw [hq]; grind
    have qp : 0 < Q ∧ Q ≤ 10 := by constructor <;> grind
    have b1 : aH (1 + Q) = 1 + Q := bP (by grind)
    obtain ⟨M, m1, m2⟩ := ad9 uN q.r (oV (k := 20) (oK (by rw [b1]; grind)) (by decide))
    have b2 : aH (1 - Q) ≤ 9 + Q := by rw [fA]; constructor <;> grind
    obtain ⟨N, n1, n2⟩ := aj0 uN q.r (oV (k := 20) (oK (by grind)) (by decide))
    obtain ⟨Z, z1, z2⟩ := ad9 v0 q.i (oV (k := 5) (by rw [show (0 : Rat) + 0 = 0 by grind]; exact a0) (by decide))
    obtain ⟨Z', z3, z4⟩ := aj0 v0 q.i (oV (k := 5) (by rw [show (0 : Rat) - 0 = 0 by grind]; exact a0) (by decide))
    rw [show (0 : Rat) + 0 = 0 by grind] at z2
    rw [show (0 : Rat) - 0 = 0 by grind] at z4
    have hz := ZA z2
    have hz' := ZA z4
    subst hz hz'
    have hM := O4 m2
    have hN := O4 n2
    have t1 : tiny ≤ 1 := by decide +kernel
    have hMa := iL (M - (1 + Q)) (1 + Q)
    rw [show M - (1 + Q) + (1 + Q) = M by grind] at hMa
    have hNa := iL (N - (1 - Q)) (1 - Q)
    rw [show N - (1 - Q) + (1 - Q) = N by grind] at hNa
    obtain ⟨ok, er, hed⟩ := ahP hw m1 n1 (oK (by grind)) (oK (by grind)) ka kb kc kd z1 z3
    refine ⟨_, _, .same ht hq he hM hN, hed.has, ?_⟩
    have hs : (R.t == L.t) = true := by rw [ht]; simp
    rw [hs]
    have hA : aH M + aH N ≤ 2 * (mx (KR / KL) * (1 + 1 / 2 ^ 20)) := by
      have b3 : 1 + Q + aH (1 - Q) ≤ 2 * mx (KR / KL) + 2 * (KR / KL * (1 / 2 ^ 22)) := by
        have g1 := (qE (KR / KL)).1
        have g2 := (qE (KR / KL)).2
        have : aH (1 - Q) ≤ 2 * mx (KR / KL) + 2 * (KR / KL * (1 / 2 ^ 22)) - (1 + Q) := by rw [fA]; constructor <;> grind
        grind
      have g2 := (qE (KR / KL)).2
      have g3 : aH (1 - Q) ≤ 1 + Q := by rw [fA]; constructor <;> grind
      have g4 : tiny * 2 ^ 30 ≤ 1 := by decide +kernel
      have g1 := (qE (KR / KL)).1
      generalize mx (KR / KL) = m at *
      generalize KR / KL = u at *
      generalize aH M = a at *
      generalize aH N = b at *
      generalize aH (1 - Q) = c at *
      clear hed hw q m1 m2 n1 n2 ok
      grind
    refine SA (A := (aH M + aH N) * (aH M + aH N) * (1 / 4)) (m := mx (KR / KL)) ?_ ?_ (qE _).1 rfl hv.lo
    · have := hed.er
      grind
    · have h0 := iW M
      have h1 := iW N
      have g1 := (qE (KR / KL)).1
      have hs0 : 0 ≤ aH M + aH N := by grind
      generalize mx (KR / KL) = m at *
      generalize aH M + aH N = s at *
      clear hM hN hMa hNa hed h0 h1
      have i1 := aF (show 0 ≤ 2 * (m * (1 + 1 / 2 ^ 20)) - s by grind) (show 0 ≤ 2 * (m * (1 + 1 / 2 ^ 20)) + s by grind)
      have i2 := iK m
      grind
  · have ht' : R.t = !L.t := by
      cases h1 : R.t <;> cases h2 : L.t <;> simp_all
    obtain ⟨Y, q, e, hq, he⟩ := axZ hR hL ht'
    have he1 : aH e ≤ 1 / 2 ^ 22 := by grind
    rw [fA] at he1
    have hYY : Y * Y = KR / KL * (KR / KL) * ((1 + e) * (1 + e)) := by
      rw [hq]
      split <;> grind
    have hYa : aH Y ≤ 10 := by
      rw [hq, fM]
      have : aH (if L.t = true then KR / KL else -(KR / KL)) = KR / KL := by
        split
        · exact bP (Rat.le_of_lt up)
        · rw [nX]; exact bP (Rat.le_of_lt up)
      rw [this, bP (show 0 ≤ 1 + e by grind)]
      have i1 := aF (Rat.le_of_lt up) (show 0 ≤ 1 / 2 ^ 22 - e by grind)
      grind
    obtain ⟨M, m1, m2⟩ := ad9 uN q.r (oV (k := 5) (by rw [show (1 : Rat) + 0 = 1 by grind]; decide +kernel) (by decide))
    obtain ⟨N, n1, n2⟩ := aj0 uN q.r (oV (k := 5) (by rw [show (1 : Rat) - 0 = 1 by grind]; decide +kernel) (by decide))
    rw [show (1 : Rat) + 0 = 1 by grind] at m2
    rw [show (1 : Rat) - 0 = 1 by grind] at n2
    have hM := BB m2 uN
    have hN := BB n2 uN
    subst hM hN
    obtain ⟨Z, z1, z2⟩ := ad9 v0 q.i (oV (k := 20) (by rw [show (0 : Rat) + Y = Y by grind]; exact oK (by grind)) (by decide))
    obtain ⟨Z', z3, z4⟩ := aj0 v0 q.i (oV (k := 20) (by rw [show (0 : Rat) - Y = -Y by grind, nX]; exact oK (by grind)) (by decide))
    rw [show (0 : Rat) + Y = Y by grind] at z2
    rw [show (0 : Rat) - Y = -Y by grind] at z4
    have hz := BB z2 q.i
    have hz' := BB z4 (asK q.i)
    subst hz hz'
    obtain ⟨ok, er, hed⟩ := ahQ hw m1 z1 n1 z3 (oK (by grind)) ka kb kc kd
    refine ⟨_, _, .mixed ht' hq he, hed.has, ?_⟩
    have hs : (R.t == L.t) = false := by rw [ht']; cases L.t <;> rfl
    rw [hs]
    refine SA (A := 1 + Z * Z) (m := mu false (KR / KL)) hed.er ?_ (aG8 up) rfl hv.lo
    have hs := aUD up
    rw [hYY]
    have i1 := aF (iK (KR / KL)) (show 0 ≤ 1 + 1 / 2 ^ 18 - (1 + e) * (1 + e) by
      have := aF (show 0 ≤ 1 / 2 ^ 22 - e by grind) (show 0 ≤ 1 / 2 ^ 22 + e by grind)
      grind)
    generalize (1 + e) * (1 + e) = c at *
    generalize mu false (KR / KL) * mu false (KR / KL) = m at *
    generalize KR / KL * (KR / KL) = u at *
    grind
theorem Has.uniq {w : W4} {v u : Q4} (h : Has w v) (k : Has w u) : v = u := by
  obtain ⟨a, b, c, d⟩ := v
  obtain ⟨p, q, r, s⟩ := u
  have h1 := (nZ h.ar).symm.trans (nZ k.ar)
  have h2 := (nZ h.ai).symm.trans (nZ k.ai)
  have h3 := (nZ h.br).symm.trans (nZ k.br)
  have h4 := (nZ h.bi).symm.trans (nZ k.bi)
  dsimp only at h1 h2 h3 h4
  subst h1 h2 h3 h4
  rfl
theorem aA5 {α β κ B : Rat} {R L : Rg} {KR KL : Rat} (pR : 0 < KR) (pL : 0 < KL) (hu9 : KR / KL ≤ 9 ∧ KL / KR ≤ 9) {v u x z : Q4} (hx : aoP R L KR KL v x) (hz : aoP L R KL KR u z) (hκB : 0 ≤ κ * B)
    (z1 : ∀ t, aH (KL * pS α β t v u) ≤ κ * B) (z2 : ∀ t, aH (KR * pS α β t u v) ≤ κ * B) :
    aH (KL * pX α β L.t x u - KR * pX α β R.t v z) * 2 ^ 24 ≤ κ * B * ((mx (KR / KL) + mx (KL / KR) + 4) * (1 + 1 / 2 ^ 12)) := by
  have uu : KR / KL * (KL / KR) = 1 := by grind
  have up := tV pR pL
  have up' := tV pL pR
  have m1 := (qE (KR / KL)).1
  have m2 := (qE (KL / KR)).1
  have fin : ∀ {c1 c2 X1 X2 T m m' : Rat}, T = 1 / 2 * (c1 * X1 + c2 * X2) → aH c1 * 2 ^ 24 ≤ (2 * m + 4) * (1 + 1 / 2 ^ 12) → aH c2 * 2 ^ 24 ≤ (2 * m' + 4) * (1 + 1 / 2 ^ 12) → aH X1 ≤ κ * B → aH X2 ≤ κ * B → aH T * 2 ^ 24 ≤ κ * B * ((m + m' + 4) * (1 + 1 / 2 ^ 12)) := by
    intro c1 c2 X1 X2 T m m' hT h1 h2 h3 h4
    have k1 : aH T * 2 ≤ aH (c1 * X1) + aH (c2 * X2) := by
      have := iL (c1 * X1) (c2 * X2)
      have e : aH T = 1 / 2 * aH (c1 * X1 + c2 * X2) := by rw [hT, fM, show aH (1 / 2 : Rat) = 1 / 2 by decide +kernel]
      grind
    rw [fM, fM] at k1
    have i1 := aF (iW c1) (show 0 ≤ κ * B - aH X1 by grind)
    have i2 := aF (iW c2) (show 0 ≤ κ * B - aH X2 by grind)
    have i3 := aF hκB (show 0 ≤ (2 * m + 4) * (1 + 1 / 2 ^ 12) - aH c1 * 2 ^ 24 by grind)
    have i4 := aF hκB (show 0 ≤ (2 * m' + 4) * (1 + 1 / 2 ^ 12) - aH c2 * 2 ^ 24 by grind)
    clear hT h1 h2 h3 h4 z1 z2
    generalize κ * B = b at *
    generalize aH T = T at *
    generalize aH c1 = c1 at *
    generalize aH c2 = c2 at *
    generalize aH X1 = X1 at *
    generalize aH X2 = X2 at *
    grind
  cases hx with
  | @same M N Q e ht hq he hM hN =>
    cases hz with
    | @same M' N' Q' e' ht' hq' he' hM' hN' =>
      rw [← ht]
      refine fin (c1 := (M + N) / 2 - KR / KL * ((M' - N') / 2)) (c2 := KL / KR * ((M - N) / 2) - (M' + N') / 2) (X1 := KL * pS α β R.t v u) (X2 := KR * pS α β R.t u v) ?_ (aYW up hu9.1 uu up' hq he hq' he' hM hN hM' hN') ?_ (z1 _) (z2 _)
      · rw [aA1]
        have e1 : KR = KR / KL * KL := by grind
        have e2 : KL = KL / KR * KR := by grind
        generalize pS α β _ v u = A at *
        generalize pS α β _ u v = C at *
        grind
      · have h := aYW up' hu9.2 (by rw [Rat.mul_comm]; exact uu) up hq' he' hq he hM' hN' hM hN
        rw [← nX, show -(KL / KR * ((M - N) / 2) - (M' + N') / 2) = (M' + N') / 2 - KL / KR * ((M - N) / 2) by grind]
        exact h
    | @mixed Y e' ht' hq' he' => exfalso; rw [ht] at ht'; cases h : L.t <;> rw [h] at ht' <;> cases ht'
  | @mixed Y e ht hq he =>
    cases hz with
    | @same M' N' Q' e' ht' hq' he' hM' hN' => exfalso; rw [ht'] at ht; cases h : R.t <;> rw [h] at ht <;> cases ht
    | @mixed Y' e' ht' hq' he' =>
      rw [ht]
      have hc : ∀ {e : Rat} {m : Rat}, 1 ≤ m → aH e * 2 ^ 22 ≤ 1 → aH e * 2 ^ 24 ≤ (2 * m + 4) * (1 + 1 / 2 ^ 12) := by
        intro e m h1 h2
        grind
      refine fin (c1 := -e') (c2 := e) (X1 := KL * pS α β L.t v u) (X2 := KR * pS α β (!L.t) u v) ?_ (hc m1 (by rw [nX]; exact he')) (hc m2 he) (z1 _) (z2 _)
      rw [aA2]
      rw [ht] at hq'
      have e1 : KR / KL * KL = KR := by grind
      have e2 : KL / KR * KR = KL := by grind
      have k1 : KL * (KR / KL * (1 + e)) = KR * (1 + e) := by rw [show KL * (KR / KL * (1 + e)) = KR / KL * KL * (1 + e) by grind, e1]
      have k2 : KR * (KL / KR * (1 + e')) = KL * (1 + e') := by rw [show KR * (KL / KR * (1 + e')) = KL / KR * KR * (1 + e') by grind, e2]
      generalize pS α β L.t v u = A at *
      generalize pS α β (!L.t) u v = C at *
      generalize KR / KL * (1 + e) = a at *
      generalize KL / KR * (1 + e') = b at *
      clear e1 e2 z1 z2 fin uu up up' m1 m2 hu9
      generalize L.t = t at *
      cases t
      · simp only [Bool.not_false, Bool.false_eq_true, if_false, if_true] at hq hq' ⊢
        have j1 : KL * Y = -(KR * (1 + e)) := by rw [hq]; grind
        have j2 : KR * Y' = KL * (1 + e') := by rw [hq']; grind
        rw [show -1 * KR * Y' = -(KR * Y') by grind, show -1 * KL * Y = -(KL * Y) by grind, j1, j2]
        grind
      · simp only [Bool.not_true, Bool.false_eq_true, if_false, if_true] at hq hq' ⊢
        have j1 : KL * Y = KR * (1 + e) := by rw [hq]; grind
        have j2 : KR * Y' = -(KL * (1 + e')) := by rw [hq']; grind
        rw [show 1 * KR * Y' = KR * Y' by grind, show 1 * KL * Y = KL * Y by grind, j1, j2]
        grind
theorem ZE {α β E κ B : Rat} {R L : Rg} {KR KL : Rat} (hd : α * α + β * β ≤ 1) (hE : 0 < E) (hκ0 : 0 ≤ κ) (hκ : E ≤ κ * κ) (hR : RgV R KR) (hL : RgV L KL) {w y : W4} {v u v' u' : Q4} (hw : Has w v) (hv : uU v) (hy : Has y u) (hu : uU u) (hv' : Has (uA R L w) v') (hu' : Has (uA L R y) u') (hB0 : 0 ≤ B) (hB : qW (rho E KR) v * qW (rho E KL) u ≤ B * B) :
    aH (KL * pX α β L.t v' u - KR * pX α β R.t v u') ≤ B * (κ * ((mx (KR / KL) + mx (KL / KR) + 4) * (1 + 1 / 2 ^ 12)) / 2 ^ 24 + (edC E R.t KR L.t KL + edC E L.t KL R.t KR) / 2) := by
  have pR : 0 < KR := by have := hR.lo; grind
  have pL : 0 < KL := by have := hL.lo; grind
  obtain ⟨u1, u2⟩ := u9 hR.lo hR.hi hL.lo hL.hi
  obtain ⟨u3, u4⟩ := u9 hL.lo hL.hi hR.lo hR.hi
  have up : 0 < KR / KL := by grind
  have up' : 0 < KL / KR := by grind
  have rL := yX hE pL
  have rR := yX hE pR
  obtain ⟨x, f, h1, h2, h3⟩ := aeG hR hL hw hv
  obtain ⟨z, g, k1, k2, k3⟩ := aeG hL hR hy hu
  have e1 := hv'.uniq h2
  have e2 := hu'.uniq k2
  subst e1 e2
  have W1 := kN (Rat.le_of_lt rR) v
  have W2 := kN (Rat.le_of_lt rL) u
  have hB' : qW (rho E KL) u * qW (rho E KR) v ≤ B * B := by rw [Rat.mul_comm]; exact hB
  have kk : ∀ K : Rat, K * K = E * rho E K := fun K => by unfold rho; grind
  have f1 := aA5 (κ := κ) (B := B) (α := α) (β := β) pR pL ⟨u2, u4⟩ h1 k1 (aF hκ0 hB0) (fun t => ahY hd (Rat.le_of_lt hE) hκ0 hκ (kk KL) (Rat.le_of_lt rR) (Rat.le_of_lt rL) hB0 hB) (fun t => ahY hd (Rat.le_of_lt hE) hκ0 hκ (kk KR) (Rat.le_of_lt rL) (Rat.le_of_lt rR) hB0 hB')
  have τ1 := MO (same := R.t == L.t) up u2
  have τ2 := MO (same := L.t == R.t) up' u4
  have n1 := yK rR
  have n2 := yK rL
  have f2 := MQ (t := L.t) hd h3 (yL rR v) (yL rL u) hB (Rat.le_of_lt τ1.1) (Rat.le_of_lt n1) (Rat.le_of_lt n2) W1 W2 hB0
  have f3 := MQ (t := R.t) hd k3 (yL rL u) (yL rR v) hB' (Rat.le_of_lt τ2.1) (Rat.le_of_lt n2) (Rat.le_of_lt n1) W2 W1 hB0
  have e3 : KL * pX α β L.t (x.add f) u - KR * pX α β R.t v (z.add g) = (KL * pX α β L.t x u - KR * pX α β R.t v z) + (KL * pX α β L.t f u - KR * pX α β R.t g v) := by
    rw [aj9, acR α β R.t v (z.add g), aj9, acR α β R.t v z]
    grind
  have a1 := iL (KL * pX α β L.t x u - KR * pX α β R.t v z) (KL * pX α β L.t f u - KR * pX α β R.t g v)
  have a2 := rH (KL * pX α β L.t f u) (KR * pX α β R.t g v)
  rw [fM KL, fM KR, bP (Rat.le_of_lt pL), bP (Rat.le_of_lt pR)] at a2
  rw [e3]
  have g1 : KL * aH (pX α β L.t f u) ≤ B * (edC E R.t KR L.t KL / 2) := by
    have i1 := aF (Rat.le_of_lt pL) (show 0 ≤ OQ (R.t == L.t) (KR / KL) * ((nn (rho E KR) + nn (rho E KL)) / 2) * B - aH (pX α β L.t f u) by grind)
    have i2 := aF (aF (aF (Rat.le_of_lt pL) (Rat.le_of_lt τ1.1)) (show 0 ≤ nn (rho E KL) + nn (rho E KR) by grind)) hB0
    unfold edC
    generalize OQ (R.t == L.t) (KR / KL) = τ at *
    generalize nn (rho E KR) = n at *
    generalize nn (rho E KL) = m at *
    generalize aH (pX α β L.t f u) = X at *
    clear f1 f2 f3 e3 a1 a2 h3 k3
    grind
  have g2 : KR * aH (pX α β R.t g v) ≤ B * (edC E L.t KL R.t KR / 2) := by
    have i1 := aF (Rat.le_of_lt pR) (show 0 ≤ OQ (L.t == R.t) (KL / KR) * ((nn (rho E KL) + nn (rho E KR)) / 2) * B - aH (pX α β R.t g v) by grind)
    have i2 := aF (aF (aF (Rat.le_of_lt pR) (Rat.le_of_lt τ2.1)) (show 0 ≤ nn (rho E KR) + nn (rho E KL) by grind)) hB0
    unfold edC
    generalize OQ (L.t == R.t) (KL / KR) = τ at *
    generalize nn (rho E KR) = n at *
    generalize nn (rho E KL) = m at *
    generalize aH (pX α β R.t g v) = X at *
    clear f1 f2 f3 e3 a1 a2 h3 k3 g1
    grind
  generalize (mx (KR / KL) + mx (KL / KR) + 4) * (1 + 1 / 2 ^ 12) = c at *
  generalize edC E R.t KR L.t KL = c1 at *
  generalize edC E L.t KL R.t KR = c2 at *
  generalize aH (KL * pX α β L.t x u - KR * pX α β R.t v z + (KL * pX α β L.t f u - KR * pX α β R.t g v)) = X0 at *
  generalize aH (KL * pX α β L.t x u - KR * pX α β R.t v z) = X1 at *
  generalize aH (KL * pX α β L.t f u - KR * pX α β R.t g v) = X2 at *
  generalize KL * aH (pX α β L.t f u) = X3 at *
  generalize KR * aH (pX α β R.t g v) = X4 at *
  have e5 : B * (κ * c / 2 ^ 24 + (c1 + c2) / 2) = κ * B * c * (1 / 2 ^ 24) + (B * (c1 / 2) + B * (c2 / 2)) := by grind
  rw [e5]
  generalize κ * B * c = Y1 at *
  generalize B * (c1 / 2) = Y2 at *
  generalize B * (c2 / 2) = Y3 at *
  clear e3 f2 f3 h3 k3 kk hB hB' e5
  grind
theorem aHE {x f : Q4} (h : qN f ≤ tau * tau * qN x) : qN x ≤ (1 + 1 / 2 ^ 20) * qN (x.add f) := by
  have h0 := zV x
  have s := yJ (x.add f) ⟨-f.ar, -f.ai, -f.br, -f.bi⟩ (ρ := 1) (m := 1) RZ (by decide +kernel) ⟨Rat.le_refl, Rat.le_refl⟩ (by rw [aj7]; exact h)
  rw [acN, aj8, aj8] at s
  have t1 := asM
  have t0 := RZ
  have n0 := zV (x.add f)
  have i1 := aF h0 (show 0 ≤ 1 - tau * 2 ^ 23 by grind)
  have i2 := aF n0 (show 0 ≤ 1 - tau * 2 ^ 23 by grind)
  have i3 := aF (aF h0 (Rat.le_of_lt t0)) (show 0 ≤ 1 - tau * 2 ^ 23 by grind)
  generalize qN x = a at *
  generalize qN (x.add f) = b at *
  generalize tau = τ at *
  clear h
  grind
def ppC (K ρ : Rat) : Rat := K * nn ρ * (2 * tau) * (1 + 1 / 2 ^ 11)
theorem aaM {ρ : Rat} {t : Bool} {P : Pc} {G : Rat} (hP : PcV ρ t P G) {w : W4} {v : Q4} (hw : Has w v) (hv : uU v) :
    ∃ x f, Has (pG P w) (x.add f) ∧ qN f ≤ tau * tau * qN x ∧ ((∃ c s c' s' C S C' S', P = .ph c s c' s' ∧ (V32 c C ∧ V32 s S ∧ V32 c' C' ∧ V32 s' S') ∧ x = xP C S C' S' v) ∨ (∃ g d A D, P = .ex g d ∧ (V32 g A ∧ V32 d D) ∧ x = xE A D v)) := by
  obtain ⟨ka, kb, kc, kd⟩ := hv.parts
  have e100 : tw (-90) = 2 ^ 10 * tw (-100) := by decide +kernel
  have p100 := gV (-100)
  have hlo := hv.lo
  cases hP with
  | @ph c s c' s' C S C' S' hc hs hc' hs' h h' =>
    obtain ⟨b1, b2⟩ := acP h
    obtain ⟨b3, b4⟩ := acP h'
    obtain ⟨ok, e, hed⟩ := ahR hw hc hs hc' hs' b1 b2 b3 b4 ka kb kc kd
    refine ⟨_, e, hed.has, acO hed.er ?_, .inl ⟨c, s, c', s', C, S, C', S', rfl, ⟨hc, hs, hc', hs'⟩, rfl⟩⟩
    have hn := (axX (δ := 1 / 2 ^ 23) (c := C) (s := S) (c' := C') (s' := S') v (by grind) (by grind)).2
    rw [fA] at hn
    have h0 := zV v
    grind
  | ex hg hd d0 d1 g0 g1 h hG hc =>
    rename_i g d A D
    have a8 : ∀ x : Rat, 1 / 8 ≤ x → x ≤ 8 → aH x ≤ tw 20 := fun x h1 h2 => oK (by rw [bP (by grind)]; grind)
    obtain ⟨e, hed⟩ := ahS hw hg hd (a8 _ g0 g1) (a8 _ d0 d1) ka kb kc kd
    refine ⟨_, e, hed.has, acO hed.er ?_, .inr ⟨g, d, A, D, rfl, ⟨hg, hd⟩, rfl⟩⟩
    have g2 := aF (show 0 ≤ A - 1 / 8 by grind) (show 0 ≤ A + 1 / 8 by grind)
    have d2 := aF (show 0 ≤ D - 1 / 8 by grind) (show 0 ≤ D + 1 / 8 by grind)
    have i1 := aF (iK v.ar) g2
    have i2 := aF (iK v.ai) g2
    have i3 := aF (iK v.br) d2
    have i4 := aF (iK v.bi) d2
    have h3 : qN v ≤ 64 * qN (xE A D v) := by
      unfold qN xE
      dsimp only
      clear hlo e100 p100 hc h hed
      grind
    grind
theorem aeH {α β E B : Rat} {r : Rg} {K : Rat} {P : Pc} {G : Rat} (hd : α * α + β * β ≤ 1) (hE : 0 < E) (hr : RgV r K) (hP : PcV (rho E K) r.t P G) {w y : W4} {v u v' u' : Q4} (hw : Has w v) (hv : uU v) (hy : Has y u) (hu : uU u) (hv' : Has (pG P w) v') (hu' : Has (pG P y) u') (hB0 : 0 ≤ B) (h1 : qW (rho E K) v' * qW (rho E K) u ≤ B * B) (h2 : qW (rho E K) v * qW (rho E K) u' ≤ B * B) :
    aH (K * pX α β r.t v' u - K * pX α β r.t v u') ≤ B * ppC K (rho E K) := by
  have pK : 0 < K := by have := hr.lo; grind
  have pρ := yX hE pK
  generalize rho E K = ρ at *
  generalize r.t = t at *
  obtain ⟨x, f, a1, a2, a3⟩ := aaM hP hw hv
  obtain ⟨z, g, b1, b2, b3⟩ := aaM hP hy hu
  have e1 := hv'.uniq a1
  have e2 := hu'.uniq b1
  have hxz : pX α β t x u = pX α β t v z := by
    rcases a3 with ⟨c, s, c', s', C, S, C', S', hP1, ⟨p1, p2, p3, p4⟩, hx⟩ | ⟨c, d, A, D, hP1, ⟨p1, p2⟩, hx⟩
    · rcases b3 with ⟨k, l, k', l', Ck, Sk, Ck', Sk', hP2, ⟨q1, q2, q3, q4⟩, hz⟩ | ⟨k, l, A, D, hP2, _, hz⟩
      · rw [hP1] at hP2
        cases hP2
        have j1 := (nZ p1).symm.trans (nZ q1)
        have j2 := (nZ p2).symm.trans (nZ q2)
        have j3 := (nZ p3).symm.trans (nZ q3)
        have j4 := (nZ p4).symm.trans (nZ q4)
        subst j1 j2 j3 j4
        rw [hx, hz, aA3]
      · rw [hP1] at hP2; cases hP2
    · rcases b3 with ⟨k, l, k', l', Ck, Sk, Ck', Sk', hP2, _, hz⟩ | ⟨k, l, A', D', hP2, ⟨q1, q2⟩, hz⟩
      · rw [hP1] at hP2; cases hP2
      · rw [hP1] at hP2
        cases hP2
        have j1 := (nZ p1).symm.trans (nZ q1)
        have j2 := (nZ p2).symm.trans (nZ q2)
        subst j1 j2
        rw [hx, hz, aA4]
  have c1 := aHE a2
  have c2 := aHE b2
  rw [← e1] at c1
  rw [← e2] at c2
  have t0 := RZ
  have nn0 := yK pρ
  have tt : tau * tau * (1 + 1 / 2 ^ 20) ≤ tau * (1 + 1 / 2 ^ 20) * (tau * (1 + 1 / 2 ^ 20)) := by
    have := aF (Rat.le_of_lt t0) (Rat.le_of_lt t0)
    generalize tau = τ at *
    grind
  have hf : ∀ {f x v' : Q4}, qN f ≤ tau * tau * qN x → qN x ≤ (1 + 1 / 2 ^ 20) * qN v' → qN f ≤ tau * (1 + 1 / 2 ^ 20) * (tau * (1 + 1 / 2 ^ 20)) * qN v' := by
    intro f x v' h1 h2
    have i1 := aF (aF (Rat.le_of_lt t0) (Rat.le_of_lt t0)) (show 0 ≤ (1 + 1 / 2 ^ 20) * qN v' - qN x by grind)
    have i2 := aF (zV v') (show 0 ≤ tau * (1 + 1 / 2 ^ 20) * (tau * (1 + 1 / 2 ^ 20)) - tau * tau * (1 + 1 / 2 ^ 20) by grind)
    generalize tau * (1 + 1 / 2 ^ 20) * (tau * (1 + 1 / 2 ^ 20)) = a at *
    generalize tau * tau = b at *
    grind
  have t1 : 0 ≤ tau * (1 + 1 / 2 ^ 20) := aF (Rat.le_of_lt t0) (by decide +kernel)
  have W : ∀ q, 0 ≤ qW ρ q := fun q => kN (Rat.le_of_lt pρ) q
  have f1 := MQ (t := t) hd (hf a2 c1) (yL pρ v') (yL pρ u) h1 t1 (Rat.le_of_lt nn0) (Rat.le_of_lt nn0) (W _) (W _) hB0
  have f2 := MQ (t := t) hd (hf b2 c2) (yL pρ u') (yL pρ v) (by rw [Rat.mul_comm]; exact h2) t1 (Rat.le_of_lt nn0) (Rat.le_of_lt nn0) (W _) (W _) hB0
  have e3 : K * pX α β t v' u - K * pX α β t v u' = K * (pX α β t f u - pX α β t g v) := by
    rw [e1, e2, aj9, acR α β t v (z.add g), aj9, acR α β t z v, hxz]
    grind
  rw [e3, fM, bP (Rat.le_of_lt pK)]
  have a4 := rH (pX α β t f u) (pX α β t g v)
  unfold ppC
  rw [show (nn ρ + nn ρ) / 2 = nn ρ by grind] at f1 f2
  have i1 := aF (Rat.le_of_lt pK) (show 0 ≤ 2 * (tau * (1 + 1 / 2 ^ 20) * nn ρ * B) - aH (pX α β t f u - pX α β t g v) by grind)
  have i2 := aF (aF (aF (Rat.le_of_lt pK) (Rat.le_of_lt nn0)) (Rat.le_of_lt t0)) hB0
  generalize aH (pX α β t f u - pX α β t g v) = X at *
  generalize nn ρ = n at *
  generalize tau = τ at *
  clear f1 f2 a4 e3 hf tt t1 c1 c2 a2 b2 h1 h2
  grind
structure St2 (e : EnC) (O r1 r2 : Rg) (P1 P2 : Pc) (K1 K2 G1 G2 : Rat) (v1 v2 v3 v4 v5 : Q4) : Prop where
  q1 : Has (uA O r2 oP) v1
  q2 : Has (pG P2 (uA O r2 oP)) v2
  q3 : Has (uA r2 r1 (pG P2 (uA O r2 oP))) v3
  q4 : Has (pG P1 (uA r2 r1 (pG P2 (uA O r2 oP)))) v4
  q5 : Has (chW O O [(r2, P2), (r1, P1)] oP) v5
  f1 : uU v1
  f2 : uU v2
  f3 : uU v3
  f4 : uU v4
  f5 : uU v5
  u1 : qW (rho e.E K2) v1 ≤ 1 * lam ^ 1 * qW (rho e.E e.K0) lW
  u2 : qW (rho e.E K2) v2 ≤ G2 * lam ^ 2 * qW (rho e.E e.K0) lW
  u3 : qW (rho e.E K1) v3 ≤ G2 * lam ^ 3 * qW (rho e.E e.K0) lW
  u4 : qW (rho e.E K1) v4 ≤ G1 * G2 * lam ^ 4 * qW (rho e.E e.K0) lW
  u5 : qW (rho e.E e.K0) v5 ≤ G1 * G2 * lam ^ 5 * qW (rho e.E e.K0) lW
theorem aoQ {e : EnC} {O r1 r2 : Rg} {P1 P2 : Pc} {K1 K2 G1 G2 : Rat} (he : EnV e O) (h1 : PcE e O r1 P1 K1 G1) (h2 : PcE e O r2 P2 K2 G2) : ∃ v1 v2 v3 v4 v5, St2 e O r1 r2 P1 P2 K1 K2 G1 G2 v1 v2 v3 v4 v5 := by
  have hE := he.hE
  have hM := he.hM
  have hN := he.hN
  have k0 := RgE.pos hE he.hO
  have one : (0 : Rat) ≤ 1 := by decide +kernel
  have k1 := RgE.pos hE h1.h
  have g10 := h1.g0
  have g11 := h1.g1
  have n1 : 0 ≤ G1 := by grind
  have k2 := RgE.pos hE h2.h
  have g20 := h2.g0
  have g21 := h2.g1
  have n2 : 0 ≤ G2 := by grind
  have n12 := aF n1 n2
  have w0 := ahW he.r0.1 he.r0.2
  obtain ⟨fb0, fl0⟩ : (0 : Rat) < 1 ∧ (1 : Rat) ≤ 2 ^ 34 := by decide +kernel
  have f0 := kJ k0 he.hO.m he.hO.n hM hN w0 fb0 fl0
  obtain ⟨-, v1, q1, s0⟩ := l9 hE he.hO.v h2.h.v (rU he h2.h he.hO) BC f0
  have w1 : Wb (qW (rho e.E K2) v1) (254 ^ 0 * lam ^ 1) := (w0.step s0 one (by decide +kernel)).mono (by decide +kernel) (by decide +kernel)
  have f1 := kJ k2 h2.h.m h2.h.n hM hN w1 (by decide +kernel) (by decide +kernel)
  obtain ⟨-, v2, q2, s1⟩ := nD hE h2.h.v h2.p (rU he h2.h h2.h) q1 f1
  have w2 : Wb (qW (rho e.E K2) v2) (254 ^ 1 * lam ^ 2) := by
    have h0 := w1.step s1 n2 (by decide +kernel)
    have hh : G2 * lam * (254 ^ 0 * lam ^ 1) ≤ 254 ^ 1 * lam ^ 2 := by
      have := aF (show (0 : Rat) ≤ lam * (254 ^ 0 * lam ^ 1) by decide +kernel) (show 0 ≤ 254 - G2 by grind)
      have e2 : (254 : Rat) ^ 1 * lam ^ 2 = 254 * (lam * (254 ^ 0 * lam ^ 1)) := by decide +kernel
      rw [e2]
      grind
    exact h0.mono (aF (aF n2 (by decide +kernel)) (by decide +kernel)) hh
  have f2 := kJ k2 h2.h.m h2.h.n hM hN w2 (by decide +kernel) (by decide +kernel)
  obtain ⟨-, v3, q3, s2⟩ := l9 hE h2.h.v h1.h.v (rU he h1.h h2.h) q2 f2
  have w3 : Wb (qW (rho e.E K1) v3) (254 ^ 1 * lam ^ 3) := (w2.step s2 one (by decide +kernel)).mono (by decide +kernel) (by decide +kernel)
  have f3 := kJ k1 h1.h.m h1.h.n hM hN w3 (by decide +kernel) (by decide +kernel)
  obtain ⟨-, v4, q4, s3⟩ := nD hE h1.h.v h1.p (rU he h1.h h1.h) q3 f3
  have w4 : Wb (qW (rho e.E K1) v4) (254 ^ 2 * lam ^ 4) := by
    have h0 := w3.step s3 n1 (by decide +kernel)
    have hh : G1 * lam * (254 ^ 1 * lam ^ 3) ≤ 254 ^ 2 * lam ^ 4 := by
      have := aF (show (0 : Rat) ≤ lam * (254 ^ 1 * lam ^ 3) by decide +kernel) (show 0 ≤ 254 - G1 by grind)
      have e2 : (254 : Rat) ^ 2 * lam ^ 4 = 254 * (lam * (254 ^ 1 * lam ^ 3)) := by decide +kernel
      rw [e2]
      grind
    exact h0.mono (aF (aF n1 (by decide +kernel)) (by decide +kernel)) hh
  have f4 := kJ k1 h1.h.m h1.h.n hM hN w4 (by decide +kernel) (by decide +kernel)
  obtain ⟨-, v5, q5, s4⟩ := l9 hE h1.h.v he.hO.v (rU he he.hO h1.h) q4 f4
  have w5 : Wb (qW (rho e.E e.K0) v5) (254 ^ 2 * lam ^ 5) := (w4.step s4 one (by decide +kernel)).mono (by decide +kernel) (by decide +kernel)
  have f5 := kJ k0 he.hO.m he.hO.n hM hN w5 (by decide +kernel) (by decide +kernel)
  have u0 : qW (rho e.E e.K0) lW ≤ 1 * lam ^ 0 * qW (rho e.E e.K0) lW := by rw [show lam ^ 0 = 1 by decide +kernel]; grind
  have u1 : qW (rho e.E K2) v1 ≤ 1 * 1 * lam ^ 1 * qW (rho e.E e.K0) lW := uO s0 one u0
  have u2 := uO s1 n2 u1
  have u3 := uO s2 one u2
  have u4 := uO s3 n1 u3
  have u5 := uO s4 one u4
  refine ⟨v1, v2, v3, v4, v5, q1, q2, q3, q4, q5, f1, f2, f3, f4, f5, ?_, ?_, ?_, ?_, ?_⟩
  · rw [show (1 : Rat) * lam ^ 1 = 1 * 1 * lam ^ 1 by grind]; exact u1
  · rw [show G2 * lam ^ 2 = G2 * (1 * 1) * lam ^ (1 + 1) by grind]; exact u2
  · rw [show G2 * lam ^ 3 = 1 * (G2 * (1 * 1)) * lam ^ (1 + 1 + 1) by grind]; exact u3
  · rw [show G1 * G2 * lam ^ 4 = G1 * (1 * (G2 * (1 * 1))) * lam ^ (1 + 1 + 1 + 1) by grind]; exact u4
  · rw [show G1 * G2 * lam ^ 5 = 1 * (G1 * (1 * (G2 * (1 * 1)))) * lam ^ (1 + 1 + 1 + 1 + 1) by grind]; exact u5
theorem ax6 (i : Nat) : ∀ j, lam ^ (i + j) = lam ^ i * lam ^ j
  | 0 => by rw [show lam ^ 0 = 1 by decide +kernel]; exact (Rat.mul_one _).symm
  | j + 1 => by rw [← Nat.add_assoc, Rat.pow_succ, Rat.pow_succ, ax6 i j]; grind
theorem yM {W W' a b g Z : Rat} {i j : Nat} (h : W ≤ a * lam ^ i * Z) (h' : W' ≤ b * lam ^ j * Z) (hij : i + j ≤ 5) (hg : a * b = g) (ha : 0 ≤ a) (hb : 0 ≤ b) (hZ : 0 ≤ Z) (hW' : 0 ≤ W') {s : Rat} (hs : g ≤ s * s) : W * W' ≤ s * (1003 / 1000) * Z * (s * (1003 / 1000) * Z) := by
  have l1 := asN i
  have l2 := asN j
  have i1 := aF hW' (show 0 ≤ a * lam ^ i * Z - W by grind)
  have i2 := aF (aF (aF ha (show 0 ≤ lam ^ i by grind)) hZ) (show 0 ≤ b * lam ^ j * Z - W' by grind)
  have e1 : lam ^ i * lam ^ j = lam ^ (i + j) := (ax6 i j).symm
  have e2 : lam ^ (i + j) ≤ 1003 / 1000 := aG9 (by omega)
  have i3 : W * W' ≤ g * lam ^ (i + j) * (Z * Z) := by rw [← e1, ← hg]; grind
  have g0 : 0 ≤ g := by rw [← hg]; exact aF ha hb
  have zz := aF hZ hZ
  have i4 := aF (aF g0 zz) (show 0 ≤ 1003 / 1000 - lam ^ (i + j) by grind)
  have i5 := aF zz (show 0 ≤ s * s - g by grind)
  have i6 := aF zz g0
  generalize lam ^ (i + j) = l at *
  clear i1 i2 e1 h h'
  grind
structure EnT (e : EnC) (κ CQ CW : Rat) : Prop where
  κ0 : 0 ≤ κ
  hκ : e.E ≤ κ * κ
  κU : κ * (1 + 1 / 2 ^ 12) ≤ 2 ^ 24 * (e.U * (1001 / 1000))
  W0 : 0 ≤ CW
  Q0 : 0 ≤ CQ
theorem ZF {κ c CQ U C c1 c2 B : Rat} (hκ : 0 ≤ κ) (hU : κ * (1 + 1 / 2 ^ 12) ≤ 2 ^ 24 * (U * (1001 / 1000))) (hc : c ≤ CQ) (hQ : 0 ≤ CQ) (h1 : c1 ≤ C * U) (h2 : c2 ≤ C * U) {X : Rat} (hB : 0 ≤ B) (h : X ≤ B * (κ * (c * (1 + 1 / 2 ^ 12)) / 2 ^ 24 + (c1 + c2) / 2)) : X ≤ B * (U * (CQ * (1001 / 1000) + C)) := by
  have i1 := aF hκ (show 0 ≤ CQ - c by grind)
  have i2 := aF hQ (show 0 ≤ 2 ^ 24 * (U * (1001 / 1000)) - κ * (1 + 1 / 2 ^ 12) by grind)
  have i3 : κ * (c * (1 + 1 / 2 ^ 12)) / 2 ^ 24 + (c1 + c2) / 2 ≤ U * (CQ * (1001 / 1000) + C) := by
    have e1 : κ * (CQ - c) = κ * CQ - κ * c := by grind
    have e2 : CQ * (2 ^ 24 * (U * (1001 / 1000)) - κ * (1 + 1 / 2 ^ 12)) = 2 ^ 24 * (U * CQ) * (1001 / 1000) - κ * CQ * (1 + 1 / 2 ^ 12) := by grind
    have e3 : κ * (c * (1 + 1 / 2 ^ 12)) / 2 ^ 24 = κ * c * (1 + 1 / 2 ^ 12) * (1 / 2 ^ 24) := by grind
    have e4 : U * (CQ * (1001 / 1000) + C) = U * CQ * (1001 / 1000) + C * U := by grind
    rw [e1] at i1
    rw [e2] at i2
    rw [e3, e4]
    generalize κ * CQ = a at *
    generalize κ * c = b at *
    generalize U * CQ = d at *
    generalize C * U = f at *
    clear e1 e2 e3 e4 h hU hc hQ
    grind
  exact Rat.le_trans h (Rat.mul_le_mul_of_nonneg_left i3 hB)
theorem a1R {a0 a1 a2 a3 a4 a5 b c1 c2 c3 c4 c5 : Rat} (h1 : aH (a1 - a0) ≤ b * c1) (h2 : aH (a2 - a1) ≤ b * c2) (h3 : aH (a3 - a2) ≤ b * c3) (h4 : aH (a4 - a3) ≤ b * c4) (h5 : aH (a5 - a4) ≤ b * c5) : aH (a5 - a0) ≤ b * (c1 + c2 + c3 + c4 + c5) := by
  rw [fA] at *
  constructor <;> grind
theorem aVQ {e : EnC} {O r1 r2 : Rg} {P1 P2 : Pc} {K1 K2 G1 G2 κ CQ CW : Rat} (he : EnV e O) (ht : EnT e κ CQ CW) (h1 : PcE e O r1 P1 K1 G1) (h2 : PcE e O r2 P2 K2 G2)
    (hx : edC e.E r2.t K2 r1.t K1 ≤ e.CP * e.U) (hx' : edC e.E r1.t K1 r2.t K2 ≤ e.CP * e.U) (hq1 : mx (e.K0 / K1) + mx (K1 / e.K0) + 4 ≤ CQ) (hq2 : mx (e.K0 / K2) + mx (K2 / e.K0) + 4 ≤ CQ) (hq : mx (K1 / K2) + mx (K2 / K1) + 4 ≤ CQ)
    (hw1 : ppC K1 (rho e.E K1) ≤ CW * e.U) (hw2 : ppC K2 (rho e.E K2) ≤ CW * e.U) {s : Rat} (hs0 : 0 ≤ s) (hs : G1 * G2 ≤ s * s) :
    ∃ v u, Has (chW O O [(r2, P2), (r1, P1)] oP) v ∧ Has (chW O O [(r1, P1), (r2, P2)] oP) u ∧ ∀ α β, α * α + β * β ≤ 1 → aH (e.K0 * (α * v.ar + β * v.ai) - e.K0 * (α * u.ar + β * u.ai)) ≤ s * (1003 / 1000) * qW (rho e.E e.K0) lW * (e.U * (3 * (CQ * (1001 / 1000)) + 2 * e.CO + e.CP + 2 * CW)) := by
  obtain ⟨v1, v2, v3, v4, v5, sv⟩ := aoQ he h1 h2
  obtain ⟨u1, u2, u3, u4, u5, su⟩ := aoQ he h2 h1
  refine ⟨v5, u5, sv.q5, su.q5, fun α β hd => ?_⟩
  have hE := he.hE
  have k0 := RgE.pos hE he.hO
  have k1 := RgE.pos hE h1.h
  have k2 := RgE.pos hE h2.h
  have w0 := ahW he.r0.1 he.r0.2
  have f0 := kJ k0 he.hO.m he.hO.n he.hM he.hN w0 (by decide +kernel) (by decide +kernel)
  have Z0 := kN (Rat.le_of_lt k0) lW
  have W0 : qW (rho e.E e.K0) lW ≤ 1 * lam ^ 0 * qW (rho e.E e.K0) lW := by rw [show lam ^ 0 = 1 by decide +kernel]; grind
  have g1 : 0 ≤ G1 := by have := h1.g0; grind
  have g2 : 0 ≤ G2 := by have := h2.g0; grind
  have one : (0 : Rat) ≤ 1 := by decide +kernel
  have W1 : ∀ q, 0 ≤ qW (rho e.E K1) q := fun q => kN (Rat.le_of_lt k1) q
  have W2 : ∀ q, 0 ≤ qW (rho e.E K2) q := fun q => kN (Rat.le_of_lt k2) q
  have g12 := aF g1 g2
  have g21 := aF g2 g1
  have B0 : 0 ≤ s * (1003 / 1000) * qW (rho e.E e.K0) lW := aF (aF hs0 (by decide +kernel)) Z0
  have A := ZE hd hE ht.κ0 ht.hκ he.hO.v h2.h.v BC f0 su.q4 su.f4 sv.q1 su.q5 B0 (yM W0 su.u4 (by decide) (show 1 * (G2 * G1) = G1 * G2 by grind) one g21 Z0 (W2 _) hs)
  have Bp := aeH hd hE h2.h.v h2.p sv.q1 sv.f1 su.q3 su.f3 sv.q2 su.q4 B0 (yM sv.u2 su.u3 (by decide) (show G2 * G1 = G1 * G2 by grind) g2 g1 Z0 (W2 _) hs) (yM sv.u1 su.u4 (by decide) (show 1 * (G2 * G1) = G1 * G2 by grind) one g21 Z0 (W2 _) hs)
  have C := ZE hd hE ht.κ0 ht.hκ h2.h.v h1.h.v sv.q2 sv.f2 su.q2 su.f2 sv.q3 su.q3 B0 (yM sv.u2 su.u2 (by decide) (show G2 * G1 = G1 * G2 by grind) g2 g1 Z0 (W1 _) hs)
  have Dp := aeH hd hE h1.h.v h1.p sv.q3 sv.f3 su.q1 su.f1 sv.q4 su.q2 B0 (yM sv.u4 su.u1 (by decide) (show G1 * G2 * 1 = G1 * G2 by grind) g12 one Z0 (W1 _) hs) (yM sv.u3 su.u2 (by decide) (show G2 * G1 = G1 * G2 by grind) g2 g1 Z0 (W1 _) hs)
  have F := ZE hd hE ht.κ0 ht.hκ h1.h.v he.hO.v sv.q4 sv.f4 BC f0 sv.q5 su.q1 B0 (yM sv.u4 W0 (by decide) (show G1 * G2 * 1 = G1 * G2 by grind) g12 one Z0 Z0 hs)
  have A2 := ZF ht.κ0 ht.κU hq2 ht.Q0 h2.c0 h2.c1 B0 A
  have C2 := ZF ht.κ0 ht.κU (by rw [Rat.add_comm (mx (K2 / K1))]; exact hq) ht.Q0 hx hx' B0 C
  have F2 := ZF ht.κ0 ht.κU (by rw [Rat.add_comm (mx (K1 / e.K0))]; exact hq1) ht.Q0 h1.c1 h1.c0 B0 F
  have B2 := Rat.le_trans Bp (Rat.mul_le_mul_of_nonneg_left hw2 B0)
  have D2 := Rat.le_trans Dp (Rat.mul_le_mul_of_nonneg_left hw1 B0)
  have T := a1R A2 B2 C2 D2 F2
  rw [he.tO] at T
  have e1 : pX α β true v5 lW = α * v5.ar + β * v5.ai := by
    unfold pX aeF SB SC lW
    rw [if_pos rfl]
    dsimp only
    grind
  have e2 : pX α β true lW u5 = α * u5.ar + β * u5.ai := by
    unfold pX aeF SB SC lW
    rw [if_pos rfl]
    dsimp only
    grind
  rw [e1, e2] at T
  refine Rat.le_trans T (Rat.mul_le_mul_of_nonneg_left ?_ B0)
  clear T A Bp C Dp F A2 B2 C2 D2 F2 sv su
  generalize e.U = U at *
  generalize e.CO = CO at *
  generalize e.CP = CP at *
  grind
theorem aYX {v u : Q4} {T T' δ : Rat} (hδ : 0 ≤ δ) (h : ∀ α β, α * α + β * β ≤ 1 → aH (α * v.ar + β * v.ai - (α * u.ar + β * u.ai)) ≤ δ) (hA : 999 / 1000 ≤ sqA v) (hA' : 999 / 1000 ≤ sqA u) (hT : aH (T * sqA v - 1) * 2 ^ 21 ≤ 1) (hT' : aH (T' * sqA u - 1) * 2 ^ 21 ≤ 1) : aH (T - T') ≤ 1005 / 500 * δ + 1 / 2 ^ 19 := by
  have d1 : aH (sqA v - sqA u) ≤ δ * (1003 / 1000) * (sqA v + sqA u) := by
    obtain ⟨t, ht⟩ : ∃ t, t = (1003 / 1000) * (sqA v + sqA u) := ⟨_, rfl⟩
    have t0 : 0 < t := by grind
    have e2 : (v.ar + u.ar) * (v.ar + u.ar) + (v.ai + u.ai) * (v.ai + u.ai) ≤ t * t := by
      have s1 := iK (v.ar - u.ar)
      have s2 := iK (v.ai - u.ai)
      have e : (v.ar + u.ar) * (v.ar + u.ar) + (v.ai + u.ai) * (v.ai + u.ai) ≤ 2 * (sqA v + sqA u) := by unfold sqA; grind
      have i := aF (show 0 ≤ sqA v + sqA u - 999 / 500 by grind) (show 0 ≤ sqA v + sqA u by grind)
      rw [ht]
      generalize sqA v + sqA u = S at *
      grind
    have hh := h ((v.ar + u.ar) / t) ((v.ai + u.ai) / t) (by
      have tt := Rat.mul_pos t0 t0
      have e3 : (v.ar + u.ar) / t * ((v.ar + u.ar) / t) + (v.ai + u.ai) / t * ((v.ai + u.ai) / t) = ((v.ar + u.ar) * (v.ar + u.ar) + (v.ai + u.ai) * (v.ai + u.ai)) / (t * t) := by grind
      rw [e3]
      refine fJ (c := t * t) ?_ tt
      rw [Rat.div_mul_cancel (show t * t ≠ 0 by grind)]
      grind)
    have e5 : ((v.ar + u.ar) / t * v.ar + (v.ai + u.ai) / t * v.ai - ((v.ar + u.ar) / t * u.ar + (v.ai + u.ai) / t * u.ai)) * t = sqA v - sqA u := by
      have x1 : (v.ar + u.ar) / t * t = v.ar + u.ar := Rat.div_mul_cancel (by grind)
      have x2 : (v.ai + u.ai) / t * t = v.ai + u.ai := Rat.div_mul_cancel (by grind)
      have : ((v.ar + u.ar) / t * v.ar + (v.ai + u.ai) / t * v.ai - ((v.ar + u.ar) / t * u.ar + (v.ai + u.ai) / t * u.ai)) * t = (v.ar + u.ar) / t * t * (v.ar - u.ar) + (v.ai + u.ai) / t * t * (v.ai - u.ai) := by grind
      rw [this, x1, x2]
      unfold sqA
      grind
    rw [← e5, fM, bP (Rat.le_of_lt t0)]
    have := Rat.mul_le_mul_of_nonneg_right hh (Rat.le_of_lt t0)
    rw [show δ * (1003 / 1000) * (sqA v + sqA u) = δ * t by rw [ht]; grind]
    exact this
  generalize sqA v = A at *
  generalize sqA u = A' at *
  clear h
  have AA : 0 < A * A' := Rat.mul_pos (by grind) (by grind)
  refine fJ (c := A * A') ?_ AA
  have e1 : (T - T') * (A * A') = (T * A - 1) * A' - (T' * A' - 1) * A - (A - A') := by grind
  have e2 : aH (T - T') * (A * A') = aH ((T - T') * (A * A')) := by rw [fM, bP (Rat.le_of_lt AA)]
  rw [e2, e1]
  have a1 := rH ((T * A - 1) * A' - (T' * A' - 1) * A) (A - A')
  have a2 := rH ((T * A - 1) * A') ((T' * A' - 1) * A)
  rw [fM (T * A - 1), fM (T' * A' - 1), bP (show 0 ≤ A by grind), bP (show 0 ≤ A' by grind)] at a2
  have i1 := aF (show 0 ≤ A' by grind) (show 0 ≤ 1 - aH (T * A - 1) * 2 ^ 21 by grind)
  have i2 := aF (show 0 ≤ A by grind) (show 0 ≤ 1 - aH (T' * A' - 1) * 2 ^ 21 by grind)
  have i3 := aF (show 0 ≤ A by grind) (show 0 ≤ A' - 999 / 1000 by grind)
  have i4 := aF (show 0 ≤ A' by grind) (show 0 ≤ A - 999 / 1000 by grind)
  have i5 : A + A' ≤ 2003 / 1000 * (A * A') := by grind
  have i6 := aF hδ (show 0 ≤ 2003 / 1000 * (A * A') - (A + A') by grind)
  have i7 := aF hδ (Rat.le_of_lt AA)
  generalize aH ((T * A - 1) * A' - (T' * A' - 1) * A - (A - A')) = X0 at *
  generalize aH ((T * A - 1) * A' - (T' * A' - 1) * A) = X1 at *
  generalize aH (T * A - 1) = X2 at *
  generalize aH (T' * A' - 1) = X3 at *
  generalize aH (A - A') = X4 at *
  have e3 : δ * (1003 / 1000) * (A + A') = δ * (A + A') * (1003 / 1000) := by grind
  have e4 : δ * (2003 / 1000 * (A * A') - (A + A')) = δ * (A * A') * (2003 / 1000) - δ * (A + A') := by grind
  have e5 : (1005 / 500 * δ + 1 / 2 ^ 19) * (A * A') = δ * (A * A') * (1005 / 500) + A * A' * (1 / 2 ^ 19) := by grind
  rw [e3] at d1
  rw [e4] at i6
  rw [e5]
  generalize δ * (A + A') = Y1 at *
  generalize δ * (A * A') = Y2 at *
  generalize A * A' = Y3 at *
  clear e1 e2 e3 e4 e5 hT hT' i3 i4
  grind
def tmR (a b c d : Nat) : Nat := fop .sub .f64 (fop .mul .f64 (up a) (up c)) (fop .mul .f64 (up b) (up d))
def tmI (a b c d : Nat) : Nat := fop .add .f64 (fop .mul .f64 (up a) (up d)) (fop .mul .f64 (up b) (up c))
def nrB (x : Nat) : Bool := (fF .f64 x .f32).isSome
theorem JP {x : Nat} (h : nrB x = true) : fF .f64 x .f32 = some (nrw x) := by
  unfold nrB at h
  unfold nrw
  cases hx : fF .f64 x .f32 with
  | none => rw [hx] at h; cases h
  | some v => rfl
theorem JQ {x y : Nat} (h : fF .f64 x .f32 = some y) : nrB x = true := by unfold nrB; rw [h]; rfl
def mcB (a b c d : Nat) : Bool := nrB (tmR a b c d) && nrB (tmI a b c d)
theorem ZG {a b c d : Nat} (h : A8 a b c d) : mcB a b c d = true := by unfold mcB; rw [show nrB (tmR a b c d) = true from JQ h.1, show nrB (tmI a b c d) = true from JQ h.2]; rfl
def qtB (a b c d : Nat) : Bool := nrB (fop .quo .f64 (t1R a b c d) (pwD c d)) && nrB (fop .quo .f64 (t1I a b c d) (pwD c d))
def pwB (a b : Nat) : Bool := nrB (pwD a b)
def ax7 : Fns := gX []
theorem aA6 : ∀ f, FnT Try.prog f (ax7 f) := bJ
theorem aOQ (N : Nat) (a : Nat) (b : Nat) (c : Nat) (d : Nat) : run ty ax7 fB N Try.f52 [.cx .f32 a b, .cx .f32 c d] []
    = (match fF .f32 a .f64 with | some c1 => (match fF .f32 b .f64 with | some c2 => (match fF .f32 c .f64 with | some c3 => (match fF .f32 d .f64 with | some c4 => some (.tup [.a (.fl .f64 (fop .sub .f64 (fop .mul .f64 c1 c3) (fop .mul .f64 c2 c4))), .a (.fl .f64 (fop .add .f64 (fop .mul .f64 c1 c4) (fop .mul .f64 c2 c3)))], []) | none => none) | none => none) | none => none) | none => none) := by
  kernel_rfl
def aOR : GT := fun vs h => match vs, h with | [.cx .f32 a b, .cx .f32 c d], [] => .ret (.tup [.a (.fl .f64 (tmR a b c d)), .a (.fl .f64 (tmI a b c d))]) [] | _, _ => .no
theorem aHF : FnT Try.prog 52 aOR := by
  refine fnT aA6 Try.func52 rfl rfl fB fun vs h v h' e => ⟨0, ?_⟩
  unfold aOR at e
  split at e
  case h_2 => exact (T.no_inv e).elim
  obtain ⟨rfl, rfl⟩ := T.ret_inv e
  refine Eq.trans (aOQ 0 _ _ _ _) ?_
  try simp only [lU]
  try rfl
def ax8 : Fns := gX []
theorem aA7 : ∀ f, FnT Try.prog f (ax8 f) := bJ
theorem aOS (N : Nat) (a : Nat) (b : Nat) : run ty ax8 fB N Try.f53 [.cx .f32 a b] []
    = some (.cx .f32 a (I5 .f32 b), []) := by
  kernel_rfl
def aVR : GT := fun vs h => match vs, h with | [.cx .f32 a b], [] => .ret (.cx .f32 a (I5 .f32 b)) [] | _, _ => .no
theorem aVS : FnT Try.prog 53 aVR := by
  refine fnT aA7 Try.func53 rfl rfl fB fun vs h v h' e => ⟨0, ?_⟩
  unfold aVR at e
  split at e
  case h_2 => exact (T.no_inv e).elim
  obtain ⟨rfl, rfl⟩ := T.ret_inv e
  refine Eq.trans (aOS 0 _ _) ?_
  try simp only [lU]
  try rfl
def ax9 : Fns := gX []
theorem aA8 : ∀ f, FnT Try.prog f (ax9 f) := bJ
theorem aOT (N : Nat) (a : Nat) (b : Nat) (c : Nat) (d : Nat) : run ty ax9 fB N Try.f31 [.cx .f32 a b, .cx .f32 c d] []
    = some (.cx .f32 (fop .add .f32 a c) (fop .add .f32 b d), []) := by
  kernel_rfl
def aHG : GT := fun vs h => match vs, h with | [.cx .f32 a b, .cx .f32 c d], [] => .ret (.cx .f32 (fop .add .f32 a c) (fop .add .f32 b d)) [] | _, _ => .no
theorem aVT : FnT Try.prog 31 aHG := by
  refine fnT aA8 Try.func31 rfl rfl fB fun vs h v h' e => ⟨0, ?_⟩
  unfold aHG at e
  split at e
  case h_2 => exact (T.no_inv e).elim
  obtain ⟨rfl, rfl⟩ := T.ret_inv e
  refine Eq.trans (aOT 0 _ _ _ _) ?_
  try simp only [lU]
  try rfl
def ayA : Fns := gX []
theorem aA9 : ∀ f, FnT Try.prog f (ayA f) := bJ
theorem aOU (N : Nat) (a : Nat) (b : Nat) (c : Nat) (d : Nat) : run ty ayA fB N Try.f32 [.cx .f32 a b, .cx .f32 c d] []
    = some (.cx .f32 (fop .sub .f32 a c) (fop .sub .f32 b d), []) := by
  kernel_rfl
def aHH : GT := fun vs h => match vs, h with | [.cx .f32 a b, .cx .f32 c d], [] => .ret (.cx .f32 (fop .sub .f32 a c) (fop .sub .f32 b d)) [] | _, _ => .no
theorem aVU : FnT Try.prog 32 aHH := by
  refine fnT aA9 Try.func32 rfl rfl fB fun vs h v h' e => ⟨0, ?_⟩
  unfold aHH at e
  split at e
  case h_2 => exact (T.no_inv e).elim
  obtain ⟨rfl, rfl⟩ := T.ret_inv e
  refine Eq.trans (aOU 0 _ _ _ _) ?_
  try simp only [lU]
  try rfl
def ayB : Fns := gX []
theorem aBA : ∀ f, FnT Try.prog f (ayB f) := bJ
theorem aOV (N : Nat) (a : Nat) (b : Nat) (c : Nat) : run ty ayB fB N Try.f33 [.cx .f32 a b, .fl .f32 c] []
    = some (.cx .f32 (fop .mul .f32 a c) (fop .mul .f32 b c), []) := by
  kernel_rfl
def aVV : GT := fun vs h => match vs, h with | [.cx .f32 a b, .fl .f32 c], [] => .ret (.cx .f32 (fop .mul .f32 a c) (fop .mul .f32 b c)) [] | _, _ => .no
theorem aVW : FnT Try.prog 33 aVV := by
  refine fnT aBA Try.func33 rfl rfl fB fun vs h v h' e => ⟨0, ?_⟩
  unfold aVV at e
  split at e
  case h_2 => exact (T.no_inv e).elim
  obtain ⟨rfl, rfl⟩ := T.ret_inv e
  refine Eq.trans (aOV 0 _ _ _) ?_
  try simp only [lU]
  try rfl
def ayC : Fns := gX []
theorem aBB : ∀ f, FnT Try.prog f (ayC f) := bJ
theorem aOW (N : Nat) (a : Nat) (b : Nat) : run ty ayC fB N Try.f40 [.cx .f32 a b] []
    = (match fF .f32 a .f64 with | some c1 => (match fF .f32 b .f64 with | some c2 => some (.fl .f64 (fop .add .f64 (fop .mul .f64 c1 c1) (fop .mul .f64 c2 c2)), []) | none => none) | none => none) := by
  kernel_rfl
def aOX : GT := fun vs h => match vs, h with | [.cx .f32 a b], [] => .ret (.fl .f64 (pwD a b)) [] | _, _ => .no
theorem aHI : FnT Try.prog 40 aOX := by
  refine fnT aBB Try.func40 rfl rfl fB fun vs h v h' e => ⟨0, ?_⟩
  unfold aOX at e
  split at e
  case h_2 => exact (T.no_inv e).elim
  obtain ⟨rfl, rfl⟩ := T.ret_inv e
  refine Eq.trans (aOW 0 _ _) ?_
  try simp only [lU]
  try rfl
def ayD : Fns := gX [(40, aOX)]
theorem aBC : ∀ f, FnT Try.prog f (ayD f) := (aC (k := 40) aHI bJ)
theorem aOY (N : Nat) (a : Nat) (b : Nat) : run ty ayD fB N Try.f14 [.cx .f32 a b] []
    = (match fF .f64 (pwD a b) .f32 with | some c1 => some (.fl .f32 c1, []) | none => none) := by
  kernel_rfl
def agO : GT := fun vs h => match vs, h with | [.cx .f32 a b], [] => .ite (pwB a b) (.ret (.fl .f32 (pwN a b)) []) .no | _, _ => .no
theorem JR : FnT Try.prog 14 agO := by
  refine fnT aBC Try.func14 rfl rfl fB fun vs h v h' e => ⟨0, ?_⟩
  unfold agO at e
  split at e
  case h_2 => exact (T.no_inv e).elim
  obtain ⟨hd, e⟩ := T.pre_inv e
  obtain ⟨rfl, rfl⟩ := T.ret_inv e
  refine Eq.trans (aOY 0 _ _) ?_
  rw [JP hd]
  try rfl
def ayE : Fns := gX [(52, aOR)]
theorem aBD : ∀ f, FnT Try.prog f (ayE f) := (aC (k := 52) aHF bJ)
theorem aOZ (N : Nat) (a : Nat) (b : Nat) (c : Nat) (d : Nat) : run ty ayE fB N Try.f34 [.cx .f32 a b, .cx .f32 c d] []
    = (match fF .f64 (tmR a b c d) .f32 with | some c1 => (match fF .f64 (tmI a b c d) .f32 with | some c2 => some (.cx .f32 c1 c2, []) | none => none) | none => none) := by
  kernel_rfl
def aVX : GT := fun vs h => match vs, h with | [.cx .f32 a b, .cx .f32 c d], [] => .ite (mcB a b c d) (.ret (.cx .f32 (mcR a b c d) (mcI a b c d)) []) .no | _, _ => .no
theorem aVY : FnT Try.prog 34 aVX := by
  refine fnT aBD Try.func34 rfl rfl fB fun vs h v h' e => ⟨0, ?_⟩
  unfold aVX at e
  split at e
  case h_2 => exact (T.no_inv e).elim
  obtain ⟨hd, e⟩ := T.pre_inv e
  obtain ⟨rfl, rfl⟩ := T.ret_inv e
  unfold mcB at hd
  rw [Bool.and_eq_true] at hd
  refine Eq.trans (aOZ 0 _ _ _ _) ?_
  rw [JP hd.1, JP hd.2]
  try rfl
def ayF : Fns := gX [(53, aVR), (52, aOR), (40, aOX)]
theorem aBE : ∀ f, FnT Try.prog f (ayF f) := (aC (k := 53) aVS (aC (k := 52) aHF (aC (k := 40) aHI bJ)))
theorem aO0 (N : Nat) (a : Nat) (b : Nat) (c : Nat) (d : Nat) : run ty ayF fB N Try.f30 [.cx .f32 a b, .cx .f32 c d] []
    = (match fF .f64 (fop .quo .f64 (tmR a b c (I5 .f32 d)) (pwD c d)) .f32 with | some c1 => (match fF .f64 (fop .quo .f64 (tmI a b c (I5 .f32 d)) (pwD c d)) .f32 with | some c2 => some (.cx .f32 c1 c2, []) | none => none) | none => none) := by
  kernel_rfl
def aVZ : GT := fun vs h => match vs, h with | [.cx .f32 a b, .cx .f32 c d], [] => .ite (qtB a b c d) (.ret (.cx .f32 (qtR a b c d) (qtI a b c d)) []) .no | _, _ => .no
theorem aV1 : FnT Try.prog 30 aVZ := by
  refine fnT aBE Try.func30 rfl rfl fB fun vs h v h' e => ⟨0, ?_⟩
  unfold aVZ at e
  split at e
  case h_2 => exact (T.no_inv e).elim
  obtain ⟨hd, e⟩ := T.pre_inv e
  obtain ⟨rfl, rfl⟩ := T.ret_inv e
  unfold qtB at hd
  rw [Bool.and_eq_true] at hd
  refine Eq.trans (aO0 0 _ _ _ _) ?_
  have h1 := JP hd.1
  have h2 := JP hd.2
  unfold t1R at h1
  unfold t1I at h2
  unfold tmR tmI
  rw [h1, h2]
  try rfl
def trW (a b : Nat) : Nat := fop .quo .f64 (up (fop .mul .f32 a b)) 4618760256179416344
def aV2 : GT := fun vs h => match vs, h with | [.fl .f32 a, .fl .f32 b], [] => .ret (.fl .f64 (trW a b)) [] | _, _ => .no
def ayG : Fns := gX []
theorem aBF : ∀ f, FnT Try.prog f (ayG f) := bJ
theorem aO1 (N : Nat) (a : Nat) (b : Nat) : run ty ayG fB N Try.f35 [.fl .f32 a, .fl .f32 b] []
    = (match fF .f32 (fop .mul .f32 a b) .f64 with | some c1 => some (.fl .f64 (fop .quo .f64 c1 4618760256179416344), []) | none => none) := by
  kernel_rfl
theorem aV3 : FnT Try.prog 35 aV2 := by
  refine fnT aBF Try.func35 rfl rfl fB fun vs h v h' e => ⟨0, ?_⟩
  unfold aV2 at e
  split at e
  case h_2 => exact (T.no_inv e).elim
  obtain ⟨rfl, rfl⟩ := T.ret_inv e
  refine Eq.trans (aO1 0 _ _) ?_
  try simp only [lU]
  try rfl
def phR (x : Nat) : Nat := match adW x with | true => (match smB x with | true => nr (phX x) | false => 1065353216) | false => 2143289344
def phI (x : Nat) : Nat := match adW x with | true => (match smB x with | true => nr (phY x) | false => 0) | false => 2143289344
def aV4 : GT := fun vs h => match vs, h with | [.fl .f64 x], [] => .ret (.cx .f32 (phR x) (phI x)) [] | _, _ => .no
theorem FnT.less {f : FuncId} {g g' : GT} (h : FnT Try.prog f g) (e : ∀ vs h v h', (g' vs h).run = some (v, h') → (g vs h).run = some (v, h')) : FnT Try.prog f g' := fun vs h0 v h' hg => h vs h0 v h' (e vs h0 v h' hg)
theorem aV5 : FnT Try.prog 36 aV4 := by
  refine FnT.less aVC fun vs h v h' e => ?_
  unfold aV4 at e
  split at e
  case h_2 => exact (T.no_inv e).elim
  rename_i x
  refine Eq.trans ?_ e
  unfold phR phI
  show T.run (T.ite (adW x) _ _) = _
  cases adW x
  · rfl
  · cases smB x <;> rfl
def mQ (z y : Nat × Nat) (w : W4) : W4 := edW (fop .add .f32 1065353216 (qtR z.1 z.2 y.1 y.2)) (fop .add .f32 0 (qtI z.1 z.2 y.1 y.2)) (fop .sub .f32 1065353216 (qtR z.1 z.2 y.1 y.2)) (fop .sub .f32 0 (qtI z.1 z.2 y.1 y.2)) w
def yY (z y : Nat × Nat) (w : W4) : Bool := qtB z.1 z.2 y.1 y.2 && (mcB (fop .add .f32 1065353216 (qtR z.1 z.2 y.1 y.2)) (fop .add .f32 0 (qtI z.1 z.2 y.1 y.2)) w.ar w.ai && (mcB (fop .sub .f32 1065353216 (qtR z.1 z.2 y.1 y.2)) (fop .sub .f32 0 (qtI z.1 z.2 y.1 y.2)) w.br w.bi && (mcB (fop .sub .f32 1065353216 (qtR z.1 z.2 y.1 y.2)) (fop .sub .f32 0 (qtI z.1 z.2 y.1 y.2)) w.ar w.ai && mcB (fop .add .f32 1065353216 (qtR z.1 z.2 y.1 y.2)) (fop .add .f32 0 (qtI z.1 z.2 y.1 y.2)) w.br w.bi)))
def ahZ (z : Nat × Nat) : Bool := FloatKind.f32.format.order z.1 0 != some .eq
def OE (z : Nat × Nat) (d : Nat) : Pc := match ahZ z with
  | true => .ph (phR (fop .sub .f64 0 (trW z.1 d))) (phI (fop .sub .f64 0 (trW z.1 d))) (phR (trW z.1 d)) (phI (trW z.1 d))
  | false => .ex (an0 (fop .mul .f32 z.2 d)) (an0 (fop .sub .f32 0 (fop .mul .f32 z.2 d)))
def pcB (z : Nat × Nat) (d : Nat) (w : W4) : Bool := match ahZ z with
  | true => mcB w.ar w.ai (phR (fop .sub .f64 0 (trW z.1 d))) (phI (fop .sub .f64 0 (trW z.1 d))) && mcB w.br w.bi (phR (trW z.1 d)) (phI (trW z.1 d))
  | false => adP (fop .mul .f32 z.2 d) && adP (fop .sub .f32 0 (fop .mul .f32 z.2 d))
def zz : Nat × Nat := (0, 0)
def amW (L : List (Nat × Nat)) (l : List Nat) : Nat → W4 → W4
  | 0, w => w
  | 1, w => mQ (L.getD 1 zz) (L.getD 0 zz) w
  | k + 2, w => amW L l (k + 1) (pG (OE (L.getD (k + 1) zz) (fop .sub .f32 (l.getD (k + 1) 0) (l.getD k 0))) (mQ (L.getD (k + 2) zz) (L.getD (k + 1) zz) w))
def amB (L : List (Nat × Nat)) (l : List Nat) : Nat → W4 → Bool
  | 0, _ => true
  | 1, w => yY (L.getD 1 zz) (L.getD 0 zz) w
  | k + 2, w => yY (L.getD (k + 2) zz) (L.getD (k + 1) zz) w && (pcB (L.getD (k + 1) zz) (fop .sub .f32 (l.getD (k + 1) 0) (l.getD k 0)) (mQ (L.getD (k + 2) zz) (L.getD (k + 1) zz) w) && amB L l (k + 1) (pG (OE (L.getD (k + 1) zz) (fop .sub .f32 (l.getD (k + 1) 0) (l.getD k 0))) (mQ (L.getD (k + 2) zz) (L.getD (k + 1) zz) w)))
theorem ah0 {z y : Nat × Nat} {w : W4} (h : yY z y w = true) : qtB z.1 z.2 y.1 y.2 = true ∧ mcB (fop .add .f32 1065353216 (qtR z.1 z.2 y.1 y.2)) (fop .add .f32 0 (qtI z.1 z.2 y.1 y.2)) w.ar w.ai = true ∧ mcB (fop .sub .f32 1065353216 (qtR z.1 z.2 y.1 y.2)) (fop .sub .f32 0 (qtI z.1 z.2 y.1 y.2)) w.br w.bi = true ∧ mcB (fop .sub .f32 1065353216 (qtR z.1 z.2 y.1 y.2)) (fop .sub .f32 0 (qtI z.1 z.2 y.1 y.2)) w.ar w.ai = true ∧ mcB (fop .add .f32 1065353216 (qtR z.1 z.2 y.1 y.2)) (fop .add .f32 0 (qtI z.1 z.2 y.1 y.2)) w.br w.bi = true := by
  unfold yY at h
  simp only [Bool.and_eq_true] at h
  exact h
def phW (k d : Nat) (w : W4) : W4 := paW (phR (fop .sub .f64 0 (trW k d))) (phI (fop .sub .f64 0 (trW k d))) (phR (trW k d)) (phI (trW k d)) w
def gxW (k d : Nat) (w : W4) : W4 := exW (an0 (fop .mul .f32 k d)) (an0 (fop .sub .f32 0 (fop .mul .f32 k d))) w
def akA : Ann := ⟨fun r => if r = 6 then some ([2, 7, 9, 10, 11], [9, 10]) else none, fun _ _ => .quiet⟩
def acS : Fns := gX [(9, gWn), (30, aVZ), (31, aHG), (32, aHH), (34, aVX), (33, aVV), (35, aV2), (36, aV4), (37, aVD), (29, aoF)]
theorem aBG : ∀ f, FnT Try.prog f (acS f) := (aC (k := 9) zJ (aC (k := 30) aV1 (aC (k := 31) aVT (aC (k := 32) aVU (aC (k := 34) aVY (aC (k := 33) aVW (aC (k := 35) aV3 (aC (k := 36) aV5 (aC (k := 37) ajY (aC (k := 29) ar4 bJ))))))))))
def SE (waves7n : Nat) (a9r : Nat) (a9i : Nat) (b10r : Nat) (b10i : Nat) (i11 : Int) (rw0 : Bool) (l0 : List Nat) (rw1 : Bool) (l1 : List Nat) (b2_0n : Nat) (b2_1n : Nat) (l3 : List (Nat × Nat)) : St := ⟨(.any :: .any :: .ptr 2 0 :: .any :: .any :: .any :: .any :: .sl 3 0 waves7n :: .any :: .cx .f32 a9r a9i :: .cx .f32 b10r b10i :: .int .i64 i11 :: (fE 114 [])), [.at rw0 (.fl .f32 l0), .at rw1 (.fl .f32 l1), .at true (.as 1 [.sl 0 0 b2_0n, .sl 1 0 b2_1n]), .at true (.cx .f32 l3)]⟩
abbrev aO2 : Option (List Nat × List Nat) := some ([2, 7, 9, 10, 11], [9, 10])
noncomputable def SG {R : Type} (N M : Nat) (s : St) (K : X → St → Option R) : Option R := pO 2 aO2 (fun st K => exec ty acS akA N 2 (oD [true, true, true, true, false, true, false, false] Try.f10) st K) M s K
noncomputable def akB {R : Type} (N : Nat) (K : X → St → Option R) : X → St → Option R := rF 0 (yS acS akA N 2 (oD [true, true, true, true, true] Try.f10) (K))
def MR (a9r : Nat) (a9i : Nat) (b10r : Nat) (b10i : Nat) (rw0 : Bool) (l0 : List Nat) (rw1 : Bool) (l1 : List Nat) : St := ⟨(fE 9 (.cx .f32 a9r a9i :: .cx .f32 b10r b10i :: (fE 115 []))), [.at rw0 (.fl .f32 l0), .at rw1 (.fl .f32 l1)]⟩
theorem aO3 (N : Nat) (n : Nat) (m : Nat) (e : Nat) (r0 : Bool) (l0 : List Nat) (r1 : Bool) (l1 : List Nat) : run ty acS akA N Try.f10 [.g [.sl 0 0 n, .sl 1 0 m], .fl .f32 e] [.at r0 (.fl .f32 l0), .at r1 (.fl .f32 l1)]
    = (match decide (l0.length = n ∧ n < 2147483648 ∧ l1.length = m ∧ m < 2147483648) with | true => (match OC l0 l1 e with | true => SG N N (SE ((wvL e l1).length) 1065353216 0 0 0 (IntKind.i64.wrap (((n : Nat) : Int) - 1)) r0 l0 r1 l1 n m (wvL e l1)) (akB N (mF Try.f10 2)) | false => some (.tup [.a (.cx .f32 0 0), .a (.cx .f32 0 0), .a (.bool false)], [.at r0 (.fl .f32 l0), .at r1 (.fl .f32 l1)])) | false => none) := by
  kernel_rfl
theorem ZH {R : Type} (N M : Nat) (K : X → St → Option R) (waves7n : Nat) (a9r : Nat) (a9i : Nat) (b10r : Nat) (b10i : Nat) (i11 : Int) (rw0 : Bool) (l0 : List Nat) (rw1 : Bool) (l1 : List Nat) (b2_0n : Nat) (b2_1n : Nat) (l3 : List (Nat × Nat)) : SG N (M + 1) (SE waves7n a9r a9i b10r b10i i11 rw0 l0 rw1 l1 b2_0n b2_1n l3) K
    = (match decide ((i11 : Int) ≥ 0) with | true => (match decide (0 ≤ (IntKind.i64.wrap (i11 + 1) : Int) ∧ (IntKind.i64.wrap (i11 + 1) : Int) < ((waves7n : Nat) : Int)) with | true => (match l3[0 + (IntKind.i64.wrap (i11 + 1)).toNat * 1]? with | some (e1, e2) => (match decide (0 ≤ (i11 : Int) ∧ (i11 : Int) < ((waves7n : Nat) : Int)) with | true => (match l3[0 + (i11).toNat * 1]? with | some (e3, e4) => (match qtB e1 e2 e3 e4 with | true => (match mcB (fop .add .f32 1065353216 (qtR e1 e2 e3 e4)) (fop .add .f32 0 (qtI e1 e2 e3 e4)) a9r a9i with | true => (match mcB (fop .sub .f32 1065353216 (qtR e1 e2 e3 e4)) (fop .sub .f32 0 (qtI e1 e2 e3 e4)) b10r b10i with | true => (match mcB (fop .sub .f32 1065353216 (qtR e1 e2 e3 e4)) (fop .sub .f32 0 (qtI e1 e2 e3 e4)) a9r a9i with | true => (match mcB (fop .add .f32 1065353216 (qtR e1 e2 e3 e4)) (fop .add .f32 0 (qtI e1 e2 e3 e4)) b10r b10i with | true => (match i11 == 0 with | true => K (.exit 0) (MR (mQ (e1, e2) (e3, e4) ⟨a9r, a9i, b10r, b10i⟩).ar (mQ (e1, e2) (e3, e4) ⟨a9r, a9i, b10r, b10i⟩).ai (mQ (e1, e2) (e3, e4) ⟨a9r, a9i, b10r, b10i⟩).br (mQ (e1, e2) (e3, e4) ⟨a9r, a9i, b10r, b10i⟩).bi rw0 l0 rw1 l1) | false => (match decide (0 ≤ (i11 : Int) ∧ (i11 : Int) < ((b2_0n : Nat) : Int)) with | true => (match l0[0 + (i11).toNat * 1]? with | some e5 => (match decide (0 ≤ (IntKind.i64.wrap (i11 - 1) : Int) ∧ (IntKind.i64.wrap (i11 - 1) : Int) < ((b2_0n : Nat) : Int)) with | true => (match l0[0 + (IntKind.i64.wrap (i11 - 1)).toNat * 1]? with | some e6 => (match decide (0 ≤ (i11 : Int) ∧ (i11 : Int) < ((waves7n : Nat) : Int)) with | true => (match l3[0 + (i11).toNat * 1]? with | some (e7, e8) => (match FloatKind.f32.format.order e7 0 != some .eq with | true => (match mcB (mQ (e1, e2) (e3, e4) ⟨a9r, a9i, b10r, b10i⟩).ar (mQ (e1, e2) (e3, e4) ⟨a9r, a9i, b10r, b10i⟩).ai (phR (fop .sub .f64 0 (trW e7 (fop .sub .f32 e5 e6)))) (phI (fop .sub .f64 0 (trW e7 (fop .sub .f32 e5 e6)))) with | true => (match mcB (mQ (e1, e2) (e3, e4) ⟨a9r, a9i, b10r, b10i⟩).br (mQ (e1, e2) (e3, e4) ⟨a9r, a9i, b10r, b10i⟩).bi (phR (trW e7 (fop .sub .f32 e5 e6))) (phI (trW e7 (fop .sub .f32 e5 e6))) with | true => SG N M (SE waves7n (phW e7 (fop .sub .f32 e5 e6) (mQ (e1, e2) (e3, e4) ⟨a9r, a9i, b10r, b10i⟩)).ar (phW e7 (fop .sub .f32 e5 e6) (mQ (e1, e2) (e3, e4) ⟨a9r, a9i, b10r, b10i⟩)).ai (phW e7 (fop .sub .f32 e5 e6) (mQ (e1, e2) (e3, e4) ⟨a9r, a9i, b10r, b10i⟩)).br (phW e7 (fop .sub .f32 e5 e6) (mQ (e1, e2) (e3, e4) ⟨a9r, a9i, b10r, b10i⟩)).bi (IntKind.i64.wrap (i11 - 1)) rw0 l0 rw1 l1 b2_0n b2_1n l3) K | false => none) | false => none) | false => (match decide (0 ≤ (i11 : Int) ∧ (i11 : Int) < ((waves7n : Nat) : Int)) with | true => (match l3[0 + (i11).toNat * 1]? with | some (e9, e10) => (match adP (fop .mul .f32 e10 (fop .sub .f32 e5 e6)) with | true => (match adP (fop .sub .f32 0 (fop .mul .f32 e10 (fop .sub .f32 e5 e6))) with | true => SG N M (SE waves7n (gxW e10 (fop .sub .f32 e5 e6) (mQ (e1, e2) (e3, e4) ⟨a9r, a9i, b10r, b10i⟩)).ar (gxW e10 (fop .sub .f32 e5 e6) (mQ (e1, e2) (e3, e4) ⟨a9r, a9i, b10r, b10i⟩)).ai (gxW e10 (fop .sub .f32 e5 e6) (mQ (e1, e2) (e3, e4) ⟨a9r, a9i, b10r, b10i⟩)).br (gxW e10 (fop .sub .f32 e5 e6) (mQ (e1, e2) (e3, e4) ⟨a9r, a9i, b10r, b10i⟩)).bi (IntKind.i64.wrap (i11 - 1)) rw0 l0 rw1 l1 b2_0n b2_1n l3) K | false => none) | false => none) | none => none) | false => none)) | none => none) | false => none) | none => none) | false => none) | none => none) | false => none)) | false => none) | false => none) | false => none) | false => none) | false => none) | none => none) | false => none) | none => none) | false => none) | false => K (.exit 0) (MR a9r a9i b10r b10i rw0 l0 rw1 l1)) := by
  kernel_rfl
theorem asQ (N : Nat) (a9r : Nat) (a9i : Nat) (b10r : Nat) (b10i : Nat) (rw0 : Bool) (l0 : List Nat) (rw1 : Bool) (l1 : List Nat) : akB N (mF Try.f10 2) (.exit 0) (MR a9r a9i b10r b10i rw0 l0 rw1 l1)
    = (match !(cfB (a9r, a9i)) with | true => some (.tup [.a (.cx .f32 0 0), .a (.cx .f32 0 0), .a (.bool false)], [.at rw0 (.fl .f32 l0), .at rw1 (.fl .f32 l1)]) | false => (match !(cfB (b10r, b10i)) with | true => some (.tup [.a (.cx .f32 0 0), .a (.cx .f32 0 0), .a (.bool false)], [.at rw0 (.fl .f32 l0), .at rw1 (.fl .f32 l1)]) | false => some (.tup [.a (.cx .f32 a9r a9i), .a (.cx .f32 b10r b10i), .a (.bool true)], [.at rw0 (.fl .f32 l0), .at rw1 (.fl .f32 l1)]))) := by
  kernel_rfl
theorem abZ {L : List (Nat × Nat)} {i : Nat} (h : i < L.length) : L[i]? = some (L.getD i zz) := by simp [List.getD_eq_getElem?_getD, h]
theorem aHJ {R : Type} (M n m : Nat) (K : X → St → Option R) (r0 r1 : Bool) (l0 l1 : List Nat) (L : List (Nat × Nat)) (hL : l0.length < L.length) (hb : L.length < 1000) (hn : n = l0.length) : ∀ k w, k ≤ l0.length → amB L l0 k w = true →
    SG 40 (M + k + 1) (SE L.length w.ar w.ai w.br w.bi (((k : Nat) : Int) - 1) r0 l0 r1 l1 n m L) K = K (.exit 0) (MR (amW L l0 k w).ar (amW L l0 k w).ai (amW L l0 k w).br (amW L l0 k w).bi r0 l0 r1 l1)
  | 0, w, hk, h => by
    rw [ZH, decide_eq_false (show ¬ ((0 : Nat) : Int) - 1 ≥ 0 by omega)]
    unfold amW
    rfl
  | 1, ⟨w1, w2, w3, w4⟩, hk, h => by
    have h0 : yY (L.getD 1 zz) (L.getD 0 zz) ⟨w1, w2, w3, w4⟩ = true := h
    have hi1 : IntKind.i64.wrap (((1 : Nat) : Int) - 1 + 1) = ((1 : Nat) : Int) := by rw [kP (by omega) (by omega)]; omega
    have hi0 : ((1 : Nat) : Int) - 1 = ((0 : Nat) : Int) := rfl
    have g1 := abZ (show 1 < L.length by omega)
    have g0 := abZ (show 0 < L.length by omega)
    have hA : amW L l0 1 ⟨w1, w2, w3, w4⟩ = mQ (L.getD 1 zz) (L.getD 0 zz) ⟨w1, w2, w3, w4⟩ := rfl
    rw [hA]
    clear h hA
    generalize L.getD 1 zz = z at *
    generalize L.getD 0 zz = y at *
    obtain ⟨z1, z2⟩ := z
    obtain ⟨y1, y2⟩ := y
    obtain ⟨h1, h2, h3, h4, h5⟩ := ah0 h0
    dsimp only at h1 h2 h3 h4 h5
    rw [ZH, hi1, hi0, decide_eq_true (show ((0 : Nat) : Int) ≥ 0 by omega), din (show 1 < L.length by omega), ix, g1, din (show 0 < L.length by omega), ix, g0]
    dsimp only
    rw [h1, h2, h3, h4, h5, show (((0 : Nat) : Int) == 0) = true from rfl]
  | k + 2, ⟨w1, w2, w3, w4⟩, hk, h => by
    have h0 := h
    unfold amB at h0
    rw [Bool.and_eq_true, Bool.and_eq_true] at h0
    obtain ⟨he, hp, hr⟩ := h0
    have hi2 : IntKind.i64.wrap (((k + 2 : Nat) : Int) - 1 + 1) = ((k + 2 : Nat) : Int) := by rw [kP (by omega) (by omega)]; omega
    have hi1 : ((k + 2 : Nat) : Int) - 1 = ((k + 1 : Nat) : Int) := by omega
    have hi0 : IntKind.i64.wrap (((k + 1 : Nat) : Int) - 1) = ((k : Nat) : Int) := by rw [kP (by omega) (by omega)]; omega
    have ih := aHJ M n m K r0 r1 l0 l1 L hL hb hn (k + 1) _ (by omega) hr
    have hA : amW L l0 (k + 2) ⟨w1, w2, w3, w4⟩ = amW L l0 (k + 1) (pG (OE (L.getD (k + 1) zz) (fop .sub .f32 (l0.getD (k + 1) 0) (l0.getD k 0))) (mQ (L.getD (k + 2) zz) (L.getD (k + 1) zz) ⟨w1, w2, w3, w4⟩)) := rfl
    rw [hA]
    clear h hA hr
    have hz : (((k + 1 : Nat) : Int) == 0) = false := beq_eq_false_iff_ne.mpr (by omega)
    have g2 := abZ (show k + 2 < L.length by omega)
    have g1 := abZ (show k + 1 < L.length by omega)
    have f1 := iY (show k + 1 < l0.length by omega)
    have f0 := iY (show k < l0.length by omega)
    have hi1' : ((k + 1 : Nat) : Int) - 1 = ((k : Nat) : Int) := by omega
    generalize l0.getD (k + 1) 0 = d1 at *
    generalize l0.getD k 0 = d0 at *
    generalize L.getD (k + 2) zz = z at *
    generalize L.getD (k + 1) zz = y at *
    obtain ⟨z1, z2⟩ := z
    obtain ⟨y1, y2⟩ := y
    obtain ⟨h1, h2, h3, h4, h5⟩ := ah0 he
    dsimp only at h1 h2 h3 h4 h5
    rw [show M + (k + 2) + 1 = (M + (k + 1) + 1) + 1 by omega, ZH, hi2, hi1, hi0, hz, decide_eq_true (show ((k + 1 : Nat) : Int) ≥ 0 by omega), din (show k + 2 < L.length by omega), ix, g2, din (show k + 1 < L.length by omega), ix, g1]
    dsimp only
    rw [h1, h2, h3, h4, h5, hn, din (show k + 1 < l0.length by omega), din (show k < l0.length by omega), f1, ix, f0]
    dsimp only
    subst hn
    unfold pcB ahZ at hp
    unfold OE ahZ at ih ⊢
    rw [hi1'] at ih
    generalize mQ (z1, z2) (y1, y2) ⟨w1, w2, w3, w4⟩ = w at *
    dsimp only at hp ih ⊢
    cases hrun : (FloatKind.f32.format.order y1 0 != some .eq) with
    | true =>
      rw [hrun] at hp ih
      dsimp only at hp ih ⊢
      rw [Bool.and_eq_true] at hp
      rw [hp.1, hp.2]
      dsimp only
      exact ih
    | false =>
      rw [hrun] at hp ih
      dsimp only at hp ih ⊢
      rw [Bool.and_eq_true] at hp
      rw [hp.1, hp.2]
      dsimp only
      exact ih
def waW (l0 l1 : List Nat) (e : Nat) : W4 := amW (wvL e l1) l0 l0.length oP
def ZI (l0 l1 : List Nat) (e : Nat) : Bool := OC l0 l1 e && (amB (wvL e l1) l0 l0.length oP && (cfB ((waW l0 l1 e).ar, (waW l0 l1 e).ai) && cfB ((waW l0 l1 e).br, (waW l0 l1 e).bi)))
def gWa : GT := fun vs h => match vs, h with
  | [.g [.sl 0 0 n, .sl 1 0 m], .fl .f32 e], [.at r0 (.fl .f32 l0), .at r1 (.fl .f32 l1)] => .ite (decide (l0.length = n ∧ n < 2147483648 ∧ l1.length = m ∧ m < 2147483648) && ZI l0 l1 e) (.ret (.tup [.a (.cx .f32 (waW l0 l1 e).ar (waW l0 l1 e).ai), .a (.cx .f32 (waW l0 l1 e).br (waW l0 l1 e).bi), .a (.bool true)]) [.at r0 (.fl .f32 l0), .at r1 (.fl .f32 l1)]) .no
  | _, _ => .no
theorem JS : FnT Try.prog 10 gWa := by
  refine fnT aBG Try.func10 rfl rfl akA fun vs h v h' ee => ⟨40, ?_⟩
  unfold gWa at ee
  split at ee
  case h_2 => exact (T.no_inv ee).elim
  rename_i n m e r0 l0 r1 l1
  obtain ⟨hd, ee⟩ := T.pre_inv ee
  obtain ⟨rfl, rfl⟩ := T.ret_inv ee
  rw [Bool.and_eq_true] at hd
  obtain ⟨hs, hw⟩ := hd
  refine Eq.trans (aO3 40 n m e r0 l0 r1 l1) ?_
  rw [hs]
  obtain ⟨rfl, hb, rfl, hb2⟩ := of_decide_eq_true hs
  unfold ZI at hw
  simp only [Bool.and_eq_true] at hw
  obtain ⟨h1, h2, h3, h4⟩ := hw
  rw [h1]
  dsimp only
  have hv : vsB l0 l1 = true := by unfold OC at h1; rw [Bool.and_eq_true] at h1; exact h1.1
  unfold vsB at hv
  simp only [Bool.and_eq_true] at hv
  have h12 := of_decide_eq_true hv.1
  have hl1 := of_decide_eq_true hv.2.1
  have hL : (wvL e l1).length = l1.length := by simp [wvL]
  have hw : IntKind.i64.wrap (((l0.length : Nat) : Int) - 1) = ((l0.length : Nat) : Int) - 1 := kP (by omega) (by omega)
  rw [hw]
  have hlp := aHJ (39 - l0.length) l0.length l1.length (akB 40 (mF Try.f10 2)) r0 r1 l0 l1 (wvL e l1) (by omega) (by omega) rfl l0.length oP (Nat.le_refl _) h2
  rw [show 39 - l0.length + l0.length + 1 = 40 by omega] at hlp
  refine Eq.trans hlp ?_
  rw [asQ]
  unfold waW at h3 h4 ⊢
  rw [h3, h4]
  try rfl
def ssF (l1 : List Nat) (e : Nat) : Nat := ((wvL e l1).getD 0 zz).1
def ssG (l1 : List Nat) (e : Nat) : Nat := ((wvL e l1).getD (l1.length - 1) zz).1
def ssT (l0 l1 : List Nat) (e : Nat) : Nat := fop .quo .f32 (fop .quo .f32 (ssG l1 e) (ssF l1 e)) (pwN (waW l0 l1 e).ar (waW l0 l1 e).ai)
def ssR (l0 l1 : List Nat) (e : Nat) : Nat := bkW (waW l0 l1 e)
def uC (l0 l1 : List Nat) (e : Nat) : Bool := ZI l0 l1 e && (!(eqB (ssF l1 e) 0) && (!(eqB (ssG l1 e) 0) && (pwB (waW l0 l1 e).ar (waW l0 l1 e).ai && (pwB (waW l0 l1 e).br (waW l0 l1 e).bi && (iH (ssT l0 l1 e) && iH (ssR l0 l1 e))))))
def gSs : GT := fun vs h => match vs, h with
  | [.g [.sl 0 0 n, .sl 1 0 m], .fl .f32 e], [.at r0 (.fl .f32 l0), .at r1 (.fl .f32 l1)] => .ite (decide (l0.length = n ∧ n < 2147483648 ∧ l1.length = m ∧ m < 2147483648) && uC l0 l1 e) (.ret (.tup [.a (.fl .f32 (ssT l0 l1 e)), .a (.fl .f32 (ssR l0 l1 e)), .a (.bool true)]) [.at r0 (.fl .f32 l0), .at r1 (.fl .f32 l1)]) .no
  | _, _ => .no
def ayH : Fns := gX [(10, gWa), (9, gWn), (14, agO), (21, QZ iH)]
theorem aBH : ∀ f, FnT Try.prog f (ayH f) := (aC (k := 10) JS (aC (k := 9) zJ (aC (k := 14) JR (aC (k := 21) pF bJ))))
theorem aO4 (N : Nat) (n : Nat) (m : Nat) (e : Nat) (r0 : Bool) (l0 : List Nat) (r1 : Bool) (l1 : List Nat) : run ty ayH fB N Try.f7 [.g [.sl 0 0 n, .sl 1 0 m], .fl .f32 e] [.at r0 (.fl .f32 l0), .at r1 (.fl .f32 l1)]
    = (match decide (l0.length = n ∧ n < 2147483648 ∧ l1.length = m ∧ m < 2147483648) && ZI l0 l1 e with | true => (match decide (l0.length = n ∧ n < 2147483648 ∧ l1.length = m ∧ m < 2147483648) with | true => (match OC l0 l1 e with | true => (match decide (0 ≤ (0 : Int) ∧ (0 : Int) < (((wvL e l1).length : Nat) : Int)) with | true => (match (wvL e l1)[0]? with | some (e1, e2) => (match decide (0 ≤ (IntKind.i64.wrap ((((wvL e l1).length : Nat) : Int) - 1) : Int) ∧ (IntKind.i64.wrap ((((wvL e l1).length : Nat) : Int) - 1) : Int) < (((wvL e l1).length : Nat) : Int)) with | true => (match (wvL e l1)[0 + (IntKind.i64.wrap ((((wvL e l1).length : Nat) : Int) - 1)).toNat * 1]? with | some (e3, e4) => (match eqB e1 0 with | true => some (.tup [.a (.fl .f32 0), .a (.fl .f32 0), .a (.bool false)], [.at r0 (.fl .f32 l0), .at r1 (.fl .f32 l1)]) | false => (match eqB e3 0 with | true => some (.tup [.a (.fl .f32 0), .a (.fl .f32 0), .a (.bool false)], [.at r0 (.fl .f32 l0), .at r1 (.fl .f32 l1)]) | false => (match pwB ((waW l0 l1 e).ar) ((waW l0 l1 e).ai) with | true => (match pwB ((waW l0 l1 e).br) ((waW l0 l1 e).bi) with | true => (match pwB ((waW l0 l1 e).ar) ((waW l0 l1 e).ai) with | true => (match !(iH (fop .quo .f32 (fop .quo .f32 e3 e1) (pwN ((waW l0 l1 e).ar) ((waW l0 l1 e).ai))) && (iH (fop .quo .f32 (pwN ((waW l0 l1 e).br) ((waW l0 l1 e).bi)) (pwN ((waW l0 l1 e).ar) ((waW l0 l1 e).ai))) && true)) with | true => some (.tup [.a (.fl .f32 0), .a (.fl .f32 0), .a (.bool false)], [.at r0 (.fl .f32 l0), .at r1 (.fl .f32 l1)]) | false => some (.tup [.a (.fl .f32 (fop .quo .f32 (fop .quo .f32 e3 e1) (pwN ((waW l0 l1 e).ar) ((waW l0 l1 e).ai)))), .a (.fl .f32 (fop .quo .f32 (pwN ((waW l0 l1 e).br) ((waW l0 l1 e).bi)) (pwN ((waW l0 l1 e).ar) ((waW l0 l1 e).ai)))), .a (.bool true)], [.at r0 (.fl .f32 l0), .at r1 (.fl .f32 l1)])) | false => none) | false => none) | false => none))) | none => none) | false => none) | none => none) | false => none) | false => none) | false => none) | false => none) := by
  kernel_rfl
theorem zL : FnT Try.prog 7 gSs := by
  refine fnT aBH Try.func7 rfl rfl fB fun vs h v h' ee => ⟨40, ?_⟩
  unfold gSs at ee
  split at ee
  case h_2 => exact (T.no_inv ee).elim
  rename_i n m e r0 l0 r1 l1
  obtain ⟨hd, ee⟩ := T.pre_inv ee
  obtain ⟨rfl, rfl⟩ := T.ret_inv ee
  rw [Bool.and_eq_true] at hd
  obtain ⟨hs, hw⟩ := hd
  refine Eq.trans (aO4 40 n m e r0 l0 r1 l1) ?_
  rw [hs]
  obtain ⟨rfl, hb, rfl, hb2⟩ := of_decide_eq_true hs
  clear hs ee
  unfold uC at hw
  simp only [Bool.and_eq_true, Bool.not_eq_true'] at hw
  obtain ⟨hwa, h1, h2, h3, h4, h5, h6⟩ := hw
  have hwn : OC l0 l1 e = true := by unfold ZI at hwa; rw [Bool.and_eq_true] at hwa; exact hwa.1
  have hv : vsB l0 l1 = true := by unfold OC at hwn; rw [Bool.and_eq_true] at hwn; exact hwn.1
  unfold vsB at hv
  simp only [Bool.and_eq_true] at hv
  have h12 := of_decide_eq_true hv.1
  have hl1 := of_decide_eq_true hv.2.1
  have hL : (wvL e l1).length = l1.length := by simp [wvL]
  have hx : IntKind.i64.wrap ((((wvL e l1).length : Nat) : Int) - 1) = ((l1.length - 1 : Nat) : Int) := by rw [hL, kP (by omega) (by omega)]; omega
  have g0 := abZ (show 0 < (wvL e l1).length by omega)
  have g1 := abZ (show l1.length - 1 < (wvL e l1).length by omega)
  unfold ssT ssR bkW at *
  unfold ssF ssG at *
  rw [Bool.true_and, hwa, hwn, hx]
  dsimp only
  rw [hL, show decide (0 ≤ (0 : Int) ∧ (0 : Int) < ((l1.length : Nat) : Int)) = true from decide_eq_true (by omega), din (show l1.length - 1 < l1.length by omega), g0, ix, g1]
  dsimp only
  generalize (wvL e l1).getD 0 zz = z at *
  generalize (wvL e l1).getD (l1.length - 1) zz = y at *
  obtain ⟨z1, z2⟩ := z
  obtain ⟨y1, y2⟩ := y
  dsimp only at *
  rw [h1, h2, h3, h4, h5, h6]
  try rfl
def aoR : GT := fun vs h => match vs, h with | [.sl 0 0 m], [.at rw (.fl .f32 l)] => .ite (decide (l.length = m ∧ 1 ≤ m ∧ m < 2147483648)) (.ret (.sl 1 0 m) [.at rw (.fl .f32 l), .at true (.fl .f32 l)]) .no | _, _ => .no
def aoS : Fns := gX []
theorem asR : ∀ f, FnT Try.prog f (aoS f) := bJ
theorem aHK (N : Nat) (m : Nat) (rw : Bool) (l : List Nat) : run ty aoS fB N Try.f22 [.sl 0 0 m] [.at rw (.fl .f32 l)]
    = (match decide (0 + m * 1 ≤ l.length) with | true => (match zH true 0 1 0 1 (0 + m) 4 with | true => some (.sl 1 0 (0 + m), [.at rw (.fl .f32 l), .at true (.fl .f32 (([] : List Nat) ++ ((l.drop 0).take (m * 1))))]) | false => none) | false => none) := by
  kernel_rfl
theorem MS : FnT Try.prog 22 aoR := by
  refine fnT asR Try.func22 rfl rfl fB fun vs h v h' e => ⟨0, ?_⟩
  unfold aoR at e
  split at e
  case h_2 => exact (T.no_inv e).elim
  rename_i m rw l
  obtain ⟨hd, e⟩ := T.pre_inv e
  obtain ⟨rfl, rfl⟩ := T.ret_inv e
  obtain ⟨rfl, h1, hb⟩ := of_decide_eq_true hd
  refine Eq.trans (aHK 0 _ _ _) ?_
  rw [decide_eq_true (show 0 + l.length * 1 ≤ l.length by omega)]
  have hap : ∀ q : Nat, q < 2147483648 → zH true 0 1 0 1 (0 + q) 4 = true := fun q hq => by
    unfold zH xY
    rw [decide_eq_true (show 0 * 1 = 0 ∧ 1 = 1 from ⟨rfl, rfl⟩), decide_eq_true (show 0 + q ≤ 9223372036854775807 ∧ (0 + q) * 4 ≤ 140737488355328 by omega)]
    rfl
  dsimp only
  rw [hap _ hb]
  simp only [Nat.zero_add, Nat.mul_one, List.drop_zero, List.take_length, List.nil_append]
def aeI : GT := fun vs h => match vs, h with
  | [.g [.sl 0 0 n, .sl 1 0 m]], [.at r0 (.fl .f32 l0), .at r1 (.fl .f32 l1)] => .ite (decide (l0.length = n ∧ n < 2147483648 ∧ l1.length = m ∧ m < 2147483648)) (.ite (vsB l0 l1) (.ret (.tup [.g [.sl 0 0 n, .sl 1 0 m], .a (.bool true)]) [.at r0 (.fl .f32 l0), .at r1 (.fl .f32 l1)]) (.ret (.tup [.g [.nil, .nil], .a (.bool false)]) [.at r0 (.fl .f32 l0), .at r1 (.fl .f32 l1)])) .no
  | _, _ => .no
def ayI : Fns := gX [(11, gVs)]
theorem aBI : ∀ f, FnT Try.prog f (ayI f) := (aC (k := 11) nY bJ)
theorem aO5 (N : Nat) (n : Nat) (m : Nat) (r0 : Bool) (l0 : List Nat) (r1 : Bool) (l1 : List Nat) : run ty ayI fB N Try.f24 [.g [.sl 0 0 n, .sl 1 0 m]] [.at r0 (.fl .f32 l0), .at r1 (.fl .f32 l1)]
    = (match decide (l0.length = n ∧ n < 2147483648 ∧ l1.length = m ∧ m < 2147483648) with | true => (match !(vsB l0 l1) with | true => some (.tup [.g [.nil, .nil], .a (.bool false)], [.at r0 (.fl .f32 l0), .at r1 (.fl .f32 l1)]) | false => some (.tup [.g [.sl 0 0 n, .sl 1 0 m], .a (.bool true)], [.at r0 (.fl .f32 l0), .at r1 (.fl .f32 l1)])) | false => none) := by
  kernel_rfl
theorem aeJ : FnT Try.prog 24 aeI := by
  refine fnT aBI Try.func24 rfl rfl fB fun vs h v h' ee => ⟨0, ?_⟩
  unfold aeI at ee
  split at ee
  case h_2 => exact (T.no_inv ee).elim
  rename_i n m r0 l0 r1 l1
  obtain ⟨hd, e2⟩ := T.pre_inv ee
  refine Eq.trans (aO5 0 n m r0 l0 r1 l1) (Eq.trans ?_ e2)
  rw [hd]
  clear ee e2 hd
  rw [T.run_ite, T.run_ret, T.run_ret]
  cases vsB l0 l1 <;> rfl
def aV6 : GT := fun vs h => match vs, h with
  | [.sl 0 0 2], [.at r (.as 1 [.sl 1 0 n, .sl 2 o m]), .at r0 (.fl .f32 l0), .at r1 (.fl .f32 l1)] => .ite (decide (l0.length = n ∧ o + m ≤ l1.length ∧ 0 < n ∧ n < 1000 ∧ m < 1000)) (.ret (.sl 3 0 (n + m)) [.at r (.as 1 [.sl 1 0 n, .sl 2 o m]), .at r0 (.fl .f32 l0), .at r1 (.fl .f32 l1), .at true (.fl .f32 (l0 ++ (l1.drop o).take m))]) .no
  | _, _ => .no
def aoT : Fns := gX [(70, aFY)]
theorem asT : ∀ f, FnT Try.prog f (aoT f) := (aC (k := 70) aNV bJ)
theorem aHL (N : Nat) (r : Bool) (n : Nat) (o : Nat) (m : Nat) (r0 : Bool) (l0 : List Nat) (r1 : Bool) (l1 : List Nat) : run ty aoT fB (N + 3) Try.f61 [.sl 0 0 2] [.at r (.as 1 [.sl 1 0 n, .sl 2 o m]), .at r0 (.fl .f32 l0), .at r1 (.fl .f32 l1)]
    = (match decide ((IntKind.i64.wrap (0 + ((n : Nat) : Int)) : Int) < 0) with | true => none | false => (match decide ((IntKind.i64.wrap ((IntKind.i64.wrap (0 + ((n : Nat) : Int))) + ((m : Nat) : Int)) : Int) < 0) with | true => none | false => (match decide (0 < IntKind.i64.wrap ((IntKind.i64.wrap (0 + ((n : Nat) : Int))) + ((m : Nat) : Int)) ∧ IntKind.i64.wrap ((IntKind.i64.wrap (0 + ((n : Nat) : Int))) + ((m : Nat) : Int)) ≤ 1000000) with | true => (match decide (0 + n * 1 ≤ l0.length) with | true => (match zH true 0 1 0 1 (0 + n) 4 with | true => (match decide (o + m * 1 ≤ l1.length) with | true => (match zH true (0 + n) 1 ((([] : List Nat) ++ ((l0.drop 0).take (n * 1))).length) 1 (0 + n + m) 4 with | true => some (.sl 3 0 (0 + n + m), [.at r (.as 1 [.sl 1 0 n, .sl 2 o m]), .at r0 (.fl .f32 l0), .at r1 (.fl .f32 l1), .at true (.fl .f32 ((([] : List Nat) ++ ((l0.drop 0).take (n * 1))) ++ ((l1.drop o).take (m * 1))))]) | false => none) | false => none) | false => none) | false => none) | false => none))) := by
  kernel_rfl
theorem aO6 : FnT Try.prog 61 aV6 := by
  refine fnT asT Try.func61 rfl rfl fB fun vs h v h' e => ⟨3, ?_⟩
  unfold aV6 at e
  split at e
  case h_2 => exact (T.no_inv e).elim
  rename_i r n o m r0 l0 r1 l1
  obtain ⟨hd, e⟩ := T.pre_inv e
  obtain ⟨rfl, rfl⟩ := T.ret_inv e
  obtain ⟨rfl, hb, h0, h1, h2⟩ := of_decide_eq_true hd
  refine Eq.trans (aHL 0 r l0.length o m r0 l0 r1 l1) ?_
  have w1 : IntKind.i64.wrap (0 + ((l0.length : Nat) : Int)) = ((l0.length : Nat) : Int) := by rw [kP (by omega) (by omega)]; omega
  have w2 : IntKind.i64.wrap (((l0.length : Nat) : Int) + ((m : Nat) : Int)) = ((l0.length + m : Nat) : Int) := by rw [kP (by omega) (by omega)]; omega
  have hap : ∀ q : Nat, q < 2147483648 → zH true 0 1 0 1 (0 + q) 4 = true := fun q hq => by
    unfold zH xY
    rw [decide_eq_true (show 0 * 1 = 0 ∧ 1 = 1 from ⟨rfl, rfl⟩), decide_eq_true (show 0 + q ≤ 9223372036854775807 ∧ (0 + q) * 4 ≤ 140737488355328 by omega)]
    rfl
  rw [w1, w2, decide_eq_false (show ¬ ((l0.length : Nat) : Int) < 0 by omega), decide_eq_false (show ¬ ((l0.length + m : Nat) : Int) < 0 by omega), decide_eq_true (show 0 < ((l0.length + m : Nat) : Int) ∧ ((l0.length + m : Nat) : Int) ≤ 1000000 by omega)]
  rw [decide_eq_true (show 0 + l0.length * 1 ≤ l0.length by omega), hap _ (by omega), decide_eq_true (show o + m * 1 ≤ l1.length by omega)]
  simp only [Nat.zero_add, Nat.mul_one, List.drop_zero, List.take_length, List.nil_append]
  have hap2 : zH true l0.length 1 l0.length 1 (l0.length + m) 4 = true := by
    unfold zH xY
    rw [decide_eq_true (show l0.length * 1 = l0.length ∧ 1 = 1 from ⟨Nat.mul_one _, rfl⟩), decide_eq_true (show l0.length + m ≤ 9223372036854775807 ∧ (l0.length + m) * 4 ≤ 140737488355328 by omega)]
    rfl
  rw [hap2]
end Go.Proofs.Ytpjoapgfdjfbdaa.Ab
