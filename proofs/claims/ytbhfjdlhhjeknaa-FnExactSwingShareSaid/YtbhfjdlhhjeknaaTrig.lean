/- Turns of 64 bits: what is left behind the point, its quarters, and a bound of the sine. Only lemmas. -/
import Derived.Test.YtbhfjdlhhjeknaaInteg
namespace Go.Proofs.Ytbhfjdlhhjeknaa.Ab
set_option linter.unusedVariables false
set_option linter.unusedSimpArgs false
open Go

/-! ### Finite ones -/
def finD (x : Nat) : Bool := FloatKind.f64.format.order (fop .sub .f64 x x) 0 == some .eq
theorem finD_not (x : Nat) : (FloatKind.f64.format.order (fop .sub .f64 x x) 0 != some .eq) = !finD x := rfl
theorem finD_num {x : Nat} (h : finD x = true) : ∃ s m p, Ieee.double.read x = .number s m p := by
  have hq : isN .f64 (fop .sub .f64 x x) = false := by
    cases hn : isN .f64 (fop .sub .f64 x x) with
    | false => rfl
    | true =>
      unfold finD at h
      rw [order_nan (Or.inl hn)] at h
      exact absurd h (by decide)
  cases hd : Ieee.double.read x with
  | number s m p => exact ⟨s, m, p, rfl⟩
  | nan s f =>
    exfalso
    have : fop .sub .f64 x x = qnan .f64 := by
      unfold fop floatBits
      show (Ieee.double.sub x x).getD _ = _
      unfold Ieee.Format.sub
      rw [hd]
      rfl
    rw [this, isN_qnan] at hq
    cases hq
  | infinity s =>
    exfalso
    have : fop .sub .f64 x x = qnan .f64 := by
      unfold fop floatBits
      show (Ieee.double.sub x x).getD _ = _
      unfold Ieee.Format.sub
      rw [hd]
      cases s <;> rfl
    rw [this, isN_qnan] at hq
    cases hq
def smB (x : Nat) : Bool := match Ieee.double.read x with | .number _ _ p => decide (p < 0) | _ => false
theorem smB_num {x : Nat} (h : smB x = true) : ∃ s m p, Ieee.double.read x = .number s m p ∧ p < 0 := by
  unfold smB at h
  cases hd : Ieee.double.read x with
  | number s m p => rw [hd] at h; exact ⟨s, m, p, rfl, of_decide_eq_true h⟩
  | nan s f => rw [hd] at h; cases h
  | infinity s => rw [hd] at h; cases h
theorem smB_fin {x : Nat} (h : smB x = true) : finD x = true ∧ isN .f64 x = false := by
  obtain ⟨s, m, p, hx, hp⟩ := smB_num h
  refine ⟨?_, by unfold isN; show (Ieee.double.read x).isNaN = false; rw [hx]; rfl⟩
  have h1 : ∃ b, fop .sub .f64 x x = Ieee.double.word b 0 := by
    unfold fop floatBits
    show ∃ b, (Ieee.double.sub x x).getD _ = _
    unfold Ieee.Format.sub
    rw [hx]
    show ∃ b, ((((Ieee.Datum.number s m p).sum (Ieee.Datum.number (!s) m p))).map Ieee.double.write).getD _ = _
    unfold Ieee.Datum.sum
    dsimp only
    have hz : Ieee.signed s m (p - min p p).toNat + Ieee.signed (!s) m (p - min p p).toNat = 0 := by
      unfold Ieee.signed
      cases s <;> simp <;> omega
    rw [hz]
    refine ⟨s && !s, ?_⟩
    show Ieee.double.nearest _ 0 (min p p) = _
    unfold Ieee.Format.nearest
    rw [if_pos rfl, if_pos rfl]
  obtain ⟨b, hb⟩ := h1
  unfold finD
  rw [hb]
  cases b <;> decide +kernel
theorem beld_small {B : Int} {x : Nat} (h : BelD B x) (hB : B ≤ 52) : smB x = true := by
  obtain ⟨s, m, e, hx, hm⟩ := h
  obtain ⟨h0, h1, h2, _⟩ := read_place hx
  unfold smB
  rw [hx]
  refine decide_eq_true ?_
  rcases Nat.lt_or_ge m 4503599627370496 with h | h
  · have := h2 h
    omega
  · have := hm.resolve_left (by omega)
    have hl : 52 ≤ m.log2 := (Nat.le_log2 (by omega)).2 (show 2 ^ 52 ≤ m by omega)
    omega

/-! ### 2 to the power of 52 -/
theorem cmp52 {s : Bool} {m : Nat} {p : Int} (hp : -1074 ≤ p) (hm : m < 9007199254740992) (hsub : m < 4503599627370496 → p = -1074) (t : Bool) :
    (p < 0 → compare (Zv s m p) (Zv t 4503599627370496 0) = if t then .gt else .lt) ∧ (¬ p < 0 → s = t → compare (Zv s m p) (Zv t 4503599627370496 0) ≠ if t then .gt else .lt) ∧ (¬ p < 0 → s ≠ t → compare (Zv s m p) (Zv t 4503599627370496 0) = if t then .gt else .lt) := by
  refine ⟨fun h => ?_, fun h hs => ?_, fun h hs => ?_⟩
  · have hb : ((m : Nat) : Int) < ((4503599627370496 * 2 ^ (-p).toNat : Nat) : Int) := by
      have h1 : 2 ^ 1 ≤ 2 ^ (-p).toNat := Nat.pow_le_pow_right (by decide) (by omega)
      omega
    rw [Zv_base (show p ≤ p by omega) hp, Zv_base (show p ≤ (0 : Int) by omega) hp, compare_mul (Int.natCast_pos.2 (Nat.pow_pos (by decide))), show (p - p).toNat = 0 by omega, show ((0 : Int) - p).toNat = (-p).toNat by omega]
    unfold Ieee.signed
    rw [Nat.shiftLeft_zero, Nat.shiftLeft_eq]
    generalize (4503599627370496 * 2 ^ (-p).toNat : Nat) = K at hb
    cases t
    · simp only [Bool.false_eq_true, if_false]
      rw [Int.compare_eq_lt]
      cases s <;> simp <;> omega
    · simp only [if_true]
      rw [Int.compare_eq_gt]
      cases s <;> simp <;> omega
  · subst hs
    have hm0 : 4503599627370496 ≤ m := by
      rcases Nat.lt_or_ge m 4503599627370496 with h2 | h2
      · have := hsub h2
        omega
      · exact h2
    have hg : ((4503599627370496 : Nat) : Int) ≤ ((m <<< p.toNat : Nat) : Int) := by
      rw [Nat.shiftLeft_eq]
      have : m * 1 ≤ m * 2 ^ p.toNat := Nat.mul_le_mul_left _ (Nat.pow_pos (by decide))
      omega
    rw [Zv_base (s := s) (m := m) (p := p) (base := 0) (by omega) (by decide), Zv_base (s := s) (m := 4503599627370496) (p := 0) (base := 0) (by decide) (by decide), compare_mul (Int.natCast_pos.2 (Nat.pow_pos (by decide))), show (p - 0).toNat = p.toNat by omega, show ((0 : Int) - 0).toNat = 0 from rfl]
    unfold Ieee.signed
    rw [Nat.shiftLeft_zero]
    generalize (m <<< p.toNat : Nat) = K at hg
    cases s
    · simp only [Bool.false_eq_true, if_false]
      intro hc
      rw [Int.compare_eq_lt] at hc
      omega
    · simp only [if_true]
      intro hc
      rw [Int.compare_eq_gt] at hc
      omega
  · have hm0 : 4503599627370496 ≤ m := by
      rcases Nat.lt_or_ge m 4503599627370496 with h2 | h2
      · have := hsub h2
        omega
      · exact h2
    have hg : (0 : Int) ≤ ((m <<< p.toNat : Nat) : Int) := Int.natCast_nonneg _
    rw [Zv_base (s := s) (m := m) (p := p) (base := 0) (by omega) (by decide), Zv_base (s := t) (m := 4503599627370496) (p := 0) (base := 0) (by decide) (by decide), compare_mul (Int.natCast_pos.2 (Nat.pow_pos (by decide))), show (p - 0).toNat = p.toNat by omega, show ((0 : Int) - 0).toNat = 0 from rfl]
    unfold Ieee.signed
    rw [Nat.shiftLeft_zero]
    generalize (m <<< p.toNat : Nat) = K at hg
    cases t
    · have : s = true := by cases s <;> simp_all
      subst this
      simp only [Bool.false_eq_true, if_false, if_true]
      rw [Int.compare_eq_lt]
      omega
    · have : s = false := by cases s <;> simp_all
      subst this
      simp only [Bool.false_eq_true, if_false, if_true]
      rw [Int.compare_eq_gt]
      omega
theorem r52 (t : Bool) : Ieee.double.read (cond t 14064741636278059008 4841369599423283200) = .number t 4503599627370496 0 := by cases t <;> decide +kernel
/-- The two tests against 2 to the power of 52, of a finite number. -/
theorem big_tests {x : Nat} (h : finD x = true) : ((gtD x 4841369599423283200 || eqD x 4841369599423283200) || (ltD x 14064741636278059008 || eqD x 14064741636278059008)) = !smB x := by
  obtain ⟨s, m, p, hx⟩ := finD_num h
  obtain ⟨h0, h1, h2, _⟩ := read_place hx
  have hs : smB x = decide (p < 0) := by unfold smB; rw [hx]
  have of := order_Z hx (r52 false) h0 (by decide)
  have ot := order_Z hx (r52 true) h0 (by decide)
  have of : FloatKind.f64.format.order x 4841369599423283200 = _ := of
  have ot : FloatKind.f64.format.order x 14064741636278059008 = _ := ot
  obtain ⟨f1, f2, f3⟩ := cmp52 (s := s) h0 h1 h2 false
  obtain ⟨t1, t2, t3⟩ := cmp52 (s := s) h0 h1 h2 true
  unfold gtD eqD ltD
  rw [of, ot, hs]
  by_cases hp : p < 0
  · rw [f1 hp, t1 hp, decide_eq_true hp]
    rfl
  · rw [decide_eq_false hp]
    cases s
    · have := f2 hp rfl
      cases hc : compare (Zv false m p) (Zv false 4503599627370496 0) with
      | lt => exact (this hc).elim
      | eq => simp
      | gt => simp
    · have := t2 hp rfl
      cases hc : compare (Zv true m p) (Zv true 4503599627370496 0) with
      | gt => exact (this hc).elim
      | eq => simp
      | lt => simp

/-! ### Behind the point -/
def one64' : Nat := 4607182418800017408
def wholeD (x : Nat) : Nat := floatOfInt .f64 ((floatToIntVal .f64 x .i64).getD 0)
def fracD (x : Nat) : Nat := match ltD (fop .sub .f64 x (wholeD x)) 0 with
  | true => fop .add .f64 (fop .sub .f64 x (wholeD x)) 4607182418800017408
  | false => fop .sub .f64 x (wholeD x)
theorem toInt_sm {x : Nat} (h : smB x = true) : floatToIntVal .f64 x .i64 = some ((floatToIntVal .f64 x .i64).getD 0) := by
  obtain ⟨s, m, p, hx, hp⟩ := smB_num h
  rw [toInt_num hx (by omega)]
  rfl
/-- Cut towards nought, a nought being without a sign. -/
theorem whole_eq {x : Nat} (h : smB x = true) : (match eqD (integD .zero x) 0 with | true => 0 | false => integD .zero x) = wholeD x := by
  obtain ⟨s, m, p, hx, hp⟩ := smB_num h
  have hq : m / 2 ^ (-p).toNat < 9007199254740992 := Nat.lt_of_le_of_lt (Nat.div_le_self _ _) (read_place hx).2.1
  unfold wholeD
  rw [toInt_num hx (by omega), Option.getD_some, ofInt_num, trunc_num hx hp, eqD_zero hq]
  by_cases h0 : m / 2 ^ (-p).toNat = 0
  · rw [decide_eq_true h0, if_pos h0]
  · rw [decide_eq_false h0, if_neg h0]
theorem add_comm64 {x y : Nat} {s t : Bool} {m n : Nat} {i j : Int} (hx : Ieee.double.read x = .number s m i) (hy : Ieee.double.read y = .number t n j) : fop .add .f64 x y = fop .add .f64 y x := by
  unfold fop floatBits
  show (Ieee.double.add x y).getD _ = (Ieee.double.add y x).getD _
  unfold Ieee.Format.add
  rw [hx, hy]
  unfold Ieee.Datum.sum
  dsimp only
  rw [Int.min_comm j i, Int.add_comm (Ieee.signed t n (j - min i j).toNat), Bool.and_comm t s]
/-- From 0 to 1, a nought of either sign. -/
def PZ (x : Nat) : Prop := ∃ s m e, Ieee.double.read x = .number s m e ∧ LE1 m e ∧ (s = false ∨ m = 0)
theorem zero64 : Ieee.double.read 0 = .number false 0 (-1074) := by decide +kernel
theorem Zv_zero (s : Bool) (p : Int) : Zv s 0 p = 0 := by unfold Zv Ieee.signed; cases s <;> simp
theorem signed_pos {m : Nat} (k : Nat) (hm : m ≠ 0) : 0 < Ieee.signed false m k := by
  unfold Ieee.signed
  rw [if_neg (by decide), Nat.shiftLeft_eq]
  exact Int.natCast_pos.2 (Nat.mul_pos (by omega) (Nat.pow_pos (by decide)))
theorem signed_neg' (s : Bool) (m k : Nat) : Ieee.signed (!s) m k = - Ieee.signed s m k := by
  unfold Ieee.signed
  cases s <;> simp
theorem lt0 {x : Nat} {s : Bool} {m : Nat} {p : Int} (hx : Ieee.double.read x = .number s m p) : ltD x 0 = (s && decide (m ≠ 0)) := by
  have h0 := (read_place hx).1
  have ho := order_Z hx zero64 h0 (by decide)
  rw [Zv_zero] at ho
  unfold ltD
  rw [ho]
  by_cases hm : m = 0
  · subst hm
    rw [Zv_zero]
    cases s <;> rfl
  · have hp := signed_pos (p + 1074).toNat hm
    cases s
    · have : compare (Zv false m p) 0 = .gt := Int.compare_eq_gt.2 hp
      rw [this]
      rfl
    · have : compare (Zv true m p) 0 = .lt := by
        rw [Int.compare_eq_lt]
        unfold Zv
        rw [show true = !false from rfl, signed_neg']
        omega
      rw [this, decide_eq_true hm]
      rfl
theorem frac_pz {x : Nat} (h : smB x = true) : PZ (fracD x) := by
  obtain ⟨s, m, p, hx, hp⟩ := smB_num h
  obtain ⟨w, h1, b, n, e, h2, h3, _⟩ := frac_le1 hx hp
  have hw : wholeD x = floatOfInt .f64 w := by unfold wholeD; rw [h1]; rfl
  unfold fracD
  rw [hw, h2]
  obtain ⟨r, h4, h5⟩ := near1 b h3
  obtain ⟨m', e', h6, h7, _⟩ := read1 b h5
  rw [← h4] at h6
  rw [lt0 h6]
  cases b with
  | false => exact ⟨false, m', e', h6, h7, .inl rfl⟩
  | true =>
    by_cases hm : m' = 0
    · rw [decide_eq_false (show ¬ m' ≠ 0 from fun h => h hm)]
      exact ⟨true, m', e', h6, h7, .inr hm⟩
    · rw [decide_eq_true hm]
      have hnu := nu_of (s := true) h3 (.inl rfl)
      have hone : Ieee.double.read 4607182418800017408 = .number false 4503599627370496 (-52) := by decide +kernel
      obtain ⟨m2, e2, k1, k2⟩ := hnu.one
      refine ⟨false, m2, e2, ?_, k2, .inl rfl⟩
      rw [← k1]
      exact congrArg _ (add_comm64 h6 hone)

/-! ### Quarters -/
/-- At most k quarters. -/
def PQ (k : Nat) (x : Nat) : Prop := ∃ s m p, Ieee.double.read x = .number s m p ∧ (s = false ∨ m = 0) ∧ p ≤ -2 ∧ m ≤ k * 2 ^ (-2 - p).toNat
theorem pz_pq {x : Nat} (h : PZ x) : PQ 4 x := by
  obtain ⟨s, m, p, hx, hl, hs⟩ := h
  obtain ⟨h0, h1, h2, _⟩ := read_place hx
  have hp : p ≤ -2 := by
    rcases Nat.lt_or_ge m 4503599627370496 with h | h
    · have := h2 h
      omega
    · rcases hl with h3 | ⟨h3, h4⟩
      · omega
      · by_cases hp : p ≤ -2
        · exact hp
        · have : 2 ^ (-p).toNat ≤ 2 ^ 1 := Nat.pow_le_pow_right (by decide) (by omega)
          omega
  refine ⟨s, m, p, hx, hs, hp, ?_⟩
  rcases hl with h3 | ⟨h3, h4⟩
  · omega
  · rw [show (-p).toNat = (-2 - p).toNat + 2 by omega, Nat.pow_add] at h4
    omega
theorem ordQ {x c : Nat} {s : Bool} {m cm j : Nat} {p cp : Int} (hx : Ieee.double.read x = .number s m p) (hp : p ≤ -2) (hc : Ieee.double.read c = .number false cm cp) (hz : Zv false cm cp = Zv false j (-2)) :
    FloatKind.f64.format.order x c = some (compare (Ieee.signed s m 0) ((j * 2 ^ (-2 - p).toNat : Nat) : Int)) := by
  have h0 := (read_place hx).1
  rw [order_Z hx hc h0 (read_place hc).1, hz, Zv_base (show p ≤ p by omega) h0, Zv_base (show p ≤ (-2 : Int) by omega) h0, compare_mul (Int.natCast_pos.2 (Nat.pow_pos (by decide))), show (p - p).toNat = 0 by omega]
  congr 2
  unfold Ieee.signed
  rw [if_neg (by decide), Nat.shiftLeft_eq]
theorem q14 : ∃ cm cp, Ieee.double.read 4598175219545276416 = .number false cm cp ∧ Zv false cm cp = Zv false 1 (-2) :=
  ⟨4503599627370496, -54, by decide +kernel, by
    have h := Zv_shift false (m := 1) (p := -2) (q := -54) (by decide) (by decide)
    rw [show 1 * 2 ^ ((-2 : Int) - -54).toNat = 4503599627370496 by decide +kernel] at h
    exact h⟩
theorem q12 : ∃ cm cp, Ieee.double.read 4602678819172646912 = .number false cm cp ∧ Zv false cm cp = Zv false 2 (-2) :=
  ⟨4503599627370496, -53, by decide +kernel, by
    have h := Zv_shift false (m := 2) (p := -2) (q := -53) (by decide) (by decide)
    rw [show 2 * 2 ^ ((-2 : Int) - -53).toNat = 4503599627370496 by decide +kernel] at h
    exact h⟩
theorem cut_exact' (neg : Bool) (m k d : Nat) (hd : d ≤ k) (hm : m ≠ 0) : Ieee.Toward.even.cut neg (m * 2 ^ k) d = m * 2 ^ (k - d) := by
  unfold Ieee.Toward.cut
  simp only [Nat.one_shiftLeft]
  have hlog : k ≤ (m * 2 ^ k).log2 := by
    rw [Nat.le_log2 (Nat.mul_ne_zero hm (Nat.ne_of_gt (Nat.pow_pos (by decide))))]
    exact Nat.le_mul_of_pos_left _ (by omega)
  rw [Nat.min_eq_left (by omega)]
  have e : m * 2 ^ k = m * 2 ^ (k - d) * 2 ^ d := by rw [Nat.mul_assoc, ← Nat.pow_add, Nat.sub_add_cancel hd]
  have hpos : 0 < 2 ^ d := Nat.pow_pos (by decide)
  rw [e, Nat.mul_div_cancel _ hpos, Nat.mul_mod_left]
  have e1 : decide (2 ^ d < 2 * 0) = false := decide_eq_false (by omega)
  have e2 : (2 ^ d == 2 * 0) = false := by simp
  simp [e1, e2]
theorem near_shiftP (s : Bool) {m : Nat} {p q : Int} (hqp : q ≤ p) (hq : -1074 ≤ q) (hb : m < 9007199254740992) : Ieee.double.nearest s (m * 2 ^ (p - q).toNat) q = Ieee.double.nearest s m p := by
  by_cases hm : m = 0
  · subst hm
    rw [Nat.zero_mul]
    unfold Ieee.Format.nearest
    rw [if_pos rfl, if_pos rfl]
  generalize hk : (p - q).toNat = k
  have hne : m * 2 ^ k ≠ 0 := Nat.mul_ne_zero hm (Nat.ne_of_gt (Nat.pow_pos (by decide)))
  have hL : m.log2 < 53 := (Nat.log2_lt hm).2 hb
  have hlog : (m * 2 ^ k).log2 = m.log2 + k := by rw [← Nat.shiftLeft_eq]; exact log_shl hm
  unfold Ieee.Format.nearest
  rw [if_neg hm, if_neg hne, hlog]
  have c4 : Ieee.double.leastPlace = -1074 := by decide
  have c5 : Ieee.double.fractionBits = 52 := by decide
  rw [c4, c5]
  dsimp only
  have e0 : q + ((m.log2 + k : Nat) : Int) - ((52 : Nat) : Int) = p + ((m.log2 : Nat) : Int) - ((52 : Nat) : Int) := by omega
  rw [e0]
  generalize hlast : max (p + ((m.log2 : Nat) : Int) - ((52 : Nat) : Int)) (-1074) = last
  have h1 : last ≤ p := by omega
  have key : Ieee.Toward.even.cut s ((m * 2 ^ k) <<< (q - last).toNat) (last - q).toNat = Ieee.Toward.even.cut s (m <<< (p - last).toNat) (last - p).toNat := by
    rw [show (last - p).toNat = 0 by omega, cut_zero, Nat.shiftLeft_eq, Nat.shiftLeft_eq]
    by_cases hn : last ≤ q
    · rw [show (last - q).toNat = 0 by omega, cut_zero, Nat.mul_assoc, ← Nat.pow_add, show k + (q - last).toNat = (p - last).toNat by omega]
    · rw [show (q - last).toNat = 0 by omega, Nat.pow_zero, Nat.mul_one, cut_exact' s m k _ (by omega) hm, show k - (last - q).toNat = (p - last).toNat by omega]
  rw [key]
/-- The difference with a quarter or a half. -/
theorem sub_form {x c : Nat} {m cm j : Nat} {p cp : Int} {s t : Bool} {y z : Nat} {sm tn : Nat} {i k : Int} (hx : Ieee.double.read y = .number s sm i) (hy : Ieee.double.read z = .number t tn k) :
    ∃ (b : Bool) (base : Int) (T : Int), fop .sub .f64 y z = Ieee.double.nearest b T.natAbs base ∧ base = min i k ∧ T * ((2 ^ (base + 1074).toNat : Nat) : Int) = Zv s sm i - Zv t tn k ∧ b = (if T = 0 then s && !t else decide (T < 0)) := by
  have h1 := (read_place hx).1
  have h2 := (read_place hy).1
  have e : fop .sub .f64 y z = Ieee.double.nearest (if Ieee.signed s sm (i - min i k).toNat + Ieee.signed (!t) tn (k - min i k).toNat = 0 then s && !t else decide (Ieee.signed s sm (i - min i k).toNat + Ieee.signed (!t) tn (k - min i k).toNat < 0)) (Ieee.signed s sm (i - min i k).toNat + Ieee.signed (!t) tn (k - min i k).toNat).natAbs (min i k) := by
    unfold fop floatBits
    show (Ieee.double.sub y z).getD _ = _
    unfold Ieee.Format.sub
    rw [hx, hy]
    rfl
  refine ⟨_, min i k, _, e, rfl, ?_, rfl⟩
  rw [signed_neg', Zv_base (show min i k ≤ i by omega) (by omega), Zv_base (show min i k ≤ k by omega) (by omega), Int.add_mul, Int.neg_mul]
  omega
theorem sub_quarters {x c : Nat} {m cm j k : Nat} {p cp : Int} (hx : Ieee.double.read x = .number false m p) (hp : p ≤ -2) (hc : Ieee.double.read c = .number false cm cp) (hz : Zv false cm cp = Zv false j (-2))
    (h1 : j * 2 ^ (-2 - p).toNat ≤ m) (h2 : m ≤ (k + j) * 2 ^ (-2 - p).toNat) : PQ k (fop .sub .f64 x c) := by
  obtain ⟨h0, hm, _, h9⟩ := read_place hx
  have hc0 := (read_place hc).1
  obtain ⟨b, base, T, e1, e2, e3, e4⟩ := sub_form (x := x) (c := c) (m := m) (cm := cm) (j := j) (p := p) (cp := cp) hx hc
  generalize hQ : 2 ^ (-2 - p).toNat = Q at h1 h2
  have hZ : Zv false m p - Zv false cm cp = ((m - j * Q : Nat) : Int) * ((2 ^ (p + 1074).toNat : Nat) : Int) := by
    rw [hz, Zv_base (show p ≤ p by omega) h0, Zv_base (show p ≤ (-2 : Int) by omega) h0, show (p - p).toNat = 0 by omega]
    unfold Ieee.signed
    rw [if_neg (by decide), if_neg (by decide), Nat.shiftLeft_zero, Nat.shiftLeft_eq, hQ, ← Int.sub_mul]
    congr 1
    omega
  rw [hZ] at e3
  have hpw : ((2 ^ (p + 1074).toNat : Nat) : Int) = ((2 ^ (p - base).toNat : Nat) : Int) * ((2 ^ (base + 1074).toNat : Nat) : Int) := by
    rw [← Int.natCast_mul, ← Nat.pow_add, show (p - base).toNat + (base + 1074).toNat = (p + 1074).toNat by omega]
  have hpos : (0 : Int) < ((2 ^ (base + 1074).toNat : Nat) : Int) := Int.natCast_pos.2 (Nat.pow_pos (by decide))
  have hT : T = ((m - j * Q : Nat) : Int) * ((2 ^ (p - base).toNat : Nat) : Int) := by
    rw [hpw, ← Int.mul_assoc] at e3
    exact Int.eq_of_mul_eq_mul_right (Int.ne_of_gt hpos) e3
  have hT' : T = (((m - j * Q) * 2 ^ (p - base).toNat : Nat) : Int) := by rw [hT, Int.natCast_mul]
  have hb : b = false := by
    rw [e4]
    split
    · rfl
    · exact decide_eq_false (by omega)
  rw [hb, hT', Int.natAbs_natCast, near_shiftP false (show base ≤ p by omega) (by omega) (show m - j * Q < 9007199254740992 by omega)] at e1
  obtain ⟨m', p', k1, k2, k3, k4, _⟩ := near_exact false (m := m - j * Q) (p := p) h0 (by omega) (by
    by_cases h : m - j * Q = 0
    · exact .inl h
    · have := (Nat.log2_lt h).2 (show m - j * Q < 2 ^ 53 by omega)
      exact .inr (by omega))
  rw [← e1] at k1
  refine ⟨false, m', p', k1, .inl rfl, by omega, ?_⟩
  rw [k4, show (-2 - p').toNat = (-2 - p).toNat + (p - p').toNat by omega, Nat.pow_add, hQ, ← Nat.mul_assoc]
  refine Nat.mul_le_mul_right _ ?_
  rw [Nat.add_mul] at h2
  omega
theorem geq_of {x c : Nat} {a b : Int} (h : FloatKind.f64.format.order x c = some (compare a b)) : (gtD x c || eqD x c) = decide (b ≤ a) := by
  unfold gtD eqD
  rw [h]
  rcases Int.lt_trichotomy a b with h1 | h1 | h1
  · rw [Int.compare_eq_lt.2 h1, decide_eq_false (by omega)]; rfl
  · rw [Int.compare_eq_eq.2 h1, decide_eq_true (by omega)]; rfl
  · rw [Int.compare_eq_gt.2 h1, decide_eq_true (by omega)]; rfl
theorem gt_of {x c : Nat} {a b : Int} (h : FloatKind.f64.format.order x c = some (compare a b)) : gtD x c = decide (b < a) := by
  unfold gtD
  rw [h]
  rcases Int.lt_trichotomy a b with h1 | h1 | h1
  · rw [Int.compare_eq_lt.2 h1, decide_eq_false (by omega)]; rfl
  · rw [Int.compare_eq_eq.2 h1, decide_eq_false (by omega)]; rfl
  · rw [Int.compare_eq_gt.2 h1, decide_eq_true (by omega)]; rfl
theorem signed_nn {s : Bool} {m : Nat} (h : s = false ∨ m = 0) : Ieee.signed s m 0 = (m : Int) := by
  unfold Ieee.signed
  rw [Nat.shiftLeft_zero]
  rcases h with rfl | rfl
  · rfl
  · cases s <;> rfl
def geq4 (x : Nat) : Bool := gtD x 4598175219545276416 || eqD x 4598175219545276416
/-- Quarters taken away while there are some. -/
def qF : Nat → Nat → Nat × Int
  | 0, x => (x, 0)
  | n + 1, x => match geq4 x with
    | true => ((qF n (fop .sub .f64 x 4598175219545276416)).1, (qF n (fop .sub .f64 x 4598175219545276416)).2 + 1)
    | false => (x, 0)
theorem pq_step {k x : Nat} (h : PQ (k + 1) x) (hg : geq4 x = true) : PQ k (fop .sub .f64 x 4598175219545276416) := by
  obtain ⟨s, m, p, hx, hs, hp, hm⟩ := h
  obtain ⟨cm, cp, hc, hz⟩ := q14
  have ho := ordQ hx hp hc hz
  unfold geq4 at hg
  rw [geq_of ho, signed_nn hs] at hg
  have hg := of_decide_eq_true hg
  have hpos : 0 < 2 ^ (-2 - p).toNat := Nat.pow_pos (by decide)
  have hs : s = false := hs.resolve_right (by omega)
  subst hs
  exact sub_quarters hx hp hc hz (by omega) hm
theorem pq_zero {x : Nat} (h : PQ 0 x) : geq4 x = false := by
  obtain ⟨s, m, p, hx, hs, hp, hm⟩ := h
  obtain ⟨cm, cp, hc, hz⟩ := q14
  have ho := ordQ hx hp hc hz
  unfold geq4
  rw [geq_of ho, signed_nn hs]
  have hpos : 0 < 2 ^ (-2 - p).toNat := Nat.pow_pos (by decide)
  exact decide_eq_false (by omega)
/-- The loop that takes quarters away. -/
theorem quarters {R : Type} (L : Nat → Nat → Int → Option R) (Z : Nat → Int → Option R)
    (hs : ∀ M x q, geq4 x = true → 0 ≤ q → q < 100 → L (M + 1) x q = L M (fop .sub .f64 x 4598175219545276416) (q + 1))
    (he : ∀ M x q, geq4 x = false → 0 ≤ q → q < 100 → L (M + 1) x q = Z x q) : ∀ k x, PQ k x → ∀ (q : Int) M, 0 ≤ q → q + k < 100 → L (k + 1 + M) x q = Z (qF k x).1 (q + (qF k x).2) := by
  intro k
  induction k with
  | zero =>
    intro x h q M h0 h1
    rw [show 0 + 1 + M = M + 1 by omega, he M x q (pq_zero h) h0 (by omega)]
    show _ = Z x (q + 0)
    rw [Int.add_zero]
  | succ k ih =>
    intro x h q M h0 h1
    rw [show k + 1 + 1 + M = (k + 1 + M) + 1 by omega]
    cases hg : geq4 x with
    | false =>
      rw [he _ x q hg h0 (by omega)]
      unfold qF
      rw [hg]
      show _ = Z x (q + 0)
      rw [Int.add_zero]
    | true =>
      rw [hs _ x q hg h0 (by omega), ih _ (pq_step h hg) (q + 1) M (by omega) (by omega)]
      conv => rhs; unfold qF
      rw [hg]
      dsimp only
      rw [show q + 1 + (qF k (fop .sub .f64 x 4598175219545276416)).2 = q + ((qF k (fop .sub .f64 x 4598175219545276416)).2 + 1) by omega]
theorem qF_pq : ∀ k x, PQ k x → PQ k (qF k x).1
  | 0, x, h => h
  | k + 1, x, h => by
    unfold qF
    cases hg : geq4 x with
    | false => exact h
    | true =>
      obtain ⟨s, m, p, h1, h2, h3, h4⟩ := qF_pq k _ (pq_step h hg)
      refine ⟨s, m, p, h1, h2, h3, Nat.le_trans h4 (Nat.mul_le_mul_right _ (by omega))⟩
theorem pq_bel {k x : Nat} (h : PQ k x) (hk : k ≤ 4) : BelD 1 x := by
  obtain ⟨s, m, p, hx, hs, hp, hm⟩ := h
  refine ⟨s, m, p, hx, ?_⟩
  by_cases h0 : m = 0
  · exact .inl h0
  right
  have h1 : m ≤ 4 * 2 ^ (-2 - p).toNat := Nat.le_trans hm (Nat.mul_le_mul_right _ hk)
  have h2 : m < 2 ^ ((-2 - p).toNat + 3) := by
    rw [Nat.pow_add]
    have : 0 < 2 ^ (-2 - p).toNat := Nat.pow_pos (by decide)
    omega
  have := (Nat.log2_lt h0).2 h2
  omega

/-! ### The sine -/
def sS (u p k : Nat) : Nat := fop .sub .f64 4607182418800017408 (fop .quo .f64 (fop .mul .f64 u p) k)
def sP (u : Nat) : Nat := sS u (sS u (sS u (sS u (sS u (sS u (sS u (sS u 4607182418800017408 4643492690795692032) 4641592734702895104) 4639692778610098176) 4637440978796412928) 4634766966517661696) 4631107791820423168) 4626322717216342016) 4618441417868443648
def sZ (f : Nat) : Nat := fop .mul .f64 f 4618760256179416344
def sinW (f : Nat) : Nat := fop .mul .f64 (sZ f) (sP (fop .mul .f64 (sZ f) (sZ f)))
def halfB (x : Nat) : Bool := gtD x 4602678819172646912 || eqD x 4602678819172646912
def foldQ (f : Nat) : Nat := match gtD f 4598175219545276416 with | true => fop .sub .f64 4602678819172646912 f | false => f
def sinD (x : Nat) : Nat := match halfB (fracD x) with
  | true => fneg .f64 (sinW (foldQ (fop .sub .f64 (fracD x) 4602678819172646912)))
  | false => sinW (foldQ (fracD x))
theorem beld_quoL {A L : Int} {x y n : Nat} {j : Int} (hx : BelD A x) (hy : Ieee.double.read y = .number false n j) (hn : n ≠ 0) (hj : L ≤ j + (n.log2 : Int)) (h1 : -1000 ≤ A - L) (h2 : A - L ≤ 1000) : BelD (A - L + 1) (fop .quo .f64 x y) := by
  obtain ⟨s, m, i, hx, hm⟩ := hx
  have e : fop .quo .f64 x y = Ieee.double.nearest (s ^^ false) (2 * ((m <<< (54 + n.log2 - m.log2)) / n) + ((m <<< (54 + n.log2 - m.log2)) % n != 0).toNat) (i - j - ((54 + n.log2 - m.log2 : Nat) : Int) - 1) := by
    unfold fop floatBits
    show (Ieee.double.div x y).getD _ = _
    unfold Ieee.Format.div
    rw [hx, hy]
    unfold Ieee.Datum.quotient
    dsimp only
    rw [if_neg hn]
    rfl
  rw [e]
  refine beld_near ?_ h1 h2
  by_cases m0 : m = 0
  · subst m0
    left
    simp
  have hm := hm.resolve_left m0
  generalize hmore : 54 + n.log2 - m.log2 = more
  have hb : (m <<< more % n != 0).toNat ≤ 1 := by cases (m <<< more % n != 0) <;> decide
  have h3 : m < 2 ^ (m.log2 + 1) := Nat.lt_log2_self
  have h4 : 2 ^ n.log2 ≤ n := Nat.log2_self_le hn
  have h5 : m <<< more / n < 2 ^ (m.log2 + 1 + more - n.log2) := by
    rw [Nat.div_lt_iff_lt_mul (by omega), Nat.shiftLeft_eq]
    have q1 : m * 2 ^ more < 2 ^ (m.log2 + 1) * 2 ^ more := Nat.mul_lt_mul_of_pos_right h3 (Nat.pow_pos (by decide))
    have q2 : 2 ^ (m.log2 + 1 + more - n.log2) * 2 ^ n.log2 ≤ 2 ^ (m.log2 + 1 + more - n.log2) * n := Nat.mul_le_mul_left _ h4
    rw [← Nat.pow_add] at q1 q2
    rw [show m.log2 + 1 + more - n.log2 + n.log2 = m.log2 + 1 + more by omega] at q2
    exact Nat.lt_of_lt_of_le q1 q2
  generalize m <<< more / n = q at *
  generalize (m <<< more % n != 0).toNat = b at *
  by_cases q0 : 2 * q + b = 0
  · exact .inl q0
  right
  have h6 : 2 * q + b < 2 ^ (m.log2 + 1 + more - n.log2 + 1) := by
    rw [Nat.pow_succ]
    omega
  have := (Nat.log2_lt q0).2 h6
  omega
theorem one_bel : BelD 1 4607182418800017408 := ⟨false, 4503599627370496, -52, by decide +kernel, .inr (by decide)⟩
theorem sS_bel {a L : Int} {u p k n : Nat} {j : Int} (hu : BelD 7 u) (hp : BelD a p) (hk : Ieee.double.read k = .number false n j) (hn : n ≠ 0) (hj : L ≤ j + (n.log2 : Int)) (ha : -100 ≤ a) (ha2 : a ≤ 100) (hL : 0 ≤ L) (hL2 : L ≤ 10) (h1 : 1 ≤ a + 9 - L) : BelD (a + 11 - L) (sS u p k) := by
  have h2 := beld_mul hu hp (by omega) (by omega)
  have h3 := beld_quoL (L := L) h2 hk hn hj (by omega) (by omega)
  have h4 := beld_sub (one_bel.mono (show 1 ≤ a + 9 - L by omega)) (h3.mono (show 7 + a + 1 - L + 1 ≤ a + 9 - L by omega)) (by omega) (by omega)
  exact h4.mono (by omega)
theorem sP_bel {u : Nat} (hu : BelD 7 u) : BelD 44 (sP u) := by
  unfold sP
  have s1 := sS_bel (L := 8) (k := 4643492690795692032) (n := 4785074604081152) (j := -44) hu one_bel (by decide +kernel) (by decide) (by decide) (by decide) (by decide) (by decide) (by decide) (by decide)
  have s2 := sS_bel (L := 7) (k := 4641592734702895104) (n := 7388718138654720) (j := -45) hu s1 (by decide +kernel) (by decide) (by decide) (by decide) (by decide) (by decide) (by decide) (by decide)
  have s3 := sS_bel (L := 7) (k := 4639692778610098176) (n := 5488762045857792) (j := -45) hu s2 (by decide +kernel) (by decide) (by decide) (by decide) (by decide) (by decide) (by decide) (by decide)
  have s4 := sS_bel (L := 6) (k := 4637440978796412928) (n := 7740561859543040) (j := -46) hu s3 (by decide +kernel) (by decide) (by decide) (by decide) (by decide) (by decide) (by decide) (by decide)
  have s5 := sS_bel (L := 6) (k := 4634766966517661696) (n := 5066549580791808) (j := -46) hu s4 (by decide +kernel) (by decide) (by decide) (by decide) (by decide) (by decide) (by decide) (by decide)
  have s6 := sS_bel (L := 5) (k := 4631107791820423168) (n := 5910974510923776) (j := -47) hu s5 (by decide +kernel) (by decide) (by decide) (by decide) (by decide) (by decide) (by decide) (by decide)
  have s7 := sS_bel (L := 4) (k := 4626322717216342016) (n := 5629499534213120) (j := -48) hu s6 (by decide +kernel) (by decide) (by decide) (by decide) (by decide) (by decide) (by decide) (by decide)
  have s8 := sS_bel (L := 2) (k := 4618441417868443648) (n := 6755399441055744) (j := -50) hu s7 (by decide +kernel) (by decide) (by decide) (by decide) (by decide) (by decide) (by decide) (by decide)
  exact s8.mono (by decide)
theorem sinW_bel {f : Nat} (h : BelD (-1) f) : BelD 48 (sinW f) := by
  have h2pi : BelD 3 4618760256179416344 := ⟨false, 7074237752028440, -50, by decide +kernel, .inr (by decide)⟩
  have hz : BelD 3 (sZ f) := beld_mul h h2pi (by decide) (by decide)
  have hu : BelD 7 (fop .mul .f64 (sZ f) (sZ f)) := beld_mul hz hz (by decide) (by decide)
  exact beld_mul hz (sP_bel hu) (by decide) (by decide)
theorem foldQ_bel {f : Nat} (h : PQ 2 f) : BelD (-1) (foldQ f) := by
  obtain ⟨s, m, p, hx, hs, hp, hm⟩ := h
  obtain ⟨cm, cp, hc, hz⟩ := q14
  have ho := ordQ hx hp hc hz
  unfold foldQ
  rw [gt_of ho, signed_nn hs]
  by_cases hg : ((1 * 2 ^ (-2 - p).toNat : Nat) : Int) < (m : Int)
  · rw [decide_eq_true hg]
    have hpos : 0 < 2 ^ (-2 - p).toNat := Nat.pow_pos (by decide)
    have hs : s = false := hs.resolve_right (by omega)
    subst hs
    obtain ⟨dm, dp, hd, hdz⟩ := q12
    obtain ⟨h0, _⟩ := read_place hx
    obtain ⟨hd0, _⟩ := read_place hd
    obtain ⟨b, base, T, e1, e2, e3, e4⟩ := sub_form (x := f) (c := f) (m := m) (cm := cm) (j := 0) (p := p) (cp := cp) hd hx
    rw [e1]
    show BelD (-2 + 1) _
    refine beld_near ?_ (by decide) (by decide)
    by_cases hT : T.natAbs = 0
    · exact .inl hT
    right
    generalize hQ : 2 ^ (-2 - p).toNat = Q at *
    have hZ : Zv false dm dp - Zv false m p = ((2 * Q - m : Nat) : Int) * ((2 ^ (p + 1074).toNat : Nat) : Int) := by
      rw [hdz, Zv_base (show p ≤ p by omega) h0, Zv_base (show p ≤ (-2 : Int) by omega) h0, show (p - p).toNat = 0 by omega]
      unfold Ieee.signed
      rw [if_neg (by decide), if_neg (by decide), Nat.shiftLeft_zero, Nat.shiftLeft_eq, hQ, ← Int.sub_mul]
      congr 1
      omega
    rw [hZ] at e3
    have habs : T.natAbs * 2 ^ (base + 1074).toNat = (2 * Q - m) * 2 ^ (p + 1074).toNat := by
      have := congrArg Int.natAbs e3
      rw [Int.natAbs_mul, Int.natAbs_natCast, Int.natAbs_mul, Int.natAbs_natCast, Int.natAbs_natCast] at this
      exact this
    have hlt : (2 * Q - m) * 2 ^ (p + 1074).toNat < Q * 2 ^ (p + 1074).toNat := Nat.mul_lt_mul_of_pos_right (by omega) (Nat.pow_pos (by decide))
    have hb : base ≤ -2 := by omega
    rw [← habs, ← hQ, ← Nat.pow_add, show (-2 - p).toNat + (p + 1074).toNat = (-2 - base).toNat + (base + 1074).toNat by omega, Nat.pow_add] at hlt
    have h6 := Nat.lt_of_mul_lt_mul_right hlt
    have := (Nat.log2_lt hT).2 h6
    omega
  · rw [decide_eq_false hg]
    refine ⟨s, m, p, hx, ?_⟩
    by_cases h0 : m = 0
    · exact .inl h0
    right
    have h1 : m < 2 ^ ((-2 - p).toNat + 1) := by
      rw [Nat.pow_add]
      have : 0 < 2 ^ (-2 - p).toNat := Nat.pow_pos (by decide)
      omega
    have := (Nat.log2_lt h0).2 h1
    omega
theorem sinD_bel {x : Nat} (h : smB x = true) : BelD 48 (sinD x) := by
  have hq := pz_pq (frac_pz h)
  unfold sinD
  obtain ⟨s, m, p, hx, hs, hp, hm⟩ := hq
  obtain ⟨cm, cp, hc, hz⟩ := q12
  have ho := ordQ hx hp hc hz
  unfold halfB
  rw [geq_of ho, signed_nn hs]
  by_cases hg : ((2 * 2 ^ (-2 - p).toNat : Nat) : Int) ≤ (m : Int)
  · rw [decide_eq_true hg]
    have hpos : 0 < 2 ^ (-2 - p).toNat := Nat.pow_pos (by decide)
    have hs : s = false := hs.resolve_right (by omega)
    subst hs
    exact beld_neg (sinW_bel (foldQ_bel (sub_quarters (k := 2) hx hp hc hz (by omega) hm)))
  · rw [decide_eq_false hg]
    exact sinW_bel (foldQ_bel ⟨s, m, p, hx, hs, hp, by omega⟩)

/-! ### The point of the unit circle -/
def phF (x : Nat) : Nat := (qF 4 (fracD x)).1
def phQ (x : Nat) : Int := (qF 4 (fracD x)).2
def phC (x : Nat) : Nat := sinD (fop .sub .f64 4598175219545276416 (phF x))
def phS (x : Nat) : Nat := sinD (phF x)
def phX (x : Nat) : Nat := match phQ x == 1 with
  | true => fop .sub .f64 0 (phS x)
  | false => match phQ x == 2 with
    | true => fop .sub .f64 0 (phC x)
    | false => match phQ x == 3 with | true => phS x | false => phC x
def phY (x : Nat) : Nat := match phQ x == 1 with
  | true => phC x
  | false => match phQ x == 2 with
    | true => fop .sub .f64 0 (phS x)
    | false => match phQ x == 3 with | true => fop .sub .f64 0 (phC x) | false => phS x
def nr (y : Nat) : Nat := (fconv .f64 y .f32).getD 0
theorem phF_sm {x : Nat} (h : smB x = true) : smB (phF x) = true ∧ smB (fop .sub .f64 4598175219545276416 (phF x)) = true := by
  have h1 : BelD 1 (phF x) := pq_bel (qF_pq 4 _ (pz_pq (frac_pz h))) (by decide)
  have hq : BelD 1 4598175219545276416 := ⟨false, 4503599627370496, -54, by decide +kernel, .inr (by decide)⟩
  exact ⟨beld_small h1 (by decide), beld_small (beld_sub hq h1 (by decide) (by decide)) (by decide)⟩
theorem ph_bel {x : Nat} (h : smB x = true) : BelD 48 (phC x) ∧ BelD 48 (phS x) ∧ BelD 50 (fop .sub .f64 0 (phC x)) ∧ BelD 50 (fop .sub .f64 0 (phS x)) := by
  obtain ⟨h1, h2⟩ := phF_sm h
  have c := sinD_bel h2
  have s := sinD_bel h1
  have z : BelD 48 0 := ⟨false, 0, -1074, zero64, .inl rfl⟩
  exact ⟨c, s, beld_sub z c (by decide) (by decide), beld_sub z s (by decide) (by decide)⟩
theorem phX_bel {x : Nat} (h : smB x = true) : BelD 50 (phX x) ∧ BelD 50 (phY x) := by
  obtain ⟨c, s, nc, ns⟩ := ph_bel h
  have c := c.mono (show (48 : Int) ≤ 50 by decide)
  have s := s.mono (show (48 : Int) ≤ 50 by decide)
  unfold phX phY
  constructor
  · cases phQ x == 1
    · cases phQ x == 2
      · cases phQ x == 3
        · exact c
        · exact s
      · exact nc
    · exact ns
  · cases phQ x == 1
    · cases phQ x == 2
      · cases phQ x == 3
        · exact s
        · exact nc
      · exact ns
    · exact c
theorem nr_of {y : Nat} (h : BelD 50 y) : fconv .f64 y .f32 = some (nr y) := by
  obtain ⟨r, hr⟩ := beld_conv (h.mono (by decide))
  unfold nr
  rw [hr]
  rfl
theorem nr_bel {y : Nat} (h : BelD 50 y) : Bel 51 (nr y) := bel_of_conv h (by decide) (by decide) (nr_of h)
end Go.Proofs.Ytbhfjdlhhjeknaa.Ab
