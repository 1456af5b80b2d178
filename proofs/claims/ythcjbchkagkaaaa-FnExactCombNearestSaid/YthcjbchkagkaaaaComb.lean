/- The greatest whole number not above a number, two ways. Only lemmas. -/
import Derived.Test.YthcjbchkagkaaaaCoA
namespace Go.Proofs.Ythcjbchkagkaaaa.Ab
set_option linter.unusedVariables false
set_option linter.unusedSimpArgs false
open Go

theorem cutD (s : Bool) (n drop : Nat) : Ieee.Toward.down.cut s n drop = n / 2 ^ drop + (s && n % 2 ^ drop != 0).toNat := by
  unfold Ieee.Toward.cut
  simp only [Nat.one_shiftLeft]
  by_cases h : drop ≤ n.log2 + 2
  · rw [Nat.min_eq_left h]
  · rw [Nat.min_eq_right (by omega)]
    have h1 : n < 2 ^ (n.log2 + 1) := Nat.lt_log2_self
    have h2 : n < 2 ^ (n.log2 + 2) := Nat.lt_of_lt_of_le h1 (Nat.pow_le_pow_right (by decide) (by omega))
    have h3 : n < 2 ^ drop := Nat.lt_of_lt_of_le h1 (Nat.pow_le_pow_right (by decide) (by omega))
    rw [Nat.div_eq_of_lt h2, Nat.div_eq_of_lt h3, Nat.mod_eq_of_lt h2, Nat.mod_eq_of_lt h3]
theorem cut_exact (neg : Bool) (m k d : Nat) (hd : d ≤ k) (hm : m ≠ 0) : Ieee.Toward.even.cut neg (m * 2 ^ k) d = m * 2 ^ (k - d) := by
  unfold Ieee.Toward.cut
  simp only [Nat.one_shiftLeft]
  have hlog : k ≤ (m * 2 ^ k).log2 := by
    rw [Nat.le_log2 (Nat.mul_ne_zero hm (Nat.ne_of_gt (Nat.pow_pos (by decide))))]
    exact Nat.le_mul_of_pos_left _ (by omega)
  rw [Nat.min_eq_left (by omega)]
  have e : m * 2 ^ k = m * 2 ^ (k - d) * 2 ^ d := by rw [Nat.mul_assoc, ← Nat.pow_add, Nat.sub_add_cancel hd]
  have hpos : 0 < 2 ^ d := Nat.pow_pos (by decide)
  rw [e, Nat.mul_div_cancel _ hpos, Nat.mul_mod_left]
  have e1 : decide (2 ^ d < 2 * 0) = false := decide_eq_false (by omega)
  have e2 : (2 ^ d == 2 * 0) = false := by simp
  simp [e1, e2]
theorem near_shift (s : Bool) {m : Nat} (k : Nat) (hm : m ≠ 0) (hb : m < 9007199254740992) : Ieee.double.nearest s (m <<< k) 0 = Ieee.double.nearest s m (k : Int) := by
  have hs : m <<< k = m * 2 ^ k := Nat.shiftLeft_eq _ _
  have hne : m * 2 ^ k ≠ 0 := Nat.mul_ne_zero hm (Nat.ne_of_gt (Nat.pow_pos (by decide)))
  have hL : m.log2 < 53 := (Nat.log2_lt hm).2 hb
  have hlog : (m * 2 ^ k).log2 = m.log2 + k := by rw [← hs]; exact log_shl hm
  unfold Ieee.Format.nearest
  rw [hs, if_neg hm, if_neg hne, hlog]
  have c4 : Ieee.double.leastPlace = -1074 := by decide
  have c5 : Ieee.double.fractionBits = 52 := by decide
  rw [c4, c5]
  dsimp only
  have e0 : (0 : Int) + ((m.log2 + k : Nat) : Int) - ((52 : Nat) : Int) = (k : Int) + ((m.log2 : Nat) : Int) - ((52 : Nat) : Int) := by omega
  rw [e0]
  generalize hlast : max ((k : Int) + ((m.log2 : Nat) : Int) - ((52 : Nat) : Int)) (-1074) = last
  have h1 : last ≤ (k : Int) := by omega
  have key : Ieee.Toward.even.cut s ((m * 2 ^ k) <<< (0 - last).toNat) (last - 0).toNat = Ieee.Toward.even.cut s (m <<< ((k : Int) - last).toNat) (last - (k : Int)).toNat := by
    rw [show (last - (k : Int)).toNat = 0 by omega, cut_zero, Nat.shiftLeft_eq, Nat.shiftLeft_eq]
    by_cases hn : last ≤ 0
    · rw [show (last - 0).toNat = 0 by omega, cut_zero, Nat.mul_assoc, ← Nat.pow_add, show k + (0 - last).toNat = ((k : Int) - last).toNat by omega]
    · rw [show (0 - last).toNat = 0 by omega, Nat.pow_zero, Nat.mul_one, cut_exact s m k _ (by omega) hm, show k - (last - 0).toNat = ((k : Int) - last).toNat by omega]
  rw [key]

/-- What is compared with a whole number. -/
theorem cmpK {s t : Bool} {m K : Nat} {p : Int} (h1 : p ≤ 0) (h2 : -1074 ≤ p) : compare (Zv s m p) (Zv t K 0) = compare (Ieee.signed s m 0) (Ieee.signed t K (-p).toNat) := by
  rw [Zv_base (show p ≤ p by omega) h2, Zv_base (show p ≤ (0 : Int) by omega) h2, show (p - p).toNat = 0 by omega, show ((0 : Int) - p).toNat = (-p).toNat by omega]
  exact compare_mul (Int.natCast_pos.2 (Nat.pow_pos (by decide)))
theorem cmpK' {s t : Bool} {m K : Nat} {p : Int} (h1 : p ≤ 0) (h2 : -1074 ≤ p) : compare (Zv t K 0) (Zv s m p) = compare (Ieee.signed t K (-p).toNat) (Ieee.signed s m 0) := by
  rw [Zv_base (show p ≤ p by omega) h2, Zv_base (show p ≤ (0 : Int) by omega) h2, show (p - p).toNat = 0 by omega, show ((0 : Int) - p).toNat = (-p).toNat by omega]
  exact compare_mul (Int.natCast_pos.2 (Nat.pow_pos (by decide)))
theorem r6 : ∃ m p, Ieee.double.read 4696837146684686336 = .number false m p ∧ -1074 ≤ p ∧ Zv false m p = Zv false 1000000 0 :=
  ⟨8589934592000000, -33, by decide +kernel, by decide, by
    have h := Zv_shift false (m := 1000000) (p := 0) (q := -33) (by decide) (by decide)
    rw [show 1000000 * 2 ^ ((0 : Int) - -33).toNat = 8589934592000000 by decide +kernel] at h
    exact h⟩
theorem r7 : ∃ m p, Ieee.double.read 4696837155274620928 = .number false m p ∧ -1074 ≤ p ∧ Zv false m p = Zv false 1000001 0 :=
  ⟨8589943181934592, -33, by decide +kernel, by decide, by
    have h := Zv_shift false (m := 1000001) (p := 0) (q := -33) (by decide) (by decide)
    rw [show 1000001 * 2 ^ ((0 : Int) - -33).toNat = 8589943181934592 by decide +kernel] at h
    exact h⟩
theorem r8 : ∃ m p, Ieee.double.read 13920209192129396736 = .number true m p ∧ -1074 ≤ p ∧ Zv true m p = Zv true 1000001 0 :=
  ⟨8589943181934592, -33, by decide +kernel, by decide, by
    have h := Zv_shift true (m := 1000001) (p := 0) (q := -33) (by decide) (by decide)
    rw [show 1000001 * 2 ^ ((0 : Int) - -33).toNat = 8589943181934592 by decide +kernel] at h
    exact h⟩
theorem ltD_ord {x y : Nat} {o : Ordering} (h : FloatKind.f64.format.order x y = some o) : ltD x y = (o == .lt) := by
  unfold ltD
  rw [h]
  cases o <;> rfl
theorem gtD_ord {x y : Nat} {o : Ordering} (h : FloatKind.f64.format.order x y = some o) : gtD x y = (o == .gt) := by
  unfold gtD
  rw [h]
  cases o <;> rfl
theorem eqD_ord {x y : Nat} {o : Ordering} (h : FloatKind.f64.format.order x y = some o) : eqD x y = (o == .eq) := by
  unfold eqD
  rw [h]
  cases o <;> rfl
theorem cmp_lt {a b : Int} : (compare a b == .lt) = decide (a < b) := by
  by_cases h : a < b
  · rw [Int.compare_eq_lt.2 h, decide_eq_true h]; rfl
  · rw [decide_eq_false h]
    cases hc : compare a b with
    | lt => exact (h (Int.compare_eq_lt.1 hc)).elim
    | eq => rfl
    | gt => rfl
theorem cmp_gt {a b : Int} : (compare a b == .gt) = decide (b < a) := by
  by_cases h : b < a
  · rw [Int.compare_eq_gt.2 h, decide_eq_true h]; rfl
  · rw [decide_eq_false h]
    cases hc : compare a b with
    | gt => exact (h (Int.compare_eq_gt.1 hc)).elim
    | eq => rfl
    | lt => rfl
theorem cmp_le {a b : Int} : ((compare a b == .lt) || (compare a b == .eq)) = decide (a ≤ b) := by
  rw [cmp_lt]
  by_cases h : a < b
  · rw [decide_eq_true h, decide_eq_true (show a ≤ b by omega)]; rfl
  · rw [decide_eq_false h, Bool.false_or]
    by_cases he : a = b
    · rw [Int.compare_eq_eq.2 he, decide_eq_true (show a ≤ b by omega)]; rfl
    · rw [decide_eq_false (show ¬ a ≤ b by omega)]
      cases hc : compare a b with
      | eq => exact (he (Int.compare_eq_eq.1 hc)).elim
      | lt => rfl
      | gt => rfl
def gOf (s : Bool) (m : Nat) (p : Int) : Nat := m / 2 ^ (-p).toNat + (s && m % 2 ^ (-p).toNat != 0).toNat
/-- The answer. -/
def flr (x : Nat) : Option Int := match Ieee.double.read x with
  | .number s m p => if p < 0 ∧ gOf s m p ≤ 1000000 then some (Ieee.signed s (gOf s m p) 0) else none
  | _ => none
theorem flr_impl {α : Type} {x : Nat} (hx : isN .f64 x = false) (A : Option α) (B : Int → Option α) :
    (match !isN .f64 (integD .down x) with
      | true => (match !(ltD (absD (integD .down x)) 4696837146684686336 || eqD (absD (integD .down x)) 4696837146684686336) with
        | true => A
        | false => (match floatToIntVal .f64 (integD .down x) .i64 with | some n2 => B n2 | none => none))
      | false => none) = (match flr x with | some k => B k | none => A) := by
  obtain ⟨m6, p6, h6, h6p, h6z⟩ := r6
  unfold isN at hx
  cases hd : FloatKind.f64.decode x with
  | nan s f => rw [hd] at hx; cases hx
  | infinity s =>
    have hd' : Ieee.double.read x = .infinity s := hd
    have hi : integD .down x = Ieee.double.word s 9218868437227405312 := by
      unfold integD
      rw [hd]
      rfl
    have hr : Ieee.double.read (integD .down x) = .infinity s := by rw [hi]; cases s <;> decide +kernel
    have hn : isN .f64 (integD .down x) = false := by unfold isN; show (Ieee.double.read (integD .down x)).isNaN = false; rw [hr]; rfl
    have ho : FloatKind.f64.format.order (absD (integD .down x)) 4696837146684686336 = some .gt := by
      show Ieee.double.order _ _ = _
      unfold Ieee.Format.order
      rw [abs_inf hr, h6]
      rfl
    rw [hn, ltD_ord ho, eqD_ord ho]
    unfold flr
    rw [hd']
    rfl
  | number s m p =>
    have hd' : Ieee.double.read x = .number s m p := hd
    obtain ⟨hp0, hm, hsub, hp9⟩ := read_place hd'
    have hi : integD .down x = Ieee.double.nearest s (Ieee.Toward.down.cut s (m <<< p.toNat) (-p).toNat) 0 := by
      unfold integD
      rw [hd]
      rfl
    by_cases hp : p < 0
    · rw [cutD, show p.toNat = 0 by omega, Nat.shiftLeft_zero] at hi
      have hi : integD .down x = Ieee.double.nearest s (gOf s m p) 0 := hi
      have hg : gOf s m p < 9007199254740992 := by
        unfold gOf
        have h1 : m / 2 ^ (-p).toNat ≤ m / 2 := by
          refine Nat.div_le_div_left ?_ (by decide)
          have : 2 ^ 1 ≤ 2 ^ (-p).toNat := Nat.pow_le_pow_right (by decide) (by omega)
          omega
        have h2 : (s && m % 2 ^ (-p).toNat != 0).toNat ≤ 1 := by cases (s && m % 2 ^ (-p).toNat != 0) <;> decide
        omega
      obtain ⟨m', p', h1, h2, h3, h4, h5⟩ := near_exact s (m := gOf s m p) (p := 0) (by decide) hg (by
        by_cases h : gOf s m p = 0
        · exact .inl h
        · have := (Nat.log2_lt h).2 (show gOf s m p < 2 ^ 53 by omega)
          exact .inr (by omega))
      rw [← hi] at h1
      have hn : isN .f64 (integD .down x) = false := by unfold isN; show (Ieee.double.read (integD .down x)).isNaN = false; rw [h1]; rfl
      have hz : Zv false m' p' = Zv false (gOf s m p) 0 := by rw [h4]; exact Zv_shift false h3 h2
      have ho := order_Z (abs_read h1) h6 h2 h6p
      rw [h6z, hz, cmpK (by decide) (by decide)] at ho
      have hb : (ltD (absD (integD .down x)) 4696837146684686336 || eqD (absD (integD .down x)) 4696837146684686336) = decide (gOf s m p ≤ 1000000) := by
        rw [ltD_ord ho, eqD_ord ho, cmp_le]
        unfold Ieee.signed
        rw [if_neg (by decide), if_neg (by decide), show (-(0 : Int)).toNat = 0 from rfl, Nat.shiftLeft_zero, Nat.shiftLeft_zero]
        by_cases hle : gOf s m p ≤ 1000000
        · rw [decide_eq_true hle]; exact decide_eq_true (by omega)
        · rw [decide_eq_false hle]; exact decide_eq_false (by omega)
      have ht := toInt_num h1 h3
      rw [h4, show (0 - p').toNat = (-p').toNat by omega, Nat.mul_div_cancel _ (Nat.pow_pos (by decide))] at ht
      rw [hn, hb, ht]
      unfold flr
      rw [hd']
      dsimp only
      by_cases hle : gOf s m p ≤ 1000000
      · rw [decide_eq_true hle, if_pos ⟨hp, hle⟩]
        rfl
      · rw [decide_eq_false hle, if_neg (fun h => hle h.2)]
        rfl
    · have hm0 : 4503599627370496 ≤ m := by
        rcases Nat.lt_or_ge m 4503599627370496 with h | h
        · have := hsub h
          omega
        · exact h
      rw [cutD, show (-p).toNat = 0 by omega, Nat.pow_zero, Nat.div_one, Nat.mod_one] at hi
      have hi : integD .down x = Ieee.double.nearest s (m <<< p.toNat) 0 := by rw [hi]; cases s <;> rfl
      rw [near_shift s p.toNat (by omega) hm, show ((p.toNat : Nat) : Int) = p by omega] at hi
      obtain ⟨m', p', h1, h2, h3, h4⟩ := near_exact s (m := m) (p := p) (by omega) hm (by
        have := (Nat.log2_lt (show m ≠ 0 by omega)).2 (show m < 2 ^ 53 by omega)
        exact .inr (by omega))
      rw [← hi] at h1
      have hn : isN .f64 (integD .down x) = false := by unfold isN; show (Ieee.double.read (integD .down x)).isNaN = false; rw [h1]; rfl
      have hz : Zv false m' p' = Zv false m p := by rw [h4.1]; exact Zv_shift false h3 h2
      have ho := order_Z (abs_read h1) h6 h2 h6p
      rw [h6z, hz] at ho
      have hgt : (1000000 : Int) < (m <<< p.toNat : Nat) := by
        rw [Nat.shiftLeft_eq]
        have : m * 1 ≤ m * 2 ^ p.toNat := Nat.mul_le_mul_left _ (Nat.pow_pos (by decide))
        omega
      have hzz : compare (Zv false m p) (Zv false 1000000 0) = .gt := by
        rw [Zv_base (s := false) (m := m) (p := p) (base := 0) (by omega) (by decide), Zv_base (s := false) (m := 1000000) (p := 0) (base := 0) (by decide) (by decide), compare_mul (Int.natCast_pos.2 (Nat.pow_pos (by decide)))]
        rw [Int.compare_eq_gt]
        unfold Ieee.signed
        rw [if_neg (by decide), if_neg (by decide), show ((0 : Int) - 0).toNat = 0 from rfl, Nat.shiftLeft_zero, show (p - 0).toNat = p.toNat by omega]
        exact hgt
      rw [hzz] at ho
      rw [hn, ltD_ord ho, eqD_ord ho]
      unfold flr
      rw [hd']
      dsimp only
      rw [if_neg (fun h => hp h.1)]
      rfl
theorem flr_spec {α : Type} {x : Nat} (hx : isN .f64 x = false) (A : Option α) (B : Int → Option α) :
    (match gtD x 13920209192129396736 with
      | true => (match !(ltD x 4696837155274620928) with
        | true => A
        | false => (match floatToIntVal .f64 x .i64 with
          | some n2 => (match gtD (floatOfInt .f64 n2) x with
            | true => (match !(inB (IntKind.i64.wrap (n2 - 1)) (-1000000) 1000000) with
              | true => A
              | false => B (IntKind.i64.wrap (n2 - 1)))
            | false => (match !(inB n2 (-1000000) 1000000) with
              | true => A
              | false => B n2))
          | none => none))
      | false => A) = (match flr x with | some k => B k | none => A) := by
  obtain ⟨m7, p7, h7, h7p, h7z⟩ := r7
  obtain ⟨m8, p8, h8, h8p, h8z⟩ := r8
  unfold isN at hx
  cases hd : FloatKind.f64.decode x with
  | nan s f => rw [hd] at hx; cases hx
  | infinity s =>
    have hd' : Ieee.double.read x = .infinity s := hd
    unfold flr
    rw [hd']
    cases s
    · have ho : FloatKind.f64.format.order x 4696837155274620928 = some .gt := by
        show Ieee.double.order _ _ = _
        unfold Ieee.Format.order
        rw [hd', h7]
        rfl
      rw [ltD_ord ho]
      cases gtD x 13920209192129396736 <;> rfl
    · have ho : FloatKind.f64.format.order x 13920209192129396736 = some .lt := by
        show Ieee.double.order _ _ = _
        unfold Ieee.Format.order
        rw [hd', h8]
        rfl
      rw [gtD_ord ho]
      rfl
  | number s m p =>
    have hd' : Ieee.double.read x = .number s m p := hd
    obtain ⟨hp0, hm, hsub, hp9⟩ := read_place hd'
    have o7 := order_Z hd' h7 hp0 h7p
    have o8 := order_Z hd' h8 hp0 h8p
    rw [h7z] at o7
    rw [h8z] at o8
    by_cases hp : p < 0
    · rw [cmpK (by omega) hp0] at o7 o8
      have t7 : ltD x 4696837155274620928 = decide (Ieee.signed s m 0 < Ieee.signed false 1000001 (-p).toNat) := by rw [ltD_ord o7, cmp_lt]
      have t8 : gtD x 13920209192129396736 = decide (Ieee.signed true 1000001 (-p).toNat < Ieee.signed s m 0) := by rw [gtD_ord o8, cmp_gt]
      have hint := toInt_num hd' (by omega)
      have hgf : gtD (floatOfInt .f64 (Ieee.signed s (m / 2 ^ (-p).toNat) 0)) x = decide (Ieee.signed s m 0 < Ieee.signed s (m / 2 ^ (-p).toNat) (-p).toNat) := by
        have hq : m / 2 ^ (-p).toNat < 9007199254740992 := Nat.lt_of_le_of_lt (Nat.div_le_self _ _) hm
        generalize m / 2 ^ (-p).toNat = q at hq
        have hr : ∃ t m' p', Ieee.double.read (floatOfInt .f64 (Ieee.signed s q 0)) = .number t m' p' ∧ -1074 ≤ p' ∧ Zv t m' p' = Zv s q 0 := by
          rw [ofInt_num]
          by_cases h0 : q = 0
          · rw [if_pos h0, h0]
            exact ⟨false, 0, -1074, by decide +kernel, by decide, by cases s <;> (unfold Zv Ieee.signed; simp)⟩
          · rw [if_neg h0]
            obtain ⟨m', p', h1, h2, h3, h4⟩ := near_Z s (m := q) (p := 0) (by decide) hq (by
              have := (Nat.log2_lt h0).2 (show q < 2 ^ 53 by omega)
              exact .inr (by omega))
            exact ⟨s, m', p', h1, h2, h4⟩
        obtain ⟨t, m', p', h1, h2, h3⟩ := hr
        have ho := order_Z h1 hd' h2 hp0
        rw [h3, cmpK' (by omega) hp0] at ho
        rw [gtD_ord ho, cmp_gt]
      rw [t7, t8, hint]
      dsimp only
      rw [hgf]
      unfold flr
      rw [hd']
      dsimp only
      have hD : 0 < 2 ^ (-p).toNat := Nat.pow_pos (by decide)
      have hdm := Nat.div_add_mod m (2 ^ (-p).toNat)
      have hrl := Nat.mod_lt m hD
      have hlt : m < 1000001 * 2 ^ (-p).toNat ↔ m / 2 ^ (-p).toNat < 1000001 := by rw [Nat.div_lt_iff_lt_mul hD]
      have hqm : m / 2 ^ (-p).toNat ≤ m := Nat.div_le_self _ _
      unfold gOf
      rw [Nat.mul_comm] at hdm
      unfold Ieee.signed
      rw [Nat.shiftLeft_zero, Nat.shiftLeft_eq, Nat.shiftLeft_zero, Nat.shiftLeft_eq]
      generalize hDD : 2 ^ (-p).toNat = D at *
      generalize hqq : m / D = q at *
      generalize hrr : m % D = r at *
      generalize hqd : q * D = qD at *
      generalize hkd : 1000001 * D = kD at *
      cases s
      · simp only [Bool.false_eq_true, if_false, if_true, Nat.shiftLeft_zero]
        rw [decide_eq_true (show -((kD : Nat) : Int) < (m : Int) by omega), decide_eq_false (show ¬ ((m : Nat) : Int) < ((qD : Nat) : Int) by omega)]
        simp only [Bool.false_and, Bool.toNat_false, Nat.add_zero]
        by_cases hq6 : q ≤ 1000000
        · rw [decide_eq_true (show (m : Int) < ((kD : Nat) : Int) by omega), if_pos ⟨hp, hq6⟩]
          have hin : inB ((q : Nat) : Int) (-1000000) 1000000 = true := by
            unfold inB
            rw [decide_eq_true (show ((q : Nat) : Int) ≥ -1000000 by omega), decide_eq_true (show ((q : Nat) : Int) ≤ 1000000 by omega)]
            rfl
          rw [hin]
          rfl
        · rw [if_neg (fun h => hq6 h.2)]
          by_cases hq7 : q = 1000000
          · omega
          · rw [decide_eq_false (show ¬ (m : Int) < ((kD : Nat) : Int) by omega)]
            rfl
      · simp only [Bool.false_eq_true, if_false, if_true, Nat.shiftLeft_zero]
        rw [decide_eq_true (show -((m : Nat) : Int) < ((kD : Nat) : Int) by omega)]
        by_cases hq6 : q < 1000001
        · rw [decide_eq_true (show -((kD : Nat) : Int) < -((m : Nat) : Int) by omega)]
          dsimp only
          by_cases hr0 : r = 0
          · subst hr0
            rw [decide_eq_false (show ¬ -((m : Nat) : Int) < -((qD : Nat) : Int) by omega)]
            have hin : inB (-((q : Nat) : Int)) (-1000000) 1000000 = true := by
              unfold inB
              rw [decide_eq_true (show -((q : Nat) : Int) ≥ -1000000 by omega), decide_eq_true (show -((q : Nat) : Int) ≤ 1000000 by omega)]
              rfl
            rw [hin]
            have hg : q + (true && 0 != 0).toNat = q := by simp
            rw [hg, if_pos ⟨hp, by omega⟩]
            rfl
          · rw [decide_eq_true (show -((m : Nat) : Int) < -((qD : Nat) : Int) by omega)]
            have hg : q + (true && r != 0).toNat = q + 1 := by
              have : (r != 0) = true := by simpa using hr0
              rw [this]
              rfl
            rw [hg]
            have hw : IntKind.i64.wrap (-((q : Nat) : Int) - 1) = -((q + 1 : Nat) : Int) := by rw [wrap_z (by omega) (by omega)]; omega
            dsimp only
            rw [hw]
            by_cases hq9 : q + 1 ≤ 1000000
            · have hin : inB (-((q + 1 : Nat) : Int)) (-1000000) 1000000 = true := by
                unfold inB
                rw [decide_eq_true (show -((q + 1 : Nat) : Int) ≥ -1000000 by omega), decide_eq_true (show -((q + 1 : Nat) : Int) ≤ 1000000 by omega)]
                rfl
              rw [hin, if_pos ⟨hp, hq9⟩]
              rfl
            · have hin : inB (-((q + 1 : Nat) : Int)) (-1000000) 1000000 = false := by
                unfold inB
                rw [decide_eq_false (show ¬ -((q + 1 : Nat) : Int) ≥ -1000000 by omega)]
                rfl
              rw [hin, if_neg (fun h => hq9 h.2)]
              rfl
        · rw [decide_eq_false (show ¬ -((kD : Nat) : Int) < -((m : Nat) : Int) by omega), if_neg (fun h => by omega)]
    · have hm0 : 4503599627370496 ≤ m := by
        rcases Nat.lt_or_ge m 4503599627370496 with h | h
        · have := hsub h
          omega
        · exact h
      have hgt : (1000001 : Int) < (m <<< p.toNat : Nat) := by
        rw [Nat.shiftLeft_eq]
        have : m * 1 ≤ m * 2 ^ p.toNat := Nat.mul_le_mul_left _ (Nat.pow_pos (by decide))
        omega
      have hb : ∀ t : Bool, compare (Zv s m p) (Zv t 1000001 0) = compare (Ieee.signed s m p.toNat) (Ieee.signed t 1000001 0) := by
        intro t
        rw [Zv_base (s := s) (m := m) (p := p) (base := 0) (by omega) (by decide), Zv_base (s := t) (m := 1000001) (p := 0) (base := 0) (by decide) (by decide), compare_mul (Int.natCast_pos.2 (Nat.pow_pos (by decide)))]
        rw [show ((0 : Int) - 0).toNat = 0 from rfl, show (p - 0).toNat = p.toNat by omega]
      rw [hb] at o7 o8
      have t7 : ltD x 4696837155274620928 = decide (Ieee.signed s m p.toNat < Ieee.signed false 1000001 0) := by rw [ltD_ord o7, cmp_lt]
      have t8 : gtD x 13920209192129396736 = decide (Ieee.signed true 1000001 0 < Ieee.signed s m p.toNat) := by rw [gtD_ord o8, cmp_gt]
      rw [t7, t8]
      unfold flr
      rw [hd']
      dsimp only
      rw [if_neg (fun h => hp h.1)]
      unfold Ieee.signed
      rw [Nat.shiftLeft_zero]
      generalize m <<< p.toNat = G at hgt
      cases s
      · simp only [Bool.false_eq_true, if_false, if_true]
        rw [decide_eq_false (show ¬ ((G : Nat) : Int) < ((1000001 : Nat) : Int) by omega)]
        cases decide (-((1000001 : Nat) : Int) < ((G : Nat) : Int)) <;> rfl
      · simp only [Bool.false_eq_true, if_false, if_true]
        rw [decide_eq_false (show ¬ -((1000001 : Nat) : Int) < -((G : Nat) : Int) by omega)]
end Go.Proofs.Ythcjbchkagkaaaa.Ab
