/- Whole parts of 64 bit numbers: the functions that the model answers itself, and what they are. Only lemmas. -/
import Derived.Test.YtlopdogjdfeikaaExact
namespace Go.Proofs.Ytlopdogjdfeikaa.Ab
set_option linter.unusedVariables false
set_option linter.unusedSimpArgs false
open Go

def integD (way : Ieee.Toward) (x : Nat) : Nat := match FloatKind.f64.decode x with
  | .nan _ _ => qnan .f64
  | .number s m p => FloatKind.f64.encode ((Ieee.Datum.number s m p).integral way)
  | .infinity s => FloatKind.f64.encode ((Ieee.Datum.infinity s).integral way)
def gInteg (way : Ieee.Toward) : GT := fun vs h => match vs, h with | [.fl .f64 x], [] => .ret (.fl .f64 (integD way x)) [] | _, _ => .no
theorem integ_nan {way : Ieee.Toward} {b : Nat} (h : isN .f64 b = true) : integD way (canon .f64 b) = qnan .f64 := by
  rw [canon_nan h]
  unfold integD
  have : FloatKind.f64.decode (qnan .f64) = .nan false 2251799813685248 := by decide +kernel
  rw [this]
theorem integ_ok {P : Program} {f : FuncId} {fn : Func} {nm : String} {way : Ieee.Toward} (hf : P.funcs[f]? = some fn) (hname : (fn.name == "runtime.NumGoroutine") = false) (hb : fn.body.isNone = true) (hn : Extern.findNext fn = none) (he : Extern.find fn = some (Extern.MathFloor.toIntegral nm way)) : FnT P f (gInteg way) := by
  refine ext_ok hf hname hb hn he fun vs hp v h' e => ?_
  unfold gInteg at e
  split at e
  case h_2 => exact (T.no_inv e).elim
  obtain ⟨rfl, rfl⟩ := T.ret_inv e
  refine ⟨rfl, rfl, fun μ cvs w hv => ?_⟩
  obtain ⟨c, rfl, b, rfl, rfl⟩ := rep_one hv
  have hrun : (Extern.MathFloor.toIntegral nm way) ⟨[Value.float .f64 b]⟩ = (match FloatKind.f64.decode b with
      | .nan s t =>
        if FloatKind.f64.format.quiet t = t then pure (.float .f64 b) else do
        let kept ← choose (.extern "math.Floor,Ceil,Trunc,RoundToEven.signallingNaN kept" 2)
        pure (.float .f64 (if kept == 1 then b else FloatKind.f64.encode (.nan s (FloatKind.f64.format.quiet t))))
      | d => pure (.float .f64 (FloatKind.f64.encode (d.integral way)))) := rfl
  rw [hrun]
  cases e : FloatKind.f64.decode b with
  | number s m p =>
    have hnb : isN .f64 b = false := by unfold isN; rw [e]; rfl
    refine ⟨.float .f64 (FloatKind.f64.encode ((Ieee.Datum.number s m p).integral way)), 0, rfl, _, rfl, ?_⟩
    rw [canon_of hnb]
    unfold integD
    rw [e]
    exact canon_of (isN_write .f64 (d := (Ieee.Datum.number s m p).integral way) rfl)
  | infinity s =>
    have hnb : isN .f64 b = false := by unfold isN; rw [e]; rfl
    refine ⟨.float .f64 (FloatKind.f64.encode ((Ieee.Datum.infinity s).integral way)), 0, rfl, _, rfl, ?_⟩
    rw [canon_of hnb]
    unfold integD
    rw [e]
    exact canon_of (isN_write .f64 (d := (Ieee.Datum.infinity s).integral way) rfl)
  | nan s t =>
    have hnb : isN .f64 b = true := by unfold isN; rw [e]; rfl
    rw [integ_nan hnb]
    dsimp only
    split
    · exact ⟨.float .f64 b, 0, rfl, _, rfl, canon_nan hnb⟩
    · rename_i hq
      refine ⟨_, 1, rfl, _, rfl, canon_nan ?_⟩
      split
      · exact hnb
      · have hnz : (FloatKind.f64.decode (FloatKind.f64.encode (.nan s (FloatKind.f64.format.quiet t)))).isNaN = true := by
          show (Ieee.double.read (Ieee.double.word s (9218868437227405312 + (t ||| 2251799813685248) % 4503599627370496))).isNaN = true
          have hlo : 2251799813685248 ≤ (t ||| 2251799813685248) % 4503599627370496 := by
            rw [show (4503599627370496 : Nat) = 2 ^ 52 by decide, Nat.or_mod_two_pow]
            exact Nat.right_le_or
          have hhi : (t ||| 2251799813685248) % 4503599627370496 < 4503599627370496 := Nat.mod_lt _ (by decide)
          generalize (t ||| 2251799813685248) % 4503599627370496 = q at hlo hhi
          have c1 : Ieee.double.signWeight = 9223372036854775808 := by decide
          have c2 : Ieee.double.binade = 4503599627370496 := by decide
          have c3 : Ieee.double.infRung = 9218868437227405312 := by decide
          unfold Ieee.Format.read Ieee.Format.word
          rw [c1, c2, c3]
          have hmm : (if s = true then 9223372036854775808 + (9218868437227405312 + q) else 9218868437227405312 + q) % 9223372036854775808 = 9218868437227405312 + q := by split <;> omega
          dsimp only
          rw [hmm, if_neg (by omega), if_neg (by omega), if_neg (by omega)]
          rfl
        exact hnz

/-! ### Cut towards nought -/
theorem cutZ (s : Bool) (n drop : Nat) : Ieee.Toward.zero.cut s n drop = n / 2 ^ drop := by
  unfold Ieee.Toward.cut
  simp only [Nat.one_shiftLeft, Bool.toNat_false, Nat.add_zero]
  by_cases h : drop ≤ n.log2 + 2
  · rw [Nat.min_eq_left h]
  · rw [Nat.min_eq_right (by omega)]
    have h1 : n < 2 ^ (n.log2 + 1) := Nat.lt_log2_self
    rw [Nat.div_eq_of_lt (Nat.lt_of_lt_of_le h1 (Nat.pow_le_pow_right (by decide) (by omega))), Nat.div_eq_of_lt (Nat.lt_of_lt_of_le h1 (Nat.pow_le_pow_right (by decide) (by omega)))]
/-- 'int64(x)' of a number that is no greater than an int64. -/
theorem toInt_num {x : Nat} {s : Bool} {m : Nat} {p : Int} (hx : Ieee.double.read x = .number s m p) (hp : p ≤ 0) :
    floatToIntVal .f64 x .i64 = some (Ieee.signed s (m / 2 ^ (-p).toNat) 0) := by
  have hb := (read_place hx).2.1
  have hq : m / 2 ^ (-p).toNat < 9007199254740992 := Nat.lt_of_le_of_lt (Nat.div_le_self _ _) hb
  unfold floatToIntVal
  have hd : FloatKind.f64.decode x = .number s m p := hx
  rw [hd]
  have ht : (Ieee.Datum.number s m p).toInt .zero = some (Ieee.signed s (m / 2 ^ (-p).toNat) 0) := by
    unfold Ieee.Datum.toInt Ieee.Datum.integral
    dsimp only
    rw [cutZ, show p.toNat = 0 by omega, Nat.shiftLeft_zero]
  rw [ht]
  dsimp only
  rw [if_pos]
  generalize m / 2 ^ (-p).toNat = q at hq
  unfold Ieee.signed
  rw [Nat.shiftLeft_zero]
  have h1 : IntKind.i64.min = -9223372036854775808 := by decide
  have h2 : IntKind.i64.max = 9223372036854775807 := by decide
  rw [h1, h2]
  split <;> omega
/-- Cut towards nought, a nought being without a sign, is the integer's own float. -/
theorem trunc_num {x : Nat} {s : Bool} {m : Nat} {p : Int} (hx : Ieee.double.read x = .number s m p) (hp : p < 0) :
    integD .zero x = Ieee.double.nearest s (m / 2 ^ (-p).toNat) 0 := by
  unfold integD
  have hd : FloatKind.f64.decode x = .number s m p := hx
  rw [hd]
  show Ieee.double.write ((Ieee.Datum.number s m p).integral .zero) = _
  unfold Ieee.Datum.integral
  dsimp only
  rw [cutZ, show p.toNat = 0 by omega, Nat.shiftLeft_zero]
  rfl
theorem ofInt_num (s : Bool) (q : Nat) : floatOfInt .f64 (Ieee.signed s q 0) = if q = 0 then 0 else Ieee.double.nearest s q 0 := by
  show Ieee.double.nearest (decide (Ieee.signed s q 0 < 0)) (Ieee.signed s q 0).natAbs 0 = _
  rw [signed_abs, Nat.pow_zero, Nat.mul_one]
  by_cases hq : q = 0
  · subst hq
    rw [if_pos rfl]
    cases s <;> decide +kernel
  · rw [if_neg hq]
    congr 1
    unfold Ieee.signed
    rw [Nat.shiftLeft_zero]
    cases s
    · rw [if_neg (by decide)]; exact decide_eq_false (by omega)
    · rw [if_pos rfl]; exact decide_eq_true (by omega)
theorem eqD_zero {s : Bool} {q : Nat} (hq : q < 9007199254740992) : eqD (Ieee.double.nearest s q 0) 0 = decide (q = 0) := by
  obtain ⟨m', p', h1, h2, h3, h4⟩ := near_Z s (p := 0) (by decide) hq (by
    by_cases h : q = 0
    · exact .inl h
    · have := (Nat.log2_lt h).2 (show q < 2 ^ 53 by omega)
      exact .inr (by omega))
  have hz : Ieee.double.read 0 = .number false 0 (-1074) := by decide +kernel
  unfold eqD
  rw [order_Z h1 hz h2 (by decide), h4]
  have e0 : Zv false 0 (-1074) = 0 := by decide
  rw [e0]
  have hpos : ∀ k : Nat, (0 : Int) < ((2 ^ k : Nat) : Int) := fun k => Int.natCast_pos.2 (Nat.pow_pos (by decide))
  rw [Zv_base (s := s) (m := q) (p := 0) (base := 0) (by decide) (by decide), show ((0 : Int) - 0).toNat = 0 from rfl]
  have hp := hpos ((0 : Int) + 1074).toNat
  generalize ((2 ^ ((0 : Int) + 1074).toNat : Nat) : Int) = c at hp
  rw [show compare (Ieee.signed s q 0 * c) 0 = compare (Ieee.signed s q 0 * c) (0 * c) by rw [Int.zero_mul], compare_mul hp]
  by_cases h : q = 0
  · subst h
    cases s <;> decide
  · rw [decide_eq_false h]
    have hne : Ieee.signed s q 0 ≠ 0 := by
      intro h0
      have := congrArg Int.natAbs h0
      rw [signed_abs] at this
      simp at this
      exact h this
    cases hc : compare (Ieee.signed s q 0) 0 with
    | eq => exact (hne (Int.compare_eq_eq.1 hc)).elim
    | lt => rfl
    | gt => rfl
/-- What is left behind the point lies from -1 to 1. -/
theorem frac_le1 {x : Nat} {s : Bool} {m : Nat} {p : Int} (hx : Ieee.double.read x = .number s m p) (hp : p < 0) :
    ∃ w, floatToIntVal .f64 x .i64 = some w ∧ ∃ b n e, fop .sub .f64 x (floatOfInt .f64 w) = Ieee.double.nearest b n e ∧ LE1 n e ∧ (b = s ∨ n = 0) := by
  refine ⟨_, toInt_num hx (by omega), ?_⟩
  obtain ⟨hp0, hm, _⟩ := read_place hx
  generalize hq : m / 2 ^ (-p).toNat = q
  have hqm : q ≤ m := by rw [← hq]; exact Nat.div_le_self _ _
  have hr : ∃ t m' p', Ieee.double.read (floatOfInt .f64 (Ieee.signed s q 0)) = .number t m' p' ∧ -1074 ≤ p' ∧ Zv t m' p' = Zv s q 0 := by
    rw [ofInt_num]
    by_cases h0 : q = 0
    · rw [if_pos h0, h0]
      exact ⟨false, 0, -1074, by decide +kernel, by decide, by cases s <;> (unfold Zv Ieee.signed; simp)⟩
    · rw [if_neg h0]
      obtain ⟨m', p', h1, h2, h3, h4⟩ := near_Z s (m := q) (p := 0) (by decide) (by omega) (by
        have := (Nat.log2_lt h0).2 (show q < 2 ^ 53 by omega)
        exact .inr (by omega))
      exact ⟨s, m', p', h1, h2, h4⟩
  obtain ⟨t, m', p', h1, h2, h3⟩ := hr
  have e : fop .sub .f64 x (floatOfInt .f64 (Ieee.signed s q 0)) = Ieee.double.nearest (if Ieee.signed s m (p - min p p').toNat + Ieee.signed (!t) m' (p' - min p p').toNat = 0 then s && !t else decide (Ieee.signed s m (p - min p p').toNat + Ieee.signed (!t) m' (p' - min p p').toNat < 0)) (Ieee.signed s m (p - min p p').toNat + Ieee.signed (!t) m' (p' - min p p').toNat).natAbs (min p p') := by
    unfold fop floatBits
    show (Ieee.double.sub x _).getD _ = _
    unfold Ieee.Format.sub
    rw [hx, h1]
    rfl
  refine ⟨_, _, _, e, ?_⟩
  generalize hbase : min p p' = base
  generalize hT : Ieee.signed s m (p - base).toNat + Ieee.signed (!t) m' (p' - base).toNat = T
  have hneg : ∀ (b : Bool) (k u : Nat), Ieee.signed (!b) k u = - Ieee.signed b k u := by
    intro b k u
    unfold Ieee.signed
    cases b <;> simp
  have hZ : T * ((2 ^ (base + 1074).toNat : Nat) : Int) = Zv s m p - Zv s q 0 := by
    rw [← h3, Zv_base (show base ≤ p by omega) (by omega), Zv_base (show base ≤ p' by omega) (by omega), ← hT, hneg, Int.add_mul, Int.neg_mul]
    omega
  have hrem : Zv s m p - Zv s q 0 = Ieee.signed s (m % 2 ^ (-p).toNat) (p + 1074).toNat := by
    have hsplit : m = q * 2 ^ (-p).toNat + m % 2 ^ (-p).toNat := by rw [← hq, Nat.mul_comm]; exact (Nat.div_add_mod _ _).symm
    have e1 : q * 2 ^ ((0 : Int) + 1074).toNat = q * 2 ^ (-p).toNat * 2 ^ (p + 1074).toNat := by
      rw [Nat.mul_assoc, ← Nat.pow_add, show (-p).toNat + (p + 1074).toNat = ((0 : Int) + 1074).toNat by omega]
    have e2 : m * 2 ^ (p + 1074).toNat = q * 2 ^ (-p).toNat * 2 ^ (p + 1074).toNat + m % 2 ^ (-p).toNat * 2 ^ (p + 1074).toNat := by
      rw [← Nat.add_mul, ← hsplit]
    unfold Zv Ieee.signed
    rw [Nat.shiftLeft_eq, Nat.shiftLeft_eq, Nat.shiftLeft_eq, e1, e2]
    generalize q * 2 ^ (-p).toNat * 2 ^ (p + 1074).toNat = A
    generalize m % 2 ^ (-p).toNat * 2 ^ (p + 1074).toNat = B
    cases s
    · simp only [Bool.false_eq_true, if_false]; omega
    · simp only [if_true]; omega
  rw [hrem] at hZ
  have hlt : m % 2 ^ (-p).toNat < 2 ^ (-p).toNat := Nat.mod_lt _ (Nat.pow_pos (by decide))
  have habs : T.natAbs * 2 ^ (base + 1074).toNat = m % 2 ^ (-p).toNat * 2 ^ (p + 1074).toNat := by
    have := congrArg Int.natAbs hZ
    rw [Int.natAbs_mul, Int.natAbs_natCast, signed_abs] at this
    exact this
  constructor
  · by_cases hT0 : T.natAbs = 0
    · exact .inl hT0
    right
    refine ⟨by omega, ?_⟩
    have h5 : m % 2 ^ (-p).toNat * 2 ^ (p + 1074).toNat < 2 ^ (-p).toNat * 2 ^ (p + 1074).toNat := Nat.mul_lt_mul_of_pos_right hlt (Nat.pow_pos (by decide))
    rw [← habs, ← Nat.pow_add, show (-p).toNat + (p + 1074).toNat = (-base).toNat + (base + 1074).toNat by omega, Nat.pow_add] at h5
    exact Nat.le_of_lt (Nat.lt_of_mul_lt_mul_right h5)
  · by_cases hT0 : T = 0
    · exact .inr (by rw [hT0]; rfl)
    left
    rw [if_neg hT0]
    have hpos : (0 : Int) < ((2 ^ (base + 1074).toNat : Nat) : Int) := Int.natCast_pos.2 (Nat.pow_pos (by decide))
    cases s
    · have : 0 ≤ T * ((2 ^ (base + 1074).toNat : Nat) : Int) := by
        rw [hZ]
        unfold Ieee.signed
        rw [if_neg (by decide)]
        exact Int.natCast_nonneg _
      have := Int.nonneg_of_mul_nonneg_left this hpos
      exact decide_eq_false (by omega)
    · have : T * ((2 ^ (base + 1074).toNat : Nat) : Int) ≤ 0 := by
        rw [hZ]
        unfold Ieee.signed
        rw [if_pos rfl]
        omega
      have : T ≤ 0 := by
        rcases Int.lt_or_le 0 T with h | h
        · have := Int.mul_pos h hpos
          omega
        · exact h
      exact decide_eq_true (by omega)
end Go.Proofs.Ytlopdogjdfeikaa.Ab
