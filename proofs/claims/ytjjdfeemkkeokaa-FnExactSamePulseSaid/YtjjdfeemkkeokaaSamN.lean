/- Two float32 are the same number just where their bits are. Only lemmas. -/
import Derived.Test.YtjjdfeemkkeokaaSgn
namespace Go.Proofs.Ytjjdfeemkkeokaa.Ab
set_option linter.unusedVariables false
set_option linter.unusedSimpArgs false
open Go

def bI (x : Nat) : Int := cond (!eqB x x) 2143289344 (IntKind.i64.wrap ((x : Nat) : Int))
def sN (a b : Nat) : Bool := bI a == bI b
def sbD (x : Nat) : Bool := decide (IntKind.i64.wrap ((x : Nat) : Int) < 0)
theorem eqB_self {x : Nat} : eqB x x = !isN .f32 x := by
  cases hx : isN .f32 x with
  | true => unfold eqB; rw [order_nan (.inl hx)]; rfl
  | false => unfold eqB; rw [order_self hx]; rfl
/-- What a float32's bits are, of what it reads as. -/
theorem word_of {x : Nat} (hx : x < 4294967296) : ∃ s r, x = Ieee.single.word s r ∧ r < 2147483648 := by
  by_cases h : x < 2147483648
  · exact ⟨false, x, rfl, h⟩
  · refine ⟨true, x - 2147483648, ?_, by omega⟩
    show x = 2147483648 + (x - 2147483648)
    omega
theorem read_word (s : Bool) {r : Nat} (hr : r < 2147483648) : Ieee.single.read (Ieee.single.word s r) =
    if r < 8388608 then .number s r (-149) else if r < 2139095040 then .number s (8388608 + r % 8388608) (-149 + ((r / 8388608 - 1 : Nat) : Int)) else if r = 2139095040 then .infinity s else .nan s (r - 2139095040) := by
  unfold Ieee.Format.read Ieee.Format.word
  have c1 : Ieee.single.signWeight = 2147483648 := by decide
  have c2 : Ieee.single.binade = 8388608 := by decide
  have c3 : Ieee.single.infRung = 2139095040 := by decide
  have c4 : Ieee.single.leastPlace = -149 := by decide
  simp only [c1, c2, c3, c4]
  have hm : (if s = true then 2147483648 + r else r) % 2147483648 = r := by split <;> omega
  have hs : ((if s = true then 2147483648 + r else r) / 2147483648 % 2 == 1) = s := by
    cases s
    · rw [if_neg (by decide), Nat.div_eq_of_lt (by omega)]; rfl
    · rw [if_pos rfl, Nat.add_div_left _ (by decide), Nat.div_eq_of_lt (by omega)]; rfl
  rw [hm, hs]
/-- The sign of the wider one. -/
theorem up_sign {s : Bool} {r : Nat} (hr : r ≤ 2139095040) : sbD (up (Ieee.single.word s r)) = s := by
  have key : ∀ q : Nat, q ≤ 9218868437227405312 → sbD (Ieee.double.word s q) = s := by
    intro q hq
    unfold sbD Ieee.Format.word
    have c1 : Ieee.double.signWeight = 9223372036854775808 := by decide
    rw [c1]
    simp only [IntKind.wrap, IntKind.signed, IntKind.bits]
    cases s
    · rw [if_neg (by decide)]
      refine decide_eq_false ?_
      simp
      omega
    · rw [if_pos rfl]
      refine decide_eq_true ?_
      simp
      omega
  have hx := fconv_eq (Ieee.single.word s r)
  have hrd := read_word s (show r < 2147483648 by omega)
  unfold fconv at hx
  rw [if_neg (by decide)] at hx
  have hd : FloatKind.f32.decode (Ieee.single.word s r) = Ieee.single.read (Ieee.single.word s r) := rfl
  by_cases hi : r = 2139095040
  · subst hi
    rw [read_inf] at hd
    rw [hd, if_neg (show ¬ ((Ieee.Datum.infinity s).isNaN = true) from fun h => by cases h)] at hx
    unfold floatToFloatBits at hx
    rw [if_neg (by decide), hd] at hx
    rw [← Option.some.inj hx]
    exact key 9218868437227405312 (by decide)
  · obtain ⟨m, e, h1, _⟩ := read32_num s r (by omega)
    rw [h1] at hd
    rw [hd, if_neg (show ¬ ((Ieee.Datum.number s m e).isNaN = true) from fun h => by cases h)] at hx
    unfold floatToFloatBits at hx
    rw [if_neg (by decide), hd] at hx
    simp only at hx
    split at hx
    · cases hx
    rw [← Option.some.inj hx]
    show sbD (Ieee.double.nearest s m e) = s
    obtain ⟨q, h2, h3, _⟩ := near64 s m e
    rw [h2]
    exact key q h3
theorem signed_abs' (s : Bool) (m k : Nat) : (Ieee.signed s m k).natAbs = m * 2 ^ k := by
  unfold Ieee.signed
  cases s
  · rw [if_neg (by decide), Nat.shiftLeft_eq]; exact Int.natAbs_natCast _
  · rw [if_pos rfl, Nat.shiftLeft_eq, Int.natAbs_neg]; exact Int.natAbs_natCast _
theorem pow_lt_of {a b : Nat} (h : a < b) : 2 ^ a * 2 ≤ 2 ^ b := by
  rw [← Nat.pow_succ]
  exact Nat.pow_le_pow_right (by decide) h
/-- One sign and one value: one rung. -/
theorem rung_eq {s : Bool} {q r : Nat} (hq : q ≤ 2139095040) (hr : r ≤ 2139095040) (h : eqB (Ieee.single.word s q) (Ieee.single.word s r) = true) : q = r := by
  unfold eqB Ieee.Format.order at h
  have h : ((Ieee.single.read (Ieee.single.word s q)).order (Ieee.single.read (Ieee.single.word s r)) == some .eq) = true := h
  rw [read_word s (show q < 2147483648 by omega), read_word s (show r < 2147483648 by omega)] at h
  have val : ∀ (m n : Nat) (i j : Int), ((Ieee.Datum.number s m i).order (.number s n j) == some .eq) = true → m * 2 ^ (i - min i j).toNat = n * 2 ^ (j - min i j).toNat := by
    intro m n i j h
    unfold Ieee.Datum.order at h
    dsimp only at h
    have h2 : compare (Ieee.signed s m (i - min i j).toNat) (Ieee.signed s n (j - min i j).toNat) = .eq := by simpa using h
    have h3 := Int.compare_eq_eq.1 h2
    have h4 := congrArg Int.natAbs h3
    rwa [signed_abs', signed_abs'] at h4
  have norm : ∀ (m n : Nat) (i j : Int), m < 16777216 → 8388608 ≤ n → n < 16777216 → i < j → m * 2 ^ (i - min i j).toNat = n * 2 ^ (j - min i j).toNat → False := by
    intro m n i j hm hn _ hij he
    rw [Int.min_eq_left (by omega), show (i - i).toNat = 0 by omega, Nat.pow_zero, Nat.mul_one] at he
    have h1 := pow_lt_of (show 0 < (j - i).toNat by omega)
    rw [Nat.pow_zero] at h1
    have h2 : 8388608 * 2 ≤ n * 2 ^ (j - i).toNat := Nat.mul_le_mul hn (by omega)
    omega
  have hinf : ∀ (m : Nat) (i : Int), ((Ieee.Datum.number s m i).order (.infinity s) == some .eq) = false := by intro m i; cases s <;> rfl
  have hinf' : ∀ (m : Nat) (i : Int), ((Ieee.Datum.infinity s).order (.number s m i) == some .eq) = false := by intro m i; cases s <;> rfl
  by_cases q1 : q < 8388608
  · rw [if_pos q1] at h
    by_cases r1 : r < 8388608
    · rw [if_pos r1] at h
      have := val _ _ _ _ h
      rw [Int.min_eq_left (by omega)] at this
      simpa using this
    · rw [if_neg r1] at h
      by_cases r2 : r < 2139095040
      · rw [if_pos r2] at h
        have hv := val _ _ _ _ h
        by_cases he : r / 8388608 - 1 = 0
        · rw [he] at hv
          simp at hv
          omega
        · exact (norm _ _ _ _ (by omega) (by omega) (by omega) (by omega) hv).elim
      · rw [if_neg r2, if_pos (by omega), hinf] at h
        cases h
  · rw [if_neg q1] at h
    by_cases q2 : q < 2139095040
    · rw [if_pos q2] at h
      by_cases r1 : r < 8388608
      · rw [if_pos r1] at h
        have hv := val _ _ _ _ h
        by_cases he : q / 8388608 - 1 = 0
        · rw [he] at hv
          simp at hv
          omega
        · rw [Int.min_comm] at hv
          exact (norm _ _ _ _ (by omega) (by omega) (by omega) (by omega) hv.symm).elim
      · rw [if_neg r1] at h
        by_cases r2 : r < 2139095040
        · rw [if_pos r2] at h
          have hv := val _ _ _ _ h
          by_cases h1 : q / 8388608 < r / 8388608
          · exact (norm _ _ _ _ (by omega) (by omega) (by omega) (by omega) hv).elim
          · by_cases h2 : r / 8388608 < q / 8388608
            · rw [Int.min_comm] at hv
              exact (norm _ _ _ _ (by omega) (by omega) (by omega) (by omega) hv.symm).elim
            · have h3 : q / 8388608 = r / 8388608 := by omega
              rw [h3, Int.min_self] at hv
              simp at hv
              omega
        · rw [if_neg r2, if_pos (by omega), hinf] at h
          cases h
    · rw [if_neg q2, if_pos (by omega)] at h
      by_cases r1 : r < 8388608
      · rw [if_pos r1, hinf'] at h
        cases h
      · rw [if_neg r1] at h
        by_cases r2 : r < 2139095040
        · rw [if_pos r2, hinf'] at h
          cases h
        · omega
theorem rung_le {s : Bool} {q : Nat} (hq : q < 2147483648) (h : isN .f32 (Ieee.single.word s q) = false) : q ≤ 2139095040 := by
  have h : (Ieee.single.read (Ieee.single.word s q)).isNaN = false := h
  rw [read_word s hq] at h
  by_cases h1 : q ≤ 2139095040
  · exact h1
  · rw [if_neg (by omega), if_neg (by omega), if_neg (by omega)] at h
    cases h
def imN (a b : Nat) : Bool := cond (!eqB a a || !eqB b b) (!eqB a a && !eqB b b) (eqB a b && (sbD (up a) == sbD (up b)))
theorem bI_num {a : Nat} (ha : a < 4294967296) (hn : isN .f32 a = false) : bI a = (a : Int) := by
  unfold bI
  rw [eqB_self, hn]
  exact wrap_s (by omega) (by omega)
theorem bI_nan {a : Nat} (hn : isN .f32 a = true) : bI a = 2143289344 := by
  unfold bI
  rw [eqB_self, hn]
  rfl
theorem nan_ne {a : Nat} (ha : a < 4294967296) (hn : isN .f32 a = false) : (2143289344 : Int) ≠ bI a := by
  rw [bI_num ha hn]
  intro h
  have : a = 2143289344 := by omega
  subst this
  exact absurd hn (by decide)
theorem same_num {a b : Nat} (ha : a < 4294967296) (hb : b < 4294967296) : imN a b = sN a b := by
  unfold imN
  rw [eqB_self, eqB_self (x := b)]
  cases hna : isN .f32 a with
  | true =>
    cases hnb : isN .f32 b with
    | true =>
      unfold sN
      rw [bI_nan hna, bI_nan hnb]
      rfl
    | false =>
      have h := nan_ne hb hnb
      unfold sN
      rw [bI_nan hna]
      exact (beq_eq_false_iff_ne.2 h).symm
  | false =>
    cases hnb : isN .f32 b with
    | true =>
      have h := nan_ne ha hna
      unfold sN
      rw [bI_nan hnb]
      exact (beq_eq_false_iff_ne.2 (Ne.symm h)).symm
    | false =>
      show (eqB a b && (sbD (up a) == sbD (up b))) = sN a b
      unfold sN
      rw [bI_num ha hna, bI_num hb hnb]
      by_cases hab : a = b
      · subst hab
        rw [eqB_self, hna]
        simp
      · have h1 : ((a : Int) == (b : Int)) = false := beq_eq_false_iff_ne.2 (by omega)
        rw [h1]
        cases he : eqB a b with
        | false => rfl
        | true =>
          rw [Bool.true_and]
          obtain ⟨s, q, rfl, hq⟩ := word_of ha
          obtain ⟨t, r, rfl, hr⟩ := word_of hb
          have hq' := rung_le hq hna
          have hr' := rung_le hr hnb
          rw [up_sign hq', up_sign hr']
          by_cases hst : s = t
          · subst hst
            exact (hab (by rw [rung_eq hq' hr' he])).elim
          · exact beq_eq_false_iff_ne.2 hst
end Go.Proofs.Ytjjdfeemkkeokaa.Ab
