/- What the proof names: lemmas and words, merged by a program from its parts. No condition. -/
import Derived.Test.YthjncajdognojaaZ10
import Derived.Laws.Externs
namespace Go.Proofs.Ythjncajdognojaa.Ab
set_option linter.unusedVariables false
set_option linter.unusedSimpArgs false
open Go
theorem ext_ok {P : Program} {f : FuncId} {fn : Func} {e : Array Value → Sem Value} {g : GT} (hf : P.funcs[f]? = some fn) (hname : (fn.name == "runtime.NumGoroutine") = false) (hb : fn.body.isNone = true) (hn : Extern.findNext fn = none) (he : Extern.find fn = some e)
    (H : ∀ vs hp v h', (g vs hp).run = some (v, h') → hp = [] ∧ h' = [] ∧ ∀ (μ : Mu) cvs w, RepVs μ vs cvs → ∃ cv n, (e ⟨cvs⟩).run P w = .ok cv (w.drewN n) ∧ RepV μ v cv) : FnT P f g := by
  intro vs hp v h' ee μ w cvs hr hv
  obtain ⟨rfl, rfl, hh⟩ := H vs hp v h' ee
  obtain ⟨cv, n, h1, h2⟩ := hh μ cvs w hv
  exact .inr ⟨cv, w.drewN n, by rw [run_callFunc_extern hf hname hb hn he, h1]; rfl, μ, Ev.drewN hr n, h2⟩
theorem rep_one {μ : Mu} {v : V} {cvs : List Value} (h : RepVs μ [v] cvs) : ∃ c, cvs = [c] ∧ RepV μ v c := by
  cases cvs with
  | nil => exact h.elim
  | cons c cs =>
    cases cs with
    | nil => exact ⟨c, rfl, h.1⟩
    | cons _ _ => exact h.2.elim
def gBits (k : FloatKind) (i : IntKind) : GT := fun vs h => match vs, h with | [.fl k' x], [] => if k' = k then .ite (!isN k x) (.ret (.int i x) []) .no else .no | _, _ => .no
theorem bits64_ok {P : Program} {f : FuncId} {fn : Func} (hf : P.funcs[f]? = some fn) (hname : (fn.name == "runtime.NumGoroutine") = false) (hb : fn.body.isNone = true) (hn : Extern.findNext fn = none) (he : Extern.find fn = some Extern.MathFloatBits.float64bits) : FnT P f (gBits .f64 .u64) := by
  refine ext_ok hf hname hb hn he fun vs hp v h' e => ?_
  unfold gBits at e
  split at e
  case h_2 => exact (T.no_inv e).elim
  split at e
  case isFalse => exact (T.no_inv e).elim
  rename_i hk
  subst hk
  obtain ⟨hx, e⟩ := T.pre_inv e
  obtain ⟨rfl, rfl⟩ := T.ret_inv e
  refine ⟨rfl, rfl, fun μ cvs w hv => ?_⟩
  obtain ⟨c, rfl, b, rfl, rfl⟩ := rep_one hv
  have hb : isN .f64 b = false := by rw [isN_canon] at hx; simpa using hx
  exact ⟨.int .u64 b, 0, rfl, by rw [canon_of hb]; rfl⟩
theorem bits32_ok {P : Program} {f : FuncId} {fn : Func} (hf : P.funcs[f]? = some fn) (hname : (fn.name == "runtime.NumGoroutine") = false) (hb : fn.body.isNone = true) (hn : Extern.findNext fn = none) (he : Extern.find fn = some Extern.MathFloatBits.float32bits) : FnT P f (gBits .f32 .u32) := by
  refine ext_ok hf hname hb hn he fun vs hp v h' e => ?_
  unfold gBits at e
  split at e
  case h_2 => exact (T.no_inv e).elim
  split at e
  case isFalse => exact (T.no_inv e).elim
  rename_i hk
  subst hk
  obtain ⟨hx, e⟩ := T.pre_inv e
  obtain ⟨rfl, rfl⟩ := T.ret_inv e
  refine ⟨rfl, rfl, fun μ cvs w hv => ?_⟩
  obtain ⟨c, rfl, b, rfl, rfl⟩ := rep_one hv
  have hb : isN .f32 b = false := by rw [isN_canon] at hx; simpa using hx
  exact ⟨.int .u32 b, 0, rfl, by rw [canon_of hb]; rfl⟩
end Go.Proofs.Ythjncajdognojaa.Ab

namespace Go.Proofs.Ythjncajdognojaa.Ab
set_option linter.unusedVariables false
set_option linter.unusedSimpArgs false
open Go
theorem cut_le (neg : Bool) (n drop : Nat) : Ieee.Toward.even.cut neg n drop ≤ n / 2 ^ drop + 1 := by
  unfold Ieee.Toward.cut
  simp only [Nat.one_shiftLeft]
  have hm : ∀ b : Bool, b.toNat ≤ 1 := fun b => by cases b <;> decide
  by_cases h : drop ≤ n.log2 + 2
  · rw [Nat.min_eq_left h]
    exact Nat.add_le_add_left (hm _) _
  · rw [Nat.min_eq_right (by omega)]
    have h1 : n < 2 ^ (n.log2 + 1) := Nat.lt_log2_self
    have h2 : 2 ^ (n.log2 + 1) ≤ 2 ^ (n.log2 + 2) := Nat.pow_le_pow_right (by decide) (by omega)
    rw [Nat.div_eq_of_lt (Nat.lt_of_lt_of_le h1 h2)]
    exact Nat.add_le_add (Nat.zero_le _) (hm _)
theorem cut_zero (neg : Bool) (n : Nat) : Ieee.Toward.even.cut neg n 0 = n := by
  unfold Ieee.Toward.cut
  simp [Nat.mod_one]
theorem near_le (f : Ieee.Format) (neg : Bool) (m : Nat) (p B : Int) (hB : f.leastPlace + f.fractionBits ≤ B) (h : m = 0 ∨ p + (m.log2 : Int) < B) :
    ∃ r, f.nearest neg m p = f.word neg r ∧ r ≤ (B - f.leastPlace - f.fractionBits + 1).toNat * f.binade := by
  unfold Ieee.Format.nearest
  by_cases hm : m = 0
  · rw [if_pos hm]
    exact ⟨0, rfl, Nat.zero_le _⟩
  rw [if_neg hm]
  have h : p + (m.log2 : Int) < B := h.resolve_left hm
  refine ⟨_, rfl, Nat.le_trans (Nat.min_le_left _ _) ?_⟩
  have hb : f.binade = 2 ^ f.fractionBits := rfl
  generalize f.leastPlace = least at *
  generalize f.fractionBits = frac at *
  rw [hb]
  generalize hL : m.log2 = L at *
  have hmL : m < 2 ^ (L + 1) := by rw [← hL]; exact Nat.lt_log2_self
  by_cases hc : least ≤ p + L - frac
  · rw [Int.max_eq_left hc]
    have key : Ieee.Toward.even.cut neg (m <<< (p - (p + L - frac)).toNat) ((p + L - frac) - p).toNat ≤ 2 * 2 ^ frac := by
      by_cases hp : L ≤ frac
      · rw [show ((p + L - frac) - p).toNat = 0 by omega, cut_zero, Nat.shiftLeft_eq, show (p - (p + L - frac)).toNat = frac - L by omega]
        have : m * 2 ^ (frac - L) ≤ 2 ^ (L + 1) * 2 ^ (frac - L) := Nat.mul_le_mul_right _ (Nat.le_of_lt hmL)
        rw [← Nat.pow_add, show L + 1 + (frac - L) = frac + 1 by omega, Nat.pow_succ] at this
        omega
      · rw [show (p - (p + L - frac)).toNat = 0 by omega, show ((p + L - frac) - p).toNat = L - frac by omega]
        refine Nat.le_trans (cut_le _ _ _) ?_
        have : (m <<< 0) / 2 ^ (L - frac) < 2 * 2 ^ frac := by
          rw [Nat.shiftLeft_zero, Nat.div_lt_iff_lt_mul (Nat.pow_pos (by decide))]
          rw [show 2 * 2 ^ frac = 2 ^ (frac + 1) by rw [Nat.pow_succ]; omega, ← Nat.pow_add, show frac + 1 + (L - frac) = L + 1 by omega]
          exact hmL
        omega
    have e : (B - least - frac + 1).toNat = (p + L - frac - least).toNat + 2 + (B - 1 - (p + L)).toNat := by omega
    rw [e, Nat.add_mul, Nat.add_mul]
    refine Nat.le_trans (Nat.add_le_add_left key _) (Nat.le_add_right _ _)
  · rw [Int.max_eq_right (by omega)]
    have key : Ieee.Toward.even.cut neg (m <<< (p - least).toNat) (least - p).toNat ≤ 2 ^ frac := by
      by_cases hp : least ≤ p
      · rw [show (least - p).toNat = 0 by omega, cut_zero, Nat.shiftLeft_eq]
        have : m * 2 ^ (p - least).toNat ≤ 2 ^ (L + 1) * 2 ^ (p - least).toNat := Nat.mul_le_mul_right _ (Nat.le_of_lt hmL)
        rw [← Nat.pow_add] at this
        exact Nat.le_trans this (Nat.pow_le_pow_right (by decide) (by omega))
      · rw [show (p - least).toNat = 0 by omega]
        refine Nat.le_trans (cut_le _ _ _) ?_
        have : (m <<< 0) / 2 ^ (least - p).toNat < 2 ^ frac := by
          rw [Nat.shiftLeft_zero, Nat.div_lt_iff_lt_mul (Nat.pow_pos (by decide)), ← Nat.pow_add]
          exact Nat.lt_of_lt_of_le hmL (Nat.pow_le_pow_right (by decide) (by omega))
        omega
    rw [show (least - least).toNat = 0 by omega, Nat.zero_mul, Nat.zero_add]
    refine Nat.le_trans key ?_
    have : 1 * 2 ^ frac ≤ (B - least - frac + 1).toNat * 2 ^ frac := Nat.mul_le_mul_right _ (by omega)
    omega
theorem read64_le (neg : Bool) (r K : Nat) (hr : r ≤ K * 4503599627370496) (hK : K < 2047) :
    ∃ m e, Ieee.double.read (Ieee.double.word neg r) = .number neg m e ∧ (m = 0 ∨ e + (m.log2 : Int) ≤ (K : Int) - 1023) ∧ m < 9007199254740992 ∧ -1074 ≤ e := by
  unfold Ieee.Format.read Ieee.Format.word
  have c1 : Ieee.double.signWeight = 9223372036854775808 := by decide
  have c2 : Ieee.double.binade = 4503599627370496 := by decide
  have c3 : Ieee.double.infRung = 9218868437227405312 := by decide
  have c4 : Ieee.double.leastPlace = -1074 := by decide
  simp only [c1, c2, c3, c4]
  have hm : (if neg = true then 9223372036854775808 + r else r) % 9223372036854775808 = r := by split <;> omega
  have hs : ((if neg = true then 9223372036854775808 + r else r) / 9223372036854775808 % 2 == 1) = neg := by
    cases neg
    · rw [if_neg (by decide), Nat.div_eq_of_lt (by omega)]; rfl
    · rw [if_pos rfl, Nat.add_div_left _ (by decide), Nat.div_eq_of_lt (by omega)]; rfl
  rw [hm, hs]
  split
  · rename_i h1
    refine ⟨_, _, rfl, ?_, by omega, by omega⟩
    by_cases h0 : r = 0
    · exact .inl h0
    · right
      have := (Nat.log2_lt h0).2 (show r < 2 ^ 52 by omega)
      omega
  · rename_i h1
    rw [if_pos (by omega)]
    refine ⟨_, _, rfl, .inr ?_, by omega, by omega⟩
    have h2 := (Nat.log2_lt (show 4503599627370496 + r % 4503599627370496 ≠ 0 by omega)).2 (show 4503599627370496 + r % 4503599627370496 < 2 ^ 53 by omega)
    have h3 : r / 4503599627370496 ≤ K := by
      rw [Nat.div_le_iff_le_mul (by decide)]
      omega
    have h4 : 1 ≤ r / 4503599627370496 := by
      rw [Nat.le_div_iff_mul_le (by decide)]
      omega
    omega
theorem up_num {x : Nat} (h : isN .f32 x = false) : (∃ s, FloatKind.f64.decode (up x) = .infinity s) ∨ ∃ s m e, FloatKind.f64.decode (up x) = .number s m e ∧ (m = 0 ∨ e + (m.log2 : Int) ≤ 128) := by
  have hx := fconv_eq x
  unfold fconv at hx
  rw [if_neg (by decide)] at hx
  unfold isN at h
  rw [if_neg (by rw [h]; decide)] at hx
  unfold floatToFloatBits at hx
  rw [if_neg (by decide)] at hx
  cases hd : FloatKind.f32.decode x with
  | nan s f => rw [hd] at h; cases h
  | infinity s =>
    rw [hd] at hx
    simp only [Option.some.injEq] at hx
    left
    rw [← hx]
    cases s
    · exact ⟨false, by decide⟩
    · exact ⟨true, by decide⟩
  | number s m e =>
    rw [hd] at hx
    simp only at hx
    split at hx
    · cases hx
    · simp only [Option.some.injEq] at hx
      right
      have hb : m < 2 ^ 24 ∧ e ≤ 104 := by
        have hd' : Ieee.single.read x = .number s m e := hd
        unfold Ieee.Format.read at hd'
        have c1 : Ieee.single.signWeight = 2147483648 := by decide
        have c2 : Ieee.single.binade = 8388608 := by decide
        have c3 : Ieee.single.infRung = 2139095040 := by decide
        have c4 : Ieee.single.leastPlace = -149 := by decide
        simp only [c1, c2, c3, c4] at hd'
        split at hd'
        · simp only [Ieee.Datum.number.injEq] at hd'; omega
        · split at hd'
          · simp only [Ieee.Datum.number.injEq] at hd'; omega
          · split at hd' <;> cases hd'
      have hl : m = 0 ∨ e + (m.log2 : Int) < 128 := by
        by_cases h0 : m = 0
        · exact .inl h0
        · have := (Nat.log2_lt h0).2 hb.1
          omega
      obtain ⟨r, h1, h2⟩ := near_le Ieee.double s m e 128 (by decide) hl
      have h2 : r ≤ 1151 * 4503599627370496 := h2
      obtain ⟨m', e', h3, h4, _⟩ := read64_le s r 1151 h2 (by decide)
      refine ⟨s, m', e', ?_, by omega⟩
      rw [← hx]
      show Ieee.double.read (Ieee.double.nearest s m e) = _
      rw [h1, h3]
end Go.Proofs.Ythjncajdognojaa.Ab

namespace Go.Proofs.Ythjncajdognojaa.Ab
set_option linter.unusedVariables false
set_option linter.unusedSimpArgs false
open Go
def Num (k : FloatKind) (x : Nat) : Prop := ∃ s m e, k.format.read x = .number s m e
theorem num_of_fin {x : Nat} (h : finB x = true) : Num .f32 x := by
  cases hr : FloatKind.f32.format.read x with
  | number s m e => exact ⟨s, m, e, hr⟩
  | nan s f => exact (fin_order h (show (FloatKind.f32.format.read x).isNaN = true by rw [hr]; rfl)).elim
  | infinity s =>
    exfalso
    unfold finB at h
    have h1 : fop .sub .f32 x x = qnan .f32 := by
      unfold fop floatBits
      show ((FloatKind.f32.format.sub x x)).getD _ = _
      unfold Ieee.Format.sub
      rw [hr]
      cases s <;> rfl
    rw [h1, order_nan (Or.inl (isN_qnan _))] at h
    exact absurd h (by decide)
end Go.Proofs.Ythjncajdognojaa.Ab

namespace Go.Proofs.Ythjncajdognojaa.Ab
set_option linter.unusedVariables false
set_option linter.unusedSimpArgs false
open Go
def LE1 (m : Nat) (p : Int) : Prop := m = 0 ∨ p ≤ 0 ∧ m ≤ 2 ^ (-p).toNat
theorem LE1.log {m : Nat} {p : Int} (h : LE1 m p) : m = 0 ∨ p + (m.log2 : Int) < 0 ∨ (p + (m.log2 : Int) = 0 ∧ m = 2 ^ m.log2) := by
  rcases h with h | ⟨h1, h2⟩
  · exact .inl h
  by_cases hm : m = 0
  · exact .inl hm
  right
  have h3 : 2 ^ m.log2 ≤ m := Nat.log2_self_le hm
  have h4 : m.log2 ≤ (-p).toNat := (Nat.pow_le_pow_iff_right (by decide)).1 (Nat.le_trans h3 h2)
  by_cases h5 : m.log2 = (-p).toNat
  · right
    refine ⟨by omega, ?_⟩
    rw [← h5] at h2
    omega
  · left
    omega
theorem near1 (neg : Bool) {m : Nat} {p : Int} (h : LE1 m p) : ∃ r, Ieee.double.nearest neg m p = Ieee.double.word neg r ∧ r ≤ 1023 * 4503599627370496 := by
  rcases h.log with h | h | ⟨h1, h2⟩
  · exact near_le Ieee.double neg m p 0 (by decide) (.inl h)
  · exact near_le Ieee.double neg m p 0 (by decide) (.inr h)
  · unfold Ieee.Format.nearest
    by_cases hm : m = 0
    · exact near_le Ieee.double neg m p 0 (by decide) (.inl hm)
    rw [if_neg hm]
    refine ⟨_, rfl, Nat.le_trans (Nat.min_le_left _ _) ?_⟩
    have c2 : Ieee.double.binade = 4503599627370496 := by decide
    have c4 : Ieee.double.leastPlace = -1074 := by decide
    have c5 : Ieee.double.fractionBits = 52 := by decide
    rw [c2, c4, c5]
    generalize hL : m.log2 = L at *
    have hmax : max (p + (L : Int) - (52 : Nat)) (-1074) = -52 := by omega
    rw [hmax, show ((-52 : Int) - (-1074)).toNat = 1022 by decide]
    have key : Ieee.Toward.even.cut neg (m <<< (p - (-52)).toNat) ((-52) - p).toNat ≤ 4503599627370496 := by
      by_cases hp : L ≤ 52
      · rw [show ((-52 : Int) - p).toNat = 0 by omega, cut_zero, Nat.shiftLeft_eq, h2, ← Nat.pow_add, show L + (p - (-52)).toNat = 52 by omega]
        decide
      · rw [show (p - (-52)).toNat = 0 by omega, Nat.shiftLeft_zero]
        have hd : ((-52 : Int) - p).toNat = L - 52 := by omega
        rw [hd, h2]
        unfold Ieee.Toward.cut
        have hlog : (2 ^ L).log2 = L := Nat.log2_two_pow
        rw [hlog, Nat.min_eq_left (by omega), Nat.one_shiftLeft]
        have hdiv : 2 ^ L / 2 ^ (L - 52) = 4503599627370496 := by
          rw [Nat.pow_div (by omega) (by decide), show L - (L - 52) = 52 by omega]
        have hmod : 2 ^ L % 2 ^ (L - 52) = 0 := Nat.mod_eq_zero_of_dvd (Nat.pow_dvd_pow 2 (by omega))
        dsimp only
        rw [hdiv, hmod]
        have hpos : 0 < 2 ^ (L - 52) := Nat.pow_pos (by decide)
        have e1 : decide (2 ^ (L - 52) < 2 * 0) = false := decide_eq_false (by omega)
        have e2 : (2 ^ (L - 52) == 2 * 0) = false := by simp
        simp [e1, e2]
    omega
theorem read1 (neg : Bool) {r : Nat} (hr : r ≤ 1023 * 4503599627370496) : ∃ m e, Ieee.double.read (Ieee.double.word neg r) = .number neg m e ∧ LE1 m e ∧ (r = 0 → m = 0) ∧ -1074 ≤ e := by
  unfold Ieee.Format.read Ieee.Format.word
  have c1 : Ieee.double.signWeight = 9223372036854775808 := by decide
  have c2 : Ieee.double.binade = 4503599627370496 := by decide
  have c3 : Ieee.double.infRung = 9218868437227405312 := by decide
  have c4 : Ieee.double.leastPlace = -1074 := by decide
  simp only [c1, c2, c3, c4]
  have hm : (if neg = true then 9223372036854775808 + r else r) % 9223372036854775808 = r := by split <;> omega
  have hs : ((if neg = true then 9223372036854775808 + r else r) / 9223372036854775808 % 2 == 1) = neg := by
    cases neg
    · rw [if_neg (by decide), Nat.div_eq_of_lt (by omega)]; rfl
    · rw [if_pos rfl, Nat.add_div_left _ (by decide), Nat.div_eq_of_lt (by omega)]; rfl
  rw [hm, hs]
  split
  · rename_i h1
    refine ⟨_, _, rfl, .inr ⟨by decide, ?_⟩, fun h => h, by decide⟩
    exact Nat.le_trans (Nat.le_of_lt h1) (by rw [show (4503599627370496 : Nat) = 2 ^ 52 by decide]; exact Nat.pow_le_pow_right (by decide) (by decide))
  · rename_i h1
    rw [if_pos (by omega)]
    refine ⟨_, _, rfl, .inr ⟨by omega, ?_⟩, fun h => by omega, by omega⟩
    by_cases hq : r / 4503599627370496 = 1023
    · have hmod : r % 4503599627370496 = 0 := by omega
      rw [hq, hmod]
      decide
    · have h2 : r % 4503599627370496 < 4503599627370496 := Nat.mod_lt _ (by decide)
      have h3 : 53 ≤ (-(-1074 + ((r / 4503599627370496 - 1 : Nat) : Int))).toNat := by omega
      refine Nat.le_trans (show 4503599627370496 + r % 4503599627370496 ≤ 2 ^ 53 by omega) (Nat.pow_le_pow_right (by decide) h3)
def PU (y : Nat) : Prop := ∃ m e, Ieee.double.read y = .number false m e ∧ LE1 m e
def NU (y : Nat) : Prop := ∃ s m e, Ieee.double.read y = .number s m e ∧ LE1 m e ∧ (s = true ∨ m = 0) ∧ -1074 ≤ e
theorem LE1.mul {m n : Nat} {i j : Int} (h : LE1 m i) (k : LE1 n j) : LE1 (m * n) (i + j) := by
  rcases h with rfl | ⟨h1, h2⟩
  · exact .inl (by simp)
  rcases k with rfl | ⟨k1, k2⟩
  · exact .inl (by simp)
  right
  refine ⟨by omega, ?_⟩
  rw [show (-(i + j)).toNat = (-i).toNat + (-j).toNat by omega, Nat.pow_add]
  exact Nat.mul_le_mul h2 k2
theorem mul_num {x y : Nat} {s t : Bool} {m n : Nat} {i j : Int} (hx : Ieee.double.read x = .number s m i) (hy : Ieee.double.read y = .number t n j) : fop .mul .f64 x y = Ieee.double.nearest (s ^^ t) (m * n) (i + j) := by
  unfold fop floatBits
  show (Ieee.double.mul x y).getD _ = _
  unfold Ieee.Format.mul
  rw [hx, hy]
  rfl
theorem PU.mul {x y : Nat} (hx : PU x) (hy : PU y) : PU (fop .mul .f64 x y) := by
  obtain ⟨m, i, h1, h2⟩ := hx
  obtain ⟨n, j, k1, k2⟩ := hy
  rw [mul_num h1 k1]
  obtain ⟨r, h3, h4⟩ := near1 (false ^^ false) (h2.mul k2)
  rw [h3]
  obtain ⟨m', e', h5, h6, _⟩ := read1 (false ^^ false) h4
  exact ⟨m', e', h5, h6⟩
theorem nu_of {s : Bool} {m : Nat} {p : Int} (h : LE1 m p) (hs : s = true ∨ m = 0) : NU (Ieee.double.nearest s m p) := by
  by_cases hm : m = 0
  · subst hm
    have hz : Ieee.double.nearest s 0 p = Ieee.double.word s 0 := by unfold Ieee.Format.nearest; rw [if_pos rfl]
    rw [hz]
    obtain ⟨m', e', h5, h6, h7, h8⟩ := read1 s (show 0 ≤ 1023 * 4503599627370496 by decide)
    exact ⟨s, m', e', h5, h6, .inr (h7 rfl), h8⟩
  · obtain ⟨r, h3, h4⟩ := near1 s h
    rw [h3]
    obtain ⟨m', e', h5, h6, _, h8⟩ := read1 s h4
    exact ⟨s, m', e', h5, h6, .inl (hs.resolve_right hm), h8⟩
theorem NU.mul {x y : Nat} (hx : NU x) (hy : PU y) : NU (fop .mul .f64 x y) := by
  obtain ⟨s, m, i, h1, h2, h3, _⟩ := hx
  obtain ⟨n, j, k1, k2⟩ := hy
  rw [mul_num h1 k1]
  refine nu_of (h2.mul k2) ?_
  rcases h3 with rfl | rfl
  · exact .inl rfl
  · exact .inr (by simp)
theorem quo_le (D n E : Nat) (hn : 0 < n) (h : D ≤ n * 2 ^ E) : 2 * (D / n) + (D % n != 0).toNat ≤ 2 ^ (E + 1) := by
  rw [Nat.pow_succ]
  by_cases hr : D % n = 0
  · rw [hr]
    have : D / n ≤ 2 ^ E := by
      rw [Nat.div_le_iff_le_mul hn]
      rw [Nat.mul_comm] at h
      omega
    simp
    omega
  · have hlt : D < n * 2 ^ E := by
      refine Nat.lt_of_le_of_ne h fun he => hr ?_
      rw [he]
      exact Nat.mul_mod_right _ _
    have : D / n < 2 ^ E := by rw [Nat.div_lt_iff_lt_mul hn, Nat.mul_comm]; exact hlt
    have hb : (D % n != 0).toNat ≤ 1 := by cases (D % n != 0) <;> decide
    omega
theorem NU.quo {x y : Nat} {s : Bool} {m n : Nat} {i j : Int} (hx : Ieee.double.read x = .number s m i) (hy : Ieee.double.read y = .number false n j) (hn : 0 < n) (hs : s = true ∨ m = 0)
    (h : ∃ a b : Nat, m * 2 ^ a ≤ n * 2 ^ b ∧ (a : Int) - i = (b : Int) - j) : NU (fop .quo .f64 x y) := by
  obtain ⟨a, b, h1, h2⟩ := h
  have e : fop .quo .f64 x y = Ieee.double.nearest (s ^^ false) (2 * ((m <<< (54 + n.log2 - m.log2)) / n) + ((m <<< (54 + n.log2 - m.log2)) % n != 0).toNat) (i - j - ((54 + n.log2 - m.log2 : Nat) : Int) - 1) := by
    unfold fop floatBits
    show (Ieee.double.div x y).getD _ = _
    unfold Ieee.Format.div
    rw [hx, hy]
    unfold Ieee.Datum.quotient
    dsimp only
    rw [if_neg (by omega)]
    rfl
  rw [e]
  by_cases hm : m = 0
  · subst hm
    have : 2 * ((0 <<< (54 + n.log2 - (0 : Nat).log2)) / n) + ((0 <<< (54 + n.log2 - (0 : Nat).log2)) % n != 0).toNat = 0 := by simp
    rw [this]
    exact nu_of (.inl rfl) (.inr rfl)
  have hs : s = true := hs.resolve_right hm
  subst hs
  generalize hmore : 54 + n.log2 - m.log2 = more
  have hE : 0 ≤ (more : Int) + j - i := by
    have h3 : 2 ^ m.log2 ≤ m := Nat.log2_self_le hm
    have h4 : n < 2 ^ (n.log2 + 1) := Nat.lt_log2_self
    have h5 : 2 ^ (m.log2 + a) < 2 ^ (n.log2 + 1 + b) := by
      rw [Nat.pow_add, Nat.pow_add]
      exact Nat.lt_of_le_of_lt (Nat.mul_le_mul_right _ h3) (Nat.lt_of_le_of_lt h1 (Nat.mul_lt_mul_of_pos_right h4 (Nat.pow_pos (by decide))))
    have h6 := (Nat.pow_lt_pow_iff_right (by decide)).1 h5
    omega
  have hD : m <<< more ≤ n * 2 ^ ((more : Int) + j - i).toNat := by
    rw [Nat.shiftLeft_eq]
    have hp : 0 < 2 ^ a := Nat.pow_pos (by decide)
    refine Nat.le_of_mul_le_mul_right (?_ : m * 2 ^ more * 2 ^ a ≤ n * 2 ^ ((more : Int) + j - i).toNat * 2 ^ a) hp
    calc m * 2 ^ more * 2 ^ a = m * 2 ^ a * 2 ^ more := by rw [Nat.mul_right_comm]
      _ ≤ n * 2 ^ b * 2 ^ more := Nat.mul_le_mul_right _ h1
      _ = n * (2 ^ (b + more)) := by rw [Nat.mul_assoc, Nat.pow_add]
      _ = n * (2 ^ (((more : Int) + j - i).toNat + a)) := by rw [show b + more = ((more : Int) + j - i).toNat + a by omega]
      _ = n * 2 ^ ((more : Int) + j - i).toNat * 2 ^ a := by rw [Nat.pow_add, Nat.mul_assoc]
  refine nu_of (.inr ⟨by omega, ?_⟩) (.inl rfl)
  rw [show (-(i - j - (more : Int) - 1)).toNat = ((more : Int) + j - i).toNat + 1 by omega]
  exact quo_le _ _ _ hn hD
theorem NU.one {x : Nat} (hx : NU x) : PU (fop .add .f64 4607182418800017408 x) := by
  obtain ⟨s, n, j, h1, h2, h3, hj⟩ := hx
  have hone : Ieee.double.read 4607182418800017408 = .number false 4503599627370496 (-52) := by decide +kernel
  have e : fop .add .f64 4607182418800017408 x = ((((Ieee.Datum.number false 4503599627370496 (-52)).sum (.number s n j))).map Ieee.double.write).getD (qnan .f64) := by
    unfold fop floatBits
    show (Ieee.double.add 4607182418800017408 x).getD _ = _
    unfold Ieee.Format.add
    rw [hone, h1]
  rw [e]
  unfold Ieee.Datum.sum
  dsimp only
  generalize hb : min (-52 : Int) j = base
  have hbase : base ≤ -52 := by omega
  have t1 : Ieee.signed false 4503599627370496 (-52 - base).toNat = ((2 ^ (-base).toNat : Nat) : Int) := by
    unfold Ieee.signed
    rw [if_neg (by decide), Nat.shiftLeft_eq, show (4503599627370496 : Nat) = 2 ^ 52 by decide, ← Nat.pow_add, show 52 + (-52 - base).toNat = (-base).toNat by omega]
  have t2 : ∃ c : Nat, Ieee.signed s n (j - base).toNat = -(c : Int) ∧ c ≤ 2 ^ (-base).toNat := by
    rcases h2 with rfl | ⟨k1, k2⟩
    · exact ⟨0, by unfold Ieee.signed; cases s <;> simp, Nat.zero_le _⟩
    · rcases h3 with rfl | rfl
      · refine ⟨n <<< (j - base).toNat, by unfold Ieee.signed; rw [if_pos rfl], ?_⟩
        rw [Nat.shiftLeft_eq, show (-base).toNat = (-j).toNat + (j - base).toNat by omega, Nat.pow_add]
        exact Nat.mul_le_mul_right _ k2
      · exact ⟨0, by unfold Ieee.signed; cases s <;> simp, Nat.zero_le _⟩
  obtain ⟨c, t2, t3⟩ := t2
  rw [t1, t2]
  generalize hT : 2 ^ (-base).toNat = T at t3
  have hneg : (if ((T : Nat) : Int) + -(c : Int) = 0 then (false && s) else decide (((T : Nat) : Int) + -(c : Int) < 0)) = false := by
    split
    · rfl
    · exact decide_eq_false (by omega)
  rw [hneg]
  show PU (Ieee.double.nearest false (((T : Nat) : Int) + -(c : Int)).natAbs base)
  rw [show (((T : Nat) : Int) + -(c : Int)).natAbs = T - c by omega]
  have hle : LE1 (T - c) base := .inr ⟨by omega, by rw [hT]; omega⟩
  obtain ⟨r, h3, h4⟩ := near1 false hle
  rw [h3]
  obtain ⟨m', e', h5, h6, _⟩ := read1 false h4
  exact ⟨m', e', h5, h6⟩
end Go.Proofs.Ythjncajdognojaa.Ab

namespace Go.Proofs.Ythjncajdognojaa.Ab
set_option linter.unusedVariables false
set_option linter.unusedSimpArgs false
open Go
theorem read32_num (neg : Bool) (r : Nat) (hr : r < 2139095040) : ∃ m e, Ieee.single.read (Ieee.single.word neg r) = .number neg m e ∧ (r = 0 → m = 0) ∧ ∀ K : Nat, r ≤ K * 8388608 → m = 0 ∨ e + (m.log2 : Int) ≤ (K : Int) - 127 := by
  unfold Ieee.Format.read Ieee.Format.word
  have c1 : Ieee.single.signWeight = 2147483648 := by decide
  have c2 : Ieee.single.binade = 8388608 := by decide
  have c3 : Ieee.single.infRung = 2139095040 := by decide
  have c4 : Ieee.single.leastPlace = -149 := by decide
  simp only [c1, c2, c3, c4]
  have hm : (if neg = true then 2147483648 + r else r) % 2147483648 = r := by split <;> omega
  have hs : ((if neg = true then 2147483648 + r else r) / 2147483648 % 2 == 1) = neg := by
    cases neg
    · rw [if_neg (by decide), Nat.div_eq_of_lt (by omega)]; rfl
    · rw [if_pos rfl, Nat.add_div_left _ (by decide), Nat.div_eq_of_lt (by omega)]; rfl
  rw [hm, hs]
  split
  · rename_i h1
    refine ⟨_, _, rfl, fun h => h, fun K hK => ?_⟩
    by_cases h0 : r = 0
    · exact .inl h0
    · right
      have := (Nat.log2_lt h0).2 (show r < 2 ^ 23 by omega)
      have hK1 : 1 ≤ K := by
        cases K with
        | zero => omega
        | succ K => omega
      omega
  · rename_i h1
    have key : ∃ m e, (Ieee.Datum.number neg (8388608 + r % 8388608) (-149 + ((r / 8388608 - 1 : Nat) : Int))) = .number neg m e ∧ (r = 0 → m = 0) ∧ ∀ K : Nat, r ≤ K * 8388608 → m = 0 ∨ e + (m.log2 : Int) ≤ (K : Int) - 127 := by
      refine ⟨_, _, rfl, fun h => by omega, fun K hK => .inr ?_⟩
      have h2 := (Nat.log2_lt (show 8388608 + r % 8388608 ≠ 0 by omega)).2 (show 8388608 + r % 8388608 < 2 ^ 24 by omega)
      have h3 : r / 8388608 ≤ K := by rw [Nat.div_le_iff_le_mul (by decide)]; omega
      have h4 : 1 ≤ r / 8388608 := by rw [Nat.le_div_iff_mul_le (by decide)]; omega
      omega
    first
      | exact key
      | (rw [if_pos (by omega)]; exact key)
def L0 : Ieee.Datum → Prop
  | .nan _ _ => True
  | .infinity s => s = true
  | .number s m _ => s = true ∨ m = 0
theorem read_inf (s : Bool) : Ieee.single.read (Ieee.single.word s 2139095040) = .infinity s := by cases s <;> decide
theorem near64 (s : Bool) (m : Nat) (e : Int) : ∃ r, Ieee.double.nearest s m e = Ieee.double.word s r ∧ r ≤ 9218868437227405312 ∧ (m = 0 → r = 0) := by
  unfold Ieee.Format.nearest
  by_cases hm : m = 0
  · rw [if_pos hm]
    exact ⟨0, rfl, by decide, fun _ => rfl⟩
  · rw [if_neg hm]
    exact ⟨_, rfl, Nat.min_le_right _ _, fun h => (hm h).elim⟩
end Go.Proofs.Ythjncajdognojaa.Ab

namespace Go.Proofs.Ythjncajdognojaa.Ab
set_option linter.unusedVariables false
set_option linter.unusedSimpArgs false
open Go
def bI (x : Nat) : Int := cond (!eqB x x) 2143289344 (IntKind.i64.wrap ((x : Nat) : Int))
def sN (a b : Nat) : Bool := bI a == bI b
def sbD (x : Nat) : Bool := decide (IntKind.i64.wrap ((x : Nat) : Int) < 0)
theorem eqB_self {x : Nat} : eqB x x = !isN .f32 x := by
  cases hx : isN .f32 x with
  | true => unfold eqB; rw [order_nan (.inl hx)]; rfl
  | false => unfold eqB; rw [order_self hx]; rfl
theorem word_of {x : Nat} (hx : x < 4294967296) : ∃ s r, x = Ieee.single.word s r ∧ r < 2147483648 := by
  by_cases h : x < 2147483648
  · exact ⟨false, x, rfl, h⟩
  · refine ⟨true, x - 2147483648, ?_, by omega⟩
    show x = 2147483648 + (x - 2147483648)
    omega
theorem read_word (s : Bool) {r : Nat} (hr : r < 2147483648) : Ieee.single.read (Ieee.single.word s r) =
    if r < 8388608 then .number s r (-149) else if r < 2139095040 then .number s (8388608 + r % 8388608) (-149 + ((r / 8388608 - 1 : Nat) : Int)) else if r = 2139095040 then .infinity s else .nan s (r - 2139095040) := by
  unfold Ieee.Format.read Ieee.Format.word
  have c1 : Ieee.single.signWeight = 2147483648 := by decide
  have c2 : Ieee.single.binade = 8388608 := by decide
  have c3 : Ieee.single.infRung = 2139095040 := by decide
  have c4 : Ieee.single.leastPlace = -149 := by decide
  simp only [c1, c2, c3, c4]
  have hm : (if s = true then 2147483648 + r else r) % 2147483648 = r := by split <;> omega
  have hs : ((if s = true then 2147483648 + r else r) / 2147483648 % 2 == 1) = s := by
    cases s
    · rw [if_neg (by decide), Nat.div_eq_of_lt (by omega)]; rfl
    · rw [if_pos rfl, Nat.add_div_left _ (by decide), Nat.div_eq_of_lt (by omega)]; rfl
  rw [hm, hs]
theorem up_sign {s : Bool} {r : Nat} (hr : r ≤ 2139095040) : sbD (up (Ieee.single.word s r)) = s := by
  have key : ∀ q : Nat, q ≤ 9218868437227405312 → sbD (Ieee.double.word s q) = s := by
    intro q hq
    unfold sbD Ieee.Format.word
    have c1 : Ieee.double.signWeight = 9223372036854775808 := by decide
    rw [c1]
    simp only [IntKind.wrap, IntKind.signed, IntKind.bits]
    cases s
    · rw [if_neg (by decide)]
      refine decide_eq_false ?_
      simp
      omega
    · rw [if_pos rfl]
      refine decide_eq_true ?_
      simp
      omega
  have hx := fconv_eq (Ieee.single.word s r)
  have hrd := read_word s (show r < 2147483648 by omega)
  unfold fconv at hx
  rw [if_neg (by decide)] at hx
  have hd : FloatKind.f32.decode (Ieee.single.word s r) = Ieee.single.read (Ieee.single.word s r) := rfl
  by_cases hi : r = 2139095040
  · subst hi
    rw [read_inf] at hd
    rw [hd, if_neg (show ¬ ((Ieee.Datum.infinity s).isNaN = true) from fun h => by cases h)] at hx
    unfold floatToFloatBits at hx
    rw [if_neg (by decide), hd] at hx
    rw [← Option.some.inj hx]
    exact key 9218868437227405312 (by decide)
  · obtain ⟨m, e, h1, _⟩ := read32_num s r (by omega)
    rw [h1] at hd
    rw [hd, if_neg (show ¬ ((Ieee.Datum.number s m e).isNaN = true) from fun h => by cases h)] at hx
    unfold floatToFloatBits at hx
    rw [if_neg (by decide), hd] at hx
    simp only at hx
    split at hx
    · cases hx
    rw [← Option.some.inj hx]
    show sbD (Ieee.double.nearest s m e) = s
    obtain ⟨q, h2, h3, _⟩ := near64 s m e
    rw [h2]
    exact key q h3
theorem signed_abs' (s : Bool) (m k : Nat) : (Ieee.signed s m k).natAbs = m * 2 ^ k := by
  unfold Ieee.signed
  cases s
  · rw [if_neg (by decide), Nat.shiftLeft_eq]; exact Int.natAbs_natCast _
  · rw [if_pos rfl, Nat.shiftLeft_eq, Int.natAbs_neg]; exact Int.natAbs_natCast _
theorem pow_lt_of {a b : Nat} (h : a < b) : 2 ^ a * 2 ≤ 2 ^ b := by
  rw [← Nat.pow_succ]
  exact Nat.pow_le_pow_right (by decide) h
theorem rung_eq {s : Bool} {q r : Nat} (hq : q ≤ 2139095040) (hr : r ≤ 2139095040) (h : eqB (Ieee.single.word s q) (Ieee.single.word s r) = true) : q = r := by
  unfold eqB Ieee.Format.order at h
  have h : ((Ieee.single.read (Ieee.single.word s q)).order (Ieee.single.read (Ieee.single.word s r)) == some .eq) = true := h
  rw [read_word s (show q < 2147483648 by omega), read_word s (show r < 2147483648 by omega)] at h
  have val : ∀ (m n : Nat) (i j : Int), ((Ieee.Datum.number s m i).order (.number s n j) == some .eq) = true → m * 2 ^ (i - min i j).toNat = n * 2 ^ (j - min i j).toNat := by
    intro m n i j h
    unfold Ieee.Datum.order at h
    dsimp only at h
    have h2 : compare (Ieee.signed s m (i - min i j).toNat) (Ieee.signed s n (j - min i j).toNat) = .eq := by simpa using h
    have h3 := Int.compare_eq_eq.1 h2
    have h4 := congrArg Int.natAbs h3
    rwa [signed_abs', signed_abs'] at h4
  have norm : ∀ (m n : Nat) (i j : Int), m < 16777216 → 8388608 ≤ n → n < 16777216 → i < j → m * 2 ^ (i - min i j).toNat = n * 2 ^ (j - min i j).toNat → False := by
    intro m n i j hm hn _ hij he
    rw [Int.min_eq_left (by omega), show (i - i).toNat = 0 by omega, Nat.pow_zero, Nat.mul_one] at he
    have h1 := pow_lt_of (show 0 < (j - i).toNat by omega)
    rw [Nat.pow_zero] at h1
    have h2 : 8388608 * 2 ≤ n * 2 ^ (j - i).toNat := Nat.mul_le_mul hn (by omega)
    omega
  have hinf : ∀ (m : Nat) (i : Int), ((Ieee.Datum.number s m i).order (.infinity s) == some .eq) = false := by intro m i; cases s <;> rfl
  have hinf' : ∀ (m : Nat) (i : Int), ((Ieee.Datum.infinity s).order (.number s m i) == some .eq) = false := by intro m i; cases s <;> rfl
  by_cases q1 : q < 8388608
  · rw [if_pos q1] at h
    by_cases r1 : r < 8388608
    · rw [if_pos r1] at h
      have := val _ _ _ _ h
      rw [Int.min_eq_left (by omega)] at this
      simpa using this
    · rw [if_neg r1] at h
      by_cases r2 : r < 2139095040
      · rw [if_pos r2] at h
        have hv := val _ _ _ _ h
        by_cases he : r / 8388608 - 1 = 0
        · rw [he] at hv
          simp at hv
          omega
        · exact (norm _ _ _ _ (by omega) (by omega) (by omega) (by omega) hv).elim
      · rw [if_neg r2, if_pos (by omega), hinf] at h
        cases h
  · rw [if_neg q1] at h
    by_cases q2 : q < 2139095040
    · rw [if_pos q2] at h
      by_cases r1 : r < 8388608
      · rw [if_pos r1] at h
        have hv := val _ _ _ _ h
        by_cases he : q / 8388608 - 1 = 0
        · rw [he] at hv
          simp at hv
          omega
        · rw [Int.min_comm] at hv
          exact (norm _ _ _ _ (by omega) (by omega) (by omega) (by omega) hv.symm).elim
      · rw [if_neg r1] at h
        by_cases r2 : r < 2139095040
        · rw [if_pos r2] at h
          have hv := val _ _ _ _ h
          by_cases h1 : q / 8388608 < r / 8388608
          · exact (norm _ _ _ _ (by omega) (by omega) (by omega) (by omega) hv).elim
          · by_cases h2 : r / 8388608 < q / 8388608
            · rw [Int.min_comm] at hv
              exact (norm _ _ _ _ (by omega) (by omega) (by omega) (by omega) hv.symm).elim
            · have h3 : q / 8388608 = r / 8388608 := by omega
              rw [h3, Int.min_self] at hv
              simp at hv
              omega
        · rw [if_neg r2, if_pos (by omega), hinf] at h
          cases h
    · rw [if_neg q2, if_pos (by omega)] at h
      by_cases r1 : r < 8388608
      · rw [if_pos r1, hinf'] at h
        cases h
      · rw [if_neg r1] at h
        by_cases r2 : r < 2139095040
        · rw [if_pos r2, hinf'] at h
          cases h
        · omega
theorem rung_le {s : Bool} {q : Nat} (hq : q < 2147483648) (h : isN .f32 (Ieee.single.word s q) = false) : q ≤ 2139095040 := by
  have h : (Ieee.single.read (Ieee.single.word s q)).isNaN = false := h
  rw [read_word s hq] at h
  by_cases h1 : q ≤ 2139095040
  · exact h1
  · rw [if_neg (by omega), if_neg (by omega), if_neg (by omega)] at h
    cases h
def imN (a b : Nat) : Bool := cond (!eqB a a || !eqB b b) (!eqB a a && !eqB b b) (eqB a b && (sbD (up a) == sbD (up b)))
theorem bI_num {a : Nat} (ha : a < 4294967296) (hn : isN .f32 a = false) : bI a = (a : Int) := by
  unfold bI
  rw [eqB_self, hn]
  exact wrap_s (by omega) (by omega)
theorem bI_nan {a : Nat} (hn : isN .f32 a = true) : bI a = 2143289344 := by
  unfold bI
  rw [eqB_self, hn]
  rfl
theorem nan_ne {a : Nat} (ha : a < 4294967296) (hn : isN .f32 a = false) : (2143289344 : Int) ≠ bI a := by
  rw [bI_num ha hn]
  intro h
  have : a = 2143289344 := by omega
  subst this
  exact absurd hn (by decide)
theorem same_num {a b : Nat} (ha : a < 4294967296) (hb : b < 4294967296) : imN a b = sN a b := by
  unfold imN
  rw [eqB_self, eqB_self (x := b)]
  cases hna : isN .f32 a with
  | true =>
    cases hnb : isN .f32 b with
    | true =>
      unfold sN
      rw [bI_nan hna, bI_nan hnb]
      rfl
    | false =>
      have h := nan_ne hb hnb
      unfold sN
      rw [bI_nan hna]
      exact (beq_eq_false_iff_ne.2 h).symm
  | false =>
    cases hnb : isN .f32 b with
    | true =>
      have h := nan_ne ha hna
      unfold sN
      rw [bI_nan hnb]
      exact (beq_eq_false_iff_ne.2 (Ne.symm h)).symm
    | false =>
      show (eqB a b && (sbD (up a) == sbD (up b))) = sN a b
      unfold sN
      rw [bI_num ha hna, bI_num hb hnb]
      by_cases hab : a = b
      · subst hab
        rw [eqB_self, hna]
        simp
      · have h1 : ((a : Int) == (b : Int)) = false := beq_eq_false_iff_ne.2 (by omega)
        rw [h1]
        cases he : eqB a b with
        | false => rfl
        | true =>
          rw [Bool.true_and]
          obtain ⟨s, q, rfl, hq⟩ := word_of ha
          obtain ⟨t, r, rfl, hr⟩ := word_of hb
          have hq' := rung_le hq hna
          have hr' := rung_le hr hnb
          rw [up_sign hq', up_sign hr']
          by_cases hst : s = t
          · subst hst
            exact (hab (by rw [rung_eq hq' hr' he])).elim
          · exact beq_eq_false_iff_ne.2 hst
end Go.Proofs.Ythjncajdognojaa.Ab

namespace Go.Proofs.Ythjncajdognojaa.Ab
set_option linter.unusedVariables false
set_option linter.unusedSimpArgs false
open Go
def tab_l01Finite : Fns := tabT []
theorem tabok_l01Finite : ∀ f, FnT Try.prog f (tab_l01Finite f) := tabT_nil
theorem run_l01Finite (N : Nat) (x : Nat) : run ty tab_l01Finite ann0 N Try.f37 [.fl .f32 x] []
    = some (.bool (eqB (fop .sub .f32 x x) 0), []) := by
  kernel_rfl
theorem ok_l01Finite : FnT Try.prog 37 (gT (gF1 finB)) := by
  refine fnT tabok_l01Finite Try.func37 rfl rfl ann0 fun vs h v h' e => ⟨0, ?_⟩
  rw [T.run_of] at e
  unfold gF1 at e
  split at e
  case h_2 => cases e
  rename_i x
  cases e
  refine Eq.trans (run_l01Finite 0 x) ?_
  rfl
def tab_IsFinite : Fns := tabT []
theorem tabok_IsFinite : ∀ f, FnT Try.prog f (tab_IsFinite f) := tabT_nil
theorem run_IsFinite (N : Nat) (x : Nat) : run ty tab_IsFinite ann0 N Try.f33 [.fl .f32 x] []
    = some (.bool (eqB (fop .sub .f32 x x) 0), []) := by
  kernel_rfl
theorem ok_IsFinite : FnT Try.prog 33 (gT (gF1 finB)) := by
  refine fnT tabok_IsFinite Try.func33 rfl rfl ann0 fun vs h v h' e => ⟨0, ?_⟩
  rw [T.run_of] at e
  unfold gF1 at e
  split at e
  case h_2 => cases e
  rename_i x
  cases e
  refine Eq.trans (run_IsFinite 0 x) ?_
  rfl
def tab_l02Above : Fns := tabT [(37, gT (gF1 finB))]
theorem tabok_l02Above : ∀ f, FnT Try.prog f (tab_l02Above f) := (tabT_cons (k := 37) ok_l01Finite tabT_nil)
theorem run_l02Above (N : Nat) (x : Nat) : run ty tab_l02Above ann0 N Try.f28 [.fl .f32 x] []
    = (match finB x with | true => some (.bool (gtB x 0), []) | false => some (.bool false, [])) := by
  kernel_rfl
theorem ok_l02Above : FnT Try.prog 28 (gT (gF1 posB)) := by
  refine fnT tabok_l02Above Try.func28 rfl rfl ann0 fun vs h v h' e => ⟨0, ?_⟩
  rw [T.run_of] at e
  unfold gF1 at e
  split at e
  case h_2 => cases e
  rename_i x
  cases e
  refine Eq.trans (run_l02Above 0 x) ?_
  unfold posB
  cases finB x <;> rfl
def inB (n lo hi : Int) : Bool := decide (n ≥ lo) && decide (n ≤ hi)
def gIn : G := fun vs h => match vs, h with | [.int .i64 n, .int .i64 a, .int .i64 b], [] => some (.bool (inB n a b), []) | _, _ => none
def tab_l00In : Fns := tabT []
theorem tabok_l00In : ∀ f, FnT Try.prog f (tab_l00In f) := tabT_nil
theorem run_l00In (N : Nat) (n : Int) (a : Int) (b : Int) : run ty tab_l00In ann0 N Try.f13 [.int .i64 n, .int .i64 a, .int .i64 b] []
    = (match decide ((n : Int) ≥ a) with | true => some (.bool (decide ((n : Int) ≤ b)), []) | false => some (.bool false, [])) := by
  kernel_rfl
theorem ok_l00In : FnT Try.prog 13 (gT gIn) := by
  refine fnT tabok_l00In Try.func13 rfl rfl ann0 fun vs h v h' e => ⟨0, ?_⟩
  rw [T.run_of] at e
  unfold gIn at e
  split at e
  case h_2 => cases e
  rename_i n a b
  cases e
  refine Eq.trans (run_l00In 0 n a b) ?_
  unfold inB
  cases decide (n ≥ a) <;> rfl
def tab_within : Fns := tabT []
theorem tabok_within : ∀ f, FnT Try.prog f (tab_within f) := tabT_nil
theorem run_within (N : Nat) (n : Int) (a : Int) (b : Int) : run ty tab_within ann0 N Try.f19 [.int .i64 n, .int .i64 a, .int .i64 b] []
    = (match decide ((n : Int) ≥ a) with | true => some (.bool (decide ((n : Int) ≤ b)), []) | false => some (.bool false, [])) := by
  kernel_rfl
theorem ok_within : FnT Try.prog 19 (gT gIn) := by
  refine fnT tabok_within Try.func19 rfl rfl ann0 fun vs h v h' e => ⟨0, ?_⟩
  rw [T.run_of] at e
  unfold gIn at e
  split at e
  case h_2 => cases e
  rename_i n a b
  cases e
  refine Eq.trans (run_within 0 n a b) ?_
  unfold inB
  cases decide (n ≥ a) <;> rfl
def gIxT (f : FuncId) (p : Nat → Bool) : GT := fun vs h => match vs, h with
  | [.sl 0 0 n, .fn f'], [.at rw (.fl .f32 l)] => if f' = f then .ite (decide (l.length = n ∧ n < 2147483648)) (.ret (.int .i64 (ixOf p l)) [.at rw (.fl .f32 l)]) .no else .no
  | [.nil, .fn f'], [] => if f' = f then .ret (.int .i64 (-1)) [] else .no
  | _, _ => .no
def gCoT (f : FuncId) (p : Nat → Bool) : GT := fun vs h => match vs, h with
  | [.sl 0 0 n, .fn f'], [.at rw (.fl .f32 l)] => if f' = f then .ite (decide (l.length = n ∧ n < 2147483648)) (.ret (.bool (decide (ixOf p l ≥ 0))) [.at rw (.fl .f32 l)]) .no else .no
  | [.nil, .fn f'], [] => if f' = f then .ret (.bool false) [] else .no
  | _, _ => .no
def gAllT (p : Nat → Bool) : GT := fun vs h => match vs, h with
  | [.sl 0 0 n], [.at rw (.fl .f32 l)] => .ite (decide (l.length = n ∧ n < 2147483648)) (.ret (.bool (l.all p)) [.at rw (.fl .f32 l)]) .no
  | [.nil], [] => .ret (.bool true) []
  | _, _ => .no
def tab_fin1 : Fns := tabT [(33, gT (gF1 finB))]
theorem tabok_fin1 : ∀ f, FnT Try.prog f (tab_fin1 f) := (tabT_cons (k := 33) ok_IsFinite tabT_nil)
theorem run_fin1 (N : Nat) (x : Nat) : run ty tab_fin1 ann0 N Try.f40 [.fl .f32 x] []
    = some (.bool (!(finB x)), []) := by
  kernel_rfl
theorem ok_fin1 : FnT Try.prog 40 (gT (gF1 (fun x => !finB x))) := by
  refine fnT tabok_fin1 Try.func40 rfl rfl ann0 fun vs h v h' e => ⟨0, ?_⟩
  rw [T.run_of] at e
  unfold gF1 at e
  split at e
  case h_2 => cases e
  rename_i x
  cases e
  refine Eq.trans (run_fin1 0 x) ?_
  show _ = some (V.bool (!finB x), [])
  rfl
def an_ixfin : Ann := ⟨fun r => if r = 2 then some ([0, 1, 7, 8], [4]) else none, fun _ _ => .quiet⟩
def tab_ixfin : Fns := tabT [(40, gT (gF1 (fun x => !finB x)))]
theorem tabok_ixfin : ∀ f, FnT Try.prog f (tab_ixfin f) := (tabT_cons (k := 40) ok_fin1 tabT_nil)
def st_ixfin2 (s0n : Nat) (t7 : Int) (t8 : Int) (rw0 : Bool) (l0 : List Nat) : St := ⟨(.sl 0 0 s0n :: .fn 40 :: .any :: .any :: .any :: .any :: .any :: .int .i64 t7 :: .int .i64 t8 :: (anys 10 [])), [.at rw0 (.fl .f32 l0)]⟩
abbrev kp_ixfin2 : Option (List Nat × List Nat) := some ([0, 1, 7, 8], [4])
noncomputable def lp_ixfin2 {R : Type} (N M : Nat) (s : St) (K : X → St → Option R) : Option R := loopH 1 kp_ixfin2 (fun st K => exec ty tab_ixfin an_ixfin N 1 (atOf [true, false, true, false, false] Try.f44) st K) M s K
noncomputable def kt_ixfin2 {R : Type} (N : Nat) (K : X → St → Option R) : X → St → Option R := kBlkR 0 (kSeqR tab_ixfin an_ixfin N 1 (atOf [true, true] Try.f44) (K))
def en_ixfin2_0 (t4 : Int) (rw0 : Bool) (l0 : List Nat) : St := ⟨(.any :: .any :: .any :: .any :: .int .i64 t4 :: (anys 14 [])), [.at rw0 (.fl .f32 l0)]⟩
def en_ixfin2_1 (rw0 : Bool) (l0 : List Nat) : St := ⟨(anys 19 []), [.at rw0 (.fl .f32 l0)]⟩
theorem run_ixfin (N : Nat) (n : Nat) (rw : Bool) (l : List Nat) : run ty tab_ixfin an_ixfin N Try.f44 [.sl 0 0 n, .fn 40] [.at rw (.fl .f32 l)]
    = lp_ixfin2 N N (st_ixfin2 n ((n : Nat) : Int) 0 rw l) (kt_ixfin2 N (kEnd Try.f44 1)) := by
  kernel_rfl
theorem step_ixfin2 {R : Type} (N M : Nat) (K : X → St → Option R) (s0n : Nat) (t7 : Int) (t8 : Int) (rw0 : Bool) (l0 : List Nat) : lp_ixfin2 N (M + 1) (st_ixfin2 s0n t7 t8 rw0 l0) K
    = (match decide ((t8 : Int) < t7) with | true => (match decide (0 ≤ (t8 : Int) ∧ (t8 : Int) < ((s0n : Nat) : Int)) with | true => (match l0[0 + (t8).toNat * 1]? with | some e1 => (match !finB e1 with | true => K .ret (en_ixfin2_0 t8 rw0 l0) | false => lp_ixfin2 N M (st_ixfin2 s0n t7 (IntKind.i64.wrap (t8 + 1)) rw0 l0) K) | none => none) | false => none) | false => K (.exit 0) (en_ixfin2_1 rw0 l0)) := by
  kernel_rfl
theorem end_ixfin2_0 (N : Nat) (t4 : Int) (rw0 : Bool) (l0 : List Nat) : kt_ixfin2 N (kEnd Try.f44 1) .ret (en_ixfin2_0 t4 rw0 l0)
    = some (.int .i64 t4, [.at rw0 (.fl .f32 l0)]) := by
  kernel_rfl
theorem end_ixfin2_1 (N : Nat) (rw0 : Bool) (l0 : List Nat) : kt_ixfin2 N (kEnd Try.f44 1) (.exit 0) (en_ixfin2_1 rw0 l0)
    = some (.int .i64 (-1), [.at rw0 (.fl .f32 l0)]) := by
  kernel_rfl
theorem ok_ixfin : FnT Try.prog 44 (gIxT 40 (fun x => !finB x)) := by
  refine fnT tabok_ixfin Try.func44 rfl rfl an_ixfin fun vs h v h' e => ?_
  unfold gIxT at e
  split at e
  · rename_i n f' rw l
    split at e
    · rename_i hf
      subst hf
      obtain ⟨hd, e⟩ := T.pre_inv e
      obtain ⟨rfl, rfl⟩ := T.ret_inv e
      obtain ⟨rfl, hb⟩ := of_decide_eq_true hd
      refine ⟨l.length + 1, Eq.trans (run_ixfin _ _ _ _) ?_⟩
      refine Eq.trans (scan0 l (fun x => !finB x) (fun M i => lp_ixfin2 (l.length + 1) M (st_ixfin2 l.length ((l.length : Nat) : Int) i rw l) (kt_ixfin2 (l.length + 1) (kEnd Try.f44 1))) (fun j => some (.int .i64 (j : Int), [.at rw (.fl .f32 l)])) (some (.int .i64 (-1), [.at rw (.fl .f32 l)])) (fun M i x hx => ?_) (fun M => ?_)) ?_
      · have hi := lt_of_get hx
        simp only [step_ixfin2, dlt hi, din hi, ix, hx, wr (show i < 2147483648 by omega), end_ixfin2_0] <;> (cases !finB x <;> rfl)
      · simp only [step_ixfin2, dge (Nat.le_refl _), end_ixfin2_1]
      · unfold ixOf
        cases firstIx (fun x => !finB x) l 0 <;> rfl
    · exact (T.no_inv e).elim
  · split at e
    · rename_i hf
      subst hf
      obtain ⟨rfl, rfl⟩ := T.ret_inv e
      exact ⟨1, by kernel_rfl⟩
    · exact (T.no_inv e).elim
  · exact (T.no_inv e).elim
def tab_cofin : Fns := tabT [(44, gIxT 40 (fun x => !finB x))]
theorem tabok_cofin : ∀ f, FnT Try.prog f (tab_cofin f) := (tabT_cons (k := 44) ok_ixfin tabT_nil)
theorem run_cofin (N : Nat) (n : Nat) (rw : Bool) (l : List Nat) : run ty tab_cofin ann0 N Try.f39 [.sl 0 0 n, .fn 40] [.at rw (.fl .f32 l)]
    = (match decide (l.length = n ∧ n < 2147483648) with | true => some (.bool (decide ((ixOf (fun x => !finB x) l : Int) ≥ 0)), [.at rw (.fl .f32 l)]) | false => none) := by
  kernel_rfl
theorem ok_cofin : FnT Try.prog 39 (gCoT 40 (fun x => !finB x)) := by
  refine fnT tabok_cofin Try.func39 rfl rfl ann0 fun vs h v h' e => ⟨0, ?_⟩
  unfold gCoT at e
  split at e
  · split at e
    · rename_i n f' rw l hf
      subst hf
      obtain ⟨hd, e⟩ := T.pre_inv e
      obtain ⟨rfl, rfl⟩ := T.ret_inv e
      refine Eq.trans (run_cofin 0 _ _ _) ?_
      rw [hd]
    · exact (T.no_inv e).elim
  · split at e
    · rename_i hf
      subst hf
      obtain ⟨rfl, rfl⟩ := T.ret_inv e
      kernel_rfl
    · exact (T.no_inv e).elim
  · exact (T.no_inv e).elim
def tab_areFinite : Fns := tabT [(39, gCoT 40 (fun x => !finB x))]
theorem tabok_areFinite : ∀ f, FnT Try.prog f (tab_areFinite f) := (tabT_cons (k := 39) ok_cofin tabT_nil)
theorem run_areFinite (N : Nat) (n : Nat) (rw : Bool) (l : List Nat) : run ty tab_areFinite ann0 N Try.f30 [.sl 0 0 n] [.at rw (.fl .f32 l)]
    = (match decide (l.length = n ∧ n < 2147483648) with | true => some (.bool (!(decide (ixOf (fun x => !finB x) l ≥ 0))), [.at rw (.fl .f32 l)]) | false => none) := by
  kernel_rfl
theorem ok_areFinite : FnT Try.prog 30 (gAllT finB) := by
  refine fnT tabok_areFinite Try.func30 rfl rfl ann0 fun vs h v h' e => ⟨0, ?_⟩
  unfold gAllT at e
  split at e
  · obtain ⟨hd, e⟩ := T.pre_inv e
    obtain ⟨rfl, rfl⟩ := T.ret_inv e
    refine Eq.trans (run_areFinite 0 _ _ _) ?_
    rw [hd, ← ix_all finB]
  · obtain ⟨rfl, rfl⟩ := T.ret_inv e
    kernel_rfl
  · exact (T.no_inv e).elim
def an_l02Finite : Ann := ⟨fun r => if r = 2 then some ([0, 3], [2]) else none, fun _ _ => .quiet⟩
def tab_l02Finite : Fns := tabT [(37, gT (gF1 finB))]
theorem tabok_l02Finite : ∀ f, FnT Try.prog f (tab_l02Finite f) := (tabT_cons (k := 37) ok_l01Finite tabT_nil)
def st_l02Finite2 (list0n : Nat) (i3 : Int) (rw0 : Bool) (l0 : List Nat) : St := ⟨(.sl 0 0 list0n :: .any :: .any :: .int .i64 i3 :: (anys 12 [])), [.at rw0 (.fl .f32 l0)]⟩
abbrev kp_l02Finite2 : Option (List Nat × List Nat) := some ([0, 3], [2])
noncomputable def lp_l02Finite2 {R : Type} (N M : Nat) (s : St) (K : X → St → Option R) : Option R := loopH 1 kp_l02Finite2 (fun st K => exec ty tab_l02Finite an_l02Finite N 1 (atOf [true, false, true, false, false] Try.f26) st K) M s K
noncomputable def kt_l02Finite2 {R : Type} (N : Nat) (K : X → St → Option R) : X → St → Option R := kBlkR 0 (kSeqR tab_l02Finite an_l02Finite N 1 (atOf [true, true] Try.f26) (K))
def en_l02Finite2_0 (rw0 : Bool) (l0 : List Nat) : St := ⟨(.any :: .any :: .bool false :: (anys 13 [])), [.at rw0 (.fl .f32 l0)]⟩
def en_l02Finite2_1 (rw0 : Bool) (l0 : List Nat) : St := ⟨(anys 16 []), [.at rw0 (.fl .f32 l0)]⟩
theorem run_l02Finite (N : Nat) (n : Nat) (rw : Bool) (l : List Nat) : run ty tab_l02Finite an_l02Finite N Try.f26 [.sl 0 0 n] [.at rw (.fl .f32 l)]
    = lp_l02Finite2 N N (st_l02Finite2 n 0 rw l) (kt_l02Finite2 N (kEnd Try.f26 1)) := by
  kernel_rfl
theorem step_l02Finite2 {R : Type} (N M : Nat) (K : X → St → Option R) (list0n : Nat) (i3 : Int) (rw0 : Bool) (l0 : List Nat) : lp_l02Finite2 N (M + 1) (st_l02Finite2 list0n i3 rw0 l0) K
    = (match decide ((i3 : Int) < ((list0n : Nat) : Int)) with | true => (match decide (0 ≤ (i3 : Int) ∧ (i3 : Int) < ((list0n : Nat) : Int)) with | true => (match l0[0 + (i3).toNat * 1]? with | some e1 => (match !(finB e1) with | true => K .ret (en_l02Finite2_0 rw0 l0) | false => lp_l02Finite2 N M (st_l02Finite2 list0n (IntKind.i64.wrap (i3 + 1)) rw0 l0) K) | none => none) | false => none) | false => K (.exit 0) (en_l02Finite2_1 rw0 l0)) := by
  kernel_rfl
theorem end_l02Finite2_0 (N : Nat) (rw0 : Bool) (l0 : List Nat) : kt_l02Finite2 N (kEnd Try.f26 1) .ret (en_l02Finite2_0 rw0 l0)
    = some (.bool false, [.at rw0 (.fl .f32 l0)]) := by
  kernel_rfl
theorem end_l02Finite2_1 (N : Nat) (rw0 : Bool) (l0 : List Nat) : kt_l02Finite2 N (kEnd Try.f26 1) (.exit 0) (en_l02Finite2_1 rw0 l0)
    = some (.bool true, [.at rw0 (.fl .f32 l0)]) := by
  kernel_rfl
theorem ok_l02Finite : FnT Try.prog 26 (gAllT finB) := by
  refine fnT tabok_l02Finite Try.func26 rfl rfl an_l02Finite fun vs h v h' e => ?_
  unfold gAllT at e
  split at e
  · rename_i n rw l
    obtain ⟨hd, e⟩ := T.pre_inv e
    obtain ⟨rfl, rfl⟩ := T.ret_inv e
    obtain ⟨rfl, hb⟩ := of_decide_eq_true hd
    refine ⟨l.length + 1, Eq.trans (run_l02Finite _ _ _ _) ?_⟩
    refine Eq.trans (scan0 l (fun x => !finB x) (fun M i => lp_l02Finite2 (l.length + 1) M (st_l02Finite2 l.length i rw l) (kt_l02Finite2 (l.length + 1) (kEnd Try.f26 1))) (fun _ => some (.bool false, [.at rw (.fl .f32 l)])) (some (.bool true, [.at rw (.fl .f32 l)])) (fun M i x hx => ?_) (fun M => ?_)) ?_
    · have hi := lt_of_get hx
      simp only [step_l02Finite2, dlt hi, din hi, ix, hx, wr (show i < 2147483648 by omega), end_l02Finite2_0] <;> (cases !finB x <;> rfl)
    · simp only [step_l02Finite2, dge (Nat.le_refl _), end_l02Finite2_1]
    · rw [← first_all finB l 0]
      cases firstIx (fun x => !finB x) l 0 <;> rfl
  · obtain ⟨rfl, rfl⟩ := T.ret_inv e
    exact ⟨1, by kernel_rfl⟩
  · exact (T.no_inv e).elim
theorem bne_order (a b : Nat) : (FloatKind.f64.format.order a b != some .eq) = !eqD a b := rfl
def tab_sameFloat : Fns := tabT []
theorem tabok_sameFloat : ∀ f, FnT Try.prog f (tab_sameFloat f) := tabT_nil
theorem run_sameFloat (N : Nat) (a : Nat) (b : Nat) : run ty tab_sameFloat ann0 N Try.f36 [.fl .f64 a, .fl .f64 b] []
    = (match FloatKind.f64.format.order a a != some .eq with | true => (match FloatKind.f64.format.order a a != some .eq with | true => some (.bool (FloatKind.f64.format.order b b != some .eq), []) | false => some (.bool false, [])) | false => (match FloatKind.f64.format.order b b != some .eq with | true => (match FloatKind.f64.format.order a a != some .eq with | true => some (.bool (FloatKind.f64.format.order b b != some .eq), []) | false => some (.bool false, [])) | false => (match eqD a 0 with | true => (match eqD b 0 with | true => some (.bool ((gtD (fop .quo .f64 4607182418800017408 a) 0) == (gtD (fop .quo .f64 4607182418800017408 b) 0)), []) | false => some (.bool (eqD a b), [])) | false => some (.bool (eqD a b), [])))) := by
  kernel_rfl
theorem ok_sameFloat : FnT Try.prog 36 (gT gSame) := by
  refine fnT tabok_sameFloat Try.func36 rfl rfl ann0 fun vs h v h' e => ⟨0, ?_⟩
  rw [T.run_of] at e
  unfold gSame at e
  split at e
  case h_2 => cases e
  rename_i a b
  cases e
  refine Eq.trans (run_sameFloat 0 a b) ?_
  unfold sameB
  show _ = some (V.bool (cond (!eqD a a || !eqD b b) (!eqD a a && !eqD b b) (cond (eqD a 0 && eqD b 0) (gtD (fop .quo .f64 4607182418800017408 a) 0 == gtD (fop .quo .f64 4607182418800017408 b) 0) (eqD a b))), [])
  simp only [bne_order]
  cases eqD a a <;> cases eqD b b <;> cases eqD a 0 <;> cases eqD b 0 <;> rfl
def eqFB (l l' : List Nat) : Bool := (l.length == l'.length) && (firstIx (fun p : Nat × Nat => !sameB (up p.1) (up p.2)) (l.zip l') 0).isNone
theorem firstIx_self (l : List Nat) : ∀ i, (firstIx (fun p : Nat × Nat => !sameB (up p.1) (up p.2)) (l.zip l) i) = none := by
  induction l with
  | nil => intro i; rfl
  | cons x l ih => intro i; simp only [List.zip_cons_cons, firstIx, sameB_self, Bool.not_true]; exact ih (i + 1)
theorem eqFB_self (l : List Nat) : eqFB l l = true := by
  unfold eqFB
  rw [firstIx_self]
  simp
def gEqT : GT := fun vs h => match vs, h with
  | [.sl 0 0 n, .sl 1 0 m], [.at r1 (.fl .f32 l), .at r2 (.fl .f32 l')] => .ite (decide (l.length = n ∧ l'.length = m ∧ n < 2147483648 ∧ m < 2147483648)) (.ret (.bool (eqFB l l')) [.at r1 (.fl .f32 l), .at r2 (.fl .f32 l')]) .no
  | [.nil, .nil], [] => .ret (.bool true) []
  | _, _ => .no
theorem zip_get {l l' : List Nat} {i : Nat} {x : Nat × Nat} (h : (l.zip l')[i]? = some x) : l[i]? = some x.1 ∧ l'[i]? = some x.2 := by
  rw [List.getElem?_zip_eq_some] at h
  exact h
def an_eqF : Ann := ⟨fun r => if r = 4 then some ([0, 1, 5], [4]) else none, fun _ _ => .quiet⟩
def tab_eqF : Fns := tabT [(36, gT gSame)]
theorem tabok_eqF : ∀ f, FnT Try.prog f (tab_eqF f) := (tabT_cons (k := 36) ok_sameFloat tabT_nil)
def st_eqF4 (a0n : Nat) (b1n : Nat) (i5 : Int) (rw0 : Bool) (l0 : List Nat) (rw1 : Bool) (l1 : List Nat) : St := ⟨(.sl 0 0 a0n :: .sl 1 0 b1n :: .any :: .any :: .any :: .int .i64 i5 :: (anys 23 [])), [.at rw0 (.fl .f32 l0), .at rw1 (.fl .f32 l1)]⟩
abbrev kp_eqF4 : Option (List Nat × List Nat) := some ([0, 1, 5], [4])
noncomputable def lp_eqF4 {R : Type} (N M : Nat) (s : St) (K : X → St → Option R) : Option R := loopH 2 kp_eqF4 (fun st K => exec ty tab_eqF an_eqF N 2 (atOf [true, true, false, true, false, false] Try.f23) st K) M s K
noncomputable def kt_eqF4 {R : Type} (N : Nat) (K : X → St → Option R) : X → St → Option R := kBlkR 0 (kSeqR tab_eqF an_eqF N 2 (atOf [true, true, true] Try.f23) (K))
def en_eqF4_0 (rw0 : Bool) (l0 : List Nat) (rw1 : Bool) (l1 : List Nat) : St := ⟨(.any :: .any :: .any :: .any :: .bool false :: (anys 24 [])), [.at rw0 (.fl .f32 l0), .at rw1 (.fl .f32 l1)]⟩
def en_eqF4_1 (rw0 : Bool) (l0 : List Nat) (rw1 : Bool) (l1 : List Nat) : St := ⟨(anys 29 []), [.at rw0 (.fl .f32 l0), .at rw1 (.fl .f32 l1)]⟩
theorem run_eqF (N : Nat) (n : Nat) (m : Nat) (r1 : Bool) (l : List Nat) (r2 : Bool) (l' : List Nat) : run ty tab_eqF an_eqF N Try.f23 [.sl 0 0 n, .sl 1 0 m] [.at r1 (.fl .f32 l), .at r2 (.fl .f32 l')]
    = (match ((n : Nat) : Int) != ((m : Nat) : Int) with | true => some (.bool false, [.at r1 (.fl .f32 l), .at r2 (.fl .f32 l')]) | false => lp_eqF4 N N (st_eqF4 n m 0 r1 l r2 l') (kt_eqF4 N (kEnd Try.f23 2))) := by
  kernel_rfl
theorem step_eqF4 {R : Type} (N M : Nat) (K : X → St → Option R) (a0n : Nat) (b1n : Nat) (i5 : Int) (rw0 : Bool) (l0 : List Nat) (rw1 : Bool) (l1 : List Nat) : lp_eqF4 N (M + 1) (st_eqF4 a0n b1n i5 rw0 l0 rw1 l1) K
    = (match decide ((i5 : Int) < ((a0n : Nat) : Int)) with | true => (match decide (0 ≤ (i5 : Int) ∧ (i5 : Int) < ((a0n : Nat) : Int)) with | true => (match l0[0 + (i5).toNat * 1]? with | some e1 => (match fconv .f32 e1 .f64 with | some c2 => (match decide (0 ≤ (i5 : Int) ∧ (i5 : Int) < ((b1n : Nat) : Int)) with | true => (match l1[0 + (i5).toNat * 1]? with | some e3 => (match fconv .f32 e3 .f64 with | some c4 => (match !(sameB c2 c4) with | true => K .ret (en_eqF4_0 rw0 l0 rw1 l1) | false => lp_eqF4 N M (st_eqF4 a0n b1n (IntKind.i64.wrap (i5 + 1)) rw0 l0 rw1 l1) K) | none => none) | none => none) | false => none) | none => none) | none => none) | false => none) | false => K (.exit 0) (en_eqF4_1 rw0 l0 rw1 l1)) := by
  kernel_rfl
theorem end_eqF4_0 (N : Nat) (rw0 : Bool) (l0 : List Nat) (rw1 : Bool) (l1 : List Nat) : kt_eqF4 N (kEnd Try.f23 2) .ret (en_eqF4_0 rw0 l0 rw1 l1)
    = some (.bool false, [.at rw0 (.fl .f32 l0), .at rw1 (.fl .f32 l1)]) := by
  kernel_rfl
theorem end_eqF4_1 (N : Nat) (rw0 : Bool) (l0 : List Nat) (rw1 : Bool) (l1 : List Nat) : kt_eqF4 N (kEnd Try.f23 2) (.exit 0) (en_eqF4_1 rw0 l0 rw1 l1)
    = some (.bool true, [.at rw0 (.fl .f32 l0), .at rw1 (.fl .f32 l1)]) := by
  kernel_rfl
theorem ok_eqF : FnT Try.prog 23 gEqT := by
  refine fnT tabok_eqF Try.func23 rfl rfl an_eqF fun vs h v h' e => ?_
  unfold gEqT at e
  split at e
  · rename_i n m r1 l r2 l'
    obtain ⟨hd, e⟩ := T.pre_inv e
    obtain ⟨rfl, rfl⟩ := T.ret_inv e
    obtain ⟨rfl, rfl, hb, hb'⟩ := of_decide_eq_true hd
    refine ⟨l.length + 1, Eq.trans (run_eqF _ _ _ _ _ _ _) ?_⟩
    unfold eqFB
    by_cases hl : l.length = l'.length
    · rw [show ((l.length : Int) != (l'.length : Int)) = false by simp; omega, show (l.length == l'.length) = true by simpa using hl]
      have hz : (l.zip l').length = l.length := by simp; omega
      refine Eq.trans (b := match firstIx (fun p : Nat × Nat => !sameB (up p.1) (up p.2)) (l.zip l') 0 with | some _ => some (.bool false, [.at r1 (.fl .f32 l), .at r2 (.fl .f32 l')]) | none => some (.bool true, [.at r1 (.fl .f32 l), .at r2 (.fl .f32 l')])) ?_ (by cases firstIx (fun p : Nat × Nat => !sameB (up p.1) (up p.2)) (l.zip l') 0 <;> rfl)
      have hs := scan0 (l.zip l') (fun p : Nat × Nat => !sameB (up p.1) (up p.2)) (fun M i => lp_eqF4 (l.length + 1) M (st_eqF4 l.length l'.length i r1 l r2 l') (kt_eqF4 (l.length + 1) (kEnd Try.f23 2))) (fun _ => some (.bool false, [.at r1 (.fl .f32 l), .at r2 (.fl .f32 l')])) (some (.bool true, [.at r1 (.fl .f32 l), .at r2 (.fl .f32 l')])) (fun M i x hx => ?_) (fun M => ?_)
      · rw [hz] at hs
        exact hs
      · have hi := lt_of_get hx
        rw [hz] at hi
        obtain ⟨h1, h2⟩ := zip_get hx
        simp only [step_eqF4, dlt hi, din hi, din (show i < l'.length by omega), ix, h1, h2, fconv_eq, wr (show i < 2147483648 by omega), end_eqF4_0] <;> (cases !sameB (up x.1) (up x.2) <;> rfl)
      · rw [hz]
        simp only [step_eqF4, dge (Nat.le_refl _), end_eqF4_1]
    · rw [show ((l.length : Int) != (l'.length : Int)) = true by simp; omega, show (l.length == l'.length) = false by simpa using hl]
      rfl
  · obtain ⟨rfl, rfl⟩ := T.ret_inv e
    exact ⟨1, by kernel_rfl⟩
  · exact (T.no_inv e).elim
def gMarkT : GT := fun vs h => match vs, h with
  | [.sl 0 0 n, .int .i64 k], [.at true (.fl .f32 l)] => .ite (decide (l.length = n ∧ n < 2147483648 ∧ 0 ≤ k ∧ k.toNat < 2147483648)) (.ret (.int .i64 (k + (n : Int))) [.at true (.fl .f32 (marks k n))]) .no
  | [.nil, .int .i64 k], [] => .ret (.int .i64 k) []
  | _, _ => .no
def gHeldT : GT := fun vs h => match vs, h with
  | [.sl 0 0 n, .int .i64 k], [.at rw (.fl .f32 l)] => .ite (decide (l = marks k n ∧ n < 2147483648 ∧ 0 ≤ k ∧ k < 2147483648)) (.ret (.int .i64 (k + (n : Int))) [.at rw (.fl .f32 l)]) .no
  | [.nil, .int .i64 k], [] => .ret (.int .i64 k) []
  | _, _ => .no
def an_markF : Ann := ⟨fun r => if r = 2 then some ([0, 1, 5], [1]) else none, fun _ _ => .quiet⟩
def tab_markF : Fns := tabT []
theorem tabok_markF : ∀ f, FnT Try.prog f (tab_markF f) := tabT_nil
def st_markF2 (a0n : Nat) (k1 : Int) (i5 : Int) (l0 : List Nat) : St := ⟨(.sl 0 0 a0n :: .int .i64 k1 :: .any :: .any :: .any :: .int .i64 i5 :: (anys 14 [])), [.at true (.fl .f32 l0)]⟩
abbrev kp_markF2 : Option (List Nat × List Nat) := some ([0, 1, 5], [1])
noncomputable def lp_markF2 {R : Type} (N M : Nat) (s : St) (K : X → St → Option R) : Option R := loopH 1 kp_markF2 (fun st K => exec ty tab_markF an_markF N 1 (atOf [true, false, true, false, false] Try.f24) st K) M s K
noncomputable def kt_markF2 {R : Type} (N : Nat) (K : X → St → Option R) : X → St → Option R := kBlkR 0 (kSeqR tab_markF an_markF N 1 (atOf [true, true] Try.f24) (K))
def en_markF2_0 (k1 : Int) (l0 : List Nat) : St := ⟨(.any :: .int .i64 k1 :: (anys 18 [])), [.at true (.fl .f32 l0)]⟩
theorem run_markF (N : Nat) (n : Nat) (k : Int) (l : List Nat) : run ty tab_markF an_markF N Try.f24 [.sl 0 0 n, .int .i64 k] [.at true (.fl .f32 l)]
    = lp_markF2 N N (st_markF2 n k 0 l) (kt_markF2 N (kEnd Try.f24 1)) := by
  kernel_rfl
theorem step_markF2 {R : Type} (N M : Nat) (K : X → St → Option R) (a0n : Nat) (k1 : Int) (i5 : Int) (l0 : List Nat) : lp_markF2 N (M + 1) (st_markF2 a0n k1 i5 l0) K
    = (match decide ((i5 : Int) < ((a0n : Nat) : Int)) with | true => (match decide (0 ≤ (i5 : Int) ∧ (i5 : Int) < ((a0n : Nat) : Int)) with | true => (match decide (0 + (i5).toNat * 1 < l0.length) with | true => lp_markF2 N M (st_markF2 a0n (IntKind.i64.wrap (k1 + 1)) (IntKind.i64.wrap (i5 + 1)) (l0.set (0 + (i5).toNat * 1) (floatOfInt .f32 k1))) K | false => none) | false => none) | false => K (.exit 0) (en_markF2_0 k1 l0)) := by
  kernel_rfl
theorem end_markF2_0 (N : Nat) (k1 : Int) (l0 : List Nat) : kt_markF2 N (kEnd Try.f24 1) (.exit 0) (en_markF2_0 k1 l0)
    = some (.int .i64 k1, [.at true (.fl .f32 l0)]) := by
  kernel_rfl
theorem ok_markF : FnT Try.prog 24 gMarkT := by
  refine fnT tabok_markF Try.func24 rfl rfl an_markF fun vs h v h' e => ?_
  unfold gMarkT at e
  split at e
  · rename_i n k l
    obtain ⟨hd, e⟩ := T.pre_inv e
    obtain ⟨rfl, rfl⟩ := T.ret_inv e
    obtain ⟨rfl, hb, hk, hk'⟩ := of_decide_eq_true hd
    refine ⟨l.length + 1, Eq.trans (run_markF _ _ _ _) ?_⟩
    have hc := count_up l.length (fun i (s : Int × List Nat) => (s.1 + 1, s.2.set i (floatOfInt .f32 s.1))) (fun M i s => lp_markF2 (l.length + 1) M (st_markF2 l.length s.1 (i : Int) s.2) (kt_markF2 (l.length + 1) (kEnd Try.f24 1))) (fun s => some (.int .i64 s.1, [.at true (.fl .f32 s.2)])) (fun i s => s.1 = k + (i : Int) ∧ s.2.length = l.length)
      (fun M i s hi hv => ?_) (fun M s hv => ?_) l.length 0 (k, l) (by omega) ⟨by simp, rfl⟩ 0
    · rw [mark_all k l _ rfl, show l.length + 1 + 0 = l.length + 1 by omega] at hc
      exact hc
    · refine ⟨?_, by dsimp only; rw [hv.1]; omega, by simp [hv.2]⟩
      simp only [step_markF2, dlt hi, din hi, ix, decide_eq_true (show i < s.2.length by rw [hv.2]; exact hi), wr (show i < 2147483648 by omega), wrap_s (show 0 ≤ s.1 + 1 by rw [hv.1]; omega) (by rw [hv.1]; omega)]
    · simp only [step_markF2, dge (Nat.le_refl _), end_markF2_0]
  · obtain ⟨rfl, rfl⟩ := T.ret_inv e
    exact ⟨1, by kernel_rfl⟩
  · exact (T.no_inv e).elim
def an_heldF : Ann := ⟨fun r => if r = 2 then some ([0, 1, 5], [1, 4]) else none, fun _ _ => .quiet⟩
def tab_heldF : Fns := tabT []
theorem tabok_heldF : ∀ f, FnT Try.prog f (tab_heldF f) := tabT_nil
def st_heldF2 (a0n : Nat) (k1 : Int) (i5 : Int) (rw0 : Bool) (l0 : List Nat) : St := ⟨(.sl 0 0 a0n :: .int .i64 k1 :: .any :: .any :: .any :: .int .i64 i5 :: (anys 16 [])), [.at rw0 (.fl .f32 l0)]⟩
abbrev kp_heldF2 : Option (List Nat × List Nat) := some ([0, 1, 5], [1, 4])
noncomputable def lp_heldF2 {R : Type} (N M : Nat) (s : St) (K : X → St → Option R) : Option R := loopH 1 kp_heldF2 (fun st K => exec ty tab_heldF an_heldF N 1 (atOf [true, false, true, false, false] Try.f25) st K) M s K
noncomputable def kt_heldF2 {R : Type} (N : Nat) (K : X → St → Option R) : X → St → Option R := kBlkR 0 (kSeqR tab_heldF an_heldF N 1 (atOf [true, true] Try.f25) (K))
def en_heldF2_0 (k1 : Int) (rw0 : Bool) (l0 : List Nat) : St := ⟨(.any :: .int .i64 k1 :: .any :: .any :: .int .i64 (-1) :: (anys 17 [])), [.at rw0 (.fl .f32 l0)]⟩
def en_heldF2_1 (k1 : Int) (rw0 : Bool) (l0 : List Nat) : St := ⟨(.any :: .int .i64 k1 :: (anys 20 [])), [.at rw0 (.fl .f32 l0)]⟩
theorem run_heldF (N : Nat) (n : Nat) (k : Int) (rw : Bool) (l : List Nat) : run ty tab_heldF an_heldF N Try.f25 [.sl 0 0 n, .int .i64 k] [.at rw (.fl .f32 l)]
    = lp_heldF2 N N (st_heldF2 n k 0 rw l) (kt_heldF2 N (kEnd Try.f25 1)) := by
  kernel_rfl
theorem step_heldF2 {R : Type} (N M : Nat) (K : X → St → Option R) (a0n : Nat) (k1 : Int) (i5 : Int) (rw0 : Bool) (l0 : List Nat) : lp_heldF2 N (M + 1) (st_heldF2 a0n k1 i5 rw0 l0) K
    = (match decide ((i5 : Int) < ((a0n : Nat) : Int)) with | true => (match decide (0 ≤ (i5 : Int) ∧ (i5 : Int) < ((a0n : Nat) : Int)) with | true => (match l0[0 + (i5).toNat * 1]? with | some e1 => (match FloatKind.f32.format.order e1 (floatOfInt .f32 k1) != some .eq with | true => K .ret (en_heldF2_0 k1 rw0 l0) | false => lp_heldF2 N M (st_heldF2 a0n (IntKind.i64.wrap (k1 + 1)) (IntKind.i64.wrap (i5 + 1)) rw0 l0) K) | none => none) | false => none) | false => K (.exit 0) (en_heldF2_1 k1 rw0 l0)) := by
  kernel_rfl
theorem end_heldF2_1 (N : Nat) (k1 : Int) (rw0 : Bool) (l0 : List Nat) : kt_heldF2 N (kEnd Try.f25 1) (.exit 0) (en_heldF2_1 k1 rw0 l0)
    = some (.int .i64 k1, [.at rw0 (.fl .f32 l0)]) := by
  kernel_rfl
theorem ok_heldF : FnT Try.prog 25 gHeldT := by
  refine fnT tabok_heldF Try.func25 rfl rfl an_heldF fun vs h v h' e => ?_
  unfold gHeldT at e
  split at e
  · rename_i n k rw l
    obtain ⟨hd, e⟩ := T.pre_inv e
    obtain ⟨rfl, rfl⟩ := T.ret_inv e
    obtain ⟨rfl, hb, hk, hk'⟩ := of_decide_eq_true hd
    refine ⟨n + 1, Eq.trans (run_heldF _ _ _ _ _) ?_⟩
    have hc := count_up n (fun i (s : Int) => s + 1) (fun M i s => lp_heldF2 (n + 1) M (st_heldF2 n s (i : Int) rw (marks k n)) (kt_heldF2 (n + 1) (kEnd Try.f25 1))) (fun s => some (.int .i64 s, [.at rw (.fl .f32 (marks k n))])) (fun i s => s = k + (i : Int))
      (fun M i s hi hv => ?_) (fun M s hv => ?_) n 0 k (by omega) (by simp) 0
    · have hr : ∀ m i (q : Int), rounds (fun (i : Nat) (s : Int) => s + 1) m i q = q + (m : Int) := by
        intro m
        induction m with
        | zero => intro i q; simp [rounds]
        | succ m ih => intro i q; show rounds _ m _ _ = _; rw [ih]; dsimp only; omega
      rw [hr, show n + 1 + 0 = n + 1 by omega] at hc
      exact hc
    · refine ⟨?_, by rw [hv]; omega⟩
      have ho : (FloatKind.f32.format.order (floatOfInt .f32 (k + (i : Int))) (floatOfInt .f32 s) != some .eq) = false := by
        rw [← hv, order_self (isN_nearest' _ _)]
        rfl
      simp only [step_heldF2, dlt hi, din hi, ix, marks_get hi, ho, wr (show i < 2147483648 by omega), wrap_s (show 0 ≤ s + 1 by rw [hv]; omega) (by rw [hv]; omega)]
    · simp only [step_heldF2, dge (Nat.le_refl _), end_heldF2_1]
  · obtain ⟨rfl, rfl⟩ := T.ret_inv e
    exact ⟨1, by kernel_rfl⟩
  · exact (T.no_inv e).elim
theorem copy_toF : ∀ k i (l : List Nat) (pre r : List Nat), i + k = l.length → r.length = k → pre.length = i → pre = l.take i → rounds (fun i (s : List Nat) => s.set i (l.getD i 0)) k i (pre ++ r) = l
  | 0, i, l, pre, r, h, hr, hp, e => by
    have : r = [] := by simpa using hr
    subst this
    rw [e, List.append_nil]
    exact List.take_of_length_le (by omega)
  | k + 1, i, l, pre, [], h, hr, hp, e => by simp at hr
  | k + 1, i, l, pre, x :: r, h, hr, hp, e => by
    show rounds _ k (i + 1) ((pre ++ x :: r).set i (l.getD i 0)) = l
    have e2 : (pre ++ x :: r).set i (l.getD i 0) = (pre ++ [l.getD i 0]) ++ r := by
      rw [List.set_append_right _ _ (by omega)]
      simp [hp]
    rw [e2]
    refine copy_toF k (i + 1) l _ r (by omega) (by simpa using hr) (by simp [hp]) ?_
    rw [e, List.take_add_one, List.getElem?_eq_getElem (by omega)]
    simp [List.getD_eq_getElem?_getD, List.getElem?_eq_getElem (show i < l.length by omega)]
def g_toF : GT := fun vs h => match vs, h with
  | [.sl 0 0 n], [.at rw (.fl .f32 l)] => .ite (decide (l.length = n ∧ n < 2147483648)) (.ret (.sl 1 0 n) [.at rw (.fl .f32 l), .at true (.fl .f32 l)]) .no
  | [.nil], [] => .ret (.sl 0 0 0) [.at true (.fl .f32 [])]
  | _, _ => .no
def an_toF : Ann := ⟨fun r => if r = 3 then some ([0, 3, 4], [3]) else none, fun _ _ => .quiet⟩
def tab_toF : Fns := tabT []
theorem tabok_toF : ∀ f, FnT Try.prog f (tab_toF f) := tabT_nil
def st_toF3 (a0n : Nat) (out3n : Nat) (i4 : Int) (rw0 : Bool) (l0 : List Nat) (l1 : List Nat) : St := ⟨(.sl 0 0 a0n :: .any :: .any :: .sl 1 0 out3n :: .int .i64 i4 :: (anys 17 [])), [.at rw0 (.fl .f32 l0), .at true (.fl .f32 l1)]⟩
abbrev kp_toF3 : Option (List Nat × List Nat) := some ([0, 3, 4], [3])
noncomputable def lp_toF3 {R : Type} (N M : Nat) (s : St) (K : X → St → Option R) : Option R := loopH 1 kp_toF3 (fun st K => exec ty tab_toF an_toF N 1 (atOf [true, true, false, true, false, false] Try.f17) st K) M s K
noncomputable def kt_toF3 {R : Type} (N : Nat) (K : X → St → Option R) : X → St → Option R := kBlkR 0 (kSeqR tab_toF an_toF N 1 (atOf [true, true, true] Try.f17) (K))
def en_toF3_0 (out3n : Nat) (rw0 : Bool) (l0 : List Nat) (l1 : List Nat) : St := ⟨(.any :: .any :: .any :: .sl 1 0 out3n :: (anys 18 [])), [.at rw0 (.fl .f32 l0), .at true (.fl .f32 l1)]⟩
theorem run_toF (N : Nat) (n : Nat) (rw : Bool) (l : List Nat) : run ty tab_toF an_toF N Try.f17 [.sl 0 0 n] [.at rw (.fl .f32 l)]
    = (match decide (0 ≤ (((n : Nat) : Int) : Int) ∧ (((n : Nat) : Int) : Int) ≤ ((n : Nat) : Int) ∧ (((n : Nat) : Int) : Int) ≤ 9223372036854775807 ∧ (((n : Nat) : Int) : Int).toNat * 4 ≤ 140737488355328 ∧ 0 < 1 ∧ 1 = 1) with | true => lp_toF3 N N (st_toF3 n ((((n : Nat) : Int) : Int).toNat) 0 rw l (List.replicate ((((n : Nat) : Int) : Int).toNat) 0)) (kt_toF3 N (kEnd Try.f17 1)) | false => none) := by
  kernel_rfl
theorem step_toF3 {R : Type} (N M : Nat) (K : X → St → Option R) (a0n : Nat) (out3n : Nat) (i4 : Int) (rw0 : Bool) (l0 : List Nat) (l1 : List Nat) : lp_toF3 N (M + 1) (st_toF3 a0n out3n i4 rw0 l0 l1) K
    = (match decide ((i4 : Int) < ((a0n : Nat) : Int)) with | true => (match decide (0 ≤ (i4 : Int) ∧ (i4 : Int) < ((a0n : Nat) : Int)) with | true => (match l0[0 + (i4).toNat * 1]? with | some e1 => (match decide (0 ≤ (i4 : Int) ∧ (i4 : Int) < ((out3n : Nat) : Int)) with | true => (match decide (0 + (i4).toNat * 1 < l1.length) with | true => lp_toF3 N M (st_toF3 a0n out3n (IntKind.i64.wrap (i4 + 1)) rw0 l0 (l1.set (0 + (i4).toNat * 1) e1)) K | false => none) | false => none) | none => none) | false => none) | false => K (.exit 0) (en_toF3_0 out3n rw0 l0 l1)) := by
  kernel_rfl
theorem end_toF3_0 (N : Nat) (out3n : Nat) (rw0 : Bool) (l0 : List Nat) (l1 : List Nat) : kt_toF3 N (kEnd Try.f17 1) (.exit 0) (en_toF3_0 out3n rw0 l0 l1)
    = some (.sl 1 0 out3n, [.at rw0 (.fl .f32 l0), .at true (.fl .f32 l1)]) := by
  kernel_rfl
theorem ok_toF : FnT Try.prog 17 g_toF := by
  refine fnT tabok_toF Try.func17 rfl rfl an_toF fun vs h v h' e => ?_
  unfold g_toF at e
  split at e
  · rename_i n rw l
    obtain ⟨hd, e⟩ := T.pre_inv e
    obtain ⟨rfl, rfl⟩ := T.ret_inv e
    obtain ⟨rfl, hb⟩ := of_decide_eq_true hd
    refine ⟨l.length + 1, Eq.trans (run_toF _ _ _ _) ?_⟩
    rw [decide_eq_true (show 0 ≤ (((l.length : Nat) : Int) : Int) ∧ (((l.length : Nat) : Int) : Int) ≤ ((l.length : Nat) : Int) ∧ (((l.length : Nat) : Int) : Int) ≤ 9223372036854775807 ∧ (((l.length : Nat) : Int) : Int).toNat * 4 ≤ 140737488355328 ∧ 0 < 1 ∧ 1 = 1 by omega)]
    rw [show (((l.length : Nat) : Int) : Int).toNat = l.length from rfl]
    have hc := count_up l.length (fun i (s : List Nat) => s.set i (l.getD i 0)) (fun M i s => lp_toF3 (l.length + 1) M (st_toF3 l.length l.length (i : Int) rw l s) (kt_toF3 (l.length + 1) (kEnd Try.f17 1))) (fun s => some (.sl 1 0 l.length, [.at rw (.fl .f32 l), .at true (.fl .f32 s)])) (fun _ s => s.length = l.length)
      (fun M i s hi hv => ?_) (fun M s hv => ?_) l.length 0 (List.replicate l.length 0) (by omega) (by simp) 0
    · rw [show List.replicate l.length (0 : Nat) = [] ++ List.replicate l.length 0 from rfl, copy_toF l.length 0 l [] (List.replicate l.length 0) (by omega) (by simp) rfl rfl] at hc
      exact hc
    · have hg : l[i]? = some (l.getD i 0) := by simp [List.getD_eq_getElem?_getD, hi]
      refine ⟨?_, by simpa using hv⟩
      simp only [step_toF3, dlt hi, din hi, ix, hg, decide_eq_true (show i < s.length by omega), wr (show i < 2147483648 by omega)]
    · simp only [step_toF3, dge (Nat.le_refl _), end_toF3_0]
  · obtain ⟨rfl, rfl⟩ := T.ret_inv e
    exact ⟨1, by kernel_rfl⟩
  · exact (T.no_inv e).elim
end Go.Proofs.Ythjncajdognojaa.Ab

namespace Go.Proofs.Ythjncajdognojaa.Ab
set_option linter.unusedVariables false
set_option linter.unusedSimpArgs false
open Go
theorem T.run_ite (b : Bool) (x y : T) : (T.ite b x y).run = match b with | true => x.run | false => y.run := rfl
theorem T.run_ret (v : V) (h : H) : (T.ret v h).run = some (v, h) := rfl
theorem FnT.runs {f : FuncId} {fn : Func} {code : Code} {fns : Fns} (hfn : ∀ f, FnT Try.prog f (fns f)) (hf : Try.prog.funcs[f]? = some fn) (hb : fn.body = some code) (hn : (fn.name == "runtime.NumGoroutine") = false) (an : Ann) (N : Nat) :
    FnT Try.prog f (fun vs h => T.of (run ty fns an N fn vs h)) :=
  fnT hfn hf hb hn an fun vs h v h' e => ⟨N, by rw [T.run_of] at e; exact e⟩
theorem getD_some' {l : List Nat} {i : Nat} (h : i < l.length) : l[i]? = some (l.getD i 0) := by simp [List.getD_eq_getElem?_getD, h]
theorem neq_dec (a b : Int) : (a != b) = !decide (a = b) := by
  by_cases h : a = b
  · subst h; simp
  · simp [h]
theorem first_any {α : Type} (t : α → Bool) : ∀ (l : List α) (i : Nat), (firstIx t l i).isSome = l.any t
  | [], i => rfl
  | x :: l, i => by
    unfold firstIx
    rw [List.any_cons]
    cases t x with
    | true => rfl
    | false => exact first_any t l (i + 1)
theorem any_not {α : Type} (q : α → Bool) (l : List α) : (l.any fun x => !q x) = !(l.all q) := by
  induction l with
  | nil => rfl
  | cons x l ih => simp only [List.any_cons, List.all_cons, ih]; cases q x <;> rfl
theorem scanR {R : Type} (n : Nat) (t : Nat → Bool) (L : Nat → Int → Option R) (A Z : Option R)
    (hs : ∀ (M i : Nat), i < n → L (M + 1) i = match t i with | true => A | false => L M ((i + 1 : Nat) : Int))
    (he : ∀ M, L (M + 1) (n : Nat) = Z) : L (n + 1) 0 = match (List.range n).any t with | true => A | false => Z := by
  have h := scan0 (List.range n) t L (fun _ => A) Z (fun M i x hx => by
    have hi : i < n := by have := lt_of_get hx; simpa using this
    rw [List.getElem?_range hi] at hx
    cases hx
    exact hs M i hi) (fun M => by rw [List.length_range]; exact he M)
  rw [List.length_range] at h
  rw [h, ← first_any t (List.range n) 0]
  cases firstIx t (List.range n) 0 <;> rfl
theorem ok_bits32_ok : FnT Try.prog 43 (gBits .f32 .u32) := bits32_ok Try.func43 (by decide) (by rfl) (by rfl) (by rfl)
theorem ok_bits64_ok : FnT Try.prog 41 (gBits .f64 .u64) := bits64_ok Try.func41 (by decide) (by rfl) (by rfl) (by rfl)
def gBI : GT := fun vs h => match vs, h with | [.fl .f32 x], [] => .ret (.int .i64 (bI x)) [] | _, _ => .no
def gSB : GT := fun vs h => match vs, h with | [.fl .f64 x], [] => .ite (!(isN .f64 x)) (.ret (.bool (sbD x)) []) .no | _, _ => .no
def gSN : GT := fun vs h => match vs, h with | [.fl .f32 a, .fl .f32 b], [] => .ite (decide (a < 4294967296 ∧ b < 4294967296)) (.ret (.bool (sN a b)) []) .no | _, _ => .no
theorem up_num' {x : Nat} (h : isN .f32 x = false) : isN .f64 (up x) = false := by
  unfold isN
  rcases up_num h with ⟨s, hd⟩ | ⟨s, m, e, hd, _⟩ <;> rw [hd] <;> rfl
def tab_l01Bits : Fns := tabT [(43, (gBits .f32 .u32))]
theorem tabok_l01Bits : ∀ f, FnT Try.prog f (tab_l01Bits f) := (tabT_cons (k := 43) ok_bits32_ok tabT_nil)
theorem run_l01Bits (N : Nat) (x : Nat) : run ty tab_l01Bits ann0 N Try.f38 [.fl .f32 x] []
    = (match FloatKind.f32.format.order x x != some .eq with | true => some (.int .i64 2143289344, []) | false => (match !(isN .f32 x) with | true => some (.int .i64 (IntKind.i64.wrap ((x : Nat) : Int)), []) | false => none)) := by
  kernel_rfl
theorem ok_l01Bits : FnT Try.prog 38 (gBI) := by
  refine fnT tabok_l01Bits Try.func38 rfl rfl ann0 fun vs h v h' e => ⟨0, ?_⟩
  unfold gBI at e
  split at e
  case h_2 => exact (T.no_inv e).elim
  rename_i x
  obtain ⟨rfl, rfl⟩ := T.ret_inv e
  refine Eq.trans (run_l01Bits 0 x) ?_
  unfold bI
  rw [show (FloatKind.f32.format.order x x != some .eq) = !eqB x x from rfl, eqB_self]
  cases isN .f32 x <;> rfl
def tab_Signbit : Fns := tabT [(41, (gBits .f64 .u64))]
theorem tabok_Signbit : ∀ f, FnT Try.prog f (tab_Signbit f) := (tabT_cons (k := 41) ok_bits64_ok tabT_nil)
theorem run_Signbit (N : Nat) (x : Nat) : run ty tab_Signbit ann0 N Try.f32 [.fl .f64 x] []
    = (match !(isN .f64 x) with | true => some (.bool (decide ((IntKind.i64.wrap ((x : Nat) : Int) : Int) < 0)), []) | false => none) := by
  kernel_rfl
theorem ok_Signbit : FnT Try.prog 32 (gSB) := by
  refine fnT tabok_Signbit Try.func32 rfl rfl ann0 fun vs h v h' e => ⟨0, ?_⟩
  unfold gSB at e
  split at e
  case h_2 => exact (T.no_inv e).elim
  rename_i x
  obtain ⟨hx, e⟩ := T.pre_inv e
  obtain ⟨rfl, rfl⟩ := T.ret_inv e
  refine Eq.trans (run_Signbit 0 x) ?_
  rw [hx]
  rfl
def tab_l01Same : Fns := tabT [(38, gBI)]
theorem tabok_l01Same : ∀ f, FnT Try.prog f (tab_l01Same f) := (tabT_cons (k := 38) ok_l01Bits tabT_nil)
theorem run_l01Same (N : Nat) (a : Nat) (b : Nat) : run ty tab_l01Same ann0 N Try.f27 [.fl .f32 a, .fl .f32 b] []
    = some (.bool ((bI a) == (bI b)), []) := by
  kernel_rfl
theorem ok_l01Same : FnT Try.prog 27 (gSN) := by
  refine fnT tabok_l01Same Try.func27 rfl rfl ann0 fun vs h v h' e => ⟨0, ?_⟩
  unfold gSN at e
  split at e
  case h_2 => exact (T.no_inv e).elim
  obtain ⟨hx, e⟩ := T.pre_inv e
  obtain ⟨rfl, rfl⟩ := T.ret_inv e
  exact run_l01Same 0 _ _
def tab_SameNumber : Fns := tabT [(32, gSB)]
theorem tabok_SameNumber : ∀ f, FnT Try.prog f (tab_SameNumber f) := (tabT_cons (k := 32) ok_Signbit tabT_nil)
theorem run_SameNumber (N : Nat) (a : Nat) (b : Nat) : run ty tab_SameNumber ann0 N Try.f20 [.fl .f32 a, .fl .f32 b] []
    = (match FloatKind.f32.format.order a a != some .eq with | true => (match FloatKind.f32.format.order a a != some .eq with | true => some (.bool (FloatKind.f32.format.order b b != some .eq), []) | false => some (.bool false, [])) | false => (match FloatKind.f32.format.order b b != some .eq with | true => (match FloatKind.f32.format.order a a != some .eq with | true => some (.bool (FloatKind.f32.format.order b b != some .eq), []) | false => some (.bool false, [])) | false => (match eqB a b with | true => (match fconv .f32 a .f64 with | some c1 => (match !(isN .f64 c1) with | true => (match fconv .f32 b .f64 with | some c2 => (match !(isN .f64 c2) with | true => some (.bool ((sbD c1) == (sbD c2)), []) | false => none) | none => none) | false => none) | none => none) | false => some (.bool false, [])))) := by
  kernel_rfl
theorem ok_SameNumber : FnT Try.prog 20 (gSN) := by
  refine fnT tabok_SameNumber Try.func20 rfl rfl ann0 fun vs h v h' e => ⟨0, ?_⟩
  unfold gSN at e
  split at e
  case h_2 => exact (T.no_inv e).elim
  rename_i a b
  obtain ⟨hx, e⟩ := T.pre_inv e
  obtain ⟨rfl, rfl⟩ := T.ret_inv e
  obtain ⟨ha, hb⟩ := of_decide_eq_true hx
  refine Eq.trans (run_SameNumber 0 a b) ?_
  rw [← same_num ha hb]
  unfold imN
  simp only [show ∀ x y, (FloatKind.f32.format.order x y != some .eq) = !eqB x y from fun _ _ => rfl, fconv_eq]
  have h1 : isN .f32 a = false → (!(isN .f64 (up a))) = true := fun h => by rw [up_num' h]; rfl
  have h2 : isN .f32 b = false → (!(isN .f64 (up b))) = true := fun h => by rw [up_num' h]; rfl
  rw [eqB_self, eqB_self (x := b)]
  cases hna : isN .f32 a with
  | true => cases isN .f32 b <;> rfl
  | false =>
    cases hnb : isN .f32 b with
    | true => rfl
    | false =>
      rw [h1 hna, h2 hnb]
      cases eqB a b <;> rfl
end Go.Proofs.Ythjncajdognojaa.Ab

namespace Go.Proofs.Ythjncajdognojaa.Ab
set_option linter.unusedVariables false
set_option linter.unusedSimpArgs false
open Go
def Bel (B : Int) (x : Nat) : Prop := ∃ s m e, FloatKind.f32.format.read x = .number s m e ∧ (m = 0 ∨ e + (m.log2 : Int) < B)
theorem Bel.mono {A B : Int} {x : Nat} (h : Bel A x) (hAB : A ≤ B) : Bel B x := by
  obtain ⟨s, m, e, h, h2⟩ := h
  exact ⟨s, m, e, h, by omega⟩
end Go.Proofs.Ythjncajdognojaa.Ab

namespace Go.Proofs.Ythjncajdognojaa.Ab
set_option linter.unusedVariables false
set_option linter.unusedSimpArgs false
open Go
def BelD (B : Int) (x : Nat) : Prop := ∃ s m e, Ieee.double.read x = .number s m e ∧ (m = 0 ∨ e + (m.log2 : Int) < B)
theorem BelD.mono {A B : Int} {x : Nat} (h : BelD A x) (hAB : A ≤ B) : BelD B x := by
  obtain ⟨s, m, e, h, h2⟩ := h
  exact ⟨s, m, e, h, by omega⟩
end Go.Proofs.Ythjncajdognojaa.Ab

namespace Go.Proofs.Ythjncajdognojaa.Ab
set_option linter.unusedVariables false
set_option linter.unusedSimpArgs false
open Go
theorem fin_le {x y : Nat} (hx : finB x = true) (hy : finB y = true) : (ltB x y || eqB x y) = !gtB x y := by
  obtain ⟨s, m, i, hs⟩ := num_of_fin hx
  obtain ⟨t, n, j, ht⟩ := num_of_fin hy
  obtain ⟨o, ho⟩ := order_some (x := x) (y := y) (by unfold isN; show (FloatKind.f32.format.read x).isNaN = false; rw [hs]; rfl) (by unfold isN; show (FloatKind.f32.format.read y).isNaN = false; rw [ht]; rfl)
  unfold ltB eqB gtB
  rw [ho]
  cases o <;> rfl
def ascB (l : List Nat) : Bool := (List.range (l.length - 1)).all fun i => gtB (l.getD (i + 1) 0) (l.getD i 0)
def vsB (l0 l1 : List Nat) : Bool := decide (l0.length < 12) && (decide (l1.length = l0.length + 1) && (l0.all finB && (l1.all finB && ascB l0)))
theorem all_getD {l : List Nat} {q : Nat → Bool} (h : l.all q = true) {i : Nat} (hi : i < l.length) : q (l.getD i 0) = true := by
  rw [List.getD_eq_getElem?_getD, List.getElem?_eq_getElem hi, Option.getD_some]
  exact List.all_eq_true.mp h _ (List.getElem_mem hi)
def gAsc : GT := fun vs h => match vs, h with
  | [.sl 0 0 n], [.at rw (.fl .f32 l)] => .ite (decide (l.length = n ∧ n < 2147483648)) (.ret (.bool (ascB l)) [.at rw (.fl .f32 l)]) .no
  | _, _ => .no
def gIs : GT := fun vs h => match vs, h with
  | [.ptr 0 0], [.at r (.as 1 [.sl 1 0 n, .sl 2 0 m]), .at r0 (.fl .f32 l0), .at r1 (.fl .f32 l1)] => .ite (decide (l0.length = n ∧ n < 2147483648 ∧ l1.length = m ∧ m < 2147483648)) (.ret (.bool (vsB l0 l1)) [.at r (.as 1 [.sl 1 0 n, .sl 2 0 m]), .at r0 (.fl .f32 l0), .at r1 (.fl .f32 l1)]) .no
  | _, _ => .no
def gVs : GT := fun vs h => match vs, h with
  | [.g [.sl 0 0 n, .sl 1 0 m]], [.at r0 (.fl .f32 l0), .at r1 (.fl .f32 l1)] => .ite (decide (l0.length = n ∧ n < 2147483648 ∧ l1.length = m ∧ m < 2147483648)) (.ret (.bool (vsB l0 l1)) [.at r0 (.fl .f32 l0), .at r1 (.fl .f32 l1)]) .no
  | _, _ => .no
def an_ascI : Ann := ⟨fun r => if r = 2 then some ([0, 3], [2]) else none, fun _ _ => .quiet⟩
def tab_ascI : Fns := tabT []
theorem tabok_ascI : ∀ f, FnT Try.prog f (tab_ascI f) := tabT_nil
def st_ascI2 (list0n : Nat) (i3 : Int) (rw0 : Bool) (l0 : List Nat) : St := ⟨(.sl 0 0 list0n :: .any :: .any :: .int .i64 i3 :: (anys 17 [])), [.at rw0 (.fl .f32 l0)]⟩
abbrev kp_ascI2 : Option (List Nat × List Nat) := some ([0, 3], [2])
noncomputable def lp_ascI2 {R : Type} (N M : Nat) (s : St) (K : X → St → Option R) : Option R := loopH 1 kp_ascI2 (fun st K => exec ty tab_ascI an_ascI N 1 (atOf [true, false, true, false, false] Try.f31) st K) M s K
noncomputable def kt_ascI2 {R : Type} (N : Nat) (K : X → St → Option R) : X → St → Option R := kBlkR 0 (kSeqR tab_ascI an_ascI N 1 (atOf [true, true] Try.f31) (K))
def en_ascI2_0 (rw0 : Bool) (l0 : List Nat) : St := ⟨(.any :: .any :: .bool false :: (anys 18 [])), [.at rw0 (.fl .f32 l0)]⟩
def en_ascI2_1 (rw0 : Bool) (l0 : List Nat) : St := ⟨(anys 21 []), [.at rw0 (.fl .f32 l0)]⟩
theorem run_ascI (N : Nat) (n : Nat) (rw : Bool) (l : List Nat) : run ty tab_ascI an_ascI N Try.f31 [.sl 0 0 n] [.at rw (.fl .f32 l)]
    = lp_ascI2 N N (st_ascI2 n 1 rw l) (kt_ascI2 N (kEnd Try.f31 1)) := by
  kernel_rfl
theorem step_ascI2 {R : Type} (N M : Nat) (K : X → St → Option R) (list0n : Nat) (i3 : Int) (rw0 : Bool) (l0 : List Nat) : lp_ascI2 N (M + 1) (st_ascI2 list0n i3 rw0 l0) K
    = (match decide ((i3 : Int) < ((list0n : Nat) : Int)) with | true => (match decide (0 ≤ (i3 : Int) ∧ (i3 : Int) < ((list0n : Nat) : Int)) with | true => (match l0[0 + (i3).toNat * 1]? with | some e1 => (match decide (0 ≤ (IntKind.i64.wrap (i3 - 1) : Int) ∧ (IntKind.i64.wrap (i3 - 1) : Int) < ((list0n : Nat) : Int)) with | true => (match l0[0 + (IntKind.i64.wrap (i3 - 1)).toNat * 1]? with | some e2 => (match !(gtB e1 e2) with | true => K .ret (en_ascI2_0 rw0 l0) | false => lp_ascI2 N M (st_ascI2 list0n (IntKind.i64.wrap (i3 + 1)) rw0 l0) K) | none => none) | false => none) | none => none) | false => none) | false => K (.exit 0) (en_ascI2_1 rw0 l0)) := by
  kernel_rfl
theorem end_ascI2_0 (N : Nat) (rw0 : Bool) (l0 : List Nat) : kt_ascI2 N (kEnd Try.f31 1) .ret (en_ascI2_0 rw0 l0)
    = some (.bool false, [.at rw0 (.fl .f32 l0)]) := by
  kernel_rfl
theorem end_ascI2_1 (N : Nat) (rw0 : Bool) (l0 : List Nat) : kt_ascI2 N (kEnd Try.f31 1) (.exit 0) (en_ascI2_1 rw0 l0)
    = some (.bool true, [.at rw0 (.fl .f32 l0)]) := by
  kernel_rfl
theorem ok_ascI : FnT Try.prog 31 gAsc := by
  refine fnT tabok_ascI Try.func31 rfl rfl an_ascI fun vs h v h' e => ?_
  unfold gAsc at e
  split at e
  case h_2 => exact (T.no_inv e).elim
  rename_i n rw l
  obtain ⟨hd, e⟩ := T.pre_inv e
  obtain ⟨rfl, rfl⟩ := T.ret_inv e
  obtain ⟨rfl, hb⟩ := of_decide_eq_true hd
  refine ⟨l.length - 1 + 1, Eq.trans (run_ascI _ _ _ _) ?_⟩
  have hs := scanR (l.length - 1) (fun i => !gtB (l.getD (i + 1) 0) (l.getD i 0)) (fun M i => lp_ascI2 (l.length - 1 + 1) M (st_ascI2 l.length (i + 1) rw l) (kt_ascI2 (l.length - 1 + 1) (kEnd Try.f31 1))) (some (.bool false, [.at rw (.fl .f32 l)])) (some (.bool true, [.at rw (.fl .f32 l)])) (fun M i hi => ?_) (fun M => ?_)
  · refine Eq.trans hs ?_
    rw [any_not]
    unfold ascB
    cases ((List.range (l.length - 1)).all fun i => gtB (l.getD (i + 1) 0) (l.getD i 0)) <;> rfl
  · have w1 : IntKind.i64.wrap (((i : Nat) : Int) + 1 - 1) = ((i : Nat) : Int) := by rw [wrap_z (by omega) (by omega)]; omega
    have w2 : IntKind.i64.wrap (((i : Nat) : Int) + 1 + 1) = ((i + 1 : Nat) : Int) + 1 := by rw [wrap_z (by omega) (by omega)]; omega
    have c1 : ((i : Nat) : Int) + 1 = ((i + 1 : Nat) : Int) := by omega
    rw [step_ascI2, w1, w2, c1, dlt (show i + 1 < l.length by omega), din (show i + 1 < l.length by omega), ix, getD_some' (show i + 1 < l.length by omega), din (show i < l.length by omega), ix, getD_some' (show i < l.length by omega)]
    try dsimp only
    rw [end_ascI2_0]
    try rfl
  · have c1 : (((l.length - 1 : Nat)) : Int) + 1 = ((l.length - 1 + 1 : Nat) : Int) := by omega
    rw [step_ascI2, c1, dge (show l.length ≤ l.length - 1 + 1 by omega), end_ascI2_1]
def tab_vsI : Fns := tabT [(30, gAllT finB), (31, gAsc)]
theorem tabok_vsI : ∀ f, FnT Try.prog f (tab_vsI f) := (tabT_cons (k := 30) ok_areFinite (tabT_cons (k := 31) ok_ascI tabT_nil))
theorem run_vsI (N : Nat) (n : Nat) (m : Nat) (r0 : Bool) (l0 : List Nat) (r1 : Bool) (l1 : List Nat) : run ty tab_vsI ann0 N Try.f18 [.g [.sl 0 0 n, .sl 1 0 m]] [.at r0 (.fl .f32 l0), .at r1 (.fl .f32 l1)]
    = (match decide ((((n : Nat) : Int) : Int) < 12) with | true => (match ((m : Nat) : Int) == (IntKind.i64.wrap (((n : Nat) : Int) + 1)) with | true => (match decide (l0.length = n ∧ n < 2147483648) with | true => (match l0.all finB with | true => (match decide (l1.length = m ∧ m < 2147483648) with | true => (match l1.all finB with | true => (match decide (l0.length = n ∧ n < 2147483648) with | true => some (.bool (ascB l0), [.at r0 (.fl .f32 l0), .at r1 (.fl .f32 l1)]) | false => none) | false => some (.bool false, [.at r0 (.fl .f32 l0), .at r1 (.fl .f32 l1)])) | false => none) | false => some (.bool false, [.at r0 (.fl .f32 l0), .at r1 (.fl .f32 l1)])) | false => none) | false => some (.bool false, [.at r0 (.fl .f32 l0), .at r1 (.fl .f32 l1)])) | false => some (.bool false, [.at r0 (.fl .f32 l0), .at r1 (.fl .f32 l1)])) := by
  kernel_rfl
theorem ok_vsI : FnT Try.prog 18 gVs := by
  refine fnT tabok_vsI Try.func18 rfl rfl ann0 fun vs h v h' e => ⟨0, ?_⟩
  unfold gVs at e
  split at e
  case h_2 => exact (T.no_inv e).elim
  rename_i n m r0 l0 r1 l1
  obtain ⟨hd, e⟩ := T.pre_inv e
  obtain ⟨rfl, rfl⟩ := T.ret_inv e
  obtain ⟨rfl, hb, rfl, hb2⟩ := of_decide_eq_true hd
  refine Eq.trans (run_vsI 0 l0.length l1.length r0 l0 r1 l1) ?_
  unfold vsB
  by_cases h12 : l0.length < 12
  case neg =>
    rw [decide_eq_false h12, decide_eq_false (show ¬ ((l0.length : Nat) : Int) < 12 by omega)]
    rfl
  rw [decide_eq_true h12, decide_eq_true (show ((l0.length : Nat) : Int) < 12 by omega)]
  have w1 : IntKind.i64.wrap (((l0.length : Nat) : Int) + 1) = ((l0.length + 1 : Nat) : Int) := by rw [wrap_z (by omega) (by omega)]; omega
  rw [w1]
  have hq : (((l1.length : Nat) : Int) == ((l0.length + 1 : Nat) : Int)) = decide (l1.length = l0.length + 1) := by
    by_cases h : l1.length = l0.length + 1
    · rw [h, decide_eq_true rfl]; simp
    · rw [decide_eq_false h]
      have : ((l1.length : Nat) : Int) ≠ ((l0.length + 1 : Nat) : Int) := by omega
      simpa using this
  rw [hq]
  by_cases hl : l1.length = l0.length + 1
  case neg =>
    rw [decide_eq_false hl]
    rfl
  rw [decide_eq_true hl]
  rw [decide_eq_true (show l0.length = l0.length ∧ l0.length < 2147483648 from ⟨rfl, hb⟩)]
  cases l0.all finB
  · rfl
  rw [decide_eq_true (show l1.length = l1.length ∧ l1.length < 2147483648 from ⟨rfl, hb2⟩)]
  cases l1.all finB
  · rfl
  rfl
def an_isS : Ann := ⟨fun r => if r = 5 then some ([0, 3, 4], [2]) else none, fun _ _ => .quiet⟩
def tab_isS : Fns := tabT [(26, gAllT finB)]
theorem tabok_isS : ∀ f, FnT Try.prog f (tab_isS f) := (tabT_cons (k := 26) ok_l02Finite tabT_nil)
def st_isS5 (n3 : Int) (i4 : Int) (rw0 : Bool) (b0_0n : Nat) (b0_1n : Nat) (rw1 : Bool) (l1 : List Nat) (rw2 : Bool) (l2 : List Nat) : St := ⟨(.ptr 0 0 :: .any :: .any :: .int .i64 n3 :: .int .i64 i4 :: (anys 54 [])), [.at rw0 (.as 1 [.sl 1 0 b0_0n, .sl 2 0 b0_1n]), .at rw1 (.fl .f32 l1), .at rw2 (.fl .f32 l2)]⟩
abbrev kp_isS5 : Option (List Nat × List Nat) := some ([0, 3, 4], [2])
noncomputable def lp_isS5 {R : Type} (N M : Nat) (s : St) (K : X → St → Option R) : Option R := loopH 3 kp_isS5 (fun st K => exec ty tab_isS an_isS N 3 (atOf [true, true, true, false, true, false, false] Try.f12) st K) M s K
noncomputable def kt_isS5 {R : Type} (N : Nat) (K : X → St → Option R) : X → St → Option R := kBlkR 0 (kSeqR tab_isS an_isS N 3 (atOf [true, true, true, true] Try.f12) (K))
def en_isS5_0 (rw0 : Bool) (b0_0n : Nat) (b0_1n : Nat) (rw1 : Bool) (l1 : List Nat) (rw2 : Bool) (l2 : List Nat) : St := ⟨(.any :: .any :: .bool false :: (anys 56 [])), [.at rw0 (.as 1 [.sl 1 0 b0_0n, .sl 2 0 b0_1n]), .at rw1 (.fl .f32 l1), .at rw2 (.fl .f32 l2)]⟩
def en_isS5_1 (rw0 : Bool) (b0_0n : Nat) (b0_1n : Nat) (rw1 : Bool) (l1 : List Nat) (rw2 : Bool) (l2 : List Nat) : St := ⟨(anys 59 []), [.at rw0 (.as 1 [.sl 1 0 b0_0n, .sl 2 0 b0_1n]), .at rw1 (.fl .f32 l1), .at rw2 (.fl .f32 l2)]⟩
theorem run_isS (N : Nat) (r : Bool) (n : Nat) (m : Nat) (r0 : Bool) (l0 : List Nat) (r1 : Bool) (l1 : List Nat) : run ty tab_isS an_isS N Try.f12 [.ptr 0 0] [.at r (.as 1 [.sl 1 0 n, .sl 2 0 m]), .at r0 (.fl .f32 l0), .at r1 (.fl .f32 l1)]
    = (match decide ((((n : Nat) : Int) : Int) ≥ 12) with | true => some (.bool false, [.at r (.as 1 [.sl 1 0 n, .sl 2 0 m]), .at r0 (.fl .f32 l0), .at r1 (.fl .f32 l1)]) | false => (match ((m : Nat) : Int) != (IntKind.i64.wrap (((n : Nat) : Int) + 1)) with | true => some (.bool false, [.at r (.as 1 [.sl 1 0 n, .sl 2 0 m]), .at r0 (.fl .f32 l0), .at r1 (.fl .f32 l1)]) | false => (match decide (l0.length = n ∧ n < 2147483648) with | true => (match !(l0.all finB) with | true => some (.bool false, [.at r (.as 1 [.sl 1 0 n, .sl 2 0 m]), .at r0 (.fl .f32 l0), .at r1 (.fl .f32 l1)]) | false => (match decide (l1.length = m ∧ m < 2147483648) with | true => (match !(l1.all finB) with | true => some (.bool false, [.at r (.as 1 [.sl 1 0 n, .sl 2 0 m]), .at r0 (.fl .f32 l0), .at r1 (.fl .f32 l1)]) | false => lp_isS5 N N (st_isS5 ((n : Nat) : Int) 1 r n m r0 l0 r1 l1) (kt_isS5 N (kEnd Try.f12 3))) | false => none)) | false => none))) := by
  kernel_rfl
theorem step_isS5 {R : Type} (N M : Nat) (K : X → St → Option R) (n3 : Int) (i4 : Int) (rw0 : Bool) (b0_0n : Nat) (b0_1n : Nat) (rw1 : Bool) (l1 : List Nat) (rw2 : Bool) (l2 : List Nat) : lp_isS5 N (M + 1) (st_isS5 n3 i4 rw0 b0_0n b0_1n rw1 l1 rw2 l2) K
    = (match decide ((i4 : Int) < n3) with | true => (match decide (0 ≤ (i4 : Int) ∧ (i4 : Int) < ((b0_0n : Nat) : Int)) with | true => (match l1[0 + (i4).toNat * 1]? with | some e1 => (match decide (0 ≤ (IntKind.i64.wrap (i4 - 1) : Int) ∧ (IntKind.i64.wrap (i4 - 1) : Int) < ((b0_0n : Nat) : Int)) with | true => (match l1[0 + (IntKind.i64.wrap (i4 - 1)).toNat * 1]? with | some e2 => (match ltB e1 e2 || eqB e1 e2 with | true => K .ret (en_isS5_0 rw0 b0_0n b0_1n rw1 l1 rw2 l2) | false => lp_isS5 N M (st_isS5 n3 (IntKind.i64.wrap (i4 + 1)) rw0 b0_0n b0_1n rw1 l1 rw2 l2) K) | none => none) | false => none) | none => none) | false => none) | false => K (.exit 0) (en_isS5_1 rw0 b0_0n b0_1n rw1 l1 rw2 l2)) := by
  kernel_rfl
theorem end_isS5_0 (N : Nat) (rw0 : Bool) (b0_0n : Nat) (b0_1n : Nat) (rw1 : Bool) (l1 : List Nat) (rw2 : Bool) (l2 : List Nat) : kt_isS5 N (kEnd Try.f12 3) .ret (en_isS5_0 rw0 b0_0n b0_1n rw1 l1 rw2 l2)
    = some (.bool false, [.at rw0 (.as 1 [.sl 1 0 b0_0n, .sl 2 0 b0_1n]), .at rw1 (.fl .f32 l1), .at rw2 (.fl .f32 l2)]) := by
  kernel_rfl
theorem end_isS5_1 (N : Nat) (rw0 : Bool) (b0_0n : Nat) (b0_1n : Nat) (rw1 : Bool) (l1 : List Nat) (rw2 : Bool) (l2 : List Nat) : kt_isS5 N (kEnd Try.f12 3) (.exit 0) (en_isS5_1 rw0 b0_0n b0_1n rw1 l1 rw2 l2)
    = some (.bool true, [.at rw0 (.as 1 [.sl 1 0 b0_0n, .sl 2 0 b0_1n]), .at rw1 (.fl .f32 l1), .at rw2 (.fl .f32 l2)]) := by
  kernel_rfl
theorem ok_isS : FnT Try.prog 12 gIs := by
  refine fnT tabok_isS Try.func12 rfl rfl an_isS fun vs h v h' e => ?_
  unfold gIs at e
  split at e
  case h_2 => exact (T.no_inv e).elim
  rename_i r n m r0 l0 r1 l1
  obtain ⟨hd, e⟩ := T.pre_inv e
  obtain ⟨rfl, rfl⟩ := T.ret_inv e
  obtain ⟨rfl, hb, rfl, hb2⟩ := of_decide_eq_true hd
  refine ⟨l0.length - 1 + 1, Eq.trans (run_isS _ r l0.length l1.length r0 l0 r1 l1) ?_⟩
  unfold vsB
  by_cases h12 : l0.length < 12
  case neg =>
    rw [decide_eq_false h12, decide_eq_true (show ((l0.length : Nat) : Int) ≥ 12 by omega)]
    rfl
  rw [decide_eq_true h12, decide_eq_false (show ¬ ((l0.length : Nat) : Int) ≥ 12 by omega)]
  have w1 : IntKind.i64.wrap (((l0.length : Nat) : Int) + 1) = ((l0.length + 1 : Nat) : Int) := by rw [wrap_z (by omega) (by omega)]; omega
  rw [w1, neq_dec]
  by_cases hl : l1.length = l0.length + 1
  case neg =>
    rw [decide_eq_false hl, decide_eq_false (show ¬ ((l1.length : Nat) : Int) = ((l0.length + 1 : Nat) : Int) by omega)]
    rfl
  rw [decide_eq_true hl, decide_eq_true (show ((l1.length : Nat) : Int) = ((l0.length + 1 : Nat) : Int) by omega)]
  rw [decide_eq_true (show l0.length = l0.length ∧ l0.length < 2147483648 from ⟨rfl, hb⟩)]
  cases hf : l0.all finB
  · rfl
  rw [decide_eq_true (show l1.length = l1.length ∧ l1.length < 2147483648 from ⟨rfl, hb2⟩)]
  cases hf2 : l1.all finB
  · rfl
  have hs := scanR (l0.length - 1) (fun i => !gtB (l0.getD (i + 1) 0) (l0.getD i 0)) (fun M i => lp_isS5 (l0.length - 1 + 1) M (st_isS5 ((l0.length : Nat) : Int) (i + 1) r l0.length l1.length r0 l0 r1 l1) (kt_isS5 (l0.length - 1 + 1) (kEnd Try.f12 3))) (some (.bool false, [.at r (.as 1 [.sl 1 0 l0.length, .sl 2 0 l1.length]), .at r0 (.fl .f32 l0), .at r1 (.fl .f32 l1)])) (some (.bool true, [.at r (.as 1 [.sl 1 0 l0.length, .sl 2 0 l1.length]), .at r0 (.fl .f32 l0), .at r1 (.fl .f32 l1)])) (fun M i hi => ?_) (fun M => ?_)
  · refine Eq.trans hs ?_
    rw [any_not]
    unfold ascB
    cases ((List.range (l0.length - 1)).all fun i => gtB (l0.getD (i + 1) 0) (l0.getD i 0)) <;> rfl
  · have w1 : IntKind.i64.wrap (((i : Nat) : Int) + 1 - 1) = ((i : Nat) : Int) := by rw [wrap_z (by omega) (by omega)]; omega
    have w2 : IntKind.i64.wrap (((i : Nat) : Int) + 1 + 1) = ((i + 1 : Nat) : Int) + 1 := by rw [wrap_z (by omega) (by omega)]; omega
    have c1 : ((i : Nat) : Int) + 1 = ((i + 1 : Nat) : Int) := by omega
    rw [step_isS5, w1, w2, c1, dlt (show i + 1 < l0.length by omega), din (show i + 1 < l0.length by omega), ix, getD_some' (show i + 1 < l0.length by omega), din (show i < l0.length by omega), ix, getD_some' (show i < l0.length by omega)]
    try dsimp only
    rw [fin_le (all_getD hf (show i + 1 < l0.length by omega)) (all_getD hf (show i < l0.length by omega)), end_isS5_0]
    try rfl
  · have c1 : (((l0.length - 1 : Nat)) : Int) + 1 = ((l0.length - 1 + 1 : Nat) : Int) := by omega
    rw [step_isS5, c1, dge (show l0.length ≤ l0.length - 1 + 1 by omega), end_isS5_1]
end Go.Proofs.Ythjncajdognojaa.Ab
