/- The exponential of what is not above nought lies from 0 to 1. Only lemmas. -/
import Derived.Test.YtlopdogjdfeikaaBnd2
namespace Go.Proofs.Ytlopdogjdfeikaa.Ab
set_option linter.unusedVariables false
set_option linter.unusedSimpArgs false
open Go

/-- 'm * 2 ^ p' is at most 1. -/
def LE1 (m : Nat) (p : Int) : Prop := m = 0 ∨ p ≤ 0 ∧ m ≤ 2 ^ (-p).toNat
theorem LE1.log {m : Nat} {p : Int} (h : LE1 m p) : m = 0 ∨ p + (m.log2 : Int) < 0 ∨ (p + (m.log2 : Int) = 0 ∧ m = 2 ^ m.log2) := by
  rcases h with h | ⟨h1, h2⟩
  · exact .inl h
  by_cases hm : m = 0
  · exact .inl hm
  right
  have h3 : 2 ^ m.log2 ≤ m := Nat.log2_self_le hm
  have h4 : m.log2 ≤ (-p).toNat := (Nat.pow_le_pow_iff_right (by decide)).1 (Nat.le_trans h3 h2)
  by_cases h5 : m.log2 = (-p).toNat
  · right
    refine ⟨by omega, ?_⟩
    rw [← h5] at h2
    omega
  · left
    omega
theorem near1 (neg : Bool) {m : Nat} {p : Int} (h : LE1 m p) : ∃ r, Ieee.double.nearest neg m p = Ieee.double.word neg r ∧ r ≤ 1023 * 4503599627370496 := by
  rcases h.log with h | h | ⟨h1, h2⟩
  · exact near_le Ieee.double neg m p 0 (by decide) (.inl h)
  · exact near_le Ieee.double neg m p 0 (by decide) (.inr h)
  · unfold Ieee.Format.nearest
    by_cases hm : m = 0
    · exact near_le Ieee.double neg m p 0 (by decide) (.inl hm)
    rw [if_neg hm]
    refine ⟨_, rfl, Nat.le_trans (Nat.min_le_left _ _) ?_⟩
    have c2 : Ieee.double.binade = 4503599627370496 := by decide
    have c4 : Ieee.double.leastPlace = -1074 := by decide
    have c5 : Ieee.double.fractionBits = 52 := by decide
    rw [c2, c4, c5]
    generalize hL : m.log2 = L at *
    have hmax : max (p + (L : Int) - (52 : Nat)) (-1074) = -52 := by omega
    rw [hmax, show ((-52 : Int) - (-1074)).toNat = 1022 by decide]
    have key : Ieee.Toward.even.cut neg (m <<< (p - (-52)).toNat) ((-52) - p).toNat ≤ 4503599627370496 := by
      by_cases hp : L ≤ 52
      · rw [show ((-52 : Int) - p).toNat = 0 by omega, cut_zero, Nat.shiftLeft_eq, h2, ← Nat.pow_add, show L + (p - (-52)).toNat = 52 by omega]
        decide
      · rw [show (p - (-52)).toNat = 0 by omega, Nat.shiftLeft_zero]
        have hd : ((-52 : Int) - p).toNat = L - 52 := by omega
        rw [hd, h2]
        unfold Ieee.Toward.cut
        have hlog : (2 ^ L).log2 = L := Nat.log2_two_pow
        rw [hlog, Nat.min_eq_left (by omega), Nat.one_shiftLeft]
        have hdiv : 2 ^ L / 2 ^ (L - 52) = 4503599627370496 := by
          rw [Nat.pow_div (by omega) (by decide), show L - (L - 52) = 52 by omega]
        have hmod : 2 ^ L % 2 ^ (L - 52) = 0 := Nat.mod_eq_zero_of_dvd (Nat.pow_dvd_pow 2 (by omega))
        dsimp only
        rw [hdiv, hmod]
        have hpos : 0 < 2 ^ (L - 52) := Nat.pow_pos (by decide)
        have e1 : decide (2 ^ (L - 52) < 2 * 0) = false := decide_eq_false (by omega)
        have e2 : (2 ^ (L - 52) == 2 * 0) = false := by simp
        simp [e1, e2]
    omega
theorem read1 (neg : Bool) {r : Nat} (hr : r ≤ 1023 * 4503599627370496) : ∃ m e, Ieee.double.read (Ieee.double.word neg r) = .number neg m e ∧ LE1 m e ∧ (r = 0 → m = 0) ∧ -1074 ≤ e := by
  unfold Ieee.Format.read Ieee.Format.word
  have c1 : Ieee.double.signWeight = 9223372036854775808 := by decide
  have c2 : Ieee.double.binade = 4503599627370496 := by decide
  have c3 : Ieee.double.infRung = 9218868437227405312 := by decide
  have c4 : Ieee.double.leastPlace = -1074 := by decide
  simp only [c1, c2, c3, c4]
  have hm : (if neg = true then 9223372036854775808 + r else r) % 9223372036854775808 = r := by split <;> omega
  have hs : ((if neg = true then 9223372036854775808 + r else r) / 9223372036854775808 % 2 == 1) = neg := by
    cases neg
    · rw [if_neg (by decide), Nat.div_eq_of_lt (by omega)]; rfl
    · rw [if_pos rfl, Nat.add_div_left _ (by decide), Nat.div_eq_of_lt (by omega)]; rfl
  rw [hm, hs]
  split
  · rename_i h1
    refine ⟨_, _, rfl, .inr ⟨by decide, ?_⟩, fun h => h, by decide⟩
    exact Nat.le_trans (Nat.le_of_lt h1) (by rw [show (4503599627370496 : Nat) = 2 ^ 52 by decide]; exact Nat.pow_le_pow_right (by decide) (by decide))
  · rename_i h1
    rw [if_pos (by omega)]
    refine ⟨_, _, rfl, .inr ⟨by omega, ?_⟩, fun h => by omega, by omega⟩
    by_cases hq : r / 4503599627370496 = 1023
    · have hmod : r % 4503599627370496 = 0 := by omega
      rw [hq, hmod]
      decide
    · have h2 : r % 4503599627370496 < 4503599627370496 := Nat.mod_lt _ (by decide)
      have h3 : 53 ≤ (-(-1074 + ((r / 4503599627370496 - 1 : Nat) : Int))).toNat := by omega
      refine Nat.le_trans (show 4503599627370496 + r % 4503599627370496 ≤ 2 ^ 53 by omega) (Nat.pow_le_pow_right (by decide) h3)

/-- From 0 to 1; from -1 to 0. -/
def PU (y : Nat) : Prop := ∃ m e, Ieee.double.read y = .number false m e ∧ LE1 m e
def NU (y : Nat) : Prop := ∃ s m e, Ieee.double.read y = .number s m e ∧ LE1 m e ∧ (s = true ∨ m = 0) ∧ -1074 ≤ e
theorem LE1.mul {m n : Nat} {i j : Int} (h : LE1 m i) (k : LE1 n j) : LE1 (m * n) (i + j) := by
  rcases h with rfl | ⟨h1, h2⟩
  · exact .inl (by simp)
  rcases k with rfl | ⟨k1, k2⟩
  · exact .inl (by simp)
  right
  refine ⟨by omega, ?_⟩
  rw [show (-(i + j)).toNat = (-i).toNat + (-j).toNat by omega, Nat.pow_add]
  exact Nat.mul_le_mul h2 k2
theorem mul_num {x y : Nat} {s t : Bool} {m n : Nat} {i j : Int} (hx : Ieee.double.read x = .number s m i) (hy : Ieee.double.read y = .number t n j) : fop .mul .f64 x y = Ieee.double.nearest (s ^^ t) (m * n) (i + j) := by
  unfold fop floatBits
  show (Ieee.double.mul x y).getD _ = _
  unfold Ieee.Format.mul
  rw [hx, hy]
  rfl
theorem PU.mul {x y : Nat} (hx : PU x) (hy : PU y) : PU (fop .mul .f64 x y) := by
  obtain ⟨m, i, h1, h2⟩ := hx
  obtain ⟨n, j, k1, k2⟩ := hy
  rw [mul_num h1 k1]
  obtain ⟨r, h3, h4⟩ := near1 (false ^^ false) (h2.mul k2)
  rw [h3]
  obtain ⟨m', e', h5, h6, _⟩ := read1 (false ^^ false) h4
  exact ⟨m', e', h5, h6⟩
theorem nu_of {s : Bool} {m : Nat} {p : Int} (h : LE1 m p) (hs : s = true ∨ m = 0) : NU (Ieee.double.nearest s m p) := by
  by_cases hm : m = 0
  · subst hm
    have hz : Ieee.double.nearest s 0 p = Ieee.double.word s 0 := by unfold Ieee.Format.nearest; rw [if_pos rfl]
    rw [hz]
    obtain ⟨m', e', h5, h6, h7, h8⟩ := read1 s (show 0 ≤ 1023 * 4503599627370496 by decide)
    exact ⟨s, m', e', h5, h6, .inr (h7 rfl), h8⟩
  · obtain ⟨r, h3, h4⟩ := near1 s h
    rw [h3]
    obtain ⟨m', e', h5, h6, _, h8⟩ := read1 s h4
    exact ⟨s, m', e', h5, h6, .inl (hs.resolve_right hm), h8⟩
theorem NU.mul {x y : Nat} (hx : NU x) (hy : PU y) : NU (fop .mul .f64 x y) := by
  obtain ⟨s, m, i, h1, h2, h3, _⟩ := hx
  obtain ⟨n, j, k1, k2⟩ := hy
  rw [mul_num h1 k1]
  refine nu_of (h2.mul k2) ?_
  rcases h3 with rfl | rfl
  · exact .inl rfl
  · exact .inr (by simp)
theorem quo_le (D n E : Nat) (hn : 0 < n) (h : D ≤ n * 2 ^ E) : 2 * (D / n) + (D % n != 0).toNat ≤ 2 ^ (E + 1) := by
  rw [Nat.pow_succ]
  by_cases hr : D % n = 0
  · rw [hr]
    have : D / n ≤ 2 ^ E := by
      rw [Nat.div_le_iff_le_mul hn]
      rw [Nat.mul_comm] at h
      omega
    simp
    omega
  · have hlt : D < n * 2 ^ E := by
      refine Nat.lt_of_le_of_ne h fun he => hr ?_
      rw [he]
      exact Nat.mul_mod_right _ _
    have : D / n < 2 ^ E := by rw [Nat.div_lt_iff_lt_mul hn, Nat.mul_comm]; exact hlt
    have hb : (D % n != 0).toNat ≤ 1 := by cases (D % n != 0) <;> decide
    omega
/-- A quotient whose dividend is not above its divisor. -/
theorem NU.quo {x y : Nat} {s : Bool} {m n : Nat} {i j : Int} (hx : Ieee.double.read x = .number s m i) (hy : Ieee.double.read y = .number false n j) (hn : 0 < n) (hs : s = true ∨ m = 0)
    (h : ∃ a b : Nat, m * 2 ^ a ≤ n * 2 ^ b ∧ (a : Int) - i = (b : Int) - j) : NU (fop .quo .f64 x y) := by
  obtain ⟨a, b, h1, h2⟩ := h
  have e : fop .quo .f64 x y = Ieee.double.nearest (s ^^ false) (2 * ((m <<< (54 + n.log2 - m.log2)) / n) + ((m <<< (54 + n.log2 - m.log2)) % n != 0).toNat) (i - j - ((54 + n.log2 - m.log2 : Nat) : Int) - 1) := by
    unfold fop floatBits
    show (Ieee.double.div x y).getD _ = _
    unfold Ieee.Format.div
    rw [hx, hy]
    unfold Ieee.Datum.quotient
    dsimp only
    rw [if_neg (by omega)]
    rfl
  rw [e]
  by_cases hm : m = 0
  · subst hm
    have : 2 * ((0 <<< (54 + n.log2 - (0 : Nat).log2)) / n) + ((0 <<< (54 + n.log2 - (0 : Nat).log2)) % n != 0).toNat = 0 := by simp
    rw [this]
    exact nu_of (.inl rfl) (.inr rfl)
  have hs : s = true := hs.resolve_right hm
  subst hs
  generalize hmore : 54 + n.log2 - m.log2 = more
  have hE : 0 ≤ (more : Int) + j - i := by
    have h3 : 2 ^ m.log2 ≤ m := Nat.log2_self_le hm
    have h4 : n < 2 ^ (n.log2 + 1) := Nat.lt_log2_self
    have h5 : 2 ^ (m.log2 + a) < 2 ^ (n.log2 + 1 + b) := by
      rw [Nat.pow_add, Nat.pow_add]
      exact Nat.lt_of_le_of_lt (Nat.mul_le_mul_right _ h3) (Nat.lt_of_le_of_lt h1 (Nat.mul_lt_mul_of_pos_right h4 (Nat.pow_pos (by decide))))
    have h6 := (Nat.pow_lt_pow_iff_right (by decide)).1 h5
    omega
  have hD : m <<< more ≤ n * 2 ^ ((more : Int) + j - i).toNat := by
    rw [Nat.shiftLeft_eq]
    have hp : 0 < 2 ^ a := Nat.pow_pos (by decide)
    refine Nat.le_of_mul_le_mul_right (?_ : m * 2 ^ more * 2 ^ a ≤ n * 2 ^ ((more : Int) + j - i).toNat * 2 ^ a) hp
    calc m * 2 ^ more * 2 ^ a = m * 2 ^ a * 2 ^ more := by rw [Nat.mul_right_comm]
      _ ≤ n * 2 ^ b * 2 ^ more := Nat.mul_le_mul_right _ h1
      _ = n * (2 ^ (b + more)) := by rw [Nat.mul_assoc, Nat.pow_add]
      _ = n * (2 ^ (((more : Int) + j - i).toNat + a)) := by rw [show b + more = ((more : Int) + j - i).toNat + a by omega]
      _ = n * 2 ^ ((more : Int) + j - i).toNat * 2 ^ a := by rw [Nat.pow_add, Nat.mul_assoc]
  refine nu_of (.inr ⟨by omega, ?_⟩) (.inl rfl)
  rw [show (-(i - j - (more : Int) - 1)).toNat = ((more : Int) + j - i).toNat + 1 by omega]
  exact quo_le _ _ _ hn hD
/-- 1 and what is from -1 to 0. -/
theorem NU.one {x : Nat} (hx : NU x) : PU (fop .add .f64 4607182418800017408 x) := by
  obtain ⟨s, n, j, h1, h2, h3, hj⟩ := hx
  have hone : Ieee.double.read 4607182418800017408 = .number false 4503599627370496 (-52) := by decide +kernel
  have e : fop .add .f64 4607182418800017408 x = ((((Ieee.Datum.number false 4503599627370496 (-52)).sum (.number s n j))).map Ieee.double.write).getD (qnan .f64) := by
    unfold fop floatBits
    show (Ieee.double.add 4607182418800017408 x).getD _ = _
    unfold Ieee.Format.add
    rw [hone, h1]
  rw [e]
  unfold Ieee.Datum.sum
  dsimp only
  generalize hb : min (-52 : Int) j = base
  have hbase : base ≤ -52 := by omega
  have t1 : Ieee.signed false 4503599627370496 (-52 - base).toNat = ((2 ^ (-base).toNat : Nat) : Int) := by
    unfold Ieee.signed
    rw [if_neg (by decide), Nat.shiftLeft_eq, show (4503599627370496 : Nat) = 2 ^ 52 by decide, ← Nat.pow_add, show 52 + (-52 - base).toNat = (-base).toNat by omega]
  have t2 : ∃ c : Nat, Ieee.signed s n (j - base).toNat = -(c : Int) ∧ c ≤ 2 ^ (-base).toNat := by
    rcases h2 with rfl | ⟨k1, k2⟩
    · exact ⟨0, by unfold Ieee.signed; cases s <;> simp, Nat.zero_le _⟩
    · rcases h3 with rfl | rfl
      · refine ⟨n <<< (j - base).toNat, by unfold Ieee.signed; rw [if_pos rfl], ?_⟩
        rw [Nat.shiftLeft_eq, show (-base).toNat = (-j).toNat + (j - base).toNat by omega, Nat.pow_add]
        exact Nat.mul_le_mul_right _ k2
      · exact ⟨0, by unfold Ieee.signed; cases s <;> simp, Nat.zero_le _⟩
  obtain ⟨c, t2, t3⟩ := t2
  rw [t1, t2]
  generalize hT : 2 ^ (-base).toNat = T at t3
  have hneg : (if ((T : Nat) : Int) + -(c : Int) = 0 then (false && s) else decide (((T : Nat) : Int) + -(c : Int) < 0)) = false := by
    split
    · rfl
    · exact decide_eq_false (by omega)
  rw [hneg]
  show PU (Ieee.double.nearest false (((T : Nat) : Int) + -(c : Int)).natAbs base)
  rw [show (((T : Nat) : Int) + -(c : Int)).natAbs = T - c by omega]
  have hle : LE1 (T - c) base := .inr ⟨by omega, by rw [hT]; omega⟩
  obtain ⟨r, h3, h4⟩ := near1 false hle
  rw [h3]
  obtain ⟨m', e', h5, h6, _⟩ := read1 false h4
  exact ⟨m', e', h5, h6⟩

/-! ### The exponential -/
def eS (t p k : Nat) : Nat := fop .add .f64 4607182418800017408 (fop .quo .f64 (fop .mul .f64 t p) k)
def eP (t : Nat) : Nat := eS t (eS t (eS t (eS t (eS t (eS t (eS t (eS t (eS t (eS t (eS t (eS t 4607182418800017408 4622945017495814144) 4622382067542392832) 4621819117588971520) 4621256167635550208) 4620693217682128896) 4619567317775286272) 4618441417868443648) 4617315517961601024) 4616189618054758400) 4613937818241073152) 4611686018427387904) 4607182418800017408
def eQ (p : Nat) : Nat := fop .mul .f64 p p
def expV (x : Nat) : Nat := eQ (eQ (eQ (eQ (eQ (eQ (eQ (eQ (eP (fop .quo .f64 x 4643211215818981376)))))))))
def expD (x : Nat) : Nat := cond (gtD x 4641240890982006784) 9218868437227405312 (cond (ltD x 13864612927836782592) 0 (expV x))
theorem eS_pu {t p k n : Nat} {j : Int} (ht : NU t) (hp : PU p) (hk : Ieee.double.read k = .number false n j) (hn : ∃ b : Nat, (b : Int) = -j ∧ 2 ^ b ≤ n) : PU (eS t p k) := by
  obtain ⟨b, hb, hn⟩ := hn
  have hpos : 0 < 2 ^ b := Nat.pow_pos (by decide)
  obtain ⟨s, m, i, h1, h2, h3, _⟩ := ht.mul hp
  refine NU.one (NU.quo h1 hk (by omega) h3 ?_)
  rcases h2 with rfl | ⟨k1, k2⟩
  · by_cases hi : 0 ≤ i
    · exact ⟨i.toNat + b, 0 + 0, by simp, by omega⟩
    · exact ⟨b, (-i).toNat, by simp, by omega⟩
  · refine ⟨b, (-i).toNat, ?_, by omega⟩
    rw [Nat.mul_comm n]
    exact Nat.mul_le_mul k2 hn
theorem eP_pu {t : Nat} (ht : NU t) : PU (eP t) := by
  have one : PU 4607182418800017408 := ⟨4503599627370496, -52, by decide +kernel, .inr ⟨by decide, by decide⟩⟩
  unfold eP
  refine eS_pu (n := 4503599627370496) (j := -52) ht ?_ (by decide +kernel) ⟨52, by decide, by decide⟩
  refine eS_pu (n := 4503599627370496) (j := -51) ht ?_ (by decide +kernel) ⟨51, by decide, by decide⟩
  refine eS_pu (n := 6755399441055744) (j := -51) ht ?_ (by decide +kernel) ⟨51, by decide, by decide⟩
  refine eS_pu (n := 4503599627370496) (j := -50) ht ?_ (by decide +kernel) ⟨50, by decide, by decide⟩
  refine eS_pu (n := 5629499534213120) (j := -50) ht ?_ (by decide +kernel) ⟨50, by decide, by decide⟩
  refine eS_pu (n := 6755399441055744) (j := -50) ht ?_ (by decide +kernel) ⟨50, by decide, by decide⟩
  refine eS_pu (n := 7881299347898368) (j := -50) ht ?_ (by decide +kernel) ⟨50, by decide, by decide⟩
  refine eS_pu (n := 4503599627370496) (j := -49) ht ?_ (by decide +kernel) ⟨49, by decide, by decide⟩
  refine eS_pu (n := 5066549580791808) (j := -49) ht ?_ (by decide +kernel) ⟨49, by decide, by decide⟩
  refine eS_pu (n := 5629499534213120) (j := -49) ht ?_ (by decide +kernel) ⟨49, by decide, by decide⟩
  refine eS_pu (n := 6192449487634432) (j := -49) ht ?_ (by decide +kernel) ⟨49, by decide, by decide⟩
  exact eS_pu (n := 6755399441055744) (j := -49) ht one (by decide +kernel) ⟨49, by decide, by decide⟩
theorem eQ_pu {p : Nat} (h : PU p) : PU (eQ p) := h.mul h
theorem pu_conv {y : Nat} (h : PU y) : ∃ r, fconv .f64 y .f32 = some r := by
  obtain ⟨m, e, h1, h2⟩ := h
  refine fconv_small (s := false) (m := m) (e := e) h1 ?_
  rcases h2.log with h | h | ⟨h, _⟩
  · exact .inl h
  · exact .inr (by omega)
  · exact .inr (by omega)
/-- Not above nought. -/
def Leq0 (k : FloatKind) (x : Nat) : Prop := (∀ s f, k.format.read x ≠ .nan s f) → (k.format.read x = .infinity true) ∨ ∃ s m e, k.format.read x = .number s m e ∧ (s = true ∨ m = 0)
theorem read_gen (f : FloatKind) (x : Nat) (s : Bool) (m : Nat) (e : Int) (h : f.format.read x = .number s m e) : f.format.leastPlace ≤ e := by
  unfold Ieee.Format.read at h
  dsimp only at h
  split at h
  · cases h; exact Int.le_refl _
  · split at h
    · cases h; omega
    · split at h <;> cases h
theorem exp_conv {x : Nat} (h : Leq0 .f64 x) : ∃ r, fconv .f64 (expD x) .f32 = some r := by
  unfold expD
  cases hg : gtD x 4641240890982006784 with
  | true => show ∃ r, fconv .f64 9218868437227405312 .f32 = some r; exact Option.isSome_iff_exists.1 (by decide +kernel)
  | false =>
    cases hl : ltD x 13864612927836782592 with
    | true => show ∃ r, fconv .f64 0 .f32 = some r; exact Option.isSome_iff_exists.1 (by decide +kernel)
    | false =>
      show ∃ r, fconv .f64 (expV x) .f32 = some r
      cases hr : Ieee.double.read x with
      | nan s f =>
        have hx : isN .f64 x = true := by
          show (Ieee.double.read x).isNaN = true
          rw [hr]; rfl
        have hq : ∀ op y, isArith op = true → fop op .f64 x y = qnan .f64 := by
          intro op y ho
          unfold fop
          cases e : floatBits op .f64 x y with
          | none => rfl
          | some r => have := (floatBits_some e).1; rw [hx] at this; cases this
        unfold expV
        rw [hq .quo _ rfl]
        exact Option.isSome_iff_exists.1 (by decide +kernel)
      | infinity s =>
        rcases h (fun s f e => by have e : Ieee.double.read x = _ := e; rw [hr] at e; cases e) with h | ⟨s', m, e, h, _⟩
        · have h : Ieee.double.read x = _ := h
          rw [hr] at h; cases h
          exfalso
          unfold ltD Ieee.Format.order at hl
          have hl : ((Ieee.double.read x).order (Ieee.double.read 13864612927836782592) == some .lt) = false := hl
          rw [hr] at hl
          exact absurd hl (by decide +kernel)
        · have h : Ieee.double.read x = _ := h
          rw [hr] at h; cases h
      | number s m e =>
        rcases h (fun s f e => by have e : Ieee.double.read x = _ := e; rw [hr] at e; cases e) with h | ⟨s', m', e', h, hs⟩
        · have h : Ieee.double.read x = _ := h
          rw [hr] at h; cases h
        · have h : Ieee.double.read x = _ := h
          rw [hr] at h
          cases h
          have he : -1074 ≤ e := read_gen .f64 x s m e hr
          have hc : Ieee.double.read 4643211215818981376 = .number false 4503599627370496 (-44) := by decide +kernel
          have h200 : Ieee.double.read 13864612927836782592 = .number true 7036874417766400 (-45) := by decide +kernel
          have hnu : NU (fop .quo .f64 x 4643211215818981376) := by
            refine NU.quo hr hc (by decide) hs ?_
            by_cases hm : m = 0
            · subst hm
              by_cases hi : 0 ≤ e
              · exact ⟨e.toNat + 44, 0, by simp, by omega⟩
              · exact ⟨44, (-e).toNat, by simp, by omega⟩
            have hs : s = true := hs.resolve_right hm
            subst hs
            unfold ltD Ieee.Format.order at hl
            have hl : ((Ieee.double.read x).order (Ieee.double.read 13864612927836782592) == some .lt) = false := hl
            rw [hr, h200] at hl
            unfold Ieee.Datum.order at hl
            dsimp only at hl
            refine ⟨(e - min e (-45)).toNat, (-45 - min e (-45)).toNat + 1, ?_, by omega⟩
            have t : ¬ (Ieee.signed true m (e - min e (-45)).toNat < Ieee.signed true 7036874417766400 (-45 - min e (-45)).toNat) := by
              intro hlt
              have hcmp : compare (Ieee.signed true m (e - min e (-45)).toNat) (Ieee.signed true 7036874417766400 (-45 - min e (-45)).toNat) = .lt := Int.compare_eq_lt.2 hlt
              rw [hcmp] at hl
              exact absurd hl (by decide)
            unfold Ieee.signed at t
            rw [if_pos rfl, if_pos rfl, Nat.shiftLeft_eq, Nat.shiftLeft_eq] at t
            rw [Nat.pow_succ]
            have t2 : m * 2 ^ (e - min e (-45)).toNat ≤ 7036874417766400 * 2 ^ (-45 - min e (-45)).toNat := by omega
            refine Nat.le_trans t2 ?_
            generalize 2 ^ (-45 - min e (-45)).toNat = T
            omega
          unfold expV
          exact pu_conv (eQ_pu (eQ_pu (eQ_pu (eQ_pu (eQ_pu (eQ_pu (eQ_pu (eQ_pu (eP_pu hnu)))))))))
end Go.Proofs.Ytlopdogjdfeikaa.Ab
