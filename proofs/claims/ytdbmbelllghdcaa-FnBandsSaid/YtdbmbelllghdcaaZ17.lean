/- What the proof names: lemmas and words, merged by a program from its parts. No condition. -/
import Derived.Test.YtdbmbelllghdcaaZ10
import Derived.Test.YtdbmbelllghdcaaZ11
import Derived.Test.YtdbmbelllghdcaaZ12
import Derived.Test.YtdbmbelllghdcaaZ13
import Derived.Test.YtdbmbelllghdcaaZ14
import Derived.Test.YtdbmbelllghdcaaZ15
import Derived.Test.YtdbmbelllghdcaaZ16
import Derived.Test.YtdbmbelllghdcaaZ4
import Derived.Test.YtdbmbelllghdcaaZ6
import Derived.Test.YtdbmbelllghdcaaZ8
namespace Go.Proofs.Ytdbmbelllghdcaa.Ab
set_option linter.unusedVariables false
set_option linter.unusedSimpArgs false
open Go
theorem r_all {j w : Nat} (hj : j < 32) (hw : w < 6) : chkR j w = true := by
  have key : ∀ b, ((List.range 24).all fun i => chkR (b + i / 6) (i % 6)) = true → b ≤ j → j < b + 4 → chkR j w = true := by
    intro b h h1 h2
    have h3 := all_lt h (i := (j - b) * 6 + w) (by omega)
    rwa [show b + ((j - b) * 6 + w) / 6 = j by omega, show ((j - b) * 6 + w) % 6 = w by omega] at h3
  have hc : (0 ≤ j ∧ j < 0 + 4) ∨ (4 ≤ j ∧ j < 4 + 4) ∨ (8 ≤ j ∧ j < 8 + 4) ∨ (12 ≤ j ∧ j < 12 + 4) ∨ (16 ≤ j ∧ j < 16 + 4) ∨ (20 ≤ j ∧ j < 20 + 4) ∨ (24 ≤ j ∧ j < 24 + 4) ∨ (28 ≤ j ∧ j < 28 + 4) := by omega
  rcases hc with h | h | h | h | h | h | h | h
  · exact key 0 tab_R0_0 h.1 h.2
  · exact key 4 tab_R0_1 h.1 h.2
  · exact key 8 tab_R1_0 h.1 h.2
  · exact key 12 tab_R1_1 h.1 h.2
  · exact key 16 tab_R2_0 h.1 h.2
  · exact key 20 tab_R2_1 h.1 h.2
  · exact key 24 tab_R3_0 h.1 h.2
  · exact key 28 tab_R3_1 h.1 h.2
theorem i_all {j w : Nat} (hj : j < 16) (hw : w < 6) : chkI j w = true := by
  have key : ∀ b, ((List.range 24).all fun i => chkI (b + i / 6) (i % 6)) = true → b ≤ j → j < b + 4 → chkI j w = true := by
    intro b h h1 h2
    have h3 := all_lt h (i := (j - b) * 6 + w) (by omega)
    rwa [show b + ((j - b) * 6 + w) / 6 = j by omega, show ((j - b) * 6 + w) % 6 = w by omega] at h3
  have hc : (0 ≤ j ∧ j < 0 + 4) ∨ (4 ≤ j ∧ j < 4 + 4) ∨ (8 ≤ j ∧ j < 8 + 4) ∨ (12 ≤ j ∧ j < 12 + 4) := by omega
  rcases hc with h | h | h | h
  · exact key 0 tab_I0_0 h.1 h.2
  · exact key 4 tab_I0_1 h.1 h.2
  · exact key 8 tab_I1_0 h.1 h.2
  · exact key 12 tab_I1_1 h.1 h.2
theorem box_is {K x : Nat} (h : boxB K x = true) : ∃ v, v32 x = some v ∧ I32 x v ∧ v.natAbs ≤ K * gU := by
  unfold boxB at h
  split at h
  · rename_i v hv
    exact ⟨v, hv, v32_is hv, of_decide_eq_true h⟩
  · cases h
theorem quad_is {a b c d : Nat} (h : quadB a b c d = true) : ∃ x y z w, Quad a b c d x y z w := by
  unfold quadB at h
  simp only [Bool.and_eq_true] at h
  obtain ⟨h1, h2, h3, h4, h5⟩ := h
  obtain ⟨x, e1, i1, b1⟩ := box_is h1
  obtain ⟨y, e2, i2, b2⟩ := box_is h2
  obtain ⟨z, e3, i3, b3⟩ := box_is h3
  obtain ⟨w, e4, i4, b4⟩ := box_is h4
  unfold detB at h5
  rw [e1, e2, e3, e4] at h5
  exact ⟨x, y, z, w, i1, i2, i3, i4, b1, b2, b3, b4, of_decide_eq_true h5⟩
structure Pc (e h w c d u : Nat) : Prop where
  quad : ∃ x y z v, Quad c d u c x y z v
  first : ∃ x y z v, Quad (tM c 1065353216 d 0) (tM c 0 d 1065353216) (tM u 1065353216 c 0) (tM u 0 c 1065353216) x y z v
  ar : arB [tM c 1065353216 d 0, tM c 0 d 1065353216, tM u 1065353216 c 0, tM u 0 c 1065353216] = false
  qd : ∀ q, Ab.qd e h w q = qS c d u q
  fin : cfB (wvV e h) = true
  ne : wvQ e h = true
theorem chk_pc {c d u : Nat} (h : chkQ c d u = true) : (∃ x y z v, Quad c d u c x y z v) ∧ (∃ x y z v, Quad (tM c 1065353216 d 0) (tM c 0 d 1065353216) (tM u 1065353216 c 0) (tM u 0 c 1065353216) x y z v) ∧
    arB [tM c 1065353216 d 0, tM c 0 d 1065353216, tM u 1065353216 c 0, tM u 0 c 1065353216] = false := by
  unfold chkQ at h
  simp only [frc_eq, Bool.and_eq_true, Bool.not_eq_true'] at h
  exact ⟨quad_is h.1, quad_is h.2.1, h.2.2⟩
theorem piece {k p a : Nat} (hk : k < 24) (hp : p < 13) (ha : a < 6) : ∃ c d u, Pc (eL k) (hL p) (wL a) c d u := by
  have hs := all_lt subL_tab (i := k * 13 + p) (by omega)
  rw [show (k * 13 + p) / 13 = k by omega, show (k * 13 + p) % 13 = p by omega] at hs
  have hf0 : finB 0 = true := by decide +kernel
  cases hg : gtB (eL k) (hL p) with
  | true =>
    rw [hg] at hs
    dsimp only at hs
    rw [Bool.and_eq_true] at hs
    have h1 := eq_of_beq hs.1
    have h2 := of_decide_eq_true hs.2
    have hr := r_all (j := 8 + k - 2 * p) (w := a) (by omega) ha
    unfold chkR at hr
    simp only [frc_eq, Bool.and_eq_true] at hr
    obtain ⟨r1, r2, r3⟩ := hr
    obtain ⟨q1, q2, q3⟩ := chk_pc r3
    have hw : wvV (eL k) (hL p) = (rootF (eL (8 + k - 2 * p)), 0) := by unfold wvV; rw [hg, h1]
    refine ⟨_, _, _, q1, q2, q3, fun q => ?_, ?_, ?_⟩
    · unfold qd pcB
      rw [hw, r1]
      rfl
    · unfold cfB
      rw [hw, r2, hf0]
      rfl
    · unfold wvQ
      rw [hg]
      rfl
  | false =>
    rw [hg] at hs
    dsimp only at hs
    rw [Bool.and_eq_true, Bool.and_eq_true] at hs
    obtain ⟨h0, h1, h2⟩ := hs
    have h1 := eq_of_beq h1
    have h2 := of_decide_eq_true h2
    have hr := i_all (j := 2 * p - 9 - k) (w := a) (by omega) ha
    unfold chkI at hr
    simp only [frc_eq, Bool.and_eq_true] at hr
    obtain ⟨⟨r1, _⟩, r3⟩ := hr
    obtain ⟨q1, q2, q3⟩ := chk_pc r3
    have hw : wvV (eL k) (hL p) = (0, rootF (eL (2 * p - 9 - k))) := by unfold wvV; rw [hg, h1]
    refine ⟨_, _, _, q1, q2, q3, fun q => ?_, ?_, ?_⟩
    · have hb : pcB (eL k) (hL p) = false := by
        unfold pcB
        rw [hw]
        show (FloatKind.f32.format.order 0 0 != some .eq) = false
        decide +kernel
      unfold qd
      rw [hb, hw]
      rfl
    · unfold cfB
      rw [hw, r1, hf0]
      rfl
    · unfold wvQ
      rw [hg, h0]
      rfl
end Go.Proofs.Ytdbmbelllghdcaa.Ab

namespace Go.Proofs.Ytdbmbelllghdcaa.Ab
set_option linter.unusedVariables false
set_option linter.unusedSimpArgs false
open Go
theorem fin_is {x : Nat} {v : Int} (h : I32 x v) : finB x = true := by
  obtain ⟨r, h1, h2⟩ := sub_ex fm32 (B := 0) h h (by decide) (V := 0) (k := 0) (by rw [Int.sub_self, Nat.zero_mul]; rfl) (by decide) (by rw [Nat.zero_mul]; exact Nat.pow_pos (by decide)) (by decide)
  have h0 : I32 0 0 := ⟨false, 0, -149, by decide, by decide, by decide⟩
  unfold finB
  have e : fop .sub .f32 x x = r := by
    show (Ieee.single.sub x x).getD (qnan .f32) = r
    rw [h1]
    rfl
  rw [e]
  show (Ieee.single.order r 0 == some .eq) = true
  rw [order_is h2 h0]
  decide
def x9 : Nat := 2 ^ (e9 - 96)
theorem u9_x9 : u9 = 2 ^ 96 * x9 := by unfold x9; rw [u9_eq, ← Nat.pow_add]; exact pow_cong (by unfold e9; decide)
theorem x9_pos : 0 < x9 := Nat.pow_pos (by decide)
theorem gx9 : gU * x9 = 2 ^ 50 * u9 := by
  rw [u9_x9, ← Nat.mul_assoc]
  exact congrArg (· * x9) (show gU = 2 ^ 50 * 2 ^ 96 by unfold gU; decide)
theorem up_is {x : Nat} {v : Int} (h : I32 x v) : I64 (up x) (v * ((x9 : Nat) : Int)) := by
  obtain ⟨s, m, e, h1, h2, rfl⟩ := h
  obtain ⟨m', p', h3, h4, h5⟩ := up_read h1
  refine ⟨s, m', p', h3, h4, ?_⟩
  have e1 : m' * 2 ^ (p' - -1074).toNat = m * 2 ^ (e - -149).toNat * x9 := by
    rw [h5, Nat.mul_assoc]
    unfold x9
    rw [← Nat.pow_add]
    refine congrArg (m * 2 ^ ·) ?_
    unfold e9
    omega
  rw [signed_eq, signed_eq, e1]
  generalize m * 2 ^ (e - -149).toNat = q
  cases s
  · rw [if_neg (by decide), if_neg (by decide), Int.natCast_mul]
  · rw [if_pos rfl, if_pos rfl, Int.natCast_mul, Int.neg_mul]
theorem fsub64 {x y B : Nat} {a b : Int} (hx : I64 x a) (hy : I64 y b) (hB : (a - b).natAbs < 2 ^ (B + 53) * u9) (h9 : B ≤ 60) : ∃ c, I64 (fop .sub .f64 x y) c ∧ 2 * (c - (a - b)).natAbs ≤ 2 ^ B * u9 := by
  obtain ⟨r, c, h1, h2, h3⟩ := sub_is fm64 (B := (B : Int)) hx hy (by omega) (by rw [pw9 (B + 53) _ (by omega)]; exact hB) (by omega)
  refine ⟨c, ?_, Nat.le_trans h3 (Nat.le_of_eq (pw9 B _ (by omega)))⟩
  show Is _ _ ((Ieee.double.sub x y).getD (qnan .f64)) c
  rw [h1]
  exact h2
theorem fadd64 {x y B : Nat} {a b : Int} (hx : I64 x a) (hy : I64 y b) (hB : (a + b).natAbs < 2 ^ (B + 53) * u9) (h9 : B ≤ 60) : ∃ c, I64 (fop .add .f64 x y) c ∧ 2 * (c - (a + b)).natAbs ≤ 2 ^ B * u9 := by
  obtain ⟨r, c, h1, h2, h3⟩ := add_is fm64 (B := (B : Int)) hx hy (by omega) (by rw [pw9 (B + 53) _ (by omega)]; exact hB) (by omega)
  refine ⟨c, ?_, Nat.le_trans h3 (Nat.le_of_eq (pw9 B _ (by omega)))⟩
  show Is _ _ ((Ieee.double.add x y).getD (qnan .f64)) c
  rw [h1]
  exact h2
theorem gap_is {x y B : Nat} {a b : Int} (hx : I32 x a) (hy : I32 y b) (hB : (a - b).natAbs < 2 ^ (B + 3) * gU) (h9 : B ≤ 60) : ∃ g, I64 (r8G x y) g ∧ 2 * (g - (((a - b).natAbs * x9 : Nat) : Int)).natAbs ≤ 2 ^ B * u9 := by
  have hX := up_is hx
  have hY := up_is hy
  have hlt : ((a - b) * ((x9 : Nat) : Int)).natAbs < 2 ^ (B + 53) * u9 := by
    rw [Int.natAbs_mul, Int.natAbs_natCast]
    have h1 := Nat.mul_lt_mul_of_pos_right hB x9_pos
    rw [Nat.mul_assoc, gx9, ← Nat.mul_assoc, ← Nat.pow_add, show B + 3 + 50 = B + 53 by omega] at h1
    exact h1
  have e1 : a * ((x9 : Nat) : Int) - b * ((x9 : Nat) : Int) = (a - b) * ((x9 : Nat) : Int) := by rw [Int.sub_mul]
  have e2 : b * ((x9 : Nat) : Int) - a * ((x9 : Nat) : Int) = -((a - b) * ((x9 : Nat) : Int)) := by rw [Int.sub_mul]; omega
  obtain ⟨c1, i1, f1⟩ := fsub64 hX hY (by rw [e1]; exact hlt) h9
  obtain ⟨c2, i2, f2⟩ := fsub64 hY hX (by rw [e2, Int.natAbs_neg]; exact hlt) h9
  rw [e1] at f1
  rw [e2] at f2
  have habs : (((a - b).natAbs * x9 : Nat) : Int) = ((((a - b) * ((x9 : Nat) : Int)).natAbs : Nat) : Int) := by rw [Int.natAbs_mul, Int.natAbs_natCast]
  rw [habs]
  generalize (a - b) * ((x9 : Nat) : Int) = d at f1 f2
  have ho : FloatKind.f64.format.order (fop .sub .f64 (up x) (up y)) (fop .sub .f64 (up y) (up x)) = some (compare c1 c2) := order_is i1 i2
  unfold r8G fmax
  rw [ho]
  rcases Int.lt_trichotomy c1 c2 with h | h | h
  · rw [Int.compare_eq_lt.2 h]
    refine ⟨c2, i2, ?_⟩
    generalize 2 ^ B * u9 = w at f1 f2 ⊢
    omega
  · rw [Int.compare_eq_eq.2 h]
    dsimp only
    split
    · refine ⟨c2, i2, ?_⟩
      generalize 2 ^ B * u9 = w at f1 f2 ⊢
      omega
    · refine ⟨c1, i1, ?_⟩
      generalize 2 ^ B * u9 = w at f1 f2 ⊢
      omega
  · rw [Int.compare_eq_gt.2 h]
    refine ⟨c1, i1, ?_⟩
    generalize 2 ^ B * u9 = w at f1 f2 ⊢
    omega
theorem gtD_is {x y : Nat} {a b : Int} (hx : I64 x a) (hy : I64 y b) (h : a ≤ b) : gtD x y = false := by
  unfold gtD
  show (Ieee.double.order x y == some .gt) = false
  rw [order_is hx hy]
  have : compare a b ≠ .gt := fun hc => by have := Int.compare_eq_gt.1 hc; omega
  cases hc : compare a b with
  | gt => exact absurd hc this
  | eq => rfl
  | lt => rfl
theorem ltD_is {x y : Nat} {a b : Int} (hx : I64 x a) (hy : I64 y b) (h : b ≤ a) : ltD x y = false := by
  unfold ltD
  show (Ieee.double.order x y == some .lt) = false
  rw [order_is hx hy]
  have : compare a b ≠ .lt := fun hc => by have := Int.compare_eq_lt.1 hc; omega
  cases hc : compare a b with
  | lt => exact absurd hc this
  | eq => rfl
  | gt => rfl
theorem one32 : I32 1065353216 ((8 * gU : Nat) : Int) := v32_is (by decide +kernel)
theorem zero32' : I32 0 0 := ⟨false, 0, -149, by decide, by decide, by decide⟩
end Go.Proofs.Ytdbmbelllghdcaa.Ab

namespace Go.Proofs.Ytdbmbelllghdcaa.Ab
set_option linter.unusedVariables false
set_option linter.unusedSimpArgs false
open Go
theorem fmul64 {x y B : Nat} {a b : Int} (hx : I64 x a) (hy : I64 y b) (hB : (a * b).natAbs < 2 ^ (B + 106) * (u9 * u9)) (h9 : B ≤ 60) : ∃ c, I64 (fop .mul .f64 x y) c ∧ 2 * (c * ((2 ^ 53 * u9 : Nat) : Int) - a * b).natAbs ≤ 2 ^ (B + 53) * (u9 * u9) := by
  have hpw : ∀ k n : Nat, n = k + 2042 → 2 ^ n = 2 ^ k * (u9 * u9) := by
    intro k n hn
    rw [← Nat.mul_assoc, ← pw9 k (k + 1021) rfl, ← pw9 (k + 1021) n (by omega)]
  obtain ⟨r, c, h1, h2, h3⟩ := mul_is fm64 (B := (B : Int)) hx hy (by decide) (by omega) (by rw [hpw (B + 106) _ (by omega)]; exact hB) (by omega)
  have e1 : 2 ^ (-(-1074 : Int)).toNat = 2 ^ 53 * u9 := pw9 53 _ (by decide)
  have e2 : 2 ^ (max ((B : Int) - 1 - ((52 : Nat) : Int)) (-1074) - 2 * (-1074)).toNat = 2 ^ (B + 53) * (u9 * u9) := hpw (B + 53) _ (by omega)
  rw [e1, e2] at h3
  refine ⟨c, ?_, h3⟩
  show Is _ _ ((Ieee.double.mul x y).getD (qnan .f64)) c
  rw [h1]
  exact h2
theorem milli_is : ∃ v : Nat, I64 4562254508917369340 ((v : Nat) : Int) ∧ v * 512 = 4611686018427388 * u9 := by
  refine ⟨4611686018427388 * 2 ^ ((-62 : Int) - -1074).toNat, ⟨false, 4611686018427388, -62, by decide +kernel, by decide, ?_⟩, ?_⟩
  · rw [signed_eq, if_neg (by decide)]
  · rw [Nat.mul_assoc, show (512 : Nat) = 2 ^ 9 by decide, ← Nat.pow_add]
    have : 2 ^ (((-62 : Int) - -1074).toNat + 9) = 2 ^ 0 * u9 := pw9 0 _ (by decide)
    rw [this, Nat.pow_zero, Nat.one_mul]
theorem core_s1 {u o gX xx s1 : Int} (ho : o = 2 ^ 53 * u) (hu : 0 < u) (fX : -(2 ^ 11 * u) ≤ 2 * (gX - xx) ∧ 2 * (gX - xx) ≤ 2 ^ 11 * u) (vX : 0 ≤ xx ∧ xx ≤ 8847 * (2 ^ 50 * u)) (k1 : -(2 ^ 12 * u) ≤ 2 * (s1 - (o + gX)) ∧ 2 * (s1 - (o + gX)) ≤ 2 ^ 12 * u) :
    (2 ^ 53 - 2 ^ 12) * u ≤ s1 ∧ s1 < 2 ^ 65 * u := by omega
theorem core_s2 {u gY yy s1 s2 : Int} (hu : 0 < u) (h1 : (2 ^ 53 - 2 ^ 12) * u ≤ s1 ∧ s1 < 2 ^ 65 * u) (fY : -(2 ^ 11 * u) ≤ 2 * (gY - yy) ∧ 2 * (gY - yy) ≤ 2 ^ 11 * u) (vY : 0 ≤ yy ∧ yy ≤ 8847 * (2 ^ 50 * u)) (k2 : -(2 ^ 13 * u) ≤ 2 * (s2 - (s1 + gY)) ∧ 2 * (s2 - (s1 + gY)) ≤ 2 ^ 13 * u) :
    (2 ^ 53 - 2 ^ 14) * u ≤ s2 ∧ s2 < 2 ^ 66 * u := by omega
theorem core_fin {u g1 d v s2 m : Int} (hu : 0 < u) (f1 : 2 * (g1 - d) ≤ u) (vD : 218 * d ≤ 2 ^ 50 * u) (h2 : (2 ^ 53 - 2 ^ 14) * u ≤ s2) (hv : v * 512 = 4611686018427388 * u) (hm : -(2 ^ 57 * (u * u)) ≤ 2 * (m * (2 ^ 53 * u) - v * s2)) : g1 ≤ m := by
  refine Int.le_of_mul_le_mul_right ?_ hu
  have e1 : m * (2 ^ 53 * u) = 2 ^ 53 * (m * u) := by rw [← Int.mul_assoc, Int.mul_comm m, Int.mul_assoc]
  have e2 : v * s2 * 512 = 4611686018427388 * (s2 * u) := by
    rw [Int.mul_assoc, Int.mul_comm s2 512, ← Int.mul_assoc, hv, Int.mul_assoc, Int.mul_comm u s2]
  have e3 : (2 ^ 53 - 2 ^ 14) * (u * u) ≤ s2 * u := by
    rw [← Int.mul_assoc]
    exact Int.mul_le_mul_of_nonneg_right h2 (Int.le_of_lt hu)
  have e4 : 436 * (g1 * u) ≤ (2 ^ 51 + 218) * (u * u) := by
    have h1 : 436 * g1 ≤ (2 ^ 51 + 218) * u := by omega
    rw [← Int.mul_assoc, ← Int.mul_assoc]
    exact Int.mul_le_mul_of_nonneg_right h1 (Int.le_of_lt hu)
  have hpos : 0 ≤ u * u := Int.mul_nonneg (Int.le_of_lt hu) (Int.le_of_lt hu)
  rw [e1] at hm
  generalize v * s2 = z at hm e2
  generalize u * u = R at *
  generalize m * u = P at *
  generalize s2 * u = Q at *
  generalize g1 * u = T at *
  clear f1 vD h2 hv
  omega
theorem prod_lt {u : Nat} {v : Nat} {s : Int} {i j n : Nat} (hn : n = i + j) (hv : v < 2 ^ i * u) (hs : s.natAbs < 2 ^ j * u) : (((v : Nat) : Int) * s).natAbs < 2 ^ n * (u * u) := by
  rw [hn, Int.natAbs_mul, Int.natAbs_natCast, Nat.pow_add, Nat.mul_mul_mul_comm]
  exact Nat.mul_lt_mul'' hv hs
theorem two_in {x : Int} {a : Nat} (h : 2 * x.natAbs ≤ a) : -((a : Nat) : Int) ≤ 2 * x ∧ 2 * x ≤ ((a : Nat) : Int) := by omega
theorem v44 {u v : Nat} (hu : 0 < u) (h : v * 512 = 4611686018427388 * u) : v < 2 ^ 44 * u := by omega
theorem abs_lt_of {s u : Int} {U : Nat} (hU : u = ((U : Nat) : Int)) (hu : 0 < u) {k : Nat} {c : Int} (hc : 0 ≤ c) (h : c * u ≤ s ∧ s < ((2 ^ k : Nat) : Int) * u) : s.natAbs < 2 ^ k * U := by
  have h0 : 0 ≤ s := Int.le_trans (Int.mul_nonneg hc (Int.le_of_lt hu)) h.1
  have h2 := h.2
  rw [hU, ← Int.natCast_mul] at h2
  omega
theorem lt_sum {u : Nat} {o gX : Int} {xx : Nat} (hu : 0 < u) (ho : o = ((2 ^ 53 * u : Nat) : Int)) (fX : 2 * (gX - ((xx : Nat) : Int)).natAbs ≤ 2 ^ 11 * u) (vX : xx ≤ 8847 * (2 ^ 50 * u)) : (o + gX).natAbs < 2 ^ (12 + 53) * u := by omega
theorem lt_sum2 {u : Nat} {s1 gX : Int} {xx : Nat} (hu : 0 < u) (h1 : s1.natAbs < 2 ^ 65 * u) (fX : 2 * (gX - ((xx : Nat) : Int)).natAbs ≤ 2 ^ 11 * u) (vX : xx ≤ 8847 * (2 ^ 50 * u)) : (s1 + gX).natAbs < 2 ^ (13 + 53) * u := by omega
theorem cast_x {u x : Nat} (h : x ≤ 8847 * (2 ^ 50 * u)) : (0 : Int) ≤ ((x : Nat) : Int) ∧ ((x : Nat) : Int) ≤ 8847 * (2 ^ 50 * ((u : Nat) : Int)) := by omega
theorem cast_d {u x : Nat} (h : 218 * x ≤ 2 ^ 50 * u) : 218 * ((x : Nat) : Int) ≤ 2 ^ 50 * ((u : Nat) : Int) := by omega
theorem cast_v {u x : Nat} (h : x * 512 = 4611686018427388 * u) : ((x : Nat) : Int) * 512 = 4611686018427388 * ((u : Nat) : Int) := by omega
theorem area_ok {L : List Nat} {X Y D : Int} (hX : I32 (fop .mul .f32 (L.getD 0 0) (L.getD 3 0)) X) (hY : I32 (fop .mul .f32 (L.getD 1 0) (L.getD 2 0)) Y) (hD : I32 (fop .sub .f32 (fop .mul .f32 (L.getD 0 0) (L.getD 3 0)) (fop .mul .f32 (L.getD 1 0) (L.getD 2 0))) D)
    (bX : X.natAbs < 8847 * gU) (bY : Y.natAbs < 8847 * gU) (bD : 218 * (D - ((8 * gU : Nat) : Int)).natAbs ≤ gU) : arB L = false := by
  have hgp := g0_pos
  obtain ⟨g1, i1, f1⟩ := gap_is (B := 0) hD one32 (by generalize gU = g at *; omega) (by decide)
  obtain ⟨gX, iX, fX⟩ := gap_is (B := 11) hX zero32' (by rw [Int.sub_zero]; generalize gU = g at *; omega) (by decide)
  obtain ⟨gY, iY, fY⟩ := gap_is (B := 11) hY zero32' (by rw [Int.sub_zero]; generalize gU = g at *; omega) (by decide)
  rw [Int.sub_zero] at fX fY
  have vD : 218 * ((D - ((8 * gU : Nat) : Int)).natAbs * x9) ≤ 2 ^ 50 * u9 := by
    rw [← gx9, ← Nat.mul_assoc]
    exact Nat.mul_le_mul_right _ bD
  have vX : X.natAbs * x9 ≤ 8847 * (2 ^ 50 * u9) := by
    rw [← gx9, ← Nat.mul_assoc]
    exact Nat.mul_le_mul_right _ (Nat.le_of_lt bX)
  have vY : Y.natAbs * x9 ≤ 8847 * (2 ^ 50 * u9) := by
    rw [← gx9, ← Nat.mul_assoc]
    exact Nat.mul_le_mul_right _ (Nat.le_of_lt bY)
  generalize (D - ((8 * gU : Nat) : Int)).natAbs * x9 = d at f1 vD
  generalize X.natAbs * x9 = xx at fX vX
  generalize Y.natAbs * x9 = yy at fY vY
  obtain ⟨o, io, ho⟩ := one_is
  have hu := u9_pos
  obtain ⟨s1, j1, k1⟩ := fadd64 (B := 12) io iX (lt_sum hu ho fX vX) (by decide)
  have hup : (0 : Int) < ((u9 : Nat) : Int) := Int.natCast_pos.2 hu
  have hc : ∀ k : Nat, ((2 ^ k * u9 : Nat) : Int) = 2 ^ k * ((u9 : Nat) : Int) := fun k => by rw [Int.natCast_mul, Int.natCast_pow]; rfl
  have ho' : o = 2 ^ 53 * ((u9 : Nat) : Int) := by rw [ho, hc]
  have vX' := cast_x vX
  have vY' := cast_x vY
  have fX' := two_in fX
  have fY' := two_in fY
  have k1' := two_in k1
  rw [hc] at fX' fY' k1'
  have hs1 := core_s1 ho' hup fX' vX' k1'
  have a1 : s1.natAbs < 2 ^ 65 * u9 := abs_lt_of rfl hup (c := 2 ^ 53 - 2 ^ 12) (by decide) hs1
  obtain ⟨s2, j2, k2⟩ := fadd64 (B := 13) j1 iY (lt_sum2 hu a1 fY vY) (by decide)
  have k2' := two_in k2
  rw [hc] at k2'
  have hs2 := core_s2 hup hs1 fY' vY' k2'
  have a2 : s2.natAbs < 2 ^ 66 * u9 := abs_lt_of rfl hup (c := 2 ^ 53 - 2 ^ 14) (by decide) hs2
  obtain ⟨v, iv, hv⟩ := milli_is
  obtain ⟨m, im, hm⟩ := fmul64 (B := 4) iv j2 (prod_lt (by decide) (v44 hu hv) a2) (by decide)
  unfold arB
  refine gtD_is i1 im ?_
  have f1' := (two_in f1).2
  have vD' := cast_d vD
  have hv' := cast_v hv
  have hm' := (two_in hm).1
  have e5 : ((2 ^ (4 + 53) * (u9 * u9) : Nat) : Int) = 2 ^ 57 * (((u9 : Nat) : Int) * ((u9 : Nat) : Int)) := by rw [Int.natCast_mul, Int.natCast_mul, Int.natCast_pow]; rfl
  rw [e5, hc] at hm'
  rw [hc, Int.pow_zero, Int.one_mul] at f1'
  exact core_fin hup f1' vD' hs2.1 hv' hm'
end Go.Proofs.Ytdbmbelllghdcaa.Ab

namespace Go.Proofs.Ytdbmbelllghdcaa.Ab
set_option linter.unusedVariables false
set_option linter.unusedSimpArgs false
open Go
theorem quo2_is {x B : Nat} {v : Int} (h : I64 x v) (hv : v.natAbs < 2 ^ (B + 53) * u9) (h9 : B ≤ 60) : ∃ c, I64 (fop .quo .f64 x 4611686018427387904) c ∧ (2 * c - v).natAbs ≤ 2 ^ B * u9 := by
  obtain ⟨s, m, i, hx, hi, rfl⟩ := h
  have hm53 := (read_place hx).2.1
  have hy : Ieee.double.read 4611686018427387904 = .number false 4503599627370496 (-51) := by decide +kernel
  have hlog2 : (4503599627370496 : Nat).log2 = 52 := by decide +kernel
  have e : fop .quo .f64 x 4611686018427387904 = Ieee.double.nearest (s ^^ false) (2 * ((m <<< (54 + (4503599627370496 : Nat).log2 - m.log2)) / 4503599627370496) + ((m <<< (54 + (4503599627370496 : Nat).log2 - m.log2)) % 4503599627370496 != 0).toNat) (i - (-51) - ((54 + (4503599627370496 : Nat).log2 - m.log2 : Nat) : Int) - 1) := by
    unfold fop floatBits
    show (Ieee.double.div x 4611686018427387904).getD _ = _
    unfold Ieee.Format.div
    rw [hx, hy]
    unfold Ieee.Datum.quotient
    dsimp only
    rw [if_neg (by decide)]
    rfl
  rw [e, hlog2, Bool.xor_false]
  have hml : m.log2 ≤ 52 := by
    by_cases h0 : m = 0
    · subst h0; decide
    · have := (Nat.log2_lt h0).2 (show m < 2 ^ 53 from hm53); omega
  obtain ⟨r, hr⟩ : ∃ r, 54 + 52 - m.log2 = r + 52 := ⟨54 - m.log2, by omega⟩
  rw [hr, Nat.shiftLeft_eq, Nat.pow_add, ← Nat.mul_assoc]
  have hd : m * 2 ^ r * 2 ^ 52 / 4503599627370496 = m * 2 ^ r := Nat.mul_div_cancel _ (by decide : 0 < 2 ^ 52)
  have hmod : m * 2 ^ r * 2 ^ 52 % 4503599627370496 = 0 := Nat.mul_mod_left _ (2 ^ 52)
  rw [hd, hmod]
  show ∃ c, I64 (Ieee.double.nearest s (2 * (m * 2 ^ r) + 0) _) c ∧ _
  rw [Nat.add_zero]
  have hval : 2 * (m * 2 ^ r) * 2 ^ (i - -51 - ((r + 52 : Nat) : Int) - 1 - -1200).toNat = m * 2 ^ (i - -1074).toNat * 2 ^ 125 := by
    rw [show 2 * (m * 2 ^ r) = m * (2 ^ 1 * 2 ^ r) by rw [Nat.pow_one, Nat.mul_left_comm], Nat.mul_assoc, ← Nat.pow_add, ← Nat.pow_add, Nat.mul_assoc, ← Nat.pow_add]
    refine congrArg (m * 2 ^ ·) ?_
    have hr54 : r ≤ 54 := by omega
    clear e hd hmod hx hy hv
    omega
  rw [sgAbs] at hv
  have hR : 2 ^ ((B : Int) - -1200).toNat = 2 ^ 126 * (2 ^ (B + 53) * u9) := by
    rw [← Nat.mul_assoc, ← Nat.pow_add]
    exact pw9 (126 + (B + 53)) _ (by omega)
  have hr54 : r ≤ 54 := by omega
  have hlog := log_of (M := 2 * (m * 2 ^ r)) (p := i - -51 - ((r + 52 : Nat) : Int) - 1) (Q := -1200) (B := (B : Int)) (by omega) (by omega) (by
    rw [hval, hR, Nat.mul_comm]
    exact Nat.mul_lt_mul'' (by decide) hv)
  obtain ⟨c, h1, h2⟩ := near_is fm64 s (m := 2 * (m * 2 ^ r)) (p := i - -51 - ((r + 52 : Nat) : Int) - 1) (Q := -1200) (B := (B : Int)) (by omega) (by decide) hlog (by omega)
  refine ⟨c, h1, ?_⟩
  have e1 : 2 ^ ((-1074 : Int) - -1200).toNat = 2 ^ 126 := rfl
  have e2 : 2 ^ (max ((B : Int) - 1 - ((52 : Nat) : Int)) (-1074) - -1200).toNat = 2 ^ 126 * (2 ^ B * u9) := by
    rw [← Nat.mul_assoc, ← Nat.pow_add]
    exact pw9 (126 + B) _ (by omega)
  have e3 : Ieee.signed s (2 * (m * 2 ^ r)) (i - -51 - ((r + 52 : Nat) : Int) - 1 - -1200).toNat = Ieee.signed s m (i - -1074).toNat * ((2 ^ 125 : Nat) : Int) := by
    rw [signed_eq, signed_eq, hval]
    generalize m * 2 ^ (i - -1074).toNat = q
    cases s
    · rw [if_neg (by decide), if_neg (by decide), Int.natCast_mul]
    · rw [if_pos rfl, if_pos rfl, Int.natCast_mul, Int.neg_mul]
  rw [e1, e2, e3] at h2
  generalize Ieee.signed s m (i - -1074).toNat = v at h2 ⊢
  generalize 2 ^ B * u9 = w at h2 ⊢
  have h3 : (2 * c - v) * ((2 ^ 125 : Nat) : Int) = c * ((2 ^ 126 : Nat) : Int) - v * ((2 ^ 125 : Nat) : Int) := by
    rw [Int.sub_mul, Int.mul_comm 2 c, Int.mul_assoc, show (2 : Int) * ((2 ^ 125 : Nat) : Int) = ((2 ^ 126 : Nat) : Int) by decide]
  have h4 : (2 * c - v).natAbs * 2 ^ 125 ≤ w * 2 ^ 125 := by
    rw [show (2 * c - v).natAbs * 2 ^ 125 = ((2 * c - v) * ((2 ^ 125 : Nat) : Int)).natAbs by rw [Int.natAbs_mul, Int.natAbs_natCast], h3]
    generalize c * ((2 ^ 126 : Nat) : Int) - v * ((2 ^ 125 : Nat) : Int) = y at h2 ⊢
    omega
  exact Nat.le_of_mul_le_mul_right h4 (Nat.pow_pos (by decide))
end Go.Proofs.Ytdbmbelllghdcaa.Ab

namespace Go.Proofs.Ytdbmbelllghdcaa.Ab
set_option linter.unusedVariables false
set_option linter.unusedSimpArgs false
open Go
theorem core_h {g w hv vs : Int} {G W N H : Nat} (hg : g = ((G : Nat) : Int)) (hG : G * G = 524288 * W) (hpos : 0 < G) (hN : N = vs.natAbs) (hH : H = hv.natAbs) (fh : (hv * ((8 * G : Nat) : Int) - ((4 * G : Nat) : Int) * vs).natAbs ≤ 64 * W) :
    (H ≤ 8 * G → 32768 * N ≤ 524289 * G) ∧ (8 * G ≤ H → 524287 * G ≤ 32768 * N) := by
  have e1 : (hv * ((8 * G : Nat) : Int)).natAbs = H * (8 * G) := by rw [Int.natAbs_mul, Int.natAbs_natCast, hH]
  have e2 : (((4 * G : Nat) : Int) * vs).natAbs = 4 * G * N := by rw [Int.natAbs_mul, Int.natAbs_natCast, hN]
  generalize hv * ((8 * G : Nat) : Int) = A at fh e1
  generalize ((4 * G : Nat) : Int) * vs = B at fh e2
  have h1 : 4 * G * N ≤ H * (8 * G) + 64 * W := by omega
  have h2 : H * (8 * G) ≤ 4 * G * N + 64 * W := by omega
  constructor
  · intro h
    have h3 : H * (8 * G) ≤ 8 * G * (8 * G) := Nat.mul_le_mul_right _ h
    rw [show 8 * G * (8 * G) = 64 * (G * G) by rw [Nat.mul_mul_mul_comm]] at h3
    refine Nat.le_of_mul_le_mul_left ?_ hpos
    rw [show G * (32768 * N) = 8192 * (4 * G * N) by rw [Nat.mul_assoc 4, Nat.mul_left_comm, show (32768 : Nat) = 8192 * 4 by decide, Nat.mul_assoc], show G * (524289 * G) = 524289 * (G * G) by rw [Nat.mul_left_comm]]
    generalize 4 * G * N = X at *
    generalize G * G = Y at *
    generalize H * (8 * G) = Z at *
    clear fh e1 e2
    omega
  · intro h
    have h3 : 8 * G * (8 * G) ≤ H * (8 * G) := Nat.mul_le_mul_right _ h
    rw [show 8 * G * (8 * G) = 64 * (G * G) by rw [Nat.mul_mul_mul_comm]] at h3
    refine Nat.le_of_mul_le_mul_left ?_ hpos
    rw [show G * (32768 * N) = 8192 * (4 * G * N) by rw [Nat.mul_assoc 4, Nat.mul_left_comm, show (32768 : Nat) = 8192 * 4 by decide, Nat.mul_assoc], show G * (524287 * G) = 524287 * (G * G) by rw [Nat.mul_left_comm]]
    generalize 4 * G * N = X at *
    generalize G * G = Y at *
    generalize H * (8 * G) = Z at *
    clear fh e1 e2
    omega
theorem core_q {q gg : Int} {u X : Nat} (f1 : 2 * (gg - ((X : Nat) : Int)).natAbs ≤ 2 ^ 7 * u) (f2 : (2 * q - gg).natAbs ≤ 2 ^ 7 * u) :
    (32768 * X ≤ 524289 * (2 ^ 50 * u) → q ≤ ((9007289326733540 * u : Nat) : Int)) ∧ (524287 * (2 ^ 50 * u) ≤ 32768 * X → ((9007109182748445 * u : Nat) : Int) ≤ q) := by
  constructor <;> intro h <;> omega
theorem c1_is : I64 4607182463836013682 ((9007289326733540 * u9 : Nat) : Int) := by
  refine ⟨false, 4503644663366770, -52, by decide +kernel, by decide, ?_⟩
  rw [signed_eq, if_neg (by decide)]
  have : 2 ^ ((-52 : Int) - -1074).toNat = 2 ^ 1 * u9 := pw9 1 _ (by decide)
  rw [this, ← Nat.mul_assoc]
theorem c2_is : I64 4607182328728024861 ((9007109182748445 * u9 : Nat) : Int) := by
  refine ⟨false, 9007109182748445, -53, by decide +kernel, by decide, ?_⟩
  rw [signed_eq, if_neg (by decide)]
  have : 2 ^ ((-53 : Int) - -1074).toNat = 2 ^ 0 * u9 := pw9 0 _ (by decide)
  rw [this, Nat.pow_zero, Nat.one_mul]
theorem neg1_is : I32 3212836864 (-((8 * gU : Nat) : Int)) := v32_is (by decide +kernel)
theorem lt_x {N : Nat} {k : Nat} (h : N < k * gU) : N * x9 < k * (2 ^ 50 * u9) := by
  rw [← gx9, ← Nat.mul_assoc]
  exact Nat.mul_lt_mul_of_pos_right h x9_pos
theorem core_g {u X : Nat} {gg : Int} (hu : 0 < u) (h : X < 533 * (2 ^ 50 * u)) (f : 2 * (gg - ((X : Nat) : Int)).natAbs ≤ 2 ^ 7 * u) : gg.natAbs < 2 ^ (7 + 53) * u := by omega
theorem sum_b {G W : Nat} {vs ab : Int} (hW : 0 < W) (hab : ab.natAbs ≤ 532 * 8 * (524288 * W)) (f : (vs - ab).natAbs ≤ 2 ^ 7 * W) : vs.natAbs < 533 * 8 * (524288 * W) := by omega
theorem ord_s {x y : Nat} {a b : Int} (hx : I32 x a) (hy : I32 y b) : (gtB x y || eqB x y) = decide (b ≤ a) ∧ (ltB x y || eqB x y) = decide (a ≤ b) := by
  unfold gtB eqB ltB
  have ho : FloatKind.f32.format.order x y = some (compare a b) := order_is hx hy
  rw [ho]
  rcases Int.lt_trichotomy a b with h | h | h
  · rw [Int.compare_eq_lt.2 h, decide_eq_false (show ¬ b ≤ a by omega), decide_eq_true (show a ≤ b by omega)]
    exact ⟨rfl, rfl⟩
  · rw [Int.compare_eq_eq.2 h, decide_eq_true (show b ≤ a by omega), decide_eq_true (show a ≤ b by omega)]
    exact ⟨rfl, rfl⟩
  · rw [Int.compare_eq_gt.2 h, decide_eq_true (show b ≤ a by omega), decide_eq_false (show ¬ a ≤ b by omega)]
    exact ⟨rfl, rfl⟩
def inB1 (L : List Nat) : Bool := (gtB (hB L) 3212836864 || eqB (hB L) 3212836864) && (ltB (hB L) 1065353216 || eqB (hB L) 1065353216)
theorem half_ok {L : List Nat} {a b : Int} (h0 : I32 (L.getD 0 0) a) (h3 : I32 (L.getD 3 0) b) (ba : a.natAbs < 266 * gU) (bb : b.natAbs < 266 * gU) :
    (inB1 L = true → gtD (haF L) 4607182463836013682 = false) ∧ (inB1 L = false → ltD (haF L) 4607182328728024861 = false) := by
  have hgp := g0_pos
  have hup := u9_pos
  obtain ⟨vs, is, fs⟩ := fadd32 (B := 7) h0 h3 (by generalize gU = g at *; omega) (by decide)
  have hab : ((a + b) * ((8 * gU : Nat) : Int)).natAbs ≤ 532 * 8 * (524288 * wU) := by
    rw [← gw0, Int.natAbs_mul, Int.natAbs_natCast, Nat.mul_mul_mul_comm]
    exact Nat.mul_le_mul_right _ (by generalize gU = g at *; omega)
  have bs : vs.natAbs < 533 * gU := unscale (sum_b (G := gU) w0_pos hab (by rw [← Int.sub_mul] at fs ⊢; exact fs))
  have hhalf : I32 1056964608 ((4 * gU : Nat) : Int) := half_is
  obtain ⟨hv, ih, fh⟩ := fmul32 (K := 2132) (B := 6) hhalf is (by
    rw [← gw0, Int.natAbs_mul, Int.natAbs_natCast, show 2132 * (gU * gU) = 4 * gU * (533 * gU) by rw [Nat.mul_mul_mul_comm]]
    exact Nat.mul_le_mul_left _ (Nat.le_of_lt bs)) (by decide) (by decide)
  obtain ⟨gg, ig, fg⟩ := gap_is (B := 7) is zero32' (by rw [Int.sub_zero]; generalize gU = g at *; omega) (by decide)
  rw [Int.sub_zero] at fg
  have bx := lt_x bs
  obtain ⟨q, iq, fq⟩ := quo2_is (B := 7) ig (core_g hup bx fg) (by decide)
  obtain ⟨k1, k2⟩ := core_h (w := 0) rfl gw0 hgp rfl rfl fh
  obtain ⟨m1, m2⟩ := core_q fg fq
  have hx : ∀ {N i : Nat}, 32768 * N ≤ i * gU → 32768 * (N * x9) ≤ i * (2 ^ 50 * u9) := by
    intro N i h
    rw [← gx9, ← Nat.mul_assoc, ← Nat.mul_assoc]
    exact Nat.mul_le_mul_right _ h
  have hx' : ∀ {N i : Nat}, i * gU ≤ 32768 * N → i * (2 ^ 50 * u9) ≤ 32768 * (N * x9) := by
    intro N i h
    rw [← gx9, ← Nat.mul_assoc, ← Nat.mul_assoc]
    exact Nat.mul_le_mul_right _ h
  have o1 := (ord_s (x := hB L) ih neg1_is).1
  have o2 := (ord_s (x := hB L) ih one32).2
  constructor
  · intro h
    unfold inB1 at h
    rw [o1, o2, Bool.and_eq_true] at h
    have d1 := of_decide_eq_true h.1
    have d2 := of_decide_eq_true h.2
    exact gtD_is iq c1_is (m1 (hx (k1 (by generalize gU = g at *; omega))))
  · intro h
    unfold inB1 at h
    rw [o1, o2, Bool.and_eq_false_iff] at h
    refine ltD_is iq c2_is (m2 (hx' (k2 ?_)))
    rcases h with h | h
    · have d1 := of_decide_eq_false h
      generalize gU = g at *
      omega
    · have d1 := of_decide_eq_false h
      generalize gU = g at *
      omega
end Go.Proofs.Ytdbmbelllghdcaa.Ab

namespace Go.Proofs.Ytdbmbelllghdcaa.Ab
set_option linter.unusedVariables false
set_option linter.unusedSimpArgs false
open Go
theorem e_is {k : Nat} (hk : k < 24) : EQs 0 (eL k) := by
  have key : ((List.range 24).all fun k => v32 (eL k) == some (((1 + 2 * k) * 2 ^ 145 : Nat) : Int)) = true := by kernel_rfl
  have h := v32_is (eq_of_beq (all_lt key hk))
  exact fun _ => ⟨1 + 2 * k, h, by show 1 ≤ _; omega, by show _ ≤ 65 * 1; omega⟩
theorem e0_fact {k : Nat} (hk : k < 24) : wvQ (eL k) 0 = true ∧ finB (eL k) = true ∧ cfB (wvV (eL k) 0) = true := by
  have h := all_lt e0_tab hk
  simp only [Bool.and_eq_true] at h
  obtain ⟨h1, h2, h3⟩ := h
  refine ⟨by unfold wvQ; rw [h1]; rfl, h2, ?_⟩
  have hf0 : finB 0 = true := by decide +kernel
  unfold cfB wvV
  rw [h1]
  dsimp only
  rw [h3, hf0]
  rfl
theorem h_fact {p : Nat} (hp : p < 13) : finB (hL p) = true := by
  have h := h_tab
  rw [Bool.and_eq_true] at h
  exact all_lt h.2 hp
theorem isB_in {x0 x1 : List Nat} {e : Nat} (h : isO x0 x1 e = true) : isB x0 x1 e = inB1 (cellV x0 x1 e) := by
  unfold isB inB1
  rw [h, Bool.true_and]
theorem zero_u {j : Nat} (hj : j < 8) : eG 1031798784 (uL j) 0 = 1031798784 := eq_of_beq (all_lt zero_tab hj)
theorem le266 {v : Int} (h : v.natAbs ≤ 33 * gU) : v.natAbs < 266 * gU := by
  have := g0_pos
  generalize gU = g at *
  omega
theorem bf2 {p0 a p k j : Nat} (h0 : p0 < 9) (ha : a < 6) (hp : p < 13) (hk : k < 24) (hj : j < 8) : BF [aL p0, fop .add .f32 (aL p0) (wL a)] [0, hL p, 0] (eL k) (uL j) := by
  have hcell : ∀ t x, t ≤ 12 → EQs t x → cellO [aL p0, fop .add .f32 (aL p0) (wL a)] [0, hL p, 0] x = true := by
    intro t x ht hx
    show pcOk x (hL p) (fop .sub .f32 (fop .add .f32 (aL p0) (wL a)) (aL p0)) = true
    rw [w1_eq h0 ha]
    exact pc_any ht hx hp ha
  obtain ⟨c, d, u, hP⟩ := piece hk hp ha
  have hV : cellV [aL p0, fop .add .f32 (aL p0) (wL a)] [0, hL p, 0] (eL k) = [tM c 1065353216 d 0, tM c 0 d 1065353216, tM u 1065353216 c 0, tM u 0 c 1065353216] := by
    show qd (eL k) (hL p) (fop .sub .f32 (fop .add .f32 (aL p0) (wL a)) (aL p0)) q1 = _
    rw [w1_eq h0 ha, hP.qd]
    rfl
  obtain ⟨x, y, z, v, hQ⟩ := hP.first
  obtain ⟨z1, z2, z3⟩ := e0_fact hk
  have hf0 : finB 0 = true := by decide +kernel
  have hv := all_lt v2_tab (i := a * 9 + p0) (by omega)
  rw [show (a * 9 + p0) % 9 = p0 by omega, show (a * 9 + p0) / 9 = a by omega, Bool.and_eq_true] at hv
  have his : isO [aL p0, fop .add .f32 (aL p0) (wL a)] [0, hL p, 0] (eL k) = true := by
    unfold isO wnOk vsB
    rw [hV, hv.1, hv.2]
    simp only [List.all_cons, List.all_nil, wvL, List.map_cons, List.map_nil, hf0, h_fact hp, z1, z2, z3, hP.fin, hP.ne, fin_is hQ.ia, fin_is hQ.ib, fin_is hQ.ic, fin_is hQ.id, Bool.and_true, Bool.true_and]
    rfl
  obtain ⟨m1, m2⟩ := half_ok (L := [tM c 1065353216 d 0, tM c 0 d 1065353216, tM u 1065353216 c 0, tM u 0 c 1065353216]) hQ.ia hQ.id (le266 hQ.ba) (le266 hQ.bd)
  refine ⟨hcell 0 _ (by decide) (e_is hk), his, by rw [hV]; exact hP.ar, fun h => ?_, fun h => ?_, ⟨_, eq_of hj hcell⟩, zero_u hj, fun was i x h1 h9 h => edge_ok hj was i x h1 h9 h, by show (2 : Nat) < 2147483648; decide, by show (3 : Nat) < 2147483648; decide⟩
  · rw [isB_in his, hV] at h
    rw [hV]
    exact m1 h
  · rw [isB_in his, hV] at h
    rw [hV]
    exact m2 h
theorem bf3 {p0 a b p p' k j : Nat} (h0 : p0 < 9) (ha : a < 6) (hb : b < 6) (hp : p < 13) (hp' : p' < 13) (hk : k < 24) (hj : j < 8) : BF [aL p0, fop .add .f32 (aL p0) (wL a), fop .add .f32 (fop .add .f32 (aL p0) (wL a)) (wL b)] [0, hL p, hL p', 0] (eL k) (uL j) := by
  have hcell : ∀ t x, t ≤ 12 → EQs t x → cellO [aL p0, fop .add .f32 (aL p0) (wL a), fop .add .f32 (fop .add .f32 (aL p0) (wL a)) (wL b)] [0, hL p, hL p', 0] x = true := by
    intro t x ht hx
    show (pcOk x (hL p) (fop .sub .f32 (fop .add .f32 (aL p0) (wL a)) (aL p0)) && pcOk x (hL p') (fop .sub .f32 (fop .add .f32 (fop .add .f32 (aL p0) (wL a)) (wL b)) (fop .add .f32 (aL p0) (wL a)))) = true
    rw [w1_eq h0 ha, w2_eq h0 ha hb, pc_any ht hx hp ha, pc_any ht hx hp' hb]
    rfl
  obtain ⟨c, d, u, hP⟩ := piece hk hp ha
  obtain ⟨c', d', u', hP'⟩ := piece hk hp' hb
  obtain ⟨x, y, z, v, hQ⟩ := hP.first
  obtain ⟨x', y', z', v', hQ'⟩ := hP'.quad
  obtain ⟨t0, t1, t2, t3, X, Y, D, i0, i1, i2, i3, iX, iY, iD, b0, b1, b2, b3, bX, bY, bD⟩ := pair_area hQ' rfl hQ
  have hV : cellV [aL p0, fop .add .f32 (aL p0) (wL a), fop .add .f32 (fop .add .f32 (aL p0) (wL a)) (wL b)] [0, hL p, hL p', 0] (eL k) = qS c' d' u' [tM c 1065353216 d 0, tM c 0 d 1065353216, tM u 1065353216 c 0, tM u 0 c 1065353216] := by
    show qd (eL k) (hL p') (fop .sub .f32 (fop .add .f32 (fop .add .f32 (aL p0) (wL a)) (wL b)) (fop .add .f32 (aL p0) (wL a))) (qd (eL k) (hL p) (fop .sub .f32 (fop .add .f32 (aL p0) (wL a)) (aL p0)) q1) = _
    rw [w1_eq h0 ha, w2_eq h0 ha hb, hP.qd, hP'.qd]
    rfl
  obtain ⟨z1, z2, z3⟩ := e0_fact hk
  have hf0 : finB 0 = true := by decide +kernel
  have hv := all_lt v3_tab (i := b * 54 + a * 9 + p0) (by omega)
  rw [show (b * 54 + a * 9 + p0) % 9 = p0 by omega, show (b * 54 + a * 9 + p0) / 9 % 6 = a by omega, show (b * 54 + a * 9 + p0) / 54 = b by omega, Bool.and_eq_true] at hv
  have hall : (qS c' d' u' [tM c 1065353216 d 0, tM c 0 d 1065353216, tM u 1065353216 c 0, tM u 0 c 1065353216]).all finB = true := by
    have f0 := fin_is i0
    have f1 := fin_is i1
    have f2 := fin_is i2
    have f3 := fin_is i3
    show (finB (tA c' (tM c 1065353216 d 0) d' (tM u 1065353216 c 0)) && (finB (tA c' (tM c 0 d 1065353216) d' (tM u 0 c 1065353216)) && (finB (tA u' (tM c 1065353216 d 0) c' (tM u 1065353216 c 0)) && (finB (tA u' (tM c 0 d 1065353216) c' (tM u 0 c 1065353216)) && true)))) = true
    rw [f0, f1, f2, f3]
    rfl
  have his : isO [aL p0, fop .add .f32 (aL p0) (wL a), fop .add .f32 (fop .add .f32 (aL p0) (wL a)) (wL b)] [0, hL p, hL p', 0] (eL k) = true := by
    unfold isO wnOk vsB
    rw [hV, hall, hv.1, hv.2]
    simp only [List.all_cons, List.all_nil, wvL, List.map_cons, List.map_nil, hf0, h_fact hp, h_fact hp', z1, z2, z3, hP.fin, hP.ne, hP'.fin, hP'.ne, Bool.and_true, Bool.true_and]
    rfl
  obtain ⟨m1, m2⟩ := half_ok (L := qS c' d' u' [tM c 1065353216 d 0, tM c 0 d 1065353216, tM u 1065353216 c 0, tM u 0 c 1065353216]) i0 i3 b0 b3
  refine ⟨hcell 0 _ (by decide) (e_is hk), his, by rw [hV]; exact area_ok iX iY iD bX bY bD, fun h => ?_, fun h => ?_, ⟨_, eq_of hj hcell⟩, zero_u hj, fun was i x h1 h9 h => edge_ok hj was i x h1 h9 h, by show (3 : Nat) < 2147483648; decide, by show (4 : Nat) < 2147483648; decide⟩
  · rw [isB_in his, hV] at h
    rw [hV]
    exact m1 h
  · rw [isB_in his, hV] at h
    rw [hV]
    exact m2 h
theorem bf_all {l q : List Int} (hl : bytesB l = true) (hq : bytesB q = true) : BF (esV (dW q) l) (hsV (dW q) l) (dN q) (dU q) := by
  obtain ⟨p0, h0, e0⟩ := a0_lit hl
  obtain ⟨a, ha, ea⟩ := wq_lit hl 1
  obtain ⟨b, hb, eb⟩ := wq_lit hl 2
  obtain ⟨k, hk, ek⟩ := e_lit hq
  obtain ⟨j, hj, ej⟩ := u_lit hq
  rw [ek, ej]
  rcases w_lit hq with hw | hw
  · rw [hw]
    obtain ⟨p, hp, ep⟩ := hq_lit hl 4
    show BF (es2 l) (hs2 l) _ _
    unfold es2 hs2
    rw [e0, ea, ep]
    exact bf2 h0 ha hp hk hj
  · rw [hw]
    obtain ⟨p, hp, ep⟩ := hq_lit hl 5
    obtain ⟨p', hp', ep'⟩ := hq_lit hl 6
    show BF (es3 l) (hs3 l) _ _
    unfold es3 hs3
    rw [e0, ea, eb, ep, ep']
    exact bf3 h0 ha hb hp hp' hk hj
end Go.Proofs.Ytdbmbelllghdcaa.Ab

namespace Go.Proofs.Ytdbmbelllghdcaa.Ab
set_option linter.unusedVariables false
set_option linter.unusedSimpArgs false
open Go
noncomputable section
def gBytes : G := fun vs h => match vs, h with
  | [.sl 0 0 n, .sl 1 0 m], [.at false (.int .u8 l0), .at false (.int .u8 l1)] => if n = l0.length ∧ m = l1.length ∧ bytesB l0 = true ∧ bytesB l1 = true then some (.bool true, [.at false (.int .u8 l0), .at false (.int .u8 l1)]) else none
  | [.sl 0 0 n, .nil], [.at false (.int .u8 l0)] => if n = l0.length ∧ bytesB l0 = true then some (.bool true, [.at false (.int .u8 l0)]) else none
  | [.nil, .sl 0 0 m], [.at false (.int .u8 l1)] => if m = l1.length ∧ bytesB l1 = true then some (.bool true, [.at false (.int .u8 l1)]) else none
  | [.nil, .nil], [] => some (.bool true, [])
  | _, _ => none
theorem long_n {n m : Nat} (h : ¬ n < 2147483648) : longB n m = true := by unfold longB; rw [decide_eq_true (show ((n : Nat) : Int) > 48 by omega)]; rfl
theorem long_m {n m : Nat} (h : ¬ m < 2147483648) : longB n m = true := by unfold longB; rw [decide_eq_true (show ((m : Nat) : Int) > 48 by omega)]; cases decide ((n : Int) > 48) <;> rfl
theorem bytes_wf {l : List Int} (h : ∀ z ∈ l, (Lit.int .u8 z).wf = true) : bytesB l = true := by
  unfold bytesB
  rw [List.all_eq_true]
  intro z hz
  have hw := h z hz
  simp only [Lit.wf, Bool.and_eq_true, decide_eq_true_eq] at hw
  have h1 : (0 : Int) ≤ z := hw.1
  have h2 : z ≤ 255 := hw.2
  exact decide_eq_true (by omega)
theorem ok_lawBands : FnOk Try.prog 3 gBytes := by
  intro vs hp v h' e
  rw [T.run_of] at e
  unfold gBytes at e
  split at e
  · rename_i n m l0 l1
    split at e
    · rename_i hc
      cases e
      refine FnT.runs tabok_baA Try.func3 rfl rfl an_baA 40 _ _ _ _ ?_
      rw [T.run_of]
      by_cases h1 : n < 2147483648
      · by_cases h2 : m < 2147483648
        · exact H_baA n m false l0 false l1 ⟨hc.1.symm, h1⟩ ⟨hc.2.1.symm, h2⟩ (w_lit hc.2.2.2) (bf_all hc.2.2.1 hc.2.2.2)
        · refine Eq.trans (run_baA 40 _ _ _ _ _ _) ?_
          rw [long_m h2]
      · refine Eq.trans (run_baA 40 _ _ _ _ _ _) ?_
        rw [long_n h1]
    · cases e
  · rename_i n l0
    split at e
    · rename_i hc
      cases e
      refine FnT.runs tabok_baB Try.func3 rfl rfl an_baB 40 _ _ _ _ ?_
      rw [T.run_of]
      by_cases h1 : n < 2147483648
      · exact H_baB n false l0 ⟨hc.1.symm, h1⟩ (w_lit (q := []) rfl) (bf_all hc.2 (q := []) rfl)
      · refine Eq.trans (run_baB 40 _ _ _) ?_
        rw [long_n h1]
    · cases e
  · rename_i m l1
    split at e
    · rename_i hc
      cases e
      refine FnT.runs tabok_baC Try.func3 rfl rfl an_baC 40 _ _ _ _ ?_
      rw [T.run_of]
      by_cases h1 : m < 2147483648
      · exact H_baC m false l1 ⟨hc.1.symm, h1⟩ (w_lit hc.2) (bf_all (l := []) rfl hc.2)
      · refine Eq.trans (run_baC 40 _ _ _) ?_
        rw [long_m h1]
    · cases e
  · cases e
    refine FnT.runs tabok_baD Try.func3 rfl rfl an_baD 40 _ _ _ _ ?_
    rw [T.run_of]
    exact H_baD (w_lit (q := []) rfl) (bf_all (l := []) rfl (q := []) rfl)
  · cases e
end
end Go.Proofs.Ytdbmbelllghdcaa.Ab
