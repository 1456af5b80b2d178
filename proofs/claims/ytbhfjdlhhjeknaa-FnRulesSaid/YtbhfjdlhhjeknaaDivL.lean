/- The loops of the division of digits. Only lemmas. -/
import Derived.Test.YtbhfjdlhhjeknaaDivW
import Derived.Test.YtbhfjdlhhjeknaaKnuth
namespace Go.Proofs.Ytbhfjdlhhjeknaa.Ab
set_option linter.unusedVariables false
set_option linter.unusedSimpArgs false
open Go

theorem wm1 {n : Nat} (h : 1 ≤ n) (h2 : n < 2147483648) : IntKind.i64.wrap ((n : Int) - 1) = ((n - 1 : Nat) : Int) := by
  rw [wrap_z (by omega) (by omega)]; omega
theorem wm2 {n : Nat} (h : 2 ≤ n) (h2 : n < 2147483648) : IntKind.i64.wrap ((n : Int) - 2) = ((n - 2 : Nat) : Int) := by
  rw [wrap_z (by omega) (by omega)]; omega
theorem sh32 {x : Nat} (h : x < 4294967296) : IntKind.u64.wrap ((x : Int) * 2 ^ 32) = ((x * 4294967296 : Nat) : Int) := by
  rw [show (x : Int) * 2 ^ 32 = ((x * 4294967296 : Nat) : Int) by rw [Int.natCast_mul]; rfl, wrap64 (by omega)]

theorem dvd19 {R : Type} (K : X → St → Option R) (N : Nat) (hN : 10 ≤ N) {W b P two third b1 b2 : Nat} (k : Kn W b P two third b1 b2) {n un on : Nat} (hn : 1 ≤ n) (hn2 : n ≤ 8) (y : Int) (j : Int) (l0 l1 u v o : List Int) (hv : v[n - 1]? = some (b1 : Int)) :
    ∃ qh : Nat, qh < 4294967296 ∧ W / b ≤ qh ∧ qh ≤ W / b + 1 ∧ lp_dvd19 N N (st_dvd19 (n : Int) y un n on (b2 : Int) j ((two / b1 : Nat) : Int) ((two % b1 : Nat) : Int) (third : Int) l0 l1 u v o) K =
      K (.exit 4) (en_dvd19_0 (n : Int) y un n on (b2 : Int) j (qh : Int) l0 l1 u v o) := by
  have hb1 := k.b1lo
  have hb1' := k.b1hi
  have hb2 := k.b2hi
  have ht3 := k.t3
  have h2 := k.two_lt
  have hWb : W / b < 4294967296 := by
    rw [Nat.div_lt_iff_lt_mul k.b0, Nat.mul_comm]
    exact k.wb
  have hWm : W / b * b ≤ W := Nat.div_mul_le_self W b
  have hdiv : ∀ p, p * b ≤ W → p ≤ W / b := fun p h => (Nat.le_div_iff_mul_le k.b0).2 h
  generalize W / b = q at hWb hWm hdiv ⊢
  refine loop_fuel (fun M (s : Nat × Nat) => lp_dvd19 N M (st_dvd19 (n : Int) y un n on (b2 : Int) j (s.1 : Int) (s.2 : Int) (third : Int) l0 l1 u v o) K)
    (fun s => s.1 * b1 + s.2 = two ∧ q ≤ s.1 ∧ s.2 < 2 * 4294967296) (fun s => 3 - s.2 / 2147483648)
    (fun x => ∃ qh : Nat, qh < 4294967296 ∧ q ≤ qh ∧ qh ≤ q + 1 ∧ x = K (.exit 4) (en_dvd19_0 (n : Int) y un n on (b2 : Int) j (qh : Int) l0 l1 u v o)) (fun M s hs => ?_) (s := (two / b1, two % b1)) ⟨by rw [Nat.mul_comm]; exact Nat.div_add_mod two b1, k.first hWm, by dsimp only; have := Nat.mod_lt two (show b1 > 0 by omega); omega⟩ (by dsimp only; omega)
  obtain ⟨qh, r⟩ := s
  obtain ⟨he, hq, hr⟩ := hs
  dsimp only at he hq hr ⊢
  have hqb : qh ≤ two := Nat.le_trans (Nat.le_mul_of_pos_right qh (show 0 < b1 by omega)) (by omega)
  have htwo : two < 18446744073709551616 := by
    have : (b1 + 1) * 4294967296 ≤ 4294967296 * 4294967296 := Nat.mul_le_mul_right _ (by omega)
    omega
  have hr64 : IntKind.u64.wrap (r : Int) = (r : Int) := wrap64 (by omega)
  -- one less
  have less : 1 ≤ qh → q ≤ qh - 1 → r < 4294967296 → ((qh - 1) * b1 + (r + b1) = two ∧ q ≤ qh - 1 ∧ r + b1 < 2 * 4294967296) ∧ 3 - (r + b1) / 2147483648 < 3 - r / 2147483648 ∧ IntKind.u64.wrap ((qh : Int) - 1) = ((qh - 1 : Nat) : Int) ∧ IntKind.u64.wrap ((r : Int) + IntKind.u64.wrap (b1 : Int)) = ((r + b1 : Nat) : Int) := by
    intro h1 h3 h4
    refine ⟨⟨?_, h3, by omega⟩, by omega, ?_, ?_⟩
    · obtain ⟨p, rfl⟩ : ∃ p, qh = p + 1 := ⟨qh - 1, by omega⟩
      rw [Nat.succ_mul] at he
      rw [Nat.add_sub_cancel]
      omega
    · rw [show (qh : Int) - 1 = ((qh - 1 : Nat) : Int) by omega, wrap64 (by omega)]
    · rw [wrap64 (n := b1) (by omega), ← Int.natCast_add, wrap64 (by omega)]
  by_cases hrB : r < 4294967296
  · by_cases hqB : 4294967296 ≤ qh
    · right
      obtain ⟨g1, g2, g3, g4⟩ := less (by omega) (by omega) hrB
      refine ⟨(qh - 1, r + b1), g1, g2, ?_⟩
      simp only [step_dvd19, decide_eq_true (show (r : Int) < 4294967296 by omega), decide_eq_true (show (qh : Int) ≥ 4294967296 by omega), wm1 hn (by omega), din (show n - 1 < n by omega), ix, hv, g3, g4]
    · have hm := mulB (show qh < 4294967296 by omega) hb2
      have e1 : IntKind.u64.wrap ((qh : Int) * (b2 : Int)) = ((qh * b2 : Nat) : Int) := by rw [← Int.natCast_mul, wrap64 (by omega)]
      obtain ⟨Z, hZ⟩ : ∃ Z, Z = r * 4294967296 + third := ⟨_, rfl⟩
      have e2 : IntKind.u64.wrap (((BitVec.ofInt 64 (IntKind.u64.wrap ((r : Int) * 2 ^ 32)) ||| BitVec.ofInt 64 (third : Int)).toNat : Nat) : Int) = ((Z : Nat) : Int) := by
        rw [sh32 hrB, or32 hrB ht3, ← hZ, wrap64 (by omega)]
      obtain ⟨Y, hY⟩ : ∃ Y, Y = qh * b2 := ⟨_, rfl⟩
      rw [← hY] at e1 hm
      by_cases ht : Z < Y
      · right
        have hlt := k.less hWm hq he (by rw [← hZ, ← hY]; exact ht)
        obtain ⟨g1, g2, g3, g4⟩ := less (by omega) (by omega) hrB
        refine ⟨(qh - 1, r + b1), g1, g2, ?_⟩
        rw [step_dvd19, e1, e2, decide_eq_true (show ((Y : Nat) : Int) > ((Z : Nat) : Int) by omega), decide_eq_true (show (r : Int) < 4294967296 by omega), decide_eq_false (show ¬ ((qh : Int) ≥ 4294967296) by omega)]
        simp only [wm1 hn (show n < 2147483648 by omega), din (show n - 1 < n by omega), ix, hv, g3, g4]
      · left
        have hnear := hdiv _ (k.near he (by omega) (.inr (by rw [← hZ, ← hY]; omega)))
        refine ⟨qh, by omega, hq, by omega, ?_⟩
        rw [step_dvd19, e1, e2, decide_eq_false (show ¬ (((Y : Nat) : Int) > ((Z : Nat) : Int)) by omega), decide_eq_true (show (r : Int) < 4294967296 by omega), decide_eq_false (show ¬ ((qh : Int) ≥ 4294967296) by omega)]
  · left
    have hqB : qh < 4294967296 := by
      rcases Nat.lt_or_ge qh 4294967296 with h | h
      · exact h
      · have := Nat.mul_le_mul_right b1 h
        rw [Nat.add_mul] at h2
        omega
    have hnear := hdiv _ (k.near he hqB (.inl (by omega)))
    refine ⟨qh, hqB, hq, by omega, ?_⟩
    simp only [step_dvd19, decide_eq_false (show ¬ ((r : Int) < 4294967296) by omega)]

theorem dv_step {nu nu' P x x' U qh B I J c v t lo e : Nat} (hs : nu' + P * x = nu + P * x') (hv : nu + qh * B * J = U + P * c) (ht : t = c + qh * v) (hlo : lo = t % 4294967296) (hx : x' + lo = x + e * 4294967296) (hp : P = I * J) :
    nu' + qh * (B + I * v) * J = U + P * 4294967296 * (t / 4294967296 + e) := by
  have h1 : P * x' + P * lo = P * x + P * (e * 4294967296) := by rw [← Nat.mul_add, ← Nat.mul_add, hx]
  have h2 : P * t = P * lo + P * (4294967296 * (t / 4294967296)) := by rw [← Nat.mul_add, hlo, Nat.mod_add_div]
  have h3 : P * t = P * c + P * (qh * v) := by rw [ht, Nat.mul_add]
  have h4 : qh * (B + I * v) * J = qh * B * J + P * (qh * v) := by
    rw [Nat.mul_add, Nat.add_mul, hp]
    congr 1
    ac_rfl
  have h5 : P * 4294967296 * (t / 4294967296 + e) = P * (4294967296 * (t / 4294967296)) + P * (e * 4294967296) := by
    rw [Nat.mul_add, Nat.mul_assoc, Nat.mul_assoc, Nat.mul_comm 4294967296 e]
  rw [h4, h5]
  omega
theorem dvd23 {R : Type} (K : X → St → Option R) (N : Nat) (hN : 10 ≤ N) {b qh n un on j : Nat} (hn2 : n ≤ 8) (hq : qh < 4294967296) (y t11 : Int) (l0 l1 u v o : List Int) (hu : okD u) (hun : u.length = un) (hj : j + n < un) (hun2 : un ≤ 100) (hv : ∀ i, i < n → v[i]? = some ((dgt b i : Nat) : Int)) :
    ∃ (u' : List Int) (c : Nat), okD u' ∧ u'.length = un ∧ c ≤ 4294967296 ∧ u'.drop (j + n) = u.drop (j + n) ∧ nv u' + qh * (b % 4294967296 ^ n) * 4294967296 ^ j = nv u + 4294967296 ^ (j + n) * c ∧
      lp_dvd23 N N (st_dvd23 (n : Int) y un n on t11 (j : Int) (qh : Int) 0 (n : Int) 0 l0 l1 u v o) K = K (.exit 6) (en_dvd23_0 (n : Int) y un n on t11 (j : Int) (qh : Int) (c : Int) l0 l1 u' v o) := by
  refine loop_fuel (fun M (s : Nat × Nat × List Int) => lp_dvd23 N M (st_dvd23 (n : Int) y un n on t11 (j : Int) (qh : Int) (s.2.1 : Int) (n : Int) (s.1 : Int) l0 l1 s.2.2 v o) K)
    (fun s => s.1 ≤ n ∧ okD s.2.2 ∧ s.2.2.length = un ∧ s.2.1 ≤ 4294967296 ∧ s.2.2.drop (j + n) = u.drop (j + n) ∧ nv s.2.2 + qh * (b % 4294967296 ^ s.1) * 4294967296 ^ j = nv u + 4294967296 ^ (s.1 + j) * s.2.1) (fun s => n - s.1)
    (fun x => ∃ (u' : List Int) (c : Nat), okD u' ∧ u'.length = un ∧ c ≤ 4294967296 ∧ u'.drop (j + n) = u.drop (j + n) ∧ nv u' + qh * (b % 4294967296 ^ n) * 4294967296 ^ j = nv u + 4294967296 ^ (j + n) * c ∧ x = K (.exit 6) (en_dvd23_0 (n : Int) y un n on t11 (j : Int) (qh : Int) (c : Int) l0 l1 u' v o))
    (fun M s hs => ?_) (s := (0, 0, u)) ⟨Nat.zero_le _, hu, hun, Nat.zero_le _, rfl, by simp [Nat.mod_one]⟩ (by dsimp only; omega)
  obtain ⟨i, c, l⟩ := s
  obtain ⟨hi, hl, hlen, hc, hd, hval⟩ := hs
  dsimp only at hi hl hlen hc hd hval ⊢
  by_cases h1 : i < n
  · right
    have hvi := hv i h1
    have hdg := dgt_lt b i
    obtain ⟨x, hx, hxb, _⟩ := nat_get hl (show i + j < l.length by omega)
    have hm := mulB hq hdg
    generalize hvd : dgt b i = vd at hvi hdg hm
    have ht : IntKind.u64.wrap ((c : Int) + IntKind.u64.wrap ((qh : Int) * IntKind.u64.wrap (vd : Int))) = ((c + qh * vd : Nat) : Int) := by
      rw [wrap64 (n := vd) (by omega), ← Int.natCast_mul, wrap64 (by omega), ← Int.natCast_add, wrap64 (by omega)]
    have hand : IntKind.u64.wrap (((BitVec.ofInt 64 ((c + qh * vd : Nat) : Int) &&& BitVec.ofInt 64 4294967295).toNat : Nat) : Int) = (((c + qh * vd) % 4294967296 : Nat) : Int) := by
      rw [and_mask (by omega), wrap64 (by omega)]
    have hx64 := wrap64 (n := x) (by omega)
    have hlo : (c + qh * vd) % 4294967296 < 4294967296 := Nat.mod_lt _ (by decide)
    have hidx : i + j = j + i := Nat.add_comm _ _
    have fin : ∀ (x' e : Nat), x' < 4294967296 → x' + (c + qh * vd) % 4294967296 = x + e * 4294967296 → (c + qh * vd) / 4294967296 + e ≤ 4294967296 →
        (i + 1 ≤ n ∧ okD (l.set (i + j) (x' : Int)) ∧ (l.set (i + j) (x' : Int)).length = un ∧ (c + qh * vd) / 4294967296 + e ≤ 4294967296 ∧ (l.set (i + j) (x' : Int)).drop (j + n) = u.drop (j + n) ∧ nv (l.set (i + j) (x' : Int)) + qh * (b % 4294967296 ^ (i + 1)) * 4294967296 ^ j = nv u + 4294967296 ^ (i + 1 + j) * ((c + qh * vd) / 4294967296 + e)) := by
      intro x' e h3 h4 h5
      refine ⟨h1, hl.set _ (by omega), by simpa using hlen, h5, by rw [drop_set (by omega)]; exact hd, ?_⟩
      have h6 := nv_set hx (x' : Int)
      rw [Int.toNat_natCast, Int.toNat_natCast] at h6
      rw [mod_succ, hvd, show i + 1 + j = i + j + 1 by omega, Nat.pow_succ]
      exact dv_step h6 hval rfl rfl h4 (Nat.pow_add _ _ _)
    by_cases hlt : x < (c + qh * vd) % 4294967296
    · refine ⟨(i + 1, (c + qh * vd) / 4294967296 + 1, l.set (i + j) ((x + 4294967296 - (c + qh * vd) % 4294967296 : Nat) : Int)), fin _ 1 (by omega) (by omega) (by omega), by dsimp only; omega, ?_⟩
      have e1 : IntKind.u32.wrap (IntKind.u64.wrap ((x : Int) - (((c + qh * vd) % 4294967296 : Nat) : Int))) = ((x + 4294967296 - (c + qh * vd) % 4294967296 : Nat) : Int) := by
        have e : IntKind.u64.wrap ((x : Int) - (((c + qh * vd) % 4294967296 : Nat) : Int)) = ((x + 18446744073709551616 - (c + qh * vd) % 4294967296 : Nat) : Int) := by
          generalize (c + qh * vd) % 4294967296 = lo at hlt hlo
          simp only [IntKind.wrap, IntKind.signed, IntKind.bits]
          first | omega | (simp; omega)
        rw [e, wrap32]
        omega
      have e2 : IntKind.u64.wrap ((((c + qh * vd) / 4294967296 : Nat) : Int) + 1) = (((c + qh * vd) / 4294967296 + 1 : Nat) : Int) := by
        rw [show (((c + qh * vd) / 4294967296 : Nat) : Int) + 1 = (((c + qh * vd) / 4294967296 + 1 : Nat) : Int) by omega, wrap64 (by omega)]
      simp only [step_dvd23, dlt h1, din h1, ix, hvi, wz2 (show i + j < 2147483648 by omega), din (show i + j < un by omega), hx, decide_eq_true (show i + j < l.length by omega), ht, hand, hx64, decide_eq_true (show (x : Int) < (((c + qh * vd) % 4294967296 : Nat) : Int) by omega), e1, shr32, e2, wr (show i < 2147483648 by omega)]
    · refine ⟨(i + 1, (c + qh * vd) / 4294967296 + 0, l.set (i + j) ((x - (c + qh * vd) % 4294967296 : Nat) : Int)), fin _ 0 (by omega) (by omega) (by omega), by dsimp only; omega, ?_⟩
      have e1 : IntKind.u32.wrap (IntKind.u64.wrap ((x : Int) - (((c + qh * vd) % 4294967296 : Nat) : Int))) = ((x - (c + qh * vd) % 4294967296 : Nat) : Int) := by
        rw [show (x : Int) - (((c + qh * vd) % 4294967296 : Nat) : Int) = ((x - (c + qh * vd) % 4294967296 : Nat) : Int) by omega, wrap64 (by omega), wrap32, Nat.mod_eq_of_lt (by omega)]
      simp only [step_dvd23, dlt h1, din h1, ix, hvi, wz2 (show i + j < 2147483648 by omega), din (show i + j < un by omega), hx, decide_eq_true (show i + j < l.length by omega), ht, hand, hx64, decide_eq_false (show ¬ ((x : Int) < (((c + qh * vd) % 4294967296 : Nat) : Int)) by omega), e1, shr32, Nat.add_zero, wr (show i < 2147483648 by omega)]
  · left
    have e : i = n := by omega
    subst e
    refine ⟨l, c, hl, hlen, hc, hd, by rw [Nat.add_comm j i]; exact hval, ?_⟩
    simp only [step_dvd23, dge (Nat.le_refl _)]

theorem dv_add {nu nu' P x U B I J c v t : Nat} (hs : nu' + P * x = nu + P * (t % 4294967296)) (hv : nu + P * c = U + B * J) (ht : t = c + (x + v)) (hp : P = I * J) :
    nu' + P * 4294967296 * (t / 4294967296) = U + (B + I * v) * J := by
  have h2 : P * t = P * (t % 4294967296) + P * (4294967296 * (t / 4294967296)) := by rw [← Nat.mul_add, Nat.mod_add_div]
  have h3 : P * t = P * c + (P * x + P * v) := by rw [ht, Nat.mul_add, Nat.mul_add]
  have h4 : (B + I * v) * J = B * J + P * v := by
    rw [Nat.add_mul, hp]
    congr 1
    ac_rfl
  rw [h4, Nat.mul_assoc]
  omega
theorem dvd39 {R : Type} (K : X → St → Option R) (N : Nat) (hN : 10 ≤ N) {b q n un on j : Nat} (hn2 : n ≤ 8) (y t11 : Int) (l0 l1 u v o : List Int) (hu : okD u) (hun : u.length = un) (hj : j + n < un) (hun2 : un ≤ 100) (hv : ∀ i, i < n → v[i]? = some ((dgt b i : Nat) : Int)) :
    ∃ (u' : List Int) (c : Nat), okD u' ∧ u'.length = un ∧ c ≤ 1 ∧ u'.drop (j + n) = u.drop (j + n) ∧ nv u' + 4294967296 ^ (j + n) * c = nv u + (b % 4294967296 ^ n) * 4294967296 ^ j ∧
      lp_dvd39 N N (st_dvd39 (n : Int) y un n on t11 (j : Int) (q : Int) 0 (n : Int) 0 l0 l1 u v o) K = K (.exit 8) (en_dvd39_0 (n : Int) y un n on t11 (j : Int) (q : Int) (c : Int) l0 l1 u' v o) := by
  refine loop_fuel (fun M (s : Nat × Nat × List Int) => lp_dvd39 N M (st_dvd39 (n : Int) y un n on t11 (j : Int) (q : Int) (s.2.1 : Int) (n : Int) (s.1 : Int) l0 l1 s.2.2 v o) K)
    (fun s => s.1 ≤ n ∧ okD s.2.2 ∧ s.2.2.length = un ∧ s.2.1 ≤ 1 ∧ s.2.2.drop (j + n) = u.drop (j + n) ∧ nv s.2.2 + 4294967296 ^ (s.1 + j) * s.2.1 = nv u + (b % 4294967296 ^ s.1) * 4294967296 ^ j) (fun s => n - s.1)
    (fun x => ∃ (u' : List Int) (c : Nat), okD u' ∧ u'.length = un ∧ c ≤ 1 ∧ u'.drop (j + n) = u.drop (j + n) ∧ nv u' + 4294967296 ^ (j + n) * c = nv u + (b % 4294967296 ^ n) * 4294967296 ^ j ∧ x = K (.exit 8) (en_dvd39_0 (n : Int) y un n on t11 (j : Int) (q : Int) (c : Int) l0 l1 u' v o))
    (fun M s hs => ?_) (s := (0, 0, u)) ⟨Nat.zero_le _, hu, hun, Nat.zero_le _, rfl, by simp [Nat.mod_one]⟩ (by dsimp only; omega)
  obtain ⟨i, c, l⟩ := s
  obtain ⟨hi, hl, hlen, hc, hd, hval⟩ := hs
  dsimp only at hi hl hlen hc hd hval ⊢
  by_cases h1 : i < n
  · right
    have hvi := hv i h1
    have hdg := dgt_lt b i
    obtain ⟨x, hx, hxb, _⟩ := nat_get hl (show i + j < l.length by omega)
    generalize hvd : dgt b i = vd at hvi hdg
    have ht : IntKind.u64.wrap ((c : Int) + IntKind.u64.wrap (IntKind.u64.wrap (x : Int) + IntKind.u64.wrap (vd : Int))) = ((c + (x + vd) : Nat) : Int) := by
      rw [wrap64 (n := x) (by omega), wrap64 (n := vd) (by omega), ← Int.natCast_add, wrap64 (by omega), ← Int.natCast_add, wrap64 (by omega)]
    refine ⟨(i + 1, (c + (x + vd)) / 4294967296, l.set (i + j) (((c + (x + vd)) % 4294967296 : Nat) : Int)), ⟨h1, hl.set _ (by omega), by simpa using hlen, by dsimp only; omega, by dsimp only; rw [drop_set (by omega)]; exact hd, ?_⟩, by dsimp only; omega, ?_⟩
    · dsimp only
      have h6 := nv_set hx (((c + (x + vd)) % 4294967296 : Nat) : Int)
      rw [Int.toNat_natCast, Int.toNat_natCast] at h6
      rw [mod_succ, hvd, show i + 1 + j = i + j + 1 by omega, Nat.pow_succ]
      exact dv_add h6 hval rfl (Nat.pow_add _ _ _)
    · simp only [step_dvd39, dlt h1, din h1, ix, hvi, wz2 (show i + j < 2147483648 by omega), din (show i + j < un by omega), hx, decide_eq_true (show i + j < l.length by omega), ht, wrap32, shr32, wr (show i < 2147483648 by omega)]
  · left
    have e : i = n := by omega
    subst e
    refine ⟨l, c, hl, hlen, hc, hd, by rw [Nat.add_comm j i]; exact hval, ?_⟩
    simp only [step_dvd39, dge (Nat.le_refl _)]
end Go.Proofs.Ytbhfjdlhhjeknaa.Ab
