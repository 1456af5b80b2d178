/- One turn of the division of digits. Only lemmas. -/
import Derived.Test.YtbhfjdlhhjeknaaDivL
namespace Go.Proofs.Ytbhfjdlhhjeknaa.Ab
set_option linter.unusedVariables false
set_option linter.unusedSimpArgs false
open Go

/-- The first guess of a digit. -/
theorem dvd_guess {R : Type} (K : X → St → Option R) (N : Nat) (hN : 10 ≤ N) (M : Nat) {b n un on j : Nat} (hn : 1 ≤ n) (hn2 : n ≤ 8) (hun2 : un ≤ 100) (y : Int) (l0 l1 u v o : List Int) (hu : okD u) (hun : u.length = un) (hj : j + n < un)
    (hb : b < 4294967296 ^ n) (hb2 : 2147483648 * 4294967296 ^ (n - 1) ≤ b) (hU : nv u < b * 4294967296 ^ (j + 1)) (hv : ∀ i, i < n → v[i]? = some ((dgt b i : Nat) : Int)) :
    ∃ qh : Nat, qh < 4294967296 ∧ nv u / 4294967296 ^ j / b ≤ qh ∧ qh ≤ nv u / 4294967296 ^ j / b + 1 ∧
      lp_dvd12 N (M + 1) (st_dvd12 (n : Int) y un n on (((if 1 < n then dgt b (n - 2) else 0 : Nat)) : Int) (j : Int) l0 l1 u v o) K =
      lp_dvd23 N N (st_dvd23 (n : Int) y un n on (((if 1 < n then dgt b (n - 2) else 0 : Nat)) : Int) (j : Int) (qh : Int) 0 (n : Int) 0 l0 l1 u v o) (kt_dvd23 N (bk_dvd12 N M K)) := by
  have k := kn_of (U := nv u) (j := j) hn hb hb2 hU
  have hv1 := hv (n - 1) (by omega)
  obtain ⟨e1, h1, h1b, h1d⟩ := nat_get hu (show j + n < u.length by omega)
  obtain ⟨e2, h2, h2b, h2d⟩ := nat_get hu (show j + n - 1 < u.length by omega)
  rw [← h1d, ← h2d] at k
  have hb1lo := k.b1lo
  have hb1hi := k.b1hi
  generalize hb1d : dgt b (n - 1) = b1 at k hv1 hb1lo hb1hi
  obtain ⟨two, htwo⟩ : ∃ two, two = e1 * 4294967296 + e2 := ⟨_, rfl⟩
  rw [← htwo] at k
  have ht64 : two < 18446744073709551616 := by omega
  have hT : IntKind.u64.wrap (((BitVec.ofInt 64 (IntKind.u64.wrap (IntKind.u64.wrap (e1 : Int) * 2 ^ 32)) ||| BitVec.ofInt 64 (IntKind.u64.wrap (e2 : Int))).toNat : Nat) : Int) = ((two : Nat) : Int) := by
    rw [wrap64 (n := e1) (by omega), wrap64 (n := e2) (by omega), sh32 h1b, or32 h1b h2b, ← htwo, wrap64 ht64]
  have hb64 : IntKind.u64.wrap (b1 : Int) = (b1 : Int) := wrap64 (by omega)
  have hq64 : IntKind.u64.wrap (Int.tdiv (two : Int) (b1 : Int)) = ((two / b1 : Nat) : Int) := by
    rw [show Int.tdiv (two : Int) (b1 : Int) = ((two / b1 : Nat) : Int) from rfl, wrap64 (Nat.lt_of_le_of_lt (Nat.div_le_self _ _) ht64)]
  have hr64 : Int.tmod (two : Int) (b1 : Int) = ((two % b1 : Nat) : Int) := rfl
  have hne : decide ((b1 : Int) = 0) = false := decide_eq_false (by omega)
  have w1 := wz2 (i := j) (k := n) (by omega)
  have w2 := wm1 (n := j + n) (by omega) (by omega)
  have w3 := wm1 hn (show n < 2147483648 by omega)
  have hge : decide ((j : Int) ≥ 0) = true := decide_eq_true (by omega)
  by_cases hn1 : 1 < n
  · rw [if_pos hn1, if_pos hn1] at k
    rw [if_pos hn1]
    obtain ⟨e5, h5, h5b, h5d⟩ := nat_get hu (show j + n - 2 < u.length by omega)
    rw [← h5d] at k
    have w4 := wm2 (n := j + n) (by omega) (by omega)
    have he5 : IntKind.u64.wrap (e5 : Int) = (e5 : Int) := wrap64 (by omega)
    obtain ⟨qh, q1, q2, q3, q4⟩ := dvd19 (kt_dvd19 N (bk_dvd12 N M K)) N hN k hn hn2 (un := un) (on := on) y (j : Int) l0 l1 u v o hv1
    refine ⟨qh, q1, q2, q3, ?_⟩
    rw [end_dvd19_0] at q4
    rw [← q4]
    simp only [step_dvd12, hge, w1, w2, w3, w4, din (show j + n < un by omega), din (show j + n - 1 < un by omega), din (show j + n - 2 < un by omega), din (show n - 1 < n by omega), ix, h1, h2, h5, hv1, hT, hb64, hne, hq64, hr64, he5, decide_eq_true (show (n : Int) > 1 by omega)]
  · rw [if_neg hn1, if_neg hn1] at k
    rw [if_neg hn1]
    obtain ⟨qh, q1, q2, q3, q4⟩ := dvd19 (kt_dvd19 N (bk_dvd12 N M K)) N hN k hn hn2 (un := un) (on := on) y (j : Int) l0 l1 u v o hv1
    refine ⟨qh, q1, q2, q3, ?_⟩
    rw [end_dvd19_0] at q4
    rw [← q4]
    simp only [step_dvd12, hge, w1, w2, w3, din (show j + n < un by omega), din (show j + n - 1 < un by omega), din (show n - 1 < n by omega), ix, h1, h2, hv1, hT, hb64, hne, hq64, hr64, decide_eq_false (show ¬ ((n : Int) > 1) by omega)]
    rfl

/-- The digits above a place are none. -/
theorem high_zero {u : List Int} {k : Nat} (hu : okD u) (h : nv u < 4294967296 ^ k) : nv (u.drop k) = 0 := by
  by_cases hk : k ≤ u.length
  · exact drop_lt h hk
  · rw [List.drop_of_length_le (by omega)]; rfl
/-- The value by the lower digits and one upper one. -/
theorem nv_top {u : List Int} {k x : Nat} (hu : okD u) (hx : u[k]? = some (x : Int)) (hz : nv (u.drop (k + 1)) = 0) : nv u = nv (u.take k) + 4294967296 ^ k * x ∧ nv (u.take k) < 4294967296 ^ k := by
  have hk := getElem?_lt hx
  have h1 := nv_take_drop u k (by omega)
  have h2 := nv_lt (hu.take k)
  rw [List.length_take, Nat.min_eq_left (by omega)] at h2
  have d1 : u.drop k = (x : Int) :: u.drop (k + 1) := by
    rw [List.drop_eq_getElem_cons hk]
    congr 1
    have := List.getElem?_eq_getElem hk
    rw [hx] at this
    exact (Option.some.inj this).symm
  rw [d1] at h1
  simp only [nv, hz, Int.toNat_natCast, Nat.mul_zero, Nat.add_zero] at h1
  exact ⟨h1, h2⟩
theorem dvd_turn {R : Type} (K : X → St → Option R) (N : Nat) (hN : 10 ≤ N) (M : Nat) {b n un on j : Nat} (hn : 1 ≤ n) (hn2 : n ≤ 8) (hun2 : un ≤ 100) (y : Int) (l0 l1 u v o : List Int) (hu : okD u) (hun : u.length = un) (hj : j + n < un)
    (hb : b < 4294967296 ^ n) (hb2 : 2147483648 * 4294967296 ^ (n - 1) ≤ b) (hU : nv u < b * 4294967296 ^ (j + 1)) (hv : ∀ i, i < n → v[i]? = some ((dgt b i : Nat) : Int)) (ho : o.length = on) (hjo : j < on) :
    ∃ u' : List Int, okD u' ∧ u'.length = un ∧ nv u' + nv u / 4294967296 ^ j / b * (b * 4294967296 ^ j) = nv u ∧ nv u' < b * 4294967296 ^ j ∧ nv u / 4294967296 ^ j / b < 4294967296 ∧
      lp_dvd12 N (M + 1) (st_dvd12 (n : Int) y un n on (((if 1 < n then dgt b (n - 2) else 0 : Nat)) : Int) (j : Int) l0 l1 u v o) K =
      lp_dvd12 N M (st_dvd12 (n : Int) y un n on (((if 1 < n then dgt b (n - 2) else 0 : Nat)) : Int) ((j : Int) - 1) l0 l1 u' v (o.set j ((nv u / 4294967296 ^ j / b : Nat) : Int))) K := by
  obtain ⟨qh, q1, q2, q3, q4⟩ := dvd_guess K N hN M hn hn2 hun2 (on := on) y l0 l1 u v o hu hun hj hb hb2 hU hv
  generalize (((if 1 < n then dgt b (n - 2) else 0 : Nat)) : Int) = t11 at q4 ⊢
  obtain ⟨u1, c, a1, a2, a3, a4, a5, a6⟩ := dvd23 (kt_dvd23 N (bk_dvd12 N M K)) N hN (b := b) (on := on) hn2 q1 y t11 l0 l1 u v o hu hun hj hun2 hv
  rw [Nat.mod_eq_of_lt hb] at a5
  have hJ := bpow_pos j
  have hb0 : 0 < b := Nat.lt_of_lt_of_le (Nat.mul_pos (by decide) (bpow_pos (n - 1))) hb2
  have hD0 : 0 < b * 4294967296 ^ j := Nat.mul_pos hb0 hJ
  -- the digit
  have hdm : nv u / 4294967296 ^ j / b = nv u / (b * 4294967296 ^ j) := by rw [Nat.div_div_eq_div_mul, Nat.mul_comm]
  have hmod := Nat.div_add_mod (nv u) (b * 4294967296 ^ j)
  have hrem := Nat.mod_lt (nv u) hD0
  have hUn : nv u < 4294967296 ^ (j + n + 1) := by
    have h1 : b * 4294967296 ^ (j + 1) < 4294967296 ^ n * 4294967296 ^ (j + 1) := Nat.mul_lt_mul_of_pos_right hb (bpow_pos _)
    rw [← Nat.pow_add, show n + (j + 1) = j + n + 1 by omega] at h1
    omega
  have hbJ : b * 4294967296 ^ j < 4294967296 ^ (j + n) := by
    have h1 : b * 4294967296 ^ j < 4294967296 ^ n * 4294967296 ^ j := Nat.mul_lt_mul_of_pos_right hb hJ
    rw [← Nat.pow_add, Nat.add_comm n j] at h1
    exact h1
  rw [hdm] at q2 q3 ⊢
  generalize hqd : nv u / (b * 4294967296 ^ j) = q at q2 q3 hmod ⊢
  have hqb : q < 4294967296 := by
    rw [← hqd, Nat.div_lt_iff_lt_mul hD0, Nat.mul_comm, Nat.mul_assoc, ← Nat.pow_succ]
    exact hU
  -- the upper digits
  have hz : nv (u.drop (j + n + 1)) = 0 := high_zero hu hUn
  have hz1 : nv (u1.drop (j + n + 1)) = 0 := by
    have h1 := congrArg (List.drop 1) a4
    rw [List.drop_drop, List.drop_drop] at h1
    rw [h1]
    exact hz
  obtain ⟨x, hx, hxb, _⟩ := nat_get a1 (show j + n < u1.length by omega)
  obtain ⟨t1, t2⟩ := nv_top a1 hx hz1
  have hP := bpow_pos (j + n)
  have w1 := wz2 (i := j) (k := n) (by omega)
  have hx64 : IntKind.u64.wrap (x : Int) = (x : Int) := wrap64 (by omega)
  have wj : IntKind.i64.wrap ((j : Int) - 1) = (j : Int) - 1 := by rw [wrap_z (by omega) (by omega)]
  have hq32 : IntKind.u32.wrap (q : Int) = (q : Int) := by rw [wrap32, Nat.mod_eq_of_lt hqb]
  rw [a6, end_dvd23_0] at q4
  rw [q4]
  have hge : decide (0 ≤ (j : Int) ∧ (j : Int) < ((on : Nat) : Int)) = true := din hjo
  have hjl : decide (j < o.length) = true := decide_eq_true (by omega)
  have hul : decide (j + n < u1.length) = true := decide_eq_true (by omega)
  have hset := nv_set hx
  by_cases hlt : x < c
  · -- one too many
    obtain ⟨x', hx'b, hx'e, hx'w⟩ : ∃ x' : Nat, x' < 4294967296 ∧ x' + c = x + 4294967296 ∧ IntKind.u32.wrap ((x : Int) - IntKind.u32.wrap (c : Int)) = (x' : Int) := by
      by_cases hcB : c = 4294967296
      · refine ⟨x, hxb, by omega, ?_⟩
        rw [hcB, wrap32, Nat.mod_self, show (x : Int) - ((0 : Nat) : Int) = (x : Int) by omega, wrap32, Nat.mod_eq_of_lt hxb]
      · refine ⟨x + 4294967296 - c, by omega, by omega, ?_⟩
        rw [wrap32, Nat.mod_eq_of_lt (show c < 4294967296 by omega)]
        have e : IntKind.u32.wrap ((x : Int) - (c : Int)) = ((x + 4294967296 - c : Nat) : Int) := by
          simp only [IntKind.wrap, IntKind.signed, IntKind.bits]
          first | omega | (simp; omega)
        exact e
    have hs1 := hset (x' : Int)
    rw [Int.toNat_natCast, Int.toNat_natCast] at hs1
    have hok1 := a1.set (j + n) (x := (x' : Int)) (by omega)
    have hln1 : (u1.set (j + n) (x' : Int)).length = un := by simpa using a2
    obtain ⟨u2, c2, b1, b2, b3, b4, b5, b6⟩ := dvd39 (kt_dvd39 N (bk_dvd12 N M K)) N hN (b := b) (q := qh - 1) (on := on) hn2 y t11 l0 l1 (u1.set (j + n) (x' : Int)) v o hok1 hln1 hj hun2 hv
    rw [Nat.mod_eq_of_lt hb] at b5
    have hx2 : u2[j + n]? = some (x' : Int) := by
      have h1 := congrArg (fun l => l[0]?) b4
      simp only [List.getElem?_drop, Nat.add_zero] at h1
      rw [h1, List.getElem?_set_self (by omega)]
    have hz2 : nv (u2.drop (j + n + 1)) = 0 := by
      have h1 := congrArg (List.drop 1) b4
      rw [List.drop_drop, List.drop_drop, drop_set (by omega)] at h1
      rw [h1]
      exact hz1
    obtain ⟨s1, s2⟩ := nv_top b1 hx2 hz2
    have hs2 := nv_set hx2 (((x' + c2) % 4294967296 : Nat) : Int)
    rw [Int.toNat_natCast, Int.toNat_natCast] at hs2
    have hcx : 4294967296 ^ (j + n) * x + 4294967296 ^ (j + n) ≤ 4294967296 ^ (j + n) * c := by rw [← Nat.mul_succ]; exact Nat.mul_le_mul_left _ hlt
    have hqq : qh = q + 1 := by
      rcases Nat.lt_or_ge q qh with h | h
      · omega
      · have e : qh = q := by omega
        subst e
        rw [Nat.mul_assoc, Nat.mul_comm qh] at a5
        omega
    subst hqq
    rw [Nat.mul_assoc, Nat.succ_mul, Nat.mul_comm q] at a5
    have hfin : x' + c2 = 4294967296 ∧ nv (u2.take (j + n)) = nv u % (b * 4294967296 ^ j) := by
      have hc2 : c2 = 1 := by
        rcases Nat.eq_zero_or_pos c2 with h | h
        · subst h
          rw [Nat.mul_zero] at b5
          omega
        · omega
      subst hc2
      rw [Nat.mul_one] at b5
      have hc1 : c = x + 1 := by
        rcases Nat.lt_or_ge (x + 1) c with h | h
        · have h3 : 4294967296 ^ (j + n) * x + 4294967296 ^ (j + n) + 4294967296 ^ (j + n) ≤ 4294967296 ^ (j + n) * c := by
            rw [← Nat.mul_succ, ← Nat.mul_succ]
            exact Nat.mul_le_mul_left _ h
          omega
        · omega
      subst hc1
      rw [Nat.mul_succ] at a5
      omega
    obtain ⟨hf1, hf2⟩ := hfin
    refine ⟨u2.set (j + n) (((x' + c2) % 4294967296 : Nat) : Int), b1.set _ (by omega), by simpa using b2, ?_, ?_, hqb, ?_⟩
    · rw [hf1, Nat.mod_self, Nat.mul_zero] at hs2
      rw [hf1, Nat.mod_self, Nat.mul_comm q]
      omega
    · rw [hf1, Nat.mod_self, Nat.mul_zero] at hs2
      rw [hf1, Nat.mod_self]
      omega
    · have hqm : IntKind.u64.wrap (((q + 1 : Nat) : Int) - 1) = ((q + 1 - 1 : Nat) : Int) := by
        rw [show ((q + 1 : Nat) : Int) - 1 = ((q + 1 - 1 : Nat) : Int) by omega, wrap64 (by omega)]
      have hfw : IntKind.u32.wrap ((x' : Int) + IntKind.u32.wrap (c2 : Int)) = (((x' + c2) % 4294967296 : Nat) : Int) := by
        rw [wrap32, Nat.mod_eq_of_lt (show c2 < 4294967296 by omega), ← Int.natCast_add, wrap32]
      have hul2 : decide (j + n < u2.length) = true := decide_eq_true (by omega)
      simp only [w1, din (show j + n < un by omega), ix, hx, hul, hx64, decide_eq_true (show (x : Int) < (c : Int) by omega), hx'w, hqm]
      rw [b6, end_dvd39_0]
      simp only [w1, din (show j + n < un by omega), ix, hx2, hul2, hfw, hge, hjl, Nat.add_sub_cancel, hq32, wj]
  · have hcx : 4294967296 ^ (j + n) * c ≤ 4294967296 ^ (j + n) * x := Nat.mul_le_mul_left _ (by omega)
    have hs1 := hset ((x - c : Nat) : Int)
    rw [Int.toNat_natCast, Int.toNat_natCast, Nat.mul_sub] at hs1
    have hqq : qh = q := by
      rcases Nat.lt_or_ge q qh with h | h
      · have e : qh = q + 1 := by omega
        subst e
        rw [Nat.mul_assoc, Nat.succ_mul, Nat.mul_comm q] at a5
        omega
      · omega
    subst hqq
    rw [Nat.mul_assoc, Nat.mul_comm qh] at a5
    have hw : IntKind.u32.wrap ((x : Int) - IntKind.u32.wrap (c : Int)) = ((x - c : Nat) : Int) := by
      rw [wrap32, Nat.mod_eq_of_lt (show c < 4294967296 by omega), show (x : Int) - (c : Int) = ((x - c : Nat) : Int) by omega, wrap32, Nat.mod_eq_of_lt (by omega)]
    refine ⟨u1.set (j + n) ((x - c : Nat) : Int), a1.set _ (by omega), by simpa using a2, ?_, ?_, hqb, ?_⟩
    · rw [Nat.mul_comm qh]
      omega
    · omega
    · simp only [w1, din (show j + n < un by omega), ix, hx, hul, hx64, decide_eq_false (show ¬ ((x : Int) < (c : Int)) by omega), hw, hge, hjl, hq32, wj]
end Go.Proofs.Ytbhfjdlhhjeknaa.Ab
