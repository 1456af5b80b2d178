/- The division of digits: what it computes. Only lemmas. -/
import Derived.Test.YtbhfjdlhhjeknaaDivT
namespace Go.Proofs.Ytbhfjdlhhjeknaa.Ab
set_option linter.unusedVariables false
set_option linter.unusedSimpArgs false
open Go

/-! ### A function of two numbers that answers with two slices of digits -/
def gBigQ (pre : Nat → Nat → Bool) : GT := fun vs h => match vs, h with
  | [.u (.a (.big v)), .u (.a (.big w))], [] => .ite (pre v w) (.ret (.tup [.a (.dig (v / w)), .a (.dig (v % w))]) []) .no
  | _, _ => .no
theorem FnT.bigQ {f : FuncId} {fn : Func} {code : Code} {fns : Fns} (hfn : ∀ f, FnT Try.prog f (fns f)) (hf : Try.prog.funcs[f]? = some fn) (hb : fn.body = some code) (hn : (fn.name == "runtime.NumGoroutine") = false) (an : Ann)
    (pre : Nat → Nat → Bool)
    (H : ∀ D E, okD D → okD E → D.getLast? ≠ some 0 → E.getLast? ≠ some 0 → pre (nv D) (nv E) = true → ∃ N,
      (nv D < nv E ∧ run ty fns an N fn [.ro 0 D.length, .ro 1 E.length] [.at false (.int .u32 D), .at false (.int .u32 E)] = some (.tup [.a .nil, .a (.ro 0 D.length)], [.at false (.int .u32 D), .at false (.int .u32 E)])) ∨
      ∃ Q U n, run ty fns an N fn [.ro 0 D.length, .ro 1 E.length] [.at false (.int .u32 D), .at false (.int .u32 E)] =
        some (.tup [.a (.sl 2 0 Q.length), .a (.sl 3 0 n)], [.at false (.int .u32 D), .at false (.int .u32 E), .at true (.int .u32 Q), .at true (.int .u32 U)]) ∧ okD Q ∧ nv Q = nv D / nv E ∧ okD U ∧ n ≤ U.length ∧ nv (U.take n) = nv D % nv E) : FnT Try.prog f (gBigQ pre) := by
  intro vs hp v h' e μ w cvs hr hv
  unfold gBigQ at e
  split at e
  case h_2 => exact (T.no_inv e).elim
  rename_i a b
  obtain ⟨hpre, e⟩ := T.pre_inv e
  obtain ⟨rfl, rfl⟩ := T.ret_inv e
  obtain ⟨c1, c2, rfl, ⟨D, hD, rfl, hDl, hDs⟩, ⟨E, hE, rfl, hEl, hEs⟩⟩ := rep_two hv
  obtain ⟨m1, m2, f1, f2, r2, a2⟩ := open2 hr hDs hEs
  have h0 : μ.l.length = 0 := by rw [hr.len]; rfl
  have hro : ∀ b ∈ ([.at false (.int .u32 D), .at false (.int .u32 E)] : List B), ∀ c, b ≠ .at true c := by
    intro b hb c
    simp at hb
    rcases hb with rfl | rfl <;> simp
  obtain ⟨N, H⟩ := H D E hD hE hDl hEl hpre
  rcases H with ⟨hlt, hrun⟩ | ⟨Q, U, n, hrun, hQ, hQv, hU, hUn, hUv⟩
  · refine (FnT.runs hfn hf hb hn an N _ _ (.tup [.a .nil, .a (.ro 0 D.length)]) [.at false (.int .u32 D), .at false (.int .u32 E)] (by rw [T.run_of]; exact hrun) _ w _ r2 a2).mono fun cv w' ⟨μ', he, hcv⟩ => ?_
    obtain ⟨cs, rfl, hcs⟩ := hcv
    have hl : 0 < μ'.l.length := by have := he.rel.len; simp at this; omega
    have hm0 : μ'.l[0]? = some m1 := by
      obtain ⟨_, ν, hν⟩ := he.pre
      have h1 : (μ.app [m1, m2]).l = μ.l ++ [m1, m2] := rfl
      rw [hν, h1, List.append_assoc, List.getElem?_append_right (by omega), h0]
      rfl
    match cs, hcs with
    | [d1, d2], ⟨g1, g2, _⟩ =>
      have g1 : d1 = .slice none 0 0 := g1
      have g2 : RepA μ' (.ro 0 D.length) d2 := g2
      have hs := slz_ro hm0 (f1.mono he.pre.1) (Nat.le_refl _) g2
      rw [List.take_length] at hs
      refine ⟨_, Ev.cut (h := []) (ros := [.at false (.int .u32 D), .at false (.int .u32 E)]) (ms := [m1, m2]) (by rw [h0]; rfl) rfl hro he (fun i rw c hi => absurd hi (by simp)), _, rfl, ⟨[], (fun x hx => by cases hx), ?_, .inl ⟨rfl, g1⟩⟩, ⟨D, hD, ?_, hs⟩, trivial⟩
      · rw [Nat.div_eq_of_lt hlt]; rfl
      · rw [Nat.mod_eq_of_lt hlt]
  · refine (FnT.runs hfn hf hb hn an N _ _ (.tup [.a (.sl 2 0 Q.length), .a (.sl 3 0 n)]) [.at false (.int .u32 D), .at false (.int .u32 E), .at true (.int .u32 Q), .at true (.int .u32 U)] (by rw [T.run_of]; exact hrun) _ w _ r2 a2).mono fun cv w' ⟨μ', he, hcv⟩ => ?_
    obtain ⟨cs, rfl, hcs⟩ := hcv
    have hl4 : μ'.l.length = 4 := by have := he.rel.len; simpa using this
    have hl : 2 < μ'.l.length := by omega
    have hl3 : 3 < μ'.l.length := by omega
    obtain ⟨z, z1, z2, z3⟩ := he.freeze (k := 2) (List.getElem?_eq_getElem hl) rfl
    obtain ⟨z', y1, y2, y3⟩ := z3.freeze (k := 3) (List.getElem?_eq_getElem hl3) rfl
    match cs, hcs with
    | [d1, d2], ⟨g1, g2, _⟩ =>
      have g1 : RepA ⟨z', μ'.l⟩ (.sl 2 0 Q.length) d1 := RepA.pre ⟨z1.trans y1, [], by simp⟩ g1
      have g2 : RepA ⟨z', μ'.l⟩ (.sl 3 0 n) d2 := RepA.pre ⟨z1.trans y1, [], by simp⟩ g2
      have s1 := slz_sl (μ := ⟨z', μ'.l⟩) (List.getElem?_eq_getElem hl) (z2.mono y1) (Nat.le_refl _) g1
      have s2 := slz_sl (μ := ⟨z', μ'.l⟩) (List.getElem?_eq_getElem hl3) y2 hUn g2
      rw [List.take_length] at s1
      exact ⟨_, Ev.cut (h := []) (ros := [.at false (.int .u32 D), .at false (.int .u32 E)]) (ms := [m1, m2]) (by rw [h0]; rfl) rfl hro y3 (fun i rw c hi => absurd hi (by simp)), _, rfl, ⟨Q, hQ, hQv, s1⟩, ⟨U.take n, hU.take n, hUv, s2⟩, trivial⟩

/-! ### Moved up until the top bit is set -/
theorem dvd5 {R : Type} (K : X → St → Option R) (N : Nat) (hN : 40 ≤ N) {n m e : Nat} (hn : 1 ≤ n) (hn2 : n ≤ 8) (l0 l1 : List Int) (he : l1[n - 1]? = some (e : Int)) (he0 : 0 < e) (heb : e < 4294967296) :
    ∃ y : Nat, y ≤ 31 ∧ 2147483648 ≤ e * 2 ^ y ∧ e * 2 ^ y < 4294967296 ∧ lp_dvd5 N N (st_dvd5 m n (n : Int) 0 l0 l1) K = K (.exit 0) (en_dvd5_0 m n (n : Int) (y : Int) l0 l1) := by
  refine loop_fuel (fun M (y : Nat) => lp_dvd5 N M (st_dvd5 m n (n : Int) (y : Int) l0 l1) K) (fun y => y ≤ 31 ∧ e * 2 ^ y < 4294967296) (fun y => 31 - y)
    (fun o => ∃ y : Nat, y ≤ 31 ∧ 2147483648 ≤ e * 2 ^ y ∧ e * 2 ^ y < 4294967296 ∧ o = K (.exit 0) (en_dvd5_0 m n (n : Int) (y : Int) l0 l1)) (fun M y hs => ?_) (s := 0) ⟨Nat.zero_le _, by simpa using heb⟩ (by omega)
  obtain ⟨hy, hlt⟩ := hs
  have hm : min (Int.toNat (y : Int)) 32 = y := by omega
  obtain ⟨X, hX⟩ : ∃ X, X = e * 2 ^ y := ⟨_, rfl⟩
  have hw : IntKind.u32.wrap ((e : Int) * 2 ^ y) = (X : Int) := by
    rw [show (e : Int) * 2 ^ y = ((e * 2 ^ y : Nat) : Int) by rw [Int.natCast_mul, Int.natCast_pow]; rfl, wrap32, Nat.mod_eq_of_lt hlt, hX]
  have w3 := wm1 hn (show n < 2147483648 by omega)
  have hneg : decide ((y : Int) < 0) = false := decide_eq_false (by omega)
  rw [← hX] at hlt
  obtain ⟨P, hP⟩ : ∃ P : Int, P = 2 ^ y := ⟨_, rfl⟩
  rw [← hP] at hw
  by_cases h1 : X < 2147483648
  · right
    have h2 : y < 31 := by
      rcases Nat.lt_or_ge y 31 with h | h
      · exact h
      · have h3 : 2 ^ 31 ≤ 2 ^ y := Nat.pow_le_pow_right (by decide) h
        have h4 := Nat.le_mul_of_pos_left (2 ^ y) he0
        have h5 : (2 : Nat) ^ 31 = 2147483648 := by decide
        omega
    refine ⟨y + 1, ⟨by omega, ?_⟩, by omega, ?_⟩
    · rw [Nat.pow_succ, ← Nat.mul_assoc, ← hX]; omega
    · have w4 : IntKind.u64.wrap ((y : Int) + 1) = ((y + 1 : Nat) : Int) := by rw [show (y : Int) + 1 = ((y + 1 : Nat) : Int) by omega, wrap64 (by omega)]
      have hd : decide ((X : Int) < 2147483648) = true := decide_eq_true (by omega)
      rw [step_dvd5, w3, din (show n - 1 < n by omega)]
      dsimp only
      rw [ix, hneg, hm, ← hP, he]
      dsimp only
      rw [hw, hd, w4]
  · left
    refine ⟨y, hy, by omega, by omega, ?_⟩
    have hd : decide ((X : Int) < 2147483648) = false := decide_eq_false (by omega)
    rw [step_dvd5, w3, din (show n - 1 < n by omega)]
    dsimp only
    rw [ix, hneg, hm, ← hP, he]
    dsimp only
    rw [hw, hd]

/-! ### All digits -/
theorem take_zero {o : List Int} {k j : Nat} {x : Int} (ho : okD o) (h : nv (o.take k) = 0) (hj : j < k) (hx : o[j]? = some x) : x = 0 := by
  have h1 : (o.take k)[j]? = some x := by rw [List.getElem?_take, if_pos hj]; exact hx
  have h2 := nv_dgt (ho.take k) h1
  rw [h] at h2
  simpa [dgt] using h2
theorem take_set_ge {o : List Int} {j : Nat} (x : Int) : (o.set j x).take j = o.take j := by
  apply List.ext_getElem?
  intro i
  rw [List.getElem?_take, List.getElem?_take]
  split
  · rw [List.getElem?_set_ne (by omega)]
  · rfl
theorem dvd_all {R : Type} (K : X → St → Option R) (N : Nat) (hN : 12 ≤ N) {b n un on A : Nat} (hn : 1 ≤ n) (hn2 : n ≤ 8) (hun2 : un ≤ 10) (hon : on + n ≤ un) (y : Int) (l0 l1 u v : List Int) (hu : okD u) (hun : u.length = un)
    (hb : b < 4294967296 ^ n) (hb2 : 2147483648 * 4294967296 ^ (n - 1) ≤ b) (hU : nv u < b * 4294967296 ^ on) (hA : nv u = A) (hv : ∀ i, i < n → v[i]? = some ((dgt b i : Nat) : Int)) :
    ∃ u' o : List Int, okD u' ∧ u'.length = un ∧ okD o ∧ o.length = on ∧ nv o = A / b ∧ nv u' = A % b ∧
      lp_dvd12 N N (st_dvd12 (n : Int) y un n on (((if 1 < n then dgt b (n - 2) else 0 : Nat)) : Int) ((on : Int) - 1) l0 l1 u v (List.replicate on 0)) K = K (.exit 2) (en_dvd12_0 (n : Int) y un on l0 l1 u' o) := by
  have hb0 : 0 < b := Nat.lt_of_lt_of_le (Nat.mul_pos (by decide) (bpow_pos (n - 1))) hb2
  refine loop_fuel (fun M (s : Nat × List Int × List Int) => lp_dvd12 N M (st_dvd12 (n : Int) y un n on (((if 1 < n then dgt b (n - 2) else 0 : Nat)) : Int) ((s.1 : Int) - 1) l0 l1 s.2.1 v s.2.2) K)
    (fun s => s.1 ≤ on ∧ okD s.2.1 ∧ s.2.1.length = un ∧ nv s.2.1 < b * 4294967296 ^ s.1 ∧ okD s.2.2 ∧ s.2.2.length = on ∧ nv (s.2.2.take s.1) = 0 ∧ nv s.2.2 * b + nv s.2.1 = A) (fun s => s.1)
    (fun x => ∃ u' o : List Int, okD u' ∧ u'.length = un ∧ okD o ∧ o.length = on ∧ nv o = A / b ∧ nv u' = A % b ∧ x = K (.exit 2) (en_dvd12_0 (n : Int) y un on l0 l1 u' o)) (fun M s hs => ?_)
    (s := (on, u, List.replicate on 0)) ⟨Nat.le_refl _, hu, hun, hU, .zeros _, by simp, by simp [nv_zeros], by simp [nv_zeros, hA]⟩ (by dsimp only; omega)
  obtain ⟨k, u1, o⟩ := s
  obtain ⟨hk, h1, h2, h3, h4, h5, h6, h7⟩ := hs
  dsimp only at hk h1 h2 h3 h4 h5 h6 h7 ⊢
  cases k with
  | zero =>
    left
    rw [Nat.pow_zero, Nat.mul_one] at h3
    refine ⟨u1, o, h1, h2, h4, h5, ?_, ?_, ?_⟩
    · rw [← h7, Nat.mul_comm, Nat.mul_add_div hb0, Nat.div_eq_of_lt h3, Nat.add_zero]
    · rw [← h7, Nat.mul_comm, Nat.mul_add_mod, Nat.mod_eq_of_lt h3]
    · have hd : decide ((((0 : Nat) : Int) - 1) ≥ 0) = false := decide_eq_false (by omega)
      simp only [step_dvd12, hd]
  | succ j =>
    right
    rw [show ((j + 1 : Nat) : Int) - 1 = (j : Int) by omega]
    obtain ⟨u', a1, a2, a3, a4, a5, a6⟩ := dvd_turn K N (by omega) M hn hn2 (by omega) y l0 l1 u1 v o h1 h2 (show j + n < un by omega) hb hb2 h3 hv h5 (by omega)
    generalize nv u1 / 4294967296 ^ j / b = q at a3 a5 a6
    obtain ⟨x, hx, _, _⟩ := nat_get h4 (show j < o.length by omega)
    have hx0 := take_zero h4 h6 (Nat.lt_succ_self j) hx
    have hset := nv_set hx (q : Int)
    rw [Int.toNat_natCast, Int.toNat_natCast, show x = 0 by omega, Nat.mul_zero, Nat.add_zero] at hset
    refine ⟨(j, u', o.set j (q : Int)), ⟨by dsimp only; omega, a1, a2, a4, h4.set _ (by omega), by simpa using h5, ?_, ?_⟩, by dsimp only; omega, a6⟩
    · dsimp only
      rw [take_set_ge]
      have := nv_take (h4.take (j + 1)) j (by rw [List.length_take]; omega)
      rw [h6, List.take_take, Nat.zero_mod, Nat.min_eq_left (by omega)] at this
      exact this
    · dsimp only
      rw [hset, Nat.add_mul, ← h7, ← a3]
      have e : 4294967296 ^ j * q * b = q * (b * 4294967296 ^ j) := by rw [Nat.mul_comm (4294967296 ^ j), Nat.mul_assoc, Nat.mul_comm (4294967296 ^ j)]
      rw [e]
      omega

/-! ### The rest moved down -/
theorem dgt_shift {U y i : Nat} (hy : y ≤ 31) : dgt (U / 2 ^ y) i = ((dgt U (i + 1) * 4294967296 + dgt U i) / 2 ^ y) % 4294967296 := by
  unfold dgt
  rw [Nat.div_div_eq_div_mul, Nat.mul_comm, ← Nat.div_div_eq_div_mul, Nat.pow_succ, ← Nat.div_div_eq_div_mul]
  generalize U / 4294967296 ^ i = V
  have hp : 0 < 2 ^ y := Nat.pow_pos (by decide)
  have e : V = (V / 4294967296 % 4294967296 * 4294967296 + V % 4294967296) + 2 ^ y * (2 ^ (32 - y) * 4294967296 * (V / 4294967296 / 4294967296)) := by
    have h1 : 2 ^ y * (2 ^ (32 - y) * 4294967296 * (V / 4294967296 / 4294967296)) = 4294967296 * 4294967296 * (V / 4294967296 / 4294967296) := by
      rw [← Nat.mul_assoc, ← Nat.mul_assoc, ← Nat.pow_add, show y + (32 - y) = 32 by omega]
    rw [h1]
    omega
  have h2 : V / 2 ^ y = (V / 4294967296 % 4294967296 * 4294967296 + V % 4294967296) / 2 ^ y + 2 ^ (32 - y) * 4294967296 * (V / 4294967296 / 4294967296) := by
    conv => lhs; rw [e]
    rw [Nat.add_mul_div_left _ _ hp]
  rw [h2, Nat.mul_comm (2 ^ (32 - y)) 4294967296, Nat.mul_assoc, Nat.add_mul_mod_self_left]
theorem take_set_succ {l : List Int} {i : Nat} (h : i < l.length) (d : Int) : (l.set i d).take (i + 1) = l.take i ++ [d] := by
  rw [List.take_add_one, List.getElem?_set_self h, take_set_ge]
  rfl
theorem dvd49 {R : Type} (K : X → St → Option R) (N : Nat) (hN : 12 ≤ N) {n y on : Nat} (hn2 : n ≤ 8) (hy : y ≤ 31) (l0 l1 o u : List Int) (hu : okD u) (hn : n < u.length) (hU : nv u < 4294967296 ^ n) :
    ∃ u' : List Int, okD u' ∧ u'.length = u.length ∧ nv (u'.take n) = nv u / 2 ^ y ∧
      lp_dvd49 N N (st_dvd49 (n : Int) (y : Int) on n (n : Int) 0 l0 l1 o u) K = K (.exit 10) (en_dvd49_0 on n l0 l1 o u') := by
  refine loop_fuel (fun M (s : Nat × List Int) => lp_dvd49 N M (st_dvd49 (n : Int) (y : Int) on n (n : Int) (s.1 : Int) l0 l1 o s.2) K)
    (fun s => s.1 ≤ n ∧ okD s.2 ∧ s.2.length = u.length ∧ s.2.drop s.1 = u.drop s.1 ∧ nv (s.2.take s.1) = nv u / 2 ^ y % 4294967296 ^ s.1) (fun s => n - s.1)
    (fun x => ∃ u' : List Int, okD u' ∧ u'.length = u.length ∧ nv (u'.take n) = nv u / 2 ^ y ∧ x = K (.exit 10) (en_dvd49_0 on n l0 l1 o u')) (fun M s hs => ?_)
    (s := (0, u)) ⟨Nat.zero_le _, hu, rfl, rfl, by simp [nv, Nat.mod_one]⟩ (by dsimp only; omega)
  obtain ⟨i, l⟩ := s
  obtain ⟨hi, hl, hlen, hd, hv⟩ := hs
  dsimp only at hi hl hlen hd hv ⊢
  by_cases h1 : i < n
  · right
    have hget : ∀ p, i ≤ p → l[p]? = u[p]? := by
      intro p hp
      have h2 := congrArg (fun l => l[p - i]?) hd
      simp only [List.getElem?_drop] at h2
      rwa [show i + (p - i) = p by omega] at h2
    have h2 : l[i]? = some ((dgt (nv u) i : Nat) : Int) := by rw [hget i (Nat.le_refl _)]; exact nv_get hu (by omega)
    have h3 : l[i + 1]? = some ((dgt (nv u) (i + 1) : Nat) : Int) := by rw [hget (i + 1) (by omega)]; exact nv_get hu (by omega)
    have hm : min (Int.toNat (y : Int)) 64 = y := by omega
    have hdi := dgt_lt (nv u) i
    have hdj := dgt_lt (nv u) (i + 1)
    have hsh := dgt_shift (U := nv u) (y := y) (i := i) hy
    obtain ⟨r, hr⟩ : ∃ r, r = dgt (nv u / 2 ^ y) i := ⟨_, rfl⟩
    have hrb : r < 4294967296 := by rw [hr]; exact dgt_lt _ _
    have hhigh : ¬ (i + 1 < n) → dgt (nv u) (i + 1) = 0 := fun h => dgt_high hU (by omega)
    rw [← hr] at hsh
    generalize dgt (nv u) i = a at h2 hdi hsh
    generalize dgt (nv u) (i + 1) = c at h3 hdj hsh hhigh
    have hp : 0 < 2 ^ y := Nat.pow_pos (by decide)
    have hfd : ∀ z : Nat, IntKind.u32.wrap (Int.fdiv (z : Int) (2 ^ (min (Int.toNat (y : Int)) 64))) = ((z / 2 ^ y % 4294967296 : Nat) : Int) := by
      intro z
      rw [hm, Int.fdiv_eq_ediv_of_nonneg _ (Int.pow_nonneg (by decide)), show (2 : Int) ^ y = ((2 ^ y : Nat) : Int) by rw [Int.natCast_pow]; rfl, show (z : Int) / ((2 ^ y : Nat) : Int) = ((z / 2 ^ y : Nat) : Int) from rfl, wrap32]
    have hneg : decide ((y : Int) < 0) = false := decide_eq_false (by omega)
    have w := wr (show i < 2147483648 by omega)
    have hll : decide (i < l.length) = true := decide_eq_true (by omega)
    refine ⟨(i + 1, l.set i (r : Int)), ⟨by dsimp only; omega, hl.set _ (by omega), by simpa using hlen, ?_, ?_⟩, by dsimp only; omega, ?_⟩
    · dsimp only
      rw [drop_set (by omega)]
      have h4 := congrArg (List.drop 1) hd
      rwa [List.drop_drop, List.drop_drop] at h4
    · dsimp only
      rw [take_set_succ (by omega), nv_snoc, hv, List.length_take, Nat.min_eq_left (by omega), Int.toNat_natCast, mod_succ, hr]
    · by_cases h4 : i + 1 < n
      · have e1 : IntKind.u32.wrap (Int.fdiv (IntKind.u64.wrap (((BitVec.ofInt 64 (IntKind.u64.wrap (IntKind.u64.wrap (c : Int) * 2 ^ 32)) ||| BitVec.ofInt 64 (IntKind.u64.wrap (a : Int))).toNat : Nat) : Int)) (2 ^ (min (Int.toNat (y : Int)) 64))) = (r : Int) := by
          rw [wrap64 (n := c) (by omega), wrap64 (n := a) (by omega), sh32 hdj, or32 hdj hdi, wrap64 (by omega), hfd, ← hsh]
        simp only [step_dvd49, dlt h1, w, dlt h4, din h1, din h4, ix, h2, h3, hneg, hll, e1]
      · rw [hhigh h4, Nat.zero_mul, Nat.zero_add] at hsh
        have e1 : IntKind.u32.wrap (Int.fdiv (IntKind.u64.wrap (((BitVec.ofInt 64 0 ||| BitVec.ofInt 64 (IntKind.u64.wrap (a : Int))).toNat : Nat) : Int)) (2 ^ (min (Int.toNat (y : Int)) 64))) = (r : Int) := by
          rw [wrap64 (n := a) (by omega), zero_or hdi, wrap64 (by omega), hfd, ← hsh]
        simp only [step_dvd49, dlt h1, w, dge (show n ≤ i + 1 by omega), din h1, ix, h2, hneg, hll, e1]
  · left
    have e : i = n := by omega
    subst e
    refine ⟨l, hl, hlen, ?_, ?_⟩
    · rw [hv]
      exact Nat.mod_eq_of_lt (Nat.lt_of_le_of_lt (Nat.div_le_self _ _) hU)
    · simp only [step_dvd49, dge (Nat.le_refl _)]

/-! ### The whole -/
theorem ok_dvd : FnT Try.prog 162 (gBigQ (fun v w => lowB v && lowB w && decide (0 < w))) := by
  refine FnT.bigQ tabok_dvd Try.func162 rfl rfl an_dvd _ fun D E hD hE hDl hEl hp => ⟨50, ?_⟩
  rw [Bool.and_eq_true, Bool.and_eq_true] at hp
  have hm := lowB_len hD hDl hp.1.1
  have hn2 := lowB_len hE hEl hp.1.2
  have hE0 := of_decide_eq_true hp.2
  have hDv := nv_lt hD
  have hEv := nv_lt hE
  have hn : 1 ≤ E.length := by
    rcases Nat.eq_zero_or_pos E.length with h | h
    · rw [List.length_eq_zero_iff.1 h] at hE0
      exact absurd hE0 (by decide)
    · exact h
  by_cases hlt : D.length < E.length
  · left
    refine ⟨cmp_len hD hE hEl hlt, ?_⟩
    rw [run_dvd, decide_eq_true (by omega)]
  · right
    rw [run_dvd, decide_eq_false (by omega)]
    dsimp only
    obtain ⟨e, he, heb, hed⟩ := nat_get hE (show E.length - 1 < E.length by omega)
    have htop := trim_ge hE hEl (by omega)
    have he1 : e = nv E / 4294967296 ^ (E.length - 1) := by
      rw [hed]
      unfold dgt
      rw [Nat.mod_eq_of_lt]
      rw [Nat.div_lt_iff_lt_mul (bpow_pos _), ← Nat.pow_succ', show (E.length - 1).succ = E.length by omega]
      exact hEv
    have he0 : 0 < e := by
      rw [he1]
      exact Nat.div_pos htop (bpow_pos _)
    obtain ⟨y, hy, hy1, hy2, hy3⟩ := dvd5 (kt_dvd5 50 (kEnd Try.f162 2)) 50 (by omega) (m := D.length) hn hn2 D E he he0 heb
    rw [hy3, end_dvd5_0]
    have hp0 : 0 < 2 ^ y := Nat.pow_pos (by decide)
    have hp31 := pow31 hy
    obtain ⟨A, hA⟩ : ∃ A, A = nv D * 2 ^ y := ⟨_, rfl⟩
    obtain ⟨b, hb⟩ : ∃ b, b = nv E * 2 ^ y := ⟨_, rfl⟩
    have hbn : b < 4294967296 ^ E.length := by
      have h1 : nv E < (e + 1) * 4294967296 ^ (E.length - 1) := by rw [he1, Nat.mul_comm]; exact Nat.lt_mul_div_succ _ (bpow_pos _)
      have h2 : nv E * 2 ^ y < (e + 1) * 4294967296 ^ (E.length - 1) * 2 ^ y := Nat.mul_lt_mul_of_pos_right h1 hp0
      have h3 : (e + 1) * 4294967296 ^ (E.length - 1) * 2 ^ y = (e * 2 ^ y + 2 ^ y) * 4294967296 ^ (E.length - 1) := by
        rw [Nat.mul_right_comm, Nat.succ_mul]
      have h4 : e * 2 ^ y + 2 ^ y ≤ 4294967296 := by
        have h5 : 4294967296 = 2 ^ (32 - y) * 2 ^ y := by rw [← Nat.pow_add, show 32 - y + y = 32 by omega]
        rw [← Nat.succ_mul, h5]
        refine Nat.mul_le_mul_right _ ?_
        rw [h5] at hy2
        exact Nat.lt_of_mul_lt_mul_right hy2
      have h5 : (e * 2 ^ y + 2 ^ y) * 4294967296 ^ (E.length - 1) ≤ 4294967296 * 4294967296 ^ (E.length - 1) := Nat.mul_le_mul_right _ h4
      rw [← Nat.pow_succ', show (E.length - 1).succ = E.length by omega] at h5
      omega
    have hb2 : 2147483648 * 4294967296 ^ (E.length - 1) ≤ b := by
      have h1 : e * 4294967296 ^ (E.length - 1) ≤ nv E := by rw [he1]; exact Nat.div_mul_le_self _ _
      have h2 : e * 4294967296 ^ (E.length - 1) * 2 ^ y ≤ nv E * 2 ^ y := Nat.mul_le_mul_right _ h1
      have h3 : 2147483648 * 4294967296 ^ (E.length - 1) ≤ e * 2 ^ y * 4294967296 ^ (E.length - 1) := Nat.mul_le_mul_right _ hy1
      rw [Nat.mul_right_comm] at h2
      omega
    have hAm : A < 4294967296 ^ (D.length + 1) := by
      have h1 : nv D * 2 ^ y < 4294967296 ^ D.length * 2 ^ y := Nat.mul_lt_mul_of_pos_right hDv hp0
      have h2 : 4294967296 ^ D.length * 2 ^ y ≤ 4294967296 ^ D.length * 4294967296 := Nat.mul_le_mul_left _ (by omega)
      rw [Nat.pow_succ]
      omega
    have hAb : A < b * 4294967296 ^ (D.length - E.length + 1) := by
      have h1 : nv D * 2 ^ y < 4294967296 ^ D.length * 2 ^ y := Nat.mul_lt_mul_of_pos_right hDv hp0
      have h2 : 4294967296 ^ D.length * 2 ^ y ≤ 4294967296 ^ D.length * 2147483648 := Nat.mul_le_mul_left _ hp31
      have h3 : 2147483648 * 4294967296 ^ (E.length - 1) * 4294967296 ^ (D.length - E.length + 1) ≤ b * 4294967296 ^ (D.length - E.length + 1) := Nat.mul_le_mul_right _ hb2
      rw [Nat.mul_assoc, ← Nat.pow_add, show E.length - 1 + (D.length - E.length + 1) = D.length by omega, Nat.mul_comm] at h3
      omega
    have ok1 : dbOk D.length D (y : Int) = true := by unfold dbOk; rw [Bool.and_eq_true]; exact ⟨decide_eq_true (by omega), digB_iff.2 hD⟩
    have ok2 : dbOk E.length E (y : Int) = true := by unfold dbOk; rw [Bool.and_eq_true]; exact ⟨decide_eq_true (by omega), digB_iff.2 hE⟩
    have on1 : IntKind.i64.wrap ((D.length : Int) - (E.length : Int)) = ((D.length - E.length + 1 : Nat) : Int) - 1 := by rw [wrap_z (by omega) (by omega)]; omega
    have on2 : IntKind.i64.wrap (((D.length - E.length + 1 : Nat) : Int) - 1 + 1) = ((D.length - E.length + 1 : Nat) : Int) := by rw [wrap_z (by omega) (by omega)]; omega
    have tn : ((E.length : Int) - 0).toNat = E.length := by omega
    have hdec : decide (0 ≤ (0 : Int) ∧ (0 : Int) ≤ (E.length : Int) ∧ ((E.length : Int) : Int) ≤ ((E.length + 1 : Nat) : Int)) = true := decide_eq_true (by omega)
    have hdec2 : decide (0 ≤ (((D.length - E.length + 1 : Nat) : Int) : Int) ∧ (((D.length - E.length + 1 : Nat) : Int) : Int) ≤ ((D.length - E.length + 1 : Nat) : Int) ∧ (((D.length - E.length + 1 : Nat) : Int) : Int) ≤ 9223372036854775807 ∧ (D.length - E.length + 1) * 4 ≤ 140737488355328 ∧ 0 < 1 ∧ True) = true := decide_eq_true ⟨by omega, by omega, by omega, by omega, by omega, trivial⟩
    have hvg : ∀ i, i < E.length → (dg (E.length + 1) b)[i]? = some ((dgt b i : Nat) : Int) := fun i hi => dg_get (by omega)
    have huv : nv (dg (D.length + 1) A) = A := by rw [nv_dg, Nat.mod_eq_of_lt hAm]
    have mid : ∃ Q U n, (lp_dvd12 50 50 (st_dvd12 (E.length : Int) (y : Int) (D.length + 1) E.length (D.length - E.length + 1) (((if 1 < E.length then dgt b (E.length - 2) else 0 : Nat)) : Int) (((D.length - E.length + 1 : Nat) : Int) - 1) D E (dg (D.length + 1) A) (dg (E.length + 1) b) (List.replicate (D.length - E.length + 1) 0)) (kt_dvd12 50 (kEnd Try.f162 2))) =
        some (.tup [.a (.sl 2 0 Q.length), .a (.sl 3 0 n)], [.at false (.int .u32 D), .at false (.int .u32 E), .at true (.int .u32 Q), .at true (.int .u32 U)]) ∧ okD Q ∧ nv Q = nv D / nv E ∧ okD U ∧ n ≤ U.length ∧ nv (U.take n) = nv D % nv E := by
      obtain ⟨u', o, a1, a2, a3, a4, a5, a6, a7⟩ := dvd_all (kt_dvd12 50 (kEnd Try.f162 2)) 50 (by omega) (b := b) (un := D.length + 1) (on := D.length - E.length + 1) (A := A) hn hn2 (by omega) (by omega) (y : Int) D E (dg (D.length + 1) A) (dg (E.length + 1) b) (dg_ok _ _) (dg_len _ _) hbn hb2 (by rw [huv]; exact hAb) huv hvg
      have hb0 : 0 < b := by rw [hb]; exact Nat.mul_pos hE0 hp0
      have hlt2 := Nat.mod_lt A hb0
      obtain ⟨u2, c1, c2, c3, c4⟩ := dvd49 (kt_dvd49 50 (kEnd Try.f162 2)) 50 (by omega) (n := E.length) (on := D.length - E.length + 1) hn2 hy D E o u' a1 (by omega) (by rw [a6]; omega)
      refine ⟨o, u2, E.length, ?_, a3, ?_, c1, by omega, ?_⟩
      · have hd3 : decide (0 ≤ (0 : Int) ∧ (0 : Int) ≤ (E.length : Int) ∧ ((E.length : Int) : Int) ≤ ((D.length + 1 : Nat) : Int)) = true := decide_eq_true (by omega)
        rw [a7, end_dvd12_0, hd3]
        dsimp only
        rw [tn, c4, end_dvd49_0, a4]
      · rw [a5, hA, hb, Nat.mul_div_mul_right _ _ hp0]
      · rw [c3, a6, hA, hb, Nat.mul_mod_mul_right, Nat.mul_div_cancel _ hp0]
    simp only [ok1, ok2, hdec, on1, on2, hdec2, Int.toNat_natCast, tn, ← hA, ← hb]
    by_cases h1 : 1 < E.length
    · rw [if_pos h1] at mid
      have w4 := wm2 (n := E.length) (by omega) (by omega)
      have h64 : IntKind.u64.wrap ((dgt b (E.length - 2) : Nat) : Int) = ((dgt b (E.length - 2) : Nat) : Int) := wrap64 (by have := dgt_lt b (E.length - 2); omega)
      simp only [decide_eq_true (show (E.length : Int) > 1 by omega), w4, din (show E.length - 2 < E.length by omega), ix, hvg (E.length - 2) (by omega), h64]
      exact mid
    · rw [if_neg h1] at mid
      simp only [decide_eq_false (show ¬ ((E.length : Int) > 1) by omega)]
      exact mid
end Go.Proofs.Ytbhfjdlhhjeknaa.Ab
