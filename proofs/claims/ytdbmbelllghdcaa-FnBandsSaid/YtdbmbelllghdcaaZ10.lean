/- What the proof names: lemmas and words, merged by a program from its parts. No condition. -/
import Derived.Test.YtdbmbelllghdcaaZ4
import Derived.Test.YtdbmbelllghdcaaZ9
import Derived.Test.YtdbmbelllghdcaaZ2
namespace Go.Proofs.Ytdbmbelllghdcaa.Ab
set_option linter.unusedVariables false
set_option linter.unusedSimpArgs false
open Go
theorem lp_baD {R : Type} (M : Nat) (K : X → St → Option R)  {x0 x1 : List Nat} {e hi : Nat} (hB : BF x0 x1 e hi) (o : List Nat) (ho : o.length < 1000) : ∀ t i was (out : List Nat), i + t = 9 → 1 ≤ i → beL x0 x1 1031798784 hi t i was (eG 1031798784 hi (i - 1)) out = some o →
    lp_baD21 40 (M + t + 1) (st_baD21 hi o.length was true ((out.length : Nat) : Int) ((i : Nat) : Int) x0.length x1.length o x0 x1) K = K (.exit 0) (en_baD21_1 o.length true ((o.length : Nat) : Int) o)
  | 0, i, was, out, hi9, h1, hb => by
    have : i = 9 := by omega
    subst this
    cases hb
    rw [step_baD21]
    rfl
  | t + 1, i, was, out, hi9, h1, hb => by
    obtain ⟨Q, hQ⟩ := hB.eq
    have hs := sh_of (hQ.cell 0 _ (by omega) (hQ.grid i (by omega)))
    have hw : IntKind.i64.wrap (((i : Nat) : Int) + 1) = ((i + 1 : Nat) : Int) := wr (by omega)
    rw [show M + (t + 1) + 1 = (M + t + 1) + 1 by omega, step_baD21, hw, gA_eq, show decide (((i : Nat) : Int) < 9) = true from lt_lit (k := 9) (by omega), hs]
    unfold beL at hb
    split at hb
    · cases hb
    rename_i hO
    rw [hO]
    try dsimp only [Bool.not_true]
    split at hb
    · rename_i hz
      have := of_decide_eq_false hz
      omega
    split at hb
    · rename_i hw2
      rw [hw2]
      have := lp_baD M K  hB o ho t (i + 1) (isB x0 x1 (eG 1031798784 hi i)) out (by omega) (by omega) hb
      exact this
    · rename_i hw2
      rw [hw2]
      try dsimp only [Bool.not_false]
      split at hb
      · cases hb
      · rename_i x hx
        obtain ⟨rr, hrr⟩ := beL_pre _ _ _ _ _ _ _ _ _ _ hb
        have hlen : out.length < o.length := by rw [hrr]; simp
        have hget : o[out.length]? = some x := by rw [hrr]; simp
        obtain ⟨e1, e2⟩ := hB.edge was i x h1 (by omega) hx
        have hw3 : IntKind.i64.wrap (((out.length : Nat) : Int) + 1) = ((out.length + 1 : Nat) : Int) := wr (by omega)
        rw [decide_eq_false (show ¬ ((out.length : Nat) : Int) ≥ ((o.length : Nat) : Int) by omega), din hlen, ix, hget]
        try dsimp only
        rw [e1, e2, hw3]
        have := lp_baD M K  hB o ho t (i + 1) (isB x0 x1 (eG 1031798784 hi i)) (out ++ [x]) (by omega) (by omega) hb
        rw [List.length_append, List.length_singleton] at this
        exact this
theorem fin_baD  (hB : BF (esV (dW []) ([] : List Int)) (hsV (dW []) ([] : List Int)) (dN []) (dU [])) : (match beOk (esV (dW []) ([] : List Int)) (hsV (dW []) ([] : List Int)) 1031798784 (dU []) with | true => (match shO ((esV (dW []) ([] : List Int))).length ((hsV (dW []) ([] : List Int))).length (esV (dW []) ([] : List Int)) (hsV (dW []) ([] : List Int)) 1031798784 with | true => lp_baD21 40 40 (st_baD21 (dU []) ((beV (esV (dW []) ([] : List Int)) (hsV (dW []) ([] : List Int)) 1031798784 (dU [])).length) (isB (esV (dW []) ([] : List Int)) (hsV (dW []) ([] : List Int)) 1031798784) (isO (esV (dW []) ([] : List Int)) (hsV (dW []) ([] : List Int)) 1031798784) 0 1 ((esV (dW []) ([] : List Int)).length) ((hsV (dW []) ([] : List Int)).length) (beV (esV (dW []) ([] : List Int)) (hsV (dW []) ([] : List Int)) 1031798784 (dU [])) (esV (dW []) ([] : List Int)) (hsV (dW []) ([] : List Int))) (kt_baD21 40 (kEnd Try.f3 0)) | false => none) | false => some (.bool true, [])) = some (.bool true, []) := by
  cases hb : beOk (esV (dW []) ([] : List Int)) (hsV (dW []) ([] : List Int)) 1031798784 (dU []) with
  | false => rfl
  | true =>
    try dsimp only
    rw [sh_of hB.low]
    try dsimp only
    unfold beOk at hb
    simp only [Bool.and_eq_true] at hb
    have hb := hb.2.2.2
    have hlen := beV_len (esV (dW []) ([] : List Int)) (hsV (dW []) ([] : List Int)) 1031798784 (dU [])
    have hA : ∃ o, beA (esV (dW []) ([] : List Int)) (hsV (dW []) ([] : List Int)) 1031798784 (dU []) = some o ∧ beV (esV (dW []) ([] : List Int)) (hsV (dW []) ([] : List Int)) 1031798784 (dU []) = o := by
      unfold beV
      cases hc : beA (esV (dW []) ([] : List Int)) (hsV (dW []) ([] : List Int)) 1031798784 (dU []) with
      | none => rw [hc] at hb; cases hb
      | some o => exact ⟨o, rfl, rfl⟩
    obtain ⟨o, ho, hv⟩ := hA
    rw [hv] at hlen ⊢
    unfold beA beL at ho
    split at ho
    · cases ho
    rename_i hO
    rw [hB.zero] at hO ho
    split at ho
    · have hl := lp_baD 31 (kt_baD21 40 (kEnd Try.f3 0))  hB o (by omega) 8 1 _ [] rfl (by decide) (by rw [show 1 - 1 = 0 from rfl, hB.zero]; exact ho)
      rw [hO]
      refine Eq.trans hl ?_
      rw [end_baD21_1]
      show some (V.bool (((o.length : Nat) : Int) == ((o.length : Nat) : Int)), _) = _
      rw [beq_self_eq_true]
    · rename_i hz
      exact absurd (of_decide_eq_true hz) (by decide)
theorem H_baD   (hW : (dW []) = 2 ∨ (dW []) = 3) (hB : BF (esV (dW []) ([] : List Int)) (hsV (dW []) ([] : List Int)) (dN []) (dU [])) : run ty tab_baD an_baD 40 Try.f3 [.nil, .nil] [] = some (.bool true, []) := by
  refine Eq.trans (run_baD 40 ) ?_
  cases longB 0 0
  case true => rfl
  have a40 : atOk 0 ([] : List Int) 40 = true := decide_eq_true ⟨rfl, by decide, by decide, by decide⟩
  have a41 : atOk 0 ([] : List Int) 41 = true := decide_eq_true ⟨rfl, by decide, by decide, by decide⟩
  have a42 : atOk 0 ([] : List Int) 42 = true := decide_eq_true ⟨rfl, by decide, by decide, by decide⟩
  have cc : decide ((dW []) = 2 ∨ (dW []) = 3) = true := decide_eq_true hW
  have hsh := sh_of hB.cell
  have hq : (decide (((esV (dW []) ([] : List Int))).length = ((esV (dW []) ([] : List Int))).length ∧ ((esV (dW []) ([] : List Int))).length < 2147483648 ∧ ((hsV (dW []) ([] : List Int))).length = ((hsV (dW []) ([] : List Int))).length ∧ ((hsV (dW []) ([] : List Int))).length < 2147483648) && pdec (∃ Q, EQ (esV (dW []) ([] : List Int)) (hsV (dW []) ([] : List Int)) 1031798784 (dU []) Q)) = true := by
    rw [pdec_iff.2 hB.eq, decide_eq_true ⟨rfl, hB.short.1, rfl, hB.short.2⟩]
    rfl
  have hf := fin_baD  hB
  rw [a40, cc, a41]
  generalize (esV (dW []) ([] : List Int)) = y0 at hB hsh hq hf ⊢
  generalize (hsV (dW []) ([] : List Int)) = y1 at hB hsh hq hf ⊢
  generalize (dN []) = ye at hB hsh hf ⊢
  generalize (dU []) = yu at hB hq hf ⊢
  rw [hsh, hB.is, hB.ar, a42, hq]
  cases hI : isB y0 y1 ye with
  | true =>
    rw [hB.up hI]
    try rw [Bool.not_true]
    exact hf
  | false =>
    rw [hB.dn hI]
    try rw [Bool.not_true]
    try rw [Bool.not_false]
    exact hf
end Go.Proofs.Ytdbmbelllghdcaa.Ab

namespace Go.Proofs.Ytdbmbelllghdcaa.Ab
set_option linter.unusedVariables false
set_option linter.unusedSimpArgs false
open Go
structure Fm (f : Ieee.Format) (F : Nat) (L : Int) (Z : Nat) : Prop where
  frac : f.fractionBits = F
  least : f.leastPlace = L
  bin : f.binade = 2 ^ F
  inf : f.infRung = Z * 2 ^ F
  sgn : Z * 2 ^ F < f.signWeight
  two : 2 < Z
theorem fm32 : Fm Ieee.single 23 (-149) 255 := ⟨by decide, by decide, by decide, by decide, by decide, by decide⟩
theorem fm64 : Fm Ieee.double 52 (-1074) 2047 := ⟨by decide, by decide, by decide, by decide, by decide, by decide⟩
theorem read_of_word {f : Ieee.Format} (s : Bool) {r : Nat} (h : r < f.signWeight) : f.read (f.word s r) =
    if r < f.binade then .number s r f.leastPlace else if r < f.infRung then .number s (f.binade + r % f.binade) (f.leastPlace + ((r / f.binade - 1 : Nat) : Int)) else if r = f.infRung then .infinity s else .nan s (r - f.infRung) := by
  unfold Ieee.Format.read Ieee.Format.word
  have hm : (if s = true then f.signWeight + r else r) % f.signWeight = r := by
    cases s
    · rw [if_neg (by decide), Nat.mod_eq_of_lt h]
    · rw [if_pos rfl, Nat.add_mod_left, Nat.mod_eq_of_lt h]
  have hs : ((if s = true then f.signWeight + r else r) / f.signWeight % 2 == 1) = s := by
    cases s
    · rw [if_neg (by decide), Nat.div_eq_of_lt h]; rfl
    · rw [if_pos rfl, Nat.add_div_left _ (by omega), Nat.div_eq_of_lt h]; rfl
  rw [hm, hs]
theorem cut_err (s : Bool) (n d : Nat) : 2 * (((Ieee.Toward.even.cut s n d * 2 ^ d : Nat) : Int) - (n : Int)).natAbs ≤ 2 ^ d := by
  unfold Ieee.Toward.cut
  simp only [Nat.one_shiftLeft]
  by_cases hd : d ≤ n.log2 + 2
  · rw [Nat.min_eq_left hd]
    have hpos : 0 < 2 ^ d := Nat.pow_pos (by decide)
    generalize hg : 2 ^ d = g at hpos
    have hn := Nat.div_add_mod n g
    have hr := Nat.mod_lt n hpos
    generalize n / g = lo at hn
    generalize n % g = r at hn hr
    have hn' : n = lo * g + r := by rw [Nat.mul_comm]; exact hn.symm
    generalize hlg : lo * g = q at hn'
    by_cases hm : (decide (g < 2 * r) || (g == 2 * r && lo % 2 == 1)) = true
    · rw [hm]
      have h2 : g ≤ 2 * r := by
        rw [Bool.or_eq_true] at hm
        rcases hm with hm | hm
        · have := of_decide_eq_true hm; omega
        · rw [Bool.and_eq_true] at hm
          have := eq_of_beq hm.1
          omega
      have e : (lo + Bool.toNat true) * g = q + g := by rw [← hlg]; show (lo + 1) * g = _; rw [Nat.add_mul, Nat.one_mul]
      rw [e]
      omega
    · have hm : (decide (g < 2 * r) || (g == 2 * r && lo % 2 == 1)) = false := by simpa using hm
      rw [hm]
      have h2 : ¬ g < 2 * r := by
        rw [Bool.or_eq_false_iff] at hm
        exact of_decide_eq_false hm.1
      have e : (lo + Bool.toNat false) * g = q := by rw [← hlg]; rfl
      rw [e]
      omega
  · rw [Nat.min_eq_right (by omega)]
    have h1 : n < 2 ^ (n.log2 + 1) := Nat.lt_log2_self
    have h2 : 2 ^ (n.log2 + 2) = 2 * 2 ^ (n.log2 + 1) := by rw [show n.log2 + 2 = (n.log2 + 1) + 1 by omega, Nat.pow_succ, Nat.mul_comm]
    have h3 : 2 ^ (n.log2 + 2) ≤ 2 ^ d := Nat.pow_le_pow_right (by decide) (by omega)
    generalize 2 ^ (n.log2 + 2) = g at h2 h3
    generalize 2 ^ (n.log2 + 1) = c at h1 h2
    have hlo : n / g = 0 := Nat.div_eq_of_lt (by omega)
    have hr : n % g = n := Nat.mod_eq_of_lt (by omega)
    rw [hlo, hr]
    have e1 : decide (g < 2 * n) = false := decide_eq_false (by omega)
    have e2 : (g == 2 * n) = false := by
      cases hb : g == 2 * n with
      | false => rfl
      | true => have := eq_of_beq hb; omega
    rw [e1, e2]
    show 2 * ((((0 + 0) * 2 ^ d : Nat) : Int) - (n : Int)).natAbs ≤ 2 ^ d
    generalize 2 ^ d = D at h3
    rw [Nat.zero_add, Nat.zero_mul]
    omega
theorem read_rung {f : Ieee.Format} {F : Nat} {L : Int} {Z : Nat} (h : Fm f F L Z) (s : Bool) {l K : Nat} (hK : K ≤ 2 * 2 ^ F) (hl : l = 0 ∨ 2 ^ F ≤ K) (hZ : l + 2 < Z) :
    ∃ (m : Nat) (j : Nat), f.read (f.word s (l * 2 ^ F + K)) = .number s m (L + (j : Int)) ∧ m * 2 ^ j = K * 2 ^ l := by
  have hpos : 0 < 2 ^ F := Nat.pow_pos (by decide)
  have hsg := h.sgn
  have hz : (l + 2) * 2 ^ F + 2 ^ F ≤ Z * 2 ^ F := by
    rw [← Nat.succ_mul]
    exact Nat.mul_le_mul_right _ hZ
  rw [Nat.add_mul] at hz
  have hlt : l * 2 ^ F + K < f.infRung := by rw [h.inf]; omega
  rw [read_of_word s (by rw [h.inf] at hlt; omega), h.bin, h.least]
  by_cases h1 : K < 2 ^ F
  · have h0 : l = 0 := by omega
    subst h0
    rw [Nat.zero_mul, Nat.zero_add, if_pos h1]
    exact ⟨K, 0, by simp, rfl⟩
  · have hge : ¬ l * 2 ^ F + K < 2 ^ F := by have := Nat.zero_le (l * 2 ^ F); omega
    rw [if_neg hge, if_pos hlt]
    by_cases h2 : K < 2 * 2 ^ F
    · have e1 : (l * 2 ^ F + K) / 2 ^ F = l + 1 := by
        rw [show l * 2 ^ F + K = (l + 1) * 2 ^ F + (K - 2 ^ F) by rw [Nat.add_mul, Nat.one_mul]; omega, Nat.mul_comm, Nat.mul_add_div hpos, Nat.div_eq_of_lt (by omega), Nat.add_zero]
      have e2 : (l * 2 ^ F + K) % 2 ^ F = K - 2 ^ F := by
        rw [show l * 2 ^ F + K = (l + 1) * 2 ^ F + (K - 2 ^ F) by rw [Nat.add_mul, Nat.one_mul]; omega, Nat.mul_comm, Nat.mul_add_mod, Nat.mod_eq_of_lt (by omega)]
      rw [e1, e2]
      exact ⟨K, l, by rw [show 2 ^ F + (K - 2 ^ F) = K by omega, show l + 1 - 1 = l by omega], rfl⟩
    · have hK2 : K = 2 * 2 ^ F := by omega
      subst hK2
      have e0 : l * 2 ^ F + 2 * 2 ^ F = 2 ^ F * (l + 2) := by rw [← Nat.add_mul, Nat.mul_comm]
      rw [e0, Nat.mul_div_cancel_left _ hpos, Nat.mul_mod_right, Nat.add_zero]
      refine ⟨2 ^ F, l + 1, by rw [show l + 2 - 1 = l + 1 by omega], ?_⟩
      rw [Nat.pow_succ, Nat.mul_comm 2 (2 ^ F), Nat.mul_assoc, Nat.mul_comm (2 ^ l) 2]
theorem near_err {f : Ieee.Format} {F : Nat} {L : Int} {Z : Nat} (h : Fm f F L Z) (s : Bool) {m : Nat} {p B Q : Int} (hQ : Q ≤ p) (hQL : Q ≤ L) (hB : m = 0 ∨ p + (m.log2 : Int) < B) (hZ : B - (F : Int) - L + 2 ≤ (Z : Int)) :
    ∃ (m' : Nat) (p' : Int), f.read (f.nearest s m p) = .number s m' p' ∧ L ≤ p' ∧ 2 * (((m' * 2 ^ (p' - Q).toNat : Nat) : Int) - ((m * 2 ^ (p - Q).toNat : Nat) : Int)).natAbs ≤ 2 ^ (max (B - 1 - (F : Int)) L - Q).toNat := by
  have h2 := h.two
  by_cases hm : m = 0
  · subst hm
    unfold Ieee.Format.nearest
    rw [if_pos rfl]
    obtain ⟨m', j, h3, h4⟩ := read_rung h s (l := 0) (K := 0) (Nat.zero_le _) (.inl rfl) (by omega)
    rw [Nat.zero_mul, Nat.zero_add] at h3
    have hm' : m' = 0 := by
      rw [Nat.zero_mul] at h4
      rcases Nat.mul_eq_zero.1 h4 with h5 | h5
      · exact h5
      · have := Nat.pow_pos (n := j) (show 0 < 2 by decide); omega
    subst hm'
    refine ⟨0, _, h3, by omega, ?_⟩
    rw [Nat.zero_mul, Nat.zero_mul]
    simp
  · have hB := hB.resolve_left hm
    unfold Ieee.Format.nearest
    rw [if_neg hm, h.frac, h.least, h.bin, h.inf]
    dsimp only
    generalize hlast : max (p + (m.log2 : Int) - (F : Int)) L = last
    have hl1 : L ≤ last := by omega
    have hl2 : last ≤ max (B - 1 - (F : Int)) L := by omega
    obtain ⟨l, hl⟩ : ∃ l : Nat, last = L + (l : Int) := ⟨(last - L).toNat, by omega⟩
    have e1 : (last - L).toNat = l := by omega
    rw [e1]
    have hlog1 : 2 ^ m.log2 ≤ m := Nat.log2_self_le hm
    have hlog2 : m < 2 ^ (m.log2 + 1) := Nat.lt_log2_self
    generalize hkept : Ieee.Toward.even.cut s (m <<< (p - last).toNat) (last - p).toNat = K
    have herr : 2 * (((K * 2 ^ (last - Q).toNat : Nat) : Int) - ((m * 2 ^ (p - Q).toNat : Nat) : Int)).natAbs ≤ 2 ^ (last - Q).toNat ∧ K ≤ 2 * 2 ^ F ∧ (l = 0 ∨ 2 ^ F ≤ K) := by
      by_cases hle : last ≤ p
      · rw [show (last - p).toNat = 0 by omega, cut_zero, Nat.shiftLeft_eq] at hkept
        have e2 : K * 2 ^ (last - Q).toNat = m * 2 ^ (p - Q).toNat := by
          rw [← hkept, Nat.mul_assoc, ← Nat.pow_add, show (p - last).toNat + (last - Q).toNat = (p - Q).toNat by omega]
        rw [e2, Int.sub_self]
        refine ⟨by simp, ?_, ?_⟩
        · have h3 : K < 2 ^ (m.log2 + 1) * 2 ^ (p - last).toNat := by rw [← hkept]; exact Nat.mul_lt_mul_of_pos_right hlog2 (Nat.pow_pos (by decide))
          rw [← Nat.pow_add] at h3
          have h4 : 2 ^ (m.log2 + 1 + (p - last).toNat) ≤ 2 ^ (F + 1) := Nat.pow_le_pow_right (by decide) (by omega)
          rw [Nat.pow_succ, Nat.mul_comm] at h4
          omega
        · by_cases h0 : l = 0
          · exact .inl h0
          · right
            have h3 : 2 ^ m.log2 * 2 ^ (p - last).toNat ≤ K := by rw [← hkept]; exact Nat.mul_le_mul_right _ hlog1
            rw [← Nat.pow_add, show m.log2 + (p - last).toNat = F by omega] at h3
            exact h3
      · rw [show (p - last).toNat = 0 by omega, Nat.shiftLeft_zero] at hkept
        have hc := cut_err s m (last - p).toNat
        rw [hkept] at hc
        generalize hd : (last - p).toNat = d at hc hkept
        have e2 : 2 ^ (last - Q).toNat = 2 ^ d * 2 ^ (p - Q).toNat := by rw [← Nat.pow_add, show d + (p - Q).toNat = (last - Q).toNat by omega]
        refine ⟨?_, ?_, ?_⟩
        · rw [e2, ← Nat.mul_assoc, Int.natCast_mul (K * 2 ^ d), Int.natCast_mul m, ← Int.sub_mul, Int.natAbs_mul, Int.natAbs_natCast, ← Nat.mul_assoc]
          exact Nat.mul_le_mul_right _ hc
        · have hle2 := cut_le s m d
          rw [hkept] at hle2
          have h3 : m / 2 ^ d < 2 ^ (F + 1) := by
            rw [Nat.div_lt_iff_lt_mul (Nat.pow_pos (by decide)), ← Nat.pow_add]
            exact Nat.lt_of_lt_of_le hlog2 (Nat.pow_le_pow_right (by decide) (by omega))
          rw [Nat.pow_succ, Nat.mul_comm] at h3
          omega
        · by_cases h0 : l = 0
          · exact .inl h0
          · right
            have hld : m.log2 = F + d := by omega
            have h3 : 2 ^ F * 2 ^ d ≤ m := by rw [← Nat.pow_add, ← hld]; exact hlog1
            have hdp : 0 < 2 ^ d := Nat.pow_pos (by decide)
            generalize 2 ^ d = D at hc h3 hdp
            generalize 2 ^ F = G at h3
            refine Nat.le_of_not_lt fun hlt => ?_
            have h4 : (K + 1) * D ≤ G * D := Nat.mul_le_mul_right _ hlt
            rw [Nat.add_mul, Nat.one_mul] at h4
            omega
    obtain ⟨h3, h4, h5⟩ := herr
    have hl3 : l + 2 < Z := by omega
    obtain ⟨m', j, h6, h7⟩ := read_rung h s h4 h5 hl3
    have hmin : min (l * 2 ^ F + K) (Z * 2 ^ F) = l * 2 ^ F + K := by
      apply Nat.min_eq_left
      have : (l + 2) * 2 ^ F ≤ Z * 2 ^ F := Nat.mul_le_mul_right _ (by omega)
      rw [Nat.add_mul] at this
      omega
    rw [hmin]
    refine ⟨m', L + (j : Int), h6, by omega, ?_⟩
    have e3 : m' * 2 ^ (L + (j : Int) - Q).toNat = K * 2 ^ (last - Q).toNat := by
      rw [show (L + (j : Int) - Q).toNat = j + (L - Q).toNat by omega, Nat.pow_add, ← Nat.mul_assoc, h7, Nat.mul_assoc, ← Nat.pow_add, show l + (L - Q).toNat = (last - Q).toNat by omega]
    rw [e3]
    refine Nat.le_trans h3 (Nat.pow_le_pow_right (by decide) (by omega))
theorem near_err2 {f : Ieee.Format} {F : Nat} {L : Int} {Z : Nat} (h : Fm f F L Z) (s : Bool) {m : Nat} {p B Q : Int} (hQ : Q ≤ p) (hQL : Q ≤ L) (hm : m ≠ 0) (hB : m = 0 ∨ p + (m.log2 : Int) < B) (hZ : B - (F : Int) - L + 2 ≤ (Z : Int)) :
    ∃ (m' : Nat) (p' : Int) (K : Nat), f.read (f.nearest s m p) = .number s m' p' ∧ L ≤ p' ∧ m' * 2 ^ (p' - Q).toNat = K * 2 ^ (max (p + (m.log2 : Int) - (F : Int)) L - Q).toNat ∧
      2 * (((K * 2 ^ (max (p + (m.log2 : Int) - (F : Int)) L - Q).toNat : Nat) : Int) - ((m * 2 ^ (p - Q).toNat : Nat) : Int)).natAbs ≤ 2 ^ (max (p + (m.log2 : Int) - (F : Int)) L - Q).toNat := by
  have h2 := h.two
  have hB := hB.resolve_left hm
  unfold Ieee.Format.nearest
  rw [if_neg hm, h.frac, h.least, h.bin, h.inf]
  dsimp only
  generalize hlast : max (p + (m.log2 : Int) - (F : Int)) L = last
  have hl1 : L ≤ last := by omega
  have hl2 : last ≤ max (B - 1 - (F : Int)) L := by omega
  obtain ⟨l, hl⟩ : ∃ l : Nat, last = L + (l : Int) := ⟨(last - L).toNat, by omega⟩
  have e1 : (last - L).toNat = l := by omega
  rw [e1]
  have hlog1 : 2 ^ m.log2 ≤ m := Nat.log2_self_le hm
  have hlog2 : m < 2 ^ (m.log2 + 1) := Nat.lt_log2_self
  generalize hkept : Ieee.Toward.even.cut s (m <<< (p - last).toNat) (last - p).toNat = K
  have herr : 2 * (((K * 2 ^ (last - Q).toNat : Nat) : Int) - ((m * 2 ^ (p - Q).toNat : Nat) : Int)).natAbs ≤ 2 ^ (last - Q).toNat ∧ K ≤ 2 * 2 ^ F ∧ (l = 0 ∨ 2 ^ F ≤ K) := by
    by_cases hle : last ≤ p
    · rw [show (last - p).toNat = 0 by omega, cut_zero, Nat.shiftLeft_eq] at hkept
      have e2 : K * 2 ^ (last - Q).toNat = m * 2 ^ (p - Q).toNat := by
        rw [← hkept, Nat.mul_assoc, ← Nat.pow_add, show (p - last).toNat + (last - Q).toNat = (p - Q).toNat by omega]
      rw [e2, Int.sub_self]
      refine ⟨by simp, ?_, ?_⟩
      · have h3 : K < 2 ^ (m.log2 + 1) * 2 ^ (p - last).toNat := by rw [← hkept]; exact Nat.mul_lt_mul_of_pos_right hlog2 (Nat.pow_pos (by decide))
        rw [← Nat.pow_add] at h3
        have h4 : 2 ^ (m.log2 + 1 + (p - last).toNat) ≤ 2 ^ (F + 1) := Nat.pow_le_pow_right (by decide) (by omega)
        rw [Nat.pow_succ, Nat.mul_comm] at h4
        omega
      · by_cases h0 : l = 0
        · exact .inl h0
        · right
          have h3 : 2 ^ m.log2 * 2 ^ (p - last).toNat ≤ K := by rw [← hkept]; exact Nat.mul_le_mul_right _ hlog1
          rw [← Nat.pow_add, show m.log2 + (p - last).toNat = F by omega] at h3
          exact h3
    · rw [show (p - last).toNat = 0 by omega, Nat.shiftLeft_zero] at hkept
      have hc := cut_err s m (last - p).toNat
      rw [hkept] at hc
      generalize hd : (last - p).toNat = d at hc hkept
      have e2 : 2 ^ (last - Q).toNat = 2 ^ d * 2 ^ (p - Q).toNat := by rw [← Nat.pow_add, show d + (p - Q).toNat = (last - Q).toNat by omega]
      refine ⟨?_, ?_, ?_⟩
      · rw [e2, ← Nat.mul_assoc, Int.natCast_mul (K * 2 ^ d), Int.natCast_mul m, ← Int.sub_mul, Int.natAbs_mul, Int.natAbs_natCast, ← Nat.mul_assoc]
        exact Nat.mul_le_mul_right _ hc
      · have hle2 := cut_le s m d
        rw [hkept] at hle2
        have h3 : m / 2 ^ d < 2 ^ (F + 1) := by
          rw [Nat.div_lt_iff_lt_mul (Nat.pow_pos (by decide)), ← Nat.pow_add]
          exact Nat.lt_of_lt_of_le hlog2 (Nat.pow_le_pow_right (by decide) (by omega))
        rw [Nat.pow_succ, Nat.mul_comm] at h3
        omega
      · by_cases h0 : l = 0
        · exact .inl h0
        · right
          have hld : m.log2 = F + d := by omega
          have h3 : 2 ^ F * 2 ^ d ≤ m := by rw [← Nat.pow_add, ← hld]; exact hlog1
          have hdp : 0 < 2 ^ d := Nat.pow_pos (by decide)
          generalize 2 ^ d = D at hc h3 hdp
          generalize 2 ^ F = G at h3
          refine Nat.le_of_not_lt fun hlt => ?_
          have h4 : (K + 1) * D ≤ G * D := Nat.mul_le_mul_right _ hlt
          rw [Nat.add_mul, Nat.one_mul] at h4
          omega
  obtain ⟨h3, h4, h5⟩ := herr
  have hl3 : l + 2 < Z := by omega
  obtain ⟨m', j, h6, h7⟩ := read_rung h s h4 h5 hl3
  have hmin : min (l * 2 ^ F + K) (Z * 2 ^ F) = l * 2 ^ F + K := by
    apply Nat.min_eq_left
    have : (l + 2) * 2 ^ F ≤ Z * 2 ^ F := Nat.mul_le_mul_right _ (by omega)
    rw [Nat.add_mul] at this
    omega
  rw [hmin]
  refine ⟨m', L + (j : Int), K, h6, by omega, ?_, h3⟩
  rw [show (L + (j : Int) - Q).toNat = j + (L - Q).toNat by omega, Nat.pow_add, ← Nat.mul_assoc, h7, Nat.mul_assoc, ← Nat.pow_add, show l + (L - Q).toNat = (last - Q).toNat by omega]
theorem near_ex {f : Ieee.Format} {F : Nat} {L : Int} {Z : Nat} (h : Fm f F L Z) (s : Bool) {m : Nat} {p B Q : Int} (hQ : Q ≤ p) (hQL : Q ≤ L) (hB : m = 0 ∨ p + (m.log2 : Int) < B) (hZ : B - (F : Int) - L + 2 ≤ (Z : Int))
    {V k : Nat} (hV : V < 2 ^ (F + 1)) (hk : (L - Q).toNat ≤ k) (he : m * 2 ^ (p - Q).toNat = V * 2 ^ k) :
    ∃ (m' : Nat) (p' : Int), f.read (f.nearest s m p) = .number s m' p' ∧ L ≤ p' ∧ m' * 2 ^ (p' - Q).toNat = V * 2 ^ k := by
  by_cases hm : m = 0
  · subst hm
    obtain ⟨m', p', h1, h2, h3⟩ := near_err h s hQ hQL hB hZ
    unfold Ieee.Format.nearest at h1
    rw [if_pos rfl] at h1
    have hw := read_of_word (f := f) s (r := 0) (by have := h.sgn; have := h.two; have := Nat.pow_pos (n := F) (show 0 < 2 by decide); have := Nat.mul_pos (show 0 < Z by omega) this; omega)
    rw [if_pos (by rw [h.bin]; exact Nat.pow_pos (by decide)), h.least] at hw
    rw [hw] at h1
    cases h1
    refine ⟨0, L, ?_, Int.le_refl _, by rw [Nat.zero_mul] at he ⊢; exact he⟩
    unfold Ieee.Format.nearest
    rw [if_pos rfl]
    exact hw
  · obtain ⟨m', p', K, h1, h2, h3, h4⟩ := near_err2 h s hQ hQL hm hB hZ
    refine ⟨m', p', h1, h2, ?_⟩
    rw [h3]
    generalize hx : (max (p + (m.log2 : Int) - (F : Int)) L - Q).toNat = x at h4
    have hxk : x ≤ k := by
      have h5 : 2 ^ (m.log2 + (p - Q).toNat) ≤ V * 2 ^ k := by
        rw [← he, Nat.pow_add]
        exact Nat.mul_le_mul_right _ (Nat.log2_self_le hm)
      have h6 : V * 2 ^ k < 2 ^ (F + 1 + k) := by rw [Nat.pow_add]; exact Nat.mul_lt_mul_of_pos_right hV (Nat.pow_pos (by decide))
      have h7 := (Nat.pow_lt_pow_iff_right (by decide : 1 < 2)).1 (Nat.lt_of_le_of_lt h5 h6)
      omega
    obtain ⟨y, rfl⟩ : ∃ y, k = y + x := ⟨k - x, by omega⟩
    rw [he, Nat.pow_add, ← Nat.mul_assoc] at h4
    rw [Nat.pow_add, ← Nat.mul_assoc]
    generalize V * 2 ^ y = q at h4
    have hpos : 0 < 2 ^ x := Nat.pow_pos (by decide)
    generalize 2 ^ x = X at h4 hpos
    rcases Nat.lt_trichotomy K q with h8 | h8 | h8
    · have h9 : (K + 1) * X ≤ q * X := Nat.mul_le_mul_right _ h8
      rw [Nat.add_mul, Nat.one_mul] at h9
      generalize K * X = u at h4 h9
      generalize q * X = v at h4 h9
      omega
    · rw [h8]
    · have h9 : (q + 1) * X ≤ K * X := Nat.mul_le_mul_right _ h8
      rw [Nat.add_mul, Nat.one_mul] at h9
      generalize K * X = u at h4 h9
      generalize q * X = v at h4 h9
      omega
def Is (f : Ieee.Format) (L : Int) (x : Nat) (v : Int) : Prop := ∃ s m e, f.read x = .number s m e ∧ L ≤ e ∧ v = Ieee.signed s m (e - L).toNat
theorem signed_eq (s : Bool) (m k : Nat) : Ieee.signed s m k = if s = true then -((m * 2 ^ k : Nat) : Int) else ((m * 2 ^ k : Nat) : Int) := by unfold Ieee.signed; rw [Nat.shiftLeft_eq]
theorem signed_scale (s : Bool) (m a b : Nat) : Ieee.signed s m (a + b) = Ieee.signed s m a * ((2 ^ b : Nat) : Int) := by
  rw [signed_eq, signed_eq, Nat.pow_add, ← Nat.mul_assoc]
  cases s
  · rw [if_neg (by decide), if_neg (by decide), Int.natCast_mul]
  · rw [if_pos rfl, if_pos rfl, Int.natCast_mul, Int.neg_mul]
theorem sgAbs (s : Bool) (m k : Nat) : (Ieee.signed s m k).natAbs = m * 2 ^ k := by
  rw [signed_eq]
  cases s
  · rw [if_neg (by decide), Int.natAbs_natCast]
  · rw [if_pos rfl, Int.natAbs_neg, Int.natAbs_natCast]
theorem near_is {f : Ieee.Format} {F : Nat} {L : Int} {Z : Nat} (h : Fm f F L Z) (s : Bool) {m : Nat} {p B Q : Int} (hQ : Q ≤ p) (hQL : Q ≤ L) (hB : m = 0 ∨ p + (m.log2 : Int) < B) (hZ : B - (F : Int) - L + 2 ≤ (Z : Int)) :
    ∃ c, Is f L (f.nearest s m p) c ∧ 2 * (c * ((2 ^ (L - Q).toNat : Nat) : Int) - Ieee.signed s m (p - Q).toNat).natAbs ≤ 2 ^ (max (B - 1 - (F : Int)) L - Q).toNat := by
  obtain ⟨m', p', h1, h2, h3⟩ := near_err h s hQ hQL hB hZ
  refine ⟨_, ⟨s, m', p', h1, h2, rfl⟩, ?_⟩
  rw [← signed_scale, show (p' - L).toNat + (L - Q).toNat = (p' - Q).toNat by omega, signed_eq, signed_eq]
  cases s
  · rw [if_neg (by decide), if_neg (by decide)]
    exact h3
  · rw [if_pos rfl, if_pos rfl]
    generalize ((m' * 2 ^ (p' - Q).toNat : Nat) : Int) = a at h3
    generalize ((m * 2 ^ (p - Q).toNat : Nat) : Int) = b at h3
    omega
theorem log_of {M : Nat} {p Q B : Int} (hQ : Q ≤ p) (hB : Q ≤ B) (h : M * 2 ^ (p - Q).toNat < 2 ^ (B - Q).toNat) : M = 0 ∨ p + (M.log2 : Int) < B := by
  by_cases hM : M = 0
  · exact .inl hM
  · right
    have h1 : 2 ^ M.log2 ≤ M := Nat.log2_self_le hM
    have h2 : 2 ^ M.log2 * 2 ^ (p - Q).toNat ≤ M * 2 ^ (p - Q).toNat := Nat.mul_le_mul_right _ h1
    rw [← Nat.pow_add] at h2
    have h3 := Nat.lt_of_le_of_lt h2 h
    have h4 := (Nat.pow_lt_pow_iff_right (by decide : 1 < 2)).1 h3
    omega
theorem add_is {f : Ieee.Format} {F : Nat} {L : Int} {Z : Nat} (h : Fm f F L Z) {x y : Nat} {a b B : Int} (hx : Is f L x a) (hy : Is f L y b) (hL : L ≤ B) (hB : (a + b).natAbs < 2 ^ (B - L).toNat) (hZ : B - (F : Int) - L + 2 ≤ (Z : Int)) :
    ∃ r c, f.add x y = some r ∧ Is f L r c ∧ 2 * (c - (a + b)).natAbs ≤ 2 ^ (max (B - 1 - (F : Int)) L - L).toNat := by
  obtain ⟨s, m, i, h1, h2, rfl⟩ := hx
  obtain ⟨t, n, j, h3, h4, rfl⟩ := hy
  unfold Ieee.Format.add
  rw [h1, h3]
  unfold Ieee.Datum.sum
  dsimp only
  generalize hb : min i j = base
  have hbL : L ≤ base := by omega
  have e1 : Ieee.signed s m (i - L).toNat + Ieee.signed t n (j - L).toNat = (Ieee.signed s m (i - base).toNat + Ieee.signed t n (j - base).toNat) * ((2 ^ (base - L).toNat : Nat) : Int) := by
    rw [Int.add_mul, ← signed_scale, ← signed_scale, show (i - base).toNat + (base - L).toNat = (i - L).toNat by omega, show (j - base).toNat + (base - L).toNat = (j - L).toNat by omega]
  rw [e1] at hB ⊢
  generalize Ieee.signed s m (i - base).toNat + Ieee.signed t n (j - base).toNat = total at hB ⊢
  rw [Int.natAbs_mul, Int.natAbs_natCast] at hB
  obtain ⟨c, h5, h6⟩ := near_is h (if total = 0 then s && t else decide (total < 0)) hbL (Int.le_refl L) (log_of hbL hL hB) hZ
  refine ⟨_, c, rfl, h5, ?_⟩
  rw [Int.sub_self] at h6
  have e2 : Ieee.signed (if total = 0 then s && t else decide (total < 0)) total.natAbs (base - L).toNat = total * ((2 ^ (base - L).toNat : Nat) : Int) := by
    rw [signed_eq]
    by_cases h0 : total = 0
    · subst h0
      simp
    · rw [if_neg h0]
      by_cases h7 : total < 0
      · rw [if_pos (decide_eq_true h7), Int.natCast_mul, ← Int.neg_mul]
        congr 1
        omega
      · rw [if_neg (by simpa using h7), Int.natCast_mul]
        congr 1
        omega
  rw [e2] at h6
  simpa using h6
theorem opp_is {f : Ieee.Format} {L : Int} {y : Nat} {b : Int} (hy : Is f L y b) : ∃ t n j, f.read y = .number t n j ∧ L ≤ j ∧ Ieee.signed (!t) n (j - L).toNat = -b := by
  obtain ⟨t, n, j, h3, h4, rfl⟩ := hy
  refine ⟨t, n, j, h3, h4, ?_⟩
  rw [signed_eq, signed_eq]
  cases t <;> simp
theorem sub_is {f : Ieee.Format} {F : Nat} {L : Int} {Z : Nat} (h : Fm f F L Z) {x y : Nat} {a b B : Int} (hx : Is f L x a) (hy : Is f L y b) (hL : L ≤ B) (hB : (a - b).natAbs < 2 ^ (B - L).toNat) (hZ : B - (F : Int) - L + 2 ≤ (Z : Int)) :
    ∃ r c, f.sub x y = some r ∧ Is f L r c ∧ 2 * (c - (a - b)).natAbs ≤ 2 ^ (max (B - 1 - (F : Int)) L - L).toNat := by
  obtain ⟨s, m, i, h1, h2, rfl⟩ := hx
  obtain ⟨t, n, j, h3, h4, h5⟩ := opp_is hy
  have hab : Ieee.signed s m (i - L).toNat - b = Ieee.signed s m (i - L).toNat + Ieee.signed (!t) n (j - L).toNat := by rw [h5]; omega
  rw [hab] at hB ⊢
  unfold Ieee.Format.sub
  rw [h1, h3]
  show ∃ r c, (((Ieee.Datum.number s m i).sum (Ieee.Datum.number (!t) n j)).map f.write) = some r ∧ _
  unfold Ieee.Datum.sum
  dsimp only
  generalize hb : min i j = base
  have hbL : L ≤ base := by omega
  have e1 : Ieee.signed s m (i - L).toNat + Ieee.signed (!t) n (j - L).toNat = (Ieee.signed s m (i - base).toNat + Ieee.signed (!t) n (j - base).toNat) * ((2 ^ (base - L).toNat : Nat) : Int) := by
    rw [Int.add_mul, ← signed_scale, ← signed_scale, show (i - base).toNat + (base - L).toNat = (i - L).toNat by omega, show (j - base).toNat + (base - L).toNat = (j - L).toNat by omega]
  rw [e1] at hB ⊢
  generalize Ieee.signed s m (i - base).toNat + Ieee.signed (!t) n (j - base).toNat = total at hB ⊢
  rw [Int.natAbs_mul, Int.natAbs_natCast] at hB
  obtain ⟨c, h5, h6⟩ := near_is h (if total = 0 then s && !t else decide (total < 0)) hbL (Int.le_refl L) (log_of hbL hL hB) hZ
  refine ⟨_, c, rfl, h5, ?_⟩
  rw [Int.sub_self] at h6
  have e2 : Ieee.signed (if total = 0 then s && !t else decide (total < 0)) total.natAbs (base - L).toNat = total * ((2 ^ (base - L).toNat : Nat) : Int) := by
    rw [signed_eq]
    by_cases h0 : total = 0
    · subst h0
      simp
    · rw [if_neg h0]
      by_cases h7 : total < 0
      · rw [if_pos (decide_eq_true h7), Int.natCast_mul, ← Int.neg_mul]
        congr 1
        omega
      · rw [if_neg (by simpa using h7), Int.natCast_mul]
        congr 1
        omega
  rw [e2] at h6
  simpa using h6
theorem mul_is {f : Ieee.Format} {F : Nat} {L : Int} {Z : Nat} (h : Fm f F L Z) {x y : Nat} {a b B : Int} (hx : Is f L x a) (hy : Is f L y b) (hL0 : L ≤ 0) (hL : L ≤ B) (hB : (a * b).natAbs < 2 ^ (B - 2 * L).toNat) (hZ : B - (F : Int) - L + 2 ≤ (Z : Int)) :
    ∃ r c, f.mul x y = some r ∧ Is f L r c ∧ 2 * (c * ((2 ^ (-L).toNat : Nat) : Int) - a * b).natAbs ≤ 2 ^ (max (B - 1 - (F : Int)) L - 2 * L).toNat := by
  obtain ⟨s, m, i, h1, h2, rfl⟩ := hx
  obtain ⟨t, n, j, h3, h4, rfl⟩ := hy
  unfold Ieee.Format.mul
  rw [h1, h3]
  unfold Ieee.Datum.product
  dsimp only
  have e1 : Ieee.signed s m (i - L).toNat * Ieee.signed t n (j - L).toNat = Ieee.signed (s ^^ t) (m * n) (i + j - 2 * L).toNat := by
    have hp : m * n * 2 ^ (i + j - 2 * L).toNat = m * 2 ^ (i - L).toNat * (n * 2 ^ (j - L).toNat) := by
      rw [show (i + j - 2 * L).toNat = (i - L).toNat + (j - L).toNat by omega, Nat.pow_add]
      generalize 2 ^ (i - L).toNat = u
      generalize 2 ^ (j - L).toNat = v
      rw [Nat.mul_assoc, Nat.mul_assoc, Nat.mul_left_comm n u v]
    rw [signed_eq, signed_eq, signed_eq, hp, Int.natCast_mul (m * 2 ^ (i - L).toNat)]
    cases s <;> cases t <;> simp [Int.neg_mul, Int.mul_neg, Int.neg_neg]
  rw [e1] at hB ⊢
  rw [sgAbs] at hB
  obtain ⟨c, h5, h6⟩ := near_is h (s ^^ t) (p := i + j) (Q := 2 * L) (by omega) (by omega) (log_of (Q := 2 * L) (by omega) (by omega) hB) hZ
  refine ⟨_, c, rfl, h5, ?_⟩
  rw [show (L - 2 * L).toNat = (-L).toNat by omega] at h6
  exact h6
theorem order_is {f : Ieee.Format} {L : Int} {x y : Nat} {a b : Int} (hx : Is f L x a) (hy : Is f L y b) : f.order x y = some (compare a b) := by
  obtain ⟨s, m, i, h1, h2, rfl⟩ := hx
  obtain ⟨t, n, j, h3, h4, rfl⟩ := hy
  unfold Ieee.Format.order
  rw [h1, h3]
  unfold Ieee.Datum.order
  dsimp only
  generalize hb : min i j = base
  rw [show (i - L).toNat = (i - base).toNat + (base - L).toNat by omega, show (j - L).toNat = (j - base).toNat + (base - L).toNat by omega, signed_scale, signed_scale]
  have hp : (0 : Int) < ((2 ^ (base - L).toNat : Nat) : Int) := by have := Nat.pow_pos (n := (base - L).toNat) (show 0 < 2 by decide); omega
  generalize ((2 ^ (base - L).toNat : Nat) : Int) = c at hp
  generalize Ieee.signed s m (i - base).toNat = u
  generalize Ieee.signed t n (j - base).toNat = v
  congr 1
  rcases Int.lt_trichotomy u v with h | h | h
  · rw [Int.compare_eq_lt.2 h, Int.compare_eq_lt.2 (Int.mul_lt_mul_of_pos_right h hp)]
  · subst h
    rw [Int.compare_eq_eq.2 rfl, Int.compare_eq_eq.2 rfl]
  · rw [Int.compare_eq_gt.2 h, Int.compare_eq_gt.2 (Int.mul_lt_mul_of_pos_right h hp)]
end Go.Proofs.Ytdbmbelllghdcaa.Ab

namespace Go.Proofs.Ytdbmbelllghdcaa.Ab
set_option linter.unusedVariables false
set_option linter.unusedSimpArgs false
open Go
theorem abs_mul {x y : Int} {a b : Nat} (h : x.natAbs ≤ a) (k : y.natAbs ≤ b) : (x * y).natAbs ≤ a * b := by
  rw [Int.natAbs_mul]
  exact Nat.mul_le_mul h k
theorem abs_in {x : Int} {a : Nat} (h : x.natAbs ≤ a) : -(a : Int) ≤ x ∧ x ≤ (a : Int) := by omega
theorem abs_of {x : Int} {a : Nat} (h : -(a : Int) ≤ x) (k : x ≤ (a : Int)) : x.natAbs ≤ a := by omega
theorem det_eq (T c d u m n o p t0 t1 t2 t3 : Int) :
    (T * T) * (t0 * t3 - t1 * t2) = (c * c - d * u) * (m * p - n * o) + (t0 * T - (c * m + d * o)) * (u * n + c * p) + (t3 * T - (u * n + c * p)) * (c * m + d * o) + (t0 * T - (c * m + d * o)) * (t3 * T - (u * n + c * p))
      - (t1 * T - (c * n + d * p)) * (u * m + c * o) - (t2 * T - (u * m + c * o)) * (c * n + d * p) - (t1 * T - (c * n + d * p)) * (t2 * T - (u * m + c * o)) := by
  grind
theorem det_eq2 (S P R : Int) : P * R = S * S + S * (P - S) + S * (R - S) + (P - S) * (R - S) := by grind
theorem det_bound {G W : Nat} (hG : G * G = 524288 * W) (hW : 0 < W) {c d u m n o p t0 t1 t2 t3 : Int}
    (hc : c.natAbs ≤ 33 * G) (hd : d.natAbs ≤ 23 * G) (hu : u.natAbs ≤ 45 * G) (hm : m.natAbs ≤ 33 * G) (hn : n.natAbs ≤ 23 * G) (ho : o.natAbs ≤ 45 * G) (hp : p.natAbs ≤ 33 * G)
    (h0 : (t0 * ((8 * G : Nat) : Int) - (c * m + d * o)).natAbs ≤ 128 * W) (h1 : (t1 * ((8 * G : Nat) : Int) - (c * n + d * p)).natAbs ≤ 64 * W) (h2 : (t2 * ((8 * G : Nat) : Int) - (u * m + c * o)).natAbs ≤ 128 * W) (h3 : (t3 * ((8 * G : Nat) : Int) - (u * n + c * p)).natAbs ≤ 128 * W)
    (hP : (c * c - d * u - ((64 * (G * G) : Nat) : Int)).natAbs ≤ 128 * W) (hR : (m * p - n * o - ((64 * (G * G) : Nat) : Int)).natAbs ≤ 128 * W) :
    (t0 * t3 - t1 * t2 - ((64 * (G * G) : Nat) : Int)).natAbs ≤ 15100 * W := by
  have key := det_eq ((8 * G : Nat) : Int) c d u m n o p t0 t1 t2 t3
  have hTT : ((8 * G : Nat) : Int) * ((8 * G : Nat) : Int) = ((64 * (G * G) : Nat) : Int) := by
    rw [← Int.natCast_mul]
    congr 1
    rw [Nat.mul_mul_mul_comm]
  rw [hTT] at key
  have k2 := det_eq2 ((64 * (G * G) : Nat) : Int) (c * c - d * u) (m * p - n * o)
  have q : ∀ {x y : Int} {i j : Nat}, x.natAbs ≤ i * G → y.natAbs ≤ j * G → (x * y).natAbs ≤ i * j * (G * G) := by
    intro x y i j hx hy
    have := abs_mul hx hy
    rwa [Nat.mul_mul_mul_comm] at this
  have b1 := q hc hm
  have b2 := q hd ho
  have b3 := q hc hn
  have b4 := q hd hp
  have b5 := q hu hm
  have b6 := q hc ho
  have b7 := q hu hn
  have b8 := q hc hp
  rw [hG] at b1 b2 b3 b4 b5 b6 b7 b8 hTT key k2 hP hR ⊢
  have m0 : (c * m + d * o).natAbs ≤ 2124 * (524288 * W) := by clear key k2; omega
  have m1 : (c * n + d * p).natAbs ≤ 1518 * (524288 * W) := by clear key k2; omega
  have m2 : (u * m + c * o).natAbs ≤ 2970 * (524288 * W) := by clear key k2; omega
  have m3 : (u * n + c * p).natAbs ≤ 2124 * (524288 * W) := by clear key k2; omega
  have p1 := abs_mul h0 m3
  have p2 := abs_mul h3 m0
  have p3 := abs_mul h0 h3
  have p4 := abs_mul h1 m2
  have p5 := abs_mul h2 m1
  have p6 := abs_mul h1 h2
  have p7 := abs_mul hP hR
  have p8 : ((((64 * (524288 * W) : Nat) : Int)) * (c * c - d * u - ((64 * (524288 * W) : Nat) : Int))).natAbs ≤ 64 * (524288 * W) * (128 * W) := abs_mul (Nat.le_of_eq (Int.natAbs_natCast _)) hP
  have p9 : ((((64 * (524288 * W) : Nat) : Int)) * (m * p - n * o - ((64 * (524288 * W) : Nat) : Int))).natAbs ≤ 64 * (524288 * W) * (128 * W) := abs_mul (Nat.le_of_eq (Int.natAbs_natCast _)) hR
  rw [k2] at key
  generalize ((64 * (524288 * W) : Nat) : Int) * (c * c - d * u - ((64 * (524288 * W) : Nat) : Int)) = y8 at key p8
  generalize ((64 * (524288 * W) : Nat) : Int) * (m * p - n * o - ((64 * (524288 * W) : Nat) : Int)) = y9 at key p9
  generalize (c * c - d * u - ((64 * (524288 * W) : Nat) : Int)) * (m * p - n * o - ((64 * (524288 * W) : Nat) : Int)) = y7 at key p7
  generalize (t0 * ((8 * G : Nat) : Int) - (c * m + d * o)) * (u * n + c * p) = y1 at key p1
  generalize (t3 * ((8 * G : Nat) : Int) - (u * n + c * p)) * (c * m + d * o) = y2 at key p2
  generalize (t0 * ((8 * G : Nat) : Int) - (c * m + d * o)) * (t3 * ((8 * G : Nat) : Int) - (u * n + c * p)) = y3 at key p3
  generalize (t1 * ((8 * G : Nat) : Int) - (c * n + d * p)) * (u * m + c * o) = y4 at key p4
  generalize (t2 * ((8 * G : Nat) : Int) - (u * m + c * o)) * (c * n + d * p) = y5 at key p5
  generalize (t1 * ((8 * G : Nat) : Int) - (c * n + d * p)) * (t2 * ((8 * G : Nat) : Int) - (u * m + c * o)) = y6 at key p6
  have hz : ((64 * (524288 * W) : Nat) : Int) * (t0 * t3 - t1 * t2 - ((64 * (524288 * W) : Nat) : Int)) = y8 + y9 + y7 + y1 + y2 + y3 - y4 - y5 - y6 := by
    rw [Int.mul_sub, key]
    generalize ((64 * (524288 * W) : Nat) : Int) * ((64 * (524288 * W) : Nat) : Int) = s
    omega
  have hw : ∀ a b : Nat, a * W * (b * W) = a * b * (W * W) := fun a b => Nat.mul_mul_mul_comm ..
  have e1 : 128 * W * (2124 * (524288 * W)) = 128 * (2124 * 524288) * (W * W) := by rw [← Nat.mul_assoc 2124, hw]
  have e4 : 64 * W * (2970 * (524288 * W)) = 64 * (2970 * 524288) * (W * W) := by rw [← Nat.mul_assoc 2970, hw]
  have e5 : 128 * W * (1518 * (524288 * W)) = 128 * (1518 * 524288) * (W * W) := by rw [← Nat.mul_assoc 1518, hw]
  have e8 : 64 * (524288 * W) * (128 * W) = 64 * 524288 * 128 * (W * W) := by rw [← Nat.mul_assoc 64, hw]
  rw [e1] at p1 p2
  rw [e4] at p4
  rw [e5] at p5
  rw [e8] at p8 p9
  rw [hw] at p3 p6 p7
  have hfin : (((64 * (524288 * W) : Nat) : Int) * (t0 * t3 - t1 * t2 - ((64 * (524288 * W) : Nat) : Int))).natAbs ≤ 64 * 524288 * W * (15100 * W) := by
    rw [hz, hw]
    generalize W * W = ww at p1 p2 p3 p4 p5 p6 p7 p8 p9 ⊢
    have p1 := abs_in p1
    have p2 := abs_in p2
    have p3 := abs_in p3
    have p4 := abs_in p4
    have p5 := abs_in p5
    have p6 := abs_in p6
    have p7 := abs_in p7
    have p8 := abs_in p8
    have p9 := abs_in p9
    clear hz key k2 hTT h0 h1 h2 h3 hP hR b1 b2 b3 b4 b5 b6 b7 b8 m0 m1 m2 m3 q hc hd hu hm hn ho hp
    refine abs_of ?_ ?_ <;> omega
  rw [Int.natAbs_mul, Int.natAbs_natCast, ← Nat.mul_assoc 64] at hfin
  have hfin2 := Nat.le_of_mul_le_mul_left hfin (Nat.mul_pos (by decide) hW)
  rw [Nat.mul_assoc 64 524288 W] at hfin2
  exact hfin2
def gU : Nat := 2 ^ 146
def wU : Nat := gU * 2 ^ 127
theorem gw0 : gU * gU = 524288 * wU := by
  unfold wU
  rw [Nat.mul_left_comm]
  exact congrArg (gU * ·) (show 2 ^ 146 = 524288 * 2 ^ 127 by decide)
theorem g0_pos : 0 < gU := Nat.pow_pos (by decide)
theorem w0_pos : 0 < wU := Nat.mul_pos g0_pos (Nat.pow_pos (by decide))
theorem w0_pow : ∃ e, e = 127 ∧ wU = 2 ^ (146 + e) := ⟨127, rfl, by unfold wU gU; rw [← Nat.pow_add]⟩
theorem pow_cong {a b : Nat} (h : a = b) : 2 ^ a = 2 ^ b := by rw [h]
theorem pow_a (B : Nat) : 2 ^ ((B : Int) - 2 * (-149)).toNat = 2 ^ (B + 6) * (524288 * wU) := by
  obtain ⟨e, he, hw⟩ := w0_pow
  rw [hw, show (524288 : Nat) = 2 ^ 19 by decide, ← Nat.pow_add, ← Nat.pow_add]
  exact pow_cong (by omega)
theorem pow_b (B : Nat) : 2 ^ (max ((B : Int) - 1 - ((23 : Nat) : Int)) (-149) - 2 * (-149)).toNat = 2 * (2 ^ B * wU) := by
  obtain ⟨e, he, hw⟩ := w0_pow
  rw [hw, ← Nat.pow_add, Nat.mul_comm, ← Nat.pow_succ]
  exact pow_cong (by omega)
theorem pow_c : 2 ^ (-(-149 : Int)).toNat = 8 * gU := by
  show 2 ^ 149 = 8 * 2 ^ 146
  decide
theorem pow_d (B : Nat) : 2 ^ ((B : Int) - (-149)).toNat = 2 ^ (B + 3) * gU := by
  unfold gU
  rw [← Nat.pow_add]
  exact pow_cong (by omega)
theorem pow_e (B : Nat) : 2 ^ (max ((B : Int) - 1 - ((23 : Nat) : Int)) (-149) - (-149)).toNat * (8 * gU) = 2 * (2 ^ B * wU) := by
  obtain ⟨e, he, hw⟩ := w0_pow
  rw [hw]
  unfold gU
  rw [show (8 : Nat) = 2 ^ 3 by decide, ← Nat.pow_add, ← Nat.pow_add, ← Nat.pow_add, Nat.mul_comm 2, ← Nat.pow_succ]
  exact pow_cong (by omega)
abbrev I32 (x : Nat) (v : Int) : Prop := Is Ieee.single (-149) x v
theorem fmul32 {x y K B : Nat} {a b : Int} (hx : I32 x a) (hy : I32 y b) (hk : (a * b).natAbs ≤ K * (524288 * wU)) (hB : K < 2 ^ (B + 6)) (h80 : B ≤ 80) :
    ∃ c, I32 (fop .mul .f32 x y) c ∧ (c * ((8 * gU : Nat) : Int) - a * b).natAbs ≤ 2 ^ B * wU := by
  obtain ⟨r, c, h1, h2, h3⟩ := mul_is fm32 (B := (B : Int)) hx hy (by decide) (by omega) (by
    rw [pow_a]
    exact Nat.lt_of_le_of_lt hk (Nat.mul_lt_mul_of_pos_right hB (Nat.mul_pos (by decide) w0_pos))) (by omega)
  refine ⟨c, ?_, ?_⟩
  · show Is _ _ ((Ieee.single.mul x y).getD (qnan .f32)) c
    rw [h1]
    exact h2
  · rw [pow_b, pow_c] at h3
    exact Nat.le_of_mul_le_mul_left h3 (by decide)
theorem fadd32 {x y B : Nat} {a b : Int} (hx : I32 x a) (hy : I32 y b) (hB : (a + b).natAbs < 2 ^ (B + 3) * gU) (h80 : B ≤ 80) :
    ∃ c, I32 (fop .add .f32 x y) c ∧ (c * ((8 * gU : Nat) : Int) - (a + b) * ((8 * gU : Nat) : Int)).natAbs ≤ 2 ^ B * wU := by
  obtain ⟨r, c, h1, h2, h3⟩ := add_is fm32 (B := (B : Int)) hx hy (by omega) (by rw [pow_d]; exact hB) (by omega)
  refine ⟨c, ?_, ?_⟩
  · show Is _ _ ((Ieee.single.add x y).getD (qnan .f32)) c
    rw [h1]
    exact h2
  · rw [← Int.sub_mul, Int.natAbs_mul, Int.natAbs_natCast]
    have h4 := Nat.mul_le_mul_right (8 * gU) h3
    rw [pow_e, Nat.mul_assoc] at h4
    exact Nat.le_of_mul_le_mul_left h4 (by decide)
theorem fsub32 {x y B : Nat} {a b : Int} (hx : I32 x a) (hy : I32 y b) (hB : (a - b).natAbs < 2 ^ (B + 3) * gU) (h80 : B ≤ 80) :
    ∃ c, I32 (fop .sub .f32 x y) c ∧ (c * ((8 * gU : Nat) : Int) - (a - b) * ((8 * gU : Nat) : Int)).natAbs ≤ 2 ^ B * wU := by
  obtain ⟨r, c, h1, h2, h3⟩ := sub_is fm32 (B := (B : Int)) hx hy (by omega) (by rw [pow_d]; exact hB) (by omega)
  refine ⟨c, ?_, ?_⟩
  · show Is _ _ ((Ieee.single.sub x y).getD (qnan .f32)) c
    rw [h1]
    exact h2
  · rw [← Int.sub_mul, Int.natAbs_mul, Int.natAbs_natCast]
    have h4 := Nat.mul_le_mul_right (8 * gU) h3
    rw [pow_e, Nat.mul_assoc] at h4
    exact Nat.le_of_mul_le_mul_left h4 (by decide)
theorem unscale {x : Int} {K : Nat} (h : (x * ((8 * gU : Nat) : Int)).natAbs < K * 8 * (524288 * wU)) : x.natAbs < K * gU := by
  rw [Int.natAbs_mul, Int.natAbs_natCast, ← gw0] at h
  have e : K * 8 * (gU * gU) = K * gU * (8 * gU) := Nat.mul_mul_mul_comm K 8 gU gU
  rw [e] at h
  exact Nat.lt_of_mul_lt_mul_right h
def tA (a b c d : Nat) : Nat := fop .add .f32 (fop .mul .f32 a b) (fop .mul .f32 c d)
theorem madd32 {x y z w K1 K2 B1 B2 B3 : Nat} {a b c d : Int} (hx : I32 x a) (hy : I32 y b) (hz : I32 z c) (hw : I32 w d)
    (h1 : (a * b).natAbs ≤ K1 * (524288 * wU)) (h2 : (c * d).natAbs ≤ K2 * (524288 * wU)) (k1 : K1 < 2 ^ (B1 + 6)) (k2 : K2 < 2 ^ (B2 + 6)) (k3 : (K1 + K2) * 524288 + (2 ^ B1 + 2 ^ B2) < 2 ^ (B3 + 3) * 8 * 524288) (g1 : B1 ≤ 80) (g2 : B2 ≤ 80) (g3 : B3 ≤ 80) :
    ∃ v, I32 (tA x y z w) v ∧ (v * ((8 * gU : Nat) : Int) - (a * b + c * d)).natAbs ≤ (2 ^ B1 + 2 ^ B2 + 2 ^ B3) * wU := by
  obtain ⟨r1, i1, e1⟩ := fmul32 hx hy h1 k1 g1
  obtain ⟨r2, i2, e2⟩ := fmul32 hz hw h2 k2 g2
  have hs : (r1 + r2).natAbs < 2 ^ (B3 + 3) * gU := by
    refine unscale ?_
    rw [Int.add_mul]
    have e1 := abs_in e1
    have e2 := abs_in e2
    have h1 := abs_in h1
    have h2 := abs_in h2
    have hk : (K1 + K2) * (524288 * wU) + (2 ^ B1 + 2 ^ B2) * wU < 2 ^ (B3 + 3) * 8 * (524288 * wU) := by
      rw [← Nat.mul_assoc, ← Nat.mul_assoc (2 ^ (B3 + 3) * 8), ← Nat.add_mul]
      exact Nat.mul_lt_mul_of_pos_right k3 w0_pos
    rw [Nat.add_mul, Nat.add_mul] at hk
    obtain ⟨D, hD⟩ : ∃ D, D = 524288 * wU := ⟨_, rfl⟩
    rw [← hD] at hk h1 h2 ⊢
    clear hD
    generalize 2 ^ (B3 + 3) * 8 * D = R at hk ⊢
    generalize K1 * D = p1 at hk h1
    generalize K2 * D = p2 at hk h2
    generalize 2 ^ B1 * wU = q1 at hk e1
    generalize 2 ^ B2 * wU = q2 at hk e2
    generalize r1 * ((8 * gU : Nat) : Int) = s1 at e1 ⊢
    generalize r2 * ((8 * gU : Nat) : Int) = s2 at e2 ⊢
    generalize a * b = ab at e1 h1
    generalize c * d = cd at e2 h2
    clear k1 k2 k3 g1 g2 g3
    omega
  obtain ⟨v, i3, e3⟩ := fadd32 i1 i2 hs g3
  refine ⟨v, i3, ?_⟩
  rw [Int.add_mul] at e3
  rw [Nat.add_mul, Nat.add_mul]
  have e1 := abs_in e1
  have e2 := abs_in e2
  have e3 := abs_in e3
  clear h1 h2 k1 k2 k3 g1 g2 g3 hs
  generalize 2 ^ B1 * wU = q1 at e1 ⊢
  generalize 2 ^ B2 * wU = q2 at e2 ⊢
  generalize 2 ^ B3 * wU = q3 at e3 ⊢
  generalize r1 * ((8 * gU : Nat) : Int) = s1 at e1 e3
  generalize r2 * ((8 * gU : Nat) : Int) = s2 at e2 e3
  generalize v * ((8 * gU : Nat) : Int) = s3 at e3 ⊢
  generalize a * b = ab at e1 ⊢
  generalize c * d = cd at e2 ⊢
  omega
structure Quad (a b c d : Nat) (x y z w : Int) : Prop where
  ia : I32 a x
  ib : I32 b y
  ic : I32 c z
  id : I32 d w
  ba : x.natAbs ≤ 33 * gU
  bb : y.natAbs ≤ 23 * gU
  bc : z.natAbs ≤ 45 * gU
  bd : w.natAbs ≤ 33 * gU
  det : (x * w - y * z - ((64 * (gU * gU) : Nat) : Int)).natAbs ≤ 128 * wU
theorem prod_le {x y : Int} {i j : Nat} (hx : x.natAbs ≤ i * gU) (hy : y.natAbs ≤ j * gU) : (x * y).natAbs ≤ i * j * (524288 * wU) := by
  have := abs_mul hx hy
  rwa [Nat.mul_mul_mul_comm, gw0] at this
theorem pair_area {c d u c' m n o p : Nat} {vc vd vu vc' vm vn vo vp : Int} (h : Quad c d u c' vc vd vu vc') (he : c' = c) (k : Quad m n o p vm vn vo vp) :
    ∃ t0 t1 t2 t3 X Y D : Int, I32 (tA c m d o) t0 ∧ I32 (tA c n d p) t1 ∧ I32 (tA u m c o) t2 ∧ I32 (tA u n c p) t3 ∧
      I32 (fop .mul .f32 (tA c m d o) (tA u n c p)) X ∧ I32 (fop .mul .f32 (tA c n d p) (tA u m c o)) Y ∧ I32 (fop .sub .f32 (fop .mul .f32 (tA c m d o) (tA u n c p)) (fop .mul .f32 (tA c n d p) (tA u m c o))) D ∧
      t0.natAbs < 266 * gU ∧ t1.natAbs < 190 * gU ∧ t2.natAbs < 372 * gU ∧ t3.natAbs < 266 * gU ∧ X.natAbs < 8847 * gU ∧ Y.natAbs < 8847 * gU ∧ 218 * (D - ((8 * gU : Nat) : Int)).natAbs ≤ gU := by
  subst he
  have hcc : vc' = vc := by
    obtain ⟨s, a, e, h1, h2, h3⟩ := h.ia
    obtain ⟨s', a', e', h1', h2', h3'⟩ := h.id
    rw [h1] at h1'
    cases h1'
    rw [h3, h3']
  subst hcc
  obtain ⟨t0, j0, e0⟩ := madd32 (B1 := 5) (B2 := 5) (B3 := 6) h.ia k.ia h.ib k.ic (prod_le h.ba k.ba) (prod_le h.bb k.bc) (by decide) (by decide) (by decide) (by decide) (by decide) (by decide)
  obtain ⟨t1, j1, e1⟩ := madd32 (B1 := 4) (B2 := 4) (B3 := 5) h.ia k.ib h.ib k.id (prod_le h.ba k.bb) (prod_le h.bb k.bd) (by decide) (by decide) (by decide) (by decide) (by decide) (by decide)
  obtain ⟨t2, j2, e2⟩ := madd32 (B1 := 5) (B2 := 5) (B3 := 6) h.ic k.ia h.ia k.ic (prod_le h.bc k.ba) (prod_le h.ba k.bc) (by decide) (by decide) (by decide) (by decide) (by decide) (by decide)
  obtain ⟨t3, j3, e3⟩ := madd32 (B1 := 5) (B2 := 5) (B3 := 6) h.ic k.ib h.ia k.id (prod_le h.bc k.bb) (prod_le h.ba k.bd) (by decide) (by decide) (by decide) (by decide) (by decide) (by decide)
  have hdet := det_bound gw0 w0_pos h.ba h.bb h.bc k.ba k.bb k.bc k.bd e0 e1 e2 e3 h.det k.det
  have q1 := prod_le h.ba k.ba
  have q2 := prod_le h.bb k.bc
  have q3 := prod_le h.ba k.bb
  have q4 := prod_le h.bb k.bd
  have q5 := prod_le h.bc k.ba
  have q6 := prod_le h.ba k.bc
  have q7 := prod_le h.bc k.bb
  have q8 := prod_le h.ba k.bd
  have hw := w0_pos
  have big : ∀ {t s s' : Int} {K i j e : Nat}, (t * ((8 * gU : Nat) : Int) - (s + s')).natAbs ≤ e * wU → s.natAbs ≤ i * (524288 * wU) → s'.natAbs ≤ j * (524288 * wU) → (i + j) * 524288 + e < K * 8 * 524288 → t.natAbs < K * gU := by
    intro t s s' K i j e h1 h2 h3 h4
    refine unscale ?_
    have hk : (i + j) * (524288 * wU) + e * wU < K * 8 * (524288 * wU) := by
      rw [← Nat.mul_assoc, ← Nat.mul_assoc (K * 8), ← Nat.add_mul]
      exact Nat.mul_lt_mul_of_pos_right h4 w0_pos
    rw [Nat.add_mul] at hk
    obtain ⟨D, hD⟩ : ∃ D, D = 524288 * wU := ⟨_, rfl⟩
    rw [← hD] at hk h2 h3 ⊢
    clear hD h4
    generalize K * 8 * D = R at hk ⊢
    generalize i * D = p1 at hk h2
    generalize j * D = p2 at hk h3
    generalize e * wU = q at hk h1
    generalize t * ((8 * gU : Nat) : Int) = tt at h1 ⊢
    have h1 := abs_in h1
    have h2 := abs_in h2
    have h3 := abs_in h3
    omega
  have z0 : t0.natAbs < 266 * gU := big e0 q1 q2 (by decide)
  have z1 : t1.natAbs < 190 * gU := big e1 q3 q4 (by decide)
  have z2 : t2.natAbs < 372 * gU := big e2 q5 q6 (by decide)
  have z3 : t3.natAbs < 266 * gU := big e3 q7 q8 (by decide)
  have pX := prod_le (Nat.le_of_lt z0) (Nat.le_of_lt z3)
  have pY := prod_le (Nat.le_of_lt z1) (Nat.le_of_lt z2)
  obtain ⟨X, jX, eX⟩ := fmul32 (B := 11) j0 j3 pX (by decide) (by decide)
  obtain ⟨Y, jY, eY⟩ := fmul32 (B := 11) j1 j2 pY (by decide) (by decide)
  have zX : X.natAbs < 8847 * gU := big (s' := 0) (j := 0) (by rw [Int.add_zero]; exact eX) pX (Nat.zero_le _) (by decide)
  have zY : Y.natAbs < 8847 * gU := big (s' := 0) (j := 0) (by rw [Int.add_zero]; exact eY) pY (Nat.zero_le _) (by decide)
  have hXY : ((X - Y) * ((8 * gU : Nat) : Int) - ((64 * (gU * gU) : Nat) : Int)).natAbs ≤ 19196 * wU := by
    rw [Int.sub_mul]
    generalize t0 * t3 = a at eX hdet
    generalize t1 * t2 = b at eY hdet
    generalize X * ((8 * gU : Nat) : Int) = XT at eX ⊢
    generalize Y * ((8 * gU : Nat) : Int) = YT at eY ⊢
    generalize ((64 * (gU * gU) : Nat) : Int) = S at hdet ⊢
    have eX := abs_in eX
    have eY := abs_in eY
    have hdet := abs_in hdet
    clear e0 e1 e2 e3 q1 q2 q3 q4 q5 q6 q7 q8 pX pY big zX zY z0 z1 z2 z3
    refine abs_of ?_ ?_ <;> omega
  have hlt : (X - Y).natAbs < 2 ^ (1 + 3) * gU := by
    refine unscale ?_
    rw [← gw0]
    have hg := gw0
    generalize (X - Y) * ((8 * gU : Nat) : Int) = z at hXY ⊢
    generalize gU * gU = gg at hXY hg ⊢
    have hXY := abs_in hXY
    clear e0 e1 e2 e3 q1 q2 q3 q4 q5 q6 q7 q8 pX pY big zX zY z0 z1 z2 z3 hdet
    omega
  obtain ⟨D, jD, eD⟩ := fsub32 jX jY hlt (by decide)
  refine ⟨t0, t1, t2, t3, X, Y, D, j0, j1, j2, j3, jX, jY, jD, z0, z1, z2, z3, zX, zY, ?_⟩
  have hT : ((64 * (gU * gU) : Nat) : Int) = ((8 * gU : Nat) : Int) * ((8 * gU : Nat) : Int) := by
    rw [← Int.natCast_mul, Nat.mul_mul_mul_comm]
  have hfin : ((D - ((8 * gU : Nat) : Int)) * ((8 * gU : Nat) : Int)).natAbs ≤ 19200 * wU := by
    rw [Int.sub_mul, ← hT]
    generalize (X - Y) * ((8 * gU : Nat) : Int) = z at hXY eD
    generalize D * ((8 * gU : Nat) : Int) = y at eD ⊢
    generalize ((64 * (gU * gU) : Nat) : Int) = S at hXY ⊢
    have hXY := abs_in hXY
    have eD := abs_in eD
    clear e0 e1 e2 e3 q1 q2 q3 q4 q5 q6 q7 q8 pX pY big zX zY z0 z1 z2 z3 hdet hlt
    refine abs_of ?_ ?_ <;> omega
  rw [Int.natAbs_mul, Int.natAbs_natCast] at hfin
  have hg := gw0
  generalize (D - ((8 * gU : Nat) : Int)).natAbs = y at hfin ⊢
  refine Nat.le_of_mul_le_mul_left ?_ g0_pos
  have e : y * (8 * gU) = 8 * (gU * y) := by rw [Nat.mul_left_comm, Nat.mul_comm y]
  rw [e] at hfin
  rw [Nat.mul_left_comm, hg]
  generalize gU * y = gy at hfin ⊢
  clear e0 e1 e2 e3 q1 q2 q3 q4 q5 q6 q7 q8 pX pY big zX zY z0 z1 z2 z3 hdet hlt hXY hg eX eY eD
  omega
end Go.Proofs.Ytdbmbelllghdcaa.Ab

namespace Go.Proofs.Ytdbmbelllghdcaa.Ab
set_option linter.unusedVariables false
set_option linter.unusedSimpArgs false
open Go
def aL (k : Nat) : Nat := fop .quo .f32 (floatOfInt .f32 ((k : Int) - 4)) 1073741824
def wL (k : Nat) : Nat := fop .quo .f32 (floatOfInt .f32 (1 + (k : Int))) 1082130432
def hL (k : Nat) : Nat := fop .quo .f32 (floatOfInt .f32 ((k : Int) - 4)) 1082130432
def eL (k : Nat) : Nat := fop .quo .f32 (floatOfInt .f32 (1 + 2 * (k : Int))) 1098907648
def uL (k : Nat) : Nat := fop .add .f32 1031798784 (fop .quo .f32 (floatOfInt .f32 (1 + (k : Int))) 1073741824)
theorem dr_range {l : List Int} (hb : bytesB l = true) (i : Nat) {k : Int} (hk : 1 ≤ k) : 0 ≤ drV l i k ∧ drV l i k < k := by
  obtain ⟨h0, h1⟩ := nx_range (l := l) (a := (i : Int)) (s := sdV l i) hb (by omega)
  unfold drV
  rw [Int.tmod_eq_emod_of_nonneg h0]
  exact ⟨Int.emod_nonneg _ (by omega), Int.emod_lt_of_pos _ (by omega)⟩
theorem a0_lit {l : List Int} (hb : bytesB l = true) : ∃ p, p < 9 ∧ a0F l = aL p := by
  obtain ⟨h0, h1⟩ := dr_range hb 0 (k := 9) (by decide)
  refine ⟨(drV l 0 9).toNat, by omega, ?_⟩
  unfold a0F aL
  rw [wrap_z (by omega) (by omega), Int.toNat_of_nonneg h0]
theorem wq_lit {l : List Int} (hb : bytesB l = true) (i : Nat) : ∃ p, p < 6 ∧ wqF l i = wL p := by
  obtain ⟨h0, h1⟩ := dr_range hb i (k := 6) (by decide)
  refine ⟨(drV l i 6).toNat, by omega, ?_⟩
  unfold wqF wL
  rw [wrap_z (by omega) (by omega), Int.toNat_of_nonneg h0]
theorem hq_lit {l : List Int} (hb : bytesB l = true) (i : Nat) : ∃ p, p < 13 ∧ hqF l i = hL p := by
  obtain ⟨h0, h1⟩ := dr_range hb i (k := 13) (by decide)
  refine ⟨(drV l i 13).toNat, by omega, ?_⟩
  unfold hqF hL
  rw [wrap_z (by omega) (by omega), Int.toNat_of_nonneg h0]
theorem e_lit {q : List Int} (hb : bytesB q = true) : ∃ k, k < 24 ∧ dN q = eL k := by
  obtain ⟨h0, h1⟩ := atF_range (i := 41) (k := 24) hb (by decide) (by decide) (by decide)
  refine ⟨(atF q 41 24).toNat, by omega, ?_⟩
  unfold dN eL
  rw [show IntKind.i64.wrap (2 * atF q 41 24) = 2 * atF q 41 24 from wrap_z (by omega) (by omega), wrap_z (by omega) (by omega), Int.toNat_of_nonneg h0]
theorem u_lit {q : List Int} (hb : bytesB q = true) : ∃ k, k < 8 ∧ dU q = uL k := by
  obtain ⟨h0, h1⟩ := atF_range (i := 42) (k := 8) hb (by decide) (by decide) (by decide)
  refine ⟨(atF q 42 8).toNat, by omega, ?_⟩
  unfold dU uL
  rw [wrap_z (by omega) (by omega), Int.toNat_of_nonneg h0]
theorem w_lit {q : List Int} (hb : bytesB q = true) : dW q = 2 ∨ dW q = 3 := by
  obtain ⟨h0, h1⟩ := atF_range (i := 40) (k := 2) hb (by decide) (by decide) (by decide)
  unfold dW
  rw [wrap_z (by omega) (by omega)]
  omega
theorem all_lt {n : Nat} {q : Nat → Bool} (h : (List.range n).all q = true) {i : Nat} (hi : i < n) : q i = true := List.all_eq_true.mp h i (by simpa using hi)
theorem w1_tab : ((List.range 54).all fun i => fop .sub .f32 (fop .add .f32 (aL (i % 9)) (wL (i / 9))) (aL (i % 9)) == wL (i / 9)) = true := by kernel_rfl
theorem w2_tab : ((List.range 324).all fun i => fop .sub .f32 (fop .add .f32 (fop .add .f32 (aL (i % 9)) (wL (i / 9 % 6))) (wL (i / 54))) (fop .add .f32 (aL (i % 9)) (wL (i / 9 % 6))) == wL (i / 54)) = true := by kernel_rfl
theorem w1_eq {p a : Nat} (hp : p < 9) (ha : a < 6) : fop .sub .f32 (fop .add .f32 (aL p) (wL a)) (aL p) = wL a := by
  have h := all_lt w1_tab (i := a * 9 + p) (by omega)
  rw [show (a * 9 + p) % 9 = p by omega, show (a * 9 + p) / 9 = a by omega] at h
  exact eq_of_beq h
theorem w2_eq {p a b : Nat} (hp : p < 9) (ha : a < 6) (hb : b < 6) : fop .sub .f32 (fop .add .f32 (fop .add .f32 (aL p) (wL a)) (wL b)) (fop .add .f32 (aL p) (wL a)) = wL b := by
  have h := all_lt w2_tab (i := b * 54 + a * 9 + p) (by omega)
  rw [show (b * 54 + a * 9 + p) % 9 = p by omega, show (b * 54 + a * 9 + p) / 9 % 6 = a by omega, show (b * 54 + a * 9 + p) / 54 = b by omega] at h
  exact eq_of_beq h
theorem v2_tab : ((List.range 54).all fun i => ([aL (i % 9), fop .add .f32 (aL (i % 9)) (wL (i / 9))].all finB && ascB [aL (i % 9), fop .add .f32 (aL (i % 9)) (wL (i / 9))])) = true := by kernel_rfl
theorem v3_tab : ((List.range 324).all fun i => ([aL (i % 9), fop .add .f32 (aL (i % 9)) (wL (i / 9 % 6)), fop .add .f32 (fop .add .f32 (aL (i % 9)) (wL (i / 9 % 6))) (wL (i / 54))].all finB && ascB [aL (i % 9), fop .add .f32 (aL (i % 9)) (wL (i / 9 % 6)), fop .add .f32 (fop .add .f32 (aL (i % 9)) (wL (i / 9 % 6))) (wL (i / 54))])) = true := by kernel_rfl
theorem h_tab : (finB 0 && (List.range 13).all fun i => finB (hL i)) = true := by kernel_rfl
end Go.Proofs.Ytdbmbelllghdcaa.Ab

namespace Go.Proofs.Ytdbmbelllghdcaa.Ab
set_option linter.unusedVariables false
set_option linter.unusedSimpArgs false
open Go
def frc {α : Type} (x : Nat) (K : Nat → α) : α := match x with
  | 0 => K 0
  | n + 1 => K (n + 1)
theorem frc_eq {α : Type} (x : Nat) (K : Nat → α) : frc x K = K x := by cases x <;> rfl
def v32 (x : Nat) : Option Int := match Ieee.single.read x with | .number s m e => some (Ieee.signed s m (e + 149).toNat) | _ => none
def boxB (K : Nat) (x : Nat) : Bool := match v32 x with | some v => decide (v.natAbs ≤ K * 2 ^ 146) | none => false
def detB (a b c d : Nat) : Bool := match v32 a, v32 b, v32 c, v32 d with
  | some x, some y, some z, some w => decide ((x * w - y * z - (64 * (2 ^ 146 * 2 ^ 146) : Nat)).natAbs ≤ 128 * (2 ^ 146 * 2 ^ 127))
  | _, _, _, _ => false
def quadB (a b c d : Nat) : Bool := boxB 33 a && (boxB 23 b && (boxB 45 c && (boxB 33 d && detB a b c d)))
def chkQ (c d u : Nat) : Bool := frc c fun c => frc d fun d => frc u fun u => quadB c d u c &&
  frc (tM c 1065353216 d 0) fun m => frc (tM c 0 d 1065353216) fun n => frc (tM u 1065353216 c 0) fun o => frc (tM u 0 c 1065353216) fun q => quadB m n o q && !arB [m, n, o, q]
def chkR (j w : Nat) : Bool := frc (rootF (eL j)) fun k => frc (wL w) fun y => (FloatKind.f32.format.order k 0 != some .eq) && (finB k && frc (trW k y) fun t => frc (phR t) fun c => frc (phI t) fun s => chkQ c (fop .quo .f32 s k) (fop .sub .f32 0 (fop .mul .f32 k s)))
def chkI (j w : Nat) : Bool := frc (rootF (eL j)) fun k => frc (wL w) fun y => frc (xI k y) fun x => frc (yI k y) fun z => (finB k && (expOk x && expOk z)) && frc (expF x) fun e => frc (expF z) fun f => frc (fop .mul .f32 1056964608 (fop .sub .f32 e f)) fun h => chkQ (fop .mul .f32 1056964608 (fop .add .f32 e f)) (fop .quo .f32 h k) (fop .mul .f32 k h)
theorem subL_tab : ((List.range 312).all fun i => match gtB (eL (i / 13)) (hL (i % 13)) with
  | true => fop .sub .f32 (eL (i / 13)) (hL (i % 13)) == eL (8 + i / 13 - 2 * (i % 13)) && decide (2 * (i % 13) ≤ 8 + i / 13)
  | false => ltB (eL (i / 13)) (hL (i % 13)) && (fop .sub .f32 (hL (i % 13)) (eL (i / 13)) == eL (2 * (i % 13) - 9 - i / 13) && decide (9 + i / 13 ≤ 2 * (i % 13)))) = true := by kernel_rfl
theorem e0_tab : ((List.range 24).all fun i => gtB (eL i) 0 && (finB (eL i) && finB (rootF (fop .sub .f32 (eL i) 0)))) = true := by kernel_rfl
end Go.Proofs.Ytdbmbelllghdcaa.Ab

namespace Go.Proofs.Ytdbmbelllghdcaa.Ab
set_option linter.unusedVariables false
set_option linter.unusedSimpArgs false
open Go
theorem sgn_val {s : Bool} {m k : Nat} (h : m ≠ 0 → s = false) : Ieee.signed s m k = ((m * 2 ^ k : Nat) : Int) := by
  rw [signed_eq]
  by_cases hm : m = 0
  · subst hm
    rw [Nat.zero_mul]
    cases s <;> rfl
  · rw [h hm]
    rfl
theorem zero_of {m a b : Nat} (h : m * 2 ^ a = 0 * 2 ^ b) : m = 0 := by
  rw [Nat.zero_mul] at h
  rcases Nat.mul_eq_zero.1 h with h | h
  · exact h
  · have := Nat.pow_pos (n := a) (show 0 < 2 by decide); omega
theorem add_ex {f : Ieee.Format} {F : Nat} {L : Int} {Z : Nat} (h : Fm f F L Z) {x y : Nat} {a b B : Int} (hx : Is f L x a) (hy : Is f L y b) (hL : L ≤ B) {V k : Nat} (hv : a + b = ((V * 2 ^ k : Nat) : Int)) (hV : V < 2 ^ (F + 1)) (hB : V * 2 ^ k < 2 ^ (B - L).toNat) (hZ : B - (F : Int) - L + 2 ≤ (Z : Int)) :
    ∃ r, f.add x y = some r ∧ Is f L r ((V * 2 ^ k : Nat) : Int) := by
  obtain ⟨s, m, i, h1, h2, rfl⟩ := hx
  obtain ⟨t, n, j, h3, h4, rfl⟩ := hy
  unfold Ieee.Format.add
  rw [h1, h3]
  unfold Ieee.Datum.sum
  dsimp only
  generalize hb : min i j = base
  have hbL : L ≤ base := by omega
  have e1 : Ieee.signed s m (i - L).toNat + Ieee.signed t n (j - L).toNat = (Ieee.signed s m (i - base).toNat + Ieee.signed t n (j - base).toNat) * ((2 ^ (base - L).toNat : Nat) : Int) := by
    rw [Int.add_mul, ← signed_scale, ← signed_scale, show (i - base).toNat + (base - L).toNat = (i - L).toNat by omega, show (j - base).toNat + (base - L).toNat = (j - L).toNat by omega]
  rw [e1] at hv
  generalize Ieee.signed s m (i - base).toNat + Ieee.signed t n (j - base).toNat = total at hv ⊢
  have hab : total.natAbs * 2 ^ (base - L).toNat = V * 2 ^ k := by
    have := congrArg Int.natAbs hv
    rw [Int.natAbs_mul, Int.natAbs_natCast, Int.natAbs_natCast] at this
    exact this
  have hlog := log_of (M := total.natAbs) hbL hL (by rw [hab]; exact hB)
  obtain ⟨m', p', h5, h6, h7⟩ := near_ex h (if total = 0 then s && t else decide (total < 0)) hbL (Int.le_refl L) hlog hZ hV (by omega) hab
  refine ⟨_, rfl, _, m', p', h5, h6, ?_⟩
  rw [← h7]
  refine (sgn_val fun hm => ?_).symm
  have hV0 : V ≠ 0 := by
    intro h0
    subst h0
    exact hm (zero_of h7)
  have hpos : 0 < V * 2 ^ k := Nat.mul_pos (by omega) (Nat.pow_pos (by decide))
  have h0 : total ≠ 0 := by
    intro h0
    subst h0
    rw [Int.zero_mul] at hv
    omega
  rw [if_neg h0]
  refine decide_eq_false fun hneg => ?_
  have hp : (0 : Int) < ((2 ^ (base - L).toNat : Nat) : Int) := by have := Nat.pow_pos (n := (base - L).toNat) (show 0 < 2 by decide); omega
  have := Int.mul_neg_of_neg_of_pos hneg hp
  omega
theorem sub_ex {f : Ieee.Format} {F : Nat} {L : Int} {Z : Nat} (h : Fm f F L Z) {x y : Nat} {a b B : Int} (hx : Is f L x a) (hy : Is f L y b) (hL : L ≤ B) {V k : Nat} (hv : a - b = ((V * 2 ^ k : Nat) : Int)) (hV : V < 2 ^ (F + 1)) (hB : V * 2 ^ k < 2 ^ (B - L).toNat) (hZ : B - (F : Int) - L + 2 ≤ (Z : Int)) :
    ∃ r, f.sub x y = some r ∧ Is f L r ((V * 2 ^ k : Nat) : Int) := by
  obtain ⟨s, m, i, h1, h2, rfl⟩ := hx
  obtain ⟨t0, n, j, h3, h4, h5'⟩ := opp_is hy
  have hv : Ieee.signed s m (i - L).toNat + Ieee.signed (!t0) n (j - L).toNat = ((V * 2 ^ k : Nat) : Int) := by rw [h5']; omega
  unfold Ieee.Format.sub
  rw [h1, h3]
  show ∃ r, (((Ieee.Datum.number s m i).sum (Ieee.Datum.number (!t0) n j)).map f.write) = some r ∧ _
  generalize (!t0) = t at hv
  unfold Ieee.Datum.sum
  dsimp only
  generalize hb : min i j = base
  have hbL : L ≤ base := by omega
  have e1 : Ieee.signed s m (i - L).toNat + Ieee.signed t n (j - L).toNat = (Ieee.signed s m (i - base).toNat + Ieee.signed t n (j - base).toNat) * ((2 ^ (base - L).toNat : Nat) : Int) := by
    rw [Int.add_mul, ← signed_scale, ← signed_scale, show (i - base).toNat + (base - L).toNat = (i - L).toNat by omega, show (j - base).toNat + (base - L).toNat = (j - L).toNat by omega]
  rw [e1] at hv
  generalize Ieee.signed s m (i - base).toNat + Ieee.signed t n (j - base).toNat = total at hv ⊢
  have hab : total.natAbs * 2 ^ (base - L).toNat = V * 2 ^ k := by
    have := congrArg Int.natAbs hv
    rw [Int.natAbs_mul, Int.natAbs_natCast, Int.natAbs_natCast] at this
    exact this
  have hlog := log_of (M := total.natAbs) hbL hL (by rw [hab]; exact hB)
  obtain ⟨m', p', h5, h6, h7⟩ := near_ex h (if total = 0 then s && t else decide (total < 0)) hbL (Int.le_refl L) hlog hZ hV (by omega) hab
  refine ⟨_, rfl, _, m', p', h5, h6, ?_⟩
  rw [← h7]
  refine (sgn_val fun hm => ?_).symm
  have hV0 : V ≠ 0 := by
    intro h0
    subst h0
    exact hm (zero_of h7)
  have hpos : 0 < V * 2 ^ k := Nat.mul_pos (by omega) (Nat.pow_pos (by decide))
  have h0 : total ≠ 0 := by
    intro h0
    subst h0
    rw [Int.zero_mul] at hv
    omega
  rw [if_neg h0]
  refine decide_eq_false fun hneg => ?_
  have hp : (0 : Int) < ((2 ^ (base - L).toNat : Nat) : Int) := by have := Nat.pow_pos (n := (base - L).toNat) (show 0 < 2 by decide); omega
  have := Int.mul_neg_of_neg_of_pos hneg hp
  omega
theorem half_is : Is Ieee.single (-149) 1056964608 ((2 ^ 148 : Nat) : Int) := ⟨false, 8388608, -24, by decide +kernel, by decide, by decide +kernel⟩
theorem mulp_ex {f : Ieee.Format} {F : Nat} {L : Int} {Z : Nat} (h : Fm f F L Z) {x y : Nat} {a b : Nat} {B : Int} (hx : Is f L x ((a : Nat) : Int)) (hy : Is f L y ((b : Nat) : Int)) (hL0 : L ≤ 0) (hL : L ≤ B) {V k : Nat} (hv : a * b = V * 2 ^ (k + (-L).toNat)) (hV : V < 2 ^ (F + 1)) (hB : a * b < 2 ^ (B - 2 * L).toNat) (hZ : B - (F : Int) - L + 2 ≤ (Z : Int)) :
    ∃ r, f.mul x y = some r ∧ Is f L r ((V * 2 ^ k : Nat) : Int) := by
  obtain ⟨s, m, i, h1, h2, h3⟩ := hx
  obtain ⟨t, n, j, h4, h5, h6⟩ := hy
  unfold Ieee.Format.mul
  rw [h1, h4]
  unfold Ieee.Datum.product
  dsimp only
  have ea : m * 2 ^ (i - L).toNat = a := by rw [← sgAbs s, ← h3, Int.natAbs_natCast]
  have eb : n * 2 ^ (j - L).toNat = b := by rw [← sgAbs t, ← h6, Int.natAbs_natCast]
  have hp : m * n * 2 ^ (i + j - 2 * L).toNat = a * b := by
    rw [← ea, ← eb, show (i + j - 2 * L).toNat = (i - L).toNat + (j - L).toNat by omega, Nat.pow_add]
    generalize 2 ^ (i - L).toNat = u
    generalize 2 ^ (j - L).toNat = v
    rw [Nat.mul_assoc, Nat.mul_assoc, Nat.mul_left_comm n u v]
  obtain ⟨m', p', h7, h8, h9⟩ := near_ex h (s ^^ t) (p := i + j) (Q := 2 * L) (by omega) (by omega) (log_of (Q := 2 * L) (by omega) (by omega) (by rw [hp]; exact hB)) hZ hV (k := k + (-L).toNat) (by omega) (by rw [hp, hv])
  refine ⟨_, rfl, _, m', p', h7, h8, ?_⟩
  have hval : m' * 2 ^ (p' - L).toNat = V * 2 ^ k := by
    refine Nat.mul_right_cancel (Nat.pow_pos (n := (-L).toNat) (show 0 < 2 by decide)) ?_
    rw [Nat.mul_assoc, ← Nat.pow_add, Nat.mul_assoc, ← Nat.pow_add, show (p' - L).toNat + (-L).toNat = (p' - 2 * L).toNat by omega]
    exact h9
  rw [← hval]
  refine (sgn_val fun hm => ?_).symm
  have hab : a * b ≠ 0 := by
    intro h0
    rw [h0] at hv
    have : V = 0 := by
      rcases Nat.mul_eq_zero.1 hv.symm with h | h
      · exact h
      · have := Nat.pow_pos (n := k + (-L).toNat) (show 0 < 2 by decide); omega
    subst this
    exact hm (zero_of hval)
  have ha : a ≠ 0 := fun h0 => hab (by rw [h0, Nat.zero_mul])
  have hb : b ≠ 0 := fun h0 => hab (by rw [h0, Nat.mul_zero])
  have hs : s = false := by
    cases s with
    | false => rfl
    | true => rw [signed_eq, if_pos rfl, ea] at h3; omega
  have ht : t = false := by
    cases t with
    | false => rfl
    | true => rw [signed_eq, if_pos rfl, eb] at h6; omega
  rw [hs, ht]
  rfl
end Go.Proofs.Ytdbmbelllghdcaa.Ab

namespace Go.Proofs.Ytdbmbelllghdcaa.Ab
set_option linter.unusedVariables false
set_option linter.unusedSimpArgs false
open Go
theorem read_ge {x : Nat} {s : Bool} {m : Nat} {e : Int} (h : Ieee.single.read x = .number s m e) : -149 ≤ e := by
  have c4 : Ieee.single.leastPlace = -149 := by decide
  unfold Ieee.Format.read at h
  rw [c4] at h
  dsimp only at h
  split at h
  · cases h; exact Int.le_refl _
  · split at h
    · cases h; omega
    · split at h <;> cases h
theorem v32_is {x : Nat} {v : Int} (h : v32 x = some v) : I32 x v := by
  unfold v32 at h
  cases hr : Ieee.single.read x with
  | number s m e =>
    rw [hr] at h
    cases h
    exact ⟨s, m, e, hr, read_ge hr, by rw [show e - (-149 : Int) = e + 149 by omega]⟩
  | infinity s => rw [hr] at h; cases h
  | nan s t => rw [hr] at h; cases h
theorem ltB_is {x y : Nat} {a b : Int} (hx : I32 x a) (hy : I32 y b) (h : b ≤ a) : ltB x y = false := by
  unfold ltB
  show (Ieee.single.order x y == some .lt) = false
  rw [order_is hx hy]
  have : compare a b ≠ .lt := fun hc => by have := Int.compare_eq_lt.1 hc; omega
  cases hc : compare a b with
  | lt => exact absurd hc this
  | eq => rfl
  | gt => rfl
theorem gtB_is {x y : Nat} {a b : Int} (hx : I32 x a) (hy : I32 y b) (h : a ≤ b) : gtB x y = false := by
  unfold gtB
  show (Ieee.single.order x y == some .gt) = false
  rw [order_is hx hy]
  have : compare a b ≠ .gt := fun hc => by have := Int.compare_eq_gt.1 hc; omega
  cases hc : compare a b with
  | gt => exact absurd hc this
  | eq => rfl
  | lt => rfl
theorem mid_is {a b k1 k2 s : Nat} (ha : I32 a ((k1 * 2 ^ (s + 1) : Nat) : Int)) (hb : I32 b ((k2 * 2 ^ (s + 1) : Nat) : Int)) (hk : k1 + k2 < 2 ^ 21) (hs : s ≤ 144) : I32 (mid a b) (((k1 + k2) * 2 ^ s : Nat) : Int) := by
  have hlt : ∀ n d : Nat, 166 + d ≤ n → (k1 + k2) * 2 ^ (s + 1 + d) < 2 ^ n := by
    intro n d hn
    have h1 : (k1 + k2) * 2 ^ (s + 1 + d) < 2 ^ 21 * 2 ^ (s + 1 + d) := Nat.mul_lt_mul_of_pos_right hk (Nat.pow_pos (by decide))
    rw [← Nat.pow_add] at h1
    exact Nat.lt_of_lt_of_le h1 (Nat.pow_le_pow_right (by decide) (by omega))
  obtain ⟨r, h1, h2⟩ := add_ex fm32 (B := 20) ha hb (by decide) (V := k1 + k2) (k := s + 1) (by rw [← Int.natCast_add, Nat.add_mul]) (Nat.lt_trans hk (by decide)) (hlt 169 0 (by decide)) (by decide)
  obtain ⟨q, h3, h4⟩ := mulp_ex fm32 (B := 20) half_is h2 (by decide) (by decide) (V := k1 + k2) (k := s) (by
    show 2 ^ 148 * ((k1 + k2) * 2 ^ (s + 1)) = (k1 + k2) * 2 ^ (s + 149)
    rw [Nat.mul_left_comm, ← Nat.pow_add, show 148 + (s + 1) = s + 149 by omega]) (Nat.lt_trans hk (by decide)) (by
    rw [Nat.mul_left_comm, ← Nat.pow_add, Nat.add_comm 148 (s + 1)]
    exact hlt _ 148 (by decide)) (by decide)
  have e1 : fop .add .f32 a b = r := by
    show (Ieee.single.add a b).getD (qnan .f32) = r
    rw [h1]
    rfl
  show I32 (fop .mul .f32 1056964608 (fop .add .f32 a b)) _
  rw [e1]
  show Is _ _ ((Ieee.single.mul 1056964608 r).getD (qnan .f32)) _
  rw [h3]
  exact h4
theorem bis_in {l0 l1 : List Nat} {was : Bool} : ∀ (t s a b k1 k2 x : Nat), bisV l0 l1 was t a b = some x → k1 ≤ k2 → k2 * 2 ^ t < 2 ^ 20 → s + t ≤ 145 → I32 a ((k1 * 2 ^ (s + t) : Nat) : Int) → I32 b ((k2 * 2 ^ (s + t) : Nat) : Int) →
    ∃ k, I32 x ((k * 2 ^ s : Nat) : Int) ∧ k1 * 2 ^ t ≤ k ∧ k ≤ k2 * 2 ^ t
  | 0, s, a, b, k1, k2, x, h, hk, h20, hs, ha, hb => by
    cases h
    exact ⟨k1, ha, by simp, by simpa using hk⟩
  | t + 1, s, a, b, k1, k2, x, h, hk, h20, hs, ha, hb => by
    have e1 : k2 * 2 ^ (t + 1) = 2 * k2 * 2 ^ t := by rw [Nat.pow_succ, Nat.mul_comm (2 ^ t) 2, ← Nat.mul_assoc, Nat.mul_comm k2 2]
    have e2 : k1 * 2 ^ (t + 1) = 2 * k1 * 2 ^ t := by rw [Nat.pow_succ, Nat.mul_comm (2 ^ t) 2, ← Nat.mul_assoc, Nat.mul_comm k1 2]
    have f1 : ∀ k, k * 2 ^ (s + (t + 1)) = 2 * k * 2 ^ (s + t) := fun k => by rw [← Nat.add_assoc, Nat.pow_succ, Nat.mul_comm (2 ^ (s + t)) 2, ← Nat.mul_assoc, Nat.mul_comm k 2]
    have hp : 1 ≤ 2 ^ t := Nat.pow_pos (by decide)
    have hk20 : 2 * k2 < 2 ^ 20 := by
      rw [e1] at h20
      exact Nat.lt_of_le_of_lt (Nat.le_mul_of_pos_right _ hp) h20
    have hm := mid_is (s := s + t) (by rw [Nat.add_assoc]; exact ha) (by rw [Nat.add_assoc]; exact hb) (by omega) (by omega)
    rw [f1] at ha hb
    unfold bisV at h
    split at h
    · cases h
    · split at h
      · obtain ⟨k, h1, h2, h3⟩ := bis_in t s (mid a b) b (k1 + k2) (2 * k2) x h (by omega) (by rw [← e1]; exact h20) (by omega) hm hb
        refine ⟨k, h1, ?_, by rw [e1]; exact h3⟩
        rw [e2]
        exact Nat.le_trans (Nat.mul_le_mul_right _ (by omega)) h2
      · obtain ⟨k, h1, h2, h3⟩ := bis_in t s a (mid a b) (2 * k1) (k1 + k2) x h (by omega) (by
          rw [e1] at h20
          exact Nat.lt_of_le_of_lt (Nat.mul_le_mul_right _ (by omega)) h20) (by omega) ha hm
        refine ⟨k, h1, by rw [e2]; exact h2, ?_⟩
        rw [e1]
        exact Nat.le_trans h3 (Nat.mul_le_mul_right _ (by omega))
theorem grid_tab : ((List.range 72).all fun i => v32 (eG 1031798784 (uL (i / 9)) (i % 9)) == some (((1 + (i / 9 + 1) * (i % 9)) * 2 ^ 145 : Nat) : Int)) = true := by kernel_rfl
theorem edge_tab : ((List.range 64).all fun i => match v32 (gC (uL (i / 8)) (((i % 8 + 1 : Nat)) : Int)), v32 (gD (uL (i / 8)) (((i % 8 + 1 : Nat)) : Int)) with
  | some c, some d => decide (c ≤ (((1 + (i / 8 + 1) * (i % 8)) * 2 ^ 145 : Nat) : Int)) && decide ((((1 + (i / 8 + 1) * (i % 8 + 1)) * 2 ^ 145 : Nat) : Int) ≤ d)
  | _, _ => false) = true := by kernel_rfl
theorem grid_is {j i : Nat} (hj : j < 8) (hi : i < 9) : I32 (eG 1031798784 (uL j) i) (((1 + (j + 1) * i) * 2 ^ 145 : Nat) : Int) := by
  have h := all_lt grid_tab (i := j * 9 + i) (by omega)
  rw [show (j * 9 + i) / 9 = j by omega, show (j * 9 + i) % 9 = i by omega] at h
  exact v32_is (eq_of_beq h)
theorem zero_tab : ((List.range 8).all fun j => eG 1031798784 (uL j) 0 == 1031798784) = true := by kernel_rfl
theorem k_le {j i : Nat} (hj : j < 8) (hi : i < 9) : 1 + (j + 1) * i ≤ 65 := by
  have : (j + 1) * i ≤ 8 * 8 := Nat.mul_le_mul (by omega) (by omega)
  omega
theorem edge_ok {l0 l1 : List Nat} {j : Nat} (hj : j < 8) (was : Bool) (i x : Nat) (h1 : 1 ≤ i) (h9 : i < 9) (h : bisV l0 l1 was 12 (eG 1031798784 (uL j) (i - 1)) (eG 1031798784 (uL j) i) = some x) :
    ltB x (gC (uL j) ((i : Nat) : Int)) = false ∧ gtB x (gD (uL j) ((i : Nat) : Int)) = false := by
  have ga := grid_is hj (show i - 1 < 9 by omega)
  have gb := grid_is hj h9
  have hle : 1 + (j + 1) * (i - 1) ≤ 1 + (j + 1) * i := Nat.add_le_add_left (Nat.mul_le_mul_left _ (by omega)) 1
  have h65 := k_le hj h9
  obtain ⟨k, hk, k1, k2⟩ := bis_in 12 133 _ _ _ _ x h hle (by omega) (by decide) ga gb
  have ht := all_lt edge_tab (i := j * 8 + (i - 1)) (by omega)
  rw [show (j * 8 + (i - 1)) / 8 = j by omega, show (j * 8 + (i - 1)) % 8 = i - 1 by omega, show i - 1 + 1 = i by omega] at ht
  split at ht
  · rename_i c d hc hd
    rw [Bool.and_eq_true] at ht
    have c1 := of_decide_eq_true ht.1
    have d1 := of_decide_eq_true ht.2
    have p1 : (1 + (j + 1) * (i - 1)) * 2 ^ 145 ≤ k * 2 ^ 133 := by
      have := Nat.mul_le_mul_right (2 ^ 133) k1
      rw [Nat.mul_assoc, ← Nat.pow_add] at this
      exact this
    have p2 : k * 2 ^ 133 ≤ (1 + (j + 1) * i) * 2 ^ 145 := by
      have := Nat.mul_le_mul_right (2 ^ 133) k2
      rw [Nat.mul_assoc, ← Nat.pow_add] at this
      exact this
    exact ⟨ltB_is hk (v32_is hc) (Int.le_trans c1 (Int.ofNat_le.2 p1)), gtB_is hk (v32_is hd) (Int.le_trans (Int.ofNat_le.2 p2) d1)⟩
  · cases ht
def EQs (t x : Nat) : Prop := t ≤ 12 → ∃ k, I32 x ((k * 2 ^ (145 - t) : Nat) : Int) ∧ 2 ^ t ≤ k ∧ k ≤ 65 * 2 ^ t
theorem eq_of {l0 l1 : List Nat} {j : Nat} (hj : j < 8) (hc : ∀ t x, t ≤ 12 → EQs t x → cellO l0 l1 x = true) : EQ l0 l1 1031798784 (uL j) EQs where
  grid i hi := fun _ => ⟨1 + (j + 1) * i, grid_is hj hi, by show 1 ≤ _; omega, by have := k_le hj hi; show _ ≤ 65 * 1; omega⟩
  down t x hx := fun ht => by
    obtain ⟨k, h1, h2, h3⟩ := hx (by omega)
    refine ⟨2 * k, ?_, by rw [Nat.pow_succ]; omega, by rw [Nat.pow_succ]; omega⟩
    have e : 2 * k * 2 ^ (145 - (t + 1)) = k * 2 ^ (145 - t) := by
      rw [show 145 - t = (145 - (t + 1)) + 1 by omega, Nat.pow_succ, Nat.mul_comm (2 ^ _) 2, ← Nat.mul_assoc, Nat.mul_comm k 2]
    rw [e]
    exact h1
  mids t x y hx hy := fun ht => by
    obtain ⟨k, h1, h2, h3⟩ := hx (by omega)
    obtain ⟨k', h1', h2', h3'⟩ := hy (by omega)
    have hp : 2 ^ t ≤ 2 ^ 11 := Nat.pow_le_pow_right (by decide) (by omega)
    have hsplit : 145 - t = (145 - (t + 1)) + 1 := by omega
    rw [hsplit] at h1 h1'
    refine ⟨k + k', mid_is h1 h1' (by omega) (by omega), ?_, ?_⟩
    · rw [Nat.pow_succ]; omega
    · rw [Nat.pow_succ]; omega
  cell := hc
end Go.Proofs.Ytdbmbelllghdcaa.Ab

namespace Go.Proofs.Ytdbmbelllghdcaa.Ab
set_option linter.unusedVariables false
set_option linter.unusedSimpArgs false
open Go
theorem beld_quoS {A S : Int} {x y n : Nat} {j : Int} (hx : BelD A x) (hy : Ieee.double.read y = .number false n j) (hn : n ≠ 0) (hj : S ≤ j + (n.log2 : Int)) (h1 : -1000 ≤ A - S) (h2 : A - S ≤ 1000) : BelD (A - S + 1) (fop .quo .f64 x y) := by
  obtain ⟨s, m, i, hx, hm⟩ := hx
  have e : fop .quo .f64 x y = Ieee.double.nearest (s ^^ false) (2 * ((m <<< (54 + n.log2 - m.log2)) / n) + ((m <<< (54 + n.log2 - m.log2)) % n != 0).toNat) (i - j - ((54 + n.log2 - m.log2 : Nat) : Int) - 1) := by
    unfold fop floatBits
    show (Ieee.double.div x y).getD _ = _
    unfold Ieee.Format.div
    rw [hx, hy]
    unfold Ieee.Datum.quotient
    dsimp only
    rw [if_neg hn]
    rfl
  rw [e]
  refine beld_near ?_ h1 h2
  by_cases m0 : m = 0
  · subst m0
    left
    simp
  have hm := hm.resolve_left m0
  generalize hmore : 54 + n.log2 - m.log2 = more
  have hb : (m <<< more % n != 0).toNat ≤ 1 := by cases (m <<< more % n != 0) <;> decide
  have h3 : m < 2 ^ (m.log2 + 1) := Nat.lt_log2_self
  have h4 : 2 ^ n.log2 ≤ n := Nat.log2_self_le hn
  have h5 : m <<< more / n < 2 ^ (m.log2 + 1 + more - n.log2) := by
    rw [Nat.div_lt_iff_lt_mul (by omega), Nat.shiftLeft_eq]
    have q1 : m * 2 ^ more < 2 ^ (m.log2 + 1) * 2 ^ more := Nat.mul_lt_mul_of_pos_right h3 (Nat.pow_pos (by decide))
    have q2 : 2 ^ (m.log2 + 1 + more - n.log2) * 2 ^ n.log2 ≤ 2 ^ (m.log2 + 1 + more - n.log2) * n := Nat.mul_le_mul_left _ h4
    rw [← Nat.pow_add] at q1 q2
    rw [show m.log2 + 1 + more - n.log2 + n.log2 = m.log2 + 1 + more by omega] at q2
    exact Nat.lt_of_lt_of_le q1 q2
  generalize m <<< more / n = q at *
  generalize (m <<< more % n != 0).toNat = b at *
  by_cases q0 : 2 * q + b = 0
  · exact .inl q0
  right
  have h6 : 2 * q + b < 2 ^ (m.log2 + 1 + more - n.log2 + 1) := by
    rw [Nat.pow_succ]
    omega
  have := (Nat.log2_lt q0).2 h6
  omega
abbrev I64 (x : Nat) (v : Int) : Prop := Is Ieee.double (-1074) x v
theorem beld_is {A : Int} {x : Nat} (h : BelD A x) (hA : -1074 ≤ A) : ∃ v, I64 x v ∧ v.natAbs < 2 ^ (A + 1074).toNat := by
  obtain ⟨s, m, e, h1, h2⟩ := h
  have hp := (read_place h1).1
  refine ⟨_, ⟨s, m, e, h1, hp, rfl⟩, ?_⟩
  rw [sgAbs]
  by_cases hm : m = 0
  · subst hm
    rw [Nat.zero_mul]
    exact Nat.pow_pos (by decide)
  · have h2 := h2.resolve_left hm
    have h3 : m < 2 ^ (m.log2 + 1) := Nat.lt_log2_self
    have h4 : m * 2 ^ (e - -1074).toNat < 2 ^ (m.log2 + 1) * 2 ^ (e - -1074).toNat := Nat.mul_lt_mul_of_pos_right h3 (Nat.pow_pos (by decide))
    rw [← Nat.pow_add] at h4
    exact Nat.lt_of_lt_of_le h4 (Nat.pow_le_pow_right (by decide) (by omega))
theorem is_beld {A : Int} {x : Nat} {v : Int} (h : I64 x v) (hA : -1074 ≤ A) (hv : v.natAbs < 2 ^ (A + 1074).toNat) : BelD A x := by
  obtain ⟨s, m, e, h1, h2, rfl⟩ := h
  rw [sgAbs] at hv
  exact ⟨s, m, e, h1, log_of (Q := -1074) h2 hA (by rw [show A - -1074 = A + 1074 by omega]; exact hv)⟩
def e9 : Nat := 1021
def u9 : Nat := 2 ^ e9
theorem u9_eq : u9 = 2 ^ e9 := by unfold u9; rfl
theorem u9_pos : 0 < u9 := by rw [u9_eq]; exact Nat.pow_pos (by decide)
theorem pw9 (k n : Nat) (h : n = k + 1021) : 2 ^ n = 2 ^ k * u9 := by
  have hn : n = k + e9 := by unfold e9; exact h
  rw [u9_eq, hn, Nat.pow_add]
def PK (K x : Nat) : Prop := ∃ v, I64 x v ∧ v.natAbs ≤ K * u9
theorem one_is : ∃ v, I64 4607182418800017408 v ∧ v = ((2 ^ 53 * u9 : Nat) : Int) := by
  refine ⟨_, ⟨false, 4503599627370496, -52, by decide +kernel, by decide, rfl⟩, ?_⟩
  rw [signed_eq, if_neg (by decide)]
  have e1 : (4503599627370496 : Nat) = 2 ^ 52 := by decide
  have e2 : 4503599627370496 * 2 ^ ((-52 : Int) - -1074).toNat = 2 ^ 53 * u9 := by
    rw [e1, ← Nat.pow_add]
    exact pw9 53 _ (by decide)
  exact congrArg Int.ofNat e2
theorem PK.beld {K x : Nat} (h : PK K x) {A : Nat} (hA : K < 2 ^ (A + 53)) : BelD (A : Int) x := by
  obtain ⟨v, h1, h2⟩ := h
  refine is_beld h1 (by omega) ?_
  rw [pw9 (A + 53) _ (by omega)]
  exact Nat.lt_of_le_of_lt h2 (Nat.mul_lt_mul_of_pos_right hA u9_pos)
theorem step5 {t p k n : Nat} {j : Int} (ht : BelD (-5) t) (hp : PK 11258999068426241 p) (hk : Ieee.double.read k = .number false n j) (hn : n ≠ 0) (hj : 0 ≤ j + (n.log2 : Int)) : PK 11258999068426241 (eS t p k) := by
  have h1 := beld_mul ht (hp.beld (A := 1) (by decide)) (by decide) (by decide)
  have h2 := beld_quo h1 hk hn hj (by decide) (by decide)
  obtain ⟨v, h3, h4⟩ := beld_is h2 (by decide)
  obtain ⟨o, h5, ho⟩ := one_is
  have h4 : v.natAbs < 2 ^ 51 * u9 := Nat.lt_of_lt_of_eq h4 (pw9 51 _ (by decide))
  have hb : (o + v).natAbs < 2 ^ ((1 : Int) - -1074).toNat := by
    rw [pw9 54 _ (by decide), ho]
    generalize u9 = u at h4 ⊢
    omega
  obtain ⟨r, c, h6, h7, h8⟩ := add_is fm64 (B := 1) h5 h3 (by decide) hb (by decide)
  refine ⟨c, ?_, ?_⟩
  · show Is _ _ ((Ieee.double.add 4607182418800017408 (fop .quo .f64 (fop .mul .f64 t p) k)).getD (qnan .f64)) c
    rw [h6]
    exact h7
  · have h8 : 2 * (c - (o + v)).natAbs ≤ 2 ^ 1 * u9 := Nat.le_trans h8 (Nat.le_of_eq (pw9 1 _ (by decide)))
    rw [ho] at h8
    generalize u9 = u at h4 h8 ⊢
    omega
theorem sq5 {K K' B x : Nat} (h : PK K x) (h1 : K * K < 2 ^ (B + 106)) (h2 : K * K + 2 ^ (B + 52) ≤ K' * 2 ^ 53) (hB : B ≤ 900) : PK K' (eQ x) := by
  obtain ⟨v, h3, h4⟩ := h
  have hv : (v * v).natAbs ≤ K * K * (u9 * u9) := by
    rw [Int.natAbs_mul]
    have := Nat.mul_le_mul h4 h4
    rwa [Nat.mul_mul_mul_comm] at this
  have hpw : ∀ k n : Nat, n = k + 2042 → 2 ^ n = 2 ^ k * (u9 * u9) := by
    intro k n hn
    rw [← Nat.mul_assoc, ← pw9 k (k + 1021) rfl, ← pw9 (k + 1021) n (by omega)]
  obtain ⟨r, c, h5, h6, h7⟩ := mul_is fm64 (B := (B : Int)) h3 h3 (by decide) (by omega) (by
    rw [hpw (B + 106) _ (by omega)]
    exact Nat.lt_of_le_of_lt hv (Nat.mul_lt_mul_of_pos_right h1 (Nat.mul_pos u9_pos u9_pos))) (by omega)
  refine ⟨c, ?_, ?_⟩
  · show Is _ _ ((Ieee.double.mul x x).getD (qnan .f64)) c
    rw [h5]
    exact h6
  · have e1 : 2 ^ (-(-1074 : Int)).toNat = 2 ^ 53 * u9 := pw9 53 _ (by decide)
    have e2 : 2 ^ (max ((B : Int) - 1 - ((52 : Nat) : Int)) (-1074) - 2 * (-1074)).toNat = 2 ^ (B + 53) * (u9 * u9) := hpw (B + 53) _ (by omega)
    rw [e1, e2] at h7
    have h8 : (c * ((2 ^ 53 * u9 : Nat) : Int)).natAbs ≤ (K * K + 2 ^ (B + 52)) * (u9 * u9) := by
      rw [Nat.add_mul]
      have e3 : 2 ^ (B + 53) * (u9 * u9) = 2 * (2 ^ (B + 52) * (u9 * u9)) := by rw [show B + 53 = (B + 52) + 1 by omega, Nat.pow_succ, Nat.mul_comm (2 ^ (B + 52)) 2, Nat.mul_assoc]
      rw [e3] at h7
      generalize 2 ^ (B + 52) * (u9 * u9) = w at h7 ⊢
      generalize K * K * (u9 * u9) = z at hv ⊢
      generalize c * ((2 ^ 53 * u9 : Nat) : Int) = y at h7 ⊢
      generalize v * v = q at h7 hv
      omega
    rw [Int.natAbs_mul, Int.natAbs_natCast] at h8
    have h9 : (K * K + 2 ^ (B + 52)) * (u9 * u9) ≤ K' * 2 ^ 53 * (u9 * u9) := Nat.mul_le_mul_right _ h2
    have h10 := Nat.le_trans h8 h9
    rw [Nat.mul_mul_mul_comm] at h10
    rw [show K' * u9 * (2 ^ 53 * u9) = (K' * u9) * (2 ^ 53 * u9) from rfl] at h10
    exact Nat.le_of_mul_le_mul_right h10 (Nat.mul_pos (by decide) u9_pos)
theorem exp5 {x : Nat} (h : BelD 2 x) : PK 58016710397194022123428365819666004216453 (expV x) := by
  have ht : BelD (-5) (fop .quo .f64 x 4643211215818981376) := beld_quoS (A := 2) (S := 8) h (n := 4503599627370496) (j := -44) (by decide +kernel) (by decide) (by decide +kernel) (by decide) (by decide)
  have h0 : PK 11258999068426241 4607182418800017408 := by
    obtain ⟨o, h5, ho⟩ := one_is
    refine ⟨o, h5, ?_⟩
    rw [ho]
    generalize u9 = u
    omega
  unfold expV eP
  have h1 := step5 (k := 4622945017495814144) (n := 6755399441055744) (j := -49) ht h0 (by decide +kernel) (by decide) (by decide +kernel)
  have h2 := step5 (k := 4622382067542392832) (n := 6192449487634432) (j := -49) ht h1 (by decide +kernel) (by decide) (by decide +kernel)
  have h3 := step5 (k := 4621819117588971520) (n := 5629499534213120) (j := -49) ht h2 (by decide +kernel) (by decide) (by decide +kernel)
  have h4 := step5 (k := 4621256167635550208) (n := 5066549580791808) (j := -49) ht h3 (by decide +kernel) (by decide) (by decide +kernel)
  have h5 := step5 (k := 4620693217682128896) (n := 4503599627370496) (j := -49) ht h4 (by decide +kernel) (by decide) (by decide +kernel)
  have h6 := step5 (k := 4619567317775286272) (n := 7881299347898368) (j := -50) ht h5 (by decide +kernel) (by decide) (by decide +kernel)
  have h7 := step5 (k := 4618441417868443648) (n := 6755399441055744) (j := -50) ht h6 (by decide +kernel) (by decide) (by decide +kernel)
  have h8 := step5 (k := 4617315517961601024) (n := 5629499534213120) (j := -50) ht h7 (by decide +kernel) (by decide) (by decide +kernel)
  have h9 := step5 (k := 4616189618054758400) (n := 4503599627370496) (j := -50) ht h8 (by decide +kernel) (by decide) (by decide +kernel)
  have h10 := step5 (k := 4613937818241073152) (n := 6755399441055744) (j := -51) ht h9 (by decide +kernel) (by decide) (by decide +kernel)
  have h11 := step5 (k := 4611686018427387904) (n := 4503599627370496) (j := -51) ht h10 (by decide +kernel) (by decide) (by decide +kernel)
  have h12 := step5 (k := 4607182418800017408) (n := 4503599627370496) (j := -52) ht h11 (by decide +kernel) (by decide) (by decide +kernel)
  have g1 := sq5 (K := 11258999068426241) (K' := 14073748835532804) (B := 1) h12 (by decide) (by decide) (by decide)
  have g2 := sq5 (K := 14073748835532804) (K' := 21990232555520015) (B := 2) g1 (by decide) (by decide) (by decide)
  have g3 := sq5 (K := 21990232555520015) (K' := 53687091200000078) (B := 3) g2 (by decide) (by decide) (by decide)
  have g4 := sq5 (K := 53687091200000078) (K' := 320000000000000962) (B := 6) g3 (by decide) (by decide) (by decide)
  have g5 := sq5 (K := 320000000000000962) (K' := 11368683772161672353) (B := 11) g4 (by decide) (by decide) (by decide)
  have g6 := sq5 (K := 11368683772161672353) (K' := 14349296274686302992210) (B := 21) g5 (by decide) (by decide) (by decide)
  have g7 := sq5 (K := 14349296274686302992210) (K' := 22859747825646063204165741969) (B := 42) g6 (by decide) (by decide) (by decide)
  have g8 := sq5 (K := 22859747825646063204165741969) (K' := 58016710397194022123428365819666004216453) (B := 83) g7 (by decide) (by decide) (by decide)
  exact g8
theorem exp_mid {x : Nat} (h : BelD 2 x) : ∃ r, fconv .f64 (expD x) .f32 = some r := by
  unfold expD
  cases gtD x 4641240890982006784 with
  | true => show ∃ r, fconv .f64 9218868437227405312 .f32 = some r; exact Option.isSome_iff_exists.1 (by decide +kernel)
  | false =>
    cases ltD x 13864612927836782592 with
    | true => show ∃ r, fconv .f64 0 .f32 = some r; exact Option.isSome_iff_exists.1 (by decide +kernel)
    | false => exact beld_conv ((exp5 h).beld (A := 127) (by decide))
end Go.Proofs.Ytdbmbelllghdcaa.Ab

namespace Go.Proofs.Ytdbmbelllghdcaa.Ab
set_option linter.unusedVariables false
set_option linter.unusedSimpArgs false
open Go
theorem read_lt {x : Nat} {s : Bool} {m : Nat} {e : Int} (h : Ieee.single.read x = .number s m e) : m < 16777216 ∧ e ≤ 104 := by
  unfold Ieee.Format.read at h
  have c1 : Ieee.single.signWeight = 2147483648 := by decide
  have c2 : Ieee.single.binade = 8388608 := by decide
  have c3 : Ieee.single.infRung = 2139095040 := by decide
  have c4 : Ieee.single.leastPlace = -149 := by decide
  rw [c1, c2, c3, c4] at h
  dsimp only at h
  split at h
  · cases h; omega
  · split at h
    · cases h
      omega
    · split at h <;> cases h
theorem up_read {x : Nat} {s : Bool} {m : Nat} {e : Int} (h : Ieee.single.read x = .number s m e) : ∃ m' p', Ieee.double.read (up x) = .number s m' p' ∧ -1074 ≤ p' ∧ m' * 2 ^ (p' - -1074).toNat = m * 2 ^ (e - -1074).toNat := by
  have hu := fconv_eq x
  have hd : FloatKind.f32.decode x = .number s m e := h
  unfold fconv at hu
  rw [if_neg (by decide), hd, if_neg (show ¬ ((Ieee.Datum.number s m e).isNaN = true) from fun h => by cases h)] at hu
  unfold floatToFloatBits at hu
  rw [if_neg (by decide), hd] at hu
  simp only at hu
  split at hu
  · cases hu
  · rw [← Option.some.inj hu]
    obtain ⟨h1, h2⟩ := read_lt h
    have h3 := read_ge h
    have hl : m = 0 ∨ e + (m.log2 : Int) < 200 := by
      by_cases hm : m = 0
      · exact .inl hm
      · right
        have := (Nat.log2_lt hm).2 (show m < 2 ^ 24 from h1)
        omega
    exact near_ex fm64 s (p := e) (Q := -1074) (B := 200) (by omega) (by decide) hl (by decide) (V := m) (k := (e - -1074).toNat) (Nat.lt_trans h1 (by decide)) (by omega) rfl
theorem up_bel {x : Nat} {v : Int} {A : Nat} (h : I32 x v) (hv : v.natAbs < 2 ^ (A + 149)) : BelD (A : Int) (up x) := by
  obtain ⟨s, m, e, h1, h2, rfl⟩ := h
  rw [sgAbs] at hv
  obtain ⟨m', p', h3, h4, h5⟩ := up_read h1
  refine is_beld ⟨s, m', p', h3, h4, rfl⟩ (by omega) ?_
  obtain ⟨E, hE⟩ : ∃ E : Nat, E = 925 := ⟨_, rfl⟩
  rw [sgAbs, h5, show (e - -1074).toNat = (e - -149).toNat + E by omega, Nat.pow_add, ← Nat.mul_assoc, show ((A : Int) + 1074).toNat = A + 149 + E by omega, Nat.pow_add 2 (A + 149)]
  exact Nat.mul_lt_mul_of_pos_right hv (Nat.pow_pos (by decide))
theorem expOk_mid {x : Nat} {v : Int} (h : I32 x v) (hv : v.natAbs < 2 ^ (2 + 149)) : expOk x = true := by
  obtain ⟨r, hr⟩ := exp_mid (up_bel (A := 2) h hv)
  unfold expOk
  rw [hr]
  rfl
theorem root_bel {x V : Nat} (h : I32 x ((V : Nat) : Int)) (hV : V < 2 ^ (1 + 149)) : ∃ c, I64 (fsqrt (up x)) c ∧ c.natAbs ≤ (2 ^ 54 + 1) * u9 := by
  obtain ⟨s, m, e, h1, h2, h3⟩ := h
  have hb := up_bel (A := 1) ⟨s, m, e, h1, h2, h3⟩ (by simpa using hV)
  obtain ⟨m', p', h4, h5, h6⟩ := up_read h1
  obtain ⟨s2, m2, e2, h7, h8⟩ := hb
  rw [h4] at h7
  cases h7
  unfold fsqrt
  show ∃ c, I64 ((Ieee.double.sqrt (up x)).getD _) c ∧ _
  unfold Ieee.Format.sqrt
  rw [h4]
  unfold Ieee.Datum.root
  dsimp only
  by_cases h0 : m' = 0
  · subst h0
    rw [if_pos rfl]
    have hz : Ieee.double.write (.number s 0 p') = Ieee.double.word s 0 := by
      show Ieee.double.nearest s 0 p' = _
      unfold Ieee.Format.nearest
      rw [if_pos rfl]
    refine ⟨0, ?_, by simp⟩
    show I64 (Ieee.double.write (.number s 0 p')) 0
    rw [hz]
    refine ⟨s, 0, -1074, ?_, by decide, ?_⟩
    · cases s <;> decide +kernel
    · rw [signed_eq, Nat.zero_mul]
      cases s <;> rfl
  · rw [if_neg h0]
    have hs : s = false := by
      cases s with
      | false => rfl
      | true =>
        exfalso
        rw [signed_eq, if_pos rfl] at h3
        have hm : m * 2 ^ (e - -149).toNat = 0 := by omega
        have hm0 : m = 0 := by
          rcases Nat.mul_eq_zero.1 hm with h | h
          · exact h
          · have := Nat.pow_pos (n := (e - -149).toNat) (show 0 < 2 by decide); omega
        subst hm0
        rw [Nat.zero_mul] at h6
        rcases Nat.mul_eq_zero.1 h6 with h | h
        · exact h0 h
        · have := Nat.pow_pos (n := (p' - -1074).toNat) (show 0 < 2 by decide); omega
    subst hs
    rw [if_neg (by decide)]
    have h8 := h8.resolve_left h0
    have hfr : Ieee.double.fractionBits + 2 = 54 := by decide
    rw [hfr]
    generalize hmore : (2 * 54 - m'.log2 + ((p' - ((2 * 54 - m'.log2 : Nat) : Int)) % 2).toNat : Nat) = more
    have heven : (p' - (more : Int)) % 2 = 0 := by omega
    generalize hw : Ieee.Datum.rootFrom (m' <<< more) ((m' <<< more).log2 / 2 + 1) 0 = w
    have hsq : w * w ≤ m' <<< more := by rw [← hw]; exact rootFrom_sq _ _ _ (by simp)
    generalize hodd : (w * w != m' <<< more).toNat = b
    have hb1 : b ≤ 1 := by rw [← hodd]; cases (w * w != m' <<< more) <;> decide
    have hval : (2 * w + b) = 0 ∨ ((p' - (more : Int)) / 2 - 1) + ((2 * w + b).log2 : Int) < 1 := by
      by_cases hw0 : w = 0
      · subst hw0
        by_cases hb0 : b = 0
        · left; omega
        · right
          have : b = 1 := by omega
          subst this
          have : (2 * 0 + 1).log2 = 0 := by decide
          omega
      · right
        rw [log_odd hw0 hb1]
        have h1 := log_sq hw0 hsq
        rw [log_shl h0] at h1
        omega
    have hpl : -1200 ≤ (p' - (more : Int)) / 2 - 1 := by omega
    obtain ⟨c, h9, h10⟩ := near_is fm64 false (m := 2 * w + b) (p := (p' - (more : Int)) / 2 - 1) (Q := -1200) (B := 1) hpl (by decide) hval (by decide)
    refine ⟨c, h9, ?_⟩
    obtain ⟨E1, hE1⟩ : ∃ E : Nat, E = 1201 := ⟨_, rfl⟩
    have hlt : (2 * w + b) * 2 ^ ((p' - (more : Int)) / 2 - 1 - -1200).toNat < 2 ^ E1 := by
      rcases hval with h | h
      · rw [h, Nat.zero_mul]; exact Nat.pow_pos (by decide)
      · have h11 : 2 * w + b < 2 ^ ((2 * w + b).log2 + 1) := Nat.lt_log2_self
        have h12 := Nat.mul_lt_mul_of_pos_right h11 (Nat.pow_pos (n := ((p' - (more : Int)) / 2 - 1 - -1200).toNat) (show 0 < 2 by decide))
        rw [← Nat.pow_add] at h12
        exact Nat.lt_of_lt_of_le h12 (Nat.pow_le_pow_right (by decide) (by omega))
    have e1 : 2 ^ ((-1074 : Int) - -1200).toNat = 2 ^ 126 := rfl
    have e2 : 2 ^ (max ((1 : Int) - 1 - ((52 : Nat) : Int)) (-1074) - -1200).toNat = 2 ^ 127 * u9 := pw9 127 _ (by decide)
    rw [e1, e2, signed_eq, if_neg (by decide)] at h10
    have e3 : 2 ^ E1 = 2 ^ 180 * u9 := pw9 180 _ (by omega)
    rw [e3] at hlt
    have h13 : c.natAbs * 2 ^ 126 ≤ (2 ^ 54 + 1) * u9 * 2 ^ 126 := by
      rw [show c.natAbs * 2 ^ 126 = (c * ((2 ^ 126 : Nat) : Int)).natAbs by rw [Int.natAbs_mul, Int.natAbs_natCast]]
      generalize (2 * w + b) * 2 ^ ((p' - (more : Int)) / 2 - 1 - -1200).toNat = q at hlt h10
      generalize c * ((2 ^ 126 : Nat) : Int) = y at h10 ⊢
      generalize u9 = u at hlt h10 ⊢
      omega
    exact Nat.le_of_mul_le_mul_right h13 (Nat.pow_pos (by decide))
theorem root32 {x V : Nat} (h : I32 x ((V : Nat) : Int)) (hV : V < 2 ^ (1 + 149)) : ∃ c, I32 (rootF x) c ∧ c.natAbs ≤ 2 ^ 150 + 2 ^ 127 := by
  obtain ⟨v, ⟨s, m, e, h1, h2, h3⟩, h4⟩ := root_bel h hV
  have hr := rootF_eq x
  have hd : FloatKind.f64.decode (fsqrt (up x)) = .number s m e := h1
  unfold fconv at hr
  rw [if_neg (by decide), hd, if_neg (show ¬ ((Ieee.Datum.number s m e).isNaN = true) from fun h => by cases h)] at hr
  unfold floatToFloatBits at hr
  rw [if_neg (by decide), hd] at hr
  simp only at hr
  split at hr
  · cases hr
  · rw [← Option.some.inj hr]
    have hlog : m = 0 ∨ e + (m.log2 : Int) < 2 := by
      refine log_of (Q := -1074) h2 (by decide) ?_
      have e0 : 2 ^ ((2 : Int) - -1074).toNat = 2 ^ 55 * u9 := pw9 55 _ (by decide)
      rw [e0, ← sgAbs s, ← h3]
      refine Nat.lt_of_le_of_lt h4 (Nat.mul_lt_mul_of_pos_right (by decide) u9_pos)
    obtain ⟨c, h5, h6⟩ := near_is fm32 s (m := m) (p := e) (Q := -1074) (B := 2) h2 (by decide) hlog (by decide)
    refine ⟨c, h5, ?_⟩
    rw [← h3] at h6
    obtain ⟨E, hE⟩ : ∃ E : Nat, E = 925 := ⟨_, rfl⟩
    have e1 : 2 ^ ((-149 : Int) - -1074).toNat = 2 ^ E := pow_cong (by omega)
    have e2 : 2 ^ (max ((2 : Int) - 1 - ((23 : Nat) : Int)) (-149) - -1074).toNat = 2 ^ 127 * 2 ^ E := by rw [← Nat.pow_add]; exact pow_cong (by omega)
    have e3 : u9 = 2 ^ 96 * 2 ^ E := by rw [u9_eq, ← Nat.pow_add]; exact pow_cong (by unfold e9; omega)
    rw [e1, e2] at h6
    rw [e3] at h4
    have h7 : c.natAbs * 2 ^ E ≤ (2 ^ 150 + 2 ^ 127) * 2 ^ E := by
      rw [show c.natAbs * 2 ^ E = (c * ((2 ^ E : Nat) : Int)).natAbs by rw [Int.natAbs_mul, Int.natAbs_natCast]]
      generalize 2 ^ E = u at h4 h6 ⊢
      generalize c * ((u : Nat) : Int) = y at h6 ⊢
      omega
    exact Nat.le_of_mul_le_mul_right h7 (Nat.pow_pos (by decide))
theorem w_tab : ((List.range 6).all fun a => v32 (wL a) == some (((1 + a) * 2 ^ 147 : Nat) : Int)) = true := by kernel_rfl
theorem hh_tab : ((List.range 13).all fun p => v32 (hL p) == some (((p : Int) - 4) * 2 ^ 147)) = true := by kernel_rfl
theorem xy_ok {k a : Nat} {vk : Int} (h : I32 k vk) (hk : vk.natAbs ≤ 2 ^ 150 + 2 ^ 127) (ha : a < 6) : expOk (xI k (wL a)) = true ∧ expOk (yI k (wL a)) = true := by
  have hw := v32_is (eq_of_beq (all_lt w_tab ha))
  have hp : (vk * (((1 + a) * 2 ^ 147 : Nat) : Int)).natAbs ≤ 193 * (524288 * wU) := by
    rw [← gw0, Int.natAbs_mul, Int.natAbs_natCast]
    refine Nat.le_trans (Nat.mul_le_mul hk (show (1 + a) * 2 ^ 147 ≤ 6 * 2 ^ 147 from Nat.mul_le_mul_right _ (by omega))) ?_
    show (2 ^ 150 + 2 ^ 127) * (6 * 2 ^ 147) ≤ 193 * (2 ^ 146 * 2 ^ 146)
    decide
  obtain ⟨c, h1, h2⟩ := fmul32 (B := 2) h hw hp (by decide) (by decide)
  have hc : c.natAbs < 25 * gU := by
    refine unscale ?_
    have hw0 := w0_pos
    generalize vk * (((1 + a) * 2 ^ 147 : Nat) : Int) = q at hp h2
    generalize c * ((8 * gU : Nat) : Int) = y at h2 ⊢
    generalize wU = u at *
    omega
  have h32 : 2 ^ (2 + 149) = 32 * gU := by show 2 ^ 151 = 32 * 2 ^ 146; decide
  refine ⟨expOk_mid h1 (by rw [h32]; omega), ?_⟩
  have h0 : I32 0 0 := ⟨false, 0, -149, by decide, by decide, by decide⟩
  obtain ⟨d, h3, h4⟩ := fsub32 (B := 2) h0 h1 (by
    rw [Int.zero_sub, Int.natAbs_neg]
    refine Nat.lt_of_lt_of_le hc (Nat.mul_le_mul_right _ (by decide))) (by decide)
  have hd : d.natAbs < 26 * gU := by
    refine unscale ?_
    have hc2 : (c * ((8 * gU : Nat) : Int)).natAbs ≤ 25 * 8 * (gU * gU) := by
      rw [Int.natAbs_mul, Int.natAbs_natCast, Nat.mul_mul_mul_comm]
      exact Nat.mul_le_mul_right _ (Nat.le_of_lt hc)
    rw [Int.zero_sub, Int.neg_mul] at h4
    rw [gw0] at hc2
    have hw0 := w0_pos
    generalize c * ((8 * gU : Nat) : Int) = q at hc2 h4
    generalize d * ((8 * gU : Nat) : Int) = y at h4 ⊢
    generalize wU = u at *
    omega
  exact expOk_mid h3 (by rw [h32]; omega)
theorem pc_any {t e p a : Nat} (ht : t ≤ 12) (he : EQs t e) (hp : p < 13) (ha : a < 6) : pcOk e (hL p) (wL a) = true := by
  unfold pcOk
  cases pcB e (hL p) with
  | true => rfl
  | false =>
    rw [Bool.false_or, Bool.and_eq_true]
    obtain ⟨k, h1, h2, h3⟩ := he ht
    have hh := v32_is (eq_of_beq (all_lt hh_tab hp))
    unfold wvV
    cases hg : gtB e (hL p) with
    | true =>
      have h0 : I32 0 0 := ⟨false, 0, -149, by decide, by decide, by decide⟩
      exact xy_ok h0 (by decide) ha
    | false =>
      have hle : ((k * 2 ^ (145 - t) : Nat) : Int) ≤ ((p : Int) - 4) * 2 ^ 147 := by
        unfold gtB at hg
        have hg : (Ieee.single.order e (hL p) == some .gt) = false := hg
        rw [order_is h1 hh] at hg
        refine Int.not_lt.1 fun hlt => ?_
        rw [Int.compare_eq_gt.2 hlt] at hg
        cases hg
      have ek : k * 2 ^ (145 - t) = k * 2 ^ (12 - t) * 2 ^ 133 := by rw [Nat.mul_assoc, ← Nat.pow_add, show 12 - t + 133 = 145 - t by omega]
      have hk12 : 2 ^ 12 ≤ k * 2 ^ (12 - t) := by
        have := Nat.mul_le_mul_right (2 ^ (12 - t)) h2
        rwa [← Nat.pow_add, show t + (12 - t) = 12 by omega] at this
      rw [ek] at h1 hle
      generalize k * 2 ^ (12 - t) = K at h1 hle hk12
      have hp4 : 4 ≤ p := by
        refine Nat.le_of_not_lt fun h => ?_
        have : ((p : Int) - 4) * 2 ^ 147 ≤ 0 := by
          have h5 : (p : Int) - 4 ≤ 0 := by omega
          exact Int.mul_nonpos_of_nonpos_of_nonneg h5 (by decide)
        omega
      have e147 : ((p : Int) - 4) * 2 ^ 147 = (((p - 4) * 2 ^ 14 * 2 ^ 133 : Nat) : Int) := by
        rw [Nat.mul_assoc, ← Nat.pow_add, Int.natCast_mul, Int.ofNat_sub hp4]
        rfl
      rw [e147] at hle hh
      have hKle : K ≤ (p - 4) * 2 ^ 14 := Nat.le_of_mul_le_mul_right (Int.ofNat_le.1 hle) (Nat.pow_pos (by decide))
      have hJ : (p - 4) * 2 ^ 14 ≤ 2 ^ 17 := by omega
      obtain ⟨J, hJJ⟩ : ∃ J, J = (p - 4) * 2 ^ 14 := ⟨_, rfl⟩
      rw [← hJJ] at hh hKle hJ
      have hsub : ((J * 2 ^ 133 : Nat) : Int) - ((K * 2 ^ 133 : Nat) : Int) = (((J - K) * 2 ^ 133 : Nat) : Int) := by
        rw [Nat.sub_mul, Int.ofNat_sub (Nat.mul_le_mul_right _ hKle)]
      have hV : J - K < 2 ^ 17 := by omega
      obtain ⟨r, h5, h6⟩ := sub_ex fm32 (B := 20) hh h1 (by decide) hsub (Nat.lt_trans hV (by decide)) (Nat.lt_of_lt_of_le (Nat.mul_lt_mul_of_pos_right hV (Nat.pow_pos (by decide))) (by decide)) (by decide)
      have e1 : fop .sub .f32 (hL p) e = r := by
        show (Ieee.single.sub (hL p) e).getD (qnan .f32) = r
        rw [h5]
        rfl
      obtain ⟨c, h7, h8⟩ := root32 h6 (Nat.lt_of_lt_of_le (Nat.mul_lt_mul_of_pos_right hV (Nat.pow_pos (by decide))) (by decide))
      show expOk (xI (rootF (fop .sub .f32 (hL p) e)) (wL a)) = true ∧ _
      rw [e1]
      exact xy_ok h7 h8 ha
end Go.Proofs.Ytdbmbelllghdcaa.Ab
