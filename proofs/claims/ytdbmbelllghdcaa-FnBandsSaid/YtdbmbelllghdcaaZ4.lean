/- What the proof names: lemmas and words, merged by a program from its parts. No condition. -/
import Derived.Test.YtdbmbelllghdcaaZ3
namespace Go.Proofs.Ytdbmbelllghdcaa.Ab
set_option linter.unusedVariables false
set_option linter.unusedSimpArgs false
open Go
theorem gA_eq (hi i : Nat) : gA hi ((i : Nat) : Int) = eG 1031798784 hi i := by
  unfold gA eG v_eat
  rw [show floatOfInt .f32 (IntKind.i64.wrap (9 - 1)) = 1090519040 by decide +kernel]
structure BF (x0 x1 : List Nat) (e hi : Nat) : Prop where
  cell : cellO x0 x1 e = true
  is : isO x0 x1 e = true
  ar : arB (cellV x0 x1 e) = false
  up : isB x0 x1 e = true → gtD (haF (cellV x0 x1 e)) 4607182463836013682 = false
  dn : isB x0 x1 e = false → ltD (haF (cellV x0 x1 e)) 4607182328728024861 = false
  eq : ∃ Q, EQ x0 x1 1031798784 hi Q
  zero : eG 1031798784 hi 0 = 1031798784
  edge : ∀ was i x, 1 ≤ i → i < 9 → bisV x0 x1 was 12 (eG 1031798784 hi (i - 1)) (eG 1031798784 hi i) = some x → ltB x (gC hi ((i : Nat) : Int)) = false ∧ gtB x (gD hi ((i : Nat) : Int)) = false
  short : x0.length < 2147483648 ∧ x1.length < 2147483648
theorem BF.low {x0 x1 : List Nat} {e hi : Nat} (h : BF x0 x1 e hi) : cellO x0 x1 1031798784 = true := by
  obtain ⟨Q, hQ⟩ := h.eq
  have := hQ.cell 0 _ (by omega) (hQ.grid 0 (by omega))
  rwa [h.zero] at this
theorem sh_of {x0 x1 : List Nat} {e : Nat} (h : cellO x0 x1 e = true) : shO x0.length x1.length x0 x1 e = true := by unfold shO; rw [h, decide_eq_true (show x0.length = x0.length ∧ x1.length = x1.length from ⟨rfl, rfl⟩)]; rfl
theorem beL_pre (l0 l1 : List Nat) (a b : Nat) : ∀ t i was last out o, beL l0 l1 a b t i was last out = some o → ∃ r, o = out ++ r
  | 0, i, was, last, out, o, h => by cases h; exact ⟨[], by simp⟩
  | t + 1, i, was, last, out, o, h => by
    unfold beL at h
    split at h
    · cases h
    · split at h
      · exact beL_pre l0 l1 a b t _ _ _ _ _ h
      · split at h
        · exact beL_pre l0 l1 a b t _ _ _ _ _ h
        · split at h
          · cases h
          · obtain ⟨r, hr⟩ := beL_pre l0 l1 a b t _ _ _ _ _ h
            exact ⟨[_] ++ r, by rw [hr, List.append_assoc]⟩
end Go.Proofs.Ytdbmbelllghdcaa.Ab

namespace Go.Proofs.Ytdbmbelllghdcaa.Ab
set_option linter.unusedVariables false
set_option linter.unusedSimpArgs false
open Go
theorem lp_baA {R : Type} (M : Nat) (K : X → St → Option R) (rw0 : Bool) (l0 : List Int) (rw1 : Bool) (l1 : List Int) {x0 x1 : List Nat} {e hi : Nat} (hB : BF x0 x1 e hi) (o : List Nat) (ho : o.length < 1000) : ∀ t i was (out : List Nat), i + t = 9 → 1 ≤ i → beL x0 x1 1031798784 hi t i was (eG 1031798784 hi (i - 1)) out = some o →
    lp_baA21 40 (M + t + 1) (st_baA21 hi o.length was true ((out.length : Nat) : Int) ((i : Nat) : Int) rw0 l0 rw1 l1 x0.length x1.length o x0 x1) K = K (.exit 0) (en_baA21_1 o.length true ((o.length : Nat) : Int) rw0 l0 rw1 l1 o)
  | 0, i, was, out, hi9, h1, hb => by
    have : i = 9 := by omega
    subst this
    cases hb
    rw [step_baA21]
    rfl
  | t + 1, i, was, out, hi9, h1, hb => by
    obtain ⟨Q, hQ⟩ := hB.eq
    have hs := sh_of (hQ.cell 0 _ (by omega) (hQ.grid i (by omega)))
    have hw : IntKind.i64.wrap (((i : Nat) : Int) + 1) = ((i + 1 : Nat) : Int) := wr (by omega)
    rw [show M + (t + 1) + 1 = (M + t + 1) + 1 by omega, step_baA21, hw, gA_eq, show decide (((i : Nat) : Int) < 9) = true from lt_lit (k := 9) (by omega), hs]
    unfold beL at hb
    split at hb
    · cases hb
    rename_i hO
    rw [hO]
    try dsimp only [Bool.not_true]
    split at hb
    · rename_i hz
      have := of_decide_eq_false hz
      omega
    split at hb
    · rename_i hw2
      rw [hw2]
      have := lp_baA M K rw0 l0 rw1 l1 hB o ho t (i + 1) (isB x0 x1 (eG 1031798784 hi i)) out (by omega) (by omega) hb
      exact this
    · rename_i hw2
      rw [hw2]
      try dsimp only [Bool.not_false]
      split at hb
      · cases hb
      · rename_i x hx
        obtain ⟨rr, hrr⟩ := beL_pre _ _ _ _ _ _ _ _ _ _ hb
        have hlen : out.length < o.length := by rw [hrr]; simp
        have hget : o[out.length]? = some x := by rw [hrr]; simp
        obtain ⟨e1, e2⟩ := hB.edge was i x h1 (by omega) hx
        have hw3 : IntKind.i64.wrap (((out.length : Nat) : Int) + 1) = ((out.length + 1 : Nat) : Int) := wr (by omega)
        rw [decide_eq_false (show ¬ ((out.length : Nat) : Int) ≥ ((o.length : Nat) : Int) by omega), din hlen, ix, hget]
        try dsimp only
        rw [e1, e2, hw3]
        have := lp_baA M K rw0 l0 rw1 l1 hB o ho t (i + 1) (isB x0 x1 (eG 1031798784 hi i)) (out ++ [x]) (by omega) (by omega) hb
        rw [List.length_append, List.length_singleton] at this
        exact this
theorem fin_baA (n : Nat) (m : Nat) (r : Bool) (l : List Int) (q : Bool) (l' : List Int) (hB : BF (esV (dW l') l) (hsV (dW l') l) (dN l') (dU l')) : (match beOk (esV (dW l') l) (hsV (dW l') l) 1031798784 (dU l') with | true => (match shO ((esV (dW l') l)).length ((hsV (dW l') l)).length (esV (dW l') l) (hsV (dW l') l) 1031798784 with | true => lp_baA21 40 40 (st_baA21 (dU l') ((beV (esV (dW l') l) (hsV (dW l') l) 1031798784 (dU l')).length) (isB (esV (dW l') l) (hsV (dW l') l) 1031798784) (isO (esV (dW l') l) (hsV (dW l') l) 1031798784) 0 1 r l q l' ((esV (dW l') l).length) ((hsV (dW l') l).length) (beV (esV (dW l') l) (hsV (dW l') l) 1031798784 (dU l')) (esV (dW l') l) (hsV (dW l') l)) (kt_baA21 40 (kEnd Try.f3 2)) | false => none) | false => some (.bool true, [.at r (.int .u8 l), .at q (.int .u8 l')])) = some (.bool true, [.at r (.int .u8 l), .at q (.int .u8 l')]) := by
  cases hb : beOk (esV (dW l') l) (hsV (dW l') l) 1031798784 (dU l') with
  | false => rfl
  | true =>
    try dsimp only
    rw [sh_of hB.low]
    try dsimp only
    unfold beOk at hb
    simp only [Bool.and_eq_true] at hb
    have hb := hb.2.2.2
    have hlen := beV_len (esV (dW l') l) (hsV (dW l') l) 1031798784 (dU l')
    have hA : ∃ o, beA (esV (dW l') l) (hsV (dW l') l) 1031798784 (dU l') = some o ∧ beV (esV (dW l') l) (hsV (dW l') l) 1031798784 (dU l') = o := by
      unfold beV
      cases hc : beA (esV (dW l') l) (hsV (dW l') l) 1031798784 (dU l') with
      | none => rw [hc] at hb; cases hb
      | some o => exact ⟨o, rfl, rfl⟩
    obtain ⟨o, ho, hv⟩ := hA
    rw [hv] at hlen ⊢
    unfold beA beL at ho
    split at ho
    · cases ho
    rename_i hO
    rw [hB.zero] at hO ho
    split at ho
    · have hl := lp_baA 31 (kt_baA21 40 (kEnd Try.f3 2)) r l q l' hB o (by omega) 8 1 _ [] rfl (by decide) (by rw [show 1 - 1 = 0 from rfl, hB.zero]; exact ho)
      rw [hO]
      refine Eq.trans hl ?_
      rw [end_baA21_1]
      show some (V.bool (((o.length : Nat) : Int) == ((o.length : Nat) : Int)), _) = _
      rw [beq_self_eq_true]
    · rename_i hz
      exact absurd (of_decide_eq_true hz) (by decide)
theorem H_baA (n : Nat) (m : Nat) (r : Bool) (l : List Int) (q : Bool) (l' : List Int) (hn : l.length = n ∧ n < 2147483648) (hm : l'.length = m ∧ m < 2147483648) (hW : (dW l') = 2 ∨ (dW l') = 3) (hB : BF (esV (dW l') l) (hsV (dW l') l) (dN l') (dU l')) : run ty tab_baA an_baA 40 Try.f3 [.sl 0 0 n, .sl 1 0 m] [.at r (.int .u8 l), .at q (.int .u8 l')] = some (.bool true, [.at r (.int .u8 l), .at q (.int .u8 l')]) := by
  refine Eq.trans (run_baA 40 n m r l q l') ?_
  cases longB n m
  case true => rfl
  have a40 : atOk m l' 40 = true := decide_eq_true ⟨hm.1, hm.2, by decide, by decide⟩
  have a41 : atOk m l' 41 = true := decide_eq_true ⟨hm.1, hm.2, by decide, by decide⟩
  have a42 : atOk m l' 42 = true := decide_eq_true ⟨hm.1, hm.2, by decide, by decide⟩
  have cc : (decide (l.length = n ∧ n < 2147483648) && decide ((dW l') = 2 ∨ (dW l') = 3)) = true := by rw [decide_eq_true hn, decide_eq_true hW]; rfl
  have hsh := sh_of hB.cell
  have hq : (decide (((esV (dW l') l)).length = ((esV (dW l') l)).length ∧ ((esV (dW l') l)).length < 2147483648 ∧ ((hsV (dW l') l)).length = ((hsV (dW l') l)).length ∧ ((hsV (dW l') l)).length < 2147483648) && pdec (∃ Q, EQ (esV (dW l') l) (hsV (dW l') l) 1031798784 (dU l') Q)) = true := by
    rw [pdec_iff.2 hB.eq, decide_eq_true ⟨rfl, hB.short.1, rfl, hB.short.2⟩]
    rfl
  have hf := fin_baA n m r l q l' hB
  rw [a40, cc, a41]
  generalize (esV (dW l') l) = y0 at hB hsh hq hf ⊢
  generalize (hsV (dW l') l) = y1 at hB hsh hq hf ⊢
  generalize (dN l') = ye at hB hsh hf ⊢
  generalize (dU l') = yu at hB hq hf ⊢
  rw [hsh, hB.is, hB.ar, a42, hq]
  cases hI : isB y0 y1 ye with
  | true =>
    rw [hB.up hI]
    try rw [Bool.not_true]
    exact hf
  | false =>
    rw [hB.dn hI]
    try rw [Bool.not_true]
    try rw [Bool.not_false]
    exact hf
end Go.Proofs.Ytdbmbelllghdcaa.Ab
