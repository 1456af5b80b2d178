/- What the proof names: lemmas and words, merged by a program from its parts. No condition. -/
import Derived.Test.YtdbmbelllghdcaaZ4
import Derived.Test.YtdbmbelllghdcaaZ5
namespace Go.Proofs.Ytdbmbelllghdcaa.Ab
set_option linter.unusedVariables false
set_option linter.unusedSimpArgs false
open Go
theorem lp_baB {R : Type} (M : Nat) (K : X → St → Option R) (rw0 : Bool) (l0 : List Int) {x0 x1 : List Nat} {e hi : Nat} (hB : BF x0 x1 e hi) (o : List Nat) (ho : o.length < 1000) : ∀ t i was (out : List Nat), i + t = 9 → 1 ≤ i → beL x0 x1 1031798784 hi t i was (eG 1031798784 hi (i - 1)) out = some o →
    lp_baB21 40 (M + t + 1) (st_baB21 hi o.length was true ((out.length : Nat) : Int) ((i : Nat) : Int) rw0 l0 x0.length x1.length o x0 x1) K = K (.exit 0) (en_baB21_1 o.length true ((o.length : Nat) : Int) rw0 l0 o)
  | 0, i, was, out, hi9, h1, hb => by
    have : i = 9 := by omega
    subst this
    cases hb
    rw [step_baB21]
    rfl
  | t + 1, i, was, out, hi9, h1, hb => by
    obtain ⟨Q, hQ⟩ := hB.eq
    have hs := sh_of (hQ.cell 0 _ (by omega) (hQ.grid i (by omega)))
    have hw : IntKind.i64.wrap (((i : Nat) : Int) + 1) = ((i + 1 : Nat) : Int) := wr (by omega)
    rw [show M + (t + 1) + 1 = (M + t + 1) + 1 by omega, step_baB21, hw, gA_eq, show decide (((i : Nat) : Int) < 9) = true from lt_lit (k := 9) (by omega), hs]
    unfold beL at hb
    split at hb
    · cases hb
    rename_i hO
    rw [hO]
    try dsimp only [Bool.not_true]
    split at hb
    · rename_i hz
      have := of_decide_eq_false hz
      omega
    split at hb
    · rename_i hw2
      rw [hw2]
      have := lp_baB M K rw0 l0 hB o ho t (i + 1) (isB x0 x1 (eG 1031798784 hi i)) out (by omega) (by omega) hb
      exact this
    · rename_i hw2
      rw [hw2]
      try dsimp only [Bool.not_false]
      split at hb
      · cases hb
      · rename_i x hx
        obtain ⟨rr, hrr⟩ := beL_pre _ _ _ _ _ _ _ _ _ _ hb
        have hlen : out.length < o.length := by rw [hrr]; simp
        have hget : o[out.length]? = some x := by rw [hrr]; simp
        obtain ⟨e1, e2⟩ := hB.edge was i x h1 (by omega) hx
        have hw3 : IntKind.i64.wrap (((out.length : Nat) : Int) + 1) = ((out.length + 1 : Nat) : Int) := wr (by omega)
        rw [decide_eq_false (show ¬ ((out.length : Nat) : Int) ≥ ((o.length : Nat) : Int) by omega), din hlen, ix, hget]
        try dsimp only
        rw [e1, e2, hw3]
        have := lp_baB M K rw0 l0 hB o ho t (i + 1) (isB x0 x1 (eG 1031798784 hi i)) (out ++ [x]) (by omega) (by omega) hb
        rw [List.length_append, List.length_singleton] at this
        exact this
theorem fin_baB (n : Nat) (r : Bool) (l : List Int) (hB : BF (esV (dW []) l) (hsV (dW []) l) (dN []) (dU [])) : (match beOk (esV (dW []) l) (hsV (dW []) l) 1031798784 (dU []) with | true => (match shO ((esV (dW []) l)).length ((hsV (dW []) l)).length (esV (dW []) l) (hsV (dW []) l) 1031798784 with | true => lp_baB21 40 40 (st_baB21 (dU []) ((beV (esV (dW []) l) (hsV (dW []) l) 1031798784 (dU [])).length) (isB (esV (dW []) l) (hsV (dW []) l) 1031798784) (isO (esV (dW []) l) (hsV (dW []) l) 1031798784) 0 1 r l ((esV (dW []) l).length) ((hsV (dW []) l).length) (beV (esV (dW []) l) (hsV (dW []) l) 1031798784 (dU [])) (esV (dW []) l) (hsV (dW []) l)) (kt_baB21 40 (kEnd Try.f3 1)) | false => none) | false => some (.bool true, [.at r (.int .u8 l)])) = some (.bool true, [.at r (.int .u8 l)]) := by
  cases hb : beOk (esV (dW []) l) (hsV (dW []) l) 1031798784 (dU []) with
  | false => rfl
  | true =>
    try dsimp only
    rw [sh_of hB.low]
    try dsimp only
    unfold beOk at hb
    simp only [Bool.and_eq_true] at hb
    have hb := hb.2.2.2
    have hlen := beV_len (esV (dW []) l) (hsV (dW []) l) 1031798784 (dU [])
    have hA : ∃ o, beA (esV (dW []) l) (hsV (dW []) l) 1031798784 (dU []) = some o ∧ beV (esV (dW []) l) (hsV (dW []) l) 1031798784 (dU []) = o := by
      unfold beV
      cases hc : beA (esV (dW []) l) (hsV (dW []) l) 1031798784 (dU []) with
      | none => rw [hc] at hb; cases hb
      | some o => exact ⟨o, rfl, rfl⟩
    obtain ⟨o, ho, hv⟩ := hA
    rw [hv] at hlen ⊢
    unfold beA beL at ho
    split at ho
    · cases ho
    rename_i hO
    rw [hB.zero] at hO ho
    split at ho
    · have hl := lp_baB 31 (kt_baB21 40 (kEnd Try.f3 1)) r l hB o (by omega) 8 1 _ [] rfl (by decide) (by rw [show 1 - 1 = 0 from rfl, hB.zero]; exact ho)
      rw [hO]
      refine Eq.trans hl ?_
      rw [end_baB21_1]
      show some (V.bool (((o.length : Nat) : Int) == ((o.length : Nat) : Int)), _) = _
      rw [beq_self_eq_true]
    · rename_i hz
      exact absurd (of_decide_eq_true hz) (by decide)
theorem H_baB (n : Nat) (r : Bool) (l : List Int) (hn : l.length = n ∧ n < 2147483648) (hW : (dW []) = 2 ∨ (dW []) = 3) (hB : BF (esV (dW []) l) (hsV (dW []) l) (dN []) (dU [])) : run ty tab_baB an_baB 40 Try.f3 [.sl 0 0 n, .nil] [.at r (.int .u8 l)] = some (.bool true, [.at r (.int .u8 l)]) := by
  refine Eq.trans (run_baB 40 n r l) ?_
  cases longB n 0
  case true => rfl
  have a40 : atOk 0 ([] : List Int) 40 = true := decide_eq_true ⟨rfl, by decide, by decide, by decide⟩
  have a41 : atOk 0 ([] : List Int) 41 = true := decide_eq_true ⟨rfl, by decide, by decide, by decide⟩
  have a42 : atOk 0 ([] : List Int) 42 = true := decide_eq_true ⟨rfl, by decide, by decide, by decide⟩
  have cc : (decide (l.length = n ∧ n < 2147483648) && decide ((dW []) = 2 ∨ (dW []) = 3)) = true := by rw [decide_eq_true hn, decide_eq_true hW]; rfl
  have hsh := sh_of hB.cell
  have hq : (decide (((esV (dW []) l)).length = ((esV (dW []) l)).length ∧ ((esV (dW []) l)).length < 2147483648 ∧ ((hsV (dW []) l)).length = ((hsV (dW []) l)).length ∧ ((hsV (dW []) l)).length < 2147483648) && pdec (∃ Q, EQ (esV (dW []) l) (hsV (dW []) l) 1031798784 (dU []) Q)) = true := by
    rw [pdec_iff.2 hB.eq, decide_eq_true ⟨rfl, hB.short.1, rfl, hB.short.2⟩]
    rfl
  have hf := fin_baB n r l hB
  rw [a40, cc, a41]
  generalize (esV (dW []) l) = y0 at hB hsh hq hf ⊢
  generalize (hsV (dW []) l) = y1 at hB hsh hq hf ⊢
  generalize (dN []) = ye at hB hsh hf ⊢
  generalize (dU []) = yu at hB hq hf ⊢
  rw [hsh, hB.is, hB.ar, a42, hq]
  cases hI : isB y0 y1 ye with
  | true =>
    rw [hB.up hI]
    try rw [Bool.not_true]
    exact hf
  | false =>
    rw [hB.dn hI]
    try rw [Bool.not_true]
    try rw [Bool.not_false]
    exact hf
end Go.Proofs.Ytdbmbelllghdcaa.Ab
