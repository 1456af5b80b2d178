/- Floats with one not-a-number: what the model's operations give, whatever the tape answers. Only lemmas. -/
import Derived.Test.YtlopdogjdfeikaaAbTyp
import Derived.Laws.ComplexArith
namespace Go.Proofs.Ytlopdogjdfeikaa.Ab
set_option linter.unusedVariables false
set_option linter.unusedSimpArgs false
open Go

def isN (k : FloatKind) (b : Nat) : Bool := (k.decode b).isNaN
def infR : FloatKind → Nat
  | .f32 => 2139095040
  | .f64 => 9218868437227405312
def sgn : FloatKind → Nat
  | .f32 => 2147483648
  | .f64 => 9223372036854775808
theorem infRung_eq (k : FloatKind) : k.format.infRung = infR k := by cases k <;> decide
theorem sign_eq (k : FloatKind) : k.format.signWeight = sgn k := by cases k <;> decide
theorem binade_le (k : FloatKind) : k.format.binade ≤ infR k := by cases k <;> decide
theorem infR_lt (k : FloatKind) : infR k < sgn k := by cases k <;> decide

theorem isN_eq (k : FloatKind) (b : Nat) : isN k b = decide (infR k < b % sgn k) := by
  unfold isN FloatKind.decode Ieee.Format.read
  rw [infRung_eq, sign_eq]
  have := binade_le k
  dsimp only
  split
  · simp [Ieee.Datum.isNaN]; omega
  · split
    · simp [Ieee.Datum.isNaN]; omega
    · split
      · rename_i h; simp [Ieee.Datum.isNaN, h]
      · simp [Ieee.Datum.isNaN]; omega

theorem isN_qnan (k : FloatKind) : isN k (qnan k) = true := by rw [isN_eq]; cases k <;> decide
theorem canon_of {k : FloatKind} {b : Nat} (h : isN k b = false) : canon k b = b := by unfold canon; unfold isN at h; rw [h]; rfl
theorem canon_nan {k : FloatKind} {b : Nat} (h : isN k b = true) : canon k b = qnan k := by unfold canon; unfold isN at h; rw [h]; rfl
theorem isN_canon (k : FloatKind) (b : Nat) : isN k (canon k b) = isN k b := by
  cases h : isN k b
  · rw [canon_of h, h]
  · rw [canon_nan h, isN_qnan]
theorem canon_canon (k : FloatKind) (b : Nat) : canon k (canon k b) = canon k b := by
  cases h : isN k b
  · rw [canon_of h, canon_of h]
  · rw [canon_nan h, canon_nan (isN_qnan k)]
theorem canon_qnan (k : FloatKind) : canon k (qnan k) = qnan k := canon_nan (isN_qnan k)

theorem word_mod (k : FloatKind) (neg : Bool) {r : Nat} (h : r < sgn k) : k.format.word neg r % sgn k = r := by
  unfold Ieee.Format.word
  rw [sign_eq]
  split
  · rw [Nat.add_mod_left]; exact Nat.mod_eq_of_lt h
  · exact Nat.mod_eq_of_lt h
theorem isN_word (k : FloatKind) (neg : Bool) {r : Nat} (h : r ≤ infR k) : isN k (k.format.word neg r) = false := by
  have := infR_lt k
  rw [isN_eq, word_mod k neg (by omega)]
  simp; omega
theorem isN_nearest (k : FloatKind) (neg : Bool) (mag : Nat) (place : Int) : isN k (k.format.nearest neg mag place) = false := by
  unfold Ieee.Format.nearest
  dsimp only
  split
  · exact isN_word k neg (Nat.zero_le _)
  · exact isN_word k neg (by rw [infRung_eq]; exact Nat.min_le_right _ _)
theorem isN_write (k : FloatKind) {d : Ieee.Datum} (h : d.isNaN = false) : isN k (k.format.write d) = false := by
  cases d with
  | number s m e => exact isN_nearest k s m e
  | infinity s => exact isN_word k s (by rw [infRung_eq]; exact Nat.le_refl _)
  | nan s f => cases h

theorem sum_some {x y d : Ieee.Datum} (h : x.sum y = some d) : x.isNaN = false ∧ y.isNaN = false ∧ d.isNaN = false := by
  cases x <;> cases y <;> simp [Ieee.Datum.sum] at h <;> first | (obtain ⟨_, rfl⟩ := h; simp [Ieee.Datum.isNaN]) | (subst h; simp [Ieee.Datum.isNaN])
theorem product_some {x y d : Ieee.Datum} (h : x.product y = some d) : x.isNaN = false ∧ y.isNaN = false ∧ d.isNaN = false := by
  unfold Ieee.Datum.product at h
  split at h <;> (try split at h) <;> first | (cases h; done) | (injection h with h; subst h; simp [Ieee.Datum.isNaN])
theorem quotient_some {n : Nat} {x y d : Ieee.Datum} (h : x.quotient n y = some d) : x.isNaN = false ∧ y.isNaN = false ∧ d.isNaN = false := by
  unfold Ieee.Datum.quotient at h
  dsimp only at h
  split at h <;> (try split at h) <;> (try split at h) <;> first | (cases h; done) | (injection h with h; subst h; simp [Ieee.Datum.isNaN])
theorem root_some {n : Nat} {x d : Ieee.Datum} (h : x.root n = some d) : x.isNaN = false ∧ d.isNaN = false := by
  cases x with
  | nan s f => simp [Ieee.Datum.root] at h
  | infinity s => simp [Ieee.Datum.root] at h; obtain ⟨_, rfl⟩ := h; simp [Ieee.Datum.isNaN]
  | number s m i =>
    simp only [Ieee.Datum.root] at h
    split at h
    · cases h; simp [Ieee.Datum.isNaN]
    · split at h
      · cases h
      · cases h; simp [Ieee.Datum.isNaN]
theorem opp_nan (d : Ieee.Datum) : d.opposite.isNaN = d.isNaN := by cases d <;> rfl

theorem floatBits_some {op : BinOp} {k : FloatKind} {x y r : Nat} (h : floatBits op k x y = some r) : isN k x = false ∧ isN k y = false ∧ isN k r = false := by
  unfold floatBits at h
  split at h
  · simp only [Ieee.Format.add, Option.map_eq_some_iff] at h
    obtain ⟨d, h1, rfl⟩ := h
    obtain ⟨a, b, c⟩ := sum_some h1
    exact ⟨a, b, isN_write k c⟩
  · simp only [Ieee.Format.sub, Option.map_eq_some_iff] at h
    obtain ⟨d, h1, rfl⟩ := h
    obtain ⟨a, b, c⟩ := sum_some h1
    exact ⟨a, by rw [opp_nan] at b; exact b, isN_write k c⟩
  · simp only [Ieee.Format.mul, Option.map_eq_some_iff] at h
    obtain ⟨d, h1, rfl⟩ := h
    obtain ⟨a, b, c⟩ := product_some h1
    exact ⟨a, b, isN_write k c⟩
  · simp only [Ieee.Format.div, Option.map_eq_some_iff] at h
    obtain ⟨d, h1, rfl⟩ := h
    obtain ⟨a, b, c⟩ := quotient_some h1
    exact ⟨a, b, isN_write k c⟩
  · cases h

/-- The model's operation on whatever bits, and the one on canonical bits. -/
theorem fop_canon (op : BinOp) (k : FloatKind) (x y : Nat) : fop op k (canon k x) (canon k y) = canon k (fop op k x y) := by
  have hq : ∀ a b, isN k a = true ∨ isN k b = true → fop op k a b = qnan k := by
    intro a b h
    unfold fop
    cases e : floatBits op k a b with
    | none => rfl
    | some r =>
      have := floatBits_some e
      rcases h with h | h
      · rw [h] at this; cases this.1
      · rw [h] at this; cases this.2.1
  cases hx : isN k x
  · cases hy : isN k y
    · rw [canon_of hx, canon_of hy]
      unfold fop
      cases e : floatBits op k x y with
      | none => simp [canon_qnan]
      | some r => simp [canon_of (floatBits_some e).2.2]
    · rw [hq x y (.inr hy), hq _ _ (.inr (by rw [isN_canon]; exact hy)), canon_qnan]
  · rw [hq x y (.inl hx), hq _ _ (.inl (by rw [isN_canon]; exact hx)), canon_qnan]

/-! ### What the tape answers -/
theorem mod_part (s S A m r : Nat) (hr : r < m) (hS : A + 1 + m ≤ S) : A < (s * S + A + 1 + r) % S := by
  have h1 : s * S + A + 1 + r = A + 1 + r + s * S := by omega
  rw [h1, Nat.add_mul_mod_self_right, Nat.mod_eq_of_lt (by omega)]
  omega
theorem isN_cut (k : FloatKind) (q : Question) (t : Nat) (h : (∃ x y, q = .nanBits k x y) ∨ (∃ b, q = .nanConv k b) ∨ (∃ m x y, q = .nanMinMax k m x y)) : isN k (q.cut t) = true := by
  rw [isN_eq, decide_eq_true_eq]
  rcases h with ⟨x, y, rfl⟩ | ⟨b, rfl⟩ | ⟨m, x, y, rfl⟩ <;> cases k
  all_goals first
    | exact mod_part (t % 2) (2 ^ 31) 0x7f800000 (2 ^ 23 - 1) ((t / 2) % (2 ^ 23 - 1)) (Nat.mod_lt _ (by decide)) (by decide)
    | exact mod_part (t % 2) (2 ^ 63) 0x7ff0000000000000 (2 ^ 52 - 1) ((t / 2) % (2 ^ 52 - 1)) (Nat.mod_lt _ (by decide)) (by decide)

theorem run_choose {P : Program} {α : Type} (q : Question) (hq : q.forced = false) (f : Nat → Sem α) (w : World) :
    (Sem.choose q f).run P w = (f (q.cut (w.tape w.drawn q))).run P (w.drewN 1) := by
  simp [Sem.run, hq, World.drewN]

theorem run_fop {P : Program} (op : BinOp) (k : FloatKind) (x y : Nat) (w : World) (h : isArith op = true) :
    ∃ r n, (Op.floatArith op k x y).run P w = .ok (.float k r) (w.drewN n) ∧ canon k r = fop op k (canon k x) (canon k y) := by
  rw [fop_canon]
  cases e : floatBits op k x y with
  | some r =>
    refine ⟨r, 0, run_floatArith w e, ?_⟩
    unfold fop; rw [e]; rfl
  | none =>
    refine ⟨(Question.nanBits k x y).cut (w.tape w.drawn (.nanBits k x y)), 1, ?_, ?_⟩
    rotate_left
    · have : fop op k x y = qnan k := by unfold fop; rw [e]; rfl
      rw [this, canon_qnan]
      exact canon_nan (isN_cut k (.nanBits k x y) (w.tape w.drawn (.nanBits k x y)) (.inl ⟨x, y, rfl⟩))
    · unfold floatBits at e
      cases op <;> simp [isArith] at h <;> simp only at e <;> simp only [Op.floatArith, e] <;> (simp [choose, Sem.run]; rfl)

theorem order_nan {k : FloatKind} {x y : Nat} (h : isN k x = true ∨ isN k y = true) : k.format.order x y = none := by
  unfold Ieee.Format.order
  unfold isN FloatKind.decode at h
  cases e : k.format.read x <;> cases e' : k.format.read y <;> simp [e, e', Ieee.Datum.isNaN] at h <;> simp [Ieee.Datum.order]
theorem order_canon (k : FloatKind) (x y : Nat) : k.format.order (canon k x) (canon k y) = k.format.order x y := by
  cases hx : isN k x
  · cases hy : isN k y
    · rw [canon_of hx, canon_of hy]
    · rw [order_nan (.inr hy), order_nan (.inr (by rw [isN_canon]; exact hy))]
  · rw [order_nan (.inl hx), order_nan (.inl (by rw [isN_canon]; exact hx))]

theorem isN_neg (k : FloatKind) (x : Nat) : isN k (Op.negFloat k x) = isN k x := by
  rw [isN_eq, isN_eq]
  unfold Op.negFloat
  have : 2 ^ (k.format.exponentBits + k.format.fractionBits) = sgn k := by cases k <;> decide
  rw [this]
  have h2 : ∃ m, sgn k = 2 ^ m := by cases k; exact ⟨31, by decide⟩; exact ⟨63, by decide⟩
  obtain ⟨m, hm⟩ := h2
  rw [hm, Nat.xor_mod_two_pow]
  simp
theorem fneg_canon (k : FloatKind) (x : Nat) : fneg k (canon k x) = canon k (Op.negFloat k x) := by
  unfold fneg
  cases hx : isN k x
  · rw [canon_of hx]
  · rw [canon_nan (b := Op.negFloat k x) (by rw [isN_neg]; exact hx), canon_nan (by rw [isN_neg, isN_canon]; exact hx)]

theorem toInt_canon (q : FloatKind) (b : Nat) (k : IntKind) : floatToIntVal q (canon q b) k = floatToIntVal q b k := by
  cases h : isN q b
  · rw [canon_of h]
  · have key : ∀ c, isN q c = true → floatToIntVal q c k = none := by
      intro c hc
      unfold floatToIntVal
      unfold isN at hc
      cases e : q.decode c <;> simp [e, Ieee.Datum.isNaN] at hc
      simp [Ieee.Datum.toInt, Ieee.Datum.integral]
    rw [key _ h, key _ (by rw [isN_canon]; exact h)]
theorem isN_nearest' (k : FloatKind) (n : Int) : isN k (floatOfInt k n) = false := isN_write k (d := .number (n < 0) n.natAbs 0) rfl

theorem run_fconv {P : Program} {s d : FloatKind} {b r : Nat} (w : World) (h : fconv s (canon s b) d = some r) :
    ∃ r' n, (Conv.floatToFloat s b d).run P w = .ok (.float d r') (w.drewN n) ∧ canon d r' = r := by
  unfold fconv at h
  split at h
  · rename_i e; cases h; subst e
    exact ⟨b, 0, by simp [Conv.floatToFloat, World.drewN], rfl⟩
  · rename_i ne
    have hc := isN_canon s b
    unfold isN at hc
    rw [hc] at h
    split at h
    · rename_i hn
      cases h
      refine ⟨(Question.nanConv d b).cut (w.tape w.drawn (.nanConv d b)), 1, ?_, ?_⟩
      rotate_left
      · exact canon_nan (isN_cut d (.nanConv d b) (w.tape w.drawn (.nanConv d b)) (.inr (.inl ⟨b, rfl⟩)))
      · cases e : s.decode b <;> simp [e, Ieee.Datum.isNaN] at hn
        simp only [Conv.floatToFloat, ne, if_false, e]
        simp [choose, Sem.run]
        rfl
    · rename_i hn
      have hn' : isN s b = false := by unfold isN; simpa using hn
      rw [canon_of hn'] at h
      refine ⟨r, 0, ?_, ?_⟩
      · unfold floatToFloatBits at h
        simp only [ne, if_false] at h
        split at h
        · cases h
        · rename_i e; cases h; simp [Conv.floatToFloat, ne, e, World.drewN]
        · rename_i e
          split at h
          · cases h
          · rename_i hi; cases h; simp [Conv.floatToFloat, ne, e, hi, World.drewN]
      · refine canon_of ?_
        unfold floatToFloatBits at h
        simp only [ne, if_false] at h
        split at h
        · cases h
        · cases h; exact isN_write d rfl
        · split at h
          · cases h
          · cases h; exact isN_write d rfl

end Go.Proofs.Ytlopdogjdfeikaa.Ab
