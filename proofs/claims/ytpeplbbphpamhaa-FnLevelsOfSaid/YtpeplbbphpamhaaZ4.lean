/- What the proof names: lemmas and words, merged by a program from its parts. No condition. -/
import Derived.Test.YtpeplbbphpamhaaZ3
import Derived.Laws.ComplexArith
namespace Go.Proofs.Ytpeplbbphpamhaa.Ab
set_option linter.unusedVariables false
set_option linter.unusedSimpArgs false
open Go
def isN (k : FloatKind) (b : Nat) : Bool := (k.decode b).isNaN
def infR : FloatKind → Nat
  | .f32 => 2139095040
  | .f64 => 9218868437227405312
def sgn : FloatKind → Nat
  | .f32 => 2147483648
  | .f64 => 9223372036854775808
theorem infRung_eq (k : FloatKind) : k.format.infRung = infR k := by cases k <;> decide
theorem sign_eq (k : FloatKind) : k.format.signWeight = sgn k := by cases k <;> decide
theorem binade_le (k : FloatKind) : k.format.binade ≤ infR k := by cases k <;> decide
theorem infR_lt (k : FloatKind) : infR k < sgn k := by cases k <;> decide
theorem isN_eq (k : FloatKind) (b : Nat) : isN k b = decide (infR k < b % sgn k) := by
  unfold isN FloatKind.decode Ieee.Format.read
  rw [infRung_eq, sign_eq]
  have := binade_le k
  dsimp only
  split
  · simp [Ieee.Datum.isNaN]; omega
  · split
    · simp [Ieee.Datum.isNaN]; omega
    · split
      · rename_i h; simp [Ieee.Datum.isNaN, h]
      · simp [Ieee.Datum.isNaN]; omega
theorem isN_qnan (k : FloatKind) : isN k (qnan k) = true := by rw [isN_eq]; cases k <;> decide
theorem canon_of {k : FloatKind} {b : Nat} (h : isN k b = false) : canon k b = b := by unfold canon; unfold isN at h; rw [h]; rfl
theorem canon_nan {k : FloatKind} {b : Nat} (h : isN k b = true) : canon k b = qnan k := by unfold canon; unfold isN at h; rw [h]; rfl
theorem isN_canon (k : FloatKind) (b : Nat) : isN k (canon k b) = isN k b := by
  cases h : isN k b
  · rw [canon_of h, h]
  · rw [canon_nan h, isN_qnan]
theorem canon_qnan (k : FloatKind) : canon k (qnan k) = qnan k := canon_nan (isN_qnan k)
theorem word_mod (k : FloatKind) (neg : Bool) {r : Nat} (h : r < sgn k) : k.format.word neg r % sgn k = r := by
  unfold Ieee.Format.word
  rw [sign_eq]
  split
  · rw [Nat.add_mod_left]; exact Nat.mod_eq_of_lt h
  · exact Nat.mod_eq_of_lt h
theorem isN_word (k : FloatKind) (neg : Bool) {r : Nat} (h : r ≤ infR k) : isN k (k.format.word neg r) = false := by
  have := infR_lt k
  rw [isN_eq, word_mod k neg (by omega)]
  simp; omega
theorem isN_nearest (k : FloatKind) (neg : Bool) (mag : Nat) (place : Int) : isN k (k.format.nearest neg mag place) = false := by
  unfold Ieee.Format.nearest
  dsimp only
  split
  · exact isN_word k neg (Nat.zero_le _)
  · exact isN_word k neg (by rw [infRung_eq]; exact Nat.min_le_right _ _)
theorem isN_write (k : FloatKind) {d : Ieee.Datum} (h : d.isNaN = false) : isN k (k.format.write d) = false := by
  cases d with
  | number s m e => exact isN_nearest k s m e
  | infinity s => exact isN_word k s (by rw [infRung_eq]; exact Nat.le_refl _)
  | nan s f => cases h
theorem sum_some {x y d : Ieee.Datum} (h : x.sum y = some d) : x.isNaN = false ∧ y.isNaN = false ∧ d.isNaN = false := by
  cases x <;> cases y <;> simp [Ieee.Datum.sum] at h <;> first | (obtain ⟨_, rfl⟩ := h; simp [Ieee.Datum.isNaN]) | (subst h; simp [Ieee.Datum.isNaN])
theorem product_some {x y d : Ieee.Datum} (h : x.product y = some d) : x.isNaN = false ∧ y.isNaN = false ∧ d.isNaN = false := by
  unfold Ieee.Datum.product at h
  split at h <;> (try split at h) <;> first | (cases h; done) | (injection h with h; subst h; simp [Ieee.Datum.isNaN])
theorem quotient_some {n : Nat} {x y d : Ieee.Datum} (h : x.quotient n y = some d) : x.isNaN = false ∧ y.isNaN = false ∧ d.isNaN = false := by
  unfold Ieee.Datum.quotient at h
  dsimp only at h
  split at h <;> (try split at h) <;> (try split at h) <;> first | (cases h; done) | (injection h with h; subst h; simp [Ieee.Datum.isNaN])
theorem root_some {n : Nat} {x d : Ieee.Datum} (h : x.root n = some d) : x.isNaN = false ∧ d.isNaN = false := by
  cases x with
  | nan s f => simp [Ieee.Datum.root] at h
  | infinity s => simp [Ieee.Datum.root] at h; obtain ⟨_, rfl⟩ := h; simp [Ieee.Datum.isNaN]
  | number s m i =>
    simp only [Ieee.Datum.root] at h
    split at h
    · cases h; simp [Ieee.Datum.isNaN]
    · split at h
      · cases h
      · cases h; simp [Ieee.Datum.isNaN]
theorem opp_nan (d : Ieee.Datum) : d.opposite.isNaN = d.isNaN := by cases d <;> rfl
theorem floatBits_some {op : BinOp} {k : FloatKind} {x y r : Nat} (h : floatBits op k x y = some r) : isN k x = false ∧ isN k y = false ∧ isN k r = false := by
  unfold floatBits at h
  split at h
  · simp only [Ieee.Format.add, Option.map_eq_some_iff] at h
    obtain ⟨d, h1, rfl⟩ := h
    obtain ⟨a, b, c⟩ := sum_some h1
    exact ⟨a, b, isN_write k c⟩
  · simp only [Ieee.Format.sub, Option.map_eq_some_iff] at h
    obtain ⟨d, h1, rfl⟩ := h
    obtain ⟨a, b, c⟩ := sum_some h1
    exact ⟨a, by rw [opp_nan] at b; exact b, isN_write k c⟩
  · simp only [Ieee.Format.mul, Option.map_eq_some_iff] at h
    obtain ⟨d, h1, rfl⟩ := h
    obtain ⟨a, b, c⟩ := product_some h1
    exact ⟨a, b, isN_write k c⟩
  · simp only [Ieee.Format.div, Option.map_eq_some_iff] at h
    obtain ⟨d, h1, rfl⟩ := h
    obtain ⟨a, b, c⟩ := quotient_some h1
    exact ⟨a, b, isN_write k c⟩
  · cases h
theorem fop_canon (op : BinOp) (k : FloatKind) (x y : Nat) : fop op k (canon k x) (canon k y) = canon k (fop op k x y) := by
  have hq : ∀ a b, isN k a = true ∨ isN k b = true → fop op k a b = qnan k := by
    intro a b h
    unfold fop
    cases e : floatBits op k a b with
    | none => rfl
    | some r =>
      have := floatBits_some e
      rcases h with h | h
      · rw [h] at this; cases this.1
      · rw [h] at this; cases this.2.1
  cases hx : isN k x
  · cases hy : isN k y
    · rw [canon_of hx, canon_of hy]
      unfold fop
      cases e : floatBits op k x y with
      | none => simp [canon_qnan]
      | some r => simp [canon_of (floatBits_some e).2.2]
    · rw [hq x y (.inr hy), hq _ _ (.inr (by rw [isN_canon]; exact hy)), canon_qnan]
  · rw [hq x y (.inl hx), hq _ _ (.inl (by rw [isN_canon]; exact hx)), canon_qnan]
theorem mod_part (s S A m r : Nat) (hr : r < m) (hS : A + 1 + m ≤ S) : A < (s * S + A + 1 + r) % S := by
  have h1 : s * S + A + 1 + r = A + 1 + r + s * S := by omega
  rw [h1, Nat.add_mul_mod_self_right, Nat.mod_eq_of_lt (by omega)]
  omega
theorem isN_cut (k : FloatKind) (q : Question) (t : Nat) (h : (∃ x y, q = .nanBits k x y) ∨ (∃ b, q = .nanConv k b) ∨ (∃ m x y, q = .nanMinMax k m x y)) : isN k (q.cut t) = true := by
  rw [isN_eq, decide_eq_true_eq]
  rcases h with ⟨x, y, rfl⟩ | ⟨b, rfl⟩ | ⟨m, x, y, rfl⟩ <;> cases k
  all_goals first
    | exact mod_part (t % 2) (2 ^ 31) 0x7f800000 (2 ^ 23 - 1) ((t / 2) % (2 ^ 23 - 1)) (Nat.mod_lt _ (by decide)) (by decide)
    | exact mod_part (t % 2) (2 ^ 63) 0x7ff0000000000000 (2 ^ 52 - 1) ((t / 2) % (2 ^ 52 - 1)) (Nat.mod_lt _ (by decide)) (by decide)
theorem run_fop {P : Program} (op : BinOp) (k : FloatKind) (x y : Nat) (w : World) (h : isArith op = true) :
    ∃ r n, (Op.floatArith op k x y).run P w = .ok (.float k r) (w.drewN n) ∧ canon k r = fop op k (canon k x) (canon k y) := by
  rw [fop_canon]
  cases e : floatBits op k x y with
  | some r =>
    refine ⟨r, 0, run_floatArith w e, ?_⟩
    unfold fop; rw [e]; rfl
  | none =>
    refine ⟨(Question.nanBits k x y).cut (w.tape w.drawn (.nanBits k x y)), 1, ?_, ?_⟩
    rotate_left
    · have : fop op k x y = qnan k := by unfold fop; rw [e]; rfl
      rw [this, canon_qnan]
      exact canon_nan (isN_cut k (.nanBits k x y) (w.tape w.drawn (.nanBits k x y)) (.inl ⟨x, y, rfl⟩))
    · unfold floatBits at e
      cases op <;> simp [isArith] at h <;> simp only at e <;> simp only [Op.floatArith, e] <;> (simp [choose, Sem.run]; rfl)
theorem order_nan {k : FloatKind} {x y : Nat} (h : isN k x = true ∨ isN k y = true) : k.format.order x y = none := by
  unfold Ieee.Format.order
  unfold isN FloatKind.decode at h
  cases e : k.format.read x <;> cases e' : k.format.read y <;> simp [e, e', Ieee.Datum.isNaN] at h <;> simp [Ieee.Datum.order]
theorem order_canon (k : FloatKind) (x y : Nat) : k.format.order (canon k x) (canon k y) = k.format.order x y := by
  cases hx : isN k x
  · cases hy : isN k y
    · rw [canon_of hx, canon_of hy]
    · rw [order_nan (.inr hy), order_nan (.inr (by rw [isN_canon]; exact hy))]
  · rw [order_nan (.inl hx), order_nan (.inl (by rw [isN_canon]; exact hx))]
theorem isN_neg (k : FloatKind) (x : Nat) : isN k (Op.negFloat k x) = isN k x := by
  rw [isN_eq, isN_eq]
  unfold Op.negFloat
  have : 2 ^ (k.format.exponentBits + k.format.fractionBits) = sgn k := by cases k <;> decide
  rw [this]
  have h2 : ∃ m, sgn k = 2 ^ m := by cases k; exact ⟨31, by decide⟩; exact ⟨63, by decide⟩
  obtain ⟨m, hm⟩ := h2
  rw [hm, Nat.xor_mod_two_pow]
  simp
theorem fneg_canon (k : FloatKind) (x : Nat) : fneg k (canon k x) = canon k (Op.negFloat k x) := by
  unfold fneg
  cases hx : isN k x
  · rw [canon_of hx]
  · rw [canon_nan (b := Op.negFloat k x) (by rw [isN_neg]; exact hx), canon_nan (by rw [isN_neg, isN_canon]; exact hx)]
theorem toInt_canon (q : FloatKind) (b : Nat) (k : IntKind) : floatToIntVal q (canon q b) k = floatToIntVal q b k := by
  cases h : isN q b
  · rw [canon_of h]
  · have key : ∀ c, isN q c = true → floatToIntVal q c k = none := by
      intro c hc
      unfold floatToIntVal
      unfold isN at hc
      cases e : q.decode c <;> simp [e, Ieee.Datum.isNaN] at hc
      simp [Ieee.Datum.toInt, Ieee.Datum.integral]
    rw [key _ h, key _ (by rw [isN_canon]; exact h)]
theorem isN_nearest' (k : FloatKind) (n : Int) : isN k (floatOfInt k n) = false := isN_write k (d := .number (n < 0) n.natAbs 0) rfl
theorem run_fconv {P : Program} {s d : FloatKind} {b r : Nat} (w : World) (h : fconv s (canon s b) d = some r) :
    ∃ r' n, (Conv.floatToFloat s b d).run P w = .ok (.float d r') (w.drewN n) ∧ canon d r' = r := by
  unfold fconv at h
  split at h
  · rename_i e; cases h; subst e
    exact ⟨b, 0, by simp [Conv.floatToFloat, World.drewN], rfl⟩
  · rename_i ne
    have hc := isN_canon s b
    unfold isN at hc
    rw [hc] at h
    split at h
    · rename_i hn
      cases h
      refine ⟨(Question.nanConv d b).cut (w.tape w.drawn (.nanConv d b)), 1, ?_, ?_⟩
      rotate_left
      · exact canon_nan (isN_cut d (.nanConv d b) (w.tape w.drawn (.nanConv d b)) (.inr (.inl ⟨b, rfl⟩)))
      · cases e : s.decode b <;> simp [e, Ieee.Datum.isNaN] at hn
        simp only [Conv.floatToFloat, ne, if_false, e]
        simp [choose, Sem.run]
        rfl
    · rename_i hn
      have hn' : isN s b = false := by unfold isN; simpa using hn
      rw [canon_of hn'] at h
      refine ⟨r, 0, ?_, ?_⟩
      · unfold floatToFloatBits at h
        simp only [ne, if_false] at h
        split at h
        · cases h
        · rename_i e; cases h; simp [Conv.floatToFloat, ne, e, World.drewN]
        · rename_i e
          split at h
          · cases h
          · rename_i hi; cases h; simp [Conv.floatToFloat, ne, e, hi, World.drewN]
      · refine canon_of ?_
        unfold floatToFloatBits at h
        simp only [ne, if_false] at h
        split at h
        · cases h
        · cases h; exact isN_write d rfl
        · split at h
          · cases h
          · cases h; exact isN_write d rfl
end Go.Proofs.Ytpeplbbphpamhaa.Ab

namespace Go.Proofs.Ytpeplbbphpamhaa.Ab
set_option linter.unusedVariables false
set_option linter.unusedSimpArgs false
open Go
def Gives (P : Program) (s : Sem Value) (μ : Mu) (v : V) (w : World) : Prop := ∃ cv n, s.run P w = .ok cv (w.drewN n) ∧ RepV μ v cv
theorem Gives.ofRep {P : Program} {μ : Mu} {v : V} {cv : Value} (h : RepV μ v cv) (w : World) : Gives P (pure cv) μ v w := ⟨cv, 0, rfl, h⟩
section
variable {P : Program} {R : Type} {K : V → Option R} {r : R}
theorem repInt {μ : Mu} {k : IntKind} {n : Int} {cv : Value} (h : RepV μ (.int k n) cv) : cv = .int k n := h
theorem repFl {μ : Mu} {k : FloatKind} {n : Nat} {cv : Value} (h : RepV μ (.fl k n) cv) : ∃ b, cv = .float k b ∧ canon k b = n := h
theorem repCx {μ : Mu} {k : FloatKind} {x y : Nat} {cv : Value} (h : RepV μ (.cx k x y) cv) : ∃ a b, cv = .complex k a b ∧ canon k a = x ∧ canon k b = y := h
theorem repBool {μ : Mu} {b : Bool} {cv : Value} (h : RepV μ (.bool b) cv) : cv = .bool b := h
theorem iop_run {op : BinOp} {k : IntKind} {x y : Int} (hs : op ≠ .shl) (hs' : op ≠ .shr) (e : iopK op k x y K = some r) :
    ∃ v, K v = some r ∧ ∀ (μ : Mu) (w : World) (xt : TypeId) (xo yo : Operand),
      Gives P (do eqGuard op xt xo yo (.int k x) (.int k y); binOp op xt (.int k x) (.int k y)) μ v w := by
  cases op <;> simp only [iopK] at e
  case quo =>
    split at e
    · cases e
    · rename_i h; simp at h
      exact ⟨_, e, fun μ w xt xo yo => ⟨_, 0, by simp [eqGuard, binOp, Op.intDiv, h, World.drewN], rfl⟩⟩
  case rem =>
    split at e
    · cases e
    · rename_i h; simp at h
      exact ⟨_, e, fun μ w xt xo yo => ⟨_, 0, by simp [eqGuard, binOp, Op.intDiv, h, World.drewN], rfl⟩⟩
  all_goals first
    | (cases e; done)
    | exact absurd rfl hs
    | exact absurd rfl hs'
    | exact ⟨_, e, fun μ w xt xo yo => ⟨_, 0, by simp [eqGuard, binOp, Op.intArith, Op.intCmp, Op.intBits, World.drewN], rfl⟩⟩
theorem shift_run {op : BinOp} {k k' : IntKind} {x y : Int} (e : shiftK op k x y K = some r) :
    ∃ v, K v = some r ∧ ∀ (μ : Mu) (w : World) (xt : TypeId) (xo yo : Operand),
      Gives P (do eqGuard op xt xo yo (.int k x) (.int k' y); binOp op xt (.int k x) (.int k' y)) μ v w := by
  unfold shiftK at e
  split at e
  · cases e
  rename_i h; simp at h
  split at e
  · exact ⟨_, e, fun μ w xt xo yo => ⟨_, 0, by simp [eqGuard, binOp, Op.shift, Int.not_lt.2 h, World.drewN], rfl⟩⟩
  · exact ⟨_, e, fun μ w xt xo yo => ⟨_, 0, by simp [eqGuard, binOp, Op.shift, Int.not_lt.2 h, World.drewN], rfl⟩⟩
  · cases e
theorem eqGuard_float (op : BinOp) (t : TypeId) (xo yo : Operand) (k k' : FloatKind) (a b : Nat) : eqGuard op t xo yo (.float k a) (.float k' b) = pure () := by
  cases op <;> rfl
theorem eqGuard_complex (op : BinOp) (t : TypeId) (xo yo : Operand) (k k' : FloatKind) (a b c d : Nat) : eqGuard op t xo yo (.complex k a b) (.complex k' c d) = pure () := by
  cases op <;> rfl
theorem eqGuard_bool (op : BinOp) (t : TypeId) (xo yo : Operand) (a b : Bool) : eqGuard op t xo yo (.bool a) (.bool b) = pure () := by
  cases op <;> rfl
theorem gives_guard {μ : Mu} {v : V} {w : World} {s : Sem Unit} {t : Sem Value} (hs : s = pure ()) (h : Gives P t μ v w) : Gives P (do s; t) μ v w := by
  subst hs; exact h
theorem arith_run (op : BinOp) (k : FloatKind) (x y : Nat) (w : World) (h : isArith op = true) :
    ∃ r' n, (Op.Complex.arith op k x y).run P w = .ok r' (w.drewN n) ∧ canon k r' = fop op k (canon k x) (canon k y) := by
  obtain ⟨r', n, h1, h2⟩ := run_fop (P := P) op k x y w h
  exact ⟨r', n, by simp [Op.Complex.arith, h1], h2⟩
theorem drewN_drewN (w : World) (a b : Nat) : (w.drewN a).drewN b = w.drewN (a + b) := by simp [World.drewN, Nat.add_assoc]
theorem nil_run {ty : Ty} (hty : TyOk P ty) {op : BinOp} {xt : TypeId} {b : Bool} (e : nilK ty op xt b K = some r) :
    ∃ v, K v = some r ∧ ∀ (μ : Mu) (ad : Option Addr) (l c : Nat), ad.isNone = b → ∀ (w : World) (xo yo : Operand),
      Gives P (do eqGuard op xt xo yo (.slice ad l c) (.slice none 0 0); binOp op xt (.slice ad l c) (.slice none 0 0)) μ v w := by
  unfold nilK at e
  split at e
  · rename_i hI
    obtain ⟨i, z, d, hr⟩ := row hty hI
    have hd := hr.desc
    have hu := hr.under
    unfold descB at hd
    cases d <;> simp at hd
    have hq : ∀ (d : Nat) (ad : Option Addr) (l c : Nat) (w : World), (Op.equalIn (d + 1) xt (.slice ad l c) (.slice none 0 0)).run P w = .ok ad.isNone w := by
      intro d ad l c w
      cases ad <;> simp [Op.equalIn, run_underlying hu]
    split at e
    · refine ⟨_, e, fun μ ad l c hb w xo yo => ?_⟩
      subst hb
      refine gives_guard rfl ⟨.bool ad.isNone, 0, ?_, rfl⟩
      simp only [binOp]
      simp [Op.equal, Op.maxDepth, hq 9999 ad l c w, World.drewN]
    · refine ⟨_, e, fun μ ad l c hb w xo yo => ?_⟩
      subst hb
      refine gives_guard rfl ⟨.bool (!ad.isNone), 0, ?_, rfl⟩
      simp only [binOp]
      simp [Op.equal, Op.maxDepth, hq 9999 ad l c w, World.drewN]
    · cases e
  · cases e
theorem bin_run {ty : Ty} (hty : TyOk P ty) {op : BinOp} {xt : TypeId} {x y : V} (e : binK ty op xt x y K = some r) :
    ∃ v, K v = some r ∧ ∀ (μ : Mu) (a b : Value), RepV μ x a → RepV μ y b → ∀ (w : World) (xo yo : Operand),
      Gives P (do eqGuard op xt xo yo a b; binOp op xt a b) μ v w := by
  unfold binK at e
  split at e
  · -- integers
    rename_i k a k' b
    split at e
    · obtain ⟨v, h1, h2⟩ := shift_run (P := P) (k' := k') e
      exact ⟨v, h1, fun μ x y hx hy w xo yo => by cases repInt hx; cases repInt hy; exact h2 μ w xt xo yo⟩
    · obtain ⟨v, h1, h2⟩ := shift_run (P := P) (k' := k') e
      exact ⟨v, h1, fun μ x y hx hy w xo yo => by cases repInt hx; cases repInt hy; exact h2 μ w xt xo yo⟩
    · rename_i hs hs'
      split at e
      · rename_i hk; subst hk
        obtain ⟨v, h1, h2⟩ := iop_run (P := P) (fun h => hs h) (fun h => hs' h) e
        exact ⟨v, h1, fun μ x y hx hy w xo yo => by cases repInt hx; cases repInt hy; exact h2 μ w xt xo yo⟩
      · cases e
  · -- floats
    rename_i k a k' b
    split at e
    · rename_i hk; subst hk
      split at e
      · rename_i ha
        refine ⟨_, e, fun μ x y hx hy w xo yo => ?_⟩
        obtain ⟨x', rfl, rfl⟩ := repFl hx
        obtain ⟨y', rfl, rfl⟩ := repFl hy
        refine gives_guard (eqGuard_float ..) ?_
        obtain ⟨r', n, h1, h2⟩ := run_fop (P := P) op k x' y' w ha
        refine ⟨.float k r', n, ?_, ⟨r', rfl, h2⟩⟩
        cases op <;> simp [isArith] at ha <;> simpa [binOp] using h1
      · rename_i ha
        split at e
        · rename_i c hc
          refine ⟨_, e, fun μ x y hx hy w xo yo => ?_⟩
          obtain ⟨x', rfl, rfl⟩ := repFl hx
          obtain ⟨y', rfl, rfl⟩ := repFl hy
          refine gives_guard (eqGuard_float ..) ⟨.bool c, 0, ?_, rfl⟩
          unfold fcmp at hc
          rw [order_canon] at hc
          cases op <;> simp at hc <;> simp [binOp, Op.floatCmp, hc, World.drewN]
        · cases e
    · cases e
  · -- complex numbers
    rename_i k a b k' c d
    split at e
    · rename_i hk; subst hk
      split at e
      · refine ⟨_, e, fun μ x y hx hy w xo yo => ?_⟩
        obtain ⟨x1, x2, rfl, rfl, rfl⟩ := repCx hx
        obtain ⟨y1, y2, rfl, rfl, rfl⟩ := repCx hy
        refine gives_guard (eqGuard_complex ..) ?_
        obtain ⟨r1, n1, h1, h2⟩ := arith_run (P := P) .add k x1 y1 w rfl
        obtain ⟨r2, n2, h3, h4⟩ := arith_run (P := P) .add k x2 y2 (w.drewN n1) rfl
        exact ⟨.complex k r1 r2, n1 + n2, by simp [binOp, Op.complexOp, h1, h3], ⟨r1, r2, rfl, h2, h4⟩⟩
      · refine ⟨_, e, fun μ x y hx hy w xo yo => ?_⟩
        obtain ⟨x1, x2, rfl, rfl, rfl⟩ := repCx hx
        obtain ⟨y1, y2, rfl, rfl, rfl⟩ := repCx hy
        refine gives_guard (eqGuard_complex ..) ?_
        obtain ⟨r1, n1, h1, h2⟩ := arith_run (P := P) .sub k x1 y1 w rfl
        obtain ⟨r2, n2, h3, h4⟩ := arith_run (P := P) .sub k x2 y2 (w.drewN n1) rfl
        exact ⟨.complex k r1 r2, n1 + n2, by simp [binOp, Op.complexOp, h1, h3], ⟨r1, r2, rfl, h2, h4⟩⟩
      · refine ⟨_, e, fun μ x y hx hy w xo yo => ?_⟩
        obtain ⟨x1, x2, rfl, rfl, rfl⟩ := repCx hx
        obtain ⟨y1, y2, rfl, rfl, rfl⟩ := repCx hy
        exact gives_guard (eqGuard_complex ..) ⟨_, 0, run_eql_complex .., by rw [order_canon, order_canon]; rfl⟩
      · refine ⟨_, e, fun μ x y hx hy w xo yo => ?_⟩
        obtain ⟨x1, x2, rfl, rfl, rfl⟩ := repCx hx
        obtain ⟨y1, y2, rfl, rfl, rfl⟩ := repCx hy
        exact gives_guard (eqGuard_complex ..) ⟨_, 0, run_neq_complex .., by rw [order_canon, order_canon]; rfl⟩
      · cases e
    · cases e
  · -- bools
    rename_i a b
    split at e
    · rename_i hI
      obtain ⟨i, z, d, hr⟩ := row hty hI
      have hd := hr.desc
      have hu := hr.under
      unfold descB at hd
      cases d <;> simp at hd
      split at e
      · refine ⟨_, e, fun μ x y hx hy w xo yo => ?_⟩
        cases repBool hx; cases repBool hy
        exact gives_guard (eqGuard_bool ..) ⟨.bool (a == b), 0, run_eql_bool w xt _ _ hu, rfl⟩
      · refine ⟨_, e, fun μ x y hx hy w xo yo => ?_⟩
        cases repBool hx; cases repBool hy
        exact gives_guard (eqGuard_bool ..) ⟨.bool (!(a == b)), 0, run_neq_bool w xt _ _ hu, rfl⟩
      · cases e
    · cases e
  · obtain ⟨v, h1, h2⟩ := nil_run (P := P) hty e
    refine ⟨v, h1, fun μ x y hx hy w xo yo => ?_⟩
    obtain ⟨m, ad, c, _, rfl, _⟩ := hx
    have hy : y = .slice none 0 0 := hy
    subst hy
    exact h2 μ (some ad) _ c rfl w xo yo
  · obtain ⟨v, h1, h2⟩ := nil_run (P := P) hty e
    refine ⟨v, h1, fun μ x y hx hy w xo yo => ?_⟩
    obtain ⟨ad, rfl⟩ := hx
    have hy : y = .slice none 0 0 := hy
    subst hy
    exact h2 μ (some ad) 0 0 rfl w xo yo
  · obtain ⟨v, h1, h2⟩ := nil_run (P := P) hty e
    refine ⟨v, h1, fun μ x y hx hy w xo yo => ?_⟩
    have hx : x = .slice none 0 0 := hx
    have hy : y = .slice none 0 0 := hy
    subst hx
    subst hy
    exact h2 μ none 0 0 rfl w xo yo
  · cases e
theorem un_run {op : UnOp} {x : V} (e : unK op x K = some r) :
    ∃ v, K v = some r ∧ ∀ (μ : Mu) (a : Value), RepV μ x a → ∀ (w : World), Gives P (Op.unary op a) μ v w := by
  unfold unK at e
  split at e
  · exact ⟨_, e, fun μ a h w => by cases repBool h; exact ⟨_, 0, rfl, rfl⟩⟩
  · exact ⟨_, e, fun μ a h w => by cases repInt h; exact ⟨_, 0, rfl, rfl⟩⟩
  · refine ⟨_, e, fun μ a h w => ?_⟩
    obtain ⟨b, rfl, rfl⟩ := repFl h
    exact ⟨_, 0, rfl, ⟨_, rfl, (fneg_canon _ _).symm⟩⟩
  · refine ⟨_, e, fun μ a h w => ?_⟩
    obtain ⟨b, c, rfl, rfl, rfl⟩ := repCx h
    exact ⟨_, 0, rfl, ⟨_, _, rfl, (fneg_canon _ _).symm, (fneg_canon _ _).symm⟩⟩
  · simp only [iopK] at e
    exact ⟨_, e, fun μ a h w => by cases repInt h; exact ⟨_, 0, rfl, rfl⟩⟩
  · cases e
theorem desc_int {I : TyI} {d : TypeDesc} {k : IntKind} (h : descB I d = true) (e : I.d = .int k) : d = .int k := by
  unfold descB at h; rw [e] at h; cases d <;> simp at h; rw [h.1]
theorem desc_fl {I : TyI} {d : TypeDesc} {k : FloatKind} (h : descB I d = true) (e : I.d = .fl k) : d = .float k := by
  unfold descB at h; rw [e] at h; cases d <;> simp at h; rw [h.1]
theorem desc_cx {I : TyI} {d : TypeDesc} {k : FloatKind} (h : descB I d = true) (e : I.d = .cx k) : d = .complex k := by
  unfold descB at h; rw [e] at h; cases d <;> simp at h; rw [h.1]
theorem desc_slice {I : TyI} {d : TypeDesc} {k : TypeId} (h : descB I d = true) (e : I.d = .slice k) : d = .slice k := by
  unfold descB at h; rw [e] at h; cases d <;> simp at h; rw [h.1]
theorem desc_array {I : TyI} {d : TypeDesc} {n : Nat} {k : TypeId} (h : descB I d = true) (e : I.d = .array n k) : d = .array n k := by
  unfold descB at h; rw [e] at h; cases d <;> simp at h; rw [h.1.1, h.1.2]
theorem desc_struct {I : TyI} {d : TypeDesc} {fs : List (Nat × TypeId)} (h : descB I d = true) (e : I.d = .struct fs) : ∃ gs, d = .struct gs ∧ fs = gs.toList.map fun f => (f.offset, f.type) := by
  unfold descB at h; rw [e] at h; cases d <;> simp at h; exact ⟨_, rfl, h.1⟩
theorem conv_run {ty : Ty} (hty : TyOk P ty) {s d : TypeId} {x : V} (e : convK ty s d x K = some r) :
    ∃ v, K v = some r ∧ ∀ (μ : Mu) (a : Value), RepV μ x a → ∀ (w : World), Gives P (convert s d a) μ v w := by
  unfold convK at e
  split at e
  · rename_i hs hd
    obtain ⟨_, _, ds, rs⟩ := row hty hs
    obtain ⟨_, _, dd, rd⟩ := row hty hd
    have h2 := desc_int rd.desc rfl
    subst h2
    refine ⟨_, e, fun μ a h w => ?_⟩
    cases repInt h
    refine ⟨_, 0, ?_, rfl⟩
    cases ds <;> simp [convert, run_underlying rs.under, run_underlying rd.under, Conv.intToInt, World.drewN]
  · rename_i hs hd
    obtain ⟨_, _, ds, rs⟩ := row hty hs
    obtain ⟨_, _, dd, rd⟩ := row hty hd
    have h2 := desc_int rd.desc rfl
    subst h2
    split at e
    · rename_i n hn
      refine ⟨_, e, fun μ a h w => ?_⟩
      obtain ⟨b, rfl, rfl⟩ := repFl h
      rw [toInt_canon] at hn
      exact ⟨_, 0, run_convert_float_int w s d _ _ b n (by rw [rs.under]; rfl) rd.under hn, rfl⟩
    · cases e
  · rename_i hs hd
    obtain ⟨_, _, ds, rs⟩ := row hty hs
    obtain ⟨_, _, dd, rd⟩ := row hty hd
    have h2 := desc_fl rd.desc rfl
    subst h2
    refine ⟨_, e, fun μ a h w => ?_⟩
    cases repInt h
    exact ⟨_, 0, run_convert_int_float w s d _ _ _ (by rw [rs.under]; rfl) rd.under, ⟨_, rfl, canon_of (isN_nearest' _ _)⟩⟩
  · rename_i hs hd
    obtain ⟨_, _, ds, rs⟩ := row hty hs
    obtain ⟨_, _, dd, rd⟩ := row hty hd
    have h2 := desc_fl rd.desc rfl
    subst h2
    split at e
    · rename_i q hq
      refine ⟨_, e, fun μ a h w => ?_⟩
      obtain ⟨b, rfl, rfl⟩ := repFl h
      obtain ⟨r', n, h3, h4⟩ := run_fconv (P := P) w hq
      refine ⟨_, n, ?_, ⟨r', rfl, h4⟩⟩
      cases ds <;> simp [convert, run_underlying rs.under, run_underlying rd.under, h3]
    · cases e
  · rename_i hs hd
    obtain ⟨_, _, ds, rs⟩ := row hty hs
    obtain ⟨_, _, dd, rd⟩ := row hty hd
    have h2 := desc_cx rd.desc rfl
    subst h2
    split at e
    · rename_i q hq
      split at e
      · rename_i q2 hq2
        refine ⟨_, e, fun μ a h w => ?_⟩
        obtain ⟨b, c, rfl, rfl, rfl⟩ := repCx h
        obtain ⟨r1, n1, h3, h4⟩ := run_fconv (P := P) w hq
        obtain ⟨r2, n2, h5, h6⟩ := run_fconv (P := P) (w.drewN n1) hq2
        refine ⟨_, n1 + n2, ?_, ⟨r1, r2, rfl, h4, h6⟩⟩
        cases ds <;> simp [convert, run_underlying rs.under, run_underlying rd.under, Conv.complexToComplex, h3, h5]
      · cases e
    · cases e
  · cases e
end
end Go.Proofs.Ytpeplbbphpamhaa.Ab

namespace Go.Proofs.Ytpeplbbphpamhaa.Ab
set_option linter.unusedVariables false
set_option linter.unusedSimpArgs false
open Go
theorem addr_add (b o n : Nat) : (⟨b, o, none⟩ : Addr).add n = ⟨b, o + n, none⟩ := by
  unfold Addr.add
  split
  · rename_i h; subst h; rfl
  · rfl
theorem RepAs.len {μ : Mu} : ∀ {l : List A} {cs : List Value}, RepAs μ l cs → cs.length = l.length
  | [], [], _ => rfl
  | _ :: _, _ :: _, h => by simp [RepAs.len h.2]
theorem RepAs.get {μ : Mu} : ∀ {l : List A} {cs : List Value}, RepAs μ l cs → ∀ {i : Nat} {x : A}, l[i]? = some x → ∃ cv, cs[i]? = some cv ∧ RepA μ x cv
  | [], [], _, _, _, h => by simp at h
  | a :: l, c :: cs, h, i, x, e => by
    cases i with
    | zero => simp at e; subst e; exact ⟨c, rfl, h.1⟩
    | succ i => simp at e; obtain ⟨cv, h1, h2⟩ := RepAs.get h.2 e; exact ⟨cv, by simpa using h1, h2⟩
theorem RepAs.drop {μ : Mu} : ∀ {l : List A} {cs : List Value} (n : Nat), RepAs μ l cs → RepAs μ (l.drop n) (cs.drop n)
  | _, _, 0, h => h
  | [], [], _ + 1, _ => trivial
  | _ :: _, _ :: _, n + 1, h => RepAs.drop n h.2
theorem RepAs.take {μ : Mu} : ∀ {l : List A} {cs : List Value} (n : Nat), RepAs μ l cs → RepAs μ (l.take n) (cs.take n)
  | _, _, 0, _ => by simp; trivial
  | [], [], _ + 1, _ => trivial
  | _ :: _, _ :: _, n + 1, h => ⟨h.1, RepAs.take n h.2⟩
theorem RepAs.append {μ : Mu} : ∀ {l m : List A} {cs ds : List Value}, RepAs μ l cs → RepAs μ m ds → RepAs μ (l ++ m) (cs ++ ds)
  | [], _, [], _, _, k => k
  | _ :: _, _, _ :: _, _, h, k => ⟨h.1, RepAs.append h.2 k⟩
theorem RepAs.set {μ : Mu} {x : A} {cv : Value} (hx : RepA μ x cv) : ∀ {l : List A} {cs : List Value} (n : Nat), RepAs μ l cs → RepAs μ (l.set n x) (cs.set n cv)
  | [], [], _, _ => trivial
  | _ :: _, _ :: _, 0, h => ⟨hx, h.2⟩
  | _ :: _, _ :: _, n + 1, h => ⟨h.1, RepAs.set hx n h.2⟩
theorem RepA.one {μ : Mu} {x : A} {cv : Value} (h : RepA μ x cv) : cv.oneCell' = true ∧ cv.cells = #[cv] := by
  cases x with
  | bool b => cases h; exact ⟨rfl, rfl⟩
  | int k n => cases h; exact ⟨rfl, rfl⟩
  | fl k b => obtain ⟨_, rfl, _⟩ := h; exact ⟨rfl, rfl⟩
  | cx k a b => obtain ⟨_, _, rfl, _⟩ := h; exact ⟨rfl, rfl⟩
  | ptr i o => obtain ⟨_, _, rfl⟩ := h; exact ⟨rfl, rfl⟩
  | sl i o n => obtain ⟨_, _, _, _, rfl, _⟩ := h; exact ⟨rfl, rfl⟩
  | nil => cases h; exact ⟨rfl, rfl⟩
  | sl0 => obtain ⟨_, rfl⟩ := h; exact ⟨rfl, rfl⟩
  | fn f => cases h; exact ⟨rfl, rfl⟩
  | ro i n => obtain ⟨_, _, ⟨_, rfl, _⟩ | ⟨_, rfl⟩⟩ := h <;> exact ⟨rfl, rfl⟩
  | dig v => obtain ⟨_, _, _, ⟨_, rfl⟩ | ⟨_, _, _, rfl, _⟩⟩ := h <;> exact ⟨rfl, rfl⟩
  | big v => obtain ⟨_, _, _, _, ⟨_, rfl⟩ | ⟨_, _, _, rfl, _⟩⟩ := h <;> exact ⟨rfl, rfl⟩
  | mp i => obtain ⟨_, _, rfl⟩ := h; exact ⟨rfl, rfl⟩
theorem getK_spec {R : Type} {c : C} {i : Nat} {K : A → Option R} {r : R} (e : c.getK i K = some r) : ∃ x, c.get? i = some x ∧ K x = some r := by
  unfold C.get? C.getK at *
  cases c <;> simp only at * <;> first | (cases e; done) | (split at e <;> first | (cases e; done) | exact ⟨_, by simp [*], e⟩)
theorem getNK_spec {R : Type} {c : C} {r : R} : ∀ {n i : Nat} {K : List A → Option R}, c.getNK i n K = some r →
    ∃ l, K l = some r ∧ l.length = n ∧ ∀ j x, l[j]? = some x → c.get? (i + j) = some x
  | 0, i, K, e => ⟨[], e, rfl, fun j x h => by simp at h⟩
  | n + 1, i, K, e => by
    obtain ⟨x, h1, h2⟩ := getK_spec e
    obtain ⟨l, h3, h4, h5⟩ := getNK_spec h2
    refine ⟨x :: l, h3, by simp [h4], fun j y hy => ?_⟩
    cases j with
    | zero => simp at hy; subst hy; exact h1
    | succ j => simp at hy; have := h5 j y hy; rwa [show i + (j + 1) = i + 1 + j by omega]
theorem hgetK_spec {R : Type} {h : H} {i : Nat} {K : Bool → C → Option R} {r : R} (e : hgetK h i K = some r) : ∃ rw c, h[i]? = some (.at rw c) ∧ K rw c = some r := by
  unfold hgetK at e
  split at e
  · exact ⟨_, _, ‹_›, e⟩
  · cases e
section
variable {P : Program} {R : Type} {K : V → Option R} {r : R}
theorem idxAddr_run {ty : Ty} (hty : TyOk P ty) {t : TypeId} {x i : V} (e : idxAddrK ty t x i K = some r) :
    ∃ v, K v = some r ∧ ∀ (μ : Mu) (a b : Value), RepV μ x a → RepV μ i b → ∀ (w : World), Gives P (Instr.indexAt t a b) μ v w := by
  unfold idxAddrK at e
  split at e
  · rename_i ht
    split at e
    · rename_i I hI
      split at e
      · rename_i hlt
        simp only [decide_eq_true_eq] at hlt
        refine ⟨_, e, fun μ a b hx hi w => ?_⟩
        obtain ⟨_, _, d, rt⟩ := row hty ht
        have := desc_slice rt.desc rfl
        subst this
        obtain ⟨_, _, _, rI⟩ := row hty hI
        cases repInt hi
        obtain ⟨m, ad, c, hm, rfl, _, _, had, _⟩ := hx
        have := had (.inl (by omega))
        subst this
        refine ⟨_, 0, ?_, ⟨m, hm, rfl⟩⟩
        simp [Instr.indexAt, asIntOf, run_underlying rt.under, hlt, rI.run_sizeOf, addr_add, World.drewN, Nat.add_assoc]
      · cases e
    · cases e
  · rename_i ht
    split at e
    · rename_i I hI
      split at e
      · rename_i hlt
        simp only [decide_eq_true_eq] at hlt
        refine ⟨_, e, fun μ a b hx hi w => ?_⟩
        obtain ⟨_, _, d, rt⟩ := row hty ht
        have := desc_array rt.desc rfl
        subst this
        obtain ⟨_, _, _, rI⟩ := row hty hI
        cases repInt hi
        obtain ⟨m, hm, rfl⟩ := hx
        refine ⟨_, 0, ?_, ⟨m, hm, rfl⟩⟩
        simp [Instr.indexAt, Instr.sureAddr, asIntOf, run_underlying rt.under, hlt, rI.run_sizeOf, addr_add, World.drewN, Nat.add_assoc]
      · cases e
    · cases e
  · rename_i ht
    split at e
    · rename_i I hI
      split at e
      · rename_i hlt
        simp only [decide_eq_true_eq] at hlt
        refine ⟨_, e, fun μ a b hx hi w => ?_⟩
        obtain ⟨_, _, d, rt⟩ := row hty ht
        have := desc_slice rt.desc rfl
        subst this
        obtain ⟨_, _, _, rI⟩ := row hty hI
        cases repInt hi
        obtain ⟨m, hm, ⟨c, rfl, _, _⟩ | ⟨h0, _⟩⟩ := hx
        · refine ⟨_, 0, ?_, ⟨m, hm, rfl⟩⟩
          simp [Instr.indexAt, asIntOf, run_underlying rt.under, hlt, rI.run_sizeOf, addr_add, World.drewN, Nat.add_assoc]
        · omega
      · cases e
    · cases e
  · cases e
theorem part_run {t : TypeId} {I : TyI} {i : TypeInfo} {z : Value} {d : TypeDesc} (hr : RowOk P t I i z d) {l : List A} {o : Nat} (e : partK I l o K = some r) :
    ∃ v, K v = some r ∧ ∀ (μ : Mu) (cs : List Value), RepAs μ l cs → ∀ (w : World), Gives P (part t ⟨cs⟩ o) μ v w := by
  unfold partK at e
  split at e
  · rename_i ha
    refine ⟨_, e, fun μ cs h w => ⟨.agg ⟨(cs.drop o).take I.size⟩, 0, ?_, ⟨_, rfl, (h.drop o).take _⟩⟩⟩
    simp only [part, Sem.run_bind, hr.run_isAgg, Result.andThen, ha, if_true, hr.run_sizeOf]
    simp [World.drewN, List.extract_eq_take_drop]
  · rename_i ha
    split at e
    · rename_i x hx
      refine ⟨_, e, fun μ cs h w => ?_⟩
      obtain ⟨cv, h1, h2⟩ := h.get hx
      refine ⟨cv, 0, ?_, h2⟩
      simp only [part, Sem.run_bind, hr.run_isAgg, Result.andThen, ha]
      simp [h1, World.drewN]
    · cases e
theorem idx_run {ty : Ty} (hty : TyOk P ty) {t : TypeId} {x i : V} (e : idxK ty t x i K = some r) :
    ∃ v, K v = some r ∧ ∀ (μ : Mu) (a b : Value), RepV μ x a → RepV μ i b → ∀ (w : World), Gives P (Instr.index t a b) μ v w := by
  unfold idxK at e
  split at e
  · rename_i ht
    split at e
    · rename_i I hI
      split at e
      · rename_i hlt
        simp only [decide_eq_true_eq] at hlt
        obtain ⟨_, _, d, rt⟩ := row hty ht
        have := desc_array rt.desc rfl
        subst this
        obtain ⟨_, _, _, rI⟩ := row hty hI
        obtain ⟨v, h1, h2⟩ := part_run rI e
        refine ⟨v, h1, fun μ a b hx hi w => ?_⟩
        cases repInt hi
        obtain ⟨cs, rfl, hc⟩ := hx
        obtain ⟨cv, n, h3, h4⟩ := h2 μ cs hc w
        refine ⟨cv, n, ?_, h4⟩
        simp [Instr.index, asIntOf, run_underlying rt.under, hlt, rI.run_sizeOf, h3]
      · cases e
    · cases e
  · cases e
theorem fieldOf_row {ty : Ty} (hty : TyOk P ty) {t : TypeId} {f o : Nat} {I : TyI} (e : fieldOf ty t f = some (o, I)) :
    ∃ gs g i z d, P.underlying t = some (.struct gs) ∧ gs[f]? = some g ∧ g.offset = o ∧ RowOk P g.type I i z d := by
  unfold fieldOf at e
  split at e
  · rename_i ht
    obtain ⟨_, _, d, rt⟩ := row hty ht
    obtain ⟨gs, rfl, hgs⟩ := desc_struct rt.desc rfl
    split at e
    · rename_i o' e' hf
      simp only [Option.map_eq_some_iff] at e
      obtain ⟨J, hJ, hh⟩ := e
      cases hh
      obtain ⟨i, z, d', rI⟩ := row hty hJ
      rw [hgs] at hf
      simp only [List.getElem?_map, Option.map_eq_some_iff] at hf
      obtain ⟨g, hg, hgg⟩ := hf
      cases hgg
      exact ⟨gs, g, i, z, d', rt.under, by simpa using hg, rfl, rI⟩
    · cases e
  · cases e
def Agree (h h2 : H) : Prop := ∀ i, i < h.length → i < h2.length → h[i]? = h2[i]?
theorem Agree.refl (h : H) : Agree h h := fun _ _ _ => rfl
theorem load_run {ty : Ty} (hty : TyOk P ty) {h : H} {t : TypeId} {x : V} (e : loadK ty h t x K = some r) :
    ∃ v, K v = some r ∧ ∀ (μ : Mu) (a : Value), RepV μ x a → ∀ (w : World) (h2 : H), Agree h h2 → Rel μ h2 w → Gives P (Instr.loadAt t a) μ v w := by
  unfold loadK at e
  split at e
  · rename_i I i o ht
    obtain ⟨_, _, d, rt⟩ := row hty ht
    obtain ⟨rw, c, hb, e⟩ := hgetK_spec e
    split at e
    · rename_i ha
      obtain ⟨l, h1, h2, h3⟩ := getNK_spec e
      refine ⟨_, h1, fun μ a hx w h2' ha2 hr => ?_⟩
      obtain ⟨m, hm, rfl⟩ := hx
      have hb : h2'[i]? = some (.at rw c) := (ha2 i (getElem?_lt hb) (by rw [← hr.len]; exact getElem?_lt hm)).symm.trans hb
      have key : ∀ (l' : List A) (k : Nat), (∀ j x, l'[j]? = some x → c.get? (o + (k + j)) = some x) →
          ∃ cs : List Value, RepAs μ l' cs ∧ ∀ j v, cs[j]? = some v → w.cell? ((⟨m.blk, m.off + o, none⟩ : Addr).add (k + j)) = some v := by
        intro l'
        induction l' with
        | nil => exact fun k _ => ⟨[], trivial, fun j v h => by simp at h⟩
        | cons y l' ih =>
          intro k hk
          obtain ⟨cv, h4, h5⟩ := hr.cell i m rw c hm hb (o + (k + 0)) y (hk 0 y rfl)
          obtain ⟨cs, h6, h7⟩ := ih (k + 1) (fun j x hx => by have := hk (j + 1) x (by simpa using hx); rwa [show k + 1 + j = k + (j + 1) by omega])
          refine ⟨cv :: cs, ⟨h5, h6⟩, fun j v hv => ?_⟩
          cases j with
          | zero =>
            simp at hv
            subst hv
            rw [addr_add, Nat.add_assoc]
            exact h4
          | succ j =>
            simp at hv
            have := h7 j v hv
            rwa [show k + 1 + j = k + (j + 1) by omega] at this
      obtain ⟨cs, h4, h5⟩ := key l 0 (fun j x hx => by rw [Nat.zero_add]; exact h3 j x hx)
      refine ⟨.agg ⟨cs⟩, 0, ?_, ⟨cs, rfl, h4⟩⟩
      have hl : I.size = cs.length := by rw [h4.len, h2]
      have h6 := run_loadCells_list (P := P) w (⟨m.blk, m.off + o, none⟩ : Addr) cs (fun j v hv => by have := h5 j v hv; rwa [Nat.zero_add] at this)
      simp only [Instr.loadAt, Instr.sureAddr, Sem.run_bind, Sem.run_pure, Result.andThen, loadVar, rt.run_isAgg, ha, if_true, rt.run_sizeOf]
      rw [hl, h6]
      simp [World.drewN]
    · rename_i ha
      obtain ⟨y, h1, h2⟩ := getK_spec e
      refine ⟨_, h2, fun μ a hx w h2' ha2 hr => ?_⟩
      obtain ⟨m, hm, rfl⟩ := hx
      have hb : h2'[i]? = some (.at rw c) := (ha2 i (getElem?_lt hb) (by rw [← hr.len]; exact getElem?_lt hm)).symm.trans hb
      obtain ⟨cv, h4, h5⟩ := hr.cell i m rw c hm hb o y h1
      refine ⟨cv, 0, ?_, h5⟩
      simp only [Instr.loadAt, Instr.sureAddr, Sem.run_bind, Sem.run_pure, Result.andThen, loadVar, rt.run_isAgg, ha]
      simp [load, Sem.run, h4, World.drewN]
  · cases e
theorem loadVar_run {ty : Ty} (hty : TyOk P ty) {h : H} {t : TypeId} {x : V} (e : loadK ty h t x K = some r) :
    ∃ v, K v = some r ∧ ∀ (μ : Mu) (a : Value), RepV μ x a → ∀ (w : World), Rel μ h w → ∃ cv, (do loadVar t (← asAddr a) : Sem Value).run P w = .ok cv w ∧ RepV μ v cv := by
  unfold loadK at e
  split at e
  · rename_i I i o ht
    obtain ⟨_, _, d, rt⟩ := row hty ht
    obtain ⟨rw, c, hb, e⟩ := hgetK_spec e
    split at e
    · rename_i ha
      obtain ⟨l, h1, h2, h3⟩ := getNK_spec e
      refine ⟨_, h1, fun μ a hx w hr => ?_⟩
      obtain ⟨m, hm, rfl⟩ := hx
      have key : ∀ (l' : List A) (k : Nat), (∀ j x, l'[j]? = some x → c.get? (o + (k + j)) = some x) →
          ∃ cs : List Value, RepAs μ l' cs ∧ ∀ j v, cs[j]? = some v → w.cell? ((⟨m.blk, m.off + o, none⟩ : Addr).add (k + j)) = some v := by
        intro l'
        induction l' with
        | nil => exact fun k _ => ⟨[], trivial, fun j v h => by simp at h⟩
        | cons y l' ih =>
          intro k hk
          obtain ⟨cv, h4, h5⟩ := hr.cell i m rw c hm hb (o + (k + 0)) y (hk 0 y rfl)
          obtain ⟨cs, h6, h7⟩ := ih (k + 1) (fun j x hx => by have := hk (j + 1) x (by simpa using hx); rwa [show k + 1 + j = k + (j + 1) by omega])
          refine ⟨cv :: cs, ⟨h5, h6⟩, fun j v hv => ?_⟩
          cases j with
          | zero =>
            simp at hv
            subst hv
            rw [addr_add, Nat.add_assoc]
            exact h4
          | succ j =>
            simp at hv
            have := h7 j v hv
            rwa [show k + 1 + j = k + (j + 1) by omega] at this
      obtain ⟨cs, h4, h5⟩ := key l 0 (fun j x hx => by rw [Nat.zero_add]; exact h3 j x hx)
      refine ⟨.agg ⟨cs⟩, ?_, ⟨cs, rfl, h4⟩⟩
      have hl : I.size = cs.length := by rw [h4.len, h2]
      have h6 := run_loadCells_list (P := P) w (⟨m.blk, m.off + o, none⟩ : Addr) cs (fun j v hv => by have := h5 j v hv; rwa [Nat.zero_add] at this)
      simp only [asAddr, Sem.run_bind, Sem.run_pure, Result.andThen, loadVar, rt.run_isAgg, ha, if_true, rt.run_sizeOf]
      rw [hl, h6]
    · rename_i ha
      obtain ⟨y, h1, h2⟩ := getK_spec e
      refine ⟨_, h2, fun μ a hx w hr => ?_⟩
      obtain ⟨m, hm, rfl⟩ := hx
      obtain ⟨cv, h4, h5⟩ := hr.cell i m rw c hm hb o y h1
      refine ⟨cv, ?_, h5⟩
      simp only [asAddr, Sem.run_bind, Sem.run_pure, Result.andThen, loadVar, rt.run_isAgg, ha]
      simp [load, Sem.run, h4]
  · cases e
theorem len_run {ty : Ty} (hty : TyOk P ty) {t : TypeId} {x : V} (e : lenK ty t x K = some r) :
    ∃ v, K v = some r ∧ ∀ (μ : Mu) (a : Value), RepV μ x a → ∀ (w : World) (ts : List TypeId) (rt : TypeId), Gives P (Builtin.len_ ⟨t :: ts⟩ rt #[a]) μ v w := by
  unfold lenK at e
  split at e
  · rename_i ht
    obtain ⟨_, _, d, rt⟩ := row hty ht
    have := desc_slice rt.desc rfl
    subst this
    refine ⟨_, e, fun μ a h w ts rt' => ?_⟩
    obtain ⟨m, ad, c, _, rfl, _⟩ := h
    exact ⟨_, 0, by simp [Builtin.len_, run_underlying rt.under, goInt, World.drewN], rfl⟩
  · rename_i ht
    obtain ⟨_, _, d, rt⟩ := row hty ht
    have := desc_slice rt.desc rfl
    subst this
    refine ⟨_, e, fun μ a h w ts rt' => ?_⟩
    obtain ⟨m, _, ⟨c, rfl, _, _⟩ | ⟨rfl, rfl⟩⟩ := h
    · exact ⟨_, 0, by simp [Builtin.len_, run_underlying rt.under, goInt, World.drewN], rfl⟩
    · exact ⟨_, 0, by simp [Builtin.len_, run_underlying rt.under, goInt, World.drewN], rfl⟩
  · rename_i ht
    obtain ⟨_, _, d, rt⟩ := row hty ht
    have := desc_slice rt.desc rfl
    subst this
    refine ⟨_, e, fun μ a h w ts rt' => ?_⟩
    obtain ⟨D, hD, rfl, hl, ⟨rfl, rfl⟩ | ⟨_, _, _, rfl, _⟩⟩ := h
    · rw [ndig_len hD hl]
      exact ⟨_, 0, by simp [Builtin.len_, run_underlying rt.under, goInt, World.drewN], rfl⟩
    · rw [ndig_len hD hl]
      exact ⟨_, 0, by simp [Builtin.len_, run_underlying rt.under, goInt, World.drewN], rfl⟩
  · rename_i ht
    obtain ⟨_, _, d, rt⟩ := row hty ht
    have := desc_slice rt.desc rfl
    subst this
    refine ⟨_, e, fun μ a h w ts rt' => ?_⟩
    cases h
    exact ⟨_, 0, by simp [Builtin.len_, run_underlying rt.under, goInt, World.drewN], rfl⟩
  · rename_i ht
    obtain ⟨_, _, d, rt⟩ := row hty ht
    have := desc_slice rt.desc rfl
    subst this
    refine ⟨_, e, fun μ a h w ts rt' => ?_⟩
    obtain ⟨ad, rfl⟩ := h
    exact ⟨_, 0, by simp [Builtin.len_, run_underlying rt.under, goInt, World.drewN], rfl⟩
  · cases e
theorem max2_run {mx : Bool} {x y : V} (e : minmaxK mx x y K = some r) :
    ∃ v, K v = some r ∧ ∀ (μ : Mu) (a b : Value), RepV μ x a → RepV μ y b → ∀ (w : World), Gives P (if mx then Builtin.max2 a b else Builtin.min2 a b) μ v w := by
  unfold minmaxK at e
  split at e
  · split at e
    · rename_i hk; subst hk
      refine ⟨_, e, fun μ a b hx hy w => ?_⟩
      cases repInt hx; cases repInt hy
      cases mx
      · exact ⟨_, 0, rfl, rfl⟩
      · exact ⟨_, 0, rfl, rfl⟩
    · cases e
  · rename_i k a' k' b'
    split at e
    · rename_i hk; subst hk
      refine ⟨_, e, fun μ a b hx hy w => ?_⟩
      obtain ⟨x', rfl, rfl⟩ := repFl hx
      obtain ⟨y', rfl, rfl⟩ := repFl hy
      cases ho : k.format.order x' y' with
      | none =>
        refine ⟨.float k ((Question.nanMinMax k mx x' y').cut (w.tape w.drawn (.nanMinMax k mx x' y'))), 1, ?_, ⟨_, rfl, ?_⟩⟩
        · cases mx
          · simp only [Bool.false_eq_true, if_false, Builtin.min2, ho]; simp [choose, Sem.run]; rfl
          · simp only [if_true, Builtin.max2, ho]; simp [choose, Sem.run]; rfl
        · rw [canon_nan (isN_cut k _ _ (.inr (.inr ⟨mx, x', y', rfl⟩)))]
          cases mx <;> simp [fmax, fmin, order_canon, ho]
      | some q =>
        have hx' : isN k x' = false := by
          cases hn : isN k x'
          · rfl
          · rw [order_nan (.inl hn)] at ho; cases ho
        have hy' : isN k y' = false := by
          cases hn : isN k y'
          · rfl
          · rw [order_nan (.inr hn)] at ho; cases ho
        rw [canon_of hx', canon_of hy']
        cases mx
        · refine ⟨.float k (fmin k x' y'), 0, ?_, ⟨_, rfl, ?_⟩⟩
          · cases q <;> simp [Builtin.min2, ho, fmin, World.drewN]
          · unfold fmin; rw [ho]; cases q
            · exact canon_of hx'
            · simp only []; split; exact canon_of hx'; exact canon_of hy'
            · exact canon_of hy'
        · refine ⟨.float k (fmax k x' y'), 0, ?_, ⟨_, rfl, ?_⟩⟩
          · cases q <;> simp [Builtin.max2, ho, fmax, World.drewN]
          · unfold fmax; rw [ho]; cases q
            · exact canon_of hy'
            · simp only []; split; exact canon_of hy'; exact canon_of hx'
            · exact canon_of hx'
    · cases e
  · cases e
theorem maxs_run {mx : Bool} : ∀ {xs : List Operand} {t : List V} {x : V}, minmaxsK mx x (xs.map (ev t)) K = some r →
    ∃ v, K v = some r ∧ ∀ (ρ : Operand → Value) (μ : Mu) (a : Value), RepV μ x a → (∀ o ∈ xs, RepV μ (ev t o) (ρ o)) → ∀ (w : World), Gives P ((xs.map ρ).foldlM (if mx then Builtin.max2 else Builtin.min2) a) μ v w
  | [], t, x, e => ⟨_, e, fun ρ μ a h _ w => ⟨a, 0, rfl, h⟩⟩
  | y :: xs, t, x, e => by
    obtain ⟨z, h1, h2⟩ := max2_run (P := P) e
    obtain ⟨v, h3, h4⟩ := maxs_run h1
    refine ⟨v, h3, fun ρ μ a ha ho w => ?_⟩
    obtain ⟨c, n, h5, h6⟩ := h2 μ a (ρ y) ha (ho y (List.mem_cons_self ..)) w
    obtain ⟨c', n', h7, h8⟩ := h4 ρ μ c h6 (fun o hh => ho o (List.mem_cons_of_mem _ hh)) (w.drewN n)
    refine ⟨c', n + n', ?_, h8⟩
    simp only [List.map_cons, List.foldlM_cons, Sem.run_bind]
    have : (if mx = true then Builtin.max2 else Builtin.min2) a (ρ y) = if mx = true then Builtin.max2 a (ρ y) else Builtin.min2 a (ρ y) := by split <;> rfl
    rw [this, h5]
    simp only [Result.andThen]
    rw [h7, drewN_drewN]
end
end Go.Proofs.Ytpeplbbphpamhaa.Ab

namespace Go.Proofs.Ytpeplbbphpamhaa.Ab
set_option linter.unusedVariables false
set_option linter.unusedSimpArgs false
open Go
section
variable {P : Program} {R : Type} {K : V → Option R} {r : R}
theorem bound_run (n : Int) (y : Nat) (code : BoundsCode) (k : IntKind) (w : World) (h : 0 ≤ n ∧ n ≤ y) : (Instr.sliceBound (.int k n) y code).run P w = .ok n.toNat w := by
  simp [Instr.sliceBound, asIntOf, h]
theorem slice_run {ty : Ty} (hty : TyOk P ty) {t : TypeId} {x : V} {lo hi mx : Option V} (e : sliceK ty t x lo hi mx K = some r) :
    ∃ v, K v = some r ∧ ∀ (μ : Mu) (a : Value) (lo' hi' mx' : Option Value), RepV μ x a →
      (∀ u, lo = some u → ∃ b, lo' = some b ∧ RepV μ u b) → (lo = none → lo' = none) →
      (∀ u, hi = some u → ∃ b, hi' = some b ∧ RepV μ u b) → (hi = none → hi' = none) →
      (∀ u, mx = some u → ∃ b, mx' = some b ∧ RepV μ u b) → (mx = none → mx' = none) →
      ∀ (w : World), Gives P (Instr.sliceAt t a lo' hi' mx') μ v w := by
  unfold sliceK at e
  split at e
  · rename_i el b o len ht
    obtain ⟨_, _, d, rt⟩ := row hty ht
    have := desc_slice rt.desc rfl
    subst this
    split at e
    · rename_i I k l k' m hI hlo hhi
      obtain ⟨_, _, _, rI⟩ := row hty hI
      split at e
      · rename_i hb
        simp only [decide_eq_true_eq] at hb
        obtain ⟨b1, b2, b3⟩ := hb
        refine ⟨_, e, fun μ a lo' hi' mx' hx hl hl0 hh hh0 hm hm0 w => ?_⟩
        cases hm0 rfl
        obtain ⟨mm, ad, c, hmm, rfl, hc, hmax, had, hown⟩ := hx
        have run1 : (Instr.sliceBounds true len c lo' hi' none).run P w = .ok (l.toNat, m.toNat, c) w := by
          cases hi with
          | none =>
            cases hh0 rfl
            simp only [Option.getD_none] at hhi
            cases hhi
            cases lo with
            | none =>
              cases hl0 rfl
              simp only [Option.getD_none] at hlo
              cases hlo
              simp [Instr.sliceBounds]
            | some u =>
              simp only [Option.getD_some] at hlo
              subst hlo
              obtain ⟨bb, rfl, hr⟩ := hl _ rfl
              cases repInt hr
              have h1 := bound_run (P := P) l len .sliceB k w ⟨by omega, by omega⟩
              simp [Instr.sliceBounds, h1]
          | some u =>
            simp only [Option.getD_some] at hhi
            subst hhi
            obtain ⟨bb, rfl, hr⟩ := hh _ rfl
            cases repInt hr
            have h2 := bound_run (P := P) m c .sliceAcap k' w ⟨by omega, by omega⟩
            cases lo with
            | none =>
              cases hl0 rfl
              simp only [Option.getD_none] at hlo
              cases hlo
              simp [Instr.sliceBounds, h2]
            | some u =>
              simp only [Option.getD_some] at hlo
              subst hlo
              obtain ⟨bb, rfl, hr⟩ := hl _ rfl
              cases repInt hr
              have h1 := bound_run (P := P) l m.toNat .sliceB k w ⟨by omega, by omega⟩
              simp [Instr.sliceBounds, h2, h1]
        refine ⟨.slice (if c = l.toNat then some ad else some (ad.add (l.toNat * I.size))) (m.toNat - l.toNat) (c - l.toNat), 0, ?_, ?_⟩
        · simp only [Instr.sliceAt, Sem.run_bind, run_underlying rt.under, Result.andThen, Instr.slice, run1, rI.run_sizeOf]
          simp [World.drewN]
        · refine ⟨mm, if c = l.toNat then ad else ad.add (l.toNat * I.size), c - l.toNat, hmm, ?_, by omega, by omega, ?_, ?_⟩
          · rw [show (m - l).toNat = m.toNat - l.toNat by omega]
            split <;> rfl
          · intro h
            have hpos := rI.pos
            rcases h with h | h
            · have hne : ¬ c = l.toNat := by omega
              rw [if_neg hne, had (.inl (by omega)), addr_add, Nat.add_assoc]
            · have h1 : l.toNat * I.size = 0 := by omega
              have h2 : l.toNat = 0 := by
                rcases Nat.mul_eq_zero.1 h1 with h | h
                · exact h
                · omega
              have h3 : o = 0 := by omega
              subst h3
              rw [h2, Nat.zero_mul]
              have := had (.inr rfl)
              subst this
              split <;> simp [addr_add]
          · intro h how
            have hpos := rI.pos
            have h1 : l.toNat * I.size = 0 := by omega
            have h2 : l.toNat = 0 := by
              rcases Nat.mul_eq_zero.1 h1 with h | h
              · exact h
              · omega
            rw [h2]
            exact hown (by omega) how
      · cases e
    · cases e
  · rename_i el b len ht
    obtain ⟨_, _, d, rt⟩ := row hty ht
    have := desc_slice rt.desc rfl
    subst this
    split at e
    · rename_i I k m hI
      obtain ⟨_, _, _, rI⟩ := row hty hI
      split at e
      · rename_i hb
        simp only [decide_eq_true_eq] at hb
        refine ⟨_, e, fun μ a lo' hi' mx' hx hl hl0 hh hh0 hm hm0 w => ?_⟩
        cases hm0 rfl
        cases hl0 rfl
        obtain ⟨bb, rfl, hr⟩ := hh _ rfl
        cases repInt hr
        obtain ⟨mm, hmm, ⟨c, rfl, hc, hmax⟩ | ⟨rfl, rfl⟩⟩ := hx
        · have h2 := bound_run (P := P) m c .sliceAcap k w ⟨by omega, by omega⟩
          refine ⟨.slice (some ⟨mm.blk, mm.off, none⟩) m.toNat c, 0, ?_, ⟨mm, hmm, .inl ⟨c, rfl, by omega, hmax⟩⟩⟩
          simp only [Instr.sliceAt, Sem.run_bind, run_underlying rt.under, Result.andThen, Instr.slice]
          simp [Instr.sliceBounds, h2, rI.run_sizeOf, World.drewN, addr_add]
        · have h2 := bound_run (P := P) m 0 .sliceAcap k w ⟨by omega, by omega⟩
          refine ⟨.slice none 0 0, 0, ?_, ⟨mm, hmm, .inr ⟨by omega, rfl⟩⟩⟩
          have : m = 0 := by omega
          subst this
          simp only [Instr.sliceAt, Sem.run_bind, run_underlying rt.under, Result.andThen, Instr.slice]
          simp [Instr.sliceBounds, h2, rI.run_sizeOf, World.drewN]
      · cases e
    · cases e
  · rename_i el b o len k m ht
    obtain ⟨_, _, d, rt⟩ := row hty ht
    have := desc_slice rt.desc rfl
    subst this
    split at e
    · rename_i I k' q hI
      split at e
      · rename_i hb
        simp only [decide_eq_true_eq] at hb
        obtain ⟨rfl, rfl⟩ := hb
        obtain ⟨_, _, _, rI⟩ := row hty hI
        refine ⟨_, e, fun μ a lo' hi' mx' hx hl hl0 hh hh0 hm hm0 w => ?_⟩
        cases hl0 rfl
        obtain ⟨b1, rfl, hr1⟩ := hh _ rfl
        obtain ⟨b2, rfl, hr2⟩ := hm _ rfl
        cases repInt hr1
        cases repInt hr2
        obtain ⟨mm, ad, c, hmm, rfl, hc, hmax, had, hown⟩ := hx
        have h1 := bound_run (P := P) 0 c .slice3Acap k w ⟨by omega, by omega⟩
        have h2 := bound_run (P := P) 0 0 .slice3B k' w ⟨by omega, by omega⟩
        refine ⟨.slice (some ad) 0 0, 0, ?_, ⟨ad, rfl⟩⟩
        simp only [Instr.sliceAt, Sem.run_bind, run_underlying rt.under, Result.andThen, Instr.slice]
        simp [Instr.sliceBounds, h1, h2, rI.run_sizeOf, World.drewN]
      · cases e
    · cases e
  · rename_i el k m ht
    obtain ⟨_, _, d, rt⟩ := row hty ht
    have := desc_slice rt.desc rfl
    subst this
    split at e
    · rename_i I k' q hI
      split at e
      · rename_i hb
        simp only [decide_eq_true_eq] at hb
        obtain ⟨rfl, rfl⟩ := hb
        obtain ⟨_, _, _, rI⟩ := row hty hI
        refine ⟨_, e, fun μ a lo' hi' mx' hx hl hl0 hh hh0 hm hm0 w => ?_⟩
        cases hl0 rfl
        obtain ⟨b1, rfl, hr1⟩ := hh _ rfl
        obtain ⟨b2, rfl, hr2⟩ := hm _ rfl
        cases repInt hr1
        cases repInt hr2
        cases hx
        have h1 := bound_run (P := P) 0 0 .slice3Acap k w ⟨by omega, by omega⟩
        have h2 := bound_run (P := P) 0 0 .slice3B k' w ⟨by omega, by omega⟩
        refine ⟨.slice none 0 0, 0, ?_, rfl⟩
        simp only [Instr.sliceAt, Sem.run_bind, run_underlying rt.under, Result.andThen, Instr.slice]
        simp [Instr.sliceBounds, h1, h2, rI.run_sizeOf, World.drewN]
      · cases e
    · cases e
  · cases e
end
end Go.Proofs.Ytpeplbbphpamhaa.Ab

namespace Go.Proofs.Ytpeplbbphpamhaa.Ab
set_option linter.unusedVariables false
set_option linter.unusedSimpArgs false
open Go
theorem foldl_lay (off : Nat) : ∀ (cs : List Value) (j : Nat) (cells : Array Value), off + j + cs.length ≤ cells.size →
    ((cs.zipIdx j).foldl (fun (acc : Array Value) (p : Value × Nat) => acc.setIfInBounds (off + p.2) p.1) cells).toList =
      cells.toList.take (off + j) ++ cs ++ cells.toList.drop (off + j + cs.length)
  | [], j, cells, _ => by simp
  | c :: cs, j, cells, h => by
    simp only [List.length_cons] at h
    simp only [List.zipIdx_cons, List.foldl_cons]
    rw [foldl_lay off cs (j + 1) _ (by simp; omega)]
    simp only [Array.toList_setIfInBounds, List.length_cons]
    have h1 : off + (j + 1) = off + j + 1 := by omega
    have h2 : off + j + 1 + cs.length = off + j + (cs.length + 1) := by omega
    rw [h1, h2, List.take_set, List.drop_set_of_lt (by omega)]
    have hlt : off + j < cells.toList.length := by simp; omega
    rw [List.take_succ_eq_append_getElem hlt, List.set_append_right _ _ (by simp; omega), List.length_take, Nat.min_eq_left (by omega), Nat.sub_self]
    simp
theorem fill_rep {μ : Mu} {place place' : Nat → Option (Nat × Nat)} (hpl : ∀ i p, place i = some p → place' i = some p) : ∀ {ps : List (Nat × V)} {qs : List (Nat × Value)} {cells l : List A} {cs : List Value},
    fillA place cells ps = some l → RepAs μ cells cs → ps.map (·.1) = qs.map (·.1) → RepVs μ (ps.map (·.2)) (qs.map (·.2)) →
    ∃ cs', Instr.fill place' ⟨cs⟩ qs = some ⟨cs'⟩ ∧ RepAs μ l cs'
  | [], [], cells, l, cs, e, h, _, _ => by cases e; exact ⟨cs, rfl, h⟩
  | (i, v) :: ps, (i', cv) :: qs, cells, l, cs, e, h, hi, hv => by
    simp only [List.map_cons, List.cons.injEq] at hi
    obtain ⟨rfl, hi⟩ := hi
    obtain ⟨hv1, hv2⟩ := hv
    simp only [fillA] at e
    split at e
    · rename_i off x hp
      split at e
      · rename_i hlt
        have ha : RepA μ x cv := hv1
        have hc := ha.one.2
        obtain ⟨cs', h1, h2⟩ := fill_rep hpl (qs := qs) e (h.set ha off) hi hv2
        refine ⟨cs', ?_, h2⟩
        have hl := h.len
        simp only [Instr.fill, hpl _ _ hp, hc]
        simp only [List.size_toArray, List.length_cons, List.length_nil, Nat.zero_add, ne_eq, not_true, decide_false, Bool.false_or]
        rw [if_neg (by simp; omega)]
        rw [← h1]
        simp
      · cases e
    · rename_i off n m hp
      split at e
      · rename_i hlt
        obtain ⟨ds, rfl, hd⟩ := hv1
        have hl := h.len
        have hdl := hd.len
        obtain ⟨h3, h4⟩ := hlt
        obtain ⟨cs', h1, h2⟩ := fill_rep hpl (qs := qs) e (((h.take off).append hd).append (h.drop (off + n))) hi hv2
        refine ⟨cs', ?_, h2⟩
        have hcond : (decide ((Value.agg ⟨ds⟩).cells.size ≠ n) || decide (off + (Value.agg ⟨ds⟩).cells.size > (⟨cs⟩ : Array Value).size)) = false := by
          show (decide (ds.length ≠ n) || decide (off + ds.length > cs.length)) = false
          simp; omega
        simp only [Instr.fill, hpl _ _ hp]
        rw [hcond]
        simp only [Bool.false_eq_true, if_false]
        rw [← h1]
        congr 1
        apply Array.toList_inj.1
        have := foldl_lay off ds 0 ⟨cs⟩ (by simp; omega)
        simp only [Nat.add_zero] at this
        rw [show off + n = off + ds.length by omega]
        have hcells : (Value.agg ⟨ds⟩).cells = ⟨ds⟩ := rfl
        rw [hcells]
        simpa using this
      · cases e
    · cases e
  | [], _ :: _, _, _, _, _, _, hi, _ => by simp at hi
  | _ :: _, [], _, _, _, _, _, hi, _ => by simp at hi
section
variable {P : Program} {R : Type} {K : V → Option R} {r : R}
theorem mapM_sizes {ty : Ty} (hty : TyOk P ty) : ∀ (gs : List Field) (w : World), (∀ g ∈ gs, ∃ I, ty g.type = some I) →
    ∃ ps : List (Nat × Nat), (gs.mapM fun (f : Field) => do pure (f.offset, ← sizeOf f.type)).run P w = .ok ps w ∧ ps.length = gs.length ∧
      ∀ (i : Nat) (g : Field) (I : TyI), gs[i]? = some g → ty g.type = some I → ps[i]? = some (g.offset, I.size)
  | [], w, _ => ⟨[], by simp, rfl, fun i g I h => by simp at h⟩
  | g :: gs, w, h => by
    obtain ⟨I, hI⟩ := h g (List.mem_cons_self ..)
    obtain ⟨_, _, _, rI⟩ := row hty hI
    obtain ⟨ps, h1, h2, h3⟩ := mapM_sizes hty gs w (fun g hg => h g (List.mem_cons_of_mem _ hg))
    refine ⟨(g.offset, I.size) :: ps, ?_, by simp [h2], fun i g' I' hi hI' => ?_⟩
    · simp only [List.mapM_cons, Sem.run_bind, rI.run_sizeOf, Result.andThen, Sem.run_pure, h1]
    · cases i with
      | zero => simp at hi; subst hi; rw [hI] at hI'; cases hI'; rfl
      | succ i => simp at hi; simpa using h3 i g' I' hi hI'
theorem RepVs_of {μ : Mu} {t : List V} {ρ : Operand → Value} : ∀ {xs : List Operand}, (∀ o ∈ xs, RepV μ (ev t o) (ρ o)) → RepVs μ (xs.map (ev t)) (xs.map ρ)
  | [], _ => trivial
  | x :: xs, h => ⟨h x (List.mem_cons_self ..), RepVs_of fun o ho => h o (List.mem_cons_of_mem _ ho)⟩
theorem build_run {ty : Ty} (hty : TyOk P ty) {t : List V} {h : H} {bt : TypeId} {parts : Array (Nat × Operand)} (e : quietK ty t h (.build bt parts) K = some r) :
    ∃ v, K v = some r ∧ ∀ (μ : Mu) (ρ : Operand → Value), (∀ o ∈ parts.toList.map (·.2), RepV μ (ev t o) (ρ o)) → ∀ (w : World), Gives P (Instr.build bt (parts.map fun (i, x) => (i, ρ x))) μ v w := by
  have toParts : ∀ ρ : Operand → Value, (parts.map fun (i, x) => (i, ρ x)).toList = parts.toList.map fun p => (p.1, ρ p.2) := fun ρ => by simp
  simp only [quietK] at e
  split at e
  · rename_i zero fs ht
    obtain ⟨_, z, d, rt⟩ := row hty ht
    obtain ⟨gs, rfl, hgs⟩ := desc_struct rt.desc rfl
    split at e
    · cases e
    · rename_i hall
      split at e
      · rename_i l hl
        refine ⟨_, e, fun μ ρ ho w => ?_⟩
        have hall' : ∀ g ∈ gs.toList, ∃ I, ty g.type = some I := by
          intro g hg
          rw [List.all_eq_true] at hall
          have := hall (g.offset, g.type) (by rw [hgs]; exact List.mem_map.2 ⟨g, hg, rfl⟩)
          exact Option.isSome_iff_exists.1 this
        obtain ⟨ps, h3, h4, h5⟩ := mapM_sizes hty gs.toList w hall'
        have hpl : ∀ i p, placeOf ty fs i = some p → ps[i]? = some p := by
          intro i p hp
          unfold placeOf at hp
          split at hp
          · rename_i o e' hf
            split at hp
            · rename_i I hI
              cases hp
              rw [hgs] at hf
              simp only [List.getElem?_map, Option.map_eq_some_iff] at hf
              obtain ⟨g, hg, hgg⟩ := hf
              cases hgg
              exact h5 i g I (by simpa using hg) hI
            · cases hp
          · cases hp
        obtain ⟨cs, h1, h2⟩ := fill_rep (place' := fun i => ps[i]?) hpl (μ := μ) (qs := parts.toList.map fun p => (p.1, ρ p.2)) hl (rt.rep μ) (by simp) (by
          have := RepVs_of ho
          simp only [List.map_map] at this ⊢
          exact this)
        refine ⟨.agg ⟨cs⟩, 0, ?_, ⟨cs, rfl, h2⟩⟩
        simp only [Instr.build, Sem.run_bind, rt.run_zero, Result.andThen, run_underlying rt.under, Array.mapM_eq_mapM_toList, Sem.run_map, h3]
        rw [toParts]
        have h1' : Instr.fill (fun x => ps[x]?) z.cells (parts.toList.map fun p => (p.1, ρ p.2)) = some ⟨cs⟩ := h1
        simp [h1', World.drewN]
      · cases e
  · rename_i zero n el ht
    obtain ⟨_, z, d, rt⟩ := row hty ht
    have := desc_array rt.desc rfl
    subst this
    split at e
    · rename_i I hI
      obtain ⟨_, _, _, rI⟩ := row hty hI
      split at e
      · rename_i l hl
        refine ⟨_, e, fun μ ρ ho w => ?_⟩
        obtain ⟨cs, h1, h2⟩ := fill_rep (fun _ _ h => h) (μ := μ) (qs := parts.toList.map fun p => (p.1, ρ p.2)) hl (rt.rep μ) (by simp) (by
          have := RepVs_of ho
          simp only [List.map_map] at this ⊢
          exact this)
        refine ⟨.agg ⟨cs⟩, 0, ?_, ⟨cs, rfl, h2⟩⟩
        simp only [Instr.build, Sem.run_bind, rt.run_zero, Result.andThen, run_underlying rt.under, rI.run_sizeOf]
        rw [toParts]
        simp [h1, World.drewN]
      · cases e
    · cases e
  · cases e
end
end Go.Proofs.Ytpeplbbphpamhaa.Ab

namespace Go.Proofs.Ytpeplbbphpamhaa.Ab
set_option linter.unusedVariables false
set_option linter.unusedSimpArgs false
open Go
section
variable {P : Program} {R : Type} {K : V → Option R} {r : R}
def GivesN (P : Program) (s : Sem Next) (μ : Mu) (v : V) (w : World) : Prop := ∃ cv n, s.run P w = .ok (.value cv) (w.drewN n) ∧ RepV μ v cv
theorem Gives.next {s : Sem Value} {μ : Mu} {v : V} {w : World} (h : Gives P s μ v w) : GivesN P (do pure (Next.value (← s)) : Sem Next) μ v w := by
  obtain ⟨cv, n, h1, h2⟩ := h
  exact ⟨cv, n, by simp [h1], h2⟩
theorem GivesN.ofRep {μ : Mu} {v : V} {cv : Value} (h : RepV μ v cv) (w : World) : GivesN P (Pure.pure (Next.value cv)) μ v w := ⟨cv, 0, rfl, h⟩
theorem absA_rep {μ : Mu} {v : Value} {x : A} (h : absA v = some x) : RepA μ x v := by
  unfold absA at h
  split at h <;> cases h
  · rfl
  · rfl
  · exact ⟨_, rfl, rfl⟩
  · exact ⟨_, _, rfl, rfl, rfl⟩
  · rfl
  · rfl
theorem absAs_rep {μ : Mu} : ∀ {vs : List Value} {l : List A}, optMap absA vs = some l → RepAs μ l vs
  | [], l, e => by cases e; trivial
  | v :: vs, l, e => by
    obtain ⟨y, m, h1, h2, rfl⟩ := optMap_cons e
    exact ⟨absA_rep h1, absAs_rep h2⟩
theorem absV_rep (μ : Mu) (v : Value) : RepV μ (absV v) v := by
  unfold absV
  split
  · split
    · exact ⟨_, rfl, absAs_rep ‹_›⟩
    · trivial
  · split
    · exact absA_rep ‹_›
    · trivial
def Slots (μ : Mu) (t : List V) (a : Act) : Prop := a.tmps.size = t.length ∧ ∀ i, RepV μ (nth t i) (a.tmps.getD i undef)
theorem ev_rep {μ : Mu} {t : List V} {a : Act} (h : Slots μ t a) (x : Operand) : RepV μ (ev t x) (a.eval x) := by
  cases x with
  | tmp n => exact h.2 n
  | const v => exact absV_rep μ v
  | global g => trivial
  | func f => exact rfl
set_option maxHeartbeats 1000000 in
theorem quiet_run {ty : Ty} (hty : TyOk P ty) {t : List V} {h : H} {o : Oper} {op : Op} (ho : o.op = op) (e : quietK ty t h op K = some r) :
    ∃ v, K v = some r ∧ ∀ (μ : Mu) (ρ : Operand → Value), (∀ x ∈ op.operands.toList, RepV μ (ev t x) (ρ x)) → ∀ (w : World) (h2 : H), Agree h h2 → Rel μ h2 w → GivesN P (execOp ρ o) μ v w := by
  have E : ∀ ρ, execOp ρ o = execOp ρ { o with op := op } := fun ρ => by rw [← ho]
  simp only [E]
  clear E
  unfold quietK at e
  split at e
  · exact ⟨_, e, fun μ ρ hρ w h2' ha2 hr => GivesN.ofRep (hρ _ (by simp [Op.operands])) w⟩
  · exact ⟨_, e, fun μ ρ hρ w h2' ha2 hr => GivesN.ofRep (hρ _ (by simp [Op.operands])) w⟩
  · -- pick
    rename_i c a b
    split at e
    · rename_i p hc
      split at e
      · refine ⟨_, e, fun μ ρ hρ w h2' ha2 hr => ?_⟩
        have h1 := hρ c (by simp [Op.operands])
        rw [hc] at h1
        have h2 := repBool h1
        refine ⟨ρ a, 0, ?_, hρ a (by simp [Op.operands])⟩
        simp [execOp, h2, asBool, World.drewN]
      · refine ⟨_, e, fun μ ρ hρ w h2' ha2 hr => ?_⟩
        have h1 := hρ c (by simp [Op.operands])
        rw [hc] at h1
        have h2 := repBool h1
        refine ⟨ρ b, 0, ?_, hρ b (by simp [Op.operands])⟩
        simp [execOp, h2, asBool, World.drewN]
    · cases e
  · -- binOp
    obtain ⟨v, h1, h2⟩ := bin_run hty e
    exact ⟨v, h1, fun μ ρ hρ w h2' ha2 hr => (h2 μ _ _ (hρ _ (by simp [Op.operands])) (hρ _ (by simp [Op.operands])) w _ _).next⟩
  · obtain ⟨v, h1, h2⟩ := un_run (P := P) e
    exact ⟨v, h1, fun μ ρ hρ w h2' ha2 hr => (h2 μ _ (hρ _ (by simp [Op.operands])) w).next⟩
  · obtain ⟨v, h1, h2⟩ := conv_run hty e
    exact ⟨v, h1, fun μ ρ hρ w h2' ha2 hr => (h2 μ _ (hρ _ (by simp [Op.operands])) w).next⟩
  · -- extract
    rename_i x i
    split at e
    · rename_i l hx
      split at e
      · rename_i u hu
        refine ⟨_, e, fun μ ρ hρ w h2' ha2 hr => ?_⟩
        have h1 := hρ x (by simp [Op.operands])
        rw [hx] at h1
        obtain ⟨cs, h2, h3⟩ := h1
        have key : ∀ {l : List U} {cs : List Value}, RepUs μ l cs → ∀ {i : Nat} {u : U}, l[i]? = some u → ∃ cv, cs[i]? = some cv ∧ RepU μ u cv := by
          intro l
          induction l with
          | nil => intro cs _ i u h; simp at h
          | cons y l ih =>
            intro cs h i u hu
            cases cs with
            | nil => exact h.elim
            | cons c cs =>
              cases i with
              | zero => simp at hu; subst hu; exact ⟨c, rfl, h.1⟩
              | succ i => simp at hu; obtain ⟨cv, h4, h5⟩ := ih h.2 hu; exact ⟨cv, by simpa using h4, h5⟩
        obtain ⟨cv, h4, h5⟩ := key h3 hu
        refine ⟨cv, 0, ?_, h5⟩
        simp [execOp, h2, Instr.extract, h4, World.drewN]
      · cases e
    · cases e
  · -- field
    rename_i xt x f
    split at e
    · rename_i l oo I hx hf
      obtain ⟨gs, g, i, z, d, hu, hg, hgo, rI⟩ := fieldOf_row hty hf
      obtain ⟨v, h1, h2⟩ := part_run rI e
      refine ⟨v, h1, fun μ ρ hρ w h2' ha2 hr => ?_⟩
      have h3 := hρ x (by simp [Op.operands])
      rw [hx] at h3
      obtain ⟨cs, h4, h5⟩ := h3
      obtain ⟨cv, n, h6, h7⟩ := h2 μ cs h5 w
      refine ⟨cv, n, ?_, h7⟩
      simp [execOp, h4, Instr.field, run_underlying hu, hg, asAgg, hgo, h6]
    · cases e
  · obtain ⟨v, h1, h2⟩ := idx_run hty e
    exact ⟨v, h1, fun μ ρ hρ w h2' ha2 hr => (h2 μ _ _ (hρ _ (by simp [Op.operands])) (hρ _ (by simp [Op.operands])) w).next⟩
  · -- fieldAddr
    rename_i s x f
    split at e
    · rename_i bi oo p I hx hf
      split at e
      · cases e
      · rename_i hsz
        obtain ⟨gs, g, i, z, d, hu, hg, hgo, rI⟩ := fieldOf_row hty hf
        refine ⟨_, e, fun μ ρ hρ w h2' ha2 hr => ?_⟩
        have h3 := hρ x (by simp [Op.operands])
        rw [hx] at h3
        obtain ⟨m, hm, h4⟩ := h3
        refine ⟨.pointer (some ⟨m.blk, m.off + oo + p, none⟩), 0, ?_, ⟨m, hm, by rw [Nat.add_assoc]⟩⟩
        have hpos := rI.pos
        have hne : ¬ I.size = 0 := by omega
        simp [execOp, h4, Instr.fieldAt, Instr.sureAddr, run_underlying hu, hg, fieldPlace, rI.run_sizeOf, hne, addr_add, hgo, World.drewN]
    · cases e
  · obtain ⟨v, h1, h2⟩ := idxAddr_run hty e
    exact ⟨v, h1, fun μ ρ hρ w h2' ha2 hr => (h2 μ _ _ (hρ _ (by simp [Op.operands])) (hρ _ (by simp [Op.operands])) w).next⟩
  · obtain ⟨v, h1, h2⟩ := load_run hty e
    exact ⟨v, h1, fun μ ρ hρ w h2' ha2 hr => (h2 μ _ (hρ _ (by simp [Op.operands])) w h2' ha2 hr).next⟩
  · -- nilCheck
    rename_i x
    split at e
    · rename_i bi oo hx
      refine ⟨_, e, fun μ ρ hρ w h2' ha2 hr => ?_⟩
      have h3 := hρ x (by simp [Op.operands])
      rw [hx] at h3
      obtain ⟨m, hm, h4⟩ := h3
      refine ⟨ρ x, 0, ?_, ⟨m, hm, h4⟩⟩
      simp [execOp, h4, World.drewN]
    · cases e
  · -- slice
    rename_i xt x lo hi mx
    obtain ⟨v, h1, h2⟩ := slice_run hty e
    refine ⟨v, h1, fun μ ρ hρ w h2' ha2 hr => Gives.next (h2 μ _ (lo.map ρ) (hi.map ρ) (mx.map ρ) (hρ _ (by simp [Op.operands])) ?_ ?_ ?_ ?_ ?_ ?_ w)⟩
    · intro u hu; simp only [Option.map_eq_some_iff] at hu; obtain ⟨q, rfl, rfl⟩ := hu; exact ⟨_, rfl, hρ _ (by simp [Op.operands])⟩
    · intro hu; cases lo with | none => rfl | some _ => cases hu
    · intro u hu; simp only [Option.map_eq_some_iff] at hu; obtain ⟨q, rfl, rfl⟩ := hu; exact ⟨_, rfl, hρ _ (by simp [Op.operands])⟩
    · intro hu; cases hi with | none => rfl | some _ => cases hu
    · intro u hu; simp only [Option.map_eq_some_iff] at hu; obtain ⟨q, rfl, rfl⟩ := hu; exact ⟨_, rfl, hρ _ (by simp [Op.operands])⟩
    · intro hu; cases mx with | none => rfl | some _ => cases hu
  · -- build
    obtain ⟨v, h1, h2⟩ := build_run (h := h) hty (t := t) (K := K) (by unfold quietK; exact e)
    exact ⟨v, h1, fun μ ρ hρ w h2' ha2 hr => (h2 μ ρ (fun x hx => hρ x (by simpa [Op.operands] using hx)) w).next⟩
  · -- makeFunc
    exact ⟨_, e, fun μ ρ hρ w h2' ha2 hr => ⟨_, 0, rfl, by show Value.func _ _ _ = _; simp⟩⟩
  · -- len
    rename_i x lt ts
    obtain ⟨v, h1, h2⟩ := len_run hty e
    refine ⟨v, h1, fun μ ρ hρ w h2' ha2 hr => ?_⟩
    have h3 := h2 μ _ (hρ x (by simp [Op.operands, Call.operands])) w ts o.type
    simp only [BigFrame.execOp_builtin, BigFrame.builtin_len, List.map_toArray, List.map_cons, List.map_nil]
    exact h3.next
  · -- max
    rename_i x xs ts
    obtain ⟨v, h1, h2⟩ := maxs_run (mx := true) (P := P) e
    refine ⟨v, h1, fun μ ρ hρ w h2' ha2 hr => ?_⟩
    have h3 := h2 ρ μ _ (hρ x (by simp [Op.operands, Call.operands])) (fun o ho => hρ o (by simp [Op.operands, Call.operands, ho])) w
    simp only [BigFrame.execOp_builtin, BigFrame.builtin_max]
    refine Gives.next ?_
    simpa [Builtin.max_] using h3
  · -- min
    rename_i x xs ts
    obtain ⟨v, h1, h2⟩ := maxs_run (mx := false) (P := P) e
    refine ⟨v, h1, fun μ ρ hρ w h2' ha2 hr => ?_⟩
    have h3 := h2 ρ μ _ (hρ x (by simp [Op.operands, Call.operands])) (fun o ho => hρ o (by simp [Op.operands, Call.operands, ho])) w
    simp only [BigFrame.execOp_builtin, BigFrame.builtin_min]
    refine Gives.next ?_
    simpa [Builtin.min_] using h3
  · -- complex
    rename_i x y ts
    split at e
    · rename_i k a k' b hx hy
      split at e
      · rename_i hk; subst hk
        refine ⟨_, e, fun μ ρ hρ w h2' ha2 hr => ?_⟩
        have h1 := hρ x (by simp [Op.operands, Call.operands])
        have h2 := hρ y (by simp [Op.operands, Call.operands])
        rw [hx] at h1
        rw [hy] at h2
        obtain ⟨x', h3, rfl⟩ := repFl h1
        obtain ⟨y', h4, rfl⟩ := repFl h2
        simp only [BigFrame.execOp_builtin, BigFrame.builtin_complex, List.map_toArray, List.map_cons, List.map_nil]
        rw [h3, h4]
        exact Gives.next (v := .cx k (canon k x') (canon k y')) ⟨_, 0, run_complex w ts o.type k x' y', ⟨x', y', rfl, rfl, rfl⟩⟩
      · cases e
    · cases e
  · -- real
    rename_i x ts
    split at e
    · rename_i k a b hx
      refine ⟨_, e, fun μ ρ hρ w h2' ha2 hr => ?_⟩
      have h1 := hρ x (by simp [Op.operands, Call.operands])
      rw [hx] at h1
      obtain ⟨x', y', h3, rfl, rfl⟩ := repCx h1
      simp only [BigFrame.execOp_builtin, BigFrame.builtin_real, List.map_toArray, List.map_cons, List.map_nil]
      rw [h3]
      exact Gives.next (v := .fl k (canon k x')) ⟨_, 0, run_real w ts o.type k x' y', ⟨x', rfl, rfl⟩⟩
    · cases e
  · -- imag
    rename_i x ts
    split at e
    · rename_i k a b hx
      refine ⟨_, e, fun μ ρ hρ w h2' ha2 hr => ?_⟩
      have h1 := hρ x (by simp [Op.operands, Call.operands])
      rw [hx] at h1
      obtain ⟨x', y', h3, rfl, rfl⟩ := repCx h1
      simp only [BigFrame.execOp_builtin, BigFrame.builtin_imag, List.map_toArray, List.map_cons, List.map_nil]
      rw [h3]
      exact Gives.next (v := .fl k (canon k y')) ⟨_, 0, run_imag w ts o.type k x' y', ⟨y', rfl, rfl⟩⟩
    · cases e
  · cases e
end
end Go.Proofs.Ytpeplbbphpamhaa.Ab

namespace Go.Proofs.Ytpeplbbphpamhaa.Ab
set_option linter.unusedVariables false
set_option linter.unusedSimpArgs false
open Go
structure Ev (μ : Mu) (h : H) (w : World) (μ' : Mu) (h' : H) (w' : World) : Prop where
  rel : Rel μ' h' w'
  pre : Pre μ μ'
  fr : Fr (Wr μ h) w w'
  old : ∀ (j : Nat) (rw : Bool) (c : C), j < μ.l.length → h'[j]? = some (.at rw c) → ∃ d, h[j]? = some (.at rw d) ∧ (c.live rw → d.live rw)
  new : ∀ (i : Nat) (m : M) (rw : Bool) (c : C), μ.l.length ≤ i → μ'.l[i]? = some m → h'[i]? = some (.at rw c) → rw = true ∧ (Wr μ h m.blk ∨ w.heap.size ≤ m.blk)
  zn : ∀ (k : Nat) (cur : Array Value), μ'.z k = some cur → μ.z k = some cur ∨ Wr μ h k ∨ w.heap.size ≤ k
theorem Pre.len {a b : Mu} (h : Pre a b) : a.l.length ≤ b.l.length := by obtain ⟨_, x, hx⟩ := h; rw [hx]; simp
theorem Pre.back {a b : Mu} (h : Pre a b) {i : Nat} {m : M} (hi : i < a.l.length) (e : b.l[i]? = some m) : a.l[i]? = some m := by
  obtain ⟨_, x, hx⟩ := h
  rwa [hx, List.getElem?_append_left hi] at e
theorem Ev.wr {μ μ' : Mu} {h h' : H} {w w' : World} (e : Ev μ h w μ' h' w') {k : Nat} (hk : Wr μ' h' k) : Wr μ h k ∨ w.heap.size ≤ k := by
  obtain ⟨i, m, c, h1, h2, rfl⟩ := hk
  by_cases hi : i < μ.l.length
  · obtain ⟨d, hd, _⟩ := e.old i true c hi h2
    exact .inl ⟨i, m, d, e.pre.back hi h1, hd, rfl⟩
  · exact (e.new i m true c (by omega) h1 h2).2
theorem Ev.refl {μ : Mu} {h : H} {w : World} (r : Rel μ h w) : Ev μ h w μ h w :=
  ⟨r, .refl μ, .refl _ w, fun j rw c _ hj => ⟨c, hj, id⟩, fun i m rw c hi hm _ => absurd (getElem?_lt hm) (by omega), fun _ _ h => .inl h⟩
theorem Ev.trans {μ μ1 μ2 : Mu} {h h1 h2 : H} {w w1 w2 : World} (e : Ev μ h w μ1 h1 w1) (f : Ev μ1 h1 w1 μ2 h2 w2) : Ev μ h w μ2 h2 w2 where
  rel := f.rel
  pre := e.pre.trans f.pre
  fr := e.fr.trans f.fr fun _ hk => e.wr hk
  old j rw c hj hb := by
    obtain ⟨d, hd, hl⟩ := f.old j rw c (Nat.lt_of_lt_of_le hj e.pre.len) hb
    obtain ⟨d', hd', hl'⟩ := e.old j rw d hj hd
    exact ⟨d', hd', fun h => hl' (hl h)⟩
  new i m rw c hi hm hb := by
    by_cases hlt : i < μ1.l.length
    · obtain ⟨d, hd, _⟩ := f.old i rw c hlt hb
      exact e.new i m rw d hi (f.pre.back hlt hm) hd
    · obtain ⟨h3, h4⟩ := f.new i m rw c (by omega) hm hb
      refine ⟨h3, ?_⟩
      rcases h4 with h4 | h4
      · exact e.wr h4
      · exact .inr (Nat.le_trans e.fr.size h4)
  zn k cur hk := by
    rcases f.zn k cur hk with h3 | h3 | h3
    · exact e.zn k cur h3
    · exact .inr (e.wr h3)
    · exact .inr (.inr (Nat.le_trans e.fr.size h3))
theorem Ev.drewN {μ : Mu} {h : H} {w : World} (r : Rel μ h w) (n : Nat) : Ev μ h w μ h (w.drewN n) :=
  ⟨r.drewN n, .refl μ, .drewN _ w n, fun j rw c _ hj => ⟨c, hj, id⟩, fun i m rw c hi hm _ => absurd (getElem?_lt hm) (by omega), fun _ _ h => .inl h⟩
theorem Ev.alloc {μ : Mu} {h : H} {w : World} (r : Rel μ h w) (c : C) (el : TypeId) (cur : Array Value)
    (hc : ∀ j x, c.get? j = some x → ∃ cv, cur[j]? = some cv ∧ RepA μ x cv) :
    Ev μ h w (μ.app [⟨w.heap.size, 0, true, cur.size, c.esz, el⟩]) (h ++ [.at true c]) (w.alloc (.cells cur el)) := by
  refine ⟨r.new c _ cur rfl fun j x hx => ?_, .app μ _, .alloc _ w _, fun j rw c' hj hb => ?_, fun i m rw c' hi hm hb => ?_, fun _ _ h => .inl h⟩
  · obtain ⟨cv, h1, h2⟩ := hc j x hx
    exact ⟨cv, h1, h2.pre (.app μ _)⟩
  · rw [List.getElem?_append_left (by rw [← r.len]; exact hj)] at hb
    exact ⟨c', hb, id⟩
  · have hlt := getElem?_lt hm
    simp at hlt
    have hi' : i = μ.l.length := by omega
    subst hi'
    simp at hm
    subst hm
    rw [r.len] at hb
    simp at hb
    exact ⟨hb.1, .inr (Nat.le_refl _)⟩
def Goes (μ : Mu) (h : H) (w : World) (v : V) (h' : H) (cv : Value) (w' : World) : Prop := ∃ μ', Ev μ h w μ' h' w' ∧ RepV μ' v cv
theorem Ev.pick {μ0 μ : Mu} {h0 h g : H} {w0 w : World} (e : Ev μ0 h0 w0 μ h w) {ids p : List Nat} (hids : ids = List.range μ0.l.length ++ p) (hn : ids.Nodup) (hs : subH h ids = some g) :
    Ev μ0 h0 w0 (pick μ ids) g w ∧ Sub ids μ (pick μ ids) := by
  have hsub := pick_sub μ ids
  have hk : ∀ j, j < μ0.l.length → ids[j]? = some j := by
    intro j hj
    rw [hids, List.getElem?_append_left (by simpa using hj), List.getElem?_range hj]
  have hμ : μ0.l.length ≤ μ.l.length := e.pre.len
  refine ⟨⟨e.rel.sub hn hs, ?_, e.fr, ?_, ?_, e.zn⟩, hsub⟩
  · -- the first blocks
    refine ⟨e.pre.1, (Ab.pick μ ids).l.drop μ0.l.length, ?_⟩
    have h1 : (Ab.pick μ ids).l.take μ0.l.length = μ0.l := by
      apply List.ext_getElem?
      intro j
      rw [List.getElem?_take]
      split
      · rename_i hj
        have h2 := hk j hj
        have h3 : μ.l[j]? = some μ.l[j] := List.getElem?_eq_getElem (by omega)
        rw [hsub.2 j j _ h2 h3, ← h3]
        obtain ⟨_, x, hx⟩ := e.pre
        rw [hx, List.getElem?_append_left hj]
      · rename_i hj
        rw [List.getElem?_eq_none (by omega)]
    conv => lhs; rw [← List.take_append_drop μ0.l.length (Ab.pick μ ids).l, h1]
  · intro j rw c hj hb
    obtain ⟨i, hi, hb'⟩ := optMap_inv hs j _ hb
    rw [hk j hj] at hi
    cases hi
    obtain ⟨c', hc', _, hc2⟩ := renAt_at hb'
    obtain ⟨d, hd, hl⟩ := e.old j rw c' hj hc'
    exact ⟨d, hd, fun h => hl (h.imp id fun ⟨p, x, hx⟩ => (hc2 p x hx).elim fun y hy => ⟨p, y, hy.1⟩)⟩
  · intro j m rw c hj hm hb
    obtain ⟨i, hi, hb'⟩ := optMap_inv hs j _ hb
    obtain ⟨c', hc', _⟩ := renAt_at hb'
    have hlt : i < μ.l.length := by rw [e.rel.len]; exact getElem?_lt hc'
    have h3 : μ.l[i]? = some μ.l[i] := List.getElem?_eq_getElem hlt
    rw [hsub.2 j i _ hi h3] at hm
    cases hm
    refine e.new i _ rw c' ?_ h3 hc'
    by_cases hlt' : i < μ0.l.length
    · have h4 := List.getElem?_eq_some_iff.1 (hk i hlt')
      have h5 := List.getElem?_eq_some_iff.1 hi
      have := (List.getElem_inj hn).1 (h4.2.trans h5.2.symm)
      omega
    · omega
theorem Ev.set {μ : Mu} {h : H} {w w' : World} {i : Nat} {m : M} {c c' : C} (r : Rel μ h w) (hm : μ.l[i]? = some m) (hb : h[i]? = some (.at true c)) {cur' : Array Value}
    (hes : c'.esz = c.esz) (hw : Fr (fun k => k = m.blk) w w') (hh : w'.heap[m.blk]? = some (.cells cur' m.el (0, 0))) (hsz : cur'.size = m.size)
    (hc : ∀ j x, c'.get? j = some x → ∃ cv, cur'[j]? = some cv ∧ RepA μ x cv) : Ev μ h w μ (h.set i (.at true c')) w' := by
  have hi : i < h.length := getElem?_lt hb
  have get : ∀ (j : Nat) (b : B), (h.set i (.at true c'))[j]? = some b → (j = i ∧ b = .at true c') ∨ (j ≠ i ∧ h[j]? = some b) := by
    intro j b hj
    by_cases e : i = j
    · subst e
      rw [List.getElem?_set_self hi] at hj
      cases hj
      exact .inl ⟨rfl, rfl⟩
    · rw [List.getElem?_set_ne e] at hj
      exact .inr ⟨fun h => e h.symm, hj⟩
  obtain ⟨ho1, ho2, ho3, _⟩ := r.own i m c hm hb
  have other : ∀ (j : Nat) (n : M) (rw : Bool) (d : C), j ≠ i → μ.l[j]? = some n → h[j]? = some (.at rw d) → d.live rw → n.blk ≠ m.blk :=
    fun j n rw d hj hn hd hl => fun e => r.sep i j m n c rw d (fun e => hj e.symm) hm hn hb hd hl e.symm
  refine ⟨⟨by simp [r.len], ?_, ?_, ?_, ?_, ?_⟩, .refl μ, hw.mono fun k hk => ⟨i, m, c, hm, hb, hk.symm⟩, ?_, ?_, fun _ _ h => .inl h⟩
  · intro j n rw d hn hd p x hx
    rcases get j _ hd with ⟨rfl, e⟩ | ⟨hj, hd⟩
    · cases e
      rw [hm] at hn
      cases hn
      obtain ⟨cv, h1, h2⟩ := hc p x hx
      refine ⟨cv, ?_, h2⟩
      rw [ho2]
      simp only [World.cell?, hh, Nat.zero_add]
      simpa using h1
    · obtain ⟨cv, h1, h2⟩ := r.cell j n rw d hn hd p x hx
      exact ⟨cv, (cell_of_block (hw.block n.blk (r.lt j n rw d hn hd (.inr ⟨p, x, hx⟩)) (other j n rw d hj hn hd (.inr ⟨p, x, hx⟩)))).trans h1, h2⟩
  · intro j n d hn hd
    rcases get j _ hd with ⟨rfl, e⟩ | ⟨hj, hd⟩
    · rw [hm] at hn
      cases hn
      cases e
      exact ⟨ho1, ho2, by rw [hes]; exact ho3, cur', hh, hsz⟩
    · obtain ⟨h1, h2, h5, cur, h3, h4⟩ := r.own j n d hn hd
      exact ⟨h1, h2, h5, cur, (hw.block n.blk (r.lt j n _ d hn hd (.inl rfl)) (other j n _ d hj hn hd (.inl rfl))).trans h3, h4⟩
  · intro j n rw d hn hd hl
    rcases get j _ hd with ⟨rfl, e⟩ | ⟨hj, hd⟩
    · rw [hm] at hn
      cases hn
      exact Nat.lt_of_lt_of_le (r.lt j m _ c hm hb (.inl rfl)) hw.size
    · exact Nat.lt_of_lt_of_le (r.lt j n rw d hn hd hl) hw.size
  · intro j j' n n' d rw d' hjj hn hn' hd hd' hl
    rcases get j _ hd with ⟨e1, e⟩ | ⟨hj, hd1⟩ <;> rcases get j' _ hd' with ⟨e2, e'⟩ | ⟨hj', hd2⟩
    · exact absurd (e1.trans e2.symm) hjj
    · subst e1; exact r.sep j j' n n' c rw d' hjj hn hn' hb hd2 hl
    · subst e2; cases e'
      exact fun e => r.sep j' j n' n c true d hjj.symm hn' hn hb hd1 (.inl rfl) e.symm
    · exact r.sep j j' n n' d rw d' hjj hn hn' hd1 hd2 hl
  · intro k cur hk
    obtain ⟨⟨el, h1⟩, h2⟩ := r.fz k cur hk
    refine ⟨⟨el, (hw.block k (heap_lt h1) (fun e => h2 i m c hm hb e.symm)).trans h1⟩, fun j n d hn hd => ?_⟩
    rcases get j _ hd with ⟨e1, e⟩ | ⟨hj, hd1⟩
    · subst e1; exact h2 j n c hn hb
    · exact h2 j n d hn hd1
  · intro j rw d hj hd
    rcases get j _ hd with ⟨rfl, e⟩ | ⟨_, hd⟩
    · cases e; exact ⟨c, hb, fun _ => .inl rfl⟩
    · exact ⟨d, hd, id⟩
  · intro j n rw d hj hn _
    exact absurd (getElem?_lt hn) (by omega)
end Go.Proofs.Ytpeplbbphpamhaa.Ab

namespace Go.Proofs.Ytpeplbbphpamhaa.Ab
set_option linter.unusedVariables false
set_option linter.unusedSimpArgs false
open Go
theorem C.get?_some {c : C} {j : Nat} (h : j < c.len) : ∃ x, c.get? j = some x := by
  unfold C.len at h
  unfold C.get? C.getK
  cases c with
  | mp l => exact absurd h (Nat.not_lt_zero _)
  | _ => simp only at h ⊢; rw [List.getElem?_eq_getElem h]; exact ⟨_, rfl⟩
theorem C.part_get {c : C} {o n j : Nat} {x : A} (h : (c.part o n).get? j = some x) : j < n ∧ c.get? (o + j) = some x := by
  unfold C.part C.get? C.getK at h
  unfold C.get? C.getK
  cases c <;> simp only at h ⊢ <;> first | (cases h; done) | (split at h; (rename_i hh; rw [List.getElem?_take] at hh; split at hh; (rw [List.getElem?_drop] at hh; exact ⟨‹_›, by rw [hh]; exact h⟩); cases hh); cases h)
theorem C.app_spec {c d e : C} (h : c.app d = some e) : e.len = c.len + d.len ∧ e.esz = c.esz ∧ ∀ j x, e.get? j = some x → (j < c.len ∧ c.get? j = some x) ∨ (c.len ≤ j ∧ d.get? (j - c.len) = some x) := by
  unfold C.app at h
  have key : ∀ {α : Type} (l m : List α) (j : Nat) (x : α), (l ++ m)[j]? = some x → (j < l.length ∧ l[j]? = some x) ∨ (l.length ≤ j ∧ m[j - l.length]? = some x) := by
    intro α l m j x hx
    by_cases hj : j < l.length
    · rw [List.getElem?_append_left hj] at hx; exact .inl ⟨hj, hx⟩
    · rw [List.getElem?_append_right (by omega)] at hx; exact .inr ⟨by omega, hx⟩
  split at h <;> (try split at h) <;> first | (cases h; done) | skip
  all_goals
    injection h with h
    subst h
    refine ⟨by simp [C.len], by first | rfl | (simp only [C.esz]), fun j x hx => ?_⟩
    unfold C.get? C.getK at hx
    simp only at hx
    split at hx
    · rename_i hh
      rcases key _ _ _ _ hh with ⟨h1, h2⟩ | ⟨h1, h2⟩
      · exact .inl ⟨h1, by unfold C.get? C.getK; simp only; rw [h2]; exact hx⟩
      · exact .inr ⟨h1, by unfold C.get? C.getK; simp only [C.len] at *; subst_vars; rw [h2]; exact hx⟩
    · cases hx
theorem setK_spec' {R : Type} {c : C} {i : Nat} {x : A} {K : C → Option R} {r : R} (h : c.setK i x K = some r) :
    ∃ c', K c' = some r ∧ c'.esz = c.esz ∧ i < c.len ∧ c'.len = c.len ∧ ∀ j y, c'.get? j = some y → (j = i ∧ y = x) ∨ (j ≠ i ∧ c.get? j = some y) := by
  unfold C.setK at h
  have key : ∀ {α : Type} (l : List α) (a : α) (j : Nat) (y : α), (l.set i a)[j]? = some y → (j = i ∧ y = a) ∨ (j ≠ i ∧ l[j]? = some y) := by
    intro α l a j y hy
    by_cases e : i = j
    · subst e
      rw [List.getElem?_set_self' ] at hy
      simp at hy
      exact .inl ⟨rfl, hy.2.symm⟩
    · rw [List.getElem?_set_ne e] at hy
      exact .inr ⟨fun e' => e e'.symm, hy⟩
  split at h
  · cases h
  · rename_i hlt
    simp only [decide_eq_true_eq] at hlt
    split at h <;> (try split at h) <;> first | (cases h; done) | skip
    all_goals
      refine ⟨_, h, rfl, hlt, by simp [C.len], fun j y hy => ?_⟩
      unfold C.get? C.getK at hy
      simp only at hy
      split at hy
      · rename_i hh
        rcases key _ _ _ _ hh with ⟨h1, h2⟩ | ⟨h1, h2⟩
        · left; refine ⟨h1, ?_⟩
          injection hy with hy
          rw [← hy]
          first | rw [h2] | (injection h2 with h2 h3; rw [h2, h3])
          try subst_vars
          try rfl
        · exact .inr ⟨h1, by unfold C.get? C.getK; simp only; rw [h2]; exact hy⟩
      · cases hy
theorem setNK_spec {R : Type} {r : R} : ∀ {l : List A} {c : C} {i : Nat} {K : C → Option R}, c.setNK i l K = some r →
    ∃ c', K c' = some r ∧ c'.esz = c.esz ∧ (l = [] ∨ i + l.length ≤ c.len) ∧ c'.len = c.len ∧ ∀ j y, c'.get? j = some y → (i ≤ j ∧ l[j - i]? = some y) ∨ ((j < i ∨ i + l.length ≤ j) ∧ c.get? j = some y)
  | [], c, i, K, h => ⟨c, h, rfl, .inl rfl, rfl, fun j y hy => .inr ⟨by simp; omega, hy⟩⟩
  | x :: l, c, i, K, h => by
    obtain ⟨c1, h1, h2, h3, h4, h5⟩ := setK_spec' h
    obtain ⟨c2, k1, k2, k3, k4, k5⟩ := setNK_spec h1
    refine ⟨c2, k1, k2.trans h2, .inr ?_, k4.trans h4, fun j y hy => ?_⟩
    · rcases k3 with k3 | k3
      · subst k3; simp; omega
      · rw [h4] at k3; simp; omega
    · rcases k5 j y hy with ⟨e1, e2⟩ | ⟨e1, e2⟩
      · left
        refine ⟨by omega, ?_⟩
        rw [show j - i = (j - (i + 1)) + 1 by omega]
        simpa using e2
      · rcases h5 j y e2 with ⟨e3, e4⟩ | ⟨e3, e4⟩
        · subst e3; subst e4
          exact .inl ⟨Nat.le_refl _, by simp⟩
        · exact .inr ⟨by simp only [List.length_cons]; omega, e4⟩
theorem flsOf_get {k : FloatKind} : ∀ {l : List A} {m : List Nat}, flsOf k l = some m → l = m.map (.fl k)
  | [], m, h => by cases h; rfl
  | x :: l, m, h => by
    cases x <;> simp only [flsOf] at h <;> first | (cases h; done) | skip
    split at h
    · rename_i hk; subst hk
      simp only [Option.map_eq_some_iff] at h
      obtain ⟨n, h1, rfl⟩ := h
      rw [flsOf_get h1]; rfl
    · cases h
theorem intsOf_get {k : IntKind} : ∀ {l : List A} {m : List Int}, intsOf k l = some m → l = m.map (.int k)
  | [], m, h => by cases h; rfl
  | x :: l, m, h => by
    cases x <;> simp only [intsOf] at h <;> first | (cases h; done) | skip
    split at h
    · rename_i hk; subst hk
      simp only [Option.map_eq_some_iff] at h
      obtain ⟨n, h1, rfl⟩ := h
      rw [intsOf_get h1]; rfl
    · cases h
theorem boolsOf_get : ∀ {l : List A} {m : List Bool}, boolsOf l = some m → l = m.map .bool
  | [], m, h => by cases h; rfl
  | x :: l, m, h => by
    cases x <;> simp only [boolsOf] at h <;> first | (cases h; done) | skip
    simp only [Option.map_eq_some_iff] at h
    obtain ⟨n, h1, rfl⟩ := h
    rw [boolsOf_get h1]; rfl
theorem cxsOf_get {k : FloatKind} : ∀ {l : List A} {m : List (Nat × Nat)}, cxsOf k l = some m → l = m.map fun p => .cx k p.1 p.2
  | [], m, h => by cases h; rfl
  | x :: l, m, h => by
    cases x <;> simp only [cxsOf] at h <;> first | (cases h; done) | skip
    split at h
    · rename_i hk; subst hk
      simp only [Option.map_eq_some_iff] at h
      obtain ⟨n, h1, rfl⟩ := h
      rw [cxsOf_get h1]; rfl
    · cases h
theorem mkC_spec {zero l : List A} {c : C} (h : mkC zero l = some c) : c.esz = zero.length ∧ c.len = l.length ∧ ∀ j x, c.get? j = some x → l[j]? = some x := by
  unfold mkC at h
  split at h
  · simp only [Option.map_eq_some_iff] at h
    obtain ⟨m, h1, rfl⟩ := h
    rw [flsOf_get h1]
    refine ⟨rfl, by simp [C.len], fun j x hx => ?_⟩
    unfold C.get? C.getK at hx
    simp only at hx
    split at hx <;> simp_all
  · simp only [Option.map_eq_some_iff] at h
    obtain ⟨m, h1, rfl⟩ := h
    rw [intsOf_get h1]
    refine ⟨rfl, by simp [C.len], fun j x hx => ?_⟩
    unfold C.get? C.getK at hx
    simp only at hx
    split at hx <;> simp_all
  · simp only [Option.map_eq_some_iff] at h
    obtain ⟨m, h1, rfl⟩ := h
    rw [boolsOf_get h1]
    refine ⟨rfl, by simp [C.len], fun j x hx => ?_⟩
    unfold C.get? C.getK at hx
    simp only at hx
    split at hx <;> simp_all
  · simp only [Option.map_eq_some_iff] at h
    obtain ⟨m, h1, rfl⟩ := h
    rw [cxsOf_get h1]
    refine ⟨rfl, by simp [C.len], fun j x hx => ?_⟩
    unfold C.get? C.getK at hx
    simp only at hx
    split at hx <;> simp_all
  · cases h
    exact ⟨rfl, rfl, fun j x hx => by rw [C.get?_as] at hx; exact hx⟩
theorem rep_get {α : Type} {n : Nat} {a x : α} {j : Nat} (h : (List.replicate n a)[j]? = some x) : x = a ∧ j < n := by
  rw [List.getElem?_replicate] at h
  split at h
  · cases h; exact ⟨rfl, ‹_›⟩
  · cases h
theorem flat_get {z : List A} : ∀ {n j : Nat} {x : A}, (List.replicate n z).flatten[j]? = some x → z[j % z.length]? = some x ∧ j < n * z.length
  | 0, j, x, h => by simp at h
  | n + 1, j, x, h => by
    rw [List.replicate_succ, List.flatten_cons] at h
    by_cases hj : j < z.length
    · rw [List.getElem?_append_left hj] at h
      rw [Nat.mod_eq_of_lt hj]
      exact ⟨h, by rw [Nat.succ_mul]; omega⟩
    · rw [List.getElem?_append_right (by omega)] at h
      obtain ⟨h1, h2⟩ := flat_get h
      rw [Nat.mod_eq_sub_mod (by omega)]
      exact ⟨h1, by rw [Nat.succ_mul]; omega⟩
theorem zeros_spec {zero : List A} {n : Nat} {c : C} (hz : 0 < zero.length) (h : zeros zero n = some c) : c.esz = zero.length ∧ ∀ j x, c.get? j = some x → zero[j % zero.length]? = some x ∧ j < n * zero.length := by
  unfold zeros at h
  split at h <;> cases h
  · refine ⟨rfl, fun j x hx => ?_⟩
    unfold C.get? C.getK at hx; simp only at hx
    split at hx
    · rename_i hh; obtain ⟨rfl, h2⟩ := rep_get hh; cases hx; simp [Nat.mod_one, h2]
    · cases hx
  · refine ⟨rfl, fun j x hx => ?_⟩
    unfold C.get? C.getK at hx; simp only at hx
    split at hx
    · rename_i hh; obtain ⟨rfl, h2⟩ := rep_get hh; cases hx; simp [Nat.mod_one, h2]
    · cases hx
  · refine ⟨rfl, fun j x hx => ?_⟩
    unfold C.get? C.getK at hx; simp only at hx
    split at hx
    · rename_i hh; obtain ⟨rfl, h2⟩ := rep_get hh; cases hx; simp [Nat.mod_one, h2]
    · cases hx
  · refine ⟨rfl, fun j x hx => ?_⟩
    unfold C.get? C.getK at hx; simp only at hx
    split at hx
    · rename_i hh; obtain ⟨h1, h2⟩ := rep_get hh; cases h1; cases hx; simp [Nat.mod_one, h2]
    · cases hx
  · refine ⟨rfl, fun j x hx => ?_⟩
    rw [C.get?_as] at hx
    obtain ⟨rfl, h2⟩ := rep_get hx; simp [Nat.mod_one, h2]
  · refine ⟨rfl, fun j x hx => ?_⟩
    rw [C.get?_as] at hx
    exact flat_get hx
theorem zero_cells {μ : Mu} {zs : List A} {z : Value} (hz : RepAs μ zs z.cells.toList) (hp : 0 < zs.length) (n : Nat) :
    ∀ j x, zs[j % zs.length]? = some x → j < n → ∃ cv, ((Array.range n).map (z.cells[· % z.cells.size]!))[j]? = some cv ∧ RepA μ x cv := by
  intro j x hx hj
  obtain ⟨cv, h1, h2⟩ := hz.get hx
  refine ⟨cv, ?_, h2⟩
  have hl := hz.len
  have hs : z.cells.size = zs.length := by rw [← hl]; simp
  have hlt : j % zs.length < z.cells.size := by rw [hs]; exact Nat.mod_lt _ hp
  rw [← hs] at h1 hlt
  have h3 : z.cells[j % z.cells.size]! = cv := by
    rw [Array.getElem!_eq_getD, Array.getD_eq_getD_getElem?]
    have : z.cells[j % z.cells.size]? = some cv := by rw [← Array.getElem?_toList]; exact h1
    rw [this]; rfl
  simp only [Array.getElem?_map]
  rw [Array.getElem?_eq_getElem (by simpa using hj)]
  simp only [Array.getElem_range, Option.map_some, h3]
theorem zero_reps {μ : Mu} {zs : List A} {z : Value} (hz : RepAs μ zs z.cells.toList) (hp : 0 < zs.length) (n : Nat) :
    RepAs μ (List.replicate n zs).flatten ((Array.range (n * zs.length)).map (z.cells[· % z.cells.size]!)).toList := by
  have key : ∀ (l : List A) (cs : List Value), l.length = cs.length → (∀ (j : Nat) (x : A), l[j]? = some x → ∃ cv, cs[j]? = some cv ∧ RepA μ x cv) → RepAs μ l cs := by
    intro l
    induction l with
    | nil => intro cs hl _; cases cs with | nil => trivial | cons _ _ => simp at hl
    | cons x l ih =>
      intro cs hl h
      cases cs with
      | nil => simp at hl
      | cons c cs =>
        obtain ⟨cv, h1, h2⟩ := h 0 x rfl
        simp at h1; subst h1
        exact ⟨h2, ih cs (by simpa using hl) fun j y hy => by obtain ⟨cv, h3, h4⟩ := h (j + 1) y (by simpa using hy); exact ⟨cv, by simpa using h3, h4⟩⟩
  refine key _ _ (by simp) fun j x hx => ?_
  obtain ⟨h1, h2⟩ := flat_get hx
  obtain ⟨cv, h3, h4⟩ := zero_cells hz hp (n * zs.length) j x h1 h2
  exact ⟨cv, by rw [Array.getElem?_toList]; exact h3, h4⟩
end Go.Proofs.Ytpeplbbphpamhaa.Ab

namespace Go.Proofs.Ytpeplbbphpamhaa.Ab
set_option linter.unusedVariables false
set_option linter.unusedSimpArgs false
open Go
def OpOk (P : Program) (o : Oper) (t : List V) (h : H) (v : V) (h' : H) : Prop :=
  ∀ (μ : Mu) (a : Act) (w : World), (∀ x ∈ o.op.operands.toList, RepV μ (ev t x) (a.eval x)) → Rel μ h w →
    ∀ (K : Act → World → Prop) (Q : Exit → Act → World → Prop), (∀ cv w', Goes μ h w v h' cv w' → K (a.put o.dst cv) w') → o.wp P a w K Q
section
variable {P : Program} {R : Type} {r : R}
theorem OpOk.of_value {o : Oper} {t : List V} {h h' : H} {v : V}
    (hh : ∀ (μ : Mu) (ρ : Operand → Value) (w : World), (∀ x ∈ o.op.operands.toList, RepV μ (ev t x) (ρ x)) → Rel μ h w → ∃ cv w', (execOp ρ o).run P w = .ok (.value cv) w' ∧ Goes μ h w v h' cv w') :
    OpOk P o t h v h' := by
  intro μ a w hρ hr K Q hK
  obtain ⟨cv, w', h1, h2⟩ := hh μ a.eval w hρ hr
  unfold Oper.wp
  rw [h1]
  exact hK cv w' h2
theorem quiet_ok {ty : Ty} (hty : TyOk P ty) {t : List V} {h : H} {o : Oper} {K : V → Option R} (e : quietK ty t h o.op K = some r) : ∃ v, K v = some r ∧ ∀ h2, Agree h h2 → OpOk P o t h2 v h2 := by
  obtain ⟨v, h1, h2⟩ := quiet_run hty rfl e
  refine ⟨v, h1, fun h2' ha2 => OpOk.of_value fun μ ρ w hρ hr => ?_⟩
  obtain ⟨cv, n, h3, h4⟩ := h2 μ ρ hρ w h2' ha2 hr
  exact ⟨cv, w.drewN n, h3, μ, Ev.drewN hr n, h4⟩
theorem new_at {μ : Mu} {m : M} {h : H} (hl : μ.l.length = h.length) : (μ.app [m]).l[h.length]? = some m := by rw [← hl]; simp
theorem goes_ptr {μ : Mu} {h : H} {w : World} (hr : Rel μ h w) (c : C) (el : TypeId) (cur : Array Value)
    (hc : ∀ j x, c.get? j = some x → ∃ cv, cur[j]? = some cv ∧ RepA μ x cv) :
    Goes μ h w (.ptr h.length 0) (h ++ [.at true c]) (.pointer (some ⟨w.heap.size, 0, none⟩)) (w.alloc (.cells cur el)) :=
  ⟨_, Ev.alloc hr c el cur hc, ⟨_, new_at hr.len, rfl⟩⟩
theorem goes_sl {μ : Mu} {h : H} {w : World} (hr : Rel μ h w) (c : C) (el : TypeId) (cur : Array Value)
    (hc : ∀ j x, c.get? j = some x → ∃ cv, cur[j]? = some cv ∧ RepA μ x cv) (n k : Nat) (hn : n ≤ k) (hk : k ≤ maxLen) (hs : k * c.esz = cur.size) :
    Goes μ h w (.sl h.length 0 n) (h ++ [.at true c]) (.slice (some ⟨w.heap.size, 0, none⟩) n k) (w.alloc (.cells cur el)) :=
  ⟨_, Ev.alloc hr c el cur hc, ⟨_, _, k, new_at hr.len, rfl, hn, hk, fun _ => by simp, fun _ _ => hs⟩⟩
theorem goes_drew {μ : Mu} {h h' : H} {w w' : World} {v : V} {cv : Value} {n : Nat} (hr : Rel μ h w) (g : Goes μ h (w.drewN n) v h' cv w') : Goes μ h w v h' cv w' := by
  obtain ⟨μ', e, hv⟩ := g
  exact ⟨μ', (Ev.drewN hr n).trans e, hv⟩
theorem alloc_ok {ty : Ty} (hty : TyOk P ty) {t : List V} {h : H} {o : Oper} {e : TypeId} {I : TyI} (ho : o.op = .alloc e) (hI : ty e = some I) : OpOk P o t h (.ptr h.length 0) (h ++ [.at true (.as 1 I.zero)]) := by
  refine OpOk.of_value fun μ ρ w hρ hr => ?_
  obtain ⟨_, z, d, rI⟩ := row hty hI
  have hrun : (Instr.alloc e true (.tuple #[])).run P w = .ok (.pointer (some ⟨w.heap.size, 0, none⟩)) (w.alloc (.cells z.cells e)) := by
    simp only [Instr.alloc, Sem.run_bind, rI.run_zero, Result.andThen, newVar, newRow, newObj]
    rfl
  refine ⟨.pointer (some ⟨w.heap.size, 0, none⟩), w.alloc (.cells z.cells e), ?_, goes_ptr hr _ e z.cells fun j x hx => ?_⟩
  · unfold execOp; rw [ho]; simp only [Sem.run_bind, hrun, Result.andThen]; rfl
  · rw [C.get?_as] at hx
    obtain ⟨cv, h1, h2⟩ := (rI.rep μ).get hx
    exact ⟨cv, by rw [← Array.getElem?_toList]; exact h1, h2⟩
theorem vcells_rep {μ : Mu} {v : V} {l : List A} {cv : Value} (h : vcells v = some l) (hv : RepV μ v cv) : RepAs μ l cv.cells.toList := by
  unfold vcells at h
  split at h
  · cases h
    have h1 : RepA μ _ cv := hv
    rw [h1.one.2]
    exact ⟨h1, trivial⟩
  · cases h
    obtain ⟨cs, rfl, h2⟩ := hv
    exact h2
  · cases h
theorem boxC_get {l : List A} {j : Nat} {x : A} (h : (boxC l).get? j = some x) : l[j]? = some x := by
  unfold boxC at h
  split at h
  · rename_i k n r _
    split at h
    · rename_i m hm
      have e := intsOf_get hm
      unfold C.get? C.getK at h
      rw [e]
      simp only at h
      split at h <;> simp_all
    · rwa [C.get?_as] at h
  · rwa [C.get?_as] at h
theorem box_ok {t : List V} {h : H} {o : Oper} {e : TypeId} {x : Operand} {l : List A} (ho : o.op = .box e x) (hl : vcells (ev t x) = some l) : OpOk P o t h (.ptr h.length 0) (h ++ [.at true (boxC l)]) := by
  refine OpOk.of_value fun μ ρ w hρ hr => ?_
  have hx := vcells_rep hl (hρ x (by rw [ho]; simp [Op.operands]))
  refine ⟨.pointer (some ⟨w.heap.size, 0, none⟩), w.alloc (.cells (ρ x).cells e), ?_, goes_ptr hr _ e (ρ x).cells fun j y hy => ?_⟩
  · unfold execOp; rw [ho]; simp only [Instr.box, newVar, newRow, newObj, Sem.run_bind]; rfl
  · obtain ⟨cv, h1, h2⟩ := hx.get (boxC_get hy)
    exact ⟨cv, by rw [← Array.getElem?_toList]; exact h1, h2⟩
theorem map_range_zero (f : Nat → Value) : (Array.range 0).map f = #[] := by simp
theorem buildSlice_ok {ty : Ty} (hty : TyOk P ty) {t : List V} {h : H} {o : Oper} {bt e : TypeId} {J I : TyI} {len : Nat} {parts : Array (Nat × Operand)} {l : List A} {c : C}
    (ho : o.op = .buildSlice bt len parts) (hJ : ty bt = some J) (hJd : J.d = .slice e) (hI : ty e = some I)
    (hd : len * I.size ≤ 16777216 ∧ 0 < I.size ∧ I.zero.length = I.size)
    (hl : fillA (fun i => some (i * I.size, I.size)) (List.replicate len I.zero).flatten (parts.toList.map fun p => (p.1, ev t p.2)) = some l) (hc : mkC I.zero l = some c) :
    OpOk P o t h (.sl h.length 0 len) (h ++ [.at true c]) := by
  refine OpOk.of_value fun μ ρ w hρ hr => ?_
  obtain ⟨_, z, d, rI⟩ := row hty hI
  obtain ⟨_, _, dJ, rJ⟩ := row hty hJ
  have := desc_slice rJ.desc hJd
  subst this
  obtain ⟨hd1, hd2, hd3⟩ := hd
  have hz := zero_reps (μ := μ) (rI.rep μ) (by omega) len
  rw [hd3] at hz
  have toParts : (parts.map fun (i, x) => (i, ρ x)).toList = parts.toList.map fun p => (p.1, ρ p.2) := by simp
  obtain ⟨cs, h1, h2⟩ := fill_rep (fun _ _ h => h) (μ := μ) (qs := parts.toList.map fun p => (p.1, ρ p.2)) hl hz (by simp) (by
    have := RepVs_of (xs := parts.toList.map (·.2)) (t := t) (ρ := ρ) (μ := μ) (fun x hx => hρ x (by rw [ho]; simpa [Op.operands] using hx))
    simp only [List.map_map] at this ⊢
    exact this)
  obtain ⟨c1, c2, c3⟩ := mkC_spec hc
  have hlen : cs.length = len * I.size := by
    have h4 := h2.len
    have h5 : l.length = len * I.size := by
      have : ∀ {ps : List (Nat × V)} {cells l : List A}, fillA (fun i => some (i * I.size, I.size)) cells ps = some l → l.length = cells.length := by
        intro ps
        induction ps with
        | nil => intro cells l e; cases e; rfl
        | cons p ps ih =>
          intro cells l e
          obtain ⟨i, v⟩ := p
          simp only [fillA] at e
          split at e
          · split at e
            · have := ih e; simpa using this
            · cases e
          · split at e
            · rename_i hh
              have := ih e
              rw [this]
              simp only [List.length_append, List.length_take, List.length_drop]
              omega
            · cases e
          · cases e
      rw [this hl]
      simp [hd3]
    rw [h4, h5]
  have hle : len ≤ maxLen := by
    have : len ≤ len * I.size := Nat.le_mul_of_pos_right _ hd2
    unfold maxLen; omega
  refine ⟨.slice (some ⟨w.heap.size, 0, none⟩) len len, w.alloc (.cells ⟨cs⟩ e), ?_, goes_sl hr c e ⟨cs⟩ (fun j x hx => ?_) len len (Nat.le_refl _) hle (by rw [c1, hd3]; exact hlen.symm)⟩
  · have h1' : Instr.fill (fun i => some (i * I.size, I.size)) ((Array.range (len * I.size)).map (z.cells[· % z.cells.size]!)) (parts.toList.map fun p => (p.1, ρ p.2)) = some ⟨cs⟩ := h1
    have hnew : ∀ w, (newRow e ⟨cs⟩).run P w = .ok ⟨w.heap.size, 0, none⟩ (w.alloc (.cells ⟨cs⟩ e)) := fun w => rfl
    unfold execOp
    rw [ho]
    simp only [Instr.buildSlice, Sem.run_bind, run_underlying rJ.under, Result.andThen, rI.run_sizeOf]
    rw [if_neg (by omega)]
    by_cases h0 : len * I.size = 0
    · have h1'' : Instr.fill (fun i => some (i * I.size, I.size)) ((Array.range (len * I.size)).map ((#[] : Array Value)[· % (#[] : Array Value).size]!)) (parts.toList.map fun p => (p.1, ρ p.2)) = some ⟨cs⟩ := by
        rw [h0, map_range_zero] at h1' ⊢
        exact h1'
      rw [if_pos h0]
      simp only [Sem.run_bind, Sem.run_pure, Result.andThen, toParts, h1'', hnew]
    · rw [if_neg h0]
      simp only [Sem.run_bind, rI.run_zero, Sem.run_pure, Result.andThen, toParts, h1', hnew]
  · obtain ⟨cv, h3, h4⟩ := h2.get (c3 j x hx)
    exact ⟨cv, by simpa using h3, h4⟩
theorem makeSlice_ok {ty : Ty} (hty : TyOk P ty) {t : List V} {h : H} {o : Oper} {mt e : TypeId} {J I : TyI} {x y : Operand} {k k' : IntKind} {n m : Int} {c : C}
    (ho : o.op = .makeSlice mt x y) (hJ : ty mt = some J) (hJd : J.d = .slice e) (hI : ty e = some I) (hx : ev t x = .int k n) (hy : ev t y = .int k' m)
    (hd : 0 ≤ n ∧ n ≤ m ∧ m ≤ 9223372036854775807 ∧ m.toNat * I.bytes ≤ 140737488355328 ∧ 0 < I.size ∧ I.zero.length = I.size) (hc : zeros I.zero n.toNat = some c) :
    OpOk P o t h (.sl h.length 0 n.toNat) (h ++ [.at true c]) := by
  refine OpOk.of_value fun μ ρ w hρ hr => ?_
  obtain ⟨i, z, d, rI⟩ := row hty hI
  obtain ⟨_, _, dJ, rJ⟩ := row hty hJ
  have := desc_slice rJ.desc hJd
  subst this
  obtain ⟨hd1, hd2, hd3, hd4, hd5, hd6⟩ := hd
  have hx' := hρ x (by rw [ho]; simp [Op.operands])
  have hy' := hρ y (by rw [ho]; simp [Op.operands])
  rw [hx] at hx'
  rw [hy] at hy'
  have ex := repInt hx'
  have ey := repInt hy'
  obtain ⟨c1, c2⟩ := zeros_spec (by omega) hc
  have hz := zero_cells (μ := μ) (rI.rep μ) (by omega) (m.toNat * I.size)
  refine ⟨.slice (some ⟨w.heap.size, 0, none⟩) n.toNat m.toNat, w.alloc (.cells ((Array.range (m.toNat * I.size)).map (z.cells[· % z.cells.size]!)) e), ?_,
    goes_sl hr c e _ (fun j x hx => ?_) n.toNat m.toNat (by omega) (by unfold maxLen; omega) (by rw [c1, hd6]; simp)⟩
  · have wn : IntKind.i64.wrap n = n := IntWalk.i64_in _ (by omega)
    have wm : IntKind.i64.wrap m = m := IntWalk.i64_in _ (by omega)
    have hb1 : ¬ ((I.bytes : Int) * m > 281474976710656) := by
      have hm0 : (m.toNat : Int) = m := Int.toNat_of_nonneg (by omega)
      have : ((I.bytes : Int) * m) = ((m.toNat * I.bytes : Nat) : Int) := by rw [Int.natCast_mul, hm0, Int.mul_comm]
      omega
    have hcond : ((decide (m < 0) || decide ((I.bytes : Int) * m > 2 ^ 48)) || decide (n < 0) || decide (n > m)) = false := by
      simp; omega
    have hroom : ∀ w, (askRoom (m.toNat * I.bytes)).run P w = .ok () w := by
      intro w
      unfold askRoom roomBytes
      rw [if_neg (by omega)]
      rfl
    have hnew : ∀ (cs : Array Value) w, (newRow e cs).run P w = .ok ⟨w.heap.size, 0, none⟩ (w.alloc (.cells cs e)) := fun _ w => rfl
    unfold execOp
    rw [ho]
    simp only [ex, ey, Instr.makeSlice, asInt, asIntOf, Sem.run_bind, run_underlying rJ.under, Result.andThen, Sem.run_pure, run_typeInfo _ rI.info, rI.bytes, wn, wm]
    rw [if_neg (by simp only [hcond]; simp)]
    simp only [Sem.run_bind, hroom, Result.andThen, rI.run_sizeOf]
    by_cases h0 : m.toNat * I.size = 0
    · rw [if_pos h0]
      simp only [Sem.run_bind, Sem.run_pure, Result.andThen, hnew, h0, map_range_zero]
    · rw [if_neg h0]
      simp only [Sem.run_bind, rI.run_zero, Sem.run_pure, Result.andThen, hnew]
  · obtain ⟨h1, h2⟩ := c2 j x hx
    refine hz j x h1 (Nat.lt_of_lt_of_le h2 ?_)
    rw [hd6]
    exact Nat.mul_le_mul_right _ (by omega)
end
end Go.Proofs.Ytpeplbbphpamhaa.Ab

namespace Go.Proofs.Ytpeplbbphpamhaa.Ab
set_option linter.unusedVariables false
set_option linter.unusedSimpArgs false
open Go
section
variable {P : Program} {R : Type} {r : R}
theorem storeCells_ev {μ : Mu} {h : H} {w : World} {i : Nat} {m : M} {c c' : C} (hr : Rel μ h w) (hm : μ.l[i]? = some m) (hb : h[i]? = some (.at true c)) {l : List A} {vs : List Value} {o : Nat}
    (hv : RepAs μ l vs) (hes : c'.esz = c.esz) (hfit : o + l.length ≤ m.size)
    (hc : ∀ j y, c'.get? j = some y → (o ≤ j ∧ l[j - o]? = some y) ∨ ((j < o ∨ o + l.length ≤ j) ∧ c.get? j = some y)) :
    ∃ w', (storeCells ⟨m.blk, m.off + o, none⟩ vs 0).run P w = .ok () w' ∧ Ev μ h w μ (h.set i (.at true c')) w' := by
  obtain ⟨ho1, ho2, ho3, cur, hcur, hsz⟩ := hr.own i m c hm hb
  have hl := hv.len
  have hone : ∀ v ∈ vs, v.oneCell' = true := by
    have : ∀ {l : List A} {vs : List Value}, RepAs μ l vs → ∀ v ∈ vs, v.oneCell' = true := by
      intro l
      induction l with
      | nil => intro vs h; cases vs with | nil => intro v hv; cases hv | cons _ _ => exact h.elim
      | cons x l ih =>
        intro vs h
        cases vs with
        | nil => exact h.elim
        | cons v vs =>
          intro u hu
          cases hu with
          | head => exact h.1.one.1
          | tail _ hu => exact ih h.2 u hu
    exact this hv
  have hst := run_storeCells_at P m.blk o m.el vs 0 cur w hcur (by omega) hone
  simp only [Nat.add_zero] at hst
  have hst' : (storeCells ⟨m.blk, m.off + o, none⟩ vs 0).run P w = .ok () (w.setRow m.blk (cur.toList.take o ++ vs ++ cur.toList.drop (o + vs.length)).toArray) := by rw [ho2, Nat.zero_add]; exact hst
  refine ⟨_, hst', Ev.set hr hm hb hes ⟨rfl, rfl, rfl, by simp, fun k _ hk => setRow_other w m.blk k _ hk⟩ (setRow_heap w m.blk cur _ m.el _ hcur) ?_ ?_⟩
  · simp; omega
  · intro j y hy
    rcases hc j y hy with ⟨h1, h2⟩ | ⟨h1, h2⟩
    · obtain ⟨cv, h3, h4⟩ := hv.get h2
      refine ⟨cv, ?_, h4⟩
      have hj : j - o < vs.length := getElem?_lt h3
      simp only [List.getElem?_toArray]
      rw [List.append_assoc, List.getElem?_append_right (by simp; omega), List.length_take]
      rw [Nat.min_eq_left (by simp; omega), List.getElem?_append_left hj]
      exact h3
    · obtain ⟨cv, h3, h4⟩ := hr.cell i m true c hm hb j y h2
      refine ⟨cv, ?_, h4⟩
      rw [ho2] at h3
      simp only [World.cell?, hcur, Nat.zero_add] at h3
      have h5 : cur.toList[j]? = some cv := by simpa using h3
      have hjl := getElem?_lt h5
      simp only [List.getElem?_toArray]
      rcases h1 with h1 | h1
      · rw [List.append_assoc, List.getElem?_append_left (by simp; omega), List.getElem?_take]
        simp [h1, h5]
      · rw [List.getElem?_append_right (by simp; omega), List.getElem?_drop]
        rw [show o + vs.length + (j - (cur.toList.take o ++ vs).length) = j by simp at hjl ⊢; omega]
        exact h5
theorem own_len {μ : Mu} {h : H} {w : World} {i : Nat} {m : M} {c : C} (hr : Rel μ h w) (hm : μ.l[i]? = some m) (hb : h[i]? = some (.at true c)) : c.len ≤ m.size := by
  obtain ⟨ho1, ho2, ho3, cur, hcur, hsz⟩ := hr.own i m c hm hb
  rcases Nat.eq_zero_or_pos c.len with h0 | h0
  · omega
  · obtain ⟨x, hx⟩ := C.get?_some (c := c) (j := c.len - 1) (by omega)
    obtain ⟨cv, h3, _⟩ := hr.cell i m true c hm hb _ x hx
    rw [ho2] at h3
    simp only [World.cell?, hcur, Nat.zero_add] at h3
    have : c.len - 1 < cur.size := by
      have h4 : cur[c.len - 1]? = some cv := by simpa using h3
      exact (Array.getElem?_eq_some_iff.1 h4).1
    omega
theorem store_ok {ty : Ty} (hty : TyOk P ty) {t : List V} {h : H} {o : Oper} {st : TypeId} {x y : Operand} {K : H → Option R} (ho : o.op = .store st x y)
    (e : storeK ty h st (ev t x) (ev t y) K = some r) : ∃ h', K h' = some r ∧ OpOk P o t h V.no h' := by
  unfold storeK at e
  split at e
  · rename_i I i oo hI hx
    obtain ⟨_, _, d, rI⟩ := row hty hI
    obtain ⟨rw, c, hb, e⟩ := hgetK_spec e
    split at e
    · cases e
    · have finish : ∀ (l : List A) (c' : C), vcells (ev t y) = some l → I.size = l.length → c'.esz = c.esz → oo + l.length ≤ c.len →
          (∀ j y, c'.get? j = some y → (oo ≤ j ∧ l[j - oo]? = some y) ∨ ((j < oo ∨ oo + l.length ≤ j) ∧ c.get? j = some y)) → OpOk P o t h V.no (h.set i (.at true c')) := by
        intro l c' hl hsz hes hfit hget μ a w hρ hr K Q hK
        have hxr := hρ x (by rw [ho]; simp [Op.operands])
        have hyr := hρ y (by rw [ho]; simp [Op.operands])
        rw [hx] at hxr
        obtain ⟨m, hm, hpx⟩ := hxr
        have hv := vcells_rep hl hyr
        have hlen := own_len hr hm hb
        obtain ⟨w', h1, h2⟩ := storeCells_ev (P := P) hr hm hb hv hes (by omega) hget
        have hcs : (a.eval y).cells.size = I.size := by
          have := hv.len
          rw [hsz, ← this]; simp
        have hrun : (Instr.storeAt st (a.eval x) (a.eval y)).run P w = .ok () w' := by
          rw [hpx]
          simp only [Instr.storeAt, Instr.sureAddr, Sem.run_bind, Sem.run_pure, Result.andThen, storeVar, rI.run_sizeOf, hcs]
          simp only [ne_eq, not_true, if_false]
          exact h1
        have hex : (execOp a.eval o).run P w = .ok .skip w' := by
          unfold execOp
          rw [ho]
          simp only [Sem.run_bind, hrun, Result.andThen]
          rfl
        unfold Oper.wp
        rw [hex]
        exact hK undef w' ⟨μ, h2, RepV.no μ⟩
      split at e
      · rename_i z hz
        split at e
        · rename_i hs
          obtain ⟨c', h1, h2, h3, h4, h5⟩ := setK_spec' e
          refine ⟨_, h1, finish [z] c' (by rw [hz]; rfl) hs h2 (by simp; omega) fun j u hu => ?_⟩
          rcases h5 j u hu with ⟨e1, e2⟩ | ⟨e1, e2⟩
          · subst e1; subst e2; exact .inl ⟨Nat.le_refl _, by simp⟩
          · exact .inr ⟨by simp; omega, e2⟩
        · cases e
      · rename_i l hz
        split at e
        · rename_i hs
          obtain ⟨c', h1, h2, h3, h4, h5⟩ := setNK_spec e
          have hpos := rI.pos
          refine ⟨_, h1, finish l c' (by rw [hz]; rfl) hs h2 ?_ h5⟩
          rcases h3 with h3 | h3
          · subst h3; simp at hs; omega
          · exact h3
        · cases e
      · cases e
  · cases e
end
end Go.Proofs.Ytpeplbbphpamhaa.Ab

namespace Go.Proofs.Ytpeplbbphpamhaa.Ab
set_option linter.unusedVariables false
set_option linter.unusedSimpArgs false
open Go
theorem Rel.goneAt {μ : Mu} {h : H} {w : World} (r : Rel μ h w) (i : Nat) : Rel μ (h.set i .gone) w := by
  have get : ∀ (j : Nat) (rw : Bool) (c : C), (h.set i .gone)[j]? = some (.at rw c) → h[j]? = some (.at rw c) := by
    intro j rw c hj
    by_cases e : i = j
    · subst e
      rw [List.getElem?_set_self'] at hj
      cases hh : h[i]? <;> simp [hh] at hj
    · rwa [List.getElem?_set_ne e] at hj
  exact ⟨by simp [r.len], fun j m rw c hm hb => r.cell j m rw c hm (get j rw c hb), fun j m c hm hb => r.own j m c hm (get j _ c hb), fun j m rw c hm hb hl => r.lt j m rw c hm (get j rw c hb) hl,
    fun j k m n c rw d hne hm hn hb hd hl => r.sep j k m n c rw d hne hm hn (get j _ c hb) (get k rw d hd) hl, fun k cur hk => ⟨(r.fz k cur hk).1, fun j m c hm hb => (r.fz k cur hk).2 j m c hm (get j _ c hb)⟩⟩
theorem Rel.move {μ : Mu} {h : H} {w : World} (r : Rel μ h w) {i : Nat} {m : M} {rw : Bool} {c : C} (hm : μ.l[i]? = some m) (hb : h[i]? = some (.at rw c)) :
    Rel (μ.app [m]) (h.set i .gone ++ [.at rw c]) w := by
  have hi : i < h.length := getElem?_lt hb
  have get : ∀ (j : Nat) (n : M) (rw' : Bool) (d : C), (μ.l ++ [m])[j]? = some n → (h.set i .gone ++ [.at rw c])[j]? = some (.at rw' d) →
      (j < h.length ∧ j ≠ i ∧ μ.l[j]? = some n ∧ h[j]? = some (.at rw' d)) ∨ (j = h.length ∧ n = m ∧ rw' = rw ∧ d = c) := by
    intro j n rw' d h1 h2
    by_cases hj : j < h.length
    · rw [List.getElem?_append_left (by simpa using hj)] at h2
      rw [List.getElem?_append_left (by rw [r.len]; exact hj)] at h1
      by_cases e : i = j
      · subst e
        rw [List.getElem?_set_self hi] at h2
        cases h2
      · rw [List.getElem?_set_ne e] at h2
        exact .inl ⟨hj, fun e' => e e'.symm, h1, h2⟩
    · have hlt := getElem?_lt h2
      simp at hlt
      have hj' : j = h.length := by omega
      subst hj'
      rw [← r.len] at h1
      simp at h1
      rw [List.getElem?_append_right (by simp)] at h2
      simp at h2
      exact .inr ⟨rfl, h1.symm, h2.1.symm, h2.2.symm⟩
  refine ⟨by simp [r.len], ?_, ?_, ?_, ?_, ?_⟩
  · intro j n rw' d h1 h2 p x hx
    rcases get j n rw' d h1 h2 with ⟨_, _, h3, h4⟩ | ⟨_, e1, e2, e3⟩
    · obtain ⟨cv, h5, h6⟩ := r.cell j n rw' d h3 h4 p x hx
      exact ⟨cv, h5, h6.pre (.app μ _)⟩
    · subst e1; subst e2; subst e3
      obtain ⟨cv, h5, h6⟩ := r.cell i n rw' d hm hb p x hx
      exact ⟨cv, h5, h6.pre (.app μ _)⟩
  · intro j n d h1 h2
    rcases get j n _ d h1 h2 with ⟨_, _, h3, h4⟩ | ⟨_, e1, e2, e3⟩
    · exact r.own j n d h3 h4
    · subst e1; subst e2; subst e3
      exact r.own i n d hm hb
  · intro j n rw' d h1 h2 hl
    rcases get j n rw' d h1 h2 with ⟨_, _, h3, h4⟩ | ⟨_, e1, e2, e3⟩
    · exact r.lt j n rw' d h3 h4 hl
    · subst e1; subst e2; subst e3
      exact r.lt i n rw' d hm hb hl
  · intro j k n n' d rw' d' hne h1 h2 h3 h4 hl
    rcases get j n _ d h1 h3 with ⟨a1, a2, a3, a4⟩ | ⟨a1, a2, a3, a4⟩ <;> rcases get k n' rw' d' h2 h4 with ⟨b1, b2, b3, b4⟩ | ⟨b1, b2, b3, b4⟩
    · exact r.sep j k n n' d rw' d' hne a3 b3 a4 b4 hl
    · subst b2; subst b3; subst b4
      exact r.sep j i n n' d rw' d' a2 a3 hm a4 hb hl
    · subst a2; subst a3; subst a4
      exact r.sep i k n n' d rw' d' (fun e => b2 e.symm) hm b3 hb b4 hl
    · omega
  · intro k cur hk
    refine ⟨(r.fz k cur hk).1, fun j n d h1 h2 => ?_⟩
    rcases get j n _ d h1 h2 with ⟨_, _, h3, h4⟩ | ⟨_, e1, e2, e3⟩
    · exact (r.fz k cur hk).2 j n d h3 h4
    · subst e1; subst e2; subst e3
      exact (r.fz k cur hk).2 i n d hm hb
section
variable {P : Program} {R : Type} {r : R}
theorem cells_of {μ : Mu} {h : H} {w : World} {i : Nat} {m : M} {rw : Bool} {c : C} (hr : Rel μ h w) (hm : μ.l[i]? = some m) (hb : h[i]? = some (.at rw c)) (o : Nat) :
    ∀ n, o + n ≤ c.len → ∃ vs : List Value, vs.length = n ∧ (∀ p u, vs[p]? = some u → w.cell? ((⟨m.blk, m.off + o, none⟩ : Addr).add p) = some u) ∧
      (∀ p y, p < n → c.get? (o + p) = some y → ∃ u, vs[p]? = some u ∧ RepA μ y u) ∧ ∀ u ∈ vs, u.oneCell' = true
  | 0, _ => ⟨[], rfl, fun p u h => by simp at h, fun p y h => by omega, fun u h => by cases h⟩
  | n + 1, hn => by
    obtain ⟨vs, h1, h2, h3, h4⟩ := cells_of hr hm hb o n (by omega)
    obtain ⟨y, hy⟩ := C.get?_some (c := c) (j := o + n) (by omega)
    obtain ⟨cv, h5, h6⟩ := hr.cell i m rw c hm hb (o + n) y hy
    refine ⟨vs ++ [cv], by simp [h1], fun p u hp => ?_, fun p y' hp hy' => ?_, fun u hu => ?_⟩
    · by_cases hlt : p < n
      · rw [List.getElem?_append_left (by omega)] at hp
        exact h2 p u hp
      · have := getElem?_lt hp
        simp at this
        have hpn : p = n := by omega
        subst hpn
        rw [List.getElem?_append_right (by omega)] at hp
        simp [h1] at hp
        subst hp
        rw [addr_add, Nat.add_assoc]
        exact h5
    · by_cases hlt : p < n
      · obtain ⟨u, h7, h8⟩ := h3 p y' hlt hy'
        exact ⟨u, by rw [List.getElem?_append_left (by omega)]; exact h7, h8⟩
      · have hpn : p = n := by omega
        subst hpn
        rw [hy] at hy'
        cases hy'
        exact ⟨cv, by rw [List.getElem?_append_right (by omega)]; simp [h1], h6⟩
    · rcases List.mem_append.1 hu with hu | hu
      · exact h4 u hu
      · simp at hu; subst hu; exact h6.one.1
theorem src_cells {μ : Mu} {h : H} {w : World} {j o m sz : Nat} {rw : Bool} {c : C} {cv : Value} (hr : Rel μ h w) (hb : h[j]? = some (.at rw c)) (hlen : o + m * sz ≤ c.len) (hv : RepV μ (.sl j o m) cv) :
    ∃ (ad : Addr) (cc : Nat) (vs : List Value), cv = .slice (some ad) m cc ∧ vs.length = m * sz ∧ (∀ p u, vs[p]? = some u → w.cell? (ad.add p) = some u) ∧
      (∀ p y, (c.part o (m * sz)).get? p = some y → ∃ u, vs[p]? = some u ∧ RepA μ y u) ∧ ∀ u ∈ vs, u.oneCell' = true := by
  obtain ⟨mm, ad, cc, hm, rfl, _, _, had, _⟩ := hv
  rcases Nat.eq_zero_or_pos m with h0 | h0
  · subst h0
    refine ⟨ad, cc, [], rfl, by simp, fun p u hp => by simp at hp, fun p y hp => ?_, fun u hu => by cases hu⟩
    have := (C.part_get hp).1
    omega
  · have := had (.inl h0)
    subst this
    obtain ⟨vs, h1, h2, h3, h4⟩ := cells_of hr hm hb o (m * sz) hlen
    exact ⟨_, cc, vs, rfl, h1, h2, fun p y hp => h3 p y (C.part_get hp).1 (C.part_get hp).2, h4⟩
theorem append_room {w : World} (t ty e e' : TypeId) (i : TypeInfo) (ht : P.underlying t = some (.slice e)) (hi : P.info? e = some i)
    (g sLen sCap : Nat) (cur : Array Value) (hg : w.heap[g]? = some (.cells cur e' (0, 0)))
    (a : Addr) (m c : Nat) (news : List Value) (hl : news.length = m * i.size) (hnews : ∀ j u, news[j]? = some u → w.cell? (a.add j) = some u) (h1 : ∀ u ∈ news, u.oneCell' = true)
    (hroom : sLen + m ≤ sCap) (hfit : sLen * i.size + news.length ≤ cur.size) :
    (Builtin.append_ #[t, t] ty #[.slice (some ⟨g, 0, none⟩) sLen sCap, .slice (some a) m c]).run P w =
      .ok (.slice (some ⟨g, 0, none⟩) (sLen + m) sCap) (w.setRow g (cur.toList.take (sLen * i.size) ++ news ++ cur.toList.drop (sLen * i.size + news.length)).toArray) := by
  have hf := run_firstCells_some (P := P) w i.size m a m c news hl hnews
  have hst := run_storeCells_at P g (sLen * i.size) e' news 0 cur w hg (by simpa using hfit) h1
  simp only [Nat.add_zero] at hst
  simp [Builtin.append_, run_underlying ht, sizeOf, typeInfo, hi, Builtin.lenOf, hroom, hf, Addr.add_lit, hst]
theorem append_none {w : World} (t ty e : TypeId) (i : TypeInfo) (ht : P.underlying t = some (.slice e)) (hi : P.info? e = some i) (b : Option Addr) (n c : Nat) (hn : n ≤ c) (x : Option Addr) :
    (Builtin.append_ #[t, t] ty #[.slice b n c, .slice x 0 0]).run P w = .ok (.slice b n c) w := by
  cases b <;> cases x <;> simp [Builtin.append_, run_underlying ht, sizeOf, typeInfo, hi, Builtin.lenOf, hn, Builtin.firstCells, loadCells, loadCellsFrom, storeCells]
theorem grown_cells {μ : Mu} {c d c' : C} (hc : c.app d = some c') {olds news : List Value} {n sz : Nat} (ho : olds.length = n * sz) (hcl : c.len = n * sz)
    (h1 : ∀ p y, p < n * sz → c.get? p = some y → ∃ u, olds[p]? = some u ∧ RepA μ y u) (h2 : ∀ p y, d.get? p = some y → ∃ u, news[p]? = some u ∧ RepA μ y u) (rest : List Value) :
    ∀ j x, c'.get? j = some x → ∃ cv, (olds ++ news ++ rest)[j]? = some cv ∧ RepA μ x cv := by
  obtain ⟨a1, a2, a3⟩ := C.app_spec hc
  intro j x hx
  rcases a3 j x hx with ⟨b1, b2⟩ | ⟨b1, b2⟩
  · obtain ⟨u, h3, h4⟩ := h1 j x (by omega) b2
    refine ⟨u, ?_, h4⟩
    rw [List.append_assoc, List.getElem?_append_left (by omega)]
    exact h3
  · obtain ⟨u, h3, h4⟩ := h2 _ x b2
    refine ⟨u, ?_, h4⟩
    have := getElem?_lt h3
    rw [List.append_assoc, List.getElem?_append_right (by omega), List.getElem?_append_left (by omega)]
    rw [show j - olds.length = j - c.len by omega]
    exact h3
theorem append_ok {ty : Ty} (hty : TyOk P ty) {t : List V} {h : H} {o : Oper} {s x : Operand} {st xt : TypeId} {K : V → H → Option R}
    (ho : o.op = .call ⟨.builtin .append, ⟨[s, x]⟩, ⟨[st, xt]⟩⟩) (e : appendK ty h st xt (ev t s) (ev t x) K = some r) : ∃ v h', K v h' = some r ∧ OpOk P o t h v h' := by
  unfold appendK at e
  split at e
  rotate_left
  · cases e
  rename_i hst
  subst hst
  split at e
  rotate_left
  · cases e
  rename_i el hst
  obtain ⟨_, _, dJ, rJ⟩ := row hty hst
  have := desc_slice rJ.desc rfl
  subst this
  split at e
  rotate_left
  · cases e
  rename_i I hI
  obtain ⟨i, z, d, rI⟩ := row hty hI
  split at e
  · cases e
  rename_i hsz
  simp only [decide_eq_true_eq] at hsz
  obtain ⟨hs1, hs2⟩ := hsz
  have wrap : ∀ {v : V} {h' : H}, (∀ (μ : Mu) (a b : Value) (w : World), RepV μ (ev t s) a → RepV μ (ev t x) b → Rel μ h w →
      ∃ cv w', (Builtin.append_ #[st, st] o.type #[a, b]).run P w = .ok cv w' ∧ Goes μ h w v h' cv w') → OpOk P o t h v h' := by
    intro v h' hh
    refine OpOk.of_value fun μ ρ w hρ hr => ?_
    obtain ⟨cv, w', h1, h2⟩ := hh μ (ρ s) (ρ x) w (hρ s (by rw [ho]; simp [Op.operands, Call.operands])) (hρ x (by rw [ho]; simp [Op.operands, Call.operands])) hr
    refine ⟨cv, w', ?_, h2⟩
    have : execOp ρ o = execOp ρ { o with op := .call ⟨.builtin .append, ⟨[s, x]⟩, ⟨[st, st]⟩⟩ } := by rw [← ho]
    rw [this]
    simp only [BigFrame.execOp_builtin, BigFrame.builtin_append, List.map_toArray, List.map_cons, List.map_nil, Sem.run_bind, h1, Result.andThen]
    rfl
  have hzl : z.cells.size = I.size := by
    have := (rI.rep ⟨noZ, []⟩).len
    rw [hs2] at this
    simpa using this
  unfold srcK at e
  split at e
  · -- a slice is appended
    rename_i j oo m hx
    have e2 := hgetK_spec e
    clear e
    obtain ⟨rwx, c, hb, e⟩ := e2
    split at e
    rotate_left
    · cases e
    rename_i hfit
    simp only [decide_eq_true_eq] at hfit
    dsimp only at e
    split at e
    · rename_i heq; cases heq
    · rename_i heq; cases heq
    · rename_i heq; cases heq
    · -- onto a slice
      rename_i ii n dd hs heq
      cases heq
      obtain ⟨rws, cs, hbs, e⟩ := hgetK_spec e
      split at e
      · cases e
      rename_i hchk
      simp only [Bool.and_eq_true, decide_eq_true_eq, boundB] at hchk
      obtain ⟨⟨hrw, hfull, hesz⟩, hb1, hb2⟩ := hchk
      subst hrw
      split at e
      rotate_left
      · cases e
      rename_i jj oo' mm' hx'
      rw [hx] at hx'
      cases hx'
      split at e
      · cases e
      rename_i hne
      simp only [decide_eq_false_iff_not] at hne
      split at e
      rotate_left
      · cases e
      rename_i c' hc'
      refine ⟨_, _, e, wrap fun μ a b w ha hb' hr => ?_⟩
      rw [hs] at ha
      rw [hx] at hb'
      obtain ⟨M0, ad0, cap, hM0, rfl, hncap, hcapm, had0, hown⟩ := ha
      have := had0 (.inr rfl)
      subst this
      obtain ⟨ho1, ho2, ho3, cur, hcur, hcsz⟩ := hr.own ii M0 cs hM0 hbs
      have hcapsz : cap * I.size = cur.size := by rw [hcsz, ← hown rfl ho1, ho3, hesz]
      obtain ⟨ad, cc, news, rfl, hn1, hn2, hn3, hn4⟩ := src_cells hr hb hfit hb'
      obtain ⟨olds, hol1, hol2, hol3, hol4⟩ := cells_of hr hM0 hbs 0 (n * I.size) (by omega)
      have happ := C.app_spec hc'
      by_cases hroom : n + m ≤ cap
      · -- in place
        have hfit2 : n * I.size + news.length ≤ cur.size := by rw [hn1, ← hcapsz, ← Nat.add_mul]; exact Nat.mul_le_mul_right _ hroom
        have hrun := append_room (P := P) (w := w) st o.type el M0.el i rJ.under rI.info M0.blk n cap cur hcur ad m cc news (by rw [rI.size]; exact hn1) hn2 hn4 hroom (by rw [rI.size]; exact hfit2)
        rw [rI.size] at hrun
        refine ⟨_, _, by rw [ho2]; exact hrun, ?_⟩
        have hset : Ev μ h w μ (h.set ii (.at true c')) (w.setRow M0.blk (cur.toList.take (n * I.size) ++ news ++ cur.toList.drop (n * I.size + news.length)).toArray) := by
          refine Ev.set hr hM0 hbs (by rw [happ.2.1]) ⟨rfl, rfl, rfl, by simp, fun k _ hk => setRow_other w M0.blk k _ hk⟩ (setRow_heap w M0.blk cur _ M0.el _ hcur) (by simp; omega) ?_
          have hcur0 : cur.toList.take (n * I.size) = olds := by
            apply List.ext_getElem?
            intro p
            by_cases hp : p < n * I.size
            · obtain ⟨u, hu⟩ : ∃ u, olds[p]? = some u := ⟨_, List.getElem?_eq_getElem (by omega)⟩
              have h5 := hol2 p u hu
              rw [addr_add, ho2] at h5
              simp only [World.cell?, hcur, Nat.zero_add] at h5
              rw [hu, List.getElem?_take, if_pos hp]
              simpa using h5
            · rw [List.getElem?_eq_none (by simp; omega), List.getElem?_eq_none (by omega)]
          intro p y hy
          have := grown_cells hc' hol1 hfull.symm (fun p y hp hy => hol3 p y hp (by rw [Nat.zero_add]; exact hy)) hn3 (cur.toList.drop (n * I.size + news.length)) p y hy
          rw [hcur0]
          simpa using this
        have hii : ii < h.length := getElem?_lt hbs
        have hmv := hset.rel.move hM0 (List.getElem?_set_self hii)
        have hhh : (h.set ii (.at true c')).set ii .gone = h.set ii .gone := by simp
        rw [hhh] at hmv
        refine ⟨μ.app [M0], ⟨hmv, .app μ _, hset.fr, fun j rw d hj hd => ?_, fun j n' rw d hj hn' hd => ?_, fun _ _ h => .inl h⟩, ?_⟩
        · rw [List.getElem?_append_left (by rw [List.length_set, ← hr.len]; exact hj)] at hd
          by_cases e1 : ii = j
          · subst e1; rw [List.getElem?_set_self hii] at hd; cases hd
          · rw [List.getElem?_set_ne e1] at hd; exact ⟨d, hd, id⟩
        · have hlt := getElem?_lt hn'
          simp at hlt
          have e1 : j = μ.l.length := by omega
          subst e1
          simp at hn'
          subst hn'
          rw [hr.len, List.getElem?_append_right (by simp)] at hd
          simp at hd
          exact ⟨hd.1, .inl ⟨ii, _, cs, hM0, hbs, rfl⟩⟩
        · refine ⟨M0, _, cap, new_at hr.len, rfl, hroom, hcapm, fun _ => by rw [ho2], fun _ _ => ?_⟩
          exact hown rfl ho1
      · -- in a new block
        have hrun := run_append_grow (P := P) w st o.type el i z rJ.under rI.info rI.zero ⟨M0.blk, M0.off + 0, none⟩ n cap olds (by rw [rI.size]; exact hol1) hol2 ad m cc news (by rw [rI.size]; exact hn1) hn2 (by omega) (by omega) (growslice_fits (by omega) (by rw [rI.bytes]; exact hb2))
        have hge := grownCap_ge w (n + m) cap el
        have hgm := grownCap_le_maxLen w (n + m) cap el (by unfold maxLen; omega)
        have hg1 : Goes μ (h.set ii .gone) w.drew (.sl (h.set ii .gone).length 0 (n + m)) (h.set ii .gone ++ [.at true c']) (.slice (some ⟨w.drew.heap.size, 0, none⟩) (n + m) (grownCap w (n + m) cap el))
            (w.drew.alloc (.cells (olds.toArray ++ news.toArray ++ Builtin.zeroCells z.cells (grownCap w (n + m) cap el - (n + m))) el)) := by
          refine goes_sl ((hr.goneAt ii).drewN 1) c' el _ (fun p y hy => ?_) (n + m) _ hge hgm ?_
          · have := grown_cells hc' hol1 hfull.symm (fun p y hp hy => hol3 p y hp (by rw [Nat.zero_add]; exact hy)) hn3 (Builtin.zeroCells z.cells (grownCap w (n + m) cap el - (n + m))).toList p y hy
            simpa [← Array.getElem?_toList] using this
          · rw [happ.2.1, hesz]
            simp only [Array.size_append, List.size_toArray, size_zeroCells, hzl, hol1, hn1, ← Nat.add_mul]
            congr 1
            omega
        have hlen : (h.set ii .gone).length = h.length := by simp
        rw [hlen] at hg1
        refine ⟨_, _, hrun, ?_⟩
        obtain ⟨μ', he, hv⟩ := hg1
        refine ⟨μ', ⟨he.rel, he.pre, ⟨he.fr.os, he.fr.tape, he.fr.output, he.fr.size, fun k hk hn => he.fr.block k hk fun hw => hn ?_⟩, fun j rw d hj hd => ?_, fun j n' rw d hj hn' hd => ?_, fun j n' rw => ?_⟩, hv⟩
        · obtain ⟨q, M1, c1, q1, q2, q3⟩ := hw
          by_cases e1 : ii = q
          · subst e1; rw [List.getElem?_set_self (getElem?_lt hbs)] at q2; cases q2
          · rw [List.getElem?_set_ne e1] at q2; exact ⟨q, M1, c1, q1, q2, q3⟩
        · obtain ⟨d', hd', hdl⟩ := he.old j rw d hj hd
          by_cases e1 : ii = j
          · subst e1; rw [List.getElem?_set_self (getElem?_lt hbs)] at hd'; cases hd'
          · rw [List.getElem?_set_ne e1] at hd'; exact ⟨d', hd', hdl⟩
        · obtain ⟨q1, q2⟩ := he.new j n' rw d hj hn' hd
          refine ⟨q1, ?_⟩
          rcases q2 with ⟨q, M1, c1, q3, q4, q5⟩ | q2
          · left
            by_cases e1 : ii = q
            · subst e1; rw [List.getElem?_set_self (getElem?_lt hbs)] at q4; cases q4
            · rw [List.getElem?_set_ne e1] at q4; exact ⟨q, M1, c1, q3, q4, q5⟩
          · exact .inr q2
        · rcases he.zn j n' rw with q | ⟨q, M1, c1, q3, q4, q5⟩ | q
          · exact .inl q
          · refine .inr (.inl ?_)
            by_cases e1 : ii = q
            · subst e1; rw [List.getElem?_set_self (getElem?_lt hbs)] at q4; cases q4
            · rw [List.getElem?_set_ne e1] at q4; exact ⟨q, M1, c1, q3, q4, q5⟩
          · exact .inr (.inr q)
    · -- onto nil
      rename_i dd hs heq
      cases heq
      split at e
      rotate_left
      · cases e
      rename_i hbd
      simp only [Bool.and_eq_true, boundB, decide_eq_true_eq] at hbd
      obtain ⟨⟨hb1, hb2⟩, hes⟩ := hbd
      split at e
      · rename_i hm
        simp only [decide_eq_true_eq] at hm
        subst hm
        refine ⟨_, _, e, wrap fun μ a b w ha hb' hr => ?_⟩
        rw [hs] at ha
        rw [hx] at hb'
        cases ha
        obtain ⟨mm, ad, cc, hmm, rfl, _⟩ := hb'
        refine ⟨.slice none 0 0, w, ?_, μ, Ev.refl hr, rfl⟩
        simp [Builtin.append_, run_underlying rJ.under, sizeOf, typeInfo, rI.info, Builtin.lenOf, Builtin.firstCells, loadCells, loadCellsFrom]
      · rename_i hm
        simp only [decide_eq_false_iff_not] at hm
        refine ⟨_, _, e, wrap fun μ a b w ha hb' hr => ?_⟩
        rw [hs] at ha
        rw [hx] at hb'
        cases ha
        obtain ⟨ad, cc, news, rfl, hn1, hn2, hn3, hn4⟩ := src_cells hr hb hfit hb'
        have hrun := run_append_nil (P := P) w st o.type el i z rJ.under rI.info rI.zero ad m cc news (by rw [rI.size]; exact hn1) hn2 (by omega) (by omega) (by rw [rI.bytes]; omega)
        have hge := grownCap_ge w m 0 el
        have hgm := grownCap_le_maxLen w m 0 el (by unfold maxLen; omega)
        refine ⟨_, _, hrun, goes_drew (n := 1) hr (goes_sl (hr.drewN 1) _ el _ (fun p y hy => ?_) m _ hge hgm ?_)⟩
        · obtain ⟨u, h3, h4⟩ := hn3 p y hy
          refine ⟨u, ?_, h4⟩
          have := getElem?_lt h3
          rw [Array.getElem?_append_left (by simpa using this)]
          simpa using h3
        · rw [hes]
          simp only [Array.size_append, List.size_toArray, size_zeroCells, hzl, hn1, ← Nat.add_mul]
          congr 1
          omega
    · -- onto an empty slice without room
      rename_i dd hs heq
      cases heq
      split at e
      rotate_left
      · cases e
      rename_i hbd
      simp only [Bool.and_eq_true, boundB, decide_eq_true_eq] at hbd
      obtain ⟨⟨hb1, hb2⟩, hes⟩ := hbd
      split at e
      · rename_i hm
        simp only [decide_eq_true_eq] at hm
        subst hm
        refine ⟨_, _, e, wrap fun μ a b w ha hb' hr => ?_⟩
        rw [hs] at ha
        rw [hx] at hb'
        obtain ⟨ad0, rfl⟩ := ha
        obtain ⟨mm, ad, cc, hmm, rfl, _⟩ := hb'
        refine ⟨.slice (some ad0) 0 0, w, ?_, μ, Ev.refl hr, ⟨ad0, rfl⟩⟩
        simp [Builtin.append_, run_underlying rJ.under, sizeOf, typeInfo, rI.info, Builtin.lenOf, Builtin.firstCells, loadCells, loadCellsFrom, storeCells]
      · rename_i hm
        simp only [decide_eq_false_iff_not] at hm
        refine ⟨_, _, e, wrap fun μ a b w ha hb' hr => ?_⟩
        rw [hs] at ha
        rw [hx] at hb'
        obtain ⟨ad0, rfl⟩ := ha
        obtain ⟨ad, cc, news, rfl, hn1, hn2, hn3, hn4⟩ := src_cells hr hb hfit hb'
        have hrun := run_append_grow (P := P) w st o.type el i z rJ.under rI.info rI.zero ad0 0 0 [] (by simp) (fun j v hj => by simp at hj) ad m cc news (by rw [rI.size]; exact hn1) hn2 (by omega) (by omega) (growslice_fits (by omega) (by rw [rI.bytes, Nat.zero_add]; exact hb2))
        have hge := grownCap_ge w (0 + m) 0 el
        have hgm := grownCap_le_maxLen w (0 + m) 0 el (by unfold maxLen; omega)
        refine ⟨_, _, hrun, goes_drew (n := 1) hr ?_⟩
        rw [Nat.zero_add] at *
        refine goes_sl (hr.drewN 1) _ el _ (fun p y hy => ?_) m _ hge hgm ?_
        · obtain ⟨u, h3, h4⟩ := hn3 p y hy
          refine ⟨u, ?_, h4⟩
          have := getElem?_lt h3
          rw [show ([] : List Value).toArray = #[] from rfl, Array.empty_append, Array.getElem?_append_left (by simpa using this)]
          simpa using h3
        · rw [hes]
          simp only [Array.size_append, List.size_toArray, List.length_nil, Nat.zero_add, size_zeroCells, hzl, hn1, ← Nat.add_mul]
          congr 1
          omega
    · cases e
  · -- nil is appended
    rename_i hx
    have hnone : ∀ {μ : Mu} {b : Value}, RepV μ (ev t x) b → b = .slice none 0 0 := fun h => by rw [hx] at h; exact h
    dsimp only at e
    split at e
    · rename_i hs heq
      refine ⟨_, _, e, wrap fun μ a b w ha hb' hr => ?_⟩
      cases hnone hb'
      rw [hs] at ha
      obtain ⟨M0, ad0, cap, hM0, rfl, hncap, rest⟩ := ha
      exact ⟨_, w, append_none st o.type el i rJ.under rI.info _ _ _ hncap _, μ, Ev.refl hr, ⟨M0, ad0, cap, hM0, rfl, hncap, rest⟩⟩
    · rename_i hs heq
      refine ⟨_, _, e, wrap fun μ a b w ha hb' hr => ?_⟩
      cases hnone hb'
      rw [hs] at ha
      cases ha
      exact ⟨_, w, append_none st o.type el i rJ.under rI.info _ _ _ (Nat.le_refl _) _, μ, Ev.refl hr, rfl⟩
    · rename_i hs heq
      refine ⟨_, _, e, wrap fun μ a b w ha hb' hr => ?_⟩
      cases hnone hb'
      rw [hs] at ha
      obtain ⟨ad0, rfl⟩ := ha
      exact ⟨_, w, append_none st o.type el i rJ.under rI.info _ _ _ (Nat.le_refl _) _, μ, Ev.refl hr, ⟨ad0, rfl⟩⟩
    · rename_i heq; cases heq
    · rename_i heq; cases heq
    · rename_i heq; cases heq
    · cases e
  · rename_i hx
    have hnone : ∀ {μ : Mu} {b : Value}, RepV μ (ev t x) b → ∃ ad, b = .slice (some ad) 0 0 := fun h => by rw [hx] at h; exact h
    dsimp only at e
    split at e
    · rename_i hs heq
      refine ⟨_, _, e, wrap fun μ a b w ha hb' hr => ?_⟩
      obtain ⟨adx, rfl⟩ := hnone hb'
      rw [hs] at ha
      obtain ⟨M0, ad0, cap, hM0, rfl, hncap, rest⟩ := ha
      exact ⟨_, w, append_none st o.type el i rJ.under rI.info _ _ _ hncap _, μ, Ev.refl hr, ⟨M0, ad0, cap, hM0, rfl, hncap, rest⟩⟩
    · rename_i hs heq
      refine ⟨_, _, e, wrap fun μ a b w ha hb' hr => ?_⟩
      obtain ⟨adx, rfl⟩ := hnone hb'
      rw [hs] at ha
      cases ha
      exact ⟨_, w, append_none st o.type el i rJ.under rI.info _ _ _ (Nat.le_refl _) _, μ, Ev.refl hr, rfl⟩
    · rename_i hs heq
      refine ⟨_, _, e, wrap fun μ a b w ha hb' hr => ?_⟩
      obtain ⟨adx, rfl⟩ := hnone hb'
      rw [hs] at ha
      obtain ⟨ad0, rfl⟩ := ha
      exact ⟨_, w, append_none st o.type el i rJ.under rI.info _ _ _ (Nat.le_refl _) _, μ, Ev.refl hr, ⟨ad0, rfl⟩⟩
    · rename_i heq; cases heq
    · rename_i heq; cases heq
    · rename_i heq; cases heq
    · cases e
  · cases e
end
end Go.Proofs.Ytpeplbbphpamhaa.Ab

namespace Go.Proofs.Ytpeplbbphpamhaa.Ab
set_option linter.unusedVariables false
set_option linter.unusedSimpArgs false
open Go
def CallRes (P : Program) (f : FuncId) (cvs : List Value) (w : World) (R : Value → World → Prop) : Prop :=
  ((callFunc f ⟨cvs⟩).run P w = .ok (.enter f ⟨cvs⟩) w ∧ Calls P f ⟨cvs⟩ w fun e w' => ∃ cv, e = .returned cv ∧ R cv w') ∨
  ∃ cv w', (callFunc f ⟨cvs⟩).run P w = .ok (.value cv) w' ∧ R cv w'
theorem CallRes.mono {P : Program} {f : FuncId} {cvs : List Value} {w : World} {R R' : Value → World → Prop} (h : CallRes P f cvs w R) (k : ∀ cv w', R cv w' → R' cv w') : CallRes P f cvs w R' := by
  rcases h with ⟨h1, h2⟩ | ⟨cv, w', h1, h2⟩
  · exact .inl ⟨h1, h2.mono fun e w' ⟨cv, h3, h4⟩ => ⟨cv, h3, k cv w' h4⟩⟩
  · exact .inr ⟨cv, w', h1, k cv w' h2⟩
def FnT (P : Program) (f : FuncId) (g : List V → H → T) : Prop :=
  ∀ vs h v h', (g vs h).run = some (v, h') → ∀ (μ : Mu) (w : World) (cvs : List Value), Rel μ h w → RepVs μ vs cvs → CallRes P f cvs w fun cv w' => Goes μ h w v h' cv w'
section
variable {P : Program} {R : Type} {r : R}
theorem callK_core {fns : Fns} (hfn : ∀ f, FnT P f (fns f)) {f : FuncId} {vs : List V} {h : H} {K : V → H → Option R} (e : callK fns f vs h K = some r) :
    ∃ v h', K v h' = some r ∧ ∀ (μ : Mu) (w : World) (cvs : List Value), Rel μ h w → RepVs μ vs cvs → CallRes P f cvs w fun cv w' => Goes μ h w v h' cv w' := by
  unfold callK at e
  dsimp only at e
  generalize hids : close h 3 ((vs.flatMap V.ids).foldl addNew []) = ids at e
  have hn : ids.Nodup := by rw [← hids]; exact close_nodup h 3 (foldAdd_nodup _ List.nodup_nil)
  split at e
  · cases e
  · rename_i ws hws
    split at e
    · cases e
    · rename_i g hg
      rw [T.k_run] at e
      split at e
      case h_2 => cases e
      case h_1 =>
        rename_i v g' hf
        refine ⟨_, _, e, fun μ w cvs hr hv => ?_⟩
        have hsub := pick_sub μ ids
        have hr' := hr.sub hn hg
        have hpl : (pick μ ids).l.length = ids.length := by simp [pick]
        refine (hfn f ws g v g' hf (pick μ ids) w cvs hr' (hv.ren hsub hws)).mono fun cv w' hgo => ?_
        obtain ⟨μ', he, hcv⟩ := hgo
        obtain ⟨z', l'⟩ := μ'
        obtain ⟨hzl, ν, hν⟩ := he.pre
        dsimp only at hzl hν
        subst hν
        obtain ⟨h1, h2⟩ := hr.laid hn hg he.rel.len he.rel he.fr (fun i m rw c hi hm hb => he.new i m rw c (by rw [hpl]; exact hi) hm hb) (fun j rw c hj hb => he.old j rw c (by rw [hpl]; exact hj) hb) hzl he.zn
        have hwr : ∀ k, Wr (pick μ ids) g k → Wr μ h k := by
          intro k hk
          obtain ⟨j, i, m, c, _, q1, q2, q3⟩ := Wr.sub hr hg hk
          exact ⟨i, m, c, q1, q2, q3⟩
        have hidlt : ∀ i ∈ ids, i < h.length := by
          intro i hi
          obtain ⟨j, hj⟩ := List.getElem?_of_mem hi
          obtain ⟨y, hy, _⟩ := optMap_get hg j i hj
          exact renAt_lt hy
        have hlen' : ids.length ≤ g'.length := by have := he.rel.len; simp [hpl] at this; omega
        obtain ⟨L1, L2, L3⟩ := layBack_get (back ids h.length) ids h g' hn hlen' hidlt
        refine ⟨⟨z', μ.l ++ ν⟩, ⟨h1, ⟨hzl, ν, rfl⟩, he.fr.mono hwr, fun j rw c hj hb => ?_, fun i m rw c hi hm hb => ?_, fun k cur hk => ?_⟩, hcv.up h2⟩
        · rw [hr.len] at hj
          by_cases hm : j ∈ ids
          · obtain ⟨p, hp⟩ := List.getElem?_of_mem hm
            rw [L2 p j hp] at hb
            simp only [Option.map_eq_some_iff] at hb
            obtain ⟨b, hb1, hb2⟩ := hb
            obtain ⟨d, rfl, _, hdg⟩ := B.up_at hb2
            obtain ⟨d', hd', hdl⟩ := he.old p rw d (by rw [hpl]; exact getElem?_lt hp) hb1
            obtain ⟨i', hi', hren⟩ := optMap_inv hg p _ hd'
            rw [hp] at hi'
            cases hi'
            obtain ⟨c2, hc2, _, hc2g⟩ := renAt_at hren
            have hc2l : d'.live rw → c2.live rw := fun h => h.imp id fun ⟨p, x, hx⟩ => (hc2g p x hx).elim fun y hy => ⟨p, y, hy.1⟩
            exact ⟨c2, hc2, fun h => hc2l (hdl (h.imp id fun ⟨p, x, hx⟩ => (hdg p x hx).elim fun y hy => ⟨p, y, hy.1⟩))⟩
          · rw [L1 j hj hm] at hb
            exact ⟨c, hb, id⟩
        · obtain ⟨q, rfl⟩ : ∃ q, i = h.length + q := ⟨i - h.length, by rw [← hr.len]; omega⟩
          rw [L3 q] at hb
          simp only [Option.map_eq_some_iff] at hb
          obtain ⟨b, hb1, hb2⟩ := hb
          obtain ⟨d, rfl, _⟩ := B.up_at hb2
          rw [← hr.len, List.getElem?_append_right (by omega), Nat.add_sub_cancel_left] at hm
          obtain ⟨q1, q2⟩ := he.new (ids.length + q) m rw d (by rw [hpl]; omega) (by rw [List.getElem?_append_right (by omega), hpl, Nat.add_sub_cancel_left]; exact hm) hb1
          exact ⟨q1, q2.imp (hwr _) id⟩
        · exact (he.zn k cur hk).imp id (Or.imp (hwr _) id)
theorem RepA.of_flat {μ μ' : Mu} {x : A} {cv : Value} (hx : x.flat = true) (r : RepA μ x cv) : RepA μ' x cv := by
  cases x <;> first | exact r | cases hx
theorem RepV.of_flat {μ μ' : Mu} {v : V} {cv : Value} (hv : v.flat = true) (r : RepV μ v cv) : RepV μ' v cv := by
  have as : ∀ {l : List A} {cs : List Value}, l.all A.flat = true → RepAs μ l cs → RepAs μ' l cs := by
    intro l
    induction l with
    | nil => intro cs _ h; cases cs with | nil => trivial | cons _ _ => exact h.elim
    | cons x l ih =>
      intro cs hl h
      simp only [List.all_cons, Bool.and_eq_true] at hl
      cases cs with
      | nil => exact h.elim
      | cons c cs => exact ⟨h.1.of_flat hl.1, ih hl.2 h.2⟩
  have us : ∀ {x : U} {cv : Value}, x.flat = true → RepU μ x cv → RepU μ' x cv := by
    intro x cv hx h
    cases x with
    | a x => exact RepA.of_flat hx h
    | g l => obtain ⟨cs, rfl, h⟩ := h; exact ⟨cs, rfl, as hx h⟩
  cases v with
  | any => trivial
  | u x => exact us hv r
  | tup l =>
    obtain ⟨cs, rfl, h⟩ := r
    refine ⟨cs, rfl, ?_⟩
    have hv' : l.all U.flat = true := hv
    clear hv
    induction l generalizing cs with
    | nil => cases cs with | nil => trivial | cons _ _ => exact h.elim
    | cons x l ih =>
      simp only [List.all_cons, Bool.and_eq_true] at hv'
      cases cs with
      | nil => exact h.elim
      | cons c cs => exact ⟨us hv'.1 h.1, ih cs h.2 hv'.2⟩
theorem still_get {h : H} {i : Nat} {rw : Bool} {c : C} (e : (h.map B.still)[i]? = some (.at rw c)) : rw = false ∧ ∃ rw', h[i]? = some (.at rw' c) := by
  simp only [List.getElem?_map, Option.map_eq_some_iff] at e
  obtain ⟨b, hb, hb'⟩ := e
  cases b with
  | gone => cases hb'
  | «at» rw' c' => simp only [B.still] at hb'; cases hb'; exact ⟨rfl, rw', hb⟩
theorem Rel.still {μ : Mu} {h : H} {w : World} (r : Rel μ h w) : Rel μ (h.map B.still) w := by
  refine ⟨by simp [r.len], fun i m rw c hm hb => ?_, fun i m c hm hb => ?_, fun i m rw c hm hb hl => ?_, fun i j m n c rw d hne hm hn hb hd hl => ?_, fun k cur hk => ⟨(r.fz k cur hk).1, fun i m c hm hb => ?_⟩⟩
  · obtain ⟨_, rw', hb'⟩ := still_get hb
    exact r.cell i m rw' c hm hb'
  · have := (still_get hb).1; cases this
  · obtain ⟨e, rw', hb'⟩ := still_get hb
    exact r.lt i m rw' c hm hb' (hl.elim (fun h => by rw [e] at h; cases h) .inr)
  · have := (still_get hb).1; cases this
  · have := (still_get hb).1; cases this
theorem not_wr_still {μ : Mu} {h : H} {k : Nat} : ¬ Wr μ (h.map B.still) k := by
  rintro ⟨i, m, c, _, hb, _⟩
  have := (still_get hb).1; cases this
theorem callQ_core {fns : Fns} (hfn : ∀ f, FnT P f (fns f)) {f : FuncId} {vs : List V} {h : H} {K : V → Option R} (e : callQ fns f vs h K = some r) :
    ∃ v, K v = some r ∧ ∀ (μ : Mu) (w : World) (cvs : List Value), Rel μ h w → RepVs μ vs cvs → CallRes P f cvs w fun cv w' => Goes μ h w v h cv w' := by
  unfold callQ at e
  obtain ⟨v, h', h1, h2⟩ := callK_core hfn e
  split at h1
  · rename_i hfl
    refine ⟨v, h1, fun μ w cvs hr hv => (h2 μ w cvs hr.still hv).mono fun cv w' hg => ?_⟩
    obtain ⟨μ', he, hcv⟩ := hg
    have hf : Fr (Wr μ h) w w' := he.fr.mono fun k hk => absurd hk not_wr_still
    exact ⟨μ, ⟨hr.fr he.fr (fun i m rw c _ _ => not_wr_still) (fun _ _ _ => not_wr_still), .refl μ, hf, fun j rw c _ hb => ⟨c, hb, id⟩, fun i m rw c hi hm _ => absurd (getElem?_lt hm) (by omega), fun _ _ h => .inl h⟩, hcv.of_flat hfl⟩
  · cases h1
theorem callG_core {fns : Fns} (hfn : ∀ f, FnT P f (fns f)) {f : FuncId} {vs : List V} {h : H} {K : V → H → Option R} (e : callG fns f vs h K = some r) :
    ∃ v g, K v (h ++ g) = some r ∧ ∀ (μ : Mu) (w : World) (cvs : List Value), Rel μ h w → RepVs μ vs cvs → CallRes P f cvs w fun cv w' => Goes μ h w v (h ++ g) cv w' := by
  unfold callG at e
  obtain ⟨v, h', h1, h2⟩ := callK_core hfn e
  refine ⟨v, _, h1, fun μ w cvs hr hv => (h2 μ w cvs hr.still hv).mono fun cv w' hg => ?_⟩
  obtain ⟨μ', he, hcv⟩ := hg
  have hold := hr.fr (w' := w') he.fr (fun i m rw c _ _ => not_wr_still) (fun _ _ _ => not_wr_still)
  have hlen : h.length ≤ h'.length := by have := he.pre.len; rw [he.rel.len, hr.len] at this; exact this
  have hμ : μ'.l.length = (h ++ h'.drop h.length).length := by rw [he.rel.len]; simp; omega
  have cases2 : ∀ (i : Nat) (m : M) (rw : Bool) (c : C), μ'.l[i]? = some m → (h ++ h'.drop h.length)[i]? = some (.at rw c) →
      (i < h.length ∧ μ.l[i]? = some m ∧ h[i]? = some (.at rw c)) ∨ (h.length ≤ i ∧ h'[i]? = some (.at rw c) ∧ rw = true ∧ w.heap.size ≤ m.blk) := by
    intro i m rw c hm hb
    by_cases hi : i < h.length
    · rw [List.getElem?_append_left hi] at hb
      exact .inl ⟨hi, he.pre.back (by rw [hr.len]; exact hi) hm, hb⟩
    · rw [List.getElem?_append_right (by omega), List.getElem?_drop] at hb
      rw [show h.length + (i - h.length) = i by omega] at hb
      obtain ⟨q1, q2⟩ := he.new i m rw c (by rw [hr.len]; omega) hm hb
      exact .inr ⟨by omega, hb, q1, q2.resolve_left not_wr_still⟩
  refine ⟨μ', ⟨⟨hμ, ?_, ?_, ?_, ?_, ?_⟩, he.pre, he.fr.mono fun k hk => absurd hk not_wr_still, fun j rw c hj hb => ?_, fun i m rw c hi hm hb => ?_, fun k cur hk => (he.zn k cur hk).imp id (Or.imp (fun hk => absurd hk not_wr_still) id)⟩, hcv⟩
  · intro i m rw c hm hb p x hx
    rcases cases2 i m rw c hm hb with ⟨_, q1, q2⟩ | ⟨_, q2, _, _⟩
    · obtain ⟨u, q3, q4⟩ := hold.cell i m rw c q1 q2 p x hx
      exact ⟨u, q3, q4.pre he.pre⟩
    · exact he.rel.cell i m rw c hm q2 p x hx
  · intro i m c hm hb
    rcases cases2 i m true c hm hb with ⟨_, q1, q2⟩ | ⟨_, q2, _, _⟩
    · exact hold.own i m c q1 q2
    · exact he.rel.own i m c hm q2
  · intro i m rw c hm hb hl
    rcases cases2 i m rw c hm hb with ⟨_, q1, q2⟩ | ⟨_, q2, _, _⟩
    · exact hold.lt i m rw c q1 q2 hl
    · exact he.rel.lt i m rw c hm q2 hl
  · intro i j m n c rw d hne hm hn hb hd hl
    rcases cases2 i m true c hm hb with ⟨_, q1, q2⟩ | ⟨_, q2, _, q3⟩ <;> rcases cases2 j n rw d hn hd with ⟨_, s1, s2⟩ | ⟨_, s2, s3, s4⟩
    · exact hold.sep i j m n c rw d hne q1 s1 q2 s2 hl
    · have := hr.lt i m _ c q1 q2 (.inl rfl); omega
    · have := hr.lt j n _ d s1 s2 hl; omega
    · exact he.rel.sep i j m n c rw d hne hm hn q2 s2 hl
  · intro k cur hk
    refine ⟨(he.rel.fz k cur hk).1, fun i m c hm hb => ?_⟩
    rcases cases2 i m true c hm hb with ⟨_, q1, q2⟩ | ⟨_, q2, _, _⟩
    · rcases he.zn k cur hk with h5 | h5 | h5
      · exact (hr.fz k cur h5).2 i m c q1 q2
      · exact absurd h5 not_wr_still
      · have := hr.lt i m _ c q1 q2 (.inl rfl); omega
    · exact (he.rel.fz k cur hk).2 i m c hm q2
  · rw [List.getElem?_append_left (by rw [← hr.len]; exact hj)] at hb
    exact ⟨c, hb, id⟩
  · rcases cases2 i m rw c hm hb with ⟨q0, q1, q2⟩ | ⟨_, q2, q3, q4⟩
    · rw [hr.len] at hi; omega
    · exact ⟨q3, .inr q4⟩
theorem call_ok {o : Oper} {t : List V} {h h' : H} {v : V} {f : Operand} {args : Array Operand} {ts : Array TypeId} {fid : FuncId} (ho : o.op = .call ⟨.value f, args, ts⟩) (hf : ev t f = .fn fid)
    (hc : ∀ (μ : Mu) (w : World) (cvs : List Value), Rel μ h w → RepVs μ (args.toList.map (ev t)) cvs → CallRes P fid cvs w fun cv w' => Goes μ h w v h' cv w') : OpOk P o t h v h' := by
  intro μ a w hρ hr K Q hK
  have hfv := hρ f (by rw [ho]; simp [Op.operands, Call.operands])
  rw [hf] at hfv
  have hfv' : a.eval f = .func (.func fid) #[] #[] := hfv
  have hargs := RepVs_of (xs := args.toList) (t := t) (ρ := a.eval) (μ := μ) (fun x hx => hρ x (by rw [ho]; simp [Op.operands, Call.operands]; right; simpa using hx))
  have hex : (execOp a.eval o).run P w = (callFunc fid ⟨args.toList.map a.eval⟩).run P w := by
    unfold execOp
    rw [ho]
    simp only [resolve, hfv', Deferred.ofValue, Sem.run_bind, Sem.run_pure, Result.andThen, invoke]
    congr 2
    apply Array.toList_inj.1
    simp
  unfold Oper.wp
  rw [hex]
  rcases hc μ w _ hr hargs with ⟨h1, h2⟩ | ⟨cv, w', h1, h2⟩
  · rw [h1]
    refine Calls.mono h2 fun e w' ⟨cv, h3, h4⟩ => ?_
    subst h3
    exact hK cv w' h4
  · rw [h1]
    exact hK cv w' h2
end
end Go.Proofs.Ytpeplbbphpamhaa.Ab

namespace Go.Proofs.Ytpeplbbphpamhaa.Ab
set_option linter.unusedVariables false
set_option linter.unusedSimpArgs false
open Go
def KindOk (P : Program) (kd : Kd) (o : Oper) (t : List V) (h : H) (v : V) (h' : H) : Prop :=
  match kd with
  | .s => h' = h ∧ ∀ h2, OpOk P o t h2 v h2
  | .q => h' = h ∧ ∀ h2, Agree h h2 → OpOk P o t h2 v h2
  | .n => h' = h
  | .g => ∃ g, h' = h ++ g
  | .l => True
section
variable {P : Program} {R : Type} {r : R}
theorem step_ok {ty : Ty} (hty : TyOk P ty) {fns : Fns} (hfn : ∀ f, FnT P f (fns f)) {cls : Cls} {t : List V} {h : H} {o : Oper} {op : Op} (ho : o.op = op) {K : V → H → Option R} (e : stepK ty fns cls t h op K = some r) :
    ∃ v h', K v h' = some r ∧ OpOk P o t h v h' ∧ KindOk P (kindOf cls op) o t h v h' := by
  have quiet : ∀ {op : Op}, o.op = op → kindOf cls op = .q → quietK ty t h op (fun v => K v h) = some r → ∃ v h', K v h' = some r ∧ OpOk P o t h v h' ∧ KindOk P (kindOf cls op) o t h v h' := by
    intro op ho hk e
    subst ho
    obtain ⟨v, h1, h2⟩ := quiet_ok hty e
    exact ⟨v, h, h1, h2 h (.refl h), by rw [hk]; exact ⟨rfl, h2⟩⟩
  unfold stepK at e
  split at e
  · -- alloc
    split at e
    · rename_i I hI
      exact ⟨_, _, e, alloc_ok hty ho hI, ⟨_, rfl⟩⟩
    · cases e
  · -- box
    split at e
    · rename_i I l hI hl
      split at e
      · exact ⟨_, _, e, box_ok ho hl, ⟨_, rfl⟩⟩
      · cases e
    · cases e
  · -- buildSlice
    split at e
    · rename_i hJ
      split at e
      · rename_i I hI
        split at e
        · cases e
        · rename_i hd
          simp only [decide_eq_true_eq] at hd
          split at e
          · rename_i l hl
            split at e
            · rename_i c hc
              exact ⟨_, _, e, buildSlice_ok hty ho hJ rfl hI hd hl hc, ⟨_, rfl⟩⟩
            · cases e
          · cases e
      · cases e
    · cases e
  · -- makeSlice
    split at e
    · rename_i hJ hx hy
      split at e
      · rename_i I hI
        split at e
        · rename_i hd
          simp only [decide_eq_true_eq] at hd
          split at e
          · rename_i c hc
            exact ⟨_, _, e, makeSlice_ok hty ho hJ rfl hI hx hy hd hc, ⟨_, rfl⟩⟩
          · cases e
        · cases e
      · cases e
    · cases e
  · -- store
    obtain ⟨h', h1, h2⟩ := store_ok hty ho e
    exact ⟨_, h', h1, h2, trivial⟩
  · -- append
    obtain ⟨v, h', h1, h2⟩ := append_ok hty ho e
    exact ⟨v, h', h1, h2, trivial⟩
  · -- a call
    split at e
    · rename_i hf
      split at e
      · obtain ⟨v, h1, h2⟩ := callQ_core hfn e
        exact ⟨v, h, h1, call_ok ho hf h2, rfl⟩
      · obtain ⟨v, g, h1, h2⟩ := callG_core hfn e
        exact ⟨v, _, h1, call_ok ho hf h2, ⟨g, rfl⟩⟩
      · obtain ⟨v, h', h1, h2⟩ := callK_core hfn e
        exact ⟨v, h', h1, call_ok ho hf h2, trivial⟩
    · cases e
  · -- the quiet ones
    have hk : kindOf cls op = .q ∨ (∃ x, op = .move x) ∨ ∃ x i, op = .extract x i := by
      unfold quietK at e
      split at e <;> first | exact .inl rfl | exact .inr (.inl ⟨_, rfl⟩) | exact .inr (.inr ⟨_, _, rfl⟩) | (cases e; done)
    rcases hk with hk | ⟨x, rfl⟩ | ⟨x, i, rfl⟩
    · exact quiet ho hk e
    · have hm : ∀ h2, OpOk P o t h2 (ev t x) h2 := fun h2 => by
        have e2 : quietK ty t h2 o.op (fun v => some v) = some (ev t x) := by rw [ho]; rfl
        obtain ⟨v, h1, h3⟩ := quiet_ok hty e2
        cases h1
        exact h3 h2 (.refl h2)
      exact ⟨ev t x, h, e, hm h, rfl, hm⟩
    · have hx : ∃ v, quietK ty t h (.extract x i) (fun v => some v) = some v ∧ K v h = some r := by
        simp only [quietK] at e ⊢
        split at e
        · split at e
          · exact ⟨_, rfl, e⟩
          · cases e
        · cases e
      obtain ⟨v, hv, he⟩ := hx
      have hm : ∀ h2, OpOk P o t h2 v h2 := fun h2 => by
        have e2 : quietK ty t h2 o.op (fun v => some v) = some v := by rw [ho]; exact hv
        obtain ⟨v', h1, h3⟩ := quiet_ok hty e2
        cases h1
        exact h3 h2 (.refl h2)
      exact ⟨v, h, he, hm h, rfl, hm⟩
theorem nth_set {t : List V} {d i : Nat} {v : V} : nth (t.set d v) i = if i = d ∧ d < t.length then v else nth t i := by
  induction t generalizing d i with
  | nil => simp [nth]
  | cons x t ih =>
    cases d with
    | zero => cases i <;> simp [nth]
    | succ d =>
      cases i with
      | zero => simp [nth]
      | succ i => simp [nth, ih]
theorem setK_eq {t : List V} {d : Nat} {v : V} {K : List V → Option R} : setK t d v K = K (t.set d v) := by
  induction t generalizing d K with
  | nil => simp [setK]
  | cons x t ih =>
    cases d with
    | zero => simp [setK]
    | succ d => simp only [setK, ih]; rfl
def putV (t : List V) (d : Option Tmp) (v : V) : List V := match d with | some d => t.set d v | none => t
theorem atomK_eq {x : A} {K : A → Option R} : atomK x K = K x := by cases x <;> rfl
theorem atomsK_eq : ∀ {l : List A} {K : List A → Option R}, atomsK l K = K l
  | [], _ => rfl
  | x :: l, K => by simp only [atomsK, atomK_eq, atomsK_eq (l := l)]
theorem unitK_eq {x : U} {K : U → Option R} : unitK x K = K x := by
  cases x with
  | a x => simp only [unitK, atomK_eq]
  | g l => simp only [unitK, atomsK_eq]
theorem unitsK_eq : ∀ {l : List U} {K : List U → Option R}, unitsK l K = K l
  | [], _ => rfl
  | x :: l, K => by simp only [unitsK, unitK_eq, unitsK_eq (l := l)]
theorem valK_eq {v : V} {K : V → Option R} : valK v K = K v := by
  cases v with
  | any => rfl
  | u x => simp only [valK, unitK_eq]
  | tup l => simp only [valK, unitsK_eq]
theorem putK_eq {t : List V} {d : Option Tmp} {v : V} {K : List V → Option R} : putK t d v K = K (putV t d v) := by
  cases d with
  | none => rfl
  | some d => simp only [putK, valK_eq]; exact setK_eq
theorem set_nth {t : List V} {d : Nat} {v : V} (h : nth t d = v) : t.set d v = t := by
  induction t generalizing d with
  | nil => simp
  | cons x t ih =>
    cases d with
    | zero => simp [nth] at h; simp [h]
    | succ d => simp [nth] at h; simp [ih h]
theorem Slots.put {μ : Mu} {t : List V} {a : Act} {d : Option Tmp} {v : V} {cv : Value} (h : Slots μ t a) (hv : RepV μ v cv) : Slots μ (putV t d v) (a.put d cv) := by
  cases d with
  | none => exact h
  | some d =>
    refine ⟨by simp [putV, Act.put, h.1], fun i => ?_⟩
    simp only [putV, Act.put, nth_set]
    split
    · rename_i he
      obtain ⟨rfl, hlt⟩ := he
      rw [Array.getD_eq_getD_getElem?, Array.getElem?_setIfInBounds]
      simp [h.1, hlt, hv]
    · rename_i he
      have := h.2 i
      rw [Array.getD_eq_getD_getElem?] at this ⊢
      rw [Array.getElem?_setIfInBounds]
      split
      · rename_i e
        subst e
        split
        · rename_i hlt; exact absurd ⟨rfl, by rw [← h.1]; exact hlt⟩ he
        · rename_i hlt
          rw [Array.getElem?_eq_none (by omega)] at this
          exact this
      · exact this
theorem Slots.pre {μ μ' : Mu} (hp : Pre μ μ') {t : List V} {a : Act} (h : Slots μ t a) : Slots μ' t a := ⟨h.1, fun i => (h.2 i).pre hp⟩
inductive Lex (P : Program) (cl : Nat → Cls) (ops : Array Oper) : Nat → List Oper → List V → H → List V → H → Prop
  | nil (n : Nat) (t : List V) (h : H) : Lex P cl ops n [] t h t h
  | run (n : Nat) (o : Oper) (rest : List Oper) (t : List V) (h : H) (v : V) (h' : H) (t' : List V) (h2 : H)
      (hg : ∀ g want, o.guard = some (g, want) → ∃ d, dstAt ops g = some d ∧ nth t d = .bool want)
      (ho : OpOk P o t h v h') (hk : KindOk P (kindOf (cl n) o.op) o t h v h') (hr : Lex P cl ops (n + 1) rest (putV t o.dst v) h' t' h2) : Lex P cl ops n (o :: rest) t h t' h2
  | skip (n : Nat) (o : Oper) (rest : List Oper) (t : List V) (h : H) (t' : List V) (h2 : H) (g : Nat) (want : Bool) (d : Nat) (hg : o.guard = some (g, want)) (hd : dstAt ops g = some d)
      (hn : nth t d = .bool (!want) ∨ nth t d = V.no) (hr : Lex P cl ops (n + 1) rest (putV t o.dst V.no) h t' h2) : Lex P cl ops n (o :: rest) t h t' h2
theorem opsK_lex {ty : Ty} (hty : TyOk P ty) {fns : Fns} (hfn : ∀ f, FnT P f (fns f)) {cl : Nat → Cls} {ops : Array Oper} : ∀ {l : List Oper} {n : Nat} {t : List V} {h : H} {K : List V → H → Option R},
    opsK ty fns cl ops n l t h K = some r → ∃ t' h', K t' h' = some r ∧ Lex P cl ops n l t h t' h'
  | [], n, t, h, K, e => ⟨t, h, e, .nil n t h⟩
  | o :: rest, n, t, h, K, e => by
    unfold opsK at e
    split at e
    · rename_i hg
      obtain ⟨v, h', h1, h2, h3⟩ := step_ok hty hfn rfl e
      rw [putK_eq] at h1
      obtain ⟨t', h2', h4, h5⟩ := opsK_lex hty hfn h1
      exact ⟨t', h2', h4, .run n o rest t h v h' t' h2' (fun g want hh => by rw [hg] at hh; cases hh) h2 h3 h5⟩
    · rename_i j want hg
      split at e
      · cases e
      · rename_i d hd
        split at e
        · rename_i p hb
          split at e
          · split at e
            · rw [setK_eq, set_nth hb] at e
              obtain ⟨v, h', h1, h2, h3⟩ := step_ok hty hfn rfl e
              rw [putK_eq] at h1
              obtain ⟨t', h2', h4, h5⟩ := opsK_lex hty hfn h1
              exact ⟨t', h2', h4, .run n o rest t h v h' t' h2' (fun g want hh => by rw [hg] at hh; cases hh; exact ⟨d, hd, hb⟩) h2 h3 h5⟩
            · rw [setK_eq, set_nth hb, putK_eq] at e
              obtain ⟨t', h2', h4, h5⟩ := opsK_lex hty hfn e
              exact ⟨t', h2', h4, .skip n o rest t h t' h2' j false d hg hd (.inl hb) h5⟩
          · split at e
            · rw [setK_eq, set_nth hb] at e
              obtain ⟨v, h', h1, h2, h3⟩ := step_ok hty hfn rfl e
              rw [putK_eq] at h1
              obtain ⟨t', h2', h4, h5⟩ := opsK_lex hty hfn h1
              exact ⟨t', h2', h4, .run n o rest t h v h' t' h2' (fun g want hh => by rw [hg] at hh; cases hh; exact ⟨d, hd, hb⟩) h2 h3 h5⟩
            · rw [setK_eq, set_nth hb, putK_eq] at e
              obtain ⟨t', h2', h4, h5⟩ := opsK_lex hty hfn e
              exact ⟨t', h2', h4, .skip n o rest t h t' h2' j true d hg hd (.inl hb) h5⟩
        · rename_i hb
          rw [putK_eq] at e
          obtain ⟨t', h2', h4, h5⟩ := opsK_lex hty hfn e
          exact ⟨t', h2', h4, .skip n o rest t h t' h2' j want d hg hd (.inr hb) h5⟩
        · cases e
structure Inv (μ0 : Mu) (h0 : H) (w0 : World) (μ : Mu) (st : St) (a : Act) (w : World) : Prop where
  slots : Slots μ st.t a
  defers : a.defers = []
  ev : Ev μ0 h0 w0 μ st.h w
theorem wanted_of {μ : Mu} {t : List V} {a : Act} (hs : Slots μ t a) {ops : Array Oper} {o : Oper} {g : Nat} {want : Bool} {d : Nat} (hg : o.guard = some (g, want)) (hd : dstAt ops g = some d) :
    (nth t d = .bool want → Region.wanted o (yielded ops a.tmps) = true) ∧ (nth t d = .bool (!want) ∨ nth t d = V.no → Region.wanted o (yielded ops a.tmps) = false) := by
  have hv := hs.2 d
  have hy : yielded ops a.tmps g = match a.tmps[d]? with | some (.bool b) => some b | _ => none := by
    unfold dstAt at hd
    simp only [yielded, hd, Option.bind_some]
    cases a.tmps[d]? with
    | none => rfl
    | some u => cases u <;> rfl
  rw [Array.getD_eq_getD_getElem?] at hv
  unfold Region.wanted
  simp only [hg, hy]
  refine ⟨fun h => ?_, fun h => ?_⟩
  · rw [h] at hv
    have := repBool hv
    cases hh : a.tmps[d]? with
    | none => rw [hh] at this; cases this
    | some u => rw [hh] at this; simp at this; subst this; simp
  · rcases h with h | h
    · rw [h] at hv
      have := repBool hv
      cases hh : a.tmps[d]? with
      | none => rw [hh] at this; cases this
      | some u => rw [hh] at this; simp at this; subst this; cases want <;> simp
    · rw [h] at hv
      obtain ⟨cs, hcs, _⟩ := hv
      cases hh : a.tmps[d]? with
      | none => simp
      | some u => rw [hh] at hcs; simp at hcs; subst hcs; simp
theorem lex_wp {cl : Nat → Cls} {ops : Array Oper} {Q : Exit → Act → World → Prop} {μ0 : Mu} {h0 : H} {w0 : World} {t' : List V} {h' : H} (hQ : ∀ μ a w, Inv μ0 h0 w0 μ ⟨t', h'⟩ a w → Q .normal a w) :
    ∀ {l : List Oper} {n : Nat} {t : List V} {h : H}, Lex P cl ops n l t h t' h' → ∀ {μ : Mu} {a : Act} {w : World}, Inv μ0 h0 w0 μ ⟨t, h⟩ a w → wpList P ops Q l a w := by
  intro l n t h hl
  induction hl with
  | nil n t h => intro μ a w hi; exact hQ μ a w hi
  | run n o rest t h v h1 t' h2 hg ho hk hr ih =>
    intro μ a w hi
    have hw : Region.wanted o (yielded ops a.tmps) = true := by
      cases hgd : o.guard with
      | none => unfold Region.wanted; rw [hgd]
      | some p =>
        obtain ⟨g, want⟩ := p
        obtain ⟨d, hd, hn⟩ := hg g want hgd
        exact (wanted_of hi.slots hgd hd).1 hn
    refine wpList_step fun K hK => ?_
    rw [if_pos hw]
    refine ho μ a w (fun x _ => ev_rep hi.slots x) hi.ev.rel K Q fun cv w' hgo => hK _ _ ?_
    obtain ⟨μ', he, hcv⟩ := hgo
    exact ih hQ ⟨(hi.slots.pre he.pre).put hcv, by cases o.dst <;> exact hi.defers, hi.ev.trans he⟩
  | skip n o rest t h t' h2 g want d hg hd hn hr ih =>
    intro μ a w hi
    have hw := (wanted_of hi.slots hg hd).2 hn
    refine wpList_step fun K hK => ?_
    rw [if_neg (by rw [hw]; simp)]
    exact hK _ _ (ih hQ ⟨hi.slots.put (RepV.no μ), by cases o.dst <;> exact hi.defers, hi.ev⟩)
end
end Go.Proofs.Ytpeplbbphpamhaa.Ab
