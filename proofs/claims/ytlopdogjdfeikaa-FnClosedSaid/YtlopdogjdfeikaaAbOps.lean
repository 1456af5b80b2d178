/- The quiet operations: what the small machine gives is what the model gives, on every tape. Only lemmas. -/
import Derived.Test.YtlopdogjdfeikaaAbFlo
namespace Go.Proofs.Ytlopdogjdfeikaa.Ab
set_option linter.unusedVariables false
set_option linter.unusedSimpArgs false
open Go

/-- A run that gives a value that says 'v', and moves only the count of answers. -/
def Gives (P : Program) (s : Sem Value) (μ : Mu) (v : V) (w : World) : Prop := ∃ cv n, s.run P w = .ok cv (w.drewN n) ∧ RepV μ v cv
theorem Gives.ofRep {P : Program} {μ : Mu} {v : V} {cv : Value} (h : RepV μ v cv) (w : World) : Gives P (pure cv) μ v w := ⟨cv, 0, rfl, h⟩

section
variable {P : Program} {R : Type} {K : V → Option R} {r : R}

theorem repInt {μ : Mu} {k : IntKind} {n : Int} {cv : Value} (h : RepV μ (.int k n) cv) : cv = .int k n := h
theorem repFl {μ : Mu} {k : FloatKind} {n : Nat} {cv : Value} (h : RepV μ (.fl k n) cv) : ∃ b, cv = .float k b ∧ canon k b = n := h
theorem repCx {μ : Mu} {k : FloatKind} {x y : Nat} {cv : Value} (h : RepV μ (.cx k x y) cv) : ∃ a b, cv = .complex k a b ∧ canon k a = x ∧ canon k b = y := h
theorem repBool {μ : Mu} {b : Bool} {cv : Value} (h : RepV μ (.bool b) cv) : cv = .bool b := h

theorem iop_run {op : BinOp} {k : IntKind} {x y : Int} (hs : op ≠ .shl) (hs' : op ≠ .shr) (e : iopK op k x y K = some r) :
    ∃ v, K v = some r ∧ ∀ (μ : Mu) (w : World) (xt : TypeId) (xo yo : Operand),
      Gives P (do eqGuard op xt xo yo (.int k x) (.int k y); binOp op xt (.int k x) (.int k y)) μ v w := by
  cases op <;> simp only [iopK] at e
  case quo =>
    split at e
    · cases e
    · rename_i h; simp at h
      exact ⟨_, e, fun μ w xt xo yo => ⟨_, 0, by simp [eqGuard, binOp, Op.intDiv, h, World.drewN], rfl⟩⟩
  case rem =>
    split at e
    · cases e
    · rename_i h; simp at h
      exact ⟨_, e, fun μ w xt xo yo => ⟨_, 0, by simp [eqGuard, binOp, Op.intDiv, h, World.drewN], rfl⟩⟩
  all_goals first
    | (cases e; done)
    | exact absurd rfl hs
    | exact absurd rfl hs'
    | exact ⟨_, e, fun μ w xt xo yo => ⟨_, 0, by simp [eqGuard, binOp, Op.intArith, Op.intCmp, Op.intBits, World.drewN], rfl⟩⟩

theorem shift_run {op : BinOp} {k k' : IntKind} {x y : Int} (e : shiftK op k x y K = some r) :
    ∃ v, K v = some r ∧ ∀ (μ : Mu) (w : World) (xt : TypeId) (xo yo : Operand),
      Gives P (do eqGuard op xt xo yo (.int k x) (.int k' y); binOp op xt (.int k x) (.int k' y)) μ v w := by
  unfold shiftK at e
  split at e
  · cases e
  rename_i h; simp at h
  split at e
  · exact ⟨_, e, fun μ w xt xo yo => ⟨_, 0, by simp [eqGuard, binOp, Op.shift, Int.not_lt.2 h, World.drewN], rfl⟩⟩
  · exact ⟨_, e, fun μ w xt xo yo => ⟨_, 0, by simp [eqGuard, binOp, Op.shift, Int.not_lt.2 h, World.drewN], rfl⟩⟩
  · cases e

theorem eqGuard_float (op : BinOp) (t : TypeId) (xo yo : Operand) (k k' : FloatKind) (a b : Nat) : eqGuard op t xo yo (.float k a) (.float k' b) = pure () := by
  cases op <;> rfl
theorem eqGuard_complex (op : BinOp) (t : TypeId) (xo yo : Operand) (k k' : FloatKind) (a b c d : Nat) : eqGuard op t xo yo (.complex k a b) (.complex k' c d) = pure () := by
  cases op <;> rfl
theorem eqGuard_bool (op : BinOp) (t : TypeId) (xo yo : Operand) (a b : Bool) : eqGuard op t xo yo (.bool a) (.bool b) = pure () := by
  cases op <;> rfl
theorem gives_guard {μ : Mu} {v : V} {w : World} {s : Sem Unit} {t : Sem Value} (hs : s = pure ()) (h : Gives P t μ v w) : Gives P (do s; t) μ v w := by
  subst hs; exact h

theorem arith_run (op : BinOp) (k : FloatKind) (x y : Nat) (w : World) (h : isArith op = true) :
    ∃ r' n, (Op.Complex.arith op k x y).run P w = .ok r' (w.drewN n) ∧ canon k r' = fop op k (canon k x) (canon k y) := by
  obtain ⟨r', n, h1, h2⟩ := run_fop (P := P) op k x y w h
  exact ⟨r', n, by simp [Op.Complex.arith, h1], h2⟩

theorem drewN_drewN (w : World) (a b : Nat) : (w.drewN a).drewN b = w.drewN (a + b) := by simp [World.drewN, Nat.add_assoc]

theorem nil_run {ty : Ty} (hty : TyOk P ty) {op : BinOp} {xt : TypeId} {b : Bool} (e : nilK ty op xt b K = some r) :
    ∃ v, K v = some r ∧ ∀ (μ : Mu) (ad : Option Addr) (l c : Nat), ad.isNone = b → ∀ (w : World) (xo yo : Operand),
      Gives P (do eqGuard op xt xo yo (.slice ad l c) (.slice none 0 0); binOp op xt (.slice ad l c) (.slice none 0 0)) μ v w := by
  unfold nilK at e
  split at e
  · rename_i hI
    obtain ⟨i, z, d, hr⟩ := row hty hI
    have hd := hr.desc
    have hu := hr.under
    unfold descB at hd
    cases d <;> simp at hd
    have hq : ∀ (d : Nat) (ad : Option Addr) (l c : Nat) (w : World), (Op.equalIn (d + 1) xt (.slice ad l c) (.slice none 0 0)).run P w = .ok ad.isNone w := by
      intro d ad l c w
      cases ad <;> simp [Op.equalIn, run_underlying hu]
    split at e
    · refine ⟨_, e, fun μ ad l c hb w xo yo => ?_⟩
      subst hb
      refine gives_guard rfl ⟨.bool ad.isNone, 0, ?_, rfl⟩
      simp only [binOp]
      simp [Op.equal, Op.maxDepth, hq 9999 ad l c w, World.drewN]
    · refine ⟨_, e, fun μ ad l c hb w xo yo => ?_⟩
      subst hb
      refine gives_guard rfl ⟨.bool (!ad.isNone), 0, ?_, rfl⟩
      simp only [binOp]
      simp [Op.equal, Op.maxDepth, hq 9999 ad l c w, World.drewN]
    · cases e
  · cases e
theorem bin_run {ty : Ty} (hty : TyOk P ty) {op : BinOp} {xt : TypeId} {x y : V} (e : binK ty op xt x y K = some r) :
    ∃ v, K v = some r ∧ ∀ (μ : Mu) (a b : Value), RepV μ x a → RepV μ y b → ∀ (w : World) (xo yo : Operand),
      Gives P (do eqGuard op xt xo yo a b; binOp op xt a b) μ v w := by
  unfold binK at e
  split at e
  · -- integers
    rename_i k a k' b
    split at e
    · obtain ⟨v, h1, h2⟩ := shift_run (P := P) (k' := k') e
      exact ⟨v, h1, fun μ x y hx hy w xo yo => by cases repInt hx; cases repInt hy; exact h2 μ w xt xo yo⟩
    · obtain ⟨v, h1, h2⟩ := shift_run (P := P) (k' := k') e
      exact ⟨v, h1, fun μ x y hx hy w xo yo => by cases repInt hx; cases repInt hy; exact h2 μ w xt xo yo⟩
    · rename_i hs hs'
      split at e
      · rename_i hk; subst hk
        obtain ⟨v, h1, h2⟩ := iop_run (P := P) (fun h => hs h) (fun h => hs' h) e
        exact ⟨v, h1, fun μ x y hx hy w xo yo => by cases repInt hx; cases repInt hy; exact h2 μ w xt xo yo⟩
      · cases e
  · -- floats
    rename_i k a k' b
    split at e
    · rename_i hk; subst hk
      split at e
      · rename_i ha
        refine ⟨_, e, fun μ x y hx hy w xo yo => ?_⟩
        obtain ⟨x', rfl, rfl⟩ := repFl hx
        obtain ⟨y', rfl, rfl⟩ := repFl hy
        refine gives_guard (eqGuard_float ..) ?_
        obtain ⟨r', n, h1, h2⟩ := run_fop (P := P) op k x' y' w ha
        refine ⟨.float k r', n, ?_, ⟨r', rfl, h2⟩⟩
        cases op <;> simp [isArith] at ha <;> simpa [binOp] using h1
      · rename_i ha
        split at e
        · rename_i c hc
          refine ⟨_, e, fun μ x y hx hy w xo yo => ?_⟩
          obtain ⟨x', rfl, rfl⟩ := repFl hx
          obtain ⟨y', rfl, rfl⟩ := repFl hy
          refine gives_guard (eqGuard_float ..) ⟨.bool c, 0, ?_, rfl⟩
          unfold fcmp at hc
          rw [order_canon] at hc
          cases op <;> simp at hc <;> simp [binOp, Op.floatCmp, hc, World.drewN]
        · cases e
    · cases e
  · -- complex numbers
    rename_i k a b k' c d
    split at e
    · rename_i hk; subst hk
      split at e
      · refine ⟨_, e, fun μ x y hx hy w xo yo => ?_⟩
        obtain ⟨x1, x2, rfl, rfl, rfl⟩ := repCx hx
        obtain ⟨y1, y2, rfl, rfl, rfl⟩ := repCx hy
        refine gives_guard (eqGuard_complex ..) ?_
        obtain ⟨r1, n1, h1, h2⟩ := arith_run (P := P) .add k x1 y1 w rfl
        obtain ⟨r2, n2, h3, h4⟩ := arith_run (P := P) .add k x2 y2 (w.drewN n1) rfl
        exact ⟨.complex k r1 r2, n1 + n2, by simp [binOp, Op.complexOp, h1, h3], ⟨r1, r2, rfl, h2, h4⟩⟩
      · refine ⟨_, e, fun μ x y hx hy w xo yo => ?_⟩
        obtain ⟨x1, x2, rfl, rfl, rfl⟩ := repCx hx
        obtain ⟨y1, y2, rfl, rfl, rfl⟩ := repCx hy
        refine gives_guard (eqGuard_complex ..) ?_
        obtain ⟨r1, n1, h1, h2⟩ := arith_run (P := P) .sub k x1 y1 w rfl
        obtain ⟨r2, n2, h3, h4⟩ := arith_run (P := P) .sub k x2 y2 (w.drewN n1) rfl
        exact ⟨.complex k r1 r2, n1 + n2, by simp [binOp, Op.complexOp, h1, h3], ⟨r1, r2, rfl, h2, h4⟩⟩
      · refine ⟨_, e, fun μ x y hx hy w xo yo => ?_⟩
        obtain ⟨x1, x2, rfl, rfl, rfl⟩ := repCx hx
        obtain ⟨y1, y2, rfl, rfl, rfl⟩ := repCx hy
        exact gives_guard (eqGuard_complex ..) ⟨_, 0, run_eql_complex .., by rw [order_canon, order_canon]; rfl⟩
      · refine ⟨_, e, fun μ x y hx hy w xo yo => ?_⟩
        obtain ⟨x1, x2, rfl, rfl, rfl⟩ := repCx hx
        obtain ⟨y1, y2, rfl, rfl, rfl⟩ := repCx hy
        exact gives_guard (eqGuard_complex ..) ⟨_, 0, run_neq_complex .., by rw [order_canon, order_canon]; rfl⟩
      · cases e
    · cases e
  · -- bools
    rename_i a b
    split at e
    · rename_i hI
      obtain ⟨i, z, d, hr⟩ := row hty hI
      have hd := hr.desc
      have hu := hr.under
      unfold descB at hd
      cases d <;> simp at hd
      split at e
      · refine ⟨_, e, fun μ x y hx hy w xo yo => ?_⟩
        cases repBool hx; cases repBool hy
        exact gives_guard (eqGuard_bool ..) ⟨.bool (a == b), 0, run_eql_bool w xt _ _ hu, rfl⟩
      · refine ⟨_, e, fun μ x y hx hy w xo yo => ?_⟩
        cases repBool hx; cases repBool hy
        exact gives_guard (eqGuard_bool ..) ⟨.bool (!(a == b)), 0, run_neq_bool w xt _ _ hu, rfl⟩
      · cases e
    · cases e
  · obtain ⟨v, h1, h2⟩ := nil_run (P := P) hty e
    refine ⟨v, h1, fun μ x y hx hy w xo yo => ?_⟩
    obtain ⟨m, ad, c, _, rfl, _⟩ := hx
    have hy : y = .slice none 0 0 := hy
    subst hy
    exact h2 μ (some ad) _ c rfl w xo yo
  · obtain ⟨v, h1, h2⟩ := nil_run (P := P) hty e
    refine ⟨v, h1, fun μ x y hx hy w xo yo => ?_⟩
    obtain ⟨ad, rfl⟩ := hx
    have hy : y = .slice none 0 0 := hy
    subst hy
    exact h2 μ (some ad) 0 0 rfl w xo yo
  · obtain ⟨v, h1, h2⟩ := nil_run (P := P) hty e
    refine ⟨v, h1, fun μ x y hx hy w xo yo => ?_⟩
    have hx : x = .slice none 0 0 := hx
    have hy : y = .slice none 0 0 := hy
    subst hx
    subst hy
    exact h2 μ none 0 0 rfl w xo yo
  · cases e

theorem un_run {op : UnOp} {x : V} (e : unK op x K = some r) :
    ∃ v, K v = some r ∧ ∀ (μ : Mu) (a : Value), RepV μ x a → ∀ (w : World), Gives P (Op.unary op a) μ v w := by
  unfold unK at e
  split at e
  · exact ⟨_, e, fun μ a h w => by cases repBool h; exact ⟨_, 0, rfl, rfl⟩⟩
  · exact ⟨_, e, fun μ a h w => by cases repInt h; exact ⟨_, 0, rfl, rfl⟩⟩
  · refine ⟨_, e, fun μ a h w => ?_⟩
    obtain ⟨b, rfl, rfl⟩ := repFl h
    exact ⟨_, 0, rfl, ⟨_, rfl, (fneg_canon _ _).symm⟩⟩
  · refine ⟨_, e, fun μ a h w => ?_⟩
    obtain ⟨b, c, rfl, rfl, rfl⟩ := repCx h
    exact ⟨_, 0, rfl, ⟨_, _, rfl, (fneg_canon _ _).symm, (fneg_canon _ _).symm⟩⟩
  · simp only [iopK] at e
    exact ⟨_, e, fun μ a h w => by cases repInt h; exact ⟨_, 0, rfl, rfl⟩⟩
  · cases e

theorem desc_int {I : TyI} {d : TypeDesc} {k : IntKind} (h : descB I d = true) (e : I.d = .int k) : d = .int k := by
  unfold descB at h; rw [e] at h; cases d <;> simp at h; rw [h.1]
theorem desc_fl {I : TyI} {d : TypeDesc} {k : FloatKind} (h : descB I d = true) (e : I.d = .fl k) : d = .float k := by
  unfold descB at h; rw [e] at h; cases d <;> simp at h; rw [h.1]
theorem desc_cx {I : TyI} {d : TypeDesc} {k : FloatKind} (h : descB I d = true) (e : I.d = .cx k) : d = .complex k := by
  unfold descB at h; rw [e] at h; cases d <;> simp at h; rw [h.1]
theorem desc_slice {I : TyI} {d : TypeDesc} {k : TypeId} (h : descB I d = true) (e : I.d = .slice k) : d = .slice k := by
  unfold descB at h; rw [e] at h; cases d <;> simp at h; rw [h.1]
theorem desc_array {I : TyI} {d : TypeDesc} {n : Nat} {k : TypeId} (h : descB I d = true) (e : I.d = .array n k) : d = .array n k := by
  unfold descB at h; rw [e] at h; cases d <;> simp at h; rw [h.1.1, h.1.2]
theorem desc_struct {I : TyI} {d : TypeDesc} {fs : List (Nat × TypeId)} (h : descB I d = true) (e : I.d = .struct fs) : ∃ gs, d = .struct gs ∧ fs = gs.toList.map fun f => (f.offset, f.type) := by
  unfold descB at h; rw [e] at h; cases d <;> simp at h; exact ⟨_, rfl, h.1⟩

theorem conv_run {ty : Ty} (hty : TyOk P ty) {s d : TypeId} {x : V} (e : convK ty s d x K = some r) :
    ∃ v, K v = some r ∧ ∀ (μ : Mu) (a : Value), RepV μ x a → ∀ (w : World), Gives P (convert s d a) μ v w := by
  unfold convK at e
  split at e
  · rename_i hs hd
    obtain ⟨_, _, ds, rs⟩ := row hty hs
    obtain ⟨_, _, dd, rd⟩ := row hty hd
    have h2 := desc_int rd.desc rfl
    subst h2
    refine ⟨_, e, fun μ a h w => ?_⟩
    cases repInt h
    refine ⟨_, 0, ?_, rfl⟩
    cases ds <;> simp [convert, run_underlying rs.under, run_underlying rd.under, Conv.intToInt, World.drewN]
  · rename_i hs hd
    obtain ⟨_, _, ds, rs⟩ := row hty hs
    obtain ⟨_, _, dd, rd⟩ := row hty hd
    have h2 := desc_int rd.desc rfl
    subst h2
    split at e
    · rename_i n hn
      refine ⟨_, e, fun μ a h w => ?_⟩
      obtain ⟨b, rfl, rfl⟩ := repFl h
      rw [toInt_canon] at hn
      exact ⟨_, 0, run_convert_float_int w s d _ _ b n (by rw [rs.under]; rfl) rd.under hn, rfl⟩
    · cases e
  · rename_i hs hd
    obtain ⟨_, _, ds, rs⟩ := row hty hs
    obtain ⟨_, _, dd, rd⟩ := row hty hd
    have h2 := desc_fl rd.desc rfl
    subst h2
    refine ⟨_, e, fun μ a h w => ?_⟩
    cases repInt h
    exact ⟨_, 0, run_convert_int_float w s d _ _ _ (by rw [rs.under]; rfl) rd.under, ⟨_, rfl, canon_of (isN_nearest' _ _)⟩⟩
  · rename_i hs hd
    obtain ⟨_, _, ds, rs⟩ := row hty hs
    obtain ⟨_, _, dd, rd⟩ := row hty hd
    have h2 := desc_fl rd.desc rfl
    subst h2
    split at e
    · rename_i q hq
      refine ⟨_, e, fun μ a h w => ?_⟩
      obtain ⟨b, rfl, rfl⟩ := repFl h
      obtain ⟨r', n, h3, h4⟩ := run_fconv (P := P) w hq
      refine ⟨_, n, ?_, ⟨r', rfl, h4⟩⟩
      cases ds <;> simp [convert, run_underlying rs.under, run_underlying rd.under, h3]
    · cases e
  · rename_i hs hd
    obtain ⟨_, _, ds, rs⟩ := row hty hs
    obtain ⟨_, _, dd, rd⟩ := row hty hd
    have h2 := desc_cx rd.desc rfl
    subst h2
    split at e
    · rename_i q hq
      split at e
      · rename_i q2 hq2
        refine ⟨_, e, fun μ a h w => ?_⟩
        obtain ⟨b, c, rfl, rfl, rfl⟩ := repCx h
        obtain ⟨r1, n1, h3, h4⟩ := run_fconv (P := P) w hq
        obtain ⟨r2, n2, h5, h6⟩ := run_fconv (P := P) (w.drewN n1) hq2
        refine ⟨_, n1 + n2, ?_, ⟨r1, r2, rfl, h4, h6⟩⟩
        cases ds <;> simp [convert, run_underlying rs.under, run_underlying rd.under, Conv.complexToComplex, h3, h5]
      · cases e
    · cases e
  · cases e

end
end Go.Proofs.Ytlopdogjdfeikaa.Ab
