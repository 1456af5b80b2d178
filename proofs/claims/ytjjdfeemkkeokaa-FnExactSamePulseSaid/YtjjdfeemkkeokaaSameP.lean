/- Pulses: the same ones. Only lemmas. Printed by gen_same.py. -/
import Derived.Test.YtjjdfeemkkeokaaLib
import Derived.Test.YtjjdfeemkkeokaaSamN
namespace Go.Proofs.Ytjjdfeemkkeokaa.Ab
set_option linter.unusedVariables false
set_option linter.unusedSimpArgs false
open Go
theorem ok_bits32_ok : FnT Try.prog 92 (gBits .f32 .u32) := bits32_ok Try.func92 (by decide) (by rfl) (by rfl) (by rfl)
theorem ok_bits64_ok : FnT Try.prog 91 (gBits .f64 .u64) := bits64_ok Try.func91 (by decide) (by rfl) (by rfl) (by rfl)
def gBI : GT := fun vs h => match vs, h with | [.fl .f32 x], [] => .ret (.int .i64 (bI x)) [] | _, _ => .no
def gSB : GT := fun vs h => match vs, h with | [.fl .f64 x], [] => .ite (!(isN .f64 x)) (.ret (.bool (sbD x)) []) .no | _, _ => .no
def gSN : GT := fun vs h => match vs, h with | [.fl .f32 a, .fl .f32 b], [] => .ite (decide (a < 4294967296 ∧ b < 4294967296)) (.ret (.bool (sN a b)) []) .no | _, _ => .no
theorem up_num' {x : Nat} (h : isN .f32 x = false) : isN .f64 (up x) = false := by
  unfold isN
  rcases up_num h with ⟨s, hd⟩ | ⟨s, m, e, hd, _⟩ <;> rw [hd] <;> rfl
def tab_l01Bits : Fns := tabT [(92, (gBits .f32 .u32))]
theorem tabok_l01Bits : ∀ f, FnT Try.prog f (tab_l01Bits f) := (tabT_cons (k := 92) ok_bits32_ok tabT_nil)
theorem run_l01Bits (N : Nat) (x : Nat) : run ty tab_l01Bits ann0 N Try.f90 [.fl .f32 x] []
    = (match FloatKind.f32.format.order x x != some .eq with
  | true => some (.int .i64 2143289344, [])
  | false => (match !(isN .f32 x) with
    | true => some (.int .i64 (IntKind.i64.wrap ((x : Nat) : Int)), [])
    | false => none)) := by
  kernel_rfl

theorem ok_l01Bits : FnT Try.prog 90 (gBI) := by
  refine fnT tabok_l01Bits Try.func90 rfl rfl ann0 fun vs h v h' e => ⟨0, ?_⟩
  unfold gBI at e
  split at e
  case h_2 => exact (T.no_inv e).elim
  rename_i x
  obtain ⟨rfl, rfl⟩ := T.ret_inv e
  refine Eq.trans (run_l01Bits 0 x) ?_
  unfold bI
  rw [show (FloatKind.f32.format.order x x != some .eq) = !eqB x x from rfl, eqB_self]
  cases isN .f32 x <;> rfl
def tab_Signbit : Fns := tabT [(91, (gBits .f64 .u64))]
theorem tabok_Signbit : ∀ f, FnT Try.prog f (tab_Signbit f) := (tabT_cons (k := 91) ok_bits64_ok tabT_nil)
theorem run_Signbit (N : Nat) (x : Nat) : run ty tab_Signbit ann0 N Try.f84 [.fl .f64 x] []
    = (match !(isN .f64 x) with
  | true => some (.bool (decide ((IntKind.i64.wrap ((x : Nat) : Int) : Int) < 0)), [])
  | false => none) := by
  kernel_rfl

theorem ok_Signbit : FnT Try.prog 84 (gSB) := by
  refine fnT tabok_Signbit Try.func84 rfl rfl ann0 fun vs h v h' e => ⟨0, ?_⟩
  unfold gSB at e
  split at e
  case h_2 => exact (T.no_inv e).elim
  rename_i x
  obtain ⟨hx, e⟩ := T.pre_inv e
  obtain ⟨rfl, rfl⟩ := T.ret_inv e
  refine Eq.trans (run_Signbit 0 x) ?_
  rw [hx]
  rfl
def tab_l01Same : Fns := tabT [(90, gBI)]
theorem tabok_l01Same : ∀ f, FnT Try.prog f (tab_l01Same f) := (tabT_cons (k := 90) ok_l01Bits tabT_nil)
theorem run_l01Same (N : Nat) (a : Nat) (b : Nat) : run ty tab_l01Same ann0 N Try.f83 [.fl .f32 a, .fl .f32 b] []
    = some (.bool ((bI a) == (bI b)), []) := by
  kernel_rfl

theorem ok_l01Same : FnT Try.prog 83 (gSN) := by
  refine fnT tabok_l01Same Try.func83 rfl rfl ann0 fun vs h v h' e => ⟨0, ?_⟩
  unfold gSN at e
  split at e
  case h_2 => exact (T.no_inv e).elim
  obtain ⟨hx, e⟩ := T.pre_inv e
  obtain ⟨rfl, rfl⟩ := T.ret_inv e
  exact run_l01Same 0 _ _
def tab_SameNumber : Fns := tabT [(84, gSB)]
theorem tabok_SameNumber : ∀ f, FnT Try.prog f (tab_SameNumber f) := (tabT_cons (k := 84) ok_Signbit tabT_nil)
theorem run_SameNumber (N : Nat) (a : Nat) (b : Nat) : run ty tab_SameNumber ann0 N Try.f58 [.fl .f32 a, .fl .f32 b] []
    = (match FloatKind.f32.format.order a a != some .eq with
  | true => (match FloatKind.f32.format.order a a != some .eq with
    | true => some (.bool (FloatKind.f32.format.order b b != some .eq), [])
    | false => some (.bool false, []))
  | false => (match FloatKind.f32.format.order b b != some .eq with
    | true => (match FloatKind.f32.format.order a a != some .eq with
      | true => some (.bool (FloatKind.f32.format.order b b != some .eq), [])
      | false => some (.bool false, []))
    | false => (match eqB a b with
      | true => (match fconv .f32 a .f64 with
        | some c1 => (match !(isN .f64 c1) with
          | true => (match fconv .f32 b .f64 with
            | some c2 => (match !(isN .f64 c2) with
              | true => some (.bool ((sbD c1) == (sbD c2)), [])
              | false => none)
            | none => none)
          | false => none)
        | none => none)
      | false => some (.bool false, [])))) := by
  kernel_rfl

theorem ok_SameNumber : FnT Try.prog 58 (gSN) := by
  refine fnT tabok_SameNumber Try.func58 rfl rfl ann0 fun vs h v h' e => ⟨0, ?_⟩
  unfold gSN at e
  split at e
  case h_2 => exact (T.no_inv e).elim
  rename_i a b
  obtain ⟨hx, e⟩ := T.pre_inv e
  obtain ⟨rfl, rfl⟩ := T.ret_inv e
  obtain ⟨ha, hb⟩ := of_decide_eq_true hx
  refine Eq.trans (run_SameNumber 0 a b) ?_
  rw [← same_num ha hb]
  unfold imN
  simp only [show ∀ x y, (FloatKind.f32.format.order x y != some .eq) = !eqB x y from fun _ _ => rfl, fconv_eq]
  have h1 : isN .f32 a = false → (!(isN .f64 (up a))) = true := fun h => by rw [up_num' h]; rfl
  have h2 : isN .f32 b = false → (!(isN .f64 (up b))) = true := fun h => by rw [up_num' h]; rfl
  rw [eqB_self, eqB_self (x := b)]
  cases hna : isN .f32 a with
  | true => cases isN .f32 b <;> rfl
  | false =>
    cases hnb : isN .f32 b with
    | true => rfl
    | false =>
      rw [h1 hna, h2 hnb]
      cases eqB a b <;> rfl
def gAll4 : GT := fun vs h => match vs, h with
  | [.sl 0 0 4, .sl 1 0 4], [.at r1 (.fl .f32 [aw, ax, ay, az]), .at r2 (.fl .f32 [cw, cx, cy, cz])] => .ite (decide (aw < 4294967296 ∧ ax < 4294967296 ∧ ay < 4294967296 ∧ az < 4294967296 ∧ cw < 4294967296 ∧ cx < 4294967296 ∧ cy < 4294967296 ∧ cz < 4294967296)) (.ret (.bool (sN aw cw && (sN ax cx && (sN ay cy && sN az cz)))) [.at r1 (.fl .f32 [aw, ax, ay, az]), .at r2 (.fl .f32 [cw, cx, cy, cz])]) .no
  | _, _ => .no
def gPl : GT := fun vs h => match vs, h with
  | [.g [.fl .f32 aw, .fl .f32 ax, .fl .f32 ay, .fl .f32 az], .g [.fl .f32 cw, .fl .f32 cx, .fl .f32 cy, .fl .f32 cz]], [] => .ite (decide (aw < 4294967296 ∧ ax < 4294967296 ∧ ay < 4294967296 ∧ az < 4294967296 ∧ cw < 4294967296 ∧ cx < 4294967296 ∧ cy < 4294967296 ∧ cz < 4294967296)) (.ret (.bool (sN aw cw && (sN ax cx && (sN ay cy && sN az cz)))) []) .no
  | _, _ => .no
def gTp2 : G := fun vs h => match vs, h with | [.g [.fl .f32 a, .fl .f32 b, .fl .f32 c, .fl .f32 d]], [] => some (.g [.fl .f32 a, .fl .f32 b, .fl .f32 c, .fl .f32 d], []) | _, _ => none
def tab_sall : Fns := tabT [(83, gSN)]
theorem tabok_sall : ∀ f, FnT Try.prog f (tab_sall f) := (tabT_cons (k := 83) ok_l01Same tabT_nil)
theorem run_sall (N : Nat) (r1 : Bool) (aw : Nat) (ax : Nat) (ay : Nat) (az : Nat) (r2 : Bool) (cw : Nat) (cx : Nat) (cy : Nat) (cz : Nat) : run ty tab_sall ann0 (N + 8) Try.f57 [.sl 0 0 4, .sl 1 0 4] [.at r1 (.fl .f32 [aw, ax, ay, az]), .at r2 (.fl .f32 [cw, cx, cy, cz])]
    = (match decide (aw < 4294967296 ∧ cw < 4294967296) with
  | true => (match !(sN aw cw) with
    | true => some (.bool false, [.at r1 (.fl .f32 [aw, ax, ay, az]), .at r2 (.fl .f32 [cw, cx, cy, cz])])
    | false => (match decide (ax < 4294967296 ∧ cx < 4294967296) with
      | true => (match !(sN ax cx) with
        | true => some (.bool false, [.at r1 (.fl .f32 [aw, ax, ay, az]), .at r2 (.fl .f32 [cw, cx, cy, cz])])
        | false => (match decide (ay < 4294967296 ∧ cy < 4294967296) with
          | true => (match !(sN ay cy) with
            | true => some (.bool false, [.at r1 (.fl .f32 [aw, ax, ay, az]), .at r2 (.fl .f32 [cw, cx, cy, cz])])
            | false => (match decide (az < 4294967296 ∧ cz < 4294967296) with
              | true => (match !(sN az cz) with
                | true => some (.bool false, [.at r1 (.fl .f32 [aw, ax, ay, az]), .at r2 (.fl .f32 [cw, cx, cy, cz])])
                | false => some (.bool true, [.at r1 (.fl .f32 [aw, ax, ay, az]), .at r2 (.fl .f32 [cw, cx, cy, cz])]))
              | false => none))
          | false => none))
      | false => none))
  | false => none) := by
  kernel_rfl

theorem ok_sall : FnT Try.prog 57 gAll4 := by
  refine fnT tabok_sall Try.func57 rfl rfl ann0 fun vs h v h' e => ⟨8, ?_⟩
  unfold gAll4 at e
  split at e
  case h_2 => exact (T.no_inv e).elim
  rename_i r1 aw ax ay az r2 cw cx cy cz
  obtain ⟨hd, e⟩ := T.pre_inv e
  obtain ⟨rfl, rfl⟩ := T.ret_inv e
  refine Eq.trans (run_sall 0 _ _ _ _ _ _ _ _ _ _) ?_
  obtain ⟨hw, hx, hy, hz, kw, kx, ky, kz⟩ := of_decide_eq_true hd
  have d1 : decide (aw < 4294967296 ∧ cw < 4294967296) = true := decide_eq_true ⟨hw, kw⟩
  have d2 : decide (ax < 4294967296 ∧ cx < 4294967296) = true := decide_eq_true ⟨hx, kx⟩
  have d3 : decide (ay < 4294967296 ∧ cy < 4294967296) = true := decide_eq_true ⟨hy, ky⟩
  have d4 : decide (az < 4294967296 ∧ cz < 4294967296) = true := decide_eq_true ⟨hz, kz⟩
  simp only [d1, d2, d3, d4]
  cases sN aw cw
  · rfl
  cases sN ax cx
  · rfl
  cases sN ay cy
  · rfl
  cases sN az cz <;> rfl
def tab_splS : Fns := tabT [(57, gAll4)]
theorem tabok_splS : ∀ f, FnT Try.prog f (tab_splS f) := (tabT_cons (k := 57) ok_sall tabT_nil)
theorem run_splS (N : Nat) (aw : Nat) (ax : Nat) (ay : Nat) (az : Nat) (cw : Nat) (cx : Nat) (cy : Nat) (cz : Nat) : run ty tab_splS ann0 N Try.f24 [.g [.fl .f32 aw, .fl .f32 ax, .fl .f32 ay, .fl .f32 az], .g [.fl .f32 cw, .fl .f32 cx, .fl .f32 cy, .fl .f32 cz]] []
    = (match decide (aw < 4294967296 ∧ ax < 4294967296 ∧ ay < 4294967296 ∧ az < 4294967296 ∧ cw < 4294967296 ∧ cx < 4294967296 ∧ cy < 4294967296 ∧ cz < 4294967296) with
  | true => some (.bool (sN aw cw && (sN ax cx && (sN ay cy && sN az cz))), [])
  | false => none) := by
  kernel_rfl

theorem ok_splS : FnT Try.prog 24 gPl := by
  refine fnT tabok_splS Try.func24 rfl rfl ann0 fun vs h v h' e => ⟨0, ?_⟩
  unfold gPl at e
  split at e
  case h_2 => exact (T.no_inv e).elim
  rename_i aw ax ay az cw cx cy cz
  obtain ⟨hd, e⟩ := T.pre_inv e
  obtain ⟨rfl, rfl⟩ := T.ret_inv e
  refine Eq.trans (run_splS 0 _ _ _ _ _ _ _ _) ?_
  rw [hd]
def tab_splI : Fns := tabT [(58, gSN)]
theorem tabok_splI : ∀ f, FnT Try.prog f (tab_splI f) := (tabT_cons (k := 58) ok_SameNumber tabT_nil)
theorem run_splI (N : Nat) (aw : Nat) (ax : Nat) (ay : Nat) (az : Nat) (cw : Nat) (cx : Nat) (cy : Nat) (cz : Nat) : run ty tab_splI ann0 N Try.f25 [.g [.fl .f32 aw, .fl .f32 ax, .fl .f32 ay, .fl .f32 az], .g [.fl .f32 cw, .fl .f32 cx, .fl .f32 cy, .fl .f32 cz]] []
    = (match decide (aw < 4294967296 ∧ cw < 4294967296) with
  | true => (match sN aw cw with
    | true => (match decide (ax < 4294967296 ∧ cx < 4294967296) with
      | true => (match sN ax cx with
        | true => (match decide (ay < 4294967296 ∧ cy < 4294967296) with
          | true => (match sN ay cy with
            | true => (match decide (az < 4294967296 ∧ cz < 4294967296) with
              | true => some (.bool (sN az cz), [])
              | false => none)
            | false => some (.bool false, []))
          | false => none)
        | false => some (.bool false, []))
      | false => none)
    | false => some (.bool false, []))
  | false => none) := by
  kernel_rfl

theorem ok_splI : FnT Try.prog 25 gPl := by
  refine fnT tabok_splI Try.func25 rfl rfl ann0 fun vs h v h' e => ⟨0, ?_⟩
  unfold gPl at e
  split at e
  case h_2 => exact (T.no_inv e).elim
  rename_i aw ax ay az cw cx cy cz
  obtain ⟨hd, e⟩ := T.pre_inv e
  obtain ⟨rfl, rfl⟩ := T.ret_inv e
  refine Eq.trans (run_splI 0 _ _ _ _ _ _ _ _) ?_
  obtain ⟨hw, hx, hy, hz, kw, kx, ky, kz⟩ := of_decide_eq_true hd
  have d1 : decide (aw < 4294967296 ∧ cw < 4294967296) = true := decide_eq_true ⟨hw, kw⟩
  have d2 : decide (ax < 4294967296 ∧ cx < 4294967296) = true := decide_eq_true ⟨hx, kx⟩
  have d3 : decide (ay < 4294967296 ∧ cy < 4294967296) = true := decide_eq_true ⟨hy, ky⟩
  have d4 : decide (az < 4294967296 ∧ cz < 4294967296) = true := decide_eq_true ⟨hz, kz⟩
  simp only [d1, d2, d3, d4]
  cases sN aw cw
  · rfl
  cases sN ax cx
  · rfl
  cases sN ay cy
  · rfl
  cases sN az cz <;> rfl
def tab_toP2 : Fns := tabT []
theorem tabok_toP2 : ∀ f, FnT Try.prog f (tab_toP2 f) := tabT_nil
theorem run_toP2 (N : Nat) (a : Nat) (b : Nat) (c : Nat) (d : Nat) : run ty tab_toP2 ann0 N Try.f20 [.g [.fl .f32 a, .fl .f32 b, .fl .f32 c, .fl .f32 d]] []
    = some (.g [.fl .f32 a, .fl .f32 b, .fl .f32 c, .fl .f32 d], []) := by
  kernel_rfl

theorem ok_toP2 : FnT Try.prog 20 (gT gTp2) := by
  refine fnT tabok_toP2 Try.func20 rfl rfl ann0 fun vs h v h' e => ⟨0, ?_⟩
  rw [T.run_of] at e
  unfold gTp2 at e
  split at e
  case h_2 => cases e
  cases e
  exact run_toP2 0 _ _ _ _
def tab_lawsp : Fns := tabT [(20, gT gTp2), (24, gPl), (25, gPl)]
theorem tabok_lawsp : ∀ f, FnT Try.prog f (tab_lawsp f) := (tabT_cons (k := 20) ok_toP2 (tabT_cons (k := 24) ok_splS (tabT_cons (k := 25) ok_splI tabT_nil)))
theorem run_lawsp (N : Nat) (aw : Nat) (ax : Nat) (ay : Nat) (az : Nat) (cw : Nat) (cx : Nat) (cy : Nat) (cz : Nat) : run ty tab_lawsp ann0 N Try.f7 [.g [.fl .f32 aw, .fl .f32 ax, .fl .f32 ay, .fl .f32 az], .g [.fl .f32 cw, .fl .f32 cx, .fl .f32 cy, .fl .f32 cz]] []
    = (match decide (aw < 4294967296 ∧ ax < 4294967296 ∧ ay < 4294967296 ∧ az < 4294967296 ∧ cw < 4294967296 ∧ cx < 4294967296 ∧ cy < 4294967296 ∧ cz < 4294967296) with
  | true => (match decide (aw < 4294967296 ∧ ax < 4294967296 ∧ ay < 4294967296 ∧ az < 4294967296 ∧ cw < 4294967296 ∧ cx < 4294967296 ∧ cy < 4294967296 ∧ cz < 4294967296) with
    | true => (match !((sN aw cw && (sN ax cx && (sN ay cy && sN az cz))) == (sN aw cw && (sN ax cx && (sN ay cy && sN az cz)))) with
      | true => some (.bool false, [])
      | false => some (.bool true, []))
    | false => none)
  | false => none) := by
  kernel_rfl

def g_lawsp : G := fun vs h => match vs, h with
  | [.g [.fl .f32 aw, .fl .f32 ax, .fl .f32 ay, .fl .f32 az], .g [.fl .f32 cw, .fl .f32 cx, .fl .f32 cy, .fl .f32 cz]], [] => if aw < 4294967296 ∧ ax < 4294967296 ∧ ay < 4294967296 ∧ az < 4294967296 ∧ cw < 4294967296 ∧ cx < 4294967296 ∧ cy < 4294967296 ∧ cz < 4294967296 then some (.bool true, []) else none
  | _, _ => none
theorem ok_lawSamePulse : FnOk Try.prog 7 g_lawsp := by
  refine fnOk tabok_lawsp Try.func7 rfl rfl ann0 fun vs h v h' e => ⟨0, ?_⟩
  unfold g_lawsp at e
  split at e
  case h_2 => cases e
  rename_i aw ax ay az cw cx cy cz
  split at e
  case isFalse => cases e
  rename_i hb
  cases e
  refine Eq.trans (run_lawsp 0 _ _ _ _ _ _ _ _) ?_
  rw [decide_eq_true hb]
  cases (sN aw cw && (sN ax cx && (sN ay cy && sN az cz))) <;> rfl
theorem canon_lt {a : Nat} (h : (Lit.float .f32 a).wf = true) : canon .f32 a < 4294967296 := by
  have h2 : a < 2 ^ 32 := by simpa [Lit.wf] using h
  unfold canon
  split
  · decide
  · exact h2
end Go.Proofs.Ytjjdfeemkkeokaa.Ab
