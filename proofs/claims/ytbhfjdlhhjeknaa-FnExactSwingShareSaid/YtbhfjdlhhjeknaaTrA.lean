/- Turns of 64 bits: helpers. Only lemmas. Printed by gen_trig.py. -/
import Derived.Test.YtbhfjdlhhjeknaaTrig
import Derived.Test.YtbhfjdlhhjeknaaLib
namespace Go.Proofs.Ytbhfjdlhhjeknaa.Ab
set_option linter.unusedVariables false
set_option linter.unusedSimpArgs false
open Go
theorem ok_msqrt : FnT Try.prog 155 gSqrt := sqrt_ok Try.func155 (by decide) (by rfl) (by rfl) (by rfl)
def tab_mSqrt : Fns := tabT [(155, gSqrt)]
theorem tabok_mSqrt : ∀ f, FnT Try.prog f (tab_mSqrt f) := (tabT_cons (k := 155) ok_msqrt tabT_nil)
theorem run_mSqrt (N : Nat) (x : Nat) : run ty tab_mSqrt ann0 N Try.f99 [.fl .f64 x] []
    = some (.fl .f64 (fsqrt x), []) := by
  kernel_rfl

theorem ok_mSqrt : FnT Try.prog 99 (gSqrt) := by
  refine fnT tabok_mSqrt Try.func99 rfl rfl ann0 fun vs h v h' e => ⟨0, ?_⟩
  unfold gSqrt at e
  split at e
  case h_2 => exact (T.no_inv e).elim
  obtain ⟨rfl, rfl⟩ := T.ret_inv e
  exact run_mSqrt 0 _
def narOk (x : Nat) : Bool := (fconv .f64 x .f32).isSome
def nar (x : Nat) : Nat := (fconv .f64 x .f32).getD 0
def gNar : GT := fun vs h => match vs, h with | [.fl .f64 x], [] => .ite (narOk x) (.ret (.fl .f32 (nar x)) []) .no | _, _ => .no
def tab_l01Narrow : Fns := tabT []
theorem tabok_l01Narrow : ∀ f, FnT Try.prog f (tab_l01Narrow f) := tabT_nil
theorem run_l01Narrow (N : Nat) (x : Nat) : run ty tab_l01Narrow ann0 N Try.f138 [.fl .f64 x] []
    = (match fconv .f64 x .f32 with | some c1 => some (.fl .f32 c1, []) | none => none) := by
  kernel_rfl

theorem ok_l01Narrow : FnT Try.prog 138 (gNar) := by
  refine fnT tabok_l01Narrow Try.func138 rfl rfl ann0 fun vs h v h' e => ⟨0, ?_⟩
  unfold gNar at e
  split at e
  case h_2 => exact (T.no_inv e).elim
  rename_i x
  obtain ⟨hx, e⟩ := T.pre_inv e
  obtain ⟨rfl, rfl⟩ := T.ret_inv e
  refine Eq.trans (run_l01Narrow 0 x) ?_
  unfold narOk at hx
  unfold nar
  cases hy : fconv .f64 x .f32 with
  | none => rw [hy] at hx; cases hx
  | some y => rfl
def gRoot : G := fun vs h => match vs, h with | [.fl .f32 x], [] => some (.fl .f32 (rootF x), []) | _, _ => none
def tab_l01Sqrt : Fns := tabT [(99, gSqrt), (138, gNar)]
theorem tabok_l01Sqrt : ∀ f, FnT Try.prog f (tab_l01Sqrt f) := (tabT_cons (k := 99) ok_mSqrt (tabT_cons (k := 138) ok_l01Narrow tabT_nil))
theorem run_l01Sqrt (N : Nat) (x : Nat) : run ty tab_l01Sqrt ann0 N Try.f129 [.fl .f32 x] []
    = (match fconv .f32 x .f64 with | some c1 => (match narOk (fsqrt c1) with | true => some (.fl .f32 (nar (fsqrt c1)), []) | false => none) | none => none) := by
  kernel_rfl

theorem ok_l01Sqrt : FnT Try.prog 129 (gT gRoot) := by
  refine fnT tabok_l01Sqrt Try.func129 rfl rfl ann0 fun vs h v h' e => ⟨0, ?_⟩
  rw [T.run_of] at e
  unfold gRoot at e
  split at e
  case h_2 => cases e
  rename_i x
  cases e
  refine Eq.trans (run_l01Sqrt 0 x) ?_
  simp only [fconv_eq, narOk, nar, rootF_eq, Option.isSome_some, Option.getD_some]
def tab_RootNumber : Fns := tabT [(99, gSqrt)]
theorem tabok_RootNumber : ∀ f, FnT Try.prog f (tab_RootNumber f) := (tabT_cons (k := 99) ok_mSqrt tabT_nil)
theorem run_RootNumber (N : Nat) (x : Nat) : run ty tab_RootNumber ann0 N Try.f41 [.fl .f32 x] []
    = (match fconv .f32 x .f64 with | some c1 => (match fconv .f64 (fsqrt c1) .f32 with | some c2 => some (.fl .f32 c2, []) | none => none) | none => none) := by
  kernel_rfl

theorem ok_RootNumber : FnT Try.prog 41 (gT gRoot) := by
  refine fnT tabok_RootNumber Try.func41 rfl rfl ann0 fun vs h v h' e => ⟨0, ?_⟩
  rw [T.run_of] at e
  unfold gRoot at e
  split at e
  case h_2 => cases e
  rename_i x
  cases e
  refine Eq.trans (run_RootNumber 0 x) ?_
  simp only [fconv_eq, rootF_eq, Option.isSome_some, Option.getD_some]
theorem ok_Float64bits : FnT Try.prog 183 (gBits .f64 .u64) := bits64_ok Try.func183 (by decide) (by rfl) (by rfl) (by rfl)
theorem ok_Float64frombits : FnT Try.prog 171 (gFrom .f64 .u64) := from64_ok Try.func171 (by decide) (by rfl) (by rfl) (by rfl)
def tab_mAbs : Fns := tabT [(183, (gBits .f64 .u64)), (171, (gFrom .f64 .u64))]
theorem tabok_mAbs : ∀ f, FnT Try.prog f (tab_mAbs f) := (tabT_cons (k := 183) ok_Float64bits (tabT_cons (k := 171) ok_Float64frombits tabT_nil))
theorem run_mAbs (N : Nat) (x : Nat) : run ty tab_mAbs ann0 N Try.f172 [.fl .f64 x] []
    = (match !isN .f64 x with | true => some (.fl .f64 (canon .f64 (IntKind.u64.wrap (BitVec.ofInt 64 ((x : Nat) : Int) &&& ~~~ BitVec.ofInt 64 9223372036854775808).toNat).toNat), []) | false => none) := by
  kernel_rfl

def absD (x : Nat) : Nat := x % 9223372036854775808
theorem abs_bits (x : Nat) : (BitVec.ofInt 64 ((x : Nat) : Int) &&& ~~~ BitVec.ofInt 64 9223372036854775808).toNat = absD x := by
  have h1 : (~~~ BitVec.ofInt 64 9223372036854775808) = BitVec.ofNat 64 (2 ^ 63 - 1) := by decide
  rw [h1, BitVec.toNat_and, BitVec.ofInt_natCast, BitVec.toNat_ofNat, BitVec.toNat_ofNat]
  rw [show (2 ^ 63 - 1) % 2 ^ 64 = 2 ^ 63 - 1 by decide, Nat.and_two_pow_sub_one_eq_mod]
  unfold absD
  rw [show (2 : Nat) ^ 63 = 9223372036854775808 by decide, show (2 : Nat) ^ 64 = 18446744073709551616 by decide]
  omega
theorem abs_read {x : Nat} {s : Bool} {m : Nat} {e : Int} (h : Ieee.double.read x = .number s m e) : Ieee.double.read (absD x) = .number false m e := by
  have c1 : Ieee.double.signWeight = 9223372036854775808 := by decide
  unfold Ieee.Format.read at h ⊢
  rw [c1] at h ⊢
  unfold absD
  rw [Nat.mod_mod, Nat.div_eq_of_lt (Nat.mod_lt x (by decide))]
  generalize (x / 9223372036854775808 % 2 == 1) = b at *
  generalize x % 9223372036854775808 = r at *
  dsimp only at h ⊢
  split at h
  · rename_i hr
    rw [if_pos hr]
    cases h
    rfl
  · rename_i hr
    rw [if_neg hr]
    split at h
    · rename_i hr2
      rw [if_pos hr2]
      cases h
      rfl
    · split at h <;> cases h
theorem abs_inf {x : Nat} {s : Bool} (h : Ieee.double.read x = .infinity s) : Ieee.double.read (absD x) = .infinity false := by
  have c1 : Ieee.double.signWeight = 9223372036854775808 := by decide
  unfold Ieee.Format.read at h ⊢
  rw [c1] at h ⊢
  unfold absD
  rw [Nat.mod_mod, Nat.div_eq_of_lt (Nat.mod_lt x (by decide))]
  generalize (x / 9223372036854775808 % 2 == 1) = b at *
  generalize x % 9223372036854775808 = r at *
  dsimp only at h ⊢
  split at h
  · cases h
  · rename_i hr
    rw [if_neg hr]
    split at h
    · cases h
    · rename_i hr2
      rw [if_neg hr2]
      split at h
      · rename_i hr3
        rw [if_pos hr3]
        rfl
      · cases h
theorem abs_isN (x : Nat) : isN .f64 (absD x) = isN .f64 x := by
  rw [isN_eq, isN_eq]
  unfold absD
  have : sgn .f64 = 9223372036854775808 := by decide
  rw [this, Nat.mod_mod]
def gAbs : GT := fun vs h => match vs, h with | [.fl .f64 x], [] => .ite (!isN .f64 x) (.ret (.fl .f64 (absD x)) []) .no | _, _ => .no
theorem ok_mAbs : FnT Try.prog 172 gAbs := by
  refine fnT tabok_mAbs Try.func172 rfl rfl ann0 fun vs h v h' e => ⟨0, ?_⟩
  unfold gAbs at e
  split at e
  case h_2 => exact (T.no_inv e).elim
  rename_i x
  obtain ⟨hx, e⟩ := T.pre_inv e
  obtain ⟨rfl, rfl⟩ := T.ret_inv e
  refine Eq.trans (run_mAbs 0 x) ?_
  have hlt : absD x < 9223372036854775808 := Nat.mod_lt _ (by decide)
  have hw : IntKind.u64.wrap ((absD x : Nat) : Int) = ((absD x : Nat) : Int) := by
    simp only [IntKind.wrap, IntKind.signed, IntKind.bits]
    first | omega | (simp; omega)
  rw [hx, abs_bits, hw, Int.toNat_natCast, canon_of (b := absD x) (by rw [abs_isN]; simpa using hx)]
theorem ok_archTrunc : FnT Try.prog 184 (gInteg .zero) := integ_ok Try.func184 (by decide) (by rfl) (by rfl) (by rfl)
def tab_mTrunc : Fns := tabT [(184, (gInteg .zero))]
theorem tabok_mTrunc : ∀ f, FnT Try.prog f (tab_mTrunc f) := (tabT_cons (k := 184) ok_archTrunc tabT_nil)
theorem run_mTrunc (N : Nat) (x : Nat) : run ty tab_mTrunc ann0 N Try.f173 [.fl .f64 x] []
    = some (.fl .f64 (integD .zero x), []) := by
  kernel_rfl

theorem ok_mTrunc : FnT Try.prog 173 (gInteg .zero) := by
  refine fnT tabok_mTrunc Try.func173 rfl rfl ann0 fun vs h v h' e => ⟨0, ?_⟩
  unfold gInteg at e
  split at e
  case h_2 => exact (T.no_inv e).elim
  obtain ⟨rfl, rfl⟩ := T.ret_inv e
  exact run_mTrunc 0 _
def tab_part : Fns := tabT [(173, (gInteg .zero))]
theorem tabok_part : ∀ f, FnT Try.prog f (tab_part f) := (tabT_cons (k := 173) ok_mTrunc tabT_nil)
theorem run_part (N : Nat) (x : Nat) : run ty tab_part ann0 N Try.f143 [.fl .f64 x] []
    = (match eqD (integD .zero x) 0 with | true => (match ltD (fop .sub .f64 x 0) 0 with | true => some (.fl .f64 (fop .add .f64 (fop .sub .f64 x 0) 4607182418800017408), []) | false => some (.fl .f64 (fop .sub .f64 x 0), [])) | false => (match ltD (fop .sub .f64 x (integD .zero x)) 0 with | true => some (.fl .f64 (fop .add .f64 (fop .sub .f64 x (integD .zero x)) 4607182418800017408), []) | false => some (.fl .f64 (fop .sub .f64 x (integD .zero x)), []))) := by
  kernel_rfl

def gPart : GT := fun vs h => match vs, h with | [.fl .f64 x], [] => .ite (smB x) (.ret (.fl .f64 (fracD x)) []) .no | _, _ => .no
theorem ok_part : FnT Try.prog 143 gPart := by
  refine fnT tabok_part Try.func143 rfl rfl ann0 fun vs h v h' e => ⟨0, ?_⟩
  unfold gPart at e
  split at e
  case h_2 => exact (T.no_inv e).elim
  rename_i x
  obtain ⟨hx, e⟩ := T.pre_inv e
  obtain ⟨rfl, rfl⟩ := T.ret_inv e
  refine Eq.trans (run_part 0 x) ?_
  have hw := whole_eq hx
  cases he : eqD (integD .zero x) 0 with
  | true =>
    rw [he] at hw
    have hw : 0 = wholeD x := hw
    unfold fracD
    rw [← hw]
    cases ltD (fop .sub .f64 x 0) 0 <;> rfl
  | false =>
    rw [he] at hw
    have hw : integD .zero x = wholeD x := hw
    unfold fracD
    rw [← hw]
    cases ltD (fop .sub .f64 x (integD .zero x)) 0 <;> rfl
theorem ok_Float32frombits : FnT Try.prog 169 (gFrom .f32 .u32) := from32_ok Try.func169 (by decide) (by rfl) (by rfl) (by rfl)
def tab_NaN : Fns := tabT [(171, (gFrom .f64 .u64))]
theorem tabok_NaN : ∀ f, FnT Try.prog f (tab_NaN f) := (tabT_cons (k := 171) ok_Float64frombits tabT_nil)
theorem run_NaN (N : Nat)  : run ty tab_NaN ann0 N Try.f141 [] []
    = some (.fl .f64 9221120237041090560, []) := by
  kernel_rfl

def g_NaN : GT := fun vs h => match vs, h with | [], [] => .ret (.fl .f64 9221120237041090560) [] | _, _ => .no
theorem ok_NaN : FnT Try.prog 141 g_NaN := by
  refine fnT tabok_NaN Try.func141 rfl rfl ann0 fun vs h v h' e => ⟨0, ?_⟩
  unfold g_NaN at e
  split at e
  case h_2 => exact (T.no_inv e).elim
  obtain ⟨rfl, rfl⟩ := T.ret_inv e
  exact Eq.trans (run_NaN 0) (by kernel_rfl)
def tab_l01From : Fns := tabT [(169, (gFrom .f32 .u32))]
theorem tabok_l01From : ∀ f, FnT Try.prog f (tab_l01From f) := (tabT_cons (k := 169) ok_Float32frombits tabT_nil)
theorem run_l01From (N : Nat) (n : Int) : run ty tab_l01From ann0 N Try.f136 [.int .i64 n] []
    = some (.fl .f32 (canon .f32 (IntKind.u32.wrap n).toNat), []) := by
  kernel_rfl

def g_l01From : GT := fun vs h => match vs, h with | [.int .i64 n], [] => .ret (.fl .f32 (canon .f32 (IntKind.u32.wrap n).toNat)) [] | _, _ => .no
theorem ok_l01From : FnT Try.prog 136 g_l01From := by
  refine fnT tabok_l01From Try.func136 rfl rfl ann0 fun vs h v h' e => ⟨0, ?_⟩
  unfold g_l01From at e
  split at e
  case h_2 => exact (T.no_inv e).elim
  obtain ⟨rfl, rfl⟩ := T.ret_inv e
  exact run_l01From 0 _
def tab_huge : Fns := tabT [(172, gAbs)]
theorem tabok_huge : ∀ f, FnT Try.prog f (tab_huge f) := (tabT_cons (k := 172) ok_mAbs tabT_nil)
theorem run_huge (N : Nat) (x : Nat) : run ty tab_huge ann0 N Try.f142 [.fl .f64 x] []
    = (match !isN .f64 x with | true => some (.bool (gtD (absD x) 4841369599423283200 || eqD (absD x) 4841369599423283200), []) | false => none) := by
  kernel_rfl

def hugeD (x : Nat) : Bool := gtD (absD x) 4841369599423283200 || eqD (absD x) 4841369599423283200
def gHuge : GT := fun vs h => match vs, h with | [.fl .f64 x], [] => .ite (!isN .f64 x) (.ret (.bool (hugeD x)) []) .no | _, _ => .no
theorem ok_huge : FnT Try.prog 142 gHuge := by
  refine fnT tabok_huge Try.func142 rfl rfl ann0 fun vs h v h' e => ⟨0, ?_⟩
  unfold gHuge at e
  split at e
  case h_2 => exact (T.no_inv e).elim
  rename_i x
  obtain ⟨hx, e⟩ := T.pre_inv e
  obtain ⟨rfl, rfl⟩ := T.ret_inv e
  refine Eq.trans (run_huge 0 x) ?_
  rw [hx]
  rfl
theorem huge_sm {x : Nat} (h : finD x = true) : hugeD x = !smB x := by
  obtain ⟨s, m, p, hx⟩ := finD_num h
  obtain ⟨h0, h1, h2, _⟩ := read_place hx
  have hs : smB x = decide (p < 0) := by unfold smB; rw [hx]
  have of := order_Z (abs_read hx) (r52 false) h0 (by decide)
  have of : FloatKind.f64.format.order (absD x) 4841369599423283200 = _ := of
  obtain ⟨f1, f2, f3⟩ := cmp52 (s := false) h0 h1 h2 false
  unfold hugeD gtD eqD
  rw [of, hs]
  by_cases hp : p < 0
  · rw [f1 hp, decide_eq_true hp]
    rfl
  · rw [decide_eq_false hp]
    have := f2 hp rfl
    cases hc : compare (Zv false m p) (Zv false 4503599627370496 0) with
    | lt => exact (this hc).elim
    | eq => simp
    | gt => simp
theorem fin_isN {x : Nat} (h : finD x = true) : isN .f64 x = false := by
  obtain ⟨s, m, p, hx⟩ := finD_num h
  unfold isN
  show (Ieee.double.read x).isNaN = false
  rw [hx]
  rfl
end Go.Proofs.Ytbhfjdlhhjeknaa.Ab
