/- Numbers and copies of lists. Only lemmas. Printed by gen_closed.py. -/
import Derived.Test.YtlopdogjdfeikaaInteg
import Derived.Test.YtlopdogjdfeikaaLib
namespace Go.Proofs.Ytlopdogjdfeikaa.Ab
set_option linter.unusedVariables false
set_option linter.unusedSimpArgs false
open Go
def gClone : GT := fun vs h => match vs, h with
  | [.sl 0 0 n], [.at r (.fl .f32 l)] => .ite (decide (l.length = n ∧ n < 2147483648)) (.ret (.sl 1 0 n) [.at r (.fl .f32 l), .at true (.fl .f32 l)]) .no
  | _, _ => .no
def tab_cl : Fns := tabT []
theorem tabok_cl : ∀ f, FnT Try.prog f (tab_cl f) := tabT_nil
theorem run_cl (N : Nat) (n : Nat) (r : Bool) (l : List Nat) : run ty tab_cl ann0 N Try.f31 [.sl 0 0 n] [.at r (.fl .f32 l)]
    = (match decide (0 + n * 1 ≤ l.length) with | true => (match apok true 0 1 0 1 (0 + n) 4 with | true => some (.sl 1 0 (0 + n), [.at r (.fl .f32 l), .at true (.fl .f32 (([] : List Nat) ++ ((l.drop 0).take (n * 1))))]) | false => none) | false => none) := by
  kernel_rfl

theorem ok_cl : FnT Try.prog 31 (gClone) := by
  refine fnT tabok_cl Try.func31 rfl rfl ann0 fun vs h v h' e => ⟨0, ?_⟩
  unfold gClone at e
  split at e
  · rename_i n r l
    obtain ⟨hd, e⟩ := T.pre_inv e
    obtain ⟨rfl, rfl⟩ := T.ret_inv e
    obtain ⟨rfl, hb⟩ := of_decide_eq_true hd
    refine Eq.trans (run_cl 0 _ _ _) ?_
    rw [decide_eq_true (show 0 + l.length * 1 ≤ l.length by omega), show apok true 0 1 0 1 (0 + l.length) 4 = true by unfold apok boundB; rw [decide_eq_true (show 0 + l.length ≤ 9223372036854775807 ∧ (0 + l.length) * 4 ≤ 140737488355328 from ⟨by omega, by omega⟩)]; rfl]
    simp
  · exact (T.no_inv e).elim
theorem ok_msqrt : FnT Try.prog 37 gSqrt := sqrt_ok Try.func37 (by decide) (by rfl) (by rfl) (by rfl)
def tab_mSqrt : Fns := tabT [(37, gSqrt)]
theorem tabok_mSqrt : ∀ f, FnT Try.prog f (tab_mSqrt f) := (tabT_cons (k := 37) ok_msqrt tabT_nil)
theorem run_mSqrt (N : Nat) (x : Nat) : run ty tab_mSqrt ann0 N Try.f20 [.fl .f64 x] []
    = some (.fl .f64 (fsqrt x), []) := by
  kernel_rfl

theorem ok_mSqrt : FnT Try.prog 20 (gSqrt) := by
  refine fnT tabok_mSqrt Try.func20 rfl rfl ann0 fun vs h v h' e => ⟨0, ?_⟩
  unfold gSqrt at e
  split at e
  case h_2 => exact (T.no_inv e).elim
  obtain ⟨rfl, rfl⟩ := T.ret_inv e
  exact run_mSqrt 0 _
def gRoot : G := fun vs h => match vs, h with | [.fl .f32 x], [] => some (.fl .f32 (rootF x), []) | _, _ => none
def tab_RootNumber : Fns := tabT [(20, gSqrt)]
theorem tabok_RootNumber : ∀ f, FnT Try.prog f (tab_RootNumber f) := (tabT_cons (k := 20) ok_mSqrt tabT_nil)
theorem run_RootNumber (N : Nat) (x : Nat) : run ty tab_RootNumber ann0 N Try.f11 [.fl .f32 x] []
    = (match fconv .f32 x .f64 with | some c1 => (match fconv .f64 (fsqrt c1) .f32 with | some c2 => some (.fl .f32 c2, []) | none => none) | none => none) := by
  kernel_rfl

theorem ok_RootNumber : FnT Try.prog 11 (gT gRoot) := by
  refine fnT tabok_RootNumber Try.func11 rfl rfl ann0 fun vs h v h' e => ⟨0, ?_⟩
  rw [T.run_of] at e
  unfold gRoot at e
  split at e
  case h_2 => cases e
  rename_i x
  cases e
  refine Eq.trans (run_RootNumber 0 x) ?_
  simp only [fconv_eq, rootF_eq, Option.isSome_some, Option.getD_some]
def nzF (x : Nat) : Nat := match eqB x 0 with | true => 897988541 | false => x
def gNz : G := fun vs h => match vs, h with | [.fl .f32 x], [] => some (.fl .f32 (nzF x), []) | _, _ => none
def tab_nz : Fns := tabT []
theorem tabok_nz : ∀ f, FnT Try.prog f (tab_nz f) := tabT_nil
theorem run_nz (N : Nat) (x : Nat) : run ty tab_nz ann0 N Try.f32 [.fl .f32 x] []
    = (match eqB x 0 with | true => some (.fl .f32 897988541, []) | false => some (.fl .f32 x, [])) := by
  kernel_rfl

theorem ok_nz : FnT Try.prog 32 (gT gNz) := by
  refine fnT tabok_nz Try.func32 rfl rfl ann0 fun vs h v h' e => ⟨0, ?_⟩
  rw [T.run_of] at e
  unfold gNz at e
  split at e
  case h_2 => cases e
  rename_i x
  cases e
  refine Eq.trans (run_nz 0 x) ?_
  unfold nzF
  cases eqB x 0 <;> rfl
def v_placeAt (x : Nat) (y : Nat) (i : Int) : Nat := fop .add .f32 x (fop .mul .f32 (floatOfInt .f32 (IntKind.i64.wrap (i + 1))) y)
def g_placeAt : G := fun vs h => match vs, h with | [.fl .f32 x, .fl .f32 y, .int .i64 i], [] => some (.fl .f32 (v_placeAt x y i), []) | _, _ => none
def tab_placeAt : Fns := tabT []
theorem tabok_placeAt : ∀ f, FnT Try.prog f (tab_placeAt f) := tabT_nil
theorem run_placeAt (N : Nat) (x : Nat) (y : Nat) (i : Int) : run ty tab_placeAt ann0 N Try.f23 [.fl .f32 x, .fl .f32 y, .int .i64 i] []
    = some (.fl .f32 (fop .add .f32 x (fop .mul .f32 (floatOfInt .f32 (IntKind.i64.wrap (i + 1))) y)), []) := by
  kernel_rfl

theorem ok_placeAt : FnT Try.prog 23 (gT g_placeAt) := by
  refine fnT tabok_placeAt Try.func23 rfl rfl ann0 fun vs h v h' e => ⟨0, ?_⟩
  rw [T.run_of] at e
  unfold g_placeAt at e
  split at e
  case h_2 => cases e
  cases e
  exact run_placeAt 0 _ _ _
theorem ok_archCeil : FnT Try.prog 35 (gInteg .up) := integ_ok Try.func35 (by decide) (by rfl) (by rfl) (by rfl)
def tab_mCeil : Fns := tabT [(35, (gInteg .up))]
theorem tabok_mCeil : ∀ f, FnT Try.prog f (tab_mCeil f) := (tabT_cons (k := 35) ok_archCeil tabT_nil)
theorem run_mCeil (N : Nat) (x : Nat) : run ty tab_mCeil ann0 N Try.f19 [.fl .f64 x] []
    = some (.fl .f64 (integD .up x), []) := by
  kernel_rfl

theorem ok_mCeil : FnT Try.prog 19 (gInteg .up) := by
  refine fnT tabok_mCeil Try.func19 rfl rfl ann0 fun vs h v h' e => ⟨0, ?_⟩
  unfold gInteg at e
  split at e
  case h_2 => exact (T.no_inv e).elim
  obtain ⟨rfl, rfl⟩ := T.ret_inv e
  exact run_mCeil 0 _
end Go.Proofs.Ytlopdogjdfeikaa.Ab
