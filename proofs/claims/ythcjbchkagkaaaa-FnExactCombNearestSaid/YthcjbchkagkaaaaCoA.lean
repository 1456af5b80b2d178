/- CombNearest: helpers. Only lemmas. Printed by gen_comb.py. -/
import Derived.Test.YthcjbchkagkaaaaInteg
import Derived.Test.YthcjbchkagkaaaaLib
namespace Go.Proofs.Ythcjbchkagkaaaa.Ab
set_option linter.unusedVariables false
set_option linter.unusedSimpArgs false
open Go
theorem ok_Float64bits : FnT Try.prog 104 (gBits .f64 .u64) := bits64_ok Try.func104 (by decide) (by rfl) (by rfl) (by rfl)
theorem ok_Float64frombits : FnT Try.prog 103 (gFrom .f64 .u64) := from64_ok Try.func103 (by decide) (by rfl) (by rfl) (by rfl)
def tab_mAbs : Fns := tabT [(104, (gBits .f64 .u64)), (103, (gFrom .f64 .u64))]
theorem tabok_mAbs : ∀ f, FnT Try.prog f (tab_mAbs f) := (tabT_cons (k := 104) ok_Float64bits (tabT_cons (k := 103) ok_Float64frombits tabT_nil))
theorem run_mAbs (N : Nat) (x : Nat) : run ty tab_mAbs ann0 N Try.f83 [.fl .f64 x] []
    = (match !isN .f64 x with | true => some (.fl .f64 (canon .f64 (IntKind.u64.wrap (BitVec.ofInt 64 ((x : Nat) : Int) &&& ~~~ BitVec.ofInt 64 9223372036854775808).toNat).toNat), []) | false => none) := by
  kernel_rfl

def absD (x : Nat) : Nat := x % 9223372036854775808
theorem abs_bits (x : Nat) : (BitVec.ofInt 64 ((x : Nat) : Int) &&& ~~~ BitVec.ofInt 64 9223372036854775808).toNat = absD x := by
  have h1 : (~~~ BitVec.ofInt 64 9223372036854775808) = BitVec.ofNat 64 (2 ^ 63 - 1) := by decide
  rw [h1, BitVec.toNat_and, BitVec.ofInt_natCast, BitVec.toNat_ofNat, BitVec.toNat_ofNat]
  rw [show (2 ^ 63 - 1) % 2 ^ 64 = 2 ^ 63 - 1 by decide, Nat.and_two_pow_sub_one_eq_mod]
  unfold absD
  rw [show (2 : Nat) ^ 63 = 9223372036854775808 by decide, show (2 : Nat) ^ 64 = 18446744073709551616 by decide]
  omega
theorem abs_read {x : Nat} {s : Bool} {m : Nat} {e : Int} (h : Ieee.double.read x = .number s m e) : Ieee.double.read (absD x) = .number false m e := by
  have c1 : Ieee.double.signWeight = 9223372036854775808 := by decide
  unfold Ieee.Format.read at h ⊢
  rw [c1] at h ⊢
  unfold absD
  rw [Nat.mod_mod, Nat.div_eq_of_lt (Nat.mod_lt x (by decide))]
  generalize (x / 9223372036854775808 % 2 == 1) = b at *
  generalize x % 9223372036854775808 = r at *
  dsimp only at h ⊢
  split at h
  · rename_i hr
    rw [if_pos hr]
    cases h
    rfl
  · rename_i hr
    rw [if_neg hr]
    split at h
    · rename_i hr2
      rw [if_pos hr2]
      cases h
      rfl
    · split at h <;> cases h
theorem abs_inf {x : Nat} {s : Bool} (h : Ieee.double.read x = .infinity s) : Ieee.double.read (absD x) = .infinity false := by
  have c1 : Ieee.double.signWeight = 9223372036854775808 := by decide
  unfold Ieee.Format.read at h ⊢
  rw [c1] at h ⊢
  unfold absD
  rw [Nat.mod_mod, Nat.div_eq_of_lt (Nat.mod_lt x (by decide))]
  generalize (x / 9223372036854775808 % 2 == 1) = b at *
  generalize x % 9223372036854775808 = r at *
  dsimp only at h ⊢
  split at h
  · cases h
  · rename_i hr
    rw [if_neg hr]
    split at h
    · cases h
    · rename_i hr2
      rw [if_neg hr2]
      split at h
      · rename_i hr3
        rw [if_pos hr3]
        rfl
      · cases h
theorem abs_isN (x : Nat) : isN .f64 (absD x) = isN .f64 x := by
  rw [isN_eq, isN_eq]
  unfold absD
  have : sgn .f64 = 9223372036854775808 := by decide
  rw [this, Nat.mod_mod]
def gAbs : GT := fun vs h => match vs, h with | [.fl .f64 x], [] => .ite (!isN .f64 x) (.ret (.fl .f64 (absD x)) []) .no | _, _ => .no
theorem ok_mAbs : FnT Try.prog 83 gAbs := by
  refine fnT tabok_mAbs Try.func83 rfl rfl ann0 fun vs h v h' e => ⟨0, ?_⟩
  unfold gAbs at e
  split at e
  case h_2 => exact (T.no_inv e).elim
  rename_i x
  obtain ⟨hx, e⟩ := T.pre_inv e
  obtain ⟨rfl, rfl⟩ := T.ret_inv e
  refine Eq.trans (run_mAbs 0 x) ?_
  have hlt : absD x < 9223372036854775808 := Nat.mod_lt _ (by decide)
  have hw : IntKind.u64.wrap ((absD x : Nat) : Int) = ((absD x : Nat) : Int) := by
    simp only [IntKind.wrap, IntKind.signed, IntKind.bits]
    first | omega | (simp; omega)
  rw [hx, abs_bits, hw, Int.toNat_natCast, canon_of (b := absD x) (by rw [abs_isN]; simpa using hx)]
theorem ok_archFloor : FnT Try.prog 101 (gInteg .down) := integ_ok Try.func101 (by decide) (by rfl) (by rfl) (by rfl)
def tab_mFloor : Fns := tabT [(101, (gInteg .down))]
theorem tabok_mFloor : ∀ f, FnT Try.prog f (tab_mFloor f) := (tabT_cons (k := 101) ok_archFloor tabT_nil)
theorem run_mFloor (N : Nat) (x : Nat) : run ty tab_mFloor ann0 N Try.f82 [.fl .f64 x] []
    = some (.fl .f64 (integD .down x), []) := by
  kernel_rfl

theorem ok_mFloor : FnT Try.prog 82 (gInteg .down) := by
  refine fnT tabok_mFloor Try.func82 rfl rfl ann0 fun vs h v h' e => ⟨0, ?_⟩
  unfold gInteg at e
  split at e
  case h_2 => exact (T.no_inv e).elim
  obtain ⟨rfl, rfl⟩ := T.ret_inv e
  exact run_mFloor 0 _
end Go.Proofs.Ythcjbchkagkaaaa.Ab
