/- 'PumpLevel': what it computes, and its law. Only lemmas. -/
import Derived.Test.YtjjdfeemkkeokaaNum
namespace Go.Proofs.Ytjjdfeemkkeokaa.Ab
set_option linter.unusedVariables false
set_option linter.unusedSimpArgs false
open Go

theorem ok_sameFloat : FnOk Try.prog 28 gSame := by
  refine fnOk tab_nil Try.func28 rfl rfl ann0 fun vs h v h' e => ⟨0, ?_⟩
  unfold gSame at e
  split at e
  · cases e
    rename_i a b
    refine Eq.trans (b := match !eqD a a with
      | true => (match !eqD a a with | true => some (.bool (!eqD b b), []) | false => some (.bool false, []))
      | false => match !eqD b b with
        | true => (match !eqD a a with | true => some (.bool (!eqD b b), []) | false => some (.bool false, []))
        | false => match eqD a 0 with
          | true => (match eqD b 0 with
            | true => some (.bool (gtD (fop .quo .f64 one64 a) 0 == gtD (fop .quo .f64 one64 b) 0), [])
            | false => some (.bool (eqD a b), []))
          | false => some (.bool (eqD a b), [])) (by kernel_rfl) ?_
    unfold sameB
    cases eqD a a <;> cases eqD b b <;> cases eqD a 0 <;> cases eqD b 0 <;> rfl
  · cases e

abbrev pairV (b : Bool) (y : Nat) : V := .tup [.a (.fl .f32 y), .a (.bool b)]
def gNum : G := fun vs h => match vs, h with | [.fl .f32 x], [] => some (pairV (finB x) (cond (finB x) x 0), []) | _, _ => none
theorem ok_l02Number : FnOk Try.prog 60 gNum := by
  refine fnOk (tab_cons (k := 63) ok_l01Finite tab_nil) Try.func60 rfl rfl ann0 fun vs h v h' e => ⟨0, ?_⟩
  unfold gNum at e
  split at e
  · cases e
    rename_i x
    refine Eq.trans (b := match !finB x with | true => some (pairV false 0, []) | false => some (pairV true x, [])) (by kernel_rfl) ?_
    cases finB x <;> rfl
  · cases e
theorem ok_checked : FnOk Try.prog 62 gNum := by
  refine fnOk (tab_cons (k := 77) ok_IsFinite tab_nil) Try.func62 rfl rfl ann0 fun vs h v h' e => ⟨0, ?_⟩
  unfold gNum at e
  split at e
  · cases e
    rename_i x
    refine Eq.trans (b := match !finB x with | true => some (pairV false 0, []) | false => some (pairV true x, [])) (by kernel_rfl) ?_
    cases finB x <;> rfl
  · cases e

def pumpOk (a b : Nat) : Bool := posB a && posB b && finB (fop .quo .f32 a b)
def pumpN (a b : Nat) : Nat := cond (pumpOk a b) (fop .quo .f32 a b) 0
def gPump : G := fun vs h => match vs, h with | [.fl .f32 a, .fl .f32 b], [] => some (pairV (pumpOk a b) (pumpN a b), []) | _, _ => none
theorem ok_specPump : FnOk Try.prog 26 gPump := by
  refine fnOk (tab_cons (k := 59) ok_l02Above (tab_cons (k := 60) ok_l02Number tab_nil)) Try.func26 rfl rfl ann0 fun vs h v h' e => ⟨0, ?_⟩
  unfold gPump at e
  split at e
  · cases e
    rename_i a b
    refine Eq.trans (b := match !posB a with | true => some (pairV false 0, []) | false => match !posB b with
      | true => some (pairV false 0, [])
      | false => some (pairV (finB (fop .quo .f32 a b)) (cond (finB (fop .quo .f32 a b)) (fop .quo .f32 a b) 0), [])) (by kernel_rfl) ?_
    unfold pumpN pumpOk
    cases posB a <;> cases posB b <;> rfl
  · cases e
theorem ok_implPump : FnOk Try.prog 27 gPump := by
  refine fnOk (tab_cons (k := 61) ok_arePositive (tab_cons (k := 62) ok_checked tab_nil)) Try.func27 rfl rfl ann0 fun vs h v h' e => ⟨0, ?_⟩
  unfold gPump at e
  split at e
  · cases e
    rename_i a b
    refine Eq.trans (b := match !(posB a && (posB b && true)) with
      | true => some (pairV false 0, [])
      | false => some (pairV (finB (fop .quo .f32 a b)) (cond (finB (fop .quo .f32 a b)) (fop .quo .f32 a b) 0), [])) (by kernel_rfl) ?_
    unfold pumpN pumpOk
    cases posB a <;> cases posB b <;> rfl
  · cases e
def gLawPump : G := fun vs h => match vs, h with | [.fl .f32 _, .fl .f32 _], [] => some (.bool true, []) | _, _ => none
/-- What a law of a number and a mark asks. -/
def pairLaw (y : Nat) (b : Bool) : Option (V × H) :=
  match fconv .f32 y .f64 with
  | none => none
  | some d => match fconv .f32 y .f64 with
    | none => none
    | some d' => match !sameB d d' with
      | true => some (.bool false, [])
      | false => match !(b == b) with
        | true => some (.bool false, [])
        | false => some (.bool true, [])
theorem pairLaw_eq (y : Nat) (b : Bool) : pairLaw y b = some (.bool true, []) := by
  unfold pairLaw
  simp only [fconv_eq, sameB_self, beq_self_eq_true, Bool.not_true]
theorem ok_lawPump : FnOk Try.prog 8 gLawPump := by
  refine fnOk (tab_cons (k := 26) ok_specPump (tab_cons (k := 27) ok_implPump (tab_cons (k := 28) ok_sameFloat tab_nil))) Try.func8 rfl rfl ann0 fun vs h v h' e => ⟨0, ?_⟩
  unfold gLawPump at e
  split at e
  · cases e
    rename_i a b
    exact Eq.trans (b := pairLaw (pumpN a b) (pumpOk a b)) (by kernel_rfl) (pairLaw_eq _ _)
  · cases e
end Go.Proofs.Ytjjdfeemkkeokaa.Ab
