/- 'laws.sameFloat' and the checked number. Only lemmas. -/
import Derived.Test.YthcjbchkagkaaaaNumB
namespace Go.Proofs.Ythcjbchkagkaaaa.Ab
set_option linter.unusedVariables false
set_option linter.unusedSimpArgs false
open Go

theorem ok_sameFloat : FnOk Try.prog 17 gSame := by
  refine fnOk tab_nil Try.func17 rfl rfl ann0 fun vs h v h' e => ⟨0, ?_⟩
  unfold gSame at e
  split at e
  · cases e
    rename_i a b
    refine Eq.trans (b := match !eqD a a with
      | true => (match !eqD a a with | true => some (.bool (!eqD b b), []) | false => some (.bool false, []))
      | false => match !eqD b b with
        | true => (match !eqD a a with | true => some (.bool (!eqD b b), []) | false => some (.bool false, []))
        | false => match eqD a 0 with
          | true => (match eqD b 0 with
            | true => some (.bool (gtD (fop .quo .f64 one64 a) 0 == gtD (fop .quo .f64 one64 b) 0), [])
            | false => some (.bool (eqD a b), []))
          | false => some (.bool (eqD a b), [])) (by kernel_rfl) ?_
    unfold sameB
    cases eqD a a <;> cases eqD b b <;> cases eqD a 0 <;> cases eqD b 0 <;> rfl
  · cases e

abbrev pairV (b : Bool) (y : Nat) : V := .tup [.a (.fl .f32 y), .a (.bool b)]
def gNum : G := fun vs h => match vs, h with | [.fl .f32 x], [] => some (pairV (finB x) (cond (finB x) x 0), []) | _, _ => none
theorem ok_l02Number : FnOk Try.prog 52 gNum := by
  refine fnOk (tab_cons (k := 76) ok_l01Finite tab_nil) Try.func52 rfl rfl ann0 fun vs h v h' e => ⟨0, ?_⟩
  unfold gNum at e
  split at e
  · cases e
    rename_i x
    refine Eq.trans (b := match !finB x with | true => some (pairV false 0, []) | false => some (pairV true x, [])) (by kernel_rfl) ?_
    cases finB x <;> rfl
  · cases e
theorem ok_checked : FnOk Try.prog 53 gNum := by
  refine fnOk (tab_cons (k := 60) ok_IsFinite tab_nil) Try.func53 rfl rfl ann0 fun vs h v h' e => ⟨0, ?_⟩
  unfold gNum at e
  split at e
  · cases e
    rename_i x
    refine Eq.trans (b := match !finB x with | true => some (pairV false 0, []) | false => some (pairV true x, [])) (by kernel_rfl) ?_
    cases finB x <;> rfl
  · cases e

/-- What a law of a number and a mark asks. -/
def pairLaw (y : Nat) (b : Bool) : Option (V × H) :=
  match fconv .f32 y .f64 with
  | none => none
  | some d => match fconv .f32 y .f64 with
    | none => none
    | some d' => match !sameB d d' with
      | true => some (.bool false, [])
      | false => match !(b == b) with
        | true => some (.bool false, [])
        | false => some (.bool true, [])
theorem pairLaw_eq (y : Nat) (b : Bool) : pairLaw y b = some (.bool true, []) := by
  unfold pairLaw
  simp only [fconv_eq, sameB_self, beq_self_eq_true, Bool.not_true]
end Go.Proofs.Ythcjbchkagkaaaa.Ab
