/- 'CanChange': what it computes, and its law. Only lemmas. -/
import Derived.Test.YtjjdfeemkkeokaaNumI
namespace Go.Proofs.Ytjjdfeemkkeokaa.Ab
set_option linter.unusedVariables false
set_option linter.unusedSimpArgs false
open Go

def gapN (a b : Int) : Int := match decide (a > b) with | true => IntKind.i64.wrap (a - b) | false => IntKind.i64.wrap (b - a)
def gGap : G := fun vs h => match vs, h with | [.int .i64 a, .int .i64 b], [] => some (.int .i64 (gapN a b), []) | _, _ => none
theorem ok_l03Gap : FnOk Try.prog 68 gGap := by
  refine fnOk tab_nil Try.func68 rfl rfl ann0 fun vs h v h' e => ⟨0, ?_⟩
  unfold gGap at e
  split at e
  · cases e
    rename_i a b
    refine Eq.trans (b := match decide (a > b) with | true => some (.int .i64 (IntKind.i64.wrap (a - b)), []) | false => some (.int .i64 (IntKind.i64.wrap (b - a)), [])) (by kernel_rfl) ?_
    unfold gapN
    cases decide (a > b) <;> rfl
  · cases e
def evB (a b c : Int) : Bool := decide ((IntKind.i64.wrap (IntKind.i64.wrap (a + b) - c)).tmod 2 = 0)
def totB (a b c : Int) : Bool := inB c (gapN a b) (IntKind.i64.wrap (a + b)) && evB a b c
def gTot (t : Int → Int → Int → Bool) : G := fun vs h => match vs, h with | [.int .i64 a, .int .i64 b, .int .i64 c], [] => some (.bool (t a b c), []) | _, _ => none
theorem ok_l03Total : FnOk Try.prog 54 (gTot totB) := by
  refine fnOk (tab_cons (k := 68) ok_l03Gap (tab_cons (k := 50) ok_l00In tab_nil)) Try.func54 rfl rfl ann0 fun vs h v h' e => ⟨0, ?_⟩
  unfold gTot at e
  split at e
  · cases e
    rename_i a b c
    refine Eq.trans (b := match inB c (gapN a b) (IntKind.i64.wrap (a + b)) with | true => some (.bool (evB a b c), []) | false => some (.bool false, [])) (by kernel_rfl) ?_
    unfold totB
    cases inB c (gapN a b) (IntKind.i64.wrap (a + b)) <;> rfl
  · cases e
def maxN (a b : Int) : Int := if IntKind.i64.wrap (b - a) > IntKind.i64.wrap (a - b) then IntKind.i64.wrap (b - a) else IntKind.i64.wrap (a - b)
def totI (a b c : Int) : Bool := (decide (c ≥ maxN a b) && decide (c ≤ IntKind.i64.wrap (a + b))) && evB a b c
theorem ok_isTotal : FnOk Try.prog 56 (gTot totI) := by
  refine fnOk tab_nil Try.func56 rfl rfl ann0 fun vs h v h' e => ⟨0, ?_⟩
  unfold gTot at e
  split at e
  · cases e
    rename_i a b c
    refine Eq.trans (b := match decide (c ≥ maxN a b) with
      | true => (match decide (c ≤ IntKind.i64.wrap (a + b)) with | true => some (.bool (evB a b c), []) | false => some (.bool false, []))
      | false => some (.bool false, [])) (by kernel_rfl) ?_
    unfold totI
    cases decide (c ≥ maxN a b) <;> cases decide (c ≤ IntKind.i64.wrap (a + b)) <;> rfl
  · cases e
theorem ok_l03Is : FnOk Try.prog 53 (gI1 turB) := by
  refine fnOk (tab_cons (k := 50) ok_l00In tab_nil) Try.func53 rfl rfl ann0 fun vs h v h' e => ⟨0, ?_⟩
  unfold gI1 at e
  split at e
  · cases e
    kernel_rfl
  · cases e
theorem turB_cases {a : Int} (h : turB a = true) : a = 0 ∨ a = 1 ∨ a = 2 ∨ a = 3 ∨ a = 4 ∨ a = 5 ∨ a = 6 := by
  simp only [turB, inB, Bool.and_eq_true, decide_eq_true_eq] at h
  omega
theorem tot_two {a : Int} (h : turB a = true) (b : Int) : totI a 2 b = totB a 2 b := by
  rcases turB_cases h with rfl | rfl | rfl | rfl | rfl | rfl | rfl <;> kernel_rfl

def canOk (a b : Int) : Bool := turB a && inB b 0 12
def canB (t : Int → Int → Int → Bool) (a b : Int) (o p : Bool) : Bool := canOk a b && ((!(o == p) && t a 2 b) && decide (IntKind.i64.wrap (a + b) > 0))
abbrev boolsV (x y : Bool) : V := .tup [.a (.bool x), .a (.bool y)]
def gCan : G := fun vs h => match vs, h with | [.int .i64 a, .int .i64 b, .bool o, .bool p], [] => some (boolsV (canB totB a b o p) (canOk a b), []) | _, _ => none
theorem ok_specCan : FnOk Try.prog 22 gCan := by
  refine fnOk (tab_cons (k := 53) ok_l03Is (tab_cons (k := 50) ok_l00In (tab_cons (k := 54) ok_l03Total tab_nil))) Try.func22 rfl rfl ann0 fun vs h v h' e => ⟨0, ?_⟩
  unfold gCan at e
  split at e
  · cases e
    rename_i a b o p
    refine Eq.trans (b := match !turB a with
      | true => some (boolsV false false, [])
      | false => match !inB b 0 12 with
        | true => some (boolsV false false, [])
        | false => match !(o == p) with
          | true => (match totB a 2 b with | true => some (boolsV (decide (IntKind.i64.wrap (a + b) > 0)) true, []) | false => some (boolsV false true, []))
          | false => some (boolsV false true, [])) (by kernel_rfl) ?_
    unfold canB canOk
    cases turB a <;> cases inB b 0 12 <;> cases o == p <;> cases totB a 2 b <;> rfl
  · cases e
theorem ok_implCan : FnOk Try.prog 23 gCan := by
  refine fnOk (tab_cons (k := 55) ok_areTurns (tab_cons (k := 48) ok_within (tab_cons (k := 56) ok_isTotal tab_nil))) Try.func23 rfl rfl ann0 fun vs h v h' e => ⟨0, ?_⟩
  unfold gCan at e
  split at e
  · cases e
    rename_i a b o p
    refine Eq.trans (b := match !(turB a && true) with
      | true => some (boolsV false false, [])
      | false => match !inB b 0 12 with
        | true => some (boolsV false false, [])
        | false => match !(o == p) with
          | true => (match totI a 2 b with | true => some (boolsV (decide (IntKind.i64.wrap (a + b) > 0)) true, []) | false => some (boolsV false true, []))
          | false => some (boolsV false true, [])) (by kernel_rfl) ?_
    unfold canB canOk
    cases h : turB a with
    | false => rfl
    | true =>
      rw [tot_two h]
      cases inB b 0 12 <;> cases o == p <;> cases totB a 2 b <;> rfl
  · cases e
def gLawCan : G := fun vs h => match vs, h with | [.int .i64 _, .int .i64 _, .bool _, .bool _], [] => some (.bool true, []) | _, _ => none
theorem ok_lawCan : FnOk Try.prog 6 gLawCan := by
  refine fnOk (tab_cons (k := 22) ok_specCan (tab_cons (k := 23) ok_implCan tab_nil)) Try.func6 rfl rfl ann0 fun vs h v h' e => ⟨0, ?_⟩
  unfold gLawCan at e
  split at e
  · cases e
    rename_i a b o p
    refine Eq.trans (b := match !(canB totB a b o p == canB totB a b o p) with
      | true => some (.bool false, [])
      | false => match !(canOk a b == canOk a b) with
        | true => some (.bool false, [])
        | false => some (.bool true, [])) (by kernel_rfl) ?_
    simp
  · cases e
end Go.Proofs.Ytjjdfeemkkeokaa.Ab
