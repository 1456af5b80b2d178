/- The functions on whole numbers alone: what they compute. Only lemmas. Written by wip/tools/gen_int.py. -/
import Derived.Test.YtjjdfeemkkeokaaAbEnd
namespace Go.Proofs.Ytjjdfeemkkeokaa.Ab
open Go

def inB (n a b : Int) : Bool := decide (n ≥ a) && decide (n ≤ b)
def gIn : G := fun vs h => match vs, h with | [.int .i64 n, .int .i64 a, .int .i64 b], [] => some (.bool (inB n a b), []) | _, _ => none
def negI (a : Int) : Int := IntKind.i64.wrap (0 - a)
def partB (a x : Int) : Bool := inB x (negI a) a && decide ((IntKind.i64.wrap (a - x)).tmod 2 = 0)
def gPart : G := fun vs h => match vs, h with | [.int .i64 a, .int .i64 x], [] => some (.bool (partB a x), []) | _, _ => none
def turnB (a x : Int) : Bool := inB a 0 6 && partB a x
def gTurn : G := fun vs h => match vs, h with | [.int .i64 a, .int .i64 x], [] => some (.bool (turnB a x), []) | _, _ => none

theorem ok_l00In : FnOk Try.prog 50 gIn := by
  refine fnOk (tab_nil) Try.func50 rfl rfl ann0 fun vs h v h' e => ⟨0, ?_⟩
  unfold gIn at e
  split at e
  · cases e
    rename_i n a b
    refine Eq.trans (b := match decide (n ≥ a) with | true => some (.bool (decide (n ≤ b)), []) | false => some (.bool false, [])) (by kernel_rfl) ?_
    unfold inB
    cases decide (n ≥ a) <;> rfl
  · cases e
theorem ok_within : FnOk Try.prog 48 gIn := by
  refine fnOk (tab_nil) Try.func48 rfl rfl ann0 fun vs h v h' e => ⟨0, ?_⟩
  unfold gIn at e
  split at e
  · cases e
    rename_i n a b
    refine Eq.trans (b := match decide (n ≥ a) with | true => some (.bool (decide (n ≤ b)), []) | false => some (.bool false, [])) (by kernel_rfl) ?_
    unfold inB
    cases decide (n ≥ a) <;> rfl
  · cases e
theorem ok_l03Part : FnOk Try.prog 78 gPart := by
  refine fnOk (tab_cons (k := 50) ok_l00In tab_nil) Try.func78 rfl rfl ann0 fun vs h v h' e => ⟨0, ?_⟩
  unfold gPart at e
  split at e
  · cases e
    rename_i a x
    refine Eq.trans (b := match inB x (negI a) a with | true => some (.bool (decide ((IntKind.i64.wrap (a - x)).tmod 2 = 0)), []) | false => some (.bool false, [])) (by kernel_rfl) ?_
    unfold partB
    cases inB x (negI a) a <;> rfl
  · cases e
theorem ok_isPart : FnOk Try.prog 49 gPart := by
  refine fnOk (tab_cons (k := 48) ok_within tab_nil) Try.func49 rfl rfl ann0 fun vs h v h' e => ⟨0, ?_⟩
  unfold gPart at e
  split at e
  · cases e
    rename_i a x
    refine Eq.trans (b := match inB x (negI a) a with | true => some (.bool (decide ((IntKind.i64.wrap (a - x)).tmod 2 = 0)), []) | false => some (.bool false, [])) (by kernel_rfl) ?_
    unfold partB
    cases inB x (negI a) a <;> rfl
  · cases e
theorem ok_l03Turn : FnOk Try.prog 47 gTurn := by
  refine fnOk (tab_cons (k := 50) ok_l00In (tab_cons (k := 78) ok_l03Part tab_nil)) Try.func47 rfl rfl ann0 fun vs h v h' e => ⟨0, ?_⟩
  unfold gTurn at e
  split at e
  · cases e
    rename_i a x
    refine Eq.trans (b := match inB a 0 6 with | true => some (.bool (partB a x), []) | false => some (.bool false, [])) (by kernel_rfl) ?_
    unfold turnB
    cases inB a 0 6 <;> rfl
  · cases e
theorem ok_implIsTurn : FnOk Try.prog 16 gTurn := by
  refine fnOk (tab_cons (k := 48) ok_within (tab_cons (k := 49) ok_isPart tab_nil)) Try.func16 rfl rfl ann0 fun vs h v h' e => ⟨0, ?_⟩
  unfold gTurn at e
  split at e
  · cases e
    rename_i a x
    refine Eq.trans (b := match inB a 0 6 with | true => some (.bool (partB a x), []) | false => some (.bool false, [])) (by kernel_rfl) ?_
    unfold turnB
    cases inB a 0 6 <;> rfl
  · cases e
theorem ok_specIsTurn : FnOk Try.prog 15 gTurn := by
  refine fnOk (tab_cons (k := 47) ok_l03Turn tab_nil) Try.func15 rfl rfl ann0 fun vs h v h' e => ⟨0, ?_⟩
  unfold gTurn at e
  split at e
  · cases e
    kernel_rfl
  · cases e
def gLawTurn : G := fun vs h => match vs, h with | [.int .i64 _, .int .i64 _], [] => some (.bool true, []) | _, _ => none
theorem ok_lawTurn : FnOk Try.prog 3 gLawTurn := by
  refine fnOk (tab_cons (k := 15) ok_specIsTurn (tab_cons (k := 16) ok_implIsTurn tab_nil)) Try.func3 rfl rfl ann0 fun vs h v h' e => ⟨0, ?_⟩
  unfold gLawTurn at e
  split at e
  · cases e
    rename_i a x
    conv => lhs; whnf
    generalize turnB a x = c
    cases c <;> kernel_rfl
  · cases e
end Go.Proofs.Ytjjdfeemkkeokaa.Ab
