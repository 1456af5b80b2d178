/- Pulses: valid ones. Only lemmas. Printed by gen_pulse.py. -/
import Derived.Test.YtjjdfeemkkeokaaLib
namespace Go.Proofs.Ytjjdfeemkkeokaa.Ab
set_option linter.unusedVariables false
set_option linter.unusedSimpArgs false
open Go
def pvB (a b c d : Nat) : Bool := nonB a && (finB b && (finB c && nonB d))
def gTp : G := fun vs h => match vs, h with | [.g [.fl .f32 a, .fl .f32 b, .fl .f32 c, .fl .f32 d]], [] => some (.g [.fl .f32 a, .fl .f32 b, .fl .f32 c, .fl .f32 d], []) | _, _ => none
def gPvP : G := fun vs h => match vs, h with | [.ptr 0 0], [.at rw (.as 1 [.fl .f32 a, .fl .f32 b, .fl .f32 c, .fl .f32 d])] => some (.bool (pvB a b c d), [.at rw (.as 1 [.fl .f32 a, .fl .f32 b, .fl .f32 c, .fl .f32 d])]) | _, _ => none
def gPv : G := fun vs h => match vs, h with | [.g [.fl .f32 a, .fl .f32 b, .fl .f32 c, .fl .f32 d]], [] => some (.bool (pvB a b c d), []) | _, _ => none
def tab_toPulse : Fns := tabT []
theorem tabok_toPulse : ∀ f, FnT Try.prog f (tab_toPulse f) := tabT_nil
theorem run_toPulse (N : Nat) (a : Nat) (b : Nat) (c : Nat) (d : Nat) : run ty tab_toPulse ann0 N Try.f20 [.g [.fl .f32 a, .fl .f32 b, .fl .f32 c, .fl .f32 d]] []
    = some (.g [.fl .f32 a, .fl .f32 b, .fl .f32 c, .fl .f32 d], []) := by
  kernel_rfl

theorem ok_toPulse : FnT Try.prog 20 (gT gTp) := by
  refine fnT tabok_toPulse Try.func20 rfl rfl ann0 fun vs h v h' e => ⟨0, ?_⟩
  rw [T.run_of] at e
  unfold gTp at e
  split at e
  case h_2 => cases e
  rename_i a b c d
  cases e
  refine Eq.trans (run_toPulse 0 _ _ _ _) ?_
  rfl
def tab_l04Is : Fns := tabT [(64, gT (gF1 nonB)), (63, gT (gF1 finB))]
theorem tabok_l04Is : ∀ f, FnT Try.prog f (tab_l04Is f) := (tabT_cons (k := 64) ok_l02Least (tabT_cons (k := 63) ok_l01Finite tabT_nil))
theorem run_l04Is (N : Nat) (rw : Bool) (a : Nat) (b : Nat) (c : Nat) (d : Nat) : run ty tab_l04Is ann0 N Try.f51 [.ptr 0 0] [.at rw (.as 1 [.fl .f32 a, .fl .f32 b, .fl .f32 c, .fl .f32 d])]
    = (match nonB a with
  | true => (match finB b with
    | true => (match finB c with
      | true => some (.bool (nonB d), [.at rw (.as 1 [.fl .f32 a, .fl .f32 b, .fl .f32 c, .fl .f32 d])])
      | false => some (.bool false, [.at rw (.as 1 [.fl .f32 a, .fl .f32 b, .fl .f32 c, .fl .f32 d])]))
    | false => some (.bool false, [.at rw (.as 1 [.fl .f32 a, .fl .f32 b, .fl .f32 c, .fl .f32 d])]))
  | false => some (.bool false, [.at rw (.as 1 [.fl .f32 a, .fl .f32 b, .fl .f32 c, .fl .f32 d])])) := by
  kernel_rfl

theorem ok_l04Is : FnT Try.prog 51 (gT gPvP) := by
  refine fnT tabok_l04Is Try.func51 rfl rfl ann0 fun vs h v h' e => ⟨0, ?_⟩
  rw [T.run_of] at e
  unfold gPvP at e
  split at e
  case h_2 => cases e
  rename_i rw a b c d
  cases e
  refine Eq.trans (run_l04Is 0 _ _ _ _ _) ?_
  unfold pvB
  cases nonB a <;> cases finB b <;> cases finB c <;> rfl
def tab_pulS : Fns := tabT [(51, gT gPvP)]
theorem tabok_pulS : ∀ f, FnT Try.prog f (tab_pulS f) := (tabT_cons (k := 51) ok_l04Is tabT_nil)
theorem run_pulS (N : Nat) (a : Nat) (b : Nat) (c : Nat) (d : Nat) : run ty tab_pulS ann0 N Try.f19 [.g [.fl .f32 a, .fl .f32 b, .fl .f32 c, .fl .f32 d]] []
    = some (.bool (pvB a b c d), []) := by
  kernel_rfl

theorem ok_pulS : FnT Try.prog 19 (gT gPv) := by
  refine fnT tabok_pulS Try.func19 rfl rfl ann0 fun vs h v h' e => ⟨0, ?_⟩
  rw [T.run_of] at e
  unfold gPv at e
  split at e
  case h_2 => cases e
  rename_i a b c d
  cases e
  refine Eq.trans (run_pulS 0 _ _ _ _) ?_
  rfl
def tab_pulI : Fns := tabT [(52, gAllT finB)]
theorem tabok_pulI : ∀ f, FnT Try.prog f (tab_pulI f) := (tabT_cons (k := 52) ok_areFinite tabT_nil)
theorem run_pulI (N : Nat) (a : Nat) (b : Nat) (c : Nat) (d : Nat) : run ty tab_pulI ann0 N Try.f21 [.g [.fl .f32 a, .fl .f32 b, .fl .f32 c, .fl .f32 d]] []
    = (match (finB a && (finB b && (finB c && (finB d && true)))) with
  | true => (match gtB a 0 || eqB a 0 with
    | true => some (.bool (gtB d 0 || eqB d 0), [])
    | false => some (.bool false, []))
  | false => some (.bool false, [])) := by
  kernel_rfl

theorem ok_pulI : FnT Try.prog 21 (gT gPv) := by
  refine fnT tabok_pulI Try.func21 rfl rfl ann0 fun vs h v h' e => ⟨0, ?_⟩
  rw [T.run_of] at e
  unfold gPv at e
  split at e
  case h_2 => cases e
  rename_i a b c d
  cases e
  refine Eq.trans (run_pulI 0 _ _ _ _) ?_
  unfold pvB nonB
  cases finB a <;> cases finB b <;> cases finB c <;> cases finB d <;> cases (gtB a 0 || eqB a 0) <;> cases (gtB d 0 || eqB d 0) <;> rfl
def tab_lawVP : Fns := tabT [(20, gT gTp), (19, gT gPv), (21, gT gPv)]
theorem tabok_lawVP : ∀ f, FnT Try.prog f (tab_lawVP f) := (tabT_cons (k := 20) ok_toPulse (tabT_cons (k := 19) ok_pulS (tabT_cons (k := 21) ok_pulI tabT_nil)))
theorem run_lawVP (N : Nat) (a : Nat) (b : Nat) (c : Nat) (d : Nat) : run ty tab_lawVP ann0 N Try.f5 [.g [.fl .f32 a, .fl .f32 b, .fl .f32 c, .fl .f32 d]] []
    = (match !((pvB a b c d) == (pvB a b c d)) with
  | true => some (.bool false, [])
  | false => some (.bool true, [])) := by
  kernel_rfl

theorem ok_lawValidPulse : FnOk Try.prog 5 (fun vs h => match vs, h with | [.g [.fl .f32 a, .fl .f32 b, .fl .f32 c, .fl .f32 d]], [] => some (.bool true, []) | _, _ => none) := by
  refine fnOk tabok_lawVP Try.func5 rfl rfl ann0 fun vs h v h' e => ⟨0, ?_⟩
  split at e
  case h_2 => cases e
  rename_i a b c d
  cases e
  refine Eq.trans (run_lawVP 0 _ _ _ _) ?_
  cases pvB a b c d <;> rfl
end Go.Proofs.Ytjjdfeemkkeokaa.Ab
