/- Roots: LightOf, DarkState. Only lemmas. Printed by gen_root.py. -/
import Derived.Test.YthcjbchkagkaaaaLib
import Derived.Test.YthcjbchkagkaaaaBnd2
namespace Go.Proofs.Ythcjbchkagkaaaa.Ab
set_option linter.unusedVariables false
set_option linter.unusedSimpArgs false
open Go
theorem ok_msqrt : FnT Try.prog 112 gSqrt := sqrt_ok Try.func112 (by decide) (by rfl) (by rfl) (by rfl)
def tab_mSqrt : Fns := tabT [(112, gSqrt)]
theorem tabok_mSqrt : ∀ f, FnT Try.prog f (tab_mSqrt f) := (tabT_cons (k := 112) ok_msqrt tabT_nil)
theorem run_mSqrt (N : Nat) (x : Nat) : run ty tab_mSqrt ann0 N Try.f105 [.fl .f64 x] []
    = some (.fl .f64 (fsqrt x), []) := by
  kernel_rfl

theorem ok_mSqrt : FnT Try.prog 105 (gSqrt) := by
  refine fnT tabok_mSqrt Try.func105 rfl rfl ann0 fun vs h v h' e => ⟨0, ?_⟩
  unfold gSqrt at e
  split at e
  case h_2 => exact (T.no_inv e).elim
  obtain ⟨rfl, rfl⟩ := T.ret_inv e
  exact run_mSqrt 0 _
def narOk (x : Nat) : Bool := (fconv .f64 x .f32).isSome
def nar (x : Nat) : Nat := (fconv .f64 x .f32).getD 0
def gNar : GT := fun vs h => match vs, h with | [.fl .f64 x], [] => .ite (narOk x) (.ret (.fl .f32 (nar x)) []) .no | _, _ => .no
def tab_l01Narrow : Fns := tabT []
theorem tabok_l01Narrow : ∀ f, FnT Try.prog f (tab_l01Narrow f) := tabT_nil
theorem run_l01Narrow (N : Nat) (x : Nat) : run ty tab_l01Narrow ann0 N Try.f90 [.fl .f64 x] []
    = (match fconv .f64 x .f32 with
  | some c1 => some (.fl .f32 c1, [])
  | none => none) := by
  kernel_rfl

theorem ok_l01Narrow : FnT Try.prog 90 (gNar) := by
  refine fnT tabok_l01Narrow Try.func90 rfl rfl ann0 fun vs h v h' e => ⟨0, ?_⟩
  unfold gNar at e
  split at e
  case h_2 => exact (T.no_inv e).elim
  rename_i x
  obtain ⟨hx, e⟩ := T.pre_inv e
  obtain ⟨rfl, rfl⟩ := T.ret_inv e
  refine Eq.trans (run_l01Narrow 0 x) ?_
  unfold narOk at hx
  unfold nar
  cases hy : fconv .f64 x .f32 with
  | none => rw [hy] at hx; cases hx
  | some y => rfl
def gRoot : G := fun vs h => match vs, h with | [.fl .f32 x], [] => some (.fl .f32 (rootF x), []) | _, _ => none
def tab_l01Sqrt : Fns := tabT [(105, gSqrt), (90, gNar)]
theorem tabok_l01Sqrt : ∀ f, FnT Try.prog f (tab_l01Sqrt f) := (tabT_cons (k := 105) ok_mSqrt (tabT_cons (k := 90) ok_l01Narrow tabT_nil))
theorem run_l01Sqrt (N : Nat) (x : Nat) : run ty tab_l01Sqrt ann0 N Try.f84 [.fl .f32 x] []
    = (match fconv .f32 x .f64 with
  | some c1 => (match narOk (fsqrt c1) with
    | true => some (.fl .f32 (nar (fsqrt c1)), [])
    | false => none)
  | none => none) := by
  kernel_rfl

theorem ok_l01Sqrt : FnT Try.prog 84 (gT gRoot) := by
  refine fnT tabok_l01Sqrt Try.func84 rfl rfl ann0 fun vs h v h' e => ⟨0, ?_⟩
  rw [T.run_of] at e
  unfold gRoot at e
  split at e
  case h_2 => cases e
  rename_i x
  cases e
  refine Eq.trans (run_l01Sqrt 0 x) ?_
  simp only [fconv_eq, narOk, nar, rootF_eq, Option.isSome_some, Option.getD_some]
def tab_RootNumber : Fns := tabT [(105, gSqrt)]
theorem tabok_RootNumber : ∀ f, FnT Try.prog f (tab_RootNumber f) := (tabT_cons (k := 105) ok_mSqrt tabT_nil)
theorem run_RootNumber (N : Nat) (x : Nat) : run ty tab_RootNumber ann0 N Try.f86 [.fl .f32 x] []
    = (match fconv .f32 x .f64 with
  | some c1 => (match fconv .f64 (fsqrt c1) .f32 with
    | some c2 => some (.fl .f32 c2, [])
    | none => none)
  | none => none) := by
  kernel_rfl

theorem ok_RootNumber : FnT Try.prog 86 (gT gRoot) := by
  refine fnT tabok_RootNumber Try.func86 rfl rfl ann0 fun vs h v h' e => ⟨0, ?_⟩
  rw [T.run_of] at e
  unfold gRoot at e
  split at e
  case h_2 => cases e
  rename_i x
  cases e
  refine Eq.trans (run_RootNumber 0 x) ?_
  simp only [fconv_eq, rootF_eq, Option.isSome_some, Option.getD_some]
def puOk (l g : Nat) : Bool := posB l && (posB g && finB (fop .quo .f32 l g))
def g_pu : GT := fun vs h => match vs, h with | [.fl .f32 l, .fl .f32 g], [] => .ite (puOk l g) (.ret (pairV true (fop .quo .f32 l g)) []) (.ret (pairV false 0) []) | _, _ => .no
def tab_PumpLevel : Fns := tabT [(55, gAllT posB), (53, gNumT)]
theorem tabok_PumpLevel : ∀ f, FnT Try.prog f (tab_PumpLevel f) := (tabT_cons (k := 55) ok_arePositive (tabT_cons (k := 53) ok_checked tabT_nil))
theorem run_PumpLevel (N : Nat) (l : Nat) (g : Nat) : run ty tab_PumpLevel ann0 N Try.f85 [.fl .f32 l, .fl .f32 g] []
    = (match !(posB l && (posB g && true)) with
  | true => some (.tup [.a (.fl .f32 0), .a (.bool false)], [])
  | false => (match finB (fop .quo .f32 l g) with
    | true => some (.tup [.a (.fl .f32 (fop .quo .f32 l g)), .a (.bool true)], [])
    | false => some (.tup [.a (.fl .f32 0), .a (.bool false)], []))) := by
  kernel_rfl

theorem ok_PumpLevel : FnT Try.prog 85 (g_pu) := by
  refine fnT tabok_PumpLevel Try.func85 rfl rfl ann0 fun vs h v h' e => ⟨0, ?_⟩
  unfold g_pu at e
  split at e
  case h_2 => exact (T.no_inv e).elim
  rename_i l g
  refine Eq.trans (run_PumpLevel 0 l g) (Eq.trans ?_ e)
  show _ = T.k _ _
  simp only [T.k]
  unfold puOk
  cases posB l
  · rfl
  cases posB g
  · rfl
  simp only [Bool.true_and]
  cases finB (fop .quo .f32 l g) <;> rfl
def ligR (p l g s : Nat) : Nat := fop .mul .f32 1056964608 (fop .add .f32 (fop .sub .f32 p (fop .quo .f32 l g)) (rootF (fop .add .f32 (fop .mul .f32 (fop .sub .f32 p (fop .quo .f32 l g)) (fop .sub .f32 p (fop .quo .f32 l g))) (fop .mul .f32 (fop .mul .f32 1082130432 s) p))))
def ligOk (p l g s : Nat) : Bool := nonB p && (posB l && (posB g && (nonB s && finB (ligR p l g s))))
theorem lig_fin {p l g s : Nat} (h : finB (ligR p l g s) = true) : finB (fop .quo .f32 l g) = true := (fin_sub (fin_add (fin_mul h).2).1).2
def g_lig : GT := fun vs h => match vs, h with | [.fl .f32 p, .fl .f32 l, .fl .f32 g, .fl .f32 s], [] => .ite (ligOk p l g s) (.ret (pairV true (ligR p l g s)) []) (.ret (pairV false 0) []) | _, _ => .no
def tab_ligS : Fns := tabT [(57, gT (gF1 nonB)), (58, gT (gF1 posB)), (84, gT gRoot), (52, gNumT)]
theorem tabok_ligS : ∀ f, FnT Try.prog f (tab_ligS f) := (tabT_cons (k := 57) ok_l02Least (tabT_cons (k := 58) ok_l02Above (tabT_cons (k := 84) ok_l01Sqrt (tabT_cons (k := 52) ok_l02Number tabT_nil))))
theorem run_ligS (N : Nat) (p : Nat) (l : Nat) (g : Nat) (s : Nat) : run ty tab_ligS ann0 N Try.f49 [.fl .f32 p, .fl .f32 l, .fl .f32 g, .fl .f32 s] []
    = (match !(nonB p) with
  | true => some (.tup [.a (.fl .f32 0), .a (.bool false)], [])
  | false => (match !(posB l) with
    | true => some (.tup [.a (.fl .f32 0), .a (.bool false)], [])
    | false => (match !(posB g) with
      | true => some (.tup [.a (.fl .f32 0), .a (.bool false)], [])
      | false => (match !(nonB s) with
        | true => some (.tup [.a (.fl .f32 0), .a (.bool false)], [])
        | false => (match finB (fop .mul .f32 1056964608 (fop .add .f32 (fop .sub .f32 p (fop .quo .f32 l g)) (rootF (fop .add .f32 (fop .mul .f32 (fop .sub .f32 p (fop .quo .f32 l g)) (fop .sub .f32 p (fop .quo .f32 l g))) (fop .mul .f32 (fop .mul .f32 1082130432 s) p))))) with
          | true => some (.tup [.a (.fl .f32 (fop .mul .f32 1056964608 (fop .add .f32 (fop .sub .f32 p (fop .quo .f32 l g)) (rootF (fop .add .f32 (fop .mul .f32 (fop .sub .f32 p (fop .quo .f32 l g)) (fop .sub .f32 p (fop .quo .f32 l g))) (fop .mul .f32 (fop .mul .f32 1082130432 s) p)))))), .a (.bool true)], [])
          | false => some (.tup [.a (.fl .f32 0), .a (.bool false)], [])))))) := by
  kernel_rfl

theorem ok_ligS : FnT Try.prog 49 (g_lig) := by
  refine fnT tabok_ligS Try.func49 rfl rfl ann0 fun vs h v h' e => ⟨0, ?_⟩
  unfold g_lig at e
  split at e
  case h_2 => exact (T.no_inv e).elim
  rename_i p l g s
  refine Eq.trans (run_ligS 0 p l g s) (Eq.trans ?_ e)
  show _ = T.k _ _
  simp only [T.k]
  unfold ligOk
  cases nonB p
  · rfl
  cases posB l
  · rfl
  cases posB g
  · rfl
  cases nonB s
  · rfl
  simp only [Bool.true_and]
  show (match finB (ligR p l g s) with | true => some (pairV true (ligR p l g s), ([] : H)) | false => some (pairV false 0, [])) = _
  cases finB (ligR p l g s) <;> rfl
def tab_ligI : Fns := tabT [(73, gAllT nonB), (85, g_pu), (86, gT gRoot), (53, gNumT)]
theorem tabok_ligI : ∀ f, FnT Try.prog f (tab_ligI f) := (tabT_cons (k := 73) ok_areRotor (tabT_cons (k := 85) ok_PumpLevel (tabT_cons (k := 86) ok_RootNumber (tabT_cons (k := 53) ok_checked tabT_nil))))
theorem run_ligI (N : Nat) (p : Nat) (l : Nat) (g : Nat) (s : Nat) : run ty tab_ligI ann0 N Try.f50 [.fl .f32 p, .fl .f32 l, .fl .f32 g, .fl .f32 s] []
    = (match !(nonB p && (nonB s && true)) with
  | true => some (.tup [.a (.fl .f32 0), .a (.bool false)], [])
  | false => (match puOk l g with
    | true => (match finB (fop .mul .f32 1056964608 (fop .add .f32 (fop .sub .f32 p (fop .quo .f32 l g)) (rootF (fop .add .f32 (fop .mul .f32 (fop .sub .f32 p (fop .quo .f32 l g)) (fop .sub .f32 p (fop .quo .f32 l g))) (fop .mul .f32 (fop .mul .f32 1082130432 s) p))))) with
      | true => some (.tup [.a (.fl .f32 (fop .mul .f32 1056964608 (fop .add .f32 (fop .sub .f32 p (fop .quo .f32 l g)) (rootF (fop .add .f32 (fop .mul .f32 (fop .sub .f32 p (fop .quo .f32 l g)) (fop .sub .f32 p (fop .quo .f32 l g))) (fop .mul .f32 (fop .mul .f32 1082130432 s) p)))))), .a (.bool true)], [])
      | false => some (.tup [.a (.fl .f32 0), .a (.bool false)], []))
    | false => some (.tup [.a (.fl .f32 0), .a (.bool false)], []))) := by
  kernel_rfl

theorem ok_ligI : FnT Try.prog 50 (g_lig) := by
  refine fnT tabok_ligI Try.func50 rfl rfl ann0 fun vs h v h' e => ⟨0, ?_⟩
  unfold g_lig at e
  split at e
  case h_2 => exact (T.no_inv e).elim
  rename_i p l g s
  refine Eq.trans (run_ligI 0 p l g s) (Eq.trans ?_ e)
  show _ = T.k _ _
  simp only [T.k]
  unfold ligOk
  unfold puOk
  cases nonB p
  · rfl
  cases nonB s
  · cases posB l <;> cases posB g <;> rfl
  cases posB l
  · rfl
  cases posB g
  · rfl
  simp only [Bool.true_and]
  cases hq : finB (fop .quo .f32 l g) with
  | false =>
    cases hr : finB (ligR p l g s) with
    | false => rfl
    | true => rw [lig_fin hr] at hq; cases hq
  | true =>
    show (match finB (ligR p l g s) with | true => some (pairV true (ligR p l g s), ([] : H)) | false => some (pairV false 0, [])) = _
    cases finB (ligR p l g s) <;> rfl
def tab_lawlig : Fns := tabT [(49, g_lig), (50, g_lig), (17, gT gSame)]
theorem tabok_lawlig : ∀ f, FnT Try.prog f (tab_lawlig f) := (tabT_cons (k := 49) ok_ligS (tabT_cons (k := 50) ok_ligI (tabT_cons (k := 17) ok_sameFloat tabT_nil)))
theorem run_lawlig (N : Nat) (p : Nat) (l : Nat) (g : Nat) (s : Nat) : run ty tab_lawlig ann0 N Try.f14 [.fl .f32 p, .fl .f32 l, .fl .f32 g, .fl .f32 s] []
    = (match ligOk p l g s with
  | true => (match ligOk p l g s with
    | true => (match fconv .f32 (ligR p l g s) .f64 with
      | some c1 => (match fconv .f32 (ligR p l g s) .f64 with
        | some c2 => (match !(sameB c1 c2) with
          | true => some (.bool false, [])
          | false => some (.bool true, []))
        | none => none)
      | none => none)
    | false => (match fconv .f32 (ligR p l g s) .f64 with
      | some c3 => (match !(sameB 0 c3) with
        | true => some (.bool false, [])
        | false => some (.bool false, []))
      | none => none))
  | false => (match ligOk p l g s with
    | true => (match fconv .f32 (ligR p l g s) .f64 with
      | some c4 => (match !(sameB c4 0) with
        | true => some (.bool false, [])
        | false => some (.bool false, []))
      | none => none)
    | false => (match !(sameB 0 0) with
      | true => some (.bool false, [])
      | false => some (.bool true, [])))) := by
  kernel_rfl

theorem ok_lawLightOf : FnOk Try.prog 14 (fun vs h => match vs, h with | [.fl .f32 p, .fl .f32 l, .fl .f32 g, .fl .f32 s], [] => some (.bool true, []) | _, _ => none) := by
  refine fnOk tabok_lawlig Try.func14 rfl rfl ann0 fun vs h v h' e => ⟨0, ?_⟩
  split at e
  case h_2 => cases e
  rename_i p l g s
  cases e
  refine Eq.trans (run_lawlig 0 _ _ _ _) ?_
  cases ligOk p l g s <;> simp only [fconv_eq, sameB_self, Bool.not_true]
end Go.Proofs.Ythcjbchkagkaaaa.Ab
