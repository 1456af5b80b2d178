/- SwingShare. Only lemmas. Printed by gen_swing.py. -/
import Derived.Test.YtbhfjdlhhjeknaaTrB
namespace Go.Proofs.Ytbhfjdlhhjeknaa.Ab
set_option linter.unusedVariables false
set_option linter.unusedSimpArgs false
open Go
def whW (a b : Nat) : Nat := rootF (fop .add .f32 (fop .mul .f32 a a) (fop .mul .f32 b b))
def trW (a b : Nat) : Nat := fop .quo .f64 (up (fop .mul .f32 a b)) 4618760256179416344
def swS (x : Nat) : Nat := match finD x with | true => (match smB x with | true => nr (phY x) | false => 0) | false => 2143289344
def swX (a b c : Nat) : Nat := trW (fop .mul .f32 1056964608 c) (whW a b)
def swV (a b c : Nat) : Nat := fop .mul .f32 (fop .quo .f32 (fop .mul .f32 a a) (fop .mul .f32 (whW a b) (whW a b))) (fop .mul .f32 (swS (swX a b c)) (swS (swX a b c)))
def swOk (a b c : Nat) : Bool := finB a && (finB b && nonB c)
def gWh : GT := fun vs h => match vs, h with | [.fl .f32 a, .fl .f32 b], [] => .ret (.fl .f32 (whW a b)) [] | _, _ => .no
def tab_whI : Fns := tabT [(41, gT gRoot)]
theorem tabok_whI : ∀ f, FnT Try.prog f (tab_whI f) := (tabT_cons (k := 41) ok_RootNumber tabT_nil)
theorem run_whI (N : Nat) (a : Nat) (b : Nat) : run ty tab_whI ann0 N Try.f82 [.fl .f32 a, .fl .f32 b] []
    = some (.fl .f32 (rootF (fop .add .f32 (fop .mul .f32 a a) (fop .mul .f32 b b))), []) := by
  kernel_rfl

theorem ok_whI : FnT Try.prog 82 gWh := by
  refine fnT tabok_whI Try.func82 rfl rfl ann0 fun vs h v h' e => ⟨0, ?_⟩
  unfold gWh at e
  split at e
  case h_2 => exact (T.no_inv e).elim
  obtain ⟨rfl, rfl⟩ := T.ret_inv e
  refine Eq.trans (run_whI 0 _ _) ?_
  try simp only [fconv_eq]
  try rfl
def tab_whS : Fns := tabT [(129, gT gRoot)]
theorem tabok_whS : ∀ f, FnT Try.prog f (tab_whS f) := (tabT_cons (k := 129) ok_l01Sqrt tabT_nil)
theorem run_whS (N : Nat) (a : Nat) (b : Nat) : run ty tab_whS ann0 N Try.f77 [.fl .f32 a, .fl .f32 b] []
    = some (.fl .f32 (rootF (fop .add .f32 (fop .mul .f32 a a) (fop .mul .f32 b b))), []) := by
  kernel_rfl

theorem ok_whS : FnT Try.prog 77 gWh := by
  refine fnT tabok_whS Try.func77 rfl rfl ann0 fun vs h v h' e => ⟨0, ?_⟩
  unfold gWh at e
  split at e
  case h_2 => exact (T.no_inv e).elim
  obtain ⟨rfl, rfl⟩ := T.ret_inv e
  refine Eq.trans (run_whS 0 _ _) ?_
  try simp only [fconv_eq]
  try rfl
def gTrI : GT := fun vs h => match vs, h with | [.fl .f32 a, .fl .f32 b], [] => .ret (.fl .f64 (trW a b)) [] | _, _ => .no
def tab_trI : Fns := tabT []
theorem tabok_trI : ∀ f, FnT Try.prog f (tab_trI f) := tabT_nil
theorem run_trI (N : Nat) (a : Nat) (b : Nat) : run ty tab_trI ann0 N Try.f84 [.fl .f32 a, .fl .f32 b] []
    = (match fconv .f32 (fop .mul .f32 a b) .f64 with | some c1 => some (.fl .f64 (fop .quo .f64 c1 4618760256179416344), []) | none => none) := by
  kernel_rfl

theorem ok_trI : FnT Try.prog 84 gTrI := by
  refine fnT tabok_trI Try.func84 rfl rfl ann0 fun vs h v h' e => ⟨0, ?_⟩
  unfold gTrI at e
  split at e
  case h_2 => exact (T.no_inv e).elim
  obtain ⟨rfl, rfl⟩ := T.ret_inv e
  refine Eq.trans (run_trI 0 _ _) ?_
  try simp only [fconv_eq]
  try rfl
def gTrS : GT := fun vs h => match vs, h with | [.fl .f32 a, .fl .f32 b], [] => .ret (.fl .f64 (trW b a)) [] | _, _ => .no
def tab_trS : Fns := tabT []
theorem tabok_trS : ∀ f, FnT Try.prog f (tab_trS f) := tabT_nil
theorem run_trS (N : Nat) (a : Nat) (b : Nat) : run ty tab_trS ann0 N Try.f79 [.fl .f32 a, .fl .f32 b] []
    = (match fconv .f32 (fop .mul .f32 b a) .f64 with | some c1 => some (.fl .f64 (fop .quo .f64 c1 4618760256179416344), []) | none => none) := by
  kernel_rfl

theorem ok_trS : FnT Try.prog 79 gTrS := by
  refine fnT tabok_trS Try.func79 rfl rfl ann0 fun vs h v h' e => ⟨0, ?_⟩
  unfold gTrS at e
  split at e
  case h_2 => exact (T.no_inv e).elim
  obtain ⟨rfl, rfl⟩ := T.ret_inv e
  refine Eq.trans (run_trS 0 _ _) ?_
  try simp only [fconv_eq]
  try rfl
def gSw : GT := fun vs h => match vs, h with
  | [.fl .f32 a, .fl .f32 b, .fl .f32 c], [] => .ite (swOk a b c) (.ite (eqB (whW a b) 0) (.ret (.tup [.a (.fl .f32 0), .a (.bool true)]) []) (.ite (finB (swV a b c)) (.ret (.tup [.a (.fl .f32 (swV a b c)), .a (.bool true)]) []) (.ret (.tup [.a (.fl .f32 0), .a (.bool false)]) []))) (.ret (.tup [.a (.fl .f32 0), .a (.bool false)]) [])
  | _, _ => .no
def tab_swI : Fns := tabT [(81, gAllT finB), (82, gWh), (84, gTrI), (83, gPh), (85, gNumT)]
theorem tabok_swI : ∀ f, FnT Try.prog f (tab_swI f) := (tabT_cons (k := 81) ok_areFinite (tabT_cons (k := 82) ok_whI (tabT_cons (k := 84) ok_trI (tabT_cons (k := 83) ok_phI (tabT_cons (k := 85) ok_checked tabT_nil)))))
theorem run_swI (N : Nat) (a : Nat) (b : Nat) (c : Nat) : run ty tab_swI ann0 N Try.f25 [.fl .f32 a, .fl .f32 b, .fl .f32 c] []
    = (match !(finB a && (finB b && (finB c && true))) with | true => some (.tup [.a (.fl .f32 0), .a (.bool false)], []) | false => (match ltB c 0 with | true => some (.tup [.a (.fl .f32 0), .a (.bool false)], []) | false => (match eqB (whW a b) 0 with | true => some (.tup [.a (.fl .f32 0), .a (.bool true)], []) | false => (match finD (trW (fop .mul .f32 1056964608 c) (whW a b)) with | true => (match smB (trW (fop .mul .f32 1056964608 c) (whW a b)) with | true => (match finB (fop .mul .f32 (fop .quo .f32 (fop .mul .f32 a a) (fop .mul .f32 (whW a b) (whW a b))) (fop .mul .f32 (nr (phY (trW (fop .mul .f32 1056964608 c) (whW a b)))) (nr (phY (trW (fop .mul .f32 1056964608 c) (whW a b)))))) with | true => some (.tup [.a (.fl .f32 (fop .mul .f32 (fop .quo .f32 (fop .mul .f32 a a) (fop .mul .f32 (whW a b) (whW a b))) (fop .mul .f32 (nr (phY (trW (fop .mul .f32 1056964608 c) (whW a b)))) (nr (phY (trW (fop .mul .f32 1056964608 c) (whW a b))))))), .a (.bool true)], []) | false => some (.tup [.a (.fl .f32 0), .a (.bool false)], [])) | false => (match finB (fop .mul .f32 (fop .quo .f32 (fop .mul .f32 a a) (fop .mul .f32 (whW a b) (whW a b))) 0) with | true => some (.tup [.a (.fl .f32 (fop .mul .f32 (fop .quo .f32 (fop .mul .f32 a a) (fop .mul .f32 (whW a b) (whW a b))) 0)), .a (.bool true)], []) | false => some (.tup [.a (.fl .f32 0), .a (.bool false)], []))) | false => (match finB (fop .mul .f32 (fop .quo .f32 (fop .mul .f32 a a) (fop .mul .f32 (whW a b) (whW a b))) 2143289344) with | true => some (.tup [.a (.fl .f32 (fop .mul .f32 (fop .quo .f32 (fop .mul .f32 a a) (fop .mul .f32 (whW a b) (whW a b))) 2143289344)), .a (.bool true)], []) | false => some (.tup [.a (.fl .f32 0), .a (.bool false)], [])))))) := by
  kernel_rfl

theorem ok_swI : FnT Try.prog 25 gSw := by
  refine fnT tabok_swI Try.func25 rfl rfl ann0 fun vs h v h' e => ⟨0, ?_⟩
  unfold gSw at e
  split at e
  case h_2 => exact (T.no_inv e).elim
  rename_i a b c
  refine Eq.trans (run_swI 0 a b c) (Eq.trans ?_ e)
  clear e
  show _ = T.k _ _
  simp only [T.k]
  unfold swOk nonB
  cases ha : finB a
  case false => rfl
  cases hb : finB b
  case false => rfl
  have hn := not_non c
  unfold nonB at hn
  cases hc : finB c
  case false => rfl
  rw [hc] at hn
  have hn : ltB c 0 = !(true && (gtB c 0 || eqB c 0)) := hn
  rw [hn]
  cases (gtB c 0 || eqB c 0)
  case false => rfl
  try dsimp only [Bool.not_true, Bool.and_self, Bool.not_false, Bool.true_and, Bool.and_true]
  cases eqB (whW a b) 0
  case true => rfl
  have hx : trW (fop .mul .f32 1056964608 c) (whW a b) = swX a b c := rfl
  rw [hx]
  unfold swV swS
  cases finD (swX a b c)
  · dsimp only
    rw [show fop .mul .f32 2143289344 2143289344 = 2143289344 by decide +kernel]
    cases hv : finB (fop .mul .f32 (fop .quo .f32 (fop .mul .f32 a a) (fop .mul .f32 (whW a b) (whW a b))) 2143289344) <;> rfl
  · cases smB (swX a b c)
    · dsimp only
      rw [show fop .mul .f32 0 0 = 0 by decide +kernel]
      cases hv : finB (fop .mul .f32 (fop .quo .f32 (fop .mul .f32 a a) (fop .mul .f32 (whW a b) (whW a b))) 0) <;> rfl
    · cases hv : finB (fop .mul .f32 (fop .quo .f32 (fop .mul .f32 a a) (fop .mul .f32 (whW a b) (whW a b))) (fop .mul .f32 (nr (phY (swX a b c))) (nr (phY (swX a b c))))) <;> rfl
def tab_swSp : Fns := tabT [(67, gT (gF1 finB)), (76, gT (gF1 nonB)), (77, gWh), (79, gTrS), (78, gPh), (80, gNumT)]
theorem tabok_swSp : ∀ f, FnT Try.prog f (tab_swSp f) := (tabT_cons (k := 67) ok_l01Finite (tabT_cons (k := 76) ok_l02Least (tabT_cons (k := 77) ok_whS (tabT_cons (k := 79) ok_trS (tabT_cons (k := 78) ok_phS (tabT_cons (k := 80) ok_l02Number tabT_nil))))))
theorem run_swSp (N : Nat) (a : Nat) (b : Nat) (c : Nat) : run ty tab_swSp ann0 N Try.f24 [.fl .f32 a, .fl .f32 b, .fl .f32 c] []
    = (match !(finB a) with | true => some (.tup [.a (.fl .f32 0), .a (.bool false)], []) | false => (match !(finB b) with | true => some (.tup [.a (.fl .f32 0), .a (.bool false)], []) | false => (match !(nonB c) with | true => some (.tup [.a (.fl .f32 0), .a (.bool false)], []) | false => (match eqB (whW a b) 0 with | true => some (.tup [.a (.fl .f32 0), .a (.bool true)], []) | false => (match finD (trW (fop .mul .f32 1056964608 c) (whW a b)) with | true => (match smB (trW (fop .mul .f32 1056964608 c) (whW a b)) with | true => (match finB (fop .mul .f32 (fop .quo .f32 (fop .mul .f32 a a) (fop .mul .f32 (whW a b) (whW a b))) (fop .mul .f32 (nr (phY (trW (fop .mul .f32 1056964608 c) (whW a b)))) (nr (phY (trW (fop .mul .f32 1056964608 c) (whW a b)))))) with | true => some (.tup [.a (.fl .f32 (fop .mul .f32 (fop .quo .f32 (fop .mul .f32 a a) (fop .mul .f32 (whW a b) (whW a b))) (fop .mul .f32 (nr (phY (trW (fop .mul .f32 1056964608 c) (whW a b)))) (nr (phY (trW (fop .mul .f32 1056964608 c) (whW a b))))))), .a (.bool true)], []) | false => some (.tup [.a (.fl .f32 0), .a (.bool false)], [])) | false => (match finB (fop .mul .f32 (fop .quo .f32 (fop .mul .f32 a a) (fop .mul .f32 (whW a b) (whW a b))) 0) with | true => some (.tup [.a (.fl .f32 (fop .mul .f32 (fop .quo .f32 (fop .mul .f32 a a) (fop .mul .f32 (whW a b) (whW a b))) 0)), .a (.bool true)], []) | false => some (.tup [.a (.fl .f32 0), .a (.bool false)], []))) | false => (match finB (fop .mul .f32 (fop .quo .f32 (fop .mul .f32 a a) (fop .mul .f32 (whW a b) (whW a b))) 2143289344) with | true => some (.tup [.a (.fl .f32 (fop .mul .f32 (fop .quo .f32 (fop .mul .f32 a a) (fop .mul .f32 (whW a b) (whW a b))) 2143289344)), .a (.bool true)], []) | false => some (.tup [.a (.fl .f32 0), .a (.bool false)], []))))))) := by
  kernel_rfl

theorem ok_swSp : FnT Try.prog 24 gSw := by
  refine fnT tabok_swSp Try.func24 rfl rfl ann0 fun vs h v h' e => ⟨0, ?_⟩
  unfold gSw at e
  split at e
  case h_2 => exact (T.no_inv e).elim
  rename_i a b c
  refine Eq.trans (run_swSp 0 a b c) (Eq.trans ?_ e)
  clear e
  show _ = T.k _ _
  simp only [T.k]
  unfold swOk
  cases ha : finB a
  case false => rfl
  cases hb : finB b
  case false => rfl
  cases nonB c
  case false => rfl
  try dsimp only [Bool.not_true, Bool.and_self, Bool.not_false, Bool.true_and, Bool.and_true]
  cases eqB (whW a b) 0
  case true => rfl
  have hx : trW (fop .mul .f32 1056964608 c) (whW a b) = swX a b c := rfl
  rw [hx]
  unfold swV swS
  cases finD (swX a b c)
  · dsimp only
    rw [show fop .mul .f32 2143289344 2143289344 = 2143289344 by decide +kernel]
    cases hv : finB (fop .mul .f32 (fop .quo .f32 (fop .mul .f32 a a) (fop .mul .f32 (whW a b) (whW a b))) 2143289344) <;> rfl
  · cases smB (swX a b c)
    · dsimp only
      rw [show fop .mul .f32 0 0 = 0 by decide +kernel]
      cases hv : finB (fop .mul .f32 (fop .quo .f32 (fop .mul .f32 a a) (fop .mul .f32 (whW a b) (whW a b))) 0) <;> rfl
    · cases hv : finB (fop .mul .f32 (fop .quo .f32 (fop .mul .f32 a a) (fop .mul .f32 (whW a b) (whW a b))) (fop .mul .f32 (nr (phY (swX a b c))) (nr (phY (swX a b c))))) <;> rfl
def tab_lawSw : Fns := tabT [(24, gSw), (25, gSw), (26, gT gSame)]
theorem tabok_lawSw : ∀ f, FnT Try.prog f (tab_lawSw f) := (tabT_cons (k := 24) ok_swSp (tabT_cons (k := 25) ok_swI (tabT_cons (k := 26) ok_sameFloat tabT_nil)))
theorem run_lawSw (N : Nat) (a : Nat) (b : Nat) (c : Nat) : run ty tab_lawSw ann0 N Try.f4 [.fl .f32 a, .fl .f32 b, .fl .f32 c] []
    = (match swOk a b c with | true => (match eqB (whW a b) 0 with | true => (match swOk a b c with | true => (match eqB (whW a b) 0 with | true => (match !(sameB 0 0) with | true => some (.bool false, []) | false => some (.bool true, [])) | false => (match finB (swV a b c) with | true => (match fconv .f32 (swV a b c) .f64 with | some c1 => (match !(sameB c1 0) with | true => some (.bool false, []) | false => some (.bool true, [])) | none => none) | false => (match !(sameB 0 0) with | true => some (.bool false, []) | false => some (.bool false, [])))) | false => (match !(sameB 0 0) with | true => some (.bool false, []) | false => some (.bool false, []))) | false => (match finB (swV a b c) with | true => (match swOk a b c with | true => (match eqB (whW a b) 0 with | true => (match fconv .f32 (swV a b c) .f64 with | some c2 => (match !(sameB 0 c2) with | true => some (.bool false, []) | false => some (.bool true, [])) | none => none) | false => (match finB (swV a b c) with | true => (match fconv .f32 (swV a b c) .f64 with | some c3 => (match fconv .f32 (swV a b c) .f64 with | some c4 => (match !(sameB c3 c4) with | true => some (.bool false, []) | false => some (.bool true, [])) | none => none) | none => none) | false => (match fconv .f32 (swV a b c) .f64 with | some c5 => (match !(sameB 0 c5) with | true => some (.bool false, []) | false => some (.bool false, [])) | none => none))) | false => (match fconv .f32 (swV a b c) .f64 with | some c6 => (match !(sameB 0 c6) with | true => some (.bool false, []) | false => some (.bool false, [])) | none => none)) | false => (match swOk a b c with | true => (match eqB (whW a b) 0 with | true => (match !(sameB 0 0) with | true => some (.bool false, []) | false => some (.bool false, [])) | false => (match finB (swV a b c) with | true => (match fconv .f32 (swV a b c) .f64 with | some c7 => (match !(sameB c7 0) with | true => some (.bool false, []) | false => some (.bool false, [])) | none => none) | false => (match !(sameB 0 0) with | true => some (.bool false, []) | false => some (.bool true, [])))) | false => (match !(sameB 0 0) with | true => some (.bool false, []) | false => some (.bool true, []))))) | false => (match swOk a b c with | true => (match eqB (whW a b) 0 with | true => (match !(sameB 0 0) with | true => some (.bool false, []) | false => some (.bool false, [])) | false => (match finB (swV a b c) with | true => (match fconv .f32 (swV a b c) .f64 with | some c8 => (match !(sameB c8 0) with | true => some (.bool false, []) | false => some (.bool false, [])) | none => none) | false => (match !(sameB 0 0) with | true => some (.bool false, []) | false => some (.bool true, [])))) | false => (match !(sameB 0 0) with | true => some (.bool false, []) | false => some (.bool true, [])))) := by
  kernel_rfl

theorem ok_lawSwingShare : FnOk Try.prog 4 (fun vs h => match vs, h with | [.fl .f32 a, .fl .f32 b, .fl .f32 c], [] => some (.bool true, []) | _, _ => none) := by
  refine fnOk tabok_lawSw Try.func4 rfl rfl ann0 fun vs h v h' e => ⟨0, ?_⟩
  split at e
  case h_2 => cases e
  rename_i a b c
  cases e
  refine Eq.trans (run_lawSw 0 _ _ _) ?_
  simp only [fconv_eq]
  cases hc1 : swOk a b c
  case false =>
    have hc2 : (!(sameB 0 0)) = false := by rw [sameB_self]; rfl
    rw [hc2]
  case true =>
    cases hc3 : eqB (whW a b) 0
    case false =>
      cases hc4 : finB (swV a b c)
      case false =>
        have hc5 : (!(sameB 0 0)) = false := by rw [sameB_self]; rfl
        rw [hc5]
      case true =>
        have hc6 : (!(sameB (up (swV a b c)) (up (swV a b c)))) = false := by rw [sameB_self]; rfl
        rw [hc6]
    case true =>
      have hc7 : (!(sameB 0 0)) = false := by rw [sameB_self]; rfl
      rw [hc7]
end Go.Proofs.Ytbhfjdlhhjeknaa.Ab
