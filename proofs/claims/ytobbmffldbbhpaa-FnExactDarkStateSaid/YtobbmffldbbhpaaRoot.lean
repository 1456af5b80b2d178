/- Roots: LightOf, DarkState. Only lemmas. Printed by gen_root.py. -/
import Derived.Test.YtobbmffldbbhpaaLib
import Derived.Test.YtobbmffldbbhpaaBnd2
namespace Go.Proofs.Ytobbmffldbbhpaa.Ab
set_option linter.unusedVariables false
set_option linter.unusedSimpArgs false
open Go
theorem ok_msqrt : FnT Try.prog 187 gSqrt := sqrt_ok Try.func187 (by decide) (by rfl) (by rfl) (by rfl)
def tab_mSqrt : Fns := tabT [(187, gSqrt)]
theorem tabok_mSqrt : ∀ f, FnT Try.prog f (tab_mSqrt f) := (tabT_cons (k := 187) ok_msqrt tabT_nil)
theorem run_mSqrt (N : Nat) (x : Nat) : run ty tab_mSqrt ann0 N Try.f171 [.fl .f64 x] []
    = some (.fl .f64 (fsqrt x), []) := by
  kernel_rfl

theorem ok_mSqrt : FnT Try.prog 171 (gSqrt) := by
  refine fnT tabok_mSqrt Try.func171 rfl rfl ann0 fun vs h v h' e => ⟨0, ?_⟩
  unfold gSqrt at e
  split at e
  case h_2 => exact (T.no_inv e).elim
  obtain ⟨rfl, rfl⟩ := T.ret_inv e
  exact run_mSqrt 0 _
def narOk (x : Nat) : Bool := (fconv .f64 x .f32).isSome
def nar (x : Nat) : Nat := (fconv .f64 x .f32).getD 0
def gNar : GT := fun vs h => match vs, h with | [.fl .f64 x], [] => .ite (narOk x) (.ret (.fl .f32 (nar x)) []) .no | _, _ => .no
def tab_l01Narrow : Fns := tabT []
theorem tabok_l01Narrow : ∀ f, FnT Try.prog f (tab_l01Narrow f) := tabT_nil
theorem run_l01Narrow (N : Nat) (x : Nat) : run ty tab_l01Narrow ann0 N Try.f140 [.fl .f64 x] []
    = (match fconv .f64 x .f32 with
  | some c1 => some (.fl .f32 c1, [])
  | none => none) := by
  kernel_rfl

theorem ok_l01Narrow : FnT Try.prog 140 (gNar) := by
  refine fnT tabok_l01Narrow Try.func140 rfl rfl ann0 fun vs h v h' e => ⟨0, ?_⟩
  unfold gNar at e
  split at e
  case h_2 => exact (T.no_inv e).elim
  rename_i x
  obtain ⟨hx, e⟩ := T.pre_inv e
  obtain ⟨rfl, rfl⟩ := T.ret_inv e
  refine Eq.trans (run_l01Narrow 0 x) ?_
  unfold narOk at hx
  unfold nar
  cases hy : fconv .f64 x .f32 with
  | none => rw [hy] at hx; cases hx
  | some y => rfl
def gRoot : G := fun vs h => match vs, h with | [.fl .f32 x], [] => some (.fl .f32 (rootF x), []) | _, _ => none
def tab_l01Sqrt : Fns := tabT [(171, gSqrt), (140, gNar)]
theorem tabok_l01Sqrt : ∀ f, FnT Try.prog f (tab_l01Sqrt f) := (tabT_cons (k := 171) ok_mSqrt (tabT_cons (k := 140) ok_l01Narrow tabT_nil))
theorem run_l01Sqrt (N : Nat) (x : Nat) : run ty tab_l01Sqrt ann0 N Try.f136 [.fl .f32 x] []
    = (match fconv .f32 x .f64 with
  | some c1 => (match narOk (fsqrt c1) with
    | true => some (.fl .f32 (nar (fsqrt c1)), [])
    | false => none)
  | none => none) := by
  kernel_rfl

theorem ok_l01Sqrt : FnT Try.prog 136 (gT gRoot) := by
  refine fnT tabok_l01Sqrt Try.func136 rfl rfl ann0 fun vs h v h' e => ⟨0, ?_⟩
  rw [T.run_of] at e
  unfold gRoot at e
  split at e
  case h_2 => cases e
  rename_i x
  cases e
  refine Eq.trans (run_l01Sqrt 0 x) ?_
  simp only [fconv_eq, narOk, nar, rootF_eq, Option.isSome_some, Option.getD_some]
def tab_RootNumber : Fns := tabT [(171, gSqrt)]
theorem tabok_RootNumber : ∀ f, FnT Try.prog f (tab_RootNumber f) := (tabT_cons (k := 171) ok_mSqrt tabT_nil)
theorem run_RootNumber (N : Nat) (x : Nat) : run ty tab_RootNumber ann0 N Try.f137 [.fl .f32 x] []
    = (match fconv .f32 x .f64 with
  | some c1 => (match fconv .f64 (fsqrt c1) .f32 with
    | some c2 => some (.fl .f32 c2, [])
    | none => none)
  | none => none) := by
  kernel_rfl

theorem ok_RootNumber : FnT Try.prog 137 (gT gRoot) := by
  refine fnT tabok_RootNumber Try.func137 rfl rfl ann0 fun vs h v h' e => ⟨0, ?_⟩
  rw [T.run_of] at e
  unfold gRoot at e
  split at e
  case h_2 => cases e
  rename_i x
  cases e
  refine Eq.trans (run_RootNumber 0 x) ?_
  simp only [fconv_eq, rootF_eq, Option.isSome_some, Option.getD_some]
def v_l04Whole (a : Nat) (b : Nat) : Nat := rootF (fop .add .f32 (fop .mul .f32 a a) (fop .mul .f32 b b))
def g_l04Whole : G := fun vs h => match vs, h with | [.fl .f32 a, .fl .f32 b], [] => some (.fl .f32 (v_l04Whole a b), []) | _, _ => none
def tab_l04Whole : Fns := tabT [(136, gT gRoot)]
theorem tabok_l04Whole : ∀ f, FnT Try.prog f (tab_l04Whole f) := (tabT_cons (k := 136) ok_l01Sqrt tabT_nil)
theorem run_l04Whole (N : Nat) (a : Nat) (b : Nat) : run ty tab_l04Whole ann0 N Try.f87 [.fl .f32 a, .fl .f32 b] []
    = some (.fl .f32 (rootF (fop .add .f32 (fop .mul .f32 a a) (fop .mul .f32 b b))), []) := by
  kernel_rfl

theorem ok_l04Whole : FnT Try.prog 87 (gT g_l04Whole) := by
  refine fnT tabok_l04Whole Try.func87 rfl rfl ann0 fun vs h v h' e => ⟨0, ?_⟩
  rw [T.run_of] at e
  unfold g_l04Whole at e
  split at e
  case h_2 => cases e
  cases e
  exact run_l04Whole 0 _ _
def v_wholeRate (a : Nat) (b : Nat) : Nat := rootF (fop .add .f32 (fop .mul .f32 a a) (fop .mul .f32 b b))
def g_wholeRate : G := fun vs h => match vs, h with | [.fl .f32 a, .fl .f32 b], [] => some (.fl .f32 (v_wholeRate a b), []) | _, _ => none
def tab_wholeRate : Fns := tabT [(137, gT gRoot)]
theorem tabok_wholeRate : ∀ f, FnT Try.prog f (tab_wholeRate f) := (tabT_cons (k := 137) ok_RootNumber tabT_nil)
theorem run_wholeRate (N : Nat) (a : Nat) (b : Nat) : run ty tab_wholeRate ann0 N Try.f89 [.fl .f32 a, .fl .f32 b] []
    = some (.fl .f32 (rootF (fop .add .f32 (fop .mul .f32 a a) (fop .mul .f32 b b))), []) := by
  kernel_rfl

theorem ok_wholeRate : FnT Try.prog 89 (gT g_wholeRate) := by
  refine fnT tabok_wholeRate Try.func89 rfl rfl ann0 fun vs h v h' e => ⟨0, ?_⟩
  rw [T.run_of] at e
  unfold g_wholeRate at e
  split at e
  case h_2 => cases e
  cases e
  exact run_wholeRate 0 _ _
def daL (a b : Nat) : List Nat := [fop .quo .f32 b (v_l04Whole a b), fop .sub .f32 0 (fop .quo .f32 a (v_l04Whole a b))]
def daOk (a b : Nat) : Bool := finB a && (finB b && (posB (v_l04Whole a b) && (daL a b).all finB))
def g_da : GT := fun vs h => match vs, h with | [.fl .f32 a, .fl .f32 b], [] => .ite (daOk a b) (.ret (.tup [.a (.sl 0 0 2), .a (.bool true)]) [.at true (.fl .f32 (daL a b))]) (.ret nilF []) | _, _ => .no
theorem whole_pos (a b : Nat) : posB (v_l04Whole a b) = (finB (v_l04Whole a b) && !eqB (v_l04Whole a b) 0) := by
  unfold posB
  cases h : finB (v_l04Whole a b) with
  | false => rfl
  | true =>
    obtain ⟨o, ho⟩ := fin_cmp h
    have hl : ltB (v_l04Whole a b) 0 = false := rootF_lt _
    unfold ltB at hl
    unfold gtB eqB
    rw [ho] at hl ⊢
    cases o
    · exact absurd hl (by decide)
    · rfl
    · rfl
def tab_daS : Fns := tabT [(86, gT (gF1 finB)), (87, gT g_l04Whole), (88, gT (gF1 posB)), (69, gLsT)]
theorem tabok_daS : ∀ f, FnT Try.prog f (tab_daS f) := (tabT_cons (k := 86) ok_l01Finite (tabT_cons (k := 87) ok_l04Whole (tabT_cons (k := 88) ok_l02Above (tabT_cons (k := 69) ok_l02List tabT_nil))))
theorem run_daS (N : Nat) (a : Nat) (b : Nat) : run ty tab_daS ann0 N Try.f28 [.fl .f32 a, .fl .f32 b] []
    = (match !(finB a) with
  | true => some (.tup [.a (.nil), .a (.bool false)], [])
  | false => (match !(finB b) with
    | true => some (.tup [.a (.nil), .a (.bool false)], [])
    | false => (match !(posB (v_l04Whole a b)) with
      | true => some (.tup [.a (.nil), .a (.bool false)], [])
      | false => (match decide ([fop .quo .f32 b (v_l04Whole a b), fop .sub .f32 0 (fop .quo .f32 a (v_l04Whole a b))].length = 2 ∧ 2 < 2147483648) with
        | true => (match [fop .quo .f32 b (v_l04Whole a b), fop .sub .f32 0 (fop .quo .f32 a (v_l04Whole a b))].all finB with
          | true => some (.tup [.a (.sl 0 0 2), .a (.bool true)], [.at true (.fl .f32 [fop .quo .f32 b (v_l04Whole a b), fop .sub .f32 0 (fop .quo .f32 a (v_l04Whole a b))])])
          | false => some (.tup [.a (.nil), .a (.bool false)], []))
        | false => none)))) := by
  kernel_rfl

theorem ok_daS : FnT Try.prog 28 (g_da) := by
  refine fnT tabok_daS Try.func28 rfl rfl ann0 fun vs h v h' e => ⟨0, ?_⟩
  unfold g_da at e
  split at e
  case h_2 => exact (T.no_inv e).elim
  rename_i a b
  refine Eq.trans (run_daS 0 a b) (Eq.trans ?_ e)
  show _ = T.k _ _
  simp only [T.k]
  unfold daOk
  cases finB a
  · rfl
  cases finB b
  · rfl
  cases posB (v_l04Whole a b)
  · rfl
  show (match (daL a b).all finB with | true => some (V.tup [.a (.sl 0 0 2), .a (.bool true)], ([.at true (.fl .f32 (daL a b))] : H)) | false => some (nilF, [])) = _
  simp only [Bool.true_and, Bool.not_false]
  cases (daL a b).all finB <;> rfl
def tab_daI : Fns := tabT [(71, gAllT finB), (89, gT g_wholeRate), (90, gT (gF1 finB)), (75, gLsT)]
theorem tabok_daI : ∀ f, FnT Try.prog f (tab_daI f) := (tabT_cons (k := 71) ok_areFinite (tabT_cons (k := 89) ok_wholeRate (tabT_cons (k := 90) ok_IsFinite (tabT_cons (k := 75) ok_checkedNumbers tabT_nil))))
theorem run_daI (N : Nat) (a : Nat) (b : Nat) : run ty tab_daI ann0 N Try.f29 [.fl .f32 a, .fl .f32 b] []
    = (match !(finB a && (finB b && true)) with
  | true => some (.tup [.a (.nil), .a (.bool false)], [])
  | false => (match eqB (v_l04Whole a b) 0 with
    | true => some (.tup [.a (.nil), .a (.bool false)], [])
    | false => (match !(finB (v_l04Whole a b)) with
      | true => some (.tup [.a (.nil), .a (.bool false)], [])
      | false => (match decide ([fop .quo .f32 b (v_l04Whole a b), fop .sub .f32 0 (fop .quo .f32 a (v_l04Whole a b))].length = 2 ∧ 2 < 2147483648) with
        | true => (match [fop .quo .f32 b (v_l04Whole a b), fop .sub .f32 0 (fop .quo .f32 a (v_l04Whole a b))].all finB with
          | true => some (.tup [.a (.sl 0 0 2), .a (.bool true)], [.at true (.fl .f32 [fop .quo .f32 b (v_l04Whole a b), fop .sub .f32 0 (fop .quo .f32 a (v_l04Whole a b))])])
          | false => some (.tup [.a (.nil), .a (.bool false)], []))
        | false => none)))) := by
  kernel_rfl

theorem ok_daI : FnT Try.prog 29 (g_da) := by
  refine fnT tabok_daI Try.func29 rfl rfl ann0 fun vs h v h' e => ⟨0, ?_⟩
  unfold g_da at e
  split at e
  case h_2 => exact (T.no_inv e).elim
  rename_i a b
  refine Eq.trans (run_daI 0 a b) (Eq.trans ?_ e)
  show _ = T.k _ _
  simp only [T.k]
  unfold daOk
  cases finB a
  · rfl
  cases finB b
  · rfl
  rw [whole_pos]
  cases eqB (v_l04Whole a b) 0
  case true => cases finB (v_l04Whole a b) <;> rfl
  cases finB (v_l04Whole a b)
  · rfl
  show (match (daL a b).all finB with | true => some (V.tup [.a (.sl 0 0 2), .a (.bool true)], ([.at true (.fl .f32 (daL a b))] : H)) | false => some (nilF, [])) = _
  simp only [Bool.true_and, Bool.not_false]
  cases (daL a b).all finB <;> rfl
theorem daL_len (a b : Nat) : (daL a b).length = 2 := rfl
def tab_lawda : Fns := tabT [(28, g_da), (29, g_da), (20, gEqT), (21, gMarkT), (22, gHeldT)]
theorem tabok_lawda : ∀ f, FnT Try.prog f (tab_lawda f) := (tabT_cons (k := 28) ok_daS (tabT_cons (k := 29) ok_daI (tabT_cons (k := 20) ok_eqF (tabT_cons (k := 21) ok_markF (tabT_cons (k := 22) ok_heldF tabT_nil)))))
theorem run_lawda (N : Nat) (a : Nat) (b : Nat) : run ty tab_lawda ann0 N Try.f7 [.fl .f32 a, .fl .f32 b] []
    = (match daOk a b with
  | true => (match daOk a b with
    | true => (match decide ((daL a b).length = 2 ∧ (daL a b).length = 2 ∧ 2 < 2147483648 ∧ 2 < 2147483648) with
      | true => (match !(eqFB (daL a b) (daL a b)) with
        | true => some (.bool false, [])
        | false => (match decide ((daL a b).length = 2 ∧ 2 < 2147483648 ∧ 0 ≤ (1 : Int) ∧ (1 : Int) < 2147483648) with
          | true => (match decide (marks 1 2 = marks 1 2 ∧ 2 < 2147483648 ∧ 0 ≤ (1 : Int) ∧ (1 : Int) < 2147483648) with
            | true => (match decide ((1 + (2 : Int) : Int) < 0) with
              | true => some (.bool false, [])
              | false => (match (1 + (2 : Int)) != (1 + (2 : Int)) with
                | true => some (.bool false, [])
                | false => (match daOk a b with
                  | true => (match decide ((daL a b).length = 2 ∧ (daL a b).length = 2 ∧ 2 < 2147483648 ∧ 2 < 2147483648) with
                    | true => (match !(eqFB (daL a b) (daL a b)) with
                      | true => some (.bool false, [])
                      | false => (match decide (marks 1 2 = marks 1 2 ∧ 2 < 2147483648 ∧ 0 ≤ (1 : Int) ∧ (1 : Int) < 2147483648) with
                        | true => (match decide ((1 + (2 : Int) : Int) < 0) with
                          | true => some (.bool false, [])
                          | false => (match (1 + (2 : Int)) != (1 + (2 : Int)) with
                            | true => some (.bool false, [])
                            | false => some (.bool true, [])))
                        | false => none))
                    | false => none)
                  | false => none)))
            | false => none)
          | false => none))
      | false => none)
    | false => none)
  | false => (match daOk a b with
    | true => none
    | false => (match daOk a b with
      | true => none
      | false => some (.bool true, [])))) := by
  kernel_rfl

theorem ok_lawDarkState : FnOk Try.prog 7 (fun vs h => match vs, h with | [.fl .f32 a, .fl .f32 b], [] => some (.bool true, []) | _, _ => none) := by
  refine fnOk tabok_lawda Try.func7 rfl rfl ann0 fun vs h v h' e => ⟨0, ?_⟩
  split at e
  case h_2 => cases e
  rename_i a b
  cases e
  refine Eq.trans (run_lawda 0 _ _) ?_
  cases hc1 : daOk a b
  case false =>
    rfl
  case true =>
    have hc2 : (decide ((daL a b).length = 2 ∧ (daL a b).length = 2 ∧ 2 < 2147483648 ∧ 2 < 2147483648)) = true := decide_eq_true (by first | omega | (simp [daL_len] <;> omega))
    have hc3 : (!(eqFB (daL a b) (daL a b))) = false := by rw [eqFB_self]; rfl
    have hc4 : (decide ((daL a b).length = 2 ∧ 2 < 2147483648 ∧ 0 ≤ (1 : Int) ∧ (1 : Int) < 2147483648)) = true := decide_eq_true (by first | omega | (simp [daL_len] <;> omega))
    have hc5 : (decide (marks 1 2 = marks 1 2 ∧ 2 < 2147483648 ∧ 0 ≤ (1 : Int) ∧ (1 : Int) < 2147483648)) = true := decide_eq_true (by first | omega | (simp [daL_len] <;> omega))
    have hc6 : (decide ((1 + (2 : Int) : Int) < 0)) = false := decide_eq_false (by first | omega | (simp [daL_len] <;> omega))
    have hc7 : ((1 + (2 : Int)) != (1 + (2 : Int))) = false := by first | rfl | simp [daL_len]
    rw [hc2, hc3, hc4, hc5, hc6, hc7]
end Go.Proofs.Ytobbmffldbbhpaa.Ab
