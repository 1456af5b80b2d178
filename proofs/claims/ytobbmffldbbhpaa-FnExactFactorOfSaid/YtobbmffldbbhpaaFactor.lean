/- FactorOf: the law. Only lemmas. Printed by gen_factor.py. -/
import Derived.Test.YtobbmffldbbhpaaFacS
import Derived.Test.YtobbmffldbbhpaaFacI1
import Derived.Test.YtobbmffldbbhpaaFacI2
import Derived.Test.YtobbmffldbbhpaaFacI3
import Derived.Test.YtobbmffldbbhpaaFacI4
import Derived.Test.YtobbmffldbbhpaaFacI5
import Derived.Test.YtobbmffldbbhpaaFacI6
import Derived.Test.YtobbmffldbbhpaaFacI7
import Derived.Test.YtobbmffldbbhpaaFacI8
namespace Go.Proofs.Ytobbmffldbbhpaa.Ab
set_option linter.unusedVariables false
set_option linter.unusedSimpArgs false
open Go
def gFcT : GT := fun vs h => match vs, h with | [.int .i64 l, .int .i64 s, .int .i64 j], [] => .ite (fineS l s j) (.ret (tri (fcU l s j) (fcD l s j) true) []) (.ret (tri 0 0 false) []) | _, _ => .no
def gFcY : GT := fun vs h => match vs, h with | [.int .i64 l, .int .i64 s, .int .i64 j], [] => .ite (fineS l s j) (.ret (tri (fcU l s j) (fcD l s j) true) []) .no | _, _ => .no
def gFcN : GT := fun vs h => match vs, h with | [.int .i64 l, .int .i64 s, .int .i64 j], [] => .ite (fineS l s j) .no (.ret (tri 0 0 false) []) | _, _ => .no
theorem fc_or {f : FuncId} (hy : FnT Try.prog f gFcY) (hn : FnT Try.prog f gFcN) : FnT Try.prog f gFcT := fun vs hp v h' e => by
  unfold gFcT at e
  split at e
  · rename_i l s j
    cases hs : fineS l s j
    · refine hn _ _ v h' ?_
      show T.run (.ite (fineS l s j) .no (.ret (tri 0 0 false) [])) = _
      rw [hs] at e ⊢
      exact e
    · refine hy _ _ v h' ?_
      show T.run (.ite (fineS l s j) (.ret (tri (fcU l s j) (fcD l s j) true) []) .no) = _
      rw [hs] at e ⊢
      exact e
  · exact (T.no_inv e).elim
def tab_fcSF : Fns := tabT [(104, (g3F fineS))]
theorem tabok_fcSF : ∀ f, FnT Try.prog f (tab_fcSF f) := (tabT_cons (k := 104) (f3F ok_l03Fine (fun _ _ _ => T.run_of _)) tabT_nil)
theorem run_fcSF (N : Nat) (l : Int) (s : Int) (j : Int) : run ty tab_fcSF ann0 N Try.f46 [.int .i64 l, .int .i64 s, .int .i64 j] []
    = (match fineS l s j with
  | true => none
  | false => some (.tup [.a (.int .i64 0), .a (.int .i64 0), .a (.bool false)], [])) := by
  kernel_rfl

theorem ok_fcS : FnT Try.prog 46 gFcT := by
  refine fc_or ?_ ?_
  · refine fnT tabok_fcS Try.func46 rfl rfl ann0 fun vs h v h' e => ⟨80, ?_⟩
    unfold gFcY at e
    split at e
    · rename_i l s j
      obtain ⟨hs, e⟩ := T.pre_inv e
      obtain ⟨rfl, rfl⟩ := T.ret_inv e
      exact fine_cases (P := fun l s j => run ty tab_fcS ann0 80 Try.f46 [.int .i64 l, .int .i64 s, .int .i64 j] [] = some (tri (fcU l s j) (fcD l s j) true, [])) (fineS_iff.mp hs) fcS_0_1_1 fcS_0_2_2 fcS_0_3_3 fcS_0_4_4 fcS_0_5_5 fcS_0_6_6 fcS_2_0_2 fcS_2_1_1 fcS_2_1_3 fcS_2_2_2 fcS_2_2_4 fcS_2_3_1 fcS_2_3_3 fcS_2_3_5 fcS_2_4_2 fcS_2_4_4 fcS_2_4_6 fcS_2_5_3 fcS_2_5_5 fcS_2_5_7 fcS_2_6_4 fcS_2_6_6 fcS_2_6_8 fcS_4_0_4 fcS_4_1_3 fcS_4_1_5 fcS_4_2_2 fcS_4_2_4 fcS_4_2_6 fcS_4_3_1 fcS_4_3_3 fcS_4_3_5 fcS_4_3_7 fcS_4_4_2 fcS_4_4_4 fcS_4_4_6 fcS_4_4_8 fcS_4_5_1 fcS_4_5_3 fcS_4_5_5 fcS_4_5_7 fcS_4_5_9 fcS_4_6_2 fcS_4_6_4 fcS_4_6_6 fcS_4_6_8 fcS_4_6_10 fcS_6_0_6 fcS_6_1_5 fcS_6_1_7 fcS_6_2_4 fcS_6_2_6 fcS_6_2_8 fcS_6_3_3 fcS_6_3_5 fcS_6_3_7 fcS_6_3_9 fcS_6_4_2 fcS_6_4_4 fcS_6_4_6 fcS_6_4_8 fcS_6_4_10 fcS_6_5_1 fcS_6_5_3 fcS_6_5_5 fcS_6_5_7 fcS_6_5_9 fcS_6_5_11 fcS_6_6_2 fcS_6_6_4 fcS_6_6_6 fcS_6_6_8 fcS_6_6_10 fcS_6_6_12
    · exact (T.no_inv e).elim
  · refine fnT tabok_fcSF Try.func46 rfl rfl ann0 fun vs h v h' e => ⟨0, ?_⟩
    unfold gFcN at e
    split at e
    · rename_i l s j
      refine Eq.trans (run_fcSF 0 l s j) (Eq.trans ?_ e)
      cases fineS l s j <;> rfl
    · exact (T.no_inv e).elim
def tab_fcIF : Fns := tabT [(106, gTwA), (107, (g3F totI))]
theorem tabok_fcIF : ∀ f, FnT Try.prog f (tab_fcIF f) := (tabT_cons (k := 106) ok_twA (tabT_cons (k := 107) (f3F ok_isTotal (fun _ _ _ => T.run_of _)) tabT_nil))
theorem run_fcIF (N : Nat) (l : Int) (s : Int) (j : Int) : run ty tab_fcIF ann0 N Try.f47 [.int .i64 l, .int .i64 s, .int .i64 j] []
    = (match !inB l 0 6 with
  | true => some (.tup [.a (.int .i64 0), .a (.int .i64 0), .a (.bool false)], [])
  | false => (match !inB s 0 6 with
    | true => some (.tup [.a (.int .i64 0), .a (.int .i64 0), .a (.bool false)], [])
    | false => (match (Int.tmod l 2) != 0 with
      | true => some (.tup [.a (.int .i64 0), .a (.int .i64 0), .a (.bool false)], [])
      | false => (match j == 0 with
        | true => some (.tup [.a (.int .i64 0), .a (.int .i64 0), .a (.bool false)], [])
        | false => (match totI l s j with
          | true => none
          | false => some (.tup [.a (.int .i64 0), .a (.int .i64 0), .a (.bool false)], [])))))) := by
  kernel_rfl

theorem ok_fcI : FnT Try.prog 47 gFcT := by
  refine fc_or ?_ ?_
  · refine fnT tabok_fcI Try.func47 rfl rfl ann0 fun vs h v h' e => ⟨80, ?_⟩
    unfold gFcY at e
    split at e
    · rename_i l s j
      obtain ⟨hs, e⟩ := T.pre_inv e
      obtain ⟨rfl, rfl⟩ := T.ret_inv e
      exact fine_cases (P := fun l s j => run ty tab_fcI ann0 80 Try.f47 [.int .i64 l, .int .i64 s, .int .i64 j] [] = some (tri (fcU l s j) (fcD l s j) true, [])) (fineS_iff.mp hs) fcI_0_1_1 fcI_0_2_2 fcI_0_3_3 fcI_0_4_4 fcI_0_5_5 fcI_0_6_6 fcI_2_0_2 fcI_2_1_1 fcI_2_1_3 fcI_2_2_2 fcI_2_2_4 fcI_2_3_1 fcI_2_3_3 fcI_2_3_5 fcI_2_4_2 fcI_2_4_4 fcI_2_4_6 fcI_2_5_3 fcI_2_5_5 fcI_2_5_7 fcI_2_6_4 fcI_2_6_6 fcI_2_6_8 fcI_4_0_4 fcI_4_1_3 fcI_4_1_5 fcI_4_2_2 fcI_4_2_4 fcI_4_2_6 fcI_4_3_1 fcI_4_3_3 fcI_4_3_5 fcI_4_3_7 fcI_4_4_2 fcI_4_4_4 fcI_4_4_6 fcI_4_4_8 fcI_4_5_1 fcI_4_5_3 fcI_4_5_5 fcI_4_5_7 fcI_4_5_9 fcI_4_6_2 fcI_4_6_4 fcI_4_6_6 fcI_4_6_8 fcI_4_6_10 fcI_6_0_6 fcI_6_1_5 fcI_6_1_7 fcI_6_2_4 fcI_6_2_6 fcI_6_2_8 fcI_6_3_3 fcI_6_3_5 fcI_6_3_7 fcI_6_3_9 fcI_6_4_2 fcI_6_4_4 fcI_6_4_6 fcI_6_4_8 fcI_6_4_10 fcI_6_5_1 fcI_6_5_3 fcI_6_5_5 fcI_6_5_7 fcI_6_5_9 fcI_6_5_11 fcI_6_6_2 fcI_6_6_4 fcI_6_6_6 fcI_6_6_8 fcI_6_6_10 fcI_6_6_12
    · exact (T.no_inv e).elim
  · refine fnT tabok_fcIF Try.func47 rfl rfl ann0 fun vs h v h' e => ⟨0, ?_⟩
    unfold gFcN at e
    split at e
    · rename_i l s j
      refine Eq.trans (run_fcIF 0 l s j) (Eq.trans ?_ e)
      rw [← fineSI]
      unfold fineI
      cases inB l 0 6 <;> cases inB s 0 6 <;> cases (Int.tmod l 2 != 0) <;> cases (j == 0) <;> cases totI l s j <;> rfl
    · exact (T.no_inv e).elim
def tab_lawFc : Fns := tabT [(46, gFcT), (47, gFcT)]
theorem tabok_lawFc : ∀ f, FnT Try.prog f (tab_lawFc f) := (tabT_cons (k := 46) ok_fcS (tabT_cons (k := 47) ok_fcI tabT_nil))
theorem run_lawFc (N : Nat) (l : Int) (s : Int) (j : Int) : run ty tab_lawFc ann0 N Try.f12 [.int .i64 l, .int .i64 s, .int .i64 j] []
    = (match fineS l s j with
  | true => (match fineS l s j with
    | true => (match (fcU l s j) != (fcU l s j) with
      | true => some (.bool false, [])
      | false => (match (fcD l s j) != (fcD l s j) with
        | true => some (.bool false, [])
        | false => some (.bool true, [])))
    | false => (match 0 != (fcU l s j) with
      | true => some (.bool false, [])
      | false => (match 0 != (fcD l s j) with
        | true => some (.bool false, [])
        | false => some (.bool false, []))))
  | false => (match fineS l s j with
    | true => (match (fcU l s j) != 0 with
      | true => some (.bool false, [])
      | false => (match (fcD l s j) != 0 with
        | true => some (.bool false, [])
        | false => some (.bool false, [])))
    | false => some (.bool true, []))) := by
  kernel_rfl

theorem ok_lawFactorOf : FnOk Try.prog 12 (fun vs h => match vs, h with | [.int .i64 _, .int .i64 _, .int .i64 _], [] => some (.bool true, []) | _, _ => none) := by
  refine fnOk tabok_lawFc Try.func12 rfl rfl ann0 fun vs h v h' e => ⟨0, ?_⟩
  split at e
  case h_2 => cases e
  rename_i l s j
  cases e
  refine Eq.trans (run_lawFc 0 l s j) ?_
  cases fineS l s j
  · rfl
  · rw [show (fcU l s j != fcU l s j) = false by simp, show (fcD l s j != fcD l s j) = false by simp]
end Go.Proofs.Ytobbmffldbbhpaa.Ab
