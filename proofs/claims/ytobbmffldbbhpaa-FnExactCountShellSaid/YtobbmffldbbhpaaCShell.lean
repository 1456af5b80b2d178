/- CountShell: the law. Only lemmas. Printed by gen_cshell.py. -/
import Derived.Test.YtobbmffldbbhpaaCShB1
import Derived.Test.YtobbmffldbbhpaaCShB2
import Derived.Test.YtobbmffldbbhpaaCShB3
import Derived.Test.YtobbmffldbbhpaaCShB4
import Derived.Test.YtobbmffldbbhpaaCShB5
namespace Go.Proofs.Ytobbmffldbbhpaa.Ab
set_option linter.unusedVariables false
set_option linter.unusedSimpArgs false
open Go
def gCsT : GT := fun vs h => match vs, h with | [.int .i64 l, .int .i64 n], [] => .ite (shB l n) (.ret (pairI (csV l n) true) []) (.ret (pairI 0 false) []) | _, _ => .no
def gCsY : GT := fun vs h => match vs, h with | [.int .i64 l, .int .i64 n], [] => .ite (shB l n) (.ret (pairI (csV l n) true) []) .no | _, _ => .no
def gCsN : GT := fun vs h => match vs, h with | [.int .i64 l, .int .i64 n], [] => .ite (shB l n) .no (.ret (pairI 0 false) []) | _, _ => .no
theorem cs_or {f : FuncId} (hy : FnT Try.prog f gCsY) (hn : FnT Try.prog f gCsN) : FnT Try.prog f gCsT := fun vs hp v h' e => by
  unfold gCsT at e
  split at e
  · rename_i l n
    cases hs : shB l n
    · refine hn _ _ v h' ?_
      show T.run (.ite (shB l n) .no (.ret (pairI 0 false) [])) = _
      rw [hs] at e ⊢
      exact e
    · refine hy _ _ v h' ?_
      show T.run (.ite (shB l n) (.ret (pairI (csV l n) true) []) .no) = _
      rw [hs] at e ⊢
      exact e
  · exact (T.no_inv e).elim
def tab_csSF : Fns := tabT [(60, gShF)]
theorem tabok_csSF : ∀ f, FnT Try.prog f (tab_csSF f) := (tabT_cons (k := 60) (shF ok_l03Shell) tabT_nil)
theorem run_csSF (N : Nat) (l : Int) (n : Int) : run ty tab_csSF ann0 N Try.f15 [.int .i64 l, .int .i64 n] []
    = (match shB l n with
  | true => none
  | false => some (.tup [.a (.int .i64 0), .a (.bool false)], [])) := by
  kernel_rfl

theorem ok_csS : FnT Try.prog 15 gCsT := by
  refine cs_or ?_ ?_
  · refine fnT tabok_csS Try.func15 rfl rfl ann0 fun vs h v h' e => ⟨80, ?_⟩
    unfold gCsY at e
    split at e
    · rename_i l n
      obtain ⟨hs, e⟩ := T.pre_inv e
      obtain ⟨rfl, rfl⟩ := T.ret_inv e
      exact sh_cases (P := fun l n => run ty tab_csS ann0 80 Try.f15 [.int .i64 l, .int .i64 n] [] = some (pairI (csV l n) true, [])) hs csS_0_0 csS_0_1 csS_0_2 csS_1_0 csS_1_1 csS_1_2 csS_1_3 csS_1_4 csS_1_5 csS_1_6 csS_2_0 csS_2_1 csS_2_2 csS_2_3 csS_2_4 csS_2_5 csS_2_6 csS_2_7 csS_2_8 csS_2_9 csS_2_10
    · exact (T.no_inv e).elim
  · refine fnT tabok_csSF Try.func15 rfl rfl ann0 fun vs h v h' e => ⟨0, ?_⟩
    unfold gCsN at e
    split at e
    · rename_i l n
      refine Eq.trans (run_csSF 0 l n) (Eq.trans ?_ e)
      cases shB l n <;> rfl
    · exact (T.no_inv e).elim
def tab_csIF : Fns := tabT [(62, gShF)]
theorem tabok_csIF : ∀ f, FnT Try.prog f (tab_csIF f) := (tabT_cons (k := 62) (shF ok_isShell) tabT_nil)
theorem run_csIF (N : Nat) (l : Int) (n : Int) : run ty tab_csIF ann0 N Try.f16 [.int .i64 l, .int .i64 n] []
    = (match shB l n with
  | true => none
  | false => some (.tup [.a (.int .i64 0), .a (.bool false)], [])) := by
  kernel_rfl

theorem ok_csI : FnT Try.prog 16 gCsT := by
  refine cs_or ?_ ?_
  · refine fnT tabok_csI Try.func16 rfl rfl ann0 fun vs h v h' e => ⟨80, ?_⟩
    unfold gCsY at e
    split at e
    · rename_i l n
      obtain ⟨hs, e⟩ := T.pre_inv e
      obtain ⟨rfl, rfl⟩ := T.ret_inv e
      exact sh_cases (P := fun l n => run ty tab_csI ann0 80 Try.f16 [.int .i64 l, .int .i64 n] [] = some (pairI (csV l n) true, [])) hs csI_0_0 csI_0_1 csI_0_2 csI_1_0 csI_1_1 csI_1_2 csI_1_3 csI_1_4 csI_1_5 csI_1_6 csI_2_0 csI_2_1 csI_2_2 csI_2_3 csI_2_4 csI_2_5 csI_2_6 csI_2_7 csI_2_8 csI_2_9 csI_2_10
    · exact (T.no_inv e).elim
  · refine fnT tabok_csIF Try.func16 rfl rfl ann0 fun vs h v h' e => ⟨0, ?_⟩
    unfold gCsN at e
    split at e
    · rename_i l n
      refine Eq.trans (run_csIF 0 l n) (Eq.trans ?_ e)
      cases shB l n <;> rfl
    · exact (T.no_inv e).elim
def tab_lawCS : Fns := tabT [(15, gCsT), (16, gCsT)]
theorem tabok_lawCS : ∀ f, FnT Try.prog f (tab_lawCS f) := (tabT_cons (k := 15) ok_csS (tabT_cons (k := 16) ok_csI tabT_nil))
theorem run_lawCS (N : Nat) (l : Int) (n : Int) : run ty tab_lawCS ann0 N Try.f3 [.int .i64 l, .int .i64 n] []
    = (match shB l n with
  | true => (match shB l n with
    | true => (match (csV l n) != (csV l n) with
      | true => some (.bool false, [])
      | false => some (.bool true, []))
    | false => (match 0 != (csV l n) with
      | true => some (.bool false, [])
      | false => some (.bool false, [])))
  | false => (match shB l n with
    | true => (match (csV l n) != 0 with
      | true => some (.bool false, [])
      | false => some (.bool false, []))
    | false => some (.bool true, []))) := by
  kernel_rfl

theorem ok_lawCountShell : FnOk Try.prog 3 (fun vs h => match vs, h with | [.int .i64 _, .int .i64 _], [] => some (.bool true, []) | _, _ => none) := by
  refine fnOk tabok_lawCS Try.func3 rfl rfl ann0 fun vs h v h' e => ⟨0, ?_⟩
  split at e
  case h_2 => cases e
  rename_i l n
  cases e
  refine Eq.trans (run_lawCS 0 l n) ?_
  cases shB l n
  · rfl
  · rw [show (csV l n != csV l n) = false by simp]
end Go.Proofs.Ytobbmffldbbhpaa.Ab
