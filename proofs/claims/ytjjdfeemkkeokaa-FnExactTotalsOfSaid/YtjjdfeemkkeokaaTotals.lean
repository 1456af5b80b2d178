/- 'TotalsOf': its law. Only lemmas. -/
import Derived.Test.YtjjdfeemkkeokaaChange
namespace Go.Proofs.Ytjjdfeemkkeokaa.Ab
set_option linter.unusedVariables false
set_option linter.unusedSimpArgs false
open Go

/-- A function as it computes. -/
def gRun (fns : Fns) (an : Ann) (N : Nat) (fn : Func) : G := fun vs h => run ty fns an N fn vs h
theorem ok_run {f : FuncId} {fn : Func} {code : Code} {fns : Fns} (hfn : ∀ f, FnOk Try.prog f (fns f)) (hf : Try.prog.funcs[f]? = some fn) (hb : fn.body = some code) (hn : (fn.name == "runtime.NumGoroutine") = false) (an : Ann) (N : Nat) :
    FnOk Try.prog f (gRun fns an N fn) := fnOk hfn hf hb hn an fun _ _ _ _ e => ⟨N, e⟩

def tabT : Fns := tab [(53, gI1 turB), (68, gGap)]
theorem tabT_ok : ∀ f, FnOk Try.prog f (tabT f) := tab_cons (k := 53) ok_l03Is (tab_cons (k := 68) ok_l03Gap tab_nil)
abbrev nilV : V := .tup [.a .nil, .a (.bool false)]
def gTotals (r : G) : G := fun vs h => match vs, h with
  | [.int .i64 a, .int .i64 b], [] => match turB a && turB b with
    | true => r [.int .i64 a, .int .i64 b] []
    | false => some (nilV, [])
  | _, _ => none
theorem gTotals_inv {r : G} {vs : List V} {h : H} {v : V} {h' : H} (e : gTotals r vs h = some (v, h')) : ∃ a b, vs = [.int .i64 a, .int .i64 b] ∧ h = [] ∧ (((turB a && turB b) = true ∧ r [.int .i64 a, .int .i64 b] [] = some (v, h')) ∨ ((turB a && turB b) = false ∧ v = nilV ∧ h' = [])) := by
  unfold gTotals at e
  split at e
  · rename_i a b
    refine ⟨a, b, rfl, rfl, ?_⟩
    cases ht : turB a && turB b with
    | true => rw [ht] at e; exact Or.inl ⟨rfl, e⟩
    | false => rw [ht] at e; cases e; exact Or.inr ⟨rfl, rfl, rfl⟩
  · cases e
set_option maxHeartbeats 0 in
theorem ok_specTotals : FnOk Try.prog 31 (gTotals (gRun tabT ann0 16 Try.f31)) := by
  refine fnOk tabT_ok Try.func31 rfl rfl ann0 fun vs h v h' e => ⟨16, ?_⟩
  obtain ⟨a, b, rfl, rfl, ⟨_, hr⟩ | ⟨ht, rfl, rfl⟩⟩ := gTotals_inv e
  · exact hr
  · conv => lhs; whnf
    cases ha : turB a with
    | false => kernel_rfl
    | true =>
      rw [ha, Bool.true_and] at ht
      conv => lhs; whnf
      rw [ht]
      kernel_rfl
theorem tabU_ok : ∀ f, FnOk Try.prog f ((tab [(55, gAllI turB), (69, gRun (tab []) ann0 16 Try.f69)]) f) := tab_cons (k := 55) ok_areTurns (tab_cons (k := 69) (ok_run tab_nil Try.func69 rfl rfl ann0 16) tab_nil)
set_option maxHeartbeats 0 in
theorem ok_implTotals : FnOk Try.prog 32 (gTotals (gRun (tab [(55, gAllI turB), (69, gRun (tab []) ann0 16 Try.f69)]) ann0 16 Try.f32)) := by
  refine fnOk tabU_ok Try.func32 rfl rfl ann0 fun vs h v h' e => ⟨16, ?_⟩
  obtain ⟨a, b, rfl, rfl, ⟨_, hr⟩ | ⟨ht, rfl, rfl⟩⟩ := gTotals_inv e
  · exact hr
  · conv => lhs; whnf
    have hx : ((fun x => a :: x) ((fun x => b :: x) [])).all turB = false := by
      show (turB a && (turB b && true)) = false
      rw [Bool.and_true, ht]
    rw [hx]
    rfl
def gLawTotals : G := fun vs h => match vs, h with | [.int .i64 _, .int .i64 _], [] => some (.bool true, []) | _, _ => none
set_option maxRecDepth 1000000 in
set_option maxHeartbeats 0 in
theorem law_no (a b : Int) (ht : (turB a && turB b) = false) : run ty (tab [(31, gTotals (gRun tabT ann0 16 Try.f31)), (32, gTotals (gRun (tab [(55, gAllI turB), (69, gRun (tab []) ann0 16 Try.f69)]) ann0 16 Try.f32)), (33, gRun (tab []) ann0 16 Try.f33), (34, gRun (tab []) ann0 16 Try.f34), (35, gRun (tab []) ann0 16 Try.f35)]) ann0 0 Try.f10 [.int .i64 a, .int .i64 b] [] = some (.bool true, []) := by
  have hg : ∀ r : G, gTotals r [.int .i64 a, .int .i64 b] [] = some (nilV, []) := fun r => by
    simp only [gTotals, ht]
  have h1 : (tab [(31, gTotals (gRun tabT ann0 16 Try.f31)), (32, gTotals (gRun (tab [(55, gAllI turB), (69, gRun (tab []) ann0 16 Try.f69)]) ann0 16 Try.f32)), (33, gRun (tab []) ann0 16 Try.f33), (34, gRun (tab []) ann0 16 Try.f34), (35, gRun (tab []) ann0 16 Try.f35)]) 31 [.int .i64 a, .int .i64 b] [] = some (nilV, []) := hg _
  have h2 : (tab [(31, gTotals (gRun tabT ann0 16 Try.f31)), (32, gTotals (gRun (tab [(55, gAllI turB), (69, gRun (tab []) ann0 16 Try.f69)]) ann0 16 Try.f32)), (33, gRun (tab []) ann0 16 Try.f33), (34, gRun (tab []) ann0 16 Try.f34), (35, gRun (tab []) ann0 16 Try.f35)]) 32 [.int .i64 a, .int .i64 b] [] = some (nilV, []) := hg _
  conv => lhs; whnf
  rw [h1]
  conv => lhs; whnf
  rw [h2]
  conv => lhs; whnf
  rw [h2]
  rfl
set_option maxHeartbeats 0 in
theorem law_yes (a b : Int) (ha : turB a = true) (hb : turB b = true) : run ty (tab [(31, gTotals (gRun tabT ann0 16 Try.f31)), (32, gTotals (gRun (tab [(55, gAllI turB), (69, gRun (tab []) ann0 16 Try.f69)]) ann0 16 Try.f32)), (33, gRun (tab []) ann0 16 Try.f33), (34, gRun (tab []) ann0 16 Try.f34), (35, gRun (tab []) ann0 16 Try.f35)]) ann0 0 Try.f10 [.int .i64 a, .int .i64 b] [] = some (.bool true, []) := by
  rcases turB_cases ha with rfl | rfl | rfl | rfl | rfl | rfl | rfl <;> rcases turB_cases hb with rfl | rfl | rfl | rfl | rfl | rfl | rfl <;> kernel_rfl
theorem ok_lawTotals : FnOk Try.prog 10 gLawTotals := by
  refine fnOk (tab_cons (k := 31) ok_specTotals (tab_cons (k := 32) ok_implTotals (tab_cons (k := 33) (ok_run tab_nil Try.func33 rfl rfl ann0 16) (tab_cons (k := 34) (ok_run tab_nil Try.func34 rfl rfl ann0 16) (tab_cons (k := 35) (ok_run tab_nil Try.func35 rfl rfl ann0 16) tab_nil))))) Try.func10 rfl rfl ann0 fun vs h v h' e => ⟨0, ?_⟩
  unfold gLawTotals at e
  split at e
  · cases e
    rename_i a b
    cases ht : turB a && turB b with
    | false => exact law_no a b ht
    | true =>
      rw [Bool.and_eq_true] at ht
      exact law_yes a b ht.1 ht.2
  · cases e
end Go.Proofs.Ytjjdfeemkkeokaa.Ab
