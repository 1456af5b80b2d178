/- What the proof names: lemmas and words, merged by a program from its parts. No condition. -/
import Derived.Test.YtppdnhjcnjfppaaZ11
import Derived.Test.YtppdnhjcnjfppaaZ13
import Derived.Test.YtppdnhjcnjfppaaZ15
import Derived.Test.YtppdnhjcnjfppaaZ17
import Derived.Test.YtppdnhjcnjfppaaZ19
import Derived.Test.YtppdnhjcnjfppaaZ21
import Derived.Test.YtppdnhjcnjfppaaZ9
namespace Go.Proofs.Ytppdnhjcnjfppaa.Ab
set_option linter.unusedVariables false
set_option linter.unusedSimpArgs false
open Go
def tab_baSF : Fns := tabT [(10, gRatesF)]
theorem tabok_baSF : ∀ f, FnT Try.prog f (tab_baSF f) := (tabT_cons (k := 10) (ratesF ok_arS) tabT_nil)
theorem run_baSF (N : Nat) (n : Int) (m : Nat) (rw : Bool) (l : List Nat) : run ty tab_baSF ann0 N Try.f4 [.int .i64 n, .sl 0 0 m] [.at rw (.fl .f32 l)]
    = (match decide (l.length = m ∧ m < 2147483648) with | true => (match ratesB n l with | true => none | false => some (.tup [.a (.nil), .a (.bool false)], [.at rw (.fl .f32 l)])) | false => none) := by
  kernel_rfl
theorem ok_baSF : FnT Try.prog 4 gBalF := by
  refine fnT tabok_baSF Try.func4 rfl rfl ann0 fun vs h v h' e => ⟨0, ?_⟩
  unfold gBalF at e
  split at e
  case h_2 => exact (T.no_inv e).elim
  rename_i n m rw l
  obtain ⟨hd, e⟩ := T.pre_inv e
  rcases T.ite_inv e with ⟨_, e⟩ | ⟨hr, e⟩
  · exact (T.no_inv e).elim
  obtain ⟨rfl, rfl⟩ := T.ret_inv e
  refine Eq.trans (run_baSF 0 _ _ _ _) ?_
  rw [hd, hr]
  all_goals rfl
theorem ok_baS : FnT Try.prog 4 gBal := bal_of ok_baSF okN_baS_1 okN_baS_2 okN_baS_3 okN_baS_4 okN_baS_5 okN_baS_6
end Go.Proofs.Ytppdnhjcnjfppaa.Ab

namespace Go.Proofs.Ytppdnhjcnjfppaa.Ab
set_option linter.unusedVariables false
set_option linter.unusedSimpArgs false
open Go
theorem FnT.runs1 {f : FuncId} {fn : Func} {code : Code} {fns : Fns} (hfn : ∀ f, FnT Try.prog f (fns f)) (hf : Try.prog.funcs[f]? = some fn) (hb : fn.body = some code) (hn : (fn.name == "runtime.NumGoroutine") = false) (an : Ann) (N : Nat) :
    FnT Try.prog f (fun vs h => T.of (run ty fns an N fn vs h)) :=
  fnT hfn hf hb hn an fun vs h v h' e => ⟨N, by rw [T.run_of] at e; exact e⟩
def tab_lawLbA : Fns := tabT [(5, g_toF), (4, gBal), (6, gBal), (7, gEqT), (8, gMarkT), (9, gHeldT)]
theorem tabok_lawLbA : ∀ f, FnT Try.prog f (tab_lawLbA f) := (tabT_cons (k := 5) ok_toF (tabT_cons (k := 4) ok_baS (tabT_cons (k := 6) ok_baI (tabT_cons (k := 7) ok_eqF (tabT_cons (k := 8) ok_markF (tabT_cons (k := 9) ok_heldF tabT_nil))))))
theorem run_lawLbA (N : Nat) (n : Int) (m : Nat) (l0 : List Nat) : run ty tab_lawLbA ann0 N Try.f3 [.int .i64 n, .sl 0 0 m] [.at false (.fl .f32 l0)]
    = (match decide ((((m : Nat) : Int) : Int) > 1048576) with | true => some (.bool true, [.at false (.fl .f32 l0)]) | false => (match decide (l0.length = m ∧ m < 2147483648) with | true => (match decide (l0.length = m ∧ m < 2147483648) with | true => (match balOk n l0 with | true => (match decide (l0.length = m ∧ m < 2147483648) with | true => (match decide (l0.length = m ∧ m < 2147483648) with | true => (match balOk n l0 with | true => (match decide ((balV n l0).length = (balV n l0).length ∧ (balV n l0).length = (balV n l0).length ∧ (balV n l0).length < 2147483648 ∧ (balV n l0).length < 2147483648) with | true => (match !(eqFB (balV n l0) (balV n l0)) with | true => some (.bool false, [.at false (.fl .f32 l0)]) | false => (match decide (l0.length = m ∧ m < 2147483648) with | true => (match decide (l0.length = m ∧ l0.length = m ∧ m < 2147483648 ∧ m < 2147483648) with | true => (match !(eqFB l0 l0) with | true => some (.bool false, [.at false (.fl .f32 l0)]) | false => (match decide (l0.length = m ∧ m < 2147483648 ∧ 0 ≤ (1 : Int) ∧ (1 : Int).toNat < 2147483648) with | true => (match decide ((1 + (m : Int) : Int) < 0) with | true => some (.bool false, [.at false (.fl .f32 l0)]) | false => (match decide ((balV n l0).length = (balV n l0).length ∧ (balV n l0).length = (balV n l0).length ∧ (balV n l0).length < 2147483648 ∧ (balV n l0).length < 2147483648) with | true => (match !(eqFB (balV n l0) (balV n l0)) with | true => some (.bool false, [.at false (.fl .f32 l0)]) | false => (match decide ((balV n l0).length = (balV n l0).length ∧ (balV n l0).length < 2147483648 ∧ 0 ≤ (1 : Int) ∧ (1 : Int).toNat < 2147483648) with | true => (match decide (marks 1 ((balV n l0).length) = marks 1 ((balV n l0).length) ∧ (balV n l0).length < 2147483648 ∧ 0 ≤ (1 : Int) ∧ (1 : Int) < 2147483648) with | true => (match decide ((1 + ((balV n l0).length : Int) : Int) < 0) with | true => some (.bool false, [.at false (.fl .f32 l0)]) | false => (match (1 + ((balV n l0).length : Int)) != (1 + ((balV n l0).length : Int)) with | true => some (.bool false, [.at false (.fl .f32 l0)]) | false => (match decide (l0.length = m ∧ m < 2147483648) with | true => (match decide (l0.length = m ∧ m < 2147483648) with | true => (match balOk n l0 with | true => (match decide ((balV n l0).length = (balV n l0).length ∧ (balV n l0).length = (balV n l0).length ∧ (balV n l0).length < 2147483648 ∧ (balV n l0).length < 2147483648) with | true => (match !(eqFB (balV n l0) (balV n l0)) with | true => some (.bool false, [.at false (.fl .f32 l0)]) | false => (match decide (marks 1 ((balV n l0).length) = marks 1 ((balV n l0).length) ∧ (balV n l0).length < 2147483648 ∧ 0 ≤ (1 : Int) ∧ (1 : Int) < 2147483648) with | true => (match decide ((1 + ((balV n l0).length : Int) : Int) < 0) with | true => some (.bool false, [.at false (.fl .f32 l0)]) | false => (match (1 + ((balV n l0).length : Int)) != (1 + ((balV n l0).length : Int)) with | true => some (.bool false, [.at false (.fl .f32 l0)]) | false => some (.bool true, [.at false (.fl .f32 l0)]))) | false => none)) | false => none) | false => none) | false => none) | false => none))) | false => none) | false => none)) | false => none)) | false => none)) | false => none) | false => none)) | false => none) | false => none) | false => none) | false => none) | false => (match decide (l0.length = m ∧ m < 2147483648) with | true => (match decide (l0.length = m ∧ m < 2147483648) with | true => (match balOk n l0 with | true => none | false => (match decide (l0.length = m ∧ m < 2147483648) with | true => (match decide (l0.length = m ∧ l0.length = m ∧ m < 2147483648 ∧ m < 2147483648) with | true => (match !(eqFB l0 l0) with | true => some (.bool false, [.at false (.fl .f32 l0)]) | false => (match decide (l0.length = m ∧ m < 2147483648 ∧ 0 ≤ (1 : Int) ∧ (1 : Int).toNat < 2147483648) with | true => (match decide ((1 + (m : Int) : Int) < 0) with | true => some (.bool false, [.at false (.fl .f32 l0)]) | false => (match decide (l0.length = m ∧ m < 2147483648) with | true => (match decide (l0.length = m ∧ m < 2147483648) with | true => (match balOk n l0 with | true => none | false => some (.bool true, [.at false (.fl .f32 l0)])) | false => none) | false => none)) | false => none)) | false => none) | false => none)) | false => none) | false => none)) | false => none) | false => none)) := by
  kernel_rfl
theorem H_lawLbA (n : Int) (m : Nat) (l0 : List Nat) (hm : l0.length = m) : run ty tab_lawLbA ann0 0 Try.f3 [.int .i64 n, .sl 0 0 m] [.at false (.fl .f32 l0)] = some (.bool true, [.at false (.fl .f32 l0)]) := by
  refine Eq.trans (run_lawLbA 0 n m l0) ?_
  cases hc1 : decide ((((m : Nat) : Int) : Int) > 1048576)
  case false =>
    have fhc1 := of_decide_eq_false hc1
    have hc2 : (decide (l0.length = m ∧ m < 2147483648)) = true := decide_eq_true (by first | omega | (simp [marks] <;> omega))
    rw [hc2]
    cases hc3 : balOk n l0
    case false =>
      have hc4 : (decide (l0.length = m ∧ l0.length = m ∧ m < 2147483648 ∧ m < 2147483648)) = true := decide_eq_true (by first | omega | (simp [marks] <;> omega))
      have hc5 : (!(eqFB l0 l0)) = false := by rw [eqFB_self]; rfl
      have hc6 : (decide (l0.length = m ∧ m < 2147483648 ∧ 0 ≤ (1 : Int) ∧ (1 : Int).toNat < 2147483648)) = true := decide_eq_true (by first | omega | (simp [marks] <;> omega))
      have hc7 : (decide ((1 + (m : Int) : Int) < 0)) = false := decide_eq_false (by first | omega | (simp [marks] <;> omega))
      rw [hc4, hc5, hc6, hc7]
    case true =>
      have ghc3 := bal_len hc3
      have hc8 : (decide ((balV n l0).length = (balV n l0).length ∧ (balV n l0).length = (balV n l0).length ∧ (balV n l0).length < 2147483648 ∧ (balV n l0).length < 2147483648)) = true := decide_eq_true (by first | omega | (simp [marks] <;> omega))
      have hc9 : (!(eqFB (balV n l0) (balV n l0))) = false := by rw [eqFB_self]; rfl
      have hc10 : (decide (l0.length = m ∧ l0.length = m ∧ m < 2147483648 ∧ m < 2147483648)) = true := decide_eq_true (by first | omega | (simp [marks] <;> omega))
      have hc11 : (!(eqFB l0 l0)) = false := by rw [eqFB_self]; rfl
      have hc12 : (decide (l0.length = m ∧ m < 2147483648 ∧ 0 ≤ (1 : Int) ∧ (1 : Int).toNat < 2147483648)) = true := decide_eq_true (by first | omega | (simp [marks] <;> omega))
      have hc13 : (decide ((1 + (m : Int) : Int) < 0)) = false := decide_eq_false (by first | omega | (simp [marks] <;> omega))
      have hc14 : (decide ((balV n l0).length = (balV n l0).length ∧ (balV n l0).length < 2147483648 ∧ 0 ≤ (1 : Int) ∧ (1 : Int).toNat < 2147483648)) = true := decide_eq_true (by first | omega | (simp [marks] <;> omega))
      have hc15 : (decide (marks 1 ((balV n l0).length) = marks 1 ((balV n l0).length) ∧ (balV n l0).length < 2147483648 ∧ 0 ≤ (1 : Int) ∧ (1 : Int) < 2147483648)) = true := decide_eq_true (by first | omega | (simp [marks] <;> omega))
      have hc16 : (decide ((1 + ((balV n l0).length : Int) : Int) < 0)) = false := decide_eq_false (by first | omega | (simp [marks] <;> omega))
      have hc17 : ((1 + ((balV n l0).length : Int)) != (1 + ((balV n l0).length : Int))) = false := by first | rfl | simp [marks]
      rw [hc8, hc9, hc10, hc11, hc12, hc13, hc14, hc15, hc16, hc17]
  case true =>
    have fhc1 := of_decide_eq_true hc1
    rfl
def tab_lawLbD : Fns := tabT [(5, g_toF), (4, gBal), (6, gBal), (7, gEqT), (8, gMarkT), (9, gHeldT)]
theorem tabok_lawLbD : ∀ f, FnT Try.prog f (tab_lawLbD f) := (tabT_cons (k := 5) ok_toF (tabT_cons (k := 4) ok_baS (tabT_cons (k := 6) ok_baI (tabT_cons (k := 7) ok_eqF (tabT_cons (k := 8) ok_markF (tabT_cons (k := 9) ok_heldF tabT_nil))))))
set_option maxRecDepth 100000 in
theorem run_lawLbD (N : Nat) (n : Int) : run ty tab_lawLbD ann0 N Try.f3 [.int .i64 n, .nil] []
    = (match decide (([] : List Nat).length = 0 ∧ 0 < 2147483648) with | true => (match balOk n ([] : List Nat) with | true => (match decide (([] : List Nat).length = 0 ∧ 0 < 2147483648) with | true => (match balOk n ([] : List Nat) with | true => (match decide ((balV n ([] : List Nat)).length = (balV n ([] : List Nat)).length ∧ (balV n ([] : List Nat)).length = (balV n ([] : List Nat)).length ∧ (balV n ([] : List Nat)).length < 2147483648 ∧ (balV n ([] : List Nat)).length < 2147483648) with | true => (match !(eqFB (balV n ([] : List Nat)) (balV n ([] : List Nat))) with | true => some (.bool false, []) | false => (match decide (([] : List Nat).length = 0 ∧ ([] : List Nat).length = 0 ∧ 0 < 2147483648 ∧ 0 < 2147483648) with | true => (match !(eqFB ([] : List Nat) ([] : List Nat)) with | true => some (.bool false, []) | false => (match decide (([] : List Nat).length = 0 ∧ 0 < 2147483648 ∧ 0 ≤ (1 : Int) ∧ (1 : Int).toNat < 2147483648) with | true => (match decide ((1 + (0 : Int) : Int) < 0) with | true => some (.bool false, []) | false => (match decide ((balV n ([] : List Nat)).length = (balV n ([] : List Nat)).length ∧ (balV n ([] : List Nat)).length = (balV n ([] : List Nat)).length ∧ (balV n ([] : List Nat)).length < 2147483648 ∧ (balV n ([] : List Nat)).length < 2147483648) with | true => (match !(eqFB (balV n ([] : List Nat)) (balV n ([] : List Nat))) with | true => some (.bool false, []) | false => (match decide ((balV n ([] : List Nat)).length = (balV n ([] : List Nat)).length ∧ (balV n ([] : List Nat)).length < 2147483648 ∧ 0 ≤ (1 : Int) ∧ (1 : Int).toNat < 2147483648) with | true => (match decide (marks 1 ((balV n ([] : List Nat)).length) = marks 1 ((balV n ([] : List Nat)).length) ∧ (balV n ([] : List Nat)).length < 2147483648 ∧ 0 ≤ (1 : Int) ∧ (1 : Int) < 2147483648) with | true => (match decide ((1 + ((balV n ([] : List Nat)).length : Int) : Int) < 0) with | true => some (.bool false, []) | false => (match (1 + ((balV n ([] : List Nat)).length : Int)) != (1 + ((balV n ([] : List Nat)).length : Int)) with | true => some (.bool false, []) | false => (match decide (([] : List Nat).length = 0 ∧ 0 < 2147483648) with | true => (match balOk n ([] : List Nat) with | true => (match decide ((balV n ([] : List Nat)).length = (balV n ([] : List Nat)).length ∧ (balV n ([] : List Nat)).length = (balV n ([] : List Nat)).length ∧ (balV n ([] : List Nat)).length < 2147483648 ∧ (balV n ([] : List Nat)).length < 2147483648) with | true => (match !(eqFB (balV n ([] : List Nat)) (balV n ([] : List Nat))) with | true => some (.bool false, []) | false => (match decide (marks 1 ((balV n ([] : List Nat)).length) = marks 1 ((balV n ([] : List Nat)).length) ∧ (balV n ([] : List Nat)).length < 2147483648 ∧ 0 ≤ (1 : Int) ∧ (1 : Int) < 2147483648) with | true => (match decide ((1 + ((balV n ([] : List Nat)).length : Int) : Int) < 0) with | true => some (.bool false, []) | false => (match (1 + ((balV n ([] : List Nat)).length : Int)) != (1 + ((balV n ([] : List Nat)).length : Int)) with | true => some (.bool false, []) | false => some (.bool true, []))) | false => none)) | false => none) | false => none) | false => none))) | false => none) | false => none)) | false => none)) | false => none)) | false => none)) | false => none) | false => none) | false => none) | false => (match decide (([] : List Nat).length = 0 ∧ 0 < 2147483648) with | true => (match balOk n ([] : List Nat) with | true => none | false => (match decide (([] : List Nat).length = 0 ∧ ([] : List Nat).length = 0 ∧ 0 < 2147483648 ∧ 0 < 2147483648) with | true => (match !(eqFB ([] : List Nat) ([] : List Nat)) with | true => some (.bool false, []) | false => (match decide (([] : List Nat).length = 0 ∧ 0 < 2147483648 ∧ 0 ≤ (1 : Int) ∧ (1 : Int).toNat < 2147483648) with | true => (match decide ((1 + (0 : Int) : Int) < 0) with | true => some (.bool false, []) | false => (match decide (([] : List Nat).length = 0 ∧ 0 < 2147483648) with | true => (match balOk n ([] : List Nat) with | true => none | false => some (.bool true, [])) | false => none)) | false => none)) | false => none)) | false => none)) | false => none) := by
  kernel_rfl
theorem H_lawLbD (n : Int)  : run ty tab_lawLbD ann0 0 Try.f3 [.int .i64 n, .nil] [] = some (.bool true, []) := by
  refine Eq.trans (run_lawLbD 0 n) ?_
  have hc1 : (decide (([] : List Nat).length = 0 ∧ 0 < 2147483648)) = true := decide_eq_true (by first | omega | (simp [marks] <;> omega))
  rw [hc1]
  cases hc2 : balOk n ([] : List Nat)
  case false =>
    have hc3 : (decide (([] : List Nat).length = 0 ∧ ([] : List Nat).length = 0 ∧ 0 < 2147483648 ∧ 0 < 2147483648)) = true := decide_eq_true (by first | omega | (simp [marks] <;> omega))
    have hc4 : (!(eqFB ([] : List Nat) ([] : List Nat))) = false := by rw [eqFB_self]; rfl
    have hc5 : (decide (([] : List Nat).length = 0 ∧ 0 < 2147483648 ∧ 0 ≤ (1 : Int) ∧ (1 : Int).toNat < 2147483648)) = true := decide_eq_true (by first | omega | (simp [marks] <;> omega))
    have hc6 : (decide ((1 + (0 : Int) : Int) < 0)) = false := decide_eq_false (by first | omega | (simp [marks] <;> omega))
    rw [hc3, hc4, hc5, hc6]
  case true =>
    have ghc2 := bal_len hc2
    have hc7 : (decide ((balV n ([] : List Nat)).length = (balV n ([] : List Nat)).length ∧ (balV n ([] : List Nat)).length = (balV n ([] : List Nat)).length ∧ (balV n ([] : List Nat)).length < 2147483648 ∧ (balV n ([] : List Nat)).length < 2147483648)) = true := decide_eq_true (by first | omega | (simp [marks] <;> omega))
    have hc8 : (!(eqFB (balV n ([] : List Nat)) (balV n ([] : List Nat)))) = false := by rw [eqFB_self]; rfl
    have hc9 : (decide (([] : List Nat).length = 0 ∧ ([] : List Nat).length = 0 ∧ 0 < 2147483648 ∧ 0 < 2147483648)) = true := decide_eq_true (by first | omega | (simp [marks] <;> omega))
    have hc10 : (!(eqFB ([] : List Nat) ([] : List Nat))) = false := by rw [eqFB_self]; rfl
    have hc11 : (decide (([] : List Nat).length = 0 ∧ 0 < 2147483648 ∧ 0 ≤ (1 : Int) ∧ (1 : Int).toNat < 2147483648)) = true := decide_eq_true (by first | omega | (simp [marks] <;> omega))
    have hc12 : (decide ((1 + (0 : Int) : Int) < 0)) = false := decide_eq_false (by first | omega | (simp [marks] <;> omega))
    have hc13 : (decide ((balV n ([] : List Nat)).length = (balV n ([] : List Nat)).length ∧ (balV n ([] : List Nat)).length < 2147483648 ∧ 0 ≤ (1 : Int) ∧ (1 : Int).toNat < 2147483648)) = true := decide_eq_true (by first | omega | (simp [marks] <;> omega))
    have hc14 : (decide (marks 1 ((balV n ([] : List Nat)).length) = marks 1 ((balV n ([] : List Nat)).length) ∧ (balV n ([] : List Nat)).length < 2147483648 ∧ 0 ≤ (1 : Int) ∧ (1 : Int) < 2147483648)) = true := decide_eq_true (by first | omega | (simp [marks] <;> omega))
    have hc15 : (decide ((1 + ((balV n ([] : List Nat)).length : Int) : Int) < 0)) = false := decide_eq_false (by first | omega | (simp [marks] <;> omega))
    have hc16 : ((1 + ((balV n ([] : List Nat)).length : Int)) != (1 + ((balV n ([] : List Nat)).length : Int))) = false := by first | rfl | simp [marks]
    rw [hc7, hc8, hc9, hc10, hc11, hc12, hc13, hc14, hc15, hc16]
def g_lawLb : G := fun vs h => match vs, h with
  | [.int .i64 n, .sl 0 0 m], [.at false (.fl .f32 l0)] => if m = l0.length then some (.bool true, [.at false (.fl .f32 l0)]) else none
  | [.int .i64 n, .nil], [] => some (.bool true, [])
  | _, _ => none
theorem ok_lawLevelBalance : FnOk Try.prog 3 g_lawLb := by
  intro vs hp v h' e
  rw [T.run_of] at e
  unfold g_lawLb at e
  split at e
  · split at e
    · rename_i hc
      cases e
      exact FnT.runs1 tabok_lawLbA Try.func3 rfl rfl ann0 0 _ _ _ _ (by rw [T.run_of]; exact H_lawLbA _ _ _ hc.symm)
    · cases e
  · cases e
    exact FnT.runs1 tabok_lawLbD Try.func3 rfl rfl ann0 0 _ _ _ _ (by rw [T.run_of]; exact H_lawLbD _)
  · cases e
end Go.Proofs.Ytppdnhjcnjfppaa.Ab
