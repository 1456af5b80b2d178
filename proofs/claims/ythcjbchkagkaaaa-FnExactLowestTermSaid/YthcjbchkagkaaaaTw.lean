/- The laws of TermsOf and LowestTerm. Only lemmas. Printed by gen_terms3.py. -/
import Derived.Test.YthcjbchkagkaaaaTv
import Derived.Test.YthcjbchkagkaaaaTi
namespace Go.Proofs.Ythcjbchkagkaaaa.Ab
set_option linter.unusedVariables false
set_option linter.unusedSimpArgs false
open Go
def tab_lawTO : Fns := tabT [(40, gTO), (41, gTO), (35, gEqI), (36, gMarkI), (37, gHeldI)]
theorem tabok_lawTO : ∀ f, FnT Try.prog f (tab_lawTO f) := (tabT_cons (k := 40) ok_toS (tabT_cons (k := 41) ok_toM (tabT_cons (k := 35) ok_eqI (tabT_cons (k := 36) ok_markI (tabT_cons (k := 37) ok_heldI tabT_nil)))))
theorem run_lawTO (N : Nat) (l : Int) (n : Int) : run ty tab_lawTO ann0 N Try.f10 [.int .i64 l, .int .i64 n] []
    = (match shB l n with | true => (match shB l n with | true => (match decide ((tmD l n).length = (tmD l n).length ∧ (tmD l n).length = (tmD l n).length ∧ (tmD l n).length < 2147483648 ∧ (tmD l n).length < 2147483648) with | true => (match !(eqIB (tmD l n) (tmD l n)) with | true => some (.bool false, []) | false => (match decide ((tmD l n).length = (tmD l n).length ∧ (tmD l n).length < 2147483648 ∧ 0 ≤ (1 : Int) ∧ (1 : Int) < 2147483648) with | true => (match decide (marksI 1 ((tmD l n).length) = marksI 1 ((tmD l n).length) ∧ (tmD l n).length < 2147483648 ∧ 0 ≤ (1 : Int) ∧ (1 : Int) < 2147483648) with | true => (match decide ((1 + ((tmD l n).length : Int) : Int) < 0) with | true => some (.bool false, []) | false => (match (1 + ((tmD l n).length : Int)) != (1 + ((tmD l n).length : Int)) with | true => some (.bool false, []) | false => (match shB l n with | true => (match decide ((tmD l n).length = (tmD l n).length ∧ (tmD l n).length = (tmD l n).length ∧ (tmD l n).length < 2147483648 ∧ (tmD l n).length < 2147483648) with | true => (match !(eqIB (tmD l n) (tmD l n)) with | true => some (.bool false, []) | false => (match decide (marksI 1 ((tmD l n).length) = marksI 1 ((tmD l n).length) ∧ (tmD l n).length < 2147483648 ∧ 0 ≤ (1 : Int) ∧ (1 : Int) < 2147483648) with | true => (match decide ((1 + ((tmD l n).length : Int) : Int) < 0) with | true => some (.bool false, []) | false => (match (1 + ((tmD l n).length : Int)) != (1 + ((tmD l n).length : Int)) with | true => some (.bool false, []) | false => some (.bool true, []))) | false => none)) | false => none) | false => none))) | false => none) | false => none)) | false => none) | false => none) | false => (match shB l n with | true => none | false => (match shB l n with | true => none | false => some (.bool true, [])))) := by
  kernel_rfl

theorem ok_lawTO : FnOk Try.prog 10 (fun vs h => match vs, h with | [.int .i64 _, .int .i64 _], [] => some (.bool true, []) | _, _ => none) := by
  refine fnOk tabok_lawTO Try.func10 rfl rfl ann0 fun vs h v h' e => ⟨0, ?_⟩
  split at e
  case h_2 => cases e
  rename_i l n
  cases e
  refine Eq.trans (run_lawTO 0 l n) ?_
  cases hc1 : shB l n
  case false =>
    rfl
  case true =>
    have ghc1 := tmD_len hc1
    have hc2 : (decide ((tmD l n).length = (tmD l n).length ∧ (tmD l n).length = (tmD l n).length ∧ (tmD l n).length < 2147483648 ∧ (tmD l n).length < 2147483648)) = true := decide_eq_true (by first | omega | (simp [] <;> omega))
    have hc3 : (!(eqIB (tmD l n) (tmD l n))) = false := by rw [eqIB_self]; rfl
    have hc4 : (decide ((tmD l n).length = (tmD l n).length ∧ (tmD l n).length < 2147483648 ∧ 0 ≤ (1 : Int) ∧ (1 : Int) < 2147483648)) = true := decide_eq_true (by first | omega | (simp [] <;> omega))
    have hc5 : (decide (marksI 1 ((tmD l n).length) = marksI 1 ((tmD l n).length) ∧ (tmD l n).length < 2147483648 ∧ 0 ≤ (1 : Int) ∧ (1 : Int) < 2147483648)) = true := decide_eq_true (by first | omega | (simp [] <;> omega))
    have hc6 : (decide ((1 + ((tmD l n).length : Int) : Int) < 0)) = false := decide_eq_false (by first | omega | (simp [] <;> omega))
    have hc7 : ((1 + ((tmD l n).length : Int)) != (1 + ((tmD l n).length : Int))) = false := by first | rfl | simp []
    rw [hc2, hc3, hc4, hc5, hc6, hc7]
def tab_lawLow : Fns := tabT [(32, gLow), (33, gLow)]
theorem tabok_lawLow : ∀ f, FnT Try.prog f (tab_lawLow f) := (tabT_cons (k := 32) ok_loS (tabT_cons (k := 33) ok_loM tabT_nil))
theorem run_lawLow (N : Nat) (l : Int) (n : Int) : run ty tab_lawLow ann0 N Try.f7 [.int .i64 l, .int .i64 n] []
    = (match ((lowT l n).1) != ((lowT l n).1) with | true => some (.bool false, []) | false => (match ((lowT l n).2.1) != ((lowT l n).2.1) with | true => some (.bool false, []) | false => (match ((lowT l n).2.2.1) != ((lowT l n).2.2.1) with | true => some (.bool false, []) | false => (match !(((lowT l n).2.2.2) == ((lowT l n).2.2.2)) with | true => some (.bool false, []) | false => some (.bool true, []))))) := by
  kernel_rfl

theorem ok_lawLow : FnOk Try.prog 7 (fun vs h => match vs, h with | [.int .i64 _, .int .i64 _], [] => some (.bool true, []) | _, _ => none) := by
  refine fnOk tabok_lawLow Try.func7 rfl rfl ann0 fun vs h v h' e => ⟨0, ?_⟩
  split at e
  case h_2 => cases e
  rename_i l n
  cases e
  refine Eq.trans (run_lawLow 0 l n) ?_
  have hs : ∀ z : Int, (z != z) = false := fun z => by simp
  have hb : ∀ z : Bool, (z == z) = true := fun z => by cases z <;> rfl
  simp only [hs, hb, Bool.not_true]
end Go.Proofs.Ythcjbchkagkaaaa.Ab
