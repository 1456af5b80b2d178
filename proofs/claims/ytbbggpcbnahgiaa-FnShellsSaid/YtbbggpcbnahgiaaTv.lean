/- TermsOf and LowestTerm: what they answer. Only lemmas. Printed by gen_shells.py. -/
import Derived.Test.YtbbggpcbnahgiaaTu
namespace Go.Proofs.Ytbbggpcbnahgiaa.Ab
set_option linter.unusedVariables false
set_option linter.unusedSimpArgs false
open Go
def gTO : GT := fun vs h => match vs, h with
  | [.int .i64 l, .int .i64 n], [] => .ite (shB l n) (.ret (.tup [.a (.sl 0 0 (tmD l n).length), .a (.bool true)]) [.at true (.int .i64 (tmD l n))]) (.ret (.tup [.a (.nil), .a (.bool false)]) [])
  | _, _ => .no
def lowT (l n : Int) : Int × Int × Int × Bool := if shB l n = true ∧ 1 ≤ n ∧ n ≤ 4 * l + 1 then (2 * (tmD l n).getD 0 0, (tmD l n).getD 1 0, (if n ≤ 2 * l + 1 then gapI (2 * (tmD l n).getD 0 0) ((tmD l n).getD 1 0) else 2 * (tmD l n).getD 0 0 + (tmD l n).getD 1 0), true) else (0, 0, 0, false)
def gLow : GT := fun vs h => match vs, h with
  | [.int .i64 l, .int .i64 n], [] => .ret (.tup [.a (.int .i64 (lowT l n).1), .a (.int .i64 (lowT l n).2.1), .a (.int .i64 (lowT l n).2.2.1), .a (.bool (lowT l n).2.2.2)]) []
  | _, _ => .no
def tab_toS : Fns := tabT [(40, gT gshB), (41, gTD)]
theorem tabok_toS : ∀ f, FnT Try.prog f (tab_toS f) := (tabT_cons (k := 40) ok_l03Shell (tabT_cons (k := 41) ok_tsD tabT_nil))
theorem run_toS (N : Nat) (l : Int) (n : Int) : run ty tab_toS ann0 N Try.f21 [.int .i64 l, .int .i64 n] []
    = (match !(shB l n) with | true => some (.tup [.a (.nil), .a (.bool false)], []) | false => (match shB l n with | true => some (.tup [.a (.sl 0 0 ((tmD l n).length)), .a (.bool true)], [.at true (.int .i64 (tmD l n))]) | false => none)) := by
  kernel_rfl

theorem ok_toS : FnT Try.prog 21 (gTO) := by
  refine fnT tabok_toS Try.func21 rfl rfl ann0 fun vs h v h' e => ⟨0, ?_⟩
  unfold gTO at e
  split at e
  case h_2 => exact (T.no_inv e).elim
  rename_i l n
  refine Eq.trans (run_toS 0 l n) (Eq.trans ?_ e)
  show _ = T.k _ _
  simp only [T.k]
  cases shB l n <;> rfl
def tab_toM : Fns := tabT [(36, gT gshB), (39, gTD)]
theorem tabok_toM : ∀ f, FnT Try.prog f (tab_toM f) := (tabT_cons (k := 36) ok_isShell (tabT_cons (k := 39) ok_tmD tabT_nil))
theorem run_toM (N : Nat) (l : Int) (n : Int) : run ty tab_toM ann0 N Try.f20 [.int .i64 l, .int .i64 n] []
    = (match !(shB l n) with | true => some (.tup [.a (.nil), .a (.bool false)], []) | false => (match shB l n with | true => some (.tup [.a (.sl 0 0 ((tmD l n).length)), .a (.bool true)], [.at true (.int .i64 (tmD l n))]) | false => none)) := by
  kernel_rfl

theorem ok_toM : FnT Try.prog 20 (gTO) := by
  refine fnT tabok_toM Try.func20 rfl rfl ann0 fun vs h v h' e => ⟨0, ?_⟩
  unfold gTO at e
  split at e
  case h_2 => exact (T.no_inv e).elim
  rename_i l n
  refine Eq.trans (run_toM 0 l n) (Eq.trans ?_ e)
  show _ = T.k _ _
  simp only [T.k]
  cases shB l n <;> rfl
def tab_loS : Fns := tabT [(40, gT gshB), (41, gTD), (42, gT ggapI)]
theorem tabok_loS : ∀ f, FnT Try.prog f (tab_loS f) := (tabT_cons (k := 40) ok_l03Shell (tabT_cons (k := 41) ok_tsD (tabT_cons (k := 42) ok_l03Gap tabT_nil)))
theorem run_loS (N : Nat) (l : Int) (n : Int) : run ty tab_loS ann0 N Try.f24 [.int .i64 l, .int .i64 n] []
    = (match !(shB l n) with | true => some (.tup [.a (.int .i64 0), .a (.int .i64 0), .a (.int .i64 0), .a (.bool false)], []) | false => (match decide ((n : Int) < 1) with | true => some (.tup [.a (.int .i64 0), .a (.int .i64 0), .a (.int .i64 0), .a (.bool false)], []) | false => (match decide ((n : Int) > (IntKind.i64.wrap ((IntKind.i64.wrap (4 * l)) + 1))) with | true => some (.tup [.a (.int .i64 0), .a (.int .i64 0), .a (.int .i64 0), .a (.bool false)], []) | false => (match shB l n with | true => (match decide (0 ≤ (0 : Int) ∧ (0 : Int) < (((tmD l n).length : Nat) : Int)) with | true => (match (tmD l n)[0]? with | some e1 => (match decide (0 ≤ (1 : Int) ∧ (1 : Int) < (((tmD l n).length : Nat) : Int)) with | true => (match (tmD l n)[1]? with | some e2 => (match decide ((n : Int) ≤ (IntKind.i64.wrap ((IntKind.i64.wrap (2 * l)) + 1))) with | true => some (.tup [.a (.int .i64 (IntKind.i64.wrap (2 * e1))), .a (.int .i64 e2), .a (.int .i64 (gapI (IntKind.i64.wrap (2 * e1)) e2)), .a (.bool true)], []) | false => some (.tup [.a (.int .i64 (IntKind.i64.wrap (2 * e1))), .a (.int .i64 e2), .a (.int .i64 (IntKind.i64.wrap ((IntKind.i64.wrap (2 * e1)) + e2))), .a (.bool true)], [])) | none => none) | false => none) | none => none) | false => none) | false => none)))) := by
  kernel_rfl

theorem ok_loS : FnT Try.prog 24 (gLow) := by
  refine fnT tabok_loS Try.func24 rfl rfl ann0 fun vs h v h' e => ⟨0, ?_⟩
  unfold gLow at e
  split at e
  case h_2 => exact (T.no_inv e).elim
  rename_i l n
  obtain ⟨rfl, rfl⟩ := T.ret_inv e
  refine Eq.trans (run_loS 0 l n) ?_
  by_cases hs : shB l n = true
  case neg =>
    rw [Bool.not_eq_true] at hs
    rw [hs, show lowT l n = (0, 0, 0, false) by unfold lowT; rw [hs]; rfl]
    rfl
  case pos =>
    exact sh_cases (q := fun l n => (match !(shB l n) with | true => some (.tup [.a (.int .i64 0), .a (.int .i64 0), .a (.int .i64 0), .a (.bool false)], []) | false => (match decide ((n : Int) < 1) with | true => some (.tup [.a (.int .i64 0), .a (.int .i64 0), .a (.int .i64 0), .a (.bool false)], []) | false => (match decide ((n : Int) > (IntKind.i64.wrap ((IntKind.i64.wrap (4 * l)) + 1))) with | true => some (.tup [.a (.int .i64 0), .a (.int .i64 0), .a (.int .i64 0), .a (.bool false)], []) | false => (match shB l n with | true => (match decide (0 ≤ (0 : Int) ∧ (0 : Int) < (((tmD l n).length : Nat) : Int)) with | true => (match (tmD l n)[0]? with | some e1 => (match decide (0 ≤ (1 : Int) ∧ (1 : Int) < (((tmD l n).length : Nat) : Int)) with | true => (match (tmD l n)[1]? with | some e2 => (match decide ((n : Int) ≤ (IntKind.i64.wrap ((IntKind.i64.wrap (2 * l)) + 1))) with | true => some (.tup [.a (.int .i64 (IntKind.i64.wrap (2 * e1))), .a (.int .i64 e2), .a (.int .i64 (gapI (IntKind.i64.wrap (2 * e1)) e2)), .a (.bool true)], []) | false => some (.tup [.a (.int .i64 (IntKind.i64.wrap (2 * e1))), .a (.int .i64 e2), .a (.int .i64 (IntKind.i64.wrap ((IntKind.i64.wrap (2 * e1)) + e2))), .a (.bool true)], [])) | none => none) | false => none) | none => none) | false => none) | false => none)))) = some (V.tup [.a (.int .i64 (lowT l n).1), .a (.int .i64 (lowT l n).2.1), .a (.int .i64 (lowT l n).2.2.1), .a (.bool (lowT l n).2.2.2)], [])) hs (by kernel_rfl) (by kernel_rfl) (by kernel_rfl) (by kernel_rfl) (by kernel_rfl) (by kernel_rfl) (by kernel_rfl) (by kernel_rfl) (by kernel_rfl) (by kernel_rfl) (by kernel_rfl) (by kernel_rfl) (by kernel_rfl) (by kernel_rfl) (by kernel_rfl) (by kernel_rfl) (by kernel_rfl) (by kernel_rfl) (by kernel_rfl) (by kernel_rfl) (by kernel_rfl)
def tab_loM : Fns := tabT [(36, gT gshB), (39, gTD)]
theorem tabok_loM : ∀ f, FnT Try.prog f (tab_loM f) := (tabT_cons (k := 36) ok_isShell (tabT_cons (k := 39) ok_tmD tabT_nil))
theorem run_loM (N : Nat) (l : Int) (n : Int) : run ty tab_loM ann0 N Try.f23 [.int .i64 l, .int .i64 n] []
    = (match !(shB l n) with | true => some (.tup [.a (.int .i64 0), .a (.int .i64 0), .a (.int .i64 0), .a (.bool false)], []) | false => (match decide ((n : Int) < 1) with | true => some (.tup [.a (.int .i64 0), .a (.int .i64 0), .a (.int .i64 0), .a (.bool false)], []) | false => (match n == (IntKind.i64.wrap (2 * (IntKind.i64.wrap ((IntKind.i64.wrap (2 * l)) + 1)))) with | true => some (.tup [.a (.int .i64 0), .a (.int .i64 0), .a (.int .i64 0), .a (.bool false)], []) | false => (match shB l n with | true => (match decide (0 ≤ (0 : Int) ∧ (0 : Int) < (((tmD l n).length : Nat) : Int)) with | true => (match (tmD l n)[0]? with | some e1 => (match decide (0 ≤ (1 : Int) ∧ (1 : Int) < (((tmD l n).length : Nat) : Int)) with | true => (match (tmD l n)[1]? with | some e2 => (match decide ((n : Int) ≤ (IntKind.i64.wrap ((IntKind.i64.wrap (2 * l)) + 1))) with | true => some (.tup [.a (.int .i64 (IntKind.i64.wrap (2 * e1))), .a (.int .i64 e2), .a (.int .i64 (if (IntKind.i64.wrap (e2 - (IntKind.i64.wrap (2 * e1)))) > (IntKind.i64.wrap ((IntKind.i64.wrap (2 * e1)) - e2)) then IntKind.i64.wrap (e2 - (IntKind.i64.wrap (2 * e1))) else IntKind.i64.wrap ((IntKind.i64.wrap (2 * e1)) - e2))), .a (.bool true)], []) | false => some (.tup [.a (.int .i64 (IntKind.i64.wrap (2 * e1))), .a (.int .i64 e2), .a (.int .i64 (IntKind.i64.wrap ((IntKind.i64.wrap (2 * e1)) + e2))), .a (.bool true)], [])) | none => none) | false => none) | none => none) | false => none) | false => none)))) := by
  kernel_rfl

theorem ok_loM : FnT Try.prog 23 (gLow) := by
  refine fnT tabok_loM Try.func23 rfl rfl ann0 fun vs h v h' e => ⟨0, ?_⟩
  unfold gLow at e
  split at e
  case h_2 => exact (T.no_inv e).elim
  rename_i l n
  obtain ⟨rfl, rfl⟩ := T.ret_inv e
  refine Eq.trans (run_loM 0 l n) ?_
  by_cases hs : shB l n = true
  case neg =>
    rw [Bool.not_eq_true] at hs
    rw [hs, show lowT l n = (0, 0, 0, false) by unfold lowT; rw [hs]; rfl]
    rfl
  case pos =>
    exact sh_cases (q := fun l n => (match !(shB l n) with | true => some (.tup [.a (.int .i64 0), .a (.int .i64 0), .a (.int .i64 0), .a (.bool false)], []) | false => (match decide ((n : Int) < 1) with | true => some (.tup [.a (.int .i64 0), .a (.int .i64 0), .a (.int .i64 0), .a (.bool false)], []) | false => (match n == (IntKind.i64.wrap (2 * (IntKind.i64.wrap ((IntKind.i64.wrap (2 * l)) + 1)))) with | true => some (.tup [.a (.int .i64 0), .a (.int .i64 0), .a (.int .i64 0), .a (.bool false)], []) | false => (match shB l n with | true => (match decide (0 ≤ (0 : Int) ∧ (0 : Int) < (((tmD l n).length : Nat) : Int)) with | true => (match (tmD l n)[0]? with | some e1 => (match decide (0 ≤ (1 : Int) ∧ (1 : Int) < (((tmD l n).length : Nat) : Int)) with | true => (match (tmD l n)[1]? with | some e2 => (match decide ((n : Int) ≤ (IntKind.i64.wrap ((IntKind.i64.wrap (2 * l)) + 1))) with | true => some (.tup [.a (.int .i64 (IntKind.i64.wrap (2 * e1))), .a (.int .i64 e2), .a (.int .i64 (if (IntKind.i64.wrap (e2 - (IntKind.i64.wrap (2 * e1)))) > (IntKind.i64.wrap ((IntKind.i64.wrap (2 * e1)) - e2)) then IntKind.i64.wrap (e2 - (IntKind.i64.wrap (2 * e1))) else IntKind.i64.wrap ((IntKind.i64.wrap (2 * e1)) - e2))), .a (.bool true)], []) | false => some (.tup [.a (.int .i64 (IntKind.i64.wrap (2 * e1))), .a (.int .i64 e2), .a (.int .i64 (IntKind.i64.wrap ((IntKind.i64.wrap (2 * e1)) + e2))), .a (.bool true)], [])) | none => none) | false => none) | none => none) | false => none) | false => none)))) = some (V.tup [.a (.int .i64 (lowT l n).1), .a (.int .i64 (lowT l n).2.1), .a (.int .i64 (lowT l n).2.2.1), .a (.bool (lowT l n).2.2.2)], [])) hs (by kernel_rfl) (by kernel_rfl) (by kernel_rfl) (by kernel_rfl) (by kernel_rfl) (by kernel_rfl) (by kernel_rfl) (by kernel_rfl) (by kernel_rfl) (by kernel_rfl) (by kernel_rfl) (by kernel_rfl) (by kernel_rfl) (by kernel_rfl) (by kernel_rfl) (by kernel_rfl) (by kernel_rfl) (by kernel_rfl) (by kernel_rfl) (by kernel_rfl) (by kernel_rfl)
end Go.Proofs.Ytbbggpcbnahgiaa.Ab
