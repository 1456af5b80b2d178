/- The terms of a shell, by its two counts. Only lemmas. Printed by gen_shells.py. -/
import Derived.Test.YtbbggpcbnahgiaaTeC
import Derived.Test.YtbbggpcbnahgiaaTsC
namespace Go.Proofs.Ytbbggpcbnahgiaa.Ab
set_option linter.unusedVariables false
set_option linter.unusedSimpArgs false
open Go
def shB (l n : Int) : Bool := inB l 0 2 && inB n 0 (4 * l + 2)
def tmD (l n : Int) : List Int := (tmL l n).getD []
theorem inB_iff {n lo hi : Int} : inB n lo hi = true ↔ lo ≤ n ∧ n ≤ hi := by
  simp only [inB, Bool.and_eq_true, decide_eq_true_eq, ge_iff_le]
theorem shB_iff {l n : Int} : shB l n = true ↔ (0 ≤ l ∧ l ≤ 2) ∧ 0 ≤ n ∧ n ≤ 4 * l + 2 := by
  unfold shB
  rw [Bool.and_eq_true, inB_iff, inB_iff]
theorem sh_cases {q : Int → Int → Prop} {l n : Int} (h : shB l n = true)
    (h0 : q 0 0)
    (h1 : q 0 1)
    (h2 : q 0 2)
    (h3 : q 1 0)
    (h4 : q 1 1)
    (h5 : q 1 2)
    (h6 : q 1 3)
    (h7 : q 1 4)
    (h8 : q 1 5)
    (h9 : q 1 6)
    (h10 : q 2 0)
    (h11 : q 2 1)
    (h12 : q 2 2)
    (h13 : q 2 3)
    (h14 : q 2 4)
    (h15 : q 2 5)
    (h16 : q 2 6)
    (h17 : q 2 7)
    (h18 : q 2 8)
    (h19 : q 2 9)
    (h20 : q 2 10)
    : q l n := by
  have h := shB_iff.mp h
  rcases (show l = 0 ∨ l = 1 ∨ l = 2 by omega) with rfl | rfl | rfl
  · rcases (show n = 0 ∨ n = 1 ∨ n = 2 by omega) with rfl | rfl | rfl
    · exact h0
    · exact h1
    · exact h2
  · rcases (show n = 0 ∨ n = 1 ∨ n = 2 ∨ n = 3 ∨ n = 4 ∨ n = 5 ∨ n = 6 by omega) with rfl | rfl | rfl | rfl | rfl | rfl | rfl
    · exact h3
    · exact h4
    · exact h5
    · exact h6
    · exact h7
    · exact h8
    · exact h9
  · rcases (show n = 0 ∨ n = 1 ∨ n = 2 ∨ n = 3 ∨ n = 4 ∨ n = 5 ∨ n = 6 ∨ n = 7 ∨ n = 8 ∨ n = 9 ∨ n = 10 by omega) with rfl | rfl | rfl | rfl | rfl | rfl | rfl | rfl | rfl | rfl | rfl
    · exact h10
    · exact h11
    · exact h12
    · exact h13
    · exact h14
    · exact h15
    · exact h16
    · exact h17
    · exact h18
    · exact h19
    · exact h20
theorem tmL_sh {l n : Int} (h : shB l n = true) : tmL l n = some (tmD l n) := sh_cases (q := fun l n => tmL l n = some (tmD l n)) h (by decide +kernel) (by decide +kernel) (by decide +kernel) (by decide +kernel) (by decide +kernel) (by decide +kernel) (by decide +kernel) (by decide +kernel) (by decide +kernel) (by decide +kernel) (by decide +kernel) (by decide +kernel) (by decide +kernel) (by decide +kernel) (by decide +kernel) (by decide +kernel) (by decide +kernel) (by decide +kernel) (by decide +kernel) (by decide +kernel) (by decide +kernel)
theorem tmD_len {l n : Int} (h : shB l n = true) : (tmD l n).length < 100 := sh_cases (q := fun l n => (tmD l n).length < 100) h (by decide +kernel) (by decide +kernel) (by decide +kernel) (by decide +kernel) (by decide +kernel) (by decide +kernel) (by decide +kernel) (by decide +kernel) (by decide +kernel) (by decide +kernel) (by decide +kernel) (by decide +kernel) (by decide +kernel) (by decide +kernel) (by decide +kernel) (by decide +kernel) (by decide +kernel) (by decide +kernel) (by decide +kernel) (by decide +kernel) (by decide +kernel)
def gTD : GT := fun vs h => match vs, h with
  | [.int .i64 l, .int .i64 n], [] => .ite (shB l n) (.ret (.sl 0 0 (tmD l n).length) [.at true (.int .i64 (tmD l n))]) .no
  | _, _ => .no
theorem gTD_as : ∀ vs h v h', (gTD vs h).run = some (v, h') → (gTm vs h).run = some (v, h') := by
  intro vs h v h' e
  unfold gTD at e
  split at e
  · rename_i l n
    obtain ⟨hs, e⟩ := T.pre_inv e
    obtain ⟨rfl, rfl⟩ := T.ret_inv e
    unfold gTm
    dsimp only
    rw [tmL_sh hs]
    rfl
  · exact (T.no_inv e).elim
theorem ok_tmD : FnT Try.prog 39 gTD := fun vs h v h' e => ok_tm vs h v h' (gTD_as vs h v h' e)
theorem ok_tsD : FnT Try.prog 41 gTD := fun vs h v h' e => ok_ts vs h v h' (gTD_as vs h v h' e)
def gshB : G := fun vs h => match vs, h with | [.int .i64 l, .int .i64 n], [] => some (.bool (shB l n), []) | _, _ => none
def tab_l03Shell : Fns := tabT [(57, gT gIn)]
theorem tabok_l03Shell : ∀ f, FnT Try.prog f (tab_l03Shell f) := (tabT_cons (k := 57) ok_l00In tabT_nil)
theorem run_l03Shell (N : Nat) (l : Int) (n : Int) : run ty tab_l03Shell ann0 N Try.f40 [.int .i64 l, .int .i64 n] []
    = (match inB l 0 2 with | true => some (.bool (inB n 0 (IntKind.i64.wrap ((IntKind.i64.wrap (4 * l)) + 2))), []) | false => some (.bool false, [])) := by
  kernel_rfl

theorem ok_l03Shell : FnT Try.prog 40 (gT gshB) := by
  refine fnT tabok_l03Shell Try.func40 rfl rfl ann0 fun vs h v h' e => ⟨0, ?_⟩
  rw [T.run_of] at e
  unfold gshB at e
  split at e
  case h_2 => cases e
  rename_i l n
  cases e
  refine Eq.trans (run_l03Shell 0 l n) ?_
  unfold shB
  cases h : inB l 0 2
  · rfl
  · have hl := inB_iff.mp h
    rw [wrap_z (n := 4 * l) (by omega) (by omega), wrap_z (n := 4 * l + 2) (by omega) (by omega)]
    rfl
def tab_isShell : Fns := tabT [(26, gT gIn)]
theorem tabok_isShell : ∀ f, FnT Try.prog f (tab_isShell f) := (tabT_cons (k := 26) ok_within tabT_nil)
theorem run_isShell (N : Nat) (l : Int) (n : Int) : run ty tab_isShell ann0 N Try.f36 [.int .i64 l, .int .i64 n] []
    = (match inB l 0 2 with | true => some (.bool (inB n 0 (IntKind.i64.wrap (2 * (IntKind.i64.wrap ((IntKind.i64.wrap (2 * l)) + 1))))), []) | false => some (.bool false, [])) := by
  kernel_rfl

theorem ok_isShell : FnT Try.prog 36 (gT gshB) := by
  refine fnT tabok_isShell Try.func36 rfl rfl ann0 fun vs h v h' e => ⟨0, ?_⟩
  rw [T.run_of] at e
  unfold gshB at e
  split at e
  case h_2 => cases e
  rename_i l n
  cases e
  refine Eq.trans (run_isShell 0 l n) ?_
  unfold shB
  cases h : inB l 0 2
  · rfl
  · have hl := inB_iff.mp h
    rw [wrap_z (n := 2 * l) (by omega) (by omega), wrap_z (n := 2 * l + 1) (by omega) (by omega), wrap_z (n := 2 * (2 * l + 1)) (by omega) (by omega), show 2 * (2 * l + 1) = 4 * l + 2 by omega]
    rfl
def gapI (a b : Int) : Int := if a > b then IntKind.i64.wrap (a - b) else IntKind.i64.wrap (b - a)
def ggapI : G := fun vs h => match vs, h with | [.int .i64 a, .int .i64 b], [] => some (.int .i64 (gapI a b), []) | _, _ => none
def tab_l03Gap : Fns := tabT []
theorem tabok_l03Gap : ∀ f, FnT Try.prog f (tab_l03Gap f) := tabT_nil
theorem run_l03Gap (N : Nat) (a : Int) (b : Int) : run ty tab_l03Gap ann0 N Try.f42 [.int .i64 a, .int .i64 b] []
    = (match decide ((a : Int) > b) with | true => some (.int .i64 (IntKind.i64.wrap (a - b)), []) | false => some (.int .i64 (IntKind.i64.wrap (b - a)), [])) := by
  kernel_rfl

theorem ok_l03Gap : FnT Try.prog 42 (gT ggapI) := by
  refine fnT tabok_l03Gap Try.func42 rfl rfl ann0 fun vs h v h' e => ⟨0, ?_⟩
  rw [T.run_of] at e
  unfold ggapI at e
  split at e
  case h_2 => cases e
  rename_i a b
  cases e
  refine Eq.trans (run_l03Gap 0 a b) ?_
  unfold gapI
  by_cases h : a > b
  · rw [decide_eq_true h, if_pos h]
  · rw [decide_eq_false h, if_neg h]
end Go.Proofs.Ytbbggpcbnahgiaa.Ab
