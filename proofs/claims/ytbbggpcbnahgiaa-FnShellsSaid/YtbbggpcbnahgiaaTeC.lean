/- The terms of a shell: what impl.termsOf answers. Only lemmas. Printed by gen_terms.py. -/
import Derived.Test.YtbbggpcbnahgiaaTeK0
import Derived.Test.YtbbggpcbnahgiaaTeK1
import Derived.Test.YtbbggpcbnahgiaaTeK2
namespace Go.Proofs.Ytbbggpcbnahgiaa.Ab
set_option linter.unusedVariables false
set_option linter.unusedSimpArgs false
open Go
def tmL (l n : Int) : Option (List Int) :=
  if l = 0 ∧ n = 0 then some [0, 0, 1]
  else if l = 0 ∧ n = 1 then some [0, 1, 1]
  else if l = 0 ∧ n = 2 then some [0, 0, 1]
  else if l = 1 ∧ n = 0 then some [0, 0, 1]
  else if l = 1 ∧ n = 1 then some [1, 1, 1]
  else if l = 1 ∧ n = 2 then some [1, 2, 1, 2, 0, 1, 0, 0, 1]
  else if l = 1 ∧ n = 3 then some [0, 3, 1, 2, 1, 1, 1, 1, 1]
  else if l = 1 ∧ n = 4 then some [1, 2, 1, 2, 0, 1, 0, 0, 1]
  else if l = 1 ∧ n = 5 then some [1, 1, 1]
  else if l = 1 ∧ n = 6 then some [0, 0, 1]
  else if l = 2 ∧ n = 0 then some [0, 0, 1]
  else if l = 2 ∧ n = 1 then some [2, 1, 1]
  else if l = 2 ∧ n = 2 then some [3, 2, 1, 1, 2, 1, 4, 0, 1, 2, 0, 1, 0, 0, 1]
  else if l = 2 ∧ n = 3 then some [3, 3, 1, 1, 3, 1, 5, 1, 1, 4, 1, 1, 3, 1, 1, 2, 1, 2, 1, 1, 1]
  else if l = 2 ∧ n = 4 then some [2, 4, 1, 5, 2, 1, 4, 2, 1, 3, 2, 2, 2, 2, 1, 1, 2, 2, 6, 0, 1, 4, 0, 2, 3, 0, 1, 2, 0, 2, 0, 0, 2]
  else if l = 2 ∧ n = 5 then some [0, 5, 1, 4, 3, 1, 3, 3, 1, 2, 3, 1, 1, 3, 1, 6, 1, 1, 5, 1, 1, 4, 1, 2, 3, 1, 2, 2, 1, 3, 1, 1, 1, 0, 1, 1]
  else if l = 2 ∧ n = 6 then some [2, 4, 1, 5, 2, 1, 4, 2, 1, 3, 2, 2, 2, 2, 1, 1, 2, 2, 6, 0, 1, 4, 0, 2, 3, 0, 1, 2, 0, 2, 0, 0, 2]
  else if l = 2 ∧ n = 7 then some [3, 3, 1, 1, 3, 1, 5, 1, 1, 4, 1, 1, 3, 1, 1, 2, 1, 2, 1, 1, 1]
  else if l = 2 ∧ n = 8 then some [3, 2, 1, 1, 2, 1, 4, 0, 1, 2, 0, 1, 0, 0, 1]
  else if l = 2 ∧ n = 9 then some [2, 1, 1]
  else if l = 2 ∧ n = 10 then some [0, 0, 1]
  else none
def gTm : GT := fun vs h => match vs, h with
  | [.int .i64 l, .int .i64 n], [] => match tmL l n with | some o => .ret (.sl 0 0 o.length) [.at true (.int .i64 o)] | none => .no
  | _, _ => .no
theorem tm_run (l n : Int) (o : List Int) (e : tmL l n = some o) : runM ty tab_te an_te gsT 1100 Try.f39 [.int .i64 l, .int .i64 n] [] = some (.sl 0 0 o.length, [.at true (.int .i64 o)]) := by
  unfold tmL at e
  by_cases h0 : l = 0 ∧ n = 0
  · rw [if_pos h0] at e
    obtain ⟨rfl, rfl⟩ := h0
    cases e
    exact Eq.trans (mdl_te 1100 0 0) K_te_0_0
  rw [if_neg h0] at e
  by_cases h1 : l = 0 ∧ n = 1
  · rw [if_pos h1] at e
    obtain ⟨rfl, rfl⟩ := h1
    cases e
    exact Eq.trans (mdl_te 1100 0 1) K_te_0_1
  rw [if_neg h1] at e
  by_cases h2 : l = 0 ∧ n = 2
  · rw [if_pos h2] at e
    obtain ⟨rfl, rfl⟩ := h2
    cases e
    exact Eq.trans (mdl_te 1100 0 2) K_te_0_2
  rw [if_neg h2] at e
  by_cases h3 : l = 1 ∧ n = 0
  · rw [if_pos h3] at e
    obtain ⟨rfl, rfl⟩ := h3
    cases e
    exact Eq.trans (mdl_te 1100 1 0) K_te_1_0
  rw [if_neg h3] at e
  by_cases h4 : l = 1 ∧ n = 1
  · rw [if_pos h4] at e
    obtain ⟨rfl, rfl⟩ := h4
    cases e
    exact Eq.trans (mdl_te 1100 1 1) K_te_1_1
  rw [if_neg h4] at e
  by_cases h5 : l = 1 ∧ n = 2
  · rw [if_pos h5] at e
    obtain ⟨rfl, rfl⟩ := h5
    cases e
    exact Eq.trans (mdl_te 1100 1 2) K_te_1_2
  rw [if_neg h5] at e
  by_cases h6 : l = 1 ∧ n = 3
  · rw [if_pos h6] at e
    obtain ⟨rfl, rfl⟩ := h6
    cases e
    exact Eq.trans (mdl_te 1100 1 3) K_te_1_3
  rw [if_neg h6] at e
  by_cases h7 : l = 1 ∧ n = 4
  · rw [if_pos h7] at e
    obtain ⟨rfl, rfl⟩ := h7
    cases e
    exact Eq.trans (mdl_te 1100 1 4) K_te_1_4
  rw [if_neg h7] at e
  by_cases h8 : l = 1 ∧ n = 5
  · rw [if_pos h8] at e
    obtain ⟨rfl, rfl⟩ := h8
    cases e
    exact Eq.trans (mdl_te 1100 1 5) K_te_1_5
  rw [if_neg h8] at e
  by_cases h9 : l = 1 ∧ n = 6
  · rw [if_pos h9] at e
    obtain ⟨rfl, rfl⟩ := h9
    cases e
    exact Eq.trans (mdl_te 1100 1 6) K_te_1_6
  rw [if_neg h9] at e
  by_cases h10 : l = 2 ∧ n = 0
  · rw [if_pos h10] at e
    obtain ⟨rfl, rfl⟩ := h10
    cases e
    exact Eq.trans (mdl_te 1100 2 0) K_te_2_0
  rw [if_neg h10] at e
  by_cases h11 : l = 2 ∧ n = 1
  · rw [if_pos h11] at e
    obtain ⟨rfl, rfl⟩ := h11
    cases e
    exact Eq.trans (mdl_te 1100 2 1) K_te_2_1
  rw [if_neg h11] at e
  by_cases h12 : l = 2 ∧ n = 2
  · rw [if_pos h12] at e
    obtain ⟨rfl, rfl⟩ := h12
    cases e
    exact Eq.trans (mdl_te 1100 2 2) K_te_2_2
  rw [if_neg h12] at e
  by_cases h13 : l = 2 ∧ n = 3
  · rw [if_pos h13] at e
    obtain ⟨rfl, rfl⟩ := h13
    cases e
    exact Eq.trans (mdl_te 1100 2 3) K_te_2_3
  rw [if_neg h13] at e
  by_cases h14 : l = 2 ∧ n = 4
  · rw [if_pos h14] at e
    obtain ⟨rfl, rfl⟩ := h14
    cases e
    exact Eq.trans (mdl_te 1100 2 4) K_te_2_4
  rw [if_neg h14] at e
  by_cases h15 : l = 2 ∧ n = 5
  · rw [if_pos h15] at e
    obtain ⟨rfl, rfl⟩ := h15
    cases e
    exact Eq.trans (mdl_te 1100 2 5) K_te_2_5
  rw [if_neg h15] at e
  by_cases h16 : l = 2 ∧ n = 6
  · rw [if_pos h16] at e
    obtain ⟨rfl, rfl⟩ := h16
    cases e
    exact Eq.trans (mdl_te 1100 2 6) K_te_2_6
  rw [if_neg h16] at e
  by_cases h17 : l = 2 ∧ n = 7
  · rw [if_pos h17] at e
    obtain ⟨rfl, rfl⟩ := h17
    cases e
    exact Eq.trans (mdl_te 1100 2 7) K_te_2_7
  rw [if_neg h17] at e
  by_cases h18 : l = 2 ∧ n = 8
  · rw [if_pos h18] at e
    obtain ⟨rfl, rfl⟩ := h18
    cases e
    exact Eq.trans (mdl_te 1100 2 8) K_te_2_8
  rw [if_neg h18] at e
  by_cases h19 : l = 2 ∧ n = 9
  · rw [if_pos h19] at e
    obtain ⟨rfl, rfl⟩ := h19
    cases e
    exact Eq.trans (mdl_te 1100 2 9) K_te_2_9
  rw [if_neg h19] at e
  by_cases h20 : l = 2 ∧ n = 10
  · rw [if_pos h20] at e
    obtain ⟨rfl, rfl⟩ := h20
    cases e
    exact Eq.trans (mdl_te 1100 2 10) K_te_2_10
  rw [if_neg h20] at e
  cases e
theorem ok_tm : FnT Try.prog 39 gTm := by
  refine fnM an_te fun vs h v h' e => ?_
  unfold gTm at e
  split at e
  · rename_i l n
    split at e
    · rename_i o ho
      obtain ⟨rfl, rfl⟩ := T.ret_inv e
      exact ⟨rfl, 1100, tm_run l n o ho⟩
    · exact (T.no_inv e).elim
  · exact (T.no_inv e).elim
end Go.Proofs.Ytbbggpcbnahgiaa.Ab
