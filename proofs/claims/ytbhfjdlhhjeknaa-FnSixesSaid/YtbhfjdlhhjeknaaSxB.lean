/- SixShare: what is checked. Only lemmas. Printed by gen_six.py. -/
import Derived.Test.YtbhfjdlhhjeknaaSxA
namespace Go.Proofs.Ytbhfjdlhhjeknaa.Ab
set_option linter.unusedVariables false
set_option linter.unusedSimpArgs false
open Go
def eJ : Option (Int × Int × Int) → Option (Int × Int × Int) → Bool
  | some (s, u, d), some (s', u', d') => decide (s = s') && (decide (u = u') && decide (d = d'))
  | _, _ => false
theorem eJ_inv {o o' : Option (Int × Int × Int)} (h : eJ o o' = true) : ∃ t : Int × Int × Int, o = some (t.1, t.2.1, t.2.2) ∧ o' = some (t.1, t.2.1, t.2.2) := by
  unfold eJ at h
  split at h
  · simp only [Bool.and_eq_true, decide_eq_true_eq] at h
    obtain ⟨rfl, rfl, rfl⟩ := h
    exact ⟨(_, _, _), rfl, rfl⟩
  · cases h
noncomputable def xC (A B m D E F : Nat) : Bool := match decide (E ≤ A + F) && decide (A ≤ E + F) && decide (F ≤ A + E) && decide ((A + E + F) % 2 = 0) && decide (D ≤ B + F) && decide (B ≤ D + F) && decide (F ≤ D + B) && decide ((D + B + F) % 2 = 0) with
  | false => true
  | true => eJ (oJ (md_sxS 60 (A : Int) (B : Int) ((A : Int) + (B : Int) - 2 * (m : Int)) (D : Int) (E : Int) (F : Int))) (oJ (md_sxI (35 + 5) (A : Int) (B : Int) ((A : Int) + (B : Int) - 2 * (m : Int)) (D : Int) (E : Int) (F : Int)))
noncomputable def xD (A B m D E : Nat) : Bool := match decide (A + B - 2 * m ≤ 6) && decide (D ≤ E + (A + B - 2 * m)) && decide (E ≤ D + (A + B - 2 * m)) && decide (A + B - 2 * m ≤ D + E) && decide ((D + E + A + B) % 2 = 0) with
  | false => true
  | true => (List.range 7).all fun F => xC A B m D E F
noncomputable def xA (A B : Nat) : Bool := (List.range (min A B + 1)).all fun m => (List.range 7).all fun D => (List.range 7).all fun E => xD A B m D E
end Go.Proofs.Ytbhfjdlhhjeknaa.Ab
