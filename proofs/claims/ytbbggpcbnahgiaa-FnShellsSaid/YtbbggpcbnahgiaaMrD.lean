/- The function that has a map: by its run. Only lemmas. Printed by gen_mapr.py. -/
import Derived.Test.YtbbggpcbnahgiaaMrC
namespace Go.Proofs.Ytbbggpcbnahgiaa.Ab
set_option linter.unusedVariables false
set_option linter.unusedSimpArgs false
open Go
def regsOf : Code → List (Nat × Array Oper × Bool)
  | .region i ops d => [(i, ops, d)]
  | .seq a b => regsOf a ++ regsOf b
  | .cond _ a b => regsOf a ++ regsOf b
  | .block _ b => regsOf b
  | .loop b => regsOf b
  | _ => []
theorem regOk_of {P : Program} {gs : Gs} : ∀ c : Code, (∀ p ∈ regsOf c, ∀ g, gs p.1 = some g → GSound P p.1 p.2.1 p.2.2 g) → RegOk P gs c := by
  intro c
  induction c with
  | region i ops d =>
    intro h
    show match gs i with | some g => GSound P i ops d g | none => True
    cases hg : gs i with
    | none => trivial
    | some g => exact h (i, ops, d) (by simp [regsOf]) g hg
  | seq a b iha ihb => intro h; exact ⟨iha fun p hp => h p (by simp [regsOf, hp]), ihb fun p hp => h p (by simp [regsOf, hp])⟩
  | cond x a b iha ihb => intro h; exact ⟨iha fun p hp => h p (by simp [regsOf, hp]), ihb fun p hp => h p (by simp [regsOf, hp])⟩
  | block i b ih => intro h; exact ih fun p hp => h p (by simpa [regsOf] using hp)
  | loop b ih => intro h; exact ih fun p hp => h p (by simpa [regsOf] using hp)
  | _ => intro _; trivial
def gsT : Gs
  | 1 => some g1
  | 16 => some g16
  | 25 => some g25
  | 33 => some g33
  | _ => none
theorem regsT : (regsOf (bodyOf Try.f39)).filter (fun p => (gsT p.1).isSome) = [(1, opsT 1, false), (16, opsT 16, true), (25, opsT 25, false), (33, opsT 33, true)] := by kernel_rfl
theorem regOkT : RegOk Try.prog gsT (bodyOf Try.f39) := by
  refine regOk_of _ fun p hp g hg => ?_
  have h : p ∈ (regsOf (bodyOf Try.f39)).filter (fun p => (gsT p.1).isSome) := List.mem_filter.2 ⟨hp, by rw [hg]; rfl⟩
  rw [regsT] at h
  simp only [List.mem_cons, List.not_mem_nil, or_false] at h
  rcases h with rfl | rfl | rfl | rfl
  · cases hg; exact snd1
  · cases hg; exact snd16
  · cases hg; exact snd25
  · cases hg; exact snd33
/-- A function that makes a map for itself: by the run beside its maps. -/
theorem fnM {g : GT} (an : Ann) (H : ∀ vs h v h', (g vs h).run = some (v, h') → h = [] ∧ ∃ N, runM ty (tabT []) an gsT N Try.f39 vs h = some (v, h')) : FnT Try.prog 39 g :=
  fnM_ok tyOk tabT_nil mixed Try.func39 rfl rfl an gsT regOkT H
end Go.Proofs.Ytbbggpcbnahgiaa.Ab
