/- CountShell: contracts. Only lemmas. Printed by gen_shells.py. -/
import Derived.Test.YtbbggpcbnahgiaaTu
namespace Go.Proofs.Ytbbggpcbnahgiaa.Ab
set_option linter.unusedVariables false
set_option linter.unusedSimpArgs false
open Go
noncomputable def tR66 : Fns := tabT []
theorem tok_R66 : ∀ f, FnT Try.prog f (tR66 f) := tabT_nil
noncomputable def gR66 : GT := fun vs h => T.of (run ty tR66 ann0 80 Try.f66 vs h)
theorem ok_R66 : FnT Try.prog 66 gR66 := fnT tok_R66 Try.func66 rfl rfl ann0 fun vs h v h' e => ⟨80, by unfold gR66 at e; rw [T.run_of] at e; exact e⟩
noncomputable def tR67 : Fns := tabT [(66, gR66)]
theorem tok_R67 : ∀ f, FnT Try.prog f (tR67 f) := (tabT_cons (k := 66) ok_R66 tabT_nil)
noncomputable def gR67 : GT := fun vs h => T.of (run ty tR67 ann0 80 Try.f67 vs h)
theorem ok_R67 : FnT Try.prog 67 gR67 := fnT tok_R67 Try.func67 rfl rfl ann0 fun vs h v h' e => ⟨80, by unfold gR67 at e; rw [T.run_of] at e; exact e⟩
noncomputable def tR71 : Fns := tabT []
theorem tok_R71 : ∀ f, FnT Try.prog f (tR71 f) := tabT_nil
noncomputable def gR71 : GT := fun vs h => T.of (run ty tR71 ann0 80 Try.f71 vs h)
theorem ok_R71 : FnT Try.prog 71 gR71 := fnT tok_R71 Try.func71 rfl rfl ann0 fun vs h v h' e => ⟨80, by unfold gR71 at e; rw [T.run_of] at e; exact e⟩
noncomputable def tR68 : Fns := tabT [(71, gR71), (66, gR66)]
theorem tok_R68 : ∀ f, FnT Try.prog f (tR68 f) := (tabT_cons (k := 71) ok_R71 (tabT_cons (k := 66) ok_R66 tabT_nil))
def an_R68 : Ann := ⟨fun _ => none, fun r n => if r = 1 ∧ n = 18 then .grow else if r = 1 ∧ n = 19 then .plain else .quiet⟩
noncomputable def gR68 : GT := fun vs h => T.of (run ty tR68 an_R68 80 Try.f68 vs h)
theorem ok_R68 : FnT Try.prog 68 gR68 := fnT tok_R68 Try.func68 rfl rfl an_R68 fun vs h v h' e => ⟨80, by unfold gR68 at e; rw [T.run_of] at e; exact e⟩
noncomputable def tR55 : Fns := tabT [(67, gR67), (68, gR68)]
theorem tok_R55 : ∀ f, FnT Try.prog f (tR55 f) := (tabT_cons (k := 67) ok_R67 (tabT_cons (k := 68) ok_R68 tabT_nil))
noncomputable def gR55 : GT := fun vs h => T.of (run ty tR55 ann0 80 Try.f55 vs h)
theorem ok_R55 : FnT Try.prog 55 gR55 := fnT tok_R55 Try.func55 rfl rfl ann0 fun vs h v h' e => ⟨80, by unfold gR55 at e; rw [T.run_of] at e; exact e⟩
noncomputable def tR56 : Fns := tabT [(67, gR67), (55, gR55), (68, gR68)]
theorem tok_R56 : ∀ f, FnT Try.prog f (tR56 f) := (tabT_cons (k := 67) ok_R67 (tabT_cons (k := 55) ok_R55 (tabT_cons (k := 68) ok_R68 tabT_nil)))
noncomputable def gR56 : GT := fun vs h => T.of (run ty tR56 ann0 80 Try.f56 vs h)
theorem ok_R56 : FnT Try.prog 56 gR56 := fnT tok_R56 Try.func56 rfl rfl ann0 fun vs h v h' e => ⟨80, by unfold gR56 at e; rw [T.run_of] at e; exact e⟩
noncomputable def tR70 : Fns := tabT []
theorem tok_R70 : ∀ f, FnT Try.prog f (tR70 f) := tabT_nil
noncomputable def gR70 : GT := fun vs h => T.of (run ty tR70 ann0 80 Try.f70 vs h)
theorem ok_R70 : FnT Try.prog 70 gR70 := fnT tok_R70 Try.func70 rfl rfl ann0 fun vs h v h' e => ⟨80, by unfold gR70 at e; rw [T.run_of] at e; exact e⟩
noncomputable def tR65 : Fns := tabT [(70, gR70)]
theorem tok_R65 : ∀ f, FnT Try.prog f (tR65 f) := (tabT_cons (k := 70) ok_R70 tabT_nil)
def an_R65 : Ann := ⟨fun _ => none, fun r n => if r = 7 ∧ n = 2 then .grow else if r = 7 ∧ n = 5 then .grow else .quiet⟩
noncomputable def gR65 : GT := fun vs h => T.of (run ty tR65 an_R65 80 Try.f65 vs h)
theorem ok_R65 : FnT Try.prog 65 gR65 := fnT tok_R65 Try.func65 rfl rfl an_R65 fun vs h v h' e => ⟨80, by unfold gR65 at e; rw [T.run_of] at e; exact e⟩
noncomputable def tR54 : Fns := tabT [(65, gR65), (66, gR66)]
theorem tok_R54 : ∀ f, FnT Try.prog f (tR54 f) := (tabT_cons (k := 65) ok_R65 (tabT_cons (k := 66) ok_R66 tabT_nil))
def an_R54 : Ann := ⟨fun _ => none, fun r n => if r = 1 ∧ n = 8 then .grow else if r = 2 ∧ n = 11 then .plain else .quiet⟩
noncomputable def gR54 : GT := fun vs h => T.of (run ty tR54 an_R54 80 Try.f54 vs h)
theorem ok_R54 : FnT Try.prog 54 gR54 := fnT tok_R54 Try.func54 rfl rfl an_R54 fun vs h v h' e => ⟨80, by unfold gR54 at e; rw [T.run_of] at e; exact e⟩
noncomputable def tR37 : Fns := tabT [(55, gR55), (56, gR56), (54, gR54)]
theorem tok_R37 : ∀ f, FnT Try.prog f (tR37 f) := (tabT_cons (k := 55) ok_R55 (tabT_cons (k := 56) ok_R56 (tabT_cons (k := 54) ok_R54 tabT_nil)))
noncomputable def gR37 : GT := fun vs h => T.of (run ty tR37 ann0 80 Try.f37 vs h)
theorem ok_R37 : FnT Try.prog 37 gR37 := fnT tok_R37 Try.func37 rfl rfl ann0 fun vs h v h' e => ⟨80, by unfold gR37 at e; rw [T.run_of] at e; exact e⟩
noncomputable def tR38 : Fns := tabT []
theorem tok_R38 : ∀ f, FnT Try.prog f (tR38 f) := tabT_nil
noncomputable def gR38 : GT := fun vs h => T.of (run ty tR38 ann0 80 Try.f38 vs h)
theorem ok_R38 : FnT Try.prog 38 gR38 := fnT tok_R38 Try.func38 rfl rfl ann0 fun vs h v h' e => ⟨80, by unfold gR38 at e; rw [T.run_of] at e; exact e⟩
noncomputable def tab_csI : Fns := tabT [(36, gT gshB), (37, gR37), (38, gR38)]
theorem tabok_csI : ∀ f, FnT Try.prog f (tab_csI f) := (tabT_cons (k := 36) ok_isShell (tabT_cons (k := 37) ok_R37 (tabT_cons (k := 38) ok_R38 tabT_nil)))

def csL : List (List Int) := [[1, 2, 1], [1, 6, 15, 20, 15, 6, 1], [1, 10, 45, 120, 210, 252, 210, 120, 45, 10, 1]]
def csV (l n : Int) : Int := (csL.getD l.toNat []).getD n.toNat 0
abbrev pairI (x : Int) (b : Bool) : V := .tup [.a (.int .i64 x), .a (.bool b)]
end Go.Proofs.Ytbbggpcbnahgiaa.Ab
