/- CountShell: contracts. Only lemmas. Printed by gen_cshell.py. -/
import Derived.Test.YtobbmffldbbhpaaLib
namespace Go.Proofs.Ytobbmffldbbhpaa.Ab
set_option linter.unusedVariables false
set_option linter.unusedSimpArgs false
open Go
def shB (l n : Int) : Bool := inB l 0 2 && inB n 0 (IntKind.i64.wrap (IntKind.i64.wrap (4 * l) + 2))
theorem inB_of {n lo hi : Int} (h : inB n lo hi = true) : lo ≤ n ∧ n ≤ hi := by
  simp only [inB, Bool.and_eq_true, decide_eq_true_eq] at h
  omega
def gShB : G := fun vs h => match vs, h with | [.int .i64 l, .int .i64 n], [] => some (.bool (shB l n), []) | _, _ => none
def tab_l03Shell : Fns := tabT [(84, gT gIn)]
theorem tabok_l03Shell : ∀ f, FnT Try.prog f (tab_l03Shell f) := (tabT_cons (k := 84) ok_l00In tabT_nil)
theorem run_l03Shell (N : Nat) (l : Int) (n : Int) : run ty tab_l03Shell ann0 N Try.f60 [.int .i64 l, .int .i64 n] []
    = (match inB l 0 2 with
  | true => some (.bool (inB n 0 (IntKind.i64.wrap ((IntKind.i64.wrap (4 * l)) + 2))), [])
  | false => some (.bool false, [])) := by
  kernel_rfl

theorem ok_l03Shell : FnT Try.prog 60 (gT gShB) := by
  refine fnT tabok_l03Shell Try.func60 rfl rfl ann0 fun vs h v h' e => ⟨0, ?_⟩
  rw [T.run_of] at e
  unfold gShB at e
  split at e
  case h_2 => cases e
  rename_i l n
  cases e
  refine Eq.trans (run_l03Shell 0 l n) ?_
  unfold shB
  cases inB l 0 2 <;> rfl
def tab_isShell : Fns := tabT [(79, gT gIn)]
theorem tabok_isShell : ∀ f, FnT Try.prog f (tab_isShell f) := (tabT_cons (k := 79) ok_within tabT_nil)
theorem run_isShell (N : Nat) (l : Int) (n : Int) : run ty tab_isShell ann0 N Try.f62 [.int .i64 l, .int .i64 n] []
    = (match inB l 0 2 with
  | true => some (.bool (inB n 0 (IntKind.i64.wrap (2 * (IntKind.i64.wrap ((IntKind.i64.wrap (2 * l)) + 1))))), [])
  | false => some (.bool false, [])) := by
  kernel_rfl

theorem ok_isShell : FnT Try.prog 62 (gT gShB) := by
  refine fnT tabok_isShell Try.func62 rfl rfl ann0 fun vs h v h' e => ⟨0, ?_⟩
  rw [T.run_of] at e
  unfold gShB at e
  split at e
  case h_2 => cases e
  rename_i l n
  cases e
  refine Eq.trans (run_isShell 0 l n) ?_
  unfold shB
  cases h : inB l 0 2
  · rfl
  have hb := inB_of h
  have e1 : IntKind.i64.wrap (2 * (IntKind.i64.wrap ((IntKind.i64.wrap (2 * l)) + 1))) = 4 * l + 2 := by
    rw [wrap_s (n := 2 * l) (by omega) (by omega), wrap_s (n := 2 * l + 1) (by omega) (by omega), wrap_s (by omega) (by omega)]
    omega
  have e2 : IntKind.i64.wrap (IntKind.i64.wrap (4 * l) + 2) = 4 * l + 2 := by
    rw [wrap_s (n := 4 * l) (by omega) (by omega), wrap_s (by omega) (by omega)]
  rw [e1, e2]
  rfl
def gShF : GT := fun vs h => match vs, h with | [.int .i64 l, .int .i64 n], [] => .ite (shB l n) .no (.ret (.bool false) []) | _, _ => .no
theorem shF {f : FuncId} (h : FnT Try.prog f (gT gShB)) : FnT Try.prog f gShF := fun vs hp v h' e => h vs hp v h' (by
  unfold gShF at e
  split at e
  · rename_i l n
    show (T.of (some (V.bool (shB l n), []))).run = _
    rw [← e]
    cases hs : shB l n
    · rfl
    · rw [hs] at e
      exact (T.no_inv e).elim
  · exact (T.no_inv e).elim)
def csL : List (List Int) := [[1, 2, 1], [1, 6, 15, 20, 15, 6, 1], [1, 10, 45, 120, 210, 252, 210, 120, 45, 10, 1]]
def csV (l n : Int) : Int := (csL.getD l.toNat []).getD n.toNat 0
abbrev pairI (x : Int) (b : Bool) : V := .tup [.a (.int .i64 x), .a (.bool b)]
theorem sh_cases {P : Int → Int → Prop} {l n : Int} (h : shB l n = true) (h0_0 : P 0 0) (h0_1 : P 0 1) (h0_2 : P 0 2) (h1_0 : P 1 0) (h1_1 : P 1 1) (h1_2 : P 1 2) (h1_3 : P 1 3) (h1_4 : P 1 4) (h1_5 : P 1 5) (h1_6 : P 1 6) (h2_0 : P 2 0) (h2_1 : P 2 1) (h2_2 : P 2 2) (h2_3 : P 2 3) (h2_4 : P 2 4) (h2_5 : P 2 5) (h2_6 : P 2 6) (h2_7 : P 2 7) (h2_8 : P 2 8) (h2_9 : P 2 9) (h2_10 : P 2 10) : P l n := by
  unfold shB at h
  simp only [Bool.and_eq_true] at h
  have h1 := inB_of h.1
  have h2 := inB_of h.2
  have hl : l = 0 ∨ l = 1 ∨ l = 2 := by omega
  rcases hl with rfl | rfl | rfl
  · have h3 : n ≤ 2 := h2.2
    have hn : n = 0 ∨ n = 1 ∨ n = 2 := by omega
    rcases hn with rfl | rfl | rfl
    · exact h0_0
    · exact h0_1
    · exact h0_2
  · have h3 : n ≤ 6 := h2.2
    have hn : n = 0 ∨ n = 1 ∨ n = 2 ∨ n = 3 ∨ n = 4 ∨ n = 5 ∨ n = 6 := by omega
    rcases hn with rfl | rfl | rfl | rfl | rfl | rfl | rfl
    · exact h1_0
    · exact h1_1
    · exact h1_2
    · exact h1_3
    · exact h1_4
    · exact h1_5
    · exact h1_6
  · have h3 : n ≤ 10 := h2.2
    have hn : n = 0 ∨ n = 1 ∨ n = 2 ∨ n = 3 ∨ n = 4 ∨ n = 5 ∨ n = 6 ∨ n = 7 ∨ n = 8 ∨ n = 9 ∨ n = 10 := by omega
    rcases hn with rfl | rfl | rfl | rfl | rfl | rfl | rfl | rfl | rfl | rfl | rfl
    · exact h2_0
    · exact h2_1
    · exact h2_2
    · exact h2_3
    · exact h2_4
    · exact h2_5
    · exact h2_6
    · exact h2_7
    · exact h2_8
    · exact h2_9
    · exact h2_10
noncomputable def tR61 : Fns := tabT []
theorem tok_R61 : ∀ f, FnT Try.prog f (tR61 f) := tabT_nil
noncomputable def gR61 : GT := fun vs h => T.of (run ty tR61 ann0 80 Try.f61 vs h)
theorem ok_R61 : FnT Try.prog 61 gR61 := fnT tok_R61 Try.func61 rfl rfl ann0 fun vs h v h' e => ⟨80, by unfold gR61 at e; rw [T.run_of] at e; exact e⟩
noncomputable def tR167 : Fns := tabT []
theorem tok_R167 : ∀ f, FnT Try.prog f (tR167 f) := tabT_nil
noncomputable def gR167 : GT := fun vs h => T.of (run ty tR167 ann0 80 Try.f167 vs h)
theorem ok_R167 : FnT Try.prog 167 gR167 := fnT tok_R167 Try.func167 rfl rfl ann0 fun vs h v h' e => ⟨80, by unfold gR167 at e; rw [T.run_of] at e; exact e⟩
noncomputable def tR155 : Fns := tabT [(167, gR167)]
theorem tok_R155 : ∀ f, FnT Try.prog f (tR155 f) := (tabT_cons (k := 167) ok_R167 tabT_nil)
noncomputable def gR155 : GT := fun vs h => T.of (run ty tR155 ann0 80 Try.f155 vs h)
theorem ok_R155 : FnT Try.prog 155 gR155 := fnT tok_R155 Try.func155 rfl rfl ann0 fun vs h v h' e => ⟨80, by unfold gR155 at e; rw [T.run_of] at e; exact e⟩
noncomputable def tR183 : Fns := tabT []
theorem tok_R183 : ∀ f, FnT Try.prog f (tR183 f) := tabT_nil
noncomputable def gR183 : GT := fun vs h => T.of (run ty tR183 ann0 80 Try.f183 vs h)
theorem ok_R183 : FnT Try.prog 183 gR183 := fnT tok_R183 Try.func183 rfl rfl ann0 fun vs h v h' e => ⟨80, by unfold gR183 at e; rw [T.run_of] at e; exact e⟩
noncomputable def tR160 : Fns := tabT [(183, gR183), (167, gR167)]
theorem tok_R160 : ∀ f, FnT Try.prog f (tR160 f) := (tabT_cons (k := 183) ok_R183 (tabT_cons (k := 167) ok_R167 tabT_nil))
def an_R160 : Ann := ⟨fun _ => none, fun r n => if r = 1 ∧ n = 18 then .grow else if r = 1 ∧ n = 19 then .plain else .quiet⟩
noncomputable def gR160 : GT := fun vs h => T.of (run ty tR160 an_R160 80 Try.f160 vs h)
theorem ok_R160 : FnT Try.prog 160 gR160 := fnT tok_R160 Try.func160 rfl rfl an_R160 fun vs h v h' e => ⟨80, by unfold gR160 at e; rw [T.run_of] at e; exact e⟩
noncomputable def tR123 : Fns := tabT [(155, gR155), (160, gR160)]
theorem tok_R123 : ∀ f, FnT Try.prog f (tR123 f) := (tabT_cons (k := 155) ok_R155 (tabT_cons (k := 160) ok_R160 tabT_nil))
noncomputable def gR123 : GT := fun vs h => T.of (run ty tR123 ann0 80 Try.f123 vs h)
theorem ok_R123 : FnT Try.prog 123 gR123 := fnT tok_R123 Try.func123 rfl rfl ann0 fun vs h v h' e => ⟨80, by unfold gR123 at e; rw [T.run_of] at e; exact e⟩
noncomputable def tR124 : Fns := tabT [(155, gR155), (123, gR123), (160, gR160)]
theorem tok_R124 : ∀ f, FnT Try.prog f (tR124 f) := (tabT_cons (k := 155) ok_R155 (tabT_cons (k := 123) ok_R123 (tabT_cons (k := 160) ok_R160 tabT_nil)))
noncomputable def gR124 : GT := fun vs h => T.of (run ty tR124 ann0 80 Try.f124 vs h)
theorem ok_R124 : FnT Try.prog 124 gR124 := fnT tok_R124 Try.func124 rfl rfl ann0 fun vs h v h' e => ⟨80, by unfold gR124 at e; rw [T.run_of] at e; exact e⟩
noncomputable def tR186 : Fns := tabT []
theorem tok_R186 : ∀ f, FnT Try.prog f (tR186 f) := tabT_nil
noncomputable def gR186 : GT := fun vs h => T.of (run ty tR186 ann0 80 Try.f186 vs h)
theorem ok_R186 : FnT Try.prog 186 gR186 := fnT tok_R186 Try.func186 rfl rfl ann0 fun vs h v h' e => ⟨80, by unfold gR186 at e; rw [T.run_of] at e; exact e⟩
noncomputable def tR166 : Fns := tabT [(186, gR186)]
theorem tok_R166 : ∀ f, FnT Try.prog f (tR166 f) := (tabT_cons (k := 186) ok_R186 tabT_nil)
def an_R166 : Ann := ⟨fun _ => none, fun r n => if r = 7 ∧ n = 2 then .grow else if r = 7 ∧ n = 5 then .grow else .quiet⟩
noncomputable def gR166 : GT := fun vs h => T.of (run ty tR166 an_R166 80 Try.f166 vs h)
theorem ok_R166 : FnT Try.prog 166 gR166 := fnT tok_R166 Try.func166 rfl rfl an_R166 fun vs h v h' e => ⟨80, by unfold gR166 at e; rw [T.run_of] at e; exact e⟩
noncomputable def tR122 : Fns := tabT [(166, gR166), (167, gR167)]
theorem tok_R122 : ∀ f, FnT Try.prog f (tR122 f) := (tabT_cons (k := 166) ok_R166 (tabT_cons (k := 167) ok_R167 tabT_nil))
def an_R122 : Ann := ⟨fun _ => none, fun r n => if r = 1 ∧ n = 8 then .grow else if r = 2 ∧ n = 11 then .plain else .quiet⟩
noncomputable def gR122 : GT := fun vs h => T.of (run ty tR122 an_R122 80 Try.f122 vs h)
theorem ok_R122 : FnT Try.prog 122 gR122 := fnT tok_R122 Try.func122 rfl rfl an_R122 fun vs h v h' e => ⟨80, by unfold gR122 at e; rw [T.run_of] at e; exact e⟩
noncomputable def tR63 : Fns := tabT [(123, gR123), (124, gR124), (122, gR122)]
theorem tok_R63 : ∀ f, FnT Try.prog f (tR63 f) := (tabT_cons (k := 123) ok_R123 (tabT_cons (k := 124) ok_R124 (tabT_cons (k := 122) ok_R122 tabT_nil)))
noncomputable def gR63 : GT := fun vs h => T.of (run ty tR63 ann0 80 Try.f63 vs h)
theorem ok_R63 : FnT Try.prog 63 gR63 := fnT tok_R63 Try.func63 rfl rfl ann0 fun vs h v h' e => ⟨80, by unfold gR63 at e; rw [T.run_of] at e; exact e⟩
noncomputable def tR64 : Fns := tabT []
theorem tok_R64 : ∀ f, FnT Try.prog f (tR64 f) := tabT_nil
noncomputable def gR64 : GT := fun vs h => T.of (run ty tR64 ann0 80 Try.f64 vs h)
theorem ok_R64 : FnT Try.prog 64 gR64 := fnT tok_R64 Try.func64 rfl rfl ann0 fun vs h v h' e => ⟨80, by unfold gR64 at e; rw [T.run_of] at e; exact e⟩
noncomputable def tab_csS : Fns := tabT [(60, gT gShB), (61, gR61)]
theorem tabok_csS : ∀ f, FnT Try.prog f (tab_csS f) := (tabT_cons (k := 60) ok_l03Shell (tabT_cons (k := 61) ok_R61 tabT_nil))

noncomputable def tab_csI : Fns := tabT [(62, gT gShB), (63, gR63), (64, gR64)]
theorem tabok_csI : ∀ f, FnT Try.prog f (tab_csI f) := (tabT_cons (k := 62) ok_isShell (tabT_cons (k := 63) ok_R63 (tabT_cons (k := 64) ok_R64 tabT_nil)))

end Go.Proofs.Ytobbmffldbbhpaa.Ab
