/- FactorOf: contracts. Only lemmas. Printed by gen_factor2.py. -/
import Derived.Test.YtbhfjdlhhjeknaaNum
namespace Go.Proofs.Ytbhfjdlhhjeknaa.Ab.Fc
set_option linter.unusedVariables false
set_option linter.unusedSimpArgs false
open Go
theorem inB_iff {n lo hi : Int} : inB n lo hi = true ↔ lo ≤ n ∧ n ≤ hi := by
  simp only [inB, Bool.and_eq_true, decide_eq_true_eq, ge_iff_le]
def gapI (a b : Int) : Int := if a > b then IntKind.i64.wrap (a - b) else IntKind.i64.wrap (b - a)
def gGap : G := fun vs h => match vs, h with | [.int .i64 a, .int .i64 b], [] => some (.int .i64 (gapI a b), []) | _, _ => none
def totS (l s j : Int) : Bool := inB j (gapI l s) (IntKind.i64.wrap (l + s)) && (Int.tmod (IntKind.i64.wrap ((IntKind.i64.wrap (l + s)) - j)) 2 == 0)
def gTotS : G := fun vs h => match vs, h with | [.int .i64 l, .int .i64 s, .int .i64 j], [] => some (.bool (totS l s j), []) | _, _ => none
def fineS (l s j : Int) : Bool := inB l 0 6 && (inB s 0 6 && ((Int.tmod l 2 == 0) && (totS l s j && decide (j > 0))))
def gFinS : G := fun vs h => match vs, h with | [.int .i64 l, .int .i64 s, .int .i64 j], [] => some (.bool (fineS l s j), []) | _, _ => none
def totI (l s j : Int) : Bool := decide (j ≥ (if (IntKind.i64.wrap (s - l)) > (IntKind.i64.wrap (l - s)) then IntKind.i64.wrap (s - l) else IntKind.i64.wrap (l - s))) && (decide (j ≤ (IntKind.i64.wrap (l + s))) && ((Int.tmod (IntKind.i64.wrap ((IntKind.i64.wrap (l + s)) - j)) 2) == 0))
def gTotI : G := fun vs h => match vs, h with | [.int .i64 l, .int .i64 s, .int .i64 j], [] => some (.bool (totI l s j), []) | _, _ => none
def fineI (l s j : Int) : Bool := inB l 0 6 && (inB s 0 6 && (!(Int.tmod l 2 != 0) && (!(j == 0) && totI l s j)))
def gIs6 : G := fun vs h => match vs, h with | [.int .i64 a], [] => some (.bool (inB a 0 6), []) | _, _ => none
def gNo6 : G := fun vs h => match vs, h with | [.int .i64 a], [] => some (.bool (!inB a 0 6), []) | _, _ => none

def tab_l03Gap : Fns := tabT []
theorem tabok_l03Gap : ∀ f, FnT Try.prog f (tab_l03Gap f) := tabT_nil
theorem run_l03Gap (N : Nat) (a : Int) (b : Int) : run ty tab_l03Gap ann0 N Try.f131 [.int .i64 a, .int .i64 b] []
    = (match decide ((a : Int) > b) with
  | true => some (.int .i64 (IntKind.i64.wrap (a - b)), [])
  | false => some (.int .i64 (IntKind.i64.wrap (b - a)), [])) := by
  kernel_rfl

theorem ok_l03Gap : FnT Try.prog 131 (gT gGap) := by
  refine fnT tabok_l03Gap Try.func131 rfl rfl ann0 fun vs h v h' e => ⟨0, ?_⟩
  rw [T.run_of] at e
  unfold gGap at e
  split at e
  case h_2 => cases e
  rename_i a b
  cases e
  refine Eq.trans (run_l03Gap 0 a b) ?_
  unfold gapI
  by_cases h : a > b
  · rw [decide_eq_true h, if_pos h]
  · rw [decide_eq_false h, if_neg h]
def tab_l03Is : Fns := tabT [(157, gT gIn)]
theorem tabok_l03Is : ∀ f, FnT Try.prog f (tab_l03Is f) := (tabT_cons (k := 157) ok_l00In tabT_nil)
theorem run_l03Is (N : Nat) (a : Int) : run ty tab_l03Is ann0 N Try.f111 [.int .i64 a] []
    = some (.bool (inB a 0 6), []) := by
  kernel_rfl

theorem ok_l03Is : FnT Try.prog 111 (gT gIs6) := by
  refine fnT tabok_l03Is Try.func111 rfl rfl ann0 fun vs h v h' e => ⟨0, ?_⟩
  rw [T.run_of] at e
  unfold gIs6 at e
  split at e
  case h_2 => cases e
  rename_i a
  cases e
  refine Eq.trans (run_l03Is 0 a) ?_
  rfl
def tab_l03Total : Fns := tabT [(131, gT gGap), (157, gT gIn)]
theorem tabok_l03Total : ∀ f, FnT Try.prog f (tab_l03Total f) := (tabT_cons (k := 131) ok_l03Gap (tabT_cons (k := 157) ok_l00In tabT_nil))
theorem run_l03Total (N : Nat) (l : Int) (s : Int) (j : Int) : run ty tab_l03Total ann0 N Try.f109 [.int .i64 l, .int .i64 s, .int .i64 j] []
    = (match inB j (gapI l s) (IntKind.i64.wrap (l + s)) with
  | true => some (.bool ((Int.tmod (IntKind.i64.wrap ((IntKind.i64.wrap (l + s)) - j)) 2) == 0), [])
  | false => some (.bool false, [])) := by
  kernel_rfl

theorem ok_l03Total : FnT Try.prog 109 (gT gTotS) := by
  refine fnT tabok_l03Total Try.func109 rfl rfl ann0 fun vs h v h' e => ⟨0, ?_⟩
  rw [T.run_of] at e
  unfold gTotS at e
  split at e
  case h_2 => cases e
  rename_i l s j
  cases e
  refine Eq.trans (run_l03Total 0 l s j) ?_
  unfold totS
  cases inB j (gapI l s) (IntKind.i64.wrap (l + s)) <;> rfl
def tab_l03Fine : Fns := tabT [(111, gT gIs6), (109, gT gTotS)]
theorem tabok_l03Fine : ∀ f, FnT Try.prog f (tab_l03Fine f) := (tabT_cons (k := 111) ok_l03Is (tabT_cons (k := 109) ok_l03Total tabT_nil))
theorem run_l03Fine (N : Nat) (l : Int) (s : Int) (j : Int) : run ty tab_l03Fine ann0 N Try.f86 [.int .i64 l, .int .i64 s, .int .i64 j] []
    = (match inB l 0 6 with
  | true => (match inB s 0 6 with
    | true => (match (Int.tmod l 2) == 0 with
      | true => (match totS l s j with
        | true => some (.bool (decide ((j : Int) > 0)), [])
        | false => some (.bool false, []))
      | false => some (.bool false, []))
    | false => some (.bool false, []))
  | false => some (.bool false, [])) := by
  kernel_rfl

theorem ok_l03Fine : FnT Try.prog 86 (gT gFinS) := by
  refine fnT tabok_l03Fine Try.func86 rfl rfl ann0 fun vs h v h' e => ⟨0, ?_⟩
  rw [T.run_of] at e
  unfold gFinS at e
  split at e
  case h_2 => cases e
  rename_i l s j
  cases e
  refine Eq.trans (run_l03Fine 0 l s j) ?_
  unfold fineS
  cases inB l 0 6 <;> cases inB s 0 6 <;> cases (Int.tmod l 2 == 0) <;> cases totS l s j <;> rfl
def tab_isTotal : Fns := tabT []
theorem tabok_isTotal : ∀ f, FnT Try.prog f (tab_isTotal f) := tabT_nil
theorem run_isTotal (N : Nat) (l : Int) (s : Int) (j : Int) : run ty tab_isTotal ann0 N Try.f93 [.int .i64 l, .int .i64 s, .int .i64 j] []
    = (match decide ((j : Int) ≥ (if (IntKind.i64.wrap (s - l)) > (IntKind.i64.wrap (l - s)) then IntKind.i64.wrap (s - l) else IntKind.i64.wrap (l - s))) with
  | true => (match decide ((j : Int) ≤ (IntKind.i64.wrap (l + s))) with
    | true => some (.bool ((Int.tmod (IntKind.i64.wrap ((IntKind.i64.wrap (l + s)) - j)) 2) == 0), [])
    | false => some (.bool false, []))
  | false => some (.bool false, [])) := by
  kernel_rfl

theorem ok_isTotal : FnT Try.prog 93 (gT gTotI) := by
  refine fnT tabok_isTotal Try.func93 rfl rfl ann0 fun vs h v h' e => ⟨0, ?_⟩
  rw [T.run_of] at e
  unfold gTotI at e
  split at e
  case h_2 => cases e
  rename_i l s j
  cases e
  refine Eq.trans (run_isTotal 0 l s j) ?_
  unfold totI
  cases decide (j ≥ (if (IntKind.i64.wrap (s - l)) > (IntKind.i64.wrap (l - s)) then IntKind.i64.wrap (s - l) else IntKind.i64.wrap (l - s))) <;> cases decide (j ≤ (IntKind.i64.wrap (l + s))) <;> rfl
def tab_areT1 : Fns := tabT [(97, gT gIn)]
theorem tabok_areT1 : ∀ f, FnT Try.prog f (tab_areT1 f) := (tabT_cons (k := 97) ok_within tabT_nil)
theorem run_areT1 (N : Nat) (a : Int) : run ty tab_areT1 ann0 N Try.f159 [.int .i64 a] []
    = some (.bool (!(inB a 0 6)), []) := by
  kernel_rfl

theorem ok_areT1 : FnT Try.prog 159 (gT gNo6) := by
  refine fnT tabok_areT1 Try.func159 rfl rfl ann0 fun vs h v h' e => ⟨0, ?_⟩
  rw [T.run_of] at e
  unfold gNo6 at e
  split at e
  case h_2 => cases e
  rename_i a
  cases e
  refine Eq.trans (run_areT1 0 a) ?_
  rfl
def gTwX : GT := fun vs h => match vs, h with | [.sl 0 0 2, .fn f'], [.at rw (.int .i64 [l, s])] => if f' = 159 then .ite (!inB l 0 6) (.ret (.int .i64 0) [.at rw (.int .i64 [l, s])]) (.ite (!inB s 0 6) (.ret (.int .i64 1) [.at rw (.int .i64 [l, s])]) (.ret (.int .i64 (-1)) [.at rw (.int .i64 [l, s])])) else .no | _, _ => .no
def gTwC : GT := fun vs h => match vs, h with | [.sl 0 0 2, .fn f'], [.at rw (.int .i64 [l, s])] => if f' = 159 then .ite (!inB l 0 6) (.ret (.bool true) [.at rw (.int .i64 [l, s])]) (.ite (!inB s 0 6) (.ret (.bool true) [.at rw (.int .i64 [l, s])]) (.ret (.bool false) [.at rw (.int .i64 [l, s])])) else .no | _, _ => .no
def gTwA : GT := fun vs h => match vs, h with | [.sl 0 0 2], [.at rw (.int .i64 [l, s])] => .ite (!inB l 0 6) (.ret (.bool false) [.at rw (.int .i64 [l, s])]) (.ite (!inB s 0 6) (.ret (.bool false) [.at rw (.int .i64 [l, s])]) (.ret (.bool true) [.at rw (.int .i64 [l, s])])) | _, _ => .no
def tab_twX : Fns := tabT [(159, gT gNo6)]
theorem tabok_twX : ∀ f, FnT Try.prog f (tab_twX f) := (tabT_cons (k := 159) ok_areT1 tabT_nil)
theorem run_twX (N : Nat) (rw : Bool) (l : Int) (s : Int) : run ty tab_twX ann0 (N + 4) Try.f179 [.sl 0 0 2, .fn 159] [.at rw (.int .i64 [l, s])]
    = (match !(inB l 0 6) with
  | true => some (.int .i64 0, [.at rw (.int .i64 [l, s])])
  | false => (match !(inB s 0 6) with
    | true => some (.int .i64 1, [.at rw (.int .i64 [l, s])])
    | false => some (.int .i64 (-1), [.at rw (.int .i64 [l, s])]))) := by
  kernel_rfl

theorem ok_twX : FnT Try.prog 179 gTwX := by
  refine fnT tabok_twX Try.func179 rfl rfl ann0 fun vs h v h' e => ⟨0 + 4, ?_⟩
  unfold gTwX at e
  split at e
  · rename_i f1 rw l s
    split at e
    · rename_i hf
      subst hf
      refine Eq.trans (run_twX 0 _ _ _) (Eq.trans ?_ e)
      cases inB l 0 6 <;> cases inB s 0 6 <;> rfl
    · exact (T.no_inv e).elim
  · exact (T.no_inv e).elim
def tab_twC : Fns := tabT [(179, gTwX)]
theorem tabok_twC : ∀ f, FnT Try.prog f (tab_twC f) := (tabT_cons (k := 179) ok_twX tabT_nil)
theorem run_twC (N : Nat) (rw : Bool) (l : Int) (s : Int) : run ty tab_twC ann0 (N + 4) Try.f158 [.sl 0 0 2, .fn 159] [.at rw (.int .i64 [l, s])]
    = (match !inB l 0 6 with
  | true => some (.bool true, [.at rw (.int .i64 [l, s])])
  | false => (match !inB s 0 6 with
    | true => some (.bool true, [.at rw (.int .i64 [l, s])])
    | false => some (.bool false, [.at rw (.int .i64 [l, s])]))) := by
  kernel_rfl

theorem ok_twC : FnT Try.prog 158 gTwC := by
  refine fnT tabok_twC Try.func158 rfl rfl ann0 fun vs h v h' e => ⟨0 + 4, ?_⟩
  unfold gTwC at e
  split at e
  · rename_i f1 rw l s
    split at e
    · rename_i hf
      subst hf
      refine Eq.trans (run_twC 0 _ _ _) (Eq.trans ?_ e)
      cases inB l 0 6 <;> cases inB s 0 6 <;> rfl
    · exact (T.no_inv e).elim
  · exact (T.no_inv e).elim
def tab_twA : Fns := tabT [(158, gTwC)]
theorem tabok_twA : ∀ f, FnT Try.prog f (tab_twA f) := (tabT_cons (k := 158) ok_twC tabT_nil)
theorem run_twA (N : Nat) (rw : Bool) (l : Int) (s : Int) : run ty tab_twA ann0 (N + 4) Try.f112 [.sl 0 0 2] [.at rw (.int .i64 [l, s])]
    = (match !inB l 0 6 with
  | true => some (.bool false, [.at rw (.int .i64 [l, s])])
  | false => (match !inB s 0 6 with
    | true => some (.bool false, [.at rw (.int .i64 [l, s])])
    | false => some (.bool true, [.at rw (.int .i64 [l, s])]))) := by
  kernel_rfl

theorem ok_twA : FnT Try.prog 112 gTwA := by
  refine fnT tabok_twA Try.func112 rfl rfl ann0 fun vs h v h' e => ⟨0 + 4, ?_⟩
  unfold gTwA at e
  split at e
  · rename_i rw l s
    refine Eq.trans (run_twA 0 _ _ _) (Eq.trans ?_ e)
    cases inB l 0 6 <;> cases inB s 0 6 <;> rfl
  · exact (T.no_inv e).elim
def duo (u d : Int) : V := .tup [.a (.int .i64 u), .a (.int .i64 d)]
def tri (u d : Int) (b : Bool) : V := .tup [.a (.int .i64 u), .a (.int .i64 d), .a (.bool b)]
theorem tmod2 {x : Int} (h : 0 ≤ x) : Int.tmod x 2 = x % 2 := Int.tmod_eq_emod_of_nonneg h
def FineP (l s j : Int) : Prop := (0 ≤ l ∧ l ≤ 6) ∧ (0 ≤ s ∧ s ≤ 6) ∧ l % 2 = 0 ∧ l - s ≤ j ∧ s - l ≤ j ∧ j ≤ l + s ∧ (l + s - j) % 2 = 0 ∧ j ≠ 0
theorem fineS_iff {l s j : Int} : fineS l s j = true ↔ FineP l s j := by
  unfold fineS FineP
  simp only [Bool.and_eq_true, inB_iff, beq_iff_eq, decide_eq_true_eq]
  refine and_congr_right fun hl => and_congr_right fun hs => ?_
  rw [tmod2 hl.1]
  refine and_congr_right fun hp => ?_
  unfold totS
  rw [wrap_s (n := l + s) (by omega) (by omega)]
  simp only [Bool.and_eq_true, inB_iff, beq_iff_eq]
  have hg : gapI l s = if l > s then l - s else s - l := by
    unfold gapI
    split
    · rw [wrap_s (by omega) (by omega)]
    · rw [wrap_s (by omega) (by omega)]
  rw [hg]
  constructor
  · rintro ⟨⟨⟨h1, h2⟩, h3⟩, h4⟩
    have h5 : l - s ≤ j ∧ s - l ≤ j := by split at h1 <;> omega
    rw [wrap_s (n := l + s - j) (by omega) (by omega), tmod2 (by omega)] at h3
    omega
  · rintro ⟨h1, h2, h3, h4, h5⟩
    rw [wrap_s (n := l + s - j) (by omega) (by omega), tmod2 (by omega)]
    refine ⟨⟨⟨?_, h3⟩, h4⟩, by omega⟩
    split <;> omega
theorem wrap_n {n : Int} (h : -1000 ≤ n) (h2 : n ≤ 1000) : IntKind.i64.wrap n = n := wrap_z (by omega) (by omega)
theorem fineI_iff {l s j : Int} : fineI l s j = true ↔ FineP l s j := by
  unfold fineI FineP
  simp only [Bool.and_eq_true, inB_iff, beq_iff_eq, bne, Bool.not_not, Bool.not_eq_true', beq_eq_false_iff_ne]
  refine and_congr_right fun hl => and_congr_right fun hs => ?_
  rw [tmod2 hl.1]
  refine and_congr_right fun hp => ?_
  unfold totI
  rw [wrap_s (n := l + s) (by omega) (by omega), wrap_n (n := s - l) (by omega) (by omega), wrap_n (n := l - s) (by omega) (by omega)]
  simp only [Bool.and_eq_true, beq_iff_eq, decide_eq_true_eq]
  constructor
  · rintro ⟨h4, h1, h2, h3⟩
    have h5 : l - s ≤ j ∧ s - l ≤ j := by split at h1 <;> omega
    rw [wrap_s (n := l + s - j) (by omega) (by omega), tmod2 (by omega)] at h3
    omega
  · rintro ⟨h1, h2, h3, h4, h5⟩
    rw [wrap_s (n := l + s - j) (by omega) (by omega), tmod2 (by omega)]
    refine ⟨h5, ?_, h3, h4⟩
    split <;> omega
theorem fineSI (l s j : Int) : fineI l s j = fineS l s j := Bool.eq_iff_iff.mpr (fineI_iff.trans fineS_iff.symm)

def fcUL : List (List (List Int)) := [[[0], [0, 2], [0, 0, 2], [0, 0, 0, 2], [0, 0, 0, 0, 2], [0, 0, 0, 0, 0, 2], [0, 0, 0, 0, 0, 0, 2]], [[0, 0], [0, 0, 0], [0, 0, 0, 0], [0, 0, 0, 0, 0], [0, 0, 0, 0, 0, 0], [0, 0, 0, 0, 0, 0, 0], [0, 0, 0, 0, 0, 0, 0, 0]], [[0, 0, 1], [0, 2, 0, 4], [0, 0, 3, 0, 3], [0, 8, 0, 26, 0, 8], [0, 0, 5, 0, 11, 0, 5], [0, 0, 0, 12, 0, 66, 0, 12], [0, 0, 0, 0, 7, 0, 23, 0, 7]], [[0, 0, 0, 0], [0, 0, 0, 0, 0], [0, 0, 0, 0, 0, 0], [0, 0, 0, 0, 0, 0, 0], [0, 0, 0, 0, 0, 0, 0, 0], [0, 0, 0, 0, 0, 0, 0, 0, 0], [0, 0, 0, 0, 0, 0, 0, 0, 0, 0]], [[0, 0, 0, 0, 1], [0, 0, 0, 4, 0, 6], [0, 0, 1, 0, 7, 0, 4], [0, 0, 0, 6, 0, 48, 0, 10], [0, 0, 3, 0, 3, 0, 3, 0, 3], [0, 10, 0, 28, 0, 58, 0, 100, 0, 14], [0, 0, 3, 0, 2, 0, 7, 0, 33, 0, 8]], [[0, 0, 0, 0, 0, 0], [0, 0, 0, 0, 0, 0, 0], [0, 0, 0, 0, 0, 0, 0, 0], [0, 0, 0, 0, 0, 0, 0, 0, 0], [0, 0, 0, 0, 0, 0, 0, 0, 0, 0], [0, 0, 0, 0, 0, 0, 0, 0, 0, 0, 0], [0, 0, 0, 0, 0, 0, 0, 0, 0, 0, 0, 0]], [[0, 0, 0, 0, 0, 0, 1], [0, 0, 0, 0, 0, 6, 0, 8], [0, 0, 0, 0, 2, 0, 13, 0, 5], [0, 0, 0, 2, 0, 36, 0, 26, 0, 4], [0, 0, 0, 0, 1, 0, 5, 0, 27, 0, 7], [0, -2, 0, 16, 0, 46, 0, 88, 0, 142, 0, 16], [0, 0, 3, 0, 3, 0, 3, 0, 3, 0, 3, 0, 3]]]
def fcU (l s j : Int) : Int := ((fcUL.getD l.toNat []).getD s.toNat []).getD j.toNat 0
def fcDL : List (List (List Int)) := [[[0], [0, 1], [0, 0, 1], [0, 0, 0, 1], [0, 0, 0, 0, 1], [0, 0, 0, 0, 0, 1], [0, 0, 0, 0, 0, 0, 1]], [[0, 0], [0, 0, 0], [0, 0, 0, 0], [0, 0, 0, 0, 0], [0, 0, 0, 0, 0, 0], [0, 0, 0, 0, 0, 0, 0], [0, 0, 0, 0, 0, 0, 0, 0]], [[0, 0, 1], [0, 3, 0, 3], [0, 0, 2, 0, 2], [0, 3, 0, 15, 0, 5], [0, 0, 2, 0, 6, 0, 3], [0, 0, 0, 5, 0, 35, 0, 7], [0, 0, 0, 0, 3, 0, 12, 0, 4]], [[0, 0, 0, 0], [0, 0, 0, 0, 0], [0, 0, 0, 0, 0, 0], [0, 0, 0, 0, 0, 0, 0], [0, 0, 0, 0, 0, 0, 0, 0], [0, 0, 0, 0, 0, 0, 0, 0, 0], [0, 0, 0, 0, 0, 0, 0, 0, 0, 0]], [[0, 0, 0, 0, 1], [0, 0, 0, 5, 0, 5], [0, 0, 2, 0, 6, 0, 3], [0, 1, 0, 5, 0, 35, 0, 7], [0, 0, 2, 0, 2, 0, 2, 0, 2], [0, 3, 0, 15, 0, 35, 0, 63, 0, 9], [0, 0, 1, 0, 1, 0, 4, 0, 20, 0, 5]], [[0, 0, 0, 0, 0, 0], [0, 0, 0, 0, 0, 0, 0], [0, 0, 0, 0, 0, 0, 0, 0], [0, 0, 0, 0, 0, 0, 0, 0, 0], [0, 0, 0, 0, 0, 0, 0, 0, 0, 0], [0, 0, 0, 0, 0, 0, 0, 0, 0, 0, 0], [0, 0, 0, 0, 0, 0, 0, 0, 0, 0, 0, 0]], [[0, 0, 0, 0, 0, 0, 1], [0, 0, 0, 0, 0, 7, 0, 7], [0, 0, 0, 0, 3, 0, 12, 0, 4], [0, 0, 0, 5, 0, 35, 0, 21, 0, 3], [0, 0, 1, 0, 1, 0, 4, 0, 20, 0, 5], [0, 3, 0, 15, 0, 35, 0, 63, 0, 99, 0, 11], [0, 0, 2, 0, 2, 0, 2, 0, 2, 0, 2, 0, 2]]]
def fcD (l s j : Int) : Int := ((fcDL.getD l.toNat []).getD s.toNat []).getD j.toNat 0
theorem fine_cases {P : Int → Int → Int → Prop} {l s j : Int} (h : FineP l s j) (h0_1_1 : P 0 1 1) (h0_2_2 : P 0 2 2) (h0_3_3 : P 0 3 3) (h0_4_4 : P 0 4 4) (h0_5_5 : P 0 5 5) (h0_6_6 : P 0 6 6) (h2_0_2 : P 2 0 2) (h2_1_1 : P 2 1 1) (h2_1_3 : P 2 1 3) (h2_2_2 : P 2 2 2) (h2_2_4 : P 2 2 4) (h2_3_1 : P 2 3 1) (h2_3_3 : P 2 3 3) (h2_3_5 : P 2 3 5) (h2_4_2 : P 2 4 2) (h2_4_4 : P 2 4 4) (h2_4_6 : P 2 4 6) (h2_5_3 : P 2 5 3) (h2_5_5 : P 2 5 5) (h2_5_7 : P 2 5 7) (h2_6_4 : P 2 6 4) (h2_6_6 : P 2 6 6) (h2_6_8 : P 2 6 8) (h4_0_4 : P 4 0 4) (h4_1_3 : P 4 1 3) (h4_1_5 : P 4 1 5) (h4_2_2 : P 4 2 2) (h4_2_4 : P 4 2 4) (h4_2_6 : P 4 2 6) (h4_3_1 : P 4 3 1) (h4_3_3 : P 4 3 3) (h4_3_5 : P 4 3 5) (h4_3_7 : P 4 3 7) (h4_4_2 : P 4 4 2) (h4_4_4 : P 4 4 4) (h4_4_6 : P 4 4 6) (h4_4_8 : P 4 4 8) (h4_5_1 : P 4 5 1) (h4_5_3 : P 4 5 3) (h4_5_5 : P 4 5 5) (h4_5_7 : P 4 5 7) (h4_5_9 : P 4 5 9) (h4_6_2 : P 4 6 2) (h4_6_4 : P 4 6 4) (h4_6_6 : P 4 6 6) (h4_6_8 : P 4 6 8) (h4_6_10 : P 4 6 10) (h6_0_6 : P 6 0 6) (h6_1_5 : P 6 1 5) (h6_1_7 : P 6 1 7) (h6_2_4 : P 6 2 4) (h6_2_6 : P 6 2 6) (h6_2_8 : P 6 2 8) (h6_3_3 : P 6 3 3) (h6_3_5 : P 6 3 5) (h6_3_7 : P 6 3 7) (h6_3_9 : P 6 3 9) (h6_4_2 : P 6 4 2) (h6_4_4 : P 6 4 4) (h6_4_6 : P 6 4 6) (h6_4_8 : P 6 4 8) (h6_4_10 : P 6 4 10) (h6_5_1 : P 6 5 1) (h6_5_3 : P 6 5 3) (h6_5_5 : P 6 5 5) (h6_5_7 : P 6 5 7) (h6_5_9 : P 6 5 9) (h6_5_11 : P 6 5 11) (h6_6_2 : P 6 6 2) (h6_6_4 : P 6 6 4) (h6_6_6 : P 6 6 6) (h6_6_8 : P 6 6 8) (h6_6_10 : P 6 6 10) (h6_6_12 : P 6 6 12) : P l s j := by
  unfold FineP at h
  have hl : l = 0 ∨ l = 2 ∨ l = 4 ∨ l = 6 := by omega
  have hs : s = 0 ∨ s = 1 ∨ s = 2 ∨ s = 3 ∨ s = 4 ∨ s = 5 ∨ s = 6 := by omega
  rcases hl with rfl | rfl | rfl | rfl
  · rcases hs with rfl | rfl | rfl | rfl | rfl | rfl | rfl
    · omega
    · obtain rfl : j = 1 := by omega
      exact h0_1_1
    · obtain rfl : j = 2 := by omega
      exact h0_2_2
    · obtain rfl : j = 3 := by omega
      exact h0_3_3
    · obtain rfl : j = 4 := by omega
      exact h0_4_4
    · obtain rfl : j = 5 := by omega
      exact h0_5_5
    · obtain rfl : j = 6 := by omega
      exact h0_6_6
  · rcases hs with rfl | rfl | rfl | rfl | rfl | rfl | rfl
    · obtain rfl : j = 2 := by omega
      exact h2_0_2
    · have hj : j = 1 ∨ j = 3 := by omega
      rcases hj with rfl | rfl
      · exact h2_1_1
      · exact h2_1_3
    · have hj : j = 2 ∨ j = 4 := by omega
      rcases hj with rfl | rfl
      · exact h2_2_2
      · exact h2_2_4
    · have hj : j = 1 ∨ j = 3 ∨ j = 5 := by omega
      rcases hj with rfl | rfl | rfl
      · exact h2_3_1
      · exact h2_3_3
      · exact h2_3_5
    · have hj : j = 2 ∨ j = 4 ∨ j = 6 := by omega
      rcases hj with rfl | rfl | rfl
      · exact h2_4_2
      · exact h2_4_4
      · exact h2_4_6
    · have hj : j = 3 ∨ j = 5 ∨ j = 7 := by omega
      rcases hj with rfl | rfl | rfl
      · exact h2_5_3
      · exact h2_5_5
      · exact h2_5_7
    · have hj : j = 4 ∨ j = 6 ∨ j = 8 := by omega
      rcases hj with rfl | rfl | rfl
      · exact h2_6_4
      · exact h2_6_6
      · exact h2_6_8
  · rcases hs with rfl | rfl | rfl | rfl | rfl | rfl | rfl
    · obtain rfl : j = 4 := by omega
      exact h4_0_4
    · have hj : j = 3 ∨ j = 5 := by omega
      rcases hj with rfl | rfl
      · exact h4_1_3
      · exact h4_1_5
    · have hj : j = 2 ∨ j = 4 ∨ j = 6 := by omega
      rcases hj with rfl | rfl | rfl
      · exact h4_2_2
      · exact h4_2_4
      · exact h4_2_6
    · have hj : j = 1 ∨ j = 3 ∨ j = 5 ∨ j = 7 := by omega
      rcases hj with rfl | rfl | rfl | rfl
      · exact h4_3_1
      · exact h4_3_3
      · exact h4_3_5
      · exact h4_3_7
    · have hj : j = 2 ∨ j = 4 ∨ j = 6 ∨ j = 8 := by omega
      rcases hj with rfl | rfl | rfl | rfl
      · exact h4_4_2
      · exact h4_4_4
      · exact h4_4_6
      · exact h4_4_8
    · have hj : j = 1 ∨ j = 3 ∨ j = 5 ∨ j = 7 ∨ j = 9 := by omega
      rcases hj with rfl | rfl | rfl | rfl | rfl
      · exact h4_5_1
      · exact h4_5_3
      · exact h4_5_5
      · exact h4_5_7
      · exact h4_5_9
    · have hj : j = 2 ∨ j = 4 ∨ j = 6 ∨ j = 8 ∨ j = 10 := by omega
      rcases hj with rfl | rfl | rfl | rfl | rfl
      · exact h4_6_2
      · exact h4_6_4
      · exact h4_6_6
      · exact h4_6_8
      · exact h4_6_10
  · rcases hs with rfl | rfl | rfl | rfl | rfl | rfl | rfl
    · obtain rfl : j = 6 := by omega
      exact h6_0_6
    · have hj : j = 5 ∨ j = 7 := by omega
      rcases hj with rfl | rfl
      · exact h6_1_5
      · exact h6_1_7
    · have hj : j = 4 ∨ j = 6 ∨ j = 8 := by omega
      rcases hj with rfl | rfl | rfl
      · exact h6_2_4
      · exact h6_2_6
      · exact h6_2_8
    · have hj : j = 3 ∨ j = 5 ∨ j = 7 ∨ j = 9 := by omega
      rcases hj with rfl | rfl | rfl | rfl
      · exact h6_3_3
      · exact h6_3_5
      · exact h6_3_7
      · exact h6_3_9
    · have hj : j = 2 ∨ j = 4 ∨ j = 6 ∨ j = 8 ∨ j = 10 := by omega
      rcases hj with rfl | rfl | rfl | rfl | rfl
      · exact h6_4_2
      · exact h6_4_4
      · exact h6_4_6
      · exact h6_4_8
      · exact h6_4_10
    · have hj : j = 1 ∨ j = 3 ∨ j = 5 ∨ j = 7 ∨ j = 9 ∨ j = 11 := by omega
      rcases hj with rfl | rfl | rfl | rfl | rfl | rfl
      · exact h6_5_1
      · exact h6_5_3
      · exact h6_5_5
      · exact h6_5_7
      · exact h6_5_9
      · exact h6_5_11
    · have hj : j = 2 ∨ j = 4 ∨ j = 6 ∨ j = 8 ∨ j = 10 ∨ j = 12 := by omega
      rcases hj with rfl | rfl | rfl | rfl | rfl | rfl
      · exact h6_6_2
      · exact h6_6_4
      · exact h6_6_6
      · exact h6_6_8
      · exact h6_6_10
      · exact h6_6_12
def g3F (p : Int → Int → Int → Bool) : GT := fun vs h => match vs, h with | [.int .i64 l, .int .i64 s, .int .i64 j], [] => .ite (p l s j) .no (.ret (.bool false) []) | _, _ => .no
theorem f3F {f : FuncId} {p : Int → Int → Int → Bool} {g : GT} (h : FnT Try.prog f g) (hg : ∀ l s j, (g [.int .i64 l, .int .i64 s, .int .i64 j] []).run = some (.bool (p l s j), [])) : FnT Try.prog f (g3F p) := fun vs hp v h' e => h vs hp v h' (by
  unfold g3F at e
  split at e
  · rename_i l s j
    rw [hg, ← e]
    cases hs : p l s j
    · rfl
    · rw [hs] at e
      exact (T.no_inv e).elim
  · exact (T.no_inv e).elim)
def an_com : Ann := ⟨fun r => if r = 1 then some ([0, 1], [0]) else none, fun _ _ => .quiet⟩
def tab_com : Fns := tabT []
theorem tabok_com : ∀ f, FnT Try.prog f (tab_com f) := tabT_nil
def st_com1 (a0 : Int) (b1 : Int) : St := ⟨[.int .i64 a0, .int .i64 b1, .any, .any, .any, .any, .any, .any, .any, .any, .any, .any, .any, .any], []⟩
abbrev kp_com1 : Option (List Nat × List Nat) := some ([0, 1], [0])
noncomputable def lp_com1 {R : Type} (N M : Nat) (s : St) (K : X → St → Option R) : Option R := loopH 0 kp_com1 (fun st K => exec ty tab_com an_com N 0 (atOf [true, false, false, false] Try.f145) st K) M s K
noncomputable def bk_com1 {R : Type} (N M : Nat) (K : X → St → Option R) : X → St → Option R := fun x st => match x with | .norm => tidyK 0 (kp_com1.map (·.1)) st fun st => lp_com1 N M st K | x => tidyK 0 (kp_com1.map (·.2)) st fun st => K x st
noncomputable def kt_com1 {R : Type} (N : Nat) (K : X → St → Option R) : X → St → Option R := kBlkR 0 (kSeqR tab_com an_com N 0 (atOf [true, true] Try.f145) (K))
def en_com1_0 (a0 : Int) : St := ⟨[.int .i64 a0, .any, .any, .any, .any, .any, .any, .any, .any, .any, .any, .any, .any, .any], []⟩
theorem run_com (N : Nat) (a : Int) (b : Int) : run ty tab_com an_com N Try.f145 [.int .i64 a, .int .i64 b] []
    = lp_com1 N N (st_com1 a b) (kt_com1 N (kEnd Try.f145 0)) := by
  kernel_rfl
theorem step_com1 {R : Type} (N M : Nat) (K : X → St → Option R) (a0 : Int) (b1 : Int) : lp_com1 N (M + 1) (st_com1 a0 b1) K
    = (match b1 != 0 with
  | true => (match decide (b1 = 0) with
    | true => none
    | false => lp_com1 N M (st_com1 b1 (Int.tmod a0 b1)) K)
  | false => K (.exit 0) (en_com1_0 a0)) := by
  kernel_rfl
theorem end_com1_0 (N : Nat) (a0 : Int) : kt_com1 N (kEnd Try.f145 0) (.exit 0) (en_com1_0 a0)
    = some (.int .i64 a0, []) := by
  kernel_rfl

def gCom : GT := fun vs h => match vs, h with
  | [.int .i64 a, .int .i64 b], [] => .ite (decide (0 ≤ a ∧ 0 ≤ b)) (.ret (.int .i64 ((Nat.gcd a.toNat b.toNat : Nat) : Int)) []) .no
  | _, _ => .no
theorem ok_com : FnT Try.prog 145 gCom := by
  refine fnT tabok_com Try.func145 rfl rfl an_com fun vs h v h' e => ?_
  unfold gCom at e
  split at e
  case h_2 => exact (T.no_inv e).elim
  rename_i a b
  obtain ⟨hd, e⟩ := T.pre_inv e
  obtain ⟨rfl, rfl⟩ := T.ret_inv e
  obtain ⟨ha, hb⟩ := of_decide_eq_true hd
  obtain ⟨a, rfl⟩ : ∃ m : Nat, a = (m : Int) := ⟨a.toNat, by omega⟩
  obtain ⟨b, rfl⟩ : ∃ m : Nat, b = (m : Int) := ⟨b.toNat, by omega⟩
  rw [Int.toNat_natCast, Int.toNat_natCast]
  refine ⟨b + 1, Eq.trans (run_com (b + 1) _ _) ?_⟩
  refine loop_fuel (fun M (p : Nat × Nat) => lp_com1 (b + 1) M (st_com1 (p.1 : Int) (p.2 : Int)) (kt_com1 (b + 1) (kEnd Try.f145 0))) (fun p => Nat.gcd p.1 p.2 = Nat.gcd a b) (fun p => p.2) (fun o => o = _) (fun M p hs => ?_) (s := (a, b)) rfl (Nat.lt_succ_self b)
  obtain ⟨x, y⟩ := p
  dsimp only at hs ⊢
  rcases Nat.eq_zero_or_pos y with h1 | h1
  · left
    subst h1
    rw [Nat.gcd_zero_right] at hs
    subst hs
    have e0 : ((((0 : Nat) : Int)) != 0) = false := rfl
    simp only [step_com1, e0, end_com1_0]
  · right
    refine ⟨(y, x % y), ?_, Nat.mod_lt _ h1, ?_⟩
    · dsimp only
      rw [← hs, Nat.gcd_comm x y, Nat.gcd_rec y x, Nat.gcd_comm]
    · have e0 : ((y : Int) != 0) = true := by simp; omega
      have e1 : decide ((y : Int) = 0) = false := decide_eq_false (by omega)
      have e2 : Int.tmod (x : Int) (y : Int) = ((x % y : Nat) : Int) := rfl
      simp only [step_com1, e0, e1, e2]
end Go.Proofs.Ytbhfjdlhhjeknaa.Ab.Fc
