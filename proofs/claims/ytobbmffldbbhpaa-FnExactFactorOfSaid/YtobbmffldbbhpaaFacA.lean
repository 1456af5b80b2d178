/- FactorOf: contracts. Only lemmas. Printed by gen_factor.py. -/
import Derived.Test.YtobbmffldbbhpaaLib
namespace Go.Proofs.Ytobbmffldbbhpaa.Ab
set_option linter.unusedVariables false
set_option linter.unusedSimpArgs false
open Go
theorem inB_iff {n lo hi : Int} : inB n lo hi = true ↔ lo ≤ n ∧ n ≤ hi := by
  simp only [inB, Bool.and_eq_true, decide_eq_true_eq, ge_iff_le]
def gapI (a b : Int) : Int := if a > b then IntKind.i64.wrap (a - b) else IntKind.i64.wrap (b - a)
def gGap : G := fun vs h => match vs, h with | [.int .i64 a, .int .i64 b], [] => some (.int .i64 (gapI a b), []) | _, _ => none
def totS (l s j : Int) : Bool := inB j (gapI l s) (IntKind.i64.wrap (l + s)) && (Int.tmod (IntKind.i64.wrap ((IntKind.i64.wrap (l + s)) - j)) 2 == 0)
def gTotS : G := fun vs h => match vs, h with | [.int .i64 l, .int .i64 s, .int .i64 j], [] => some (.bool (totS l s j), []) | _, _ => none
def fineS (l s j : Int) : Bool := inB l 0 6 && (inB s 0 6 && ((Int.tmod l 2 == 0) && (totS l s j && decide (j > 0))))
def gFinS : G := fun vs h => match vs, h with | [.int .i64 l, .int .i64 s, .int .i64 j], [] => some (.bool (fineS l s j), []) | _, _ => none
def totI (l s j : Int) : Bool := decide (j ≥ (if (IntKind.i64.wrap (s - l)) > (IntKind.i64.wrap (l - s)) then IntKind.i64.wrap (s - l) else IntKind.i64.wrap (l - s))) && (decide (j ≤ (IntKind.i64.wrap (l + s))) && ((Int.tmod (IntKind.i64.wrap ((IntKind.i64.wrap (l + s)) - j)) 2) == 0))
def gTotI : G := fun vs h => match vs, h with | [.int .i64 l, .int .i64 s, .int .i64 j], [] => some (.bool (totI l s j), []) | _, _ => none
def fineI (l s j : Int) : Bool := inB l 0 6 && (inB s 0 6 && (!(Int.tmod l 2 != 0) && (!(j == 0) && totI l s j)))
def gIs6 : G := fun vs h => match vs, h with | [.int .i64 a], [] => some (.bool (inB a 0 6), []) | _, _ => none
def gNo6 : G := fun vs h => match vs, h with | [.int .i64 a], [] => some (.bool (!inB a 0 6), []) | _, _ => none

def tab_l03Gap : Fns := tabT []
theorem tabok_l03Gap : ∀ f, FnT Try.prog f (tab_l03Gap f) := tabT_nil
theorem run_l03Gap (N : Nat) (a : Int) (b : Int) : run ty tab_l03Gap ann0 N Try.f121 [.int .i64 a, .int .i64 b] []
    = (match decide ((a : Int) > b) with
  | true => some (.int .i64 (IntKind.i64.wrap (a - b)), [])
  | false => some (.int .i64 (IntKind.i64.wrap (b - a)), [])) := by
  kernel_rfl

theorem ok_l03Gap : FnT Try.prog 121 (gT gGap) := by
  refine fnT tabok_l03Gap Try.func121 rfl rfl ann0 fun vs h v h' e => ⟨0, ?_⟩
  rw [T.run_of] at e
  unfold gGap at e
  split at e
  case h_2 => cases e
  rename_i a b
  cases e
  refine Eq.trans (run_l03Gap 0 a b) ?_
  unfold gapI
  by_cases h : a > b
  · rw [decide_eq_true h, if_pos h]
  · rw [decide_eq_false h, if_neg h]
def tab_l03Is : Fns := tabT [(84, gT gIn)]
theorem tabok_l03Is : ∀ f, FnT Try.prog f (tab_l03Is f) := (tabT_cons (k := 84) ok_l00In tabT_nil)
theorem run_l03Is (N : Nat) (a : Int) : run ty tab_l03Is ann0 N Try.f149 [.int .i64 a] []
    = some (.bool (inB a 0 6), []) := by
  kernel_rfl

theorem ok_l03Is : FnT Try.prog 149 (gT gIs6) := by
  refine fnT tabok_l03Is Try.func149 rfl rfl ann0 fun vs h v h' e => ⟨0, ?_⟩
  rw [T.run_of] at e
  unfold gIs6 at e
  split at e
  case h_2 => cases e
  rename_i a
  cases e
  refine Eq.trans (run_l03Is 0 a) ?_
  rfl
def tab_l03Total : Fns := tabT [(121, gT gGap), (84, gT gIn)]
theorem tabok_l03Total : ∀ f, FnT Try.prog f (tab_l03Total f) := (tabT_cons (k := 121) ok_l03Gap (tabT_cons (k := 84) ok_l00In tabT_nil))
theorem run_l03Total (N : Nat) (l : Int) (s : Int) (j : Int) : run ty tab_l03Total ann0 N Try.f150 [.int .i64 l, .int .i64 s, .int .i64 j] []
    = (match inB j (gapI l s) (IntKind.i64.wrap (l + s)) with
  | true => some (.bool ((Int.tmod (IntKind.i64.wrap ((IntKind.i64.wrap (l + s)) - j)) 2) == 0), [])
  | false => some (.bool false, [])) := by
  kernel_rfl

theorem ok_l03Total : FnT Try.prog 150 (gT gTotS) := by
  refine fnT tabok_l03Total Try.func150 rfl rfl ann0 fun vs h v h' e => ⟨0, ?_⟩
  rw [T.run_of] at e
  unfold gTotS at e
  split at e
  case h_2 => cases e
  rename_i l s j
  cases e
  refine Eq.trans (run_l03Total 0 l s j) ?_
  unfold totS
  cases inB j (gapI l s) (IntKind.i64.wrap (l + s)) <;> rfl
def tab_l03Fine : Fns := tabT [(149, gT gIs6), (150, gT gTotS)]
theorem tabok_l03Fine : ∀ f, FnT Try.prog f (tab_l03Fine f) := (tabT_cons (k := 149) ok_l03Is (tabT_cons (k := 150) ok_l03Total tabT_nil))
theorem run_l03Fine (N : Nat) (l : Int) (s : Int) (j : Int) : run ty tab_l03Fine ann0 N Try.f104 [.int .i64 l, .int .i64 s, .int .i64 j] []
    = (match inB l 0 6 with
  | true => (match inB s 0 6 with
    | true => (match (Int.tmod l 2) == 0 with
      | true => (match totS l s j with
        | true => some (.bool (decide ((j : Int) > 0)), [])
        | false => some (.bool false, []))
      | false => some (.bool false, []))
    | false => some (.bool false, []))
  | false => some (.bool false, [])) := by
  kernel_rfl

theorem ok_l03Fine : FnT Try.prog 104 (gT gFinS) := by
  refine fnT tabok_l03Fine Try.func104 rfl rfl ann0 fun vs h v h' e => ⟨0, ?_⟩
  rw [T.run_of] at e
  unfold gFinS at e
  split at e
  case h_2 => cases e
  rename_i l s j
  cases e
  refine Eq.trans (run_l03Fine 0 l s j) ?_
  unfold fineS
  cases inB l 0 6 <;> cases inB s 0 6 <;> cases (Int.tmod l 2 == 0) <;> cases totS l s j <;> rfl
def tab_isTotal : Fns := tabT []
theorem tabok_isTotal : ∀ f, FnT Try.prog f (tab_isTotal f) := tabT_nil
theorem run_isTotal (N : Nat) (l : Int) (s : Int) (j : Int) : run ty tab_isTotal ann0 N Try.f107 [.int .i64 l, .int .i64 s, .int .i64 j] []
    = (match decide ((j : Int) ≥ (if (IntKind.i64.wrap (s - l)) > (IntKind.i64.wrap (l - s)) then IntKind.i64.wrap (s - l) else IntKind.i64.wrap (l - s))) with
  | true => (match decide ((j : Int) ≤ (IntKind.i64.wrap (l + s))) with
    | true => some (.bool ((Int.tmod (IntKind.i64.wrap ((IntKind.i64.wrap (l + s)) - j)) 2) == 0), [])
    | false => some (.bool false, []))
  | false => some (.bool false, [])) := by
  kernel_rfl

theorem ok_isTotal : FnT Try.prog 107 (gT gTotI) := by
  refine fnT tabok_isTotal Try.func107 rfl rfl ann0 fun vs h v h' e => ⟨0, ?_⟩
  rw [T.run_of] at e
  unfold gTotI at e
  split at e
  case h_2 => cases e
  rename_i l s j
  cases e
  refine Eq.trans (run_isTotal 0 l s j) ?_
  unfold totI
  cases decide (j ≥ (if (IntKind.i64.wrap (s - l)) > (IntKind.i64.wrap (l - s)) then IntKind.i64.wrap (s - l) else IntKind.i64.wrap (l - s))) <;> cases decide (j ≤ (IntKind.i64.wrap (l + s))) <;> rfl
def tab_areT1 : Fns := tabT [(79, gT gIn)]
theorem tabok_areT1 : ∀ f, FnT Try.prog f (tab_areT1 f) := (tabT_cons (k := 79) ok_within tabT_nil)
theorem run_areT1 (N : Nat) (a : Int) : run ty tab_areT1 ann0 N Try.f153 [.int .i64 a] []
    = some (.bool (!(inB a 0 6)), []) := by
  kernel_rfl

theorem ok_areT1 : FnT Try.prog 153 (gT gNo6) := by
  refine fnT tabok_areT1 Try.func153 rfl rfl ann0 fun vs h v h' e => ⟨0, ?_⟩
  rw [T.run_of] at e
  unfold gNo6 at e
  split at e
  case h_2 => cases e
  rename_i a
  cases e
  refine Eq.trans (run_areT1 0 a) ?_
  rfl
def gTwX : GT := fun vs h => match vs, h with | [.sl 0 0 2, .fn f'], [.at rw (.int .i64 [l, s])] => if f' = 153 then .ite (!inB l 0 6) (.ret (.int .i64 0) [.at rw (.int .i64 [l, s])]) (.ite (!inB s 0 6) (.ret (.int .i64 1) [.at rw (.int .i64 [l, s])]) (.ret (.int .i64 (-1)) [.at rw (.int .i64 [l, s])])) else .no | _, _ => .no
def gTwC : GT := fun vs h => match vs, h with | [.sl 0 0 2, .fn f'], [.at rw (.int .i64 [l, s])] => if f' = 153 then .ite (!inB l 0 6) (.ret (.bool true) [.at rw (.int .i64 [l, s])]) (.ite (!inB s 0 6) (.ret (.bool true) [.at rw (.int .i64 [l, s])]) (.ret (.bool false) [.at rw (.int .i64 [l, s])])) else .no | _, _ => .no
def gTwA : GT := fun vs h => match vs, h with | [.sl 0 0 2], [.at rw (.int .i64 [l, s])] => .ite (!inB l 0 6) (.ret (.bool false) [.at rw (.int .i64 [l, s])]) (.ite (!inB s 0 6) (.ret (.bool false) [.at rw (.int .i64 [l, s])]) (.ret (.bool true) [.at rw (.int .i64 [l, s])])) | _, _ => .no
def tab_twX : Fns := tabT [(153, gT gNo6)]
theorem tabok_twX : ∀ f, FnT Try.prog f (tab_twX f) := (tabT_cons (k := 153) ok_areT1 tabT_nil)
theorem run_twX (N : Nat) (rw : Bool) (l : Int) (s : Int) : run ty tab_twX ann0 (N + 4) Try.f177 [.sl 0 0 2, .fn 153] [.at rw (.int .i64 [l, s])]
    = (match !(inB l 0 6) with
  | true => some (.int .i64 0, [.at rw (.int .i64 [l, s])])
  | false => (match !(inB s 0 6) with
    | true => some (.int .i64 1, [.at rw (.int .i64 [l, s])])
    | false => some (.int .i64 (-1), [.at rw (.int .i64 [l, s])]))) := by
  kernel_rfl

theorem ok_twX : FnT Try.prog 177 gTwX := by
  refine fnT tabok_twX Try.func177 rfl rfl ann0 fun vs h v h' e => ⟨0 + 4, ?_⟩
  unfold gTwX at e
  split at e
  · rename_i f1 rw l s
    split at e
    · rename_i hf
      subst hf
      refine Eq.trans (run_twX 0 _ _ _) (Eq.trans ?_ e)
      cases inB l 0 6 <;> cases inB s 0 6 <;> rfl
    · exact (T.no_inv e).elim
  · exact (T.no_inv e).elim
def tab_twC : Fns := tabT [(177, gTwX)]
theorem tabok_twC : ∀ f, FnT Try.prog f (tab_twC f) := (tabT_cons (k := 177) ok_twX tabT_nil)
theorem run_twC (N : Nat) (rw : Bool) (l : Int) (s : Int) : run ty tab_twC ann0 (N + 4) Try.f152 [.sl 0 0 2, .fn 153] [.at rw (.int .i64 [l, s])]
    = (match !inB l 0 6 with
  | true => some (.bool true, [.at rw (.int .i64 [l, s])])
  | false => (match !inB s 0 6 with
    | true => some (.bool true, [.at rw (.int .i64 [l, s])])
    | false => some (.bool false, [.at rw (.int .i64 [l, s])]))) := by
  kernel_rfl

theorem ok_twC : FnT Try.prog 152 gTwC := by
  refine fnT tabok_twC Try.func152 rfl rfl ann0 fun vs h v h' e => ⟨0 + 4, ?_⟩
  unfold gTwC at e
  split at e
  · rename_i f1 rw l s
    split at e
    · rename_i hf
      subst hf
      refine Eq.trans (run_twC 0 _ _ _) (Eq.trans ?_ e)
      cases inB l 0 6 <;> cases inB s 0 6 <;> rfl
    · exact (T.no_inv e).elim
  · exact (T.no_inv e).elim
def tab_twA : Fns := tabT [(152, gTwC)]
theorem tabok_twA : ∀ f, FnT Try.prog f (tab_twA f) := (tabT_cons (k := 152) ok_twC tabT_nil)
theorem run_twA (N : Nat) (rw : Bool) (l : Int) (s : Int) : run ty tab_twA ann0 (N + 4) Try.f106 [.sl 0 0 2] [.at rw (.int .i64 [l, s])]
    = (match !inB l 0 6 with
  | true => some (.bool false, [.at rw (.int .i64 [l, s])])
  | false => (match !inB s 0 6 with
    | true => some (.bool false, [.at rw (.int .i64 [l, s])])
    | false => some (.bool true, [.at rw (.int .i64 [l, s])]))) := by
  kernel_rfl

theorem ok_twA : FnT Try.prog 106 gTwA := by
  refine fnT tabok_twA Try.func106 rfl rfl ann0 fun vs h v h' e => ⟨0 + 4, ?_⟩
  unfold gTwA at e
  split at e
  · rename_i rw l s
    refine Eq.trans (run_twA 0 _ _ _) (Eq.trans ?_ e)
    cases inB l 0 6 <;> cases inB s 0 6 <;> rfl
  · exact (T.no_inv e).elim
def tri (u d : Int) (b : Bool) : V := .tup [.a (.int .i64 u), .a (.int .i64 d), .a (.bool b)]
theorem tmod2 {x : Int} (h : 0 ≤ x) : Int.tmod x 2 = x % 2 := Int.tmod_eq_emod_of_nonneg h
def FineP (l s j : Int) : Prop := (0 ≤ l ∧ l ≤ 6) ∧ (0 ≤ s ∧ s ≤ 6) ∧ l % 2 = 0 ∧ l - s ≤ j ∧ s - l ≤ j ∧ j ≤ l + s ∧ (l + s - j) % 2 = 0 ∧ j ≠ 0
theorem fineS_iff {l s j : Int} : fineS l s j = true ↔ FineP l s j := by
  unfold fineS FineP
  simp only [Bool.and_eq_true, inB_iff, beq_iff_eq, decide_eq_true_eq]
  refine and_congr_right fun hl => and_congr_right fun hs => ?_
  rw [tmod2 hl.1]
  refine and_congr_right fun hp => ?_
  unfold totS
  rw [wrap_s (n := l + s) (by omega) (by omega)]
  simp only [Bool.and_eq_true, inB_iff, beq_iff_eq]
  have hg : gapI l s = if l > s then l - s else s - l := by
    unfold gapI
    split
    · rw [wrap_s (by omega) (by omega)]
    · rw [wrap_s (by omega) (by omega)]
  rw [hg]
  constructor
  · rintro ⟨⟨⟨h1, h2⟩, h3⟩, h4⟩
    have h5 : l - s ≤ j ∧ s - l ≤ j := by split at h1 <;> omega
    rw [wrap_s (n := l + s - j) (by omega) (by omega), tmod2 (by omega)] at h3
    omega
  · rintro ⟨h1, h2, h3, h4, h5⟩
    rw [wrap_s (n := l + s - j) (by omega) (by omega), tmod2 (by omega)]
    refine ⟨⟨⟨?_, h3⟩, h4⟩, by omega⟩
    split <;> omega
theorem wrap_n {n : Int} (h : -1000 ≤ n) (h2 : n ≤ 1000) : IntKind.i64.wrap n = n := wrap_z (by omega) (by omega)
theorem fineI_iff {l s j : Int} : fineI l s j = true ↔ FineP l s j := by
  unfold fineI FineP
  simp only [Bool.and_eq_true, inB_iff, beq_iff_eq, bne, Bool.not_not, Bool.not_eq_true', beq_eq_false_iff_ne]
  refine and_congr_right fun hl => and_congr_right fun hs => ?_
  rw [tmod2 hl.1]
  refine and_congr_right fun hp => ?_
  unfold totI
  rw [wrap_s (n := l + s) (by omega) (by omega), wrap_n (n := s - l) (by omega) (by omega), wrap_n (n := l - s) (by omega) (by omega)]
  simp only [Bool.and_eq_true, beq_iff_eq, decide_eq_true_eq]
  constructor
  · rintro ⟨h4, h1, h2, h3⟩
    have h5 : l - s ≤ j ∧ s - l ≤ j := by split at h1 <;> omega
    rw [wrap_s (n := l + s - j) (by omega) (by omega), tmod2 (by omega)] at h3
    omega
  · rintro ⟨h1, h2, h3, h4, h5⟩
    rw [wrap_s (n := l + s - j) (by omega) (by omega), tmod2 (by omega)]
    refine ⟨h5, ?_, h3, h4⟩
    split <;> omega
theorem fineSI (l s j : Int) : fineI l s j = fineS l s j := Bool.eq_iff_iff.mpr (fineI_iff.trans fineS_iff.symm)

def fcUL : List (List (List Int)) := [[[0], [0, 2], [0, 0, 2], [0, 0, 0, 2], [0, 0, 0, 0, 2], [0, 0, 0, 0, 0, 2], [0, 0, 0, 0, 0, 0, 2]], [[0, 0], [0, 0, 0], [0, 0, 0, 0], [0, 0, 0, 0, 0], [0, 0, 0, 0, 0, 0], [0, 0, 0, 0, 0, 0, 0], [0, 0, 0, 0, 0, 0, 0, 0]], [[0, 0, 1], [0, 2, 0, 4], [0, 0, 3, 0, 3], [0, 8, 0, 26, 0, 8], [0, 0, 5, 0, 11, 0, 5], [0, 0, 0, 12, 0, 66, 0, 12], [0, 0, 0, 0, 7, 0, 23, 0, 7]], [[0, 0, 0, 0], [0, 0, 0, 0, 0], [0, 0, 0, 0, 0, 0], [0, 0, 0, 0, 0, 0, 0], [0, 0, 0, 0, 0, 0, 0, 0], [0, 0, 0, 0, 0, 0, 0, 0, 0], [0, 0, 0, 0, 0, 0, 0, 0, 0, 0]], [[0, 0, 0, 0, 1], [0, 0, 0, 4, 0, 6], [0, 0, 1, 0, 7, 0, 4], [0, 0, 0, 6, 0, 48, 0, 10], [0, 0, 3, 0, 3, 0, 3, 0, 3], [0, 10, 0, 28, 0, 58, 0, 100, 0, 14], [0, 0, 3, 0, 2, 0, 7, 0, 33, 0, 8]], [[0, 0, 0, 0, 0, 0], [0, 0, 0, 0, 0, 0, 0], [0, 0, 0, 0, 0, 0, 0, 0], [0, 0, 0, 0, 0, 0, 0, 0, 0], [0, 0, 0, 0, 0, 0, 0, 0, 0, 0], [0, 0, 0, 0, 0, 0, 0, 0, 0, 0, 0], [0, 0, 0, 0, 0, 0, 0, 0, 0, 0, 0, 0]], [[0, 0, 0, 0, 0, 0, 1], [0, 0, 0, 0, 0, 6, 0, 8], [0, 0, 0, 0, 2, 0, 13, 0, 5], [0, 0, 0, 2, 0, 36, 0, 26, 0, 4], [0, 0, 0, 0, 1, 0, 5, 0, 27, 0, 7], [0, -2, 0, 16, 0, 46, 0, 88, 0, 142, 0, 16], [0, 0, 3, 0, 3, 0, 3, 0, 3, 0, 3, 0, 3]]]
def fcU (l s j : Int) : Int := ((fcUL.getD l.toNat []).getD s.toNat []).getD j.toNat 0
def fcDL : List (List (List Int)) := [[[0], [0, 1], [0, 0, 1], [0, 0, 0, 1], [0, 0, 0, 0, 1], [0, 0, 0, 0, 0, 1], [0, 0, 0, 0, 0, 0, 1]], [[0, 0], [0, 0, 0], [0, 0, 0, 0], [0, 0, 0, 0, 0], [0, 0, 0, 0, 0, 0], [0, 0, 0, 0, 0, 0, 0], [0, 0, 0, 0, 0, 0, 0, 0]], [[0, 0, 1], [0, 3, 0, 3], [0, 0, 2, 0, 2], [0, 3, 0, 15, 0, 5], [0, 0, 2, 0, 6, 0, 3], [0, 0, 0, 5, 0, 35, 0, 7], [0, 0, 0, 0, 3, 0, 12, 0, 4]], [[0, 0, 0, 0], [0, 0, 0, 0, 0], [0, 0, 0, 0, 0, 0], [0, 0, 0, 0, 0, 0, 0], [0, 0, 0, 0, 0, 0, 0, 0], [0, 0, 0, 0, 0, 0, 0, 0, 0], [0, 0, 0, 0, 0, 0, 0, 0, 0, 0]], [[0, 0, 0, 0, 1], [0, 0, 0, 5, 0, 5], [0, 0, 2, 0, 6, 0, 3], [0, 1, 0, 5, 0, 35, 0, 7], [0, 0, 2, 0, 2, 0, 2, 0, 2], [0, 3, 0, 15, 0, 35, 0, 63, 0, 9], [0, 0, 1, 0, 1, 0, 4, 0, 20, 0, 5]], [[0, 0, 0, 0, 0, 0], [0, 0, 0, 0, 0, 0, 0], [0, 0, 0, 0, 0, 0, 0, 0], [0, 0, 0, 0, 0, 0, 0, 0, 0], [0, 0, 0, 0, 0, 0, 0, 0, 0, 0], [0, 0, 0, 0, 0, 0, 0, 0, 0, 0, 0], [0, 0, 0, 0, 0, 0, 0, 0, 0, 0, 0, 0]], [[0, 0, 0, 0, 0, 0, 1], [0, 0, 0, 0, 0, 7, 0, 7], [0, 0, 0, 0, 3, 0, 12, 0, 4], [0, 0, 0, 5, 0, 35, 0, 21, 0, 3], [0, 0, 1, 0, 1, 0, 4, 0, 20, 0, 5], [0, 3, 0, 15, 0, 35, 0, 63, 0, 99, 0, 11], [0, 0, 2, 0, 2, 0, 2, 0, 2, 0, 2, 0, 2]]]
def fcD (l s j : Int) : Int := ((fcDL.getD l.toNat []).getD s.toNat []).getD j.toNat 0
theorem fine_cases {P : Int → Int → Int → Prop} {l s j : Int} (h : FineP l s j) (h0_1_1 : P 0 1 1) (h0_2_2 : P 0 2 2) (h0_3_3 : P 0 3 3) (h0_4_4 : P 0 4 4) (h0_5_5 : P 0 5 5) (h0_6_6 : P 0 6 6) (h2_0_2 : P 2 0 2) (h2_1_1 : P 2 1 1) (h2_1_3 : P 2 1 3) (h2_2_2 : P 2 2 2) (h2_2_4 : P 2 2 4) (h2_3_1 : P 2 3 1) (h2_3_3 : P 2 3 3) (h2_3_5 : P 2 3 5) (h2_4_2 : P 2 4 2) (h2_4_4 : P 2 4 4) (h2_4_6 : P 2 4 6) (h2_5_3 : P 2 5 3) (h2_5_5 : P 2 5 5) (h2_5_7 : P 2 5 7) (h2_6_4 : P 2 6 4) (h2_6_6 : P 2 6 6) (h2_6_8 : P 2 6 8) (h4_0_4 : P 4 0 4) (h4_1_3 : P 4 1 3) (h4_1_5 : P 4 1 5) (h4_2_2 : P 4 2 2) (h4_2_4 : P 4 2 4) (h4_2_6 : P 4 2 6) (h4_3_1 : P 4 3 1) (h4_3_3 : P 4 3 3) (h4_3_5 : P 4 3 5) (h4_3_7 : P 4 3 7) (h4_4_2 : P 4 4 2) (h4_4_4 : P 4 4 4) (h4_4_6 : P 4 4 6) (h4_4_8 : P 4 4 8) (h4_5_1 : P 4 5 1) (h4_5_3 : P 4 5 3) (h4_5_5 : P 4 5 5) (h4_5_7 : P 4 5 7) (h4_5_9 : P 4 5 9) (h4_6_2 : P 4 6 2) (h4_6_4 : P 4 6 4) (h4_6_6 : P 4 6 6) (h4_6_8 : P 4 6 8) (h4_6_10 : P 4 6 10) (h6_0_6 : P 6 0 6) (h6_1_5 : P 6 1 5) (h6_1_7 : P 6 1 7) (h6_2_4 : P 6 2 4) (h6_2_6 : P 6 2 6) (h6_2_8 : P 6 2 8) (h6_3_3 : P 6 3 3) (h6_3_5 : P 6 3 5) (h6_3_7 : P 6 3 7) (h6_3_9 : P 6 3 9) (h6_4_2 : P 6 4 2) (h6_4_4 : P 6 4 4) (h6_4_6 : P 6 4 6) (h6_4_8 : P 6 4 8) (h6_4_10 : P 6 4 10) (h6_5_1 : P 6 5 1) (h6_5_3 : P 6 5 3) (h6_5_5 : P 6 5 5) (h6_5_7 : P 6 5 7) (h6_5_9 : P 6 5 9) (h6_5_11 : P 6 5 11) (h6_6_2 : P 6 6 2) (h6_6_4 : P 6 6 4) (h6_6_6 : P 6 6 6) (h6_6_8 : P 6 6 8) (h6_6_10 : P 6 6 10) (h6_6_12 : P 6 6 12) : P l s j := by
  unfold FineP at h
  have hl : l = 0 ∨ l = 2 ∨ l = 4 ∨ l = 6 := by omega
  have hs : s = 0 ∨ s = 1 ∨ s = 2 ∨ s = 3 ∨ s = 4 ∨ s = 5 ∨ s = 6 := by omega
  rcases hl with rfl | rfl | rfl | rfl
  · rcases hs with rfl | rfl | rfl | rfl | rfl | rfl | rfl
    · omega
    · obtain rfl : j = 1 := by omega
      exact h0_1_1
    · obtain rfl : j = 2 := by omega
      exact h0_2_2
    · obtain rfl : j = 3 := by omega
      exact h0_3_3
    · obtain rfl : j = 4 := by omega
      exact h0_4_4
    · obtain rfl : j = 5 := by omega
      exact h0_5_5
    · obtain rfl : j = 6 := by omega
      exact h0_6_6
  · rcases hs with rfl | rfl | rfl | rfl | rfl | rfl | rfl
    · obtain rfl : j = 2 := by omega
      exact h2_0_2
    · have hj : j = 1 ∨ j = 3 := by omega
      rcases hj with rfl | rfl
      · exact h2_1_1
      · exact h2_1_3
    · have hj : j = 2 ∨ j = 4 := by omega
      rcases hj with rfl | rfl
      · exact h2_2_2
      · exact h2_2_4
    · have hj : j = 1 ∨ j = 3 ∨ j = 5 := by omega
      rcases hj with rfl | rfl | rfl
      · exact h2_3_1
      · exact h2_3_3
      · exact h2_3_5
    · have hj : j = 2 ∨ j = 4 ∨ j = 6 := by omega
      rcases hj with rfl | rfl | rfl
      · exact h2_4_2
      · exact h2_4_4
      · exact h2_4_6
    · have hj : j = 3 ∨ j = 5 ∨ j = 7 := by omega
      rcases hj with rfl | rfl | rfl
      · exact h2_5_3
      · exact h2_5_5
      · exact h2_5_7
    · have hj : j = 4 ∨ j = 6 ∨ j = 8 := by omega
      rcases hj with rfl | rfl | rfl
      · exact h2_6_4
      · exact h2_6_6
      · exact h2_6_8
  · rcases hs with rfl | rfl | rfl | rfl | rfl | rfl | rfl
    · obtain rfl : j = 4 := by omega
      exact h4_0_4
    · have hj : j = 3 ∨ j = 5 := by omega
      rcases hj with rfl | rfl
      · exact h4_1_3
      · exact h4_1_5
    · have hj : j = 2 ∨ j = 4 ∨ j = 6 := by omega
      rcases hj with rfl | rfl | rfl
      · exact h4_2_2
      · exact h4_2_4
      · exact h4_2_6
    · have hj : j = 1 ∨ j = 3 ∨ j = 5 ∨ j = 7 := by omega
      rcases hj with rfl | rfl | rfl | rfl
      · exact h4_3_1
      · exact h4_3_3
      · exact h4_3_5
      · exact h4_3_7
    · have hj : j = 2 ∨ j = 4 ∨ j = 6 ∨ j = 8 := by omega
      rcases hj with rfl | rfl | rfl | rfl
      · exact h4_4_2
      · exact h4_4_4
      · exact h4_4_6
      · exact h4_4_8
    · have hj : j = 1 ∨ j = 3 ∨ j = 5 ∨ j = 7 ∨ j = 9 := by omega
      rcases hj with rfl | rfl | rfl | rfl | rfl
      · exact h4_5_1
      · exact h4_5_3
      · exact h4_5_5
      · exact h4_5_7
      · exact h4_5_9
    · have hj : j = 2 ∨ j = 4 ∨ j = 6 ∨ j = 8 ∨ j = 10 := by omega
      rcases hj with rfl | rfl | rfl | rfl | rfl
      · exact h4_6_2
      · exact h4_6_4
      · exact h4_6_6
      · exact h4_6_8
      · exact h4_6_10
  · rcases hs with rfl | rfl | rfl | rfl | rfl | rfl | rfl
    · obtain rfl : j = 6 := by omega
      exact h6_0_6
    · have hj : j = 5 ∨ j = 7 := by omega
      rcases hj with rfl | rfl
      · exact h6_1_5
      · exact h6_1_7
    · have hj : j = 4 ∨ j = 6 ∨ j = 8 := by omega
      rcases hj with rfl | rfl | rfl
      · exact h6_2_4
      · exact h6_2_6
      · exact h6_2_8
    · have hj : j = 3 ∨ j = 5 ∨ j = 7 ∨ j = 9 := by omega
      rcases hj with rfl | rfl | rfl | rfl
      · exact h6_3_3
      · exact h6_3_5
      · exact h6_3_7
      · exact h6_3_9
    · have hj : j = 2 ∨ j = 4 ∨ j = 6 ∨ j = 8 ∨ j = 10 := by omega
      rcases hj with rfl | rfl | rfl | rfl | rfl
      · exact h6_4_2
      · exact h6_4_4
      · exact h6_4_6
      · exact h6_4_8
      · exact h6_4_10
    · have hj : j = 1 ∨ j = 3 ∨ j = 5 ∨ j = 7 ∨ j = 9 ∨ j = 11 := by omega
      rcases hj with rfl | rfl | rfl | rfl | rfl | rfl
      · exact h6_5_1
      · exact h6_5_3
      · exact h6_5_5
      · exact h6_5_7
      · exact h6_5_9
      · exact h6_5_11
    · have hj : j = 2 ∨ j = 4 ∨ j = 6 ∨ j = 8 ∨ j = 10 ∨ j = 12 := by omega
      rcases hj with rfl | rfl | rfl | rfl | rfl | rfl
      · exact h6_6_2
      · exact h6_6_4
      · exact h6_6_6
      · exact h6_6_8
      · exact h6_6_10
      · exact h6_6_12
def g3F (p : Int → Int → Int → Bool) : GT := fun vs h => match vs, h with | [.int .i64 l, .int .i64 s, .int .i64 j], [] => .ite (p l s j) .no (.ret (.bool false) []) | _, _ => .no
theorem f3F {f : FuncId} {p : Int → Int → Int → Bool} {g : GT} (h : FnT Try.prog f g) (hg : ∀ l s j, (g [.int .i64 l, .int .i64 s, .int .i64 j] []).run = some (.bool (p l s j), [])) : FnT Try.prog f (g3F p) := fun vs hp v h' e => h vs hp v h' (by
  unfold g3F at e
  split at e
  · rename_i l s j
    rw [hg, ← e]
    cases hs : p l s j
    · rfl
    · rw [hs] at e
      exact (T.no_inv e).elim
  · exact (T.no_inv e).elim)
noncomputable def tR149 : Fns := tabT [(84, gT gIn)]
theorem tok_R149 : ∀ f, FnT Try.prog f (tR149 f) := (tabT_cons (k := 84) ok_l00In tabT_nil)
noncomputable def gR149 : GT := fun vs h => T.of (run ty tR149 ann0 80 Try.f149 vs h)
theorem ok_R149 : FnT Try.prog 149 gR149 := fnT tok_R149 Try.func149 rfl rfl ann0 fun vs h v h' e => ⟨80, by unfold gR149 at e; rw [T.run_of] at e; exact e⟩
noncomputable def tR121 : Fns := tabT []
theorem tok_R121 : ∀ f, FnT Try.prog f (tR121 f) := tabT_nil
noncomputable def gR121 : GT := fun vs h => T.of (run ty tR121 ann0 80 Try.f121 vs h)
theorem ok_R121 : FnT Try.prog 121 gR121 := fnT tok_R121 Try.func121 rfl rfl ann0 fun vs h v h' e => ⟨80, by unfold gR121 at e; rw [T.run_of] at e; exact e⟩
noncomputable def tR150 : Fns := tabT [(121, gR121), (84, gT gIn)]
theorem tok_R150 : ∀ f, FnT Try.prog f (tR150 f) := (tabT_cons (k := 121) ok_R121 (tabT_cons (k := 84) ok_l00In tabT_nil))
noncomputable def gR150 : GT := fun vs h => T.of (run ty tR150 ann0 80 Try.f150 vs h)
theorem ok_R150 : FnT Try.prog 150 gR150 := fnT tok_R150 Try.func150 rfl rfl ann0 fun vs h v h' e => ⟨80, by unfold gR150 at e; rw [T.run_of] at e; exact e⟩
noncomputable def tR104 : Fns := tabT [(149, gR149), (150, gR150)]
theorem tok_R104 : ∀ f, FnT Try.prog f (tR104 f) := (tabT_cons (k := 149) ok_R149 (tabT_cons (k := 150) ok_R150 tabT_nil))
noncomputable def gR104 : GT := fun vs h => T.of (run ty tR104 ann0 80 Try.f104 vs h)
theorem ok_R104 : FnT Try.prog 104 gR104 := fnT tok_R104 Try.func104 rfl rfl ann0 fun vs h v h' e => ⟨80, by unfold gR104 at e; rw [T.run_of] at e; exact e⟩
noncomputable def tR151 : Fns := tabT []
theorem tok_R151 : ∀ f, FnT Try.prog f (tR151 f) := tabT_nil
noncomputable def gR151 : GT := fun vs h => T.of (run ty tR151 ann0 80 Try.f151 vs h)
theorem ok_R151 : FnT Try.prog 151 gR151 := fnT tok_R151 Try.func151 rfl rfl ann0 fun vs h v h' e => ⟨80, by unfold gR151 at e; rw [T.run_of] at e; exact e⟩
noncomputable def tR105 : Fns := tabT [(121, gR121), (151, gR151)]
theorem tok_R105 : ∀ f, FnT Try.prog f (tR105 f) := (tabT_cons (k := 121) ok_R121 (tabT_cons (k := 151) ok_R151 tabT_nil))
noncomputable def gR105 : GT := fun vs h => T.of (run ty tR105 ann0 80 Try.f105 vs h)
theorem ok_R105 : FnT Try.prog 105 gR105 := fnT tok_R105 Try.func105 rfl rfl ann0 fun vs h v h' e => ⟨80, by unfold gR105 at e; rw [T.run_of] at e; exact e⟩
noncomputable def tR153 : Fns := tabT [(79, gT gIn)]
theorem tok_R153 : ∀ f, FnT Try.prog f (tR153 f) := (tabT_cons (k := 79) ok_within tabT_nil)
noncomputable def gR153 : GT := fun vs h => T.of (run ty tR153 ann0 80 Try.f153 vs h)
theorem ok_R153 : FnT Try.prog 153 gR153 := fnT tok_R153 Try.func153 rfl rfl ann0 fun vs h v h' e => ⟨80, by unfold gR153 at e; rw [T.run_of] at e; exact e⟩
noncomputable def tR177 : Fns := tabT [(153, gR153)]
theorem tok_R177 : ∀ f, FnT Try.prog f (tR177 f) := (tabT_cons (k := 153) ok_R153 tabT_nil)
noncomputable def gR177 : GT := fun vs h => T.of (run ty tR177 ann0 80 Try.f177 vs h)
theorem ok_R177 : FnT Try.prog 177 gR177 := fnT tok_R177 Try.func177 rfl rfl ann0 fun vs h v h' e => ⟨80, by unfold gR177 at e; rw [T.run_of] at e; exact e⟩
noncomputable def tR152 : Fns := tabT [(177, gR177)]
theorem tok_R152 : ∀ f, FnT Try.prog f (tR152 f) := (tabT_cons (k := 177) ok_R177 tabT_nil)
noncomputable def gR152 : GT := fun vs h => T.of (run ty tR152 ann0 80 Try.f152 vs h)
theorem ok_R152 : FnT Try.prog 152 gR152 := fnT tok_R152 Try.func152 rfl rfl ann0 fun vs h v h' e => ⟨80, by unfold gR152 at e; rw [T.run_of] at e; exact e⟩
noncomputable def tR106 : Fns := tabT [(152, gR152), (153, gR153)]
theorem tok_R106 : ∀ f, FnT Try.prog f (tR106 f) := (tabT_cons (k := 152) ok_R152 (tabT_cons (k := 153) ok_R153 tabT_nil))
noncomputable def gR106 : GT := fun vs h => T.of (run ty tR106 ann0 80 Try.f106 vs h)
theorem ok_R106 : FnT Try.prog 106 gR106 := fnT tok_R106 Try.func106 rfl rfl ann0 fun vs h v h' e => ⟨80, by unfold gR106 at e; rw [T.run_of] at e; exact e⟩
noncomputable def tR107 : Fns := tabT []
theorem tok_R107 : ∀ f, FnT Try.prog f (tR107 f) := tabT_nil
noncomputable def gR107 : GT := fun vs h => T.of (run ty tR107 ann0 80 Try.f107 vs h)
theorem ok_R107 : FnT Try.prog 107 gR107 := fnT tok_R107 Try.func107 rfl rfl ann0 fun vs h v h' e => ⟨80, by unfold gR107 at e; rw [T.run_of] at e; exact e⟩
noncomputable def tR167 : Fns := tabT []
theorem tok_R167 : ∀ f, FnT Try.prog f (tR167 f) := tabT_nil
noncomputable def gR167 : GT := fun vs h => T.of (run ty tR167 ann0 80 Try.f167 vs h)
theorem ok_R167 : FnT Try.prog 167 gR167 := fnT tok_R167 Try.func167 rfl rfl ann0 fun vs h v h' e => ⟨80, by unfold gR167 at e; rw [T.run_of] at e; exact e⟩
noncomputable def tR155 : Fns := tabT [(167, gR167)]
theorem tok_R155 : ∀ f, FnT Try.prog f (tR155 f) := (tabT_cons (k := 167) ok_R167 tabT_nil)
noncomputable def gR155 : GT := fun vs h => T.of (run ty tR155 ann0 80 Try.f155 vs h)
theorem ok_R155 : FnT Try.prog 155 gR155 := fnT tok_R155 Try.func155 rfl rfl ann0 fun vs h v h' e => ⟨80, by unfold gR155 at e; rw [T.run_of] at e; exact e⟩
noncomputable def tR186 : Fns := tabT []
theorem tok_R186 : ∀ f, FnT Try.prog f (tR186 f) := tabT_nil
noncomputable def gR186 : GT := fun vs h => T.of (run ty tR186 ann0 80 Try.f186 vs h)
theorem ok_R186 : FnT Try.prog 186 gR186 := fnT tok_R186 Try.func186 rfl rfl ann0 fun vs h v h' e => ⟨80, by unfold gR186 at e; rw [T.run_of] at e; exact e⟩
noncomputable def tR166 : Fns := tabT [(186, gR186)]
theorem tok_R166 : ∀ f, FnT Try.prog f (tR166 f) := (tabT_cons (k := 186) ok_R186 tabT_nil)
def an_R166 : Ann := ⟨fun _ => none, fun r n => if r = 7 ∧ n = 2 then .grow else if r = 7 ∧ n = 5 then .grow else .quiet⟩
noncomputable def gR166 : GT := fun vs h => T.of (run ty tR166 an_R166 80 Try.f166 vs h)
theorem ok_R166 : FnT Try.prog 166 gR166 := fnT tok_R166 Try.func166 rfl rfl an_R166 fun vs h v h' e => ⟨80, by unfold gR166 at e; rw [T.run_of] at e; exact e⟩
noncomputable def tR154 : Fns := tabT [(166, gR166), (167, gR167)]
theorem tok_R154 : ∀ f, FnT Try.prog f (tR154 f) := (tabT_cons (k := 166) ok_R166 (tabT_cons (k := 167) ok_R167 tabT_nil))
def an_R154 : Ann := ⟨fun _ => none, fun r n => if r = 4 ∧ n = 3 then .plain else if r = 7 ∧ n = 13 then .plain else .quiet⟩
noncomputable def gR154 : GT := fun vs h => T.of (run ty tR154 an_R154 80 Try.f154 vs h)
theorem ok_R154 : FnT Try.prog 154 gR154 := fnT tok_R154 Try.func154 rfl rfl an_R154 fun vs h v h' e => ⟨80, by unfold gR154 at e; rw [T.run_of] at e; exact e⟩
noncomputable def tR108 : Fns := tabT [(155, gR155), (154, gR154)]
theorem tok_R108 : ∀ f, FnT Try.prog f (tR108 f) := (tabT_cons (k := 155) ok_R155 (tabT_cons (k := 154) ok_R154 tabT_nil))
noncomputable def gR108 : GT := fun vs h => T.of (run ty tR108 ann0 80 Try.f108 vs h)
theorem ok_R108 : FnT Try.prog 108 gR108 := fnT tok_R108 Try.func108 rfl rfl ann0 fun vs h v h' e => ⟨80, by unfold gR108 at e; rw [T.run_of] at e; exact e⟩
noncomputable def tR158 : Fns := tabT [(155, gR155), (167, gR167)]
theorem tok_R158 : ∀ f, FnT Try.prog f (tR158 f) := (tabT_cons (k := 155) ok_R155 (tabT_cons (k := 167) ok_R167 tabT_nil))
noncomputable def gR158 : GT := fun vs h => T.of (run ty tR158 ann0 80 Try.f158 vs h)
theorem ok_R158 : FnT Try.prog 158 gR158 := fnT tok_R158 Try.func158 rfl rfl ann0 fun vs h v h' e => ⟨80, by unfold gR158 at e; rw [T.run_of] at e; exact e⟩
noncomputable def tR178 : Fns := tabT [(167, gR167)]
theorem tok_R178 : ∀ f, FnT Try.prog f (tR178 f) := (tabT_cons (k := 167) ok_R167 tabT_nil)
def an_R178 : Ann := ⟨fun _ => none, fun r n => if r = 1 ∧ n = 9 then .plain else .quiet⟩
noncomputable def gR178 : GT := fun vs h => T.of (run ty tR178 an_R178 80 Try.f178 vs h)
theorem ok_R178 : FnT Try.prog 178 gR178 := fnT tok_R178 Try.func178 rfl rfl an_R178 fun vs h v h' e => ⟨80, by unfold gR178 at e; rw [T.run_of] at e; exact e⟩
noncomputable def tR156 : Fns := tabT [(178, gR178)]
theorem tok_R156 : ∀ f, FnT Try.prog f (tR156 f) := (tabT_cons (k := 178) ok_R178 tabT_nil)
noncomputable def gR156 : GT := fun vs h => T.of (run ty tR156 ann0 80 Try.f156 vs h)
theorem ok_R156 : FnT Try.prog 156 gR156 := fnT tok_R156 Try.func156 rfl rfl ann0 fun vs h v h' e => ⟨80, by unfold gR156 at e; rw [T.run_of] at e; exact e⟩
noncomputable def tR183 : Fns := tabT []
theorem tok_R183 : ∀ f, FnT Try.prog f (tR183 f) := tabT_nil
noncomputable def gR183 : GT := fun vs h => T.of (run ty tR183 ann0 80 Try.f183 vs h)
theorem ok_R183 : FnT Try.prog 183 gR183 := fnT tok_R183 Try.func183 rfl rfl ann0 fun vs h v h' e => ⟨80, by unfold gR183 at e; rw [T.run_of] at e; exact e⟩
noncomputable def tR160 : Fns := tabT [(183, gR183), (167, gR167)]
theorem tok_R160 : ∀ f, FnT Try.prog f (tR160 f) := (tabT_cons (k := 183) ok_R183 (tabT_cons (k := 167) ok_R167 tabT_nil))
def an_R160 : Ann := ⟨fun _ => none, fun r n => if r = 1 ∧ n = 18 then .grow else if r = 1 ∧ n = 19 then .plain else .quiet⟩
noncomputable def gR160 : GT := fun vs h => T.of (run ty tR160 an_R160 80 Try.f160 vs h)
theorem ok_R160 : FnT Try.prog 160 gR160 := fnT tok_R160 Try.func160 rfl rfl an_R160 fun vs h v h' e => ⟨80, by unfold gR160 at e; rw [T.run_of] at e; exact e⟩
noncomputable def tR180 : Fns := tabT []
theorem tok_R180 : ∀ f, FnT Try.prog f (tR180 f) := tabT_nil
noncomputable def gR180 : GT := fun vs h => T.of (run ty tR180 ann0 80 Try.f180 vs h)
theorem ok_R180 : FnT Try.prog 180 gR180 := fnT tok_R180 Try.func180 rfl rfl ann0 fun vs h v h' e => ⟨80, by unfold gR180 at e; rw [T.run_of] at e; exact e⟩
noncomputable def tR181 : Fns := tabT []
theorem tok_R181 : ∀ f, FnT Try.prog f (tR181 f) := tabT_nil
noncomputable def gR181 : GT := fun vs h => T.of (run ty tR181 ann0 80 Try.f181 vs h)
theorem ok_R181 : FnT Try.prog 181 gR181 := fnT tok_R181 Try.func181 rfl rfl ann0 fun vs h v h' e => ⟨80, by unfold gR181 at e; rw [T.run_of] at e; exact e⟩
noncomputable def tR182 : Fns := tabT []
theorem tok_R182 : ∀ f, FnT Try.prog f (tR182 f) := tabT_nil
noncomputable def gR182 : GT := fun vs h => T.of (run ty tR182 ann0 80 Try.f182 vs h)
theorem ok_R182 : FnT Try.prog 182 gR182 := fnT tok_R182 Try.func182 rfl rfl ann0 fun vs h v h' e => ⟨80, by unfold gR182 at e; rw [T.run_of] at e; exact e⟩
noncomputable def tR159 : Fns := tabT [(180, gR180), (167, gR167), (181, gR181), (182, gR182)]
theorem tok_R159 : ∀ f, FnT Try.prog f (tR159 f) := (tabT_cons (k := 180) ok_R180 (tabT_cons (k := 167) ok_R167 (tabT_cons (k := 181) ok_R181 (tabT_cons (k := 182) ok_R182 tabT_nil))))
def an_R159 : Ann := ⟨fun _ => none, fun r n => if r = 2 ∧ n = 13 then .grow else if r = 2 ∧ n = 14 then .plain else if r = 4 ∧ n = 13 then .grow else if r = 4 ∧ n = 14 then .plain else if r = 5 ∧ n = 13 then .grow else if r = 5 ∧ n = 14 then .plain else .quiet⟩
noncomputable def gR159 : GT := fun vs h => T.of (run ty tR159 an_R159 80 Try.f159 vs h)
theorem ok_R159 : FnT Try.prog 159 gR159 := fnT tok_R159 Try.func159 rfl rfl an_R159 fun vs h v h' e => ⟨80, by unfold gR159 at e; rw [T.run_of] at e; exact e⟩
noncomputable def tR110 : Fns := tabT [(158, gR158), (156, gR156), (160, gR160), (159, gR159), (154, gR154)]
theorem tok_R110 : ∀ f, FnT Try.prog f (tR110 f) := (tabT_cons (k := 158) ok_R158 (tabT_cons (k := 156) ok_R156 (tabT_cons (k := 160) ok_R160 (tabT_cons (k := 159) ok_R159 (tabT_cons (k := 154) ok_R154 tabT_nil)))))
noncomputable def gR110 : GT := fun vs h => T.of (run ty tR110 ann0 80 Try.f110 vs h)
theorem ok_R110 : FnT Try.prog 110 gR110 := fnT tok_R110 Try.func110 rfl rfl ann0 fun vs h v h' e => ⟨80, by unfold gR110 at e; rw [T.run_of] at e; exact e⟩
noncomputable def tR64 : Fns := tabT []
theorem tok_R64 : ∀ f, FnT Try.prog f (tR64 f) := tabT_nil
noncomputable def gR64 : GT := fun vs h => T.of (run ty tR64 ann0 80 Try.f64 vs h)
theorem ok_R64 : FnT Try.prog 64 gR64 := fnT tok_R64 Try.func64 rfl rfl ann0 fun vs h v h' e => ⟨80, by unfold gR64 at e; rw [T.run_of] at e; exact e⟩
noncomputable def tR190 : Fns := tabT [(167, gR167), (159, gR159)]
theorem tok_R190 : ∀ f, FnT Try.prog f (tR190 f) := (tabT_cons (k := 167) ok_R167 (tabT_cons (k := 159) ok_R159 tabT_nil))
def an_R190 : Ann := ⟨fun _ => none, fun r n => if r = 1 ∧ n = 12 then .plain else if r = 1 ∧ n = 13 then .plain else .quiet⟩
noncomputable def gR190 : GT := fun vs h => T.of (run ty tR190 an_R190 80 Try.f190 vs h)
theorem ok_R190 : FnT Try.prog 190 gR190 := fnT tok_R190 Try.func190 rfl rfl an_R190 fun vs h v h' e => ⟨80, by unfold gR190 at e; rw [T.run_of] at e; exact e⟩
noncomputable def tR191 : Fns := tabT []
theorem tok_R191 : ∀ f, FnT Try.prog f (tR191 f) := tabT_nil
noncomputable def gR191 : GT := fun vs h => T.of (run ty tR191 ann0 80 Try.f191 vs h)
theorem ok_R191 : FnT Try.prog 191 gR191 := fnT tok_R191 Try.func191 rfl rfl ann0 fun vs h v h' e => ⟨80, by unfold gR191 at e; rw [T.run_of] at e; exact e⟩
noncomputable def tR179 : Fns := tabT [(190, gR190), (191, gR191)]
theorem tok_R179 : ∀ f, FnT Try.prog f (tR179 f) := (tabT_cons (k := 190) ok_R190 (tabT_cons (k := 191) ok_R191 tabT_nil))
noncomputable def gR179 : GT := fun vs h => T.of (run ty tR179 ann0 80 Try.f179 vs h)
theorem ok_R179 : FnT Try.prog 179 gR179 := fnT tok_R179 Try.func179 rfl rfl ann0 fun vs h v h' e => ⟨80, by unfold gR179 at e; rw [T.run_of] at e; exact e⟩
noncomputable def tR157 : Fns := tabT [(64, gR64), (155, gR155), (179, gR179)]
theorem tok_R157 : ∀ f, FnT Try.prog f (tR157 f) := (tabT_cons (k := 64) ok_R64 (tabT_cons (k := 155) ok_R155 (tabT_cons (k := 179) ok_R179 tabT_nil)))
noncomputable def gR157 : GT := fun vs h => T.of (run ty tR157 ann0 80 Try.f157 vs h)
theorem ok_R157 : FnT Try.prog 157 gR157 := fnT tok_R157 Try.func157 rfl rfl ann0 fun vs h v h' e => ⟨80, by unfold gR157 at e; rw [T.run_of] at e; exact e⟩
noncomputable def tR109 : Fns := tabT [(156, gR156), (157, gR157), (158, gR158), (64, gR64)]
theorem tok_R109 : ∀ f, FnT Try.prog f (tR109 f) := (tabT_cons (k := 156) ok_R156 (tabT_cons (k := 157) ok_R157 (tabT_cons (k := 158) ok_R158 (tabT_cons (k := 64) ok_R64 tabT_nil))))
noncomputable def gR109 : GT := fun vs h => T.of (run ty tR109 ann0 80 Try.f109 vs h)
theorem ok_R109 : FnT Try.prog 109 gR109 := fnT tok_R109 Try.func109 rfl rfl ann0 fun vs h v h' e => ⟨80, by unfold gR109 at e; rw [T.run_of] at e; exact e⟩
noncomputable def tab_fcS : Fns := tabT [(104, gR104), (105, gR105)]
theorem tabok_fcS : ∀ f, FnT Try.prog f (tab_fcS f) := (tabT_cons (k := 104) ok_R104 (tabT_cons (k := 105) ok_R105 tabT_nil))

noncomputable def tab_fcI : Fns := tabT [(106, gR106), (107, gR107), (108, gR108), (110, gR110), (109, gR109)]
theorem tabok_fcI : ∀ f, FnT Try.prog f (tab_fcI f) := (tabT_cons (k := 106) ok_R106 (tabT_cons (k := 107) ok_R107 (tabT_cons (k := 108) ok_R108 (tabT_cons (k := 110) ok_R110 (tabT_cons (k := 109) ok_R109 tabT_nil)))))

end Go.Proofs.Ytobbmffldbbhpaa.Ab
