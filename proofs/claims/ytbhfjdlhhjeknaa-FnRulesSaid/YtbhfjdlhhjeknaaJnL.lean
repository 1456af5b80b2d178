/- JoinShare. Only lemmas. Printed by gen_join2.py. -/
import Derived.Test.YtbhfjdlhhjeknaaJnJ
import Derived.Test.YtbhfjdlhhjeknaaInts
namespace Go.Proofs.Ytbhfjdlhhjeknaa.Ab
set_option linter.unusedVariables false
set_option linter.unusedSimpArgs false
open Go
def partW (a x : Int) : Bool := inB x (IntKind.i64.wrap (0 - a)) a && (Int.tmod (IntKind.i64.wrap (a - x)) 2 == 0)
def turnW (a x : Int) : Bool := inB a 0 6 && partW a x
def is6 (a : Int) : Bool := inB a 0 6
def gapI (a b : Int) : Int := if a > b then IntKind.i64.wrap (a - b) else IntKind.i64.wrap (b - a)
def totS (l s j : Int) : Bool := inB j (gapI l s) (IntKind.i64.wrap (l + s)) && (Int.tmod (IntKind.i64.wrap ((IntKind.i64.wrap (l + s)) - j)) 2 == 0)
def totI (l s j : Int) : Bool := decide (j ≥ (if (IntKind.i64.wrap (s - l)) > (IntKind.i64.wrap (l - s)) then IntKind.i64.wrap (s - l) else IntKind.i64.wrap (l - s))) && (decide (j ≤ (IntKind.i64.wrap (l + s))) && ((Int.tmod (IntKind.i64.wrap ((IntKind.i64.wrap (l + s)) - j)) 2) == 0))
def canS (a x b y c : Int) : Bool := turnW a x && (turnW b y && (totS a b c && partW c (IntKind.i64.wrap (x + y))))
def gpartW : G := fun vs h => match vs, h with | [.int .i64 a, .int .i64 x], [] => some (.bool (partW a x), []) | _, _ => none
def tab_l03Part : Fns := tabT [(157, gT gIn)]
theorem tabok_l03Part : ∀ f, FnT Try.prog f (tab_l03Part f) := (tabT_cons (k := 157) ok_l00In tabT_nil)
theorem run_l03Part (N : Nat) (a : Int) (x : Int) : run ty tab_l03Part ann0 N Try.f110 [.int .i64 a, .int .i64 x] []
    = (match inB x (IntKind.i64.wrap (0 - a)) a with
  | true => some (.bool ((Int.tmod (IntKind.i64.wrap (a - x)) 2) == 0), [])
  | false => some (.bool false, [])) := by
  kernel_rfl

theorem ok_l03Part : FnT Try.prog 110 (gT gpartW) := by
  refine fnT tabok_l03Part Try.func110 rfl rfl ann0 fun vs h v h' e => ⟨0, ?_⟩
  rw [T.run_of] at e
  unfold gpartW at e
  split at e
  case h_2 => cases e
  rename_i a x
  cases e
  refine Eq.trans (run_l03Part 0 a x) ?_
  unfold partW
  cases inB x (IntKind.i64.wrap (0 - a)) a <;> rfl
def tab_isPart : Fns := tabT [(97, gT gIn)]
theorem tabok_isPart : ∀ f, FnT Try.prog f (tab_isPart f) := (tabT_cons (k := 97) ok_within tabT_nil)
theorem run_isPart (N : Nat) (a : Int) (x : Int) : run ty tab_isPart ann0 N Try.f94 [.int .i64 a, .int .i64 x] []
    = (match inB x (IntKind.i64.wrap (0 - a)) a with
  | true => some (.bool ((Int.tmod (IntKind.i64.wrap (a - x)) 2) == 0), [])
  | false => some (.bool false, [])) := by
  kernel_rfl

theorem ok_isPart : FnT Try.prog 94 (gT gpartW) := by
  refine fnT tabok_isPart Try.func94 rfl rfl ann0 fun vs h v h' e => ⟨0, ?_⟩
  rw [T.run_of] at e
  unfold gpartW at e
  split at e
  case h_2 => cases e
  rename_i a x
  cases e
  refine Eq.trans (run_isPart 0 a x) ?_
  unfold partW
  cases inB x (IntKind.i64.wrap (0 - a)) a <;> rfl
def gturnW : G := fun vs h => match vs, h with | [.int .i64 a, .int .i64 x], [] => some (.bool (turnW a x), []) | _, _ => none
def tab_l03Turn : Fns := tabT [(157, gT gIn), (110, gT gpartW)]
theorem tabok_l03Turn : ∀ f, FnT Try.prog f (tab_l03Turn f) := (tabT_cons (k := 157) ok_l00In (tabT_cons (k := 110) ok_l03Part tabT_nil))
theorem run_l03Turn (N : Nat) (a : Int) (x : Int) : run ty tab_l03Turn ann0 N Try.f108 [.int .i64 a, .int .i64 x] []
    = (match inB a 0 6 with
  | true => some (.bool (partW a x), [])
  | false => some (.bool false, [])) := by
  kernel_rfl

theorem ok_l03Turn : FnT Try.prog 108 (gT gturnW) := by
  refine fnT tabok_l03Turn Try.func108 rfl rfl ann0 fun vs h v h' e => ⟨0, ?_⟩
  rw [T.run_of] at e
  unfold gturnW at e
  split at e
  case h_2 => cases e
  rename_i a x
  cases e
  refine Eq.trans (run_l03Turn 0 a x) ?_
  unfold turnW
  cases inB a 0 6 <;> rfl
def tab_IsTurnI : Fns := tabT [(97, gT gIn), (94, gT gpartW)]
theorem tabok_IsTurnI : ∀ f, FnT Try.prog f (tab_IsTurnI f) := (tabT_cons (k := 97) ok_within (tabT_cons (k := 94) ok_isPart tabT_nil))
theorem run_IsTurnI (N : Nat) (a : Int) (x : Int) : run ty tab_IsTurnI ann0 N Try.f92 [.int .i64 a, .int .i64 x] []
    = (match inB a 0 6 with
  | true => some (.bool (partW a x), [])
  | false => some (.bool false, [])) := by
  kernel_rfl

theorem ok_IsTurnI : FnT Try.prog 92 (gT gturnW) := by
  refine fnT tabok_IsTurnI Try.func92 rfl rfl ann0 fun vs h v h' e => ⟨0, ?_⟩
  rw [T.run_of] at e
  unfold gturnW at e
  split at e
  case h_2 => cases e
  rename_i a x
  cases e
  refine Eq.trans (run_IsTurnI 0 a x) ?_
  unfold turnW
  cases inB a 0 6 <;> rfl
def gis6 : G := fun vs h => match vs, h with | [.int .i64 a], [] => some (.bool (is6 a), []) | _, _ => none
def tab_l03Is : Fns := tabT [(157, gT gIn)]
theorem tabok_l03Is : ∀ f, FnT Try.prog f (tab_l03Is f) := (tabT_cons (k := 157) ok_l00In tabT_nil)
theorem run_l03Is (N : Nat) (a : Int) : run ty tab_l03Is ann0 N Try.f111 [.int .i64 a] []
    = some (.bool (inB a 0 6), []) := by
  kernel_rfl

theorem ok_l03Is : FnT Try.prog 111 (gT gis6) := by
  refine fnT tabok_l03Is Try.func111 rfl rfl ann0 fun vs h v h' e => ⟨0, ?_⟩
  rw [T.run_of] at e
  unfold gis6 at e
  split at e
  case h_2 => cases e
  rename_i a
  cases e
  refine Eq.trans (run_l03Is 0 a) ?_
  rfl
def ggapI : G := fun vs h => match vs, h with | [.int .i64 a, .int .i64 b], [] => some (.int .i64 (gapI a b), []) | _, _ => none
def tab_l03Gap : Fns := tabT []
theorem tabok_l03Gap : ∀ f, FnT Try.prog f (tab_l03Gap f) := tabT_nil
theorem run_l03Gap (N : Nat) (a : Int) (b : Int) : run ty tab_l03Gap ann0 N Try.f131 [.int .i64 a, .int .i64 b] []
    = (match decide ((a : Int) > b) with
  | true => some (.int .i64 (IntKind.i64.wrap (a - b)), [])
  | false => some (.int .i64 (IntKind.i64.wrap (b - a)), [])) := by
  kernel_rfl

theorem ok_l03Gap : FnT Try.prog 131 (gT ggapI) := by
  refine fnT tabok_l03Gap Try.func131 rfl rfl ann0 fun vs h v h' e => ⟨0, ?_⟩
  rw [T.run_of] at e
  unfold ggapI at e
  split at e
  case h_2 => cases e
  rename_i a b
  cases e
  refine Eq.trans (run_l03Gap 0 a b) ?_
  unfold gapI
  by_cases h : a > b
  · rw [decide_eq_true h, if_pos h]
  · rw [decide_eq_false h, if_neg h]
def gtotS : G := fun vs h => match vs, h with | [.int .i64 l, .int .i64 s, .int .i64 j], [] => some (.bool (totS l s j), []) | _, _ => none
def tab_l03Total : Fns := tabT [(131, gT ggapI), (157, gT gIn)]
theorem tabok_l03Total : ∀ f, FnT Try.prog f (tab_l03Total f) := (tabT_cons (k := 131) ok_l03Gap (tabT_cons (k := 157) ok_l00In tabT_nil))
theorem run_l03Total (N : Nat) (l : Int) (s : Int) (j : Int) : run ty tab_l03Total ann0 N Try.f109 [.int .i64 l, .int .i64 s, .int .i64 j] []
    = (match inB j (gapI l s) (IntKind.i64.wrap (l + s)) with
  | true => some (.bool ((Int.tmod (IntKind.i64.wrap ((IntKind.i64.wrap (l + s)) - j)) 2) == 0), [])
  | false => some (.bool false, [])) := by
  kernel_rfl

theorem ok_l03Total : FnT Try.prog 109 (gT gtotS) := by
  refine fnT tabok_l03Total Try.func109 rfl rfl ann0 fun vs h v h' e => ⟨0, ?_⟩
  rw [T.run_of] at e
  unfold gtotS at e
  split at e
  case h_2 => cases e
  rename_i l s j
  cases e
  refine Eq.trans (run_l03Total 0 l s j) ?_
  unfold totS
  cases inB j (gapI l s) (IntKind.i64.wrap (l + s)) <;> rfl
def gtotI : G := fun vs h => match vs, h with | [.int .i64 l, .int .i64 s, .int .i64 j], [] => some (.bool (totI l s j), []) | _, _ => none
def tab_isTotal : Fns := tabT []
theorem tabok_isTotal : ∀ f, FnT Try.prog f (tab_isTotal f) := tabT_nil
theorem run_isTotal (N : Nat) (l : Int) (s : Int) (j : Int) : run ty tab_isTotal ann0 N Try.f93 [.int .i64 l, .int .i64 s, .int .i64 j] []
    = (match decide ((j : Int) ≥ (if (IntKind.i64.wrap (s - l)) > (IntKind.i64.wrap (l - s)) then IntKind.i64.wrap (s - l) else IntKind.i64.wrap (l - s))) with
  | true => (match decide ((j : Int) ≤ (IntKind.i64.wrap (l + s))) with
    | true => some (.bool ((Int.tmod (IntKind.i64.wrap ((IntKind.i64.wrap (l + s)) - j)) 2) == 0), [])
    | false => some (.bool false, []))
  | false => some (.bool false, [])) := by
  kernel_rfl

theorem ok_isTotal : FnT Try.prog 93 (gT gtotI) := by
  refine fnT tabok_isTotal Try.func93 rfl rfl ann0 fun vs h v h' e => ⟨0, ?_⟩
  rw [T.run_of] at e
  unfold gtotI at e
  split at e
  case h_2 => cases e
  rename_i l s j
  cases e
  refine Eq.trans (run_isTotal 0 l s j) ?_
  unfold totI
  cases decide (j ≥ (if (IntKind.i64.wrap (s - l)) > (IntKind.i64.wrap (l - s)) then IntKind.i64.wrap (s - l) else IntKind.i64.wrap (l - s))) <;> cases decide (j ≤ (IntKind.i64.wrap (l + s))) <;> rfl
def gcanS : G := fun vs h => match vs, h with | [.int .i64 a, .int .i64 x, .int .i64 b, .int .i64 y, .int .i64 c], [] => some (.bool (canS a x b y c), []) | _, _ => none
def tab_l03Can : Fns := tabT [(108, gT gturnW), (109, gT gtotS), (110, gT gpartW)]
theorem tabok_l03Can : ∀ f, FnT Try.prog f (tab_l03Can f) := (tabT_cons (k := 108) ok_l03Turn (tabT_cons (k := 109) ok_l03Total (tabT_cons (k := 110) ok_l03Part tabT_nil)))
theorem run_l03Can (N : Nat) (a : Int) (x : Int) (b : Int) (y : Int) (c : Int) : run ty tab_l03Can ann0 N Try.f90 [.int .i64 a, .int .i64 x, .int .i64 b, .int .i64 y, .int .i64 c] []
    = (match turnW a x with
  | true => (match turnW b y with
    | true => (match totS a b c with
      | true => some (.bool (partW c (IntKind.i64.wrap (x + y))), [])
      | false => some (.bool false, []))
    | false => some (.bool false, []))
  | false => some (.bool false, [])) := by
  kernel_rfl

theorem ok_l03Can : FnT Try.prog 90 (gT gcanS) := by
  refine fnT tabok_l03Can Try.func90 rfl rfl ann0 fun vs h v h' e => ⟨0, ?_⟩
  rw [T.run_of] at e
  unfold gcanS at e
  split at e
  case h_2 => cases e
  rename_i a x b y c
  cases e
  refine Eq.trans (run_l03Can 0 a x b y c) ?_
  unfold canS
  cases turnW a x <;> cases turnW b y <;> cases totS a b c <;> rfl
theorem inB_iff {n lo hi : Int} : inB n lo hi = true ↔ lo ≤ n ∧ n ≤ hi := by
  simp only [inB, Bool.and_eq_true, decide_eq_true_eq, ge_iff_le]
theorem wrap_n {n : Int} (h : -1000 ≤ n) (h2 : n ≤ 1000) : IntKind.i64.wrap n = n := wrap_z (by omega) (by omega)
theorem tmod2 {x : Int} (h : 0 ≤ x) : Int.tmod x 2 = x % 2 := Int.tmod_eq_emod_of_nonneg h
theorem partW_iff {a x : Int} (h0 : -100 ≤ a) (h1 : a ≤ 100) : partW a x = true ↔ -a ≤ x ∧ x ≤ a ∧ (a - x) % 2 = 0 := by
  unfold partW
  rw [wrap_n (n := 0 - a) (by omega) (by omega), Bool.and_eq_true, inB_iff]
  constructor
  · rintro ⟨⟨h2, h3⟩, h4⟩
    rw [wrap_n (by omega) (by omega), tmod2 (by omega), beq_iff_eq] at h4
    exact ⟨by omega, h3, h4⟩
  · rintro ⟨h2, h3, h4⟩
    refine ⟨⟨by omega, h3⟩, ?_⟩
    rw [wrap_n (by omega) (by omega), tmod2 (by omega), beq_iff_eq]
    exact h4
theorem turnW_iff {a x : Int} : turnW a x = true ↔ (0 ≤ a ∧ a ≤ 6) ∧ -a ≤ x ∧ x ≤ a ∧ (a - x) % 2 = 0 := by
  unfold turnW
  rw [Bool.and_eq_true, inB_iff]
  exact and_congr_right fun h => partW_iff (by omega) (by omega)
def TotP (l s j : Int) : Prop := l - s ≤ j ∧ s - l ≤ j ∧ j ≤ l + s ∧ (l + s - j) % 2 = 0
theorem totS_iff {l s j : Int} (hl : 0 ≤ l ∧ l ≤ 6) (hs : 0 ≤ s ∧ s ≤ 6) : totS l s j = true ↔ TotP l s j := by
  unfold totS TotP
  rw [wrap_n (n := l + s) (by omega) (by omega)]
  simp only [Bool.and_eq_true, inB_iff, beq_iff_eq]
  have hg : gapI l s = if l > s then l - s else s - l := by
    unfold gapI
    split
    · rw [wrap_n (by omega) (by omega)]
    · rw [wrap_n (by omega) (by omega)]
  rw [hg]
  constructor
  · rintro ⟨⟨h1, h2⟩, h3⟩
    have h5 : l - s ≤ j ∧ s - l ≤ j := by split at h1 <;> omega
    rw [wrap_n (n := l + s - j) (by omega) (by omega), tmod2 (by omega)] at h3
    omega
  · rintro ⟨h1, h2, h3, h4⟩
    rw [wrap_n (n := l + s - j) (by omega) (by omega), tmod2 (by omega)]
    refine ⟨⟨?_, h3⟩, h4⟩
    split <;> omega
theorem totI_iff {l s j : Int} (hl : 0 ≤ l ∧ l ≤ 6) (hs : 0 ≤ s ∧ s ≤ 6) : totI l s j = true ↔ TotP l s j := by
  unfold totI TotP
  rw [wrap_n (n := l + s) (by omega) (by omega), wrap_n (n := s - l) (by omega) (by omega), wrap_n (n := l - s) (by omega) (by omega)]
  simp only [Bool.and_eq_true, beq_iff_eq, decide_eq_true_eq]
  constructor
  · rintro ⟨h1, h2, h3⟩
    have h5 : l - s ≤ j ∧ s - l ≤ j := by split at h1 <;> omega
    rw [wrap_n (n := l + s - j) (by omega) (by omega), tmod2 (by omega)] at h3
    omega
  · rintro ⟨h1, h2, h3, h4⟩
    rw [wrap_n (n := l + s - j) (by omega) (by omega), tmod2 (by omega)]
    refine ⟨?_, h3, h4⟩
    split <;> omega
theorem totI_S {l s j : Int} (hl : 0 ≤ l ∧ l ≤ 6) (hs : 0 ≤ s ∧ s ≤ 6) : totI l s j = totS l s j := Bool.eq_iff_iff.mpr ((totI_iff hl hs).trans (totS_iff hl hs).symm)
theorem canJ_of {a x b y c : Int} (h1 : turnW a x = true) (h2 : turnW b y = true) (h3 : totS a b c = true) (h4 : partW c (IntKind.i64.wrap (x + y)) = true) : canJ a x b y c = true := by
  have g1 := turnW_iff.mp h1
  have g2 := turnW_iff.mp h2
  have g3 := (totS_iff g1.1 g2.1).mp h3
  unfold TotP at g3
  rw [wrap_n (by omega) (by omega)] at h4
  have g4 := (partW_iff (by omega) (by omega)).mp h4
  exact decide_eq_true (by omega)
theorem canS_J {a x b y c : Int} (h : canS a x b y c = true) : canJ a x b y c = true := by
  unfold canS at h
  rw [Bool.and_eq_true, Bool.and_eq_true, Bool.and_eq_true] at h
  exact canJ_of h.1 h.2.1 h.2.2.1 h.2.2.2
def gJoin : GT := fun vs h => match vs, h with | [.int .i64 a, .int .i64 x, .int .i64 b, .int .i64 y, .int .i64 c], [] => .ite (canS a x b y c) (.ret (.tup [.a (.int .i64 (jV a x b y c).1), .a (.int .i64 (jV a x b y c).2.1), .a (.int .i64 (jV a x b y c).2.2), .a (.bool true)]) []) (.ret (.tup [.a (.int .i64 0), .a (.int .i64 0), .a (.int .i64 0), .a (.bool false)]) []) | _, _ => .no
def tab_jsS : Fns := tabT [(90, gT gcanS), (91, gJn)]
theorem tabok_jsS : ∀ f, FnT Try.prog f (tab_jsS f) := (tabT_cons (k := 90) ok_l03Can (tabT_cons (k := 91) ok_jn tabT_nil))
theorem run_jsS (N : Nat) (a : Int) (x : Int) (b : Int) (y : Int) (c : Int) : run ty tab_jsS ann0 N Try.f32 [.int .i64 a, .int .i64 x, .int .i64 b, .int .i64 y, .int .i64 c] []
    = (match !(canS a x b y c) with
  | true => some (.tup [.a (.int .i64 0), .a (.int .i64 0), .a (.int .i64 0), .a (.bool false)], [])
  | false => (match canJ a x b y c with
    | true => some (.tup [.a (.int .i64 ((jV a x b y c).1)), .a (.int .i64 ((jV a x b y c).2.1)), .a (.int .i64 ((jV a x b y c).2.2)), .a (.bool true)], [])
    | false => none)) := by
  kernel_rfl

theorem ok_jsS : FnT Try.prog 32 (gJoin) := by
  refine fnT tabok_jsS Try.func32 rfl rfl ann0 fun vs h v h' e => ⟨0, ?_⟩
  unfold gJoin at e
  split at e
  case h_2 => exact (T.no_inv e).elim
  rename_i a x b y c
  refine Eq.trans (run_jsS 0 a x b y c) (Eq.trans ?_ e)
  show _ = T.k _ _
  simp only [T.k]
  cases hs : canS a x b y c
  · rfl
  · rw [canS_J hs]
    rfl
def tab_jsI : Fns := tabT [(92, gT gturnW), (93, gT gtotI), (94, gT gpartW), (95, gJs)]
theorem tabok_jsI : ∀ f, FnT Try.prog f (tab_jsI f) := (tabT_cons (k := 92) ok_IsTurnI (tabT_cons (k := 93) ok_isTotal (tabT_cons (k := 94) ok_isPart (tabT_cons (k := 95) ok_js tabT_nil))))
theorem run_jsI (N : Nat) (a : Int) (x : Int) (b : Int) (y : Int) (c : Int) : run ty tab_jsI ann0 N Try.f33 [.int .i64 a, .int .i64 x, .int .i64 b, .int .i64 y, .int .i64 c] []
    = (match !(turnW a x) with
  | true => some (.tup [.a (.int .i64 0), .a (.int .i64 0), .a (.int .i64 0), .a (.bool false)], [])
  | false => (match !(turnW b y) with
    | true => some (.tup [.a (.int .i64 0), .a (.int .i64 0), .a (.int .i64 0), .a (.bool false)], [])
    | false => (match !(totI a b c) with
      | true => some (.tup [.a (.int .i64 0), .a (.int .i64 0), .a (.int .i64 0), .a (.bool false)], [])
      | false => (match !(partW c (IntKind.i64.wrap (x + y))) with
        | true => some (.tup [.a (.int .i64 0), .a (.int .i64 0), .a (.int .i64 0), .a (.bool false)], [])
        | false => (match canJ a x b y c with
          | true => some (.tup [.a (.int .i64 ((jV a x b y c).1)), .a (.int .i64 ((jV a x b y c).2.1)), .a (.int .i64 ((jV a x b y c).2.2)), .a (.bool true)], [])
          | false => none))))) := by
  kernel_rfl

theorem ok_jsI : FnT Try.prog 33 (gJoin) := by
  refine fnT tabok_jsI Try.func33 rfl rfl ann0 fun vs h v h' e => ⟨0, ?_⟩
  unfold gJoin at e
  split at e
  case h_2 => exact (T.no_inv e).elim
  rename_i a x b y c
  refine Eq.trans (run_jsI 0 a x b y c) (Eq.trans ?_ e)
  show _ = T.k _ _
  simp only [T.k]
  unfold canS
  cases h1 : turnW a x
  · rfl
  · cases h2 : turnW b y
    · rfl
    · rw [totI_S (turnW_iff.mp h1).1 (turnW_iff.mp h2).1]
      cases h3 : totS a b c
      · rfl
      · cases h4 : partW c (IntKind.i64.wrap (x + y))
        · rfl
        · rw [canJ_of h1 h2 h3 h4]
          rfl
def tab_lawJs : Fns := tabT [(32, gJoin), (33, gJoin)]
theorem tabok_lawJs : ∀ f, FnT Try.prog f (tab_lawJs f) := (tabT_cons (k := 32) ok_jsS (tabT_cons (k := 33) ok_jsI tabT_nil))
theorem run_lawJs (N : Nat) (a : Int) (x : Int) (b : Int) (y : Int) (c : Int) : run ty tab_lawJs ann0 N Try.f6 [.int .i64 a, .int .i64 x, .int .i64 b, .int .i64 y, .int .i64 c] []
    = (match canS a x b y c with
  | true => (match canS a x b y c with
    | true => (match ((jV a x b y c).1) != ((jV a x b y c).1) with
      | true => some (.bool false, [])
      | false => (match ((jV a x b y c).2.1) != ((jV a x b y c).2.1) with
        | true => some (.bool false, [])
        | false => (match ((jV a x b y c).2.2) != ((jV a x b y c).2.2) with
          | true => some (.bool false, [])
          | false => some (.bool true, []))))
    | false => (match 0 != ((jV a x b y c).1) with
      | true => some (.bool false, [])
      | false => (match 0 != ((jV a x b y c).2.1) with
        | true => some (.bool false, [])
        | false => (match 0 != ((jV a x b y c).2.2) with
          | true => some (.bool false, [])
          | false => some (.bool false, [])))))
  | false => (match canS a x b y c with
    | true => (match ((jV a x b y c).1) != 0 with
      | true => some (.bool false, [])
      | false => (match ((jV a x b y c).2.1) != 0 with
        | true => some (.bool false, [])
        | false => (match ((jV a x b y c).2.2) != 0 with
          | true => some (.bool false, [])
          | false => some (.bool false, []))))
    | false => some (.bool true, []))) := by
  kernel_rfl

theorem ok_lawJoinShare : FnOk Try.prog 6 (fun vs h => match vs, h with | [.int .i64 _, .int .i64 _, .int .i64 _, .int .i64 _, .int .i64 _], [] => some (.bool true, []) | _, _ => none) := by
  refine fnOk tabok_lawJs Try.func6 rfl rfl ann0 fun vs h v h' e => ⟨0, ?_⟩
  split at e
  case h_2 => cases e
  rename_i a x b y c
  cases e
  refine Eq.trans (run_lawJs 0 a x b y c) ?_
  cases canS a x b y c
  · rfl
  · have hs : ∀ z : Int, (z != z) = false := fun z => by simp
    rw [hs, hs, hs]
end Go.Proofs.Ytbhfjdlhhjeknaa.Ab
