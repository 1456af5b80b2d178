/- SplitLevels. Only lemmas. Printed by gen_factor.py. -/
import Derived.Test.YtbhfjdlhhjeknaaFcB
namespace Go.Proofs.Ytbhfjdlhhjeknaa.Ab.Fc
set_option linter.unusedVariables false
set_option linter.unusedSimpArgs false
open Go
def el_sl (a : Int) (b : Int) (j : Int) (v : Nat) (f : Nat) (i : Nat) : Nat := fop .add .f32 v (fop .mul .f32 (fop .mul .f32 (fop .quo .f32 (floatOfInt .f32 (fcU a b j)) (floatOfInt .f32 (fcD a b j))) f) (fop .quo .f32 (floatOfInt .f32 (2 * (i : Int) - j)) 1073741824))
def li_sl (a : Int) (b : Int) (j : Int) (v : Nat) (f : Nat) : List Nat := (List.range' 0 ((j + 1).toNat)).map (el_sl a b j v f)
def ok_sl (a : Int) (b : Int) (j : Int) (v : Nat) (f : Nat) : Bool := fineS a b j && (finB v && (finB f && ((li_sl a b j v f).all finB)))
def g_sl : GT := fun vs h => match vs, h with
  | [.int .i64 a, .int .i64 b, .int .i64 j, .fl .f32 v, .fl .f32 f], [] => .ite (ok_sl a b j v f) (.ret (.tup [.a (.sl 0 0 ((j + 1).toNat)), .a (.bool true)]) [.at true (.fl .f32 (li_sl a b j v f))]) (.ret nilF [])
  | _, _ => .no
theorem len_sl (a : Int) (b : Int) (j : Int) (v : Nat) (f : Nat) : (li_sl a b j v f).length = (j + 1).toNat := by simp [li_sl]
def an_slS : Ann := ⟨fun r => if r = 7 then some ([2, 3, 14, 15, 16], [15]) else none, fun _ _ => .quiet⟩
def tab_slS : Fns := tabT [(86, gT gFinS), (67, gT (gF1 finB)), (87, gFaT), (88, gLsT)]
theorem tabok_slS : ∀ f, FnT Try.prog f (tab_slS f) := (tabT_cons (k := 86) ok_l03Fine (tabT_cons (k := 67) ok_l01Finite (tabT_cons (k := 87) ok_fcS (tabT_cons (k := 88) ok_l03List tabT_nil))))
def st_slS7 (t2 : Int) (t3 : Nat) (t14 : Nat) (t15n : Nat) (t16 : Int) (l0 : List Nat) : St := ⟨[.any, .any, .int .i64 t2, .fl .f32 t3, .any, .any, .any, .any, .any, .any, .any, .any, .any, .any, .fl .f32 t14, .sl 0 0 t15n, .int .i64 t16, .any, .any, .any, .any, .any, .any, .any, .any, .any, .any, .any, .any, .any, .any, .any, .any, .any, .any, .any, .any, .any, .any, .any, .any, .any, .any, .any, .any, .any, .any, .any, .any, .any, .any, .any, .any, .any, .any, .any, .any, .any, .any, .any, .any, .any, .any, .any, .any, .any, .any, .any], [.at true (.fl .f32 l0)]⟩
abbrev kp_slS7 : Option (List Nat × List Nat) := some ([2, 3, 14, 15, 16], [15])
noncomputable def lp_slS7 {R : Type} (N M : Nat) (s : St) (K : X → St → Option R) : Option R := loopH 0 kp_slS7 (fun st K => exec ty tab_slS an_slS N 0 (atOf [true, true, true, true, true, false, true, false, false] Try.f27) st K) M s K
noncomputable def bk_slS7 {R : Type} (N M : Nat) (K : X → St → Option R) : X → St → Option R := fun x st => match x with | .norm => tidyK 0 (kp_slS7.map (·.1)) st fun st => lp_slS7 N M st K | x => tidyK 0 (kp_slS7.map (·.2)) st fun st => K x st
noncomputable def kt_slS7 {R : Type} (N : Nat) (K : X → St → Option R) : X → St → Option R := kBlkR 0 (kSeqR tab_slS an_slS N 0 (atOf [true, true, true, true, true, true] Try.f27) (K))
def en_slS7_0 (t15n : Nat) (l0 : List Nat) : St := ⟨[.any, .any, .any, .any, .any, .any, .any, .any, .any, .any, .any, .any, .any, .any, .any, .sl 0 0 t15n, .any, .any, .any, .any, .any, .any, .any, .any, .any, .any, .any, .any, .any, .any, .any, .any, .any, .any, .any, .any, .any, .any, .any, .any, .any, .any, .any, .any, .any, .any, .any, .any, .any, .any, .any, .any, .any, .any, .any, .any, .any, .any, .any, .any, .any, .any, .any, .any, .any, .any, .any, .any], [.at true (.fl .f32 l0)]⟩
theorem run_slS (N : Nat) (a : Int) (b : Int) (j : Int) (v : Nat) (f : Nat) : run ty tab_slS an_slS N Try.f27 [.int .i64 a, .int .i64 b, .int .i64 j, .fl .f32 v, .fl .f32 f] []
    = (match !(fineS a b j) with
  | true => some (.tup [.a (.nil), .a (.bool false)], [])
  | false => (match !(finB v) with
    | true => some (.tup [.a (.nil), .a (.bool false)], [])
    | false => (match !(finB f) with
      | true => some (.tup [.a (.nil), .a (.bool false)], [])
      | false => (match fineS a b j with
        | true => lp_slS7 N N (st_slS7 j v (fop .mul .f32 (fop .quo .f32 (floatOfInt .f32 (fcU a b j)) (floatOfInt .f32 (fcD a b j))) f) 0 (IntKind.i64.wrap (0 - j)) ([] : List Nat)) (kt_slS7 N (kEnd Try.f27 0))
        | false => none)))) := by
  kernel_rfl
theorem step_slS7 {R : Type} (N M : Nat) (K : X → St → Option R) (t2 : Int) (t3 : Nat) (t14 : Nat) (t15n : Nat) (t16 : Int) (l0 : List Nat) : lp_slS7 N (M + 1) (st_slS7 t2 t3 t14 t15n t16 l0) K
    = (match decide ((t16 : Int) ≤ t2) with
  | true => (match apok true t15n 1 l0.length 1 (t15n + 1) 4 with
    | true => lp_slS7 N M (st_slS7 t2 t3 t14 (t15n + 1) (IntKind.i64.wrap (t16 + 2)) (l0 ++ [fop .add .f32 t3 (fop .mul .f32 t14 (fop .quo .f32 (floatOfInt .f32 t16) 1073741824))])) K
    | false => none)
  | false => K (.exit 0) (en_slS7_0 t15n l0)) := by
  kernel_rfl
theorem end_slS7_0 (N : Nat) (t15n : Nat) (l0 : List Nat) : kt_slS7 N (kEnd Try.f27 0) (.exit 0) (en_slS7_0 t15n l0)
    = (match decide (l0.length = t15n ∧ t15n < 2147483648) with
  | true => (match l0.all finB with
    | true => some (.tup [.a (.sl 0 0 t15n), .a (.bool true)], [.at true (.fl .f32 l0)])
    | false => some (.tup [.a (.nil), .a (.bool false)], []))
  | false => none) := by
  kernel_rfl

theorem ok_slS : FnT Try.prog 27 g_sl := by
  refine fnT tabok_slS Try.func27 rfl rfl an_slS fun vs h v h' e => ?_
  unfold g_sl at e
  split at e
  case h_2 => exact (T.no_inv e).elim
  rename_i a b j v f
  refine ⟨(j + 1).toNat + 1, Eq.trans (run_slS _ _ _ _ _ _) (Eq.trans ?_ e)⟩
  show _ = T.k _ _
  simp only [T.k]
  unfold ok_sl
  cases h0 : fineS a b j
  · rfl
  cases h1 : finB v
  · rfl
  cases h2 : finB f
  · rfl
  have hF := fineS_iff.mp h0
  unfold FineP at hF
  obtain ⟨m, hm⟩ : ∃ m : Nat, j + 1 = (m : Int) := ⟨(j + 1).toNat, by omega⟩
  have hx : IntKind.i64.wrap (0 - j) = 2 * ((0 : Nat) : Int) - j := by rw [wrap_z (by omega) (by omega)]; omega
  rw [hx, hm, Int.toNat_natCast]
  refine Eq.trans (app_loop m (el_sl a b j v f) (fun M i l => lp_slS7 (m + 1) M (st_slS7 j v (fop .mul .f32 (fop .quo .f32 (floatOfInt .f32 (fcU a b j)) (floatOfInt .f32 (fcD a b j))) f) i (2 * (i : Int) - j) l) (kt_slS7 (m + 1) (kEnd Try.f27 0))) (fun l => match l.all finB with | true => some (.tup [.a (.sl 0 0 m), .a (.bool true)], [.at true (.fl .f32 l)]) | false => some (nilF, [])) (fun M i l hi hl => ?_) (fun M l hl => ?_)) ?_
  · simp only [step_slS7, decide_eq_true (show 2 * (i : Int) - j ≤ j by omega), (show IntKind.i64.wrap (2 * (i : Int) - j + 2) = 2 * ((i + 1 : Nat) : Int) - j from by rw [wrap_z (by omega) (by omega)]; omega), apc hl (show i < 2147483648 by omega) (show 4 ≤ 16 by omega), wr (show i < 2147483648 by omega)]
    rfl
  · simp only [step_slS7, decide_eq_false (show ¬ 2 * ((m : Nat) : Int) - j ≤ j by omega), end_slS7_0, decide_eq_true (show l.length = m ∧ m < 2147483648 from ⟨hl, by omega⟩)] <;> (cases l.all finB <;> rfl)
  · simp only [Bool.true_and]
    show _ = match (li_sl a b j v f).all finB with | true => _ | false => _
    unfold li_sl
    simp only [hm, Int.toNat_natCast] <;> (cases (List.map (el_sl a b j v f) (List.range' 0 m)).all finB <;> rfl)
def an_slI : Ann := ⟨fun r => if r = 6 then some ([2, 3, 4, 12, 13, 15, 16], [15]) else none, fun _ _ => .quiet⟩
def tab_slI : Fns := tabT [(62, gFcT), (81, gAllT finB), (89, gLsT)]
theorem tabok_slI : ∀ f, FnT Try.prog f (tab_slI f) := (tabT_cons (k := 62) ok_fcI (tabT_cons (k := 81) ok_areFinite (tabT_cons (k := 89) ok_checkedNumbers tabT_nil)))
def st_slI6 (j2 : Int) (level3 : Nat) (field4 : Nat) (n12 : Int) (d13 : Int) (out15n : Nat) (x16 : Int) (l0 : List Nat) : St := ⟨[.any, .any, .int .i64 j2, .fl .f32 level3, .fl .f32 field4, .any, .any, .any, .any, .any, .any, .any, .int .i64 n12, .int .i64 d13, .any, .sl 0 0 out15n, .int .i64 x16, .any, .any, .any, .any, .any, .any, .any, .any, .any, .any, .any, .any, .any, .any, .any, .any, .any, .any, .any, .any, .any, .any, .any, .any, .any, .any, .any, .any, .any, .any, .any, .any, .any, .any, .any, .any, .any, .any, .any, .any, .any, .any, .any, .any, .any, .any, .any], [.at true (.fl .f32 l0)]⟩
abbrev kp_slI6 : Option (List Nat × List Nat) := some ([2, 3, 4, 12, 13, 15, 16], [15])
noncomputable def lp_slI6 {R : Type} (N M : Nat) (s : St) (K : X → St → Option R) : Option R := loopH 0 kp_slI6 (fun st K => exec ty tab_slI an_slI N 0 (atOf [true, true, true, true, false, true, false, false] Try.f28) st K) M s K
noncomputable def bk_slI6 {R : Type} (N M : Nat) (K : X → St → Option R) : X → St → Option R := fun x st => match x with | .norm => tidyK 0 (kp_slI6.map (·.1)) st fun st => lp_slI6 N M st K | x => tidyK 0 (kp_slI6.map (·.2)) st fun st => K x st
noncomputable def kt_slI6 {R : Type} (N : Nat) (K : X → St → Option R) : X → St → Option R := kBlkR 0 (kSeqR tab_slI an_slI N 0 (atOf [true, true, true, true, true] Try.f28) (K))
def en_slI6_0 (out15n : Nat) (l0 : List Nat) : St := ⟨[.any, .any, .any, .any, .any, .any, .any, .any, .any, .any, .any, .any, .any, .any, .any, .sl 0 0 out15n, .any, .any, .any, .any, .any, .any, .any, .any, .any, .any, .any, .any, .any, .any, .any, .any, .any, .any, .any, .any, .any, .any, .any, .any, .any, .any, .any, .any, .any, .any, .any, .any, .any, .any, .any, .any, .any, .any, .any, .any, .any, .any, .any, .any, .any, .any, .any, .any], [.at true (.fl .f32 l0)]⟩
theorem run_slI (N : Nat) (a : Int) (b : Int) (j : Int) (v : Nat) (f : Nat) : run ty tab_slI an_slI N Try.f28 [.int .i64 a, .int .i64 b, .int .i64 j, .fl .f32 v, .fl .f32 f] []
    = (match fineS a b j with
  | true => (match !(finB v && (finB f && true)) with
    | true => some (.tup [.a (.nil), .a (.bool false)], [])
    | false => lp_slI6 N N (st_slI6 j v f (fcU a b j) (fcD a b j) 0 (IntKind.i64.wrap (0 - j)) ([] : List Nat)) (kt_slI6 N (kEnd Try.f28 0)))
  | false => some (.tup [.a (.nil), .a (.bool false)], [])) := by
  kernel_rfl
theorem step_slI6 {R : Type} (N M : Nat) (K : X → St → Option R) (j2 : Int) (level3 : Nat) (field4 : Nat) (n12 : Int) (d13 : Int) (out15n : Nat) (x16 : Int) (l0 : List Nat) : lp_slI6 N (M + 1) (st_slI6 j2 level3 field4 n12 d13 out15n x16 l0) K
    = (match decide ((x16 : Int) ≤ j2) with
  | true => (match apok true out15n 1 l0.length 1 (out15n + 1) 4 with
    | true => lp_slI6 N M (st_slI6 j2 level3 field4 n12 d13 (out15n + 1) (IntKind.i64.wrap (x16 + 2)) (l0 ++ [fop .add .f32 level3 (fop .mul .f32 (fop .mul .f32 (fop .quo .f32 (floatOfInt .f32 n12) (floatOfInt .f32 d13)) field4) (fop .quo .f32 (floatOfInt .f32 x16) 1073741824))])) K
    | false => none)
  | false => K (.exit 0) (en_slI6_0 out15n l0)) := by
  kernel_rfl
theorem end_slI6_0 (N : Nat) (out15n : Nat) (l0 : List Nat) : kt_slI6 N (kEnd Try.f28 0) (.exit 0) (en_slI6_0 out15n l0)
    = (match decide (l0.length = out15n ∧ out15n < 2147483648) with
  | true => (match l0.all finB with
    | true => some (.tup [.a (.sl 0 0 out15n), .a (.bool true)], [.at true (.fl .f32 l0)])
    | false => some (.tup [.a (.nil), .a (.bool false)], []))
  | false => none) := by
  kernel_rfl

theorem ok_slI : FnT Try.prog 28 g_sl := by
  refine fnT tabok_slI Try.func28 rfl rfl an_slI fun vs h v h' e => ?_
  unfold g_sl at e
  split at e
  case h_2 => exact (T.no_inv e).elim
  rename_i a b j v f
  refine ⟨(j + 1).toNat + 1, Eq.trans (run_slI _ _ _ _ _ _) (Eq.trans ?_ e)⟩
  show _ = T.k _ _
  simp only [T.k]
  unfold ok_sl
  cases h0 : fineS a b j
  · rfl
  cases h1 : finB v
  · rfl
  cases h2 : finB f
  · rfl
  have hF := fineS_iff.mp h0
  unfold FineP at hF
  obtain ⟨m, hm⟩ : ∃ m : Nat, j + 1 = (m : Int) := ⟨(j + 1).toNat, by omega⟩
  have hx : IntKind.i64.wrap (0 - j) = 2 * ((0 : Nat) : Int) - j := by rw [wrap_z (by omega) (by omega)]; omega
  rw [hx, hm, Int.toNat_natCast]
  refine Eq.trans (app_loop m (el_sl a b j v f) (fun M i l => lp_slI6 (m + 1) M (st_slI6 j v f (fcU a b j) (fcD a b j) i (2 * (i : Int) - j) l) (kt_slI6 (m + 1) (kEnd Try.f28 0))) (fun l => match l.all finB with | true => some (.tup [.a (.sl 0 0 m), .a (.bool true)], [.at true (.fl .f32 l)]) | false => some (nilF, [])) (fun M i l hi hl => ?_) (fun M l hl => ?_)) ?_
  · simp only [step_slI6, decide_eq_true (show 2 * (i : Int) - j ≤ j by omega), (show IntKind.i64.wrap (2 * (i : Int) - j + 2) = 2 * ((i + 1 : Nat) : Int) - j from by rw [wrap_z (by omega) (by omega)]; omega), apc hl (show i < 2147483648 by omega) (show 4 ≤ 16 by omega), wr (show i < 2147483648 by omega)]
    rfl
  · simp only [step_slI6, decide_eq_false (show ¬ 2 * ((m : Nat) : Int) - j ≤ j by omega), end_slI6_0, decide_eq_true (show l.length = m ∧ m < 2147483648 from ⟨hl, by omega⟩)] <;> (cases l.all finB <;> rfl)
  · simp only [Bool.true_and]
    show _ = match (li_sl a b j v f).all finB with | true => _ | false => _
    unfold li_sl
    simp only [hm, Int.toNat_natCast] <;> (cases (List.map (el_sl a b j v f) (List.range' 0 m)).all finB <;> rfl)
def tab_lawSplitLevels : Fns := tabT [(27, g_sl), (28, g_sl), (29, gEqT), (30, gMarkT), (31, gHeldT)]
theorem tabok_lawSplitLevels : ∀ f, FnT Try.prog f (tab_lawSplitLevels f) := (tabT_cons (k := 27) ok_slS (tabT_cons (k := 28) ok_slI (tabT_cons (k := 29) ok_eqF (tabT_cons (k := 30) ok_markF (tabT_cons (k := 31) ok_heldF tabT_nil)))))
theorem run_lawSplitLevels (N : Nat) (a : Int) (b : Int) (j : Int) (v : Nat) (f : Nat) : run ty tab_lawSplitLevels ann0 N Try.f5 [.int .i64 a, .int .i64 b, .int .i64 j, .fl .f32 v, .fl .f32 f] []
    = (match ok_sl a b j v f with
  | true => (match ok_sl a b j v f with
    | true => (match decide ((li_sl a b j v f).length = (j + 1).toNat ∧ (li_sl a b j v f).length = (j + 1).toNat ∧ (j + 1).toNat < 2147483648 ∧ (j + 1).toNat < 2147483648) with
      | true => (match !(eqFB (li_sl a b j v f) (li_sl a b j v f)) with
        | true => some (.bool false, [])
        | false => (match decide ((li_sl a b j v f).length = (j + 1).toNat ∧ (j + 1).toNat < 2147483648 ∧ 0 ≤ (1 : Int) ∧ (1 : Int) < 2147483648) with
          | true => (match decide (marks 1 ((j + 1).toNat) = marks 1 ((j + 1).toNat) ∧ (j + 1).toNat < 2147483648 ∧ 0 ≤ (1 : Int) ∧ (1 : Int) < 2147483648) with
            | true => (match decide ((1 + ((j + 1).toNat : Int) : Int) < 0) with
              | true => some (.bool false, [])
              | false => (match (1 + ((j + 1).toNat : Int)) != (1 + ((j + 1).toNat : Int)) with
                | true => some (.bool false, [])
                | false => (match ok_sl a b j v f with
                  | true => (match decide ((li_sl a b j v f).length = (j + 1).toNat ∧ (li_sl a b j v f).length = (j + 1).toNat ∧ (j + 1).toNat < 2147483648 ∧ (j + 1).toNat < 2147483648) with
                    | true => (match !(eqFB (li_sl a b j v f) (li_sl a b j v f)) with
                      | true => some (.bool false, [])
                      | false => (match decide (marks 1 ((j + 1).toNat) = marks 1 ((j + 1).toNat) ∧ (j + 1).toNat < 2147483648 ∧ 0 ≤ (1 : Int) ∧ (1 : Int) < 2147483648) with
                        | true => (match decide ((1 + ((j + 1).toNat : Int) : Int) < 0) with
                          | true => some (.bool false, [])
                          | false => (match (1 + ((j + 1).toNat : Int)) != (1 + ((j + 1).toNat : Int)) with
                            | true => some (.bool false, [])
                            | false => some (.bool true, [])))
                        | false => none))
                    | false => none)
                  | false => none)))
            | false => none)
          | false => none))
      | false => none)
    | false => none)
  | false => (match ok_sl a b j v f with
    | true => none
    | false => (match ok_sl a b j v f with
      | true => none
      | false => some (.bool true, [])))) := by
  kernel_rfl

theorem ok_lawSplitLevels : FnOk Try.prog 5 (fun vs h => match vs, h with | [.int .i64 a, .int .i64 b, .int .i64 j, .fl .f32 v, .fl .f32 f], [] => some (.bool true, []) | _, _ => none) := by
  refine fnOk tabok_lawSplitLevels Try.func5 rfl rfl ann0 fun vs h v h' e => ⟨0, ?_⟩
  split at e
  case h_2 => cases e
  rename_i a b j v f
  cases e
  refine Eq.trans (run_lawSplitLevels 0 _ _ _ _ _) ?_
  cases hok : ok_sl a b j v f with
  | false => rfl
  | true =>
    have hk : (j + 1).toNat < 2147483648 := by
      unfold ok_sl at hok
      simp only [Bool.and_eq_true] at hok
      have hF := fineS_iff.mp hok.1
      unfold FineP at hF
      omega
    have hl : (li_sl a b j v f).length = (j + 1).toNat := len_sl a b j v f
    have h1 : decide ((li_sl a b j v f).length = (j + 1).toNat ∧ (li_sl a b j v f).length = (j + 1).toNat ∧ (j + 1).toNat < 2147483648 ∧ (j + 1).toNat < 2147483648) = true := decide_eq_true ⟨hl, hl, hk, hk⟩
    have h2 : decide ((li_sl a b j v f).length = (j + 1).toNat ∧ (j + 1).toNat < 2147483648 ∧ 0 ≤ (1 : Int) ∧ (1 : Int) < 2147483648) = true := decide_eq_true ⟨hl, hk, by omega, by omega⟩
    have h3 : decide (marks 1 ((j + 1).toNat) = marks 1 ((j + 1).toNat) ∧ (j + 1).toNat < 2147483648 ∧ 0 ≤ (1 : Int) ∧ (1 : Int) < 2147483648) = true := decide_eq_true ⟨rfl, hk, by omega, by omega⟩
    have h3' : decide (True ∧ (j + 1).toNat < 2147483648 ∧ 0 ≤ (1 : Int) ∧ (1 : Int) < 2147483648) = true := decide_eq_true ⟨trivial, hk, by omega, by omega⟩
    have h4 : decide ((1 + (((j + 1).toNat : Nat) : Int) : Int) < 0) = false := decide_eq_false (by omega)
    have h5 : ((1 + (((j + 1).toNat : Nat) : Int)) != (1 + (((j + 1).toNat : Nat) : Int))) = false := by simp
    simp only [h1, h2, h3, h3', h4, h5, eqFB_self, Bool.not_true]
end Go.Proofs.Ytbhfjdlhhjeknaa.Ab.Fc
