/- Rows of numbers by a count. Only lemmas. Printed by gen_lists.py. -/
import Derived.Test.YtjjdfeemkkeokaaLib
namespace Go.Proofs.Ytjjdfeemkkeokaa.Ab
set_option linter.unusedVariables false
set_option linter.unusedSimpArgs false
open Go
theorem inB_of {n lo hi : Int} (h : inB n lo hi = true) : lo ≤ n ∧ n ≤ hi := by
  simp only [inB, Bool.and_eq_true, decide_eq_true_eq] at h
  omega
def v_rotor (j : Int) : Nat := floatOfInt .f32 (IntKind.i64.wrap (j * (IntKind.i64.wrap (j + 1))))
def g_rotor : G := fun vs h => match vs, h with | [.int .i64 j], [] => some (.fl .f32 (v_rotor j), []) | _, _ => none
def tab_rotor : Fns := tabT []
theorem tabok_rotor : ∀ f, FnT Try.prog f (tab_rotor f) := tabT_nil
theorem run_rotor (N : Nat) (j : Int) : run ty tab_rotor ann0 N Try.f74 [.int .i64 j] []
    = some (.fl .f32 (floatOfInt .f32 (IntKind.i64.wrap (j * (IntKind.i64.wrap (j + 1))))), []) := by
  kernel_rfl

theorem ok_rotor : FnT Try.prog 74 (gT g_rotor) := by
  refine fnT tabok_rotor Try.func74 rfl rfl ann0 fun vs h v h' e => ⟨0, ?_⟩
  rw [T.run_of] at e
  unfold g_rotor at e
  split at e
  case h_2 => cases e
  cases e
  exact run_rotor 0 _
def v_l03Q (j : Int) : Nat := floatOfInt .f32 (IntKind.i64.wrap (j * (IntKind.i64.wrap (j + 1))))
def g_l03Q : G := fun vs h => match vs, h with | [.int .i64 j], [] => some (.fl .f32 (v_l03Q j), []) | _, _ => none
def tab_l03Q : Fns := tabT []
theorem tabok_l03Q : ∀ f, FnT Try.prog f (tab_l03Q f) := tabT_nil
theorem run_l03Q (N : Nat) (j : Int) : run ty tab_l03Q ann0 N Try.f73 [.int .i64 j] []
    = some (.fl .f32 (floatOfInt .f32 (IntKind.i64.wrap (j * (IntKind.i64.wrap (j + 1))))), []) := by
  kernel_rfl

theorem ok_l03Q : FnT Try.prog 73 (gT g_l03Q) := by
  refine fnT tabok_l03Q Try.func73 rfl rfl ann0 fun vs h v h' e => ⟨0, ?_⟩
  rw [T.run_of] at e
  unfold g_l03Q at e
  split at e
  case h_2 => cases e
  cases e
  exact run_l03Q 0 _
def v_l03Rotor (n : Int) : Bool := inB n 1 40
def g_l03Rotor : G := fun vs h => match vs, h with | [.int .i64 n], [] => some (.bool (v_l03Rotor n), []) | _, _ => none
def tab_l03Rotor : Fns := tabT [(50, gT gIn)]
theorem tabok_l03Rotor : ∀ f, FnT Try.prog f (tab_l03Rotor f) := (tabT_cons (k := 50) ok_l00In tabT_nil)
theorem run_l03Rotor (N : Nat) (n : Int) : run ty tab_l03Rotor ann0 N Try.f75 [.int .i64 n] []
    = some (.bool (inB n 1 40), []) := by
  kernel_rfl

theorem ok_l03Rotor : FnT Try.prog 75 (gT g_l03Rotor) := by
  refine fnT tabok_l03Rotor Try.func75 rfl rfl ann0 fun vs h v h' e => ⟨0, ?_⟩
  rw [T.run_of] at e
  unfold g_l03Rotor at e
  split at e
  case h_2 => cases e
  cases e
  exact run_l03Rotor 0 _
def el_rl (b : Nat) (d : Nat) (n : Int) (i : Nat) : Nat := fop .sub .f32 (fop .mul .f32 b (v_rotor (i : Int))) (fop .mul .f32 (fop .mul .f32 d (v_rotor (i : Int))) (v_rotor (i : Int)))
def li_rl (b : Nat) (d : Nat) (n : Int) : List Nat := (List.range' 0 (n.toNat)).map (el_rl b d n)
def ok_rl (b : Nat) (d : Nat) (n : Int) : Bool := nonB b && (nonB d && (inB n 1 40 && ((li_rl b d n).all finB)))
def g_rl : GT := fun vs h => match vs, h with
  | [.fl .f32 b, .fl .f32 d, .int .i64 n], [] => .ite (ok_rl b d n) (.ret (.tup [.a (.sl 0 0 (n.toNat)), .a (.bool true)]) [.at true (.fl .f32 (li_rl b d n))]) (.ret nilF [])
  | _, _ => .no
theorem len_rl (b : Nat) (d : Nat) (n : Int) : (li_rl b d n).length = n.toNat := by simp [li_rl]
def an_rlS : Ann := ⟨fun r => if r = 5 then some ([0, 1, 2, 8, 9], [8]) else none, fun _ _ => .quiet⟩
def tab_rlS : Fns := tabT [(70, gT (gF1 nonB)), (75, gT g_l03Rotor), (73, gT g_l03Q), (71, gLsT)]
theorem tabok_rlS : ∀ f, FnT Try.prog f (tab_rlS f) := (tabT_cons (k := 70) ok_l03Least (tabT_cons (k := 75) ok_l03Rotor (tabT_cons (k := 73) ok_l03Q (tabT_cons (k := 71) ok_l03List tabT_nil))))
def st_rlS5 (b0 : Nat) (d1 : Nat) (count2 : Int) (out8n : Nat) (j9 : Int) (l0 : List Nat) : St := ⟨[.fl .f32 b0, .fl .f32 d1, .int .i64 count2, .any, .any, .any, .any, .any, .sl 0 0 out8n, .int .i64 j9, .any, .any, .any, .any, .any, .any, .any, .any, .any, .any, .any, .any, .any, .any, .any, .any, .any, .any, .any, .any, .any, .any, .any, .any, .any, .any, .any, .any, .any, .any, .any, .any, .any, .any, .any, .any, .any, .any], [.at true (.fl .f32 l0)]⟩
abbrev kp_rlS5 : Option (List Nat × List Nat) := some ([0, 1, 2, 8, 9], [8])
noncomputable def lp_rlS5 {R : Type} (N M : Nat) (s : St) (K : X → St → Option R) : Option R := loopH 0 kp_rlS5 (fun st K => exec ty tab_rlS an_rlS N 0 (atOf [true, true, true, false, true, false, false] Try.f43) st K) M s K
noncomputable def bk_rlS5 {R : Type} (N M : Nat) (K : X → St → Option R) : X → St → Option R := fun x st => match x with | .norm => tidyK 0 (kp_rlS5.map (·.1)) st fun st => lp_rlS5 N M st K | x => tidyK 0 (kp_rlS5.map (·.2)) st fun st => K x st
noncomputable def kt_rlS5 {R : Type} (N : Nat) (K : X → St → Option R) : X → St → Option R := kBlkR 0 (kSeqR tab_rlS an_rlS N 0 (atOf [true, true, true, true] Try.f43) (K))
def en_rlS5_0 (out8n : Nat) (l0 : List Nat) : St := ⟨[.any, .any, .any, .any, .any, .any, .any, .any, .sl 0 0 out8n, .any, .any, .any, .any, .any, .any, .any, .any, .any, .any, .any, .any, .any, .any, .any, .any, .any, .any, .any, .any, .any, .any, .any, .any, .any, .any, .any, .any, .any, .any, .any, .any, .any, .any, .any, .any, .any, .any, .any], [.at true (.fl .f32 l0)]⟩
theorem run_rlS (N : Nat) (b : Nat) (d : Nat) (n : Int) : run ty tab_rlS an_rlS N Try.f43 [.fl .f32 b, .fl .f32 d, .int .i64 n] []
    = (match !(nonB b) with
  | true => some (.tup [.a (.nil), .a (.bool false)], [])
  | false => (match !(nonB d) with
    | true => some (.tup [.a (.nil), .a (.bool false)], [])
    | false => (match !(inB n 1 40) with
      | true => some (.tup [.a (.nil), .a (.bool false)], [])
      | false => lp_rlS5 N N (st_rlS5 b d n 0 0 []) (kt_rlS5 N (kEnd Try.f43 0))))) := by
  kernel_rfl
theorem step_rlS5 {R : Type} (N M : Nat) (K : X → St → Option R) (b0 : Nat) (d1 : Nat) (count2 : Int) (out8n : Nat) (j9 : Int) (l0 : List Nat) : lp_rlS5 N (M + 1) (st_rlS5 b0 d1 count2 out8n j9 l0) K
    = (match decide ((j9 : Int) < count2) with
  | true => (match apok true out8n 1 l0.length 1 (out8n + 1) 4 with
    | true => lp_rlS5 N M (st_rlS5 b0 d1 count2 (out8n + 1) (IntKind.i64.wrap (j9 + 1)) (l0 ++ [fop .sub .f32 (fop .mul .f32 b0 (v_rotor j9)) (fop .mul .f32 (fop .mul .f32 d1 (v_rotor j9)) (v_rotor j9))])) K
    | false => none)
  | false => K (.exit 0) (en_rlS5_0 out8n l0)) := by
  kernel_rfl
theorem end_rlS5_0 (N : Nat) (out8n : Nat) (l0 : List Nat) : kt_rlS5 N (kEnd Try.f43 0) (.exit 0) (en_rlS5_0 out8n l0)
    = (match decide (l0.length = out8n ∧ out8n < 2147483648) with
  | true => (match l0.all finB with
    | true => some (.tup [.a (.sl 0 0 out8n), .a (.bool true)], [.at true (.fl .f32 l0)])
    | false => some (.tup [.a (.nil), .a (.bool false)], []))
  | false => none) := by
  kernel_rfl

theorem ok_rlS : FnT Try.prog 43 g_rl := by
  refine fnT tabok_rlS Try.func43 rfl rfl an_rlS fun vs h v h' e => ?_
  unfold g_rl at e
  split at e
  case h_2 => exact (T.no_inv e).elim
  rename_i b d n
  refine ⟨n.toNat + 1, Eq.trans (run_rlS _ _ _ _) (Eq.trans ?_ e)⟩
  show _ = T.k _ _
  simp only [T.k]
  unfold ok_rl
  cases h0 : nonB b
  · rfl
  cases h1 : nonB d
  · rfl
  cases h2 : inB n 1 40
  · rfl
  have hb := inB_of h2
  obtain ⟨m, rfl⟩ : ∃ m : Nat, n = (m : Int) := ⟨n.toNat, by omega⟩
  rw [Int.toNat_natCast]
  refine Eq.trans (app_loop m (el_rl b d ((m : Nat) : Int)) (fun M i l => lp_rlS5 (m + 1) M (st_rlS5 b d ((m : Nat) : Int) i (i : Int) l) (kt_rlS5 (m + 1) (kEnd Try.f43 0))) (fun l => match l.all finB with | true => some (.tup [.a (.sl 0 0 m), .a (.bool true)], [.at true (.fl .f32 l)]) | false => some (nilF, [])) (fun M i l hi hl => ?_) (fun M l hl => ?_)) ?_
  · simp only [step_rlS5, dlt hi, apc hl (show i < 2147483648 by omega) (show 4 ≤ 16 by omega), wr (show i < 2147483648 by omega)]
    rfl
  · simp only [step_rlS5, dge (Nat.le_refl _), end_rlS5_0, decide_eq_true (show l.length = m ∧ m < 2147483648 from ⟨hl, by omega⟩)] <;> (cases l.all finB <;> rfl)
  · simp only [Bool.true_and]
    show _ = match (li_rl b d ((m : Nat) : Int)).all finB with | true => _ | false => _
    unfold li_rl
    simp only [Int.toNat_natCast] <;> (cases (List.map (el_rl b d ((m : Nat) : Int)) (List.range' 0 m)).all finB <;> rfl)
def an_rlI : Ann := ⟨fun r => if r = 5 then some ([0, 1, 8, 22, 23], [8]) else none, fun _ _ => .quiet⟩
def tab_rlI : Fns := tabT [(66, gAllT nonB), (48, gT gIn), (74, gT g_rotor), (72, gLsT)]
theorem tabok_rlI : ∀ f, FnT Try.prog f (tab_rlI f) := (tabT_cons (k := 66) ok_areRotor (tabT_cons (k := 48) ok_within (tabT_cons (k := 74) ok_rotor (tabT_cons (k := 72) ok_checkedNumbers tabT_nil))))
def st_rlI5 (b0 : Nat) (d1 : Nat) (out8n : Nat) (t22 : Int) (t23 : Int) (l0 : List Nat) : St := ⟨[.fl .f32 b0, .fl .f32 d1, .any, .any, .any, .any, .any, .any, .sl 0 0 out8n, .any, .any, .any, .any, .any, .any, .any, .any, .any, .any, .any, .any, .any, .int .i64 t22, .int .i64 t23, .any, .any, .any, .any, .any, .any, .any, .any, .any, .any, .any, .any, .any, .any, .any, .any, .any, .any, .any, .any, .any], [.at true (.fl .f32 l0)]⟩
abbrev kp_rlI5 : Option (List Nat × List Nat) := some ([0, 1, 8, 22, 23], [8])
noncomputable def lp_rlI5 {R : Type} (N M : Nat) (s : St) (K : X → St → Option R) : Option R := loopH 0 kp_rlI5 (fun st K => exec ty tab_rlI an_rlI N 0 (atOf [true, true, true, false, true, false, false] Try.f44) st K) M s K
noncomputable def bk_rlI5 {R : Type} (N M : Nat) (K : X → St → Option R) : X → St → Option R := fun x st => match x with | .norm => tidyK 0 (kp_rlI5.map (·.1)) st fun st => lp_rlI5 N M st K | x => tidyK 0 (kp_rlI5.map (·.2)) st fun st => K x st
noncomputable def kt_rlI5 {R : Type} (N : Nat) (K : X → St → Option R) : X → St → Option R := kBlkR 0 (kSeqR tab_rlI an_rlI N 0 (atOf [true, true, true, true] Try.f44) (K))
def en_rlI5_0 (out8n : Nat) (l0 : List Nat) : St := ⟨[.any, .any, .any, .any, .any, .any, .any, .any, .sl 0 0 out8n, .any, .any, .any, .any, .any, .any, .any, .any, .any, .any, .any, .any, .any, .any, .any, .any, .any, .any, .any, .any, .any, .any, .any, .any, .any, .any, .any, .any, .any, .any, .any, .any, .any, .any, .any, .any], [.at true (.fl .f32 l0)]⟩
theorem run_rlI (N : Nat) (b : Nat) (d : Nat) (n : Int) : run ty tab_rlI an_rlI N Try.f44 [.fl .f32 b, .fl .f32 d, .int .i64 n] []
    = (match !(nonB b && (nonB d && true)) with
  | true => some (.tup [.a (.nil), .a (.bool false)], [])
  | false => (match !(inB n 1 40) with
    | true => some (.tup [.a (.nil), .a (.bool false)], [])
    | false => lp_rlI5 N N (st_rlI5 b d 0 n 0 []) (kt_rlI5 N (kEnd Try.f44 0)))) := by
  kernel_rfl
theorem step_rlI5 {R : Type} (N M : Nat) (K : X → St → Option R) (b0 : Nat) (d1 : Nat) (out8n : Nat) (t22 : Int) (t23 : Int) (l0 : List Nat) : lp_rlI5 N (M + 1) (st_rlI5 b0 d1 out8n t22 t23 l0) K
    = (match decide ((t23 : Int) < t22) with
  | true => (match apok true out8n 1 l0.length 1 (out8n + 1) 4 with
    | true => lp_rlI5 N M (st_rlI5 b0 d1 (out8n + 1) t22 (IntKind.i64.wrap (t23 + 1)) (l0 ++ [fop .sub .f32 (fop .mul .f32 b0 (v_rotor t23)) (fop .mul .f32 (fop .mul .f32 d1 (v_rotor t23)) (v_rotor t23))])) K
    | false => none)
  | false => K (.exit 0) (en_rlI5_0 out8n l0)) := by
  kernel_rfl
theorem end_rlI5_0 (N : Nat) (out8n : Nat) (l0 : List Nat) : kt_rlI5 N (kEnd Try.f44 0) (.exit 0) (en_rlI5_0 out8n l0)
    = (match decide (l0.length = out8n ∧ out8n < 2147483648) with
  | true => (match l0.all finB with
    | true => some (.tup [.a (.sl 0 0 out8n), .a (.bool true)], [.at true (.fl .f32 l0)])
    | false => some (.tup [.a (.nil), .a (.bool false)], []))
  | false => none) := by
  kernel_rfl

theorem ok_rlI : FnT Try.prog 44 g_rl := by
  refine fnT tabok_rlI Try.func44 rfl rfl an_rlI fun vs h v h' e => ?_
  unfold g_rl at e
  split at e
  case h_2 => exact (T.no_inv e).elim
  rename_i b d n
  refine ⟨n.toNat + 1, Eq.trans (run_rlI _ _ _ _) (Eq.trans ?_ e)⟩
  show _ = T.k _ _
  simp only [T.k]
  unfold ok_rl
  cases h0 : nonB b
  · rfl
  cases h1 : nonB d
  · rfl
  cases h2 : inB n 1 40
  · rfl
  have hb := inB_of h2
  obtain ⟨m, rfl⟩ : ∃ m : Nat, n = (m : Int) := ⟨n.toNat, by omega⟩
  rw [Int.toNat_natCast]
  refine Eq.trans (app_loop m (el_rl b d ((m : Nat) : Int)) (fun M i l => lp_rlI5 (m + 1) M (st_rlI5 b d i ((m : Nat) : Int) (i : Int) l) (kt_rlI5 (m + 1) (kEnd Try.f44 0))) (fun l => match l.all finB with | true => some (.tup [.a (.sl 0 0 m), .a (.bool true)], [.at true (.fl .f32 l)]) | false => some (nilF, [])) (fun M i l hi hl => ?_) (fun M l hl => ?_)) ?_
  · simp only [step_rlI5, dlt hi, apc hl (show i < 2147483648 by omega) (show 4 ≤ 16 by omega), wr (show i < 2147483648 by omega)]
    rfl
  · simp only [step_rlI5, dge (Nat.le_refl _), end_rlI5_0, decide_eq_true (show l.length = m ∧ m < 2147483648 from ⟨hl, by omega⟩)] <;> (cases l.all finB <;> rfl)
  · simp only [Bool.true_and]
    show _ = match (li_rl b d ((m : Nat) : Int)).all finB with | true => _ | false => _
    unfold li_rl
    simp only [Int.toNat_natCast] <;> (cases (List.map (el_rl b d ((m : Nat) : Int)) (List.range' 0 m)).all finB <;> rfl)
def tab_lawRotorLevels : Fns := tabT [(43, g_rl), (44, g_rl), (38, gEqT), (39, gMarkT), (40, gHeldT)]
theorem tabok_lawRotorLevels : ∀ f, FnT Try.prog f (tab_lawRotorLevels f) := (tabT_cons (k := 43) ok_rlS (tabT_cons (k := 44) ok_rlI (tabT_cons (k := 38) ok_eqF (tabT_cons (k := 39) ok_markF (tabT_cons (k := 40) ok_heldF tabT_nil)))))
theorem run_lawRotorLevels (N : Nat) (b : Nat) (d : Nat) (n : Int) : run ty tab_lawRotorLevels ann0 N Try.f13 [.fl .f32 b, .fl .f32 d, .int .i64 n] []
    = (match ok_rl b d n with
  | true => (match ok_rl b d n with
    | true => (match decide ((li_rl b d n).length = n.toNat ∧ (li_rl b d n).length = n.toNat ∧ n.toNat < 2147483648 ∧ n.toNat < 2147483648) with
      | true => (match !(eqFB (li_rl b d n) (li_rl b d n)) with
        | true => some (.bool false, [])
        | false => (match decide ((li_rl b d n).length = n.toNat ∧ n.toNat < 2147483648 ∧ 0 ≤ (1 : Int) ∧ (1 : Int) < 2147483648) with
          | true => (match decide (marks 1 n.toNat = marks 1 n.toNat ∧ n.toNat < 2147483648 ∧ 0 ≤ (1 : Int) ∧ (1 : Int) < 2147483648) with
            | true => (match decide ((1 + (n.toNat : Int) : Int) < 0) with
              | true => some (.bool false, [])
              | false => (match (1 + (n.toNat : Int)) != (1 + (n.toNat : Int)) with
                | true => some (.bool false, [])
                | false => (match ok_rl b d n with
                  | true => (match decide ((li_rl b d n).length = n.toNat ∧ (li_rl b d n).length = n.toNat ∧ n.toNat < 2147483648 ∧ n.toNat < 2147483648) with
                    | true => (match !(eqFB (li_rl b d n) (li_rl b d n)) with
                      | true => some (.bool false, [])
                      | false => (match decide (marks 1 n.toNat = marks 1 n.toNat ∧ n.toNat < 2147483648 ∧ 0 ≤ (1 : Int) ∧ (1 : Int) < 2147483648) with
                        | true => (match decide ((1 + (n.toNat : Int) : Int) < 0) with
                          | true => some (.bool false, [])
                          | false => (match (1 + (n.toNat : Int)) != (1 + (n.toNat : Int)) with
                            | true => some (.bool false, [])
                            | false => some (.bool true, [])))
                        | false => none))
                    | false => none)
                  | false => none)))
            | false => none)
          | false => none))
      | false => none)
    | false => none)
  | false => (match ok_rl b d n with
    | true => none
    | false => (match ok_rl b d n with
      | true => none
      | false => some (.bool true, [])))) := by
  kernel_rfl

theorem ok_lawRotorLevels : FnOk Try.prog 13 (fun vs h => match vs, h with | [.fl .f32 b, .fl .f32 d, .int .i64 n], [] => some (.bool true, []) | _, _ => none) := by
  refine fnOk tabok_lawRotorLevels Try.func13 rfl rfl ann0 fun vs h v h' e => ⟨0, ?_⟩
  split at e
  case h_2 => cases e
  rename_i b d n
  cases e
  refine Eq.trans (run_lawRotorLevels 0 _ _ _) ?_
  cases hok : ok_rl b d n with
  | false => rfl
  | true =>
    have hk : n.toNat < 2147483648 := by
      unfold ok_rl at hok
      simp only [Bool.and_eq_true] at hok
      have := inB_of hok.2.2.1
      omega
    have hl : (li_rl b d n).length = n.toNat := len_rl b d n
    have h1 : decide ((li_rl b d n).length = n.toNat ∧ (li_rl b d n).length = n.toNat ∧ n.toNat < 2147483648 ∧ n.toNat < 2147483648) = true := decide_eq_true ⟨hl, hl, hk, hk⟩
    have h2 : decide ((li_rl b d n).length = n.toNat ∧ n.toNat < 2147483648 ∧ 0 ≤ (1 : Int) ∧ (1 : Int) < 2147483648) = true := decide_eq_true ⟨hl, hk, by omega, by omega⟩
    have h3 : decide (marks 1 (n.toNat) = marks 1 (n.toNat) ∧ n.toNat < 2147483648 ∧ 0 ≤ (1 : Int) ∧ (1 : Int) < 2147483648) = true := decide_eq_true ⟨rfl, hk, by omega, by omega⟩
    have h3' : decide (True ∧ n.toNat < 2147483648 ∧ 0 ≤ (1 : Int) ∧ (1 : Int) < 2147483648) = true := decide_eq_true ⟨trivial, hk, by omega, by omega⟩
    have h4 : decide ((1 + ((n.toNat : Nat) : Int) : Int) < 0) = false := decide_eq_false (by omega)
    have h5 : ((1 + ((n.toNat : Nat) : Int)) != (1 + ((n.toNat : Nat) : Int))) = false := by simp
    simp only [h1, h2, h3, h3', h4, h5, eqFB_self, Bool.not_true]
def el_cp (f : Nat) (s : Nat) (n : Int) (i : Nat) : Nat := fop .add .f32 f (fop .mul .f32 (floatOfInt .f32 (i : Int)) s)
def li_cp (f : Nat) (s : Nat) (n : Int) : List Nat := (List.range' 0 (n.toNat)).map (el_cp f s n)
def ok_cp (f : Nat) (s : Nat) (n : Int) : Bool := finB f && (posB s && (inB n 1 32 && ((li_cp f s n).all finB)))
def g_cp : GT := fun vs h => match vs, h with
  | [.fl .f32 f, .fl .f32 s, .int .i64 n], [] => .ite (ok_cp f s n) (.ret (.tup [.a (.sl 0 0 (n.toNat)), .a (.bool true)]) [.at true (.fl .f32 (li_cp f s n))]) (.ret nilF [])
  | _, _ => .no
theorem len_cp (f : Nat) (s : Nat) (n : Int) : (li_cp f s n).length = n.toNat := by simp [li_cp]
def an_cpS : Ann := ⟨fun r => if r = 5 then some ([0, 1, 2, 8, 9], [8]) else none, fun _ _ => .quiet⟩
def tab_cpS : Fns := tabT [(63, gT (gF1 finB)), (59, gT (gF1 posB)), (50, gT gIn), (76, gLsT)]
theorem tabok_cpS : ∀ f, FnT Try.prog f (tab_cpS f) := (tabT_cons (k := 63) ok_l01Finite (tabT_cons (k := 59) ok_l02Above (tabT_cons (k := 50) ok_l00In (tabT_cons (k := 76) ok_l02List tabT_nil))))
def st_cpS5 (first0 : Nat) (step1 : Nat) (count2 : Int) (out8n : Nat) (i9 : Int) (l0 : List Nat) : St := ⟨[.fl .f32 first0, .fl .f32 step1, .int .i64 count2, .any, .any, .any, .any, .any, .sl 0 0 out8n, .int .i64 i9, .any, .any, .any, .any, .any, .any, .any, .any, .any, .any, .any, .any, .any, .any, .any, .any, .any, .any, .any, .any, .any, .any, .any, .any, .any, .any, .any, .any, .any, .any, .any, .any], [.at true (.fl .f32 l0)]⟩
abbrev kp_cpS5 : Option (List Nat × List Nat) := some ([0, 1, 2, 8, 9], [8])
noncomputable def lp_cpS5 {R : Type} (N M : Nat) (s : St) (K : X → St → Option R) : Option R := loopH 0 kp_cpS5 (fun st K => exec ty tab_cpS an_cpS N 0 (atOf [true, true, true, false, true, false, false] Try.f45) st K) M s K
noncomputable def bk_cpS5 {R : Type} (N M : Nat) (K : X → St → Option R) : X → St → Option R := fun x st => match x with | .norm => tidyK 0 (kp_cpS5.map (·.1)) st fun st => lp_cpS5 N M st K | x => tidyK 0 (kp_cpS5.map (·.2)) st fun st => K x st
noncomputable def kt_cpS5 {R : Type} (N : Nat) (K : X → St → Option R) : X → St → Option R := kBlkR 0 (kSeqR tab_cpS an_cpS N 0 (atOf [true, true, true, true] Try.f45) (K))
def en_cpS5_0 (out8n : Nat) (l0 : List Nat) : St := ⟨[.any, .any, .any, .any, .any, .any, .any, .any, .sl 0 0 out8n, .any, .any, .any, .any, .any, .any, .any, .any, .any, .any, .any, .any, .any, .any, .any, .any, .any, .any, .any, .any, .any, .any, .any, .any, .any, .any, .any, .any, .any, .any, .any, .any, .any], [.at true (.fl .f32 l0)]⟩
theorem run_cpS (N : Nat) (f : Nat) (s : Nat) (n : Int) : run ty tab_cpS an_cpS N Try.f45 [.fl .f32 f, .fl .f32 s, .int .i64 n] []
    = (match !(finB f) with
  | true => some (.tup [.a (.nil), .a (.bool false)], [])
  | false => (match !(posB s) with
    | true => some (.tup [.a (.nil), .a (.bool false)], [])
    | false => (match !(inB n 1 32) with
      | true => some (.tup [.a (.nil), .a (.bool false)], [])
      | false => lp_cpS5 N N (st_cpS5 f s n 0 0 []) (kt_cpS5 N (kEnd Try.f45 0))))) := by
  kernel_rfl
theorem step_cpS5 {R : Type} (N M : Nat) (K : X → St → Option R) (first0 : Nat) (step1 : Nat) (count2 : Int) (out8n : Nat) (i9 : Int) (l0 : List Nat) : lp_cpS5 N (M + 1) (st_cpS5 first0 step1 count2 out8n i9 l0) K
    = (match decide ((i9 : Int) < count2) with
  | true => (match apok true out8n 1 l0.length 1 (out8n + 1) 4 with
    | true => lp_cpS5 N M (st_cpS5 first0 step1 count2 (out8n + 1) (IntKind.i64.wrap (i9 + 1)) (l0 ++ [fop .add .f32 first0 (fop .mul .f32 (floatOfInt .f32 i9) step1)])) K
    | false => none)
  | false => K (.exit 0) (en_cpS5_0 out8n l0)) := by
  kernel_rfl
theorem end_cpS5_0 (N : Nat) (out8n : Nat) (l0 : List Nat) : kt_cpS5 N (kEnd Try.f45 0) (.exit 0) (en_cpS5_0 out8n l0)
    = (match decide (l0.length = out8n ∧ out8n < 2147483648) with
  | true => (match l0.all finB with
    | true => some (.tup [.a (.sl 0 0 out8n), .a (.bool true)], [.at true (.fl .f32 l0)])
    | false => some (.tup [.a (.nil), .a (.bool false)], []))
  | false => none) := by
  kernel_rfl

theorem ok_cpS : FnT Try.prog 45 g_cp := by
  refine fnT tabok_cpS Try.func45 rfl rfl an_cpS fun vs h v h' e => ?_
  unfold g_cp at e
  split at e
  case h_2 => exact (T.no_inv e).elim
  rename_i f s n
  refine ⟨n.toNat + 1, Eq.trans (run_cpS _ _ _ _) (Eq.trans ?_ e)⟩
  show _ = T.k _ _
  simp only [T.k]
  unfold ok_cp
  cases h0 : finB f
  · rfl
  cases h1 : posB s
  · rfl
  cases h2 : inB n 1 32
  · rfl
  have hb := inB_of h2
  obtain ⟨m, rfl⟩ : ∃ m : Nat, n = (m : Int) := ⟨n.toNat, by omega⟩
  rw [Int.toNat_natCast]
  refine Eq.trans (app_loop m (el_cp f s ((m : Nat) : Int)) (fun M i l => lp_cpS5 (m + 1) M (st_cpS5 f s ((m : Nat) : Int) i (i : Int) l) (kt_cpS5 (m + 1) (kEnd Try.f45 0))) (fun l => match l.all finB with | true => some (.tup [.a (.sl 0 0 m), .a (.bool true)], [.at true (.fl .f32 l)]) | false => some (nilF, [])) (fun M i l hi hl => ?_) (fun M l hl => ?_)) ?_
  · simp only [step_cpS5, dlt hi, apc hl (show i < 2147483648 by omega) (show 4 ≤ 16 by omega), wr (show i < 2147483648 by omega)]
    rfl
  · simp only [step_cpS5, dge (Nat.le_refl _), end_cpS5_0, decide_eq_true (show l.length = m ∧ m < 2147483648 from ⟨hl, by omega⟩)] <;> (cases l.all finB <;> rfl)
  · simp only [Bool.true_and]
    show _ = match (li_cp f s ((m : Nat) : Int)).all finB with | true => _ | false => _
    unfold li_cp
    simp only [Int.toNat_natCast] <;> (cases (List.map (el_cp f s ((m : Nat) : Int)) (List.range' 0 m)).all finB <;> rfl)
def an_cpI : Ann := ⟨fun r => if r = 5 then some ([0, 1, 8, 25, 26], [8]) else none, fun _ _ => .quiet⟩
def tab_cpI : Fns := tabT [(77, gT (gF1 finB)), (61, gAllT posB), (48, gT gIn), (72, gLsT)]
theorem tabok_cpI : ∀ f, FnT Try.prog f (tab_cpI f) := (tabT_cons (k := 77) ok_IsFinite (tabT_cons (k := 61) ok_arePositive (tabT_cons (k := 48) ok_within (tabT_cons (k := 72) ok_checkedNumbers tabT_nil))))
def st_cpI5 (first0 : Nat) (step1 : Nat) (out8n : Nat) (t25 : Int) (t26 : Int) (l0 : List Nat) : St := ⟨[.fl .f32 first0, .fl .f32 step1, .any, .any, .any, .any, .any, .any, .sl 0 0 out8n, .any, .any, .any, .any, .any, .any, .any, .any, .any, .any, .any, .any, .any, .any, .any, .any, .int .i64 t25, .int .i64 t26, .any, .any, .any, .any, .any, .any, .any, .any, .any, .any, .any, .any, .any, .any, .any, .any], [.at true (.fl .f32 l0)]⟩
abbrev kp_cpI5 : Option (List Nat × List Nat) := some ([0, 1, 8, 25, 26], [8])
noncomputable def lp_cpI5 {R : Type} (N M : Nat) (s : St) (K : X → St → Option R) : Option R := loopH 0 kp_cpI5 (fun st K => exec ty tab_cpI an_cpI N 0 (atOf [true, true, true, false, true, false, false] Try.f46) st K) M s K
noncomputable def bk_cpI5 {R : Type} (N M : Nat) (K : X → St → Option R) : X → St → Option R := fun x st => match x with | .norm => tidyK 0 (kp_cpI5.map (·.1)) st fun st => lp_cpI5 N M st K | x => tidyK 0 (kp_cpI5.map (·.2)) st fun st => K x st
noncomputable def kt_cpI5 {R : Type} (N : Nat) (K : X → St → Option R) : X → St → Option R := kBlkR 0 (kSeqR tab_cpI an_cpI N 0 (atOf [true, true, true, true] Try.f46) (K))
def en_cpI5_0 (out8n : Nat) (l0 : List Nat) : St := ⟨[.any, .any, .any, .any, .any, .any, .any, .any, .sl 0 0 out8n, .any, .any, .any, .any, .any, .any, .any, .any, .any, .any, .any, .any, .any, .any, .any, .any, .any, .any, .any, .any, .any, .any, .any, .any, .any, .any, .any, .any, .any, .any, .any, .any, .any, .any], [.at true (.fl .f32 l0)]⟩
theorem run_cpI (N : Nat) (f : Nat) (s : Nat) (n : Int) : run ty tab_cpI an_cpI N Try.f46 [.fl .f32 f, .fl .f32 s, .int .i64 n] []
    = (match !(finB f) with
  | true => some (.tup [.a (.nil), .a (.bool false)], [])
  | false => (match !(posB s && true) with
    | true => some (.tup [.a (.nil), .a (.bool false)], [])
    | false => (match !(inB n 1 32) with
      | true => some (.tup [.a (.nil), .a (.bool false)], [])
      | false => lp_cpI5 N N (st_cpI5 f s 0 n 0 []) (kt_cpI5 N (kEnd Try.f46 0))))) := by
  kernel_rfl
theorem step_cpI5 {R : Type} (N M : Nat) (K : X → St → Option R) (first0 : Nat) (step1 : Nat) (out8n : Nat) (t25 : Int) (t26 : Int) (l0 : List Nat) : lp_cpI5 N (M + 1) (st_cpI5 first0 step1 out8n t25 t26 l0) K
    = (match decide ((t26 : Int) < t25) with
  | true => (match apok true out8n 1 l0.length 1 (out8n + 1) 4 with
    | true => lp_cpI5 N M (st_cpI5 first0 step1 (out8n + 1) t25 (IntKind.i64.wrap (t26 + 1)) (l0 ++ [fop .add .f32 first0 (fop .mul .f32 (floatOfInt .f32 t26) step1)])) K
    | false => none)
  | false => K (.exit 0) (en_cpI5_0 out8n l0)) := by
  kernel_rfl
theorem end_cpI5_0 (N : Nat) (out8n : Nat) (l0 : List Nat) : kt_cpI5 N (kEnd Try.f46 0) (.exit 0) (en_cpI5_0 out8n l0)
    = (match decide (l0.length = out8n ∧ out8n < 2147483648) with
  | true => (match l0.all finB with
    | true => some (.tup [.a (.sl 0 0 out8n), .a (.bool true)], [.at true (.fl .f32 l0)])
    | false => some (.tup [.a (.nil), .a (.bool false)], []))
  | false => none) := by
  kernel_rfl

theorem ok_cpI : FnT Try.prog 46 g_cp := by
  refine fnT tabok_cpI Try.func46 rfl rfl an_cpI fun vs h v h' e => ?_
  unfold g_cp at e
  split at e
  case h_2 => exact (T.no_inv e).elim
  rename_i f s n
  refine ⟨n.toNat + 1, Eq.trans (run_cpI _ _ _ _) (Eq.trans ?_ e)⟩
  show _ = T.k _ _
  simp only [T.k]
  unfold ok_cp
  cases h0 : finB f
  · rfl
  cases h1 : posB s
  · rfl
  cases h2 : inB n 1 32
  · rfl
  have hb := inB_of h2
  obtain ⟨m, rfl⟩ : ∃ m : Nat, n = (m : Int) := ⟨n.toNat, by omega⟩
  rw [Int.toNat_natCast]
  refine Eq.trans (app_loop m (el_cp f s ((m : Nat) : Int)) (fun M i l => lp_cpI5 (m + 1) M (st_cpI5 f s i ((m : Nat) : Int) (i : Int) l) (kt_cpI5 (m + 1) (kEnd Try.f46 0))) (fun l => match l.all finB with | true => some (.tup [.a (.sl 0 0 m), .a (.bool true)], [.at true (.fl .f32 l)]) | false => some (nilF, [])) (fun M i l hi hl => ?_) (fun M l hl => ?_)) ?_
  · simp only [step_cpI5, dlt hi, apc hl (show i < 2147483648 by omega) (show 4 ≤ 16 by omega), wr (show i < 2147483648 by omega)]
    rfl
  · simp only [step_cpI5, dge (Nat.le_refl _), end_cpI5_0, decide_eq_true (show l.length = m ∧ m < 2147483648 from ⟨hl, by omega⟩)] <;> (cases l.all finB <;> rfl)
  · simp only [Bool.true_and]
    show _ = match (li_cp f s ((m : Nat) : Int)).all finB with | true => _ | false => _
    unfold li_cp
    simp only [Int.toNat_natCast] <;> (cases (List.map (el_cp f s ((m : Nat) : Int)) (List.range' 0 m)).all finB <;> rfl)
def tab_lawCombPlaces : Fns := tabT [(45, g_cp), (46, g_cp), (38, gEqT), (39, gMarkT), (40, gHeldT)]
theorem tabok_lawCombPlaces : ∀ f, FnT Try.prog f (tab_lawCombPlaces f) := (tabT_cons (k := 45) ok_cpS (tabT_cons (k := 46) ok_cpI (tabT_cons (k := 38) ok_eqF (tabT_cons (k := 39) ok_markF (tabT_cons (k := 40) ok_heldF tabT_nil)))))
theorem run_lawCombPlaces (N : Nat) (f : Nat) (s : Nat) (n : Int) : run ty tab_lawCombPlaces ann0 N Try.f14 [.fl .f32 f, .fl .f32 s, .int .i64 n] []
    = (match ok_cp f s n with
  | true => (match ok_cp f s n with
    | true => (match decide ((li_cp f s n).length = n.toNat ∧ (li_cp f s n).length = n.toNat ∧ n.toNat < 2147483648 ∧ n.toNat < 2147483648) with
      | true => (match !(eqFB (li_cp f s n) (li_cp f s n)) with
        | true => some (.bool false, [])
        | false => (match decide ((li_cp f s n).length = n.toNat ∧ n.toNat < 2147483648 ∧ 0 ≤ (1 : Int) ∧ (1 : Int) < 2147483648) with
          | true => (match decide (marks 1 n.toNat = marks 1 n.toNat ∧ n.toNat < 2147483648 ∧ 0 ≤ (1 : Int) ∧ (1 : Int) < 2147483648) with
            | true => (match decide ((1 + (n.toNat : Int) : Int) < 0) with
              | true => some (.bool false, [])
              | false => (match (1 + (n.toNat : Int)) != (1 + (n.toNat : Int)) with
                | true => some (.bool false, [])
                | false => (match ok_cp f s n with
                  | true => (match decide ((li_cp f s n).length = n.toNat ∧ (li_cp f s n).length = n.toNat ∧ n.toNat < 2147483648 ∧ n.toNat < 2147483648) with
                    | true => (match !(eqFB (li_cp f s n) (li_cp f s n)) with
                      | true => some (.bool false, [])
                      | false => (match decide (marks 1 n.toNat = marks 1 n.toNat ∧ n.toNat < 2147483648 ∧ 0 ≤ (1 : Int) ∧ (1 : Int) < 2147483648) with
                        | true => (match decide ((1 + (n.toNat : Int) : Int) < 0) with
                          | true => some (.bool false, [])
                          | false => (match (1 + (n.toNat : Int)) != (1 + (n.toNat : Int)) with
                            | true => some (.bool false, [])
                            | false => some (.bool true, [])))
                        | false => none))
                    | false => none)
                  | false => none)))
            | false => none)
          | false => none))
      | false => none)
    | false => none)
  | false => (match ok_cp f s n with
    | true => none
    | false => (match ok_cp f s n with
      | true => none
      | false => some (.bool true, [])))) := by
  kernel_rfl

theorem ok_lawCombPlaces : FnOk Try.prog 14 (fun vs h => match vs, h with | [.fl .f32 f, .fl .f32 s, .int .i64 n], [] => some (.bool true, []) | _, _ => none) := by
  refine fnOk tabok_lawCombPlaces Try.func14 rfl rfl ann0 fun vs h v h' e => ⟨0, ?_⟩
  split at e
  case h_2 => cases e
  rename_i f s n
  cases e
  refine Eq.trans (run_lawCombPlaces 0 _ _ _) ?_
  cases hok : ok_cp f s n with
  | false => rfl
  | true =>
    have hk : n.toNat < 2147483648 := by
      unfold ok_cp at hok
      simp only [Bool.and_eq_true] at hok
      have := inB_of hok.2.2.1
      omega
    have hl : (li_cp f s n).length = n.toNat := len_cp f s n
    have h1 : decide ((li_cp f s n).length = n.toNat ∧ (li_cp f s n).length = n.toNat ∧ n.toNat < 2147483648 ∧ n.toNat < 2147483648) = true := decide_eq_true ⟨hl, hl, hk, hk⟩
    have h2 : decide ((li_cp f s n).length = n.toNat ∧ n.toNat < 2147483648 ∧ 0 ≤ (1 : Int) ∧ (1 : Int) < 2147483648) = true := decide_eq_true ⟨hl, hk, by omega, by omega⟩
    have h3 : decide (marks 1 (n.toNat) = marks 1 (n.toNat) ∧ n.toNat < 2147483648 ∧ 0 ≤ (1 : Int) ∧ (1 : Int) < 2147483648) = true := decide_eq_true ⟨rfl, hk, by omega, by omega⟩
    have h3' : decide (True ∧ n.toNat < 2147483648 ∧ 0 ≤ (1 : Int) ∧ (1 : Int) < 2147483648) = true := decide_eq_true ⟨trivial, hk, by omega, by omega⟩
    have h4 : decide ((1 + ((n.toNat : Nat) : Int) : Int) < 0) = false := decide_eq_false (by omega)
    have h5 : ((1 + ((n.toNat : Nat) : Int)) != (1 + ((n.toNat : Nat) : Int))) = false := by simp
    simp only [h1, h2, h3, h3', h4, h5, eqFB_self, Bool.not_true]
def el_tl (a : Nat) (b : Nat) (j : Int) (i : Nat) : Nat := fop .add .f32 (fop .mul .f32 b (v_rotor j)) (fop .mul .f32 (fop .mul .f32 (fop .sub .f32 a b) (floatOfInt .f32 (i : Int))) (floatOfInt .f32 (i : Int)))
def li_tl (a : Nat) (b : Nat) (j : Int) : List Nat := (List.range' 0 ((j + 1).toNat)).map (el_tl a b j)
def ok_tl (a : Nat) (b : Nat) (j : Int) : Bool := nonB a && (nonB b && (inB j 0 40 && ((li_tl a b j).all finB)))
def g_tl : GT := fun vs h => match vs, h with
  | [.fl .f32 a, .fl .f32 b, .int .i64 j], [] => .ite (ok_tl a b j) (.ret (.tup [.a (.sl 0 0 ((j + 1).toNat)), .a (.bool true)]) [.at true (.fl .f32 (li_tl a b j))]) (.ret nilF [])
  | _, _ => .no
theorem len_tl (a : Nat) (b : Nat) (j : Int) : (li_tl a b j).length = (j + 1).toNat := by simp [li_tl]
def an_tlS : Ann := ⟨fun r => if r = 5 then some ([0, 1, 2, 8, 9], [8]) else none, fun _ _ => .quiet⟩
def tab_tlS : Fns := tabT [(70, gT (gF1 nonB)), (50, gT gIn), (73, gT g_l03Q), (71, gLsT)]
theorem tabok_tlS : ∀ f, FnT Try.prog f (tab_tlS f) := (tabT_cons (k := 70) ok_l03Least (tabT_cons (k := 50) ok_l00In (tabT_cons (k := 73) ok_l03Q (tabT_cons (k := 71) ok_l03List tabT_nil))))
def st_tlS5 (a0 : Nat) (b1 : Nat) (j2 : Int) (out8n : Nat) (k9 : Int) (l0 : List Nat) : St := ⟨[.fl .f32 a0, .fl .f32 b1, .int .i64 j2, .any, .any, .any, .any, .any, .sl 0 0 out8n, .int .i64 k9, .any, .any, .any, .any, .any, .any, .any, .any, .any, .any, .any, .any, .any, .any, .any, .any, .any, .any, .any, .any, .any, .any, .any, .any, .any, .any, .any, .any, .any, .any, .any, .any, .any, .any, .any, .any, .any, .any, .any, .any, .any, .any], [.at true (.fl .f32 l0)]⟩
abbrev kp_tlS5 : Option (List Nat × List Nat) := some ([0, 1, 2, 8, 9], [8])
noncomputable def lp_tlS5 {R : Type} (N M : Nat) (s : St) (K : X → St → Option R) : Option R := loopH 0 kp_tlS5 (fun st K => exec ty tab_tlS an_tlS N 0 (atOf [true, true, true, false, true, false, false] Try.f41) st K) M s K
noncomputable def bk_tlS5 {R : Type} (N M : Nat) (K : X → St → Option R) : X → St → Option R := fun x st => match x with | .norm => tidyK 0 (kp_tlS5.map (·.1)) st fun st => lp_tlS5 N M st K | x => tidyK 0 (kp_tlS5.map (·.2)) st fun st => K x st
noncomputable def kt_tlS5 {R : Type} (N : Nat) (K : X → St → Option R) : X → St → Option R := kBlkR 0 (kSeqR tab_tlS an_tlS N 0 (atOf [true, true, true, true] Try.f41) (K))
def en_tlS5_0 (out8n : Nat) (l0 : List Nat) : St := ⟨[.any, .any, .any, .any, .any, .any, .any, .any, .sl 0 0 out8n, .any, .any, .any, .any, .any, .any, .any, .any, .any, .any, .any, .any, .any, .any, .any, .any, .any, .any, .any, .any, .any, .any, .any, .any, .any, .any, .any, .any, .any, .any, .any, .any, .any, .any, .any, .any, .any, .any, .any, .any, .any, .any, .any], [.at true (.fl .f32 l0)]⟩
theorem run_tlS (N : Nat) (a : Nat) (b : Nat) (j : Int) : run ty tab_tlS an_tlS N Try.f41 [.fl .f32 a, .fl .f32 b, .int .i64 j] []
    = (match !(nonB a) with
  | true => some (.tup [.a (.nil), .a (.bool false)], [])
  | false => (match !(nonB b) with
    | true => some (.tup [.a (.nil), .a (.bool false)], [])
    | false => (match !(inB j 0 40) with
      | true => some (.tup [.a (.nil), .a (.bool false)], [])
      | false => lp_tlS5 N N (st_tlS5 a b j 0 0 []) (kt_tlS5 N (kEnd Try.f41 0))))) := by
  kernel_rfl
theorem step_tlS5 {R : Type} (N M : Nat) (K : X → St → Option R) (a0 : Nat) (b1 : Nat) (j2 : Int) (out8n : Nat) (k9 : Int) (l0 : List Nat) : lp_tlS5 N (M + 1) (st_tlS5 a0 b1 j2 out8n k9 l0) K
    = (match decide ((k9 : Int) ≤ j2) with
  | true => (match apok true out8n 1 l0.length 1 (out8n + 1) 4 with
    | true => lp_tlS5 N M (st_tlS5 a0 b1 j2 (out8n + 1) (IntKind.i64.wrap (k9 + 1)) (l0 ++ [fop .add .f32 (fop .mul .f32 b1 (v_rotor j2)) (fop .mul .f32 (fop .mul .f32 (fop .sub .f32 a0 b1) (floatOfInt .f32 k9)) (floatOfInt .f32 k9))])) K
    | false => none)
  | false => K (.exit 0) (en_tlS5_0 out8n l0)) := by
  kernel_rfl
theorem end_tlS5_0 (N : Nat) (out8n : Nat) (l0 : List Nat) : kt_tlS5 N (kEnd Try.f41 0) (.exit 0) (en_tlS5_0 out8n l0)
    = (match decide (l0.length = out8n ∧ out8n < 2147483648) with
  | true => (match l0.all finB with
    | true => some (.tup [.a (.sl 0 0 out8n), .a (.bool true)], [.at true (.fl .f32 l0)])
    | false => some (.tup [.a (.nil), .a (.bool false)], []))
  | false => none) := by
  kernel_rfl

theorem ok_tlS : FnT Try.prog 41 g_tl := by
  refine fnT tabok_tlS Try.func41 rfl rfl an_tlS fun vs h v h' e => ?_
  unfold g_tl at e
  split at e
  case h_2 => exact (T.no_inv e).elim
  rename_i a b j
  refine ⟨(j + 1).toNat + 1, Eq.trans (run_tlS _ _ _ _) (Eq.trans ?_ e)⟩
  show _ = T.k _ _
  simp only [T.k]
  unfold ok_tl
  cases h0 : nonB a
  · rfl
  cases h1 : nonB b
  · rfl
  cases h2 : inB j 0 40
  · rfl
  have hb := inB_of h2
  obtain ⟨m, hm⟩ : ∃ m : Nat, j + 1 = (m : Int) := ⟨(j + 1).toNat, by omega⟩
  have hw : IntKind.i64.wrap (j + 1) = (m : Int) := by rw [wrap_s (by omega) (by omega), hm]
  rw [hm, Int.toNat_natCast]
  refine Eq.trans (app_loop m (el_tl a b j) (fun M i l => lp_tlS5 (m + 1) M (st_tlS5 a b j i (i : Int) l) (kt_tlS5 (m + 1) (kEnd Try.f41 0))) (fun l => match l.all finB with | true => some (.tup [.a (.sl 0 0 m), .a (.bool true)], [.at true (.fl .f32 l)]) | false => some (nilF, [])) (fun M i l hi hl => ?_) (fun M l hl => ?_)) ?_
  · simp only [step_tlS5, decide_eq_true (show (i : Int) ≤ j by omega), apc hl (show i < 2147483648 by omega) (show 4 ≤ 16 by omega), wr (show i < 2147483648 by omega)]
    rfl
  · simp only [step_tlS5, decide_eq_false (show ¬ ((m : Nat) : Int) ≤ j by omega), end_tlS5_0, decide_eq_true (show l.length = m ∧ m < 2147483648 from ⟨hl, by omega⟩)] <;> (cases l.all finB <;> rfl)
  · simp only [Bool.true_and]
    show _ = match (li_tl a b j).all finB with | true => _ | false => _
    unfold li_tl
    simp only [hm, Int.toNat_natCast] <;> (cases (List.map (el_tl a b j) (List.range' 0 m)).all finB <;> rfl)
def an_tlI : Ann := ⟨fun r => if r = 5 then some ([0, 1, 2, 8, 23, 24], [8]) else none, fun _ _ => .quiet⟩
def tab_tlI : Fns := tabT [(66, gAllT nonB), (48, gT gIn), (74, gT g_rotor), (72, gLsT)]
theorem tabok_tlI : ∀ f, FnT Try.prog f (tab_tlI f) := (tabT_cons (k := 66) ok_areRotor (tabT_cons (k := 48) ok_within (tabT_cons (k := 74) ok_rotor (tabT_cons (k := 72) ok_checkedNumbers tabT_nil))))
def st_tlI5 (a0 : Nat) (b1 : Nat) (j2 : Int) (out8n : Nat) (t23 : Int) (t24 : Int) (l0 : List Nat) : St := ⟨[.fl .f32 a0, .fl .f32 b1, .int .i64 j2, .any, .any, .any, .any, .any, .sl 0 0 out8n, .any, .any, .any, .any, .any, .any, .any, .any, .any, .any, .any, .any, .any, .any, .int .i64 t23, .int .i64 t24, .any, .any, .any, .any, .any, .any, .any, .any, .any, .any, .any, .any, .any, .any, .any, .any, .any, .any, .any, .any, .any, .any, .any, .any], [.at true (.fl .f32 l0)]⟩
abbrev kp_tlI5 : Option (List Nat × List Nat) := some ([0, 1, 2, 8, 23, 24], [8])
noncomputable def lp_tlI5 {R : Type} (N M : Nat) (s : St) (K : X → St → Option R) : Option R := loopH 0 kp_tlI5 (fun st K => exec ty tab_tlI an_tlI N 0 (atOf [true, true, true, false, true, false, false] Try.f42) st K) M s K
noncomputable def bk_tlI5 {R : Type} (N M : Nat) (K : X → St → Option R) : X → St → Option R := fun x st => match x with | .norm => tidyK 0 (kp_tlI5.map (·.1)) st fun st => lp_tlI5 N M st K | x => tidyK 0 (kp_tlI5.map (·.2)) st fun st => K x st
noncomputable def kt_tlI5 {R : Type} (N : Nat) (K : X → St → Option R) : X → St → Option R := kBlkR 0 (kSeqR tab_tlI an_tlI N 0 (atOf [true, true, true, true] Try.f42) (K))
def en_tlI5_0 (out8n : Nat) (l0 : List Nat) : St := ⟨[.any, .any, .any, .any, .any, .any, .any, .any, .sl 0 0 out8n, .any, .any, .any, .any, .any, .any, .any, .any, .any, .any, .any, .any, .any, .any, .any, .any, .any, .any, .any, .any, .any, .any, .any, .any, .any, .any, .any, .any, .any, .any, .any, .any, .any, .any, .any, .any, .any, .any, .any, .any], [.at true (.fl .f32 l0)]⟩
theorem run_tlI (N : Nat) (a : Nat) (b : Nat) (j : Int) : run ty tab_tlI an_tlI N Try.f42 [.fl .f32 a, .fl .f32 b, .int .i64 j] []
    = (match !(nonB a && (nonB b && true)) with
  | true => some (.tup [.a (.nil), .a (.bool false)], [])
  | false => (match !(inB j 0 40) with
    | true => some (.tup [.a (.nil), .a (.bool false)], [])
    | false => lp_tlI5 N N (st_tlI5 a b j 0 (IntKind.i64.wrap (j + 1)) 0 []) (kt_tlI5 N (kEnd Try.f42 0)))) := by
  kernel_rfl
theorem step_tlI5 {R : Type} (N M : Nat) (K : X → St → Option R) (a0 : Nat) (b1 : Nat) (j2 : Int) (out8n : Nat) (t23 : Int) (t24 : Int) (l0 : List Nat) : lp_tlI5 N (M + 1) (st_tlI5 a0 b1 j2 out8n t23 t24 l0) K
    = (match decide ((t24 : Int) < t23) with
  | true => (match apok true out8n 1 l0.length 1 (out8n + 1) 4 with
    | true => lp_tlI5 N M (st_tlI5 a0 b1 j2 (out8n + 1) t23 (IntKind.i64.wrap (t24 + 1)) (l0 ++ [fop .add .f32 (fop .mul .f32 b1 (v_rotor j2)) (fop .mul .f32 (fop .mul .f32 (fop .sub .f32 a0 b1) (floatOfInt .f32 t24)) (floatOfInt .f32 t24))])) K
    | false => none)
  | false => K (.exit 0) (en_tlI5_0 out8n l0)) := by
  kernel_rfl
theorem end_tlI5_0 (N : Nat) (out8n : Nat) (l0 : List Nat) : kt_tlI5 N (kEnd Try.f42 0) (.exit 0) (en_tlI5_0 out8n l0)
    = (match decide (l0.length = out8n ∧ out8n < 2147483648) with
  | true => (match l0.all finB with
    | true => some (.tup [.a (.sl 0 0 out8n), .a (.bool true)], [.at true (.fl .f32 l0)])
    | false => some (.tup [.a (.nil), .a (.bool false)], []))
  | false => none) := by
  kernel_rfl

theorem ok_tlI : FnT Try.prog 42 g_tl := by
  refine fnT tabok_tlI Try.func42 rfl rfl an_tlI fun vs h v h' e => ?_
  unfold g_tl at e
  split at e
  case h_2 => exact (T.no_inv e).elim
  rename_i a b j
  refine ⟨(j + 1).toNat + 1, Eq.trans (run_tlI _ _ _ _) (Eq.trans ?_ e)⟩
  show _ = T.k _ _
  simp only [T.k]
  unfold ok_tl
  cases h0 : nonB a
  · rfl
  cases h1 : nonB b
  · rfl
  cases h2 : inB j 0 40
  · rfl
  have hb := inB_of h2
  obtain ⟨m, hm⟩ : ∃ m : Nat, j + 1 = (m : Int) := ⟨(j + 1).toNat, by omega⟩
  have hw : IntKind.i64.wrap (j + 1) = (m : Int) := by rw [wrap_s (by omega) (by omega), hm]
  rw [hw, hm, Int.toNat_natCast]
  refine Eq.trans (app_loop m (el_tl a b j) (fun M i l => lp_tlI5 (m + 1) M (st_tlI5 a b j i ((m : Nat) : Int) (i : Int) l) (kt_tlI5 (m + 1) (kEnd Try.f42 0))) (fun l => match l.all finB with | true => some (.tup [.a (.sl 0 0 m), .a (.bool true)], [.at true (.fl .f32 l)]) | false => some (nilF, [])) (fun M i l hi hl => ?_) (fun M l hl => ?_)) ?_
  · simp only [step_tlI5, dlt hi, apc hl (show i < 2147483648 by omega) (show 4 ≤ 16 by omega), wr (show i < 2147483648 by omega)]
    rfl
  · simp only [step_tlI5, dge (Nat.le_refl _), end_tlI5_0, decide_eq_true (show l.length = m ∧ m < 2147483648 from ⟨hl, by omega⟩)] <;> (cases l.all finB <;> rfl)
  · simp only [Bool.true_and]
    show _ = match (li_tl a b j).all finB with | true => _ | false => _
    unfold li_tl
    simp only [hm, Int.toNat_natCast] <;> (cases (List.map (el_tl a b j) (List.range' 0 m)).all finB <;> rfl)
def tab_lawTopLevels : Fns := tabT [(41, g_tl), (42, g_tl), (38, gEqT), (39, gMarkT), (40, gHeldT)]
theorem tabok_lawTopLevels : ∀ f, FnT Try.prog f (tab_lawTopLevels f) := (tabT_cons (k := 41) ok_tlS (tabT_cons (k := 42) ok_tlI (tabT_cons (k := 38) ok_eqF (tabT_cons (k := 39) ok_markF (tabT_cons (k := 40) ok_heldF tabT_nil)))))
theorem run_lawTopLevels (N : Nat) (a : Nat) (b : Nat) (j : Int) : run ty tab_lawTopLevels ann0 N Try.f12 [.fl .f32 a, .fl .f32 b, .int .i64 j] []
    = (match ok_tl a b j with
  | true => (match ok_tl a b j with
    | true => (match decide ((li_tl a b j).length = (j + 1).toNat ∧ (li_tl a b j).length = (j + 1).toNat ∧ (j + 1).toNat < 2147483648 ∧ (j + 1).toNat < 2147483648) with
      | true => (match !(eqFB (li_tl a b j) (li_tl a b j)) with
        | true => some (.bool false, [])
        | false => (match decide ((li_tl a b j).length = (j + 1).toNat ∧ (j + 1).toNat < 2147483648 ∧ 0 ≤ (1 : Int) ∧ (1 : Int) < 2147483648) with
          | true => (match decide (marks 1 ((j + 1).toNat) = marks 1 ((j + 1).toNat) ∧ (j + 1).toNat < 2147483648 ∧ 0 ≤ (1 : Int) ∧ (1 : Int) < 2147483648) with
            | true => (match decide ((1 + ((j + 1).toNat : Int) : Int) < 0) with
              | true => some (.bool false, [])
              | false => (match (1 + ((j + 1).toNat : Int)) != (1 + ((j + 1).toNat : Int)) with
                | true => some (.bool false, [])
                | false => (match ok_tl a b j with
                  | true => (match decide ((li_tl a b j).length = (j + 1).toNat ∧ (li_tl a b j).length = (j + 1).toNat ∧ (j + 1).toNat < 2147483648 ∧ (j + 1).toNat < 2147483648) with
                    | true => (match !(eqFB (li_tl a b j) (li_tl a b j)) with
                      | true => some (.bool false, [])
                      | false => (match decide (marks 1 ((j + 1).toNat) = marks 1 ((j + 1).toNat) ∧ (j + 1).toNat < 2147483648 ∧ 0 ≤ (1 : Int) ∧ (1 : Int) < 2147483648) with
                        | true => (match decide ((1 + ((j + 1).toNat : Int) : Int) < 0) with
                          | true => some (.bool false, [])
                          | false => (match (1 + ((j + 1).toNat : Int)) != (1 + ((j + 1).toNat : Int)) with
                            | true => some (.bool false, [])
                            | false => some (.bool true, [])))
                        | false => none))
                    | false => none)
                  | false => none)))
            | false => none)
          | false => none))
      | false => none)
    | false => none)
  | false => (match ok_tl a b j with
    | true => none
    | false => (match ok_tl a b j with
      | true => none
      | false => some (.bool true, [])))) := by
  kernel_rfl

theorem ok_lawTopLevels : FnOk Try.prog 12 (fun vs h => match vs, h with | [.fl .f32 a, .fl .f32 b, .int .i64 j], [] => some (.bool true, []) | _, _ => none) := by
  refine fnOk tabok_lawTopLevels Try.func12 rfl rfl ann0 fun vs h v h' e => ⟨0, ?_⟩
  split at e
  case h_2 => cases e
  rename_i a b j
  cases e
  refine Eq.trans (run_lawTopLevels 0 _ _ _) ?_
  cases hok : ok_tl a b j with
  | false => rfl
  | true =>
    have hk : (j + 1).toNat < 2147483648 := by
      unfold ok_tl at hok
      simp only [Bool.and_eq_true] at hok
      have := inB_of hok.2.2.1
      omega
    have hl : (li_tl a b j).length = (j + 1).toNat := len_tl a b j
    have h1 : decide ((li_tl a b j).length = (j + 1).toNat ∧ (li_tl a b j).length = (j + 1).toNat ∧ (j + 1).toNat < 2147483648 ∧ (j + 1).toNat < 2147483648) = true := decide_eq_true ⟨hl, hl, hk, hk⟩
    have h2 : decide ((li_tl a b j).length = (j + 1).toNat ∧ (j + 1).toNat < 2147483648 ∧ 0 ≤ (1 : Int) ∧ (1 : Int) < 2147483648) = true := decide_eq_true ⟨hl, hk, by omega, by omega⟩
    have h3 : decide (marks 1 ((j + 1).toNat) = marks 1 ((j + 1).toNat) ∧ (j + 1).toNat < 2147483648 ∧ 0 ≤ (1 : Int) ∧ (1 : Int) < 2147483648) = true := decide_eq_true ⟨rfl, hk, by omega, by omega⟩
    have h3' : decide (True ∧ (j + 1).toNat < 2147483648 ∧ 0 ≤ (1 : Int) ∧ (1 : Int) < 2147483648) = true := decide_eq_true ⟨trivial, hk, by omega, by omega⟩
    have h4 : decide ((1 + (((j + 1).toNat : Nat) : Int) : Int) < 0) = false := decide_eq_false (by omega)
    have h5 : ((1 + (((j + 1).toNat : Nat) : Int)) != (1 + (((j + 1).toNat : Nat) : Int))) = false := by simp
    simp only [h1, h2, h3, h3', h4, h5, eqFB_self, Bool.not_true]
end Go.Proofs.Ytjjdfeemkkeokaa.Ab
