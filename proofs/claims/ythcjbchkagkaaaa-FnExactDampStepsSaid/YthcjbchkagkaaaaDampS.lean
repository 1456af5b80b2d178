/- DampSteps. Only lemmas. Printed by gen_damp2.py. -/
import Derived.Test.YthcjbchkagkaaaaRotor
namespace Go.Proofs.Ythcjbchkagkaaaa.Ab
set_option linter.unusedVariables false
set_option linter.unusedSimpArgs false
open Go
def v3B (n : Nat) (l : List Nat) : Bool := (((n : Nat) : Int) == 3) && l.all finB
def gV3 : GT := fun vs h => match vs, h with
  | [.sl 0 0 n], [.at rw (.fl .f32 l)] => .ite (decide (l.length = n ∧ n < 2147483648)) (.ret (.bool (v3B n l)) [.at rw (.fl .f32 l)]) .no
  | _, _ => .no
theorem nonB_eq (x : Nat) : nonB x = (finB x && !ltB x 0) := by
  have h := not_non x
  cases hf : finB x with
  | false => unfold nonB; rw [hf]; rfl
  | true =>
    rw [hf] at h
    have h : ltB x 0 = !nonB x := h
    rw [h]
    cases nonB x <;> rfl
def timesB (h : Nat) (n : Int) : Bool := nonB h && inB n 0 512
def gTimes : G := fun vs h => match vs, h with | [.fl .f32 x, .int .i64 n], [] => some (.bool (timesB x n), []) | _, _ => none
def tab_three : Fns := tabT [(100, gAllT finB)]
theorem tabok_three : ∀ f, FnT Try.prog f (tab_three f) := (tabT_cons (k := 100) ok_l02Finite tabT_nil)
theorem run_three (N : Nat) (n : Nat) (rw : Bool) (l : List Nat) : run ty tab_three ann0 N Try.f75 [.sl 0 0 n] [.at rw (.fl .f32 l)]
    = (match ((n : Nat) : Int) == 3 with
  | true => (match decide (l.length = n ∧ n < 2147483648) with
    | true => some (.bool (l.all finB), [.at rw (.fl .f32 l)])
    | false => none)
  | false => some (.bool false, [.at rw (.fl .f32 l)])) := by
  kernel_rfl

theorem ok_three : FnT Try.prog 75 gV3 := by
  refine fnT tabok_three Try.func75 rfl rfl ann0 fun vs h v h' e => ⟨0, ?_⟩
  unfold gV3 at e
  split at e
  · rename_i n rw l
    obtain ⟨hd, e⟩ := T.pre_inv e
    obtain ⟨rfl, rfl⟩ := T.ret_inv e
    refine Eq.trans (run_three 0 _ _ _) ?_
    rw [hd]
    unfold v3B
    cases (((n : Nat) : Int) == 3) <;> rfl
  · exact (T.no_inv e).elim
def tab_vector : Fns := tabT [(54, gAllT finB)]
theorem tabok_vector : ∀ f, FnT Try.prog f (tab_vector f) := (tabT_cons (k := 54) ok_areFinite tabT_nil)
theorem run_vector (N : Nat) (n : Nat) (rw : Bool) (l : List Nat) : run ty tab_vector ann0 N Try.f79 [.sl 0 0 n] [.at rw (.fl .f32 l)]
    = (match ((n : Nat) : Int) == 3 with
  | true => (match decide (l.length = n ∧ n < 2147483648) with
    | true => some (.bool (l.all finB), [.at rw (.fl .f32 l)])
    | false => none)
  | false => some (.bool false, [.at rw (.fl .f32 l)])) := by
  kernel_rfl

theorem ok_vector : FnT Try.prog 79 gV3 := by
  refine fnT tabok_vector Try.func79 rfl rfl ann0 fun vs h v h' e => ⟨0, ?_⟩
  unfold gV3 at e
  split at e
  · rename_i n rw l
    obtain ⟨hd, e⟩ := T.pre_inv e
    obtain ⟨rfl, rfl⟩ := T.ret_inv e
    refine Eq.trans (run_vector 0 _ _ _) ?_
    rw [hd]
    unfold v3B
    cases (((n : Nat) : Int) == 3) <;> rfl
  · exact (T.no_inv e).elim
def tab_l04Times : Fns := tabT [(57, gT (gF1 nonB)), (81, gT gIn)]
theorem tabok_l04Times : ∀ f, FnT Try.prog f (tab_l04Times f) := (tabT_cons (k := 57) ok_l02Least (tabT_cons (k := 81) ok_l00In tabT_nil))
theorem run_l04Times (N : Nat) (x : Nat) (n : Int) : run ty tab_l04Times ann0 N Try.f77 [.fl .f32 x, .int .i64 n] []
    = (match nonB x with
  | true => some (.bool (inB n 0 512), [])
  | false => some (.bool false, [])) := by
  kernel_rfl

theorem ok_l04Times : FnT Try.prog 77 (gT gTimes) := by
  refine fnT tabok_l04Times Try.func77 rfl rfl ann0 fun vs h v h' e => ⟨0, ?_⟩
  rw [T.run_of] at e
  unfold gTimes at e
  split at e
  case h_2 => cases e
  rename_i x n
  cases e
  refine Eq.trans (run_l04Times 0 x n) ?_
  unfold timesB
  cases nonB x <;> rfl
def tab_areSteps : Fns := tabT [(60, gT (gF1 finB)), (66, gT gIn)]
theorem tabok_areSteps : ∀ f, FnT Try.prog f (tab_areSteps f) := (tabT_cons (k := 60) ok_IsFinite (tabT_cons (k := 66) ok_within tabT_nil))
theorem run_areSteps (N : Nat) (x : Nat) (n : Int) : run ty tab_areSteps ann0 N Try.f80 [.fl .f32 x, .int .i64 n] []
    = (match finB x with
  | true => (match gtB x 0 || eqB x 0 with
    | true => some (.bool (inB n 0 512), [])
    | false => some (.bool false, []))
  | false => some (.bool false, [])) := by
  kernel_rfl

theorem ok_areSteps : FnT Try.prog 80 (gT gTimes) := by
  refine fnT tabok_areSteps Try.func80 rfl rfl ann0 fun vs h v h' e => ⟨0, ?_⟩
  rw [T.run_of] at e
  unfold gTimes at e
  split at e
  case h_2 => cases e
  rename_i x n
  cases e
  refine Eq.trans (run_areSteps 0 x n) ?_
  unfold timesB nonB
  cases finB x <;> cases (gtB x 0 || eqB x 0) <;> rfl
def dsF (r o s0 q h : Nat) (_ : Nat) (s : Nat × Nat × Nat) : Nat × Nat × Nat := (fop .add .f32 s.1 (fop .mul .f32 h (fop .sub .f32 (fop .sub .f32 0 (fop .mul .f32 q s.1)) (fop .mul .f32 o s.2.1))), fop .add .f32 s.2.1 (fop .mul .f32 h (fop .sub .f32 (fop .sub .f32 (fop .mul .f32 o s.1) (fop .mul .f32 q s.2.1)) (fop .mul .f32 r s.2.2))), fop .add .f32 s.2.2 (fop .mul .f32 h (fop .add .f32 (fop .mul .f32 r s.2.1) (fop .mul .f32 s0 (fop .sub .f32 1065353216 s.2.2)))))
def dsT (l : List Nat) (r o s q h : Nat) (k : Int) : Nat × Nat × Nat := rounds (dsF r o s q h) k.toNat 0 (l.getD 0 0, l.getD 1 0, l.getD 2 0)
def dsL (l : List Nat) (r o s q h : Nat) (k : Int) : List Nat := [(dsT l r o s q h k).1, (dsT l r o s q h k).2.1, (dsT l r o s q h k).2.2]
def dsOk (n : Nat) (l : List Nat) (r o s q h : Nat) (k : Int) : Bool := v3B n l && (finB r && (finB o && (nonB s && (nonB q && (timesB h k && (dsL l r o s q h k).all finB)))))
def g_ds : GT := fun vs hp => match vs, hp with
  | [.sl 0 0 n, .fl .f32 r, .fl .f32 o, .fl .f32 s, .fl .f32 q, .fl .f32 h, .int .i64 k], [.at rw (.fl .f32 l)] =>
    .ite (decide (l.length = n ∧ n < 2147483648)) (.ite (dsOk n l r o s q h k) (.ret (.tup [.a (.sl 1 0 3), .a (.bool true)]) [.at rw (.fl .f32 l), .at true (.fl .f32 (dsL l r o s q h k))]) (.ret nilF [.at rw (.fl .f32 l)])) .no
  | _, _ => .no
def an_dsS : Ann := ⟨fun r => if r = 7 then some ([1, 2, 3, 4, 5, 6, 16, 17, 18, 19], [16, 17, 18]) else none, fun _ _ => .quiet⟩
def tab_dsS : Fns := tabT [(75, gV3), (76, gT (gF1 finB)), (57, gT (gF1 nonB)), (77, gT gTimes), (78, gLsT)]
theorem tabok_dsS : ∀ f, FnT Try.prog f (tab_dsS f) := (tabT_cons (k := 75) ok_three (tabT_cons (k := 76) ok_l01Finite (tabT_cons (k := 57) ok_l02Least (tabT_cons (k := 77) ok_l04Times (tabT_cons (k := 78) ok_l02List tabT_nil)))))
def st_dsS7 (t1 : Nat) (t2 : Nat) (t3 : Nat) (t4 : Nat) (t5 : Nat) (t6 : Int) (t16 : Nat) (t17 : Nat) (t18 : Nat) (t19 : Int) (rw0 : Bool) (l0 : List Nat) : St := ⟨[.any, .fl .f32 t1, .fl .f32 t2, .fl .f32 t3, .fl .f32 t4, .fl .f32 t5, .int .i64 t6, .any, .any, .any, .any, .any, .any, .any, .any, .any, .fl .f32 t16, .fl .f32 t17, .fl .f32 t18, .int .i64 t19, .any, .any, .any, .any, .any, .any, .any, .any, .any, .any, .any, .any, .any, .any, .any, .any, .any, .any, .any, .any, .any, .any, .any, .any, .any, .any, .any, .any, .any, .any, .any, .any, .any, .any, .any, .any, .any, .any, .any, .any, .any, .any, .any, .any, .any, .any, .any, .any, .any, .any, .any, .any, .any, .any, .any, .any, .any, .any, .any, .any, .any, .any, .any, .any, .any, .any, .any, .any, .any, .any, .any, .any, .any, .any, .any, .any, .any, .any, .any, .any, .any, .any, .any, .any, .any, .any, .any, .any, .any, .any, .any, .any, .any, .any, .any], [.at rw0 (.fl .f32 l0)]⟩
abbrev kp_dsS7 : Option (List Nat × List Nat) := some ([1, 2, 3, 4, 5, 6, 16, 17, 18, 19], [16, 17, 18])
noncomputable def lp_dsS7 {R : Type} (N M : Nat) (s : St) (K : X → St → Option R) : Option R := loopH 1 kp_dsS7 (fun st K => exec ty tab_dsS an_dsS N 1 (atOf [true, true, true, true, true, false, true, false, false] Try.f44) st K) M s K
noncomputable def bk_dsS7 {R : Type} (N M : Nat) (K : X → St → Option R) : X → St → Option R := fun x st => match x with | .norm => tidyK 1 (kp_dsS7.map (·.1)) st fun st => lp_dsS7 N M st K | x => tidyK 1 (kp_dsS7.map (·.2)) st fun st => K x st
noncomputable def kt_dsS7 {R : Type} (N : Nat) (K : X → St → Option R) : X → St → Option R := kBlkR 0 (kSeqR tab_dsS an_dsS N 1 (atOf [true, true, true, true, true, true] Try.f44) (K))
def en_dsS7_0 (t16 : Nat) (t17 : Nat) (t18 : Nat) (rw0 : Bool) (l0 : List Nat) : St := ⟨[.any, .any, .any, .any, .any, .any, .any, .any, .any, .any, .any, .any, .any, .any, .any, .any, .fl .f32 t16, .fl .f32 t17, .fl .f32 t18, .any, .any, .any, .any, .any, .any, .any, .any, .any, .any, .any, .any, .any, .any, .any, .any, .any, .any, .any, .any, .any, .any, .any, .any, .any, .any, .any, .any, .any, .any, .any, .any, .any, .any, .any, .any, .any, .any, .any, .any, .any, .any, .any, .any, .any, .any, .any, .any, .any, .any, .any, .any, .any, .any, .any, .any, .any, .any, .any, .any, .any, .any, .any, .any, .any, .any, .any, .any, .any, .any, .any, .any, .any, .any, .any, .any, .any, .any, .any, .any, .any, .any, .any, .any, .any, .any, .any, .any, .any, .any, .any, .any, .any, .any, .any, .any], [.at rw0 (.fl .f32 l0)]⟩
theorem run_dsS (N : Nat) (n : Nat) (r : Nat) (o : Nat) (s : Nat) (q : Nat) (h : Nat) (k : Int) (rw : Bool) (l : List Nat) : run ty tab_dsS an_dsS N Try.f44 [.sl 0 0 n, .fl .f32 r, .fl .f32 o, .fl .f32 s, .fl .f32 q, .fl .f32 h, .int .i64 k] [.at rw (.fl .f32 l)]
    = (match decide (l.length = n ∧ n < 2147483648) with
  | true => (match !(v3B n l) with
    | true => some (.tup [.a (.nil), .a (.bool false)], [.at rw (.fl .f32 l)])
    | false => (match !(finB r) with
      | true => some (.tup [.a (.nil), .a (.bool false)], [.at rw (.fl .f32 l)])
      | false => (match !(finB o) with
        | true => some (.tup [.a (.nil), .a (.bool false)], [.at rw (.fl .f32 l)])
        | false => (match !(nonB s) with
          | true => some (.tup [.a (.nil), .a (.bool false)], [.at rw (.fl .f32 l)])
          | false => (match !(nonB q) with
            | true => some (.tup [.a (.nil), .a (.bool false)], [.at rw (.fl .f32 l)])
            | false => (match !(timesB h k) with
              | true => some (.tup [.a (.nil), .a (.bool false)], [.at rw (.fl .f32 l)])
              | false => (match decide (0 ≤ (0 : Int) ∧ (0 : Int) < ((n : Nat) : Int)) with
                | true => (match l[0]? with
                  | some e1 => (match decide (0 ≤ (1 : Int) ∧ (1 : Int) < ((n : Nat) : Int)) with
                    | true => (match l[1]? with
                      | some e2 => (match decide (0 ≤ (2 : Int) ∧ (2 : Int) < ((n : Nat) : Int)) with
                        | true => (match l[2]? with
                          | some e3 => lp_dsS7 N N (st_dsS7 r o s q h k e1 e2 e3 0 rw l) (kt_dsS7 N (kEnd Try.f44 1))
                          | none => none)
                        | false => none)
                      | none => none)
                    | false => none)
                  | none => none)
                | false => none)))))))
  | false => none) := by
  kernel_rfl
theorem step_dsS7 {R : Type} (N M : Nat) (K : X → St → Option R) (t1 : Nat) (t2 : Nat) (t3 : Nat) (t4 : Nat) (t5 : Nat) (t6 : Int) (t16 : Nat) (t17 : Nat) (t18 : Nat) (t19 : Int) (rw0 : Bool) (l0 : List Nat) : lp_dsS7 N (M + 1) (st_dsS7 t1 t2 t3 t4 t5 t6 t16 t17 t18 t19 rw0 l0) K
    = (match decide ((t19 : Int) < t6) with
  | true => lp_dsS7 N M (st_dsS7 t1 t2 t3 t4 t5 t6 (fop .add .f32 t16 (fop .mul .f32 t5 (fop .sub .f32 (fop .sub .f32 0 (fop .mul .f32 t4 t16)) (fop .mul .f32 t2 t17)))) (fop .add .f32 t17 (fop .mul .f32 t5 (fop .sub .f32 (fop .sub .f32 (fop .mul .f32 t2 t16) (fop .mul .f32 t4 t17)) (fop .mul .f32 t1 t18)))) (fop .add .f32 t18 (fop .mul .f32 t5 (fop .add .f32 (fop .mul .f32 t1 t17) (fop .mul .f32 t3 (fop .sub .f32 1065353216 t18))))) (IntKind.i64.wrap (t19 + 1)) rw0 l0) K
  | false => K (.exit 0) (en_dsS7_0 t16 t17 t18 rw0 l0)) := by
  kernel_rfl
theorem end_dsS7_0 (N : Nat) (t16 : Nat) (t17 : Nat) (t18 : Nat) (rw0 : Bool) (l0 : List Nat) : kt_dsS7 N (kEnd Try.f44 1) (.exit 0) (en_dsS7_0 t16 t17 t18 rw0 l0)
    = (match decide ([t16, t17, t18].length = 3 ∧ 3 < 2147483648) with
  | true => (match [t16, t17, t18].all finB with
    | true => some (.tup [.a (.sl 1 0 3), .a (.bool true)], [.at rw0 (.fl .f32 l0), .at true (.fl .f32 [t16, t17, t18])])
    | false => some (.tup [.a (.nil), .a (.bool false)], [.at rw0 (.fl .f32 l0)]))
  | false => none) := by
  kernel_rfl

theorem ok_dsS : FnT Try.prog 44 g_ds := by
  refine fnT tabok_dsS Try.func44 rfl rfl an_dsS fun vs hp v h' e => ?_
  unfold g_ds at e
  split at e
  case h_2 => exact (T.no_inv e).elim
  rename_i n r o s q h k rw l
  obtain ⟨hd, e⟩ := T.pre_inv e
  refine ⟨k.toNat + 1, Eq.trans (run_dsS _ _ _ _ _ _ _ _ _ _) (Eq.trans ?_ e)⟩
  show _ = T.k _ _
  simp only [T.k]
  rw [hd]
  obtain ⟨hn, _⟩ := of_decide_eq_true hd
  unfold dsOk
  cases h3 : v3B n l
  · rfl
  have hn3 : n = 3 := by
    unfold v3B at h3
    simp only [Bool.and_eq_true, beq_iff_eq] at h3
    omega
  subst hn3
  have g0 : l[0]? = some (l.getD 0 0) := by simp [List.getD_eq_getElem?_getD, hn]
  have g1 : l[1]? = some (l.getD 1 0) := by simp [List.getD_eq_getElem?_getD, hn]
  have g2 : l[2]? = some (l.getD 2 0) := by simp [List.getD_eq_getElem?_getD, hn]
  cases finB r
  · rfl
  cases finB o
  · rfl
  cases nonB s
  · rfl
  cases nonB q
  · rfl
  cases ht : timesB h k
  · rfl
  have hb : 0 ≤ k ∧ k ≤ 512 := by
    unfold timesB inB at ht
    simp only [Bool.and_eq_true, decide_eq_true_eq] at ht
    omega
  obtain ⟨m, rfl⟩ : ∃ m : Nat, k = (m : Int) := ⟨k.toNat, by omega⟩
  rw [Int.toNat_natCast]
  simp only [g0, g1, g2]
  have hc := count_up m (dsF r o s q h) (fun M i x => lp_dsS7 (m + 1) M (st_dsS7 r o s q h ((m : Nat) : Int) x.1 x.2.1 x.2.2 (i : Int) rw l) (kt_dsS7 (m + 1) (kEnd Try.f44 1)))
    (fun x => match [x.1, x.2.1, x.2.2].all finB with | true => some (.tup [.a (.sl 1 0 3), .a (.bool true)], [.at rw (.fl .f32 l), .at true (.fl .f32 [x.1, x.2.1, x.2.2])]) | false => some (nilF, [.at rw (.fl .f32 l)])) (fun _ _ => True)
    (fun M i x hi _ => ⟨?_, trivial⟩) (fun M x _ => ?_) m 0 (l.getD 0 0, l.getD 1 0, l.getD 2 0) (by omega) trivial 0
  · refine Eq.trans hc ?_
    show _ = match (true && (true && (true && (true && (true && (true && (dsL l r o s q h (m : Int)).all finB)))))) with | true => _ | false => _
    simp only [Bool.true_and]
    unfold dsL dsT
    rw [Int.toNat_natCast]
  · simp only [step_dsS7, dlt hi, wr (show i < 2147483648 by omega)] <;> rfl
  · simp only [step_dsS7, dge (Nat.le_refl _), end_dsS7_0] <;> (cases [x.1, x.2.1, x.2.2].all finB <;> rfl)
def an_dsI : Ann := ⟨fun r => if r = 5 then some ([1, 2, 3, 4, 5, 16, 17, 18, 57, 58], [16, 17, 18]) else none, fun _ _ => .quiet⟩
def tab_dsI : Fns := tabT [(79, gV3), (54, gAllT finB), (80, gT gTimes), (56, gLsT)]
theorem tabok_dsI : ∀ f, FnT Try.prog f (tab_dsI f) := (tabT_cons (k := 79) ok_vector (tabT_cons (k := 54) ok_areFinite (tabT_cons (k := 80) ok_areSteps (tabT_cons (k := 56) ok_checkedNumbers tabT_nil))))
def st_dsI5 (t1 : Nat) (t2 : Nat) (t3 : Nat) (t4 : Nat) (t5 : Nat) (t16 : Nat) (t17 : Nat) (t18 : Nat) (t57 : Int) (t58 : Int) (rw0 : Bool) (l0 : List Nat) : St := ⟨[.any, .fl .f32 t1, .fl .f32 t2, .fl .f32 t3, .fl .f32 t4, .fl .f32 t5, .any, .any, .any, .any, .any, .any, .any, .any, .any, .any, .fl .f32 t16, .fl .f32 t17, .fl .f32 t18, .any, .any, .any, .any, .any, .any, .any, .any, .any, .any, .any, .any, .any, .any, .any, .any, .any, .any, .any, .any, .any, .any, .any, .any, .any, .any, .any, .any, .any, .any, .any, .any, .any, .any, .any, .any, .any, .any, .int .i64 t57, .int .i64 t58, .any, .any, .any, .any, .any, .any, .any, .any, .any, .any, .any, .any, .any, .any, .any, .any, .any, .any, .any, .any, .any, .any, .any, .any, .any, .any, .any, .any, .any, .any, .any, .any, .any, .any, .any, .any, .any, .any, .any, .any, .any, .any, .any, .any, .any, .any, .any, .any, .any, .any, .any], [.at rw0 (.fl .f32 l0)]⟩
abbrev kp_dsI5 : Option (List Nat × List Nat) := some ([1, 2, 3, 4, 5, 16, 17, 18, 57, 58], [16, 17, 18])
noncomputable def lp_dsI5 {R : Type} (N M : Nat) (s : St) (K : X → St → Option R) : Option R := loopH 1 kp_dsI5 (fun st K => exec ty tab_dsI an_dsI N 1 (atOf [true, true, true, false, true, false, false] Try.f46) st K) M s K
noncomputable def bk_dsI5 {R : Type} (N M : Nat) (K : X → St → Option R) : X → St → Option R := fun x st => match x with | .norm => tidyK 1 (kp_dsI5.map (·.1)) st fun st => lp_dsI5 N M st K | x => tidyK 1 (kp_dsI5.map (·.2)) st fun st => K x st
noncomputable def kt_dsI5 {R : Type} (N : Nat) (K : X → St → Option R) : X → St → Option R := kBlkR 0 (kSeqR tab_dsI an_dsI N 1 (atOf [true, true, true, true] Try.f46) (K))
def en_dsI5_0 (t16 : Nat) (t17 : Nat) (t18 : Nat) (rw0 : Bool) (l0 : List Nat) : St := ⟨[.any, .any, .any, .any, .any, .any, .any, .any, .any, .any, .any, .any, .any, .any, .any, .any, .fl .f32 t16, .fl .f32 t17, .fl .f32 t18, .any, .any, .any, .any, .any, .any, .any, .any, .any, .any, .any, .any, .any, .any, .any, .any, .any, .any, .any, .any, .any, .any, .any, .any, .any, .any, .any, .any, .any, .any, .any, .any, .any, .any, .any, .any, .any, .any, .any, .any, .any, .any, .any, .any, .any, .any, .any, .any, .any, .any, .any, .any, .any, .any, .any, .any, .any, .any, .any, .any, .any, .any, .any, .any, .any, .any, .any, .any, .any, .any, .any, .any, .any, .any, .any, .any, .any, .any, .any, .any, .any, .any, .any, .any, .any, .any, .any, .any, .any, .any, .any], [.at rw0 (.fl .f32 l0)]⟩
theorem run_dsI (N : Nat) (n : Nat) (r : Nat) (o : Nat) (s : Nat) (q : Nat) (h : Nat) (k : Int) (rw : Bool) (l : List Nat) : run ty tab_dsI an_dsI N Try.f46 [.sl 0 0 n, .fl .f32 r, .fl .f32 o, .fl .f32 s, .fl .f32 q, .fl .f32 h, .int .i64 k] [.at rw (.fl .f32 l)]
    = (match decide (l.length = n ∧ n < 2147483648) with
  | true => (match !(v3B n l) with
    | true => some (.tup [.a (.nil), .a (.bool false)], [.at rw (.fl .f32 l)])
    | false => (match !(finB r && (finB o && (finB s && (finB q && true)))) with
      | true => some (.tup [.a (.nil), .a (.bool false)], [.at rw (.fl .f32 l)])
      | false => (match ltB s 0 with
        | true => some (.tup [.a (.nil), .a (.bool false)], [.at rw (.fl .f32 l)])
        | false => (match ltB q 0 with
          | true => some (.tup [.a (.nil), .a (.bool false)], [.at rw (.fl .f32 l)])
          | false => (match !(timesB h k) with
            | true => some (.tup [.a (.nil), .a (.bool false)], [.at rw (.fl .f32 l)])
            | false => (match decide (0 ≤ (0 : Int) ∧ (0 : Int) < ((n : Nat) : Int)) with
              | true => (match l[0]? with
                | some e1 => (match decide (0 ≤ (1 : Int) ∧ (1 : Int) < ((n : Nat) : Int)) with
                  | true => (match l[1]? with
                    | some e2 => (match decide (0 ≤ (2 : Int) ∧ (2 : Int) < ((n : Nat) : Int)) with
                      | true => (match l[2]? with
                        | some e3 => lp_dsI5 N N (st_dsI5 r o s q h e1 e2 e3 k 0 rw l) (kt_dsI5 N (kEnd Try.f46 1))
                        | none => none)
                      | false => none)
                    | none => none)
                  | false => none)
                | none => none)
              | false => none))))))
  | false => none) := by
  kernel_rfl
theorem step_dsI5 {R : Type} (N M : Nat) (K : X → St → Option R) (t1 : Nat) (t2 : Nat) (t3 : Nat) (t4 : Nat) (t5 : Nat) (t16 : Nat) (t17 : Nat) (t18 : Nat) (t57 : Int) (t58 : Int) (rw0 : Bool) (l0 : List Nat) : lp_dsI5 N (M + 1) (st_dsI5 t1 t2 t3 t4 t5 t16 t17 t18 t57 t58 rw0 l0) K
    = (match decide ((t58 : Int) < t57) with
  | true => lp_dsI5 N M (st_dsI5 t1 t2 t3 t4 t5 (fop .add .f32 t16 (fop .mul .f32 t5 (fop .sub .f32 (fop .sub .f32 0 (fop .mul .f32 t4 t16)) (fop .mul .f32 t2 t17)))) (fop .add .f32 t17 (fop .mul .f32 t5 (fop .sub .f32 (fop .sub .f32 (fop .mul .f32 t2 t16) (fop .mul .f32 t4 t17)) (fop .mul .f32 t1 t18)))) (fop .add .f32 t18 (fop .mul .f32 t5 (fop .add .f32 (fop .mul .f32 t1 t17) (fop .mul .f32 t3 (fop .sub .f32 1065353216 t18))))) t57 (IntKind.i64.wrap (t58 + 1)) rw0 l0) K
  | false => K (.exit 0) (en_dsI5_0 t16 t17 t18 rw0 l0)) := by
  kernel_rfl
theorem end_dsI5_0 (N : Nat) (t16 : Nat) (t17 : Nat) (t18 : Nat) (rw0 : Bool) (l0 : List Nat) : kt_dsI5 N (kEnd Try.f46 1) (.exit 0) (en_dsI5_0 t16 t17 t18 rw0 l0)
    = (match decide ([t16, t17, t18].length = 3 ∧ 3 < 2147483648) with
  | true => (match [t16, t17, t18].all finB with
    | true => some (.tup [.a (.sl 1 0 3), .a (.bool true)], [.at rw0 (.fl .f32 l0), .at true (.fl .f32 [t16, t17, t18])])
    | false => some (.tup [.a (.nil), .a (.bool false)], [.at rw0 (.fl .f32 l0)]))
  | false => none) := by
  kernel_rfl

theorem ok_dsI : FnT Try.prog 46 g_ds := by
  refine fnT tabok_dsI Try.func46 rfl rfl an_dsI fun vs hp v h' e => ?_
  unfold g_ds at e
  split at e
  case h_2 => exact (T.no_inv e).elim
  rename_i n r o s q h k rw l
  obtain ⟨hd, e⟩ := T.pre_inv e
  refine ⟨k.toNat + 1, Eq.trans (run_dsI _ _ _ _ _ _ _ _ _ _) (Eq.trans ?_ e)⟩
  show _ = T.k _ _
  simp only [T.k]
  rw [hd]
  obtain ⟨hn, _⟩ := of_decide_eq_true hd
  unfold dsOk
  cases h3 : v3B n l
  · rfl
  have hn3 : n = 3 := by
    unfold v3B at h3
    simp only [Bool.and_eq_true, beq_iff_eq] at h3
    omega
  subst hn3
  have g0 : l[0]? = some (l.getD 0 0) := by simp [List.getD_eq_getElem?_getD, hn]
  have g1 : l[1]? = some (l.getD 1 0) := by simp [List.getD_eq_getElem?_getD, hn]
  have g2 : l[2]? = some (l.getD 2 0) := by simp [List.getD_eq_getElem?_getD, hn]
  cases finB r
  · rfl
  cases finB o
  · rfl
  rw [nonB_eq s, nonB_eq q]
  cases finB s
  · rfl
  cases finB q
  · cases ltB s 0 <;> rfl
  cases ltB s 0
  case true => rfl
  cases ltB q 0
  case true => rfl
  cases ht : timesB h k
  · rfl
  have hb : 0 ≤ k ∧ k ≤ 512 := by
    unfold timesB inB at ht
    simp only [Bool.and_eq_true, decide_eq_true_eq] at ht
    omega
  obtain ⟨m, rfl⟩ : ∃ m : Nat, k = (m : Int) := ⟨k.toNat, by omega⟩
  rw [Int.toNat_natCast]
  simp only [g0, g1, g2]
  have hc := count_up m (dsF r o s q h) (fun M i x => lp_dsI5 (m + 1) M (st_dsI5 r o s q h x.1 x.2.1 x.2.2 ((m : Nat) : Int) (i : Int) rw l) (kt_dsI5 (m + 1) (kEnd Try.f46 1)))
    (fun x => match [x.1, x.2.1, x.2.2].all finB with | true => some (.tup [.a (.sl 1 0 3), .a (.bool true)], [.at rw (.fl .f32 l), .at true (.fl .f32 [x.1, x.2.1, x.2.2])]) | false => some (nilF, [.at rw (.fl .f32 l)])) (fun _ _ => True)
    (fun M i x hi _ => ⟨?_, trivial⟩) (fun M x _ => ?_) m 0 (l.getD 0 0, l.getD 1 0, l.getD 2 0) (by omega) trivial 0
  · refine Eq.trans hc ?_
    show _ = match (true && (true && (true && (true && (true && (true && (dsL l r o s q h (m : Int)).all finB)))))) with | true => _ | false => _
    simp only [Bool.true_and]
    unfold dsL dsT
    rw [Int.toNat_natCast]
  · simp only [step_dsI5, dlt hi, wr (show i < 2147483648 by omega)] <;> rfl
  · simp only [step_dsI5, dge (Nat.le_refl _), end_dsI5_0] <;> (cases [x.1, x.2.1, x.2.2].all finB <;> rfl)
theorem dsL_len (l : List Nat) (r o s q h : Nat) (k : Int) : (dsL l r o s q h k).length = 3 := rfl
def tab_lawds : Fns := tabT [(45, g_toF), (44, g_ds), (46, g_ds), (20, gEqT), (21, gMarkT), (22, gHeldT)]
theorem tabok_lawds : ∀ f, FnT Try.prog f (tab_lawds f) := (tabT_cons (k := 45) ok_toF (tabT_cons (k := 44) ok_dsS (tabT_cons (k := 46) ok_dsI (tabT_cons (k := 20) ok_eqF (tabT_cons (k := 21) ok_markF (tabT_cons (k := 22) ok_heldF tabT_nil))))))
theorem run_lawds (N : Nat) (r : Nat) (o : Nat) (s : Nat) (q : Nat) (h : Nat) (k : Int) (l : List Nat) : run ty tab_lawds ann0 N Try.f12 [.sl 0 0 l.length, .fl .f32 r, .fl .f32 o, .fl .f32 s, .fl .f32 q, .fl .f32 h, .int .i64 k] [.at false (.fl .f32 l)]
    = (match decide ((((l.length : Nat) : Int) : Int) > 1048576) with
  | true => some (.bool true, [.at false (.fl .f32 l)])
  | false => (match decide (l.length = l.length ∧ l.length < 2147483648) with
    | true => (match decide (l.length = l.length ∧ l.length < 2147483648) with
      | true => (match dsOk l.length l r o s q h k with
        | true => (match decide (l.length = l.length ∧ l.length < 2147483648) with
          | true => (match decide (l.length = l.length ∧ l.length < 2147483648) with
            | true => (match dsOk l.length l r o s q h k with
              | true => (match decide ((dsL l r o s q h k).length = 3 ∧ (dsL l r o s q h k).length = 3 ∧ 3 < 2147483648 ∧ 3 < 2147483648) with
                | true => (match !(eqFB (dsL l r o s q h k) (dsL l r o s q h k)) with
                  | true => some (.bool false, [.at false (.fl .f32 l)])
                  | false => (match decide (l.length = l.length ∧ l.length < 2147483648) with
                    | true => (match decide (l.length = l.length ∧ l.length = l.length ∧ l.length < 2147483648 ∧ l.length < 2147483648) with
                      | true => (match !(eqFB l l) with
                        | true => some (.bool false, [.at false (.fl .f32 l)])
                        | false => (match decide (l.length = l.length ∧ l.length < 2147483648 ∧ 0 ≤ (1 : Int) ∧ (1 : Int) < 2147483648) with
                          | true => (match decide ((1 + (l.length : Int) : Int) < 0) with
                            | true => some (.bool false, [.at false (.fl .f32 l)])
                            | false => (match decide ((dsL l r o s q h k).length = 3 ∧ (dsL l r o s q h k).length = 3 ∧ 3 < 2147483648 ∧ 3 < 2147483648) with
                              | true => (match !(eqFB (dsL l r o s q h k) (dsL l r o s q h k)) with
                                | true => some (.bool false, [.at false (.fl .f32 l)])
                                | false => (match decide ((dsL l r o s q h k).length = 3 ∧ 3 < 2147483648 ∧ 0 ≤ (1 : Int) ∧ (1 : Int) < 2147483648) with
                                  | true => (match decide (marks 1 3 = marks 1 3 ∧ 3 < 2147483648 ∧ 0 ≤ (1 : Int) ∧ (1 : Int) < 2147483648) with
                                    | true => (match decide ((1 + (3 : Int) : Int) < 0) with
                                      | true => some (.bool false, [.at false (.fl .f32 l)])
                                      | false => (match (1 + (3 : Int)) != (1 + (3 : Int)) with
                                        | true => some (.bool false, [.at false (.fl .f32 l)])
                                        | false => (match decide (l.length = l.length ∧ l.length < 2147483648) with
                                          | true => (match decide (l.length = l.length ∧ l.length < 2147483648) with
                                            | true => (match dsOk l.length l r o s q h k with
                                              | true => (match decide ((dsL l r o s q h k).length = 3 ∧ (dsL l r o s q h k).length = 3 ∧ 3 < 2147483648 ∧ 3 < 2147483648) with
                                                | true => (match !(eqFB (dsL l r o s q h k) (dsL l r o s q h k)) with
                                                  | true => some (.bool false, [.at false (.fl .f32 l)])
                                                  | false => (match decide (marks 1 3 = marks 1 3 ∧ 3 < 2147483648 ∧ 0 ≤ (1 : Int) ∧ (1 : Int) < 2147483648) with
                                                    | true => (match decide ((1 + (3 : Int) : Int) < 0) with
                                                      | true => some (.bool false, [.at false (.fl .f32 l)])
                                                      | false => (match (1 + (3 : Int)) != (1 + (3 : Int)) with
                                                        | true => some (.bool false, [.at false (.fl .f32 l)])
                                                        | false => some (.bool true, [.at false (.fl .f32 l)])))
                                                    | false => none))
                                                | false => none)
                                              | false => none)
                                            | false => none)
                                          | false => none)))
                                    | false => none)
                                  | false => none))
                              | false => none))
                          | false => none))
                      | false => none)
                    | false => none))
                | false => none)
              | false => none)
            | false => none)
          | false => none)
        | false => (match decide (l.length = l.length ∧ l.length < 2147483648) with
          | true => (match decide (l.length = l.length ∧ l.length < 2147483648) with
            | true => (match dsOk l.length l r o s q h k with
              | true => none
              | false => (match decide (l.length = l.length ∧ l.length < 2147483648) with
                | true => (match decide (l.length = l.length ∧ l.length = l.length ∧ l.length < 2147483648 ∧ l.length < 2147483648) with
                  | true => (match !(eqFB l l) with
                    | true => some (.bool false, [.at false (.fl .f32 l)])
                    | false => (match decide (l.length = l.length ∧ l.length < 2147483648 ∧ 0 ≤ (1 : Int) ∧ (1 : Int) < 2147483648) with
                      | true => (match decide ((1 + (l.length : Int) : Int) < 0) with
                        | true => some (.bool false, [.at false (.fl .f32 l)])
                        | false => (match decide (l.length = l.length ∧ l.length < 2147483648) with
                          | true => (match decide (l.length = l.length ∧ l.length < 2147483648) with
                            | true => (match dsOk l.length l r o s q h k with
                              | true => none
                              | false => some (.bool true, [.at false (.fl .f32 l)]))
                            | false => none)
                          | false => none))
                      | false => none))
                  | false => none)
                | false => none))
            | false => none)
          | false => none))
      | false => none)
    | false => none)) := by
  kernel_rfl

abbrev tab_lawdn : Fns := tab_lawds
theorem run_lawdn (N : Nat) (r : Nat) (o : Nat) (s : Nat) (q : Nat) (h : Nat) (k : Int) : run ty tab_lawdn ann0 N Try.f12 [.nil, .fl .f32 r, .fl .f32 o, .fl .f32 s, .fl .f32 q, .fl .f32 h, .int .i64 k] []
    = (match decide (([] : List Nat).length = 0 ∧ 0 < 2147483648) with
  | true => (match dsOk 0 ([] : List Nat) r o s q h k with
    | true => (match decide (([] : List Nat).length = 0 ∧ 0 < 2147483648) with
      | true => (match dsOk 0 ([] : List Nat) r o s q h k with
        | true => (match decide ((dsL ([] : List Nat) r o s q h k).length = 3 ∧ (dsL ([] : List Nat) r o s q h k).length = 3 ∧ 3 < 2147483648 ∧ 3 < 2147483648) with
          | true => (match !(eqFB (dsL ([] : List Nat) r o s q h k) (dsL ([] : List Nat) r o s q h k)) with
            | true => some (.bool false, [])
            | false => (match decide (([] : List Nat).length = 0 ∧ ([] : List Nat).length = 0 ∧ 0 < 2147483648 ∧ 0 < 2147483648) with
              | true => (match !(eqFB ([] : List Nat) ([] : List Nat)) with
                | true => some (.bool false, [])
                | false => (match decide (([] : List Nat).length = 0 ∧ 0 < 2147483648 ∧ 0 ≤ (1 : Int) ∧ (1 : Int) < 2147483648) with
                  | true => (match decide ((1 + (0 : Int) : Int) < 0) with
                    | true => some (.bool false, [])
                    | false => (match decide ((dsL ([] : List Nat) r o s q h k).length = 3 ∧ (dsL ([] : List Nat) r o s q h k).length = 3 ∧ 3 < 2147483648 ∧ 3 < 2147483648) with
                      | true => (match !(eqFB (dsL ([] : List Nat) r o s q h k) (dsL ([] : List Nat) r o s q h k)) with
                        | true => some (.bool false, [])
                        | false => (match decide ((dsL ([] : List Nat) r o s q h k).length = 3 ∧ 3 < 2147483648 ∧ 0 ≤ (1 : Int) ∧ (1 : Int) < 2147483648) with
                          | true => (match decide (marks 1 3 = marks 1 3 ∧ 3 < 2147483648 ∧ 0 ≤ (1 : Int) ∧ (1 : Int) < 2147483648) with
                            | true => (match decide ((1 + (3 : Int) : Int) < 0) with
                              | true => some (.bool false, [])
                              | false => (match (1 + (3 : Int)) != (1 + (3 : Int)) with
                                | true => some (.bool false, [])
                                | false => (match decide (([] : List Nat).length = 0 ∧ 0 < 2147483648) with
                                  | true => (match dsOk 0 ([] : List Nat) r o s q h k with
                                    | true => (match decide ((dsL ([] : List Nat) r o s q h k).length = 3 ∧ (dsL ([] : List Nat) r o s q h k).length = 3 ∧ 3 < 2147483648 ∧ 3 < 2147483648) with
                                      | true => (match !(eqFB (dsL ([] : List Nat) r o s q h k) (dsL ([] : List Nat) r o s q h k)) with
                                        | true => some (.bool false, [])
                                        | false => (match decide (marks 1 3 = marks 1 3 ∧ 3 < 2147483648 ∧ 0 ≤ (1 : Int) ∧ (1 : Int) < 2147483648) with
                                          | true => (match decide ((1 + (3 : Int) : Int) < 0) with
                                            | true => some (.bool false, [])
                                            | false => (match (1 + (3 : Int)) != (1 + (3 : Int)) with
                                              | true => some (.bool false, [])
                                              | false => some (.bool true, [])))
                                          | false => none))
                                      | false => none)
                                    | false => none)
                                  | false => none)))
                            | false => none)
                          | false => none))
                      | false => none))
                  | false => none))
              | false => none))
          | false => none)
        | false => none)
      | false => none)
    | false => (match decide (([] : List Nat).length = 0 ∧ 0 < 2147483648) with
      | true => (match dsOk 0 ([] : List Nat) r o s q h k with
        | true => none
        | false => (match decide (([] : List Nat).length = 0 ∧ ([] : List Nat).length = 0 ∧ 0 < 2147483648 ∧ 0 < 2147483648) with
          | true => (match !(eqFB ([] : List Nat) ([] : List Nat)) with
            | true => some (.bool false, [])
            | false => (match decide (([] : List Nat).length = 0 ∧ 0 < 2147483648 ∧ 0 ≤ (1 : Int) ∧ (1 : Int) < 2147483648) with
              | true => (match decide ((1 + (0 : Int) : Int) < 0) with
                | true => some (.bool false, [])
                | false => (match decide (([] : List Nat).length = 0 ∧ 0 < 2147483648) with
                  | true => (match dsOk 0 ([] : List Nat) r o s q h k with
                    | true => none
                    | false => some (.bool true, []))
                  | false => none))
              | false => none))
          | false => none))
      | false => none))
  | false => none) := by
  kernel_rfl

def g_lawds : G := fun vs hp => match vs, hp with
  | [.sl 0 0 n, .fl .f32 r, .fl .f32 o, .fl .f32 s, .fl .f32 q, .fl .f32 h, .int .i64 k], [.at false (.fl .f32 l)] => if n = l.length then some (.bool true, [.at false (.fl .f32 l)]) else none
  | [.nil, .fl .f32 r, .fl .f32 o, .fl .f32 s, .fl .f32 q, .fl .f32 h, .int .i64 k], [] => some (.bool true, [])
  | _, _ => none
theorem ok_lawDampSteps : FnOk Try.prog 12 g_lawds := by
  refine fnOk tabok_lawds Try.func12 rfl rfl ann0 fun vs hp v h' e => ⟨0, ?_⟩
  unfold g_lawds at e
  split at e
  · rename_i n r o s q h k l
    split at e
    case isFalse => cases e
    rename_i hn
    subst hn
    cases e
    refine Eq.trans (run_lawds 0 _ _ _ _ _ _ _) ?_
    cases hc1 : decide ((((l.length : Nat) : Int) : Int) > 1048576)
    case false =>
      have fhc1 := of_decide_eq_false hc1
      have hc2 : (decide (l.length = l.length ∧ l.length < 2147483648)) = true := decide_eq_true (by first | omega | (simp [dsL_len] <;> omega))
      rw [hc2]
      cases hc3 : dsOk l.length l r o s q h k
      case false =>
        have hc4 : (decide (l.length = l.length ∧ l.length = l.length ∧ l.length < 2147483648 ∧ l.length < 2147483648)) = true := decide_eq_true (by first | omega | (simp [dsL_len] <;> omega))
        have hc5 : (!(eqFB l l)) = false := by rw [eqFB_self]; rfl
        have hc6 : (decide (l.length = l.length ∧ l.length < 2147483648 ∧ 0 ≤ (1 : Int) ∧ (1 : Int) < 2147483648)) = true := decide_eq_true (by first | omega | (simp [dsL_len] <;> omega))
        have hc7 : (decide ((1 + (l.length : Int) : Int) < 0)) = false := decide_eq_false (by first | omega | (simp [dsL_len] <;> omega))
        rw [hc4, hc5, hc6, hc7]
      case true =>
        have hc8 : (decide ((dsL l r o s q h k).length = 3 ∧ (dsL l r o s q h k).length = 3 ∧ 3 < 2147483648 ∧ 3 < 2147483648)) = true := decide_eq_true (by first | omega | (simp [dsL_len] <;> omega))
        have hc9 : (!(eqFB (dsL l r o s q h k) (dsL l r o s q h k))) = false := by rw [eqFB_self]; rfl
        have hc10 : (decide (l.length = l.length ∧ l.length = l.length ∧ l.length < 2147483648 ∧ l.length < 2147483648)) = true := decide_eq_true (by first | omega | (simp [dsL_len] <;> omega))
        have hc11 : (!(eqFB l l)) = false := by rw [eqFB_self]; rfl
        have hc12 : (decide (l.length = l.length ∧ l.length < 2147483648 ∧ 0 ≤ (1 : Int) ∧ (1 : Int) < 2147483648)) = true := decide_eq_true (by first | omega | (simp [dsL_len] <;> omega))
        have hc13 : (decide ((1 + (l.length : Int) : Int) < 0)) = false := decide_eq_false (by first | omega | (simp [dsL_len] <;> omega))
        have hc14 : (decide ((dsL l r o s q h k).length = 3 ∧ 3 < 2147483648 ∧ 0 ≤ (1 : Int) ∧ (1 : Int) < 2147483648)) = true := decide_eq_true (by first | omega | (simp [dsL_len] <;> omega))
        have hc15 : (decide (marks 1 3 = marks 1 3 ∧ 3 < 2147483648 ∧ 0 ≤ (1 : Int) ∧ (1 : Int) < 2147483648)) = true := decide_eq_true (by first | omega | (simp [dsL_len] <;> omega))
        have hc16 : (decide ((1 + (3 : Int) : Int) < 0)) = false := decide_eq_false (by first | omega | (simp [dsL_len] <;> omega))
        have hc17 : ((1 + (3 : Int)) != (1 + (3 : Int))) = false := by first | rfl | simp [dsL_len]
        rw [hc8, hc9, hc10, hc11, hc12, hc13, hc14, hc15, hc16, hc17]
    case true =>
      have fhc1 := of_decide_eq_true hc1
      rfl
  · rename_i r o s q h k
    cases e
    refine Eq.trans (run_lawdn 0 _ _ _ _ _ _) ?_
    have hc1 : (decide (([] : List Nat).length = 0 ∧ 0 < 2147483648)) = true := decide_eq_true (by first | omega | (simp [dsL_len] <;> omega))
    rw [hc1]
    cases hc2 : dsOk 0 ([] : List Nat) r o s q h k
    case false =>
      have hc3 : (decide (([] : List Nat).length = 0 ∧ ([] : List Nat).length = 0 ∧ 0 < 2147483648 ∧ 0 < 2147483648)) = true := decide_eq_true (by first | omega | (simp [dsL_len] <;> omega))
      have hc4 : (!(eqFB ([] : List Nat) ([] : List Nat))) = false := by rw [eqFB_self]; rfl
      have hc5 : (decide (([] : List Nat).length = 0 ∧ 0 < 2147483648 ∧ 0 ≤ (1 : Int) ∧ (1 : Int) < 2147483648)) = true := decide_eq_true (by first | omega | (simp [dsL_len] <;> omega))
      have hc6 : (decide ((1 + (0 : Int) : Int) < 0)) = false := decide_eq_false (by first | omega | (simp [dsL_len] <;> omega))
      rw [hc3, hc4, hc5, hc6]
    case true =>
      have hc7 : (decide ((dsL ([] : List Nat) r o s q h k).length = 3 ∧ (dsL ([] : List Nat) r o s q h k).length = 3 ∧ 3 < 2147483648 ∧ 3 < 2147483648)) = true := decide_eq_true (by first | omega | (simp [dsL_len] <;> omega))
      have hc8 : (!(eqFB (dsL ([] : List Nat) r o s q h k) (dsL ([] : List Nat) r o s q h k))) = false := by rw [eqFB_self]; rfl
      have hc9 : (decide (([] : List Nat).length = 0 ∧ ([] : List Nat).length = 0 ∧ 0 < 2147483648 ∧ 0 < 2147483648)) = true := decide_eq_true (by first | omega | (simp [dsL_len] <;> omega))
      have hc10 : (!(eqFB ([] : List Nat) ([] : List Nat))) = false := by rw [eqFB_self]; rfl
      have hc11 : (decide (([] : List Nat).length = 0 ∧ 0 < 2147483648 ∧ 0 ≤ (1 : Int) ∧ (1 : Int) < 2147483648)) = true := decide_eq_true (by first | omega | (simp [dsL_len] <;> omega))
      have hc12 : (decide ((1 + (0 : Int) : Int) < 0)) = false := decide_eq_false (by first | omega | (simp [dsL_len] <;> omega))
      have hc13 : (decide ((dsL ([] : List Nat) r o s q h k).length = 3 ∧ 3 < 2147483648 ∧ 0 ≤ (1 : Int) ∧ (1 : Int) < 2147483648)) = true := decide_eq_true (by first | omega | (simp [dsL_len] <;> omega))
      have hc14 : (decide (marks 1 3 = marks 1 3 ∧ 3 < 2147483648 ∧ 0 ≤ (1 : Int) ∧ (1 : Int) < 2147483648)) = true := decide_eq_true (by first | omega | (simp [dsL_len] <;> omega))
      have hc15 : (decide ((1 + (3 : Int) : Int) < 0)) = false := decide_eq_false (by first | omega | (simp [dsL_len] <;> omega))
      have hc16 : ((1 + (3 : Int)) != (1 + (3 : Int))) = false := by first | rfl | simp [dsL_len]
      rw [hc7, hc8, hc9, hc10, hc11, hc12, hc13, hc14, hc15, hc16]
  · cases e
end Go.Proofs.Ythcjbchkagkaaaa.Ab
