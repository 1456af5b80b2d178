/- Rows of numbers by a count. Only lemmas. Printed by gen_lists.py. -/
import Derived.Test.YthcjbchkagkaaaaLib
namespace Go.Proofs.Ythcjbchkagkaaaa.Ab
set_option linter.unusedVariables false
set_option linter.unusedSimpArgs false
open Go
theorem inB_of {n lo hi : Int} (h : inB n lo hi = true) : lo ≤ n ∧ n ≤ hi := by
  simp only [inB, Bool.and_eq_true, decide_eq_true_eq] at h
  omega
def v_rotor (j : Int) : Nat := floatOfInt .f32 (IntKind.i64.wrap (j * (IntKind.i64.wrap (j + 1))))
def g_rotor : G := fun vs h => match vs, h with | [.int .i64 j], [] => some (.fl .f32 (v_rotor j), []) | _, _ => none
def tab_rotor : Fns := tabT []
theorem tabok_rotor : ∀ f, FnT Try.prog f (tab_rotor f) := tabT_nil
theorem run_rotor (N : Nat) (j : Int) : run ty tab_rotor ann0 N Try.f74 [.int .i64 j] []
    = some (.fl .f32 (floatOfInt .f32 (IntKind.i64.wrap (j * (IntKind.i64.wrap (j + 1))))), []) := by
  kernel_rfl

theorem ok_rotor : FnT Try.prog 74 (gT g_rotor) := by
  refine fnT tabok_rotor Try.func74 rfl rfl ann0 fun vs h v h' e => ⟨0, ?_⟩
  rw [T.run_of] at e
  unfold g_rotor at e
  split at e
  case h_2 => cases e
  cases e
  exact run_rotor 0 _
def v_l03Q (j : Int) : Nat := floatOfInt .f32 (IntKind.i64.wrap (j * (IntKind.i64.wrap (j + 1))))
def g_l03Q : G := fun vs h => match vs, h with | [.int .i64 j], [] => some (.fl .f32 (v_l03Q j), []) | _, _ => none
def tab_l03Q : Fns := tabT []
theorem tabok_l03Q : ∀ f, FnT Try.prog f (tab_l03Q f) := tabT_nil
theorem run_l03Q (N : Nat) (j : Int) : run ty tab_l03Q ann0 N Try.f97 [.int .i64 j] []
    = some (.fl .f32 (floatOfInt .f32 (IntKind.i64.wrap (j * (IntKind.i64.wrap (j + 1))))), []) := by
  kernel_rfl

theorem ok_l03Q : FnT Try.prog 97 (gT g_l03Q) := by
  refine fnT tabok_l03Q Try.func97 rfl rfl ann0 fun vs h v h' e => ⟨0, ?_⟩
  rw [T.run_of] at e
  unfold g_l03Q at e
  split at e
  case h_2 => cases e
  cases e
  exact run_l03Q 0 _
def v_l03Rotor (n : Int) : Bool := inB n 1 40
def g_l03Rotor : G := fun vs h => match vs, h with | [.int .i64 n], [] => some (.bool (v_l03Rotor n), []) | _, _ => none
def tab_l03Rotor : Fns := tabT [(81, gT gIn)]
theorem tabok_l03Rotor : ∀ f, FnT Try.prog f (tab_l03Rotor f) := (tabT_cons (k := 81) ok_l00In tabT_nil)
theorem run_l03Rotor (N : Nat) (n : Int) : run ty tab_l03Rotor ann0 N Try.f96 [.int .i64 n] []
    = some (.bool (inB n 1 40), []) := by
  kernel_rfl

theorem ok_l03Rotor : FnT Try.prog 96 (gT g_l03Rotor) := by
  refine fnT tabok_l03Rotor Try.func96 rfl rfl ann0 fun vs h v h' e => ⟨0, ?_⟩
  rw [T.run_of] at e
  unfold g_l03Rotor at e
  split at e
  case h_2 => cases e
  cases e
  exact run_l03Rotor 0 _
def el_br (b : Nat) (o : Nat) (g : Nat) (k : Int) (n : Int) (i : Nat) : Nat := cond (k == 1) (fop .sub .f32 (fop .add .f32 g (fop .mul .f32 o (v_rotor ((i + 1 : Nat) : Int)))) (fop .mul .f32 b (v_rotor (i : Int)))) (cond (k == (-1)) (fop .sub .f32 (fop .add .f32 g (fop .mul .f32 o (v_rotor (i : Int)))) (fop .mul .f32 b (v_rotor ((i + 1 : Nat) : Int)))) (fop .sub .f32 (fop .add .f32 g (fop .mul .f32 o (v_rotor (i : Int)))) (fop .mul .f32 b (v_rotor (i : Int)))))
def li_br (b : Nat) (o : Nat) (g : Nat) (k : Int) (n : Int) : List Nat := (List.range' 0 (n.toNat)).map (el_br b o g k n)
def ok_br (b : Nat) (o : Nat) (g : Nat) (k : Int) (n : Int) : Bool := nonB b && (nonB o && (finB g && (inB k (-1) 1 && (inB n 1 40 && ((li_br b o g k n).all finB)))))
def g_br : GT := fun vs h => match vs, h with
  | [.fl .f32 b, .fl .f32 o, .fl .f32 g, .int .i64 k, .int .i64 n], [] => .ite (ok_br b o g k n) (.ret (.tup [.a (.sl 0 0 (n.toNat)), .a (.bool true)]) [.at true (.fl .f32 (li_br b o g k n))]) (.ret nilF [])
  | _, _ => .no
theorem len_br (b : Nat) (o : Nat) (g : Nat) (k : Int) (n : Int) : (li_br b o g k n).length = n.toNat := by simp [li_br]
def an_brS : Ann := ⟨fun r => if r = 5 then some ([0, 1, 2, 3, 4, 12, 13], [12]) else none, fun _ _ => .quiet⟩
def tab_brS : Fns := tabT [(95, gT (gF1 nonB)), (76, gT (gF1 finB)), (81, gT gIn), (96, gT g_l03Rotor), (97, gT g_l03Q), (98, gLsT)]
theorem tabok_brS : ∀ f, FnT Try.prog f (tab_brS f) := (tabT_cons (k := 95) ok_l03Least (tabT_cons (k := 76) ok_l01Finite (tabT_cons (k := 81) ok_l00In (tabT_cons (k := 96) ok_l03Rotor (tabT_cons (k := 97) ok_l03Q (tabT_cons (k := 98) ok_l03List tabT_nil))))))
def st_brS5 (t0 : Nat) (t1 : Nat) (t2 : Nat) (t3 : Int) (t4 : Int) (t12n : Nat) (t13 : Int) (l0 : List Nat) : St := ⟨[.fl .f32 t0, .fl .f32 t1, .fl .f32 t2, .int .i64 t3, .int .i64 t4, .any, .any, .any, .any, .any, .any, .any, .sl 0 0 t12n, .int .i64 t13, .any, .any, .any, .any, .any, .any, .any, .any, .any, .any, .any, .any, .any, .any, .any, .any, .any, .any, .any, .any, .any, .any, .any, .any, .any, .any, .any, .any, .any, .any, .any, .any, .any, .any, .any, .any, .any, .any, .any, .any, .any, .any, .any, .any, .any, .any, .any, .any, .any, .any, .any, .any, .any, .any, .any, .any, .any, .any, .any], [.at true (.fl .f32 l0)]⟩
abbrev kp_brS5 : Option (List Nat × List Nat) := some ([0, 1, 2, 3, 4, 12, 13], [12])
noncomputable def lp_brS5 {R : Type} (N M : Nat) (s : St) (K : X → St → Option R) : Option R := loopH 0 kp_brS5 (fun st K => exec ty tab_brS an_brS N 0 (atOf [true, true, true, false, true, false, false] Try.f72) st K) M s K
noncomputable def bk_brS5 {R : Type} (N M : Nat) (K : X → St → Option R) : X → St → Option R := fun x st => match x with | .norm => tidyK 0 (kp_brS5.map (·.1)) st fun st => lp_brS5 N M st K | x => tidyK 0 (kp_brS5.map (·.2)) st fun st => K x st
noncomputable def kt_brS5 {R : Type} (N : Nat) (K : X → St → Option R) : X → St → Option R := kBlkR 0 (kSeqR tab_brS an_brS N 0 (atOf [true, true, true, true] Try.f72) (K))
def en_brS5_0 (t12n : Nat) (l0 : List Nat) : St := ⟨[.any, .any, .any, .any, .any, .any, .any, .any, .any, .any, .any, .any, .sl 0 0 t12n, .any, .any, .any, .any, .any, .any, .any, .any, .any, .any, .any, .any, .any, .any, .any, .any, .any, .any, .any, .any, .any, .any, .any, .any, .any, .any, .any, .any, .any, .any, .any, .any, .any, .any, .any, .any, .any, .any, .any, .any, .any, .any, .any, .any, .any, .any, .any, .any, .any, .any, .any, .any, .any, .any, .any, .any, .any, .any, .any, .any], [.at true (.fl .f32 l0)]⟩
theorem run_brS (N : Nat) (b : Nat) (o : Nat) (g : Nat) (k : Int) (n : Int) : run ty tab_brS an_brS N Try.f72 [.fl .f32 b, .fl .f32 o, .fl .f32 g, .int .i64 k, .int .i64 n] []
    = (match !(nonB b) with
  | true => some (.tup [.a (.nil), .a (.bool false)], [])
  | false => (match !(nonB o) with
    | true => some (.tup [.a (.nil), .a (.bool false)], [])
    | false => (match !(finB g) with
      | true => some (.tup [.a (.nil), .a (.bool false)], [])
      | false => (match !(inB k (-1) 1) with
        | true => some (.tup [.a (.nil), .a (.bool false)], [])
        | false => (match !(inB n 1 40) with
          | true => some (.tup [.a (.nil), .a (.bool false)], [])
          | false => lp_brS5 N N (st_brS5 b o g k n 0 0 ([] : List Nat)) (kt_brS5 N (kEnd Try.f72 0))))))) := by
  kernel_rfl
theorem step_brS5 {R : Type} (N M : Nat) (K : X → St → Option R) (t0 : Nat) (t1 : Nat) (t2 : Nat) (t3 : Int) (t4 : Int) (t12n : Nat) (t13 : Int) (l0 : List Nat) : lp_brS5 N (M + 1) (st_brS5 t0 t1 t2 t3 t4 t12n t13 l0) K
    = (match decide ((t13 : Int) < t4) with
  | true => (match t3 == 1 with
    | true => (match t3 == (-1) with
      | true => (match apok true t12n 1 l0.length 1 (t12n + 1) 4 with
        | true => lp_brS5 N M (st_brS5 t0 t1 t2 t3 t4 (t12n + 1) (IntKind.i64.wrap (t13 + 1)) (l0 ++ [fop .sub .f32 (fop .add .f32 t2 (fop .mul .f32 t1 (v_rotor (IntKind.i64.wrap (t13 + 1))))) (fop .mul .f32 t0 (v_rotor (IntKind.i64.wrap (t13 + 1))))])) K
        | false => none)
      | false => (match apok true t12n 1 l0.length 1 (t12n + 1) 4 with
        | true => lp_brS5 N M (st_brS5 t0 t1 t2 t3 t4 (t12n + 1) (IntKind.i64.wrap (t13 + 1)) (l0 ++ [fop .sub .f32 (fop .add .f32 t2 (fop .mul .f32 t1 (v_rotor (IntKind.i64.wrap (t13 + 1))))) (fop .mul .f32 t0 (v_rotor t13))])) K
        | false => none))
    | false => (match t3 == (-1) with
      | true => (match apok true t12n 1 l0.length 1 (t12n + 1) 4 with
        | true => lp_brS5 N M (st_brS5 t0 t1 t2 t3 t4 (t12n + 1) (IntKind.i64.wrap (t13 + 1)) (l0 ++ [fop .sub .f32 (fop .add .f32 t2 (fop .mul .f32 t1 (v_rotor t13))) (fop .mul .f32 t0 (v_rotor (IntKind.i64.wrap (t13 + 1))))])) K
        | false => none)
      | false => (match apok true t12n 1 l0.length 1 (t12n + 1) 4 with
        | true => lp_brS5 N M (st_brS5 t0 t1 t2 t3 t4 (t12n + 1) (IntKind.i64.wrap (t13 + 1)) (l0 ++ [fop .sub .f32 (fop .add .f32 t2 (fop .mul .f32 t1 (v_rotor t13))) (fop .mul .f32 t0 (v_rotor t13))])) K
        | false => none)))
  | false => K (.exit 0) (en_brS5_0 t12n l0)) := by
  kernel_rfl
theorem end_brS5_0 (N : Nat) (t12n : Nat) (l0 : List Nat) : kt_brS5 N (kEnd Try.f72 0) (.exit 0) (en_brS5_0 t12n l0)
    = (match decide (l0.length = t12n ∧ t12n < 2147483648) with
  | true => (match l0.all finB with
    | true => some (.tup [.a (.sl 0 0 t12n), .a (.bool true)], [.at true (.fl .f32 l0)])
    | false => some (.tup [.a (.nil), .a (.bool false)], []))
  | false => none) := by
  kernel_rfl

theorem ok_brS : FnT Try.prog 72 g_br := by
  refine fnT tabok_brS Try.func72 rfl rfl an_brS fun vs h v h' e => ?_
  unfold g_br at e
  split at e
  case h_2 => exact (T.no_inv e).elim
  rename_i b o g k n
  refine ⟨n.toNat + 1, Eq.trans (run_brS _ _ _ _ _ _) (Eq.trans ?_ e)⟩
  show _ = T.k _ _
  simp only [T.k]
  unfold ok_br
  cases h0 : nonB b
  · rfl
  cases h1 : nonB o
  · rfl
  cases h2 : finB g
  · rfl
  cases h3 : inB k (-1) 1
  · rfl
  cases h4 : inB n 1 40
  · rfl
  have hb := inB_of h4
  obtain ⟨m, rfl⟩ : ∃ m : Nat, n = (m : Int) := ⟨n.toNat, by omega⟩
  rw [Int.toNat_natCast]
  refine Eq.trans (app_loop m (el_br b o g k ((m : Nat) : Int)) (fun M i l => lp_brS5 (m + 1) M (st_brS5 b o g k ((m : Nat) : Int) i (i : Int) l) (kt_brS5 (m + 1) (kEnd Try.f72 0))) (fun l => match l.all finB with | true => some (.tup [.a (.sl 0 0 m), .a (.bool true)], [.at true (.fl .f32 l)]) | false => some (nilF, [])) (fun M i l hi hl => ?_) (fun M l hl => ?_)) ?_
  · simp only [step_brS5, dlt hi, apc hl (show i < 2147483648 by omega) (show 4 ≤ 16 by omega), wr (show i < 2147483648 by omega)]
    unfold el_br
    cases hk1 : (k == 1) with
    | true =>
      cases hk2 : (k == (-1)) with
      | true => exfalso; simp only [beq_iff_eq] at hk1 hk2; omega
      | false => rfl
    | false => cases hk2 : (k == (-1)) <;> rfl
  · simp only [step_brS5, dge (Nat.le_refl _), end_brS5_0, decide_eq_true (show l.length = m ∧ m < 2147483648 from ⟨hl, by omega⟩)] <;> (cases l.all finB <;> rfl)
  · simp only [Bool.true_and]
    show _ = match (li_br b o g k ((m : Nat) : Int)).all finB with | true => _ | false => _
    unfold li_br
    simp only [Int.toNat_natCast] <;> (cases (List.map (el_br b o g k ((m : Nat) : Int)) (List.range' 0 m)).all finB <;> rfl)
def an_brI : Ann := ⟨fun r => if r = 5 then some ([0, 1, 2, 3, 12, 37, 38], [12]) else none, fun _ _ => .quiet⟩
def tab_brI : Fns := tabT [(73, gAllT nonB), (60, gT (gF1 finB)), (66, gT gIn), (74, gT g_rotor), (56, gLsT)]
theorem tabok_brI : ∀ f, FnT Try.prog f (tab_brI f) := (tabT_cons (k := 73) ok_areRotor (tabT_cons (k := 60) ok_IsFinite (tabT_cons (k := 66) ok_within (tabT_cons (k := 74) ok_rotor (tabT_cons (k := 56) ok_checkedNumbers tabT_nil)))))
def st_brI5 (t0 : Nat) (t1 : Nat) (t2 : Nat) (t3 : Int) (t12n : Nat) (t37 : Int) (t38 : Int) (l0 : List Nat) : St := ⟨[.fl .f32 t0, .fl .f32 t1, .fl .f32 t2, .int .i64 t3, .any, .any, .any, .any, .any, .any, .any, .any, .sl 0 0 t12n, .any, .any, .any, .any, .any, .any, .any, .any, .any, .any, .any, .any, .any, .any, .any, .any, .any, .any, .any, .any, .any, .any, .any, .any, .int .i64 t37, .int .i64 t38, .any, .any, .any, .any, .any, .any, .any, .any, .any, .any, .any, .any, .any, .any, .any, .any, .any, .any, .any, .any, .any, .any, .any, .any, .any, .any, .any, .any, .any, .any, .any, .any], [.at true (.fl .f32 l0)]⟩
abbrev kp_brI5 : Option (List Nat × List Nat) := some ([0, 1, 2, 3, 12, 37, 38], [12])
noncomputable def lp_brI5 {R : Type} (N M : Nat) (s : St) (K : X → St → Option R) : Option R := loopH 0 kp_brI5 (fun st K => exec ty tab_brI an_brI N 0 (atOf [true, true, true, false, true, false, false] Try.f43) st K) M s K
noncomputable def bk_brI5 {R : Type} (N M : Nat) (K : X → St → Option R) : X → St → Option R := fun x st => match x with | .norm => tidyK 0 (kp_brI5.map (·.1)) st fun st => lp_brI5 N M st K | x => tidyK 0 (kp_brI5.map (·.2)) st fun st => K x st
noncomputable def kt_brI5 {R : Type} (N : Nat) (K : X → St → Option R) : X → St → Option R := kBlkR 0 (kSeqR tab_brI an_brI N 0 (atOf [true, true, true, true] Try.f43) (K))
def en_brI5_0 (t12n : Nat) (l0 : List Nat) : St := ⟨[.any, .any, .any, .any, .any, .any, .any, .any, .any, .any, .any, .any, .sl 0 0 t12n, .any, .any, .any, .any, .any, .any, .any, .any, .any, .any, .any, .any, .any, .any, .any, .any, .any, .any, .any, .any, .any, .any, .any, .any, .any, .any, .any, .any, .any, .any, .any, .any, .any, .any, .any, .any, .any, .any, .any, .any, .any, .any, .any, .any, .any, .any, .any, .any, .any, .any, .any, .any, .any, .any, .any, .any, .any, .any], [.at true (.fl .f32 l0)]⟩
theorem run_brI (N : Nat) (b : Nat) (o : Nat) (g : Nat) (k : Int) (n : Int) : run ty tab_brI an_brI N Try.f43 [.fl .f32 b, .fl .f32 o, .fl .f32 g, .int .i64 k, .int .i64 n] []
    = (match !(nonB b && (nonB o && true)) with
  | true => some (.tup [.a (.nil), .a (.bool false)], [])
  | false => (match !(finB g) with
    | true => some (.tup [.a (.nil), .a (.bool false)], [])
    | false => (match !(inB k (-1) 1) with
      | true => some (.tup [.a (.nil), .a (.bool false)], [])
      | false => (match !(inB n 1 40) with
        | true => some (.tup [.a (.nil), .a (.bool false)], [])
        | false => lp_brI5 N N (st_brI5 b o g k 0 n 0 ([] : List Nat)) (kt_brI5 N (kEnd Try.f43 0)))))) := by
  kernel_rfl
theorem step_brI5 {R : Type} (N M : Nat) (K : X → St → Option R) (t0 : Nat) (t1 : Nat) (t2 : Nat) (t3 : Int) (t12n : Nat) (t37 : Int) (t38 : Int) (l0 : List Nat) : lp_brI5 N (M + 1) (st_brI5 t0 t1 t2 t3 t12n t37 t38 l0) K
    = (match decide ((t38 : Int) < t37) with
  | true => (match t3 == 1 with
    | true => (match apok true t12n 1 l0.length 1 (t12n + 1) 4 with
      | true => lp_brI5 N M (st_brI5 t0 t1 t2 t3 (t12n + 1) t37 (IntKind.i64.wrap (t38 + 1)) (l0 ++ [fop .sub .f32 (fop .add .f32 t2 (fop .mul .f32 t1 (v_rotor (IntKind.i64.wrap (t38 + 1))))) (fop .mul .f32 t0 (v_rotor t38))])) K
      | false => none)
    | false => (match t3 == (-1) with
      | true => (match apok true t12n 1 l0.length 1 (t12n + 1) 4 with
        | true => lp_brI5 N M (st_brI5 t0 t1 t2 t3 (t12n + 1) t37 (IntKind.i64.wrap (t38 + 1)) (l0 ++ [fop .sub .f32 (fop .add .f32 t2 (fop .mul .f32 t1 (v_rotor t38))) (fop .mul .f32 t0 (v_rotor (IntKind.i64.wrap (t38 + 1))))])) K
        | false => none)
      | false => (match apok true t12n 1 l0.length 1 (t12n + 1) 4 with
        | true => lp_brI5 N M (st_brI5 t0 t1 t2 t3 (t12n + 1) t37 (IntKind.i64.wrap (t38 + 1)) (l0 ++ [fop .sub .f32 (fop .add .f32 t2 (fop .mul .f32 t1 (v_rotor t38))) (fop .mul .f32 t0 (v_rotor t38))])) K
        | false => none)))
  | false => K (.exit 0) (en_brI5_0 t12n l0)) := by
  kernel_rfl
theorem end_brI5_0 (N : Nat) (t12n : Nat) (l0 : List Nat) : kt_brI5 N (kEnd Try.f43 0) (.exit 0) (en_brI5_0 t12n l0)
    = (match decide (l0.length = t12n ∧ t12n < 2147483648) with
  | true => (match l0.all finB with
    | true => some (.tup [.a (.sl 0 0 t12n), .a (.bool true)], [.at true (.fl .f32 l0)])
    | false => some (.tup [.a (.nil), .a (.bool false)], []))
  | false => none) := by
  kernel_rfl

theorem ok_brI : FnT Try.prog 43 g_br := by
  refine fnT tabok_brI Try.func43 rfl rfl an_brI fun vs h v h' e => ?_
  unfold g_br at e
  split at e
  case h_2 => exact (T.no_inv e).elim
  rename_i b o g k n
  refine ⟨n.toNat + 1, Eq.trans (run_brI _ _ _ _ _ _) (Eq.trans ?_ e)⟩
  show _ = T.k _ _
  simp only [T.k]
  unfold ok_br
  cases h0 : nonB b
  · rfl
  cases h1 : nonB o
  · rfl
  cases h2 : finB g
  · rfl
  cases h3 : inB k (-1) 1
  · rfl
  cases h4 : inB n 1 40
  · rfl
  have hb := inB_of h4
  obtain ⟨m, rfl⟩ : ∃ m : Nat, n = (m : Int) := ⟨n.toNat, by omega⟩
  rw [Int.toNat_natCast]
  refine Eq.trans (app_loop m (el_br b o g k ((m : Nat) : Int)) (fun M i l => lp_brI5 (m + 1) M (st_brI5 b o g k i ((m : Nat) : Int) (i : Int) l) (kt_brI5 (m + 1) (kEnd Try.f43 0))) (fun l => match l.all finB with | true => some (.tup [.a (.sl 0 0 m), .a (.bool true)], [.at true (.fl .f32 l)]) | false => some (nilF, [])) (fun M i l hi hl => ?_) (fun M l hl => ?_)) ?_
  · simp only [step_brI5, dlt hi, apc hl (show i < 2147483648 by omega) (show 4 ≤ 16 by omega), wr (show i < 2147483648 by omega)]
    unfold el_br
    cases hk1 : (k == 1) with
    | true =>
      cases hk2 : (k == (-1)) with
      | true => exfalso; simp only [beq_iff_eq] at hk1 hk2; omega
      | false => rfl
    | false => cases hk2 : (k == (-1)) <;> rfl
  · simp only [step_brI5, dge (Nat.le_refl _), end_brI5_0, decide_eq_true (show l.length = m ∧ m < 2147483648 from ⟨hl, by omega⟩)] <;> (cases l.all finB <;> rfl)
  · simp only [Bool.true_and]
    show _ = match (li_br b o g k ((m : Nat) : Int)).all finB with | true => _ | false => _
    unfold li_br
    simp only [Int.toNat_natCast] <;> (cases (List.map (el_br b o g k ((m : Nat) : Int)) (List.range' 0 m)).all finB <;> rfl)
def tab_brW : Fns := tabT [(72, g_br)]
theorem tabok_brW : ∀ f, FnT Try.prog f (tab_brW f) := (tabT_cons (k := 72) ok_brS tabT_nil)
theorem run_brW (N : Nat) (b : Nat) (o : Nat) (g : Nat) (k : Int) (n : Int) : run ty tab_brW ann0 N Try.f42 [.fl .f32 b, .fl .f32 o, .fl .f32 g, .int .i64 k, .int .i64 n] []
    = (match ok_br b o g k n with
  | true => some (.tup [.a (.sl 0 0 n.toNat), .a (.bool true)], [.at true (.fl .f32 (li_br b o g k n))])
  | false => some (.tup [.a (.nil), .a (.bool false)], [])) := by
  kernel_rfl

theorem ok_brW : FnT Try.prog 42 g_br := by
  refine fnT tabok_brW Try.func42 rfl rfl ann0 fun vs h v h' e => ⟨0, ?_⟩
  unfold g_br at e
  split at e
  case h_2 => exact (T.no_inv e).elim
  rename_i b o g k n
  refine Eq.trans (run_brW 0 _ _ _ _ _) (Eq.trans ?_ e)
  show _ = T.k _ _
  simp only [T.k]
  cases ok_br b o g k n <;> rfl
def tab_lawBranchOf : Fns := tabT [(42, g_br), (43, g_br), (20, gEqT), (21, gMarkT), (22, gHeldT)]
theorem tabok_lawBranchOf : ∀ f, FnT Try.prog f (tab_lawBranchOf f) := (tabT_cons (k := 42) ok_brW (tabT_cons (k := 43) ok_brI (tabT_cons (k := 20) ok_eqF (tabT_cons (k := 21) ok_markF (tabT_cons (k := 22) ok_heldF tabT_nil)))))
theorem run_lawBranchOf (N : Nat) (b : Nat) (o : Nat) (g : Nat) (k : Int) (n : Int) : run ty tab_lawBranchOf ann0 N Try.f11 [.fl .f32 b, .fl .f32 o, .fl .f32 g, .int .i64 k, .int .i64 n] []
    = (match ok_br b o g k n with
  | true => (match ok_br b o g k n with
    | true => (match decide ((li_br b o g k n).length = n.toNat ∧ (li_br b o g k n).length = n.toNat ∧ n.toNat < 2147483648 ∧ n.toNat < 2147483648) with
      | true => (match !(eqFB (li_br b o g k n) (li_br b o g k n)) with
        | true => some (.bool false, [])
        | false => (match decide ((li_br b o g k n).length = n.toNat ∧ n.toNat < 2147483648 ∧ 0 ≤ (1 : Int) ∧ (1 : Int) < 2147483648) with
          | true => (match decide (marks 1 n.toNat = marks 1 n.toNat ∧ n.toNat < 2147483648 ∧ 0 ≤ (1 : Int) ∧ (1 : Int) < 2147483648) with
            | true => (match decide ((1 + (n.toNat : Int) : Int) < 0) with
              | true => some (.bool false, [])
              | false => (match (1 + (n.toNat : Int)) != (1 + (n.toNat : Int)) with
                | true => some (.bool false, [])
                | false => (match ok_br b o g k n with
                  | true => (match decide ((li_br b o g k n).length = n.toNat ∧ (li_br b o g k n).length = n.toNat ∧ n.toNat < 2147483648 ∧ n.toNat < 2147483648) with
                    | true => (match !(eqFB (li_br b o g k n) (li_br b o g k n)) with
                      | true => some (.bool false, [])
                      | false => (match decide (marks 1 n.toNat = marks 1 n.toNat ∧ n.toNat < 2147483648 ∧ 0 ≤ (1 : Int) ∧ (1 : Int) < 2147483648) with
                        | true => (match decide ((1 + (n.toNat : Int) : Int) < 0) with
                          | true => some (.bool false, [])
                          | false => (match (1 + (n.toNat : Int)) != (1 + (n.toNat : Int)) with
                            | true => some (.bool false, [])
                            | false => some (.bool true, [])))
                        | false => none))
                    | false => none)
                  | false => none)))
            | false => none)
          | false => none))
      | false => none)
    | false => none)
  | false => (match ok_br b o g k n with
    | true => none
    | false => (match ok_br b o g k n with
      | true => none
      | false => some (.bool true, [])))) := by
  kernel_rfl

theorem ok_lawBranchOf : FnOk Try.prog 11 (fun vs h => match vs, h with | [.fl .f32 b, .fl .f32 o, .fl .f32 g, .int .i64 k, .int .i64 n], [] => some (.bool true, []) | _, _ => none) := by
  refine fnOk tabok_lawBranchOf Try.func11 rfl rfl ann0 fun vs h v h' e => ⟨0, ?_⟩
  split at e
  case h_2 => cases e
  rename_i b o g k n
  cases e
  refine Eq.trans (run_lawBranchOf 0 _ _ _ _ _) ?_
  cases hok : ok_br b o g k n with
  | false => rfl
  | true =>
    have hk : n.toNat < 2147483648 := by
      unfold ok_br at hok
      simp only [Bool.and_eq_true] at hok
      have := inB_of hok.2.2.2.2.1
      omega
    have hl : (li_br b o g k n).length = n.toNat := len_br b o g k n
    have h1 : decide ((li_br b o g k n).length = n.toNat ∧ (li_br b o g k n).length = n.toNat ∧ n.toNat < 2147483648 ∧ n.toNat < 2147483648) = true := decide_eq_true ⟨hl, hl, hk, hk⟩
    have h2 : decide ((li_br b o g k n).length = n.toNat ∧ n.toNat < 2147483648 ∧ 0 ≤ (1 : Int) ∧ (1 : Int) < 2147483648) = true := decide_eq_true ⟨hl, hk, by omega, by omega⟩
    have h3 : decide (marks 1 (n.toNat) = marks 1 (n.toNat) ∧ n.toNat < 2147483648 ∧ 0 ≤ (1 : Int) ∧ (1 : Int) < 2147483648) = true := decide_eq_true ⟨rfl, hk, by omega, by omega⟩
    have h3' : decide (True ∧ n.toNat < 2147483648 ∧ 0 ≤ (1 : Int) ∧ (1 : Int) < 2147483648) = true := decide_eq_true ⟨trivial, hk, by omega, by omega⟩
    have h4 : decide ((1 + ((n.toNat : Nat) : Int) : Int) < 0) = false := decide_eq_false (by omega)
    have h5 : ((1 + ((n.toNat : Nat) : Int)) != (1 + ((n.toNat : Nat) : Int))) = false := by simp
    simp only [h1, h2, h3, h3', h4, h5, eqFB_self, Bool.not_true]
theorem get_getD {α : Type} {l : List α} {d : α} {i : Nat} (h : i < l.length) : l[i]? = some (l.getD i d) := by
  simp [List.getD_eq_getElem?_getD, h]
def hdF (l : List Nat) (i s : Nat) : Nat := cond (gtB (l.getD i 0) (l.getD s 0)) i s
def hdI (b o g : Nat) (n : Int) : Nat := rounds (hdF (li_br b o g 1 n)) n.toNat 0 0
def hdX (b o g : Nat) (n : Int) : Nat := (li_br b o g 1 n).getD (hdI b o g n) 0
abbrev hdV (x : Int) (y : Nat) (z : Bool) : V := .tup [.a (.int .i64 x), .a (.fl .f32 y), .a (.bool z)]
def g_hd : GT := fun vs h => match vs, h with
  | [.fl .f32 b, .fl .f32 o, .fl .f32 g, .int .i64 n], [] => .ite (ok_br b o g 1 n) (.ret (hdV (hdI b o g n) (hdX b o g n) true) []) (.ret (hdV 0 0 false) [])
  | _, _ => .no
theorem br_bound {b o g : Nat} {k n : Int} (h : ok_br b o g k n = true) : 1 ≤ n ∧ n ≤ 40 := by
  unfold ok_br at h
  simp only [Bool.and_eq_true] at h
  exact inB_of h.2.2.2.2.1
def an_hdS : Ann := ⟨fun r => if r = 6 then some ([11, 13, 26, 27], [11, 13]) else none, fun _ _ => .quiet⟩
def tab_hdS : Fns := tabT [(72, g_br)]
theorem tabok_hdS : ∀ f, FnT Try.prog f (tab_hdS f) := (tabT_cons (k := 72) ok_brS tabT_nil)
def st_hdS6 (list11n : Nat) (best13 : Int) (t26 : Int) (t27 : Int) (l0 : List Nat) : St := ⟨[.any, .any, .any, .any, .any, .any, .any, .any, .any, .any, .any, .sl 0 0 list11n, .any, .int .i64 best13, .any, .any, .any, .any, .any, .any, .any, .any, .any, .any, .any, .any, .int .i64 t26, .int .i64 t27, .any, .any, .any, .any, .any, .any, .any, .any, .any, .any, .any, .any, .any, .any, .any, .any, .any, .any], [.at true (.fl .f32 l0)]⟩
abbrev kp_hdS6 : Option (List Nat × List Nat) := some ([11, 13, 26, 27], [11, 13])
noncomputable def lp_hdS6 {R : Type} (N M : Nat) (s : St) (K : X → St → Option R) : Option R := loopH 0 kp_hdS6 (fun st K => exec ty tab_hdS an_hdS N 0 (atOf [true, true, true, true, false, true, false, false] Try.f38) st K) M s K
noncomputable def bk_hdS6 {R : Type} (N M : Nat) (K : X → St → Option R) : X → St → Option R := fun x st => match x with | .norm => tidyK 0 (kp_hdS6.map (·.1)) st fun st => lp_hdS6 N M st K | x => tidyK 0 (kp_hdS6.map (·.2)) st fun st => K x st
noncomputable def kt_hdS6 {R : Type} (N : Nat) (K : X → St → Option R) : X → St → Option R := kBlkR 0 (kSeqR tab_hdS an_hdS N 0 (atOf [true, true, true, true, true] Try.f38) (K))
def en_hdS6_0 (list11n : Nat) (best13 : Int) (l0 : List Nat) : St := ⟨[.any, .any, .any, .any, .any, .any, .any, .any, .any, .any, .any, .sl 0 0 list11n, .any, .int .i64 best13, .any, .any, .any, .any, .any, .any, .any, .any, .any, .any, .any, .any, .any, .any, .any, .any, .any, .any, .any, .any, .any, .any, .any, .any, .any, .any, .any, .any, .any, .any, .any, .any], [.at true (.fl .f32 l0)]⟩
theorem run_hdS (N : Nat) (b : Nat) (o : Nat) (g : Nat) (n : Int) : run ty tab_hdS an_hdS N Try.f38 [.fl .f32 b, .fl .f32 o, .fl .f32 g, .int .i64 n] []
    = (match ok_br b o g 1 n with
  | true => lp_hdS6 N N (st_hdS6 n.toNat 0 ((n.toNat : Nat) : Int) 0 (li_br b o g 1 n)) (kt_hdS6 N (kEnd Try.f38 0))
  | false => some (.tup [.a (.int .i64 0), .a (.fl .f32 0), .a (.bool false)], [])) := by
  kernel_rfl
theorem step_hdS6 {R : Type} (N M : Nat) (K : X → St → Option R) (list11n : Nat) (best13 : Int) (t26 : Int) (t27 : Int) (l0 : List Nat) : lp_hdS6 N (M + 1) (st_hdS6 list11n best13 t26 t27 l0) K
    = (match decide ((t27 : Int) < t26) with
  | true => (match decide (0 ≤ (t27 : Int) ∧ (t27 : Int) < ((list11n : Nat) : Int)) with
    | true => (match l0[0 + (t27).toNat * 1]? with
      | some e1 => (match decide (0 ≤ (best13 : Int) ∧ (best13 : Int) < ((list11n : Nat) : Int)) with
        | true => (match l0[0 + (best13).toNat * 1]? with
          | some e2 => (match gtB e1 e2 with
            | true => lp_hdS6 N M (st_hdS6 list11n t27 t26 (IntKind.i64.wrap (t27 + 1)) l0) K
            | false => lp_hdS6 N M (st_hdS6 list11n best13 t26 (IntKind.i64.wrap (t27 + 1)) l0) K)
          | none => none)
        | false => none)
      | none => none)
    | false => none)
  | false => K (.exit 0) (en_hdS6_0 list11n best13 l0)) := by
  kernel_rfl
theorem end_hdS6_0 (N : Nat) (list11n : Nat) (best13 : Int) (l0 : List Nat) : kt_hdS6 N (kEnd Try.f38 0) (.exit 0) (en_hdS6_0 list11n best13 l0)
    = (match decide (0 ≤ (best13 : Int) ∧ (best13 : Int) < ((list11n : Nat) : Int)) with
  | true => (match l0[0 + (best13).toNat * 1]? with
    | some e1 => some (.tup [.a (.int .i64 best13), .a (.fl .f32 e1), .a (.bool true)], [])
    | none => none)
  | false => none) := by
  kernel_rfl

theorem ok_hdS : FnT Try.prog 38 g_hd := by
  refine fnT tabok_hdS Try.func38 rfl rfl an_hdS fun vs h v h' e => ?_
  unfold g_hd at e
  split at e
  case h_2 => exact (T.no_inv e).elim
  rename_i b o g n
  refine ⟨n.toNat + 1, Eq.trans (run_hdS _ _ _ _ _) (Eq.trans ?_ e)⟩
  show _ = T.k _ _
  simp only [T.k]
  cases hok : ok_br b o g 1 n
  · rfl
  have hb := br_bound hok
  have hl := len_br b o g 1 n
  have hc := count_up n.toNat (hdF (li_br b o g 1 n)) (fun M i s => lp_hdS6 (n.toNat + 1) M (st_hdS6 n.toNat (s : Int) ((n.toNat : Nat) : Int) (i : Int) (li_br b o g 1 n)) (kt_hdS6 (n.toNat + 1) (kEnd Try.f38 0))) (fun s => some (hdV s ((li_br b o g 1 n).getD s 0) true, [])) (fun _ s => s < n.toNat)
    (fun M i s hi hs => ?_) (fun M s hs => ?_) n.toNat 0 0 (by omega) (by omega) 0
  · rw [show n.toNat + 1 + 0 = n.toNat + 1 by omega] at hc
    exact hc
  · have h1 : (li_br b o g 1 n)[i]? = some ((li_br b o g 1 n).getD i 0) := get_getD (by omega)
    have h2 : (li_br b o g 1 n)[s]? = some ((li_br b o g 1 n).getD s 0) := get_getD (by omega)
    simp only [step_hdS6, dlt hi, din hi, din hs, ix, h1, h2, wr (show i < 2147483648 by omega), hdF]
    cases gtB ((li_br b o g 1 n).getD i 0) ((li_br b o g 1 n).getD s 0)
    · exact ⟨rfl, hs⟩
    · exact ⟨rfl, hi⟩
  · have h2 : (li_br b o g 1 n)[s]? = some ((li_br b o g 1 n).getD s 0) := get_getD (by omega)
    simp only [step_hdS6, dge (Nat.le_refl _), end_hdS6_0, din hs, ix, h2]
def an_hdI2 : Ann := ⟨fun r => if r = 6 then some ([11, 13, 26, 27, 28], [11, 13]) else none, fun _ _ => .quiet⟩
def tab_hdI2 : Fns := tabT [(43, g_br)]
theorem tabok_hdI2 : ∀ f, FnT Try.prog f (tab_hdI2 f) := (tabT_cons (k := 43) ok_brI tabT_nil)
def st_hdI26 (lines11n : Nat) (best13 : Int) (t27 : Int) (t28 : Int) (l0 : List Nat) : St := ⟨[.any, .any, .any, .any, .any, .any, .any, .any, .any, .any, .any, .sl 0 0 lines11n, .any, .int .i64 best13, .any, .any, .any, .any, .any, .any, .any, .any, .any, .any, .any, .any, .sl 0 0 lines11n, .int .i64 t27, .int .i64 t28, .any, .any, .any, .any, .any, .any, .any, .any, .any, .any, .any, .any, .any, .any, .any, .any, .any], [.at true (.fl .f32 l0)]⟩
abbrev kp_hdI26 : Option (List Nat × List Nat) := some ([11, 13, 26, 27, 28], [11, 13])
noncomputable def lp_hdI26 {R : Type} (N M : Nat) (s : St) (K : X → St → Option R) : Option R := loopH 0 kp_hdI26 (fun st K => exec ty tab_hdI2 an_hdI2 N 0 (atOf [true, true, true, true, false, true, false, false] Try.f39) st K) M s K
noncomputable def bk_hdI26 {R : Type} (N M : Nat) (K : X → St → Option R) : X → St → Option R := fun x st => match x with | .norm => tidyK 0 (kp_hdI26.map (·.1)) st fun st => lp_hdI26 N M st K | x => tidyK 0 (kp_hdI26.map (·.2)) st fun st => K x st
noncomputable def kt_hdI26 {R : Type} (N : Nat) (K : X → St → Option R) : X → St → Option R := kBlkR 0 (kSeqR tab_hdI2 an_hdI2 N 0 (atOf [true, true, true, true, true] Try.f39) (K))
def en_hdI26_0 (lines11n : Nat) (best13 : Int) (l0 : List Nat) : St := ⟨[.any, .any, .any, .any, .any, .any, .any, .any, .any, .any, .any, .sl 0 0 lines11n, .any, .int .i64 best13, .any, .any, .any, .any, .any, .any, .any, .any, .any, .any, .any, .any, .any, .any, .any, .any, .any, .any, .any, .any, .any, .any, .any, .any, .any, .any, .any, .any, .any, .any, .any, .any], [.at true (.fl .f32 l0)]⟩
theorem run_hdI2 (N : Nat) (b : Nat) (o : Nat) (g : Nat) (n : Int) : run ty tab_hdI2 an_hdI2 N Try.f39 [.fl .f32 b, .fl .f32 o, .fl .f32 g, .int .i64 n] []
    = (match ok_br b o g 1 n with
  | true => lp_hdI26 N N (st_hdI26 n.toNat 0 ((n.toNat : Nat) : Int) 0 (li_br b o g 1 n)) (kt_hdI26 N (kEnd Try.f39 0))
  | false => some (.tup [.a (.int .i64 0), .a (.fl .f32 0), .a (.bool false)], [])) := by
  kernel_rfl
theorem step_hdI26 {R : Type} (N M : Nat) (K : X → St → Option R) (lines11n : Nat) (best13 : Int) (t27 : Int) (t28 : Int) (l0 : List Nat) : lp_hdI26 N (M + 1) (st_hdI26 lines11n best13 t27 t28 l0) K
    = (match decide ((t28 : Int) < t27) with
  | true => (match decide (0 ≤ (t28 : Int) ∧ (t28 : Int) < ((lines11n : Nat) : Int)) with
    | true => (match l0[0 + (t28).toNat * 1]? with
      | some e1 => (match decide (0 ≤ (best13 : Int) ∧ (best13 : Int) < ((lines11n : Nat) : Int)) with
        | true => (match l0[0 + (best13).toNat * 1]? with
          | some e2 => (match gtB e1 e2 with
            | true => lp_hdI26 N M (st_hdI26 lines11n t28 t27 (IntKind.i64.wrap (t28 + 1)) l0) K
            | false => lp_hdI26 N M (st_hdI26 lines11n best13 t27 (IntKind.i64.wrap (t28 + 1)) l0) K)
          | none => none)
        | false => none)
      | none => none)
    | false => none)
  | false => K (.exit 0) (en_hdI26_0 lines11n best13 l0)) := by
  kernel_rfl
theorem end_hdI26_0 (N : Nat) (lines11n : Nat) (best13 : Int) (l0 : List Nat) : kt_hdI26 N (kEnd Try.f39 0) (.exit 0) (en_hdI26_0 lines11n best13 l0)
    = (match decide (0 ≤ (best13 : Int) ∧ (best13 : Int) < ((lines11n : Nat) : Int)) with
  | true => (match l0[0 + (best13).toNat * 1]? with
    | some e1 => some (.tup [.a (.int .i64 best13), .a (.fl .f32 e1), .a (.bool true)], [])
    | none => none)
  | false => none) := by
  kernel_rfl

theorem ok_hdI2 : FnT Try.prog 39 g_hd := by
  refine fnT tabok_hdI2 Try.func39 rfl rfl an_hdI2 fun vs h v h' e => ?_
  unfold g_hd at e
  split at e
  case h_2 => exact (T.no_inv e).elim
  rename_i b o g n
  refine ⟨n.toNat + 1, Eq.trans (run_hdI2 _ _ _ _ _) (Eq.trans ?_ e)⟩
  show _ = T.k _ _
  simp only [T.k]
  cases hok : ok_br b o g 1 n
  · rfl
  have hb := br_bound hok
  have hl := len_br b o g 1 n
  have hc := count_up n.toNat (hdF (li_br b o g 1 n)) (fun M i s => lp_hdI26 (n.toNat + 1) M (st_hdI26 n.toNat (s : Int) ((n.toNat : Nat) : Int) (i : Int) (li_br b o g 1 n)) (kt_hdI26 (n.toNat + 1) (kEnd Try.f39 0))) (fun s => some (hdV s ((li_br b o g 1 n).getD s 0) true, [])) (fun _ s => s < n.toNat)
    (fun M i s hi hs => ?_) (fun M s hs => ?_) n.toNat 0 0 (by omega) (by omega) 0
  · rw [show n.toNat + 1 + 0 = n.toNat + 1 by omega] at hc
    exact hc
  · have h1 : (li_br b o g 1 n)[i]? = some ((li_br b o g 1 n).getD i 0) := get_getD (by omega)
    have h2 : (li_br b o g 1 n)[s]? = some ((li_br b o g 1 n).getD s 0) := get_getD (by omega)
    simp only [step_hdI26, dlt hi, din hi, din hs, ix, h1, h2, wr (show i < 2147483648 by omega), hdF]
    cases gtB ((li_br b o g 1 n).getD i 0) ((li_br b o g 1 n).getD s 0)
    · exact ⟨rfl, hs⟩
    · exact ⟨rfl, hi⟩
  · have h2 : (li_br b o g 1 n)[s]? = some ((li_br b o g 1 n).getD s 0) := get_getD (by omega)
    simp only [step_hdI26, dge (Nat.le_refl _), end_hdI26_0, din hs, ix, h2]
def tab_lawhd : Fns := tabT [(38, g_hd), (39, g_hd), (17, gT gSame)]
theorem tabok_lawhd : ∀ f, FnT Try.prog f (tab_lawhd f) := (tabT_cons (k := 38) ok_hdS (tabT_cons (k := 39) ok_hdI2 (tabT_cons (k := 17) ok_sameFloat tabT_nil)))
theorem run_lawhd (N : Nat) (b : Nat) (o : Nat) (g : Nat) (n : Int) : run ty tab_lawhd ann0 N Try.f9 [.fl .f32 b, .fl .f32 o, .fl .f32 g, .int .i64 n] []
    = (match ok_br b o g 1 n with
  | true => (match ok_br b o g 1 n with
    | true => (match ((hdI b o g n : Nat) : Int) != ((hdI b o g n : Nat) : Int) with
      | true => some (.bool false, [])
      | false => (match fconv .f32 (hdX b o g n) .f64 with
        | some c1 => (match fconv .f32 (hdX b o g n) .f64 with
          | some c2 => (match !(sameB c1 c2) with
            | true => some (.bool false, [])
            | false => some (.bool true, []))
          | none => none)
        | none => none))
    | false => (match 0 != ((hdI b o g n : Nat) : Int) with
      | true => some (.bool false, [])
      | false => (match fconv .f32 (hdX b o g n) .f64 with
        | some c3 => (match !(sameB 0 c3) with
          | true => some (.bool false, [])
          | false => some (.bool false, []))
        | none => none)))
  | false => (match ok_br b o g 1 n with
    | true => (match ((hdI b o g n : Nat) : Int) != 0 with
      | true => some (.bool false, [])
      | false => (match fconv .f32 (hdX b o g n) .f64 with
        | some c4 => (match !(sameB c4 0) with
          | true => some (.bool false, [])
          | false => some (.bool false, []))
        | none => none))
    | false => (match !(sameB 0 0) with
      | true => some (.bool false, [])
      | false => some (.bool true, [])))) := by
  kernel_rfl

theorem ok_lawBranchHead : FnOk Try.prog 9 (fun vs h => match vs, h with | [.fl .f32 b, .fl .f32 o, .fl .f32 g, .int .i64 n], [] => some (.bool true, []) | _, _ => none) := by
  refine fnOk tabok_lawhd Try.func9 rfl rfl ann0 fun vs h v h' e => ⟨0, ?_⟩
  split at e
  case h_2 => cases e
  rename_i b o g n
  cases e
  refine Eq.trans (run_lawhd 0 _ _ _ _) ?_
  have h5 : ((hdI b o g n : Int) != (hdI b o g n : Int)) = false := by simp
  cases ok_br b o g 1 n <;> simp only [h5, fconv_eq, sameB_self, Bool.not_true]
end Go.Proofs.Ythcjbchkagkaaaa.Ab
