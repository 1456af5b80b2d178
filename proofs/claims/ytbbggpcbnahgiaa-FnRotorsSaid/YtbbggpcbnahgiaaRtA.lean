/- Levels, tops and branches of rotors. Only lemmas. Printed by gen_rotors.py. -/
import Derived.Test.YtbbggpcbnahgiaaWShared
namespace Go.Proofs.Ytbbggpcbnahgiaa.Ab
set_option linter.unusedVariables false
set_option linter.unusedSimpArgs false
open Go
def el_rl (b : Nat) (d : Nat) (n : Int) (i : Nat) : Nat := fop .sub .f32 (fop .mul .f32 b (v_rotor (i : Int))) (fop .mul .f32 (fop .mul .f32 d (v_rotor (i : Int))) (v_rotor (i : Int)))
def li_rl (b : Nat) (d : Nat) (n : Int) : List Nat := (List.range' 0 (n.toNat)).map (el_rl b d n)
def ok_rl (b : Nat) (d : Nat) (n : Int) : Bool := nonB b && (nonB d && (inB n 1 40 && ((li_rl b d n).all finB)))
def g_rl : GT := fun vs h => match vs, h with
  | [.fl .f32 b, .fl .f32 d, .int .i64 n], [] => .ite (ok_rl b d n) (.ret (.tup [.a (.sl 0 0 (n.toNat)), .a (.bool true)]) [.at true (.fl .f32 (li_rl b d n))]) (.ret nilF [])
  | _, _ => .no
theorem len_rl (b : Nat) (d : Nat) (n : Int) : (li_rl b d n).length = n.toNat := by simp [li_rl]
def an_rlI : Ann := ⟨fun r => if r = 5 then some ([0, 1, 8, 22, 23], [8]) else none, fun _ _ => .quiet⟩
def tab_rlI : Fns := tabT [(25, gAllT nonB), (26, gT gIn), (27, gT g_rotor), (28, gLsT)]
theorem tabok_rlI : ∀ f, FnT Try.prog f (tab_rlI f) := (tabT_cons (k := 25) ok_areRotor (tabT_cons (k := 26) ok_within (tabT_cons (k := 27) ok_rotor (tabT_cons (k := 28) ok_checkedNumbers tabT_nil))))
def st_rlI5 (b0 : Nat) (d1 : Nat) (out8n : Nat) (t22 : Int) (t23 : Int) (l0 : List Nat) : St := ⟨(.fl .f32 b0 :: .fl .f32 d1 :: (anys 6 (.sl 0 0 out8n :: (anys 13 (.int .i64 t22 :: .int .i64 t23 :: (anys 21 [])))))), [.at true (.fl .f32 l0)]⟩
abbrev kp_rlI5 : Option (List Nat × List Nat) := some ([0, 1, 8, 22, 23], [8])
noncomputable def lp_rlI5 {R : Type} (N M : Nat) (s : St) (K : X → St → Option R) : Option R := loopH 0 kp_rlI5 (fun st K => exec ty tab_rlI an_rlI N 0 (atOf [true, true, true, false, true, false, false] Try.f7) st K) M s K
noncomputable def bk_rlI5 {R : Type} (N M : Nat) (K : X → St → Option R) : X → St → Option R := fun x st => match x with | .norm => tidyK 0 (kp_rlI5.map (·.1)) st fun st => lp_rlI5 N M st K | x => tidyK 0 (kp_rlI5.map (·.2)) st fun st => K x st
noncomputable def kt_rlI5 {R : Type} (N : Nat) (K : X → St → Option R) : X → St → Option R := kBlkR 0 (kSeqR tab_rlI an_rlI N 0 (atOf [true, true, true, true] Try.f7) (K))
def en_rlI5_0 (out8n : Nat) (l0 : List Nat) : St := ⟨(anys 8 (.sl 0 0 out8n :: (anys 36 []))), [.at true (.fl .f32 l0)]⟩
theorem run_rlI (N : Nat) (b : Nat) (d : Nat) (n : Int) : run ty tab_rlI an_rlI N Try.f7 [.fl .f32 b, .fl .f32 d, .int .i64 n] []
    = (match !(nonB b && (nonB d && true)) with | true => some (.tup [.a (.nil), .a (.bool false)], []) | false => (match !(inB n 1 40) with | true => some (.tup [.a (.nil), .a (.bool false)], []) | false => lp_rlI5 N N (st_rlI5 b d 0 n 0 ([] : List Nat)) (kt_rlI5 N (kEnd Try.f7 0)))) := by
  kernel_rfl
theorem step_rlI5 {R : Type} (N M : Nat) (K : X → St → Option R) (b0 : Nat) (d1 : Nat) (out8n : Nat) (t22 : Int) (t23 : Int) (l0 : List Nat) : lp_rlI5 N (M + 1) (st_rlI5 b0 d1 out8n t22 t23 l0) K
    = (match decide ((t23 : Int) < t22) with | true => (match apok true out8n 1 l0.length 1 (out8n + 1) 4 with | true => lp_rlI5 N M (st_rlI5 b0 d1 (out8n + 1) t22 (IntKind.i64.wrap (t23 + 1)) (l0 ++ [fop .sub .f32 (fop .mul .f32 b0 (v_rotor t23)) (fop .mul .f32 (fop .mul .f32 d1 (v_rotor t23)) (v_rotor t23))])) K | false => none) | false => K (.exit 0) (en_rlI5_0 out8n l0)) := by
  kernel_rfl
theorem end_rlI5_0 (N : Nat) (out8n : Nat) (l0 : List Nat) : kt_rlI5 N (kEnd Try.f7 0) (.exit 0) (en_rlI5_0 out8n l0)
    = (match decide (l0.length = out8n ∧ out8n < 2147483648) with | true => (match l0.all finB with | true => some (.tup [.a (.sl 0 0 out8n), .a (.bool true)], [.at true (.fl .f32 l0)]) | false => some (.tup [.a (.nil), .a (.bool false)], [])) | false => none) := by
  kernel_rfl

theorem ok_rlI : FnT Try.prog 7 g_rl := by
  refine fnT tabok_rlI Try.func7 rfl rfl an_rlI fun vs h v h' e => ?_
  unfold g_rl at e
  split at e
  case h_2 => exact (T.no_inv e).elim
  rename_i b d n
  refine ⟨n.toNat + 1, Eq.trans (run_rlI _ _ _ _) (Eq.trans ?_ e)⟩
  show _ = T.k _ _
  simp only [T.k]
  unfold ok_rl
  cases h0 : nonB b
  · rfl
  cases h1 : nonB d
  · rfl
  cases h2 : inB n 1 40
  · rfl
  have hb := inB_of h2
  obtain ⟨m, rfl⟩ : ∃ m : Nat, n = (m : Int) := ⟨n.toNat, by omega⟩
  rw [Int.toNat_natCast]
  refine Eq.trans (app_loop m (el_rl b d ((m : Nat) : Int)) (fun M i l => lp_rlI5 (m + 1) M (st_rlI5 b d i ((m : Nat) : Int) (i : Int) l) (kt_rlI5 (m + 1) (kEnd Try.f7 0))) (fun l => match l.all finB with | true => some (.tup [.a (.sl 0 0 m), .a (.bool true)], [.at true (.fl .f32 l)]) | false => some (nilF, [])) (fun M i l hi hl => ?_) (fun M l hl => ?_)) ?_
  · simp only [step_rlI5, dlt hi, apc hl (show i < 2147483648 by omega) (show 4 ≤ 16 by omega), wr (show i < 2147483648 by omega)]
    rfl
  · simp only [step_rlI5, dge (Nat.le_refl _), end_rlI5_0, decide_eq_true (show l.length = m ∧ m < 2147483648 from ⟨hl, by omega⟩)] <;> (cases l.all finB <;> rfl)
  · simp only [Bool.true_and]
    show _ = match (li_rl b d ((m : Nat) : Int)).all finB with | true => _ | false => _
    unfold li_rl
    simp only [Int.toNat_natCast] <;> (cases (List.map (el_rl b d ((m : Nat) : Int)) (List.range' 0 m)).all finB <;> rfl)
def el_tl (a : Nat) (b : Nat) (j : Int) (i : Nat) : Nat := fop .add .f32 (fop .mul .f32 b (v_rotor j)) (fop .mul .f32 (fop .mul .f32 (fop .sub .f32 a b) (floatOfInt .f32 (i : Int))) (floatOfInt .f32 (i : Int)))
def li_tl (a : Nat) (b : Nat) (j : Int) : List Nat := (List.range' 0 ((j + 1).toNat)).map (el_tl a b j)
def ok_tl (a : Nat) (b : Nat) (j : Int) : Bool := nonB a && (nonB b && (inB j 0 40 && ((li_tl a b j).all finB)))
def g_tl : GT := fun vs h => match vs, h with
  | [.fl .f32 a, .fl .f32 b, .int .i64 j], [] => .ite (ok_tl a b j) (.ret (.tup [.a (.sl 0 0 ((j + 1).toNat)), .a (.bool true)]) [.at true (.fl .f32 (li_tl a b j))]) (.ret nilF [])
  | _, _ => .no
theorem len_tl (a : Nat) (b : Nat) (j : Int) : (li_tl a b j).length = (j + 1).toNat := by simp [li_tl]
def an_tlI : Ann := ⟨fun r => if r = 5 then some ([0, 1, 2, 8, 23, 24], [8]) else none, fun _ _ => .quiet⟩
def tab_tlI : Fns := tabT [(25, gAllT nonB), (26, gT gIn), (27, gT g_rotor), (28, gLsT)]
theorem tabok_tlI : ∀ f, FnT Try.prog f (tab_tlI f) := (tabT_cons (k := 25) ok_areRotor (tabT_cons (k := 26) ok_within (tabT_cons (k := 27) ok_rotor (tabT_cons (k := 28) ok_checkedNumbers tabT_nil))))
def st_tlI5 (a0 : Nat) (b1 : Nat) (j2 : Int) (out8n : Nat) (t23 : Int) (t24 : Int) (l0 : List Nat) : St := ⟨(.fl .f32 a0 :: .fl .f32 b1 :: .int .i64 j2 :: .any :: .any :: .any :: .any :: .any :: .sl 0 0 out8n :: (anys 14 (.int .i64 t23 :: .int .i64 t24 :: (anys 24 [])))), [.at true (.fl .f32 l0)]⟩
abbrev kp_tlI5 : Option (List Nat × List Nat) := some ([0, 1, 2, 8, 23, 24], [8])
noncomputable def lp_tlI5 {R : Type} (N M : Nat) (s : St) (K : X → St → Option R) : Option R := loopH 0 kp_tlI5 (fun st K => exec ty tab_tlI an_tlI N 0 (atOf [true, true, true, false, true, false, false] Try.f11) st K) M s K
noncomputable def bk_tlI5 {R : Type} (N M : Nat) (K : X → St → Option R) : X → St → Option R := fun x st => match x with | .norm => tidyK 0 (kp_tlI5.map (·.1)) st fun st => lp_tlI5 N M st K | x => tidyK 0 (kp_tlI5.map (·.2)) st fun st => K x st
noncomputable def kt_tlI5 {R : Type} (N : Nat) (K : X → St → Option R) : X → St → Option R := kBlkR 0 (kSeqR tab_tlI an_tlI N 0 (atOf [true, true, true, true] Try.f11) (K))
def en_tlI5_0 (out8n : Nat) (l0 : List Nat) : St := ⟨(anys 8 (.sl 0 0 out8n :: (anys 40 []))), [.at true (.fl .f32 l0)]⟩
theorem run_tlI (N : Nat) (a : Nat) (b : Nat) (j : Int) : run ty tab_tlI an_tlI N Try.f11 [.fl .f32 a, .fl .f32 b, .int .i64 j] []
    = (match !(nonB a && (nonB b && true)) with | true => some (.tup [.a (.nil), .a (.bool false)], []) | false => (match !(inB j 0 40) with | true => some (.tup [.a (.nil), .a (.bool false)], []) | false => lp_tlI5 N N (st_tlI5 a b j 0 (IntKind.i64.wrap (j + 1)) 0 ([] : List Nat)) (kt_tlI5 N (kEnd Try.f11 0)))) := by
  kernel_rfl
theorem step_tlI5 {R : Type} (N M : Nat) (K : X → St → Option R) (a0 : Nat) (b1 : Nat) (j2 : Int) (out8n : Nat) (t23 : Int) (t24 : Int) (l0 : List Nat) : lp_tlI5 N (M + 1) (st_tlI5 a0 b1 j2 out8n t23 t24 l0) K
    = (match decide ((t24 : Int) < t23) with | true => (match apok true out8n 1 l0.length 1 (out8n + 1) 4 with | true => lp_tlI5 N M (st_tlI5 a0 b1 j2 (out8n + 1) t23 (IntKind.i64.wrap (t24 + 1)) (l0 ++ [fop .add .f32 (fop .mul .f32 b1 (v_rotor j2)) (fop .mul .f32 (fop .mul .f32 (fop .sub .f32 a0 b1) (floatOfInt .f32 t24)) (floatOfInt .f32 t24))])) K | false => none) | false => K (.exit 0) (en_tlI5_0 out8n l0)) := by
  kernel_rfl
theorem end_tlI5_0 (N : Nat) (out8n : Nat) (l0 : List Nat) : kt_tlI5 N (kEnd Try.f11 0) (.exit 0) (en_tlI5_0 out8n l0)
    = (match decide (l0.length = out8n ∧ out8n < 2147483648) with | true => (match l0.all finB with | true => some (.tup [.a (.sl 0 0 out8n), .a (.bool true)], [.at true (.fl .f32 l0)]) | false => some (.tup [.a (.nil), .a (.bool false)], [])) | false => none) := by
  kernel_rfl

theorem ok_tlI : FnT Try.prog 11 g_tl := by
  refine fnT tabok_tlI Try.func11 rfl rfl an_tlI fun vs h v h' e => ?_
  unfold g_tl at e
  split at e
  case h_2 => exact (T.no_inv e).elim
  rename_i a b j
  refine ⟨(j + 1).toNat + 1, Eq.trans (run_tlI _ _ _ _) (Eq.trans ?_ e)⟩
  show _ = T.k _ _
  simp only [T.k]
  unfold ok_tl
  cases h0 : nonB a
  · rfl
  cases h1 : nonB b
  · rfl
  cases h2 : inB j 0 40
  · rfl
  have hb := inB_of h2
  obtain ⟨m, hm⟩ : ∃ m : Nat, j + 1 = (m : Int) := ⟨(j + 1).toNat, by omega⟩
  have hw : IntKind.i64.wrap (j + 1) = (m : Int) := by rw [wrap_s (by omega) (by omega), hm]
  rw [hw, hm, Int.toNat_natCast]
  refine Eq.trans (app_loop m (el_tl a b j) (fun M i l => lp_tlI5 (m + 1) M (st_tlI5 a b j i ((m : Nat) : Int) (i : Int) l) (kt_tlI5 (m + 1) (kEnd Try.f11 0))) (fun l => match l.all finB with | true => some (.tup [.a (.sl 0 0 m), .a (.bool true)], [.at true (.fl .f32 l)]) | false => some (nilF, [])) (fun M i l hi hl => ?_) (fun M l hl => ?_)) ?_
  · simp only [step_tlI5, dlt hi, apc hl (show i < 2147483648 by omega) (show 4 ≤ 16 by omega), wr (show i < 2147483648 by omega)]
    rfl
  · simp only [step_tlI5, dge (Nat.le_refl _), end_tlI5_0, decide_eq_true (show l.length = m ∧ m < 2147483648 from ⟨hl, by omega⟩)] <;> (cases l.all finB <;> rfl)
  · simp only [Bool.true_and]
    show _ = match (li_tl a b j).all finB with | true => _ | false => _
    unfold li_tl
    simp only [hm, Int.toNat_natCast] <;> (cases (List.map (el_tl a b j) (List.range' 0 m)).all finB <;> rfl)
def el_br (b : Nat) (o : Nat) (g : Nat) (k : Int) (n : Int) (i : Nat) : Nat := cond (k == 1) (fop .sub .f32 (fop .add .f32 g (fop .mul .f32 o (v_rotor ((i + 1 : Nat) : Int)))) (fop .mul .f32 b (v_rotor (i : Int)))) (cond (k == (-1)) (fop .sub .f32 (fop .add .f32 g (fop .mul .f32 o (v_rotor (i : Int)))) (fop .mul .f32 b (v_rotor ((i + 1 : Nat) : Int)))) (fop .sub .f32 (fop .add .f32 g (fop .mul .f32 o (v_rotor (i : Int)))) (fop .mul .f32 b (v_rotor (i : Int)))))
def li_br (b : Nat) (o : Nat) (g : Nat) (k : Int) (n : Int) : List Nat := (List.range' 0 (n.toNat)).map (el_br b o g k n)
def ok_br (b : Nat) (o : Nat) (g : Nat) (k : Int) (n : Int) : Bool := nonB b && (nonB o && (finB g && (inB k (-1) 1 && (inB n 1 40 && ((li_br b o g k n).all finB)))))
def g_br : GT := fun vs h => match vs, h with
  | [.fl .f32 b, .fl .f32 o, .fl .f32 g, .int .i64 k, .int .i64 n], [] => .ite (ok_br b o g k n) (.ret (.tup [.a (.sl 0 0 (n.toNat)), .a (.bool true)]) [.at true (.fl .f32 (li_br b o g k n))]) (.ret nilF [])
  | _, _ => .no
theorem len_br (b : Nat) (o : Nat) (g : Nat) (k : Int) (n : Int) : (li_br b o g k n).length = n.toNat := by simp [li_br]
def an_brI : Ann := ⟨fun r => if r = 5 then some ([0, 1, 2, 3, 12, 37, 38], [12]) else none, fun _ _ => .quiet⟩
def tab_brI : Fns := tabT [(25, gAllT nonB), (35, gT (gF1 finB)), (26, gT gIn), (27, gT g_rotor), (28, gLsT)]
theorem tabok_brI : ∀ f, FnT Try.prog f (tab_brI f) := (tabT_cons (k := 25) ok_areRotor (tabT_cons (k := 35) ok_IsFinite (tabT_cons (k := 26) ok_within (tabT_cons (k := 27) ok_rotor (tabT_cons (k := 28) ok_checkedNumbers tabT_nil)))))
def st_brI5 (b0 : Nat) (other1 : Nat) (origin2 : Nat) (kind3 : Int) (out12n : Nat) (t37 : Int) (t38 : Int) (l0 : List Nat) : St := ⟨(.fl .f32 b0 :: .fl .f32 other1 :: .fl .f32 origin2 :: .int .i64 kind3 :: (anys 8 (.sl 0 0 out12n :: (anys 24 (.int .i64 t37 :: .int .i64 t38 :: (anys 32 [])))))), [.at true (.fl .f32 l0)]⟩
abbrev kp_brI5 : Option (List Nat × List Nat) := some ([0, 1, 2, 3, 12, 37, 38], [12])
noncomputable def lp_brI5 {R : Type} (N M : Nat) (s : St) (K : X → St → Option R) : Option R := loopH 0 kp_brI5 (fun st K => exec ty tab_brI an_brI N 0 (atOf [true, true, true, false, true, false, false] Try.f16) st K) M s K
noncomputable def bk_brI5 {R : Type} (N M : Nat) (K : X → St → Option R) : X → St → Option R := fun x st => match x with | .norm => tidyK 0 (kp_brI5.map (·.1)) st fun st => lp_brI5 N M st K | x => tidyK 0 (kp_brI5.map (·.2)) st fun st => K x st
noncomputable def kt_brI5 {R : Type} (N : Nat) (K : X → St → Option R) : X → St → Option R := kBlkR 0 (kSeqR tab_brI an_brI N 0 (atOf [true, true, true, true] Try.f16) (K))
def en_brI5_0 (out12n : Nat) (l0 : List Nat) : St := ⟨(anys 12 (.sl 0 0 out12n :: (anys 58 []))), [.at true (.fl .f32 l0)]⟩
theorem run_brI (N : Nat) (b : Nat) (o : Nat) (g : Nat) (k : Int) (n : Int) : run ty tab_brI an_brI N Try.f16 [.fl .f32 b, .fl .f32 o, .fl .f32 g, .int .i64 k, .int .i64 n] []
    = (match !(nonB b && (nonB o && true)) with | true => some (.tup [.a (.nil), .a (.bool false)], []) | false => (match !(finB g) with | true => some (.tup [.a (.nil), .a (.bool false)], []) | false => (match !(inB k (-1) 1) with | true => some (.tup [.a (.nil), .a (.bool false)], []) | false => (match !(inB n 1 40) with | true => some (.tup [.a (.nil), .a (.bool false)], []) | false => lp_brI5 N N (st_brI5 b o g k 0 n 0 ([] : List Nat)) (kt_brI5 N (kEnd Try.f16 0)))))) := by
  kernel_rfl
theorem step_brI5 {R : Type} (N M : Nat) (K : X → St → Option R) (b0 : Nat) (other1 : Nat) (origin2 : Nat) (kind3 : Int) (out12n : Nat) (t37 : Int) (t38 : Int) (l0 : List Nat) : lp_brI5 N (M + 1) (st_brI5 b0 other1 origin2 kind3 out12n t37 t38 l0) K
    = (match decide ((t38 : Int) < t37) with | true => (match kind3 == 1 with | true => (match apok true out12n 1 l0.length 1 (out12n + 1) 4 with | true => lp_brI5 N M (st_brI5 b0 other1 origin2 kind3 (out12n + 1) t37 (IntKind.i64.wrap (t38 + 1)) (l0 ++ [fop .sub .f32 (fop .add .f32 origin2 (fop .mul .f32 other1 (v_rotor (IntKind.i64.wrap (t38 + 1))))) (fop .mul .f32 b0 (v_rotor t38))])) K | false => none) | false => (match kind3 == (-1) with | true => (match apok true out12n 1 l0.length 1 (out12n + 1) 4 with | true => lp_brI5 N M (st_brI5 b0 other1 origin2 kind3 (out12n + 1) t37 (IntKind.i64.wrap (t38 + 1)) (l0 ++ [fop .sub .f32 (fop .add .f32 origin2 (fop .mul .f32 other1 (v_rotor t38))) (fop .mul .f32 b0 (v_rotor (IntKind.i64.wrap (t38 + 1))))])) K | false => none) | false => (match apok true out12n 1 l0.length 1 (out12n + 1) 4 with | true => lp_brI5 N M (st_brI5 b0 other1 origin2 kind3 (out12n + 1) t37 (IntKind.i64.wrap (t38 + 1)) (l0 ++ [fop .sub .f32 (fop .add .f32 origin2 (fop .mul .f32 other1 (v_rotor t38))) (fop .mul .f32 b0 (v_rotor t38))])) K | false => none))) | false => K (.exit 0) (en_brI5_0 out12n l0)) := by
  kernel_rfl
theorem end_brI5_0 (N : Nat) (out12n : Nat) (l0 : List Nat) : kt_brI5 N (kEnd Try.f16 0) (.exit 0) (en_brI5_0 out12n l0)
    = (match decide (l0.length = out12n ∧ out12n < 2147483648) with | true => (match l0.all finB with | true => some (.tup [.a (.sl 0 0 out12n), .a (.bool true)], [.at true (.fl .f32 l0)]) | false => some (.tup [.a (.nil), .a (.bool false)], [])) | false => none) := by
  kernel_rfl

theorem ok_brI : FnT Try.prog 16 g_br := by
  refine fnT tabok_brI Try.func16 rfl rfl an_brI fun vs h v h' e => ?_
  unfold g_br at e
  split at e
  case h_2 => exact (T.no_inv e).elim
  rename_i b o g k n
  refine ⟨n.toNat + 1, Eq.trans (run_brI _ _ _ _ _ _) (Eq.trans ?_ e)⟩
  show _ = T.k _ _
  simp only [T.k]
  unfold ok_br
  cases h0 : nonB b
  · rfl
  cases h1 : nonB o
  · rfl
  cases h2 : finB g
  · rfl
  cases h3 : inB k (-1) 1
  · rfl
  cases h4 : inB n 1 40
  · rfl
  have hb := inB_of h4
  obtain ⟨m, rfl⟩ : ∃ m : Nat, n = (m : Int) := ⟨n.toNat, by omega⟩
  rw [Int.toNat_natCast]
  refine Eq.trans (app_loop m (el_br b o g k ((m : Nat) : Int)) (fun M i l => lp_brI5 (m + 1) M (st_brI5 b o g k i ((m : Nat) : Int) (i : Int) l) (kt_brI5 (m + 1) (kEnd Try.f16 0))) (fun l => match l.all finB with | true => some (.tup [.a (.sl 0 0 m), .a (.bool true)], [.at true (.fl .f32 l)]) | false => some (nilF, [])) (fun M i l hi hl => ?_) (fun M l hl => ?_)) ?_
  · simp only [step_brI5, dlt hi, apc hl (show i < 2147483648 by omega) (show 4 ≤ 16 by omega), wr (show i < 2147483648 by omega)]
    unfold el_br
    cases hk1 : (k == 1) with
    | true =>
      cases hk2 : (k == (-1)) with
      | true => exfalso; simp only [beq_iff_eq] at hk1 hk2; omega
      | false => rfl
    | false => cases hk2 : (k == (-1)) <;> rfl
  · simp only [step_brI5, dge (Nat.le_refl _), end_brI5_0, decide_eq_true (show l.length = m ∧ m < 2147483648 from ⟨hl, by omega⟩)] <;> (cases l.all finB <;> rfl)
  · simp only [Bool.true_and]
    show _ = match (li_br b o g k ((m : Nat) : Int)).all finB with | true => _ | false => _
    unfold li_br
    simp only [Int.toNat_natCast] <;> (cases (List.map (el_br b o g k ((m : Nat) : Int)) (List.range' 0 m)).all finB <;> rfl)
def hdF (l : List Nat) (i s : Nat) : Nat := cond (gtB (l.getD i 0) (l.getD s 0)) i s
def hdI (b o g : Nat) (n : Int) : Nat := rounds (hdF (li_br b o g 1 n)) n.toNat 0 0
def hdX (b o g : Nat) (n : Int) : Nat := (li_br b o g 1 n).getD (hdI b o g n) 0
abbrev hdV (x : Int) (y : Nat) (z : Bool) : V := .tup [.a (.int .i64 x), .a (.fl .f32 y), .a (.bool z)]
def g_hd : GT := fun vs h => match vs, h with
  | [.fl .f32 b, .fl .f32 o, .fl .f32 g, .int .i64 n], [] => .ite (ok_br b o g 1 n) (.ret (hdV (hdI b o g n) (hdX b o g n) true) []) (.ret (hdV 0 0 false) [])
  | _, _ => .no
theorem br_bound {b o g : Nat} {k n : Int} (h : ok_br b o g k n = true) : 1 ≤ n ∧ n ≤ 40 := by
  unfold ok_br at h
  simp only [Bool.and_eq_true] at h
  exact inB_of h.2.2.2.2.1
def an_hdI2 : Ann := ⟨fun r => if r = 6 then some ([11, 13, 26, 27, 28], [11, 13]) else none, fun _ _ => .quiet⟩
def tab_hdI2 : Fns := tabT [(16, g_br)]
theorem tabok_hdI2 : ∀ f, FnT Try.prog f (tab_hdI2 f) := (tabT_cons (k := 16) ok_brI tabT_nil)
def st_hdI26 (lines11n : Nat) (best13 : Int) (t27 : Int) (t28 : Int) (l0 : List Nat) : St := ⟨(anys 11 (.sl 0 0 lines11n :: .any :: .int .i64 best13 :: (anys 12 (.sl 0 0 lines11n :: .int .i64 t27 :: .int .i64 t28 :: (anys 17 []))))), [.at true (.fl .f32 l0)]⟩
abbrev kp_hdI26 : Option (List Nat × List Nat) := some ([11, 13, 26, 27, 28], [11, 13])
noncomputable def lp_hdI26 {R : Type} (N M : Nat) (s : St) (K : X → St → Option R) : Option R := loopH 0 kp_hdI26 (fun st K => exec ty tab_hdI2 an_hdI2 N 0 (atOf [true, true, true, true, false, true, false, false] Try.f17) st K) M s K
noncomputable def bk_hdI26 {R : Type} (N M : Nat) (K : X → St → Option R) : X → St → Option R := fun x st => match x with | .norm => tidyK 0 (kp_hdI26.map (·.1)) st fun st => lp_hdI26 N M st K | x => tidyK 0 (kp_hdI26.map (·.2)) st fun st => K x st
noncomputable def kt_hdI26 {R : Type} (N : Nat) (K : X → St → Option R) : X → St → Option R := kBlkR 0 (kSeqR tab_hdI2 an_hdI2 N 0 (atOf [true, true, true, true, true] Try.f17) (K))
def en_hdI26_0 (lines11n : Nat) (best13 : Int) (l0 : List Nat) : St := ⟨(anys 11 (.sl 0 0 lines11n :: .any :: .int .i64 best13 :: (anys 32 []))), [.at true (.fl .f32 l0)]⟩
theorem run_hdI2 (N : Nat) (b : Nat) (o : Nat) (g : Nat) (n : Int) : run ty tab_hdI2 an_hdI2 N Try.f17 [.fl .f32 b, .fl .f32 o, .fl .f32 g, .int .i64 n] []
    = (match ok_br b o g 1 n with | true => lp_hdI26 N N (st_hdI26 n.toNat 0 ((n.toNat : Nat) : Int) 0 (li_br b o g 1 n)) (kt_hdI26 N (kEnd Try.f17 0)) | false => some (.tup [.a (.int .i64 0), .a (.fl .f32 0), .a (.bool false)], [])) := by
  kernel_rfl
theorem step_hdI26 {R : Type} (N M : Nat) (K : X → St → Option R) (lines11n : Nat) (best13 : Int) (t27 : Int) (t28 : Int) (l0 : List Nat) : lp_hdI26 N (M + 1) (st_hdI26 lines11n best13 t27 t28 l0) K
    = (match decide ((t28 : Int) < t27) with | true => (match decide (0 ≤ (t28 : Int) ∧ (t28 : Int) < ((lines11n : Nat) : Int)) with | true => (match l0[0 + (t28).toNat * 1]? with | some e1 => (match decide (0 ≤ (best13 : Int) ∧ (best13 : Int) < ((lines11n : Nat) : Int)) with | true => (match l0[0 + (best13).toNat * 1]? with | some e2 => (match gtB e1 e2 with | true => lp_hdI26 N M (st_hdI26 lines11n t28 t27 (IntKind.i64.wrap (t28 + 1)) l0) K | false => lp_hdI26 N M (st_hdI26 lines11n best13 t27 (IntKind.i64.wrap (t28 + 1)) l0) K) | none => none) | false => none) | none => none) | false => none) | false => K (.exit 0) (en_hdI26_0 lines11n best13 l0)) := by
  kernel_rfl
theorem end_hdI26_0 (N : Nat) (lines11n : Nat) (best13 : Int) (l0 : List Nat) : kt_hdI26 N (kEnd Try.f17 0) (.exit 0) (en_hdI26_0 lines11n best13 l0)
    = (match decide (0 ≤ (best13 : Int) ∧ (best13 : Int) < ((lines11n : Nat) : Int)) with | true => (match l0[0 + (best13).toNat * 1]? with | some e1 => some (.tup [.a (.int .i64 best13), .a (.fl .f32 e1), .a (.bool true)], []) | none => none) | false => none) := by
  kernel_rfl

theorem ok_hdI2 : FnT Try.prog 17 g_hd := by
  refine fnT tabok_hdI2 Try.func17 rfl rfl an_hdI2 fun vs h v h' e => ?_
  unfold g_hd at e
  split at e
  case h_2 => exact (T.no_inv e).elim
  rename_i b o g n
  refine ⟨n.toNat + 1, Eq.trans (run_hdI2 _ _ _ _ _) (Eq.trans ?_ e)⟩
  show _ = T.k _ _
  simp only [T.k]
  cases hok : ok_br b o g 1 n
  · rfl
  have hb := br_bound hok
  have hl := len_br b o g 1 n
  have hc := count_up n.toNat (hdF (li_br b o g 1 n)) (fun M i s => lp_hdI26 (n.toNat + 1) M (st_hdI26 n.toNat (s : Int) ((n.toNat : Nat) : Int) (i : Int) (li_br b o g 1 n)) (kt_hdI26 (n.toNat + 1) (kEnd Try.f17 0))) (fun s => some (hdV s ((li_br b o g 1 n).getD s 0) true, [])) (fun _ s => s < n.toNat)
    (fun M i s hi hs => ?_) (fun M s hs => ?_) n.toNat 0 0 (by omega) (by omega) 0
  · rw [show n.toNat + 1 + 0 = n.toNat + 1 by omega] at hc
    exact hc
  · have h1 : (li_br b o g 1 n)[i]? = some ((li_br b o g 1 n).getD i 0) := get_getD (by omega)
    have h2 : (li_br b o g 1 n)[s]? = some ((li_br b o g 1 n).getD s 0) := get_getD (by omega)
    simp only [step_hdI26, dlt hi, din hi, din hs, ix, h1, h2, wr (show i < 2147483648 by omega), hdF]
    cases gtB ((li_br b o g 1 n).getD i 0) ((li_br b o g 1 n).getD s 0)
    · exact ⟨rfl, hs⟩
    · exact ⟨rfl, hi⟩
  · have h2 : (li_br b o g 1 n)[s]? = some ((li_br b o g 1 n).getD s 0) := get_getD (by omega)
    simp only [step_hdI26, dge (Nat.le_refl _), end_hdI26_0, din hs, ix, h2]
end Go.Proofs.Ytbbggpcbnahgiaa.Ab
