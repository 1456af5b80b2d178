/- Factorials. Only lemmas. Printed by gen_join.py. -/
import Derived.Test.YtbhfjdlhhjeknaaNum
namespace Go.Proofs.Ytbhfjdlhhjeknaa.Ab
set_option linter.unusedVariables false
set_option linter.unusedSimpArgs false
open Go
def an_A_xexactIntSub_0 : Ann := ⟨fun r =>  none, fun r n => if r = 1 ∧ n = 12 then .plain else if r = 1 ∧ n = 13 then .plain else .quiet⟩
def tab_A_xexactIntSub_0 : Fns := tabT [(160, gPut), (150, gAddI)]
theorem tabok_A_xexactIntSub_0 : ∀ f, FnT Try.prog f (tab_A_xexactIntSub_0 f) := (tabT_cons (k := 160) ok_put (tabT_cons (k := 150) ok_addI tabT_nil))
theorem run_A_xexactIntSub_0 (N : Nat) (b0_0 : Bool) (b0_1 : Nat) (b1_0 : Bool) (b1_1 : Nat) : run ty tab_A_xexactIntSub_0 an_A_xexactIntSub_0 N Try.f149 [.ptr 0 0, .ptr 1 0, .ptr 0 0] [.at true (.as 1 [.bool b0_0, .big b0_1]), .at true (.as 1 [.bool b1_0, .big b1_1])]
    = (match lowB b1_1 && lowB b0_1 with
  | true => some (.ptr 0 0, [.at true (.as 1 [.bool (decide ((sgI b1_0 b1_1) + (sgI (!b0_0 && (decide (0 < b0_1))) b0_1) < 0)), .big (((sgI b1_0 b1_1) + (sgI (!b0_0 && (decide (0 < b0_1))) b0_1)).natAbs)]), .at true (.as 1 [.bool b1_0, .big b1_1])])
  | false => none) := by
  kernel_rfl

def gA_xexactIntSub : GT := fun vs h => match vs, h with
  | [.ptr 0 0, .ptr 1 0, .ptr 0 0], [.at true (.as 1 [.bool b0_0, .big b0_1]), .at true (.as 1 [.bool b1_0, .big b1_1])] => .ite (lowB b1_1 && lowB b0_1) (.ret (.ptr 0 0) [.at true (.as 1 [.bool (decide ((sgI b1_0 b1_1) + (sgI (!b0_0 && (decide (0 < b0_1))) b0_1) < 0)), .big (((sgI b1_0 b1_1) + (sgI (!b0_0 && (decide (0 < b0_1))) b0_1)).natAbs)]), .at true (.as 1 [.bool b1_0, .big b1_1])]) (.no)
  | _, _ => .no
theorem okA_xexactIntSub : FnT Try.prog 149 gA_xexactIntSub := by
  intro vs hp v h' e
  unfold gA_xexactIntSub at e
  split at e
  · exact FnT.runs tabok_A_xexactIntSub_0 Try.func149 rfl rfl an_A_xexactIntSub_0 0 _ _ v h' (by rw [T.run_of]; exact Eq.trans (run_A_xexactIntSub_0 0 _ _ _ _) e)
  · exact (T.no_inv e).elim
def an_A_xexactIntMul_0 : Ann := ⟨fun r =>  none, fun r n => if r = 1 ∧ n = 18 then .grow else if r = 1 ∧ n = 19 then .plain else .quiet⟩
def tab_A_xexactIntMul_0 : Fns := tabT [(161, gBig2 (fun v w => v * w) (fun v w => lowB v && lowB w)), (160, gPut)]
theorem tabok_A_xexactIntMul_0 : ∀ f, FnT Try.prog f (tab_A_xexactIntMul_0 f) := (tabT_cons (k := 161) ok_mulD (tabT_cons (k := 160) ok_put tabT_nil))
theorem run_A_xexactIntMul_0 (N : Nat) (b0_0 : Bool) (b0_1 : Nat) (b1_0 : Bool) (b1_1 : Nat) : run ty tab_A_xexactIntMul_0 an_A_xexactIntMul_0 N Try.f120 [.ptr 0 0, .ptr 0 0, .ptr 1 0] [.at true (.as 1 [.bool b0_0, .big b0_1]), .at true (.as 1 [.bool b1_0, .big b1_1])]
    = (match lowB b0_1 && lowB b1_1 with
  | true => some (.ptr 0 0, [.at true (.as 1 [.bool ((!(b0_0 == b1_0)) && (decide (0 < b0_1 * b1_1))), .big (b0_1 * b1_1)]), .at true (.as 1 [.bool b1_0, .big b1_1])])
  | false => none) := by
  kernel_rfl

def an_A_xexactIntMul_1 : Ann := ⟨fun r =>  none, fun r n => if r = 1 ∧ n = 18 then .grow else if r = 1 ∧ n = 19 then .plain else .quiet⟩
def tab_A_xexactIntMul_1 : Fns := tabT [(161, gBig2 (fun v w => v * w) (fun v w => lowB v && lowB w)), (160, gPut)]
theorem tabok_A_xexactIntMul_1 : ∀ f, FnT Try.prog f (tab_A_xexactIntMul_1 f) := (tabT_cons (k := 161) ok_mulD (tabT_cons (k := 160) ok_put tabT_nil))
theorem run_A_xexactIntMul_1 (N : Nat) (b0_0 : Bool) (b0_1 : Nat) (b1_0 : Bool) (b1_1 : Nat) : run ty tab_A_xexactIntMul_1 an_A_xexactIntMul_1 N Try.f120 [.ptr 0 0, .ptr 1 0, .ptr 1 0] [.at true (.as 1 [.bool b0_0, .big b0_1]), .at true (.as 1 [.bool b1_0, .big b1_1])]
    = (match lowB b1_1 && lowB b1_1 with
  | true => some (.ptr 0 0, [.at true (.as 1 [.bool ((!(b1_0 == b1_0)) && (decide (0 < b1_1 * b1_1))), .big (b1_1 * b1_1)]), .at true (.as 1 [.bool b1_0, .big b1_1])])
  | false => none) := by
  kernel_rfl

def gA_xexactIntMul : GT := fun vs h => match vs, h with
  | [.ptr 0 0, .ptr 0 0, .ptr 1 0], [.at true (.as 1 [.bool b0_0, .big b0_1]), .at true (.as 1 [.bool b1_0, .big b1_1])] => .ite (lowB b0_1 && lowB b1_1) (.ret (.ptr 0 0) [.at true (.as 1 [.bool ((!(b0_0 == b1_0)) && (decide (0 < b0_1 * b1_1))), .big (b0_1 * b1_1)]), .at true (.as 1 [.bool b1_0, .big b1_1])]) (.no)
  | [.ptr 0 0, .ptr 1 0, .ptr 1 0], [.at true (.as 1 [.bool b0_0, .big b0_1]), .at true (.as 1 [.bool b1_0, .big b1_1])] => .ite (lowB b1_1 && lowB b1_1) (.ret (.ptr 0 0) [.at true (.as 1 [.bool ((!(b1_0 == b1_0)) && (decide (0 < b1_1 * b1_1))), .big (b1_1 * b1_1)]), .at true (.as 1 [.bool b1_0, .big b1_1])]) (.no)
  | _, _ => .no
theorem okA_xexactIntMul : FnT Try.prog 120 gA_xexactIntMul := by
  intro vs hp v h' e
  unfold gA_xexactIntMul at e
  split at e
  · exact FnT.runs tabok_A_xexactIntMul_0 Try.func120 rfl rfl an_A_xexactIntMul_0 0 _ _ v h' (by rw [T.run_of]; exact Eq.trans (run_A_xexactIntMul_0 0 _ _ _ _) e)
  · exact FnT.runs tabok_A_xexactIntMul_1 Try.func120 rfl rfl an_A_xexactIntMul_1 0 _ _ v h' (by rw [T.run_of]; exact Eq.trans (run_A_xexactIntMul_1 0 _ _ _ _) e)
  · exact (T.no_inv e).elim
def an_A_xexactIntQuo_0 : Ann := ⟨fun r =>  none, fun r n => if r = 1 ∧ n = 8 then .grow else if r = 2 ∧ n = 11 then .plain else .quiet⟩
def tab_A_xexactIntQuo_0 : Fns := tabT [(162, gBigQ (fun v w => lowB v && lowB w && decide (0 < w))), (160, gPut)]
theorem tabok_A_xexactIntQuo_0 : ∀ f, FnT Try.prog f (tab_A_xexactIntQuo_0 f) := (tabT_cons (k := 162) ok_dvd (tabT_cons (k := 160) ok_put tabT_nil))
theorem run_A_xexactIntQuo_0 (N : Nat) (b0_0 : Bool) (b0_1 : Nat) (b1_0 : Bool) (b1_1 : Nat) (b2_0 : Bool) (b2_1 : Nat) : run ty tab_A_xexactIntQuo_0 an_A_xexactIntQuo_0 N Try.f174 [.ptr 0 0, .ptr 1 0, .ptr 2 0] [.at true (.as 1 [.bool b0_0, .big b0_1]), .at true (.as 1 [.bool b1_0, .big b1_1]), .at true (.as 1 [.bool b2_0, .big b2_1])]
    = (match lowB b1_1 && lowB b2_1 && decide (0 < b2_1) with
  | true => some (.ptr 0 0, [.at true (.as 1 [.bool ((!(b1_0 == b2_0)) && (decide (0 < b1_1 / b2_1))), .big (b1_1 / b2_1)]), .at true (.as 1 [.bool b1_0, .big b1_1]), .at true (.as 1 [.bool b2_0, .big b2_1])])
  | false => none) := by
  kernel_rfl

def gA_xexactIntQuo : GT := fun vs h => match vs, h with
  | [.ptr 0 0, .ptr 1 0, .ptr 2 0], [.at true (.as 1 [.bool b0_0, .big b0_1]), .at true (.as 1 [.bool b1_0, .big b1_1]), .at true (.as 1 [.bool b2_0, .big b2_1])] => .ite (lowB b1_1 && lowB b2_1 && decide (0 < b2_1)) (.ret (.ptr 0 0) [.at true (.as 1 [.bool ((!(b1_0 == b2_0)) && (decide (0 < b1_1 / b2_1))), .big (b1_1 / b2_1)]), .at true (.as 1 [.bool b1_0, .big b1_1]), .at true (.as 1 [.bool b2_0, .big b2_1])]) (.no)
  | _, _ => .no
theorem okA_xexactIntQuo : FnT Try.prog 174 gA_xexactIntQuo := by
  intro vs hp v h' e
  unfold gA_xexactIntQuo at e
  split at e
  · exact FnT.runs tabok_A_xexactIntQuo_0 Try.func174 rfl rfl an_A_xexactIntQuo_0 0 _ _ v h' (by rw [T.run_of]; exact Eq.trans (run_A_xexactIntQuo_0 0 _ _ _ _ _ _) e)
  · exact (T.no_inv e).elim
def tab_A_xexactIntSign_0 : Fns := tabT []
theorem tabok_A_xexactIntSign_0 : ∀ f, FnT Try.prog f (tab_A_xexactIntSign_0 f) := tabT_nil
theorem run_A_xexactIntSign_0 (N : Nat) (b0_0 : Bool) (b0_1 : Nat) : run ty tab_A_xexactIntSign_0 ann0 N Try.f151 [.ptr 0 0] [.at true (.as 1 [.bool b0_0, .big b0_1])]
    = (match b0_0 with
  | true => some (.int .i64 (-1), [.at true (.as 1 [.bool b0_0, .big b0_1])])
  | false => (match decide ((((ndig b0_1 : Nat) : Int) : Int) > 0) with
    | true => some (.int .i64 1, [.at true (.as 1 [.bool b0_0, .big b0_1])])
    | false => some (.int .i64 0, [.at true (.as 1 [.bool b0_0, .big b0_1])]))) := by
  kernel_rfl

def gA_xexactIntSign : GT := fun vs h => match vs, h with
  | [.ptr 0 0], [.at true (.as 1 [.bool b0_0, .big b0_1])] => .ite (b0_0) (.ret (.int .i64 (-1)) [.at true (.as 1 [.bool b0_0, .big b0_1])]) (.ite (decide ((((ndig b0_1 : Nat) : Int) : Int) > 0)) (.ret (.int .i64 1) [.at true (.as 1 [.bool b0_0, .big b0_1])]) (.ret (.int .i64 0) [.at true (.as 1 [.bool b0_0, .big b0_1])]))
  | _, _ => .no
theorem okA_xexactIntSign : FnT Try.prog 151 gA_xexactIntSign := by
  intro vs hp v h' e
  unfold gA_xexactIntSign at e
  split at e
  · exact FnT.runs tabok_A_xexactIntSign_0 Try.func151 rfl rfl ann0 0 _ _ v h' (by rw [T.run_of]; exact Eq.trans (run_A_xexactIntSign_0 0 _ _) e)
  · exact (T.no_inv e).elim
def an_fac : Ann := ⟨fun r => if r = 3 then some ([0, 3, 4], [3]) else none, fun _ _ => .quiet⟩
def tab_fac : Fns := tabT [(119, gNewInt), (120, gA_xexactIntMul)]
theorem tabok_fac : ∀ f, FnT Try.prog f (tab_fac f) := (tabT_cons (k := 119) ok_newInt (tabT_cons (k := 120) okA_xexactIntMul tabT_nil))
def st_fac3 (n0 : Int) (k4 : Int) (b0_0 : Bool) (b0_1 : Nat) : St := ⟨[.int .i64 n0, .any, .any, .ptr 0 0, .int .i64 k4, .any, .any, .any, .any, .any, .any, .any, .any, .any, .any, .any, .any], [.at true (.as 1 [.bool b0_0, .big b0_1])]⟩
abbrev kp_fac3 : Option (List Nat × List Nat) := some ([0, 3, 4], [3])
noncomputable def lp_fac3 {R : Type} (N M : Nat) (s : St) (K : X → St → Option R) : Option R := loopH 0 kp_fac3 (fun st K => exec ty tab_fac an_fac N 0 (atOf [true, true, false, true, false, false] Try.f121) st K) M s K
noncomputable def bk_fac3 {R : Type} (N M : Nat) (K : X → St → Option R) : X → St → Option R := fun x st => match x with | .norm => tidyK 0 (kp_fac3.map (·.1)) st fun st => lp_fac3 N M st K | x => tidyK 0 (kp_fac3.map (·.2)) st fun st => K x st
noncomputable def kt_fac3 {R : Type} (N : Nat) (K : X → St → Option R) : X → St → Option R := kBlkR 0 (kSeqR tab_fac an_fac N 0 (atOf [true, true, true] Try.f121) (K))
def en_fac3_0 (b0_0 : Bool) (b0_1 : Nat) : St := ⟨[.any, .any, .any, .ptr 0 0, .any, .any, .any, .any, .any, .any, .any, .any, .any, .any, .any, .any, .any], [.at true (.as 1 [.bool b0_0, .big b0_1])]⟩
theorem run_fac (N : Nat) (n : Int) : run ty tab_fac an_fac N Try.f121 [.int .i64 n] []
    = lp_fac3 N N (st_fac3 n 2 false 1) (kt_fac3 N (kEnd Try.f121 0)) := by
  kernel_rfl
theorem step_fac3 {R : Type} (N M : Nat) (K : X → St → Option R) (n0 : Int) (k4 : Int) (b0_0 : Bool) (b0_1 : Nat) : lp_fac3 N (M + 1) (st_fac3 n0 k4 b0_0 b0_1) K
    = (match decide ((k4 : Int) ≤ n0) with
  | true => (match inI64 k4 with
    | true => (match lowB b0_1 && lowB ((k4 : Int).natAbs) with
      | true => lp_fac3 N M (st_fac3 n0 (IntKind.i64.wrap (k4 + 1)) ((!(b0_0 == (decide ((k4 : Int) < 0)))) && (decide (0 < b0_1 * ((k4 : Int).natAbs)))) (b0_1 * ((k4 : Int).natAbs))) K
      | false => none)
    | false => none)
  | false => K (.exit 0) (en_fac3_0 b0_0 b0_1)) := by
  kernel_rfl
theorem end_fac3_0 (N : Nat) (b0_0 : Bool) (b0_1 : Nat) : kt_fac3 N (kEnd Try.f121 0) (.exit 0) (en_fac3_0 b0_0 b0_1)
    = some (.ptr 0 0, [.at true (.as 1 [.bool b0_0, .big b0_1])]) := by
  kernel_rfl

def fctN : Nat → Nat
  | 0 => 1
  | n + 1 => fctN n * (n + 1)
def fct (n : Int) : Nat := fctN n.toNat
def facOk (n : Int) : Bool := decide (n ≤ 30)
theorem fct_low (n : Nat) (h : n ≤ 30) : lowB (fctN n) = true := by
  have h2 : (List.range 31).all (fun i => lowB (fctN i)) = true := by kernel_rfl
  exact List.all_eq_true.mp h2 n (List.mem_range.mpr (by omega))
def gFac : GT := fun vs h => match vs, h with | [.int .i64 n], [] => .ite (facOk n) (.ret (.ptr 0 0) [.at true (.as 1 [.bool false, .big (fct n)])]) .no | _, _ => .no
theorem ok_fac : FnT Try.prog 121 gFac := by
  refine fnT tabok_fac Try.func121 rfl rfl an_fac fun vs h v h' e => ?_
  unfold gFac at e
  split at e
  case h_2 => exact (T.no_inv e).elim
  rename_i n
  obtain ⟨hd, e⟩ := T.pre_inv e
  obtain ⟨rfl, rfl⟩ := T.ret_inv e
  have hn := of_decide_eq_true hd
  obtain ⟨N0, hN0⟩ : ∃ N0 : Nat, N0 = 32 := ⟨32, rfl⟩
  refine ⟨N0, Eq.trans (run_fac N0 n) ?_⟩
  refine loop_fuel (fun M (i : Nat) => lp_fac3 N0 M (st_fac3 n ((i : Int) + 2) false (fctN (i + 1))) (kt_fac3 N0 (kEnd Try.f121 0))) (fun i => i + 1 ≤ max n.toNat 1) (fun i => n.toNat - i) (fun o => o = _) (fun M i hs => ?_) (s := 0) (by omega) (by omega)
  try dsimp only at hs ⊢
  by_cases h1 : (i : Int) + 2 ≤ n
  · right
    refine ⟨i + 1, by omega, by omega, ?_⟩
    have hi : inI64 ((i : Int) + 2) = true := decide_eq_true (by omega)
    have ha : ((i : Int) + 2).natAbs = i + 1 + 1 := by omega
    have hl : lowB (fctN (i + 1)) = true := fct_low _ (by omega)
    have hl2 : lowB (i + 1 + 1) = true := low_of (by omega)
    have hs0 : decide ((i : Int) + 2 < 0) = false := decide_eq_false (by omega)
    have hw : IntKind.i64.wrap ((i : Int) + 2 + 1) = ((i + 1 : Nat) : Int) + 2 := by rw [wrap_z (by omega) (by omega)]; omega
    have hf : fctN (i + 1) * (i + 1 + 1) = fctN (i + 1 + 1) := by
      conv => rhs; unfold fctN
    have sg : ∀ x : Bool, ((!(false == false)) && x) = false := fun _ => rfl
    rw [step_fac3]
    rw [decide_eq_true h1, hi, ha, hl, hl2, hs0, hw, hf, sg, Bool.and_self]
  · left
    have e1 : fctN (i + 1) = fct n := by
      unfold fct
      rcases Nat.eq_zero_or_pos i with h | h
      · subst h
        have : n.toNat = 0 ∨ n.toNat = 1 := by omega
        rcases this with h | h <;> rw [h] <;> rfl
      · rw [show n.toNat = i + 1 by omega]
    rw [step_fac3, decide_eq_false h1]
    dsimp only
    rw [end_fac3_0, e1]
def an_prd : Ann := ⟨fun r => if r = 3 then some ([3, 7, 8, 9], [3]) else none, fun _ _ => .quiet⟩
def tab_prd : Fns := tabT [(119, gNewInt), (121, gFac), (120, gA_xexactIntMul)]
theorem tabok_prd : ∀ f, FnT Try.prog f (tab_prd f) := (tabT_cons (k := 119) ok_newInt (tabT_cons (k := 121) ok_fac (tabT_cons (k := 120) okA_xexactIntMul tabT_nil)))
def st_prd3 (t7n : Nat) (t8 : Int) (t9 : Int) (rw0 : Bool) (l0 : List Int) (b1_1 : Nat) : St := ⟨[.any, .any, .any, .ptr 1 0, .any, .any, .any, .sl 0 0 t7n, .int .i64 t8, .int .i64 t9, .any, .any, .any, .any, .any, .any, .any, .any, .any, .any], [.at rw0 (.int .i64 l0), .at true (.as 1 [.bool false, .big b1_1])]⟩
abbrev kp_prd3 : Option (List Nat × List Nat) := some ([3, 7, 8, 9], [3])
noncomputable def lp_prd3 {R : Type} (N M : Nat) (s : St) (K : X → St → Option R) : Option R := loopH 1 kp_prd3 (fun st K => exec ty tab_prd an_prd N 1 (atOf [true, true, false, true, false, false] Try.f126) st K) M s K
noncomputable def bk_prd3 {R : Type} (N M : Nat) (K : X → St → Option R) : X → St → Option R := fun x st => match x with | .norm => tidyK 1 (kp_prd3.map (·.1)) st fun st => lp_prd3 N M st K | x => tidyK 1 (kp_prd3.map (·.2)) st fun st => K x st
noncomputable def kt_prd3 {R : Type} (N : Nat) (K : X → St → Option R) : X → St → Option R := kBlkR 0 (kSeqR tab_prd an_prd N 1 (atOf [true, true, true] Try.f126) (K))
def en_prd3_0 (rw0 : Bool) (l0 : List Int) (b1_1 : Nat) : St := ⟨[.any, .any, .any, .ptr 1 0, .any, .any, .any, .any, .any, .any, .any, .any, .any, .any, .any, .any, .any, .any, .any, .any], [.at rw0 (.int .i64 l0), .at true (.as 1 [.bool false, .big b1_1])]⟩
theorem run_prd (N : Nat) (n : Nat) (r : Bool) (l : List Int) : run ty tab_prd an_prd N Try.f126 [.sl 0 0 n] [.at r (.int .i64 l)]
    = lp_prd3 N N (st_prd3 n ((n : Nat) : Int) 0 r l 1) (kt_prd3 N (kEnd Try.f126 1)) := by
  kernel_rfl
theorem step_prd3 {R : Type} (N M : Nat) (K : X → St → Option R) (t7n : Nat) (t8 : Int) (t9 : Int) (rw0 : Bool) (l0 : List Int) (b1_1 : Nat) : lp_prd3 N (M + 1) (st_prd3 t7n t8 t9 rw0 l0 b1_1) K
    = (match decide ((t9 : Int) < t8) with
  | true => (match decide (0 ≤ (t9 : Int) ∧ (t9 : Int) < ((t7n : Nat) : Int)) with
    | true => (match l0[0 + (t9).toNat * 1]? with
      | some e1 => (match facOk e1 with
        | true => (match lowB b1_1 && lowB (fct e1) with
          | true => lp_prd3 N M (st_prd3 t7n t8 (IntKind.i64.wrap (t9 + 1)) rw0 l0 (b1_1 * (fct e1))) K
          | false => none)
        | false => none)
      | none => none)
    | false => none)
  | false => K (.exit 0) (en_prd3_0 rw0 l0 b1_1)) := by
  kernel_rfl
theorem end_prd3_0 (N : Nat) (rw0 : Bool) (l0 : List Int) (b1_1 : Nat) : kt_prd3 N (kEnd Try.f126 1) (.exit 0) (en_prd3_0 rw0 l0 b1_1)
    = some (.ptr 1 0, [.at rw0 (.int .i64 l0), .at true (.as 1 [.bool false, .big b1_1])]) := by
  kernel_rfl

def prLow : Nat → List Int → Bool
  | _, [] => true
  | b, e :: l => facOk e && (lowB b && lowB (fct e)) && prLow (b * fct e) l
def prFo : Nat → List Int → Nat
  | b, [] => b
  | b, e :: l => prFo (b * fct e) l
def prOk (n : Nat) (l : List Int) : Bool := decide (n = l.length ∧ n < 1000) && prLow 1 l
def prF (l : List Int) : Nat := prFo 1 l
def gPrd : GT := fun vs h => match vs, h with | [.sl 0 0 n], [.at r (.int .i64 l)] => .ite (prOk n l) (.ret (.ptr 1 0) [.at r (.int .i64 l), .at true (.as 1 [.bool false, .big (prF l)])]) .no | _, _ => .no
theorem ok_prd : FnT Try.prog 126 gPrd := by
  refine fnT tabok_prd Try.func126 rfl rfl an_prd fun vs h v h' e => ?_
  unfold gPrd at e
  split at e
  case h_2 => exact (T.no_inv e).elim
  rename_i n rw l
  obtain ⟨hd, e⟩ := T.pre_inv e
  obtain ⟨rfl, rfl⟩ := T.ret_inv e
  unfold prOk at hd
  rw [Bool.and_eq_true] at hd
  obtain ⟨hd, hlow⟩ := hd
  obtain ⟨hn, hn2⟩ := of_decide_eq_true hd
  refine ⟨n + 1, Eq.trans (run_prd (n + 1) n rw l) ?_⟩
  refine loop_fuel (fun M (s : Nat × Nat) => lp_prd3 (n + 1) M (st_prd3 n (n : Int) (s.1 : Int) rw l s.2) (kt_prd3 (n + 1) (kEnd Try.f126 1))) (fun s => s.1 ≤ n ∧ prLow s.2 (l.drop s.1) = true ∧ prFo s.2 (l.drop s.1) = prF l) (fun s => n - s.1) (fun o => o = _) (fun M s hs => ?_) (s := (0, 1)) ⟨Nat.zero_le _, hlow, rfl⟩ (by omega)
  obtain ⟨i, b⟩ := s
  obtain ⟨hi, h1, h2⟩ := hs
  dsimp only at hi h1 h2 ⊢
  by_cases hlt : i < n
  · right
    have hx : l[i]? = some l[i] := List.getElem?_eq_getElem (by omega)
    rw [List.drop_eq_getElem_cons (show i < l.length by omega)] at h1 h2
    unfold prLow at h1
    unfold prFo at h2
    rw [Bool.and_eq_true, Bool.and_eq_true] at h1
    obtain ⟨⟨f1, f2⟩, f3⟩ := h1
    refine ⟨(i + 1, b * fct l[i]), ⟨hlt, f3, h2⟩, by omega, ?_⟩
    rw [step_prd3, dlt hlt, din hlt]
    simp only [ix, hx, f1, f2, wr (show i < 2147483648 by omega)]
  · left
    have hin : i = n := by omega
    subst hin
    rw [List.drop_of_length_le (by omega)] at h2
    rw [step_prd3, dge (Nat.le_refl _)]
    dsimp only
    rw [end_prd3_0, ← h2]
    rfl
def tab_sets : Fns := tabT [(121, gFac), (126, gPrd), (174, gA_xexactIntQuo)]
theorem tabok_sets : ∀ f, FnT Try.prog f (tab_sets f) := (tabT_cons (k := 121) ok_fac (tabT_cons (k := 126) ok_prd (tabT_cons (k := 174) okA_xexactIntQuo tabT_nil)))
theorem run_sets (N : Nat) (n : Int) (k : Int) : run ty tab_sets ann0 N Try.f148 [.int .i64 n, .int .i64 k] []
    = (match decide ((k : Int) < 0) with
  | true => some (.ptr 0 0, [.at true (.as 1 [.bool false, .big 0])])
  | false => (match decide ((n : Int) < 0) with
    | true => some (.ptr 0 0, [.at true (.as 1 [.bool false, .big 0])])
    | false => (match decide ((k : Int) > n) with
      | true => some (.ptr 0 0, [.at true (.as 1 [.bool false, .big 0])])
      | false => (match facOk n with
        | true => (match prOk 2 [k, IntKind.i64.wrap (n - k)] with
          | true => (match lowB (fct n) && lowB (prF [k, IntKind.i64.wrap (n - k)]) && decide (0 < (prF [k, IntKind.i64.wrap (n - k)])) with
            | true => some (.ptr 0 0, [.at true (.as 1 [.bool false, .big ((fct n) / (prF [k, IntKind.i64.wrap (n - k)]))])])
            | false => none)
          | false => none)
        | false => none)))) := by
  kernel_rfl

def setPr (n k : Int) : List Int := [k, IntKind.i64.wrap (n - k)]
def setNo (n k : Int) : Bool := decide (k < 0) || (decide (n < 0) || decide (k > n))
def setOk (n k : Int) : Bool := setNo n k || (facOk n && (prOk 2 (setPr n k) && (lowB (fct n) && lowB (prF (setPr n k)) && decide (0 < prF (setPr n k)))))
def chs (n k : Int) : Nat := match setNo n k with | true => 0 | false => fct n / prF (setPr n k)
def gSets : GT := fun vs h => match vs, h with | [.int .i64 n, .int .i64 k], [] => .ite (setOk n k) (.ret (.ptr 0 0) [.at true (.as 1 [.bool false, .big (chs n k)])]) .no | _, _ => .no
theorem ok_sets : FnT Try.prog 148 gSets := by
  refine fnT tabok_sets Try.func148 rfl rfl ann0 fun vs h v h' e => ⟨0, ?_⟩
  unfold gSets at e
  split at e
  case h_2 => exact (T.no_inv e).elim
  rename_i n k
  obtain ⟨hd, e⟩ := T.pre_inv e
  obtain ⟨rfl, rfl⟩ := T.ret_inv e
  refine Eq.trans (run_sets 0 n k) ?_
  unfold setOk setNo at hd
  unfold chs setNo
  cases h1 : decide (k < 0)
  · cases h2 : decide (n < 0)
    · cases h3 : decide (k > n)
      · rw [h1, h2, h3, Bool.false_or, Bool.false_or, Bool.false_or, Bool.and_eq_true, Bool.and_eq_true] at hd
        obtain ⟨d1, d2, d3⟩ := hd
        unfold setPr at d2 d3
        rw [d1, d2, d3]
        rfl
      · rfl
    · rfl
  · rfl
end Go.Proofs.Ytbhfjdlhhjeknaa.Ab
