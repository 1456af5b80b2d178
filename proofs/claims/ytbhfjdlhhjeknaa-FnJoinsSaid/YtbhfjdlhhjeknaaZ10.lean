/- What the proof names: lemmas and words, merged by a program from its parts. No condition. -/
import Derived.Test.YtbhfjdlhhjeknaaZ9
namespace Go.Proofs.Ytbhfjdlhhjeknaa.Ab
set_option linter.unusedVariables false
set_option linter.unusedSimpArgs false
open Go
def an_A_xexactIntSub_0 : Ann := ⟨fun r =>  none, fun r n => if r = 1 ∧ n = 12 then .plain else if r = 1 ∧ n = 13 then .plain else .quiet⟩
def tab_A_xexactIntSub_0 : Fns := tabT [(160, gPut), (150, gAddI)]
theorem tabok_A_xexactIntSub_0 : ∀ f, FnT Try.prog f (tab_A_xexactIntSub_0 f) := (tabT_cons (k := 160) ok_put (tabT_cons (k := 150) ok_addI tabT_nil))
theorem run_A_xexactIntSub_0 (N : Nat) (b0_0 : Bool) (b0_1 : Nat) (b1_0 : Bool) (b1_1 : Nat) : run ty tab_A_xexactIntSub_0 an_A_xexactIntSub_0 N Try.f149 [.ptr 0 0, .ptr 1 0, .ptr 0 0] [.at true (.as 1 [.bool b0_0, .big b0_1]), .at true (.as 1 [.bool b1_0, .big b1_1])]
    = (match lowB b1_1 && lowB b0_1 with | true => some (.ptr 0 0, [.at true (.as 1 [.bool (decide ((sgI b1_0 b1_1) + (sgI (!b0_0 && (decide (0 < b0_1))) b0_1) < 0)), .big (((sgI b1_0 b1_1) + (sgI (!b0_0 && (decide (0 < b0_1))) b0_1)).natAbs)]), .at true (.as 1 [.bool b1_0, .big b1_1])]) | false => none) := by
  kernel_rfl
def gA_xexactIntSub : GT := fun vs h => match vs, h with
  | [.ptr 0 0, .ptr 1 0, .ptr 0 0], [.at true (.as 1 [.bool b0_0, .big b0_1]), .at true (.as 1 [.bool b1_0, .big b1_1])] => .ite (lowB b1_1 && lowB b0_1) (.ret (.ptr 0 0) [.at true (.as 1 [.bool (decide ((sgI b1_0 b1_1) + (sgI (!b0_0 && (decide (0 < b0_1))) b0_1) < 0)), .big (((sgI b1_0 b1_1) + (sgI (!b0_0 && (decide (0 < b0_1))) b0_1)).natAbs)]), .at true (.as 1 [.bool b1_0, .big b1_1])]) (.no)
  | _, _ => .no
theorem okA_xexactIntSub : FnT Try.prog 149 gA_xexactIntSub := by
  intro vs hp v h' e
  unfold gA_xexactIntSub at e
  split at e
  · exact FnT.runs tabok_A_xexactIntSub_0 Try.func149 rfl rfl an_A_xexactIntSub_0 0 _ _ v h' (by rw [T.run_of]; exact Eq.trans (run_A_xexactIntSub_0 0 _ _ _ _) e)
  · exact (T.no_inv e).elim
def an_A_xexactIntMul_0 : Ann := ⟨fun r =>  none, fun r n => if r = 1 ∧ n = 18 then .grow else if r = 1 ∧ n = 19 then .plain else .quiet⟩
def tab_A_xexactIntMul_0 : Fns := tabT [(161, gBig2 (fun v w => v * w) (fun v w => lowB v && lowB w)), (160, gPut)]
theorem tabok_A_xexactIntMul_0 : ∀ f, FnT Try.prog f (tab_A_xexactIntMul_0 f) := (tabT_cons (k := 161) ok_mulD (tabT_cons (k := 160) ok_put tabT_nil))
theorem run_A_xexactIntMul_0 (N : Nat) (b0_0 : Bool) (b0_1 : Nat) (b1_0 : Bool) (b1_1 : Nat) : run ty tab_A_xexactIntMul_0 an_A_xexactIntMul_0 N Try.f120 [.ptr 0 0, .ptr 0 0, .ptr 1 0] [.at true (.as 1 [.bool b0_0, .big b0_1]), .at true (.as 1 [.bool b1_0, .big b1_1])]
    = (match lowB b0_1 && lowB b1_1 with | true => some (.ptr 0 0, [.at true (.as 1 [.bool ((!(b0_0 == b1_0)) && (decide (0 < b0_1 * b1_1))), .big (b0_1 * b1_1)]), .at true (.as 1 [.bool b1_0, .big b1_1])]) | false => none) := by
  kernel_rfl
def an_A_xexactIntMul_1 : Ann := ⟨fun r =>  none, fun r n => if r = 1 ∧ n = 18 then .grow else if r = 1 ∧ n = 19 then .plain else .quiet⟩
def tab_A_xexactIntMul_1 : Fns := tabT [(161, gBig2 (fun v w => v * w) (fun v w => lowB v && lowB w)), (160, gPut)]
theorem tabok_A_xexactIntMul_1 : ∀ f, FnT Try.prog f (tab_A_xexactIntMul_1 f) := (tabT_cons (k := 161) ok_mulD (tabT_cons (k := 160) ok_put tabT_nil))
theorem run_A_xexactIntMul_1 (N : Nat) (b0_0 : Bool) (b0_1 : Nat) (b1_0 : Bool) (b1_1 : Nat) : run ty tab_A_xexactIntMul_1 an_A_xexactIntMul_1 N Try.f120 [.ptr 0 0, .ptr 1 0, .ptr 1 0] [.at true (.as 1 [.bool b0_0, .big b0_1]), .at true (.as 1 [.bool b1_0, .big b1_1])]
    = (match lowB b1_1 && lowB b1_1 with | true => some (.ptr 0 0, [.at true (.as 1 [.bool ((!(b1_0 == b1_0)) && (decide (0 < b1_1 * b1_1))), .big (b1_1 * b1_1)]), .at true (.as 1 [.bool b1_0, .big b1_1])]) | false => none) := by
  kernel_rfl
def gA_xexactIntMul : GT := fun vs h => match vs, h with
  | [.ptr 0 0, .ptr 0 0, .ptr 1 0], [.at true (.as 1 [.bool b0_0, .big b0_1]), .at true (.as 1 [.bool b1_0, .big b1_1])] => .ite (lowB b0_1 && lowB b1_1) (.ret (.ptr 0 0) [.at true (.as 1 [.bool ((!(b0_0 == b1_0)) && (decide (0 < b0_1 * b1_1))), .big (b0_1 * b1_1)]), .at true (.as 1 [.bool b1_0, .big b1_1])]) (.no)
  | [.ptr 0 0, .ptr 1 0, .ptr 1 0], [.at true (.as 1 [.bool b0_0, .big b0_1]), .at true (.as 1 [.bool b1_0, .big b1_1])] => .ite (lowB b1_1 && lowB b1_1) (.ret (.ptr 0 0) [.at true (.as 1 [.bool ((!(b1_0 == b1_0)) && (decide (0 < b1_1 * b1_1))), .big (b1_1 * b1_1)]), .at true (.as 1 [.bool b1_0, .big b1_1])]) (.no)
  | _, _ => .no
theorem okA_xexactIntMul : FnT Try.prog 120 gA_xexactIntMul := by
  intro vs hp v h' e
  unfold gA_xexactIntMul at e
  split at e
  · exact FnT.runs tabok_A_xexactIntMul_0 Try.func120 rfl rfl an_A_xexactIntMul_0 0 _ _ v h' (by rw [T.run_of]; exact Eq.trans (run_A_xexactIntMul_0 0 _ _ _ _) e)
  · exact FnT.runs tabok_A_xexactIntMul_1 Try.func120 rfl rfl an_A_xexactIntMul_1 0 _ _ v h' (by rw [T.run_of]; exact Eq.trans (run_A_xexactIntMul_1 0 _ _ _ _) e)
  · exact (T.no_inv e).elim
def an_A_xexactIntQuo_0 : Ann := ⟨fun r =>  none, fun r n => if r = 1 ∧ n = 8 then .grow else if r = 2 ∧ n = 11 then .plain else .quiet⟩
def tab_A_xexactIntQuo_0 : Fns := tabT [(162, gBigQ (fun v w => lowB v && lowB w && decide (0 < w))), (160, gPut)]
theorem tabok_A_xexactIntQuo_0 : ∀ f, FnT Try.prog f (tab_A_xexactIntQuo_0 f) := (tabT_cons (k := 162) ok_dvd (tabT_cons (k := 160) ok_put tabT_nil))
theorem run_A_xexactIntQuo_0 (N : Nat) (b0_0 : Bool) (b0_1 : Nat) (b1_0 : Bool) (b1_1 : Nat) (b2_0 : Bool) (b2_1 : Nat) : run ty tab_A_xexactIntQuo_0 an_A_xexactIntQuo_0 N Try.f174 [.ptr 0 0, .ptr 1 0, .ptr 2 0] [.at true (.as 1 [.bool b0_0, .big b0_1]), .at true (.as 1 [.bool b1_0, .big b1_1]), .at true (.as 1 [.bool b2_0, .big b2_1])]
    = (match lowB b1_1 && lowB b2_1 && decide (0 < b2_1) with | true => some (.ptr 0 0, [.at true (.as 1 [.bool ((!(b1_0 == b2_0)) && (decide (0 < b1_1 / b2_1))), .big (b1_1 / b2_1)]), .at true (.as 1 [.bool b1_0, .big b1_1]), .at true (.as 1 [.bool b2_0, .big b2_1])]) | false => none) := by
  kernel_rfl
def gA_xexactIntQuo : GT := fun vs h => match vs, h with
  | [.ptr 0 0, .ptr 1 0, .ptr 2 0], [.at true (.as 1 [.bool b0_0, .big b0_1]), .at true (.as 1 [.bool b1_0, .big b1_1]), .at true (.as 1 [.bool b2_0, .big b2_1])] => .ite (lowB b1_1 && lowB b2_1 && decide (0 < b2_1)) (.ret (.ptr 0 0) [.at true (.as 1 [.bool ((!(b1_0 == b2_0)) && (decide (0 < b1_1 / b2_1))), .big (b1_1 / b2_1)]), .at true (.as 1 [.bool b1_0, .big b1_1]), .at true (.as 1 [.bool b2_0, .big b2_1])]) (.no)
  | _, _ => .no
theorem okA_xexactIntQuo : FnT Try.prog 174 gA_xexactIntQuo := by
  intro vs hp v h' e
  unfold gA_xexactIntQuo at e
  split at e
  · exact FnT.runs tabok_A_xexactIntQuo_0 Try.func174 rfl rfl an_A_xexactIntQuo_0 0 _ _ v h' (by rw [T.run_of]; exact Eq.trans (run_A_xexactIntQuo_0 0 _ _ _ _ _ _) e)
  · exact (T.no_inv e).elim
def tab_A_xexactIntSign_0 : Fns := tabT []
theorem tabok_A_xexactIntSign_0 : ∀ f, FnT Try.prog f (tab_A_xexactIntSign_0 f) := tabT_nil
theorem run_A_xexactIntSign_0 (N : Nat) (b0_0 : Bool) (b0_1 : Nat) : run ty tab_A_xexactIntSign_0 ann0 N Try.f151 [.ptr 0 0] [.at true (.as 1 [.bool b0_0, .big b0_1])]
    = (match b0_0 with | true => some (.int .i64 (-1), [.at true (.as 1 [.bool b0_0, .big b0_1])]) | false => (match decide ((((ndig b0_1 : Nat) : Int) : Int) > 0) with | true => some (.int .i64 1, [.at true (.as 1 [.bool b0_0, .big b0_1])]) | false => some (.int .i64 0, [.at true (.as 1 [.bool b0_0, .big b0_1])]))) := by
  kernel_rfl
def gA_xexactIntSign : GT := fun vs h => match vs, h with
  | [.ptr 0 0], [.at true (.as 1 [.bool b0_0, .big b0_1])] => .ite (b0_0) (.ret (.int .i64 (-1)) [.at true (.as 1 [.bool b0_0, .big b0_1])]) (.ite (decide ((((ndig b0_1 : Nat) : Int) : Int) > 0)) (.ret (.int .i64 1) [.at true (.as 1 [.bool b0_0, .big b0_1])]) (.ret (.int .i64 0) [.at true (.as 1 [.bool b0_0, .big b0_1])]))
  | _, _ => .no
theorem okA_xexactIntSign : FnT Try.prog 151 gA_xexactIntSign := by
  intro vs hp v h' e
  unfold gA_xexactIntSign at e
  split at e
  · exact FnT.runs tabok_A_xexactIntSign_0 Try.func151 rfl rfl ann0 0 _ _ v h' (by rw [T.run_of]; exact Eq.trans (run_A_xexactIntSign_0 0 _ _) e)
  · exact (T.no_inv e).elim
def an_fac : Ann := ⟨fun r => if r = 3 then some ([0, 3, 4], [3]) else none, fun _ _ => .quiet⟩
def tab_fac : Fns := tabT [(119, gNewInt), (120, gA_xexactIntMul)]
theorem tabok_fac : ∀ f, FnT Try.prog f (tab_fac f) := (tabT_cons (k := 119) ok_newInt (tabT_cons (k := 120) okA_xexactIntMul tabT_nil))
def st_fac3 (n0 : Int) (k4 : Int) (b0_0 : Bool) (b0_1 : Nat) : St := ⟨(.int .i64 n0 :: .any :: .any :: .ptr 0 0 :: .int .i64 k4 :: (anys 12 [])), [.at true (.as 1 [.bool b0_0, .big b0_1])]⟩
abbrev kp_fac3 : Option (List Nat × List Nat) := some ([0, 3, 4], [3])
noncomputable def lp_fac3 {R : Type} (N M : Nat) (s : St) (K : X → St → Option R) : Option R := loopH 0 kp_fac3 (fun st K => exec ty tab_fac an_fac N 0 (atOf [true, true, false, true, false, false] Try.f121) st K) M s K
noncomputable def kt_fac3 {R : Type} (N : Nat) (K : X → St → Option R) : X → St → Option R := kBlkR 0 (kSeqR tab_fac an_fac N 0 (atOf [true, true, true] Try.f121) (K))
def en_fac3_0 (b0_0 : Bool) (b0_1 : Nat) : St := ⟨(.any :: .any :: .any :: .ptr 0 0 :: (anys 13 [])), [.at true (.as 1 [.bool b0_0, .big b0_1])]⟩
theorem run_fac (N : Nat) (n : Int) : run ty tab_fac an_fac N Try.f121 [.int .i64 n] []
    = lp_fac3 N N (st_fac3 n 2 false 1) (kt_fac3 N (kEnd Try.f121 0)) := by
  kernel_rfl
theorem step_fac3 {R : Type} (N M : Nat) (K : X → St → Option R) (n0 : Int) (k4 : Int) (b0_0 : Bool) (b0_1 : Nat) : lp_fac3 N (M + 1) (st_fac3 n0 k4 b0_0 b0_1) K
    = (match decide ((k4 : Int) ≤ n0) with | true => (match inI64 k4 with | true => (match lowB b0_1 && lowB ((k4 : Int).natAbs) with | true => lp_fac3 N M (st_fac3 n0 (IntKind.i64.wrap (k4 + 1)) ((!(b0_0 == (decide ((k4 : Int) < 0)))) && (decide (0 < b0_1 * ((k4 : Int).natAbs)))) (b0_1 * ((k4 : Int).natAbs))) K | false => none) | false => none) | false => K (.exit 0) (en_fac3_0 b0_0 b0_1)) := by
  kernel_rfl
theorem end_fac3_0 (N : Nat) (b0_0 : Bool) (b0_1 : Nat) : kt_fac3 N (kEnd Try.f121 0) (.exit 0) (en_fac3_0 b0_0 b0_1)
    = some (.ptr 0 0, [.at true (.as 1 [.bool b0_0, .big b0_1])]) := by
  kernel_rfl
def fctN : Nat → Nat
  | 0 => 1
  | n + 1 => fctN n * (n + 1)
def fct (n : Int) : Nat := fctN n.toNat
def facOk (n : Int) : Bool := decide (n ≤ 30)
theorem fct_low (n : Nat) (h : n ≤ 30) : lowB (fctN n) = true := by
  have h2 : (List.range 31).all (fun i => lowB (fctN i)) = true := by kernel_rfl
  exact List.all_eq_true.mp h2 n (List.mem_range.mpr (by omega))
def gFac : GT := fun vs h => match vs, h with | [.int .i64 n], [] => .ite (facOk n) (.ret (.ptr 0 0) [.at true (.as 1 [.bool false, .big (fct n)])]) .no | _, _ => .no
theorem ok_fac : FnT Try.prog 121 gFac := by
  refine fnT tabok_fac Try.func121 rfl rfl an_fac fun vs h v h' e => ?_
  unfold gFac at e
  split at e
  case h_2 => exact (T.no_inv e).elim
  rename_i n
  obtain ⟨hd, e⟩ := T.pre_inv e
  obtain ⟨rfl, rfl⟩ := T.ret_inv e
  have hn := of_decide_eq_true hd
  obtain ⟨N0, hN0⟩ : ∃ N0 : Nat, N0 = 32 := ⟨32, rfl⟩
  refine ⟨N0, Eq.trans (run_fac N0 n) ?_⟩
  refine loop_fuel (fun M (i : Nat) => lp_fac3 N0 M (st_fac3 n ((i : Int) + 2) false (fctN (i + 1))) (kt_fac3 N0 (kEnd Try.f121 0))) (fun i => i + 1 ≤ max n.toNat 1) (fun i => n.toNat - i) (fun o => o = _) (fun M i hs => ?_) (s := 0) (by omega) (by omega)
  try dsimp only at hs ⊢
  by_cases h1 : (i : Int) + 2 ≤ n
  · right
    refine ⟨i + 1, by omega, by omega, ?_⟩
    have hi : inI64 ((i : Int) + 2) = true := decide_eq_true (by omega)
    have ha : ((i : Int) + 2).natAbs = i + 1 + 1 := by omega
    have hl : lowB (fctN (i + 1)) = true := fct_low _ (by omega)
    have hl2 : lowB (i + 1 + 1) = true := low_of (by omega)
    have hs0 : decide ((i : Int) + 2 < 0) = false := decide_eq_false (by omega)
    have hw : IntKind.i64.wrap ((i : Int) + 2 + 1) = ((i + 1 : Nat) : Int) + 2 := by rw [wrap_z (by omega) (by omega)]; omega
    have hf : fctN (i + 1) * (i + 1 + 1) = fctN (i + 1 + 1) := by
      conv => rhs; unfold fctN
    have sg : ∀ x : Bool, ((!(false == false)) && x) = false := fun _ => rfl
    rw [step_fac3]
    rw [decide_eq_true h1, hi, ha, hl, hl2, hs0, hw, hf, sg, Bool.and_self]
  · left
    have e1 : fctN (i + 1) = fct n := by
      unfold fct
      rcases Nat.eq_zero_or_pos i with h | h
      · subst h
        have : n.toNat = 0 ∨ n.toNat = 1 := by omega
        rcases this with h | h <;> rw [h] <;> rfl
      · rw [show n.toNat = i + 1 by omega]
    rw [step_fac3, decide_eq_false h1]
    dsimp only
    rw [end_fac3_0, e1]
def an_prd : Ann := ⟨fun r => if r = 3 then some ([3, 7, 8, 9], [3]) else none, fun _ _ => .quiet⟩
def tab_prd : Fns := tabT [(119, gNewInt), (121, gFac), (120, gA_xexactIntMul)]
theorem tabok_prd : ∀ f, FnT Try.prog f (tab_prd f) := (tabT_cons (k := 119) ok_newInt (tabT_cons (k := 121) ok_fac (tabT_cons (k := 120) okA_xexactIntMul tabT_nil)))
def st_prd3 (t7n : Nat) (t8 : Int) (t9 : Int) (rw0 : Bool) (l0 : List Int) (b1_1 : Nat) : St := ⟨(.any :: .any :: .any :: .ptr 1 0 :: .any :: .any :: .any :: .sl 0 0 t7n :: .int .i64 t8 :: .int .i64 t9 :: (anys 10 [])), [.at rw0 (.int .i64 l0), .at true (.as 1 [.bool false, .big b1_1])]⟩
abbrev kp_prd3 : Option (List Nat × List Nat) := some ([3, 7, 8, 9], [3])
noncomputable def lp_prd3 {R : Type} (N M : Nat) (s : St) (K : X → St → Option R) : Option R := loopH 1 kp_prd3 (fun st K => exec ty tab_prd an_prd N 1 (atOf [true, true, false, true, false, false] Try.f126) st K) M s K
noncomputable def kt_prd3 {R : Type} (N : Nat) (K : X → St → Option R) : X → St → Option R := kBlkR 0 (kSeqR tab_prd an_prd N 1 (atOf [true, true, true] Try.f126) (K))
def en_prd3_0 (rw0 : Bool) (l0 : List Int) (b1_1 : Nat) : St := ⟨(.any :: .any :: .any :: .ptr 1 0 :: (anys 16 [])), [.at rw0 (.int .i64 l0), .at true (.as 1 [.bool false, .big b1_1])]⟩
theorem run_prd (N : Nat) (n : Nat) (r : Bool) (l : List Int) : run ty tab_prd an_prd N Try.f126 [.sl 0 0 n] [.at r (.int .i64 l)]
    = lp_prd3 N N (st_prd3 n ((n : Nat) : Int) 0 r l 1) (kt_prd3 N (kEnd Try.f126 1)) := by
  kernel_rfl
theorem step_prd3 {R : Type} (N M : Nat) (K : X → St → Option R) (t7n : Nat) (t8 : Int) (t9 : Int) (rw0 : Bool) (l0 : List Int) (b1_1 : Nat) : lp_prd3 N (M + 1) (st_prd3 t7n t8 t9 rw0 l0 b1_1) K
    = (match decide ((t9 : Int) < t8) with | true => (match decide (0 ≤ (t9 : Int) ∧ (t9 : Int) < ((t7n : Nat) : Int)) with | true => (match l0[0 + (t9).toNat * 1]? with | some e1 => (match facOk e1 with | true => (match lowB b1_1 && lowB (fct e1) with | true => lp_prd3 N M (st_prd3 t7n t8 (IntKind.i64.wrap (t9 + 1)) rw0 l0 (b1_1 * (fct e1))) K | false => none) | false => none) | none => none) | false => none) | false => K (.exit 0) (en_prd3_0 rw0 l0 b1_1)) := by
  kernel_rfl
theorem end_prd3_0 (N : Nat) (rw0 : Bool) (l0 : List Int) (b1_1 : Nat) : kt_prd3 N (kEnd Try.f126 1) (.exit 0) (en_prd3_0 rw0 l0 b1_1)
    = some (.ptr 1 0, [.at rw0 (.int .i64 l0), .at true (.as 1 [.bool false, .big b1_1])]) := by
  kernel_rfl
def prLow : Nat → List Int → Bool
  | _, [] => true
  | b, e :: l => facOk e && (lowB b && lowB (fct e)) && prLow (b * fct e) l
def prFo : Nat → List Int → Nat
  | b, [] => b
  | b, e :: l => prFo (b * fct e) l
def prOk (n : Nat) (l : List Int) : Bool := decide (n = l.length ∧ n < 1000) && prLow 1 l
def prF (l : List Int) : Nat := prFo 1 l
def gPrd : GT := fun vs h => match vs, h with | [.sl 0 0 n], [.at r (.int .i64 l)] => .ite (prOk n l) (.ret (.ptr 1 0) [.at r (.int .i64 l), .at true (.as 1 [.bool false, .big (prF l)])]) .no | _, _ => .no
theorem ok_prd : FnT Try.prog 126 gPrd := by
  refine fnT tabok_prd Try.func126 rfl rfl an_prd fun vs h v h' e => ?_
  unfold gPrd at e
  split at e
  case h_2 => exact (T.no_inv e).elim
  rename_i n rw l
  obtain ⟨hd, e⟩ := T.pre_inv e
  obtain ⟨rfl, rfl⟩ := T.ret_inv e
  unfold prOk at hd
  rw [Bool.and_eq_true] at hd
  obtain ⟨hd, hlow⟩ := hd
  obtain ⟨hn, hn2⟩ := of_decide_eq_true hd
  refine ⟨n + 1, Eq.trans (run_prd (n + 1) n rw l) ?_⟩
  refine loop_fuel (fun M (s : Nat × Nat) => lp_prd3 (n + 1) M (st_prd3 n (n : Int) (s.1 : Int) rw l s.2) (kt_prd3 (n + 1) (kEnd Try.f126 1))) (fun s => s.1 ≤ n ∧ prLow s.2 (l.drop s.1) = true ∧ prFo s.2 (l.drop s.1) = prF l) (fun s => n - s.1) (fun o => o = _) (fun M s hs => ?_) (s := (0, 1)) ⟨Nat.zero_le _, hlow, rfl⟩ (by omega)
  obtain ⟨i, b⟩ := s
  obtain ⟨hi, h1, h2⟩ := hs
  dsimp only at hi h1 h2 ⊢
  by_cases hlt : i < n
  · right
    have hx : l[i]? = some l[i] := List.getElem?_eq_getElem (by omega)
    rw [List.drop_eq_getElem_cons (show i < l.length by omega)] at h1 h2
    unfold prLow at h1
    unfold prFo at h2
    rw [Bool.and_eq_true, Bool.and_eq_true] at h1
    obtain ⟨⟨f1, f2⟩, f3⟩ := h1
    refine ⟨(i + 1, b * fct l[i]), ⟨hlt, f3, h2⟩, by omega, ?_⟩
    rw [step_prd3, dlt hlt, din hlt]
    simp only [ix, hx, f1, f2, wr (show i < 2147483648 by omega)]
  · left
    have hin : i = n := by omega
    subst hin
    rw [List.drop_of_length_le (by omega)] at h2
    rw [step_prd3, dge (Nat.le_refl _)]
    dsimp only
    rw [end_prd3_0, ← h2]
    rfl
def tab_sets : Fns := tabT [(121, gFac), (126, gPrd), (174, gA_xexactIntQuo)]
theorem tabok_sets : ∀ f, FnT Try.prog f (tab_sets f) := (tabT_cons (k := 121) ok_fac (tabT_cons (k := 126) ok_prd (tabT_cons (k := 174) okA_xexactIntQuo tabT_nil)))
theorem run_sets (N : Nat) (n : Int) (k : Int) : run ty tab_sets ann0 N Try.f148 [.int .i64 n, .int .i64 k] []
    = (match decide ((k : Int) < 0) with | true => some (.ptr 0 0, [.at true (.as 1 [.bool false, .big 0])]) | false => (match decide ((n : Int) < 0) with | true => some (.ptr 0 0, [.at true (.as 1 [.bool false, .big 0])]) | false => (match decide ((k : Int) > n) with | true => some (.ptr 0 0, [.at true (.as 1 [.bool false, .big 0])]) | false => (match facOk n with | true => (match prOk 2 [k, IntKind.i64.wrap (n - k)] with | true => (match lowB (fct n) && lowB (prF [k, IntKind.i64.wrap (n - k)]) && decide (0 < (prF [k, IntKind.i64.wrap (n - k)])) with | true => some (.ptr 0 0, [.at true (.as 1 [.bool false, .big ((fct n) / (prF [k, IntKind.i64.wrap (n - k)]))])]) | false => none) | false => none) | false => none)))) := by
  kernel_rfl
def setPr (n k : Int) : List Int := [k, IntKind.i64.wrap (n - k)]
def setNo (n k : Int) : Bool := decide (k < 0) || (decide (n < 0) || decide (k > n))
def setOk (n k : Int) : Bool := setNo n k || (facOk n && (prOk 2 (setPr n k) && (lowB (fct n) && lowB (prF (setPr n k)) && decide (0 < prF (setPr n k)))))
def chs (n k : Int) : Nat := match setNo n k with | true => 0 | false => fct n / prF (setPr n k)
def gSets : GT := fun vs h => match vs, h with | [.int .i64 n, .int .i64 k], [] => .ite (setOk n k) (.ret (.ptr 0 0) [.at true (.as 1 [.bool false, .big (chs n k)])]) .no | _, _ => .no
theorem ok_sets : FnT Try.prog 148 gSets := by
  refine fnT tabok_sets Try.func148 rfl rfl ann0 fun vs h v h' e => ⟨0, ?_⟩
  unfold gSets at e
  split at e
  case h_2 => exact (T.no_inv e).elim
  rename_i n k
  obtain ⟨hd, e⟩ := T.pre_inv e
  obtain ⟨rfl, rfl⟩ := T.ret_inv e
  refine Eq.trans (run_sets 0 n k) ?_
  unfold setOk setNo at hd
  unfold chs setNo
  cases h1 : decide (k < 0)
  · cases h2 : decide (n < 0)
    · cases h3 : decide (k > n)
      · rw [h1, h2, h3, Bool.false_or, Bool.false_or, Bool.false_or, Bool.and_eq_true, Bool.and_eq_true] at hd
        obtain ⟨d1, d2, d3⟩ := hd
        unfold setPr at d2 d3
        rw [d1, d2, d3]
        rfl
      · rfl
    · rfl
  · rfl
end Go.Proofs.Ytbhfjdlhhjeknaa.Ab

namespace Go.Proofs.Ytbhfjdlhhjeknaa.Ab
set_option linter.unusedVariables false
set_option linter.unusedSimpArgs false
open Go
def an_js : Ann := ⟨fun r => if r = 4 then some ([0, 1, 2, 3, 4, 14, 15, 16], [0, 1, 2, 3, 4, 14, 15]) else none, fun _ _ => .quiet⟩
def tab_js : Fns := tabT [(148, gSets), (120, gA_xexactIntMul), (150, gAddI), (119, gNewInt), (126, gPrd), (122, gSetFrac), (127, gFrac), (151, gA_xexactIntSign), (149, gA_xexactIntSub)]
theorem tabok_js : ∀ f, FnT Try.prog f (tab_js f) := (tabT_cons (k := 148) ok_sets (tabT_cons (k := 120) okA_xexactIntMul (tabT_cons (k := 150) ok_addI (tabT_cons (k := 119) ok_newInt (tabT_cons (k := 126) ok_prd (tabT_cons (k := 122) ok_SetFrac (tabT_cons (k := 127) ok_fractionOf (tabT_cons (k := 151) okA_xexactIntSign (tabT_cons (k := 149) okA_xexactIntSub tabT_nil)))))))))
def st_js4 (t0 : Int) (t1 : Int) (t2 : Int) (t3 : Int) (t4 : Int) (t14 : Int) (t16 : Int) (b0_0 : Bool) (b0_1 : Nat) : St := ⟨(.int .i64 t0 :: .int .i64 t1 :: .int .i64 t2 :: .int .i64 t3 :: .int .i64 t4 :: (anys 9 (.int .i64 t14 :: .ptr 0 0 :: .int .i64 t16 :: (anys 151 [])))), [.at true (.as 1 [.bool b0_0, .big b0_1])]⟩
abbrev kp_js4 : Option (List Nat × List Nat) := some ([0, 1, 2, 3, 4, 14, 15, 16], [0, 1, 2, 3, 4, 14, 15])
noncomputable def lp_js4 {R : Type} (N M : Nat) (s : St) (K : X → St → Option R) : Option R := loopH 0 kp_js4 (fun st K => exec ty tab_js an_js N 0 (atOf [true, true, true, false, true, false, false] Try.f95) st K) M s K
noncomputable def kt_js4 {R : Type} (N : Nat) (K : X → St → Option R) : X → St → Option R := kBlkR 0 (kSeqR tab_js an_js N 0 (atOf [true, true, true, true] Try.f95) (K))
def en_js4_0 (t0 : Int) (t1 : Int) (t2 : Int) (t3 : Int) (t4 : Int) (t14 : Int) (b0_0 : Bool) (b0_1 : Nat) : St := ⟨(.int .i64 t0 :: .int .i64 t1 :: .int .i64 t2 :: .int .i64 t3 :: .int .i64 t4 :: (anys 9 (.int .i64 t14 :: .ptr 0 0 :: (anys 152 [])))), [.at true (.as 1 [.bool b0_0, .big b0_1])]⟩
theorem run_js (N : Nat) (a : Int) (x : Int) (b : Int) (y : Int) (c : Int) : run ty tab_js an_js N Try.f95 [.int .i64 a, .int .i64 x, .int .i64 b, .int .i64 y, .int .i64 c] []
    = lp_js4 N N (st_js4 a x b y c (IntKind.i64.wrap (x + y)) 0 false 0) (kt_js4 N (kEnd Try.f95 0)) := by
  kernel_rfl
theorem step_js4 {R : Type} (N M : Nat) (K : X → St → Option R) (t0 : Int) (t1 : Int) (t2 : Int) (t3 : Int) (t4 : Int) (t14 : Int) (t16 : Int) (b0_0 : Bool) (b0_1 : Nat) : lp_js4 N (M + 1) (st_js4 t0 t1 t2 t3 t4 t14 t16 b0_0 b0_1) K
    = (match decide ((t16 : Int) ≤ (IntKind.i64.wrap (Int.tdiv (IntKind.i64.wrap ((IntKind.i64.wrap (t0 + t2)) - t4)) 2))) with | true => (match setOk (IntKind.i64.wrap (Int.tdiv (IntKind.i64.wrap ((IntKind.i64.wrap (t0 + t2)) - t4)) 2)) t16 with | true => (match setOk (IntKind.i64.wrap (Int.tdiv (IntKind.i64.wrap ((IntKind.i64.wrap (t4 + t0)) - t2)) 2)) (IntKind.i64.wrap ((IntKind.i64.wrap (Int.tdiv (IntKind.i64.wrap (t0 - t1)) 2)) - t16)) with | true => (match lowB (chs (IntKind.i64.wrap (Int.tdiv (IntKind.i64.wrap ((IntKind.i64.wrap (t0 + t2)) - t4)) 2)) t16) && lowB (chs (IntKind.i64.wrap (Int.tdiv (IntKind.i64.wrap ((IntKind.i64.wrap (t4 + t0)) - t2)) 2)) (IntKind.i64.wrap ((IntKind.i64.wrap (Int.tdiv (IntKind.i64.wrap (t0 - t1)) 2)) - t16))) with | true => (match setOk (IntKind.i64.wrap (Int.tdiv (IntKind.i64.wrap ((IntKind.i64.wrap (t4 + t2)) - t0)) 2)) (IntKind.i64.wrap ((IntKind.i64.wrap (Int.tdiv (IntKind.i64.wrap (t2 + t3)) 2)) - t16)) with | true => (match lowB ((chs (IntKind.i64.wrap (Int.tdiv (IntKind.i64.wrap ((IntKind.i64.wrap (t0 + t2)) - t4)) 2)) t16) * (chs (IntKind.i64.wrap (Int.tdiv (IntKind.i64.wrap ((IntKind.i64.wrap (t4 + t0)) - t2)) 2)) (IntKind.i64.wrap ((IntKind.i64.wrap (Int.tdiv (IntKind.i64.wrap (t0 - t1)) 2)) - t16)))) && lowB (chs (IntKind.i64.wrap (Int.tdiv (IntKind.i64.wrap ((IntKind.i64.wrap (t4 + t2)) - t0)) 2)) (IntKind.i64.wrap ((IntKind.i64.wrap (Int.tdiv (IntKind.i64.wrap (t2 + t3)) 2)) - t16))) with | true => (match (Int.tmod t16 2) == 1 with | true => (match lowB 0 && lowB (((chs (IntKind.i64.wrap (Int.tdiv (IntKind.i64.wrap ((IntKind.i64.wrap (t0 + t2)) - t4)) 2)) t16) * (chs (IntKind.i64.wrap (Int.tdiv (IntKind.i64.wrap ((IntKind.i64.wrap (t4 + t0)) - t2)) 2)) (IntKind.i64.wrap ((IntKind.i64.wrap (Int.tdiv (IntKind.i64.wrap (t0 - t1)) 2)) - t16)))) * (chs (IntKind.i64.wrap (Int.tdiv (IntKind.i64.wrap ((IntKind.i64.wrap (t4 + t2)) - t0)) 2)) (IntKind.i64.wrap ((IntKind.i64.wrap (Int.tdiv (IntKind.i64.wrap (t2 + t3)) 2)) - t16)))) with | true => (match lowB b0_1 && lowB ((0 + (sgI (decide (0 < ((chs (IntKind.i64.wrap (Int.tdiv (IntKind.i64.wrap ((IntKind.i64.wrap (t0 + t2)) - t4)) 2)) t16) * (chs (IntKind.i64.wrap (Int.tdiv (IntKind.i64.wrap ((IntKind.i64.wrap (t4 + t0)) - t2)) 2)) (IntKind.i64.wrap ((IntKind.i64.wrap (Int.tdiv (IntKind.i64.wrap (t0 - t1)) 2)) - t16)))) * (chs (IntKind.i64.wrap (Int.tdiv (IntKind.i64.wrap ((IntKind.i64.wrap (t4 + t2)) - t0)) 2)) (IntKind.i64.wrap ((IntKind.i64.wrap (Int.tdiv (IntKind.i64.wrap (t2 + t3)) 2)) - t16))))) (((chs (IntKind.i64.wrap (Int.tdiv (IntKind.i64.wrap ((IntKind.i64.wrap (t0 + t2)) - t4)) 2)) t16) * (chs (IntKind.i64.wrap (Int.tdiv (IntKind.i64.wrap ((IntKind.i64.wrap (t4 + t0)) - t2)) 2)) (IntKind.i64.wrap ((IntKind.i64.wrap (Int.tdiv (IntKind.i64.wrap (t0 - t1)) 2)) - t16)))) * (chs (IntKind.i64.wrap (Int.tdiv (IntKind.i64.wrap ((IntKind.i64.wrap (t4 + t2)) - t0)) 2)) (IntKind.i64.wrap ((IntKind.i64.wrap (Int.tdiv (IntKind.i64.wrap (t2 + t3)) 2)) - t16)))))).natAbs) with | true => lp_js4 N M (st_js4 t0 t1 t2 t3 t4 t14 (IntKind.i64.wrap (t16 + 1)) (decide ((sgI b0_0 b0_1) + (sgI (decide (0 + (sgI (decide (0 < ((chs (IntKind.i64.wrap (Int.tdiv (IntKind.i64.wrap ((IntKind.i64.wrap (t0 + t2)) - t4)) 2)) t16) * (chs (IntKind.i64.wrap (Int.tdiv (IntKind.i64.wrap ((IntKind.i64.wrap (t4 + t0)) - t2)) 2)) (IntKind.i64.wrap ((IntKind.i64.wrap (Int.tdiv (IntKind.i64.wrap (t0 - t1)) 2)) - t16)))) * (chs (IntKind.i64.wrap (Int.tdiv (IntKind.i64.wrap ((IntKind.i64.wrap (t4 + t2)) - t0)) 2)) (IntKind.i64.wrap ((IntKind.i64.wrap (Int.tdiv (IntKind.i64.wrap (t2 + t3)) 2)) - t16))))) (((chs (IntKind.i64.wrap (Int.tdiv (IntKind.i64.wrap ((IntKind.i64.wrap (t0 + t2)) - t4)) 2)) t16) * (chs (IntKind.i64.wrap (Int.tdiv (IntKind.i64.wrap ((IntKind.i64.wrap (t4 + t0)) - t2)) 2)) (IntKind.i64.wrap ((IntKind.i64.wrap (Int.tdiv (IntKind.i64.wrap (t0 - t1)) 2)) - t16)))) * (chs (IntKind.i64.wrap (Int.tdiv (IntKind.i64.wrap ((IntKind.i64.wrap (t4 + t2)) - t0)) 2)) (IntKind.i64.wrap ((IntKind.i64.wrap (Int.tdiv (IntKind.i64.wrap (t2 + t3)) 2)) - t16))))) < 0)) ((0 + (sgI (decide (0 < ((chs (IntKind.i64.wrap (Int.tdiv (IntKind.i64.wrap ((IntKind.i64.wrap (t0 + t2)) - t4)) 2)) t16) * (chs (IntKind.i64.wrap (Int.tdiv (IntKind.i64.wrap ((IntKind.i64.wrap (t4 + t0)) - t2)) 2)) (IntKind.i64.wrap ((IntKind.i64.wrap (Int.tdiv (IntKind.i64.wrap (t0 - t1)) 2)) - t16)))) * (chs (IntKind.i64.wrap (Int.tdiv (IntKind.i64.wrap ((IntKind.i64.wrap (t4 + t2)) - t0)) 2)) (IntKind.i64.wrap ((IntKind.i64.wrap (Int.tdiv (IntKind.i64.wrap (t2 + t3)) 2)) - t16))))) (((chs (IntKind.i64.wrap (Int.tdiv (IntKind.i64.wrap ((IntKind.i64.wrap (t0 + t2)) - t4)) 2)) t16) * (chs (IntKind.i64.wrap (Int.tdiv (IntKind.i64.wrap ((IntKind.i64.wrap (t4 + t0)) - t2)) 2)) (IntKind.i64.wrap ((IntKind.i64.wrap (Int.tdiv (IntKind.i64.wrap (t0 - t1)) 2)) - t16)))) * (chs (IntKind.i64.wrap (Int.tdiv (IntKind.i64.wrap ((IntKind.i64.wrap (t4 + t2)) - t0)) 2)) (IntKind.i64.wrap ((IntKind.i64.wrap (Int.tdiv (IntKind.i64.wrap (t2 + t3)) 2)) - t16)))))).natAbs)) < 0)) (((sgI b0_0 b0_1) + (sgI (decide (0 + (sgI (decide (0 < ((chs (IntKind.i64.wrap (Int.tdiv (IntKind.i64.wrap ((IntKind.i64.wrap (t0 + t2)) - t4)) 2)) t16) * (chs (IntKind.i64.wrap (Int.tdiv (IntKind.i64.wrap ((IntKind.i64.wrap (t4 + t0)) - t2)) 2)) (IntKind.i64.wrap ((IntKind.i64.wrap (Int.tdiv (IntKind.i64.wrap (t0 - t1)) 2)) - t16)))) * (chs (IntKind.i64.wrap (Int.tdiv (IntKind.i64.wrap ((IntKind.i64.wrap (t4 + t2)) - t0)) 2)) (IntKind.i64.wrap ((IntKind.i64.wrap (Int.tdiv (IntKind.i64.wrap (t2 + t3)) 2)) - t16))))) (((chs (IntKind.i64.wrap (Int.tdiv (IntKind.i64.wrap ((IntKind.i64.wrap (t0 + t2)) - t4)) 2)) t16) * (chs (IntKind.i64.wrap (Int.tdiv (IntKind.i64.wrap ((IntKind.i64.wrap (t4 + t0)) - t2)) 2)) (IntKind.i64.wrap ((IntKind.i64.wrap (Int.tdiv (IntKind.i64.wrap (t0 - t1)) 2)) - t16)))) * (chs (IntKind.i64.wrap (Int.tdiv (IntKind.i64.wrap ((IntKind.i64.wrap (t4 + t2)) - t0)) 2)) (IntKind.i64.wrap ((IntKind.i64.wrap (Int.tdiv (IntKind.i64.wrap (t2 + t3)) 2)) - t16))))) < 0)) ((0 + (sgI (decide (0 < ((chs (IntKind.i64.wrap (Int.tdiv (IntKind.i64.wrap ((IntKind.i64.wrap (t0 + t2)) - t4)) 2)) t16) * (chs (IntKind.i64.wrap (Int.tdiv (IntKind.i64.wrap ((IntKind.i64.wrap (t4 + t0)) - t2)) 2)) (IntKind.i64.wrap ((IntKind.i64.wrap (Int.tdiv (IntKind.i64.wrap (t0 - t1)) 2)) - t16)))) * (chs (IntKind.i64.wrap (Int.tdiv (IntKind.i64.wrap ((IntKind.i64.wrap (t4 + t2)) - t0)) 2)) (IntKind.i64.wrap ((IntKind.i64.wrap (Int.tdiv (IntKind.i64.wrap (t2 + t3)) 2)) - t16))))) (((chs (IntKind.i64.wrap (Int.tdiv (IntKind.i64.wrap ((IntKind.i64.wrap (t0 + t2)) - t4)) 2)) t16) * (chs (IntKind.i64.wrap (Int.tdiv (IntKind.i64.wrap ((IntKind.i64.wrap (t4 + t0)) - t2)) 2)) (IntKind.i64.wrap ((IntKind.i64.wrap (Int.tdiv (IntKind.i64.wrap (t0 - t1)) 2)) - t16)))) * (chs (IntKind.i64.wrap (Int.tdiv (IntKind.i64.wrap ((IntKind.i64.wrap (t4 + t2)) - t0)) 2)) (IntKind.i64.wrap ((IntKind.i64.wrap (Int.tdiv (IntKind.i64.wrap (t2 + t3)) 2)) - t16)))))).natAbs))).natAbs)) K | false => none) | false => none) | false => (match lowB b0_1 && lowB (((chs (IntKind.i64.wrap (Int.tdiv (IntKind.i64.wrap ((IntKind.i64.wrap (t0 + t2)) - t4)) 2)) t16) * (chs (IntKind.i64.wrap (Int.tdiv (IntKind.i64.wrap ((IntKind.i64.wrap (t4 + t0)) - t2)) 2)) (IntKind.i64.wrap ((IntKind.i64.wrap (Int.tdiv (IntKind.i64.wrap (t0 - t1)) 2)) - t16)))) * (chs (IntKind.i64.wrap (Int.tdiv (IntKind.i64.wrap ((IntKind.i64.wrap (t4 + t2)) - t0)) 2)) (IntKind.i64.wrap ((IntKind.i64.wrap (Int.tdiv (IntKind.i64.wrap (t2 + t3)) 2)) - t16)))) with | true => lp_js4 N M (st_js4 t0 t1 t2 t3 t4 t14 (IntKind.i64.wrap (t16 + 1)) (decide ((sgI b0_0 b0_1) + (((chs (IntKind.i64.wrap (Int.tdiv (IntKind.i64.wrap ((IntKind.i64.wrap (t0 + t2)) - t4)) 2)) t16) * (chs (IntKind.i64.wrap (Int.tdiv (IntKind.i64.wrap ((IntKind.i64.wrap (t4 + t0)) - t2)) 2)) (IntKind.i64.wrap ((IntKind.i64.wrap (Int.tdiv (IntKind.i64.wrap (t0 - t1)) 2)) - t16)))) * (chs (IntKind.i64.wrap (Int.tdiv (IntKind.i64.wrap ((IntKind.i64.wrap (t4 + t2)) - t0)) 2)) (IntKind.i64.wrap ((IntKind.i64.wrap (Int.tdiv (IntKind.i64.wrap (t2 + t3)) 2)) - t16))) : Int) < 0)) (((sgI b0_0 b0_1) + (((chs (IntKind.i64.wrap (Int.tdiv (IntKind.i64.wrap ((IntKind.i64.wrap (t0 + t2)) - t4)) 2)) t16) * (chs (IntKind.i64.wrap (Int.tdiv (IntKind.i64.wrap ((IntKind.i64.wrap (t4 + t0)) - t2)) 2)) (IntKind.i64.wrap ((IntKind.i64.wrap (Int.tdiv (IntKind.i64.wrap (t0 - t1)) 2)) - t16)))) * (chs (IntKind.i64.wrap (Int.tdiv (IntKind.i64.wrap ((IntKind.i64.wrap (t4 + t2)) - t0)) 2)) (IntKind.i64.wrap ((IntKind.i64.wrap (Int.tdiv (IntKind.i64.wrap (t2 + t3)) 2)) - t16))) : Int)).natAbs)) K | false => none)) | false => none) | false => none) | false => none) | false => none) | false => none) | false => K (.exit 0) (en_js4_0 t0 t1 t2 t3 t4 t14 b0_0 b0_1)) := by
  kernel_rfl
theorem end_js4_0 (N : Nat) (t0 : Int) (t1 : Int) (t2 : Int) (t3 : Int) (t4 : Int) (t14 : Int) (b0_0 : Bool) (b0_1 : Nat) : kt_js4 N (kEnd Try.f95 0) (.exit 0) (en_js4_0 t0 t1 t2 t3 t4 t14 b0_0 b0_1)
    = (match lowB b0_1 && lowB b0_1 with | true => (match inI64 (IntKind.i64.wrap (t4 + 1)) with | true => (match lowB (b0_1 * b0_1) && lowB ((IntKind.i64.wrap (t4 + 1) : Int).natAbs) with | true => (match prOk 6 [IntKind.i64.wrap (Int.tdiv (IntKind.i64.wrap (t0 + t1)) 2), IntKind.i64.wrap (Int.tdiv (IntKind.i64.wrap (t0 - t1)) 2), IntKind.i64.wrap (Int.tdiv (IntKind.i64.wrap (t2 + t3)) 2), IntKind.i64.wrap (Int.tdiv (IntKind.i64.wrap (t2 - t3)) 2), IntKind.i64.wrap (Int.tdiv (IntKind.i64.wrap (t4 + t14)) 2), IntKind.i64.wrap (Int.tdiv (IntKind.i64.wrap (t4 - t14)) 2)] with | true => (match lowB ((b0_1 * b0_1) * ((IntKind.i64.wrap (t4 + 1) : Int).natAbs)) && lowB (prF [IntKind.i64.wrap (Int.tdiv (IntKind.i64.wrap (t0 + t1)) 2), IntKind.i64.wrap (Int.tdiv (IntKind.i64.wrap (t0 - t1)) 2), IntKind.i64.wrap (Int.tdiv (IntKind.i64.wrap (t2 + t3)) 2), IntKind.i64.wrap (Int.tdiv (IntKind.i64.wrap (t2 - t3)) 2), IntKind.i64.wrap (Int.tdiv (IntKind.i64.wrap (t4 + t14)) 2), IntKind.i64.wrap (Int.tdiv (IntKind.i64.wrap (t4 - t14)) 2)]) with | true => (match prOk 4 [IntKind.i64.wrap ((IntKind.i64.wrap (Int.tdiv (IntKind.i64.wrap ((IntKind.i64.wrap (t0 + t2)) + t4)) 2)) + 1), IntKind.i64.wrap (Int.tdiv (IntKind.i64.wrap ((IntKind.i64.wrap (t0 + t2)) - t4)) 2), IntKind.i64.wrap (Int.tdiv (IntKind.i64.wrap ((IntKind.i64.wrap (t4 + t0)) - t2)) 2), IntKind.i64.wrap (Int.tdiv (IntKind.i64.wrap ((IntKind.i64.wrap (t4 + t2)) - t0)) 2)] with | true => (match lowB (((b0_1 * b0_1) * ((IntKind.i64.wrap (t4 + 1) : Int).natAbs)) * (prF [IntKind.i64.wrap (Int.tdiv (IntKind.i64.wrap (t0 + t1)) 2), IntKind.i64.wrap (Int.tdiv (IntKind.i64.wrap (t0 - t1)) 2), IntKind.i64.wrap (Int.tdiv (IntKind.i64.wrap (t2 + t3)) 2), IntKind.i64.wrap (Int.tdiv (IntKind.i64.wrap (t2 - t3)) 2), IntKind.i64.wrap (Int.tdiv (IntKind.i64.wrap (t4 + t14)) 2), IntKind.i64.wrap (Int.tdiv (IntKind.i64.wrap (t4 - t14)) 2)])) && lowB (prF [IntKind.i64.wrap ((IntKind.i64.wrap (Int.tdiv (IntKind.i64.wrap ((IntKind.i64.wrap (t0 + t2)) + t4)) 2)) + 1), IntKind.i64.wrap (Int.tdiv (IntKind.i64.wrap ((IntKind.i64.wrap (t0 + t2)) - t4)) 2), IntKind.i64.wrap (Int.tdiv (IntKind.i64.wrap ((IntKind.i64.wrap (t4 + t0)) - t2)) 2), IntKind.i64.wrap (Int.tdiv (IntKind.i64.wrap ((IntKind.i64.wrap (t4 + t2)) - t0)) 2)]) && decide (0 < (prF [IntKind.i64.wrap ((IntKind.i64.wrap (Int.tdiv (IntKind.i64.wrap ((IntKind.i64.wrap (t0 + t2)) + t4)) 2)) + 1), IntKind.i64.wrap (Int.tdiv (IntKind.i64.wrap ((IntKind.i64.wrap (t0 + t2)) - t4)) 2), IntKind.i64.wrap (Int.tdiv (IntKind.i64.wrap ((IntKind.i64.wrap (t4 + t0)) - t2)) 2), IntKind.i64.wrap (Int.tdiv (IntKind.i64.wrap ((IntKind.i64.wrap (t4 + t2)) - t0)) 2)])) with | true => (match low63 ((((b0_1 * b0_1) * ((IntKind.i64.wrap (t4 + 1) : Int).natAbs)) * (prF [IntKind.i64.wrap (Int.tdiv (IntKind.i64.wrap (t0 + t1)) 2), IntKind.i64.wrap (Int.tdiv (IntKind.i64.wrap (t0 - t1)) 2), IntKind.i64.wrap (Int.tdiv (IntKind.i64.wrap (t2 + t3)) 2), IntKind.i64.wrap (Int.tdiv (IntKind.i64.wrap (t2 - t3)) 2), IntKind.i64.wrap (Int.tdiv (IntKind.i64.wrap (t4 + t14)) 2), IntKind.i64.wrap (Int.tdiv (IntKind.i64.wrap (t4 - t14)) 2)])) / (Nat.gcd (((b0_1 * b0_1) * ((IntKind.i64.wrap (t4 + 1) : Int).natAbs)) * (prF [IntKind.i64.wrap (Int.tdiv (IntKind.i64.wrap (t0 + t1)) 2), IntKind.i64.wrap (Int.tdiv (IntKind.i64.wrap (t0 - t1)) 2), IntKind.i64.wrap (Int.tdiv (IntKind.i64.wrap (t2 + t3)) 2), IntKind.i64.wrap (Int.tdiv (IntKind.i64.wrap (t2 - t3)) 2), IntKind.i64.wrap (Int.tdiv (IntKind.i64.wrap (t4 + t14)) 2), IntKind.i64.wrap (Int.tdiv (IntKind.i64.wrap (t4 - t14)) 2)])) (prF [IntKind.i64.wrap ((IntKind.i64.wrap (Int.tdiv (IntKind.i64.wrap ((IntKind.i64.wrap (t0 + t2)) + t4)) 2)) + 1), IntKind.i64.wrap (Int.tdiv (IntKind.i64.wrap ((IntKind.i64.wrap (t0 + t2)) - t4)) 2), IntKind.i64.wrap (Int.tdiv (IntKind.i64.wrap ((IntKind.i64.wrap (t4 + t0)) - t2)) 2), IntKind.i64.wrap (Int.tdiv (IntKind.i64.wrap ((IntKind.i64.wrap (t4 + t2)) - t0)) 2)]))) && low63 (dn ((prF [IntKind.i64.wrap ((IntKind.i64.wrap (Int.tdiv (IntKind.i64.wrap ((IntKind.i64.wrap (t0 + t2)) + t4)) 2)) + 1), IntKind.i64.wrap (Int.tdiv (IntKind.i64.wrap ((IntKind.i64.wrap (t0 + t2)) - t4)) 2), IntKind.i64.wrap (Int.tdiv (IntKind.i64.wrap ((IntKind.i64.wrap (t4 + t0)) - t2)) 2), IntKind.i64.wrap (Int.tdiv (IntKind.i64.wrap ((IntKind.i64.wrap (t4 + t2)) - t0)) 2)]) / (Nat.gcd (((b0_1 * b0_1) * ((IntKind.i64.wrap (t4 + 1) : Int).natAbs)) * (prF [IntKind.i64.wrap (Int.tdiv (IntKind.i64.wrap (t0 + t1)) 2), IntKind.i64.wrap (Int.tdiv (IntKind.i64.wrap (t0 - t1)) 2), IntKind.i64.wrap (Int.tdiv (IntKind.i64.wrap (t2 + t3)) 2), IntKind.i64.wrap (Int.tdiv (IntKind.i64.wrap (t2 - t3)) 2), IntKind.i64.wrap (Int.tdiv (IntKind.i64.wrap (t4 + t14)) 2), IntKind.i64.wrap (Int.tdiv (IntKind.i64.wrap (t4 - t14)) 2)])) (prF [IntKind.i64.wrap ((IntKind.i64.wrap (Int.tdiv (IntKind.i64.wrap ((IntKind.i64.wrap (t0 + t2)) + t4)) 2)) + 1), IntKind.i64.wrap (Int.tdiv (IntKind.i64.wrap ((IntKind.i64.wrap (t0 + t2)) - t4)) 2), IntKind.i64.wrap (Int.tdiv (IntKind.i64.wrap ((IntKind.i64.wrap (t4 + t0)) - t2)) 2), IntKind.i64.wrap (Int.tdiv (IntKind.i64.wrap ((IntKind.i64.wrap (t4 + t2)) - t0)) 2)])))) with | true => (match b0_0 with | true => some (.tup [.a (.int .i64 (-1)), .a (.int .i64 (sgI ((((!(((!(((!(b0_0 == b0_0)) && (decide (0 < b0_1 * b0_1))) == (decide ((IntKind.i64.wrap (t4 + 1) : Int) < 0)))) && (decide (0 < (b0_1 * b0_1) * ((IntKind.i64.wrap (t4 + 1) : Int).natAbs)))) == false)) && (decide (0 < ((b0_1 * b0_1) * ((IntKind.i64.wrap (t4 + 1) : Int).natAbs)) * (prF [IntKind.i64.wrap (Int.tdiv (IntKind.i64.wrap (t0 + t1)) 2), IntKind.i64.wrap (Int.tdiv (IntKind.i64.wrap (t0 - t1)) 2), IntKind.i64.wrap (Int.tdiv (IntKind.i64.wrap (t2 + t3)) 2), IntKind.i64.wrap (Int.tdiv (IntKind.i64.wrap (t2 - t3)) 2), IntKind.i64.wrap (Int.tdiv (IntKind.i64.wrap (t4 + t14)) 2), IntKind.i64.wrap (Int.tdiv (IntKind.i64.wrap (t4 - t14)) 2)])))) != false) && (decide (0 < (((b0_1 * b0_1) * ((IntKind.i64.wrap (t4 + 1) : Int).natAbs)) * (prF [IntKind.i64.wrap (Int.tdiv (IntKind.i64.wrap (t0 + t1)) 2), IntKind.i64.wrap (Int.tdiv (IntKind.i64.wrap (t0 - t1)) 2), IntKind.i64.wrap (Int.tdiv (IntKind.i64.wrap (t2 + t3)) 2), IntKind.i64.wrap (Int.tdiv (IntKind.i64.wrap (t2 - t3)) 2), IntKind.i64.wrap (Int.tdiv (IntKind.i64.wrap (t4 + t14)) 2), IntKind.i64.wrap (Int.tdiv (IntKind.i64.wrap (t4 - t14)) 2)])) / (Nat.gcd (((b0_1 * b0_1) * ((IntKind.i64.wrap (t4 + 1) : Int).natAbs)) * (prF [IntKind.i64.wrap (Int.tdiv (IntKind.i64.wrap (t0 + t1)) 2), IntKind.i64.wrap (Int.tdiv (IntKind.i64.wrap (t0 - t1)) 2), IntKind.i64.wrap (Int.tdiv (IntKind.i64.wrap (t2 + t3)) 2), IntKind.i64.wrap (Int.tdiv (IntKind.i64.wrap (t2 - t3)) 2), IntKind.i64.wrap (Int.tdiv (IntKind.i64.wrap (t4 + t14)) 2), IntKind.i64.wrap (Int.tdiv (IntKind.i64.wrap (t4 - t14)) 2)])) (prF [IntKind.i64.wrap ((IntKind.i64.wrap (Int.tdiv (IntKind.i64.wrap ((IntKind.i64.wrap (t0 + t2)) + t4)) 2)) + 1), IntKind.i64.wrap (Int.tdiv (IntKind.i64.wrap ((IntKind.i64.wrap (t0 + t2)) - t4)) 2), IntKind.i64.wrap (Int.tdiv (IntKind.i64.wrap ((IntKind.i64.wrap (t4 + t0)) - t2)) 2), IntKind.i64.wrap (Int.tdiv (IntKind.i64.wrap ((IntKind.i64.wrap (t4 + t2)) - t0)) 2)]))))) ((((b0_1 * b0_1) * ((IntKind.i64.wrap (t4 + 1) : Int).natAbs)) * (prF [IntKind.i64.wrap (Int.tdiv (IntKind.i64.wrap (t0 + t1)) 2), IntKind.i64.wrap (Int.tdiv (IntKind.i64.wrap (t0 - t1)) 2), IntKind.i64.wrap (Int.tdiv (IntKind.i64.wrap (t2 + t3)) 2), IntKind.i64.wrap (Int.tdiv (IntKind.i64.wrap (t2 - t3)) 2), IntKind.i64.wrap (Int.tdiv (IntKind.i64.wrap (t4 + t14)) 2), IntKind.i64.wrap (Int.tdiv (IntKind.i64.wrap (t4 - t14)) 2)])) / (Nat.gcd (((b0_1 * b0_1) * ((IntKind.i64.wrap (t4 + 1) : Int).natAbs)) * (prF [IntKind.i64.wrap (Int.tdiv (IntKind.i64.wrap (t0 + t1)) 2), IntKind.i64.wrap (Int.tdiv (IntKind.i64.wrap (t0 - t1)) 2), IntKind.i64.wrap (Int.tdiv (IntKind.i64.wrap (t2 + t3)) 2), IntKind.i64.wrap (Int.tdiv (IntKind.i64.wrap (t2 - t3)) 2), IntKind.i64.wrap (Int.tdiv (IntKind.i64.wrap (t4 + t14)) 2), IntKind.i64.wrap (Int.tdiv (IntKind.i64.wrap (t4 - t14)) 2)])) (prF [IntKind.i64.wrap ((IntKind.i64.wrap (Int.tdiv (IntKind.i64.wrap ((IntKind.i64.wrap (t0 + t2)) + t4)) 2)) + 1), IntKind.i64.wrap (Int.tdiv (IntKind.i64.wrap ((IntKind.i64.wrap (t0 + t2)) - t4)) 2), IntKind.i64.wrap (Int.tdiv (IntKind.i64.wrap ((IntKind.i64.wrap (t4 + t0)) - t2)) 2), IntKind.i64.wrap (Int.tdiv (IntKind.i64.wrap ((IntKind.i64.wrap (t4 + t2)) - t0)) 2)]))))), .a (.int .i64 (dn ((prF [IntKind.i64.wrap ((IntKind.i64.wrap (Int.tdiv (IntKind.i64.wrap ((IntKind.i64.wrap (t0 + t2)) + t4)) 2)) + 1), IntKind.i64.wrap (Int.tdiv (IntKind.i64.wrap ((IntKind.i64.wrap (t0 + t2)) - t4)) 2), IntKind.i64.wrap (Int.tdiv (IntKind.i64.wrap ((IntKind.i64.wrap (t4 + t0)) - t2)) 2), IntKind.i64.wrap (Int.tdiv (IntKind.i64.wrap ((IntKind.i64.wrap (t4 + t2)) - t0)) 2)]) / (Nat.gcd (((b0_1 * b0_1) * ((IntKind.i64.wrap (t4 + 1) : Int).natAbs)) * (prF [IntKind.i64.wrap (Int.tdiv (IntKind.i64.wrap (t0 + t1)) 2), IntKind.i64.wrap (Int.tdiv (IntKind.i64.wrap (t0 - t1)) 2), IntKind.i64.wrap (Int.tdiv (IntKind.i64.wrap (t2 + t3)) 2), IntKind.i64.wrap (Int.tdiv (IntKind.i64.wrap (t2 - t3)) 2), IntKind.i64.wrap (Int.tdiv (IntKind.i64.wrap (t4 + t14)) 2), IntKind.i64.wrap (Int.tdiv (IntKind.i64.wrap (t4 - t14)) 2)])) (prF [IntKind.i64.wrap ((IntKind.i64.wrap (Int.tdiv (IntKind.i64.wrap ((IntKind.i64.wrap (t0 + t2)) + t4)) 2)) + 1), IntKind.i64.wrap (Int.tdiv (IntKind.i64.wrap ((IntKind.i64.wrap (t0 + t2)) - t4)) 2), IntKind.i64.wrap (Int.tdiv (IntKind.i64.wrap ((IntKind.i64.wrap (t4 + t0)) - t2)) 2), IntKind.i64.wrap (Int.tdiv (IntKind.i64.wrap ((IntKind.i64.wrap (t4 + t2)) - t0)) 2)]))) : Int)), .a (.bool true)], []) | false => (match decide ((((ndig b0_1 : Nat) : Int) : Int) > 0) with | true => some (.tup [.a (.int .i64 1), .a (.int .i64 (sgI ((((!(((!(((!(b0_0 == b0_0)) && (decide (0 < b0_1 * b0_1))) == (decide ((IntKind.i64.wrap (t4 + 1) : Int) < 0)))) && (decide (0 < (b0_1 * b0_1) * ((IntKind.i64.wrap (t4 + 1) : Int).natAbs)))) == false)) && (decide (0 < ((b0_1 * b0_1) * ((IntKind.i64.wrap (t4 + 1) : Int).natAbs)) * (prF [IntKind.i64.wrap (Int.tdiv (IntKind.i64.wrap (t0 + t1)) 2), IntKind.i64.wrap (Int.tdiv (IntKind.i64.wrap (t0 - t1)) 2), IntKind.i64.wrap (Int.tdiv (IntKind.i64.wrap (t2 + t3)) 2), IntKind.i64.wrap (Int.tdiv (IntKind.i64.wrap (t2 - t3)) 2), IntKind.i64.wrap (Int.tdiv (IntKind.i64.wrap (t4 + t14)) 2), IntKind.i64.wrap (Int.tdiv (IntKind.i64.wrap (t4 - t14)) 2)])))) != false) && (decide (0 < (((b0_1 * b0_1) * ((IntKind.i64.wrap (t4 + 1) : Int).natAbs)) * (prF [IntKind.i64.wrap (Int.tdiv (IntKind.i64.wrap (t0 + t1)) 2), IntKind.i64.wrap (Int.tdiv (IntKind.i64.wrap (t0 - t1)) 2), IntKind.i64.wrap (Int.tdiv (IntKind.i64.wrap (t2 + t3)) 2), IntKind.i64.wrap (Int.tdiv (IntKind.i64.wrap (t2 - t3)) 2), IntKind.i64.wrap (Int.tdiv (IntKind.i64.wrap (t4 + t14)) 2), IntKind.i64.wrap (Int.tdiv (IntKind.i64.wrap (t4 - t14)) 2)])) / (Nat.gcd (((b0_1 * b0_1) * ((IntKind.i64.wrap (t4 + 1) : Int).natAbs)) * (prF [IntKind.i64.wrap (Int.tdiv (IntKind.i64.wrap (t0 + t1)) 2), IntKind.i64.wrap (Int.tdiv (IntKind.i64.wrap (t0 - t1)) 2), IntKind.i64.wrap (Int.tdiv (IntKind.i64.wrap (t2 + t3)) 2), IntKind.i64.wrap (Int.tdiv (IntKind.i64.wrap (t2 - t3)) 2), IntKind.i64.wrap (Int.tdiv (IntKind.i64.wrap (t4 + t14)) 2), IntKind.i64.wrap (Int.tdiv (IntKind.i64.wrap (t4 - t14)) 2)])) (prF [IntKind.i64.wrap ((IntKind.i64.wrap (Int.tdiv (IntKind.i64.wrap ((IntKind.i64.wrap (t0 + t2)) + t4)) 2)) + 1), IntKind.i64.wrap (Int.tdiv (IntKind.i64.wrap ((IntKind.i64.wrap (t0 + t2)) - t4)) 2), IntKind.i64.wrap (Int.tdiv (IntKind.i64.wrap ((IntKind.i64.wrap (t4 + t0)) - t2)) 2), IntKind.i64.wrap (Int.tdiv (IntKind.i64.wrap ((IntKind.i64.wrap (t4 + t2)) - t0)) 2)]))))) ((((b0_1 * b0_1) * ((IntKind.i64.wrap (t4 + 1) : Int).natAbs)) * (prF [IntKind.i64.wrap (Int.tdiv (IntKind.i64.wrap (t0 + t1)) 2), IntKind.i64.wrap (Int.tdiv (IntKind.i64.wrap (t0 - t1)) 2), IntKind.i64.wrap (Int.tdiv (IntKind.i64.wrap (t2 + t3)) 2), IntKind.i64.wrap (Int.tdiv (IntKind.i64.wrap (t2 - t3)) 2), IntKind.i64.wrap (Int.tdiv (IntKind.i64.wrap (t4 + t14)) 2), IntKind.i64.wrap (Int.tdiv (IntKind.i64.wrap (t4 - t14)) 2)])) / (Nat.gcd (((b0_1 * b0_1) * ((IntKind.i64.wrap (t4 + 1) : Int).natAbs)) * (prF [IntKind.i64.wrap (Int.tdiv (IntKind.i64.wrap (t0 + t1)) 2), IntKind.i64.wrap (Int.tdiv (IntKind.i64.wrap (t0 - t1)) 2), IntKind.i64.wrap (Int.tdiv (IntKind.i64.wrap (t2 + t3)) 2), IntKind.i64.wrap (Int.tdiv (IntKind.i64.wrap (t2 - t3)) 2), IntKind.i64.wrap (Int.tdiv (IntKind.i64.wrap (t4 + t14)) 2), IntKind.i64.wrap (Int.tdiv (IntKind.i64.wrap (t4 - t14)) 2)])) (prF [IntKind.i64.wrap ((IntKind.i64.wrap (Int.tdiv (IntKind.i64.wrap ((IntKind.i64.wrap (t0 + t2)) + t4)) 2)) + 1), IntKind.i64.wrap (Int.tdiv (IntKind.i64.wrap ((IntKind.i64.wrap (t0 + t2)) - t4)) 2), IntKind.i64.wrap (Int.tdiv (IntKind.i64.wrap ((IntKind.i64.wrap (t4 + t0)) - t2)) 2), IntKind.i64.wrap (Int.tdiv (IntKind.i64.wrap ((IntKind.i64.wrap (t4 + t2)) - t0)) 2)]))))), .a (.int .i64 (dn ((prF [IntKind.i64.wrap ((IntKind.i64.wrap (Int.tdiv (IntKind.i64.wrap ((IntKind.i64.wrap (t0 + t2)) + t4)) 2)) + 1), IntKind.i64.wrap (Int.tdiv (IntKind.i64.wrap ((IntKind.i64.wrap (t0 + t2)) - t4)) 2), IntKind.i64.wrap (Int.tdiv (IntKind.i64.wrap ((IntKind.i64.wrap (t4 + t0)) - t2)) 2), IntKind.i64.wrap (Int.tdiv (IntKind.i64.wrap ((IntKind.i64.wrap (t4 + t2)) - t0)) 2)]) / (Nat.gcd (((b0_1 * b0_1) * ((IntKind.i64.wrap (t4 + 1) : Int).natAbs)) * (prF [IntKind.i64.wrap (Int.tdiv (IntKind.i64.wrap (t0 + t1)) 2), IntKind.i64.wrap (Int.tdiv (IntKind.i64.wrap (t0 - t1)) 2), IntKind.i64.wrap (Int.tdiv (IntKind.i64.wrap (t2 + t3)) 2), IntKind.i64.wrap (Int.tdiv (IntKind.i64.wrap (t2 - t3)) 2), IntKind.i64.wrap (Int.tdiv (IntKind.i64.wrap (t4 + t14)) 2), IntKind.i64.wrap (Int.tdiv (IntKind.i64.wrap (t4 - t14)) 2)])) (prF [IntKind.i64.wrap ((IntKind.i64.wrap (Int.tdiv (IntKind.i64.wrap ((IntKind.i64.wrap (t0 + t2)) + t4)) 2)) + 1), IntKind.i64.wrap (Int.tdiv (IntKind.i64.wrap ((IntKind.i64.wrap (t0 + t2)) - t4)) 2), IntKind.i64.wrap (Int.tdiv (IntKind.i64.wrap ((IntKind.i64.wrap (t4 + t0)) - t2)) 2), IntKind.i64.wrap (Int.tdiv (IntKind.i64.wrap ((IntKind.i64.wrap (t4 + t2)) - t0)) 2)]))) : Int)), .a (.bool true)], []) | false => some (.tup [.a (.int .i64 0), .a (.int .i64 (sgI ((((!(((!(((!(b0_0 == b0_0)) && (decide (0 < b0_1 * b0_1))) == (decide ((IntKind.i64.wrap (t4 + 1) : Int) < 0)))) && (decide (0 < (b0_1 * b0_1) * ((IntKind.i64.wrap (t4 + 1) : Int).natAbs)))) == false)) && (decide (0 < ((b0_1 * b0_1) * ((IntKind.i64.wrap (t4 + 1) : Int).natAbs)) * (prF [IntKind.i64.wrap (Int.tdiv (IntKind.i64.wrap (t0 + t1)) 2), IntKind.i64.wrap (Int.tdiv (IntKind.i64.wrap (t0 - t1)) 2), IntKind.i64.wrap (Int.tdiv (IntKind.i64.wrap (t2 + t3)) 2), IntKind.i64.wrap (Int.tdiv (IntKind.i64.wrap (t2 - t3)) 2), IntKind.i64.wrap (Int.tdiv (IntKind.i64.wrap (t4 + t14)) 2), IntKind.i64.wrap (Int.tdiv (IntKind.i64.wrap (t4 - t14)) 2)])))) != false) && (decide (0 < (((b0_1 * b0_1) * ((IntKind.i64.wrap (t4 + 1) : Int).natAbs)) * (prF [IntKind.i64.wrap (Int.tdiv (IntKind.i64.wrap (t0 + t1)) 2), IntKind.i64.wrap (Int.tdiv (IntKind.i64.wrap (t0 - t1)) 2), IntKind.i64.wrap (Int.tdiv (IntKind.i64.wrap (t2 + t3)) 2), IntKind.i64.wrap (Int.tdiv (IntKind.i64.wrap (t2 - t3)) 2), IntKind.i64.wrap (Int.tdiv (IntKind.i64.wrap (t4 + t14)) 2), IntKind.i64.wrap (Int.tdiv (IntKind.i64.wrap (t4 - t14)) 2)])) / (Nat.gcd (((b0_1 * b0_1) * ((IntKind.i64.wrap (t4 + 1) : Int).natAbs)) * (prF [IntKind.i64.wrap (Int.tdiv (IntKind.i64.wrap (t0 + t1)) 2), IntKind.i64.wrap (Int.tdiv (IntKind.i64.wrap (t0 - t1)) 2), IntKind.i64.wrap (Int.tdiv (IntKind.i64.wrap (t2 + t3)) 2), IntKind.i64.wrap (Int.tdiv (IntKind.i64.wrap (t2 - t3)) 2), IntKind.i64.wrap (Int.tdiv (IntKind.i64.wrap (t4 + t14)) 2), IntKind.i64.wrap (Int.tdiv (IntKind.i64.wrap (t4 - t14)) 2)])) (prF [IntKind.i64.wrap ((IntKind.i64.wrap (Int.tdiv (IntKind.i64.wrap ((IntKind.i64.wrap (t0 + t2)) + t4)) 2)) + 1), IntKind.i64.wrap (Int.tdiv (IntKind.i64.wrap ((IntKind.i64.wrap (t0 + t2)) - t4)) 2), IntKind.i64.wrap (Int.tdiv (IntKind.i64.wrap ((IntKind.i64.wrap (t4 + t0)) - t2)) 2), IntKind.i64.wrap (Int.tdiv (IntKind.i64.wrap ((IntKind.i64.wrap (t4 + t2)) - t0)) 2)]))))) ((((b0_1 * b0_1) * ((IntKind.i64.wrap (t4 + 1) : Int).natAbs)) * (prF [IntKind.i64.wrap (Int.tdiv (IntKind.i64.wrap (t0 + t1)) 2), IntKind.i64.wrap (Int.tdiv (IntKind.i64.wrap (t0 - t1)) 2), IntKind.i64.wrap (Int.tdiv (IntKind.i64.wrap (t2 + t3)) 2), IntKind.i64.wrap (Int.tdiv (IntKind.i64.wrap (t2 - t3)) 2), IntKind.i64.wrap (Int.tdiv (IntKind.i64.wrap (t4 + t14)) 2), IntKind.i64.wrap (Int.tdiv (IntKind.i64.wrap (t4 - t14)) 2)])) / (Nat.gcd (((b0_1 * b0_1) * ((IntKind.i64.wrap (t4 + 1) : Int).natAbs)) * (prF [IntKind.i64.wrap (Int.tdiv (IntKind.i64.wrap (t0 + t1)) 2), IntKind.i64.wrap (Int.tdiv (IntKind.i64.wrap (t0 - t1)) 2), IntKind.i64.wrap (Int.tdiv (IntKind.i64.wrap (t2 + t3)) 2), IntKind.i64.wrap (Int.tdiv (IntKind.i64.wrap (t2 - t3)) 2), IntKind.i64.wrap (Int.tdiv (IntKind.i64.wrap (t4 + t14)) 2), IntKind.i64.wrap (Int.tdiv (IntKind.i64.wrap (t4 - t14)) 2)])) (prF [IntKind.i64.wrap ((IntKind.i64.wrap (Int.tdiv (IntKind.i64.wrap ((IntKind.i64.wrap (t0 + t2)) + t4)) 2)) + 1), IntKind.i64.wrap (Int.tdiv (IntKind.i64.wrap ((IntKind.i64.wrap (t0 + t2)) - t4)) 2), IntKind.i64.wrap (Int.tdiv (IntKind.i64.wrap ((IntKind.i64.wrap (t4 + t0)) - t2)) 2), IntKind.i64.wrap (Int.tdiv (IntKind.i64.wrap ((IntKind.i64.wrap (t4 + t2)) - t0)) 2)]))))), .a (.int .i64 (dn ((prF [IntKind.i64.wrap ((IntKind.i64.wrap (Int.tdiv (IntKind.i64.wrap ((IntKind.i64.wrap (t0 + t2)) + t4)) 2)) + 1), IntKind.i64.wrap (Int.tdiv (IntKind.i64.wrap ((IntKind.i64.wrap (t0 + t2)) - t4)) 2), IntKind.i64.wrap (Int.tdiv (IntKind.i64.wrap ((IntKind.i64.wrap (t4 + t0)) - t2)) 2), IntKind.i64.wrap (Int.tdiv (IntKind.i64.wrap ((IntKind.i64.wrap (t4 + t2)) - t0)) 2)]) / (Nat.gcd (((b0_1 * b0_1) * ((IntKind.i64.wrap (t4 + 1) : Int).natAbs)) * (prF [IntKind.i64.wrap (Int.tdiv (IntKind.i64.wrap (t0 + t1)) 2), IntKind.i64.wrap (Int.tdiv (IntKind.i64.wrap (t0 - t1)) 2), IntKind.i64.wrap (Int.tdiv (IntKind.i64.wrap (t2 + t3)) 2), IntKind.i64.wrap (Int.tdiv (IntKind.i64.wrap (t2 - t3)) 2), IntKind.i64.wrap (Int.tdiv (IntKind.i64.wrap (t4 + t14)) 2), IntKind.i64.wrap (Int.tdiv (IntKind.i64.wrap (t4 - t14)) 2)])) (prF [IntKind.i64.wrap ((IntKind.i64.wrap (Int.tdiv (IntKind.i64.wrap ((IntKind.i64.wrap (t0 + t2)) + t4)) 2)) + 1), IntKind.i64.wrap (Int.tdiv (IntKind.i64.wrap ((IntKind.i64.wrap (t0 + t2)) - t4)) 2), IntKind.i64.wrap (Int.tdiv (IntKind.i64.wrap ((IntKind.i64.wrap (t4 + t0)) - t2)) 2), IntKind.i64.wrap (Int.tdiv (IntKind.i64.wrap ((IntKind.i64.wrap (t4 + t2)) - t0)) 2)]))) : Int)), .a (.bool true)], []))) | false => none) | false => none) | false => none) | false => none) | false => none) | false => none) | false => none) | false => none) := by
  kernel_rfl
noncomputable def ce_js4_0 (N : Nat) (t0 : Int) (t1 : Int) (t2 : Int) (t3 : Int) (t4 : Int) (t14 : Int) (b0_0 : Bool) (b0_1 : Nat) : Option (V × H) := (match lowB b0_1 && lowB b0_1 with | true => (match inI64 (IntKind.i64.wrap (t4 + 1)) with | true => (match lowB (b0_1 * b0_1) && lowB ((IntKind.i64.wrap (t4 + 1) : Int).natAbs) with | true => (match prOk 6 [IntKind.i64.wrap (Int.tdiv (IntKind.i64.wrap (t0 + t1)) 2), IntKind.i64.wrap (Int.tdiv (IntKind.i64.wrap (t0 - t1)) 2), IntKind.i64.wrap (Int.tdiv (IntKind.i64.wrap (t2 + t3)) 2), IntKind.i64.wrap (Int.tdiv (IntKind.i64.wrap (t2 - t3)) 2), IntKind.i64.wrap (Int.tdiv (IntKind.i64.wrap (t4 + t14)) 2), IntKind.i64.wrap (Int.tdiv (IntKind.i64.wrap (t4 - t14)) 2)] with | true => (match lowB ((b0_1 * b0_1) * ((IntKind.i64.wrap (t4 + 1) : Int).natAbs)) && lowB (prF [IntKind.i64.wrap (Int.tdiv (IntKind.i64.wrap (t0 + t1)) 2), IntKind.i64.wrap (Int.tdiv (IntKind.i64.wrap (t0 - t1)) 2), IntKind.i64.wrap (Int.tdiv (IntKind.i64.wrap (t2 + t3)) 2), IntKind.i64.wrap (Int.tdiv (IntKind.i64.wrap (t2 - t3)) 2), IntKind.i64.wrap (Int.tdiv (IntKind.i64.wrap (t4 + t14)) 2), IntKind.i64.wrap (Int.tdiv (IntKind.i64.wrap (t4 - t14)) 2)]) with | true => (match prOk 4 [IntKind.i64.wrap ((IntKind.i64.wrap (Int.tdiv (IntKind.i64.wrap ((IntKind.i64.wrap (t0 + t2)) + t4)) 2)) + 1), IntKind.i64.wrap (Int.tdiv (IntKind.i64.wrap ((IntKind.i64.wrap (t0 + t2)) - t4)) 2), IntKind.i64.wrap (Int.tdiv (IntKind.i64.wrap ((IntKind.i64.wrap (t4 + t0)) - t2)) 2), IntKind.i64.wrap (Int.tdiv (IntKind.i64.wrap ((IntKind.i64.wrap (t4 + t2)) - t0)) 2)] with | true => (match lowB (((b0_1 * b0_1) * ((IntKind.i64.wrap (t4 + 1) : Int).natAbs)) * (prF [IntKind.i64.wrap (Int.tdiv (IntKind.i64.wrap (t0 + t1)) 2), IntKind.i64.wrap (Int.tdiv (IntKind.i64.wrap (t0 - t1)) 2), IntKind.i64.wrap (Int.tdiv (IntKind.i64.wrap (t2 + t3)) 2), IntKind.i64.wrap (Int.tdiv (IntKind.i64.wrap (t2 - t3)) 2), IntKind.i64.wrap (Int.tdiv (IntKind.i64.wrap (t4 + t14)) 2), IntKind.i64.wrap (Int.tdiv (IntKind.i64.wrap (t4 - t14)) 2)])) && lowB (prF [IntKind.i64.wrap ((IntKind.i64.wrap (Int.tdiv (IntKind.i64.wrap ((IntKind.i64.wrap (t0 + t2)) + t4)) 2)) + 1), IntKind.i64.wrap (Int.tdiv (IntKind.i64.wrap ((IntKind.i64.wrap (t0 + t2)) - t4)) 2), IntKind.i64.wrap (Int.tdiv (IntKind.i64.wrap ((IntKind.i64.wrap (t4 + t0)) - t2)) 2), IntKind.i64.wrap (Int.tdiv (IntKind.i64.wrap ((IntKind.i64.wrap (t4 + t2)) - t0)) 2)]) && decide (0 < (prF [IntKind.i64.wrap ((IntKind.i64.wrap (Int.tdiv (IntKind.i64.wrap ((IntKind.i64.wrap (t0 + t2)) + t4)) 2)) + 1), IntKind.i64.wrap (Int.tdiv (IntKind.i64.wrap ((IntKind.i64.wrap (t0 + t2)) - t4)) 2), IntKind.i64.wrap (Int.tdiv (IntKind.i64.wrap ((IntKind.i64.wrap (t4 + t0)) - t2)) 2), IntKind.i64.wrap (Int.tdiv (IntKind.i64.wrap ((IntKind.i64.wrap (t4 + t2)) - t0)) 2)])) with | true => (match low63 ((((b0_1 * b0_1) * ((IntKind.i64.wrap (t4 + 1) : Int).natAbs)) * (prF [IntKind.i64.wrap (Int.tdiv (IntKind.i64.wrap (t0 + t1)) 2), IntKind.i64.wrap (Int.tdiv (IntKind.i64.wrap (t0 - t1)) 2), IntKind.i64.wrap (Int.tdiv (IntKind.i64.wrap (t2 + t3)) 2), IntKind.i64.wrap (Int.tdiv (IntKind.i64.wrap (t2 - t3)) 2), IntKind.i64.wrap (Int.tdiv (IntKind.i64.wrap (t4 + t14)) 2), IntKind.i64.wrap (Int.tdiv (IntKind.i64.wrap (t4 - t14)) 2)])) / (Nat.gcd (((b0_1 * b0_1) * ((IntKind.i64.wrap (t4 + 1) : Int).natAbs)) * (prF [IntKind.i64.wrap (Int.tdiv (IntKind.i64.wrap (t0 + t1)) 2), IntKind.i64.wrap (Int.tdiv (IntKind.i64.wrap (t0 - t1)) 2), IntKind.i64.wrap (Int.tdiv (IntKind.i64.wrap (t2 + t3)) 2), IntKind.i64.wrap (Int.tdiv (IntKind.i64.wrap (t2 - t3)) 2), IntKind.i64.wrap (Int.tdiv (IntKind.i64.wrap (t4 + t14)) 2), IntKind.i64.wrap (Int.tdiv (IntKind.i64.wrap (t4 - t14)) 2)])) (prF [IntKind.i64.wrap ((IntKind.i64.wrap (Int.tdiv (IntKind.i64.wrap ((IntKind.i64.wrap (t0 + t2)) + t4)) 2)) + 1), IntKind.i64.wrap (Int.tdiv (IntKind.i64.wrap ((IntKind.i64.wrap (t0 + t2)) - t4)) 2), IntKind.i64.wrap (Int.tdiv (IntKind.i64.wrap ((IntKind.i64.wrap (t4 + t0)) - t2)) 2), IntKind.i64.wrap (Int.tdiv (IntKind.i64.wrap ((IntKind.i64.wrap (t4 + t2)) - t0)) 2)]))) && low63 (dn ((prF [IntKind.i64.wrap ((IntKind.i64.wrap (Int.tdiv (IntKind.i64.wrap ((IntKind.i64.wrap (t0 + t2)) + t4)) 2)) + 1), IntKind.i64.wrap (Int.tdiv (IntKind.i64.wrap ((IntKind.i64.wrap (t0 + t2)) - t4)) 2), IntKind.i64.wrap (Int.tdiv (IntKind.i64.wrap ((IntKind.i64.wrap (t4 + t0)) - t2)) 2), IntKind.i64.wrap (Int.tdiv (IntKind.i64.wrap ((IntKind.i64.wrap (t4 + t2)) - t0)) 2)]) / (Nat.gcd (((b0_1 * b0_1) * ((IntKind.i64.wrap (t4 + 1) : Int).natAbs)) * (prF [IntKind.i64.wrap (Int.tdiv (IntKind.i64.wrap (t0 + t1)) 2), IntKind.i64.wrap (Int.tdiv (IntKind.i64.wrap (t0 - t1)) 2), IntKind.i64.wrap (Int.tdiv (IntKind.i64.wrap (t2 + t3)) 2), IntKind.i64.wrap (Int.tdiv (IntKind.i64.wrap (t2 - t3)) 2), IntKind.i64.wrap (Int.tdiv (IntKind.i64.wrap (t4 + t14)) 2), IntKind.i64.wrap (Int.tdiv (IntKind.i64.wrap (t4 - t14)) 2)])) (prF [IntKind.i64.wrap ((IntKind.i64.wrap (Int.tdiv (IntKind.i64.wrap ((IntKind.i64.wrap (t0 + t2)) + t4)) 2)) + 1), IntKind.i64.wrap (Int.tdiv (IntKind.i64.wrap ((IntKind.i64.wrap (t0 + t2)) - t4)) 2), IntKind.i64.wrap (Int.tdiv (IntKind.i64.wrap ((IntKind.i64.wrap (t4 + t0)) - t2)) 2), IntKind.i64.wrap (Int.tdiv (IntKind.i64.wrap ((IntKind.i64.wrap (t4 + t2)) - t0)) 2)])))) with | true => (match b0_0 with | true => some (.tup [.a (.int .i64 (-1)), .a (.int .i64 (sgI ((((!(((!(((!(b0_0 == b0_0)) && (decide (0 < b0_1 * b0_1))) == (decide ((IntKind.i64.wrap (t4 + 1) : Int) < 0)))) && (decide (0 < (b0_1 * b0_1) * ((IntKind.i64.wrap (t4 + 1) : Int).natAbs)))) == false)) && (decide (0 < ((b0_1 * b0_1) * ((IntKind.i64.wrap (t4 + 1) : Int).natAbs)) * (prF [IntKind.i64.wrap (Int.tdiv (IntKind.i64.wrap (t0 + t1)) 2), IntKind.i64.wrap (Int.tdiv (IntKind.i64.wrap (t0 - t1)) 2), IntKind.i64.wrap (Int.tdiv (IntKind.i64.wrap (t2 + t3)) 2), IntKind.i64.wrap (Int.tdiv (IntKind.i64.wrap (t2 - t3)) 2), IntKind.i64.wrap (Int.tdiv (IntKind.i64.wrap (t4 + t14)) 2), IntKind.i64.wrap (Int.tdiv (IntKind.i64.wrap (t4 - t14)) 2)])))) != false) && (decide (0 < (((b0_1 * b0_1) * ((IntKind.i64.wrap (t4 + 1) : Int).natAbs)) * (prF [IntKind.i64.wrap (Int.tdiv (IntKind.i64.wrap (t0 + t1)) 2), IntKind.i64.wrap (Int.tdiv (IntKind.i64.wrap (t0 - t1)) 2), IntKind.i64.wrap (Int.tdiv (IntKind.i64.wrap (t2 + t3)) 2), IntKind.i64.wrap (Int.tdiv (IntKind.i64.wrap (t2 - t3)) 2), IntKind.i64.wrap (Int.tdiv (IntKind.i64.wrap (t4 + t14)) 2), IntKind.i64.wrap (Int.tdiv (IntKind.i64.wrap (t4 - t14)) 2)])) / (Nat.gcd (((b0_1 * b0_1) * ((IntKind.i64.wrap (t4 + 1) : Int).natAbs)) * (prF [IntKind.i64.wrap (Int.tdiv (IntKind.i64.wrap (t0 + t1)) 2), IntKind.i64.wrap (Int.tdiv (IntKind.i64.wrap (t0 - t1)) 2), IntKind.i64.wrap (Int.tdiv (IntKind.i64.wrap (t2 + t3)) 2), IntKind.i64.wrap (Int.tdiv (IntKind.i64.wrap (t2 - t3)) 2), IntKind.i64.wrap (Int.tdiv (IntKind.i64.wrap (t4 + t14)) 2), IntKind.i64.wrap (Int.tdiv (IntKind.i64.wrap (t4 - t14)) 2)])) (prF [IntKind.i64.wrap ((IntKind.i64.wrap (Int.tdiv (IntKind.i64.wrap ((IntKind.i64.wrap (t0 + t2)) + t4)) 2)) + 1), IntKind.i64.wrap (Int.tdiv (IntKind.i64.wrap ((IntKind.i64.wrap (t0 + t2)) - t4)) 2), IntKind.i64.wrap (Int.tdiv (IntKind.i64.wrap ((IntKind.i64.wrap (t4 + t0)) - t2)) 2), IntKind.i64.wrap (Int.tdiv (IntKind.i64.wrap ((IntKind.i64.wrap (t4 + t2)) - t0)) 2)]))))) ((((b0_1 * b0_1) * ((IntKind.i64.wrap (t4 + 1) : Int).natAbs)) * (prF [IntKind.i64.wrap (Int.tdiv (IntKind.i64.wrap (t0 + t1)) 2), IntKind.i64.wrap (Int.tdiv (IntKind.i64.wrap (t0 - t1)) 2), IntKind.i64.wrap (Int.tdiv (IntKind.i64.wrap (t2 + t3)) 2), IntKind.i64.wrap (Int.tdiv (IntKind.i64.wrap (t2 - t3)) 2), IntKind.i64.wrap (Int.tdiv (IntKind.i64.wrap (t4 + t14)) 2), IntKind.i64.wrap (Int.tdiv (IntKind.i64.wrap (t4 - t14)) 2)])) / (Nat.gcd (((b0_1 * b0_1) * ((IntKind.i64.wrap (t4 + 1) : Int).natAbs)) * (prF [IntKind.i64.wrap (Int.tdiv (IntKind.i64.wrap (t0 + t1)) 2), IntKind.i64.wrap (Int.tdiv (IntKind.i64.wrap (t0 - t1)) 2), IntKind.i64.wrap (Int.tdiv (IntKind.i64.wrap (t2 + t3)) 2), IntKind.i64.wrap (Int.tdiv (IntKind.i64.wrap (t2 - t3)) 2), IntKind.i64.wrap (Int.tdiv (IntKind.i64.wrap (t4 + t14)) 2), IntKind.i64.wrap (Int.tdiv (IntKind.i64.wrap (t4 - t14)) 2)])) (prF [IntKind.i64.wrap ((IntKind.i64.wrap (Int.tdiv (IntKind.i64.wrap ((IntKind.i64.wrap (t0 + t2)) + t4)) 2)) + 1), IntKind.i64.wrap (Int.tdiv (IntKind.i64.wrap ((IntKind.i64.wrap (t0 + t2)) - t4)) 2), IntKind.i64.wrap (Int.tdiv (IntKind.i64.wrap ((IntKind.i64.wrap (t4 + t0)) - t2)) 2), IntKind.i64.wrap (Int.tdiv (IntKind.i64.wrap ((IntKind.i64.wrap (t4 + t2)) - t0)) 2)]))))), .a (.int .i64 (dn ((prF [IntKind.i64.wrap ((IntKind.i64.wrap (Int.tdiv (IntKind.i64.wrap ((IntKind.i64.wrap (t0 + t2)) + t4)) 2)) + 1), IntKind.i64.wrap (Int.tdiv (IntKind.i64.wrap ((IntKind.i64.wrap (t0 + t2)) - t4)) 2), IntKind.i64.wrap (Int.tdiv (IntKind.i64.wrap ((IntKind.i64.wrap (t4 + t0)) - t2)) 2), IntKind.i64.wrap (Int.tdiv (IntKind.i64.wrap ((IntKind.i64.wrap (t4 + t2)) - t0)) 2)]) / (Nat.gcd (((b0_1 * b0_1) * ((IntKind.i64.wrap (t4 + 1) : Int).natAbs)) * (prF [IntKind.i64.wrap (Int.tdiv (IntKind.i64.wrap (t0 + t1)) 2), IntKind.i64.wrap (Int.tdiv (IntKind.i64.wrap (t0 - t1)) 2), IntKind.i64.wrap (Int.tdiv (IntKind.i64.wrap (t2 + t3)) 2), IntKind.i64.wrap (Int.tdiv (IntKind.i64.wrap (t2 - t3)) 2), IntKind.i64.wrap (Int.tdiv (IntKind.i64.wrap (t4 + t14)) 2), IntKind.i64.wrap (Int.tdiv (IntKind.i64.wrap (t4 - t14)) 2)])) (prF [IntKind.i64.wrap ((IntKind.i64.wrap (Int.tdiv (IntKind.i64.wrap ((IntKind.i64.wrap (t0 + t2)) + t4)) 2)) + 1), IntKind.i64.wrap (Int.tdiv (IntKind.i64.wrap ((IntKind.i64.wrap (t0 + t2)) - t4)) 2), IntKind.i64.wrap (Int.tdiv (IntKind.i64.wrap ((IntKind.i64.wrap (t4 + t0)) - t2)) 2), IntKind.i64.wrap (Int.tdiv (IntKind.i64.wrap ((IntKind.i64.wrap (t4 + t2)) - t0)) 2)]))) : Int)), .a (.bool true)], []) | false => (match decide ((((ndig b0_1 : Nat) : Int) : Int) > 0) with | true => some (.tup [.a (.int .i64 1), .a (.int .i64 (sgI ((((!(((!(((!(b0_0 == b0_0)) && (decide (0 < b0_1 * b0_1))) == (decide ((IntKind.i64.wrap (t4 + 1) : Int) < 0)))) && (decide (0 < (b0_1 * b0_1) * ((IntKind.i64.wrap (t4 + 1) : Int).natAbs)))) == false)) && (decide (0 < ((b0_1 * b0_1) * ((IntKind.i64.wrap (t4 + 1) : Int).natAbs)) * (prF [IntKind.i64.wrap (Int.tdiv (IntKind.i64.wrap (t0 + t1)) 2), IntKind.i64.wrap (Int.tdiv (IntKind.i64.wrap (t0 - t1)) 2), IntKind.i64.wrap (Int.tdiv (IntKind.i64.wrap (t2 + t3)) 2), IntKind.i64.wrap (Int.tdiv (IntKind.i64.wrap (t2 - t3)) 2), IntKind.i64.wrap (Int.tdiv (IntKind.i64.wrap (t4 + t14)) 2), IntKind.i64.wrap (Int.tdiv (IntKind.i64.wrap (t4 - t14)) 2)])))) != false) && (decide (0 < (((b0_1 * b0_1) * ((IntKind.i64.wrap (t4 + 1) : Int).natAbs)) * (prF [IntKind.i64.wrap (Int.tdiv (IntKind.i64.wrap (t0 + t1)) 2), IntKind.i64.wrap (Int.tdiv (IntKind.i64.wrap (t0 - t1)) 2), IntKind.i64.wrap (Int.tdiv (IntKind.i64.wrap (t2 + t3)) 2), IntKind.i64.wrap (Int.tdiv (IntKind.i64.wrap (t2 - t3)) 2), IntKind.i64.wrap (Int.tdiv (IntKind.i64.wrap (t4 + t14)) 2), IntKind.i64.wrap (Int.tdiv (IntKind.i64.wrap (t4 - t14)) 2)])) / (Nat.gcd (((b0_1 * b0_1) * ((IntKind.i64.wrap (t4 + 1) : Int).natAbs)) * (prF [IntKind.i64.wrap (Int.tdiv (IntKind.i64.wrap (t0 + t1)) 2), IntKind.i64.wrap (Int.tdiv (IntKind.i64.wrap (t0 - t1)) 2), IntKind.i64.wrap (Int.tdiv (IntKind.i64.wrap (t2 + t3)) 2), IntKind.i64.wrap (Int.tdiv (IntKind.i64.wrap (t2 - t3)) 2), IntKind.i64.wrap (Int.tdiv (IntKind.i64.wrap (t4 + t14)) 2), IntKind.i64.wrap (Int.tdiv (IntKind.i64.wrap (t4 - t14)) 2)])) (prF [IntKind.i64.wrap ((IntKind.i64.wrap (Int.tdiv (IntKind.i64.wrap ((IntKind.i64.wrap (t0 + t2)) + t4)) 2)) + 1), IntKind.i64.wrap (Int.tdiv (IntKind.i64.wrap ((IntKind.i64.wrap (t0 + t2)) - t4)) 2), IntKind.i64.wrap (Int.tdiv (IntKind.i64.wrap ((IntKind.i64.wrap (t4 + t0)) - t2)) 2), IntKind.i64.wrap (Int.tdiv (IntKind.i64.wrap ((IntKind.i64.wrap (t4 + t2)) - t0)) 2)]))))) ((((b0_1 * b0_1) * ((IntKind.i64.wrap (t4 + 1) : Int).natAbs)) * (prF [IntKind.i64.wrap (Int.tdiv (IntKind.i64.wrap (t0 + t1)) 2), IntKind.i64.wrap (Int.tdiv (IntKind.i64.wrap (t0 - t1)) 2), IntKind.i64.wrap (Int.tdiv (IntKind.i64.wrap (t2 + t3)) 2), IntKind.i64.wrap (Int.tdiv (IntKind.i64.wrap (t2 - t3)) 2), IntKind.i64.wrap (Int.tdiv (IntKind.i64.wrap (t4 + t14)) 2), IntKind.i64.wrap (Int.tdiv (IntKind.i64.wrap (t4 - t14)) 2)])) / (Nat.gcd (((b0_1 * b0_1) * ((IntKind.i64.wrap (t4 + 1) : Int).natAbs)) * (prF [IntKind.i64.wrap (Int.tdiv (IntKind.i64.wrap (t0 + t1)) 2), IntKind.i64.wrap (Int.tdiv (IntKind.i64.wrap (t0 - t1)) 2), IntKind.i64.wrap (Int.tdiv (IntKind.i64.wrap (t2 + t3)) 2), IntKind.i64.wrap (Int.tdiv (IntKind.i64.wrap (t2 - t3)) 2), IntKind.i64.wrap (Int.tdiv (IntKind.i64.wrap (t4 + t14)) 2), IntKind.i64.wrap (Int.tdiv (IntKind.i64.wrap (t4 - t14)) 2)])) (prF [IntKind.i64.wrap ((IntKind.i64.wrap (Int.tdiv (IntKind.i64.wrap ((IntKind.i64.wrap (t0 + t2)) + t4)) 2)) + 1), IntKind.i64.wrap (Int.tdiv (IntKind.i64.wrap ((IntKind.i64.wrap (t0 + t2)) - t4)) 2), IntKind.i64.wrap (Int.tdiv (IntKind.i64.wrap ((IntKind.i64.wrap (t4 + t0)) - t2)) 2), IntKind.i64.wrap (Int.tdiv (IntKind.i64.wrap ((IntKind.i64.wrap (t4 + t2)) - t0)) 2)]))))), .a (.int .i64 (dn ((prF [IntKind.i64.wrap ((IntKind.i64.wrap (Int.tdiv (IntKind.i64.wrap ((IntKind.i64.wrap (t0 + t2)) + t4)) 2)) + 1), IntKind.i64.wrap (Int.tdiv (IntKind.i64.wrap ((IntKind.i64.wrap (t0 + t2)) - t4)) 2), IntKind.i64.wrap (Int.tdiv (IntKind.i64.wrap ((IntKind.i64.wrap (t4 + t0)) - t2)) 2), IntKind.i64.wrap (Int.tdiv (IntKind.i64.wrap ((IntKind.i64.wrap (t4 + t2)) - t0)) 2)]) / (Nat.gcd (((b0_1 * b0_1) * ((IntKind.i64.wrap (t4 + 1) : Int).natAbs)) * (prF [IntKind.i64.wrap (Int.tdiv (IntKind.i64.wrap (t0 + t1)) 2), IntKind.i64.wrap (Int.tdiv (IntKind.i64.wrap (t0 - t1)) 2), IntKind.i64.wrap (Int.tdiv (IntKind.i64.wrap (t2 + t3)) 2), IntKind.i64.wrap (Int.tdiv (IntKind.i64.wrap (t2 - t3)) 2), IntKind.i64.wrap (Int.tdiv (IntKind.i64.wrap (t4 + t14)) 2), IntKind.i64.wrap (Int.tdiv (IntKind.i64.wrap (t4 - t14)) 2)])) (prF [IntKind.i64.wrap ((IntKind.i64.wrap (Int.tdiv (IntKind.i64.wrap ((IntKind.i64.wrap (t0 + t2)) + t4)) 2)) + 1), IntKind.i64.wrap (Int.tdiv (IntKind.i64.wrap ((IntKind.i64.wrap (t0 + t2)) - t4)) 2), IntKind.i64.wrap (Int.tdiv (IntKind.i64.wrap ((IntKind.i64.wrap (t4 + t0)) - t2)) 2), IntKind.i64.wrap (Int.tdiv (IntKind.i64.wrap ((IntKind.i64.wrap (t4 + t2)) - t0)) 2)]))) : Int)), .a (.bool true)], []) | false => some (.tup [.a (.int .i64 0), .a (.int .i64 (sgI ((((!(((!(((!(b0_0 == b0_0)) && (decide (0 < b0_1 * b0_1))) == (decide ((IntKind.i64.wrap (t4 + 1) : Int) < 0)))) && (decide (0 < (b0_1 * b0_1) * ((IntKind.i64.wrap (t4 + 1) : Int).natAbs)))) == false)) && (decide (0 < ((b0_1 * b0_1) * ((IntKind.i64.wrap (t4 + 1) : Int).natAbs)) * (prF [IntKind.i64.wrap (Int.tdiv (IntKind.i64.wrap (t0 + t1)) 2), IntKind.i64.wrap (Int.tdiv (IntKind.i64.wrap (t0 - t1)) 2), IntKind.i64.wrap (Int.tdiv (IntKind.i64.wrap (t2 + t3)) 2), IntKind.i64.wrap (Int.tdiv (IntKind.i64.wrap (t2 - t3)) 2), IntKind.i64.wrap (Int.tdiv (IntKind.i64.wrap (t4 + t14)) 2), IntKind.i64.wrap (Int.tdiv (IntKind.i64.wrap (t4 - t14)) 2)])))) != false) && (decide (0 < (((b0_1 * b0_1) * ((IntKind.i64.wrap (t4 + 1) : Int).natAbs)) * (prF [IntKind.i64.wrap (Int.tdiv (IntKind.i64.wrap (t0 + t1)) 2), IntKind.i64.wrap (Int.tdiv (IntKind.i64.wrap (t0 - t1)) 2), IntKind.i64.wrap (Int.tdiv (IntKind.i64.wrap (t2 + t3)) 2), IntKind.i64.wrap (Int.tdiv (IntKind.i64.wrap (t2 - t3)) 2), IntKind.i64.wrap (Int.tdiv (IntKind.i64.wrap (t4 + t14)) 2), IntKind.i64.wrap (Int.tdiv (IntKind.i64.wrap (t4 - t14)) 2)])) / (Nat.gcd (((b0_1 * b0_1) * ((IntKind.i64.wrap (t4 + 1) : Int).natAbs)) * (prF [IntKind.i64.wrap (Int.tdiv (IntKind.i64.wrap (t0 + t1)) 2), IntKind.i64.wrap (Int.tdiv (IntKind.i64.wrap (t0 - t1)) 2), IntKind.i64.wrap (Int.tdiv (IntKind.i64.wrap (t2 + t3)) 2), IntKind.i64.wrap (Int.tdiv (IntKind.i64.wrap (t2 - t3)) 2), IntKind.i64.wrap (Int.tdiv (IntKind.i64.wrap (t4 + t14)) 2), IntKind.i64.wrap (Int.tdiv (IntKind.i64.wrap (t4 - t14)) 2)])) (prF [IntKind.i64.wrap ((IntKind.i64.wrap (Int.tdiv (IntKind.i64.wrap ((IntKind.i64.wrap (t0 + t2)) + t4)) 2)) + 1), IntKind.i64.wrap (Int.tdiv (IntKind.i64.wrap ((IntKind.i64.wrap (t0 + t2)) - t4)) 2), IntKind.i64.wrap (Int.tdiv (IntKind.i64.wrap ((IntKind.i64.wrap (t4 + t0)) - t2)) 2), IntKind.i64.wrap (Int.tdiv (IntKind.i64.wrap ((IntKind.i64.wrap (t4 + t2)) - t0)) 2)]))))) ((((b0_1 * b0_1) * ((IntKind.i64.wrap (t4 + 1) : Int).natAbs)) * (prF [IntKind.i64.wrap (Int.tdiv (IntKind.i64.wrap (t0 + t1)) 2), IntKind.i64.wrap (Int.tdiv (IntKind.i64.wrap (t0 - t1)) 2), IntKind.i64.wrap (Int.tdiv (IntKind.i64.wrap (t2 + t3)) 2), IntKind.i64.wrap (Int.tdiv (IntKind.i64.wrap (t2 - t3)) 2), IntKind.i64.wrap (Int.tdiv (IntKind.i64.wrap (t4 + t14)) 2), IntKind.i64.wrap (Int.tdiv (IntKind.i64.wrap (t4 - t14)) 2)])) / (Nat.gcd (((b0_1 * b0_1) * ((IntKind.i64.wrap (t4 + 1) : Int).natAbs)) * (prF [IntKind.i64.wrap (Int.tdiv (IntKind.i64.wrap (t0 + t1)) 2), IntKind.i64.wrap (Int.tdiv (IntKind.i64.wrap (t0 - t1)) 2), IntKind.i64.wrap (Int.tdiv (IntKind.i64.wrap (t2 + t3)) 2), IntKind.i64.wrap (Int.tdiv (IntKind.i64.wrap (t2 - t3)) 2), IntKind.i64.wrap (Int.tdiv (IntKind.i64.wrap (t4 + t14)) 2), IntKind.i64.wrap (Int.tdiv (IntKind.i64.wrap (t4 - t14)) 2)])) (prF [IntKind.i64.wrap ((IntKind.i64.wrap (Int.tdiv (IntKind.i64.wrap ((IntKind.i64.wrap (t0 + t2)) + t4)) 2)) + 1), IntKind.i64.wrap (Int.tdiv (IntKind.i64.wrap ((IntKind.i64.wrap (t0 + t2)) - t4)) 2), IntKind.i64.wrap (Int.tdiv (IntKind.i64.wrap ((IntKind.i64.wrap (t4 + t0)) - t2)) 2), IntKind.i64.wrap (Int.tdiv (IntKind.i64.wrap ((IntKind.i64.wrap (t4 + t2)) - t0)) 2)]))))), .a (.int .i64 (dn ((prF [IntKind.i64.wrap ((IntKind.i64.wrap (Int.tdiv (IntKind.i64.wrap ((IntKind.i64.wrap (t0 + t2)) + t4)) 2)) + 1), IntKind.i64.wrap (Int.tdiv (IntKind.i64.wrap ((IntKind.i64.wrap (t0 + t2)) - t4)) 2), IntKind.i64.wrap (Int.tdiv (IntKind.i64.wrap ((IntKind.i64.wrap (t4 + t0)) - t2)) 2), IntKind.i64.wrap (Int.tdiv (IntKind.i64.wrap ((IntKind.i64.wrap (t4 + t2)) - t0)) 2)]) / (Nat.gcd (((b0_1 * b0_1) * ((IntKind.i64.wrap (t4 + 1) : Int).natAbs)) * (prF [IntKind.i64.wrap (Int.tdiv (IntKind.i64.wrap (t0 + t1)) 2), IntKind.i64.wrap (Int.tdiv (IntKind.i64.wrap (t0 - t1)) 2), IntKind.i64.wrap (Int.tdiv (IntKind.i64.wrap (t2 + t3)) 2), IntKind.i64.wrap (Int.tdiv (IntKind.i64.wrap (t2 - t3)) 2), IntKind.i64.wrap (Int.tdiv (IntKind.i64.wrap (t4 + t14)) 2), IntKind.i64.wrap (Int.tdiv (IntKind.i64.wrap (t4 - t14)) 2)])) (prF [IntKind.i64.wrap ((IntKind.i64.wrap (Int.tdiv (IntKind.i64.wrap ((IntKind.i64.wrap (t0 + t2)) + t4)) 2)) + 1), IntKind.i64.wrap (Int.tdiv (IntKind.i64.wrap ((IntKind.i64.wrap (t0 + t2)) - t4)) 2), IntKind.i64.wrap (Int.tdiv (IntKind.i64.wrap ((IntKind.i64.wrap (t4 + t0)) - t2)) 2), IntKind.i64.wrap (Int.tdiv (IntKind.i64.wrap ((IntKind.i64.wrap (t4 + t2)) - t0)) 2)]))) : Int)), .a (.bool true)], []))) | false => none) | false => none) | false => none) | false => none) | false => none) | false => none) | false => none) | false => none)
noncomputable def mb_js4 (N : Nat) (k0 : Int → Int → Int → Int → Int → Int → Bool → Nat → Option (V × H)) (rq : Int → Int → Int → Int → Int → Int → Int → Bool → Nat → Option (V × H)) : Int → Int → Int → Int → Int → Int → Int → Bool → Nat → Option (V × H) := fun (t0 : Int) (t1 : Int) (t2 : Int) (t3 : Int) (t4 : Int) (t14 : Int) (t16 : Int) (b0_0 : Bool) (b0_1 : Nat) => (match decide ((t16 : Int) ≤ (IntKind.i64.wrap (Int.tdiv (IntKind.i64.wrap ((IntKind.i64.wrap (t0 + t2)) - t4)) 2))) with | true => (match setOk (IntKind.i64.wrap (Int.tdiv (IntKind.i64.wrap ((IntKind.i64.wrap (t0 + t2)) - t4)) 2)) t16 with | true => (match setOk (IntKind.i64.wrap (Int.tdiv (IntKind.i64.wrap ((IntKind.i64.wrap (t4 + t0)) - t2)) 2)) (IntKind.i64.wrap ((IntKind.i64.wrap (Int.tdiv (IntKind.i64.wrap (t0 - t1)) 2)) - t16)) with | true => (match lowB (chs (IntKind.i64.wrap (Int.tdiv (IntKind.i64.wrap ((IntKind.i64.wrap (t0 + t2)) - t4)) 2)) t16) && lowB (chs (IntKind.i64.wrap (Int.tdiv (IntKind.i64.wrap ((IntKind.i64.wrap (t4 + t0)) - t2)) 2)) (IntKind.i64.wrap ((IntKind.i64.wrap (Int.tdiv (IntKind.i64.wrap (t0 - t1)) 2)) - t16))) with | true => (match setOk (IntKind.i64.wrap (Int.tdiv (IntKind.i64.wrap ((IntKind.i64.wrap (t4 + t2)) - t0)) 2)) (IntKind.i64.wrap ((IntKind.i64.wrap (Int.tdiv (IntKind.i64.wrap (t2 + t3)) 2)) - t16)) with | true => (match lowB ((chs (IntKind.i64.wrap (Int.tdiv (IntKind.i64.wrap ((IntKind.i64.wrap (t0 + t2)) - t4)) 2)) t16) * (chs (IntKind.i64.wrap (Int.tdiv (IntKind.i64.wrap ((IntKind.i64.wrap (t4 + t0)) - t2)) 2)) (IntKind.i64.wrap ((IntKind.i64.wrap (Int.tdiv (IntKind.i64.wrap (t0 - t1)) 2)) - t16)))) && lowB (chs (IntKind.i64.wrap (Int.tdiv (IntKind.i64.wrap ((IntKind.i64.wrap (t4 + t2)) - t0)) 2)) (IntKind.i64.wrap ((IntKind.i64.wrap (Int.tdiv (IntKind.i64.wrap (t2 + t3)) 2)) - t16))) with | true => (match (Int.tmod t16 2) == 1 with | true => (match lowB 0 && lowB (((chs (IntKind.i64.wrap (Int.tdiv (IntKind.i64.wrap ((IntKind.i64.wrap (t0 + t2)) - t4)) 2)) t16) * (chs (IntKind.i64.wrap (Int.tdiv (IntKind.i64.wrap ((IntKind.i64.wrap (t4 + t0)) - t2)) 2)) (IntKind.i64.wrap ((IntKind.i64.wrap (Int.tdiv (IntKind.i64.wrap (t0 - t1)) 2)) - t16)))) * (chs (IntKind.i64.wrap (Int.tdiv (IntKind.i64.wrap ((IntKind.i64.wrap (t4 + t2)) - t0)) 2)) (IntKind.i64.wrap ((IntKind.i64.wrap (Int.tdiv (IntKind.i64.wrap (t2 + t3)) 2)) - t16)))) with | true => (match lowB b0_1 && lowB ((0 + (sgI (decide (0 < ((chs (IntKind.i64.wrap (Int.tdiv (IntKind.i64.wrap ((IntKind.i64.wrap (t0 + t2)) - t4)) 2)) t16) * (chs (IntKind.i64.wrap (Int.tdiv (IntKind.i64.wrap ((IntKind.i64.wrap (t4 + t0)) - t2)) 2)) (IntKind.i64.wrap ((IntKind.i64.wrap (Int.tdiv (IntKind.i64.wrap (t0 - t1)) 2)) - t16)))) * (chs (IntKind.i64.wrap (Int.tdiv (IntKind.i64.wrap ((IntKind.i64.wrap (t4 + t2)) - t0)) 2)) (IntKind.i64.wrap ((IntKind.i64.wrap (Int.tdiv (IntKind.i64.wrap (t2 + t3)) 2)) - t16))))) (((chs (IntKind.i64.wrap (Int.tdiv (IntKind.i64.wrap ((IntKind.i64.wrap (t0 + t2)) - t4)) 2)) t16) * (chs (IntKind.i64.wrap (Int.tdiv (IntKind.i64.wrap ((IntKind.i64.wrap (t4 + t0)) - t2)) 2)) (IntKind.i64.wrap ((IntKind.i64.wrap (Int.tdiv (IntKind.i64.wrap (t0 - t1)) 2)) - t16)))) * (chs (IntKind.i64.wrap (Int.tdiv (IntKind.i64.wrap ((IntKind.i64.wrap (t4 + t2)) - t0)) 2)) (IntKind.i64.wrap ((IntKind.i64.wrap (Int.tdiv (IntKind.i64.wrap (t2 + t3)) 2)) - t16)))))).natAbs) with | true => (rq t0 t1 t2 t3 t4 t14 (IntKind.i64.wrap (t16 + 1)) (decide ((sgI b0_0 b0_1) + (sgI (decide (0 + (sgI (decide (0 < ((chs (IntKind.i64.wrap (Int.tdiv (IntKind.i64.wrap ((IntKind.i64.wrap (t0 + t2)) - t4)) 2)) t16) * (chs (IntKind.i64.wrap (Int.tdiv (IntKind.i64.wrap ((IntKind.i64.wrap (t4 + t0)) - t2)) 2)) (IntKind.i64.wrap ((IntKind.i64.wrap (Int.tdiv (IntKind.i64.wrap (t0 - t1)) 2)) - t16)))) * (chs (IntKind.i64.wrap (Int.tdiv (IntKind.i64.wrap ((IntKind.i64.wrap (t4 + t2)) - t0)) 2)) (IntKind.i64.wrap ((IntKind.i64.wrap (Int.tdiv (IntKind.i64.wrap (t2 + t3)) 2)) - t16))))) (((chs (IntKind.i64.wrap (Int.tdiv (IntKind.i64.wrap ((IntKind.i64.wrap (t0 + t2)) - t4)) 2)) t16) * (chs (IntKind.i64.wrap (Int.tdiv (IntKind.i64.wrap ((IntKind.i64.wrap (t4 + t0)) - t2)) 2)) (IntKind.i64.wrap ((IntKind.i64.wrap (Int.tdiv (IntKind.i64.wrap (t0 - t1)) 2)) - t16)))) * (chs (IntKind.i64.wrap (Int.tdiv (IntKind.i64.wrap ((IntKind.i64.wrap (t4 + t2)) - t0)) 2)) (IntKind.i64.wrap ((IntKind.i64.wrap (Int.tdiv (IntKind.i64.wrap (t2 + t3)) 2)) - t16))))) < 0)) ((0 + (sgI (decide (0 < ((chs (IntKind.i64.wrap (Int.tdiv (IntKind.i64.wrap ((IntKind.i64.wrap (t0 + t2)) - t4)) 2)) t16) * (chs (IntKind.i64.wrap (Int.tdiv (IntKind.i64.wrap ((IntKind.i64.wrap (t4 + t0)) - t2)) 2)) (IntKind.i64.wrap ((IntKind.i64.wrap (Int.tdiv (IntKind.i64.wrap (t0 - t1)) 2)) - t16)))) * (chs (IntKind.i64.wrap (Int.tdiv (IntKind.i64.wrap ((IntKind.i64.wrap (t4 + t2)) - t0)) 2)) (IntKind.i64.wrap ((IntKind.i64.wrap (Int.tdiv (IntKind.i64.wrap (t2 + t3)) 2)) - t16))))) (((chs (IntKind.i64.wrap (Int.tdiv (IntKind.i64.wrap ((IntKind.i64.wrap (t0 + t2)) - t4)) 2)) t16) * (chs (IntKind.i64.wrap (Int.tdiv (IntKind.i64.wrap ((IntKind.i64.wrap (t4 + t0)) - t2)) 2)) (IntKind.i64.wrap ((IntKind.i64.wrap (Int.tdiv (IntKind.i64.wrap (t0 - t1)) 2)) - t16)))) * (chs (IntKind.i64.wrap (Int.tdiv (IntKind.i64.wrap ((IntKind.i64.wrap (t4 + t2)) - t0)) 2)) (IntKind.i64.wrap ((IntKind.i64.wrap (Int.tdiv (IntKind.i64.wrap (t2 + t3)) 2)) - t16)))))).natAbs)) < 0)) (((sgI b0_0 b0_1) + (sgI (decide (0 + (sgI (decide (0 < ((chs (IntKind.i64.wrap (Int.tdiv (IntKind.i64.wrap ((IntKind.i64.wrap (t0 + t2)) - t4)) 2)) t16) * (chs (IntKind.i64.wrap (Int.tdiv (IntKind.i64.wrap ((IntKind.i64.wrap (t4 + t0)) - t2)) 2)) (IntKind.i64.wrap ((IntKind.i64.wrap (Int.tdiv (IntKind.i64.wrap (t0 - t1)) 2)) - t16)))) * (chs (IntKind.i64.wrap (Int.tdiv (IntKind.i64.wrap ((IntKind.i64.wrap (t4 + t2)) - t0)) 2)) (IntKind.i64.wrap ((IntKind.i64.wrap (Int.tdiv (IntKind.i64.wrap (t2 + t3)) 2)) - t16))))) (((chs (IntKind.i64.wrap (Int.tdiv (IntKind.i64.wrap ((IntKind.i64.wrap (t0 + t2)) - t4)) 2)) t16) * (chs (IntKind.i64.wrap (Int.tdiv (IntKind.i64.wrap ((IntKind.i64.wrap (t4 + t0)) - t2)) 2)) (IntKind.i64.wrap ((IntKind.i64.wrap (Int.tdiv (IntKind.i64.wrap (t0 - t1)) 2)) - t16)))) * (chs (IntKind.i64.wrap (Int.tdiv (IntKind.i64.wrap ((IntKind.i64.wrap (t4 + t2)) - t0)) 2)) (IntKind.i64.wrap ((IntKind.i64.wrap (Int.tdiv (IntKind.i64.wrap (t2 + t3)) 2)) - t16))))) < 0)) ((0 + (sgI (decide (0 < ((chs (IntKind.i64.wrap (Int.tdiv (IntKind.i64.wrap ((IntKind.i64.wrap (t0 + t2)) - t4)) 2)) t16) * (chs (IntKind.i64.wrap (Int.tdiv (IntKind.i64.wrap ((IntKind.i64.wrap (t4 + t0)) - t2)) 2)) (IntKind.i64.wrap ((IntKind.i64.wrap (Int.tdiv (IntKind.i64.wrap (t0 - t1)) 2)) - t16)))) * (chs (IntKind.i64.wrap (Int.tdiv (IntKind.i64.wrap ((IntKind.i64.wrap (t4 + t2)) - t0)) 2)) (IntKind.i64.wrap ((IntKind.i64.wrap (Int.tdiv (IntKind.i64.wrap (t2 + t3)) 2)) - t16))))) (((chs (IntKind.i64.wrap (Int.tdiv (IntKind.i64.wrap ((IntKind.i64.wrap (t0 + t2)) - t4)) 2)) t16) * (chs (IntKind.i64.wrap (Int.tdiv (IntKind.i64.wrap ((IntKind.i64.wrap (t4 + t0)) - t2)) 2)) (IntKind.i64.wrap ((IntKind.i64.wrap (Int.tdiv (IntKind.i64.wrap (t0 - t1)) 2)) - t16)))) * (chs (IntKind.i64.wrap (Int.tdiv (IntKind.i64.wrap ((IntKind.i64.wrap (t4 + t2)) - t0)) 2)) (IntKind.i64.wrap ((IntKind.i64.wrap (Int.tdiv (IntKind.i64.wrap (t2 + t3)) 2)) - t16)))))).natAbs))).natAbs)) | false => none) | false => none) | false => (match lowB b0_1 && lowB (((chs (IntKind.i64.wrap (Int.tdiv (IntKind.i64.wrap ((IntKind.i64.wrap (t0 + t2)) - t4)) 2)) t16) * (chs (IntKind.i64.wrap (Int.tdiv (IntKind.i64.wrap ((IntKind.i64.wrap (t4 + t0)) - t2)) 2)) (IntKind.i64.wrap ((IntKind.i64.wrap (Int.tdiv (IntKind.i64.wrap (t0 - t1)) 2)) - t16)))) * (chs (IntKind.i64.wrap (Int.tdiv (IntKind.i64.wrap ((IntKind.i64.wrap (t4 + t2)) - t0)) 2)) (IntKind.i64.wrap ((IntKind.i64.wrap (Int.tdiv (IntKind.i64.wrap (t2 + t3)) 2)) - t16)))) with | true => (rq t0 t1 t2 t3 t4 t14 (IntKind.i64.wrap (t16 + 1)) (decide ((sgI b0_0 b0_1) + (((chs (IntKind.i64.wrap (Int.tdiv (IntKind.i64.wrap ((IntKind.i64.wrap (t0 + t2)) - t4)) 2)) t16) * (chs (IntKind.i64.wrap (Int.tdiv (IntKind.i64.wrap ((IntKind.i64.wrap (t4 + t0)) - t2)) 2)) (IntKind.i64.wrap ((IntKind.i64.wrap (Int.tdiv (IntKind.i64.wrap (t0 - t1)) 2)) - t16)))) * (chs (IntKind.i64.wrap (Int.tdiv (IntKind.i64.wrap ((IntKind.i64.wrap (t4 + t2)) - t0)) 2)) (IntKind.i64.wrap ((IntKind.i64.wrap (Int.tdiv (IntKind.i64.wrap (t2 + t3)) 2)) - t16))) : Int) < 0)) (((sgI b0_0 b0_1) + (((chs (IntKind.i64.wrap (Int.tdiv (IntKind.i64.wrap ((IntKind.i64.wrap (t0 + t2)) - t4)) 2)) t16) * (chs (IntKind.i64.wrap (Int.tdiv (IntKind.i64.wrap ((IntKind.i64.wrap (t4 + t0)) - t2)) 2)) (IntKind.i64.wrap ((IntKind.i64.wrap (Int.tdiv (IntKind.i64.wrap (t0 - t1)) 2)) - t16)))) * (chs (IntKind.i64.wrap (Int.tdiv (IntKind.i64.wrap ((IntKind.i64.wrap (t4 + t2)) - t0)) 2)) (IntKind.i64.wrap ((IntKind.i64.wrap (Int.tdiv (IntKind.i64.wrap (t2 + t3)) 2)) - t16))) : Int)).natAbs)) | false => none)) | false => none) | false => none) | false => none) | false => none) | false => none) | false => (k0 t0 t1 t2 t3 t4 t14 b0_0 b0_1))
noncomputable def mr_js4 (N : Nat) (k0 : Int → Int → Int → Int → Int → Int → Bool → Nat → Option (V × H)) (M : Nat) : Int → Int → Int → Int → Int → Int → Int → Bool → Nat → Option (V × H) := Nat.rec (motive := fun _ => Int → Int → Int → Int → Int → Int → Int → Bool → Nat → Option (V × H)) (fun (_ : Int) (_ : Int) (_ : Int) (_ : Int) (_ : Int) (_ : Int) (_ : Int) (_ : Bool) (_ : Nat) => none) (fun _ rq => mb_js4 N k0 rq) M
theorem mrs_js4 (N : Nat) (k0 : Int → Int → Int → Int → Int → Int → Bool → Nat → Option (V × H)) (M : Nat) (t0 : Int) (t1 : Int) (t2 : Int) (t3 : Int) (t4 : Int) (t14 : Int) (t16 : Int) (b0_0 : Bool) (b0_1 : Nat) : mr_js4 N k0 (M + 1) t0 t1 t2 t3 t4 t14 t16 b0_0 b0_1 = mb_js4 N k0 (mr_js4 N k0 M) t0 t1 t2 t3 t4 t14 t16 b0_0 b0_1 := rfl
theorem H_js4 (N : Nat) : ∀ (M : Nat) (t0 : Int) (t1 : Int) (t2 : Int) (t3 : Int) (t4 : Int) (t14 : Int) (t16 : Int) (b0_0 : Bool) (b0_1 : Nat), lp_js4 N M (st_js4 t0 t1 t2 t3 t4 t14 t16 b0_0 b0_1) (kt_js4 N (kEnd Try.f95 0)) = mr_js4 N (ce_js4_0 N) M t0 t1 t2 t3 t4 t14 t16 b0_0 b0_1 := by
  have he0 : ∀ (t0 : Int) (t1 : Int) (t2 : Int) (t3 : Int) (t4 : Int) (t14 : Int) (b0_0 : Bool) (b0_1 : Nat), kt_js4 N (kEnd Try.f95 0) (.exit 0) (en_js4_0 t0 t1 t2 t3 t4 t14 b0_0 b0_1) = ce_js4_0 N t0 t1 t2 t3 t4 t14 b0_0 b0_1 := by
    intro t0 t1 t2 t3 t4 t14 b0_0 b0_1
    rw [end_js4_0]
    unfold ce_js4_0
    first | (simp only []; done) | (simp only []; kernel_rfl) | rfl
  intro M
  induction M with
  | zero => intros; rfl
  | succ M ih =>
    intro t0 t1 t2 t3 t4 t14 t16 b0_0 b0_1
    rw [step_js4]
    rw [mrs_js4]
    unfold mb_js4
    first | (simp only [ih, he0]; done) | (simp only [ih, he0]; kernel_rfl) | rfl
noncomputable def md_js (N : Nat) (a : Int) (x : Int) (b : Int) (y : Int) (c : Int) : Option (V × H) := (mr_js4 N (ce_js4_0 N) N a x b y c (IntKind.i64.wrap (x + y)) 0 false 0)
theorem mdl_js (N : Nat) (a : Int) (x : Int) (b : Int) (y : Int) (c : Int) : run ty tab_js an_js N Try.f95 [.int .i64 a, .int .i64 x, .int .i64 b, .int .i64 y, .int .i64 c] [] = md_js N a x b y c := by
  rw [run_js]
  unfold md_js
  first | (simp only [H_js4 N N]; done) | (simp only [H_js4 N N]; kernel_rfl) | rfl
def oJ : Option (V × H) → Option (Int × Int × Int)
  | some (.tup [.a (.int .i64 s), .a (.int .i64 u), .a (.int .i64 d), .a (.bool true)], []) => some (s, u, d)
  | _ => none
theorem oJ_inv {o : Option (V × H)} {s u d : Int} (h : oJ o = some (s, u, d)) : o = some (.tup [.a (.int .i64 s), .a (.int .i64 u), .a (.int .i64 d), .a (.bool true)], []) := by
  unfold oJ at h
  split at h
  · cases h; rfl
  · cases h
end Go.Proofs.Ytbhfjdlhhjeknaa.Ab

namespace Go.Proofs.Ytbhfjdlhhjeknaa.Ab
set_option linter.unusedVariables false
set_option linter.unusedSimpArgs false
open Go
noncomputable section
def oI : Option (V × H) → Option Int
  | some (.a (.int .i64 v), []) => some v
  | _ => none
theorem oI_inv {o : Option (V × H)} {v : Int} (h : oI o = some v) : o = some (.int .i64 v, []) := by
  unfold oI at h
  split at h
  · cases h; rfl
  · cases h
def oL : Option (V × H) → Option (List Int)
  | some (.tup [], [.at true (.int .i64 l)]) => some l
  | _ => none
theorem oL_inv {o : Option (V × H)} {l : List Int} (h : oL o = some l) : o = some (.tup [], [.at true (.int .i64 l)]) := by
  unfold oL at h
  split at h
  · cases h; rfl
  · cases h
def oS : Option (V × H) → Option (Int × Int × Int × List Int)
  | some (.tup [.a (.int .i64 s), .a (.int .i64 u), .a (.int .i64 d)], [.at true (.int .i64 l)]) => some (s, u, d, l)
  | _ => none
theorem oS_inv {o : Option (V × H)} {s u d : Int} {l : List Int} (h : oS o = some (s, u, d, l)) : o = some (.tup [.a (.int .i64 s), .a (.int .i64 u), .a (.int .i64 d)], [.at true (.int .i64 l)]) := by
  unfold oS at h
  split at h
  · cases h; rfl
  · cases h
def o3 : Option (V × H) → Option (Int × Int × Int)
  | some (.tup [.a (.int .i64 s), .a (.int .i64 u), .a (.int .i64 d)], []) => some (s, u, d)
  | _ => none
theorem o3_inv {o : Option (V × H)} {s u d : Int} (h : o3 o = some (s, u, d)) : o = some (.tup [.a (.int .i64 s), .a (.int .i64 u), .a (.int .i64 d)], []) := by
  unfold o3 at h
  split at h
  · cases h; rfl
  · cases h
def an_s3 : Ann := ⟨fun r => if r = 5 then some ([0, 1, 5, 6], [5]) else none, fun _ _ => .quiet⟩
def tab_s3 : Fns := tabT []
theorem tabok_s3 : ∀ f, FnT Try.prog f (tab_s3 f) := tabT_nil
def st_s35 (n0 : Int) (k1 : Int) (out5 : Int) (i6 : Int) : St := ⟨(.int .i64 n0 :: .int .i64 k1 :: .any :: .any :: .any :: .int .i64 out5 :: .int .i64 i6 :: (anys 22 [])), []⟩
abbrev kp_s35 : Option (List Nat × List Nat) := some ([0, 1, 5, 6], [5])
noncomputable def lp_s35 {R : Type} (N M : Nat) (s : St) (K : X → St → Option R) : Option R := loopH 0 kp_s35 (fun st K => exec ty tab_s3 an_s3 N 0 (atOf [true, true, true, false, true, false, false] Try.f146) st K) M s K
noncomputable def kt_s35 {R : Type} (N : Nat) (K : X → St → Option R) : X → St → Option R := kBlkR 0 (kSeqR tab_s3 an_s3 N 0 (atOf [true, true, true, true] Try.f146) (K))
def en_s35_0 (out5 : Int) : St := ⟨(.any :: .any :: .any :: .any :: .any :: .int .i64 out5 :: (anys 23 [])), []⟩
theorem run_s3 (N : Nat) (n : Int) (k : Int) : run ty tab_s3 an_s3 N Try.f146 [.int .i64 n, .int .i64 k] []
    = (match decide ((k : Int) < 0) with | true => some (.int .i64 0, []) | false => (match decide ((k : Int) > n) with | true => some (.int .i64 0, []) | false => lp_s35 N N (st_s35 n k 1 1) (kt_s35 N (kEnd Try.f146 0)))) := by
  kernel_rfl
theorem step_s35 {R : Type} (N M : Nat) (K : X → St → Option R) (n0 : Int) (k1 : Int) (out5 : Int) (i6 : Int) : lp_s35 N (M + 1) (st_s35 n0 k1 out5 i6) K
    = (match decide ((i6 : Int) ≤ k1) with | true => (match decide (i6 = 0) with | true => none | false => lp_s35 N M (st_s35 n0 k1 (IntKind.i64.wrap (Int.tdiv (IntKind.i64.wrap (out5 * (IntKind.i64.wrap ((IntKind.i64.wrap (n0 - k1)) + i6)))) i6)) (IntKind.i64.wrap (i6 + 1))) K) | false => K (.exit 0) (en_s35_0 out5)) := by
  kernel_rfl
theorem end_s35_0 (N : Nat) (out5 : Int) : kt_s35 N (kEnd Try.f146 0) (.exit 0) (en_s35_0 out5)
    = some (.int .i64 out5, []) := by
  kernel_rfl
noncomputable def ce_s35_0 (N : Nat) (out5 : Int) : Option (V × H) := some (.int .i64 out5, [])
noncomputable def mb_s35 (N : Nat) (k0 : Int → Option (V × H)) (rq : Int → Int → Int → Int → Option (V × H)) : Int → Int → Int → Int → Option (V × H) := fun (n0 : Int) (k1 : Int) (out5 : Int) (i6 : Int) => (match decide ((i6 : Int) ≤ k1) with | true => (match decide (i6 = 0) with | true => none | false => (rq n0 k1 (IntKind.i64.wrap (Int.tdiv (IntKind.i64.wrap (out5 * (IntKind.i64.wrap ((IntKind.i64.wrap (n0 - k1)) + i6)))) i6)) (IntKind.i64.wrap (i6 + 1)))) | false => (k0 out5))
noncomputable def mr_s35 (N : Nat) (k0 : Int → Option (V × H)) (M : Nat) : Int → Int → Int → Int → Option (V × H) := Nat.rec (motive := fun _ => Int → Int → Int → Int → Option (V × H)) (fun (_ : Int) (_ : Int) (_ : Int) (_ : Int) => none) (fun _ rq => mb_s35 N k0 rq) M
theorem mrs_s35 (N : Nat) (k0 : Int → Option (V × H)) (M : Nat) (n0 : Int) (k1 : Int) (out5 : Int) (i6 : Int) : mr_s35 N k0 (M + 1) n0 k1 out5 i6 = mb_s35 N k0 (mr_s35 N k0 M) n0 k1 out5 i6 := rfl
theorem H_s35 (N : Nat) : ∀ (M : Nat) (n0 : Int) (k1 : Int) (out5 : Int) (i6 : Int), lp_s35 N M (st_s35 n0 k1 out5 i6) (kt_s35 N (kEnd Try.f146 0)) = mr_s35 N (ce_s35_0 N) M n0 k1 out5 i6 := by
  have he0 : ∀ (out5 : Int), kt_s35 N (kEnd Try.f146 0) (.exit 0) (en_s35_0 out5) = ce_s35_0 N out5 := by
    intro out5
    rw [end_s35_0]
    unfold ce_s35_0
    first | (simp only []; done) | (simp only []; kernel_rfl) | rfl
  intro M
  induction M with
  | zero => intros; rfl
  | succ M ih =>
    intro n0 k1 out5 i6
    rw [step_s35]
    rw [mrs_s35]
    unfold mb_s35
    first | (simp only [ih, he0]; done) | (simp only [ih, he0]; kernel_rfl) | rfl
noncomputable def md_s3 (N : Nat) (n : Int) (k : Int) : Option (V × H) := (match decide ((k : Int) < 0) with | true => some (.int .i64 0, []) | false => (match decide ((k : Int) > n) with | true => some (.int .i64 0, []) | false => (mr_s35 N (ce_s35_0 N) N n k 1 1)))
theorem mdl_s3 (N : Nat) (n : Int) (k : Int) : run ty tab_s3 an_s3 N Try.f146 [.int .i64 n, .int .i64 k] [] = md_s3 N n k := by
  rw [run_s3]
  unfold md_s3
  first | (simp only [H_s35 N N]; done) | (simp only [H_s35 N N]; kernel_rfl) | rfl
noncomputable def s3R (n : Int) (k : Int) := oI (md_s3 20 n k)
noncomputable def gS3 : GT := fun vs h => match vs, h with | [.int .i64 n, .int .i64 k], [] => .ite (s3R n k).isSome (.ret (.int .i64 ((s3R n k).getD 0)) []) .no | _, _ => .no
theorem ok_s3 : FnT Try.prog 146 gS3 := by
  refine fnT tabok_s3 Try.func146 rfl rfl an_s3 fun vs h v h' e => ⟨20, ?_⟩
  unfold gS3 at e
  split at e
  case h_2 => exact (T.no_inv e).elim
  rename_i n k
  obtain ⟨hd, e⟩ := T.pre_inv e
  obtain ⟨rfl, rfl⟩ := T.ret_inv e
  refine Eq.trans (mdl_s3 20 n k) ?_
  obtain ⟨z, hz⟩ := Option.isSome_iff_exists.mp hd
  rw [hz]
  exact oI_inv hz
def an_tm : Ann := ⟨fun r => if r = 1 then some ([0, 1, 2, 8, 9, 10], []) else if r = 3 then some ([0, 1, 2, 7, 8, 9, 10], [0, 1, 2, 8, 9, 10]) else none, fun _ _ => .quiet⟩
def tab_tm : Fns := tabT []
theorem tabok_tm : ∀ f, FnT Try.prog f (tab_tm f) := tabT_nil
def st_tm1 (n1 : Int) (times2 : Int) (t10 : Int) (l0 : List Int) : St := ⟨(.ptr 0 0 :: .int .i64 n1 :: .int .i64 times2 :: .any :: .any :: .any :: .any :: .any :: .sl 1 0 6 :: .int .i64 6 :: .int .i64 t10 :: (anys 22 [])), [.at true (.int .i64 l0), .at true (.int .i64 [2, 3, 5, 7, 11, 13])]⟩
abbrev kp_tm1 : Option (List Nat × List Nat) := some ([0, 1, 2, 8, 9, 10], [])
noncomputable def lp_tm1 {R : Type} (N M : Nat) (s : St) (K : X → St → Option R) : Option R := loopH 1 kp_tm1 (fun st K => exec ty tab_tm an_tm N 1 (atOf [true, false, false] Try.f147) st K) M s K
noncomputable def bk_tm1 {R : Type} (N M : Nat) (K : X → St → Option R) : X → St → Option R := fun x st => match x with | .norm => tidyK 1 (kp_tm1.map (·.1)) st fun st => lp_tm1 N M st K | x => tidyK 1 (kp_tm1.map (·.2)) st fun st => K x st
noncomputable def kt_tm1 {R : Type} (N : Nat) (K : X → St → Option R) : X → St → Option R := kBlkR 0 (K)
def st_tm3 (n1 : Int) (times2 : Int) (q7 : Int) (t10 : Int) (l0 : List Int) : St := ⟨(.ptr 0 0 :: .int .i64 n1 :: .int .i64 times2 :: .any :: .any :: .any :: .any :: .int .i64 q7 :: .sl 1 0 6 :: .int .i64 6 :: .int .i64 t10 :: (anys 22 [])), [.at true (.int .i64 l0), .at true (.int .i64 [2, 3, 5, 7, 11, 13])]⟩
abbrev kp_tm3 : Option (List Nat × List Nat) := some ([0, 1, 2, 7, 8, 9, 10], [0, 1, 2, 8, 9, 10])
noncomputable def lp_tm3 {R : Type} (N M : Nat) (s : St) (K : X → St → Option R) : Option R := loopH 1 kp_tm3 (fun st K => exec ty tab_tm an_tm N 1 (atOf [true, false, false, true, true, false, false, true, false, false] Try.f147) st K) M s K
noncomputable def kt_tm3 {R : Type} (N : Nat) (K : X → St → Option R) : X → St → Option R := kBlkR 2 (kBlkR 1 (kSeqR tab_tm an_tm N 1 (atOf [true, false, false, true, true, true] Try.f147) (K)))
def en_tm3_0 (n1 : Int) (times2 : Int) (t10 : Int) (l0 : List Int) : St := ⟨(.ptr 0 0 :: .int .i64 n1 :: .int .i64 times2 :: .any :: .any :: .any :: .any :: .any :: .sl 1 0 6 :: .int .i64 6 :: .int .i64 t10 :: (anys 22 [])), [.at true (.int .i64 l0), .at true (.int .i64 [2, 3, 5, 7, 11, 13])]⟩
def en_tm1_0 (l0 : List Int) : St := ⟨(anys 33 []), [.at true (.int .i64 l0)]⟩
theorem run_tm (N : Nat) (n : Int) (m : Int) (p : List Int) : run ty tab_tm an_tm N Try.f147 [.ptr 0 0, .int .i64 n, .int .i64 m] [.at true (.int .i64 p)]
    = lp_tm1 N N (st_tm1 n m 0 p) (kt_tm1 N (kEnd Try.f147 1)) := by
  kernel_rfl
theorem step_tm1 {R : Type} (N M : Nat) (K : X → St → Option R) (n1 : Int) (times2 : Int) (t10 : Int) (l0 : List Int) : lp_tm1 N (M + 1) (st_tm1 n1 times2 t10 l0) K
    = (match decide ((t10 : Int) < 6) with | true => (match decide (0 ≤ (t10 : Int) ∧ (t10 : Int) < 6) with | true => (match [2, 3, 5, 7, 11, 13][0 + (t10).toNat * 1]? with | some e1 => lp_tm3 N N (st_tm3 n1 times2 e1 t10 l0) (kt_tm3 N (bk_tm1 N M K)) | none => none) | false => none) | false => K (.exit 0) (en_tm1_0 l0)) := by
  kernel_rfl
theorem step_tm3 {R : Type} (N M : Nat) (K : X → St → Option R) (n1 : Int) (times2 : Int) (q7 : Int) (t10 : Int) (l0 : List Int) : lp_tm3 N (M + 1) (st_tm3 n1 times2 q7 t10 l0) K
    = (match decide (q7 = 0) with | true => none | false => (match (Int.tmod n1 q7) == 0 with | true => (match decide (0 ≤ (q7 : Int) ∧ (q7 : Int) < 14) with | true => (match l0[0 + (q7).toNat * 1]? with | some e1 => (match decide (0 ≤ (q7 : Int) ∧ (q7 : Int) < 14) with | true => (match decide (0 + (q7).toNat * 1 < l0.length) with | true => (match decide (q7 = 0) with | true => none | false => lp_tm3 N M (st_tm3 (IntKind.i64.wrap (Int.tdiv n1 q7)) times2 q7 t10 (l0.set (0 + (q7).toNat * 1) (IntKind.i64.wrap (e1 + times2)))) K) | false => none) | false => none) | none => none) | false => none) | false => K (.exit 2) (en_tm3_0 n1 times2 t10 l0))) := by
  kernel_rfl
theorem end_tm3_0 {R : Type} (N M : Nat) (K : X → St → Option R) (n1 : Int) (times2 : Int) (t10 : Int) (l0 : List Int) : kt_tm3 N (bk_tm1 N M K) (.exit 2) (en_tm3_0 n1 times2 t10 l0)
    = lp_tm1 N M (st_tm1 n1 times2 (IntKind.i64.wrap (t10 + 1)) l0) K := by
  kernel_rfl
theorem end_tm1_0 (N : Nat) (l0 : List Int) : kt_tm1 N (kEnd Try.f147 1) (.exit 0) (en_tm1_0 l0)
    = some (V.no, [.at true (.int .i64 l0)]) := by
  kernel_rfl
noncomputable def ce_tm3_0 (N : Nat) (g : Int → Int → Int → List Int → Option (V × H)) (q0 : List Int → Option (V × H)) (n1 : Int) (times2 : Int) (t10 : Int) (l0 : List Int) : Option (V × H) := (g n1 times2 (IntKind.i64.wrap (t10 + 1)) l0)
noncomputable def mb_tm3 (N : Nat) (k0 : Int → Int → Int → List Int → Option (V × H)) (rq : Int → Int → Int → Int → List Int → Option (V × H)) : Int → Int → Int → Int → List Int → Option (V × H) := fun (n1 : Int) (times2 : Int) (q7 : Int) (t10 : Int) (l0 : List Int) => (match decide (q7 = 0) with | true => none | false => (match (Int.tmod n1 q7) == 0 with | true => (match decide (0 ≤ (q7 : Int) ∧ (q7 : Int) < 14) with | true => (match l0[0 + (q7).toNat * 1]? with | some e1 => (match decide (0 ≤ (q7 : Int) ∧ (q7 : Int) < 14) with | true => (match decide (0 + (q7).toNat * 1 < l0.length) with | true => (match decide (q7 = 0) with | true => none | false => (rq (IntKind.i64.wrap (Int.tdiv n1 q7)) times2 q7 t10 (l0.set (0 + (q7).toNat * 1) (IntKind.i64.wrap (e1 + times2))))) | false => none) | false => none) | none => none) | false => none) | false => (k0 n1 times2 t10 l0)))
noncomputable def mr_tm3 (N : Nat) (k0 : Int → Int → Int → List Int → Option (V × H)) (M : Nat) : Int → Int → Int → Int → List Int → Option (V × H) := Nat.rec (motive := fun _ => Int → Int → Int → Int → List Int → Option (V × H)) (fun (_ : Int) (_ : Int) (_ : Int) (_ : Int) (_ : List Int) => none) (fun _ rq => mb_tm3 N k0 rq) M
theorem mrs_tm3 (N : Nat) (k0 : Int → Int → Int → List Int → Option (V × H)) (M : Nat) (n1 : Int) (times2 : Int) (q7 : Int) (t10 : Int) (l0 : List Int) : mr_tm3 N k0 (M + 1) n1 times2 q7 t10 l0 = mb_tm3 N k0 (mr_tm3 N k0 M) n1 times2 q7 t10 l0 := rfl
theorem H_tm3 (N : Nat) (Mp : Nat) (K : X → St → Option (V × H)) (g : Int → Int → Int → List Int → Option (V × H)) (q0 : List Int → Option (V × H)) (hg : ∀ (n1 : Int) (times2 : Int) (t10 : Int) (l0 : List Int), lp_tm1 N Mp (st_tm1 n1 times2 t10 l0) K = g n1 times2 t10 l0) (hk0 : ∀ (l0 : List Int), K (.exit 0) (en_tm1_0 l0) = q0 l0) : ∀ (M : Nat) (n1 : Int) (times2 : Int) (q7 : Int) (t10 : Int) (l0 : List Int), lp_tm3 N M (st_tm3 n1 times2 q7 t10 l0) (kt_tm3 N (bk_tm1 N Mp K)) = mr_tm3 N (ce_tm3_0 N g q0) M n1 times2 q7 t10 l0 := by
  have he0 : ∀ (n1 : Int) (times2 : Int) (t10 : Int) (l0 : List Int), kt_tm3 N (bk_tm1 N Mp K) (.exit 2) (en_tm3_0 n1 times2 t10 l0) = ce_tm3_0 N g q0 n1 times2 t10 l0 := by
    intro n1 times2 t10 l0
    rw [end_tm3_0]
    unfold ce_tm3_0
    first | (simp only [hg, hk0]; done) | (simp only [hg, hk0]; kernel_rfl) | rfl
  intro M
  induction M with
  | zero => intros; rfl
  | succ M ih =>
    intro n1 times2 q7 t10 l0
    rw [step_tm3]
    rw [mrs_tm3]
    unfold mb_tm3
    first | (simp only [ih, he0]; done) | (simp only [ih, he0]; kernel_rfl) | rfl
noncomputable def ce_tm1_0 (N : Nat) (l0 : List Int) : Option (V × H) := some (V.no, [.at true (.int .i64 l0)])
noncomputable def mb_tm1 (N : Nat) (k0 : List Int → Option (V × H)) (rq : Int → Int → Int → List Int → Option (V × H)) : Int → Int → Int → List Int → Option (V × H) := fun (n1 : Int) (times2 : Int) (t10 : Int) (l0 : List Int) => (match decide ((t10 : Int) < 6) with | true => (match decide (0 ≤ (t10 : Int) ∧ (t10 : Int) < 6) with | true => (match [2, 3, 5, 7, 11, 13][0 + (t10).toNat * 1]? with | some e1 => (mr_tm3 N (ce_tm3_0 N (fun n1 times2 t10 l0 => rq n1 times2 t10 l0) k0) N n1 times2 e1 t10 l0) | none => none) | false => none) | false => (k0 l0))
noncomputable def mr_tm1 (N : Nat) (k0 : List Int → Option (V × H)) (M : Nat) : Int → Int → Int → List Int → Option (V × H) := Nat.rec (motive := fun _ => Int → Int → Int → List Int → Option (V × H)) (fun (_ : Int) (_ : Int) (_ : Int) (_ : List Int) => none) (fun _ rq => mb_tm1 N k0 rq) M
theorem mrs_tm1 (N : Nat) (k0 : List Int → Option (V × H)) (M : Nat) (n1 : Int) (times2 : Int) (t10 : Int) (l0 : List Int) : mr_tm1 N k0 (M + 1) n1 times2 t10 l0 = mb_tm1 N k0 (mr_tm1 N k0 M) n1 times2 t10 l0 := rfl
theorem H_tm1 (N : Nat) : ∀ (M : Nat) (n1 : Int) (times2 : Int) (t10 : Int) (l0 : List Int), lp_tm1 N M (st_tm1 n1 times2 t10 l0) (kt_tm1 N (kEnd Try.f147 1)) = mr_tm1 N (ce_tm1_0 N) M n1 times2 t10 l0 := by
  have he0 : ∀ (l0 : List Int), kt_tm1 N (kEnd Try.f147 1) (.exit 0) (en_tm1_0 l0) = ce_tm1_0 N l0 := by
    intro l0
    rw [end_tm1_0]
    unfold ce_tm1_0
    first | (simp only []; done) | (simp only []; kernel_rfl) | rfl
  intro M
  induction M with
  | zero => intros; rfl
  | succ M ih =>
    intro n1 times2 t10 l0
    rw [step_tm1]
    have hc3 := H_tm3 N M (kt_tm1 N (kEnd Try.f147 1)) (fun n1 times2 t10 l0 => mr_tm1 N (ce_tm1_0 N) M n1 times2 t10 l0) (ce_tm1_0 N) (fun n1 times2 t10 l0 => ih n1 times2 t10 l0) he0
    rw [mrs_tm1]
    unfold mb_tm1
    first | (simp only [ih, he0, hc3 N]; done) | (simp only [ih, he0, hc3 N]; kernel_rfl) | rfl
noncomputable def md_tm (N : Nat) (n : Int) (m : Int) (p : List Int) : Option (V × H) := (mr_tm1 N (ce_tm1_0 N) N n m 0 p)
theorem mdl_tm (N : Nat) (n : Int) (m : Int) (p : List Int) : run ty tab_tm an_tm N Try.f147 [.ptr 0 0, .int .i64 n, .int .i64 m] [.at true (.int .i64 p)] = md_tm N n m p := by
  rw [run_tm]
  unfold md_tm
  first | (simp only [H_tm1 N N]; done) | (simp only [H_tm1 N N]; kernel_rfl) | rfl
noncomputable def tmR (n : Int) (m : Int) (p : List Int) := oL (md_tm 40 n m p)
noncomputable def gTm : GT := fun vs h => match vs, h with | [.ptr 0 0, .int .i64 n, .int .i64 m], [.at true (.int .i64 p)] => .ite (tmR n m p).isSome (.ret (.tup []) [.at true (.int .i64 ((tmR n m p).getD []))]) .no | _, _ => .no
theorem ok_tm : FnT Try.prog 147 gTm := by
  refine fnT tabok_tm Try.func147 rfl rfl an_tm fun vs h v h' e => ⟨40, ?_⟩
  unfold gTm at e
  split at e
  case h_2 => exact (T.no_inv e).elim
  rename_i n m p
  obtain ⟨hd, e⟩ := T.pre_inv e
  obtain ⟨rfl, rfl⟩ := T.ret_inv e
  refine Eq.trans (mdl_tm 40 n m p) ?_
  obtain ⟨z, hz⟩ := Option.isSome_iff_exists.mp hd
  rw [hz]
  exact oL_inv hz
def an_fl : Ann := ⟨fun r => if r = 1 then some ([0, 1, 2, 6], []) else none, fun _ _ => .quiet⟩
def tab_fl : Fns := tabT [(147, gTm)]
theorem tabok_fl : ∀ f, FnT Try.prog f (tab_fl f) := (tabT_cons (k := 147) ok_tm tabT_nil)
def st_fl1 (n1 : Int) (times2 : Int) (i6 : Int) (l0 : List Int) : St := ⟨(.ptr 0 0 :: .int .i64 n1 :: .int .i64 times2 :: .any :: .any :: .any :: .int .i64 i6 :: (anys 9 [])), [.at true (.int .i64 l0)]⟩
abbrev kp_fl1 : Option (List Nat × List Nat) := some ([0, 1, 2, 6], [])
noncomputable def lp_fl1 {R : Type} (N M : Nat) (s : St) (K : X → St → Option R) : Option R := loopH 1 kp_fl1 (fun st K => exec ty tab_fl an_fl N 1 (atOf [true, false, false] Try.f115) st K) M s K
noncomputable def kt_fl1 {R : Type} (N : Nat) (K : X → St → Option R) : X → St → Option R := kBlkR 0 (K)
def en_fl1_0 (l0 : List Int) : St := ⟨(anys 16 []), [.at true (.int .i64 l0)]⟩
theorem run_fl (N : Nat) (n : Int) (m : Int) (p : List Int) : run ty tab_fl an_fl N Try.f115 [.ptr 0 0, .int .i64 n, .int .i64 m] [.at true (.int .i64 p)]
    = lp_fl1 N N (st_fl1 n m 2 p) (kt_fl1 N (kEnd Try.f115 1)) := by
  kernel_rfl
theorem step_fl1 {R : Type} (N M : Nat) (K : X → St → Option R) (n1 : Int) (times2 : Int) (i6 : Int) (l0 : List Int) : lp_fl1 N (M + 1) (st_fl1 n1 times2 i6 l0) K
    = (match decide ((i6 : Int) ≤ n1) with | true => (match (tmR i6 times2 l0).isSome with | true => lp_fl1 N M (st_fl1 n1 times2 (IntKind.i64.wrap (i6 + 1)) ((tmR i6 times2 l0).getD [])) K | false => none) | false => K (.exit 0) (en_fl1_0 l0)) := by
  kernel_rfl
theorem end_fl1_0 (N : Nat) (l0 : List Int) : kt_fl1 N (kEnd Try.f115 1) (.exit 0) (en_fl1_0 l0)
    = some (V.no, [.at true (.int .i64 l0)]) := by
  kernel_rfl
noncomputable def ce_fl1_0 (N : Nat) (l0 : List Int) : Option (V × H) := some (V.no, [.at true (.int .i64 l0)])
noncomputable def mb_fl1 (N : Nat) (k0 : List Int → Option (V × H)) (rq : Int → Int → Int → List Int → Option (V × H)) : Int → Int → Int → List Int → Option (V × H) := fun (n1 : Int) (times2 : Int) (i6 : Int) (l0 : List Int) => (match decide ((i6 : Int) ≤ n1) with | true => (match (tmR i6 times2 l0).isSome with | true => (rq n1 times2 (IntKind.i64.wrap (i6 + 1)) ((tmR i6 times2 l0).getD [])) | false => none) | false => (k0 l0))
noncomputable def mr_fl1 (N : Nat) (k0 : List Int → Option (V × H)) (M : Nat) : Int → Int → Int → List Int → Option (V × H) := Nat.rec (motive := fun _ => Int → Int → Int → List Int → Option (V × H)) (fun (_ : Int) (_ : Int) (_ : Int) (_ : List Int) => none) (fun _ rq => mb_fl1 N k0 rq) M
theorem mrs_fl1 (N : Nat) (k0 : List Int → Option (V × H)) (M : Nat) (n1 : Int) (times2 : Int) (i6 : Int) (l0 : List Int) : mr_fl1 N k0 (M + 1) n1 times2 i6 l0 = mb_fl1 N k0 (mr_fl1 N k0 M) n1 times2 i6 l0 := rfl
theorem H_fl1 (N : Nat) : ∀ (M : Nat) (n1 : Int) (times2 : Int) (i6 : Int) (l0 : List Int), lp_fl1 N M (st_fl1 n1 times2 i6 l0) (kt_fl1 N (kEnd Try.f115 1)) = mr_fl1 N (ce_fl1_0 N) M n1 times2 i6 l0 := by
  have he0 : ∀ (l0 : List Int), kt_fl1 N (kEnd Try.f115 1) (.exit 0) (en_fl1_0 l0) = ce_fl1_0 N l0 := by
    intro l0
    rw [end_fl1_0]
    unfold ce_fl1_0
    first | (simp only []; done) | (simp only []; kernel_rfl) | rfl
  intro M
  induction M with
  | zero => intros; rfl
  | succ M ih =>
    intro n1 times2 i6 l0
    rw [step_fl1]
    rw [mrs_fl1]
    unfold mb_fl1
    first | (simp only [ih, he0]; done) | (simp only [ih, he0]; kernel_rfl) | rfl
noncomputable def md_fl (N : Nat) (n : Int) (m : Int) (p : List Int) : Option (V × H) := (mr_fl1 N (ce_fl1_0 N) N n m 2 p)
theorem mdl_fl (N : Nat) (n : Int) (m : Int) (p : List Int) : run ty tab_fl an_fl N Try.f115 [.ptr 0 0, .int .i64 n, .int .i64 m] [.at true (.int .i64 p)] = md_fl N n m p := by
  rw [run_fl]
  unfold md_fl
  first | (simp only [H_fl1 N N]; done) | (simp only [H_fl1 N N]; kernel_rfl) | rfl
noncomputable def flR (n : Int) (m : Int) (p : List Int) := oL (md_fl 40 n m p)
noncomputable def gFl : GT := fun vs h => match vs, h with | [.ptr 0 0, .int .i64 n, .int .i64 m], [.at true (.int .i64 p)] => .ite (flR n m p).isSome (.ret (.tup []) [.at true (.int .i64 ((flR n m p).getD []))]) .no | _, _ => .no
theorem ok_fl : FnT Try.prog 115 gFl := by
  refine fnT tabok_fl Try.func115 rfl rfl an_fl fun vs h v h' e => ⟨40, ?_⟩
  unfold gFl at e
  split at e
  case h_2 => exact (T.no_inv e).elim
  rename_i n m p
  obtain ⟨hd, e⟩ := T.pre_inv e
  obtain ⟨rfl, rfl⟩ := T.ret_inv e
  refine Eq.trans (mdl_fl 40 n m p) ?_
  obtain ⟨z, hz⟩ := Option.isSome_iff_exists.mp hd
  rw [hz]
  exact oL_inv hz
def an_sq : Ann := ⟨fun r => if r = 9 then some ([0, 1, 7, 24, 25, 26], [0, 1, 7]) else if r = 11 then some ([0, 1, 7, 9, 24, 25, 26], [0, 1, 7, 24, 25, 26]) else if r = 17 then some ([0, 7, 10, 11, 41], [7, 10, 11]) else if r = 20 then some ([0, 7, 10, 11, 12, 13, 41], [0, 7, 10, 11, 12, 41]) else if r = 24 then some ([0, 7, 10, 11, 12, 14, 41], [0, 7, 10, 11, 41]) else none, fun _ _ => .quiet⟩
def tab_sq : Fns := tabT [(147, gTm)]
theorem tabok_sq : ∀ f, FnT Try.prog f (tab_sq f) := (tabT_cons (k := 147) ok_tm tabT_nil)
def st_sq9 (t1 : Int) (t7 : Int) (t26 : Int) (l0 : List Int) : St := ⟨(.ptr 0 0 :: .int .i64 t1 :: .any :: .any :: .any :: .any :: .any :: .int .i64 t7 :: (anys 16 (.sl 1 0 6 :: .int .i64 6 :: .int .i64 t26 :: (anys 47 [])))), [.at true (.int .i64 l0), .at true (.int .i64 [2, 3, 5, 7, 11, 13])]⟩
abbrev kp_sq9 : Option (List Nat × List Nat) := some ([0, 1, 7, 24, 25, 26], [0, 1, 7])
noncomputable def lp_sq9 {R : Type} (N M : Nat) (s : St) (K : X → St → Option R) : Option R := loopH 1 kp_sq9 (fun st K => exec ty tab_sq an_sq N 1 (atOf [true, true, true, true, true, false, true, false, false] Try.f117) st K) M s K
noncomputable def bk_sq9 {R : Type} (N M : Nat) (K : X → St → Option R) : X → St → Option R := fun x st => match x with | .norm => tidyK 1 (kp_sq9.map (·.1)) st fun st => lp_sq9 N M st K | x => tidyK 1 (kp_sq9.map (·.2)) st fun st => K x st
noncomputable def kt_sq9 {R : Type} (N : Nat) (K : X → St → Option R) : X → St → Option R := kBlkR 0 (kSeqR tab_sq an_sq N 1 (atOf [true, true, true, true, true, true] Try.f117) (K))
def st_sq11 (t1 : Int) (t7 : Int) (t9 : Int) (t26 : Int) (l0 : List Int) : St := ⟨(.ptr 0 0 :: .int .i64 t1 :: .any :: .any :: .any :: .any :: .any :: .int .i64 t7 :: .any :: .int .i64 t9 :: (anys 14 (.sl 1 0 6 :: .int .i64 6 :: .int .i64 t26 :: (anys 47 [])))), [.at true (.int .i64 l0), .at true (.int .i64 [2, 3, 5, 7, 11, 13])]⟩
abbrev kp_sq11 : Option (List Nat × List Nat) := some ([0, 1, 7, 9, 24, 25, 26], [0, 1, 7, 24, 25, 26])
noncomputable def lp_sq11 {R : Type} (N M : Nat) (s : St) (K : X → St → Option R) : Option R := loopH 1 kp_sq11 (fun st K => exec ty tab_sq an_sq N 1 (atOf [true, true, true, true, true, false, true, false, false, true, true, false, false, true, false, false] Try.f117) st K) M s K
noncomputable def kt_sq11 {R : Type} (N : Nat) (K : X → St → Option R) : X → St → Option R := kBlkR 2 (kBlkR 1 (kSeqR tab_sq an_sq N 1 (atOf [true, true, true, true, true, false, true, false, false, true, true, true] Try.f117) (K)))
def st_sq17 (t7 : Int) (t10 : Int) (t11 : Int) (t41 : Int) (l0 : List Int) : St := ⟨(.ptr 0 0 :: (anys 6 (.int .i64 t7 :: .any :: .any :: .int .i64 t10 :: .int .i64 t11 :: (anys 29 (.int .i64 t41 :: (anys 32 [])))))), [.at true (.int .i64 l0)]⟩
abbrev kp_sq17 : Option (List Nat × List Nat) := some ([0, 7, 10, 11, 41], [7, 10, 11])
noncomputable def lp_sq17 {R : Type} (N M : Nat) (s : St) (K : X → St → Option R) : Option R := loopH 1 kp_sq17 (fun st K => exec ty tab_sq an_sq N 1 (atOf [true, true, true, true, true, true, true, true, false, true, false, false] Try.f117) st K) M s K
noncomputable def bk_sq17 {R : Type} (N M : Nat) (K : X → St → Option R) : X → St → Option R := fun x st => match x with | .norm => tidyK 1 (kp_sq17.map (·.1)) st fun st => lp_sq17 N M st K | x => tidyK 1 (kp_sq17.map (·.2)) st fun st => K x st
noncomputable def kt_sq17 {R : Type} (N : Nat) (K : X → St → Option R) : X → St → Option R := kBlkR 4 (kSeqR tab_sq an_sq N 1 (atOf [true, true, true, true, true, true, true, true, true] Try.f117) (K))
def st_sq20 (t7 : Int) (t10 : Int) (t11 : Int) (t12 : Int) (t13 : Int) (l0 : List Int) : St := ⟨(.ptr 0 0 :: (anys 6 (.int .i64 t7 :: .any :: .any :: .int .i64 t10 :: .int .i64 t11 :: .int .i64 t12 :: .int .i64 t13 :: (anys 27 (.int .i64 t12 :: (anys 32 [])))))), [.at true (.int .i64 l0)]⟩
abbrev kp_sq20 : Option (List Nat × List Nat) := some ([0, 7, 10, 11, 12, 13, 41], [0, 7, 10, 11, 12, 41])
noncomputable def lp_sq20 {R : Type} (N M : Nat) (s : St) (K : X → St → Option R) : Option R := loopH 1 kp_sq20 (fun st K => exec ty tab_sq an_sq N 1 (atOf [true, true, true, true, true, true, true, true, false, true, false, false, true, true, false, false, true, false, true, false, false] Try.f117) st K) M s K
noncomputable def kt_sq20 {R : Type} (N : Nat) (K : X → St → Option R) : X → St → Option R := kBlkR 6 (kSeqR tab_sq an_sq N 1 (atOf [true, true, true, true, true, true, true, true, false, true, false, false, true, true, false, false, true, true] Try.f117) (kBlkR 5 (kSeqR tab_sq an_sq N 1 (atOf [true, true, true, true, true, true, true, true, false, true, false, false, true, true, true] Try.f117) (K))))
def st_sq24 (t7 : Int) (t10 : Int) (t11 : Int) (t12 : Int) (t14 : Int) (l0 : List Int) : St := ⟨(.ptr 0 0 :: (anys 6 (.int .i64 t7 :: .any :: .any :: .int .i64 t10 :: .int .i64 t11 :: .int .i64 t12 :: .any :: .int .i64 t14 :: (anys 26 (.int .i64 t12 :: (anys 32 [])))))), [.at true (.int .i64 l0)]⟩
abbrev kp_sq24 : Option (List Nat × List Nat) := some ([0, 7, 10, 11, 12, 14, 41], [0, 7, 10, 11, 41])
noncomputable def lp_sq24 {R : Type} (N M : Nat) (s : St) (K : X → St → Option R) : Option R := loopH 1 kp_sq24 (fun st K => exec ty tab_sq an_sq N 1 (atOf [true, true, true, true, true, true, true, true, false, true, false, false, true, true, false, false, true, true, true, false, false] Try.f117) st K) M s K
noncomputable def kt_sq24 {R : Type} (N : Nat) (K : X → St → Option R) : X → St → Option R := kBlkR 8 (kBlkR 5 (kSeqR tab_sq an_sq N 1 (atOf [true, true, true, true, true, true, true, true, false, true, false, false, true, true, true] Try.f117) (K)))
def en_sq11_0 (t1 : Int) (t7 : Int) (t26 : Int) (l0 : List Int) : St := ⟨(.ptr 0 0 :: .int .i64 t1 :: .any :: .any :: .any :: .any :: .any :: .int .i64 t7 :: (anys 16 (.sl 1 0 6 :: .int .i64 6 :: .int .i64 t26 :: (anys 47 [])))), [.at true (.int .i64 l0), .at true (.int .i64 [2, 3, 5, 7, 11, 13])]⟩
def en_sq9_0 (t1 : Int) (t7 : Int) (l0 : List Int) : St := ⟨(.ptr 0 0 :: .int .i64 t1 :: .any :: .any :: .any :: .any :: .any :: .int .i64 t7 :: (anys 66 [])), [.at true (.int .i64 l0)]⟩
def en_sq20_0 (t7 : Int) (t10 : Int) (t11 : Int) (t12 : Int) (l0 : List Int) : St := ⟨(.ptr 0 0 :: (anys 6 (.int .i64 t7 :: .any :: .any :: .int .i64 t10 :: .int .i64 t11 :: .int .i64 t12 :: (anys 28 (.int .i64 t12 :: (anys 32 [])))))), [.at true (.int .i64 l0)]⟩
def en_sq24_0 (t7 : Int) (t10 : Int) (t11 : Int) (t41 : Int) (l0 : List Int) : St := ⟨(.ptr 0 0 :: (anys 6 (.int .i64 t7 :: .any :: .any :: .int .i64 t10 :: .int .i64 t11 :: (anys 29 (.int .i64 t41 :: (anys 32 [])))))), [.at true (.int .i64 l0)]⟩
def en_sq17_0 (t7 : Int) (t10 : Int) (t11 : Int) (l0 : List Int) : St := ⟨(anys 7 (.int .i64 t7 :: .any :: .any :: .int .i64 t10 :: .int .i64 t11 :: (anys 62 []))), [.at true (.int .i64 l0)]⟩
theorem run_sq (N : Nat) (n : Int) (p : List Int) : run ty tab_sq an_sq N Try.f117 [.ptr 0 0, .int .i64 n] [.at true (.int .i64 p)]
    = (match n == 0 with | true => some (.tup [.a (.int .i64 0), .a (.int .i64 0), .a (.int .i64 1)], [.at true (.int .i64 p)]) | false => (match decide ((n : Int) < 0) with | true => (match (tmR (IntKind.i64.wrap (0 - n)) 2 p).isSome with | true => lp_sq9 N N (st_sq9 (IntKind.i64.wrap (0 - n)) (-1) 0 ((tmR (IntKind.i64.wrap (0 - n)) 2 p).getD [])) (kt_sq9 N (kEnd Try.f117 1)) | false => none) | false => (match (tmR n 2 p).isSome with | true => lp_sq9 N N (st_sq9 n 1 0 ((tmR n 2 p).getD [])) (kt_sq9 N (kEnd Try.f117 1)) | false => none))) := by
  kernel_rfl
theorem step_sq9 {R : Type} (N M : Nat) (K : X → St → Option R) (t1 : Int) (t7 : Int) (t26 : Int) (l0 : List Int) : lp_sq9 N (M + 1) (st_sq9 t1 t7 t26 l0) K
    = (match decide ((t26 : Int) < 6) with | true => (match decide (0 ≤ (t26 : Int) ∧ (t26 : Int) < 6) with | true => (match [2, 3, 5, 7, 11, 13][0 + (t26).toNat * 1]? with | some e1 => lp_sq11 N N (st_sq11 t1 t7 e1 t26 l0) (kt_sq11 N (bk_sq9 N M K)) | none => none) | false => none) | false => K (.exit 0) (en_sq9_0 t1 t7 l0)) := by
  kernel_rfl
theorem step_sq11 {R : Type} (N M : Nat) (K : X → St → Option R) (t1 : Int) (t7 : Int) (t9 : Int) (t26 : Int) (l0 : List Int) : lp_sq11 N (M + 1) (st_sq11 t1 t7 t9 t26 l0) K
    = (match decide (t9 = 0) with | true => none | false => (match (Int.tmod t1 t9) == 0 with | true => (match decide (t9 = 0) with | true => none | false => lp_sq11 N M (st_sq11 (IntKind.i64.wrap (Int.tdiv t1 t9)) t7 t9 t26 l0) K) | false => K (.exit 2) (en_sq11_0 t1 t7 t26 l0))) := by
  kernel_rfl
theorem step_sq17 {R : Type} (N M : Nat) (K : X → St → Option R) (t7 : Int) (t10 : Int) (t11 : Int) (t41 : Int) (l0 : List Int) : lp_sq17 N (M + 1) (st_sq17 t7 t10 t11 t41 l0) K
    = (match decide ((t41 : Int) < 14) with | true => (match decide (0 ≤ (t41 : Int) ∧ (t41 : Int) < 14) with | true => (match l0[0 + (t41).toNat * 1]? with | some e1 => lp_sq20 N N (st_sq20 t7 t10 t11 t41 e1 l0) (kt_sq20 N (bk_sq17 N M K)) | none => none) | false => none) | false => K (.exit 4) (en_sq17_0 t7 t10 t11 l0)) := by
  kernel_rfl
theorem step_sq20 {R : Type} (N M : Nat) (K : X → St → Option R) (t7 : Int) (t10 : Int) (t11 : Int) (t12 : Int) (t13 : Int) (l0 : List Int) : lp_sq20 N (M + 1) (st_sq20 t7 t10 t11 t12 t13 l0) K
    = (match decide ((t13 : Int) > 0) with | true => lp_sq20 N M (st_sq20 t7 (IntKind.i64.wrap (t10 * t12)) t11 t12 (IntKind.i64.wrap (t13 - 1)) l0) K | false => K (.exit 6) (en_sq20_0 t7 t10 t11 t12 l0)) := by
  kernel_rfl
theorem step_sq24 {R : Type} (N M : Nat) (K : X → St → Option R) (t7 : Int) (t10 : Int) (t11 : Int) (t12 : Int) (t14 : Int) (l0 : List Int) : lp_sq24 N (M + 1) (st_sq24 t7 t10 t11 t12 t14 l0) K
    = (match decide ((t14 : Int) < 0) with | true => lp_sq24 N M (st_sq24 t7 t10 (IntKind.i64.wrap (t11 * t12)) t12 (IntKind.i64.wrap (t14 + 1)) l0) K | false => K (.exit 8) (en_sq24_0 t7 t10 t11 t12 l0)) := by
  kernel_rfl
theorem end_sq11_0 {R : Type} (N M : Nat) (K : X → St → Option R) (t1 : Int) (t7 : Int) (t26 : Int) (l0 : List Int) : kt_sq11 N (bk_sq9 N M K) (.exit 2) (en_sq11_0 t1 t7 t26 l0)
    = lp_sq9 N M (st_sq9 t1 t7 (IntKind.i64.wrap (t26 + 1)) l0) K := by
  kernel_rfl
theorem end_sq9_0 (N : Nat) (t1 : Int) (t7 : Int) (l0 : List Int) : kt_sq9 N (kEnd Try.f117 1) (.exit 0) (en_sq9_0 t1 t7 l0)
    = lp_sq17 N N (st_sq17 t7 (IntKind.i64.wrap (t1 * t1)) 1 0 l0) (kt_sq17 N (kEnd Try.f117 1)) := by
  kernel_rfl
theorem end_sq20_0 {R : Type} (N M : Nat) (K : X → St → Option R) (t7 : Int) (t10 : Int) (t11 : Int) (t12 : Int) (l0 : List Int) : kt_sq20 N (bk_sq17 N M K) (.exit 6) (en_sq20_0 t7 t10 t11 t12 l0)
    = (match decide (0 ≤ (t12 : Int) ∧ (t12 : Int) < 14) with | true => (match l0[0 + (t12).toNat * 1]? with | some e1 => lp_sq24 N N (st_sq24 t7 t10 t11 t12 e1 l0) (kt_sq24 N (bk_sq17 N M K)) | none => none) | false => none) := by
  kernel_rfl
theorem end_sq24_0 {R : Type} (N M : Nat) (K : X → St → Option R) (t7 : Int) (t10 : Int) (t11 : Int) (t41 : Int) (l0 : List Int) : kt_sq24 N (bk_sq17 N M K) (.exit 8) (en_sq24_0 t7 t10 t11 t41 l0)
    = lp_sq17 N M (st_sq17 t7 t10 t11 (IntKind.i64.wrap (t41 + 1)) l0) K := by
  kernel_rfl
theorem end_sq17_0 (N : Nat) (t7 : Int) (t10 : Int) (t11 : Int) (l0 : List Int) : kt_sq17 N (kEnd Try.f117 1) (.exit 4) (en_sq17_0 t7 t10 t11 l0)
    = some (.tup [.a (.int .i64 t7), .a (.int .i64 t10), .a (.int .i64 t11)], [.at true (.int .i64 l0)]) := by
  kernel_rfl
noncomputable def ce_sq11_0 (N : Nat) (g : Int → Int → Int → List Int → Option (V × H)) (q0 : Int → Int → List Int → Option (V × H)) (t1 : Int) (t7 : Int) (t26 : Int) (l0 : List Int) : Option (V × H) := (g t1 t7 (IntKind.i64.wrap (t26 + 1)) l0)
noncomputable def mb_sq11 (N : Nat) (k0 : Int → Int → Int → List Int → Option (V × H)) (rq : Int → Int → Int → Int → List Int → Option (V × H)) : Int → Int → Int → Int → List Int → Option (V × H) := fun (t1 : Int) (t7 : Int) (t9 : Int) (t26 : Int) (l0 : List Int) => (match decide (t9 = 0) with | true => none | false => (match (Int.tmod t1 t9) == 0 with | true => (match decide (t9 = 0) with | true => none | false => (rq (IntKind.i64.wrap (Int.tdiv t1 t9)) t7 t9 t26 l0)) | false => (k0 t1 t7 t26 l0)))
noncomputable def mr_sq11 (N : Nat) (k0 : Int → Int → Int → List Int → Option (V × H)) (M : Nat) : Int → Int → Int → Int → List Int → Option (V × H) := Nat.rec (motive := fun _ => Int → Int → Int → Int → List Int → Option (V × H)) (fun (_ : Int) (_ : Int) (_ : Int) (_ : Int) (_ : List Int) => none) (fun _ rq => mb_sq11 N k0 rq) M
theorem mrs_sq11 (N : Nat) (k0 : Int → Int → Int → List Int → Option (V × H)) (M : Nat) (t1 : Int) (t7 : Int) (t9 : Int) (t26 : Int) (l0 : List Int) : mr_sq11 N k0 (M + 1) t1 t7 t9 t26 l0 = mb_sq11 N k0 (mr_sq11 N k0 M) t1 t7 t9 t26 l0 := rfl
theorem H_sq11 (N : Nat) (Mp : Nat) (K : X → St → Option (V × H)) (g : Int → Int → Int → List Int → Option (V × H)) (q0 : Int → Int → List Int → Option (V × H)) (hg : ∀ (t1 : Int) (t7 : Int) (t26 : Int) (l0 : List Int), lp_sq9 N Mp (st_sq9 t1 t7 t26 l0) K = g t1 t7 t26 l0) (hk0 : ∀ (t1 : Int) (t7 : Int) (l0 : List Int), K (.exit 0) (en_sq9_0 t1 t7 l0) = q0 t1 t7 l0) : ∀ (M : Nat) (t1 : Int) (t7 : Int) (t9 : Int) (t26 : Int) (l0 : List Int), lp_sq11 N M (st_sq11 t1 t7 t9 t26 l0) (kt_sq11 N (bk_sq9 N Mp K)) = mr_sq11 N (ce_sq11_0 N g q0) M t1 t7 t9 t26 l0 := by
  have he0 : ∀ (t1 : Int) (t7 : Int) (t26 : Int) (l0 : List Int), kt_sq11 N (bk_sq9 N Mp K) (.exit 2) (en_sq11_0 t1 t7 t26 l0) = ce_sq11_0 N g q0 t1 t7 t26 l0 := by
    intro t1 t7 t26 l0
    rw [end_sq11_0]
    unfold ce_sq11_0
    first | (simp only [hg, hk0]; done) | (simp only [hg, hk0]; kernel_rfl) | rfl
  intro M
  induction M with
  | zero => intros; rfl
  | succ M ih =>
    intro t1 t7 t9 t26 l0
    rw [step_sq11]
    rw [mrs_sq11]
    unfold mb_sq11
    first | (simp only [ih, he0]; done) | (simp only [ih, he0]; kernel_rfl) | rfl
noncomputable def ce_sq24_0 (N : Nat) (g : Int → Int → Int → Int → List Int → Option (V × H)) (q0 : Int → Int → Int → List Int → Option (V × H)) (t7 : Int) (t10 : Int) (t11 : Int) (t41 : Int) (l0 : List Int) : Option (V × H) := (g t7 t10 t11 (IntKind.i64.wrap (t41 + 1)) l0)
noncomputable def mb_sq24 (N : Nat) (k0 : Int → Int → Int → Int → List Int → Option (V × H)) (rq : Int → Int → Int → Int → Int → List Int → Option (V × H)) : Int → Int → Int → Int → Int → List Int → Option (V × H) := fun (t7 : Int) (t10 : Int) (t11 : Int) (t12 : Int) (t14 : Int) (l0 : List Int) => (match decide ((t14 : Int) < 0) with | true => (rq t7 t10 (IntKind.i64.wrap (t11 * t12)) t12 (IntKind.i64.wrap (t14 + 1)) l0) | false => (k0 t7 t10 t11 t12 l0))
noncomputable def mr_sq24 (N : Nat) (k0 : Int → Int → Int → Int → List Int → Option (V × H)) (M : Nat) : Int → Int → Int → Int → Int → List Int → Option (V × H) := Nat.rec (motive := fun _ => Int → Int → Int → Int → Int → List Int → Option (V × H)) (fun (_ : Int) (_ : Int) (_ : Int) (_ : Int) (_ : Int) (_ : List Int) => none) (fun _ rq => mb_sq24 N k0 rq) M
theorem mrs_sq24 (N : Nat) (k0 : Int → Int → Int → Int → List Int → Option (V × H)) (M : Nat) (t7 : Int) (t10 : Int) (t11 : Int) (t12 : Int) (t14 : Int) (l0 : List Int) : mr_sq24 N k0 (M + 1) t7 t10 t11 t12 t14 l0 = mb_sq24 N k0 (mr_sq24 N k0 M) t7 t10 t11 t12 t14 l0 := rfl
theorem H_sq24 (N : Nat) (Mp : Nat) (K : X → St → Option (V × H)) (g : Int → Int → Int → Int → List Int → Option (V × H)) (q0 : Int → Int → Int → List Int → Option (V × H)) (hg : ∀ (t7 : Int) (t10 : Int) (t11 : Int) (t41 : Int) (l0 : List Int), lp_sq17 N Mp (st_sq17 t7 t10 t11 t41 l0) K = g t7 t10 t11 t41 l0) (hk0 : ∀ (t7 : Int) (t10 : Int) (t11 : Int) (l0 : List Int), K (.exit 4) (en_sq17_0 t7 t10 t11 l0) = q0 t7 t10 t11 l0) : ∀ (M : Nat) (t7 : Int) (t10 : Int) (t11 : Int) (t12 : Int) (t14 : Int) (l0 : List Int), lp_sq24 N M (st_sq24 t7 t10 t11 t12 t14 l0) (kt_sq24 N (bk_sq17 N Mp K)) = mr_sq24 N (ce_sq24_0 N g q0) M t7 t10 t11 t12 t14 l0 := by
  have he0 : ∀ (t7 : Int) (t10 : Int) (t11 : Int) (t41 : Int) (l0 : List Int), kt_sq24 N (bk_sq17 N Mp K) (.exit 8) (en_sq24_0 t7 t10 t11 t41 l0) = ce_sq24_0 N g q0 t7 t10 t11 t41 l0 := by
    intro t7 t10 t11 t41 l0
    rw [end_sq24_0]
    unfold ce_sq24_0
    first | (simp only [hg, hk0]; done) | (simp only [hg, hk0]; kernel_rfl) | rfl
  intro M
  induction M with
  | zero => intros; rfl
  | succ M ih =>
    intro t7 t10 t11 t12 t14 l0
    rw [step_sq24]
    rw [mrs_sq24]
    unfold mb_sq24
    first | (simp only [ih, he0]; done) | (simp only [ih, he0]; kernel_rfl) | rfl
noncomputable def ce_sq20_0 (N : Nat) (g : Int → Int → Int → Int → List Int → Option (V × H)) (q0 : Int → Int → Int → List Int → Option (V × H)) (t7 : Int) (t10 : Int) (t11 : Int) (t12 : Int) (l0 : List Int) : Option (V × H) := (match decide (0 ≤ (t12 : Int) ∧ (t12 : Int) < 14) with | true => (match l0[0 + (t12).toNat * 1]? with | some e1 => (mr_sq24 N (ce_sq24_0 N g q0) N t7 t10 t11 t12 e1 l0) | none => none) | false => none)
noncomputable def mb_sq20 (N : Nat) (k0 : Int → Int → Int → Int → List Int → Option (V × H)) (rq : Int → Int → Int → Int → Int → List Int → Option (V × H)) : Int → Int → Int → Int → Int → List Int → Option (V × H) := fun (t7 : Int) (t10 : Int) (t11 : Int) (t12 : Int) (t13 : Int) (l0 : List Int) => (match decide ((t13 : Int) > 0) with | true => (rq t7 (IntKind.i64.wrap (t10 * t12)) t11 t12 (IntKind.i64.wrap (t13 - 1)) l0) | false => (k0 t7 t10 t11 t12 l0))
noncomputable def mr_sq20 (N : Nat) (k0 : Int → Int → Int → Int → List Int → Option (V × H)) (M : Nat) : Int → Int → Int → Int → Int → List Int → Option (V × H) := Nat.rec (motive := fun _ => Int → Int → Int → Int → Int → List Int → Option (V × H)) (fun (_ : Int) (_ : Int) (_ : Int) (_ : Int) (_ : Int) (_ : List Int) => none) (fun _ rq => mb_sq20 N k0 rq) M
theorem mrs_sq20 (N : Nat) (k0 : Int → Int → Int → Int → List Int → Option (V × H)) (M : Nat) (t7 : Int) (t10 : Int) (t11 : Int) (t12 : Int) (t13 : Int) (l0 : List Int) : mr_sq20 N k0 (M + 1) t7 t10 t11 t12 t13 l0 = mb_sq20 N k0 (mr_sq20 N k0 M) t7 t10 t11 t12 t13 l0 := rfl
theorem H_sq20 (N : Nat) (Mp : Nat) (K : X → St → Option (V × H)) (g : Int → Int → Int → Int → List Int → Option (V × H)) (q0 : Int → Int → Int → List Int → Option (V × H)) (hg : ∀ (t7 : Int) (t10 : Int) (t11 : Int) (t41 : Int) (l0 : List Int), lp_sq17 N Mp (st_sq17 t7 t10 t11 t41 l0) K = g t7 t10 t11 t41 l0) (hk0 : ∀ (t7 : Int) (t10 : Int) (t11 : Int) (l0 : List Int), K (.exit 4) (en_sq17_0 t7 t10 t11 l0) = q0 t7 t10 t11 l0) : ∀ (M : Nat) (t7 : Int) (t10 : Int) (t11 : Int) (t12 : Int) (t13 : Int) (l0 : List Int), lp_sq20 N M (st_sq20 t7 t10 t11 t12 t13 l0) (kt_sq20 N (bk_sq17 N Mp K)) = mr_sq20 N (ce_sq20_0 N g q0) M t7 t10 t11 t12 t13 l0 := by
  have he0 : ∀ (t7 : Int) (t10 : Int) (t11 : Int) (t12 : Int) (l0 : List Int), kt_sq20 N (bk_sq17 N Mp K) (.exit 6) (en_sq20_0 t7 t10 t11 t12 l0) = ce_sq20_0 N g q0 t7 t10 t11 t12 l0 := by
    intro t7 t10 t11 t12 l0
    rw [end_sq20_0]
    unfold ce_sq20_0
    first | (simp only [hg, hk0, H_sq24 N Mp K g q0 hg hk0 N]; done) | (simp only [hg, hk0, H_sq24 N Mp K g q0 hg hk0 N]; kernel_rfl) | rfl
  intro M
  induction M with
  | zero => intros; rfl
  | succ M ih =>
    intro t7 t10 t11 t12 t13 l0
    rw [step_sq20]
    rw [mrs_sq20]
    unfold mb_sq20
    first | (simp only [ih, he0]; done) | (simp only [ih, he0]; kernel_rfl) | rfl
noncomputable def ce_sq17_0 (N : Nat) (t7 : Int) (t10 : Int) (t11 : Int) (l0 : List Int) : Option (V × H) := some (.tup [.a (.int .i64 t7), .a (.int .i64 t10), .a (.int .i64 t11)], [.at true (.int .i64 l0)])
noncomputable def mb_sq17 (N : Nat) (k0 : Int → Int → Int → List Int → Option (V × H)) (rq : Int → Int → Int → Int → List Int → Option (V × H)) : Int → Int → Int → Int → List Int → Option (V × H) := fun (t7 : Int) (t10 : Int) (t11 : Int) (t41 : Int) (l0 : List Int) => (match decide ((t41 : Int) < 14) with | true => (match decide (0 ≤ (t41 : Int) ∧ (t41 : Int) < 14) with | true => (match l0[0 + (t41).toNat * 1]? with | some e1 => (mr_sq20 N (ce_sq20_0 N (fun t7 t10 t11 t41 l0 => rq t7 t10 t11 t41 l0) k0) N t7 t10 t11 t41 e1 l0) | none => none) | false => none) | false => (k0 t7 t10 t11 l0))
noncomputable def mr_sq17 (N : Nat) (k0 : Int → Int → Int → List Int → Option (V × H)) (M : Nat) : Int → Int → Int → Int → List Int → Option (V × H) := Nat.rec (motive := fun _ => Int → Int → Int → Int → List Int → Option (V × H)) (fun (_ : Int) (_ : Int) (_ : Int) (_ : Int) (_ : List Int) => none) (fun _ rq => mb_sq17 N k0 rq) M
theorem mrs_sq17 (N : Nat) (k0 : Int → Int → Int → List Int → Option (V × H)) (M : Nat) (t7 : Int) (t10 : Int) (t11 : Int) (t41 : Int) (l0 : List Int) : mr_sq17 N k0 (M + 1) t7 t10 t11 t41 l0 = mb_sq17 N k0 (mr_sq17 N k0 M) t7 t10 t11 t41 l0 := rfl
theorem H_sq17 (N : Nat) : ∀ (M : Nat) (t7 : Int) (t10 : Int) (t11 : Int) (t41 : Int) (l0 : List Int), lp_sq17 N M (st_sq17 t7 t10 t11 t41 l0) (kt_sq17 N (kEnd Try.f117 1)) = mr_sq17 N (ce_sq17_0 N) M t7 t10 t11 t41 l0 := by
  have he0 : ∀ (t7 : Int) (t10 : Int) (t11 : Int) (l0 : List Int), kt_sq17 N (kEnd Try.f117 1) (.exit 4) (en_sq17_0 t7 t10 t11 l0) = ce_sq17_0 N t7 t10 t11 l0 := by
    intro t7 t10 t11 l0
    rw [end_sq17_0]
    unfold ce_sq17_0
    first | (simp only []; done) | (simp only []; kernel_rfl) | rfl
  intro M
  induction M with
  | zero => intros; rfl
  | succ M ih =>
    intro t7 t10 t11 t41 l0
    rw [step_sq17]
    have hc20 := H_sq20 N M (kt_sq17 N (kEnd Try.f117 1)) (fun t7 t10 t11 t41 l0 => mr_sq17 N (ce_sq17_0 N) M t7 t10 t11 t41 l0) (ce_sq17_0 N) (fun t7 t10 t11 t41 l0 => ih t7 t10 t11 t41 l0) he0
    rw [mrs_sq17]
    unfold mb_sq17
    first | (simp only [ih, he0, hc20 N]; done) | (simp only [ih, he0, hc20 N]; kernel_rfl) | rfl
noncomputable def ce_sq9_0 (N : Nat) (t1 : Int) (t7 : Int) (l0 : List Int) : Option (V × H) := (mr_sq17 N (ce_sq17_0 N) N t7 (IntKind.i64.wrap (t1 * t1)) 1 0 l0)
noncomputable def mb_sq9 (N : Nat) (k0 : Int → Int → List Int → Option (V × H)) (rq : Int → Int → Int → List Int → Option (V × H)) : Int → Int → Int → List Int → Option (V × H) := fun (t1 : Int) (t7 : Int) (t26 : Int) (l0 : List Int) => (match decide ((t26 : Int) < 6) with | true => (match decide (0 ≤ (t26 : Int) ∧ (t26 : Int) < 6) with | true => (match [2, 3, 5, 7, 11, 13][0 + (t26).toNat * 1]? with | some e1 => (mr_sq11 N (ce_sq11_0 N (fun t1 t7 t26 l0 => rq t1 t7 t26 l0) k0) N t1 t7 e1 t26 l0) | none => none) | false => none) | false => (k0 t1 t7 l0))
noncomputable def mr_sq9 (N : Nat) (k0 : Int → Int → List Int → Option (V × H)) (M : Nat) : Int → Int → Int → List Int → Option (V × H) := Nat.rec (motive := fun _ => Int → Int → Int → List Int → Option (V × H)) (fun (_ : Int) (_ : Int) (_ : Int) (_ : List Int) => none) (fun _ rq => mb_sq9 N k0 rq) M
theorem mrs_sq9 (N : Nat) (k0 : Int → Int → List Int → Option (V × H)) (M : Nat) (t1 : Int) (t7 : Int) (t26 : Int) (l0 : List Int) : mr_sq9 N k0 (M + 1) t1 t7 t26 l0 = mb_sq9 N k0 (mr_sq9 N k0 M) t1 t7 t26 l0 := rfl
theorem H_sq9 (N : Nat) : ∀ (M : Nat) (t1 : Int) (t7 : Int) (t26 : Int) (l0 : List Int), lp_sq9 N M (st_sq9 t1 t7 t26 l0) (kt_sq9 N (kEnd Try.f117 1)) = mr_sq9 N (ce_sq9_0 N) M t1 t7 t26 l0 := by
  have he0 : ∀ (t1 : Int) (t7 : Int) (l0 : List Int), kt_sq9 N (kEnd Try.f117 1) (.exit 0) (en_sq9_0 t1 t7 l0) = ce_sq9_0 N t1 t7 l0 := by
    intro t1 t7 l0
    rw [end_sq9_0]
    unfold ce_sq9_0
    first | (simp only [H_sq17 N N]; done) | (simp only [H_sq17 N N]; kernel_rfl) | rfl
  intro M
  induction M with
  | zero => intros; rfl
  | succ M ih =>
    intro t1 t7 t26 l0
    rw [step_sq9]
    have hc11 := H_sq11 N M (kt_sq9 N (kEnd Try.f117 1)) (fun t1 t7 t26 l0 => mr_sq9 N (ce_sq9_0 N) M t1 t7 t26 l0) (ce_sq9_0 N) (fun t1 t7 t26 l0 => ih t1 t7 t26 l0) he0
    rw [mrs_sq9]
    unfold mb_sq9
    first | (simp only [ih, he0, hc11 N]; done) | (simp only [ih, he0, hc11 N]; kernel_rfl) | rfl
noncomputable def md_sq (N : Nat) (n : Int) (p : List Int) : Option (V × H) := (match n == 0 with | true => some (.tup [.a (.int .i64 0), .a (.int .i64 0), .a (.int .i64 1)], [.at true (.int .i64 p)]) | false => (match decide ((n : Int) < 0) with | true => (match (tmR (IntKind.i64.wrap (0 - n)) 2 p).isSome with | true => (mr_sq9 N (ce_sq9_0 N) N (IntKind.i64.wrap (0 - n)) (-1) 0 ((tmR (IntKind.i64.wrap (0 - n)) 2 p).getD [])) | false => none) | false => (match (tmR n 2 p).isSome with | true => (mr_sq9 N (ce_sq9_0 N) N n 1 0 ((tmR n 2 p).getD [])) | false => none)))
theorem mdl_sq (N : Nat) (n : Int) (p : List Int) : run ty tab_sq an_sq N Try.f117 [.ptr 0 0, .int .i64 n] [.at true (.int .i64 p)] = md_sq N n p := by
  rw [run_sq]
  unfold md_sq
  first | (simp only [H_sq9 N N]; done) | (simp only [H_sq9 N N]; kernel_rfl) | rfl
noncomputable def sqR (n : Int) (p : List Int) := oS (md_sq 60 n p)
noncomputable def gSq : GT := fun vs h => match vs, h with | [.ptr 0 0, .int .i64 n], [.at true (.int .i64 p)] => .ite (sqR n p).isSome (.ret (.tup [.a (.int .i64 ((sqR n p).getD (0, 0, 0, [])).1), .a (.int .i64 ((sqR n p).getD (0, 0, 0, [])).2.1), .a (.int .i64 ((sqR n p).getD (0, 0, 0, [])).2.2.1)]) [.at true (.int .i64 ((sqR n p).getD (0, 0, 0, [])).2.2.2)]) .no | _, _ => .no
theorem ok_sq : FnT Try.prog 117 gSq := by
  refine fnT tabok_sq Try.func117 rfl rfl an_sq fun vs h v h' e => ⟨60, ?_⟩
  unfold gSq at e
  split at e
  case h_2 => exact (T.no_inv e).elim
  rename_i n p
  obtain ⟨hd, e⟩ := T.pre_inv e
  obtain ⟨rfl, rfl⟩ := T.ret_inv e
  refine Eq.trans (mdl_sq 60 n p) ?_
  obtain ⟨z, hz⟩ := Option.isSome_iff_exists.mp hd
  rw [hz]
  exact oS_inv hz
def an_jn : Ann := ⟨fun r => if r = 5 then some ([0, 1, 2, 3, 4, 13, 14, 15, 16], [0, 1, 2, 3, 4, 13, 15]) else if r = 14 then some ([0, 2, 4, 15, 18, 100, 101, 102], [0, 2, 4, 15, 18]) else if r = 19 then some ([15, 18, 132, 133, 134], [15, 18]) else none, fun _ _ => .quiet⟩
def tab_jn : Fns := tabT [(146, gS3), (147, gTm), (115, gFl), (117, gSq)]
theorem tabok_jn : ∀ f, FnT Try.prog f (tab_jn f) := (tabT_cons (k := 146) ok_s3 (tabT_cons (k := 147) ok_tm (tabT_cons (k := 115) ok_fl (tabT_cons (k := 117) ok_sq tabT_nil))))
def st_jn5 (t0 : Int) (t1 : Int) (t2 : Int) (t3 : Int) (t4 : Int) (t13 : Int) (t14 : Int) (t15 : Int) (t16 : Int) : St := ⟨(.int .i64 t0 :: .int .i64 t1 :: .int .i64 t2 :: .int .i64 t3 :: .int .i64 t4 :: (anys 8 (.int .i64 t13 :: .int .i64 t14 :: .int .i64 t15 :: .int .i64 t16 :: (anys 132 [])))), []⟩
abbrev kp_jn5 : Option (List Nat × List Nat) := some ([0, 1, 2, 3, 4, 13, 14, 15, 16], [0, 1, 2, 3, 4, 13, 15])
noncomputable def lp_jn5 {R : Type} (N M : Nat) (s : St) (K : X → St → Option R) : Option R := loopH 0 kp_jn5 (fun st K => exec ty tab_jn an_jn N 0 (atOf [true, true, true, true, false, true, false, false] Try.f91) st K) M s K
noncomputable def kt_jn5 {R : Type} (N : Nat) (K : X → St → Option R) : X → St → Option R := kBlkR 0 (kSeqR tab_jn an_jn N 0 (atOf [true, true, true, true, true] Try.f91) (K))
def st_jn14 (t0 : Int) (t2 : Int) (t4 : Int) (t15 : Int) (t102 : Int) (l0 : List Int) (b1_0 : Int) (b1_1 : Int) (b1_2 : Int) (b1_3 : Int) (b1_4 : Int) (b1_5 : Int) : St := ⟨(.int .i64 t0 :: .any :: .int .i64 t2 :: .any :: .int .i64 t4 :: (anys 10 (.int .i64 t15 :: .any :: .any :: .ptr 0 0 :: (anys 81 (.sl 1 0 6 :: .int .i64 6 :: .int .i64 t102 :: (anys 46 [])))))), [.at true (.int .i64 l0), .at true (.int .i64 [b1_0, b1_1, b1_2, b1_3, b1_4, b1_5])]⟩
abbrev kp_jn14 : Option (List Nat × List Nat) := some ([0, 2, 4, 15, 18, 100, 101, 102], [0, 2, 4, 15, 18])
noncomputable def lp_jn14 {R : Type} (N M : Nat) (s : St) (K : X → St → Option R) : Option R := loopH 0 kp_jn14 (fun st K => exec ty tab_jn an_jn N 0 (atOf [true, true, true, true, true, true, true, false, true, false, false] Try.f91) st K) M s K
noncomputable def kt_jn14 {R : Type} (N : Nat) (K : X → St → Option R) : X → St → Option R := kBlkR 2 (kSeqR tab_jn an_jn N 0 (atOf [true, true, true, true, true, true, true, true] Try.f91) (K))
def st_jn19 (t15 : Int) (t134 : Int) (l0 : List Int) (b1_0 : Int) (b1_1 : Int) (b1_2 : Int) (b1_3 : Int) : St := ⟨(anys 15 (.int .i64 t15 :: .any :: .any :: .ptr 0 0 :: (anys 113 (.sl 1 0 4 :: .int .i64 4 :: .int .i64 t134 :: (anys 14 []))))), [.at true (.int .i64 l0), .at true (.int .i64 [b1_0, b1_1, b1_2, b1_3])]⟩
abbrev kp_jn19 : Option (List Nat × List Nat) := some ([15, 18, 132, 133, 134], [15, 18])
noncomputable def lp_jn19 {R : Type} (N M : Nat) (s : St) (K : X → St → Option R) : Option R := loopH 0 kp_jn19 (fun st K => exec ty tab_jn an_jn N 0 (atOf [true, true, true, true, true, true, true, true, false, true, false, false] Try.f91) st K) M s K
noncomputable def kt_jn19 {R : Type} (N : Nat) (K : X → St → Option R) : X → St → Option R := kBlkR 4 (kSeqR tab_jn an_jn N 0 (atOf [true, true, true, true, true, true, true, true, true] Try.f91) (K))
def en_jn5_0 (t0 : Int) (t1 : Int) (t2 : Int) (t3 : Int) (t4 : Int) (t13 : Int) (t15 : Int) : St := ⟨(.int .i64 t0 :: .int .i64 t1 :: .int .i64 t2 :: .int .i64 t3 :: .int .i64 t4 :: (anys 8 (.int .i64 t13 :: .any :: .int .i64 t15 :: (anys 133 [])))), []⟩
def en_jn14_0 (t0 : Int) (t2 : Int) (t4 : Int) (t15 : Int) (l0 : List Int) : St := ⟨(.int .i64 t0 :: .any :: .int .i64 t2 :: .any :: .int .i64 t4 :: (anys 10 (.int .i64 t15 :: .any :: .any :: .ptr 0 0 :: (anys 130 [])))), [.at true (.int .i64 l0)]⟩
def en_jn19_0 (t15 : Int) (l0 : List Int) : St := ⟨(anys 15 (.int .i64 t15 :: .any :: .any :: .ptr 0 0 :: (anys 130 []))), [.at true (.int .i64 l0)]⟩
theorem run_jn (N : Nat) (a : Int) (x : Int) (b : Int) (y : Int) (c : Int) : run ty tab_jn an_jn N Try.f91 [.int .i64 a, .int .i64 x, .int .i64 b, .int .i64 y, .int .i64 c] []
    = lp_jn5 N N (st_jn5 a x b y c (IntKind.i64.wrap (x + y)) (IntKind.i64.wrap (Int.tdiv (IntKind.i64.wrap ((IntKind.i64.wrap (a + b)) - c)) 2)) 0 0) (kt_jn5 N (kEnd Try.f91 0)) := by
  kernel_rfl
theorem step_jn5 {R : Type} (N M : Nat) (K : X → St → Option R) (t0 : Int) (t1 : Int) (t2 : Int) (t3 : Int) (t4 : Int) (t13 : Int) (t14 : Int) (t15 : Int) (t16 : Int) : lp_jn5 N (M + 1) (st_jn5 t0 t1 t2 t3 t4 t13 t14 t15 t16) K
    = (match decide ((t16 : Int) ≤ t14) with | true => (match (s3R t14 t16).isSome with | true => (match (s3R (IntKind.i64.wrap (Int.tdiv (IntKind.i64.wrap ((IntKind.i64.wrap (t4 + t0)) - t2)) 2)) (IntKind.i64.wrap ((IntKind.i64.wrap (Int.tdiv (IntKind.i64.wrap (t0 - t1)) 2)) - t16))).isSome with | true => (match (s3R (IntKind.i64.wrap (Int.tdiv (IntKind.i64.wrap ((IntKind.i64.wrap (t4 + t2)) - t0)) 2)) (IntKind.i64.wrap ((IntKind.i64.wrap (Int.tdiv (IntKind.i64.wrap (t2 + t3)) 2)) - t16))).isSome with | true => (match (Int.tmod t16 2) == 1 with | true => lp_jn5 N M (st_jn5 t0 t1 t2 t3 t4 t13 t14 (IntKind.i64.wrap (t15 + (IntKind.i64.wrap (0 - (IntKind.i64.wrap ((IntKind.i64.wrap (((s3R t14 t16).getD 0) * ((s3R (IntKind.i64.wrap (Int.tdiv (IntKind.i64.wrap ((IntKind.i64.wrap (t4 + t0)) - t2)) 2)) (IntKind.i64.wrap ((IntKind.i64.wrap (Int.tdiv (IntKind.i64.wrap (t0 - t1)) 2)) - t16))).getD 0))) * ((s3R (IntKind.i64.wrap (Int.tdiv (IntKind.i64.wrap ((IntKind.i64.wrap (t4 + t2)) - t0)) 2)) (IntKind.i64.wrap ((IntKind.i64.wrap (Int.tdiv (IntKind.i64.wrap (t2 + t3)) 2)) - t16))).getD 0))))))) (IntKind.i64.wrap (t16 + 1))) K | false => lp_jn5 N M (st_jn5 t0 t1 t2 t3 t4 t13 t14 (IntKind.i64.wrap (t15 + (IntKind.i64.wrap ((IntKind.i64.wrap (((s3R t14 t16).getD 0) * ((s3R (IntKind.i64.wrap (Int.tdiv (IntKind.i64.wrap ((IntKind.i64.wrap (t4 + t0)) - t2)) 2)) (IntKind.i64.wrap ((IntKind.i64.wrap (Int.tdiv (IntKind.i64.wrap (t0 - t1)) 2)) - t16))).getD 0))) * ((s3R (IntKind.i64.wrap (Int.tdiv (IntKind.i64.wrap ((IntKind.i64.wrap (t4 + t2)) - t0)) 2)) (IntKind.i64.wrap ((IntKind.i64.wrap (Int.tdiv (IntKind.i64.wrap (t2 + t3)) 2)) - t16))).getD 0))))) (IntKind.i64.wrap (t16 + 1))) K) | false => none) | false => none) | false => none) | false => K (.exit 0) (en_jn5_0 t0 t1 t2 t3 t4 t13 t15)) := by
  kernel_rfl
theorem step_jn14 {R : Type} (N M : Nat) (K : X → St → Option R) (t0 : Int) (t2 : Int) (t4 : Int) (t15 : Int) (t102 : Int) (l0 : List Int) (b1_0 : Int) (b1_1 : Int) (b1_2 : Int) (b1_3 : Int) (b1_4 : Int) (b1_5 : Int) : lp_jn14 N (M + 1) (st_jn14 t0 t2 t4 t15 t102 l0 b1_0 b1_1 b1_2 b1_3 b1_4 b1_5) K
    = (match decide ((t102 : Int) < 6) with | true => (match decide (0 ≤ (t102 : Int) ∧ (t102 : Int) < 6) with | true => (match [b1_0, b1_1, b1_2, b1_3, b1_4, b1_5][0 + (t102).toNat * 1]? with | some e1 => (match (flR (IntKind.i64.wrap (Int.tdiv e1 2)) 1 l0).isSome with | true => lp_jn14 N M (st_jn14 t0 t2 t4 t15 (IntKind.i64.wrap (t102 + 1)) ((flR (IntKind.i64.wrap (Int.tdiv e1 2)) 1 l0).getD []) b1_0 b1_1 b1_2 b1_3 b1_4 b1_5) K | false => none) | none => none) | false => none) | false => K (.exit 2) (en_jn14_0 t0 t2 t4 t15 l0)) := by
  kernel_rfl
theorem step_jn19 {R : Type} (N M : Nat) (K : X → St → Option R) (t15 : Int) (t134 : Int) (l0 : List Int) (b1_0 : Int) (b1_1 : Int) (b1_2 : Int) (b1_3 : Int) : lp_jn19 N (M + 1) (st_jn19 t15 t134 l0 b1_0 b1_1 b1_2 b1_3) K
    = (match decide ((t134 : Int) < 4) with | true => (match decide (0 ≤ (t134 : Int) ∧ (t134 : Int) < 4) with | true => (match [b1_0, b1_1, b1_2, b1_3][0 + (t134).toNat * 1]? with | some e1 => (match (flR (IntKind.i64.wrap (Int.tdiv e1 2)) (-1) l0).isSome with | true => lp_jn19 N M (st_jn19 t15 (IntKind.i64.wrap (t134 + 1)) ((flR (IntKind.i64.wrap (Int.tdiv e1 2)) (-1) l0).getD []) b1_0 b1_1 b1_2 b1_3) K | false => none) | none => none) | false => none) | false => K (.exit 4) (en_jn19_0 t15 l0)) := by
  kernel_rfl
theorem end_jn5_0 (N : Nat) (t0 : Int) (t1 : Int) (t2 : Int) (t3 : Int) (t4 : Int) (t13 : Int) (t15 : Int) : kt_jn5 N (kEnd Try.f91 0) (.exit 0) (en_jn5_0 t0 t1 t2 t3 t4 t13 t15)
    = (match (tmR (IntKind.i64.wrap (t4 + 1)) 1 [0, 0, 0, 0, 0, 0, 0, 0, 0, 0, 0, 0, 0, 0]).isSome with | true => lp_jn14 N N (st_jn14 t0 t2 t4 t15 0 ((tmR (IntKind.i64.wrap (t4 + 1)) 1 [0, 0, 0, 0, 0, 0, 0, 0, 0, 0, 0, 0, 0, 0]).getD []) (IntKind.i64.wrap (t0 + t1)) (IntKind.i64.wrap (t0 - t1)) (IntKind.i64.wrap (t2 + t3)) (IntKind.i64.wrap (t2 - t3)) (IntKind.i64.wrap (t4 + t13)) (IntKind.i64.wrap (t4 - t13))) (kt_jn14 N (kEnd Try.f91 0)) | false => none) := by
  kernel_rfl
theorem end_jn14_0 (N : Nat) (t0 : Int) (t2 : Int) (t4 : Int) (t15 : Int) (l0 : List Int) : kt_jn14 N (kEnd Try.f91 0) (.exit 2) (en_jn14_0 t0 t2 t4 t15 l0)
    = lp_jn19 N N (st_jn19 t15 0 l0 (IntKind.i64.wrap ((IntKind.i64.wrap ((IntKind.i64.wrap (t0 + t2)) + t4)) + 2)) (IntKind.i64.wrap ((IntKind.i64.wrap (t0 + t2)) - t4)) (IntKind.i64.wrap ((IntKind.i64.wrap (t4 + t0)) - t2)) (IntKind.i64.wrap ((IntKind.i64.wrap (t4 + t2)) - t0))) (kt_jn19 N (kEnd Try.f91 0)) := by
  kernel_rfl
theorem end_jn19_0 (N : Nat) (t15 : Int) (l0 : List Int) : kt_jn19 N (kEnd Try.f91 0) (.exit 4) (en_jn19_0 t15 l0)
    = (match (sqR t15 l0).isSome with | true => some (.tup [.a (.int .i64 (((sqR t15 l0).getD (0, 0, 0, [])).1)), .a (.int .i64 (((sqR t15 l0).getD (0, 0, 0, [])).2.1)), .a (.int .i64 (((sqR t15 l0).getD (0, 0, 0, [])).2.2.1))], []) | false => none) := by
  kernel_rfl
noncomputable def ce_jn19_0 (N : Nat) (t15 : Int) (l0 : List Int) : Option (V × H) := (match (sqR t15 l0).isSome with | true => some (.tup [.a (.int .i64 (((sqR t15 l0).getD (0, 0, 0, [])).1)), .a (.int .i64 (((sqR t15 l0).getD (0, 0, 0, [])).2.1)), .a (.int .i64 (((sqR t15 l0).getD (0, 0, 0, [])).2.2.1))], []) | false => none)
noncomputable def mb_jn19 (N : Nat) (k0 : Int → List Int → Option (V × H)) (rq : Int → Int → List Int → Int → Int → Int → Int → Option (V × H)) : Int → Int → List Int → Int → Int → Int → Int → Option (V × H) := fun (t15 : Int) (t134 : Int) (l0 : List Int) (b1_0 : Int) (b1_1 : Int) (b1_2 : Int) (b1_3 : Int) => (match decide ((t134 : Int) < 4) with | true => (match decide (0 ≤ (t134 : Int) ∧ (t134 : Int) < 4) with | true => (match [b1_0, b1_1, b1_2, b1_3][0 + (t134).toNat * 1]? with | some e1 => (match (flR (IntKind.i64.wrap (Int.tdiv e1 2)) (-1) l0).isSome with | true => (rq t15 (IntKind.i64.wrap (t134 + 1)) ((flR (IntKind.i64.wrap (Int.tdiv e1 2)) (-1) l0).getD []) b1_0 b1_1 b1_2 b1_3) | false => none) | none => none) | false => none) | false => (k0 t15 l0))
noncomputable def mr_jn19 (N : Nat) (k0 : Int → List Int → Option (V × H)) (M : Nat) : Int → Int → List Int → Int → Int → Int → Int → Option (V × H) := Nat.rec (motive := fun _ => Int → Int → List Int → Int → Int → Int → Int → Option (V × H)) (fun (_ : Int) (_ : Int) (_ : List Int) (_ : Int) (_ : Int) (_ : Int) (_ : Int) => none) (fun _ rq => mb_jn19 N k0 rq) M
theorem mrs_jn19 (N : Nat) (k0 : Int → List Int → Option (V × H)) (M : Nat) (t15 : Int) (t134 : Int) (l0 : List Int) (b1_0 : Int) (b1_1 : Int) (b1_2 : Int) (b1_3 : Int) : mr_jn19 N k0 (M + 1) t15 t134 l0 b1_0 b1_1 b1_2 b1_3 = mb_jn19 N k0 (mr_jn19 N k0 M) t15 t134 l0 b1_0 b1_1 b1_2 b1_3 := rfl
theorem H_jn19 (N : Nat) : ∀ (M : Nat) (t15 : Int) (t134 : Int) (l0 : List Int) (b1_0 : Int) (b1_1 : Int) (b1_2 : Int) (b1_3 : Int), lp_jn19 N M (st_jn19 t15 t134 l0 b1_0 b1_1 b1_2 b1_3) (kt_jn19 N (kEnd Try.f91 0)) = mr_jn19 N (ce_jn19_0 N) M t15 t134 l0 b1_0 b1_1 b1_2 b1_3 := by
  have he0 : ∀ (t15 : Int) (l0 : List Int), kt_jn19 N (kEnd Try.f91 0) (.exit 4) (en_jn19_0 t15 l0) = ce_jn19_0 N t15 l0 := by
    intro t15 l0
    rw [end_jn19_0]
    unfold ce_jn19_0
    first | (simp only []; done) | (simp only []; kernel_rfl) | rfl
  intro M
  induction M with
  | zero => intros; rfl
  | succ M ih =>
    intro t15 t134 l0 b1_0 b1_1 b1_2 b1_3
    rw [step_jn19]
    rw [mrs_jn19]
    unfold mb_jn19
    first | (simp only [ih, he0]; done) | (simp only [ih, he0]; kernel_rfl) | rfl
noncomputable def ce_jn14_0 (N : Nat) (t0 : Int) (t2 : Int) (t4 : Int) (t15 : Int) (l0 : List Int) : Option (V × H) := (mr_jn19 N (ce_jn19_0 N) N t15 0 l0 (IntKind.i64.wrap ((IntKind.i64.wrap ((IntKind.i64.wrap (t0 + t2)) + t4)) + 2)) (IntKind.i64.wrap ((IntKind.i64.wrap (t0 + t2)) - t4)) (IntKind.i64.wrap ((IntKind.i64.wrap (t4 + t0)) - t2)) (IntKind.i64.wrap ((IntKind.i64.wrap (t4 + t2)) - t0)))
noncomputable def mb_jn14 (N : Nat) (k0 : Int → Int → Int → Int → List Int → Option (V × H)) (rq : Int → Int → Int → Int → Int → List Int → Int → Int → Int → Int → Int → Int → Option (V × H)) : Int → Int → Int → Int → Int → List Int → Int → Int → Int → Int → Int → Int → Option (V × H) := fun (t0 : Int) (t2 : Int) (t4 : Int) (t15 : Int) (t102 : Int) (l0 : List Int) (b1_0 : Int) (b1_1 : Int) (b1_2 : Int) (b1_3 : Int) (b1_4 : Int) (b1_5 : Int) => (match decide ((t102 : Int) < 6) with | true => (match decide (0 ≤ (t102 : Int) ∧ (t102 : Int) < 6) with | true => (match [b1_0, b1_1, b1_2, b1_3, b1_4, b1_5][0 + (t102).toNat * 1]? with | some e1 => (match (flR (IntKind.i64.wrap (Int.tdiv e1 2)) 1 l0).isSome with | true => (rq t0 t2 t4 t15 (IntKind.i64.wrap (t102 + 1)) ((flR (IntKind.i64.wrap (Int.tdiv e1 2)) 1 l0).getD []) b1_0 b1_1 b1_2 b1_3 b1_4 b1_5) | false => none) | none => none) | false => none) | false => (k0 t0 t2 t4 t15 l0))
noncomputable def mr_jn14 (N : Nat) (k0 : Int → Int → Int → Int → List Int → Option (V × H)) (M : Nat) : Int → Int → Int → Int → Int → List Int → Int → Int → Int → Int → Int → Int → Option (V × H) := Nat.rec (motive := fun _ => Int → Int → Int → Int → Int → List Int → Int → Int → Int → Int → Int → Int → Option (V × H)) (fun (_ : Int) (_ : Int) (_ : Int) (_ : Int) (_ : Int) (_ : List Int) (_ : Int) (_ : Int) (_ : Int) (_ : Int) (_ : Int) (_ : Int) => none) (fun _ rq => mb_jn14 N k0 rq) M
theorem mrs_jn14 (N : Nat) (k0 : Int → Int → Int → Int → List Int → Option (V × H)) (M : Nat) (t0 : Int) (t2 : Int) (t4 : Int) (t15 : Int) (t102 : Int) (l0 : List Int) (b1_0 : Int) (b1_1 : Int) (b1_2 : Int) (b1_3 : Int) (b1_4 : Int) (b1_5 : Int) : mr_jn14 N k0 (M + 1) t0 t2 t4 t15 t102 l0 b1_0 b1_1 b1_2 b1_3 b1_4 b1_5 = mb_jn14 N k0 (mr_jn14 N k0 M) t0 t2 t4 t15 t102 l0 b1_0 b1_1 b1_2 b1_3 b1_4 b1_5 := rfl
theorem H_jn14 (N : Nat) : ∀ (M : Nat) (t0 : Int) (t2 : Int) (t4 : Int) (t15 : Int) (t102 : Int) (l0 : List Int) (b1_0 : Int) (b1_1 : Int) (b1_2 : Int) (b1_3 : Int) (b1_4 : Int) (b1_5 : Int), lp_jn14 N M (st_jn14 t0 t2 t4 t15 t102 l0 b1_0 b1_1 b1_2 b1_3 b1_4 b1_5) (kt_jn14 N (kEnd Try.f91 0)) = mr_jn14 N (ce_jn14_0 N) M t0 t2 t4 t15 t102 l0 b1_0 b1_1 b1_2 b1_3 b1_4 b1_5 := by
  have he0 : ∀ (t0 : Int) (t2 : Int) (t4 : Int) (t15 : Int) (l0 : List Int), kt_jn14 N (kEnd Try.f91 0) (.exit 2) (en_jn14_0 t0 t2 t4 t15 l0) = ce_jn14_0 N t0 t2 t4 t15 l0 := by
    intro t0 t2 t4 t15 l0
    rw [end_jn14_0]
    unfold ce_jn14_0
    first | (simp only [H_jn19 N N]; done) | (simp only [H_jn19 N N]; kernel_rfl) | rfl
  intro M
  induction M with
  | zero => intros; rfl
  | succ M ih =>
    intro t0 t2 t4 t15 t102 l0 b1_0 b1_1 b1_2 b1_3 b1_4 b1_5
    rw [step_jn14]
    rw [mrs_jn14]
    unfold mb_jn14
    first | (simp only [ih, he0]; done) | (simp only [ih, he0]; kernel_rfl) | rfl
noncomputable def ce_jn5_0 (N : Nat) (t0 : Int) (t1 : Int) (t2 : Int) (t3 : Int) (t4 : Int) (t13 : Int) (t15 : Int) : Option (V × H) := (match (tmR (IntKind.i64.wrap (t4 + 1)) 1 [0, 0, 0, 0, 0, 0, 0, 0, 0, 0, 0, 0, 0, 0]).isSome with | true => (mr_jn14 N (ce_jn14_0 N) N t0 t2 t4 t15 0 ((tmR (IntKind.i64.wrap (t4 + 1)) 1 [0, 0, 0, 0, 0, 0, 0, 0, 0, 0, 0, 0, 0, 0]).getD []) (IntKind.i64.wrap (t0 + t1)) (IntKind.i64.wrap (t0 - t1)) (IntKind.i64.wrap (t2 + t3)) (IntKind.i64.wrap (t2 - t3)) (IntKind.i64.wrap (t4 + t13)) (IntKind.i64.wrap (t4 - t13))) | false => none)
noncomputable def mb_jn5 (N : Nat) (k0 : Int → Int → Int → Int → Int → Int → Int → Option (V × H)) (rq : Int → Int → Int → Int → Int → Int → Int → Int → Int → Option (V × H)) : Int → Int → Int → Int → Int → Int → Int → Int → Int → Option (V × H) := fun (t0 : Int) (t1 : Int) (t2 : Int) (t3 : Int) (t4 : Int) (t13 : Int) (t14 : Int) (t15 : Int) (t16 : Int) => (match decide ((t16 : Int) ≤ t14) with | true => (match (s3R t14 t16).isSome with | true => (match (s3R (IntKind.i64.wrap (Int.tdiv (IntKind.i64.wrap ((IntKind.i64.wrap (t4 + t0)) - t2)) 2)) (IntKind.i64.wrap ((IntKind.i64.wrap (Int.tdiv (IntKind.i64.wrap (t0 - t1)) 2)) - t16))).isSome with | true => (match (s3R (IntKind.i64.wrap (Int.tdiv (IntKind.i64.wrap ((IntKind.i64.wrap (t4 + t2)) - t0)) 2)) (IntKind.i64.wrap ((IntKind.i64.wrap (Int.tdiv (IntKind.i64.wrap (t2 + t3)) 2)) - t16))).isSome with | true => (match (Int.tmod t16 2) == 1 with | true => (rq t0 t1 t2 t3 t4 t13 t14 (IntKind.i64.wrap (t15 + (IntKind.i64.wrap (0 - (IntKind.i64.wrap ((IntKind.i64.wrap (((s3R t14 t16).getD 0) * ((s3R (IntKind.i64.wrap (Int.tdiv (IntKind.i64.wrap ((IntKind.i64.wrap (t4 + t0)) - t2)) 2)) (IntKind.i64.wrap ((IntKind.i64.wrap (Int.tdiv (IntKind.i64.wrap (t0 - t1)) 2)) - t16))).getD 0))) * ((s3R (IntKind.i64.wrap (Int.tdiv (IntKind.i64.wrap ((IntKind.i64.wrap (t4 + t2)) - t0)) 2)) (IntKind.i64.wrap ((IntKind.i64.wrap (Int.tdiv (IntKind.i64.wrap (t2 + t3)) 2)) - t16))).getD 0))))))) (IntKind.i64.wrap (t16 + 1))) | false => (rq t0 t1 t2 t3 t4 t13 t14 (IntKind.i64.wrap (t15 + (IntKind.i64.wrap ((IntKind.i64.wrap (((s3R t14 t16).getD 0) * ((s3R (IntKind.i64.wrap (Int.tdiv (IntKind.i64.wrap ((IntKind.i64.wrap (t4 + t0)) - t2)) 2)) (IntKind.i64.wrap ((IntKind.i64.wrap (Int.tdiv (IntKind.i64.wrap (t0 - t1)) 2)) - t16))).getD 0))) * ((s3R (IntKind.i64.wrap (Int.tdiv (IntKind.i64.wrap ((IntKind.i64.wrap (t4 + t2)) - t0)) 2)) (IntKind.i64.wrap ((IntKind.i64.wrap (Int.tdiv (IntKind.i64.wrap (t2 + t3)) 2)) - t16))).getD 0))))) (IntKind.i64.wrap (t16 + 1)))) | false => none) | false => none) | false => none) | false => (k0 t0 t1 t2 t3 t4 t13 t15))
noncomputable def mr_jn5 (N : Nat) (k0 : Int → Int → Int → Int → Int → Int → Int → Option (V × H)) (M : Nat) : Int → Int → Int → Int → Int → Int → Int → Int → Int → Option (V × H) := Nat.rec (motive := fun _ => Int → Int → Int → Int → Int → Int → Int → Int → Int → Option (V × H)) (fun (_ : Int) (_ : Int) (_ : Int) (_ : Int) (_ : Int) (_ : Int) (_ : Int) (_ : Int) (_ : Int) => none) (fun _ rq => mb_jn5 N k0 rq) M
theorem mrs_jn5 (N : Nat) (k0 : Int → Int → Int → Int → Int → Int → Int → Option (V × H)) (M : Nat) (t0 : Int) (t1 : Int) (t2 : Int) (t3 : Int) (t4 : Int) (t13 : Int) (t14 : Int) (t15 : Int) (t16 : Int) : mr_jn5 N k0 (M + 1) t0 t1 t2 t3 t4 t13 t14 t15 t16 = mb_jn5 N k0 (mr_jn5 N k0 M) t0 t1 t2 t3 t4 t13 t14 t15 t16 := rfl
theorem H_jn5 (N : Nat) : ∀ (M : Nat) (t0 : Int) (t1 : Int) (t2 : Int) (t3 : Int) (t4 : Int) (t13 : Int) (t14 : Int) (t15 : Int) (t16 : Int), lp_jn5 N M (st_jn5 t0 t1 t2 t3 t4 t13 t14 t15 t16) (kt_jn5 N (kEnd Try.f91 0)) = mr_jn5 N (ce_jn5_0 N) M t0 t1 t2 t3 t4 t13 t14 t15 t16 := by
  have he0 : ∀ (t0 : Int) (t1 : Int) (t2 : Int) (t3 : Int) (t4 : Int) (t13 : Int) (t15 : Int), kt_jn5 N (kEnd Try.f91 0) (.exit 0) (en_jn5_0 t0 t1 t2 t3 t4 t13 t15) = ce_jn5_0 N t0 t1 t2 t3 t4 t13 t15 := by
    intro t0 t1 t2 t3 t4 t13 t15
    rw [end_jn5_0]
    unfold ce_jn5_0
    first | (simp only [H_jn14 N N]; done) | (simp only [H_jn14 N N]; kernel_rfl) | rfl
  intro M
  induction M with
  | zero => intros; rfl
  | succ M ih =>
    intro t0 t1 t2 t3 t4 t13 t14 t15 t16
    rw [step_jn5]
    rw [mrs_jn5]
    unfold mb_jn5
    first | (simp only [ih, he0]; done) | (simp only [ih, he0]; kernel_rfl) | rfl
noncomputable def md_jn (N : Nat) (a : Int) (x : Int) (b : Int) (y : Int) (c : Int) : Option (V × H) := (mr_jn5 N (ce_jn5_0 N) N a x b y c (IntKind.i64.wrap (x + y)) (IntKind.i64.wrap (Int.tdiv (IntKind.i64.wrap ((IntKind.i64.wrap (a + b)) - c)) 2)) 0 0)
theorem mdl_jn (N : Nat) (a : Int) (x : Int) (b : Int) (y : Int) (c : Int) : run ty tab_jn an_jn N Try.f91 [.int .i64 a, .int .i64 x, .int .i64 b, .int .i64 y, .int .i64 c] [] = md_jn N a x b y c := by
  rw [run_jn]
  unfold md_jn
  first | (simp only [H_jn5 N N]; done) | (simp only [H_jn5 N N]; kernel_rfl) | rfl
end
end Go.Proofs.Ytbhfjdlhhjeknaa.Ab

namespace Go.Proofs.Ytbhfjdlhhjeknaa.Ab
set_option linter.unusedVariables false
set_option linter.unusedSimpArgs false
open Go
def jT0 : List (List (List (List (Int × Int × Int)))) := [[[[(1, 1, 1)]], [[(1, 1, 1)], [(1, 1, 1)]], [[(1, 1, 1)], [(1, 1, 1)], [(1, 1, 1)]], [[(1, 1, 1)], [(1, 1, 1)], [(1, 1, 1)], [(1, 1, 1)]], [[(1, 1, 1)], [(1, 1, 1)], [(1, 1, 1)], [(1, 1, 1)], [(1, 1, 1)]], [[(1, 1, 1)], [(1, 1, 1)], [(1, 1, 1)], [(1, 1, 1)], [(1, 1, 1)], [(1, 1, 1)]], [[(1, 1, 1)], [(1, 1, 1)], [(1, 1, 1)], [(1, 1, 1)], [(1, 1, 1)], [(1, 1, 1)], [(1, 1, 1)]]]]
def jT1 : List (List (List (List (Int × Int × Int)))) := [[[[(1, 1, 1)]], [[(1, 1, 1), (0, 0, 1)], [(1, 1, 2), (1, 1, 2)]], [[(1, 1, 1), (0, 0, 1)], [(1, 2, 3), (1, 1, 3)], [(1, 1, 3), (1, 2, 3)]], [[(1, 1, 1), (0, 0, 1)], [(1, 3, 4), (1, 1, 4)], [(1, 1, 2), (1, 1, 2)], [(1, 1, 4), (1, 3, 4)]], [[(1, 1, 1), (0, 0, 1)], [(1, 4, 5), (1, 1, 5)], [(1, 3, 5), (1, 2, 5)], [(1, 2, 5), (1, 3, 5)], [(1, 1, 5), (1, 4, 5)]], [[(1, 1, 1), (0, 0, 1)], [(1, 5, 6), (1, 1, 6)], [(1, 2, 3), (1, 1, 3)], [(1, 1, 2), (1, 1, 2)], [(1, 1, 3), (1, 2, 3)], [(1, 1, 6), (1, 5, 6)]], [[(1, 1, 1), (0, 0, 1)], [(1, 6, 7), (1, 1, 7)], [(1, 5, 7), (1, 2, 7)], [(1, 4, 7), (1, 3, 7)], [(1, 3, 7), (1, 4, 7)], [(1, 2, 7), (1, 5, 7)], [(1, 1, 7), (1, 6, 7)]]], [[[(1, 1, 1)]], [[(1, 1, 2), (-1, 1, 2)], [(1, 1, 1), (0, 0, 1)]], [[(1, 1, 3), (-1, 2, 3)], [(1, 2, 3), (-1, 1, 3)], [(1, 1, 1), (0, 0, 1)]], [[(1, 1, 4), (-1, 3, 4)], [(1, 1, 2), (-1, 1, 2)], [(1, 3, 4), (-1, 1, 4)], [(1, 1, 1), (0, 0, 1)]], [[(1, 1, 5), (-1, 4, 5)], [(1, 2, 5), (-1, 3, 5)], [(1, 3, 5), (-1, 2, 5)], [(1, 4, 5), (-1, 1, 5)], [(1, 1, 1), (0, 0, 1)]], [[(1, 1, 6), (-1, 5, 6)], [(1, 1, 3), (-1, 2, 3)], [(1, 1, 2), (-1, 1, 2)], [(1, 2, 3), (-1, 1, 3)], [(1, 5, 6), (-1, 1, 6)], [(1, 1, 1), (0, 0, 1)]], [[(1, 1, 7), (-1, 6, 7)], [(1, 2, 7), (-1, 5, 7)], [(1, 3, 7), (-1, 4, 7)], [(1, 4, 7), (-1, 3, 7)], [(1, 5, 7), (-1, 2, 7)], [(1, 6, 7), (-1, 1, 7)], [(1, 1, 1), (0, 0, 1)]]]]
def jT2 : List (List (List (List (Int × Int × Int)))) := [[[[(1, 1, 1)]], [[(1, 1, 1), (0, 0, 1)], [(1, 1, 3), (1, 2, 3)]], [[(1, 1, 1), (0, 0, 1), (0, 0, 1)], [(1, 1, 2), (1, 1, 2), (0, 0, 1)], [(1, 1, 6), (1, 1, 2), (1, 1, 3)]], [[(1, 1, 1), (0, 0, 1), (0, 0, 1)], [(1, 3, 5), (1, 2, 5), (0, 0, 1)], [(1, 3, 10), (1, 8, 15), (1, 1, 6)], [(1, 1, 10), (1, 2, 5), (1, 1, 2)]], [[(1, 1, 1), (0, 0, 1), (0, 0, 1)], [(1, 2, 3), (1, 1, 3), (0, 0, 1)], [(1, 2, 5), (1, 1, 2), (1, 1, 10)], [(1, 1, 5), (1, 1, 2), (1, 3, 10)], [(1, 1, 15), (1, 1, 3), (1, 3, 5)]], [[(1, 1, 1), (0, 0, 1), (0, 0, 1)], [(1, 5, 7), (1, 2, 7), (0, 0, 1)], [(1, 10, 21), (1, 16, 35), (1, 1, 15)], [(1, 2, 7), (1, 18, 35), (1, 1, 5)], [(1, 1, 7), (1, 16, 35), (1, 2, 5)], [(1, 1, 21), (1, 2, 7), (1, 2, 3)]], [[(1, 1, 1), (0, 0, 1), (0, 0, 1)], [(1, 3, 4), (1, 1, 4), (0, 0, 1)], [(1, 15, 28), (1, 5, 12), (1, 1, 21)], [(1, 5, 14), (1, 1, 2), (1, 1, 7)], [(1, 3, 14), (1, 1, 2), (1, 2, 7)], [(1, 3, 28), (1, 5, 12), (1, 10, 21)], [(1, 1, 28), (1, 1, 4), (1, 5, 7)]]], [[[(1, 1, 1)]], [[(1, 2, 3), (-1, 1, 3)], [(1, 2, 3), (1, 1, 3)]], [[(1, 1, 2), (-1, 1, 2), (0, 0, 1)], [(1, 2, 3), (0, 0, 1), (-1, 1, 3)], [(1, 1, 2), (1, 1, 2), (0, 0, 1)]], [[(1, 2, 5), (-1, 3, 5), (0, 0, 1)], [(1, 3, 5), (-1, 1, 15), (-1, 1, 3)], [(1, 3, 5), (1, 1, 15), (-1, 1, 3)], [(1, 2, 5), (1, 3, 5), (0, 0, 1)]], [[(1, 1, 3), (-1, 2, 3), (0, 0, 1)], [(1, 8, 15), (-1, 1, 6), (-1, 3, 10)], [(1, 3, 5), (0, 0, 1), (-1, 2, 5)], [(1, 8, 15), (1, 1, 6), (-1, 3, 10)], [(1, 1, 3), (1, 2, 3), (0, 0, 1)]], [[(1, 2, 7), (-1, 5, 7), (0, 0, 1)], [(1, 10, 21), (-1, 9, 35), (-1, 4, 15)], [(1, 4, 7), (-1, 1, 35), (-1, 2, 5)], [(1, 4, 7), (1, 1, 35), (-1, 2, 5)], [(1, 10, 21), (1, 9, 35), (-1, 4, 15)], [(1, 2, 7), (1, 5, 7), (0, 0, 1)]], [[(1, 1, 4), (-1, 3, 4), (0, 0, 1)], [(1, 3, 7), (-1, 1, 3), (-1, 5, 21)], [(1, 15, 28), (-1, 1, 12), (-1, 8, 21)], [(1, 4, 7), (0, 0, 1), (-1, 3, 7)], [(1, 15, 28), (1, 1, 12), (-1, 8, 21)], [(1, 3, 7), (1, 1, 3), (-1, 5, 21)], [(1, 1, 4), (1, 3, 4), (0, 0, 1)]]], [[[(1, 1, 1)]], [[(1, 1, 3), (-1, 2, 3)], [(1, 1, 1), (0, 0, 1)]], [[(1, 1, 6), (-1, 1, 2), (1, 1, 3)], [(1, 1, 2), (-1, 1, 2), (0, 0, 1)], [(1, 1, 1), (0, 0, 1), (0, 0, 1)]], [[(1, 1, 10), (-1, 2, 5), (1, 1, 2)], [(1, 3, 10), (-1, 8, 15), (1, 1, 6)], [(1, 3, 5), (-1, 2, 5), (0, 0, 1)], [(1, 1, 1), (0, 0, 1), (0, 0, 1)]], [[(1, 1, 15), (-1, 1, 3), (1, 3, 5)], [(1, 1, 5), (-1, 1, 2), (1, 3, 10)], [(1, 2, 5), (-1, 1, 2), (1, 1, 10)], [(1, 2, 3), (-1, 1, 3), (0, 0, 1)], [(1, 1, 1), (0, 0, 1), (0, 0, 1)]], [[(1, 1, 21), (-1, 2, 7), (1, 2, 3)], [(1, 1, 7), (-1, 16, 35), (1, 2, 5)], [(1, 2, 7), (-1, 18, 35), (1, 1, 5)], [(1, 10, 21), (-1, 16, 35), (1, 1, 15)], [(1, 5, 7), (-1, 2, 7), (0, 0, 1)], [(1, 1, 1), (0, 0, 1), (0, 0, 1)]], [[(1, 1, 28), (-1, 1, 4), (1, 5, 7)], [(1, 3, 28), (-1, 5, 12), (1, 10, 21)], [(1, 3, 14), (-1, 1, 2), (1, 2, 7)], [(1, 5, 14), (-1, 1, 2), (1, 1, 7)], [(1, 15, 28), (-1, 5, 12), (1, 1, 21)], [(1, 3, 4), (-1, 1, 4), (0, 0, 1)], [(1, 1, 1), (0, 0, 1), (0, 0, 1)]]]]
def jT3 : List (List (List (List (Int × Int × Int)))) := [[[[(1, 1, 1)]], [[(1, 1, 1), (0, 0, 1)], [(1, 1, 4), (1, 3, 4)]], [[(1, 1, 1), (0, 0, 1), (0, 0, 1)], [(1, 2, 5), (1, 3, 5), (0, 0, 1)], [(1, 1, 10), (1, 2, 5), (1, 1, 2)]], [[(1, 1, 1), (0, 0, 1), (0, 0, 1), (0, 0, 1)], [(1, 1, 2), (1, 1, 2), (0, 0, 1), (0, 0, 1)], [(1, 1, 5), (1, 1, 2), (1, 3, 10), (0, 0, 1)], [(1, 1, 20), (1, 1, 4), (1, 9, 20), (1, 1, 4)]], [[(1, 1, 1), (0, 0, 1), (0, 0, 1), (0, 0, 1)], [(1, 4, 7), (1, 3, 7), (0, 0, 1), (0, 0, 1)], [(1, 2, 7), (1, 18, 35), (1, 1, 5), (0, 0, 1)], [(1, 4, 35), (1, 27, 70), (1, 2, 5), (1, 1, 10)], [(1, 1, 35), (1, 6, 35), (1, 2, 5), (1, 2, 5)]], [[(1, 1, 1), (0, 0, 1), (0, 0, 1), (0, 0, 1)], [(1, 5, 8), (1, 3, 8), (0, 0, 1), (0, 0, 1)], [(1, 5, 14), (1, 1, 2), (1, 1, 7), (0, 0, 1)], [(1, 5, 28), (1, 9, 20), (1, 9, 28), (1, 1, 20)], [(1, 1, 14), (1, 3, 10), (1, 3, 7), (1, 1, 5)], [(1, 1, 56), (1, 1, 8), (1, 5, 14), (1, 1, 2)]], [[(1, 1, 1), (0, 0, 1), (0, 0, 1), (0, 0, 1)], [(1, 2, 3), (1, 1, 3), (0, 0, 1), (0, 0, 1)], [(1, 5, 12), (1, 10, 21), (1, 3, 28), (0, 0, 1)], [(1, 5, 21), (1, 10, 21), (1, 9, 35), (1, 1, 35)], [(1, 5, 42), (1, 8, 21), (1, 27, 70), (1, 4, 35)], [(1, 1, 21), (1, 5, 21), (1, 3, 7), (1, 2, 7)], [(1, 1, 84), (1, 2, 21), (1, 9, 28), (1, 4, 7)]]], [[[(1, 1, 1)]], [[(1, 3, 4), (-1, 1, 4)], [(1, 1, 2), (1, 1, 2)]], [[(1, 3, 5), (-1, 2, 5), (0, 0, 1)], [(1, 3, 5), (1, 1, 15), (-1, 1, 3)], [(1, 3, 10), (1, 8, 15), (1, 1, 6)]], [[(1, 1, 2), (-1, 1, 2), (0, 0, 1), (0, 0, 1)], [(1, 3, 5), (0, 0, 1), (-1, 2, 5), (0, 0, 1)], [(1, 9, 20), (1, 1, 4), (-1, 1, 20), (-1, 1, 4)], [(1, 1, 5), (1, 1, 2), (1, 3, 10), (0, 0, 1)]], [[(1, 3, 7), (-1, 4, 7), (0, 0, 1), (0, 0, 1)], [(1, 4, 7), (-1, 1, 35), (-1, 2, 5), (0, 0, 1)], [(1, 18, 35), (1, 3, 35), (-1, 1, 5), (-1, 1, 5)], [(1, 12, 35), (1, 5, 14), (0, 0, 1), (-1, 3, 10)], [(1, 1, 7), (1, 16, 35), (1, 2, 5), (0, 0, 1)]], [[(1, 3, 8), (-1, 5, 8), (0, 0, 1), (0, 0, 1)], [(1, 15, 28), (-1, 1, 12), (-1, 8, 21), (0, 0, 1)], [(1, 15, 28), (1, 1, 60), (-1, 25, 84), (-1, 3, 20)], [(1, 3, 7), (1, 1, 5), (-1, 1, 14), (-1, 3, 10)], [(1, 15, 56), (1, 49, 120), (1, 1, 42), (-1, 3, 10)], [(1, 3, 28), (1, 5, 12), (1, 10, 21), (0, 0, 1)]], [[(1, 1, 3), (-1, 2, 3), (0, 0, 1), (0, 0, 1)], [(1, 1, 2), (-1, 1, 7), (-1, 5, 14), (0, 0, 1)], [(1, 15, 28), (0, 0, 1), (-1, 7, 20), (-1, 4, 35)], [(1, 10, 21), (1, 2, 21), (-1, 6, 35), (-1, 9, 35)], [(1, 5, 14), (1, 2, 7), (-1, 1, 70), (-1, 12, 35)], [(1, 3, 14), (1, 3, 7), (1, 1, 14), (-1, 2, 7)], [(1, 1, 12), (1, 8, 21), (1, 15, 28), (0, 0, 1)]]], [[[(1, 1, 1)]], [[(1, 1, 2), (-1, 1, 2)], [(1, 3, 4), (1, 1, 4)]], [[(1, 3, 10), (-1, 8, 15), (1, 1, 6)], [(1, 3, 5), (-1, 1, 15), (-1, 1, 3)], [(1, 3, 5), (1, 2, 5), (0, 0, 1)]], [[(1, 1, 5), (-1, 1, 2), (1, 3, 10), (0, 0, 1)], [(1, 9, 20), (-1, 1, 4), (-1, 1, 20), (1, 1, 4)], [(1, 3, 5), (0, 0, 1), (-1, 2, 5), (0, 0, 1)], [(1, 1, 2), (1, 1, 2), (0, 0, 1), (0, 0, 1)]], [[(1, 1, 7), (-1, 16, 35), (1, 2, 5), (0, 0, 1)], [(1, 12, 35), (-1, 5, 14), (0, 0, 1), (1, 3, 10)], [(1, 18, 35), (-1, 3, 35), (-1, 1, 5), (1, 1, 5)], [(1, 4, 7), (1, 1, 35), (-1, 2, 5), (0, 0, 1)], [(1, 3, 7), (1, 4, 7), (0, 0, 1), (0, 0, 1)]], [[(1, 3, 28), (-1, 5, 12), (1, 10, 21), (0, 0, 1)], [(1, 15, 56), (-1, 49, 120), (1, 1, 42), (1, 3, 10)], [(1, 3, 7), (-1, 1, 5), (-1, 1, 14), (1, 3, 10)], [(1, 15, 28), (-1, 1, 60), (-1, 25, 84), (1, 3, 20)], [(1, 15, 28), (1, 1, 12), (-1, 8, 21), (0, 0, 1)], [(1, 3, 8), (1, 5, 8), (0, 0, 1), (0, 0, 1)]], [[(1, 1, 12), (-1, 8, 21), (1, 15, 28), (0, 0, 1)], [(1, 3, 14), (-1, 3, 7), (1, 1, 14), (1, 2, 7)], [(1, 5, 14), (-1, 2, 7), (-1, 1, 70), (1, 12, 35)], [(1, 10, 21), (-1, 2, 21), (-1, 6, 35), (1, 9, 35)], [(1, 15, 28), (0, 0, 1), (-1, 7, 20), (1, 4, 35)], [(1, 1, 2), (1, 1, 7), (-1, 5, 14), (0, 0, 1)], [(1, 1, 3), (1, 2, 3), (0, 0, 1), (0, 0, 1)]]], [[[(1, 1, 1)]], [[(1, 1, 4), (-1, 3, 4)], [(1, 1, 1), (0, 0, 1)]], [[(1, 1, 10), (-1, 2, 5), (1, 1, 2)], [(1, 2, 5), (-1, 3, 5), (0, 0, 1)], [(1, 1, 1), (0, 0, 1), (0, 0, 1)]], [[(1, 1, 20), (-1, 1, 4), (1, 9, 20), (-1, 1, 4)], [(1, 1, 5), (-1, 1, 2), (1, 3, 10), (0, 0, 1)], [(1, 1, 2), (-1, 1, 2), (0, 0, 1), (0, 0, 1)], [(1, 1, 1), (0, 0, 1), (0, 0, 1), (0, 0, 1)]], [[(1, 1, 35), (-1, 6, 35), (1, 2, 5), (-1, 2, 5)], [(1, 4, 35), (-1, 27, 70), (1, 2, 5), (-1, 1, 10)], [(1, 2, 7), (-1, 18, 35), (1, 1, 5), (0, 0, 1)], [(1, 4, 7), (-1, 3, 7), (0, 0, 1), (0, 0, 1)], [(1, 1, 1), (0, 0, 1), (0, 0, 1), (0, 0, 1)]], [[(1, 1, 56), (-1, 1, 8), (1, 5, 14), (-1, 1, 2)], [(1, 1, 14), (-1, 3, 10), (1, 3, 7), (-1, 1, 5)], [(1, 5, 28), (-1, 9, 20), (1, 9, 28), (-1, 1, 20)], [(1, 5, 14), (-1, 1, 2), (1, 1, 7), (0, 0, 1)], [(1, 5, 8), (-1, 3, 8), (0, 0, 1), (0, 0, 1)], [(1, 1, 1), (0, 0, 1), (0, 0, 1), (0, 0, 1)]], [[(1, 1, 84), (-1, 2, 21), (1, 9, 28), (-1, 4, 7)], [(1, 1, 21), (-1, 5, 21), (1, 3, 7), (-1, 2, 7)], [(1, 5, 42), (-1, 8, 21), (1, 27, 70), (-1, 4, 35)], [(1, 5, 21), (-1, 10, 21), (1, 9, 35), (-1, 1, 35)], [(1, 5, 12), (-1, 10, 21), (1, 3, 28), (0, 0, 1)], [(1, 2, 3), (-1, 1, 3), (0, 0, 1), (0, 0, 1)], [(1, 1, 1), (0, 0, 1), (0, 0, 1), (0, 0, 1)]]]]
def jT4 : List (List (List (List (Int × Int × Int)))) := [[[[(1, 1, 1)]], [[(1, 1, 1), (0, 0, 1)], [(1, 1, 5), (1, 4, 5)]], [[(1, 1, 1), (0, 0, 1), (0, 0, 1)], [(1, 1, 3), (1, 2, 3), (0, 0, 1)], [(1, 1, 15), (1, 1, 3), (1, 3, 5)]], [[(1, 1, 1), (0, 0, 1), (0, 0, 1), (0, 0, 1)], [(1, 3, 7), (1, 4, 7), (0, 0, 1), (0, 0, 1)], [(1, 1, 7), (1, 16, 35), (1, 2, 5), (0, 0, 1)], [(1, 1, 35), (1, 6, 35), (1, 2, 5), (1, 2, 5)]], [[(1, 1, 1), (0, 0, 1), (0, 0, 1), (0, 0, 1), (0, 0, 1)], [(1, 1, 2), (1, 1, 2), (0, 0, 1), (0, 0, 1), (0, 0, 1)], [(1, 3, 14), (1, 1, 2), (1, 2, 7), (0, 0, 1), (0, 0, 1)], [(1, 1, 14), (1, 3, 10), (1, 3, 7), (1, 1, 5), (0, 0, 1)], [(1, 1, 70), (1, 1, 10), (1, 2, 7), (1, 2, 5), (1, 1, 5)]], [[(1, 1, 1), (0, 0, 1), (0, 0, 1), (0, 0, 1), (0, 0, 1)], [(1, 5, 9), (1, 4, 9), (0, 0, 1), (0, 0, 1), (0, 0, 1)], [(1, 5, 18), (1, 32, 63), (1, 3, 14), (0, 0, 1), (0, 0, 1)], [(1, 5, 42), (1, 8, 21), (1, 27, 70), (1, 4, 35), (0, 0, 1)], [(1, 5, 126), (1, 64, 315), (1, 27, 70), (1, 32, 105), (1, 1, 15)], [(1, 1, 126), (1, 4, 63), (1, 3, 14), (1, 8, 21), (1, 1, 3)]], [[(1, 1, 1), (0, 0, 1), (0, 0, 1), (0, 0, 1), (0, 0, 1)], [(1, 3, 5), (1, 2, 5), (0, 0, 1), (0, 0, 1), (0, 0, 1)], [(1, 1, 3), (1, 1, 2), (1, 1, 6), (0, 0, 1), (0, 0, 1)], [(1, 1, 6), (1, 3, 7), (1, 1, 3), (1, 1, 14), (0, 0, 1)], [(1, 1, 14), (1, 2, 7), (1, 2, 5), (1, 3, 14), (1, 1, 35)], [(1, 1, 42), (1, 1, 7), (1, 1, 3), (1, 5, 14), (1, 1, 7)], [(1, 1, 210), (1, 3, 70), (1, 1, 6), (1, 5, 14), (1, 3, 7)]]], [[[(1, 1, 1)]], [[(1, 4, 5), (-1, 1, 5)], [(1, 2, 5), (1, 3, 5)]], [[(1, 2, 3), (-1, 1, 3), (0, 0, 1)], [(1, 8, 15), (1, 1, 6), (-1, 3, 10)], [(1, 1, 5), (1, 1, 2), (1, 3, 10)]], [[(1, 4, 7), (-1, 3, 7), (0, 0, 1), (0, 0, 1)], [(1, 4, 7), (1, 1, 35), (-1, 2, 5), (0, 0, 1)], [(1, 12, 35), (1, 5, 14), (0, 0, 1), (-1, 3, 10)], [(1, 4, 35), (1, 27, 70), (1, 2, 5), (1, 1, 10)]], [[(1, 1, 2), (-1, 1, 2), (0, 0, 1), (0, 0, 1), (0, 0, 1)], [(1, 4, 7), (0, 0, 1), (-1, 3, 7), (0, 0, 1), (0, 0, 1)], [(1, 3, 7), (1, 1, 5), (-1, 1, 14), (-1, 3, 10), (0, 0, 1)], [(1, 8, 35), (1, 2, 5), (1, 1, 14), (-1, 1, 10), (-1, 1, 5)], [(1, 1, 14), (1, 3, 10), (1, 3, 7), (1, 1, 5), (0, 0, 1)]], [[(1, 4, 9), (-1, 5, 9), (0, 0, 1), (0, 0, 1), (0, 0, 1)], [(1, 5, 9), (-1, 1, 63), (-1, 3, 7), (0, 0, 1), (0, 0, 1)], [(1, 10, 21), (1, 2, 21), (-1, 6, 35), (-1, 9, 35), (0, 0, 1)], [(1, 20, 63), (1, 14, 45), (0, 0, 1), (-1, 5, 21), (-1, 2, 15)], [(1, 10, 63), (1, 121, 315), (1, 6, 35), (-1, 2, 105), (-1, 4, 15)], [(1, 1, 21), (1, 5, 21), (1, 3, 7), (1, 2, 7), (0, 0, 1)]], [[(1, 2, 5), (-1, 3, 5), (0, 0, 1), (0, 0, 1), (0, 0, 1)], [(1, 8, 15), (-1, 1, 20), (-1, 5, 12), (0, 0, 1), (0, 0, 1)], [(1, 1, 2), (1, 1, 28), (-1, 1, 4), (-1, 3, 14), (0, 0, 1)], [(1, 8, 21), (1, 3, 14), (-1, 1, 30), (-1, 2, 7), (-1, 3, 35)], [(1, 5, 21), (1, 5, 14), (1, 1, 30), (-1, 1, 7), (-1, 8, 35)], [(1, 4, 35), (1, 7, 20), (1, 1, 4), (0, 0, 1), (-1, 2, 7)], [(1, 1, 30), (1, 27, 140), (1, 5, 12), (1, 5, 14), (0, 0, 1)]]], [[[(1, 1, 1)]], [[(1, 3, 5), (-1, 2, 5)], [(1, 3, 5), (1, 2, 5)]], [[(1, 2, 5), (-1, 1, 2), (1, 1, 10)], [(1, 3, 5), (0, 0, 1), (-1, 2, 5)], [(1, 2, 5), (1, 1, 2), (1, 1, 10)]], [[(1, 2, 7), (-1, 18, 35), (1, 1, 5), (0, 0, 1)], [(1, 18, 35), (-1, 3, 35), (-1, 1, 5), (1, 1, 5)], [(1, 18, 35), (1, 3, 35), (-1, 1, 5), (-1, 1, 5)], [(1, 2, 7), (1, 18, 35), (1, 1, 5), (0, 0, 1)]], [[(1, 3, 14), (-1, 1, 2), (1, 2, 7), (0, 0, 1), (0, 0, 1)], [(1, 3, 7), (-1, 1, 5), (-1, 1, 14), (1, 3, 10), (0, 0, 1)], [(1, 18, 35), (0, 0, 1), (-1, 2, 7), (0, 0, 1), (1, 1, 5)], [(1, 3, 7), (1, 1, 5), (-1, 1, 14), (-1, 3, 10), (0, 0, 1)], [(1, 3, 14), (1, 1, 2), (1, 2, 7), (0, 0, 1), (0, 0, 1)]], [[(1, 1, 6), (-1, 10, 21), (1, 5, 14), (0, 0, 1), (0, 0, 1)], [(1, 5, 14), (-1, 2, 7), (-1, 1, 70), (1, 12, 35), (0, 0, 1)], [(1, 10, 21), (-1, 4, 105), (-1, 8, 35), (1, 2, 35), (1, 1, 5)], [(1, 10, 21), (1, 4, 105), (-1, 8, 35), (-1, 2, 35), (1, 1, 5)], [(1, 5, 14), (1, 2, 7), (-1, 1, 70), (-1, 12, 35), (0, 0, 1)], [(1, 1, 6), (1, 10, 21), (1, 5, 14), (0, 0, 1), (0, 0, 1)]], [[(1, 2, 15), (-1, 9, 20), (1, 5, 12), (0, 0, 1), (0, 0, 1)], [(1, 3, 10), (-1, 12, 35), (0, 0, 1), (1, 5, 14), (0, 0, 1)], [(1, 3, 7), (-1, 3, 28), (-1, 3, 20), (1, 1, 7), (1, 6, 35)], [(1, 10, 21), (0, 0, 1), (-1, 4, 15), (0, 0, 1), (1, 9, 35)], [(1, 3, 7), (1, 3, 28), (-1, 3, 20), (-1, 1, 7), (1, 6, 35)], [(1, 3, 10), (1, 12, 35), (0, 0, 1), (-1, 5, 14), (0, 0, 1)], [(1, 2, 15), (1, 9, 20), (1, 5, 12), (0, 0, 1), (0, 0, 1)]]], [[[(1, 1, 1)]], [[(1, 2, 5), (-1, 3, 5)], [(1, 4, 5), (1, 1, 5)]], [[(1, 1, 5), (-1, 1, 2), (1, 3, 10)], [(1, 8, 15), (-1, 1, 6), (-1, 3, 10)], [(1, 2, 3), (1, 1, 3), (0, 0, 1)]], [[(1, 4, 35), (-1, 27, 70), (1, 2, 5), (-1, 1, 10)], [(1, 12, 35), (-1, 5, 14), (0, 0, 1), (1, 3, 10)], [(1, 4, 7), (-1, 1, 35), (-1, 2, 5), (0, 0, 1)], [(1, 4, 7), (1, 3, 7), (0, 0, 1), (0, 0, 1)]], [[(1, 1, 14), (-1, 3, 10), (1, 3, 7), (-1, 1, 5), (0, 0, 1)], [(1, 8, 35), (-1, 2, 5), (1, 1, 14), (1, 1, 10), (-1, 1, 5)], [(1, 3, 7), (-1, 1, 5), (-1, 1, 14), (1, 3, 10), (0, 0, 1)], [(1, 4, 7), (0, 0, 1), (-1, 3, 7), (0, 0, 1), (0, 0, 1)], [(1, 1, 2), (1, 1, 2), (0, 0, 1), (0, 0, 1), (0, 0, 1)]], [[(1, 1, 21), (-1, 5, 21), (1, 3, 7), (-1, 2, 7), (0, 0, 1)], [(1, 10, 63), (-1, 121, 315), (1, 6, 35), (1, 2, 105), (-1, 4, 15)], [(1, 20, 63), (-1, 14, 45), (0, 0, 1), (1, 5, 21), (-1, 2, 15)], [(1, 10, 21), (-1, 2, 21), (-1, 6, 35), (1, 9, 35), (0, 0, 1)], [(1, 5, 9), (1, 1, 63), (-1, 3, 7), (0, 0, 1), (0, 0, 1)], [(1, 4, 9), (1, 5, 9), (0, 0, 1), (0, 0, 1), (0, 0, 1)]], [[(1, 1, 30), (-1, 27, 140), (1, 5, 12), (-1, 5, 14), (0, 0, 1)], [(1, 4, 35), (-1, 7, 20), (1, 1, 4), (0, 0, 1), (-1, 2, 7)], [(1, 5, 21), (-1, 5, 14), (1, 1, 30), (1, 1, 7), (-1, 8, 35)], [(1, 8, 21), (-1, 3, 14), (-1, 1, 30), (1, 2, 7), (-1, 3, 35)], [(1, 1, 2), (-1, 1, 28), (-1, 1, 4), (1, 3, 14), (0, 0, 1)], [(1, 8, 15), (1, 1, 20), (-1, 5, 12), (0, 0, 1), (0, 0, 1)], [(1, 2, 5), (1, 3, 5), (0, 0, 1), (0, 0, 1), (0, 0, 1)]]], [[[(1, 1, 1)]], [[(1, 1, 5), (-1, 4, 5)], [(1, 1, 1), (0, 0, 1)]], [[(1, 1, 15), (-1, 1, 3), (1, 3, 5)], [(1, 1, 3), (-1, 2, 3), (0, 0, 1)], [(1, 1, 1), (0, 0, 1), (0, 0, 1)]], [[(1, 1, 35), (-1, 6, 35), (1, 2, 5), (-1, 2, 5)], [(1, 1, 7), (-1, 16, 35), (1, 2, 5), (0, 0, 1)], [(1, 3, 7), (-1, 4, 7), (0, 0, 1), (0, 0, 1)], [(1, 1, 1), (0, 0, 1), (0, 0, 1), (0, 0, 1)]], [[(1, 1, 70), (-1, 1, 10), (1, 2, 7), (-1, 2, 5), (1, 1, 5)], [(1, 1, 14), (-1, 3, 10), (1, 3, 7), (-1, 1, 5), (0, 0, 1)], [(1, 3, 14), (-1, 1, 2), (1, 2, 7), (0, 0, 1), (0, 0, 1)], [(1, 1, 2), (-1, 1, 2), (0, 0, 1), (0, 0, 1), (0, 0, 1)], [(1, 1, 1), (0, 0, 1), (0, 0, 1), (0, 0, 1), (0, 0, 1)]], [[(1, 1, 126), (-1, 4, 63), (1, 3, 14), (-1, 8, 21), (1, 1, 3)], [(1, 5, 126), (-1, 64, 315), (1, 27, 70), (-1, 32, 105), (1, 1, 15)], [(1, 5, 42), (-1, 8, 21), (1, 27, 70), (-1, 4, 35), (0, 0, 1)], [(1, 5, 18), (-1, 32, 63), (1, 3, 14), (0, 0, 1), (0, 0, 1)], [(1, 5, 9), (-1, 4, 9), (0, 0, 1), (0, 0, 1), (0, 0, 1)], [(1, 1, 1), (0, 0, 1), (0, 0, 1), (0, 0, 1), (0, 0, 1)]], [[(1, 1, 210), (-1, 3, 70), (1, 1, 6), (-1, 5, 14), (1, 3, 7)], [(1, 1, 42), (-1, 1, 7), (1, 1, 3), (-1, 5, 14), (1, 1, 7)], [(1, 1, 14), (-1, 2, 7), (1, 2, 5), (-1, 3, 14), (1, 1, 35)], [(1, 1, 6), (-1, 3, 7), (1, 1, 3), (-1, 1, 14), (0, 0, 1)], [(1, 1, 3), (-1, 1, 2), (1, 1, 6), (0, 0, 1), (0, 0, 1)], [(1, 3, 5), (-1, 2, 5), (0, 0, 1), (0, 0, 1), (0, 0, 1)], [(1, 1, 1), (0, 0, 1), (0, 0, 1), (0, 0, 1), (0, 0, 1)]]]]
def jT5 : List (List (List (List (Int × Int × Int)))) := [[[[(1, 1, 1)]], [[(1, 1, 1), (0, 0, 1)], [(1, 1, 6), (1, 5, 6)]], [[(1, 1, 1), (0, 0, 1), (0, 0, 1)], [(1, 2, 7), (1, 5, 7), (0, 0, 1)], [(1, 1, 21), (1, 2, 7), (1, 2, 3)]], [[(1, 1, 1), (0, 0, 1), (0, 0, 1), (0, 0, 1)], [(1, 3, 8), (1, 5, 8), (0, 0, 1), (0, 0, 1)], [(1, 3, 28), (1, 5, 12), (1, 10, 21), (0, 0, 1)], [(1, 1, 56), (1, 1, 8), (1, 5, 14), (1, 1, 2)]], [[(1, 1, 1), (0, 0, 1), (0, 0, 1), (0, 0, 1), (0, 0, 1)], [(1, 4, 9), (1, 5, 9), (0, 0, 1), (0, 0, 1), (0, 0, 1)], [(1, 1, 6), (1, 10, 21), (1, 5, 14), (0, 0, 1), (0, 0, 1)], [(1, 1, 21), (1, 5, 21), (1, 3, 7), (1, 2, 7), (0, 0, 1)], [(1, 1, 126), (1, 4, 63), (1, 3, 14), (1, 8, 21), (1, 1, 3)]], [[(1, 1, 1), (0, 0, 1), (0, 0, 1), (0, 0, 1), (0, 0, 1), (0, 0, 1)], [(1, 1, 2), (1, 1, 2), (0, 0, 1), (0, 0, 1), (0, 0, 1), (0, 0, 1)], [(1, 2, 9), (1, 1, 2), (1, 5, 18), (0, 0, 1), (0, 0, 1), (0, 0, 1)], [(1, 1, 12), (1, 9, 28), (1, 5, 12), (1, 5, 28), (0, 0, 1), (0, 0, 1)], [(1, 1, 42), (1, 1, 7), (1, 1, 3), (1, 5, 14), (1, 1, 7), (0, 0, 1)], [(1, 1, 252), (1, 1, 28), (1, 5, 36), (1, 25, 84), (1, 5, 14), (1, 1, 6)]], [[(1, 1, 1), (0, 0, 1), (0, 0, 1), (0, 0, 1), (0, 0, 1), (0, 0, 1)], [(1, 6, 11), (1, 5, 11), (0, 0, 1), (0, 0, 1), (0, 0, 1), (0, 0, 1)], [(1, 3, 11), (1, 50, 99), (1, 2, 9), (0, 0, 1), (0, 0, 1), (0, 0, 1)], [(1, 4, 33), (1, 25, 66), (1, 8, 21), (1, 5, 42), (0, 0, 1), (0, 0, 1)], [(1, 1, 22), (1, 50, 231), (1, 8, 21), (1, 2, 7), (1, 1, 14), (0, 0, 1)], [(1, 1, 77), (1, 125, 1386), (1, 16, 63), (1, 5, 14), (1, 5, 21), (1, 1, 21)], [(1, 1, 462), (1, 5, 231), (1, 2, 21), (1, 5, 21), (1, 5, 14), (1, 2, 7)]]], [[[(1, 1, 1)]], [[(1, 5, 6), (-1, 1, 6)], [(1, 1, 3), (1, 2, 3)]], [[(1, 5, 7), (-1, 2, 7), (0, 0, 1)], [(1, 10, 21), (1, 9, 35), (-1, 4, 15)], [(1, 1, 7), (1, 16, 35), (1, 2, 5)]], [[(1, 5, 8), (-1, 3, 8), (0, 0, 1), (0, 0, 1)], [(1, 15, 28), (1, 1, 12), (-1, 8, 21), (0, 0, 1)], [(1, 15, 56), (1, 49, 120), (1, 1, 42), (-1, 3, 10)], [(1, 1, 14), (1, 3, 10), (1, 3, 7), (1, 1, 5)]], [[(1, 5, 9), (-1, 4, 9), (0, 0, 1), (0, 0, 1), (0, 0, 1)], [(1, 5, 9), (1, 1, 63), (-1, 3, 7), (0, 0, 1), (0, 0, 1)], [(1, 5, 14), (1, 2, 7), (-1, 1, 70), (-1, 12, 35), (0, 0, 1)], [(1, 10, 63), (1, 121, 315), (1, 6, 35), (-1, 2, 105), (-1, 4, 15)], [(1, 5, 126), (1, 64, 315), (1, 27, 70), (1, 32, 105), (1, 1, 15)]], [[(1, 1, 2), (-1, 1, 2), (0, 0, 1), (0, 0, 1), (0, 0, 1), (0, 0, 1)], [(1, 5, 9), (0, 0, 1), (-1, 4, 9), (0, 0, 1), (0, 0, 1), (0, 0, 1)], [(1, 5, 12), (1, 5, 28), (-1, 1, 12), (-1, 9, 28), (0, 0, 1), (0, 0, 1)], [(1, 5, 21), (1, 5, 14), (1, 1, 30), (-1, 1, 7), (-1, 8, 35), (0, 0, 1)], [(1, 25, 252), (1, 9, 28), (1, 49, 180), (1, 1, 84), (-1, 9, 70), (-1, 1, 6)], [(1, 1, 42), (1, 1, 7), (1, 1, 3), (1, 5, 14), (1, 1, 7), (0, 0, 1)]], [[(1, 5, 11), (-1, 6, 11), (0, 0, 1), (0, 0, 1), (0, 0, 1), (0, 0, 1)], [(1, 6, 11), (-1, 1, 99), (-1, 4, 9), (0, 0, 1), (0, 0, 1), (0, 0, 1)], [(1, 5, 11), (1, 10, 99), (-1, 10, 63), (-1, 2, 7), (0, 0, 1), (0, 0, 1)], [(1, 10, 33), (1, 45, 154), (0, 0, 1), (-1, 7, 30), (-1, 6, 35), (0, 0, 1)], [(1, 25, 154), (1, 35, 99), (1, 8, 63), (-1, 1, 35), (-1, 7, 30), (-1, 2, 21)], [(1, 5, 77), (1, 361, 1386), (1, 20, 63), (1, 1, 14), (-1, 1, 21), (-1, 5, 21)], [(1, 1, 66), (1, 8, 77), (1, 2, 7), (1, 8, 21), (1, 3, 14), (0, 0, 1)]]], [[[(1, 1, 1)]], [[(1, 2, 3), (-1, 1, 3)], [(1, 1, 2), (1, 1, 2)]], [[(1, 10, 21), (-1, 16, 35), (1, 1, 15)], [(1, 4, 7), (1, 1, 35), (-1, 2, 5)], [(1, 2, 7), (1, 18, 35), (1, 1, 5)]], [[(1, 5, 14), (-1, 1, 2), (1, 1, 7), (0, 0, 1)], [(1, 15, 28), (-1, 1, 60), (-1, 25, 84), (1, 3, 20)], [(1, 3, 7), (1, 1, 5), (-1, 1, 14), (-1, 3, 10)], [(1, 5, 28), (1, 9, 20), (1, 9, 28), (1, 1, 20)]], [[(1, 5, 18), (-1, 32, 63), (1, 3, 14), (0, 0, 1), (0, 0, 1)], [(1, 10, 21), (-1, 2, 21), (-1, 6, 35), (1, 9, 35), (0, 0, 1)], [(1, 10, 21), (1, 4, 105), (-1, 8, 35), (-1, 2, 35), (1, 1, 5)], [(1, 20, 63), (1, 14, 45), (0, 0, 1), (-1, 5, 21), (-1, 2, 15)], [(1, 5, 42), (1, 8, 21), (1, 27, 70), (1, 4, 35), (0, 0, 1)]], [[(1, 2, 9), (-1, 1, 2), (1, 5, 18), (0, 0, 1), (0, 0, 1), (0, 0, 1)], [(1, 5, 12), (-1, 5, 28), (-1, 1, 12), (1, 9, 28), (0, 0, 1), (0, 0, 1)], [(1, 10, 21), (0, 0, 1), (-1, 4, 15), (0, 0, 1), (1, 9, 35), (0, 0, 1)], [(1, 25, 63), (1, 1, 7), (-1, 4, 45), (-1, 4, 21), (1, 1, 70), (1, 1, 6)], [(1, 5, 21), (1, 5, 14), (1, 1, 30), (-1, 1, 7), (-1, 8, 35), (0, 0, 1)], [(1, 1, 12), (1, 9, 28), (1, 5, 12), (1, 5, 28), (0, 0, 1), (0, 0, 1)]], [[(1, 2, 11), (-1, 16, 33), (1, 1, 3), (0, 0, 1), (0, 0, 1), (0, 0, 1)], [(1, 4, 11), (-1, 49, 198), (-1, 2, 63), (1, 5, 14), (0, 0, 1), (0, 0, 1)], [(1, 5, 11), (-1, 5, 231), (-1, 5, 21), (1, 1, 35), (1, 9, 35), (0, 0, 1)], [(1, 100, 231), (1, 10, 231), (-1, 4, 21), (-1, 8, 105), (1, 4, 35), (1, 1, 7)], [(1, 25, 77), (1, 160, 693), (-1, 1, 63), (-1, 8, 35), (-1, 1, 105), (1, 4, 21)], [(1, 2, 11), (1, 169, 462), (1, 2, 21), (-1, 1, 14), (-1, 2, 7), (0, 0, 1)], [(1, 2, 33), (1, 3, 11), (1, 3, 7), (1, 5, 21), (0, 0, 1), (0, 0, 1)]]], [[[(1, 1, 1)]], [[(1, 1, 2), (-1, 1, 2)], [(1, 2, 3), (1, 1, 3)]], [[(1, 2, 7), (-1, 18, 35), (1, 1, 5)], [(1, 4, 7), (-1, 1, 35), (-1, 2, 5)], [(1, 10, 21), (1, 16, 35), (1, 1, 15)]], [[(1, 5, 28), (-1, 9, 20), (1, 9, 28), (-1, 1, 20)], [(1, 3, 7), (-1, 1, 5), (-1, 1, 14), (1, 3, 10)], [(1, 15, 28), (1, 1, 60), (-1, 25, 84), (-1, 3, 20)], [(1, 5, 14), (1, 1, 2), (1, 1, 7), (0, 0, 1)]], [[(1, 5, 42), (-1, 8, 21), (1, 27, 70), (-1, 4, 35), (0, 0, 1)], [(1, 20, 63), (-1, 14, 45), (0, 0, 1), (1, 5, 21), (-1, 2, 15)], [(1, 10, 21), (-1, 4, 105), (-1, 8, 35), (1, 2, 35), (1, 1, 5)], [(1, 10, 21), (1, 2, 21), (-1, 6, 35), (-1, 9, 35), (0, 0, 1)], [(1, 5, 18), (1, 32, 63), (1, 3, 14), (0, 0, 1), (0, 0, 1)]], [[(1, 1, 12), (-1, 9, 28), (1, 5, 12), (-1, 5, 28), (0, 0, 1), (0, 0, 1)], [(1, 5, 21), (-1, 5, 14), (1, 1, 30), (1, 1, 7), (-1, 8, 35), (0, 0, 1)], [(1, 25, 63), (-1, 1, 7), (-1, 4, 45), (1, 4, 21), (1, 1, 70), (-1, 1, 6)], [(1, 10, 21), (0, 0, 1), (-1, 4, 15), (0, 0, 1), (1, 9, 35), (0, 0, 1)], [(1, 5, 12), (1, 5, 28), (-1, 1, 12), (-1, 9, 28), (0, 0, 1), (0, 0, 1)], [(1, 2, 9), (1, 1, 2), (1, 5, 18), (0, 0, 1), (0, 0, 1), (0, 0, 1)]], [[(1, 2, 33), (-1, 3, 11), (1, 3, 7), (-1, 5, 21), (0, 0, 1), (0, 0, 1)], [(1, 2, 11), (-1, 169, 462), (1, 2, 21), (1, 1, 14), (-1, 2, 7), (0, 0, 1)], [(1, 25, 77), (-1, 160, 693), (-1, 1, 63), (1, 8, 35), (-1, 1, 105), (-1, 4, 21)], [(1, 100, 231), (-1, 10, 231), (-1, 4, 21), (1, 8, 105), (1, 4, 35), (-1, 1, 7)], [(1, 5, 11), (1, 5, 231), (-1, 5, 21), (-1, 1, 35), (1, 9, 35), (0, 0, 1)], [(1, 4, 11), (1, 49, 198), (-1, 2, 63), (-1, 5, 14), (0, 0, 1), (0, 0, 1)], [(1, 2, 11), (1, 16, 33), (1, 1, 3), (0, 0, 1), (0, 0, 1), (0, 0, 1)]]], [[[(1, 1, 1)]], [[(1, 1, 3), (-1, 2, 3)], [(1, 5, 6), (1, 1, 6)]], [[(1, 1, 7), (-1, 16, 35), (1, 2, 5)], [(1, 10, 21), (-1, 9, 35), (-1, 4, 15)], [(1, 5, 7), (1, 2, 7), (0, 0, 1)]], [[(1, 1, 14), (-1, 3, 10), (1, 3, 7), (-1, 1, 5)], [(1, 15, 56), (-1, 49, 120), (1, 1, 42), (1, 3, 10)], [(1, 15, 28), (-1, 1, 12), (-1, 8, 21), (0, 0, 1)], [(1, 5, 8), (1, 3, 8), (0, 0, 1), (0, 0, 1)]], [[(1, 5, 126), (-1, 64, 315), (1, 27, 70), (-1, 32, 105), (1, 1, 15)], [(1, 10, 63), (-1, 121, 315), (1, 6, 35), (1, 2, 105), (-1, 4, 15)], [(1, 5, 14), (-1, 2, 7), (-1, 1, 70), (1, 12, 35), (0, 0, 1)], [(1, 5, 9), (-1, 1, 63), (-1, 3, 7), (0, 0, 1), (0, 0, 1)], [(1, 5, 9), (1, 4, 9), (0, 0, 1), (0, 0, 1), (0, 0, 1)]], [[(1, 1, 42), (-1, 1, 7), (1, 1, 3), (-1, 5, 14), (1, 1, 7), (0, 0, 1)], [(1, 25, 252), (-1, 9, 28), (1, 49, 180), (-1, 1, 84), (-1, 9, 70), (1, 1, 6)], [(1, 5, 21), (-1, 5, 14), (1, 1, 30), (1, 1, 7), (-1, 8, 35), (0, 0, 1)], [(1, 5, 12), (-1, 5, 28), (-1, 1, 12), (1, 9, 28), (0, 0, 1), (0, 0, 1)], [(1, 5, 9), (0, 0, 1), (-1, 4, 9), (0, 0, 1), (0, 0, 1), (0, 0, 1)], [(1, 1, 2), (1, 1, 2), (0, 0, 1), (0, 0, 1), (0, 0, 1), (0, 0, 1)]], [[(1, 1, 66), (-1, 8, 77), (1, 2, 7), (-1, 8, 21), (1, 3, 14), (0, 0, 1)], [(1, 5, 77), (-1, 361, 1386), (1, 20, 63), (-1, 1, 14), (-1, 1, 21), (1, 5, 21)], [(1, 25, 154), (-1, 35, 99), (1, 8, 63), (1, 1, 35), (-1, 7, 30), (1, 2, 21)], [(1, 10, 33), (-1, 45, 154), (0, 0, 1), (1, 7, 30), (-1, 6, 35), (0, 0, 1)], [(1, 5, 11), (-1, 10, 99), (-1, 10, 63), (1, 2, 7), (0, 0, 1), (0, 0, 1)], [(1, 6, 11), (1, 1, 99), (-1, 4, 9), (0, 0, 1), (0, 0, 1), (0, 0, 1)], [(1, 5, 11), (1, 6, 11), (0, 0, 1), (0, 0, 1), (0, 0, 1), (0, 0, 1)]]], [[[(1, 1, 1)]], [[(1, 1, 6), (-1, 5, 6)], [(1, 1, 1), (0, 0, 1)]], [[(1, 1, 21), (-1, 2, 7), (1, 2, 3)], [(1, 2, 7), (-1, 5, 7), (0, 0, 1)], [(1, 1, 1), (0, 0, 1), (0, 0, 1)]], [[(1, 1, 56), (-1, 1, 8), (1, 5, 14), (-1, 1, 2)], [(1, 3, 28), (-1, 5, 12), (1, 10, 21), (0, 0, 1)], [(1, 3, 8), (-1, 5, 8), (0, 0, 1), (0, 0, 1)], [(1, 1, 1), (0, 0, 1), (0, 0, 1), (0, 0, 1)]], [[(1, 1, 126), (-1, 4, 63), (1, 3, 14), (-1, 8, 21), (1, 1, 3)], [(1, 1, 21), (-1, 5, 21), (1, 3, 7), (-1, 2, 7), (0, 0, 1)], [(1, 1, 6), (-1, 10, 21), (1, 5, 14), (0, 0, 1), (0, 0, 1)], [(1, 4, 9), (-1, 5, 9), (0, 0, 1), (0, 0, 1), (0, 0, 1)], [(1, 1, 1), (0, 0, 1), (0, 0, 1), (0, 0, 1), (0, 0, 1)]], [[(1, 1, 252), (-1, 1, 28), (1, 5, 36), (-1, 25, 84), (1, 5, 14), (-1, 1, 6)], [(1, 1, 42), (-1, 1, 7), (1, 1, 3), (-1, 5, 14), (1, 1, 7), (0, 0, 1)], [(1, 1, 12), (-1, 9, 28), (1, 5, 12), (-1, 5, 28), (0, 0, 1), (0, 0, 1)], [(1, 2, 9), (-1, 1, 2), (1, 5, 18), (0, 0, 1), (0, 0, 1), (0, 0, 1)], [(1, 1, 2), (-1, 1, 2), (0, 0, 1), (0, 0, 1), (0, 0, 1), (0, 0, 1)], [(1, 1, 1), (0, 0, 1), (0, 0, 1), (0, 0, 1), (0, 0, 1), (0, 0, 1)]], [[(1, 1, 462), (-1, 5, 231), (1, 2, 21), (-1, 5, 21), (1, 5, 14), (-1, 2, 7)], [(1, 1, 77), (-1, 125, 1386), (1, 16, 63), (-1, 5, 14), (1, 5, 21), (-1, 1, 21)], [(1, 1, 22), (-1, 50, 231), (1, 8, 21), (-1, 2, 7), (1, 1, 14), (0, 0, 1)], [(1, 4, 33), (-1, 25, 66), (1, 8, 21), (-1, 5, 42), (0, 0, 1), (0, 0, 1)], [(1, 3, 11), (-1, 50, 99), (1, 2, 9), (0, 0, 1), (0, 0, 1), (0, 0, 1)], [(1, 6, 11), (-1, 5, 11), (0, 0, 1), (0, 0, 1), (0, 0, 1), (0, 0, 1)], [(1, 1, 1), (0, 0, 1), (0, 0, 1), (0, 0, 1), (0, 0, 1), (0, 0, 1)]]]]
def jT6 : List (List (List (List (Int × Int × Int)))) := [[[[(1, 1, 1)]], [[(1, 1, 1), (0, 0, 1)], [(1, 1, 7), (1, 6, 7)]], [[(1, 1, 1), (0, 0, 1), (0, 0, 1)], [(1, 1, 4), (1, 3, 4), (0, 0, 1)], [(1, 1, 28), (1, 1, 4), (1, 5, 7)]], [[(1, 1, 1), (0, 0, 1), (0, 0, 1), (0, 0, 1)], [(1, 1, 3), (1, 2, 3), (0, 0, 1), (0, 0, 1)], [(1, 1, 12), (1, 8, 21), (1, 15, 28), (0, 0, 1)], [(1, 1, 84), (1, 2, 21), (1, 9, 28), (1, 4, 7)]], [[(1, 1, 1), (0, 0, 1), (0, 0, 1), (0, 0, 1), (0, 0, 1)], [(1, 2, 5), (1, 3, 5), (0, 0, 1), (0, 0, 1), (0, 0, 1)], [(1, 2, 15), (1, 9, 20), (1, 5, 12), (0, 0, 1), (0, 0, 1)], [(1, 1, 30), (1, 27, 140), (1, 5, 12), (1, 5, 14), (0, 0, 1)], [(1, 1, 210), (1, 3, 70), (1, 1, 6), (1, 5, 14), (1, 3, 7)]], [[(1, 1, 1), (0, 0, 1), (0, 0, 1), (0, 0, 1), (0, 0, 1), (0, 0, 1)], [(1, 5, 11), (1, 6, 11), (0, 0, 1), (0, 0, 1), (0, 0, 1), (0, 0, 1)], [(1, 2, 11), (1, 16, 33), (1, 1, 3), (0, 0, 1), (0, 0, 1), (0, 0, 1)], [(1, 2, 33), (1, 3, 11), (1, 3, 7), (1, 5, 21), (0, 0, 1), (0, 0, 1)], [(1, 1, 66), (1, 8, 77), (1, 2, 7), (1, 8, 21), (1, 3, 14), (0, 0, 1)], [(1, 1, 462), (1, 5, 231), (1, 2, 21), (1, 5, 21), (1, 5, 14), (1, 2, 7)]], [[(1, 1, 1), (0, 0, 1), (0, 0, 1), (0, 0, 1), (0, 0, 1), (0, 0, 1), (0, 0, 1)], [(1, 1, 2), (1, 1, 2), (0, 0, 1), (0, 0, 1), (0, 0, 1), (0, 0, 1), (0, 0, 1)], [(1, 5, 22), (1, 1, 2), (1, 3, 11), (0, 0, 1), (0, 0, 1), (0, 0, 1), (0, 0, 1)], [(1, 1, 11), (1, 1, 3), (1, 9, 22), (1, 1, 6), (0, 0, 1), (0, 0, 1), (0, 0, 1)], [(1, 1, 33), (1, 1, 6), (1, 27, 77), (1, 1, 3), (1, 5, 42), (0, 0, 1), (0, 0, 1)], [(1, 1, 132), (1, 5, 84), (1, 15, 77), (1, 1, 3), (1, 25, 84), (1, 3, 28), (0, 0, 1)], [(1, 1, 924), (1, 1, 84), (1, 9, 154), (1, 1, 6), (1, 25, 84), (1, 9, 28), (1, 1, 7)]]], [[[(1, 1, 1)]], [[(1, 6, 7), (-1, 1, 7)], [(1, 2, 7), (1, 5, 7)]], [[(1, 3, 4), (-1, 1, 4), (0, 0, 1)], [(1, 3, 7), (1, 1, 3), (-1, 5, 21)], [(1, 3, 28), (1, 5, 12), (1, 10, 21)]], [[(1, 2, 3), (-1, 1, 3), (0, 0, 1), (0, 0, 1)], [(1, 1, 2), (1, 1, 7), (-1, 5, 14), (0, 0, 1)], [(1, 3, 14), (1, 3, 7), (1, 1, 14), (-1, 2, 7)], [(1, 1, 21), (1, 5, 21), (1, 3, 7), (1, 2, 7)]], [[(1, 3, 5), (-1, 2, 5), (0, 0, 1), (0, 0, 1), (0, 0, 1)], [(1, 8, 15), (1, 1, 20), (-1, 5, 12), (0, 0, 1), (0, 0, 1)], [(1, 3, 10), (1, 12, 35), (0, 0, 1), (-1, 5, 14), (0, 0, 1)], [(1, 4, 35), (1, 7, 20), (1, 1, 4), (0, 0, 1), (-1, 2, 7)], [(1, 1, 42), (1, 1, 7), (1, 1, 3), (1, 5, 14), (1, 1, 7)]], [[(1, 6, 11), (-1, 5, 11), (0, 0, 1), (0, 0, 1), (0, 0, 1), (0, 0, 1)], [(1, 6, 11), (1, 1, 99), (-1, 4, 9), (0, 0, 1), (0, 0, 1), (0, 0, 1)], [(1, 4, 11), (1, 49, 198), (-1, 2, 63), (-1, 5, 14), (0, 0, 1), (0, 0, 1)], [(1, 2, 11), (1, 169, 462), (1, 2, 21), (-1, 1, 14), (-1, 2, 7), (0, 0, 1)], [(1, 5, 77), (1, 361, 1386), (1, 20, 63), (1, 1, 14), (-1, 1, 21), (-1, 5, 21)], [(1, 1, 77), (1, 125, 1386), (1, 16, 63), (1, 5, 14), (1, 5, 21), (1, 1, 21)]], [[(1, 1, 2), (-1, 1, 2), (0, 0, 1), (0, 0, 1), (0, 0, 1), (0, 0, 1), (0, 0, 1)], [(1, 6, 11), (0, 0, 1), (-1, 5, 11), (0, 0, 1), (0, 0, 1), (0, 0, 1), (0, 0, 1)], [(1, 9, 22), (1, 1, 6), (-1, 1, 11), (-1, 1, 3), (0, 0, 1), (0, 0, 1), (0, 0, 1)], [(1, 8, 33), (1, 1, 3), (1, 3, 154), (-1, 1, 6), (-1, 5, 21), (0, 0, 1), (0, 0, 1)], [(1, 5, 44), (1, 9, 28), (1, 16, 77), (0, 0, 1), (-1, 5, 28), (-1, 5, 28), (0, 0, 1)], [(1, 3, 77), (1, 4, 21), (1, 7, 22), (1, 1, 6), (0, 0, 1), (-1, 1, 7), (-1, 1, 7)], [(1, 1, 132), (1, 5, 84), (1, 15, 77), (1, 1, 3), (1, 25, 84), (1, 3, 28), (0, 0, 1)]]], [[[(1, 1, 1)]], [[(1, 5, 7), (-1, 2, 7)], [(1, 3, 7), (1, 4, 7)]], [[(1, 15, 28), (-1, 5, 12), (1, 1, 21)], [(1, 15, 28), (1, 1, 12), (-1, 8, 21)], [(1, 3, 14), (1, 1, 2), (1, 2, 7)]], [[(1, 5, 12), (-1, 10, 21), (1, 3, 28), (0, 0, 1)], [(1, 15, 28), (0, 0, 1), (-1, 7, 20), (1, 4, 35)], [(1, 5, 14), (1, 2, 7), (-1, 1, 70), (-1, 12, 35)], [(1, 5, 42), (1, 8, 21), (1, 27, 70), (1, 4, 35)]], [[(1, 1, 3), (-1, 1, 2), (1, 1, 6), (0, 0, 1), (0, 0, 1)], [(1, 1, 2), (-1, 1, 28), (-1, 1, 4), (1, 3, 14), (0, 0, 1)], [(1, 3, 7), (1, 3, 28), (-1, 3, 20), (-1, 1, 7), (1, 6, 35)], [(1, 5, 21), (1, 5, 14), (1, 1, 30), (-1, 1, 7), (-1, 8, 35)], [(1, 1, 14), (1, 2, 7), (1, 2, 5), (1, 3, 14), (1, 1, 35)]], [[(1, 3, 11), (-1, 50, 99), (1, 2, 9), (0, 0, 1), (0, 0, 1), (0, 0, 1)], [(1, 5, 11), (-1, 10, 99), (-1, 10, 63), (1, 2, 7), (0, 0, 1), (0, 0, 1)], [(1, 5, 11), (1, 5, 231), (-1, 5, 21), (-1, 1, 35), (1, 9, 35), (0, 0, 1)], [(1, 25, 77), (1, 160, 693), (-1, 1, 63), (-1, 8, 35), (-1, 1, 105), (1, 4, 21)], [(1, 25, 154), (1, 35, 99), (1, 8, 63), (-1, 1, 35), (-1, 7, 30), (-1, 2, 21)], [(1, 1, 22), (1, 50, 231), (1, 8, 21), (1, 2, 7), (1, 1, 14), (0, 0, 1)]], [[(1, 5, 22), (-1, 1, 2), (1, 3, 11), (0, 0, 1), (0, 0, 1), (0, 0, 1), (0, 0, 1)], [(1, 9, 22), (-1, 1, 6), (-1, 1, 11), (1, 1, 3), (0, 0, 1), (0, 0, 1), (0, 0, 1)], [(1, 5, 11), (0, 0, 1), (-1, 20, 77), (0, 0, 1), (1, 2, 7), (0, 0, 1), (0, 0, 1)], [(1, 25, 66), (1, 5, 42), (-1, 15, 154), (-1, 1, 6), (1, 1, 42), (1, 3, 14), (0, 0, 1)], [(1, 75, 308), (1, 25, 84), (1, 1, 154), (-1, 1, 6), (-1, 3, 28), (1, 1, 28), (1, 1, 7)], [(1, 5, 44), (1, 9, 28), (1, 16, 77), (0, 0, 1), (-1, 5, 28), (-1, 5, 28), (0, 0, 1)], [(1, 1, 33), (1, 1, 6), (1, 27, 77), (1, 1, 3), (1, 5, 42), (0, 0, 1), (0, 0, 1)]]], [[[(1, 1, 1)]], [[(1, 4, 7), (-1, 3, 7)], [(1, 4, 7), (1, 3, 7)]], [[(1, 5, 14), (-1, 1, 2), (1, 1, 7)], [(1, 4, 7), (0, 0, 1), (-1, 3, 7)], [(1, 5, 14), (1, 1, 2), (1, 1, 7)]], [[(1, 5, 21), (-1, 10, 21), (1, 9, 35), (-1, 1, 35)], [(1, 10, 21), (-1, 2, 21), (-1, 6, 35), (1, 9, 35)], [(1, 10, 21), (1, 2, 21), (-1, 6, 35), (-1, 9, 35)], [(1, 5, 21), (1, 10, 21), (1, 9, 35), (1, 1, 35)]], [[(1, 1, 6), (-1, 3, 7), (1, 1, 3), (-1, 1, 14), (0, 0, 1)], [(1, 8, 21), (-1, 3, 14), (-1, 1, 30), (1, 2, 7), (-1, 3, 35)], [(1, 10, 21), (0, 0, 1), (-1, 4, 15), (0, 0, 1), (1, 9, 35)], [(1, 8, 21), (1, 3, 14), (-1, 1, 30), (-1, 2, 7), (-1, 3, 35)], [(1, 1, 6), (1, 3, 7), (1, 1, 3), (1, 1, 14), (0, 0, 1)]], [[(1, 4, 33), (-1, 25, 66), (1, 8, 21), (-1, 5, 42), (0, 0, 1), (0, 0, 1)], [(1, 10, 33), (-1, 45, 154), (0, 0, 1), (1, 7, 30), (-1, 6, 35), (0, 0, 1)], [(1, 100, 231), (-1, 10, 231), (-1, 4, 21), (1, 8, 105), (1, 4, 35), (-1, 1, 7)], [(1, 100, 231), (1, 10, 231), (-1, 4, 21), (-1, 8, 105), (1, 4, 35), (1, 1, 7)], [(1, 10, 33), (1, 45, 154), (0, 0, 1), (-1, 7, 30), (-1, 6, 35), (0, 0, 1)], [(1, 4, 33), (1, 25, 66), (1, 8, 21), (1, 5, 42), (0, 0, 1), (0, 0, 1)]], [[(1, 1, 11), (-1, 1, 3), (1, 9, 22), (-1, 1, 6), (0, 0, 1), (0, 0, 1), (0, 0, 1)], [(1, 8, 33), (-1, 1, 3), (1, 3, 154), (1, 1, 6), (-1, 5, 21), (0, 0, 1), (0, 0, 1)], [(1, 25, 66), (-1, 5, 42), (-1, 15, 154), (1, 1, 6), (1, 1, 42), (-1, 3, 14), (0, 0, 1)], [(1, 100, 231), (0, 0, 1), (-1, 18, 77), (0, 0, 1), (1, 4, 21), (0, 0, 1), (-1, 1, 7)], [(1, 25, 66), (1, 5, 42), (-1, 15, 154), (-1, 1, 6), (1, 1, 42), (1, 3, 14), (0, 0, 1)], [(1, 8, 33), (1, 1, 3), (1, 3, 154), (-1, 1, 6), (-1, 5, 21), (0, 0, 1), (0, 0, 1)], [(1, 1, 11), (1, 1, 3), (1, 9, 22), (1, 1, 6), (0, 0, 1), (0, 0, 1), (0, 0, 1)]]], [[[(1, 1, 1)]], [[(1, 3, 7), (-1, 4, 7)], [(1, 5, 7), (1, 2, 7)]], [[(1, 3, 14), (-1, 1, 2), (1, 2, 7)], [(1, 15, 28), (-1, 1, 12), (-1, 8, 21)], [(1, 15, 28), (1, 5, 12), (1, 1, 21)]], [[(1, 5, 42), (-1, 8, 21), (1, 27, 70), (-1, 4, 35)], [(1, 5, 14), (-1, 2, 7), (-1, 1, 70), (1, 12, 35)], [(1, 15, 28), (0, 0, 1), (-1, 7, 20), (-1, 4, 35)], [(1, 5, 12), (1, 10, 21), (1, 3, 28), (0, 0, 1)]], [[(1, 1, 14), (-1, 2, 7), (1, 2, 5), (-1, 3, 14), (1, 1, 35)], [(1, 5, 21), (-1, 5, 14), (1, 1, 30), (1, 1, 7), (-1, 8, 35)], [(1, 3, 7), (-1, 3, 28), (-1, 3, 20), (1, 1, 7), (1, 6, 35)], [(1, 1, 2), (1, 1, 28), (-1, 1, 4), (-1, 3, 14), (0, 0, 1)], [(1, 1, 3), (1, 1, 2), (1, 1, 6), (0, 0, 1), (0, 0, 1)]], [[(1, 1, 22), (-1, 50, 231), (1, 8, 21), (-1, 2, 7), (1, 1, 14), (0, 0, 1)], [(1, 25, 154), (-1, 35, 99), (1, 8, 63), (1, 1, 35), (-1, 7, 30), (1, 2, 21)], [(1, 25, 77), (-1, 160, 693), (-1, 1, 63), (1, 8, 35), (-1, 1, 105), (-1, 4, 21)], [(1, 5, 11), (-1, 5, 231), (-1, 5, 21), (1, 1, 35), (1, 9, 35), (0, 0, 1)], [(1, 5, 11), (1, 10, 99), (-1, 10, 63), (-1, 2, 7), (0, 0, 1), (0, 0, 1)], [(1, 3, 11), (1, 50, 99), (1, 2, 9), (0, 0, 1), (0, 0, 1), (0, 0, 1)]], [[(1, 1, 33), (-1, 1, 6), (1, 27, 77), (-1, 1, 3), (1, 5, 42), (0, 0, 1), (0, 0, 1)], [(1, 5, 44), (-1, 9, 28), (1, 16, 77), (0, 0, 1), (-1, 5, 28), (1, 5, 28), (0, 0, 1)], [(1, 75, 308), (-1, 25, 84), (1, 1, 154), (1, 1, 6), (-1, 3, 28), (-1, 1, 28), (1, 1, 7)], [(1, 25, 66), (-1, 5, 42), (-1, 15, 154), (1, 1, 6), (1, 1, 42), (-1, 3, 14), (0, 0, 1)], [(1, 5, 11), (0, 0, 1), (-1, 20, 77), (0, 0, 1), (1, 2, 7), (0, 0, 1), (0, 0, 1)], [(1, 9, 22), (1, 1, 6), (-1, 1, 11), (-1, 1, 3), (0, 0, 1), (0, 0, 1), (0, 0, 1)], [(1, 5, 22), (1, 1, 2), (1, 3, 11), (0, 0, 1), (0, 0, 1), (0, 0, 1), (0, 0, 1)]]], [[[(1, 1, 1)]], [[(1, 2, 7), (-1, 5, 7)], [(1, 6, 7), (1, 1, 7)]], [[(1, 3, 28), (-1, 5, 12), (1, 10, 21)], [(1, 3, 7), (-1, 1, 3), (-1, 5, 21)], [(1, 3, 4), (1, 1, 4), (0, 0, 1)]], [[(1, 1, 21), (-1, 5, 21), (1, 3, 7), (-1, 2, 7)], [(1, 3, 14), (-1, 3, 7), (1, 1, 14), (1, 2, 7)], [(1, 1, 2), (-1, 1, 7), (-1, 5, 14), (0, 0, 1)], [(1, 2, 3), (1, 1, 3), (0, 0, 1), (0, 0, 1)]], [[(1, 1, 42), (-1, 1, 7), (1, 1, 3), (-1, 5, 14), (1, 1, 7)], [(1, 4, 35), (-1, 7, 20), (1, 1, 4), (0, 0, 1), (-1, 2, 7)], [(1, 3, 10), (-1, 12, 35), (0, 0, 1), (1, 5, 14), (0, 0, 1)], [(1, 8, 15), (-1, 1, 20), (-1, 5, 12), (0, 0, 1), (0, 0, 1)], [(1, 3, 5), (1, 2, 5), (0, 0, 1), (0, 0, 1), (0, 0, 1)]], [[(1, 1, 77), (-1, 125, 1386), (1, 16, 63), (-1, 5, 14), (1, 5, 21), (-1, 1, 21)], [(1, 5, 77), (-1, 361, 1386), (1, 20, 63), (-1, 1, 14), (-1, 1, 21), (1, 5, 21)], [(1, 2, 11), (-1, 169, 462), (1, 2, 21), (1, 1, 14), (-1, 2, 7), (0, 0, 1)], [(1, 4, 11), (-1, 49, 198), (-1, 2, 63), (1, 5, 14), (0, 0, 1), (0, 0, 1)], [(1, 6, 11), (-1, 1, 99), (-1, 4, 9), (0, 0, 1), (0, 0, 1), (0, 0, 1)], [(1, 6, 11), (1, 5, 11), (0, 0, 1), (0, 0, 1), (0, 0, 1), (0, 0, 1)]], [[(1, 1, 132), (-1, 5, 84), (1, 15, 77), (-1, 1, 3), (1, 25, 84), (-1, 3, 28), (0, 0, 1)], [(1, 3, 77), (-1, 4, 21), (1, 7, 22), (-1, 1, 6), (0, 0, 1), (1, 1, 7), (-1, 1, 7)], [(1, 5, 44), (-1, 9, 28), (1, 16, 77), (0, 0, 1), (-1, 5, 28), (1, 5, 28), (0, 0, 1)], [(1, 8, 33), (-1, 1, 3), (1, 3, 154), (1, 1, 6), (-1, 5, 21), (0, 0, 1), (0, 0, 1)], [(1, 9, 22), (-1, 1, 6), (-1, 1, 11), (1, 1, 3), (0, 0, 1), (0, 0, 1), (0, 0, 1)], [(1, 6, 11), (0, 0, 1), (-1, 5, 11), (0, 0, 1), (0, 0, 1), (0, 0, 1), (0, 0, 1)], [(1, 1, 2), (1, 1, 2), (0, 0, 1), (0, 0, 1), (0, 0, 1), (0, 0, 1), (0, 0, 1)]]], [[[(1, 1, 1)]], [[(1, 1, 7), (-1, 6, 7)], [(1, 1, 1), (0, 0, 1)]], [[(1, 1, 28), (-1, 1, 4), (1, 5, 7)], [(1, 1, 4), (-1, 3, 4), (0, 0, 1)], [(1, 1, 1), (0, 0, 1), (0, 0, 1)]], [[(1, 1, 84), (-1, 2, 21), (1, 9, 28), (-1, 4, 7)], [(1, 1, 12), (-1, 8, 21), (1, 15, 28), (0, 0, 1)], [(1, 1, 3), (-1, 2, 3), (0, 0, 1), (0, 0, 1)], [(1, 1, 1), (0, 0, 1), (0, 0, 1), (0, 0, 1)]], [[(1, 1, 210), (-1, 3, 70), (1, 1, 6), (-1, 5, 14), (1, 3, 7)], [(1, 1, 30), (-1, 27, 140), (1, 5, 12), (-1, 5, 14), (0, 0, 1)], [(1, 2, 15), (-1, 9, 20), (1, 5, 12), (0, 0, 1), (0, 0, 1)], [(1, 2, 5), (-1, 3, 5), (0, 0, 1), (0, 0, 1), (0, 0, 1)], [(1, 1, 1), (0, 0, 1), (0, 0, 1), (0, 0, 1), (0, 0, 1)]], [[(1, 1, 462), (-1, 5, 231), (1, 2, 21), (-1, 5, 21), (1, 5, 14), (-1, 2, 7)], [(1, 1, 66), (-1, 8, 77), (1, 2, 7), (-1, 8, 21), (1, 3, 14), (0, 0, 1)], [(1, 2, 33), (-1, 3, 11), (1, 3, 7), (-1, 5, 21), (0, 0, 1), (0, 0, 1)], [(1, 2, 11), (-1, 16, 33), (1, 1, 3), (0, 0, 1), (0, 0, 1), (0, 0, 1)], [(1, 5, 11), (-1, 6, 11), (0, 0, 1), (0, 0, 1), (0, 0, 1), (0, 0, 1)], [(1, 1, 1), (0, 0, 1), (0, 0, 1), (0, 0, 1), (0, 0, 1), (0, 0, 1)]], [[(1, 1, 924), (-1, 1, 84), (1, 9, 154), (-1, 1, 6), (1, 25, 84), (-1, 9, 28), (1, 1, 7)], [(1, 1, 132), (-1, 5, 84), (1, 15, 77), (-1, 1, 3), (1, 25, 84), (-1, 3, 28), (0, 0, 1)], [(1, 1, 33), (-1, 1, 6), (1, 27, 77), (-1, 1, 3), (1, 5, 42), (0, 0, 1), (0, 0, 1)], [(1, 1, 11), (-1, 1, 3), (1, 9, 22), (-1, 1, 6), (0, 0, 1), (0, 0, 1), (0, 0, 1)], [(1, 5, 22), (-1, 1, 2), (1, 3, 11), (0, 0, 1), (0, 0, 1), (0, 0, 1), (0, 0, 1)], [(1, 1, 2), (-1, 1, 2), (0, 0, 1), (0, 0, 1), (0, 0, 1), (0, 0, 1), (0, 0, 1)], [(1, 1, 1), (0, 0, 1), (0, 0, 1), (0, 0, 1), (0, 0, 1), (0, 0, 1), (0, 0, 1)]]]]
def jTab : List (List (List (List (List (Int × Int × Int))))) := [jT0, jT1, jT2, jT3, jT4, jT5, jT6]
def jN (a i b j m : Nat) : Int × Int × Int := ((((jTab.getD a []).getD i []).getD b []).getD j []).getD m (0, 0, 1)
def jV (a x b y c : Int) : Int × Int × Int := jN a.toNat ((a - x) / 2).toNat b.toNat ((b - y) / 2).toNat ((a + b - c) / 2).toNat
def jE : Option (Int × Int × Int) → Int × Int × Int → Bool
  | some (s, u, d), (s', u', d') => decide (s = s') && (decide (u = u') && decide (d = d'))
  | none, _ => false
theorem jE_eq {o : Option (Int × Int × Int)} {t : Int × Int × Int} (h : jE o t = true) : o = some (t.1, t.2.1, t.2.2) := by
  obtain ⟨s', u', d'⟩ := t
  cases o with
  | none => cases h
  | some z =>
    obtain ⟨s, u, d⟩ := z
    unfold jE at h
    rw [Bool.and_eq_true, Bool.and_eq_true] at h
    obtain ⟨h1, h2, h3⟩ := h
    rw [of_decide_eq_true h1, of_decide_eq_true h2, of_decide_eq_true h3]
noncomputable def jCk (a b i j m : Nat) : Bool := match decide (m ≤ i + j) && decide (i + j + m ≤ a + b) with
  | false => true
  | true => jE (oJ (md_js 20 (a : Int) ((a : Int) - 2 * (i : Int)) (b : Int) ((b : Int) - 2 * (j : Int)) ((a : Int) + (b : Int) - 2 * (m : Int)))) (jN a i b j m) && jE (o3 (md_jn 60 (a : Int) ((a : Int) - 2 * (i : Int)) (b : Int) ((b : Int) - 2 * (j : Int)) ((a : Int) + (b : Int) - 2 * (m : Int)))) (jN a i b j m)
noncomputable def jRow (a b i : Nat) : Bool := (List.range (b + 1)).all fun j => (List.range (min a b + 1)).all fun m => jCk a b i j m
end Go.Proofs.Ytbhfjdlhhjeknaa.Ab

namespace Go.Proofs.Ytbhfjdlhhjeknaa.Ab
set_option linter.unusedVariables false
set_option linter.unusedSimpArgs false
open Go
theorem jr_0_0_0 : jRow 0 0 0 = true := by kernel_rfl
theorem jr_0_1_0 : jRow 0 1 0 = true := by kernel_rfl
theorem jr_0_2_0 : jRow 0 2 0 = true := by kernel_rfl
theorem jr_0_3_0 : jRow 0 3 0 = true := by kernel_rfl
theorem jr_0_4_0 : jRow 0 4 0 = true := by kernel_rfl
theorem jr_0_5_0 : jRow 0 5 0 = true := by kernel_rfl
theorem jr_0_6_0 : jRow 0 6 0 = true := by kernel_rfl
theorem jr_1_0_0 : jRow 1 0 0 = true := by kernel_rfl
theorem jr_1_0_1 : jRow 1 0 1 = true := by kernel_rfl
theorem jr_1_1_0 : jRow 1 1 0 = true := by kernel_rfl
theorem jr_1_1_1 : jRow 1 1 1 = true := by kernel_rfl
theorem jr_1_2_0 : jRow 1 2 0 = true := by kernel_rfl
theorem jr_1_2_1 : jRow 1 2 1 = true := by kernel_rfl
theorem jr_1_3_0 : jRow 1 3 0 = true := by kernel_rfl
theorem jr_1_3_1 : jRow 1 3 1 = true := by kernel_rfl
theorem jr_1_4_0 : jRow 1 4 0 = true := by kernel_rfl
theorem jr_1_4_1 : jRow 1 4 1 = true := by kernel_rfl
theorem jr_1_5_0 : jRow 1 5 0 = true := by kernel_rfl
theorem jr_1_5_1 : jRow 1 5 1 = true := by kernel_rfl
theorem jr_1_6_0 : jRow 1 6 0 = true := by kernel_rfl
theorem jr_1_6_1 : jRow 1 6 1 = true := by kernel_rfl
theorem jr_2_0_0 : jRow 2 0 0 = true := by kernel_rfl
theorem jr_2_0_1 : jRow 2 0 1 = true := by kernel_rfl
theorem jr_2_0_2 : jRow 2 0 2 = true := by kernel_rfl
theorem jr_2_1_0 : jRow 2 1 0 = true := by kernel_rfl
theorem jr_2_1_1 : jRow 2 1 1 = true := by kernel_rfl
theorem jr_2_1_2 : jRow 2 1 2 = true := by kernel_rfl
theorem jr_2_2_0 : jRow 2 2 0 = true := by kernel_rfl
theorem jr_2_2_1 : jRow 2 2 1 = true := by kernel_rfl
theorem jr_2_2_2 : jRow 2 2 2 = true := by kernel_rfl
theorem jr_2_3_0 : jRow 2 3 0 = true := by kernel_rfl
theorem jr_2_3_1 : jRow 2 3 1 = true := by kernel_rfl
theorem jr_2_3_2 : jRow 2 3 2 = true := by kernel_rfl
theorem jr_2_4_0 : jRow 2 4 0 = true := by kernel_rfl
theorem jr_2_4_1 : jRow 2 4 1 = true := by kernel_rfl
theorem jr_2_4_2 : jRow 2 4 2 = true := by kernel_rfl
theorem jr_2_5_0 : jRow 2 5 0 = true := by kernel_rfl
theorem jr_2_5_1 : jRow 2 5 1 = true := by kernel_rfl
theorem jr_2_5_2 : jRow 2 5 2 = true := by kernel_rfl
theorem jr_2_6_0 : jRow 2 6 0 = true := by kernel_rfl
theorem jr_2_6_1 : jRow 2 6 1 = true := by kernel_rfl
theorem jr_2_6_2 : jRow 2 6 2 = true := by kernel_rfl
theorem jr_3_0_0 : jRow 3 0 0 = true := by kernel_rfl
theorem jr_3_0_1 : jRow 3 0 1 = true := by kernel_rfl
theorem jr_3_0_2 : jRow 3 0 2 = true := by kernel_rfl
theorem jr_3_0_3 : jRow 3 0 3 = true := by kernel_rfl
theorem jr_3_1_0 : jRow 3 1 0 = true := by kernel_rfl
theorem jr_3_1_1 : jRow 3 1 1 = true := by kernel_rfl
theorem jr_3_1_2 : jRow 3 1 2 = true := by kernel_rfl
theorem jr_3_1_3 : jRow 3 1 3 = true := by kernel_rfl
theorem jr_3_2_0 : jRow 3 2 0 = true := by kernel_rfl
theorem jr_3_2_1 : jRow 3 2 1 = true := by kernel_rfl
theorem jr_3_2_2 : jRow 3 2 2 = true := by kernel_rfl
theorem jr_3_2_3 : jRow 3 2 3 = true := by kernel_rfl
theorem jr_3_3_0 : jRow 3 3 0 = true := by kernel_rfl
theorem jr_3_3_1 : jRow 3 3 1 = true := by kernel_rfl
theorem jr_3_3_2 : jRow 3 3 2 = true := by kernel_rfl
theorem jr_3_3_3 : jRow 3 3 3 = true := by kernel_rfl
theorem jr_3_4_0 : jRow 3 4 0 = true := by kernel_rfl
theorem jr_3_4_1 : jRow 3 4 1 = true := by kernel_rfl
theorem jr_3_4_2 : jRow 3 4 2 = true := by kernel_rfl
theorem jr_3_4_3 : jRow 3 4 3 = true := by kernel_rfl
theorem jr_3_5_0 : jRow 3 5 0 = true := by kernel_rfl
theorem jr_3_5_1 : jRow 3 5 1 = true := by kernel_rfl
theorem jr_3_5_2 : jRow 3 5 2 = true := by kernel_rfl
theorem jr_3_5_3 : jRow 3 5 3 = true := by kernel_rfl
theorem jr_3_6_0 : jRow 3 6 0 = true := by kernel_rfl
theorem jr_3_6_1 : jRow 3 6 1 = true := by kernel_rfl
theorem jr_3_6_2 : jRow 3 6 2 = true := by kernel_rfl
theorem jr_3_6_3 : jRow 3 6 3 = true := by kernel_rfl
theorem jr_4_0_0 : jRow 4 0 0 = true := by kernel_rfl
theorem jr_4_0_1 : jRow 4 0 1 = true := by kernel_rfl
theorem jr_4_0_2 : jRow 4 0 2 = true := by kernel_rfl
theorem jr_4_0_3 : jRow 4 0 3 = true := by kernel_rfl
theorem jr_4_0_4 : jRow 4 0 4 = true := by kernel_rfl
theorem jr_4_1_0 : jRow 4 1 0 = true := by kernel_rfl
theorem jr_4_1_1 : jRow 4 1 1 = true := by kernel_rfl
theorem jr_4_1_2 : jRow 4 1 2 = true := by kernel_rfl
theorem jr_4_1_3 : jRow 4 1 3 = true := by kernel_rfl
theorem jr_4_1_4 : jRow 4 1 4 = true := by kernel_rfl
theorem jr_4_2_0 : jRow 4 2 0 = true := by kernel_rfl
theorem jr_4_2_1 : jRow 4 2 1 = true := by kernel_rfl
theorem jr_4_2_2 : jRow 4 2 2 = true := by kernel_rfl
theorem jr_4_2_3 : jRow 4 2 3 = true := by kernel_rfl
theorem jr_4_2_4 : jRow 4 2 4 = true := by kernel_rfl
theorem jr_4_3_0 : jRow 4 3 0 = true := by kernel_rfl
theorem jr_4_3_1 : jRow 4 3 1 = true := by kernel_rfl
theorem jr_4_3_2 : jRow 4 3 2 = true := by kernel_rfl
theorem jr_4_3_3 : jRow 4 3 3 = true := by kernel_rfl
theorem jr_4_3_4 : jRow 4 3 4 = true := by kernel_rfl
theorem jr_4_4_0 : jRow 4 4 0 = true := by kernel_rfl
theorem jr_4_4_1 : jRow 4 4 1 = true := by kernel_rfl
theorem jr_4_4_2 : jRow 4 4 2 = true := by kernel_rfl
theorem jr_4_4_3 : jRow 4 4 3 = true := by kernel_rfl
theorem jr_4_4_4 : jRow 4 4 4 = true := by kernel_rfl
theorem jr_4_5_0 : jRow 4 5 0 = true := by kernel_rfl
theorem jr_4_5_1 : jRow 4 5 1 = true := by kernel_rfl
theorem jr_4_5_2 : jRow 4 5 2 = true := by kernel_rfl
theorem jr_4_5_3 : jRow 4 5 3 = true := by kernel_rfl
theorem jr_4_5_4 : jRow 4 5 4 = true := by kernel_rfl
theorem jr_4_6_0 : jRow 4 6 0 = true := by kernel_rfl
theorem jr_4_6_1 : jRow 4 6 1 = true := by kernel_rfl
theorem jr_4_6_2 : jRow 4 6 2 = true := by kernel_rfl
theorem jr_4_6_3 : jRow 4 6 3 = true := by kernel_rfl
theorem jr_4_6_4 : jRow 4 6 4 = true := by kernel_rfl
end Go.Proofs.Ytbhfjdlhhjeknaa.Ab

namespace Go.Proofs.Ytbhfjdlhhjeknaa.Ab
set_option linter.unusedVariables false
set_option linter.unusedSimpArgs false
open Go
theorem jr_5_0_0 : jRow 5 0 0 = true := by kernel_rfl
theorem jr_5_0_1 : jRow 5 0 1 = true := by kernel_rfl
theorem jr_5_0_2 : jRow 5 0 2 = true := by kernel_rfl
theorem jr_5_0_3 : jRow 5 0 3 = true := by kernel_rfl
theorem jr_5_0_4 : jRow 5 0 4 = true := by kernel_rfl
theorem jr_5_0_5 : jRow 5 0 5 = true := by kernel_rfl
theorem jr_5_1_0 : jRow 5 1 0 = true := by kernel_rfl
theorem jr_5_1_1 : jRow 5 1 1 = true := by kernel_rfl
theorem jr_5_1_2 : jRow 5 1 2 = true := by kernel_rfl
theorem jr_5_1_3 : jRow 5 1 3 = true := by kernel_rfl
theorem jr_5_1_4 : jRow 5 1 4 = true := by kernel_rfl
theorem jr_5_1_5 : jRow 5 1 5 = true := by kernel_rfl
theorem jr_5_2_0 : jRow 5 2 0 = true := by kernel_rfl
theorem jr_5_2_1 : jRow 5 2 1 = true := by kernel_rfl
theorem jr_5_2_2 : jRow 5 2 2 = true := by kernel_rfl
theorem jr_5_2_3 : jRow 5 2 3 = true := by kernel_rfl
theorem jr_5_2_4 : jRow 5 2 4 = true := by kernel_rfl
theorem jr_5_2_5 : jRow 5 2 5 = true := by kernel_rfl
theorem jr_5_3_0 : jRow 5 3 0 = true := by kernel_rfl
theorem jr_5_3_1 : jRow 5 3 1 = true := by kernel_rfl
theorem jr_5_3_2 : jRow 5 3 2 = true := by kernel_rfl
theorem jr_5_3_3 : jRow 5 3 3 = true := by kernel_rfl
theorem jr_5_3_4 : jRow 5 3 4 = true := by kernel_rfl
theorem jr_5_3_5 : jRow 5 3 5 = true := by kernel_rfl
theorem jr_5_4_0 : jRow 5 4 0 = true := by kernel_rfl
theorem jr_5_4_1 : jRow 5 4 1 = true := by kernel_rfl
theorem jr_5_4_2 : jRow 5 4 2 = true := by kernel_rfl
theorem jr_5_4_3 : jRow 5 4 3 = true := by kernel_rfl
theorem jr_5_4_4 : jRow 5 4 4 = true := by kernel_rfl
theorem jr_5_4_5 : jRow 5 4 5 = true := by kernel_rfl
theorem jr_5_5_0 : jRow 5 5 0 = true := by kernel_rfl
theorem jr_5_5_1 : jRow 5 5 1 = true := by kernel_rfl
theorem jr_5_5_2 : jRow 5 5 2 = true := by kernel_rfl
theorem jr_5_5_3 : jRow 5 5 3 = true := by kernel_rfl
theorem jr_5_5_4 : jRow 5 5 4 = true := by kernel_rfl
theorem jr_5_5_5 : jRow 5 5 5 = true := by kernel_rfl
theorem jr_5_6_0 : jRow 5 6 0 = true := by kernel_rfl
theorem jr_5_6_1 : jRow 5 6 1 = true := by kernel_rfl
theorem jr_5_6_2 : jRow 5 6 2 = true := by kernel_rfl
theorem jr_5_6_3 : jRow 5 6 3 = true := by kernel_rfl
theorem jr_5_6_4 : jRow 5 6 4 = true := by kernel_rfl
theorem jr_5_6_5 : jRow 5 6 5 = true := by kernel_rfl
end Go.Proofs.Ytbhfjdlhhjeknaa.Ab

namespace Go.Proofs.Ytbhfjdlhhjeknaa.Ab
set_option linter.unusedVariables false
set_option linter.unusedSimpArgs false
open Go
theorem jr_6_0_0 : jRow 6 0 0 = true := by kernel_rfl
theorem jr_6_0_1 : jRow 6 0 1 = true := by kernel_rfl
theorem jr_6_0_2 : jRow 6 0 2 = true := by kernel_rfl
theorem jr_6_0_3 : jRow 6 0 3 = true := by kernel_rfl
theorem jr_6_0_4 : jRow 6 0 4 = true := by kernel_rfl
theorem jr_6_0_5 : jRow 6 0 5 = true := by kernel_rfl
theorem jr_6_0_6 : jRow 6 0 6 = true := by kernel_rfl
theorem jr_6_1_0 : jRow 6 1 0 = true := by kernel_rfl
theorem jr_6_1_1 : jRow 6 1 1 = true := by kernel_rfl
theorem jr_6_1_2 : jRow 6 1 2 = true := by kernel_rfl
theorem jr_6_1_3 : jRow 6 1 3 = true := by kernel_rfl
theorem jr_6_1_4 : jRow 6 1 4 = true := by kernel_rfl
theorem jr_6_1_5 : jRow 6 1 5 = true := by kernel_rfl
theorem jr_6_1_6 : jRow 6 1 6 = true := by kernel_rfl
theorem jr_6_2_0 : jRow 6 2 0 = true := by kernel_rfl
theorem jr_6_2_1 : jRow 6 2 1 = true := by kernel_rfl
theorem jr_6_2_2 : jRow 6 2 2 = true := by kernel_rfl
theorem jr_6_2_3 : jRow 6 2 3 = true := by kernel_rfl
theorem jr_6_2_4 : jRow 6 2 4 = true := by kernel_rfl
theorem jr_6_2_5 : jRow 6 2 5 = true := by kernel_rfl
theorem jr_6_2_6 : jRow 6 2 6 = true := by kernel_rfl
theorem jr_6_3_0 : jRow 6 3 0 = true := by kernel_rfl
theorem jr_6_3_1 : jRow 6 3 1 = true := by kernel_rfl
theorem jr_6_3_2 : jRow 6 3 2 = true := by kernel_rfl
theorem jr_6_3_3 : jRow 6 3 3 = true := by kernel_rfl
theorem jr_6_3_4 : jRow 6 3 4 = true := by kernel_rfl
theorem jr_6_3_5 : jRow 6 3 5 = true := by kernel_rfl
theorem jr_6_3_6 : jRow 6 3 6 = true := by kernel_rfl
theorem jr_6_4_0 : jRow 6 4 0 = true := by kernel_rfl
theorem jr_6_4_1 : jRow 6 4 1 = true := by kernel_rfl
theorem jr_6_4_2 : jRow 6 4 2 = true := by kernel_rfl
theorem jr_6_4_3 : jRow 6 4 3 = true := by kernel_rfl
theorem jr_6_4_4 : jRow 6 4 4 = true := by kernel_rfl
theorem jr_6_4_5 : jRow 6 4 5 = true := by kernel_rfl
theorem jr_6_4_6 : jRow 6 4 6 = true := by kernel_rfl
theorem jr_6_5_0 : jRow 6 5 0 = true := by kernel_rfl
theorem jr_6_5_1 : jRow 6 5 1 = true := by kernel_rfl
theorem jr_6_5_2 : jRow 6 5 2 = true := by kernel_rfl
theorem jr_6_5_3 : jRow 6 5 3 = true := by kernel_rfl
theorem jr_6_5_4 : jRow 6 5 4 = true := by kernel_rfl
theorem jr_6_5_5 : jRow 6 5 5 = true := by kernel_rfl
theorem jr_6_5_6 : jRow 6 5 6 = true := by kernel_rfl
theorem jr_6_6_0 : jRow 6 6 0 = true := by kernel_rfl
theorem jr_6_6_1 : jRow 6 6 1 = true := by kernel_rfl
theorem jr_6_6_2 : jRow 6 6 2 = true := by kernel_rfl
theorem jr_6_6_3 : jRow 6 6 3 = true := by kernel_rfl
theorem jr_6_6_4 : jRow 6 6 4 = true := by kernel_rfl
theorem jr_6_6_5 : jRow 6 6 5 = true := by kernel_rfl
theorem jr_6_6_6 : jRow 6 6 6 = true := by kernel_rfl
end Go.Proofs.Ytbhfjdlhhjeknaa.Ab

namespace Go.Proofs.Ytbhfjdlhhjeknaa.Ab
set_option linter.unusedVariables false
set_option linter.unusedSimpArgs false
open Go
theorem jRow_all {a b i : Nat} (ha : a ≤ 6) (hb : b ≤ 6) (hi : i ≤ a) : jRow a b i = true := by
  have : a = 0 ∨ a = 1 ∨ a = 2 ∨ a = 3 ∨ a = 4 ∨ a = 5 ∨ a = 6 := by omega
  rcases this with rfl | rfl | rfl | rfl | rfl | rfl | rfl
  · have : b = 0 ∨ b = 1 ∨ b = 2 ∨ b = 3 ∨ b = 4 ∨ b = 5 ∨ b = 6 := by omega
    rcases this with rfl | rfl | rfl | rfl | rfl | rfl | rfl
    · obtain rfl : i = 0 := by omega
      exact jr_0_0_0
    · obtain rfl : i = 0 := by omega
      exact jr_0_1_0
    · obtain rfl : i = 0 := by omega
      exact jr_0_2_0
    · obtain rfl : i = 0 := by omega
      exact jr_0_3_0
    · obtain rfl : i = 0 := by omega
      exact jr_0_4_0
    · obtain rfl : i = 0 := by omega
      exact jr_0_5_0
    · obtain rfl : i = 0 := by omega
      exact jr_0_6_0
  · have : b = 0 ∨ b = 1 ∨ b = 2 ∨ b = 3 ∨ b = 4 ∨ b = 5 ∨ b = 6 := by omega
    rcases this with rfl | rfl | rfl | rfl | rfl | rfl | rfl
    · have : i = 0 ∨ i = 1 := by omega
      rcases this with rfl | rfl
      · exact jr_1_0_0
      · exact jr_1_0_1
    · have : i = 0 ∨ i = 1 := by omega
      rcases this with rfl | rfl
      · exact jr_1_1_0
      · exact jr_1_1_1
    · have : i = 0 ∨ i = 1 := by omega
      rcases this with rfl | rfl
      · exact jr_1_2_0
      · exact jr_1_2_1
    · have : i = 0 ∨ i = 1 := by omega
      rcases this with rfl | rfl
      · exact jr_1_3_0
      · exact jr_1_3_1
    · have : i = 0 ∨ i = 1 := by omega
      rcases this with rfl | rfl
      · exact jr_1_4_0
      · exact jr_1_4_1
    · have : i = 0 ∨ i = 1 := by omega
      rcases this with rfl | rfl
      · exact jr_1_5_0
      · exact jr_1_5_1
    · have : i = 0 ∨ i = 1 := by omega
      rcases this with rfl | rfl
      · exact jr_1_6_0
      · exact jr_1_6_1
  · have : b = 0 ∨ b = 1 ∨ b = 2 ∨ b = 3 ∨ b = 4 ∨ b = 5 ∨ b = 6 := by omega
    rcases this with rfl | rfl | rfl | rfl | rfl | rfl | rfl
    · have : i = 0 ∨ i = 1 ∨ i = 2 := by omega
      rcases this with rfl | rfl | rfl
      · exact jr_2_0_0
      · exact jr_2_0_1
      · exact jr_2_0_2
    · have : i = 0 ∨ i = 1 ∨ i = 2 := by omega
      rcases this with rfl | rfl | rfl
      · exact jr_2_1_0
      · exact jr_2_1_1
      · exact jr_2_1_2
    · have : i = 0 ∨ i = 1 ∨ i = 2 := by omega
      rcases this with rfl | rfl | rfl
      · exact jr_2_2_0
      · exact jr_2_2_1
      · exact jr_2_2_2
    · have : i = 0 ∨ i = 1 ∨ i = 2 := by omega
      rcases this with rfl | rfl | rfl
      · exact jr_2_3_0
      · exact jr_2_3_1
      · exact jr_2_3_2
    · have : i = 0 ∨ i = 1 ∨ i = 2 := by omega
      rcases this with rfl | rfl | rfl
      · exact jr_2_4_0
      · exact jr_2_4_1
      · exact jr_2_4_2
    · have : i = 0 ∨ i = 1 ∨ i = 2 := by omega
      rcases this with rfl | rfl | rfl
      · exact jr_2_5_0
      · exact jr_2_5_1
      · exact jr_2_5_2
    · have : i = 0 ∨ i = 1 ∨ i = 2 := by omega
      rcases this with rfl | rfl | rfl
      · exact jr_2_6_0
      · exact jr_2_6_1
      · exact jr_2_6_2
  · have : b = 0 ∨ b = 1 ∨ b = 2 ∨ b = 3 ∨ b = 4 ∨ b = 5 ∨ b = 6 := by omega
    rcases this with rfl | rfl | rfl | rfl | rfl | rfl | rfl
    · have : i = 0 ∨ i = 1 ∨ i = 2 ∨ i = 3 := by omega
      rcases this with rfl | rfl | rfl | rfl
      · exact jr_3_0_0
      · exact jr_3_0_1
      · exact jr_3_0_2
      · exact jr_3_0_3
    · have : i = 0 ∨ i = 1 ∨ i = 2 ∨ i = 3 := by omega
      rcases this with rfl | rfl | rfl | rfl
      · exact jr_3_1_0
      · exact jr_3_1_1
      · exact jr_3_1_2
      · exact jr_3_1_3
    · have : i = 0 ∨ i = 1 ∨ i = 2 ∨ i = 3 := by omega
      rcases this with rfl | rfl | rfl | rfl
      · exact jr_3_2_0
      · exact jr_3_2_1
      · exact jr_3_2_2
      · exact jr_3_2_3
    · have : i = 0 ∨ i = 1 ∨ i = 2 ∨ i = 3 := by omega
      rcases this with rfl | rfl | rfl | rfl
      · exact jr_3_3_0
      · exact jr_3_3_1
      · exact jr_3_3_2
      · exact jr_3_3_3
    · have : i = 0 ∨ i = 1 ∨ i = 2 ∨ i = 3 := by omega
      rcases this with rfl | rfl | rfl | rfl
      · exact jr_3_4_0
      · exact jr_3_4_1
      · exact jr_3_4_2
      · exact jr_3_4_3
    · have : i = 0 ∨ i = 1 ∨ i = 2 ∨ i = 3 := by omega
      rcases this with rfl | rfl | rfl | rfl
      · exact jr_3_5_0
      · exact jr_3_5_1
      · exact jr_3_5_2
      · exact jr_3_5_3
    · have : i = 0 ∨ i = 1 ∨ i = 2 ∨ i = 3 := by omega
      rcases this with rfl | rfl | rfl | rfl
      · exact jr_3_6_0
      · exact jr_3_6_1
      · exact jr_3_6_2
      · exact jr_3_6_3
  · have : b = 0 ∨ b = 1 ∨ b = 2 ∨ b = 3 ∨ b = 4 ∨ b = 5 ∨ b = 6 := by omega
    rcases this with rfl | rfl | rfl | rfl | rfl | rfl | rfl
    · have : i = 0 ∨ i = 1 ∨ i = 2 ∨ i = 3 ∨ i = 4 := by omega
      rcases this with rfl | rfl | rfl | rfl | rfl
      · exact jr_4_0_0
      · exact jr_4_0_1
      · exact jr_4_0_2
      · exact jr_4_0_3
      · exact jr_4_0_4
    · have : i = 0 ∨ i = 1 ∨ i = 2 ∨ i = 3 ∨ i = 4 := by omega
      rcases this with rfl | rfl | rfl | rfl | rfl
      · exact jr_4_1_0
      · exact jr_4_1_1
      · exact jr_4_1_2
      · exact jr_4_1_3
      · exact jr_4_1_4
    · have : i = 0 ∨ i = 1 ∨ i = 2 ∨ i = 3 ∨ i = 4 := by omega
      rcases this with rfl | rfl | rfl | rfl | rfl
      · exact jr_4_2_0
      · exact jr_4_2_1
      · exact jr_4_2_2
      · exact jr_4_2_3
      · exact jr_4_2_4
    · have : i = 0 ∨ i = 1 ∨ i = 2 ∨ i = 3 ∨ i = 4 := by omega
      rcases this with rfl | rfl | rfl | rfl | rfl
      · exact jr_4_3_0
      · exact jr_4_3_1
      · exact jr_4_3_2
      · exact jr_4_3_3
      · exact jr_4_3_4
    · have : i = 0 ∨ i = 1 ∨ i = 2 ∨ i = 3 ∨ i = 4 := by omega
      rcases this with rfl | rfl | rfl | rfl | rfl
      · exact jr_4_4_0
      · exact jr_4_4_1
      · exact jr_4_4_2
      · exact jr_4_4_3
      · exact jr_4_4_4
    · have : i = 0 ∨ i = 1 ∨ i = 2 ∨ i = 3 ∨ i = 4 := by omega
      rcases this with rfl | rfl | rfl | rfl | rfl
      · exact jr_4_5_0
      · exact jr_4_5_1
      · exact jr_4_5_2
      · exact jr_4_5_3
      · exact jr_4_5_4
    · have : i = 0 ∨ i = 1 ∨ i = 2 ∨ i = 3 ∨ i = 4 := by omega
      rcases this with rfl | rfl | rfl | rfl | rfl
      · exact jr_4_6_0
      · exact jr_4_6_1
      · exact jr_4_6_2
      · exact jr_4_6_3
      · exact jr_4_6_4
  · have : b = 0 ∨ b = 1 ∨ b = 2 ∨ b = 3 ∨ b = 4 ∨ b = 5 ∨ b = 6 := by omega
    rcases this with rfl | rfl | rfl | rfl | rfl | rfl | rfl
    · have : i = 0 ∨ i = 1 ∨ i = 2 ∨ i = 3 ∨ i = 4 ∨ i = 5 := by omega
      rcases this with rfl | rfl | rfl | rfl | rfl | rfl
      · exact jr_5_0_0
      · exact jr_5_0_1
      · exact jr_5_0_2
      · exact jr_5_0_3
      · exact jr_5_0_4
      · exact jr_5_0_5
    · have : i = 0 ∨ i = 1 ∨ i = 2 ∨ i = 3 ∨ i = 4 ∨ i = 5 := by omega
      rcases this with rfl | rfl | rfl | rfl | rfl | rfl
      · exact jr_5_1_0
      · exact jr_5_1_1
      · exact jr_5_1_2
      · exact jr_5_1_3
      · exact jr_5_1_4
      · exact jr_5_1_5
    · have : i = 0 ∨ i = 1 ∨ i = 2 ∨ i = 3 ∨ i = 4 ∨ i = 5 := by omega
      rcases this with rfl | rfl | rfl | rfl | rfl | rfl
      · exact jr_5_2_0
      · exact jr_5_2_1
      · exact jr_5_2_2
      · exact jr_5_2_3
      · exact jr_5_2_4
      · exact jr_5_2_5
    · have : i = 0 ∨ i = 1 ∨ i = 2 ∨ i = 3 ∨ i = 4 ∨ i = 5 := by omega
      rcases this with rfl | rfl | rfl | rfl | rfl | rfl
      · exact jr_5_3_0
      · exact jr_5_3_1
      · exact jr_5_3_2
      · exact jr_5_3_3
      · exact jr_5_3_4
      · exact jr_5_3_5
    · have : i = 0 ∨ i = 1 ∨ i = 2 ∨ i = 3 ∨ i = 4 ∨ i = 5 := by omega
      rcases this with rfl | rfl | rfl | rfl | rfl | rfl
      · exact jr_5_4_0
      · exact jr_5_4_1
      · exact jr_5_4_2
      · exact jr_5_4_3
      · exact jr_5_4_4
      · exact jr_5_4_5
    · have : i = 0 ∨ i = 1 ∨ i = 2 ∨ i = 3 ∨ i = 4 ∨ i = 5 := by omega
      rcases this with rfl | rfl | rfl | rfl | rfl | rfl
      · exact jr_5_5_0
      · exact jr_5_5_1
      · exact jr_5_5_2
      · exact jr_5_5_3
      · exact jr_5_5_4
      · exact jr_5_5_5
    · have : i = 0 ∨ i = 1 ∨ i = 2 ∨ i = 3 ∨ i = 4 ∨ i = 5 := by omega
      rcases this with rfl | rfl | rfl | rfl | rfl | rfl
      · exact jr_5_6_0
      · exact jr_5_6_1
      · exact jr_5_6_2
      · exact jr_5_6_3
      · exact jr_5_6_4
      · exact jr_5_6_5
  · have : b = 0 ∨ b = 1 ∨ b = 2 ∨ b = 3 ∨ b = 4 ∨ b = 5 ∨ b = 6 := by omega
    rcases this with rfl | rfl | rfl | rfl | rfl | rfl | rfl
    · have : i = 0 ∨ i = 1 ∨ i = 2 ∨ i = 3 ∨ i = 4 ∨ i = 5 ∨ i = 6 := by omega
      rcases this with rfl | rfl | rfl | rfl | rfl | rfl | rfl
      · exact jr_6_0_0
      · exact jr_6_0_1
      · exact jr_6_0_2
      · exact jr_6_0_3
      · exact jr_6_0_4
      · exact jr_6_0_5
      · exact jr_6_0_6
    · have : i = 0 ∨ i = 1 ∨ i = 2 ∨ i = 3 ∨ i = 4 ∨ i = 5 ∨ i = 6 := by omega
      rcases this with rfl | rfl | rfl | rfl | rfl | rfl | rfl
      · exact jr_6_1_0
      · exact jr_6_1_1
      · exact jr_6_1_2
      · exact jr_6_1_3
      · exact jr_6_1_4
      · exact jr_6_1_5
      · exact jr_6_1_6
    · have : i = 0 ∨ i = 1 ∨ i = 2 ∨ i = 3 ∨ i = 4 ∨ i = 5 ∨ i = 6 := by omega
      rcases this with rfl | rfl | rfl | rfl | rfl | rfl | rfl
      · exact jr_6_2_0
      · exact jr_6_2_1
      · exact jr_6_2_2
      · exact jr_6_2_3
      · exact jr_6_2_4
      · exact jr_6_2_5
      · exact jr_6_2_6
    · have : i = 0 ∨ i = 1 ∨ i = 2 ∨ i = 3 ∨ i = 4 ∨ i = 5 ∨ i = 6 := by omega
      rcases this with rfl | rfl | rfl | rfl | rfl | rfl | rfl
      · exact jr_6_3_0
      · exact jr_6_3_1
      · exact jr_6_3_2
      · exact jr_6_3_3
      · exact jr_6_3_4
      · exact jr_6_3_5
      · exact jr_6_3_6
    · have : i = 0 ∨ i = 1 ∨ i = 2 ∨ i = 3 ∨ i = 4 ∨ i = 5 ∨ i = 6 := by omega
      rcases this with rfl | rfl | rfl | rfl | rfl | rfl | rfl
      · exact jr_6_4_0
      · exact jr_6_4_1
      · exact jr_6_4_2
      · exact jr_6_4_3
      · exact jr_6_4_4
      · exact jr_6_4_5
      · exact jr_6_4_6
    · have : i = 0 ∨ i = 1 ∨ i = 2 ∨ i = 3 ∨ i = 4 ∨ i = 5 ∨ i = 6 := by omega
      rcases this with rfl | rfl | rfl | rfl | rfl | rfl | rfl
      · exact jr_6_5_0
      · exact jr_6_5_1
      · exact jr_6_5_2
      · exact jr_6_5_3
      · exact jr_6_5_4
      · exact jr_6_5_5
      · exact jr_6_5_6
    · have : i = 0 ∨ i = 1 ∨ i = 2 ∨ i = 3 ∨ i = 4 ∨ i = 5 ∨ i = 6 := by omega
      rcases this with rfl | rfl | rfl | rfl | rfl | rfl | rfl
      · exact jr_6_6_0
      · exact jr_6_6_1
      · exact jr_6_6_2
      · exact jr_6_6_3
      · exact jr_6_6_4
      · exact jr_6_6_5
      · exact jr_6_6_6
def canJ (a x b y c : Int) : Bool := decide (0 ≤ a ∧ a ≤ 6 ∧ -a ≤ x ∧ x ≤ a ∧ (a - x) % 2 = 0 ∧ 0 ≤ b ∧ b ≤ 6 ∧ -b ≤ y ∧ y ≤ b ∧ (b - y) % 2 = 0 ∧ a - b ≤ c ∧ b - a ≤ c ∧ c ≤ a + b ∧ (a + b - c) % 2 = 0 ∧ -c ≤ x + y ∧ x + y ≤ c)
theorem jBoth {a x b y c : Int} (h : canJ a x b y c = true) : oJ (md_js 20 a x b y c) = some ((jV a x b y c).1, (jV a x b y c).2.1, (jV a x b y c).2.2) ∧ o3 (md_jn 60 a x b y c) = some ((jV a x b y c).1, (jV a x b y c).2.1, (jV a x b y c).2.2) := by
  obtain ⟨h1, h2, h3, h4, h5, h6, h7, h8, h9, h10, h11, h12, h13, h14, h15, h16⟩ := of_decide_eq_true h
  obtain ⟨A, rfl⟩ : ∃ A : Nat, a = (A : Int) := ⟨a.toNat, by omega⟩
  obtain ⟨B, rfl⟩ : ∃ B : Nat, b = (B : Int) := ⟨b.toNat, by omega⟩
  obtain ⟨i, hi⟩ : ∃ i : Nat, ((A : Int) - x) / 2 = (i : Int) := ⟨(((A : Int) - x) / 2).toNat, by omega⟩
  obtain ⟨j, hj⟩ : ∃ j : Nat, ((B : Int) - y) / 2 = (j : Int) := ⟨(((B : Int) - y) / 2).toNat, by omega⟩
  obtain ⟨m, hm⟩ : ∃ m : Nat, ((A : Int) + (B : Int) - c) / 2 = (m : Int) := ⟨(((A : Int) + (B : Int) - c) / 2).toNat, by omega⟩
  have hx : x = (A : Int) - 2 * (i : Int) := by omega
  have hy : y = (B : Int) - 2 * (j : Int) := by omega
  have hc : c = (A : Int) + (B : Int) - 2 * (m : Int) := by omega
  have hr := jRow_all (a := A) (b := B) (i := i) (by omega) (by omega) (by omega)
  have hr2 := List.all_eq_true.mp hr j (List.mem_range.mpr (by omega))
  have hr3 := List.all_eq_true.mp hr2 m (List.mem_range.mpr (by omega))
  unfold jCk at hr3
  rw [decide_eq_true (show m ≤ i + j by omega), decide_eq_true (show i + j + m ≤ A + B by omega)] at hr3
  have hr4 := (Bool.and_eq_true _ _).mp hr3
  rw [← hx, ← hy, ← hc] at hr4
  unfold jV
  rw [hi, hj, hm]
  exact ⟨jE_eq hr4.1, jE_eq hr4.2⟩
def gJs : GT := fun vs h => match vs, h with | [.int .i64 a, .int .i64 x, .int .i64 b, .int .i64 y, .int .i64 c], [] => .ite (canJ a x b y c) (.ret (.tup [.a (.int .i64 (jV a x b y c).1), .a (.int .i64 (jV a x b y c).2.1), .a (.int .i64 (jV a x b y c).2.2), .a (.bool true)]) []) .no | _, _ => .no
def gJn : GT := fun vs h => match vs, h with | [.int .i64 a, .int .i64 x, .int .i64 b, .int .i64 y, .int .i64 c], [] => .ite (canJ a x b y c) (.ret (.tup [.a (.int .i64 (jV a x b y c).1), .a (.int .i64 (jV a x b y c).2.1), .a (.int .i64 (jV a x b y c).2.2)]) []) .no | _, _ => .no
theorem ok_js : FnT Try.prog 95 gJs := by
  refine fnT tabok_js Try.func95 rfl rfl an_js fun vs h v h' e => ⟨20, ?_⟩
  unfold gJs at e
  split at e
  case h_2 => exact (T.no_inv e).elim
  rename_i a x b y c
  obtain ⟨hd, e⟩ := T.pre_inv e
  obtain ⟨rfl, rfl⟩ := T.ret_inv e
  exact Eq.trans (mdl_js 20 a x b y c) (oJ_inv (jBoth hd).1)
theorem ok_jn : FnT Try.prog 91 gJn := by
  refine fnT tabok_jn Try.func91 rfl rfl an_jn fun vs h v h' e => ⟨60, ?_⟩
  unfold gJn at e
  split at e
  case h_2 => exact (T.no_inv e).elim
  rename_i a x b y c
  obtain ⟨hd, e⟩ := T.pre_inv e
  obtain ⟨rfl, rfl⟩ := T.ret_inv e
  exact Eq.trans (mdl_jn 60 a x b y c) (o3_inv (jBoth hd).2)
end Go.Proofs.Ytbhfjdlhhjeknaa.Ab

namespace Go.Proofs.Ytbhfjdlhhjeknaa.Ab
set_option linter.unusedVariables false
set_option linter.unusedSimpArgs false
open Go
def eqIB (l l' : List Int) : Bool := (l.length == l'.length) && (firstIx (fun p : Int × Int => p.1 != p.2) (l.zip l') 0).isNone
theorem zipI_get {l l' : List Int} {i : Nat} {x : Int × Int} (h : (l.zip l')[i]? = some x) : l[i]? = some x.1 ∧ l'[i]? = some x.2 := by
  rw [List.getElem?_zip_eq_some] at h
  exact h
def gNo6 : G := fun vs h => match vs, h with | [.int .i64 a], [] => some (.bool (!inB a 0 6), []) | _, _ => none
def gIxI : GT := fun vs h => match vs, h with
  | [.sl 0 0 n, .fn f'], [.at rw (.int .i64 l)] => if f' = 159 then .ite (decide (l.length = n ∧ n < 2147483648)) (.ret (.int .i64 (ixOf (fun x => !(fun a => inB a 0 6) x) l)) [.at rw (.int .i64 l)]) .no else .no
  | [.nil, .fn f'], [] => if f' = 159 then .ret (.int .i64 (-1)) [] else .no
  | _, _ => .no
def gCoI : GT := fun vs h => match vs, h with
  | [.sl 0 0 n, .fn f'], [.at rw (.int .i64 l)] => if f' = 159 then .ite (decide (l.length = n ∧ n < 2147483648)) (.ret (.bool (decide (ixOf (fun x => !(fun a => inB a 0 6) x) l ≥ 0))) [.at rw (.int .i64 l)]) .no else .no
  | [.nil, .fn f'], [] => if f' = 159 then .ret (.bool false) [] else .no
  | _, _ => .no
def turnsB (l : List Int) : Bool := l.all (fun a => inB a 0 6)
def gTurns : GT := fun vs h => match vs, h with
  | [.sl 0 0 n], [.at rw (.int .i64 l)] => .ite (decide (l.length = n ∧ n < 2147483648)) (.ret (.bool (turnsB l)) [.at rw (.int .i64 l)]) .no
  | [.nil], [] => .ret (.bool true) []
  | _, _ => .no
def tab_areT1 : Fns := tabT [(97, gT gIn)]
theorem tabok_areT1 : ∀ f, FnT Try.prog f (tab_areT1 f) := (tabT_cons (k := 97) ok_within tabT_nil)
theorem run_areT1 (N : Nat) (a : Int) : run ty tab_areT1 ann0 N Try.f159 [.int .i64 a] []
    = some (.bool (!(inB a 0 6)), []) := by
  kernel_rfl
theorem ok_areT1 : FnT Try.prog 159 (gT gNo6) := by
  refine fnT tabok_areT1 Try.func159 rfl rfl ann0 fun vs h v h' e => ⟨0, ?_⟩
  rw [T.run_of] at e
  unfold gNo6 at e
  split at e
  case h_2 => cases e
  rename_i a
  cases e
  refine Eq.trans (run_areT1 0 a) ?_
  rfl
def an_ixI : Ann := ⟨fun r => if r = 2 then some ([0, 1, 7, 8], [4]) else none, fun _ _ => .quiet⟩
def tab_ixI : Fns := tabT [(159, gT gNo6)]
theorem tabok_ixI : ∀ f, FnT Try.prog f (tab_ixI f) := (tabT_cons (k := 159) ok_areT1 tabT_nil)
def st_ixI2 (s0n : Nat) (t7 : Int) (t8 : Int) (rw0 : Bool) (l0 : List Int) : St := ⟨(.sl 0 0 s0n :: .fn 159 :: .any :: .any :: .any :: .any :: .any :: .int .i64 t7 :: .int .i64 t8 :: (anys 10 [])), [.at rw0 (.int .i64 l0)]⟩
abbrev kp_ixI2 : Option (List Nat × List Nat) := some ([0, 1, 7, 8], [4])
noncomputable def lp_ixI2 {R : Type} (N M : Nat) (s : St) (K : X → St → Option R) : Option R := loopH 1 kp_ixI2 (fun st K => exec ty tab_ixI an_ixI N 1 (atOf [true, false, true, false, false] Try.f179) st K) M s K
noncomputable def kt_ixI2 {R : Type} (N : Nat) (K : X → St → Option R) : X → St → Option R := kBlkR 0 (kSeqR tab_ixI an_ixI N 1 (atOf [true, true] Try.f179) (K))
def en_ixI2_0 (t4 : Int) (rw0 : Bool) (l0 : List Int) : St := ⟨(.any :: .any :: .any :: .any :: .int .i64 t4 :: (anys 14 [])), [.at rw0 (.int .i64 l0)]⟩
def en_ixI2_1 (rw0 : Bool) (l0 : List Int) : St := ⟨(anys 19 []), [.at rw0 (.int .i64 l0)]⟩
theorem run_ixI (N : Nat) (n : Nat) (rw : Bool) (l : List Int) : run ty tab_ixI an_ixI N Try.f179 [.sl 0 0 n, .fn 159] [.at rw (.int .i64 l)]
    = lp_ixI2 N N (st_ixI2 n ((n : Nat) : Int) 0 rw l) (kt_ixI2 N (kEnd Try.f179 1)) := by
  kernel_rfl
theorem step_ixI2 {R : Type} (N M : Nat) (K : X → St → Option R) (s0n : Nat) (t7 : Int) (t8 : Int) (rw0 : Bool) (l0 : List Int) : lp_ixI2 N (M + 1) (st_ixI2 s0n t7 t8 rw0 l0) K
    = (match decide ((t8 : Int) < t7) with | true => (match decide (0 ≤ (t8 : Int) ∧ (t8 : Int) < ((s0n : Nat) : Int)) with | true => (match l0[0 + (t8).toNat * 1]? with | some e1 => (match !(inB e1 0 6) with | true => K .ret (en_ixI2_0 t8 rw0 l0) | false => lp_ixI2 N M (st_ixI2 s0n t7 (IntKind.i64.wrap (t8 + 1)) rw0 l0) K) | none => none) | false => none) | false => K (.exit 0) (en_ixI2_1 rw0 l0)) := by
  kernel_rfl
theorem end_ixI2_0 (N : Nat) (t4 : Int) (rw0 : Bool) (l0 : List Int) : kt_ixI2 N (kEnd Try.f179 1) .ret (en_ixI2_0 t4 rw0 l0)
    = some (.int .i64 t4, [.at rw0 (.int .i64 l0)]) := by
  kernel_rfl
theorem end_ixI2_1 (N : Nat) (rw0 : Bool) (l0 : List Int) : kt_ixI2 N (kEnd Try.f179 1) (.exit 0) (en_ixI2_1 rw0 l0)
    = some (.int .i64 (-1), [.at rw0 (.int .i64 l0)]) := by
  kernel_rfl
theorem ok_ixI : FnT Try.prog 179 gIxI := by
  refine fnT tabok_ixI Try.func179 rfl rfl an_ixI fun vs h v h' e => ?_
  unfold gIxI at e
  split at e
  · rename_i n f' rw l
    split at e
    · rename_i hf
      subst hf
      obtain ⟨hd, e⟩ := T.pre_inv e
      obtain ⟨rfl, rfl⟩ := T.ret_inv e
      obtain ⟨rfl, hb⟩ := of_decide_eq_true hd
      refine ⟨l.length + 1, Eq.trans (run_ixI _ _ _ _) ?_⟩
      refine Eq.trans (scan0 l (fun x => !(fun a => inB a 0 6) x) (fun M i => lp_ixI2 (l.length + 1) M (st_ixI2 l.length ((l.length : Nat) : Int) i rw l) (kt_ixI2 (l.length + 1) (kEnd Try.f179 1))) (fun j => some (.int .i64 (j : Int), [.at rw (.int .i64 l)])) (some (.int .i64 (-1), [.at rw (.int .i64 l)])) (fun M i x hx => ?_) (fun M => ?_)) ?_
      · have hi := lt_of_get hx
        simp only [step_ixI2, dlt hi, din hi, ix, hx, wr (show i < 2147483648 by omega), end_ixI2_0] <;> (cases !inB x 0 6 <;> rfl)
      · simp only [step_ixI2, dge (Nat.le_refl _), end_ixI2_1]
      · unfold ixOf
        cases firstIx (fun x => !(fun a => inB a 0 6) x) l 0 <;> rfl
    · exact (T.no_inv e).elim
  · split at e
    · rename_i hf
      subst hf
      obtain ⟨rfl, rfl⟩ := T.ret_inv e
      exact ⟨1, by kernel_rfl⟩
    · exact (T.no_inv e).elim
  · exact (T.no_inv e).elim
def tab_coI : Fns := tabT [(179, gIxI)]
theorem tabok_coI : ∀ f, FnT Try.prog f (tab_coI f) := (tabT_cons (k := 179) ok_ixI tabT_nil)
theorem run_coI (N : Nat) (n : Nat) (rw : Bool) (l : List Int) : run ty tab_coI ann0 N Try.f158 [.sl 0 0 n, .fn 159] [.at rw (.int .i64 l)]
    = (match decide (l.length = n ∧ n < 2147483648) with | true => some (.bool (decide ((ixOf (fun x => !(fun a => inB a 0 6) x) l : Int) ≥ 0)), [.at rw (.int .i64 l)]) | false => none) := by
  kernel_rfl
theorem ok_coI : FnT Try.prog 158 gCoI := by
  refine fnT tabok_coI Try.func158 rfl rfl ann0 fun vs h v h' e => ⟨0, ?_⟩
  unfold gCoI at e
  split at e
  · split at e
    · rename_i n f' rw l hf
      subst hf
      obtain ⟨hd, e⟩ := T.pre_inv e
      obtain ⟨rfl, rfl⟩ := T.ret_inv e
      refine Eq.trans (run_coI 0 _ _ _) ?_
      rw [hd]
    · exact (T.no_inv e).elim
  · split at e
    · rename_i hf
      subst hf
      obtain ⟨rfl, rfl⟩ := T.ret_inv e
      kernel_rfl
    · exact (T.no_inv e).elim
  · exact (T.no_inv e).elim
def tab_areT : Fns := tabT [(158, gCoI)]
theorem tabok_areT : ∀ f, FnT Try.prog f (tab_areT f) := (tabT_cons (k := 158) ok_coI tabT_nil)
theorem run_areT (N : Nat) (n : Nat) (rw : Bool) (l : List Int) : run ty tab_areT ann0 N Try.f112 [.sl 0 0 n] [.at rw (.int .i64 l)]
    = (match decide (l.length = n ∧ n < 2147483648) with | true => some (.bool (!(decide (ixOf (fun x => !(fun a => inB a 0 6) x) l ≥ 0))), [.at rw (.int .i64 l)]) | false => none) := by
  kernel_rfl
theorem ok_areT : FnT Try.prog 112 gTurns := by
  refine fnT tabok_areT Try.func112 rfl rfl ann0 fun vs h v h' e => ⟨0, ?_⟩
  unfold gTurns at e
  split at e
  · obtain ⟨hd, e⟩ := T.pre_inv e
    obtain ⟨rfl, rfl⟩ := T.ret_inv e
    refine Eq.trans (run_areT 0 _ _ _) ?_
    unfold turnsB
    rw [hd, ← ix_all (fun a => inB a 0 6)]
  · obtain ⟨rfl, rfl⟩ := T.ret_inv e
    kernel_rfl
  · exact (T.no_inv e).elim
end Go.Proofs.Ytbhfjdlhhjeknaa.Ab

namespace Go.Proofs.Ytbhfjdlhhjeknaa.Ab
set_option linter.unusedVariables false
set_option linter.unusedSimpArgs false
open Go
def partW (a x : Int) : Bool := inB x (IntKind.i64.wrap (0 - a)) a && (Int.tmod (IntKind.i64.wrap (a - x)) 2 == 0)
def turnW (a x : Int) : Bool := inB a 0 6 && partW a x
def is6 (a : Int) : Bool := inB a 0 6
def gapI (a b : Int) : Int := if a > b then IntKind.i64.wrap (a - b) else IntKind.i64.wrap (b - a)
def totS (l s j : Int) : Bool := inB j (gapI l s) (IntKind.i64.wrap (l + s)) && (Int.tmod (IntKind.i64.wrap ((IntKind.i64.wrap (l + s)) - j)) 2 == 0)
def totI (l s j : Int) : Bool := decide (j ≥ (if (IntKind.i64.wrap (s - l)) > (IntKind.i64.wrap (l - s)) then IntKind.i64.wrap (s - l) else IntKind.i64.wrap (l - s))) && (decide (j ≤ (IntKind.i64.wrap (l + s))) && ((Int.tmod (IntKind.i64.wrap ((IntKind.i64.wrap (l + s)) - j)) 2) == 0))
def canS (a x b y c : Int) : Bool := turnW a x && (turnW b y && (totS a b c && partW c (IntKind.i64.wrap (x + y))))
def gpartW : G := fun vs h => match vs, h with | [.int .i64 a, .int .i64 x], [] => some (.bool (partW a x), []) | _, _ => none
def tab_l03Part : Fns := tabT [(157, gT gIn)]
theorem tabok_l03Part : ∀ f, FnT Try.prog f (tab_l03Part f) := (tabT_cons (k := 157) ok_l00In tabT_nil)
theorem run_l03Part (N : Nat) (a : Int) (x : Int) : run ty tab_l03Part ann0 N Try.f110 [.int .i64 a, .int .i64 x] []
    = (match inB x (IntKind.i64.wrap (0 - a)) a with | true => some (.bool ((Int.tmod (IntKind.i64.wrap (a - x)) 2) == 0), []) | false => some (.bool false, [])) := by
  kernel_rfl
theorem ok_l03Part : FnT Try.prog 110 (gT gpartW) := by
  refine fnT tabok_l03Part Try.func110 rfl rfl ann0 fun vs h v h' e => ⟨0, ?_⟩
  rw [T.run_of] at e
  unfold gpartW at e
  split at e
  case h_2 => cases e
  rename_i a x
  cases e
  refine Eq.trans (run_l03Part 0 a x) ?_
  unfold partW
  cases inB x (IntKind.i64.wrap (0 - a)) a <;> rfl
def tab_isPart : Fns := tabT [(97, gT gIn)]
theorem tabok_isPart : ∀ f, FnT Try.prog f (tab_isPart f) := (tabT_cons (k := 97) ok_within tabT_nil)
theorem run_isPart (N : Nat) (a : Int) (x : Int) : run ty tab_isPart ann0 N Try.f94 [.int .i64 a, .int .i64 x] []
    = (match inB x (IntKind.i64.wrap (0 - a)) a with | true => some (.bool ((Int.tmod (IntKind.i64.wrap (a - x)) 2) == 0), []) | false => some (.bool false, [])) := by
  kernel_rfl
theorem ok_isPart : FnT Try.prog 94 (gT gpartW) := by
  refine fnT tabok_isPart Try.func94 rfl rfl ann0 fun vs h v h' e => ⟨0, ?_⟩
  rw [T.run_of] at e
  unfold gpartW at e
  split at e
  case h_2 => cases e
  rename_i a x
  cases e
  refine Eq.trans (run_isPart 0 a x) ?_
  unfold partW
  cases inB x (IntKind.i64.wrap (0 - a)) a <;> rfl
def gturnW : G := fun vs h => match vs, h with | [.int .i64 a, .int .i64 x], [] => some (.bool (turnW a x), []) | _, _ => none
def tab_IsTurnI : Fns := tabT [(97, gT gIn), (94, gT gpartW)]
theorem tabok_IsTurnI : ∀ f, FnT Try.prog f (tab_IsTurnI f) := (tabT_cons (k := 97) ok_within (tabT_cons (k := 94) ok_isPart tabT_nil))
theorem run_IsTurnI (N : Nat) (a : Int) (x : Int) : run ty tab_IsTurnI ann0 N Try.f92 [.int .i64 a, .int .i64 x] []
    = (match inB a 0 6 with | true => some (.bool (partW a x), []) | false => some (.bool false, [])) := by
  kernel_rfl
theorem ok_IsTurnI : FnT Try.prog 92 (gT gturnW) := by
  refine fnT tabok_IsTurnI Try.func92 rfl rfl ann0 fun vs h v h' e => ⟨0, ?_⟩
  rw [T.run_of] at e
  unfold gturnW at e
  split at e
  case h_2 => cases e
  rename_i a x
  cases e
  refine Eq.trans (run_IsTurnI 0 a x) ?_
  unfold turnW
  cases inB a 0 6 <;> rfl
def gis6 : G := fun vs h => match vs, h with | [.int .i64 a], [] => some (.bool (is6 a), []) | _, _ => none
def tab_l03Is : Fns := tabT [(157, gT gIn)]
theorem tabok_l03Is : ∀ f, FnT Try.prog f (tab_l03Is f) := (tabT_cons (k := 157) ok_l00In tabT_nil)
theorem run_l03Is (N : Nat) (a : Int) : run ty tab_l03Is ann0 N Try.f111 [.int .i64 a] []
    = some (.bool (inB a 0 6), []) := by
  kernel_rfl
theorem ok_l03Is : FnT Try.prog 111 (gT gis6) := by
  refine fnT tabok_l03Is Try.func111 rfl rfl ann0 fun vs h v h' e => ⟨0, ?_⟩
  rw [T.run_of] at e
  unfold gis6 at e
  split at e
  case h_2 => cases e
  rename_i a
  cases e
  refine Eq.trans (run_l03Is 0 a) ?_
  rfl
def ggapI : G := fun vs h => match vs, h with | [.int .i64 a, .int .i64 b], [] => some (.int .i64 (gapI a b), []) | _, _ => none
def tab_l03Gap : Fns := tabT []
theorem tabok_l03Gap : ∀ f, FnT Try.prog f (tab_l03Gap f) := tabT_nil
theorem run_l03Gap (N : Nat) (a : Int) (b : Int) : run ty tab_l03Gap ann0 N Try.f131 [.int .i64 a, .int .i64 b] []
    = (match decide ((a : Int) > b) with | true => some (.int .i64 (IntKind.i64.wrap (a - b)), []) | false => some (.int .i64 (IntKind.i64.wrap (b - a)), [])) := by
  kernel_rfl
theorem ok_l03Gap : FnT Try.prog 131 (gT ggapI) := by
  refine fnT tabok_l03Gap Try.func131 rfl rfl ann0 fun vs h v h' e => ⟨0, ?_⟩
  rw [T.run_of] at e
  unfold ggapI at e
  split at e
  case h_2 => cases e
  rename_i a b
  cases e
  refine Eq.trans (run_l03Gap 0 a b) ?_
  unfold gapI
  by_cases h : a > b
  · rw [decide_eq_true h, if_pos h]
  · rw [decide_eq_false h, if_neg h]
def gtotS : G := fun vs h => match vs, h with | [.int .i64 l, .int .i64 s, .int .i64 j], [] => some (.bool (totS l s j), []) | _, _ => none
def tab_l03Total : Fns := tabT [(131, gT ggapI), (157, gT gIn)]
theorem tabok_l03Total : ∀ f, FnT Try.prog f (tab_l03Total f) := (tabT_cons (k := 131) ok_l03Gap (tabT_cons (k := 157) ok_l00In tabT_nil))
theorem run_l03Total (N : Nat) (l : Int) (s : Int) (j : Int) : run ty tab_l03Total ann0 N Try.f109 [.int .i64 l, .int .i64 s, .int .i64 j] []
    = (match inB j (gapI l s) (IntKind.i64.wrap (l + s)) with | true => some (.bool ((Int.tmod (IntKind.i64.wrap ((IntKind.i64.wrap (l + s)) - j)) 2) == 0), []) | false => some (.bool false, [])) := by
  kernel_rfl
theorem ok_l03Total : FnT Try.prog 109 (gT gtotS) := by
  refine fnT tabok_l03Total Try.func109 rfl rfl ann0 fun vs h v h' e => ⟨0, ?_⟩
  rw [T.run_of] at e
  unfold gtotS at e
  split at e
  case h_2 => cases e
  rename_i l s j
  cases e
  refine Eq.trans (run_l03Total 0 l s j) ?_
  unfold totS
  cases inB j (gapI l s) (IntKind.i64.wrap (l + s)) <;> rfl
def gtotI : G := fun vs h => match vs, h with | [.int .i64 l, .int .i64 s, .int .i64 j], [] => some (.bool (totI l s j), []) | _, _ => none
def tab_isTotal : Fns := tabT []
theorem tabok_isTotal : ∀ f, FnT Try.prog f (tab_isTotal f) := tabT_nil
theorem run_isTotal (N : Nat) (l : Int) (s : Int) (j : Int) : run ty tab_isTotal ann0 N Try.f93 [.int .i64 l, .int .i64 s, .int .i64 j] []
    = (match decide ((j : Int) ≥ (if (IntKind.i64.wrap (s - l)) > (IntKind.i64.wrap (l - s)) then IntKind.i64.wrap (s - l) else IntKind.i64.wrap (l - s))) with | true => (match decide ((j : Int) ≤ (IntKind.i64.wrap (l + s))) with | true => some (.bool ((Int.tmod (IntKind.i64.wrap ((IntKind.i64.wrap (l + s)) - j)) 2) == 0), []) | false => some (.bool false, [])) | false => some (.bool false, [])) := by
  kernel_rfl
theorem ok_isTotal : FnT Try.prog 93 (gT gtotI) := by
  refine fnT tabok_isTotal Try.func93 rfl rfl ann0 fun vs h v h' e => ⟨0, ?_⟩
  rw [T.run_of] at e
  unfold gtotI at e
  split at e
  case h_2 => cases e
  rename_i l s j
  cases e
  refine Eq.trans (run_isTotal 0 l s j) ?_
  unfold totI
  cases decide (j ≥ (if (IntKind.i64.wrap (s - l)) > (IntKind.i64.wrap (l - s)) then IntKind.i64.wrap (s - l) else IntKind.i64.wrap (l - s))) <;> cases decide (j ≤ (IntKind.i64.wrap (l + s))) <;> rfl
theorem inB_iff {n lo hi : Int} : inB n lo hi = true ↔ lo ≤ n ∧ n ≤ hi := by
  simp only [inB, Bool.and_eq_true, decide_eq_true_eq, ge_iff_le]
theorem wrap_n {n : Int} (h : -1000 ≤ n) (h2 : n ≤ 1000) : IntKind.i64.wrap n = n := wrap_z (by omega) (by omega)
theorem tmod2 {x : Int} (h : 0 ≤ x) : Int.tmod x 2 = x % 2 := Int.tmod_eq_emod_of_nonneg h
theorem partW_iff {a x : Int} (h0 : -100 ≤ a) (h1 : a ≤ 100) : partW a x = true ↔ -a ≤ x ∧ x ≤ a ∧ (a - x) % 2 = 0 := by
  unfold partW
  rw [wrap_n (n := 0 - a) (by omega) (by omega), Bool.and_eq_true, inB_iff]
  constructor
  · rintro ⟨⟨h2, h3⟩, h4⟩
    rw [wrap_n (by omega) (by omega), tmod2 (by omega), beq_iff_eq] at h4
    exact ⟨by omega, h3, h4⟩
  · rintro ⟨h2, h3, h4⟩
    refine ⟨⟨by omega, h3⟩, ?_⟩
    rw [wrap_n (by omega) (by omega), tmod2 (by omega), beq_iff_eq]
    exact h4
theorem turnW_iff {a x : Int} : turnW a x = true ↔ (0 ≤ a ∧ a ≤ 6) ∧ -a ≤ x ∧ x ≤ a ∧ (a - x) % 2 = 0 := by
  unfold turnW
  rw [Bool.and_eq_true, inB_iff]
  exact and_congr_right fun h => partW_iff (by omega) (by omega)
def TotP (l s j : Int) : Prop := l - s ≤ j ∧ s - l ≤ j ∧ j ≤ l + s ∧ (l + s - j) % 2 = 0
theorem totS_iff {l s j : Int} (hl : 0 ≤ l ∧ l ≤ 6) (hs : 0 ≤ s ∧ s ≤ 6) : totS l s j = true ↔ TotP l s j := by
  unfold totS TotP
  rw [wrap_n (n := l + s) (by omega) (by omega)]
  simp only [Bool.and_eq_true, inB_iff, beq_iff_eq]
  have hg : gapI l s = if l > s then l - s else s - l := by
    unfold gapI
    split
    · rw [wrap_n (by omega) (by omega)]
    · rw [wrap_n (by omega) (by omega)]
  rw [hg]
  constructor
  · rintro ⟨⟨h1, h2⟩, h3⟩
    have h5 : l - s ≤ j ∧ s - l ≤ j := by split at h1 <;> omega
    rw [wrap_n (n := l + s - j) (by omega) (by omega), tmod2 (by omega)] at h3
    omega
  · rintro ⟨h1, h2, h3, h4⟩
    rw [wrap_n (n := l + s - j) (by omega) (by omega), tmod2 (by omega)]
    refine ⟨⟨?_, h3⟩, h4⟩
    split <;> omega
theorem totI_iff {l s j : Int} (hl : 0 ≤ l ∧ l ≤ 6) (hs : 0 ≤ s ∧ s ≤ 6) : totI l s j = true ↔ TotP l s j := by
  unfold totI TotP
  rw [wrap_n (n := l + s) (by omega) (by omega), wrap_n (n := s - l) (by omega) (by omega), wrap_n (n := l - s) (by omega) (by omega)]
  simp only [Bool.and_eq_true, beq_iff_eq, decide_eq_true_eq]
  constructor
  · rintro ⟨h1, h2, h3⟩
    have h5 : l - s ≤ j ∧ s - l ≤ j := by split at h1 <;> omega
    rw [wrap_n (n := l + s - j) (by omega) (by omega), tmod2 (by omega)] at h3
    omega
  · rintro ⟨h1, h2, h3, h4⟩
    rw [wrap_n (n := l + s - j) (by omega) (by omega), tmod2 (by omega)]
    refine ⟨?_, h3, h4⟩
    split <;> omega
theorem totI_S {l s j : Int} (hl : 0 ≤ l ∧ l ≤ 6) (hs : 0 ≤ s ∧ s ≤ 6) : totI l s j = totS l s j := Bool.eq_iff_iff.mpr ((totI_iff hl hs).trans (totS_iff hl hs).symm)
theorem canJ_of {a x b y c : Int} (h1 : turnW a x = true) (h2 : turnW b y = true) (h3 : totS a b c = true) (h4 : partW c (IntKind.i64.wrap (x + y)) = true) : canJ a x b y c = true := by
  have g1 := turnW_iff.mp h1
  have g2 := turnW_iff.mp h2
  have g3 := (totS_iff g1.1 g2.1).mp h3
  unfold TotP at g3
  rw [wrap_n (by omega) (by omega)] at h4
  have g4 := (partW_iff (by omega) (by omega)).mp h4
  exact decide_eq_true (by omega)
theorem canS_J {a x b y c : Int} (h : canS a x b y c = true) : canJ a x b y c = true := by
  unfold canS at h
  rw [Bool.and_eq_true, Bool.and_eq_true, Bool.and_eq_true] at h
  exact canJ_of h.1 h.2.1 h.2.2.1 h.2.2.2
def gJoin : GT := fun vs h => match vs, h with | [.int .i64 a, .int .i64 x, .int .i64 b, .int .i64 y, .int .i64 c], [] => .ite (canS a x b y c) (.ret (.tup [.a (.int .i64 (jV a x b y c).1), .a (.int .i64 (jV a x b y c).2.1), .a (.int .i64 (jV a x b y c).2.2), .a (.bool true)]) []) (.ret (.tup [.a (.int .i64 0), .a (.int .i64 0), .a (.int .i64 0), .a (.bool false)]) []) | _, _ => .no
def tab_jsI : Fns := tabT [(92, gT gturnW), (93, gT gtotI), (94, gT gpartW), (95, gJs)]
theorem tabok_jsI : ∀ f, FnT Try.prog f (tab_jsI f) := (tabT_cons (k := 92) ok_IsTurnI (tabT_cons (k := 93) ok_isTotal (tabT_cons (k := 94) ok_isPart (tabT_cons (k := 95) ok_js tabT_nil))))
theorem run_jsI (N : Nat) (a : Int) (x : Int) (b : Int) (y : Int) (c : Int) : run ty tab_jsI ann0 N Try.f33 [.int .i64 a, .int .i64 x, .int .i64 b, .int .i64 y, .int .i64 c] []
    = (match !(turnW a x) with | true => some (.tup [.a (.int .i64 0), .a (.int .i64 0), .a (.int .i64 0), .a (.bool false)], []) | false => (match !(turnW b y) with | true => some (.tup [.a (.int .i64 0), .a (.int .i64 0), .a (.int .i64 0), .a (.bool false)], []) | false => (match !(totI a b c) with | true => some (.tup [.a (.int .i64 0), .a (.int .i64 0), .a (.int .i64 0), .a (.bool false)], []) | false => (match !(partW c (IntKind.i64.wrap (x + y))) with | true => some (.tup [.a (.int .i64 0), .a (.int .i64 0), .a (.int .i64 0), .a (.bool false)], []) | false => (match canJ a x b y c with | true => some (.tup [.a (.int .i64 ((jV a x b y c).1)), .a (.int .i64 ((jV a x b y c).2.1)), .a (.int .i64 ((jV a x b y c).2.2)), .a (.bool true)], []) | false => none))))) := by
  kernel_rfl
theorem ok_jsI : FnT Try.prog 33 (gJoin) := by
  refine fnT tabok_jsI Try.func33 rfl rfl ann0 fun vs h v h' e => ⟨0, ?_⟩
  unfold gJoin at e
  split at e
  case h_2 => exact (T.no_inv e).elim
  rename_i a x b y c
  refine Eq.trans (run_jsI 0 a x b y c) (Eq.trans ?_ e)
  show _ = T.k _ _
  simp only [T.k]
  unfold canS
  cases h1 : turnW a x
  · rfl
  · cases h2 : turnW b y
    · rfl
    · rw [totI_S (turnW_iff.mp h1).1 (turnW_iff.mp h2).1]
      cases h3 : totS a b c
      · rfl
      · cases h4 : partW c (IntKind.i64.wrap (x + y))
        · rfl
        · rw [canJ_of h1 h2 h3 h4]
          rfl
end Go.Proofs.Ytbhfjdlhhjeknaa.Ab

namespace Go.Proofs.Ytbhfjdlhhjeknaa.Ab
set_option linter.unusedVariables false
set_option linter.unusedSimpArgs false
open Go
def longB (n m : Nat) : Bool := decide ((n : Int) > 1048576) || decide ((m : Int) > 1048576)
def atOk (n : Nat) (l : List Int) (i : Int) : Bool := decide (l.length = n ∧ n < 2147483648 ∧ 0 ≤ i ∧ i < 1000)
def atF (l : List Int) (i k : Int) : Int := match decide (k ≤ 1) with
  | true => 0
  | false => match l[i.toNat]? with
    | some e => Int.tmod (IntKind.i64.wrap e) k
    | none => Int.tmod (IntKind.i64.wrap (IntKind.i64.wrap (i * 37) + 11)) k
def bytesB (l : List Int) : Bool := l.all (fun e => decide (0 ≤ e ∧ e < 256))
theorem atF_range {l : List Int} {i k : Int} (hb : bytesB l = true) (hi : 0 ≤ i) (hi2 : i < 1000) (hk : 1 ≤ k) : 0 ≤ atF l i k ∧ atF l i k < k := by
  unfold atF
  by_cases h1 : k ≤ 1
  · rw [decide_eq_true h1]
    show 0 ≤ (0 : Int) ∧ (0 : Int) < k
    omega
  · rw [decide_eq_false h1]
    dsimp only
    have ht : ∀ z : Int, 0 ≤ z → z < 100000 → 0 ≤ Int.tmod (IntKind.i64.wrap z) k ∧ Int.tmod (IntKind.i64.wrap z) k < k := by
      intro z z0 z1
      rw [wrap_z (by omega) (by omega), Int.tmod_eq_emod_of_nonneg z0]
      exact ⟨Int.emod_nonneg _ (by omega), Int.emod_lt_of_pos _ (by omega)⟩
    cases he : l[i.toNat]? with
    | some e =>
      obtain ⟨e0, e1⟩ := of_decide_eq_true (List.all_eq_true.mp hb e (List.mem_of_getElem? he))
      exact ht e e0 (by omega)
    | none =>
      show 0 ≤ Int.tmod (IntKind.i64.wrap (IntKind.i64.wrap (i * 37) + 11)) k ∧ Int.tmod (IntKind.i64.wrap (IntKind.i64.wrap (i * 37) + 11)) k < k
      rw [wrap_z (n := i * 37) (by omega) (by omega)]
      exact ht _ (by omega) (by omega)
def tab_lgA : Fns := tabT []
theorem tabok_lgA : ∀ f, FnT Try.prog f (tab_lgA f) := tabT_nil
theorem run_lgA (N : Nat) (n : Nat) (m : Nat) (r : Bool) (l : List Int) (q : Bool) (l' : List Int) : run ty tab_lgA ann0 N Try.f57 [.sl 0 0 n, .sl 1 0 m] [.at r (.int .u8 l), .at q (.int .u8 l')]
    = (match decide ((((n : Nat) : Int) : Int) > 1048576) with | true => some (.bool true, [.at r (.int .u8 l), .at q (.int .u8 l')]) | false => some (.bool (decide ((((m : Nat) : Int) : Int) > 1048576)), [.at r (.int .u8 l), .at q (.int .u8 l')])) := by
  kernel_rfl
def tab_lgB : Fns := tabT []
theorem tabok_lgB : ∀ f, FnT Try.prog f (tab_lgB f) := tabT_nil
theorem run_lgB (N : Nat) (n : Nat) (r : Bool) (l : List Int) : run ty tab_lgB ann0 N Try.f57 [.sl 0 0 n, .nil] [.at r (.int .u8 l)]
    = (match decide ((((n : Nat) : Int) : Int) > 1048576) with | true => some (.bool true, [.at r (.int .u8 l)]) | false => some (.bool false, [.at r (.int .u8 l)])) := by
  kernel_rfl
def tab_lgC : Fns := tabT []
theorem tabok_lgC : ∀ f, FnT Try.prog f (tab_lgC f) := tabT_nil
theorem run_lgC (N : Nat) (m : Nat) (r : Bool) (l : List Int) : run ty tab_lgC ann0 N Try.f57 [.nil, .sl 0 0 m] [.at r (.int .u8 l)]
    = some (.bool (decide ((((m : Nat) : Int) : Int) > 1048576)), [.at r (.int .u8 l)]) := by
  kernel_rfl
def tab_lgD : Fns := tabT []
theorem tabok_lgD : ∀ f, FnT Try.prog f (tab_lgD f) := tabT_nil
theorem run_lgD (N : Nat)  : run ty tab_lgD ann0 N Try.f57 [.nil, .nil] []
    = some (.bool false, []) := by
  kernel_rfl
def gLong : GT := fun vs h => match vs, h with
  | [.sl 0 0 n, .sl 1 0 m], [.at r (.int .u8 l), .at q (.int .u8 l')] => .ret (.bool (longB n m)) [.at r (.int .u8 l), .at q (.int .u8 l')]
  | [.sl 0 0 n, .nil], [.at r (.int .u8 l)] => .ret (.bool (longB n 0)) [.at r (.int .u8 l)]
  | [.nil, .sl 0 0 m], [.at r (.int .u8 l)] => .ret (.bool (longB 0 m)) [.at r (.int .u8 l)]
  | [.nil, .nil], [] => .ret (.bool (longB 0 0)) []
  | _, _ => .no
theorem ok_Long : FnT Try.prog 57 gLong := by
  intro vs hp v h' e
  unfold gLong at e
  split at e
  · obtain ⟨rfl, rfl⟩ := T.ret_inv e
    refine FnT.runs tabok_lgA Try.func57 rfl rfl ann0 0 _ _ _ _ ?_
    rw [T.run_of]
    refine Eq.trans (run_lgA 0 _ _ _ _ _ _) ?_
    unfold longB
    rename_i n m r q l l'
    cases decide ((n : Int) > 1048576) <;> rfl
  · obtain ⟨rfl, rfl⟩ := T.ret_inv e
    refine FnT.runs tabok_lgB Try.func57 rfl rfl ann0 0 _ _ _ _ ?_
    rw [T.run_of]
    refine Eq.trans (run_lgB 0 _ _ _) ?_
    unfold longB
    rename_i n r l
    cases decide ((n : Int) > 1048576) <;> rfl
  · obtain ⟨rfl, rfl⟩ := T.ret_inv e
    refine FnT.runs tabok_lgC Try.func57 rfl rfl ann0 0 _ _ _ _ ?_
    rw [T.run_of]
    refine Eq.trans (run_lgC 0 _ _ _) ?_
    unfold longB
    rfl
  · obtain ⟨rfl, rfl⟩ := T.ret_inv e
    refine FnT.runs tabok_lgD Try.func57 rfl rfl ann0 0 _ _ _ _ ?_
    rw [T.run_of]
    refine Eq.trans (run_lgD 0 ) ?_
    unfold longB
    rfl
  · exact (T.no_inv e).elim
def tab_atA : Fns := tabT []
theorem tabok_atA : ∀ f, FnT Try.prog f (tab_atA f) := tabT_nil
theorem run_atA (N : Nat) (n : Nat) (i : Int) (k : Int) (rw : Bool) (l : List Int) : run ty tab_atA ann0 N Try.f58 [.sl 0 0 n, .int .i64 i, .int .i64 k] [.at rw (.int .u8 l)]
    = (match decide ((k : Int) ≤ 1) with | true => some (.int .i64 0, [.at rw (.int .u8 l)]) | false => (match decide ((i : Int) < ((n : Nat) : Int)) with | true => (match decide (0 ≤ (i : Int) ∧ (i : Int) < ((n : Nat) : Int)) with | true => (match l[0 + (i).toNat * 1]? with | some e1 => (match decide (k = 0) with | true => none | false => some (.int .i64 (Int.tmod (IntKind.i64.wrap e1) k), [.at rw (.int .u8 l)])) | none => none) | false => none) | false => (match decide (k = 0) with | true => none | false => some (.int .i64 (Int.tmod (IntKind.i64.wrap ((IntKind.i64.wrap (i * 37)) + 11)) k), [.at rw (.int .u8 l)])))) := by
  kernel_rfl
def tab_atB : Fns := tabT []
theorem tabok_atB : ∀ f, FnT Try.prog f (tab_atB f) := tabT_nil
theorem run_atB (N : Nat) (i : Int) (k : Int) : run ty tab_atB ann0 N Try.f58 [.nil, .int .i64 i, .int .i64 k] []
    = (match decide ((k : Int) ≤ 1) with | true => some (.int .i64 0, []) | false => (match decide ((i : Int) < 0) with | true => none | false => (match decide (k = 0) with | true => none | false => some (.int .i64 (Int.tmod (IntKind.i64.wrap ((IntKind.i64.wrap (i * 37)) + 11)) k), [])))) := by
  kernel_rfl
def gAt : GT := fun vs h => match vs, h with
  | [.sl 0 0 n, .int .i64 i, .int .i64 k], [.at rw (.int .u8 l)] => .ite (atOk n l i) (.ret (.int .i64 (atF l i k)) [.at rw (.int .u8 l)]) .no
  | [.nil, .int .i64 i, .int .i64 k], [] => .ite (atOk 0 [] i) (.ret (.int .i64 (atF [] i k)) []) .no
  | _, _ => .no
theorem ok_At : FnT Try.prog 58 gAt := by
  intro vs hp v h' e
  unfold gAt at e
  split at e
  · rename_i n i k rw l
    obtain ⟨hd, e⟩ := T.pre_inv e
    obtain ⟨rfl, rfl⟩ := T.ret_inv e
    obtain ⟨hn, hn2, hi, hi2⟩ := of_decide_eq_true hd
    refine FnT.runs tabok_atA Try.func58 rfl rfl ann0 0 _ _ _ _ ?_
    rw [T.run_of]
    refine Eq.trans (run_atA 0 n i k rw l) ?_
    unfold atF
    by_cases h1 : k ≤ 1
    · rw [decide_eq_true h1]
    · rw [decide_eq_false h1, decide_eq_false (show ¬ k = 0 by omega), show 0 + i.toNat * 1 = i.toNat by omega]
      by_cases h2 : i < (n : Int)
      · have hx : l[i.toNat]? = some l[i.toNat] := List.getElem?_eq_getElem (by omega)
        rw [decide_eq_true h2, decide_eq_true (show 0 ≤ i ∧ i < (n : Int) from ⟨hi, h2⟩), hx]
      · have hx : l[i.toNat]? = none := List.getElem?_eq_none (by omega)
        rw [decide_eq_false h2, hx]
  · rename_i i k
    obtain ⟨hd, e⟩ := T.pre_inv e
    obtain ⟨rfl, rfl⟩ := T.ret_inv e
    obtain ⟨hn, hn2, hi, hi2⟩ := of_decide_eq_true hd
    refine FnT.runs tabok_atB Try.func58 rfl rfl ann0 0 _ _ _ _ ?_
    rw [T.run_of]
    refine Eq.trans (run_atB 0 i k) ?_
    unfold atF
    by_cases h1 : k ≤ 1
    · rw [decide_eq_true h1]
    · rw [decide_eq_false h1, decide_eq_false (show ¬ k = 0 by omega), decide_eq_false (show ¬ i < 0 by omega), List.getElem?_nil]
  · exact (T.no_inv e).elim
def tab_gapW : Fns := tabT []
theorem tabok_gapW : ∀ f, FnT Try.prog f (tab_gapW f) := tabT_nil
theorem run_gapW (N : Nat) (x : Nat) (y : Nat) : run ty tab_gapW ann0 N Try.f61 [.fl .f64 x, .fl .f64 y] []
    = (match ltD x y with | true => some (.fl .f64 (fop .sub .f64 y x), []) | false => some (.fl .f64 (fop .sub .f64 x y), [])) := by
  kernel_rfl
def gapD (x y : Nat) : Nat := match ltD x y with | true => fop .sub .f64 y x | false => fop .sub .f64 x y
def gGap : GT := fun vs h => match vs, h with | [.fl .f64 x, .fl .f64 y], [] => .ret (.fl .f64 (gapD x y)) [] | _, _ => .no
theorem ok_Gap : FnT Try.prog 61 gGap := by
  refine fnT tabok_gapW Try.func61 rfl rfl ann0 fun vs h v h' e => ⟨0, ?_⟩
  unfold gGap at e
  split at e
  case h_2 => exact (T.no_inv e).elim
  rename_i x y
  obtain ⟨rfl, rfl⟩ := T.ret_inv e
  refine Eq.trans (run_gapW 0 x y) ?_
  unfold gapD
  cases ltD x y <;> rfl
end Go.Proofs.Ytbhfjdlhhjeknaa.Ab

namespace Go.Proofs.Ytbhfjdlhhjeknaa.Ab
set_option linter.unusedVariables false
set_option linter.unusedSimpArgs false
open Go
def rowS (a b c z : Int) : Bool := is6 a && (is6 b && (totS a b c && partW c z))
def an_jrS : Ann := ⟨fun r => if r = 7 then some ([0, 1, 2, 3, 12, 13, 14, 15], [12, 13, 14]) else none, fun _ _ => .quiet⟩
def tab_jrS : Fns := tabT [(111, gT gis6), (109, gT gtotS), (110, gT gpartW), (91, gJn)]
theorem tabok_jrS : ∀ f, FnT Try.prog f (tab_jrS f) := (tabT_cons (k := 111) ok_l03Is (tabT_cons (k := 109) ok_l03Total (tabT_cons (k := 110) ok_l03Part (tabT_cons (k := 91) ok_jn tabT_nil))))
def st_jrS7 (t0 : Int) (t1 : Int) (t2 : Int) (t3 : Int) (t12n : Nat) (t15 : Int) (l0 : List Int) (l1 : List Int) (l2 : List Int) : St := ⟨(.int .i64 t0 :: .int .i64 t1 :: .int .i64 t2 :: .int .i64 t3 :: (anys 8 (.sl 0 0 t12n :: .sl 1 0 t12n :: .sl 2 0 t12n :: .int .i64 t15 :: (anys 67 [])))), [.at true (.int .i64 l0), .at true (.int .i64 l1), .at true (.int .i64 l2)]⟩
abbrev kp_jrS7 : Option (List Nat × List Nat) := some ([0, 1, 2, 3, 12, 13, 14, 15], [12, 13, 14])
noncomputable def lp_jrS7 {R : Type} (N M : Nat) (s : St) (K : X → St → Option R) : Option R := loopH 0 kp_jrS7 (fun st K => exec ty tab_jrS an_jrS N 0 (atOf [true, true, true, true, true, false, true, false, false] Try.f51) st K) M s K
noncomputable def kt_jrS7 {R : Type} (N : Nat) (K : X → St → Option R) : X → St → Option R := kBlkR 0 (kSeqR tab_jrS an_jrS N 0 (atOf [true, true, true, true, true, true] Try.f51) (K))
def en_jrS7_0 (t12n : Nat) (l0 : List Int) (l1 : List Int) (l2 : List Int) : St := ⟨(anys 12 (.sl 0 0 t12n :: .sl 1 0 t12n :: .sl 2 0 t12n :: (anys 68 []))), [.at true (.int .i64 l0), .at true (.int .i64 l1), .at true (.int .i64 l2)]⟩
theorem run_jrS (N : Nat) (a : Int) (b : Int) (c : Int) (z : Int) : run ty tab_jrS an_jrS N Try.f51 [.int .i64 a, .int .i64 b, .int .i64 c, .int .i64 z] []
    = (match !(is6 a) with | true => some (.tup [.a (.nil), .a (.nil), .a (.nil), .a (.bool false)], []) | false => (match !(is6 b) with | true => some (.tup [.a (.nil), .a (.nil), .a (.nil), .a (.bool false)], []) | false => (match !(totS a b c) with | true => some (.tup [.a (.nil), .a (.nil), .a (.nil), .a (.bool false)], []) | false => (match !(partW c z) with | true => some (.tup [.a (.nil), .a (.nil), .a (.nil), .a (.bool false)], []) | false => lp_jrS7 N N (st_jrS7 a b c z 0 (IntKind.i64.wrap (0 - a)) [] [] []) (kt_jrS7 N (kEnd Try.f51 0)))))) := by
  kernel_rfl
theorem step_jrS7 {R : Type} (N M : Nat) (K : X → St → Option R) (t0 : Int) (t1 : Int) (t2 : Int) (t3 : Int) (t12n : Nat) (t15 : Int) (l0 : List Int) (l1 : List Int) (l2 : List Int) : lp_jrS7 N (M + 1) (st_jrS7 t0 t1 t2 t3 t12n t15 l0 l1 l2) K
    = (match decide ((t15 : Int) ≤ t0) with | true => (match !(partW t1 (IntKind.i64.wrap (t3 - t15))) with | true => lp_jrS7 N M (st_jrS7 t0 t1 t2 t3 t12n (IntKind.i64.wrap (t15 + 2)) l0 l1 l2) K | false => (match canJ t0 t15 t1 (IntKind.i64.wrap (t3 - t15)) t2 with | true => (match apok true t12n 1 l0.length 1 (t12n + 1) 8 with | true => (match apok true t12n 1 l1.length 1 (t12n + 1) 8 with | true => (match apok true t12n 1 l2.length 1 (t12n + 1) 8 with | true => lp_jrS7 N M (st_jrS7 t0 t1 t2 t3 (t12n + 1) (IntKind.i64.wrap (t15 + 2)) (l0 ++ [(jV t0 t15 t1 (IntKind.i64.wrap (t3 - t15)) t2).1]) (l1 ++ [(jV t0 t15 t1 (IntKind.i64.wrap (t3 - t15)) t2).2.1]) (l2 ++ [(jV t0 t15 t1 (IntKind.i64.wrap (t3 - t15)) t2).2.2])) K | false => none) | false => none) | false => none) | false => none)) | false => K (.exit 0) (en_jrS7_0 t12n l0 l1 l2)) := by
  kernel_rfl
theorem end_jrS7_0 (N : Nat) (t12n : Nat) (l0 : List Int) (l1 : List Int) (l2 : List Int) : kt_jrS7 N (kEnd Try.f51 0) (.exit 0) (en_jrS7_0 t12n l0 l1 l2)
    = some (.tup [.a (.sl 0 0 t12n), .a (.sl 1 0 t12n), .a (.sl 2 0 t12n), .a (.bool true)], [.at true (.int .i64 l0), .at true (.int .i64 l1), .at true (.int .i64 l2)]) := by
  kernel_rfl
noncomputable def ce_jrS7_0 (N : Nat) (t12n : Nat) (l0 : List Int) (l1 : List Int) (l2 : List Int) : Option (V × H) := some (.tup [.a (.sl 0 0 t12n), .a (.sl 1 0 t12n), .a (.sl 2 0 t12n), .a (.bool true)], [.at true (.int .i64 l0), .at true (.int .i64 l1), .at true (.int .i64 l2)])
noncomputable def mb_jrS7 (N : Nat) (k0 : Nat → List Int → List Int → List Int → Option (V × H)) (rq : Int → Int → Int → Int → Nat → Int → List Int → List Int → List Int → Option (V × H)) : Int → Int → Int → Int → Nat → Int → List Int → List Int → List Int → Option (V × H) := fun (t0 : Int) (t1 : Int) (t2 : Int) (t3 : Int) (t12n : Nat) (t15 : Int) (l0 : List Int) (l1 : List Int) (l2 : List Int) => (match decide ((t15 : Int) ≤ t0) with | true => (match !(partW t1 (IntKind.i64.wrap (t3 - t15))) with | true => (rq t0 t1 t2 t3 t12n (IntKind.i64.wrap (t15 + 2)) l0 l1 l2) | false => (match canJ t0 t15 t1 (IntKind.i64.wrap (t3 - t15)) t2 with | true => (match apok true t12n 1 l0.length 1 (t12n + 1) 8 with | true => (match apok true t12n 1 l1.length 1 (t12n + 1) 8 with | true => (match apok true t12n 1 l2.length 1 (t12n + 1) 8 with | true => (rq t0 t1 t2 t3 (t12n + 1) (IntKind.i64.wrap (t15 + 2)) (l0 ++ [(jV t0 t15 t1 (IntKind.i64.wrap (t3 - t15)) t2).1]) (l1 ++ [(jV t0 t15 t1 (IntKind.i64.wrap (t3 - t15)) t2).2.1]) (l2 ++ [(jV t0 t15 t1 (IntKind.i64.wrap (t3 - t15)) t2).2.2])) | false => none) | false => none) | false => none) | false => none)) | false => (k0 t12n l0 l1 l2))
noncomputable def mr_jrS7 (N : Nat) (k0 : Nat → List Int → List Int → List Int → Option (V × H)) (M : Nat) : Int → Int → Int → Int → Nat → Int → List Int → List Int → List Int → Option (V × H) := Nat.rec (motive := fun _ => Int → Int → Int → Int → Nat → Int → List Int → List Int → List Int → Option (V × H)) (fun (_ : Int) (_ : Int) (_ : Int) (_ : Int) (_ : Nat) (_ : Int) (_ : List Int) (_ : List Int) (_ : List Int) => none) (fun _ rq => mb_jrS7 N k0 rq) M
theorem mrs_jrS7 (N : Nat) (k0 : Nat → List Int → List Int → List Int → Option (V × H)) (M : Nat) (t0 : Int) (t1 : Int) (t2 : Int) (t3 : Int) (t12n : Nat) (t15 : Int) (l0 : List Int) (l1 : List Int) (l2 : List Int) : mr_jrS7 N k0 (M + 1) t0 t1 t2 t3 t12n t15 l0 l1 l2 = mb_jrS7 N k0 (mr_jrS7 N k0 M) t0 t1 t2 t3 t12n t15 l0 l1 l2 := rfl
theorem H_jrS7 (N : Nat) : ∀ (M : Nat) (t0 : Int) (t1 : Int) (t2 : Int) (t3 : Int) (t12n : Nat) (t15 : Int) (l0 : List Int) (l1 : List Int) (l2 : List Int), lp_jrS7 N M (st_jrS7 t0 t1 t2 t3 t12n t15 l0 l1 l2) (kt_jrS7 N (kEnd Try.f51 0)) = mr_jrS7 N (ce_jrS7_0 N) M t0 t1 t2 t3 t12n t15 l0 l1 l2 := by
  have he0 : ∀ (t12n : Nat) (l0 : List Int) (l1 : List Int) (l2 : List Int), kt_jrS7 N (kEnd Try.f51 0) (.exit 0) (en_jrS7_0 t12n l0 l1 l2) = ce_jrS7_0 N t12n l0 l1 l2 := by
    intro t12n l0 l1 l2
    rw [end_jrS7_0]
    unfold ce_jrS7_0
    first | (simp only []; done) | (simp only []; kernel_rfl) | rfl
  intro M
  induction M with
  | zero => intros; rfl
  | succ M ih =>
    intro t0 t1 t2 t3 t12n t15 l0 l1 l2
    rw [step_jrS7]
    rw [mrs_jrS7]
    unfold mb_jrS7
    first | (simp only [ih, he0]; done) | (simp only [ih, he0]; kernel_rfl) | rfl
noncomputable def md_jrS (N : Nat) (a : Int) (b : Int) (c : Int) (z : Int) : Option (V × H) := (match !(is6 a) with | true => some (.tup [.a (.nil), .a (.nil), .a (.nil), .a (.bool false)], []) | false => (match !(is6 b) with | true => some (.tup [.a (.nil), .a (.nil), .a (.nil), .a (.bool false)], []) | false => (match !(totS a b c) with | true => some (.tup [.a (.nil), .a (.nil), .a (.nil), .a (.bool false)], []) | false => (match !(partW c z) with | true => some (.tup [.a (.nil), .a (.nil), .a (.nil), .a (.bool false)], []) | false => (mr_jrS7 N (ce_jrS7_0 N) N a b c z 0 (IntKind.i64.wrap (0 - a)) [] [] [])))))
theorem mdl_jrS (N : Nat) (a : Int) (b : Int) (c : Int) (z : Int) : run ty tab_jrS an_jrS N Try.f51 [.int .i64 a, .int .i64 b, .int .i64 c, .int .i64 z] [] = md_jrS N a b c z := by
  rw [run_jrS]
  unfold md_jrS
  first | (simp only [H_jrS7 N N]; done) | (simp only [H_jrS7 N N]; kernel_rfl) | rfl
def an_jrI : Ann := ⟨fun r => if r = 5 then some ([0, 1, 2, 3, 12, 13, 14, 15], [8, 9, 10, 11, 12, 13, 14]) else none, fun _ _ => .quiet⟩
def tab_jrI : Fns := tabT [(112, gTurns), (93, gT gtotI), (94, gT gpartW), (95, gJs)]
theorem tabok_jrI : ∀ f, FnT Try.prog f (tab_jrI f) := (tabT_cons (k := 112) ok_areT (tabT_cons (k := 93) ok_isTotal (tabT_cons (k := 94) ok_isPart (tabT_cons (k := 95) ok_js tabT_nil))))
def st_jrI5 (t0 : Int) (t1 : Int) (t2 : Int) (t3 : Int) (t12n : Nat) (t15 : Int) (l0 : List Int) (l1 : List Int) (l2 : List Int) : St := ⟨(.int .i64 t0 :: .int .i64 t1 :: .int .i64 t2 :: .int .i64 t3 :: (anys 8 (.sl 0 0 t12n :: .sl 1 0 t12n :: .sl 2 0 t12n :: .int .i64 t15 :: (anys 68 [])))), [.at true (.int .i64 l0), .at true (.int .i64 l1), .at true (.int .i64 l2)]⟩
abbrev kp_jrI5 : Option (List Nat × List Nat) := some ([0, 1, 2, 3, 12, 13, 14, 15], [8, 9, 10, 11, 12, 13, 14])
noncomputable def lp_jrI5 {R : Type} (N M : Nat) (s : St) (K : X → St → Option R) : Option R := loopH 0 kp_jrI5 (fun st K => exec ty tab_jrI an_jrI N 0 (atOf [true, true, true, false, true, false, false] Try.f52) st K) M s K
noncomputable def kt_jrI5 {R : Type} (N : Nat) (K : X → St → Option R) : X → St → Option R := kBlkR 0 (kSeqR tab_jrI an_jrI N 0 (atOf [true, true, true, true] Try.f52) (K))
def en_jrI5_0 (t12n : Nat) (l0 : List Int) (l1 : List Int) (l2 : List Int) : St := ⟨(anys 12 (.sl 0 0 t12n :: .sl 1 0 t12n :: .sl 2 0 t12n :: (anys 69 []))), [.at true (.int .i64 l0), .at true (.int .i64 l1), .at true (.int .i64 l2)]⟩
theorem run_jrI (N : Nat) (a : Int) (b : Int) (c : Int) (z : Int) : run ty tab_jrI an_jrI N Try.f52 [.int .i64 a, .int .i64 b, .int .i64 c, .int .i64 z] []
    = (match decide ([a, b].length = 2 ∧ 2 < 2147483648) with | true => (match !(turnsB [a, b]) with | true => some (.tup [.a (.nil), .a (.nil), .a (.nil), .a (.bool false)], []) | false => (match !(totI a b c) with | true => some (.tup [.a (.nil), .a (.nil), .a (.nil), .a (.bool false)], []) | false => (match !(partW c z) with | true => some (.tup [.a (.nil), .a (.nil), .a (.nil), .a (.bool false)], []) | false => lp_jrI5 N N (st_jrI5 a b c z 0 (IntKind.i64.wrap (0 - a)) [] [] []) (kt_jrI5 N (kEnd Try.f52 0))))) | false => none) := by
  kernel_rfl
theorem step_jrI5 {R : Type} (N M : Nat) (K : X → St → Option R) (t0 : Int) (t1 : Int) (t2 : Int) (t3 : Int) (t12n : Nat) (t15 : Int) (l0 : List Int) (l1 : List Int) (l2 : List Int) : lp_jrI5 N (M + 1) (st_jrI5 t0 t1 t2 t3 t12n t15 l0 l1 l2) K
    = (match decide ((t15 : Int) ≤ t0) with | true => (match !(partW t1 (IntKind.i64.wrap (t3 - t15))) with | true => lp_jrI5 N M (st_jrI5 t0 t1 t2 t3 t12n (IntKind.i64.wrap (t15 + 2)) l0 l1 l2) K | false => (match canJ t0 t15 t1 (IntKind.i64.wrap (t3 - t15)) t2 with | true => (match apok true t12n 1 l0.length 1 (t12n + 1) 8 with | true => (match apok true t12n 1 l1.length 1 (t12n + 1) 8 with | true => (match apok true t12n 1 l2.length 1 (t12n + 1) 8 with | true => lp_jrI5 N M (st_jrI5 t0 t1 t2 t3 (t12n + 1) (IntKind.i64.wrap (t15 + 2)) (l0 ++ [(jV t0 t15 t1 (IntKind.i64.wrap (t3 - t15)) t2).1]) (l1 ++ [(jV t0 t15 t1 (IntKind.i64.wrap (t3 - t15)) t2).2.1]) (l2 ++ [(jV t0 t15 t1 (IntKind.i64.wrap (t3 - t15)) t2).2.2])) K | false => none) | false => none) | false => none) | false => none)) | false => K (.exit 0) (en_jrI5_0 t12n l0 l1 l2)) := by
  kernel_rfl
theorem end_jrI5_0 (N : Nat) (t12n : Nat) (l0 : List Int) (l1 : List Int) (l2 : List Int) : kt_jrI5 N (kEnd Try.f52 0) (.exit 0) (en_jrI5_0 t12n l0 l1 l2)
    = some (.tup [.a (.sl 0 0 t12n), .a (.sl 1 0 t12n), .a (.sl 2 0 t12n), .a (.bool true)], [.at true (.int .i64 l0), .at true (.int .i64 l1), .at true (.int .i64 l2)]) := by
  kernel_rfl
noncomputable def ce_jrI5_0 (N : Nat) (t12n : Nat) (l0 : List Int) (l1 : List Int) (l2 : List Int) : Option (V × H) := some (.tup [.a (.sl 0 0 t12n), .a (.sl 1 0 t12n), .a (.sl 2 0 t12n), .a (.bool true)], [.at true (.int .i64 l0), .at true (.int .i64 l1), .at true (.int .i64 l2)])
noncomputable def mb_jrI5 (N : Nat) (k0 : Nat → List Int → List Int → List Int → Option (V × H)) (rq : Int → Int → Int → Int → Nat → Int → List Int → List Int → List Int → Option (V × H)) : Int → Int → Int → Int → Nat → Int → List Int → List Int → List Int → Option (V × H) := fun (t0 : Int) (t1 : Int) (t2 : Int) (t3 : Int) (t12n : Nat) (t15 : Int) (l0 : List Int) (l1 : List Int) (l2 : List Int) => (match decide ((t15 : Int) ≤ t0) with | true => (match !(partW t1 (IntKind.i64.wrap (t3 - t15))) with | true => (rq t0 t1 t2 t3 t12n (IntKind.i64.wrap (t15 + 2)) l0 l1 l2) | false => (match canJ t0 t15 t1 (IntKind.i64.wrap (t3 - t15)) t2 with | true => (match apok true t12n 1 l0.length 1 (t12n + 1) 8 with | true => (match apok true t12n 1 l1.length 1 (t12n + 1) 8 with | true => (match apok true t12n 1 l2.length 1 (t12n + 1) 8 with | true => (rq t0 t1 t2 t3 (t12n + 1) (IntKind.i64.wrap (t15 + 2)) (l0 ++ [(jV t0 t15 t1 (IntKind.i64.wrap (t3 - t15)) t2).1]) (l1 ++ [(jV t0 t15 t1 (IntKind.i64.wrap (t3 - t15)) t2).2.1]) (l2 ++ [(jV t0 t15 t1 (IntKind.i64.wrap (t3 - t15)) t2).2.2])) | false => none) | false => none) | false => none) | false => none)) | false => (k0 t12n l0 l1 l2))
noncomputable def mr_jrI5 (N : Nat) (k0 : Nat → List Int → List Int → List Int → Option (V × H)) (M : Nat) : Int → Int → Int → Int → Nat → Int → List Int → List Int → List Int → Option (V × H) := Nat.rec (motive := fun _ => Int → Int → Int → Int → Nat → Int → List Int → List Int → List Int → Option (V × H)) (fun (_ : Int) (_ : Int) (_ : Int) (_ : Int) (_ : Nat) (_ : Int) (_ : List Int) (_ : List Int) (_ : List Int) => none) (fun _ rq => mb_jrI5 N k0 rq) M
theorem mrs_jrI5 (N : Nat) (k0 : Nat → List Int → List Int → List Int → Option (V × H)) (M : Nat) (t0 : Int) (t1 : Int) (t2 : Int) (t3 : Int) (t12n : Nat) (t15 : Int) (l0 : List Int) (l1 : List Int) (l2 : List Int) : mr_jrI5 N k0 (M + 1) t0 t1 t2 t3 t12n t15 l0 l1 l2 = mb_jrI5 N k0 (mr_jrI5 N k0 M) t0 t1 t2 t3 t12n t15 l0 l1 l2 := rfl
theorem H_jrI5 (N : Nat) : ∀ (M : Nat) (t0 : Int) (t1 : Int) (t2 : Int) (t3 : Int) (t12n : Nat) (t15 : Int) (l0 : List Int) (l1 : List Int) (l2 : List Int), lp_jrI5 N M (st_jrI5 t0 t1 t2 t3 t12n t15 l0 l1 l2) (kt_jrI5 N (kEnd Try.f52 0)) = mr_jrI5 N (ce_jrI5_0 N) M t0 t1 t2 t3 t12n t15 l0 l1 l2 := by
  have he0 : ∀ (t12n : Nat) (l0 : List Int) (l1 : List Int) (l2 : List Int), kt_jrI5 N (kEnd Try.f52 0) (.exit 0) (en_jrI5_0 t12n l0 l1 l2) = ce_jrI5_0 N t12n l0 l1 l2 := by
    intro t12n l0 l1 l2
    rw [end_jrI5_0]
    unfold ce_jrI5_0
    first | (simp only []; done) | (simp only []; kernel_rfl) | rfl
  intro M
  induction M with
  | zero => intros; rfl
  | succ M ih =>
    intro t0 t1 t2 t3 t12n t15 l0 l1 l2
    rw [step_jrI5]
    rw [mrs_jrI5]
    unfold mb_jrI5
    first | (simp only [ih, he0]; done) | (simp only [ih, he0]; kernel_rfl) | rfl
noncomputable def md_jrI (N : Nat) (a : Int) (b : Int) (c : Int) (z : Int) : Option (V × H) := (match decide ([a, b].length = 2 ∧ 2 < 2147483648) with | true => (match !(turnsB [a, b]) with | true => some (.tup [.a (.nil), .a (.nil), .a (.nil), .a (.bool false)], []) | false => (match !(totI a b c) with | true => some (.tup [.a (.nil), .a (.nil), .a (.nil), .a (.bool false)], []) | false => (match !(partW c z) with | true => some (.tup [.a (.nil), .a (.nil), .a (.nil), .a (.bool false)], []) | false => (mr_jrI5 N (ce_jrI5_0 N) N a b c z 0 (IntKind.i64.wrap (0 - a)) [] [] [])))) | false => none)
theorem mdl_jrI (N : Nat) (a : Int) (b : Int) (c : Int) (z : Int) : run ty tab_jrI an_jrI N Try.f52 [.int .i64 a, .int .i64 b, .int .i64 c, .int .i64 z] [] = md_jrI N a b c z := by
  rw [run_jrI]
  unfold md_jrI
  first | (simp only [H_jrI5 N N]; done) | (simp only [H_jrI5 N N]; kernel_rfl) | rfl
def oR3 : Option (V × H) → Option (List Int × List Int × List Int)
  | some (.tup [.a (.sl 0 0 n0), .a (.sl 1 0 n1), .a (.sl 2 0 n2), .a (.bool true)], [.at true (.int .i64 l0), .at true (.int .i64 l1), .at true (.int .i64 l2)]) => match decide (n0 = l0.length ∧ n1 = l1.length ∧ n2 = l2.length) with | true => some (l0, l1, l2) | false => none
  | _ => none
theorem oR3_inv {o : Option (V × H)} {l0 l1 l2 : List Int} (h : oR3 o = some (l0, l1, l2)) : o = some (.tup [.a (.sl 0 0 l0.length), .a (.sl 1 0 l1.length), .a (.sl 2 0 l2.length), .a (.bool true)], [.at true (.int .i64 l0), .at true (.int .i64 l1), .at true (.int .i64 l2)]) := by
  unfold oR3 at h
  split at h
  · split at h
    · rename_i hd
      obtain ⟨rfl, rfl, rfl⟩ := of_decide_eq_true hd
      cases h
      rfl
    · cases h
  · cases h
def eR3 : Option (List Int × List Int × List Int) → Option (List Int × List Int × List Int) → Bool
  | some (l0, l1, l2), some (m0, m1, m2) => (decide (l0 = m0) && decide (l0.length < 100)) && (decide (l1 = m1) && decide (l1.length < 100)) && (decide (l2 = m2) && decide (l2.length < 100))
  | _, _ => false
theorem eR3_inv {o o' : Option (List Int × List Int × List Int)} (h : eR3 o o' = true) : ∃ l0 l1 l2, o = some (l0, l1, l2) ∧ o' = some (l0, l1, l2) ∧ l0.length < 100 ∧ l1.length < 100 ∧ l2.length < 100 := by
  unfold eR3 at h
  split at h
  · simp only [Bool.and_eq_true, decide_eq_true_eq] at h
    obtain ⟨⟨⟨rfl, a⟩, ⟨rfl, b⟩⟩, ⟨rfl, c⟩⟩ := h
    exact ⟨_, _, _, rfl, rfl, a, b, c⟩
  · cases h
noncomputable def jrDC (A B m k : Nat) : Bool := eR3 (oR3 (md_jrS 20 ((A : Int)) ((B : Int)) ((A : Int) + (B : Int) - 2 * (m : Int)) ((A : Int) + (B : Int) - 2 * (m : Int) - 2 * (k : Int)))) (oR3 (md_jrI 20 ((A : Int)) ((B : Int)) ((A : Int) + (B : Int) - 2 * (m : Int)) ((A : Int) + (B : Int) - 2 * (m : Int) - 2 * (k : Int))))
noncomputable def jrDA (A : Nat) : Bool := (List.range (6 + 1)).all fun B => (List.range ((min A B) + 1)).all fun m => (List.range ((A + B - 2 * m) + 1)).all fun k => jrDC A B m k
theorem jrDA_0 : jrDA 0 = true := by kernel_rfl
theorem jrDA_1 : jrDA 1 = true := by kernel_rfl
theorem jrDA_2 : jrDA 2 = true := by kernel_rfl
theorem jrDA_3 : jrDA 3 = true := by kernel_rfl
theorem jrDA_4 : jrDA 4 = true := by kernel_rfl
theorem jrDA_5 : jrDA 5 = true := by kernel_rfl
theorem jrDA_6 : jrDA 6 = true := by kernel_rfl
theorem jrDA_all {a : Nat} (ha : a ≤ 6) : jrDA a = true := by
  have : a = 0 ∨ a = 1 ∨ a = 2 ∨ a = 3 ∨ a = 4 ∨ a = 5 ∨ a = 6 := by omega
  rcases this with rfl | rfl | rfl | rfl | rfl | rfl | rfl
  · exact jrDA_0
  · exact jrDA_1
  · exact jrDA_2
  · exact jrDA_3
  · exact jrDA_4
  · exact jrDA_5
  · exact jrDA_6
noncomputable def jrD (a b c z : Int) : List Int × List Int × List Int := (oR3 (md_jrS 20 a b c z)).getD ([], [], [])
theorem jrD_ok {a b c z : Int} (h : rowS a b c z = true) : md_jrS 20 a b c z = some (.tup [.a (.sl 0 0 (jrD a b c z).1.length), .a (.sl 1 0 (jrD a b c z).2.1.length), .a (.sl 2 0 (jrD a b c z).2.2.length), .a (.bool true)], [.at true (.int .i64 (jrD a b c z).1), .at true (.int .i64 (jrD a b c z).2.1), .at true (.int .i64 (jrD a b c z).2.2)]) ∧ md_jrI 20 a b c z = some (.tup [.a (.sl 0 0 (jrD a b c z).1.length), .a (.sl 1 0 (jrD a b c z).2.1.length), .a (.sl 2 0 (jrD a b c z).2.2.length), .a (.bool true)], [.at true (.int .i64 (jrD a b c z).1), .at true (.int .i64 (jrD a b c z).2.1), .at true (.int .i64 (jrD a b c z).2.2)]) ∧ (jrD a b c z).1.length < 100 ∧ (jrD a b c z).2.1.length < 100 ∧ (jrD a b c z).2.2.length < 100 := by
  unfold rowS is6 at h
  rw [Bool.and_eq_true, Bool.and_eq_true, Bool.and_eq_true, inB_iff, inB_iff] at h
  obtain ⟨h1, h2, h3, h4⟩ := h
  have g3 := (totS_iff h1 h2).mp h3
  unfold TotP at g3
  have g4 := (partW_iff (by omega) (by omega)).mp h4
  obtain ⟨A, rfl⟩ : ∃ A : Nat, a = (A : Int) := ⟨a.toNat, by omega⟩
  obtain ⟨B, rfl⟩ : ∃ B : Nat, b = (B : Int) := ⟨b.toNat, by omega⟩
  obtain ⟨m, hm⟩ : ∃ m : Nat, ((A : Int) + (B : Int) - c) / 2 = (m : Int) := ⟨(((A : Int) + (B : Int) - c) / 2).toNat, by omega⟩
  have hc : c = (A : Int) + (B : Int) - 2 * (m : Int) := by omega
  obtain ⟨k, hk⟩ : ∃ k : Nat, (c - z) / 2 = (k : Int) := ⟨((c - z) / 2).toNat, by omega⟩
  have hz : z = (A : Int) + (B : Int) - 2 * (m : Int) - 2 * (k : Int) := by omega
  have hr := List.all_eq_true.mp (List.all_eq_true.mp (List.all_eq_true.mp (jrDA_all (a := A) (by omega)) B (List.mem_range.mpr (by omega))) m (List.mem_range.mpr (by omega))) k (List.mem_range.mpr (by omega))
  unfold jrDC at hr
  rw [← hz, ← hc] at hr
  obtain ⟨l0, l1, l2, e1, e2, e3⟩ := eR3_inv hr
  unfold jrD
  rw [e1]
  exact ⟨oR3_inv e1, oR3_inv e2, e3⟩
noncomputable def gJr : GT := fun vs h => match vs, h with | [.int .i64 a, .int .i64 b, .int .i64 c, .int .i64 z], [] => .ite (rowS a b c z) (.ret (.tup [.a (.sl 0 0 (jrD a b c z).1.length), .a (.sl 1 0 (jrD a b c z).2.1.length), .a (.sl 2 0 (jrD a b c z).2.2.length), .a (.bool true)]) [.at true (.int .i64 (jrD a b c z).1), .at true (.int .i64 (jrD a b c z).2.1), .at true (.int .i64 (jrD a b c z).2.2)]) (.ret (.tup [.a .nil, .a .nil, .a .nil, .a (.bool false)]) []) | _, _ => .no
theorem ok_jrS : FnT Try.prog 51 gJr := by
  refine fnT tabok_jrS Try.func51 rfl rfl an_jrS fun vs h v h' e => ⟨20, ?_⟩
  unfold gJr at e
  split at e
  case h_2 => exact (T.no_inv e).elim
  rename_i a b c z
  refine Eq.trans ?_ e
  show _ = T.k _ _
  simp only [T.k]
  refine Eq.trans (mdl_jrS 20 a b c z) ?_
  cases hs : rowS a b c z with
  | true => exact (jrD_ok hs).1
  | false =>
    unfold rowS at hs
    unfold md_jrS
    cases h1 : is6 a
    · rfl
    · cases h2 : is6 b
      · rfl
      · cases h3 : totS a b c
        · rfl
        · cases h4 : partW c z
          · rfl
          · rw [h1, h2, h3, h4] at hs
            cases hs
theorem ok_jrI : FnT Try.prog 52 gJr := by
  refine fnT tabok_jrI Try.func52 rfl rfl an_jrI fun vs h v h' e => ⟨20, ?_⟩
  unfold gJr at e
  split at e
  case h_2 => exact (T.no_inv e).elim
  rename_i a b c z
  refine Eq.trans ?_ e
  show _ = T.k _ _
  simp only [T.k]
  refine Eq.trans (mdl_jrI 20 a b c z) ?_
  cases hs : rowS a b c z with
  | true => exact (jrD_ok hs).2.1
  | false =>
    unfold rowS at hs
    unfold md_jrI
    have ht : turnsB [a, b] = (is6 a && is6 b) := by
      unfold turnsB is6
      simp [List.all]
    have hd : decide ([a, b].length = 2 ∧ 2 < 2147483648) = true := decide_eq_true ⟨rfl, by omega⟩
    rw [hd, ht]
    cases h1 : is6 a
    · rfl
    · cases h2 : is6 b
      · rfl
      · rw [totI_S (inB_iff.mp h1) (inB_iff.mp h2)]
        cases h3 : totS a b c
        · rfl
        · cases h4 : partW c z
          · rfl
          · rw [h1, h2, h3, h4] at hs
            cases hs
noncomputable section
end
end Go.Proofs.Ytbhfjdlhhjeknaa.Ab
