/- The weights of a rotor. Only lemmas. Printed by gen_weights.py. -/
import Derived.Test.YtbbggpcbnahgiaaLib
import Derived.Test.YtbbggpcbnahgiaaSum
namespace Go.Proofs.Ytbbggpcbnahgiaa.Ab
set_option linter.unusedVariables false
set_option linter.unusedSimpArgs false
open Go
def narOk (x : Nat) : Bool := (fconv .f64 x .f32).isSome
def nar (x : Nat) : Nat := (fconv .f64 x .f32).getD 0
def gNar : GT := fun vs h => match vs, h with | [.fl .f64 x], [] => .ite (narOk x) (.ret (.fl .f32 (nar x)) []) .no | _, _ => .no
def tab_l01Narrow : Fns := tabT []
theorem tabok_l01Narrow : ∀ f, FnT Try.prog f (tab_l01Narrow f) := tabT_nil
theorem run_l01Narrow (N : Nat) (x : Nat) : run ty tab_l01Narrow ann0 N Try.f62 [.fl .f64 x] []
    = (match fconv .f64 x .f32 with | some c1 => some (.fl .f32 c1, []) | none => none) := by
  kernel_rfl

theorem ok_l01Narrow : FnT Try.prog 62 (gNar) := by
  refine fnT tabok_l01Narrow Try.func62 rfl rfl ann0 fun vs h v h' e => ⟨0, ?_⟩
  unfold gNar at e
  split at e
  case h_2 => exact (T.no_inv e).elim
  rename_i x
  obtain ⟨hx, e⟩ := T.pre_inv e
  obtain ⟨rfl, rfl⟩ := T.ret_inv e
  refine Eq.trans (run_l01Narrow 0 x) ?_
  unfold narOk at hx
  unfold nar
  cases hy : fconv .f64 x .f32 with
  | none => rw [hy] at hx; cases hx
  | some y => rfl
theorem ok_from64 : FnT Try.prog 69 (gFrom .f64 .u64) := from64_ok Try.func69 (by decide) (by rfl) (by rfl) (by rfl)
def gInf1 : GT := fun vs h => match vs, h with | [.int .i64 1], [] => .ret (.fl .f64 9218868437227405312) [] | _, _ => .no
def tab_mInf : Fns := tabT [(69, (gFrom .f64 .u64))]
theorem tabok_mInf : ∀ f, FnT Try.prog f (tab_mInf f) := (tabT_cons (k := 69) ok_from64 tabT_nil)
theorem run_mInf (N : Nat)  : run ty tab_mInf ann0 N Try.f60 [.int .i64 1] []
    = some (.fl .f64 9218868437227405312, []) := by
  kernel_rfl

theorem ok_mInf : FnT Try.prog 60 (gInf1) := by
  refine fnT tabok_mInf Try.func60 rfl rfl ann0 fun vs h v h' e => ⟨0, ?_⟩
  unfold gInf1 at e
  split at e
  case h_2 => exact (T.no_inv e).elim
  obtain ⟨rfl, rfl⟩ := T.ret_inv e
  exact run_mInf 0
def expW (x : Nat) : Nat := cond (!eqD x x) x (expD x)
def gEW : G := fun vs h => match vs, h with | [.fl .f64 x], [] => some (.fl .f64 (expW x), []) | _, _ => none
def gED : G := fun vs h => match vs, h with | [.fl .f64 x], [] => some (.fl .f64 (expD x), []) | _, _ => none
theorem expW_up (x : Nat) : expW (up x) = expD (up x) := by
  unfold expW
  cases hx : isN .f32 x with
  | true =>
    have hu : up x = qnan .f64 := by
      have h := fconv_eq x
      unfold fconv at h
      unfold isN at hx
      rw [if_neg (by decide), if_pos hx] at h
      exact (Option.some.inj h).symm
    rw [hu]
    decide +kernel
  | false =>
    have hn : isN .f64 (up x) = false := by
      unfold isN
      rcases up_num hx with ⟨s, hd⟩ | ⟨s, m, e, hd, _⟩ <;> rw [hd] <;> rfl
    have : eqD (up x) (up x) = true := by
      unfold eqD
      rw [order_self hn]
      rfl
    rw [this]
    rfl
def gExp : GT := fun vs h => match vs, h with | [.fl .f32 x], [] => .ite (expOk x) (.ret (.fl .f32 (expF x)) []) .no | _, _ => .no
def tab_expWide : Fns := tabT [(60, gInf1)]
theorem tabok_expWide : ∀ f, FnT Try.prog f (tab_expWide f) := (tabT_cons (k := 60) ok_mInf tabT_nil)

theorem run_expWide (N : Nat) (x : Nat) : run ty tab_expWide ann0 (N + 20) Try.f63 [.fl .f64 x] []
    = (match FloatKind.f64.format.order x x != some .eq with | true => some (.fl .f64 x, []) | false => (match gtD x 4641240890982006784 with | true => some (.fl .f64 9218868437227405312, []) | false => (match ltD x 13864612927836782592 with | true => some (.fl .f64 0, []) | false => some (.fl .f64 (expV x), [])))) := by
  kernel_rfl
theorem ok_expWide : FnT Try.prog 63 (gT gEW) := by
  refine fnT tabok_expWide Try.func63 rfl rfl ann0 fun vs h v h' e => ⟨20, ?_⟩
  rw [T.run_of] at e
  unfold gEW at e
  split at e
  case h_2 => cases e
  rename_i x
  cases e
  refine Eq.trans (run_expWide 0 x) ?_
  show _ = some (V.fl .f64 (expW x), [])
  unfold expW expD
  rw [show (FloatKind.f64.format.order x x != some .eq) = !eqD x x from rfl]
  cases eqD x x
  · rfl
  cases gtD x 4641240890982006784 <;> cases ltD x 13864612927836782592 <;> rfl
def tab_exponential : Fns := tabT [(60, gInf1)]
theorem tabok_exponential : ∀ f, FnT Try.prog f (tab_exponential f) := (tabT_cons (k := 60) ok_mInf tabT_nil)

theorem run_exponential (N : Nat) (x : Nat) : run ty tab_exponential ann0 (N + 20) Try.f47 [.fl .f64 x] []
    = (match gtD x 4641240890982006784 with | true => some (.fl .f64 9218868437227405312, []) | false => (match ltD x 13864612927836782592 with | true => some (.fl .f64 0, []) | false => some (.fl .f64 (expV x), []))) := by
  kernel_rfl
theorem ok_exponential : FnT Try.prog 47 (gT gED) := by
  refine fnT tabok_exponential Try.func47 rfl rfl ann0 fun vs h v h' e => ⟨20, ?_⟩
  rw [T.run_of] at e
  unfold gED at e
  split at e
  case h_2 => cases e
  rename_i x
  cases e
  refine Eq.trans (run_exponential 0 x) ?_
  show _ = some (V.fl .f64 (expD x), [])
  unfold expD
  cases gtD x 4641240890982006784 <;> cases ltD x 13864612927836782592 <;> rfl
def tab_l01Exp : Fns := tabT [(63, gT gEW), (62, gNar)]
theorem tabok_l01Exp : ∀ f, FnT Try.prog f (tab_l01Exp f) := (tabT_cons (k := 63) ok_expWide (tabT_cons (k := 62) ok_l01Narrow tabT_nil))
theorem run_l01Exp (N : Nat) (x : Nat) : run ty tab_l01Exp ann0 N Try.f50 [.fl .f32 x] []
    = (match fconv .f32 x .f64 with | some c1 => (match narOk (expW c1) with | true => some (.fl .f32 (nar (expW c1)), []) | false => none) | none => none) := by
  kernel_rfl

theorem ok_l01Exp : FnT Try.prog 50 (gExp) := by
  refine fnT tabok_l01Exp Try.func50 rfl rfl ann0 fun vs h v h' e => ⟨0, ?_⟩
  unfold gExp at e
  split at e
  case h_2 => exact (T.no_inv e).elim
  rename_i x
  obtain ⟨hx, e⟩ := T.pre_inv e
  obtain ⟨rfl, rfl⟩ := T.ret_inv e
  refine Eq.trans (run_l01Exp 0 x) ?_
  simp only [fconv_eq, expW_up]
  unfold narOk nar
  have hx' : (fconv .f64 (expD (up x)) .f32).isSome = true := hx
  unfold expF
  cases hy : fconv .f64 (expD (up x)) .f32 with
  | none => rw [hy] at hx'; cases hx'
  | some y => rfl
def tab_ExpNumber : Fns := tabT [(47, gT gED)]
theorem tabok_ExpNumber : ∀ f, FnT Try.prog f (tab_ExpNumber f) := (tabT_cons (k := 47) ok_exponential tabT_nil)
theorem run_ExpNumber (N : Nat) (x : Nat) : run ty tab_ExpNumber ann0 N Try.f30 [.fl .f32 x] []
    = (match fconv .f32 x .f64 with | some c1 => (match fconv .f64 (expD c1) .f32 with | some c2 => some (.fl .f32 c2, []) | none => none) | none => none) := by
  kernel_rfl

theorem ok_ExpNumber : FnT Try.prog 30 (gExp) := by
  refine fnT tabok_ExpNumber Try.func30 rfl rfl ann0 fun vs h v h' e => ⟨0, ?_⟩
  unfold gExp at e
  split at e
  case h_2 => exact (T.no_inv e).elim
  rename_i x
  obtain ⟨hx, e⟩ := T.pre_inv e
  obtain ⟨rfl, rfl⟩ := T.ret_inv e
  refine Eq.trans (run_ExpNumber 0 x) ?_
  simp only [fconv_eq]
  have hx' : (fconv .f64 (expD (up x)) .f32).isSome = true := hx
  unfold expF
  cases hy : fconv .f64 (expD (up x)) .f32 with
  | none => rw [hy] at hx'; cases hx'
  | some y => rfl
def v_rotor (j : Int) : Nat := floatOfInt .f32 (IntKind.i64.wrap (j * (IntKind.i64.wrap (j + 1))))
def g_rotor : G := fun vs h => match vs, h with | [.int .i64 j], [] => some (.fl .f32 (v_rotor j), []) | _, _ => none
def tab_rotor : Fns := tabT []
theorem tabok_rotor : ∀ f, FnT Try.prog f (tab_rotor f) := tabT_nil
theorem run_rotor (N : Nat) (j : Int) : run ty tab_rotor ann0 N Try.f27 [.int .i64 j] []
    = some (.fl .f32 (floatOfInt .f32 (IntKind.i64.wrap (j * (IntKind.i64.wrap (j + 1))))), []) := by
  kernel_rfl

theorem ok_rotor : FnT Try.prog 27 (gT g_rotor) := by
  refine fnT tabok_rotor Try.func27 rfl rfl ann0 fun vs h v h' e => ⟨0, ?_⟩
  rw [T.run_of] at e
  unfold g_rotor at e
  split at e
  case h_2 => cases e
  cases e
  exact run_rotor 0 _
def v_l03Q (j : Int) : Nat := floatOfInt .f32 (IntKind.i64.wrap (j * (IntKind.i64.wrap (j + 1))))
def g_l03Q : G := fun vs h => match vs, h with | [.int .i64 j], [] => some (.fl .f32 (v_l03Q j), []) | _, _ => none
def tab_l03Q : Fns := tabT []
theorem tabok_l03Q : ∀ f, FnT Try.prog f (tab_l03Q f) := tabT_nil
theorem run_l03Q (N : Nat) (j : Int) : run ty tab_l03Q ann0 N Try.f51 [.int .i64 j] []
    = some (.fl .f32 (floatOfInt .f32 (IntKind.i64.wrap (j * (IntKind.i64.wrap (j + 1))))), []) := by
  kernel_rfl

theorem ok_l03Q : FnT Try.prog 51 (gT g_l03Q) := by
  refine fnT tabok_l03Q Try.func51 rfl rfl ann0 fun vs h v h' e => ⟨0, ?_⟩
  rw [T.run_of] at e
  unfold g_l03Q at e
  split at e
  case h_2 => cases e
  cases e
  exact run_l03Q 0 _
def v_l03Rotor (n : Int) : Bool := inB n 1 40
def g_l03Rotor : G := fun vs h => match vs, h with | [.int .i64 n], [] => some (.bool (v_l03Rotor n), []) | _, _ => none
def tab_l03Rotor : Fns := tabT [(57, gT gIn)]
theorem tabok_l03Rotor : ∀ f, FnT Try.prog f (tab_l03Rotor f) := (tabT_cons (k := 57) ok_l00In tabT_nil)
theorem run_l03Rotor (N : Nat) (n : Int) : run ty tab_l03Rotor ann0 N Try.f49 [.int .i64 n] []
    = some (.bool (inB n 1 40), []) := by
  kernel_rfl

theorem ok_l03Rotor : FnT Try.prog 49 (gT g_l03Rotor) := by
  refine fnT tabok_l03Rotor Try.func49 rfl rfl ann0 fun vs h v h' e => ⟨0, ?_⟩
  rw [T.run_of] at e
  unfold g_l03Rotor at e
  split at e
  case h_2 => cases e
  cases e
  exact run_l03Rotor 0 _
theorem inB_of {n lo hi : Int} (h : inB n lo hi = true) : lo ≤ n ∧ n ≤ hi := by
  simp only [inB, Bool.and_eq_true, decide_eq_true_eq] at h
  omega
theorem get_getD {α : Type} {l : List α} {d : α} {i : Nat} (h : i < l.length) : l[i]? = some (l.getD i d) := by
  simp [List.getD_eq_getElem?_getD, h]
def sumF (l : List Nat) : Nat := rounds (fun i s => fop .add .f32 s (l.getD i 0)) l.length 0 0
def gSum : GT := fun vs h => match vs, h with
  | [.sl 0 0 n], [.at rw (.fl .f32 l)] => .ite (decide (l.length = n ∧ n < 2147483648)) (.ret (.fl .f32 (sumF l)) [.at rw (.fl .f32 l)]) .no
  | _, _ => .no
def an_sum : Ann := ⟨fun r => if r = 3 then some ([3, 6, 7, 8], [3]) else none, fun _ _ => .quiet⟩
def tab_sum : Fns := tabT []
theorem tabok_sum : ∀ f, FnT Try.prog f (tab_sum f) := tabT_nil
def st_sum3 (all3 : Nat) (t6n : Nat) (t7 : Int) (t8 : Int) (rw0 : Bool) (l0 : List Nat) : St := ⟨(.any :: .any :: .any :: .fl .f32 all3 :: .any :: .any :: .sl 0 0 t6n :: .int .i64 t7 :: .int .i64 t8 :: (anys 8 [])), [.at rw0 (.fl .f32 l0)]⟩
abbrev kp_sum3 : Option (List Nat × List Nat) := some ([3, 6, 7, 8], [3])
noncomputable def lp_sum3 {R : Type} (N M : Nat) (s : St) (K : X → St → Option R) : Option R := loopH 1 kp_sum3 (fun st K => exec ty tab_sum an_sum N 1 (atOf [true, true, false, true, false, false] Try.f31) st K) M s K
noncomputable def bk_sum3 {R : Type} (N M : Nat) (K : X → St → Option R) : X → St → Option R := fun x st => match x with | .norm => tidyK 1 (kp_sum3.map (·.1)) st fun st => lp_sum3 N M st K | x => tidyK 1 (kp_sum3.map (·.2)) st fun st => K x st
noncomputable def kt_sum3 {R : Type} (N : Nat) (K : X → St → Option R) : X → St → Option R := kBlkR 0 (kSeqR tab_sum an_sum N 1 (atOf [true, true, true] Try.f31) (K))
def en_sum3_0 (all3 : Nat) (rw0 : Bool) (l0 : List Nat) : St := ⟨(.any :: .any :: .any :: .fl .f32 all3 :: (anys 13 [])), [.at rw0 (.fl .f32 l0)]⟩
theorem run_sum (N : Nat) (n : Nat) (rw : Bool) (l : List Nat) : run ty tab_sum an_sum N Try.f31 [.sl 0 0 n] [.at rw (.fl .f32 l)]
    = lp_sum3 N N (st_sum3 0 n ((n : Nat) : Int) 0 rw l) (kt_sum3 N (kEnd Try.f31 1)) := by
  kernel_rfl
theorem step_sum3 {R : Type} (N M : Nat) (K : X → St → Option R) (all3 : Nat) (t6n : Nat) (t7 : Int) (t8 : Int) (rw0 : Bool) (l0 : List Nat) : lp_sum3 N (M + 1) (st_sum3 all3 t6n t7 t8 rw0 l0) K
    = (match decide ((t8 : Int) < t7) with | true => (match decide (0 ≤ (t8 : Int) ∧ (t8 : Int) < ((t6n : Nat) : Int)) with | true => (match l0[0 + (t8).toNat * 1]? with | some e1 => lp_sum3 N M (st_sum3 (fop .add .f32 all3 e1) t6n t7 (IntKind.i64.wrap (t8 + 1)) rw0 l0) K | none => none) | false => none) | false => K (.exit 0) (en_sum3_0 all3 rw0 l0)) := by
  kernel_rfl
theorem end_sum3_0 (N : Nat) (all3 : Nat) (rw0 : Bool) (l0 : List Nat) : kt_sum3 N (kEnd Try.f31 1) (.exit 0) (en_sum3_0 all3 rw0 l0)
    = some (.fl .f32 all3, [.at rw0 (.fl .f32 l0)]) := by
  kernel_rfl

theorem ok_sum : FnT Try.prog 31 gSum := by
  refine fnT tabok_sum Try.func31 rfl rfl an_sum fun vs h v h' e => ?_
  unfold gSum at e
  split at e
  case h_2 => exact (T.no_inv e).elim
  rename_i n rw l
  obtain ⟨hd, e⟩ := T.pre_inv e
  obtain ⟨rfl, rfl⟩ := T.ret_inv e
  obtain ⟨rfl, hb⟩ := of_decide_eq_true hd
  refine ⟨l.length + 1, Eq.trans (run_sum _ _ _ _) ?_⟩
  have hc := count_up l.length (fun i s => fop .add .f32 s (l.getD i 0)) (fun M i s => lp_sum3 (l.length + 1) M (st_sum3 s l.length ((l.length : Nat) : Int) (i : Int) rw l) (kt_sum3 (l.length + 1) (kEnd Try.f31 1))) (fun s => some (.fl .f32 s, [.at rw (.fl .f32 l)])) (fun _ _ => True)
    (fun M i s hi _ => ⟨?_, trivial⟩) (fun M s _ => ?_) l.length 0 0 (by omega) trivial 0
  · exact hc
  · have hg : l[i]? = some (l.getD i 0) := get_getD hi
    simp only [step_sum3, dlt hi, din hi, ix, hg, wr (show i < 2147483648 by omega)]
  · simp only [step_sum3, dge (Nat.le_refl _), end_sum3_0]
def wA (b w i : Nat) : Nat := fop .sub .f32 0 (fop .quo .f32 (fop .mul .f32 b (v_rotor (i : Int))) w)
def wX (b w i : Nat) : Nat := fop .mul .f32 (floatOfInt .f32 (2 * (i : Int) + 1)) (expF (wA b w i))
def wL (b w n : Nat) : List Nat := (List.range' 0 n).map (wX b w)
def wS (b w n : Nat) : Nat := rounds (fun i s => fop .add .f32 s (wX b w i)) n 0 0
def wD (b w n : Nat) : List Nat := (wL b w n).map fun x => fop .quo .f32 x (wS b w n)
def wOk (b w : Nat) (n : Int) : Bool := nonB b && (posB w && (inB n 1 40 && (gtB (wS b w n.toNat) 0 && (wD b w n.toNat).all finB)))
theorem wD_len (b w n : Nat) : (wD b w n).length = n := by simp [wD, wL]
theorem wrap_rot {i : Nat} (hi : i < 40) : v_rotor (i : Int) = floatOfInt .f32 ((i : Int) * ((i : Int) + 1)) := by
  unfold v_rotor
  have h1 : (i : Int) * ((i : Int) + 1) ≤ 40 * 41 := Int.mul_le_mul (by omega) (by omega) (by omega) (by omega)
  have h2 : 0 ≤ (i : Int) * ((i : Int) + 1) := Int.mul_nonneg (by omega) (by omega)
  rw [wrap_s (n := (i : Int) + 1) (by omega) (by omega), wrap_s h2 (by omega)]
theorem foi_num {n : Int} (h0 : 0 ≤ n) (h1 : n < 100000) : Num .f32 (floatOfInt .f32 n) := by
  have e : floatOfInt .f32 n = Ieee.single.nearest (decide (n < 0)) n.natAbs 0 := rfl
  have hb : Bel 18 (floatOfInt .f32 n) := by
    rw [e]
    refine bel_near (B := 17) ?_ (by decide) (by decide)
    by_cases hn : n.natAbs = 0
    · exact .inl hn
    · right
      have := (Nat.log2_lt hn).2 (show n.natAbs < 2 ^ 17 by omega)
      omega
  obtain ⟨s, m, e, h, _⟩ := hb
  exact ⟨s, m, e, h⟩
theorem foi_geq {n : Int} (h0 : 0 ≤ n) : Geq0 .f32 (floatOfInt .f32 n) := by
  rw [g0_iff]
  have e : floatOfInt .f32 n = Ieee.single.write (.number (decide (n < 0)) n.natAbs 0) := rfl
  rw [e]
  refine write_g0 rfl (.inl (decide_eq_false (by omega)))
theorem mul_ok {x y : Nat} (hx : Num .f32 x) (hy : Num .f32 y) : Ok .f32 (fop .mul .f32 x y) := by
  obtain ⟨s, m, i, hx⟩ := hx
  obtain ⟨t, n, j, hy⟩ := hy
  refine ok_some ?_
  unfold floatBits
  show (FloatKind.f32.format.mul x y).isSome = true
  unfold Ieee.Format.mul
  rw [hx, hy]
  rfl
theorem quo_ok {x y : Nat} (hx : Ok .f32 x) {n : Nat} {j : Int} (hy : FloatKind.f32.format.read y = .number false n j) (hn : n ≠ 0) : Ok .f32 (fop .quo .f32 x y) := by
  refine ok_some ?_
  unfold floatBits
  show (FloatKind.f32.format.div x y).isSome = true
  unfold Ieee.Format.div
  rw [hy]
  cases hr : FloatKind.f32.format.read x with
  | nan s f => exact (hx s f hr).elim
  | infinity s => rfl
  | number s m e =>
    unfold Ieee.Datum.quotient
    dsimp only
    rw [if_neg hn]
    rfl
theorem sub_ok {y : Nat} (hy : Ok .f32 y) : Ok .f32 (fop .sub .f32 0 y) := by
  refine ok_some ?_
  unfold floatBits
  show (FloatKind.f32.format.sub 0 y).isSome = true
  unfold Ieee.Format.sub
  rw [zero32]
  cases hr : FloatKind.f32.format.read y with
  | nan s f => exact (hy s f hr).elim
  | infinity s => rfl
  | number s m e => rfl
theorem wA_leq {b w i : Nat} (hb : nonB b = true) (hw : posB w = true) (hi : i < 40) : Leq0 .f32 (wA b w i) ∧ Ok .f32 (wA b w i) := by
  obtain ⟨n, j, h1, h2⟩ := pos_num hw
  have hi2 : 0 ≤ (i : Int) * ((i : Int) + 1) := Int.mul_nonneg (by omega) (by omega)
  have hi3 : (i : Int) * ((i : Int) + 1) ≤ 40 * 41 := Int.mul_le_mul (by omega) (by omega) (by omega) (by omega)
  have hfb : finB b = true := by
    unfold nonB at hb
    rw [Bool.and_eq_true] at hb
    exact hb.1
  unfold wA
  rw [wrap_rot hi]
  exact ⟨sub0_l0 (quo_g0 (mul_g0 (non_geq hb) (foi_geq hi2)) h1 h2), sub_ok (quo_ok (mul_ok (num_of_fin hfb) (foi_num hi2 (by omega))) h1 h2)⟩
theorem w_exp {b w i : Nat} (hb : nonB b = true) (hw : posB w = true) (hi : i < 40) : expOk (wA b w i) = true := expOk_of (wA_leq hb hw hi).1
theorem wX_bel {b w i : Nat} (hb : nonB b = true) (hw : posB w = true) (hi : i < 40) : Bel 11 (wX b w i) := by
  obtain ⟨h1, h2⟩ := wA_leq hb hw hi
  exact bel_mul (A := 8) (B := 2) (bel_int (by omega) (by omega)) (expF_bel h1 h2) (by decide) (by decide)
theorem wS_fin {b w n : Nat} (hb : nonB b = true) (hw : posB w = true) (hn : n ≤ 40) : finB (wS b w n) = true := by
  have key : ∀ (k i s : Nat), i + k ≤ 40 → Bel (12 + 2 * (i : Int)) s → Bel (12 + 2 * ((i + k : Nat) : Int)) (rounds (fun i s => fop .add .f32 s (wX b w i)) k i s) := by
    intro k
    induction k with
    | zero => intro i s _ h; exact h
    | succ k ih =>
      intro i s hi h
      have h2 := ih (i + 1) (fop .add .f32 s (wX b w i)) (by omega) (by
        have := bel_add h ((wX_bel hb hw (show i < 40 by omega)).mono (show (11 : Int) ≤ 12 + 2 * (i : Int) by omega)) (by omega) (by omega)
        rwa [show 12 + 2 * (i : Int) + 2 = 12 + 2 * ((i + 1 : Nat) : Int) by omega] at this)
      rwa [show i + 1 + k = i + (k + 1) by omega] at h2
  exact bel_fin (key n 0 0 (by omega) ⟨false, 0, -149, by decide, .inl rfl⟩)
theorem rounds_congr {σ : Type} {f g : Nat → σ → σ} : ∀ k i s, (∀ j s, i ≤ j → j < i + k → f j s = g j s) → rounds f k i s = rounds g k i s
  | 0, _, _, _ => rfl
  | k + 1, i, s, h => by
    show rounds f k (i + 1) (f i s) = rounds g k (i + 1) (g i s)
    rw [h i s (by omega) (by omega)]
    exact rounds_congr k (i + 1) _ fun j s h1 h2 => h j s (by omega) (by omega)
theorem rounds_pair {α β : Type} (g : Nat → α) (h : Nat → β → β) : ∀ k i (l : List α) (q : β), rounds (fun i (s : List α × β) => (s.1 ++ [g i], h i s.2)) k i (l, q) = (l ++ (List.range' i k).map g, rounds h k i q)
  | 0, i, l, q => by simp [rounds]
  | k + 1, i, l, q => by
    show rounds _ k (i + 1) (l ++ [g i], h i q) = _
    rw [rounds_pair g h k (i + 1)]
    simp [List.range'_succ, rounds]
theorem map_rounds (g : Nat → Nat) : ∀ k i (pre r : List Nat), r.length = k → pre.length = i → rounds (fun i (s : List Nat) => s.set i (g (s.getD i 0))) k i (pre ++ r) = pre ++ r.map g
  | 0, i, pre, r, hr, _ => by
    have : r = [] := by simpa using hr
    subst this
    simp [rounds]
  | k + 1, i, pre, [], hr, _ => by simp at hr
  | k + 1, i, pre, x :: r, hr, hp => by
    show rounds _ k (i + 1) ((pre ++ x :: r).set i (g ((pre ++ x :: r).getD i 0))) = _
    have e : (pre ++ x :: r).set i (g ((pre ++ x :: r).getD i 0)) = (pre ++ [g x]) ++ r := by
      rw [List.set_append_right _ _ (by omega)]
      simp [hp, List.getD_eq_getElem?_getD]
    rw [e, map_rounds g k (i + 1) _ _ (by simpa using hr) (by simp [hp])]
    simp
theorem wL_get (b w : Nat) {n j : Nat} (hj : j < n) : (wL b w n).getD j 0 = wX b w j := by
  have h : (wL b w n)[j]? = some (wX b w j) := by simp [wL, hj]
  rw [List.getD_eq_getElem?_getD, h, Option.getD_some]
theorem wSum (b w n : Nat) : sumF (wL b w n) = wS b w n := by
  unfold sumF wS
  have hl : (wL b w n).length = n := by simp [wL]
  rw [hl]
  refine rounds_congr n 0 0 fun j s _ hj => ?_
  exact congrArg (fop .add .f32 s) (wL_get b w (by omega))
theorem wWrap {i : Nat} (hi : i < 40) : IntKind.i64.wrap ((IntKind.i64.wrap (2 * (i : Int))) + 1) = 2 * (i : Int) + 1 := by
  rw [wrap_s (n := 2 * (i : Int)) (by omega) (by omega), wrap_s (by omega) (by omega)]
def g_w : GT := fun vs h => match vs, h with
  | [.fl .f32 b, .fl .f32 w, .int .i64 n], [] => .ite (wOk b w n) (.ret (.tup [.a (.sl 0 0 n.toNat), .a (.bool true)]) [.at true (.fl .f32 (wD b w n.toNat))]) (.ret nilF [])
  | _, _ => .no
def an_wtS : Ann := ⟨fun r => if r = 6 then some ([0, 1, 2, 8, 9, 10], [8, 9]) else if r = 14 then some ([8, 9, 64, 65], [8]) else none, fun _ _ => .quiet⟩
def tab_wtS : Fns := tabT [(48, gT (gF1 nonB)), (49, gT g_l03Rotor), (51, gT g_l03Q), (50, gExp), (52, gLsT)]
theorem tabok_wtS : ∀ f, FnT Try.prog f (tab_wtS f) := (tabT_cons (k := 48) ok_l03Least (tabT_cons (k := 49) ok_l03Rotor (tabT_cons (k := 51) ok_l03Q (tabT_cons (k := 50) ok_l01Exp (tabT_cons (k := 52) ok_l03List tabT_nil)))))
def st_wtS6 (b0 : Nat) (warm1 : Nat) (count2 : Int) (out8n : Nat) (sum9 : Nat) (j10 : Int) (l0 : List Nat) : St := ⟨(.fl .f32 b0 :: .fl .f32 warm1 :: .int .i64 count2 :: .any :: .any :: .any :: .any :: .any :: .sl 0 0 out8n :: .fl .f32 sum9 :: .int .i64 j10 :: (anys 71 [])), [.at true (.fl .f32 l0)]⟩
abbrev kp_wtS6 : Option (List Nat × List Nat) := some ([0, 1, 2, 8, 9, 10], [8, 9])
noncomputable def lp_wtS6 {R : Type} (N M : Nat) (s : St) (K : X → St → Option R) : Option R := loopH 0 kp_wtS6 (fun st K => exec ty tab_wtS an_wtS N 0 (atOf [true, true, true, true, false, true, false, false] Try.f32) st K) M s K
noncomputable def bk_wtS6 {R : Type} (N M : Nat) (K : X → St → Option R) : X → St → Option R := fun x st => match x with | .norm => tidyK 0 (kp_wtS6.map (·.1)) st fun st => lp_wtS6 N M st K | x => tidyK 0 (kp_wtS6.map (·.2)) st fun st => K x st
noncomputable def kt_wtS6 {R : Type} (N : Nat) (K : X → St → Option R) : X → St → Option R := kBlkR 0 (kSeqR tab_wtS an_wtS N 0 (atOf [true, true, true, true, true] Try.f32) (K))
def st_wtS14 (out8n : Nat) (sum9 : Nat) (t64 : Int) (t65 : Int) (l0 : List Nat) : St := ⟨(anys 8 (.sl 0 0 out8n :: .fl .f32 sum9 :: (anys 54 (.int .i64 t64 :: .int .i64 t65 :: (anys 16 []))))), [.at true (.fl .f32 l0)]⟩
abbrev kp_wtS14 : Option (List Nat × List Nat) := some ([8, 9, 64, 65], [8])
noncomputable def lp_wtS14 {R : Type} (N M : Nat) (s : St) (K : X → St → Option R) : Option R := loopH 0 kp_wtS14 (fun st K => exec ty tab_wtS an_wtS N 0 (atOf [true, true, true, true, true, true, false, true, false, false] Try.f32) st K) M s K
noncomputable def bk_wtS14 {R : Type} (N M : Nat) (K : X → St → Option R) : X → St → Option R := fun x st => match x with | .norm => tidyK 0 (kp_wtS14.map (·.1)) st fun st => lp_wtS14 N M st K | x => tidyK 0 (kp_wtS14.map (·.2)) st fun st => K x st
noncomputable def kt_wtS14 {R : Type} (N : Nat) (K : X → St → Option R) : X → St → Option R := kBlkR 2 (kSeqR tab_wtS an_wtS N 0 (atOf [true, true, true, true, true, true, true] Try.f32) (K))
def en_wtS6_0 (out8n : Nat) (sum9 : Nat) (l0 : List Nat) : St := ⟨(anys 8 (.sl 0 0 out8n :: .fl .f32 sum9 :: (anys 72 []))), [.at true (.fl .f32 l0)]⟩
def en_wtS14_0 (out8n : Nat) (l0 : List Nat) : St := ⟨(anys 8 (.sl 0 0 out8n :: (anys 73 []))), [.at true (.fl .f32 l0)]⟩
theorem run_wtS (N : Nat) (b : Nat) (w : Nat) (n : Int) : run ty tab_wtS an_wtS N Try.f32 [.fl .f32 b, .fl .f32 w, .int .i64 n] []
    = (match !(nonB b) with | true => some (.tup [.a (.nil), .a (.bool false)], []) | false => (match !(nonB w) with | true => some (.tup [.a (.nil), .a (.bool false)], []) | false => (match eqB w 0 with | true => some (.tup [.a (.nil), .a (.bool false)], []) | false => (match !(inB n 1 40) with | true => some (.tup [.a (.nil), .a (.bool false)], []) | false => lp_wtS6 N N (st_wtS6 b w n 0 0 0 ([] : List Nat)) (kt_wtS6 N (kEnd Try.f32 0)))))) := by
  kernel_rfl
theorem step_wtS6 {R : Type} (N M : Nat) (K : X → St → Option R) (b0 : Nat) (warm1 : Nat) (count2 : Int) (out8n : Nat) (sum9 : Nat) (j10 : Int) (l0 : List Nat) : lp_wtS6 N (M + 1) (st_wtS6 b0 warm1 count2 out8n sum9 j10 l0) K
    = (match decide ((j10 : Int) < count2) with | true => (match expOk (fop .sub .f32 0 (fop .quo .f32 (fop .mul .f32 b0 (v_rotor j10)) warm1)) with | true => (match apok true out8n 1 l0.length 1 (out8n + 1) 4 with | true => lp_wtS6 N M (st_wtS6 b0 warm1 count2 (out8n + 1) (fop .add .f32 sum9 (fop .mul .f32 (floatOfInt .f32 (IntKind.i64.wrap ((IntKind.i64.wrap (2 * j10)) + 1))) (expF (fop .sub .f32 0 (fop .quo .f32 (fop .mul .f32 b0 (v_rotor j10)) warm1))))) (IntKind.i64.wrap (j10 + 1)) (l0 ++ [fop .mul .f32 (floatOfInt .f32 (IntKind.i64.wrap ((IntKind.i64.wrap (2 * j10)) + 1))) (expF (fop .sub .f32 0 (fop .quo .f32 (fop .mul .f32 b0 (v_rotor j10)) warm1)))])) K | false => none) | false => none) | false => K (.exit 0) (en_wtS6_0 out8n sum9 l0)) := by
  kernel_rfl
theorem step_wtS14 {R : Type} (N M : Nat) (K : X → St → Option R) (out8n : Nat) (sum9 : Nat) (t64 : Int) (t65 : Int) (l0 : List Nat) : lp_wtS14 N (M + 1) (st_wtS14 out8n sum9 t64 t65 l0) K
    = (match decide ((t65 : Int) < t64) with | true => (match decide (0 ≤ (t65 : Int) ∧ (t65 : Int) < ((out8n : Nat) : Int)) with | true => (match l0[0 + (t65).toNat * 1]? with | some e1 => (match decide (0 ≤ (t65 : Int) ∧ (t65 : Int) < ((out8n : Nat) : Int)) with | true => (match decide (0 + (t65).toNat * 1 < l0.length) with | true => lp_wtS14 N M (st_wtS14 out8n sum9 t64 (IntKind.i64.wrap (t65 + 1)) (l0.set (0 + (t65).toNat * 1) (fop .quo .f32 e1 sum9))) K | false => none) | false => none) | none => none) | false => none) | false => K (.exit 2) (en_wtS14_0 out8n l0)) := by
  kernel_rfl
theorem end_wtS6_0 (N : Nat) (out8n : Nat) (sum9 : Nat) (l0 : List Nat) : kt_wtS6 N (kEnd Try.f32 0) (.exit 0) (en_wtS6_0 out8n sum9 l0)
    = (match !(nonB sum9) with | true => some (.tup [.a (.nil), .a (.bool false)], []) | false => (match eqB sum9 0 with | true => some (.tup [.a (.nil), .a (.bool false)], []) | false => lp_wtS14 N N (st_wtS14 out8n sum9 ((out8n : Nat) : Int) 0 l0) (kt_wtS14 N (kEnd Try.f32 0)))) := by
  kernel_rfl
theorem end_wtS14_0 (N : Nat) (out8n : Nat) (l0 : List Nat) : kt_wtS14 N (kEnd Try.f32 0) (.exit 2) (en_wtS14_0 out8n l0)
    = (match decide (l0.length = out8n ∧ out8n < 2147483648) with | true => (match l0.all finB with | true => some (.tup [.a (.sl 0 0 out8n), .a (.bool true)], [.at true (.fl .f32 l0)]) | false => some (.tup [.a (.nil), .a (.bool false)], [])) | false => none) := by
  kernel_rfl

theorem ok_wtS : FnT Try.prog 32 g_w := by
  refine fnT tabok_wtS Try.func32 rfl rfl an_wtS fun vs h v h' e => ?_
  unfold g_w at e
  split at e
  case h_2 => exact (T.no_inv e).elim
  rename_i b w n
  refine ⟨n.toNat + 1, Eq.trans (run_wtS _ _ _ _) (Eq.trans ?_ e)⟩
  show _ = T.k _ _
  simp only [T.k]
  unfold wOk
  cases hb : nonB b
  · rfl
  rw [pos_non]
  cases hw : nonB w
  · rfl
  cases he : eqB w 0
  case true => rfl
  have hp : posB w = true := by rw [pos_non, hw, he]; rfl
  cases hn : inB n 1 40
  · rfl
  have hbn := inB_of hn
  obtain ⟨m, rfl⟩ : ∃ m : Nat, n = (m : Int) := ⟨n.toNat, by omega⟩
  rw [Int.toNat_natCast]
  have hf : finB (wS b w m) = true := wS_fin hb hp (by omega)
  have hc := count_up m (fun i (s : List Nat × Nat) => (s.1 ++ [wX b w i], fop .add .f32 s.2 (wX b w i))) (fun M i s => lp_wtS6 (m + 1) M (st_wtS6 b w ((m : Nat) : Int) i s.2 (i : Int) s.1) (kt_wtS6 (m + 1) (kEnd Try.f32 0)))
    (fun s => match !(nonB s.2) with | true => some (nilF, []) | false => match eqB s.2 0 with | true => some (nilF, []) | false => lp_wtS14 (m + 1) (m + 1) (st_wtS14 m s.2 ((m : Nat) : Int) 0 s.1) (kt_wtS14 (m + 1) (kEnd Try.f32 0))) (fun i (s : List Nat × Nat) => s.1.length = i)
    (fun M i s hi hv => ?_) (fun M s hv => ?_) m 0 (([] : List Nat), 0) (by omega) rfl 0
  · simp only [Bool.true_and]
    rw [show m + 1 + 0 = m + 1 by omega] at hc
    rw [rounds_pair (wX b w) (fun i s => fop .add .f32 s (wX b w i))] at hc
    refine Eq.trans hc ?_
    simp only [List.nil_append]
    show (match !(nonB (wS b w m)) with | true => some (nilF, ([] : H)) | false => match eqB (wS b w m) 0 with | true => some (nilF, []) | false => lp_wtS14 (m + 1) (m + 1) (st_wtS14 m (wS b w m) ((m : Nat) : Int) 0 (wL b w m)) (kt_wtS14 (m + 1) (kEnd Try.f32 0))) = _
    have hps := pos_non (wS b w m)
    rw [show posB (wS b w m) = gtB (wS b w m) 0 by unfold posB; rw [hf]; rfl] at hps
    rw [hps]
    cases nonB (wS b w m)
    · rfl
    cases eqB (wS b w m) 0
    case true => rfl
    simp only [Bool.true_and, Bool.not_false]
    have hc2 := count_up m (fun i (s : List Nat) => s.set i (fop .quo .f32 (s.getD i 0) (wS b w m))) (fun M i s => lp_wtS14 (m + 1) M (st_wtS14 m (wS b w m) ((m : Nat) : Int) (i : Int) s) (kt_wtS14 (m + 1) (kEnd Try.f32 0)))
      (fun s => match s.all finB with | true => some (.tup [.a (.sl 0 0 m), .a (.bool true)], [.at true (.fl .f32 s)]) | false => some (nilF, [])) (fun _ s => s.length = m)
      (fun M i s hi hv => ?_) (fun M s hv => ?_) m 0 (wL b w m) (by omega) (by simp [wL]) 0
    · rw [show wL b w m = [] ++ wL b w m from rfl, map_rounds (fun x => fop .quo .f32 x (wS b w m)) m 0 [] (wL b w m) (by simp [wL]) rfl] at hc2
      refine Eq.trans hc2 ?_
      show (match (wD b w m).all finB with | true => some (V.tup [.a (.sl 0 0 m), .a (.bool true)], ([.at true (.fl .f32 (wD b w m))] : H)) | false => some (nilF, [])) = _
      cases (wD b w m).all finB <;> rfl
    · have hg : s[i]? = some (s.getD i 0) := get_getD (by omega)
      refine ⟨?_, by simpa using hv⟩
      simp only [step_wtS14, dlt hi, din hi, ix, hg, decide_eq_true (show i < s.length by omega), wr (show i < 2147483648 by omega)]
    · simp only [step_wtS14, dge (Nat.le_refl _), end_wtS14_0, decide_eq_true (show s.length = m ∧ m < 2147483648 from ⟨hv, by omega⟩)] <;> (cases s.all finB <;> rfl)
  · have hx : expOk (fop .sub .f32 0 (fop .quo .f32 (fop .mul .f32 b (v_rotor (i : Int))) w)) = true := w_exp hb hp (by omega)
    refine ⟨?_, by simp [hv]⟩
    simp only [step_wtS6, dlt hi, hx, apc hv (show i < 2147483648 by omega) (show 4 ≤ 16 by omega), wr (show i < 2147483648 by omega), wWrap (show i < 40 by omega)]
    rfl
  · simp only [step_wtS6, dge (Nat.le_refl _), end_wtS6_0] <;> rfl
def an_wtI : Ann := ⟨fun r => if r = 5 then some ([0, 1, 8, 28, 29], [8]) else if r = 13 then some ([8, 10, 55, 56], [8]) else none, fun _ _ => .quiet⟩
def tab_wtI : Fns := tabT [(25, gAllT nonB), (29, gAllT posB), (26, gT gIn), (27, gT g_rotor), (30, gExp), (31, gSum), (28, gLsT)]
theorem tabok_wtI : ∀ f, FnT Try.prog f (tab_wtI f) := (tabT_cons (k := 25) ok_areRotor (tabT_cons (k := 29) ok_arePositive (tabT_cons (k := 26) ok_within (tabT_cons (k := 27) ok_rotor (tabT_cons (k := 30) ok_ExpNumber (tabT_cons (k := 31) ok_sum (tabT_cons (k := 28) ok_checkedNumbers tabT_nil)))))))
def st_wtI5 (b0 : Nat) (warm1 : Nat) (out8n : Nat) (t28 : Int) (t29 : Int) (l0 : List Nat) : St := ⟨(.fl .f32 b0 :: .fl .f32 warm1 :: (anys 6 (.sl 0 0 out8n :: (anys 19 (.int .i64 t28 :: .int .i64 t29 :: (anys 41 [])))))), [.at true (.fl .f32 l0)]⟩
abbrev kp_wtI5 : Option (List Nat × List Nat) := some ([0, 1, 8, 28, 29], [8])
noncomputable def lp_wtI5 {R : Type} (N M : Nat) (s : St) (K : X → St → Option R) : Option R := loopH 0 kp_wtI5 (fun st K => exec ty tab_wtI an_wtI N 0 (atOf [true, true, true, false, true, false, false] Try.f8) st K) M s K
noncomputable def bk_wtI5 {R : Type} (N M : Nat) (K : X → St → Option R) : X → St → Option R := fun x st => match x with | .norm => tidyK 0 (kp_wtI5.map (·.1)) st fun st => lp_wtI5 N M st K | x => tidyK 0 (kp_wtI5.map (·.2)) st fun st => K x st
noncomputable def kt_wtI5 {R : Type} (N : Nat) (K : X → St → Option R) : X → St → Option R := kBlkR 0 (kSeqR tab_wtI an_wtI N 0 (atOf [true, true, true, true] Try.f8) (K))
def st_wtI13 (out8n : Nat) (all10 : Nat) (t55 : Int) (t56 : Int) (l0 : List Nat) : St := ⟨(anys 8 (.sl 0 0 out8n :: .any :: .fl .f32 all10 :: (anys 44 (.int .i64 t55 :: .int .i64 t56 :: (anys 14 []))))), [.at true (.fl .f32 l0)]⟩
abbrev kp_wtI13 : Option (List Nat × List Nat) := some ([8, 10, 55, 56], [8])
noncomputable def lp_wtI13 {R : Type} (N M : Nat) (s : St) (K : X → St → Option R) : Option R := loopH 0 kp_wtI13 (fun st K => exec ty tab_wtI an_wtI N 0 (atOf [true, true, true, true, true, true, false, true, false, false] Try.f8) st K) M s K
noncomputable def bk_wtI13 {R : Type} (N M : Nat) (K : X → St → Option R) : X → St → Option R := fun x st => match x with | .norm => tidyK 0 (kp_wtI13.map (·.1)) st fun st => lp_wtI13 N M st K | x => tidyK 0 (kp_wtI13.map (·.2)) st fun st => K x st
noncomputable def kt_wtI13 {R : Type} (N : Nat) (K : X → St → Option R) : X → St → Option R := kBlkR 2 (kSeqR tab_wtI an_wtI N 0 (atOf [true, true, true, true, true, true, true] Try.f8) (K))
def en_wtI5_0 (out8n : Nat) (l0 : List Nat) : St := ⟨(anys 8 (.sl 0 0 out8n :: (anys 62 []))), [.at true (.fl .f32 l0)]⟩
def en_wtI13_0 (out8n : Nat) (l0 : List Nat) : St := ⟨(anys 8 (.sl 0 0 out8n :: (anys 62 []))), [.at true (.fl .f32 l0)]⟩
theorem run_wtI (N : Nat) (b : Nat) (w : Nat) (n : Int) : run ty tab_wtI an_wtI N Try.f8 [.fl .f32 b, .fl .f32 w, .int .i64 n] []
    = (match !(nonB b && true) with | true => some (.tup [.a (.nil), .a (.bool false)], []) | false => (match !(posB w && true) with | true => some (.tup [.a (.nil), .a (.bool false)], []) | false => (match !(inB n 1 40) with | true => some (.tup [.a (.nil), .a (.bool false)], []) | false => lp_wtI5 N N (st_wtI5 b w 0 n 0 ([] : List Nat)) (kt_wtI5 N (kEnd Try.f8 0))))) := by
  kernel_rfl
theorem step_wtI5 {R : Type} (N M : Nat) (K : X → St → Option R) (b0 : Nat) (warm1 : Nat) (out8n : Nat) (t28 : Int) (t29 : Int) (l0 : List Nat) : lp_wtI5 N (M + 1) (st_wtI5 b0 warm1 out8n t28 t29 l0) K
    = (match decide ((t29 : Int) < t28) with | true => (match expOk (fop .sub .f32 0 (fop .quo .f32 (fop .mul .f32 b0 (v_rotor t29)) warm1)) with | true => (match apok true out8n 1 l0.length 1 (out8n + 1) 4 with | true => lp_wtI5 N M (st_wtI5 b0 warm1 (out8n + 1) t28 (IntKind.i64.wrap (t29 + 1)) (l0 ++ [fop .mul .f32 (floatOfInt .f32 (IntKind.i64.wrap ((IntKind.i64.wrap (2 * t29)) + 1))) (expF (fop .sub .f32 0 (fop .quo .f32 (fop .mul .f32 b0 (v_rotor t29)) warm1)))])) K | false => none) | false => none) | false => K (.exit 0) (en_wtI5_0 out8n l0)) := by
  kernel_rfl
theorem step_wtI13 {R : Type} (N M : Nat) (K : X → St → Option R) (out8n : Nat) (all10 : Nat) (t55 : Int) (t56 : Int) (l0 : List Nat) : lp_wtI13 N (M + 1) (st_wtI13 out8n all10 t55 t56 l0) K
    = (match decide ((t56 : Int) < t55) with | true => (match decide (0 ≤ (t56 : Int) ∧ (t56 : Int) < ((out8n : Nat) : Int)) with | true => (match l0[0 + (t56).toNat * 1]? with | some e1 => (match decide (0 ≤ (t56 : Int) ∧ (t56 : Int) < ((out8n : Nat) : Int)) with | true => (match decide (0 + (t56).toNat * 1 < l0.length) with | true => lp_wtI13 N M (st_wtI13 out8n all10 t55 (IntKind.i64.wrap (t56 + 1)) (l0.set (0 + (t56).toNat * 1) (fop .quo .f32 e1 all10))) K | false => none) | false => none) | none => none) | false => none) | false => K (.exit 2) (en_wtI13_0 out8n l0)) := by
  kernel_rfl
theorem end_wtI5_0 (N : Nat) (out8n : Nat) (l0 : List Nat) : kt_wtI5 N (kEnd Try.f8 0) (.exit 0) (en_wtI5_0 out8n l0)
    = (match decide (l0.length = out8n ∧ out8n < 2147483648) with | true => (match !(gtB (sumF l0) 0) with | true => some (.tup [.a (.nil), .a (.bool false)], []) | false => lp_wtI13 N N (st_wtI13 out8n (sumF l0) ((out8n : Nat) : Int) 0 l0) (kt_wtI13 N (kEnd Try.f8 0))) | false => none) := by
  kernel_rfl
theorem end_wtI13_0 (N : Nat) (out8n : Nat) (l0 : List Nat) : kt_wtI13 N (kEnd Try.f8 0) (.exit 2) (en_wtI13_0 out8n l0)
    = (match decide (l0.length = out8n ∧ out8n < 2147483648) with | true => (match l0.all finB with | true => some (.tup [.a (.sl 0 0 out8n), .a (.bool true)], [.at true (.fl .f32 l0)]) | false => some (.tup [.a (.nil), .a (.bool false)], [])) | false => none) := by
  kernel_rfl

theorem ok_wtI : FnT Try.prog 8 g_w := by
  refine fnT tabok_wtI Try.func8 rfl rfl an_wtI fun vs h v h' e => ?_
  unfold g_w at e
  split at e
  case h_2 => exact (T.no_inv e).elim
  rename_i b w n
  refine ⟨n.toNat + 1, Eq.trans (run_wtI _ _ _ _) (Eq.trans ?_ e)⟩
  show _ = T.k _ _
  simp only [T.k]
  unfold wOk
  cases hb : nonB b
  · rfl
  cases hp : posB w
  · rfl
  cases hn : inB n 1 40
  · rfl
  have hbn := inB_of hn
  obtain ⟨m, rfl⟩ : ∃ m : Nat, n = (m : Int) := ⟨n.toNat, by omega⟩
  rw [Int.toNat_natCast]
  have hf : finB (wS b w m) = true := wS_fin hb hp (by omega)
  have hc := count_up m (fun i (s : List Nat) => s ++ [wX b w i]) (fun M i s => lp_wtI5 (m + 1) M (st_wtI5 b w i ((m : Nat) : Int) (i : Int) s) (kt_wtI5 (m + 1) (kEnd Try.f8 0)))
    (fun s => match !(gtB (sumF s) 0) with | true => some (nilF, []) | false => lp_wtI13 (m + 1) (m + 1) (st_wtI13 m (sumF s) ((m : Nat) : Int) 0 s) (kt_wtI13 (m + 1) (kEnd Try.f8 0))) (fun i (s : List Nat) => s.length = i)
    (fun M i s hi hv => ?_) (fun M s hv => ?_) m 0 ([] : List Nat) (by omega) rfl 0
  · simp only [Bool.true_and]
    rw [show m + 1 + 0 = m + 1 by omega] at hc
    rw [rounds_append] at hc
    refine Eq.trans hc ?_
    simp only [List.nil_append]
    show (match !(gtB (sumF (wL b w m)) 0) with | true => some (nilF, ([] : H)) | false => lp_wtI13 (m + 1) (m + 1) (st_wtI13 m (sumF (wL b w m)) ((m : Nat) : Int) 0 (wL b w m)) (kt_wtI13 (m + 1) (kEnd Try.f8 0))) = _
    rw [wSum]
    cases gtB (wS b w m) 0
    · rfl
    simp only [Bool.true_and, Bool.not_false]
    have hc2 := count_up m (fun i (s : List Nat) => s.set i (fop .quo .f32 (s.getD i 0) (wS b w m))) (fun M i s => lp_wtI13 (m + 1) M (st_wtI13 m (wS b w m) ((m : Nat) : Int) (i : Int) s) (kt_wtI13 (m + 1) (kEnd Try.f8 0)))
      (fun s => match s.all finB with | true => some (.tup [.a (.sl 0 0 m), .a (.bool true)], [.at true (.fl .f32 s)]) | false => some (nilF, [])) (fun _ s => s.length = m)
      (fun M i s hi hv => ?_) (fun M s hv => ?_) m 0 (wL b w m) (by omega) (by simp [wL]) 0
    · rw [show wL b w m = [] ++ wL b w m from rfl, map_rounds (fun x => fop .quo .f32 x (wS b w m)) m 0 [] (wL b w m) (by simp [wL]) rfl] at hc2
      refine Eq.trans hc2 ?_
      show (match (wD b w m).all finB with | true => some (V.tup [.a (.sl 0 0 m), .a (.bool true)], ([.at true (.fl .f32 (wD b w m))] : H)) | false => some (nilF, [])) = _
      cases (wD b w m).all finB <;> rfl
    · have hg : s[i]? = some (s.getD i 0) := get_getD (by omega)
      refine ⟨?_, by simpa using hv⟩
      simp only [step_wtI13, dlt hi, din hi, ix, hg, decide_eq_true (show i < s.length by omega), wr (show i < 2147483648 by omega)]
    · simp only [step_wtI13, dge (Nat.le_refl _), end_wtI13_0, decide_eq_true (show s.length = m ∧ m < 2147483648 from ⟨hv, by omega⟩)] <;> (cases s.all finB <;> rfl)
  · have hx : expOk (fop .sub .f32 0 (fop .quo .f32 (fop .mul .f32 b (v_rotor (i : Int))) w)) = true := w_exp hb hp (by omega)
    refine ⟨?_, by simp [hv]⟩
    simp only [step_wtI5, dlt hi, hx, apc hv (show i < 2147483648 by omega) (show 4 ≤ 16 by omega), wr (show i < 2147483648 by omega), wWrap (show i < 40 by omega)]
    rfl
  · simp only [step_wtI5, dge (Nat.le_refl _), end_wtI5_0, decide_eq_true (show s.length = m ∧ m < 2147483648 from ⟨hv, by omega⟩)] <;> rfl
def tab_wtW : Fns := tabT [(32, g_w)]
theorem tabok_wtW : ∀ f, FnT Try.prog f (tab_wtW f) := (tabT_cons (k := 32) ok_wtS tabT_nil)
theorem run_wtW (N : Nat) (b : Nat) (w : Nat) (n : Int) : run ty tab_wtW ann0 N Try.f9 [.fl .f32 b, .fl .f32 w, .int .i64 n] []
    = (match wOk b w n with | true => some (.tup [.a (.sl 0 0 n.toNat), .a (.bool true)], [.at true (.fl .f32 (wD b w n.toNat))]) | false => some (.tup [.a (.nil), .a (.bool false)], [])) := by
  kernel_rfl

theorem ok_wtW : FnT Try.prog 9 g_w := by
  refine fnT tabok_wtW Try.func9 rfl rfl ann0 fun vs h v h' e => ⟨0, ?_⟩
  unfold g_w at e
  split at e
  case h_2 => exact (T.no_inv e).elim
  rename_i b w n
  refine Eq.trans (run_wtW 0 _ _ _) (Eq.trans ?_ e)
  show _ = T.k _ _
  simp only [T.k]
  cases wOk b w n <;> rfl
theorem w_bound {b w : Nat} {n : Int} (h : wOk b w n = true) : 1 ≤ n ∧ n ≤ 40 := by
  unfold wOk at h
  simp only [Bool.and_eq_true] at h
  exact inB_of h.2.2.1
end Go.Proofs.Ytbbggpcbnahgiaa.Ab
