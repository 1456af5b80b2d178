/- Wave numbers: what both compute. Only lemmas. Printed by gen_waven.py. -/
import Derived.Test.YtbhfjdlhhjeknaaWvB
namespace Go.Proofs.Ytbhfjdlhhjeknaa.Ab
set_option linter.unusedVariables false
set_option linter.unusedSimpArgs false
open Go
def gWn : GT := fun vs h => match vs, h with
  | [.g [.sl 0 0 n, .sl 1 0 m], .fl .f32 e], [.at r0 (.fl .f32 l0), .at r1 (.fl .f32 l1)] => .ite (decide (l0.length = n ∧ n < 2147483648 ∧ l1.length = m ∧ m < 2147483648)) (.ite (wnOk l0 l1 e) (.ret (.tup [.a (.sl 2 0 (wvL e l1).length), .a (.bool true)]) [.at r0 (.fl .f32 l0), .at r1 (.fl .f32 l1), .at true (.cx .f32 (wvL e l1))]) (.ret (.tup [.a .nil, .a (.bool false)]) [.at r0 (.fl .f32 l0), .at r1 (.fl .f32 l1)])) .no
  | _, _ => .no
def wlOk (n m : Nat) (l0 l1 : List Nat) (e : Nat) : Bool := decide (l0.length = n ∧ n < 2147483648 ∧ l1.length = m ∧ m < 13) && (l1.all finB && finB e)
def gWl : GT := fun vs h => match vs, h with
  | [.ptr 0 0, .fl .f32 e], [.at r (.as 1 [.sl 1 0 n, .sl 2 0 m]), .at r0 (.fl .f32 l0), .at r1 (.fl .f32 l1)] => .ite (wlOk n m l0 l1 e) (.ite (l1.all (wvQ e) && (wvL e l1).all cfB) (.ret (.tup [.a (.sl 3 0 (wvL e l1).length), .a (.bool true)]) [.at r (.as 1 [.sl 1 0 n, .sl 2 0 m]), .at r0 (.fl .f32 l0), .at r1 (.fl .f32 l1), .at true (.cx .f32 (wvL e l1))]) (.ret (.tup [.a .nil, .a (.bool false)]) [.at r (.as 1 [.sl 1 0 n, .sl 2 0 m]), .at r0 (.fl .f32 l0), .at r1 (.fl .f32 l1)])) .no
  | _, _ => .no
theorem wvL_len (e : Nat) (l : List Nat) : (wvL e l).length = l.length := by simp [wvL]
def an_wnI : Ann := ⟨fun r => if r = 5 then some ([1, 6, 19, 20, 21], [4, 5, 6]) else none, fun _ _ => .quiet⟩
def tab_wnI : Fns := tabT [(70, gVs), (71, gT (gF1 finB)), (41, gT gRoot), (72, gCoC)]
theorem tabok_wnI : ∀ f, FnT Try.prog f (tab_wnI f) := (tabT_cons (k := 70) ok_vsI (tabT_cons (k := 71) ok_IsFinite (tabT_cons (k := 41) ok_RootNumber (tabT_cons (k := 72) ok_coC tabT_nil))))
def st_wnI5 (energy1 : Nat) (out6n : Nat) (t19n : Nat) (t20 : Int) (t21 : Int) (rw0 : Bool) (l0 : List Nat) (rw1 : Bool) (l1 : List Nat) (l2 : List (Nat × Nat)) : St := ⟨(.any :: .fl .f32 energy1 :: .any :: .any :: .any :: .any :: .sl 2 0 out6n :: (anys 12 (.sl 1 0 t19n :: .int .i64 t20 :: .int .i64 t21 :: (anys 31 [])))), [.at rw0 (.fl .f32 l0), .at rw1 (.fl .f32 l1), .at true (.cx .f32 l2)]⟩
abbrev kp_wnI5 : Option (List Nat × List Nat) := some ([1, 6, 19, 20, 21], [4, 5, 6])
noncomputable def lp_wnI5 {R : Type} (N M : Nat) (s : St) (K : X → St → Option R) : Option R := loopH 2 kp_wnI5 (fun st K => exec ty tab_wnI an_wnI N 2 (atOf [true, true, true, false, true, false, false] Try.f18) st K) M s K
noncomputable def bk_wnI5 {R : Type} (N M : Nat) (K : X → St → Option R) : X → St → Option R := fun x st => match x with | .norm => tidyK 2 (kp_wnI5.map (·.1)) st fun st => lp_wnI5 N M st K | x => tidyK 2 (kp_wnI5.map (·.2)) st fun st => K x st
noncomputable def kt_wnI5 {R : Type} (N : Nat) (K : X → St → Option R) : X → St → Option R := kBlkR 0 (kSeqR tab_wnI an_wnI N 2 (atOf [true, true, true, true] Try.f18) (K))
def en_wnI5_0 (out6n : Nat) (rw0 : Bool) (l0 : List Nat) (rw1 : Bool) (l1 : List Nat) (l2 : List (Nat × Nat)) : St := ⟨(.any :: .any :: .any :: .any :: .nil :: .bool false :: .sl 2 0 out6n :: (anys 46 [])), [.at rw0 (.fl .f32 l0), .at rw1 (.fl .f32 l1), .at true (.cx .f32 l2)]⟩
def en_wnI5_1 (out6n : Nat) (rw0 : Bool) (l0 : List Nat) (rw1 : Bool) (l1 : List Nat) (l2 : List (Nat × Nat)) : St := ⟨(anys 6 (.sl 2 0 out6n :: (anys 46 []))), [.at rw0 (.fl .f32 l0), .at rw1 (.fl .f32 l1), .at true (.cx .f32 l2)]⟩
theorem run_wnI (N : Nat) (n : Nat) (m : Nat) (e : Nat) (r0 : Bool) (l0 : List Nat) (r1 : Bool) (l1 : List Nat) : run ty tab_wnI an_wnI N Try.f18 [.g [.sl 0 0 n, .sl 1 0 m], .fl .f32 e] [.at r0 (.fl .f32 l0), .at r1 (.fl .f32 l1)]
    = (match decide (l0.length = n ∧ n < 2147483648 ∧ l1.length = m ∧ m < 2147483648) with | true => (match !(vsB l0 l1) with | true => some (.tup [.a (.nil), .a (.bool false)], [.at r0 (.fl .f32 l0), .at r1 (.fl .f32 l1)]) | false => (match !(finB e) with | true => some (.tup [.a (.nil), .a (.bool false)], [.at r0 (.fl .f32 l0), .at r1 (.fl .f32 l1)]) | false => lp_wnI5 N N (st_wnI5 e 0 m ((m : Nat) : Int) 0 r0 l0 r1 l1 []) (kt_wnI5 N (kEnd Try.f18 2)))) | false => none) := by
  kernel_rfl
theorem step_wnI5 {R : Type} (N M : Nat) (K : X → St → Option R) (energy1 : Nat) (out6n : Nat) (t19n : Nat) (t20 : Int) (t21 : Int) (rw0 : Bool) (l0 : List Nat) (rw1 : Bool) (l1 : List Nat) (l2 : List (Nat × Nat)) : lp_wnI5 N (M + 1) (st_wnI5 energy1 out6n t19n t20 t21 rw0 l0 rw1 l1 l2) K
    = (match decide ((t21 : Int) < t20) with | true => (match decide (0 ≤ (t21 : Int) ∧ (t21 : Int) < ((t19n : Nat) : Int)) with | true => (match l1[0 + (t21).toNat * 1]? with | some e1 => (match gtB energy1 e1 with | true => (match apok true out6n 1 l2.length 1 (out6n + 1) 8 with | true => lp_wnI5 N M (st_wnI5 energy1 (out6n + 1) t19n t20 (IntKind.i64.wrap (t21 + 1)) rw0 l0 rw1 l1 (l2 ++ [(rootF (fop .sub .f32 energy1 e1), 0)])) K | false => none) | false => (match ltB energy1 e1 with | true => (match apok true out6n 1 l2.length 1 (out6n + 1) 8 with | true => lp_wnI5 N M (st_wnI5 energy1 (out6n + 1) t19n t20 (IntKind.i64.wrap (t21 + 1)) rw0 l0 rw1 l1 (l2 ++ [(0, rootF (fop .sub .f32 e1 energy1))])) K | false => none) | false => K .ret (en_wnI5_0 out6n rw0 l0 rw1 l1 l2))) | none => none) | false => none) | false => K (.exit 0) (en_wnI5_1 out6n rw0 l0 rw1 l1 l2)) := by
  kernel_rfl
theorem end_wnI5_0 (N : Nat) (out6n : Nat) (rw0 : Bool) (l0 : List Nat) (rw1 : Bool) (l1 : List Nat) (l2 : List (Nat × Nat)) : kt_wnI5 N (kEnd Try.f18 2) .ret (en_wnI5_0 out6n rw0 l0 rw1 l1 l2)
    = some (.tup [.a (.nil), .a (.bool false)], [.at rw0 (.fl .f32 l0), .at rw1 (.fl .f32 l1)]) := by
  kernel_rfl
theorem end_wnI5_1 (N : Nat) (out6n : Nat) (rw0 : Bool) (l0 : List Nat) (rw1 : Bool) (l1 : List Nat) (l2 : List (Nat × Nat)) : kt_wnI5 N (kEnd Try.f18 2) (.exit 0) (en_wnI5_1 out6n rw0 l0 rw1 l1 l2)
    = (match decide (l2.length = out6n ∧ out6n < 2147483648) with | true => (match !(l2.all cfB) with | true => some (.tup [.a (.nil), .a (.bool false)], [.at rw0 (.fl .f32 l0), .at rw1 (.fl .f32 l1)]) | false => some (.tup [.a (.sl 2 0 out6n), .a (.bool true)], [.at rw0 (.fl .f32 l0), .at rw1 (.fl .f32 l1), .at true (.cx .f32 l2)])) | false => none) := by
  kernel_rfl

theorem ok_wnI : FnT Try.prog 18 gWn := by
  refine fnT tabok_wnI Try.func18 rfl rfl an_wnI fun vs h v h' ee => ⟨40, ?_⟩
  unfold gWn at ee
  split at ee
  case h_2 => exact (T.no_inv ee).elim
  rename_i n m e r0 l0 r1 l1
  obtain ⟨hd, e2⟩ := T.pre_inv ee
  refine Eq.trans (run_wnI 40 n m e r0 l0 r1 l1) (Eq.trans ?_ e2)
  rw [hd]
  obtain ⟨rfl, hb, rfl, hb2⟩ := of_decide_eq_true hd
  clear ee e2 hd
  rw [T.run_ite, T.run_ret, T.run_ret]
  unfold wnOk
  cases hv : vsB l0 l1
  · rfl
  cases hf : finB e
  · rfl
  have hv' := hv
  unfold vsB at hv'
  simp only [Bool.and_eq_true] at hv'
  have h12 := of_decide_eq_true hv'.1
  have hl1 := of_decide_eq_true hv'.2.1
  try dsimp only [Bool.not_true]
  have hs := app_scan l1 (wvQ e) (wvV e) (fun M i out => lp_wnI5 40 M (st_wnI5 e out.length l1.length ((l1.length : Nat) : Int) (i : Int) r0 l0 r1 l1 out) (kt_wnI5 40 (kEnd Try.f18 2))) (some ((.tup [.a .nil, .a (.bool false)]), [.at r0 (.fl .f32 l0), .at r1 (.fl .f32 l1)])) (fun out => match out.all cfB with | true => some (.tup [.a (.sl 2 0 out.length), .a (.bool true)], [.at r0 (.fl .f32 l0), .at r1 (.fl .f32 l1), .at true (.cx .f32 out)]) | false => some ((.tup [.a .nil, .a (.bool false)]), [.at r0 (.fl .f32 l0), .at r1 (.fl .f32 l1)])) (fun M i out x hx ho => ?_) (fun M out ho => ?_) l1 [] rfl (39 - l1.length)
  · rw [show l1.length + 1 + (39 - l1.length) = 40 by omega] at hs
    refine Eq.trans hs ?_
    show _ = match true && (true && (l1.all (wvQ e) && (wvL e l1).all cfB)) with | true => _ | false => _
    unfold wvL
    cases l1.all (wvQ e)
    · rfl
    · cases (l1.map (wvV e)).all cfB <;> rfl
  · have hi := lt_of_get hx
    have hap : apok true out.length 1 out.length 1 (out.length + 1) 8 = true := apc rfl (by omega) (by decide)
    rw [step_wnI5, dlt hi, din hi, ix, hx]
    try dsimp only
    unfold wvQ wvV
    cases gtB e x
    · cases ltB e x
      · try dsimp only [Bool.false_or]
        rw [end_wnI5_0]
        try rfl
      · try dsimp only
        rw [hap, wr (show i < 2147483648 by omega)]
        try dsimp only
        rw [List.length_append]
        rfl
    · try dsimp only
      rw [hap, wr (show i < 2147483648 by omega)]
      try dsimp only
      rw [List.length_append]
      rfl
  · rw [step_wnI5, dge (Nat.le_refl _)]
    try dsimp only
    rw [end_wnI5_1, decide_eq_true (show out.length = out.length ∧ out.length < 2147483648 from ⟨rfl, by omega⟩)]
    cases out.all cfB <;> rfl
def an_wlS : Ann := ⟨fun r => if r = 3 then some ([0, 1, 6, 7], [4, 5, 6]) else none, fun _ _ => .quiet⟩
def tab_wlS : Fns := tabT [(129, gT gRoot), (133, gCF)]
theorem tabok_wlS : ∀ f, FnT Try.prog f (tab_wlS f) := (tabT_cons (k := 129) ok_l01Sqrt (tabT_cons (k := 133) ok_cfS tabT_nil))
def st_wlS3 (energy1 : Nat) (out6n : Nat) (i7 : Int) (rw0 : Bool) (b0_0n : Nat) (b0_1n : Nat) (rw1 : Bool) (l1 : List Nat) (rw2 : Bool) (l2 : List Nat) (l3 : List (Nat × Nat)) : St := ⟨(.ptr 0 0 :: .fl .f32 energy1 :: .any :: .any :: .any :: .any :: .sl 3 0 out6n :: .int .i64 i7 :: (anys 50 [])), [.at rw0 (.as 1 [.sl 1 0 b0_0n, .sl 2 0 b0_1n]), .at rw1 (.fl .f32 l1), .at rw2 (.fl .f32 l2), .at true (.cx .f32 l3)]⟩
abbrev kp_wlS3 : Option (List Nat × List Nat) := some ([0, 1, 6, 7], [4, 5, 6])
noncomputable def lp_wlS3 {R : Type} (N M : Nat) (s : St) (K : X → St → Option R) : Option R := loopH 3 kp_wlS3 (fun st K => exec ty tab_wlS an_wlS N 3 (atOf [true, true, false, true, false, false] Try.f68) st K) M s K
noncomputable def bk_wlS3 {R : Type} (N M : Nat) (K : X → St → Option R) : X → St → Option R := fun x st => match x with | .norm => tidyK 3 (kp_wlS3.map (·.1)) st fun st => lp_wlS3 N M st K | x => tidyK 3 (kp_wlS3.map (·.2)) st fun st => K x st
noncomputable def kt_wlS3 {R : Type} (N : Nat) (K : X → St → Option R) : X → St → Option R := kBlkR 0 (kSeqR tab_wlS an_wlS N 3 (atOf [true, true, true] Try.f68) (K))
def en_wlS3_0 (out6n : Nat) (rw0 : Bool) (b0_0n : Nat) (b0_1n : Nat) (rw1 : Bool) (l1 : List Nat) (rw2 : Bool) (l2 : List Nat) (l3 : List (Nat × Nat)) : St := ⟨(.any :: .any :: .any :: .any :: .nil :: .bool false :: .sl 3 0 out6n :: (anys 51 [])), [.at rw0 (.as 1 [.sl 1 0 b0_0n, .sl 2 0 b0_1n]), .at rw1 (.fl .f32 l1), .at rw2 (.fl .f32 l2), .at true (.cx .f32 l3)]⟩
def en_wlS3_1 (out6n : Nat) (rw0 : Bool) (b0_0n : Nat) (b0_1n : Nat) (rw1 : Bool) (l1 : List Nat) (rw2 : Bool) (l2 : List Nat) (l3 : List (Nat × Nat)) : St := ⟨(anys 6 (.sl 3 0 out6n :: (anys 51 []))), [.at rw0 (.as 1 [.sl 1 0 b0_0n, .sl 2 0 b0_1n]), .at rw1 (.fl .f32 l1), .at rw2 (.fl .f32 l2), .at true (.cx .f32 l3)]⟩
theorem run_wlS (N : Nat) (e : Nat) (r : Bool) (n : Nat) (m : Nat) (r0 : Bool) (l0 : List Nat) (r1 : Bool) (l1 : List Nat) : run ty tab_wlS an_wlS N Try.f68 [.ptr 0 0, .fl .f32 e] [.at r (.as 1 [.sl 1 0 n, .sl 2 0 m]), .at r0 (.fl .f32 l0), .at r1 (.fl .f32 l1)]
    = lp_wlS3 N N (st_wlS3 e 0 0 r n m r0 l0 r1 l1 []) (kt_wlS3 N (kEnd Try.f68 3)) := by
  kernel_rfl
theorem step_wlS3 {R : Type} (N M : Nat) (K : X → St → Option R) (energy1 : Nat) (out6n : Nat) (i7 : Int) (rw0 : Bool) (b0_0n : Nat) (b0_1n : Nat) (rw1 : Bool) (l1 : List Nat) (rw2 : Bool) (l2 : List Nat) (l3 : List (Nat × Nat)) : lp_wlS3 N (M + 1) (st_wlS3 energy1 out6n i7 rw0 b0_0n b0_1n rw1 l1 rw2 l2 l3) K
    = (match decide ((i7 : Int) < ((b0_1n : Nat) : Int)) with | true => (match decide (0 ≤ (i7 : Int) ∧ (i7 : Int) < ((b0_1n : Nat) : Int)) with | true => (match l2[0 + (i7).toNat * 1]? with | some e1 => (match gtB (fop .sub .f32 energy1 e1) 0 with | true => (match apok true out6n 1 l3.length 1 (out6n + 1) 8 with | true => lp_wlS3 N M (st_wlS3 energy1 (out6n + 1) (IntKind.i64.wrap (i7 + 1)) rw0 b0_0n b0_1n rw1 l1 rw2 l2 (l3 ++ [(rootF (fop .sub .f32 energy1 e1), 0)])) K | false => none) | false => (match ltB (fop .sub .f32 energy1 e1) 0 with | true => (match decide (0 ≤ (i7 : Int) ∧ (i7 : Int) < ((b0_1n : Nat) : Int)) with | true => (match l2[0 + (i7).toNat * 1]? with | some e2 => (match apok true out6n 1 l3.length 1 (out6n + 1) 8 with | true => lp_wlS3 N M (st_wlS3 energy1 (out6n + 1) (IntKind.i64.wrap (i7 + 1)) rw0 b0_0n b0_1n rw1 l1 rw2 l2 (l3 ++ [(0, rootF (fop .sub .f32 e2 energy1))])) K | false => none) | none => none) | false => none) | false => K .ret (en_wlS3_0 out6n rw0 b0_0n b0_1n rw1 l1 rw2 l2 l3))) | none => none) | false => none) | false => K (.exit 0) (en_wlS3_1 out6n rw0 b0_0n b0_1n rw1 l1 rw2 l2 l3)) := by
  kernel_rfl
theorem end_wlS3_0 (N : Nat) (out6n : Nat) (rw0 : Bool) (b0_0n : Nat) (b0_1n : Nat) (rw1 : Bool) (l1 : List Nat) (rw2 : Bool) (l2 : List Nat) (l3 : List (Nat × Nat)) : kt_wlS3 N (kEnd Try.f68 3) .ret (en_wlS3_0 out6n rw0 b0_0n b0_1n rw1 l1 rw2 l2 l3)
    = some (.tup [.a (.nil), .a (.bool false)], [.at rw0 (.as 1 [.sl 1 0 b0_0n, .sl 2 0 b0_1n]), .at rw1 (.fl .f32 l1), .at rw2 (.fl .f32 l2)]) := by
  kernel_rfl
theorem end_wlS3_1 (N : Nat) (out6n : Nat) (rw0 : Bool) (b0_0n : Nat) (b0_1n : Nat) (rw1 : Bool) (l1 : List Nat) (rw2 : Bool) (l2 : List Nat) (l3 : List (Nat × Nat)) : kt_wlS3 N (kEnd Try.f68 3) (.exit 0) (en_wlS3_1 out6n rw0 b0_0n b0_1n rw1 l1 rw2 l2 l3)
    = (match decide (l3.length = out6n ∧ out6n < 2147483648) with | true => (match !(l3.all cfB) with | true => some (.tup [.a (.nil), .a (.bool false)], [.at rw0 (.as 1 [.sl 1 0 b0_0n, .sl 2 0 b0_1n]), .at rw1 (.fl .f32 l1), .at rw2 (.fl .f32 l2)]) | false => some (.tup [.a (.sl 3 0 out6n), .a (.bool true)], [.at rw0 (.as 1 [.sl 1 0 b0_0n, .sl 2 0 b0_1n]), .at rw1 (.fl .f32 l1), .at rw2 (.fl .f32 l2), .at true (.cx .f32 l3)])) | false => none) := by
  kernel_rfl

theorem ok_wlS : FnT Try.prog 68 gWl := by
  refine fnT tabok_wlS Try.func68 rfl rfl an_wlS fun vs h v h' ee => ⟨40, ?_⟩
  unfold gWl at ee
  split at ee
  case h_2 => exact (T.no_inv ee).elim
  rename_i e r n m r0 l0 r1 l1
  obtain ⟨hd, e2⟩ := T.pre_inv ee
  refine Eq.trans (run_wlS 40 e r n m r0 l0 r1 l1) (Eq.trans ?_ e2)
  unfold wlOk at hd
  rw [Bool.and_eq_true, Bool.and_eq_true] at hd
  obtain ⟨hd, hfl, hf⟩ := hd
  obtain ⟨rfl, hb, rfl, hb2⟩ := of_decide_eq_true hd
  clear ee e2 hd
  rw [T.run_ite, T.run_ret, T.run_ret]
  have hs := app_scan l1 (wvQ e) (wvV e) (fun M i out => lp_wlS3 40 M (st_wlS3 e out.length (i : Int) r l0.length l1.length r0 l0 r1 l1 out) (kt_wlS3 40 (kEnd Try.f68 3))) (some ((.tup [.a .nil, .a (.bool false)]), [.at r (.as 1 [.sl 1 0 l0.length, .sl 2 0 l1.length]), .at r0 (.fl .f32 l0), .at r1 (.fl .f32 l1)])) (fun out => match out.all cfB with | true => some (.tup [.a (.sl 3 0 out.length), .a (.bool true)], [.at r (.as 1 [.sl 1 0 l0.length, .sl 2 0 l1.length]), .at r0 (.fl .f32 l0), .at r1 (.fl .f32 l1), .at true (.cx .f32 out)]) | false => some ((.tup [.a .nil, .a (.bool false)]), [.at r (.as 1 [.sl 1 0 l0.length, .sl 2 0 l1.length]), .at r0 (.fl .f32 l0), .at r1 (.fl .f32 l1)])) (fun M i out x hx ho => ?_) (fun M out ho => ?_) l1 [] rfl (39 - l1.length)
  · rw [show l1.length + 1 + (39 - l1.length) = 40 by omega] at hs
    refine Eq.trans hs ?_
    unfold wvL
    cases l1.all (wvQ e)
    · rfl
    · cases (l1.map (wvV e)).all cfB <;> rfl
  · have hi := lt_of_get hx
    have hfx : finB x = true := List.all_eq_true.mp hfl x (List.mem_of_getElem? hx)
    have hsg := sub_sign hf hfx
    have hg : gtB (fop .sub .f32 e x) 0 = gtB e x := by unfold gtB; rw [hsg]
    have hl : ltB (fop .sub .f32 e x) 0 = ltB e x := by unfold ltB; rw [hsg]
    have hap : apok true out.length 1 out.length 1 (out.length + 1) 8 = true := apc rfl (by omega) (by decide)
    rw [step_wlS3, dlt hi, din hi, ix, hx]
    try dsimp only
    rw [hg, hl]
    unfold wvQ wvV
    cases gtB e x
    · cases ltB e x
      · try dsimp only [Bool.false_or]
        rw [end_wlS3_0]
        try rfl
      · try dsimp only
        rw [hap, wr (show i < 2147483648 by omega)]
        try dsimp only
        rw [List.length_append]
        rfl
    · try dsimp only
      rw [hap, wr (show i < 2147483648 by omega)]
      try dsimp only
      rw [List.length_append]
      rfl
  · rw [step_wlS3, dge (Nat.le_refl _)]
    try dsimp only
    rw [end_wlS3_1, decide_eq_true (show out.length = out.length ∧ out.length < 2147483648 from ⟨rfl, by omega⟩)]
    cases out.all cfB <;> rfl
def tab_wnS : Fns := tabT [(66, gIs), (67, gT (gF1 finB)), (68, gWl)]
theorem tabok_wnS : ∀ f, FnT Try.prog f (tab_wnS f) := (tabT_cons (k := 66) ok_isS (tabT_cons (k := 67) ok_l01Finite (tabT_cons (k := 68) ok_wlS tabT_nil)))
theorem run_wnS (N : Nat) (n : Nat) (m : Nat) (e : Nat) (r0 : Bool) (l0 : List Nat) (r1 : Bool) (l1 : List Nat) : run ty tab_wnS ann0 N Try.f16 [.g [.sl 0 0 n, .sl 1 0 m], .fl .f32 e] [.at r0 (.fl .f32 l0), .at r1 (.fl .f32 l1)]
    = (match decide (l0.length = n ∧ n < 2147483648 ∧ l1.length = m ∧ m < 2147483648) with | true => (match !(vsB l0 l1) with | true => some (.tup [.a (.nil), .a (.bool false)], [.at r0 (.fl .f32 l0), .at r1 (.fl .f32 l1)]) | false => (match !(finB e) with | true => some (.tup [.a (.nil), .a (.bool false)], [.at r0 (.fl .f32 l0), .at r1 (.fl .f32 l1)]) | false => (match wlOk n m l0 l1 e with | true => (match l1.all (wvQ e) && (wvL e l1).all cfB with | true => some (.tup [.a (.sl 2 0 ((wvL e l1).length)), .a (.bool true)], [.at r0 (.fl .f32 l0), .at r1 (.fl .f32 l1), .at true (.cx .f32 (wvL e l1))]) | false => some (.tup [.a (.nil), .a (.bool false)], [.at r0 (.fl .f32 l0), .at r1 (.fl .f32 l1)])) | false => none))) | false => none) := by
  kernel_rfl

theorem ok_wnS : FnT Try.prog 16 gWn := by
  refine fnT tabok_wnS Try.func16 rfl rfl ann0 fun vs h v h' ee => ⟨0, ?_⟩
  unfold gWn at ee
  split at ee
  case h_2 => exact (T.no_inv ee).elim
  rename_i n m e r0 l0 r1 l1
  obtain ⟨hd, e2⟩ := T.pre_inv ee
  refine Eq.trans (run_wnS 0 n m e r0 l0 r1 l1) (Eq.trans ?_ e2)
  rw [hd]
  obtain ⟨rfl, hb, rfl, hb2⟩ := of_decide_eq_true hd
  clear ee e2 hd
  rw [T.run_ite, T.run_ret, T.run_ret]
  unfold wnOk
  cases hv : vsB l0 l1
  · rfl
  cases hf : finB e
  · rfl
  have hv' := hv
  unfold vsB at hv'
  simp only [Bool.and_eq_true] at hv'
  have h12 := of_decide_eq_true hv'.1
  have hl1 := of_decide_eq_true hv'.2.1
  have hw : wlOk l0.length l1.length l0 l1 e = true := by
    unfold wlOk
    rw [decide_eq_true (show l0.length = l0.length ∧ l0.length < 2147483648 ∧ l1.length = l1.length ∧ l1.length < 13 from ⟨rfl, hb, rfl, by omega⟩), hv'.2.2.2.1, hf]
    rfl
  try dsimp only [Bool.not_true]
  rw [hw]
  cases (l1.all (wvQ e) && (wvL e l1).all cfB) <;> rfl
end Go.Proofs.Ytbhfjdlhhjeknaa.Ab
