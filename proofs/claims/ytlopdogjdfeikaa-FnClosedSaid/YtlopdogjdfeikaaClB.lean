/- Rows, levels and places. Only lemmas. Printed by gen_closed.py. -/
import Derived.Test.YtlopdogjdfeikaaClA
namespace Go.Proofs.Ytlopdogjdfeikaa.Ab
set_option linter.unusedVariables false
set_option linter.unusedSimpArgs false
open Go
def tab_asc : Fns := tabT []
theorem tabok_asc : ∀ f, FnT Try.prog f (tab_asc f) := tabT_nil
theorem run_asc (N : Nat)  : run ty tab_asc ann0 (N + 5) Try.f38 [.nil] []
    = some (.bool true, []) := by
  kernel_rfl

def gAsc : GT := fun vs h => match vs, h with | [.nil], [] => .ret (.bool true) [] | _, _ => .no
theorem ok_asc : FnT Try.prog 38 gAsc := by
  refine fnT tabok_asc Try.func38 rfl rfl ann0 fun vs h v h' e => ⟨5, ?_⟩
  unfold gAsc at e
  split at e
  case h_2 => exact (T.no_inv e).elim
  obtain ⟨rfl, rfl⟩ := T.ret_inv e
  exact run_asc 0
noncomputable def tab_vs : Fns := tabT [(22, gAllT finB), (38, gAsc)]
theorem tabok_vs : ∀ f, FnT Try.prog f (tab_vs f) := (tabT_cons (k := 22) ok_areFinite (tabT_cons (k := 38) ok_asc tabT_nil))
theorem run_vs (N : Nat) (n : Nat) (r : Bool) (l : List Nat) : run ty tab_vs ann0 N Try.f21 [.g [.nil, .sl 0 0 n]] [.at r (.fl .f32 l)]
    = (match ((n : Nat) : Int) == 1 with | true => (match decide (l.length = n ∧ n < 2147483648) with | true => (match l.all finB with | true => some (.bool true, [.at r (.fl .f32 l)]) | false => some (.bool false, [.at r (.fl .f32 l)])) | false => none) | false => some (.bool false, [.at r (.fl .f32 l)])) := by
  kernel_rfl

noncomputable def md_vs (N : Nat) (n : Nat) (r : Bool) (l : List Nat) : Option (V × H) := (match ((n : Nat) : Int) == 1 with | true => (match decide (l.length = n ∧ n < 2147483648) with | true => (match l.all finB with | true => some (.bool true, [.at r (.fl .f32 l)]) | false => some (.bool false, [.at r (.fl .f32 l)])) | false => none) | false => some (.bool false, [.at r (.fl .f32 l)]))
theorem mdl_vs (N : Nat) (n : Nat) (r : Bool) (l : List Nat) : run ty tab_vs ann0 N Try.f21 [.g [.nil, .sl 0 0 n]] [.at r (.fl .f32 l)] = md_vs N n r l := by
  rw [run_vs]
  unfold md_vs
  first | (simp only [eq_self]; done) | (simp only [eq_self]; kernel_rfl) | rfl

def o_vs (n : Nat) (r : Bool) (l : List Nat) : Option (V × H) → Option (Bool)
  | some (.bool x0, [.at r0 (.fl .f32 y0)]) => match decide (r0 = r ∧ y0 = l) with | true => some x0 | false => none
  | _ => none
theorem oi_vs {n : Nat} {r : Bool} {l : List Nat} {o : Option (V × H)} {z : Bool} (h : o_vs n r l o = some z) : o = some (.bool z, [.at r (.fl .f32 l)]) := by
  unfold o_vs at h
  split at h
  · split at h
    · rename_i hd
      obtain ⟨rfl, rfl⟩ := of_decide_eq_true hd
      cases h
      rfl
    · cases h
  · cases h
noncomputable def d_vs (n : Nat) (r : Bool) (l : List Nat) : Option (Bool) := o_vs n r l (md_vs 50 n r l)
noncomputable def v_vs (n : Nat) (r : Bool) (l : List Nat) : Bool := (d_vs n r l).getD false
noncomputable def g_vs : GT := fun vs h => match vs, h with
  | [.g [.nil, .sl 0 0 n]], [.at r (.fl .f32 l)] => .ite (d_vs n r l).isSome (.ret (.bool (v_vs n r l)) [.at r (.fl .f32 l)]) .no
  | _, _ => .no
theorem ok_vs : FnT Try.prog 21 g_vs := by
  refine fnT tabok_vs Try.func21 rfl rfl ann0 fun vs h v h' e => ⟨50, ?_⟩
  unfold g_vs at e
  split at e
  · rename_i n r l
    obtain ⟨hs, e⟩ := T.pre_inv e
    obtain ⟨rfl, rfl⟩ := T.ret_inv e
    skip
    refine Eq.trans (mdl_vs 50 n r l) ?_
    obtain ⟨z, hz⟩ := Option.isSome_iff_exists.mp hs
    have hv : v_vs n r l = z := by unfold v_vs; rw [hz]; rfl
    rw [hv]
    exact oi_vs hz
  · exact (T.no_inv e).elim
def an_ha : Ann := ⟨fun r => if r = 2 then some ([1, 2, 5], [2, 5]) else none, fun _ _ => .quiet⟩
noncomputable def tab_ha : Fns := tabT []
theorem tabok_ha : ∀ f, FnT Try.prog f (tab_ha f) := tabT_nil
def st_ha2 (x1 : Nat) (rw0 : Bool) (l0 : List Nat) (b1_1n : Nat) : St := ⟨(.any :: .fl .f32 x1 :: .ptr 1 0 :: .any :: .any :: .int .i64 0 :: (anys 21 [])), [.at rw0 (.fl .f32 l0), .at true (.as 1 [.nil, .sl 0 0 b1_1n])]⟩
abbrev kp_ha2 : Option (List Nat × List Nat) := some ([1, 2, 5], [2, 5])
noncomputable def lp_ha2 {R : Type} (N M : Nat) (s : St) (K : X → St → Option R) : Option R := loopH 1 kp_ha2 (fun st K => exec ty tab_ha an_ha N 1 (atOf [true, true, false, false, false] Try.f25) st K) M s K
noncomputable def bk_ha2 {R : Type} (N M : Nat) (K : X → St → Option R) : X → St → Option R := fun x st => match x with | .norm => tidyK 1 (kp_ha2.map (·.1)) st fun st => lp_ha2 N M st K | x => tidyK 1 (kp_ha2.map (·.2)) st fun st => K x st
noncomputable def kt_ha2 {R : Type} (N : Nat) (K : X → St → Option R) : X → St → Option R := kBlkR 0 (kSeqR tab_ha an_ha N 1 (atOf [true, true, true] Try.f25) (K))
def en_ha2_0 (rw0 : Bool) (l0 : List Nat) (b1_1n : Nat) : St := ⟨(.any :: .any :: .ptr 1 0 :: .any :: .any :: .int .i64 0 :: (anys 21 [])), [.at rw0 (.fl .f32 l0), .at true (.as 1 [.nil, .sl 0 0 b1_1n])]⟩
theorem run_ha (N : Nat) (n : Nat) (x : Nat) (r : Bool) (l : List Nat) : run ty tab_ha an_ha N Try.f25 [.g [.nil, .sl 0 0 n], .fl .f32 x] [.at r (.fl .f32 l)]
    = lp_ha2 N N (st_ha2 x r l n) (kt_ha2 N (kEnd Try.f25 1)) := by
  kernel_rfl
theorem step_ha2 {R : Type} (N M : Nat) (K : X → St → Option R) (x1 : Nat) (rw0 : Bool) (l0 : List Nat) (b1_1n : Nat) : lp_ha2 N (M + 1) (st_ha2 x1 rw0 l0 b1_1n) K
    = K (.exit 0) (en_ha2_0 rw0 l0 b1_1n) := by
  kernel_rfl
theorem end_ha2_0 (N : Nat) (rw0 : Bool) (l0 : List Nat) (b1_1n : Nat) : kt_ha2 N (kEnd Try.f25 1) (.exit 0) (en_ha2_0 rw0 l0 b1_1n)
    = (match decide (0 ≤ (0 : Int) ∧ (0 : Int) < ((b1_1n : Nat) : Int)) with | true => (match l0[0]? with | some e1 => some (.fl .f32 e1, [.at rw0 (.fl .f32 l0)]) | none => none) | false => none) := by
  kernel_rfl

noncomputable def ce_ha2_0 (N : Nat) (rw0 : Bool) (l0 : List Nat) (b1_1n : Nat) : Option (V × H) := (match decide (0 ≤ (0 : Int) ∧ (0 : Int) < ((b1_1n : Nat) : Int)) with | true => (match l0[0]? with | some e1 => some (.fl .f32 e1, [.at rw0 (.fl .f32 l0)]) | none => none) | false => none)
noncomputable def mb_ha2 (N : Nat) (k0 : Bool → List Nat → Nat → Option (V × H)) (rq : Nat → Bool → List Nat → Nat → Option (V × H)) : Nat → Bool → List Nat → Nat → Option (V × H) := fun (x1 : Nat) (rw0 : Bool) (l0 : List Nat) (b1_1n : Nat) => (k0 rw0 l0 b1_1n)
noncomputable def mr_ha2 (N : Nat) (k0 : Bool → List Nat → Nat → Option (V × H)) (M : Nat) : Nat → Bool → List Nat → Nat → Option (V × H) := Nat.rec (motive := fun _ => Nat → Bool → List Nat → Nat → Option (V × H)) (fun (_ : Nat) (_ : Bool) (_ : List Nat) (_ : Nat) => none) (fun _ rq => mb_ha2 N k0 rq) M
theorem mrs_ha2 (N : Nat) (k0 : Bool → List Nat → Nat → Option (V × H)) (M : Nat) (x1 : Nat) (rw0 : Bool) (l0 : List Nat) (b1_1n : Nat) : mr_ha2 N k0 (M + 1) x1 rw0 l0 b1_1n = mb_ha2 N k0 (mr_ha2 N k0 M) x1 rw0 l0 b1_1n := rfl
theorem H_ha2 (N : Nat) : ∀ (M : Nat) (x1 : Nat) (rw0 : Bool) (l0 : List Nat) (b1_1n : Nat), lp_ha2 N M (st_ha2 x1 rw0 l0 b1_1n) (kt_ha2 N (kEnd Try.f25 1)) = mr_ha2 N (ce_ha2_0 N) M x1 rw0 l0 b1_1n := by
  have he0 : ∀ (rw0 : Bool) (l0 : List Nat) (b1_1n : Nat), kt_ha2 N (kEnd Try.f25 1) (.exit 0) (en_ha2_0 rw0 l0 b1_1n) = ce_ha2_0 N rw0 l0 b1_1n := by
    intro rw0 l0 b1_1n
    rw [end_ha2_0]
    unfold ce_ha2_0
    cases hz1 : (decide (0 ≤ (0 : Int) ∧ (0 : Int) < ((b1_1n : Nat) : Int)))
    case true =>
      cases hz2 : (l0[0]?)
      case none =>
        rfl
      case some e1 =>
        try dsimp only
        all_goals rfl
    case false =>
      all_goals rfl
  intro M
  induction M with
  | zero => intros; rfl
  | succ M ih =>
    intro x1 rw0 l0 b1_1n
    rw [step_ha2]
    rw [mrs_ha2]
    unfold mb_ha2
    try dsimp only
    exact he0 _ _ _
noncomputable def md_ha (N : Nat) (n : Nat) (x : Nat) (r : Bool) (l : List Nat) : Option (V × H) := (mr_ha2 N (ce_ha2_0 N) N x r l n)
theorem mdl_ha (N : Nat) (n : Nat) (x : Nat) (r : Bool) (l : List Nat) : run ty tab_ha an_ha N Try.f25 [.g [.nil, .sl 0 0 n], .fl .f32 x] [.at r (.fl .f32 l)] = md_ha N n x r l := by
  rw [run_ha]
  unfold md_ha
  first | (simp only [H_ha2 N N]; done) | (simp only [H_ha2 N N]; kernel_rfl) | rfl

def o_ha (n : Nat) (x : Nat) (r : Bool) (l : List Nat) : Option (V × H) → Option (Nat)
  | some (.fl .f32 x0, [.at r0 (.fl .f32 y0)]) => match decide (r0 = r ∧ y0 = l) with | true => some x0 | false => none
  | _ => none
theorem oi_ha {n : Nat} {x : Nat} {r : Bool} {l : List Nat} {o : Option (V × H)} {z : Nat} (h : o_ha n x r l o = some z) : o = some (.fl .f32 z, [.at r (.fl .f32 l)]) := by
  unfold o_ha at h
  split at h
  · split at h
    · rename_i hd
      obtain ⟨rfl, rfl⟩ := of_decide_eq_true hd
      cases h
      rfl
    · cases h
  · cases h
noncomputable def d_ha (n : Nat) (x : Nat) (r : Bool) (l : List Nat) : Option (Nat) := o_ha n x r l (md_ha 50 n x r l)
noncomputable def v_ha (n : Nat) (x : Nat) (r : Bool) (l : List Nat) : Nat := (d_ha n x r l).getD 0
noncomputable def g_ha : GT := fun vs h => match vs, h with
  | [.g [.nil, .sl 0 0 n], .fl .f32 x], [.at r (.fl .f32 l)] => .ite (d_ha n x r l).isSome (.ret (.fl .f32 (v_ha n x r l)) [.at r (.fl .f32 l)]) .no
  | _, _ => .no
theorem ok_ha : FnT Try.prog 25 g_ha := by
  refine fnT tabok_ha Try.func25 rfl rfl an_ha fun vs h v h' e => ⟨50, ?_⟩
  unfold g_ha at e
  split at e
  · rename_i n x r l
    obtain ⟨hs, e⟩ := T.pre_inv e
    obtain ⟨rfl, rfl⟩ := T.ret_inv e
    skip
    refine Eq.trans (mdl_ha 50 n x r l) ?_
    obtain ⟨z, hz⟩ := Option.isSome_iff_exists.mp hs
    have hv : v_ha n x r l = z := by unfold v_ha; rw [hz]; rfl
    rw [hv]
    exact oi_ha hz
  · exact (T.no_inv e).elim
def an_mn : Ann := ⟨fun r => if r = 5 then some ([0, 3, 4], [3]) else none, fun _ _ => .quiet⟩
noncomputable def tab_mn : Fns := tabT []
theorem tabok_mn : ∀ f, FnT Try.prog f (tab_mn f) := tabT_nil
def st_mn5 (x0n : Nat) (m3 : Nat) (i4 : Int) (rw0 : Bool) (l0 : List Nat) : St := ⟨(.sl 0 0 x0n :: .any :: .any :: .fl .f32 m3 :: .int .i64 i4 :: (anys 20 [])), [.at rw0 (.fl .f32 l0)]⟩
abbrev kp_mn5 : Option (List Nat × List Nat) := some ([0, 3, 4], [3])
noncomputable def lp_mn5 {R : Type} (N M : Nat) (s : St) (K : X → St → Option R) : Option R := loopH 1 kp_mn5 (fun st K => exec ty tab_mn an_mn N 1 (atOf [true, true, true, false, true, false, false] Try.f27) st K) M s K
noncomputable def bk_mn5 {R : Type} (N M : Nat) (K : X → St → Option R) : X → St → Option R := fun x st => match x with | .norm => tidyK 1 (kp_mn5.map (·.1)) st fun st => lp_mn5 N M st K | x => tidyK 1 (kp_mn5.map (·.2)) st fun st => K x st
noncomputable def kt_mn5 {R : Type} (N : Nat) (K : X → St → Option R) : X → St → Option R := kBlkR 0 (kSeqR tab_mn an_mn N 1 (atOf [true, true, true, true] Try.f27) (K))
def en_mn5_0 (m3 : Nat) (rw0 : Bool) (l0 : List Nat) : St := ⟨(.any :: .any :: .any :: .fl .f32 m3 :: (anys 21 [])), [.at rw0 (.fl .f32 l0)]⟩
theorem run_mn (N : Nat) (n : Nat) (r : Bool) (l : List Nat) : run ty tab_mn an_mn N Try.f27 [.sl 0 0 n] [.at r (.fl .f32 l)]
    = (match decide ((((n : Nat) : Int) : Int) < 1) with | true => none | false => (match decide (0 ≤ (0 : Int) ∧ (0 : Int) < ((n : Nat) : Int)) with | true => (match l[0]? with | some e1 => lp_mn5 N N (st_mn5 n e1 1 r l) (kt_mn5 N (kEnd Try.f27 1)) | none => none) | false => none)) := by
  kernel_rfl
theorem step_mn5 {R : Type} (N M : Nat) (K : X → St → Option R) (x0n : Nat) (m3 : Nat) (i4 : Int) (rw0 : Bool) (l0 : List Nat) : lp_mn5 N (M + 1) (st_mn5 x0n m3 i4 rw0 l0) K
    = (match decide ((i4 : Int) < ((x0n : Nat) : Int)) with | true => (match decide (0 ≤ (i4 : Int) ∧ (i4 : Int) < ((x0n : Nat) : Int)) with | true => (match l0[0 + (i4).toNat * 1]? with | some e1 => lp_mn5 N M (st_mn5 x0n (fmin .f32 m3 e1) (IntKind.i64.wrap (i4 + 1)) rw0 l0) K | none => none) | false => none) | false => K (.exit 0) (en_mn5_0 m3 rw0 l0)) := by
  kernel_rfl
theorem end_mn5_0 (N : Nat) (m3 : Nat) (rw0 : Bool) (l0 : List Nat) : kt_mn5 N (kEnd Try.f27 1) (.exit 0) (en_mn5_0 m3 rw0 l0)
    = some (.fl .f32 m3, [.at rw0 (.fl .f32 l0)]) := by
  kernel_rfl

noncomputable def ce_mn5_0 (N : Nat) (m3 : Nat) (rw0 : Bool) (l0 : List Nat) : Option (V × H) := some (.fl .f32 m3, [.at rw0 (.fl .f32 l0)])
noncomputable def mb_mn5 (N : Nat) (k0 : Nat → Bool → List Nat → Option (V × H)) (rq : Nat → Nat → Int → Bool → List Nat → Option (V × H)) : Nat → Nat → Int → Bool → List Nat → Option (V × H) := fun (x0n : Nat) (m3 : Nat) (i4 : Int) (rw0 : Bool) (l0 : List Nat) => (match decide ((i4 : Int) < ((x0n : Nat) : Int)) with | true => (match decide (0 ≤ (i4 : Int) ∧ (i4 : Int) < ((x0n : Nat) : Int)) with | true => (match l0[0 + (i4).toNat * 1]? with | some e1 => (rq x0n (fmin .f32 m3 e1) (IntKind.i64.wrap (i4 + 1)) rw0 l0) | none => none) | false => none) | false => (k0 m3 rw0 l0))
noncomputable def mr_mn5 (N : Nat) (k0 : Nat → Bool → List Nat → Option (V × H)) (M : Nat) : Nat → Nat → Int → Bool → List Nat → Option (V × H) := Nat.rec (motive := fun _ => Nat → Nat → Int → Bool → List Nat → Option (V × H)) (fun (_ : Nat) (_ : Nat) (_ : Int) (_ : Bool) (_ : List Nat) => none) (fun _ rq => mb_mn5 N k0 rq) M
theorem mrs_mn5 (N : Nat) (k0 : Nat → Bool → List Nat → Option (V × H)) (M : Nat) (x0n : Nat) (m3 : Nat) (i4 : Int) (rw0 : Bool) (l0 : List Nat) : mr_mn5 N k0 (M + 1) x0n m3 i4 rw0 l0 = mb_mn5 N k0 (mr_mn5 N k0 M) x0n m3 i4 rw0 l0 := rfl
theorem H_mn5 (N : Nat) : ∀ (M : Nat) (x0n : Nat) (m3 : Nat) (i4 : Int) (rw0 : Bool) (l0 : List Nat), lp_mn5 N M (st_mn5 x0n m3 i4 rw0 l0) (kt_mn5 N (kEnd Try.f27 1)) = mr_mn5 N (ce_mn5_0 N) M x0n m3 i4 rw0 l0 := by
  have he0 : ∀ (m3 : Nat) (rw0 : Bool) (l0 : List Nat), kt_mn5 N (kEnd Try.f27 1) (.exit 0) (en_mn5_0 m3 rw0 l0) = ce_mn5_0 N m3 rw0 l0 := by
    intro m3 rw0 l0
    rw [end_mn5_0]
    unfold ce_mn5_0
    all_goals rfl
  intro M
  induction M with
  | zero => intros; rfl
  | succ M ih =>
    intro x0n m3 i4 rw0 l0
    rw [step_mn5]
    rw [mrs_mn5]
    unfold mb_mn5
    cases hq1 : (decide ((i4 : Int) < ((x0n : Nat) : Int)))
    case true =>
      cases hq2 : (decide (0 ≤ (i4 : Int) ∧ (i4 : Int) < ((x0n : Nat) : Int)))
      case true =>
        cases hq3 : (l0[0 + (i4).toNat * 1]?)
        case none =>
          rfl
        case some e1 =>
          try dsimp only
          try dsimp only
          exact ih _ _ _ _ _
      case false =>
        all_goals rfl
    case false =>
      try dsimp only
      exact he0 _ _ _
noncomputable def md_mn (N : Nat) (n : Nat) (r : Bool) (l : List Nat) : Option (V × H) := (match decide ((((n : Nat) : Int) : Int) < 1) with | true => none | false => (match decide (0 ≤ (0 : Int) ∧ (0 : Int) < ((n : Nat) : Int)) with | true => (match l[0]? with | some e1 => (mr_mn5 N (ce_mn5_0 N) N n e1 1 r l) | none => none) | false => none))
theorem mdl_mn (N : Nat) (n : Nat) (r : Bool) (l : List Nat) : run ty tab_mn an_mn N Try.f27 [.sl 0 0 n] [.at r (.fl .f32 l)] = md_mn N n r l := by
  rw [run_mn]
  unfold md_mn
  first | (simp only [H_mn5 N N]; done) | (simp only [H_mn5 N N]; kernel_rfl) | rfl

def o_mn (n : Nat) (r : Bool) (l : List Nat) : Option (V × H) → Option (Nat)
  | some (.fl .f32 x0, [.at r0 (.fl .f32 y0)]) => match decide (r0 = r ∧ y0 = l) with | true => some x0 | false => none
  | _ => none
theorem oi_mn {n : Nat} {r : Bool} {l : List Nat} {o : Option (V × H)} {z : Nat} (h : o_mn n r l o = some z) : o = some (.fl .f32 z, [.at r (.fl .f32 l)]) := by
  unfold o_mn at h
  split at h
  · split at h
    · rename_i hd
      obtain ⟨rfl, rfl⟩ := of_decide_eq_true hd
      cases h
      rfl
    · cases h
  · cases h
noncomputable def d_mn (n : Nat) (r : Bool) (l : List Nat) : Option (Nat) := o_mn n r l (md_mn 50 n r l)
noncomputable def v_mn (n : Nat) (r : Bool) (l : List Nat) : Nat := (d_mn n r l).getD 0
noncomputable def g_mn : GT := fun vs h => match vs, h with
  | [.sl 0 0 n], [.at r (.fl .f32 l)] => .ite (d_mn n r l).isSome (.ret (.fl .f32 (v_mn n r l)) [.at r (.fl .f32 l)]) .no
  | _, _ => .no
theorem ok_mn : FnT Try.prog 27 g_mn := by
  refine fnT tabok_mn Try.func27 rfl rfl an_mn fun vs h v h' e => ⟨50, ?_⟩
  unfold g_mn at e
  split at e
  · rename_i n r l
    obtain ⟨hs, e⟩ := T.pre_inv e
    obtain ⟨rfl, rfl⟩ := T.ret_inv e
    skip
    refine Eq.trans (mdl_mn 50 n r l) ?_
    obtain ⟨z, hz⟩ := Option.isSome_iff_exists.mp hs
    have hv : v_mn n r l = z := by unfold v_mn; rw [hz]; rfl
    rw [hv]
    exact oi_mn hz
  · exact (T.no_inv e).elim
def an_mx : Ann := ⟨fun r => if r = 5 then some ([0, 3, 4], [3]) else none, fun _ _ => .quiet⟩
noncomputable def tab_mx : Fns := tabT []
theorem tabok_mx : ∀ f, FnT Try.prog f (tab_mx f) := tabT_nil
def st_mx5 (x0n : Nat) (m3 : Nat) (i4 : Int) (rw0 : Bool) (l0 : List Nat) : St := ⟨(.sl 0 0 x0n :: .any :: .any :: .fl .f32 m3 :: .int .i64 i4 :: (anys 20 [])), [.at rw0 (.fl .f32 l0)]⟩
abbrev kp_mx5 : Option (List Nat × List Nat) := some ([0, 3, 4], [3])
noncomputable def lp_mx5 {R : Type} (N M : Nat) (s : St) (K : X → St → Option R) : Option R := loopH 1 kp_mx5 (fun st K => exec ty tab_mx an_mx N 1 (atOf [true, true, true, false, true, false, false] Try.f28) st K) M s K
noncomputable def bk_mx5 {R : Type} (N M : Nat) (K : X → St → Option R) : X → St → Option R := fun x st => match x with | .norm => tidyK 1 (kp_mx5.map (·.1)) st fun st => lp_mx5 N M st K | x => tidyK 1 (kp_mx5.map (·.2)) st fun st => K x st
noncomputable def kt_mx5 {R : Type} (N : Nat) (K : X → St → Option R) : X → St → Option R := kBlkR 0 (kSeqR tab_mx an_mx N 1 (atOf [true, true, true, true] Try.f28) (K))
def en_mx5_0 (m3 : Nat) (rw0 : Bool) (l0 : List Nat) : St := ⟨(.any :: .any :: .any :: .fl .f32 m3 :: (anys 21 [])), [.at rw0 (.fl .f32 l0)]⟩
theorem run_mx (N : Nat) (n : Nat) (r : Bool) (l : List Nat) : run ty tab_mx an_mx N Try.f28 [.sl 0 0 n] [.at r (.fl .f32 l)]
    = (match decide ((((n : Nat) : Int) : Int) < 1) with | true => none | false => (match decide (0 ≤ (0 : Int) ∧ (0 : Int) < ((n : Nat) : Int)) with | true => (match l[0]? with | some e1 => lp_mx5 N N (st_mx5 n e1 1 r l) (kt_mx5 N (kEnd Try.f28 1)) | none => none) | false => none)) := by
  kernel_rfl
theorem step_mx5 {R : Type} (N M : Nat) (K : X → St → Option R) (x0n : Nat) (m3 : Nat) (i4 : Int) (rw0 : Bool) (l0 : List Nat) : lp_mx5 N (M + 1) (st_mx5 x0n m3 i4 rw0 l0) K
    = (match decide ((i4 : Int) < ((x0n : Nat) : Int)) with | true => (match decide (0 ≤ (i4 : Int) ∧ (i4 : Int) < ((x0n : Nat) : Int)) with | true => (match l0[0 + (i4).toNat * 1]? with | some e1 => lp_mx5 N M (st_mx5 x0n (fmax .f32 m3 e1) (IntKind.i64.wrap (i4 + 1)) rw0 l0) K | none => none) | false => none) | false => K (.exit 0) (en_mx5_0 m3 rw0 l0)) := by
  kernel_rfl
theorem end_mx5_0 (N : Nat) (m3 : Nat) (rw0 : Bool) (l0 : List Nat) : kt_mx5 N (kEnd Try.f28 1) (.exit 0) (en_mx5_0 m3 rw0 l0)
    = some (.fl .f32 m3, [.at rw0 (.fl .f32 l0)]) := by
  kernel_rfl

noncomputable def ce_mx5_0 (N : Nat) (m3 : Nat) (rw0 : Bool) (l0 : List Nat) : Option (V × H) := some (.fl .f32 m3, [.at rw0 (.fl .f32 l0)])
noncomputable def mb_mx5 (N : Nat) (k0 : Nat → Bool → List Nat → Option (V × H)) (rq : Nat → Nat → Int → Bool → List Nat → Option (V × H)) : Nat → Nat → Int → Bool → List Nat → Option (V × H) := fun (x0n : Nat) (m3 : Nat) (i4 : Int) (rw0 : Bool) (l0 : List Nat) => (match decide ((i4 : Int) < ((x0n : Nat) : Int)) with | true => (match decide (0 ≤ (i4 : Int) ∧ (i4 : Int) < ((x0n : Nat) : Int)) with | true => (match l0[0 + (i4).toNat * 1]? with | some e1 => (rq x0n (fmax .f32 m3 e1) (IntKind.i64.wrap (i4 + 1)) rw0 l0) | none => none) | false => none) | false => (k0 m3 rw0 l0))
noncomputable def mr_mx5 (N : Nat) (k0 : Nat → Bool → List Nat → Option (V × H)) (M : Nat) : Nat → Nat → Int → Bool → List Nat → Option (V × H) := Nat.rec (motive := fun _ => Nat → Nat → Int → Bool → List Nat → Option (V × H)) (fun (_ : Nat) (_ : Nat) (_ : Int) (_ : Bool) (_ : List Nat) => none) (fun _ rq => mb_mx5 N k0 rq) M
theorem mrs_mx5 (N : Nat) (k0 : Nat → Bool → List Nat → Option (V × H)) (M : Nat) (x0n : Nat) (m3 : Nat) (i4 : Int) (rw0 : Bool) (l0 : List Nat) : mr_mx5 N k0 (M + 1) x0n m3 i4 rw0 l0 = mb_mx5 N k0 (mr_mx5 N k0 M) x0n m3 i4 rw0 l0 := rfl
theorem H_mx5 (N : Nat) : ∀ (M : Nat) (x0n : Nat) (m3 : Nat) (i4 : Int) (rw0 : Bool) (l0 : List Nat), lp_mx5 N M (st_mx5 x0n m3 i4 rw0 l0) (kt_mx5 N (kEnd Try.f28 1)) = mr_mx5 N (ce_mx5_0 N) M x0n m3 i4 rw0 l0 := by
  have he0 : ∀ (m3 : Nat) (rw0 : Bool) (l0 : List Nat), kt_mx5 N (kEnd Try.f28 1) (.exit 0) (en_mx5_0 m3 rw0 l0) = ce_mx5_0 N m3 rw0 l0 := by
    intro m3 rw0 l0
    rw [end_mx5_0]
    unfold ce_mx5_0
    all_goals rfl
  intro M
  induction M with
  | zero => intros; rfl
  | succ M ih =>
    intro x0n m3 i4 rw0 l0
    rw [step_mx5]
    rw [mrs_mx5]
    unfold mb_mx5
    cases hq1 : (decide ((i4 : Int) < ((x0n : Nat) : Int)))
    case true =>
      cases hq2 : (decide (0 ≤ (i4 : Int) ∧ (i4 : Int) < ((x0n : Nat) : Int)))
      case true =>
        cases hq3 : (l0[0 + (i4).toNat * 1]?)
        case none =>
          rfl
        case some e1 =>
          try dsimp only
          try dsimp only
          exact ih _ _ _ _ _
      case false =>
        all_goals rfl
    case false =>
      try dsimp only
      exact he0 _ _ _
noncomputable def md_mx (N : Nat) (n : Nat) (r : Bool) (l : List Nat) : Option (V × H) := (match decide ((((n : Nat) : Int) : Int) < 1) with | true => none | false => (match decide (0 ≤ (0 : Int) ∧ (0 : Int) < ((n : Nat) : Int)) with | true => (match l[0]? with | some e1 => (mr_mx5 N (ce_mx5_0 N) N n e1 1 r l) | none => none) | false => none))
theorem mdl_mx (N : Nat) (n : Nat) (r : Bool) (l : List Nat) : run ty tab_mx an_mx N Try.f28 [.sl 0 0 n] [.at r (.fl .f32 l)] = md_mx N n r l := by
  rw [run_mx]
  unfold md_mx
  first | (simp only [H_mx5 N N]; done) | (simp only [H_mx5 N N]; kernel_rfl) | rfl

def o_mx (n : Nat) (r : Bool) (l : List Nat) : Option (V × H) → Option (Nat)
  | some (.fl .f32 x0, [.at r0 (.fl .f32 y0)]) => match decide (r0 = r ∧ y0 = l) with | true => some x0 | false => none
  | _ => none
theorem oi_mx {n : Nat} {r : Bool} {l : List Nat} {o : Option (V × H)} {z : Nat} (h : o_mx n r l o = some z) : o = some (.fl .f32 z, [.at r (.fl .f32 l)]) := by
  unfold o_mx at h
  split at h
  · split at h
    · rename_i hd
      obtain ⟨rfl, rfl⟩ := of_decide_eq_true hd
      cases h
      rfl
    · cases h
  · cases h
noncomputable def d_mx (n : Nat) (r : Bool) (l : List Nat) : Option (Nat) := o_mx n r l (md_mx 50 n r l)
noncomputable def v_mx (n : Nat) (r : Bool) (l : List Nat) : Nat := (d_mx n r l).getD 0
noncomputable def g_mx : GT := fun vs h => match vs, h with
  | [.sl 0 0 n], [.at r (.fl .f32 l)] => .ite (d_mx n r l).isSome (.ret (.fl .f32 (v_mx n r l)) [.at r (.fl .f32 l)]) .no
  | _, _ => .no
theorem ok_mx : FnT Try.prog 28 g_mx := by
  refine fnT tabok_mx Try.func28 rfl rfl an_mx fun vs h v h' e => ⟨50, ?_⟩
  unfold g_mx at e
  split at e
  · rename_i n r l
    obtain ⟨hs, e⟩ := T.pre_inv e
    obtain ⟨rfl, rfl⟩ := T.ret_inv e
    skip
    refine Eq.trans (mdl_mx 50 n r l) ?_
    obtain ⟨z, hz⟩ := Option.isSome_iff_exists.mp hs
    have hv : v_mx n r l = z := by unfold v_mx; rw [hz]; rfl
    rw [hv]
    exact oi_mx hz
  · exact (T.no_inv e).elim
noncomputable def tab_ar : Fns := tabT [(22, gAllT finB), (24, gT (gF1 finB))]
theorem tabok_ar : ∀ f, FnT Try.prog f (tab_ar f) := (tabT_cons (k := 22) ok_areFinite (tabT_cons (k := 24) ok_IsFinite tabT_nil))
theorem run_ar (N : Nat) (n : Nat) (b : Nat) (r : Bool) (l : List Nat) : run ty tab_ar ann0 N Try.f26 [.sl 0 0 n, .fl .f32 b] [.at r (.fl .f32 l)]
    = (match decide ((((n : Nat) : Int) : Int) ≥ 1) with | true => (match decide ((((n : Nat) : Int) : Int) ≤ 48) with | true => (match decide (l.length = n ∧ n < 2147483648) with | true => (match l.all finB with | true => some (.bool (finB b), [.at r (.fl .f32 l)]) | false => some (.bool false, [.at r (.fl .f32 l)])) | false => none) | false => some (.bool false, [.at r (.fl .f32 l)])) | false => some (.bool false, [.at r (.fl .f32 l)])) := by
  kernel_rfl

noncomputable def md_ar (N : Nat) (n : Nat) (b : Nat) (r : Bool) (l : List Nat) : Option (V × H) := (match decide ((((n : Nat) : Int) : Int) ≥ 1) with | true => (match decide ((((n : Nat) : Int) : Int) ≤ 48) with | true => (match decide (l.length = n ∧ n < 2147483648) with | true => (match l.all finB with | true => some (.bool (finB b), [.at r (.fl .f32 l)]) | false => some (.bool false, [.at r (.fl .f32 l)])) | false => none) | false => some (.bool false, [.at r (.fl .f32 l)])) | false => some (.bool false, [.at r (.fl .f32 l)]))
theorem mdl_ar (N : Nat) (n : Nat) (b : Nat) (r : Bool) (l : List Nat) : run ty tab_ar ann0 N Try.f26 [.sl 0 0 n, .fl .f32 b] [.at r (.fl .f32 l)] = md_ar N n b r l := by
  rw [run_ar]
  unfold md_ar
  first | (simp only [eq_self]; done) | (simp only [eq_self]; kernel_rfl) | rfl

def o_ar (n : Nat) (b : Nat) (r : Bool) (l : List Nat) : Option (V × H) → Option (Bool)
  | some (.bool x0, [.at r0 (.fl .f32 y0)]) => match decide (r0 = r ∧ y0 = l) with | true => some x0 | false => none
  | _ => none
theorem oi_ar {n : Nat} {b : Nat} {r : Bool} {l : List Nat} {o : Option (V × H)} {z : Bool} (h : o_ar n b r l o = some z) : o = some (.bool z, [.at r (.fl .f32 l)]) := by
  unfold o_ar at h
  split at h
  · split at h
    · rename_i hd
      obtain ⟨rfl, rfl⟩ := of_decide_eq_true hd
      cases h
      rfl
    · cases h
  · cases h
noncomputable def d_ar (n : Nat) (b : Nat) (r : Bool) (l : List Nat) : Option (Bool) := o_ar n b r l (md_ar 50 n b r l)
noncomputable def v_ar (n : Nat) (b : Nat) (r : Bool) (l : List Nat) : Bool := (d_ar n b r l).getD false
noncomputable def g_ar : GT := fun vs h => match vs, h with
  | [.sl 0 0 n, .fl .f32 b], [.at r (.fl .f32 l)] => .ite (d_ar n b r l).isSome (.ret (.bool (v_ar n b r l)) [.at r (.fl .f32 l)]) .no
  | _, _ => .no
theorem ok_ar : FnT Try.prog 26 g_ar := by
  refine fnT tabok_ar Try.func26 rfl rfl ann0 fun vs h v h' e => ⟨50, ?_⟩
  unfold g_ar at e
  split at e
  · rename_i n b r l
    obtain ⟨hs, e⟩ := T.pre_inv e
    obtain ⟨rfl, rfl⟩ := T.ret_inv e
    skip
    refine Eq.trans (mdl_ar 50 n b r l) ?_
    obtain ⟨z, hz⟩ := Option.isSome_iff_exists.mp hs
    have hv : v_ar n b r l = z := by unfold v_ar; rw [hz]; rfl
    rw [hv]
    exact oi_ar hz
  · exact (T.no_inv e).elim
def an_cb : Ann := ⟨fun r => if r = 3 then some ([1, 2, 7, 8, 11, 12, 13], [7]) else none, fun _ _ => .quiet⟩
noncomputable def tab_cb : Fns := tabT [(32, gT gNz)]
theorem tabok_cb : ∀ f, FnT Try.prog f (tab_cb f) := (tabT_cons (k := 32) ok_nz tabT_nil)
def st_cb3 (beside1 : Nat) (energy2 : Nat) (many7 : Int) (q8 : Nat) (t11n : Nat) (t12 : Int) (t13 : Int) (rw0 : Bool) (l0 : List Nat) : St := ⟨(.any :: .fl .f32 beside1 :: .fl .f32 energy2 :: .any :: .any :: .any :: .any :: .int .i64 many7 :: .fl .f32 q8 :: .any :: .any :: .sl 0 0 t11n :: .int .i64 t12 :: .int .i64 t13 :: (anys 26 [])), [.at rw0 (.fl .f32 l0)]⟩
abbrev kp_cb3 : Option (List Nat × List Nat) := some ([1, 2, 7, 8, 11, 12, 13], [7])
noncomputable def lp_cb3 {R : Type} (N M : Nat) (s : St) (K : X → St → Option R) : Option R := loopH 1 kp_cb3 (fun st K => exec ty tab_cb an_cb N 1 (atOf [true, true, false, true, false, false] Try.f40) st K) M s K
noncomputable def bk_cb3 {R : Type} (N M : Nat) (K : X → St → Option R) : X → St → Option R := fun x st => match x with | .norm => tidyK 1 (kp_cb3.map (·.1)) st fun st => lp_cb3 N M st K | x => tidyK 1 (kp_cb3.map (·.2)) st fun st => K x st
noncomputable def kt_cb3 {R : Type} (N : Nat) (K : X → St → Option R) : X → St → Option R := kBlkR 0 (kSeqR tab_cb an_cb N 1 (atOf [true, true, true] Try.f40) (K))
def en_cb3_0 (many7 : Int) (rw0 : Bool) (l0 : List Nat) : St := ⟨(anys 7 (.int .i64 many7 :: (anys 32 []))), [.at rw0 (.fl .f32 l0)]⟩
theorem run_cb (N : Nat) (n : Nat) (b : Nat) (x : Nat) (r : Bool) (l : List Nat) : run ty tab_cb an_cb N Try.f40 [.sl 0 0 n, .fl .f32 b, .fl .f32 x] [.at r (.fl .f32 l)]
    = lp_cb3 N N (st_cb3 b x 0 0 n ((n : Nat) : Int) 0 r l) (kt_cb3 N (kEnd Try.f40 1)) := by
  kernel_rfl
theorem step_cb3 {R : Type} (N M : Nat) (K : X → St → Option R) (beside1 : Nat) (energy2 : Nat) (many7 : Int) (q8 : Nat) (t11n : Nat) (t12 : Int) (t13 : Int) (rw0 : Bool) (l0 : List Nat) : lp_cb3 N (M + 1) (st_cb3 beside1 energy2 many7 q8 t11n t12 t13 rw0 l0) K
    = (match decide ((t13 : Int) < t12) with | true => (match decide (0 ≤ (t13 : Int) ∧ (t13 : Int) < ((t11n : Nat) : Int)) with | true => (match l0[0 + (t13).toNat * 1]? with | some e1 => (match t13 == 0 with | true => (match ltB (nzF (fop .sub .f32 e1 energy2)) 0 with | true => lp_cb3 N M (st_cb3 beside1 energy2 (IntKind.i64.wrap (many7 + 1)) (nzF (fop .sub .f32 e1 energy2)) t11n t12 (IntKind.i64.wrap (t13 + 1)) rw0 l0) K | false => lp_cb3 N M (st_cb3 beside1 energy2 many7 (nzF (fop .sub .f32 e1 energy2)) t11n t12 (IntKind.i64.wrap (t13 + 1)) rw0 l0) K) | false => (match ltB (nzF (fop .sub .f32 (fop .sub .f32 e1 energy2) (fop .quo .f32 (fop .mul .f32 beside1 beside1) q8))) 0 with | true => lp_cb3 N M (st_cb3 beside1 energy2 (IntKind.i64.wrap (many7 + 1)) (nzF (fop .sub .f32 (fop .sub .f32 e1 energy2) (fop .quo .f32 (fop .mul .f32 beside1 beside1) q8))) t11n t12 (IntKind.i64.wrap (t13 + 1)) rw0 l0) K | false => lp_cb3 N M (st_cb3 beside1 energy2 many7 (nzF (fop .sub .f32 (fop .sub .f32 e1 energy2) (fop .quo .f32 (fop .mul .f32 beside1 beside1) q8))) t11n t12 (IntKind.i64.wrap (t13 + 1)) rw0 l0) K)) | none => none) | false => none) | false => K (.exit 0) (en_cb3_0 many7 rw0 l0)) := by
  kernel_rfl
theorem end_cb3_0 (N : Nat) (many7 : Int) (rw0 : Bool) (l0 : List Nat) : kt_cb3 N (kEnd Try.f40 1) (.exit 0) (en_cb3_0 many7 rw0 l0)
    = some (.int .i64 many7, [.at rw0 (.fl .f32 l0)]) := by
  kernel_rfl

noncomputable def ce_cb3_0 (N : Nat) (many7 : Int) (rw0 : Bool) (l0 : List Nat) : Option (V × H) := some (.int .i64 many7, [.at rw0 (.fl .f32 l0)])
noncomputable def mb_cb3 (N : Nat) (k0 : Int → Bool → List Nat → Option (V × H)) (rq : Nat → Nat → Int → Nat → Nat → Int → Int → Bool → List Nat → Option (V × H)) : Nat → Nat → Int → Nat → Nat → Int → Int → Bool → List Nat → Option (V × H) := fun (beside1 : Nat) (energy2 : Nat) (many7 : Int) (q8 : Nat) (t11n : Nat) (t12 : Int) (t13 : Int) (rw0 : Bool) (l0 : List Nat) => (match decide ((t13 : Int) < t12) with | true => (match decide (0 ≤ (t13 : Int) ∧ (t13 : Int) < ((t11n : Nat) : Int)) with | true => (match l0[0 + (t13).toNat * 1]? with | some e1 => (match t13 == 0 with | true => (match ltB (nzF (fop .sub .f32 e1 energy2)) 0 with | true => (rq beside1 energy2 (IntKind.i64.wrap (many7 + 1)) (nzF (fop .sub .f32 e1 energy2)) t11n t12 (IntKind.i64.wrap (t13 + 1)) rw0 l0) | false => (rq beside1 energy2 many7 (nzF (fop .sub .f32 e1 energy2)) t11n t12 (IntKind.i64.wrap (t13 + 1)) rw0 l0)) | false => (match ltB (nzF (fop .sub .f32 (fop .sub .f32 e1 energy2) (fop .quo .f32 (fop .mul .f32 beside1 beside1) q8))) 0 with | true => (rq beside1 energy2 (IntKind.i64.wrap (many7 + 1)) (nzF (fop .sub .f32 (fop .sub .f32 e1 energy2) (fop .quo .f32 (fop .mul .f32 beside1 beside1) q8))) t11n t12 (IntKind.i64.wrap (t13 + 1)) rw0 l0) | false => (rq beside1 energy2 many7 (nzF (fop .sub .f32 (fop .sub .f32 e1 energy2) (fop .quo .f32 (fop .mul .f32 beside1 beside1) q8))) t11n t12 (IntKind.i64.wrap (t13 + 1)) rw0 l0))) | none => none) | false => none) | false => (k0 many7 rw0 l0))
noncomputable def mr_cb3 (N : Nat) (k0 : Int → Bool → List Nat → Option (V × H)) (M : Nat) : Nat → Nat → Int → Nat → Nat → Int → Int → Bool → List Nat → Option (V × H) := Nat.rec (motive := fun _ => Nat → Nat → Int → Nat → Nat → Int → Int → Bool → List Nat → Option (V × H)) (fun (_ : Nat) (_ : Nat) (_ : Int) (_ : Nat) (_ : Nat) (_ : Int) (_ : Int) (_ : Bool) (_ : List Nat) => none) (fun _ rq => mb_cb3 N k0 rq) M
theorem mrs_cb3 (N : Nat) (k0 : Int → Bool → List Nat → Option (V × H)) (M : Nat) (beside1 : Nat) (energy2 : Nat) (many7 : Int) (q8 : Nat) (t11n : Nat) (t12 : Int) (t13 : Int) (rw0 : Bool) (l0 : List Nat) : mr_cb3 N k0 (M + 1) beside1 energy2 many7 q8 t11n t12 t13 rw0 l0 = mb_cb3 N k0 (mr_cb3 N k0 M) beside1 energy2 many7 q8 t11n t12 t13 rw0 l0 := rfl
theorem H_cb3 (N : Nat) : ∀ (M : Nat) (beside1 : Nat) (energy2 : Nat) (many7 : Int) (q8 : Nat) (t11n : Nat) (t12 : Int) (t13 : Int) (rw0 : Bool) (l0 : List Nat), lp_cb3 N M (st_cb3 beside1 energy2 many7 q8 t11n t12 t13 rw0 l0) (kt_cb3 N (kEnd Try.f40 1)) = mr_cb3 N (ce_cb3_0 N) M beside1 energy2 many7 q8 t11n t12 t13 rw0 l0 := by
  have he0 : ∀ (many7 : Int) (rw0 : Bool) (l0 : List Nat), kt_cb3 N (kEnd Try.f40 1) (.exit 0) (en_cb3_0 many7 rw0 l0) = ce_cb3_0 N many7 rw0 l0 := by
    intro many7 rw0 l0
    rw [end_cb3_0]
    unfold ce_cb3_0
    all_goals rfl
  intro M
  induction M with
  | zero => intros; rfl
  | succ M ih =>
    intro beside1 energy2 many7 q8 t11n t12 t13 rw0 l0
    rw [step_cb3]
    rw [mrs_cb3]
    unfold mb_cb3
    cases hq1 : (decide ((t13 : Int) < t12))
    case true =>
      cases hq2 : (decide (0 ≤ (t13 : Int) ∧ (t13 : Int) < ((t11n : Nat) : Int)))
      case true =>
        cases hq3 : (l0[0 + (t13).toNat * 1]?)
        case none =>
          rfl
        case some e1 =>
          try dsimp only
          cases hq4 : (t13 == 0)
          case true =>
            cases hq5 : (ltB (nzF (fop .sub .f32 e1 energy2)) 0)
            case true =>
              try dsimp only
              exact ih _ _ _ _ _ _ _ _ _
            case false =>
              try dsimp only
              exact ih _ _ _ _ _ _ _ _ _
          case false =>
            cases hq6 : (ltB (nzF (fop .sub .f32 (fop .sub .f32 e1 energy2) (fop .quo .f32 (fop .mul .f32 beside1 beside1) q8))) 0)
            case true =>
              try dsimp only
              exact ih _ _ _ _ _ _ _ _ _
            case false =>
              try dsimp only
              exact ih _ _ _ _ _ _ _ _ _
      case false =>
        all_goals rfl
    case false =>
      try dsimp only
      exact he0 _ _ _
noncomputable def md_cb (N : Nat) (n : Nat) (b : Nat) (x : Nat) (r : Bool) (l : List Nat) : Option (V × H) := (mr_cb3 N (ce_cb3_0 N) N b x 0 0 n ((n : Nat) : Int) 0 r l)
theorem mdl_cb (N : Nat) (n : Nat) (b : Nat) (x : Nat) (r : Bool) (l : List Nat) : run ty tab_cb an_cb N Try.f40 [.sl 0 0 n, .fl .f32 b, .fl .f32 x] [.at r (.fl .f32 l)] = md_cb N n b x r l := by
  rw [run_cb]
  unfold md_cb
  first | (simp only [H_cb3 N N]; done) | (simp only [H_cb3 N N]; kernel_rfl) | rfl

def o_cb (n : Nat) (b : Nat) (x : Nat) (r : Bool) (l : List Nat) : Option (V × H) → Option (Int)
  | some (.int .i64 x0, [.at r0 (.fl .f32 y0)]) => match decide (r0 = r ∧ y0 = l) with | true => some x0 | false => none
  | _ => none
theorem oi_cb {n : Nat} {b : Nat} {x : Nat} {r : Bool} {l : List Nat} {o : Option (V × H)} {z : Int} (h : o_cb n b x r l o = some z) : o = some (.int .i64 z, [.at r (.fl .f32 l)]) := by
  unfold o_cb at h
  split at h
  · split at h
    · rename_i hd
      obtain ⟨rfl, rfl⟩ := of_decide_eq_true hd
      cases h
      rfl
    · cases h
  · cases h
noncomputable def d_cb (n : Nat) (b : Nat) (x : Nat) (r : Bool) (l : List Nat) : Option (Int) := o_cb n b x r l (md_cb 50 n b x r l)
noncomputable def v_cb (n : Nat) (b : Nat) (x : Nat) (r : Bool) (l : List Nat) : Int := (d_cb n b x r l).getD 0
noncomputable def g_cb : GT := fun vs h => match vs, h with
  | [.sl 0 0 n, .fl .f32 b, .fl .f32 x], [.at r (.fl .f32 l)] => .ite (d_cb n b x r l).isSome (.ret (.int .i64 (v_cb n b x r l)) [.at r (.fl .f32 l)]) .no
  | _, _ => .no
theorem ok_cb : FnT Try.prog 40 g_cb := by
  refine fnT tabok_cb Try.func40 rfl rfl an_cb fun vs h v h' e => ⟨50, ?_⟩
  unfold g_cb at e
  split at e
  · rename_i n b x r l
    obtain ⟨hs, e⟩ := T.pre_inv e
    obtain ⟨rfl, rfl⟩ := T.ret_inv e
    skip
    refine Eq.trans (mdl_cb 50 n b x r l) ?_
    obtain ⟨z, hz⟩ := Option.isSome_iff_exists.mp hs
    have hv : v_cb n b x r l = z := by unfold v_cb; rw [hz]; rfl
    rw [hv]
    exact oi_cb hz
  · exact (T.no_inv e).elim
noncomputable def tab_CB : Fns := tabT [(26, g_ar), (24, gT (gF1 finB)), (40, g_cb)]
theorem tabok_CB : ∀ f, FnT Try.prog f (tab_CB f) := (tabT_cons (k := 26) ok_ar (tabT_cons (k := 24) ok_IsFinite (tabT_cons (k := 40) ok_cb tabT_nil)))
theorem run_CB (N : Nat) (n : Nat) (b : Nat) (x : Nat) (r : Bool) (l : List Nat) : run ty tab_CB ann0 N Try.f29 [.sl 0 0 n, .fl .f32 b, .fl .f32 x] [.at r (.fl .f32 l)]
    = (match (d_ar n b r l).isSome with | true => (match !(v_ar n b r l) with | true => some (.tup [.a (.int .i64 0), .a (.bool false)], [.at r (.fl .f32 l)]) | false => (match !(finB x) with | true => some (.tup [.a (.int .i64 0), .a (.bool false)], [.at r (.fl .f32 l)]) | false => (match (d_cb n b x r l).isSome with | true => some (.tup [.a (.int .i64 (v_cb n b x r l)), .a (.bool true)], [.at r (.fl .f32 l)]) | false => none))) | false => none) := by
  kernel_rfl

noncomputable def md_CB (N : Nat) (n : Nat) (b : Nat) (x : Nat) (r : Bool) (l : List Nat) : Option (V × H) := (match (d_ar n b r l).isSome with | true => (match !(v_ar n b r l) with | true => some (.tup [.a (.int .i64 0), .a (.bool false)], [.at r (.fl .f32 l)]) | false => (match !(finB x) with | true => some (.tup [.a (.int .i64 0), .a (.bool false)], [.at r (.fl .f32 l)]) | false => (match (d_cb n b x r l).isSome with | true => some (.tup [.a (.int .i64 (v_cb n b x r l)), .a (.bool true)], [.at r (.fl .f32 l)]) | false => none))) | false => none)
theorem mdl_CB (N : Nat) (n : Nat) (b : Nat) (x : Nat) (r : Bool) (l : List Nat) : run ty tab_CB ann0 N Try.f29 [.sl 0 0 n, .fl .f32 b, .fl .f32 x] [.at r (.fl .f32 l)] = md_CB N n b x r l := by
  rw [run_CB]
  unfold md_CB
  first | (simp only [eq_self]; done) | (simp only [eq_self]; kernel_rfl) | rfl

def o_CB (n : Nat) (b : Nat) (x : Nat) (r : Bool) (l : List Nat) : Option (V × H) → Option (Int × Bool)
  | some (.tup [.a (.int .i64 x0), .a (.bool x1)], [.at r0 (.fl .f32 y0)]) => match decide (r0 = r ∧ y0 = l) with | true => some (x0, x1) | false => none
  | _ => none
theorem oi_CB {n : Nat} {b : Nat} {x : Nat} {r : Bool} {l : List Nat} {o : Option (V × H)} {z : Int × Bool} (h : o_CB n b x r l o = some z) : o = some (.tup [.a (.int .i64 z.1), .a (.bool z.2)], [.at r (.fl .f32 l)]) := by
  unfold o_CB at h
  split at h
  · split at h
    · rename_i hd
      obtain ⟨rfl, rfl⟩ := of_decide_eq_true hd
      cases h
      rfl
    · cases h
  · cases h
noncomputable def d_CB (n : Nat) (b : Nat) (x : Nat) (r : Bool) (l : List Nat) : Option (Int × Bool) := o_CB n b x r l (md_CB 50 n b x r l)
noncomputable def v_CB (n : Nat) (b : Nat) (x : Nat) (r : Bool) (l : List Nat) : Int × Bool := (d_CB n b x r l).getD (0, false)
noncomputable def g_CB : GT := fun vs h => match vs, h with
  | [.sl 0 0 n, .fl .f32 b, .fl .f32 x], [.at r (.fl .f32 l)] => .ite (d_CB n b x r l).isSome (.ret (.tup [.a (.int .i64 ((v_CB n b x r l).1)), .a (.bool ((v_CB n b x r l).2))]) [.at r (.fl .f32 l)]) .no
  | _, _ => .no
theorem ok_CB : FnT Try.prog 29 g_CB := by
  refine fnT tabok_CB Try.func29 rfl rfl ann0 fun vs h v h' e => ⟨50, ?_⟩
  unfold g_CB at e
  split at e
  · rename_i n b x r l
    obtain ⟨hs, e⟩ := T.pre_inv e
    obtain ⟨rfl, rfl⟩ := T.ret_inv e
    skip
    refine Eq.trans (mdl_CB 50 n b x r l) ?_
    obtain ⟨z, hz⟩ := Option.isSome_iff_exists.mp hs
    have hv : v_CB n b x r l = z := by unfold v_CB; rw [hz]; rfl
    rw [hv]
    exact oi_CB hz
  · exact (T.no_inv e).elim
def an_lo : Ann := ⟨fun r => if r = 8 then some ([0, 1, 2, 11, 12, 48, 49], [8, 9, 12]) else none, fun _ _ => .quiet⟩
noncomputable def tab_lo : Fns := tabT [(26, g_ar), (17, gT gIn), (27, g_mn), (28, g_mx), (29, g_CB), (30, gNumT)]
theorem tabok_lo : ∀ f, FnT Try.prog f (tab_lo f) := (tabT_cons (k := 26) ok_ar (tabT_cons (k := 17) ok_within (tabT_cons (k := 27) ok_mn (tabT_cons (k := 28) ok_mx (tabT_cons (k := 29) ok_CB (tabT_cons (k := 30) ok_checked tabT_nil))))))
def st_lo8 (rows0n : Nat) (beside1 : Nat) (k2 : Int) (low11 : Nat) (high12 : Nat) (t48 : Int) (t49 : Int) (rw0 : Bool) (l0 : List Nat) : St := ⟨(.sl 0 0 rows0n :: .fl .f32 beside1 :: .int .i64 k2 :: (anys 8 (.fl .f32 low11 :: .fl .f32 high12 :: (anys 35 (.int .i64 t48 :: .int .i64 t49 :: (anys 24 [])))))), [.at rw0 (.fl .f32 l0)]⟩
abbrev kp_lo8 : Option (List Nat × List Nat) := some ([0, 1, 2, 11, 12, 48, 49], [8, 9, 12])
noncomputable def lp_lo8 {R : Type} (N M : Nat) (s : St) (K : X → St → Option R) : Option R := loopH 1 kp_lo8 (fun st K => exec ty tab_lo an_lo N 1 (atOf [true, true, true, true, true, false, true, false, false] Try.f13) st K) M s K
noncomputable def bk_lo8 {R : Type} (N M : Nat) (K : X → St → Option R) : X → St → Option R := fun x st => match x with | .norm => tidyK 1 (kp_lo8.map (·.1)) st fun st => lp_lo8 N M st K | x => tidyK 1 (kp_lo8.map (·.2)) st fun st => K x st
noncomputable def kt_lo8 {R : Type} (N : Nat) (K : X → St → Option R) : X → St → Option R := kBlkR 0 (kSeqR tab_lo an_lo N 1 (atOf [true, true, true, true, true, true] Try.f13) (K))
def en_lo8_0 (high12 : Nat) (rw0 : Bool) (l0 : List Nat) : St := ⟨(anys 8 (.fl .f32 0 :: .bool false :: .any :: .any :: .fl .f32 high12 :: (anys 61 []))), [.at rw0 (.fl .f32 l0)]⟩
def en_lo8_1 (high12 : Nat) (rw0 : Bool) (l0 : List Nat) : St := ⟨(anys 12 (.fl .f32 high12 :: (anys 61 []))), [.at rw0 (.fl .f32 l0)]⟩
theorem run_lo (N : Nat) (n : Nat) (b : Nat) (k : Int) (q : Int) (r : Bool) (l : List Nat) : run ty tab_lo an_lo N Try.f13 [.sl 0 0 n, .fl .f32 b, .int .i64 k, .int .i64 q] [.at r (.fl .f32 l)]
    = (match (d_ar n b r l).isSome with | true => (match !(v_ar n b r l) with | true => some (.tup [.a (.fl .f32 0), .a (.bool false)], [.at r (.fl .f32 l)]) | false => (match !(inB k 0 (IntKind.i64.wrap (((n : Nat) : Int) - 1))) with | true => some (.tup [.a (.fl .f32 0), .a (.bool false)], [.at r (.fl .f32 l)]) | false => (match !(inB q 1 40) with | true => some (.tup [.a (.fl .f32 0), .a (.bool false)], [.at r (.fl .f32 l)]) | false => (match ltB b 0 with | true => (match (d_mn n r l).isSome with | true => (match (d_mx n r l).isSome with | true => lp_lo8 N N (st_lo8 n b k (fop .sub .f32 (v_mn n r l) (fop .mul .f32 1073741824 (fneg .f32 b))) (fop .add .f32 (v_mx n r l) (fop .mul .f32 1073741824 (fneg .f32 b))) q 0 r l) (kt_lo8 N (kEnd Try.f13 1)) | false => none) | false => none) | false => (match (d_mn n r l).isSome with | true => (match (d_mx n r l).isSome with | true => lp_lo8 N N (st_lo8 n b k (fop .sub .f32 (v_mn n r l) (fop .mul .f32 1073741824 b)) (fop .add .f32 (v_mx n r l) (fop .mul .f32 1073741824 b)) q 0 r l) (kt_lo8 N (kEnd Try.f13 1)) | false => none) | false => none))))) | false => none) := by
  kernel_rfl
theorem step_lo8 {R : Type} (N M : Nat) (K : X → St → Option R) (rows0n : Nat) (beside1 : Nat) (k2 : Int) (low11 : Nat) (high12 : Nat) (t48 : Int) (t49 : Int) (rw0 : Bool) (l0 : List Nat) : lp_lo8 N (M + 1) (st_lo8 rows0n beside1 k2 low11 high12 t48 t49 rw0 l0) K
    = (match decide ((t49 : Int) < t48) with | true => (match (d_CB rows0n beside1 (fop .mul .f32 1056964608 (fop .add .f32 low11 high12)) rw0 l0).isSome with | true => (match !((v_CB rows0n beside1 (fop .mul .f32 1056964608 (fop .add .f32 low11 high12)) rw0 l0).2) with | true => K .ret (en_lo8_0 high12 rw0 l0) | false => (match decide (((v_CB rows0n beside1 (fop .mul .f32 1056964608 (fop .add .f32 low11 high12)) rw0 l0).1 : Int) > k2) with | true => lp_lo8 N M (st_lo8 rows0n beside1 k2 low11 (fop .mul .f32 1056964608 (fop .add .f32 low11 high12)) t48 (IntKind.i64.wrap (t49 + 1)) rw0 l0) K | false => lp_lo8 N M (st_lo8 rows0n beside1 k2 (fop .mul .f32 1056964608 (fop .add .f32 low11 high12)) high12 t48 (IntKind.i64.wrap (t49 + 1)) rw0 l0) K)) | false => none) | false => K (.exit 0) (en_lo8_1 high12 rw0 l0)) := by
  kernel_rfl
theorem end_lo8_0 (N : Nat) (high12 : Nat) (rw0 : Bool) (l0 : List Nat) : kt_lo8 N (kEnd Try.f13 1) .ret (en_lo8_0 high12 rw0 l0)
    = some (.tup [.a (.fl .f32 0), .a (.bool false)], [.at rw0 (.fl .f32 l0)]) := by
  kernel_rfl
theorem end_lo8_1 (N : Nat) (high12 : Nat) (rw0 : Bool) (l0 : List Nat) : kt_lo8 N (kEnd Try.f13 1) (.exit 0) (en_lo8_1 high12 rw0 l0)
    = (match finB high12 with | true => some (.tup [.a (.fl .f32 high12), .a (.bool true)], [.at rw0 (.fl .f32 l0)]) | false => some (.tup [.a (.fl .f32 0), .a (.bool false)], [.at rw0 (.fl .f32 l0)])) := by
  kernel_rfl

noncomputable def ce_lo8_0 (N : Nat) (high12 : Nat) (rw0 : Bool) (l0 : List Nat) : Option (V × H) := some (.tup [.a (.fl .f32 0), .a (.bool false)], [.at rw0 (.fl .f32 l0)])
noncomputable def ce_lo8_1 (N : Nat) (high12 : Nat) (rw0 : Bool) (l0 : List Nat) : Option (V × H) := (match finB high12 with | true => some (.tup [.a (.fl .f32 high12), .a (.bool true)], [.at rw0 (.fl .f32 l0)]) | false => some (.tup [.a (.fl .f32 0), .a (.bool false)], [.at rw0 (.fl .f32 l0)]))
noncomputable def mb_lo8 (N : Nat) (k0 : Nat → Bool → List Nat → Option (V × H)) (k1 : Nat → Bool → List Nat → Option (V × H)) (rq : Nat → Nat → Int → Nat → Nat → Int → Int → Bool → List Nat → Option (V × H)) : Nat → Nat → Int → Nat → Nat → Int → Int → Bool → List Nat → Option (V × H) := fun (rows0n : Nat) (beside1 : Nat) (k2 : Int) (low11 : Nat) (high12 : Nat) (t48 : Int) (t49 : Int) (rw0 : Bool) (l0 : List Nat) => (match decide ((t49 : Int) < t48) with | true => (match (d_CB rows0n beside1 (fop .mul .f32 1056964608 (fop .add .f32 low11 high12)) rw0 l0).isSome with | true => (match !((v_CB rows0n beside1 (fop .mul .f32 1056964608 (fop .add .f32 low11 high12)) rw0 l0).2) with | true => (k0 high12 rw0 l0) | false => (match decide (((v_CB rows0n beside1 (fop .mul .f32 1056964608 (fop .add .f32 low11 high12)) rw0 l0).1 : Int) > k2) with | true => (rq rows0n beside1 k2 low11 (fop .mul .f32 1056964608 (fop .add .f32 low11 high12)) t48 (IntKind.i64.wrap (t49 + 1)) rw0 l0) | false => (rq rows0n beside1 k2 (fop .mul .f32 1056964608 (fop .add .f32 low11 high12)) high12 t48 (IntKind.i64.wrap (t49 + 1)) rw0 l0))) | false => none) | false => (k1 high12 rw0 l0))
noncomputable def mr_lo8 (N : Nat) (k0 : Nat → Bool → List Nat → Option (V × H)) (k1 : Nat → Bool → List Nat → Option (V × H)) (M : Nat) : Nat → Nat → Int → Nat → Nat → Int → Int → Bool → List Nat → Option (V × H) := Nat.rec (motive := fun _ => Nat → Nat → Int → Nat → Nat → Int → Int → Bool → List Nat → Option (V × H)) (fun (_ : Nat) (_ : Nat) (_ : Int) (_ : Nat) (_ : Nat) (_ : Int) (_ : Int) (_ : Bool) (_ : List Nat) => none) (fun _ rq => mb_lo8 N k0 k1 rq) M
theorem mrs_lo8 (N : Nat) (k0 : Nat → Bool → List Nat → Option (V × H)) (k1 : Nat → Bool → List Nat → Option (V × H)) (M : Nat) (rows0n : Nat) (beside1 : Nat) (k2 : Int) (low11 : Nat) (high12 : Nat) (t48 : Int) (t49 : Int) (rw0 : Bool) (l0 : List Nat) : mr_lo8 N k0 k1 (M + 1) rows0n beside1 k2 low11 high12 t48 t49 rw0 l0 = mb_lo8 N k0 k1 (mr_lo8 N k0 k1 M) rows0n beside1 k2 low11 high12 t48 t49 rw0 l0 := rfl
theorem H_lo8 (N : Nat) : ∀ (M : Nat) (rows0n : Nat) (beside1 : Nat) (k2 : Int) (low11 : Nat) (high12 : Nat) (t48 : Int) (t49 : Int) (rw0 : Bool) (l0 : List Nat), lp_lo8 N M (st_lo8 rows0n beside1 k2 low11 high12 t48 t49 rw0 l0) (kt_lo8 N (kEnd Try.f13 1)) = mr_lo8 N (ce_lo8_0 N) (ce_lo8_1 N) M rows0n beside1 k2 low11 high12 t48 t49 rw0 l0 := by
  have he0 : ∀ (high12 : Nat) (rw0 : Bool) (l0 : List Nat), kt_lo8 N (kEnd Try.f13 1) .ret (en_lo8_0 high12 rw0 l0) = ce_lo8_0 N high12 rw0 l0 := by
    intro high12 rw0 l0
    rw [end_lo8_0]
    unfold ce_lo8_0
    all_goals rfl
  have he1 : ∀ (high12 : Nat) (rw0 : Bool) (l0 : List Nat), kt_lo8 N (kEnd Try.f13 1) (.exit 0) (en_lo8_1 high12 rw0 l0) = ce_lo8_1 N high12 rw0 l0 := by
    intro high12 rw0 l0
    rw [end_lo8_1]
    unfold ce_lo8_1
    cases hz1 : (finB high12)
    case true =>
      all_goals rfl
    case false =>
      all_goals rfl
  intro M
  induction M with
  | zero => intros; rfl
  | succ M ih =>
    intro rows0n beside1 k2 low11 high12 t48 t49 rw0 l0
    rw [step_lo8]
    rw [mrs_lo8]
    unfold mb_lo8
    cases hq1 : (decide ((t49 : Int) < t48))
    case true =>
      cases hq2 : ((d_CB rows0n beside1 (fop .mul .f32 1056964608 (fop .add .f32 low11 high12)) rw0 l0).isSome)
      case true =>
        cases hq3 : (!((v_CB rows0n beside1 (fop .mul .f32 1056964608 (fop .add .f32 low11 high12)) rw0 l0).2))
        case true =>
          try dsimp only
          exact he0 _ _ _
        case false =>
          cases hq4 : (decide (((v_CB rows0n beside1 (fop .mul .f32 1056964608 (fop .add .f32 low11 high12)) rw0 l0).1 : Int) > k2))
          case true =>
            try dsimp only
            exact ih _ _ _ _ _ _ _ _ _
          case false =>
            try dsimp only
            exact ih _ _ _ _ _ _ _ _ _
      case false =>
        all_goals rfl
    case false =>
      try dsimp only
      exact he1 _ _ _
noncomputable def md_lo (N : Nat) (n : Nat) (b : Nat) (k : Int) (q : Int) (r : Bool) (l : List Nat) : Option (V × H) := (match (d_ar n b r l).isSome with | true => (match !(v_ar n b r l) with | true => some (.tup [.a (.fl .f32 0), .a (.bool false)], [.at r (.fl .f32 l)]) | false => (match !(inB k 0 (IntKind.i64.wrap (((n : Nat) : Int) - 1))) with | true => some (.tup [.a (.fl .f32 0), .a (.bool false)], [.at r (.fl .f32 l)]) | false => (match !(inB q 1 40) with | true => some (.tup [.a (.fl .f32 0), .a (.bool false)], [.at r (.fl .f32 l)]) | false => (match ltB b 0 with | true => (match (d_mn n r l).isSome with | true => (match (d_mx n r l).isSome with | true => (mr_lo8 N (ce_lo8_0 N) (ce_lo8_1 N) N n b k (fop .sub .f32 (v_mn n r l) (fop .mul .f32 1073741824 (fneg .f32 b))) (fop .add .f32 (v_mx n r l) (fop .mul .f32 1073741824 (fneg .f32 b))) q 0 r l) | false => none) | false => none) | false => (match (d_mn n r l).isSome with | true => (match (d_mx n r l).isSome with | true => (mr_lo8 N (ce_lo8_0 N) (ce_lo8_1 N) N n b k (fop .sub .f32 (v_mn n r l) (fop .mul .f32 1073741824 b)) (fop .add .f32 (v_mx n r l) (fop .mul .f32 1073741824 b)) q 0 r l) | false => none) | false => none))))) | false => none)
theorem mdl_lo (N : Nat) (n : Nat) (b : Nat) (k : Int) (q : Int) (r : Bool) (l : List Nat) : run ty tab_lo an_lo N Try.f13 [.sl 0 0 n, .fl .f32 b, .int .i64 k, .int .i64 q] [.at r (.fl .f32 l)] = md_lo N n b k q r l := by
  rw [run_lo]
  unfold md_lo
  first | (simp only [H_lo8 N N]; done) | (simp only [H_lo8 N N]; kernel_rfl) | rfl

def o_lo (n : Nat) (b : Nat) (k : Int) (q : Int) (r : Bool) (l : List Nat) : Option (V × H) → Option (Nat × Bool)
  | some (.tup [.a (.fl .f32 x0), .a (.bool x1)], [.at r0 (.fl .f32 y0)]) => match decide (r0 = r ∧ y0 = l) with | true => some (x0, x1) | false => none
  | _ => none
theorem oi_lo {n : Nat} {b : Nat} {k : Int} {q : Int} {r : Bool} {l : List Nat} {o : Option (V × H)} {z : Nat × Bool} (h : o_lo n b k q r l o = some z) : o = some (.tup [.a (.fl .f32 z.1), .a (.bool z.2)], [.at r (.fl .f32 l)]) := by
  unfold o_lo at h
  split at h
  · split at h
    · rename_i hd
      obtain ⟨rfl, rfl⟩ := of_decide_eq_true hd
      cases h
      rfl
    · cases h
  · cases h
noncomputable def d_lo (n : Nat) (b : Nat) (k : Int) (q : Int) (r : Bool) (l : List Nat) : Option (Nat × Bool) := o_lo n b k q r l (md_lo 50 n b k q r l)
noncomputable def v_lo (n : Nat) (b : Nat) (k : Int) (q : Int) (r : Bool) (l : List Nat) : Nat × Bool := (d_lo n b k q r l).getD (0, false)
noncomputable def g_lo : GT := fun vs h => match vs, h with
  | [.sl 0 0 n, .fl .f32 b, .int .i64 k, .int .i64 q], [.at r (.fl .f32 l)] => .ite (d_lo n b k q r l).isSome (.ret (.tup [.a (.fl .f32 ((v_lo n b k q r l).1)), .a (.bool ((v_lo n b k q r l).2))]) [.at r (.fl .f32 l)]) .no
  | _, _ => .no
theorem ok_lo : FnT Try.prog 13 g_lo := by
  refine fnT tabok_lo Try.func13 rfl rfl an_lo fun vs h v h' e => ⟨50, ?_⟩
  unfold g_lo at e
  split at e
  · rename_i n b k q r l
    obtain ⟨hs, e⟩ := T.pre_inv e
    obtain ⟨rfl, rfl⟩ := T.ret_inv e
    skip
    refine Eq.trans (mdl_lo 50 n b k q r l) ?_
    obtain ⟨z, hz⟩ := Option.isSome_iff_exists.mp hs
    have hv : v_lo n b k q r l = z := by unfold v_lo; rw [hz]; rfl
    rw [hv]
    exact oi_lo hz
  · exact (T.no_inv e).elim
def an_gr : Ann := ⟨fun r => if r = 6 then some ([1, 4, 11, 12, 44, 45], [8, 9, 10, 11, 12]) else none, fun _ _ => .quiet⟩
noncomputable def tab_gr : Fns := tabT [(21, g_vs), (22, gAllT finB), (17, gT gIn), (23, gT g_placeAt), (24, gT (gF1 finB)), (25, g_ha)]
theorem tabok_gr : ∀ f, FnT Try.prog f (tab_gr f) := (tabT_cons (k := 21) ok_vs (tabT_cons (k := 22) ok_areFinite (tabT_cons (k := 17) ok_within (tabT_cons (k := 23) ok_placeAt (tabT_cons (k := 24) ok_IsFinite (tabT_cons (k := 25) ok_ha tabT_nil))))))
def st_gr6 (low1 : Nat) (h11 : Nat) (rows12n : Nat) (t44 : Int) (t45 : Int) (rw0 : Bool) (l0 : List Nat) (b1_1n : Nat) (l2 : List Nat) : St := ⟨(.any :: .fl .f32 low1 :: .any :: .any :: .ptr 1 0 :: (anys 6 (.fl .f32 h11 :: .sl 2 0 rows12n :: (anys 31 (.int .i64 t44 :: .int .i64 t45 :: (anys 36 [])))))), [.at rw0 (.fl .f32 l0), .at true (.as 1 [.nil, .sl 0 0 b1_1n]), .at true (.fl .f32 l2)]⟩
abbrev kp_gr6 : Option (List Nat × List Nat) := some ([1, 4, 11, 12, 44, 45], [8, 9, 10, 11, 12])
noncomputable def lp_gr6 {R : Type} (N M : Nat) (s : St) (K : X → St → Option R) : Option R := loopH 1 kp_gr6 (fun st K => exec ty tab_gr an_gr N 1 (atOf [true, true, true, true, false, true, false, false] Try.f12) st K) M s K
noncomputable def bk_gr6 {R : Type} (N M : Nat) (K : X → St → Option R) : X → St → Option R := fun x st => match x with | .norm => tidyK 1 (kp_gr6.map (·.1)) st fun st => lp_gr6 N M st K | x => tidyK 1 (kp_gr6.map (·.2)) st fun st => K x st
noncomputable def kt_gr6 {R : Type} (N : Nat) (K : X → St → Option R) : X → St → Option R := kBlkR 0 (kSeqR tab_gr an_gr N 1 (atOf [true, true, true, true, true] Try.f12) (K))
def en_gr6_0 (h11 : Nat) (rows12n : Nat) (rw0 : Bool) (l0 : List Nat) (l1 : List Nat) : St := ⟨(anys 8 (.nil :: .fl .f32 0 :: .bool false :: .fl .f32 h11 :: .sl 1 0 rows12n :: (anys 69 []))), [.at rw0 (.fl .f32 l0), .at true (.fl .f32 l1)]⟩
def en_gr6_1 (h11 : Nat) (rows12n : Nat) (rw0 : Bool) (l0 : List Nat) (l1 : List Nat) : St := ⟨(anys 11 (.fl .f32 h11 :: .sl 1 0 rows12n :: (anys 69 []))), [.at rw0 (.fl .f32 l0), .at true (.fl .f32 l1)]⟩
theorem run_gr (N : Nat) (n : Nat) (a : Nat) (b : Nat) (k : Int) (r : Bool) (l : List Nat) : run ty tab_gr an_gr N Try.f12 [.g [.nil, .sl 0 0 n], .fl .f32 a, .fl .f32 b, .int .i64 k] [.at r (.fl .f32 l)]
    = (match (d_vs n r l).isSome with | true => (match !(v_vs n r l) with | true => some (.tup [.a (.nil), .a (.fl .f32 0), .a (.bool false)], [.at r (.fl .f32 l)]) | false => (match !(finB a && (finB b && true)) with | true => some (.tup [.a (.nil), .a (.fl .f32 0), .a (.bool false)], [.at r (.fl .f32 l)]) | false => (match gtB a b || eqB a b with | true => some (.tup [.a (.nil), .a (.fl .f32 0), .a (.bool false)], [.at r (.fl .f32 l)]) | false => (match !(inB k 2 48) with | true => some (.tup [.a (.nil), .a (.fl .f32 0), .a (.bool false)], [.at r (.fl .f32 l)]) | false => lp_gr6 N N (st_gr6 a (fop .quo .f32 (fop .sub .f32 b a) (floatOfInt .f32 (IntKind.i64.wrap (k + 1)))) 0 k 0 r l n ([] : List Nat)) (kt_gr6 N (kEnd Try.f12 1)))))) | false => none) := by
  kernel_rfl
theorem step_gr6 {R : Type} (N M : Nat) (K : X → St → Option R) (low1 : Nat) (h11 : Nat) (rows12n : Nat) (t44 : Int) (t45 : Int) (rw0 : Bool) (l0 : List Nat) (b1_1n : Nat) (l2 : List Nat) : lp_gr6 N (M + 1) (st_gr6 low1 h11 rows12n t44 t45 rw0 l0 b1_1n l2) K
    = (match decide ((t45 : Int) < t44) with | true => (match !(finB (v_placeAt low1 h11 t45)) with | true => K .ret (en_gr6_0 h11 rows12n rw0 l0 l2) | false => (match (d_ha b1_1n (v_placeAt low1 h11 t45) rw0 l0).isSome with | true => (match apok true rows12n 1 l2.length 1 (rows12n + 1) 4 with | true => lp_gr6 N M (st_gr6 low1 h11 (rows12n + 1) t44 (IntKind.i64.wrap (t45 + 1)) rw0 l0 b1_1n (l2 ++ [fop .add .f32 (fop .quo .f32 1073741824 (fop .mul .f32 h11 h11)) (v_ha b1_1n (v_placeAt low1 h11 t45) rw0 l0)])) K | false => none) | false => none)) | false => K (.exit 0) (en_gr6_1 h11 rows12n rw0 l0 l2)) := by
  kernel_rfl
theorem end_gr6_0 (N : Nat) (h11 : Nat) (rows12n : Nat) (rw0 : Bool) (l0 : List Nat) (l1 : List Nat) : kt_gr6 N (kEnd Try.f12 1) .ret (en_gr6_0 h11 rows12n rw0 l0 l1)
    = some (.tup [.a (.nil), .a (.fl .f32 0), .a (.bool false)], [.at rw0 (.fl .f32 l0)]) := by
  kernel_rfl
theorem end_gr6_1 (N : Nat) (h11 : Nat) (rows12n : Nat) (rw0 : Bool) (l0 : List Nat) (l1 : List Nat) : kt_gr6 N (kEnd Try.f12 1) (.exit 0) (en_gr6_1 h11 rows12n rw0 l0 l1)
    = (match decide (l1.length = rows12n ∧ rows12n < 2147483648) with | true => (match !(l1.all finB) with | true => some (.tup [.a (.nil), .a (.fl .f32 0), .a (.bool false)], [.at rw0 (.fl .f32 l0)]) | false => (match !(finB (fop .sub .f32 0 (fop .quo .f32 1065353216 (fop .mul .f32 h11 h11)))) with | true => some (.tup [.a (.nil), .a (.fl .f32 0), .a (.bool false)], [.at rw0 (.fl .f32 l0)]) | false => some (.tup [.a (.sl 1 0 rows12n), .a (.fl .f32 (fop .sub .f32 0 (fop .quo .f32 1065353216 (fop .mul .f32 h11 h11)))), .a (.bool true)], [.at rw0 (.fl .f32 l0), .at true (.fl .f32 l1)]))) | false => none) := by
  kernel_rfl

noncomputable def ce_gr6_0 (N : Nat) (h11 : Nat) (rows12n : Nat) (rw0 : Bool) (l0 : List Nat) (l1 : List Nat) : Option (V × H) := some (.tup [.a (.nil), .a (.fl .f32 0), .a (.bool false)], [.at rw0 (.fl .f32 l0)])
noncomputable def ce_gr6_1 (N : Nat) (h11 : Nat) (rows12n : Nat) (rw0 : Bool) (l0 : List Nat) (l1 : List Nat) : Option (V × H) := (match decide (l1.length = rows12n ∧ rows12n < 2147483648) with | true => (match !(l1.all finB) with | true => some (.tup [.a (.nil), .a (.fl .f32 0), .a (.bool false)], [.at rw0 (.fl .f32 l0)]) | false => (match !(finB (fop .sub .f32 0 (fop .quo .f32 1065353216 (fop .mul .f32 h11 h11)))) with | true => some (.tup [.a (.nil), .a (.fl .f32 0), .a (.bool false)], [.at rw0 (.fl .f32 l0)]) | false => some (.tup [.a (.sl 1 0 rows12n), .a (.fl .f32 (fop .sub .f32 0 (fop .quo .f32 1065353216 (fop .mul .f32 h11 h11)))), .a (.bool true)], [.at rw0 (.fl .f32 l0), .at true (.fl .f32 l1)]))) | false => none)
noncomputable def mb_gr6 (N : Nat) (k0 : Nat → Nat → Bool → List Nat → List Nat → Option (V × H)) (k1 : Nat → Nat → Bool → List Nat → List Nat → Option (V × H)) (rq : Nat → Nat → Nat → Int → Int → Bool → List Nat → Nat → List Nat → Option (V × H)) : Nat → Nat → Nat → Int → Int → Bool → List Nat → Nat → List Nat → Option (V × H) := fun (low1 : Nat) (h11 : Nat) (rows12n : Nat) (t44 : Int) (t45 : Int) (rw0 : Bool) (l0 : List Nat) (b1_1n : Nat) (l2 : List Nat) => (match decide ((t45 : Int) < t44) with | true => (match !(finB (v_placeAt low1 h11 t45)) with | true => (k0 h11 rows12n rw0 l0 l2) | false => (match (d_ha b1_1n (v_placeAt low1 h11 t45) rw0 l0).isSome with | true => (match apok true rows12n 1 l2.length 1 (rows12n + 1) 4 with | true => (rq low1 h11 (rows12n + 1) t44 (IntKind.i64.wrap (t45 + 1)) rw0 l0 b1_1n (l2 ++ [fop .add .f32 (fop .quo .f32 1073741824 (fop .mul .f32 h11 h11)) (v_ha b1_1n (v_placeAt low1 h11 t45) rw0 l0)])) | false => none) | false => none)) | false => (k1 h11 rows12n rw0 l0 l2))
noncomputable def mr_gr6 (N : Nat) (k0 : Nat → Nat → Bool → List Nat → List Nat → Option (V × H)) (k1 : Nat → Nat → Bool → List Nat → List Nat → Option (V × H)) (M : Nat) : Nat → Nat → Nat → Int → Int → Bool → List Nat → Nat → List Nat → Option (V × H) := Nat.rec (motive := fun _ => Nat → Nat → Nat → Int → Int → Bool → List Nat → Nat → List Nat → Option (V × H)) (fun (_ : Nat) (_ : Nat) (_ : Nat) (_ : Int) (_ : Int) (_ : Bool) (_ : List Nat) (_ : Nat) (_ : List Nat) => none) (fun _ rq => mb_gr6 N k0 k1 rq) M
theorem mrs_gr6 (N : Nat) (k0 : Nat → Nat → Bool → List Nat → List Nat → Option (V × H)) (k1 : Nat → Nat → Bool → List Nat → List Nat → Option (V × H)) (M : Nat) (low1 : Nat) (h11 : Nat) (rows12n : Nat) (t44 : Int) (t45 : Int) (rw0 : Bool) (l0 : List Nat) (b1_1n : Nat) (l2 : List Nat) : mr_gr6 N k0 k1 (M + 1) low1 h11 rows12n t44 t45 rw0 l0 b1_1n l2 = mb_gr6 N k0 k1 (mr_gr6 N k0 k1 M) low1 h11 rows12n t44 t45 rw0 l0 b1_1n l2 := rfl
theorem H_gr6 (N : Nat) : ∀ (M : Nat) (low1 : Nat) (h11 : Nat) (rows12n : Nat) (t44 : Int) (t45 : Int) (rw0 : Bool) (l0 : List Nat) (b1_1n : Nat) (l2 : List Nat), lp_gr6 N M (st_gr6 low1 h11 rows12n t44 t45 rw0 l0 b1_1n l2) (kt_gr6 N (kEnd Try.f12 1)) = mr_gr6 N (ce_gr6_0 N) (ce_gr6_1 N) M low1 h11 rows12n t44 t45 rw0 l0 b1_1n l2 := by
  have he0 : ∀ (h11 : Nat) (rows12n : Nat) (rw0 : Bool) (l0 : List Nat) (l1 : List Nat), kt_gr6 N (kEnd Try.f12 1) .ret (en_gr6_0 h11 rows12n rw0 l0 l1) = ce_gr6_0 N h11 rows12n rw0 l0 l1 := by
    intro h11 rows12n rw0 l0 l1
    rw [end_gr6_0]
    unfold ce_gr6_0
    all_goals rfl
  have he1 : ∀ (h11 : Nat) (rows12n : Nat) (rw0 : Bool) (l0 : List Nat) (l1 : List Nat), kt_gr6 N (kEnd Try.f12 1) (.exit 0) (en_gr6_1 h11 rows12n rw0 l0 l1) = ce_gr6_1 N h11 rows12n rw0 l0 l1 := by
    intro h11 rows12n rw0 l0 l1
    rw [end_gr6_1]
    unfold ce_gr6_1
    cases hz1 : (decide (l1.length = rows12n ∧ rows12n < 2147483648))
    case true =>
      cases hz2 : (!(l1.all finB))
      case true =>
        all_goals rfl
      case false =>
        cases hz3 : (!(finB (fop .sub .f32 0 (fop .quo .f32 1065353216 (fop .mul .f32 h11 h11)))))
        case true =>
          all_goals rfl
        case false =>
          all_goals rfl
    case false =>
      all_goals rfl
  intro M
  induction M with
  | zero => intros; rfl
  | succ M ih =>
    intro low1 h11 rows12n t44 t45 rw0 l0 b1_1n l2
    rw [step_gr6]
    rw [mrs_gr6]
    unfold mb_gr6
    cases hq1 : (decide ((t45 : Int) < t44))
    case true =>
      cases hq2 : (!(finB (v_placeAt low1 h11 t45)))
      case true =>
        try dsimp only
        exact he0 _ _ _ _ _
      case false =>
        cases hq3 : ((d_ha b1_1n (v_placeAt low1 h11 t45) rw0 l0).isSome)
        case true =>
          cases hq4 : (apok true rows12n 1 l2.length 1 (rows12n + 1) 4)
          case true =>
            try dsimp only
            exact ih _ _ _ _ _ _ _ _ _
          case false =>
            all_goals rfl
        case false =>
          all_goals rfl
    case false =>
      try dsimp only
      exact he1 _ _ _ _ _
noncomputable def md_gr (N : Nat) (n : Nat) (a : Nat) (b : Nat) (k : Int) (r : Bool) (l : List Nat) : Option (V × H) := (match (d_vs n r l).isSome with | true => (match !(v_vs n r l) with | true => some (.tup [.a (.nil), .a (.fl .f32 0), .a (.bool false)], [.at r (.fl .f32 l)]) | false => (match !(finB a && (finB b && true)) with | true => some (.tup [.a (.nil), .a (.fl .f32 0), .a (.bool false)], [.at r (.fl .f32 l)]) | false => (match gtB a b || eqB a b with | true => some (.tup [.a (.nil), .a (.fl .f32 0), .a (.bool false)], [.at r (.fl .f32 l)]) | false => (match !(inB k 2 48) with | true => some (.tup [.a (.nil), .a (.fl .f32 0), .a (.bool false)], [.at r (.fl .f32 l)]) | false => (mr_gr6 N (ce_gr6_0 N) (ce_gr6_1 N) N a (fop .quo .f32 (fop .sub .f32 b a) (floatOfInt .f32 (IntKind.i64.wrap (k + 1)))) 0 k 0 r l n ([] : List Nat)))))) | false => none)
theorem mdl_gr (N : Nat) (n : Nat) (a : Nat) (b : Nat) (k : Int) (r : Bool) (l : List Nat) : run ty tab_gr an_gr N Try.f12 [.g [.nil, .sl 0 0 n], .fl .f32 a, .fl .f32 b, .int .i64 k] [.at r (.fl .f32 l)] = md_gr N n a b k r l := by
  rw [run_gr]
  unfold md_gr
  first | (simp only [H_gr6 N N]; done) | (simp only [H_gr6 N N]; kernel_rfl) | rfl

def o_gr (n : Nat) (a : Nat) (b : Nat) (k : Int) (r : Bool) (l : List Nat) : Option (V × H) → Option (Nat × Nat × List Nat)
  | some (.tup [.a (.sl 1 0 x1), .a (.fl .f32 x2), .a (.bool true)], [.at r0 (.fl .f32 y0), .at true (.fl .f32 x4)]) => match decide (r0 = r ∧ y0 = l) with | true => some (x1, x2, x4) | false => none
  | _ => none
theorem oi_gr {n : Nat} {a : Nat} {b : Nat} {k : Int} {r : Bool} {l : List Nat} {o : Option (V × H)} {z : Nat × Nat × List Nat} (h : o_gr n a b k r l o = some z) : o = some (.tup [.a (.sl 1 0 z.1), .a (.fl .f32 z.2.1), .a (.bool true)], [.at r (.fl .f32 l), .at true (.fl .f32 z.2.2)]) := by
  unfold o_gr at h
  split at h
  · split at h
    · rename_i hd
      obtain ⟨rfl, rfl⟩ := of_decide_eq_true hd
      cases h
      rfl
    · cases h
  · cases h
noncomputable def d_gr (n : Nat) (a : Nat) (b : Nat) (k : Int) (r : Bool) (l : List Nat) : Option (Nat × Nat × List Nat) := o_gr n a b k r l (md_gr 50 n a b k r l)
noncomputable def v_gr (n : Nat) (a : Nat) (b : Nat) (k : Int) (r : Bool) (l : List Nat) : Nat × Nat × List Nat := (d_gr n a b k r l).getD (0, 0, [])
noncomputable def g_gr : GT := fun vs h => match vs, h with
  | [.g [.nil, .sl 0 0 n], .fl .f32 a, .fl .f32 b, .int .i64 k], [.at r (.fl .f32 l)] => .ite (d_gr n a b k r l).isSome (.ret (.tup [.a (.sl 1 0 ((v_gr n a b k r l).1)), .a (.fl .f32 ((v_gr n a b k r l).2.1)), .a (.bool true)]) [.at r (.fl .f32 l), .at true (.fl .f32 ((v_gr n a b k r l).2.2))]) .no
  | _, _ => .no
theorem ok_gr : FnT Try.prog 12 g_gr := by
  refine fnT tabok_gr Try.func12 rfl rfl an_gr fun vs h v h' e => ⟨50, ?_⟩
  unfold g_gr at e
  split at e
  · rename_i n a b k r l
    obtain ⟨hs, e⟩ := T.pre_inv e
    obtain ⟨rfl, rfl⟩ := T.ret_inv e
    skip
    refine Eq.trans (mdl_gr 50 n a b k r l) ?_
    obtain ⟨z, hz⟩ := Option.isSome_iff_exists.mp hs
    have hv : v_gr n a b k r l = z := by unfold v_gr; rw [hz]; rfl
    rw [hv]
    exact oi_gr hz
  · exact (T.no_inv e).elim
def an_mp : Ann := ⟨fun r => if r = 7 then some ([1, 9, 10, 11, 47, 48, 49], [10, 11]) else none, fun _ _ => .quiet⟩
noncomputable def tab_mp : Fns := tabT [(22, gAllT finB), (23, gT g_placeAt), (30, gNumT)]
theorem tabok_mp : ∀ f, FnT Try.prog f (tab_mp f) := (tabT_cons (k := 22) ok_areFinite (tabT_cons (k := 23) ok_placeAt (tabT_cons (k := 30) ok_checked tabT_nil)))
def st_mp7 (low1 : Nat) (h9 : Nat) (above10 : Nat) (below11 : Nat) (t47n : Nat) (t48 : Int) (t49 : Int) (rw0 : Bool) (l0 : List Nat) : St := ⟨(.any :: .fl .f32 low1 :: (anys 7 (.fl .f32 h9 :: .fl .f32 above10 :: .fl .f32 below11 :: (anys 35 (.sl 0 0 t47n :: .int .i64 t48 :: .int .i64 t49 :: (anys 28 [])))))), [.at rw0 (.fl .f32 l0)]⟩
abbrev kp_mp7 : Option (List Nat × List Nat) := some ([1, 9, 10, 11, 47, 48, 49], [10, 11])
noncomputable def lp_mp7 {R : Type} (N M : Nat) (s : St) (K : X → St → Option R) : Option R := loopH 1 kp_mp7 (fun st K => exec ty tab_mp an_mp N 1 (atOf [true, true, true, true, true, false, true, false, false] Try.f15) st K) M s K
noncomputable def bk_mp7 {R : Type} (N M : Nat) (K : X → St → Option R) : X → St → Option R := fun x st => match x with | .norm => tidyK 1 (kp_mp7.map (·.1)) st fun st => lp_mp7 N M st K | x => tidyK 1 (kp_mp7.map (·.2)) st fun st => K x st
noncomputable def kt_mp7 {R : Type} (N : Nat) (K : X → St → Option R) : X → St → Option R := kBlkR 0 (kSeqR tab_mp an_mp N 1 (atOf [true, true, true, true, true, true] Try.f15) (K))
def en_mp7_0 (above10 : Nat) (below11 : Nat) (rw0 : Bool) (l0 : List Nat) : St := ⟨(anys 10 (.fl .f32 above10 :: .fl .f32 below11 :: (anys 66 []))), [.at rw0 (.fl .f32 l0)]⟩
theorem run_mp (N : Nat) (n : Nat) (a : Nat) (b : Nat) (r : Bool) (l : List Nat) : run ty tab_mp an_mp N Try.f15 [.sl 0 0 n, .fl .f32 a, .fl .f32 b] [.at r (.fl .f32 l)]
    = (match decide ((((n : Nat) : Int) : Int) < 2) with | true => some (.tup [.a (.fl .f32 0), .a (.bool false)], [.at r (.fl .f32 l)]) | false => (match decide ((((n : Nat) : Int) : Int) > 48) with | true => some (.tup [.a (.fl .f32 0), .a (.bool false)], [.at r (.fl .f32 l)]) | false => (match decide (l.length = n ∧ n < 2147483648) with | true => (match !(l.all finB) with | true => some (.tup [.a (.fl .f32 0), .a (.bool false)], [.at r (.fl .f32 l)]) | false => (match !(finB a && (finB b && true)) with | true => some (.tup [.a (.fl .f32 0), .a (.bool false)], [.at r (.fl .f32 l)]) | false => (match gtB a b || eqB a b with | true => some (.tup [.a (.fl .f32 0), .a (.bool false)], [.at r (.fl .f32 l)]) | false => lp_mp7 N N (st_mp7 a (fop .quo .f32 (fop .sub .f32 b a) (floatOfInt .f32 (IntKind.i64.wrap (((n : Nat) : Int) + 1)))) 0 0 n ((n : Nat) : Int) 0 r l) (kt_mp7 N (kEnd Try.f15 1))))) | false => none))) := by
  kernel_rfl
theorem step_mp7 {R : Type} (N M : Nat) (K : X → St → Option R) (low1 : Nat) (h9 : Nat) (above10 : Nat) (below11 : Nat) (t47n : Nat) (t48 : Int) (t49 : Int) (rw0 : Bool) (l0 : List Nat) : lp_mp7 N (M + 1) (st_mp7 low1 h9 above10 below11 t47n t48 t49 rw0 l0) K
    = (match decide ((t49 : Int) < t48) with | true => (match decide (0 ≤ (t49 : Int) ∧ (t49 : Int) < ((t47n : Nat) : Int)) with | true => (match l0[0 + (t49).toNat * 1]? with | some e1 => lp_mp7 N M (st_mp7 low1 h9 (fop .add .f32 above10 (fop .mul .f32 (fop .mul .f32 e1 e1) (v_placeAt low1 h9 t49))) (fop .add .f32 below11 (fop .mul .f32 e1 e1)) t47n t48 (IntKind.i64.wrap (t49 + 1)) rw0 l0) K | none => none) | false => none) | false => K (.exit 0) (en_mp7_0 above10 below11 rw0 l0)) := by
  kernel_rfl
theorem end_mp7_0 (N : Nat) (above10 : Nat) (below11 : Nat) (rw0 : Bool) (l0 : List Nat) : kt_mp7 N (kEnd Try.f15 1) (.exit 0) (en_mp7_0 above10 below11 rw0 l0)
    = (match !(gtB below11 0) with | true => some (.tup [.a (.fl .f32 0), .a (.bool false)], [.at rw0 (.fl .f32 l0)]) | false => (match finB (fop .quo .f32 above10 below11) with | true => some (.tup [.a (.fl .f32 (fop .quo .f32 above10 below11)), .a (.bool true)], [.at rw0 (.fl .f32 l0)]) | false => some (.tup [.a (.fl .f32 0), .a (.bool false)], [.at rw0 (.fl .f32 l0)]))) := by
  kernel_rfl

noncomputable def ce_mp7_0 (N : Nat) (above10 : Nat) (below11 : Nat) (rw0 : Bool) (l0 : List Nat) : Option (V × H) := (match !(gtB below11 0) with | true => some (.tup [.a (.fl .f32 0), .a (.bool false)], [.at rw0 (.fl .f32 l0)]) | false => (match finB (fop .quo .f32 above10 below11) with | true => some (.tup [.a (.fl .f32 (fop .quo .f32 above10 below11)), .a (.bool true)], [.at rw0 (.fl .f32 l0)]) | false => some (.tup [.a (.fl .f32 0), .a (.bool false)], [.at rw0 (.fl .f32 l0)])))
noncomputable def mb_mp7 (N : Nat) (k0 : Nat → Nat → Bool → List Nat → Option (V × H)) (rq : Nat → Nat → Nat → Nat → Nat → Int → Int → Bool → List Nat → Option (V × H)) : Nat → Nat → Nat → Nat → Nat → Int → Int → Bool → List Nat → Option (V × H) := fun (low1 : Nat) (h9 : Nat) (above10 : Nat) (below11 : Nat) (t47n : Nat) (t48 : Int) (t49 : Int) (rw0 : Bool) (l0 : List Nat) => (match decide ((t49 : Int) < t48) with | true => (match decide (0 ≤ (t49 : Int) ∧ (t49 : Int) < ((t47n : Nat) : Int)) with | true => (match l0[0 + (t49).toNat * 1]? with | some e1 => (rq low1 h9 (fop .add .f32 above10 (fop .mul .f32 (fop .mul .f32 e1 e1) (v_placeAt low1 h9 t49))) (fop .add .f32 below11 (fop .mul .f32 e1 e1)) t47n t48 (IntKind.i64.wrap (t49 + 1)) rw0 l0) | none => none) | false => none) | false => (k0 above10 below11 rw0 l0))
noncomputable def mr_mp7 (N : Nat) (k0 : Nat → Nat → Bool → List Nat → Option (V × H)) (M : Nat) : Nat → Nat → Nat → Nat → Nat → Int → Int → Bool → List Nat → Option (V × H) := Nat.rec (motive := fun _ => Nat → Nat → Nat → Nat → Nat → Int → Int → Bool → List Nat → Option (V × H)) (fun (_ : Nat) (_ : Nat) (_ : Nat) (_ : Nat) (_ : Nat) (_ : Int) (_ : Int) (_ : Bool) (_ : List Nat) => none) (fun _ rq => mb_mp7 N k0 rq) M
theorem mrs_mp7 (N : Nat) (k0 : Nat → Nat → Bool → List Nat → Option (V × H)) (M : Nat) (low1 : Nat) (h9 : Nat) (above10 : Nat) (below11 : Nat) (t47n : Nat) (t48 : Int) (t49 : Int) (rw0 : Bool) (l0 : List Nat) : mr_mp7 N k0 (M + 1) low1 h9 above10 below11 t47n t48 t49 rw0 l0 = mb_mp7 N k0 (mr_mp7 N k0 M) low1 h9 above10 below11 t47n t48 t49 rw0 l0 := rfl
theorem H_mp7 (N : Nat) : ∀ (M : Nat) (low1 : Nat) (h9 : Nat) (above10 : Nat) (below11 : Nat) (t47n : Nat) (t48 : Int) (t49 : Int) (rw0 : Bool) (l0 : List Nat), lp_mp7 N M (st_mp7 low1 h9 above10 below11 t47n t48 t49 rw0 l0) (kt_mp7 N (kEnd Try.f15 1)) = mr_mp7 N (ce_mp7_0 N) M low1 h9 above10 below11 t47n t48 t49 rw0 l0 := by
  have he0 : ∀ (above10 : Nat) (below11 : Nat) (rw0 : Bool) (l0 : List Nat), kt_mp7 N (kEnd Try.f15 1) (.exit 0) (en_mp7_0 above10 below11 rw0 l0) = ce_mp7_0 N above10 below11 rw0 l0 := by
    intro above10 below11 rw0 l0
    rw [end_mp7_0]
    unfold ce_mp7_0
    cases hz1 : (!(gtB below11 0))
    case true =>
      all_goals rfl
    case false =>
      cases hz2 : (finB (fop .quo .f32 above10 below11))
      case true =>
        all_goals rfl
      case false =>
        all_goals rfl
  intro M
  induction M with
  | zero => intros; rfl
  | succ M ih =>
    intro low1 h9 above10 below11 t47n t48 t49 rw0 l0
    rw [step_mp7]
    rw [mrs_mp7]
    unfold mb_mp7
    cases hq1 : (decide ((t49 : Int) < t48))
    case true =>
      cases hq2 : (decide (0 ≤ (t49 : Int) ∧ (t49 : Int) < ((t47n : Nat) : Int)))
      case true =>
        cases hq3 : (l0[0 + (t49).toNat * 1]?)
        case none =>
          rfl
        case some e1 =>
          try dsimp only
          try dsimp only
          exact ih _ _ _ _ _ _ _ _ _
      case false =>
        all_goals rfl
    case false =>
      try dsimp only
      exact he0 _ _ _ _
noncomputable def md_mp (N : Nat) (n : Nat) (a : Nat) (b : Nat) (r : Bool) (l : List Nat) : Option (V × H) := (match decide ((((n : Nat) : Int) : Int) < 2) with | true => some (.tup [.a (.fl .f32 0), .a (.bool false)], [.at r (.fl .f32 l)]) | false => (match decide ((((n : Nat) : Int) : Int) > 48) with | true => some (.tup [.a (.fl .f32 0), .a (.bool false)], [.at r (.fl .f32 l)]) | false => (match decide (l.length = n ∧ n < 2147483648) with | true => (match !(l.all finB) with | true => some (.tup [.a (.fl .f32 0), .a (.bool false)], [.at r (.fl .f32 l)]) | false => (match !(finB a && (finB b && true)) with | true => some (.tup [.a (.fl .f32 0), .a (.bool false)], [.at r (.fl .f32 l)]) | false => (match gtB a b || eqB a b with | true => some (.tup [.a (.fl .f32 0), .a (.bool false)], [.at r (.fl .f32 l)]) | false => (mr_mp7 N (ce_mp7_0 N) N a (fop .quo .f32 (fop .sub .f32 b a) (floatOfInt .f32 (IntKind.i64.wrap (((n : Nat) : Int) + 1)))) 0 0 n ((n : Nat) : Int) 0 r l)))) | false => none)))
theorem mdl_mp (N : Nat) (n : Nat) (a : Nat) (b : Nat) (r : Bool) (l : List Nat) : run ty tab_mp an_mp N Try.f15 [.sl 0 0 n, .fl .f32 a, .fl .f32 b] [.at r (.fl .f32 l)] = md_mp N n a b r l := by
  rw [run_mp]
  unfold md_mp
  first | (simp only [H_mp7 N N]; done) | (simp only [H_mp7 N N]; kernel_rfl) | rfl

def o_mp (n : Nat) (a : Nat) (b : Nat) (r : Bool) (l : List Nat) : Option (V × H) → Option (Nat × Bool)
  | some (.tup [.a (.fl .f32 x0), .a (.bool x1)], [.at r0 (.fl .f32 y0)]) => match decide (r0 = r ∧ y0 = l) with | true => some (x0, x1) | false => none
  | _ => none
theorem oi_mp {n : Nat} {a : Nat} {b : Nat} {r : Bool} {l : List Nat} {o : Option (V × H)} {z : Nat × Bool} (h : o_mp n a b r l o = some z) : o = some (.tup [.a (.fl .f32 z.1), .a (.bool z.2)], [.at r (.fl .f32 l)]) := by
  unfold o_mp at h
  split at h
  · split at h
    · rename_i hd
      obtain ⟨rfl, rfl⟩ := of_decide_eq_true hd
      cases h
      rfl
    · cases h
  · cases h
noncomputable def d_mp (n : Nat) (a : Nat) (b : Nat) (r : Bool) (l : List Nat) : Option (Nat × Bool) := o_mp n a b r l (md_mp 50 n a b r l)
noncomputable def v_mp (n : Nat) (a : Nat) (b : Nat) (r : Bool) (l : List Nat) : Nat × Bool := (d_mp n a b r l).getD (0, false)
noncomputable def g_mp : GT := fun vs h => match vs, h with
  | [.sl 0 0 n, .fl .f32 a, .fl .f32 b], [.at r (.fl .f32 l)] => .ite (d_mp n a b r l).isSome (.ret (.tup [.a (.fl .f32 ((v_mp n a b r l).1)), .a (.bool ((v_mp n a b r l).2))]) [.at r (.fl .f32 l)]) .no
  | _, _ => .no
theorem ok_mp : FnT Try.prog 15 g_mp := by
  refine fnT tabok_mp Try.func15 rfl rfl an_mp fun vs h v h' e => ⟨50, ?_⟩
  unfold g_mp at e
  split at e
  · rename_i n a b r l
    obtain ⟨hs, e⟩ := T.pre_inv e
    obtain ⟨rfl, rfl⟩ := T.ret_inv e
    skip
    refine Eq.trans (mdl_mp 50 n a b r l) ?_
    obtain ⟨z, hz⟩ := Option.isSome_iff_exists.mp hs
    have hv : v_mp n a b r l = z := by unfold v_mp; rw [hz]; rfl
    rw [hv]
    exact oi_mp hz
  · exact (T.no_inv e).elim
end Go.Proofs.Ytlopdogjdfeikaa.Ab
