/- Levels of boxes, swings and wells. Only lemmas. Printed by gen_closed.py. -/
import Derived.Test.YtlopdogjdfeikaaClA
namespace Go.Proofs.Ytlopdogjdfeikaa.Ab
set_option linter.unusedVariables false
set_option linter.unusedSimpArgs false
open Go
def an_bx : Ann := ⟨fun r => if r = 5 then some ([0, 1, 6, 7], [6]) else none, fun _ _ => .quiet⟩
noncomputable def tab_bx : Fns := tabT [(16, gAllT posB), (17, gT gIn), (18, gLsT)]
theorem tabok_bx : ∀ f, FnT Try.prog f (tab_bx f) := (tabT_cons (k := 16) ok_arePositive (tabT_cons (k := 17) ok_within (tabT_cons (k := 18) ok_checkedNumbers tabT_nil)))
def st_bx5 (width0 : Nat) (count1 : Int) (out6n : Nat) (i7 : Int) (l0 : List Nat) : St := ⟨(.fl .f32 width0 :: .int .i64 count1 :: .any :: .any :: .any :: .any :: .sl 0 0 out6n :: .int .i64 i7 :: (anys 31 [])), [.at true (.fl .f32 l0)]⟩
abbrev kp_bx5 : Option (List Nat × List Nat) := some ([0, 1, 6, 7], [6])
noncomputable def lp_bx5 {R : Type} (N M : Nat) (s : St) (K : X → St → Option R) : Option R := loopH 0 kp_bx5 (fun st K => exec ty tab_bx an_bx N 0 (atOf [true, true, true, false, true, false, false] Try.f6) st K) M s K
noncomputable def bk_bx5 {R : Type} (N M : Nat) (K : X → St → Option R) : X → St → Option R := fun x st => match x with | .norm => tidyK 0 (kp_bx5.map (·.1)) st fun st => lp_bx5 N M st K | x => tidyK 0 (kp_bx5.map (·.2)) st fun st => K x st
noncomputable def kt_bx5 {R : Type} (N : Nat) (K : X → St → Option R) : X → St → Option R := kBlkR 0 (kSeqR tab_bx an_bx N 0 (atOf [true, true, true, true] Try.f6) (K))
def en_bx5_0 (out6n : Nat) (l0 : List Nat) : St := ⟨(anys 6 (.sl 0 0 out6n :: (anys 32 []))), [.at true (.fl .f32 l0)]⟩
theorem run_bx (N : Nat) (w : Nat) (k : Int) : run ty tab_bx an_bx N Try.f6 [.fl .f32 w, .int .i64 k] []
    = (match !(posB w && true) with | true => some (.tup [.a (.nil), .a (.bool false)], []) | false => (match !(inB k 1 48) with | true => some (.tup [.a (.nil), .a (.bool false)], []) | false => lp_bx5 N N (st_bx5 w k 0 1 ([] : List Nat)) (kt_bx5 N (kEnd Try.f6 0)))) := by
  kernel_rfl
theorem step_bx5 {R : Type} (N M : Nat) (K : X → St → Option R) (width0 : Nat) (count1 : Int) (out6n : Nat) (i7 : Int) (l0 : List Nat) : lp_bx5 N (M + 1) (st_bx5 width0 count1 out6n i7 l0) K
    = (match decide ((i7 : Int) ≤ count1) with | true => (match apok true out6n 1 l0.length 1 (out6n + 1) 4 with | true => lp_bx5 N M (st_bx5 width0 count1 (out6n + 1) (IntKind.i64.wrap (i7 + 1)) (l0 ++ [fop .mul .f32 (fop .quo .f32 (fop .mul .f32 (floatOfInt .f32 i7) 1078530011) width0) (fop .quo .f32 (fop .mul .f32 (floatOfInt .f32 i7) 1078530011) width0)])) K | false => none) | false => K (.exit 0) (en_bx5_0 out6n l0)) := by
  kernel_rfl
theorem end_bx5_0 (N : Nat) (out6n : Nat) (l0 : List Nat) : kt_bx5 N (kEnd Try.f6 0) (.exit 0) (en_bx5_0 out6n l0)
    = (match decide (l0.length = out6n ∧ out6n < 2147483648) with | true => (match l0.all finB with | true => some (.tup [.a (.sl 0 0 out6n), .a (.bool true)], [.at true (.fl .f32 l0)]) | false => some (.tup [.a (.nil), .a (.bool false)], [])) | false => none) := by
  kernel_rfl

noncomputable def ce_bx5_0 (N : Nat) (out6n : Nat) (l0 : List Nat) : Option (V × H) := (match decide (l0.length = out6n ∧ out6n < 2147483648) with | true => (match l0.all finB with | true => some (.tup [.a (.sl 0 0 out6n), .a (.bool true)], [.at true (.fl .f32 l0)]) | false => some (.tup [.a (.nil), .a (.bool false)], [])) | false => none)
noncomputable def mb_bx5 (N : Nat) (k0 : Nat → List Nat → Option (V × H)) (rq : Nat → Int → Nat → Int → List Nat → Option (V × H)) : Nat → Int → Nat → Int → List Nat → Option (V × H) := fun (width0 : Nat) (count1 : Int) (out6n : Nat) (i7 : Int) (l0 : List Nat) => (match decide ((i7 : Int) ≤ count1) with | true => (match apok true out6n 1 l0.length 1 (out6n + 1) 4 with | true => (rq width0 count1 (out6n + 1) (IntKind.i64.wrap (i7 + 1)) (l0 ++ [fop .mul .f32 (fop .quo .f32 (fop .mul .f32 (floatOfInt .f32 i7) 1078530011) width0) (fop .quo .f32 (fop .mul .f32 (floatOfInt .f32 i7) 1078530011) width0)])) | false => none) | false => (k0 out6n l0))
noncomputable def mr_bx5 (N : Nat) (k0 : Nat → List Nat → Option (V × H)) (M : Nat) : Nat → Int → Nat → Int → List Nat → Option (V × H) := Nat.rec (motive := fun _ => Nat → Int → Nat → Int → List Nat → Option (V × H)) (fun (_ : Nat) (_ : Int) (_ : Nat) (_ : Int) (_ : List Nat) => none) (fun _ rq => mb_bx5 N k0 rq) M
theorem mrs_bx5 (N : Nat) (k0 : Nat → List Nat → Option (V × H)) (M : Nat) (width0 : Nat) (count1 : Int) (out6n : Nat) (i7 : Int) (l0 : List Nat) : mr_bx5 N k0 (M + 1) width0 count1 out6n i7 l0 = mb_bx5 N k0 (mr_bx5 N k0 M) width0 count1 out6n i7 l0 := rfl
theorem H_bx5 (N : Nat) : ∀ (M : Nat) (width0 : Nat) (count1 : Int) (out6n : Nat) (i7 : Int) (l0 : List Nat), lp_bx5 N M (st_bx5 width0 count1 out6n i7 l0) (kt_bx5 N (kEnd Try.f6 0)) = mr_bx5 N (ce_bx5_0 N) M width0 count1 out6n i7 l0 := by
  have he0 : ∀ (out6n : Nat) (l0 : List Nat), kt_bx5 N (kEnd Try.f6 0) (.exit 0) (en_bx5_0 out6n l0) = ce_bx5_0 N out6n l0 := by
    intro out6n l0
    rw [end_bx5_0]
    unfold ce_bx5_0
    cases hz1 : (decide (l0.length = out6n ∧ out6n < 2147483648))
    case true =>
      cases hz2 : (l0.all finB)
      case true =>
        all_goals rfl
      case false =>
        all_goals rfl
    case false =>
      all_goals rfl
  intro M
  induction M with
  | zero => intros; rfl
  | succ M ih =>
    intro width0 count1 out6n i7 l0
    rw [step_bx5]
    rw [mrs_bx5]
    unfold mb_bx5
    cases hq1 : (decide ((i7 : Int) ≤ count1))
    case true =>
      cases hq2 : (apok true out6n 1 l0.length 1 (out6n + 1) 4)
      case true =>
        try dsimp only
        exact ih _ _ _ _ _
      case false =>
        all_goals rfl
    case false =>
      try dsimp only
      exact he0 _ _
noncomputable def md_bx (N : Nat) (w : Nat) (k : Int) : Option (V × H) := (match !(posB w && true) with | true => some (.tup [.a (.nil), .a (.bool false)], []) | false => (match !(inB k 1 48) with | true => some (.tup [.a (.nil), .a (.bool false)], []) | false => (mr_bx5 N (ce_bx5_0 N) N w k 0 1 ([] : List Nat))))
theorem mdl_bx (N : Nat) (w : Nat) (k : Int) : run ty tab_bx an_bx N Try.f6 [.fl .f32 w, .int .i64 k] [] = md_bx N w k := by
  rw [run_bx]
  unfold md_bx
  first | (simp only [H_bx5 N N]; done) | (simp only [H_bx5 N N]; kernel_rfl) | rfl

def o_bx (w : Nat) (k : Int) : Option (V × H) → Option (Nat × List Nat)
  | some (.tup [.a (.sl 0 0 x1), .a (.bool true)], [.at true (.fl .f32 x3)]) => match decide (True) with | true => some (x1, x3) | false => none
  | _ => none
theorem oi_bx {w : Nat} {k : Int} {o : Option (V × H)} {z : Nat × List Nat} (h : o_bx w k o = some z) : o = some (.tup [.a (.sl 0 0 z.1), .a (.bool true)], [.at true (.fl .f32 z.2)]) := by
  unfold o_bx at h
  split at h
  · split at h
    · rename_i hd
      obtain _ := of_decide_eq_true hd
      cases h
      rfl
    · cases h
  · cases h
noncomputable def d_bx (w : Nat) (k : Int) : Option (Nat × List Nat) := o_bx w k (md_bx 50 w k)
noncomputable def v_bx (w : Nat) (k : Int) : Nat × List Nat := (d_bx w k).getD (0, [])
noncomputable def g_bx : GT := fun vs h => match vs, h with
  | [.fl .f32 w, .int .i64 k], [] => .ite (d_bx w k).isSome (.ret (.tup [.a (.sl 0 0 ((v_bx w k).1)), .a (.bool true)]) [.at true (.fl .f32 ((v_bx w k).2))]) .no
  | _, _ => .no
theorem ok_bx : FnT Try.prog 6 g_bx := by
  refine fnT tabok_bx Try.func6 rfl rfl an_bx fun vs h v h' e => ⟨50, ?_⟩
  unfold g_bx at e
  split at e
  · rename_i w k
    obtain ⟨hs, e⟩ := T.pre_inv e
    obtain ⟨rfl, rfl⟩ := T.ret_inv e
    skip
    refine Eq.trans (mdl_bx 50 w k) ?_
    obtain ⟨z, hz⟩ := Option.isSome_iff_exists.mp hs
    have hv : v_bx w k = z := by unfold v_bx; rw [hz]; rfl
    rw [hv]
    exact oi_bx hz
  · exact (T.no_inv e).elim
def an_sw : Ann := ⟨fun r => if r = 5 then some ([0, 1, 6, 7], [6]) else none, fun _ _ => .quiet⟩
noncomputable def tab_sw : Fns := tabT [(16, gAllT posB), (17, gT gIn), (18, gLsT)]
theorem tabok_sw : ∀ f, FnT Try.prog f (tab_sw f) := (tabT_cons (k := 16) ok_arePositive (tabT_cons (k := 17) ok_within (tabT_cons (k := 18) ok_checkedNumbers tabT_nil)))
def st_sw5 (rate0 : Nat) (count1 : Int) (out6n : Nat) (i7 : Int) (l0 : List Nat) : St := ⟨(.fl .f32 rate0 :: .int .i64 count1 :: .any :: .any :: .any :: .any :: .sl 0 0 out6n :: .int .i64 i7 :: (anys 28 [])), [.at true (.fl .f32 l0)]⟩
abbrev kp_sw5 : Option (List Nat × List Nat) := some ([0, 1, 6, 7], [6])
noncomputable def lp_sw5 {R : Type} (N M : Nat) (s : St) (K : X → St → Option R) : Option R := loopH 0 kp_sw5 (fun st K => exec ty tab_sw an_sw N 0 (atOf [true, true, true, false, true, false, false] Try.f7) st K) M s K
noncomputable def bk_sw5 {R : Type} (N M : Nat) (K : X → St → Option R) : X → St → Option R := fun x st => match x with | .norm => tidyK 0 (kp_sw5.map (·.1)) st fun st => lp_sw5 N M st K | x => tidyK 0 (kp_sw5.map (·.2)) st fun st => K x st
noncomputable def kt_sw5 {R : Type} (N : Nat) (K : X → St → Option R) : X → St → Option R := kBlkR 0 (kSeqR tab_sw an_sw N 0 (atOf [true, true, true, true] Try.f7) (K))
def en_sw5_0 (out6n : Nat) (l0 : List Nat) : St := ⟨(anys 6 (.sl 0 0 out6n :: (anys 29 []))), [.at true (.fl .f32 l0)]⟩
theorem run_sw (N : Nat) (w : Nat) (k : Int) : run ty tab_sw an_sw N Try.f7 [.fl .f32 w, .int .i64 k] []
    = (match !(posB w && true) with | true => some (.tup [.a (.nil), .a (.bool false)], []) | false => (match !(inB k 1 48) with | true => some (.tup [.a (.nil), .a (.bool false)], []) | false => lp_sw5 N N (st_sw5 w k 0 1 ([] : List Nat)) (kt_sw5 N (kEnd Try.f7 0)))) := by
  kernel_rfl
theorem step_sw5 {R : Type} (N M : Nat) (K : X → St → Option R) (rate0 : Nat) (count1 : Int) (out6n : Nat) (i7 : Int) (l0 : List Nat) : lp_sw5 N (M + 1) (st_sw5 rate0 count1 out6n i7 l0) K
    = (match decide ((i7 : Int) ≤ count1) with | true => (match apok true out6n 1 l0.length 1 (out6n + 1) 4 with | true => lp_sw5 N M (st_sw5 rate0 count1 (out6n + 1) (IntKind.i64.wrap (i7 + 1)) (l0 ++ [fop .mul .f32 rate0 (floatOfInt .f32 (IntKind.i64.wrap ((IntKind.i64.wrap (2 * i7)) - 1)))])) K | false => none) | false => K (.exit 0) (en_sw5_0 out6n l0)) := by
  kernel_rfl
theorem end_sw5_0 (N : Nat) (out6n : Nat) (l0 : List Nat) : kt_sw5 N (kEnd Try.f7 0) (.exit 0) (en_sw5_0 out6n l0)
    = (match decide (l0.length = out6n ∧ out6n < 2147483648) with | true => (match l0.all finB with | true => some (.tup [.a (.sl 0 0 out6n), .a (.bool true)], [.at true (.fl .f32 l0)]) | false => some (.tup [.a (.nil), .a (.bool false)], [])) | false => none) := by
  kernel_rfl

noncomputable def ce_sw5_0 (N : Nat) (out6n : Nat) (l0 : List Nat) : Option (V × H) := (match decide (l0.length = out6n ∧ out6n < 2147483648) with | true => (match l0.all finB with | true => some (.tup [.a (.sl 0 0 out6n), .a (.bool true)], [.at true (.fl .f32 l0)]) | false => some (.tup [.a (.nil), .a (.bool false)], [])) | false => none)
noncomputable def mb_sw5 (N : Nat) (k0 : Nat → List Nat → Option (V × H)) (rq : Nat → Int → Nat → Int → List Nat → Option (V × H)) : Nat → Int → Nat → Int → List Nat → Option (V × H) := fun (rate0 : Nat) (count1 : Int) (out6n : Nat) (i7 : Int) (l0 : List Nat) => (match decide ((i7 : Int) ≤ count1) with | true => (match apok true out6n 1 l0.length 1 (out6n + 1) 4 with | true => (rq rate0 count1 (out6n + 1) (IntKind.i64.wrap (i7 + 1)) (l0 ++ [fop .mul .f32 rate0 (floatOfInt .f32 (IntKind.i64.wrap ((IntKind.i64.wrap (2 * i7)) - 1)))])) | false => none) | false => (k0 out6n l0))
noncomputable def mr_sw5 (N : Nat) (k0 : Nat → List Nat → Option (V × H)) (M : Nat) : Nat → Int → Nat → Int → List Nat → Option (V × H) := Nat.rec (motive := fun _ => Nat → Int → Nat → Int → List Nat → Option (V × H)) (fun (_ : Nat) (_ : Int) (_ : Nat) (_ : Int) (_ : List Nat) => none) (fun _ rq => mb_sw5 N k0 rq) M
theorem mrs_sw5 (N : Nat) (k0 : Nat → List Nat → Option (V × H)) (M : Nat) (rate0 : Nat) (count1 : Int) (out6n : Nat) (i7 : Int) (l0 : List Nat) : mr_sw5 N k0 (M + 1) rate0 count1 out6n i7 l0 = mb_sw5 N k0 (mr_sw5 N k0 M) rate0 count1 out6n i7 l0 := rfl
theorem H_sw5 (N : Nat) : ∀ (M : Nat) (rate0 : Nat) (count1 : Int) (out6n : Nat) (i7 : Int) (l0 : List Nat), lp_sw5 N M (st_sw5 rate0 count1 out6n i7 l0) (kt_sw5 N (kEnd Try.f7 0)) = mr_sw5 N (ce_sw5_0 N) M rate0 count1 out6n i7 l0 := by
  have he0 : ∀ (out6n : Nat) (l0 : List Nat), kt_sw5 N (kEnd Try.f7 0) (.exit 0) (en_sw5_0 out6n l0) = ce_sw5_0 N out6n l0 := by
    intro out6n l0
    rw [end_sw5_0]
    unfold ce_sw5_0
    cases hz1 : (decide (l0.length = out6n ∧ out6n < 2147483648))
    case true =>
      cases hz2 : (l0.all finB)
      case true =>
        all_goals rfl
      case false =>
        all_goals rfl
    case false =>
      all_goals rfl
  intro M
  induction M with
  | zero => intros; rfl
  | succ M ih =>
    intro rate0 count1 out6n i7 l0
    rw [step_sw5]
    rw [mrs_sw5]
    unfold mb_sw5
    cases hq1 : (decide ((i7 : Int) ≤ count1))
    case true =>
      cases hq2 : (apok true out6n 1 l0.length 1 (out6n + 1) 4)
      case true =>
        try dsimp only
        exact ih _ _ _ _ _
      case false =>
        all_goals rfl
    case false =>
      try dsimp only
      exact he0 _ _
noncomputable def md_sw (N : Nat) (w : Nat) (k : Int) : Option (V × H) := (match !(posB w && true) with | true => some (.tup [.a (.nil), .a (.bool false)], []) | false => (match !(inB k 1 48) with | true => some (.tup [.a (.nil), .a (.bool false)], []) | false => (mr_sw5 N (ce_sw5_0 N) N w k 0 1 ([] : List Nat))))
theorem mdl_sw (N : Nat) (w : Nat) (k : Int) : run ty tab_sw an_sw N Try.f7 [.fl .f32 w, .int .i64 k] [] = md_sw N w k := by
  rw [run_sw]
  unfold md_sw
  first | (simp only [H_sw5 N N]; done) | (simp only [H_sw5 N N]; kernel_rfl) | rfl

def o_sw (w : Nat) (k : Int) : Option (V × H) → Option (Nat × List Nat)
  | some (.tup [.a (.sl 0 0 x1), .a (.bool true)], [.at true (.fl .f32 x3)]) => match decide (True) with | true => some (x1, x3) | false => none
  | _ => none
theorem oi_sw {w : Nat} {k : Int} {o : Option (V × H)} {z : Nat × List Nat} (h : o_sw w k o = some z) : o = some (.tup [.a (.sl 0 0 z.1), .a (.bool true)], [.at true (.fl .f32 z.2)]) := by
  unfold o_sw at h
  split at h
  · split at h
    · rename_i hd
      obtain _ := of_decide_eq_true hd
      cases h
      rfl
    · cases h
  · cases h
noncomputable def d_sw (w : Nat) (k : Int) : Option (Nat × List Nat) := o_sw w k (md_sw 50 w k)
noncomputable def v_sw (w : Nat) (k : Int) : Nat × List Nat := (d_sw w k).getD (0, [])
noncomputable def g_sw : GT := fun vs h => match vs, h with
  | [.fl .f32 w, .int .i64 k], [] => .ite (d_sw w k).isSome (.ret (.tup [.a (.sl 0 0 ((v_sw w k).1)), .a (.bool true)]) [.at true (.fl .f32 ((v_sw w k).2))]) .no
  | _, _ => .no
theorem ok_sw : FnT Try.prog 7 g_sw := by
  refine fnT tabok_sw Try.func7 rfl rfl an_sw fun vs h v h' e => ⟨50, ?_⟩
  unfold g_sw at e
  split at e
  · rename_i w k
    obtain ⟨hs, e⟩ := T.pre_inv e
    obtain ⟨rfl, rfl⟩ := T.ret_inv e
    skip
    refine Eq.trans (mdl_sw 50 w k) ?_
    obtain ⟨z, hz⟩ := Option.isSome_iff_exists.mp hs
    have hv : v_sw w k = z := by unfold v_sw; rw [hz]; rfl
    rw [hv]
    exact oi_sw hz
  · exact (T.no_inv e).elim
def an_be : Ann := ⟨fun r => if r = 5 then some ([0, 1, 6, 16], [6]) else none, fun _ _ => .quiet⟩
noncomputable def tab_be : Fns := tabT [(16, gAllT posB), (18, gLsT)]
theorem tabok_be : ∀ f, FnT Try.prog f (tab_be f) := (tabT_cons (k := 16) ok_arePositive (tabT_cons (k := 18) ok_checkedNumbers tabT_nil))
def st_be5 (rate0 : Nat) (bend1 : Nat) (out6n : Nat) (t16 : Int) (l0 : List Nat) : St := ⟨(.fl .f32 rate0 :: .fl .f32 bend1 :: .any :: .any :: .any :: .any :: .sl 0 0 out6n :: (anys 9 (.int .i64 t16 :: (anys 35 [])))), [.at true (.fl .f32 l0)]⟩
abbrev kp_be5 : Option (List Nat × List Nat) := some ([0, 1, 6, 16], [6])
noncomputable def lp_be5 {R : Type} (N M : Nat) (s : St) (K : X → St → Option R) : Option R := loopH 0 kp_be5 (fun st K => exec ty tab_be an_be N 0 (atOf [true, true, true, false, true, false, false] Try.f8) st K) M s K
noncomputable def bk_be5 {R : Type} (N M : Nat) (K : X → St → Option R) : X → St → Option R := fun x st => match x with | .norm => tidyK 0 (kp_be5.map (·.1)) st fun st => lp_be5 N M st K | x => tidyK 0 (kp_be5.map (·.2)) st fun st => K x st
noncomputable def kt_be5 {R : Type} (N : Nat) (K : X → St → Option R) : X → St → Option R := kBlkR 0 (kSeqR tab_be an_be N 0 (atOf [true, true, true, true] Try.f8) (K))
def en_be5_0 (out6n : Nat) (l0 : List Nat) : St := ⟨(anys 6 (.sl 0 0 out6n :: (anys 45 []))), [.at true (.fl .f32 l0)]⟩
theorem run_be (N : Nat) (a : Nat) (b : Nat) : run ty tab_be an_be N Try.f8 [.fl .f32 a, .fl .f32 b] []
    = (match !(posB a && (posB b && true)) with | true => some (.tup [.a (.nil), .a (.bool false)], []) | false => lp_be5 N N (st_be5 a b 0 0 ([] : List Nat)) (kt_be5 N (kEnd Try.f8 0))) := by
  kernel_rfl
theorem step_be5 {R : Type} (N M : Nat) (K : X → St → Option R) (rate0 : Nat) (bend1 : Nat) (out6n : Nat) (t16 : Int) (l0 : List Nat) : lp_be5 N (M + 1) (st_be5 rate0 bend1 out6n t16 l0) K
    = (match decide ((t16 : Int) < 48) with | true => (match decide ((t16 : Int) > 0) with | true => (match decide (0 ≤ (IntKind.i64.wrap (t16 - 1) : Int) ∧ (IntKind.i64.wrap (t16 - 1) : Int) < ((out6n : Nat) : Int)) with | true => (match l0[0 + (IntKind.i64.wrap (t16 - 1)).toNat * 1]? with | some e1 => (match !(gtB (fop .sub .f32 (fop .mul .f32 rate0 (fop .add .f32 (floatOfInt .f32 t16) 1056964608)) (fop .mul .f32 (fop .mul .f32 bend1 (fop .add .f32 (floatOfInt .f32 t16) 1056964608)) (fop .add .f32 (floatOfInt .f32 t16) 1056964608))) e1) with | true => K (.exit 0) (en_be5_0 out6n l0) | false => (match apok true out6n 1 l0.length 1 (out6n + 1) 4 with | true => lp_be5 N M (st_be5 rate0 bend1 (out6n + 1) (IntKind.i64.wrap (t16 + 1)) (l0 ++ [fop .sub .f32 (fop .mul .f32 rate0 (fop .add .f32 (floatOfInt .f32 t16) 1056964608)) (fop .mul .f32 (fop .mul .f32 bend1 (fop .add .f32 (floatOfInt .f32 t16) 1056964608)) (fop .add .f32 (floatOfInt .f32 t16) 1056964608))])) K | false => none)) | none => none) | false => none) | false => (match apok true out6n 1 l0.length 1 (out6n + 1) 4 with | true => lp_be5 N M (st_be5 rate0 bend1 (out6n + 1) (IntKind.i64.wrap (t16 + 1)) (l0 ++ [fop .sub .f32 (fop .mul .f32 rate0 (fop .add .f32 (floatOfInt .f32 t16) 1056964608)) (fop .mul .f32 (fop .mul .f32 bend1 (fop .add .f32 (floatOfInt .f32 t16) 1056964608)) (fop .add .f32 (floatOfInt .f32 t16) 1056964608))])) K | false => none)) | false => K (.exit 0) (en_be5_0 out6n l0)) := by
  kernel_rfl
theorem end_be5_0 (N : Nat) (out6n : Nat) (l0 : List Nat) : kt_be5 N (kEnd Try.f8 0) (.exit 0) (en_be5_0 out6n l0)
    = (match decide (l0.length = out6n ∧ out6n < 2147483648) with | true => (match l0.all finB with | true => some (.tup [.a (.sl 0 0 out6n), .a (.bool true)], [.at true (.fl .f32 l0)]) | false => some (.tup [.a (.nil), .a (.bool false)], [])) | false => none) := by
  kernel_rfl

noncomputable def ce_be5_0 (N : Nat) (out6n : Nat) (l0 : List Nat) : Option (V × H) := (match decide (l0.length = out6n ∧ out6n < 2147483648) with | true => (match l0.all finB with | true => some (.tup [.a (.sl 0 0 out6n), .a (.bool true)], [.at true (.fl .f32 l0)]) | false => some (.tup [.a (.nil), .a (.bool false)], [])) | false => none)
noncomputable def mb_be5 (N : Nat) (k0 : Nat → List Nat → Option (V × H)) (rq : Nat → Nat → Nat → Int → List Nat → Option (V × H)) : Nat → Nat → Nat → Int → List Nat → Option (V × H) := fun (rate0 : Nat) (bend1 : Nat) (out6n : Nat) (t16 : Int) (l0 : List Nat) => (match decide ((t16 : Int) < 48) with | true => (match decide ((t16 : Int) > 0) with | true => (match decide (0 ≤ (IntKind.i64.wrap (t16 - 1) : Int) ∧ (IntKind.i64.wrap (t16 - 1) : Int) < ((out6n : Nat) : Int)) with | true => (match l0[0 + (IntKind.i64.wrap (t16 - 1)).toNat * 1]? with | some e1 => (match !(gtB (fop .sub .f32 (fop .mul .f32 rate0 (fop .add .f32 (floatOfInt .f32 t16) 1056964608)) (fop .mul .f32 (fop .mul .f32 bend1 (fop .add .f32 (floatOfInt .f32 t16) 1056964608)) (fop .add .f32 (floatOfInt .f32 t16) 1056964608))) e1) with | true => (k0 out6n l0) | false => (match apok true out6n 1 l0.length 1 (out6n + 1) 4 with | true => (rq rate0 bend1 (out6n + 1) (IntKind.i64.wrap (t16 + 1)) (l0 ++ [fop .sub .f32 (fop .mul .f32 rate0 (fop .add .f32 (floatOfInt .f32 t16) 1056964608)) (fop .mul .f32 (fop .mul .f32 bend1 (fop .add .f32 (floatOfInt .f32 t16) 1056964608)) (fop .add .f32 (floatOfInt .f32 t16) 1056964608))])) | false => none)) | none => none) | false => none) | false => (match apok true out6n 1 l0.length 1 (out6n + 1) 4 with | true => (rq rate0 bend1 (out6n + 1) (IntKind.i64.wrap (t16 + 1)) (l0 ++ [fop .sub .f32 (fop .mul .f32 rate0 (fop .add .f32 (floatOfInt .f32 t16) 1056964608)) (fop .mul .f32 (fop .mul .f32 bend1 (fop .add .f32 (floatOfInt .f32 t16) 1056964608)) (fop .add .f32 (floatOfInt .f32 t16) 1056964608))])) | false => none)) | false => (k0 out6n l0))
noncomputable def mr_be5 (N : Nat) (k0 : Nat → List Nat → Option (V × H)) (M : Nat) : Nat → Nat → Nat → Int → List Nat → Option (V × H) := Nat.rec (motive := fun _ => Nat → Nat → Nat → Int → List Nat → Option (V × H)) (fun (_ : Nat) (_ : Nat) (_ : Nat) (_ : Int) (_ : List Nat) => none) (fun _ rq => mb_be5 N k0 rq) M
theorem mrs_be5 (N : Nat) (k0 : Nat → List Nat → Option (V × H)) (M : Nat) (rate0 : Nat) (bend1 : Nat) (out6n : Nat) (t16 : Int) (l0 : List Nat) : mr_be5 N k0 (M + 1) rate0 bend1 out6n t16 l0 = mb_be5 N k0 (mr_be5 N k0 M) rate0 bend1 out6n t16 l0 := rfl
theorem H_be5 (N : Nat) : ∀ (M : Nat) (rate0 : Nat) (bend1 : Nat) (out6n : Nat) (t16 : Int) (l0 : List Nat), lp_be5 N M (st_be5 rate0 bend1 out6n t16 l0) (kt_be5 N (kEnd Try.f8 0)) = mr_be5 N (ce_be5_0 N) M rate0 bend1 out6n t16 l0 := by
  have he0 : ∀ (out6n : Nat) (l0 : List Nat), kt_be5 N (kEnd Try.f8 0) (.exit 0) (en_be5_0 out6n l0) = ce_be5_0 N out6n l0 := by
    intro out6n l0
    rw [end_be5_0]
    unfold ce_be5_0
    cases hz1 : (decide (l0.length = out6n ∧ out6n < 2147483648))
    case true =>
      cases hz2 : (l0.all finB)
      case true =>
        all_goals rfl
      case false =>
        all_goals rfl
    case false =>
      all_goals rfl
  intro M
  induction M with
  | zero => intros; rfl
  | succ M ih =>
    intro rate0 bend1 out6n t16 l0
    rw [step_be5]
    rw [mrs_be5]
    unfold mb_be5
    cases hq1 : (decide ((t16 : Int) < 48))
    case true =>
      cases hq2 : (decide ((t16 : Int) > 0))
      case true =>
        cases hq3 : (decide (0 ≤ (IntKind.i64.wrap (t16 - 1) : Int) ∧ (IntKind.i64.wrap (t16 - 1) : Int) < ((out6n : Nat) : Int)))
        case true =>
          cases hq4 : (l0[0 + (IntKind.i64.wrap (t16 - 1)).toNat * 1]?)
          case none =>
            rfl
          case some e1 =>
            try dsimp only
            cases hq5 : (!(gtB (fop .sub .f32 (fop .mul .f32 rate0 (fop .add .f32 (floatOfInt .f32 t16) 1056964608)) (fop .mul .f32 (fop .mul .f32 bend1 (fop .add .f32 (floatOfInt .f32 t16) 1056964608)) (fop .add .f32 (floatOfInt .f32 t16) 1056964608))) e1))
            case true =>
              try dsimp only
              exact he0 _ _
            case false =>
              cases hq6 : (apok true out6n 1 l0.length 1 (out6n + 1) 4)
              case true =>
                try dsimp only
                exact ih _ _ _ _ _
              case false =>
                all_goals rfl
        case false =>
          all_goals rfl
      case false =>
        cases hq7 : (apok true out6n 1 l0.length 1 (out6n + 1) 4)
        case true =>
          try dsimp only
          exact ih _ _ _ _ _
        case false =>
          all_goals rfl
    case false =>
      try dsimp only
      exact he0 _ _
noncomputable def md_be (N : Nat) (a : Nat) (b : Nat) : Option (V × H) := (match !(posB a && (posB b && true)) with | true => some (.tup [.a (.nil), .a (.bool false)], []) | false => (mr_be5 N (ce_be5_0 N) N a b 0 0 ([] : List Nat)))
theorem mdl_be (N : Nat) (a : Nat) (b : Nat) : run ty tab_be an_be N Try.f8 [.fl .f32 a, .fl .f32 b] [] = md_be N a b := by
  rw [run_be]
  unfold md_be
  first | (simp only [H_be5 N N]; done) | (simp only [H_be5 N N]; kernel_rfl) | rfl

def o_be (a : Nat) (b : Nat) : Option (V × H) → Option (Nat × List Nat)
  | some (.tup [.a (.sl 0 0 x1), .a (.bool true)], [.at true (.fl .f32 x3)]) => match decide (True) with | true => some (x1, x3) | false => none
  | _ => none
theorem oi_be {a : Nat} {b : Nat} {o : Option (V × H)} {z : Nat × List Nat} (h : o_be a b o = some z) : o = some (.tup [.a (.sl 0 0 z.1), .a (.bool true)], [.at true (.fl .f32 z.2)]) := by
  unfold o_be at h
  split at h
  · split at h
    · rename_i hd
      obtain _ := of_decide_eq_true hd
      cases h
      rfl
    · cases h
  · cases h
noncomputable def d_be (a : Nat) (b : Nat) : Option (Nat × List Nat) := o_be a b (md_be 50 a b)
noncomputable def v_be (a : Nat) (b : Nat) : Nat × List Nat := (d_be a b).getD (0, [])
noncomputable def g_be : GT := fun vs h => match vs, h with
  | [.fl .f32 a, .fl .f32 b], [] => .ite (d_be a b).isSome (.ret (.tup [.a (.sl 0 0 ((v_be a b).1)), .a (.bool true)]) [.at true (.fl .f32 ((v_be a b).2))]) .no
  | _, _ => .no
theorem ok_be : FnT Try.prog 8 g_be := by
  refine fnT tabok_be Try.func8 rfl rfl an_be fun vs h v h' e => ⟨50, ?_⟩
  unfold g_be at e
  split at e
  · rename_i a b
    obtain ⟨hs, e⟩ := T.pre_inv e
    obtain ⟨rfl, rfl⟩ := T.ret_inv e
    skip
    refine Eq.trans (mdl_be 50 a b) ?_
    obtain ⟨z, hz⟩ := Option.isSome_iff_exists.mp hs
    have hv : v_be a b = z := by unfold v_be; rw [hz]; rfl
    rw [hv]
    exact oi_be hz
  · exact (T.no_inv e).elim
noncomputable def tab_wc : Fns := tabT [(16, gAllT posB), (11, gT gRoot), (19, (gInteg .up))]
theorem tabok_wc : ∀ f, FnT Try.prog f (tab_wc f) := (tabT_cons (k := 16) ok_arePositive (tabT_cons (k := 11) ok_RootNumber (tabT_cons (k := 19) ok_mCeil tabT_nil)))
theorem run_wc (N : Nat) (a : Nat) (b : Nat) : run ty tab_wc ann0 N Try.f10 [.fl .f32 a, .fl .f32 b] []
    = (match !(posB a && (posB b && true)) with | true => some (.tup [.a (.int .i64 0), .a (.bool false)], []) | false => (match !(ltB (fop .quo .f32 (fop .mul .f32 a (rootF b)) 1078530011) 1148846080 || eqB (fop .quo .f32 (fop .mul .f32 a (rootF b)) 1078530011) 1148846080) with | true => some (.tup [.a (.int .i64 0), .a (.bool false)], []) | false => (match fconv .f32 (fop .quo .f32 (fop .mul .f32 a (rootF b)) 1078530011) .f64 with | some c1 => (match floatToIntVal .f64 (integD .up c1) .i64 with | some n2 => some (.tup [.a (.int .i64 n2), .a (.bool true)], []) | none => none) | none => none))) := by
  kernel_rfl

noncomputable def md_wc (N : Nat) (a : Nat) (b : Nat) : Option (V × H) := (match !(posB a && (posB b && true)) with | true => some (.tup [.a (.int .i64 0), .a (.bool false)], []) | false => (match !(ltB (fop .quo .f32 (fop .mul .f32 a (rootF b)) 1078530011) 1148846080 || eqB (fop .quo .f32 (fop .mul .f32 a (rootF b)) 1078530011) 1148846080) with | true => some (.tup [.a (.int .i64 0), .a (.bool false)], []) | false => (match fconv .f32 (fop .quo .f32 (fop .mul .f32 a (rootF b)) 1078530011) .f64 with | some c1 => (match floatToIntVal .f64 (integD .up c1) .i64 with | some n2 => some (.tup [.a (.int .i64 n2), .a (.bool true)], []) | none => none) | none => none)))
theorem mdl_wc (N : Nat) (a : Nat) (b : Nat) : run ty tab_wc ann0 N Try.f10 [.fl .f32 a, .fl .f32 b] [] = md_wc N a b := by
  rw [run_wc]
  unfold md_wc
  first | (simp only [eq_self]; done) | (simp only [eq_self]; kernel_rfl) | rfl

def o_wc (a : Nat) (b : Nat) : Option (V × H) → Option (Int × Bool)
  | some (.tup [.a (.int .i64 x0), .a (.bool x1)], []) => match decide (True) with | true => some (x0, x1) | false => none
  | _ => none
theorem oi_wc {a : Nat} {b : Nat} {o : Option (V × H)} {z : Int × Bool} (h : o_wc a b o = some z) : o = some (.tup [.a (.int .i64 z.1), .a (.bool z.2)], []) := by
  unfold o_wc at h
  split at h
  · split at h
    · rename_i hd
      obtain _ := of_decide_eq_true hd
      cases h
      rfl
    · cases h
  · cases h
noncomputable def d_wc (a : Nat) (b : Nat) : Option (Int × Bool) := o_wc a b (md_wc 50 a b)
noncomputable def v_wc (a : Nat) (b : Nat) : Int × Bool := (d_wc a b).getD (0, false)
noncomputable def g_wc : GT := fun vs h => match vs, h with
  | [.fl .f32 a, .fl .f32 b], [] => .ite (d_wc a b).isSome (.ret (.tup [.a (.int .i64 ((v_wc a b).1)), .a (.bool ((v_wc a b).2))]) []) .no
  | _, _ => .no
theorem ok_wc : FnT Try.prog 10 g_wc := by
  refine fnT tabok_wc Try.func10 rfl rfl ann0 fun vs h v h' e => ⟨50, ?_⟩
  unfold g_wc at e
  split at e
  · rename_i a b
    obtain ⟨hs, e⟩ := T.pre_inv e
    obtain ⟨rfl, rfl⟩ := T.ret_inv e
    skip
    refine Eq.trans (mdl_wc 50 a b) ?_
    obtain ⟨z, hz⟩ := Option.isSome_iff_exists.mp hs
    have hv : v_wc a b = z := by unfold v_wc; rw [hz]; rfl
    rw [hv]
    exact oi_wc hz
  · exact (T.no_inv e).elim
end Go.Proofs.Ytlopdogjdfeikaa.Ab
