/- The small helpers: what they compute. Only lemmas. Printed by lib.py. -/
import Derived.Test.YtlopdogjdfeikaaBase
namespace Go.Proofs.Ytlopdogjdfeikaa.Ab
set_option linter.unusedVariables false
set_option linter.unusedSimpArgs false
open Go
def tab_IsFinite : Fns := tabT []
theorem tabok_IsFinite : ∀ f, FnT Try.prog f (tab_IsFinite f) := tabT_nil
theorem run_IsFinite (N : Nat) (x : Nat) : run ty tab_IsFinite ann0 N Try.f24 [.fl .f32 x] []
    = some (.bool (eqB (fop .sub .f32 x x) 0), []) := by
  kernel_rfl

theorem ok_IsFinite : FnT Try.prog 24 (gT (gF1 finB)) := by
  refine fnT tabok_IsFinite Try.func24 rfl rfl ann0 fun vs h v h' e => ⟨0, ?_⟩
  rw [T.run_of] at e
  unfold gF1 at e
  split at e
  case h_2 => cases e
  rename_i x
  cases e
  refine Eq.trans (run_IsFinite 0 x) ?_
  rfl
def inB (n lo hi : Int) : Bool := decide (n ≥ lo) && decide (n ≤ hi)
def gIn : G := fun vs h => match vs, h with | [.int .i64 n, .int .i64 a, .int .i64 b], [] => some (.bool (inB n a b), []) | _, _ => none

def tab_within : Fns := tabT []
theorem tabok_within : ∀ f, FnT Try.prog f (tab_within f) := tabT_nil
theorem run_within (N : Nat) (n : Int) (a : Int) (b : Int) : run ty tab_within ann0 N Try.f17 [.int .i64 n, .int .i64 a, .int .i64 b] []
    = (match decide ((n : Int) ≥ a) with | true => some (.bool (decide ((n : Int) ≤ b)), []) | false => some (.bool false, [])) := by
  kernel_rfl

theorem ok_within : FnT Try.prog 17 (gT gIn) := by
  refine fnT tabok_within Try.func17 rfl rfl ann0 fun vs h v h' e => ⟨0, ?_⟩
  rw [T.run_of] at e
  unfold gIn at e
  split at e
  case h_2 => cases e
  rename_i n a b
  cases e
  refine Eq.trans (run_within 0 n a b) ?_
  unfold inB
  cases decide (n ≥ a) <;> rfl
def gIxT (f : FuncId) (p : Nat → Bool) : GT := fun vs h => match vs, h with
  | [.sl 0 0 n, .fn f'], [.at rw (.fl .f32 l)] => if f' = f then .ite (decide (l.length = n ∧ n < 2147483648)) (.ret (.int .i64 (ixOf p l)) [.at rw (.fl .f32 l)]) .no else .no
  | [.nil, .fn f'], [] => if f' = f then .ret (.int .i64 (-1)) [] else .no
  | _, _ => .no
def gCoT (f : FuncId) (p : Nat → Bool) : GT := fun vs h => match vs, h with
  | [.sl 0 0 n, .fn f'], [.at rw (.fl .f32 l)] => if f' = f then .ite (decide (l.length = n ∧ n < 2147483648)) (.ret (.bool (decide (ixOf p l ≥ 0))) [.at rw (.fl .f32 l)]) .no else .no
  | [.nil, .fn f'], [] => if f' = f then .ret (.bool false) [] else .no
  | _, _ => .no
def gAllT (p : Nat → Bool) : GT := fun vs h => match vs, h with
  | [.sl 0 0 n], [.at rw (.fl .f32 l)] => .ite (decide (l.length = n ∧ n < 2147483648)) (.ret (.bool (l.all p)) [.at rw (.fl .f32 l)]) .no
  | [.nil], [] => .ret (.bool true) []
  | _, _ => .no

def tab_fin1 : Fns := tabT [(24, gT (gF1 finB))]
theorem tabok_fin1 : ∀ f, FnT Try.prog f (tab_fin1 f) := (tabT_cons (k := 24) ok_IsFinite tabT_nil)
theorem run_fin1 (N : Nat) (x : Nat) : run ty tab_fin1 ann0 N Try.f39 [.fl .f32 x] []
    = some (.bool (!(finB x)), []) := by
  kernel_rfl

theorem ok_fin1 : FnT Try.prog 39 (gT (gF1 (fun x => !finB x))) := by
  refine fnT tabok_fin1 Try.func39 rfl rfl ann0 fun vs h v h' e => ⟨0, ?_⟩
  rw [T.run_of] at e
  unfold gF1 at e
  split at e
  case h_2 => cases e
  rename_i x
  cases e
  refine Eq.trans (run_fin1 0 x) ?_
  show _ = some (V.bool (!finB x), [])
  rfl
def an_ixfin : Ann := ⟨fun r => if r = 2 then some ([0, 1, 7, 8], [4]) else none, fun _ _ => .quiet⟩
def tab_ixfin : Fns := tabT [(39, gT (gF1 (fun x => !finB x)))]
theorem tabok_ixfin : ∀ f, FnT Try.prog f (tab_ixfin f) := (tabT_cons (k := 39) ok_fin1 tabT_nil)
def st_ixfin2 (s0n : Nat) (t7 : Int) (t8 : Int) (rw0 : Bool) (l0 : List Nat) : St := ⟨(.sl 0 0 s0n :: .fn 39 :: .any :: .any :: .any :: .any :: .any :: .int .i64 t7 :: .int .i64 t8 :: (anys 10 [])), [.at rw0 (.fl .f32 l0)]⟩
abbrev kp_ixfin2 : Option (List Nat × List Nat) := some ([0, 1, 7, 8], [4])
noncomputable def lp_ixfin2 {R : Type} (N M : Nat) (s : St) (K : X → St → Option R) : Option R := loopH 1 kp_ixfin2 (fun st K => exec ty tab_ixfin an_ixfin N 1 (atOf [true, false, true, false, false] Try.f41) st K) M s K
noncomputable def bk_ixfin2 {R : Type} (N M : Nat) (K : X → St → Option R) : X → St → Option R := fun x st => match x with | .norm => tidyK 1 (kp_ixfin2.map (·.1)) st fun st => lp_ixfin2 N M st K | x => tidyK 1 (kp_ixfin2.map (·.2)) st fun st => K x st
noncomputable def kt_ixfin2 {R : Type} (N : Nat) (K : X → St → Option R) : X → St → Option R := kBlkR 0 (kSeqR tab_ixfin an_ixfin N 1 (atOf [true, true] Try.f41) (K))
def en_ixfin2_0 (t4 : Int) (rw0 : Bool) (l0 : List Nat) : St := ⟨(.any :: .any :: .any :: .any :: .int .i64 t4 :: (anys 14 [])), [.at rw0 (.fl .f32 l0)]⟩
def en_ixfin2_1 (rw0 : Bool) (l0 : List Nat) : St := ⟨(anys 19 []), [.at rw0 (.fl .f32 l0)]⟩
theorem run_ixfin (N : Nat) (n : Nat) (rw : Bool) (l : List Nat) : run ty tab_ixfin an_ixfin N Try.f41 [.sl 0 0 n, .fn 39] [.at rw (.fl .f32 l)]
    = lp_ixfin2 N N (st_ixfin2 n ((n : Nat) : Int) 0 rw l) (kt_ixfin2 N (kEnd Try.f41 1)) := by
  kernel_rfl
theorem step_ixfin2 {R : Type} (N M : Nat) (K : X → St → Option R) (s0n : Nat) (t7 : Int) (t8 : Int) (rw0 : Bool) (l0 : List Nat) : lp_ixfin2 N (M + 1) (st_ixfin2 s0n t7 t8 rw0 l0) K
    = (match decide ((t8 : Int) < t7) with | true => (match decide (0 ≤ (t8 : Int) ∧ (t8 : Int) < ((s0n : Nat) : Int)) with | true => (match l0[0 + (t8).toNat * 1]? with | some e1 => (match !finB e1 with | true => K .ret (en_ixfin2_0 t8 rw0 l0) | false => lp_ixfin2 N M (st_ixfin2 s0n t7 (IntKind.i64.wrap (t8 + 1)) rw0 l0) K) | none => none) | false => none) | false => K (.exit 0) (en_ixfin2_1 rw0 l0)) := by
  kernel_rfl
theorem end_ixfin2_0 (N : Nat) (t4 : Int) (rw0 : Bool) (l0 : List Nat) : kt_ixfin2 N (kEnd Try.f41 1) .ret (en_ixfin2_0 t4 rw0 l0)
    = some (.int .i64 t4, [.at rw0 (.fl .f32 l0)]) := by
  kernel_rfl
theorem end_ixfin2_1 (N : Nat) (rw0 : Bool) (l0 : List Nat) : kt_ixfin2 N (kEnd Try.f41 1) (.exit 0) (en_ixfin2_1 rw0 l0)
    = some (.int .i64 (-1), [.at rw0 (.fl .f32 l0)]) := by
  kernel_rfl

theorem ok_ixfin : FnT Try.prog 41 (gIxT 39 (fun x => !finB x)) := by
  refine fnT tabok_ixfin Try.func41 rfl rfl an_ixfin fun vs h v h' e => ?_
  unfold gIxT at e
  split at e
  · rename_i n f' rw l
    split at e
    · rename_i hf
      subst hf
      obtain ⟨hd, e⟩ := T.pre_inv e
      obtain ⟨rfl, rfl⟩ := T.ret_inv e
      obtain ⟨rfl, hb⟩ := of_decide_eq_true hd
      refine ⟨l.length + 1, Eq.trans (run_ixfin _ _ _ _) ?_⟩
      refine Eq.trans (scan0 l (fun x => !finB x) (fun M i => lp_ixfin2 (l.length + 1) M (st_ixfin2 l.length ((l.length : Nat) : Int) i rw l) (kt_ixfin2 (l.length + 1) (kEnd Try.f41 1))) (fun j => some (.int .i64 (j : Int), [.at rw (.fl .f32 l)])) (some (.int .i64 (-1), [.at rw (.fl .f32 l)])) (fun M i x hx => ?_) (fun M => ?_)) ?_
      · have hi := lt_of_get hx
        simp only [step_ixfin2, dlt hi, din hi, ix, hx, wr (show i < 2147483648 by omega), end_ixfin2_0] <;> (cases !finB x <;> rfl)
      · simp only [step_ixfin2, dge (Nat.le_refl _), end_ixfin2_1]
      · unfold ixOf
        cases firstIx (fun x => !finB x) l 0 <;> rfl
    · exact (T.no_inv e).elim
  · split at e
    · rename_i hf
      subst hf
      obtain ⟨rfl, rfl⟩ := T.ret_inv e
      exact ⟨1, by kernel_rfl⟩
    · exact (T.no_inv e).elim
  · exact (T.no_inv e).elim
def tab_cofin : Fns := tabT [(41, gIxT 39 (fun x => !finB x))]
theorem tabok_cofin : ∀ f, FnT Try.prog f (tab_cofin f) := (tabT_cons (k := 41) ok_ixfin tabT_nil)
theorem run_cofin (N : Nat) (n : Nat) (rw : Bool) (l : List Nat) : run ty tab_cofin ann0 N Try.f33 [.sl 0 0 n, .fn 39] [.at rw (.fl .f32 l)]
    = (match decide (l.length = n ∧ n < 2147483648) with | true => some (.bool (decide ((ixOf (fun x => !finB x) l : Int) ≥ 0)), [.at rw (.fl .f32 l)]) | false => none) := by
  kernel_rfl

theorem ok_cofin : FnT Try.prog 33 (gCoT 39 (fun x => !finB x)) := by
  refine fnT tabok_cofin Try.func33 rfl rfl ann0 fun vs h v h' e => ⟨0, ?_⟩
  unfold gCoT at e
  split at e
  · split at e
    · rename_i n f' rw l hf
      subst hf
      obtain ⟨hd, e⟩ := T.pre_inv e
      obtain ⟨rfl, rfl⟩ := T.ret_inv e
      refine Eq.trans (run_cofin 0 _ _ _) ?_
      rw [hd]
    · exact (T.no_inv e).elim
  · split at e
    · rename_i hf
      subst hf
      obtain ⟨rfl, rfl⟩ := T.ret_inv e
      kernel_rfl
    · exact (T.no_inv e).elim
  · exact (T.no_inv e).elim
def tab_areFinite : Fns := tabT [(33, gCoT 39 (fun x => !finB x))]
theorem tabok_areFinite : ∀ f, FnT Try.prog f (tab_areFinite f) := (tabT_cons (k := 33) ok_cofin tabT_nil)
theorem run_areFinite (N : Nat) (n : Nat) (rw : Bool) (l : List Nat) : run ty tab_areFinite ann0 N Try.f22 [.sl 0 0 n] [.at rw (.fl .f32 l)]
    = (match decide (l.length = n ∧ n < 2147483648) with | true => some (.bool (!(decide (ixOf (fun x => !finB x) l ≥ 0))), [.at rw (.fl .f32 l)]) | false => none) := by
  kernel_rfl

theorem ok_areFinite : FnT Try.prog 22 (gAllT finB) := by
  refine fnT tabok_areFinite Try.func22 rfl rfl ann0 fun vs h v h' e => ⟨0, ?_⟩
  unfold gAllT at e
  split at e
  · obtain ⟨hd, e⟩ := T.pre_inv e
    obtain ⟨rfl, rfl⟩ := T.ret_inv e
    refine Eq.trans (run_areFinite 0 _ _ _) ?_
    rw [hd, ← ix_all finB]
  · obtain ⟨rfl, rfl⟩ := T.ret_inv e
    kernel_rfl
  · exact (T.no_inv e).elim
def tab_pos1 : Fns := tabT [(24, gT (gF1 finB))]
theorem tabok_pos1 : ∀ f, FnT Try.prog f (tab_pos1 f) := (tabT_cons (k := 24) ok_IsFinite tabT_nil)
theorem run_pos1 (N : Nat) (x : Nat) : run ty tab_pos1 ann0 N Try.f34 [.fl .f32 x] []
    = (match !(finB x) with | true => some (.bool true, []) | false => some (.bool (ltB x 0 || eqB x 0), [])) := by
  kernel_rfl

theorem ok_pos1 : FnT Try.prog 34 (gT (gF1 (fun x => !posB x))) := by
  refine fnT tabok_pos1 Try.func34 rfl rfl ann0 fun vs h v h' e => ⟨0, ?_⟩
  rw [T.run_of] at e
  unfold gF1 at e
  split at e
  case h_2 => cases e
  rename_i x
  cases e
  refine Eq.trans (run_pos1 0 x) ?_
  show _ = some (V.bool (!posB x), [])
  rw [← not_pos]
  cases finB x <;> rfl
def an_ixpos : Ann := ⟨fun r => if r = 2 then some ([0, 1, 7, 8], [4]) else none, fun _ _ => .quiet⟩
def tab_ixpos : Fns := tabT [(34, gT (gF1 (fun x => !posB x)))]
theorem tabok_ixpos : ∀ f, FnT Try.prog f (tab_ixpos f) := (tabT_cons (k := 34) ok_pos1 tabT_nil)
def st_ixpos2 (s0n : Nat) (t7 : Int) (t8 : Int) (rw0 : Bool) (l0 : List Nat) : St := ⟨(.sl 0 0 s0n :: .fn 34 :: .any :: .any :: .any :: .any :: .any :: .int .i64 t7 :: .int .i64 t8 :: (anys 10 [])), [.at rw0 (.fl .f32 l0)]⟩
abbrev kp_ixpos2 : Option (List Nat × List Nat) := some ([0, 1, 7, 8], [4])
noncomputable def lp_ixpos2 {R : Type} (N M : Nat) (s : St) (K : X → St → Option R) : Option R := loopH 1 kp_ixpos2 (fun st K => exec ty tab_ixpos an_ixpos N 1 (atOf [true, false, true, false, false] Try.f41) st K) M s K
noncomputable def bk_ixpos2 {R : Type} (N M : Nat) (K : X → St → Option R) : X → St → Option R := fun x st => match x with | .norm => tidyK 1 (kp_ixpos2.map (·.1)) st fun st => lp_ixpos2 N M st K | x => tidyK 1 (kp_ixpos2.map (·.2)) st fun st => K x st
noncomputable def kt_ixpos2 {R : Type} (N : Nat) (K : X → St → Option R) : X → St → Option R := kBlkR 0 (kSeqR tab_ixpos an_ixpos N 1 (atOf [true, true] Try.f41) (K))
def en_ixpos2_0 (t4 : Int) (rw0 : Bool) (l0 : List Nat) : St := ⟨(.any :: .any :: .any :: .any :: .int .i64 t4 :: (anys 14 [])), [.at rw0 (.fl .f32 l0)]⟩
def en_ixpos2_1 (rw0 : Bool) (l0 : List Nat) : St := ⟨(anys 19 []), [.at rw0 (.fl .f32 l0)]⟩
theorem run_ixpos (N : Nat) (n : Nat) (rw : Bool) (l : List Nat) : run ty tab_ixpos an_ixpos N Try.f41 [.sl 0 0 n, .fn 34] [.at rw (.fl .f32 l)]
    = lp_ixpos2 N N (st_ixpos2 n ((n : Nat) : Int) 0 rw l) (kt_ixpos2 N (kEnd Try.f41 1)) := by
  kernel_rfl
theorem step_ixpos2 {R : Type} (N M : Nat) (K : X → St → Option R) (s0n : Nat) (t7 : Int) (t8 : Int) (rw0 : Bool) (l0 : List Nat) : lp_ixpos2 N (M + 1) (st_ixpos2 s0n t7 t8 rw0 l0) K
    = (match decide ((t8 : Int) < t7) with | true => (match decide (0 ≤ (t8 : Int) ∧ (t8 : Int) < ((s0n : Nat) : Int)) with | true => (match l0[0 + (t8).toNat * 1]? with | some e1 => (match !posB e1 with | true => K .ret (en_ixpos2_0 t8 rw0 l0) | false => lp_ixpos2 N M (st_ixpos2 s0n t7 (IntKind.i64.wrap (t8 + 1)) rw0 l0) K) | none => none) | false => none) | false => K (.exit 0) (en_ixpos2_1 rw0 l0)) := by
  kernel_rfl
theorem end_ixpos2_0 (N : Nat) (t4 : Int) (rw0 : Bool) (l0 : List Nat) : kt_ixpos2 N (kEnd Try.f41 1) .ret (en_ixpos2_0 t4 rw0 l0)
    = some (.int .i64 t4, [.at rw0 (.fl .f32 l0)]) := by
  kernel_rfl
theorem end_ixpos2_1 (N : Nat) (rw0 : Bool) (l0 : List Nat) : kt_ixpos2 N (kEnd Try.f41 1) (.exit 0) (en_ixpos2_1 rw0 l0)
    = some (.int .i64 (-1), [.at rw0 (.fl .f32 l0)]) := by
  kernel_rfl

theorem ok_ixpos : FnT Try.prog 41 (gIxT 34 (fun x => !posB x)) := by
  refine fnT tabok_ixpos Try.func41 rfl rfl an_ixpos fun vs h v h' e => ?_
  unfold gIxT at e
  split at e
  · rename_i n f' rw l
    split at e
    · rename_i hf
      subst hf
      obtain ⟨hd, e⟩ := T.pre_inv e
      obtain ⟨rfl, rfl⟩ := T.ret_inv e
      obtain ⟨rfl, hb⟩ := of_decide_eq_true hd
      refine ⟨l.length + 1, Eq.trans (run_ixpos _ _ _ _) ?_⟩
      refine Eq.trans (scan0 l (fun x => !posB x) (fun M i => lp_ixpos2 (l.length + 1) M (st_ixpos2 l.length ((l.length : Nat) : Int) i rw l) (kt_ixpos2 (l.length + 1) (kEnd Try.f41 1))) (fun j => some (.int .i64 (j : Int), [.at rw (.fl .f32 l)])) (some (.int .i64 (-1), [.at rw (.fl .f32 l)])) (fun M i x hx => ?_) (fun M => ?_)) ?_
      · have hi := lt_of_get hx
        simp only [step_ixpos2, dlt hi, din hi, ix, hx, wr (show i < 2147483648 by omega), end_ixpos2_0] <;> (cases !posB x <;> rfl)
      · simp only [step_ixpos2, dge (Nat.le_refl _), end_ixpos2_1]
      · unfold ixOf
        cases firstIx (fun x => !posB x) l 0 <;> rfl
    · exact (T.no_inv e).elim
  · split at e
    · rename_i hf
      subst hf
      obtain ⟨rfl, rfl⟩ := T.ret_inv e
      exact ⟨1, by kernel_rfl⟩
    · exact (T.no_inv e).elim
  · exact (T.no_inv e).elim
def tab_copos : Fns := tabT [(41, gIxT 34 (fun x => !posB x))]
theorem tabok_copos : ∀ f, FnT Try.prog f (tab_copos f) := (tabT_cons (k := 41) ok_ixpos tabT_nil)
theorem run_copos (N : Nat) (n : Nat) (rw : Bool) (l : List Nat) : run ty tab_copos ann0 N Try.f33 [.sl 0 0 n, .fn 34] [.at rw (.fl .f32 l)]
    = (match decide (l.length = n ∧ n < 2147483648) with | true => some (.bool (decide ((ixOf (fun x => !posB x) l : Int) ≥ 0)), [.at rw (.fl .f32 l)]) | false => none) := by
  kernel_rfl

theorem ok_copos : FnT Try.prog 33 (gCoT 34 (fun x => !posB x)) := by
  refine fnT tabok_copos Try.func33 rfl rfl ann0 fun vs h v h' e => ⟨0, ?_⟩
  unfold gCoT at e
  split at e
  · split at e
    · rename_i n f' rw l hf
      subst hf
      obtain ⟨hd, e⟩ := T.pre_inv e
      obtain ⟨rfl, rfl⟩ := T.ret_inv e
      refine Eq.trans (run_copos 0 _ _ _) ?_
      rw [hd]
    · exact (T.no_inv e).elim
  · split at e
    · rename_i hf
      subst hf
      obtain ⟨rfl, rfl⟩ := T.ret_inv e
      kernel_rfl
    · exact (T.no_inv e).elim
  · exact (T.no_inv e).elim
def tab_arePositive : Fns := tabT [(33, gCoT 34 (fun x => !posB x))]
theorem tabok_arePositive : ∀ f, FnT Try.prog f (tab_arePositive f) := (tabT_cons (k := 33) ok_copos tabT_nil)
theorem run_arePositive (N : Nat) (n : Nat) (rw : Bool) (l : List Nat) : run ty tab_arePositive ann0 N Try.f16 [.sl 0 0 n] [.at rw (.fl .f32 l)]
    = (match decide (l.length = n ∧ n < 2147483648) with | true => some (.bool (!(decide (ixOf (fun x => !posB x) l ≥ 0))), [.at rw (.fl .f32 l)]) | false => none) := by
  kernel_rfl

theorem ok_arePositive : FnT Try.prog 16 (gAllT posB) := by
  refine fnT tabok_arePositive Try.func16 rfl rfl ann0 fun vs h v h' e => ⟨0, ?_⟩
  unfold gAllT at e
  split at e
  · obtain ⟨hd, e⟩ := T.pre_inv e
    obtain ⟨rfl, rfl⟩ := T.ret_inv e
    refine Eq.trans (run_arePositive 0 _ _ _) ?_
    rw [hd, ← ix_all posB]
  · obtain ⟨rfl, rfl⟩ := T.ret_inv e
    kernel_rfl
  · exact (T.no_inv e).elim
def gLsT : GT := fun vs h => match vs, h with
  | [.sl 0 0 n], [.at rw (.fl .f32 l)] => .ite (decide (l.length = n ∧ n < 2147483648)) (.ite (l.all finB) (.ret (.tup [.a (.sl 0 0 n), .a (.bool true)]) [.at rw (.fl .f32 l)]) (.ret nilF [.at rw (.fl .f32 l)])) .no
  | _, _ => .no
abbrev pairV (b : Bool) (y : Nat) : V := .tup [.a (.fl .f32 y), .a (.bool b)]
def gNumT : GT := fun vs h => match vs, h with | [.fl .f32 x], [] => .ite (finB x) (.ret (pairV true x) []) (.ret (pairV false 0) []) | _, _ => .no

def tab_checkedNumbers : Fns := tabT [(22, gAllT finB)]
theorem tabok_checkedNumbers : ∀ f, FnT Try.prog f (tab_checkedNumbers f) := (tabT_cons (k := 22) ok_areFinite tabT_nil)
theorem run_checkedNumbers (N : Nat) (n : Nat) (rw : Bool) (l : List Nat) : run ty tab_checkedNumbers ann0 N Try.f18 [.sl 0 0 n] [.at rw (.fl .f32 l)]
    = (match decide (l.length = n ∧ n < 2147483648) with | true => (match !(l.all finB) with | true => some (.tup [.a (.nil), .a (.bool false)], [.at rw (.fl .f32 l)]) | false => some (.tup [.a (.sl 0 0 n), .a (.bool true)], [.at rw (.fl .f32 l)])) | false => none) := by
  kernel_rfl

theorem ok_checkedNumbers : FnT Try.prog 18 gLsT := by
  refine fnT tabok_checkedNumbers Try.func18 rfl rfl ann0 fun vs h v h' e => ⟨0, ?_⟩
  unfold gLsT at e
  split at e
  · rename_i n rw l
    obtain ⟨hd, e⟩ := T.pre_inv e
    refine Eq.trans (run_checkedNumbers 0 _ _ _) (Eq.trans ?_ e)
    rw [hd]
    show _ = T.k _ _
    simp only [T.k]
    cases l.all finB <;> rfl
  · exact (T.no_inv e).elim
def tab_checked : Fns := tabT [(24, gT (gF1 finB))]
theorem tabok_checked : ∀ f, FnT Try.prog f (tab_checked f) := (tabT_cons (k := 24) ok_IsFinite tabT_nil)
theorem run_checked (N : Nat) (x : Nat) : run ty tab_checked ann0 N Try.f30 [.fl .f32 x] []
    = (match !(finB x) with | true => some (.tup [.a (.fl .f32 0), .a (.bool false)], []) | false => some (.tup [.a (.fl .f32 x), .a (.bool true)], [])) := by
  kernel_rfl

theorem ok_checked : FnT Try.prog 30 (gNumT) := by
  refine fnT tabok_checked Try.func30 rfl rfl ann0 fun vs h v h' e => ⟨0, ?_⟩
  unfold gNumT at e
  split at e
  · rename_i x
    refine Eq.trans (run_checked 0 x) (Eq.trans ?_ e)
    show _ = T.k _ _
    simp only [T.k]
    cases finB x <;> rfl
  · exact (T.no_inv e).elim
end Go.Proofs.Ytlopdogjdfeikaa.Ab
