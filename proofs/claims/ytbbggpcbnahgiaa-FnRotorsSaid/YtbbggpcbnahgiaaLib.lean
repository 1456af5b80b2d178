/- The small helpers: what they compute. Only lemmas. Printed by lib.py. -/
import Derived.Test.YtbbggpcbnahgiaaBase
namespace Go.Proofs.Ytbbggpcbnahgiaa.Ab
set_option linter.unusedVariables false
set_option linter.unusedSimpArgs false
open Go
def tab_l01Finite : Fns := tabT []
theorem tabok_l01Finite : ∀ f, FnT Try.prog f (tab_l01Finite f) := tabT_nil
theorem run_l01Finite (N : Nat) (x : Nat) : run ty tab_l01Finite ann0 N Try.f61 [.fl .f32 x] []
    = some (.bool (eqB (fop .sub .f32 x x) 0), []) := by
  kernel_rfl

theorem ok_l01Finite : FnT Try.prog 61 (gT (gF1 finB)) := by
  refine fnT tabok_l01Finite Try.func61 rfl rfl ann0 fun vs h v h' e => ⟨0, ?_⟩
  rw [T.run_of] at e
  unfold gF1 at e
  split at e
  case h_2 => cases e
  rename_i x
  cases e
  refine Eq.trans (run_l01Finite 0 x) ?_
  rfl
def tab_IsFinite : Fns := tabT []
theorem tabok_IsFinite : ∀ f, FnT Try.prog f (tab_IsFinite f) := tabT_nil
theorem run_IsFinite (N : Nat) (x : Nat) : run ty tab_IsFinite ann0 N Try.f35 [.fl .f32 x] []
    = some (.bool (eqB (fop .sub .f32 x x) 0), []) := by
  kernel_rfl

theorem ok_IsFinite : FnT Try.prog 35 (gT (gF1 finB)) := by
  refine fnT tabok_IsFinite Try.func35 rfl rfl ann0 fun vs h v h' e => ⟨0, ?_⟩
  rw [T.run_of] at e
  unfold gF1 at e
  split at e
  case h_2 => cases e
  rename_i x
  cases e
  refine Eq.trans (run_IsFinite 0 x) ?_
  rfl
def tab_l03Least : Fns := tabT [(61, gT (gF1 finB))]
theorem tabok_l03Least : ∀ f, FnT Try.prog f (tab_l03Least f) := (tabT_cons (k := 61) ok_l01Finite tabT_nil)
theorem run_l03Least (N : Nat) (x : Nat) : run ty tab_l03Least ann0 N Try.f48 [.fl .f32 x] []
    = (match finB x with | true => some (.bool (gtB x 0 || eqB x 0), []) | false => some (.bool false, [])) := by
  kernel_rfl

theorem ok_l03Least : FnT Try.prog 48 (gT (gF1 nonB)) := by
  refine fnT tabok_l03Least Try.func48 rfl rfl ann0 fun vs h v h' e => ⟨0, ?_⟩
  rw [T.run_of] at e
  unfold gF1 at e
  split at e
  case h_2 => cases e
  rename_i x
  cases e
  refine Eq.trans (run_l03Least 0 x) ?_
  unfold nonB
  cases finB x <;> rfl
def inB (n lo hi : Int) : Bool := decide (n ≥ lo) && decide (n ≤ hi)
def gIn : G := fun vs h => match vs, h with | [.int .i64 n, .int .i64 a, .int .i64 b], [] => some (.bool (inB n a b), []) | _, _ => none

def tab_l00In : Fns := tabT []
theorem tabok_l00In : ∀ f, FnT Try.prog f (tab_l00In f) := tabT_nil
theorem run_l00In (N : Nat) (n : Int) (a : Int) (b : Int) : run ty tab_l00In ann0 N Try.f57 [.int .i64 n, .int .i64 a, .int .i64 b] []
    = (match decide ((n : Int) ≥ a) with | true => some (.bool (decide ((n : Int) ≤ b)), []) | false => some (.bool false, [])) := by
  kernel_rfl

theorem ok_l00In : FnT Try.prog 57 (gT gIn) := by
  refine fnT tabok_l00In Try.func57 rfl rfl ann0 fun vs h v h' e => ⟨0, ?_⟩
  rw [T.run_of] at e
  unfold gIn at e
  split at e
  case h_2 => cases e
  rename_i n a b
  cases e
  refine Eq.trans (run_l00In 0 n a b) ?_
  unfold inB
  cases decide (n ≥ a) <;> rfl
def tab_within : Fns := tabT []
theorem tabok_within : ∀ f, FnT Try.prog f (tab_within f) := tabT_nil
theorem run_within (N : Nat) (n : Int) (a : Int) (b : Int) : run ty tab_within ann0 N Try.f26 [.int .i64 n, .int .i64 a, .int .i64 b] []
    = (match decide ((n : Int) ≥ a) with | true => some (.bool (decide ((n : Int) ≤ b)), []) | false => some (.bool false, [])) := by
  kernel_rfl

theorem ok_within : FnT Try.prog 26 (gT gIn) := by
  refine fnT tabok_within Try.func26 rfl rfl ann0 fun vs h v h' e => ⟨0, ?_⟩
  rw [T.run_of] at e
  unfold gIn at e
  split at e
  case h_2 => cases e
  rename_i n a b
  cases e
  refine Eq.trans (run_within 0 n a b) ?_
  unfold inB
  cases decide (n ≥ a) <;> rfl
def gIxT (f : FuncId) (p : Nat → Bool) : GT := fun vs h => match vs, h with
  | [.sl 0 0 n, .fn f'], [.at rw (.fl .f32 l)] => if f' = f then .ite (decide (l.length = n ∧ n < 2147483648)) (.ret (.int .i64 (ixOf p l)) [.at rw (.fl .f32 l)]) .no else .no
  | [.nil, .fn f'], [] => if f' = f then .ret (.int .i64 (-1)) [] else .no
  | _, _ => .no
def gCoT (f : FuncId) (p : Nat → Bool) : GT := fun vs h => match vs, h with
  | [.sl 0 0 n, .fn f'], [.at rw (.fl .f32 l)] => if f' = f then .ite (decide (l.length = n ∧ n < 2147483648)) (.ret (.bool (decide (ixOf p l ≥ 0))) [.at rw (.fl .f32 l)]) .no else .no
  | [.nil, .fn f'], [] => if f' = f then .ret (.bool false) [] else .no
  | _, _ => .no
def gAllT (p : Nat → Bool) : GT := fun vs h => match vs, h with
  | [.sl 0 0 n], [.at rw (.fl .f32 l)] => .ite (decide (l.length = n ∧ n < 2147483648)) (.ret (.bool (l.all p)) [.at rw (.fl .f32 l)]) .no
  | [.nil], [] => .ret (.bool true) []
  | _, _ => .no

def tab_fin1 : Fns := tabT [(35, gT (gF1 finB))]
theorem tabok_fin1 : ∀ f, FnT Try.prog f (tab_fin1 f) := (tabT_cons (k := 35) ok_IsFinite tabT_nil)
theorem run_fin1 (N : Nat) (x : Nat) : run ty tab_fin1 ann0 N Try.f59 [.fl .f32 x] []
    = some (.bool (!(finB x)), []) := by
  kernel_rfl

theorem ok_fin1 : FnT Try.prog 59 (gT (gF1 (fun x => !finB x))) := by
  refine fnT tabok_fin1 Try.func59 rfl rfl ann0 fun vs h v h' e => ⟨0, ?_⟩
  rw [T.run_of] at e
  unfold gF1 at e
  split at e
  case h_2 => cases e
  rename_i x
  cases e
  refine Eq.trans (run_fin1 0 x) ?_
  show _ = some (V.bool (!finB x), [])
  rfl
def an_ixfin : Ann := ⟨fun r => if r = 2 then some ([0, 1, 7, 8], [4]) else none, fun _ _ => .quiet⟩
def tab_ixfin : Fns := tabT [(59, gT (gF1 (fun x => !finB x)))]
theorem tabok_ixfin : ∀ f, FnT Try.prog f (tab_ixfin f) := (tabT_cons (k := 59) ok_fin1 tabT_nil)
def st_ixfin2 (s0n : Nat) (t7 : Int) (t8 : Int) (rw0 : Bool) (l0 : List Nat) : St := ⟨(.sl 0 0 s0n :: .fn 59 :: .any :: .any :: .any :: .any :: .any :: .int .i64 t7 :: .int .i64 t8 :: (anys 10 [])), [.at rw0 (.fl .f32 l0)]⟩
abbrev kp_ixfin2 : Option (List Nat × List Nat) := some ([0, 1, 7, 8], [4])
noncomputable def lp_ixfin2 {R : Type} (N M : Nat) (s : St) (K : X → St → Option R) : Option R := loopH 1 kp_ixfin2 (fun st K => exec ty tab_ixfin an_ixfin N 1 (atOf [true, false, true, false, false] Try.f58) st K) M s K
noncomputable def bk_ixfin2 {R : Type} (N M : Nat) (K : X → St → Option R) : X → St → Option R := fun x st => match x with | .norm => tidyK 1 (kp_ixfin2.map (·.1)) st fun st => lp_ixfin2 N M st K | x => tidyK 1 (kp_ixfin2.map (·.2)) st fun st => K x st
noncomputable def kt_ixfin2 {R : Type} (N : Nat) (K : X → St → Option R) : X → St → Option R := kBlkR 0 (kSeqR tab_ixfin an_ixfin N 1 (atOf [true, true] Try.f58) (K))
def en_ixfin2_0 (t4 : Int) (rw0 : Bool) (l0 : List Nat) : St := ⟨(.any :: .any :: .any :: .any :: .int .i64 t4 :: (anys 14 [])), [.at rw0 (.fl .f32 l0)]⟩
def en_ixfin2_1 (rw0 : Bool) (l0 : List Nat) : St := ⟨(anys 19 []), [.at rw0 (.fl .f32 l0)]⟩
theorem run_ixfin (N : Nat) (n : Nat) (rw : Bool) (l : List Nat) : run ty tab_ixfin an_ixfin N Try.f58 [.sl 0 0 n, .fn 59] [.at rw (.fl .f32 l)]
    = lp_ixfin2 N N (st_ixfin2 n ((n : Nat) : Int) 0 rw l) (kt_ixfin2 N (kEnd Try.f58 1)) := by
  kernel_rfl
theorem step_ixfin2 {R : Type} (N M : Nat) (K : X → St → Option R) (s0n : Nat) (t7 : Int) (t8 : Int) (rw0 : Bool) (l0 : List Nat) : lp_ixfin2 N (M + 1) (st_ixfin2 s0n t7 t8 rw0 l0) K
    = (match decide ((t8 : Int) < t7) with | true => (match decide (0 ≤ (t8 : Int) ∧ (t8 : Int) < ((s0n : Nat) : Int)) with | true => (match l0[0 + (t8).toNat * 1]? with | some e1 => (match !finB e1 with | true => K .ret (en_ixfin2_0 t8 rw0 l0) | false => lp_ixfin2 N M (st_ixfin2 s0n t7 (IntKind.i64.wrap (t8 + 1)) rw0 l0) K) | none => none) | false => none) | false => K (.exit 0) (en_ixfin2_1 rw0 l0)) := by
  kernel_rfl
theorem end_ixfin2_0 (N : Nat) (t4 : Int) (rw0 : Bool) (l0 : List Nat) : kt_ixfin2 N (kEnd Try.f58 1) .ret (en_ixfin2_0 t4 rw0 l0)
    = some (.int .i64 t4, [.at rw0 (.fl .f32 l0)]) := by
  kernel_rfl
theorem end_ixfin2_1 (N : Nat) (rw0 : Bool) (l0 : List Nat) : kt_ixfin2 N (kEnd Try.f58 1) (.exit 0) (en_ixfin2_1 rw0 l0)
    = some (.int .i64 (-1), [.at rw0 (.fl .f32 l0)]) := by
  kernel_rfl

theorem ok_ixfin : FnT Try.prog 58 (gIxT 59 (fun x => !finB x)) := by
  refine fnT tabok_ixfin Try.func58 rfl rfl an_ixfin fun vs h v h' e => ?_
  unfold gIxT at e
  split at e
  · rename_i n f' rw l
    split at e
    · rename_i hf
      subst hf
      obtain ⟨hd, e⟩ := T.pre_inv e
      obtain ⟨rfl, rfl⟩ := T.ret_inv e
      obtain ⟨rfl, hb⟩ := of_decide_eq_true hd
      refine ⟨l.length + 1, Eq.trans (run_ixfin _ _ _ _) ?_⟩
      refine Eq.trans (scan0 l (fun x => !finB x) (fun M i => lp_ixfin2 (l.length + 1) M (st_ixfin2 l.length ((l.length : Nat) : Int) i rw l) (kt_ixfin2 (l.length + 1) (kEnd Try.f58 1))) (fun j => some (.int .i64 (j : Int), [.at rw (.fl .f32 l)])) (some (.int .i64 (-1), [.at rw (.fl .f32 l)])) (fun M i x hx => ?_) (fun M => ?_)) ?_
      · have hi := lt_of_get hx
        simp only [step_ixfin2, dlt hi, din hi, ix, hx, wr (show i < 2147483648 by omega), end_ixfin2_0] <;> (cases !finB x <;> rfl)
      · simp only [step_ixfin2, dge (Nat.le_refl _), end_ixfin2_1]
      · unfold ixOf
        cases firstIx (fun x => !finB x) l 0 <;> rfl
    · exact (T.no_inv e).elim
  · split at e
    · rename_i hf
      subst hf
      obtain ⟨rfl, rfl⟩ := T.ret_inv e
      exact ⟨1, by kernel_rfl⟩
    · exact (T.no_inv e).elim
  · exact (T.no_inv e).elim
def tab_cofin : Fns := tabT [(58, gIxT 59 (fun x => !finB x))]
theorem tabok_cofin : ∀ f, FnT Try.prog f (tab_cofin f) := (tabT_cons (k := 58) ok_ixfin tabT_nil)
theorem run_cofin (N : Nat) (n : Nat) (rw : Bool) (l : List Nat) : run ty tab_cofin ann0 N Try.f43 [.sl 0 0 n, .fn 59] [.at rw (.fl .f32 l)]
    = (match decide (l.length = n ∧ n < 2147483648) with | true => some (.bool (decide ((ixOf (fun x => !finB x) l : Int) ≥ 0)), [.at rw (.fl .f32 l)]) | false => none) := by
  kernel_rfl

theorem ok_cofin : FnT Try.prog 43 (gCoT 59 (fun x => !finB x)) := by
  refine fnT tabok_cofin Try.func43 rfl rfl ann0 fun vs h v h' e => ⟨0, ?_⟩
  unfold gCoT at e
  split at e
  · split at e
    · rename_i n f' rw l hf
      subst hf
      obtain ⟨hd, e⟩ := T.pre_inv e
      obtain ⟨rfl, rfl⟩ := T.ret_inv e
      refine Eq.trans (run_cofin 0 _ _ _) ?_
      rw [hd]
    · exact (T.no_inv e).elim
  · split at e
    · rename_i hf
      subst hf
      obtain ⟨rfl, rfl⟩ := T.ret_inv e
      kernel_rfl
    · exact (T.no_inv e).elim
  · exact (T.no_inv e).elim
def tab_areFinite : Fns := tabT [(43, gCoT 59 (fun x => !finB x))]
theorem tabok_areFinite : ∀ f, FnT Try.prog f (tab_areFinite f) := (tabT_cons (k := 43) ok_cofin tabT_nil)
theorem run_areFinite (N : Nat) (n : Nat) (rw : Bool) (l : List Nat) : run ty tab_areFinite ann0 N Try.f45 [.sl 0 0 n] [.at rw (.fl .f32 l)]
    = (match decide (l.length = n ∧ n < 2147483648) with | true => some (.bool (!(decide (ixOf (fun x => !finB x) l ≥ 0))), [.at rw (.fl .f32 l)]) | false => none) := by
  kernel_rfl

theorem ok_areFinite : FnT Try.prog 45 (gAllT finB) := by
  refine fnT tabok_areFinite Try.func45 rfl rfl ann0 fun vs h v h' e => ⟨0, ?_⟩
  unfold gAllT at e
  split at e
  · obtain ⟨hd, e⟩ := T.pre_inv e
    obtain ⟨rfl, rfl⟩ := T.ret_inv e
    refine Eq.trans (run_areFinite 0 _ _ _) ?_
    rw [hd, ← ix_all finB]
  · obtain ⟨rfl, rfl⟩ := T.ret_inv e
    kernel_rfl
  · exact (T.no_inv e).elim
def tab_pos1 : Fns := tabT [(35, gT (gF1 finB))]
theorem tabok_pos1 : ∀ f, FnT Try.prog f (tab_pos1 f) := (tabT_cons (k := 35) ok_IsFinite tabT_nil)
theorem run_pos1 (N : Nat) (x : Nat) : run ty tab_pos1 ann0 N Try.f46 [.fl .f32 x] []
    = (match !(finB x) with | true => some (.bool true, []) | false => some (.bool (ltB x 0 || eqB x 0), [])) := by
  kernel_rfl

theorem ok_pos1 : FnT Try.prog 46 (gT (gF1 (fun x => !posB x))) := by
  refine fnT tabok_pos1 Try.func46 rfl rfl ann0 fun vs h v h' e => ⟨0, ?_⟩
  rw [T.run_of] at e
  unfold gF1 at e
  split at e
  case h_2 => cases e
  rename_i x
  cases e
  refine Eq.trans (run_pos1 0 x) ?_
  show _ = some (V.bool (!posB x), [])
  rw [← not_pos]
  cases finB x <;> rfl
def an_ixpos : Ann := ⟨fun r => if r = 2 then some ([0, 1, 7, 8], [4]) else none, fun _ _ => .quiet⟩
def tab_ixpos : Fns := tabT [(46, gT (gF1 (fun x => !posB x)))]
theorem tabok_ixpos : ∀ f, FnT Try.prog f (tab_ixpos f) := (tabT_cons (k := 46) ok_pos1 tabT_nil)
def st_ixpos2 (s0n : Nat) (t7 : Int) (t8 : Int) (rw0 : Bool) (l0 : List Nat) : St := ⟨(.sl 0 0 s0n :: .fn 46 :: .any :: .any :: .any :: .any :: .any :: .int .i64 t7 :: .int .i64 t8 :: (anys 10 [])), [.at rw0 (.fl .f32 l0)]⟩
abbrev kp_ixpos2 : Option (List Nat × List Nat) := some ([0, 1, 7, 8], [4])
noncomputable def lp_ixpos2 {R : Type} (N M : Nat) (s : St) (K : X → St → Option R) : Option R := loopH 1 kp_ixpos2 (fun st K => exec ty tab_ixpos an_ixpos N 1 (atOf [true, false, true, false, false] Try.f58) st K) M s K
noncomputable def bk_ixpos2 {R : Type} (N M : Nat) (K : X → St → Option R) : X → St → Option R := fun x st => match x with | .norm => tidyK 1 (kp_ixpos2.map (·.1)) st fun st => lp_ixpos2 N M st K | x => tidyK 1 (kp_ixpos2.map (·.2)) st fun st => K x st
noncomputable def kt_ixpos2 {R : Type} (N : Nat) (K : X → St → Option R) : X → St → Option R := kBlkR 0 (kSeqR tab_ixpos an_ixpos N 1 (atOf [true, true] Try.f58) (K))
def en_ixpos2_0 (t4 : Int) (rw0 : Bool) (l0 : List Nat) : St := ⟨(.any :: .any :: .any :: .any :: .int .i64 t4 :: (anys 14 [])), [.at rw0 (.fl .f32 l0)]⟩
def en_ixpos2_1 (rw0 : Bool) (l0 : List Nat) : St := ⟨(anys 19 []), [.at rw0 (.fl .f32 l0)]⟩
theorem run_ixpos (N : Nat) (n : Nat) (rw : Bool) (l : List Nat) : run ty tab_ixpos an_ixpos N Try.f58 [.sl 0 0 n, .fn 46] [.at rw (.fl .f32 l)]
    = lp_ixpos2 N N (st_ixpos2 n ((n : Nat) : Int) 0 rw l) (kt_ixpos2 N (kEnd Try.f58 1)) := by
  kernel_rfl
theorem step_ixpos2 {R : Type} (N M : Nat) (K : X → St → Option R) (s0n : Nat) (t7 : Int) (t8 : Int) (rw0 : Bool) (l0 : List Nat) : lp_ixpos2 N (M + 1) (st_ixpos2 s0n t7 t8 rw0 l0) K
    = (match decide ((t8 : Int) < t7) with | true => (match decide (0 ≤ (t8 : Int) ∧ (t8 : Int) < ((s0n : Nat) : Int)) with | true => (match l0[0 + (t8).toNat * 1]? with | some e1 => (match !posB e1 with | true => K .ret (en_ixpos2_0 t8 rw0 l0) | false => lp_ixpos2 N M (st_ixpos2 s0n t7 (IntKind.i64.wrap (t8 + 1)) rw0 l0) K) | none => none) | false => none) | false => K (.exit 0) (en_ixpos2_1 rw0 l0)) := by
  kernel_rfl
theorem end_ixpos2_0 (N : Nat) (t4 : Int) (rw0 : Bool) (l0 : List Nat) : kt_ixpos2 N (kEnd Try.f58 1) .ret (en_ixpos2_0 t4 rw0 l0)
    = some (.int .i64 t4, [.at rw0 (.fl .f32 l0)]) := by
  kernel_rfl
theorem end_ixpos2_1 (N : Nat) (rw0 : Bool) (l0 : List Nat) : kt_ixpos2 N (kEnd Try.f58 1) (.exit 0) (en_ixpos2_1 rw0 l0)
    = some (.int .i64 (-1), [.at rw0 (.fl .f32 l0)]) := by
  kernel_rfl

theorem ok_ixpos : FnT Try.prog 58 (gIxT 46 (fun x => !posB x)) := by
  refine fnT tabok_ixpos Try.func58 rfl rfl an_ixpos fun vs h v h' e => ?_
  unfold gIxT at e
  split at e
  · rename_i n f' rw l
    split at e
    · rename_i hf
      subst hf
      obtain ⟨hd, e⟩ := T.pre_inv e
      obtain ⟨rfl, rfl⟩ := T.ret_inv e
      obtain ⟨rfl, hb⟩ := of_decide_eq_true hd
      refine ⟨l.length + 1, Eq.trans (run_ixpos _ _ _ _) ?_⟩
      refine Eq.trans (scan0 l (fun x => !posB x) (fun M i => lp_ixpos2 (l.length + 1) M (st_ixpos2 l.length ((l.length : Nat) : Int) i rw l) (kt_ixpos2 (l.length + 1) (kEnd Try.f58 1))) (fun j => some (.int .i64 (j : Int), [.at rw (.fl .f32 l)])) (some (.int .i64 (-1), [.at rw (.fl .f32 l)])) (fun M i x hx => ?_) (fun M => ?_)) ?_
      · have hi := lt_of_get hx
        simp only [step_ixpos2, dlt hi, din hi, ix, hx, wr (show i < 2147483648 by omega), end_ixpos2_0] <;> (cases !posB x <;> rfl)
      · simp only [step_ixpos2, dge (Nat.le_refl _), end_ixpos2_1]
      · unfold ixOf
        cases firstIx (fun x => !posB x) l 0 <;> rfl
    · exact (T.no_inv e).elim
  · split at e
    · rename_i hf
      subst hf
      obtain ⟨rfl, rfl⟩ := T.ret_inv e
      exact ⟨1, by kernel_rfl⟩
    · exact (T.no_inv e).elim
  · exact (T.no_inv e).elim
def tab_copos : Fns := tabT [(58, gIxT 46 (fun x => !posB x))]
theorem tabok_copos : ∀ f, FnT Try.prog f (tab_copos f) := (tabT_cons (k := 58) ok_ixpos tabT_nil)
theorem run_copos (N : Nat) (n : Nat) (rw : Bool) (l : List Nat) : run ty tab_copos ann0 N Try.f43 [.sl 0 0 n, .fn 46] [.at rw (.fl .f32 l)]
    = (match decide (l.length = n ∧ n < 2147483648) with | true => some (.bool (decide ((ixOf (fun x => !posB x) l : Int) ≥ 0)), [.at rw (.fl .f32 l)]) | false => none) := by
  kernel_rfl

theorem ok_copos : FnT Try.prog 43 (gCoT 46 (fun x => !posB x)) := by
  refine fnT tabok_copos Try.func43 rfl rfl ann0 fun vs h v h' e => ⟨0, ?_⟩
  unfold gCoT at e
  split at e
  · split at e
    · rename_i n f' rw l hf
      subst hf
      obtain ⟨hd, e⟩ := T.pre_inv e
      obtain ⟨rfl, rfl⟩ := T.ret_inv e
      refine Eq.trans (run_copos 0 _ _ _) ?_
      rw [hd]
    · exact (T.no_inv e).elim
  · split at e
    · rename_i hf
      subst hf
      obtain ⟨rfl, rfl⟩ := T.ret_inv e
      kernel_rfl
    · exact (T.no_inv e).elim
  · exact (T.no_inv e).elim
def tab_arePositive : Fns := tabT [(43, gCoT 46 (fun x => !posB x))]
theorem tabok_arePositive : ∀ f, FnT Try.prog f (tab_arePositive f) := (tabT_cons (k := 43) ok_copos tabT_nil)
theorem run_arePositive (N : Nat) (n : Nat) (rw : Bool) (l : List Nat) : run ty tab_arePositive ann0 N Try.f29 [.sl 0 0 n] [.at rw (.fl .f32 l)]
    = (match decide (l.length = n ∧ n < 2147483648) with | true => some (.bool (!(decide (ixOf (fun x => !posB x) l ≥ 0))), [.at rw (.fl .f32 l)]) | false => none) := by
  kernel_rfl

theorem ok_arePositive : FnT Try.prog 29 (gAllT posB) := by
  refine fnT tabok_arePositive Try.func29 rfl rfl ann0 fun vs h v h' e => ⟨0, ?_⟩
  unfold gAllT at e
  split at e
  · obtain ⟨hd, e⟩ := T.pre_inv e
    obtain ⟨rfl, rfl⟩ := T.ret_inv e
    refine Eq.trans (run_arePositive 0 _ _ _) ?_
    rw [hd, ← ix_all posB]
  · obtain ⟨rfl, rfl⟩ := T.ret_inv e
    kernel_rfl
  · exact (T.no_inv e).elim
def tab_rot1 : Fns := tabT [(35, gT (gF1 finB))]
theorem tabok_rot1 : ∀ f, FnT Try.prog f (tab_rot1 f) := (tabT_cons (k := 35) ok_IsFinite tabT_nil)
theorem run_rot1 (N : Nat) (x : Nat) : run ty tab_rot1 ann0 N Try.f44 [.fl .f32 x] []
    = (match !(finB x) with | true => some (.bool true, []) | false => some (.bool (ltB x 0), [])) := by
  kernel_rfl

theorem ok_rot1 : FnT Try.prog 44 (gT (gF1 (fun x => !nonB x))) := by
  refine fnT tabok_rot1 Try.func44 rfl rfl ann0 fun vs h v h' e => ⟨0, ?_⟩
  rw [T.run_of] at e
  unfold gF1 at e
  split at e
  case h_2 => cases e
  rename_i x
  cases e
  refine Eq.trans (run_rot1 0 x) ?_
  show _ = some (V.bool (!nonB x), [])
  rw [← not_non]
  cases finB x <;> rfl
def an_ixrot : Ann := ⟨fun r => if r = 2 then some ([0, 1, 7, 8], [4]) else none, fun _ _ => .quiet⟩
def tab_ixrot : Fns := tabT [(44, gT (gF1 (fun x => !nonB x)))]
theorem tabok_ixrot : ∀ f, FnT Try.prog f (tab_ixrot f) := (tabT_cons (k := 44) ok_rot1 tabT_nil)
def st_ixrot2 (s0n : Nat) (t7 : Int) (t8 : Int) (rw0 : Bool) (l0 : List Nat) : St := ⟨(.sl 0 0 s0n :: .fn 44 :: .any :: .any :: .any :: .any :: .any :: .int .i64 t7 :: .int .i64 t8 :: (anys 10 [])), [.at rw0 (.fl .f32 l0)]⟩
abbrev kp_ixrot2 : Option (List Nat × List Nat) := some ([0, 1, 7, 8], [4])
noncomputable def lp_ixrot2 {R : Type} (N M : Nat) (s : St) (K : X → St → Option R) : Option R := loopH 1 kp_ixrot2 (fun st K => exec ty tab_ixrot an_ixrot N 1 (atOf [true, false, true, false, false] Try.f58) st K) M s K
noncomputable def bk_ixrot2 {R : Type} (N M : Nat) (K : X → St → Option R) : X → St → Option R := fun x st => match x with | .norm => tidyK 1 (kp_ixrot2.map (·.1)) st fun st => lp_ixrot2 N M st K | x => tidyK 1 (kp_ixrot2.map (·.2)) st fun st => K x st
noncomputable def kt_ixrot2 {R : Type} (N : Nat) (K : X → St → Option R) : X → St → Option R := kBlkR 0 (kSeqR tab_ixrot an_ixrot N 1 (atOf [true, true] Try.f58) (K))
def en_ixrot2_0 (t4 : Int) (rw0 : Bool) (l0 : List Nat) : St := ⟨(.any :: .any :: .any :: .any :: .int .i64 t4 :: (anys 14 [])), [.at rw0 (.fl .f32 l0)]⟩
def en_ixrot2_1 (rw0 : Bool) (l0 : List Nat) : St := ⟨(anys 19 []), [.at rw0 (.fl .f32 l0)]⟩
theorem run_ixrot (N : Nat) (n : Nat) (rw : Bool) (l : List Nat) : run ty tab_ixrot an_ixrot N Try.f58 [.sl 0 0 n, .fn 44] [.at rw (.fl .f32 l)]
    = lp_ixrot2 N N (st_ixrot2 n ((n : Nat) : Int) 0 rw l) (kt_ixrot2 N (kEnd Try.f58 1)) := by
  kernel_rfl
theorem step_ixrot2 {R : Type} (N M : Nat) (K : X → St → Option R) (s0n : Nat) (t7 : Int) (t8 : Int) (rw0 : Bool) (l0 : List Nat) : lp_ixrot2 N (M + 1) (st_ixrot2 s0n t7 t8 rw0 l0) K
    = (match decide ((t8 : Int) < t7) with | true => (match decide (0 ≤ (t8 : Int) ∧ (t8 : Int) < ((s0n : Nat) : Int)) with | true => (match l0[0 + (t8).toNat * 1]? with | some e1 => (match !nonB e1 with | true => K .ret (en_ixrot2_0 t8 rw0 l0) | false => lp_ixrot2 N M (st_ixrot2 s0n t7 (IntKind.i64.wrap (t8 + 1)) rw0 l0) K) | none => none) | false => none) | false => K (.exit 0) (en_ixrot2_1 rw0 l0)) := by
  kernel_rfl
theorem end_ixrot2_0 (N : Nat) (t4 : Int) (rw0 : Bool) (l0 : List Nat) : kt_ixrot2 N (kEnd Try.f58 1) .ret (en_ixrot2_0 t4 rw0 l0)
    = some (.int .i64 t4, [.at rw0 (.fl .f32 l0)]) := by
  kernel_rfl
theorem end_ixrot2_1 (N : Nat) (rw0 : Bool) (l0 : List Nat) : kt_ixrot2 N (kEnd Try.f58 1) (.exit 0) (en_ixrot2_1 rw0 l0)
    = some (.int .i64 (-1), [.at rw0 (.fl .f32 l0)]) := by
  kernel_rfl

theorem ok_ixrot : FnT Try.prog 58 (gIxT 44 (fun x => !nonB x)) := by
  refine fnT tabok_ixrot Try.func58 rfl rfl an_ixrot fun vs h v h' e => ?_
  unfold gIxT at e
  split at e
  · rename_i n f' rw l
    split at e
    · rename_i hf
      subst hf
      obtain ⟨hd, e⟩ := T.pre_inv e
      obtain ⟨rfl, rfl⟩ := T.ret_inv e
      obtain ⟨rfl, hb⟩ := of_decide_eq_true hd
      refine ⟨l.length + 1, Eq.trans (run_ixrot _ _ _ _) ?_⟩
      refine Eq.trans (scan0 l (fun x => !nonB x) (fun M i => lp_ixrot2 (l.length + 1) M (st_ixrot2 l.length ((l.length : Nat) : Int) i rw l) (kt_ixrot2 (l.length + 1) (kEnd Try.f58 1))) (fun j => some (.int .i64 (j : Int), [.at rw (.fl .f32 l)])) (some (.int .i64 (-1), [.at rw (.fl .f32 l)])) (fun M i x hx => ?_) (fun M => ?_)) ?_
      · have hi := lt_of_get hx
        simp only [step_ixrot2, dlt hi, din hi, ix, hx, wr (show i < 2147483648 by omega), end_ixrot2_0] <;> (cases !nonB x <;> rfl)
      · simp only [step_ixrot2, dge (Nat.le_refl _), end_ixrot2_1]
      · unfold ixOf
        cases firstIx (fun x => !nonB x) l 0 <;> rfl
    · exact (T.no_inv e).elim
  · split at e
    · rename_i hf
      subst hf
      obtain ⟨rfl, rfl⟩ := T.ret_inv e
      exact ⟨1, by kernel_rfl⟩
    · exact (T.no_inv e).elim
  · exact (T.no_inv e).elim
def tab_corot : Fns := tabT [(58, gIxT 44 (fun x => !nonB x))]
theorem tabok_corot : ∀ f, FnT Try.prog f (tab_corot f) := (tabT_cons (k := 58) ok_ixrot tabT_nil)
theorem run_corot (N : Nat) (n : Nat) (rw : Bool) (l : List Nat) : run ty tab_corot ann0 N Try.f43 [.sl 0 0 n, .fn 44] [.at rw (.fl .f32 l)]
    = (match decide (l.length = n ∧ n < 2147483648) with | true => some (.bool (decide ((ixOf (fun x => !nonB x) l : Int) ≥ 0)), [.at rw (.fl .f32 l)]) | false => none) := by
  kernel_rfl

theorem ok_corot : FnT Try.prog 43 (gCoT 44 (fun x => !nonB x)) := by
  refine fnT tabok_corot Try.func43 rfl rfl ann0 fun vs h v h' e => ⟨0, ?_⟩
  unfold gCoT at e
  split at e
  · split at e
    · rename_i n f' rw l hf
      subst hf
      obtain ⟨hd, e⟩ := T.pre_inv e
      obtain ⟨rfl, rfl⟩ := T.ret_inv e
      refine Eq.trans (run_corot 0 _ _ _) ?_
      rw [hd]
    · exact (T.no_inv e).elim
  · split at e
    · rename_i hf
      subst hf
      obtain ⟨rfl, rfl⟩ := T.ret_inv e
      kernel_rfl
    · exact (T.no_inv e).elim
  · exact (T.no_inv e).elim
def tab_areRotor : Fns := tabT [(43, gCoT 44 (fun x => !nonB x))]
theorem tabok_areRotor : ∀ f, FnT Try.prog f (tab_areRotor f) := (tabT_cons (k := 43) ok_corot tabT_nil)
theorem run_areRotor (N : Nat) (n : Nat) (rw : Bool) (l : List Nat) : run ty tab_areRotor ann0 N Try.f25 [.sl 0 0 n] [.at rw (.fl .f32 l)]
    = (match decide (l.length = n ∧ n < 2147483648) with | true => some (.bool (!(decide (ixOf (fun x => !nonB x) l ≥ 0))), [.at rw (.fl .f32 l)]) | false => none) := by
  kernel_rfl

theorem ok_areRotor : FnT Try.prog 25 (gAllT nonB) := by
  refine fnT tabok_areRotor Try.func25 rfl rfl ann0 fun vs h v h' e => ⟨0, ?_⟩
  unfold gAllT at e
  split at e
  · obtain ⟨hd, e⟩ := T.pre_inv e
    obtain ⟨rfl, rfl⟩ := T.ret_inv e
    refine Eq.trans (run_areRotor 0 _ _ _) ?_
    rw [hd, ← ix_all nonB]
  · obtain ⟨rfl, rfl⟩ := T.ret_inv e
    kernel_rfl
  · exact (T.no_inv e).elim
def gLsT : GT := fun vs h => match vs, h with
  | [.sl 0 0 n], [.at rw (.fl .f32 l)] => .ite (decide (l.length = n ∧ n < 2147483648)) (.ite (l.all finB) (.ret (.tup [.a (.sl 0 0 n), .a (.bool true)]) [.at rw (.fl .f32 l)]) (.ret nilF [.at rw (.fl .f32 l)])) .no
  | _, _ => .no
abbrev pairV (b : Bool) (y : Nat) : V := .tup [.a (.fl .f32 y), .a (.bool b)]
def gNumT : GT := fun vs h => match vs, h with | [.fl .f32 x], [] => .ite (finB x) (.ret (pairV true x) []) (.ret (pairV false 0) []) | _, _ => .no

def tab_checkedNumbers : Fns := tabT [(45, gAllT finB)]
theorem tabok_checkedNumbers : ∀ f, FnT Try.prog f (tab_checkedNumbers f) := (tabT_cons (k := 45) ok_areFinite tabT_nil)
theorem run_checkedNumbers (N : Nat) (n : Nat) (rw : Bool) (l : List Nat) : run ty tab_checkedNumbers ann0 N Try.f28 [.sl 0 0 n] [.at rw (.fl .f32 l)]
    = (match decide (l.length = n ∧ n < 2147483648) with | true => (match !(l.all finB) with | true => some (.tup [.a (.nil), .a (.bool false)], [.at rw (.fl .f32 l)]) | false => some (.tup [.a (.sl 0 0 n), .a (.bool true)], [.at rw (.fl .f32 l)])) | false => none) := by
  kernel_rfl

theorem ok_checkedNumbers : FnT Try.prog 28 gLsT := by
  refine fnT tabok_checkedNumbers Try.func28 rfl rfl ann0 fun vs h v h' e => ⟨0, ?_⟩
  unfold gLsT at e
  split at e
  · rename_i n rw l
    obtain ⟨hd, e⟩ := T.pre_inv e
    refine Eq.trans (run_checkedNumbers 0 _ _ _) (Eq.trans ?_ e)
    rw [hd]
    show _ = T.k _ _
    simp only [T.k]
    cases l.all finB <;> rfl
  · exact (T.no_inv e).elim
def an_l03List : Ann := ⟨fun r => if r = 2 then some ([0, 6, 7], [0, 2, 3]) else none, fun _ _ => .quiet⟩
def tab_l03List : Fns := tabT [(61, gT (gF1 finB))]
theorem tabok_l03List : ∀ f, FnT Try.prog f (tab_l03List f) := (tabT_cons (k := 61) ok_l01Finite tabT_nil)
def st_l03List2 (list0n : Nat) (t6 : Int) (t7 : Int) (rw0 : Bool) (l0 : List Nat) : St := ⟨(.sl 0 0 list0n :: .any :: .any :: .any :: .any :: .any :: .int .i64 t6 :: .int .i64 t7 :: (anys 10 [])), [.at rw0 (.fl .f32 l0)]⟩
abbrev kp_l03List2 : Option (List Nat × List Nat) := some ([0, 6, 7], [0, 2, 3])
noncomputable def lp_l03List2 {R : Type} (N M : Nat) (s : St) (K : X → St → Option R) : Option R := loopH 1 kp_l03List2 (fun st K => exec ty tab_l03List an_l03List N 1 (atOf [true, false, true, false, false] Try.f52) st K) M s K
noncomputable def bk_l03List2 {R : Type} (N M : Nat) (K : X → St → Option R) : X → St → Option R := fun x st => match x with | .norm => tidyK 1 (kp_l03List2.map (·.1)) st fun st => lp_l03List2 N M st K | x => tidyK 1 (kp_l03List2.map (·.2)) st fun st => K x st
noncomputable def kt_l03List2 {R : Type} (N : Nat) (K : X → St → Option R) : X → St → Option R := kBlkR 0 (kSeqR tab_l03List an_l03List N 1 (atOf [true, true] Try.f52) (K))
def en_l03List2_0 (list0n : Nat) (rw0 : Bool) (l0 : List Nat) : St := ⟨(.sl 0 0 list0n :: .any :: .nil :: .bool false :: (anys 14 [])), [.at rw0 (.fl .f32 l0)]⟩
def en_l03List2_1 (list0n : Nat) (rw0 : Bool) (l0 : List Nat) : St := ⟨(.sl 0 0 list0n :: (anys 17 [])), [.at rw0 (.fl .f32 l0)]⟩
theorem run_l03List (N : Nat) (n : Nat) (rw : Bool) (l : List Nat) : run ty tab_l03List an_l03List N Try.f52 [.sl 0 0 n] [.at rw (.fl .f32 l)]
    = lp_l03List2 N N (st_l03List2 n ((n : Nat) : Int) 0 rw l) (kt_l03List2 N (kEnd Try.f52 1)) := by
  kernel_rfl
theorem step_l03List2 {R : Type} (N M : Nat) (K : X → St → Option R) (list0n : Nat) (t6 : Int) (t7 : Int) (rw0 : Bool) (l0 : List Nat) : lp_l03List2 N (M + 1) (st_l03List2 list0n t6 t7 rw0 l0) K
    = (match decide ((t7 : Int) < t6) with | true => (match decide (0 ≤ (t7 : Int) ∧ (t7 : Int) < ((list0n : Nat) : Int)) with | true => (match l0[0 + (t7).toNat * 1]? with | some e1 => (match !(finB e1) with | true => K .ret (en_l03List2_0 list0n rw0 l0) | false => lp_l03List2 N M (st_l03List2 list0n t6 (IntKind.i64.wrap (t7 + 1)) rw0 l0) K) | none => none) | false => none) | false => K (.exit 0) (en_l03List2_1 list0n rw0 l0)) := by
  kernel_rfl
theorem end_l03List2_0 (N : Nat) (list0n : Nat) (rw0 : Bool) (l0 : List Nat) : kt_l03List2 N (kEnd Try.f52 1) .ret (en_l03List2_0 list0n rw0 l0)
    = some (.tup [.a (.nil), .a (.bool false)], [.at rw0 (.fl .f32 l0)]) := by
  kernel_rfl
theorem end_l03List2_1 (N : Nat) (list0n : Nat) (rw0 : Bool) (l0 : List Nat) : kt_l03List2 N (kEnd Try.f52 1) (.exit 0) (en_l03List2_1 list0n rw0 l0)
    = some (.tup [.a (.sl 0 0 list0n), .a (.bool true)], [.at rw0 (.fl .f32 l0)]) := by
  kernel_rfl

theorem ok_l03List : FnT Try.prog 52 gLsT := by
  refine fnT tabok_l03List Try.func52 rfl rfl an_l03List fun vs h v h' e => ?_
  unfold gLsT at e
  split at e
  · rename_i n rw l
    obtain ⟨hd, e⟩ := T.pre_inv e
    obtain ⟨rfl, hb⟩ := of_decide_eq_true hd
    refine ⟨l.length + 1, Eq.trans (run_l03List _ _ _ _) (Eq.trans ?_ e)⟩
    refine Eq.trans (scan0 l (fun x => !finB x) (fun M i => lp_l03List2 (l.length + 1) M (st_l03List2 l.length l.length i rw l) (kt_l03List2 (l.length + 1) (kEnd Try.f52 1))) (fun j => some (nilF, [.at rw (.fl .f32 l)])) (some (.tup [.a (.sl 0 0 l.length), .a (.bool true)], [.at rw (.fl .f32 l)])) (fun M i x hx => ?_) (fun M => ?_)) ?_
    · have hi := lt_of_get hx
      simp only [step_l03List2, dlt hi, din hi, ix, hx, wr (show i < 2147483648 by omega), end_l03List2_0] <;> (cases !finB x <;> rfl)
    · simp only [step_l03List2, dge (Nat.le_refl _), end_l03List2_1]
    · show _ = T.k _ _
      simp only [T.k]
      rw [← first_all finB l 0]
      cases firstIx (fun x => !finB x) l 0 <;> rfl
  · exact (T.no_inv e).elim
end Go.Proofs.Ytbbggpcbnahgiaa.Ab
