/- The small helpers: what they compute. Only lemmas. Printed by lib.py. -/
import Derived.Test.YthcjbchkagkaaaaBase
namespace Go.Proofs.Ythcjbchkagkaaaa.Ab
set_option linter.unusedVariables false
set_option linter.unusedSimpArgs false
open Go
def tab_l01Finite : Fns := tabT []
theorem tabok_l01Finite : ∀ f, FnT Try.prog f (tab_l01Finite f) := tabT_nil
theorem run_l01Finite (N : Nat) (x : Nat) : run ty tab_l01Finite ann0 N Try.f76 [.fl .f32 x] []
    = some (.bool (eqB (fop .sub .f32 x x) 0), []) := by
  kernel_rfl

theorem ok_l01Finite : FnT Try.prog 76 (gT (gF1 finB)) := by
  refine fnT tabok_l01Finite Try.func76 rfl rfl ann0 fun vs h v h' e => ⟨0, ?_⟩
  rw [T.run_of] at e
  unfold gF1 at e
  split at e
  case h_2 => cases e
  rename_i x
  cases e
  refine Eq.trans (run_l01Finite 0 x) ?_
  rfl
def tab_IsFinite : Fns := tabT []
theorem tabok_IsFinite : ∀ f, FnT Try.prog f (tab_IsFinite f) := tabT_nil
theorem run_IsFinite (N : Nat) (x : Nat) : run ty tab_IsFinite ann0 N Try.f60 [.fl .f32 x] []
    = some (.bool (eqB (fop .sub .f32 x x) 0), []) := by
  kernel_rfl

theorem ok_IsFinite : FnT Try.prog 60 (gT (gF1 finB)) := by
  refine fnT tabok_IsFinite Try.func60 rfl rfl ann0 fun vs h v h' e => ⟨0, ?_⟩
  rw [T.run_of] at e
  unfold gF1 at e
  split at e
  case h_2 => cases e
  rename_i x
  cases e
  refine Eq.trans (run_IsFinite 0 x) ?_
  rfl
def tab_l02Above : Fns := tabT [(76, gT (gF1 finB))]
theorem tabok_l02Above : ∀ f, FnT Try.prog f (tab_l02Above f) := (tabT_cons (k := 76) ok_l01Finite tabT_nil)
theorem run_l02Above (N : Nat) (x : Nat) : run ty tab_l02Above ann0 N Try.f58 [.fl .f32 x] []
    = (match finB x with | true => some (.bool (gtB x 0), []) | false => some (.bool false, [])) := by
  kernel_rfl

theorem ok_l02Above : FnT Try.prog 58 (gT (gF1 posB)) := by
  refine fnT tabok_l02Above Try.func58 rfl rfl ann0 fun vs h v h' e => ⟨0, ?_⟩
  rw [T.run_of] at e
  unfold gF1 at e
  split at e
  case h_2 => cases e
  rename_i x
  cases e
  refine Eq.trans (run_l02Above 0 x) ?_
  unfold posB
  cases finB x <;> rfl
def tab_l02Least : Fns := tabT [(76, gT (gF1 finB))]
theorem tabok_l02Least : ∀ f, FnT Try.prog f (tab_l02Least f) := (tabT_cons (k := 76) ok_l01Finite tabT_nil)
theorem run_l02Least (N : Nat) (x : Nat) : run ty tab_l02Least ann0 N Try.f57 [.fl .f32 x] []
    = (match finB x with | true => some (.bool (gtB x 0 || eqB x 0), []) | false => some (.bool false, [])) := by
  kernel_rfl

theorem ok_l02Least : FnT Try.prog 57 (gT (gF1 nonB)) := by
  refine fnT tabok_l02Least Try.func57 rfl rfl ann0 fun vs h v h' e => ⟨0, ?_⟩
  rw [T.run_of] at e
  unfold gF1 at e
  split at e
  case h_2 => cases e
  rename_i x
  cases e
  refine Eq.trans (run_l02Least 0 x) ?_
  unfold nonB
  cases finB x <;> rfl
def tab_l03Least : Fns := tabT [(76, gT (gF1 finB))]
theorem tabok_l03Least : ∀ f, FnT Try.prog f (tab_l03Least f) := (tabT_cons (k := 76) ok_l01Finite tabT_nil)
theorem run_l03Least (N : Nat) (x : Nat) : run ty tab_l03Least ann0 N Try.f95 [.fl .f32 x] []
    = (match finB x with | true => some (.bool (gtB x 0 || eqB x 0), []) | false => some (.bool false, [])) := by
  kernel_rfl

theorem ok_l03Least : FnT Try.prog 95 (gT (gF1 nonB)) := by
  refine fnT tabok_l03Least Try.func95 rfl rfl ann0 fun vs h v h' e => ⟨0, ?_⟩
  rw [T.run_of] at e
  unfold gF1 at e
  split at e
  case h_2 => cases e
  rename_i x
  cases e
  refine Eq.trans (run_l03Least 0 x) ?_
  unfold nonB
  cases finB x <;> rfl
def inB (n lo hi : Int) : Bool := decide (n ≥ lo) && decide (n ≤ hi)
def gIn : G := fun vs h => match vs, h with | [.int .i64 n, .int .i64 a, .int .i64 b], [] => some (.bool (inB n a b), []) | _, _ => none

def tab_l00In : Fns := tabT []
theorem tabok_l00In : ∀ f, FnT Try.prog f (tab_l00In f) := tabT_nil
theorem run_l00In (N : Nat) (n : Int) (a : Int) (b : Int) : run ty tab_l00In ann0 N Try.f81 [.int .i64 n, .int .i64 a, .int .i64 b] []
    = (match decide ((n : Int) ≥ a) with | true => some (.bool (decide ((n : Int) ≤ b)), []) | false => some (.bool false, [])) := by
  kernel_rfl

theorem ok_l00In : FnT Try.prog 81 (gT gIn) := by
  refine fnT tabok_l00In Try.func81 rfl rfl ann0 fun vs h v h' e => ⟨0, ?_⟩
  rw [T.run_of] at e
  unfold gIn at e
  split at e
  case h_2 => cases e
  rename_i n a b
  cases e
  refine Eq.trans (run_l00In 0 n a b) ?_
  unfold inB
  cases decide (n ≥ a) <;> rfl
def tab_within : Fns := tabT []
theorem tabok_within : ∀ f, FnT Try.prog f (tab_within f) := tabT_nil
theorem run_within (N : Nat) (n : Int) (a : Int) (b : Int) : run ty tab_within ann0 N Try.f66 [.int .i64 n, .int .i64 a, .int .i64 b] []
    = (match decide ((n : Int) ≥ a) with | true => some (.bool (decide ((n : Int) ≤ b)), []) | false => some (.bool false, [])) := by
  kernel_rfl

theorem ok_within : FnT Try.prog 66 (gT gIn) := by
  refine fnT tabok_within Try.func66 rfl rfl ann0 fun vs h v h' e => ⟨0, ?_⟩
  rw [T.run_of] at e
  unfold gIn at e
  split at e
  case h_2 => cases e
  rename_i n a b
  cases e
  refine Eq.trans (run_within 0 n a b) ?_
  unfold inB
  cases decide (n ≥ a) <;> rfl
def gIxT (f : FuncId) (p : Nat → Bool) : GT := fun vs h => match vs, h with
  | [.sl 0 0 n, .fn f'], [.at rw (.fl .f32 l)] => if f' = f then .ite (decide (l.length = n ∧ n < 2147483648)) (.ret (.int .i64 (ixOf p l)) [.at rw (.fl .f32 l)]) .no else .no
  | [.nil, .fn f'], [] => if f' = f then .ret (.int .i64 (-1)) [] else .no
  | _, _ => .no
def gCoT (f : FuncId) (p : Nat → Bool) : GT := fun vs h => match vs, h with
  | [.sl 0 0 n, .fn f'], [.at rw (.fl .f32 l)] => if f' = f then .ite (decide (l.length = n ∧ n < 2147483648)) (.ret (.bool (decide (ixOf p l ≥ 0))) [.at rw (.fl .f32 l)]) .no else .no
  | [.nil, .fn f'], [] => if f' = f then .ret (.bool false) [] else .no
  | _, _ => .no
def gAllT (p : Nat → Bool) : GT := fun vs h => match vs, h with
  | [.sl 0 0 n], [.at rw (.fl .f32 l)] => .ite (decide (l.length = n ∧ n < 2147483648)) (.ret (.bool (l.all p)) [.at rw (.fl .f32 l)]) .no
  | [.nil], [] => .ret (.bool true) []
  | _, _ => .no

def tab_fin1 : Fns := tabT [(60, gT (gF1 finB))]
theorem tabok_fin1 : ∀ f, FnT Try.prog f (tab_fin1 f) := (tabT_cons (k := 60) ok_IsFinite tabT_nil)
theorem run_fin1 (N : Nat) (x : Nat) : run ty tab_fin1 ann0 N Try.f88 [.fl .f32 x] []
    = some (.bool (!(finB x)), []) := by
  kernel_rfl

theorem ok_fin1 : FnT Try.prog 88 (gT (gF1 (fun x => !finB x))) := by
  refine fnT tabok_fin1 Try.func88 rfl rfl ann0 fun vs h v h' e => ⟨0, ?_⟩
  rw [T.run_of] at e
  unfold gF1 at e
  split at e
  case h_2 => cases e
  rename_i x
  cases e
  refine Eq.trans (run_fin1 0 x) ?_
  show _ = some (V.bool (!finB x), [])
  rfl
def an_ixfin : Ann := ⟨fun r => if r = 2 then some ([0, 1, 7, 8], [4]) else none, fun _ _ => .quiet⟩
def tab_ixfin : Fns := tabT [(88, gT (gF1 (fun x => !finB x)))]
theorem tabok_ixfin : ∀ f, FnT Try.prog f (tab_ixfin f) := (tabT_cons (k := 88) ok_fin1 tabT_nil)
def st_ixfin2 (s0n : Nat) (t7 : Int) (t8 : Int) (rw0 : Bool) (l0 : List Nat) : St := ⟨(.sl 0 0 s0n :: .fn 88 :: .any :: .any :: .any :: .any :: .any :: .int .i64 t7 :: .int .i64 t8 :: (anys 10 [])), [.at rw0 (.fl .f32 l0)]⟩
abbrev kp_ixfin2 : Option (List Nat × List Nat) := some ([0, 1, 7, 8], [4])
noncomputable def lp_ixfin2 {R : Type} (N M : Nat) (s : St) (K : X → St → Option R) : Option R := loopH 1 kp_ixfin2 (fun st K => exec ty tab_ixfin an_ixfin N 1 (atOf [true, false, true, false, false] Try.f106) st K) M s K
noncomputable def bk_ixfin2 {R : Type} (N M : Nat) (K : X → St → Option R) : X → St → Option R := fun x st => match x with | .norm => tidyK 1 (kp_ixfin2.map (·.1)) st fun st => lp_ixfin2 N M st K | x => tidyK 1 (kp_ixfin2.map (·.2)) st fun st => K x st
noncomputable def kt_ixfin2 {R : Type} (N : Nat) (K : X → St → Option R) : X → St → Option R := kBlkR 0 (kSeqR tab_ixfin an_ixfin N 1 (atOf [true, true] Try.f106) (K))
def en_ixfin2_0 (t4 : Int) (rw0 : Bool) (l0 : List Nat) : St := ⟨(.any :: .any :: .any :: .any :: .int .i64 t4 :: (anys 14 [])), [.at rw0 (.fl .f32 l0)]⟩
def en_ixfin2_1 (rw0 : Bool) (l0 : List Nat) : St := ⟨(anys 19 []), [.at rw0 (.fl .f32 l0)]⟩
theorem run_ixfin (N : Nat) (n : Nat) (rw : Bool) (l : List Nat) : run ty tab_ixfin an_ixfin N Try.f106 [.sl 0 0 n, .fn 88] [.at rw (.fl .f32 l)]
    = lp_ixfin2 N N (st_ixfin2 n ((n : Nat) : Int) 0 rw l) (kt_ixfin2 N (kEnd Try.f106 1)) := by
  kernel_rfl
theorem step_ixfin2 {R : Type} (N M : Nat) (K : X → St → Option R) (s0n : Nat) (t7 : Int) (t8 : Int) (rw0 : Bool) (l0 : List Nat) : lp_ixfin2 N (M + 1) (st_ixfin2 s0n t7 t8 rw0 l0) K
    = (match decide ((t8 : Int) < t7) with | true => (match decide (0 ≤ (t8 : Int) ∧ (t8 : Int) < ((s0n : Nat) : Int)) with | true => (match l0[0 + (t8).toNat * 1]? with | some e1 => (match !finB e1 with | true => K .ret (en_ixfin2_0 t8 rw0 l0) | false => lp_ixfin2 N M (st_ixfin2 s0n t7 (IntKind.i64.wrap (t8 + 1)) rw0 l0) K) | none => none) | false => none) | false => K (.exit 0) (en_ixfin2_1 rw0 l0)) := by
  kernel_rfl
theorem end_ixfin2_0 (N : Nat) (t4 : Int) (rw0 : Bool) (l0 : List Nat) : kt_ixfin2 N (kEnd Try.f106 1) .ret (en_ixfin2_0 t4 rw0 l0)
    = some (.int .i64 t4, [.at rw0 (.fl .f32 l0)]) := by
  kernel_rfl
theorem end_ixfin2_1 (N : Nat) (rw0 : Bool) (l0 : List Nat) : kt_ixfin2 N (kEnd Try.f106 1) (.exit 0) (en_ixfin2_1 rw0 l0)
    = some (.int .i64 (-1), [.at rw0 (.fl .f32 l0)]) := by
  kernel_rfl

theorem ok_ixfin : FnT Try.prog 106 (gIxT 88 (fun x => !finB x)) := by
  refine fnT tabok_ixfin Try.func106 rfl rfl an_ixfin fun vs h v h' e => ?_
  unfold gIxT at e
  split at e
  · rename_i n f' rw l
    split at e
    · rename_i hf
      subst hf
      obtain ⟨hd, e⟩ := T.pre_inv e
      obtain ⟨rfl, rfl⟩ := T.ret_inv e
      obtain ⟨rfl, hb⟩ := of_decide_eq_true hd
      refine ⟨l.length + 1, Eq.trans (run_ixfin _ _ _ _) ?_⟩
      refine Eq.trans (scan0 l (fun x => !finB x) (fun M i => lp_ixfin2 (l.length + 1) M (st_ixfin2 l.length ((l.length : Nat) : Int) i rw l) (kt_ixfin2 (l.length + 1) (kEnd Try.f106 1))) (fun j => some (.int .i64 (j : Int), [.at rw (.fl .f32 l)])) (some (.int .i64 (-1), [.at rw (.fl .f32 l)])) (fun M i x hx => ?_) (fun M => ?_)) ?_
      · have hi := lt_of_get hx
        simp only [step_ixfin2, dlt hi, din hi, ix, hx, wr (show i < 2147483648 by omega), end_ixfin2_0] <;> (cases !finB x <;> rfl)
      · simp only [step_ixfin2, dge (Nat.le_refl _), end_ixfin2_1]
      · unfold ixOf
        cases firstIx (fun x => !finB x) l 0 <;> rfl
    · exact (T.no_inv e).elim
  · split at e
    · rename_i hf
      subst hf
      obtain ⟨rfl, rfl⟩ := T.ret_inv e
      exact ⟨1, by kernel_rfl⟩
    · exact (T.no_inv e).elim
  · exact (T.no_inv e).elim
def tab_cofin : Fns := tabT [(106, gIxT 88 (fun x => !finB x))]
theorem tabok_cofin : ∀ f, FnT Try.prog f (tab_cofin f) := (tabT_cons (k := 106) ok_ixfin tabT_nil)
theorem run_cofin (N : Nat) (n : Nat) (rw : Bool) (l : List Nat) : run ty tab_cofin ann0 N Try.f87 [.sl 0 0 n, .fn 88] [.at rw (.fl .f32 l)]
    = (match decide (l.length = n ∧ n < 2147483648) with | true => some (.bool (decide ((ixOf (fun x => !finB x) l : Int) ≥ 0)), [.at rw (.fl .f32 l)]) | false => none) := by
  kernel_rfl

theorem ok_cofin : FnT Try.prog 87 (gCoT 88 (fun x => !finB x)) := by
  refine fnT tabok_cofin Try.func87 rfl rfl ann0 fun vs h v h' e => ⟨0, ?_⟩
  unfold gCoT at e
  split at e
  · split at e
    · rename_i n f' rw l hf
      subst hf
      obtain ⟨hd, e⟩ := T.pre_inv e
      obtain ⟨rfl, rfl⟩ := T.ret_inv e
      refine Eq.trans (run_cofin 0 _ _ _) ?_
      rw [hd]
    · exact (T.no_inv e).elim
  · split at e
    · rename_i hf
      subst hf
      obtain ⟨rfl, rfl⟩ := T.ret_inv e
      kernel_rfl
    · exact (T.no_inv e).elim
  · exact (T.no_inv e).elim
def tab_areFinite : Fns := tabT [(87, gCoT 88 (fun x => !finB x))]
theorem tabok_areFinite : ∀ f, FnT Try.prog f (tab_areFinite f) := (tabT_cons (k := 87) ok_cofin tabT_nil)
theorem run_areFinite (N : Nat) (n : Nat) (rw : Bool) (l : List Nat) : run ty tab_areFinite ann0 N Try.f54 [.sl 0 0 n] [.at rw (.fl .f32 l)]
    = (match decide (l.length = n ∧ n < 2147483648) with | true => some (.bool (!(decide (ixOf (fun x => !finB x) l ≥ 0))), [.at rw (.fl .f32 l)]) | false => none) := by
  kernel_rfl

theorem ok_areFinite : FnT Try.prog 54 (gAllT finB) := by
  refine fnT tabok_areFinite Try.func54 rfl rfl ann0 fun vs h v h' e => ⟨0, ?_⟩
  unfold gAllT at e
  split at e
  · obtain ⟨hd, e⟩ := T.pre_inv e
    obtain ⟨rfl, rfl⟩ := T.ret_inv e
    refine Eq.trans (run_areFinite 0 _ _ _) ?_
    rw [hd, ← ix_all finB]
  · obtain ⟨rfl, rfl⟩ := T.ret_inv e
    kernel_rfl
  · exact (T.no_inv e).elim
def tab_pos1 : Fns := tabT [(60, gT (gF1 finB))]
theorem tabok_pos1 : ∀ f, FnT Try.prog f (tab_pos1 f) := (tabT_cons (k := 60) ok_IsFinite tabT_nil)
theorem run_pos1 (N : Nat) (x : Nat) : run ty tab_pos1 ann0 N Try.f89 [.fl .f32 x] []
    = (match !(finB x) with | true => some (.bool true, []) | false => some (.bool (ltB x 0 || eqB x 0), [])) := by
  kernel_rfl

theorem ok_pos1 : FnT Try.prog 89 (gT (gF1 (fun x => !posB x))) := by
  refine fnT tabok_pos1 Try.func89 rfl rfl ann0 fun vs h v h' e => ⟨0, ?_⟩
  rw [T.run_of] at e
  unfold gF1 at e
  split at e
  case h_2 => cases e
  rename_i x
  cases e
  refine Eq.trans (run_pos1 0 x) ?_
  show _ = some (V.bool (!posB x), [])
  rw [← not_pos]
  cases finB x <;> rfl
def an_ixpos : Ann := ⟨fun r => if r = 2 then some ([0, 1, 7, 8], [4]) else none, fun _ _ => .quiet⟩
def tab_ixpos : Fns := tabT [(89, gT (gF1 (fun x => !posB x)))]
theorem tabok_ixpos : ∀ f, FnT Try.prog f (tab_ixpos f) := (tabT_cons (k := 89) ok_pos1 tabT_nil)
def st_ixpos2 (s0n : Nat) (t7 : Int) (t8 : Int) (rw0 : Bool) (l0 : List Nat) : St := ⟨(.sl 0 0 s0n :: .fn 89 :: .any :: .any :: .any :: .any :: .any :: .int .i64 t7 :: .int .i64 t8 :: (anys 10 [])), [.at rw0 (.fl .f32 l0)]⟩
abbrev kp_ixpos2 : Option (List Nat × List Nat) := some ([0, 1, 7, 8], [4])
noncomputable def lp_ixpos2 {R : Type} (N M : Nat) (s : St) (K : X → St → Option R) : Option R := loopH 1 kp_ixpos2 (fun st K => exec ty tab_ixpos an_ixpos N 1 (atOf [true, false, true, false, false] Try.f106) st K) M s K
noncomputable def bk_ixpos2 {R : Type} (N M : Nat) (K : X → St → Option R) : X → St → Option R := fun x st => match x with | .norm => tidyK 1 (kp_ixpos2.map (·.1)) st fun st => lp_ixpos2 N M st K | x => tidyK 1 (kp_ixpos2.map (·.2)) st fun st => K x st
noncomputable def kt_ixpos2 {R : Type} (N : Nat) (K : X → St → Option R) : X → St → Option R := kBlkR 0 (kSeqR tab_ixpos an_ixpos N 1 (atOf [true, true] Try.f106) (K))
def en_ixpos2_0 (t4 : Int) (rw0 : Bool) (l0 : List Nat) : St := ⟨(.any :: .any :: .any :: .any :: .int .i64 t4 :: (anys 14 [])), [.at rw0 (.fl .f32 l0)]⟩
def en_ixpos2_1 (rw0 : Bool) (l0 : List Nat) : St := ⟨(anys 19 []), [.at rw0 (.fl .f32 l0)]⟩
theorem run_ixpos (N : Nat) (n : Nat) (rw : Bool) (l : List Nat) : run ty tab_ixpos an_ixpos N Try.f106 [.sl 0 0 n, .fn 89] [.at rw (.fl .f32 l)]
    = lp_ixpos2 N N (st_ixpos2 n ((n : Nat) : Int) 0 rw l) (kt_ixpos2 N (kEnd Try.f106 1)) := by
  kernel_rfl
theorem step_ixpos2 {R : Type} (N M : Nat) (K : X → St → Option R) (s0n : Nat) (t7 : Int) (t8 : Int) (rw0 : Bool) (l0 : List Nat) : lp_ixpos2 N (M + 1) (st_ixpos2 s0n t7 t8 rw0 l0) K
    = (match decide ((t8 : Int) < t7) with | true => (match decide (0 ≤ (t8 : Int) ∧ (t8 : Int) < ((s0n : Nat) : Int)) with | true => (match l0[0 + (t8).toNat * 1]? with | some e1 => (match !posB e1 with | true => K .ret (en_ixpos2_0 t8 rw0 l0) | false => lp_ixpos2 N M (st_ixpos2 s0n t7 (IntKind.i64.wrap (t8 + 1)) rw0 l0) K) | none => none) | false => none) | false => K (.exit 0) (en_ixpos2_1 rw0 l0)) := by
  kernel_rfl
theorem end_ixpos2_0 (N : Nat) (t4 : Int) (rw0 : Bool) (l0 : List Nat) : kt_ixpos2 N (kEnd Try.f106 1) .ret (en_ixpos2_0 t4 rw0 l0)
    = some (.int .i64 t4, [.at rw0 (.fl .f32 l0)]) := by
  kernel_rfl
theorem end_ixpos2_1 (N : Nat) (rw0 : Bool) (l0 : List Nat) : kt_ixpos2 N (kEnd Try.f106 1) (.exit 0) (en_ixpos2_1 rw0 l0)
    = some (.int .i64 (-1), [.at rw0 (.fl .f32 l0)]) := by
  kernel_rfl

theorem ok_ixpos : FnT Try.prog 106 (gIxT 89 (fun x => !posB x)) := by
  refine fnT tabok_ixpos Try.func106 rfl rfl an_ixpos fun vs h v h' e => ?_
  unfold gIxT at e
  split at e
  · rename_i n f' rw l
    split at e
    · rename_i hf
      subst hf
      obtain ⟨hd, e⟩ := T.pre_inv e
      obtain ⟨rfl, rfl⟩ := T.ret_inv e
      obtain ⟨rfl, hb⟩ := of_decide_eq_true hd
      refine ⟨l.length + 1, Eq.trans (run_ixpos _ _ _ _) ?_⟩
      refine Eq.trans (scan0 l (fun x => !posB x) (fun M i => lp_ixpos2 (l.length + 1) M (st_ixpos2 l.length ((l.length : Nat) : Int) i rw l) (kt_ixpos2 (l.length + 1) (kEnd Try.f106 1))) (fun j => some (.int .i64 (j : Int), [.at rw (.fl .f32 l)])) (some (.int .i64 (-1), [.at rw (.fl .f32 l)])) (fun M i x hx => ?_) (fun M => ?_)) ?_
      · have hi := lt_of_get hx
        simp only [step_ixpos2, dlt hi, din hi, ix, hx, wr (show i < 2147483648 by omega), end_ixpos2_0] <;> (cases !posB x <;> rfl)
      · simp only [step_ixpos2, dge (Nat.le_refl _), end_ixpos2_1]
      · unfold ixOf
        cases firstIx (fun x => !posB x) l 0 <;> rfl
    · exact (T.no_inv e).elim
  · split at e
    · rename_i hf
      subst hf
      obtain ⟨rfl, rfl⟩ := T.ret_inv e
      exact ⟨1, by kernel_rfl⟩
    · exact (T.no_inv e).elim
  · exact (T.no_inv e).elim
def tab_copos : Fns := tabT [(106, gIxT 89 (fun x => !posB x))]
theorem tabok_copos : ∀ f, FnT Try.prog f (tab_copos f) := (tabT_cons (k := 106) ok_ixpos tabT_nil)
theorem run_copos (N : Nat) (n : Nat) (rw : Bool) (l : List Nat) : run ty tab_copos ann0 N Try.f87 [.sl 0 0 n, .fn 89] [.at rw (.fl .f32 l)]
    = (match decide (l.length = n ∧ n < 2147483648) with | true => some (.bool (decide ((ixOf (fun x => !posB x) l : Int) ≥ 0)), [.at rw (.fl .f32 l)]) | false => none) := by
  kernel_rfl

theorem ok_copos : FnT Try.prog 87 (gCoT 89 (fun x => !posB x)) := by
  refine fnT tabok_copos Try.func87 rfl rfl ann0 fun vs h v h' e => ⟨0, ?_⟩
  unfold gCoT at e
  split at e
  · split at e
    · rename_i n f' rw l hf
      subst hf
      obtain ⟨hd, e⟩ := T.pre_inv e
      obtain ⟨rfl, rfl⟩ := T.ret_inv e
      refine Eq.trans (run_copos 0 _ _ _) ?_
      rw [hd]
    · exact (T.no_inv e).elim
  · split at e
    · rename_i hf
      subst hf
      obtain ⟨rfl, rfl⟩ := T.ret_inv e
      kernel_rfl
    · exact (T.no_inv e).elim
  · exact (T.no_inv e).elim
def tab_arePositive : Fns := tabT [(87, gCoT 89 (fun x => !posB x))]
theorem tabok_arePositive : ∀ f, FnT Try.prog f (tab_arePositive f) := (tabT_cons (k := 87) ok_copos tabT_nil)
theorem run_arePositive (N : Nat) (n : Nat) (rw : Bool) (l : List Nat) : run ty tab_arePositive ann0 N Try.f55 [.sl 0 0 n] [.at rw (.fl .f32 l)]
    = (match decide (l.length = n ∧ n < 2147483648) with | true => some (.bool (!(decide (ixOf (fun x => !posB x) l ≥ 0))), [.at rw (.fl .f32 l)]) | false => none) := by
  kernel_rfl

theorem ok_arePositive : FnT Try.prog 55 (gAllT posB) := by
  refine fnT tabok_arePositive Try.func55 rfl rfl ann0 fun vs h v h' e => ⟨0, ?_⟩
  unfold gAllT at e
  split at e
  · obtain ⟨hd, e⟩ := T.pre_inv e
    obtain ⟨rfl, rfl⟩ := T.ret_inv e
    refine Eq.trans (run_arePositive 0 _ _ _) ?_
    rw [hd, ← ix_all posB]
  · obtain ⟨rfl, rfl⟩ := T.ret_inv e
    kernel_rfl
  · exact (T.no_inv e).elim
def tab_rot1 : Fns := tabT [(60, gT (gF1 finB))]
theorem tabok_rot1 : ∀ f, FnT Try.prog f (tab_rot1 f) := (tabT_cons (k := 60) ok_IsFinite tabT_nil)
theorem run_rot1 (N : Nat) (x : Nat) : run ty tab_rot1 ann0 N Try.f99 [.fl .f32 x] []
    = (match !(finB x) with | true => some (.bool true, []) | false => some (.bool (ltB x 0), [])) := by
  kernel_rfl

theorem ok_rot1 : FnT Try.prog 99 (gT (gF1 (fun x => !nonB x))) := by
  refine fnT tabok_rot1 Try.func99 rfl rfl ann0 fun vs h v h' e => ⟨0, ?_⟩
  rw [T.run_of] at e
  unfold gF1 at e
  split at e
  case h_2 => cases e
  rename_i x
  cases e
  refine Eq.trans (run_rot1 0 x) ?_
  show _ = some (V.bool (!nonB x), [])
  rw [← not_non]
  cases finB x <;> rfl
def an_ixrot : Ann := ⟨fun r => if r = 2 then some ([0, 1, 7, 8], [4]) else none, fun _ _ => .quiet⟩
def tab_ixrot : Fns := tabT [(99, gT (gF1 (fun x => !nonB x)))]
theorem tabok_ixrot : ∀ f, FnT Try.prog f (tab_ixrot f) := (tabT_cons (k := 99) ok_rot1 tabT_nil)
def st_ixrot2 (s0n : Nat) (t7 : Int) (t8 : Int) (rw0 : Bool) (l0 : List Nat) : St := ⟨(.sl 0 0 s0n :: .fn 99 :: .any :: .any :: .any :: .any :: .any :: .int .i64 t7 :: .int .i64 t8 :: (anys 10 [])), [.at rw0 (.fl .f32 l0)]⟩
abbrev kp_ixrot2 : Option (List Nat × List Nat) := some ([0, 1, 7, 8], [4])
noncomputable def lp_ixrot2 {R : Type} (N M : Nat) (s : St) (K : X → St → Option R) : Option R := loopH 1 kp_ixrot2 (fun st K => exec ty tab_ixrot an_ixrot N 1 (atOf [true, false, true, false, false] Try.f106) st K) M s K
noncomputable def bk_ixrot2 {R : Type} (N M : Nat) (K : X → St → Option R) : X → St → Option R := fun x st => match x with | .norm => tidyK 1 (kp_ixrot2.map (·.1)) st fun st => lp_ixrot2 N M st K | x => tidyK 1 (kp_ixrot2.map (·.2)) st fun st => K x st
noncomputable def kt_ixrot2 {R : Type} (N : Nat) (K : X → St → Option R) : X → St → Option R := kBlkR 0 (kSeqR tab_ixrot an_ixrot N 1 (atOf [true, true] Try.f106) (K))
def en_ixrot2_0 (t4 : Int) (rw0 : Bool) (l0 : List Nat) : St := ⟨(.any :: .any :: .any :: .any :: .int .i64 t4 :: (anys 14 [])), [.at rw0 (.fl .f32 l0)]⟩
def en_ixrot2_1 (rw0 : Bool) (l0 : List Nat) : St := ⟨(anys 19 []), [.at rw0 (.fl .f32 l0)]⟩
theorem run_ixrot (N : Nat) (n : Nat) (rw : Bool) (l : List Nat) : run ty tab_ixrot an_ixrot N Try.f106 [.sl 0 0 n, .fn 99] [.at rw (.fl .f32 l)]
    = lp_ixrot2 N N (st_ixrot2 n ((n : Nat) : Int) 0 rw l) (kt_ixrot2 N (kEnd Try.f106 1)) := by
  kernel_rfl
theorem step_ixrot2 {R : Type} (N M : Nat) (K : X → St → Option R) (s0n : Nat) (t7 : Int) (t8 : Int) (rw0 : Bool) (l0 : List Nat) : lp_ixrot2 N (M + 1) (st_ixrot2 s0n t7 t8 rw0 l0) K
    = (match decide ((t8 : Int) < t7) with | true => (match decide (0 ≤ (t8 : Int) ∧ (t8 : Int) < ((s0n : Nat) : Int)) with | true => (match l0[0 + (t8).toNat * 1]? with | some e1 => (match !nonB e1 with | true => K .ret (en_ixrot2_0 t8 rw0 l0) | false => lp_ixrot2 N M (st_ixrot2 s0n t7 (IntKind.i64.wrap (t8 + 1)) rw0 l0) K) | none => none) | false => none) | false => K (.exit 0) (en_ixrot2_1 rw0 l0)) := by
  kernel_rfl
theorem end_ixrot2_0 (N : Nat) (t4 : Int) (rw0 : Bool) (l0 : List Nat) : kt_ixrot2 N (kEnd Try.f106 1) .ret (en_ixrot2_0 t4 rw0 l0)
    = some (.int .i64 t4, [.at rw0 (.fl .f32 l0)]) := by
  kernel_rfl
theorem end_ixrot2_1 (N : Nat) (rw0 : Bool) (l0 : List Nat) : kt_ixrot2 N (kEnd Try.f106 1) (.exit 0) (en_ixrot2_1 rw0 l0)
    = some (.int .i64 (-1), [.at rw0 (.fl .f32 l0)]) := by
  kernel_rfl

theorem ok_ixrot : FnT Try.prog 106 (gIxT 99 (fun x => !nonB x)) := by
  refine fnT tabok_ixrot Try.func106 rfl rfl an_ixrot fun vs h v h' e => ?_
  unfold gIxT at e
  split at e
  · rename_i n f' rw l
    split at e
    · rename_i hf
      subst hf
      obtain ⟨hd, e⟩ := T.pre_inv e
      obtain ⟨rfl, rfl⟩ := T.ret_inv e
      obtain ⟨rfl, hb⟩ := of_decide_eq_true hd
      refine ⟨l.length + 1, Eq.trans (run_ixrot _ _ _ _) ?_⟩
      refine Eq.trans (scan0 l (fun x => !nonB x) (fun M i => lp_ixrot2 (l.length + 1) M (st_ixrot2 l.length ((l.length : Nat) : Int) i rw l) (kt_ixrot2 (l.length + 1) (kEnd Try.f106 1))) (fun j => some (.int .i64 (j : Int), [.at rw (.fl .f32 l)])) (some (.int .i64 (-1), [.at rw (.fl .f32 l)])) (fun M i x hx => ?_) (fun M => ?_)) ?_
      · have hi := lt_of_get hx
        simp only [step_ixrot2, dlt hi, din hi, ix, hx, wr (show i < 2147483648 by omega), end_ixrot2_0] <;> (cases !nonB x <;> rfl)
      · simp only [step_ixrot2, dge (Nat.le_refl _), end_ixrot2_1]
      · unfold ixOf
        cases firstIx (fun x => !nonB x) l 0 <;> rfl
    · exact (T.no_inv e).elim
  · split at e
    · rename_i hf
      subst hf
      obtain ⟨rfl, rfl⟩ := T.ret_inv e
      exact ⟨1, by kernel_rfl⟩
    · exact (T.no_inv e).elim
  · exact (T.no_inv e).elim
def tab_corot : Fns := tabT [(106, gIxT 99 (fun x => !nonB x))]
theorem tabok_corot : ∀ f, FnT Try.prog f (tab_corot f) := (tabT_cons (k := 106) ok_ixrot tabT_nil)
theorem run_corot (N : Nat) (n : Nat) (rw : Bool) (l : List Nat) : run ty tab_corot ann0 N Try.f87 [.sl 0 0 n, .fn 99] [.at rw (.fl .f32 l)]
    = (match decide (l.length = n ∧ n < 2147483648) with | true => some (.bool (decide ((ixOf (fun x => !nonB x) l : Int) ≥ 0)), [.at rw (.fl .f32 l)]) | false => none) := by
  kernel_rfl

theorem ok_corot : FnT Try.prog 87 (gCoT 99 (fun x => !nonB x)) := by
  refine fnT tabok_corot Try.func87 rfl rfl ann0 fun vs h v h' e => ⟨0, ?_⟩
  unfold gCoT at e
  split at e
  · split at e
    · rename_i n f' rw l hf
      subst hf
      obtain ⟨hd, e⟩ := T.pre_inv e
      obtain ⟨rfl, rfl⟩ := T.ret_inv e
      refine Eq.trans (run_corot 0 _ _ _) ?_
      rw [hd]
    · exact (T.no_inv e).elim
  · split at e
    · rename_i hf
      subst hf
      obtain ⟨rfl, rfl⟩ := T.ret_inv e
      kernel_rfl
    · exact (T.no_inv e).elim
  · exact (T.no_inv e).elim
def tab_areRotor : Fns := tabT [(87, gCoT 99 (fun x => !nonB x))]
theorem tabok_areRotor : ∀ f, FnT Try.prog f (tab_areRotor f) := (tabT_cons (k := 87) ok_corot tabT_nil)
theorem run_areRotor (N : Nat) (n : Nat) (rw : Bool) (l : List Nat) : run ty tab_areRotor ann0 N Try.f73 [.sl 0 0 n] [.at rw (.fl .f32 l)]
    = (match decide (l.length = n ∧ n < 2147483648) with | true => some (.bool (!(decide (ixOf (fun x => !nonB x) l ≥ 0))), [.at rw (.fl .f32 l)]) | false => none) := by
  kernel_rfl

theorem ok_areRotor : FnT Try.prog 73 (gAllT nonB) := by
  refine fnT tabok_areRotor Try.func73 rfl rfl ann0 fun vs h v h' e => ⟨0, ?_⟩
  unfold gAllT at e
  split at e
  · obtain ⟨hd, e⟩ := T.pre_inv e
    obtain ⟨rfl, rfl⟩ := T.ret_inv e
    refine Eq.trans (run_areRotor 0 _ _ _) ?_
    rw [hd, ← ix_all nonB]
  · obtain ⟨rfl, rfl⟩ := T.ret_inv e
    kernel_rfl
  · exact (T.no_inv e).elim
def an_l02Finite : Ann := ⟨fun r => if r = 2 then some ([0, 3], [2]) else none, fun _ _ => .quiet⟩
def tab_l02Finite : Fns := tabT [(76, gT (gF1 finB))]
theorem tabok_l02Finite : ∀ f, FnT Try.prog f (tab_l02Finite f) := (tabT_cons (k := 76) ok_l01Finite tabT_nil)
def st_l02Finite2 (list0n : Nat) (i3 : Int) (rw0 : Bool) (l0 : List Nat) : St := ⟨(.sl 0 0 list0n :: .any :: .any :: .int .i64 i3 :: (anys 12 [])), [.at rw0 (.fl .f32 l0)]⟩
abbrev kp_l02Finite2 : Option (List Nat × List Nat) := some ([0, 3], [2])
noncomputable def lp_l02Finite2 {R : Type} (N M : Nat) (s : St) (K : X → St → Option R) : Option R := loopH 1 kp_l02Finite2 (fun st K => exec ty tab_l02Finite an_l02Finite N 1 (atOf [true, false, true, false, false] Try.f100) st K) M s K
noncomputable def bk_l02Finite2 {R : Type} (N M : Nat) (K : X → St → Option R) : X → St → Option R := fun x st => match x with | .norm => tidyK 1 (kp_l02Finite2.map (·.1)) st fun st => lp_l02Finite2 N M st K | x => tidyK 1 (kp_l02Finite2.map (·.2)) st fun st => K x st
noncomputable def kt_l02Finite2 {R : Type} (N : Nat) (K : X → St → Option R) : X → St → Option R := kBlkR 0 (kSeqR tab_l02Finite an_l02Finite N 1 (atOf [true, true] Try.f100) (K))
def en_l02Finite2_0 (rw0 : Bool) (l0 : List Nat) : St := ⟨(.any :: .any :: .bool false :: (anys 13 [])), [.at rw0 (.fl .f32 l0)]⟩
def en_l02Finite2_1 (rw0 : Bool) (l0 : List Nat) : St := ⟨(anys 16 []), [.at rw0 (.fl .f32 l0)]⟩
theorem run_l02Finite (N : Nat) (n : Nat) (rw : Bool) (l : List Nat) : run ty tab_l02Finite an_l02Finite N Try.f100 [.sl 0 0 n] [.at rw (.fl .f32 l)]
    = lp_l02Finite2 N N (st_l02Finite2 n 0 rw l) (kt_l02Finite2 N (kEnd Try.f100 1)) := by
  kernel_rfl
theorem step_l02Finite2 {R : Type} (N M : Nat) (K : X → St → Option R) (list0n : Nat) (i3 : Int) (rw0 : Bool) (l0 : List Nat) : lp_l02Finite2 N (M + 1) (st_l02Finite2 list0n i3 rw0 l0) K
    = (match decide ((i3 : Int) < ((list0n : Nat) : Int)) with | true => (match decide (0 ≤ (i3 : Int) ∧ (i3 : Int) < ((list0n : Nat) : Int)) with | true => (match l0[0 + (i3).toNat * 1]? with | some e1 => (match !(finB e1) with | true => K .ret (en_l02Finite2_0 rw0 l0) | false => lp_l02Finite2 N M (st_l02Finite2 list0n (IntKind.i64.wrap (i3 + 1)) rw0 l0) K) | none => none) | false => none) | false => K (.exit 0) (en_l02Finite2_1 rw0 l0)) := by
  kernel_rfl
theorem end_l02Finite2_0 (N : Nat) (rw0 : Bool) (l0 : List Nat) : kt_l02Finite2 N (kEnd Try.f100 1) .ret (en_l02Finite2_0 rw0 l0)
    = some (.bool false, [.at rw0 (.fl .f32 l0)]) := by
  kernel_rfl
theorem end_l02Finite2_1 (N : Nat) (rw0 : Bool) (l0 : List Nat) : kt_l02Finite2 N (kEnd Try.f100 1) (.exit 0) (en_l02Finite2_1 rw0 l0)
    = some (.bool true, [.at rw0 (.fl .f32 l0)]) := by
  kernel_rfl

theorem ok_l02Finite : FnT Try.prog 100 (gAllT finB) := by
  refine fnT tabok_l02Finite Try.func100 rfl rfl an_l02Finite fun vs h v h' e => ?_
  unfold gAllT at e
  split at e
  · rename_i n rw l
    obtain ⟨hd, e⟩ := T.pre_inv e
    obtain ⟨rfl, rfl⟩ := T.ret_inv e
    obtain ⟨rfl, hb⟩ := of_decide_eq_true hd
    refine ⟨l.length + 1, Eq.trans (run_l02Finite _ _ _ _) ?_⟩
    refine Eq.trans (scan0 l (fun x => !finB x) (fun M i => lp_l02Finite2 (l.length + 1) M (st_l02Finite2 l.length i rw l) (kt_l02Finite2 (l.length + 1) (kEnd Try.f100 1))) (fun _ => some (.bool false, [.at rw (.fl .f32 l)])) (some (.bool true, [.at rw (.fl .f32 l)])) (fun M i x hx => ?_) (fun M => ?_)) ?_
    · have hi := lt_of_get hx
      simp only [step_l02Finite2, dlt hi, din hi, ix, hx, wr (show i < 2147483648 by omega), end_l02Finite2_0] <;> (cases !finB x <;> rfl)
    · simp only [step_l02Finite2, dge (Nat.le_refl _), end_l02Finite2_1]
    · rw [← first_all finB l 0]
      cases firstIx (fun x => !finB x) l 0 <;> rfl
  · obtain ⟨rfl, rfl⟩ := T.ret_inv e
    exact ⟨1, by kernel_rfl⟩
  · exact (T.no_inv e).elim
def gLsT : GT := fun vs h => match vs, h with
  | [.sl 0 0 n], [.at rw (.fl .f32 l)] => .ite (decide (l.length = n ∧ n < 2147483648)) (.ite (l.all finB) (.ret (.tup [.a (.sl 0 0 n), .a (.bool true)]) [.at rw (.fl .f32 l)]) (.ret nilF [.at rw (.fl .f32 l)])) .no
  | _, _ => .no
abbrev pairV (b : Bool) (y : Nat) : V := .tup [.a (.fl .f32 y), .a (.bool b)]
def gNumT : GT := fun vs h => match vs, h with | [.fl .f32 x], [] => .ite (finB x) (.ret (pairV true x) []) (.ret (pairV false 0) []) | _, _ => .no

def tab_l02List : Fns := tabT [(100, gAllT finB)]
theorem tabok_l02List : ∀ f, FnT Try.prog f (tab_l02List f) := (tabT_cons (k := 100) ok_l02Finite tabT_nil)
theorem run_l02List (N : Nat) (n : Nat) (rw : Bool) (l : List Nat) : run ty tab_l02List ann0 N Try.f78 [.sl 0 0 n] [.at rw (.fl .f32 l)]
    = (match decide (l.length = n ∧ n < 2147483648) with | true => (match !(l.all finB) with | true => some (.tup [.a (.nil), .a (.bool false)], [.at rw (.fl .f32 l)]) | false => some (.tup [.a (.sl 0 0 n), .a (.bool true)], [.at rw (.fl .f32 l)])) | false => none) := by
  kernel_rfl

theorem ok_l02List : FnT Try.prog 78 gLsT := by
  refine fnT tabok_l02List Try.func78 rfl rfl ann0 fun vs h v h' e => ⟨0, ?_⟩
  unfold gLsT at e
  split at e
  · rename_i n rw l
    obtain ⟨hd, e⟩ := T.pre_inv e
    refine Eq.trans (run_l02List 0 _ _ _) (Eq.trans ?_ e)
    rw [hd]
    show _ = T.k _ _
    simp only [T.k]
    cases l.all finB <;> rfl
  · exact (T.no_inv e).elim
def tab_checkedNumbers : Fns := tabT [(54, gAllT finB)]
theorem tabok_checkedNumbers : ∀ f, FnT Try.prog f (tab_checkedNumbers f) := (tabT_cons (k := 54) ok_areFinite tabT_nil)
theorem run_checkedNumbers (N : Nat) (n : Nat) (rw : Bool) (l : List Nat) : run ty tab_checkedNumbers ann0 N Try.f56 [.sl 0 0 n] [.at rw (.fl .f32 l)]
    = (match decide (l.length = n ∧ n < 2147483648) with | true => (match !(l.all finB) with | true => some (.tup [.a (.nil), .a (.bool false)], [.at rw (.fl .f32 l)]) | false => some (.tup [.a (.sl 0 0 n), .a (.bool true)], [.at rw (.fl .f32 l)])) | false => none) := by
  kernel_rfl

theorem ok_checkedNumbers : FnT Try.prog 56 gLsT := by
  refine fnT tabok_checkedNumbers Try.func56 rfl rfl ann0 fun vs h v h' e => ⟨0, ?_⟩
  unfold gLsT at e
  split at e
  · rename_i n rw l
    obtain ⟨hd, e⟩ := T.pre_inv e
    refine Eq.trans (run_checkedNumbers 0 _ _ _) (Eq.trans ?_ e)
    rw [hd]
    show _ = T.k _ _
    simp only [T.k]
    cases l.all finB <;> rfl
  · exact (T.no_inv e).elim
def an_l03List : Ann := ⟨fun r => if r = 2 then some ([0, 6, 7], [0, 2, 3]) else none, fun _ _ => .quiet⟩
def tab_l03List : Fns := tabT [(76, gT (gF1 finB))]
theorem tabok_l03List : ∀ f, FnT Try.prog f (tab_l03List f) := (tabT_cons (k := 76) ok_l01Finite tabT_nil)
def st_l03List2 (list0n : Nat) (t6 : Int) (t7 : Int) (rw0 : Bool) (l0 : List Nat) : St := ⟨(.sl 0 0 list0n :: .any :: .any :: .any :: .any :: .any :: .int .i64 t6 :: .int .i64 t7 :: (anys 10 [])), [.at rw0 (.fl .f32 l0)]⟩
abbrev kp_l03List2 : Option (List Nat × List Nat) := some ([0, 6, 7], [0, 2, 3])
noncomputable def lp_l03List2 {R : Type} (N M : Nat) (s : St) (K : X → St → Option R) : Option R := loopH 1 kp_l03List2 (fun st K => exec ty tab_l03List an_l03List N 1 (atOf [true, false, true, false, false] Try.f98) st K) M s K
noncomputable def bk_l03List2 {R : Type} (N M : Nat) (K : X → St → Option R) : X → St → Option R := fun x st => match x with | .norm => tidyK 1 (kp_l03List2.map (·.1)) st fun st => lp_l03List2 N M st K | x => tidyK 1 (kp_l03List2.map (·.2)) st fun st => K x st
noncomputable def kt_l03List2 {R : Type} (N : Nat) (K : X → St → Option R) : X → St → Option R := kBlkR 0 (kSeqR tab_l03List an_l03List N 1 (atOf [true, true] Try.f98) (K))
def en_l03List2_0 (list0n : Nat) (rw0 : Bool) (l0 : List Nat) : St := ⟨(.sl 0 0 list0n :: .any :: .nil :: .bool false :: (anys 14 [])), [.at rw0 (.fl .f32 l0)]⟩
def en_l03List2_1 (list0n : Nat) (rw0 : Bool) (l0 : List Nat) : St := ⟨(.sl 0 0 list0n :: (anys 17 [])), [.at rw0 (.fl .f32 l0)]⟩
theorem run_l03List (N : Nat) (n : Nat) (rw : Bool) (l : List Nat) : run ty tab_l03List an_l03List N Try.f98 [.sl 0 0 n] [.at rw (.fl .f32 l)]
    = lp_l03List2 N N (st_l03List2 n ((n : Nat) : Int) 0 rw l) (kt_l03List2 N (kEnd Try.f98 1)) := by
  kernel_rfl
theorem step_l03List2 {R : Type} (N M : Nat) (K : X → St → Option R) (list0n : Nat) (t6 : Int) (t7 : Int) (rw0 : Bool) (l0 : List Nat) : lp_l03List2 N (M + 1) (st_l03List2 list0n t6 t7 rw0 l0) K
    = (match decide ((t7 : Int) < t6) with | true => (match decide (0 ≤ (t7 : Int) ∧ (t7 : Int) < ((list0n : Nat) : Int)) with | true => (match l0[0 + (t7).toNat * 1]? with | some e1 => (match !(finB e1) with | true => K .ret (en_l03List2_0 list0n rw0 l0) | false => lp_l03List2 N M (st_l03List2 list0n t6 (IntKind.i64.wrap (t7 + 1)) rw0 l0) K) | none => none) | false => none) | false => K (.exit 0) (en_l03List2_1 list0n rw0 l0)) := by
  kernel_rfl
theorem end_l03List2_0 (N : Nat) (list0n : Nat) (rw0 : Bool) (l0 : List Nat) : kt_l03List2 N (kEnd Try.f98 1) .ret (en_l03List2_0 list0n rw0 l0)
    = some (.tup [.a (.nil), .a (.bool false)], [.at rw0 (.fl .f32 l0)]) := by
  kernel_rfl
theorem end_l03List2_1 (N : Nat) (list0n : Nat) (rw0 : Bool) (l0 : List Nat) : kt_l03List2 N (kEnd Try.f98 1) (.exit 0) (en_l03List2_1 list0n rw0 l0)
    = some (.tup [.a (.sl 0 0 list0n), .a (.bool true)], [.at rw0 (.fl .f32 l0)]) := by
  kernel_rfl

theorem ok_l03List : FnT Try.prog 98 gLsT := by
  refine fnT tabok_l03List Try.func98 rfl rfl an_l03List fun vs h v h' e => ?_
  unfold gLsT at e
  split at e
  · rename_i n rw l
    obtain ⟨hd, e⟩ := T.pre_inv e
    obtain ⟨rfl, hb⟩ := of_decide_eq_true hd
    refine ⟨l.length + 1, Eq.trans (run_l03List _ _ _ _) (Eq.trans ?_ e)⟩
    refine Eq.trans (scan0 l (fun x => !finB x) (fun M i => lp_l03List2 (l.length + 1) M (st_l03List2 l.length l.length i rw l) (kt_l03List2 (l.length + 1) (kEnd Try.f98 1))) (fun j => some (nilF, [.at rw (.fl .f32 l)])) (some (.tup [.a (.sl 0 0 l.length), .a (.bool true)], [.at rw (.fl .f32 l)])) (fun M i x hx => ?_) (fun M => ?_)) ?_
    · have hi := lt_of_get hx
      simp only [step_l03List2, dlt hi, din hi, ix, hx, wr (show i < 2147483648 by omega), end_l03List2_0] <;> (cases !finB x <;> rfl)
    · simp only [step_l03List2, dge (Nat.le_refl _), end_l03List2_1]
    · show _ = T.k _ _
      simp only [T.k]
      rw [← first_all finB l 0]
      cases firstIx (fun x => !finB x) l 0 <;> rfl
  · exact (T.no_inv e).elim
def tab_l02Number : Fns := tabT [(76, gT (gF1 finB))]
theorem tabok_l02Number : ∀ f, FnT Try.prog f (tab_l02Number f) := (tabT_cons (k := 76) ok_l01Finite tabT_nil)
theorem run_l02Number (N : Nat) (x : Nat) : run ty tab_l02Number ann0 N Try.f52 [.fl .f32 x] []
    = (match !(finB x) with | true => some (.tup [.a (.fl .f32 0), .a (.bool false)], []) | false => some (.tup [.a (.fl .f32 x), .a (.bool true)], [])) := by
  kernel_rfl

theorem ok_l02Number : FnT Try.prog 52 (gNumT) := by
  refine fnT tabok_l02Number Try.func52 rfl rfl ann0 fun vs h v h' e => ⟨0, ?_⟩
  unfold gNumT at e
  split at e
  · rename_i x
    refine Eq.trans (run_l02Number 0 x) (Eq.trans ?_ e)
    show _ = T.k _ _
    simp only [T.k]
    cases finB x <;> rfl
  · exact (T.no_inv e).elim
def tab_checked : Fns := tabT [(60, gT (gF1 finB))]
theorem tabok_checked : ∀ f, FnT Try.prog f (tab_checked f) := (tabT_cons (k := 60) ok_IsFinite tabT_nil)
theorem run_checked (N : Nat) (x : Nat) : run ty tab_checked ann0 N Try.f53 [.fl .f32 x] []
    = (match !(finB x) with | true => some (.tup [.a (.fl .f32 0), .a (.bool false)], []) | false => some (.tup [.a (.fl .f32 x), .a (.bool true)], [])) := by
  kernel_rfl

theorem ok_checked : FnT Try.prog 53 (gNumT) := by
  refine fnT tabok_checked Try.func53 rfl rfl ann0 fun vs h v h' e => ⟨0, ?_⟩
  unfold gNumT at e
  split at e
  · rename_i x
    refine Eq.trans (run_checked 0 x) (Eq.trans ?_ e)
    show _ = T.k _ _
    simp only [T.k]
    cases finB x <;> rfl
  · exact (T.no_inv e).elim
theorem bne_order (a b : Nat) : (FloatKind.f64.format.order a b != some .eq) = !eqD a b := rfl
def tab_sameFloat : Fns := tabT []
theorem tabok_sameFloat : ∀ f, FnT Try.prog f (tab_sameFloat f) := tabT_nil
theorem run_sameFloat (N : Nat) (a : Nat) (b : Nat) : run ty tab_sameFloat ann0 N Try.f17 [.fl .f64 a, .fl .f64 b] []
    = (match FloatKind.f64.format.order a a != some .eq with | true => (match FloatKind.f64.format.order a a != some .eq with | true => some (.bool (FloatKind.f64.format.order b b != some .eq), []) | false => some (.bool false, [])) | false => (match FloatKind.f64.format.order b b != some .eq with | true => (match FloatKind.f64.format.order a a != some .eq with | true => some (.bool (FloatKind.f64.format.order b b != some .eq), []) | false => some (.bool false, [])) | false => (match eqD a 0 with | true => (match eqD b 0 with | true => some (.bool ((gtD (fop .quo .f64 4607182418800017408 a) 0) == (gtD (fop .quo .f64 4607182418800017408 b) 0)), []) | false => some (.bool (eqD a b), [])) | false => some (.bool (eqD a b), [])))) := by
  kernel_rfl

theorem ok_sameFloat : FnT Try.prog 17 (gT gSame) := by
  refine fnT tabok_sameFloat Try.func17 rfl rfl ann0 fun vs h v h' e => ⟨0, ?_⟩
  rw [T.run_of] at e
  unfold gSame at e
  split at e
  case h_2 => cases e
  rename_i a b
  cases e
  refine Eq.trans (run_sameFloat 0 a b) ?_
  unfold sameB
  show _ = some (V.bool (cond (!eqD a a || !eqD b b) (!eqD a a && !eqD b b) (cond (eqD a 0 && eqD b 0) (gtD (fop .quo .f64 4607182418800017408 a) 0 == gtD (fop .quo .f64 4607182418800017408 b) 0) (eqD a b))), [])
  simp only [bne_order]
  cases eqD a a <;> cases eqD b b <;> cases eqD a 0 <;> cases eqD b 0 <;> rfl
def eqFB (l l' : List Nat) : Bool := (l.length == l'.length) && (firstIx (fun p : Nat × Nat => !sameB (up p.1) (up p.2)) (l.zip l') 0).isNone
theorem firstIx_self (l : List Nat) : ∀ i, (firstIx (fun p : Nat × Nat => !sameB (up p.1) (up p.2)) (l.zip l) i) = none := by
  induction l with
  | nil => intro i; rfl
  | cons x l ih => intro i; simp only [List.zip_cons_cons, firstIx, sameB_self, Bool.not_true]; exact ih (i + 1)
theorem eqFB_self (l : List Nat) : eqFB l l = true := by
  unfold eqFB
  rw [firstIx_self]
  simp
def gEqT : GT := fun vs h => match vs, h with
  | [.sl 0 0 n, .sl 1 0 m], [.at r1 (.fl .f32 l), .at r2 (.fl .f32 l')] => .ite (decide (l.length = n ∧ l'.length = m ∧ n < 2147483648 ∧ m < 2147483648)) (.ret (.bool (eqFB l l')) [.at r1 (.fl .f32 l), .at r2 (.fl .f32 l')]) .no
  | [.nil, .nil], [] => .ret (.bool true) []
  | _, _ => .no
theorem zip_get {l l' : List Nat} {i : Nat} {x : Nat × Nat} (h : (l.zip l')[i]? = some x) : l[i]? = some x.1 ∧ l'[i]? = some x.2 := by
  rw [List.getElem?_zip_eq_some] at h
  exact h
def an_eqF : Ann := ⟨fun r => if r = 4 then some ([0, 1, 5], [4]) else none, fun _ _ => .quiet⟩
def tab_eqF : Fns := tabT [(17, gT gSame)]
theorem tabok_eqF : ∀ f, FnT Try.prog f (tab_eqF f) := (tabT_cons (k := 17) ok_sameFloat tabT_nil)
def st_eqF4 (a0n : Nat) (b1n : Nat) (i5 : Int) (rw0 : Bool) (l0 : List Nat) (rw1 : Bool) (l1 : List Nat) : St := ⟨(.sl 0 0 a0n :: .sl 1 0 b1n :: .any :: .any :: .any :: .int .i64 i5 :: (anys 23 [])), [.at rw0 (.fl .f32 l0), .at rw1 (.fl .f32 l1)]⟩
abbrev kp_eqF4 : Option (List Nat × List Nat) := some ([0, 1, 5], [4])
noncomputable def lp_eqF4 {R : Type} (N M : Nat) (s : St) (K : X → St → Option R) : Option R := loopH 2 kp_eqF4 (fun st K => exec ty tab_eqF an_eqF N 2 (atOf [true, true, false, true, false, false] Try.f20) st K) M s K
noncomputable def bk_eqF4 {R : Type} (N M : Nat) (K : X → St → Option R) : X → St → Option R := fun x st => match x with | .norm => tidyK 2 (kp_eqF4.map (·.1)) st fun st => lp_eqF4 N M st K | x => tidyK 2 (kp_eqF4.map (·.2)) st fun st => K x st
noncomputable def kt_eqF4 {R : Type} (N : Nat) (K : X → St → Option R) : X → St → Option R := kBlkR 0 (kSeqR tab_eqF an_eqF N 2 (atOf [true, true, true] Try.f20) (K))
def en_eqF4_0 (rw0 : Bool) (l0 : List Nat) (rw1 : Bool) (l1 : List Nat) : St := ⟨(.any :: .any :: .any :: .any :: .bool false :: (anys 24 [])), [.at rw0 (.fl .f32 l0), .at rw1 (.fl .f32 l1)]⟩
def en_eqF4_1 (rw0 : Bool) (l0 : List Nat) (rw1 : Bool) (l1 : List Nat) : St := ⟨(anys 29 []), [.at rw0 (.fl .f32 l0), .at rw1 (.fl .f32 l1)]⟩
theorem run_eqF (N : Nat) (n : Nat) (m : Nat) (r1 : Bool) (l : List Nat) (r2 : Bool) (l' : List Nat) : run ty tab_eqF an_eqF N Try.f20 [.sl 0 0 n, .sl 1 0 m] [.at r1 (.fl .f32 l), .at r2 (.fl .f32 l')]
    = (match ((n : Nat) : Int) != ((m : Nat) : Int) with | true => some (.bool false, [.at r1 (.fl .f32 l), .at r2 (.fl .f32 l')]) | false => lp_eqF4 N N (st_eqF4 n m 0 r1 l r2 l') (kt_eqF4 N (kEnd Try.f20 2))) := by
  kernel_rfl
theorem step_eqF4 {R : Type} (N M : Nat) (K : X → St → Option R) (a0n : Nat) (b1n : Nat) (i5 : Int) (rw0 : Bool) (l0 : List Nat) (rw1 : Bool) (l1 : List Nat) : lp_eqF4 N (M + 1) (st_eqF4 a0n b1n i5 rw0 l0 rw1 l1) K
    = (match decide ((i5 : Int) < ((a0n : Nat) : Int)) with | true => (match decide (0 ≤ (i5 : Int) ∧ (i5 : Int) < ((a0n : Nat) : Int)) with | true => (match l0[0 + (i5).toNat * 1]? with | some e1 => (match fconv .f32 e1 .f64 with | some c2 => (match decide (0 ≤ (i5 : Int) ∧ (i5 : Int) < ((b1n : Nat) : Int)) with | true => (match l1[0 + (i5).toNat * 1]? with | some e3 => (match fconv .f32 e3 .f64 with | some c4 => (match !(sameB c2 c4) with | true => K .ret (en_eqF4_0 rw0 l0 rw1 l1) | false => lp_eqF4 N M (st_eqF4 a0n b1n (IntKind.i64.wrap (i5 + 1)) rw0 l0 rw1 l1) K) | none => none) | none => none) | false => none) | none => none) | none => none) | false => none) | false => K (.exit 0) (en_eqF4_1 rw0 l0 rw1 l1)) := by
  kernel_rfl
theorem end_eqF4_0 (N : Nat) (rw0 : Bool) (l0 : List Nat) (rw1 : Bool) (l1 : List Nat) : kt_eqF4 N (kEnd Try.f20 2) .ret (en_eqF4_0 rw0 l0 rw1 l1)
    = some (.bool false, [.at rw0 (.fl .f32 l0), .at rw1 (.fl .f32 l1)]) := by
  kernel_rfl
theorem end_eqF4_1 (N : Nat) (rw0 : Bool) (l0 : List Nat) (rw1 : Bool) (l1 : List Nat) : kt_eqF4 N (kEnd Try.f20 2) (.exit 0) (en_eqF4_1 rw0 l0 rw1 l1)
    = some (.bool true, [.at rw0 (.fl .f32 l0), .at rw1 (.fl .f32 l1)]) := by
  kernel_rfl

theorem ok_eqF : FnT Try.prog 20 gEqT := by
  refine fnT tabok_eqF Try.func20 rfl rfl an_eqF fun vs h v h' e => ?_
  unfold gEqT at e
  split at e
  · rename_i n m r1 l r2 l'
    obtain ⟨hd, e⟩ := T.pre_inv e
    obtain ⟨rfl, rfl⟩ := T.ret_inv e
    obtain ⟨rfl, rfl, hb, hb'⟩ := of_decide_eq_true hd
    refine ⟨l.length + 1, Eq.trans (run_eqF _ _ _ _ _ _ _) ?_⟩
    unfold eqFB
    by_cases hl : l.length = l'.length
    · rw [show ((l.length : Int) != (l'.length : Int)) = false by simp; omega, show (l.length == l'.length) = true by simpa using hl]
      have hz : (l.zip l').length = l.length := by simp; omega
      refine Eq.trans (b := match firstIx (fun p : Nat × Nat => !sameB (up p.1) (up p.2)) (l.zip l') 0 with | some _ => some (.bool false, [.at r1 (.fl .f32 l), .at r2 (.fl .f32 l')]) | none => some (.bool true, [.at r1 (.fl .f32 l), .at r2 (.fl .f32 l')])) ?_ (by cases firstIx (fun p : Nat × Nat => !sameB (up p.1) (up p.2)) (l.zip l') 0 <;> rfl)
      have hs := scan0 (l.zip l') (fun p : Nat × Nat => !sameB (up p.1) (up p.2)) (fun M i => lp_eqF4 (l.length + 1) M (st_eqF4 l.length l'.length i r1 l r2 l') (kt_eqF4 (l.length + 1) (kEnd Try.f20 2))) (fun _ => some (.bool false, [.at r1 (.fl .f32 l), .at r2 (.fl .f32 l')])) (some (.bool true, [.at r1 (.fl .f32 l), .at r2 (.fl .f32 l')])) (fun M i x hx => ?_) (fun M => ?_)
      · rw [hz] at hs
        exact hs
      · have hi := lt_of_get hx
        rw [hz] at hi
        obtain ⟨h1, h2⟩ := zip_get hx
        simp only [step_eqF4, dlt hi, din hi, din (show i < l'.length by omega), ix, h1, h2, fconv_eq, wr (show i < 2147483648 by omega), end_eqF4_0] <;> (cases !sameB (up x.1) (up x.2) <;> rfl)
      · rw [hz]
        simp only [step_eqF4, dge (Nat.le_refl _), end_eqF4_1]
    · rw [show ((l.length : Int) != (l'.length : Int)) = true by simp; omega, show (l.length == l'.length) = false by simpa using hl]
      rfl
  · obtain ⟨rfl, rfl⟩ := T.ret_inv e
    exact ⟨1, by kernel_rfl⟩
  · exact (T.no_inv e).elim
def gMarkT : GT := fun vs h => match vs, h with
  | [.sl 0 0 n, .int .i64 k], [.at true (.fl .f32 l)] => .ite (decide (l.length = n ∧ n < 2147483648 ∧ 0 ≤ k ∧ k.toNat < 2147483648)) (.ret (.int .i64 (k + (n : Int))) [.at true (.fl .f32 (marks k n))]) .no
  | [.nil, .int .i64 k], [] => .ret (.int .i64 k) []
  | _, _ => .no
def gHeldT : GT := fun vs h => match vs, h with
  | [.sl 0 0 n, .int .i64 k], [.at rw (.fl .f32 l)] => .ite (decide (l = marks k n ∧ n < 2147483648 ∧ 0 ≤ k ∧ k < 2147483648)) (.ret (.int .i64 (k + (n : Int))) [.at rw (.fl .f32 l)]) .no
  | [.nil, .int .i64 k], [] => .ret (.int .i64 k) []
  | _, _ => .no
def an_markF : Ann := ⟨fun r => if r = 2 then some ([0, 1, 5], [1]) else none, fun _ _ => .quiet⟩
def tab_markF : Fns := tabT []
theorem tabok_markF : ∀ f, FnT Try.prog f (tab_markF f) := tabT_nil
def st_markF2 (a0n : Nat) (k1 : Int) (i5 : Int) (l0 : List Nat) : St := ⟨(.sl 0 0 a0n :: .int .i64 k1 :: .any :: .any :: .any :: .int .i64 i5 :: (anys 14 [])), [.at true (.fl .f32 l0)]⟩
abbrev kp_markF2 : Option (List Nat × List Nat) := some ([0, 1, 5], [1])
noncomputable def lp_markF2 {R : Type} (N M : Nat) (s : St) (K : X → St → Option R) : Option R := loopH 1 kp_markF2 (fun st K => exec ty tab_markF an_markF N 1 (atOf [true, false, true, false, false] Try.f21) st K) M s K
noncomputable def bk_markF2 {R : Type} (N M : Nat) (K : X → St → Option R) : X → St → Option R := fun x st => match x with | .norm => tidyK 1 (kp_markF2.map (·.1)) st fun st => lp_markF2 N M st K | x => tidyK 1 (kp_markF2.map (·.2)) st fun st => K x st
noncomputable def kt_markF2 {R : Type} (N : Nat) (K : X → St → Option R) : X → St → Option R := kBlkR 0 (kSeqR tab_markF an_markF N 1 (atOf [true, true] Try.f21) (K))
def en_markF2_0 (k1 : Int) (l0 : List Nat) : St := ⟨(.any :: .int .i64 k1 :: (anys 18 [])), [.at true (.fl .f32 l0)]⟩
theorem run_markF (N : Nat) (n : Nat) (k : Int) (l : List Nat) : run ty tab_markF an_markF N Try.f21 [.sl 0 0 n, .int .i64 k] [.at true (.fl .f32 l)]
    = lp_markF2 N N (st_markF2 n k 0 l) (kt_markF2 N (kEnd Try.f21 1)) := by
  kernel_rfl
theorem step_markF2 {R : Type} (N M : Nat) (K : X → St → Option R) (a0n : Nat) (k1 : Int) (i5 : Int) (l0 : List Nat) : lp_markF2 N (M + 1) (st_markF2 a0n k1 i5 l0) K
    = (match decide ((i5 : Int) < ((a0n : Nat) : Int)) with | true => (match decide (0 ≤ (i5 : Int) ∧ (i5 : Int) < ((a0n : Nat) : Int)) with | true => (match decide (0 + (i5).toNat * 1 < l0.length) with | true => lp_markF2 N M (st_markF2 a0n (IntKind.i64.wrap (k1 + 1)) (IntKind.i64.wrap (i5 + 1)) (l0.set (0 + (i5).toNat * 1) (floatOfInt .f32 k1))) K | false => none) | false => none) | false => K (.exit 0) (en_markF2_0 k1 l0)) := by
  kernel_rfl
theorem end_markF2_0 (N : Nat) (k1 : Int) (l0 : List Nat) : kt_markF2 N (kEnd Try.f21 1) (.exit 0) (en_markF2_0 k1 l0)
    = some (.int .i64 k1, [.at true (.fl .f32 l0)]) := by
  kernel_rfl

theorem ok_markF : FnT Try.prog 21 gMarkT := by
  refine fnT tabok_markF Try.func21 rfl rfl an_markF fun vs h v h' e => ?_
  unfold gMarkT at e
  split at e
  · rename_i n k l
    obtain ⟨hd, e⟩ := T.pre_inv e
    obtain ⟨rfl, rfl⟩ := T.ret_inv e
    obtain ⟨rfl, hb, hk, hk'⟩ := of_decide_eq_true hd
    refine ⟨l.length + 1, Eq.trans (run_markF _ _ _ _) ?_⟩
    have hc := count_up l.length (fun i (s : Int × List Nat) => (s.1 + 1, s.2.set i (floatOfInt .f32 s.1))) (fun M i s => lp_markF2 (l.length + 1) M (st_markF2 l.length s.1 (i : Int) s.2) (kt_markF2 (l.length + 1) (kEnd Try.f21 1))) (fun s => some (.int .i64 s.1, [.at true (.fl .f32 s.2)])) (fun i s => s.1 = k + (i : Int) ∧ s.2.length = l.length)
      (fun M i s hi hv => ?_) (fun M s hv => ?_) l.length 0 (k, l) (by omega) ⟨by simp, rfl⟩ 0
    · rw [mark_all k l _ rfl, show l.length + 1 + 0 = l.length + 1 by omega] at hc
      exact hc
    · refine ⟨?_, by dsimp only; rw [hv.1]; omega, by simp [hv.2]⟩
      simp only [step_markF2, dlt hi, din hi, ix, decide_eq_true (show i < s.2.length by rw [hv.2]; exact hi), wr (show i < 2147483648 by omega), wrap_s (show 0 ≤ s.1 + 1 by rw [hv.1]; omega) (by rw [hv.1]; omega)]
    · simp only [step_markF2, dge (Nat.le_refl _), end_markF2_0]
  · obtain ⟨rfl, rfl⟩ := T.ret_inv e
    exact ⟨1, by kernel_rfl⟩
  · exact (T.no_inv e).elim
def an_heldF : Ann := ⟨fun r => if r = 2 then some ([0, 1, 5], [1, 4]) else none, fun _ _ => .quiet⟩
def tab_heldF : Fns := tabT []
theorem tabok_heldF : ∀ f, FnT Try.prog f (tab_heldF f) := tabT_nil
def st_heldF2 (a0n : Nat) (k1 : Int) (i5 : Int) (rw0 : Bool) (l0 : List Nat) : St := ⟨(.sl 0 0 a0n :: .int .i64 k1 :: .any :: .any :: .any :: .int .i64 i5 :: (anys 16 [])), [.at rw0 (.fl .f32 l0)]⟩
abbrev kp_heldF2 : Option (List Nat × List Nat) := some ([0, 1, 5], [1, 4])
noncomputable def lp_heldF2 {R : Type} (N M : Nat) (s : St) (K : X → St → Option R) : Option R := loopH 1 kp_heldF2 (fun st K => exec ty tab_heldF an_heldF N 1 (atOf [true, false, true, false, false] Try.f22) st K) M s K
noncomputable def bk_heldF2 {R : Type} (N M : Nat) (K : X → St → Option R) : X → St → Option R := fun x st => match x with | .norm => tidyK 1 (kp_heldF2.map (·.1)) st fun st => lp_heldF2 N M st K | x => tidyK 1 (kp_heldF2.map (·.2)) st fun st => K x st
noncomputable def kt_heldF2 {R : Type} (N : Nat) (K : X → St → Option R) : X → St → Option R := kBlkR 0 (kSeqR tab_heldF an_heldF N 1 (atOf [true, true] Try.f22) (K))
def en_heldF2_0 (k1 : Int) (rw0 : Bool) (l0 : List Nat) : St := ⟨(.any :: .int .i64 k1 :: .any :: .any :: .int .i64 (-1) :: (anys 17 [])), [.at rw0 (.fl .f32 l0)]⟩
def en_heldF2_1 (k1 : Int) (rw0 : Bool) (l0 : List Nat) : St := ⟨(.any :: .int .i64 k1 :: (anys 20 [])), [.at rw0 (.fl .f32 l0)]⟩
theorem run_heldF (N : Nat) (n : Nat) (k : Int) (rw : Bool) (l : List Nat) : run ty tab_heldF an_heldF N Try.f22 [.sl 0 0 n, .int .i64 k] [.at rw (.fl .f32 l)]
    = lp_heldF2 N N (st_heldF2 n k 0 rw l) (kt_heldF2 N (kEnd Try.f22 1)) := by
  kernel_rfl
theorem step_heldF2 {R : Type} (N M : Nat) (K : X → St → Option R) (a0n : Nat) (k1 : Int) (i5 : Int) (rw0 : Bool) (l0 : List Nat) : lp_heldF2 N (M + 1) (st_heldF2 a0n k1 i5 rw0 l0) K
    = (match decide ((i5 : Int) < ((a0n : Nat) : Int)) with | true => (match decide (0 ≤ (i5 : Int) ∧ (i5 : Int) < ((a0n : Nat) : Int)) with | true => (match l0[0 + (i5).toNat * 1]? with | some e1 => (match FloatKind.f32.format.order e1 (floatOfInt .f32 k1) != some .eq with | true => K .ret (en_heldF2_0 k1 rw0 l0) | false => lp_heldF2 N M (st_heldF2 a0n (IntKind.i64.wrap (k1 + 1)) (IntKind.i64.wrap (i5 + 1)) rw0 l0) K) | none => none) | false => none) | false => K (.exit 0) (en_heldF2_1 k1 rw0 l0)) := by
  kernel_rfl
theorem end_heldF2_0 (N : Nat) (k1 : Int) (rw0 : Bool) (l0 : List Nat) : kt_heldF2 N (kEnd Try.f22 1) .ret (en_heldF2_0 k1 rw0 l0)
    = some (.int .i64 (-1), [.at rw0 (.fl .f32 l0)]) := by
  kernel_rfl
theorem end_heldF2_1 (N : Nat) (k1 : Int) (rw0 : Bool) (l0 : List Nat) : kt_heldF2 N (kEnd Try.f22 1) (.exit 0) (en_heldF2_1 k1 rw0 l0)
    = some (.int .i64 k1, [.at rw0 (.fl .f32 l0)]) := by
  kernel_rfl

theorem ok_heldF : FnT Try.prog 22 gHeldT := by
  refine fnT tabok_heldF Try.func22 rfl rfl an_heldF fun vs h v h' e => ?_
  unfold gHeldT at e
  split at e
  · rename_i n k rw l
    obtain ⟨hd, e⟩ := T.pre_inv e
    obtain ⟨rfl, rfl⟩ := T.ret_inv e
    obtain ⟨rfl, hb, hk, hk'⟩ := of_decide_eq_true hd
    refine ⟨n + 1, Eq.trans (run_heldF _ _ _ _ _) ?_⟩
    have hc := count_up n (fun i (s : Int) => s + 1) (fun M i s => lp_heldF2 (n + 1) M (st_heldF2 n s (i : Int) rw (marks k n)) (kt_heldF2 (n + 1) (kEnd Try.f22 1))) (fun s => some (.int .i64 s, [.at rw (.fl .f32 (marks k n))])) (fun i s => s = k + (i : Int))
      (fun M i s hi hv => ?_) (fun M s hv => ?_) n 0 k (by omega) (by simp) 0
    · have hr : ∀ m i (q : Int), rounds (fun (i : Nat) (s : Int) => s + 1) m i q = q + (m : Int) := by
        intro m
        induction m with
        | zero => intro i q; simp [rounds]
        | succ m ih => intro i q; show rounds _ m _ _ = _; rw [ih]; dsimp only; omega
      rw [hr, show n + 1 + 0 = n + 1 by omega] at hc
      exact hc
    · refine ⟨?_, by rw [hv]; omega⟩
      have ho : (FloatKind.f32.format.order (floatOfInt .f32 (k + (i : Int))) (floatOfInt .f32 s) != some .eq) = false := by
        rw [← hv, order_self (isN_nearest' _ _)]
        rfl
      simp only [step_heldF2, dlt hi, din hi, ix, marks_get hi, ho, wr (show i < 2147483648 by omega), wrap_s (show 0 ≤ s + 1 by rw [hv]; omega) (by rw [hv]; omega)]
    · simp only [step_heldF2, dge (Nat.le_refl _), end_heldF2_1]
  · obtain ⟨rfl, rfl⟩ := T.ret_inv e
    exact ⟨1, by kernel_rfl⟩
  · exact (T.no_inv e).elim
theorem copy_toF : ∀ k i (l : List Nat) (pre r : List Nat), i + k = l.length → r.length = k → pre.length = i → pre = l.take i → rounds (fun i (s : List Nat) => s.set i (l.getD i 0)) k i (pre ++ r) = l
  | 0, i, l, pre, r, h, hr, hp, e => by
    have : r = [] := by simpa using hr
    subst this
    rw [e, List.append_nil]
    exact List.take_of_length_le (by omega)
  | k + 1, i, l, pre, [], h, hr, hp, e => by simp at hr
  | k + 1, i, l, pre, x :: r, h, hr, hp, e => by
    show rounds _ k (i + 1) ((pre ++ x :: r).set i (l.getD i 0)) = l
    have e2 : (pre ++ x :: r).set i (l.getD i 0) = (pre ++ [l.getD i 0]) ++ r := by
      rw [List.set_append_right _ _ (by omega)]
      simp [hp]
    rw [e2]
    refine copy_toF k (i + 1) l _ r (by omega) (by simpa using hr) (by simp [hp]) ?_
    rw [e, List.take_add_one, List.getElem?_eq_getElem (by omega)]
    simp [List.getD_eq_getElem?_getD, List.getElem?_eq_getElem (show i < l.length by omega)]
def g_toF : GT := fun vs h => match vs, h with
  | [.sl 0 0 n], [.at rw (.fl .f32 l)] => .ite (decide (l.length = n ∧ n < 2147483648)) (.ret (.sl 1 0 n) [.at rw (.fl .f32 l), .at true (.fl .f32 l)]) .no
  | [.nil], [] => .ret (.sl 0 0 0) [.at true (.fl .f32 [])]
  | _, _ => .no
def an_toF : Ann := ⟨fun r => if r = 3 then some ([0, 3, 4], [3]) else none, fun _ _ => .quiet⟩
def tab_toF : Fns := tabT []
theorem tabok_toF : ∀ f, FnT Try.prog f (tab_toF f) := tabT_nil
def st_toF3 (a0n : Nat) (out3n : Nat) (i4 : Int) (rw0 : Bool) (l0 : List Nat) (l1 : List Nat) : St := ⟨(.sl 0 0 a0n :: .any :: .any :: .sl 1 0 out3n :: .int .i64 i4 :: (anys 17 [])), [.at rw0 (.fl .f32 l0), .at true (.fl .f32 l1)]⟩
abbrev kp_toF3 : Option (List Nat × List Nat) := some ([0, 3, 4], [3])
noncomputable def lp_toF3 {R : Type} (N M : Nat) (s : St) (K : X → St → Option R) : Option R := loopH 1 kp_toF3 (fun st K => exec ty tab_toF an_toF N 1 (atOf [true, true, false, true, false, false] Try.f45) st K) M s K
noncomputable def bk_toF3 {R : Type} (N M : Nat) (K : X → St → Option R) : X → St → Option R := fun x st => match x with | .norm => tidyK 1 (kp_toF3.map (·.1)) st fun st => lp_toF3 N M st K | x => tidyK 1 (kp_toF3.map (·.2)) st fun st => K x st
noncomputable def kt_toF3 {R : Type} (N : Nat) (K : X → St → Option R) : X → St → Option R := kBlkR 0 (kSeqR tab_toF an_toF N 1 (atOf [true, true, true] Try.f45) (K))
def en_toF3_0 (out3n : Nat) (rw0 : Bool) (l0 : List Nat) (l1 : List Nat) : St := ⟨(.any :: .any :: .any :: .sl 1 0 out3n :: (anys 18 [])), [.at rw0 (.fl .f32 l0), .at true (.fl .f32 l1)]⟩
theorem run_toF (N : Nat) (n : Nat) (rw : Bool) (l : List Nat) : run ty tab_toF an_toF N Try.f45 [.sl 0 0 n] [.at rw (.fl .f32 l)]
    = (match decide (0 ≤ (((n : Nat) : Int) : Int) ∧ (((n : Nat) : Int) : Int) ≤ ((n : Nat) : Int) ∧ (((n : Nat) : Int) : Int) ≤ 9223372036854775807 ∧ (((n : Nat) : Int) : Int).toNat * 4 ≤ 140737488355328 ∧ 0 < 1 ∧ 1 = 1) with | true => lp_toF3 N N (st_toF3 n ((((n : Nat) : Int) : Int).toNat) 0 rw l (List.replicate ((((n : Nat) : Int) : Int).toNat) 0)) (kt_toF3 N (kEnd Try.f45 1)) | false => none) := by
  kernel_rfl
theorem step_toF3 {R : Type} (N M : Nat) (K : X → St → Option R) (a0n : Nat) (out3n : Nat) (i4 : Int) (rw0 : Bool) (l0 : List Nat) (l1 : List Nat) : lp_toF3 N (M + 1) (st_toF3 a0n out3n i4 rw0 l0 l1) K
    = (match decide ((i4 : Int) < ((a0n : Nat) : Int)) with | true => (match decide (0 ≤ (i4 : Int) ∧ (i4 : Int) < ((a0n : Nat) : Int)) with | true => (match l0[0 + (i4).toNat * 1]? with | some e1 => (match decide (0 ≤ (i4 : Int) ∧ (i4 : Int) < ((out3n : Nat) : Int)) with | true => (match decide (0 + (i4).toNat * 1 < l1.length) with | true => lp_toF3 N M (st_toF3 a0n out3n (IntKind.i64.wrap (i4 + 1)) rw0 l0 (l1.set (0 + (i4).toNat * 1) e1)) K | false => none) | false => none) | none => none) | false => none) | false => K (.exit 0) (en_toF3_0 out3n rw0 l0 l1)) := by
  kernel_rfl
theorem end_toF3_0 (N : Nat) (out3n : Nat) (rw0 : Bool) (l0 : List Nat) (l1 : List Nat) : kt_toF3 N (kEnd Try.f45 1) (.exit 0) (en_toF3_0 out3n rw0 l0 l1)
    = some (.sl 1 0 out3n, [.at rw0 (.fl .f32 l0), .at true (.fl .f32 l1)]) := by
  kernel_rfl

theorem ok_toF : FnT Try.prog 45 g_toF := by
  refine fnT tabok_toF Try.func45 rfl rfl an_toF fun vs h v h' e => ?_
  unfold g_toF at e
  split at e
  · rename_i n rw l
    obtain ⟨hd, e⟩ := T.pre_inv e
    obtain ⟨rfl, rfl⟩ := T.ret_inv e
    obtain ⟨rfl, hb⟩ := of_decide_eq_true hd
    refine ⟨l.length + 1, Eq.trans (run_toF _ _ _ _) ?_⟩
    rw [decide_eq_true (show 0 ≤ (((l.length : Nat) : Int) : Int) ∧ (((l.length : Nat) : Int) : Int) ≤ ((l.length : Nat) : Int) ∧ (((l.length : Nat) : Int) : Int) ≤ 9223372036854775807 ∧ (((l.length : Nat) : Int) : Int).toNat * 4 ≤ 140737488355328 ∧ 0 < 1 ∧ 1 = 1 by omega)]
    rw [show (((l.length : Nat) : Int) : Int).toNat = l.length from rfl]
    have hc := count_up l.length (fun i (s : List Nat) => s.set i (l.getD i 0)) (fun M i s => lp_toF3 (l.length + 1) M (st_toF3 l.length l.length (i : Int) rw l s) (kt_toF3 (l.length + 1) (kEnd Try.f45 1))) (fun s => some (.sl 1 0 l.length, [.at rw (.fl .f32 l), .at true (.fl .f32 s)])) (fun _ s => s.length = l.length)
      (fun M i s hi hv => ?_) (fun M s hv => ?_) l.length 0 (List.replicate l.length 0) (by omega) (by simp) 0
    · rw [show List.replicate l.length (0 : Nat) = [] ++ List.replicate l.length 0 from rfl, copy_toF l.length 0 l [] (List.replicate l.length 0) (by omega) (by simp) rfl rfl] at hc
      exact hc
    · have hg : l[i]? = some (l.getD i 0) := by simp [List.getD_eq_getElem?_getD, hi]
      refine ⟨?_, by simpa using hv⟩
      simp only [step_toF3, dlt hi, din hi, ix, hg, decide_eq_true (show i < s.length by omega), wr (show i < 2147483648 by omega)]
    · simp only [step_toF3, dge (Nat.le_refl _), end_toF3_0]
  · obtain ⟨rfl, rfl⟩ := T.ret_inv e
    exact ⟨1, by kernel_rfl⟩
  · exact (T.no_inv e).elim
theorem copy_toI : ∀ k i (l : List Int) (pre r : List Int), i + k = l.length → r.length = k → pre.length = i → pre = l.take i → rounds (fun i (s : List Int) => s.set i (l.getD i 0)) k i (pre ++ r) = l
  | 0, i, l, pre, r, h, hr, hp, e => by
    have : r = [] := by simpa using hr
    subst this
    rw [e, List.append_nil]
    exact List.take_of_length_le (by omega)
  | k + 1, i, l, pre, [], h, hr, hp, e => by simp at hr
  | k + 1, i, l, pre, x :: r, h, hr, hp, e => by
    show rounds _ k (i + 1) ((pre ++ x :: r).set i (l.getD i 0)) = l
    have e2 : (pre ++ x :: r).set i (l.getD i 0) = (pre ++ [l.getD i 0]) ++ r := by
      rw [List.set_append_right _ _ (by omega)]
      simp [hp]
    rw [e2]
    refine copy_toI k (i + 1) l _ r (by omega) (by simpa using hr) (by simp [hp]) ?_
    rw [e, List.take_add_one, List.getElem?_eq_getElem (by omega)]
    simp [List.getD_eq_getElem?_getD, List.getElem?_eq_getElem (show i < l.length by omega)]
def g_toI : GT := fun vs h => match vs, h with
  | [.sl 0 0 n], [.at rw (.int .i64 l)] => .ite (decide (l.length = n ∧ n < 2147483648)) (.ret (.sl 1 0 n) [.at rw (.int .i64 l), .at true (.int .i64 l)]) .no
  | [.nil], [] => .ret (.sl 0 0 0) [.at true (.int .i64 [])]
  | _, _ => .no
def an_toI : Ann := ⟨fun r => if r = 3 then some ([0, 3, 4], [3]) else none, fun _ _ => .quiet⟩
def tab_toI : Fns := tabT []
theorem tabok_toI : ∀ f, FnT Try.prog f (tab_toI f) := tabT_nil
def st_toI3 (a0n : Nat) (out3n : Nat) (i4 : Int) (rw0 : Bool) (l0 : List Int) (l1 : List Int) : St := ⟨(.sl 0 0 a0n :: .any :: .any :: .sl 1 0 out3n :: .int .i64 i4 :: (anys 17 [])), [.at rw0 (.int .i64 l0), .at true (.int .i64 l1)]⟩
abbrev kp_toI3 : Option (List Nat × List Nat) := some ([0, 3, 4], [3])
noncomputable def lp_toI3 {R : Type} (N M : Nat) (s : St) (K : X → St → Option R) : Option R := loopH 1 kp_toI3 (fun st K => exec ty tab_toI an_toI N 1 (atOf [true, true, false, true, false, false] Try.f34) st K) M s K
noncomputable def bk_toI3 {R : Type} (N M : Nat) (K : X → St → Option R) : X → St → Option R := fun x st => match x with | .norm => tidyK 1 (kp_toI3.map (·.1)) st fun st => lp_toI3 N M st K | x => tidyK 1 (kp_toI3.map (·.2)) st fun st => K x st
noncomputable def kt_toI3 {R : Type} (N : Nat) (K : X → St → Option R) : X → St → Option R := kBlkR 0 (kSeqR tab_toI an_toI N 1 (atOf [true, true, true] Try.f34) (K))
def en_toI3_0 (out3n : Nat) (rw0 : Bool) (l0 : List Int) (l1 : List Int) : St := ⟨(.any :: .any :: .any :: .sl 1 0 out3n :: (anys 18 [])), [.at rw0 (.int .i64 l0), .at true (.int .i64 l1)]⟩
theorem run_toI (N : Nat) (n : Nat) (rw : Bool) (l : List Int) : run ty tab_toI an_toI N Try.f34 [.sl 0 0 n] [.at rw (.int .i64 l)]
    = (match decide (0 ≤ (((n : Nat) : Int) : Int) ∧ (((n : Nat) : Int) : Int) ≤ ((n : Nat) : Int) ∧ (((n : Nat) : Int) : Int) ≤ 9223372036854775807 ∧ (((n : Nat) : Int) : Int).toNat * 8 ≤ 140737488355328 ∧ 0 < 1 ∧ 1 = 1) with | true => lp_toI3 N N (st_toI3 n ((((n : Nat) : Int) : Int).toNat) 0 rw l (List.replicate ((((n : Nat) : Int) : Int).toNat) (0 : Int))) (kt_toI3 N (kEnd Try.f34 1)) | false => none) := by
  kernel_rfl
theorem step_toI3 {R : Type} (N M : Nat) (K : X → St → Option R) (a0n : Nat) (out3n : Nat) (i4 : Int) (rw0 : Bool) (l0 : List Int) (l1 : List Int) : lp_toI3 N (M + 1) (st_toI3 a0n out3n i4 rw0 l0 l1) K
    = (match decide ((i4 : Int) < ((a0n : Nat) : Int)) with | true => (match decide (0 ≤ (i4 : Int) ∧ (i4 : Int) < ((a0n : Nat) : Int)) with | true => (match l0[0 + (i4).toNat * 1]? with | some e1 => (match decide (0 ≤ (i4 : Int) ∧ (i4 : Int) < ((out3n : Nat) : Int)) with | true => (match decide (0 + (i4).toNat * 1 < l1.length) with | true => lp_toI3 N M (st_toI3 a0n out3n (IntKind.i64.wrap (i4 + 1)) rw0 l0 (l1.set (0 + (i4).toNat * 1) e1)) K | false => none) | false => none) | none => none) | false => none) | false => K (.exit 0) (en_toI3_0 out3n rw0 l0 l1)) := by
  kernel_rfl
theorem end_toI3_0 (N : Nat) (out3n : Nat) (rw0 : Bool) (l0 : List Int) (l1 : List Int) : kt_toI3 N (kEnd Try.f34 1) (.exit 0) (en_toI3_0 out3n rw0 l0 l1)
    = some (.sl 1 0 out3n, [.at rw0 (.int .i64 l0), .at true (.int .i64 l1)]) := by
  kernel_rfl

theorem ok_toI : FnT Try.prog 34 g_toI := by
  refine fnT tabok_toI Try.func34 rfl rfl an_toI fun vs h v h' e => ?_
  unfold g_toI at e
  split at e
  · rename_i n rw l
    obtain ⟨hd, e⟩ := T.pre_inv e
    obtain ⟨rfl, rfl⟩ := T.ret_inv e
    obtain ⟨rfl, hb⟩ := of_decide_eq_true hd
    refine ⟨l.length + 1, Eq.trans (run_toI _ _ _ _) ?_⟩
    rw [decide_eq_true (show 0 ≤ (((l.length : Nat) : Int) : Int) ∧ (((l.length : Nat) : Int) : Int) ≤ ((l.length : Nat) : Int) ∧ (((l.length : Nat) : Int) : Int) ≤ 9223372036854775807 ∧ (((l.length : Nat) : Int) : Int).toNat * 8 ≤ 140737488355328 ∧ 0 < 1 ∧ 1 = 1 by omega)]
    rw [show (((l.length : Nat) : Int) : Int).toNat = l.length from rfl]
    have hc := count_up l.length (fun i (s : List Int) => s.set i (l.getD i 0)) (fun M i s => lp_toI3 (l.length + 1) M (st_toI3 l.length l.length (i : Int) rw l s) (kt_toI3 (l.length + 1) (kEnd Try.f34 1))) (fun s => some (.sl 1 0 l.length, [.at rw (.int .i64 l), .at true (.int .i64 s)])) (fun _ s => s.length = l.length)
      (fun M i s hi hv => ?_) (fun M s hv => ?_) l.length 0 (List.replicate l.length 0) (by omega) (by simp) 0
    · rw [show List.replicate l.length (0 : Int) = [] ++ List.replicate l.length 0 from rfl, copy_toI l.length 0 l [] (List.replicate l.length 0) (by omega) (by simp) rfl rfl] at hc
      exact hc
    · have hg : l[i]? = some (l.getD i 0) := by simp [List.getD_eq_getElem?_getD, hi]
      refine ⟨?_, by simpa using hv⟩
      simp only [step_toI3, dlt hi, din hi, ix, hg, decide_eq_true (show i < s.length by omega), wr (show i < 2147483648 by omega)]
    · simp only [step_toI3, dge (Nat.le_refl _), end_toI3_0]
  · obtain ⟨rfl, rfl⟩ := T.ret_inv e
    exact ⟨1, by kernel_rfl⟩
  · exact (T.no_inv e).elim
end Go.Proofs.Ythcjbchkagkaaaa.Ab
