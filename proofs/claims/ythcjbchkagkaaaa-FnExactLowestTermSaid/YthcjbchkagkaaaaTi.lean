/- Lists of whole numbers: what the laws ask of them. Only lemmas. Printed by gen_terms3.py. -/
import Derived.Test.YthcjbchkagkaaaaLib
namespace Go.Proofs.Ythcjbchkagkaaaa.Ab
set_option linter.unusedVariables false
set_option linter.unusedSimpArgs false
open Go
def eqIB (l l' : List Int) : Bool := (l.length == l'.length) && (firstIx (fun p : Int × Int => p.1 != p.2) (l.zip l') 0).isNone
theorem firstIxI_self (l : List Int) : ∀ i, (firstIx (fun p : Int × Int => p.1 != p.2) (l.zip l) i) = none := by
  induction l with
  | nil => intro i; rfl
  | cons x l ih =>
    intro i
    simp only [List.zip_cons_cons, firstIx, show (x != x) = false by simp]
    exact ih (i + 1)
theorem eqIB_self (l : List Int) : eqIB l l = true := by
  unfold eqIB
  rw [firstIxI_self]
  simp
theorem zipI_get {l l' : List Int} {i : Nat} {x : Int × Int} (h : (l.zip l')[i]? = some x) : l[i]? = some x.1 ∧ l'[i]? = some x.2 := by
  rw [List.getElem?_zip_eq_some] at h
  exact h
def gEqI : GT := fun vs h => match vs, h with
  | [.sl 0 0 n, .sl 1 0 m], [.at r1 (.int .i64 l), .at r2 (.int .i64 l')] => .ite (decide (l.length = n ∧ l'.length = m ∧ n < 2147483648 ∧ m < 2147483648)) (.ret (.bool (eqIB l l')) [.at r1 (.int .i64 l), .at r2 (.int .i64 l')]) .no
  | [.nil, .nil], [] => .ret (.bool true) []
  | _, _ => .no
def gMarkI : GT := fun vs h => match vs, h with
  | [.sl 0 0 n, .int .i64 k], [.at true (.int .i64 l)] => .ite (decide (l.length = n ∧ n < 2147483648 ∧ 0 ≤ k ∧ k < 2147483648)) (.ret (.int .i64 (k + (n : Int))) [.at true (.int .i64 (marksI k n))]) .no
  | [.nil, .int .i64 k], [] => .ret (.int .i64 k) []
  | _, _ => .no
def gHeldI : GT := fun vs h => match vs, h with
  | [.sl 0 0 n, .int .i64 k], [.at rw (.int .i64 l)] => .ite (decide (l = marksI k n ∧ n < 2147483648 ∧ 0 ≤ k ∧ k < 2147483648)) (.ret (.int .i64 (k + (n : Int))) [.at rw (.int .i64 l)]) .no
  | [.nil, .int .i64 k], [] => .ret (.int .i64 k) []
  | _, _ => .no
def an_eqI : Ann := ⟨fun r => if r = 4 then some ([0, 1, 5], [4]) else none, fun _ _ => .quiet⟩
def tab_eqI : Fns := tabT []
theorem tabok_eqI : ∀ f, FnT Try.prog f (tab_eqI f) := tabT_nil
def st_eqI4 (a0n : Nat) (b1n : Nat) (i5 : Int) (rw0 : Bool) (l0 : List Int) (rw1 : Bool) (l1 : List Int) : St := ⟨(.sl 0 0 a0n :: .sl 1 0 b1n :: .any :: .any :: .any :: .int .i64 i5 :: (anys 20 [])), [.at rw0 (.int .i64 l0), .at rw1 (.int .i64 l1)]⟩
abbrev kp_eqI4 : Option (List Nat × List Nat) := some ([0, 1, 5], [4])
noncomputable def lp_eqI4 {R : Type} (N M : Nat) (s : St) (K : X → St → Option R) : Option R := loopH 2 kp_eqI4 (fun st K => exec ty tab_eqI an_eqI N 2 (atOf [true, true, false, true, false, false] Try.f35) st K) M s K
noncomputable def bk_eqI4 {R : Type} (N M : Nat) (K : X → St → Option R) : X → St → Option R := fun x st => match x with | .norm => tidyK 2 (kp_eqI4.map (·.1)) st fun st => lp_eqI4 N M st K | x => tidyK 2 (kp_eqI4.map (·.2)) st fun st => K x st
noncomputable def kt_eqI4 {R : Type} (N : Nat) (K : X → St → Option R) : X → St → Option R := kBlkR 0 (kSeqR tab_eqI an_eqI N 2 (atOf [true, true, true] Try.f35) (K))
def en_eqI4_0 (rw0 : Bool) (l0 : List Int) (rw1 : Bool) (l1 : List Int) : St := ⟨(.any :: .any :: .any :: .any :: .bool false :: (anys 21 [])), [.at rw0 (.int .i64 l0), .at rw1 (.int .i64 l1)]⟩
def en_eqI4_1 (rw0 : Bool) (l0 : List Int) (rw1 : Bool) (l1 : List Int) : St := ⟨(anys 26 []), [.at rw0 (.int .i64 l0), .at rw1 (.int .i64 l1)]⟩
theorem run_eqI (N : Nat) (n : Nat) (m : Nat) (r1 : Bool) (l : List Int) (r2 : Bool) (l' : List Int) : run ty tab_eqI an_eqI N Try.f35 [.sl 0 0 n, .sl 1 0 m] [.at r1 (.int .i64 l), .at r2 (.int .i64 l')]
    = (match ((n : Nat) : Int) != ((m : Nat) : Int) with | true => some (.bool false, [.at r1 (.int .i64 l), .at r2 (.int .i64 l')]) | false => lp_eqI4 N N (st_eqI4 n m 0 r1 l r2 l') (kt_eqI4 N (kEnd Try.f35 2))) := by
  kernel_rfl
theorem step_eqI4 {R : Type} (N M : Nat) (K : X → St → Option R) (a0n : Nat) (b1n : Nat) (i5 : Int) (rw0 : Bool) (l0 : List Int) (rw1 : Bool) (l1 : List Int) : lp_eqI4 N (M + 1) (st_eqI4 a0n b1n i5 rw0 l0 rw1 l1) K
    = (match decide ((i5 : Int) < ((a0n : Nat) : Int)) with | true => (match decide (0 ≤ (i5 : Int) ∧ (i5 : Int) < ((a0n : Nat) : Int)) with | true => (match l0[0 + (i5).toNat * 1]? with | some e1 => (match decide (0 ≤ (i5 : Int) ∧ (i5 : Int) < ((b1n : Nat) : Int)) with | true => (match l1[0 + (i5).toNat * 1]? with | some e2 => (match e1 != e2 with | true => K .ret (en_eqI4_0 rw0 l0 rw1 l1) | false => lp_eqI4 N M (st_eqI4 a0n b1n (IntKind.i64.wrap (i5 + 1)) rw0 l0 rw1 l1) K) | none => none) | false => none) | none => none) | false => none) | false => K (.exit 0) (en_eqI4_1 rw0 l0 rw1 l1)) := by
  kernel_rfl
theorem end_eqI4_0 (N : Nat) (rw0 : Bool) (l0 : List Int) (rw1 : Bool) (l1 : List Int) : kt_eqI4 N (kEnd Try.f35 2) .ret (en_eqI4_0 rw0 l0 rw1 l1)
    = some (.bool false, [.at rw0 (.int .i64 l0), .at rw1 (.int .i64 l1)]) := by
  kernel_rfl
theorem end_eqI4_1 (N : Nat) (rw0 : Bool) (l0 : List Int) (rw1 : Bool) (l1 : List Int) : kt_eqI4 N (kEnd Try.f35 2) (.exit 0) (en_eqI4_1 rw0 l0 rw1 l1)
    = some (.bool true, [.at rw0 (.int .i64 l0), .at rw1 (.int .i64 l1)]) := by
  kernel_rfl

theorem ok_eqI : FnT Try.prog 35 gEqI := by
  refine fnT tabok_eqI Try.func35 rfl rfl an_eqI fun vs h v h' e => ?_
  unfold gEqI at e
  split at e
  · rename_i n m r1 l r2 l'
    obtain ⟨hd, e⟩ := T.pre_inv e
    obtain ⟨rfl, rfl⟩ := T.ret_inv e
    obtain ⟨rfl, rfl, hb, hb'⟩ := of_decide_eq_true hd
    refine ⟨l.length + 1, Eq.trans (run_eqI _ _ _ _ _ _ _) ?_⟩
    unfold eqIB
    by_cases hl : l.length = l'.length
    · rw [show ((l.length : Int) != (l'.length : Int)) = false by simp; omega, show (l.length == l'.length) = true by simpa using hl]
      have hz : (l.zip l').length = l.length := by simp; omega
      refine Eq.trans (b := match firstIx (fun p : Int × Int => p.1 != p.2) (l.zip l') 0 with | some _ => some (.bool false, [.at r1 (.int .i64 l), .at r2 (.int .i64 l')]) | none => some (.bool true, [.at r1 (.int .i64 l), .at r2 (.int .i64 l')])) ?_ (by cases firstIx (fun p : Int × Int => p.1 != p.2) (l.zip l') 0 <;> rfl)
      have hs := scan0 (l.zip l') (fun p : Int × Int => p.1 != p.2) (fun M i => lp_eqI4 (l.length + 1) M (st_eqI4 l.length l'.length i r1 l r2 l') (kt_eqI4 (l.length + 1) (kEnd Try.f35 2))) (fun _ => some (.bool false, [.at r1 (.int .i64 l), .at r2 (.int .i64 l')])) (some (.bool true, [.at r1 (.int .i64 l), .at r2 (.int .i64 l')])) (fun M i x hx => ?_) (fun M => ?_)
      · rw [hz] at hs
        exact hs
      · have hi := lt_of_get hx
        rw [hz] at hi
        obtain ⟨h1, h2⟩ := zipI_get hx
        simp only [step_eqI4, dlt hi, din hi, din (show i < l'.length by omega), ix, h1, h2, wr (show i < 2147483648 by omega), end_eqI4_0] <;> (cases (x.1 != x.2) <;> rfl)
      · rw [hz]
        simp only [step_eqI4, dge (Nat.le_refl _), end_eqI4_1]
    · rw [show ((l.length : Int) != (l'.length : Int)) = true by simp; omega, show (l.length == l'.length) = false by simpa using hl]
      rfl
  · obtain ⟨rfl, rfl⟩ := T.ret_inv e
    exact ⟨1, by kernel_rfl⟩
  · exact (T.no_inv e).elim
def an_markI : Ann := ⟨fun r => if r = 2 then some ([0, 1, 5], [1]) else none, fun _ _ => .quiet⟩
def tab_markI : Fns := tabT []
theorem tabok_markI : ∀ f, FnT Try.prog f (tab_markI f) := tabT_nil
def st_markI2 (a0n : Nat) (k1 : Int) (i5 : Int) (l0 : List Int) : St := ⟨(.sl 0 0 a0n :: .int .i64 k1 :: .any :: .any :: .any :: .int .i64 i5 :: (anys 13 [])), [.at true (.int .i64 l0)]⟩
abbrev kp_markI2 : Option (List Nat × List Nat) := some ([0, 1, 5], [1])
noncomputable def lp_markI2 {R : Type} (N M : Nat) (s : St) (K : X → St → Option R) : Option R := loopH 1 kp_markI2 (fun st K => exec ty tab_markI an_markI N 1 (atOf [true, false, true, false, false] Try.f36) st K) M s K
noncomputable def bk_markI2 {R : Type} (N M : Nat) (K : X → St → Option R) : X → St → Option R := fun x st => match x with | .norm => tidyK 1 (kp_markI2.map (·.1)) st fun st => lp_markI2 N M st K | x => tidyK 1 (kp_markI2.map (·.2)) st fun st => K x st
noncomputable def kt_markI2 {R : Type} (N : Nat) (K : X → St → Option R) : X → St → Option R := kBlkR 0 (kSeqR tab_markI an_markI N 1 (atOf [true, true] Try.f36) (K))
def en_markI2_0 (k1 : Int) (l0 : List Int) : St := ⟨(.any :: .int .i64 k1 :: (anys 17 [])), [.at true (.int .i64 l0)]⟩
theorem run_markI (N : Nat) (n : Nat) (k : Int) (l : List Int) : run ty tab_markI an_markI N Try.f36 [.sl 0 0 n, .int .i64 k] [.at true (.int .i64 l)]
    = lp_markI2 N N (st_markI2 n k 0 l) (kt_markI2 N (kEnd Try.f36 1)) := by
  kernel_rfl
theorem step_markI2 {R : Type} (N M : Nat) (K : X → St → Option R) (a0n : Nat) (k1 : Int) (i5 : Int) (l0 : List Int) : lp_markI2 N (M + 1) (st_markI2 a0n k1 i5 l0) K
    = (match decide ((i5 : Int) < ((a0n : Nat) : Int)) with | true => (match decide (0 ≤ (i5 : Int) ∧ (i5 : Int) < ((a0n : Nat) : Int)) with | true => (match decide (0 + (i5).toNat * 1 < l0.length) with | true => lp_markI2 N M (st_markI2 a0n (IntKind.i64.wrap (k1 + 1)) (IntKind.i64.wrap (i5 + 1)) (l0.set (0 + (i5).toNat * 1) k1)) K | false => none) | false => none) | false => K (.exit 0) (en_markI2_0 k1 l0)) := by
  kernel_rfl
theorem end_markI2_0 (N : Nat) (k1 : Int) (l0 : List Int) : kt_markI2 N (kEnd Try.f36 1) (.exit 0) (en_markI2_0 k1 l0)
    = some (.int .i64 k1, [.at true (.int .i64 l0)]) := by
  kernel_rfl

theorem markI_rounds (g : Int → Int) : ∀ k i (q : Int) (pre r : List Int), r.length = k → pre.length = i → rounds (fun i (s : Int × List Int) => (s.1 + 1, s.2.set i (g s.1))) k i (q, pre ++ r) = (q + (k : Int), pre ++ (List.range' 0 k).map fun j : Nat => g (q + (j : Int)))
  | 0, i, q, pre, r, hr, _ => by
    have : r = [] := by simpa using hr
    subst this
    simp [rounds]
  | k + 1, i, q, pre, [], hr, _ => by simp at hr
  | k + 1, i, q, pre, x :: r, hr, hp => by
    show rounds _ k (i + 1) (q + 1, (pre ++ x :: r).set i (g q)) = _
    have e : (pre ++ x :: r).set i (g q) = (pre ++ [g q]) ++ r := by
      rw [List.set_append_right _ _ (by omega)]
      simp [hp]
    rw [e, markI_rounds g k (i + 1) (q + 1) _ _ (by simpa using hr) (by simp [hp])]
    simp only [List.append_assoc, Prod.mk.injEq]
    refine ⟨by omega, ?_⟩
    congr 1
    rw [List.range'_succ, List.map_cons, show (0 : Nat) + 1 = 1 from rfl, List.range'_eq_map_range, List.range'_eq_map_range]
    simp only [List.map_map, List.singleton_append, List.cons.injEq]
    refine ⟨by simp, ?_⟩
    apply List.map_congr_left
    intro j _
    simp only [Function.comp]
    congr 1
    omega
theorem markI_all (q : Int) (l : List Int) (n : Nat) (h : l.length = n) : rounds (fun i (s : Int × List Int) => (s.1 + 1, s.2.set i s.1)) n 0 (q, l) = (q + (n : Int), marksI q n) := markI_rounds (fun x : Int => x) n 0 q [] l h rfl
theorem ok_markI : FnT Try.prog 36 gMarkI := by
  refine fnT tabok_markI Try.func36 rfl rfl an_markI fun vs h v h' e => ?_
  unfold gMarkI at e
  split at e
  · rename_i n k l
    obtain ⟨hd, e⟩ := T.pre_inv e
    obtain ⟨rfl, rfl⟩ := T.ret_inv e
    obtain ⟨rfl, hb, hk, hk'⟩ := of_decide_eq_true hd
    refine ⟨l.length + 1, Eq.trans (run_markI _ _ _ _) ?_⟩
    have hc := count_up l.length (fun i (s : Int × List Int) => (s.1 + 1, s.2.set i s.1)) (fun M i s => lp_markI2 (l.length + 1) M (st_markI2 l.length s.1 (i : Int) s.2) (kt_markI2 (l.length + 1) (kEnd Try.f36 1))) (fun s => some (.int .i64 s.1, [.at true (.int .i64 s.2)])) (fun i s => s.1 = k + (i : Int) ∧ s.2.length = l.length)
      (fun M i s hi hv => ?_) (fun M s hv => ?_) l.length 0 (k, l) (by omega) ⟨by simp, rfl⟩ 0
    · rw [markI_all k l _ rfl, show l.length + 1 + 0 = l.length + 1 by omega] at hc
      exact hc
    · refine ⟨?_, by dsimp only; rw [hv.1]; omega, by simp [hv.2]⟩
      simp only [step_markI2, dlt hi, din hi, ix, decide_eq_true (show i < s.2.length by rw [hv.2]; exact hi), wr (show i < 2147483648 by omega), wrap_s (show 0 ≤ s.1 + 1 by rw [hv.1]; omega) (by rw [hv.1]; omega)]
    · simp only [step_markI2, dge (Nat.le_refl _), end_markI2_0]
  · obtain ⟨rfl, rfl⟩ := T.ret_inv e
    exact ⟨1, by kernel_rfl⟩
  · exact (T.no_inv e).elim
def an_heldI : Ann := ⟨fun r => if r = 2 then some ([0, 1, 5], [1, 4]) else none, fun _ _ => .quiet⟩
def tab_heldI : Fns := tabT []
theorem tabok_heldI : ∀ f, FnT Try.prog f (tab_heldI f) := tabT_nil
def st_heldI2 (a0n : Nat) (k1 : Int) (i5 : Int) (rw0 : Bool) (l0 : List Int) : St := ⟨(.sl 0 0 a0n :: .int .i64 k1 :: .any :: .any :: .any :: .int .i64 i5 :: (anys 15 [])), [.at rw0 (.int .i64 l0)]⟩
abbrev kp_heldI2 : Option (List Nat × List Nat) := some ([0, 1, 5], [1, 4])
noncomputable def lp_heldI2 {R : Type} (N M : Nat) (s : St) (K : X → St → Option R) : Option R := loopH 1 kp_heldI2 (fun st K => exec ty tab_heldI an_heldI N 1 (atOf [true, false, true, false, false] Try.f37) st K) M s K
noncomputable def bk_heldI2 {R : Type} (N M : Nat) (K : X → St → Option R) : X → St → Option R := fun x st => match x with | .norm => tidyK 1 (kp_heldI2.map (·.1)) st fun st => lp_heldI2 N M st K | x => tidyK 1 (kp_heldI2.map (·.2)) st fun st => K x st
noncomputable def kt_heldI2 {R : Type} (N : Nat) (K : X → St → Option R) : X → St → Option R := kBlkR 0 (kSeqR tab_heldI an_heldI N 1 (atOf [true, true] Try.f37) (K))
def en_heldI2_0 (k1 : Int) (rw0 : Bool) (l0 : List Int) : St := ⟨(.any :: .int .i64 k1 :: .any :: .any :: .int .i64 (-1) :: (anys 16 [])), [.at rw0 (.int .i64 l0)]⟩
def en_heldI2_1 (k1 : Int) (rw0 : Bool) (l0 : List Int) : St := ⟨(.any :: .int .i64 k1 :: (anys 19 [])), [.at rw0 (.int .i64 l0)]⟩
theorem run_heldI (N : Nat) (n : Nat) (k : Int) (rw : Bool) (l : List Int) : run ty tab_heldI an_heldI N Try.f37 [.sl 0 0 n, .int .i64 k] [.at rw (.int .i64 l)]
    = lp_heldI2 N N (st_heldI2 n k 0 rw l) (kt_heldI2 N (kEnd Try.f37 1)) := by
  kernel_rfl
theorem step_heldI2 {R : Type} (N M : Nat) (K : X → St → Option R) (a0n : Nat) (k1 : Int) (i5 : Int) (rw0 : Bool) (l0 : List Int) : lp_heldI2 N (M + 1) (st_heldI2 a0n k1 i5 rw0 l0) K
    = (match decide ((i5 : Int) < ((a0n : Nat) : Int)) with | true => (match decide (0 ≤ (i5 : Int) ∧ (i5 : Int) < ((a0n : Nat) : Int)) with | true => (match l0[0 + (i5).toNat * 1]? with | some e1 => (match e1 != k1 with | true => K .ret (en_heldI2_0 k1 rw0 l0) | false => lp_heldI2 N M (st_heldI2 a0n (IntKind.i64.wrap (k1 + 1)) (IntKind.i64.wrap (i5 + 1)) rw0 l0) K) | none => none) | false => none) | false => K (.exit 0) (en_heldI2_1 k1 rw0 l0)) := by
  kernel_rfl
theorem end_heldI2_0 (N : Nat) (k1 : Int) (rw0 : Bool) (l0 : List Int) : kt_heldI2 N (kEnd Try.f37 1) .ret (en_heldI2_0 k1 rw0 l0)
    = some (.int .i64 (-1), [.at rw0 (.int .i64 l0)]) := by
  kernel_rfl
theorem end_heldI2_1 (N : Nat) (k1 : Int) (rw0 : Bool) (l0 : List Int) : kt_heldI2 N (kEnd Try.f37 1) (.exit 0) (en_heldI2_1 k1 rw0 l0)
    = some (.int .i64 k1, [.at rw0 (.int .i64 l0)]) := by
  kernel_rfl

theorem ok_heldI : FnT Try.prog 37 gHeldI := by
  refine fnT tabok_heldI Try.func37 rfl rfl an_heldI fun vs h v h' e => ?_
  unfold gHeldI at e
  split at e
  · rename_i n k rw l
    obtain ⟨hd, e⟩ := T.pre_inv e
    obtain ⟨rfl, rfl⟩ := T.ret_inv e
    obtain ⟨rfl, hb, hk, hk'⟩ := of_decide_eq_true hd
    refine ⟨n + 1, Eq.trans (run_heldI _ _ _ _ _) ?_⟩
    have hc := count_up n (fun i (s : Int) => s + 1) (fun M i s => lp_heldI2 (n + 1) M (st_heldI2 n s (i : Int) rw (marksI k n)) (kt_heldI2 (n + 1) (kEnd Try.f37 1))) (fun s => some (.int .i64 s, [.at rw (.int .i64 (marksI k n))])) (fun i s => s = k + (i : Int))
      (fun M i s hi hv => ?_) (fun M s hv => ?_) n 0 k (by omega) (by simp) 0
    · have hr : ∀ m i (q : Int), rounds (fun (i : Nat) (s : Int) => s + 1) m i q = q + (m : Int) := by
        intro m
        induction m with
        | zero => intro i q; simp [rounds]
        | succ m ih => intro i q; show rounds _ m _ _ = _; rw [ih]; dsimp only; omega
      rw [hr, show n + 1 + 0 = n + 1 by omega] at hc
      exact hc
    · refine ⟨?_, by rw [hv]; omega⟩
      have ho : ((k + (i : Int)) != s) = false := by rw [hv]; simp
      simp only [step_heldI2, dlt hi, din hi, ix, marksI_get hi, ho, wr (show i < 2147483648 by omega), wrap_s (show 0 ≤ s + 1 by rw [hv]; omega) (by rw [hv]; omega)]
    · simp only [step_heldI2, dge (Nat.le_refl _), end_heldI2_1]
  · obtain ⟨rfl, rfl⟩ := T.ret_inv e
    exact ⟨1, by kernel_rfl⟩
  · exact (T.no_inv e).elim
end Go.Proofs.Ythcjbchkagkaaaa.Ab
