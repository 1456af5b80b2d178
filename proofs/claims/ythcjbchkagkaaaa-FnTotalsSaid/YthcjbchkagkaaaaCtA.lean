/- CountTotals: the walks. Only lemmas. Printed by gen_count.py. -/
import Derived.Test.YthcjbchkagkaaaaInts
namespace Go.Proofs.Ythcjbchkagkaaaa.Ab
set_option linter.unusedVariables false
set_option linter.unusedSimpArgs false
open Go
def is6 (a : Int) : Bool := inB a 0 6
def gapI (a b : Int) : Int := if a > b then IntKind.i64.wrap (a - b) else IntKind.i64.wrap (b - a)
def dist (a b : Nat) : Nat := (a - b) + (b - a)
def totL (a b : Nat) : List Int := (List.range' 0 (min a b + 1)).map fun j : Nat => ((dist a b + 2 * j : Nat) : Int)
theorem totL_len (a b : Nat) : (totL a b).length = min a b + 1 := by simp [totL]
theorem totL_get {a b j : Nat} (h : j < min a b + 1) : (totL a b)[j]? = some ((dist a b + 2 * j : Nat) : Int) := by simp [totL, h]
theorem inB_iff {n lo hi : Int} : inB n lo hi = true ↔ lo ≤ n ∧ n ≤ hi := by
  simp only [inB, Bool.and_eq_true, decide_eq_true_eq, ge_iff_le]
theorem gapI_nat {a b : Nat} (ha : a < 1000000) (hb : b < 1000000) : gapI (a : Int) (b : Int) = ((dist a b : Nat) : Int) := by
  unfold gapI dist
  split
  · rw [wrap_z (by omega) (by omega)]; omega
  · rw [wrap_z (by omega) (by omega)]; omega
theorem maxI_nat {a b : Nat} (ha : a < 1000000) (hb : b < 1000000) : (if (IntKind.i64.wrap ((b : Int) - (a : Int))) > (IntKind.i64.wrap ((a : Int) - (b : Int))) then IntKind.i64.wrap ((b : Int) - (a : Int)) else IntKind.i64.wrap ((a : Int) - (b : Int))) = ((dist a b : Nat) : Int) := by
  rw [wrap_z (n := (b : Int) - (a : Int)) (by omega) (by omega), wrap_z (n := (a : Int) - (b : Int)) (by omega) (by omega)]
  unfold dist
  split <;> omega
def gis6 : G := fun vs h => match vs, h with | [.int .i64 a], [] => some (.bool (is6 a), []) | _, _ => none
def tab_l03Is : Fns := tabT [(81, gT gIn)]
theorem tabok_l03Is : ∀ f, FnT Try.prog f (tab_l03Is f) := (tabT_cons (k := 81) ok_l00In tabT_nil)
theorem run_l03Is (N : Nat) (a : Int) : run ty tab_l03Is ann0 N Try.f64 [.int .i64 a] []
    = some (.bool (inB a 0 6), []) := by
  kernel_rfl

theorem ok_l03Is : FnT Try.prog 64 (gT gis6) := by
  refine fnT tabok_l03Is Try.func64 rfl rfl ann0 fun vs h v h' e => ⟨0, ?_⟩
  rw [T.run_of] at e
  unfold gis6 at e
  split at e
  case h_2 => cases e
  rename_i a
  cases e
  refine Eq.trans (run_l03Is 0 a) ?_
  rfl
def ggapI : G := fun vs h => match vs, h with | [.int .i64 a, .int .i64 b], [] => some (.int .i64 (gapI a b), []) | _, _ => none
def tab_l03Gap : Fns := tabT []
theorem tabok_l03Gap : ∀ f, FnT Try.prog f (tab_l03Gap f) := tabT_nil
theorem run_l03Gap (N : Nat) (a : Int) (b : Int) : run ty tab_l03Gap ann0 N Try.f65 [.int .i64 a, .int .i64 b] []
    = (match decide ((a : Int) > b) with | true => some (.int .i64 (IntKind.i64.wrap (a - b)), []) | false => some (.int .i64 (IntKind.i64.wrap (b - a)), [])) := by
  kernel_rfl

theorem ok_l03Gap : FnT Try.prog 65 (gT ggapI) := by
  refine fnT tabok_l03Gap Try.func65 rfl rfl ann0 fun vs h v h' e => ⟨0, ?_⟩
  rw [T.run_of] at e
  unfold ggapI at e
  split at e
  case h_2 => cases e
  rename_i a b
  cases e
  refine Eq.trans (run_l03Gap 0 a b) ?_
  unfold gapI
  by_cases h : a > b
  · rw [decide_eq_true h, if_pos h]
  · rw [decide_eq_false h, if_neg h]
def an_totW : Ann := ⟨fun r => if r = 3 then some ([0, 1, 5, 6], [5]) else none, fun _ _ => .quiet⟩
def tab_totW : Fns := tabT []
theorem tabok_totW : ∀ f, FnT Try.prog f (tab_totW f) := tabT_nil
def st_totW3 (a0 : Int) (b1 : Int) (out5n : Nat) (c6 : Int) (l0 : List Int) : St := ⟨(.int .i64 a0 :: .int .i64 b1 :: .any :: .any :: .any :: .sl 0 0 out5n :: .int .i64 c6 :: (anys 20 [])), [.at true (.int .i64 l0)]⟩
abbrev kp_totW3 : Option (List Nat × List Nat) := some ([0, 1, 5, 6], [5])
noncomputable def lp_totW3 {R : Type} (N M : Nat) (s : St) (K : X → St → Option R) : Option R := loopH 0 kp_totW3 (fun st K => exec ty tab_totW an_totW N 0 (atOf [true, true, false, true, false, false] Try.f63) st K) M s K
noncomputable def bk_totW3 {R : Type} (N M : Nat) (K : X → St → Option R) : X → St → Option R := fun x st => match x with | .norm => tidyK 0 (kp_totW3.map (·.1)) st fun st => lp_totW3 N M st K | x => tidyK 0 (kp_totW3.map (·.2)) st fun st => K x st
noncomputable def kt_totW3 {R : Type} (N : Nat) (K : X → St → Option R) : X → St → Option R := kBlkR 0 (kSeqR tab_totW an_totW N 0 (atOf [true, true, true] Try.f63) (K))
def en_totW3_0 (out5n : Nat) (l0 : List Int) : St := ⟨(.any :: .any :: .any :: .any :: .any :: .sl 0 0 out5n :: (anys 21 [])), [.at true (.int .i64 l0)]⟩
theorem run_totW (N : Nat) (a : Int) (b : Int) : run ty tab_totW an_totW N Try.f63 [.int .i64 a, .int .i64 b] []
    = lp_totW3 N N (st_totW3 a b 0 (if (IntKind.i64.wrap (b - a)) > (IntKind.i64.wrap (a - b)) then IntKind.i64.wrap (b - a) else IntKind.i64.wrap (a - b)) []) (kt_totW3 N (kEnd Try.f63 0)) := by
  kernel_rfl
theorem step_totW3 {R : Type} (N M : Nat) (K : X → St → Option R) (a0 : Int) (b1 : Int) (out5n : Nat) (c6 : Int) (l0 : List Int) : lp_totW3 N (M + 1) (st_totW3 a0 b1 out5n c6 l0) K
    = (match decide ((c6 : Int) ≤ (IntKind.i64.wrap (a0 + b1))) with | true => (match apok true out5n 1 l0.length 1 (out5n + 1) 8 with | true => lp_totW3 N M (st_totW3 a0 b1 (out5n + 1) (IntKind.i64.wrap (c6 + 2)) (l0 ++ [c6])) K | false => none) | false => K (.exit 0) (en_totW3_0 out5n l0)) := by
  kernel_rfl
theorem end_totW3_0 (N : Nat) (out5n : Nat) (l0 : List Int) : kt_totW3 N (kEnd Try.f63 0) (.exit 0) (en_totW3_0 out5n l0)
    = some (.sl 0 0 out5n, [.at true (.int .i64 l0)]) := by
  kernel_rfl

def inT (a b : Int) : Bool := decide (0 ≤ a ∧ a < 1000 ∧ 0 ≤ b ∧ b < 1000)
def gTot : GT := fun vs h => match vs, h with | [.int .i64 a, .int .i64 b], [] => .ite (inT a b) (.ret (.sl 0 0 (totL a.toNat b.toNat).length) [.at true (.int .i64 (totL a.toNat b.toNat))]) .no | _, _ => .no
theorem ok_totals : FnT Try.prog 63 gTot := by
  refine fnT tabok_totW Try.func63 rfl rfl an_totW fun vs h v h' e => ?_
  unfold gTot at e
  split at e
  case h_2 => exact (T.no_inv e).elim
  rename_i a b
  obtain ⟨hd, e⟩ := T.pre_inv e
  obtain ⟨rfl, rfl⟩ := T.ret_inv e
  have hd := of_decide_eq_true hd
  obtain ⟨A, rfl⟩ : ∃ A : Nat, a = (A : Int) := ⟨a.toNat, by omega⟩
  obtain ⟨B, rfl⟩ : ∃ B : Nat, b = (B : Int) := ⟨b.toNat, by omega⟩
  rw [Int.toNat_natCast, Int.toNat_natCast, totL_len]
  refine ⟨min A B + 1 + 1, Eq.trans (run_totW _ _ _) ?_⟩
  rw [maxI_nat (by omega) (by omega)]
  refine app_loop (min A B + 1) (fun j : Nat => ((dist A B + 2 * j : Nat) : Int)) (fun M i l => lp_totW3 (min A B + 1 + 1) M (st_totW3 (A : Int) (B : Int) i ((dist A B + 2 * i : Nat) : Int) l) (kt_totW3 (min A B + 1 + 1) (kEnd Try.f63 0))) (fun l => some (.sl 0 0 (min A B + 1), [.at true (.int .i64 l)])) (fun M i l hi hl => ?_) (fun M l hl => ?_)
  · have hx : IntKind.i64.wrap (((dist A B + 2 * i : Nat) : Int) + 2) = ((dist A B + 2 * (i + 1) : Nat) : Int) := by rw [wrap_z (by unfold dist; omega) (by unfold dist; omega)]; omega
    have hw : IntKind.i64.wrap ((A : Int) + (B : Int)) = (A : Int) + (B : Int) := wrap_z (by omega) (by omega)
    have hle : decide (((dist A B + 2 * i : Nat) : Int) ≤ (A : Int) + (B : Int)) = true := decide_eq_true (by unfold dist; omega)
    simp only [step_totW3, hw, hle, apc hl (show i < 2147483648 by omega) (show 8 ≤ 16 by omega), hx]
  · have hw : IntKind.i64.wrap ((A : Int) + (B : Int)) = (A : Int) + (B : Int) := wrap_z (by omega) (by omega)
    have hle : decide (((dist A B + 2 * (min A B + 1) : Nat) : Int) ≤ (A : Int) + (B : Int)) = false := decide_eq_false (by unfold dist; omega)
    simp only [step_totW3, hw, hle, end_totW3_0]
def an_ctI : Ann := ⟨fun r => if r = 6 then some ([4, 36, 37, 38], [4]) else if r = 10 then some ([6, 7, 36, 37, 38, 47, 48, 49], [7, 36, 37, 38]) else if r = 13 then some ([6, 7, 9, 36, 37, 38, 47, 48, 49, 56, 57, 58], [6, 7, 36, 37, 38, 47, 48, 49]) else none, fun _ _ => .quiet⟩
def tab_ctI : Fns := tabT [(62, gTurns), (63, gTot)]
theorem tabok_ctI : ∀ f, FnT Try.prog f (tab_ctI f) := (tabT_cons (k := 62) ok_areT (tabT_cons (k := 63) ok_totals tabT_nil))
def st_ctI6 (t4n : Nat) (t36n : Nat) (t37 : Int) (t38 : Int) (rw0 : Bool) (l0 : List Int) (l1 : List Int) : St := ⟨(.any :: .any :: .any :: .any :: .sl 1 0 t4n :: (anys 31 (.sl 0 1 t36n :: .int .i64 t37 :: .int .i64 t38 :: (anys 35 [])))), [.at rw0 (.int .i64 l0), .at true (.int .i64 l1)]⟩
abbrev kp_ctI6 : Option (List Nat × List Nat) := some ([4, 36, 37, 38], [4])
noncomputable def lp_ctI6 {R : Type} (N M : Nat) (s : St) (K : X → St → Option R) : Option R := loopH 1 kp_ctI6 (fun st K => exec ty tab_ctI an_ctI N 1 (atOf [true, true, true, true, false, true, false, false] Try.f27) st K) M s K
noncomputable def bk_ctI6 {R : Type} (N M : Nat) (K : X → St → Option R) : X → St → Option R := fun x st => match x with | .norm => tidyK 1 (kp_ctI6.map (·.1)) st fun st => lp_ctI6 N M st K | x => tidyK 1 (kp_ctI6.map (·.2)) st fun st => K x st
noncomputable def kt_ctI6 {R : Type} (N : Nat) (K : X → St → Option R) : X → St → Option R := kBlkR 0 (kSeqR tab_ctI an_ctI N 1 (atOf [true, true, true, true, true] Try.f27) (K))
def st_ctI10 (t6 : Int) (t7n : Nat) (t36n : Nat) (t37 : Int) (t38 : Int) (t47n : Nat) (t48 : Int) (t49 : Int) (rw0 : Bool) (l0 : List Int) (l1 : List Int) (l2 : List Int) : St := ⟨(anys 6 (.int .i64 t6 :: .sl 1 0 t7n :: (anys 28 (.sl 0 1 t36n :: .int .i64 t37 :: .int .i64 t38 :: (anys 8 (.sl 2 0 t47n :: .int .i64 t48 :: .int .i64 t49 :: (anys 24 []))))))), [.at rw0 (.int .i64 l0), .at true (.int .i64 l1), .at true (.int .i64 l2)]⟩
abbrev kp_ctI10 : Option (List Nat × List Nat) := some ([6, 7, 36, 37, 38, 47, 48, 49], [7, 36, 37, 38])
noncomputable def lp_ctI10 {R : Type} (N M : Nat) (s : St) (K : X → St → Option R) : Option R := loopH 1 kp_ctI10 (fun st K => exec ty tab_ctI an_ctI N 1 (atOf [true, true, true, true, false, true, false, false, true, true, false, false, true, true, false, true, false, false] Try.f27) st K) M s K
noncomputable def bk_ctI10 {R : Type} (N M : Nat) (K : X → St → Option R) : X → St → Option R := fun x st => match x with | .norm => tidyK 1 (kp_ctI10.map (·.1)) st fun st => lp_ctI10 N M st K | x => tidyK 1 (kp_ctI10.map (·.2)) st fun st => K x st
noncomputable def kt_ctI10 {R : Type} (N : Nat) (K : X → St → Option R) : X → St → Option R := kBlkR 2 (kSeqR tab_ctI an_ctI N 1 (atOf [true, true, true, true, false, true, false, false, true, true, false, false, true, true, true] Try.f27) (kBlkR 1 (kSeqR tab_ctI an_ctI N 1 (atOf [true, true, true, true, false, true, false, false, true, true, true] Try.f27) (K))))
def st_ctI13 (t6 : Int) (t7n : Nat) (t9 : Int) (t36n : Nat) (t37 : Int) (t38 : Int) (t47n : Nat) (t48 : Int) (t49 : Int) (t56n : Nat) (t57 : Int) (t58 : Int) (rw0 : Bool) (l0 : List Int) (l1 : List Int) (l2 : List Int) (l3 : List Int) : St := ⟨(anys 6 (.int .i64 t6 :: .sl 1 0 t7n :: .any :: .int .i64 t9 :: (anys 26 (.sl 0 1 t36n :: .int .i64 t37 :: .int .i64 t38 :: (anys 8 (.sl 2 0 t47n :: .int .i64 t48 :: .int .i64 t49 :: (anys 6 (.sl 3 0 t56n :: .int .i64 t57 :: .int .i64 t58 :: (anys 15 []))))))))), [.at rw0 (.int .i64 l0), .at true (.int .i64 l1), .at true (.int .i64 l2), .at true (.int .i64 l3)]⟩
abbrev kp_ctI13 : Option (List Nat × List Nat) := some ([6, 7, 9, 36, 37, 38, 47, 48, 49, 56, 57, 58], [6, 7, 36, 37, 38, 47, 48, 49])
noncomputable def lp_ctI13 {R : Type} (N M : Nat) (s : St) (K : X → St → Option R) : Option R := loopH 1 kp_ctI13 (fun st K => exec ty tab_ctI an_ctI N 1 (atOf [true, true, true, true, false, true, false, false, true, true, false, false, true, true, false, true, false, false, true, true, false, false, true, true, false, false] Try.f27) st K) M s K
noncomputable def bk_ctI13 {R : Type} (N M : Nat) (K : X → St → Option R) : X → St → Option R := fun x st => match x with | .norm => tidyK 1 (kp_ctI13.map (·.1)) st fun st => lp_ctI13 N M st K | x => tidyK 1 (kp_ctI13.map (·.2)) st fun st => K x st
noncomputable def kt_ctI13 {R : Type} (N : Nat) (K : X → St → Option R) : X → St → Option R := kBlkR 4 (kBlkR 3 (kSeqR tab_ctI an_ctI N 1 (atOf [true, true, true, true, false, true, false, false, true, true, false, false, true, true, false, true, false, false, true, true, true] Try.f27) (K)))
def en_ctI6_0 (t4n : Nat) (rw0 : Bool) (l0 : List Int) (l1 : List Int) : St := ⟨(.any :: .any :: .any :: .any :: .sl 1 0 t4n :: (anys 69 [])), [.at rw0 (.int .i64 l0), .at true (.int .i64 l1)]⟩
def en_ctI10_0 (t7n : Nat) (t36n : Nat) (t37 : Int) (t38 : Int) (rw0 : Bool) (l0 : List Int) (l1 : List Int) : St := ⟨(anys 7 (.sl 1 0 t7n :: (anys 28 (.sl 0 1 t36n :: .int .i64 t37 :: .int .i64 t38 :: (anys 35 []))))), [.at rw0 (.int .i64 l0), .at true (.int .i64 l1)]⟩
def en_ctI13_0 (t6 : Int) (t7n : Nat) (t36n : Nat) (t37 : Int) (t38 : Int) (t47n : Nat) (t48 : Int) (t49 : Int) (rw0 : Bool) (l0 : List Int) (l1 : List Int) (l2 : List Int) : St := ⟨(anys 6 (.int .i64 t6 :: .sl 1 0 t7n :: (anys 28 (.sl 0 1 t36n :: .int .i64 t37 :: .int .i64 t38 :: (anys 8 (.sl 2 0 t47n :: .int .i64 t48 :: .int .i64 t49 :: (anys 24 []))))))), [.at rw0 (.int .i64 l0), .at true (.int .i64 l1), .at true (.int .i64 l2)]⟩
theorem run_ctI (N : Nat) (n : Nat) (rw : Bool) (l : List Int) : run ty tab_ctI an_ctI N Try.f27 [.sl 0 0 n] [.at rw (.int .i64 l)]
    = (match decide ((((n : Nat) : Int) : Int) < 1) with | true => some (.tup [.a (.nil), .a (.bool false)], [.at rw (.int .i64 l)]) | false => (match decide ((((n : Nat) : Int) : Int) > 6) with | true => some (.tup [.a (.nil), .a (.bool false)], [.at rw (.int .i64 l)]) | false => (match decide (l.length = n ∧ n < 2147483648) with | true => (match !(turnsB l) with | true => some (.tup [.a (.nil), .a (.bool false)], [.at rw (.int .i64 l)]) | false => (match decide (0 ≤ (0 : Int) ∧ (0 : Int) < ((n : Nat) : Int)) with | true => (match l[0]? with | some e1 => (match decide (0 ≤ (IntKind.i64.wrap (e1 + 1) : Int) ∧ (IntKind.i64.wrap (e1 + 1) : Int) ≤ (IntKind.i64.wrap (e1 + 1)) ∧ (IntKind.i64.wrap (e1 + 1) : Int) ≤ 9223372036854775807 ∧ (IntKind.i64.wrap (e1 + 1) : Int).toNat * 8 ≤ 140737488355328 ∧ 0 < 1 ∧ 1 = 1) with | true => (match decide (0 ≤ (0 : Int) ∧ (0 : Int) < ((n : Nat) : Int)) with | true => (match l[0]? with | some e2 => (match decide (0 ≤ (e2 : Int) ∧ (e2 : Int) < (((IntKind.i64.wrap (e1 + 1) : Int).toNat : Nat) : Int)) with | true => (match decide (0 + (e2).toNat * 1 < (List.replicate ((IntKind.i64.wrap (e1 + 1) : Int).toNat) (0 : Int)).length) with | true => (match decide (0 ≤ (1 : Int) ∧ (1 : Int) ≤ ((n : Nat) : Int) ∧ (((n : Nat) : Int) : Int) ≤ ((n : Nat) : Int)) with | true => lp_ctI6 N N (st_ctI6 ((IntKind.i64.wrap (e1 + 1) : Int).toNat) ((((n : Nat) : Int) - 1).toNat) (((((n : Nat) : Int) - 1).toNat : Nat) : Int) 0 rw l ((List.replicate ((IntKind.i64.wrap (e1 + 1) : Int).toNat) (0 : Int)).set (0 + (e2).toNat * 1) 1)) (kt_ctI6 N (kEnd Try.f27 1)) | false => none) | false => none) | false => none) | none => none) | false => none) | false => none) | none => none) | false => none)) | false => none))) := by
  kernel_rfl
theorem step_ctI6 {R : Type} (N M : Nat) (K : X → St → Option R) (t4n : Nat) (t36n : Nat) (t37 : Int) (t38 : Int) (rw0 : Bool) (l0 : List Int) (l1 : List Int) : lp_ctI6 N (M + 1) (st_ctI6 t4n t36n t37 t38 rw0 l0 l1) K
    = (match decide ((t38 : Int) < t37) with | true => (match decide (0 ≤ (t38 : Int) ∧ (t38 : Int) < ((t36n : Nat) : Int)) with | true => (match l0[1 + (t38).toNat * 1]? with | some e1 => (match decide (0 ≤ (IntKind.i64.wrap (((t4n : Nat) : Int) + e1) : Int) ∧ (IntKind.i64.wrap (((t4n : Nat) : Int) + e1) : Int) ≤ (IntKind.i64.wrap (((t4n : Nat) : Int) + e1)) ∧ (IntKind.i64.wrap (((t4n : Nat) : Int) + e1) : Int) ≤ 9223372036854775807 ∧ (IntKind.i64.wrap (((t4n : Nat) : Int) + e1) : Int).toNat * 8 ≤ 140737488355328 ∧ 0 < 1 ∧ 1 = 1) with | true => lp_ctI10 N N (st_ctI10 e1 ((IntKind.i64.wrap (((t4n : Nat) : Int) + e1) : Int).toNat) t36n t37 t38 t4n ((t4n : Nat) : Int) 0 rw0 l0 (List.replicate ((IntKind.i64.wrap (((t4n : Nat) : Int) + e1) : Int).toNat) (0 : Int)) l1) (kt_ctI10 N (bk_ctI6 N M K)) | false => none) | none => none) | false => none) | false => K (.exit 0) (en_ctI6_0 t4n rw0 l0 l1)) := by
  kernel_rfl
theorem step_ctI10 {R : Type} (N M : Nat) (K : X → St → Option R) (t6 : Int) (t7n : Nat) (t36n : Nat) (t37 : Int) (t38 : Int) (t47n : Nat) (t48 : Int) (t49 : Int) (rw0 : Bool) (l0 : List Int) (l1 : List Int) (l2 : List Int) : lp_ctI10 N (M + 1) (st_ctI10 t6 t7n t36n t37 t38 t47n t48 t49 rw0 l0 l1 l2) K
    = (match decide ((t49 : Int) < t48) with | true => (match decide (0 ≤ (t49 : Int) ∧ (t49 : Int) < ((t47n : Nat) : Int)) with | true => (match l2[0 + (t49).toNat * 1]? with | some e1 => (match inT t49 t6 with | true => lp_ctI13 N N (st_ctI13 t6 t7n e1 t36n t37 t38 t47n t48 t49 ((totL (t49).toNat (t6).toNat).length) (((totL (t49).toNat (t6).toNat).length : Nat) : Int) 0 rw0 l0 l1 l2 (totL (t49).toNat (t6).toNat)) (kt_ctI13 N (bk_ctI10 N M K)) | false => none) | none => none) | false => none) | false => K (.exit 2) (en_ctI10_0 t7n t36n t37 t38 rw0 l0 l1)) := by
  kernel_rfl
theorem step_ctI13 {R : Type} (N M : Nat) (K : X → St → Option R) (t6 : Int) (t7n : Nat) (t9 : Int) (t36n : Nat) (t37 : Int) (t38 : Int) (t47n : Nat) (t48 : Int) (t49 : Int) (t56n : Nat) (t57 : Int) (t58 : Int) (rw0 : Bool) (l0 : List Int) (l1 : List Int) (l2 : List Int) (l3 : List Int) : lp_ctI13 N (M + 1) (st_ctI13 t6 t7n t9 t36n t37 t38 t47n t48 t49 t56n t57 t58 rw0 l0 l1 l2 l3) K
    = (match decide ((t58 : Int) < t57) with | true => (match decide (0 ≤ (t58 : Int) ∧ (t58 : Int) < ((t56n : Nat) : Int)) with | true => (match l3[0 + (t58).toNat * 1]? with | some e1 => (match decide (0 ≤ (e1 : Int) ∧ (e1 : Int) < ((t7n : Nat) : Int)) with | true => (match l1[0 + (e1).toNat * 1]? with | some e2 => (match decide (0 ≤ (e1 : Int) ∧ (e1 : Int) < ((t7n : Nat) : Int)) with | true => (match decide (0 + (e1).toNat * 1 < l1.length) with | true => lp_ctI13 N M (st_ctI13 t6 t7n t9 t36n t37 t38 t47n t48 t49 t56n t57 (IntKind.i64.wrap (t58 + 1)) rw0 l0 (l1.set (0 + (e1).toNat * 1) (IntKind.i64.wrap (e2 + t9))) l2 l3) K | false => none) | false => none) | none => none) | false => none) | none => none) | false => none) | false => K (.exit 4) (en_ctI13_0 t6 t7n t36n t37 t38 t47n t48 t49 rw0 l0 l1 l2)) := by
  kernel_rfl
theorem end_ctI6_0 (N : Nat) (t4n : Nat) (rw0 : Bool) (l0 : List Int) (l1 : List Int) : kt_ctI6 N (kEnd Try.f27 1) (.exit 0) (en_ctI6_0 t4n rw0 l0 l1)
    = some (.tup [.a (.sl 1 0 t4n), .a (.bool true)], [.at rw0 (.int .i64 l0), .at true (.int .i64 l1)]) := by
  kernel_rfl
theorem end_ctI10_0 {R : Type} (N M : Nat) (K : X → St → Option R) (t7n : Nat) (t36n : Nat) (t37 : Int) (t38 : Int) (rw0 : Bool) (l0 : List Int) (l1 : List Int) : kt_ctI10 N (bk_ctI6 N M K) (.exit 2) (en_ctI10_0 t7n t36n t37 t38 rw0 l0 l1)
    = lp_ctI6 N M (st_ctI6 t7n t36n t37 (IntKind.i64.wrap (t38 + 1)) rw0 l0 l1) K := by
  kernel_rfl
theorem end_ctI13_0 {R : Type} (N M : Nat) (K : X → St → Option R) (t6 : Int) (t7n : Nat) (t36n : Nat) (t37 : Int) (t38 : Int) (t47n : Nat) (t48 : Int) (t49 : Int) (rw0 : Bool) (l0 : List Int) (l1 : List Int) (l2 : List Int) : kt_ctI13 N (bk_ctI10 N M K) (.exit 4) (en_ctI13_0 t6 t7n t36n t37 t38 t47n t48 t49 rw0 l0 l1 l2)
    = lp_ctI10 N M (st_ctI10 t6 t7n t36n t37 t38 t47n t48 (IntKind.i64.wrap (t49 + 1)) rw0 l0 l1 l2) K := by
  kernel_rfl

def an_ctS : Ann := ⟨fun r => if r = 5 then some ([0, 4, 20, 21], [0, 2, 3, 4]) else if r = 14 then some ([0, 4, 6, 7], [6]) else if r = 18 then some ([0, 4, 6, 7, 8, 55, 56], [0, 4, 7, 8]) else if r = 22 then some ([0, 4, 6, 7, 8, 9, 10, 55, 56], [0, 4, 6, 7, 8, 55, 56]) else none, fun _ _ => .quiet⟩
def tab_ctS : Fns := tabT [(64, gT gis6), (65, gT ggapI)]
theorem tabok_ctS : ∀ f, FnT Try.prog f (tab_ctS f) := (tabT_cons (k := 64) ok_l03Is (tabT_cons (k := 65) ok_l03Gap tabT_nil))
def st_ctS5 (t0n : Nat) (t4 : Int) (t20 : Int) (t21 : Int) (rw0 : Bool) (l0 : List Int) : St := ⟨(.sl 0 0 t0n :: .any :: .any :: .any :: .int .i64 t4 :: (anys 15 (.int .i64 t20 :: .int .i64 t21 :: (anys 71 [])))), [.at rw0 (.int .i64 l0)]⟩
abbrev kp_ctS5 : Option (List Nat × List Nat) := some ([0, 4, 20, 21], [0, 2, 3, 4])
noncomputable def lp_ctS5 {R : Type} (N M : Nat) (s : St) (K : X → St → Option R) : Option R := loopH 1 kp_ctS5 (fun st K => exec ty tab_ctS an_ctS N 1 (atOf [true, true, true, false, true, false, false] Try.f28) st K) M s K
noncomputable def bk_ctS5 {R : Type} (N M : Nat) (K : X → St → Option R) : X → St → Option R := fun x st => match x with | .norm => tidyK 1 (kp_ctS5.map (·.1)) st fun st => lp_ctS5 N M st K | x => tidyK 1 (kp_ctS5.map (·.2)) st fun st => K x st
noncomputable def kt_ctS5 {R : Type} (N : Nat) (K : X → St → Option R) : X → St → Option R := kBlkR 0 (kSeqR tab_ctS an_ctS N 1 (atOf [true, true, true, true] Try.f28) (K))
def st_ctS14 (t0n : Nat) (t4 : Int) (t6n : Nat) (t7 : Int) (rw0 : Bool) (l0 : List Int) (l1 : List Int) : St := ⟨(.sl 0 0 t0n :: .any :: .any :: .any :: .int .i64 t4 :: .any :: .sl 1 0 t6n :: .int .i64 t7 :: (anys 85 [])), [.at rw0 (.int .i64 l0), .at true (.int .i64 l1)]⟩
abbrev kp_ctS14 : Option (List Nat × List Nat) := some ([0, 4, 6, 7], [6])
noncomputable def lp_ctS14 {R : Type} (N M : Nat) (s : St) (K : X → St → Option R) : Option R := loopH 1 kp_ctS14 (fun st K => exec ty tab_ctS an_ctS N 1 (atOf [true, true, true, true, true, true, false, true, false, false] Try.f28) st K) M s K
noncomputable def bk_ctS14 {R : Type} (N M : Nat) (K : X → St → Option R) : X → St → Option R := fun x st => match x with | .norm => tidyK 1 (kp_ctS14.map (·.1)) st fun st => lp_ctS14 N M st K | x => tidyK 1 (kp_ctS14.map (·.2)) st fun st => K x st
noncomputable def kt_ctS14 {R : Type} (N : Nat) (K : X → St → Option R) : X → St → Option R := kBlkR 2 (kSeqR tab_ctS an_ctS N 1 (atOf [true, true, true, true, true, true, true] Try.f28) (K))
def st_ctS18 (t0n : Nat) (t4 : Int) (t6n : Nat) (t7 : Int) (t8n : Nat) (t55 : Int) (t56 : Int) (rw0 : Bool) (l0 : List Int) (l1 : List Int) (l2 : List Int) : St := ⟨(.sl 0 0 t0n :: .any :: .any :: .any :: .int .i64 t4 :: .any :: .sl 1 0 t6n :: .int .i64 t7 :: .sl 2 0 t8n :: (anys 46 (.int .i64 t55 :: .int .i64 t56 :: (anys 36 [])))), [.at rw0 (.int .i64 l0), .at true (.int .i64 l1), .at true (.int .i64 l2)]⟩
abbrev kp_ctS18 : Option (List Nat × List Nat) := some ([0, 4, 6, 7, 8, 55, 56], [0, 4, 7, 8])
noncomputable def lp_ctS18 {R : Type} (N M : Nat) (s : St) (K : X → St → Option R) : Option R := loopH 1 kp_ctS18 (fun st K => exec ty tab_ctS an_ctS N 1 (atOf [true, true, true, true, true, true, false, true, false, false, true, false, false, true, false, true, false, false] Try.f28) st K) M s K
noncomputable def bk_ctS18 {R : Type} (N M : Nat) (K : X → St → Option R) : X → St → Option R := fun x st => match x with | .norm => tidyK 1 (kp_ctS18.map (·.1)) st fun st => lp_ctS18 N M st K | x => tidyK 1 (kp_ctS18.map (·.2)) st fun st => K x st
noncomputable def kt_ctS18 {R : Type} (N : Nat) (K : X → St → Option R) : X → St → Option R := kBlkR 4 (kSeqR tab_ctS an_ctS N 1 (atOf [true, true, true, true, true, true, false, true, false, false, true, false, false, true, true] Try.f28) (kBlkR 3 (kSeqR tab_ctS an_ctS N 1 (atOf [true, true, true, true, true, true, false, true, false, false, true, true] Try.f28) (K))))
def st_ctS22 (t0n : Nat) (t4 : Int) (t6n : Nat) (t7 : Int) (t8n : Nat) (t9 : Int) (t10 : Int) (t55 : Int) (rw0 : Bool) (l0 : List Int) (l1 : List Int) (l2 : List Int) : St := ⟨(.sl 0 0 t0n :: .any :: .any :: .any :: .int .i64 t4 :: .any :: .sl 1 0 t6n :: .int .i64 t7 :: .sl 2 0 t8n :: .int .i64 t9 :: .int .i64 t10 :: (anys 44 (.int .i64 t55 :: .int .i64 t9 :: (anys 36 [])))), [.at rw0 (.int .i64 l0), .at true (.int .i64 l1), .at true (.int .i64 l2)]⟩
abbrev kp_ctS22 : Option (List Nat × List Nat) := some ([0, 4, 6, 7, 8, 9, 10, 55, 56], [0, 4, 6, 7, 8, 55, 56])
noncomputable def lp_ctS22 {R : Type} (N M : Nat) (s : St) (K : X → St → Option R) : Option R := loopH 1 kp_ctS22 (fun st K => exec ty tab_ctS an_ctS N 1 (atOf [true, true, true, true, true, true, false, true, false, false, true, false, false, true, false, true, false, false, true, true, false, false, true, true, true, false, false] Try.f28) st K) M s K
noncomputable def bk_ctS22 {R : Type} (N M : Nat) (K : X → St → Option R) : X → St → Option R := fun x st => match x with | .norm => tidyK 1 (kp_ctS22.map (·.1)) st fun st => lp_ctS22 N M st K | x => tidyK 1 (kp_ctS22.map (·.2)) st fun st => K x st
noncomputable def kt_ctS22 {R : Type} (N : Nat) (K : X → St → Option R) : X → St → Option R := kBlkR 6 (kBlkR 5 (kSeqR tab_ctS an_ctS N 1 (atOf [true, true, true, true, true, true, false, true, false, false, true, false, false, true, false, true, false, false, true, true, true] Try.f28) (K)))
def en_ctS5_0 (t0n : Nat) (t4 : Int) (rw0 : Bool) (l0 : List Int) : St := ⟨(.sl 0 0 t0n :: .any :: .nil :: .bool false :: .int .i64 t4 :: (anys 88 [])), [.at rw0 (.int .i64 l0)]⟩
def en_ctS5_1 (t0n : Nat) (t4 : Int) (rw0 : Bool) (l0 : List Int) : St := ⟨(.sl 0 0 t0n :: .any :: .any :: .any :: .int .i64 t4 :: (anys 88 [])), [.at rw0 (.int .i64 l0)]⟩
def en_ctS14_0 (t6n : Nat) (rw0 : Bool) (l0 : List Int) (l1 : List Int) : St := ⟨(anys 6 (.sl 1 0 t6n :: (anys 86 []))), [.at rw0 (.int .i64 l0), .at true (.int .i64 l1)]⟩
def en_ctS22_0 (t0n : Nat) (t4 : Int) (t6n : Nat) (t7 : Int) (t8n : Nat) (t55 : Int) (t56 : Int) (rw0 : Bool) (l0 : List Int) (l1 : List Int) (l2 : List Int) : St := ⟨(.sl 0 0 t0n :: .any :: .any :: .any :: .int .i64 t4 :: .any :: .sl 1 0 t6n :: .int .i64 t7 :: .sl 2 0 t8n :: (anys 46 (.int .i64 t55 :: .int .i64 t56 :: (anys 36 [])))), [.at rw0 (.int .i64 l0), .at true (.int .i64 l1), .at true (.int .i64 l2)]⟩
def en_ctS18_0 (t0n : Nat) (t4 : Int) (t7 : Int) (t8n : Nat) (rw0 : Bool) (l0 : List Int) (l1 : List Int) : St := ⟨(.sl 0 0 t0n :: .any :: .any :: .any :: .int .i64 t4 :: .any :: .any :: .int .i64 t7 :: .sl 1 0 t8n :: (anys 84 [])), [.at rw0 (.int .i64 l0), .at true (.int .i64 l1)]⟩
theorem run_ctS (N : Nat) (n : Nat) (rw : Bool) (l : List Int) : run ty tab_ctS an_ctS N Try.f28 [.sl 0 0 n] [.at rw (.int .i64 l)]
    = (match decide ((((n : Nat) : Int) : Int) < 1) with | true => some (.tup [.a (.nil), .a (.bool false)], [.at rw (.int .i64 l)]) | false => (match decide ((((n : Nat) : Int) : Int) > 6) with | true => some (.tup [.a (.nil), .a (.bool false)], [.at rw (.int .i64 l)]) | false => lp_ctS5 N N (st_ctS5 n 0 ((n : Nat) : Int) 0 rw l) (kt_ctS5 N (kEnd Try.f28 1)))) := by
  kernel_rfl
theorem step_ctS5 {R : Type} (N M : Nat) (K : X → St → Option R) (t0n : Nat) (t4 : Int) (t20 : Int) (t21 : Int) (rw0 : Bool) (l0 : List Int) : lp_ctS5 N (M + 1) (st_ctS5 t0n t4 t20 t21 rw0 l0) K
    = (match decide ((t21 : Int) < t20) with | true => (match decide (0 ≤ (t21 : Int) ∧ (t21 : Int) < ((t0n : Nat) : Int)) with | true => (match l0[0 + (t21).toNat * 1]? with | some e1 => (match !(is6 e1) with | true => K .ret (en_ctS5_0 t0n t4 rw0 l0) | false => (match decide (0 ≤ (t21 : Int) ∧ (t21 : Int) < ((t0n : Nat) : Int)) with | true => (match l0[0 + (t21).toNat * 1]? with | some e2 => lp_ctS5 N M (st_ctS5 t0n (IntKind.i64.wrap (t4 + e2)) t20 (IntKind.i64.wrap (t21 + 1)) rw0 l0) K | none => none) | false => none)) | none => none) | false => none) | false => K (.exit 0) (en_ctS5_1 t0n t4 rw0 l0)) := by
  kernel_rfl
theorem step_ctS14 {R : Type} (N M : Nat) (K : X → St → Option R) (t0n : Nat) (t4 : Int) (t6n : Nat) (t7 : Int) (rw0 : Bool) (l0 : List Int) (l1 : List Int) : lp_ctS14 N (M + 1) (st_ctS14 t0n t4 t6n t7 rw0 l0 l1) K
    = (match decide ((t7 : Int) < ((t0n : Nat) : Int)) with | true => (match decide (0 ≤ (IntKind.i64.wrap (t4 + 1) : Int) ∧ (IntKind.i64.wrap (t4 + 1) : Int) ≤ (IntKind.i64.wrap (t4 + 1)) ∧ (IntKind.i64.wrap (t4 + 1) : Int) ≤ 9223372036854775807 ∧ (IntKind.i64.wrap (t4 + 1) : Int).toNat * 8 ≤ 140737488355328 ∧ 0 < 1 ∧ 1 = 1) with | true => lp_ctS18 N N (st_ctS18 t0n t4 t6n t7 ((IntKind.i64.wrap (t4 + 1) : Int).toNat) ((t6n : Nat) : Int) 0 rw0 l0 l1 (List.replicate ((IntKind.i64.wrap (t4 + 1) : Int).toNat) (0 : Int))) (kt_ctS18 N (bk_ctS14 N M K)) | false => none) | false => K (.exit 2) (en_ctS14_0 t6n rw0 l0 l1)) := by
  kernel_rfl
theorem step_ctS18 {R : Type} (N M : Nat) (K : X → St → Option R) (t0n : Nat) (t4 : Int) (t6n : Nat) (t7 : Int) (t8n : Nat) (t55 : Int) (t56 : Int) (rw0 : Bool) (l0 : List Int) (l1 : List Int) (l2 : List Int) : lp_ctS18 N (M + 1) (st_ctS18 t0n t4 t6n t7 t8n t55 t56 rw0 l0 l1 l2) K
    = (match decide ((t56 : Int) < t55) with | true => (match decide (0 ≤ (t56 : Int) ∧ (t56 : Int) < ((t6n : Nat) : Int)) with | true => (match l1[0 + (t56).toNat * 1]? with | some e1 => (match e1 == 0 with | true => lp_ctS18 N M (st_ctS18 t0n t4 t6n t7 t8n t55 (IntKind.i64.wrap (t56 + 1)) rw0 l0 l1 l2) K | false => (match decide (0 ≤ (t7 : Int) ∧ (t7 : Int) < ((t0n : Nat) : Int)) with | true => (match l0[0 + (t7).toNat * 1]? with | some e2 => lp_ctS22 N N (st_ctS22 t0n t4 t6n t7 t8n t56 (gapI t56 e2) t55 rw0 l0 l1 l2) (kt_ctS22 N (bk_ctS18 N M K)) | none => none) | false => none)) | none => none) | false => none) | false => K (.exit 4) (en_ctS18_0 t0n t4 t7 t8n rw0 l0 l2)) := by
  kernel_rfl
theorem step_ctS22 {R : Type} (N M : Nat) (K : X → St → Option R) (t0n : Nat) (t4 : Int) (t6n : Nat) (t7 : Int) (t8n : Nat) (t9 : Int) (t10 : Int) (t55 : Int) (rw0 : Bool) (l0 : List Int) (l1 : List Int) (l2 : List Int) : lp_ctS22 N (M + 1) (st_ctS22 t0n t4 t6n t7 t8n t9 t10 t55 rw0 l0 l1 l2) K
    = (match decide (0 ≤ (t7 : Int) ∧ (t7 : Int) < ((t0n : Nat) : Int)) with | true => (match l0[0 + (t7).toNat * 1]? with | some e1 => (match decide ((t10 : Int) ≤ (IntKind.i64.wrap (t9 + e1))) with | true => (match decide (0 ≤ (t10 : Int) ∧ (t10 : Int) < ((t8n : Nat) : Int)) with | true => (match l2[0 + (t10).toNat * 1]? with | some e2 => (match decide (0 ≤ (t9 : Int) ∧ (t9 : Int) < ((t6n : Nat) : Int)) with | true => (match l1[0 + (t9).toNat * 1]? with | some e3 => (match decide (0 ≤ (t10 : Int) ∧ (t10 : Int) < ((t8n : Nat) : Int)) with | true => (match decide (0 + (t10).toNat * 1 < l2.length) with | true => lp_ctS22 N M (st_ctS22 t0n t4 t6n t7 t8n t9 (IntKind.i64.wrap (t10 + 2)) t55 rw0 l0 l1 (l2.set (0 + (t10).toNat * 1) (IntKind.i64.wrap (e2 + e3)))) K | false => none) | false => none) | none => none) | false => none) | none => none) | false => none) | false => K (.exit 6) (en_ctS22_0 t0n t4 t6n t7 t8n t55 t9 rw0 l0 l1 l2)) | none => none) | false => none) := by
  kernel_rfl
theorem end_ctS5_0 (N : Nat) (t0n : Nat) (t4 : Int) (rw0 : Bool) (l0 : List Int) : kt_ctS5 N (kEnd Try.f28 1) .ret (en_ctS5_0 t0n t4 rw0 l0)
    = some (.tup [.a (.nil), .a (.bool false)], [.at rw0 (.int .i64 l0)]) := by
  kernel_rfl
theorem end_ctS5_1 (N : Nat) (t0n : Nat) (t4 : Int) (rw0 : Bool) (l0 : List Int) : kt_ctS5 N (kEnd Try.f28 1) (.exit 0) (en_ctS5_1 t0n t4 rw0 l0)
    = (match decide (0 ≤ (IntKind.i64.wrap (t4 + 1) : Int) ∧ (IntKind.i64.wrap (t4 + 1) : Int) ≤ (IntKind.i64.wrap (t4 + 1)) ∧ (IntKind.i64.wrap (t4 + 1) : Int) ≤ 9223372036854775807 ∧ (IntKind.i64.wrap (t4 + 1) : Int).toNat * 8 ≤ 140737488355328 ∧ 0 < 1 ∧ 1 = 1) with | true => (match decide (0 ≤ (0 : Int) ∧ (0 : Int) < ((t0n : Nat) : Int)) with | true => (match l0[0]? with | some e1 => (match decide (0 ≤ (e1 : Int) ∧ (e1 : Int) < (((IntKind.i64.wrap (t4 + 1) : Int).toNat : Nat) : Int)) with | true => (match decide (0 + (e1).toNat * 1 < (List.replicate ((IntKind.i64.wrap (t4 + 1) : Int).toNat) (0 : Int)).length) with | true => lp_ctS14 N N (st_ctS14 t0n t4 ((IntKind.i64.wrap (t4 + 1) : Int).toNat) 1 rw0 l0 ((List.replicate ((IntKind.i64.wrap (t4 + 1) : Int).toNat) (0 : Int)).set (0 + (e1).toNat * 1) 1)) (kt_ctS14 N (kEnd Try.f28 1)) | false => none) | false => none) | none => none) | false => none) | false => none) := by
  kernel_rfl
theorem end_ctS14_0 (N : Nat) (t6n : Nat) (rw0 : Bool) (l0 : List Int) (l1 : List Int) : kt_ctS14 N (kEnd Try.f28 1) (.exit 2) (en_ctS14_0 t6n rw0 l0 l1)
    = some (.tup [.a (.sl 1 0 t6n), .a (.bool true)], [.at rw0 (.int .i64 l0), .at true (.int .i64 l1)]) := by
  kernel_rfl
theorem end_ctS22_0 {R : Type} (N M : Nat) (K : X → St → Option R) (t0n : Nat) (t4 : Int) (t6n : Nat) (t7 : Int) (t8n : Nat) (t55 : Int) (t56 : Int) (rw0 : Bool) (l0 : List Int) (l1 : List Int) (l2 : List Int) : kt_ctS22 N (bk_ctS18 N M K) (.exit 6) (en_ctS22_0 t0n t4 t6n t7 t8n t55 t56 rw0 l0 l1 l2)
    = lp_ctS18 N M (st_ctS18 t0n t4 t6n t7 t8n t55 (IntKind.i64.wrap (t56 + 1)) rw0 l0 l1 l2) K := by
  kernel_rfl
theorem end_ctS18_0 {R : Type} (N M : Nat) (K : X → St → Option R) (t0n : Nat) (t4 : Int) (t7 : Int) (t8n : Nat) (rw0 : Bool) (l0 : List Int) (l1 : List Int) : kt_ctS18 N (bk_ctS14 N M K) (.exit 4) (en_ctS18_0 t0n t4 t7 t8n rw0 l0 l1)
    = lp_ctS14 N M (st_ctS14 t0n t4 t8n (IntKind.i64.wrap (t7 + 1)) rw0 l0 l1) K := by
  kernel_rfl

end Go.Proofs.Ythcjbchkagkaaaa.Ab
