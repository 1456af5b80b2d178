/- CountTotals: the row. Only lemmas. Printed by gen_count.py. -/
import Derived.Test.YthcjbchkagkaaaaCtF
namespace Go.Proofs.Ythcjbchkagkaaaa.Ab
set_option linter.unusedVariables false
set_option linter.unusedSimpArgs false
open Go
theorem is6_nat {A : Nat} (h : A ≤ 6) : is6 (A : Int) = true := inB_iff.mpr ⟨by omega, by omega⟩
theorem in5 {R : Type} (N : Nat) (K : X → St → Option R) (hN : 100 ≤ N) (rw : Bool) (l : List Int) (hl : l.length ≤ 6) (ht : turnsB l = true) :
    lp_ctS5 N N (st_ctS5 l.length ((0 : Nat) : Int) ((l.length : Nat) : Int) ((0 : Nat) : Int) rw l) K = K (.exit 0) (en_ctS5_1 l.length ((sumF l 0 : Nat) : Int) rw l) := by
  have hS : sumF l 0 ≤ 36 := by have := sumF_le ht l.length 0 (by omega); omega
  have hc := count_up l.length (fun i s => s + (l.getD i 0).toNat) (fun M i s => lp_ctS5 N M (st_ctS5 l.length ((s : Nat) : Int) ((l.length : Nat) : Int) (i : Int) rw l) K) (fun s => K (.exit 0) (en_ctS5_1 l.length ((s : Nat) : Int) rw l)) (fun i s => s + sumF l i = sumF l 0)
    (fun M i s hi hs => ?_) (fun M s hs => ?_) l.length 0 0 (by omega) (by omega) (N - (l.length + 1))
  · rw [show l.length + 1 + (N - (l.length + 1)) = N by omega] at hc
    rw [hc]
    have hr := rounds_rel (fun i (s : Nat) (_ : Unit) => s + sumF l i = sumF l 0) (fun i s => s + (l.getD i 0).toNat) (fun _ t => t) l.length (fun i s _ hi hp => by rw [sumF_step hi] at hp; omega) l.length 0 0 () (by omega) (by omega)
    rw [sumF_end (Nat.le_refl _), Nat.add_zero] at hr
    rw [hr]
  · obtain ⟨A, hA, hA6⟩ := turn_of ht hi
    have hg : l[i]? = some (A : Int) := by rw [getD_some hi, hA]
    rw [sumF_step hi, hA, Int.toNat_natCast] at hs
    have hw : IntKind.i64.wrap (((s : Nat) : Int) + (A : Int)) = ((s + A : Nat) : Int) := by rw [wrap_z (by omega) (by omega)]; omega
    refine ⟨?_, by rw [hA, Int.toNat_natCast]; omega⟩
    simp only [step_ctS5, dlt hi, din hi, ix, show 0 + i * 1 = i by omega, hg, is6_nat hA6, Bool.not_true, hw, wr (show i < 2147483648 by omega), hA, Int.toNat_natCast]
  · simp only [step_ctS5, dge (Nat.le_refl _)]
theorem no5 (N : Nat) (rw : Bool) (l : List Int) (hl : l.length ≤ 6) : ∀ k i (s : Int), i + k = l.length → (l.drop i).all (fun a => inB a 0 6) = false → ∀ M, lp_ctS5 N (k + M) (st_ctS5 l.length s ((l.length : Nat) : Int) (i : Int) rw l) (kt_ctS5 N (kEnd Try.f28 1)) = some (.tup [.a (.nil), .a (.bool false)], [.at rw (.int .i64 l)]) := by
  intro k
  induction k with
  | zero =>
    intro i s hi hf
    rw [List.drop_of_length_le (by omega)] at hf
    cases hf
  | succ k ih =>
    intro i s hi hf M
    have hlt : i < l.length := by omega
    rw [List.drop_eq_getElem_cons hlt, List.all_cons] at hf
    have hg : l[i]? = some l[i] := List.getElem?_eq_getElem hlt
    rw [show k + 1 + M = (k + M) + 1 by omega, step_ctS5, dlt hlt, din hlt, ix, hg]
    dsimp only
    unfold is6
    cases h6 : inB l[i] 0 6 with
    | false =>
      rw [end_ctS5_0]
      rfl
    | true =>
      rw [h6, Bool.true_and] at hf
      try dsimp only [Bool.not_true]
      rw [wr (show i < 2147483648 by omega)]
      exact ih (i + 1) _ (by omega) hf M
theorem pad0 {l : List Int} {A : Nat} (h1 : 1 ≤ l.length) (hA : l.getD 0 0 = (A : Int)) : PadP l 0 ((List.replicate (sumF l 0 + 1) (0 : Int)).set A 1) (single A) := by
  have hs : sumF l 0 = A + sumF l 1 := by rw [sumF_step (show 0 < l.length by omega), hA, Int.toNat_natCast]
  refine ⟨?_, ?_⟩
  · unfold single
    rw [hs, show A + sumF l 1 + 1 = A + 1 + sumF l 1 by omega, ← List.replicate_append_replicate, List.set_append_left _ _ (by simp)]
  · unfold single
    rw [hs]
    simp
    omega
theorem ctV_len {l : List Int} (h : ctOk l = true) : (ctV l).length < 100 := by
  unfold ctOk at h
  rw [Bool.and_eq_true, Bool.and_eq_true] at h
  obtain ⟨h1, h2, ht⟩ := h
  have h1 := of_decide_eq_true h1
  have h2 := of_decide_eq_true h2
  obtain ⟨A, hA, hA6⟩ := turn_of ht (show 0 < l.length by omega)
  have hS : sumF l 0 ≤ 36 := by have := sumF_le ht l.length 0 (by omega); omega
  have hr := rounds_rel (fun j out cnt => PadP l j out cnt) (fun j out => rowS (l.getD (1 + j) 0).toNat out) (fun j cnt => rowI (l.getD (1 + j) 0).toNat cnt) (l.length - 1) (fun i s t hi hp => pad_step ht (by omega) hp) (l.length - 1) 0 _ _ (by omega) (pad0 h1 hA)
  unfold ctV
  rw [hA, Int.toNat_natCast]
  have := hr.2
  omega
theorem run_ok_ctS (rw : Bool) (l : List Int) (hb : l.length < 2147483648) : run ty tab_ctS an_ctS 100 Try.f28 [.sl 0 0 l.length] [.at rw (.int .i64 l)] = (T.ite (ctOk l) (.ret (.tup [.a (.sl 1 0 (ctV l).length), .a (.bool true)]) [.at rw (.int .i64 l), .at true (.int .i64 (ctV l))]) (.ret (.tup [.a .nil, .a (.bool false)]) [.at rw (.int .i64 l)])).run := by
  show _ = T.k _ _
  simp only [T.k]
  refine Eq.trans (run_ctS 100 l.length rw l) ?_
  unfold ctOk
  by_cases h1 : l.length < 1
  · rw [decide_eq_true (show ((l.length : Nat) : Int) < 1 by omega), decide_eq_false (show ¬ 1 ≤ l.length by omega)]
    rfl
  · rw [decide_eq_false (show ¬ ((l.length : Nat) : Int) < 1 by omega), decide_eq_true (show 1 ≤ l.length by omega)]
    by_cases h2 : l.length > 6
    · rw [decide_eq_true (show ((l.length : Nat) : Int) > 6 by omega), decide_eq_false (show ¬ l.length ≤ 6 by omega)]
      rfl
    · rw [decide_eq_false (show ¬ ((l.length : Nat) : Int) > 6 by omega), decide_eq_true (show l.length ≤ 6 by omega)]
      dsimp only
      cases ht : turnsB l with
      | false =>
        have h5 := no5 100 rw l (by omega) l.length 0 0 (by omega) ht (100 - l.length)
        rw [show l.length + (100 - l.length) = 100 by omega] at h5
        exact h5
      | true =>
        obtain ⟨A, hA, hA6⟩ := turn_of ht (show 0 < l.length by omega)
        have hS : sumF l 0 ≤ 36 := by have := sumF_le ht l.length 0 (by omega); omega
        have hs : sumF l 0 = A + sumF l 1 := by rw [sumF_step (show 0 < l.length by omega), hA, Int.toNat_natCast]
        have hg : l[0]? = some (A : Int) := by rw [getD_some (show 0 < l.length by omega), hA]
        have h0 : decide (0 ≤ (0 : Int) ∧ (0 : Int) < ((l.length : Nat) : Int)) = true := decide_eq_true (by omega)
        have hw : IntKind.i64.wrap (((sumF l 0 : Nat) : Int) + 1) = ((sumF l 0 + 1 : Nat) : Int) := by rw [wrap_z (by omega) (by omega)]; omega
        have hm : decide (0 ≤ ((sumF l 0 + 1 : Nat) : Int) ∧ ((sumF l 0 + 1 : Nat) : Int) ≤ ((sumF l 0 + 1 : Nat) : Int) ∧ ((sumF l 0 + 1 : Nat) : Int) ≤ 9223372036854775807 ∧ ((sumF l 0 + 1 : Nat) : Int).toNat * 8 ≤ 140737488355328 ∧ 0 < 1 ∧ 1 = 1) = true := decide_eq_true (by omega)
        have hl2 : decide (A < (List.replicate (sumF l 0 + 1) (0 : Int)).length) = true := decide_eq_true (by simp; omega)
        have h5 := in5 100 (kt_ctS5 100 (kEnd Try.f28 1)) (Nat.le_refl _) rw l (by omega) ht
        have h14 := in14 100 (kt_ctS14 100 (kEnd Try.f28 1)) (Nat.le_refl _) rw l (by omega) (by omega) ht _ _ (pad0 (by omega) hA)
        have hv : ctV l = rounds (fun j cnt => rowI (l.getD (1 + j) 0).toNat cnt) (l.length - 1) 0 (single A) := by
          unfold ctV
          rw [hA, Int.toNat_natCast]
        have hvl : (ctV l).length = sumF l 0 + 1 := by
          have hr := rounds_rel (fun j out cnt => PadP l j out cnt) (fun j out => rowS (l.getD (1 + j) 0).toNat out) (fun j cnt => rowI (l.getD (1 + j) 0).toNat cnt) (l.length - 1) (fun i s t hi hp => pad_step ht (by omega) hp) (l.length - 1) 0 _ _ (by omega) (pad0 (by omega) hA)
          rw [hv]
          have := hr.2
          rw [sumF_end (show l.length ≤ 1 + (l.length - 1) by omega)] at this
          omega
        rw [show ((0 : Nat) : Int) = 0 from rfl] at h5
        rw [h5, end_ctS5_1, hw, hm, h0, hg]
        dsimp only
        rw [Int.toNat_natCast, din (show A < sumF l 0 + 1 by omega), ix, hl2]
        dsimp only
        rw [show ((0 + 1 : Nat) : Int) = 1 from rfl] at h14
        rw [h14, end_ctS14_0, ← hv, hvl]
        rfl
theorem ok_ctS : FnT Try.prog 28 gCt := by
  intro vs hp v h' e
  unfold gCt at e
  split at e
  · rename_i n rw l
    obtain ⟨hd, e2⟩ := T.pre_inv e
    obtain ⟨rfl, hb⟩ := of_decide_eq_true hd
    exact FnT.runs1 tabok_ctS Try.func28 rfl rfl an_ctS 100 _ _ v h' (by rw [T.run_of]; exact Eq.trans (run_ok_ctS rw l hb) e2)
  · obtain ⟨rfl, rfl⟩ := T.ret_inv e
    exact FnT.runs1 tabok_ctS Try.func28 rfl rfl an_ctS 100 _ _ _ _ (by rw [T.run_of]; kernel_rfl)
  · exact (T.no_inv e).elim
def tab_lawA : Fns := tabT [(34, g_toI), (28, gCt), (27, gCt), (35, gEqI), (36, gMarkI), (37, gHeldI)]
theorem tabok_lawA : ∀ f, FnT Try.prog f (tab_lawA f) := (tabT_cons (k := 34) ok_toI (tabT_cons (k := 28) ok_ctS (tabT_cons (k := 27) ok_ctI (tabT_cons (k := 35) ok_eqI (tabT_cons (k := 36) ok_markI (tabT_cons (k := 37) ok_heldI tabT_nil))))))
theorem run_lawA (N : Nat) (n : Nat) (l : List Int) : run ty tab_lawA ann0 N Try.f8 [.sl 0 0 n] [.at false (.int .i64 l)]
    = (match decide ((((n : Nat) : Int) : Int) > 1048576) with | true => some (.bool true, [.at false (.int .i64 l)]) | false => (match decide (l.length = n ∧ n < 2147483648) with | true => (match decide (l.length = n ∧ n < 2147483648) with | true => (match ctOk l with | true => (match decide (l.length = n ∧ n < 2147483648) with | true => (match decide (l.length = n ∧ n < 2147483648) with | true => (match ctOk l with | true => (match decide ((ctV l).length = (ctV l).length ∧ (ctV l).length = (ctV l).length ∧ (ctV l).length < 2147483648 ∧ (ctV l).length < 2147483648) with | true => (match !(eqIB (ctV l) (ctV l)) with | true => some (.bool false, [.at false (.int .i64 l)]) | false => (match decide (l.length = n ∧ n < 2147483648) with | true => (match decide (l.length = n ∧ l.length = n ∧ n < 2147483648 ∧ n < 2147483648) with | true => (match !(eqIB l l) with | true => some (.bool false, [.at false (.int .i64 l)]) | false => (match decide (l.length = n ∧ n < 2147483648 ∧ 0 ≤ (1 : Int) ∧ (1 : Int) < 2147483648) with | true => (match decide ((1 + (n : Int) : Int) < 0) with | true => some (.bool false, [.at false (.int .i64 l)]) | false => (match decide ((ctV l).length = (ctV l).length ∧ (ctV l).length = (ctV l).length ∧ (ctV l).length < 2147483648 ∧ (ctV l).length < 2147483648) with | true => (match !(eqIB (ctV l) (ctV l)) with | true => some (.bool false, [.at false (.int .i64 l)]) | false => (match decide ((ctV l).length = (ctV l).length ∧ (ctV l).length < 2147483648 ∧ 0 ≤ (1 : Int) ∧ (1 : Int) < 2147483648) with | true => (match decide (marksI 1 ((ctV l).length) = marksI 1 ((ctV l).length) ∧ (ctV l).length < 2147483648 ∧ 0 ≤ (1 : Int) ∧ (1 : Int) < 2147483648) with | true => (match decide ((1 + ((ctV l).length : Int) : Int) < 0) with | true => some (.bool false, [.at false (.int .i64 l)]) | false => (match (1 + ((ctV l).length : Int)) != (1 + ((ctV l).length : Int)) with | true => some (.bool false, [.at false (.int .i64 l)]) | false => (match decide (l.length = n ∧ n < 2147483648) with | true => (match decide (l.length = n ∧ n < 2147483648) with | true => (match ctOk l with | true => (match decide ((ctV l).length = (ctV l).length ∧ (ctV l).length = (ctV l).length ∧ (ctV l).length < 2147483648 ∧ (ctV l).length < 2147483648) with | true => (match !(eqIB (ctV l) (ctV l)) with | true => some (.bool false, [.at false (.int .i64 l)]) | false => (match decide (marksI 1 ((ctV l).length) = marksI 1 ((ctV l).length) ∧ (ctV l).length < 2147483648 ∧ 0 ≤ (1 : Int) ∧ (1 : Int) < 2147483648) with | true => (match decide ((1 + ((ctV l).length : Int) : Int) < 0) with | true => some (.bool false, [.at false (.int .i64 l)]) | false => (match (1 + ((ctV l).length : Int)) != (1 + ((ctV l).length : Int)) with | true => some (.bool false, [.at false (.int .i64 l)]) | false => some (.bool true, [.at false (.int .i64 l)]))) | false => none)) | false => none) | false => none) | false => none) | false => none))) | false => none) | false => none)) | false => none)) | false => none)) | false => none) | false => none)) | false => none) | false => none) | false => none) | false => none) | false => (match decide (l.length = n ∧ n < 2147483648) with | true => (match decide (l.length = n ∧ n < 2147483648) with | true => (match ctOk l with | true => none | false => (match decide (l.length = n ∧ n < 2147483648) with | true => (match decide (l.length = n ∧ l.length = n ∧ n < 2147483648 ∧ n < 2147483648) with | true => (match !(eqIB l l) with | true => some (.bool false, [.at false (.int .i64 l)]) | false => (match decide (l.length = n ∧ n < 2147483648 ∧ 0 ≤ (1 : Int) ∧ (1 : Int) < 2147483648) with | true => (match decide ((1 + (n : Int) : Int) < 0) with | true => some (.bool false, [.at false (.int .i64 l)]) | false => (match decide (l.length = n ∧ n < 2147483648) with | true => (match decide (l.length = n ∧ n < 2147483648) with | true => (match ctOk l with | true => none | false => some (.bool true, [.at false (.int .i64 l)])) | false => none) | false => none)) | false => none)) | false => none) | false => none)) | false => none) | false => none)) | false => none) | false => none)) := by
  kernel_rfl

def tab_lawB : Fns := tabT [(34, g_toI), (28, gCt), (27, gCt), (35, gEqI), (36, gMarkI), (37, gHeldI)]
theorem tabok_lawB : ∀ f, FnT Try.prog f (tab_lawB f) := (tabT_cons (k := 34) ok_toI (tabT_cons (k := 28) ok_ctS (tabT_cons (k := 27) ok_ctI (tabT_cons (k := 35) ok_eqI (tabT_cons (k := 36) ok_markI (tabT_cons (k := 37) ok_heldI tabT_nil))))))
theorem run_lawB (N : Nat)  : run ty tab_lawB ann0 N Try.f8 [.nil] []
    = (match decide (([] : List Int).length = 0 ∧ 0 < 2147483648) with | true => (match ctOk ([] : List Int) with | true => (match decide (([] : List Int).length = 0 ∧ 0 < 2147483648) with | true => (match ctOk ([] : List Int) with | true => (match decide ((ctV ([] : List Int)).length = (ctV ([] : List Int)).length ∧ (ctV ([] : List Int)).length = (ctV ([] : List Int)).length ∧ (ctV ([] : List Int)).length < 2147483648 ∧ (ctV ([] : List Int)).length < 2147483648) with | true => (match !(eqIB (ctV ([] : List Int)) (ctV ([] : List Int))) with | true => some (.bool false, []) | false => (match decide (([] : List Int).length = 0 ∧ ([] : List Int).length = 0 ∧ 0 < 2147483648 ∧ 0 < 2147483648) with | true => (match !(eqIB ([] : List Int) ([] : List Int)) with | true => some (.bool false, []) | false => (match decide (([] : List Int).length = 0 ∧ 0 < 2147483648 ∧ 0 ≤ (1 : Int) ∧ (1 : Int) < 2147483648) with | true => (match decide ((1 + (0 : Int) : Int) < 0) with | true => some (.bool false, []) | false => (match decide ((ctV ([] : List Int)).length = (ctV ([] : List Int)).length ∧ (ctV ([] : List Int)).length = (ctV ([] : List Int)).length ∧ (ctV ([] : List Int)).length < 2147483648 ∧ (ctV ([] : List Int)).length < 2147483648) with | true => (match !(eqIB (ctV ([] : List Int)) (ctV ([] : List Int))) with | true => some (.bool false, []) | false => (match decide ((ctV ([] : List Int)).length = (ctV ([] : List Int)).length ∧ (ctV ([] : List Int)).length < 2147483648 ∧ 0 ≤ (1 : Int) ∧ (1 : Int) < 2147483648) with | true => (match decide (marksI 1 ((ctV ([] : List Int)).length) = marksI 1 ((ctV ([] : List Int)).length) ∧ (ctV ([] : List Int)).length < 2147483648 ∧ 0 ≤ (1 : Int) ∧ (1 : Int) < 2147483648) with | true => (match decide ((1 + ((ctV ([] : List Int)).length : Int) : Int) < 0) with | true => some (.bool false, []) | false => (match (1 + ((ctV ([] : List Int)).length : Int)) != (1 + ((ctV ([] : List Int)).length : Int)) with | true => some (.bool false, []) | false => (match decide (([] : List Int).length = 0 ∧ 0 < 2147483648) with | true => (match ctOk ([] : List Int) with | true => (match decide ((ctV ([] : List Int)).length = (ctV ([] : List Int)).length ∧ (ctV ([] : List Int)).length = (ctV ([] : List Int)).length ∧ (ctV ([] : List Int)).length < 2147483648 ∧ (ctV ([] : List Int)).length < 2147483648) with | true => (match !(eqIB (ctV ([] : List Int)) (ctV ([] : List Int))) with | true => some (.bool false, []) | false => (match decide (marksI 1 ((ctV ([] : List Int)).length) = marksI 1 ((ctV ([] : List Int)).length) ∧ (ctV ([] : List Int)).length < 2147483648 ∧ 0 ≤ (1 : Int) ∧ (1 : Int) < 2147483648) with | true => (match decide ((1 + ((ctV ([] : List Int)).length : Int) : Int) < 0) with | true => some (.bool false, []) | false => (match (1 + ((ctV ([] : List Int)).length : Int)) != (1 + ((ctV ([] : List Int)).length : Int)) with | true => some (.bool false, []) | false => some (.bool true, []))) | false => none)) | false => none) | false => none) | false => none))) | false => none) | false => none)) | false => none)) | false => none)) | false => none)) | false => none) | false => none) | false => none) | false => (match decide (([] : List Int).length = 0 ∧ 0 < 2147483648) with | true => (match ctOk ([] : List Int) with | true => none | false => (match decide (([] : List Int).length = 0 ∧ ([] : List Int).length = 0 ∧ 0 < 2147483648 ∧ 0 < 2147483648) with | true => (match !(eqIB ([] : List Int) ([] : List Int)) with | true => some (.bool false, []) | false => (match decide (([] : List Int).length = 0 ∧ 0 < 2147483648 ∧ 0 ≤ (1 : Int) ∧ (1 : Int) < 2147483648) with | true => (match decide ((1 + (0 : Int) : Int) < 0) with | true => some (.bool false, []) | false => (match decide (([] : List Int).length = 0 ∧ 0 < 2147483648) with | true => (match ctOk ([] : List Int) with | true => none | false => some (.bool true, [])) | false => none)) | false => none)) | false => none)) | false => none)) | false => none) := by
  kernel_rfl

theorem H_lawA (n : Nat) (l : List Int) (hn : l.length = n) : run ty tab_lawA ann0 0 Try.f8 [.sl 0 0 n] [.at false (.int .i64 l)] = some (.bool true, [.at false (.int .i64 l)]) := by
  refine Eq.trans (run_lawA 0 n l) ?_
  cases hc1 : decide ((((n : Nat) : Int) : Int) > 1048576)
  case false =>
    have fhc1 := of_decide_eq_false hc1
    have hc2 : (decide (l.length = n ∧ n < 2147483648)) = true := decide_eq_true (by first | omega | (simp [marksI] <;> omega))
    rw [hc2]
    cases hc3 : ctOk l
    case false =>
      have hc4 : (decide (l.length = n ∧ l.length = n ∧ n < 2147483648 ∧ n < 2147483648)) = true := decide_eq_true (by first | omega | (simp [marksI] <;> omega))
      have hc5 : (!(eqIB l l)) = false := by rw [eqIB_self]; rfl
      have hc6 : (decide (l.length = n ∧ n < 2147483648 ∧ 0 ≤ (1 : Int) ∧ (1 : Int) < 2147483648)) = true := decide_eq_true (by first | omega | (simp [marksI] <;> omega))
      have hc7 : (decide ((1 + (n : Int) : Int) < 0)) = false := decide_eq_false (by first | omega | (simp [marksI] <;> omega))
      rw [hc4, hc5, hc6, hc7]
    case true =>
      have ghc3 := ctV_len hc3
      have hc8 : (decide ((ctV l).length = (ctV l).length ∧ (ctV l).length = (ctV l).length ∧ (ctV l).length < 2147483648 ∧ (ctV l).length < 2147483648)) = true := decide_eq_true (by first | omega | (simp [marksI] <;> omega))
      have hc9 : (!(eqIB (ctV l) (ctV l))) = false := by rw [eqIB_self]; rfl
      have hc10 : (decide (l.length = n ∧ l.length = n ∧ n < 2147483648 ∧ n < 2147483648)) = true := decide_eq_true (by first | omega | (simp [marksI] <;> omega))
      have hc11 : (!(eqIB l l)) = false := by rw [eqIB_self]; rfl
      have hc12 : (decide (l.length = n ∧ n < 2147483648 ∧ 0 ≤ (1 : Int) ∧ (1 : Int) < 2147483648)) = true := decide_eq_true (by first | omega | (simp [marksI] <;> omega))
      have hc13 : (decide ((1 + (n : Int) : Int) < 0)) = false := decide_eq_false (by first | omega | (simp [marksI] <;> omega))
      have hc14 : (decide ((ctV l).length = (ctV l).length ∧ (ctV l).length < 2147483648 ∧ 0 ≤ (1 : Int) ∧ (1 : Int) < 2147483648)) = true := decide_eq_true (by first | omega | (simp [marksI] <;> omega))
      have hc15 : (decide (marksI 1 ((ctV l).length) = marksI 1 ((ctV l).length) ∧ (ctV l).length < 2147483648 ∧ 0 ≤ (1 : Int) ∧ (1 : Int) < 2147483648)) = true := decide_eq_true (by first | omega | (simp [marksI] <;> omega))
      have hc16 : (decide ((1 + ((ctV l).length : Int) : Int) < 0)) = false := decide_eq_false (by first | omega | (simp [marksI] <;> omega))
      have hc17 : ((1 + ((ctV l).length : Int)) != (1 + ((ctV l).length : Int))) = false := by first | rfl | simp [marksI]
      rw [hc8, hc9, hc10, hc11, hc12, hc13, hc14, hc15, hc16, hc17]
  case true =>
    have fhc1 := of_decide_eq_true hc1
    rfl
theorem H_lawB : run ty tab_lawB ann0 0 Try.f8 [.nil] [] = some (.bool true, []) := by
  refine Eq.trans (run_lawB 0) ?_
  kernel_rfl
theorem ok_lawCountTotals : FnOk Try.prog 8 (fun vs h => match vs, h with
  | [.sl 0 0 n], [.at false (.int .i64 l)] => if n = l.length then some (.bool true, [.at false (.int .i64 l)]) else none
  | [.nil], [] => some (.bool true, [])
  | _, _ => none) := by
  intro vs hp v h' e
  rw [T.run_of] at e
  dsimp only at e
  split at e
  · rename_i n l
    split at e
    · rename_i hn
      cases e
      exact FnT.runs1 tabok_lawA Try.func8 rfl rfl ann0 0 _ _ _ _ (by rw [T.run_of]; exact H_lawA n l hn.symm)
    · cases e
  · cases e
    exact FnT.runs1 tabok_lawB Try.func8 rfl rfl ann0 0 _ _ _ _ (by rw [T.run_of]; exact H_lawB)
  · cases e
end Go.Proofs.Ythcjbchkagkaaaa.Ab
