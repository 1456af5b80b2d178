/- CountTotals: the program. Only lemmas. Printed by gen_count.py. -/
import Derived.Test.YthcjbchkagkaaaaCtB
namespace Go.Proofs.Ythcjbchkagkaaaa.Ab
set_option linter.unusedVariables false
set_option linter.unusedSimpArgs false
open Go
theorem FnT.runs1 {f : FuncId} {fn : Func} {code : Code} {fns : Fns} (hfn : ∀ f, FnT Try.prog f (fns f)) (hf : Try.prog.funcs[f]? = some fn) (hb : fn.body = some code) (hn : (fn.name == "runtime.NumGoroutine") = false) (an : Ann) (N : Nat) :
    FnT Try.prog f (fun vs h => T.of (run ty fns an N fn vs h)) :=
  fnT hfn hf hb hn an fun vs h v h' e => ⟨N, by rw [T.run_of] at e; exact e⟩
theorem turn_of {l : List Int} (h : turnsB l = true) {i : Nat} (hi : i < l.length) : ∃ A : Nat, l.getD i 0 = (A : Int) ∧ A ≤ 6 := by
  have h1 := List.all_eq_true.mp h (l.getD i 0) (by rw [List.getD_eq_getElem?_getD, List.getElem?_eq_getElem hi]; exact List.getElem_mem hi)
  have h2 := inB_iff.mp h1
  exact ⟨(l.getD i 0).toNat, by omega, by omega⟩
theorem in6 {R : Type} (N : Nat) (K : X → St → Option R) (hN : 100 ≤ N) (rw : Bool) (l : List Int) (hl : l.length ≤ 6) (h1 : 1 ≤ l.length) (ht : turnsB l = true) (c0 : List Int) (hc0 : c0.length ≤ 7) :
    lp_ctI6 N N (st_ctI6 c0.length (l.length - 1) ((l.length - 1 : Nat) : Int) ((0 : Nat) : Int) rw l c0) K = K (.exit 0) (en_ctI6_0 (rounds (fun j cnt => rowI (l.getD (1 + j) 0).toNat cnt) (l.length - 1) 0 c0).length rw l (rounds (fun j cnt => rowI (l.getD (1 + j) 0).toNat cnt) (l.length - 1) 0 c0)) := by
  have hc := count_up (l.length - 1) (fun j cnt => rowI (l.getD (1 + j) 0).toNat cnt) (fun M j cnt => lp_ctI6 N M (st_ctI6 cnt.length (l.length - 1) ((l.length - 1 : Nat) : Int) (j : Int) rw l cnt) K) (fun cnt => K (.exit 0) (en_ctI6_0 cnt.length rw l cnt)) (fun j cnt => cnt.length ≤ 7 + 6 * j)
    (fun M j cnt hj hi => ?_) (fun M cnt hi => ?_) (l.length - 1) 0 c0 (by omega) (by omega) (N - (l.length - 1 + 1))
  · rw [show l.length - 1 + 1 + (N - (l.length - 1 + 1)) = N by omega] at hc
    exact hc
  · obtain ⟨b, hb, hb6⟩ := turn_of ht (show 1 + j < l.length by omega)
    have hg : l[1 + j]? = some (b : Int) := by rw [getD_some (show 1 + j < l.length by omega), hb]
    have hw : IntKind.i64.wrap (((cnt.length : Nat) : Int) + (b : Int)) = ((cnt.length + b : Nat) : Int) := by rw [wrap_z (by omega) (by omega)]; omega
    have hm : decide (0 ≤ ((cnt.length + b : Nat) : Int) ∧ ((cnt.length + b : Nat) : Int) ≤ ((cnt.length + b : Nat) : Int) ∧ ((cnt.length + b : Nat) : Int) ≤ 9223372036854775807 ∧ ((cnt.length + b : Nat) : Int).toNat * 8 ≤ 140737488355328 ∧ 0 < 1 ∧ 1 = 1) = true := decide_eq_true (by omega)
    try dsimp only
    rw [hb, Int.toNat_natCast]
    refine ⟨?_, by rw [rowI_len]; omega⟩
    have h10 := in10 N (kt_ctI10 N (bk_ctI6 N M K)) hN hb6 (cnt.length + b) (l.length - 1) ((l.length - 1 : Nat) : Int) (j : Int) rw l (List.replicate (cnt.length + b) 0) cnt (by simp) rfl (by omega)
    rw [show ((0 : Nat) : Int) = 0 from rfl] at h10
    rw [step_ctI6, dlt hj, din hj, show 1 + ((j : Nat) : Int).toNat * 1 = 1 + j by omega, hg]
    dsimp only
    rw [hw, hm]
    dsimp only
    rw [Int.toNat_natCast, h10, end_ctI10_0, wr (show j < 2147483648 by omega), rowI_len]
    rfl
  · simp only [step_ctI6, dge (Nat.le_refl _)]
def ctOk (l : List Int) : Bool := decide (1 ≤ l.length) && (decide (l.length ≤ 6) && turnsB l)
def gCt : GT := fun vs h => match vs, h with
  | [.sl 0 0 n], [.at rw (.int .i64 l)] => .ite (decide (l.length = n ∧ n < 2147483648)) (.ite (ctOk l) (.ret (.tup [.a (.sl 1 0 (ctV l).length), .a (.bool true)]) [.at rw (.int .i64 l), .at true (.int .i64 (ctV l))]) (.ret (.tup [.a .nil, .a (.bool false)]) [.at rw (.int .i64 l)])) .no
  | [.nil], [] => .ret (.tup [.a .nil, .a (.bool false)]) []
  | _, _ => .no
theorem run_ok_ctI (rw : Bool) (l : List Int) (hb : l.length < 2147483648) : run ty tab_ctI an_ctI 100 Try.f27 [.sl 0 0 l.length] [.at rw (.int .i64 l)] = (T.ite (ctOk l) (.ret (.tup [.a (.sl 1 0 (ctV l).length), .a (.bool true)]) [.at rw (.int .i64 l), .at true (.int .i64 (ctV l))]) (.ret (.tup [.a .nil, .a (.bool false)]) [.at rw (.int .i64 l)])).run := by
  show _ = T.k _ _
  simp only [T.k]
  refine Eq.trans (run_ctI 100 l.length rw l) ?_
  unfold ctOk
  by_cases h1 : l.length < 1
  · rw [decide_eq_true (show ((l.length : Nat) : Int) < 1 by omega), decide_eq_false (show ¬ 1 ≤ l.length by omega)]
    rfl
  · rw [decide_eq_false (show ¬ ((l.length : Nat) : Int) < 1 by omega), decide_eq_true (show 1 ≤ l.length by omega)]
    by_cases h2 : l.length > 6
    · rw [decide_eq_true (show ((l.length : Nat) : Int) > 6 by omega), decide_eq_false (show ¬ l.length ≤ 6 by omega)]
      rfl
    · rw [decide_eq_false (show ¬ ((l.length : Nat) : Int) > 6 by omega), decide_eq_true (show l.length ≤ 6 by omega), decide_eq_true (show l.length = l.length ∧ l.length < 2147483648 from ⟨rfl, hb⟩)]
      cases ht : turnsB l with
      | false => rfl
      | true =>
        obtain ⟨A, hA, hA6⟩ := turn_of ht (show 0 < l.length by omega)
        have hg : l[0]? = some (A : Int) := by rw [getD_some (show 0 < l.length by omega), hA]
        have h0 : decide (0 ≤ (0 : Int) ∧ (0 : Int) < ((l.length : Nat) : Int)) = true := decide_eq_true (by omega)
        have hw : IntKind.i64.wrap ((A : Int) + 1) = ((A + 1 : Nat) : Int) := by rw [wrap_z (by omega) (by omega)]; omega
        have hm : decide (0 ≤ ((A + 1 : Nat) : Int) ∧ ((A + 1 : Nat) : Int) ≤ ((A + 1 : Nat) : Int) ∧ ((A + 1 : Nat) : Int) ≤ 9223372036854775807 ∧ ((A + 1 : Nat) : Int).toNat * 8 ≤ 140737488355328 ∧ 0 < 1 ∧ 1 = 1) = true := decide_eq_true (by omega)
        have hl2 : decide (A < (List.replicate (A + 1) (0 : Int)).length) = true := decide_eq_true (by simp)
        have hs : decide (0 ≤ (1 : Int) ∧ (1 : Int) ≤ ((l.length : Nat) : Int) ∧ ((l.length : Nat) : Int) ≤ ((l.length : Nat) : Int)) = true := decide_eq_true (by omega)
        have hn1 : (((l.length : Nat) : Int) - 1).toNat = l.length - 1 := by omega
        have h6 := in6 100 (kt_ctI6 100 (kEnd Try.f27 1)) (Nat.le_refl _) rw l (by omega) (by omega) ht (single A) (by simp [single]; omega)
        have hsl : (single A).length = A + 1 := by simp [single]
        have hv : ctV l = rounds (fun j cnt => rowI (l.getD (1 + j) 0).toNat cnt) (l.length - 1) 0 (single A) := by
          unfold ctV
          rw [hA, Int.toNat_natCast]
        rw [h0, hg]
        dsimp only [Bool.not_true, Bool.and_self]
        rw [hw, hm]
        dsimp only
        rw [Int.toNat_natCast, din (show A < A + 1 by omega), ix, hl2, hs, hn1]
        dsimp only
        rw [hsl] at h6
        rw [show ((0 : Nat) : Int) = 0 from rfl] at h6
        rw [show (List.replicate (A + 1) (0 : Int)).set A 1 = single A from rfl, h6, end_ctI6_0, ← hv]
        rfl
theorem ok_ctI : FnT Try.prog 27 gCt := by
  intro vs hp v h' e
  unfold gCt at e
  split at e
  · rename_i n rw l
    obtain ⟨hd, e2⟩ := T.pre_inv e
    obtain ⟨rfl, hb⟩ := of_decide_eq_true hd
    exact FnT.runs1 tabok_ctI Try.func27 rfl rfl an_ctI 100 _ _ v h' (by rw [T.run_of]; exact Eq.trans (run_ok_ctI rw l hb) e2)
  · obtain ⟨rfl, rfl⟩ := T.ret_inv e
    exact FnT.runs1 tabok_ctI Try.func27 rfl rfl an_ctI 100 _ _ _ _ (by rw [T.run_of]; kernel_rfl)
  · exact (T.no_inv e).elim
end Go.Proofs.Ythcjbchkagkaaaa.Ab
