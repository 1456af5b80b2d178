/- CountTotals: the outer loop of the reference. Only lemmas. Printed by gen_count.py. -/
import Derived.Test.YthcjbchkagkaaaaCtE
namespace Go.Proofs.Ythcjbchkagkaaaa.Ab
set_option linter.unusedVariables false
set_option linter.unusedSimpArgs false
open Go
def sumF (l : List Int) (i : Nat) : Nat := ((l.drop i).map Int.toNat).sum
theorem sumF_step {l : List Int} {i : Nat} (h : i < l.length) : sumF l i = (l.getD i 0).toNat + sumF l (i + 1) := by
  unfold sumF
  rw [List.drop_eq_getElem_cons h, List.map_cons, List.sum_cons, List.getD_eq_getElem?_getD, List.getElem?_eq_getElem h, Option.getD_some]
theorem sumF_end {l : List Int} {i : Nat} (h : l.length ≤ i) : sumF l i = 0 := by
  unfold sumF
  rw [List.drop_of_length_le h]
  rfl
theorem sumF_le {l : List Int} (ht : turnsB l = true) : ∀ k i, i + k = l.length → sumF l i ≤ 6 * k := by
  intro k
  induction k with
  | zero => intro i hi; rw [sumF_end (by omega)]; omega
  | succ k ih =>
    intro i hi
    obtain ⟨A, hA, hA6⟩ := turn_of ht (show i < l.length by omega)
    rw [sumF_step (by omega), hA, Int.toNat_natCast]
    have := ih (i + 1) (by omega)
    omega
def PadP (l : List Int) (i : Nat) (out cnt : List Int) : Prop := out = cnt ++ List.replicate (sumF l (1 + i)) 0 ∧ cnt.length + sumF l (1 + i) = sumF l 0 + 1
theorem pad_step {l : List Int} (ht : turnsB l = true) {j : Nat} (hj : 1 + j < l.length) {out cnt : List Int} (hp : PadP l j out cnt) : PadP l (j + 1) (rowS (l.getD (1 + j) 0).toNat out) (rowI (l.getD (1 + j) 0).toNat cnt) := by
  obtain ⟨h1, h2⟩ := hp
  rw [sumF_step hj] at h1 h2
  subst h1
  refine ⟨?_, ?_⟩
  · rw [row_pad.1, show 1 + (j + 1) = 1 + j + 1 by omega]
  · rw [rowI_len, show 1 + (j + 1) = 1 + j + 1 by omega]
    omega
theorem in14 {R : Type} (N : Nat) (K : X → St → Option R) (hN : 100 ≤ N) (rw : Bool) (l : List Int) (hl : l.length ≤ 6) (h1 : 1 ≤ l.length) (ht : turnsB l = true) (out0 cnt0 : List Int) (hp0 : PadP l 0 out0 cnt0) :
    lp_ctS14 N N (st_ctS14 l.length ((sumF l 0 : Nat) : Int) (sumF l 0 + 1) ((0 + 1 : Nat) : Int) rw l out0) K = K (.exit 2) (en_ctS14_0 (sumF l 0 + 1) rw l (rounds (fun j cnt => rowI (l.getD (1 + j) 0).toNat cnt) (l.length - 1) 0 cnt0)) := by
  have hS : sumF l 0 ≤ 36 := by have := sumF_le ht l.length 0 (by omega); omega
  have hout : ∀ j out, (∃ cnt, PadP l j out cnt) → out.length = sumF l 0 + 1 := fun j out ⟨cnt, h1, h2⟩ => by rw [h1]; simp; exact h2
  have hc := count_up (l.length - 1) (fun j out => rowS (l.getD (1 + j) 0).toNat out) (fun M j out => lp_ctS14 N M (st_ctS14 l.length ((sumF l 0 : Nat) : Int) (sumF l 0 + 1) ((j + 1 : Nat) : Int) rw l out) K) (fun out => K (.exit 2) (en_ctS14_0 (sumF l 0 + 1) rw l out)) (fun j out => ∃ cnt, PadP l j out cnt)
    (fun M j out hj hi => ?_) (fun M out hi => ?_) (l.length - 1) 0 out0 (by omega) ⟨cnt0, hp0⟩ (N - (l.length - 1 + 1))
  · rw [show l.length - 1 + 1 + (N - (l.length - 1 + 1)) = N by omega] at hc
    rw [hc]
    have hr := rounds_rel (fun j out cnt => PadP l j out cnt) (fun j out => rowS (l.getD (1 + j) 0).toNat out) (fun j cnt => rowI (l.getD (1 + j) 0).toNat cnt) (l.length - 1) (fun i s t hi hp => pad_step ht (by omega) hp) (l.length - 1) 0 out0 cnt0 (by omega) hp0
    have hr1 := hr.1
    rw [sumF_end (show l.length ≤ 1 + (l.length - 1) by omega), List.replicate_zero, List.append_nil] at hr1
    rw [hr1]
  · obtain ⟨cnt, hp⟩ := hi
    have hol := hout j out ⟨cnt, hp⟩
    refine ⟨?_, ⟨_, pad_step ht (by omega) hp⟩⟩
    obtain ⟨b, hb, hb6⟩ := turn_of ht (show j + 1 < l.length by omega)
    have hw : IntKind.i64.wrap (((sumF l 0 : Nat) : Int) + 1) = ((sumF l 0 + 1 : Nat) : Int) := by rw [wrap_z (by omega) (by omega)]; omega
    have hm : decide (0 ≤ ((sumF l 0 + 1 : Nat) : Int) ∧ ((sumF l 0 + 1 : Nat) : Int) ≤ ((sumF l 0 + 1 : Nat) : Int) ∧ ((sumF l 0 + 1 : Nat) : Int) ≤ 9223372036854775807 ∧ ((sumF l 0 + 1 : Nat) : Int).toNat * 8 ≤ 140737488355328 ∧ 0 < 1 ∧ 1 = 1) = true := decide_eq_true (by omega)
    have h18 := in18 N (kt_ctS18 N (bk_ctS14 N M K)) hN hb6 l.length hl ((sumF l 0 : Nat) : Int) (j + 1) (show j + 1 < l.length by omega) rw l out (List.replicate (sumF l 0 + 1) 0) rfl hb hol (by simp) (fun i hi hne => by
      obtain ⟨q1, q2⟩ := hp
      by_cases hic : i < cnt.length
      · rw [sumF_step (show 1 + j < l.length by omega), show 1 + j = j + 1 by omega, hb, Int.toNat_natCast] at q2
        omega
      · rw [q1] at hne
        exact absurd (getD_zero (by omega)) hne) (by omega)
    rw [show ((0 : Nat) : Int) = 0 from rfl] at h18
    rw [step_ctS14, dlt (show j + 1 < l.length by omega)]
    dsimp only
    rw [hw, hm]
    dsimp only
    rw [Int.toNat_natCast, h18, end_ctS18_0, wr (show j + 1 < 2147483648 by omega), show l.getD (1 + j) 0 = (b : Int) by rw [show 1 + j = j + 1 by omega, hb], Int.toNat_natCast]
    unfold rowS
    rw [hol]
  · simp only [step_ctS14, dge (show l.length ≤ l.length - 1 + 1 by omega)]
end Go.Proofs.Ythcjbchkagkaaaa.Ab
