/- CountTotals: the loops of the reference. Only lemmas. Printed by gen_count.py. -/
import Derived.Test.YthcjbchkagkaaaaCtC
namespace Go.Proofs.Ythcjbchkagkaaaa.Ab
set_option linter.unusedVariables false
set_option linter.unusedSimpArgs false
open Go
theorem in22 {R : Type} (N : Nat) (K : X → St → Option R) (hN : 16 ≤ N) {i a S : Nat} (hi : i < 1000) (ha : a ≤ 6) (n : Nat) (hn : n ≤ 6) (t4 : Int) (k : Nat) (hk : k < n) (rw : Bool) (l out nx : List Int) (hl : l.length = n) (hlk : l.getD k 0 = (a : Int)) (ho : out.length = S) (h1 : nx.length = S) (hb : i + a < S) (h7 : S < 1000000) (t55 : Int) :
    lp_ctS22 N N (st_ctS22 n t4 S (k : Int) S (i : Int) ((dist i a + 2 * 0 : Nat) : Int) t55 rw l out nx) K = K (.exit 6) (en_ctS22_0 n t4 S (k : Int) S t55 (i : Int) rw l out (inn i a (out.getD i 0) nx)) := by
  have hc := count_up (min i a + 1) (fun j l => setAdd (out.getD i 0) l (dist i a + 2 * j)) (fun M j nx => lp_ctS22 N M (st_ctS22 n t4 S (k : Int) S (i : Int) ((dist i a + 2 * j : Nat) : Int) t55 rw l out nx) K) (fun nx => K (.exit 6) (en_ctS22_0 n t4 S (k : Int) S t55 (i : Int) rw l out nx)) (fun _ nx => nx.length = S)
    (fun M j nx hj hx => ?_) (fun M nx hx => ?_) (min i a + 1) 0 nx (by omega) h1 (N - (min i a + 1 + 1))
  · rw [show min i a + 1 + 1 + (N - (min i a + 1 + 1)) = N by omega] at hc
    exact hc
  · refine ⟨?_, by rw [setAdd_len]; exact hx⟩
    have hd : dist i a + 2 * j < S := by unfold dist; omega
    have hg : l[k]? = some (a : Int) := by rw [getD_some (show k < l.length by omega), hlk]
    have hw : IntKind.i64.wrap ((i : Int) + (a : Int)) = (i : Int) + (a : Int) := wrap_z (by omega) (by omega)
    have hle : decide (((dist i a + 2 * j : Nat) : Int) ≤ (i : Int) + (a : Int)) = true := decide_eq_true (by unfold dist; omega)
    have hx2 : IntKind.i64.wrap (((dist i a + 2 * j : Nat) : Int) + 2) = ((dist i a + 2 * (j + 1) : Nat) : Int) := by rw [wrap_z (by unfold dist; omega) (by unfold dist; omega)]; omega
    simp only [step_ctS22, din hk, ix, hg, hw, hle, din hd, getD_some (show dist i a + 2 * j < nx.length by omega), din (show i < S by omega), getD_some (show i < out.length by omega), decide_eq_true (show dist i a + 2 * j < nx.length by omega), hx2]
    rfl
  · have hg : l[k]? = some (a : Int) := by rw [getD_some (show k < l.length by omega), hlk]
    have hw : IntKind.i64.wrap ((i : Int) + (a : Int)) = (i : Int) + (a : Int) := wrap_z (by omega) (by omega)
    have hle : decide (((dist i a + 2 * (min i a + 1) : Nat) : Int) ≤ (i : Int) + (a : Int)) = false := decide_eq_false (by unfold dist; omega)
    simp only [step_ctS22, din hk, ix, hg, hw, hle]
def put1 (a : Nat) (out : List Int) (i : Nat) (nx : List Int) : List Int := match out.getD i 0 == 0 with | true => nx | false => inn i a (out.getD i 0) nx
theorem put1_len (a : Nat) (out : List Int) (i : Nat) (nx : List Int) : (put1 a out i nx).length = nx.length := by
  unfold put1
  split
  · rfl
  · exact inn_len _ _ _ _
def rowS (a : Nat) (out : List Int) : List Int := rounds (put1 a out) out.length 0 (List.replicate out.length 0)
theorem in18 {R : Type} (N : Nat) (K : X → St → Option R) (hN : 100 ≤ N) {a S : Nat} (ha : a ≤ 6) (n : Nat) (hn : n ≤ 6) (t4 : Int) (k : Nat) (hk : k < n) (rw : Bool) (l out nx : List Int) (hl : l.length = n) (hlk : l.getD k 0 = (a : Int)) (ho : out.length = S) (h1 : nx.length = S) (hz : ∀ i, i < S → out.getD i 0 ≠ 0 → i + a < S) (h7 : S < 90) :
    lp_ctS18 N N (st_ctS18 n t4 S (k : Int) S ((S : Nat) : Int) ((0 : Nat) : Int) rw l out nx) K = K (.exit 4) (en_ctS18_0 n t4 (k : Int) S rw l (rounds (put1 a out) S 0 nx)) := by
  have hc := count_up S (put1 a out) (fun M i nx => lp_ctS18 N M (st_ctS18 n t4 S (k : Int) S ((S : Nat) : Int) (i : Int) rw l out nx) K) (fun nx => K (.exit 4) (en_ctS18_0 n t4 (k : Int) S rw l nx)) (fun _ nx => nx.length = S)
    (fun M i nx hi hx => ?_) (fun M nx hx => ?_) S 0 nx (by omega) h1 (N - (S + 1))
  · rw [show S + 1 + (N - (S + 1)) = N by omega] at hc
    exact hc
  · refine ⟨?_, by rw [put1_len]; exact hx⟩
    have hg : l[k]? = some (a : Int) := by rw [getD_some (show k < l.length by omega), hlk]
    unfold put1
    simp only [step_ctS18, dlt hi, din hi, ix, getD_some (show i < out.length by omega), din hk, hg]
    cases he : out.getD i 0 == 0 with
    | true => rw [wr (show i < 2147483648 by omega)]
    | false =>
      have hne : out.getD i 0 ≠ 0 := by simpa using he
      have h22 := in22 N (kt_ctS22 N (bk_ctS18 N M K)) (by omega) (show i < 1000 by omega) ha n hn t4 k hk rw l out nx hl hlk ho hx (hz i hi hne) (by omega) ((S : Nat) : Int)
      dsimp only
      rw [gapI_nat (by omega) (by omega), show ((dist i a : Nat) : Int) = ((dist i a + 2 * 0 : Nat) : Int) from rfl, h22, end_ctS22_0, wr (show i < 2147483648 by omega)]
  · simp only [step_ctS18, dge (Nat.le_refl _)]
end Go.Proofs.Ythcjbchkagkaaaa.Ab
