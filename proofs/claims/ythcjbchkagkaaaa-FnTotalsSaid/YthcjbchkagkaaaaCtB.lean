/- CountTotals: the loops of the program. Only lemmas. Printed by gen_count.py. -/
import Derived.Test.YthcjbchkagkaaaaCtA
namespace Go.Proofs.Ythcjbchkagkaaaa.Ab
set_option linter.unusedVariables false
set_option linter.unusedSimpArgs false
open Go
def setAdd (m : Int) (l : List Int) (d : Nat) : List Int := l.set d (IntKind.i64.wrap (l.getD d 0 + m))
theorem setAdd_len (m : Int) (l : List Int) (d : Nat) : (setAdd m l d).length = l.length := by simp [setAdd]
def inn (i a : Nat) (m : Int) (l : List Int) : List Int := rounds (fun j l => setAdd m l (dist i a + 2 * j)) (min i a + 1) 0 l
theorem rounds_len {σ : Type} (len : σ → Nat) (f : Nat → σ → σ) (h : ∀ i s, len (f i s) = len s) : ∀ k i s, len (rounds f k i s) = len s := by
  intro k
  induction k with
  | zero => intro i s; rfl
  | succ k ih => intro i s; show len (rounds f k (i + 1) (f i s)) = _; rw [ih, h]
theorem inn_len (i a : Nat) (m : Int) (l : List Int) : (inn i a m l).length = l.length := rounds_len List.length _ (fun _ s => setAdd_len m s _) _ _ _
def rowI (a : Nat) (cnt : List Int) : List Int := rounds (fun i nx => inn i a (cnt.getD i 0) nx) cnt.length 0 (List.replicate (cnt.length + a) 0)
theorem rowI_len (a : Nat) (cnt : List Int) : (rowI a cnt).length = cnt.length + a := by
  unfold rowI
  rw [rounds_len List.length _ (fun i s => inn_len i a _ s)]
  simp
def single (a : Nat) : List Int := (List.replicate (a + 1) (0 : Int)).set a 1
def ctV (l : List Int) : List Int := rounds (fun j cnt => rowI (l.getD (1 + j) 0).toNat cnt) (l.length - 1) 0 (single (l.getD 0 0).toNat)
theorem getD_some {l : List Int} {i : Nat} (h : i < l.length) : l[i]? = some (l.getD i 0) := by simp [List.getD_eq_getElem?_getD, h]
theorem in13 {R : Type} (N : Nat) (K : X → St → Option R) (hN : 16 ≤ N) {i a : Nat} (hi : i < 1000) (ha : a ≤ 6) (t7n : Nat) (m : Int) (t36n : Nat) (t37 t38 : Int) (t47n : Nat) (t48 t49 : Int) (rw : Bool) (l0 l1 l2 : List Int) (h1 : l1.length = t7n) (hb : i + a < t7n) (h7 : t7n < 1000000) :
    lp_ctI13 N N (st_ctI13 (a : Int) t7n m t36n t37 t38 t47n t48 t49 (min i a + 1) ((min i a + 1 : Nat) : Int) ((0 : Nat) : Int) rw l0 l1 l2 (totL i a)) K = K (.exit 4) (en_ctI13_0 (a : Int) t7n t36n t37 t38 t47n t48 t49 rw l0 (inn i a m l1) l2) := by
  have hc := count_up (min i a + 1) (fun j l => setAdd m l (dist i a + 2 * j)) (fun M j l => lp_ctI13 N M (st_ctI13 (a : Int) t7n m t36n t37 t38 t47n t48 t49 (min i a + 1) ((min i a + 1 : Nat) : Int) (j : Int) rw l0 l l2 (totL i a)) K) (fun l => K (.exit 4) (en_ctI13_0 (a : Int) t7n t36n t37 t38 t47n t48 t49 rw l0 l l2)) (fun _ l => l.length = t7n)
    (fun M j l hj hl => ?_) (fun M l hl => ?_) (min i a + 1) 0 l1 (by omega) h1 (N - (min i a + 1 + 1))
  · rw [show min i a + 1 + 1 + (N - (min i a + 1 + 1)) = N by omega] at hc
    exact hc
  · refine ⟨?_, by rw [setAdd_len]; exact hl⟩
    have hd : dist i a + 2 * j < t7n := by unfold dist; omega
    simp only [step_ctI13, dlt hj, din hj, ix, totL_get hj, din hd, getD_some (show dist i a + 2 * j < l.length by omega), decide_eq_true (show dist i a + 2 * j < l.length by omega), wr (show j < 2147483648 by omega)]
    rfl
  · simp only [step_ctI13, dge (Nat.le_refl _)]
theorem in10 {R : Type} (N : Nat) (K : X → St → Option R) (hN : 100 ≤ N) {a : Nat} (ha : a ≤ 6) (t7n t36n : Nat) (t37 t38 : Int) (rw : Bool) (l0 l1 l2 : List Int) (h1 : l1.length = t7n) (hb : l2.length + a = t7n) (h7 : t7n < 90) :
    lp_ctI10 N N (st_ctI10 (a : Int) t7n t36n t37 t38 l2.length ((l2.length : Nat) : Int) ((0 : Nat) : Int) rw l0 l1 l2) K = K (.exit 2) (en_ctI10_0 t7n t36n t37 t38 rw l0 (rounds (fun i nx => inn i a (l2.getD i 0) nx) l2.length 0 l1)) := by
  have hc := count_up l2.length (fun i nx => inn i a (l2.getD i 0) nx) (fun M i l => lp_ctI10 N M (st_ctI10 (a : Int) t7n t36n t37 t38 l2.length ((l2.length : Nat) : Int) (i : Int) rw l0 l l2) K) (fun l => K (.exit 2) (en_ctI10_0 t7n t36n t37 t38 rw l0 l)) (fun _ l => l.length = t7n)
    (fun M i l hi hl => ?_) (fun M l hl => ?_) l2.length 0 l1 (by omega) h1 (N - (l2.length + 1))
  · rw [show l2.length + 1 + (N - (l2.length + 1)) = N by omega] at hc
    exact hc
  · refine ⟨?_, by rw [inn_len]; exact hl⟩
    have hT : inT (i : Int) (a : Int) = true := decide_eq_true (by omega)
    simp only [step_ctI10, dlt hi, din hi, ix, getD_some hi, hT, Int.toNat_natCast, totL_len, show 0 + i * 1 = i by omega]
    have h13 := in13 N (kt_ctI13 N (bk_ctI10 N M K)) (by omega) (show i < 1000 by omega) ha t7n (l2.getD i 0) t36n t37 t38 l2.length ((l2.length : Nat) : Int) (i : Int) rw l0 l l2 hl (by omega) (by omega)
    rw [show ((0 : Nat) : Int) = 0 from rfl] at h13
    rw [h13, end_ctI13_0, wr (show i < 2147483648 by omega)]
  · simp only [step_ctI10, dge (Nat.le_refl _)]
end Go.Proofs.Ythcjbchkagkaaaa.Ab
