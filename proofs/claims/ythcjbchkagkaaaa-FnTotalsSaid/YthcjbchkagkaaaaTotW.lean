/- How many parts the joined totals have: the counts, each by its number of parts, sum to the product. Only lemmas. -/
import Derived.Test.YthcjbchkagkaaaaCtG
namespace Go.Proofs.Ythcjbchkagkaaaa.Ab
set_option linter.unusedVariables false
set_option linter.unusedSimpArgs false
open Go

def wsum : Nat → List Int → Int
  | _, [] => 0
  | w, x :: l => x * ((w : Nat) : Int) + wsum (w + 1) l
def NN (l : List Int) : Prop := ∀ d, 0 ≤ l.getD d 0
theorem NN.tail {x : Int} {l : List Int} (h : NN (x :: l)) : NN l := fun d => by have := h (d + 1); simpa using this
theorem NN.head {x : Int} {l : List Int} (h : NN (x :: l)) : 0 ≤ x := by have := h 0; simpa using this
theorem wsum_nn : ∀ (l : List Int) (w : Nat), NN l → 0 ≤ wsum w l
  | [], w, _ => by simp [wsum]
  | x :: l, w, h => by
    have h1 := wsum_nn l (w + 1) h.tail
    have h2 : 0 ≤ x * ((w : Nat) : Int) := Int.mul_nonneg h.head (by omega)
    simp only [wsum]
    omega
theorem wsum_ge : ∀ (l : List Int) (w d : Nat), NN l → 1 ≤ w → l.getD d 0 ≤ wsum w l
  | [], w, d, _, _ => by simp [wsum]
  | x :: l, w, 0, h, hw => by
    have h1 := wsum_nn l (w + 1) h.tail
    have h2 : x * 1 ≤ x * ((w : Nat) : Int) := Int.mul_le_mul_of_nonneg_left (by omega) h.head
    simp only [wsum, List.getD_cons_zero]
    omega
  | x :: l, w, d + 1, h, hw => by
    have h1 := wsum_ge l (w + 1) d h.tail (by omega)
    have h2 : 0 ≤ x * ((w : Nat) : Int) := Int.mul_nonneg h.head (by omega)
    simp only [wsum, List.getD_cons_succ]
    omega
theorem wsum_set : ∀ (l : List Int) (w d : Nat) (y : Int), d < l.length → wsum w (l.set d y) = wsum w l + (y - l.getD d 0) * ((w + d : Nat) : Int)
  | [], w, d, y, h => by simp at h
  | x :: l, w, 0, y, h => by
    simp only [List.set_cons_zero, wsum, List.getD_cons_zero, Nat.add_zero]
    rw [Int.sub_mul]
    omega
  | x :: l, w, d + 1, y, h => by
    simp only [List.set_cons_succ, wsum, List.getD_cons_succ]
    rw [wsum_set l (w + 1) d y (by simpa using h), show w + 1 + d = w + (d + 1) by omega]
    omega
theorem wsum_zeros : ∀ k w : Nat, wsum w (List.replicate k 0) = 0
  | 0, w => rfl
  | k + 1, w => by simp [List.replicate_succ, wsum, wsum_zeros k (w + 1)]
theorem NN_set {l : List Int} {d : Nat} {y : Int} (h : NN l) (hy : 0 ≤ y) : NN (l.set d y) := by
  intro e
  rw [List.getD_eq_getElem?_getD, List.getElem?_set]
  split
  · split
    · exact hy
    · exact Int.le_refl _
  · rw [← List.getD_eq_getElem?_getD]
    exact h e
theorem NN_zeros (k : Nat) : NN (List.replicate k 0) := by
  intro d
  rw [List.getD_eq_getElem?_getD, List.getElem?_replicate]
  split <;> simp
theorem setAdd_W {l : List Int} {m : Int} {d : Nat} (hn : NN l) (hm : 0 ≤ m) (hd : d < l.length) (hb : wsum 1 l + m ≤ 4611686018427387904) :
    NN (setAdd m l d) ∧ wsum 1 (setAdd m l d) = wsum 1 l + m * ((d + 1 : Nat) : Int) := by
  have h1 := wsum_ge l 1 d hn (by omega)
  have h2 := hn d
  unfold setAdd
  rw [wrap_z (by omega) (by omega)]
  refine ⟨NN_set hn (by omega), ?_⟩
  rw [wsum_set _ _ _ _ hd, show l.getD d 0 + m - l.getD d 0 = m by omega, show 1 + d = d + 1 by omega]
def csum (D : Nat) : Nat → Nat → Nat
  | 0, _ => 0
  | k + 1, j => (D + 2 * j + 1) + csum D k (j + 1)
theorem inn_W {m : Int} (hm : 0 ≤ m) (D : Nat) : ∀ k j (l : List Int), NN l → (∀ i, j ≤ i → i < j + k → D + 2 * i < l.length) → wsum 1 l + m * ((csum D k j : Nat) : Int) ≤ 4611686018427387904 →
    NN (rounds (fun j l => setAdd m l (D + 2 * j)) k j l) ∧ wsum 1 (rounds (fun j l => setAdd m l (D + 2 * j)) k j l) = wsum 1 l + m * ((csum D k j : Nat) : Int)
  | 0, j, l, hn, _, _ => by simp [rounds, csum, hn]
  | k + 1, j, l, hn, hd, hb => by
    have e : m * ((csum D (k + 1) j : Nat) : Int) = m * ((D + 2 * j + 1 : Nat) : Int) + m * ((csum D k (j + 1) : Nat) : Int) := by
      rw [show csum D (k + 1) j = (D + 2 * j + 1) + csum D k (j + 1) from rfl, Int.natCast_add, Int.mul_add]
    have h3 : 0 ≤ m * ((csum D k (j + 1) : Nat) : Int) := Int.mul_nonneg hm (by omega)
    have h4 : m * 1 ≤ m * ((D + 2 * j + 1 : Nat) : Int) := Int.mul_le_mul_of_nonneg_left (by omega) hm
    rw [e] at hb ⊢
    obtain ⟨h1, h2⟩ := setAdd_W (m := m) hn hm (hd j (by omega) (by omega)) (by omega)
    obtain ⟨h5, h6⟩ := inn_W hm D k (j + 1) (setAdd m l (D + 2 * j)) h1 (fun i hi hi2 => by rw [setAdd_len]; exact hd i (by omega) (by omega)) (by omega)
    refine ⟨h5, ?_⟩
    show wsum 1 (rounds _ k (j + 1) (setAdd m l (D + 2 * j))) = _
    omega
theorem csum_all : (List.range 50).all (fun i => (List.range 7).all fun a => csum (dist i a) (min i a + 1) 0 == (i + 1) * (a + 1)) = true := by kernel_rfl
theorem csum_eq {i a : Nat} (hi : i < 50) (ha : a ≤ 6) : csum (dist i a) (min i a + 1) 0 = (i + 1) * (a + 1) := by
  have h := List.all_eq_true.mp (List.all_eq_true.mp csum_all i (List.mem_range.mpr hi)) a (List.mem_range.mpr (by omega))
  simpa using h
theorem innAll_W {m : Int} (hm : 0 ≤ m) {i a : Nat} (hi : i < 50) (ha : a ≤ 6) {l : List Int} (hn : NN l) (hl : i + a < l.length) (hb : wsum 1 l + m * (((i + 1) * (a + 1) : Nat) : Int) ≤ 4611686018427387904) :
    NN (inn i a m l) ∧ wsum 1 (inn i a m l) = wsum 1 l + m * (((i + 1) * (a + 1) : Nat) : Int) := by
  have h := inn_W hm (dist i a) (min i a + 1) 0 l hn (fun j _ hj => by unfold dist; omega) (by rw [csum_eq hi ha]; exact hb)
  rw [csum_eq hi ha] at h
  exact h
theorem row_W {a : Nat} (ha : a ≤ 6) (cnt : List Int) (hc : NN cnt) (hl : cnt.length ≤ 50) : ∀ k i (nx : List Int), i + k = cnt.length → NN nx → nx.length = cnt.length + a →
    wsum 1 nx + ((a + 1 : Nat) : Int) * wsum (i + 1) (cnt.drop i) ≤ 4611686018427387904 →
    NN (rounds (fun i nx => inn i a (cnt.getD i 0) nx) k i nx) ∧ wsum 1 (rounds (fun i nx => inn i a (cnt.getD i 0) nx) k i nx) = wsum 1 nx + ((a + 1 : Nat) : Int) * wsum (i + 1) (cnt.drop i)
  | 0, i, nx, hi, hn, _, _ => by
    rw [List.drop_of_length_le (by omega)]
    simp [rounds, wsum, hn]
  | k + 1, i, nx, hi, hn, hx, hb => by
    have hlt : i < cnt.length := by omega
    have e : ((a + 1 : Nat) : Int) * wsum (i + 1) (cnt.drop i) = cnt.getD i 0 * (((i + 1) * (a + 1) : Nat) : Int) + ((a + 1 : Nat) : Int) * wsum (i + 1 + 1) (cnt.drop (i + 1)) := by
      rw [List.drop_eq_getElem_cons hlt]
      simp only [wsum]
      rw [Int.mul_add, List.getD_eq_getElem?_getD, List.getElem?_eq_getElem hlt, Option.getD_some, Int.natCast_mul]
      congr 1
      rw [Int.mul_comm ((a + 1 : Nat) : Int), Int.mul_assoc]
    have h0 : 0 ≤ ((a + 1 : Nat) : Int) * wsum (i + 1 + 1) (cnt.drop (i + 1)) := Int.mul_nonneg (by omega) (wsum_nn _ _ (fun d => by
      rw [List.getD_eq_getElem?_getD, List.getElem?_drop, ← List.getD_eq_getElem?_getD]
      exact hc _))
    rw [e] at hb ⊢
    obtain ⟨h1, h2⟩ := innAll_W (hc i) (show i < 50 by omega) ha hn (by omega) (by omega)
    obtain ⟨h3, h4⟩ := row_W ha cnt hc hl k (i + 1) _ (by omega) h1 (by rw [inn_len]; exact hx) (by omega)
    refine ⟨h3, ?_⟩
    show wsum 1 (rounds _ k (i + 1) (inn i a (cnt.getD i 0) nx)) = _
    omega
theorem rowI_W {a : Nat} (ha : a ≤ 6) {cnt : List Int} (hc : NN cnt) (hl : cnt.length ≤ 50) (hb : ((a + 1 : Nat) : Int) * wsum 1 cnt ≤ 4611686018427387904) :
    NN (rowI a cnt) ∧ wsum 1 (rowI a cnt) = ((a + 1 : Nat) : Int) * wsum 1 cnt := by
  have h := row_W ha cnt hc hl cnt.length 0 (List.replicate (cnt.length + a) 0) (by omega) (NN_zeros _) (by simp) (by rw [wsum_zeros]; simpa using hb)
  rw [wsum_zeros] at h
  simpa [rowI] using h
/-- The product of the numbers of parts. -/
def prodL (l : List Int) : Int := l.foldl (fun p a => p * (a + 1)) 1
theorem ct_W (l : List Int) (hl : l.length ≤ 6) (ht : turnsB l = true) : ∀ k j (cnt : List Int) (B : Int), 1 + j + k = l.length → NN cnt → cnt.length ≤ 7 + 6 * j → wsum 1 cnt ≤ B → B * 7 ^ k ≤ 1000000 → 0 ≤ B →
    NN (rounds (fun j cnt => rowI (l.getD (1 + j) 0).toNat cnt) k j cnt) ∧ wsum 1 (rounds (fun j cnt => rowI (l.getD (1 + j) 0).toNat cnt) k j cnt) = (l.drop (1 + j)).foldl (fun p a => p * (a + 1)) (wsum 1 cnt)
  | 0, j, cnt, B, hj, hn, _, _, _, _ => by
    rw [List.drop_of_length_le (by omega)]
    exact ⟨hn, rfl⟩
  | k + 1, j, cnt, B, hj, hn, hc, hw, hB, h0 => by
    have hlt : 1 + j < l.length := by omega
    obtain ⟨A, hA, hA6⟩ := turn_of ht hlt
    have hg : l[1 + j] = (A : Int) := by
      rw [← hA, List.getD_eq_getElem?_getD, List.getElem?_eq_getElem hlt, Option.getD_some]
    have h7 : (1 : Int) ≤ 7 ^ k := by have h : (0 : Int) < 7 ^ k := Int.pow_pos (by decide); omega
    have hB7 : B * 7 ^ (k + 1) = (B * 7) * 7 ^ k := by rw [Int.pow_succ, Int.mul_assoc, Int.mul_comm 7]
    have hB1 : (B * 7) * 1 ≤ (B * 7) * 7 ^ k := Int.mul_le_mul_of_nonneg_left h7 (by omega)
    have hs : ((A + 1 : Nat) : Int) * wsum 1 cnt ≤ B * 7 := by
      have q1 : ((A + 1 : Nat) : Int) * wsum 1 cnt ≤ 7 * wsum 1 cnt := Int.mul_le_mul_of_nonneg_right (by omega) (wsum_nn _ _ hn)
      omega
    obtain ⟨h1, h2⟩ := rowI_W hA6 hn (show cnt.length ≤ 50 by omega) (by omega)
    obtain ⟨h3, h4⟩ := ct_W l hl ht k (j + 1) (rowI A cnt) (B * 7) (by omega) h1 (by rw [rowI_len]; omega) (by omega) (by omega) (by omega)
    rw [List.drop_eq_getElem_cons hlt, hg]
    have hr : rounds (fun j cnt => rowI (l.getD (1 + j) 0).toNat cnt) (k + 1) j cnt = rounds (fun j cnt => rowI (l.getD (1 + j) 0).toNat cnt) k (j + 1) (rowI A cnt) := by
      show rounds _ k (j + 1) (rowI (l.getD (1 + j) 0).toNat cnt) = _
      rw [hA, Int.toNat_natCast]
    rw [hr]
    refine ⟨h3, ?_⟩
    rw [h4, h2, List.foldl_cons, show 1 + (j + 1) = 1 + j + 1 by omega, Int.mul_comm, Int.natCast_add]
    rfl
theorem ctV_W {l : List Int} (h1 : 1 ≤ l.length) (h2 : l.length ≤ 6) (ht : turnsB l = true) : NN (ctV l) ∧ wsum 1 (ctV l) = prodL l := by
  obtain ⟨A, hA, hA6⟩ := turn_of ht (show 0 < l.length by omega)
  have hg : l[0] = (A : Int) := by
    rw [← hA, List.getD_eq_getElem?_getD, List.getElem?_eq_getElem (show 0 < l.length by omega), Option.getD_some]
  have hs : NN (single A) ∧ wsum 1 (single A) = (A : Int) + 1 := by
    unfold single
    refine ⟨NN_set (NN_zeros _) (by decide), ?_⟩
    rw [wsum_set _ _ _ _ (by simp), wsum_zeros]
    have : (List.replicate (A + 1) (0 : Int)).getD A 0 = 0 := by
      rw [List.getD_eq_getElem?_getD, List.getElem?_replicate]
      split <;> rfl
    rw [this]
    omega
  have hp : (7 : Int) * 7 ^ (l.length - 1) ≤ 1000000 := by
    have : l.length - 1 = 0 ∨ l.length - 1 = 1 ∨ l.length - 1 = 2 ∨ l.length - 1 = 3 ∨ l.length - 1 = 4 ∨ l.length - 1 = 5 := by omega
    rcases this with h | h | h | h | h | h <;> rw [h] <;> decide
  obtain ⟨h3, h4⟩ := ct_W l h2 ht (l.length - 1) 0 (single A) 7 (by omega) hs.1 (by simp [single]; omega) (by omega) hp (by omega)
  unfold ctV prodL
  rw [hA, Int.toNat_natCast]
  refine ⟨h3, ?_⟩
  rw [h4, hs.2]
  have e : l = (A : Int) :: l.drop 1 := by
    conv => lhs; rw [← List.drop_zero (l := l), List.drop_eq_getElem_cons (show 0 < l.length by omega), hg]
  conv => rhs; rw [e]
  rw [List.foldl_cons, Int.one_mul]
theorem ctV_len' {l : List Int} (h1 : 1 ≤ l.length) (h2 : l.length ≤ 6) (ht : turnsB l = true) : (ctV l).length = sumF l 0 + 1 := by
  obtain ⟨A, hA, hA6⟩ := turn_of ht (show 0 < l.length by omega)
  have hv : ctV l = rounds (fun j cnt => rowI (l.getD (1 + j) 0).toNat cnt) (l.length - 1) 0 (single A) := by
    unfold ctV
    rw [hA, Int.toNat_natCast]
  have hr := rounds_rel (fun j out cnt => PadP l j out cnt) (fun j out => rowS (l.getD (1 + j) 0).toNat out) (fun j cnt => rowI (l.getD (1 + j) 0).toNat cnt) (l.length - 1) (fun i s t hi hp => pad_step ht (by omega) hp) (l.length - 1) 0 _ _ (by omega) (pad0 (by omega) hA)
  rw [hv]
  have := hr.2
  rw [sumF_end (show l.length ≤ 1 + (l.length - 1) by omega)] at this
  omega
end Go.Proofs.Ythcjbchkagkaaaa.Ab
