/- CountTotals: the plain law. Only lemmas. Printed by gen_count.py. -/
import Derived.Test.YthcjbchkagkaaaaCtD
namespace Go.Proofs.Ythcjbchkagkaaaa.Ab
set_option linter.unusedVariables false
set_option linter.unusedSimpArgs false
open Go
theorem wrap_wrap (n : Int) : IntKind.i64.wrap (IntKind.i64.wrap n) = IntKind.i64.wrap n := by
  have h : -9223372036854775808 ≤ IntKind.i64.wrap n ∧ IntKind.i64.wrap n < 9223372036854775808 := by
    simp only [IntKind.wrap, IntKind.signed, IntKind.bits]
    first | omega | (simp; omega) | (split <;> omega)
  exact wrap_z (by omega) (by omega)
def fixW (l : List Int) : Prop := ∀ x ∈ l, IntKind.i64.wrap x = x
theorem rounds_rel {σ τ : Type} (P : Nat → σ → τ → Prop) (f : Nat → σ → σ) (g : Nat → τ → τ) (n : Nat) (h : ∀ i s t, i < n → P i s t → P (i + 1) (f i s) (g i t)) : ∀ k i s t, i + k = n → P i s t → P n (rounds f k i s) (rounds g k i t) := by
  intro k
  induction k with
  | zero =>
    intro i s t hi hp
    have : i = n := by omega
    subst this
    exact hp
  | succ k ih =>
    intro i s t hi hp
    exact ih (i + 1) (f i s) (g i t) (by omega) (h i s t (by omega) hp)
theorem setAdd_fix {m : Int} {l : List Int} {d : Nat} (h : fixW l) : fixW (setAdd m l d) := by
  intro x hx
  unfold setAdd at hx
  rcases List.mem_or_eq_of_mem_set hx with h1 | h1
  · exact h x h1
  · rw [h1, wrap_wrap]
theorem setAdd_zero {l : List Int} {d : Nat} (h : fixW l) : setAdd 0 l d = l := by
  unfold setAdd
  by_cases hd : d < l.length
  · rw [Int.add_zero, List.getD_eq_getElem?_getD, List.getElem?_eq_getElem hd, Option.getD_some, h _ (List.getElem_mem hd), List.set_getElem_self]
  · rw [List.set_eq_of_length_le (by omega)]
theorem setAdd_app {m : Int} {l zs : List Int} {d : Nat} (hd : d < l.length) : setAdd m (l ++ zs) d = setAdd m l d ++ zs := by
  unfold setAdd
  rw [List.set_append_left _ _ hd, List.getD_eq_getElem?_getD, List.getD_eq_getElem?_getD, List.getElem?_append_left hd]
theorem inn_fix {i a : Nat} {m : Int} {l : List Int} (h : fixW l) : fixW (inn i a m l) :=
  rounds_rel (fun _ (s : List Int) (_ : Unit) => fixW s) _ (fun _ t => t) (min i a + 1) (fun _ _ _ _ hp => setAdd_fix hp) (min i a + 1) 0 l () (by omega) h
theorem inn_zero {i a : Nat} {l : List Int} (h : fixW l) : inn i a 0 l = l := by
  have := rounds_rel (fun _ (s : List Int) (_ : Unit) => s = l) (fun j l => setAdd 0 l (dist i a + 2 * j)) (fun _ t => t) (min i a + 1) (fun _ s _ _ hp => by subst hp; exact setAdd_zero h) (min i a + 1) 0 l () (by omega) rfl
  exact this
theorem inn_app {i a : Nat} {m : Int} {l zs : List Int} (hl : i + a < l.length) : inn i a m (l ++ zs) = inn i a m l ++ zs := by
  have := rounds_rel (fun _ (s t : List Int) => s = t ++ zs ∧ t.length = l.length) (fun j l => setAdd m l (dist i a + 2 * j)) (fun j l => setAdd m l (dist i a + 2 * j)) (min i a + 1)
    (fun j s t hj hp => by
      obtain ⟨h1, h2⟩ := hp
      subst h1
      exact ⟨setAdd_app (by unfold dist; omega), by rw [setAdd_len]; exact h2⟩) (min i a + 1) 0 (l ++ zs) l (by omega) ⟨rfl, rfl⟩
  exact this.1
theorem rounds_add {σ : Type} (f : Nat → σ → σ) (m : Nat) : ∀ k i s, rounds f (k + m) i s = rounds f m (i + k) (rounds f k i s) := by
  intro k
  induction k with
  | zero => intro i s; rw [Nat.zero_add]; rfl
  | succ k ih =>
    intro i s
    rw [show k + 1 + m = (k + m) + 1 by omega]
    show rounds f (k + m) (i + 1) (f i s) = _
    rw [ih, show i + 1 + k = i + (k + 1) by omega]
    rfl
theorem getD_app {l zs : List Int} {i : Nat} (h : i < l.length) : (l ++ zs).getD i 0 = l.getD i 0 := by
  rw [List.getD_eq_getElem?_getD, List.getD_eq_getElem?_getD, List.getElem?_append_left h]
theorem getD_zero {l : List Int} {z i : Nat} (h : l.length ≤ i) : (l ++ List.replicate z (0 : Int)).getD i 0 = 0 := by
  rw [List.getD_eq_getElem?_getD, List.getElem?_append_right h]
  cases hx : (List.replicate z (0 : Int))[i - l.length]? with
  | none => rfl
  | some x =>
    have := List.mem_of_getElem? hx
    rw [List.mem_replicate] at this
    rw [this.2]
    rfl
theorem fix_zero (n : Nat) : fixW (List.replicate n (0 : Int)) := fun x hx => by rw [(List.mem_replicate.mp hx).2]; rfl
theorem row_pad {a z' : Nat} {cnt : List Int} : rowS a (cnt ++ List.replicate (a + z') 0) = rowI a cnt ++ List.replicate z' 0 ∧ fixW (rowI a cnt) := by
  have h1 := rounds_rel (fun _ (s t : List Int) => s = t ++ List.replicate z' 0 ∧ t.length = cnt.length + a ∧ fixW t) (put1 a (cnt ++ List.replicate (a + z') 0)) (fun i nx => inn i a (cnt.getD i 0) nx) cnt.length
    (fun i s t hi hp => by
      obtain ⟨h1, h2, h3⟩ := hp
      subst h1
      unfold put1
      rw [getD_app hi]
      refine ⟨?_, by rw [inn_len]; exact h2, inn_fix h3⟩
      cases he : cnt.getD i 0 == 0 with
      | true =>
        have h0 : cnt.getD i 0 = 0 := by simpa using he
        rw [h0, inn_zero h3]
      | false => exact inn_app (by omega)) cnt.length 0 (List.replicate (cnt.length + a) 0 ++ List.replicate z' 0) (List.replicate (cnt.length + a) 0) (by omega) ⟨rfl, by simp, fix_zero _⟩
  obtain ⟨h2, h3, h4⟩ := h1
  refine ⟨?_, h4⟩
  unfold rowS
  have hlen : (cnt ++ List.replicate (a + z') (0 : Int)).length = cnt.length + (a + z') := by simp
  rw [hlen, rounds_add, show List.replicate (cnt.length + (a + z')) (0 : Int) = List.replicate (cnt.length + a) 0 ++ List.replicate z' 0 by rw [List.replicate_append_replicate, show cnt.length + a + z' = cnt.length + (a + z') by omega], h2]
  have h5 := rounds_rel (fun i (s : List Int) (_ : Unit) => cnt.length ≤ i ∧ s = rowI a cnt ++ List.replicate z' 0) (put1 a (cnt ++ List.replicate (a + z') 0)) (fun _ t => t) (cnt.length + (a + z'))
    (fun i s _ hi hp => by
      obtain ⟨h6, h7⟩ := hp
      refine ⟨by omega, ?_⟩
      unfold put1
      rw [getD_zero h6]
      exact h7) (a + z') (0 + cnt.length) (rowI a cnt ++ List.replicate z' 0) () (by omega) ⟨by omega, rfl⟩
  exact h5.2
end Go.Proofs.Ythcjbchkagkaaaa.Ab
