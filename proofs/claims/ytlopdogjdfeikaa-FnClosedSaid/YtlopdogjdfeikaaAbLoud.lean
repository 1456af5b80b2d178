/- The operations that write, or make memory. Only lemmas. -/
import Derived.Test.YtlopdogjdfeikaaAbEv
namespace Go.Proofs.Ytlopdogjdfeikaa.Ab
set_option linter.unusedVariables false
set_option linter.unusedSimpArgs false
open Go

/-! ### Cells of a block -/
theorem C.get?_some {c : C} {j : Nat} (h : j < c.len) : ∃ x, c.get? j = some x := by
  unfold C.len at h
  unfold C.get? C.getK
  cases c with
  | mp l => exact absurd h (Nat.not_lt_zero _)
  | _ => simp only at h ⊢; rw [List.getElem?_eq_getElem h]; exact ⟨_, rfl⟩
theorem C.get?_lt {c : C} {j : Nat} {x : A} (h : c.get? j = some x) : j < c.len := by
  unfold C.get? C.getK at h
  unfold C.len
  cases c <;> simp only at h ⊢ <;> first | (cases h; done) | (split at h <;> first | (cases h; done) | exact getElem?_lt ‹_›)
theorem C.part_len {c : C} {o n : Nat} (h : o + n ≤ c.len) : (c.part o n).len = n := by
  unfold C.len at *
  unfold C.part
  cases c with
  | mp l => show 0 = n; simp only at h; omega
  | _ => simp only at h ⊢; simp; omega
theorem C.part_esz {c : C} {o n : Nat} : (c.part o n).esz = c.esz := by cases c <;> rfl
theorem C.part_get {c : C} {o n j : Nat} {x : A} (h : (c.part o n).get? j = some x) : j < n ∧ c.get? (o + j) = some x := by
  unfold C.part C.get? C.getK at h
  unfold C.get? C.getK
  cases c <;> simp only at h ⊢ <;> first | (cases h; done) | (split at h; (rename_i hh; rw [List.getElem?_take] at hh; split at hh; (rw [List.getElem?_drop] at hh; exact ⟨‹_›, by rw [hh]; exact h⟩); cases hh); cases h)
theorem C.app_spec {c d e : C} (h : c.app d = some e) : e.len = c.len + d.len ∧ e.esz = c.esz ∧ ∀ j x, e.get? j = some x → (j < c.len ∧ c.get? j = some x) ∨ (c.len ≤ j ∧ d.get? (j - c.len) = some x) := by
  unfold C.app at h
  have key : ∀ {α : Type} (l m : List α) (j : Nat) (x : α), (l ++ m)[j]? = some x → (j < l.length ∧ l[j]? = some x) ∨ (l.length ≤ j ∧ m[j - l.length]? = some x) := by
    intro α l m j x hx
    by_cases hj : j < l.length
    · rw [List.getElem?_append_left hj] at hx; exact .inl ⟨hj, hx⟩
    · rw [List.getElem?_append_right (by omega)] at hx; exact .inr ⟨by omega, hx⟩
  split at h <;> (try split at h) <;> first | (cases h; done) | skip
  all_goals
    injection h with h
    subst h
    refine ⟨by simp [C.len], by first | rfl | (simp only [C.esz]), fun j x hx => ?_⟩
    unfold C.get? C.getK at hx
    simp only at hx
    split at hx
    · rename_i hh
      rcases key _ _ _ _ hh with ⟨h1, h2⟩ | ⟨h1, h2⟩
      · exact .inl ⟨h1, by unfold C.get? C.getK; simp only; rw [h2]; exact hx⟩
      · exact .inr ⟨h1, by unfold C.get? C.getK; simp only [C.len] at *; subst_vars; rw [h2]; exact hx⟩
    · cases hx
theorem setK_spec' {R : Type} {c : C} {i : Nat} {x : A} {K : C → Option R} {r : R} (h : c.setK i x K = some r) :
    ∃ c', K c' = some r ∧ c'.esz = c.esz ∧ i < c.len ∧ c'.len = c.len ∧ ∀ j y, c'.get? j = some y → (j = i ∧ y = x) ∨ (j ≠ i ∧ c.get? j = some y) := by
  unfold C.setK at h
  have key : ∀ {α : Type} (l : List α) (a : α) (j : Nat) (y : α), (l.set i a)[j]? = some y → (j = i ∧ y = a) ∨ (j ≠ i ∧ l[j]? = some y) := by
    intro α l a j y hy
    by_cases e : i = j
    · subst e
      rw [List.getElem?_set_self' ] at hy
      simp at hy
      exact .inl ⟨rfl, hy.2.symm⟩
    · rw [List.getElem?_set_ne e] at hy
      exact .inr ⟨fun e' => e e'.symm, hy⟩
  split at h
  · cases h
  · rename_i hlt
    simp only [decide_eq_true_eq] at hlt
    split at h <;> (try split at h) <;> first | (cases h; done) | skip
    all_goals
      refine ⟨_, h, rfl, hlt, by simp [C.len], fun j y hy => ?_⟩
      unfold C.get? C.getK at hy
      simp only at hy
      split at hy
      · rename_i hh
        rcases key _ _ _ _ hh with ⟨h1, h2⟩ | ⟨h1, h2⟩
        · left; refine ⟨h1, ?_⟩
          injection hy with hy
          rw [← hy]
          first | rw [h2] | (injection h2 with h2 h3; rw [h2, h3])
          try subst_vars
          try rfl
        · exact .inr ⟨h1, by unfold C.get? C.getK; simp only; rw [h2]; exact hy⟩
      · cases hy
theorem setNK_spec {R : Type} {r : R} : ∀ {l : List A} {c : C} {i : Nat} {K : C → Option R}, c.setNK i l K = some r →
    ∃ c', K c' = some r ∧ c'.esz = c.esz ∧ (l = [] ∨ i + l.length ≤ c.len) ∧ c'.len = c.len ∧ ∀ j y, c'.get? j = some y → (i ≤ j ∧ l[j - i]? = some y) ∨ ((j < i ∨ i + l.length ≤ j) ∧ c.get? j = some y)
  | [], c, i, K, h => ⟨c, h, rfl, .inl rfl, rfl, fun j y hy => .inr ⟨by simp; omega, hy⟩⟩
  | x :: l, c, i, K, h => by
    obtain ⟨c1, h1, h2, h3, h4, h5⟩ := setK_spec' h
    obtain ⟨c2, k1, k2, k3, k4, k5⟩ := setNK_spec h1
    refine ⟨c2, k1, k2.trans h2, .inr ?_, k4.trans h4, fun j y hy => ?_⟩
    · rcases k3 with k3 | k3
      · subst k3; simp; omega
      · rw [h4] at k3; simp; omega
    · rcases k5 j y hy with ⟨e1, e2⟩ | ⟨e1, e2⟩
      · left
        refine ⟨by omega, ?_⟩
        rw [show j - i = (j - (i + 1)) + 1 by omega]
        simpa using e2
      · rcases h5 j y e2 with ⟨e3, e4⟩ | ⟨e3, e4⟩
        · subst e3; subst e4
          exact .inl ⟨Nat.le_refl _, by simp⟩
        · exact .inr ⟨by simp only [List.length_cons]; omega, e4⟩
theorem flsOf_get {k : FloatKind} : ∀ {l : List A} {m : List Nat}, flsOf k l = some m → l = m.map (.fl k)
  | [], m, h => by cases h; rfl
  | x :: l, m, h => by
    cases x <;> simp only [flsOf] at h <;> first | (cases h; done) | skip
    split at h
    · rename_i hk; subst hk
      simp only [Option.map_eq_some_iff] at h
      obtain ⟨n, h1, rfl⟩ := h
      rw [flsOf_get h1]; rfl
    · cases h
theorem intsOf_get {k : IntKind} : ∀ {l : List A} {m : List Int}, intsOf k l = some m → l = m.map (.int k)
  | [], m, h => by cases h; rfl
  | x :: l, m, h => by
    cases x <;> simp only [intsOf] at h <;> first | (cases h; done) | skip
    split at h
    · rename_i hk; subst hk
      simp only [Option.map_eq_some_iff] at h
      obtain ⟨n, h1, rfl⟩ := h
      rw [intsOf_get h1]; rfl
    · cases h
theorem boolsOf_get : ∀ {l : List A} {m : List Bool}, boolsOf l = some m → l = m.map .bool
  | [], m, h => by cases h; rfl
  | x :: l, m, h => by
    cases x <;> simp only [boolsOf] at h <;> first | (cases h; done) | skip
    simp only [Option.map_eq_some_iff] at h
    obtain ⟨n, h1, rfl⟩ := h
    rw [boolsOf_get h1]; rfl
theorem cxsOf_get {k : FloatKind} : ∀ {l : List A} {m : List (Nat × Nat)}, cxsOf k l = some m → l = m.map fun p => .cx k p.1 p.2
  | [], m, h => by cases h; rfl
  | x :: l, m, h => by
    cases x <;> simp only [cxsOf] at h <;> first | (cases h; done) | skip
    split at h
    · rename_i hk; subst hk
      simp only [Option.map_eq_some_iff] at h
      obtain ⟨n, h1, rfl⟩ := h
      rw [cxsOf_get h1]; rfl
    · cases h
theorem mkC_spec {zero l : List A} {c : C} (h : mkC zero l = some c) : c.esz = zero.length ∧ c.len = l.length ∧ ∀ j x, c.get? j = some x → l[j]? = some x := by
  unfold mkC at h
  split at h
  · simp only [Option.map_eq_some_iff] at h
    obtain ⟨m, h1, rfl⟩ := h
    rw [flsOf_get h1]
    refine ⟨rfl, by simp [C.len], fun j x hx => ?_⟩
    unfold C.get? C.getK at hx
    simp only at hx
    split at hx <;> simp_all
  · simp only [Option.map_eq_some_iff] at h
    obtain ⟨m, h1, rfl⟩ := h
    rw [intsOf_get h1]
    refine ⟨rfl, by simp [C.len], fun j x hx => ?_⟩
    unfold C.get? C.getK at hx
    simp only at hx
    split at hx <;> simp_all
  · simp only [Option.map_eq_some_iff] at h
    obtain ⟨m, h1, rfl⟩ := h
    rw [boolsOf_get h1]
    refine ⟨rfl, by simp [C.len], fun j x hx => ?_⟩
    unfold C.get? C.getK at hx
    simp only at hx
    split at hx <;> simp_all
  · simp only [Option.map_eq_some_iff] at h
    obtain ⟨m, h1, rfl⟩ := h
    rw [cxsOf_get h1]
    refine ⟨rfl, by simp [C.len], fun j x hx => ?_⟩
    unfold C.get? C.getK at hx
    simp only at hx
    split at hx <;> simp_all
  · cases h
    exact ⟨rfl, rfl, fun j x hx => by rw [C.get?_as] at hx; exact hx⟩
theorem rep_get {α : Type} {n : Nat} {a x : α} {j : Nat} (h : (List.replicate n a)[j]? = some x) : x = a ∧ j < n := by
  rw [List.getElem?_replicate] at h
  split at h
  · cases h; exact ⟨rfl, ‹_›⟩
  · cases h
/-- Zero cells, one element's behind another's. -/
theorem flat_get {z : List A} : ∀ {n j : Nat} {x : A}, (List.replicate n z).flatten[j]? = some x → z[j % z.length]? = some x ∧ j < n * z.length
  | 0, j, x, h => by simp at h
  | n + 1, j, x, h => by
    rw [List.replicate_succ, List.flatten_cons] at h
    by_cases hj : j < z.length
    · rw [List.getElem?_append_left hj] at h
      rw [Nat.mod_eq_of_lt hj]
      exact ⟨h, by rw [Nat.succ_mul]; omega⟩
    · rw [List.getElem?_append_right (by omega)] at h
      obtain ⟨h1, h2⟩ := flat_get h
      rw [Nat.mod_eq_sub_mod (by omega)]
      exact ⟨h1, by rw [Nat.succ_mul]; omega⟩
theorem zeros_spec {zero : List A} {n : Nat} {c : C} (hz : 0 < zero.length) (h : zeros zero n = some c) : c.esz = zero.length ∧ ∀ j x, c.get? j = some x → zero[j % zero.length]? = some x ∧ j < n * zero.length := by
  unfold zeros at h
  split at h <;> cases h
  · refine ⟨rfl, fun j x hx => ?_⟩
    unfold C.get? C.getK at hx; simp only at hx
    split at hx
    · rename_i hh; obtain ⟨rfl, h2⟩ := rep_get hh; cases hx; simp [Nat.mod_one, h2]
    · cases hx
  · refine ⟨rfl, fun j x hx => ?_⟩
    unfold C.get? C.getK at hx; simp only at hx
    split at hx
    · rename_i hh; obtain ⟨rfl, h2⟩ := rep_get hh; cases hx; simp [Nat.mod_one, h2]
    · cases hx
  · refine ⟨rfl, fun j x hx => ?_⟩
    unfold C.get? C.getK at hx; simp only at hx
    split at hx
    · rename_i hh; obtain ⟨rfl, h2⟩ := rep_get hh; cases hx; simp [Nat.mod_one, h2]
    · cases hx
  · refine ⟨rfl, fun j x hx => ?_⟩
    unfold C.get? C.getK at hx; simp only at hx
    split at hx
    · rename_i hh; obtain ⟨h1, h2⟩ := rep_get hh; cases h1; cases hx; simp [Nat.mod_one, h2]
    · cases hx
  · refine ⟨rfl, fun j x hx => ?_⟩
    rw [C.get?_as] at hx
    obtain ⟨rfl, h2⟩ := rep_get hx; simp [Nat.mod_one, h2]
  · refine ⟨rfl, fun j x hx => ?_⟩
    rw [C.get?_as] at hx
    exact flat_get hx

/-- What the model lays down for zero cells. -/
theorem zero_cells {μ : Mu} {zs : List A} {z : Value} (hz : RepAs μ zs z.cells.toList) (hp : 0 < zs.length) (n : Nat) :
    ∀ j x, zs[j % zs.length]? = some x → j < n → ∃ cv, ((Array.range n).map (z.cells[· % z.cells.size]!))[j]? = some cv ∧ RepA μ x cv := by
  intro j x hx hj
  obtain ⟨cv, h1, h2⟩ := hz.get hx
  refine ⟨cv, ?_, h2⟩
  have hl := hz.len
  have hs : z.cells.size = zs.length := by rw [← hl]; simp
  have hlt : j % zs.length < z.cells.size := by rw [hs]; exact Nat.mod_lt _ hp
  rw [← hs] at h1 hlt
  have h3 : z.cells[j % z.cells.size]! = cv := by
    rw [Array.getElem!_eq_getD, Array.getD_eq_getD_getElem?]
    have : z.cells[j % z.cells.size]? = some cv := by rw [← Array.getElem?_toList]; exact h1
    rw [this]; rfl
  simp only [Array.getElem?_map]
  rw [Array.getElem?_eq_getElem (by simpa using hj)]
  simp only [Array.getElem_range, Option.map_some, h3]
theorem zero_reps {μ : Mu} {zs : List A} {z : Value} (hz : RepAs μ zs z.cells.toList) (hp : 0 < zs.length) (n : Nat) :
    RepAs μ (List.replicate n zs).flatten ((Array.range (n * zs.length)).map (z.cells[· % z.cells.size]!)).toList := by
  have key : ∀ (l : List A) (cs : List Value), l.length = cs.length → (∀ (j : Nat) (x : A), l[j]? = some x → ∃ cv, cs[j]? = some cv ∧ RepA μ x cv) → RepAs μ l cs := by
    intro l
    induction l with
    | nil => intro cs hl _; cases cs with | nil => trivial | cons _ _ => simp at hl
    | cons x l ih =>
      intro cs hl h
      cases cs with
      | nil => simp at hl
      | cons c cs =>
        obtain ⟨cv, h1, h2⟩ := h 0 x rfl
        simp at h1; subst h1
        exact ⟨h2, ih cs (by simpa using hl) fun j y hy => by obtain ⟨cv, h3, h4⟩ := h (j + 1) y (by simpa using hy); exact ⟨cv, by simpa using h3, h4⟩⟩
  refine key _ _ (by simp) fun j x hx => ?_
  obtain ⟨h1, h2⟩ := flat_get hx
  obtain ⟨cv, h3, h4⟩ := zero_cells hz hp (n * zs.length) j x h1 h2
  exact ⟨cv, by rw [Array.getElem?_toList]; exact h3, h4⟩

end Go.Proofs.Ytlopdogjdfeikaa.Ab
