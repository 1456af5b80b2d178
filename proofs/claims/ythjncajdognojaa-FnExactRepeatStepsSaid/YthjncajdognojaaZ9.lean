/- What the proof names: lemmas and words, merged by a program from its parts. No condition. -/
import Derived.Test.YthjncajdognojaaZ8
import Derived.Carry
namespace Go.Proofs.Ythjncajdognojaa.Ab
set_option linter.unusedVariables false
set_option linter.unusedSimpArgs false
open Go Go.ChangeShapes Go.WideShapes Go.RowKit
section
variable {H : Type} {enc : TypeId × Value → H} {P : Program} {w : World} {base : Nat} {spare : Nat → Bool} {held : Bool} {fuel : Nat} {t : TypeId} {cs : List Value} {x : DataW H × List MemPlace}
theorem trod_float {k : FloatKind} (ht : P.underlying t = some (.float k)) (h : DataW.trod enc P w base spare held fuel t cs = some x) : ∃ n, cs = [.float k n] ∧ x = (.lit (.float k n), []) ∧ (Lit.float k n).wf = true := by
  cases fuel with
  | zero => simp [DataW.trod] at h
  | succ m =>
    unfold DataW.trod at h
    rw [ht] at h
    split at h <;> simp_all
theorem list_of {α : Type} {p : Nat → α → Prop} : ∀ n, (∀ i, i < n → ∃ x, p i x) → ∃ l : List α, l.length = n ∧ ∀ i x, l[i]? = some x → p i x
  | 0, _ => ⟨[], rfl, fun i x h => by simp at h⟩
  | n + 1, h => by
    obtain ⟨l, h1, h2⟩ := list_of n (fun i hi => h i (by omega))
    obtain ⟨x, hx⟩ := h n (by omega)
    refine ⟨l ++ [x], by simp [h1], fun i y hy => ?_⟩
    by_cases hi : i < l.length
    · rw [List.getElem?_append_left hi] at hy
      exact h2 i y hy
    · rw [List.getElem?_append_right (by omega)] at hy
      have hlt : i - l.length < 1 := by simpa using (List.getElem?_eq_some_iff.1 hy).1
      have e : i = n := by omega
      subst e
      rw [show i - l.length = 0 by omega] at hy
      simp at hy
      subst hy
      exact hx
theorem slice_open {W : World} {e : TypeId} {v : Value} {d : DataW H} {ps : List MemPlace} {r : Reach} {b0 : Nat} {Q : Value → Prop} (ht : P.underlying t = some (.slice e)) (hc : P.cellsOf e = 1)
    (hQ : ∀ n cs y, DataW.trod enc P W 0 (fun _ => true) true n e cs = some y → ∃ u, cs = [u] ∧ Q u)
    (hval : Value.okWide P W r b0 t v) (hd : DataW.Trod enc P W 0 (fun _ => true) true t v d ps) :
    v = .slice none 0 0 ∨ ∃ b off len cap, v = .slice (some ⟨b, off, none⟩) len cap ∧ len ≤ cap ∧ cap ≤ maxLen ∧ b < W.heap.size ∧ ∀ i, i < len → ∃ u, W.cell? ⟨b, off + i, none⟩ = some u ∧ Q u := by
  obtain ⟨a0, l0, c0, rfl⟩ := okWide_slice ht hval
  obtain ⟨fuel, hf⟩ := hd
  rcases DataW.trod_slice ht hf with ⟨hcs, _⟩ | ⟨a, len, cap, elems, rest, n, _, hcs, hx, hb, hl, hm, hlen, hel, _⟩
  · left
    simpa [Value.cells] using hcs
  · right
    have hcs' : a0 = some a ∧ l0 = len ∧ c0 = cap := by simpa [Value.cells] using hcs
    obtain ⟨rfl, rfl, rfl⟩ := hcs'
    obtain ⟨b, off, spot⟩ := a
    simp only [Value.okWide, ht, Cell.okWide, Cell.ok, World.has] at hval
    obtain ⟨_, _, _, hsp, row, cells, hsh, _⟩ := hval
    have hsp : spot = none := hsp
    subst hsp
    have hlt : b < W.heap.size := by
      unfold World.shape? at hsh
      by_cases h : b < W.heap.size
      · exact h
      · rw [Array.getElem?_eq_none (by omega)] at hsh
        cases hsh
    refine ⟨b, off, l0, c0, rfl, hl, hm, hlt, fun i hi => ?_⟩
    have h1 := hel i hi
    rw [hc, Nat.mul_one] at h1
    have hi' : i < elems.length := by omega
    rw [List.getElem?_eq_getElem hi', Option.bind_eq_some_iff] at h1
    obtain ⟨cs', h2, h3⟩ := h1
    obtain ⟨u, rfl, hu⟩ := hQ _ _ _ h3
    refine ⟨u, ?_, hu⟩
    have := cell_of_cells?_one h2
    rwa [add_plain] at this
end
def RoB (w : World) (m : M) (b : B) : Prop := ∃ c, b = .at false c ∧ m.blk < w.heap.size ∧ ∀ p x, c.get? p = some x → ∃ u, w.cell? ⟨m.blk, m.off + p, none⟩ = some u ∧ ∀ μ, RepA μ x u
def RoBs (w : World) : List M → List B → Prop
  | [], [] => True
  | m :: μ, b :: h => RoB w m b ∧ RoBs w μ h
  | _, _ => False
theorem RoBs.get {w : World} : ∀ {μ : List M} {h : List B}, RoBs w μ h → μ.length = h.length ∧ ∀ (i : Nat) (m : M) (b : B), μ[i]? = some m → h[i]? = some b → RoB w m b
  | [], [], _ => ⟨rfl, fun i m b hm _ => by simp at hm⟩
  | m :: μ, b :: h, ⟨h1, h2⟩ => by
    obtain ⟨h3, h4⟩ := RoBs.get h2
    refine ⟨by simp [h3], fun i m' b' hm hb => ?_⟩
    cases i with
    | zero => simp at hm hb; subst hm; subst hb; exact h1
    | succ i => exact h4 i m' b' (by simpa using hm) (by simpa using hb)
theorem Rel.ro {w : World} {μ : List M} {h : List B} (hr : RoBs w μ h) : Rel ⟨noZ, μ⟩ h w := by
  obtain ⟨h1, h2⟩ := hr.get
  refine ⟨h1, fun i m rw c hm hb j x hx => ?_, fun i m c hm hb => ?_, fun i m rw c hm hb _ => ?_, fun i j m n c rw d _ hm _ hb _ _ => ?_, fun k cur h => by cases h⟩
  · obtain ⟨c', e, _, hc⟩ := h2 i m _ hm hb
    cases e
    obtain ⟨u, hu, hr⟩ := hc j x hx
    exact ⟨u, hu, hr _⟩
  · obtain ⟨c', e, _⟩ := h2 i m _ hm hb
    cases e
  · exact (h2 i m _ hm hb).choose_spec.2.1
  · obtain ⟨c', e, _⟩ := h2 i m _ hm hb
    cases e
theorem not_wr_ro {w : World} {μ : List M} {h : List B} (hr : RoBs w μ h) (k : Nat) : ¬ Wr ⟨noZ, μ⟩ h k := by
  rintro ⟨i, m, c, hm, hb, _⟩
  obtain ⟨c', e, _⟩ := hr.get.2 i m _ hm hb
  cases e
section
variable {H : Type} {enc : TypeId × Value → H} {P : Program} {t e : TypeId} {W : World} {v : Value} {d : DataW H} {ps : List MemPlace} {r : Reach} {b0 : Nat}
theorem open_fls {k : FloatKind} (ht : P.underlying t = some (.slice e)) (he : P.underlying e = some (.float k)) (hc : P.cellsOf e = 1)
    (hval : Value.okWide P W r b0 t v) (hd : DataW.Trod enc P W 0 (fun _ => true) true t v d ps) :
    v = .slice none 0 0 ∨ ∃ (m : M) (l : List Nat), RoB W m (.at false (.fl k l)) ∧ ∀ (μ : Mu) i, μ.l[i]? = some m → RepA μ (.sl i 0 l.length) v := by
  rcases slice_open (Q := fun u => ∃ b, u = .float k b) ht hc (fun n cs y h => by obtain ⟨b, h1, _⟩ := trod_float he h; exact ⟨_, h1, b, rfl⟩) hval hd with h | ⟨b, off, len, cap, rfl, h1, h2, h3, h4⟩
  · exact .inl h
  · right
    obtain ⟨zs, hz, hzs⟩ := list_of (p := fun i z => W.cell? ⟨b, off + i, none⟩ = some (.float k z)) len (fun i hi => by obtain ⟨u, hu, z, rfl⟩ := h4 i hi; exact ⟨z, hu⟩)
    refine ⟨⟨b, off, false, 0, 0, 0⟩, zs.map (canon k), ⟨_, rfl, h3, fun p x hx => ?_⟩, fun μ i hm => ⟨_, ⟨b, off + 0, none⟩, cap, hm, by simp only [List.length_map, hz, Nat.add_zero], by simp only [List.length_map, hz]; exact h1, h2, fun _ => rfl, fun _ ho => by cases ho⟩⟩
    unfold C.get? C.getK at hx
    simp only [List.getElem?_map] at hx
    cases hp : zs[p]? with
    | none => rw [hp] at hx; cases hx
    | some z =>
      rw [hp] at hx
      cases hx
      exact ⟨_, hzs p z hp, fun μ => ⟨z, rfl, rfl⟩⟩
end
end Go.Proofs.Ythjncajdognojaa.Ab
