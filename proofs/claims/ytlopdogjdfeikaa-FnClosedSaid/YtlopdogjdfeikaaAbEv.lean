/- How a heap goes on: an operation's or a call's way; ways one behind another; a part of the heap numbered anew. Only lemmas. -/
import Derived.Test.YtlopdogjdfeikaaAbQuiet
namespace Go.Proofs.Ytlopdogjdfeikaa.Ab
set_option linter.unusedVariables false
set_option linter.unusedSimpArgs false
open Go

/-- From there to here: what lay there and was not to be written lies as it lay; the old blocks keep their right to be written, or are gone; the new ones lie in new memory, or where a block lay that might be written. -/
structure Ev (μ : Mu) (h : H) (w : World) (μ' : Mu) (h' : H) (w' : World) : Prop where
  rel : Rel μ' h' w'
  pre : Pre μ μ'
  fr : Fr (Wr μ h) w w'
  old : ∀ (j : Nat) (rw : Bool) (c : C), j < μ.l.length → h'[j]? = some (.at rw c) → ∃ d, h[j]? = some (.at rw d) ∧ (c.live rw → d.live rw)
  new : ∀ (i : Nat) (m : M) (rw : Bool) (c : C), μ.l.length ≤ i → μ'.l[i]? = some m → h'[i]? = some (.at rw c) → rw = true ∧ (Wr μ h m.blk ∨ w.heap.size ≤ m.blk)
  zn : ∀ (k : Nat) (cur : Array Value), μ'.z k = some cur → μ.z k = some cur ∨ Wr μ h k ∨ w.heap.size ≤ k

theorem Pre.len {a b : Mu} (h : Pre a b) : a.l.length ≤ b.l.length := by obtain ⟨_, x, hx⟩ := h; rw [hx]; simp
theorem Pre.back {a b : Mu} (h : Pre a b) {i : Nat} {m : M} (hi : i < a.l.length) (e : b.l[i]? = some m) : a.l[i]? = some m := by
  obtain ⟨_, x, hx⟩ := h
  rwa [hx, List.getElem?_append_left hi] at e

theorem Ev.wr {μ μ' : Mu} {h h' : H} {w w' : World} (e : Ev μ h w μ' h' w') {k : Nat} (hk : Wr μ' h' k) : Wr μ h k ∨ w.heap.size ≤ k := by
  obtain ⟨i, m, c, h1, h2, rfl⟩ := hk
  by_cases hi : i < μ.l.length
  · obtain ⟨d, hd, _⟩ := e.old i true c hi h2
    exact .inl ⟨i, m, d, e.pre.back hi h1, hd, rfl⟩
  · exact (e.new i m true c (by omega) h1 h2).2

theorem Ev.refl {μ : Mu} {h : H} {w : World} (r : Rel μ h w) : Ev μ h w μ h w :=
  ⟨r, .refl μ, .refl _ w, fun j rw c _ hj => ⟨c, hj, id⟩, fun i m rw c hi hm _ => absurd (getElem?_lt hm) (by omega), fun _ _ h => .inl h⟩

theorem Ev.trans {μ μ1 μ2 : Mu} {h h1 h2 : H} {w w1 w2 : World} (e : Ev μ h w μ1 h1 w1) (f : Ev μ1 h1 w1 μ2 h2 w2) : Ev μ h w μ2 h2 w2 where
  rel := f.rel
  pre := e.pre.trans f.pre
  fr := e.fr.trans f.fr fun _ hk => e.wr hk
  old j rw c hj hb := by
    obtain ⟨d, hd, hl⟩ := f.old j rw c (Nat.lt_of_lt_of_le hj e.pre.len) hb
    obtain ⟨d', hd', hl'⟩ := e.old j rw d hj hd
    exact ⟨d', hd', fun h => hl' (hl h)⟩
  new i m rw c hi hm hb := by
    by_cases hlt : i < μ1.l.length
    · obtain ⟨d, hd, _⟩ := f.old i rw c hlt hb
      exact e.new i m rw d hi (f.pre.back hlt hm) hd
    · obtain ⟨h3, h4⟩ := f.new i m rw c (by omega) hm hb
      refine ⟨h3, ?_⟩
      rcases h4 with h4 | h4
      · exact e.wr h4
      · exact .inr (Nat.le_trans e.fr.size h4)
  zn k cur hk := by
    rcases f.zn k cur hk with h3 | h3 | h3
    · exact e.zn k cur h3
    · exact .inr (e.wr h3)
    · exact .inr (.inr (Nat.le_trans e.fr.size h3))

theorem Ev.drewN {μ : Mu} {h : H} {w : World} (r : Rel μ h w) (n : Nat) : Ev μ h w μ h (w.drewN n) :=
  ⟨r.drewN n, .refl μ, .drewN _ w n, fun j rw c _ hj => ⟨c, hj, id⟩, fun i m rw c hi hm _ => absurd (getElem?_lt hm) (by omega), fun _ _ h => .inl h⟩

theorem Ev.alloc {μ : Mu} {h : H} {w : World} (r : Rel μ h w) (c : C) (el : TypeId) (cur : Array Value)
    (hc : ∀ j x, c.get? j = some x → ∃ cv, cur[j]? = some cv ∧ RepA μ x cv) :
    Ev μ h w (μ.app [⟨w.heap.size, 0, true, cur.size, c.esz, el⟩]) (h ++ [.at true c]) (w.alloc (.cells cur el)) := by
  refine ⟨r.new c _ cur rfl fun j x hx => ?_, .app μ _, .alloc _ w _, fun j rw c' hj hb => ?_, fun i m rw c' hi hm hb => ?_, fun _ _ h => .inl h⟩
  · obtain ⟨cv, h1, h2⟩ := hc j x hx
    exact ⟨cv, h1, h2.pre (.app μ _)⟩
  · rw [List.getElem?_append_left (by rw [← r.len]; exact hj)] at hb
    exact ⟨c', hb, id⟩
  · have hlt := getElem?_lt hm
    simp at hlt
    have hi' : i = μ.l.length := by omega
    subst hi'
    simp at hm
    subst hm
    rw [r.len] at hb
    simp at hb
    exact ⟨hb.1, .inr (Nat.le_refl _)⟩

def Goes (μ : Mu) (h : H) (w : World) (v : V) (h' : H) (cv : Value) (w' : World) : Prop := ∃ μ', Ev μ h w μ' h' w' ∧ RepV μ' v cv

/-- A part of the heap that begins with the first 'k' blocks, numbered anew. -/
theorem Ev.pick {μ0 μ : Mu} {h0 h g : H} {w0 w : World} (e : Ev μ0 h0 w0 μ h w) {ids p : List Nat} (hids : ids = List.range μ0.l.length ++ p) (hn : ids.Nodup) (hs : subH h ids = some g) :
    Ev μ0 h0 w0 (pick μ ids) g w ∧ Sub ids μ (pick μ ids) := by
  have hsub := pick_sub μ ids
  have hk : ∀ j, j < μ0.l.length → ids[j]? = some j := by
    intro j hj
    rw [hids, List.getElem?_append_left (by simpa using hj), List.getElem?_range hj]
  have hμ : μ0.l.length ≤ μ.l.length := e.pre.len
  refine ⟨⟨e.rel.sub hn hs, ?_, e.fr, ?_, ?_, e.zn⟩, hsub⟩
  · -- the first blocks
    refine ⟨e.pre.1, (Ab.pick μ ids).l.drop μ0.l.length, ?_⟩
    have h1 : (Ab.pick μ ids).l.take μ0.l.length = μ0.l := by
      apply List.ext_getElem?
      intro j
      rw [List.getElem?_take]
      split
      · rename_i hj
        have h2 := hk j hj
        have h3 : μ.l[j]? = some μ.l[j] := List.getElem?_eq_getElem (by omega)
        rw [hsub.2 j j _ h2 h3, ← h3]
        obtain ⟨_, x, hx⟩ := e.pre
        rw [hx, List.getElem?_append_left hj]
      · rename_i hj
        rw [List.getElem?_eq_none (by omega)]
    conv => lhs; rw [← List.take_append_drop μ0.l.length (Ab.pick μ ids).l, h1]
  · intro j rw c hj hb
    obtain ⟨i, hi, hb'⟩ := optMap_inv hs j _ hb
    rw [hk j hj] at hi
    cases hi
    obtain ⟨c', hc', _, hc2⟩ := renAt_at hb'
    obtain ⟨d, hd, hl⟩ := e.old j rw c' hj hc'
    exact ⟨d, hd, fun h => hl (h.imp id fun ⟨p, x, hx⟩ => (hc2 p x hx).elim fun y hy => ⟨p, y, hy.1⟩)⟩
  · intro j m rw c hj hm hb
    obtain ⟨i, hi, hb'⟩ := optMap_inv hs j _ hb
    obtain ⟨c', hc', _⟩ := renAt_at hb'
    have hlt : i < μ.l.length := by rw [e.rel.len]; exact getElem?_lt hc'
    have h3 : μ.l[i]? = some μ.l[i] := List.getElem?_eq_getElem hlt
    rw [hsub.2 j i _ hi h3] at hm
    cases hm
    refine e.new i _ rw c' ?_ h3 hc'
    -- the number is none of the first ones
    by_cases hlt' : i < μ0.l.length
    · have h4 := List.getElem?_eq_some_iff.1 (hk i hlt')
      have h5 := List.getElem?_eq_some_iff.1 hi
      have := (List.getElem_inj hn).1 (h4.2.trans h5.2.symm)
      omega
    · omega

/-- The cells of one block are written. -/
theorem Ev.set {μ : Mu} {h : H} {w w' : World} {i : Nat} {m : M} {c c' : C} (r : Rel μ h w) (hm : μ.l[i]? = some m) (hb : h[i]? = some (.at true c)) {cur' : Array Value}
    (hes : c'.esz = c.esz) (hw : Fr (fun k => k = m.blk) w w') (hh : w'.heap[m.blk]? = some (.cells cur' m.el (0, 0))) (hsz : cur'.size = m.size)
    (hc : ∀ j x, c'.get? j = some x → ∃ cv, cur'[j]? = some cv ∧ RepA μ x cv) : Ev μ h w μ (h.set i (.at true c')) w' := by
  have hi : i < h.length := getElem?_lt hb
  have get : ∀ (j : Nat) (b : B), (h.set i (.at true c'))[j]? = some b → (j = i ∧ b = .at true c') ∨ (j ≠ i ∧ h[j]? = some b) := by
    intro j b hj
    by_cases e : i = j
    · subst e
      rw [List.getElem?_set_self hi] at hj
      cases hj
      exact .inl ⟨rfl, rfl⟩
    · rw [List.getElem?_set_ne e] at hj
      exact .inr ⟨fun h => e h.symm, hj⟩
  obtain ⟨ho1, ho2, ho3, _⟩ := r.own i m c hm hb
  have other : ∀ (j : Nat) (n : M) (rw : Bool) (d : C), j ≠ i → μ.l[j]? = some n → h[j]? = some (.at rw d) → d.live rw → n.blk ≠ m.blk :=
    fun j n rw d hj hn hd hl => fun e => r.sep i j m n c rw d (fun e => hj e.symm) hm hn hb hd hl e.symm
  refine ⟨⟨by simp [r.len], ?_, ?_, ?_, ?_, ?_⟩, .refl μ, hw.mono fun k hk => ⟨i, m, c, hm, hb, hk.symm⟩, ?_, ?_, fun _ _ h => .inl h⟩
  · intro j n rw d hn hd p x hx
    rcases get j _ hd with ⟨rfl, e⟩ | ⟨hj, hd⟩
    · cases e
      rw [hm] at hn
      cases hn
      obtain ⟨cv, h1, h2⟩ := hc p x hx
      refine ⟨cv, ?_, h2⟩
      rw [ho2]
      simp only [World.cell?, hh, Nat.zero_add]
      simpa using h1
    · obtain ⟨cv, h1, h2⟩ := r.cell j n rw d hn hd p x hx
      exact ⟨cv, (cell_of_block (hw.block n.blk (r.lt j n rw d hn hd (.inr ⟨p, x, hx⟩)) (other j n rw d hj hn hd (.inr ⟨p, x, hx⟩)))).trans h1, h2⟩
  · intro j n d hn hd
    rcases get j _ hd with ⟨rfl, e⟩ | ⟨hj, hd⟩
    · rw [hm] at hn
      cases hn
      cases e
      exact ⟨ho1, ho2, by rw [hes]; exact ho3, cur', hh, hsz⟩
    · obtain ⟨h1, h2, h5, cur, h3, h4⟩ := r.own j n d hn hd
      exact ⟨h1, h2, h5, cur, (hw.block n.blk (r.lt j n _ d hn hd (.inl rfl)) (other j n _ d hj hn hd (.inl rfl))).trans h3, h4⟩
  · intro j n rw d hn hd hl
    rcases get j _ hd with ⟨rfl, e⟩ | ⟨hj, hd⟩
    · rw [hm] at hn
      cases hn
      exact Nat.lt_of_lt_of_le (r.lt j m _ c hm hb (.inl rfl)) hw.size
    · exact Nat.lt_of_lt_of_le (r.lt j n rw d hn hd hl) hw.size
  · intro j j' n n' d rw d' hjj hn hn' hd hd' hl
    rcases get j _ hd with ⟨e1, e⟩ | ⟨hj, hd1⟩ <;> rcases get j' _ hd' with ⟨e2, e'⟩ | ⟨hj', hd2⟩
    · exact absurd (e1.trans e2.symm) hjj
    · subst e1; exact r.sep j j' n n' c rw d' hjj hn hn' hb hd2 hl
    · subst e2; cases e'
      exact fun e => r.sep j' j n' n c true d hjj.symm hn' hn hb hd1 (.inl rfl) e.symm
    · exact r.sep j j' n n' d rw d' hjj hn hn' hd1 hd2 hl
  · intro k cur hk
    obtain ⟨⟨el, h1⟩, h2⟩ := r.fz k cur hk
    refine ⟨⟨el, (hw.block k (heap_lt h1) (fun e => h2 i m c hm hb e.symm)).trans h1⟩, fun j n d hn hd => ?_⟩
    rcases get j _ hd with ⟨e1, e⟩ | ⟨hj, hd1⟩
    · subst e1; exact h2 j n c hn hb
    · exact h2 j n d hn hd1
  · intro j rw d hj hd
    rcases get j _ hd with ⟨rfl, e⟩ | ⟨_, hd⟩
    · cases e; exact ⟨c, hb, fun _ => .inl rfl⟩
    · exact ⟨d, hd, id⟩
  · intro j n rw d hj hn _
    exact absurd (getElem?_lt hn) (by omega)

end Go.Proofs.Ytlopdogjdfeikaa.Ab
