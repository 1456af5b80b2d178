/- Digits in memory that nothing writes any more: how they are opened as blocks, and how blocks become such. Only lemmas. -/
import Derived.Test.YtbhfjdlhhjeknaaAbEnd
namespace Go.Proofs.Ytbhfjdlhhjeknaa.Ab
set_option linter.unusedVariables false
set_option linter.unusedSimpArgs false
open Go

theorem RepA.noids {μ μ' : Mu} (hz : Zle μ.z μ'.z) {x : A} {cv : Value} (hx : x.ids = []) (r : RepA μ x cv) : RepA μ' x cv :=
  RepA.ren (ids := []) ⟨hz, fun j i m h => by simp at h⟩ (A.ren_plain hx []) r
def RoF (z : Nat → Option (Array Value)) (m : M) (D : List Int) : Prop := D = [] ∨ ∃ cur, z m.blk = some cur ∧ ∀ j d, D[j]? = some d → cur[m.off + j]? = some (.int .u32 d)
theorem RoF.mono {z z' : Nat → Option (Array Value)} (h : Zle z z') {m : M} {D : List Int} (r : RoF z m D) : RoF z' m D :=
  r.imp id fun ⟨cur, h1, h2⟩ => ⟨cur, h _ _ h1, h2⟩
theorem int_get {D : List Int} {j : Nat} {x : A} (h : (C.int .u32 D).get? j = some x) : ∃ d, D[j]? = some d ∧ x = .int .u32 d := by
  unfold C.get? C.getK at h
  cases hd : D[j]? with
  | none => simp only [hd] at h; cases h
  | some d => simp only [hd] at h; cases h; exact ⟨d, rfl, rfl⟩
theorem get_int {D : List Int} {j : Nat} {d : Int} (h : D[j]? = some d) : (C.int .u32 D).get? j = some (.int .u32 d) := by
  unfold C.get? C.getK
  simp only [h]

/-- A block more, that may only be read. -/
theorem Rel.ro1 {μ : Mu} {h : H} {w : World} (r : Rel μ h w) (m : M) (D : List Int) (hf : RoF μ.z m D) : Rel (μ.app [m]) (h ++ [.at false (.int .u32 D)]) w := by
  have hlen := r.len
  have split : ∀ (i : Nat) (m' : M) (b : B), (μ.l ++ [m])[i]? = some m' → (h ++ [.at false (.int .u32 D)])[i]? = some b →
      (μ.l[i]? = some m' ∧ h[i]? = some b) ∨ (i = μ.l.length ∧ m' = m ∧ b = .at false (.int .u32 D)) := by
    intro i m' b h1 h2
    by_cases hi : i < μ.l.length
    · rw [List.getElem?_append_left hi] at h1
      rw [List.getElem?_append_left (by omega)] at h2
      exact .inl ⟨h1, h2⟩
    · have hlt := getElem?_lt h1
      simp at hlt
      have hi' : i = μ.l.length := by omega
      subst hi'
      simp at h1
      rw [hlen] at h2
      simp at h2
      exact .inr ⟨rfl, h1.symm, h2.symm⟩
  -- the block's place
  have hblk : ∀ p x, (C.int .u32 D).get? p = some x → ∃ cur el, μ.z m.blk = some cur ∧ w.heap[m.blk]? = some (.cells cur el (0, 0)) ∧ ∃ d, x = .int .u32 d ∧ cur[m.off + p]? = some (.int .u32 d) := by
    intro p x hx
    obtain ⟨d, hd, rfl⟩ := int_get hx
    rcases hf with h0 | ⟨cur, h1, h2⟩
    · subst h0; simp at hd
    · obtain ⟨⟨el, h3⟩, _⟩ := r.fz _ _ h1
      exact ⟨cur, el, h1, h3, d, rfl, h2 p d hd⟩
  refine ⟨by simp [hlen], ?_, ?_, ?_, ?_, ?_⟩
  · intro i m' rw c' h1 h2 j x hx
    rcases split i m' _ h1 h2 with ⟨h1, h2⟩ | ⟨_, e, h2⟩
    · obtain ⟨cv, h3, h4⟩ := r.cell i m' rw c' h1 h2 j x hx
      exact ⟨cv, h3, h4.pre (.app μ _)⟩
    · cases h2
      obtain ⟨cur, el, _, h4, d, rfl, h5⟩ := hblk j x hx
      refine ⟨_, ?_, rfl⟩
      rw [e]
      simp only [World.cell?, h4]
      exact h5
  · intro i m' c' h1 h2
    rcases split i m' _ h1 h2 with ⟨h1, h2⟩ | ⟨_, _, h2⟩
    · exact r.own i m' c' h1 h2
    · cases h2
  · intro i m' rw c' h1 h2 hl
    rcases split i m' _ h1 h2 with ⟨h1, h2⟩ | ⟨_, e, h2⟩
    · exact r.lt i m' rw c' h1 h2 hl
    · cases h2
      rcases hl with hl | ⟨p, x, hx⟩
      · cases hl
      · obtain ⟨cur, el, _, h4, _⟩ := hblk p x hx
        rw [e]
        exact heap_lt h4
  · intro i j m' n c' rw d hij h1 h2 h3 h4 hl
    rcases split i m' _ h1 h3 with ⟨h1, h3⟩ | ⟨_, _, h3⟩
    · rcases split j n _ h2 h4 with ⟨h2, h4⟩ | ⟨e2, e2', h4⟩
      · exact r.sep i j m' n c' rw d hij h1 h2 h3 h4 hl
      · cases h4
        rcases hl with hl | ⟨p, x, hx⟩
        · cases hl
        · obtain ⟨cur, el, h5, _⟩ := hblk p x hx
          rw [e2']
          exact (r.fz _ _ h5).2 i m' c' h1 h3
    · cases h3
  · intro k cur hk
    refine ⟨(r.fz k cur hk).1, fun i m' c' h1 h2 => ?_⟩
    rcases split i m' _ h1 h2 with ⟨h1, h2⟩ | ⟨_, _, h2⟩
    · exact (r.fz k cur hk).2 i m' c' h1 h2
    · cases h2

/-- Digits opened as a block that may only be read. -/
theorem Rel.thaw {μ : Mu} {h : H} {w : World} (r : Rel μ h w) {D : List Int} {cv : Value} (hs : SlZ μ.z D cv) :
    ∃ m, RoF μ.z m D ∧ Rel (μ.app [m]) (h ++ [.at false (.int .u32 D)]) w ∧ RepA (μ.app [m]) (.ro h.length D.length) cv := by
  rcases hs with ⟨rfl, rfl⟩ | ⟨b, off, c, rfl, h2, h3, h4⟩
  · exact ⟨⟨0, 0, false, 0, 0, 0⟩, .inl rfl, r.ro1 _ _ (.inl rfl), _, new_at r.len, .inr ⟨rfl, rfl⟩⟩
  · exact ⟨⟨b, off, false, 0, 0, 0⟩, h4, r.ro1 _ _ h4, _, new_at r.len, .inl ⟨c, rfl, h2, h3⟩⟩
theorem slz_ro {μ : Mu} {i n : Nat} {cv : Value} {m : M} {D : List Int} (hm : μ.l[i]? = some m) (hf : RoF μ.z m D) (hn : n ≤ D.length) (h : RepA μ (.ro i n) cv) : SlZ μ.z (D.take n) cv := by
  obtain ⟨m', hm', h⟩ := h
  rw [hm] at hm'
  cases hm'
  have hl : (D.take n).length = n := by simp; omega
  rcases h with ⟨c, rfl, h1, h2⟩ | ⟨rfl, rfl⟩
  · refine .inr ⟨_, _, c, by rw [hl], by omega, h2, ?_⟩
    rcases hf with rfl | ⟨cur, h3, h4⟩
    · exact .inl (by simp)
    · exact .inr ⟨cur, h3, fun j d hd => h4 j d (by rw [List.getElem?_take] at hd; split at hd <;> simp_all)⟩
  · exact .inl ⟨by simp, rfl⟩
theorem slz_sl {μ : Mu} {i n : Nat} {cv : Value} {m : M} {D : List Int} (hm : μ.l[i]? = some m) (hf : RoF μ.z m D) (hn : n ≤ D.length) (h : RepA μ (.sl i 0 n) cv) : SlZ μ.z (D.take n) cv := by
  obtain ⟨m', ad, c, hm', rfl, h1, h2, h5, _⟩ := h
  rw [hm] at hm'
  cases hm'
  have hl : (D.take n).length = n := by simp; omega
  have := h5 (.inr rfl)
  subst this
  refine .inr ⟨_, _, c, by rw [hl], by omega, h2, ?_⟩
  rcases hf with rfl | ⟨cur, h3, h4⟩
  · exact .inl (by simp)
  · exact .inr ⟨cur, h3, fun j d hd => h4 j d (by rw [List.getElem?_take] at hd; split at hd <;> simp_all)⟩

/-- A block that nothing writes any more. -/
theorem Ev.freeze {μ μ' : Mu} {h h' : H} {w w' : World} (e : Ev μ h w μ' h' w') {k : Nat} {m : M} {D : List Int} (hm : μ'.l[k]? = some m) (hb : h'[k]? = some (.at true (.int .u32 D))) :
    ∃ z, Zle μ'.z z ∧ RoF z m D ∧ Ev μ h w ⟨z, μ'.l⟩ (h'.set k .gone) w' := by
  obtain ⟨ho1, ho2, ho3, cur, hcur, hsz⟩ := e.rel.own k m _ hm hb
  have hk : k < h'.length := getElem?_lt hb
  have get : ∀ (j : Nat) (rw : Bool) (c : C), (h'.set k .gone)[j]? = some (.at rw c) → j ≠ k ∧ h'[j]? = some (.at rw c) := by
    intro j rw c hj
    by_cases e : k = j
    · subst e
      rw [List.getElem?_set_self hk] at hj
      cases hj
    · rw [List.getElem?_set_ne e] at hj
      exact ⟨fun h => e h.symm, hj⟩
  have hz : Zle μ'.z (fun b => if b = m.blk then some cur else μ'.z b) := by
    intro b c hc
    dsimp only
    split
    · rename_i hbm
      subst hbm
      exact absurd rfl ((e.rel.fz _ _ hc).2 k m _ hm hb)
    · exact hc
  have hp : Pre μ' ⟨fun b => if b = m.blk then some cur else μ'.z b, μ'.l⟩ := ⟨hz, [], by simp⟩
  have hwr : Wr μ h m.blk ∨ w.heap.size ≤ m.blk := e.wr ⟨k, m, _, hm, hb, rfl⟩
  refine ⟨_, hz, .inr ⟨cur, by simp, fun j d hd => ?_⟩, ⟨⟨by simpa using e.rel.len, ?_, ?_, ?_, ?_, ?_⟩, e.pre.trans hp, e.fr, ?_, ?_, ?_⟩⟩
  · obtain ⟨cv, h1, h2⟩ := e.rel.cell k m true _ hm hb j _ (get_int hd)
    cases h2
    simp only [World.cell?, hcur] at h1
    exact h1
  · intro j n rw c hn hc p x hx
    obtain ⟨cv, h1, h2⟩ := e.rel.cell j n rw c hn (get j rw c hc).2 p x hx
    exact ⟨cv, h1, h2.pre hp⟩
  · intro j n c hn hc
    exact e.rel.own j n c hn (get j _ c hc).2
  · intro j n rw c hn hc hl
    exact e.rel.lt j n rw c hn (get j rw c hc).2 hl
  · intro i j m' n c rw d hij hm' hn hc hd hl
    exact e.rel.sep i j m' n c rw d hij hm' hn (get i _ c hc).2 (get j rw d hd).2 hl
  · intro b c hc
    dsimp only at hc
    split at hc
    · rename_i hbm
      subst hbm
      cases hc
      refine ⟨⟨_, hcur⟩, fun j n d hn hd => ?_⟩
      exact e.rel.sep j k n m d true _ (get j _ d hd).1 hn hm (get j _ d hd).2 hb (.inl rfl)
    · exact ⟨(e.rel.fz b c hc).1, fun j n d hn hd => (e.rel.fz b c hc).2 j n d hn (get j _ d hd).2⟩
  · intro j rw c hj hc
    exact e.old j rw c hj (get j rw c hc).2
  · intro j n rw c hj hn hc
    exact e.new j n rw c hj hn (get j rw c hc).2
  · intro b c hc
    dsimp only at hc
    split at hc
    · rename_i hbm
      subst hbm
      exact .inr hwr
    · exact e.zn b c hc

/-- The blocks that were opened, and the new ones, are left out again. -/
theorem Ev.cut {μ μ' : Mu} {ms : List M} {h ros h1 : H} {w w' : World} (hlen : μ.l.length = h.length) (hms : ms.length = ros.length) (hro : ∀ b ∈ ros, ∀ c, b ≠ .at true c) (e : Ev (μ.app ms) (h ++ ros) w μ' h1 w')
    (hid : ∀ (i : Nat) (rw : Bool) (c : C), i < h.length → h1[i]? = some (.at rw c) → ∀ p x, c.get? p = some x → x.ids = []) : Ev μ h w ⟨μ'.z, μ.l⟩ (h1.take h.length) w' := by
  obtain ⟨hz, ν, hν⟩ := e.pre
  have hν : μ'.l = (μ.l ++ ms) ++ ν := hν
  have h1len : h1.length = μ.l.length + ms.length + ν.length := by rw [← e.rel.len, hν]; simp only [List.length_append]
  have get : ∀ (i : Nat) (b : B), (h1.take h.length)[i]? = some b → i < h.length ∧ h1[i]? = some b := by
    intro i b hi
    rw [List.getElem?_take] at hi
    split at hi
    · exact ⟨‹_›, hi⟩
    · cases hi
  have getm : ∀ (i : Nat) (m : M), μ.l[i]? = some m → μ'.l[i]? = some m := by
    intro i m hi
    rw [hν, List.append_assoc, List.getElem?_append_left (getElem?_lt hi)]
    exact hi
  have hwr : ∀ k, Wr (μ.app ms) (h ++ ros) k → Wr μ h k := by
    rintro k ⟨i, m, c, hm, hb, hk⟩
    by_cases hi : i < h.length
    · rw [List.getElem?_append_left hi] at hb
      have hm : (μ.l ++ ms)[i]? = some m := hm
      rw [List.getElem?_append_left (by omega)] at hm
      exact ⟨i, m, c, hm, hb, hk⟩
    · rw [List.getElem?_append_right (by omega)] at hb
      exact absurd rfl (hro _ (List.mem_of_getElem? hb) c)
  have old : ∀ (j : Nat) (rw : Bool) (c : C), j < μ.l.length → h1[j]? = some (.at rw c) → ∃ d, h[j]? = some (.at rw d) ∧ (c.live rw → d.live rw) := by
    intro j rw c hj hb
    obtain ⟨d, hd, hl⟩ := e.old j rw c (by show j < (μ.l ++ ms).length; simp; omega) hb
    rw [List.getElem?_append_left (by omega)] at hd
    exact ⟨d, hd, hl⟩
  refine ⟨⟨by simp [h1len, hlen]; omega, ?_, ?_, ?_, ?_, ?_⟩, ⟨hz, [], by simp⟩, e.fr.mono hwr, ?_, ?_, ?_⟩
  · intro i m rw c hm hb p x hx
    obtain ⟨hi, hb⟩ := get i _ hb
    obtain ⟨cv, h2, h3⟩ := e.rel.cell i m rw c (getm i m hm) hb p x hx
    exact ⟨cv, h2, RepA.noids (μ := μ') (μ' := ⟨μ'.z, μ.l⟩) (Zle.refl μ'.z) (hid i rw c hi hb p x hx) h3⟩
  · intro i m c hm hb
    exact e.rel.own i m c (getm i m hm) (get i _ hb).2
  · intro i m rw c hm hb hl
    exact e.rel.lt i m rw c (getm i m hm) (get i _ hb).2 hl
  · intro i j m n c rw d hij hm hn hb hd hl
    exact e.rel.sep i j m n c rw d hij (getm i m hm) (getm j n hn) (get i _ hb).2 (get j _ hd).2 hl
  · intro k cur hk
    exact ⟨(e.rel.fz k cur hk).1, fun i m c hm hb => (e.rel.fz k cur hk).2 i m c (getm i m hm) (get i _ hb).2⟩
  · intro j rw c hj hb
    exact old j rw c hj (get j _ hb).2
  · intro i m rw c hi hm _
    have := getElem?_lt hm
    dsimp only at this
    omega
  · intro k cur hk
    exact (e.zn k cur hk).imp id (Or.imp (hwr k) id)

/-- Less is told of a block's cells. -/
theorem Ev.weak {μ μ' : Mu} {h h' : H} {w w' : World} (e : Ev μ h w μ' h' w') {k : Nat} {rw : Bool} {c c' : C} (hb : h'[k]? = some (.at rw c)) (hes : c'.esz = c.esz)
    (hc : ∀ m, μ'.l[k]? = some m → ∀ p x, c'.get? p = some x → ∃ y, c.get? p = some y ∧ ∀ cv, RepA μ' y cv → RepA μ' x cv) : Ev μ h w μ' (h'.set k (.at rw c')) w' := by
  have hk : k < h'.length := getElem?_lt hb
  have get : ∀ (j : Nat) (rw' : Bool) (d : C), (h'.set k (.at rw c'))[j]? = some (.at rw' d) → (j = k ∧ rw' = rw ∧ d = c') ∨ (h'[j]? = some (.at rw' d)) := by
    intro j rw' d hj
    by_cases e : k = j
    · subst e
      rw [List.getElem?_set_self hk] at hj
      cases hj
      exact .inl ⟨rfl, rfl, rfl⟩
    · rw [List.getElem?_set_ne e] at hj
      exact .inr hj
  have lv : ∀ m, μ'.l[k]? = some m → c'.live rw → c.live rw := fun m hm hl => hl.imp id fun ⟨p, x, hx⟩ => (hc m hm p x hx).elim fun y hy => ⟨p, y, hy.1⟩
  refine ⟨⟨by simpa using e.rel.len, ?_, ?_, ?_, ?_, ?_⟩, e.pre, e.fr, ?_, ?_, e.zn⟩
  · intro j m rw' d hm hd p x hx
    rcases get j rw' d hd with ⟨rfl, rfl, rfl⟩ | hd
    · obtain ⟨y, h1, h2⟩ := hc m hm p x hx
      obtain ⟨cv, h3, h4⟩ := e.rel.cell j m rw' c hm hb p y h1
      exact ⟨cv, h3, h2 cv h4⟩
    · exact e.rel.cell j m rw' d hm hd p x hx
  · intro j m d hm hd
    rcases get j _ d hd with ⟨rfl, h1, rfl⟩ | hd
    · subst h1
      rw [hes]
      exact e.rel.own j m c hm hb
    · exact e.rel.own j m d hm hd
  · intro j m rw' d hm hd hl
    rcases get j rw' d hd with ⟨rfl, rfl, rfl⟩ | hd
    · exact e.rel.lt j m rw' c hm hb (lv m hm hl)
    · exact e.rel.lt j m rw' d hm hd hl
  · intro i j m n d rw' d' hij hm hn hd hd' hl
    rcases get j rw' d' hd' with ⟨e1, e2, e3⟩ | hd2
    · subst e1; subst e2; subst e3
      rcases get i _ d hd with ⟨h1, _, _⟩ | hd1
      · exact absurd h1 hij
      · exact e.rel.sep i j m n d rw' c hij hm hn hd1 hb (lv n hn hl)
    · rcases get i _ d hd with ⟨e1, e2, e3⟩ | hd1
      · subst e1; subst e2; subst e3
        exact e.rel.sep i j m n c rw' d' hij hm hn hb hd2 hl
      · exact e.rel.sep i j m n d rw' d' hij hm hn hd1 hd2 hl
  · intro b cur hk'
    refine ⟨(e.rel.fz b cur hk').1, fun j m d hm hd => ?_⟩
    rcases get j _ d hd with ⟨rfl, h1, rfl⟩ | hd
    · subst h1
      exact (e.rel.fz b cur hk').2 j m c hm hb
    · exact (e.rel.fz b cur hk').2 j m d hm hd
  · intro j rw' d hj hd
    rcases get j rw' d hd with ⟨rfl, rfl, rfl⟩ | hd
    · obtain ⟨d', h1, h2⟩ := e.old j rw' c hj hb
      have hjl : j < μ'.l.length := by rw [e.rel.len]; exact hk
      exact ⟨d', h1, fun h => h2 (lv _ (List.getElem?_eq_getElem hjl) h)⟩
    · exact e.old j rw' d hj hd
  · intro j m rw' d hj hm hd
    rcases get j rw' d hd with ⟨rfl, rfl, rfl⟩ | hd
    · exact e.new j m rw' c hj hm hb
    · exact e.new j m rw' d hj hm hd
end Go.Proofs.Ytbhfjdlhhjeknaa.Ab
