/- A part of the heap numbered anew, and a called function's blocks laid back. Only lemmas. -/
import Derived.Test.YtlopdogjdfeikaaAbRel
namespace Go.Proofs.Ytlopdogjdfeikaa.Ab
set_option linter.unusedVariables false
set_option linter.unusedSimpArgs false
open Go

/-! ### Lists without repetitions -/
theorem addNew_nodup {l : List Nat} (h : l.Nodup) (i : Nat) : (addNew l i).Nodup := by
  unfold addNew
  split
  · exact h
  · rename_i hc
    rw [List.nodup_append]
    refine ⟨h, by simp, ?_⟩
    intro a ha b hb
    simp at hb
    subst hb
    intro e
    subst e
    exact hc (by simpa using ha)
theorem foldAdd_nodup : ∀ (m : List Nat) {l : List Nat}, l.Nodup → (m.foldl addNew l).Nodup
  | [], _, h => h
  | i :: m, _, h => foldAdd_nodup m (addNew_nodup h i)
theorem foldAdd_pre : ∀ (m : List Nat) (l : List Nat), ∃ n, m.foldl addNew l = l ++ n
  | [], l => ⟨[], by simp⟩
  | i :: m, l => by
    obtain ⟨n, hn⟩ := foldAdd_pre m (addNew l i)
    simp only [List.foldl_cons, hn]
    unfold addNew
    split
    · exact ⟨n, rfl⟩
    · exact ⟨i :: n, by simp⟩
theorem close_nodup (h : H) : ∀ (n : Nat) {l : List Nat}, l.Nodup → (close h n l).Nodup
  | 0, _, k => k
  | n + 1, _, k => close_nodup h n (foldAdd_nodup _ k)
theorem close_pre (h : H) : ∀ (n : Nat) (l : List Nat), ∃ m, close h n l = l ++ m
  | 0, l => ⟨[], by simp [close]⟩
  | n + 1, l => by
    obtain ⟨m, hm⟩ := close_pre h n ((l.flatMap (idsAt h)).foldl addNew l)
    obtain ⟨p, hp⟩ := foldAdd_pre (l.flatMap (idsAt h)) l
    exact ⟨p ++ m, by unfold close; rw [hm, hp, List.append_assoc]⟩

/-! ### optMap -/
theorem optMap_len {α β : Type} {f : α → Option β} : ∀ {l : List α} {m : List β}, optMap f l = some m → m.length = l.length
  | [], m, e => by cases e; rfl
  | x :: l, m, e => by
    obtain ⟨y, m', _, e2, rfl⟩ := optMap_cons e
    simp [optMap_len e2]
theorem optMap_get {α β : Type} {f : α → Option β} : ∀ {l : List α} {m : List β}, optMap f l = some m → ∀ (j : Nat) (x : α), l[j]? = some x → ∃ y, f x = some y ∧ m[j]? = some y
  | [], _, _, _, _, h => by simp at h
  | x :: l, m, e, j, z, h => by
    obtain ⟨y, m', e1, e2, rfl⟩ := optMap_cons e
    cases j with
    | zero => simp at h; subst h; exact ⟨y, e1, rfl⟩
    | succ j => simp at h; obtain ⟨u, h1, h2⟩ := optMap_get e2 j z h; exact ⟨u, h1, by simpa using h2⟩
theorem optMap_inv {α β : Type} {f : α → Option β} : ∀ {l : List α} {m : List β}, optMap f l = some m → ∀ (j : Nat) (y : β), m[j]? = some y → ∃ x, l[j]? = some x ∧ f x = some y
  | [], m, e, _, _, h => by cases e; simp at h
  | x :: l, m, e, j, z, h => by
    obtain ⟨y, m', e1, e2, rfl⟩ := optMap_cons e
    cases j with
    | zero => simp at h; subst h; exact ⟨x, rfl, e1⟩
    | succ j => simp at h; obtain ⟨u, h1, h2⟩ := optMap_inv e2 j z h; exact ⟨u, by simpa using h1, h2⟩

/-! ### A part of the heap -/
theorem C.get?_as (e : Nat) (l : List A) (j : Nat) : (C.as e l).get? j = l[j]? := by
  unfold C.get? C.getK
  cases h : l[j]? <;> simp [h]
theorem C.get?_plain {c : C} (hc : ∀ e l, c ≠ .as e l) {j : Nat} {x : A} (h : c.get? j = some x) : x.ids = [] := by
  unfold C.get? C.getK at h
  cases c <;> simp only at h
  case as e l => exact absurd rfl (hc e l)
  case mp l => cases h
  all_goals (split at h <;> cases h; rfl)
theorem A.ren_plain {x : A} (h : x.ids = []) (ids : List Nat) : x.ren ids = some x := by
  cases x <;> first | rfl | simp [A.ids] at h

/-- What a block is, numbered anew. -/
theorem B.ren_at {ids : List Nat} {b : B} {rw : Bool} {c' : C} (e : b.ren ids = some (.at rw c')) :
    ∃ c, b = .at rw c ∧ c'.esz = c.esz ∧ ∀ p x, c'.get? p = some x → ∃ y, c.get? p = some y ∧ y.ren ids = some x := by
  cases b with
  | gone => cases e
  | «at» rw' c =>
    cases c with
    | as ee l =>
      simp only [B.ren, Option.map_eq_some_iff] at e
      obtain ⟨m, h1, h2⟩ := e
      cases h2
      refine ⟨_, rfl, rfl, fun p x hx => ?_⟩
      rw [C.get?_as] at hx
      obtain ⟨y, h3, h4⟩ := optMap_inv h1 p x hx
      exact ⟨y, by rw [C.get?_as]; exact h3, h4⟩
    | _ =>
      simp only [B.ren] at e
      cases e
      exact ⟨_, rfl, rfl, fun p x hx => ⟨x, hx, A.ren_plain (C.get?_plain (by simp) hx) ids⟩⟩
theorem renAt_at {h : H} {ids : List Nat} {i : Nat} {rw : Bool} {c' : C} (e : renAt h ids i = some (.at rw c')) :
    ∃ c, h[i]? = some (.at rw c) ∧ c'.esz = c.esz ∧ ∀ p x, c'.get? p = some x → ∃ y, c.get? p = some y ∧ y.ren ids = some x := by
  unfold renAt at e
  cases hh : h[i]? with
  | none => simp [hh] at e
  | some b =>
    simp only [hh] at e
    obtain ⟨c, rfl, hc⟩ := B.ren_at e
    exact ⟨c, rfl, hc⟩
theorem renAt_lt {h : H} {ids : List Nat} {i : Nat} {b : B} (e : renAt h ids i = some b) : i < h.length := by
  unfold renAt at e
  cases hh : h[i]? with
  | none => simp [hh] at e
  | some b => exact getElem?_lt hh

def pick (μ : Mu) (ids : List Nat) : Mu := ⟨μ.z, ids.map fun i => (μ.l[i]?).getD ⟨0, 0, false, 0, 0, 0⟩⟩

theorem pick_sub (μ : Mu) (ids : List Nat) : Sub ids μ (pick μ ids) := by
  refine ⟨.refl _, fun j i m h1 h2 => ?_⟩
  simp [pick, h1, h2]

theorem Rel.sub {μ : Mu} {h g : H} {w : World} {ids : List Nat} (r : Rel μ h w) (hn : ids.Nodup) (e : subH h ids = some g) : Rel (pick μ ids) g w := by
  have hsub := pick_sub μ ids
  -- each block there is one here
  have key : ∀ (j : Nat) (m : M) (rw : Bool) (c' : C), (pick μ ids).l[j]? = some m → g[j]? = some (.at rw c') →
      ∃ i c, ids[j]? = some i ∧ μ.l[i]? = some m ∧ h[i]? = some (.at rw c) ∧ c'.esz = c.esz ∧ ∀ p x, c'.get? p = some x → ∃ y, c.get? p = some y ∧ y.ren ids = some x := by
    intro j m rw c' h1 h2
    obtain ⟨i, hi, hb⟩ := optMap_inv e j _ h2
    obtain ⟨c, hh, hc⟩ := renAt_at hb
    have hlt : i < μ.l.length := by rw [r.len]; exact getElem?_lt hh
    have hm : (pick μ ids).l[j]? = some μ.l[i] := hsub.2 j i _ hi (List.getElem?_eq_getElem hlt)
    rw [hm] at h1
    cases h1
    exact ⟨i, c, hi, List.getElem?_eq_getElem hlt, hh, hc⟩
  refine ⟨by simp [pick, optMap_len e], ?_, ?_, ?_, ?_, ?_⟩
  · intro j m rw c' h1 h2 p x hx
    obtain ⟨i, c, hi, hm, hb, _, hc⟩ := key j m rw c' h1 h2
    obtain ⟨y, hy, hr⟩ := hc p x hx
    obtain ⟨cv, h3, h4⟩ := r.cell i m rw c hm hb p y hy
    exact ⟨cv, h3, h4.ren hsub hr⟩
  · intro j m c' h1 h2
    obtain ⟨i, c, hi, hm, hb, he, _⟩ := key j m true c' h1 h2
    rw [he]
    exact r.own i m c hm hb
  · intro j m rw c' h1 h2 hl
    obtain ⟨i, c, hi, hm, hb, _, hc⟩ := key j m rw c' h1 h2
    exact r.lt i m rw c hm hb (hl.imp id fun ⟨p, x, hx⟩ => (hc p x hx).elim fun y hy => ⟨p, y, hy.1⟩)
  · intro j j' m n c' rw d' hj h1 h2 h3 h4 hl
    obtain ⟨i, c, hi, hm, hb, _⟩ := key j m true c' h1 h3
    obtain ⟨i', d, hi', hm', hb', _, hc⟩ := key j' n rw d' h2 h4
    refine r.sep i i' m n c rw d ?_ hm hm' hb hb' (hl.imp id fun ⟨p, x, hx⟩ => (hc p x hx).elim fun y hy => ⟨p, y, hy.1⟩)
    intro e'
    subst e'
    have h5 := List.getElem?_eq_some_iff.1 hi
    have h6 := List.getElem?_eq_some_iff.1 hi'
    exact hj ((List.getElem_inj hn).1 (h5.2.trans h6.2.symm))
  · intro k cur hk
    obtain ⟨h1, h2⟩ := r.fz k cur hk
    refine ⟨h1, fun j m c' h3 h4 => ?_⟩
    obtain ⟨i, c, hi, hm, hb, _⟩ := key j m true c' h3 h4
    exact h2 i m c hm hb

/-- What may be written there may be written here. -/
theorem Wr.sub {μ : Mu} {h g : H} {w : World} {ids : List Nat} (r : Rel μ h w) (e : subH h ids = some g) {k : Nat} (hk : Wr (pick μ ids) g k) :
    ∃ (j i : Nat) (m : M) (c : C), ids[j]? = some i ∧ μ.l[i]? = some m ∧ h[i]? = some (.at true c) ∧ m.blk = k := by
  obtain ⟨j, m, c', h1, h2, rfl⟩ := hk
  obtain ⟨i, hi, hb⟩ := optMap_inv e j _ h2
  obtain ⟨c, hh, _⟩ := renAt_at hb
  have hlt : i < μ.l.length := by rw [r.len]; exact getElem?_lt hh
  have hm : (pick μ ids).l[j]? = some μ.l[i] := (pick_sub μ ids).2 j i _ hi (List.getElem?_eq_getElem hlt)
  rw [hm] at h1
  cases h1
  exact ⟨j, i, _, c, hi, List.getElem?_eq_getElem hlt, hh, rfl⟩

/-! ### Laid back -/
theorem layBack_len (f : Nat → Nat) : ∀ (ids : List Nat) (h g : H), ids.length ≤ g.length → (layBack f h ids g).length = h.length + (g.length - ids.length)
  | [], h, g, _ => by simp [layBack]
  | i :: ids, h, b :: g, e => by
    simp only [layBack]
    rw [layBack_len f ids _ g (by simpa using e)]
    simp
  | _ :: _, h, [], e => by simp at e

/-- A block of the old heap that is none of 'ids' stays; one that is the j-th of them is the j-th one of the new heap; those behind are the rest. -/
theorem layBack_get (f : Nat → Nat) : ∀ (ids : List Nat) (h g : H), ids.Nodup → ids.length ≤ g.length → (∀ i ∈ ids, i < h.length) →
    (∀ i, i < h.length → i ∉ ids → (layBack f h ids g)[i]? = h[i]?) ∧
    (∀ (j i : Nat), ids[j]? = some i → (layBack f h ids g)[i]? = (g[j]?).map (B.up f)) ∧
    (∀ j, (layBack f h ids g)[h.length + j]? = (g[ids.length + j]?).map (B.up f))
  | [], h, g, _, _, _ => by
    refine ⟨fun i hi _ => by simp [layBack, List.getElem?_append_left hi], fun j i hj => by simp at hj, fun j => ?_⟩
    simp [layBack, List.getElem?_append_right]
  | i :: ids, h, b :: g, hn, hl, hin => by
    have hn' := List.nodup_cons.1 hn
    have ih := layBack_get f ids (h.set i (b.up f)) g hn'.2 (by simpa using hl) (fun k hk => by simpa using hin k (List.mem_cons_of_mem _ hk))
    have hi : i < h.length := hin i (List.mem_cons_self ..)
    refine ⟨fun k hk hnot => ?_, fun j k hj => ?_, fun j => ?_⟩
    · have h1 := ih.1 k (by simpa using hk) (fun hm => hnot (List.mem_cons_of_mem _ hm))
      simp only [layBack, h1]
      rw [List.getElem?_set_ne (fun e => hnot (by rw [e]; exact List.mem_cons_self ..))]
    · cases j with
      | zero =>
        simp at hj
        subst hj
        have h1 := ih.1 i (by simpa using hi) hn'.1
        simp only [layBack, h1]
        simp [hi]
      | succ j =>
        simp at hj
        have h1 := ih.2.1 j k hj
        simp only [layBack, h1]
        simp
    · have h1 := ih.2.2 j
      simp only [List.length_set] at h1
      simp only [layBack, h1, List.length_cons]
      have : ids.length + 1 + j = (ids.length + j) + 1 := by omega
      rw [this]
      simp
  | _ :: _, h, [], _, e, _ => by simp at e

theorem B.up_at {f : Nat → Nat} {b : B} {rw : Bool} {c' : C} (e : b.up f = .at rw c') : ∃ c, b = .at rw c ∧ c'.esz = c.esz ∧ ∀ j x, c'.get? j = some x → ∃ y, c.get? j = some y ∧ x = y.up f := by
  cases b with
  | gone => cases e
  | «at» rw' c =>
    cases c with
    | as ee l =>
      simp only [B.up] at e
      cases e
      refine ⟨_, rfl, rfl, fun j x hx => ?_⟩
      rw [C.get?_as] at hx
      simp only [List.getElem?_map, Option.map_eq_some_iff] at hx
      obtain ⟨y, hy, rfl⟩ := hx
      exact ⟨y, by rw [C.get?_as]; exact hy, rfl⟩
    | _ =>
      simp only [B.up] at e
      cases e
      refine ⟨_, rfl, rfl, fun j x hx => ⟨x, hx, ?_⟩⟩
      have := C.get?_plain (by simp) hx
      cases x <;> first | rfl | simp [A.ids] at this

/-- THE RETURN: what a called function did to the blocks that it was given, and made, laid back. -/
theorem Rel.laid {μ : Mu} {z' : Nat → Option (Array Value)} {ν : List M} {h g g' : H} {w w' : World} {ids : List Nat} (r : Rel μ h w) (hn : ids.Nodup) (e : subH h ids = some g)
    (hν : ((pick μ ids).l ++ ν).length = g'.length) (r' : Rel ⟨z', (pick μ ids).l ++ ν⟩ g' w') (f : Fr (Wr (pick μ ids) g) w w')
    (hnew : ∀ (i : Nat) (m : M) (rw : Bool) (c : C), ids.length ≤ i → ((pick μ ids).l ++ ν)[i]? = some m → g'[i]? = some (.at rw c) → rw = true ∧ (Wr (pick μ ids) g m.blk ∨ w.heap.size ≤ m.blk))
    (hold : ∀ (j : Nat) (rw : Bool) (c : C), j < ids.length → g'[j]? = some (.at rw c) → ∃ d, g[j]? = some (.at rw d) ∧ (c.live rw → d.live rw)) (hzl : Zle μ.z z')
    (hz : ∀ (k : Nat) (cur : Array Value), z' k = some cur → μ.z k = some cur ∨ Wr (pick μ ids) g k ∨ w.heap.size ≤ k) :
    Rel ⟨z', μ.l ++ ν⟩ (layBack (back ids h.length) h ids g') w' ∧ Tells (back ids h.length) ⟨z', (pick μ ids).l ++ ν⟩ ⟨z', μ.l ++ ν⟩ := by
  have hpl : (pick μ ids).l.length = ids.length := by simp [pick]
  have hgl : g.length = ids.length := optMap_len e
  have hidlt : ∀ i ∈ ids, i < h.length := by
    intro i hi
    obtain ⟨j, hj⟩ := List.getElem?_of_mem hi
    obtain ⟨y, hy, _⟩ := optMap_get e j i hj
    exact renAt_lt hy
  have hlen' : ids.length ≤ g'.length := by rw [← hν]; simp [hpl]
  obtain ⟨L1, L2, L3⟩ := layBack_get (back ids h.length) ids h g' hn hlen' hidlt
  have hμ : μ.l.length = h.length := r.len
  -- numbers
  have tells : Tells (back ids h.length) ⟨z', (pick μ ids).l ++ ν⟩ ⟨z', μ.l ++ ν⟩ := by
    refine ⟨.refl _, fun j m hj => ?_⟩
    unfold back
    by_cases hlt : j < ids.length
    · rw [List.getElem?_append_left (by omega)] at hj
      have hi : ids[j]? = some ids[j] := List.getElem?_eq_getElem hlt
      rw [hi]
      simp only
      have hm : ids[j] < μ.l.length := by rw [hμ]; exact hidlt _ (List.getElem_mem hlt)
      have := (pick_sub μ ids).2 j _ _ hi (List.getElem?_eq_getElem hm)
      rw [this] at hj
      cases hj
      rw [List.getElem?_append_left hm]
      exact List.getElem?_eq_getElem hm
    · rw [List.getElem?_append_right (by omega), hpl] at hj
      have : ids[j]? = none := List.getElem?_eq_none (by omega)
      rw [this]
      simp only
      rw [List.getElem?_append_right (by omega), hμ, Nat.add_sub_cancel_left]
      exact hj
  refine ⟨?_, tells⟩
  -- each block of the new heap
  have cases3 : ∀ (i : Nat) (m : M) (rw : Bool) (c : C), (μ.l ++ ν)[i]? = some m → (layBack (back ids h.length) h ids g')[i]? = some (.at rw c) →
      (i < h.length ∧ i ∉ ids ∧ μ.l[i]? = some m ∧ h[i]? = some (.at rw c)) ∨
      (∃ j d, ((pick μ ids).l ++ ν)[j]? = some m ∧ g'[j]? = some (.at rw d) ∧ (c.esz = d.esz ∧ ∀ p x, c.get? p = some x → ∃ y, d.get? p = some y ∧ x = y.up (back ids h.length)) ∧
        ((j < ids.length ∧ ids[j]? = some i) ∨ (ids.length ≤ j ∧ i = h.length + (j - ids.length)))) := by
    intro i m rw c h1 h2
    by_cases hi : i < h.length
    · rw [List.getElem?_append_left (by omega)] at h1
      by_cases hm : i ∈ ids
      · right
        obtain ⟨j, hj⟩ := List.getElem?_of_mem hm
        rw [L2 j i hj] at h2
        simp only [Option.map_eq_some_iff] at h2
        obtain ⟨b, hb, hb'⟩ := h2
        obtain ⟨d, rfl, hd⟩ := B.up_at hb'
        refine ⟨j, d, ?_, hb, hd, .inl ⟨getElem?_lt hj, hj⟩⟩
        rw [List.getElem?_append_left (by rw [hpl]; exact getElem?_lt hj)]
        exact (pick_sub μ ids).2 j i m hj h1
      · rw [L1 i hi hm] at h2
        exact .inl ⟨hi, hm, h1, h2⟩
    · right
      obtain ⟨j, rfl⟩ : ∃ j, i = h.length + j := ⟨i - h.length, by omega⟩
      rw [L3 j] at h2
      simp only [Option.map_eq_some_iff] at h2
      obtain ⟨b, hb, hb'⟩ := h2
      obtain ⟨d, rfl, hd⟩ := B.up_at hb'
      refine ⟨ids.length + j, d, ?_, hb, hd, .inr ⟨by omega, by omega⟩⟩
      rw [List.getElem?_append_right (by omega), hμ, Nat.add_sub_cancel_left] at h1
      rw [List.getElem?_append_right (by omega), hpl, Nat.add_sub_cancel_left]
      exact h1
  -- an old block that was not given is not one that was written
  have apart : ∀ (i : Nat) (m : M) (rw : Bool) (c : C), i ∉ ids → μ.l[i]? = some m → h[i]? = some (.at rw c) → c.live rw → ¬ Wr (pick μ ids) g m.blk := by
    intro i m rw c hi hm hb hl hw
    obtain ⟨j, i', m', c', hj, hm', hb', hk⟩ := Wr.sub r e hw
    exact r.sep i' i m' m c' rw c (fun e' => hi (e' ▸ List.mem_of_getElem? hj)) hm' hm hb' hb hl hk
  refine ⟨by rw [layBack_len _ _ _ _ hlen']; rw [← hν]; simp [hpl, hμ], ?_, ?_, ?_, ?_, ?_⟩
  · intro i m rw c h1 h2 p x hx
    rcases cases3 i m rw c h1 h2 with ⟨_, hm, h3, h4⟩ | ⟨j, d, h3, h4, h5, _⟩
    · obtain ⟨cv, h6, h7⟩ := r.cell i m rw c h3 h4 p x hx
      exact ⟨cv, (cell_of_block (f.block m.blk (r.lt i m rw c h3 h4 (.inr ⟨p, x, hx⟩)) (apart i m rw c hm h3 h4 (.inr ⟨p, x, hx⟩)))).trans h6, h7.pre (μ' := ⟨z', μ.l ++ ν⟩) ⟨hzl, ν, rfl⟩⟩
    · obtain ⟨y, h6, rfl⟩ := h5.2 p x hx
      obtain ⟨cv, h7, h8⟩ := r'.cell j m rw d h3 h4 p y h6
      exact ⟨cv, h7, h8.up tells⟩
  · intro i m c h1 h2
    rcases cases3 i m true c h1 h2 with ⟨_, hm, h3, h4⟩ | ⟨j, d, h3, h4, hes, _⟩
    · obtain ⟨h5, h6, h9, cur, h7, h8⟩ := r.own i m c h3 h4
      exact ⟨h5, h6, h9, cur, (f.block m.blk (r.lt i m _ c h3 h4 (.inl rfl)) (apart i m _ c hm h3 h4 (.inl rfl))).trans h7, h8⟩
    · rw [hes.1]; exact r'.own j m d h3 h4
  · intro i m rw c h1 h2 hl
    rcases cases3 i m rw c h1 h2 with ⟨_, hm, h3, h4⟩ | ⟨j, d, h3, h4, h5, _⟩
    · exact Nat.lt_of_lt_of_le (r.lt i m rw c h3 h4 hl) f.size
    · exact r'.lt j m rw d h3 h4 (hl.imp id fun ⟨p, x, hx⟩ => (h5.2 p x hx).elim fun y hy => ⟨p, y, hy.1⟩)
  · intro i i' m n c rw d hne h1 h2 h3 h4 hl
    -- a written block of the new heap: where its model's block lies
    have where_ : ∀ (j : Nat) (m : M) (c : C), ((pick μ ids).l ++ ν)[j]? = some m → g'[j]? = some (.at true c) → Wr (pick μ ids) g m.blk ∨ w.heap.size ≤ m.blk := by
      intro j m c hj hb
      by_cases hlt : j < ids.length
      · obtain ⟨d, hd, _⟩ := hold j true c hlt hb
        rw [List.getElem?_append_left (by omega)] at hj
        exact .inl ⟨j, m, d, hj, hd, rfl⟩
      · exact (hnew j m true c (by omega) hj hb).2
    rcases cases3 i m true c h1 h3 with ⟨_, hm, a1, a2⟩ | ⟨j, c', a1, a2, _, aj⟩
    · rcases cases3 i' n rw d h2 h4 with ⟨_, hm', b1, b2⟩ | ⟨j', d', b1, b2, b5, bj⟩
      · exact r.sep i i' m n c rw d hne a1 b1 a2 b2 hl
      · -- m an old block, n one of the called function's
        rcases bj with ⟨hlt, hj'⟩ | ⟨hge, _⟩
        · rw [List.getElem?_append_left (by omega)] at b1
          have hi' := getElem?_lt hj'
          have hμi : i' < μ.l.length := by rw [hμ]; exact hidlt i' (List.mem_of_getElem? hj')
          have hp := (pick_sub μ ids).2 j' i' _ hj' (List.getElem?_eq_getElem hμi)
          rw [hp] at b1
          cases b1
          obtain ⟨y, hy, hy'⟩ := optMap_get e j' i' hj'
          obtain ⟨d2, hd2, hl2⟩ := hold j' rw d' hlt b2
          rw [hd2] at hy'
          cases hy'
          obtain ⟨c2, hh, _, hc2⟩ := renAt_at hy
          have hl3 := hl2 (hl.imp id fun ⟨p, x, hx⟩ => (b5.2 p x hx).elim fun y hy => ⟨p, y, hy.1⟩)
          exact r.sep i i' m _ c rw c2 hne a1 (List.getElem?_eq_getElem hμi) a2 hh (hl3.imp id fun ⟨p, x, hx⟩ => (hc2 p x hx).elim fun y hy => ⟨p, y, hy.1⟩)
        · have h5 := (hnew j' n rw d' hge b1 b2).2
          rcases h5 with h5 | h5
          · intro e'
            rw [← e'] at h5
            exact apart i m true c hm a1 a2 (.inl rfl) h5
          · have := r.lt i m true c a1 a2 (.inl rfl)
            omega
    · rcases cases3 i' n rw d h2 h4 with ⟨_, hm', b1, b2⟩ | ⟨j', d', b1, b2, b5, bj⟩
      · rcases where_ j m c' a1 a2 with h5 | h5
        · intro e'
          rw [e'] at h5
          exact apart i' n rw d hm' b1 b2 hl h5
        · have := r.lt i' n rw d b1 b2 hl
          omega
      · refine r'.sep j j' m n c' rw d' ?_ a1 b1 a2 b2 (hl.imp id fun ⟨p, x, hx⟩ => (b5.2 p x hx).elim fun y hy => ⟨p, y, hy.1⟩)
        intro e'
        subst e'
        rcases aj with ⟨x1, x2⟩ | ⟨x1, x2⟩ <;> rcases bj with ⟨y1, y2⟩ | ⟨y1, y2⟩
        · rw [x2] at y2; cases y2; exact hne rfl
        · omega
        · omega
        · omega
  · intro k cur hk
    obtain ⟨h1, h2⟩ := r'.fz k cur hk
    refine ⟨h1, fun i m c h3 h4 => ?_⟩
    rcases cases3 i m true c h3 h4 with ⟨_, hm, a1, a2⟩ | ⟨j, d, a1, a2, _, _⟩
    · rcases hz k cur hk with h5 | h5 | h5
      · exact (r.fz k cur h5).2 i m c a1 a2
      · intro e'
        rw [← e'] at h5
        exact apart i m true c hm a1 a2 (.inl rfl) h5
      · have := r.lt i m true c a1 a2 (.inl rfl)
        omega
    · exact h2 j m d a1 a2

end Go.Proofs.Ytlopdogjdfeikaa.Ab
