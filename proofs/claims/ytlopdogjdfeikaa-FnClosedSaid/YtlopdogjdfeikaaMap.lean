/- A map that a function makes for itself, from pairs of whole numbers to whole numbers: a block whose entries are told; code runs beside it. Only lemmas. -/
import Derived.Test.YtlopdogjdfeikaaAbEnd
namespace Go.Proofs.Ytlopdogjdfeikaa.Ab
set_option linter.unusedVariables false
set_option linter.unusedSimpArgs false
open Go

abbrev ML := List ((Int × Int) × Int)
def lookL : ML → Int × Int → Int
  | [], _ => 0
  | (k, v) :: l, q => if k = q then v else lookL l q
def putL : ML → Int × Int → Int → ML
  | [], q, v => [(q, v)]
  | (k, x) :: l, q, v => if k = q then (k, v) :: l else (k, x) :: putL l q v
def keyV (q : Int × Int) : Value := .agg #[.int .i64 q.1, .int .i64 q.2]
def mkE : Nat → ML → List MapEntry
  | _, [] => []
  | n, (q, v) :: l => { key := keyV q, val := .int .i64 v, born := n } :: mkE (n + 1) l
def mapObj (L : ML) : Obj := .map (mkE 0 L).toArray L.length

/-- The maps as blocks that are gone. -/
def B.hide : B → B
  | .at false (.mp _) => .gone
  | b => b
def hide (h : H) : H := h.map B.hide
def B.show : B → B → B
  | .at false (.mp l), _ => .at false (.mp l)
  | _, b => b.hide
def unhide : H → H → H
  | b :: h, c :: h' => B.show b c :: unhide h h'
  | [], h' => hide h'
  | _ :: _, [] => []
theorem B.hide_at {b : B} {rw : Bool} {c : C} (h : b.hide = .at rw c) : b = .at rw c := by
  unfold B.hide at h
  split at h
  · cases h
  · exact h
theorem B.hide_mp {b : B} {L : ML} : b.hide ≠ .at false (.mp L) := by
  intro h
  have := B.hide_at h
  subst this
  cases h
theorem hide_len (h : H) : (hide h).length = h.length := by simp [hide]
theorem hide_at {h : H} {i : Nat} {rw : Bool} {c : C} (e : (hide h)[i]? = some (.at rw c)) : h[i]? = some (.at rw c) := by
  unfold hide at e
  rw [List.getElem?_map, Option.map_eq_some_iff] at e
  obtain ⟨b, h1, h2⟩ := e
  rw [h1, B.hide_at h2]
theorem at_hide {h : H} {i : Nat} {c : C} (e : h[i]? = some (.at true c)) : (hide h)[i]? = some (.at true c) := by
  unfold hide
  rw [List.getElem?_map, e]
  rfl

/-- One heap is as another, but for the maps. -/
structure Like (h h' : H) : Prop where
  len : h'.length = h.length
  at_ : ∀ (i : Nat) (rw : Bool) (c : C), h'[i]? = some (.at rw c) → ∃ d, h[i]? = some (.at rw d) ∧ d.esz = c.esz ∧ (rw = true → d = c) ∧ ∀ j, c.get? j = d.get? j
theorem Like.live {rw : Bool} {c d : C} (h : ∀ j, c.get? j = d.get? j) (l : c.live rw) : d.live rw := by
  rcases l with l | ⟨p, x, hx⟩
  · exact .inl l
  · exact .inr ⟨p, x, by rw [← h]; exact hx⟩
theorem Rel.like {μ : Mu} {h h' : H} {w : World} (r : Rel μ h w) (l : Like h h') : Rel μ h' w where
  len := r.len.trans l.len.symm
  cell i m rw c hm hb j x hx := by
    obtain ⟨d, h1, _, _, h3⟩ := l.at_ i rw c hb
    exact r.cell i m rw d hm h1 j x (by rw [← h3]; exact hx)
  own i m c hm hb := by
    obtain ⟨d, h1, _, h2, _⟩ := l.at_ i true c hb
    rw [h2 rfl] at h1
    exact r.own i m c hm h1
  lt i m rw c hm hb hl := by
    obtain ⟨d, h1, _, _, h3⟩ := l.at_ i rw c hb
    exact r.lt i m rw d hm h1 (Like.live h3 hl)
  sep i j m n c rw d hij hm hn hb hd hl := by
    obtain ⟨c', h1, _, h2, _⟩ := l.at_ i true c hb
    obtain ⟨d', h4, _, _, h5⟩ := l.at_ j rw d hd
    exact r.sep i j m n c' rw d' hij hm hn h1 h4 (Like.live h5 hl)
  fz k cur hk := ⟨(r.fz k cur hk).1, fun i m c hm hb => by
    obtain ⟨d, h1, _, h2, _⟩ := l.at_ i true c hb
    exact (r.fz k cur hk).2 i m d hm h1⟩
theorem Ev.like {μ μ' : Mu} {h h' h2 : H} {w w' : World} (e : Ev μ h w μ' h' w') (l : Like h' h2) : Ev μ h w μ' h2 w' where
  rel := e.rel.like l
  pre := e.pre
  fr := e.fr
  old j rw c hj hb := by
    obtain ⟨d, h1, _, _, h3⟩ := l.at_ j rw c hb
    obtain ⟨d', h4, h5⟩ := e.old j rw d hj h1
    exact ⟨d', h4, fun h => h5 (Like.live h3 h)⟩
  new i m rw c hi hm hb := by
    obtain ⟨d, h1, _⟩ := l.at_ i rw c hb
    exact e.new i m rw d hi hm h1
  zn := e.zn
theorem unhide_len : ∀ h h' : H, (unhide h h').length = h'.length
  | [], h' => by unfold unhide; exact hide_len h'
  | _ :: _, [] => rfl
  | _ :: h, _ :: h' => by simp [unhide, unhide_len h h']
theorem unhide_at : ∀ (h h' : H) (i : Nat) (rw : Bool) (c : C), (hide (unhide h h'))[i]? = some (.at rw c) → h'[i]? = some (.at rw c)
  | [], h', i, rw, c, e => hide_at (hide_at e)
  | _ :: _, [], i, rw, c, e => by simp [unhide, hide] at e
  | b :: h, d :: h', i, rw, c, e => by
    cases i with
    | zero =>
      simp only [unhide, hide, List.map_cons, List.getElem?_cons_zero, Option.some.injEq] at e ⊢
      unfold B.show at e
      split at e
      · cases e
      · exact B.hide_at (B.hide_at e)
    | succ i =>
      simp only [unhide, hide, List.map_cons, List.getElem?_cons_succ] at e ⊢
      exact unhide_at h h' i rw c e
theorem unhide_like (h h' : H) : Like h' (hide (unhide h h')) := ⟨by rw [hide_len, unhide_len], fun i rw c e => ⟨c, unhide_at h h' i rw c e, rfl, fun _ => rfl, fun _ => rfl⟩⟩
theorem unhide_mp : ∀ (h h' : H) (i : Nat) (L : ML), (unhide h h')[i]? = some (.at false (.mp L)) → h[i]? = some (.at false (.mp L))
  | [], h', i, L, hb => by
    unfold unhide hide at hb
    rw [List.getElem?_map, Option.map_eq_some_iff] at hb
    obtain ⟨b, _, h2⟩ := hb
    exact absurd h2 B.hide_mp
  | _ :: _, [], i, L, hb => by simp [unhide] at hb
  | b :: h, c :: h', i, L, hb => by
    cases i with
    | zero =>
      simp only [unhide, List.getElem?_cons_zero, Option.some.injEq] at hb ⊢
      unfold B.show at hb
      split at hb
      · exact hb
      · exact absurd hb B.hide_mp
    | succ i =>
      simp only [unhide, List.getElem?_cons_succ] at hb ⊢
      exact unhide_mp h h' i L hb
theorem optMap_map {α β γ : Type} (f : α → Option β) (g : β → γ) : ∀ (l : List α) (m : List β), optMap f l = some m → optMap (fun x => (f x).map g) l = some (m.map g)
  | [], m, e => by cases e; rfl
  | x :: l, m, e => by
    obtain ⟨y, m', e1, e2, rfl⟩ := optMap_cons e
    simp only [optMap, e1, Option.map_some, optMap_map f g l m' e2, List.map_cons]
theorem hide_ren (ids : List Nat) (b c : B) (e : b.ren ids = some c) : b.hide.ren ids = some c.hide := by
  cases b with
  | gone => cases e; rfl
  | «at» rw d =>
    cases d with
    | «as» n l =>
      simp only [B.ren, Option.map_eq_some_iff] at e
      obtain ⟨m, h1, rfl⟩ := e
      cases rw <;> simp only [B.hide, B.ren, h1, Option.map_some]
    | mp l => cases e; cases rw <;> rfl
    | _ => cases e; cases rw <;> rfl
theorem subH_hide {h g : H} {ids : List Nat} (e : subH h ids = some g) : subH (hide h) ids = some (hide g) := by
  unfold subH at e ⊢
  have key : ∀ (l : List Nat) (m : H), optMap (renAt h ids) l = some m → optMap (renAt (hide h) ids) l = some (hide m) := by
    intro l
    induction l with
    | nil => intro m e; cases e; rfl
    | cons x l ih =>
      intro m e
      obtain ⟨y, m', e1, e2, rfl⟩ := optMap_cons e
      have h1 : renAt (hide h) ids x = some y.hide := by
        unfold renAt at e1 ⊢
        unfold hide
        rw [List.getElem?_map]
        cases hx : h[x]? with
        | none => rw [hx] at e1; cases e1
        | some b => rw [hx] at e1; exact hide_ren ids b y e1
      simp only [optMap, h1, ih m' e2]
      rfl
  exact key ids g e

/-- The maps lie in the world as the heap tells. -/
structure MapsAt (n0 : Nat) (μ : Mu) (h : H) (w : World) (i : Nat) (m : M) (L : ML) : Prop where
  obj : w.heap[m.blk]? = some (mapObj L)
  new : n0 ≤ m.blk
  sep : ∀ (j : Nat) (n : M) (c : C), μ.l[j]? = some n → h[j]? = some (.at true c) → n.blk ≠ m.blk
  z : μ.z m.blk = none
  one : ∀ (j : Nat) (n : M) (L' : ML), j ≠ i → μ.l[j]? = some n → h[j]? = some (.at false (.mp L')) → n.blk ≠ m.blk
structure InvM (μ0 : Mu) (h0 : H) (w0 : World) (μ : Mu) (st : St) (a : Act) (w : World) : Prop where
  inv : Inv μ0 h0 w0 μ ⟨st.t, hide st.h⟩ a w
  maps : ∀ (i : Nat) (m : M) (L : ML), μ.l[i]? = some m → st.h[i]? = some (.at false (.mp L)) → MapsAt w0.heap.size μ st.h w i m L

section
variable {P : Program} {R : Type} {r : R}

theorem tidyM_ok {μ0 : Mu} {h0 : H} {w0 : World} {keep : Option (List Nat)} {st : St} {K : St → Option R} (e : tidyK μ0.l.length keep st K = some r) :
    ∃ st', K st' = some r ∧ ∀ μ a w, InvM μ0 h0 w0 μ st a w → ∃ μ', InvM μ0 h0 w0 μ' st' a w := by
  unfold tidyK at e
  split at e
  · exact ⟨st, e, fun μ a w hi => ⟨μ, hi⟩⟩
  · rename_i l
    dsimp only at e
    generalize ht : mask l 0 st.t = t at e
    generalize hids : close st.h 3 ((t.flatMap V.ids).foldl addNew (List.range μ0.l.length)) = ids at e
    split at e
    · cases e
    · rename_i t' ht'
      split at e
      · cases e
      · rename_i h' hh'
        refine ⟨_, e, fun μ a w hi => ?_⟩
        have hn : ids.Nodup := by rw [← hids]; exact close_nodup _ 3 (foldAdd_nodup _ List.nodup_range)
        have hp : ∃ p, ids = List.range μ0.l.length ++ p := by
          obtain ⟨p, hp⟩ := foldAdd_pre (t.flatMap V.ids) (List.range μ0.l.length)
          obtain ⟨q, hq⟩ := close_pre st.h 3 ((t.flatMap V.ids).foldl addNew (List.range μ0.l.length))
          exact ⟨p ++ q, by rw [← hids, hq, hp, List.append_assoc]⟩
        obtain ⟨p, hp⟩ := hp
        obtain ⟨h1, h2⟩ := hi.inv.ev.pick hp hn (subH_hide hh')
        refine ⟨pick μ ids, ⟨⟨?_, fun i => ?_⟩, hi.inv.defers, h1⟩, fun i m L hm hb => ?_⟩
        · rw [hi.inv.slots.1, optMap_len ht', ← ht, mask_len]
        · refine nth_ren h2 ht' ?_
          rw [← ht]
          rcases mask_nth (keep := l) (t := st.t) (n := 0) (i := i) with h3 | h3
          · rw [h3]; exact hi.inv.slots.2 i
          · rw [h3]; trivial
        · -- a block of the new heap is one of the old one
          have back : ∀ (j : Nat) (n : M) (rw : Bool) (c : C), (pick μ ids).l[j]? = some n → h'[j]? = some (.at rw c) → ∃ i c', ids[j]? = some i ∧ μ.l[i]? = some n ∧ st.h[i]? = some (.at rw c') ∧ (∀ L, c = .mp L → c' = .mp L) := by
            intro j n rw c hn' hb'
            obtain ⟨i, hi', hb2⟩ := optMap_inv hh' j _ hb'
            obtain ⟨c', hc', _⟩ := renAt_at hb2
            have hlt : i < μ.l.length := by rw [hi.inv.ev.rel.len, hide_len]; exact getElem?_lt hc'
            have h3 : μ.l[i]? = some μ.l[i] := List.getElem?_eq_getElem hlt
            rw [h2.2 j i _ hi' h3] at hn'
            cases hn'
            refine ⟨i, c', hi', h3, hc', fun L e => ?_⟩
            subst e
            unfold renAt at hb2
            rw [hc'] at hb2
            cases c' with
            | «as» e l => simp only [B.ren, Option.map_eq_some_iff] at hb2; obtain ⟨_, _, hb3⟩ := hb2; cases hb3
            | _ => simp only [B.ren] at hb2; cases hb2 <;> rfl
          obtain ⟨i', c', hi1, hi2, hi3, hi4⟩ := back i m false _ hm hb
          have := hi4 L rfl
          subst this
          have hM := hi.maps i' m L hi2 hi3
          refine ⟨hM.obj, hM.new, fun j n c hn' hb' => ?_, ?_, fun j n L' hj hn' hb' => ?_⟩
          · obtain ⟨i2, c2, _, k2, k3, _⟩ := back j n true c hn' hb'
            exact hM.sep i2 n c2 k2 k3
          · exact hM.z
          · obtain ⟨i2, c2, k1, k2, k3, k4⟩ := back j n false _ hn' hb'
            have := k4 L' rfl
            subst this
            refine hM.one i2 n L' (fun e => hj ?_) k2 k3
            subst e
            have q1 := List.getElem?_eq_some_iff.1 k1
            have q2 := List.getElem?_eq_some_iff.1 hi1
            exact (List.getElem_inj hn).1 (q1.2.trans q2.2.symm)

/-- Code that leaves the maps alone has run. -/
theorem InvM.past {μ0 μ μ' : Mu} {h0 h' : H} {w0 w w' : World} {st : St} {a a' : Act} {t' : List V} (hi : InvM μ0 h0 w0 μ st a w)
    (hj : Inv μ (hide st.h) w μ' ⟨t', h'⟩ a' w') : InvM μ0 h0 w0 μ' ⟨t', unhide st.h h'⟩ a' w' := by
  have he : Ev μ0 h0 w0 μ' h' w' := hi.inv.ev.trans hj.ev
  refine ⟨⟨hj.slots, hj.defers, he.like (unhide_like st.h h')⟩, fun i m L hm hb => ?_⟩
  have hml : μ.l.length = st.h.length := by rw [hi.inv.ev.rel.len, hide_len]
  have mp_of : ∀ (j : Nat) (n : M) (L : ML), μ'.l[j]? = some n → (unhide st.h h')[j]? = some (.at false (.mp L)) → μ.l[j]? = some n ∧ st.h[j]? = some (.at false (.mp L)) := by
    intro j n L hn hb
    have k1 := unhide_mp st.h h' j L hb
    exact ⟨hj.ev.pre.back (by rw [hml]; exact getElem?_lt k1) hn, k1⟩
  obtain ⟨h1, h2⟩ := mp_of i m L hm hb
  have hM := hi.maps i m L h1 h2
  have hnw : ¬ Wr μ (hide st.h) m.blk := by
    rintro ⟨j, n, c, k1, k2, k3⟩
    exact hM.sep j n c k1 (hide_at k2) k3
  have hlt : m.blk < w.heap.size := heap_lt hM.obj
  have hblk := hj.ev.fr.block m.blk hlt hnw
  refine ⟨hblk.trans hM.obj, hM.new, fun j n c hn hc => ?_, ?_, fun j n L' hne hn hc => ?_⟩
  · have k1 := unhide_at st.h h' j true c (at_hide hc)
    intro e
    by_cases hjl : j < μ.l.length
    · obtain ⟨d', k4, _⟩ := hj.ev.old j true c hjl k1
      exact hM.sep j n d' (hj.ev.pre.back hjl hn) (hide_at k4) e
    · rcases (hj.ev.new j n true c (by omega) hn k1).2 with k | k
      · rw [e] at k; exact hnw k
      · omega
  · cases hz : μ'.z m.blk with
    | none => rfl
    | some cur =>
      exfalso
      rcases hj.ev.zn m.blk cur hz with k | k | k
      · rw [hM.z] at k; cases k
      · exact hnw k
      · omega
  · obtain ⟨k1, k2⟩ := mp_of j n L' hn hc
    exact hM.one j n L' hne k1 k2
end
end Go.Proofs.Ytlopdogjdfeikaa.Ab
