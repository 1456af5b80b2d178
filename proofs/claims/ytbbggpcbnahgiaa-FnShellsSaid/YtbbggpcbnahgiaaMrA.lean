/- Regions that touch a map. Only lemmas. Printed by gen_mapr.py. -/
import Derived.Test.YtbbggpcbnahgiaaMapO
namespace Go.Proofs.Ytbbggpcbnahgiaa.Ab
set_option linter.unusedVariables false
set_option linter.unusedSimpArgs false
open Go
def opsAt : Code → Nat → Option (Array Oper)
  | .region i ops _, id => if i = id then some ops else none
  | .seq a b, id => match opsAt a id with | some x => some x | none => opsAt b id
  | .cond _ a b, id => match opsAt a id with | some x => some x | none => opsAt b id
  | .block _ b, id => opsAt b id
  | .loop b, id => opsAt b id
  | _, _ => none
def bodyOf (fn : Func) : Code := fn.body.getD .skip
noncomputable def opsT (id : Nat) : Array Oper := (opsAt (bodyOf Try.f39) id).getD #[]
theorem mapTy : MapTy Try.prog 71 72 2 := by
  refine ⟨Try.underlying71, Try.underlying72, Try.underlying2, ?_, by kernel_rfl⟩
  exact ⟨(Try.prog.info? 2).get (by kernel_rfl), by kernel_rfl, by kernel_rfl, by kernel_rfl⟩
def anyA : List Nat → List V → List V
  | [], t => t
  | d :: ds, t => anyA ds (t.set d V.any)
theorem anyA_len : ∀ (ds : List Nat) (t : List V), (anyA ds t).length = t.length
  | [], t => rfl
  | d :: ds, t => by unfold anyA; rw [anyA_len]; simp
theorem anyA_nth : ∀ (ds : List Nat) (t : List V) (j : Nat), nth (anyA ds t) j = V.any ∨ ((j ∈ ds → t.length ≤ j) ∧ nth (anyA ds t) j = nth t j)
  | [], t, j => .inr ⟨by simp, rfl⟩
  | d :: ds, t, j => by
    unfold anyA
    rcases anyA_nth ds (t.set d V.any) j with h | ⟨h1, h2⟩
    · exact .inl h
    · rw [List.length_set] at h1
      rw [h2, nth_set]
      by_cases e : j = d
      · subst e
        by_cases hl : j < t.length
        · left; simp [hl]
        · right; exact ⟨fun _ => by omega, by simp [hl]⟩
      · right
        refine ⟨fun h => ?_, by simp [e]⟩
        rcases List.mem_cons.1 h with h | h
        · exact absurd h e
        · exact h1 h
theorem Slots.weak {μ : Mu} {t t' : List V} {a : Act} (h : Slots μ t a) (hl : t'.length = t.length) (hw : ∀ j, nth t' j = V.any ∨ nth t' j = nth t j) : Slots μ t' a := by
  refine ⟨h.1.trans hl.symm, fun j => ?_⟩
  rcases hw j with e | e
  · rw [e]; trivial
  · rw [e]; exact h.2 j
section
variable {P : Program} {ops : Array Oper} {Q : Exit → Act → World → Prop}
theorem wpOp_val {i : Nat} {o : Oper} {a : Act} {w w' : World} {v : Value} {K : Act → World → Prop} (hi : ops[i]? = some o) (hw : o.guard = none) (hr : (execOp a.eval o).run P w = .ok (.value v) w') (h : K (a.put o.dst v) w') : wpOp P ops Q i K a w := by
  unfold wpOp
  rw [hi]
  simp only
  rw [if_pos (by unfold Region.wanted; rw [hw])]
  left
  unfold Oper.wp
  rw [hr]
  exact h
theorem wpOp_skip {i : Nat} {o : Oper} {a : Act} {w w' : World} {K : Act → World → Prop} (hi : ops[i]? = some o) (hw : o.guard = none) (hd : o.dst = none) (hr : (execOp a.eval o).run P w = .ok .skip w') (h : K a w') : wpOp P ops Q i K a w := by
  unfold wpOp
  rw [hi]
  simp only
  rw [if_pos (by unfold Region.wanted; rw [hw])]
  left
  unfold Oper.wp
  rw [hr]
  show K (a.put o.dst undef) w'
  rw [hd]
  exact h
theorem wpList_val {o : Oper} {rest : List Oper} {a : Act} {w w' : World} {v : Value} (hw : o.guard = none) (hr : (execOp a.eval o).run P w = .ok (.value v) w') (h : wpList P ops Q rest (a.put o.dst v) w') : wpList P ops Q (o :: rest) a w := by
  unfold wpList
  rw [if_pos (by unfold Region.wanted; rw [hw])]
  left
  unfold Oper.wp
  rw [hr]
  exact h
end
theorem repMp {μ : Mu} {i : Nat} {cv : Value} (h : RepV μ (.mp i) cv) : ∃ m, μ.l[i]? = some m ∧ cv = .map (some m.blk) := h
theorem run_key (x y : Int) (w : World) : (Instr.build 72 #[(0, .int .i64 x), (1, .int .i64 y)]).run Try.prog w = .ok (keyV (x, y)) w := by
  obtain ⟨i, z, d, rt⟩ := row tyOk (t := 72) rfl
  obtain ⟨j, z2, d2, rI⟩ := row tyOk (t := 2) rfl
  have hz : z.cells = #[.int .i64 0, .int .i64 0] := by
    have := rt.rep ⟨noZ, []⟩
    apply Array.toList_inj.1
    generalize z.cells.toList = l at this
    match l, this with
    | [a, b], h =>
      have h1 : a = .int .i64 0 := h.1
      have h2 : b = .int .i64 0 := h.2.1
      subst h1; subst h2; rfl
  unfold Instr.build
  simp only [Sem.run_bind, rt.run_zero, Result.andThen_ok, run_underlying Try.underlying72, rI.run_sizeOf]
  rw [hz]
  rfl
/-- A map's block has been written. -/
theorem InvM.wrote {μ0 μ : Mu} {h0 : H} {w0 w : World} {st : St} {a a' : Act} {i : Nat} {m : M} {L L' : ML} {t' : List V} (hi : InvM μ0 h0 w0 μ st a w) (hm : μ.l[i]? = some m) (hb : st.h[i]? = some (.at false (.mp L)))
    (hs : Slots μ t' a') (hd : a'.defers = []) : InvM μ0 h0 w0 μ ⟨t', st.h.set i (.at false (.mp L'))⟩ a' (setB w m.blk (mapObj L')) := by
  have hM := hi.maps i m L hm hb
  have hil : i < st.h.length := getElem?_lt hb
  have hblt : m.blk < w.heap.size := heap_lt hM.obj
  have get : ∀ (j : Nat) (rw : Bool) (c : C), (st.h.set i (.at false (.mp L')))[j]? = some (.at rw c) → (j = i ∧ rw = false ∧ c = .mp L') ∨ (j ≠ i ∧ st.h[j]? = some (.at rw c)) := by
    intro j rw c h
    by_cases e : i = j
    · subst e
      rw [List.getElem?_set_self hil] at h
      cases h
      exact .inl ⟨rfl, rfl, rfl⟩
    · rw [List.getElem?_set_ne e] at h
      exact .inr ⟨fun h => e h.symm, h⟩
  have hl : hide (st.h.set i (.at false (.mp L'))) = hide st.h := by
    unfold hide
    rw [List.map_set]
    apply List.ext_getElem?
    intro j
    by_cases e : i = j
    · subst e
      rw [List.getElem?_set_self (by simpa using hil), List.getElem?_map, hb]
      rfl
    · rw [List.getElem?_set_ne e]
  have hfr : Fr (fun k => k = m.blk) w (setB w m.blk (mapObj L')) := ⟨rfl, rfl, rfl, by simp [setB], fun k hk hn => by
    show (w.heap.setIfInBounds m.blk _)[k]? = _
    rw [Array.getElem?_setIfInBounds_ne (fun e => hn e.symm)]⟩
  have hobj : (setB w m.blk (mapObj L')).heap[m.blk]? = some (mapObj L') := by
    show (w.heap.setIfInBounds m.blk _)[m.blk]? = _
    rw [Array.getElem?_setIfInBounds_self_of_lt hblt]
  have hrel : Rel μ (hide st.h) (setB w m.blk (mapObj L')) := by
    have r := hi.inv.ev.rel
    refine ⟨r.len, fun j n rw c hn hc p x hx => ?_, fun j n c hn hc => ?_, fun j n rw c hn hc hlv => Nat.lt_of_lt_of_le (r.lt j n rw c hn hc hlv) hfr.size, r.sep, fun k cur hk => ?_⟩
    · obtain ⟨cv, k1, k2⟩ := r.cell j n rw c hn hc p x hx
      refine ⟨cv, ?_, k2⟩
      have hne : n.blk ≠ m.blk := by
        intro e
        simp only [World.cell?] at k1
        rw [e, hM.obj] at k1
        simp [mapObj] at k1
      rw [cell_of_block (hfr.block n.blk (r.lt j n rw c hn hc (.inr ⟨p, x, hx⟩)) hne)]
      exact k1
    · obtain ⟨k1, k2, k3, cur, k4, k5⟩ := r.own j n c hn hc
      exact ⟨k1, k2, k3, cur, (hfr.block n.blk (heap_lt k4) (hM.sep j n c hn (hide_at hc))).trans k4, k5⟩
    · obtain ⟨⟨el, k1⟩, k2⟩ := r.fz k cur hk
      have hne : k ≠ m.blk := by intro e; subst e; rw [hM.z] at hk; cases hk
      exact ⟨⟨el, (hfr.block k (heap_lt k1) hne).trans k1⟩, k2⟩
  have hev : Ev μ0 h0 w0 μ (hide st.h) (setB w m.blk (mapObj L')) := by
    have e := hi.inv.ev
    exact ⟨hrel, e.pre, e.fr.trans hfr (fun k hk => .inr (by rw [hk]; exact hM.new)), e.old, e.new, e.zn⟩
  refine ⟨⟨hs, hd, by show Ev μ0 h0 w0 μ (hide (st.h.set i (.at false (.mp L')))) _; rw [hl]; exact hev⟩, fun j n L2 hn hc => ?_⟩
  rcases get j false _ hc with ⟨rfl, _, e⟩ | ⟨hj, hc⟩
  · cases e
    rw [hm] at hn
    cases hn
    refine ⟨hobj, hM.new, fun k n c hn hc => ?_, hM.z, fun k n L2 hk hn hc => ?_⟩
    · rcases get k true c hc with ⟨_, e, _⟩ | ⟨_, hc⟩
      · cases e
      · exact hM.sep k n c hn hc
    · rcases get k false _ hc with ⟨e, _, _⟩ | ⟨_, hc⟩
      · exact absurd e hk
      · exact hM.one k n L2 hk hn hc
  · have hN := hi.maps j n L2 hn hc
    have hne : n.blk ≠ m.blk := hM.one j n L2 hj hn hc
    refine ⟨(hfr.block n.blk (heap_lt hN.obj) hne).trans hN.obj, hN.new, fun k n' c hn' hc' => ?_, hN.z, fun k n' L3 hk hn' hc' => ?_⟩
    · rcases get k true c hc' with ⟨_, e, _⟩ | ⟨_, hc'⟩
      · cases e
      · exact hN.sep k n' c hn' hc'
    · rcases get k false _ hc' with ⟨e, _, _⟩ | ⟨_, hc'⟩
      · subst e
        rw [hm] at hn'
        cases hn'
        exact fun e => hne e.symm
      · exact hN.one k n' L3 hk hn' hc'
end Go.Proofs.Ytbbggpcbnahgiaa.Ab
